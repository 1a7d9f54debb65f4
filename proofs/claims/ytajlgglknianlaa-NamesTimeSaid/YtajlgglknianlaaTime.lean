/- 'NamesTime': for every input the law returns true; nothing that was there is written. No condition. -/
import Derived.Test.YtajlgglknianlaaBase
namespace Go.Proofs.Ytajlgglknianlaa
open Sv Go.ChangeShapes Go.WideShapes Go.ChangeAt Go.RowKit Go.Deep
set_option linter.unusedVariables false
set_option linter.unusedSimpArgs false

theorem u16b {a : Int} (h : (Lit.int .u16 a).wf = true) : 0 ≤ a ∧ a ≤ 65535 := by
  have := bounds_u16 h; omega
def adr (b : Int) : List Int := [b, 0, 0, 0, 0, 0, 0, 0, 0, 0, 0, 0, 0, 0, 0, 0]
theorem adr_is {b : Int} (h : 0 ≤ b ∧ b ≤ 255) : IsAddr (adr b) := ⟨rfl, fun x hx => by
  simp only [adr, List.mem_cons, List.not_mem_nil, or_false] at hx
  rcases hx with rfl | rfl | rfl | rfl | rfl | rfl | rfl | rfl | rfl | rfl | rfl | rfl | rfl | rfl | rfl | rfl <;> omega⟩
/-- The servers after j were told. -/
def esT (ls : List Int) : Nat → List Sv.E
  | 0 => []
  | j + 1 => if (ls[j]?.getD 0) = 0 then esT ls j else esT ls j ++ [(adr ((j : Int) + 1), 1000 * ls[j]?.getD 0)]
theorem esT_len (ls : List Int) : ∀ j, (esT ls j).length ≤ j
  | 0 => Nat.le_refl _
  | j + 1 => by
    have := esT_len ls j
    rw [esT]
    split
    · omega
    · rw [List.length_append]; simp; omega
theorem esT_mem (ls : List Int) : ∀ (j : Nat) (e : Sv.E), e ∈ esT ls j → ∃ k : Nat, k < j ∧ e.1 = adr ((k : Int) + 1)
  | 0, e, h => by simp [esT] at h
  | j + 1, e, h => by
    rw [esT] at h
    split at h
    · obtain ⟨k, hk, he⟩ := esT_mem ls j e h
      exact ⟨k, by omega, he⟩
    · rcases List.mem_append.1 h with h | h
      · obtain ⟨k, hk, he⟩ := esT_mem ls j e h
        exact ⟨k, by omega, he⟩
      · rw [List.mem_singleton.1 h]
        exact ⟨j, by omega, rfl⟩
theorem esT_new (ls : List Int) (j : Nat) : idx (fun e => sameT e.1 (adr ((j : Int) + 1))) (esT ls j) = -1 := by
  apply idx_none
  rw [List.any_eq_false]
  intro e he
  obtain ⟨k, hk, h1⟩ := esT_mem ls j e he
  rw [h1]
  simp only [sameT, adr, beq_iff_eq, List.cons.injEq, and_true]
  omega
theorem esT_put {ls : List Int} {j : Nat} {x : Int} (hx : ls[j]? = some x) (h0 : 0 ≤ x) (h1 : x ≤ 65535) (hj : j < 4) : putAll sameT (cadd 0 (csecs x)) x (esT ls j) [adr ((j : Int) + 1)] = esT ls (j + 1) := by
  have ht : cadd 0 (csecs x) = 1000 * x := by unfold cadd csecs; rw [if_pos (by omega), if_pos (by omega)]; omega
  rw [ht]
  show putOne sameT (1000 * x) x (esT ls j) (adr ((j : Int) + 1)) = _
  rw [esT, hx]
  dsimp only [Option.getD_some]
  by_cases hz : x = 0
  · rw [if_pos hz, putOne_none (esT_new ls j) hz]
  · rw [if_neg hz, putOne_new (esT_new ls j) hz (by have := esT_len ls j; omega)]
theorem esT_left {ls : List Int} {j : Nat} {x : Int} (hx : ls[j]? = some x) (now : Int) (hn : 0 ≤ now) : ((ticked now (esT ls (j + 1))).length : Int) = (ticked now (esT ls j)).length + if now < 1000 * x then 1 else 0 := by
  rw [esT, hx]
  dsimp only [Option.getD_some]
  by_cases hz : x = 0
  · rw [if_pos hz, if_neg (by omega)]; omega
  · rw [if_neg hz, ticked, left, List.filter_append, List.length_append]
    by_cases hlt : now < 1000 * x
    · rw [if_pos hlt]
      simp only [List.filter_cons, List.filter_nil, decide_eq_false (show ¬ 1000 * x ≤ now by omega)]
      simp
    · rw [if_neg hlt]
      simp only [List.filter_cons, List.filter_nil, decide_eq_true (show 1000 * x ≤ now by omega)]
      simp
theorem next_gt {us : List Int} {now : Int} (h : ∀ u ∈ us, now < u) (hn : now < 9223372036854775807) : now < nextOf us := by
  suffices ∀ (us : List Int) (a : Int), (∀ u ∈ us, now < u) → now < a → now < us.foldl min a from this us _ h hn
  intro us
  induction us with
  | nil => intro a _ ha; exact ha
  | cons u us ih => intro a h ha; exact ih _ (fun x hx => h x (by simp [hx])) (by have := h u (by simp); omega)
theorem slAddr : SlTy Try.prog 32 31 16 16 := .mk_ (z := .agg (bytesV (List.replicate 16 0))) Try.underlying32 (by kernel_rfl) rfl (by omega)
theorem one_list (x : List Int) : (flatOf (fun x : List Int => x.map (Value.int .u8)) [x]).toArray = bytesV x := by simp [flatOf, bytesV]

set_option maxRecDepth 100000 in
set_option maxHeartbeats 2000000 in
theorem walkNamesTime (a0 : Option Addr) (n0 c0 : Nat) (z0 : List Int) (a1 : Int) (w : World) (r0 : Rd w w.heap.size 1 a0 n0 c0 (z0.map (Value.int .u16))) (y0 : c0 * Try.prog.bytesOf 29 ≤ reachBytes) (w0 : ∀ y ∈ z0, (Lit.int .u16 y).wf = true) (w1 : (Lit.int .u32 a1).wf = true) :
    Calls Try.prog 3 #[.slice a0 n0 c0, .int .u32 a1] w fun e w' => e = .returned (.bool true) ∧ Below w.heap.size w w' := by
  obtain ⟨b1, d1⟩ := u32b w1
  have hl := r0.len
  rw [List.length_map, Nat.mul_one] at hl
  have hr := hidd r0
  have hw := hidd w0
  clear y0 w1 w0
  by_cases hbig : 4 < n0
  · clear r0
    go_enter Try.func3, Try.ntmps3
    go_wp2_with (go_at_call 7; refine (lives_any _).mono ?_; rintro e w' ⟨rfl, hbel⟩)
    go_ret
    exact ⟨rfl, hbel⟩
  · have hd : ¬ (4 : Int) < (n0 : Int) := by omega
    clear r0
    go_enter Try.func3, Try.ntmps3
    go_wp2_with (go_at_call 8
                 refine (new_any w).mono ?_
                 rintro e V1 ⟨rfl, k1, b1'⟩
                 have K1 := hidd k1
                 have B1 := hidd b1'
                 clear k1 b1')
    obtain ⟨B, hB⟩ : ∃ B, w.heap.size = B := ⟨_, rfl⟩
    rw [hB] at K1 B1 ⊢
    go_loopw [6, 7] (fun l i wr => ∃ (j : Nat) (v : Value), j ≤ n0 ∧ i = .int .i64 j ∧ l = .int .i64 (ticked a1 (esT z0 j)).length ∧ Bk wr B v (.slice none 0 0) (esT z0 j) [] ∧ Below B w wr) (fun _ i _ => n0 - (intOf i).toNat)
    case atStart => exact ⟨0, _, by omega, rfl, rfl, K1.out, B1.out⟩
    case round =>
      obtain ⟨j, v, hj, rfl, rfl, hk, hb⟩ := hrel
      clear K1 B1
      have hk' := hidd hk
      have hb' := hidd hb
      have hBw := hk.lt
      clear hk hb
      by_cases hjn : j < n0
      · obtain ⟨x, hx⟩ : ∃ x, z0[j]? = some x := ⟨_, List.getElem?_eq_getElem (by omega)⟩
        obtain ⟨x0, x1⟩ := u16b (hw.out x (List.mem_of_getElem? hx))
        obtain ⟨b, off, rfl, hblt, hc⟩ := (hr.out.below (by rw [hB]; exact hb'.out)).ints (by omega)
        have c1 := hc j hjn
        rw [hx] at c1
        dsimp only [Option.getD_some] at c1
        have hbB : b < B := by omega
        obtain ⟨s, Ss⟩ : ∃ s, wr.heap.size = s := ⟨_, rfl⟩
        have hput := hidd (esT_put hx x0 x1 (by omega))
        have hcnt := hidd (esT_left hx a1 b1)
        have hjz : (j : Int) < (n0 : Int) := by omega
        have e1 : IntKind.u8.wrap ((j : Int) + 1) = (j : Int) + 1 := by match j, (by omega : j < 4) with | 0, _ => rfl | 1, _ => rfl | 2, _ => rfl | 3, _ => rfl
        have hkB := hk'.out.s.lt
        have hcl : ((ticked a1 (esT z0 j)).length : Int) ≤ 4 := by
          have h1 : (ticked a1 (esT z0 j)).length ≤ (esT z0 j).length := List.length_filter_le _ _
          have h2 := esT_len z0 j
          omega
        clear hc
        by_cases hgt : a1 < 1000 * x
        all_goals
          go_wp2_with (first
            | (refine wpList_build_want rfl 31 #[(0, .tmp 27)] rfl (bytesV (adr ((j : Int) + 1))) (by kernel_rfl) ?_)
            | (with_reducible show wpList _ _ _ (⟨_, Op.buildSlice 32 _ _, _, _, _, _⟩ :: _) _ _
               refine wpList_bs1 rfl (.tmp 28) slAddr (by decide) rfl (bytesV (adr ((j : Int) + 1))) rfl rfl ?_
               rw [Ss]
               have B2 := (Below.refl s wr).alloc (by omega) (.cells (bytesV (adr ((j : Int) + 1))) 31)
               have K2 := hidd (hk'.out.to (by rw [Ss]; exact B2))
               have L2 : Hid (Blk (wr.alloc (.cells (bytesV (adr ((j : Int) + 1))) 31)) s 31 (flatOf (fun x => x.map (Value.int .u8)) [adr ((j : Int) + 1)]).toArray) := by rw [one_list, ← Ss]; exact Blk.new _ _ _
               have c2 := (B2.cell (p := ⟨b, off + j, none⟩) (by show b < s; omega)).trans c1
               have b2 := hidd (hb'.out.trans (B2.mono (by omega)))
               generalize wr.alloc (.cells (bytesV (adr ((j : Int) + 1))) 31) = V2 at K2 L2 c2 b2 ⊢
               clear B2 c1 hk' hb'))
          refine (servers_any V2 B v _ _ _ K2.out 0 x (by omega) (by omega) _ _ _ _ (isL_blk L2.out (by intro y hy; simp only [List.mem_cons, List.not_mem_nil, or_false] at hy; subst hy; exact adr_is (by omega)) ⟨by omega, fun e => by have := hkB s e; omega⟩ (by unfold maxLen; simp))).mono ?_
          rintro e V3 ⟨⟨r, rfl⟩, v3, k3, f3, m3⟩
          rw [hput.out] at k3
          have c3 := (f3.cell (p := ⟨b, off + j, none⟩) (by have := b2.out.size; show b < _; omega) (fun e => by rcases e with e | e; exact absurd (show b = B from e) (by omega); have := hkB b e; omega)).trans c2
          have b3 := hidd (b2.out.trans (f3.below (B := B) (by have := b2.out.size; omega) (fun k e => by rcases e with e | e; omega; have := hkB k e; omega)))
          have K3 := hidd k3
          clear k3 f3 m3 K2 L2 c2 b2 hput
          go_wp2
          go_roundw
          case measure => simp [intOf]; omega
          case rel => exact ⟨j + 1, v3, by omega, by go_num, by congr 1; have h9 := hcnt.out; (first | rw [if_pos hgt] at h9 | rw [if_neg (by omega)] at h9); omega, K3.out, b3.out⟩
      · have hjn' : j = n0 := by omega
        subst hjn'
        obtain ⟨es, hes⟩ : ∃ es, esT z0 j = es := ⟨_, rfl⟩
        have hlt := hidd (next_gt (us := (Sv.ticked a1 es).map (·.2)) (now := a1) (by
          intro u hu
          obtain ⟨e, he, rfl⟩ := List.mem_map.1 hu
          have := (List.mem_filter.1 he).2
          simpa using this) (by omega))
        rw [hes] at hk'
        rw [hes]
        obtain ⟨L, hL⟩ : ∃ L, (Sv.ticked a1 es).length = L := ⟨_, rfl⟩
        rw [hL]
        have hkl := hk'.out.s.lt
        have hkd : ∀ k, (Value.slice none 0 0).ownBlock = some k → B ≤ k := fun k e => by cases e
        go_wp2_with fail
        refine (tick_any wr B v _ es [] hk'.out a1).mono ?_
        rintro e V2 ⟨⟨r, rfl⟩, v2, d2, k2, f2⟩
        have b2 := hidd (hb'.out.trans (f2.below (B := B) (by omega) (fun k e => by rcases e with e | e | e; omega; have := hkl k e; omega; exact hkd k e)))
        have K2 := hidd k2
        clear k2 f2 hk' hb'
        go_wp2_with fail
        refine (allS_any V2 B _ _ _ _ K2.out).mono ?_
        rintro e V3 ⟨r3, rfl, G3⟩
        obtain ⟨A3, rfl, _⟩ := G3.out
        have K3 := hidd (K2.out.to G3.bel)
        have b3 := hidd (b2.out.trans (G3.bel.mono (by have := K2.out.lt; omega)))
        rw [hL]
        have hnx : Hid (a1 < min (nextOf ((Sv.ticked a1 es).map (·.2))) (nextOf ((Dm.ticked a1 []).map (·.2)))) := by
          have h2 : nextOf ((Dm.ticked a1 []).map (·.2)) = 9223372036854775807 := rfl
          have h1 := hlt.out
          show _ < _
          rw [h2]
          omega
        clear G3 K2 b2
        rcases Nat.eq_zero_or_pos L with h0 | h0
        · subst h0
          go_wp2_with fail
          refine (lives_any V3).mono ?_
          rintro e V4 ⟨rfl, b4⟩
          go_wp2_with fail
          go_ret
          rw [hB]
          exact ⟨rfl, b3.out.trans (b4.mono (by have := K3.out.lt; omega))⟩
        · have hz : ((L : Int) == 0) = false := by simp; omega
          go_wp2_with fail
          refine (next_any V3 B _ _ _ _ K3.out).mono ?_
          rintro e V4 ⟨rfl, b4⟩
          obtain ⟨m, hm⟩ : ∃ m, min (nextOf ((Sv.ticked a1 es).map (·.2))) (nextOf ((Dm.ticked a1 []).map (·.2))) = m := ⟨_, rfl⟩
          rw [hm] at hnx ⊢
          have hml := hnx.out
          go_wp2_with fail
          refine (lives_any V4).mono ?_
          rintro e V5 ⟨rfl, b5⟩
          go_wp2_with fail
          go_ret
          rw [hB]
          exact ⟨rfl, b3.out.trans ((b4.trans (b5.mono b4.size)).mono (by have := K3.out.lt; omega))⟩

set_option maxRecDepth 100000 in
theorem liftedNamesTime (os : Os) (started : os.Started) (H : Type) (enc : TypeId × Value → H) :
    ReturnsInHanded {} Try.checked os 3 .any (Rows.namesTimeSpec.pre6 enc Try.prog Try.f3 Rows.namesTimeRow.domain false) (Rows.namesTimeSpec.post enc Try.prog Try.f3 false true false false) := by
  refine returnsInHanded_of_change_sized (C := Try.checked) own started (by kernel_rfl) Try.func3
    (ChangeSpec.witness6 (enc := enc) (C := Try.checked) false ⟨#[], #[.slice none 0 0, .int .u32 0], []⟩ 8 (by kernel_rfl) (by kernel_rfl) (by kernel_rfl) (by kernel_rfl)) ?_
  intro W base args ds gs before hval0 hW hcnd hsz0 _
  have hval : ∀ (j : Nat) t v, Try.f3.params[j]? = some t → args[j]? = some v → Value.okWide Try.prog W .any base t v := hval0
  have hW' := hW
  obtain ⟨p, q, hA0, hV, rfl, hfz, hnd⟩ := hW
  have hA : DataW.TrodAll enc Try.prog W 0 (fun _ => true) true Try.f3.params.toList args.toList ds p := hA0
  have hsz : (DataW.weightsEach Try.prog (Try.f3.params.toList ++ Rows.namesTimeSpec.plain.varTypes Try.prog) (ds ++ gs)).all (· ≤ reachBytes) = true := hsz0
  rw [Try.params3] at hA hval hsz
  obtain ⟨v0, vs0, d0, ds0, p0, q0, hargs, rfl, rfl, h0, r0⟩ := trodAll_cons hA
  obtain ⟨v1, vs1, d1, ds1, p1, q1, rfl, rfl, rfl, h1, r1⟩ := trodAll_cons r0
  obtain ⟨rfl, rfl, rfl⟩ := trodAll_nil r1
  obtain rfl : args = #[v0, v1] := by cases args; simp_all
  obtain ⟨rfl, rfl⟩ := trodVars_none hV
  have k0 := h0
  have lt0 : ∀ x ∈ p0, x.block < W.heap.size := by obtain ⟨m, hm⟩ := k0; exact DataW.trod_lt m _ _ _ hm
  have fit0 : Fit Try.prog 22 d0 := fun m hm => by simpa using List.all_eq_true.1 hsz _ (DataW.weights_mem_each (j := 0) (t := 22) rfl rfl m hm)
  obtain ⟨a0, n0, c0, rfl⟩ := okWide_slice Try.underlying22 (hval 0 22 v0 rfl rfl)
  obtain ⟨fuel0, hf0⟩ := h0
  obtain ⟨a0', n0', c0', z0, ev0, r0', y0, w0⟩ := ints_rd Try.underlying22 Try.underlying29 (by kernel_rfl) hf0 fit0
  simp only [Value.cells, List.cons.injEq, and_true, Value.slice.injEq] at ev0
  obtain ⟨rfl, rfl, rfl⟩ := ev0
  have k1 := h1
  have lt1 : ∀ x ∈ p1, x.block < W.heap.size := by obtain ⟨m, hm⟩ := k1; exact DataW.trod_lt m _ _ _ hm
  have fit1 : Fit Try.prog 23 d1 := fun m hm => by simpa using List.all_eq_true.1 hsz _ (DataW.weights_mem_each (j := 1) (t := 23) rfl rfl m hm)
  obtain ⟨a1, rfl, _, _, w1⟩ := open_int Try.underlying23 (hval 1 23 v1 rfl rfl) h1
  clear hA0 hval0
  refine (walkNamesTime a0 n0 c0 z0 a1 W r0' y0 w0 w1).mono fun e W' ⟨he, bel⟩ => ?_
  subst he
  exact ⟨_, rfl, _, _, _, [], _, [], hW', trodAll_mk1 (shut_bool Try.underlying4 _), (trodAll_cons_mk (Below.trod laidOut (by kernel_rfl) (of_decide_eq_true (by kernel_rfl)) k0 bel lt0) (trodAll_cons_mk (Below.trod laidOut (by kernel_rfl) (of_decide_eq_true (by kernel_rfl)) k1 bel lt1) trodAll_mk0)), rfl, bel.frame _, fun h => by cases h⟩

/-- THE STATEMENT: 'NamesTime'. -/
theorem namesTime_holds : Rows.NamesTimeSaid :=
  OpenClaim.holds_of_wide 3 Try.f3 rfl rfl rfl rfl rfl rfl rfl ⟨rfl, rfl, rfl, rfl, rfl⟩ rfl rfl rfl rfl rfl (by kernel_rfl) Try.func3 (by kernel_rfl)
    (of_decide_eq_true (by kernel_rfl)) (by unfold Func.isWrapper; first | (rw [if_pos (by decide +kernel)]; kernel_rfl) | (rw [if_neg (by decide +kernel)]; exact ⟨rfl, rfl⟩))
    (fun os started H enc _ => liftedNamesTime os started H enc)

end Go.Proofs.Ytajlgglknianlaa
