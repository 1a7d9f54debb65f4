/- All of them, in order, as a list of their own, walked once. No condition. -/
import Derived.Test.YtajlgglknianlaaSvPut
namespace Go.Proofs.Ytajlgglknianlaa.Sv
open Go.Proofs.Ytajlgglknianlaa Go.ChangeShapes Go.WideShapes Go.ChangeAt Go.RowKit Go.Deep
set_option linter.unusedVariables false
set_option linter.unusedSimpArgs false

theorem there_yes (w : World) (B : Nat) (h : w.cell? ⟨B, 0, none⟩ = some (.int .i64 4)) :
    Calls Try.prog 20 #[.pointer (some ⟨B, 0, none⟩)] w fun e w' => e = .returned (.bool true) ∧ w' = w := by
  go_enter Try.func20, Try.ntmps20
  go_wp2
  go_ret
  exact ⟨rfl, rfl⟩

theorem clip_any (w : World) (A : Option Addr) (n c : Nat) (h : n ≤ c) (hc : c ≤ maxLen) : Calls Try.prog 24 #[.slice A n c] w fun e w' => e = .returned (.slice A n n) ∧ w' = w := by
  unfold maxLen at hc
  go_enter Try.func24, Try.ntmps24
  go_wp2
  go_ret
  exact ⟨rfl, rfl⟩

theorem slTo : SlTy Try.prog 34 48 17 24 := .mk_ (z := .agg #[.int .u8 0, .int .u8 0, .int .u8 0, .int .u8 0, .int .u8 0, .int .u8 0, .int .u8 0, .int .u8 0, .int .u8 0, .int .u8 0, .int .u8 0, .int .u8 0, .int .u8 0, .int .u8 0, .int .u8 0, .int .u8 0, .int .u64 0]) Try.underlying34 (by kernel_rfl) rfl (by omega)
theorem builtO {x : List Int} (h : IsAddr x) (u : Int) : Try.prog.built 48 [(0, .agg (bytesV x)), (1, .int .u64 u)] = some (encV (x, u)) := by
  obtain ⟨_, _, _, _, _, _, _, _, _, _, _, _, _, _, _, _, rfl⟩ := addr_ex h
  kernel_rfl

/-- What 'all' gives: a list of the call's own. -/
structure Given (w W : World) (v : Value) (es : List E) : Prop where
  bel : Below w.heap.size w W
  out : ∃ A, v = .slice A es.length es.length ∧ (0 < es.length → ∃ g cur, A = some ⟨g, 0, none⟩ ∧ w.heap.size ≤ g ∧ Blk W g 48 cur ∧ es.length * 17 ≤ cur.size ∧ cur.toList.take (es.length * 17) = flat es)

set_option maxRecDepth 100000 in
set_option maxHeartbeats 1000000 in
theorem all_any (w : World) (B : Nat) (A : Option Addr) (n c : Nat) (es : List E) (h0 : w.cell? ⟨B, 0, none⟩ = some (.int .i64 4)) (h : IsS w B (.slice A n c)) (hk : IsK w w.heap.size A n c es) (hroom : n * 24 ≤ 140737488355328) :
    Calls Try.prog 11 #[.pointer (some ⟨B, 0, none⟩)] w fun e w' => ∃ v, e = .returned v ∧ Given w w' v es := by
  have hcm := hk.rd.cmax
  have hcn := hk.rd.cap
  have hl := hk.len
  have c1 := h.row
  have hk' := hidd hk
  have hT := hidd (there_yes w B h0)
  unfold maxLen at hcm
  clear h hk h0
  go_enter Try.func11, Try.ntmps11
  go_wp2_with (go_at_call 20; refine Calls.mono hT.out ?_; rintro e w2 ⟨rfl, rfl⟩)
  clear c1
  go_loopw [2, 13] (fun v i wr => ∃ j : Nat, j ≤ n ∧ i = .int .i64 j ∧ Below w2.heap.size w2 wr ∧ wr.ownsRow w2.heap.size 48 17 v j (flat (es.take j))) (fun _ i _ => n - (intOf i).toNat)
  case atStart => exact ⟨0, Nat.zero_le _, rfl, Below.refl _ w2, World.ownsRow_nil _ _ _ _⟩
  case round =>
    obtain ⟨j, hj, rfl, hb, hv⟩ := hrel
    by_cases hjn : j < n
    · obtain ⟨b, off, rfl, hblt, hr⟩ := (hk'.out.below hb).range isEnc (by omega)
      obtain ⟨s, Ss⟩ : ∃ s, wr.heap.size = s := ⟨_, rfl⟩
      obtain ⟨e, he⟩ : ∃ e, es[j]? = some e := ⟨es[j]'(by omega), List.getElem?_eq_getElem _⟩
      have hE := hidd (hk'.out.ok e (List.mem_of_getElem? he))
      have l0 := hidd (loadE hE.out (hr j e he))
      have hsn : flat (es.take (j + 1)) = flat (es.take j) ++ enc e := by rw [List.take_add_one, he, flat, flat_append]; simp [flatOf]
      obtain ⟨Ao, co, rfl⟩ := slice_of_own hv
      have hb' := hidd hb
      have hv' := hidd hv
      have hws : w2.heap.size ≤ s := by have := hb.size; omega
      have hbu := builtO hE.out.addr e.2
      clear hb hr hv
      go_wp2_with (first
        | (with_reducible show wpList _ _ _ (⟨_, Op.load 68 _, _, _, _, _⟩ :: _) _ _; refine wpList_load_want (by kernel_rfl) 68 _ rfl _ rfl _ (by with_reducible exact l0.out) ?_)
        | (with_reducible show wpList _ _ _ (⟨_, Op.store 68 (.tmp 4) _, _, _, _, _⟩ :: _) _ _
           refine wpList_store_new rfl rfl 68 (.tmp 4) _ rfl _ _ (encV e) rfl Ss.symm rfl (size_enc hE.out) (Eq.trans (b := 17) (by kernel_rfl) (encV_size hE.out).symm) (ones_enc e) ?_
           have B1 := (Below.refl s wr).alloc (by omega) (.cells (encV e) 68)
           have b1 := hidd (hb'.out.trans (B1.mono hws))
           have o1 := hidd (own_al hv'.out (.cells (encV e) 68))
           have K1 : Hid (Blk (wr.alloc (.cells (encV e) 68)) s 68 (encV e)) := by rw [← Ss]; exact Blk.new wr 68 (encV e)
           generalize wr.alloc (.cells (encV e) 68) = V1 at B1 K1 b1 o1 ⊢
           have hws1 := b1.out.size
           have d3 := K1.out.at_ (until_enc hE.out)
           have l1 := hidd (K1.out.part (P := Try.prog) (at_enc hE.out) Try.underlying31 rfl (by rw [hE.out.addr.len]; exact info31))
           have b2 := hidd (b1.out.alloc b1.out.size (.cells (encV e) 48))
           have o2 := hidd (own_al o1.out (.cells (encV e) 48))
           have r2 := hidd (rd_one V1 48 17 (encV e) (encV_size hE.out))
           clear l0 B1 hb' hv' K1)
        | (with_reducible show wpList _ _ _ (⟨_, Op.load 31 _, _, _, _, _⟩ :: _) _ _; refine wpList_load_want (by kernel_rfl) 31 _ rfl _ rfl _ (by with_reducible exact l1.out) ?_)
        | (with_reducible show wpList _ _ _ (⟨_, Op.build 48 _, _, _, _, _⟩ :: _) _ _; refine wpList_build_want rfl 48 _ rfl (encV e) (Eq.trans (b := Try.prog.built 48 [(0, .agg (bytesV e.1)), (1, .int .u64 e.2)]) (by kernel_rfl) hbu) ?_)
        | (with_reducible show wpList _ _ _ (⟨_, Op.buildSlice 34 _ _, _, _, _, _⟩ :: _) _ _; refine wpList_bs1 rfl (.tmp 22) slTo (by decide) rfl (encV e) rfl (encV_size hE.out) ?_)
        | (at_builtin
           refine wpList_append_rd (v := .slice Ao j co) (V1.alloc (.cells (encV e) 48)) rfl (.tmp 17) (.tmp 23) slTo rfl rfl o2.out rfl r2.out (by intro u hu; exact isEnc.one e u (by simpa [encV] using hu)) (by unfold maxLen; omega) (by omega) (by simp; omega) ?_
           intro v5 w5 o5 g5 t5 l5
           clear l5 t5
           have b5 := hidd (b2.out.trans (grown_below o2.out g5 (by simp; omega)))
           have o6 : Hid (w5.ownsRow w2.heap.size 48 17 v5 (j + 1) (flat (es.take (j + 1)))) := by rw [hsn]; exact o5
           clear o5 g5 b2 o2 b1 o1 r2))
      go_roundw
      case measure => simp [intOf]; omega
      case rel => exact ⟨j + 1, by omega, by go_num, b5.out, o6.out⟩
    · have hjn' : j = n := by omega
      subst hjn'
      rw [List.take_of_length_le (by omega)] at hv
      obtain ⟨Ao, co, rfl⟩ := slice_of_own hv
      have hq := (Rd.of_own hv).cap
      have hq2 := (Rd.of_own hv).cmax
      have hv' := hidd hv
      have hb' := hidd hb
      clear hv hb
      go_wp2_with (go_at_call 24; refine Calls.mono (clip_any wr Ao j co hq hq2) ?_; rintro e w3 ⟨rfl, rfl⟩)
      go_ret
      refine ⟨_, rfl, hb'.out, Ao, by rw [hl]; rfl, fun hn => ?_⟩
      rcases hv'.out.2 with ⟨_, h'⟩ | ⟨g, cap, cur, h', hbg, hg, hnc, hcm2, hcs, htake⟩
      · omega
      · injection h' with h1 h2 h3
        subst h1
        refine ⟨g, cur, rfl, hbg, hg, ?_, by rw [hl]; exact htake⟩
        rw [hl, hcs]
        exact Nat.mul_le_mul_right _ hnc
end Go.Proofs.Ytajlgglknianlaa.Sv
