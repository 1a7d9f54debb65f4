/- Ticks: who goes is told, in order; walked once. No condition. -/
import Derived.Test.YtnchjbgfmkmbaaaMore
namespace Go.Proofs.Ytnchjbgfmkmbaaa
open Go.ChangeShapes Go.WideShapes Go.ChangeAt Go.RowKit Go.Deep
set_option linter.unusedVariables false
set_option linter.unusedSimpArgs false

def enc16 (x : List Int) : List Value := x.map (Value.int .u8)
theorem isEnc16 : Enc enc16 16 IsAddr := ⟨fun a h => by simp [enc16, h.len], fun a v hv => by obtain ⟨y, _, rfl⟩ := List.mem_map.1 hv; rfl⟩
/-- Addresses that were given. -/
def GivenA (lo : Nat) (W : World) (v : Value) (xs : List (List Int)) : Prop := ∃ A, v = .slice A xs.length xs.length ∧ (0 < xs.length → ∃ g cur, A = some ⟨g, 0, none⟩ ∧ lo ≤ g ∧ Blk W g 23 cur ∧ ∀ j x, xs[j]? = some x → At cur (j * 16) x)
theorem GivenA.fr {lo : Nat} {w W : World} {v : Value} {xs : List (List Int)} {S : Nat → Prop} (h : GivenA lo w v xs) (hf : Fr S w W) (hS : ∀ k, S k → k < lo) : GivenA lo W v xs := by
  obtain ⟨A, h1, h2⟩ := h
  exact ⟨A, h1, fun hn => by
    obtain ⟨g, cur, h3, h4, h5, h6⟩ := h2 hn
    exact ⟨g, cur, h3, h4, h5.fr hf (fun e => by have := hS g e; omega), h6⟩⟩
theorem GivenA.to {lo : Nat} {w W : World} {v : Value} {xs : List (List Int)} (h : GivenA lo w v xs) (hb : Below w.heap.size w W) : GivenA lo W v xs := h.fr (Fr.of_below hb (fun _ => False)) (fun _ e => e.elim)
theorem givenA_own {W : World} {base n c : Nat} {A : Option Addr} {xs : List (List Int)} (h : W.ownsRow base 23 16 (.slice A n c) n (flatOf enc16 xs)) (hl : xs.length = n) (ho : ∀ x ∈ xs, IsAddr x) : GivenA base W (.slice A n n) xs := by
  subst hl
  refine ⟨A, rfl, fun hn => ?_⟩
  rcases h.2 with ⟨_, h'⟩ | ⟨g, cap, cur, hv, hb, hg, hnc, hcm, hcs, htake⟩
  · omega
  · injection hv with h1 h2 h3
    subst h1
    refine ⟨g, cur, rfl, hb, hg, fun j x hx i y hy => ?_⟩
    have hj := (List.getElem?_eq_some_iff.1 hx).1
    have hi : i < 16 := by have := (List.getElem?_eq_some_iff.1 hy).1; rwa [(ho x (List.mem_of_getElem? hx)).len] at this
    have h5 := isEnc16.flat_at ho hx i hi
    have hlt : j * 16 + i < xs.length * 16 := by have : (j + 1) * 16 ≤ xs.length * 16 := Nat.mul_le_mul_right _ hj; omega
    rw [enc16, List.getElem?_map, hy] at h5
    rw [← htake, List.getElem?_take_of_lt hlt] at h5
    simpa using h5

def goneL (now : Int) (L : List E) : List (List Int) := (L.filter fun e => decide (e.2.2 ≤ now)).map (·.1)
def tickF (now : Int) (es L : List E) : List E := L.foldl (fun es e => if e.2.2 ≤ now then dropS e.1 es else es) es
theorem gone_snoc {now : Int} {L : List E} {j : Nat} {e : E} (h : L[j]? = some e) : goneL now (L.take (j + 1)) = goneL now (L.take j) ++ if e.2.2 ≤ now then [e.1] else [] := by
  rw [goneL, List.take_add_one, h, List.filter_append, List.map_append]
  by_cases hp : e.2.2 ≤ now <;> simp [hp, goneL]
theorem tickF_snoc {now : Int} {es L : List E} {j : Nat} {e : E} (h : L[j]? = some e) : tickF now es (L.take (j + 1)) = if e.2.2 ≤ now then dropS e.1 (tickF now es (L.take j)) else tickF now es (L.take j) := by
  rw [tickF, List.take_add_one, h, List.foldl_append]; rfl

theorem tick_not (w : World) (v a : Value) (h : Not w v) : Calls Try.prog 10 #[v, a] w fun e w' => e = .returned (.slice none 0 0) ∧ w = w' := by
  have hT := hidd (there_not w v h)
  clear h
  go_enter Try.func10, Try.ntmps10
  go_wp2_with (go_at_call 17; refine Calls.mono hT.out ?_; rintro e w2 ⟨rfl, rfl⟩)
  go_ret
  exact ⟨rfl, rfl⟩

theorem fr_past {S T : Nat → Prop} {a b c : World} (h : Fr S a b) (k : Fr T b c) (hT : ∀ i, T i → a.heap.size ≤ i) : Fr S a c :=
  ⟨k.os.trans h.os, k.tape.trans h.tape, k.output.trans h.output, Nat.le_trans h.size k.size, fun i hi hS => (k.block i (Nat.lt_of_lt_of_le hi h.size) (fun e => by have := hT i e; omega)).trans (h.block i hi hS)⟩
/-- While time goes on: the list, who is gone so far, the routers in order. -/
structure Tk (w W : World) (B lo : Nat) (v v' out : Value) (n : Nat) (es cs L : List E) (gs : List (List Int)) (ov : Value) (last : List Int) (had : Bool) : Prop where
  rl : Rl W B v' cs last had
  mine : ∀ k, v'.ownBlock = some k → v.ownBlock = some k
  gone : W.ownsRow lo 23 16 out gs.length (flatOf enc16 gs)
  row : W.ownsRow lo 48 18 ov n (flat L)
  two : ∀ k, out.ownBlock = some k → ov.ownBlock ≠ some k
  fr : Fr (Own B v) w W
section
variable {w W V : World} {B lo n : Nat} {v v' out ov : Value} {es cs L : List E} {gs : List (List Int)} {last : List Int} {had : Bool}
theorem Tk.to (h : Tk w W B lo v v' out n es cs L gs ov last had) (hb : Below W.heap.size W V) : Tk w V B lo v v' out n es cs L gs ov last had :=
  ⟨h.rl.to hb, h.mine, ownRow_fr h.gone (Fr.of_below hb (fun _ => False)) (fun _ _ e => e), ownRow_fr h.row (Fr.of_below hb (fun _ => False)) (fun _ _ e => e), h.two, h.fr.trans (Fr.of_below hb _)⟩
theorem Tk.app (h : Tk w W B lo v v' out n es cs L gs ov last had) (hv : ∀ k, v.ownBlock = some k → k < lo) (hB : B < lo) (hlo : w.heap.size ≤ lo) {x : List Int} {out' : Value} (ho : V.ownsRow lo 23 16 out' (gs.length + 1) (flatOf enc16 gs ++ (bytesV x).toList))
    (hg : (W.alloc (.cells (bytesV x) 23)).grownBy V out.ownBlock) (ht : out'.ownBlock = out.ownBlock ∨ out'.ownBlock = some (W.alloc (.cells (bytesV x) 23)).heap.size) : Tk w V B lo v v' out' n es cs L (gs ++ [x]) ov last had := by
  have F : Fr (fun k => out.ownBlock = some k) W V := ((Fr.refl _ W).alloc _).trans (Fr.of_grown hg)
  have hlo' : ∀ k, out.ownBlock = some k → lo ≤ k := fun k hk => (h.gone.lt k hk).1
  refine ⟨h.rl.fr F (fun e => by have := hlo' B e; omega) (fun k hk e => by have := hlo' k e; have := hv k (h.mine k hk); omega), h.mine, ?_, ownRow_fr h.row F (fun k hk e => h.two k e hk), fun k hk e => ?_, fr_past h.fr F (fun k e => by have := hlo' k e; omega)⟩
  · rw [List.length_append, flat_append]
    simpa [flatOf, enc16, bytesV] using ho
  · rcases ht with ht | ht
    · rw [ht] at hk; exact h.two k hk e
    · rw [ht] at hk
      injection hk with hk
      have := (h.row.lt k e).2
      simp at hk
      omega
end
theorem goneL_le (now : Int) (L : List E) : (goneL now L).length ≤ L.length := by rw [goneL, List.length_map]; exact List.length_filter_le _ _
theorem goneL_ok {now : Int} {L : List E} (ho : ∀ e ∈ L, IsE e) : ∀ x ∈ goneL now L, IsAddr x := fun x hx => by
  obtain ⟨e, he, rfl⟩ := List.mem_map.1 hx
  exact (ho e (List.mem_filter.1 he).1).addr
theorem dropS_ok {x : List Int} {es : List E} (ho : ∀ e ∈ es, IsE e) : ∀ e ∈ dropS x es, IsE e := fun e he => by
  unfold dropS at he
  split at he
  · exact ho e he
  · exact ho e (List.mem_of_mem_eraseIdx he)

set_option maxRecDepth 100000 in
set_option maxHeartbeats 4000000 in
theorem tick_any (w : World) (B : Nat) (v : Value) (es : List E) (last : List Int) (had : Bool) (h : Rl w B v es last had) (now : Int) (n0 : 0 ≤ now) (n1 : now ≤ 18446744073709551615) :
    Calls Try.prog 10 #[.pointer (some ⟨B, 0, none⟩), .int .u64 now] w fun e w' => ∃ out, e = .returned out ∧ GivenA w.heap.size w' out (goneL now (ord es)) ∧
      ∃ v', Rl w' B v' (tickF now es (ord es)) last had ∧ Fr (Own B v) w w' ∧ ∀ k, v'.ownBlock = some k → v.ownBlock = some k := by
  have hT := hidd (there_yes w B h.made)
  have hO := hidd (ordered_any w B v es last had h)
  have ho := hidd h.ok
  have h4 := h.four
  have h' := hidd h
  have hol := ord_len h.ok
  obtain ⟨lo, Slo⟩ : ∃ lo, w.heap.size = lo := ⟨_, rfl⟩
  have hB : B < lo := by have := h.lt; omega
  have hv := hidd (show ∀ k, v.ownBlock = some k → k < lo from fun k hk => by rw [← Slo]; exact (h.own.lt k hk).2)
  rw [Slo] at hO
  rw [Slo]
  have Slo' := hidd Slo
  clear h Slo
  go_enter Try.func10, Try.ntmps10
  go_wp2_with (go_at_call 17; refine Calls.mono hT.out ?_; rintro e w2 ⟨rfl, rfl⟩)
  refine Calls.mono hO.out ?_
  rintro e w3 ⟨ov, rfl, o3, b3⟩
  obtain ⟨Ao, co, rfl⟩ := slice_of_own o3
  obtain ⟨n, hn⟩ : ∃ n, es.length = n := ⟨_, rfl⟩
  rw [hn] at o3 h4 hol ⊢
  have q1 := (Rd.of_own o3).cap
  have q2 := (Rd.of_own o3).cmax
  unfold maxLen at q2
  obtain ⟨L, hL⟩ : ∃ L, ord es = L := ⟨_, rfl⟩
  rw [hL] at o3 hol
  have hLo := hidd (show ∀ e ∈ L, IsE e from by rw [← hL]; exact ord_ok ho.out)
  have T0 : Hid (Tk w w3 B lo v v (.slice none 0 0) n es es L [] (.slice Ao n co) last had) := ⟨h'.out.to (by rw [Slo'.out]; exact b3), fun k hk => hk, World.ownsRow_nil _ _ _ _, o3, (fun k hk => by cases hk), Fr.of_below (by rw [Slo'.out]; exact b3) _⟩
  have hn' := hidd hn
  have hL' := hidd hL
  clear o3 b3 hO hL hn
  go_wp2_with fail
  go_loopw [4, 13] (fun out i wr => ∃ (j : Nat) (v' : Value), j ≤ n ∧ i = .int .i64 j ∧ Tk w wr B lo v v' out n es (tickF now es (L.take j)) L (goneL now (L.take j)) (.slice Ao n co) last had) (fun _ i _ => n - (intOf i).toNat)
  case atStart => exact ⟨0, v, Nat.zero_le _, rfl, T0.out⟩
  case round =>
    obtain ⟨j, v', hj, rfl, hT1⟩ := hrel
    have T1 := hidd hT1
    clear T0 hT1
    obtain ⟨gs, hgs⟩ : ∃ gs, goneL now (L.take j) = gs := ⟨_, rfl⟩
    obtain ⟨cs, hcs⟩ : ∃ cs, tickF now es (L.take j) = cs := ⟨_, rfl⟩
    have hgl : gs.length ≤ j := by rw [← hgs]; exact Nat.le_trans (goneL_le _ _) (by rw [List.length_take]; omega)
    rw [hgs, hcs] at T1
    obtain ⟨Ag, cg, hout⟩ := slice_of_own T1.out.gone
    subst hout
    by_cases hjn : j < n
    · obtain ⟨e, he⟩ : ∃ e, L[j]? = some e := ⟨_, List.getElem?_eq_getElem (by omega)⟩
      have hE := hidd (hLo.out e (List.mem_of_getElem? he))
      have hg1 := hidd (gone_snoc (now := now) he)
      have ht1 := hidd (tickF_snoc (now := now) (es := es) he)
      rw [hgs] at hg1
      rw [hcs] at ht1
      obtain ⟨g0, c0, hA, hb0, _⟩ := own_pos T1.out.row (by omega)
      injection hA with hA hA2 hA3
      subst hA hA3
      have l0 := hidd (loadE hE.out (own_range T1.out.row isEnc hol hLo.out he))
      obtain ⟨s, Ss⟩ : ∃ s, wr.heap.size = s := ⟨_, rfl⟩
      have hsl : lo ≤ s := by have := T1.out.fr.size; rw [Slo'.out] at this; omega
      have hjz : (j : Int) < (n : Int) := by omega
      clear he hgs hcs
      by_cases hle : e.2.2 ≤ now
      · have hg2 := hidd (show goneL now (L.take (j + 1)) = gs ++ [e.1] from by rw [hg1.out, if_pos hle])
        have ht2 := hidd (show tickF now es (L.take (j + 1)) = dropS e.1 cs from by rw [ht1.out, if_pos hle])
        clear hg1 ht1
        go_wp2_with (first
          | (with_reducible show wpList _ _ _ (⟨_, Op.load 48 _, _, _, _, _⟩ :: _) _ _; refine wpList_load_want (by kernel_rfl) 48 _ rfl _ rfl _ (by with_reducible exact l0.out) ?_)
          | (with_reducible show wpList _ _ _ (⟨_, Op.store 48 (.tmp 6) _, _, _, _, _⟩ :: _) _ _
             refine wpList_store_new rfl rfl 48 (.tmp 6) _ rfl _ _ (encV e) rfl Ss.symm rfl (size_enc hE.out) (Eq.trans (b := 18) (by kernel_rfl) (encV_size hE.out).symm) (ones_enc e) ?_
             have B1 := (Below.refl s wr).alloc (by omega) (.cells (encV e) 48)
             have T2 := hidd (T1.out.to (by rw [Ss]; exact B1))
             have K2 : Hid (Blk (wr.alloc (.cells (encV e) 48)) s 48 (encV e)) := by rw [← Ss]; exact Blk.new wr 48 (encV e)
             have S2 : (wr.alloc (.cells (encV e) 48)).heap.size = s + 1 := by simp [Ss]
             have gl2 := hidd (fun k (hk : (Value.slice Ag gs.length cg).ownBlock = some k) => (show k < s from by have := (T1.out.gone.lt k hk).2; rw [Ss] at this; exact this))
             generalize wr.alloc (.cells (encV e) 48) = V2 at T2 K2 S2 ⊢
             have d3 := K2.out.at_ (until_encV hE.out)
             have S2' := hidd S2
             have l2 := hidd (K2.out.part (P := Try.prog) (at_enc hE.out) Try.underlying23 rfl (by rw [hE.out.addr.len]; exact info23))
             clear B1 l0 T1 S2)
          | (with_reducible show wpList _ _ _ (⟨_, Op.load 23 _, _, _, _, _⟩ :: _) _ _; refine wpList_load_want (by kernel_rfl) 23 _ rfl _ rfl _ (by with_reducible first | exact l2.out | exact l5.out) ?_)
          | (with_reducible show wpList _ _ _ (⟨_, Op.buildSlice 26 _ _, _, _, _, _⟩ :: _) _ _; refine wpList_bs1 rfl (.tmp 23) slA (by decide) rfl (bytesV e.1) rfl (by rw [bytesV_size, hE.out.addr.len]) ?_)
          | (at_builtin
             refine wpList_append_rd (v := .slice Ag gs.length cg) (V2.alloc (.cells (bytesV e.1) 23)) rfl (.tmp 21) (.tmp 24) slA rfl rfl (own_al T2.out.gone _) rfl (rd_one V2 23 16 (bytesV e.1) (by rw [bytesV_size, hE.out.addr.len])) (by intro u hu; exact ints_one .u8 e.1 u (by simpa [bytesV] using hu)) (by unfold maxLen; omega) (by omega) (by simp; rw [S2'.out]; omega) ?_
             intro v5 w5 o5 g5 t5 l5'
             clear l5'
             have T5 := hidd (T2.out.app hv.out hB (by rw [Slo'.out]; exact Nat.le_refl _) o5 g5 t5)
             have K5 := hidd ((K2.out.alloc (.cells (bytesV e.1) 23)).fr (Fr.of_grown g5) (fun e' => by have := gl2.out s e'; omega))
             have l5 := hidd (K5.out.part (P := Try.prog) (at_enc hE.out) Try.underlying23 rfl (by rw [hE.out.addr.len]; exact info23))
             clear o5 g5 t5 l2 d3 T2 K2))
        refine (drop_any w5 B v' cs last had T5.out.rl e.1 hE.out.addr).mono ?_
        rintro r6 w6 ⟨rfl, v6, R6, F6, m6⟩
        have T6 : Hid (Tk w w6 B lo v v6 v5 n es (dropS e.1 cs) L (gs ++ [e.1]) (.slice (some ⟨g0, 0, none⟩) n co) last had) :=
          ⟨R6, fun k hk => T5.out.mine k (m6 k hk), ownRow_fr T5.out.gone F6 (fun k hk e' => by
            have := (T5.out.gone.lt k hk).1
            rcases e' with e' | e'
            · omega
            · have := hv.out k (T5.out.mine k e'); omega), ownRow_fr T5.out.row F6 (fun k hk e' => by
            have := (T5.out.row.lt k hk).1
            rcases e' with e' | e'
            · omega
            · have := hv.out k (T5.out.mine k e'); omega), T5.out.two, T5.out.fr.trans (F6.mono fun k _ e' => by
            rcases e' with e' | e'
            · exact .inl e'
            · exact .inr (T5.out.mine k e'))⟩
        clear R6 F6 m6 T5 K5 l5
        go_wp2
        go_roundw
        case rel => exact ⟨j + 1, v6, by omega, by go_num, by rw [hg2.out, ht2.out]; exact T6.out⟩
        case measure => simp [intOf]; omega
      · have hg2 := hidd (show goneL now (L.take (j + 1)) = gs from by rw [hg1.out, if_neg hle, List.append_nil])
        have ht2 := hidd (show tickF now es (L.take (j + 1)) = cs from by rw [ht1.out, if_neg hle])
        clear hg1 ht1
        go_wp2_with (first
          | (with_reducible show wpList _ _ _ (⟨_, Op.load 48 _, _, _, _, _⟩ :: _) _ _; refine wpList_load_want (by kernel_rfl) 48 _ rfl _ rfl _ (by with_reducible exact l0.out) ?_)
          | (with_reducible show wpList _ _ _ (⟨_, Op.store 48 (.tmp 6) _, _, _, _, _⟩ :: _) _ _
             refine wpList_store_new rfl rfl 48 (.tmp 6) _ rfl _ _ (encV e) rfl Ss.symm rfl (size_enc hE.out) (Eq.trans (b := 18) (by kernel_rfl) (encV_size hE.out).symm) (ones_enc e) ?_
             have B1 := (Below.refl s wr).alloc (by omega) (.cells (encV e) 48)
             have T2 := hidd (T1.out.to (by rw [Ss]; exact B1))
             have K2 : Hid (Blk (wr.alloc (.cells (encV e) 48)) s 48 (encV e)) := by rw [← Ss]; exact Blk.new wr 48 (encV e)
             generalize wr.alloc (.cells (encV e) 48) = V2 at T2 K2 ⊢
             have d3 := K2.out.at_ (until_encV hE.out)
             clear B1 l0 T1))
        go_roundw
        case rel => exact ⟨j + 1, v', by omega, by go_num, by rw [hg2.out, ht2.out]; exact T2.out⟩
        case measure => simp [intOf]; omega
    · have hjn' : j = n := by omega
      subst hjn'
      have hfull : L.take j = L := List.take_of_length_le (by omega)
      have hr1 := (Rd.of_own T1.out.gone).cap
      have hr2 := (Rd.of_own T1.out.gone).cmax
      rw [hfull] at hgs hcs
      have hgs' := hidd hgs
      have hcs' := hidd hcs
      have hgok := hidd (show ∀ x ∈ gs, IsAddr x from by rw [← hgs]; exact goneL_ok hLo.out)
      clear hgs hcs hfull
      go_wp2_with fail
      refine (clipA_any wr Ag _ cg hr1 hr2).mono ?_
      rintro e w4 ⟨rfl, rfl⟩
      go_wp2
      go_ret
      rw [hL'.out, hgs'.out, hcs'.out]
      exact ⟨_, rfl, givenA_own T1.out.gone rfl hgok.out, v', T1.out.rl, T1.out.fr, T1.out.mine⟩
end Go.Proofs.Ytnchjbgfmkmbaaa
