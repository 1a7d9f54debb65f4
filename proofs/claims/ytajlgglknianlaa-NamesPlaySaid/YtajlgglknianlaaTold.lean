/- Names that are told to a book: a copy of the list, without those that are empty; Domains walked once. No condition. -/
import Derived.Test.YtajlgglknianlaaDom
import Derived.WalkSpells
namespace Go.Proofs.Ytajlgglknianlaa.St
open Go.Proofs.Ytajlgglknianlaa Go.ChangeShapes Go.WideShapes Go.ChangeAt Go.RowKit Go.Deep
set_option linter.unusedVariables false
set_option linter.unusedSimpArgs false

theorem flat_eq (xs : List E) : flat xs = xs.map Value.string := by
  induction xs with
  | nil => rfl
  | cons x xs ih =>
    show enc x ++ flat xs = _
    rw [ih]; rfl
theorem rd_of {w : World} {p : Nat → Prop} {A : Option Addr} {n c : Nat} {xs : List E} (h : Dm.IsL w p A n c xs) (ha : A = none → c = 0) : Rd w w.heap.size 1 A n c (flat xs) := by
  refine ⟨by rw [isEnc.flat_len (fun _ _ => trivial), h.len], h.cap, h.cmax, fun e => ⟨?_, ha e⟩, fun hn => ?_⟩
  · have := h.cap; have := ha e; omega
  · obtain ⟨b, off, e, hb, _, hc⟩ := h.at_ hn
    refine ⟨b, off, e, hb, fun j u hu => ?_⟩
    rw [flat_eq, List.getElem?_map] at hu
    cases hy : xs[j]? with
    | none => rw [hy] at hu; cases hu
    | some y =>
      rw [hy] at hu
      have := hc j y hy 0 _ rfl
      rw [Nat.mul_one, Nat.add_zero] at this
      rw [this]
      exact hu
theorem own_made (w : World) (t : TypeId) (size : Nat) : (w.alloc (.cells #[] t)).ownsRow w.heap.size t size (.slice (some ⟨w.heap.size, 0, none⟩) 0 0) 0 [] :=
  World.ownsRow_made w #[] 0 (Nat.le_refl _) (Nat.zero_le _) (by simp)

set_option maxRecDepth 100000 in
theorem clone_any (w : World) (p : Nat → Prop) (A : Option Addr) (n c : Nat) (xs : List E) (h : Dm.IsL w p A n c xs) (hn : n * 16 ≤ 140737488355328) :
    Calls Try.prog 30 #[.slice A n c] w fun e w' => ∃ v', e = .returned v' ∧ w'.ownsRow w.heap.size 9 1 v' n (flat xs) ∧ Below w.heap.size w w' := by
  have q22 : ∀ (w : World) (a : Option Addr) (n c n' c' : Nat), (binOp .eql 40 (.slice a n c) (.slice none n' c')).run Try.prog w = .ok (.bool a.isNone) w := fun w a n c n' c' => Lib.run_eql_slice_nil w _ _ a n c n' c' Try.underlying40
  cases A with
  | none =>
    have h0 : n = 0 := by
      rcases Nat.eq_zero_or_pos n with h0 | h0
      · exact h0
      · obtain ⟨b, off, e, _⟩ := h.at_ h0; cases e
    have hx : xs = [] := List.eq_nil_of_length_eq_zero (by rw [h.len, h0])
    subst h0 hx
    clear h hn
    go_enter Try.func30, Try.ntmps30
    go_wp2
    go_ret
    exact ⟨_, rfl, World.ownsRow_nil _ _ _ _, Below.refl _ _⟩
  | some ad =>
    have hcm := h.cmax
    have hcn := h.cap
    have hr := hidd ((rd_of h (fun e => by cases e)).below ((Below.refl w.heap.size w).alloc (Nat.le_refl _) (.cells #[] 9)))
    have ho := hidd (own_made w 9 1)
    have b1 := hidd ((Below.refl w.heap.size w).alloc (Nat.le_refl _) (.cells #[] 9))
    unfold maxLen at hcm
    clear h
    go_enter Try.func30, Try.ntmps30
    go_wp2_with (at_builtin
                 refine wpList_append_rd (v := .slice (some ⟨w.heap.size, 0, none⟩) 0 0) (w.alloc (.cells #[] 9)) rfl (.tmp 5) (.tmp 6) slTy rfl rfl ho.out rfl hr.out (isEnc.flat_one _) (by unfold maxLen; omega) (by omega) (by simp) ?_
                 intro v5 w5 o5 g5 t5 l5
                 clear l5 t5
                 have b5 := hidd (b1.out.trans (grown_below ho.out g5 (by simp)))
                 have o6 := hidd o5
                 clear o5 g5 b1 ho hr)
    go_ret
    refine ⟨_, rfl, ?_, b5.out⟩
    have := o6.out
    rwa [Nat.zero_add, List.nil_append] at this

set_option maxRecDepth 100000 in
theorem domains_any (w : World) (B : Nat) (vs vd : Value) (ss : List Sv.E) (ds : List Dm.E) (h : Bk w B vs vd ss ds) (now life : Int) (hnow : 0 ≤ now ∧ now ≤ 18446744073709551615) (hlife : 0 ≤ life ∧ life ≤ 4294967295)
    (p : Nat → Prop) (A : Option Addr) (n c : Nat) (xs : List E) (hx : Dm.IsL w p A n c xs) (hn : n * 16 ≤ 140737488355328) :
    Calls Try.prog 15 #[.pointer (some ⟨B, 0, none⟩), .int .u64 now, .int .u32 life, .slice A n c] w fun e w' => (∃ r, e = .returned r) ∧
      ∃ v, Bk w' B vs v ss (putAll Dm.sameT (cadd now (csecs life)) life ds (left xs)) ∧ Fr (Own B vd) w w' ∧ (∀ k, v.ownBlock = some k → vd.ownBlock = some k ∨ w.heap.size ≤ k) := by
  have hT := hidd (Sv.there_yes w B h.most)
  have h' := hidd h
  have hbl := h.lt
  have hC := hidd (clone_any w.drew p A n c xs (hx.fr (S := fun _ => False) (Fr.refl _ w).drew (fun _ _ => id)) hn)
  clear h hx
  go_enter Try.func15, Try.ntmps15
  go_wp2_with (go_at_call 20; refine Calls.mono hT.out ?_; rintro e w2 ⟨rfl, rfl⟩)
  go_region_with (first
    | (go_at_call 30; refine Calls.mono hC.out ?_; rintro e w3 ⟨v3, rfl, o3, b3⟩)
    | (go_at_call 29; refine Calls.mono (drop_any _ _ _ _ _ o3) ?_; rintro e w4 ⟨v4, rfl, o4, f4⟩)
    | (go_at_call 28
       have B3 : Below w2.heap.size w2 w3 := (Below.refl w2.heap.size w2).drew.trans b3
       have B4 : Below w2.heap.size w2 w4 := B3.trans (f4.below B3.size (fun k hk => (o3.lt k hk).1))
       have K4 := h'.out.to B4
       obtain ⟨A4, c4, hv4, r4⟩ := own_rd o4
       subst hv4
       have hL : Dm.IsL w4 (fun k => k ≠ B ∧ vd.ownBlock ≠ some k) A4 (left xs).length c4 (left xs) := ⟨r4.cap, r4.cmax, rfl, fun hn => by
         obtain ⟨g, c, hA, hbg, hgl⟩ := own_pos o4 hn
         injection hA with hA hA2 hA3
         subst hA hA3
         refine ⟨g, 0, rfl, hgl, ⟨?_, fun e => ?_⟩, fun j x hx => ?_⟩
         · have : w2.heap.size ≤ g := hbg
           omega
         · have := (h'.out.d.lt g e).2
           have : w2.heap.size ≤ g := hbg
           omega
         · have := own_range o4 isEnc rfl (fun _ _ => trivial) hx
           rwa [← Nat.zero_add (j * 1)] at this⟩
       refine Calls.mono (Dm.put_any w4 B (B + 1) _ vd ds K4.hd K4.dInv (by omega) K4.lt now life hnow hlife A4 _ c4 (left xs) hL) ?_
       rintro e w5 ⟨⟨r, rfl⟩, v5, hv5⟩
       have hE : Hid (Bk w5 B vs v5 ss (putAll Dm.sameT (cadd now (csecs life)) life ds (left xs)) ∧ Fr (Own B vd) w2 w5 ∧ (∀ k, v5.ownBlock = some k → vd.ownBlock = some k ∨ w2.heap.size ≤ k)) :=
         ⟨K4.dTo hv5 (putAll_four _ _ _ _ _ h'.out.d4), (Fr.of_below B4 _).trans hv5.fr, fun k hk => by
           rcases hv5.mine k hk with e | e
           · exact .inl e
           · exact .inr (Nat.le_trans B4.size e)⟩
       clear hL r4 o4 K4 B4 B3 f4 hv5 b3 o3))
  go_wp2
  go_end0
  exact ⟨⟨_, rfl⟩, v5, hE.out⟩
end Go.Proofs.Ytajlgglknianlaa.St
