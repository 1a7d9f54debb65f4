/- How much there is to go through; which messages are listeners', and which have conditions. No condition. -/
import Derived.Test.YtlckfnfmekgnkaaDoorOpen2
namespace Go.Proofs.YtlckfnfmekgnkaaDoor
open Go.ChangeShapes Go.WideShapes Go.ChangeAt Go.RowKit Go.Deep
set_option linter.unusedVariables false

def listensB (m : Ms) : Bool := m.kind == 130 || m.kind == 143
def knowsB (m : Ms) : Bool := listensB m || (133 ≤ m.kind && m.kind ≤ 137)

theorem listens_any (w : World) (cs : Array Value) (m : Ms) {V : World} {B : Nat} (hm : IsMs V B cs m) : Calls Tryd.prog 16 #[.agg cs] w fun e w' => e = .returned (.bool (listensB m)) ∧ Below w.heap.size w w' := by
  have b := Blk.new w 35 cs
  have c0 := b.at_ hm.kind
  clear b hm
  unfold listensB
  go_enter Tryd.func16, Tryd.ntmps16
  cases h1 : m.kind == 130
  · go_wp2
    go_ret
    exact ⟨rfl, (Below.refl _ w).alloc (Nat.le_refl _) _⟩
  · go_wp2
    go_ret
    exact ⟨rfl, (Below.refl _ w).alloc (Nat.le_refl _) _⟩

theorem knows_any (w : World) (cs : Array Value) (m : Ms) {V : World} {B : Nat} (hm : IsMs V B cs m) : Calls Tryd.prog 15 #[.agg cs] w fun e w' => e = .returned (.bool (knowsB m)) ∧ Below w.heap.size w w' := by
  have b := Blk.new w 35 cs
  have l0 := b.load Tryd.underlying35 rfl (size_ms hm)
  have B1 := hidd ((Below.refl w.heap.size w).alloc (Nat.le_refl _) (.cells cs 35))
  have hm' := hidd hm
  clear hm
  unfold knowsB
  go_enter Tryd.func15, Tryd.ntmps15
  go_wp2_with (refine wpList_load_want (by kernel_rfl) 35 _ rfl _ rfl _ (by with_reducible exact l0) ?_)
  refine (listens_any _ cs m hm'.out).mono ?_
  rintro e w2 ⟨rfl, b2⟩
  have c0 := (b.below b2 (by simp)).at_ hm'.out.kind
  have B2 := hidd (B1.out.trans (b2.mono B1.out.size))
  clear l0 b b2
  cases h1 : listensB m
  · by_cases h2 : 133 ≤ m.kind
    · by_cases h3 : m.kind ≤ 137
      all_goals go_wp2
      all_goals go_ret
      all_goals exact ⟨by simp [h1, h2, h3], B2.out⟩
    · go_wp2
      go_ret
      exact ⟨by simp; omega, B2.out⟩
  · go_wp2
    go_ret
    exact ⟨by simp [h1], B2.out⟩

set_option maxRecDepth 100000 in
theorem great10_any (w : World) (A : Option Addr) (n c : Nat) (xs : List Value) (ks : List Int) {B : Nat} (h : OpsIn w B A n c xs ks) :
    Calls Tryd.prog 20 #[.slice A n c] w fun e w' => ∃ b, e = .returned (.bool b) ∧ w' = w := by
  have hr := h.rd
  have hcm := hr.cmax
  have hcn := hr.cap
  have hroom := h.room
  have hl := h.len
  unfold maxLen at hcm
  go_enter Tryd.func20, Tryd.ntmps20
  go_wp2
  go_loopw [3, 4] (fun vn vi wr => ∃ j k : Nat, j ≤ n ∧ vi = .int .i64 j ∧ vn = .int .i64 k ∧ k ≤ 281474976710656 ∧ wr = w) (fun _ vi _ => n - (intOf vi).toNat)
  case atStart => exact ⟨0, n, Nat.zero_le _, rfl, rfl, by omega, rfl⟩
  case round =>
    obtain ⟨j, k, hj, rfl, rfl, hk, rfl⟩ := hrel
    by_cases hjn : j < n
    · by_cases hk9 : k < 9000
      · obtain ⟨b, off, rfl, hblt, hcell⟩ := hr.at_ (by omega)
        obtain ⟨q, hq⟩ : ∃ q, ks[j]? = some q := ⟨ks[j]'(by omega), List.getElem?_eq_getElem _⟩
        obtain ⟨_, A', n', c', h2, hn'⟩ := h.at_ j q hq
        have c1 := hcell _ _ h2
        rw [← Nat.add_assoc] at c1
        clear hcell h hr
        go_wp2
        go_roundw
        case rel => exact ⟨j + 1, k + n', by omega, by go_num, by go_num, by omega, by first | rfl | trivial⟩
        case measure => simp [intOf]; omega
      · go_wp2
        go_ret
        exact ⟨_, rfl, rfl⟩
    · have hjn' : j = n := by omega
      subst hjn'
      go_wp2
      go_ret
      exact ⟨_, rfl, rfl⟩

set_option maxRecDepth 100000 in
theorem great_any (w : World) (cs : Array Value) (m : Ms) (h : MsIn w w.heap.size cs m) :
    Calls Tryd.prog 7 #[.agg cs] w fun e w' => ∃ b, e = .returned (.bool b) ∧ Below w.heap.size w w' := by
  have bb := Blk.new w 35 cs
  have B1 := (Below.refl w.heap.size w).alloc (Nat.le_refl _) (.cells cs 35)
  obtain ⟨A3, n3, c3, d3, z3⟩ := h.data
  obtain ⟨A16, n16, c16, d16, z16⟩ := h.sources
  obtain ⟨A11, n11, c11, x11, d11, z11⟩ := h.ops
  obtain ⟨A, n, c, xs, d17, z17⟩ := h.recs
  have e3 := bb.at_ d3
  have e16 := bb.at_ d16
  have e11 := bb.at_ d11
  have e17 := bb.at_ d17
  have hr : Rd (w.alloc (.cells cs 35)) w.heap.size 18 A n c xs := z17.rd.below B1
  have hat := z17.at_
  have ho : Hid (OpsIn (w.alloc (.cells cs 35)) w.heap.size A11 n11 c11 x11 m.ks) := ⟨z11.rd.below B1, z11.len, z11.at_, z11.room, z11.rng⟩
  have hcm := hr.cmax
  have hcn := hr.cap
  unfold maxLen at hcm
  have B1' := hidd B1
  clear bb B1 h d3 d16 d11 d17 z11 z17
  go_enter Tryd.func7, Tryd.ntmps7
  go_wp2
  generalize w.alloc (.cells cs 35) = W at *
  go_loopw [3, 4] (fun vn vi wr => ∃ j k : Nat, j ≤ n ∧ vi = .int .i64 j ∧ vn = .int .i64 k ∧ k ≤ 562949953421312 ∧ wr = W) (fun _ vi _ => n - (intOf vi).toNat)
  case atStart => exact ⟨0, n3 + 16 * n16, Nat.zero_le _, rfl, by go_num, by omega, by first | rfl | trivial⟩
  case round =>
    obtain ⟨j, k, hj, rfl, rfl, hk, rfl⟩ := hrel
    have fin : ∀ (b : Bool) (W' : World), W' = wr → Below w.heap.size w W' := fun _ _ h => by rw [h]; exact B1'.out
    have last : Hid (Calls Tryd.prog 20 #[.slice A11 n11 c11] wr fun e w' => ∃ b, e = .returned (.bool b) ∧ w' = wr) := great10_any wr A11 n11 c11 x11 m.ks ho.out
    by_cases hjn : j < n
    · by_cases hk9 : k < 9000
      · obtain ⟨b, off, rfl, hblt, hcell⟩ := hr.at_ (by omega)
        obtain ⟨A', n', c', h2, hn'⟩ := hat j hjn
        have c1 := hcell _ _ h2
        rw [← Nat.add_assoc] at c1
        clear hcell hr hat last ho
        go_wp2
        go_roundw
        case rel => exact ⟨j + 1, k + 20 + 16 * n', by omega, by go_num, by go_num, by omega, by first | rfl | trivial⟩
        case measure => simp [intOf]; omega
      · go_wp2_with (go_at_call 20; refine Calls.mono last.out ?_; rintro e w2 ⟨b, rfl, rfl⟩)
        all_goals go_ret
        all_goals first | exact ⟨_, rfl, B1'.out⟩ | exact ⟨.inr rfl, B1'.out⟩
    · have hjn' : j = n := by omega
      subst hjn'
      go_wp2_with (go_at_call 20; refine Calls.mono last.out ?_; rintro e w2 ⟨b, rfl, rfl⟩)
      all_goals go_ret
      all_goals first | exact ⟨_, rfl, B1'.out⟩ | exact ⟨.inr rfl, B1'.out⟩
end Go.Proofs.YtlckfnfmekgnkaaDoor
