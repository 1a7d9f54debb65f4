/- What is called at the end of Learn; Learn at a list that is not there: walked once. No condition. -/
import Derived.Test.YtnchjbgfmkmbaaaRank
import Derived.Defers
namespace Go.Proofs.Ytnchjbgfmkmbaaa
open Go.ChangeShapes Go.WideShapes Go.ChangeAt Go.RowKit Go.Deep
set_option linter.unusedVariables false
set_option linter.unusedSimpArgs false

/-- A bool is written; besides that new blocks are made. -/
def FellSays (w : World) (p2 : Nat) (W : World) : Prop := ∃ (q : Bool) (w1 : World), W = w1.setCell ⟨p2, 0, none⟩ (.bool q) ∧ Below w.heap.size w w1
theorem fell_any (u : FrameMode) (w : World) (B : Nat) (v : Value) (es : List E) (last : List Int) (hd : Bool) (h : Rl w B v es last hd) (p0 p1 p2 p3 : Nat) (b : Bool) (a : List Int) (ha0 : IsAddr a)
    (h0 : Blk w p0 29 #[.pointer (some ⟨B, 0, none⟩)]) (h1 : Blk w p1 23 (bytesV a)) (h2 : ∃ q : Bool, Blk w p2 4 #[.bool q]) (h3 : Blk w p3 4 #[.bool b]) :
    CallsD Try.prog 23 #[.pointer (some ⟨p3, 0, none⟩), .pointer (some ⟨p0, 0, none⟩), .pointer (some ⟨p1, 0, none⟩), .pointer (some ⟨p2, 0, none⟩)] u w fun e u' w' => u' = u ∧ (e = .returned (.tuple #[]) ∧ FellSays w p2 w') := by
  have c0 := h0.at_ (i := 0) rfl
  have c3 := h3.at_ (i := 0) rfl
  obtain ⟨q, h2⟩ := h2
  have c2 := h2.at_ (i := 0) rfl
  have f2 := h2.frozen 0
  cases b with
  | false =>
    clear h0 h1 h3 h
    go_enter_d Try.func23, Try.ntmps23
    go_wp2
    go_end0
    exact ⟨rfl, _, _, rfl, Below.refl _ _⟩
  | true =>
    have hat := hidd (at_any w B v es last hd h a ha0)
    have l1 := hidd (h1.load (P := Try.prog) Try.underlying23 rfl (size_a ha0))
    have h2' := hidd h2
    clear h0 h1 h3 h h2
    go_enter_d Try.func23, Try.ntmps23
    go_wp2_with (with_reducible show wpList _ _ _ (⟨_, Op.load 23 _, _, _, _, _⟩ :: _) _ _; refine wpList_load_want (by kernel_rfl) 23 _ rfl _ rfl _ (by with_reducible exact l1.out) ?_)
    refine Calls.mono hat.out ?_
    rintro e w2 ⟨rfl, b2⟩
    have h3 := h2'.out.below b2 h2'.out.lt
    have c4 := h3.at_ (i := 0) rfl
    have f4 := h3.frozen 0
    have b2' := hidd b2
    obtain ⟨x, hx⟩ : ∃ x, whereA a es = x := ⟨_, rfl⟩
    rw [hx]
    clear c0 c3 c2 f2 b2 h3 hat l1 hx
    go_wp2
    all_goals
      go_end0
      exact ⟨rfl, _, _, rfl, b2'.out⟩

theorem learn_not (w : World) (pv : Option Addr) (now life flags : Int) (a : List Int) (h : Not w (.pointer pv)) : Calls Try.prog 8 #[.pointer pv, .int .u64 now, .agg (bytesV a), .int .u16 life, .int .u8 flags] w fun e w' => e = .returned (.bool false) ∧ Below w.heap.size w w' := by
  obtain ⟨s, Ss⟩ : ∃ s, w.heap.size = s := ⟨_, rfl⟩
  have b1 : Below s w (((w.alloc (.cells #[.pointer pv] 29)).alloc (.cells (bytesV a) 23)).alloc (.cells #[.bool false] 4)) := by rw [← Ss]; exact (((Below.refl _ w).alloc (Nat.le_refl _) _).alloc (by simp) _).alloc (by simp; omega) _
  have hN : Not (((w.alloc (.cells #[.pointer pv] 29)).alloc (.cells (bytesV a) 23)).alloc (.cells #[.bool false] 4)) (.pointer pv) := by
    rcases h with h | ⟨B, h1, h2⟩
    · exact .inl h
    · exact .inr ⟨B, h1, (b1.cell (p := ⟨B, 18, none⟩) (by have := World.block_lt_of_cell? w _ h2; rw [← Ss]; exact this)).trans h2⟩
  have hT := hidd (there_not _ _ hN)
  have K0 : Blk (((w.alloc (.cells #[.pointer pv] 29)).alloc (.cells (bytesV a) 23)).alloc (.cells #[.bool false] 4)) s 29 #[.pointer pv] := by rw [← Ss]; exact ((Blk.new w 29 #[.pointer pv]).alloc _).alloc _
  have K2 : Blk (((w.alloc (.cells #[.pointer pv] 29)).alloc (.cells (bytesV a) 23)).alloc (.cells #[.bool false] 4)) (s + 1 + 1) 4 #[.bool false] := by
    have := Blk.new ((w.alloc (.cells #[.pointer pv] 29)).alloc (.cells (bytesV a) 23)) 4 #[.bool false]
    simpa [Ss] using this
  have b1' := hidd b1
  rw [Ss]
  clear hN h b1
  have c0 := K0.at_ (i := 0) rfl
  have c2 := K2.at_ (i := 0) rfl
  have f2 := K2.frozen 0
  clear K0 K2
  go_enter_defers Try.func8, Try.ntmps8
  go_wp2_with (go_at_call 17; refine Calls.mono hT.out ?_; rintro e w2 ⟨rfl, rfl⟩)
  exact ⟨.bool false, by simp [results, Try.results8, go_sem, c2], rfl, b1'.out⟩
end Go.Proofs.Ytnchjbgfmkmbaaa
