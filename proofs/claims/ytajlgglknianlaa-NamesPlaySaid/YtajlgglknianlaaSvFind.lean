/- Where a thing is: IndexFunc, and 'at', walked once. No condition. -/
import Derived.Test.YtajlgglknianlaaSvKeep
namespace Go.Proofs.Ytajlgglknianlaa.Sv
open Go.Proofs.Ytajlgglknianlaa Go.ChangeShapes Go.WideShapes Go.ChangeAt Go.RowKit Go.Deep
set_option linter.unusedVariables false

abbrev IsK := Ls enc 17 IsE

set_option maxRecDepth 100000 in
theorem index_any (w : World) (A : Option Addr) (n c : Nat) (es : List E) (h : IsK w w.heap.size A n c es) (p : E → Bool) (lb : Array Value) (g : Nat) (S : Nat → Prop) (hg : g = 50 ∨ g = 42) (hp : Pred S g lb p w) :
    Calls Try.prog 49 #[.slice A n c, .func (.func g) #[] lb] w fun e w' => e = .returned (.int .i64 (idx p es)) ∧ Below w.heap.size w w' := by
  have hcm := h.rd.cmax
  have hcn := h.rd.cap
  have hl := h.len
  unfold maxLen at hcm
  go_enter Try.func49, Try.ntmps49
  go_wp2
  go_loopw [8] (fun i wr => ∃ j : Nat, j ≤ n ∧ i = .int .i64 j ∧ Below w.heap.size w wr ∧ (es.take j).any p = false) (fun i _ => n - (intOf i).toNat)
  case atStart => exact ⟨0, Nat.zero_le _, rfl, Below.refl _ w, rfl⟩
  case round =>
    obtain ⟨j, hj, rfl, hb, hno⟩ := hrel
    by_cases hjn : j < n
    · obtain ⟨b, off, rfl, hblt, hr⟩ := (h.below hb).range isEnc (by omega)
      obtain ⟨e, he⟩ : ∃ e, es[j]? = some e := ⟨es[j]'(by omega), List.getElem?_eq_getElem _⟩
      have hE := h.ok e (List.mem_of_getElem? he)
      have l0 := hidd (loadE hE (hr j e he))
      have ht := take_any he hno
      have hb' := hidd hb
      have hP := hidd (hp wr e (Fr.of_below hb S) hE)
      clear hr hb h hp
      cases hpe : p e
      · rw [hpe] at ht
        rcases hg with rfl | rfl
        all_goals go_wp2_with (first
          | (with_reducible show wpList _ _ _ (⟨_, Op.load 68 _, _, _, _, _⟩ :: _) _ _; refine wpList_load_want (by kernel_rfl) 68 _ rfl _ rfl _ (by with_reducible exact l0.out) ?_))
        all_goals refine Calls.mono hP.out ?_
        all_goals rintro r w2 ⟨rfl, b2⟩
        all_goals rw [hpe]
        all_goals go_wp2
        all_goals go_roundw
        case rel => exact ⟨j + 1, by omega, by go_num, hb'.out.trans (b2.mono hb'.out.size), ht⟩
        case measure => simp [intOf]; omega
        case rel => exact ⟨j + 1, by omega, by go_num, hb'.out.trans (b2.mono hb'.out.size), ht⟩
        case measure => simp [intOf]; omega
      · rcases hg with rfl | rfl
        all_goals go_wp2_with (first
          | (with_reducible show wpList _ _ _ (⟨_, Op.load 68 _, _, _, _, _⟩ :: _) _ _; refine wpList_load_want (by kernel_rfl) 68 _ rfl _ rfl _ (by with_reducible exact l0.out) ?_))
        all_goals refine Calls.mono hP.out ?_
        all_goals rintro r w2 ⟨rfl, b2⟩
        all_goals rw [hpe]
        all_goals go_wp2
        all_goals go_ret
        all_goals exact ⟨by rw [idx_at he hpe hno]; rfl, hb'.out.trans (b2.mono hb'.out.size)⟩
    · have hjn' : j = n := by omega
      subst hjn'
      go_wp2
      go_ret
      rw [List.take_of_length_le (by omega)] at hno
      exact ⟨by rw [idx_none hno]; rfl, hb⟩

/-- A shelf, at its place in a book: how many it takes at most, and its list. -/
structure IsS (W : World) (B : Nat) (v : Value) : Prop where
  most : W.cell? ⟨B, 0, none⟩ = some (.int .i64 4)
  row : W.cell? ⟨B, 1, none⟩ = some v
  thaw : W.frozen? ⟨B, 1, none⟩ = false
theorem IsS.lt {W : World} {B : Nat} {v : Value} (h : IsS W B v) : B < W.heap.size := World.block_lt_of_cell? W _ h.most
theorem IsS.fr {w W : World} {B : Nat} {v : Value} {S : Nat → Prop} (h : IsS w B v) (hf : Fr S w W) (hS : ¬ S B) : IsS W B v :=
  ⟨(hf.cell (p := ⟨B, 0, none⟩) h.lt hS).trans h.most, (hf.cell (p := ⟨B, 1, none⟩) h.lt hS).trans h.row, (hf.frozen (p := ⟨B, 1, none⟩) h.lt hS).trans h.thaw⟩
theorem IsS.below {w W : World} {B : Nat} {v : Value} (h : IsS w B v) (hb : Below w.heap.size w W) : IsS W B v := h.fr (Fr.of_below hb (fun _ => False)) id
theorem IsS.of {W : World} {B : Nat} {cs : Array Value} {t : TypeId} {v : Value} (h : Blk W B t cs) (h0 : cs[0]? = some (.int .i64 4)) (h1 : cs[1]? = some v) : IsS W B v := ⟨h.at_ h0, h.at_ h1, h.frozen _⟩

theorem at_any (w : World) (B : Nat) (A : Option Addr) (n c : Nat) (es : List E) (h : IsS w B (.slice A n c)) (hk : IsK w w.heap.size A n c es) (x : List Int)
    (hx : IsAddr x)
    : Calls Try.prog 38 #[.pointer (some ⟨B, 0, none⟩), .agg (bytesV x)] w fun e w' => e = .returned (.int .i64 (idx (fun e => sameT e.1 x) es)) ∧ Below w.heap.size w w' := by
  have B1 := (Below.refl w.heap.size w).alloc (Nat.le_refl _) (.cells (bytesV x) 31)
  have hs := h.below B1
  have c1 := hs.row
  have hp := same_pred (w.alloc (.cells (bytesV x) 31)) (fun k => k ≠ w.heap.size) w.heap.size x
    hx
    (Blk.new w 31 (bytesV x)) (fun h => h rfl)
  have hI := hidd (index_any (w.alloc (.cells (bytesV x) 31)) A n c es ((hk.below B1).more B1.size) _ _ 50 _ (.inl rfl) hp)
  have B1' := hidd B1
  clear h hk hp B1 hs
  go_enter Try.func38, Try.ntmps38
  go_wp2_with (go_at_call 49; refine Calls.mono hI.out ?_; rintro e w2 ⟨rfl, b2⟩)
  go_ret
  exact ⟨rfl, B1'.out.trans (b2.mono B1'.out.size)⟩
end Go.Proofs.Ytajlgglknianlaa.Sv
