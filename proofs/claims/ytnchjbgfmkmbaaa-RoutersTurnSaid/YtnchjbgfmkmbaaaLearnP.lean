/- Learn: what stays of a call's own boxes, and its door. No condition. -/
import Derived.Test.YtnchjbgfmkmbaaaFell
namespace Go.Proofs.Ytnchjbgfmkmbaaa
open Go.ChangeShapes Go.WideShapes Go.ChangeAt Go.RowKit Go.Deep
set_option linter.unusedVariables false
set_option linter.unusedSimpArgs false

theorem step_store_new {P : Program} (W : World) {ops : Array Oper} {o : Oper} {a : Act} {K : Act → World → Prop} {Q : Exit → Act → World → Prop} {X : Prop} (hgd : o.guard = none) (hd : o.dst = none) (ty : TypeId) (x y : Operand) (ho : o.op = .store ty x y)
    (g : Nat) (c c' : Array Value) (hx : a.eval x = .pointer (some ⟨g, 0, none⟩)) (hg : g = W.heap.size) (hy : a.eval y = .agg c') (hi : (P.info? ty).map (·.size) = some c'.size) (hs : c.size = c'.size) (h1 : c'.all (·.oneCell') = true)
    (h : K a (W.alloc (.cells c' ty))) : if Region.wanted o (yielded ops a.tmps) = true then Oper.wp P o a (W.alloc (.cells c ty)) K Q else X := by
  subst hg
  rw [if_pos (by simp [Region.wanted, hgd])]
  unfold Oper.wp execOp
  simp only [ho, hx, hy, Instr.storeAt, Instr.sureAddr, Sem.run_bind, Sem.run_pure, Result.andThen_ok, run_storeVar_row (P := P) (W.alloc (.cells c ty)) W.heap.size ty ty c c' (heap_alloc_last W _) hi hs h1, World.setRow_alloc_new]
  show K (a.put o.dst undef) _
  rw [hd]; exact h
/-- A load of which it is known what it answers, as a step. -/
theorem step_load_want {P : Program} {W : World} {ops : Array Oper} {o : Oper} {a : Act} {K : Act → World → Prop} {Q : Exit → Act → World → Prop} {X : Prop} (hgd : o.guard = none) (ty : TypeId) (x : Operand) (ho : o.op = .load ty x)
    (ad : Addr) (hx : a.eval x = .pointer (some ad)) (v : Value) (hrun : (loadVar ty ad).run P W = .ok v W) (h : K (a.put o.dst v) W) : if Region.wanted o (yielded ops a.tmps) = true then Oper.wp P o a W K Q else X := by
  rw [if_pos (by simp [Region.wanted, hgd])]
  unfold Oper.wp execOp
  simp only [ho, hx, Instr.loadAt, Instr.sureAddr, Sem.run_bind, Sem.run_pure, Result.andThen_ok, hrun]
  exact h
/-- It ends just so. -/
def EndsAt (A : Act) (W : World) : Exit → Act → World → Prop
  | .normal, a, w => a = A ∧ w = W
  | _, _, _ => False
/-- Several ways through a region that end alike are followed once. -/
theorem wp_end {P : Program} {c : Code} {Q : Exit → Act → World → Prop} {a A : Act} {w W : World} (h : c.wp P (EndsAt A W) a w) (k : Q .normal A W) : c.wp P Q a w :=
  Code.wp_mono (fun e a w h => by
    cases e with
    | normal => obtain ⟨h2, h3⟩ := h; rw [h2, h3]; exact k
    | _ => exact absurd h id) h
/-- No panic; so the panics' post is of no matter. -/
def OnlyN (Q : Exit → Act → World → Prop) : Exit → Act → World → Prop
  | .normal, a, w => Q .normal a w
  | _, _, _ => False
theorem wp_only {P : Program} {c : Code} {Q : Exit → Act → World → Prop} {a : Act} {w : World} (h : c.wp P (OnlyN Q) a w) : c.wp P Q a w :=
  Code.wp_mono (fun e a w h => by
    cases e with
    | normal => exact h
    | _ => exact absurd h id) h
theorem only_of {Q : Exit → Act → World → Prop} {a : Act} {w : World} (h : Q .normal a w) : OnlyN Q .normal a w := h
/-- Several ways end alike but for three numbers. -/
def EndsBy (A : Nat → Nat → Nat → Act) (R : Nat → Nat → Nat → World → Prop) : Exit → Act → World → Prop
  | .normal, a, w => ∃ p g c, a = A p g c ∧ R p g c w
  | _, _, _ => False
theorem wp_by {P : Program} {c : Code} {Q : Exit → Act → World → Prop} {a : Act} {A : Nat → Nat → Nat → Act} {w : World} (R : Nat → Nat → Nat → World → Prop) (h : c.wp P (EndsBy A R) a w) (k : ∀ p g c V, R p g c V → Q .normal (A p g c) V) : c.wp P Q a w :=
  Code.wp_mono (fun e a w h => by
    cases e with
    | normal => obtain ⟨p, g, c, h2, h3⟩ := h; rw [h2]; exact k p g c w h3
    | _ => exact absurd h id) h

/-- A list while Learn runs; the call's own boxes lie from the heap's size at the call on, below q. -/
structure Lr (w W : World) (B q : Nat) (v v' : Value) (cs : List E) (last : List Int) (had : Bool) : Prop where
  rl : Rl W B v' cs last had
  fr : Fr (Own B v) w W
  mine : ∀ k, v'.ownBlock = some k → v.ownBlock = some k ∨ q ≤ k
  old : ∀ k, v.ownBlock = some k → k < w.heap.size
  lt : B < w.heap.size
  lo : w.heap.size ≤ q
  hi : q ≤ W.heap.size
section
variable {w W V : World} {B q : Nat} {v v' : Value} {cs : List E} {last : List Int} {had : Bool}
theorem Lr.to (h : Lr w W B q v v' cs last had) (hb : Below W.heap.size W V) : Lr w V B q v v' cs last had :=
  ⟨h.rl.to hb, h.fr.trans (Fr.of_below hb _), h.mine, h.old, h.lt, h.lo, Nat.le_trans h.hi hb.size⟩
/-- A box of the call's own, when the list turns. -/
theorem Lr.box (h : Lr w W B q v v' cs last had) {p : Nat} {t : TypeId} {c : Array Value} (hb : Blk W p t c) (hp : w.heap.size ≤ p) (hq : p < q) (hf : Fr (Own B v') W V) : Blk V p t c :=
  hb.fr hf (fun e => by
    rcases e with e | e
    · have := h.lt; omega
    · rcases h.mine p e with e | e
      · have := h.old p e; omega
      · omega)
theorem Lr.turn (h : Lr w W B q v v' cs last had) {u : Value} {ds : List E} (hr : Rl V B u ds last had) (hf : Fr (Own B v') W V) (hm : ∀ k, u.ownBlock = some k → v'.ownBlock = some k ∨ W.heap.size ≤ k) : Lr w V B q v u ds last had := by
  refine ⟨hr, ⟨hf.os.trans h.fr.os, hf.tape.trans h.fr.tape, hf.output.trans h.fr.output, Nat.le_trans h.fr.size hf.size, fun k hk hS => (hf.block k (Nat.lt_of_lt_of_le hk h.fr.size) (fun e => ?_)).trans (h.fr.block k hk hS)⟩, fun k hk => ?_, h.old, h.lt, h.lo, Nat.le_trans h.hi hf.size⟩
  · rcases e with e | e
    · exact hS (.inl e)
    · rcases h.mine k e with e | e
      · exact hS (.inr e)
      · have := h.lo; omega
  · rcases hm k hk with e | e
    · exact h.mine k e
    · exact .inr (Nat.le_trans h.hi e)
/-- A box of the call's own is written. -/
theorem Lr.set (h : Lr w W B q v v' cs last had) {p : Nat} (hp : w.heap.size ≤ p) (hq : p < q) (u : Value) : Lr w (W.setCell ⟨p, 0, none⟩ u) B q v v' cs last had :=
  ⟨h.rl.fr ((Fr.refl (· = p) W).setB u) (fun e => by have := h.lt; omega) (fun k hk e => by
    rcases h.mine k hk with e' | e'
    · have := h.old k e'; omega
    · omega), h.fr.setCell (p := ⟨p, 0, none⟩) (.inr hp) u, h.mine, h.old, h.lt, h.lo, by have := h.hi; simpa [World.setCell] using this⟩
end
/-- Behind an append, ahead of the store: the row turned. -/
theorem Lr.app {w W V : World} {B q : Nat} {cs : List E} {last : List Int} {had : Bool} {v v' : Value} (h : Lr w W B q v v' cs last had) {x : E} (hx : IsE x) (h4 : cs.length < 4) {A : Option Addr} {c : Nat} (ho : V.ownsRow (B + 1) 48 18 (.slice A (cs.length + 1) c) (cs.length + 1) (flat cs ++ (encV x).toList)) (hg : W.grownBy V v'.ownBlock)
    (ht : (Value.slice A (cs.length + 1) c).ownBlock = v'.ownBlock ∨ (Value.slice A (cs.length + 1) c).ownBlock = some W.heap.size) :
    Lr w (V.setCell ⟨B, 0, none⟩ (.slice A (cs.length + 1) c)) B q v (.slice A (cs.length + 1) c) (cs ++ [x]) last had := by
  have F : Fr (fun k => v'.ownBlock = some k) W V := Fr.of_grown hg
  have hB : ¬ (v'.ownBlock = some B) := fun e => by have := (h.rl.own.lt B e).1; omega
  have hr := h.rl.turn (v' := .slice A (cs.length + 1) c) (es' := cs ++ [x]) F hB (by
    rw [List.length_append, flat, flat_append]
    simpa [flatOf, encV] using ho) (fun e he => by
    rcases List.mem_append.1 he with he | he
    · exact h.rl.ok e he
    · rw [List.mem_singleton.1 he]; exact hx) (by rw [List.length_append]; simp; omega)
  refine h.turn hr ((F.mono (fun k _ e => .inr e)).setCell (p := ⟨B, 0, none⟩) (.inl (.inl rfl)) _) (fun k hk => ?_)
  rcases ht with e | e
  · rw [e] at hk; exact .inl hk
  · rw [e] at hk; injection hk with hk; exact .inr (by omega)
/-- What Learn says: some bool; the list turned. -/
def LearnSays (w : World) (B : Nat) (v : Value) (cs : List E) (last : List Int) (had : Bool) (e : Ending) (w' : World) : Prop := ∃ q : Bool, e = .returned (.bool q) ∧ ∃ v', Rl w' B v' cs last had ∧ Fr (Own B v) w w' ∧ ∀ k, v'.ownBlock = some k → v.ownBlock = some k ∨ w.heap.size ≤ k
theorem res8 {tmps : Array Value} {W : World} {p : Nat} {q : Bool} (h10 : tmps.getD 10 undef = .pointer (some ⟨p, 0, none⟩)) (hc : W.cell? ⟨p, 0, none⟩ = some (.bool q)) : (results Try.f8 tmps).run Try.prog W = .ok (.bool q) W := by
  simp only [Array.getD_eq_getD_getElem?] at h10
  simp [results, Try.results8, go_sem, h10, hc]
/-- The door: what was deferred is called. -/
theorem door {w W : World} {B q p0 p1 p2 p3 : Nat} {v v' : Value} {cs : List E} {last : List Int} {had b q0 : Bool} {a : List Int} (tmps : Array Value) (h10 : tmps.getD 10 undef = .pointer (some ⟨p2, 0, none⟩))
    (P : Lr w W B q v v' cs last had) (ha : IsAddr a) (k0 : Blk W p0 29 #[.pointer (some ⟨B, 0, none⟩)]) (k1 : Blk W p1 23 (bytesV a)) (k2 : Blk W p2 4 #[.bool q0]) (k3 : Blk W p3 4 #[.bool b])
    (hp2 : w.heap.size ≤ p2) (hq2 : p2 < q) (h02 : p0 ≠ p2) (h12 : p1 ≠ p2) (h32 : p3 ≠ p2) :
    Leaves Try.prog Try.f8 tmps (LearnSays w B v cs last had) [{ target := .fn (.func 23) #[.pointer (some ⟨p3, 0, none⟩), .pointer (some ⟨p0, 0, none⟩), .pointer (some ⟨p1, 0, none⟩), .pointer (some ⟨p2, 0, none⟩)], args := #[] }] .returning (W.setCell ⟨p2, 0, none⟩ (.bool false)) := by
  have P1 := P.set hp2 hq2 (.bool false)
  have k0' := k0.far (p := ⟨p2, 0, none⟩) h02 (.bool false)
  have k1' := k1.far (p := ⟨p2, 0, none⟩) h12 (.bool false)
  have k3' := k3.far (p := ⟨p2, 0, none⟩) h32 (.bool false)
  have k2' : Blk (W.setCell ⟨p2, 0, none⟩ (.bool false)) p2 4 #[.bool false] := k2.set 0 (.bool false)
  refine leaves_cons (f := 23) (args := #[.pointer (some ⟨p3, 0, none⟩), .pointer (some ⟨p0, 0, none⟩), .pointer (some ⟨p1, 0, none⟩), .pointer (some ⟨p2, 0, none⟩)]) (by simp) (by simp [go_sem]) ?_
  refine (fell_any _ _ B v' cs last had P1.rl p0 p1 p2 p3 b a ha k0' k1' ⟨_, k2'⟩ k3').mono ?_
  rintro e u' w'' ⟨rfl, rfl, x, w1, rfl, b1⟩
  have P2 := (P1.to b1).set hp2 hq2 (.bool x)
  have k2'' : Blk (w1.setCell ⟨p2, 0, none⟩ (.bool x)) p2 4 #[.bool x] := (k2'.below b1 k2'.lt).set 0 (.bool x)
  exact ⟨.bool x, res8 h10 (k2''.at_ rfl), x, rfl, v', P2.rl, P2.fr, fun k hk => by
    rcases P2.mine k hk with e | e
    · exact .inl e
    · exact .inr (Nat.le_trans P2.lo e)⟩
/-- What learning a router leaves. -/
def learnS (x : E) (life : Int) (es : List E) : List E :=
  if life = 0 then dropS x.1 es
  else if 0 ≤ whereA x.1 es then es.set (whereA x.1 es).toNat x
  else if es.length < 4 then es ++ [x]
  else if ((ord es)[es.length - 1]?.map (·.2.1)).getD 0 < x.2.1 then dropS (((ord es)[es.length - 1]?.map (·.1)).getD []) es ++ [x] else es
theorem addr_ex {l : List Int} (h : IsAddr l) : ∃ a b c d e f g i j k m n o p q r : Int, l = [a, b, c, d, e, f, g, i, j, k, m, n, o, p, q, r] := by
  have hl := h.len
  match l, hl with
  | [a, b, c, d, e, f, g, i, j, k, m, n, o, p, q, r], _ => exact ⟨_, _, _, _, _, _, _, _, _, _, _, _, _, _, _, _, rfl⟩
theorem builtE {a : List Int} (h : IsAddr a) (r u : Int) : Try.prog.built 48 [(0, .agg (bytesV a)), (1, .int .i64 r), (2, .int .u64 u)] = some (encV (a, r, u)) := by
  obtain ⟨_, _, _, _, _, _, _, _, _, _, _, _, _, _, _, _, rfl⟩ := addr_ex h
  kernel_rfl
end Go.Proofs.Ytnchjbgfmkmbaaa
