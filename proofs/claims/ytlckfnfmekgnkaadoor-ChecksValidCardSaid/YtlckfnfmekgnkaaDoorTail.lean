/- A region that draws its order and whose last writer (operation 'st') waits for what it would disturb: what is known of memory need hold only till that operation has come up. Of no program; no condition. -/
import Derived.Test.YtlckfnfmekgnkaaDoorOwn
import Derived.Deep.RegionHeld3
namespace Go.Proofs.YtlckfnfmekgnkaaDoor
open Go.ChangeShapes Go.WideShapes Go.ChangeAt Go.RowKit
set_option linter.unusedVariables false

section
variable {P : Program} {ops : Array Oper} {Q : Exit → Act → World → Prop} {md : Region.Mode} {F : World → Prop} {st : Nat}

/-- Whatever order is picked from here on; as long as 'st' has not come up, the world meets F behind each operation. -/
def wpAnyT (P : Program) (md : Region.Mode) (ops : Array Oper) (Q : Exit → Act → World → Prop) (F : World → Prop) (st : Nat) : Nat → Array Bool → Act → World → Prop
  | 0, listed, a, w => Region.ready md ops listed = [] ∧ Q .normal a w
  | n + 1, listed, a, w => (Region.ready md ops listed = [] → Q .normal a w) ∧ ∀ i ∈ Region.ready md ops listed,
      wpOp P ops Q i (fun a' w' => ((listed.setIfInBounds i true).getD st true = false → F w') ∧ wpAnyT P md ops Q F st n (listed.setIfInBounds i true) a' w') a w
theorem wpAny_of_tail : ∀ (n : Nat) (listed : Array Bool) (a : Act) (w : World), wpAnyT P md ops Q F st n listed a w → wpAny P md ops Q n listed a w
  | 0, _, _, _, h => h
  | n + 1, _, _, _, h => ⟨h.1, fun i hi => wpOp_mono (fun a' w' h' => wpAny_of_tail n _ a' w' h'.2) (h.2 i hi)⟩
/-- Does 'st' wait for 'i' by an edge of its own? -/
def waits (md : Region.Mode) (ops : Array Oper) (st i : Nat) : Bool := match ops[st]? with
  | some o => o.after.any fun e => Region.binds md e && e.on == i
  | none => false

/-- An operation that yields its value while G holds is taken first: G holds always, or follows from F, and 'st' waits for the operation. -/
theorem tail_first {i : Nat} {oi : Oper} {v : Value} {G : World → Prop} (hi : ops[i]? = some oi) (hsel : ∀ (j : Nat) (o : Oper) cs b, ops[j]? = some o → o.op ≠ .select cs b) (his : i ≠ st)
    (hQ : ∀ c a w, Q (.panic c) (a.put oi.dst v) w → Q (.panic c) a w) :
    ∀ (n : Nat) (listed : Array Bool) (a : Act) (w : World),
      (∀ j oj, ops[j]? = some oj → j ≠ i → listed.getD j true = false → (∀ e ∈ oj.after, Region.binds md e = true → e.on ≠ i) → oi.apart ops oj = true) →
      i ∈ Region.ready md ops listed → ((∀ w, G w) ∨ (waits md ops st i = true ∧ (∀ w, F w → G w) ∧ listed.getD st true = false)) → YieldsIf P ops G oi v a → G w → (listed.getD st true = false → F w) →
      wpAnyT P md ops Q F st n (listed.setIfInBounds i true) (a.put oi.dst v) w → wpAnyT P md ops Q F st (n + 1) listed a w := by
  intro n
  induction n with
  | zero =>
    intro listed a w _ hr _ hy hg hF H
    refine ⟨fun h => (by rw [h] at hr; cases hr), fun j hj => ?_⟩
    by_cases hji : j = i
    · subst hji
      exact hy.wpOp hi hg ⟨fun h => hF (by rwa [getD_set_ne true his] at h), H⟩
    · have := ready_mono hj hji
      rw [H.1] at this
      cases this
  | succ n ih =>
    intro listed a w hfree hr hG hy hg hF H
    refine ⟨fun h => (by rw [h] at hr; cases hr), fun j hj => ?_⟩
    have hiu := (mem_ready.1 hr).1
    by_cases hji : j = i
    · subst hji
      exact hy.wpOp hi hg ⟨fun h => hF (by rwa [getD_set_ne true his] at h), H⟩
    · obtain ⟨hju, oj, hoj, hall⟩ := mem_ready.1 hj
      have hno : ∀ e ∈ oj.after, Region.binds md e = true → e.on ≠ i := fun e he hb heq => by
        have h1 := hall e he hb
        rw [heq] at h1
        rcases Nat.lt_or_ge i listed.size with h' | h'
        · simp [h'] at hiu h1; rw [hiu] at h1; cases h1
        · simp [Array.getElem?_eq_none h'] at h1
      have hfree' : ∀ k ok, ops[k]? = some ok → k ≠ i → (listed.setIfInBounds j true).getD k true = false → (∀ e ∈ ok.after, Region.binds md e = true → e.on ≠ i) → oi.apart ops ok = true := fun k ok hk hki hun hn => by
        refine hfree k ok hk hki ?_ hn
        by_cases hjk : j = k
        · subst hjk; exact hju
        · rwa [getD_set_ne true hjk] at hun
      refine wpOp_mono (fun a' w' h3 => ?_) (wpOp_putIf hoj (hfree j oj hoj hji hju hno) (fun cs b => hsel i oi cs b hi) (fun cs b => hsel j oj cs b hoj) hQ hy (H.2 j (ready_mono hj hji)))
      obtain ⟨hy', hF', hR⟩ := h3
      rw [Array.setIfInBounds_comm _ _ (Ne.symm hji)] at hF' hR
      have key : (listed.setIfInBounds j true).getD st true = false → F w' := fun h => hF' (by rw [getD_set_ne true his]; exact h)
      rcases hG with hG | ⟨hw, hG, hsu⟩
      · exact ⟨key, ih (listed.setIfInBounds j true) a' w' hfree' (ready_mono hr (Ne.symm hji)) (.inl hG) hy' (hG w') key hR⟩
      · have hjs : j ≠ st := by
          rintro rfl
          unfold waits at hw
          rw [hoj] at hw
          simp only [Array.any_eq_true', Bool.and_eq_true, beq_iff_eq] at hw
          obtain ⟨e, he, hb, ho⟩ := hw
          exact hno e he hb ho
        have h2 : (listed.setIfInBounds j true).getD st true = false := by rw [getD_set_ne true hjs]; exact hsu
        exact ⟨key, ih (listed.setIfInBounds j true) a' w' hfree' (ready_mono hr (Ne.symm hji)) (.inr ⟨hw, hG, h2⟩) hy' (hG w' (key h2)) key hR⟩

/-- Number i first: it yields in every world that meets F; 'st' has not come up and waits for it. -/
theorem tail_take {i : Nat} {oi : Oper} {v : Value} {n : Nat} {listed : Array Bool} {a : Act} {w : World} (hi : ops[i]? = some oi) (hs : Region.noSelect ops = true) (hf : Region.free md ops listed i = true) (hr : (Region.ready md ops listed).contains i = true)
    (hw : (waits md ops st i && !(i == st) && !listed.getD st true) = true) (hQ : ∀ c a w, Q (.panic c) (a.put oi.dst v) w → Q (.panic c) a w) (hy : YieldsIf P ops F oi v a) (hF : F w)
    (h : wpAnyT P md ops Q F st n (listed.setIfInBounds i true) (a.put oi.dst v) w) : wpAnyT P md ops Q F st (n + 1) listed a w := by
  simp only [Bool.and_eq_true, Bool.not_eq_true', beq_eq_false_iff_ne, ne_eq] at hw
  exact tail_first hi (Region.noSelect_spec hs) hw.1.2 hQ n listed a w (Region.free_spec hi hf) (by simpa using hr) (.inr ⟨hw.1.1, fun _ h => h, hw.2⟩) hy hF (fun _ => hF) h
/-- Number i first: it yields in whatever world. -/
theorem tail_free {i : Nat} {oi : Oper} {v : Value} {n : Nat} {listed : Array Bool} {a : Act} {w : World} (hi : ops[i]? = some oi) (hs : Region.noSelect ops = true) (hf : Region.free md ops listed i = true) (hr : (Region.ready md ops listed).contains i = true)
    (hw : (i == st) = false) (hQ : ∀ c a w, Q (.panic c) (a.put oi.dst v) w → Q (.panic c) a w) (hy : YieldsIf P ops (fun _ => True) oi v a) (hF : listed.getD st true = false → F w)
    (h : wpAnyT P md ops Q F st n (listed.setIfInBounds i true) (a.put oi.dst v) w) : wpAnyT P md ops Q F st (n + 1) listed a w :=
  tail_first hi (Region.noSelect_spec hs) (by simpa using hw) hQ n listed a w (Region.free_spec hi hf) (by simpa using hr) (.inl fun _ => trivial) hy trivial hF h

/-- What comes up next, one by one. -/
def AllReadyT (P : Program) (md : Region.Mode) (ops : Array Oper) (Q : Exit → Act → World → Prop) (F : World → Prop) (st : Nat) (n : Nat) (listed : Array Bool) (a : Act) (w : World) (rs : List Nat) : Prop :=
  ∀ i ∈ rs, wpOp P ops Q i (fun a' w' => ((listed.setIfInBounds i true).getD st true = false → F w') ∧ wpAnyT P md ops Q F st n (listed.setIfInBounds i true) a' w') a w
theorem AllReadyT.nil {n : Nat} {listed : Array Bool} {a : Act} {w : World} : AllReadyT P md ops Q F st n listed a w [] := fun _ h => by cases h
/-- Ahead of 'st': F is to be shown anew. -/
theorem AllReadyT.cons {n : Nat} {listed : Array Bool} {a : Act} {w : World} {i : Nat} {o : Oper} {rs : List Nat} (ho : ops[i]? = some o)
    (h : ∀ K' : Act → World → Prop, Shut (∀ a w, F w → (F w → wpAnyT P md ops Q F st n (listed.setIfInBounds i true) a w) → K' a w) → if Region.wanted o (yielded ops a.tmps) = true then Oper.wp P o a w K' Q else K' (a.put o.dst undef) w)
    (hs : AllReadyT P md ops Q F st n listed a w rs) : AllReadyT P md ops Q F st n listed a w (i :: rs) := fun j hj => by
  rcases List.mem_cons.1 hj with rfl | hj
  · exact wpOp_step ho (fun K' hK => h K' (fun a w hS hW => hK a w ⟨fun _ => hS, hW hS⟩))
  · exact hs j hj
/-- 'st' itself, or behind it: nothing is to be shown. -/
theorem AllReadyT.last {n : Nat} {listed : Array Bool} {a : Act} {w : World} {i : Nat} {o : Oper} {rs : List Nat} (ho : ops[i]? = some o) (hst : (listed.setIfInBounds i true).getD st true = true)
    (h : ∀ K' : Act → World → Prop, Shut (∀ a w, wpAnyT P md ops Q F st n (listed.setIfInBounds i true) a w → K' a w) → if Region.wanted o (yielded ops a.tmps) = true then Oper.wp P o a w K' Q else K' (a.put o.dst undef) w)
    (hs : AllReadyT P md ops Q F st n listed a w rs) : AllReadyT P md ops Q F st n listed a w (i :: rs) := fun j hj => by
  rcases List.mem_cons.1 hj with rfl | hj
  · exact wpOp_step ho (fun K' hK => h K' (fun a w hW => hK a w ⟨fun h0 => (by rw [hst] at h0; cases h0), hW⟩))
  · exact hs j hj
theorem tail_ready {rs : List Nat} {n : Nat} {listed : Array Bool} {a : Act} {w : World} (hr : Region.ready md ops listed = rs) (hne : rs ≠ []) (h : AllReadyT P md ops Q F st n listed a w rs) : wpAnyT P md ops Q F st (n + 1) listed a w :=
  ⟨fun h0 => absurd (hr ▸ h0) hne, hr ▸ h⟩
theorem tail_done {listed : Array Bool} {a : Act} {w : World} (hr : Region.ready md ops listed = []) (h : Q .normal a w) : ∀ n, wpAnyT P md ops Q F st n listed a w
  | 0 => ⟨hr, h⟩
  | _ + 1 => ⟨fun _ => h, (by rw [hr]; simp)⟩
/-- The beginning. -/
theorem wp_region_tail {id : Nat} {a : Act} {w : World} (F : World → Prop) (st : Nat) (hm : P.follows .mixedOrders = true) (hF : F w.drew) (h : F w.drew → wpAnyT P .any ops Q F st ops.size (Array.replicate ops.size false) a w.drew) : (Code.region id ops true).wp P Q a w :=
  wp_region_any hm (wpAny_of_tail _ _ _ _ (h hF))
end
end Go.Proofs.YtlckfnfmekgnkaaDoor
