/- Lists as they lie in memory, element by element; a row that is being filled; what a twin of a list is. No condition. -/
import Derived.Test.YtlckfnfmekgnkaaDoorTwin
import Derived.Test.YtlckfnfmekgnkaaDoorTail
namespace Go.Proofs.YtlckfnfmekgnkaaDoor
open Go.ChangeShapes Go.WideShapes Go.ChangeAt Go.RowKit Go.Deep
set_option linter.unusedVariables false
set_option linter.unusedSimpArgs false

/-- A row of cells reads so, from a place on. -/
def RowAt (cs : Array Value) (o : Nat) (l : List Value) : Prop := ∀ i v, l[i]? = some v → cs[o + i]? = some v
theorem Blk.rangeAt {W : World} {g o : Nat} {t : TypeId} {cs : Array Value} {l : List Value} (h : Blk W g t cs) (hr : RowAt cs o l) : W.rangeAt g o l := fun j v hv => h.at_ (hr j v hv)
theorem mul_lt {j k K : Nat} (h : j < k) : j * K + K ≤ k * K := by
  have : (j + 1) * K ≤ k * K := Nat.mul_le_mul_right _ h
  rw [Nat.succ_mul] at this; exact this
/-- The first k elements of a row are filled. -/
def Rows (cs : Array Value) (K k : Nat) (P : Nat → List Value → Prop) : Prop := ∀ j, j < k → ∃ l, l.length = K ∧ RowAt cs (j * K) l ∧ P j l
theorem RowAt.keep {cs : Array Value} {j k K : Nat} {l vs : List Value} (h : RowAt cs (j * K) l) (hl : l.length = K) (hjk : j < k) : RowAt (over cs (k * K) vs) (j * K) l := fun i v hv => by
  have hi := (List.getElem?_eq_some_iff.1 hv).1
  have := mul_lt (K := K) hjk
  rw [over_out _ _ _ _ (.inl (by omega))]
  exact h i v hv
theorem RowAt.new {cs : Array Value} {o : Nat} {l : List Value} (h : o + l.length ≤ cs.size) : RowAt (over cs o l) o l := fun i v hv => over_in l cs o i v hv h
theorem Rows.keep {cs : Array Value} {K k k' : Nat} {P : Nat → List Value → Prop} (h : Rows cs K k P) (hk : k ≤ k') (vs : List Value) : Rows (over cs (k' * K) vs) K k P := fun j hj => by
  obtain ⟨l, h1, h2, h3⟩ := h j hj
  exact ⟨l, h1, h2.keep h1 (by omega), h3⟩
theorem Rows.push {cs : Array Value} {K k N : Nat} {P : Nat → List Value → Prop} (h : Rows cs K k P) {l : List Value} (hl : l.length = K) (hk : k < N) (hs : cs.size = N * K) (hp : P k l) : Rows (over cs (k * K) l) K (k + 1) P := fun j hj => by
  by_cases e : j = k
  · subst e
    have := mul_lt (K := K) hk
    exact ⟨l, hl, RowAt.new (by omega), hp⟩
  · exact (h.keep (Nat.le_refl _) l) j (by omega)
theorem Rows.imp {cs : Array Value} {K k : Nat} {P P' : Nat → List Value → Prop} (h : Rows cs K k P) (hp : ∀ j l, j < k → P j l → P' j l) : Rows cs K k P' := fun j hj => by
  obtain ⟨l, h1, h2, h3⟩ := h j hj
  exact ⟨l, h1, h2, hp j l hj h3⟩
/-- A slice of n elements of K cells each, of each of which something holds. -/
structure Lst (W : World) (K : Nat) (A : Option Addr) (n c : Nat) (P : Nat → List Value → Prop) : Prop where
  cap : n ≤ c
  cmax : c ≤ maxLen
  nil : A = none → n = 0 ∧ c = 0
  at_ : 0 < n → ∃ b off, A = some ⟨b, off, none⟩ ∧ b < W.heap.size ∧ ∀ i, i < n → ∃ l, l.length = K ∧ W.rangeAt b (off + i * K) l ∧ P i l
section
variable {W W' : World} {K n c : Nat} {A : Option Addr} {P P' : Nat → List Value → Prop}
theorem Lst.to (h : Lst W K A n c P) (hb : Below W.heap.size W W') (hp : ∀ i l, P i l → P' i l) : Lst W' K A n c P' :=
  ⟨h.cap, h.cmax, h.nil, fun hn => by
    obtain ⟨b, off, h1, h2, h3⟩ := h.at_ hn
    have := hb.size
    refine ⟨b, off, h1, by omega, fun i hi => ?_⟩
    obtain ⟨l, h4, h5, h6⟩ := h3 i hi
    exact ⟨l, h4, range_below h5 hb h2, hp i l h6⟩⟩
theorem Lst.of_rows {g N : Nat} {t : TypeId} {cs : Array Value} (hb : Blk W g t cs) (hr : Rows cs K n P) (hn : n ≤ N) (hm : N ≤ maxLen) : Lst W K (some ⟨g, 0, none⟩) n N P :=
  ⟨hn, hm, (fun e => by cases e), fun _ => ⟨g, 0, rfl, hb.lt, fun i hi => by
    obtain ⟨l, h1, h2, h3⟩ := hr i hi
    exact ⟨l, h1, by rw [Nat.zero_add]; exact hb.rangeAt h2, h3⟩⟩⟩
end
/-- A list of bytes. -/
def BsIn (W : World) (v : Value) (xs : List Int) : Prop := ∃ A c, v = .slice A xs.length c ∧ Rd W W.heap.size 1 A xs.length c (xs.map (Value.int .u8)) ∧ xs.length ≤ 140737488355328
/-- A twin of a list of bytes, in a block from Lo on. -/
def BsTw (W : World) (Lo : Nat) (v : Value) (xs : List Int) : Prop := ∃ g, v = .slice (some ⟨g, 0, none⟩) xs.length (xs.length + 4) ∧ Lo ≤ g ∧ Blk W g 5 (twinCells .u8 xs 199) ∧ xs.length ≤ 140737488355328
section
variable {w W W' : World} {v v' : Value} {xs : List Int} {Lo Lo' : Nat}
theorem BsIn.to (h : BsIn W v xs) (hb : Below W.heap.size W W') : BsIn W' v xs := by
  obtain ⟨A, c, h1, h2, h3⟩ := h
  exact ⟨A, c, h1, (h2.below hb).more hb.size, h3⟩
theorem BsTw.to (h : BsTw W Lo v xs) (hb : Below W.heap.size W W') : BsTw W' Lo v xs := by
  obtain ⟨g, h1, h2, h3, h4⟩ := h
  exact ⟨g, h1, h2, h3.below hb h3.lt, h4⟩
theorem BsTw.lo (h : BsTw W Lo v xs) (hl : Lo' ≤ Lo) : BsTw W Lo' v xs := by
  obtain ⟨g, h1, h2, h3, h4⟩ := h
  exact ⟨g, h1, by omega, h3, h4⟩
theorem BsTw.cells (h : BsTw W Lo v xs) {b : Nat} (hb : b < Lo) (o : Nat) (vs : List Value) : BsTw (W.setCells b o vs) Lo v xs := by
  obtain ⟨g, h1, h2, h3, h4⟩ := h
  exact ⟨g, h1, h2, h3.farCells b vs o _ (by omega), h4⟩
theorem BsTw.bs (h : BsTw W Lo v xs) : BsIn W v xs := by
  obtain ⟨g, h1, h2, h3, h4⟩ := h
  exact ⟨_, _, h1, h3.twin_rd h3.lt (by unfold maxLen; omega), h4⟩
theorem BsTw.fr {S : Nat → Prop} (h : BsTw W Lo v xs) (hf : Fr S W W') (hS : ∀ k, Lo ≤ k → ¬ S k) : BsTw W' Lo v xs := by
  obtain ⟨g, h1, h2, h3, h4⟩ := h
  exact ⟨g, h1, h2, h3.fr hf (hS g h2), h4⟩
theorem BsTw.sl (h : BsTw W Lo v xs) : v.oneCell' = true := by
  obtain ⟨g, rfl, _⟩ := h
  rfl
theorem below_drewN (w : World) : ∀ m, Below w.heap.size w (w.drewN m)
  | 0 => Below.refl _ w
  | m + 1 => ⟨rfl, rfl, rfl, Nat.le_refl _, fun _ _ => rfl⟩
theorem sameB_any (W : World) (h : BsIn W v xs) (h' : BsIn W v' xs) : Calls Tryd.prog 47 #[v, v'] W fun r W' => r = .returned (.bool true) ∧ Below W.heap.size W W' := by
  obtain ⟨A, c, rfl, h2, h3⟩ := h
  obtain ⟨A', c', rfl, h2', _⟩ := h'
  exact (same_yes W _ A A' _ c c' xs h2 h2').mono fun r W' ⟨h4, m, h5⟩ => ⟨h4, h5 ▸ below_drewN W m⟩
theorem twinB_any (W : World) (h : BsIn W v xs) : Calls Tryd.prog 21 #[v] W fun r W' => ∃ v', r = .returned v' ∧ BsTw W' W.heap.size v' xs ∧ Below W.heap.size W W' := by
  obtain ⟨A, c, rfl, h2, h3⟩ := h
  exact (twinBytes_any W A _ c xs h2 h3).mono fun r W' ⟨h4, h5, h6, h7⟩ => ⟨_, h4, ⟨_, rfl, Nat.le_refl _, h5, h3⟩, h6.below (Nat.le_refl _) (fun _ e => e.elim)⟩
theorem leftB_any (W : World) (h : BsTw W Lo v xs) (h' : BsIn W v' xs) : Calls Tryd.prog 31 #[v, v'] W fun r W' => r = .returned (.bool true) ∧ Below W.heap.size W W' := by
  obtain ⟨g, rfl, _, h2, h3⟩ := h
  obtain ⟨A', c', rfl, h2', _⟩ := h'
  exact (leftBytes_yes W g A' _ c' xs h2 h2' h3).mono fun r W' ⟨h4, m, h5⟩ => ⟨h4, h5 ▸ below_drewN W m⟩
end
end Go.Proofs.YtlckfnfmekgnkaaDoor
