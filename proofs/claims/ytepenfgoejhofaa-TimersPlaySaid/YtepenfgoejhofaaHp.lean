/- A set of timers in memory: the row of pointers, the boxes; two change places; is one less. Each function walked once. No condition. -/
import Derived.Test.YtepenfgoejhofaaCmp
import Derived.Deep.RegionHeld3
namespace Go.Proofs.Ytepenfgoejhofaa
open Go.ChangeShapes Go.WideShapes Go.ChangeAt Go.RowKit Go.Deep
set_option linter.unusedVariables false
set_option linter.unusedSimpArgs false

abbrev boxV (t : T3) (j : Nat) : Array Value := #[.int .u8 t.1, .int .u64 t.2.1, .int .u64 t.2.2, .int .i64 (j : Int)]
/-- The row of a set at block B, and its boxes; F: the blocks that may be its own. -/
structure Hp (W : World) (F : Nat → Prop) (B : Nat) (A : Option Addr) (n c : Nat) (mv : Value) (L : Xs) : Prop where
  len : L.length = n
  set : Blk W B 50 #[.slice A n c, mv]
  own : W.ownsRow 0 58 1 (.slice A n c) n (L.map fun x => ptr x.1)
  box : ∀ j x, L[j]? = some x → Blk W x.1 61 (boxV x.2 j)
  fb : F B
  fg : ∀ k, (Value.slice A n c).ownBlock = some k → F k
  fx : ∀ x ∈ L, F x.1
section
variable {w W W' : World} {F S : Nat → Prop} {B n c : Nat} {A : Option Addr} {mv : Value} {L : Xs}
theorem own_row {W : World} {g n c j : Nat} {xs : List Value} {v : Value} (h : W.ownsRow 0 58 1 (.slice (some ⟨g, 0, none⟩) n c) n xs) (hj : xs[j]? = some v) : W.cell? ⟨g, j, none⟩ = some v := by
  rcases h.2 with ⟨h', _⟩ | ⟨g', cap', cur, h', hb, hg, hnc, hcm, hcs, htake⟩
  · simp at h'
  · simp only [Value.slice.injEq, Option.some.injEq, Addr.mk.injEq, and_true, true_and] at h'
    obtain ⟨rfl, rfl⟩ := h'
    rw [Blk.cell (t := 58) hg]
    rw [← htake, List.getElem?_take] at hj
    split at hj
    · simpa using hj
    · cases hj
theorem own_blk {W : World} {g n c : Nat} {xs : List Value} (h : W.ownsRow 0 58 1 (.slice (some ⟨g, 0, none⟩) n c) n xs) : ∃ cs, Blk W g 58 cs := by
  rcases h.2 with ⟨h', _⟩ | ⟨g', cap', cur, h', hb, hg, hnc, hcm, hcs, htake⟩
  · simp at h'
  · simp only [Value.slice.injEq, Option.some.injEq, Addr.mk.injEq, and_true, true_and] at h'
    obtain ⟨rfl, rfl⟩ := h'
    exact ⟨_, hg⟩
theorem Hp.at_ (h : Hp W F B A n c mv L) {j : Nat} {x : Nat × T3} (hj : L[j]? = some x) : ∃ g, A = some ⟨g, 0, none⟩ ∧ F g ∧ W.cell? ⟨g, j, none⟩ = some (ptr x.1) ∧ j < n ∧ n ≤ c ∧ c ≤ maxLen := by
  have hl := lt_of_some hj
  have hlen := h.len
  have ho := h.own
  rcases ho.2 with ⟨h', hn⟩ | ⟨g, cap', cur, h', hb, hg, hnc, hcm, hcs, htake⟩
  · omega
  · injection h' with hA hn' hc'
    subst hA hc'
    exact ⟨g, rfl, h.fg g rfl, own_row ho (by rw [List.getElem?_map, hj]; rfl), by omega, hnc, hcm⟩
theorem Hp.bx (h : Hp W F B A n c mv L) {i j : Nat} {a b : Nat × T3} (ha : L[i]? = some a) (hb : L[j]? = some b) (hij : i ≠ j) : a.1 ≠ b.1 := fun e => by
  have h1 := h.box i a ha
  have h2 := h.box j b hb
  rw [← e] at h2
  have := (h1.eq_ h2).2
  have h3 := congrArg (·[3]?) this
  simp at h3
  omega
theorem blk_ne {W : World} {g k : Nat} {t t' : TypeId} {cs cs' : Array Value} (h : Blk W g t cs) (h' : Blk W k t' cs') (ht : t ≠ t') : g ≠ k := fun e => by
  subst e
  exact ht (h.eq_ h').1
theorem Hp.fr (h : Hp W F B A n c mv L) (hf : Fr S W W') (hd : ∀ k, F k → ¬ S k) : Hp W' F B A n c mv L :=
  ⟨h.len, h.set.fr hf (hd _ h.fb), ownRow_fr h.own hf (fun k hk => hd k (h.fg k hk)), fun j x hj => (h.box j x hj).fr hf (hd _ (h.fx x (List.mem_of_getElem? hj))), h.fb, h.fg, h.fx⟩
theorem Hp.mono (h : Hp W F B A n c mv L) {G : Nat → Prop} (hG : ∀ k, F k → G k) : Hp W G B A n c mv L := ⟨h.len, h.set, h.own, h.box, hG _ h.fb, fun k hk => hG _ (h.fg k hk), fun x hx => hG _ (h.fx x hx)⟩
theorem Hp.bel (h : Hp W F B A n c mv L) (hb : Below W.heap.size W W') : Hp W' F B A n c mv L := h.fr (S := fun _ => False) (Fr.of_below hb _) (fun _ _ h => h)
/-- Two change places. -/
def swapW (W : World) (g i j : Nat) (a b : Nat × T3) : World := (((W.setCell ⟨g, i, none⟩ (ptr b.1)).setCell ⟨g, j, none⟩ (ptr a.1)).setCell ⟨b.1, 3, none⟩ (.int .i64 (i : Int))).setCell ⟨a.1, 3, none⟩ (.int .i64 (j : Int))
theorem Hp.swap {g : Nat} (h : Hp W F B (some ⟨g, 0, none⟩) n c mv L) {i j : Nat} {a b : Nat × T3} (ha : L[i]? = some a) (hb : L[j]? = some b) (hij : i ≠ j) :
    Hp (swapW W g i j a b) F B (some ⟨g, 0, none⟩) n c mv (swp L i j) ∧ Fr F W (swapW W g i j a b) := by
  obtain ⟨cs, hg⟩ := own_blk h.own
  have hab := h.bx ha hb hij
  have hA := h.box i a ha
  have hB := h.box j b hb
  have fG : F g := h.fg g rfl
  have fA := h.fx a (List.mem_of_getElem? ha)
  have fB := h.fx b (List.mem_of_getElem? hb)
  have nBg := blk_ne h.set hg (by decide)
  have nBa := blk_ne h.set hA (by decide)
  have nBb := blk_ne h.set hB (by decide)
  have nga := blk_ne hg hA (by decide)
  have ngb := blk_ne hg hB (by decide)
  have o1 := (h.own.stored i (ptr b.1)).1
  have o2 := (o1.stored j (ptr a.1)).1
  have hmap : ((L.map fun x => ptr x.1).set i (ptr b.1)).set j (ptr a.1) = (swp L i j).map fun x => ptr x.1 := by
    rw [swp_eq ha hb]; simp [List.map_set]
  rw [hmap] at o2
  refine ⟨⟨by rw [swp_len ha hb]; exact h.len, ((((h.set.far nBg _).far nBg _).far nBb _).far nBa _), ?_, ?_, h.fb, h.fg, fun x hx => h.fx x ((swp_perm ha hb).mem_iff.1 hx)⟩, ?_⟩
  · refine ownRow_fr (ownRow_fr o2 ((Fr.refl (· = b.1) _).setB _) (fun k hk => ?_)) ((Fr.refl (· = a.1) _).setB _) (fun k hk => ?_)
    · obtain rfl : g = k := by simpa [Value.ownBlock] using hk
      exact ngb
    · obtain rfl : g = k := by simpa [Value.ownBlock] using hk
      exact nga
  · intro k x hk
    rw [swp_get ha hb] at hk
    have far2 : ∀ {y : Nat} {cs : Array Value}, Blk W y 61 cs → Blk ((W.setCell ⟨g, i, none⟩ (ptr b.1)).setCell ⟨g, j, none⟩ (ptr a.1)) y 61 cs := fun hy => by
      have ny := blk_ne hg hy (by decide)
      exact (hy.far (p := ⟨g, i, none⟩) ny.symm _).far (p := ⟨g, j, none⟩) ny.symm _
    by_cases e : k = j
    · rw [if_pos e] at hk; cases hk
      subst e
      have := ((far2 hA).far (p := ⟨b.1, 3, none⟩) hab (.int .i64 (i : Int))).set 3 (.int .i64 (k : Int))
      exact this
    · rw [if_neg e] at hk
      by_cases e' : k = i
      · rw [if_pos e'] at hk; cases hk
        subst e'
        have := ((far2 hB).set 3 (.int .i64 (k : Int))).far (p := ⟨a.1, 3, none⟩) hab.symm (.int .i64 (j : Int))
        exact this
      · rw [if_neg e'] at hk
        exact ((far2 (h.box k x hk)).far (p := ⟨b.1, 3, none⟩) (h.bx hk hb e) _).far (p := ⟨a.1, 3, none⟩) (h.bx hk ha e') _
  · exact ((((Fr.refl F W).setCell (.inl fG) _).setCell (.inl fG) _).setCell (.inl fB) _).setCell (.inl fA) _
end
end Go.Proofs.Ytepenfgoejhofaa
