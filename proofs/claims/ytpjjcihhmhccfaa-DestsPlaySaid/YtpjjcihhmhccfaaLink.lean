/- What the cache makes of its entries is what the reference makes: plain law. No condition. -/
import Derived.Test.YtpjjcihhmhccfaaRefForg
import Derived.Test.YtpjjcihhmhccfaaOlds
namespace Go.Proofs.Ytpjjcihhmhccfaa
set_option linter.unusedVariables false
set_option linter.unusedSimpArgs false

section
variable {x y : List Int} {os rest : List En} {b : Nat} {e : E}
theorem link_none (hf : fo x os = none) : idx (isA x) (os.map (·.2)) = -1 := idx_none (by
  rw [List.any_eq_false]
  intro e he
  obtain ⟨o, ho, rfl⟩ := List.mem_map.1 he
  have := fo_none hf o ho
  simpa [isA] using this)
theorem link_some (h1 : os.Pairwise fun a b => a.1 ≠ b.1) (h2 : os.Pairwise fun a b => a.2.1 ≠ b.2.1) (hf : fo x os = some (b, e)) :
    ∃ j : Nat, idx (isA x) (os.map (·.2)) = j ∧ (os.map (·.2))[j]? = some e ∧ rmv x (os.map (·.2)) = (outO b os).map (·.2) := by
  obtain ⟨hb, hx⟩ := fo_some hf
  rcases idx_cases (p := isA x) (os.map (·.2)) with ⟨_, hno⟩ | ⟨j, e', hi, hej, hd, _⟩
  · rw [List.any_eq_false] at hno
    exact absurd (by simpa [isA] using hx) (hno e (List.mem_map_of_mem hb))
  · have hd' : e'.1 = x := by simpa [isA] using hd
    obtain ⟨o, ho, rfl⟩ := List.mem_map.1 (List.mem_of_getElem? hej)
    obtain rfl : o = (b, e) := nd_uniq h2 ho hb (hd'.trans hx.symm)
    refine ⟨j, hi, hej, ?_⟩
    rw [rmv, hi, if_neg (by omega), Int.toNat_natCast]
    obtain ⟨hj, hj2⟩ := List.getElem?_eq_some_iff.1 hej
    have hm : os.map (·.2) = (os.map (·.2)).take j ++ e :: (os.map (·.2)).drop (j + 1) := by
      conv => lhs; rw [← List.take_append_drop j (os.map (·.2)), List.drop_eq_getElem_cons hj, hj2]
    exact (out_map h1 h2 hm hb).symm
theorem rmv_none (hf : fo x os = none) : rmv x (os.map (·.2)) = os.map (·.2) := by rw [rmv, link_none hf]; rfl
theorem old_none (hf : fo x os = none) : oldE x (os.map (·.2)) = newE x := by rw [oldE, link_none hf]; rfl
theorem old_some (h1 : os.Pairwise fun a b => a.1 ≠ b.1) (h2 : os.Pairwise fun a b => a.2.1 ≠ b.2.1) (hf : fo x os = some (b, e)) : oldE x (os.map (·.2)) = e := by
  obtain ⟨j, hi, hej, _⟩ := link_some h1 h2 hf
  rw [oldE, hi, if_neg (by omega), Int.toNat_natCast, hej]; rfl
theorem link_of (h1 : os.Pairwise fun a b => a.1 ≠ b.1) (h2 : os.Pairwise fun a b => a.2.1 ≠ b.2.1) : ofE x os = oldE x (os.map (·.2)) := by
  cases hf : fo x os with
  | none => rw [ofE, hf, old_none hf]
  | some o => obtain ⟨b, e⟩ := o; rw [ofE, hf, old_some h1 h2 hf]
theorem out_len (hb : (b, e) ∈ os) : (outO b os).length < os.length := by
  have h := List.length_filter_lt_length_iff_exists (p := fun p : En => !(p.1 == b)) (l := os)
  exact h.2 ⟨(b, e), hb, by simp⟩
/-- What the cache holds in front, and behind it, is what the reference cuts. -/
theorem link_mk (h1 : os.Pairwise fun a b => a.1 ≠ b.1) (h2 : os.Pairwise fun a b => a.2.1 ≠ b.2.1) (h32 : os.length ≤ 32) (hm : Mk x os b e rest) :
    oldE x (os.map (·.2)) = e ∧ cut32 (rmv x (os.map (·.2))) = rest.map (·.2) := by
  rcases hm with ⟨hf, rfl⟩ | ⟨hf, rfl, rfl⟩
  · obtain ⟨j, hi, hej, hr⟩ := link_some h1 h2 hf
    refine ⟨old_some h1 h2 hf, ?_⟩
    rw [hr, cut32, if_neg (by rw [List.length_map]; have := out_len (fo_some hf).1; omega)]
  · refine ⟨old_none hf, ?_⟩
    rw [rmv_none hf, cut32, room, List.length_map]
    by_cases h : os.length = 32
    · rw [if_pos h, if_pos h, List.map_dropLast, List.dropLast_eq_take, List.length_map, h]
    · rw [if_neg h, if_neg h]
end
end Go.Proofs.Ytpjjcihhmhccfaa
