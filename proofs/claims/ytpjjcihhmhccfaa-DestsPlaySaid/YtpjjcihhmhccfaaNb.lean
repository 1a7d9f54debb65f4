/- No entry of a cache is bare, whatever is done. No condition. -/
import Derived.Test.YtpjjcihhmhccfaaRedMore
namespace Go.Proofs.Ytpjjcihhmhccfaa
set_option linter.unusedVariables false
set_option linter.unusedSimpArgs false

def Nbo (os : List En) : Prop := ∀ o ∈ os, bareE o.2 = false
section
variable {x y : List Int} {os rest : List En} {b : Nat} {e : E} {m now : Int}
theorem nbo_mk (h : Nbo os) (hm : Mk x os b e rest) : Nbo rest := by
  rcases hm with ⟨_, rfl⟩ | ⟨_, _, rfl⟩
  · exact fun o ho => h o (List.mem_filter.1 ho).1
  · intro o ho
    unfold room at ho
    split at ho
    · exact h o (List.dropLast_subset _ ho)
    · exact h o ho
theorem nbo_red (h : Nbo os) (hm : Mk x os b e rest) : Nbo (bareO b (e.1, y, e.2.2) ((b, (e.1, y, e.2.2)) :: rest)) := by
  have h1 := nbo_mk h hm
  intro o ho
  unfold bareO at ho
  split at ho
  · obtain ⟨h3, h4⟩ := List.mem_filter.1 ho
    rcases List.mem_cons.1 h3 with rfl | h3
    · simp at h4
    · exact h1 o h3
  · rename_i hb
    rcases List.mem_cons.1 ho with rfl | ho
    · simpa using hb
    · exact h1 o ho
theorem nbo_low (h : Nbo os) (hm : Mk x os b e rest) (hm0 : 1280 ≤ m) : Nbo ((b, lowE now m e) :: rest) := fun o ho => by
  rcases List.mem_cons.1 ho with rfl | ho
  · exact low_bare hm0
  · exact nbo_mk h hm o ho
theorem nbo_tch (h : Nbo os) : Nbo (tch x os) := by
  rw [tch]
  split
  · exact h
  · rename_i o hf
    intro p hp
    rcases List.mem_cons.1 hp with rfl | hp
    · exact h _ (fo_some hf).1
    · exact h p (List.mem_filter.1 hp).1
theorem nbo_vis {d : E → Bool} {t : E → E} (h : Nbo os) : Nbo (visO d t os) := by
  intro o ho
  obtain ⟨p, hp, hpo⟩ := List.mem_filterMap.1 ho
  cases hd : d p.2 with
  | true =>
    cases hb : bareE (t p.2) with
    | true => simp [hd, hb] at hpo
    | false => simp [hd, hb] at hpo; rw [← hpo]; exact hb
  | false => simp [hd] at hpo; rw [← hpo]; exact h p hp
theorem nbo_forg (h : Nbo os) : Nbo (forgO x os) := by
  rw [forgO]
  split
  · exact h
  · exact nbo_vis h
end
end Go.Proofs.Ytpjjcihhmhccfaa
