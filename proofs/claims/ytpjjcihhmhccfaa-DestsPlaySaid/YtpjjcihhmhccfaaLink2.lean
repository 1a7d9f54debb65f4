/- What the cache makes of its entries is what the reference makes: looks, lower mtus, visits. No condition. -/
import Derived.Test.YtpjjcihhmhccfaaLink
namespace Go.Proofs.Ytpjjcihhmhccfaa
set_option linter.unusedVariables false
set_option linter.unusedSimpArgs false

section
variable {x y : List Int} {os rest : List En} {b : Nat} {e : E} {m now : Int}
theorem mk_addr (hm : Mk x os b e rest) : e.1 = x := by
  rcases hm with ⟨hf, _⟩ | ⟨_, rfl, _⟩
  · exact (fo_some hf).2
  · rfl
theorem link_no (h1 : os.Pairwise fun a b => a.1 ≠ b.1) (h2 : os.Pairwise fun a b => a.2.1 ≠ b.2.1) (hok : ∀ o ∈ os, IsE o.2) : lowNo m x os = lowR m (oldE x (os.map (·.2))) := by
  cases hf : fo x os with
  | none =>
    rw [lowNo, hf, old_none hf, lowR]
    simp [newE]
  | some o =>
    obtain ⟨b, e⟩ := o
    have h0 := (hok _ (fo_some hf).1).m.1
    rw [lowNo, hf, old_some h1 h2 hf, lowR]
    congr 2
    by_cases hz : e.2.2.1 = 0
    · simp [hz]
    · have : 0 < e.2.2.1 := by simp only at h0; omega
      simp [hz, this]
theorem low_bare (hm : 1280 ≤ m) : bareE (lowE now m e) = false := by
  have h5 : (m == 0) = false := by simp only [beq_eq_false_iff_ne]; omega
  simp only [bareE, lowE, h5, Bool.and_false]
/-- A lower mtu. -/
theorem link_low (h1 : os.Pairwise fun a b => a.1 ≠ b.1) (h2 : os.Pairwise fun a b => a.2.1 ≠ b.2.1) (h32 : os.length ≤ 32) (hm : 1280 ≤ m) (hmk : Mk x os b e rest) :
    ((b, lowE now m e) :: rest).map (·.2) = frontE (lowE now m (oldE x (os.map (·.2)))) (os.map (·.2)) := by
  obtain ⟨ho, hc⟩ := link_mk h1 h2 h32 hmk
  rw [ho, frontE, low_bare hm, show (lowE now m e).1 = x from (show e.1 = x from mk_addr hmk), hc]
  rfl
/-- A look. -/
theorem link_tch (h1 : os.Pairwise fun a b => a.1 ≠ b.1) (h2 : os.Pairwise fun a b => a.2.1 ≠ b.2.1) (h32 : os.length ≤ 32) (hnb : ∀ o ∈ os, bareE o.2 = false) : (tch x os).map (·.2) = ofL x (os.map (·.2)) := by
  cases hf : fo x os with
  | none => rw [tch, hf, ofL, link_none hf]; rfl
  | some o =>
    obtain ⟨b, e⟩ := o
    obtain ⟨j, hi, hej, hr⟩ := link_some h1 h2 hf
    have hb := fo_some hf
    rw [tch, hf, ofL, hi, if_neg (by omega), old_some h1 h2 hf, frontE, hnb _ hb.1, if_neg (by decide), show e.1 = x from hb.2, hr, cut32, if_neg (by rw [List.length_map]; have := out_len hb.1; omega)]
    rfl
theorem link_vis {d : E → Bool} {t : E → E} (hnb : ∀ o ∈ os, bareE o.2 = false) : (visO d t os).map (·.2) = ((os.map (·.2)).map fun e => if d e then t e else e).filter nb := by
  induction os with
  | nil => rfl
  | cons o os ih =>
    have ih := ih (fun o ho => hnb o (List.mem_cons_of_mem _ ho))
    rw [visO] at ih ⊢
    rw [List.filterMap_cons, List.map_cons, List.map_cons]
    cases hd : d o.2 with
    | true =>
      cases hb : bareE (t o.2) with
      | true =>
        simp only [hd, hb, ↓reduceIte]
        rw [List.filter_cons_of_neg (by simp [nb, hb])]
        exact ih
      | false =>
        simp only [hd, hb, ↓reduceIte, Bool.false_eq_true, List.map_cons]
        rw [List.filter_cons_of_pos (by simp [nb, hb]), ih]
    | false =>
      simp only [hd, ↓reduceIte, Bool.false_eq_true, List.map_cons]
      rw [List.filter_cons_of_pos (by simp [nb, hnb o (by simp)]), ih]
theorem link_tick (hnb : ∀ o ∈ os, bareE o.2 = false) : (visO (dueE now) overE os).map (·.2) = ((os.map (·.2)).map (tk now)).filter nb := link_vis hnb
theorem link_forg (hnb : ∀ o ∈ os, bareE o.2 = false) : (forgO x os).map (·.2) = ((os.map (·.2)).map (fk x)).filter nb := by
  cases hz : (x == zeroA) with
  | true =>
    rw [forgO, hz, if_pos rfl, show (os.map (·.2)).map (fk x) = os.map (·.2) from ?_, List.filter_eq_self.2 (fun e he => ?_)]
    · obtain ⟨o, ho, rfl⟩ := List.mem_map.1 he
      rw [nb, hnb o ho]; rfl
    · conv => rhs; rw [← List.map_id (os.map (·.2))]
      exact List.map_congr_left fun e _ => by rw [fk, wayZ, hz]; rfl
  | false =>
    rw [forgO, hz, if_neg (by decide), link_vis hnb]
    congr 1
    exact List.map_congr_left fun e _ => by rw [fk, wayZ, hz]; rfl
theorem link_cnt : (forgN x os) = cntZ x (os.map (·.2)) := by
  cases hz : (x == zeroA) with
  | true =>
    rw [forgN, hz, if_pos rfl, cntZ, List.filter_eq_nil_iff.2 (fun e _ => by simp [wayZ, hz])]; rfl
  | false =>
    rw [forgN, hz, if_neg (by decide), numW, cntZ, List.filter_map, List.length_map]
    congr 1
    exact List.filter_congr fun o _ => by simp [wayZ, hz]
end
end Go.Proofs.Ytpjjcihhmhccfaa
