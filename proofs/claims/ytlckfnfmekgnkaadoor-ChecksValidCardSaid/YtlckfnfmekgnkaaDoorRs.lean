/- Lists of records: whether two are the same; a twin of one; whether a twin is as it was made. Each function walked once. No condition. -/
import Derived.Test.YtlckfnfmekgnkaaDoorOs3
namespace Go.Proofs.YtlckfnfmekgnkaaDoor
open Go.ChangeShapes Go.WideShapes Go.ChangeAt Go.RowKit Go.Deep
set_option linter.unusedVariables false
set_option linter.unusedSimpArgs false

abbrev Rec3 := Int × List Int × List (List Int)
abbrev encR (r : Rec3) (v : Value) : List Value := .int .u8 r.1 :: (encA r.2.1 ++ [v])
theorem encR_len {r : Rec3} {v : Value} (h : IsAddr r.2.1) : (encR r v).length = 18 := by simp [h.len]
theorem info53z : (Tryd.prog.info? 53).map (fun i => (i.zero, i.size, i.bytes)) = some (some (.agg (encR (0, zeroA, []) (.slice none 0 0)).toArray), 18, 48) := by kernel_rfl
theorem sz53 : (Tryd.prog.info? 53).map (·.size) = some 18 := by kernel_rfl
theorem rec_kind {V : World} {b o : Nat} {r : Rec3} {v : Value} (h : V.rangeAt b o (encR r v)) : V.cell? ⟨b, o, none⟩ = some (.int .u8 r.1) := h 0 _ rfl
theorem rec_group {V : World} {b o : Nat} {r : Rec3} {v : Value} (h : V.rangeAt b o (encR r v)) (ha : IsAddr r.2.1) : V.rangeAt b (o + 1) (encA r.2.1) := fun j u hu => by
  have hj := (List.getElem?_eq_some_iff.1 hu).1
  have := h (j + 1) u (by rw [encR, List.getElem?_cons_succ, List.getElem?_append_left hj]; exact hu)
  rwa [show o + (j + 1) = o + 1 + j by omega] at this
theorem rec_from {V : World} {b o : Nat} {r : Rec3} {v : Value} (h : V.rangeAt b o (encR r v)) (ha : IsAddr r.2.1) : V.cell? ⟨b, o + 17, none⟩ = some v := h 17 _ (by rw [encR, List.getElem?_cons_succ, List.getElem?_append_right (by rw [encA_len ha]; omega), encA_len ha]; rfl)
def PR (W : World) (os : List Rec3) (i : Nat) (l : List Value) : Prop := ∃ o v', os[i]? = some o ∧ l = encR o v' ∧ AsIn W v' o.2.2 ∧ IsAddr o.2.1
def oddR : List Value := encR (201, zeroA, []) (.slice none 0 0)
def PRT (W : World) (Lo : Nat) (os : List Rec3) (i : Nat) (l : List Value) : Prop := if i < os.length then ∃ o v', os[i]? = some o ∧ l = encR o v' ∧ AsTw W Lo v' o.2.2 ∧ IsAddr o.2.1 else l = oddR
def RsIn (W : World) (v : Value) (os : List Rec3) : Prop := ∃ A c, v = .slice A os.length c ∧ Lst W 18 A os.length c (PR W os) ∧ os.length * 48 ≤ 140737488355328
def RsTw (W : World) (Lo : Nat) (v : Value) (os : List Rec3) : Prop := ∃ g cs, v = .slice (some ⟨g, 0, none⟩) os.length (os.length + 4) ∧ Lo ≤ g ∧ Blk W g 53 cs ∧ cs.size = (os.length + 4) * 18 ∧ Rows cs 18 (os.length + 4) (PRT W Lo os) ∧ os.length * 48 ≤ 140737488355328
section
variable {w W W' : World} {v v' : Value} {os : List Rec3} {Lo Lo' : Nat}
theorem PR.to {i : Nat} {l : List Value} (h : PR W os i l) (hb : Below W.heap.size W W') : PR W' os i l := by
  obtain ⟨o, v', h1, h2, h3, h4⟩ := h
  exact ⟨o, v', h1, h2, h3.to hb, h4⟩
theorem PRT.to {i : Nat} {l : List Value} (h : PRT W Lo os i l) (hb : Below W.heap.size W W') : PRT W' Lo os i l := by
  unfold PRT at h ⊢
  split
  · rw [if_pos (by assumption)] at h
    obtain ⟨o, v', h1, h2, h3, h4⟩ := h
    exact ⟨o, v', h1, h2, h3.to hb, h4⟩
  · rwa [if_neg (by assumption)] at h
theorem PRT.lo {i : Nat} {l : List Value} (h : PRT W Lo os i l) (hl : Lo' ≤ Lo) : PRT W Lo' os i l := by
  unfold PRT at h ⊢
  split
  · rw [if_pos (by assumption)] at h
    obtain ⟨o, v', h1, h2, h3, h4⟩ := h
    exact ⟨o, v', h1, h2, h3.lo hl, h4⟩
  · rwa [if_neg (by assumption)] at h
theorem PRT.cells {i : Nat} {l : List Value} (h : PRT W Lo os i l) {b : Nat} (hb : b < Lo) (o : Nat) (vs : List Value) : PRT (W.setCells b o vs) Lo os i l := by
  unfold PRT at h ⊢
  split
  · rw [if_pos (by assumption)] at h
    obtain ⟨x, v', h1, h2, h3, h4⟩ := h
    exact ⟨x, v', h1, h2, h3.cells hb o vs, h4⟩
  · rwa [if_neg (by assumption)] at h
theorem PRT.odd {i : Nat} (h : os.length ≤ i) : PRT W Lo os i oddR := by
  unfold PRT; rw [if_neg (by omega)]
theorem PRT.real {i : Nat} {o : Rec3} (h : os[i]? = some o) (hb : AsTw W Lo v' o.2.2) (ha : IsAddr o.2.1) : PRT W Lo os i (encR o v') := by
  have hi := (List.getElem?_eq_some_iff.1 h).1
  unfold PRT; rw [if_pos hi]; exact ⟨o, v', h, rfl, hb, ha⟩
theorem RsIn.to (h : RsIn W v os) (hb : Below W.heap.size W W') : RsIn W' v os := by
  obtain ⟨A, c, h1, h2, h3⟩ := h
  exact ⟨A, c, h1, h2.to hb (fun _ _ h => h.to hb), h3⟩
theorem RsTw.to (h : RsTw W Lo v os) (hb : Below W.heap.size W W') : RsTw W' Lo v os := by
  obtain ⟨g, cs, h1, h2, h3, h4, h5, h6⟩ := h
  exact ⟨g, cs, h1, h2, h3.below hb h3.lt, h4, h5.imp (fun _ _ _ h => h.to hb), h6⟩
theorem PRT.fr {S : Nat → Prop} {i : Nat} {l : List Value} (h : PRT W Lo os i l) (hf : Fr S W W') (hS : ∀ k, Lo ≤ k → ¬ S k) : PRT W' Lo os i l := by
  unfold PRT at h ⊢
  split
  · rw [if_pos (by assumption)] at h
    obtain ⟨o, v', h1, h2, h3, h4⟩ := h
    exact ⟨o, v', h1, h2, h3.fr hf hS, h4⟩
  · rwa [if_neg (by assumption)] at h
theorem RsTw.fr {S : Nat → Prop} (h : RsTw W Lo v os) (hf : Fr S W W') (hS : ∀ k, Lo ≤ k → ¬ S k) : RsTw W' Lo v os := by
  obtain ⟨g, cs, h1, h2, h3, h4, h5, h6⟩ := h
  exact ⟨g, cs, h1, h2, h3.fr hf (hS g h2), h4, h5.imp (fun _ _ _ h => h.fr hf hS), h6⟩
theorem RsTw.lo (h : RsTw W Lo v os) (hl : Lo' ≤ Lo) : RsTw W Lo' v os := by
  obtain ⟨g, cs, h1, h2, h3, h4, h5, h6⟩ := h
  exact ⟨g, cs, h1, by omega, h3, h4, h5.imp (fun _ _ _ h => h.lo hl), h6⟩
theorem RsTw.rs_ (h : RsTw W Lo v os) : RsIn W v os := by
  obtain ⟨g, cs, h1, _, h3, h4, h5, h6⟩ := h
  refine ⟨_, _, h1, Lst.of_rows h3 (fun j hj => ?_) (by omega) (by unfold maxLen; omega), h6⟩
  obtain ⟨l, h7, h8, h9⟩ := h5 j (by omega)
  unfold PRT at h9
  rw [if_pos hj] at h9
  obtain ⟨o, v', h10, h11, h12, h13⟩ := h9
  exact ⟨l, h7, h8, o, v', h10, h11, h12.as_, h13⟩
set_option maxRecDepth 100000 in
set_option maxHeartbeats 2000000 in
theorem sameR_any (w : World) (h : RsIn w v os) (h' : RsIn w v' os) : Calls Tryd.prog 51 #[v, v'] w fun r W' => r = .returned (.bool true) ∧ Below w.heap.size w W' := by
  obtain ⟨A, c, rfl, h2, h3⟩ := h
  obtain ⟨A', c', rfl, h2', _⟩ := h'
  have hcm := h2.cmax
  have hcn := h2.cap
  unfold maxLen at hcm
  obtain ⟨n, hn⟩ : ∃ n, os.length = n := ⟨_, rfl⟩
  rw [hn] at h2 h2' h3 hcn ⊢
  have H := hidd (And.intro h2 h2')
  have hn' := hidd hn
  clear h2 h2' hn
  have hgd := guard23
  go_enter Tryd.func51, Tryd.ntmps51
  go_wp2_with fail
  go_loopw [5] (fun i wr => ∃ k : Nat, k ≤ n ∧ i = .int .i64 k ∧ Hid (Below w.heap.size w wr)) (fun i _ => n - (intOf i).toNat)
  case atStart => exact ⟨0, Nat.zero_le _, rfl, hidd (Below.refl _ w)⟩
  case round =>
    obtain ⟨k, hk, rfl, hB⟩ := hrel
    by_cases hlt : k < n
    · have hz : (k : Int) < (n : Int) := by omega
      obtain ⟨b, off, rfl, hb, hc⟩ := H.out.1.at_ (by omega)
      obtain ⟨b', off', rfl, hb', hc'⟩ := H.out.2.at_ (by omega)
      obtain ⟨l, _, hr, o, v1, ha0, rfl, hv1, ha⟩ := hc k hlt
      obtain ⟨l', _, hr', o', v2, ha1, rfl, hv2, _⟩ := hc' k hlt
      rw [ha0] at ha1
      cases ha1
      have hS := hidd (fun (V : World) (h : Below w.heap.size w V) => (show (V.cell? ⟨b, off + k * 18, none⟩ = some (.int .u8 o.1) ∧ V.rangeAt b (off + k * 18 + 1) (encA o.2.1) ∧ V.cell? ⟨b, off + k * 18 + 17, none⟩ = some v1) ∧ V.cell? ⟨b', off' + k * 18, none⟩ = some (.int .u8 o.1) ∧ V.rangeAt b' (off' + k * 18 + 1) (encA o.2.1) ∧ V.cell? ⟨b', off' + k * 18 + 17, none⟩ = some v2 from ⟨⟨rec_kind (range_below hr h hb), rec_group (range_below hr h hb) ha, rec_from (range_below hr h hb) ha⟩, rec_kind (range_below hr' h hb'), rec_group (range_below hr' h hb') ha, rec_from (range_below hr' h hb') ha⟩))
      have S1 := hidd (hS.out wr.drew hB.out.drew)
      have hV := hidd (And.intro (hv1.to hB.out.drew) (hv2.to hB.out.drew))
      have hqe := fun V => eqA V ha ha
      replace hB := hidd hB.out.drew
      replace ha := hidd ha
      clear hc hc' hr hr' ha0 hv1 hv2
      go_wp2_with fail
      refine wp_region_held_drew (S := (fun V => (V.cell? ⟨b, off + k * 18, none⟩ = some (.int .u8 o.1) ∧ V.rangeAt b (off + k * 18 + 1) (encA o.2.1) ∧ V.cell? ⟨b, off + k * 18 + 17, none⟩ = some v1) ∧ V.cell? ⟨b', off' + k * 18, none⟩ = some (.int .u8 o.1) ∧ V.rangeAt b' (off' + k * 18 + 1) (encA o.2.1) ∧ V.cell? ⟨b', off' + k * 18 + 17, none⟩ = some v2)) (by kernel_rfl) S1.out (fun hHeld => ?_)
      generalize wr.drew = D at S1 hB hV hHeld ⊢
      refine wpAnyH_take (i := 0) (v := ?_) rfl (by kernel_rfl) (by kernel_rfl) (by kernel_rfl) (fun _ _ _ h => h) (Or.inl ⟨by kernel_rfl, ?_⟩) hHeld ?_
      rotate_left
      · intro wh hSw
        go_simp
        try with_reducible rfl
      try simp only [Act.put, List.getElem_toArray, List.getElem_cons_zero, List.getElem_cons_succ, List.setIfInBounds_toArray, List.set_cons_zero, List.set_cons_succ]
      refine wpAnyH_take (i := 1) (v := ?_) rfl (by kernel_rfl) (by kernel_rfl) (by kernel_rfl) (fun _ _ _ h => h) (Or.inl ⟨by kernel_rfl, ?_⟩) hHeld ?_
      rotate_left
      · intro wh hSw
        go_simp
        try with_reducible rfl
      try simp only [Act.put, List.getElem_toArray, List.getElem_cons_zero, List.getElem_cons_succ, List.setIfInBounds_toArray, List.set_cons_zero, List.set_cons_succ]
      refine wpAnyH_take (i := 2) (v := ?_) rfl (by kernel_rfl) (by kernel_rfl) (by kernel_rfl) (fun _ _ _ h => h) (Or.inl ⟨by kernel_rfl, ?_⟩) hHeld ?_
      rotate_left
      · intro wh hSw
        go_simp
        try with_reducible rfl
      try simp only [Act.put, List.getElem_toArray, List.getElem_cons_zero, List.getElem_cons_succ, List.setIfInBounds_toArray, List.set_cons_zero, List.set_cons_succ]
      refine wpAnyH_take (i := 3) (v := ?_) rfl (by kernel_rfl) (by kernel_rfl) (by kernel_rfl) (fun _ _ _ h => h) (Or.inl ⟨by kernel_rfl, ?_⟩) hHeld ?_
      rotate_left
      · intro wh hSw
        go_simp
        try with_reducible rfl
      try simp only [Act.put, List.getElem_toArray, List.getElem_cons_zero, List.getElem_cons_succ, List.setIfInBounds_toArray, List.set_cons_zero, List.set_cons_succ]
      refine wpAnyH_take (i := 4) (v := ?_) rfl (by kernel_rfl) (by kernel_rfl) (by kernel_rfl) (fun _ _ _ h => h) (Or.inl ⟨by kernel_rfl, ?_⟩) hHeld ?_
      rotate_left
      · intro wh hSw
        have hcell := hSw.1.1
        go_simp
        try with_reducible rfl
      try simp only [Act.put, List.getElem_toArray, List.getElem_cons_zero, List.getElem_cons_succ, List.setIfInBounds_toArray, List.set_cons_zero, List.set_cons_succ]
      refine wpAnyH_take (i := 5) (v := ?_) rfl (by kernel_rfl) (by kernel_rfl) (by kernel_rfl) (fun _ _ _ h => h) (Or.inl ⟨by kernel_rfl, ?_⟩) hHeld ?_
      rotate_left
      · intro wh hSw
        go_simp
        try with_reducible rfl
      try simp only [Act.put, List.getElem_toArray, List.getElem_cons_zero, List.getElem_cons_succ, List.setIfInBounds_toArray, List.set_cons_zero, List.set_cons_succ]
      refine wpAnyH_take (i := 6) (v := ?_) rfl (by kernel_rfl) (by kernel_rfl) (by kernel_rfl) (fun _ _ _ h => h) (Or.inl ⟨by kernel_rfl, ?_⟩) hHeld ?_
      rotate_left
      · intro wh hSw
        go_simp
        try with_reducible rfl
      try simp only [Act.put, List.getElem_toArray, List.getElem_cons_zero, List.getElem_cons_succ, List.setIfInBounds_toArray, List.set_cons_zero, List.set_cons_succ]
      refine wpAnyH_take (i := 7) (v := ?_) rfl (by kernel_rfl) (by kernel_rfl) (by kernel_rfl) (fun _ _ _ h => h) (Or.inl ⟨by kernel_rfl, ?_⟩) hHeld ?_
      rotate_left
      · intro wh hSw
        go_simp
        try with_reducible rfl
      try simp only [Act.put, List.getElem_toArray, List.getElem_cons_zero, List.getElem_cons_succ, List.setIfInBounds_toArray, List.set_cons_zero, List.set_cons_succ]
      refine wpAnyH_take (i := 8) (v := ?_) rfl (by kernel_rfl) (by kernel_rfl) (by kernel_rfl) (fun _ _ _ h => h) (Or.inl ⟨by kernel_rfl, ?_⟩) hHeld ?_
      rotate_left
      · intro wh hSw
        go_simp
        try with_reducible rfl
      try simp only [Act.put, List.getElem_toArray, List.getElem_cons_zero, List.getElem_cons_succ, List.setIfInBounds_toArray, List.set_cons_zero, List.set_cons_succ]
      refine wpAnyH_take (i := 9) (v := ?_) rfl (by kernel_rfl) (by kernel_rfl) (by kernel_rfl) (fun _ _ _ h => h) (Or.inl ⟨by kernel_rfl, ?_⟩) hHeld ?_
      rotate_left
      · intro wh hSw
        have hcell := hSw.2.1
        go_simp
        try with_reducible rfl
      try simp only [Act.put, List.getElem_toArray, List.getElem_cons_zero, List.getElem_cons_succ, List.setIfInBounds_toArray, List.set_cons_zero, List.set_cons_succ]
      refine wpAnyH_take (i := 10) (v := ?_) rfl (by kernel_rfl) (by kernel_rfl) (by kernel_rfl) (fun _ _ _ h => h) (Or.inl ⟨by kernel_rfl, ?_⟩) hHeld ?_
      rotate_left
      · intro wh hSw
        go_simp
        try with_reducible rfl
      try simp only [Act.put, List.getElem_toArray, List.getElem_cons_zero, List.getElem_cons_succ, List.setIfInBounds_toArray, List.set_cons_zero, List.set_cons_succ]
      refine wpAnyH_take (i := 11) (v := ?_) rfl (by kernel_rfl) (by kernel_rfl) (by kernel_rfl) (fun _ _ _ h => h) (Or.inl ⟨by kernel_rfl, ?_⟩) hHeld ?_
      rotate_left
      · intro wh hSw
        go_simp
        try with_reducible rfl
      try simp only [Act.put, List.getElem_toArray, List.getElem_cons_zero, List.getElem_cons_succ, List.setIfInBounds_toArray, List.set_cons_zero, List.set_cons_succ]
      refine wpAnyH_take (i := 12) (v := ?_) rfl (by kernel_rfl) (by kernel_rfl) (by kernel_rfl) (fun _ _ _ h => h) (Or.inl ⟨by kernel_rfl, ?_⟩) hHeld ?_
      rotate_left
      · intro wh hSw
        go_simp
        try with_reducible rfl
      try simp only [Act.put, List.getElem_toArray, List.getElem_cons_zero, List.getElem_cons_succ, List.setIfInBounds_toArray, List.set_cons_zero, List.set_cons_succ]
      refine wpAnyH_take (i := 13) (v := ?_) rfl (by kernel_rfl) (by kernel_rfl) (by kernel_rfl) (fun _ _ _ h => h) (Or.inl ⟨by kernel_rfl, ?_⟩) hHeld ?_
      rotate_left
      · intro wh hSw
        go_simp
        try with_reducible rfl
      try simp only [Act.put, List.getElem_toArray, List.getElem_cons_zero, List.getElem_cons_succ, List.setIfInBounds_toArray, List.set_cons_zero, List.set_cons_succ]
      refine wpAnyH_take (i := 14) (v := ?_) rfl (by kernel_rfl) (by kernel_rfl) (by kernel_rfl) (fun _ _ _ h => h) (Or.inl ⟨by kernel_rfl, ?_⟩) hHeld ?_
      rotate_left
      · intro wh hSw
        go_simp
        try with_reducible rfl
      try simp only [Act.put, List.getElem_toArray, List.getElem_cons_zero, List.getElem_cons_succ, List.setIfInBounds_toArray, List.set_cons_zero, List.set_cons_succ]
      refine wpAnyH_take (i := 15) (v := ?_) rfl (by kernel_rfl) (by kernel_rfl) (by kernel_rfl) (fun _ _ _ h => h) (Or.inl ⟨by kernel_rfl, ?_⟩) hHeld ?_
      rotate_left
      · intro wh hSw
        go_simp
        try with_reducible rfl
      try simp only [Act.put, List.getElem_toArray, List.getElem_cons_zero, List.getElem_cons_succ, List.setIfInBounds_toArray, List.set_cons_zero, List.set_cons_succ]
      refine wpAnyH_take (i := 16) rfl (by kernel_rfl) (by kernel_rfl) (by kernel_rfl) (fun _ _ _ h => h) (yieldsIf_load_want (by kernel_rfl) 23 _ rfl _ rfl _ (fun wh hSw => ldA hSw.1.2.1 ha.out)) hHeld ?_
      try simp only [Act.put, List.getElem_toArray, List.getElem_cons_zero, List.getElem_cons_succ, List.setIfInBounds_toArray, List.set_cons_zero, List.set_cons_succ]
      refine wpAnyH_take (i := 17) (v := ?_) rfl (by kernel_rfl) (by kernel_rfl) (by kernel_rfl) (fun _ _ _ h => h) (Or.inl ⟨by kernel_rfl, ?_⟩) hHeld ?_
      rotate_left
      · intro wh hSw
        go_simp
        try with_reducible rfl
      try simp only [Act.put, List.getElem_toArray, List.getElem_cons_zero, List.getElem_cons_succ, List.setIfInBounds_toArray, List.set_cons_zero, List.set_cons_succ]
      refine wpAnyH_take (i := 18) (v := ?_) rfl (by kernel_rfl) (by kernel_rfl) (by kernel_rfl) (fun _ _ _ h => h) (Or.inl ⟨by kernel_rfl, ?_⟩) hHeld ?_
      rotate_left
      · intro wh hSw
        go_simp
        try with_reducible rfl
      try simp only [Act.put, List.getElem_toArray, List.getElem_cons_zero, List.getElem_cons_succ, List.setIfInBounds_toArray, List.set_cons_zero, List.set_cons_succ]
      refine wpAnyH_take (i := 19) (v := ?_) rfl (by kernel_rfl) (by kernel_rfl) (by kernel_rfl) (fun _ _ _ h => h) (Or.inl ⟨by kernel_rfl, ?_⟩) hHeld ?_
      rotate_left
      · intro wh hSw
        go_simp
        try with_reducible rfl
      try simp only [Act.put, List.getElem_toArray, List.getElem_cons_zero, List.getElem_cons_succ, List.setIfInBounds_toArray, List.set_cons_zero, List.set_cons_succ]
      refine wpAnyH_take (i := 20) (v := ?_) rfl (by kernel_rfl) (by kernel_rfl) (by kernel_rfl) (fun _ _ _ h => h) (Or.inl ⟨by kernel_rfl, ?_⟩) hHeld ?_
      rotate_left
      · intro wh hSw
        go_simp
        try with_reducible rfl
      try simp only [Act.put, List.getElem_toArray, List.getElem_cons_zero, List.getElem_cons_succ, List.setIfInBounds_toArray, List.set_cons_zero, List.set_cons_succ]
      refine wpAnyH_take (i := 21) rfl (by kernel_rfl) (by kernel_rfl) (by kernel_rfl) (fun _ _ _ h => h) (yieldsIf_load_want (by kernel_rfl) 23 _ rfl _ rfl _ (fun wh hSw => ldA hSw.2.2.1 ha.out)) hHeld ?_
      try simp only [Act.put, List.getElem_toArray, List.getElem_cons_zero, List.getElem_cons_succ, List.setIfInBounds_toArray, List.set_cons_zero, List.set_cons_succ]
      refine wpAnyH_take (i := 22) (v := ?_) rfl (by kernel_rfl) (by kernel_rfl) (by kernel_rfl) (fun _ _ _ h => h) (Or.inl ⟨by kernel_rfl, ?_⟩) hHeld ?_
      rotate_left
      · intro wh hSw
        go_simp
        try with_reducible rfl
      try simp only [Act.put, List.getElem_toArray, List.getElem_cons_zero, List.getElem_cons_succ, List.setIfInBounds_toArray, List.set_cons_zero, List.set_cons_succ]
      refine wpAnyH_take (i := 23) (v := ?_) rfl (by kernel_rfl) (by kernel_rfl) (by kernel_rfl) (fun _ _ _ h => h) (Or.inl ⟨by kernel_rfl, ?_⟩) hHeld ?_
      rotate_left
      · intro wh hSw
        go_simp
        try with_reducible rfl
      try simp only [Act.put, List.getElem_toArray, List.getElem_cons_zero, List.getElem_cons_succ, List.setIfInBounds_toArray, List.set_cons_zero, List.set_cons_succ]
      refine wpAnyH_take (i := 24) (v := ?_) rfl (by kernel_rfl) (by kernel_rfl) (by kernel_rfl) (fun _ _ _ h => h) (Or.inl ⟨by kernel_rfl, ?_⟩) hHeld ?_
      rotate_left
      · intro wh hSw
        go_simp
        try with_reducible rfl
      try simp only [Act.put, List.getElem_toArray, List.getElem_cons_zero, List.getElem_cons_succ, List.setIfInBounds_toArray, List.set_cons_zero, List.set_cons_succ]
      refine wpAnyH_take (i := 25) (v := ?_) rfl (by kernel_rfl) (by kernel_rfl) (by kernel_rfl) (fun _ _ _ h => h) (Or.inl ⟨by kernel_rfl, ?_⟩) hHeld ?_
      rotate_left
      · intro wh hSw
        go_simp
        try with_reducible rfl
      try simp only [Act.put, List.getElem_toArray, List.getElem_cons_zero, List.getElem_cons_succ, List.setIfInBounds_toArray, List.set_cons_zero, List.set_cons_succ]
      refine wpAnyH_take (i := 26) (v := ?_) rfl (by kernel_rfl) (by kernel_rfl) (by kernel_rfl) (fun _ _ _ h => h) (Or.inl ⟨by kernel_rfl, ?_⟩) hHeld ?_
      rotate_left
      · intro wh hSw
        go_simp
        try with_reducible rfl
      try simp only [Act.put, List.getElem_toArray, List.getElem_cons_zero, List.getElem_cons_succ, List.setIfInBounds_toArray, List.set_cons_zero, List.set_cons_succ]
      refine wpAnyH_take (i := 27) (v := ?_) rfl (by kernel_rfl) (by kernel_rfl) (by kernel_rfl) (fun _ _ _ h => h) (Or.inl ⟨by kernel_rfl, ?_⟩) hHeld ?_
      rotate_left
      · intro wh hSw
        go_simp
        try with_reducible rfl
      try simp only [Act.put, List.getElem_toArray, List.getElem_cons_zero, List.getElem_cons_succ, List.setIfInBounds_toArray, List.set_cons_zero, List.set_cons_succ]
      refine wpAnyH_take (i := 28) (v := ?_) rfl (by kernel_rfl) (by kernel_rfl) (by kernel_rfl) (fun _ _ _ h => h) (Or.inl ⟨by kernel_rfl, ?_⟩) hHeld ?_
      rotate_left
      · intro wh hSw
        go_simp
        try with_reducible rfl
      try simp only [Act.put, List.getElem_toArray, List.getElem_cons_zero, List.getElem_cons_succ, List.setIfInBounds_toArray, List.set_cons_zero, List.set_cons_succ]
      refine wpAnyH_take (i := 29) (v := ?_) rfl (by kernel_rfl) (by kernel_rfl) (by kernel_rfl) (fun _ _ _ h => h) (Or.inl ⟨by kernel_rfl, ?_⟩) hHeld ?_
      rotate_left
      · intro wh hSw
        have hcell := hSw.1.2.2
        go_simp
        try with_reducible rfl
      try simp only [Act.put, List.getElem_toArray, List.getElem_cons_zero, List.getElem_cons_succ, List.setIfInBounds_toArray, List.set_cons_zero, List.set_cons_succ]
      refine wpAnyH_take (i := 30) (v := ?_) rfl (by kernel_rfl) (by kernel_rfl) (by kernel_rfl) (fun _ _ _ h => h) (Or.inl ⟨by kernel_rfl, ?_⟩) hHeld ?_
      rotate_left
      · intro wh hSw
        go_simp
        try with_reducible rfl
      try simp only [Act.put, List.getElem_toArray, List.getElem_cons_zero, List.getElem_cons_succ, List.setIfInBounds_toArray, List.set_cons_zero, List.set_cons_succ]
      refine wpAnyH_take (i := 31) (v := ?_) rfl (by kernel_rfl) (by kernel_rfl) (by kernel_rfl) (fun _ _ _ h => h) (Or.inl ⟨by kernel_rfl, ?_⟩) hHeld ?_
      rotate_left
      · intro wh hSw
        go_simp
        try with_reducible rfl
      try simp only [Act.put, List.getElem_toArray, List.getElem_cons_zero, List.getElem_cons_succ, List.setIfInBounds_toArray, List.set_cons_zero, List.set_cons_succ]
      refine wpAnyH_take (i := 32) (v := ?_) rfl (by kernel_rfl) (by kernel_rfl) (by kernel_rfl) (fun _ _ _ h => h) (Or.inl ⟨by kernel_rfl, ?_⟩) hHeld ?_
      rotate_left
      · intro wh hSw
        go_simp
        try with_reducible rfl
      try simp only [Act.put, List.getElem_toArray, List.getElem_cons_zero, List.getElem_cons_succ, List.setIfInBounds_toArray, List.set_cons_zero, List.set_cons_succ]
      refine wpAnyH_take (i := 33) (v := ?_) rfl (by kernel_rfl) (by kernel_rfl) (by kernel_rfl) (fun _ _ _ h => h) (Or.inl ⟨by kernel_rfl, ?_⟩) hHeld ?_
      rotate_left
      · intro wh hSw
        go_simp
        try with_reducible rfl
      try simp only [Act.put, List.getElem_toArray, List.getElem_cons_zero, List.getElem_cons_succ, List.setIfInBounds_toArray, List.set_cons_zero, List.set_cons_succ]
      refine wpAnyH_take (i := 34) (v := ?_) rfl (by kernel_rfl) (by kernel_rfl) (by kernel_rfl) (fun _ _ _ h => h) (Or.inl ⟨by kernel_rfl, ?_⟩) hHeld ?_
      rotate_left
      · intro wh hSw
        have hcell := hSw.2.2.2
        go_simp
        try with_reducible rfl
      try simp only [Act.put, List.getElem_toArray, List.getElem_cons_zero, List.getElem_cons_succ, List.setIfInBounds_toArray, List.set_cons_zero, List.set_cons_succ]
      refine wpAnyH_ready (rs := [35]) (by kernel_rfl) (by simp) (AllReadyH.cons rfl (fun K hK => ?_) AllReadyH.nil)
      clear hHeld
      go_simp
      refine (sameA_any D hV.out.1 hV.out.2).mono ?_
      rintro r E ⟨rfl, bb⟩
      dsimp only
      replace hB := hidd (hB.out.trans (bb.mono hB.out.size))
      have S2 := hidd (hS.out E hB.out)
      clear bb S1 hV
      refine hK.out _ _ S2.out (fun hHeld => ?_)
      clear hK K
      try simp only [Act.put, List.getElem_toArray, List.getElem_cons_zero, List.getElem_cons_succ, List.setIfInBounds_toArray, List.set_cons_zero, List.set_cons_succ]
      refine wpAnyH_take (i := 36) (v := ?_) rfl (by kernel_rfl) (by kernel_rfl) (by kernel_rfl) (fun _ _ _ h => h) (Or.inl ⟨by kernel_rfl, ?_⟩) hHeld ?_
      rotate_left
      · intro wh hSw
        go_simp
        try with_reducible rfl
      try simp only [Act.put, List.getElem_toArray, List.getElem_cons_zero, List.getElem_cons_succ, List.setIfInBounds_toArray, List.set_cons_zero, List.set_cons_succ]
      refine wpAnyH_take (i := 37) (v := ?_) rfl (by kernel_rfl) (by kernel_rfl) (by kernel_rfl) (fun _ _ _ h => h) (Or.inl ⟨by kernel_rfl, ?_⟩) hHeld ?_
      rotate_left
      · intro wh hSw
        go_simp
        try with_reducible rfl
      try simp only [Act.put, List.getElem_toArray, List.getElem_cons_zero, List.getElem_cons_succ, List.setIfInBounds_toArray, List.set_cons_zero, List.set_cons_succ]
      refine wpAnyH_done (by kernel_rfl) ?_ _
      clear hHeld
      go_wp2
      go_roundw
      case rel => exact ⟨k + 1, by omega, by go_num, hB⟩
      case measure => simp [intOf]; omega
    · obtain rfl : k = n := by omega
      go_wp2
      go_ret
      exact ⟨rfl, hB.out⟩
end
end Go.Proofs.YtlckfnfmekgnkaaDoor
