/- A router is dropped; when the next one's time is over; all, in order; a new list: each function walked once. No condition. -/
import Derived.Test.YtnchjbgfmkmbaaaOrd
namespace Go.Proofs.Ytnchjbgfmkmbaaa
open Go.ChangeShapes Go.WideShapes Go.ChangeAt Go.RowKit Go.Deep
set_option linter.unusedVariables false
set_option linter.unusedSimpArgs false

/-- What may turn when a list's routers turn. -/
abbrev Own (B : Nat) (v : Value) : Nat → Prop := fun k => k = B ∨ v.ownBlock = some k
def dropS (x : List Int) (es : List E) : List E := if whereA x es < 0 then es else es.eraseIdx (whereA x es).toNat
theorem whereA_cases (x : List Int) (es : List E) : (whereA x es = -1 ∧ ∀ e ∈ es, e.1 ≠ x) ∨ ∃ (i : Nat) (e : E), whereA x es = (i : Int) ∧ es[i]? = some e ∧ e.1 = x := by
  rcases idx_cases (p := fun e : E => e.1 == x) es with ⟨h1, h2⟩ | ⟨j, e, h1, h2, h3, _⟩
  · refine .inl ⟨h1, fun e he hx => ?_⟩
    rw [List.any_eq_false] at h2
    have := h2 e he
    simp [hx] at this
  · exact .inr ⟨j, e, h1, h2, by simpa using h3⟩

set_option maxRecDepth 100000 in
set_option maxHeartbeats 1000000 in
theorem drop_any (w : World) (B : Nat) (v : Value) (es : List E) (last : List Int) (had : Bool) (h : Rl w B v es last had) (a : List Int) (ha0 : IsAddr a) :
    Calls Try.prog 9 #[.pointer (some ⟨B, 0, none⟩), .agg (bytesV a)] w fun e w' => e = .returned (.bool (decide (0 ≤ whereA a es))) ∧ ∃ v', Rl w' B v' (dropS a es) last had ∧ Fr (Own B v) w w' ∧ ∀ k, v'.ownBlock = some k → v.ownBlock = some k := by
  obtain ⟨s, Ss⟩ : ∃ s, w.heap.size = s := ⟨_, rfl⟩
  have ha := hidd ha0
  have hBs : B < s := by have := h.lt; omega
  have b1 : Below s w (w.alloc (.cells (bytesV a) 23)) := by rw [← Ss]; exact (Below.refl _ w).alloc (Nat.le_refl _) _
  have hown := hidd h.own
  have P1 : Hid (Rl (w.alloc (.cells (bytesV a) 23)) B v es last had ∧ Blk (w.alloc (.cells (bytesV a) 23)) s 23 (bytesV a) ∧ Fr (Own B v) w (w.alloc (.cells (bytesV a) 23))) := ⟨h.to (by rw [Ss]; exact b1), by rw [← Ss]; exact Blk.new _ _ _, Fr.of_below (by rw [Ss]; exact b1) _⟩
  have step : ∀ U V : World, (Rl U B v es last had ∧ Blk U s 23 (bytesV a) ∧ Fr (Own B v) w U) → Below U.heap.size U V → (Rl V B v es last had ∧ Blk V s 23 (bytesV a) ∧ Fr (Own B v) w V) := fun U V h hb => ⟨h.1.to hb, h.2.1.below hb h.2.1.lt, h.2.2.trans (Fr.of_below hb _)⟩
  have hat := hidd (fun (V : World) (h : Rl V B v es last had ∧ Blk V s 23 (bytesV a) ∧ Fr (Own B v) w V) => at_any V B v es last had h.1 a ha0)
  have hT := hidd (there_yes _ B P1.out.1.made)
  have l1 := hidd (P1.out.2.1.load (P := Try.prog) Try.underlying23 rfl (size_a ha0))
  clear h b1 ha0
  rcases whereA_cases a es with ⟨hi1, hno⟩ | ⟨i, e, hi1, hei, hea⟩
  · have hd : dropS a es = es := by rw [dropS, if_pos (by omega)]
    have hd' := hidd hd
    rw [hi1] at hat
    have hi1' := hidd hi1
    clear hi1 hno hd
    go_enter Try.func9, Try.ntmps9
    go_wp2_with (first
      | (go_at_call 17; refine Calls.mono hT.out ?_; rintro e w2 ⟨rfl, rfl⟩)
      | (with_reducible show wpList _ _ _ (⟨_, Op.load 23 _, _, _, _, _⟩ :: _) _ _; refine wpList_load_want (by kernel_rfl) 23 _ rfl _ rfl _ (by with_reducible exact l1.out) ?_))
    refine Calls.mono (hat.out _ P1.out) ?_
    rintro e w2 ⟨rfl, b2⟩
    have P2 := hidd (step _ _ P1.out b2)
    clear b2 l1 hT
    go_wp2
    go_ret
    rw [hi1'.out, hd'.out]
    exact ⟨rfl, v, P2.out.1, P2.out.2.2, fun k hk => hk⟩
  · have hij := (List.getElem?_eq_some_iff.1 hei).1
    obtain ⟨g, c, hA, hbg, hgl⟩ := own_pos hown.out (by omega)
    subst hA
    have hd := hidd (show dropS a es = es.eraseIdx i from by rw [dropS, if_neg (by omega), hi1]; rfl)
    have hle : (es.eraseIdx i).length = es.length - 1 := by rw [List.length_eraseIdx_of_lt hij]
    have hok : ∀ y ∈ es.eraseIdx i, IsE y := fun y hy => P1.out.1.ok y (List.mem_of_mem_eraseIdx hy)
    have h4 := P1.out.1.four
    have hgB : B ≠ g := by omega
    have hgs : s ≠ g := by omega
    have hcc := own_cap hown.out
    rw [hi1] at hat
    have hi1' := hidd hi1
    have keep : ∀ U : World, (Rl U B (.slice (some ⟨g, 0, none⟩) es.length c) es last had ∧ Blk U s 23 (bytesV a) ∧ Fr (Own B (.slice (some ⟨g, 0, none⟩) es.length c)) w U) → (U.cell? ⟨B, 0, none⟩ = some (.slice (some ⟨g, 0, none⟩) es.length c) ∧ (loadVar 23 ⟨s, 0, none⟩).run Try.prog U = .ok (.agg (bytesV a)) U) := fun U h => ⟨h.1.row, h.2.1.load Try.underlying23 rfl (size_a ha.out)⟩
    clear hi1 hei hea
    go_enter Try.func9, Try.ntmps9
    go_wp2_with (first
      | (go_at_call 17; refine Calls.mono hT.out ?_; rintro e w2 ⟨rfl, rfl⟩)
      | (with_reducible show wpList _ _ _ (⟨_, Op.load 23 _, _, _, _, _⟩ :: _) _ _; refine wpList_load_want (by kernel_rfl) 23 _ rfl _ rfl _ (by with_reducible exact l1.out) ?_))
    refine Calls.mono (hat.out _ P1.out) ?_
    rintro e w2 ⟨rfl, b2⟩
    have P2 := hidd (step _ _ (step _ _ P1.out b2) (Below.refl _ w2).drew)
    clear b2 l1 hT P1
    go_wp2
    refine wp_region_tail (fun V => V.cell? ⟨B, 0, none⟩ = some (.slice (some ⟨g, 0, none⟩) es.length c) ∧ (loadVar 23 ⟨s, 0, none⟩).run Try.prog V = .ok (.agg (bytesV a)) V) 15 (by kernel_rfl) (keep _ P2.out) (fun hF => ?_)
    generalize w2.drew = D at P2 hF ⊢
    refine tail_free (i := 0) (v := ?_) rfl (by kernel_rfl) (by kernel_rfl) (by kernel_rfl) (by kernel_rfl) (fun _ _ _ h => h) (Or.inl ⟨by kernel_rfl, ?_⟩) (fun _ => hF) ?_
    rotate_left
    · intro wh hSw
      go_simp
      try with_reducible rfl
    try simp only [Act.put, List.getElem_toArray, List.getElem_cons_zero, List.getElem_cons_succ, List.setIfInBounds_toArray, List.set_cons_zero, List.set_cons_succ]
    refine tail_free (i := 1) (v := ?_) rfl (by kernel_rfl) (by kernel_rfl) (by kernel_rfl) (by kernel_rfl) (fun _ _ _ h => h) (Or.inl ⟨by kernel_rfl, ?_⟩) (fun _ => hF) ?_
    rotate_left
    · intro wh hSw
      go_simp
      try with_reducible rfl
    try simp only [Act.put, List.getElem_toArray, List.getElem_cons_zero, List.getElem_cons_succ, List.setIfInBounds_toArray, List.set_cons_zero, List.set_cons_succ]
    refine tail_free (i := 2) (v := ?_) rfl (by kernel_rfl) (by kernel_rfl) (by kernel_rfl) (by kernel_rfl) (fun _ _ _ h => h) (Or.inl ⟨by kernel_rfl, ?_⟩) (fun _ => hF) ?_
    rotate_left
    · intro wh hSw
      go_simp
      try with_reducible rfl
    try simp only [Act.put, List.getElem_toArray, List.getElem_cons_zero, List.getElem_cons_succ, List.setIfInBounds_toArray, List.set_cons_zero, List.set_cons_succ]
    refine tail_free (i := 3) (v := ?_) rfl (by kernel_rfl) (by kernel_rfl) (by kernel_rfl) (by kernel_rfl) (fun _ _ _ h => h) (Or.inl ⟨by kernel_rfl, ?_⟩) (fun _ => hF) ?_
    rotate_left
    · intro wh hSw
      go_simp
      try with_reducible rfl
    try simp only [Act.put, List.getElem_toArray, List.getElem_cons_zero, List.getElem_cons_succ, List.setIfInBounds_toArray, List.set_cons_zero, List.set_cons_succ]
    refine tail_take (i := 4) (v := ?_) rfl (by kernel_rfl) (by kernel_rfl) (by kernel_rfl) (by kernel_rfl) (fun _ _ _ h => h) (Or.inl ⟨by kernel_rfl, ?_⟩) hF ?_
    rotate_left
    · intro wh hSw
      have hcell := hSw.1
      go_simp
      try with_reducible rfl
    try simp only [Act.put, List.getElem_toArray, List.getElem_cons_zero, List.getElem_cons_succ, List.setIfInBounds_toArray, List.set_cons_zero, List.set_cons_succ]
    refine tail_free (i := 5) (v := ?_) rfl (by kernel_rfl) (by kernel_rfl) (by kernel_rfl) (by kernel_rfl) (fun _ _ _ h => h) (Or.inl ⟨by kernel_rfl, ?_⟩) (fun _ => hF) ?_
    rotate_left
    · intro wh hSw
      go_simp
      try with_reducible rfl
    try simp only [Act.put, List.getElem_toArray, List.getElem_cons_zero, List.getElem_cons_succ, List.setIfInBounds_toArray, List.set_cons_zero, List.set_cons_succ]
    refine tail_take (i := 6) rfl (by kernel_rfl) (by kernel_rfl) (by kernel_rfl) (by kernel_rfl) (fun _ _ _ h => h) (yieldsIf_load_want (by kernel_rfl) 23 _ rfl _ rfl _ (fun wh hSw => hSw.2)) hF ?_
    try simp only [Act.put, List.getElem_toArray, List.getElem_cons_zero, List.getElem_cons_succ, List.setIfInBounds_toArray, List.set_cons_zero, List.set_cons_succ]
    refine tail_free (i := 8) (v := ?_) rfl (by kernel_rfl) (by kernel_rfl) (by kernel_rfl) (by kernel_rfl) (fun _ _ _ h => h) (Or.inl ⟨by kernel_rfl, ?_⟩) (fun _ => hF) ?_
    rotate_left
    · intro wh hSw
      go_simp
      try with_reducible rfl
    try simp only [Act.put, List.getElem_toArray, List.getElem_cons_zero, List.getElem_cons_succ, List.setIfInBounds_toArray, List.set_cons_zero, List.set_cons_succ]
    refine tail_take (i := 9) rfl (by kernel_rfl) (by kernel_rfl) (by kernel_rfl) (by kernel_rfl) (fun _ _ _ h => h) (yieldsIf_load_want (by kernel_rfl) 23 _ rfl _ rfl _ (fun wh hSw => hSw.2)) hF ?_
    try simp only [Act.put, List.getElem_toArray, List.getElem_cons_zero, List.getElem_cons_succ, List.setIfInBounds_toArray, List.set_cons_zero, List.set_cons_succ]
    refine tail_ready (rs := [7]) (by kernel_rfl) (by simp) (AllReadyT.cons rfl (fun K hK => ?_) AllReadyT.nil)
    clear hF
    go_simp
    with_reducible refine Calls.mono (hat.out _ P2.out) ?_
    rintro e V3 ⟨rfl, b3⟩
    dsimp only
    have P3 := hidd (step _ _ P2.out b3)
    refine hK.out _ _ (keep _ P3.out) (fun hF => ?_)
    clear hK K
    try simp only [Act.put, List.getElem_toArray, List.getElem_cons_zero, List.getElem_cons_succ, List.setIfInBounds_toArray, List.set_cons_zero, List.set_cons_succ]
    refine tail_ready (rs := [10]) (by kernel_rfl) (by simp) (AllReadyT.cons rfl (fun K hK => ?_) AllReadyT.nil)
    clear hF
    go_simp
    with_reducible refine Calls.mono (hat.out _ P3.out) ?_
    rintro e V4 ⟨rfl, b4⟩
    dsimp only
    have P4 := hidd (step _ _ P3.out b4)
    refine hK.out _ _ (keep _ P4.out) (fun hF => ?_)
    clear hK K
    try simp only [Act.put, List.getElem_toArray, List.getElem_cons_zero, List.getElem_cons_succ, List.setIfInBounds_toArray, List.set_cons_zero, List.set_cons_succ]
    refine tail_free (i := 11) (v := ?_) rfl (by kernel_rfl) (by kernel_rfl) (by kernel_rfl) (by kernel_rfl) (fun _ _ _ h => h) (Or.inl ⟨by kernel_rfl, ?_⟩) (fun _ => hF) ?_
    rotate_left
    · intro wh hSw
      go_simp
      try with_reducible rfl
    try simp only [Act.put, List.getElem_toArray, List.getElem_cons_zero, List.getElem_cons_succ, List.setIfInBounds_toArray, List.set_cons_zero, List.set_cons_succ]
    refine tail_ready (rs := [12]) (by kernel_rfl) (by simp) (AllReadyT.cons rfl (fun K hK => ?_) AllReadyT.nil)
    clear hF
    go_simp
    rw [show IntKind.i64.wrap ((i : Int) + 1) = (i : Int) + 1 from IntWalk.i64_in _ (by omega)]
    with_reducible refine Calls.mono (delete_any V4 (B + 1) g es.length c i (flat es) P4.out.1.own (isEnc.flat_one _) hij) ?_
    rintro e V5 ⟨rfl, o5, f5⟩
    dsimp only
    rw [isEnc.flat_cut P4.out.1.ok] at o5
    have c5 := (f5.cell (p := ⟨B, 0, none⟩) P4.out.1.lt hgB).trans P4.out.1.row
    have z5 := (f5.frozen (p := ⟨B, 0, none⟩) P4.out.1.lt hgB).trans (P4.out.1.blk.frozen 0)
    have l5 := (P4.out.2.1.fr f5 hgs).load (P := Try.prog) Try.underlying23 rfl (size_a ha.out)
    have R5 := hidd (P4.out.1.turn f5 hgB (v' := .slice (some ⟨g, 0, none⟩) (es.length - 1) c) (es' := es.eraseIdx i) (by rw [hle]; exact o5) hok (by rw [hle]; omega))
    have F5 := hidd ((P4.out.2.2.trans (f5.mono (fun k _ hk => .inr (by rw [hk]; rfl)))).setCell (p := ⟨B, 0, none⟩) (.inl (.inl rfl)) (.slice (some ⟨g, 0, none⟩) (es.length - 1) c))
    refine hK.out _ _ ⟨c5, l5⟩ (fun hF => ?_)
    clear hK K
    try simp only [Act.put, List.getElem_toArray, List.getElem_cons_zero, List.getElem_cons_succ, List.setIfInBounds_toArray, List.set_cons_zero, List.set_cons_succ]
    refine tail_free (i := 13) (v := ?_) rfl (by kernel_rfl) (by kernel_rfl) (by kernel_rfl) (by kernel_rfl) (fun _ _ _ h => h) (Or.inl ⟨by kernel_rfl, ?_⟩) (fun _ => hF) ?_
    rotate_left
    · intro wh hSw
      go_simp
      try with_reducible rfl
    try simp only [Act.put, List.getElem_toArray, List.getElem_cons_zero, List.getElem_cons_succ, List.setIfInBounds_toArray, List.set_cons_zero, List.set_cons_succ]
    refine tail_free (i := 14) (v := ?_) rfl (by kernel_rfl) (by kernel_rfl) (by kernel_rfl) (by kernel_rfl) (fun _ _ _ h => h) (Or.inl ⟨by kernel_rfl, ?_⟩) (fun _ => hF) ?_
    rotate_left
    · intro wh hSw
      go_simp
      try with_reducible rfl
    try simp only [Act.put, List.getElem_toArray, List.getElem_cons_zero, List.getElem_cons_succ, List.setIfInBounds_toArray, List.set_cons_zero, List.set_cons_succ]
    refine tail_ready (rs := [15]) (by kernel_rfl) (by simp) (AllReadyT.last rfl (by kernel_rfl) (fun K hK => ?_) AllReadyT.nil)
    clear hF
    go_simp
    refine hK.out _ _ ?_
    clear hK K
    try simp only [Act.put, List.getElem_toArray, List.getElem_cons_zero, List.getElem_cons_succ, List.setIfInBounds_toArray, List.set_cons_zero, List.set_cons_succ]
    refine tail_done (by kernel_rfl) ?_ _
    go_wp2
    go_ret
    rw [hd.out, hi1'.out]
    exact ⟨by simp, _, R5.out, F5.out, fun k hk => hk⟩
end Go.Proofs.Ytnchjbgfmkmbaaa
