/- Both sides tell the same; each function walked once. No condition. -/
import Derived.Test.YtpjjcihhmhccfaaBoth3
namespace Go.Proofs.Ytpjjcihhmhccfaa
open Go.ChangeShapes Go.WideShapes Go.ChangeAt Go.RowKit Go.Deep
set_option linter.unusedVariables false
set_option linter.unusedSimpArgs false

theorem row33 {W : World} {g j : Nat} {e : E} (he : IsE e) (h : W.rangeAt g (j * 34) (enc e)) : (loadVar 33 ⟨g, j * 34, none⟩).run Try.prog W = .ok (.agg (encV e)) W :=
  run_loadVar_mid (P := Try.prog) W g (j * 34) 33 (enc e) _ h Try.underlying33 rfl (by rw [isEnc.len e he]; exact info33)
set_option maxRecDepth 100000 in
set_option maxHeartbeats 8000000 in
theorem same_both {w0 : World} (w : World) {B M : Nat} {os : List En} {L : List Bx} (h : Both w0 w B M os L) : Calls Try.prog 23 #[ptr B, ptr M] w fun r w' => r = .returned (.bool true) ∧ Both w0 w' B M os L := by
  obtain ⟨⟨v, Lr, h1, h2, h3, h4⟩, hnb⟩ := h
  obtain ⟨A, c, rfl, hcn, hcm⟩ := h2.slice
  obtain ⟨n, hn⟩ : ∃ n, os.length = n := ⟨_, rfl⟩
  have hmax := h1.nb.2.2
  rw [List.length_map, hn] at h1 h2 h3 hcn
  rw [hn] at hmax
  have hn' := hidd hn
  have C1 := hidd h1
  have R1 := hidd h2
  have X := hidd (And.intro h3 (And.intro h4 hnb))
  have hok := hidd (fun (o : En) (ho : o ∈ os) => (h1.ent ho).2)
  clear h1 h2 h3 h4 hnb hn
  go_enter Try.func23, Try.ntmps23
  go_wp2_with fail
  refine (list_any w C1.out).mono ?_
  rintro r w5 ⟨g, rfl, o5, c5, b5⟩
  have T0 : Hid (Bs w0 w5 B M g (.slice A n c) Lr os L) := ⟨c5, R1.out.to b5, fun j o ho => own_range o5 isEnc (by simp) (fun e he => by
    obtain ⟨o, ho, rfl⟩ := List.mem_map.1 he
    exact hok.out o ho) (by rw [List.getElem?_map, ho]; rfl)⟩
  rw [hn'.out]
  have c0 := T0.out.rf.v0
  clear o5 c5 b5 C1 R1
  go_wp2_with fail
  refine (next_any w5 T0.out.ch).mono ?_
  rintro r w6 ⟨rfl, c6, b6⟩
  have T1 := hidd (T0.out.call b6)
  clear c6 b6 T0 c0
  go_wp2_with fail
  refine (next_ref w6 T1.out.rf).mono ?_
  rintro r w7 ⟨rfl, rfl⟩
  obtain ⟨t, ht⟩ : ∃ t, nextT (os.map (·.2)) = t := ⟨_, rfl⟩
  rw [ht]
  clear ht
  go_wp2_with fail
  go_loopw [6] (fun i wr => ∃ j : Nat, j ≤ n ∧ i = .int .i64 j ∧ Bs w0 wr B M g (.slice A n c) Lr os L) (fun i _ => n - (intOf i).toNat)
  case atStart => exact ⟨0, Nat.zero_le _, rfl, T1.out⟩
  case round =>
    obtain ⟨j, hj, rfl, hT⟩ := hrel
    have T2 := hidd hT
    have c0 := hT.rf.v0
    clear hT T1
    by_cases hjn : j < n
    · obtain ⟨o, ho⟩ : ∃ o, os[j]? = some o := ⟨_, List.getElem?_eq_getElem (by rw [hn'.out]; omega)⟩
      obtain ⟨be, e⟩ := o
      have hE := hidd (hok.out _ (List.mem_of_getElem? ho))
      obtain ⟨gr, c2, hv, hg, _⟩ := T2.out.rf.pos (by rw [List.length_map, hn'.out]; omega)
      injection hv with hA hn2 hc2
      subst hA hc2
      have he' := hidd (show (os.map (·.2))[j]? = some e by rw [List.getElem?_map, ho]; rfl)
      have hS := hidd (fun (V : World) (h : Bs w0 V B M g (.slice (some ⟨gr, 0, none⟩) n c) Lr os L) => (show (loadVar 33 ⟨g, j * 34, none⟩).run Try.prog V = .ok (.agg (encV e)) V ∧ V.cell? ⟨M, 0, none⟩ = some (.slice (some ⟨gr, 0, none⟩) n c) ∧ (loadVar 51 ⟨gr, j * 34, none⟩).run Try.prog V = .ok (.agg (encV e)) V from by
        refine ⟨row33 hE.out (h.row j _ ho), h.rf.v0, ?_⟩
        obtain ⟨g', c', hv', _, hrow⟩ := h.rf.pos (by rw [List.length_map, hn'.out]; omega)
        injection hv' with hA' _ _
        injection hA' with hA'
        injection hA' with hA' _ _
        subst hA'
        exact gAll hE.out (hrow j e he'.out)))
      have T3 := hidd T2.out.draw
      have heq := fun V => eq33 V hE.out
      have hgd := guard33
      have hjz : (j : Int) < (n : Int) := by omega
      clear hn2 ho T2
      go_wp2
      refine wp_region_held_drew (S := (fun V => (loadVar 33 ⟨g, j * 34, none⟩).run Try.prog V = .ok (.agg (encV e)) V ∧ V.cell? ⟨M, 0, none⟩ = some (.slice (some ⟨gr, 0, none⟩) n c) ∧ (loadVar 51 ⟨gr, j * 34, none⟩).run Try.prog V = .ok (.agg (encV e)) V)) (by kernel_rfl) (hS.out _ T3.out) (fun hHeld => ?_)
      generalize wr.drew = D at T3 hHeld ⊢
      refine wpAnyH_take (i := 0) (v := ?_) rfl (by kernel_rfl) (by kernel_rfl) (by kernel_rfl) (fun _ _ _ h => h) (Or.inl ⟨by kernel_rfl, ?_⟩) hHeld ?_
      rotate_left
      · intro wh hSw
        go_simp
        try with_reducible rfl
      try simp only [Act.put, List.getElem_toArray, List.getElem_cons_zero, List.getElem_cons_succ, List.setIfInBounds_toArray, List.set_cons_zero, List.set_cons_succ]
      refine wpAnyH_take (i := 1) (v := ?_) rfl (by kernel_rfl) (by kernel_rfl) (by kernel_rfl) (fun _ _ _ h => h) (Or.inl ⟨by kernel_rfl, ?_⟩) hHeld ?_
      rotate_left
      · intro wh hSw
        go_simp
        try with_reducible rfl
      try simp only [Act.put, List.getElem_toArray, List.getElem_cons_zero, List.getElem_cons_succ, List.setIfInBounds_toArray, List.set_cons_zero, List.set_cons_succ]
      refine wpAnyH_take (i := 2) (v := ?_) rfl (by kernel_rfl) (by kernel_rfl) (by kernel_rfl) (fun _ _ _ h => h) (Or.inl ⟨by kernel_rfl, ?_⟩) hHeld ?_
      rotate_left
      · intro wh hSw
        go_simp
        try with_reducible rfl
      try simp only [Act.put, List.getElem_toArray, List.getElem_cons_zero, List.getElem_cons_succ, List.setIfInBounds_toArray, List.set_cons_zero, List.set_cons_succ]
      refine wpAnyH_take (i := 3) rfl (by kernel_rfl) (by kernel_rfl) (by kernel_rfl) (fun _ _ _ h => h) (yieldsIf_load_want (by kernel_rfl) 33 _ rfl _ rfl _ (fun wh hSw => hSw.1)) hHeld ?_
      try simp only [Act.put, List.getElem_toArray, List.getElem_cons_zero, List.getElem_cons_succ, List.setIfInBounds_toArray, List.set_cons_zero, List.set_cons_succ]
      refine wpAnyH_take (i := 4) (v := ?_) rfl (by kernel_rfl) (by kernel_rfl) (by kernel_rfl) (fun _ _ _ h => h) (Or.inl ⟨by kernel_rfl, ?_⟩) hHeld ?_
      rotate_left
      · intro wh hSw
        go_simp
        try with_reducible rfl
      try simp only [Act.put, List.getElem_toArray, List.getElem_cons_zero, List.getElem_cons_succ, List.setIfInBounds_toArray, List.set_cons_zero, List.set_cons_succ]
      refine wpAnyH_take (i := 5) (v := ?_) rfl (by kernel_rfl) (by kernel_rfl) (by kernel_rfl) (fun _ _ _ h => h) (Or.inl ⟨by kernel_rfl, ?_⟩) hHeld ?_
      rotate_left
      · intro wh hSw
        go_simp
        try with_reducible rfl
      try simp only [Act.put, List.getElem_toArray, List.getElem_cons_zero, List.getElem_cons_succ, List.setIfInBounds_toArray, List.set_cons_zero, List.set_cons_succ]
      refine wpAnyH_take (i := 6) (v := ?_) rfl (by kernel_rfl) (by kernel_rfl) (by kernel_rfl) (fun _ _ _ h => h) (Or.inl ⟨by kernel_rfl, ?_⟩) hHeld ?_
      rotate_left
      · intro wh hSw
        go_simp
        try with_reducible rfl
      try simp only [Act.put, List.getElem_toArray, List.getElem_cons_zero, List.getElem_cons_succ, List.setIfInBounds_toArray, List.set_cons_zero, List.set_cons_succ]
      refine wpAnyH_take (i := 7) (v := ?_) rfl (by kernel_rfl) (by kernel_rfl) (by kernel_rfl) (fun _ _ _ h => h) (Or.inl ⟨by kernel_rfl, ?_⟩) hHeld ?_
      rotate_left
      · intro wh hSw
        have hcell := hSw.2.1
        go_simp
        try with_reducible rfl
      try simp only [Act.put, List.getElem_toArray, List.getElem_cons_zero, List.getElem_cons_succ, List.setIfInBounds_toArray, List.set_cons_zero, List.set_cons_succ]
      refine wpAnyH_take (i := 8) (v := ?_) rfl (by kernel_rfl) (by kernel_rfl) (by kernel_rfl) (fun _ _ _ h => h) (Or.inl ⟨by kernel_rfl, ?_⟩) hHeld ?_
      rotate_left
      · intro wh hSw
        go_simp
        try with_reducible rfl
      try simp only [Act.put, List.getElem_toArray, List.getElem_cons_zero, List.getElem_cons_succ, List.setIfInBounds_toArray, List.set_cons_zero, List.set_cons_succ]
      refine wpAnyH_take (i := 9) (v := ?_) rfl (by kernel_rfl) (by kernel_rfl) (by kernel_rfl) (fun _ _ _ h => h) (Or.inl ⟨by kernel_rfl, ?_⟩) hHeld ?_
      rotate_left
      · intro wh hSw
        go_simp
        try with_reducible rfl
      try simp only [Act.put, List.getElem_toArray, List.getElem_cons_zero, List.getElem_cons_succ, List.setIfInBounds_toArray, List.set_cons_zero, List.set_cons_succ]
      refine wpAnyH_take (i := 10) rfl (by kernel_rfl) (by kernel_rfl) (by kernel_rfl) (fun _ _ _ h => h) (yieldsIf_load_want (by kernel_rfl) 51 _ rfl _ rfl _ (fun wh hSw => hSw.2.2)) hHeld ?_
      try simp only [Act.put, List.getElem_toArray, List.getElem_cons_zero, List.getElem_cons_succ, List.setIfInBounds_toArray, List.set_cons_zero, List.set_cons_succ]
      refine wpAnyH_ready (rs := [11]) (by kernel_rfl) (by simp) (AllReadyH.cons rfl (fun K hK => ?_) AllReadyH.nil)
      clear hHeld
      go_simp
      refine (entry_ref D e hE.out).mono ?_
      rintro r D5 ⟨rfl, b5⟩
      dsimp only
      have T5 := hidd (T3.out.call b5)
      clear b5 T3
      refine hK.out _ _ (hS.out _ T5.out) (fun hHeld => ?_)
      clear hK K
      try simp only [Act.put, List.getElem_toArray, List.getElem_cons_zero, List.getElem_cons_succ, List.setIfInBounds_toArray, List.set_cons_zero, List.set_cons_succ]
      refine wpAnyH_take (i := 12) (v := ?_) rfl (by kernel_rfl) (by kernel_rfl) (by kernel_rfl) (fun _ _ _ h => h) (Or.inl ⟨by kernel_rfl, ?_⟩) hHeld ?_
      rotate_left
      · intro wh hSw
        go_simp
        try with_reducible rfl
      try simp only [Act.put, List.getElem_toArray, List.getElem_cons_zero, List.getElem_cons_succ, List.setIfInBounds_toArray, List.set_cons_zero, List.set_cons_succ]
      refine wpAnyH_done (by kernel_rfl) ?_ _
      clear hHeld
      go_wp2
      go_roundw
      case rel => exact ⟨j + 1, by omega, by go_num, T5.out⟩
      case measure => simp [intOf]; omega
    · have hjn' : j = n := by omega
      subst hjn'
      go_wp2
      go_ret
      exact ⟨rfl, ⟨_, Lr, T2.out.ch, T2.out.rf, X.out.1, X.out.2.1⟩, X.out.2.2⟩
end Go.Proofs.Ytpjjcihhmhccfaa
