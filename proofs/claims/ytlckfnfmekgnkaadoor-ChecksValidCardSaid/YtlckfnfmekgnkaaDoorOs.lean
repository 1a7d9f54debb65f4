/- Lists of options: whether two are the same; a twin of one; whether a twin is as it was made. Each function walked once. No condition. -/
import Derived.Test.YtlckfnfmekgnkaaDoorAs2
namespace Go.Proofs.YtlckfnfmekgnkaaDoor
open Go.ChangeShapes Go.WideShapes Go.ChangeAt Go.RowKit Go.Deep
set_option linter.unusedVariables false
set_option linter.unusedSimpArgs false

abbrev Op2 := Int × List Int
theorem info46z : (Tryd.prog.info? 46).map (fun i => (i.zero, i.size, i.bytes)) = some (some (.agg #[.int .u8 0, .slice none 0 0]), 2, 32) := by kernel_rfl
theorem sz46 : (Tryd.prog.info? 46).map (·.size) = some 2 := by kernel_rfl
def PO (W : World) (os : List Op2) (i : Nat) (l : List Value) : Prop := ∃ o v', os[i]? = some o ∧ l = [.int .u8 o.1, v'] ∧ BsIn W v' o.2
def oddO : List Value := [.int .u8 201, .slice none 0 0]
def POT (W : World) (Lo : Nat) (os : List Op2) (i : Nat) (l : List Value) : Prop := if i < os.length then ∃ o v', os[i]? = some o ∧ l = [.int .u8 o.1, v'] ∧ BsTw W Lo v' o.2 else l = oddO
def OsIn (W : World) (v : Value) (os : List Op2) : Prop := ∃ A c, v = .slice A os.length c ∧ Lst W 2 A os.length c (PO W os) ∧ os.length * 32 ≤ 140737488355328
def OsTw (W : World) (Lo : Nat) (v : Value) (os : List Op2) : Prop := ∃ g cs, v = .slice (some ⟨g, 0, none⟩) os.length (os.length + 4) ∧ Lo ≤ g ∧ Blk W g 46 cs ∧ cs.size = (os.length + 4) * 2 ∧ Rows cs 2 (os.length + 4) (POT W Lo os) ∧ os.length * 32 ≤ 140737488355328
theorem ld46 {V : World} {b o : Nat} {x y : Value} (h : V.rangeAt b o [x, y]) : (loadVar 46 ⟨b, o, none⟩).run Tryd.prog V = .ok (.agg #[x, y]) V :=
  run_loadVar_mid (P := Tryd.prog) V b o 46 [x, y] _ h Tryd.underlying46 rfl sz46
section
variable {w W W' : World} {v v' : Value} {os : List Op2} {Lo Lo' : Nat}
theorem PO.to {i : Nat} {l : List Value} (h : PO W os i l) (hb : Below W.heap.size W W') : PO W' os i l := by
  obtain ⟨o, v', h1, h2, h3⟩ := h
  exact ⟨o, v', h1, h2, h3.to hb⟩
theorem POT.to {i : Nat} {l : List Value} (h : POT W Lo os i l) (hb : Below W.heap.size W W') : POT W' Lo os i l := by
  unfold POT at h ⊢
  split
  · rw [if_pos (by assumption)] at h
    obtain ⟨o, v', h1, h2, h3⟩ := h
    exact ⟨o, v', h1, h2, h3.to hb⟩
  · rwa [if_neg (by assumption)] at h
theorem POT.lo {i : Nat} {l : List Value} (h : POT W Lo os i l) (hl : Lo' ≤ Lo) : POT W Lo' os i l := by
  unfold POT at h ⊢
  split
  · rw [if_pos (by assumption)] at h
    obtain ⟨o, v', h1, h2, h3⟩ := h
    exact ⟨o, v', h1, h2, h3.lo hl⟩
  · rwa [if_neg (by assumption)] at h
theorem POT.cells {i : Nat} {l : List Value} (h : POT W Lo os i l) {b : Nat} (hb : b < Lo) (o : Nat) (vs : List Value) : POT (W.setCells b o vs) Lo os i l := by
  unfold POT at h ⊢
  split
  · rw [if_pos (by assumption)] at h
    obtain ⟨x, v', h1, h2, h3⟩ := h
    exact ⟨x, v', h1, h2, h3.cells hb o vs⟩
  · rwa [if_neg (by assumption)] at h
theorem POT.odd {i : Nat} (h : os.length ≤ i) : POT W Lo os i oddO := by
  unfold POT; rw [if_neg (by omega)]
theorem POT.real {i : Nat} {o : Op2} (h : os[i]? = some o) (hb : BsTw W Lo v' o.2) : POT W Lo os i [.int .u8 o.1, v'] := by
  have hi := (List.getElem?_eq_some_iff.1 h).1
  unfold POT; rw [if_pos hi]; exact ⟨o, v', h, rfl, hb⟩
theorem OsIn.to (h : OsIn W v os) (hb : Below W.heap.size W W') : OsIn W' v os := by
  obtain ⟨A, c, h1, h2, h3⟩ := h
  exact ⟨A, c, h1, h2.to hb (fun _ _ h => h.to hb), h3⟩
theorem OsTw.to (h : OsTw W Lo v os) (hb : Below W.heap.size W W') : OsTw W' Lo v os := by
  obtain ⟨g, cs, h1, h2, h3, h4, h5, h6⟩ := h
  exact ⟨g, cs, h1, h2, h3.below hb h3.lt, h4, h5.imp (fun _ _ _ h => h.to hb), h6⟩
theorem POT.fr {S : Nat → Prop} {i : Nat} {l : List Value} (h : POT W Lo os i l) (hf : Fr S W W') (hS : ∀ k, Lo ≤ k → ¬ S k) : POT W' Lo os i l := by
  unfold POT at h ⊢
  split
  · rw [if_pos (by assumption)] at h
    obtain ⟨o, v', h1, h2, h3⟩ := h
    exact ⟨o, v', h1, h2, h3.fr hf hS⟩
  · rwa [if_neg (by assumption)] at h
theorem OsTw.fr {S : Nat → Prop} (h : OsTw W Lo v os) (hf : Fr S W W') (hS : ∀ k, Lo ≤ k → ¬ S k) : OsTw W' Lo v os := by
  obtain ⟨g, cs, h1, h2, h3, h4, h5, h6⟩ := h
  exact ⟨g, cs, h1, h2, h3.fr hf (hS g h2), h4, h5.imp (fun _ _ _ h => h.fr hf hS), h6⟩
theorem OsTw.lo (h : OsTw W Lo v os) (hl : Lo' ≤ Lo) : OsTw W Lo' v os := by
  obtain ⟨g, cs, h1, h2, h3, h4, h5, h6⟩ := h
  exact ⟨g, cs, h1, by omega, h3, h4, h5.imp (fun _ _ _ h => h.lo hl), h6⟩
theorem OsTw.os_ (h : OsTw W Lo v os) : OsIn W v os := by
  obtain ⟨g, cs, h1, _, h3, h4, h5, h6⟩ := h
  refine ⟨_, _, h1, Lst.of_rows h3 (fun j hj => ?_) (by omega) (by unfold maxLen; omega), h6⟩
  obtain ⟨l, h7, h8, h9⟩ := h5 j (by omega)
  unfold POT at h9
  rw [if_pos hj] at h9
  obtain ⟨o, v', h10, h11, h12⟩ := h9
  exact ⟨l, h7, h8, o, v', h10, h11, h12.bs⟩
theorem sameOpt_any (w : World) (k : Int) (xs : List Int) (h : BsIn w v xs) (h' : BsIn w v' xs) : Calls Tryd.prog 57 #[.agg #[.int .u8 k, v], .agg #[.int .u8 k, v']] w fun r W' => r = .returned (.bool true) ∧ Below w.heap.size w W' := by
  obtain ⟨q, hq⟩ : ∃ q, w.heap.size = q := ⟨_, rfl⟩
  obtain ⟨V, hV⟩ : ∃ V, (w.alloc (.cells #[.int .u8 k, v] 46)).alloc (.cells #[.int .u8 k, v'] 46) = V := ⟨_, rfl⟩
  have b1 := Blk.new w 46 #[.int .u8 k, v]
  have b2 := Blk.new (w.alloc (.cells #[.int .u8 k, v] 46)) 46 #[.int .u8 k, v']
  simp only [nblk_alloc, hq] at b1 b2
  have q1 : Blk V q 46 #[.int .u8 k, v] := hV ▸ b1.alloc _
  have q2 : Blk V (q + 1) 46 #[.int .u8 k, v'] := hV ▸ b2
  have bV : Below w.heap.size w V := hV ▸ ((Below.refl _ w).alloc (Nat.le_refl _) _).alloc (by simp) _
  have c0 := q1.at_ (i := 0) rfl
  have c1 := q1.at_ (i := 1) rfl
  have d0 := q2.at_ (i := 0) rfl
  have d1 := q2.at_ (i := 1) rfl
  have H := hidd (And.intro (h.to bV) (h'.to bV))
  have B := hidd bV
  obtain ⟨A, c, rfl, _⟩ := h
  obtain ⟨A', c', rfl, _⟩ := h'
  clear q1 q2 b1 b2 bV
  go_enter Tryd.func57, Tryd.ntmps57
  go_wp2_with fail
  refine (sameB_any V H.out.1 H.out.2).mono ?_
  rintro r w2 ⟨rfl, b2⟩
  have B2 := hidd (B.out.trans (b2.mono B.out.size))
  clear b2 c0 c1 d0 d1
  go_wp2
  go_ret
  have hb := B2.out
  first | exact ⟨rfl, hb⟩ | (rw [hq] at hb; exact ⟨rfl, hb⟩)
set_option maxRecDepth 100000 in
set_option maxHeartbeats 2000000 in
theorem sameO_any (w : World) (h : OsIn w v os) (h' : OsIn w v' os) : Calls Tryd.prog 49 #[v, v'] w fun r W' => r = .returned (.bool true) ∧ Below w.heap.size w W' := by
  obtain ⟨A, c, rfl, h2, h3⟩ := h
  obtain ⟨A', c', rfl, h2', _⟩ := h'
  have hcm := h2.cmax
  have hcn := h2.cap
  unfold maxLen at hcm
  obtain ⟨n, hn⟩ : ∃ n, os.length = n := ⟨_, rfl⟩
  rw [hn] at h2 h2' h3 hcn ⊢
  have H := hidd (And.intro h2 h2')
  have hn' := hidd hn
  clear h2 h2' hn
  go_enter Tryd.func49, Tryd.ntmps49
  go_wp2_with fail
  go_loopw [5] (fun i wr => ∃ k : Nat, k ≤ n ∧ i = .int .i64 k ∧ Hid (Below w.heap.size w wr)) (fun i _ => n - (intOf i).toNat)
  case atStart => exact ⟨0, Nat.zero_le _, rfl, hidd (Below.refl _ w)⟩
  case round =>
    obtain ⟨k, hk, rfl, hB⟩ := hrel
    by_cases hlt : k < n
    · have hz : (k : Int) < (n : Int) := by omega
      obtain ⟨b, off, rfl, hb, hc⟩ := H.out.1.at_ (by omega)
      obtain ⟨b', off', rfl, hb', hc'⟩ := H.out.2.at_ (by omega)
      obtain ⟨l, _, hr, o, v1, ha0, rfl, hv1⟩ := hc k hlt
      obtain ⟨l', _, hr', o', v2, ha1, rfl, hv2⟩ := hc' k hlt
      rw [ha0] at ha1
      cases ha1
      have hS := hidd (fun (V : World) (h : Below w.heap.size w V) => (show V.rangeAt b (off + k * 2) [.int .u8 o.1, v1] ∧ V.rangeAt b' (off' + k * 2) [.int .u8 o.1, v2] from ⟨range_below hr h hb, range_below hr' h hb'⟩))
      have S1 := hidd (hS.out wr.drew hB.out.drew)
      have hV := hidd (And.intro (hv1.to hB.out.drew) (hv2.to hB.out.drew))
      replace hB := hidd hB.out.drew
      clear hc hc' hr hr' ha0 hv1 hv2
      go_wp2_with fail
      refine wp_region_held_drew (S := (fun V => V.rangeAt b (off + k * 2) [.int .u8 o.1, v1] ∧ V.rangeAt b' (off' + k * 2) [.int .u8 o.1, v2])) (by kernel_rfl) S1.out (fun hHeld => ?_)
      generalize wr.drew = D at S1 hB hV hHeld ⊢
      refine wpAnyH_take (i := 0) (v := ?_) rfl (by kernel_rfl) (by kernel_rfl) (by kernel_rfl) (fun _ _ _ h => h) (Or.inl ⟨by kernel_rfl, ?_⟩) hHeld ?_
      rotate_left
      · intro wh hSw
        go_simp
        try with_reducible rfl
      try simp only [Act.put, List.getElem_toArray, List.getElem_cons_zero, List.getElem_cons_succ, List.setIfInBounds_toArray, List.set_cons_zero, List.set_cons_succ]
      refine wpAnyH_take (i := 1) (v := ?_) rfl (by kernel_rfl) (by kernel_rfl) (by kernel_rfl) (fun _ _ _ h => h) (Or.inl ⟨by kernel_rfl, ?_⟩) hHeld ?_
      rotate_left
      · intro wh hSw
        go_simp
        try with_reducible rfl
      try simp only [Act.put, List.getElem_toArray, List.getElem_cons_zero, List.getElem_cons_succ, List.setIfInBounds_toArray, List.set_cons_zero, List.set_cons_succ]
      refine wpAnyH_take (i := 2) (v := ?_) rfl (by kernel_rfl) (by kernel_rfl) (by kernel_rfl) (fun _ _ _ h => h) (Or.inl ⟨by kernel_rfl, ?_⟩) hHeld ?_
      rotate_left
      · intro wh hSw
        go_simp
        try with_reducible rfl
      try simp only [Act.put, List.getElem_toArray, List.getElem_cons_zero, List.getElem_cons_succ, List.setIfInBounds_toArray, List.set_cons_zero, List.set_cons_succ]
      refine wpAnyH_take (i := 3) rfl (by kernel_rfl) (by kernel_rfl) (by kernel_rfl) (fun _ _ _ h => h) (yieldsIf_load_want (by kernel_rfl) 46 _ rfl _ rfl _ (fun wh hSw => ld46 hSw.1)) hHeld ?_
      try simp only [Act.put, List.getElem_toArray, List.getElem_cons_zero, List.getElem_cons_succ, List.setIfInBounds_toArray, List.set_cons_zero, List.set_cons_succ]
      refine wpAnyH_take (i := 4) (v := ?_) rfl (by kernel_rfl) (by kernel_rfl) (by kernel_rfl) (fun _ _ _ h => h) (Or.inl ⟨by kernel_rfl, ?_⟩) hHeld ?_
      rotate_left
      · intro wh hSw
        go_simp
        try with_reducible rfl
      try simp only [Act.put, List.getElem_toArray, List.getElem_cons_zero, List.getElem_cons_succ, List.setIfInBounds_toArray, List.set_cons_zero, List.set_cons_succ]
      refine wpAnyH_take (i := 5) (v := ?_) rfl (by kernel_rfl) (by kernel_rfl) (by kernel_rfl) (fun _ _ _ h => h) (Or.inl ⟨by kernel_rfl, ?_⟩) hHeld ?_
      rotate_left
      · intro wh hSw
        go_simp
        try with_reducible rfl
      try simp only [Act.put, List.getElem_toArray, List.getElem_cons_zero, List.getElem_cons_succ, List.setIfInBounds_toArray, List.set_cons_zero, List.set_cons_succ]
      refine wpAnyH_take (i := 6) (v := ?_) rfl (by kernel_rfl) (by kernel_rfl) (by kernel_rfl) (fun _ _ _ h => h) (Or.inl ⟨by kernel_rfl, ?_⟩) hHeld ?_
      rotate_left
      · intro wh hSw
        go_simp
        try with_reducible rfl
      try simp only [Act.put, List.getElem_toArray, List.getElem_cons_zero, List.getElem_cons_succ, List.setIfInBounds_toArray, List.set_cons_zero, List.set_cons_succ]
      refine wpAnyH_take (i := 7) rfl (by kernel_rfl) (by kernel_rfl) (by kernel_rfl) (fun _ _ _ h => h) (yieldsIf_load_want (by kernel_rfl) 46 _ rfl _ rfl _ (fun wh hSw => ld46 hSw.2)) hHeld ?_
      try simp only [Act.put, List.getElem_toArray, List.getElem_cons_zero, List.getElem_cons_succ, List.setIfInBounds_toArray, List.set_cons_zero, List.set_cons_succ]
      refine wpAnyH_ready (rs := [8]) (by kernel_rfl) (by simp) (AllReadyH.cons rfl (fun K hK => ?_) AllReadyH.nil)
      clear hHeld
      go_simp
      refine (sameOpt_any D o.1 o.2 hV.out.1 hV.out.2).mono ?_
      rintro r E ⟨rfl, bb⟩
      dsimp only
      replace hB := hidd (hB.out.trans (bb.mono hB.out.size))
      have S2 := hidd (hS.out E hB.out)
      clear bb S1 hV
      refine hK.out _ _ S2.out (fun hHeld => ?_)
      clear hK K
      try simp only [Act.put, List.getElem_toArray, List.getElem_cons_zero, List.getElem_cons_succ, List.setIfInBounds_toArray, List.set_cons_zero, List.set_cons_succ]
      refine wpAnyH_take (i := 9) (v := ?_) rfl (by kernel_rfl) (by kernel_rfl) (by kernel_rfl) (fun _ _ _ h => h) (Or.inl ⟨by kernel_rfl, ?_⟩) hHeld ?_
      rotate_left
      · intro wh hSw
        go_simp
        try with_reducible rfl
      try simp only [Act.put, List.getElem_toArray, List.getElem_cons_zero, List.getElem_cons_succ, List.setIfInBounds_toArray, List.set_cons_zero, List.set_cons_succ]
      refine wpAnyH_done (by kernel_rfl) ?_ _
      clear hHeld
      go_wp2
      go_roundw
      case rel => exact ⟨k + 1, by omega, by go_num, hB⟩
      case measure => simp [intOf]; omega
    · obtain rfl : k = n := by omega
      go_wp2
      go_ret
      exact ⟨rfl, hB.out⟩
end
end Go.Proofs.YtlckfnfmekgnkaaDoor
