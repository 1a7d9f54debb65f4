/- Lists of addresses: whether two are the same; a twin of one; whether a twin is as it was made. Each function walked once. No condition. -/
import Derived.Test.YtlckfnfmekgnkaaDoorLst
namespace Go.Proofs.YtlckfnfmekgnkaaDoor
open Go.ChangeShapes Go.WideShapes Go.ChangeAt Go.RowKit Go.Deep
set_option linter.unusedVariables false
set_option linter.unusedSimpArgs false

abbrev encA (a : List Int) : List Value := a.map (Value.int .u8)
def oddA : List Int := [1, 2, 3, 0, 0, 0, 0, 0, 0, 0, 0, 0, 0, 0, 0, 201]
theorem odd_is : IsAddr oddA := ⟨rfl, by decide⟩
theorem encA_len {a : List Int} (h : IsAddr a) : (encA a).length = 16 := by simp [h.len]
theorem info23z : (Tryd.prog.info? 23).map (fun i => (i.zero, i.size, i.bytes)) = some (some (.agg (Array.replicate 16 (.int .u8 0))), 16, 16) := by kernel_rfl
theorem ldA {V : World} {b o : Nat} {a : List Int} (h : V.rangeAt b o (encA a)) (ha : IsAddr a) : (loadVar 23 ⟨b, o, none⟩).run Tryd.prog V = .ok (.agg (bytesV a)) V :=
  run_loadVar_mid (P := Tryd.prog) V b o 23 (encA a) _ h Tryd.underlying23 rfl (by simpa using info23' ha)
theorem ldB {V : World} {b : Nat} {a : List Int} {t : TypeId} (h : Blk V b t (bytesV a)) (ha : IsAddr a) : (loadVar 23 ⟨b, 0, none⟩).run Tryd.prog V = .ok (.agg (bytesV a)) V :=
  ldA (fun j v hv => by
    rw [Nat.zero_add]
    refine h.at_ ?_
    rw [bytesV, List.getElem?_toArray]; exact hv) ha
theorem eqA (W : World) {a b : List Int} (ha : IsAddr a) (hb : IsAddr b) : (Op.equalIn 10000 23 (.agg (bytesV a)) (.agg (bytesV b))).run Tryd.prog W = .ok (a == b) W := eql23' W ha hb
/-- A new row of n elements and four more. -/
theorem make_row {P : Program} {t e : TypeId} {z : Value} {K bytes : Nat} (hu : P.underlying t = some (.slice e)) (hi : (P.info? e).map (fun i => (i.zero, i.size, i.bytes)) = some (some z, K, bytes)) (n : Nat) (hb : bytes * (n + 4) ≤ 281474976710656) (h63 : n ≤ 1000000000000000) :
    ∃ cs0 : Array Value, cs0.size = (n + 4) * K ∧ ∀ w : World, (Instr.makeSlice t (.int .i64 ((n : Int) + 4)) (.int .i64 ((n : Int) + 4))).run P w = .ok (.slice (some ⟨w.heap.size, 0, none⟩) (n + 4) (n + 4)) (w.alloc (.cells cs0 e)) := by
  obtain ⟨i, h1, h2, h3, h4⟩ := info_parts hi
  refine ⟨madeCells z.cells ((n + 4) * K), size_madeCells _ _, fun w => ?_⟩
  have := run_make (P := P) w t e i z hu h1 h2 .i64 .i64 ((n : Int) + 4) ((n : Int) + 4) (by omega) (by omega) (by
    have e : ((bytes * (n + 4) : Nat) : Int) = (bytes : Int) * ((n : Int) + 4) := by rw [Int.natCast_mul, Int.natCast_add]; rfl
    rw [h4, ← e]; omega) (by omega)
  have e4 : ((n : Int) + 4).toNat = n + 4 := by omega
  rw [e4, h3] at this
  exact this
def PA (ls : List (List Int)) (i : Nat) (l : List Value) : Prop := ∃ a, ls[i]? = some a ∧ l = encA a ∧ IsAddr a
def PAT (ls : List (List Int)) (i : Nat) (l : List Value) : Prop := if i < ls.length then PA ls i l else l = encA oddA
def AsIn (W : World) (v : Value) (ls : List (List Int)) : Prop := ∃ A c, v = .slice A ls.length c ∧ Lst W 16 A ls.length c (PA ls) ∧ ls.length * 16 ≤ 140737488355328
def AsTw (W : World) (Lo : Nat) (v : Value) (ls : List (List Int)) : Prop := ∃ g cs, v = .slice (some ⟨g, 0, none⟩) ls.length (ls.length + 4) ∧ Lo ≤ g ∧ Blk W g 23 cs ∧ cs.size = (ls.length + 4) * 16 ∧ Rows cs 16 (ls.length + 4) (PAT ls) ∧ ls.length * 16 ≤ 140737488355328
section
variable {w W W' : World} {v v' : Value} {ls : List (List Int)} {Lo Lo' : Nat}
theorem AsIn.to (h : AsIn W v ls) (hb : Below W.heap.size W W') : AsIn W' v ls := by
  obtain ⟨A, c, h1, h2, h3⟩ := h
  exact ⟨A, c, h1, h2.to hb (fun _ _ h => h), h3⟩
theorem AsTw.to (h : AsTw W Lo v ls) (hb : Below W.heap.size W W') : AsTw W' Lo v ls := by
  obtain ⟨g, cs, h1, h2, h3, h4, h5, h6⟩ := h
  exact ⟨g, cs, h1, h2, h3.below hb h3.lt, h4, h5, h6⟩
theorem AsTw.lo (h : AsTw W Lo v ls) (hl : Lo' ≤ Lo) : AsTw W Lo' v ls := by
  obtain ⟨g, cs, h1, h2, h3⟩ := h
  exact ⟨g, cs, h1, by omega, h3⟩
theorem AsTw.cells (h : AsTw W Lo v ls) {b : Nat} (hb : b < Lo) (o : Nat) (vs : List Value) : AsTw (W.setCells b o vs) Lo v ls := by
  obtain ⟨g, cs, h1, h2, h3, h4, h5, h6⟩ := h
  exact ⟨g, cs, h1, h2, h3.farCells b vs o _ (by omega), h4, h5, h6⟩
theorem AsTw.fr {S : Nat → Prop} (h : AsTw W Lo v ls) (hf : Fr S W W') (hS : ∀ k, Lo ≤ k → ¬ S k) : AsTw W' Lo v ls := by
  obtain ⟨g, cs, h1, h2, h3, h4, h5, h6⟩ := h
  exact ⟨g, cs, h1, h2, h3.fr hf (hS g h2), h4, h5, h6⟩
theorem AsTw.as_ (h : AsTw W Lo v ls) : AsIn W v ls := by
  obtain ⟨g, cs, h1, h2, h3, h4, h5, h6⟩ := h
  refine ⟨_, _, h1, Lst.of_rows h3 (fun j hj => ?_) (by omega) (by unfold maxLen; omega), h6⟩
  obtain ⟨l, h7, h8, h9⟩ := h5 j (by omega)
  exact ⟨l, h7, h8, by unfold PAT at h9; rwa [if_pos hj] at h9⟩
theorem AsTw.sl (h : AsTw W Lo v ls) : v.oneCell' = true := by
  obtain ⟨g, cs, rfl, _⟩ := h
  rfl
theorem below_drew (W : World) : Below W.heap.size W W.drew := (Below.refl _ W).drew
set_option maxRecDepth 100000 in
set_option maxHeartbeats 2000000 in
theorem sameA_any (w : World) (h : AsIn w v ls) (h' : AsIn w v' ls) : Calls Tryd.prog 50 #[v, v'] w fun r W' => r = .returned (.bool true) ∧ Below w.heap.size w W' := by
  obtain ⟨A, c, rfl, h2, h3⟩ := h
  obtain ⟨A', c', rfl, h2', _⟩ := h'
  have hcm := h2.cmax
  have hcn := h2.cap
  unfold maxLen at hcm
  obtain ⟨n, hn⟩ : ∃ n, ls.length = n := ⟨_, rfl⟩
  rw [hn] at h2 h2' h3 hcn ⊢
  have H := hidd (And.intro h2 h2')
  have hqe := fun V (a : List Int) (ha : IsAddr a) => eqA V ha ha
  have hgd := guard23
  have hn' := hidd hn
  clear h2 h2' hn
  go_enter Tryd.func50, Tryd.ntmps50
  go_wp2_with fail
  go_loopw [5] (fun i wr => ∃ k : Nat, k ≤ n ∧ i = .int .i64 k ∧ Hid (Below w.heap.size w wr)) (fun i _ => n - (intOf i).toNat)
  case atStart => exact ⟨0, Nat.zero_le _, rfl, hidd (Below.refl _ w)⟩
  case round =>
    obtain ⟨k, hk, rfl, hB⟩ := hrel
    by_cases hlt : k < n
    · have hz : (k : Int) < (n : Int) := by omega
      obtain ⟨b, off, rfl, hb, hc⟩ := H.out.1.at_ (by omega)
      obtain ⟨b', off', rfl, hb', hc'⟩ := H.out.2.at_ (by omega)
      obtain ⟨l, _, hr, a, ha0, rfl, ha⟩ := hc k hlt
      obtain ⟨l', _, hr', a', ha1, rfl, _⟩ := hc' k hlt
      rw [ha0] at ha1
      cases ha1
      have S1 := hidd (show wr.drew.rangeAt b (off + k * 16) (encA a) ∧ wr.drew.rangeAt b' (off' + k * 16) (encA a) from ⟨range_below hr hB.out.drew hb, range_below hr' hB.out.drew hb'⟩)
      replace hB := hidd hB.out.drew
      have hq := fun V => hqe V a ha
      replace ha := hidd ha
      clear hc hc' hr hr' hqe ha0
      go_wp2_with fail
      refine wp_region_held_drew (S := (fun V => V.rangeAt b (off + k * 16) (encA a) ∧ V.rangeAt b' (off' + k * 16) (encA a))) (by kernel_rfl) S1.out (fun hHeld => ?_)
      generalize wr.drew = D at S1 hB hHeld ⊢
      refine wpAnyH_take (i := 0) (v := ?_) rfl (by kernel_rfl) (by kernel_rfl) (by kernel_rfl) (fun _ _ _ h => h) (Or.inl ⟨by kernel_rfl, ?_⟩) hHeld ?_
      rotate_left
      · intro wh hSw
        go_simp
        try with_reducible rfl
      try simp only [Act.put, List.getElem_toArray, List.getElem_cons_zero, List.getElem_cons_succ, List.setIfInBounds_toArray, List.set_cons_zero, List.set_cons_succ]
      refine wpAnyH_take (i := 1) (v := ?_) rfl (by kernel_rfl) (by kernel_rfl) (by kernel_rfl) (fun _ _ _ h => h) (Or.inl ⟨by kernel_rfl, ?_⟩) hHeld ?_
      rotate_left
      · intro wh hSw
        go_simp
        try with_reducible rfl
      try simp only [Act.put, List.getElem_toArray, List.getElem_cons_zero, List.getElem_cons_succ, List.setIfInBounds_toArray, List.set_cons_zero, List.set_cons_succ]
      refine wpAnyH_take (i := 2) (v := ?_) rfl (by kernel_rfl) (by kernel_rfl) (by kernel_rfl) (fun _ _ _ h => h) (Or.inl ⟨by kernel_rfl, ?_⟩) hHeld ?_
      rotate_left
      · intro wh hSw
        go_simp
        try with_reducible rfl
      try simp only [Act.put, List.getElem_toArray, List.getElem_cons_zero, List.getElem_cons_succ, List.setIfInBounds_toArray, List.set_cons_zero, List.set_cons_succ]
      refine wpAnyH_take (i := 3) rfl (by kernel_rfl) (by kernel_rfl) (by kernel_rfl) (fun _ _ _ h => h) (yieldsIf_load_want (by kernel_rfl) 23 _ rfl _ rfl _ (fun wh hSw => ldA hSw.1 ha.out)) hHeld ?_
      try simp only [Act.put, List.getElem_toArray, List.getElem_cons_zero, List.getElem_cons_succ, List.setIfInBounds_toArray, List.set_cons_zero, List.set_cons_succ]
      refine wpAnyH_take (i := 4) (v := ?_) rfl (by kernel_rfl) (by kernel_rfl) (by kernel_rfl) (fun _ _ _ h => h) (Or.inl ⟨by kernel_rfl, ?_⟩) hHeld ?_
      rotate_left
      · intro wh hSw
        go_simp
        try with_reducible rfl
      try simp only [Act.put, List.getElem_toArray, List.getElem_cons_zero, List.getElem_cons_succ, List.setIfInBounds_toArray, List.set_cons_zero, List.set_cons_succ]
      refine wpAnyH_take (i := 5) (v := ?_) rfl (by kernel_rfl) (by kernel_rfl) (by kernel_rfl) (fun _ _ _ h => h) (Or.inl ⟨by kernel_rfl, ?_⟩) hHeld ?_
      rotate_left
      · intro wh hSw
        go_simp
        try with_reducible rfl
      try simp only [Act.put, List.getElem_toArray, List.getElem_cons_zero, List.getElem_cons_succ, List.setIfInBounds_toArray, List.set_cons_zero, List.set_cons_succ]
      refine wpAnyH_take (i := 6) (v := ?_) rfl (by kernel_rfl) (by kernel_rfl) (by kernel_rfl) (fun _ _ _ h => h) (Or.inl ⟨by kernel_rfl, ?_⟩) hHeld ?_
      rotate_left
      · intro wh hSw
        go_simp
        try with_reducible rfl
      try simp only [Act.put, List.getElem_toArray, List.getElem_cons_zero, List.getElem_cons_succ, List.setIfInBounds_toArray, List.set_cons_zero, List.set_cons_succ]
      refine wpAnyH_take (i := 7) rfl (by kernel_rfl) (by kernel_rfl) (by kernel_rfl) (fun _ _ _ h => h) (yieldsIf_load_want (by kernel_rfl) 23 _ rfl _ rfl _ (fun wh hSw => ldA hSw.2 ha.out)) hHeld ?_
      try simp only [Act.put, List.getElem_toArray, List.getElem_cons_zero, List.getElem_cons_succ, List.setIfInBounds_toArray, List.set_cons_zero, List.set_cons_succ]
      refine wpAnyH_take (i := 8) (v := ?_) rfl (by kernel_rfl) (by kernel_rfl) (by kernel_rfl) (fun _ _ _ h => h) (Or.inl ⟨by kernel_rfl, ?_⟩) hHeld ?_
      rotate_left
      · intro wh hSw
        go_simp
        try with_reducible rfl
      try simp only [Act.put, List.getElem_toArray, List.getElem_cons_zero, List.getElem_cons_succ, List.setIfInBounds_toArray, List.set_cons_zero, List.set_cons_succ]
      refine wpAnyH_done (by kernel_rfl) ?_ _
      clear hHeld
      go_wp2
      go_roundw
      case rel => exact ⟨k + 1, by omega, by go_num, hB⟩
      case measure => simp [intOf]; omega
    · obtain rfl : k = n := by omega
      go_wp2
      go_ret
      exact ⟨rfl, hB.out⟩
theorem odd_any (w : World) : Calls Tryd.prog 38 #[] w fun r W' => r = .returned (.agg (bytesV oddA)) ∧ Below w.heap.size w W' := by
  have b := Blk.new w 23 (bytesV oddA)
  have l1 := b.load Tryd.underlying23 rfl (size_bytes odd_is)
  go_enter Tryd.func38, Tryd.ntmps38
  go_wp2_with (refine wpList_store_new rfl rfl 23 _ _ rfl _ _ (bytesV oddA) rfl (by simp) rfl (size_bytes odd_is) rfl (ones_bytes _) ?_)
  refine bodyPost_ret (v := .agg (bytesV oddA)) (by
    have e : ∀ x : Value, (asAddr x).run Tryd.prog (w.alloc (.cells (bytesV oddA) 23)) = (asAddr x).run Tryd.prog (w.alloc (.cells (bytesV oddA) 23)) := fun _ => rfl
    simp [results, Tryd.results38, Act.put, asAddr, l1]) rfl ⟨rfl, (Below.refl _ w).alloc (Nat.le_refl _) _⟩
end
end Go.Proofs.YtlckfnfmekgnkaaDoor
