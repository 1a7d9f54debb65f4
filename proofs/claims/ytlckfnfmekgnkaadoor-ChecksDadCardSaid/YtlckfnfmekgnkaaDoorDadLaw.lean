/- 'ChecksDad': for every input the law returns true; nothing that was there is written. The row lists the table of known addresses. No other condition. -/
import Derived.Test.YtlckfnfmekgnkaaDoorLaid
namespace Go.Proofs.YtlckfnfmekgnkaaDoor
open Go.ChangeShapes Go.WideShapes Go.ChangeAt Go.RowKit Go.Deep
set_option linter.unusedVariables false
set_option linter.unusedSimpArgs false

theorem addr_ex {l : List Int} (h : IsAddr l) : ∃ a b c d e f g i j k m n o p q r : Int, l = [a, b, c, d, e, f, g, i, j, k, m, n, o, p, q, r] := by
  have hl := h.len
  match l, hl with
  | [a, b, c, d, e, f, g, i, j, k, m, n, o, p, q, r], _ => exact ⟨_, _, _, _, _, _, _, _, _, _, _, _, _, _, _, _, rfl⟩
theorem built30 {d : List Int} (h : IsAddr d) : Tryd.prog.built 30 [(1, .agg (bytesV d)), (2, .int .u8 255)] = some (pkV zeroA d 255 false) := by
  obtain ⟨_, _, _, _, _, _, _, _, _, _, _, _, _, _, _, _, rfl⟩ := addr_ex h
  kernel_rfl
theorem built35 {d : List Int} (h : IsAddr d) : Tryd.prog.built 35 [(0, .int .u8 135), (9, .agg (bytesV d))] = some (msV 135 d (.slice none 0 0)) := by
  obtain ⟨_, _, _, _, _, _, _, _, _, _, _, _, _, _, _, _, rfl⟩ := addr_ex h
  kernel_rfl

theorem ho_of {w V : World} {L : List (Nat × TypeId × Array Value)} (h : Kp w V L) {g : Nat} (hk : L[5]? = some (g, 46, #[.int .u8 14, .slice none 0 0, .int .u8 1, .slice none 0 0])) : IsOps V V.heap.size (.slice (some ⟨g, 0, none⟩) 2 2) [14, 1] :=
  ⟨some ⟨g, 0, none⟩, 2, 2, _, rfl, (h.get 5 hk).rd 2 2 2 rfl (Nat.le_refl _) (by unfold maxLen; omega) (h.lt 5 hk), rfl, fun i k h => by
    match i, h with
    | 0, h => simp at h; subst h; exact ⟨rfl, _, _, _, rfl⟩
    | 1, h => simp at h; subst h; exact ⟨rfl, _, _, _, rfl⟩⟩
def opsV : Array Value := #[.int .u8 14, .slice none 0 0, .int .u8 1, .slice none 0 0]
theorem ops_at {t : List Int} (ht : IsAddr t) {k : Int} {o : Value} : (msV k t o)[41]? = some o := by
  have l1 := ht.len
  have l2 := zeroA_is.len
  simp only [msV, List.getElem?_toArray]
  rw [List.getElem?_append_right (by simp), List.getElem?_append_right (by simp; omega), List.getElem?_append_right (by simp [l2]; omega)]
  simp [l1, l2]
def mk1 (t : List Int) : Ms := ⟨135, 0, 0, t, zeroA, []⟩
theorem eql23b (W : World) {a b : List Int} (ha : IsAddr a) (hb : IsAddr b) : (Op.equalIn 10000 23 (.agg (bytesV a)) (.agg (bytesV b))).run Tryd.prog W = .ok (a == b) W := eql23' W ha hb
theorem valid1 (t d : List Int) : valid ⟨zeroA, d, 255, false⟩ (mk1 t) = (!isMany t && d == soli t) := by
  simp [valid, rule, mk1, asks, solicits, none', tells]
theorem valid2 (t d : List Int) : valid ⟨zeroA, d, 255, false⟩ { mk1 t with ks := [14, 1] } = false := by
  simp [valid, rule, mk1, asks, solicits, none', tells]
theorem valid3 (t d s : List Int) : valid ⟨s, d, 255, false⟩ { mk1 t with ks := [14, 1] } = (!isMany t && !(s == zeroA)) := by
  cases h : s == zeroA <;> simp [valid, rule, mk1, asks, solicits, none', tells, h]

set_option maxRecDepth 100000 in
set_option maxHeartbeats 2000000 in
theorem walkChecksDad (t d s : List Int) (w : World) (ht0 : IsAddr t) (hd0 : IsAddr d) (hs0 : IsAddr s) (hg : Gl w) :
    Calls Tryd.prog 6 #[.agg (bytesV t), .agg (bytesV d), .agg (bytesV s)] w fun e w' => e = .returned (.bool true) ∧ Below w.heap.size w w' := by
  have ht := hidd ht0
  have hd := hidd hd0
  have hs := hidd hs0
  have hG := hidd hg
  have hb30 := built30 hd0
  have hb35 := built35 ht0
  have p_is' := hidd (pkV_is (alert := false) zeroA_is hd0 (h0 := show (0 : Int) ≤ 255 by omega) (h1 := by omega))
  have m0 := fun V B => msV_is (w := V) (B := B) (kind := 135) ht0 (by omega) (by omega) (noOps V B) rfl
  have S3 : (((w.alloc (.cells (bytesV t) 23)).alloc (.cells (bytesV d) 23)).alloc (.cells (bytesV s) 23)).heap.size = w.heap.size + 1 + 1 + 1 := by simp
  have K3 : Hid (Kp w (((w.alloc (.cells (bytesV t) 23)).alloc (.cells (bytesV d) 23)).alloc (.cells (bytesV s) 23)) [(w.heap.size, 23, bytesV t), (w.heap.size + 1, 23, bytesV d), (w.heap.size + 1 + 1, 23, bytesV s)]) :=
    (((Kp.nil w).new rfl 23 (bytesV t)).new (by simp) 23 (bytesV d)).new (by simp) 23 (bytesV s)
  have l0 := K3.out.l23 1 rfl hd.out
  clear ht0 hd0 hs0 hg
  go_enter Tryd.func6, Tryd.ntmps6
  go_wp2_with (first
    | (with_reducible show wpList _ _ _ (⟨_, Op.load 23 _, _, _, _, _⟩ :: _) _ _; refine wpList_load_want (by kernel_rfl) 23 _ rfl _ rfl _ (by with_reducible first | exact l0 | exact l1 | exact l2) ?_)
    | (refine wpList_build_want rfl 30 _ rfl (pkV zeroA d 255 false) (Eq.trans (b := Tryd.prog.built 30 [(1, .agg (bytesV d)), (2, .int .u8 255)]) (by kernel_rfl) hb30) ?_)
    | (refine wpList_build_want rfl 35 _ rfl (msV 135 t (.slice none 0 0)) (Eq.trans (b := Tryd.prog.built 35 [(0, .int .u8 135), (9, .agg (bytesV t))]) (by kernel_rfl) hb35) ?_)
    | (with_reducible show wpList _ _ _ (⟨_, Op.store 30 (Operand.tmp 7) _, _, _, _, _⟩ :: _) _ _; refine wpList_store_new rfl rfl 30 (.tmp 7) _ rfl _ _ (pkV zeroA d 255 false) rfl S3.symm rfl (size_pk p_is'.out) (Eq.trans (b := 40) (by kernel_rfl) p_is'.out.size.symm) p_is'.out.ones ?_
       have K4 := hidd (K3.out.new S3 30 (pkV zeroA d 255 false))
       have S4 := size_new S3 (.cells (pkV zeroA d 255 false) 30)
       have l1 := K4.out.l23 0 rfl ht.out)
    | (with_reducible show wpList _ _ _ (⟨_, Op.store 35 (Operand.tmp 8) _, _, _, _, _⟩ :: _) _ _; refine wpList_store_new rfl rfl 35 (.tmp 8) _ rfl _ _ (msV 135 t (.slice none 0 0)) rfl S4.symm rfl (size_ms (m0 w 0)) (Eq.trans (b := 63) (by kernel_rfl) (m0 w 0).size.symm) (m0 w 0).ones ?_
       have K5 := hidd (K4.out.new S4 35 (msV 135 t (.slice none 0 0)))
       have S5 := size_new S4 (.cells (msV 135 t (.slice none 0 0)) 35)
       have l2 := K5.out.l23 0 rfl ht.out))
  refine (many_any _ t ht.out).mono ?_
  rintro e V1 ⟨rfl, b1⟩
  have Q1 : Hid (Kp w V1 ([(w.heap.size, 23, bytesV t), (w.heap.size + 1, 23, bytesV d), (w.heap.size + 1 + 1, 23, bytesV s), (w.heap.size + 1 + 1 + 1, 30, pkV zeroA d 255 false), (w.heap.size + 1 + 1 + 1 + 1, 35, msV 135 t (.slice none 0 0))])) := K5.out.call b1
  have heq := fun W => eql23b W hd.out (soli_is ht.out)
  have heq2 := fun W => eql23b W hs.out zeroA_is
  have hgd := guard23
  clear b1 l0 l1 l2 K3 K4 K5 S3 S4 S5 hb30 hb35
  cases hm : isMany t
  · skip
    go_wp2
    refine wp_region_held_drew (S := (fun V => Kp w V ([(w.heap.size, 23, bytesV t), (w.heap.size + 1, 23, bytesV d), (w.heap.size + 1 + 1, 23, bytesV s), (w.heap.size + 1 + 1 + 1, 30, pkV zeroA d 255 false), (w.heap.size + 1 + 1 + 1 + 1, 35, msV 135 t (.slice none 0 0))]))) (by kernel_rfl) Q1.out.drew (fun hHeld => ?_)
    refine wpAnyH_take (i := 0) rfl (by kernel_rfl) (by kernel_rfl) (by kernel_rfl) (fun _ _ _ h => h) (yieldsIf_load_want (by kernel_rfl) 30 _ rfl _ rfl _ (fun wh hSw => hSw.l30 3 rfl p_is'.out)) hHeld ?_
    try simp only [Act.put, List.getElem_toArray, List.getElem_cons_zero, List.getElem_cons_succ, List.setIfInBounds_toArray, List.set_cons_zero, List.set_cons_succ]
    refine wpAnyH_take (i := 1) rfl (by kernel_rfl) (by kernel_rfl) (by kernel_rfl) (fun _ _ _ h => h) (yieldsIf_load_want (by kernel_rfl) 35 _ rfl _ rfl _ (fun wh hSw => hSw.l35 4 rfl (m0 w 0))) hHeld ?_
    try simp only [Act.put, List.getElem_toArray, List.getElem_cons_zero, List.getElem_cons_succ, List.setIfInBounds_toArray, List.set_cons_zero, List.set_cons_succ]
    refine wpAnyH_take (i := 3) (v := ?_) rfl (by kernel_rfl) (by kernel_rfl) (by kernel_rfl) (fun _ _ _ h => h) (Or.inl ⟨by kernel_rfl, ?_⟩) hHeld ?_
    rotate_left
    · intro wh hSw
      go_simp
      try with_reducible rfl
    try simp only [Act.put, List.getElem_toArray, List.getElem_cons_zero, List.getElem_cons_succ, List.setIfInBounds_toArray, List.set_cons_zero, List.set_cons_succ]
    refine wpAnyH_take (i := 4) (v := ?_) rfl (by kernel_rfl) (by kernel_rfl) (by kernel_rfl) (fun _ _ _ h => h) (Or.inl ⟨by kernel_rfl, ?_⟩) hHeld ?_
    rotate_left
    · intro wh hSw
      go_simp
      try with_reducible rfl
    try simp only [Act.put, List.getElem_toArray, List.getElem_cons_zero, List.getElem_cons_succ, List.setIfInBounds_toArray, List.set_cons_zero, List.set_cons_succ]
    refine wpAnyH_ready (rs := [2]) (by kernel_rfl) (by simp) (AllReadyH.cons rfl (fun K hK => ?_) AllReadyH.nil)
    clear hHeld
    go_simp
    refine (valid_any V1.drew _ _ ⟨zeroA, d, 255, false⟩ (mk1 t) (Q1.out.drew.gl hG.out) p_is'.out (m0 _ _)).mono ?_
    rintro e V2 ⟨rfl, b2⟩
    rw [show valid ⟨zeroA, d, 255, false⟩ (mk1 t) = (d == soli t) by rw [valid1, hm]; simp]
    have Q2 := hidd (Q1.out.drew.call b2)
    dsimp only
    refine hK.out _ _ Q2.out (fun hHeld => ?_)
    clear hK K
    try simp only [Act.put, List.getElem_toArray, List.getElem_cons_zero, List.getElem_cons_succ, List.setIfInBounds_toArray, List.set_cons_zero, List.set_cons_succ]
    refine wpAnyH_take (i := 5) (v := ?_) rfl (by kernel_rfl) (by kernel_rfl) (by kernel_rfl) (fun _ _ _ h => h) (Or.inl ⟨by kernel_rfl, ?_⟩) hHeld ?_
    rotate_left
    · intro wh hSw
      go_simp
      try with_reducible rfl
    try simp only [Act.put, List.getElem_toArray, List.getElem_cons_zero, List.getElem_cons_succ, List.setIfInBounds_toArray, List.set_cons_zero, List.set_cons_succ]
    refine wpAnyH_take (i := 6) rfl (by kernel_rfl) (by kernel_rfl) (by kernel_rfl) (fun _ _ _ h => h) (yieldsIf_load_want (by kernel_rfl) 23 _ rfl _ rfl _ (fun wh hSw => hSw.l23 1 rfl hd.out)) hHeld ?_
    try simp only [Act.put, List.getElem_toArray, List.getElem_cons_zero, List.getElem_cons_succ, List.setIfInBounds_toArray, List.set_cons_zero, List.set_cons_succ]
    refine wpAnyH_take (i := 7) rfl (by kernel_rfl) (by kernel_rfl) (by kernel_rfl) (fun _ _ _ h => h) (yieldsIf_load_want (by kernel_rfl) 23 _ rfl _ rfl _ (fun wh hSw => hSw.l23 0 rfl ht.out)) hHeld ?_
    try simp only [Act.put, List.getElem_toArray, List.getElem_cons_zero, List.getElem_cons_succ, List.setIfInBounds_toArray, List.set_cons_zero, List.set_cons_succ]
    refine wpAnyH_ready (rs := [8]) (by kernel_rfl) (by simp) (AllReadyH.cons rfl (fun K hK => ?_) AllReadyH.nil)
    clear hHeld
    go_simp
    refine (sol_any _ t ht.out (Q2.out.gl hG.out)).mono ?_
    rintro e V3 ⟨rfl, b3⟩
    have Q3 := hidd (Q2.out.call b3)
    dsimp only
    refine hK.out _ _ Q3.out (fun hHeld => ?_)
    clear hK K
    try simp only [Act.put, List.getElem_toArray, List.getElem_cons_zero, List.getElem_cons_succ, List.setIfInBounds_toArray, List.set_cons_zero, List.set_cons_succ]
    refine wpAnyH_take (i := 9) (v := ?_) rfl (by kernel_rfl) (by kernel_rfl) (by kernel_rfl) (fun _ _ _ h => h) (Or.inl ⟨by kernel_rfl, ?_⟩) hHeld ?_
    rotate_left
    · intro wh hSw
      go_simp
      try with_reducible rfl
    try simp only [Act.put, List.getElem_toArray, List.getElem_cons_zero, List.getElem_cons_succ, List.setIfInBounds_toArray, List.set_cons_zero, List.set_cons_succ]
    refine wpAnyH_take (i := 10) (v := ?_) rfl (by kernel_rfl) (by kernel_rfl) (by kernel_rfl) (fun _ _ _ h => h) (Or.inl ⟨by kernel_rfl, ?_⟩) hHeld ?_
    rotate_left
    · intro wh hSw
      go_simp
      try with_reducible rfl
    try simp only [Act.put, List.getElem_toArray, List.getElem_cons_zero, List.getElem_cons_succ, List.setIfInBounds_toArray, List.set_cons_zero, List.set_cons_succ]
    refine wpAnyH_take (i := 11) (v := ?_) rfl (by kernel_rfl) (by kernel_rfl) (by kernel_rfl) (fun _ _ _ h => h) (Or.inl ⟨by kernel_rfl, ?_⟩) hHeld ?_
    rotate_left
    · intro wh hSw
      go_simp
      try with_reducible rfl
    try simp only [Act.put, List.getElem_toArray, List.getElem_cons_zero, List.getElem_cons_succ, List.setIfInBounds_toArray, List.set_cons_zero, List.set_cons_succ]
    refine wpAnyH_done (by kernel_rfl) ?_ _
    clear hHeld
    have l0 := Q3.out.l23 0 rfl ht.out
    go_wp2_with (first
      | (with_reducible show wpList _ _ _ (⟨_, Op.load 23 _, _, _, _, _⟩ :: _) _ _; refine wpList_load_want (by kernel_rfl) 23 _ rfl _ rfl _ (by with_reducible exact l0) ?_))
    refine (sol_any _ t ht.out (Q3.out.gl hG.out)).mono ?_
    rintro e V4 ⟨rfl, b4⟩
    have Q4 := hidd (Q3.out.call b4)
    have t16 := Q4.out.there 3 rfl (o := 16) (n := (soli t).length) (by rw [p_is'.out.size, (soli_is ht.out).len]; omega)
    have Q5 : Hid (Kp w (V4.setCells (w.heap.size + 1 + 1 + 1) 16 ((soli t).map (Value.int .u8))) ([(w.heap.size, 23, bytesV t), (w.heap.size + 1, 23, bytesV d), (w.heap.size + 1 + 1, 23, bytesV s), (w.heap.size + 1 + 1 + 1, 30, over (pkV zeroA d 255 false) 16 ((soli t).map (Value.int .u8))), (w.heap.size + 1 + 1 + 1 + 1, 35, msV 135 t (.slice none 0 0))])) := Q4.out.over 3 rfl 16 ((soli t).map (Value.int .u8))
    have pb_is := hidd (p_is'.out.setDst (soli_is ht.out))
    have l3 := Q5.out.l30 3 rfl pb_is.out
    have l4 := Q5.out.l35 4 rfl (m0 w 0)
    go_wp2_with (first
      | (with_reducible show wpList _ _ _ (⟨_, Op.store 23 (Operand.tmp 30) _, _, _, _, _⟩ :: _) _ _; refine wpList_store_bytes rfl rfl 23 (.tmp 30) _ rfl _ _ (soli t) rfl rfl t16 (info23' (soli_is ht.out)) ?_)
      | (with_reducible show wpList _ _ _ (⟨_, Op.load 30 _, _, _, _, _⟩ :: _) _ _; refine wpList_load_want (by kernel_rfl) 30 _ rfl _ rfl _ (by with_reducible exact l3) ?_)
      | (with_reducible show wpList _ _ _ (⟨_, Op.load 35 _, _, _, _, _⟩ :: _) _ _; refine wpList_load_want (by kernel_rfl) 35 _ rfl _ rfl _ (by with_reducible exact l4) ?_))
    refine (valid_any _ _ _ ⟨zeroA, soli t, 255, false⟩ (mk1 t) (Q5.out.gl hG.out) pb_is.out (m0 _ _)).mono ?_
    rintro e V6 ⟨rfl, b6⟩
    rw [show valid ⟨zeroA, soli t, 255, false⟩ (mk1 t) = true by rw [valid1, hm]; simp]
    have Q6 := hidd (Q5.out.call b6)
    clear l0 l3 l4 t16 b4 b6 Q4
    have K7 := hidd (Q6.out.new rfl 46 opsV)
    have c7 := K7.out.cell 4 rfl (i := 41) (v := .slice none 0 0) (ops_at ht.out)
    have f7 := K7.out.frozen 4 rfl 41
    have Q7 : Hid (Kp w ((V6.alloc (.cells opsV 46)).setCell ⟨w.heap.size + 1 + 1 + 1 + 1, 41, none⟩ (.slice (some ⟨V6.heap.size, 0, none⟩) 2 2)) ([(w.heap.size, 23, bytesV t), (w.heap.size + 1, 23, bytesV d), (w.heap.size + 1 + 1, 23, bytesV s), (w.heap.size + 1 + 1 + 1, 30, over (pkV zeroA d 255 false) 16 ((soli t).map (Value.int .u8))), (w.heap.size + 1 + 1 + 1 + 1, 35, (msV 135 t (.slice none 0 0)).setIfInBounds 41 (.slice (some ⟨V6.heap.size, 0, none⟩) 2 2)), (V6.heap.size, 46, opsV)])) := K7.out.set 4 rfl 41 (.slice (some ⟨V6.heap.size, 0, none⟩) 2 2)
    have ho7 := hidd (ho_of Q7.out rfl)
    have mb_is := hidd ((m0 _ _).setOps ho7.out rfl)
    have l5 := Q7.out.l30 3 rfl pb_is.out
    have l6 := Q7.out.l35 4 rfl mb_is.out
    unfold opsV at *
    go_wp2_with (first
      | (with_reducible show wpList _ _ _ (⟨_, Op.load 30 _, _, _, _, _⟩ :: _) _ _; refine wpList_load_want (by kernel_rfl) 30 _ rfl _ rfl _ (by with_reducible exact l5) ?_)
      | (with_reducible show wpList _ _ _ (⟨_, Op.load 35 _, _, _, _, _⟩ :: _) _ _; refine wpList_load_want (by kernel_rfl) 35 _ rfl _ rfl _ (by with_reducible exact l6) ?_))
    refine (valid_any _ _ _ ⟨zeroA, soli t, 255, false⟩ { mk1 t with ks := [14, 1] } (Q7.out.gl hG.out) pb_is.out mb_is.out).mono ?_
    rintro e V8 ⟨rfl, b8⟩
    rw [valid2]
    have Q8 := hidd (Q7.out.call b8)
    clear l5 l6 c7 f7 K7 ho7 mb_is b8 Q7
    have l7 := Q8.out.l23 2 rfl hs.out
    have t7 := Q8.out.there 3 rfl (o := 0) (n := s.length) (by rw [pb_is.out.size, hs.out.len]; omega)
    have Q9 := hidd (Q8.out.over 3 rfl 0 (s.map (Value.int .u8)))
    have pc_is := hidd (pb_is.out.setSrc hs.out)
    have l8 := Q9.out.l23 1 rfl hd.out
    have t8 := Q9.out.there 3 rfl (o := 16) (n := d.length) (by rw [pc_is.out.size, hd.out.len]; omega)
    have Q10 := hidd (Q9.out.over 3 rfl 16 (d.map (Value.int .u8)))
    have pd_is := hidd (pc_is.out.setDst hd.out)
    go_wp2_with (first
      | (with_reducible show wpList _ _ _ (⟨_, Op.load 23 _, _, _, _, _⟩ :: _) _ _; refine wpList_load_want (by kernel_rfl) 23 _ rfl _ rfl _ (by with_reducible first | exact l7 | exact l8) ?_)
      | (with_reducible show wpList _ _ _ (⟨_, Op.store 23 (Operand.tmp 44) _, _, _, _, _⟩ :: _) _ _; refine wpList_store_bytes rfl rfl 23 (.tmp 44) _ rfl _ _ s rfl rfl t7 (info23' hs.out) ?_)
      | (with_reducible show wpList _ _ _ (⟨_, Op.store 23 (Operand.tmp 46) _, _, _, _, _⟩ :: _) _ _; refine wpList_store_bytes rfl rfl 23 (.tmp 46) _ rfl _ _ d rfl rfl t8 (info23' hd.out) ?_))
    clear l7 l8 t7 t8
    generalize (V8.setCells (w.heap.size + 1 + 1 + 1) 0 (s.map (Value.int .u8))).setCells (w.heap.size + 1 + 1 + 1) 16 (d.map (Value.int .u8)) = V10 at Q10 ⊢
    obtain ⟨L, cd, cm, q, q2, q3, q4, pd, mm⟩ : ∃ (L : List (Nat × TypeId × Array Value)) (cd cm : Array Value), Hid (Kp w V10 L) ∧ L[2]? = some (w.heap.size + 1 + 1, 23, bytesV s) ∧ L[3]? = some (w.heap.size + 1 + 1 + 1, 30, cd) ∧ L[4]? = some (w.heap.size + 1 + 1 + 1 + 1, 35, cm) ∧ Hid (IsPk cd ⟨s, d, 255, false⟩) ∧ (∀ V, Kp w V L → IsMs V V.heap.size cm { mk1 t with ks := [14, 1] }) :=
      ⟨_, _, _, Q10, rfl, rfl, rfl, pd_is, fun V hV => (m0 V V.heap.size).setOps (ho_of hV rfl) rfl⟩
    clear Q10 Q9 Q8 pd_is pc_is
    refine wp_region_held_drew (S := (fun V => Kp w V L)) (by kernel_rfl) q.out.drew (fun hHeld => ?_)
    refine wpAnyH_take (i := 0) rfl (by kernel_rfl) (by kernel_rfl) (by kernel_rfl) (fun _ _ _ h => h) (yieldsIf_load_want (by kernel_rfl) 30 _ rfl _ rfl _ (fun wh hSw => hSw.l30 3 q3 pd.out)) hHeld ?_
    try simp only [Act.put, List.getElem_toArray, List.getElem_cons_zero, List.getElem_cons_succ, List.setIfInBounds_toArray, List.set_cons_zero, List.set_cons_succ]
    refine wpAnyH_take (i := 1) rfl (by kernel_rfl) (by kernel_rfl) (by kernel_rfl) (fun _ _ _ h => h) (yieldsIf_load_want (by kernel_rfl) 35 _ rfl _ rfl _ (fun wh hSw => hSw.l35 4 q4 (mm wh hSw))) hHeld ?_
    try simp only [Act.put, List.getElem_toArray, List.getElem_cons_zero, List.getElem_cons_succ, List.setIfInBounds_toArray, List.set_cons_zero, List.set_cons_succ]
    refine wpAnyH_take (i := 3) (v := ?_) rfl (by kernel_rfl) (by kernel_rfl) (by kernel_rfl) (fun _ _ _ h => h) (Or.inl ⟨by kernel_rfl, ?_⟩) hHeld ?_
    rotate_left
    · intro wh hSw
      go_simp
      try with_reducible rfl
    try simp only [Act.put, List.getElem_toArray, List.getElem_cons_zero, List.getElem_cons_succ, List.setIfInBounds_toArray, List.set_cons_zero, List.set_cons_succ]
    refine wpAnyH_take (i := 4) (v := ?_) rfl (by kernel_rfl) (by kernel_rfl) (by kernel_rfl) (fun _ _ _ h => h) (Or.inl ⟨by kernel_rfl, ?_⟩) hHeld ?_
    rotate_left
    · intro wh hSw
      go_simp
      try with_reducible rfl
    try simp only [Act.put, List.getElem_toArray, List.getElem_cons_zero, List.getElem_cons_succ, List.setIfInBounds_toArray, List.set_cons_zero, List.set_cons_succ]
    refine wpAnyH_ready (rs := [2]) (by kernel_rfl) (by simp) (AllReadyH.cons rfl (fun K hK => ?_) AllReadyH.nil)
    clear hHeld
    go_simp
    refine (valid_any V10.drew _ _ ⟨s, d, 255, false⟩ { mk1 t with ks := [14, 1] } (q.out.drew.gl hG.out) pd.out (mm _ q.out.drew)).mono ?_
    rintro e V11 ⟨rfl, b11⟩
    rw [show valid ⟨s, d, 255, false⟩ { mk1 t with ks := [14, 1] } = (!(s == zeroA)) by rw [valid3, hm]; simp]
    have Q11 := hidd (q.out.drew.call b11)
    dsimp only
    refine hK.out _ _ Q11.out (fun hHeld => ?_)
    clear hK K
    try simp only [Act.put, List.getElem_toArray, List.getElem_cons_zero, List.getElem_cons_succ, List.setIfInBounds_toArray, List.set_cons_zero, List.set_cons_succ]
    refine wpAnyH_take (i := 5) (v := ?_) rfl (by kernel_rfl) (by kernel_rfl) (by kernel_rfl) (fun _ _ _ h => h) (Or.inl ⟨by kernel_rfl, ?_⟩) hHeld ?_
    rotate_left
    · intro wh hSw
      go_simp
      try with_reducible rfl
    try simp only [Act.put, List.getElem_toArray, List.getElem_cons_zero, List.getElem_cons_succ, List.setIfInBounds_toArray, List.set_cons_zero, List.set_cons_succ]
    refine wpAnyH_take (i := 6) rfl (by kernel_rfl) (by kernel_rfl) (by kernel_rfl) (fun _ _ _ h => h) (yieldsIf_load_want (by kernel_rfl) 23 _ rfl _ rfl _ (fun wh hSw => hSw.l23 2 q2 hs.out)) hHeld ?_
    try simp only [Act.put, List.getElem_toArray, List.getElem_cons_zero, List.getElem_cons_succ, List.setIfInBounds_toArray, List.set_cons_zero, List.set_cons_succ]
    refine wpAnyH_ready (rs := [7]) (by kernel_rfl) (by simp) (AllReadyH.cons rfl (fun K hK => ?_) AllReadyH.nil)
    clear hHeld
    go_simp
    refine (unspec_any _ (Q11.out.gl hG.out)).mono ?_
    rintro e V12 ⟨rfl, b12⟩
    have Q12 := hidd (Q11.out.call b12)
    dsimp only
    refine hK.out _ _ Q12.out (fun hHeld => ?_)
    clear hK K
    try simp only [Act.put, List.getElem_toArray, List.getElem_cons_zero, List.getElem_cons_succ, List.setIfInBounds_toArray, List.set_cons_zero, List.set_cons_succ]
    refine wpAnyH_take (i := 8) (v := ?_) rfl (by kernel_rfl) (by kernel_rfl) (by kernel_rfl) (fun _ _ _ h => h) (Or.inl ⟨by kernel_rfl, ?_⟩) hHeld ?_
    rotate_left
    · intro wh hSw
      go_simp
      try with_reducible rfl
    try simp only [Act.put, List.getElem_toArray, List.getElem_cons_zero, List.getElem_cons_succ, List.setIfInBounds_toArray, List.set_cons_zero, List.set_cons_succ]
    refine wpAnyH_take (i := 9) (v := ?_) rfl (by kernel_rfl) (by kernel_rfl) (by kernel_rfl) (fun _ _ _ h => h) (Or.inl ⟨by kernel_rfl, ?_⟩) hHeld ?_
    rotate_left
    · intro wh hSw
      go_simp
      try with_reducible rfl
    try simp only [Act.put, List.getElem_toArray, List.getElem_cons_zero, List.getElem_cons_succ, List.setIfInBounds_toArray, List.set_cons_zero, List.set_cons_succ]
    refine wpAnyH_take (i := 10) (v := ?_) rfl (by kernel_rfl) (by kernel_rfl) (by kernel_rfl) (fun _ _ _ h => h) (Or.inl ⟨by kernel_rfl, ?_⟩) hHeld ?_
    rotate_left
    · intro wh hSw
      go_simp
      try with_reducible rfl
    try simp only [Act.put, List.getElem_toArray, List.getElem_cons_zero, List.getElem_cons_succ, List.setIfInBounds_toArray, List.set_cons_zero, List.set_cons_succ]
    refine wpAnyH_take (i := 11) (v := ?_) rfl (by kernel_rfl) (by kernel_rfl) (by kernel_rfl) (fun _ _ _ h => h) (Or.inl ⟨by kernel_rfl, ?_⟩) hHeld ?_
    rotate_left
    · intro wh hSw
      go_simp
      try with_reducible rfl
    try simp only [Act.put, List.getElem_toArray, List.getElem_cons_zero, List.getElem_cons_succ, List.setIfInBounds_toArray, List.set_cons_zero, List.set_cons_succ]
    refine wpAnyH_ready (rs := [12]) (by kernel_rfl) (by simp) (AllReadyH.cons rfl (fun K hK => ?_) AllReadyH.nil)
    clear hHeld
    go_simp
    refine (lives_any _ (Q12.out.gl hG.out)).mono ?_
    rintro e V13 ⟨rfl, b13⟩
    have Q13 := hidd (Q12.out.call b13)
    dsimp only
    refine hK.out _ _ Q13.out (fun hHeld => ?_)
    clear hK K
    try simp only [Act.put, List.getElem_toArray, List.getElem_cons_zero, List.getElem_cons_succ, List.setIfInBounds_toArray, List.set_cons_zero, List.set_cons_succ]
    refine wpAnyH_take (i := 13) (v := ?_) rfl (by kernel_rfl) (by kernel_rfl) (by kernel_rfl) (fun _ _ _ h => h) (Or.inl ⟨by kernel_rfl, ?_⟩) hHeld ?_
    rotate_left
    · intro wh hSw
      go_simp
      try with_reducible rfl
    try simp only [Act.put, List.getElem_toArray, List.getElem_cons_zero, List.getElem_cons_succ, List.setIfInBounds_toArray, List.set_cons_zero, List.set_cons_succ]
    refine wpAnyH_take (i := 14) (v := ?_) rfl (by kernel_rfl) (by kernel_rfl) (by kernel_rfl) (fun _ _ _ h => h) (Or.inl ⟨by kernel_rfl, ?_⟩) hHeld ?_
    rotate_left
    · intro wh hSw
      go_simp
      try with_reducible rfl
    try simp only [Act.put, List.getElem_toArray, List.getElem_cons_zero, List.getElem_cons_succ, List.setIfInBounds_toArray, List.set_cons_zero, List.set_cons_succ]
    refine wpAnyH_done (by kernel_rfl) ?_ _
    clear hHeld
    go_wp2
    go_ret
    exact ⟨rfl, Q13.out.bel⟩
  · skip
    go_wp2
    refine wp_region_held_drew (S := (fun V => Kp w V ([(w.heap.size, 23, bytesV t), (w.heap.size + 1, 23, bytesV d), (w.heap.size + 1 + 1, 23, bytesV s), (w.heap.size + 1 + 1 + 1, 30, pkV zeroA d 255 false), (w.heap.size + 1 + 1 + 1 + 1, 35, msV 135 t (.slice none 0 0))]))) (by kernel_rfl) Q1.out.drew (fun hHeld => ?_)
    refine wpAnyH_take (i := 0) rfl (by kernel_rfl) (by kernel_rfl) (by kernel_rfl) (fun _ _ _ h => h) (yieldsIf_load_want (by kernel_rfl) 30 _ rfl _ rfl _ (fun wh hSw => hSw.l30 3 rfl p_is'.out)) hHeld ?_
    try simp only [Act.put, List.getElem_toArray, List.getElem_cons_zero, List.getElem_cons_succ, List.setIfInBounds_toArray, List.set_cons_zero, List.set_cons_succ]
    refine wpAnyH_take (i := 1) rfl (by kernel_rfl) (by kernel_rfl) (by kernel_rfl) (fun _ _ _ h => h) (yieldsIf_load_want (by kernel_rfl) 35 _ rfl _ rfl _ (fun wh hSw => hSw.l35 4 rfl (m0 w 0))) hHeld ?_
    try simp only [Act.put, List.getElem_toArray, List.getElem_cons_zero, List.getElem_cons_succ, List.setIfInBounds_toArray, List.set_cons_zero, List.set_cons_succ]
    refine wpAnyH_take (i := 3) (v := ?_) rfl (by kernel_rfl) (by kernel_rfl) (by kernel_rfl) (fun _ _ _ h => h) (Or.inl ⟨by kernel_rfl, ?_⟩) hHeld ?_
    rotate_left
    · intro wh hSw
      go_simp
      try with_reducible rfl
    try simp only [Act.put, List.getElem_toArray, List.getElem_cons_zero, List.getElem_cons_succ, List.setIfInBounds_toArray, List.set_cons_zero, List.set_cons_succ]
    refine wpAnyH_take (i := 4) (v := ?_) rfl (by kernel_rfl) (by kernel_rfl) (by kernel_rfl) (fun _ _ _ h => h) (Or.inl ⟨by kernel_rfl, ?_⟩) hHeld ?_
    rotate_left
    · intro wh hSw
      go_simp
      try with_reducible rfl
    try simp only [Act.put, List.getElem_toArray, List.getElem_cons_zero, List.getElem_cons_succ, List.setIfInBounds_toArray, List.set_cons_zero, List.set_cons_succ]
    refine wpAnyH_ready (rs := [2]) (by kernel_rfl) (by simp) (AllReadyH.cons rfl (fun K hK => ?_) AllReadyH.nil)
    clear hHeld
    go_simp
    refine (valid_any V1.drew _ _ ⟨zeroA, d, 255, false⟩ (mk1 t) (Q1.out.drew.gl hG.out) p_is'.out (m0 _ _)).mono ?_
    rintro e V2 ⟨rfl, b2⟩
    rw [show valid ⟨zeroA, d, 255, false⟩ (mk1 t) = false by rw [valid1, hm]; simp]
    have Q2 := hidd (Q1.out.drew.call b2)
    dsimp only
    refine hK.out _ _ Q2.out (fun hHeld => ?_)
    clear hK K
    try simp only [Act.put, List.getElem_toArray, List.getElem_cons_zero, List.getElem_cons_succ, List.setIfInBounds_toArray, List.set_cons_zero, List.set_cons_succ]
    refine wpAnyH_take (i := 5) (v := ?_) rfl (by kernel_rfl) (by kernel_rfl) (by kernel_rfl) (fun _ _ _ h => h) (Or.inl ⟨by kernel_rfl, ?_⟩) hHeld ?_
    rotate_left
    · intro wh hSw
      go_simp
      try with_reducible rfl
    try simp only [Act.put, List.getElem_toArray, List.getElem_cons_zero, List.getElem_cons_succ, List.setIfInBounds_toArray, List.set_cons_zero, List.set_cons_succ]
    refine wpAnyH_take (i := 6) rfl (by kernel_rfl) (by kernel_rfl) (by kernel_rfl) (fun _ _ _ h => h) (Or.inr ⟨by kernel_rfl, rfl⟩) hHeld ?_
    try simp only [Act.put, List.getElem_toArray, List.getElem_cons_zero, List.getElem_cons_succ, List.setIfInBounds_toArray, List.set_cons_zero, List.set_cons_succ]
    refine wpAnyH_take (i := 7) rfl (by kernel_rfl) (by kernel_rfl) (by kernel_rfl) (fun _ _ _ h => h) (Or.inr ⟨by kernel_rfl, rfl⟩) hHeld ?_
    try simp only [Act.put, List.getElem_toArray, List.getElem_cons_zero, List.getElem_cons_succ, List.setIfInBounds_toArray, List.set_cons_zero, List.set_cons_succ]
    refine wpAnyH_take (i := 8) rfl (by kernel_rfl) (by kernel_rfl) (by kernel_rfl) (fun _ _ _ h => h) (Or.inr ⟨by kernel_rfl, rfl⟩) hHeld ?_
    try simp only [Act.put, List.getElem_toArray, List.getElem_cons_zero, List.getElem_cons_succ, List.setIfInBounds_toArray, List.set_cons_zero, List.set_cons_succ]
    refine wpAnyH_take (i := 9) rfl (by kernel_rfl) (by kernel_rfl) (by kernel_rfl) (fun _ _ _ h => h) (Or.inr ⟨by kernel_rfl, rfl⟩) hHeld ?_
    try simp only [Act.put, List.getElem_toArray, List.getElem_cons_zero, List.getElem_cons_succ, List.setIfInBounds_toArray, List.set_cons_zero, List.set_cons_succ]
    refine wpAnyH_take (i := 10) (v := ?_) rfl (by kernel_rfl) (by kernel_rfl) (by kernel_rfl) (fun _ _ _ h => h) (Or.inl ⟨by kernel_rfl, ?_⟩) hHeld ?_
    rotate_left
    · intro wh hSw
      go_simp
      try with_reducible rfl
    try simp only [Act.put, List.getElem_toArray, List.getElem_cons_zero, List.getElem_cons_succ, List.setIfInBounds_toArray, List.set_cons_zero, List.set_cons_succ]
    refine wpAnyH_take (i := 11) (v := ?_) rfl (by kernel_rfl) (by kernel_rfl) (by kernel_rfl) (fun _ _ _ h => h) (Or.inl ⟨by kernel_rfl, ?_⟩) hHeld ?_
    rotate_left
    · intro wh hSw
      go_simp
      try with_reducible rfl
    try simp only [Act.put, List.getElem_toArray, List.getElem_cons_zero, List.getElem_cons_succ, List.setIfInBounds_toArray, List.set_cons_zero, List.set_cons_succ]
    refine wpAnyH_done (by kernel_rfl) ?_ _
    clear hHeld
    have l0 := Q2.out.l23 0 rfl ht.out
    go_wp2_with (first
      | (with_reducible show wpList _ _ _ (⟨_, Op.load 23 _, _, _, _, _⟩ :: _) _ _; refine wpList_load_want (by kernel_rfl) 23 _ rfl _ rfl _ (by with_reducible exact l0) ?_))
    refine (sol_any _ t ht.out (Q2.out.gl hG.out)).mono ?_
    rintro e V4 ⟨rfl, b4⟩
    have Q4 := hidd (Q2.out.call b4)
    have t16 := Q4.out.there 3 rfl (o := 16) (n := (soli t).length) (by rw [p_is'.out.size, (soli_is ht.out).len]; omega)
    have Q5 : Hid (Kp w (V4.setCells (w.heap.size + 1 + 1 + 1) 16 ((soli t).map (Value.int .u8))) ([(w.heap.size, 23, bytesV t), (w.heap.size + 1, 23, bytesV d), (w.heap.size + 1 + 1, 23, bytesV s), (w.heap.size + 1 + 1 + 1, 30, over (pkV zeroA d 255 false) 16 ((soli t).map (Value.int .u8))), (w.heap.size + 1 + 1 + 1 + 1, 35, msV 135 t (.slice none 0 0))])) := Q4.out.over 3 rfl 16 ((soli t).map (Value.int .u8))
    have pb_is := hidd (p_is'.out.setDst (soli_is ht.out))
    have l3 := Q5.out.l30 3 rfl pb_is.out
    have l4 := Q5.out.l35 4 rfl (m0 w 0)
    go_wp2_with (first
      | (with_reducible show wpList _ _ _ (⟨_, Op.store 23 (Operand.tmp 30) _, _, _, _, _⟩ :: _) _ _; refine wpList_store_bytes rfl rfl 23 (.tmp 30) _ rfl _ _ (soli t) rfl rfl t16 (info23' (soli_is ht.out)) ?_)
      | (with_reducible show wpList _ _ _ (⟨_, Op.load 30 _, _, _, _, _⟩ :: _) _ _; refine wpList_load_want (by kernel_rfl) 30 _ rfl _ rfl _ (by with_reducible exact l3) ?_)
      | (with_reducible show wpList _ _ _ (⟨_, Op.load 35 _, _, _, _, _⟩ :: _) _ _; refine wpList_load_want (by kernel_rfl) 35 _ rfl _ rfl _ (by with_reducible exact l4) ?_))
    refine (valid_any _ _ _ ⟨zeroA, soli t, 255, false⟩ (mk1 t) (Q5.out.gl hG.out) pb_is.out (m0 _ _)).mono ?_
    rintro e V6 ⟨rfl, b6⟩
    rw [show valid ⟨zeroA, soli t, 255, false⟩ (mk1 t) = false by rw [valid1, hm]; simp]
    have Q6 := hidd (Q5.out.call b6)
    clear l0 l3 l4 t16 b4 b6 Q4
    have K7 := hidd (Q6.out.new rfl 46 opsV)
    have c7 := K7.out.cell 4 rfl (i := 41) (v := .slice none 0 0) (ops_at ht.out)
    have f7 := K7.out.frozen 4 rfl 41
    have Q7 : Hid (Kp w ((V6.alloc (.cells opsV 46)).setCell ⟨w.heap.size + 1 + 1 + 1 + 1, 41, none⟩ (.slice (some ⟨V6.heap.size, 0, none⟩) 2 2)) ([(w.heap.size, 23, bytesV t), (w.heap.size + 1, 23, bytesV d), (w.heap.size + 1 + 1, 23, bytesV s), (w.heap.size + 1 + 1 + 1, 30, over (pkV zeroA d 255 false) 16 ((soli t).map (Value.int .u8))), (w.heap.size + 1 + 1 + 1 + 1, 35, (msV 135 t (.slice none 0 0)).setIfInBounds 41 (.slice (some ⟨V6.heap.size, 0, none⟩) 2 2)), (V6.heap.size, 46, opsV)])) := K7.out.set 4 rfl 41 (.slice (some ⟨V6.heap.size, 0, none⟩) 2 2)
    have ho7 := hidd (ho_of Q7.out rfl)
    have mb_is := hidd ((m0 _ _).setOps ho7.out rfl)
    have l5 := Q7.out.l30 3 rfl pb_is.out
    have l6 := Q7.out.l35 4 rfl mb_is.out
    unfold opsV at *
    go_wp2_with (first
      | (with_reducible show wpList _ _ _ (⟨_, Op.load 30 _, _, _, _, _⟩ :: _) _ _; refine wpList_load_want (by kernel_rfl) 30 _ rfl _ rfl _ (by with_reducible exact l5) ?_)
      | (with_reducible show wpList _ _ _ (⟨_, Op.load 35 _, _, _, _, _⟩ :: _) _ _; refine wpList_load_want (by kernel_rfl) 35 _ rfl _ rfl _ (by with_reducible exact l6) ?_))
    refine (valid_any _ _ _ ⟨zeroA, soli t, 255, false⟩ { mk1 t with ks := [14, 1] } (Q7.out.gl hG.out) pb_is.out mb_is.out).mono ?_
    rintro e V8 ⟨rfl, b8⟩
    rw [valid2]
    have Q8 := hidd (Q7.out.call b8)
    clear l5 l6 c7 f7 K7 ho7 mb_is b8 Q7
    have l7 := Q8.out.l23 2 rfl hs.out
    have t7 := Q8.out.there 3 rfl (o := 0) (n := s.length) (by rw [pb_is.out.size, hs.out.len]; omega)
    have Q9 := hidd (Q8.out.over 3 rfl 0 (s.map (Value.int .u8)))
    have pc_is := hidd (pb_is.out.setSrc hs.out)
    have l8 := Q9.out.l23 1 rfl hd.out
    have t8 := Q9.out.there 3 rfl (o := 16) (n := d.length) (by rw [pc_is.out.size, hd.out.len]; omega)
    have Q10 := hidd (Q9.out.over 3 rfl 16 (d.map (Value.int .u8)))
    have pd_is := hidd (pc_is.out.setDst hd.out)
    go_wp2_with (first
      | (with_reducible show wpList _ _ _ (⟨_, Op.load 23 _, _, _, _, _⟩ :: _) _ _; refine wpList_load_want (by kernel_rfl) 23 _ rfl _ rfl _ (by with_reducible first | exact l7 | exact l8) ?_)
      | (with_reducible show wpList _ _ _ (⟨_, Op.store 23 (Operand.tmp 44) _, _, _, _, _⟩ :: _) _ _; refine wpList_store_bytes rfl rfl 23 (.tmp 44) _ rfl _ _ s rfl rfl t7 (info23' hs.out) ?_)
      | (with_reducible show wpList _ _ _ (⟨_, Op.store 23 (Operand.tmp 46) _, _, _, _, _⟩ :: _) _ _; refine wpList_store_bytes rfl rfl 23 (.tmp 46) _ rfl _ _ d rfl rfl t8 (info23' hd.out) ?_))
    clear l7 l8 t7 t8
    generalize (V8.setCells (w.heap.size + 1 + 1 + 1) 0 (s.map (Value.int .u8))).setCells (w.heap.size + 1 + 1 + 1) 16 (d.map (Value.int .u8)) = V10 at Q10 ⊢
    obtain ⟨L, cd, cm, q, q2, q3, q4, pd, mm⟩ : ∃ (L : List (Nat × TypeId × Array Value)) (cd cm : Array Value), Hid (Kp w V10 L) ∧ L[2]? = some (w.heap.size + 1 + 1, 23, bytesV s) ∧ L[3]? = some (w.heap.size + 1 + 1 + 1, 30, cd) ∧ L[4]? = some (w.heap.size + 1 + 1 + 1 + 1, 35, cm) ∧ Hid (IsPk cd ⟨s, d, 255, false⟩) ∧ (∀ V, Kp w V L → IsMs V V.heap.size cm { mk1 t with ks := [14, 1] }) :=
      ⟨_, _, _, Q10, rfl, rfl, rfl, pd_is, fun V hV => (m0 V V.heap.size).setOps (ho_of hV rfl) rfl⟩
    clear Q10 Q9 Q8 pd_is pc_is
    refine wp_region_held_drew (S := (fun V => Kp w V L)) (by kernel_rfl) q.out.drew (fun hHeld => ?_)
    refine wpAnyH_take (i := 0) rfl (by kernel_rfl) (by kernel_rfl) (by kernel_rfl) (fun _ _ _ h => h) (yieldsIf_load_want (by kernel_rfl) 30 _ rfl _ rfl _ (fun wh hSw => hSw.l30 3 q3 pd.out)) hHeld ?_
    try simp only [Act.put, List.getElem_toArray, List.getElem_cons_zero, List.getElem_cons_succ, List.setIfInBounds_toArray, List.set_cons_zero, List.set_cons_succ]
    refine wpAnyH_take (i := 1) rfl (by kernel_rfl) (by kernel_rfl) (by kernel_rfl) (fun _ _ _ h => h) (yieldsIf_load_want (by kernel_rfl) 35 _ rfl _ rfl _ (fun wh hSw => hSw.l35 4 q4 (mm wh hSw))) hHeld ?_
    try simp only [Act.put, List.getElem_toArray, List.getElem_cons_zero, List.getElem_cons_succ, List.setIfInBounds_toArray, List.set_cons_zero, List.set_cons_succ]
    refine wpAnyH_take (i := 3) (v := ?_) rfl (by kernel_rfl) (by kernel_rfl) (by kernel_rfl) (fun _ _ _ h => h) (Or.inl ⟨by kernel_rfl, ?_⟩) hHeld ?_
    rotate_left
    · intro wh hSw
      go_simp
      try with_reducible rfl
    try simp only [Act.put, List.getElem_toArray, List.getElem_cons_zero, List.getElem_cons_succ, List.setIfInBounds_toArray, List.set_cons_zero, List.set_cons_succ]
    refine wpAnyH_take (i := 4) (v := ?_) rfl (by kernel_rfl) (by kernel_rfl) (by kernel_rfl) (fun _ _ _ h => h) (Or.inl ⟨by kernel_rfl, ?_⟩) hHeld ?_
    rotate_left
    · intro wh hSw
      go_simp
      try with_reducible rfl
    try simp only [Act.put, List.getElem_toArray, List.getElem_cons_zero, List.getElem_cons_succ, List.setIfInBounds_toArray, List.set_cons_zero, List.set_cons_succ]
    refine wpAnyH_ready (rs := [2]) (by kernel_rfl) (by simp) (AllReadyH.cons rfl (fun K hK => ?_) AllReadyH.nil)
    clear hHeld
    go_simp
    refine (valid_any V10.drew _ _ ⟨s, d, 255, false⟩ { mk1 t with ks := [14, 1] } (q.out.drew.gl hG.out) pd.out (mm _ q.out.drew)).mono ?_
    rintro e V11 ⟨rfl, b11⟩
    rw [show valid ⟨s, d, 255, false⟩ { mk1 t with ks := [14, 1] } = false by rw [valid3, hm]; simp]
    have Q11 := hidd (q.out.drew.call b11)
    dsimp only
    refine hK.out _ _ Q11.out (fun hHeld => ?_)
    clear hK K
    try simp only [Act.put, List.getElem_toArray, List.getElem_cons_zero, List.getElem_cons_succ, List.setIfInBounds_toArray, List.set_cons_zero, List.set_cons_succ]
    refine wpAnyH_take (i := 5) (v := ?_) rfl (by kernel_rfl) (by kernel_rfl) (by kernel_rfl) (fun _ _ _ h => h) (Or.inl ⟨by kernel_rfl, ?_⟩) hHeld ?_
    rotate_left
    · intro wh hSw
      go_simp
      try with_reducible rfl
    try simp only [Act.put, List.getElem_toArray, List.getElem_cons_zero, List.getElem_cons_succ, List.setIfInBounds_toArray, List.set_cons_zero, List.set_cons_succ]
    refine wpAnyH_take (i := 6) rfl (by kernel_rfl) (by kernel_rfl) (by kernel_rfl) (fun _ _ _ h => h) (Or.inr ⟨by kernel_rfl, rfl⟩) hHeld ?_
    try simp only [Act.put, List.getElem_toArray, List.getElem_cons_zero, List.getElem_cons_succ, List.setIfInBounds_toArray, List.set_cons_zero, List.set_cons_succ]
    refine wpAnyH_take (i := 7) rfl (by kernel_rfl) (by kernel_rfl) (by kernel_rfl) (fun _ _ _ h => h) (Or.inr ⟨by kernel_rfl, rfl⟩) hHeld ?_
    try simp only [Act.put, List.getElem_toArray, List.getElem_cons_zero, List.getElem_cons_succ, List.setIfInBounds_toArray, List.set_cons_zero, List.set_cons_succ]
    refine wpAnyH_take (i := 8) rfl (by kernel_rfl) (by kernel_rfl) (by kernel_rfl) (fun _ _ _ h => h) (Or.inr ⟨by kernel_rfl, rfl⟩) hHeld ?_
    try simp only [Act.put, List.getElem_toArray, List.getElem_cons_zero, List.getElem_cons_succ, List.setIfInBounds_toArray, List.set_cons_zero, List.set_cons_succ]
    refine wpAnyH_take (i := 9) (v := ?_) rfl (by kernel_rfl) (by kernel_rfl) (by kernel_rfl) (fun _ _ _ h => h) (Or.inl ⟨by kernel_rfl, ?_⟩) hHeld ?_
    rotate_left
    · intro wh hSw
      go_simp
      try with_reducible rfl
    try simp only [Act.put, List.getElem_toArray, List.getElem_cons_zero, List.getElem_cons_succ, List.setIfInBounds_toArray, List.set_cons_zero, List.set_cons_succ]
    refine wpAnyH_take (i := 10) (v := ?_) rfl (by kernel_rfl) (by kernel_rfl) (by kernel_rfl) (fun _ _ _ h => h) (Or.inl ⟨by kernel_rfl, ?_⟩) hHeld ?_
    rotate_left
    · intro wh hSw
      go_simp
      try with_reducible rfl
    try simp only [Act.put, List.getElem_toArray, List.getElem_cons_zero, List.getElem_cons_succ, List.setIfInBounds_toArray, List.set_cons_zero, List.set_cons_succ]
    refine wpAnyH_take (i := 11) (v := ?_) rfl (by kernel_rfl) (by kernel_rfl) (by kernel_rfl) (fun _ _ _ h => h) (Or.inl ⟨by kernel_rfl, ?_⟩) hHeld ?_
    rotate_left
    · intro wh hSw
      go_simp
      try with_reducible rfl
    try simp only [Act.put, List.getElem_toArray, List.getElem_cons_zero, List.getElem_cons_succ, List.setIfInBounds_toArray, List.set_cons_zero, List.set_cons_succ]
    refine wpAnyH_ready (rs := [12]) (by kernel_rfl) (by simp) (AllReadyH.cons rfl (fun K hK => ?_) AllReadyH.nil)
    clear hHeld
    go_simp
    refine (lives_any _ (Q11.out.gl hG.out)).mono ?_
    rintro e V13 ⟨rfl, b13⟩
    have Q13 := hidd (Q11.out.call b13)
    dsimp only
    refine hK.out _ _ Q13.out (fun hHeld => ?_)
    clear hK K
    try simp only [Act.put, List.getElem_toArray, List.getElem_cons_zero, List.getElem_cons_succ, List.setIfInBounds_toArray, List.set_cons_zero, List.set_cons_succ]
    refine wpAnyH_take (i := 13) (v := ?_) rfl (by kernel_rfl) (by kernel_rfl) (by kernel_rfl) (fun _ _ _ h => h) (Or.inl ⟨by kernel_rfl, ?_⟩) hHeld ?_
    rotate_left
    · intro wh hSw
      go_simp
      try with_reducible rfl
    try simp only [Act.put, List.getElem_toArray, List.getElem_cons_zero, List.getElem_cons_succ, List.setIfInBounds_toArray, List.set_cons_zero, List.set_cons_succ]
    refine wpAnyH_take (i := 14) (v := ?_) rfl (by kernel_rfl) (by kernel_rfl) (by kernel_rfl) (fun _ _ _ h => h) (Or.inl ⟨by kernel_rfl, ?_⟩) hHeld ?_
    rotate_left
    · intro wh hSw
      go_simp
      try with_reducible rfl
    try simp only [Act.put, List.getElem_toArray, List.getElem_cons_zero, List.getElem_cons_succ, List.setIfInBounds_toArray, List.set_cons_zero, List.set_cons_succ]
    refine wpAnyH_done (by kernel_rfl) ?_ _
    clear hHeld
    go_wp2
    go_ret
    exact ⟨rfl, Q13.out.bel⟩

theorem laid_metChecksDad (os : Os) : laidMet Tryd.prog Rows.checksDadRow.laid ((laidWorld os).forCall (fun _ _ => 0) ⟨#[], #[.agg (Array.replicate 16 (.int .u8 0)), .agg (Array.replicate 16 (.int .u8 0)), .agg (Array.replicate 16 (.int .u8 0))], []⟩).memory :=
  laidMet_of_run' 8 (by kernel_rfl) (by kernel_rfl)
theorem readsChecksDad (os : Os) {H : Type} (enc : TypeId × Value → H) : ∃ places, DataW.whole enc Tryd.prog ((laidWorld os).forCall (fun _ _ => 0) ⟨#[], #[.agg (Array.replicate 16 (.int .u8 0)), .agg (Array.replicate 16 (.int .u8 0)), .agg (Array.replicate 16 (.int .u8 0))], []⟩).memory Tryd.f6.params.toList Rows.checksDadSpec.vars false (#[.agg (Array.replicate 16 (.int .u8 0)), .agg (Array.replicate 16 (.int .u8 0)), .agg (Array.replicate 16 (.int .u8 0))] : Array Value).toList 8 = some ([.agg (List.replicate 16 (.lit (.int .u8 0))), .agg (List.replicate 16 (.lit (.int .u8 0))), .agg (List.replicate 16 (.lit (.int .u8 0)))], [], places) :=
  ⟨[], by kernel_rfl⟩
set_option maxRecDepth 100000 in
theorem liftedChecksDad (os : Os) (started : os.Started) (H : Type) (enc : TypeId × Value → H) (F : Stop.Interp) :
    ReturnsInHanded {} Tryd.checked os 6 .any ((OpenSpec.ofChange Rows.checksDadSpec).preRow enc Tryd.prog Tryd.f6 Rows.checksDadRow.domain false Rows.checksDadRow.laid) (((OpenSpec.ofChange Rows.checksDadSpec).at F).post enc Tryd.prog Tryd.f6 false true false false) := by
  obtain ⟨places, hx⟩ := readsChecksDad os enc
  refine returnsInHanded_of_row (C := Tryd.checked) (s := OpenSpec.ofChange Rows.checksDadSpec) own started (by kernel_rfl) Tryd.func6
    (witness_row_at (enc := enc) (C := Tryd.checked) false (laidWorld os) #[.agg (Array.replicate 16 (.int .u8 0)), .agg (Array.replicate 16 (.int .u8 0)), .agg (Array.replicate 16 (.int .u8 0))] rfl (by kernel_rfl) (by kernel_rfl) (by kernel_rfl)
      (OpenSpec.preRow_of_cond 8 hx (by kernel_rfl) (fun k hk => by cases hk) (by kernel_rfl) (laid_metChecksDad os))) ?_
  intro W base args ds gs before hval0 hW _ _ hsz0 hL _ _
  have hval : ∀ (j : Nat) t v, Tryd.f6.params[j]? = some t → args[j]? = some v → Value.okWide Tryd.prog W .any base t v := hval0
  have hW' := hW
  obtain ⟨p, q, hA0, hV, rfl, hfz, hnd⟩ := hW
  have hA : DataW.TrodAll enc Tryd.prog W 0 (fun _ => true) true Tryd.f6.params.toList args.toList ds p := hA0
  have hsz : (DataW.weightsEach Tryd.prog (Tryd.f6.params.toList ++ Rows.checksDadSpec.plain.varTypes Tryd.prog) (ds ++ gs)).all (· ≤ reachBytes) = true := hsz0
  rw [Tryd.params6] at hA hval hsz
  obtain ⟨v0, vs0, d0, ds0, p0, q0, hargs, rfl, rfl, h0, r0⟩ := trodAll_cons hA
  obtain ⟨v1, vs1, d1, ds1, p1, q1, rfl, rfl, rfl, h1, r1⟩ := trodAll_cons r0
  obtain ⟨v2, vs2, d2, ds2, p2, q2, rfl, rfl, rfl, h2, r2⟩ := trodAll_cons r1
  obtain ⟨rfl, rfl, rfl⟩ := trodAll_nil r2
  obtain rfl : args = #[v0, v1, v2] := by cases args; simp_all
  obtain ⟨rfl, rfl⟩ := trodVars_none hV
  have k0 := h0
  have lt0 : ∀ x ∈ p0, x.block < W.heap.size := by obtain ⟨m, hm⟩ := k0; exact DataW.trod_lt m _ _ _ hm
  have fit0 : Fit Tryd.prog 23 d0 := fun m hm => by simpa using List.all_eq_true.1 hsz _ (DataW.weights_mem_each (j := 0) (t := 23) rfl rfl m hm)
  obtain ⟨a0, ev0, w0⟩ := open_addr (hval 0 23 v0 rfl rfl) h0 fit0
  subst ev0
  have k1 := h1
  have lt1 : ∀ x ∈ p1, x.block < W.heap.size := by obtain ⟨m, hm⟩ := k1; exact DataW.trod_lt m _ _ _ hm
  have fit1 : Fit Tryd.prog 23 d1 := fun m hm => by simpa using List.all_eq_true.1 hsz _ (DataW.weights_mem_each (j := 1) (t := 23) rfl rfl m hm)
  obtain ⟨a1, ev1, w1⟩ := open_addr (hval 1 23 v1 rfl rfl) h1 fit1
  subst ev1
  have k2 := h2
  have lt2 : ∀ x ∈ p2, x.block < W.heap.size := by obtain ⟨m, hm⟩ := k2; exact DataW.trod_lt m _ _ _ hm
  have fit2 : Fit Tryd.prog 23 d2 := fun m hm => by simpa using List.all_eq_true.1 hsz _ (DataW.weights_mem_each (j := 2) (t := 23) rfl rfl m hm)
  obtain ⟨a2, ev2, w2⟩ := open_addr (hval 2 23 v2 rfl rfl) h2 fit2
  subst ev2
  clear hA0 hval0
  have hG := gl_of hL
  refine (walkChecksDad a0 a1 a2 W w0 w1 w2 hG).mono fun e W' ⟨he, bel⟩ => ?_
  subst he
  exact ⟨_, rfl, _, _, _, [], _, [], hW', trodAll_mk1 (shut_bool Tryd.underlying4 _), (trodAll_cons_mk (Below.trod laidOut (by kernel_rfl) (of_decide_eq_true (by kernel_rfl)) k0 bel lt0) (trodAll_cons_mk (Below.trod laidOut (by kernel_rfl) (of_decide_eq_true (by kernel_rfl)) k1 bel lt1) (trodAll_cons_mk (Below.trod laidOut (by kernel_rfl) (of_decide_eq_true (by kernel_rfl)) k2 bel lt2) trodAll_mk0))), rfl, bel.frame _, fun h => by cases h⟩

theorem saidChecksDad : Rows.ChecksDadSaid :=
  OpenClaim.holds_of_cond 6 Tryd.f6 rfl rfl rfl rfl rfl rfl rfl ⟨rfl, rfl, rfl, rfl, rfl⟩ rfl rfl rfl rfl rfl (by kernel_rfl) Tryd.func6 (by kernel_rfl)
    (of_decide_eq_true (by kernel_rfl)) (by unfold Func.isWrapper; first | (rw [if_pos (by decide +kernel)]; kernel_rfl) | (rw [if_neg (by decide +kernel)]; exact ⟨rfl, rfl⟩))
    (fun os started H enc _ F => by rw [OpenClaim.pre_eq_preRow]; exact liftedChecksDad os started H enc F)
theorem plainChecksDad (f : FuncId) (fn : Func) (hf : Tryd.pinned.checked.prog.funcNamed "sojourner/sojournerlaw12.ChecksDad" = some f) (hfn : Tryd.pinned.checked.prog.funcs[f]? = some fn) :
    false = Tryd.pinned.checked.prog.looks [] ∧ ∀ (j : Nat) t, fn.params[j]? = some t → Tryd.pinned.checked.prog.wantsStandIn t = false := by
  obtain rfl : f = 6 := Option.some.inj ((show Tryd.prog.funcNamed "sojourner/sojournerlaw12.ChecksDad" = some 6 by kernel_rfl).symm.trans hf) |>.symm
  obtain rfl : fn = Tryd.f6 := (Option.some.inj (Tryd.func6.symm.trans hfn)).symm
  refine ⟨by kernel_rfl, fun j t ht => ?_⟩
  rw [Tryd.params6] at ht
  have hm := Array.mem_of_getElem? ht
  simp only [List.mem_toArray, List.mem_cons, List.not_mem_nil, or_false] at hm
  rcases hm with rfl | rfl | rfl
  · exact (show Tryd.prog.wantsStandIn 23 = false by kernel_rfl)
  · exact (show Tryd.prog.wantsStandIn 23 = false by kernel_rfl)
  · exact (show Tryd.prog.wantsStandIn 23 = false by kernel_rfl)
/-- THE CARD: 'ChecksDad'. -/
theorem checksDad_holds : Rows.ChecksDadCardSaid :=
  Claim7.holds_tied_plain_at .later [] _ _ _ _ saidChecksDad (fun _ h => by cases h) (by kernel_rfl) (fun _ h => by cases h) checksDad_row_tie rfl ⟨rfl, rfl⟩ (by kernel_rfl) rfl plainChecksDad (by kernel_rfl)

end Go.Proofs.YtlckfnfmekgnkaaDoor
