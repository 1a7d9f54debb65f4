/- A cache: all entries; what a cache that is not there answers; each function walked once. No condition. -/
import Derived.Test.YtpjjcihhmhccfaaVisit
namespace Go.Proofs.Ytpjjcihhmhccfaa
open Go.ChangeShapes Go.WideShapes Go.ChangeAt Go.RowKit Go.Deep
set_option linter.unusedVariables false
set_option linter.unusedSimpArgs false

abbrev flatE (es : List E) : List Value := flatOf enc es
theorem make41 (n : Nat) (hn : n ≤ 32) (w : World) : (Instr.makeSlice 41 (.int .i64 n) (.int .i64 n)).run Try.prog w = .ok (.slice (some ⟨w.heap.size, 0, none⟩) n n) (w.alloc (.cells (madeCells (Value.agg (encV zeroE34)).cells (n * 34)) 33)) := by
  obtain ⟨i, hi, hz, hs, hb⟩ := info_parts (P := Try.prog) (e := 33) (z := .agg (encV zeroE34)) (size := 34) (bytes := 48) (by kernel_rfl)
  have := run_make (P := Try.prog) w 41 33 i _ Try.underlying41 hi hz .i64 .i64 n n (by omega) (Int.le_refl _) (by rw [hb]; omega) (by omega)
  rw [hs] at this
  simpa using this
theorem put_step {es : List E} {ys : List Value} {j : Nat} {e : E} (ho : ∀ e ∈ es, IsE e) (he : es[j]? = some e) (hy : 34 ≤ ys.length) : putL (flatE (es.take j) ++ ys) (j * 34) (enc e) = flatE (es.take (j + 1)) ++ ys.drop 34 := by
  have hj := (List.getElem?_eq_some_iff.1 he).1
  have hl : (flatE (es.take j)).length = j * 34 := by rw [isEnc.flat_len (fun x hx => ho x (List.mem_of_mem_take hx)), List.length_take]; congr 1; omega
  have h1 := putL_right (flatE (es.take j)) (enc e) ys 0
  rw [hl, Nat.add_zero] at h1
  rw [h1]
  have h2 : ys = ys.take 34 ++ ys.drop 34 := (List.take_append_drop 34 ys).symm
  conv => lhs; rw [h2]
  rw [putL_left _ _ _ (by rw [isEnc.len e (ho e (List.mem_of_getElem? he)), List.length_take]; omega), List.take_add_one, he, show flatE (es.take j ++ (some e).toList) = flatE (es.take j) ++ flatE (some e).toList from flat_append (enc := enc) _ _, List.append_assoc]
  simp [flatE, flatOf]
def ListSays (w0 : World) (w : World) (B : Nat) (os : List En) (L : List Bx) (r : Ending) (w' : World) : Prop :=
  ∃ g, r = .returned (.slice (some ⟨g, 0, none⟩) os.length os.length) ∧ w'.ownsRow w.heap.size 33 34 (.slice (some ⟨g, 0, none⟩) os.length os.length) os.length (flatE (os.map (·.2))) ∧ Ch w0 w' B os L ∧ Below w.heap.size w w'
set_option maxRecDepth 100000 in
set_option maxHeartbeats 4000000 in
theorem list_any {w0 : World} (w : World) {B : Nat} {os : List En} {L : List Bx} (h : Ch w0 w B os L) : Calls Try.prog 15 #[ptr B] w (ListSays w0 w B os L) := by
  obtain ⟨bm0, c1⟩ := h.map1
  have hA := hidd (all_any w h)
  have hmax := h.nb.2.2
  have C := hidd h
  have hok := hidd (fun (e : E) (he : e ∈ os.map (·.2)) => (show IsE e from by
    obtain ⟨o, ho, rfl⟩ := List.mem_map.1 he
    exact (h.ent ho).2))
  clear h
  go_enter Try.func15, Try.ntmps15
  go_wp2_with (go_at_call 24; refine (there_yes _ B bm0 c1).mono ?_; rintro e w2 ⟨rfl, rfl⟩)
  refine Calls.mono hA.out ?_
  rintro r w3 ⟨v3, rfl, o3, b3⟩
  obtain ⟨A, c, rfl⟩ := slice_of_own o3
  obtain ⟨n, hn⟩ : ∃ n, os.length = n := ⟨_, rfl⟩
  rw [hn] at o3 hmax
  have hn' := hidd hn
  have hcm := (Rd.of_own o3).cmax
  have hcn := (Rd.of_own o3).cap
  unfold maxLen at hcm
  obtain ⟨lo, Slo⟩ : ∃ lo, w.heap.size = lo := ⟨_, rfl⟩
  have hmk := make41 n hmax
  obtain ⟨cur, hcur⟩ : ∃ cur, madeCells (Value.agg (encV zeroE34)).cells (n * 34) = cur := ⟨_, rfl⟩
  rw [hcur] at hmk
  have hcs : cur.size = n * 34 := by rw [← hcur, size_madeCells]
  obtain ⟨s, Ss⟩ : ∃ s, w3.heap.size = s := ⟨_, rfl⟩
  have hls : lo ≤ s := by have := b3.size; omega
  have T0 : Hid (Below lo w (w3.alloc (.cells cur 33)) ∧ (w3.alloc (.cells cur 33)).ownsRow lo 61 1 (.slice A n c) n (flatP (os.map (·.1))) ∧ (w3.alloc (.cells cur 33)).ownsRow lo 33 34 (.slice (some ⟨s, 0, none⟩) n n) n (flatE ((os.map (·.2)).take 0) ++ cur.toList.drop (0 * 34))) := by
    refine ⟨(by rw [← Slo]; exact b3 : Below lo w w3).alloc (by omega) _, own_al (by rw [← Slo]; exact o3) _, ?_, .inr ⟨s, n, cur, rfl, hls, by rw [← Ss]; exact Blk.new w3 33 cur, Nat.le_refl _, by unfold maxLen; omega, hcs, ?_⟩⟩
    · simp [flatE, flatOf, hcs]
    · simp only [flatE, flatOf, List.take_zero, List.flatMap_nil, List.nil_append, Nat.zero_mul, List.drop_zero]
      rw [← hcs]; exact List.take_of_length_le (by simp)
  have hgs : Hid (∀ k, (Value.slice A n c).ownBlock = some k → k < s) := fun k hk => by have := (o3.lt k hk).2; omega
  have Slo' := hidd Slo
  clear o3 b3 hA c1 hcur Slo
  go_wp2_with fail
  generalize w3.alloc (.cells cur 33) = W4 at T0 ⊢
  go_loopw [17] (fun i wr => ∃ j : Nat, j ≤ n ∧ i = .int .i64 j ∧ Below lo w wr ∧ wr.ownsRow lo 61 1 (.slice A n c) n (flatP (os.map (·.1))) ∧ wr.ownsRow lo 33 34 (.slice (some ⟨s, 0, none⟩) n n) n (flatE ((os.map (·.2)).take j) ++ cur.toList.drop (j * 34))) (fun i _ => n - (intOf i).toNat)
  case atStart => exact ⟨0, Nat.zero_le _, rfl, T0.out⟩
  case round =>
    obtain ⟨j, hj, rfl, hT⟩ := hrel
    have T1 := hidd hT
    clear hT T0
    by_cases hjn : j < n
    · obtain ⟨o, ho⟩ : ∃ o, os[j]? = some o := ⟨_, List.getElem?_eq_getElem (by omega)⟩
      obtain ⟨b, e⟩ := o
      obtain ⟨g, c', hA', _, _⟩ := own_pos T1.out.2.1 (by omega)
      injection hA' with hA' hA2 hA3
      subst hA' hA3
      have cp := row_ptr T1.out.2.1 hn'.out ho
      obtain ⟨hbl, hE0⟩ := (C.out.call (by rw [Slo'.out]; exact T1.out.1)).ent (List.mem_of_getElem? ho)
      have hE := hidd hE0
      have lb := hidd (ld33 hbl hE0)
      have hth := hidd (own_there T1.out.2.2 (o := j * 34) (k := 34) (by rw [← Nat.succ_mul]; exact Nat.mul_le_mul_right _ hjn))
      have hgs' := hgs.out g rfl
      have T2 : Hid (Below lo w (wr.setCells s (j * 34) (enc e)) ∧ (wr.setCells s (j * 34) (enc e)).ownsRow lo 61 1 (.slice (some ⟨g, 0, none⟩) n c) n (flatP (os.map (·.1))) ∧ (wr.setCells s (j * 34) (enc e)).ownsRow lo 33 34 (.slice (some ⟨s, 0, none⟩) n n) n (flatE ((os.map (·.2)).take (j + 1)) ++ cur.toList.drop ((j + 1) * 34))) := by
        refine ⟨below_setCells hls _ _ _ T1.out.1, ownRow_fr T1.out.2.1 (fr_cells wr s _ _) (fun k hk => by have := hgs.out k hk; omega), ?_⟩
        have h1 := own_cells T1.out.2.2 (enc e) (j * 34)
        rw [put_step (e := e) hok.out (by rw [List.getElem?_map, ho]; rfl) (by rw [List.length_drop, Array.length_toList, hcs]; have : (j + 1) * 34 ≤ n * 34 := Nat.mul_le_mul_right _ hjn; omega), List.drop_drop] at h1
        rwa [show j * 34 + 34 = (j + 1) * 34 by omega] at h1
      have hjz : (j : Int) < (n : Int) := by omega
      clear hbl hE0 T1 ho
      go_wp2_with (first
        | (with_reducible show wpList _ _ _ (⟨_, Op.load 33 _, _, _, _, _⟩ :: _) _ _; refine wpList_load_want (by kernel_rfl) 33 _ rfl _ rfl _ (by with_reducible exact lb.out) ?_)
        | (with_reducible show wpList _ _ _ (⟨_, Op.store 33 _ _, _, _, _, _⟩ :: _) _ _
           refine wpList_store_vals rfl rfl 33 _ _ rfl s (j * 34) (enc e) rfl rfl (by rw [isEnc.len e hE.out]; exact hth.out) (by rw [isEnc.len e hE.out]; exact info33) (isEnc.one e) ?_
           generalize wr.setCells s (j * 34) (enc e) = W5 at T2 ⊢
           clear lb hth))
      go_roundw
      case rel => exact ⟨j + 1, by omega, by go_num, T2.out⟩
      case measure => simp [intOf]; omega
    · have hjn' : j = n := by omega
      subst hjn'
      have hO := T1.out.2.2
      rw [List.take_of_length_le (by simp; rw [hn'.out]; exact Nat.le_refl _), List.drop_of_length_le (by simp [hcs]), List.append_nil] at hO
      have hO' := hidd hO
      clear hO
      go_wp2
      go_ret
      rw [ListSays, hn'.out, Slo'.out]
      exact ⟨s, rfl, hO'.out, C.out.call (by rw [Slo'.out]; exact T1.out.1), T1.out.1⟩

-- what a cache that is not there answers
theorem list_not (w : World) (v : Value) (h : Not w v) : Calls Try.prog 15 #[v] w fun e w' => e = .returned (.slice none 0 0) ∧ w = w' := by
  have hT := hidd (there_not w v h)
  clear h
  go_enter Try.func15, Try.ntmps15
  go_wp2_with (go_at_call 24; refine Calls.mono hT.out ?_; rintro e w2 ⟨rfl, rfl⟩)
  go_ret
  exact ⟨rfl, rfl⟩
theorem Not.call {w W : World} {v : Value} (h : Not w v) (hb : Below w.heap.size w W) : Not W v := by
  rcases h with h | ⟨B, h1, h2⟩
  · exact .inl h
  · exact .inr ⟨B, h1, (hb.cell (p := ⟨B, 1, none⟩) (World.block_lt_of_cell? w _ h2)).trans h2⟩
theorem redirect_not (w : World) (v : Value) (a b : List Int) (h : Not w v) : Calls Try.prog 14 #[v, .agg (bytesV a), .agg (bytesV b)] w fun e w' => (∃ r, e = .returned r) ∧ Below w.heap.size w w' := by
  have b1 : Below w.heap.size w ((w.alloc (.cells (bytesV a) 24)).alloc (.cells (bytesV b) 24)) := ((Below.refl _ w).alloc (Nat.le_refl _) _).alloc (by simp) _
  have hT := hidd (there_not _ v (h.call b1))
  have b1' := hidd b1
  clear h b1
  go_enter Try.func14, Try.ntmps14
  go_wp2_with (go_at_call 24; refine Calls.mono hT.out ?_; rintro e w2 ⟨rfl, rfl⟩)
  exact bodyPost_ret (results_none rfl _ _ _) rfl ⟨⟨_, rfl⟩, b1'.out⟩
theorem lower_not (w : World) (v : Value) (a : List Int) (now m : Int) (h : Not w v) : Calls Try.prog 10 #[v, .int .u64 now, .agg (bytesV a), .int .u32 m] w fun e w' => e = .returned (.bool false) ∧ Below w.heap.size w w' := by
  have b1 : Below w.heap.size w (w.alloc (.cells (bytesV a) 24)) := (Below.refl _ w).alloc (Nat.le_refl _) _
  have hT := hidd (there_not _ v (h.call b1))
  have b1' := hidd b1
  clear h b1
  go_enter Try.func10, Try.ntmps10
  go_wp2_with (go_at_call 24; refine Calls.mono hT.out ?_; rintro e w2 ⟨rfl, rfl⟩)
  go_ret
  exact ⟨rfl, b1'.out⟩
theorem forget_not (w : World) (v : Value) (a : List Int) (h : Not w v) : Calls Try.prog 16 #[v, .agg (bytesV a)] w fun e w' => e = .returned (.int .i64 0) ∧ Below w.heap.size w w' := by
  have b1 : Below w.heap.size w (w.alloc (.cells (bytesV a) 24)) := (Below.refl _ w).alloc (Nat.le_refl _) _
  have hT := hidd (there_not _ v (h.call b1))
  have b1' := hidd b1
  clear h b1
  go_enter Try.func16, Try.ntmps16
  go_wp2_with (go_at_call 24; refine Calls.mono hT.out ?_; rintro e w2 ⟨rfl, rfl⟩)
  go_ret
  exact ⟨rfl, b1'.out⟩
set_option maxRecDepth 100000 in
theorem of_not (w : World) (v : Value) (x : List Int) (hx0 : IsAddr x) (h : Not w v) : Calls Try.prog 12 #[v, .agg (bytesV x)] w fun r w' => r = .returned (.agg (encV (newE x))) ∧ Below w.heap.size w w' := by
  obtain ⟨q, hq⟩ : ∃ q, w.heap.size = q := ⟨_, rfl⟩
  have hx := hidd hx0
  have b1 : Below q w ((w.alloc (.cells (bytesV x) 24)).alloc (.cells (encV zeroE34) 33)) := by rw [← hq]; exact ((Below.refl _ w).alloc (Nat.le_refl _) _).alloc (by simp) _
  have hT := hidd (there_not _ v (h.call (by rw [hq]; exact b1)))
  have k1 : Hid (Blk ((w.alloc (.cells (bytesV x) 24)).alloc (.cells (encV zeroE34) 33)) q 24 (bytesV x)) := by rw [← hq]; exact (Blk.new w 24 _).alloc _
  have k2 : Hid (Blk ((w.alloc (.cells (bytesV x) 24)).alloc (.cells (encV zeroE34) 33)) (q + 1) 33 (encV zeroE34)) := by
    have := Blk.new (w.alloc (.cells (bytesV x) 24)) 33 (encV zeroE34)
    rw [show (w.alloc (.cells (bytesV x) 24)).heap.size = q + 1 by simp [hq]] at this
    exact this
  have hz34 : IsE zeroE34 := ⟨zeroA_is, zeroA_is, (by decide : (0 : Int) ≤ 0 ∧ (0 : Int) ≤ 4294967295), (by decide : (0 : Int) ≤ 0 ∧ (0 : Int) ≤ 18446744073709551615)⟩
  have b1' := hidd b1
  rw [hq]
  clear h hx0 b1
  go_enter Try.func12, Try.ntmps12
  go_wp2_with fail
  rw [show (#[.int .u8 0, .int .u8 0, .int .u8 0, .int .u8 0, .int .u8 0, .int .u8 0, .int .u8 0, .int .u8 0, .int .u8 0, .int .u8 0, .int .u8 0, .int .u8 0, .int .u8 0, .int .u8 0, .int .u8 0, .int .u8 0, .int .u8 0, .int .u8 0, .int .u8 0, .int .u8 0, .int .u8 0, .int .u8 0, .int .u8 0, .int .u8 0, .int .u8 0, .int .u8 0, .int .u8 0, .int .u8 0, .int .u8 0, .int .u8 0, .int .u8 0, .int .u8 0, .int .u32 0, .int .u64 0] : Array Value) = encV zeroE34 from rfl]
  generalize (w.alloc (.cells (bytesV x) 24)).alloc (.cells (encV zeroE34) 33) = W1 at k1 k2 b1' hT ⊢
  refine Calls.mono hT.out ?_
  rintro r w2 ⟨rfl, rfl⟩
  have l3 := hidd (ld24 k1.out hx.out)
  go_wp2_with (first
    | (with_reducible show wpList _ _ _ (⟨_, Op.load 24 _, _, _, _, _⟩ :: _) _ _; refine wpList_load_want (by kernel_rfl) 24 _ rfl _ rfl _ (by with_reducible exact l3.out) ?_)
    | (with_reducible show wpList _ _ _ (⟨_, Op.build 33 _, _, _, _, _⟩ :: _) _ _; refine wpList_build_want rfl 33 #[(0, .tmp 16)] rfl (encV (newE x)) (Eq.trans (b := Try.prog.built 33 [(0, .agg (bytesV x))]) (by kernel_rfl) (builtE hx.out)) ?_)
    | (with_reducible show wpList _ _ _ (⟨_, Op.store 33 (.tmp 4) _, _, _, _, _⟩ :: _) _ _; refine wpList_store_blk rfl rfl 33 (.tmp 4) _ rfl (q + 1) 33 (encV zeroE34) (encV (newE x)) k2.out rfl rfl (size_enc (newE_is hx.out)) (by rw [encV_size (newE_is hx.out), encV_size hz34]) (ones_enc _) ?_))
  exact bodyPost_ret (res12 (newE_is hx.out) rfl (k2.out.setRow _)) rfl ⟨rfl, below_setRow b1'.out (by omega) _⟩
end Go.Proofs.Ytpjjcihhmhccfaa
