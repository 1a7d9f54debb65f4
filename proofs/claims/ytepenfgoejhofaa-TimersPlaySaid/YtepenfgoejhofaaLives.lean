/- The chapter's answers hold. No condition. -/
import Derived.Test.YtepenfgoejhofaaCl
namespace Go.Proofs.Ytepenfgoejhofaa
open Go.ChangeShapes Go.WideShapes Go.ChangeAt Go.RowKit Go.Deep
set_option linter.unusedVariables false
set_option linter.unusedSimpArgs false

set_option maxRecDepth 100000 in
set_option maxHeartbeats 8000000 in
theorem lives_any (w : World) : Calls Try.prog 7 #[] w fun e w' => e = .returned (.bool true) ∧ Below w.heap.size w w' := by
  have heq := fun V a b => eql30 V a b
  have hgd := guard30
  go_enter Try.func7, Try.ntmps7
  go_wp2_with fail
  refine (new_cl w w (Below.refl _ w)).mono ?_
  rintro r V0 ⟨B, rfl, c, _, _⟩
  have C := hidd c
  clear c
  go_wp2_with fail
  refine (timer_cl V0 C.out 1 7).mono ?_
  rintro r V1 ⟨rfl, c⟩
  clear C
  have C := hidd (show CL w V1 B [] [] from c)
  clear c
  go_wp2_with fail
  refine (arm_cl V1 C.out (1, 7) ⟨by decide, by decide⟩ 50 (by decide)).mono ?_
  rintro r V2 ⟨rfl, c⟩
  clear C
  have C := hidd (show CL w V2 B [(1, 7, 50)] [] from c)
  clear c
  rw [show (armM [] ((1 : Int), (7 : Int)) 50).1 = 0 from rfl]
  go_wp2_with fail
  refine (timer_cl V2 C.out 2 1).mono ?_
  rintro r V3 ⟨rfl, c⟩
  clear C
  have C := hidd (show CL w V3 B [(1, 7, 50)] [] from c)
  clear c
  go_wp2_with fail
  refine (arm_cl V3 C.out (2, 1) ⟨by decide, by decide⟩ 40 (by decide)).mono ?_
  rintro r V4 ⟨rfl, c⟩
  clear C
  have C := hidd (show CL w V4 B [(1, 7, 50), (2, 1, 40)] [] from c)
  clear c
  rw [show (armM [(1, 7, 50)] ((2 : Int), (1 : Int)) 40).1 = 0 from rfl]
  go_wp2_with fail
  refine (timer_cl V4 C.out 1 3).mono ?_
  rintro r V5 ⟨rfl, c⟩
  clear C
  have C := hidd (show CL w V5 B [(1, 7, 50), (2, 1, 40)] [] from c)
  clear c
  go_wp2_with fail
  refine (arm_cl V5 C.out (1, 3) ⟨by decide, by decide⟩ 50 (by decide)).mono ?_
  rintro r V6 ⟨rfl, c⟩
  clear C
  have C := hidd (show CL w V6 B [(1, 7, 50), (2, 1, 40), (1, 3, 50)] [] from c)
  clear c
  rw [show (armM [(1, 7, 50), (2, 1, 40)] ((1 : Int), (3 : Int)) 50).1 = 0 from rfl]
  go_wp2_with fail
  refine (next_cl V6 C.out).mono ?_
  rintro r V7 ⟨rfl, c⟩
  clear C
  have C := hidd (show CL w V7 B [((1 : Int), (7 : Int), (50 : Int)), (2, 1, 40), (1, 3, 50)] [] from c)
  clear c
  rw [show nextV (bestM [((1 : Int), (7 : Int), (50 : Int)), (2, 1, 40), (1, 3, 50)]) = .tuple #[.agg #[.int .u8 2, .int .u64 1], .int .u64 40, .bool true] from rfl]
  obtain ⟨ba, hba⟩ : ∃ b, V7.heap.size = b := ⟨_, rfl⟩
  have c := C.out.box 30 (keyV ((2 : Int), (1 : Int))) hba
  clear C
  have C := hidd c
  clear c
  have baa := (C.out.blk (x := (ba, 30, keyV ((2 : Int), (1 : Int)))) (by simp)).at_ (i := 0) rfl
  have bab := (C.out.blk (x := (ba, 30, keyV ((2 : Int), (1 : Int)))) (by simp)).at_ (i := 1) rfl
  go_wp2_with fail
  clear baa bab
  obtain ⟨V8, hV8⟩ : ∃ U, V7.alloc (.cells #[.int .u8 2, .int .u64 1] 30) = U := ⟨_, rfl⟩
  rw [hV8]
  have c : CL w V8 B [((1 : Int), (7 : Int), (50 : Int)), (2, 1, 40), (1, 3, 50)] [(ba, 30, keyV ((2 : Int), (1 : Int)))] := by rw [← hV8]; exact C.out
  clear hV8 C
  have C := hidd c
  clear c
  refine (due_cl V8 C.out 39).mono ?_
  rintro r V9 ⟨rfl, c⟩
  clear C
  have C := hidd (show CL w V9 B [((1 : Int), (7 : Int), (50 : Int)), (2, 1, 40), (1, 3, 50)] [(ba, 30, keyV ((2 : Int), (1 : Int)))] from c)
  clear c
  rw [show nextV (dueM [((1 : Int), (7 : Int), (50 : Int)), (2, 1, 40), (1, 3, 50)] 39).1 = .tuple #[.agg #[.int .u8 0, .int .u64 0], .int .u64 0, .bool false] from rfl]
  obtain ⟨bd, hbd⟩ : ∃ b, V9.heap.size = b := ⟨_, rfl⟩
  have c := C.out.box 30 (keyV ((0 : Int), (0 : Int))) hbd
  clear C
  have C := hidd c
  clear c
  have bda := (C.out.blk (x := (bd, 30, keyV ((0 : Int), (0 : Int)))) (by simp)).at_ (i := 0) rfl
  have bdb := (C.out.blk (x := (bd, 30, keyV ((0 : Int), (0 : Int)))) (by simp)).at_ (i := 1) rfl
  have baa := (C.out.blk (x := (ba, 30, keyV ((2 : Int), (1 : Int)))) (by simp)).at_ (i := 0) rfl
  have bab := (C.out.blk (x := (ba, 30, keyV ((2 : Int), (1 : Int)))) (by simp)).at_ (i := 1) rfl
  go_wp2_with fail
  clear bda bdb baa bab
  obtain ⟨V10, hV10⟩ : ∃ U, V9.alloc (.cells #[.int .u8 0, .int .u64 0] 30) = U := ⟨_, rfl⟩
  rw [hV10]
  have c : CL w V10 B [((1 : Int), (7 : Int), (50 : Int)), (2, 1, 40), (1, 3, 50)] [(bd, 30, keyV ((0 : Int), (0 : Int))), (ba, 30, keyV ((2 : Int), (1 : Int)))] := by rw [← hV10]; exact C.out
  clear hV10 C
  have C := hidd c
  clear c
  refine (due_cl V10 C.out 45).mono ?_
  rintro r V11 ⟨rfl, c⟩
  clear C
  have C := hidd (show CL w V11 B [((1 : Int), (7 : Int), (50 : Int)), (1, 3, 50)] [(bd, 30, keyV ((0 : Int), (0 : Int))), (ba, 30, keyV ((2 : Int), (1 : Int)))] from c)
  clear c
  rw [show nextV (dueM [((1 : Int), (7 : Int), (50 : Int)), (2, 1, 40), (1, 3, 50)] 45).1 = .tuple #[.agg #[.int .u8 2, .int .u64 1], .int .u64 40, .bool true] from rfl]
  obtain ⟨be, hbe⟩ : ∃ b, V11.heap.size = b := ⟨_, rfl⟩
  have c := C.out.box 30 (keyV ((2 : Int), (1 : Int))) hbe
  clear C
  have C := hidd c
  clear c
  have bea := (C.out.blk (x := (be, 30, keyV ((2 : Int), (1 : Int)))) (by simp)).at_ (i := 0) rfl
  have beb := (C.out.blk (x := (be, 30, keyV ((2 : Int), (1 : Int)))) (by simp)).at_ (i := 1) rfl
  have bda := (C.out.blk (x := (bd, 30, keyV ((0 : Int), (0 : Int)))) (by simp)).at_ (i := 0) rfl
  have bdb := (C.out.blk (x := (bd, 30, keyV ((0 : Int), (0 : Int)))) (by simp)).at_ (i := 1) rfl
  have baa := (C.out.blk (x := (ba, 30, keyV ((2 : Int), (1 : Int)))) (by simp)).at_ (i := 0) rfl
  have bab := (C.out.blk (x := (ba, 30, keyV ((2 : Int), (1 : Int)))) (by simp)).at_ (i := 1) rfl
  go_wp2_with fail
  clear bea beb bda bdb baa bab
  obtain ⟨V12, hV12⟩ : ∃ U, V11.alloc (.cells #[.int .u8 2, .int .u64 1] 30) = U := ⟨_, rfl⟩
  rw [hV12]
  have c : CL w V12 B [((1 : Int), (7 : Int), (50 : Int)), (1, 3, 50)] [(be, 30, keyV ((2 : Int), (1 : Int))), (bd, 30, keyV ((0 : Int), (0 : Int))), (ba, 30, keyV ((2 : Int), (1 : Int)))] := by rw [← hV12]; exact C.out
  clear hV12 C
  have C := hidd c
  clear c
  refine (next_cl V12 C.out).mono ?_
  rintro r V13 ⟨rfl, c⟩
  clear C
  have C := hidd (show CL w V13 B [((1 : Int), (7 : Int), (50 : Int)), (1, 3, 50)] [(be, 30, keyV ((2 : Int), (1 : Int))), (bd, 30, keyV ((0 : Int), (0 : Int))), (ba, 30, keyV ((2 : Int), (1 : Int)))] from c)
  clear c
  rw [show nextV (bestM [((1 : Int), (7 : Int), (50 : Int)), (1, 3, 50)]) = .tuple #[.agg #[.int .u8 1, .int .u64 3], .int .u64 50, .bool true] from rfl]
  obtain ⟨bh, hbh⟩ : ∃ b, V13.heap.size = b := ⟨_, rfl⟩
  have c := C.out.box 30 (keyV ((1 : Int), (3 : Int))) hbh
  clear C
  have C := hidd c
  clear c
  have bha := (C.out.blk (x := (bh, 30, keyV ((1 : Int), (3 : Int)))) (by simp)).at_ (i := 0) rfl
  have bhb := (C.out.blk (x := (bh, 30, keyV ((1 : Int), (3 : Int)))) (by simp)).at_ (i := 1) rfl
  have bea := (C.out.blk (x := (be, 30, keyV ((2 : Int), (1 : Int)))) (by simp)).at_ (i := 0) rfl
  have beb := (C.out.blk (x := (be, 30, keyV ((2 : Int), (1 : Int)))) (by simp)).at_ (i := 1) rfl
  have bda := (C.out.blk (x := (bd, 30, keyV ((0 : Int), (0 : Int)))) (by simp)).at_ (i := 0) rfl
  have bdb := (C.out.blk (x := (bd, 30, keyV ((0 : Int), (0 : Int)))) (by simp)).at_ (i := 1) rfl
  have baa := (C.out.blk (x := (ba, 30, keyV ((2 : Int), (1 : Int)))) (by simp)).at_ (i := 0) rfl
  have bab := (C.out.blk (x := (ba, 30, keyV ((2 : Int), (1 : Int)))) (by simp)).at_ (i := 1) rfl
  go_wp2_with fail
  clear bha bhb bea beb bda bdb baa bab
  obtain ⟨V14, hV14⟩ : ∃ U, V13.alloc (.cells #[.int .u8 1, .int .u64 3] 30) = U := ⟨_, rfl⟩
  rw [hV14]
  have c : CL w V14 B [((1 : Int), (7 : Int), (50 : Int)), (1, 3, 50)] [(bh, 30, keyV ((1 : Int), (3 : Int))), (be, 30, keyV ((2 : Int), (1 : Int))), (bd, 30, keyV ((0 : Int), (0 : Int))), (ba, 30, keyV ((2 : Int), (1 : Int)))] := by rw [← hV14]; exact C.out
  clear hV14 C
  have C := hidd c
  clear c
  refine (timer_cl V14 C.out 1 7).mono ?_
  rintro r V15 ⟨rfl, c⟩
  clear C
  have C := hidd (show CL w V15 B [((1 : Int), (7 : Int), (50 : Int)), (1, 3, 50)] [(bh, 30, keyV ((1 : Int), (3 : Int))), (be, 30, keyV ((2 : Int), (1 : Int))), (bd, 30, keyV ((0 : Int), (0 : Int))), (ba, 30, keyV ((2 : Int), (1 : Int)))] from c)
  clear c
  have bha := (C.out.blk (x := (bh, 30, keyV ((1 : Int), (3 : Int)))) (by simp)).at_ (i := 0) rfl
  have bhb := (C.out.blk (x := (bh, 30, keyV ((1 : Int), (3 : Int)))) (by simp)).at_ (i := 1) rfl
  have bea := (C.out.blk (x := (be, 30, keyV ((2 : Int), (1 : Int)))) (by simp)).at_ (i := 0) rfl
  have beb := (C.out.blk (x := (be, 30, keyV ((2 : Int), (1 : Int)))) (by simp)).at_ (i := 1) rfl
  have bda := (C.out.blk (x := (bd, 30, keyV ((0 : Int), (0 : Int)))) (by simp)).at_ (i := 0) rfl
  have bdb := (C.out.blk (x := (bd, 30, keyV ((0 : Int), (0 : Int)))) (by simp)).at_ (i := 1) rfl
  have baa := (C.out.blk (x := (ba, 30, keyV ((2 : Int), (1 : Int)))) (by simp)).at_ (i := 0) rfl
  have bab := (C.out.blk (x := (ba, 30, keyV ((2 : Int), (1 : Int)))) (by simp)).at_ (i := 1) rfl
  go_wp2_with fail
  clear bha bhb bea beb bda bdb baa bab
  refine (arm_cl V15 C.out (1, 7) ⟨by decide, by decide⟩ 10 (by decide)).mono ?_
  rintro r V16 ⟨rfl, c⟩
  clear C
  have C := hidd (show CL w V16 B [((1 : Int), (7 : Int), (10 : Int)), (1, 3, 50)] [(bh, 30, keyV ((1 : Int), (3 : Int))), (be, 30, keyV ((2 : Int), (1 : Int))), (bd, 30, keyV ((0 : Int), (0 : Int))), (ba, 30, keyV ((2 : Int), (1 : Int)))] from c)
  clear c
  rw [show (armM [((1 : Int), (7 : Int), (50 : Int)), (1, 3, 50)] ((1 : Int), (7 : Int)) 10).1 = 0 from rfl]
  have bha := (C.out.blk (x := (bh, 30, keyV ((1 : Int), (3 : Int)))) (by simp)).at_ (i := 0) rfl
  have bhb := (C.out.blk (x := (bh, 30, keyV ((1 : Int), (3 : Int)))) (by simp)).at_ (i := 1) rfl
  have bea := (C.out.blk (x := (be, 30, keyV ((2 : Int), (1 : Int)))) (by simp)).at_ (i := 0) rfl
  have beb := (C.out.blk (x := (be, 30, keyV ((2 : Int), (1 : Int)))) (by simp)).at_ (i := 1) rfl
  have bda := (C.out.blk (x := (bd, 30, keyV ((0 : Int), (0 : Int)))) (by simp)).at_ (i := 0) rfl
  have bdb := (C.out.blk (x := (bd, 30, keyV ((0 : Int), (0 : Int)))) (by simp)).at_ (i := 1) rfl
  have baa := (C.out.blk (x := (ba, 30, keyV ((2 : Int), (1 : Int)))) (by simp)).at_ (i := 0) rfl
  have bab := (C.out.blk (x := (ba, 30, keyV ((2 : Int), (1 : Int)))) (by simp)).at_ (i := 1) rfl
  go_wp2_with fail
  clear bha bhb bea beb bda bdb baa bab
  refine (due_cl V16 C.out 100).mono ?_
  rintro r V17 ⟨rfl, c⟩
  clear C
  have C := hidd (show CL w V17 B [((1 : Int), (3 : Int), (50 : Int))] [(bh, 30, keyV ((1 : Int), (3 : Int))), (be, 30, keyV ((2 : Int), (1 : Int))), (bd, 30, keyV ((0 : Int), (0 : Int))), (ba, 30, keyV ((2 : Int), (1 : Int)))] from c)
  clear c
  rw [show nextV (dueM [((1 : Int), (7 : Int), (10 : Int)), (1, 3, 50)] 100).1 = .tuple #[.agg #[.int .u8 1, .int .u64 7], .int .u64 10, .bool true] from rfl]
  obtain ⟨bm, hbm⟩ : ∃ b, V17.heap.size = b := ⟨_, rfl⟩
  have c := C.out.box 30 (keyV ((1 : Int), (7 : Int))) hbm
  clear C
  have C := hidd c
  clear c
  have bma := (C.out.blk (x := (bm, 30, keyV ((1 : Int), (7 : Int)))) (by simp)).at_ (i := 0) rfl
  have bmb := (C.out.blk (x := (bm, 30, keyV ((1 : Int), (7 : Int)))) (by simp)).at_ (i := 1) rfl
  have bha := (C.out.blk (x := (bh, 30, keyV ((1 : Int), (3 : Int)))) (by simp)).at_ (i := 0) rfl
  have bhb := (C.out.blk (x := (bh, 30, keyV ((1 : Int), (3 : Int)))) (by simp)).at_ (i := 1) rfl
  have bea := (C.out.blk (x := (be, 30, keyV ((2 : Int), (1 : Int)))) (by simp)).at_ (i := 0) rfl
  have beb := (C.out.blk (x := (be, 30, keyV ((2 : Int), (1 : Int)))) (by simp)).at_ (i := 1) rfl
  have bda := (C.out.blk (x := (bd, 30, keyV ((0 : Int), (0 : Int)))) (by simp)).at_ (i := 0) rfl
  have bdb := (C.out.blk (x := (bd, 30, keyV ((0 : Int), (0 : Int)))) (by simp)).at_ (i := 1) rfl
  have baa := (C.out.blk (x := (ba, 30, keyV ((2 : Int), (1 : Int)))) (by simp)).at_ (i := 0) rfl
  have bab := (C.out.blk (x := (ba, 30, keyV ((2 : Int), (1 : Int)))) (by simp)).at_ (i := 1) rfl
  go_wp2_with fail
  clear bma bmb bha bhb bea beb bda bdb baa bab
  obtain ⟨V18, hV18⟩ : ∃ U, V17.alloc (.cells #[.int .u8 1, .int .u64 7] 30) = U := ⟨_, rfl⟩
  rw [hV18]
  have c : CL w V18 B [((1 : Int), (3 : Int), (50 : Int))] [(bm, 30, keyV ((1 : Int), (7 : Int))), (bh, 30, keyV ((1 : Int), (3 : Int))), (be, 30, keyV ((2 : Int), (1 : Int))), (bd, 30, keyV ((0 : Int), (0 : Int))), (ba, 30, keyV ((2 : Int), (1 : Int)))] := by rw [← hV18]; exact C.out
  clear hV18 C
  have C := hidd c
  clear c
  simp only [List.append_eq, List.cons_append, List.nil_append]
  have S1 := hidd (And.intro (C.out.blk (x := (ba, 30, keyV ((2 : Int), (1 : Int)))) (by simp)) (And.intro (C.out.blk (x := (be, 30, keyV ((2 : Int), (1 : Int)))) (by simp)) (And.intro (C.out.blk (x := (bh, 30, keyV ((1 : Int), (3 : Int)))) (by simp)) (C.out.blk (x := (bm, 30, keyV ((1 : Int), (7 : Int)))) (by simp)))))
  replace C := hidd C.out.draw
  replace S1 := hidd (show Blk V18.drew ba 30 (keyV ((2 : Int), (1 : Int))) ∧ Blk V18.drew be 30 (keyV ((2 : Int), (1 : Int))) ∧ Blk V18.drew bh 30 (keyV ((1 : Int), (3 : Int))) ∧ Blk V18.drew bm 30 (keyV ((1 : Int), (7 : Int))) from S1.out)
  refine wp_region_held_drew (S := (fun V => Blk V ba 30 (keyV ((2 : Int), (1 : Int))) ∧ Blk V be 30 (keyV ((2 : Int), (1 : Int))) ∧ Blk V bh 30 (keyV ((1 : Int), (3 : Int))) ∧ Blk V bm 30 (keyV ((1 : Int), (7 : Int))))) (by kernel_rfl) S1.out (fun hHeld => ?_)
  generalize V18.drew = D at C S1 hHeld ⊢
  refine wpAnyH_take (i := 0) rfl (by kernel_rfl) (by kernel_rfl) (by kernel_rfl) (fun _ _ _ h => h) (yieldsIf_load_want (by kernel_rfl) 30 _ rfl _ rfl _ (fun wh hSw => ld30 hSw.1)) hHeld ?_
  try simp only [Act.put, List.getElem_toArray, List.getElem_cons_zero, List.getElem_cons_succ, List.setIfInBounds_toArray, List.set_cons_zero, List.set_cons_succ]
  refine wpAnyH_ready (rs := [1]) (by kernel_rfl) (by simp) (AllReadyH.cons rfl (fun K hK => ?_) AllReadyH.nil)
  clear hHeld
  go_simp
  refine (timer_cl D C.out 2 1).mono ?_
  rintro r E1 ⟨rfl, c⟩
  dsimp only
  clear C S1
  have C := hidd (show CL w E1 B [((1 : Int), (3 : Int), (50 : Int))] [(bm, 30, keyV ((1 : Int), (7 : Int))), (bh, 30, keyV ((1 : Int), (3 : Int))), (be, 30, keyV ((2 : Int), (1 : Int))), (bd, 30, keyV ((0 : Int), (0 : Int))), (ba, 30, keyV ((2 : Int), (1 : Int)))] from c)
  clear c
  have S1 := hidd (And.intro (C.out.blk (x := (ba, 30, keyV ((2 : Int), (1 : Int)))) (by simp)) (And.intro (C.out.blk (x := (be, 30, keyV ((2 : Int), (1 : Int)))) (by simp)) (And.intro (C.out.blk (x := (bh, 30, keyV ((1 : Int), (3 : Int)))) (by simp)) (C.out.blk (x := (bm, 30, keyV ((1 : Int), (7 : Int)))) (by simp)))))
  refine hK.out _ _ S1.out (fun hHeld => ?_)
  clear hK K
  try simp only [Act.put, List.getElem_toArray, List.getElem_cons_zero, List.getElem_cons_succ, List.setIfInBounds_toArray, List.set_cons_zero, List.set_cons_succ]
  refine wpAnyH_take (i := 2) (v := ?_) rfl (by kernel_rfl) (by kernel_rfl) (by kernel_rfl) (fun _ _ _ h => h) (Or.inl ⟨by kernel_rfl, ?_⟩) hHeld ?_
  rotate_left
  · intro wh hSw
    go_simp
    try with_reducible rfl
  try simp only [Act.put, List.getElem_toArray, List.getElem_cons_zero, List.getElem_cons_succ, List.setIfInBounds_toArray, List.set_cons_zero, List.set_cons_succ]
  refine wpAnyH_take (i := 3) (v := ?_) rfl (by kernel_rfl) (by kernel_rfl) (by kernel_rfl) (fun _ _ _ h => h) (Or.inl ⟨by kernel_rfl, ?_⟩) hHeld ?_
  rotate_left
  · intro wh hSw
    go_simp
    try with_reducible rfl
  try simp only [Act.put, List.getElem_toArray, List.getElem_cons_zero, List.getElem_cons_succ, List.setIfInBounds_toArray, List.set_cons_zero, List.set_cons_succ]
  refine wpAnyH_take (i := 4) (v := ?_) rfl (by kernel_rfl) (by kernel_rfl) (by kernel_rfl) (fun _ _ _ h => h) (Or.inl ⟨by kernel_rfl, ?_⟩) hHeld ?_
  rotate_left
  · intro wh hSw
    go_simp
    try with_reducible rfl
  try simp only [Act.put, List.getElem_toArray, List.getElem_cons_zero, List.getElem_cons_succ, List.setIfInBounds_toArray, List.set_cons_zero, List.set_cons_succ]
  refine wpAnyH_take (i := 5) (v := ?_) rfl (by kernel_rfl) (by kernel_rfl) (by kernel_rfl) (fun _ _ _ h => h) (Or.inl ⟨by kernel_rfl, ?_⟩) hHeld ?_
  rotate_left
  · intro wh hSw
    go_simp
    try with_reducible rfl
  try simp only [Act.put, List.getElem_toArray, List.getElem_cons_zero, List.getElem_cons_succ, List.setIfInBounds_toArray, List.set_cons_zero, List.set_cons_succ]
  refine wpAnyH_take (i := 6) (v := ?_) rfl (by kernel_rfl) (by kernel_rfl) (by kernel_rfl) (fun _ _ _ h => h) (Or.inl ⟨by kernel_rfl, ?_⟩) hHeld ?_
  rotate_left
  · intro wh hSw
    go_simp
    try with_reducible rfl
  try simp only [Act.put, List.getElem_toArray, List.getElem_cons_zero, List.getElem_cons_succ, List.setIfInBounds_toArray, List.set_cons_zero, List.set_cons_succ]
  refine wpAnyH_take (i := 7) (v := ?_) rfl (by kernel_rfl) (by kernel_rfl) (by kernel_rfl) (fun _ _ _ h => h) (Or.inl ⟨by kernel_rfl, ?_⟩) hHeld ?_
  rotate_left
  · intro wh hSw
    go_simp
    try with_reducible rfl
  try simp only [Act.put, List.getElem_toArray, List.getElem_cons_zero, List.getElem_cons_succ, List.setIfInBounds_toArray, List.set_cons_zero, List.set_cons_succ]
  refine wpAnyH_take (i := 8) (v := ?_) rfl (by kernel_rfl) (by kernel_rfl) (by kernel_rfl) (fun _ _ _ h => h) (Or.inl ⟨by kernel_rfl, ?_⟩) hHeld ?_
  rotate_left
  · intro wh hSw
    go_simp
    try with_reducible rfl
  try simp only [Act.put, List.getElem_toArray, List.getElem_cons_zero, List.getElem_cons_succ, List.setIfInBounds_toArray, List.set_cons_zero, List.set_cons_succ]
  refine wpAnyH_take (i := 9) (v := ?_) rfl (by kernel_rfl) (by kernel_rfl) (by kernel_rfl) (fun _ _ _ h => h) (Or.inl ⟨by kernel_rfl, ?_⟩) hHeld ?_
  rotate_left
  · intro wh hSw
    go_simp
    try with_reducible rfl
  try simp only [Act.put, List.getElem_toArray, List.getElem_cons_zero, List.getElem_cons_succ, List.setIfInBounds_toArray, List.set_cons_zero, List.set_cons_succ]
  refine wpAnyH_take (i := 10) (v := ?_) rfl (by kernel_rfl) (by kernel_rfl) (by kernel_rfl) (fun _ _ _ h => h) (Or.inl ⟨by kernel_rfl, ?_⟩) hHeld ?_
  rotate_left
  · intro wh hSw
    go_simp
    try with_reducible rfl
  try simp only [Act.put, List.getElem_toArray, List.getElem_cons_zero, List.getElem_cons_succ, List.setIfInBounds_toArray, List.set_cons_zero, List.set_cons_succ]
  refine wpAnyH_take (i := 11) (v := ?_) rfl (by kernel_rfl) (by kernel_rfl) (by kernel_rfl) (fun _ _ _ h => h) (Or.inl ⟨by kernel_rfl, ?_⟩) hHeld ?_
  rotate_left
  · intro wh hSw
    go_simp
    try with_reducible rfl
  try simp only [Act.put, List.getElem_toArray, List.getElem_cons_zero, List.getElem_cons_succ, List.setIfInBounds_toArray, List.set_cons_zero, List.set_cons_succ]
  refine wpAnyH_take (i := 12) (v := ?_) rfl (by kernel_rfl) (by kernel_rfl) (by kernel_rfl) (fun _ _ _ h => h) (Or.inl ⟨by kernel_rfl, ?_⟩) hHeld ?_
  rotate_left
  · intro wh hSw
    go_simp
    try with_reducible rfl
  try simp only [Act.put, List.getElem_toArray, List.getElem_cons_zero, List.getElem_cons_succ, List.setIfInBounds_toArray, List.set_cons_zero, List.set_cons_succ]
  refine wpAnyH_take (i := 13) (v := ?_) rfl (by kernel_rfl) (by kernel_rfl) (by kernel_rfl) (fun _ _ _ h => h) (Or.inl ⟨by kernel_rfl, ?_⟩) hHeld ?_
  rotate_left
  · intro wh hSw
    go_simp
    try with_reducible rfl
  try simp only [Act.put, List.getElem_toArray, List.getElem_cons_zero, List.getElem_cons_succ, List.setIfInBounds_toArray, List.set_cons_zero, List.set_cons_succ]
  refine wpAnyH_take (i := 14) (v := ?_) rfl (by kernel_rfl) (by kernel_rfl) (by kernel_rfl) (fun _ _ _ h => h) (Or.inl ⟨by kernel_rfl, ?_⟩) hHeld ?_
  rotate_left
  · intro wh hSw
    go_simp
    try with_reducible rfl
  try simp only [Act.put, List.getElem_toArray, List.getElem_cons_zero, List.getElem_cons_succ, List.setIfInBounds_toArray, List.set_cons_zero, List.set_cons_succ]
  refine wpAnyH_take (i := 15) rfl (by kernel_rfl) (by kernel_rfl) (by kernel_rfl) (fun _ _ _ h => h) (yieldsIf_load_want (by kernel_rfl) 30 _ rfl _ rfl _ (fun wh hSw => ld30 hSw.2.1)) hHeld ?_
  try simp only [Act.put, List.getElem_toArray, List.getElem_cons_zero, List.getElem_cons_succ, List.setIfInBounds_toArray, List.set_cons_zero, List.set_cons_succ]
  refine wpAnyH_take (i := 16) rfl (by kernel_rfl) (by kernel_rfl) (by kernel_rfl) (fun _ _ _ h => h) (yieldsIf_load_want (by kernel_rfl) 30 _ rfl _ rfl _ (fun wh hSw => ld30 hSw.1)) hHeld ?_
  try simp only [Act.put, List.getElem_toArray, List.getElem_cons_zero, List.getElem_cons_succ, List.setIfInBounds_toArray, List.set_cons_zero, List.set_cons_succ]
  refine wpAnyH_take (i := 17) (v := ?_) rfl (by kernel_rfl) (by kernel_rfl) (by kernel_rfl) (fun _ _ _ h => h) (Or.inl ⟨by kernel_rfl, ?_⟩) hHeld ?_
  rotate_left
  · intro wh hSw
    go_simp
    try with_reducible rfl
  try simp only [Act.put, List.getElem_toArray, List.getElem_cons_zero, List.getElem_cons_succ, List.setIfInBounds_toArray, List.set_cons_zero, List.set_cons_succ]
  refine wpAnyH_take (i := 18) (v := ?_) rfl (by kernel_rfl) (by kernel_rfl) (by kernel_rfl) (fun _ _ _ h => h) (Or.inl ⟨by kernel_rfl, ?_⟩) hHeld ?_
  rotate_left
  · intro wh hSw
    go_simp
    try with_reducible rfl
  try simp only [Act.put, List.getElem_toArray, List.getElem_cons_zero, List.getElem_cons_succ, List.setIfInBounds_toArray, List.set_cons_zero, List.set_cons_succ]
  refine wpAnyH_take (i := 19) (v := ?_) rfl (by kernel_rfl) (by kernel_rfl) (by kernel_rfl) (fun _ _ _ h => h) (Or.inl ⟨by kernel_rfl, ?_⟩) hHeld ?_
  rotate_left
  · intro wh hSw
    go_simp
    try with_reducible rfl
  try simp only [Act.put, List.getElem_toArray, List.getElem_cons_zero, List.getElem_cons_succ, List.setIfInBounds_toArray, List.set_cons_zero, List.set_cons_succ]
  refine wpAnyH_take (i := 20) (v := ?_) rfl (by kernel_rfl) (by kernel_rfl) (by kernel_rfl) (fun _ _ _ h => h) (Or.inl ⟨by kernel_rfl, ?_⟩) hHeld ?_
  rotate_left
  · intro wh hSw
    go_simp
    try with_reducible rfl
  try simp only [Act.put, List.getElem_toArray, List.getElem_cons_zero, List.getElem_cons_succ, List.setIfInBounds_toArray, List.set_cons_zero, List.set_cons_succ]
  refine wpAnyH_take (i := 21) (v := ?_) rfl (by kernel_rfl) (by kernel_rfl) (by kernel_rfl) (fun _ _ _ h => h) (Or.inl ⟨by kernel_rfl, ?_⟩) hHeld ?_
  rotate_left
  · intro wh hSw
    go_simp
    try with_reducible rfl
  try simp only [Act.put, List.getElem_toArray, List.getElem_cons_zero, List.getElem_cons_succ, List.setIfInBounds_toArray, List.set_cons_zero, List.set_cons_succ]
  refine wpAnyH_take (i := 22) (v := ?_) rfl (by kernel_rfl) (by kernel_rfl) (by kernel_rfl) (fun _ _ _ h => h) (Or.inl ⟨by kernel_rfl, ?_⟩) hHeld ?_
  rotate_left
  · intro wh hSw
    go_simp
    try with_reducible rfl
  try simp only [Act.put, List.getElem_toArray, List.getElem_cons_zero, List.getElem_cons_succ, List.setIfInBounds_toArray, List.set_cons_zero, List.set_cons_succ]
  refine wpAnyH_take (i := 23) (v := ?_) rfl (by kernel_rfl) (by kernel_rfl) (by kernel_rfl) (fun _ _ _ h => h) (Or.inl ⟨by kernel_rfl, ?_⟩) hHeld ?_
  rotate_left
  · intro wh hSw
    go_simp
    try with_reducible rfl
  try simp only [Act.put, List.getElem_toArray, List.getElem_cons_zero, List.getElem_cons_succ, List.setIfInBounds_toArray, List.set_cons_zero, List.set_cons_succ]
  refine wpAnyH_take (i := 24) (v := ?_) rfl (by kernel_rfl) (by kernel_rfl) (by kernel_rfl) (fun _ _ _ h => h) (Or.inl ⟨by kernel_rfl, ?_⟩) hHeld ?_
  rotate_left
  · intro wh hSw
    go_simp
    try with_reducible rfl
  try simp only [Act.put, List.getElem_toArray, List.getElem_cons_zero, List.getElem_cons_succ, List.setIfInBounds_toArray, List.set_cons_zero, List.set_cons_succ]
  refine wpAnyH_take (i := 25) (v := ?_) rfl (by kernel_rfl) (by kernel_rfl) (by kernel_rfl) (fun _ _ _ h => h) (Or.inl ⟨by kernel_rfl, ?_⟩) hHeld ?_
  rotate_left
  · intro wh hSw
    go_simp
    try with_reducible rfl
  try simp only [Act.put, List.getElem_toArray, List.getElem_cons_zero, List.getElem_cons_succ, List.setIfInBounds_toArray, List.set_cons_zero, List.set_cons_succ]
  refine wpAnyH_take (i := 26) (v := ?_) rfl (by kernel_rfl) (by kernel_rfl) (by kernel_rfl) (fun _ _ _ h => h) (Or.inl ⟨by kernel_rfl, ?_⟩) hHeld ?_
  rotate_left
  · intro wh hSw
    go_simp
    try with_reducible rfl
  try simp only [Act.put, List.getElem_toArray, List.getElem_cons_zero, List.getElem_cons_succ, List.setIfInBounds_toArray, List.set_cons_zero, List.set_cons_succ]
  refine wpAnyH_take (i := 27) rfl (by kernel_rfl) (by kernel_rfl) (by kernel_rfl) (fun _ _ _ h => h) (yieldsIf_load_want (by kernel_rfl) 30 _ rfl _ rfl _ (fun wh hSw => ld30 hSw.2.2.1)) hHeld ?_
  try simp only [Act.put, List.getElem_toArray, List.getElem_cons_zero, List.getElem_cons_succ, List.setIfInBounds_toArray, List.set_cons_zero, List.set_cons_succ]
  refine wpAnyH_ready (rs := [28]) (by kernel_rfl) (by simp) (AllReadyH.cons rfl (fun K hK => ?_) AllReadyH.nil)
  clear hHeld
  go_simp
  refine (timer_cl E1 C.out 1 3).mono ?_
  rintro r E2 ⟨rfl, c⟩
  dsimp only
  clear C S1
  have C := hidd (show CL w E2 B [((1 : Int), (3 : Int), (50 : Int))] [(bm, 30, keyV ((1 : Int), (7 : Int))), (bh, 30, keyV ((1 : Int), (3 : Int))), (be, 30, keyV ((2 : Int), (1 : Int))), (bd, 30, keyV ((0 : Int), (0 : Int))), (ba, 30, keyV ((2 : Int), (1 : Int)))] from c)
  clear c
  have S1 := hidd (And.intro (C.out.blk (x := (ba, 30, keyV ((2 : Int), (1 : Int)))) (by simp)) (And.intro (C.out.blk (x := (be, 30, keyV ((2 : Int), (1 : Int)))) (by simp)) (And.intro (C.out.blk (x := (bh, 30, keyV ((1 : Int), (3 : Int)))) (by simp)) (C.out.blk (x := (bm, 30, keyV ((1 : Int), (7 : Int)))) (by simp)))))
  refine hK.out _ _ S1.out (fun hHeld => ?_)
  clear hK K
  try simp only [Act.put, List.getElem_toArray, List.getElem_cons_zero, List.getElem_cons_succ, List.setIfInBounds_toArray, List.set_cons_zero, List.set_cons_succ]
  refine wpAnyH_take (i := 29) (v := ?_) rfl (by kernel_rfl) (by kernel_rfl) (by kernel_rfl) (fun _ _ _ h => h) (Or.inl ⟨by kernel_rfl, ?_⟩) hHeld ?_
  rotate_left
  · intro wh hSw
    go_simp
    try with_reducible rfl
  try simp only [Act.put, List.getElem_toArray, List.getElem_cons_zero, List.getElem_cons_succ, List.setIfInBounds_toArray, List.set_cons_zero, List.set_cons_succ]
  refine wpAnyH_take (i := 30) (v := ?_) rfl (by kernel_rfl) (by kernel_rfl) (by kernel_rfl) (fun _ _ _ h => h) (Or.inl ⟨by kernel_rfl, ?_⟩) hHeld ?_
  rotate_left
  · intro wh hSw
    go_simp
    try with_reducible rfl
  try simp only [Act.put, List.getElem_toArray, List.getElem_cons_zero, List.getElem_cons_succ, List.setIfInBounds_toArray, List.set_cons_zero, List.set_cons_succ]
  refine wpAnyH_take (i := 31) (v := ?_) rfl (by kernel_rfl) (by kernel_rfl) (by kernel_rfl) (fun _ _ _ h => h) (Or.inl ⟨by kernel_rfl, ?_⟩) hHeld ?_
  rotate_left
  · intro wh hSw
    go_simp
    try with_reducible rfl
  try simp only [Act.put, List.getElem_toArray, List.getElem_cons_zero, List.getElem_cons_succ, List.setIfInBounds_toArray, List.set_cons_zero, List.set_cons_succ]
  refine wpAnyH_take (i := 32) (v := ?_) rfl (by kernel_rfl) (by kernel_rfl) (by kernel_rfl) (fun _ _ _ h => h) (Or.inl ⟨by kernel_rfl, ?_⟩) hHeld ?_
  rotate_left
  · intro wh hSw
    go_simp
    try with_reducible rfl
  try simp only [Act.put, List.getElem_toArray, List.getElem_cons_zero, List.getElem_cons_succ, List.setIfInBounds_toArray, List.set_cons_zero, List.set_cons_succ]
  refine wpAnyH_take (i := 33) (v := ?_) rfl (by kernel_rfl) (by kernel_rfl) (by kernel_rfl) (fun _ _ _ h => h) (Or.inl ⟨by kernel_rfl, ?_⟩) hHeld ?_
  rotate_left
  · intro wh hSw
    go_simp
    try with_reducible rfl
  try simp only [Act.put, List.getElem_toArray, List.getElem_cons_zero, List.getElem_cons_succ, List.setIfInBounds_toArray, List.set_cons_zero, List.set_cons_succ]
  refine wpAnyH_take (i := 34) (v := ?_) rfl (by kernel_rfl) (by kernel_rfl) (by kernel_rfl) (fun _ _ _ h => h) (Or.inl ⟨by kernel_rfl, ?_⟩) hHeld ?_
  rotate_left
  · intro wh hSw
    go_simp
    try with_reducible rfl
  try simp only [Act.put, List.getElem_toArray, List.getElem_cons_zero, List.getElem_cons_succ, List.setIfInBounds_toArray, List.set_cons_zero, List.set_cons_succ]
  refine wpAnyH_take (i := 35) (v := ?_) rfl (by kernel_rfl) (by kernel_rfl) (by kernel_rfl) (fun _ _ _ h => h) (Or.inl ⟨by kernel_rfl, ?_⟩) hHeld ?_
  rotate_left
  · intro wh hSw
    go_simp
    try with_reducible rfl
  try simp only [Act.put, List.getElem_toArray, List.getElem_cons_zero, List.getElem_cons_succ, List.setIfInBounds_toArray, List.set_cons_zero, List.set_cons_succ]
  refine wpAnyH_take (i := 36) (v := ?_) rfl (by kernel_rfl) (by kernel_rfl) (by kernel_rfl) (fun _ _ _ h => h) (Or.inl ⟨by kernel_rfl, ?_⟩) hHeld ?_
  rotate_left
  · intro wh hSw
    go_simp
    try with_reducible rfl
  try simp only [Act.put, List.getElem_toArray, List.getElem_cons_zero, List.getElem_cons_succ, List.setIfInBounds_toArray, List.set_cons_zero, List.set_cons_succ]
  refine wpAnyH_take (i := 37) (v := ?_) rfl (by kernel_rfl) (by kernel_rfl) (by kernel_rfl) (fun _ _ _ h => h) (Or.inl ⟨by kernel_rfl, ?_⟩) hHeld ?_
  rotate_left
  · intro wh hSw
    go_simp
    try with_reducible rfl
  try simp only [Act.put, List.getElem_toArray, List.getElem_cons_zero, List.getElem_cons_succ, List.setIfInBounds_toArray, List.set_cons_zero, List.set_cons_succ]
  refine wpAnyH_take (i := 38) (v := ?_) rfl (by kernel_rfl) (by kernel_rfl) (by kernel_rfl) (fun _ _ _ h => h) (Or.inl ⟨by kernel_rfl, ?_⟩) hHeld ?_
  rotate_left
  · intro wh hSw
    go_simp
    try with_reducible rfl
  try simp only [Act.put, List.getElem_toArray, List.getElem_cons_zero, List.getElem_cons_succ, List.setIfInBounds_toArray, List.set_cons_zero, List.set_cons_succ]
  refine wpAnyH_take (i := 39) (v := ?_) rfl (by kernel_rfl) (by kernel_rfl) (by kernel_rfl) (fun _ _ _ h => h) (Or.inl ⟨by kernel_rfl, ?_⟩) hHeld ?_
  rotate_left
  · intro wh hSw
    go_simp
    try with_reducible rfl
  try simp only [Act.put, List.getElem_toArray, List.getElem_cons_zero, List.getElem_cons_succ, List.setIfInBounds_toArray, List.set_cons_zero, List.set_cons_succ]
  refine wpAnyH_take (i := 40) (v := ?_) rfl (by kernel_rfl) (by kernel_rfl) (by kernel_rfl) (fun _ _ _ h => h) (Or.inl ⟨by kernel_rfl, ?_⟩) hHeld ?_
  rotate_left
  · intro wh hSw
    go_simp
    try with_reducible rfl
  try simp only [Act.put, List.getElem_toArray, List.getElem_cons_zero, List.getElem_cons_succ, List.setIfInBounds_toArray, List.set_cons_zero, List.set_cons_succ]
  refine wpAnyH_take (i := 41) (v := ?_) rfl (by kernel_rfl) (by kernel_rfl) (by kernel_rfl) (fun _ _ _ h => h) (Or.inl ⟨by kernel_rfl, ?_⟩) hHeld ?_
  rotate_left
  · intro wh hSw
    go_simp
    try with_reducible rfl
  try simp only [Act.put, List.getElem_toArray, List.getElem_cons_zero, List.getElem_cons_succ, List.setIfInBounds_toArray, List.set_cons_zero, List.set_cons_succ]
  refine wpAnyH_take (i := 42) (v := ?_) rfl (by kernel_rfl) (by kernel_rfl) (by kernel_rfl) (fun _ _ _ h => h) (Or.inl ⟨by kernel_rfl, ?_⟩) hHeld ?_
  rotate_left
  · intro wh hSw
    go_simp
    try with_reducible rfl
  try simp only [Act.put, List.getElem_toArray, List.getElem_cons_zero, List.getElem_cons_succ, List.setIfInBounds_toArray, List.set_cons_zero, List.set_cons_succ]
  refine wpAnyH_take (i := 43) rfl (by kernel_rfl) (by kernel_rfl) (by kernel_rfl) (fun _ _ _ h => h) (yieldsIf_load_want (by kernel_rfl) 30 _ rfl _ rfl _ (fun wh hSw => ld30 hSw.2.2.2)) hHeld ?_
  try simp only [Act.put, List.getElem_toArray, List.getElem_cons_zero, List.getElem_cons_succ, List.setIfInBounds_toArray, List.set_cons_zero, List.set_cons_succ]
  refine wpAnyH_ready (rs := [44]) (by kernel_rfl) (by simp) (AllReadyH.cons rfl (fun K hK => ?_) AllReadyH.nil)
  clear hHeld
  go_simp
  refine (timer_cl E2 C.out 1 7).mono ?_
  rintro r E3 ⟨rfl, c⟩
  dsimp only
  clear C S1
  have C := hidd (show CL w E3 B [((1 : Int), (3 : Int), (50 : Int))] [(bm, 30, keyV ((1 : Int), (7 : Int))), (bh, 30, keyV ((1 : Int), (3 : Int))), (be, 30, keyV ((2 : Int), (1 : Int))), (bd, 30, keyV ((0 : Int), (0 : Int))), (ba, 30, keyV ((2 : Int), (1 : Int)))] from c)
  clear c
  have S1 := hidd (And.intro (C.out.blk (x := (ba, 30, keyV ((2 : Int), (1 : Int)))) (by simp)) (And.intro (C.out.blk (x := (be, 30, keyV ((2 : Int), (1 : Int)))) (by simp)) (And.intro (C.out.blk (x := (bh, 30, keyV ((1 : Int), (3 : Int)))) (by simp)) (C.out.blk (x := (bm, 30, keyV ((1 : Int), (7 : Int)))) (by simp)))))
  refine hK.out _ _ S1.out (fun hHeld => ?_)
  clear hK K
  try simp only [Act.put, List.getElem_toArray, List.getElem_cons_zero, List.getElem_cons_succ, List.setIfInBounds_toArray, List.set_cons_zero, List.set_cons_succ]
  refine wpAnyH_take (i := 45) (v := ?_) rfl (by kernel_rfl) (by kernel_rfl) (by kernel_rfl) (fun _ _ _ h => h) (Or.inl ⟨by kernel_rfl, ?_⟩) hHeld ?_
  rotate_left
  · intro wh hSw
    go_simp
    try with_reducible rfl
  try simp only [Act.put, List.getElem_toArray, List.getElem_cons_zero, List.getElem_cons_succ, List.setIfInBounds_toArray, List.set_cons_zero, List.set_cons_succ]
  refine wpAnyH_take (i := 46) (v := ?_) rfl (by kernel_rfl) (by kernel_rfl) (by kernel_rfl) (fun _ _ _ h => h) (Or.inl ⟨by kernel_rfl, ?_⟩) hHeld ?_
  rotate_left
  · intro wh hSw
    go_simp
    try with_reducible rfl
  try simp only [Act.put, List.getElem_toArray, List.getElem_cons_zero, List.getElem_cons_succ, List.setIfInBounds_toArray, List.set_cons_zero, List.set_cons_succ]
  refine wpAnyH_take (i := 47) (v := ?_) rfl (by kernel_rfl) (by kernel_rfl) (by kernel_rfl) (fun _ _ _ h => h) (Or.inl ⟨by kernel_rfl, ?_⟩) hHeld ?_
  rotate_left
  · intro wh hSw
    go_simp
    try with_reducible rfl
  try simp only [Act.put, List.getElem_toArray, List.getElem_cons_zero, List.getElem_cons_succ, List.setIfInBounds_toArray, List.set_cons_zero, List.set_cons_succ]
  refine wpAnyH_take (i := 48) (v := ?_) rfl (by kernel_rfl) (by kernel_rfl) (by kernel_rfl) (fun _ _ _ h => h) (Or.inl ⟨by kernel_rfl, ?_⟩) hHeld ?_
  rotate_left
  · intro wh hSw
    go_simp
    try with_reducible rfl
  try simp only [Act.put, List.getElem_toArray, List.getElem_cons_zero, List.getElem_cons_succ, List.setIfInBounds_toArray, List.set_cons_zero, List.set_cons_succ]
  refine wpAnyH_take (i := 49) (v := ?_) rfl (by kernel_rfl) (by kernel_rfl) (by kernel_rfl) (fun _ _ _ h => h) (Or.inl ⟨by kernel_rfl, ?_⟩) hHeld ?_
  rotate_left
  · intro wh hSw
    go_simp
    try with_reducible rfl
  try simp only [Act.put, List.getElem_toArray, List.getElem_cons_zero, List.getElem_cons_succ, List.setIfInBounds_toArray, List.set_cons_zero, List.set_cons_succ]
  refine wpAnyH_take (i := 50) (v := ?_) rfl (by kernel_rfl) (by kernel_rfl) (by kernel_rfl) (fun _ _ _ h => h) (Or.inl ⟨by kernel_rfl, ?_⟩) hHeld ?_
  rotate_left
  · intro wh hSw
    go_simp
    try with_reducible rfl
  try simp only [Act.put, List.getElem_toArray, List.getElem_cons_zero, List.getElem_cons_succ, List.setIfInBounds_toArray, List.set_cons_zero, List.set_cons_succ]
  refine wpAnyH_take (i := 51) (v := ?_) rfl (by kernel_rfl) (by kernel_rfl) (by kernel_rfl) (fun _ _ _ h => h) (Or.inl ⟨by kernel_rfl, ?_⟩) hHeld ?_
  rotate_left
  · intro wh hSw
    go_simp
    try with_reducible rfl
  try simp only [Act.put, List.getElem_toArray, List.getElem_cons_zero, List.getElem_cons_succ, List.setIfInBounds_toArray, List.set_cons_zero, List.set_cons_succ]
  refine wpAnyH_take (i := 52) (v := ?_) rfl (by kernel_rfl) (by kernel_rfl) (by kernel_rfl) (fun _ _ _ h => h) (Or.inl ⟨by kernel_rfl, ?_⟩) hHeld ?_
  rotate_left
  · intro wh hSw
    go_simp
    try with_reducible rfl
  try simp only [Act.put, List.getElem_toArray, List.getElem_cons_zero, List.getElem_cons_succ, List.setIfInBounds_toArray, List.set_cons_zero, List.set_cons_succ]
  refine wpAnyH_take (i := 53) (v := ?_) rfl (by kernel_rfl) (by kernel_rfl) (by kernel_rfl) (fun _ _ _ h => h) (Or.inl ⟨by kernel_rfl, ?_⟩) hHeld ?_
  rotate_left
  · intro wh hSw
    go_simp
    try with_reducible rfl
  try simp only [Act.put, List.getElem_toArray, List.getElem_cons_zero, List.getElem_cons_succ, List.setIfInBounds_toArray, List.set_cons_zero, List.set_cons_succ]
  refine wpAnyH_take (i := 54) (v := ?_) rfl (by kernel_rfl) (by kernel_rfl) (by kernel_rfl) (fun _ _ _ h => h) (Or.inl ⟨by kernel_rfl, ?_⟩) hHeld ?_
  rotate_left
  · intro wh hSw
    go_simp
    try with_reducible rfl
  try simp only [Act.put, List.getElem_toArray, List.getElem_cons_zero, List.getElem_cons_succ, List.setIfInBounds_toArray, List.set_cons_zero, List.set_cons_succ]
  refine wpAnyH_take (i := 55) (v := ?_) rfl (by kernel_rfl) (by kernel_rfl) (by kernel_rfl) (fun _ _ _ h => h) (Or.inl ⟨by kernel_rfl, ?_⟩) hHeld ?_
  rotate_left
  · intro wh hSw
    go_simp
    try with_reducible rfl
  try simp only [Act.put, List.getElem_toArray, List.getElem_cons_zero, List.getElem_cons_succ, List.setIfInBounds_toArray, List.set_cons_zero, List.set_cons_succ]
  refine wpAnyH_ready (rs := [56]) (by kernel_rfl) (by simp) (AllReadyH.cons rfl (fun K hK => ?_) AllReadyH.nil)
  clear hHeld
  go_simp
  refine (timer_cl E3 C.out 1 3).mono ?_
  rintro r E4 ⟨rfl, c⟩
  dsimp only
  clear C S1
  have C := hidd (show CL w E4 B [((1 : Int), (3 : Int), (50 : Int))] [(bm, 30, keyV ((1 : Int), (7 : Int))), (bh, 30, keyV ((1 : Int), (3 : Int))), (be, 30, keyV ((2 : Int), (1 : Int))), (bd, 30, keyV ((0 : Int), (0 : Int))), (ba, 30, keyV ((2 : Int), (1 : Int)))] from c)
  clear c
  have S1 := hidd (And.intro (C.out.blk (x := (ba, 30, keyV ((2 : Int), (1 : Int)))) (by simp)) (And.intro (C.out.blk (x := (be, 30, keyV ((2 : Int), (1 : Int)))) (by simp)) (And.intro (C.out.blk (x := (bh, 30, keyV ((1 : Int), (3 : Int)))) (by simp)) (C.out.blk (x := (bm, 30, keyV ((1 : Int), (7 : Int)))) (by simp)))))
  refine hK.out _ _ S1.out (fun hHeld => ?_)
  clear hK K
  try simp only [Act.put, List.getElem_toArray, List.getElem_cons_zero, List.getElem_cons_succ, List.setIfInBounds_toArray, List.set_cons_zero, List.set_cons_succ]
  refine wpAnyH_ready (rs := [57]) (by kernel_rfl) (by simp) (AllReadyH.cons rfl (fun K hK => ?_) AllReadyH.nil)
  clear hHeld
  go_simp
  refine (cancel_cl E4 C.out (1, 3) ⟨by decide, by decide⟩).mono ?_
  rintro r E5 ⟨rfl, c⟩
  dsimp only
  rw [show (canM [((1 : Int), (3 : Int), (50 : Int))] ((1 : Int), (3 : Int))).1 = true from rfl]
  clear C S1
  have C := hidd (show CL w E5 B [] [(bm, 30, keyV ((1 : Int), (7 : Int))), (bh, 30, keyV ((1 : Int), (3 : Int))), (be, 30, keyV ((2 : Int), (1 : Int))), (bd, 30, keyV ((0 : Int), (0 : Int))), (ba, 30, keyV ((2 : Int), (1 : Int)))] from c)
  clear c
  have S1 := hidd (And.intro (C.out.blk (x := (ba, 30, keyV ((2 : Int), (1 : Int)))) (by simp)) (And.intro (C.out.blk (x := (be, 30, keyV ((2 : Int), (1 : Int)))) (by simp)) (And.intro (C.out.blk (x := (bh, 30, keyV ((1 : Int), (3 : Int)))) (by simp)) (C.out.blk (x := (bm, 30, keyV ((1 : Int), (7 : Int)))) (by simp)))))
  refine hK.out _ _ S1.out (fun hHeld => ?_)
  clear hK K
  try simp only [Act.put, List.getElem_toArray, List.getElem_cons_zero, List.getElem_cons_succ, List.setIfInBounds_toArray, List.set_cons_zero, List.set_cons_succ]
  refine wpAnyH_take (i := 58) (v := ?_) rfl (by kernel_rfl) (by kernel_rfl) (by kernel_rfl) (fun _ _ _ h => h) (Or.inl ⟨by kernel_rfl, ?_⟩) hHeld ?_
  rotate_left
  · intro wh hSw
    go_simp
    try with_reducible rfl
  try simp only [Act.put, List.getElem_toArray, List.getElem_cons_zero, List.getElem_cons_succ, List.setIfInBounds_toArray, List.set_cons_zero, List.set_cons_succ]
  refine wpAnyH_take (i := 59) (v := ?_) rfl (by kernel_rfl) (by kernel_rfl) (by kernel_rfl) (fun _ _ _ h => h) (Or.inl ⟨by kernel_rfl, ?_⟩) hHeld ?_
  rotate_left
  · intro wh hSw
    go_simp
    try with_reducible rfl
  try simp only [Act.put, List.getElem_toArray, List.getElem_cons_zero, List.getElem_cons_succ, List.setIfInBounds_toArray, List.set_cons_zero, List.set_cons_succ]
  refine wpAnyH_take (i := 60) (v := ?_) rfl (by kernel_rfl) (by kernel_rfl) (by kernel_rfl) (fun _ _ _ h => h) (Or.inl ⟨by kernel_rfl, ?_⟩) hHeld ?_
  rotate_left
  · intro wh hSw
    go_simp
    try with_reducible rfl
  try simp only [Act.put, List.getElem_toArray, List.getElem_cons_zero, List.getElem_cons_succ, List.setIfInBounds_toArray, List.set_cons_zero, List.set_cons_succ]
  refine wpAnyH_ready (rs := [61]) (by kernel_rfl) (by simp) (AllReadyH.cons rfl (fun K hK => ?_) AllReadyH.nil)
  clear hHeld
  go_simp
  refine (size_cl E5 C.out).mono ?_
  rintro r U ⟨rfl, hU⟩
  subst hU
  dsimp only
  refine hK.out _ _ S1.out (fun hHeld => ?_)
  clear hK K
  try simp only [Act.put, List.getElem_toArray, List.getElem_cons_zero, List.getElem_cons_succ, List.setIfInBounds_toArray, List.set_cons_zero, List.set_cons_succ]
  refine wpAnyH_take (i := 62) (v := ?_) rfl (by kernel_rfl) (by kernel_rfl) (by kernel_rfl) (fun _ _ _ h => h) (Or.inl ⟨by kernel_rfl, ?_⟩) hHeld ?_
  rotate_left
  · intro wh hSw
    go_simp
    try with_reducible rfl
  try simp only [Act.put, List.getElem_toArray, List.getElem_cons_zero, List.getElem_cons_succ, List.setIfInBounds_toArray, List.set_cons_zero, List.set_cons_succ]
  refine wpAnyH_take (i := 63) (v := ?_) rfl (by kernel_rfl) (by kernel_rfl) (by kernel_rfl) (fun _ _ _ h => h) (Or.inl ⟨by kernel_rfl, ?_⟩) hHeld ?_
  rotate_left
  · intro wh hSw
    go_simp
    try with_reducible rfl
  try simp only [Act.put, List.getElem_toArray, List.getElem_cons_zero, List.getElem_cons_succ, List.setIfInBounds_toArray, List.set_cons_zero, List.set_cons_succ]
  refine wpAnyH_take (i := 64) (v := ?_) rfl (by kernel_rfl) (by kernel_rfl) (by kernel_rfl) (fun _ _ _ h => h) (Or.inl ⟨by kernel_rfl, ?_⟩) hHeld ?_
  rotate_left
  · intro wh hSw
    go_simp
    try with_reducible rfl
  try simp only [Act.put, List.getElem_toArray, List.getElem_cons_zero, List.getElem_cons_succ, List.setIfInBounds_toArray, List.set_cons_zero, List.set_cons_succ]
  refine wpAnyH_done (by kernel_rfl) ?_ _
  clear hHeld
  go_wp2
  go_ret
  exact ⟨rfl, C.out.bel⟩
end Go.Proofs.Ytepenfgoejhofaa
