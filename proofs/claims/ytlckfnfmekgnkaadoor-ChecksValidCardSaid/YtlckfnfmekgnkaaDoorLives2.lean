/- The chapter's example. No condition but that the table of known addresses lies where it was laid. -/
import Derived.Test.YtlckfnfmekgnkaaDoorLives
namespace Go.Proofs.YtlckfnfmekgnkaaDoor
open Go.ChangeShapes Go.WideShapes Go.ChangeAt Go.RowKit Go.Deep
set_option linter.unusedVariables false

set_option maxHeartbeats 2000000 in
theorem lives_any (w : World) (hg : Gl w) : Calls Tryd.prog 8 #[] w fun e w' => e = .returned (.bool true) ∧ Below w.heap.size w w' := by
  have K0 := hidd (Kp.nil w)
  have S0 : w.heap.size = w.heap.size := rfl
  have m0 := fun V B => msV_is (w := V) (B := B) (kind := 134) zeroA_is (by omega) (by omega) (noOps V B) rfl
  have n0 := fun V B => msV_is (w := V) (B := B) (kind := 135) aNine_is (by omega) (by omega) (noOps V B) rfl
  go_enter Tryd.func8, Tryd.ntmps8
  go_wp2_with (first
    | (with_reducible show wpList _ _ _ (⟨_, Op.build 23 #[(0, Operand.const (Value.int IntKind.u8 254)), (1, Operand.const (Value.int IntKind.u8 128)), (15, Operand.const (Value.int IntKind.u8 1))], _, _, _, _⟩ :: _) _ _; refine wpList_build_want rfl 23 #[(0, .const (.int .u8 254)), (1, .const (.int .u8 128)), (15, .const (.int .u8 1))] rfl (bytesV a1) (by kernel_rfl) ?_)
    | (with_reducible show wpList _ _ _ (⟨_, Op.build 23 #[(15, Operand.const (Value.int IntKind.u8 1))], _, _, _, _⟩ :: _) _ _; refine wpList_build_want rfl 23 #[(15, .const (.int .u8 1))] rfl (bytesV aLoop) (by kernel_rfl) ?_)
    | (with_reducible show wpList _ _ _ (⟨_, Op.build 23 #[(0, Operand.const (Value.int IntKind.u8 255)), (1, Operand.const (Value.int IntKind.u8 2)), (11, Operand.const (Value.int IntKind.u8 1)), (12, Operand.const (Value.int IntKind.u8 255)), (15, Operand.const (Value.int IntKind.u8 9))], _, _, _, _⟩ :: _) _ _; refine wpList_build_want rfl 23 #[(0, .const (.int .u8 255)), (1, .const (.int .u8 2)), (11, .const (.int .u8 1)), (12, .const (.int .u8 255)), (15, .const (.int .u8 9))] rfl (bytesV aMany) (by kernel_rfl) ?_)
    | (with_reducible show wpList _ _ _ (⟨_, Op.build 23 #[(0, Operand.const (Value.int IntKind.u8 254)), (1, Operand.const (Value.int IntKind.u8 128)), (15, Operand.const (Value.int IntKind.u8 9))], _, _, _, _⟩ :: _) _ _; refine wpList_build_want rfl 23 #[(0, .const (.int .u8 254)), (1, .const (.int .u8 128)), (15, .const (.int .u8 9))] rfl (bytesV aNine) (by kernel_rfl) ?_)
    | (with_reducible show wpList _ _ _ (⟨_, Op.build 30 #[(0, Operand.tmp 10), (2, Operand.const (Value.int IntKind.u8 255))], _, _, _, _⟩ :: _) _ _; refine wpList_build_want rfl 30 #[(0, .tmp 10), (2, .const (.int .u8 255))] rfl (pkV a1 zeroA 255 false) (by kernel_rfl) ?_)
    | (with_reducible show wpList _ _ _ (⟨_, Op.build 30 #[(1, Operand.tmp 18), (2, Operand.const (Value.int IntKind.u8 255))], _, _, _, _⟩ :: _) _ _; refine wpList_build_want rfl 30 #[(1, .tmp 18), (2, .const (.int .u8 255))] rfl (pkV zeroA aMany 255 false) (by kernel_rfl) ?_)
    | (with_reducible show wpList _ _ _ (⟨_, Op.build 35 #[(0, Operand.const (Value.int IntKind.u8 134))], _, _, _, _⟩ :: _) _ _; refine wpList_build_want rfl 35 #[(0, .const (.int .u8 134))] rfl (msV 134 zeroA (.slice none 0 0)) (by kernel_rfl) ?_)
    | (with_reducible show wpList _ _ _ (⟨_, Op.build 35 #[(0, Operand.const (Value.int IntKind.u8 135)), (9, Operand.tmp 20)], _, _, _, _⟩ :: _) _ _; refine wpList_build_want rfl 35 #[(0, .const (.int .u8 135)), (9, .tmp 20)] rfl (msV 135 aNine (.slice none 0 0)) (by kernel_rfl) ?_)
    | (with_reducible show wpList _ _ _ (⟨_, Op.load 23 _, _, _, _, _⟩ :: _) _ _; refine wpList_load_want (by kernel_rfl) 23 _ rfl _ rfl _ (by with_reducible first | exact l1) ?_)
    | (with_reducible show wpList _ _ _ (⟨_, Op.load 30 _, _, _, _, _⟩ :: _) _ _; refine wpList_load_want (by kernel_rfl) 30 _ rfl _ rfl _ (by with_reducible first | exact l2 | exact l4 | exact la) ?_)
    | (with_reducible show wpList _ _ _ (⟨_, Op.load 35 _, _, _, _, _⟩ :: _) _ _; refine wpList_load_want (by kernel_rfl) 35 _ rfl _ rfl _ (by with_reducible first | exact l9 | exact lb) ?_)
    | (with_reducible show wpList _ _ _ (⟨_, Op.store 23 (Operand.tmp 1) _, _, _, _, _⟩ :: _) _ _; refine wpList_store_new rfl rfl 23 (.tmp 1) _ rfl _ _ (bytesV a1) rfl S0.symm rfl (size_bytes a1_is) rfl (ones_bytes _) ?_
       have K1 := hidd (K0.out.new S0 23 (bytesV a1))
       have S1 := size_new S0 (.cells (bytesV a1) 23)
       generalize (w).alloc (.cells (bytesV a1) 23) = W1 at K1 S1 ⊢
       have l1 := K1.out.l23 0 rfl a1_is)
    | (with_reducible show wpList _ _ _ (⟨_, Op.store 30 (Operand.tmp 2) _, _, _, _, _⟩ :: _) _ _; refine wpList_store_new rfl rfl 30 (.tmp 2) _ rfl _ _ (pkV a1 zeroA 255 false) rfl S1.symm rfl (size_pk p_is) rfl p_is.ones ?_
       have K2 := hidd (K1.out.new S1 30 (pkV a1 zeroA 255 false))
       have S2 := size_new S1 (.cells (pkV a1 zeroA 255 false) 30)
       generalize (W1).alloc (.cells (pkV a1 zeroA 255 false) 30) = W2 at K2 S2 ⊢
       have l2 := K2.out.l30 1 rfl p_is)
    | (with_reducible show wpList _ _ _ (⟨_, Op.store 30 (Operand.tmp 3) _, _, _, _, _⟩ :: _) _ _; refine wpList_store_new rfl rfl 30 (.tmp 3) _ rfl _ _ (pkV a1 zeroA 255 false) rfl S2.symm rfl (size_pk p_is) rfl p_is.ones ?_
       have K3 := hidd (K2.out.new S2 30 (pkV a1 zeroA 255 false))
       have S3 := size_new S2 (.cells (pkV a1 zeroA 255 false) 30)
       generalize (W2).alloc (.cells (pkV a1 zeroA 255 false) 30) = W3 at K3 S3 ⊢
       have c3 := K3.out.cell 2 rfl p_is.hops
       have f3 := K3.out.frozen 2 rfl 32
       have K4 := hidd (K3.out.set 2 rfl 32 (.int .u8 254))
       have S4 := size_set S3 ⟨w.heap.size + 1 + 1, 32, none⟩ (.int .u8 254)
       have l4 := K4.out.l30 1 rfl p_is)
    | (with_reducible show wpList _ _ _ (⟨_, Op.store 30 (Operand.tmp 4) _, _, _, _, _⟩ :: _) _ _; refine wpList_store_new rfl rfl 30 (.tmp 4) _ rfl _ _ (pkV a1 zeroA 255 false) rfl S4.symm rfl (size_pk p_is) rfl p_is.ones ?_
       have K5 := hidd (K4.out.new S4 30 (pkV a1 zeroA 255 false))
       have S5 := size_new S4 (.cells (pkV a1 zeroA 255 false) 30)
       generalize (W3.setCell ⟨w.heap.size + 1 + 1, 32, none⟩ (.int .u8 254)).alloc (.cells (pkV a1 zeroA 255 false) 30) = W5 at K5 S5 ⊢
       have t5 := K5.out.there 3 rfl (o := 0) (n := aLoop.length) (by rw [p_is.size, aLoop_is.len]; omega))
    | (with_reducible show wpList _ _ _ (⟨_, Op.store 23 (Operand.tmp 16) _, _, _, _, _⟩ :: _) _ _; refine wpList_store_bytes rfl rfl 23 (.tmp 16) _ rfl _ _ aLoop rfl rfl t5 (info23' aLoop_is) ?_
       have K6 := hidd (K5.out.over 3 rfl 0 (aLoop.map (Value.int .u8)))
       have S6 := (size_setCells (w.heap.size + 1 + 1 + 1) (aLoop.map (Value.int .u8)) 0 W5).trans S5
       generalize W5.setCells (w.heap.size + 1 + 1 + 1) 0 (aLoop.map (Value.int .u8)) = W6 at K6 S6 ⊢)
    | (with_reducible show wpList _ _ _ (⟨_, Op.store 35 (Operand.tmp 5) _, _, _, _, _⟩ :: _) _ _; refine wpList_store_new rfl rfl 35 (.tmp 5) _ rfl _ _ (msV 134 zeroA (.slice none 0 0)) rfl S6.symm rfl (size_ms (m0 w 0)) rfl (m0 w 0).ones ?_
       have K7 := hidd (K6.out.new S6 35 (msV 134 zeroA (.slice none 0 0)))
       have S7 := size_new S6 (.cells (msV 134 zeroA (.slice none 0 0)) 35)
       generalize (W6).alloc (.cells (msV 134 zeroA (.slice none 0 0)) 35) = W7 at K7 S7 ⊢)
    | (with_reducible show wpList _ _ _ (⟨_, Op.store 30 (Operand.tmp 6) _, _, _, _, _⟩ :: _) _ _; refine wpList_store_new rfl rfl 30 (.tmp 6) _ rfl _ _ (pkV zeroA aMany 255 false) rfl S7.symm rfl (size_pk q_is) rfl q_is.ones ?_
       have K8 := hidd (K7.out.new S7 30 (pkV zeroA aMany 255 false))
       have S8 := size_new S7 (.cells (pkV zeroA aMany 255 false) 30)
       generalize (W7).alloc (.cells (pkV zeroA aMany 255 false) 30) = W8 at K8 S8 ⊢)
    | (with_reducible show wpList _ _ _ (⟨_, Op.store 35 (Operand.tmp 7) _, _, _, _, _⟩ :: _) _ _; refine wpList_store_new rfl rfl 35 (.tmp 7) _ rfl _ _ (msV 135 aNine (.slice none 0 0)) rfl S8.symm rfl (size_ms (n0 w 0)) rfl (n0 w 0).ones ?_
       have K9 := hidd (K8.out.new S8 35 (msV 135 aNine (.slice none 0 0)))
       have S9 := size_new S8 (.cells (msV 135 aNine (.slice none 0 0)) 35)
       generalize (W8).alloc (.cells (msV 135 aNine (.slice none 0 0)) 35) = W9 at K9 S9 ⊢
       have l9 := K9.out.l35 6 rfl (n0 w 0))
    | (with_reducible show wpList _ _ _ (⟨_, Op.store 35 (Operand.tmp 8) _, _, _, _, _⟩ :: _) _ _; refine wpList_store_new rfl rfl 35 (.tmp 8) _ rfl _ _ (msV 135 aNine (.slice none 0 0)) rfl S9.symm rfl (size_ms (n0 w 0)) rfl (n0 w 0).ones ?_
       have K10 := hidd (K9.out.new S9 35 (msV 135 aNine (.slice none 0 0)))
       have S10 := size_new S9 (.cells (msV 135 aNine (.slice none 0 0)) 35)
       generalize (W9).alloc (.cells (msV 135 aNine (.slice none 0 0)) 35) = W10 at K10 S10 ⊢
       have K11 := hidd (K10.out.new S10 46 #[.int .u8 1, .slice none 0 0])
       have S11 := size_new S10 (.cells #[.int .u8 1, .slice none 0 0] 46)
       have c11 := K11.out.cell 7 rfl (i := 41) (v := .slice none 0 0) rfl
       have f11 := K11.out.frozen 7 rfl 41
       have K12 := hidd ((K10.out.set 7 rfl 41 (.slice (some ⟨w.heap.size + 1 + 1 + 1 + 1 + 1 + 1 + 1 + 1, 0, none⟩) 1 1)).new (size_set S10 ⟨w.heap.size + 1 + 1 + 1 + 1 + 1 + 1 + 1, 41, none⟩ (.slice (some ⟨w.heap.size + 1 + 1 + 1 + 1 + 1 + 1 + 1 + 1, 0, none⟩) 1 1)) 46 #[.int .u8 1, .slice none 0 0])
       clear K11 S11
       have la := K12.out.l30 1 rfl p_is
       have lb := K12.out.l35 4 rfl (m0 w 0)
       have ho : Hid (IsOps ((W10.setCell ⟨w.heap.size + 1 + 1 + 1 + 1 + 1 + 1 + 1, 41, none⟩ (.slice (some ⟨w.heap.size + 1 + 1 + 1 + 1 + 1 + 1 + 1 + 1, 0, none⟩) 1 1)).alloc (.cells #[.int .u8 1, .slice none 0 0] 46)) ((W10.setCell ⟨w.heap.size + 1 + 1 + 1 + 1 + 1 + 1 + 1, 41, none⟩ (.slice (some ⟨w.heap.size + 1 + 1 + 1 + 1 + 1 + 1 + 1 + 1, 0, none⟩) 1 1)).alloc (.cells #[.int .u8 1, .slice none 0 0] 46)).heap.size (.slice (some ⟨w.heap.size + 1 + 1 + 1 + 1 + 1 + 1 + 1 + 1, 0, none⟩) 1 1) [1]) :=
         ⟨some ⟨w.heap.size + 1 + 1 + 1 + 1 + 1 + 1 + 1 + 1, 0, none⟩, 1, 1, _, rfl, (K12.out.get 8 rfl).rd 2 1 1 rfl (Nat.le_refl _) (by unfold maxLen; omega) (K12.out.lt 8 rfl), rfl, fun i k h => by
           match i, h with
           | 0, h => simp at h; subst h; exact ⟨rfl, _, _, _, rfl⟩⟩))
  generalize (W10.setCell ⟨w.heap.size + 1 + 1 + 1 + 1 + 1 + 1 + 1, 41, none⟩ (.slice (some ⟨w.heap.size + 1 + 1 + 1 + 1 + 1 + 1 + 1 + 1, 0, none⟩) 1 1)).alloc (.cells #[.int .u8 1, .slice none 0 0] 46) = V0 at K12 la lb ho ⊢
  have Q0 := K12
  refine (valid_any V0 _ _ ⟨a1, zeroA, 255, false⟩ ⟨134, 0, 0, zeroA, zeroA, []⟩ (Q0.out.gl hg) p_is (m0 _ _)).mono ?_
  rintro e V1 ⟨rfl, b0⟩
  rw [show valid ⟨a1, zeroA, 255, false⟩ ⟨134, 0, 0, zeroA, zeroA, []⟩ = true by decide]
  have Q1 := hidd (Q0.out.call b0)
  clear la lb
  have ho1 : Hid (IsOps V1 V1.heap.size (.slice (some ⟨w.heap.size + 1 + 1 + 1 + 1 + 1 + 1 + 1 + 1, 0, none⟩) 1 1) [1]) := (ho.out.below b0).more b0.size
  have la := Q1.out.l30 2 rfl far_is
  have lb := Q1.out.l35 4 rfl (m0 w 0)
  go_wp2_with (first
    | (with_reducible show wpList _ _ _ (⟨_, Op.load 30 _, _, _, _, _⟩ :: _) _ _; refine wpList_load_want (by kernel_rfl) 30 _ rfl _ rfl _ (by with_reducible exact la) ?_)
    | (with_reducible show wpList _ _ _ (⟨_, Op.load 35 _, _, _, _, _⟩ :: _) _ _; refine wpList_load_want (by kernel_rfl) 35 _ rfl _ rfl _ (by with_reducible exact lb) ?_))
  refine (valid_any V1 _ _ ⟨a1, zeroA, 254, false⟩ ⟨134, 0, 0, zeroA, zeroA, []⟩ (Q1.out.gl hg) far_is (m0 _ _)).mono ?_
  rintro e V2 ⟨rfl, b1⟩
  rw [show valid ⟨a1, zeroA, 254, false⟩ ⟨134, 0, 0, zeroA, zeroA, []⟩ = false by decide]
  have Q2 := hidd (Q1.out.call b1)
  clear la lb
  have ho2 : Hid (IsOps V2 V2.heap.size (.slice (some ⟨w.heap.size + 1 + 1 + 1 + 1 + 1 + 1 + 1 + 1, 0, none⟩) 1 1) [1]) := (ho1.out.below b1).more b1.size
  have la := Q2.out.l30 3 rfl loop_is
  have lb := Q2.out.l35 4 rfl (m0 w 0)
  go_wp2_with (first
    | (with_reducible show wpList _ _ _ (⟨_, Op.load 30 _, _, _, _, _⟩ :: _) _ _; refine wpList_load_want (by kernel_rfl) 30 _ rfl _ rfl _ (by with_reducible exact la) ?_)
    | (with_reducible show wpList _ _ _ (⟨_, Op.load 35 _, _, _, _, _⟩ :: _) _ _; refine wpList_load_want (by kernel_rfl) 35 _ rfl _ rfl _ (by with_reducible exact lb) ?_))
  refine (valid_any V2 _ _ ⟨aLoop, zeroA, 255, false⟩ ⟨134, 0, 0, zeroA, zeroA, []⟩ (Q2.out.gl hg) loop_is (m0 _ _)).mono ?_
  rintro e V3 ⟨rfl, b2⟩
  rw [show valid ⟨aLoop, zeroA, 255, false⟩ ⟨134, 0, 0, zeroA, zeroA, []⟩ = false by decide]
  have Q3 := hidd (Q2.out.call b2)
  clear la lb
  have ho3 : Hid (IsOps V3 V3.heap.size (.slice (some ⟨w.heap.size + 1 + 1 + 1 + 1 + 1 + 1 + 1 + 1, 0, none⟩) 1 1) [1]) := (ho2.out.below b2).more b2.size
  have la := Q3.out.l30 5 rfl q_is
  have lb := Q3.out.l35 6 rfl (n0 w 0)
  go_wp2_with (first
    | (with_reducible show wpList _ _ _ (⟨_, Op.load 30 _, _, _, _, _⟩ :: _) _ _; refine wpList_load_want (by kernel_rfl) 30 _ rfl _ rfl _ (by with_reducible exact la) ?_)
    | (with_reducible show wpList _ _ _ (⟨_, Op.load 35 _, _, _, _, _⟩ :: _) _ _; refine wpList_load_want (by kernel_rfl) 35 _ rfl _ rfl _ (by with_reducible exact lb) ?_))
  refine (valid_any V3 _ _ ⟨zeroA, aMany, 255, false⟩ ⟨135, 0, 0, aNine, zeroA, []⟩ (Q3.out.gl hg) q_is (n0 _ _)).mono ?_
  rintro e V4 ⟨rfl, b3⟩
  rw [show valid ⟨zeroA, aMany, 255, false⟩ ⟨135, 0, 0, aNine, zeroA, []⟩ = true by decide]
  have Q4 := hidd (Q3.out.call b3)
  clear la lb
  have ho4 : Hid (IsOps V4 V4.heap.size (.slice (some ⟨w.heap.size + 1 + 1 + 1 + 1 + 1 + 1 + 1 + 1, 0, none⟩) 1 1) [1]) := (ho3.out.below b3).more b3.size
  have la := Q4.out.l30 5 rfl q_is
  have lb := Q4.out.l35 7 rfl ((n0 V4 V4.heap.size).setOps ho4.out rfl)
  go_wp2_with (first
    | (with_reducible show wpList _ _ _ (⟨_, Op.load 30 _, _, _, _, _⟩ :: _) _ _; refine wpList_load_want (by kernel_rfl) 30 _ rfl _ rfl _ (by with_reducible exact la) ?_)
    | (with_reducible show wpList _ _ _ (⟨_, Op.load 35 _, _, _, _, _⟩ :: _) _ _; refine wpList_load_want (by kernel_rfl) 35 _ rfl _ rfl _ (by with_reducible exact lb) ?_))
  refine (valid_any V4 _ _ ⟨zeroA, aMany, 255, false⟩ ⟨135, 0, 0, aNine, zeroA, [1]⟩ (Q4.out.gl hg) q_is ((n0 V4 V4.heap.size).setOps ho4.out rfl)).mono ?_
  rintro e V5 ⟨rfl, b4⟩
  rw [show valid ⟨zeroA, aMany, 255, false⟩ ⟨135, 0, 0, aNine, zeroA, [1]⟩ = false by decide]
  have Q5 := hidd (Q4.out.call b4)
  clear la lb
  go_wp2
  go_ret
  exact ⟨rfl, Q5.out.bel⟩
end Go.Proofs.YtlckfnfmekgnkaaDoor
