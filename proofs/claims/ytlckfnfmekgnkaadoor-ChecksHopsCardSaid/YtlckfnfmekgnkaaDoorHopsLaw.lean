/- 'ChecksHops': for every input the law returns true; nothing that was there is written. The row lists the table of known addresses. No other condition. -/
import Derived.Test.YtlckfnfmekgnkaaDoorGreat
namespace Go.Proofs.YtlckfnfmekgnkaaDoor
open Go.ChangeShapes Go.WideShapes Go.ChangeAt Go.RowKit Go.Deep
set_option linter.unusedVariables false
set_option linter.unusedSimpArgs false

section
variable {w W : World} {B B' : Nat} {cs : Array Value} {m : Ms}
theorem MsIn.to (h : MsIn w B cs m) (hb : Below B w W) (hB : B ≤ B') : MsIn W B' cs m := by
  obtain ⟨A, n, c, xs, h1, h2⟩ := h.ops
  obtain ⟨A', n', c', xs', h3, h4⟩ := h.recs
  exact ⟨h.is.to hb hB, h.data, h.sources, ⟨A, n, c, xs, h1, ⟨(h2.rd.below hb).more hB, h2.len, h2.at_, h2.room, h2.rng⟩⟩, ⟨A', n', c', xs', h3, ⟨(h4.rd.below hb).more hB, h4.at_⟩⟩⟩
end

def aTwo : List Int := [254, 128] ++ List.replicate 13 0 ++ [2]
def aFar : List Int := [32] ++ List.replicate 14 0 ++ [3]
theorem aTwo_is : IsAddr aTwo := ⟨rfl, by decide⟩
theorem aFar_is : IsAddr aFar := ⟨rfl, by decide⟩
def ownB (m : Ms) : Int := if listensB m then 1 else 255
theorem kinds {m : Ms} (h : knowsB m = true) : m.kind = 130 ∨ m.kind = 143 ∨ m.kind = 133 ∨ m.kind = 134 ∨ m.kind = 135 ∨ m.kind = 136 ∨ m.kind = 137 := by
  simp [knowsB, listensB] at h
  omega
theorem valid_unknown {p : Pk} {m : Ms} (h : knowsB m = false) : valid p m = true := by
  simp [knowsB, listensB] at h
  have : rule m.kind = none := by unfold rule; repeat (rw [if_neg (by omega)])
  simp [valid, this]
theorem valid_known {p : Pk} {m : Ms} (h : knowsB m = true) : ∃ f : Pk → Ms → Bool, valid p m = (p.hops == ownB m && m.code == 0 && f p m) ∧ (listensB m = true → f p m = true → p.alert = true) := by
  obtain ⟨k, c, fl, t, d, ks⟩ := m
  rcases kinds h with h1 | h1 | h1 | h1 | h1 | h1 | h1 <;> (dsimp only at h1; subst h1) <;> refine ⟨_, rfl, fun h2 h3 => ?_⟩
  · simp only [questions, Bool.and_eq_true] at h3; exact h3.2
  · simp only [reports, Bool.and_eq_true] at h3; exact h3.2
  all_goals simp [listensB] at h2
theorem valid_not {p : Pk} {m : Ms} (h : knowsB m = true) (hn : (p.hops == ownB m && m.code == 0) = false) : valid p m = false := by
  obtain ⟨f, h1, _⟩ := valid_known (p := p) h
  rw [h1, hn]; rfl
theorem valid_so {p : Pk} {m : Ms} (h : knowsB m = true) (hv : valid p m = true) : p.hops = ownB m ∧ m.code = 0 ∧ (listensB m = true → p.alert = true) := by
  obtain ⟨f, h1, h2⟩ := valid_known (p := p) h
  rw [h1] at hv
  simp only [Bool.and_eq_true, beq_iff_eq] at hv
  exact ⟨hv.1.1, hv.1.2, fun hl => h2 hl hv.2⟩
theorem valid_plain {d ks : List Int} {m : Ms} (h : knowsB m = true) : valid ⟨a1, d, ownB m, true⟩ ⟨m.kind, 0, 0, aTwo, aFar, ks⟩ = true := by
  obtain ⟨k, c, fl, t, de, ks'⟩ := m
  have e1 : (a1 == zeroA) = false := by decide
  have e2 : isLink a1 = true := by decide
  have e3 : isMany aTwo = false := by decide
  have e4 : isMany aFar = false := by decide
  have e5 : isLink aTwo = true := by decide
  rcases kinds h with h1 | h1 | h1 | h1 | h1 | h1 | h1 <;> (dsimp only at h1; subst h1) <;> simp [valid, rule, ownB, listensB, questions, reports, routes, solicits, asks, answers, redirects, none', e1, e2, e3, e4, e5]

theorem open_z {H : Type} {enc : TypeId × Value → H} {W : World} {r : Reach} {b0 : Nat} {v : Value} {d : DataW H} {p : List MemPlace} (hv : Value.okWide Tryd.prog W r b0 43 v) (h : DataW.Trod enc Tryd.prog W 0 (fun _ => true) true 43 v d p) (hw : Fit Tryd.prog 43 d) :
    ∃ x y, v = .agg #[.int .u8 x, .int .u8 y] ∧ (0 ≤ x ∧ x ≤ 255) ∧ (0 ≤ y ∧ y ≤ 255) := by
  simp only [Value.okWide, Tryd.underlying43] at hv
  obtain ⟨cs, rfl, hs, _⟩ := hv
  obtain ⟨fuel, hf⟩ := h
  obtain ⟨l, hl, hn, hwf⟩ := array_ints Tryd.underlying43 Tryd.underlying5 cells5 (by kernel_rfl) hf
  match l, hn with
  | [x, y], _ =>
    refine ⟨x, y, ?_, by have := bounds_u8 (hwf x (by simp)); omega, by have := bounds_u8 (hwf y (by simp)); omega⟩
    simp only [Value.cells, List.map_cons, List.map_nil] at hl
    congr 1
    exact Array.toList_inj.1 hl

set_option maxRecDepth 100000 in
set_option maxHeartbeats 4000000 in
theorem walkChecksHops (cp : Array Value) (p : Pk) (cm : Array Value) (m : Ms) (z0 z1 : Int) (w : World) (hp : PkIn cp p) (hm : MsIn w w.heap.size cm m) (hz : (0 ≤ z0 ∧ z0 ≤ 255) ∧ (0 ≤ z1 ∧ z1 ≤ 255)) (hg : Gl w) :
    Calls Tryd.prog 4 #[.agg cp, .agg cm, .agg #[.int .u8 z0, .int .u8 z1]] w fun e w' => e = .returned (.bool true) ∧ Below w.heap.size w w' := by
  obtain ⟨⟨z00, z01⟩, z10, z11⟩ := hz
  obtain ⟨A, n, c, hbody⟩ := hp.body
  have hG := hidd hg
  have hP := hidd hp.is
  have hM := hidd hm
  have mm : ∀ V, Below w.heap.size w V → Hid (IsMs V V.heap.size cm m) := fun V hV => hm.is.to hV hV.size
  have K3 : Hid (Kp w (((w.alloc (.cells cp 30)).alloc (.cells cm 35)).alloc (.cells #[.int .u8 z0, .int .u8 z1] 43)) [(w.heap.size, 30, cp), (w.heap.size + 1, 35, cm), (w.heap.size + 1 + 1, 43, #[.int .u8 z0, .int .u8 z1])]) :=
    (((Kp.nil w).new rfl 30 cp).new (by simp) 35 cm).new (by simp) 43 #[.int .u8 z0, .int .u8 z1]
  have c39 := K3.out.cell 0 rfl hbody
  have l0 := hidd (K3.out.l35 1 rfl hM.out.is)
  have mg := hidd (hM.out.to K3.out.bel K3.out.bel.size)
  clear hp hm hg hbody
  go_enter Tryd.func4, Tryd.ntmps4
  by_cases hbig : 6000 < n
  · skip
    go_wp2_with (first
      | fail)
    generalize (((w.alloc (.cells cp 30)).alloc (.cells cm 35)).alloc (.cells #[.int .u8 z0, .int .u8 z1] 43)) = V3 at *
    refine (lives_any _ (K3.out.gl hG.out)).mono ?_
    rintro e V11 ⟨rfl, b11⟩
    have Q11 := hidd (K3.out.call b11)
    clear b11
    go_wp2
    go_ret
    exact ⟨rfl, Q11.out.bel⟩
  · skip
    have hd : decide ((6000 : Int) < (n : Int)) = false := by simp; omega
    go_wp2_with (first
      | (with_reducible show wpList _ _ _ (⟨_, Op.load 35 _, _, _, _, _⟩ :: _) _ _; refine wpList_load_want (by kernel_rfl) 35 _ rfl _ rfl _ (by with_reducible exact l0.out) ?_))
    generalize (((w.alloc (.cells cp 30)).alloc (.cells cm 35)).alloc (.cells #[.int .u8 z0, .int .u8 z1] 43)) = V3 at *
    refine (great_any V3 cm m mg.out).mono ?_
    rintro e V4 ⟨bg, rfl, b4⟩
    have Q4 := hidd (K3.out.call b4)
    clear b4 l0 c39 mg K3
    cases bg
    · skip
      have l0 := hidd (Q4.out.l35 1 rfl hM.out.is)
      go_wp2_with (first
        | (with_reducible show wpList _ _ _ (⟨_, Op.load 35 _, _, _, _, _⟩ :: _) _ _; refine wpList_load_want (by kernel_rfl) 35 _ rfl _ rfl _ (by with_reducible exact l0.out) ?_))
      refine (knows_any V4 _ m hM.out.is).mono ?_
      rintro e V12 ⟨rfl, b12⟩
      have Q12 := hidd (Q4.out.call b12)
      clear b12
      clear l0
      cases hk : knowsB m
      · skip
        have la := hidd (Q12.out.l30 0 rfl hP.out)
        have lb := hidd (Q12.out.l35 1 rfl hM.out.is)
        go_wp2_with (first
          | (with_reducible show wpList _ _ _ (⟨_, Op.load 30 _, _, _, _, _⟩ :: _) _ _; refine wpList_load_want (by kernel_rfl) 30 _ rfl _ rfl _ (by with_reducible exact la.out) ?_)
          | (with_reducible show wpList _ _ _ (⟨_, Op.load 35 _, _, _, _, _⟩ :: _) _ _; refine wpList_load_want (by kernel_rfl) 35 _ rfl _ rfl _ (by with_reducible exact lb.out) ?_))
        refine (valid_any V12 _ _ p m (Q12.out.gl hG.out) hP.out (mm _ Q12.out.bel).out).mono ?_
        rintro e V13 ⟨rfl, b13⟩
        rw [valid_unknown hk]
        have Q13 := hidd (Q12.out.call b13)
        clear b13
        go_wp2_with fail
        refine (lives_any _ (Q13.out.gl hG.out)).mono ?_
        rintro e V14 ⟨rfl, b14⟩
        have Q14 := hidd (Q13.out.call b14)
        clear b14
        go_wp2
        go_ret
        exact ⟨rfl, Q14.out.bel⟩
      · skip
        have l0 := hidd (Q12.out.l35 1 rfl hM.out.is)
        go_wp2_with (first
          | (with_reducible show wpList _ _ _ (⟨_, Op.load 35 _, _, _, _, _⟩ :: _) _ _; refine wpList_load_want (by kernel_rfl) 35 _ rfl _ rfl _ (by with_reducible exact l0.out) ?_))
        refine (listens_any V12 _ m hM.out.is).mono ?_
        rintro e V15 ⟨rfl, b15⟩
        have Q15 := hidd (Q12.out.call b15)
        clear b15
        clear l0
        cases hl : listensB m
        · skip
          have la := hidd (Q15.out.l30 0 rfl hP.out)
          have lb := hidd (Q15.out.l35 1 rfl hM.out.is)
          go_wp2_with (first
            | (with_reducible show wpList _ _ _ (⟨_, Op.load 30 _, _, _, _, _⟩ :: _) _ _; refine wpList_load_want (by kernel_rfl) 30 _ rfl _ rfl _ (by with_reducible exact la.out) ?_)
            | (with_reducible show wpList _ _ _ (⟨_, Op.load 35 _, _, _, _, _⟩ :: _) _ _; refine wpList_load_want (by kernel_rfl) 35 _ rfl _ rfl _ (by with_reducible exact lb.out) ?_))
          refine (valid_any V15 _ _ p m (Q15.out.gl hG.out) hP.out (mm _ Q15.out.bel).out).mono ?_
          rintro e V16 ⟨rfl, b16⟩
          have Q16 := hidd (Q15.out.call b16)
          clear b16
          clear la lb
          cases hv : valid p m
          · skip
            by_cases hz0 : z0 = 255
            · skip
              subst hz0
              by_cases hz1 : z1 = 0
              · skip
                subst hz1
                have la := hidd (Q16.out.l30 0 rfl hP.out)
                obtain ⟨g, Sg⟩ : ∃ g, V16.heap.size = g := ⟨_, rfl⟩
                have flag : True := trivial
                go_wp2_with (first
                  | (with_reducible show wpList _ _ _ (⟨some 77, _, _, _, _, _⟩ :: _) _ _; clear flag
                     clear cy0 cy1 cy0b cz1 cn fn
                     generalize V6.setCell ⟨g + 1, 1, none⟩ (.int .u8 0) = V7 at K7 ⊢
                     have hq0 := hP.out.setHops (v := 255) (by omega) (by omega)
                     have hn0 := hM.out.is.setCode (v := 0) (by omega) (by omega)
                     have i16 := K7.out.cell 3 rfl hq0.hops
                     have j16 := K7.out.frozen 3 rfl 32
                     have K8 := hidd (K7.out.set 3 rfl 32 (.int .u8 255))
                     have hq1 := hq0.setHops (v := 255) (by omega) (by omega)
                     have i17 := K8.out.cell 3 rfl hq1.alert
                     have j17 := K8.out.frozen 3 rfl 33
                     have i17b := K7.out.cell 3 rfl hq0.alert
                     have j17b := K7.out.frozen 3 rfl 33
                     have K9 := hidd (K8.out.set 3 rfl 33 (.bool true))
                     have hq2 := hq1.setAlert true
                     have i18 := K9.out.cell 4 rfl hn0.code
                     have j18 := K9.out.frozen 4 rfl 1
                     have i18b := K7.out.cell 4 rfl hn0.code
                     have j18b := K7.out.frozen 4 rfl 1
                     have K10 := hidd (K9.out.set 4 rfl 1 (.int .u8 0))
                     have hn1 := hn0.setCode (v := 0) (by omega) (by omega)
                     have t19 := hidd (K10.out.there 3 rfl (o := 0) (n := a1.length) (by rw [hq2.size, a1_is.len]; omega))
                     have hq3 := hidd (hq2.setSrc a1_is)
                     have K11 := hidd (K10.out.over 3 rfl 0 (a1.map (Value.int .u8)))
                     have hn1' := hidd hn1
                     clear hq0 hq1 hq2 hn0)
                  | (with_reducible show wpList _ _ _ (⟨_, Op.load 30 _, _, _, _, _⟩ :: _) _ _; refine wpList_load_want (by kernel_rfl) 30 _ rfl _ rfl _ (by with_reducible exact la.out) ?_)
                  | (with_reducible show wpList _ _ _ (⟨_, Op.store 30 (Operand.tmp 8) _, _, _, _, _⟩ :: _) _ _; refine wpList_store_new rfl rfl 30 (.tmp 8) _ rfl _ _ cp rfl Sg.symm rfl (size_pk hP.out) (Eq.trans (b := 40) (by kernel_rfl) hP.out.size.symm) hP.out.ones ?_
                     have K4 := hidd (Q16.out.new Sg 30 cp)
                     have S4 := size_new Sg (.cells cp 30)
                     generalize V16.alloc (.cells cp 30) = V4 at K4 S4 ⊢
                     have cz := K4.out.cell 2 rfl (i := 0) (v := .int .u8 255) rfl
                     have cq := K4.out.cell 3 rfl hP.out.hops
                     have fq := K4.out.frozen 3 rfl 32
                     have K5 := hidd (K4.out.set 3 rfl 32 (.int .u8 255))
                     have S5 := size_set S4 ⟨g, 32, none⟩ (.int .u8 255)
                     have lb := hidd (K5.out.l35 1 rfl hM.out.is))
                  | (with_reducible show wpList _ _ _ (⟨_, Op.load 35 _, _, _, _, _⟩ :: _) _ _; refine wpList_load_want (by kernel_rfl) 35 _ rfl _ rfl _ (by with_reducible exact lb.out) ?_)
                  | (with_reducible show wpList _ _ _ (⟨_, Op.store 35 (Operand.tmp 9) _, _, _, _, _⟩ :: _) _ _; refine wpList_store_new rfl rfl 35 (.tmp 9) _ rfl _ _ cm rfl S5.symm rfl (size_ms hM.out.is) (Eq.trans (b := 63) (by kernel_rfl) hM.out.is.size.symm) hM.out.is.ones ?_
                     have K6 := hidd (K5.out.new S5 35 cm)
                     have S6 := size_new S5 (.cells cm 35)
                     generalize (V4.setCell ⟨g, 32, none⟩ (.int .u8 255)).alloc (.cells cm 35) = V6 at K6 S6 ⊢
                     have cz1 := K6.out.cell 2 rfl (i := 1) (v := .int .u8 0) rfl
                     have cn := K6.out.cell 4 rfl hM.out.is.code
                     have fn := K6.out.frozen 4 rfl 1
                     have K7 := hidd (K6.out.set 4 rfl 1 (.int .u8 0))
                     have cy0 := K7.out.cell 2 rfl (i := 0) (v := .int .u8 255) rfl
                     have cy1 := K7.out.cell 2 rfl (i := 1) (v := .int .u8 0) rfl
                     have cy0b := K6.out.cell 2 rfl (i := 0) (v := .int .u8 255) rfl
                     clear la lb K4 S4 cz cq fq S5)
                  | (with_reducible show wpList _ _ _ (⟨_, Op.build 23 #[(0, Operand.const (Value.int IntKind.u8 254)), (1, Operand.const (Value.int IntKind.u8 128)), (15, Operand.const (Value.int IntKind.u8 1))], _, _, _, _⟩ :: _) _ _; refine wpList_build_want rfl 23 #[(0, .const (.int .u8 254)), (1, .const (.int .u8 128)), (15, .const (.int .u8 1))] rfl (bytesV a1) (by kernel_rfl) ?_)
                  | (with_reducible show wpList _ _ _ (⟨_, Op.build 23 #[(0, Operand.const (Value.int IntKind.u8 254)), (1, Operand.const (Value.int IntKind.u8 128)), (15, Operand.const (Value.int IntKind.u8 2))], _, _, _, _⟩ :: _) _ _; refine wpList_build_want rfl 23 #[(0, .const (.int .u8 254)), (1, .const (.int .u8 128)), (15, .const (.int .u8 2))] rfl (bytesV aTwo) (by kernel_rfl) ?_)
                  | (with_reducible show wpList _ _ _ (⟨_, Op.build 23 #[(0, Operand.const (Value.int IntKind.u8 32)), (15, Operand.const (Value.int IntKind.u8 3))], _, _, _, _⟩ :: _) _ _; refine wpList_build_want rfl 23 #[(0, .const (.int .u8 32)), (15, .const (.int .u8 3))] rfl (bytesV aFar) (by kernel_rfl) ?_)
                  | (with_reducible show wpList _ _ _ (⟨_, Op.store 23 (Operand.tmp 81) _, _, _, _, _⟩ :: _) _ _; refine wpList_store_bytes rfl rfl 23 (.tmp 81) _ rfl _ _ a1 rfl rfl t19.out (info23' a1_is) ?_
                     generalize (((V7.setCell ⟨g, 32, none⟩ (.int .u8 255)).setCell ⟨g, 33, none⟩ (.bool true)).setCell ⟨g + 1, 1, none⟩ (.int .u8 0)).setCells g 0 (a1.map (Value.int .u8)) = V11 at K11 ⊢
                     obtain ⟨h, Sh⟩ : ∃ h, V11.heap.size = h := ⟨_, rfl⟩
                     obtain ⟨cq, cn, K11a, hq, hn, hmm⟩ : ∃ (cq cn : Array Value), Hid (Kp w V11 [(w.heap.size, 30, cp), (w.heap.size + 1, 35, cm), (w.heap.size + 1 + 1, 43, #[.int .u8 255, .int .u8 0]), (g, 30, cq), (g + 1, 35, cn)]) ∧ Hid (IsPk cq ⟨a1, p.dst, 255, true⟩) ∧ Hid (IsMs w w.heap.size cn { m with code := 0 }) ∧ (∀ V, Below w.heap.size w V → Hid (IsMs V V.heap.size cn { m with code := 0 })) :=
                       ⟨_, _, K11, hq3, hn1', fun V hV => ((mm V hV).out.setCode (v := 0) (by omega) (by omega)).setCode (v := 0) (by omega) (by omega)⟩
                     clear K11 hq3 hn1'
                     have l20 := hidd (K11a.out.l35 4 rfl hn.out))
                  | (with_reducible show wpList _ _ _ (⟨_, Op.load 35 _, _, _, _, _⟩ :: _) _ _; refine wpList_load_want (by kernel_rfl) 35 _ rfl _ rfl _ (by with_reducible exact l20.out) ?_)
                  | (with_reducible show wpList _ _ _ (⟨_, Op.store 35 (Operand.tmp 10) _, _, _, _, _⟩ :: _) _ _; refine wpList_store_new rfl rfl 35 (.tmp 10) _ rfl _ _ cn rfl Sh.symm rfl (size_ms hn.out) (Eq.trans (b := 63) (by kernel_rfl) hn.out.size.symm) hn.out.ones ?_
                     have K12 := hidd (K11a.out.new Sh 35 cn)
                     generalize V11.alloc (.cells cn 35) = V12 at K12 ⊢
                     have t21 := hidd (K12.out.there 5 rfl (o := 9) (n := aTwo.length) (by rw [hn.out.size, aTwo_is.len]; omega))
                     have hn2 := hidd (hn.out.setTarget aTwo_is)
                     have K13 := hidd (K12.out.over 5 rfl 9 (aTwo.map (Value.int .u8)))
                     have t22 := hidd (K13.out.there 5 rfl (o := 25) (n := aFar.length) (by rw [hn2.out.size, aFar_is.len]; omega))
                     have hn3 := hidd (hn2.out.setDest aFar_is)
                     have K14 := hidd (K13.out.over 5 rfl 25 (aFar.map (Value.int .u8)))
                     have i23 := K14.out.cell 5 rfl hn3.out.flags
                     have j23 := K14.out.frozen 5 rfl 5
                     have hn4 := hidd (hn3.out.setFlags (v := 0) (by omega) (by omega))
                     have K15 := hidd (K14.out.set 5 rfl 5 (.int .u8 0))
                     have l24 := hidd (K15.out.l30 3 rfl hq.out)
                     have l25 := hidd (K15.out.l35 5 rfl hn4.out))
                  | (with_reducible show wpList _ _ _ (⟨_, Op.store 23 (Operand.tmp 84) _, _, _, _, _⟩ :: _) _ _; refine wpList_store_bytes rfl rfl 23 (.tmp 84) _ rfl _ _ aTwo rfl rfl t21.out (info23' aTwo_is) ?_)
                  | (with_reducible show wpList _ _ _ (⟨_, Op.store 23 (Operand.tmp 86) _, _, _, _, _⟩ :: _) _ _; refine wpList_store_bytes rfl rfl 23 (.tmp 86) _ rfl _ _ aFar rfl rfl t22.out (info23' aFar_is) ?_)
                  | (with_reducible show wpList _ _ _ (⟨_, Op.load 30 _, _, _, _, _⟩ :: _) _ _; refine wpList_load_want (by kernel_rfl) 30 _ rfl _ rfl _ (by with_reducible exact l24.out) ?_)
                  | (with_reducible show wpList _ _ _ (⟨_, Op.load 35 _, _, _, _, _⟩ :: _) _ _; refine wpList_load_want (by kernel_rfl) 35 _ rfl _ rfl _ (by with_reducible exact l25.out) ?_))
                refine (valid_any _ _ _ ⟨a1, p.dst, 255, true⟩ ⟨m.kind, 0, 0, aTwo, aFar, m.ks⟩ (K15.out.gl hG.out) hq.out ((((hmm _ K15.out.bel).out.setTarget aTwo_is).setDest aFar_is).setFlags (v := 0) (by omega) (by omega))).mono ?_
                rintro e V40 ⟨rfl, b40⟩
                rw [show valid ⟨a1, p.dst, 255, true⟩ ⟨m.kind, 0, 0, aTwo, aFar, m.ks⟩ = true by
                  have := valid_plain (d := p.dst) (ks := m.ks) hk
                  rwa [show ownB m = 255 by simp [ownB, hl]] at this]
                have Q40 := hidd (K15.out.call b40)
                clear l24 l25
                go_wp2_with fail
                refine (lives_any _ (Q40.out.gl hG.out)).mono ?_
                rintro e V17 ⟨rfl, b17⟩
                have Q17 := hidd (Q40.out.call b17)
                clear b17
                go_wp2
                go_ret
                exact ⟨rfl, Q17.out.bel⟩
              · skip
                have hz1b : (z1 != 0) = true := by simpa using hz1
                have la := hidd (Q16.out.l30 0 rfl hP.out)
                obtain ⟨g, Sg⟩ : ∃ g, V16.heap.size = g := ⟨_, rfl⟩
                go_wp2_with (first
                  | (with_reducible show wpList _ _ _ (⟨_, Op.load 30 _, _, _, _, _⟩ :: _) _ _; refine wpList_load_want (by kernel_rfl) 30 _ rfl _ rfl _ (by with_reducible exact la.out) ?_)
                  | (with_reducible show wpList _ _ _ (⟨_, Op.store 30 (Operand.tmp 8) _, _, _, _, _⟩ :: _) _ _; refine wpList_store_new rfl rfl 30 (.tmp 8) _ rfl _ _ cp rfl Sg.symm rfl (size_pk hP.out) (Eq.trans (b := 40) (by kernel_rfl) hP.out.size.symm) hP.out.ones ?_
                     have K4 := hidd (Q16.out.new Sg 30 cp)
                     have S4 := size_new Sg (.cells cp 30)
                     generalize V16.alloc (.cells cp 30) = V4 at K4 S4 ⊢
                     have cz := K4.out.cell 2 rfl (i := 0) (v := .int .u8 255) rfl
                     have cq := K4.out.cell 3 rfl hP.out.hops
                     have fq := K4.out.frozen 3 rfl 32
                     have K5 := hidd (K4.out.set 3 rfl 32 (.int .u8 255))
                     have S5 := size_set S4 ⟨g, 32, none⟩ (.int .u8 255)
                     have lb := hidd (K5.out.l35 1 rfl hM.out.is))
                  | (with_reducible show wpList _ _ _ (⟨_, Op.load 35 _, _, _, _, _⟩ :: _) _ _; refine wpList_load_want (by kernel_rfl) 35 _ rfl _ rfl _ (by with_reducible exact lb.out) ?_)
                  | (with_reducible show wpList _ _ _ (⟨_, Op.store 35 (Operand.tmp 9) _, _, _, _, _⟩ :: _) _ _; refine wpList_store_new rfl rfl 35 (.tmp 9) _ rfl _ _ cm rfl S5.symm rfl (size_ms hM.out.is) (Eq.trans (b := 63) (by kernel_rfl) hM.out.is.size.symm) hM.out.is.ones ?_
                     have K6 := hidd (K5.out.new S5 35 cm)
                     have S6 := size_new S5 (.cells cm 35)
                     generalize (V4.setCell ⟨g, 32, none⟩ (.int .u8 255)).alloc (.cells cm 35) = V6 at K6 S6 ⊢
                     have cz1 := K6.out.cell 2 rfl (i := 1) (v := .int .u8 z1) rfl
                     have cn := K6.out.cell 4 rfl hM.out.is.code
                     have fn := K6.out.frozen 4 rfl 1
                     have K7 := hidd (K6.out.set 4 rfl 1 (.int .u8 z1))
                     have cy0 := K7.out.cell 2 rfl (i := 0) (v := .int .u8 255) rfl
                     have cy1 := K7.out.cell 2 rfl (i := 1) (v := .int .u8 z1) rfl
                     have cy0b := K6.out.cell 2 rfl (i := 0) (v := .int .u8 255) rfl
                     clear la lb K4 S4 cz cq fq S5
                     have lc := hidd (K7.out.l30 3 rfl (hP.out.setHops (v := 255) (by omega) (by omega)))
                     have ld := hidd (K7.out.l35 4 rfl (hM.out.is.setCode (v := z1) (by omega) (by omega))))
                  | (with_reducible show wpList _ _ _ (⟨_, Op.load 30 _, _, _, _, _⟩ :: _) _ _; refine wpList_load_want (by kernel_rfl) 30 _ rfl _ rfl _ (by with_reducible exact lc.out) ?_)
                  | (with_reducible show wpList _ _ _ (⟨_, Op.load 35 _, _, _, _, _⟩ :: _) _ _; refine wpList_load_want (by kernel_rfl) 35 _ rfl _ rfl _ (by with_reducible exact ld.out) ?_))
                refine (valid_any _ _ _ { p with hops := 255 } { m with code := z1 } (K7.out.gl hG.out) (hP.out.setHops (by omega) (by omega)) ((mm _ K7.out.bel).out.setCode (by omega) (by omega))).mono ?_
                rintro e V30 ⟨rfl, b30⟩
                rw [show valid { p with hops := 255 } { m with code := z1 } = false by
                  refine valid_not (m := { m with code := z1 }) hk ?_
                  show (255 == ownB m && z1 == 0) = false
                  rw [show ownB m = 255 by simp [ownB, hl]]
                  simp [hz1]]
                have Q30 := hidd (K7.out.call b30)
                clear lc ld cy0 cy1 cy0b cz1 cn fn b30
                have flag : True := trivial
                go_wp2_with (first
                  | (with_reducible show wpList _ _ _ (⟨some 77, _, _, _, _, _⟩ :: _) _ _; clear flag
                     have hq0 := hP.out.setHops (v := 255) (by omega) (by omega)
                     have hn0 := hM.out.is.setCode (v := z1) (by omega) (by omega)
                     have i16 := Q30.out.cell 3 rfl hq0.hops
                     have j16 := Q30.out.frozen 3 rfl 32
                     have K8 := hidd (Q30.out.set 3 rfl 32 (.int .u8 255))
                     have hq1 := hq0.setHops (v := 255) (by omega) (by omega)
                     have i17 := K8.out.cell 3 rfl hq1.alert
                     have j17 := K8.out.frozen 3 rfl 33
                     have i17b := Q30.out.cell 3 rfl hq0.alert
                     have j17b := Q30.out.frozen 3 rfl 33
                     have K9 := hidd (K8.out.set 3 rfl 33 (.bool true))
                     have hq2 := hq1.setAlert true
                     have i18 := K9.out.cell 4 rfl hn0.code
                     have j18 := K9.out.frozen 4 rfl 1
                     have i18b := Q30.out.cell 4 rfl hn0.code
                     have j18b := Q30.out.frozen 4 rfl 1
                     have K10 := hidd (K9.out.set 4 rfl 1 (.int .u8 0))
                     have hn1 := hn0.setCode (v := 0) (by omega) (by omega)
                     have t19 := hidd (K10.out.there 3 rfl (o := 0) (n := a1.length) (by rw [hq2.size, a1_is.len]; omega))
                     have hq3 := hidd (hq2.setSrc a1_is)
                     have K11 := hidd (K10.out.over 3 rfl 0 (a1.map (Value.int .u8)))
                     have hn1' := hidd hn1
                     clear hq0 hq1 hq2 hn0)
                  | (with_reducible show wpList _ _ _ (⟨_, Op.build 23 #[(0, Operand.const (Value.int IntKind.u8 254)), (1, Operand.const (Value.int IntKind.u8 128)), (15, Operand.const (Value.int IntKind.u8 1))], _, _, _, _⟩ :: _) _ _; refine wpList_build_want rfl 23 #[(0, .const (.int .u8 254)), (1, .const (.int .u8 128)), (15, .const (.int .u8 1))] rfl (bytesV a1) (by kernel_rfl) ?_)
                  | (with_reducible show wpList _ _ _ (⟨_, Op.build 23 #[(0, Operand.const (Value.int IntKind.u8 254)), (1, Operand.const (Value.int IntKind.u8 128)), (15, Operand.const (Value.int IntKind.u8 2))], _, _, _, _⟩ :: _) _ _; refine wpList_build_want rfl 23 #[(0, .const (.int .u8 254)), (1, .const (.int .u8 128)), (15, .const (.int .u8 2))] rfl (bytesV aTwo) (by kernel_rfl) ?_)
                  | (with_reducible show wpList _ _ _ (⟨_, Op.build 23 #[(0, Operand.const (Value.int IntKind.u8 32)), (15, Operand.const (Value.int IntKind.u8 3))], _, _, _, _⟩ :: _) _ _; refine wpList_build_want rfl 23 #[(0, .const (.int .u8 32)), (15, .const (.int .u8 3))] rfl (bytesV aFar) (by kernel_rfl) ?_)
                  | (with_reducible show wpList _ _ _ (⟨_, Op.store 23 (Operand.tmp 81) _, _, _, _, _⟩ :: _) _ _; refine wpList_store_bytes rfl rfl 23 (.tmp 81) _ rfl _ _ a1 rfl rfl t19.out (info23' a1_is) ?_
                     generalize (((V30.setCell ⟨g, 32, none⟩ (.int .u8 255)).setCell ⟨g, 33, none⟩ (.bool true)).setCell ⟨g + 1, 1, none⟩ (.int .u8 0)).setCells g 0 (a1.map (Value.int .u8)) = V11 at K11 ⊢
                     obtain ⟨h, Sh⟩ : ∃ h, V11.heap.size = h := ⟨_, rfl⟩
                     obtain ⟨cq, cn, K11a, hq, hn, hmm⟩ : ∃ (cq cn : Array Value), Hid (Kp w V11 [(w.heap.size, 30, cp), (w.heap.size + 1, 35, cm), (w.heap.size + 1 + 1, 43, #[.int .u8 255, .int .u8 z1]), (g, 30, cq), (g + 1, 35, cn)]) ∧ Hid (IsPk cq ⟨a1, p.dst, 255, true⟩) ∧ Hid (IsMs w w.heap.size cn { m with code := 0 }) ∧ (∀ V, Below w.heap.size w V → Hid (IsMs V V.heap.size cn { m with code := 0 })) :=
                       ⟨_, _, K11, hq3, hn1', fun V hV => ((mm V hV).out.setCode (v := z1) (by omega) (by omega)).setCode (v := 0) (by omega) (by omega)⟩
                     clear K11 hq3 hn1'
                     have l20 := hidd (K11a.out.l35 4 rfl hn.out))
                  | (with_reducible show wpList _ _ _ (⟨_, Op.load 35 _, _, _, _, _⟩ :: _) _ _; refine wpList_load_want (by kernel_rfl) 35 _ rfl _ rfl _ (by with_reducible exact l20.out) ?_)
                  | (with_reducible show wpList _ _ _ (⟨_, Op.store 35 (Operand.tmp 10) _, _, _, _, _⟩ :: _) _ _; refine wpList_store_new rfl rfl 35 (.tmp 10) _ rfl _ _ cn rfl Sh.symm rfl (size_ms hn.out) (Eq.trans (b := 63) (by kernel_rfl) hn.out.size.symm) hn.out.ones ?_
                     have K12 := hidd (K11a.out.new Sh 35 cn)
                     generalize V11.alloc (.cells cn 35) = V12 at K12 ⊢
                     have t21 := hidd (K12.out.there 5 rfl (o := 9) (n := aTwo.length) (by rw [hn.out.size, aTwo_is.len]; omega))
                     have hn2 := hidd (hn.out.setTarget aTwo_is)
                     have K13 := hidd (K12.out.over 5 rfl 9 (aTwo.map (Value.int .u8)))
                     have t22 := hidd (K13.out.there 5 rfl (o := 25) (n := aFar.length) (by rw [hn2.out.size, aFar_is.len]; omega))
                     have hn3 := hidd (hn2.out.setDest aFar_is)
                     have K14 := hidd (K13.out.over 5 rfl 25 (aFar.map (Value.int .u8)))
                     have i23 := K14.out.cell 5 rfl hn3.out.flags
                     have j23 := K14.out.frozen 5 rfl 5
                     have hn4 := hidd (hn3.out.setFlags (v := 0) (by omega) (by omega))
                     have K15 := hidd (K14.out.set 5 rfl 5 (.int .u8 0))
                     have l24 := hidd (K15.out.l30 3 rfl hq.out)
                     have l25 := hidd (K15.out.l35 5 rfl hn4.out))
                  | (with_reducible show wpList _ _ _ (⟨_, Op.store 23 (Operand.tmp 84) _, _, _, _, _⟩ :: _) _ _; refine wpList_store_bytes rfl rfl 23 (.tmp 84) _ rfl _ _ aTwo rfl rfl t21.out (info23' aTwo_is) ?_)
                  | (with_reducible show wpList _ _ _ (⟨_, Op.store 23 (Operand.tmp 86) _, _, _, _, _⟩ :: _) _ _; refine wpList_store_bytes rfl rfl 23 (.tmp 86) _ rfl _ _ aFar rfl rfl t22.out (info23' aFar_is) ?_)
                  | (with_reducible show wpList _ _ _ (⟨_, Op.load 30 _, _, _, _, _⟩ :: _) _ _; refine wpList_load_want (by kernel_rfl) 30 _ rfl _ rfl _ (by with_reducible exact l24.out) ?_)
                  | (with_reducible show wpList _ _ _ (⟨_, Op.load 35 _, _, _, _, _⟩ :: _) _ _; refine wpList_load_want (by kernel_rfl) 35 _ rfl _ rfl _ (by with_reducible exact l25.out) ?_))
                refine (valid_any _ _ _ ⟨a1, p.dst, 255, true⟩ ⟨m.kind, 0, 0, aTwo, aFar, m.ks⟩ (K15.out.gl hG.out) hq.out ((((hmm _ K15.out.bel).out.setTarget aTwo_is).setDest aFar_is).setFlags (v := 0) (by omega) (by omega))).mono ?_
                rintro e V40 ⟨rfl, b40⟩
                rw [show valid ⟨a1, p.dst, 255, true⟩ ⟨m.kind, 0, 0, aTwo, aFar, m.ks⟩ = true by
                  have := valid_plain (d := p.dst) (ks := m.ks) hk
                  rwa [show ownB m = 255 by simp [ownB, hl]] at this]
                have Q40 := hidd (K15.out.call b40)
                clear l24 l25
                go_wp2_with fail
                refine (lives_any _ (Q40.out.gl hG.out)).mono ?_
                rintro e V18 ⟨rfl, b18⟩
                have Q18 := hidd (Q40.out.call b18)
                clear b18
                go_wp2
                go_ret
                exact ⟨rfl, Q18.out.bel⟩
            · skip
              have hz0b : (z0 != 255) = true := by simpa using hz0
              have la := hidd (Q16.out.l30 0 rfl hP.out)
              obtain ⟨g, Sg⟩ : ∃ g, V16.heap.size = g := ⟨_, rfl⟩
              go_wp2_with (first
                | (with_reducible show wpList _ _ _ (⟨_, Op.load 30 _, _, _, _, _⟩ :: _) _ _; refine wpList_load_want (by kernel_rfl) 30 _ rfl _ rfl _ (by with_reducible exact la.out) ?_)
                | (with_reducible show wpList _ _ _ (⟨_, Op.store 30 (Operand.tmp 8) _, _, _, _, _⟩ :: _) _ _; refine wpList_store_new rfl rfl 30 (.tmp 8) _ rfl _ _ cp rfl Sg.symm rfl (size_pk hP.out) (Eq.trans (b := 40) (by kernel_rfl) hP.out.size.symm) hP.out.ones ?_
                   have K4 := hidd (Q16.out.new Sg 30 cp)
                   have S4 := size_new Sg (.cells cp 30)
                   generalize V16.alloc (.cells cp 30) = V4 at K4 S4 ⊢
                   have cz := K4.out.cell 2 rfl (i := 0) (v := .int .u8 z0) rfl
                   have cq := K4.out.cell 3 rfl hP.out.hops
                   have fq := K4.out.frozen 3 rfl 32
                   have K5 := hidd (K4.out.set 3 rfl 32 (.int .u8 z0))
                   have S5 := size_set S4 ⟨g, 32, none⟩ (.int .u8 z0)
                   have lb := hidd (K5.out.l35 1 rfl hM.out.is))
                | (with_reducible show wpList _ _ _ (⟨_, Op.load 35 _, _, _, _, _⟩ :: _) _ _; refine wpList_load_want (by kernel_rfl) 35 _ rfl _ rfl _ (by with_reducible exact lb.out) ?_)
                | (with_reducible show wpList _ _ _ (⟨_, Op.store 35 (Operand.tmp 9) _, _, _, _, _⟩ :: _) _ _; refine wpList_store_new rfl rfl 35 (.tmp 9) _ rfl _ _ cm rfl S5.symm rfl (size_ms hM.out.is) (Eq.trans (b := 63) (by kernel_rfl) hM.out.is.size.symm) hM.out.is.ones ?_
                   have K6 := hidd (K5.out.new S5 35 cm)
                   have S6 := size_new S5 (.cells cm 35)
                   generalize (V4.setCell ⟨g, 32, none⟩ (.int .u8 z0)).alloc (.cells cm 35) = V6 at K6 S6 ⊢
                   have cz1 := K6.out.cell 2 rfl (i := 1) (v := .int .u8 z1) rfl
                   have cn := K6.out.cell 4 rfl hM.out.is.code
                   have fn := K6.out.frozen 4 rfl 1
                   have K7 := hidd (K6.out.set 4 rfl 1 (.int .u8 z1))
                   have cy0 := K7.out.cell 2 rfl (i := 0) (v := .int .u8 z0) rfl
                   have cy1 := K7.out.cell 2 rfl (i := 1) (v := .int .u8 z1) rfl
                   have cy0b := K6.out.cell 2 rfl (i := 0) (v := .int .u8 z0) rfl
                   clear la lb K4 S4 cz cq fq S5
                   have lc := hidd (K7.out.l30 3 rfl (hP.out.setHops (v := z0) (by omega) (by omega)))
                   have ld := hidd (K7.out.l35 4 rfl (hM.out.is.setCode (v := z1) (by omega) (by omega))))
                | (with_reducible show wpList _ _ _ (⟨_, Op.load 30 _, _, _, _, _⟩ :: _) _ _; refine wpList_load_want (by kernel_rfl) 30 _ rfl _ rfl _ (by with_reducible exact lc.out) ?_)
                | (with_reducible show wpList _ _ _ (⟨_, Op.load 35 _, _, _, _, _⟩ :: _) _ _; refine wpList_load_want (by kernel_rfl) 35 _ rfl _ rfl _ (by with_reducible exact ld.out) ?_))
              refine (valid_any _ _ _ { p with hops := z0 } { m with code := z1 } (K7.out.gl hG.out) (hP.out.setHops (by omega) (by omega)) ((mm _ K7.out.bel).out.setCode (by omega) (by omega))).mono ?_
              rintro e V30 ⟨rfl, b30⟩
              rw [show valid { p with hops := z0 } { m with code := z1 } = false by
                refine valid_not (m := { m with code := z1 }) hk ?_
                show (z0 == ownB m && z1 == 0) = false
                rw [show ownB m = 255 by simp [ownB, hl]]
                simp [hz0]]
              have Q30 := hidd (K7.out.call b30)
              clear lc ld cy0 cy1 cy0b cz1 cn fn b30
              have flag : True := trivial
              go_wp2_with (first
                | (with_reducible show wpList _ _ _ (⟨some 77, _, _, _, _, _⟩ :: _) _ _; clear flag
                   have hq0 := hP.out.setHops (v := z0) (by omega) (by omega)
                   have hn0 := hM.out.is.setCode (v := z1) (by omega) (by omega)
                   have i16 := Q30.out.cell 3 rfl hq0.hops
                   have j16 := Q30.out.frozen 3 rfl 32
                   have K8 := hidd (Q30.out.set 3 rfl 32 (.int .u8 255))
                   have hq1 := hq0.setHops (v := 255) (by omega) (by omega)
                   have i17 := K8.out.cell 3 rfl hq1.alert
                   have j17 := K8.out.frozen 3 rfl 33
                   have i17b := Q30.out.cell 3 rfl hq0.alert
                   have j17b := Q30.out.frozen 3 rfl 33
                   have K9 := hidd (K8.out.set 3 rfl 33 (.bool true))
                   have hq2 := hq1.setAlert true
                   have i18 := K9.out.cell 4 rfl hn0.code
                   have j18 := K9.out.frozen 4 rfl 1
                   have i18b := Q30.out.cell 4 rfl hn0.code
                   have j18b := Q30.out.frozen 4 rfl 1
                   have K10 := hidd (K9.out.set 4 rfl 1 (.int .u8 0))
                   have hn1 := hn0.setCode (v := 0) (by omega) (by omega)
                   have t19 := hidd (K10.out.there 3 rfl (o := 0) (n := a1.length) (by rw [hq2.size, a1_is.len]; omega))
                   have hq3 := hidd (hq2.setSrc a1_is)
                   have K11 := hidd (K10.out.over 3 rfl 0 (a1.map (Value.int .u8)))
                   have hn1' := hidd hn1
                   clear hq0 hq1 hq2 hn0)
                | (with_reducible show wpList _ _ _ (⟨_, Op.build 23 #[(0, Operand.const (Value.int IntKind.u8 254)), (1, Operand.const (Value.int IntKind.u8 128)), (15, Operand.const (Value.int IntKind.u8 1))], _, _, _, _⟩ :: _) _ _; refine wpList_build_want rfl 23 #[(0, .const (.int .u8 254)), (1, .const (.int .u8 128)), (15, .const (.int .u8 1))] rfl (bytesV a1) (by kernel_rfl) ?_)
                | (with_reducible show wpList _ _ _ (⟨_, Op.build 23 #[(0, Operand.const (Value.int IntKind.u8 254)), (1, Operand.const (Value.int IntKind.u8 128)), (15, Operand.const (Value.int IntKind.u8 2))], _, _, _, _⟩ :: _) _ _; refine wpList_build_want rfl 23 #[(0, .const (.int .u8 254)), (1, .const (.int .u8 128)), (15, .const (.int .u8 2))] rfl (bytesV aTwo) (by kernel_rfl) ?_)
                | (with_reducible show wpList _ _ _ (⟨_, Op.build 23 #[(0, Operand.const (Value.int IntKind.u8 32)), (15, Operand.const (Value.int IntKind.u8 3))], _, _, _, _⟩ :: _) _ _; refine wpList_build_want rfl 23 #[(0, .const (.int .u8 32)), (15, .const (.int .u8 3))] rfl (bytesV aFar) (by kernel_rfl) ?_)
                | (with_reducible show wpList _ _ _ (⟨_, Op.store 23 (Operand.tmp 81) _, _, _, _, _⟩ :: _) _ _; refine wpList_store_bytes rfl rfl 23 (.tmp 81) _ rfl _ _ a1 rfl rfl t19.out (info23' a1_is) ?_
                   generalize (((V30.setCell ⟨g, 32, none⟩ (.int .u8 255)).setCell ⟨g, 33, none⟩ (.bool true)).setCell ⟨g + 1, 1, none⟩ (.int .u8 0)).setCells g 0 (a1.map (Value.int .u8)) = V11 at K11 ⊢
                   obtain ⟨h, Sh⟩ : ∃ h, V11.heap.size = h := ⟨_, rfl⟩
                   obtain ⟨cq, cn, K11a, hq, hn, hmm⟩ : ∃ (cq cn : Array Value), Hid (Kp w V11 [(w.heap.size, 30, cp), (w.heap.size + 1, 35, cm), (w.heap.size + 1 + 1, 43, #[.int .u8 z0, .int .u8 z1]), (g, 30, cq), (g + 1, 35, cn)]) ∧ Hid (IsPk cq ⟨a1, p.dst, 255, true⟩) ∧ Hid (IsMs w w.heap.size cn { m with code := 0 }) ∧ (∀ V, Below w.heap.size w V → Hid (IsMs V V.heap.size cn { m with code := 0 })) :=
                     ⟨_, _, K11, hq3, hn1', fun V hV => ((mm V hV).out.setCode (v := z1) (by omega) (by omega)).setCode (v := 0) (by omega) (by omega)⟩
                   clear K11 hq3 hn1'
                   have l20 := hidd (K11a.out.l35 4 rfl hn.out))
                | (with_reducible show wpList _ _ _ (⟨_, Op.load 35 _, _, _, _, _⟩ :: _) _ _; refine wpList_load_want (by kernel_rfl) 35 _ rfl _ rfl _ (by with_reducible exact l20.out) ?_)
                | (with_reducible show wpList _ _ _ (⟨_, Op.store 35 (Operand.tmp 10) _, _, _, _, _⟩ :: _) _ _; refine wpList_store_new rfl rfl 35 (.tmp 10) _ rfl _ _ cn rfl Sh.symm rfl (size_ms hn.out) (Eq.trans (b := 63) (by kernel_rfl) hn.out.size.symm) hn.out.ones ?_
                   have K12 := hidd (K11a.out.new Sh 35 cn)
                   generalize V11.alloc (.cells cn 35) = V12 at K12 ⊢
                   have t21 := hidd (K12.out.there 5 rfl (o := 9) (n := aTwo.length) (by rw [hn.out.size, aTwo_is.len]; omega))
                   have hn2 := hidd (hn.out.setTarget aTwo_is)
                   have K13 := hidd (K12.out.over 5 rfl 9 (aTwo.map (Value.int .u8)))
                   have t22 := hidd (K13.out.there 5 rfl (o := 25) (n := aFar.length) (by rw [hn2.out.size, aFar_is.len]; omega))
                   have hn3 := hidd (hn2.out.setDest aFar_is)
                   have K14 := hidd (K13.out.over 5 rfl 25 (aFar.map (Value.int .u8)))
                   have i23 := K14.out.cell 5 rfl hn3.out.flags
                   have j23 := K14.out.frozen 5 rfl 5
                   have hn4 := hidd (hn3.out.setFlags (v := 0) (by omega) (by omega))
                   have K15 := hidd (K14.out.set 5 rfl 5 (.int .u8 0))
                   have l24 := hidd (K15.out.l30 3 rfl hq.out)
                   have l25 := hidd (K15.out.l35 5 rfl hn4.out))
                | (with_reducible show wpList _ _ _ (⟨_, Op.store 23 (Operand.tmp 84) _, _, _, _, _⟩ :: _) _ _; refine wpList_store_bytes rfl rfl 23 (.tmp 84) _ rfl _ _ aTwo rfl rfl t21.out (info23' aTwo_is) ?_)
                | (with_reducible show wpList _ _ _ (⟨_, Op.store 23 (Operand.tmp 86) _, _, _, _, _⟩ :: _) _ _; refine wpList_store_bytes rfl rfl 23 (.tmp 86) _ rfl _ _ aFar rfl rfl t22.out (info23' aFar_is) ?_)
                | (with_reducible show wpList _ _ _ (⟨_, Op.load 30 _, _, _, _, _⟩ :: _) _ _; refine wpList_load_want (by kernel_rfl) 30 _ rfl _ rfl _ (by with_reducible exact l24.out) ?_)
                | (with_reducible show wpList _ _ _ (⟨_, Op.load 35 _, _, _, _, _⟩ :: _) _ _; refine wpList_load_want (by kernel_rfl) 35 _ rfl _ rfl _ (by with_reducible exact l25.out) ?_))
              refine (valid_any _ _ _ ⟨a1, p.dst, 255, true⟩ ⟨m.kind, 0, 0, aTwo, aFar, m.ks⟩ (K15.out.gl hG.out) hq.out ((((hmm _ K15.out.bel).out.setTarget aTwo_is).setDest aFar_is).setFlags (v := 0) (by omega) (by omega))).mono ?_
              rintro e V40 ⟨rfl, b40⟩
              rw [show valid ⟨a1, p.dst, 255, true⟩ ⟨m.kind, 0, 0, aTwo, aFar, m.ks⟩ = true by
                have := valid_plain (d := p.dst) (ks := m.ks) hk
                rwa [show ownB m = 255 by simp [ownB, hl]] at this]
              have Q40 := hidd (K15.out.call b40)
              clear l24 l25
              go_wp2_with fail
              refine (lives_any _ (Q40.out.gl hG.out)).mono ?_
              rintro e V19 ⟨rfl, b19⟩
              have Q19 := hidd (Q40.out.call b19)
              clear b19
              go_wp2
              go_ret
              exact ⟨rfl, Q19.out.bel⟩
          · skip
            obtain ⟨v1, v2, v3⟩ := valid_so hk hv
            rw [show ownB m = 255 by simp [ownB, hl]] at v1
            have ca := Q16.out.cell 0 rfl hP.out.hops
            rw [v1] at ca
            have cb := Q16.out.cell 1 rfl hM.out.is.code
            rw [v2] at cb
            have lb := hidd (Q16.out.l35 1 rfl hM.out.is)
            go_wp2_with (first
              | (with_reducible show wpList _ _ _ (⟨_, Op.load 35 _, _, _, _, _⟩ :: _) _ _; refine wpList_load_want (by kernel_rfl) 35 _ rfl _ rfl _ (by with_reducible exact lb.out) ?_))
            refine (listens_any V16 _ m hM.out.is).mono ?_
            rintro e V20 ⟨rfl, b20⟩
            rw [hl]
            have Q20 := hidd (Q16.out.call b20)
            clear b20
            clear ca cb lb
            by_cases hz0 : z0 = 255
            · skip
              subst hz0
              by_cases hz1 : z1 = 0
              · skip
                subst hz1
                have la := hidd (Q20.out.l30 0 rfl hP.out)
                obtain ⟨g, Sg⟩ : ∃ g, V20.heap.size = g := ⟨_, rfl⟩
                have flag : True := trivial
                go_wp2_with (first
                  | (with_reducible show wpList _ _ _ (⟨some 77, _, _, _, _, _⟩ :: _) _ _; clear flag
                     clear cy0 cy1 cy0b cz1 cn fn
                     generalize V6.setCell ⟨g + 1, 1, none⟩ (.int .u8 0) = V7 at K7 ⊢
                     have hq0 := hP.out.setHops (v := 255) (by omega) (by omega)
                     have hn0 := hM.out.is.setCode (v := 0) (by omega) (by omega)
                     have i16 := K7.out.cell 3 rfl hq0.hops
                     have j16 := K7.out.frozen 3 rfl 32
                     have K8 := hidd (K7.out.set 3 rfl 32 (.int .u8 255))
                     have hq1 := hq0.setHops (v := 255) (by omega) (by omega)
                     have i17 := K8.out.cell 3 rfl hq1.alert
                     have j17 := K8.out.frozen 3 rfl 33
                     have i17b := K7.out.cell 3 rfl hq0.alert
                     have j17b := K7.out.frozen 3 rfl 33
                     have K9 := hidd (K8.out.set 3 rfl 33 (.bool true))
                     have hq2 := hq1.setAlert true
                     have i18 := K9.out.cell 4 rfl hn0.code
                     have j18 := K9.out.frozen 4 rfl 1
                     have i18b := K7.out.cell 4 rfl hn0.code
                     have j18b := K7.out.frozen 4 rfl 1
                     have K10 := hidd (K9.out.set 4 rfl 1 (.int .u8 0))
                     have hn1 := hn0.setCode (v := 0) (by omega) (by omega)
                     have t19 := hidd (K10.out.there 3 rfl (o := 0) (n := a1.length) (by rw [hq2.size, a1_is.len]; omega))
                     have hq3 := hidd (hq2.setSrc a1_is)
                     have K11 := hidd (K10.out.over 3 rfl 0 (a1.map (Value.int .u8)))
                     have hn1' := hidd hn1
                     clear hq0 hq1 hq2 hn0)
                  | (with_reducible show wpList _ _ _ (⟨_, Op.load 30 _, _, _, _, _⟩ :: _) _ _; refine wpList_load_want (by kernel_rfl) 30 _ rfl _ rfl _ (by with_reducible exact la.out) ?_)
                  | (with_reducible show wpList _ _ _ (⟨_, Op.store 30 (Operand.tmp 8) _, _, _, _, _⟩ :: _) _ _; refine wpList_store_new rfl rfl 30 (.tmp 8) _ rfl _ _ cp rfl Sg.symm rfl (size_pk hP.out) (Eq.trans (b := 40) (by kernel_rfl) hP.out.size.symm) hP.out.ones ?_
                     have K4 := hidd (Q20.out.new Sg 30 cp)
                     have S4 := size_new Sg (.cells cp 30)
                     generalize V20.alloc (.cells cp 30) = V4 at K4 S4 ⊢
                     have cz := K4.out.cell 2 rfl (i := 0) (v := .int .u8 255) rfl
                     have cq := K4.out.cell 3 rfl hP.out.hops
                     have fq := K4.out.frozen 3 rfl 32
                     have K5 := hidd (K4.out.set 3 rfl 32 (.int .u8 255))
                     have S5 := size_set S4 ⟨g, 32, none⟩ (.int .u8 255)
                     have lb := hidd (K5.out.l35 1 rfl hM.out.is))
                  | (with_reducible show wpList _ _ _ (⟨_, Op.load 35 _, _, _, _, _⟩ :: _) _ _; refine wpList_load_want (by kernel_rfl) 35 _ rfl _ rfl _ (by with_reducible exact lb.out) ?_)
                  | (with_reducible show wpList _ _ _ (⟨_, Op.store 35 (Operand.tmp 9) _, _, _, _, _⟩ :: _) _ _; refine wpList_store_new rfl rfl 35 (.tmp 9) _ rfl _ _ cm rfl S5.symm rfl (size_ms hM.out.is) (Eq.trans (b := 63) (by kernel_rfl) hM.out.is.size.symm) hM.out.is.ones ?_
                     have K6 := hidd (K5.out.new S5 35 cm)
                     have S6 := size_new S5 (.cells cm 35)
                     generalize (V4.setCell ⟨g, 32, none⟩ (.int .u8 255)).alloc (.cells cm 35) = V6 at K6 S6 ⊢
                     have cz1 := K6.out.cell 2 rfl (i := 1) (v := .int .u8 0) rfl
                     have cn := K6.out.cell 4 rfl hM.out.is.code
                     have fn := K6.out.frozen 4 rfl 1
                     have K7 := hidd (K6.out.set 4 rfl 1 (.int .u8 0))
                     have cy0 := K7.out.cell 2 rfl (i := 0) (v := .int .u8 255) rfl
                     have cy1 := K7.out.cell 2 rfl (i := 1) (v := .int .u8 0) rfl
                     have cy0b := K6.out.cell 2 rfl (i := 0) (v := .int .u8 255) rfl
                     clear la lb K4 S4 cz cq fq S5)
                  | (with_reducible show wpList _ _ _ (⟨_, Op.build 23 #[(0, Operand.const (Value.int IntKind.u8 254)), (1, Operand.const (Value.int IntKind.u8 128)), (15, Operand.const (Value.int IntKind.u8 1))], _, _, _, _⟩ :: _) _ _; refine wpList_build_want rfl 23 #[(0, .const (.int .u8 254)), (1, .const (.int .u8 128)), (15, .const (.int .u8 1))] rfl (bytesV a1) (by kernel_rfl) ?_)
                  | (with_reducible show wpList _ _ _ (⟨_, Op.build 23 #[(0, Operand.const (Value.int IntKind.u8 254)), (1, Operand.const (Value.int IntKind.u8 128)), (15, Operand.const (Value.int IntKind.u8 2))], _, _, _, _⟩ :: _) _ _; refine wpList_build_want rfl 23 #[(0, .const (.int .u8 254)), (1, .const (.int .u8 128)), (15, .const (.int .u8 2))] rfl (bytesV aTwo) (by kernel_rfl) ?_)
                  | (with_reducible show wpList _ _ _ (⟨_, Op.build 23 #[(0, Operand.const (Value.int IntKind.u8 32)), (15, Operand.const (Value.int IntKind.u8 3))], _, _, _, _⟩ :: _) _ _; refine wpList_build_want rfl 23 #[(0, .const (.int .u8 32)), (15, .const (.int .u8 3))] rfl (bytesV aFar) (by kernel_rfl) ?_)
                  | (with_reducible show wpList _ _ _ (⟨_, Op.store 23 (Operand.tmp 81) _, _, _, _, _⟩ :: _) _ _; refine wpList_store_bytes rfl rfl 23 (.tmp 81) _ rfl _ _ a1 rfl rfl t19.out (info23' a1_is) ?_
                     generalize (((V7.setCell ⟨g, 32, none⟩ (.int .u8 255)).setCell ⟨g, 33, none⟩ (.bool true)).setCell ⟨g + 1, 1, none⟩ (.int .u8 0)).setCells g 0 (a1.map (Value.int .u8)) = V11 at K11 ⊢
                     obtain ⟨h, Sh⟩ : ∃ h, V11.heap.size = h := ⟨_, rfl⟩
                     obtain ⟨cq, cn, K11a, hq, hn, hmm⟩ : ∃ (cq cn : Array Value), Hid (Kp w V11 [(w.heap.size, 30, cp), (w.heap.size + 1, 35, cm), (w.heap.size + 1 + 1, 43, #[.int .u8 255, .int .u8 0]), (g, 30, cq), (g + 1, 35, cn)]) ∧ Hid (IsPk cq ⟨a1, p.dst, 255, true⟩) ∧ Hid (IsMs w w.heap.size cn { m with code := 0 }) ∧ (∀ V, Below w.heap.size w V → Hid (IsMs V V.heap.size cn { m with code := 0 })) :=
                       ⟨_, _, K11, hq3, hn1', fun V hV => ((mm V hV).out.setCode (v := 0) (by omega) (by omega)).setCode (v := 0) (by omega) (by omega)⟩
                     clear K11 hq3 hn1'
                     have l20 := hidd (K11a.out.l35 4 rfl hn.out))
                  | (with_reducible show wpList _ _ _ (⟨_, Op.load 35 _, _, _, _, _⟩ :: _) _ _; refine wpList_load_want (by kernel_rfl) 35 _ rfl _ rfl _ (by with_reducible exact l20.out) ?_)
                  | (with_reducible show wpList _ _ _ (⟨_, Op.store 35 (Operand.tmp 10) _, _, _, _, _⟩ :: _) _ _; refine wpList_store_new rfl rfl 35 (.tmp 10) _ rfl _ _ cn rfl Sh.symm rfl (size_ms hn.out) (Eq.trans (b := 63) (by kernel_rfl) hn.out.size.symm) hn.out.ones ?_
                     have K12 := hidd (K11a.out.new Sh 35 cn)
                     generalize V11.alloc (.cells cn 35) = V12 at K12 ⊢
                     have t21 := hidd (K12.out.there 5 rfl (o := 9) (n := aTwo.length) (by rw [hn.out.size, aTwo_is.len]; omega))
                     have hn2 := hidd (hn.out.setTarget aTwo_is)
                     have K13 := hidd (K12.out.over 5 rfl 9 (aTwo.map (Value.int .u8)))
                     have t22 := hidd (K13.out.there 5 rfl (o := 25) (n := aFar.length) (by rw [hn2.out.size, aFar_is.len]; omega))
                     have hn3 := hidd (hn2.out.setDest aFar_is)
                     have K14 := hidd (K13.out.over 5 rfl 25 (aFar.map (Value.int .u8)))
                     have i23 := K14.out.cell 5 rfl hn3.out.flags
                     have j23 := K14.out.frozen 5 rfl 5
                     have hn4 := hidd (hn3.out.setFlags (v := 0) (by omega) (by omega))
                     have K15 := hidd (K14.out.set 5 rfl 5 (.int .u8 0))
                     have l24 := hidd (K15.out.l30 3 rfl hq.out)
                     have l25 := hidd (K15.out.l35 5 rfl hn4.out))
                  | (with_reducible show wpList _ _ _ (⟨_, Op.store 23 (Operand.tmp 84) _, _, _, _, _⟩ :: _) _ _; refine wpList_store_bytes rfl rfl 23 (.tmp 84) _ rfl _ _ aTwo rfl rfl t21.out (info23' aTwo_is) ?_)
                  | (with_reducible show wpList _ _ _ (⟨_, Op.store 23 (Operand.tmp 86) _, _, _, _, _⟩ :: _) _ _; refine wpList_store_bytes rfl rfl 23 (.tmp 86) _ rfl _ _ aFar rfl rfl t22.out (info23' aFar_is) ?_)
                  | (with_reducible show wpList _ _ _ (⟨_, Op.load 30 _, _, _, _, _⟩ :: _) _ _; refine wpList_load_want (by kernel_rfl) 30 _ rfl _ rfl _ (by with_reducible exact l24.out) ?_)
                  | (with_reducible show wpList _ _ _ (⟨_, Op.load 35 _, _, _, _, _⟩ :: _) _ _; refine wpList_load_want (by kernel_rfl) 35 _ rfl _ rfl _ (by with_reducible exact l25.out) ?_))
                refine (valid_any _ _ _ ⟨a1, p.dst, 255, true⟩ ⟨m.kind, 0, 0, aTwo, aFar, m.ks⟩ (K15.out.gl hG.out) hq.out ((((hmm _ K15.out.bel).out.setTarget aTwo_is).setDest aFar_is).setFlags (v := 0) (by omega) (by omega))).mono ?_
                rintro e V40 ⟨rfl, b40⟩
                rw [show valid ⟨a1, p.dst, 255, true⟩ ⟨m.kind, 0, 0, aTwo, aFar, m.ks⟩ = true by
                  have := valid_plain (d := p.dst) (ks := m.ks) hk
                  rwa [show ownB m = 255 by simp [ownB, hl]] at this]
                have Q40 := hidd (K15.out.call b40)
                clear l24 l25
                go_wp2_with fail
                refine (lives_any _ (Q40.out.gl hG.out)).mono ?_
                rintro e V21 ⟨rfl, b21⟩
                have Q21 := hidd (Q40.out.call b21)
                clear b21
                go_wp2
                go_ret
                exact ⟨rfl, Q21.out.bel⟩
              · skip
                have hz1b : (z1 != 0) = true := by simpa using hz1
                have la := hidd (Q20.out.l30 0 rfl hP.out)
                obtain ⟨g, Sg⟩ : ∃ g, V20.heap.size = g := ⟨_, rfl⟩
                go_wp2_with (first
                  | (with_reducible show wpList _ _ _ (⟨_, Op.load 30 _, _, _, _, _⟩ :: _) _ _; refine wpList_load_want (by kernel_rfl) 30 _ rfl _ rfl _ (by with_reducible exact la.out) ?_)
                  | (with_reducible show wpList _ _ _ (⟨_, Op.store 30 (Operand.tmp 8) _, _, _, _, _⟩ :: _) _ _; refine wpList_store_new rfl rfl 30 (.tmp 8) _ rfl _ _ cp rfl Sg.symm rfl (size_pk hP.out) (Eq.trans (b := 40) (by kernel_rfl) hP.out.size.symm) hP.out.ones ?_
                     have K4 := hidd (Q20.out.new Sg 30 cp)
                     have S4 := size_new Sg (.cells cp 30)
                     generalize V20.alloc (.cells cp 30) = V4 at K4 S4 ⊢
                     have cz := K4.out.cell 2 rfl (i := 0) (v := .int .u8 255) rfl
                     have cq := K4.out.cell 3 rfl hP.out.hops
                     have fq := K4.out.frozen 3 rfl 32
                     have K5 := hidd (K4.out.set 3 rfl 32 (.int .u8 255))
                     have S5 := size_set S4 ⟨g, 32, none⟩ (.int .u8 255)
                     have lb := hidd (K5.out.l35 1 rfl hM.out.is))
                  | (with_reducible show wpList _ _ _ (⟨_, Op.load 35 _, _, _, _, _⟩ :: _) _ _; refine wpList_load_want (by kernel_rfl) 35 _ rfl _ rfl _ (by with_reducible exact lb.out) ?_)
                  | (with_reducible show wpList _ _ _ (⟨_, Op.store 35 (Operand.tmp 9) _, _, _, _, _⟩ :: _) _ _; refine wpList_store_new rfl rfl 35 (.tmp 9) _ rfl _ _ cm rfl S5.symm rfl (size_ms hM.out.is) (Eq.trans (b := 63) (by kernel_rfl) hM.out.is.size.symm) hM.out.is.ones ?_
                     have K6 := hidd (K5.out.new S5 35 cm)
                     have S6 := size_new S5 (.cells cm 35)
                     generalize (V4.setCell ⟨g, 32, none⟩ (.int .u8 255)).alloc (.cells cm 35) = V6 at K6 S6 ⊢
                     have cz1 := K6.out.cell 2 rfl (i := 1) (v := .int .u8 z1) rfl
                     have cn := K6.out.cell 4 rfl hM.out.is.code
                     have fn := K6.out.frozen 4 rfl 1
                     have K7 := hidd (K6.out.set 4 rfl 1 (.int .u8 z1))
                     have cy0 := K7.out.cell 2 rfl (i := 0) (v := .int .u8 255) rfl
                     have cy1 := K7.out.cell 2 rfl (i := 1) (v := .int .u8 z1) rfl
                     have cy0b := K6.out.cell 2 rfl (i := 0) (v := .int .u8 255) rfl
                     clear la lb K4 S4 cz cq fq S5
                     have lc := hidd (K7.out.l30 3 rfl (hP.out.setHops (v := 255) (by omega) (by omega)))
                     have ld := hidd (K7.out.l35 4 rfl (hM.out.is.setCode (v := z1) (by omega) (by omega))))
                  | (with_reducible show wpList _ _ _ (⟨_, Op.load 30 _, _, _, _, _⟩ :: _) _ _; refine wpList_load_want (by kernel_rfl) 30 _ rfl _ rfl _ (by with_reducible exact lc.out) ?_)
                  | (with_reducible show wpList _ _ _ (⟨_, Op.load 35 _, _, _, _, _⟩ :: _) _ _; refine wpList_load_want (by kernel_rfl) 35 _ rfl _ rfl _ (by with_reducible exact ld.out) ?_))
                refine (valid_any _ _ _ { p with hops := 255 } { m with code := z1 } (K7.out.gl hG.out) (hP.out.setHops (by omega) (by omega)) ((mm _ K7.out.bel).out.setCode (by omega) (by omega))).mono ?_
                rintro e V30 ⟨rfl, b30⟩
                rw [show valid { p with hops := 255 } { m with code := z1 } = false by
                  refine valid_not (m := { m with code := z1 }) hk ?_
                  show (255 == ownB m && z1 == 0) = false
                  rw [show ownB m = 255 by simp [ownB, hl]]
                  simp [hz1]]
                have Q30 := hidd (K7.out.call b30)
                clear lc ld cy0 cy1 cy0b cz1 cn fn b30
                have flag : True := trivial
                go_wp2_with (first
                  | (with_reducible show wpList _ _ _ (⟨some 77, _, _, _, _, _⟩ :: _) _ _; clear flag
                     have hq0 := hP.out.setHops (v := 255) (by omega) (by omega)
                     have hn0 := hM.out.is.setCode (v := z1) (by omega) (by omega)
                     have i16 := Q30.out.cell 3 rfl hq0.hops
                     have j16 := Q30.out.frozen 3 rfl 32
                     have K8 := hidd (Q30.out.set 3 rfl 32 (.int .u8 255))
                     have hq1 := hq0.setHops (v := 255) (by omega) (by omega)
                     have i17 := K8.out.cell 3 rfl hq1.alert
                     have j17 := K8.out.frozen 3 rfl 33
                     have i17b := Q30.out.cell 3 rfl hq0.alert
                     have j17b := Q30.out.frozen 3 rfl 33
                     have K9 := hidd (K8.out.set 3 rfl 33 (.bool true))
                     have hq2 := hq1.setAlert true
                     have i18 := K9.out.cell 4 rfl hn0.code
                     have j18 := K9.out.frozen 4 rfl 1
                     have i18b := Q30.out.cell 4 rfl hn0.code
                     have j18b := Q30.out.frozen 4 rfl 1
                     have K10 := hidd (K9.out.set 4 rfl 1 (.int .u8 0))
                     have hn1 := hn0.setCode (v := 0) (by omega) (by omega)
                     have t19 := hidd (K10.out.there 3 rfl (o := 0) (n := a1.length) (by rw [hq2.size, a1_is.len]; omega))
                     have hq3 := hidd (hq2.setSrc a1_is)
                     have K11 := hidd (K10.out.over 3 rfl 0 (a1.map (Value.int .u8)))
                     have hn1' := hidd hn1
                     clear hq0 hq1 hq2 hn0)
                  | (with_reducible show wpList _ _ _ (⟨_, Op.build 23 #[(0, Operand.const (Value.int IntKind.u8 254)), (1, Operand.const (Value.int IntKind.u8 128)), (15, Operand.const (Value.int IntKind.u8 1))], _, _, _, _⟩ :: _) _ _; refine wpList_build_want rfl 23 #[(0, .const (.int .u8 254)), (1, .const (.int .u8 128)), (15, .const (.int .u8 1))] rfl (bytesV a1) (by kernel_rfl) ?_)
                  | (with_reducible show wpList _ _ _ (⟨_, Op.build 23 #[(0, Operand.const (Value.int IntKind.u8 254)), (1, Operand.const (Value.int IntKind.u8 128)), (15, Operand.const (Value.int IntKind.u8 2))], _, _, _, _⟩ :: _) _ _; refine wpList_build_want rfl 23 #[(0, .const (.int .u8 254)), (1, .const (.int .u8 128)), (15, .const (.int .u8 2))] rfl (bytesV aTwo) (by kernel_rfl) ?_)
                  | (with_reducible show wpList _ _ _ (⟨_, Op.build 23 #[(0, Operand.const (Value.int IntKind.u8 32)), (15, Operand.const (Value.int IntKind.u8 3))], _, _, _, _⟩ :: _) _ _; refine wpList_build_want rfl 23 #[(0, .const (.int .u8 32)), (15, .const (.int .u8 3))] rfl (bytesV aFar) (by kernel_rfl) ?_)
                  | (with_reducible show wpList _ _ _ (⟨_, Op.store 23 (Operand.tmp 81) _, _, _, _, _⟩ :: _) _ _; refine wpList_store_bytes rfl rfl 23 (.tmp 81) _ rfl _ _ a1 rfl rfl t19.out (info23' a1_is) ?_
                     generalize (((V30.setCell ⟨g, 32, none⟩ (.int .u8 255)).setCell ⟨g, 33, none⟩ (.bool true)).setCell ⟨g + 1, 1, none⟩ (.int .u8 0)).setCells g 0 (a1.map (Value.int .u8)) = V11 at K11 ⊢
                     obtain ⟨h, Sh⟩ : ∃ h, V11.heap.size = h := ⟨_, rfl⟩
                     obtain ⟨cq, cn, K11a, hq, hn, hmm⟩ : ∃ (cq cn : Array Value), Hid (Kp w V11 [(w.heap.size, 30, cp), (w.heap.size + 1, 35, cm), (w.heap.size + 1 + 1, 43, #[.int .u8 255, .int .u8 z1]), (g, 30, cq), (g + 1, 35, cn)]) ∧ Hid (IsPk cq ⟨a1, p.dst, 255, true⟩) ∧ Hid (IsMs w w.heap.size cn { m with code := 0 }) ∧ (∀ V, Below w.heap.size w V → Hid (IsMs V V.heap.size cn { m with code := 0 })) :=
                       ⟨_, _, K11, hq3, hn1', fun V hV => ((mm V hV).out.setCode (v := z1) (by omega) (by omega)).setCode (v := 0) (by omega) (by omega)⟩
                     clear K11 hq3 hn1'
                     have l20 := hidd (K11a.out.l35 4 rfl hn.out))
                  | (with_reducible show wpList _ _ _ (⟨_, Op.load 35 _, _, _, _, _⟩ :: _) _ _; refine wpList_load_want (by kernel_rfl) 35 _ rfl _ rfl _ (by with_reducible exact l20.out) ?_)
                  | (with_reducible show wpList _ _ _ (⟨_, Op.store 35 (Operand.tmp 10) _, _, _, _, _⟩ :: _) _ _; refine wpList_store_new rfl rfl 35 (.tmp 10) _ rfl _ _ cn rfl Sh.symm rfl (size_ms hn.out) (Eq.trans (b := 63) (by kernel_rfl) hn.out.size.symm) hn.out.ones ?_
                     have K12 := hidd (K11a.out.new Sh 35 cn)
                     generalize V11.alloc (.cells cn 35) = V12 at K12 ⊢
                     have t21 := hidd (K12.out.there 5 rfl (o := 9) (n := aTwo.length) (by rw [hn.out.size, aTwo_is.len]; omega))
                     have hn2 := hidd (hn.out.setTarget aTwo_is)
                     have K13 := hidd (K12.out.over 5 rfl 9 (aTwo.map (Value.int .u8)))
                     have t22 := hidd (K13.out.there 5 rfl (o := 25) (n := aFar.length) (by rw [hn2.out.size, aFar_is.len]; omega))
                     have hn3 := hidd (hn2.out.setDest aFar_is)
                     have K14 := hidd (K13.out.over 5 rfl 25 (aFar.map (Value.int .u8)))
                     have i23 := K14.out.cell 5 rfl hn3.out.flags
                     have j23 := K14.out.frozen 5 rfl 5
                     have hn4 := hidd (hn3.out.setFlags (v := 0) (by omega) (by omega))
                     have K15 := hidd (K14.out.set 5 rfl 5 (.int .u8 0))
                     have l24 := hidd (K15.out.l30 3 rfl hq.out)
                     have l25 := hidd (K15.out.l35 5 rfl hn4.out))
                  | (with_reducible show wpList _ _ _ (⟨_, Op.store 23 (Operand.tmp 84) _, _, _, _, _⟩ :: _) _ _; refine wpList_store_bytes rfl rfl 23 (.tmp 84) _ rfl _ _ aTwo rfl rfl t21.out (info23' aTwo_is) ?_)
                  | (with_reducible show wpList _ _ _ (⟨_, Op.store 23 (Operand.tmp 86) _, _, _, _, _⟩ :: _) _ _; refine wpList_store_bytes rfl rfl 23 (.tmp 86) _ rfl _ _ aFar rfl rfl t22.out (info23' aFar_is) ?_)
                  | (with_reducible show wpList _ _ _ (⟨_, Op.load 30 _, _, _, _, _⟩ :: _) _ _; refine wpList_load_want (by kernel_rfl) 30 _ rfl _ rfl _ (by with_reducible exact l24.out) ?_)
                  | (with_reducible show wpList _ _ _ (⟨_, Op.load 35 _, _, _, _, _⟩ :: _) _ _; refine wpList_load_want (by kernel_rfl) 35 _ rfl _ rfl _ (by with_reducible exact l25.out) ?_))
                refine (valid_any _ _ _ ⟨a1, p.dst, 255, true⟩ ⟨m.kind, 0, 0, aTwo, aFar, m.ks⟩ (K15.out.gl hG.out) hq.out ((((hmm _ K15.out.bel).out.setTarget aTwo_is).setDest aFar_is).setFlags (v := 0) (by omega) (by omega))).mono ?_
                rintro e V40 ⟨rfl, b40⟩
                rw [show valid ⟨a1, p.dst, 255, true⟩ ⟨m.kind, 0, 0, aTwo, aFar, m.ks⟩ = true by
                  have := valid_plain (d := p.dst) (ks := m.ks) hk
                  rwa [show ownB m = 255 by simp [ownB, hl]] at this]
                have Q40 := hidd (K15.out.call b40)
                clear l24 l25
                go_wp2_with fail
                refine (lives_any _ (Q40.out.gl hG.out)).mono ?_
                rintro e V22 ⟨rfl, b22⟩
                have Q22 := hidd (Q40.out.call b22)
                clear b22
                go_wp2
                go_ret
                exact ⟨rfl, Q22.out.bel⟩
            · skip
              have hz0b : (z0 != 255) = true := by simpa using hz0
              have la := hidd (Q20.out.l30 0 rfl hP.out)
              obtain ⟨g, Sg⟩ : ∃ g, V20.heap.size = g := ⟨_, rfl⟩
              go_wp2_with (first
                | (with_reducible show wpList _ _ _ (⟨_, Op.load 30 _, _, _, _, _⟩ :: _) _ _; refine wpList_load_want (by kernel_rfl) 30 _ rfl _ rfl _ (by with_reducible exact la.out) ?_)
                | (with_reducible show wpList _ _ _ (⟨_, Op.store 30 (Operand.tmp 8) _, _, _, _, _⟩ :: _) _ _; refine wpList_store_new rfl rfl 30 (.tmp 8) _ rfl _ _ cp rfl Sg.symm rfl (size_pk hP.out) (Eq.trans (b := 40) (by kernel_rfl) hP.out.size.symm) hP.out.ones ?_
                   have K4 := hidd (Q20.out.new Sg 30 cp)
                   have S4 := size_new Sg (.cells cp 30)
                   generalize V20.alloc (.cells cp 30) = V4 at K4 S4 ⊢
                   have cz := K4.out.cell 2 rfl (i := 0) (v := .int .u8 z0) rfl
                   have cq := K4.out.cell 3 rfl hP.out.hops
                   have fq := K4.out.frozen 3 rfl 32
                   have K5 := hidd (K4.out.set 3 rfl 32 (.int .u8 z0))
                   have S5 := size_set S4 ⟨g, 32, none⟩ (.int .u8 z0)
                   have lb := hidd (K5.out.l35 1 rfl hM.out.is))
                | (with_reducible show wpList _ _ _ (⟨_, Op.load 35 _, _, _, _, _⟩ :: _) _ _; refine wpList_load_want (by kernel_rfl) 35 _ rfl _ rfl _ (by with_reducible exact lb.out) ?_)
                | (with_reducible show wpList _ _ _ (⟨_, Op.store 35 (Operand.tmp 9) _, _, _, _, _⟩ :: _) _ _; refine wpList_store_new rfl rfl 35 (.tmp 9) _ rfl _ _ cm rfl S5.symm rfl (size_ms hM.out.is) (Eq.trans (b := 63) (by kernel_rfl) hM.out.is.size.symm) hM.out.is.ones ?_
                   have K6 := hidd (K5.out.new S5 35 cm)
                   have S6 := size_new S5 (.cells cm 35)
                   generalize (V4.setCell ⟨g, 32, none⟩ (.int .u8 z0)).alloc (.cells cm 35) = V6 at K6 S6 ⊢
                   have cz1 := K6.out.cell 2 rfl (i := 1) (v := .int .u8 z1) rfl
                   have cn := K6.out.cell 4 rfl hM.out.is.code
                   have fn := K6.out.frozen 4 rfl 1
                   have K7 := hidd (K6.out.set 4 rfl 1 (.int .u8 z1))
                   have cy0 := K7.out.cell 2 rfl (i := 0) (v := .int .u8 z0) rfl
                   have cy1 := K7.out.cell 2 rfl (i := 1) (v := .int .u8 z1) rfl
                   have cy0b := K6.out.cell 2 rfl (i := 0) (v := .int .u8 z0) rfl
                   clear la lb K4 S4 cz cq fq S5
                   have lc := hidd (K7.out.l30 3 rfl (hP.out.setHops (v := z0) (by omega) (by omega)))
                   have ld := hidd (K7.out.l35 4 rfl (hM.out.is.setCode (v := z1) (by omega) (by omega))))
                | (with_reducible show wpList _ _ _ (⟨_, Op.load 30 _, _, _, _, _⟩ :: _) _ _; refine wpList_load_want (by kernel_rfl) 30 _ rfl _ rfl _ (by with_reducible exact lc.out) ?_)
                | (with_reducible show wpList _ _ _ (⟨_, Op.load 35 _, _, _, _, _⟩ :: _) _ _; refine wpList_load_want (by kernel_rfl) 35 _ rfl _ rfl _ (by with_reducible exact ld.out) ?_))
              refine (valid_any _ _ _ { p with hops := z0 } { m with code := z1 } (K7.out.gl hG.out) (hP.out.setHops (by omega) (by omega)) ((mm _ K7.out.bel).out.setCode (by omega) (by omega))).mono ?_
              rintro e V30 ⟨rfl, b30⟩
              rw [show valid { p with hops := z0 } { m with code := z1 } = false by
                refine valid_not (m := { m with code := z1 }) hk ?_
                show (z0 == ownB m && z1 == 0) = false
                rw [show ownB m = 255 by simp [ownB, hl]]
                simp [hz0]]
              have Q30 := hidd (K7.out.call b30)
              clear lc ld cy0 cy1 cy0b cz1 cn fn b30
              have flag : True := trivial
              go_wp2_with (first
                | (with_reducible show wpList _ _ _ (⟨some 77, _, _, _, _, _⟩ :: _) _ _; clear flag
                   have hq0 := hP.out.setHops (v := z0) (by omega) (by omega)
                   have hn0 := hM.out.is.setCode (v := z1) (by omega) (by omega)
                   have i16 := Q30.out.cell 3 rfl hq0.hops
                   have j16 := Q30.out.frozen 3 rfl 32
                   have K8 := hidd (Q30.out.set 3 rfl 32 (.int .u8 255))
                   have hq1 := hq0.setHops (v := 255) (by omega) (by omega)
                   have i17 := K8.out.cell 3 rfl hq1.alert
                   have j17 := K8.out.frozen 3 rfl 33
                   have i17b := Q30.out.cell 3 rfl hq0.alert
                   have j17b := Q30.out.frozen 3 rfl 33
                   have K9 := hidd (K8.out.set 3 rfl 33 (.bool true))
                   have hq2 := hq1.setAlert true
                   have i18 := K9.out.cell 4 rfl hn0.code
                   have j18 := K9.out.frozen 4 rfl 1
                   have i18b := Q30.out.cell 4 rfl hn0.code
                   have j18b := Q30.out.frozen 4 rfl 1
                   have K10 := hidd (K9.out.set 4 rfl 1 (.int .u8 0))
                   have hn1 := hn0.setCode (v := 0) (by omega) (by omega)
                   have t19 := hidd (K10.out.there 3 rfl (o := 0) (n := a1.length) (by rw [hq2.size, a1_is.len]; omega))
                   have hq3 := hidd (hq2.setSrc a1_is)
                   have K11 := hidd (K10.out.over 3 rfl 0 (a1.map (Value.int .u8)))
                   have hn1' := hidd hn1
                   clear hq0 hq1 hq2 hn0)
                | (with_reducible show wpList _ _ _ (⟨_, Op.build 23 #[(0, Operand.const (Value.int IntKind.u8 254)), (1, Operand.const (Value.int IntKind.u8 128)), (15, Operand.const (Value.int IntKind.u8 1))], _, _, _, _⟩ :: _) _ _; refine wpList_build_want rfl 23 #[(0, .const (.int .u8 254)), (1, .const (.int .u8 128)), (15, .const (.int .u8 1))] rfl (bytesV a1) (by kernel_rfl) ?_)
                | (with_reducible show wpList _ _ _ (⟨_, Op.build 23 #[(0, Operand.const (Value.int IntKind.u8 254)), (1, Operand.const (Value.int IntKind.u8 128)), (15, Operand.const (Value.int IntKind.u8 2))], _, _, _, _⟩ :: _) _ _; refine wpList_build_want rfl 23 #[(0, .const (.int .u8 254)), (1, .const (.int .u8 128)), (15, .const (.int .u8 2))] rfl (bytesV aTwo) (by kernel_rfl) ?_)
                | (with_reducible show wpList _ _ _ (⟨_, Op.build 23 #[(0, Operand.const (Value.int IntKind.u8 32)), (15, Operand.const (Value.int IntKind.u8 3))], _, _, _, _⟩ :: _) _ _; refine wpList_build_want rfl 23 #[(0, .const (.int .u8 32)), (15, .const (.int .u8 3))] rfl (bytesV aFar) (by kernel_rfl) ?_)
                | (with_reducible show wpList _ _ _ (⟨_, Op.store 23 (Operand.tmp 81) _, _, _, _, _⟩ :: _) _ _; refine wpList_store_bytes rfl rfl 23 (.tmp 81) _ rfl _ _ a1 rfl rfl t19.out (info23' a1_is) ?_
                   generalize (((V30.setCell ⟨g, 32, none⟩ (.int .u8 255)).setCell ⟨g, 33, none⟩ (.bool true)).setCell ⟨g + 1, 1, none⟩ (.int .u8 0)).setCells g 0 (a1.map (Value.int .u8)) = V11 at K11 ⊢
                   obtain ⟨h, Sh⟩ : ∃ h, V11.heap.size = h := ⟨_, rfl⟩
                   obtain ⟨cq, cn, K11a, hq, hn, hmm⟩ : ∃ (cq cn : Array Value), Hid (Kp w V11 [(w.heap.size, 30, cp), (w.heap.size + 1, 35, cm), (w.heap.size + 1 + 1, 43, #[.int .u8 z0, .int .u8 z1]), (g, 30, cq), (g + 1, 35, cn)]) ∧ Hid (IsPk cq ⟨a1, p.dst, 255, true⟩) ∧ Hid (IsMs w w.heap.size cn { m with code := 0 }) ∧ (∀ V, Below w.heap.size w V → Hid (IsMs V V.heap.size cn { m with code := 0 })) :=
                     ⟨_, _, K11, hq3, hn1', fun V hV => ((mm V hV).out.setCode (v := z1) (by omega) (by omega)).setCode (v := 0) (by omega) (by omega)⟩
                   clear K11 hq3 hn1'
                   have l20 := hidd (K11a.out.l35 4 rfl hn.out))
                | (with_reducible show wpList _ _ _ (⟨_, Op.load 35 _, _, _, _, _⟩ :: _) _ _; refine wpList_load_want (by kernel_rfl) 35 _ rfl _ rfl _ (by with_reducible exact l20.out) ?_)
                | (with_reducible show wpList _ _ _ (⟨_, Op.store 35 (Operand.tmp 10) _, _, _, _, _⟩ :: _) _ _; refine wpList_store_new rfl rfl 35 (.tmp 10) _ rfl _ _ cn rfl Sh.symm rfl (size_ms hn.out) (Eq.trans (b := 63) (by kernel_rfl) hn.out.size.symm) hn.out.ones ?_
                   have K12 := hidd (K11a.out.new Sh 35 cn)
                   generalize V11.alloc (.cells cn 35) = V12 at K12 ⊢
                   have t21 := hidd (K12.out.there 5 rfl (o := 9) (n := aTwo.length) (by rw [hn.out.size, aTwo_is.len]; omega))
                   have hn2 := hidd (hn.out.setTarget aTwo_is)
                   have K13 := hidd (K12.out.over 5 rfl 9 (aTwo.map (Value.int .u8)))
                   have t22 := hidd (K13.out.there 5 rfl (o := 25) (n := aFar.length) (by rw [hn2.out.size, aFar_is.len]; omega))
                   have hn3 := hidd (hn2.out.setDest aFar_is)
                   have K14 := hidd (K13.out.over 5 rfl 25 (aFar.map (Value.int .u8)))
                   have i23 := K14.out.cell 5 rfl hn3.out.flags
                   have j23 := K14.out.frozen 5 rfl 5
                   have hn4 := hidd (hn3.out.setFlags (v := 0) (by omega) (by omega))
                   have K15 := hidd (K14.out.set 5 rfl 5 (.int .u8 0))
                   have l24 := hidd (K15.out.l30 3 rfl hq.out)
                   have l25 := hidd (K15.out.l35 5 rfl hn4.out))
                | (with_reducible show wpList _ _ _ (⟨_, Op.store 23 (Operand.tmp 84) _, _, _, _, _⟩ :: _) _ _; refine wpList_store_bytes rfl rfl 23 (.tmp 84) _ rfl _ _ aTwo rfl rfl t21.out (info23' aTwo_is) ?_)
                | (with_reducible show wpList _ _ _ (⟨_, Op.store 23 (Operand.tmp 86) _, _, _, _, _⟩ :: _) _ _; refine wpList_store_bytes rfl rfl 23 (.tmp 86) _ rfl _ _ aFar rfl rfl t22.out (info23' aFar_is) ?_)
                | (with_reducible show wpList _ _ _ (⟨_, Op.load 30 _, _, _, _, _⟩ :: _) _ _; refine wpList_load_want (by kernel_rfl) 30 _ rfl _ rfl _ (by with_reducible exact l24.out) ?_)
                | (with_reducible show wpList _ _ _ (⟨_, Op.load 35 _, _, _, _, _⟩ :: _) _ _; refine wpList_load_want (by kernel_rfl) 35 _ rfl _ rfl _ (by with_reducible exact l25.out) ?_))
              refine (valid_any _ _ _ ⟨a1, p.dst, 255, true⟩ ⟨m.kind, 0, 0, aTwo, aFar, m.ks⟩ (K15.out.gl hG.out) hq.out ((((hmm _ K15.out.bel).out.setTarget aTwo_is).setDest aFar_is).setFlags (v := 0) (by omega) (by omega))).mono ?_
              rintro e V40 ⟨rfl, b40⟩
              rw [show valid ⟨a1, p.dst, 255, true⟩ ⟨m.kind, 0, 0, aTwo, aFar, m.ks⟩ = true by
                have := valid_plain (d := p.dst) (ks := m.ks) hk
                rwa [show ownB m = 255 by simp [ownB, hl]] at this]
              have Q40 := hidd (K15.out.call b40)
              clear l24 l25
              go_wp2_with fail
              refine (lives_any _ (Q40.out.gl hG.out)).mono ?_
              rintro e V23 ⟨rfl, b23⟩
              have Q23 := hidd (Q40.out.call b23)
              clear b23
              go_wp2
              go_ret
              exact ⟨rfl, Q23.out.bel⟩
        · skip
          have la := hidd (Q15.out.l30 0 rfl hP.out)
          have lb := hidd (Q15.out.l35 1 rfl hM.out.is)
          go_wp2_with (first
            | (with_reducible show wpList _ _ _ (⟨_, Op.load 30 _, _, _, _, _⟩ :: _) _ _; refine wpList_load_want (by kernel_rfl) 30 _ rfl _ rfl _ (by with_reducible exact la.out) ?_)
            | (with_reducible show wpList _ _ _ (⟨_, Op.load 35 _, _, _, _, _⟩ :: _) _ _; refine wpList_load_want (by kernel_rfl) 35 _ rfl _ rfl _ (by with_reducible exact lb.out) ?_))
          refine (valid_any V15 _ _ p m (Q15.out.gl hG.out) hP.out (mm _ Q15.out.bel).out).mono ?_
          rintro e V24 ⟨rfl, b24⟩
          have Q24 := hidd (Q15.out.call b24)
          clear b24
          clear la lb
          cases hv : valid p m
          · skip
            by_cases hz0 : z0 = 1
            · skip
              subst hz0
              by_cases hz1 : z1 = 0
              · skip
                subst hz1
                have la := hidd (Q24.out.l30 0 rfl hP.out)
                obtain ⟨g, Sg⟩ : ∃ g, V24.heap.size = g := ⟨_, rfl⟩
                have flag : True := trivial
                go_wp2_with (first
                  | (with_reducible show wpList _ _ _ (⟨some 77, _, _, _, _, _⟩ :: _) _ _; clear flag
                     clear cy0 cy1 cy0b cz1 cn fn
                     generalize V6.setCell ⟨g + 1, 1, none⟩ (.int .u8 0) = V7 at K7 ⊢
                     have hq0 := hP.out.setHops (v := 1) (by omega) (by omega)
                     have hn0 := hM.out.is.setCode (v := 0) (by omega) (by omega)
                     have i16 := K7.out.cell 3 rfl hq0.hops
                     have j16 := K7.out.frozen 3 rfl 32
                     have K8 := hidd (K7.out.set 3 rfl 32 (.int .u8 1))
                     have hq1 := hq0.setHops (v := 1) (by omega) (by omega)
                     have i17 := K8.out.cell 3 rfl hq1.alert
                     have j17 := K8.out.frozen 3 rfl 33
                     have i17b := K7.out.cell 3 rfl hq0.alert
                     have j17b := K7.out.frozen 3 rfl 33
                     have K9 := hidd (K8.out.set 3 rfl 33 (.bool true))
                     have hq2 := hq1.setAlert true
                     have i18 := K9.out.cell 4 rfl hn0.code
                     have j18 := K9.out.frozen 4 rfl 1
                     have i18b := K7.out.cell 4 rfl hn0.code
                     have j18b := K7.out.frozen 4 rfl 1
                     have K10 := hidd (K9.out.set 4 rfl 1 (.int .u8 0))
                     have hn1 := hn0.setCode (v := 0) (by omega) (by omega)
                     have t19 := hidd (K10.out.there 3 rfl (o := 0) (n := a1.length) (by rw [hq2.size, a1_is.len]; omega))
                     have hq3 := hidd (hq2.setSrc a1_is)
                     have K11 := hidd (K10.out.over 3 rfl 0 (a1.map (Value.int .u8)))
                     have hn1' := hidd hn1
                     clear hq0 hq1 hq2 hn0)
                  | (with_reducible show wpList _ _ _ (⟨_, Op.load 30 _, _, _, _, _⟩ :: _) _ _; refine wpList_load_want (by kernel_rfl) 30 _ rfl _ rfl _ (by with_reducible exact la.out) ?_)
                  | (with_reducible show wpList _ _ _ (⟨_, Op.store 30 (Operand.tmp 8) _, _, _, _, _⟩ :: _) _ _; refine wpList_store_new rfl rfl 30 (.tmp 8) _ rfl _ _ cp rfl Sg.symm rfl (size_pk hP.out) (Eq.trans (b := 40) (by kernel_rfl) hP.out.size.symm) hP.out.ones ?_
                     have K4 := hidd (Q24.out.new Sg 30 cp)
                     have S4 := size_new Sg (.cells cp 30)
                     generalize V24.alloc (.cells cp 30) = V4 at K4 S4 ⊢
                     have cz := K4.out.cell 2 rfl (i := 0) (v := .int .u8 1) rfl
                     have cq := K4.out.cell 3 rfl hP.out.hops
                     have fq := K4.out.frozen 3 rfl 32
                     have K5 := hidd (K4.out.set 3 rfl 32 (.int .u8 1))
                     have S5 := size_set S4 ⟨g, 32, none⟩ (.int .u8 1)
                     have lb := hidd (K5.out.l35 1 rfl hM.out.is))
                  | (with_reducible show wpList _ _ _ (⟨_, Op.load 35 _, _, _, _, _⟩ :: _) _ _; refine wpList_load_want (by kernel_rfl) 35 _ rfl _ rfl _ (by with_reducible exact lb.out) ?_)
                  | (with_reducible show wpList _ _ _ (⟨_, Op.store 35 (Operand.tmp 9) _, _, _, _, _⟩ :: _) _ _; refine wpList_store_new rfl rfl 35 (.tmp 9) _ rfl _ _ cm rfl S5.symm rfl (size_ms hM.out.is) (Eq.trans (b := 63) (by kernel_rfl) hM.out.is.size.symm) hM.out.is.ones ?_
                     have K6 := hidd (K5.out.new S5 35 cm)
                     have S6 := size_new S5 (.cells cm 35)
                     generalize (V4.setCell ⟨g, 32, none⟩ (.int .u8 1)).alloc (.cells cm 35) = V6 at K6 S6 ⊢
                     have cz1 := K6.out.cell 2 rfl (i := 1) (v := .int .u8 0) rfl
                     have cn := K6.out.cell 4 rfl hM.out.is.code
                     have fn := K6.out.frozen 4 rfl 1
                     have K7 := hidd (K6.out.set 4 rfl 1 (.int .u8 0))
                     have cy0 := K7.out.cell 2 rfl (i := 0) (v := .int .u8 1) rfl
                     have cy1 := K7.out.cell 2 rfl (i := 1) (v := .int .u8 0) rfl
                     have cy0b := K6.out.cell 2 rfl (i := 0) (v := .int .u8 1) rfl
                     clear la lb K4 S4 cz cq fq S5)
                  | (with_reducible show wpList _ _ _ (⟨_, Op.build 23 #[(0, Operand.const (Value.int IntKind.u8 254)), (1, Operand.const (Value.int IntKind.u8 128)), (15, Operand.const (Value.int IntKind.u8 1))], _, _, _, _⟩ :: _) _ _; refine wpList_build_want rfl 23 #[(0, .const (.int .u8 254)), (1, .const (.int .u8 128)), (15, .const (.int .u8 1))] rfl (bytesV a1) (by kernel_rfl) ?_)
                  | (with_reducible show wpList _ _ _ (⟨_, Op.build 23 #[(0, Operand.const (Value.int IntKind.u8 254)), (1, Operand.const (Value.int IntKind.u8 128)), (15, Operand.const (Value.int IntKind.u8 2))], _, _, _, _⟩ :: _) _ _; refine wpList_build_want rfl 23 #[(0, .const (.int .u8 254)), (1, .const (.int .u8 128)), (15, .const (.int .u8 2))] rfl (bytesV aTwo) (by kernel_rfl) ?_)
                  | (with_reducible show wpList _ _ _ (⟨_, Op.build 23 #[(0, Operand.const (Value.int IntKind.u8 32)), (15, Operand.const (Value.int IntKind.u8 3))], _, _, _, _⟩ :: _) _ _; refine wpList_build_want rfl 23 #[(0, .const (.int .u8 32)), (15, .const (.int .u8 3))] rfl (bytesV aFar) (by kernel_rfl) ?_)
                  | (with_reducible show wpList _ _ _ (⟨_, Op.store 23 (Operand.tmp 81) _, _, _, _, _⟩ :: _) _ _; refine wpList_store_bytes rfl rfl 23 (.tmp 81) _ rfl _ _ a1 rfl rfl t19.out (info23' a1_is) ?_
                     generalize (((V7.setCell ⟨g, 32, none⟩ (.int .u8 1)).setCell ⟨g, 33, none⟩ (.bool true)).setCell ⟨g + 1, 1, none⟩ (.int .u8 0)).setCells g 0 (a1.map (Value.int .u8)) = V11 at K11 ⊢
                     obtain ⟨h, Sh⟩ : ∃ h, V11.heap.size = h := ⟨_, rfl⟩
                     obtain ⟨cq, cn, K11a, hq, hn, hmm⟩ : ∃ (cq cn : Array Value), Hid (Kp w V11 [(w.heap.size, 30, cp), (w.heap.size + 1, 35, cm), (w.heap.size + 1 + 1, 43, #[.int .u8 1, .int .u8 0]), (g, 30, cq), (g + 1, 35, cn)]) ∧ Hid (IsPk cq ⟨a1, p.dst, 1, true⟩) ∧ Hid (IsMs w w.heap.size cn { m with code := 0 }) ∧ (∀ V, Below w.heap.size w V → Hid (IsMs V V.heap.size cn { m with code := 0 })) :=
                       ⟨_, _, K11, hq3, hn1', fun V hV => ((mm V hV).out.setCode (v := 0) (by omega) (by omega)).setCode (v := 0) (by omega) (by omega)⟩
                     clear K11 hq3 hn1'
                     have l20 := hidd (K11a.out.l35 4 rfl hn.out))
                  | (with_reducible show wpList _ _ _ (⟨_, Op.load 35 _, _, _, _, _⟩ :: _) _ _; refine wpList_load_want (by kernel_rfl) 35 _ rfl _ rfl _ (by with_reducible exact l20.out) ?_)
                  | (with_reducible show wpList _ _ _ (⟨_, Op.store 35 (Operand.tmp 10) _, _, _, _, _⟩ :: _) _ _; refine wpList_store_new rfl rfl 35 (.tmp 10) _ rfl _ _ cn rfl Sh.symm rfl (size_ms hn.out) (Eq.trans (b := 63) (by kernel_rfl) hn.out.size.symm) hn.out.ones ?_
                     have K12 := hidd (K11a.out.new Sh 35 cn)
                     generalize V11.alloc (.cells cn 35) = V12 at K12 ⊢
                     have t21 := hidd (K12.out.there 5 rfl (o := 9) (n := aTwo.length) (by rw [hn.out.size, aTwo_is.len]; omega))
                     have hn2 := hidd (hn.out.setTarget aTwo_is)
                     have K13 := hidd (K12.out.over 5 rfl 9 (aTwo.map (Value.int .u8)))
                     have t22 := hidd (K13.out.there 5 rfl (o := 25) (n := aFar.length) (by rw [hn2.out.size, aFar_is.len]; omega))
                     have hn3 := hidd (hn2.out.setDest aFar_is)
                     have K14 := hidd (K13.out.over 5 rfl 25 (aFar.map (Value.int .u8)))
                     have i23 := K14.out.cell 5 rfl hn3.out.flags
                     have j23 := K14.out.frozen 5 rfl 5
                     have hn4 := hidd (hn3.out.setFlags (v := 0) (by omega) (by omega))
                     have K15 := hidd (K14.out.set 5 rfl 5 (.int .u8 0))
                     have l24 := hidd (K15.out.l30 3 rfl hq.out)
                     have l25 := hidd (K15.out.l35 5 rfl hn4.out))
                  | (with_reducible show wpList _ _ _ (⟨_, Op.store 23 (Operand.tmp 84) _, _, _, _, _⟩ :: _) _ _; refine wpList_store_bytes rfl rfl 23 (.tmp 84) _ rfl _ _ aTwo rfl rfl t21.out (info23' aTwo_is) ?_)
                  | (with_reducible show wpList _ _ _ (⟨_, Op.store 23 (Operand.tmp 86) _, _, _, _, _⟩ :: _) _ _; refine wpList_store_bytes rfl rfl 23 (.tmp 86) _ rfl _ _ aFar rfl rfl t22.out (info23' aFar_is) ?_)
                  | (with_reducible show wpList _ _ _ (⟨_, Op.load 30 _, _, _, _, _⟩ :: _) _ _; refine wpList_load_want (by kernel_rfl) 30 _ rfl _ rfl _ (by with_reducible exact l24.out) ?_)
                  | (with_reducible show wpList _ _ _ (⟨_, Op.load 35 _, _, _, _, _⟩ :: _) _ _; refine wpList_load_want (by kernel_rfl) 35 _ rfl _ rfl _ (by with_reducible exact l25.out) ?_))
                refine (valid_any _ _ _ ⟨a1, p.dst, 1, true⟩ ⟨m.kind, 0, 0, aTwo, aFar, m.ks⟩ (K15.out.gl hG.out) hq.out ((((hmm _ K15.out.bel).out.setTarget aTwo_is).setDest aFar_is).setFlags (v := 0) (by omega) (by omega))).mono ?_
                rintro e V40 ⟨rfl, b40⟩
                rw [show valid ⟨a1, p.dst, 1, true⟩ ⟨m.kind, 0, 0, aTwo, aFar, m.ks⟩ = true by
                  have := valid_plain (d := p.dst) (ks := m.ks) hk
                  rwa [show ownB m = 1 by simp [ownB, hl]] at this]
                have Q40 := hidd (K15.out.call b40)
                clear l24 l25
                go_wp2_with fail
                refine (lives_any _ (Q40.out.gl hG.out)).mono ?_
                rintro e V25 ⟨rfl, b25⟩
                have Q25 := hidd (Q40.out.call b25)
                clear b25
                go_wp2
                go_ret
                exact ⟨rfl, Q25.out.bel⟩
              · skip
                have hz1b : (z1 != 0) = true := by simpa using hz1
                have la := hidd (Q24.out.l30 0 rfl hP.out)
                obtain ⟨g, Sg⟩ : ∃ g, V24.heap.size = g := ⟨_, rfl⟩
                go_wp2_with (first
                  | (with_reducible show wpList _ _ _ (⟨_, Op.load 30 _, _, _, _, _⟩ :: _) _ _; refine wpList_load_want (by kernel_rfl) 30 _ rfl _ rfl _ (by with_reducible exact la.out) ?_)
                  | (with_reducible show wpList _ _ _ (⟨_, Op.store 30 (Operand.tmp 8) _, _, _, _, _⟩ :: _) _ _; refine wpList_store_new rfl rfl 30 (.tmp 8) _ rfl _ _ cp rfl Sg.symm rfl (size_pk hP.out) (Eq.trans (b := 40) (by kernel_rfl) hP.out.size.symm) hP.out.ones ?_
                     have K4 := hidd (Q24.out.new Sg 30 cp)
                     have S4 := size_new Sg (.cells cp 30)
                     generalize V24.alloc (.cells cp 30) = V4 at K4 S4 ⊢
                     have cz := K4.out.cell 2 rfl (i := 0) (v := .int .u8 1) rfl
                     have cq := K4.out.cell 3 rfl hP.out.hops
                     have fq := K4.out.frozen 3 rfl 32
                     have K5 := hidd (K4.out.set 3 rfl 32 (.int .u8 1))
                     have S5 := size_set S4 ⟨g, 32, none⟩ (.int .u8 1)
                     have lb := hidd (K5.out.l35 1 rfl hM.out.is))
                  | (with_reducible show wpList _ _ _ (⟨_, Op.load 35 _, _, _, _, _⟩ :: _) _ _; refine wpList_load_want (by kernel_rfl) 35 _ rfl _ rfl _ (by with_reducible exact lb.out) ?_)
                  | (with_reducible show wpList _ _ _ (⟨_, Op.store 35 (Operand.tmp 9) _, _, _, _, _⟩ :: _) _ _; refine wpList_store_new rfl rfl 35 (.tmp 9) _ rfl _ _ cm rfl S5.symm rfl (size_ms hM.out.is) (Eq.trans (b := 63) (by kernel_rfl) hM.out.is.size.symm) hM.out.is.ones ?_
                     have K6 := hidd (K5.out.new S5 35 cm)
                     have S6 := size_new S5 (.cells cm 35)
                     generalize (V4.setCell ⟨g, 32, none⟩ (.int .u8 1)).alloc (.cells cm 35) = V6 at K6 S6 ⊢
                     have cz1 := K6.out.cell 2 rfl (i := 1) (v := .int .u8 z1) rfl
                     have cn := K6.out.cell 4 rfl hM.out.is.code
                     have fn := K6.out.frozen 4 rfl 1
                     have K7 := hidd (K6.out.set 4 rfl 1 (.int .u8 z1))
                     have cy0 := K7.out.cell 2 rfl (i := 0) (v := .int .u8 1) rfl
                     have cy1 := K7.out.cell 2 rfl (i := 1) (v := .int .u8 z1) rfl
                     have cy0b := K6.out.cell 2 rfl (i := 0) (v := .int .u8 1) rfl
                     clear la lb K4 S4 cz cq fq S5
                     have lc := hidd (K7.out.l30 3 rfl (hP.out.setHops (v := 1) (by omega) (by omega)))
                     have ld := hidd (K7.out.l35 4 rfl (hM.out.is.setCode (v := z1) (by omega) (by omega))))
                  | (with_reducible show wpList _ _ _ (⟨_, Op.load 30 _, _, _, _, _⟩ :: _) _ _; refine wpList_load_want (by kernel_rfl) 30 _ rfl _ rfl _ (by with_reducible exact lc.out) ?_)
                  | (with_reducible show wpList _ _ _ (⟨_, Op.load 35 _, _, _, _, _⟩ :: _) _ _; refine wpList_load_want (by kernel_rfl) 35 _ rfl _ rfl _ (by with_reducible exact ld.out) ?_))
                refine (valid_any _ _ _ { p with hops := 1 } { m with code := z1 } (K7.out.gl hG.out) (hP.out.setHops (by omega) (by omega)) ((mm _ K7.out.bel).out.setCode (by omega) (by omega))).mono ?_
                rintro e V30 ⟨rfl, b30⟩
                rw [show valid { p with hops := 1 } { m with code := z1 } = false by
                  refine valid_not (m := { m with code := z1 }) hk ?_
                  show (1 == ownB m && z1 == 0) = false
                  rw [show ownB m = 1 by simp [ownB, hl]]
                  simp [hz1]]
                have Q30 := hidd (K7.out.call b30)
                clear lc ld cy0 cy1 cy0b cz1 cn fn b30
                have flag : True := trivial
                go_wp2_with (first
                  | (with_reducible show wpList _ _ _ (⟨some 77, _, _, _, _, _⟩ :: _) _ _; clear flag
                     have hq0 := hP.out.setHops (v := 1) (by omega) (by omega)
                     have hn0 := hM.out.is.setCode (v := z1) (by omega) (by omega)
                     have i16 := Q30.out.cell 3 rfl hq0.hops
                     have j16 := Q30.out.frozen 3 rfl 32
                     have K8 := hidd (Q30.out.set 3 rfl 32 (.int .u8 1))
                     have hq1 := hq0.setHops (v := 1) (by omega) (by omega)
                     have i17 := K8.out.cell 3 rfl hq1.alert
                     have j17 := K8.out.frozen 3 rfl 33
                     have i17b := Q30.out.cell 3 rfl hq0.alert
                     have j17b := Q30.out.frozen 3 rfl 33
                     have K9 := hidd (K8.out.set 3 rfl 33 (.bool true))
                     have hq2 := hq1.setAlert true
                     have i18 := K9.out.cell 4 rfl hn0.code
                     have j18 := K9.out.frozen 4 rfl 1
                     have i18b := Q30.out.cell 4 rfl hn0.code
                     have j18b := Q30.out.frozen 4 rfl 1
                     have K10 := hidd (K9.out.set 4 rfl 1 (.int .u8 0))
                     have hn1 := hn0.setCode (v := 0) (by omega) (by omega)
                     have t19 := hidd (K10.out.there 3 rfl (o := 0) (n := a1.length) (by rw [hq2.size, a1_is.len]; omega))
                     have hq3 := hidd (hq2.setSrc a1_is)
                     have K11 := hidd (K10.out.over 3 rfl 0 (a1.map (Value.int .u8)))
                     have hn1' := hidd hn1
                     clear hq0 hq1 hq2 hn0)
                  | (with_reducible show wpList _ _ _ (⟨_, Op.build 23 #[(0, Operand.const (Value.int IntKind.u8 254)), (1, Operand.const (Value.int IntKind.u8 128)), (15, Operand.const (Value.int IntKind.u8 1))], _, _, _, _⟩ :: _) _ _; refine wpList_build_want rfl 23 #[(0, .const (.int .u8 254)), (1, .const (.int .u8 128)), (15, .const (.int .u8 1))] rfl (bytesV a1) (by kernel_rfl) ?_)
                  | (with_reducible show wpList _ _ _ (⟨_, Op.build 23 #[(0, Operand.const (Value.int IntKind.u8 254)), (1, Operand.const (Value.int IntKind.u8 128)), (15, Operand.const (Value.int IntKind.u8 2))], _, _, _, _⟩ :: _) _ _; refine wpList_build_want rfl 23 #[(0, .const (.int .u8 254)), (1, .const (.int .u8 128)), (15, .const (.int .u8 2))] rfl (bytesV aTwo) (by kernel_rfl) ?_)
                  | (with_reducible show wpList _ _ _ (⟨_, Op.build 23 #[(0, Operand.const (Value.int IntKind.u8 32)), (15, Operand.const (Value.int IntKind.u8 3))], _, _, _, _⟩ :: _) _ _; refine wpList_build_want rfl 23 #[(0, .const (.int .u8 32)), (15, .const (.int .u8 3))] rfl (bytesV aFar) (by kernel_rfl) ?_)
                  | (with_reducible show wpList _ _ _ (⟨_, Op.store 23 (Operand.tmp 81) _, _, _, _, _⟩ :: _) _ _; refine wpList_store_bytes rfl rfl 23 (.tmp 81) _ rfl _ _ a1 rfl rfl t19.out (info23' a1_is) ?_
                     generalize (((V30.setCell ⟨g, 32, none⟩ (.int .u8 1)).setCell ⟨g, 33, none⟩ (.bool true)).setCell ⟨g + 1, 1, none⟩ (.int .u8 0)).setCells g 0 (a1.map (Value.int .u8)) = V11 at K11 ⊢
                     obtain ⟨h, Sh⟩ : ∃ h, V11.heap.size = h := ⟨_, rfl⟩
                     obtain ⟨cq, cn, K11a, hq, hn, hmm⟩ : ∃ (cq cn : Array Value), Hid (Kp w V11 [(w.heap.size, 30, cp), (w.heap.size + 1, 35, cm), (w.heap.size + 1 + 1, 43, #[.int .u8 1, .int .u8 z1]), (g, 30, cq), (g + 1, 35, cn)]) ∧ Hid (IsPk cq ⟨a1, p.dst, 1, true⟩) ∧ Hid (IsMs w w.heap.size cn { m with code := 0 }) ∧ (∀ V, Below w.heap.size w V → Hid (IsMs V V.heap.size cn { m with code := 0 })) :=
                       ⟨_, _, K11, hq3, hn1', fun V hV => ((mm V hV).out.setCode (v := z1) (by omega) (by omega)).setCode (v := 0) (by omega) (by omega)⟩
                     clear K11 hq3 hn1'
                     have l20 := hidd (K11a.out.l35 4 rfl hn.out))
                  | (with_reducible show wpList _ _ _ (⟨_, Op.load 35 _, _, _, _, _⟩ :: _) _ _; refine wpList_load_want (by kernel_rfl) 35 _ rfl _ rfl _ (by with_reducible exact l20.out) ?_)
                  | (with_reducible show wpList _ _ _ (⟨_, Op.store 35 (Operand.tmp 10) _, _, _, _, _⟩ :: _) _ _; refine wpList_store_new rfl rfl 35 (.tmp 10) _ rfl _ _ cn rfl Sh.symm rfl (size_ms hn.out) (Eq.trans (b := 63) (by kernel_rfl) hn.out.size.symm) hn.out.ones ?_
                     have K12 := hidd (K11a.out.new Sh 35 cn)
                     generalize V11.alloc (.cells cn 35) = V12 at K12 ⊢
                     have t21 := hidd (K12.out.there 5 rfl (o := 9) (n := aTwo.length) (by rw [hn.out.size, aTwo_is.len]; omega))
                     have hn2 := hidd (hn.out.setTarget aTwo_is)
                     have K13 := hidd (K12.out.over 5 rfl 9 (aTwo.map (Value.int .u8)))
                     have t22 := hidd (K13.out.there 5 rfl (o := 25) (n := aFar.length) (by rw [hn2.out.size, aFar_is.len]; omega))
                     have hn3 := hidd (hn2.out.setDest aFar_is)
                     have K14 := hidd (K13.out.over 5 rfl 25 (aFar.map (Value.int .u8)))
                     have i23 := K14.out.cell 5 rfl hn3.out.flags
                     have j23 := K14.out.frozen 5 rfl 5
                     have hn4 := hidd (hn3.out.setFlags (v := 0) (by omega) (by omega))
                     have K15 := hidd (K14.out.set 5 rfl 5 (.int .u8 0))
                     have l24 := hidd (K15.out.l30 3 rfl hq.out)
                     have l25 := hidd (K15.out.l35 5 rfl hn4.out))
                  | (with_reducible show wpList _ _ _ (⟨_, Op.store 23 (Operand.tmp 84) _, _, _, _, _⟩ :: _) _ _; refine wpList_store_bytes rfl rfl 23 (.tmp 84) _ rfl _ _ aTwo rfl rfl t21.out (info23' aTwo_is) ?_)
                  | (with_reducible show wpList _ _ _ (⟨_, Op.store 23 (Operand.tmp 86) _, _, _, _, _⟩ :: _) _ _; refine wpList_store_bytes rfl rfl 23 (.tmp 86) _ rfl _ _ aFar rfl rfl t22.out (info23' aFar_is) ?_)
                  | (with_reducible show wpList _ _ _ (⟨_, Op.load 30 _, _, _, _, _⟩ :: _) _ _; refine wpList_load_want (by kernel_rfl) 30 _ rfl _ rfl _ (by with_reducible exact l24.out) ?_)
                  | (with_reducible show wpList _ _ _ (⟨_, Op.load 35 _, _, _, _, _⟩ :: _) _ _; refine wpList_load_want (by kernel_rfl) 35 _ rfl _ rfl _ (by with_reducible exact l25.out) ?_))
                refine (valid_any _ _ _ ⟨a1, p.dst, 1, true⟩ ⟨m.kind, 0, 0, aTwo, aFar, m.ks⟩ (K15.out.gl hG.out) hq.out ((((hmm _ K15.out.bel).out.setTarget aTwo_is).setDest aFar_is).setFlags (v := 0) (by omega) (by omega))).mono ?_
                rintro e V40 ⟨rfl, b40⟩
                rw [show valid ⟨a1, p.dst, 1, true⟩ ⟨m.kind, 0, 0, aTwo, aFar, m.ks⟩ = true by
                  have := valid_plain (d := p.dst) (ks := m.ks) hk
                  rwa [show ownB m = 1 by simp [ownB, hl]] at this]
                have Q40 := hidd (K15.out.call b40)
                clear l24 l25
                go_wp2_with fail
                refine (lives_any _ (Q40.out.gl hG.out)).mono ?_
                rintro e V26 ⟨rfl, b26⟩
                have Q26 := hidd (Q40.out.call b26)
                clear b26
                go_wp2
                go_ret
                exact ⟨rfl, Q26.out.bel⟩
            · skip
              have hz0b : (z0 != 1) = true := by simpa using hz0
              have la := hidd (Q24.out.l30 0 rfl hP.out)
              obtain ⟨g, Sg⟩ : ∃ g, V24.heap.size = g := ⟨_, rfl⟩
              go_wp2_with (first
                | (with_reducible show wpList _ _ _ (⟨_, Op.load 30 _, _, _, _, _⟩ :: _) _ _; refine wpList_load_want (by kernel_rfl) 30 _ rfl _ rfl _ (by with_reducible exact la.out) ?_)
                | (with_reducible show wpList _ _ _ (⟨_, Op.store 30 (Operand.tmp 8) _, _, _, _, _⟩ :: _) _ _; refine wpList_store_new rfl rfl 30 (.tmp 8) _ rfl _ _ cp rfl Sg.symm rfl (size_pk hP.out) (Eq.trans (b := 40) (by kernel_rfl) hP.out.size.symm) hP.out.ones ?_
                   have K4 := hidd (Q24.out.new Sg 30 cp)
                   have S4 := size_new Sg (.cells cp 30)
                   generalize V24.alloc (.cells cp 30) = V4 at K4 S4 ⊢
                   have cz := K4.out.cell 2 rfl (i := 0) (v := .int .u8 z0) rfl
                   have cq := K4.out.cell 3 rfl hP.out.hops
                   have fq := K4.out.frozen 3 rfl 32
                   have K5 := hidd (K4.out.set 3 rfl 32 (.int .u8 z0))
                   have S5 := size_set S4 ⟨g, 32, none⟩ (.int .u8 z0)
                   have lb := hidd (K5.out.l35 1 rfl hM.out.is))
                | (with_reducible show wpList _ _ _ (⟨_, Op.load 35 _, _, _, _, _⟩ :: _) _ _; refine wpList_load_want (by kernel_rfl) 35 _ rfl _ rfl _ (by with_reducible exact lb.out) ?_)
                | (with_reducible show wpList _ _ _ (⟨_, Op.store 35 (Operand.tmp 9) _, _, _, _, _⟩ :: _) _ _; refine wpList_store_new rfl rfl 35 (.tmp 9) _ rfl _ _ cm rfl S5.symm rfl (size_ms hM.out.is) (Eq.trans (b := 63) (by kernel_rfl) hM.out.is.size.symm) hM.out.is.ones ?_
                   have K6 := hidd (K5.out.new S5 35 cm)
                   have S6 := size_new S5 (.cells cm 35)
                   generalize (V4.setCell ⟨g, 32, none⟩ (.int .u8 z0)).alloc (.cells cm 35) = V6 at K6 S6 ⊢
                   have cz1 := K6.out.cell 2 rfl (i := 1) (v := .int .u8 z1) rfl
                   have cn := K6.out.cell 4 rfl hM.out.is.code
                   have fn := K6.out.frozen 4 rfl 1
                   have K7 := hidd (K6.out.set 4 rfl 1 (.int .u8 z1))
                   have cy0 := K7.out.cell 2 rfl (i := 0) (v := .int .u8 z0) rfl
                   have cy1 := K7.out.cell 2 rfl (i := 1) (v := .int .u8 z1) rfl
                   have cy0b := K6.out.cell 2 rfl (i := 0) (v := .int .u8 z0) rfl
                   clear la lb K4 S4 cz cq fq S5
                   have lc := hidd (K7.out.l30 3 rfl (hP.out.setHops (v := z0) (by omega) (by omega)))
                   have ld := hidd (K7.out.l35 4 rfl (hM.out.is.setCode (v := z1) (by omega) (by omega))))
                | (with_reducible show wpList _ _ _ (⟨_, Op.load 30 _, _, _, _, _⟩ :: _) _ _; refine wpList_load_want (by kernel_rfl) 30 _ rfl _ rfl _ (by with_reducible exact lc.out) ?_)
                | (with_reducible show wpList _ _ _ (⟨_, Op.load 35 _, _, _, _, _⟩ :: _) _ _; refine wpList_load_want (by kernel_rfl) 35 _ rfl _ rfl _ (by with_reducible exact ld.out) ?_))
              refine (valid_any _ _ _ { p with hops := z0 } { m with code := z1 } (K7.out.gl hG.out) (hP.out.setHops (by omega) (by omega)) ((mm _ K7.out.bel).out.setCode (by omega) (by omega))).mono ?_
              rintro e V30 ⟨rfl, b30⟩
              rw [show valid { p with hops := z0 } { m with code := z1 } = false by
                refine valid_not (m := { m with code := z1 }) hk ?_
                show (z0 == ownB m && z1 == 0) = false
                rw [show ownB m = 1 by simp [ownB, hl]]
                simp [hz0]]
              have Q30 := hidd (K7.out.call b30)
              clear lc ld cy0 cy1 cy0b cz1 cn fn b30
              have flag : True := trivial
              go_wp2_with (first
                | (with_reducible show wpList _ _ _ (⟨some 77, _, _, _, _, _⟩ :: _) _ _; clear flag
                   have hq0 := hP.out.setHops (v := z0) (by omega) (by omega)
                   have hn0 := hM.out.is.setCode (v := z1) (by omega) (by omega)
                   have i16 := Q30.out.cell 3 rfl hq0.hops
                   have j16 := Q30.out.frozen 3 rfl 32
                   have K8 := hidd (Q30.out.set 3 rfl 32 (.int .u8 1))
                   have hq1 := hq0.setHops (v := 1) (by omega) (by omega)
                   have i17 := K8.out.cell 3 rfl hq1.alert
                   have j17 := K8.out.frozen 3 rfl 33
                   have i17b := Q30.out.cell 3 rfl hq0.alert
                   have j17b := Q30.out.frozen 3 rfl 33
                   have K9 := hidd (K8.out.set 3 rfl 33 (.bool true))
                   have hq2 := hq1.setAlert true
                   have i18 := K9.out.cell 4 rfl hn0.code
                   have j18 := K9.out.frozen 4 rfl 1
                   have i18b := Q30.out.cell 4 rfl hn0.code
                   have j18b := Q30.out.frozen 4 rfl 1
                   have K10 := hidd (K9.out.set 4 rfl 1 (.int .u8 0))
                   have hn1 := hn0.setCode (v := 0) (by omega) (by omega)
                   have t19 := hidd (K10.out.there 3 rfl (o := 0) (n := a1.length) (by rw [hq2.size, a1_is.len]; omega))
                   have hq3 := hidd (hq2.setSrc a1_is)
                   have K11 := hidd (K10.out.over 3 rfl 0 (a1.map (Value.int .u8)))
                   have hn1' := hidd hn1
                   clear hq0 hq1 hq2 hn0)
                | (with_reducible show wpList _ _ _ (⟨_, Op.build 23 #[(0, Operand.const (Value.int IntKind.u8 254)), (1, Operand.const (Value.int IntKind.u8 128)), (15, Operand.const (Value.int IntKind.u8 1))], _, _, _, _⟩ :: _) _ _; refine wpList_build_want rfl 23 #[(0, .const (.int .u8 254)), (1, .const (.int .u8 128)), (15, .const (.int .u8 1))] rfl (bytesV a1) (by kernel_rfl) ?_)
                | (with_reducible show wpList _ _ _ (⟨_, Op.build 23 #[(0, Operand.const (Value.int IntKind.u8 254)), (1, Operand.const (Value.int IntKind.u8 128)), (15, Operand.const (Value.int IntKind.u8 2))], _, _, _, _⟩ :: _) _ _; refine wpList_build_want rfl 23 #[(0, .const (.int .u8 254)), (1, .const (.int .u8 128)), (15, .const (.int .u8 2))] rfl (bytesV aTwo) (by kernel_rfl) ?_)
                | (with_reducible show wpList _ _ _ (⟨_, Op.build 23 #[(0, Operand.const (Value.int IntKind.u8 32)), (15, Operand.const (Value.int IntKind.u8 3))], _, _, _, _⟩ :: _) _ _; refine wpList_build_want rfl 23 #[(0, .const (.int .u8 32)), (15, .const (.int .u8 3))] rfl (bytesV aFar) (by kernel_rfl) ?_)
                | (with_reducible show wpList _ _ _ (⟨_, Op.store 23 (Operand.tmp 81) _, _, _, _, _⟩ :: _) _ _; refine wpList_store_bytes rfl rfl 23 (.tmp 81) _ rfl _ _ a1 rfl rfl t19.out (info23' a1_is) ?_
                   generalize (((V30.setCell ⟨g, 32, none⟩ (.int .u8 1)).setCell ⟨g, 33, none⟩ (.bool true)).setCell ⟨g + 1, 1, none⟩ (.int .u8 0)).setCells g 0 (a1.map (Value.int .u8)) = V11 at K11 ⊢
                   obtain ⟨h, Sh⟩ : ∃ h, V11.heap.size = h := ⟨_, rfl⟩
                   obtain ⟨cq, cn, K11a, hq, hn, hmm⟩ : ∃ (cq cn : Array Value), Hid (Kp w V11 [(w.heap.size, 30, cp), (w.heap.size + 1, 35, cm), (w.heap.size + 1 + 1, 43, #[.int .u8 z0, .int .u8 z1]), (g, 30, cq), (g + 1, 35, cn)]) ∧ Hid (IsPk cq ⟨a1, p.dst, 1, true⟩) ∧ Hid (IsMs w w.heap.size cn { m with code := 0 }) ∧ (∀ V, Below w.heap.size w V → Hid (IsMs V V.heap.size cn { m with code := 0 })) :=
                     ⟨_, _, K11, hq3, hn1', fun V hV => ((mm V hV).out.setCode (v := z1) (by omega) (by omega)).setCode (v := 0) (by omega) (by omega)⟩
                   clear K11 hq3 hn1'
                   have l20 := hidd (K11a.out.l35 4 rfl hn.out))
                | (with_reducible show wpList _ _ _ (⟨_, Op.load 35 _, _, _, _, _⟩ :: _) _ _; refine wpList_load_want (by kernel_rfl) 35 _ rfl _ rfl _ (by with_reducible exact l20.out) ?_)
                | (with_reducible show wpList _ _ _ (⟨_, Op.store 35 (Operand.tmp 10) _, _, _, _, _⟩ :: _) _ _; refine wpList_store_new rfl rfl 35 (.tmp 10) _ rfl _ _ cn rfl Sh.symm rfl (size_ms hn.out) (Eq.trans (b := 63) (by kernel_rfl) hn.out.size.symm) hn.out.ones ?_
                   have K12 := hidd (K11a.out.new Sh 35 cn)
                   generalize V11.alloc (.cells cn 35) = V12 at K12 ⊢
                   have t21 := hidd (K12.out.there 5 rfl (o := 9) (n := aTwo.length) (by rw [hn.out.size, aTwo_is.len]; omega))
                   have hn2 := hidd (hn.out.setTarget aTwo_is)
                   have K13 := hidd (K12.out.over 5 rfl 9 (aTwo.map (Value.int .u8)))
                   have t22 := hidd (K13.out.there 5 rfl (o := 25) (n := aFar.length) (by rw [hn2.out.size, aFar_is.len]; omega))
                   have hn3 := hidd (hn2.out.setDest aFar_is)
                   have K14 := hidd (K13.out.over 5 rfl 25 (aFar.map (Value.int .u8)))
                   have i23 := K14.out.cell 5 rfl hn3.out.flags
                   have j23 := K14.out.frozen 5 rfl 5
                   have hn4 := hidd (hn3.out.setFlags (v := 0) (by omega) (by omega))
                   have K15 := hidd (K14.out.set 5 rfl 5 (.int .u8 0))
                   have l24 := hidd (K15.out.l30 3 rfl hq.out)
                   have l25 := hidd (K15.out.l35 5 rfl hn4.out))
                | (with_reducible show wpList _ _ _ (⟨_, Op.store 23 (Operand.tmp 84) _, _, _, _, _⟩ :: _) _ _; refine wpList_store_bytes rfl rfl 23 (.tmp 84) _ rfl _ _ aTwo rfl rfl t21.out (info23' aTwo_is) ?_)
                | (with_reducible show wpList _ _ _ (⟨_, Op.store 23 (Operand.tmp 86) _, _, _, _, _⟩ :: _) _ _; refine wpList_store_bytes rfl rfl 23 (.tmp 86) _ rfl _ _ aFar rfl rfl t22.out (info23' aFar_is) ?_)
                | (with_reducible show wpList _ _ _ (⟨_, Op.load 30 _, _, _, _, _⟩ :: _) _ _; refine wpList_load_want (by kernel_rfl) 30 _ rfl _ rfl _ (by with_reducible exact l24.out) ?_)
                | (with_reducible show wpList _ _ _ (⟨_, Op.load 35 _, _, _, _, _⟩ :: _) _ _; refine wpList_load_want (by kernel_rfl) 35 _ rfl _ rfl _ (by with_reducible exact l25.out) ?_))
              refine (valid_any _ _ _ ⟨a1, p.dst, 1, true⟩ ⟨m.kind, 0, 0, aTwo, aFar, m.ks⟩ (K15.out.gl hG.out) hq.out ((((hmm _ K15.out.bel).out.setTarget aTwo_is).setDest aFar_is).setFlags (v := 0) (by omega) (by omega))).mono ?_
              rintro e V40 ⟨rfl, b40⟩
              rw [show valid ⟨a1, p.dst, 1, true⟩ ⟨m.kind, 0, 0, aTwo, aFar, m.ks⟩ = true by
                have := valid_plain (d := p.dst) (ks := m.ks) hk
                rwa [show ownB m = 1 by simp [ownB, hl]] at this]
              have Q40 := hidd (K15.out.call b40)
              clear l24 l25
              go_wp2_with fail
              refine (lives_any _ (Q40.out.gl hG.out)).mono ?_
              rintro e V27 ⟨rfl, b27⟩
              have Q27 := hidd (Q40.out.call b27)
              clear b27
              go_wp2
              go_ret
              exact ⟨rfl, Q27.out.bel⟩
          · skip
            obtain ⟨v1, v2, v3⟩ := valid_so hk hv
            rw [show ownB m = 1 by simp [ownB, hl]] at v1
            have ca := Q24.out.cell 0 rfl hP.out.hops
            rw [v1] at ca
            have cb := Q24.out.cell 1 rfl hM.out.is.code
            rw [v2] at cb
            have lb := hidd (Q24.out.l35 1 rfl hM.out.is)
            go_wp2_with (first
              | (with_reducible show wpList _ _ _ (⟨_, Op.load 35 _, _, _, _, _⟩ :: _) _ _; refine wpList_load_want (by kernel_rfl) 35 _ rfl _ rfl _ (by with_reducible exact lb.out) ?_))
            refine (listens_any V24 _ m hM.out.is).mono ?_
            rintro e V28 ⟨rfl, b28⟩
            rw [hl]
            have Q28 := hidd (Q24.out.call b28)
            clear b28
            clear ca cb lb
            have cc := Q28.out.cell 0 rfl hP.out.alert
            rw [v3 hl] at cc
            by_cases hz0 : z0 = 1
            · skip
              subst hz0
              by_cases hz1 : z1 = 0
              · skip
                subst hz1
                have la := hidd (Q28.out.l30 0 rfl hP.out)
                obtain ⟨g, Sg⟩ : ∃ g, V28.heap.size = g := ⟨_, rfl⟩
                have flag : True := trivial
                go_wp2_with (first
                  | (with_reducible show wpList _ _ _ (⟨some 77, _, _, _, _, _⟩ :: _) _ _; clear flag
                     clear cy0 cy1 cy0b cz1 cn fn
                     generalize V6.setCell ⟨g + 1, 1, none⟩ (.int .u8 0) = V7 at K7 ⊢
                     have hq0 := hP.out.setHops (v := 1) (by omega) (by omega)
                     have hn0 := hM.out.is.setCode (v := 0) (by omega) (by omega)
                     have i16 := K7.out.cell 3 rfl hq0.hops
                     have j16 := K7.out.frozen 3 rfl 32
                     have K8 := hidd (K7.out.set 3 rfl 32 (.int .u8 1))
                     have hq1 := hq0.setHops (v := 1) (by omega) (by omega)
                     have i17 := K8.out.cell 3 rfl hq1.alert
                     have j17 := K8.out.frozen 3 rfl 33
                     have i17b := K7.out.cell 3 rfl hq0.alert
                     have j17b := K7.out.frozen 3 rfl 33
                     have K9 := hidd (K8.out.set 3 rfl 33 (.bool true))
                     have hq2 := hq1.setAlert true
                     have i18 := K9.out.cell 4 rfl hn0.code
                     have j18 := K9.out.frozen 4 rfl 1
                     have i18b := K7.out.cell 4 rfl hn0.code
                     have j18b := K7.out.frozen 4 rfl 1
                     have K10 := hidd (K9.out.set 4 rfl 1 (.int .u8 0))
                     have hn1 := hn0.setCode (v := 0) (by omega) (by omega)
                     have t19 := hidd (K10.out.there 3 rfl (o := 0) (n := a1.length) (by rw [hq2.size, a1_is.len]; omega))
                     have hq3 := hidd (hq2.setSrc a1_is)
                     have K11 := hidd (K10.out.over 3 rfl 0 (a1.map (Value.int .u8)))
                     have hn1' := hidd hn1
                     clear hq0 hq1 hq2 hn0)
                  | (with_reducible show wpList _ _ _ (⟨_, Op.load 30 _, _, _, _, _⟩ :: _) _ _; refine wpList_load_want (by kernel_rfl) 30 _ rfl _ rfl _ (by with_reducible exact la.out) ?_)
                  | (with_reducible show wpList _ _ _ (⟨_, Op.store 30 (Operand.tmp 8) _, _, _, _, _⟩ :: _) _ _; refine wpList_store_new rfl rfl 30 (.tmp 8) _ rfl _ _ cp rfl Sg.symm rfl (size_pk hP.out) (Eq.trans (b := 40) (by kernel_rfl) hP.out.size.symm) hP.out.ones ?_
                     have K4 := hidd (Q28.out.new Sg 30 cp)
                     have S4 := size_new Sg (.cells cp 30)
                     generalize V28.alloc (.cells cp 30) = V4 at K4 S4 ⊢
                     have cz := K4.out.cell 2 rfl (i := 0) (v := .int .u8 1) rfl
                     have cq := K4.out.cell 3 rfl hP.out.hops
                     have fq := K4.out.frozen 3 rfl 32
                     have K5 := hidd (K4.out.set 3 rfl 32 (.int .u8 1))
                     have S5 := size_set S4 ⟨g, 32, none⟩ (.int .u8 1)
                     have lb := hidd (K5.out.l35 1 rfl hM.out.is))
                  | (with_reducible show wpList _ _ _ (⟨_, Op.load 35 _, _, _, _, _⟩ :: _) _ _; refine wpList_load_want (by kernel_rfl) 35 _ rfl _ rfl _ (by with_reducible exact lb.out) ?_)
                  | (with_reducible show wpList _ _ _ (⟨_, Op.store 35 (Operand.tmp 9) _, _, _, _, _⟩ :: _) _ _; refine wpList_store_new rfl rfl 35 (.tmp 9) _ rfl _ _ cm rfl S5.symm rfl (size_ms hM.out.is) (Eq.trans (b := 63) (by kernel_rfl) hM.out.is.size.symm) hM.out.is.ones ?_
                     have K6 := hidd (K5.out.new S5 35 cm)
                     have S6 := size_new S5 (.cells cm 35)
                     generalize (V4.setCell ⟨g, 32, none⟩ (.int .u8 1)).alloc (.cells cm 35) = V6 at K6 S6 ⊢
                     have cz1 := K6.out.cell 2 rfl (i := 1) (v := .int .u8 0) rfl
                     have cn := K6.out.cell 4 rfl hM.out.is.code
                     have fn := K6.out.frozen 4 rfl 1
                     have K7 := hidd (K6.out.set 4 rfl 1 (.int .u8 0))
                     have cy0 := K7.out.cell 2 rfl (i := 0) (v := .int .u8 1) rfl
                     have cy1 := K7.out.cell 2 rfl (i := 1) (v := .int .u8 0) rfl
                     have cy0b := K6.out.cell 2 rfl (i := 0) (v := .int .u8 1) rfl
                     clear la lb K4 S4 cz cq fq S5)
                  | (with_reducible show wpList _ _ _ (⟨_, Op.build 23 #[(0, Operand.const (Value.int IntKind.u8 254)), (1, Operand.const (Value.int IntKind.u8 128)), (15, Operand.const (Value.int IntKind.u8 1))], _, _, _, _⟩ :: _) _ _; refine wpList_build_want rfl 23 #[(0, .const (.int .u8 254)), (1, .const (.int .u8 128)), (15, .const (.int .u8 1))] rfl (bytesV a1) (by kernel_rfl) ?_)
                  | (with_reducible show wpList _ _ _ (⟨_, Op.build 23 #[(0, Operand.const (Value.int IntKind.u8 254)), (1, Operand.const (Value.int IntKind.u8 128)), (15, Operand.const (Value.int IntKind.u8 2))], _, _, _, _⟩ :: _) _ _; refine wpList_build_want rfl 23 #[(0, .const (.int .u8 254)), (1, .const (.int .u8 128)), (15, .const (.int .u8 2))] rfl (bytesV aTwo) (by kernel_rfl) ?_)
                  | (with_reducible show wpList _ _ _ (⟨_, Op.build 23 #[(0, Operand.const (Value.int IntKind.u8 32)), (15, Operand.const (Value.int IntKind.u8 3))], _, _, _, _⟩ :: _) _ _; refine wpList_build_want rfl 23 #[(0, .const (.int .u8 32)), (15, .const (.int .u8 3))] rfl (bytesV aFar) (by kernel_rfl) ?_)
                  | (with_reducible show wpList _ _ _ (⟨_, Op.store 23 (Operand.tmp 81) _, _, _, _, _⟩ :: _) _ _; refine wpList_store_bytes rfl rfl 23 (.tmp 81) _ rfl _ _ a1 rfl rfl t19.out (info23' a1_is) ?_
                     generalize (((V7.setCell ⟨g, 32, none⟩ (.int .u8 1)).setCell ⟨g, 33, none⟩ (.bool true)).setCell ⟨g + 1, 1, none⟩ (.int .u8 0)).setCells g 0 (a1.map (Value.int .u8)) = V11 at K11 ⊢
                     obtain ⟨h, Sh⟩ : ∃ h, V11.heap.size = h := ⟨_, rfl⟩
                     obtain ⟨cq, cn, K11a, hq, hn, hmm⟩ : ∃ (cq cn : Array Value), Hid (Kp w V11 [(w.heap.size, 30, cp), (w.heap.size + 1, 35, cm), (w.heap.size + 1 + 1, 43, #[.int .u8 1, .int .u8 0]), (g, 30, cq), (g + 1, 35, cn)]) ∧ Hid (IsPk cq ⟨a1, p.dst, 1, true⟩) ∧ Hid (IsMs w w.heap.size cn { m with code := 0 }) ∧ (∀ V, Below w.heap.size w V → Hid (IsMs V V.heap.size cn { m with code := 0 })) :=
                       ⟨_, _, K11, hq3, hn1', fun V hV => ((mm V hV).out.setCode (v := 0) (by omega) (by omega)).setCode (v := 0) (by omega) (by omega)⟩
                     clear K11 hq3 hn1'
                     have l20 := hidd (K11a.out.l35 4 rfl hn.out))
                  | (with_reducible show wpList _ _ _ (⟨_, Op.load 35 _, _, _, _, _⟩ :: _) _ _; refine wpList_load_want (by kernel_rfl) 35 _ rfl _ rfl _ (by with_reducible exact l20.out) ?_)
                  | (with_reducible show wpList _ _ _ (⟨_, Op.store 35 (Operand.tmp 10) _, _, _, _, _⟩ :: _) _ _; refine wpList_store_new rfl rfl 35 (.tmp 10) _ rfl _ _ cn rfl Sh.symm rfl (size_ms hn.out) (Eq.trans (b := 63) (by kernel_rfl) hn.out.size.symm) hn.out.ones ?_
                     have K12 := hidd (K11a.out.new Sh 35 cn)
                     generalize V11.alloc (.cells cn 35) = V12 at K12 ⊢
                     have t21 := hidd (K12.out.there 5 rfl (o := 9) (n := aTwo.length) (by rw [hn.out.size, aTwo_is.len]; omega))
                     have hn2 := hidd (hn.out.setTarget aTwo_is)
                     have K13 := hidd (K12.out.over 5 rfl 9 (aTwo.map (Value.int .u8)))
                     have t22 := hidd (K13.out.there 5 rfl (o := 25) (n := aFar.length) (by rw [hn2.out.size, aFar_is.len]; omega))
                     have hn3 := hidd (hn2.out.setDest aFar_is)
                     have K14 := hidd (K13.out.over 5 rfl 25 (aFar.map (Value.int .u8)))
                     have i23 := K14.out.cell 5 rfl hn3.out.flags
                     have j23 := K14.out.frozen 5 rfl 5
                     have hn4 := hidd (hn3.out.setFlags (v := 0) (by omega) (by omega))
                     have K15 := hidd (K14.out.set 5 rfl 5 (.int .u8 0))
                     have l24 := hidd (K15.out.l30 3 rfl hq.out)
                     have l25 := hidd (K15.out.l35 5 rfl hn4.out))
                  | (with_reducible show wpList _ _ _ (⟨_, Op.store 23 (Operand.tmp 84) _, _, _, _, _⟩ :: _) _ _; refine wpList_store_bytes rfl rfl 23 (.tmp 84) _ rfl _ _ aTwo rfl rfl t21.out (info23' aTwo_is) ?_)
                  | (with_reducible show wpList _ _ _ (⟨_, Op.store 23 (Operand.tmp 86) _, _, _, _, _⟩ :: _) _ _; refine wpList_store_bytes rfl rfl 23 (.tmp 86) _ rfl _ _ aFar rfl rfl t22.out (info23' aFar_is) ?_)
                  | (with_reducible show wpList _ _ _ (⟨_, Op.load 30 _, _, _, _, _⟩ :: _) _ _; refine wpList_load_want (by kernel_rfl) 30 _ rfl _ rfl _ (by with_reducible exact l24.out) ?_)
                  | (with_reducible show wpList _ _ _ (⟨_, Op.load 35 _, _, _, _, _⟩ :: _) _ _; refine wpList_load_want (by kernel_rfl) 35 _ rfl _ rfl _ (by with_reducible exact l25.out) ?_))
                refine (valid_any _ _ _ ⟨a1, p.dst, 1, true⟩ ⟨m.kind, 0, 0, aTwo, aFar, m.ks⟩ (K15.out.gl hG.out) hq.out ((((hmm _ K15.out.bel).out.setTarget aTwo_is).setDest aFar_is).setFlags (v := 0) (by omega) (by omega))).mono ?_
                rintro e V40 ⟨rfl, b40⟩
                rw [show valid ⟨a1, p.dst, 1, true⟩ ⟨m.kind, 0, 0, aTwo, aFar, m.ks⟩ = true by
                  have := valid_plain (d := p.dst) (ks := m.ks) hk
                  rwa [show ownB m = 1 by simp [ownB, hl]] at this]
                have Q40 := hidd (K15.out.call b40)
                clear l24 l25
                go_wp2_with fail
                refine (lives_any _ (Q40.out.gl hG.out)).mono ?_
                rintro e V29 ⟨rfl, b29⟩
                have Q29 := hidd (Q40.out.call b29)
                clear b29
                go_wp2
                go_ret
                exact ⟨rfl, Q29.out.bel⟩
              · skip
                have hz1b : (z1 != 0) = true := by simpa using hz1
                have la := hidd (Q28.out.l30 0 rfl hP.out)
                obtain ⟨g, Sg⟩ : ∃ g, V28.heap.size = g := ⟨_, rfl⟩
                go_wp2_with (first
                  | (with_reducible show wpList _ _ _ (⟨_, Op.load 30 _, _, _, _, _⟩ :: _) _ _; refine wpList_load_want (by kernel_rfl) 30 _ rfl _ rfl _ (by with_reducible exact la.out) ?_)
                  | (with_reducible show wpList _ _ _ (⟨_, Op.store 30 (Operand.tmp 8) _, _, _, _, _⟩ :: _) _ _; refine wpList_store_new rfl rfl 30 (.tmp 8) _ rfl _ _ cp rfl Sg.symm rfl (size_pk hP.out) (Eq.trans (b := 40) (by kernel_rfl) hP.out.size.symm) hP.out.ones ?_
                     have K4 := hidd (Q28.out.new Sg 30 cp)
                     have S4 := size_new Sg (.cells cp 30)
                     generalize V28.alloc (.cells cp 30) = V4 at K4 S4 ⊢
                     have cz := K4.out.cell 2 rfl (i := 0) (v := .int .u8 1) rfl
                     have cq := K4.out.cell 3 rfl hP.out.hops
                     have fq := K4.out.frozen 3 rfl 32
                     have K5 := hidd (K4.out.set 3 rfl 32 (.int .u8 1))
                     have S5 := size_set S4 ⟨g, 32, none⟩ (.int .u8 1)
                     have lb := hidd (K5.out.l35 1 rfl hM.out.is))
                  | (with_reducible show wpList _ _ _ (⟨_, Op.load 35 _, _, _, _, _⟩ :: _) _ _; refine wpList_load_want (by kernel_rfl) 35 _ rfl _ rfl _ (by with_reducible exact lb.out) ?_)
                  | (with_reducible show wpList _ _ _ (⟨_, Op.store 35 (Operand.tmp 9) _, _, _, _, _⟩ :: _) _ _; refine wpList_store_new rfl rfl 35 (.tmp 9) _ rfl _ _ cm rfl S5.symm rfl (size_ms hM.out.is) (Eq.trans (b := 63) (by kernel_rfl) hM.out.is.size.symm) hM.out.is.ones ?_
                     have K6 := hidd (K5.out.new S5 35 cm)
                     have S6 := size_new S5 (.cells cm 35)
                     generalize (V4.setCell ⟨g, 32, none⟩ (.int .u8 1)).alloc (.cells cm 35) = V6 at K6 S6 ⊢
                     have cz1 := K6.out.cell 2 rfl (i := 1) (v := .int .u8 z1) rfl
                     have cn := K6.out.cell 4 rfl hM.out.is.code
                     have fn := K6.out.frozen 4 rfl 1
                     have K7 := hidd (K6.out.set 4 rfl 1 (.int .u8 z1))
                     have cy0 := K7.out.cell 2 rfl (i := 0) (v := .int .u8 1) rfl
                     have cy1 := K7.out.cell 2 rfl (i := 1) (v := .int .u8 z1) rfl
                     have cy0b := K6.out.cell 2 rfl (i := 0) (v := .int .u8 1) rfl
                     clear la lb K4 S4 cz cq fq S5
                     have lc := hidd (K7.out.l30 3 rfl (hP.out.setHops (v := 1) (by omega) (by omega)))
                     have ld := hidd (K7.out.l35 4 rfl (hM.out.is.setCode (v := z1) (by omega) (by omega))))
                  | (with_reducible show wpList _ _ _ (⟨_, Op.load 30 _, _, _, _, _⟩ :: _) _ _; refine wpList_load_want (by kernel_rfl) 30 _ rfl _ rfl _ (by with_reducible exact lc.out) ?_)
                  | (with_reducible show wpList _ _ _ (⟨_, Op.load 35 _, _, _, _, _⟩ :: _) _ _; refine wpList_load_want (by kernel_rfl) 35 _ rfl _ rfl _ (by with_reducible exact ld.out) ?_))
                refine (valid_any _ _ _ { p with hops := 1 } { m with code := z1 } (K7.out.gl hG.out) (hP.out.setHops (by omega) (by omega)) ((mm _ K7.out.bel).out.setCode (by omega) (by omega))).mono ?_
                rintro e V30 ⟨rfl, b30⟩
                rw [show valid { p with hops := 1 } { m with code := z1 } = false by
                  refine valid_not (m := { m with code := z1 }) hk ?_
                  show (1 == ownB m && z1 == 0) = false
                  rw [show ownB m = 1 by simp [ownB, hl]]
                  simp [hz1]]
                have Q30 := hidd (K7.out.call b30)
                clear lc ld cy0 cy1 cy0b cz1 cn fn b30
                have flag : True := trivial
                go_wp2_with (first
                  | (with_reducible show wpList _ _ _ (⟨some 77, _, _, _, _, _⟩ :: _) _ _; clear flag
                     have hq0 := hP.out.setHops (v := 1) (by omega) (by omega)
                     have hn0 := hM.out.is.setCode (v := z1) (by omega) (by omega)
                     have i16 := Q30.out.cell 3 rfl hq0.hops
                     have j16 := Q30.out.frozen 3 rfl 32
                     have K8 := hidd (Q30.out.set 3 rfl 32 (.int .u8 1))
                     have hq1 := hq0.setHops (v := 1) (by omega) (by omega)
                     have i17 := K8.out.cell 3 rfl hq1.alert
                     have j17 := K8.out.frozen 3 rfl 33
                     have i17b := Q30.out.cell 3 rfl hq0.alert
                     have j17b := Q30.out.frozen 3 rfl 33
                     have K9 := hidd (K8.out.set 3 rfl 33 (.bool true))
                     have hq2 := hq1.setAlert true
                     have i18 := K9.out.cell 4 rfl hn0.code
                     have j18 := K9.out.frozen 4 rfl 1
                     have i18b := Q30.out.cell 4 rfl hn0.code
                     have j18b := Q30.out.frozen 4 rfl 1
                     have K10 := hidd (K9.out.set 4 rfl 1 (.int .u8 0))
                     have hn1 := hn0.setCode (v := 0) (by omega) (by omega)
                     have t19 := hidd (K10.out.there 3 rfl (o := 0) (n := a1.length) (by rw [hq2.size, a1_is.len]; omega))
                     have hq3 := hidd (hq2.setSrc a1_is)
                     have K11 := hidd (K10.out.over 3 rfl 0 (a1.map (Value.int .u8)))
                     have hn1' := hidd hn1
                     clear hq0 hq1 hq2 hn0)
                  | (with_reducible show wpList _ _ _ (⟨_, Op.build 23 #[(0, Operand.const (Value.int IntKind.u8 254)), (1, Operand.const (Value.int IntKind.u8 128)), (15, Operand.const (Value.int IntKind.u8 1))], _, _, _, _⟩ :: _) _ _; refine wpList_build_want rfl 23 #[(0, .const (.int .u8 254)), (1, .const (.int .u8 128)), (15, .const (.int .u8 1))] rfl (bytesV a1) (by kernel_rfl) ?_)
                  | (with_reducible show wpList _ _ _ (⟨_, Op.build 23 #[(0, Operand.const (Value.int IntKind.u8 254)), (1, Operand.const (Value.int IntKind.u8 128)), (15, Operand.const (Value.int IntKind.u8 2))], _, _, _, _⟩ :: _) _ _; refine wpList_build_want rfl 23 #[(0, .const (.int .u8 254)), (1, .const (.int .u8 128)), (15, .const (.int .u8 2))] rfl (bytesV aTwo) (by kernel_rfl) ?_)
                  | (with_reducible show wpList _ _ _ (⟨_, Op.build 23 #[(0, Operand.const (Value.int IntKind.u8 32)), (15, Operand.const (Value.int IntKind.u8 3))], _, _, _, _⟩ :: _) _ _; refine wpList_build_want rfl 23 #[(0, .const (.int .u8 32)), (15, .const (.int .u8 3))] rfl (bytesV aFar) (by kernel_rfl) ?_)
                  | (with_reducible show wpList _ _ _ (⟨_, Op.store 23 (Operand.tmp 81) _, _, _, _, _⟩ :: _) _ _; refine wpList_store_bytes rfl rfl 23 (.tmp 81) _ rfl _ _ a1 rfl rfl t19.out (info23' a1_is) ?_
                     generalize (((V30.setCell ⟨g, 32, none⟩ (.int .u8 1)).setCell ⟨g, 33, none⟩ (.bool true)).setCell ⟨g + 1, 1, none⟩ (.int .u8 0)).setCells g 0 (a1.map (Value.int .u8)) = V11 at K11 ⊢
                     obtain ⟨h, Sh⟩ : ∃ h, V11.heap.size = h := ⟨_, rfl⟩
                     obtain ⟨cq, cn, K11a, hq, hn, hmm⟩ : ∃ (cq cn : Array Value), Hid (Kp w V11 [(w.heap.size, 30, cp), (w.heap.size + 1, 35, cm), (w.heap.size + 1 + 1, 43, #[.int .u8 1, .int .u8 z1]), (g, 30, cq), (g + 1, 35, cn)]) ∧ Hid (IsPk cq ⟨a1, p.dst, 1, true⟩) ∧ Hid (IsMs w w.heap.size cn { m with code := 0 }) ∧ (∀ V, Below w.heap.size w V → Hid (IsMs V V.heap.size cn { m with code := 0 })) :=
                       ⟨_, _, K11, hq3, hn1', fun V hV => ((mm V hV).out.setCode (v := z1) (by omega) (by omega)).setCode (v := 0) (by omega) (by omega)⟩
                     clear K11 hq3 hn1'
                     have l20 := hidd (K11a.out.l35 4 rfl hn.out))
                  | (with_reducible show wpList _ _ _ (⟨_, Op.load 35 _, _, _, _, _⟩ :: _) _ _; refine wpList_load_want (by kernel_rfl) 35 _ rfl _ rfl _ (by with_reducible exact l20.out) ?_)
                  | (with_reducible show wpList _ _ _ (⟨_, Op.store 35 (Operand.tmp 10) _, _, _, _, _⟩ :: _) _ _; refine wpList_store_new rfl rfl 35 (.tmp 10) _ rfl _ _ cn rfl Sh.symm rfl (size_ms hn.out) (Eq.trans (b := 63) (by kernel_rfl) hn.out.size.symm) hn.out.ones ?_
                     have K12 := hidd (K11a.out.new Sh 35 cn)
                     generalize V11.alloc (.cells cn 35) = V12 at K12 ⊢
                     have t21 := hidd (K12.out.there 5 rfl (o := 9) (n := aTwo.length) (by rw [hn.out.size, aTwo_is.len]; omega))
                     have hn2 := hidd (hn.out.setTarget aTwo_is)
                     have K13 := hidd (K12.out.over 5 rfl 9 (aTwo.map (Value.int .u8)))
                     have t22 := hidd (K13.out.there 5 rfl (o := 25) (n := aFar.length) (by rw [hn2.out.size, aFar_is.len]; omega))
                     have hn3 := hidd (hn2.out.setDest aFar_is)
                     have K14 := hidd (K13.out.over 5 rfl 25 (aFar.map (Value.int .u8)))
                     have i23 := K14.out.cell 5 rfl hn3.out.flags
                     have j23 := K14.out.frozen 5 rfl 5
                     have hn4 := hidd (hn3.out.setFlags (v := 0) (by omega) (by omega))
                     have K15 := hidd (K14.out.set 5 rfl 5 (.int .u8 0))
                     have l24 := hidd (K15.out.l30 3 rfl hq.out)
                     have l25 := hidd (K15.out.l35 5 rfl hn4.out))
                  | (with_reducible show wpList _ _ _ (⟨_, Op.store 23 (Operand.tmp 84) _, _, _, _, _⟩ :: _) _ _; refine wpList_store_bytes rfl rfl 23 (.tmp 84) _ rfl _ _ aTwo rfl rfl t21.out (info23' aTwo_is) ?_)
                  | (with_reducible show wpList _ _ _ (⟨_, Op.store 23 (Operand.tmp 86) _, _, _, _, _⟩ :: _) _ _; refine wpList_store_bytes rfl rfl 23 (.tmp 86) _ rfl _ _ aFar rfl rfl t22.out (info23' aFar_is) ?_)
                  | (with_reducible show wpList _ _ _ (⟨_, Op.load 30 _, _, _, _, _⟩ :: _) _ _; refine wpList_load_want (by kernel_rfl) 30 _ rfl _ rfl _ (by with_reducible exact l24.out) ?_)
                  | (with_reducible show wpList _ _ _ (⟨_, Op.load 35 _, _, _, _, _⟩ :: _) _ _; refine wpList_load_want (by kernel_rfl) 35 _ rfl _ rfl _ (by with_reducible exact l25.out) ?_))
                refine (valid_any _ _ _ ⟨a1, p.dst, 1, true⟩ ⟨m.kind, 0, 0, aTwo, aFar, m.ks⟩ (K15.out.gl hG.out) hq.out ((((hmm _ K15.out.bel).out.setTarget aTwo_is).setDest aFar_is).setFlags (v := 0) (by omega) (by omega))).mono ?_
                rintro e V40 ⟨rfl, b40⟩
                rw [show valid ⟨a1, p.dst, 1, true⟩ ⟨m.kind, 0, 0, aTwo, aFar, m.ks⟩ = true by
                  have := valid_plain (d := p.dst) (ks := m.ks) hk
                  rwa [show ownB m = 1 by simp [ownB, hl]] at this]
                have Q40 := hidd (K15.out.call b40)
                clear l24 l25
                go_wp2_with fail
                refine (lives_any _ (Q40.out.gl hG.out)).mono ?_
                rintro e V30 ⟨rfl, b30⟩
                have Q30 := hidd (Q40.out.call b30)
                clear b30
                go_wp2
                go_ret
                exact ⟨rfl, Q30.out.bel⟩
            · skip
              have hz0b : (z0 != 1) = true := by simpa using hz0
              have la := hidd (Q28.out.l30 0 rfl hP.out)
              obtain ⟨g, Sg⟩ : ∃ g, V28.heap.size = g := ⟨_, rfl⟩
              go_wp2_with (first
                | (with_reducible show wpList _ _ _ (⟨_, Op.load 30 _, _, _, _, _⟩ :: _) _ _; refine wpList_load_want (by kernel_rfl) 30 _ rfl _ rfl _ (by with_reducible exact la.out) ?_)
                | (with_reducible show wpList _ _ _ (⟨_, Op.store 30 (Operand.tmp 8) _, _, _, _, _⟩ :: _) _ _; refine wpList_store_new rfl rfl 30 (.tmp 8) _ rfl _ _ cp rfl Sg.symm rfl (size_pk hP.out) (Eq.trans (b := 40) (by kernel_rfl) hP.out.size.symm) hP.out.ones ?_
                   have K4 := hidd (Q28.out.new Sg 30 cp)
                   have S4 := size_new Sg (.cells cp 30)
                   generalize V28.alloc (.cells cp 30) = V4 at K4 S4 ⊢
                   have cz := K4.out.cell 2 rfl (i := 0) (v := .int .u8 z0) rfl
                   have cq := K4.out.cell 3 rfl hP.out.hops
                   have fq := K4.out.frozen 3 rfl 32
                   have K5 := hidd (K4.out.set 3 rfl 32 (.int .u8 z0))
                   have S5 := size_set S4 ⟨g, 32, none⟩ (.int .u8 z0)
                   have lb := hidd (K5.out.l35 1 rfl hM.out.is))
                | (with_reducible show wpList _ _ _ (⟨_, Op.load 35 _, _, _, _, _⟩ :: _) _ _; refine wpList_load_want (by kernel_rfl) 35 _ rfl _ rfl _ (by with_reducible exact lb.out) ?_)
                | (with_reducible show wpList _ _ _ (⟨_, Op.store 35 (Operand.tmp 9) _, _, _, _, _⟩ :: _) _ _; refine wpList_store_new rfl rfl 35 (.tmp 9) _ rfl _ _ cm rfl S5.symm rfl (size_ms hM.out.is) (Eq.trans (b := 63) (by kernel_rfl) hM.out.is.size.symm) hM.out.is.ones ?_
                   have K6 := hidd (K5.out.new S5 35 cm)
                   have S6 := size_new S5 (.cells cm 35)
                   generalize (V4.setCell ⟨g, 32, none⟩ (.int .u8 z0)).alloc (.cells cm 35) = V6 at K6 S6 ⊢
                   have cz1 := K6.out.cell 2 rfl (i := 1) (v := .int .u8 z1) rfl
                   have cn := K6.out.cell 4 rfl hM.out.is.code
                   have fn := K6.out.frozen 4 rfl 1
                   have K7 := hidd (K6.out.set 4 rfl 1 (.int .u8 z1))
                   have cy0 := K7.out.cell 2 rfl (i := 0) (v := .int .u8 z0) rfl
                   have cy1 := K7.out.cell 2 rfl (i := 1) (v := .int .u8 z1) rfl
                   have cy0b := K6.out.cell 2 rfl (i := 0) (v := .int .u8 z0) rfl
                   clear la lb K4 S4 cz cq fq S5
                   have lc := hidd (K7.out.l30 3 rfl (hP.out.setHops (v := z0) (by omega) (by omega)))
                   have ld := hidd (K7.out.l35 4 rfl (hM.out.is.setCode (v := z1) (by omega) (by omega))))
                | (with_reducible show wpList _ _ _ (⟨_, Op.load 30 _, _, _, _, _⟩ :: _) _ _; refine wpList_load_want (by kernel_rfl) 30 _ rfl _ rfl _ (by with_reducible exact lc.out) ?_)
                | (with_reducible show wpList _ _ _ (⟨_, Op.load 35 _, _, _, _, _⟩ :: _) _ _; refine wpList_load_want (by kernel_rfl) 35 _ rfl _ rfl _ (by with_reducible exact ld.out) ?_))
              refine (valid_any _ _ _ { p with hops := z0 } { m with code := z1 } (K7.out.gl hG.out) (hP.out.setHops (by omega) (by omega)) ((mm _ K7.out.bel).out.setCode (by omega) (by omega))).mono ?_
              rintro e V30 ⟨rfl, b30⟩
              rw [show valid { p with hops := z0 } { m with code := z1 } = false by
                refine valid_not (m := { m with code := z1 }) hk ?_
                show (z0 == ownB m && z1 == 0) = false
                rw [show ownB m = 1 by simp [ownB, hl]]
                simp [hz0]]
              have Q30 := hidd (K7.out.call b30)
              clear lc ld cy0 cy1 cy0b cz1 cn fn b30
              have flag : True := trivial
              go_wp2_with (first
                | (with_reducible show wpList _ _ _ (⟨some 77, _, _, _, _, _⟩ :: _) _ _; clear flag
                   have hq0 := hP.out.setHops (v := z0) (by omega) (by omega)
                   have hn0 := hM.out.is.setCode (v := z1) (by omega) (by omega)
                   have i16 := Q30.out.cell 3 rfl hq0.hops
                   have j16 := Q30.out.frozen 3 rfl 32
                   have K8 := hidd (Q30.out.set 3 rfl 32 (.int .u8 1))
                   have hq1 := hq0.setHops (v := 1) (by omega) (by omega)
                   have i17 := K8.out.cell 3 rfl hq1.alert
                   have j17 := K8.out.frozen 3 rfl 33
                   have i17b := Q30.out.cell 3 rfl hq0.alert
                   have j17b := Q30.out.frozen 3 rfl 33
                   have K9 := hidd (K8.out.set 3 rfl 33 (.bool true))
                   have hq2 := hq1.setAlert true
                   have i18 := K9.out.cell 4 rfl hn0.code
                   have j18 := K9.out.frozen 4 rfl 1
                   have i18b := Q30.out.cell 4 rfl hn0.code
                   have j18b := Q30.out.frozen 4 rfl 1
                   have K10 := hidd (K9.out.set 4 rfl 1 (.int .u8 0))
                   have hn1 := hn0.setCode (v := 0) (by omega) (by omega)
                   have t19 := hidd (K10.out.there 3 rfl (o := 0) (n := a1.length) (by rw [hq2.size, a1_is.len]; omega))
                   have hq3 := hidd (hq2.setSrc a1_is)
                   have K11 := hidd (K10.out.over 3 rfl 0 (a1.map (Value.int .u8)))
                   have hn1' := hidd hn1
                   clear hq0 hq1 hq2 hn0)
                | (with_reducible show wpList _ _ _ (⟨_, Op.build 23 #[(0, Operand.const (Value.int IntKind.u8 254)), (1, Operand.const (Value.int IntKind.u8 128)), (15, Operand.const (Value.int IntKind.u8 1))], _, _, _, _⟩ :: _) _ _; refine wpList_build_want rfl 23 #[(0, .const (.int .u8 254)), (1, .const (.int .u8 128)), (15, .const (.int .u8 1))] rfl (bytesV a1) (by kernel_rfl) ?_)
                | (with_reducible show wpList _ _ _ (⟨_, Op.build 23 #[(0, Operand.const (Value.int IntKind.u8 254)), (1, Operand.const (Value.int IntKind.u8 128)), (15, Operand.const (Value.int IntKind.u8 2))], _, _, _, _⟩ :: _) _ _; refine wpList_build_want rfl 23 #[(0, .const (.int .u8 254)), (1, .const (.int .u8 128)), (15, .const (.int .u8 2))] rfl (bytesV aTwo) (by kernel_rfl) ?_)
                | (with_reducible show wpList _ _ _ (⟨_, Op.build 23 #[(0, Operand.const (Value.int IntKind.u8 32)), (15, Operand.const (Value.int IntKind.u8 3))], _, _, _, _⟩ :: _) _ _; refine wpList_build_want rfl 23 #[(0, .const (.int .u8 32)), (15, .const (.int .u8 3))] rfl (bytesV aFar) (by kernel_rfl) ?_)
                | (with_reducible show wpList _ _ _ (⟨_, Op.store 23 (Operand.tmp 81) _, _, _, _, _⟩ :: _) _ _; refine wpList_store_bytes rfl rfl 23 (.tmp 81) _ rfl _ _ a1 rfl rfl t19.out (info23' a1_is) ?_
                   generalize (((V30.setCell ⟨g, 32, none⟩ (.int .u8 1)).setCell ⟨g, 33, none⟩ (.bool true)).setCell ⟨g + 1, 1, none⟩ (.int .u8 0)).setCells g 0 (a1.map (Value.int .u8)) = V11 at K11 ⊢
                   obtain ⟨h, Sh⟩ : ∃ h, V11.heap.size = h := ⟨_, rfl⟩
                   obtain ⟨cq, cn, K11a, hq, hn, hmm⟩ : ∃ (cq cn : Array Value), Hid (Kp w V11 [(w.heap.size, 30, cp), (w.heap.size + 1, 35, cm), (w.heap.size + 1 + 1, 43, #[.int .u8 z0, .int .u8 z1]), (g, 30, cq), (g + 1, 35, cn)]) ∧ Hid (IsPk cq ⟨a1, p.dst, 1, true⟩) ∧ Hid (IsMs w w.heap.size cn { m with code := 0 }) ∧ (∀ V, Below w.heap.size w V → Hid (IsMs V V.heap.size cn { m with code := 0 })) :=
                     ⟨_, _, K11, hq3, hn1', fun V hV => ((mm V hV).out.setCode (v := z1) (by omega) (by omega)).setCode (v := 0) (by omega) (by omega)⟩
                   clear K11 hq3 hn1'
                   have l20 := hidd (K11a.out.l35 4 rfl hn.out))
                | (with_reducible show wpList _ _ _ (⟨_, Op.load 35 _, _, _, _, _⟩ :: _) _ _; refine wpList_load_want (by kernel_rfl) 35 _ rfl _ rfl _ (by with_reducible exact l20.out) ?_)
                | (with_reducible show wpList _ _ _ (⟨_, Op.store 35 (Operand.tmp 10) _, _, _, _, _⟩ :: _) _ _; refine wpList_store_new rfl rfl 35 (.tmp 10) _ rfl _ _ cn rfl Sh.symm rfl (size_ms hn.out) (Eq.trans (b := 63) (by kernel_rfl) hn.out.size.symm) hn.out.ones ?_
                   have K12 := hidd (K11a.out.new Sh 35 cn)
                   generalize V11.alloc (.cells cn 35) = V12 at K12 ⊢
                   have t21 := hidd (K12.out.there 5 rfl (o := 9) (n := aTwo.length) (by rw [hn.out.size, aTwo_is.len]; omega))
                   have hn2 := hidd (hn.out.setTarget aTwo_is)
                   have K13 := hidd (K12.out.over 5 rfl 9 (aTwo.map (Value.int .u8)))
                   have t22 := hidd (K13.out.there 5 rfl (o := 25) (n := aFar.length) (by rw [hn2.out.size, aFar_is.len]; omega))
                   have hn3 := hidd (hn2.out.setDest aFar_is)
                   have K14 := hidd (K13.out.over 5 rfl 25 (aFar.map (Value.int .u8)))
                   have i23 := K14.out.cell 5 rfl hn3.out.flags
                   have j23 := K14.out.frozen 5 rfl 5
                   have hn4 := hidd (hn3.out.setFlags (v := 0) (by omega) (by omega))
                   have K15 := hidd (K14.out.set 5 rfl 5 (.int .u8 0))
                   have l24 := hidd (K15.out.l30 3 rfl hq.out)
                   have l25 := hidd (K15.out.l35 5 rfl hn4.out))
                | (with_reducible show wpList _ _ _ (⟨_, Op.store 23 (Operand.tmp 84) _, _, _, _, _⟩ :: _) _ _; refine wpList_store_bytes rfl rfl 23 (.tmp 84) _ rfl _ _ aTwo rfl rfl t21.out (info23' aTwo_is) ?_)
                | (with_reducible show wpList _ _ _ (⟨_, Op.store 23 (Operand.tmp 86) _, _, _, _, _⟩ :: _) _ _; refine wpList_store_bytes rfl rfl 23 (.tmp 86) _ rfl _ _ aFar rfl rfl t22.out (info23' aFar_is) ?_)
                | (with_reducible show wpList _ _ _ (⟨_, Op.load 30 _, _, _, _, _⟩ :: _) _ _; refine wpList_load_want (by kernel_rfl) 30 _ rfl _ rfl _ (by with_reducible exact l24.out) ?_)
                | (with_reducible show wpList _ _ _ (⟨_, Op.load 35 _, _, _, _, _⟩ :: _) _ _; refine wpList_load_want (by kernel_rfl) 35 _ rfl _ rfl _ (by with_reducible exact l25.out) ?_))
              refine (valid_any _ _ _ ⟨a1, p.dst, 1, true⟩ ⟨m.kind, 0, 0, aTwo, aFar, m.ks⟩ (K15.out.gl hG.out) hq.out ((((hmm _ K15.out.bel).out.setTarget aTwo_is).setDest aFar_is).setFlags (v := 0) (by omega) (by omega))).mono ?_
              rintro e V40 ⟨rfl, b40⟩
              rw [show valid ⟨a1, p.dst, 1, true⟩ ⟨m.kind, 0, 0, aTwo, aFar, m.ks⟩ = true by
                have := valid_plain (d := p.dst) (ks := m.ks) hk
                rwa [show ownB m = 1 by simp [ownB, hl]] at this]
              have Q40 := hidd (K15.out.call b40)
              clear l24 l25
              go_wp2_with fail
              refine (lives_any _ (Q40.out.gl hG.out)).mono ?_
              rintro e V31 ⟨rfl, b31⟩
              have Q31 := hidd (Q40.out.call b31)
              clear b31
              go_wp2
              go_ret
              exact ⟨rfl, Q31.out.bel⟩
    · skip
      go_wp2_with fail
      refine (lives_any _ (Q4.out.gl hG.out)).mono ?_
      rintro e V32 ⟨rfl, b32⟩
      have Q32 := hidd (Q4.out.call b32)
      clear b32
      go_wp2
      go_ret
      exact ⟨rfl, Q32.out.bel⟩

theorem laid_metChecksHops (os : Os) : laidMet Tryd.prog Rows.checksHopsRow.laid ((laidWorld os).forCall (fun _ _ => 0) ⟨#[], #[.agg (pkV zeroA zeroA 0 false), .agg (msV 0 zeroA (.slice none 0 0)), .agg #[.int .u8 0, .int .u8 0]], []⟩).memory :=
  laidMet_of_run' 8 (by kernel_rfl) (by kernel_rfl)
theorem readsChecksHops (os : Os) {H : Type} (enc : TypeId × Value → H) : ∃ places, DataW.whole enc Tryd.prog ((laidWorld os).forCall (fun _ _ => 0) ⟨#[], #[.agg (pkV zeroA zeroA 0 false), .agg (msV 0 zeroA (.slice none 0 0)), .agg #[.int .u8 0, .int .u8 0]], []⟩).memory Tryd.f4.params.toList Rows.checksHopsSpec.vars false (#[.agg (pkV zeroA zeroA 0 false), .agg (msV 0 zeroA (.slice none 0 0)), .agg #[.int .u8 0, .int .u8 0]] : Array Value).toList 8 = some ([.agg [.agg (List.replicate 16 (.lit (.int .u8 0))), .agg (List.replicate 16 (.lit (.int .u8 0))), .lit (.int .u8 0), .lit (.bool false), .agg [.lit (.bool false), .lit (.int .u32 0), .lit (.int .u16 0), .lit (.bool false)], .lit (.int .u8 0), .nil], .agg [.lit (.int .u8 0), .lit (.int .u8 0), .lit (.int .u32 0), .nil, .lit (.int .u8 0), .lit (.int .u8 0), .lit (.int .u16 0), .lit (.int .u32 0), .lit (.int .u32 0), .agg (List.replicate 16 (.lit (.int .u8 0))), .agg (List.replicate 16 (.lit (.int .u8 0))), .nil, .lit (.int .u16 0), .agg (List.replicate 16 (.lit (.int .u8 0))), .lit (.int .u8 0), .lit (.int .u8 0), .nil, .nil], .agg [.lit (.int .u8 0), .lit (.int .u8 0)]], [], places) :=
  ⟨[], by kernel_rfl⟩
set_option maxRecDepth 100000 in
theorem liftedChecksHops (os : Os) (started : os.Started) (H : Type) (enc : TypeId × Value → H) (F : Stop.Interp) :
    ReturnsInHanded {} Tryd.checked os 4 .any ((OpenSpec.ofChange Rows.checksHopsSpec).preRow enc Tryd.prog Tryd.f4 Rows.checksHopsRow.domain false Rows.checksHopsRow.laid) (((OpenSpec.ofChange Rows.checksHopsSpec).at F).post enc Tryd.prog Tryd.f4 false true false false) := by
  obtain ⟨places, hx⟩ := readsChecksHops os enc
  refine returnsInHanded_of_row (C := Tryd.checked) (s := OpenSpec.ofChange Rows.checksHopsSpec) own started (by kernel_rfl) Tryd.func4
    (witness_row_at (enc := enc) (C := Tryd.checked) false (laidWorld os) #[.agg (pkV zeroA zeroA 0 false), .agg (msV 0 zeroA (.slice none 0 0)), .agg #[.int .u8 0, .int .u8 0]] rfl (by kernel_rfl) (by kernel_rfl) (by kernel_rfl)
      (OpenSpec.preRow_of_cond 8 hx (by kernel_rfl) (fun k hk => by cases hk) (by kernel_rfl) (laid_metChecksHops os))) ?_
  intro W base args ds gs before hval0 hW _ _ hsz0 hL _ _
  have hval : ∀ (j : Nat) t v, Tryd.f4.params[j]? = some t → args[j]? = some v → Value.okWide Tryd.prog W .any base t v := hval0
  have hW' := hW
  obtain ⟨p, q, hA0, hV, rfl, hfz, hnd⟩ := hW
  have hA : DataW.TrodAll enc Tryd.prog W 0 (fun _ => true) true Tryd.f4.params.toList args.toList ds p := hA0
  have hsz : (DataW.weightsEach Tryd.prog (Tryd.f4.params.toList ++ Rows.checksHopsSpec.plain.varTypes Tryd.prog) (ds ++ gs)).all (· ≤ reachBytes) = true := hsz0
  rw [Tryd.params4] at hA hval hsz
  obtain ⟨v0, vs0, d0, ds0, p0, q0, hargs, rfl, rfl, h0, r0⟩ := trodAll_cons hA
  obtain ⟨v1, vs1, d1, ds1, p1, q1, rfl, rfl, rfl, h1, r1⟩ := trodAll_cons r0
  obtain ⟨v2, vs2, d2, ds2, p2, q2, rfl, rfl, rfl, h2, r2⟩ := trodAll_cons r1
  obtain ⟨rfl, rfl, rfl⟩ := trodAll_nil r2
  obtain rfl : args = #[v0, v1, v2] := by cases args; simp_all
  obtain ⟨rfl, rfl⟩ := trodVars_none hV
  have k0 := h0
  have lt0 : ∀ x ∈ p0, x.block < W.heap.size := by obtain ⟨m, hm⟩ := k0; exact DataW.trod_lt m _ _ _ hm
  have fit0 : Fit Tryd.prog 30 d0 := fun m hm => by simpa using List.all_eq_true.1 hsz _ (DataW.weights_mem_each (j := 0) (t := 30) rfl rfl m hm)
  obtain ⟨c0, p0, ev0, w0⟩ := open_pk (hval 0 30 v0 rfl rfl) h0 fit0
  subst ev0
  have k1 := h1
  have lt1 : ∀ x ∈ p1, x.block < W.heap.size := by obtain ⟨m, hm⟩ := k1; exact DataW.trod_lt m _ _ _ hm
  have fit1 : Fit Tryd.prog 35 d1 := fun m hm => by simpa using List.all_eq_true.1 hsz _ (DataW.weights_mem_each (j := 1) (t := 35) rfl rfl m hm)
  obtain ⟨c1, m1, ev1, w1⟩ := open_ms (hval 1 35 v1 rfl rfl) h1 fit1
  subst ev1
  have k2 := h2
  have lt2 : ∀ x ∈ p2, x.block < W.heap.size := by obtain ⟨m, hm⟩ := k2; exact DataW.trod_lt m _ _ _ hm
  have fit2 : Fit Tryd.prog 43 d2 := fun m hm => by simpa using List.all_eq_true.1 hsz _ (DataW.weights_mem_each (j := 2) (t := 43) rfl rfl m hm)
  obtain ⟨x2, y2, ev2, w2⟩ := open_z (hval 2 43 v2 rfl rfl) h2 fit2
  subst ev2
  clear hA0 hval0
  have hG := gl_of hL
  refine (walkChecksHops c0 p0 c1 m1 x2 y2 W w0 w1 w2 hG).mono fun e W' ⟨he, bel⟩ => ?_
  subst he
  exact ⟨_, rfl, _, _, _, [], _, [], hW', trodAll_mk1 (shut_bool Tryd.underlying4 _), (trodAll_cons_mk (Below.trod laidOut (by kernel_rfl) (of_decide_eq_true (by kernel_rfl)) k0 bel lt0) (trodAll_cons_mk (Below.trod laidOut (by kernel_rfl) (of_decide_eq_true (by kernel_rfl)) k1 bel lt1) (trodAll_cons_mk (Below.trod laidOut (by kernel_rfl) (of_decide_eq_true (by kernel_rfl)) k2 bel lt2) trodAll_mk0))), rfl, bel.frame _, fun h => by cases h⟩

theorem saidChecksHops : Rows.ChecksHopsSaid :=
  OpenClaim.holds_of_cond 4 Tryd.f4 rfl rfl rfl rfl rfl rfl rfl ⟨rfl, rfl, rfl, rfl, rfl⟩ rfl rfl rfl rfl rfl (by kernel_rfl) Tryd.func4 (by kernel_rfl)
    (of_decide_eq_true (by kernel_rfl)) (by unfold Func.isWrapper; first | (rw [if_pos (by decide +kernel)]; kernel_rfl) | (rw [if_neg (by decide +kernel)]; exact ⟨rfl, rfl⟩))
    (fun os started H enc _ F => by rw [OpenClaim.pre_eq_preRow]; exact liftedChecksHops os started H enc F)
theorem plainChecksHops (f : FuncId) (fn : Func) (hf : Tryd.pinned.checked.prog.funcNamed "sojourner/sojournerlaw12.ChecksHops" = some f) (hfn : Tryd.pinned.checked.prog.funcs[f]? = some fn) :
    false = Tryd.pinned.checked.prog.looks [] ∧ ∀ (j : Nat) t, fn.params[j]? = some t → Tryd.pinned.checked.prog.wantsStandIn t = false := by
  obtain rfl : f = 4 := Option.some.inj ((show Tryd.prog.funcNamed "sojourner/sojournerlaw12.ChecksHops" = some 4 by kernel_rfl).symm.trans hf) |>.symm
  obtain rfl : fn = Tryd.f4 := (Option.some.inj (Tryd.func4.symm.trans hfn)).symm
  refine ⟨by kernel_rfl, fun j t ht => ?_⟩
  rw [Tryd.params4] at ht
  have hm := Array.mem_of_getElem? ht
  simp only [List.mem_toArray, List.mem_cons, List.not_mem_nil, or_false] at hm
  rcases hm with rfl | rfl | rfl
  · exact (show Tryd.prog.wantsStandIn 30 = false by kernel_rfl)
  · exact (show Tryd.prog.wantsStandIn 35 = false by kernel_rfl)
  · exact (show Tryd.prog.wantsStandIn 43 = false by kernel_rfl)
/-- THE CARD: 'ChecksHops'. -/
theorem checksHops_holds : Rows.ChecksHopsCardSaid :=
  Claim7.holds_tied_plain_at .later [] _ _ _ _ saidChecksHops (fun _ h => by cases h) (by kernel_rfl) (fun _ h => by cases h) checksHops_row_tie rfl ⟨rfl, rfl⟩ (by kernel_rfl) rfl plainChecksHops (by kernel_rfl)

end Go.Proofs.YtlckfnfmekgnkaaDoor
