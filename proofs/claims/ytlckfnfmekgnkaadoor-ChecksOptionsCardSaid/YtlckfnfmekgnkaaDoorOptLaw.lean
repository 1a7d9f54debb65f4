/- 'ChecksOptions': for every input the law returns true; nothing that was there is written. The row lists the table of known addresses. No other condition. -/
import Derived.Test.YtlckfnfmekgnkaaDoorOptPlain
namespace Go.Proofs.YtlckfnfmekgnkaaDoor
open Go.ChangeShapes Go.WideShapes Go.ChangeAt Go.RowKit Go.Deep
set_option linter.unusedVariables false
set_option linter.unusedSimpArgs false

structure OptIn (v : Value) (k : Int) (A : Option Addr) (n c : Nat) : Prop where
  eq : v = .agg #[.int .u8 k, .slice A n c]
  rng : 0 ≤ k ∧ k ≤ 255
theorem open_opt {H : Type} {enc : TypeId × Value → H} {W : World} {r : Reach} {b0 : Nat} {v : Value} {d : DataW H} {p : List MemPlace} (hv : Value.okWide Tryd.prog W r b0 46 v) (h : DataW.Trod enc Tryd.prog W 0 (fun _ => true) true 46 v d p) (hw : Fit Tryd.prog 46 d) :
    ∃ k A n c, v = .agg #[.int .u8 k, .slice A n c] ∧ (0 ≤ k ∧ k ≤ 255) := by
  simp only [Value.okWide, Tryd.underlying46] at hv
  obtain ⟨cs, rfl, hs, hrow⟩ := hv
  obtain ⟨fuel, hf⟩ := h
  obtain ⟨hl, hfs⟩ := struct_any Tryd.underlying46 hf hw
  obtain ⟨m0, y0, h0, _⟩ := hfs 0 _ rfl
  obtain ⟨m2, y2, h2, f2⟩ := hfs 1 _ rfl
  replace h0 : DataW.trod enc Tryd.prog W 0 (fun _ => true) true m0 5 (List.take (Tryd.prog.cellsOf 5) (List.drop 0 cs.toList)) = some y0 := h0
  replace h2 : DataW.trod enc Tryd.prog W 0 (fun _ => true) true m2 28 (List.take (Tryd.prog.cellsOf 28) (List.drop 1 cs.toList)) = some y2 := h2
  rw [cells5] at h0
  rw [cells28] at h2
  rw [cells46] at hs
  obtain ⟨k, e0, _, wk⟩ := DataW.trod_int Tryd.underlying5 h0
  obtain ⟨A', n', c', e2, hn'⟩ := slice_bytes h2 f2
  have b0 := at1 e0
  have b2 := at1 e2
  refine ⟨k, A', n', c', ?_, by have := bounds_u8 wk; omega⟩
  congr 1
  apply arr_ext (by simpa using hs)
  intro j hj
  match j, (by omega : j < 2) with
  | 0, _ => exact b0
  | 1, _ => exact b2

/-- What lies there while the list is made: j options are in it. -/
structure Made (w wr : World) (cp cm : Array Value) (k0 : Int) (A0 : Option Addr) (n0 c0 g : Nat) (ks : List Int) (v : Value) : Prop where
  kp : Kp w wr [(w.heap.size, 30, cp), (w.heap.size + 1, 35, cm), (w.heap.size + 1 + 1, 46, #[.int .u8 k0, .slice A0 n0 c0]), (g, 35, cm.setIfInBounds 41 v)]
  own : wr.ownsRow (g + 1) 46 2 v ks.length (optsV ks (.slice A0 n0 c0))
theorem Made.grew {w wr W : World} {cp cm : Array Value} {k0 : Int} {A0 : Option Addr} {n0 c0 g : Nat} {ks : List Int} {v v' : Value} {k : Int} (h : Made w wr cp cm k0 A0 n0 c0 g ks v) (hg : w.heap.size + 1 + 1 < g)
    (hb : Below (g + 1) wr W) (ho : W.ownsRow (g + 1) 46 2 v' (ks.length + 1) (optsV ks (.slice A0 n0 c0) ++ [.int .u8 k, (.slice A0 n0 c0)])) : Made w (W.setCell ⟨g, 41, none⟩ v') cp cm k0 A0 n0 c0 g (ks ++ [k]) v' := by
  have K1 := h.kp.base hb (by intro x hx; simp only [List.mem_cons, List.not_mem_nil, or_false] at hx; rcases hx with rfl | rfl | rfl | rfl <;> (dsimp only; omega)) (by omega)
  have K2 : Kp w (W.setCell ⟨g, 41, none⟩ v') _ := K1.set 3 rfl 41 v'
  refine ⟨?_, ?_⟩
  · have : (cm.setIfInBounds 41 v).setIfInBounds 41 v' = cm.setIfInBounds 41 v' := by simp
    rw [← this]
    exact K2
  · have := own_far ho (g := g) (i := 41) (by omega) v'
    rw [optsV_append, List.length_append]
    exact this
theorem far3 {w W V : World} {B a b c i j k : Nat} {x y z : Value} (h : W.cell? ⟨a, i, none⟩ = some x ∧ W.cell? ⟨b, j, none⟩ = some y ∧ W.cell? ⟨c, k, none⟩ = some z) (hb : Below B W V) (ha : a < B) (hbb : b < B) (hc : c < B) :
    V.cell? ⟨a, i, none⟩ = some x ∧ V.cell? ⟨b, j, none⟩ = some y ∧ V.cell? ⟨c, k, none⟩ = some z :=
  ⟨(hb.cell (p := ⟨a, i, none⟩) ha).trans h.1, (hb.cell (p := ⟨b, j, none⟩) hbb).trans h.2.1, (hb.cell (p := ⟨c, k, none⟩) hc).trans h.2.2⟩

set_option maxRecDepth 100000 in
set_option maxHeartbeats 4000000 in
theorem walkChecksOptions (cp : Array Value) (p : Pk) (cm : Array Value) (m : Ms) (k0 : Int) (A0 : Option Addr) (n0 c0 : Nat) (w : World) (hp : PkIn cp p) (hm : MsIn w w.heap.size cm m) (hk0 : 0 ≤ k0 ∧ k0 ≤ 255) (hg : Gl w) :
    Calls Tryd.prog 5 #[.agg cp, .agg cm, .agg #[.int .u8 k0, .slice A0 n0 c0]] w fun e w' => e = .returned (.bool true) ∧ Below w.heap.size w w' := by
  obtain ⟨AB, nB, cB, hbody⟩ := hp.body
  obtain ⟨A, n, c, xs, hops, ho⟩ := hm.ops
  have hG := hidd hg
  have hP := hidd hp.is
  have hM := hidd hm
  have mm : ∀ V, Below w.heap.size w V → Hid (IsMs V V.heap.size cm m) := fun V hV => hm.is.to hV hV.size
  have K3 : Hid (Kp w (((w.alloc (.cells cp 30)).alloc (.cells cm 35)).alloc (.cells #[.int .u8 k0, .slice A0 n0 c0] 46)) [(w.heap.size, 30, cp), (w.heap.size + 1, 35, cm), (w.heap.size + 1 + 1, 46, #[.int .u8 k0, .slice A0 n0 c0])]) :=
    (((Kp.nil w).new rfl 30 cp).new (by simp) 35 cm).new (by simp) 46 #[.int .u8 k0, .slice A0 n0 c0]
  have c39 := K3.out.cell 0 rfl hbody
  have co := K3.out.cell 2 rfl (i := 1) (v := (.slice A0 n0 c0)) rfl
  have l0 := hidd (K3.out.l35 1 rfl hM.out.is)
  have mg := hidd (hM.out.to K3.out.bel K3.out.bel.size)
  have ho' := hidd ho
  have hbody' := hidd hbody
  have hops' := hidd hops
  clear hp hm hg hbody ho hops
  go_enter Tryd.func5, Tryd.ntmps5
  by_cases hbig : 6000 < nB
  · skip
    go_wp2_with (first
      | fail)
    generalize (((w.alloc (.cells cp 30)).alloc (.cells cm 35)).alloc (.cells #[.int .u8 k0, .slice A0 n0 c0] 46)) = V3 at *
    refine (lives_any _ (K3.out.gl hG.out)).mono ?_
    rintro e V11 ⟨rfl, b11⟩
    have Q11 := hidd (K3.out.call b11)
    clear b11
    go_wp2
    go_ret
    exact ⟨rfl, Q11.out.bel⟩
  · skip
    have hd : decide ((6000 : Int) < (nB : Int)) = false := by simp; omega
    go_wp2_with (first
      | (with_reducible show wpList _ _ _ (⟨_, Op.load 35 _, _, _, _, _⟩ :: _) _ _; refine wpList_load_want (by kernel_rfl) 35 _ rfl _ rfl _ (by with_reducible exact l0.out) ?_))
    generalize (((w.alloc (.cells cp 30)).alloc (.cells cm 35)).alloc (.cells #[.int .u8 k0, .slice A0 n0 c0] 46)) = V3 at *
    refine (great_any V3 cm m mg.out).mono ?_
    rintro e V4 ⟨bg, rfl, b4⟩
    have Q4 := hidd (K3.out.call b4)
    clear b4 l0 c39 mg K3 co
    have co := Q4.out.cell 2 rfl (i := 1) (v := (.slice A0 n0 c0)) rfl
    cases bg
    · skip
      by_cases hbig2 : 5000 < n0
      · skip
        go_wp2_with fail
        refine (lives_any _ (Q4.out.gl hG.out)).mono ?_
        rintro e V12 ⟨rfl, b12⟩
        have Q12 := hidd (Q4.out.call b12)
        clear b12
        go_wp2
        go_ret
        exact ⟨rfl, Q12.out.bel⟩
      · skip
        have hd2 : decide ((5000 : Int) < (n0 : Int)) = false := by simp; omega
        have la := hidd (Q4.out.l30 0 rfl hP.out)
        have lb := hidd (Q4.out.l35 1 rfl hM.out.is)
        go_wp2_with (first
          | (with_reducible show wpList _ _ _ (⟨_, Op.load 30 _, _, _, _, _⟩ :: _) _ _; refine wpList_load_want (by kernel_rfl) 30 _ rfl _ rfl _ (by with_reducible exact la.out) ?_)
          | (with_reducible show wpList _ _ _ (⟨_, Op.load 35 _, _, _, _, _⟩ :: _) _ _; refine wpList_load_want (by kernel_rfl) 35 _ rfl _ rfl _ (by with_reducible exact lb.out) ?_))
        refine (valid_any V4 _ _ p m (Q4.out.gl hG.out) hP.out (mm _ Q4.out.bel).out).mono ?_
        rintro e V13 ⟨rfl, b13⟩
        have Q13 := hidd (Q4.out.call b13)
        clear b13
        clear la lb co hd2 hd hbig hbig2
        obtain ⟨g, Sg⟩ : ∃ g, V13.heap.size = g := ⟨_, rfl⟩
        have lb := hidd (Q13.out.l35 1 rfl hM.out.is)
        have hgs : w.heap.size + 1 + 1 < g := by have := Q13.out.lt 2 rfl; dsimp only at this; omega
        go_wp2_with (first
          | (with_reducible show wpList _ _ _ (⟨_, Op.load 35 _, _, _, _, _⟩ :: _) _ _; refine wpList_load_want (by kernel_rfl) 35 _ rfl _ rfl _ (by with_reducible exact lb.out) ?_)
          | (with_reducible show wpList _ _ _ (⟨_, Op.store 35 (Operand.tmp 8) _, _, _, _, _⟩ :: _) _ _; refine wpList_store_new rfl rfl 35 (.tmp 8) _ rfl _ _ cm rfl Sg.symm rfl (size_ms hM.out.is) (Eq.trans (b := 63) (by kernel_rfl) hM.out.is.size.symm) hM.out.is.ones ?_
             have K6 := hidd (Q13.out.new Sg 35 cm)
             have S6 := size_new Sg (.cells cm 35)
             generalize V13.alloc (.cells cm 35) = V6 at K6 S6 ⊢
             have cn := K6.out.cell 3 rfl hops'.out
             have fn := K6.out.frozen 3 rfl 41
             have M7 : Hid (Made w (V6.setCell ⟨g, 41, none⟩ (.slice none 0 0)) cp cm k0 A0 n0 c0 g [] (.slice none 0 0)) := ⟨K6.out.set 3 rfl 41 _, World.ownsRow_nil _ _ _ _⟩
             have Z7 := hidd (size_set S6 ⟨g, 41, none⟩ (.slice none 0 0))
             clear K6 S6))
        clear cn fn lb Sg
        generalize V6.setCell ⟨g, 41, none⟩ (.slice none 0 0) = V7 at M7 Z7 ⊢
        have hrm := ho'.out.room
        have hcap := ho'.out.rd.cap
        have hkl := ho'.out.len
        go_loopw [9] (fun i wr => ∃ (j : Nat) (v : Value), j ≤ n ∧ i = .int .i64 j ∧ Made w wr cp cm k0 A0 n0 c0 g (m.ks.take j) v ∧ g < wr.heap.size) (fun i _ => n - (intOf i).toNat)
        case atStart => exact ⟨0, _, Nat.zero_le _, rfl, M7.out, by rw [Z7.out]; omega⟩
        case round =>
          obtain ⟨j, v, hj, rfl, hM7, hgw⟩ := hrel
          clear M7 Z7
          have cmo := hM7.kp.cell 1 rfl hops'.out
          by_cases hjn : j < n
          · obtain ⟨k, hk⟩ : ∃ k, m.ks[j]? = some k := ⟨m.ks[j]'(by omega), List.getElem?_eq_getElem _⟩
            have hrd := ho'.out.rd.below hM7.kp.bel
            obtain ⟨b, off, rfl, hblt, hcell⟩ := hrd.at_ (by omega)
            obtain ⟨h1, _⟩ := ho'.out.at_ j k hk
            have ck := hcell _ _ h1
            have hS : wr.cell? ⟨w.heap.size + 1, 41, none⟩ = some (.slice (some ⟨b, off, none⟩) n c) ∧ wr.cell? ⟨b, off + j * 2, none⟩ = some (.int .u8 k) ∧ wr.cell? ⟨w.heap.size + 1 + 1, 1, none⟩ = some (.slice A0 n0 c0) := ⟨cmo, ck, hM7.kp.cell 2 rfl rfl⟩
            have hsn : m.ks.take (j + 1) = m.ks.take j ++ [k] := take_snoc hk
            have hlk : (m.ks.take j).length = j := by rw [List.length_take]; omega
            have cg : wr.cell? ⟨g, 41, none⟩ = some v := hM7.kp.cell 3 rfl (set_same (by rw [hM.out.is.size]; omega))
            have B0 := hidd ((Below.refl (g + 1) wr).drew)
            have B1 := hidd (((Below.refl (g + 1) wr).alloc (by omega) (.cells #[.int .u8 k, .slice A0 n0 c0] 46)).drew)
            have hS' := hidd hS
            have hS1 := hidd (far3 (w := w) hS B1.out (by omega) (by omega) (by omega))
            have cg1 := hidd ((B1.out.cell (p := ⟨g, 41, none⟩) (by show g < g + 1; omega)).trans cg)
            have hM7' := hidd hM7
            clear hM7 hcell hrd h1 ck
            go_wp2
            refine wp_region_held_drew (S := (fun V => V.cell? ⟨w.heap.size + 1, 41, none⟩ = some (.slice (some ⟨b, off, none⟩) n c) ∧ V.cell? ⟨b, off + j * 2, none⟩ = some (.int .u8 k) ∧ V.cell? ⟨w.heap.size + 1 + 1, 1, none⟩ = some (.slice A0 n0 c0))) (by kernel_rfl) hS (fun hHeld => ?_)
            refine wpAnyH_take (i := 0) (v := ?_) rfl (by kernel_rfl) (by kernel_rfl) (by kernel_rfl) (fun _ _ _ h => h) (Or.inl ⟨by kernel_rfl, ?_⟩) hHeld ?_
            rotate_left
            · intro wh hSw
              go_simp
              try with_reducible rfl
            try simp only [Act.put, List.getElem_toArray, List.getElem_cons_zero, List.getElem_cons_succ, List.setIfInBounds_toArray, List.set_cons_zero, List.set_cons_succ]
            refine wpAnyH_take (i := 2) (v := ?_) rfl (by kernel_rfl) (by kernel_rfl) (by kernel_rfl) (fun _ _ _ h => h) (Or.inl ⟨by kernel_rfl, ?_⟩) hHeld ?_
            rotate_left
            · intro wh hSw
              go_simp
              try with_reducible rfl
            try simp only [Act.put, List.getElem_toArray, List.getElem_cons_zero, List.getElem_cons_succ, List.setIfInBounds_toArray, List.set_cons_zero, List.set_cons_succ]
            refine wpAnyH_take (i := 3) (v := ?_) rfl (by kernel_rfl) (by kernel_rfl) (by kernel_rfl) (fun _ _ _ h => h) (Or.inl ⟨by kernel_rfl, ?_⟩) hHeld ?_
            rotate_left
            · intro wh hSw
              have hcell := hSw.1
              go_simp
              try with_reducible rfl
            try simp only [Act.put, List.getElem_toArray, List.getElem_cons_zero, List.getElem_cons_succ, List.setIfInBounds_toArray, List.set_cons_zero, List.set_cons_succ]
            refine wpAnyH_take (i := 4) (v := ?_) rfl (by kernel_rfl) (by kernel_rfl) (by kernel_rfl) (fun _ _ _ h => h) (Or.inl ⟨by kernel_rfl, ?_⟩) hHeld ?_
            rotate_left
            · intro wh hSw
              go_simp
              try with_reducible rfl
            try simp only [Act.put, List.getElem_toArray, List.getElem_cons_zero, List.getElem_cons_succ, List.setIfInBounds_toArray, List.set_cons_zero, List.set_cons_succ]
            refine wpAnyH_take (i := 5) (v := ?_) rfl (by kernel_rfl) (by kernel_rfl) (by kernel_rfl) (fun _ _ _ h => h) (Or.inl ⟨by kernel_rfl, ?_⟩) hHeld ?_
            rotate_left
            · intro wh hSw
              go_simp
              try with_reducible rfl
            try simp only [Act.put, List.getElem_toArray, List.getElem_cons_zero, List.getElem_cons_succ, List.setIfInBounds_toArray, List.set_cons_zero, List.set_cons_succ]
            refine wpAnyH_take (i := 6) (v := ?_) rfl (by kernel_rfl) (by kernel_rfl) (by kernel_rfl) (fun _ _ _ h => h) (Or.inl ⟨by kernel_rfl, ?_⟩) hHeld ?_
            rotate_left
            · intro wh hSw
              go_simp
              try with_reducible rfl
            try simp only [Act.put, List.getElem_toArray, List.getElem_cons_zero, List.getElem_cons_succ, List.setIfInBounds_toArray, List.set_cons_zero, List.set_cons_succ]
            refine wpAnyH_take (i := 7) (v := ?_) rfl (by kernel_rfl) (by kernel_rfl) (by kernel_rfl) (fun _ _ _ h => h) (Or.inl ⟨by kernel_rfl, ?_⟩) hHeld ?_
            rotate_left
            · intro wh hSw
              have hcell := hSw.2.1
              go_simp
              try with_reducible rfl
            try simp only [Act.put, List.getElem_toArray, List.getElem_cons_zero, List.getElem_cons_succ, List.setIfInBounds_toArray, List.set_cons_zero, List.set_cons_succ]
            refine wpAnyH_take (i := 8) (v := ?_) rfl (by kernel_rfl) (by kernel_rfl) (by kernel_rfl) (fun _ _ _ h => h) (Or.inl ⟨by kernel_rfl, ?_⟩) hHeld ?_
            rotate_left
            · intro wh hSw
              go_simp
              try with_reducible rfl
            try simp only [Act.put, List.getElem_toArray, List.getElem_cons_zero, List.getElem_cons_succ, List.setIfInBounds_toArray, List.set_cons_zero, List.set_cons_succ]
            refine wpAnyH_take (i := 9) (v := ?_) rfl (by kernel_rfl) (by kernel_rfl) (by kernel_rfl) (fun _ _ _ h => h) (Or.inl ⟨by kernel_rfl, ?_⟩) hHeld ?_
            rotate_left
            · intro wh hSw
              have hcell := hSw.2.2
              go_simp
              try with_reducible rfl
            try simp only [Act.put, List.getElem_toArray, List.getElem_cons_zero, List.getElem_cons_succ, List.setIfInBounds_toArray, List.set_cons_zero, List.set_cons_succ]
            refine wpAnyH_take (i := 10) (v := ?_) rfl (by kernel_rfl) (by kernel_rfl) (by kernel_rfl) (fun _ _ _ h => h) (Or.inl ⟨by kernel_rfl, ?_⟩) hHeld ?_
            rotate_left
            · intro wh hSw
              go_simp
              try with_reducible rfl
            try simp only [Act.put, List.getElem_toArray, List.getElem_cons_zero, List.getElem_cons_succ, List.setIfInBounds_toArray, List.set_cons_zero, List.set_cons_succ]
            refine wpAnyH_ready (rs := [1, 11]) (by kernel_rfl) (by simp) (AllReadyH.cons rfl (fun K hK => ?_) (AllReadyH.cons rfl (fun K hK => ?_) AllReadyH.nil))
            · skip
              clear hHeld
              go_simp
              refine hK.out _ _ (far3 (w := w) hS B0.out (by omega) (by omega) (by omega)) (fun hHeld => ?_)
              clear hK K
              try simp only [Act.put, List.getElem_toArray, List.getElem_cons_zero, List.getElem_cons_succ, List.setIfInBounds_toArray, List.set_cons_zero, List.set_cons_succ]
              refine wpAnyH_ready (rs := [11]) (by kernel_rfl) (by simp) (AllReadyH.cons rfl (fun K hK => ?_) AllReadyH.nil)
              clear hHeld
              go_simp
              refine hK.out _ _ hS1.out (fun hHeld => ?_)
              clear hK K
              try simp only [Act.put, List.getElem_toArray, List.getElem_cons_zero, List.getElem_cons_succ, List.setIfInBounds_toArray, List.set_cons_zero, List.set_cons_succ]
              refine wpAnyH_ready (rs := [12]) (by kernel_rfl) (by simp) (AllReadyH.cons rfl (fun K hK => ?_) AllReadyH.nil)
              clear hHeld
              refine step_append_rd (v := v) _ rfl (.tmp 39) (.tmp 49) T31 rfl rfl (own_drew (own_al hM7'.out.own (.cells #[.int .u8 k, .slice A0 n0 c0] 46))) rfl room_one.drew (by intro u hu; simp only [List.mem_cons, List.not_mem_nil, or_false] at hu; rcases hu with rfl | rfl <;> rfl) (by unfold maxLen; omega) (by rw [hlk]; omega) (by show g + 1 ≤ (wr.alloc _).heap.size; simp; omega) ?_
              intro v5 w5 o5 g5 t5 l5
              clear l5 t5
              obtain ⟨A5, c5, rfl⟩ := slice_of_own o5
              have b5 := hidd (B1.out.trans (grown_below (own_drew (own_al hM7'.out.own (.cells #[.int .u8 k, .slice A0 n0 c0] 46))) g5 (by show g + 1 ≤ (wr.alloc _).heap.size; simp; omega)))
              have M5 := hidd (hM7'.out.grew hgs b5.out o5)
              rw [hlk] at M5
              have s5 : g < w5.heap.size := by have := b5.out.size; omega
              have hS5 := hidd (far3 (w := w) hS b5.out (by omega) (by omega) (by omega))
              clear o5 g5
              have cg5 := (b5.out.cell (p := ⟨g, 41, none⟩) (by show g < g + 1; omega)).trans cg
              have fg5 : w5.frozen? ⟨g, 41, none⟩ = false := (World.frozen?_of_block (w := wr) (b5.out.block g (by omega))).trans (hM7'.out.kp.frozen 3 rfl 41)
              refine hK.out _ _ hS5.out (fun hHeld => ?_)
              clear hK K
              try simp only [Act.put, List.getElem_toArray, List.getElem_cons_zero, List.getElem_cons_succ, List.setIfInBounds_toArray, List.set_cons_zero, List.set_cons_succ]
              refine wpAnyH_take (i := 13) (v := ?_) rfl (by kernel_rfl) (by kernel_rfl) (by kernel_rfl) (fun _ _ _ h => h) (Or.inl ⟨by kernel_rfl, ?_⟩) hHeld ?_
              rotate_left
              · intro wh hSw
                go_simp
                try with_reducible rfl
              try simp only [Act.put, List.getElem_toArray, List.getElem_cons_zero, List.getElem_cons_succ, List.setIfInBounds_toArray, List.set_cons_zero, List.set_cons_succ]
              refine wpAnyH_ready (rs := [14]) (by kernel_rfl) (by simp) (AllReadyH.cons rfl (fun K hK => ?_) AllReadyH.nil)
              clear hHeld
              go_simp
              have hS6 := hidd (far3 (w := w) (B := g) hS5.out ((Below.refl g w5).setCell (p := ⟨g, 41, none⟩) (Nat.le_refl _) (.slice A5 (j + 1) c5)) (by omega) (by omega) (by omega))
              refine hK.out _ _ hS6.out (fun hHeld => ?_)
              clear hK K
              try simp only [Act.put, List.getElem_toArray, List.getElem_cons_zero, List.getElem_cons_succ, List.setIfInBounds_toArray, List.set_cons_zero, List.set_cons_succ]
              refine wpAnyH_done (by kernel_rfl) ?_ _
              have M6 := M5
              go_wp2
              go_roundw
              case rel => exact ⟨j + 1, _, by omega, by go_num, by rw [hsn]; exact M6.out, by simpa [World.setCell] using s5⟩
              case measure => simp [intOf]; omega
            · skip
              clear hHeld
              go_simp
              refine hK.out _ _ hS1.out (fun hHeld => ?_)
              clear hK K
              try simp only [Act.put, List.getElem_toArray, List.getElem_cons_zero, List.getElem_cons_succ, List.setIfInBounds_toArray, List.set_cons_zero, List.set_cons_succ]
              refine wpAnyH_ready (rs := [1]) (by kernel_rfl) (by simp) (AllReadyH.cons rfl (fun K hK => ?_) AllReadyH.nil)
              clear hHeld
              have cg1' := cg1.out
              go_simp
              refine hK.out _ _ hS1.out (fun hHeld => ?_)
              clear hK K
              try simp only [Act.put, List.getElem_toArray, List.getElem_cons_zero, List.getElem_cons_succ, List.setIfInBounds_toArray, List.set_cons_zero, List.set_cons_succ]
              refine wpAnyH_ready (rs := [12]) (by kernel_rfl) (by simp) (AllReadyH.cons rfl (fun K hK => ?_) AllReadyH.nil)
              clear hHeld
              refine step_append_rd (v := v) _ rfl (.tmp 39) (.tmp 49) T31 rfl rfl (own_drew (own_al hM7'.out.own (.cells #[.int .u8 k, .slice A0 n0 c0] 46))) rfl room_one.drew (by intro u hu; simp only [List.mem_cons, List.not_mem_nil, or_false] at hu; rcases hu with rfl | rfl <;> rfl) (by unfold maxLen; omega) (by rw [hlk]; omega) (by show g + 1 ≤ (wr.alloc _).heap.size; simp; omega) ?_
              intro v5 w5 o5 g5 t5 l5
              clear l5 t5
              obtain ⟨A5, c5, rfl⟩ := slice_of_own o5
              have b5 := hidd (B1.out.trans (grown_below (own_drew (own_al hM7'.out.own (.cells #[.int .u8 k, .slice A0 n0 c0] 46))) g5 (by show g + 1 ≤ (wr.alloc _).heap.size; simp; omega)))
              have M5 := hidd (hM7'.out.grew hgs b5.out o5)
              rw [hlk] at M5
              have s5 : g < w5.heap.size := by have := b5.out.size; omega
              have hS5 := hidd (far3 (w := w) hS b5.out (by omega) (by omega) (by omega))
              clear o5 g5
              have cg5 := (b5.out.cell (p := ⟨g, 41, none⟩) (by show g < g + 1; omega)).trans cg
              have fg5 : w5.frozen? ⟨g, 41, none⟩ = false := (World.frozen?_of_block (w := wr) (b5.out.block g (by omega))).trans (hM7'.out.kp.frozen 3 rfl 41)
              refine hK.out _ _ hS5.out (fun hHeld => ?_)
              clear hK K
              try simp only [Act.put, List.getElem_toArray, List.getElem_cons_zero, List.getElem_cons_succ, List.setIfInBounds_toArray, List.set_cons_zero, List.set_cons_succ]
              refine wpAnyH_take (i := 13) (v := ?_) rfl (by kernel_rfl) (by kernel_rfl) (by kernel_rfl) (fun _ _ _ h => h) (Or.inl ⟨by kernel_rfl, ?_⟩) hHeld ?_
              rotate_left
              · intro wh hSw
                go_simp
                try with_reducible rfl
              try simp only [Act.put, List.getElem_toArray, List.getElem_cons_zero, List.getElem_cons_succ, List.setIfInBounds_toArray, List.set_cons_zero, List.set_cons_succ]
              refine wpAnyH_ready (rs := [14]) (by kernel_rfl) (by simp) (AllReadyH.cons rfl (fun K hK => ?_) AllReadyH.nil)
              clear hHeld
              go_simp
              have hS6 := hidd (far3 (w := w) (B := g) hS5.out ((Below.refl g w5).setCell (p := ⟨g, 41, none⟩) (Nat.le_refl _) (.slice A5 (j + 1) c5)) (by omega) (by omega) (by omega))
              refine hK.out _ _ hS6.out (fun hHeld => ?_)
              clear hK K
              try simp only [Act.put, List.getElem_toArray, List.getElem_cons_zero, List.getElem_cons_succ, List.setIfInBounds_toArray, List.set_cons_zero, List.set_cons_succ]
              refine wpAnyH_done (by kernel_rfl) ?_ _
              have M6 := M5
              go_wp2
              go_roundw
              case rel => exact ⟨j + 1, _, by omega, by go_num, by rw [hsn]; exact M6.out, by simpa [World.setCell] using s5⟩
              case measure => simp [intOf]; omega
          · have hjn' : j = n := by omega
            subst hjn'
            have hfull : m.ks.take j = m.ks := List.take_of_length_le (by omega)
            rw [hfull] at hM7
            have hM7' := hidd hM7
            clear hM7
            have ek := hM7'.out.kp.cell 2 rfl (i := 0) (v := .int .u8 k0) rfl
            by_cases hk1 : k0 = 1
            · skip
              subst hk1
              obtain ⟨h, Sh⟩ : ∃ h, wr.heap.size = h := ⟨_, rfl⟩
              have hO := hidd (ops_own hM7'.out.own (by rfl))
              have la := hidd (hM7'.out.kp.l30 0 rfl hP.out)
              obtain ⟨Av, cv, hve⟩ := slice_of_own hM7'.out.own
              have hv1 : Hid (Value.oneCell' v = true) := by rw [hve]; rfl
              clear hve
              have hNs : Hid ((Tryd.prog.info? 35).map (·.size) = some (cm.setIfInBounds 41 v).size) := by rw [Array.size_setIfInBounds]; exact size_ms hM.out.is
              go_wp2_with (first
                | (with_reducible show wpList _ _ _ (⟨_, Op.load 30 _, _, _, _, _⟩ :: _) _ _; refine wpList_load_want (by kernel_rfl) 30 _ rfl _ rfl _ (by with_reducible exact la.out) ?_)
                | (with_reducible show wpList _ _ _ (⟨_, Op.store 30 (Operand.tmp 10) _, _, _, _, _⟩ :: _) _ _; refine wpList_store_new rfl rfl 30 (.tmp 10) _ rfl _ _ cp rfl Sh.symm rfl (size_pk hP.out) (Eq.trans (b := 40) (by kernel_rfl) hP.out.size.symm) hP.out.ones ?_
                   have K9 := hidd (hM7'.out.kp.new Sh 30 cp)
                   have D9 : Hid (Below h wr (wr.alloc (.cells cp 30))) := (Below.refl h wr).alloc (by omega) _
                   generalize wr.alloc (.cells cp 30) = V9 at K9 D9 ⊢
                   have e1 := K9.out.cell 2 rfl (i := 1) (v := .slice A0 n0 c0) rfl
                   have e2 := K9.out.cell 4 rfl hbody'.out
                   have e3 := K9.out.frozen 4 rfl 39
                   have K10 := hidd (K9.out.set 4 rfl 39 (.slice A0 n0 c0))
                   have D10 := hidd (D9.out.setCell (p := ⟨h, 39, none⟩) (Nat.le_refl _) (.slice A0 n0 c0))
                   have hq1 := hidd (hP.out.setRest (i := 39) (by omega) (v := .slice A0 n0 c0) rfl)
                   have e4 := K10.out.cell 2 rfl (i := 0) (v := .int .u8 1) rfl
                   obtain ⟨u38, hu38⟩ : ∃ u, (cp.setIfInBounds 39 (.slice A0 n0 c0))[38]? = some u := ⟨_, Array.getElem?_eq_getElem (by rw [hq1.out.size]; omega)⟩
                   have e5 := K10.out.cell 4 rfl hu38
                   have e6 := K10.out.frozen 4 rfl 38
                   have K11 := hidd (K10.out.set 4 rfl 38 (.int .u8 1))
                   have D11 := hidd (D10.out.setCell (p := ⟨h, 38, none⟩) (Nat.le_refl _) (.int .u8 1))
                   have hq2 := hidd (hq1.out.setRest (i := 38) (by omega) (v := .int .u8 1) rfl)
                   have t15 := hidd (K11.out.there 4 rfl (o := 34) (n := [Value.bool true, .int .u32 7, .int .u16 0, .bool false].length) (by rw [hq2.out.size]; decide))
                   have K12 := hidd (K11.out.over 4 rfl 34 [Value.bool true, .int .u32 7, .int .u16 0, .bool false])
                   have D12 := hidd (below_setCells (Nat.le_refl h) [Value.bool true, .int .u32 7, .int .u16 0, .bool false] 34 _ D11.out)
                   have hq3 := hidd (hq2.out.overs [Value.bool true, .int .u32 7, .int .u16 0, .bool false] frOnes (Nat.le_refl 34))
                   have lq := hidd (K12.out.l30 4 rfl hq3.out)
                   have ln := hidd ((K12.out.get 3 rfl).load Tryd.underlying35 rfl hNs.out))
                | (with_reducible show wpList _ _ _ (⟨_, Op.store 27 (Operand.tmp 69) _, _, _, _, _⟩ :: _) _ _; refine wpList_store_vals rfl rfl 27 (.tmp 69) _ rfl _ _ [Value.bool true, .int .u32 7, .int .u16 0, .bool false] rfl rfl t15.out (by kernel_rfl) frOnes ?_)
                | (with_reducible show wpList _ _ _ (⟨_, Op.load 30 _, _, _, _, _⟩ :: _) _ _; refine wpList_load_want (by kernel_rfl) 30 _ rfl _ rfl _ (by with_reducible exact lq.out) ?_)
                | (with_reducible show wpList _ _ _ (⟨_, Op.load 35 _, _, _, _, _⟩ :: _) _ _; refine wpList_load_want (by kernel_rfl) 35 _ rfl _ rfl _ (by with_reducible exact ln.out) ?_))
              refine (valid_any _ _ _ p { m with ks := m.ks } (K12.out.gl hG.out) hq3.out ((mm _ K12.out.bel).out.setOps ((hO.out.below (by rw [Sh]; exact D12.out)).more (by have := D12.out.size; omega)) hv1.out)).mono ?_
              rintro e V40 ⟨rfl, b40⟩
              rw [valid_ks (ks := m.ks) (by rfl)]
              have Q40 := hidd (K12.out.call b40)
              clear lq ln
              go_wp2_with fail
              refine (lives_any _ (Q40.out.gl hG.out)).mono ?_
              rintro e V14 ⟨rfl, b14⟩
              have Q14 := hidd (Q40.out.call b14)
              clear b14
              go_wp2
              go_ret
              exact ⟨rfl, Q14.out.bel⟩
            · skip
              have hk1b : (k0 != 1) = true := by simpa using hk1
              have cg : wr.cell? ⟨g, 41, none⟩ = some v := hM7'.out.kp.cell 3 rfl (set_same (by rw [hM.out.is.size]; omega))
              have ek2 := hM7'.out.kp.cell 2 rfl (i := 1) (v := .slice A0 n0 c0) rfl
              have B1 := hidd ((Below.refl (g + 1) wr).alloc (by omega) (.cells #[.int .u8 k0, .slice A0 n0 c0] 46))
              have cgb := (B1.out.cell (p := ⟨g, 41, none⟩) (by show g < g + 1; omega)).trans cg
              go_wp2_with (first
                | (at_builtin
                   refine wpList_append_rd (v := v) _ rfl (.tmp 56) (.tmp 58) T31 rfl rfl (own_al hM7'.out.own (.cells #[.int .u8 k0, .slice A0 n0 c0] 46)) rfl room_one (by intro u hu; simp only [List.mem_cons, List.not_mem_nil, or_false] at hu; rcases hu with rfl | rfl <;> rfl) (by unfold maxLen; omega) (by rw [hkl]; omega) (by simp; omega) ?_
                   intro v5 w5 o5 g5 t5 l5
                   clear l5 t5
                   obtain ⟨A5, c5, rfl⟩ := slice_of_own o5
                   have b5 := hidd (B1.out.trans (grown_below (own_al hM7'.out.own (.cells #[.int .u8 k0, .slice A0 n0 c0] 46)) g5 (by simp; omega)))
                   have M8 := hidd (hM7'.out.grew hgs b5.out o5)
                   rw [hkl] at M8
                   have s5 : g < w5.heap.size := by have := b5.out.size; omega
                   have cg5 := (b5.out.cell (p := ⟨g, 41, none⟩) (by show g < g + 1; omega)).trans cg
                   have fg5 : w5.frozen? ⟨g, 41, none⟩ = false := (World.frozen?_of_block (w := wr) (b5.out.block g (by omega))).trans (hM7'.out.kp.frozen 3 rfl 41)
                   have flag : True := trivial
                   clear o5 g5 cgb)
                | (with_reducible show wpList _ _ _ (⟨some 61, _, _, _, _, _⟩ :: _) _ _; clear flag
                   generalize w5.setCell ⟨g, 41, none⟩ (.slice A5 (j + 1) c5) = V8 at M8 ⊢
                   obtain ⟨h, Sh⟩ : ∃ h, V8.heap.size = h := ⟨_, rfl⟩
                   have hO := hidd (ops_own M8.out.own (by rfl))
                   have la := hidd (M8.out.kp.l30 0 rfl hP.out)
                   obtain ⟨Av, cv, hve⟩ := slice_of_own M8.out.own
                   have hv1 : Hid (Value.oneCell' (.slice A5 (j + 1) c5) = true) := by rw [hve]; rfl
                   clear hve
                   have hNs : Hid ((Tryd.prog.info? 35).map (·.size) = some (cm.setIfInBounds 41 (.slice A5 (j + 1) c5)).size) := by rw [Array.size_setIfInBounds]; exact size_ms hM.out.is)
                | (with_reducible show wpList _ _ _ (⟨_, Op.load 30 _, _, _, _, _⟩ :: _) _ _; refine wpList_load_want (by kernel_rfl) 30 _ rfl _ rfl _ (by with_reducible exact la.out) ?_)
                | (with_reducible show wpList _ _ _ (⟨_, Op.store 30 (Operand.tmp 10) _, _, _, _, _⟩ :: _) _ _; refine wpList_store_new rfl rfl 30 (.tmp 10) _ rfl _ _ cp rfl Sh.symm rfl (size_pk hP.out) (Eq.trans (b := 40) (by kernel_rfl) hP.out.size.symm) hP.out.ones ?_
                   have K9 := hidd (M8.out.kp.new Sh 30 cp)
                   have D9 : Hid (Below h V8 (V8.alloc (.cells cp 30))) := (Below.refl h V8).alloc (by omega) _
                   generalize V8.alloc (.cells cp 30) = V9 at K9 D9 ⊢
                   have e1 := K9.out.cell 2 rfl (i := 1) (v := .slice A0 n0 c0) rfl
                   have e2 := K9.out.cell 4 rfl hbody'.out
                   have e3 := K9.out.frozen 4 rfl 39
                   have K10 := hidd (K9.out.set 4 rfl 39 (.slice A0 n0 c0))
                   have D10 := hidd (D9.out.setCell (p := ⟨h, 39, none⟩) (Nat.le_refl _) (.slice A0 n0 c0))
                   have hq1 := hidd (hP.out.setRest (i := 39) (by omega) (v := .slice A0 n0 c0) rfl)
                   have e4 := K10.out.cell 2 rfl (i := 0) (v := .int .u8 k0) rfl
                   obtain ⟨u38, hu38⟩ : ∃ u, (cp.setIfInBounds 39 (.slice A0 n0 c0))[38]? = some u := ⟨_, Array.getElem?_eq_getElem (by rw [hq1.out.size]; omega)⟩
                   have e5 := K10.out.cell 4 rfl hu38
                   have e6 := K10.out.frozen 4 rfl 38
                   have K11 := hidd (K10.out.set 4 rfl 38 (.int .u8 k0))
                   have D11 := hidd (D10.out.setCell (p := ⟨h, 38, none⟩) (Nat.le_refl _) (.int .u8 k0))
                   have hq2 := hidd (hq1.out.setRest (i := 38) (by omega) (v := .int .u8 k0) rfl)
                   have t15 := hidd (K11.out.there 4 rfl (o := 34) (n := [Value.bool true, .int .u32 7, .int .u16 0, .bool false].length) (by rw [hq2.out.size]; decide))
                   have K12 := hidd (K11.out.over 4 rfl 34 [Value.bool true, .int .u32 7, .int .u16 0, .bool false])
                   have D12 := hidd (below_setCells (Nat.le_refl h) [Value.bool true, .int .u32 7, .int .u16 0, .bool false] 34 _ D11.out)
                   have hq3 := hidd (hq2.out.overs [Value.bool true, .int .u32 7, .int .u16 0, .bool false] frOnes (Nat.le_refl 34))
                   have lq := hidd (K12.out.l30 4 rfl hq3.out)
                   have ln := hidd ((K12.out.get 3 rfl).load Tryd.underlying35 rfl hNs.out))
                | (with_reducible show wpList _ _ _ (⟨_, Op.store 27 (Operand.tmp 69) _, _, _, _, _⟩ :: _) _ _; refine wpList_store_vals rfl rfl 27 (.tmp 69) _ rfl _ _ [Value.bool true, .int .u32 7, .int .u16 0, .bool false] rfl rfl t15.out (by kernel_rfl) frOnes ?_)
                | (with_reducible show wpList _ _ _ (⟨_, Op.load 30 _, _, _, _, _⟩ :: _) _ _; refine wpList_load_want (by kernel_rfl) 30 _ rfl _ rfl _ (by with_reducible exact lq.out) ?_)
                | (with_reducible show wpList _ _ _ (⟨_, Op.load 35 _, _, _, _, _⟩ :: _) _ _; refine wpList_load_want (by kernel_rfl) 35 _ rfl _ rfl _ (by with_reducible exact ln.out) ?_))
              refine (valid_any _ _ _ p { m with ks := m.ks ++ [k0] } (K12.out.gl hG.out) hq3.out ((mm _ K12.out.bel).out.setOps ((hO.out.below (by rw [Sh]; exact D12.out)).more (by have := D12.out.size; omega)) hv1.out)).mono ?_
              rintro e V40 ⟨rfl, b40⟩
              rw [valid_ks (ks := m.ks ++ [k0]) (by exact any_snoc hk1)]
              have Q40 := hidd (K12.out.call b40)
              clear lq ln
              go_wp2_with fail
              refine (lives_any _ (Q40.out.gl hG.out)).mono ?_
              rintro e V15 ⟨rfl, b15⟩
              have Q15 := hidd (Q40.out.call b15)
              clear b15
              go_wp2
              go_ret
              exact ⟨rfl, Q15.out.bel⟩
    · skip
      go_wp2_with fail
      refine (lives_any _ (Q4.out.gl hG.out)).mono ?_
      rintro e V16 ⟨rfl, b16⟩
      have Q16 := hidd (Q4.out.call b16)
      clear b16
      go_wp2
      go_ret
      exact ⟨rfl, Q16.out.bel⟩

theorem laid_metChecksOptions (os : Os) : laidMet Tryd.prog Rows.checksOptionsRow.laid ((laidWorld os).forCall (fun _ _ => 0) ⟨#[], #[.agg (pkV zeroA zeroA 0 false), .agg (msV 0 zeroA (.slice none 0 0)), .agg #[.int .u8 0, .slice none 0 0]], []⟩).memory :=
  laidMet_of_run' 8 (by kernel_rfl) (by kernel_rfl)
theorem readsChecksOptions (os : Os) {H : Type} (enc : TypeId × Value → H) : ∃ places, DataW.whole enc Tryd.prog ((laidWorld os).forCall (fun _ _ => 0) ⟨#[], #[.agg (pkV zeroA zeroA 0 false), .agg (msV 0 zeroA (.slice none 0 0)), .agg #[.int .u8 0, .slice none 0 0]], []⟩).memory Tryd.f5.params.toList Rows.checksOptionsSpec.vars false (#[.agg (pkV zeroA zeroA 0 false), .agg (msV 0 zeroA (.slice none 0 0)), .agg #[.int .u8 0, .slice none 0 0]] : Array Value).toList 8 = some ([.agg [.agg (List.replicate 16 (.lit (.int .u8 0))), .agg (List.replicate 16 (.lit (.int .u8 0))), .lit (.int .u8 0), .lit (.bool false), .agg [.lit (.bool false), .lit (.int .u32 0), .lit (.int .u16 0), .lit (.bool false)], .lit (.int .u8 0), .nil], .agg [.lit (.int .u8 0), .lit (.int .u8 0), .lit (.int .u32 0), .nil, .lit (.int .u8 0), .lit (.int .u8 0), .lit (.int .u16 0), .lit (.int .u32 0), .lit (.int .u32 0), .agg (List.replicate 16 (.lit (.int .u8 0))), .agg (List.replicate 16 (.lit (.int .u8 0))), .nil, .lit (.int .u16 0), .agg (List.replicate 16 (.lit (.int .u8 0))), .lit (.int .u8 0), .lit (.int .u8 0), .nil, .nil], .agg [.lit (.int .u8 0), .nil]], [], places) :=
  ⟨[], by kernel_rfl⟩
set_option maxRecDepth 100000 in
theorem liftedChecksOptions (os : Os) (started : os.Started) (H : Type) (enc : TypeId × Value → H) (F : Stop.Interp) :
    ReturnsInHanded {} Tryd.checked os 5 .any ((OpenSpec.ofChange Rows.checksOptionsSpec).preRow enc Tryd.prog Tryd.f5 Rows.checksOptionsRow.domain false Rows.checksOptionsRow.laid) (((OpenSpec.ofChange Rows.checksOptionsSpec).at F).post enc Tryd.prog Tryd.f5 false true false false) := by
  obtain ⟨places, hx⟩ := readsChecksOptions os enc
  refine returnsInHanded_of_row (C := Tryd.checked) (s := OpenSpec.ofChange Rows.checksOptionsSpec) own started (by kernel_rfl) Tryd.func5
    (witness_row_at (enc := enc) (C := Tryd.checked) false (laidWorld os) #[.agg (pkV zeroA zeroA 0 false), .agg (msV 0 zeroA (.slice none 0 0)), .agg #[.int .u8 0, .slice none 0 0]] rfl (by kernel_rfl) (by kernel_rfl) (by kernel_rfl)
      (OpenSpec.preRow_of_cond 8 hx (by kernel_rfl) (fun k hk => by cases hk) (by kernel_rfl) (laid_metChecksOptions os))) ?_
  intro W base args ds gs before hval0 hW _ _ hsz0 hL _ _
  have hval : ∀ (j : Nat) t v, Tryd.f5.params[j]? = some t → args[j]? = some v → Value.okWide Tryd.prog W .any base t v := hval0
  have hW' := hW
  obtain ⟨p, q, hA0, hV, rfl, hfz, hnd⟩ := hW
  have hA : DataW.TrodAll enc Tryd.prog W 0 (fun _ => true) true Tryd.f5.params.toList args.toList ds p := hA0
  have hsz : (DataW.weightsEach Tryd.prog (Tryd.f5.params.toList ++ Rows.checksOptionsSpec.plain.varTypes Tryd.prog) (ds ++ gs)).all (· ≤ reachBytes) = true := hsz0
  rw [Tryd.params5] at hA hval hsz
  obtain ⟨v0, vs0, d0, ds0, p0, q0, hargs, rfl, rfl, h0, r0⟩ := trodAll_cons hA
  obtain ⟨v1, vs1, d1, ds1, p1, q1, rfl, rfl, rfl, h1, r1⟩ := trodAll_cons r0
  obtain ⟨v2, vs2, d2, ds2, p2, q2, rfl, rfl, rfl, h2, r2⟩ := trodAll_cons r1
  obtain ⟨rfl, rfl, rfl⟩ := trodAll_nil r2
  obtain rfl : args = #[v0, v1, v2] := by cases args; simp_all
  obtain ⟨rfl, rfl⟩ := trodVars_none hV
  have k0 := h0
  have lt0 : ∀ x ∈ p0, x.block < W.heap.size := by obtain ⟨m, hm⟩ := k0; exact DataW.trod_lt m _ _ _ hm
  have fit0 : Fit Tryd.prog 30 d0 := fun m hm => by simpa using List.all_eq_true.1 hsz _ (DataW.weights_mem_each (j := 0) (t := 30) rfl rfl m hm)
  obtain ⟨c0, p0, ev0, w0⟩ := open_pk (hval 0 30 v0 rfl rfl) h0 fit0
  subst ev0
  have k1 := h1
  have lt1 : ∀ x ∈ p1, x.block < W.heap.size := by obtain ⟨m, hm⟩ := k1; exact DataW.trod_lt m _ _ _ hm
  have fit1 : Fit Tryd.prog 35 d1 := fun m hm => by simpa using List.all_eq_true.1 hsz _ (DataW.weights_mem_each (j := 1) (t := 35) rfl rfl m hm)
  obtain ⟨c1, m1, ev1, w1⟩ := open_ms (hval 1 35 v1 rfl rfl) h1 fit1
  subst ev1
  have k2 := h2
  have lt2 : ∀ x ∈ p2, x.block < W.heap.size := by obtain ⟨m, hm⟩ := k2; exact DataW.trod_lt m _ _ _ hm
  have fit2 : Fit Tryd.prog 46 d2 := fun m hm => by simpa using List.all_eq_true.1 hsz _ (DataW.weights_mem_each (j := 2) (t := 46) rfl rfl m hm)
  obtain ⟨x2, A2, n2, c2, ev2, w2⟩ := open_opt (hval 2 46 v2 rfl rfl) h2 fit2
  subst ev2
  clear hA0 hval0
  have hG := gl_of hL
  refine (walkChecksOptions c0 p0 c1 m1 x2 A2 n2 c2 W w0 w1 w2 hG).mono fun e W' ⟨he, bel⟩ => ?_
  subst he
  exact ⟨_, rfl, _, _, _, [], _, [], hW', trodAll_mk1 (shut_bool Tryd.underlying4 _), (trodAll_cons_mk (Below.trod laidOut (by kernel_rfl) (of_decide_eq_true (by kernel_rfl)) k0 bel lt0) (trodAll_cons_mk (Below.trod laidOut (by kernel_rfl) (of_decide_eq_true (by kernel_rfl)) k1 bel lt1) (trodAll_cons_mk (Below.trod laidOut (by kernel_rfl) (of_decide_eq_true (by kernel_rfl)) k2 bel lt2) trodAll_mk0))), rfl, bel.frame _, fun h => by cases h⟩

theorem saidChecksOptions : Rows.ChecksOptionsSaid :=
  OpenClaim.holds_of_cond 5 Tryd.f5 rfl rfl rfl rfl rfl rfl rfl ⟨rfl, rfl, rfl, rfl, rfl⟩ rfl rfl rfl rfl rfl (by kernel_rfl) Tryd.func5 (by kernel_rfl)
    (of_decide_eq_true (by kernel_rfl)) (by unfold Func.isWrapper; first | (rw [if_pos (by decide +kernel)]; kernel_rfl) | (rw [if_neg (by decide +kernel)]; exact ⟨rfl, rfl⟩))
    (fun os started H enc _ F => by rw [OpenClaim.pre_eq_preRow]; exact liftedChecksOptions os started H enc F)
theorem plainChecksOptions (f : FuncId) (fn : Func) (hf : Tryd.pinned.checked.prog.funcNamed "sojourner/sojournerlaw12.ChecksOptions" = some f) (hfn : Tryd.pinned.checked.prog.funcs[f]? = some fn) :
    false = Tryd.pinned.checked.prog.looks [] ∧ ∀ (j : Nat) t, fn.params[j]? = some t → Tryd.pinned.checked.prog.wantsStandIn t = false := by
  obtain rfl : f = 5 := Option.some.inj ((show Tryd.prog.funcNamed "sojourner/sojournerlaw12.ChecksOptions" = some 5 by kernel_rfl).symm.trans hf) |>.symm
  obtain rfl : fn = Tryd.f5 := (Option.some.inj (Tryd.func5.symm.trans hfn)).symm
  refine ⟨by kernel_rfl, fun j t ht => ?_⟩
  rw [Tryd.params5] at ht
  have hm := Array.mem_of_getElem? ht
  simp only [List.mem_toArray, List.mem_cons, List.not_mem_nil, or_false] at hm
  rcases hm with rfl | rfl | rfl
  · exact (show Tryd.prog.wantsStandIn 30 = false by kernel_rfl)
  · exact (show Tryd.prog.wantsStandIn 35 = false by kernel_rfl)
  · exact (show Tryd.prog.wantsStandIn 46 = false by kernel_rfl)
/-- THE CARD: 'ChecksOptions'. -/
theorem checksOptions_holds : Rows.ChecksOptionsCardSaid :=
  Claim7.holds_tied_plain_at .later [] _ _ _ _ saidChecksOptions (fun _ h => by cases h) (by kernel_rfl) (fun _ h => by cases h) checksOptions_row_tie rfl ⟨rfl, rfl⟩ (by kernel_rfl) rfl plainChecksOptions (by kernel_rfl)

end Go.Proofs.YtlckfnfmekgnkaaDoor
