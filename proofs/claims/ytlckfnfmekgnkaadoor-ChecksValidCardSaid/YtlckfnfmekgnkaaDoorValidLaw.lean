/- 'ChecksValid': for every input the law returns true; nothing that was there is written. No condition but that the table lies where it was laid. -/
import Derived.Test.YtlckfnfmekgnkaaDoorOpen3
import Derived.Test.YtlckfnfmekgnkaaDoorRvAll
import Derived.Test.YtlckfnfmekgnkaaDoorValid2
namespace Go.Proofs.YtlckfnfmekgnkaaDoor
open Go.ChangeShapes Go.WideShapes Go.ChangeAt Go.RowKit Go.Deep
set_option linter.unusedVariables false
set_option linter.unusedSimpArgs false

section
variable {w W : World} {B B' : Nat} {cs : Array Value} {m : Ms}
theorem MsIn.to (h : MsIn w B cs m) (hb : Below B w W) (hB : B ≤ B') : MsIn W B' cs m := by
  obtain ⟨A, n, c, xs, h1, h2⟩ := h.ops
  obtain ⟨A', n', c', xs', h3, h4⟩ := h.recs
  exact ⟨h.is.to hb hB, h.data, h.sources, ⟨A, n, c, xs, h1, ⟨(h2.rd.below hb).more hB, h2.len, h2.at_, h2.room, h2.rng⟩⟩, ⟨A', n', c', xs', h3, ⟨(h4.rd.below hb).more hB, h4.at_⟩⟩⟩
end
/-- The law's boxes: what came in, the twins. -/
structure Vs (w U : World) (a b g h : Nat) (cp cm cp' cm' : Array Value) (p : Pk) (x : PkX) (m : Ms) (y : MsX) (v v3 v11 v16 v17 : Value) : Prop where
  gl : Gl U
  bel : Below w.heap.size w U
  ba : Blk U a 30 cp
  bb : Blk U b 35 cm
  bg : Blk U g 30 cp'
  bh : Blk U h 35 cm'
  p0 : PkAll U cp p x
  p1 : PkAll U cp' p x
  e1 : cp'[39]? = some v
  tp : BsTw U 0 v x.body
  m0 : MsAll U cm m y
  m1 : MsAll U cm' m y
  e3 : cm'[3]? = some v3
  e11 : cm'[41]? = some v11
  e16 : cm'[61]? = some v16
  e17 : cm'[62]? = some v17
  tm : MsTw U 0 v3 v11 v16 v17 y
section
variable {w U U' : World} {a b g h : Nat} {cp cm cp' cm' : Array Value} {p : Pk} {x : PkX} {m : Ms} {y : MsX} {v v3 v11 v16 v17 : Value}
theorem Vs.to (k : Vs w U a b g h cp cm cp' cm' p x m y v v3 v11 v16 v17) (hb : Below U.heap.size U U') : Vs w U' a b g h cp cm cp' cm' p x m y v v3 v11 v16 v17 :=
  ⟨k.gl.below hb k.gl.lt, k.bel.trans (hb.mono k.bel.size), k.ba.below hb k.ba.lt, k.bb.below hb k.bb.lt, k.bg.below hb k.bg.lt, k.bh.below hb k.bh.lt, k.p0.to hb, k.p1.to hb, k.e1, k.tp.to hb, k.m0.to hb, k.m1.to hb, k.e3, k.e11, k.e16, k.e17, k.tm.to hb⟩
theorem Vs.lds (k : Vs w U a b g h cp cm cp' cm' p x m y v v3 v11 v16 v17) : (loadVar 30 ⟨g, 0, none⟩).run Tryd.prog U = .ok (.agg cp') U ∧ (loadVar 35 ⟨h, 0, none⟩).run Tryd.prog U = .ok (.agg cm') U ∧ (loadVar 30 ⟨a, 0, none⟩).run Tryd.prog U = .ok (.agg cp) U ∧ (loadVar 35 ⟨b, 0, none⟩).run Tryd.prog U = .ok (.agg cm) U :=
  ⟨k.bg.load Tryd.underlying30 rfl (size_pk k.p1.is), k.bh.load Tryd.underlying35 rfl (size_ms k.m1.is), k.ba.load Tryd.underlying30 rfl (size_pk k.p0.is), k.bb.load Tryd.underlying35 rfl (size_ms k.m0.is)⟩
end
set_option maxRecDepth 100000 in
set_option maxHeartbeats 8000000 in
theorem walkChecksValid (cp : Array Value) (p : Pk) (x : PkX) (cm : Array Value) (m : Ms) (y : MsX) (w : World) (hp : PkAll w cp p x) (hm : MsAll w cm m y ∧ ∃ m', MsIn w w.heap.size cm m') (hg : Gl w) :
    Calls Tryd.prog 3 #[.agg cp, .agg cm] w fun e w' => e = .returned (.bool true) ∧ Below w.heap.size w w' := by
  obtain ⟨hm, m', hin⟩ := hm
  have hz30 := fun V => zero30 V
  have hz35 := fun V => zero35 V
  obtain ⟨vb, hvb, hbb⟩ := hp.body
  obtain ⟨A, c, rfl, _⟩ := hbb
  obtain ⟨q, hq⟩ : ∃ q, w.heap.size = q := ⟨_, rfl⟩
  obtain ⟨V0, hV⟩ : ∃ V, (w.alloc (.cells cp 30)).alloc (.cells cm 35) = V := ⟨_, rfl⟩
  have b1 := Blk.new w 30 cp
  have b2 := Blk.new (w.alloc (.cells cp 30)) 35 cm
  simp only [nblk_alloc, hq] at b1 b2
  have q1 : Blk V0 q 30 cp := hV ▸ b1.alloc _
  have q2 : Blk V0 (q + 1) 35 cm := hV ▸ b2
  have bV : Below w.heap.size w V0 := hV ▸ ((Below.refl _ w).alloc (Nat.le_refl _) _).alloc (by simp) _
  have c39 := q1.at_ hvb
  have K0 := hidd (show (Blk V0 q 30 cp ∧ Blk V0 (q + 1) 35 cm) ∧ Gl V0 ∧ Below w.heap.size w V0 ∧ PkAll V0 cp p x ∧ MsAll V0 cm m y from ⟨⟨q1, q2⟩, hg.below bV hg.lt, bV, hp.to bV, hm.to bV⟩)
  have Hin := hidd (hin.to bV bV.size)
  obtain ⟨n, hn⟩ : ∃ n, x.body.length = n := ⟨_, rfl⟩
  rw [hn] at c39
  clear hp hm hin hg q1 q2 b1 b2 bV hvb
  go_enter Tryd.func3, Tryd.ntmps3
  by_cases hbig : 6000 < n
  · have hbz : (6000 : Int) < (n : Int) := by omega
    go_wp2_with fail
    refine (lives_any _ K0.out.2.1).mono ?_
    rintro e V1 ⟨rfl, bb⟩
    have hb := K0.out.2.2.1.trans (bb.mono K0.out.2.2.1.size)
    clear bb c39
    go_wp2
    go_ret
    first | exact ⟨rfl, hb⟩ | (rw [hq] at hb; exact ⟨rfl, hb⟩)
  · have hsm : decide ((6000 : Int) < (n : Int)) = false := by simp; omega
    have l1 := K0.out.1.2.load Tryd.underlying35 rfl (size_ms K0.out.2.2.2.2.is)
    go_wp2_with (first
      | (with_reducible show wpList _ _ _ (⟨some 12, Op.load 35 _, _, _, _, _⟩ :: _) _ _; refine wpList_load_want (by kernel_rfl) 35 _ rfl _ rfl _ (by with_reducible exact l1) ?_)
      | fail)
    refine (great_any V0 cm m' Hin.out).mono ?_
    rintro e V1 ⟨bt, rfl, bb⟩
    have K1 := hidd (show (Blk V1 q 30 cp ∧ Blk V1 (q + 1) 35 cm) ∧ Gl V1 ∧ Below w.heap.size w V1 ∧ PkAll V1 cp p x ∧ MsAll V1 cm m y from ⟨⟨K0.out.1.1.below bb K0.out.1.1.lt, K0.out.1.2.below bb K0.out.1.2.lt⟩, K0.out.2.1.below bb K0.out.2.1.lt, K0.out.2.2.1.trans (bb.mono K0.out.2.2.1.size), K0.out.2.2.2.1.to bb, K0.out.2.2.2.2.to bb⟩)
    clear bb l1 c39 K0 Hin
    cases bt with
    | true =>
      go_wp2_with fail
      refine (lives_any _ K1.out.2.1).mono ?_
      rintro e V2 ⟨rfl, bb⟩
      have hb := K1.out.2.2.1.trans (bb.mono K1.out.2.2.1.size)
      clear bb
      go_wp2
      go_ret
      first | exact ⟨rfl, hb⟩ | (rw [hq] at hb; exact ⟨rfl, hb⟩)
    | false =>
      have l1 := K1.out.1.1.load Tryd.underlying30 rfl (size_pk K1.out.2.2.2.1.is)
      go_wp2_with (first
        | (with_reducible show wpList _ _ _ (⟨some 16, Op.load 30 _, _, _, _, _⟩ :: _) _ _; refine wpList_load_want (by kernel_rfl) 30 _ rfl _ rfl _ (by with_reducible exact l1) ?_)
        | fail)
      refine (twinP_any V1 K1.out.2.2.2.1).mono ?_
      rintro e V2 ⟨v, rfl, tp, bb⟩
      obtain ⟨cp', hcp'⟩ : ∃ c, cp.setIfInBounds 39 v = c := ⟨_, rfl⟩
      have bA : Below V1.heap.size V1 (V2.alloc (.cells cp' 30)) := bb.alloc (by have := bb.size; omega) _
      have tp2 : BsTw (V2.alloc (.cells cp' 30)) 0 v x.body := (tp.lo (Nat.zero_le _)).to ((Below.refl _ V2).alloc (Nat.le_refl _) _)
      have K3 := hidd (show (Blk (V2.alloc (.cells cp' 30)) q 30 cp ∧ Blk (V2.alloc (.cells cp' 30)) (q + 1) 35 cm ∧ Blk (V2.alloc (.cells cp' 30)) V2.heap.size 30 cp') ∧ Gl (V2.alloc (.cells cp' 30)) ∧ Below w.heap.size w (V2.alloc (.cells cp' 30)) ∧ (PkAll (V2.alloc (.cells cp' 30)) cp p x ∧ PkAll (V2.alloc (.cells cp' 30)) cp' p x) ∧ MsAll (V2.alloc (.cells cp' 30)) cm m y ∧ BsTw (V2.alloc (.cells cp' 30)) 0 v x.body ∧ cp'[39]? = some v from
        ⟨⟨K1.out.1.1.below bA K1.out.1.1.lt, K1.out.1.2.below bA K1.out.1.2.lt, Blk.new V2 30 cp'⟩, K1.out.2.1.below bA K1.out.2.1.lt, K1.out.2.2.1.trans (bA.mono K1.out.2.2.1.size), ⟨K1.out.2.2.2.1.to bA, hcp' ▸ (K1.out.2.2.2.1.to bA).turn tp2⟩, K1.out.2.2.2.2.to bA, tp2, by
          have h40 := K1.out.2.2.2.1.is.size
          rw [← hcp', Array.getElem?_setIfInBounds, if_pos rfl, if_pos (by omega)]⟩)
      have l2 := K3.out.1.2.1.load Tryd.underlying35 rfl (size_ms K3.out.2.2.2.2.1.is)
      have hsz : (Tryd.prog.info? 30).map (·.size) = some cp'.size := size_pk K3.out.2.2.2.1.2.is
      have hzs : z30.size = cp'.size := by rw [K3.out.2.2.2.1.2.is.size]; rfl
      have ho := K3.out.2.2.2.1.2.is.ones
      rw [hcp']
      clear bb bA tp2 tp l1 K1
      go_wp2_with (first
        | (with_reducible show wpList _ _ _ (⟨some 18, Op.load 35 _, _, _, _, _⟩ :: _) _ _; go_loud (refine wpList_load_want (by kernel_rfl) 35 _ rfl _ rfl _ l2 ?_))
        | (with_reducible show wpList _ _ _ (⟨_, Op.store 30 _ _, _, _, _, _⟩ :: _) _ _; go_loud (refine wpList_store_new rfl rfl 30 (.tmp 5) (.tmp 17) rfl V2.heap.size z30 cp' rfl rfl rfl hsz hzs ho ?_))
        | fail)
      refine (twinM_any (V2.alloc (.cells cp' 30)) K3.out.2.2.2.2.1).mono ?_
      rintro e V4 ⟨v3, v11, v16, v17, rfl, tm, bb⟩
      obtain ⟨cm', hcm'⟩ : ∃ c, put4 cm v3 v11 v16 v17 = c := ⟨_, rfl⟩
      have bA : Below (V2.alloc (.cells cp' 30)).heap.size (V2.alloc (.cells cp' 30)) (V4.alloc (.cells cm' 35)) := bb.alloc (by have := bb.size; omega) _
      have tm2 : MsTw (V4.alloc (.cells cm' 35)) 0 v3 v11 v16 v17 y := (show MsTw V4 0 v3 v11 v16 v17 y from ⟨tm.data.lo (Nat.zero_le _), tm.os.lo (Nat.zero_le _), tm.sources.lo (Nat.zero_le _), tm.recs.lo (Nat.zero_le _)⟩).to ((Below.refl _ V4).alloc (Nat.le_refl _) _)
      have h63 := K3.out.2.2.2.2.1.is.size
      have K5 := hidd (show Vs w (V4.alloc (.cells cm' 35)) q (q + 1) V2.heap.size V4.heap.size cp cm cp' cm' p x m y v v3 v11 v16 v17 from
        ⟨K3.out.2.1.below bA K3.out.2.1.lt, K3.out.2.2.1.trans (bA.mono K3.out.2.2.1.size), K3.out.1.1.below bA K3.out.1.1.lt, K3.out.1.2.1.below bA K3.out.1.2.1.lt, K3.out.1.2.2.below bA K3.out.1.2.2.lt, Blk.new V4 35 cm', K3.out.2.2.2.1.1.to bA, K3.out.2.2.2.1.2.to bA, K3.out.2.2.2.2.2.2, K3.out.2.2.2.2.2.1.to bA, K3.out.2.2.2.2.1.to bA, hcm' ▸ (K3.out.2.2.2.2.1.to bA).turn tm2, by rw [← hcm']; exact put4_3 h63, by rw [← hcm']; exact put4_11 h63, by rw [← hcm']; exact put4_16 h63, by rw [← hcm']; exact put4_17 h63, tm2⟩)
      have hsz5 : (Tryd.prog.info? 35).map (·.size) = some cm'.size := size_ms K5.out.m1.is
      have hzs5 : z35.size = cm'.size := by rw [K5.out.m1.is.size]; rfl
      have ho5 := K5.out.m1.is.ones
      rw [hcm']
      clear bb bA tm2 tm l2 K3 hsz hzs ho h63
      go_wp2_with (first
        | (with_reducible show wpList _ _ _ (⟨_, Op.store 35 _ _, _, _, _, _⟩ :: _) _ _; go_loud (refine wpList_store_new rfl rfl 35 (.tmp 6) (.tmp 19) rfl V4.heap.size z35 cm' rfl rfl rfl hsz5 hzs5 ho5 ?_))
        | fail)
      have K6 := hidd (K5.out.to (below_drew _))
      clear hsz5 hzs5 ho5 K5
      refine wp_region_held_drew (S := (fun U => (loadVar 30 ⟨V2.heap.size, 0, none⟩).run Tryd.prog U = .ok (.agg cp') U ∧ (loadVar 35 ⟨V4.heap.size, 0, none⟩).run Tryd.prog U = .ok (.agg cm') U ∧ (loadVar 30 ⟨q, 0, none⟩).run Tryd.prog U = .ok (.agg cp) U ∧ (loadVar 35 ⟨q + 1, 0, none⟩).run Tryd.prog U = .ok (.agg cm) U)) (by kernel_rfl) K6.out.lds (fun hHeld => ?_)
      generalize (V4.alloc (.cells cm' 35)).drew = D at K6 hHeld ⊢
      obtain ⟨t, ht⟩ : ∃ t, valid p m = t := ⟨_, rfl⟩
      refine wpAnyH_take (i := 0) rfl (by kernel_rfl) (by kernel_rfl) (by kernel_rfl) (fun _ _ _ h => h) (yieldsIf_load_want (by kernel_rfl) 30 _ rfl _ rfl _ (fun wh hSw => hSw.1)) hHeld ?_
      try simp only [Act.put, List.getElem_toArray, List.getElem_cons_zero, List.getElem_cons_succ, List.setIfInBounds_toArray, List.set_cons_zero, List.set_cons_succ]
      refine wpAnyH_take (i := 1) rfl (by kernel_rfl) (by kernel_rfl) (by kernel_rfl) (fun _ _ _ h => h) (yieldsIf_load_want (by kernel_rfl) 35 _ rfl _ rfl _ (fun wh hSw => hSw.2.1)) hHeld ?_
      try simp only [Act.put, List.getElem_toArray, List.getElem_cons_zero, List.getElem_cons_succ, List.setIfInBounds_toArray, List.set_cons_zero, List.set_cons_succ]
      refine wpAnyH_take (i := 3) rfl (by kernel_rfl) (by kernel_rfl) (by kernel_rfl) (fun _ _ _ h => h) (yieldsIf_load_want (by kernel_rfl) 30 _ rfl _ rfl _ (fun wh hSw => hSw.2.2.1)) hHeld ?_
      try simp only [Act.put, List.getElem_toArray, List.getElem_cons_zero, List.getElem_cons_succ, List.setIfInBounds_toArray, List.set_cons_zero, List.set_cons_succ]
      refine wpAnyH_take (i := 4) rfl (by kernel_rfl) (by kernel_rfl) (by kernel_rfl) (fun _ _ _ h => h) (yieldsIf_load_want (by kernel_rfl) 35 _ rfl _ rfl _ (fun wh hSw => hSw.2.2.2)) hHeld ?_
      try simp only [Act.put, List.getElem_toArray, List.getElem_cons_zero, List.getElem_cons_succ, List.setIfInBounds_toArray, List.set_cons_zero, List.set_cons_succ]
      refine wpAnyH_ready (rs := [2]) (by kernel_rfl) (by simp) (AllReadyH.cons rfl (fun K hK => ?_) AllReadyH.nil)
      clear hHeld
      go_simp
      refine (valid_any D cp' cm' p m K6.out.gl K6.out.p1.is K6.out.m1.is).mono ?_
      rintro e E1 ⟨rfl, bb⟩
      rw [ht]
      dsimp only
      have Ka := hidd (K6.out.to bb)
      clear bb K6
      refine hK.out _ _ Ka.out.lds (fun hHeld => ?_)
      clear hK K
      try simp only [Act.put, List.getElem_toArray, List.getElem_cons_zero, List.getElem_cons_succ, List.setIfInBounds_toArray, List.set_cons_zero, List.set_cons_succ]
      refine wpAnyH_ready (rs := [5]) (by kernel_rfl) (by simp) (AllReadyH.cons rfl (fun K hK => ?_) AllReadyH.nil)
      clear hHeld
      go_simp
      refine (valid_ref E1 cp cm p m Ka.out.p0.is Ka.out.m0.is).mono ?_
      rintro e E2 ⟨rfl, bb⟩
      rw [ht]
      dsimp only
      have Kb := hidd (Ka.out.to bb)
      clear bb Ka
      refine hK.out _ _ Kb.out.lds (fun hHeld => ?_)
      clear hK K
      try simp only [Act.put, List.getElem_toArray, List.getElem_cons_zero, List.getElem_cons_succ, List.setIfInBounds_toArray, List.set_cons_zero, List.set_cons_succ]
      refine wpAnyH_take (i := 6) (v := ?_) rfl (by kernel_rfl) (by kernel_rfl) (by kernel_rfl) (fun _ _ _ h => h) (Or.inl ⟨by kernel_rfl, ?_⟩) hHeld ?_
      rotate_left
      · intro wh hSw
        go_simp
        try with_reducible rfl
      try simp only [Act.put, List.getElem_toArray, List.getElem_cons_zero, List.getElem_cons_succ, List.setIfInBounds_toArray, List.set_cons_zero, List.set_cons_succ]
      refine wpAnyH_take (i := 7) (v := ?_) rfl (by kernel_rfl) (by kernel_rfl) (by kernel_rfl) (fun _ _ _ h => h) (Or.inl ⟨by kernel_rfl, ?_⟩) hHeld ?_
      rotate_left
      · intro wh hSw
        go_simp
        try with_reducible rfl
      try simp only [Act.put, List.getElem_toArray, List.getElem_cons_zero, List.getElem_cons_succ, List.setIfInBounds_toArray, List.set_cons_zero, List.set_cons_succ]
      refine wpAnyH_take (i := 8) rfl (by kernel_rfl) (by kernel_rfl) (by kernel_rfl) (fun _ _ _ h => h) (yieldsIf_load_want (by kernel_rfl) 30 _ rfl _ rfl _ (fun wh hSw => hSw.1)) hHeld ?_
      try simp only [Act.put, List.getElem_toArray, List.getElem_cons_zero, List.getElem_cons_succ, List.setIfInBounds_toArray, List.set_cons_zero, List.set_cons_succ]
      refine wpAnyH_take (i := 9) rfl (by kernel_rfl) (by kernel_rfl) (by kernel_rfl) (fun _ _ _ h => h) (yieldsIf_load_want (by kernel_rfl) 30 _ rfl _ rfl _ (fun wh hSw => hSw.2.2.1)) hHeld ?_
      try simp only [Act.put, List.getElem_toArray, List.getElem_cons_zero, List.getElem_cons_succ, List.setIfInBounds_toArray, List.set_cons_zero, List.set_cons_succ]
      refine wpAnyH_ready (rs := [10]) (by kernel_rfl) (by simp) (AllReadyH.cons rfl (fun K hK => ?_) AllReadyH.nil)
      clear hHeld
      go_simp
      refine (leftP_any E2 Kb.out.p1 Kb.out.p0 Kb.out.e1 Kb.out.tp).mono ?_
      rintro e E3 ⟨rfl, bb⟩
      dsimp only
      have Kc := hidd (Kb.out.to bb)
      clear bb Kb
      refine hK.out _ _ Kc.out.lds (fun hHeld => ?_)
      clear hK K
      try simp only [Act.put, List.getElem_toArray, List.getElem_cons_zero, List.getElem_cons_succ, List.setIfInBounds_toArray, List.set_cons_zero, List.set_cons_succ]
      refine wpAnyH_take (i := 11) (v := ?_) rfl (by kernel_rfl) (by kernel_rfl) (by kernel_rfl) (fun _ _ _ h => h) (Or.inl ⟨by kernel_rfl, ?_⟩) hHeld ?_
      rotate_left
      · intro wh hSw
        go_simp
        try with_reducible rfl
      try simp only [Act.put, List.getElem_toArray, List.getElem_cons_zero, List.getElem_cons_succ, List.setIfInBounds_toArray, List.set_cons_zero, List.set_cons_succ]
      refine wpAnyH_take (i := 12) (v := ?_) rfl (by kernel_rfl) (by kernel_rfl) (by kernel_rfl) (fun _ _ _ h => h) (Or.inl ⟨by kernel_rfl, ?_⟩) hHeld ?_
      rotate_left
      · intro wh hSw
        go_simp
        try with_reducible rfl
      try simp only [Act.put, List.getElem_toArray, List.getElem_cons_zero, List.getElem_cons_succ, List.setIfInBounds_toArray, List.set_cons_zero, List.set_cons_succ]
      refine wpAnyH_take (i := 13) rfl (by kernel_rfl) (by kernel_rfl) (by kernel_rfl) (fun _ _ _ h => h) (yieldsIf_load_want (by kernel_rfl) 35 _ rfl _ rfl _ (fun wh hSw => hSw.2.1)) hHeld ?_
      try simp only [Act.put, List.getElem_toArray, List.getElem_cons_zero, List.getElem_cons_succ, List.setIfInBounds_toArray, List.set_cons_zero, List.set_cons_succ]
      refine wpAnyH_take (i := 14) rfl (by kernel_rfl) (by kernel_rfl) (by kernel_rfl) (fun _ _ _ h => h) (yieldsIf_load_want (by kernel_rfl) 35 _ rfl _ rfl _ (fun wh hSw => hSw.2.2.2)) hHeld ?_
      try simp only [Act.put, List.getElem_toArray, List.getElem_cons_zero, List.getElem_cons_succ, List.setIfInBounds_toArray, List.set_cons_zero, List.set_cons_succ]
      refine wpAnyH_ready (rs := [15]) (by kernel_rfl) (by simp) (AllReadyH.cons rfl (fun K hK => ?_) AllReadyH.nil)
      clear hHeld
      go_simp
      refine (leftM_any E3 Kc.out.m1 Kc.out.m0 Kc.out.e3 Kc.out.e11 Kc.out.e16 Kc.out.e17 Kc.out.tm).mono ?_
      rintro e E4 ⟨rfl, bb⟩
      dsimp only
      have Kd := hidd (Kc.out.to bb)
      clear bb Kc
      refine hK.out _ _ Kd.out.lds (fun hHeld => ?_)
      clear hK K
      try simp only [Act.put, List.getElem_toArray, List.getElem_cons_zero, List.getElem_cons_succ, List.setIfInBounds_toArray, List.set_cons_zero, List.set_cons_succ]
      refine wpAnyH_take (i := 16) (v := ?_) rfl (by kernel_rfl) (by kernel_rfl) (by kernel_rfl) (fun _ _ _ h => h) (Or.inl ⟨by kernel_rfl, ?_⟩) hHeld ?_
      rotate_left
      · intro wh hSw
        go_simp
        try with_reducible rfl
      try simp only [Act.put, List.getElem_toArray, List.getElem_cons_zero, List.getElem_cons_succ, List.setIfInBounds_toArray, List.set_cons_zero, List.set_cons_succ]
      refine wpAnyH_take (i := 17) (v := ?_) rfl (by kernel_rfl) (by kernel_rfl) (by kernel_rfl) (fun _ _ _ h => h) (Or.inl ⟨by kernel_rfl, ?_⟩) hHeld ?_
      rotate_left
      · intro wh hSw
        go_simp
        try with_reducible rfl
      try simp only [Act.put, List.getElem_toArray, List.getElem_cons_zero, List.getElem_cons_succ, List.setIfInBounds_toArray, List.set_cons_zero, List.set_cons_succ]
      refine wpAnyH_ready (rs := [18]) (by kernel_rfl) (by simp) (AllReadyH.cons rfl (fun K hK => ?_) AllReadyH.nil)
      clear hHeld
      go_simp
      refine (lives_any E4 Kd.out.gl).mono ?_
      rintro e E5 ⟨rfl, bb⟩
      dsimp only
      have K7 := hidd (Kd.out.to bb)
      clear bb Kd
      refine hK.out _ _ K7.out.lds (fun hHeld => ?_)
      clear hK K
      try simp only [Act.put, List.getElem_toArray, List.getElem_cons_zero, List.getElem_cons_succ, List.setIfInBounds_toArray, List.set_cons_zero, List.set_cons_succ]
      refine wpAnyH_take (i := 19) (v := ?_) rfl (by kernel_rfl) (by kernel_rfl) (by kernel_rfl) (fun _ _ _ h => h) (Or.inl ⟨by kernel_rfl, ?_⟩) hHeld ?_
      rotate_left
      · intro wh hSw
        go_simp
        try with_reducible rfl
      try simp only [Act.put, List.getElem_toArray, List.getElem_cons_zero, List.getElem_cons_succ, List.setIfInBounds_toArray, List.set_cons_zero, List.set_cons_succ]
      refine wpAnyH_take (i := 20) (v := ?_) rfl (by kernel_rfl) (by kernel_rfl) (by kernel_rfl) (fun _ _ _ h => h) (Or.inl ⟨by kernel_rfl, ?_⟩) hHeld ?_
      rotate_left
      · intro wh hSw
        go_simp
        try with_reducible rfl
      try simp only [Act.put, List.getElem_toArray, List.getElem_cons_zero, List.getElem_cons_succ, List.setIfInBounds_toArray, List.set_cons_zero, List.set_cons_succ]
      refine wpAnyH_done (by kernel_rfl) ?_ _
      clear hHeld
      go_wp2
      go_ret
      have hb := K7.out.bel
      first | exact ⟨rfl, hb⟩ | (rw [hq] at hb; exact ⟨rfl, hb⟩)

theorem laid_metChecksValid (os : Os) : laidMet Tryd.prog Rows.checksValidRow.laid ((laidWorld os).forCall (fun _ _ => 0) ⟨#[], #[.agg (pkV zeroA zeroA 0 false), .agg (msV 0 zeroA (.slice none 0 0))], []⟩).memory :=
  laidMet_of_run' 8 (by kernel_rfl) (by kernel_rfl)
theorem readsChecksValid (os : Os) {H : Type} (enc : TypeId × Value → H) : ∃ places, DataW.whole enc Tryd.prog ((laidWorld os).forCall (fun _ _ => 0) ⟨#[], #[.agg (pkV zeroA zeroA 0 false), .agg (msV 0 zeroA (.slice none 0 0))], []⟩).memory Tryd.f3.params.toList Rows.checksValidSpec.vars false (#[.agg (pkV zeroA zeroA 0 false), .agg (msV 0 zeroA (.slice none 0 0))] : Array Value).toList 8 = some ([.agg [.agg (List.replicate 16 (.lit (.int .u8 0))), .agg (List.replicate 16 (.lit (.int .u8 0))), .lit (.int .u8 0), .lit (.bool false), .agg [.lit (.bool false), .lit (.int .u32 0), .lit (.int .u16 0), .lit (.bool false)], .lit (.int .u8 0), .nil], .agg [.lit (.int .u8 0), .lit (.int .u8 0), .lit (.int .u32 0), .nil, .lit (.int .u8 0), .lit (.int .u8 0), .lit (.int .u16 0), .lit (.int .u32 0), .lit (.int .u32 0), .agg (List.replicate 16 (.lit (.int .u8 0))), .agg (List.replicate 16 (.lit (.int .u8 0))), .nil, .lit (.int .u16 0), .agg (List.replicate 16 (.lit (.int .u8 0))), .lit (.int .u8 0), .lit (.int .u8 0), .nil, .nil]], [], places) :=
  ⟨[], by kernel_rfl⟩
set_option maxRecDepth 100000 in
theorem liftedChecksValid (os : Os) (started : os.Started) (H : Type) (enc : TypeId × Value → H) (F : Stop.Interp) :
    ReturnsInHanded {} Tryd.checked os 3 .any ((OpenSpec.ofChange Rows.checksValidSpec).preRow enc Tryd.prog Tryd.f3 Rows.checksValidRow.domain false Rows.checksValidRow.laid) (((OpenSpec.ofChange Rows.checksValidSpec).at F).post enc Tryd.prog Tryd.f3 false true false false) := by
  obtain ⟨places, hx⟩ := readsChecksValid os enc
  refine returnsInHanded_of_row (C := Tryd.checked) (s := OpenSpec.ofChange Rows.checksValidSpec) own started (by kernel_rfl) Tryd.func3
    (witness_row_at (enc := enc) (C := Tryd.checked) false (laidWorld os) #[.agg (pkV zeroA zeroA 0 false), .agg (msV 0 zeroA (.slice none 0 0))] rfl (by kernel_rfl) (by kernel_rfl) (by kernel_rfl)
      (OpenSpec.preRow_of_cond 8 hx (by kernel_rfl) (fun k hk => by cases hk) (by kernel_rfl) (laid_metChecksValid os))) ?_
  intro W base args ds gs before hval0 hW _ _ hsz0 hL _ _
  have hval : ∀ (j : Nat) t v, Tryd.f3.params[j]? = some t → args[j]? = some v → Value.okWide Tryd.prog W .any base t v := hval0
  have hW' := hW
  obtain ⟨p, q, hA0, hV, rfl, hfz, hnd⟩ := hW
  have hA : DataW.TrodAll enc Tryd.prog W 0 (fun _ => true) true Tryd.f3.params.toList args.toList ds p := hA0
  have hsz : (DataW.weightsEach Tryd.prog (Tryd.f3.params.toList ++ Rows.checksValidSpec.plain.varTypes Tryd.prog) (ds ++ gs)).all (· ≤ reachBytes) = true := hsz0
  rw [Tryd.params3] at hA hval hsz
  obtain ⟨v0, vs0, d0, ds0, p0, q0, hargs, rfl, rfl, h0, r0⟩ := trodAll_cons hA
  obtain ⟨v1, vs1, d1, ds1, p1, q1, rfl, rfl, rfl, h1, r1⟩ := trodAll_cons r0
  obtain ⟨rfl, rfl, rfl⟩ := trodAll_nil r1
  obtain rfl : args = #[v0, v1] := by cases args; simp_all
  obtain ⟨rfl, rfl⟩ := trodVars_none hV
  have k0 := h0
  have lt0 : ∀ x ∈ p0, x.block < W.heap.size := by obtain ⟨m, hm⟩ := k0; exact DataW.trod_lt m _ _ _ hm
  have fit0 : Fit Tryd.prog 30 d0 := fun m hm => by simpa using List.all_eq_true.1 hsz _ (DataW.weights_mem_each (j := 0) (t := 30) rfl rfl m hm)
  obtain ⟨c0, p0, x0, ev0, w0⟩ := open_pk3 (hval 0 30 v0 rfl rfl) h0 fit0
  subst ev0
  have k1 := h1
  have lt1 : ∀ x ∈ p1, x.block < W.heap.size := by obtain ⟨m, hm⟩ := k1; exact DataW.trod_lt m _ _ _ hm
  have fit1 : Fit Tryd.prog 35 d1 := fun m hm => by simpa using List.all_eq_true.1 hsz _ (DataW.weights_mem_each (j := 1) (t := 35) rfl rfl m hm)
  obtain ⟨c1, m1, y1, ev1, w1⟩ := open_ms3 (hval 1 35 v1 rfl rfl) h1 fit1
  subst ev1
  clear hA0 hval0
  have hG := gl_of hL
  refine (walkChecksValid c0 p0 x0 c1 m1 y1 W w0 w1 hG).mono fun e W' ⟨he, bel⟩ => ?_
  subst he
  exact ⟨_, rfl, _, _, _, [], _, [], hW', trodAll_mk1 (shut_bool Tryd.underlying4 _), (trodAll_cons_mk (Below.trod laidOut (by kernel_rfl) (of_decide_eq_true (by kernel_rfl)) k0 bel lt0) (trodAll_cons_mk (Below.trod laidOut (by kernel_rfl) (of_decide_eq_true (by kernel_rfl)) k1 bel lt1) trodAll_mk0)), rfl, bel.frame _, fun h => by cases h⟩

theorem saidChecksValid : Rows.ChecksValidSaid :=
  OpenClaim.holds_of_cond 3 Tryd.f3 rfl rfl rfl rfl rfl rfl rfl ⟨rfl, rfl, rfl, rfl, rfl⟩ rfl rfl rfl rfl rfl (by kernel_rfl) Tryd.func3 (by kernel_rfl)
    (of_decide_eq_true (by kernel_rfl)) (by unfold Func.isWrapper; first | (rw [if_pos (by decide +kernel)]; kernel_rfl) | (rw [if_neg (by decide +kernel)]; exact ⟨rfl, rfl⟩))
    (fun os started H enc _ F => by rw [OpenClaim.pre_eq_preRow]; exact liftedChecksValid os started H enc F)
theorem plainChecksValid (f : FuncId) (fn : Func) (hf : Tryd.pinned.checked.prog.funcNamed "sojourner/sojournerlaw12.ChecksValid" = some f) (hfn : Tryd.pinned.checked.prog.funcs[f]? = some fn) :
    false = Tryd.pinned.checked.prog.looks [] ∧ ∀ (j : Nat) t, fn.params[j]? = some t → Tryd.pinned.checked.prog.wantsStandIn t = false := by
  obtain rfl : f = 3 := Option.some.inj ((show Tryd.prog.funcNamed "sojourner/sojournerlaw12.ChecksValid" = some 3 by kernel_rfl).symm.trans hf) |>.symm
  obtain rfl : fn = Tryd.f3 := (Option.some.inj (Tryd.func3.symm.trans hfn)).symm
  refine ⟨by kernel_rfl, fun j t ht => ?_⟩
  rw [Tryd.params3] at ht
  have hm := Array.mem_of_getElem? ht
  simp only [List.mem_toArray, List.mem_cons, List.not_mem_nil, or_false] at hm
  rcases hm with rfl | rfl
  · exact (show Tryd.prog.wantsStandIn 30 = false by kernel_rfl)
  · exact (show Tryd.prog.wantsStandIn 35 = false by kernel_rfl)
/-- THE CARD: 'ChecksValid'. -/
theorem checksValid_holds : Rows.ChecksValidCardSaid :=
  Claim7.holds_tied_plain_at .later [] _ _ _ _ saidChecksValid (fun _ h => by cases h) (by kernel_rfl) (fun _ h => by cases h) checksValid_row_tie rfl ⟨rfl, rfl⟩ (by kernel_rfl) rfl plainChecksValid (by kernel_rfl)

end Go.Proofs.YtlckfnfmekgnkaaDoor
