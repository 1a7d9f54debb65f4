/- A message's twin. No condition. -/
import Derived.Test.YtlckfnfmekgnkaaDoorMm2
namespace Go.Proofs.YtlckfnfmekgnkaaDoor
open Go.ChangeShapes Go.WideShapes Go.ChangeAt Go.RowKit Go.Deep
set_option linter.unusedVariables false
set_option linter.unusedSimpArgs false

def z35 : Array Value := #[.int .u8 0, .int .u8 0, .int .u32 0, .slice none 0 0, .int .u8 0, .int .u8 0, .int .u16 0, .int .u32 0, .int .u32 0] ++ Array.replicate 32 (.int .u8 0) ++ #[.slice none 0 0, .int .u16 0] ++ Array.replicate 18 (.int .u8 0) ++ #[.slice none 0 0, .slice none 0 0]
theorem z35_size : z35.size = 63 := rfl
theorem zero35 (V : World) : (zeroValue 35).run Tryd.prog V = .ok (.agg z35) V := (zero_of_info (v := .agg z35) (n := 63) (by kernel_rfl)).1 V
/-- The call's own two boxes: the message, the twin to be. -/
structure MsSt (w V : World) (q : Nat) (cs : Array Value) : Prop where
  b1 : Blk V q 35 cs
  b2 : Blk V (q + 1) 35 z35
  bel : Below w.heap.size w V
  lo : w.heap.size = q
section
variable {w V V' W W' : World} {cs cs' : Array Value} {m : Ms} {x : MsX} {v : Value} {q Lo : Nat}
theorem MsSt.hi (h : MsSt w V q cs) : q + 2 ≤ V.heap.size := by have := h.b2.lt; omega
theorem MsSt.call (h : MsSt w V q cs) (hb : Below V.heap.size V V') : MsSt w V' q cs :=
  ⟨h.b1.below hb h.b1.lt, h.b2.below hb h.b2.lt, h.bel.trans (hb.mono h.bel.size), h.lo⟩
theorem MsSt.put (h : MsSt w V q cs) (i : Nat) (v : Value) : MsSt w (V.setCell ⟨q, i, none⟩ v) q (cs.setIfInBounds i v) :=
  ⟨h.b1.set i v, h.b2.far (p := ⟨q, i, none⟩) (by simp) v, h.bel.setCell (p := ⟨q, i, none⟩) (Nat.le_of_eq h.lo) v, h.lo⟩
theorem putFr (V : World) (q i : Nat) (v : Value) : Fr (· = q) V (V.setCell ⟨q, i, none⟩ v) := (Fr.refl (· = q) V).setB v
theorem far_q {q : Nat} : ∀ k, q + 2 ≤ k → ¬ k = q := fun k h e => by omega
theorem far_q1 {q : Nat} : ∀ k, q + 2 ≤ k → ¬ k = q + 1 := fun k h e => by omega
set_option maxRecDepth 100000 in
set_option maxHeartbeats 4000000 in
theorem twinM_any (w : World) (h : MsAll w cs m x) : Calls Tryd.prog 10 #[.agg cs] w fun r W' => ∃ v3 v11 v16 v17, r = .returned (.agg (put4 cs v3 v11 v16 v17)) ∧ MsTw W' w.heap.size v3 v11 v16 v17 x ∧ Below w.heap.size w W' := by
  obtain ⟨u3, hu3, hc3⟩ := h.data
  obtain ⟨u11, hu11, hc11⟩ := h.os
  obtain ⟨u16, hu16, hc16⟩ := h.sources
  obtain ⟨u17, hu17, hc17⟩ := h.recs
  have hz := fun V => zero35 V
  obtain ⟨q, hq⟩ : ∃ q, w.heap.size = q := ⟨_, rfl⟩
  obtain ⟨V0, hV⟩ : ∃ V, (w.alloc (.cells cs 35)).alloc (.cells z35 35) = V := ⟨_, rfl⟩
  have K0 : Hid (MsSt w V0 q cs) := by
    have b1 := Blk.new w 35 cs
    have b2 := Blk.new (w.alloc (.cells cs 35)) 35 z35
    simp only [nblk_alloc, hq] at b1 b2
    exact hidd ⟨hV ▸ b1.alloc _, hV ▸ b2, hV ▸ ((Below.refl _ w).alloc (Nat.le_refl _) _).alloc (by simp) _, hq⟩
  have hs0 := h.is.size
  have ho0 := hidd h.is.ones
  have H := hidd (show BsIn w u3 x.data ∧ OsIn w u11 x.os ∧ AsIn w u16 x.sources ∧ RsIn w u17 x.recs from ⟨hc3, hc11, hc16, hc17⟩)
  obtain ⟨_, _, rfl, _⟩ := hc3
  obtain ⟨_, _, rfl, _⟩ := hc11
  obtain ⟨_, _, rfl, _⟩ := hc16
  obtain ⟨_, _, rfl, _⟩ := hc17
  have a0 := K0.out.b1.at_ hu3
  clear h
  go_enter Tryd.func10, Tryd.ntmps10
  go_wp2_with fail
  refine (twinB_any V0 (H.out.1.to K0.out.bel)).mono ?_
  rintro r V1 ⟨x0, rfl, t, bb⟩
  have K1 := hidd (K0.out.call bb)
  have Tt3 := hidd (t.lo (Lo' := q + 2) K0.out.hi)
  have a1 := K1.out.b1.at_ (show (cs)[3]? = some _ from by exact hu3)
  have a2 := K1.out.b1.frozen 3
  obtain ⟨g0, rfl, _⟩ := t
  obtain ⟨V2, hV2⟩ : ∃ U, V1.setCell ⟨q, 3, none⟩ (.slice (some ⟨g0, 0, none⟩) x.data.length (x.data.length + 4)) = U := ⟨_, rfl⟩
  have K2 := hidd (show MsSt w V2 q ((cs).setIfInBounds 3 (.slice (some ⟨g0, 0, none⟩) x.data.length (x.data.length + 4))) from hV2 ▸ K1.out.put 3 _)
  replace Tt3 := hidd (Tt3.out.fr (W' := V2) (hV2 ▸ putFr V1 q 3 _) far_q)
  clear bb a0
  have a0 := K2.out.b1.at_ (show ((cs).setIfInBounds 3 (.slice (some ⟨g0, 0, none⟩) x.data.length (x.data.length + 4)))[41]? = some _ from by rw [get_ne (by decide)]; exact hu11)
  go_wp2_with fail
  clear a1 a2
  refine (twinO_any V2 (H.out.2.1.to K2.out.bel)).mono ?_
  rintro r V3 ⟨x1, rfl, t, bb⟩
  have K3 := hidd (K2.out.call bb)
  have Tt11 := hidd (t.lo (Lo' := q + 2) K2.out.hi)
  replace Tt3 := hidd (Tt3.out.to bb)
  have a1 := K3.out.b1.at_ (show ((cs).setIfInBounds 3 (.slice (some ⟨g0, 0, none⟩) x.data.length (x.data.length + 4)))[41]? = some _ from by rw [get_ne (by decide)]; exact hu11)
  have a2 := K3.out.b1.frozen 41
  obtain ⟨g1, _, rfl, _⟩ := t
  obtain ⟨V4, hV4⟩ : ∃ U, V3.setCell ⟨q, 41, none⟩ (.slice (some ⟨g1, 0, none⟩) x.os.length (x.os.length + 4)) = U := ⟨_, rfl⟩
  have K4 := hidd (show MsSt w V4 q (((cs).setIfInBounds 3 (.slice (some ⟨g0, 0, none⟩) x.data.length (x.data.length + 4))).setIfInBounds 41 (.slice (some ⟨g1, 0, none⟩) x.os.length (x.os.length + 4))) from hV4 ▸ K3.out.put 41 _)
  replace Tt3 := hidd (Tt3.out.fr (W' := V4) (hV4 ▸ putFr V3 q 41 _) far_q)
  replace Tt11 := hidd (Tt11.out.fr (W' := V4) (hV4 ▸ putFr V3 q 41 _) far_q)
  clear bb a0
  have a0 := K4.out.b1.at_ (show (((cs).setIfInBounds 3 (.slice (some ⟨g0, 0, none⟩) x.data.length (x.data.length + 4))).setIfInBounds 41 (.slice (some ⟨g1, 0, none⟩) x.os.length (x.os.length + 4)))[61]? = some _ from by rw [get_ne (by decide), get_ne (by decide)]; exact hu16)
  go_wp2_with fail
  clear a1 a2
  refine (twinA_any V4 (H.out.2.2.1.to K4.out.bel)).mono ?_
  rintro r V5 ⟨x2, rfl, t, bb⟩
  have K5 := hidd (K4.out.call bb)
  have Tt16 := hidd (t.lo (Lo' := q + 2) K4.out.hi)
  replace Tt3 := hidd (Tt3.out.to bb)
  replace Tt11 := hidd (Tt11.out.to bb)
  have a1 := K5.out.b1.at_ (show (((cs).setIfInBounds 3 (.slice (some ⟨g0, 0, none⟩) x.data.length (x.data.length + 4))).setIfInBounds 41 (.slice (some ⟨g1, 0, none⟩) x.os.length (x.os.length + 4)))[61]? = some _ from by rw [get_ne (by decide), get_ne (by decide)]; exact hu16)
  have a2 := K5.out.b1.frozen 61
  obtain ⟨g2, _, rfl, _⟩ := t
  obtain ⟨V6, hV6⟩ : ∃ U, V5.setCell ⟨q, 61, none⟩ (.slice (some ⟨g2, 0, none⟩) x.sources.length (x.sources.length + 4)) = U := ⟨_, rfl⟩
  have K6 := hidd (show MsSt w V6 q ((((cs).setIfInBounds 3 (.slice (some ⟨g0, 0, none⟩) x.data.length (x.data.length + 4))).setIfInBounds 41 (.slice (some ⟨g1, 0, none⟩) x.os.length (x.os.length + 4))).setIfInBounds 61 (.slice (some ⟨g2, 0, none⟩) x.sources.length (x.sources.length + 4))) from hV6 ▸ K5.out.put 61 _)
  replace Tt3 := hidd (Tt3.out.fr (W' := V6) (hV6 ▸ putFr V5 q 61 _) far_q)
  replace Tt11 := hidd (Tt11.out.fr (W' := V6) (hV6 ▸ putFr V5 q 61 _) far_q)
  replace Tt16 := hidd (Tt16.out.fr (W' := V6) (hV6 ▸ putFr V5 q 61 _) far_q)
  clear bb a0
  have a0 := K6.out.b1.at_ (show ((((cs).setIfInBounds 3 (.slice (some ⟨g0, 0, none⟩) x.data.length (x.data.length + 4))).setIfInBounds 41 (.slice (some ⟨g1, 0, none⟩) x.os.length (x.os.length + 4))).setIfInBounds 61 (.slice (some ⟨g2, 0, none⟩) x.sources.length (x.sources.length + 4)))[62]? = some _ from by rw [get_ne (by decide), get_ne (by decide), get_ne (by decide)]; exact hu17)
  go_wp2_with fail
  clear a1 a2
  refine (twinR_any V6 (H.out.2.2.2.to K6.out.bel)).mono ?_
  rintro r V7 ⟨x3, rfl, t, bb⟩
  have K7 := hidd (K6.out.call bb)
  have Tt17 := hidd (t.lo (Lo' := q + 2) K6.out.hi)
  replace Tt3 := hidd (Tt3.out.to bb)
  replace Tt11 := hidd (Tt11.out.to bb)
  replace Tt16 := hidd (Tt16.out.to bb)
  have a1 := K7.out.b1.at_ (show ((((cs).setIfInBounds 3 (.slice (some ⟨g0, 0, none⟩) x.data.length (x.data.length + 4))).setIfInBounds 41 (.slice (some ⟨g1, 0, none⟩) x.os.length (x.os.length + 4))).setIfInBounds 61 (.slice (some ⟨g2, 0, none⟩) x.sources.length (x.sources.length + 4)))[62]? = some _ from by rw [get_ne (by decide), get_ne (by decide), get_ne (by decide)]; exact hu17)
  have a2 := K7.out.b1.frozen 62
  obtain ⟨g3, _, rfl, _⟩ := t
  obtain ⟨V8, hV8⟩ : ∃ U, V7.setCell ⟨q, 62, none⟩ (.slice (some ⟨g3, 0, none⟩) x.recs.length (x.recs.length + 4)) = U := ⟨_, rfl⟩
  have K8 := hidd (show MsSt w V8 q (((((cs).setIfInBounds 3 (.slice (some ⟨g0, 0, none⟩) x.data.length (x.data.length + 4))).setIfInBounds 41 (.slice (some ⟨g1, 0, none⟩) x.os.length (x.os.length + 4))).setIfInBounds 61 (.slice (some ⟨g2, 0, none⟩) x.sources.length (x.sources.length + 4))).setIfInBounds 62 (.slice (some ⟨g3, 0, none⟩) x.recs.length (x.recs.length + 4))) from hV8 ▸ K7.out.put 62 _)
  replace Tt3 := hidd (Tt3.out.fr (W' := V8) (hV8 ▸ putFr V7 q 62 _) far_q)
  replace Tt11 := hidd (Tt11.out.fr (W' := V8) (hV8 ▸ putFr V7 q 62 _) far_q)
  replace Tt16 := hidd (Tt16.out.fr (W' := V8) (hV8 ▸ putFr V7 q 62 _) far_q)
  replace Tt17 := hidd (Tt17.out.fr (W' := V8) (hV8 ▸ putFr V7 q 62 _) far_q)
  clear bb a0
  obtain ⟨c4, hc4⟩ : ∃ c, ((((cs).setIfInBounds 3 (.slice (some ⟨g0, 0, none⟩) x.data.length (x.data.length + 4))).setIfInBounds 41 (.slice (some ⟨g1, 0, none⟩) x.os.length (x.os.length + 4))).setIfInBounds 61 (.slice (some ⟨g2, 0, none⟩) x.sources.length (x.sources.length + 4))).setIfInBounds 62 (.slice (some ⟨g3, 0, none⟩) x.recs.length (x.recs.length + 4)) = c := ⟨_, rfl⟩
  have K9 := hidd (show MsSt w V8 q c4 from hc4 ▸ K8.out)
  have hs : c4.size = 63 := by rw [← hc4]; simpa using hs0
  have l2 := K9.out.b1.load Tryd.underlying35 rfl (by rw [hs]; exact info35)
  have r2 := K9.out.b2
  have ho : c4.all (·.oneCell') = true := by rw [← hc4]; exact ones_seti (ones_seti (ones_seti (ones_seti ho0.out 3 rfl) 41 rfl) 61 rfl) 62 rfl
  obtain ⟨V9, hV9⟩ : ∃ U, V8.setRow (q + 1) c4 = U := ⟨_, rfl⟩
  have r3 : Blk V9 (q + 1) 35 c4 := hV9 ▸ r2.setRow _
  have l3 := r3.load Tryd.underlying35 rfl (by rw [hs]; exact info35)
  have hsz : (Tryd.prog.info? 35).map (·.size) = some c4.size := by rw [hs]; exact info35
  have hzs : z35.size = c4.size := by rw [hs]; exact z35_size
  have f3 : Fr (· = q + 1) V8 V9 := hV9 ▸ setRow_fr V8 (q + 1) _
  have F := hidd (show MsTw V9 q (.slice (some ⟨g0, 0, none⟩) x.data.length (x.data.length + 4)) (.slice (some ⟨g1, 0, none⟩) x.os.length (x.os.length + 4)) (.slice (some ⟨g2, 0, none⟩) x.sources.length (x.sources.length + 4)) (.slice (some ⟨g3, 0, none⟩) x.recs.length (x.recs.length + 4)) x ∧ Below q w V9 from ⟨⟨(Tt3.out.fr f3 far_q1).lo (by omega), (Tt11.out.fr f3 far_q1).lo (by omega), (Tt16.out.fr f3 far_q1).lo (by omega), (Tt17.out.fr f3 far_q1).lo (by omega)⟩, by
    have h0 := K9.out.bel
    rw [hq] at h0
    exact h0.trans (f3.below (B := q) (by have := K9.out.hi; omega) (fun k e => by have e' : k = q + 1 := e; omega))⟩)
  clear K0 K1 K2 K3 K4 K5 K6 K7 K8 K9 Tt3 Tt11 Tt16 Tt17 H r3 f3 hV hu3 hu11 hu16 hu17 ho0
  go_wp2_with (first
    | (with_reducible show wpList _ _ _ (⟨_, Op.load 35 _, _, _, _, _⟩ :: _) _ _; go_loud (refine wpList_load_want (w := V8) (by kernel_rfl) 35 (.tmp 1) rfl ⟨q, 0, none⟩ rfl _ l2 ?_))
    | (with_reducible show wpList _ _ _ (⟨_, Op.store 35 _ _, _, _, _, _⟩ :: _) _ _; go_loud (refine wpList_store_blk (W := V8) rfl rfl 35 (.tmp 2) (.tmp 19) rfl (q + 1) 35 _ c4 r2 rfl rfl hsz hzs ho ?_))
    | fail)
  try rw [hV9]
  refine bodyPost_ret (v := .agg c4) (by simp [results, Tryd.results10, Act.put, asAddr, l3]) rfl ?_
  have hF := F.out
  have he : Ending.returned (.agg c4) = Ending.returned (.agg (put4 cs (.slice (some ⟨g0, 0, none⟩) x.data.length (x.data.length + 4)) (.slice (some ⟨g1, 0, none⟩) x.os.length (x.os.length + 4)) (.slice (some ⟨g2, 0, none⟩) x.sources.length (x.sources.length + 4)) (.slice (some ⟨g3, 0, none⟩) x.recs.length (x.recs.length + 4)))) := by rw [← hc4]; rfl
  first | exact ⟨_, _, _, _, he, hF⟩ | (rw [← hq] at hF; exact ⟨_, _, _, _, he, hF⟩)
end
end Go.Proofs.YtlckfnfmekgnkaaDoor
