/- Whether a message's twin is as it was made. No condition. -/
import Derived.Test.YtlckfnfmekgnkaaDoorMm
namespace Go.Proofs.YtlckfnfmekgnkaaDoor
open Go.ChangeShapes Go.WideShapes Go.ChangeAt Go.RowKit Go.Deep
set_option linter.unusedVariables false
set_option linter.unusedSimpArgs false

section
variable {w W W' : World} {cs cs' : Array Value} {m : Ms} {x : MsX} {v3 v11 v16 v17 : Value} {Lo : Nat}
set_option maxRecDepth 100000 in
set_option maxHeartbeats 4000000 in
theorem leftM_any (w : World) (h : MsAll w cs m x) (h' : MsAll w cs' m x) (hv3 : cs[3]? = some v3) (hv11 : cs[41]? = some v11) (hv16 : cs[61]? = some v16) (hv17 : cs[62]? = some v17) (ht : MsTw w Lo v3 v11 v16 v17 x) : Calls Tryd.prog 14 #[.agg cs, .agg cs'] w fun r W' => r = .returned (.bool true) ∧ Below w.heap.size w W' := by
  obtain ⟨u3, hu3, hc3⟩ := h'.data
  obtain ⟨u11, hu11, hc11⟩ := h'.os
  obtain ⟨u16, hu16, hc16⟩ := h'.sources
  obtain ⟨u17, hu17, hc17⟩ := h'.recs
  obtain ⟨q, hq⟩ : ∃ q, w.heap.size = q := ⟨_, rfl⟩
  obtain ⟨V, hV⟩ : ∃ V, (w.alloc (.cells cs 35)).alloc (.cells cs' 35) = V := ⟨_, rfl⟩
  have b1 := Blk.new w 35 cs
  have b2 := Blk.new (w.alloc (.cells cs 35)) 35 cs'
  simp only [nblk_alloc, hq] at b1 b2
  have q1 : Blk V q 35 cs := hV ▸ b1.alloc _
  have q2 : Blk V (q + 1) 35 cs' := hV ▸ b2
  have bV : Below w.heap.size w V := hV ▸ ((Below.refl _ w).alloc (Nat.le_refl _) _).alloc (by simp) _
  have X1 := hidd (fun (U : World) (hU : Below V.heap.size V U) => h.bl (q1.below hU q1.lt) hv3 hv11 hv16 hv17)
  have X2 := hidd (fun (U : World) (hU : Below V.heap.size V U) => h'.bl (q2.below hU q2.lt) hu3 hu11 hu16 hu17)
  have l1 := q1.load Tryd.underlying35 rfl (size_ms h.is)
  have l2 := q2.load Tryd.underlying35 rfl (size_ms h'.is)
  have H := hidd (show (MsAll V cs m x ∧ MsAll V cs' m x) ∧ MsTw V Lo v3 v11 v16 v17 x ∧ BsIn V u3 x.data ∧ OsIn V u11 x.os ∧ AsIn V u16 x.sources ∧ RsIn V u17 x.recs from ⟨⟨h.to bV, h'.to bV⟩, ht.to bV, hc3.to bV, hc11.to bV, hc16.to bV, hc17.to bV⟩)
  have B := hidd bV
  obtain ⟨t3, t11, t16, t17⟩ := ht
  obtain ⟨_, rfl, _⟩ := t3
  obtain ⟨_, _, rfl, _⟩ := t11
  obtain ⟨_, _, rfl, _⟩ := t16
  obtain ⟨_, _, rfl, _⟩ := t17
  obtain ⟨_, _, rfl, _⟩ := hc3
  obtain ⟨_, _, rfl, _⟩ := hc11
  obtain ⟨_, _, rfl, _⟩ := hc16
  obtain ⟨_, _, rfl, _⟩ := hc17
  clear q1 q2 b1 b2 bV h h' hv3 hv11 hv16 hv17 hu3 hu11 hu16 hu17
  go_enter Tryd.func14, Tryd.ntmps14
  go_wp2_with (first
    | (with_reducible show wpList _ _ _ (⟨_, Op.load 35 _, _, _, _, _⟩ :: _) _ _; refine wpList_load_want (w := V) (by kernel_rfl) 35 _ rfl _ rfl _ (by with_reducible first | exact l1 | exact l2) ?_)
    | fail)
  refine (sameM_any V H.out.1.1 H.out.1.2).mono ?_
  rintro r V1 ⟨rfl, bb⟩
  have Z1 := hidd (bb)
  clear bb
  clear l1 l2
  have c1 := (X1.out V1 Z1.out).data
  have c2 := (X2.out V1 Z1.out).data
  go_wp2_with fail
  clear c1 c2
  refine (leftB_any V1 (H.out.2.1.data.to Z1.out) (H.out.2.2.1.to Z1.out)).mono ?_
  rintro r V2 ⟨rfl, bb⟩
  have Z2 := hidd (Z1.out.trans (bb.mono Z1.out.size))
  clear bb
  have c1 := (X1.out V2 Z2.out).os
  have c2 := (X2.out V2 Z2.out).os
  go_wp2_with fail
  clear c1 c2
  refine (leftO_any V2 (H.out.2.1.os.to Z2.out) (H.out.2.2.2.1.to Z2.out)).mono ?_
  rintro r V3 ⟨rfl, bb⟩
  have Z3 := hidd (Z2.out.trans (bb.mono Z2.out.size))
  clear bb
  have c1 := (X1.out V3 Z3.out).sources
  have c2 := (X2.out V3 Z3.out).sources
  go_wp2_with fail
  clear c1 c2
  refine (leftA_any V3 (H.out.2.1.sources.to Z3.out) (H.out.2.2.2.2.1.to Z3.out)).mono ?_
  rintro r V4 ⟨rfl, bb⟩
  have Z4 := hidd (Z3.out.trans (bb.mono Z3.out.size))
  clear bb
  have c1 := (X1.out V4 Z4.out).recs
  have c2 := (X2.out V4 Z4.out).recs
  go_wp2_with fail
  clear c1 c2
  refine (leftR_any V4 (H.out.2.1.recs.to Z4.out) (H.out.2.2.2.2.2.to Z4.out)).mono ?_
  rintro r V5 ⟨rfl, bb⟩
  have Z5 := hidd (Z4.out.trans (bb.mono Z4.out.size))
  clear bb
  go_wp2
  go_ret
  have hb := B.out.trans (Z5.out.mono B.out.size)
  first | exact ⟨rfl, hb⟩ | (rw [hq] at hb; exact ⟨rfl, hb⟩)
end
end Go.Proofs.YtlckfnfmekgnkaaDoor
