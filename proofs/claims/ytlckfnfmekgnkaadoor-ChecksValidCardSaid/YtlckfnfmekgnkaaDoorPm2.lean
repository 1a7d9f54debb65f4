/- A packet's twin; whether it is as it was made. No condition. -/
import Derived.Test.YtlckfnfmekgnkaaDoorPm2a
namespace Go.Proofs.YtlckfnfmekgnkaaDoor
open Go.ChangeShapes Go.WideShapes Go.ChangeAt Go.RowKit Go.Deep
set_option linter.unusedVariables false
set_option linter.unusedSimpArgs false

section
variable {w W W' : World} {cs cs' : Array Value} {p : Pk} {x : PkX} {v v' : Value} {Lo : Nat}
set_option maxRecDepth 100000 in
set_option maxHeartbeats 400000 in
theorem twinP_any (w : World) (h : PkAll w cs p x) : Calls Tryd.prog 9 #[.agg cs] w fun r W' => ∃ v', r = .returned (.agg (cs.setIfInBounds 39 v')) ∧ BsTw W' w.heap.size v' x.body ∧ Below w.heap.size w W' := by
  obtain ⟨v, hv, hb⟩ := h.body
  have hz := fun V => zero30 V
  obtain ⟨q, hq⟩ : ∃ q, w.heap.size = q := ⟨_, rfl⟩
  obtain ⟨V, hV⟩ : ∃ V, (w.alloc (.cells cs 30)).alloc (.cells z30 30) = V := ⟨_, rfl⟩
  have b1 := Blk.new w 30 cs
  have b2 := Blk.new (w.alloc (.cells cs 30)) 30 z30
  simp only [nblk_alloc, hq] at b1 b2
  have q1 : Blk V q 30 cs := hV ▸ b1.alloc _
  have q2 : Blk V (q + 1) 30 z30 := hV ▸ b2
  have bV : Below w.heap.size w V := hV ▸ ((Below.refl _ w).alloc (Nat.le_refl _) _).alloc (by simp) _
  have c1 := q1.at_ hv
  have H := hidd h
  have Hb := hidd (hb.to bV)
  have K := hidd (And.intro q1 (And.intro q2 bV))
  have hqV := hidd (show q + 1 < V.heap.size from q2.lt)
  have hv' := hidd hv
  obtain ⟨A, c, rfl, _⟩ := hb
  clear q1 q2 b1 b2 bV h hv
  go_enter Tryd.func9, Tryd.ntmps9
  go_wp2_with fail
  refine (twinB_any V Hb.out).mono ?_
  rintro r V1 ⟨v', rfl, t1, b1⟩
  have q1 := K.out.1.below b1 K.out.1.lt
  have c2 := q1.at_ hv'.out
  have c3 := q1.frozen 39
  obtain ⟨V2, hV2⟩ : ∃ U, V1.setCell ⟨q, 39, none⟩ v' = U := ⟨_, rfl⟩
  have q2 : Blk V2 q 30 (cs.setIfInBounds 39 v') := hV2 ▸ q1.set 39 v'
  have f2 : Fr (· = q) V1 V2 := hV2 ▸ (Fr.refl (· = q) V1).setB v'
  have hs : (cs.setIfInBounds 39 v').size = 40 := by rw [Array.size_setIfInBounds]; exact H.out.is.size
  have l2 := q2.load Tryd.underlying30 rfl (by rw [hs]; exact info30)
  have r2 := (K.out.2.1.below b1 K.out.2.1.lt).fr f2 (by omega)
  have t2 := t1.fr f2 (fun k hk e => by have := hqV.out; have e' : k = q := e; omega)
  have ho := ones_seti H.out.is.ones 39 t1.sl
  obtain ⟨V3, hV3⟩ : ∃ U, V2.setRow (q + 1) (cs.setIfInBounds 39 v') = U := ⟨_, rfl⟩
  have r3 : Blk V3 (q + 1) 30 (cs.setIfInBounds 39 v') := hV3 ▸ r2.setRow _
  have l3 := r3.load Tryd.underlying30 rfl (by rw [hs]; exact info30)
  have hsz : (Tryd.prog.info? 30).map (·.size) = some (cs.setIfInBounds 39 v').size := by rw [hs]; exact info30
  have hzs : z30.size = (cs.setIfInBounds 39 v').size := by rw [hs]; exact z30_size
  have f3 : Fr (· = q + 1) V2 V3 := hV3 ▸ setRow_fr V2 (q + 1) _
  have t3 := t2.fr f3 (fun k hk e => by have := hqV.out; have e' : k = q + 1 := e; omega)
  have F := hidd (And.intro (t3.lo (Lo' := q) (by have := hqV.out; omega)) (show Below q w V3 from by
    have h0 : Below q w V1 := by
      have h1 := K.out.2.2
      rw [hq] at h1
      exact h1.trans (b1.mono (by have := hqV.out; omega))
    have h2 := h0.trans (f2.below (B := q) (by have := h0.size; have := b1.size; have := hqV.out; omega) (fun k e => by have e' : k = q := e; omega))
    exact h2.trans (f3.below (B := q) (by have := h0.size; have := b1.size; have := hqV.out; have := f2.size; omega) (fun k e => by have e' : k = q + 1 := e; omega))))
  obtain ⟨g, rfl, _⟩ := t1
  clear q1 q2 f2 t2 r3 f3 t3 b1 H K hV Hb
  go_wp2_with (first
    | (with_reducible show wpList _ _ _ (⟨_, Op.load 30 _, _, _, _, _⟩ :: _) _ _; go_loud (refine wpList_load_want (w := V2) (by kernel_rfl) 30 (.tmp 1) rfl ⟨q, 0, none⟩ rfl _ l2 ?_))
    | (with_reducible show wpList _ _ _ (⟨_, Op.store 30 _ _, _, _, _, _⟩ :: _) _ _; go_loud (refine wpList_store_blk rfl rfl 30 (.tmp 2) (.tmp 7) rfl (q + 1) 30 _ (cs.setIfInBounds 39 _) r2 rfl rfl hsz hzs ho ?_))
    | fail)
  try rw [hV3]
  refine bodyPost_ret (v := .agg (cs.setIfInBounds 39 (.slice (some ⟨g, 0, none⟩) x.body.length (x.body.length + 4)))) (by simp [results, Tryd.results9, Act.put, asAddr, l3]) rfl ?_
  have hF := F.out
  first | exact ⟨_, rfl, hF⟩ | (rw [← hq] at hF; exact ⟨_, rfl, hF⟩)
end
end Go.Proofs.YtlckfnfmekgnkaaDoor
