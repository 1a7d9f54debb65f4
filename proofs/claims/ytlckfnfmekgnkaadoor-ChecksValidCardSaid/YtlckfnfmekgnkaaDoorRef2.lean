/- The document's answer's parts: who has an address solicited; whether a message has a source. No condition. -/
import Derived.Test.YtlckfnfmekgnkaaDoorRef
import Derived.Test.YtlckfnfmekgnkaaDoorMm
namespace Go.Proofs.YtlckfnfmekgnkaaDoor
open Go.ChangeShapes Go.WideShapes Go.ChangeAt Go.RowKit Go.Deep
set_option linter.unusedVariables false
set_option linter.unusedSimpArgs false

theorem bytesV_set (l : List Int) (i : Nat) (v : Int) : (bytesV l).setIfInBounds i (.int .u8 v) = bytesV (l.set i v) := by
  simp [bytesV]
def so0 : List Int := [255, 2, 0, 0, 0, 0, 0, 0, 0, 0, 0, 0, 0, 0, 0, 0]
def so5 (x y z : Int) : List Int := [255, 2, 0, 0, 0, 0, 0, 0, 0, 0, 0, 1, 255, x, y, z]
theorem so5_is {x y z : Int} (hx : 0 ≤ x ∧ x ≤ 255) (hy : 0 ≤ y ∧ y ≤ 255) (hz : 0 ≤ z ∧ z ≤ 255) : IsAddr (so5 x y z) := ⟨rfl, fun v hv => by
  simp only [so5, List.mem_cons, List.not_mem_nil, or_false] at hv
  rcases hv with rfl | rfl | rfl | rfl | rfl | rfl | rfl | rfl | rfl | rfl | rfl | rfl | rfl | rfl | rfl | rfl <;> omega⟩
theorem soli_so {a : List Int} (ha : IsAddr a) : soli a = so5 (a[13]?.getD 0) (a[14]?.getD 0) (a[15]?.getD 0) := by
  have hl := ha.len
  match a, hl with
  | [_, _, _, _, _, _, _, _, _, _, _, _, _, _, _, _], _ => rfl
set_option maxRecDepth 100000 in
set_option maxHeartbeats 4000000 in
theorem soli_ref (w : World) (a : List Int) (ha : IsAddr a) : Calls Tryd.prog 29 #[.agg (bytesV a)] w fun e w' => e = .returned (.agg (bytesV (soli a))) ∧ Below w.heap.size w w' := by
  have hz := zero23
  obtain ⟨q, hq⟩ : ∃ q, w.heap.size = q := ⟨_, rfl⟩
  obtain ⟨V, hV⟩ : ∃ V, ((w.alloc (.cells (bytesV a) 23)).alloc (.cells (bytesV zeroA) 23)).alloc (.cells (bytesV so0) 23) = V := ⟨_, rfl⟩
  have b1 := Blk.new w 23 (bytesV a)
  have b2 := Blk.new (w.alloc (.cells (bytesV a) 23)) 23 (bytesV zeroA)
  have b3 := Blk.new ((w.alloc (.cells (bytesV a) 23)).alloc (.cells (bytesV zeroA) 23)) 23 (bytesV so0)
  simp only [nblk_alloc, hq] at b1 b2 b3
  have p0 : Blk V q 23 (bytesV a) := hV ▸ (b1.alloc _).alloc _
  have z0 : Blk V (q + 1) 23 (bytesV zeroA) := hV ▸ b2.alloc _
  have s0 : Blk V (q + 1 + 1) 23 (bytesV so0) := hV ▸ b3
  have f0 : Below w.heap.size w V := hV ▸ (((Below.refl _ w).alloc (Nat.le_refl _) _).alloc (by simp) _).alloc (by simp; omega) _
  rw [soli_so ha]
  have hx := at_rng ha (i := 13) (by omega)
  have hy := at_rng ha (i := 14) (by omega)
  have hw := at_rng ha (i := 15) (by omega)
  have hl := ha.len
  have cx := cell_of_bytes p0 13 (by omega)
  have cy := cell_of_bytes p0 14 (by omega)
  have cz := cell_of_bytes p0 15 (by omega)
  obtain ⟨x, hx0⟩ : ∃ x, a[13]?.getD 0 = x := ⟨_, rfl⟩
  obtain ⟨y, hy0⟩ : ∃ x, a[14]?.getD 0 = x := ⟨_, rfl⟩
  obtain ⟨z, hz0⟩ : ∃ x, a[15]?.getD 0 = x := ⟨_, rfl⟩
  rw [hx0] at cx hx ⊢
  rw [hy0] at cy hy ⊢
  rw [hz0] at cz hw ⊢
  have e0a := s0.at_ (show (bytesV (so0))[11]? = some (.int .u8 0) from rfl)
  have e0b := s0.frozen 11
  obtain ⟨D1, hD1⟩ : ∃ U, V.setCell ⟨q + 1 + 1, 11, none⟩ (.int .u8 1) = U := ⟨_, rfl⟩
  have s1 : Blk D1 (q + 1 + 1) 23 (bytesV ((so0).set 11 1)) := by rw [← bytesV_set, ← hD1]; exact s0.set 11 _
  have p1 : Blk D1 q 23 (bytesV a) := hD1 ▸ p0.far (p := ⟨q + 1 + 1, 11, none⟩) (by simp; omega) _
  have z1 : Blk D1 (q + 1) 23 (bytesV zeroA) := hD1 ▸ z0.far (p := ⟨q + 1 + 1, 11, none⟩) (by simp) _
  have f1 : Below w.heap.size w D1 := hD1 ▸ f0.setCell (p := ⟨q + 1 + 1, 11, none⟩) (by simp; omega) _
  have e1a := s1.at_ (show (bytesV ((so0).set 11 1))[12]? = some (.int .u8 0) from rfl)
  have e1b := s1.frozen 12
  obtain ⟨D2, hD2⟩ : ∃ U, D1.setCell ⟨q + 1 + 1, 12, none⟩ (.int .u8 255) = U := ⟨_, rfl⟩
  have s2 : Blk D2 (q + 1 + 1) 23 (bytesV (((so0).set 11 1).set 12 255)) := by rw [← bytesV_set, ← hD2]; exact s1.set 12 _
  have p2 : Blk D2 q 23 (bytesV a) := hD2 ▸ p1.far (p := ⟨q + 1 + 1, 12, none⟩) (by simp; omega) _
  have z2 : Blk D2 (q + 1) 23 (bytesV zeroA) := hD2 ▸ z1.far (p := ⟨q + 1 + 1, 12, none⟩) (by simp) _
  have f2 : Below w.heap.size w D2 := hD2 ▸ f1.setCell (p := ⟨q + 1 + 1, 12, none⟩) (by simp; omega) _
  have g1 := cell_of_bytes p2 13 (by omega)
  rw [hx0] at g1
  have e2a := s2.at_ (show (bytesV (((so0).set 11 1).set 12 255))[13]? = some (.int .u8 0) from rfl)
  have e2b := s2.frozen 13
  obtain ⟨D3, hD3⟩ : ∃ U, D2.setCell ⟨q + 1 + 1, 13, none⟩ (.int .u8 x) = U := ⟨_, rfl⟩
  have s3 : Blk D3 (q + 1 + 1) 23 (bytesV ((((so0).set 11 1).set 12 255).set 13 x)) := by rw [← bytesV_set, ← hD3]; exact s2.set 13 _
  have p3 : Blk D3 q 23 (bytesV a) := hD3 ▸ p2.far (p := ⟨q + 1 + 1, 13, none⟩) (by simp; omega) _
  have z3 : Blk D3 (q + 1) 23 (bytesV zeroA) := hD3 ▸ z2.far (p := ⟨q + 1 + 1, 13, none⟩) (by simp) _
  have f3 : Below w.heap.size w D3 := hD3 ▸ f2.setCell (p := ⟨q + 1 + 1, 13, none⟩) (by simp; omega) _
  have g2 := cell_of_bytes p3 14 (by omega)
  rw [hy0] at g2
  have e3a := s3.at_ (show (bytesV ((((so0).set 11 1).set 12 255).set 13 x))[14]? = some (.int .u8 0) from rfl)
  have e3b := s3.frozen 14
  obtain ⟨D4, hD4⟩ : ∃ U, D3.setCell ⟨q + 1 + 1, 14, none⟩ (.int .u8 y) = U := ⟨_, rfl⟩
  have s4 : Blk D4 (q + 1 + 1) 23 (bytesV (((((so0).set 11 1).set 12 255).set 13 x).set 14 y)) := by rw [← bytesV_set, ← hD4]; exact s3.set 14 _
  have p4 : Blk D4 q 23 (bytesV a) := hD4 ▸ p3.far (p := ⟨q + 1 + 1, 14, none⟩) (by simp; omega) _
  have z4 : Blk D4 (q + 1) 23 (bytesV zeroA) := hD4 ▸ z3.far (p := ⟨q + 1 + 1, 14, none⟩) (by simp) _
  have f4 : Below w.heap.size w D4 := hD4 ▸ f3.setCell (p := ⟨q + 1 + 1, 14, none⟩) (by simp; omega) _
  have g3 := cell_of_bytes p4 15 (by omega)
  rw [hz0] at g3
  have e4a := s4.at_ (show (bytesV (((((so0).set 11 1).set 12 255).set 13 x).set 14 y))[15]? = some (.int .u8 0) from rfl)
  have e4b := s4.frozen 15
  obtain ⟨D5, hD5⟩ : ∃ U, D4.setCell ⟨q + 1 + 1, 15, none⟩ (.int .u8 z) = U := ⟨_, rfl⟩
  have s5 : Blk D5 (q + 1 + 1) 23 (bytesV ((((((so0).set 11 1).set 12 255).set 13 x).set 14 y).set 15 z)) := by rw [← bytesV_set, ← hD5]; exact s4.set 15 _
  have p5 : Blk D5 q 23 (bytesV a) := hD5 ▸ p4.far (p := ⟨q + 1 + 1, 15, none⟩) (by simp; omega) _
  have z5 : Blk D5 (q + 1) 23 (bytesV zeroA) := hD5 ▸ z4.far (p := ⟨q + 1 + 1, 15, none⟩) (by simp) _
  have f5 : Below w.heap.size w D5 := hD5 ▸ f4.setCell (p := ⟨q + 1 + 1, 15, none⟩) (by simp; omega) _
  have hso : IsAddr (so5 x y z) := so5_is hx hy hw
  have l5 : (loadVar 23 ⟨q + 1 + 1, 0, none⟩).run Tryd.prog D5 = .ok (.agg (bytesV (so5 x y z))) D5 := ldB s5 hso
  obtain ⟨D6, hD6⟩ : ∃ U, D5.setRow (q + 1) (bytesV (so5 x y z)) = U := ⟨_, rfl⟩
  have z6 : Blk D6 (q + 1) 23 (bytesV (so5 x y z)) := hD6 ▸ z5.setRow _
  have l6 := z6.load Tryd.underlying23 rfl (size_bytes hso)
  have hsz : (Tryd.prog.info? 23).map (·.size) = some (bytesV (so5 x y z)).size := size_bytes hso
  have hzs : (bytesV zeroA).size = (bytesV (so5 x y z)).size := rfl
  have F := hidd (show Below q w D6 from by
    rw [hq] at f5
    exact hD6 ▸ below_setRow f5 (by omega) _)
  clear b1 b2 b3 s0 p0 f0 s1 p1 f1 s2 p2 f2 s3 p3 f3 s4 p4 f4 s5 p5 f5 z0 z1 z2 z3 z4 z6 hx hy hw hl cx cy cz ha hx0 hy0 hz0
  go_enter Tryd.func29, Tryd.ntmps29
  go_wp2_with (first
    | (with_reducible show wpList _ _ _ (⟨_, Op.load 23 _, _, _, _, _⟩ :: _) _ _; go_loud (refine wpList_load_want (w := D5) (by kernel_rfl) 23 (.tmp 3) rfl ⟨q + 1 + 1, 0, none⟩ rfl _ l5 ?_))
    | (with_reducible show wpList _ _ _ (⟨_, Op.store 23 (.tmp 2) _, _, _, _, _⟩ :: _) _ _; go_loud (refine wpList_store_blk (W := D5) rfl rfl 23 (.tmp 2) (.tmp 16) rfl (q + 1) 23 _ (bytesV (so5 x y z)) z5 rfl rfl hsz hzs (ones_bytes _) ?_))
    | (with_reducible show wpList _ _ _ (⟨_, Op.store 23 (.tmp 3) _, _, _, _, _⟩ :: _) _ _; refine wpList_store_new rfl rfl 23 _ _ rfl _ _ (bytesV so0) rfl (by simp; omega) rfl (by kernel_rfl) rfl (ones_bytes _) ?_)
    | fail)
  try rw [hD6]
  refine bodyPost_ret (v := .agg (bytesV (so5 x y z))) (by simp [results, Tryd.results29, Act.put, asAddr, l6]) rfl ?_
  have hF := F.out
  first | exact ⟨rfl, hF⟩ | (rw [← hq] at hF; exact ⟨rfl, hF⟩)
set_option maxRecDepth 100000 in
theorem source_ref (w : World) (cs : Array Value) (m : Ms) (hm : IsMs w w.heap.size cs m) : Calls Tryd.prog 27 #[.agg cs] w fun e w' => e = .returned (.bool (tells m)) ∧ Below w.heap.size w w' := by
  obtain ⟨v, h1, h2⟩ := hm.ops
  obtain ⟨A, n, c, xs, rfl, hr, hl, hk⟩ := h2.ex
  have hcm := hr.cmax
  have hcn := hr.cap
  unfold maxLen at hcm
  obtain ⟨q, hq⟩ : ∃ q, w.heap.size = q := ⟨_, rfl⟩
  obtain ⟨V, hV⟩ : ∃ V, w.alloc (.cells cs 35) = V := ⟨_, rfl⟩
  have K0 := hidd (show Blk V q 35 cs ∧ Below w.heap.size w V from ⟨by rw [← hV, ← hq]; exact Blk.new w 35 _, hV ▸ (Below.refl _ w).alloc (Nat.le_refl _) _⟩)
  have H := hidd (And.intro hr (And.intro hl hk))
  have h1' := hidd h1
  obtain ⟨t, ht⟩ : ∃ t, tells m = t := ⟨_, rfl⟩
  have ht' : Hid (m.ks.any (· == 1) = t) := hidd ht
  rw [ht]
  clear hm h1 h2 hr hl hk ht
  go_enter Tryd.func27, Tryd.ntmps27
  go_wp2_with fail
  go_loopw [3] (fun i wr => ∃ j : Nat, j ≤ n ∧ i = .int .i64 j ∧ Hid ((Blk wr q 35 cs ∧ Below w.heap.size w wr) ∧ (m.ks.take j).any (· == 1) = false)) (fun i _ => n - (intOf i).toNat)
  case atStart => exact ⟨0, Nat.zero_le _, rfl, hidd ⟨K0.out, rfl⟩⟩
  case round =>
    clear K0
    obtain ⟨j, hj, rfl, R⟩ := hrel
    have c0 := R.out.1.1.at_ h1'.out
    by_cases hjn : j < n
    · have hjz : (j : Int) < (n : Int) := by omega
      obtain ⟨b, off, rfl, hblt, hcell⟩ := H.out.1.at_ (by omega)
      obtain ⟨k, hk0⟩ : ∃ k, m.ks[j]? = some k := ⟨m.ks[j]'(by have := H.out.2.1; omega), List.getElem?_eq_getElem _⟩
      obtain ⟨h2, _⟩ := H.out.2.2 j k hk0
      have c1 := (R.out.1.2.cell (p := ⟨b, off + j * 2, none⟩) hblt).trans (hcell _ _ h2)
      have htk : (m.ks.take (j + 1)).any (· == 1) = (k == 1) := by
        rw [List.take_add_one, hk0, List.any_append, R.out.2]; simp
      have htk' := hidd htk
      have hk1 := hidd hk0
      clear hcell h2 htk hk0
      by_cases hk : k = 1
      · subst hk
        go_wp2
        go_ret
        have hb := R.out.1.2
        have het : true = t := by
          rw [← ht'.out]; symm
          exact List.any_eq_true.2 ⟨1, List.mem_of_getElem? hk1.out, rfl⟩
        first | exact ⟨congrArg (fun z => Ending.returned (.bool z)) het, hb⟩ | (rw [hq] at hb; exact ⟨congrArg (fun z => Ending.returned (.bool z)) het, hb⟩)
      · have hd1 : (k == 1) = false := by simpa using hk
        have hd2 : decide (k = 1) = false := by simpa using hk
        go_wp2
        go_roundw
        case rel => exact ⟨j + 1, by omega, by go_num, hidd ⟨R.out.1, by rw [htk'.out]; exact hd1⟩⟩
        case measure => simp [intOf]; omega
    · have hjn' : j = n := by omega
      subst hjn'
      go_wp2
      go_ret
      have hb := R.out.1.2
      have het : false = t := by
        have h3 := R.out.2
        rw [List.take_of_length_le (by have := H.out.2.1; omega)] at h3
        rw [← h3]; exact ht'.out
      first | exact ⟨congrArg (fun z => Ending.returned (.bool z)) het, hb⟩ | (rw [hq] at hb; exact ⟨congrArg (fun z => Ending.returned (.bool z)) het, hb⟩)
end Go.Proofs.YtlckfnfmekgnkaaDoor
