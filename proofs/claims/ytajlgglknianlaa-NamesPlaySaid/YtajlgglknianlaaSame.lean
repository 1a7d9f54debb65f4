/- Whether the book has what the document's has, walked once. No condition. -/
import Derived.Test.YtajlgglknianlaaRefTick
namespace Go.Proofs.Ytajlgglknianlaa
open Go.ChangeShapes Go.WideShapes Go.ChangeAt Go.RowKit Go.Deep
set_option linter.unusedVariables false
set_option linter.unusedSimpArgs false

/-- A list that was given, from the j-th on; its block lies from lo on, below hi. -/
def LeftS (lo hi : Nat) (W : World) (A : Option Addr) (es : List Sv.E) (j : Nat) : Prop := 0 < es.length → ∃ g cur, A = some ⟨g, 0, none⟩ ∧ lo ≤ g ∧ g < hi ∧ Blk W g 48 cur ∧ ∀ i e, j ≤ i → es[i]? = some e → At cur (i * 17) e.1 ∧ cur[i * 17 + 16]? = some (.int .u64 e.2)
def LeftD (lo : Nat) (W : World) (A : Option Addr) (es : List Dm.E) (j : Nat) : Prop := 0 < es.length → ∃ g cur, A = some ⟨g, 0, none⟩ ∧ lo ≤ g ∧ Blk W g 46 cur ∧ ∀ i e, j ≤ i → es[i]? = some e → cur[i * 2]? = some (.string e.1) ∧ cur[i * 2 + 1]? = some (.int .u64 e.2)
theorem LeftS.to {lo hi : Nat} {w W : World} {A : Option Addr} {es : List Sv.E} {j : Nat} (h : LeftS lo hi w A es j) (hb : Below w.heap.size w W) : LeftS lo hi W A es j := fun hn => by
  obtain ⟨g, cur, h1, h2, h3, h4, h5⟩ := h hn
  exact ⟨g, cur, h1, h2, h3, h4.below hb h4.lt, h5⟩
theorem LeftD.to {lo : Nat} {w W : World} {A : Option Addr} {es : List Dm.E} {j : Nat} (h : LeftD lo w A es j) (hb : Below w.heap.size w W) : LeftD lo W A es j := fun hn => by
  obtain ⟨g, cur, h1, h2, h4, h5⟩ := h hn
  exact ⟨g, cur, h1, h2, h4.below hb h4.lt, h5⟩

set_option maxRecDepth 100000 in
set_option maxHeartbeats 4000000 in
theorem same_any (w : World) (B M : Nat) (vs vd rs rd : Value) (ss : List Sv.E) (dd : List Dm.E) (hb : Bk w B vs vd ss dd) (hm : Rf.Rb w M rs rd (ss.map Rf.embS) (dd.map Rf.embD)) :
    Calls Try.prog 19 #[.pointer (some ⟨B, 0, none⟩), .pointer (some ⟨M, 0, none⟩)] w fun e w' => e = .returned (.bool true) ∧ Below w.heap.size w w' := by
  have K0 := hidd hb
  have R0 := hidd hm
  have s4 : (ss.length : Int) ≤ 4 := by have := hb.s4; omega
  have d4 : (dd.length : Int) ≤ 4 := by have := hb.d4; omega
  obtain ⟨Ar, cr, hr⟩ := slice_of_own hm.s
  obtain ⟨Ad, cd, hd⟩ := slice_of_own hm.d
  rw [List.length_map] at hr hd
  subst hr hd
  have hn1 : (ss.map Rf.embS).map (·.2.2) = ss.map (·.2) := by rw [List.map_map]; rfl
  have hn2 : (dd.map Rf.embD).map (·.2.2) = dd.map (·.2) := by rw [List.map_map]; rfl
  have hN := hidd (Rf.next_any w M _ _ _ _ hm)
  rw [hn1, hn2] at hN
  have hms := hm.s
  have hmd := hm.d
  rw [List.length_map] at hms hmd
  have r1 := (Rd.of_own hms).cap
  have r2 := (Rd.of_own hms).cmax
  have r3 := (Rd.of_own hmd).cap
  have r4 := (Rd.of_own hmd).cmax
  clear hms hmd
  unfold maxLen at r2 r4
  clear hb hm hn1 hn2
  go_enter Try.func19, Try.ntmps19
  go_wp2_with fail
  refine (allS_any w B _ _ _ _ K0.out).mono ?_
  rintro e V1 ⟨sv, rfl, G1⟩
  obtain ⟨As, hsv, hS1⟩ := G1.l
  subst hsv
  have K1 := hidd (K0.out.to G1.bel)
  have L1 : Hid (LeftS w.heap.size V1.heap.size V1 As ss 0) := fun hn => by
    obtain ⟨g, cur, h1, h2, h3, h4⟩ := G1.l.blk K0.out.sok hn
    injection h1 with h1
    exact ⟨g, cur, h1, h2, h3.lt, h3, fun i e _ he => h4 i e he⟩
  have b1 := hidd G1.bel
  have hV1 := hidd G1.bel.size
  clear G1 hS1
  go_wp2_with fail
  refine (allD_any V1 B _ _ _ _ K1.out).mono ?_
  rintro e V2 ⟨dv, rfl, G2⟩
  obtain ⟨Av, hdv, hD1⟩ := G2.l
  subst hdv
  have K2 := hidd (K1.out.to G2.bel)
  have L2 := hidd (L1.out.to G2.bel)
  have D2 : Hid (LeftD V1.heap.size V2 Av dd 0) := fun hn => by
    obtain ⟨g, cur, h1, h2, h3, h4⟩ := G2.l.blk K1.out.dok hn
    injection h1 with h1
    exact ⟨g, cur, h1, h2, h3, fun i e _ he => h4 i e he⟩
  have b2 := hidd (b1.out.trans (G2.bel.mono b1.out.size))
  have R2 := hidd (R0.out.to b2.out)
  have c1 : V2.cell? ⟨M, 0, none⟩ = some (.slice Ar ss.length cr) := R2.out.blk.at_ rfl
  have c2 : V2.cell? ⟨M, 1, none⟩ = some (.slice Ad dd.length cd) := R2.out.blk.at_ rfl
  clear G2 hD1 K1 L1 b1 hN
  go_wp2_with fail
  refine (next_any V2 B _ _ _ _ K2.out).mono ?_
  rintro e V3 ⟨rfl, b23⟩
  have L3 := hidd (L2.out.to b23)
  have D3 := hidd (D2.out.to b23)
  have b3 := hidd (b2.out.trans (b23.mono b2.out.size))
  have R3 := hidd (R0.out.to b3.out)
  have hn1 : (ss.map Rf.embS).map (·.2.2) = ss.map (·.2) := by rw [List.map_map]; rfl
  have hn2 : (dd.map Rf.embD).map (·.2.2) = dd.map (·.2) := by rw [List.map_map]; rfl
  have hN := hidd (Rf.next_any V3 M _ _ _ _ R3.out)
  rw [hn1, hn2] at hN
  obtain ⟨nx, hnx⟩ : ∃ nx, min (nextOf (ss.map (·.2))) (nextOf (dd.map (·.2))) = nx := ⟨_, rfl⟩
  rw [hnx] at hN ⊢
  clear hn1 hn2 b23 K2 L2 D2 b2 R2 c1 c2 hnx
  go_wp2_with fail
  refine Calls.mono hN.out ?_
  rintro e V4 ⟨rfl, rfl⟩
  clear hN
  go_wp2
  go_loopw [7] (fun i wr => ∃ j : Nat, j ≤ ss.length ∧ i = .int .i64 j ∧ Below w.heap.size w wr ∧ LeftS w.heap.size V1.heap.size wr As ss j ∧ LeftD V1.heap.size wr Av dd 0) (fun i _ => ss.length - (intOf i).toNat)
  case atStart => exact ⟨0, by omega, rfl, b3.out, L3.out, D3.out⟩
  case round =>
    obtain ⟨j, hj, rfl, hb, hL, hD⟩ := hrel
    have b4 := hidd hb
    have L4 := hidd hL
    have D4 := hidd hD
    have R4 := hidd (R0.out.to hb)
    clear hb hL hD b3 L3 D3 R3
    by_cases hjn : j < ss.length
    · obtain ⟨e, he⟩ : ∃ e, ss[j]? = some e := ⟨_, List.getElem?_eq_getElem hjn⟩
      have hE := K0.out.sok e (List.mem_of_getElem? he)
      obtain ⟨gs, cur, hA, hlo, hhi, hB, hc⟩ := L4.out (by omega)
      subst hA
      obtain ⟨gr, cr', hA, _, hgr⟩ := own_pos R4.out.s (by rw [List.length_map]; omega)
      injection hA with hA hA2 hA3
      subst hA hA3
      have he2 : (ss.map Rf.embS)[j]? = some (Rf.embS e) := by rw [List.getElem?_map, he]; rfl
      have hr2 : wr.rangeAt gr (j * 18) (Rf.enc (Rf.embS e)) := own_range (by have := R4.out.s; rwa [List.length_map] at this) Rf.isEnc (List.length_map _) R4.out.sok he2
      have hK := Rf.okS K0.out.sok (Rf.embS e) (List.mem_of_getElem? he2)
      have S1 : Hid ((loadVar 31 ⟨gs, j * 17, none⟩).run Try.prog wr.drew = .ok (.agg (bytesV e.1)) wr.drew ∧ (loadVar 31 ⟨gr, j * 18, none⟩).run Try.prog wr.drew = .ok (.agg (bytesV e.1)) wr.drew ∧ wr.drew.cell? ⟨M, 0, none⟩ = some (.slice (some ⟨gr, 0, none⟩) ss.length cr) ∧ wr.drew.cell? ⟨gs, j * 17 + 16, none⟩ = some (.int .u64 e.2) ∧ wr.drew.cell? ⟨gr, j * 18 + 17, none⟩ = some (.int .u64 e.2)) :=
        ⟨hB.drew.part (hc j e (Nat.le_refl _) he).1 Try.underlying31 rfl (by rw [hE.addr.len]; exact Sv.info31), Rf.loadA (W := wr.drew) hK (fun i v hv => hr2 i v hv), R4.out.blk.at_ rfl, hB.at_ (hc j e (Nat.le_refl _) he).2, hr2 17 _ (Rf.until_enc hK)⟩
      have heq := fun V => Sv.eql31 V hE.addr hE.addr
      have hxx : (e.1 == e.1) = true := by simp
      rw [hxx] at heq
      have hgd := Sv.guard31
      have hjz : (j : Int) < (ss.length : Int) := by omega
      have c4 : wr.drew.cell? ⟨gs, j * 17 + 16, none⟩ = some (.int .u64 e.2) := hB.at_ (hc j e (Nat.le_refl _) he).2
      have f4 : wr.drew.frozen? ⟨gs, j * 17 + 16, none⟩ = false := hB.frozen _
      have b5 : Hid (Below w.heap.size w (wr.drew.setCell ⟨gs, j * 17 + 16, none⟩ (.int .u64 5))) := b4.out.drew.setCell (p := ⟨gs, j * 17 + 16, none⟩) hlo _
      have L5 : Hid (LeftS w.heap.size V1.heap.size (wr.drew.setCell ⟨gs, j * 17 + 16, none⟩ (.int .u64 5)) (some ⟨gs, 0, none⟩) ss (j + 1)) := fun _ => by
        refine ⟨gs, _, rfl, hlo, hhi, hB.drew.set (j * 17 + 16) (.int .u64 5), fun i f hi hf => ⟨fun k y hk => ?_, ?_⟩⟩
        · have hk16 : k < 16 := by have := (List.getElem?_eq_some_iff.1 hk).1; rwa [(K0.out.sok f (List.mem_of_getElem? hf)).addr.len] at this
          rw [Array.getElem?_setIfInBounds, if_neg (by omega)]
          exact (hc i f (by omega) hf).1 k y hk
        · rw [Array.getElem?_setIfInBounds, if_neg (by omega)]
          exact (hc i f (by omega) hf).2
      have D5 : Hid (LeftD V1.heap.size (wr.drew.setCell ⟨gs, j * 17 + 16, none⟩ (.int .u64 5)) Av dd 0) := fun hn => by
        obtain ⟨g, cur', h1, h2, h3, h4⟩ := D4.out hn
        exact ⟨g, cur', h1, h2, h3.drew.far (p := ⟨gs, j * 17 + 16, none⟩) (by show g ≠ gs; omega) _, h4⟩
      clear hA2 hB hc he he2 hr2 hxx b4 L4 D4 R4
      go_wp2
      refine wp_region_held_drew (S := (fun V => (loadVar 31 ⟨gs, j * 17, none⟩).run Try.prog V = .ok (.agg (bytesV e.1)) V ∧ (loadVar 31 ⟨gr, j * 18, none⟩).run Try.prog V = .ok (.agg (bytesV e.1)) V ∧ V.cell? ⟨M, 0, none⟩ = some (.slice (some ⟨gr, 0, none⟩) ss.length cr) ∧ V.cell? ⟨gs, j * 17 + 16, none⟩ = some (.int .u64 e.2) ∧ V.cell? ⟨gr, j * 18 + 17, none⟩ = some (.int .u64 e.2))) (by kernel_rfl) S1.out (fun hHeld => ?_)
      refine wpAnyH_take (i := 0) (v := ?_) rfl (by kernel_rfl) (by kernel_rfl) (by kernel_rfl) (fun _ _ _ h => h) (Or.inl ⟨by kernel_rfl, ?_⟩) hHeld ?_
      rotate_left
      · intro wh hSw
        go_simp
        try with_reducible rfl
      try simp only [Act.put, List.getElem_toArray, List.getElem_cons_zero, List.getElem_cons_succ, List.setIfInBounds_toArray, List.set_cons_zero, List.set_cons_succ]
      refine wpAnyH_take (i := 1) (v := ?_) rfl (by kernel_rfl) (by kernel_rfl) (by kernel_rfl) (fun _ _ _ h => h) (Or.inl ⟨by kernel_rfl, ?_⟩) hHeld ?_
      rotate_left
      · intro wh hSw
        go_simp
        try with_reducible rfl
      try simp only [Act.put, List.getElem_toArray, List.getElem_cons_zero, List.getElem_cons_succ, List.setIfInBounds_toArray, List.set_cons_zero, List.set_cons_succ]
      refine wpAnyH_take (i := 2) (v := ?_) rfl (by kernel_rfl) (by kernel_rfl) (by kernel_rfl) (fun _ _ _ h => h) (Or.inl ⟨by kernel_rfl, ?_⟩) hHeld ?_
      rotate_left
      · intro wh hSw
        go_simp
        try with_reducible rfl
      try simp only [Act.put, List.getElem_toArray, List.getElem_cons_zero, List.getElem_cons_succ, List.setIfInBounds_toArray, List.set_cons_zero, List.set_cons_succ]
      refine wpAnyH_take (i := 3) (v := ?_) rfl (by kernel_rfl) (by kernel_rfl) (by kernel_rfl) (fun _ _ _ h => h) (Or.inl ⟨by kernel_rfl, ?_⟩) hHeld ?_
      rotate_left
      · intro wh hSw
        go_simp
        try with_reducible rfl
      try simp only [Act.put, List.getElem_toArray, List.getElem_cons_zero, List.getElem_cons_succ, List.setIfInBounds_toArray, List.set_cons_zero, List.set_cons_succ]
      refine wpAnyH_take (i := 4) rfl (by kernel_rfl) (by kernel_rfl) (by kernel_rfl) (fun _ _ _ h => h) (yieldsIf_load_want (by kernel_rfl) 31 _ rfl _ rfl _ (fun wh hSw => hSw.1)) hHeld ?_
      try simp only [Act.put, List.getElem_toArray, List.getElem_cons_zero, List.getElem_cons_succ, List.setIfInBounds_toArray, List.set_cons_zero, List.set_cons_succ]
      refine wpAnyH_take (i := 5) (v := ?_) rfl (by kernel_rfl) (by kernel_rfl) (by kernel_rfl) (fun _ _ _ h => h) (Or.inl ⟨by kernel_rfl, ?_⟩) hHeld ?_
      rotate_left
      · intro wh hSw
        go_simp
        try with_reducible rfl
      try simp only [Act.put, List.getElem_toArray, List.getElem_cons_zero, List.getElem_cons_succ, List.setIfInBounds_toArray, List.set_cons_zero, List.set_cons_succ]
      refine wpAnyH_take (i := 6) (v := ?_) rfl (by kernel_rfl) (by kernel_rfl) (by kernel_rfl) (fun _ _ _ h => h) (Or.inl ⟨by kernel_rfl, ?_⟩) hHeld ?_
      rotate_left
      · intro wh hSw
        go_simp
        try with_reducible rfl
      try simp only [Act.put, List.getElem_toArray, List.getElem_cons_zero, List.getElem_cons_succ, List.setIfInBounds_toArray, List.set_cons_zero, List.set_cons_succ]
      refine wpAnyH_take (i := 7) (v := ?_) rfl (by kernel_rfl) (by kernel_rfl) (by kernel_rfl) (fun _ _ _ h => h) (Or.inl ⟨by kernel_rfl, ?_⟩) hHeld ?_
      rotate_left
      · intro wh hSw
        go_simp
        try with_reducible rfl
      try simp only [Act.put, List.getElem_toArray, List.getElem_cons_zero, List.getElem_cons_succ, List.setIfInBounds_toArray, List.set_cons_zero, List.set_cons_succ]
      refine wpAnyH_take (i := 8) (v := ?_) rfl (by kernel_rfl) (by kernel_rfl) (by kernel_rfl) (fun _ _ _ h => h) (Or.inl ⟨by kernel_rfl, ?_⟩) hHeld ?_
      rotate_left
      · intro wh hSw
        have hcell := hSw.2.2.1
        go_simp
        try with_reducible rfl
      try simp only [Act.put, List.getElem_toArray, List.getElem_cons_zero, List.getElem_cons_succ, List.setIfInBounds_toArray, List.set_cons_zero, List.set_cons_succ]
      refine wpAnyH_take (i := 9) (v := ?_) rfl (by kernel_rfl) (by kernel_rfl) (by kernel_rfl) (fun _ _ _ h => h) (Or.inl ⟨by kernel_rfl, ?_⟩) hHeld ?_
      rotate_left
      · intro wh hSw
        go_simp
        try with_reducible rfl
      try simp only [Act.put, List.getElem_toArray, List.getElem_cons_zero, List.getElem_cons_succ, List.setIfInBounds_toArray, List.set_cons_zero, List.set_cons_succ]
      refine wpAnyH_take (i := 10) (v := ?_) rfl (by kernel_rfl) (by kernel_rfl) (by kernel_rfl) (fun _ _ _ h => h) (Or.inl ⟨by kernel_rfl, ?_⟩) hHeld ?_
      rotate_left
      · intro wh hSw
        go_simp
        try with_reducible rfl
      try simp only [Act.put, List.getElem_toArray, List.getElem_cons_zero, List.getElem_cons_succ, List.setIfInBounds_toArray, List.set_cons_zero, List.set_cons_succ]
      refine wpAnyH_take (i := 11) (v := ?_) rfl (by kernel_rfl) (by kernel_rfl) (by kernel_rfl) (fun _ _ _ h => h) (Or.inl ⟨by kernel_rfl, ?_⟩) hHeld ?_
      rotate_left
      · intro wh hSw
        go_simp
        try with_reducible rfl
      try simp only [Act.put, List.getElem_toArray, List.getElem_cons_zero, List.getElem_cons_succ, List.setIfInBounds_toArray, List.set_cons_zero, List.set_cons_succ]
      refine wpAnyH_take (i := 12) rfl (by kernel_rfl) (by kernel_rfl) (by kernel_rfl) (fun _ _ _ h => h) (yieldsIf_load_want (by kernel_rfl) 31 _ rfl _ rfl _ (fun wh hSw => hSw.2.1)) hHeld ?_
      try simp only [Act.put, List.getElem_toArray, List.getElem_cons_zero, List.getElem_cons_succ, List.setIfInBounds_toArray, List.set_cons_zero, List.set_cons_succ]
      refine wpAnyH_take (i := 13) (v := ?_) rfl (by kernel_rfl) (by kernel_rfl) (by kernel_rfl) (fun _ _ _ h => h) (Or.inl ⟨by kernel_rfl, ?_⟩) hHeld ?_
      rotate_left
      · intro wh hSw
        go_simp
        try with_reducible rfl
      try simp only [Act.put, List.getElem_toArray, List.getElem_cons_zero, List.getElem_cons_succ, List.setIfInBounds_toArray, List.set_cons_zero, List.set_cons_succ]
      refine wpAnyH_take (i := 14) (v := ?_) rfl (by kernel_rfl) (by kernel_rfl) (by kernel_rfl) (fun _ _ _ h => h) (Or.inl ⟨by kernel_rfl, ?_⟩) hHeld ?_
      rotate_left
      · intro wh hSw
        go_simp
        try with_reducible rfl
      try simp only [Act.put, List.getElem_toArray, List.getElem_cons_zero, List.getElem_cons_succ, List.setIfInBounds_toArray, List.set_cons_zero, List.set_cons_succ]
      refine wpAnyH_take (i := 15) (v := ?_) rfl (by kernel_rfl) (by kernel_rfl) (by kernel_rfl) (fun _ _ _ h => h) (Or.inl ⟨by kernel_rfl, ?_⟩) hHeld ?_
      rotate_left
      · intro wh hSw
        go_simp
        try with_reducible rfl
      try simp only [Act.put, List.getElem_toArray, List.getElem_cons_zero, List.getElem_cons_succ, List.setIfInBounds_toArray, List.set_cons_zero, List.set_cons_succ]
      refine wpAnyH_take (i := 16) (v := ?_) rfl (by kernel_rfl) (by kernel_rfl) (by kernel_rfl) (fun _ _ _ h => h) (Or.inl ⟨by kernel_rfl, ?_⟩) hHeld ?_
      rotate_left
      · intro wh hSw
        go_simp
        try with_reducible rfl
      try simp only [Act.put, List.getElem_toArray, List.getElem_cons_zero, List.getElem_cons_succ, List.setIfInBounds_toArray, List.set_cons_zero, List.set_cons_succ]
      refine wpAnyH_take (i := 17) (v := ?_) rfl (by kernel_rfl) (by kernel_rfl) (by kernel_rfl) (fun _ _ _ h => h) (Or.inl ⟨by kernel_rfl, ?_⟩) hHeld ?_
      rotate_left
      · intro wh hSw
        go_simp
        try with_reducible rfl
      try simp only [Act.put, List.getElem_toArray, List.getElem_cons_zero, List.getElem_cons_succ, List.setIfInBounds_toArray, List.set_cons_zero, List.set_cons_succ]
      refine wpAnyH_take (i := 18) (v := ?_) rfl (by kernel_rfl) (by kernel_rfl) (by kernel_rfl) (fun _ _ _ h => h) (Or.inl ⟨by kernel_rfl, ?_⟩) hHeld ?_
      rotate_left
      · intro wh hSw
        go_simp
        try with_reducible rfl
      try simp only [Act.put, List.getElem_toArray, List.getElem_cons_zero, List.getElem_cons_succ, List.setIfInBounds_toArray, List.set_cons_zero, List.set_cons_succ]
      refine wpAnyH_take (i := 19) (v := ?_) rfl (by kernel_rfl) (by kernel_rfl) (by kernel_rfl) (fun _ _ _ h => h) (Or.inl ⟨by kernel_rfl, ?_⟩) hHeld ?_
      rotate_left
      · intro wh hSw
        have hcell := hSw.2.2.2.1
        go_simp
        try with_reducible rfl
      try simp only [Act.put, List.getElem_toArray, List.getElem_cons_zero, List.getElem_cons_succ, List.setIfInBounds_toArray, List.set_cons_zero, List.set_cons_succ]
      refine wpAnyH_take (i := 20) (v := ?_) rfl (by kernel_rfl) (by kernel_rfl) (by kernel_rfl) (fun _ _ _ h => h) (Or.inl ⟨by kernel_rfl, ?_⟩) hHeld ?_
      rotate_left
      · intro wh hSw
        go_simp
        try with_reducible rfl
      try simp only [Act.put, List.getElem_toArray, List.getElem_cons_zero, List.getElem_cons_succ, List.setIfInBounds_toArray, List.set_cons_zero, List.set_cons_succ]
      refine wpAnyH_take (i := 21) (v := ?_) rfl (by kernel_rfl) (by kernel_rfl) (by kernel_rfl) (fun _ _ _ h => h) (Or.inl ⟨by kernel_rfl, ?_⟩) hHeld ?_
      rotate_left
      · intro wh hSw
        go_simp
        try with_reducible rfl
      try simp only [Act.put, List.getElem_toArray, List.getElem_cons_zero, List.getElem_cons_succ, List.setIfInBounds_toArray, List.set_cons_zero, List.set_cons_succ]
      refine wpAnyH_take (i := 22) (v := ?_) rfl (by kernel_rfl) (by kernel_rfl) (by kernel_rfl) (fun _ _ _ h => h) (Or.inl ⟨by kernel_rfl, ?_⟩) hHeld ?_
      rotate_left
      · intro wh hSw
        go_simp
        try with_reducible rfl
      try simp only [Act.put, List.getElem_toArray, List.getElem_cons_zero, List.getElem_cons_succ, List.setIfInBounds_toArray, List.set_cons_zero, List.set_cons_succ]
      refine wpAnyH_take (i := 23) (v := ?_) rfl (by kernel_rfl) (by kernel_rfl) (by kernel_rfl) (fun _ _ _ h => h) (Or.inl ⟨by kernel_rfl, ?_⟩) hHeld ?_
      rotate_left
      · intro wh hSw
        have hcell := hSw.2.2.1
        go_simp
        try with_reducible rfl
      try simp only [Act.put, List.getElem_toArray, List.getElem_cons_zero, List.getElem_cons_succ, List.setIfInBounds_toArray, List.set_cons_zero, List.set_cons_succ]
      refine wpAnyH_take (i := 24) (v := ?_) rfl (by kernel_rfl) (by kernel_rfl) (by kernel_rfl) (fun _ _ _ h => h) (Or.inl ⟨by kernel_rfl, ?_⟩) hHeld ?_
      rotate_left
      · intro wh hSw
        go_simp
        try with_reducible rfl
      try simp only [Act.put, List.getElem_toArray, List.getElem_cons_zero, List.getElem_cons_succ, List.setIfInBounds_toArray, List.set_cons_zero, List.set_cons_succ]
      refine wpAnyH_take (i := 25) (v := ?_) rfl (by kernel_rfl) (by kernel_rfl) (by kernel_rfl) (fun _ _ _ h => h) (Or.inl ⟨by kernel_rfl, ?_⟩) hHeld ?_
      rotate_left
      · intro wh hSw
        go_simp
        try with_reducible rfl
      try simp only [Act.put, List.getElem_toArray, List.getElem_cons_zero, List.getElem_cons_succ, List.setIfInBounds_toArray, List.set_cons_zero, List.set_cons_succ]
      refine wpAnyH_take (i := 26) (v := ?_) rfl (by kernel_rfl) (by kernel_rfl) (by kernel_rfl) (fun _ _ _ h => h) (Or.inl ⟨by kernel_rfl, ?_⟩) hHeld ?_
      rotate_left
      · intro wh hSw
        go_simp
        try with_reducible rfl
      try simp only [Act.put, List.getElem_toArray, List.getElem_cons_zero, List.getElem_cons_succ, List.setIfInBounds_toArray, List.set_cons_zero, List.set_cons_succ]
      refine wpAnyH_take (i := 27) (v := ?_) rfl (by kernel_rfl) (by kernel_rfl) (by kernel_rfl) (fun _ _ _ h => h) (Or.inl ⟨by kernel_rfl, ?_⟩) hHeld ?_
      rotate_left
      · intro wh hSw
        have hcell := hSw.2.2.2.2
        go_simp
        try with_reducible rfl
      try simp only [Act.put, List.getElem_toArray, List.getElem_cons_zero, List.getElem_cons_succ, List.setIfInBounds_toArray, List.set_cons_zero, List.set_cons_succ]
      refine wpAnyH_take (i := 28) (v := ?_) rfl (by kernel_rfl) (by kernel_rfl) (by kernel_rfl) (fun _ _ _ h => h) (Or.inl ⟨by kernel_rfl, ?_⟩) hHeld ?_
      rotate_left
      · intro wh hSw
        go_simp
        try with_reducible rfl
      try simp only [Act.put, List.getElem_toArray, List.getElem_cons_zero, List.getElem_cons_succ, List.setIfInBounds_toArray, List.set_cons_zero, List.set_cons_succ]
      refine wpAnyH_take (i := 29) (v := ?_) rfl (by kernel_rfl) (by kernel_rfl) (by kernel_rfl) (fun _ _ _ h => h) (Or.inl ⟨by kernel_rfl, ?_⟩) hHeld ?_
      rotate_left
      · intro wh hSw
        go_simp
        try with_reducible rfl
      try simp only [Act.put, List.getElem_toArray, List.getElem_cons_zero, List.getElem_cons_succ, List.setIfInBounds_toArray, List.set_cons_zero, List.set_cons_succ]
      refine wpAnyH_done (by kernel_rfl) ?_ _
      clear hHeld
      go_wp2
      go_roundw
      case rel => exact ⟨j + 1, by omega, by go_num, b5.out, L5.out, D5.out⟩
      case measure => simp [intOf]; omega
    · have hjn' : j = ss.length := by omega
      subst hjn'
      clear L4
      go_wp2
      obtain ⟨wo, rfl⟩ : ∃ wo : World, wo = wr := ⟨_, rfl⟩
      go_loopw [8] (fun i wr => ∃ j : Nat, j ≤ dd.length ∧ i = .int .i64 j ∧ Below w.heap.size w wr ∧ LeftD V1.heap.size wr Av dd j) (fun i _ => dd.length - (intOf i).toNat)
      case atStart => exact ⟨0, by omega, rfl, b4.out, D4.out⟩
      case round =>
        obtain ⟨j, hj, rfl, hb, hD⟩ := hrel
        have b5 := hidd hb
        have D5 := hidd hD
        have R5 := hidd (R0.out.to hb)
        clear hb hD b4 D4 R4
        by_cases hjn : j < dd.length
        · obtain ⟨e, he⟩ : ∃ e, dd[j]? = some e := ⟨_, List.getElem?_eq_getElem hjn⟩
          obtain ⟨gd, cur, hA, hlo, hB, hc⟩ := D5.out (by omega)
          subst hA
          obtain ⟨gr, cr', hA, _, hgr⟩ := own_pos R5.out.d (by rw [List.length_map]; omega)
          injection hA with hA hA2 hA3
          subst hA hA3
          have he2 : (dd.map Rf.embD)[j]? = some (Rf.embD e) := by rw [List.getElem?_map, he]; rfl
          have hr2 : wr.rangeAt gr (j * 18) (Rf.enc (Rf.embD e)) := own_range (by have := R5.out.d; rwa [List.length_map] at this) Rf.isEnc (List.length_map _) R5.out.dok he2
          have hK := Rf.okD K0.out.dok (Rf.embD e) (List.mem_of_getElem? he2)
          have S1 : Hid (wr.drew.cell? ⟨gd, j * 2, none⟩ = some (.string e.1) ∧ wr.drew.cell? ⟨gr, j * 18 + 16, none⟩ = some (.string e.1) ∧ wr.drew.cell? ⟨M, 1, none⟩ = some (.slice (some ⟨gr, 0, none⟩) dd.length cd) ∧ wr.drew.cell? ⟨gd, j * 2 + 1, none⟩ = some (.int .u64 e.2) ∧ wr.drew.cell? ⟨gr, j * 18 + 17, none⟩ = some (.int .u64 e.2)) :=
            ⟨hB.at_ (hc j e (Nat.le_refl _) he).1, hr2 16 _ (Rf.name_enc hK), R5.out.blk.at_ rfl, hB.at_ (hc j e (Nat.le_refl _) he).2, hr2 17 _ (Rf.until_enc hK)⟩
          have hjz : (j : Int) < (dd.length : Int) := by omega
          have c4 : wr.drew.cell? ⟨gd, j * 2 + 1, none⟩ = some (.int .u64 e.2) := hB.at_ (hc j e (Nat.le_refl _) he).2
          have f4 : wr.drew.frozen? ⟨gd, j * 2 + 1, none⟩ = false := hB.frozen _
          have hwlo : w.heap.size ≤ gd := Nat.le_trans hV1.out hlo
          have b6 : Hid (Below w.heap.size w (wr.drew.setCell ⟨gd, j * 2 + 1, none⟩ (.int .u64 5))) := b5.out.drew.setCell (p := ⟨gd, j * 2 + 1, none⟩) hwlo _
          have D6 : Hid (LeftD V1.heap.size (wr.drew.setCell ⟨gd, j * 2 + 1, none⟩ (.int .u64 5)) (some ⟨gd, 0, none⟩) dd (j + 1)) := fun _ => by
            refine ⟨gd, _, rfl, hlo, hB.drew.set (j * 2 + 1) (.int .u64 5), fun i f hi hf => ⟨?_, ?_⟩⟩
            · rw [Array.getElem?_setIfInBounds, if_neg (by omega)]
              exact (hc i f (by omega) hf).1
            · rw [Array.getElem?_setIfInBounds, if_neg (by omega)]
              exact (hc i f (by omega) hf).2
          clear hA2 hB hc he he2 hr2 b5 D5 R5
          go_wp2
          refine wp_region_held_drew (S := (fun V => V.cell? ⟨gd, j * 2, none⟩ = some (.string e.1) ∧ V.cell? ⟨gr, j * 18 + 16, none⟩ = some (.string e.1) ∧ V.cell? ⟨M, 1, none⟩ = some (.slice (some ⟨gr, 0, none⟩) dd.length cd) ∧ V.cell? ⟨gd, j * 2 + 1, none⟩ = some (.int .u64 e.2) ∧ V.cell? ⟨gr, j * 18 + 17, none⟩ = some (.int .u64 e.2))) (by kernel_rfl) S1.out (fun hHeld => ?_)
          refine wpAnyH_take (i := 0) (v := ?_) rfl (by kernel_rfl) (by kernel_rfl) (by kernel_rfl) (fun _ _ _ h => h) (Or.inl ⟨by kernel_rfl, ?_⟩) hHeld ?_
          rotate_left
          · intro wh hSw
            go_simp
            try with_reducible rfl
          try simp only [Act.put, List.getElem_toArray, List.getElem_cons_zero, List.getElem_cons_succ, List.setIfInBounds_toArray, List.set_cons_zero, List.set_cons_succ]
          refine wpAnyH_take (i := 1) (v := ?_) rfl (by kernel_rfl) (by kernel_rfl) (by kernel_rfl) (fun _ _ _ h => h) (Or.inl ⟨by kernel_rfl, ?_⟩) hHeld ?_
          rotate_left
          · intro wh hSw
            go_simp
            try with_reducible rfl
          try simp only [Act.put, List.getElem_toArray, List.getElem_cons_zero, List.getElem_cons_succ, List.setIfInBounds_toArray, List.set_cons_zero, List.set_cons_succ]
          refine wpAnyH_take (i := 2) (v := ?_) rfl (by kernel_rfl) (by kernel_rfl) (by kernel_rfl) (fun _ _ _ h => h) (Or.inl ⟨by kernel_rfl, ?_⟩) hHeld ?_
          rotate_left
          · intro wh hSw
            go_simp
            try with_reducible rfl
          try simp only [Act.put, List.getElem_toArray, List.getElem_cons_zero, List.getElem_cons_succ, List.setIfInBounds_toArray, List.set_cons_zero, List.set_cons_succ]
          refine wpAnyH_take (i := 3) (v := ?_) rfl (by kernel_rfl) (by kernel_rfl) (by kernel_rfl) (fun _ _ _ h => h) (Or.inl ⟨by kernel_rfl, ?_⟩) hHeld ?_
          rotate_left
          · intro wh hSw
            go_simp
            try with_reducible rfl
          try simp only [Act.put, List.getElem_toArray, List.getElem_cons_zero, List.getElem_cons_succ, List.setIfInBounds_toArray, List.set_cons_zero, List.set_cons_succ]
          refine wpAnyH_take (i := 4) (v := ?_) rfl (by kernel_rfl) (by kernel_rfl) (by kernel_rfl) (fun _ _ _ h => h) (Or.inl ⟨by kernel_rfl, ?_⟩) hHeld ?_
          rotate_left
          · intro wh hSw
            have hcell := hSw.1
            go_simp
            try with_reducible rfl
          try simp only [Act.put, List.getElem_toArray, List.getElem_cons_zero, List.getElem_cons_succ, List.setIfInBounds_toArray, List.set_cons_zero, List.set_cons_succ]
          refine wpAnyH_take (i := 5) (v := ?_) rfl (by kernel_rfl) (by kernel_rfl) (by kernel_rfl) (fun _ _ _ h => h) (Or.inl ⟨by kernel_rfl, ?_⟩) hHeld ?_
          rotate_left
          · intro wh hSw
            go_simp
            try with_reducible rfl
          try simp only [Act.put, List.getElem_toArray, List.getElem_cons_zero, List.getElem_cons_succ, List.setIfInBounds_toArray, List.set_cons_zero, List.set_cons_succ]
          refine wpAnyH_take (i := 6) (v := ?_) rfl (by kernel_rfl) (by kernel_rfl) (by kernel_rfl) (fun _ _ _ h => h) (Or.inl ⟨by kernel_rfl, ?_⟩) hHeld ?_
          rotate_left
          · intro wh hSw
            go_simp
            try with_reducible rfl
          try simp only [Act.put, List.getElem_toArray, List.getElem_cons_zero, List.getElem_cons_succ, List.setIfInBounds_toArray, List.set_cons_zero, List.set_cons_succ]
          refine wpAnyH_take (i := 7) (v := ?_) rfl (by kernel_rfl) (by kernel_rfl) (by kernel_rfl) (fun _ _ _ h => h) (Or.inl ⟨by kernel_rfl, ?_⟩) hHeld ?_
          rotate_left
          · intro wh hSw
            go_simp
            try with_reducible rfl
          try simp only [Act.put, List.getElem_toArray, List.getElem_cons_zero, List.getElem_cons_succ, List.setIfInBounds_toArray, List.set_cons_zero, List.set_cons_succ]
          refine wpAnyH_take (i := 8) (v := ?_) rfl (by kernel_rfl) (by kernel_rfl) (by kernel_rfl) (fun _ _ _ h => h) (Or.inl ⟨by kernel_rfl, ?_⟩) hHeld ?_
          rotate_left
          · intro wh hSw
            have hcell := hSw.2.2.1
            go_simp
            try with_reducible rfl
          try simp only [Act.put, List.getElem_toArray, List.getElem_cons_zero, List.getElem_cons_succ, List.setIfInBounds_toArray, List.set_cons_zero, List.set_cons_succ]
          refine wpAnyH_take (i := 9) (v := ?_) rfl (by kernel_rfl) (by kernel_rfl) (by kernel_rfl) (fun _ _ _ h => h) (Or.inl ⟨by kernel_rfl, ?_⟩) hHeld ?_
          rotate_left
          · intro wh hSw
            go_simp
            try with_reducible rfl
          try simp only [Act.put, List.getElem_toArray, List.getElem_cons_zero, List.getElem_cons_succ, List.setIfInBounds_toArray, List.set_cons_zero, List.set_cons_succ]
          refine wpAnyH_take (i := 10) (v := ?_) rfl (by kernel_rfl) (by kernel_rfl) (by kernel_rfl) (fun _ _ _ h => h) (Or.inl ⟨by kernel_rfl, ?_⟩) hHeld ?_
          rotate_left
          · intro wh hSw
            go_simp
            try with_reducible rfl
          try simp only [Act.put, List.getElem_toArray, List.getElem_cons_zero, List.getElem_cons_succ, List.setIfInBounds_toArray, List.set_cons_zero, List.set_cons_succ]
          refine wpAnyH_take (i := 11) (v := ?_) rfl (by kernel_rfl) (by kernel_rfl) (by kernel_rfl) (fun _ _ _ h => h) (Or.inl ⟨by kernel_rfl, ?_⟩) hHeld ?_
          rotate_left
          · intro wh hSw
            go_simp
            try with_reducible rfl
          try simp only [Act.put, List.getElem_toArray, List.getElem_cons_zero, List.getElem_cons_succ, List.setIfInBounds_toArray, List.set_cons_zero, List.set_cons_succ]
          refine wpAnyH_take (i := 12) (v := ?_) rfl (by kernel_rfl) (by kernel_rfl) (by kernel_rfl) (fun _ _ _ h => h) (Or.inl ⟨by kernel_rfl, ?_⟩) hHeld ?_
          rotate_left
          · intro wh hSw
            have hcell := hSw.2.1
            go_simp
            try with_reducible rfl
          try simp only [Act.put, List.getElem_toArray, List.getElem_cons_zero, List.getElem_cons_succ, List.setIfInBounds_toArray, List.set_cons_zero, List.set_cons_succ]
          refine wpAnyH_take (i := 13) (v := ?_) rfl (by kernel_rfl) (by kernel_rfl) (by kernel_rfl) (fun _ _ _ h => h) (Or.inl ⟨by kernel_rfl, ?_⟩) hHeld ?_
          rotate_left
          · intro wh hSw
            go_simp
            try with_reducible rfl
          try simp only [Act.put, List.getElem_toArray, List.getElem_cons_zero, List.getElem_cons_succ, List.setIfInBounds_toArray, List.set_cons_zero, List.set_cons_succ]
          refine wpAnyH_take (i := 14) (v := ?_) rfl (by kernel_rfl) (by kernel_rfl) (by kernel_rfl) (fun _ _ _ h => h) (Or.inl ⟨by kernel_rfl, ?_⟩) hHeld ?_
          rotate_left
          · intro wh hSw
            go_simp
            try with_reducible rfl
          try simp only [Act.put, List.getElem_toArray, List.getElem_cons_zero, List.getElem_cons_succ, List.setIfInBounds_toArray, List.set_cons_zero, List.set_cons_succ]
          refine wpAnyH_take (i := 15) (v := ?_) rfl (by kernel_rfl) (by kernel_rfl) (by kernel_rfl) (fun _ _ _ h => h) (Or.inl ⟨by kernel_rfl, ?_⟩) hHeld ?_
          rotate_left
          · intro wh hSw
            go_simp
            try with_reducible rfl
          try simp only [Act.put, List.getElem_toArray, List.getElem_cons_zero, List.getElem_cons_succ, List.setIfInBounds_toArray, List.set_cons_zero, List.set_cons_succ]
          refine wpAnyH_take (i := 16) (v := ?_) rfl (by kernel_rfl) (by kernel_rfl) (by kernel_rfl) (fun _ _ _ h => h) (Or.inl ⟨by kernel_rfl, ?_⟩) hHeld ?_
          rotate_left
          · intro wh hSw
            go_simp
            try with_reducible rfl
          try simp only [Act.put, List.getElem_toArray, List.getElem_cons_zero, List.getElem_cons_succ, List.setIfInBounds_toArray, List.set_cons_zero, List.set_cons_succ]
          refine wpAnyH_take (i := 17) (v := ?_) rfl (by kernel_rfl) (by kernel_rfl) (by kernel_rfl) (fun _ _ _ h => h) (Or.inl ⟨by kernel_rfl, ?_⟩) hHeld ?_
          rotate_left
          · intro wh hSw
            go_simp
            try with_reducible rfl
          try simp only [Act.put, List.getElem_toArray, List.getElem_cons_zero, List.getElem_cons_succ, List.setIfInBounds_toArray, List.set_cons_zero, List.set_cons_succ]
          refine wpAnyH_take (i := 18) (v := ?_) rfl (by kernel_rfl) (by kernel_rfl) (by kernel_rfl) (fun _ _ _ h => h) (Or.inl ⟨by kernel_rfl, ?_⟩) hHeld ?_
          rotate_left
          · intro wh hSw
            go_simp
            try with_reducible rfl
          try simp only [Act.put, List.getElem_toArray, List.getElem_cons_zero, List.getElem_cons_succ, List.setIfInBounds_toArray, List.set_cons_zero, List.set_cons_succ]
          refine wpAnyH_take (i := 19) (v := ?_) rfl (by kernel_rfl) (by kernel_rfl) (by kernel_rfl) (fun _ _ _ h => h) (Or.inl ⟨by kernel_rfl, ?_⟩) hHeld ?_
          rotate_left
          · intro wh hSw
            have hcell := hSw.2.2.2.1
            go_simp
            try with_reducible rfl
          try simp only [Act.put, List.getElem_toArray, List.getElem_cons_zero, List.getElem_cons_succ, List.setIfInBounds_toArray, List.set_cons_zero, List.set_cons_succ]
          refine wpAnyH_take (i := 20) (v := ?_) rfl (by kernel_rfl) (by kernel_rfl) (by kernel_rfl) (fun _ _ _ h => h) (Or.inl ⟨by kernel_rfl, ?_⟩) hHeld ?_
          rotate_left
          · intro wh hSw
            go_simp
            try with_reducible rfl
          try simp only [Act.put, List.getElem_toArray, List.getElem_cons_zero, List.getElem_cons_succ, List.setIfInBounds_toArray, List.set_cons_zero, List.set_cons_succ]
          refine wpAnyH_take (i := 21) (v := ?_) rfl (by kernel_rfl) (by kernel_rfl) (by kernel_rfl) (fun _ _ _ h => h) (Or.inl ⟨by kernel_rfl, ?_⟩) hHeld ?_
          rotate_left
          · intro wh hSw
            go_simp
            try with_reducible rfl
          try simp only [Act.put, List.getElem_toArray, List.getElem_cons_zero, List.getElem_cons_succ, List.setIfInBounds_toArray, List.set_cons_zero, List.set_cons_succ]
          refine wpAnyH_take (i := 22) (v := ?_) rfl (by kernel_rfl) (by kernel_rfl) (by kernel_rfl) (fun _ _ _ h => h) (Or.inl ⟨by kernel_rfl, ?_⟩) hHeld ?_
          rotate_left
          · intro wh hSw
            go_simp
            try with_reducible rfl
          try simp only [Act.put, List.getElem_toArray, List.getElem_cons_zero, List.getElem_cons_succ, List.setIfInBounds_toArray, List.set_cons_zero, List.set_cons_succ]
          refine wpAnyH_take (i := 23) (v := ?_) rfl (by kernel_rfl) (by kernel_rfl) (by kernel_rfl) (fun _ _ _ h => h) (Or.inl ⟨by kernel_rfl, ?_⟩) hHeld ?_
          rotate_left
          · intro wh hSw
            have hcell := hSw.2.2.1
            go_simp
            try with_reducible rfl
          try simp only [Act.put, List.getElem_toArray, List.getElem_cons_zero, List.getElem_cons_succ, List.setIfInBounds_toArray, List.set_cons_zero, List.set_cons_succ]
          refine wpAnyH_take (i := 24) (v := ?_) rfl (by kernel_rfl) (by kernel_rfl) (by kernel_rfl) (fun _ _ _ h => h) (Or.inl ⟨by kernel_rfl, ?_⟩) hHeld ?_
          rotate_left
          · intro wh hSw
            go_simp
            try with_reducible rfl
          try simp only [Act.put, List.getElem_toArray, List.getElem_cons_zero, List.getElem_cons_succ, List.setIfInBounds_toArray, List.set_cons_zero, List.set_cons_succ]
          refine wpAnyH_take (i := 25) (v := ?_) rfl (by kernel_rfl) (by kernel_rfl) (by kernel_rfl) (fun _ _ _ h => h) (Or.inl ⟨by kernel_rfl, ?_⟩) hHeld ?_
          rotate_left
          · intro wh hSw
            go_simp
            try with_reducible rfl
          try simp only [Act.put, List.getElem_toArray, List.getElem_cons_zero, List.getElem_cons_succ, List.setIfInBounds_toArray, List.set_cons_zero, List.set_cons_succ]
          refine wpAnyH_take (i := 26) (v := ?_) rfl (by kernel_rfl) (by kernel_rfl) (by kernel_rfl) (fun _ _ _ h => h) (Or.inl ⟨by kernel_rfl, ?_⟩) hHeld ?_
          rotate_left
          · intro wh hSw
            go_simp
            try with_reducible rfl
          try simp only [Act.put, List.getElem_toArray, List.getElem_cons_zero, List.getElem_cons_succ, List.setIfInBounds_toArray, List.set_cons_zero, List.set_cons_succ]
          refine wpAnyH_take (i := 27) (v := ?_) rfl (by kernel_rfl) (by kernel_rfl) (by kernel_rfl) (fun _ _ _ h => h) (Or.inl ⟨by kernel_rfl, ?_⟩) hHeld ?_
          rotate_left
          · intro wh hSw
            have hcell := hSw.2.2.2.2
            go_simp
            try with_reducible rfl
          try simp only [Act.put, List.getElem_toArray, List.getElem_cons_zero, List.getElem_cons_succ, List.setIfInBounds_toArray, List.set_cons_zero, List.set_cons_succ]
          refine wpAnyH_take (i := 28) (v := ?_) rfl (by kernel_rfl) (by kernel_rfl) (by kernel_rfl) (fun _ _ _ h => h) (Or.inl ⟨by kernel_rfl, ?_⟩) hHeld ?_
          rotate_left
          · intro wh hSw
            go_simp
            try with_reducible rfl
          try simp only [Act.put, List.getElem_toArray, List.getElem_cons_zero, List.getElem_cons_succ, List.setIfInBounds_toArray, List.set_cons_zero, List.set_cons_succ]
          refine wpAnyH_take (i := 29) (v := ?_) rfl (by kernel_rfl) (by kernel_rfl) (by kernel_rfl) (fun _ _ _ h => h) (Or.inl ⟨by kernel_rfl, ?_⟩) hHeld ?_
          rotate_left
          · intro wh hSw
            go_simp
            try with_reducible rfl
          try simp only [Act.put, List.getElem_toArray, List.getElem_cons_zero, List.getElem_cons_succ, List.setIfInBounds_toArray, List.set_cons_zero, List.set_cons_succ]
          refine wpAnyH_done (by kernel_rfl) ?_ _
          clear hHeld
          go_wp2
          go_roundw
          case rel => exact ⟨j + 1, by omega, by go_num, b6.out, D6.out⟩
          case measure => simp [intOf]; omega
        · have hjn' : j = dd.length := by omega
          subst hjn'
          go_wp2
          go_ret
          exact ⟨rfl, b5.out⟩
end Go.Proofs.Ytajlgglknianlaa
