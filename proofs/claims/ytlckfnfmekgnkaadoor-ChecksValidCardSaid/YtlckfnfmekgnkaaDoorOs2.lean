/- A twin of a list of options; whether a twin is as it was made. Each function walked once. No condition. -/
import Derived.Test.YtlckfnfmekgnkaaDoorOs
namespace Go.Proofs.YtlckfnfmekgnkaaDoor
open Go.ChangeShapes Go.WideShapes Go.ChangeAt Go.RowKit Go.Deep
set_option linter.unusedVariables false
set_option linter.unusedSimpArgs false

theorem ones_oddO : ∀ v ∈ oddO, v.oneCell' = true := by
  intro v hv
  simp only [oddO, List.mem_cons, List.not_mem_nil, or_false] at hv
  rcases hv with rfl | rfl <;> rfl
theorem ones_opt (k : Int) (A : Option Addr) (n c : Nat) : ∀ v ∈ ([.int .u8 k, .slice A n c] : List Value), v.oneCell' = true := by
  intro v hv
  simp only [List.mem_cons, List.not_mem_nil, or_false] at hv
  rcases hv with rfl | rfl <;> rfl
section
variable {w W W' : World} {v v' : Value} {os : List Op2} {Lo : Nat}
set_option maxRecDepth 100000 in
set_option maxHeartbeats 4000000 in
theorem twinO_any (w : World) (h : OsIn w v os) : Calls Tryd.prog 22 #[v] w fun r W' => ∃ v', r = .returned v' ∧ OsTw W' w.heap.size v' os ∧ Below w.heap.size w W' := by
  obtain ⟨A, c, rfl, h2, h3⟩ := h
  have hcm := h2.cmax
  have hcn := h2.cap
  unfold maxLen at hcm
  obtain ⟨n, hn⟩ : ∃ n, os.length = n := ⟨_, rfl⟩
  rw [hn] at h2 h3 hcn ⊢
  obtain ⟨cs0, hs0, hmk⟩ := make_row Tryd.underlying31 info46z n (by omega) (by omega)
  obtain ⟨g, hg⟩ : ∃ g, w.heap.size = g := ⟨_, rfl⟩
  obtain ⟨V, hV⟩ : ∃ V, w.alloc (.cells cs0 46) = V := ⟨_, rfl⟩
  have hS0 := hidd (show Blk V g 46 cs0 ∧ Below w.heap.size w V from by
    have b1 := Blk.new w 46 cs0
    rw [hg, hV] at b1
    exact ⟨b1, hV ▸ (Below.refl _ w).alloc (Nat.le_refl _) _⟩)
  have H := hidd h2
  have hn' := hidd hn
  have hs0' := hidd hs0
  have hlo := hidd (show w.heap.size ≤ g from by omega)
  clear h2 hn hs0
  go_enter Tryd.func22, Tryd.ntmps22
  go_wp2_with fail
  go_loopw [4] (fun i wr => ∃ (k : Nat) (cs : Array Value), k ≤ n + 4 ∧ i = .int .i64 k ∧ Hid (Blk wr g 46 cs ∧ Below w.heap.size w wr ∧ cs.size = (n + 4) * 2 ∧ Rows cs 2 k (POT wr (g + 1) os))) (fun i _ => n + 4 - (intOf i).toNat)
  case atStart => exact ⟨0, cs0, Nat.zero_le _, rfl, hidd ⟨hS0.out.1, hS0.out.2, hs0'.out, fun j hj => by omega⟩⟩
  case round =>
    obtain ⟨k, cs, hk, rfl, R⟩ := hrel
    clear hS0
    by_cases hlt : k < n + 4
    · have hz : (k : Int) < (n : Int) + 4 := by omega
      have hth : wr.there g (k * 2) oddO.length := R.out.1.there (by have := mul_lt (K := 2) hlt; rw [R.out.2.2.1]; exact this)
      obtain ⟨D0, hD0⟩ : ∃ U, wr.setCells g (k * 2) oddO = U := ⟨_, rfl⟩
      have R2 := hidd (show Blk D0 g 46 (over cs (k * 2) oddO) ∧ Below w.heap.size w D0 ∧ (over cs (k * 2) oddO).size = (n + 4) * 2 from
        hD0 ▸ ⟨Blk.over (W := wr) _ _ _ _ R.out.1, below_setCells hlo.out _ _ _ R.out.2.1, by rw [over_size]; exact R.out.2.2.1⟩)
      have hsz : (Tryd.prog.info? 46).map (·.size) = some oddO.length := sz46
      by_cases hkn : k < n
      · have hkz : (k : Int) < (n : Int) := by omega
        obtain ⟨b, off, rfl, hb, hc⟩ := H.out.at_ (by omega)
        obtain ⟨l, _, hr, o, v1, ho, rfl, hv1⟩ := hc k hkn
        obtain ⟨A1, c1, rfl, _⟩ := id hv1
        have rows0 := hidd (show Rows (over cs (k * 2) oddO) 2 k (POT D0 (g + 1) os) from (R.out.2.2.2.keep (Nat.le_refl k) oddO).imp (fun j l _ hp => hD0 ▸ hp.cells (by omega) _ _))
        have hx1 := hidd (hv1.to R2.out.2.1)
        have hS := hidd (fun (V : World) (hbl : Below w.heap.size w V) => (show V.cell? ⟨b, off + k * 2, none⟩ = some (.int .u8 o.1) ∧ V.cell? ⟨b, off + k * 2 + 1, none⟩ = some (.slice A1 o.2.length c1) from ⟨range_below hr hbl hb 0 _ rfl, range_below hr hbl hb 1 _ rfl⟩))
        have S1 := hidd (hS.out D0.drew R2.out.2.1.drew)
        have ho' := hidd ho
        clear hc hr ho hv1 R
        go_wp2_with (first
          | (with_reducible show wpList _ _ _ (⟨_, Op.store 46 _ (Operand.tmp 17), _, _, _, _⟩ :: _) _ _; refine wpList_store_vals rfl rfl 46 (.tmp 18) (.tmp 17) rfl g (k * 2) oddO rfl rfl hth hsz ones_oddO ?_))
        try rw [hD0]
        clear hth hsz
        refine wp_region_tail (fun V => V.cell? ⟨b, off + k * 2, none⟩ = some (.int .u8 o.1) ∧ V.cell? ⟨b, off + k * 2 + 1, none⟩ = some (.slice A1 o.2.length c1)) 15 (by kernel_rfl) S1.out (fun hF => ?_)
        obtain ⟨D1, hD1⟩ : ∃ U, D0.drew = U := ⟨_, rfl⟩
        have R3 := hidd (show Blk D1 g 46 (over cs (k * 2) oddO) ∧ Below w.heap.size w D1 ∧ Rows (over cs (k * 2) oddO) 2 k (POT D1 (g + 1) os) ∧ BsIn D1 (.slice A1 o.2.length c1) o.2 from hD1 ▸ ⟨R2.out.1, R2.out.2.1.drew, rows0.out.imp (fun _ _ _ h => h.to (below_drew D0)), hx1.out.to (below_drew D0)⟩)
        rw [hD1] at S1 hF ⊢
        clear rows0 hx1 hD1
        refine tail_free (i := 0) (v := ?_) rfl (by kernel_rfl) (by kernel_rfl) (by kernel_rfl) (by kernel_rfl) (fun _ _ _ h => h) (Or.inl ⟨by kernel_rfl, ?_⟩) (fun _ => hF) ?_
        rotate_left
        · intro wh hSw
          go_simp
          try with_reducible rfl
        try simp only [Act.put, List.getElem_toArray, List.getElem_cons_zero, List.getElem_cons_succ, List.setIfInBounds_toArray, List.set_cons_zero, List.set_cons_succ]
        refine tail_free (i := 1) (v := ?_) rfl (by kernel_rfl) (by kernel_rfl) (by kernel_rfl) (by kernel_rfl) (fun _ _ _ h => h) (Or.inl ⟨by kernel_rfl, ?_⟩) (fun _ => hF) ?_
        rotate_left
        · intro wh hSw
          go_simp
          try with_reducible rfl
        try simp only [Act.put, List.getElem_toArray, List.getElem_cons_zero, List.getElem_cons_succ, List.setIfInBounds_toArray, List.set_cons_zero, List.set_cons_succ]
        refine tail_free (i := 2) (v := ?_) rfl (by kernel_rfl) (by kernel_rfl) (by kernel_rfl) (by kernel_rfl) (fun _ _ _ h => h) (Or.inl ⟨by kernel_rfl, ?_⟩) (fun _ => hF) ?_
        rotate_left
        · intro wh hSw
          go_simp
          try with_reducible rfl
        try simp only [Act.put, List.getElem_toArray, List.getElem_cons_zero, List.getElem_cons_succ, List.setIfInBounds_toArray, List.set_cons_zero, List.set_cons_succ]
        refine tail_free (i := 3) (v := ?_) rfl (by kernel_rfl) (by kernel_rfl) (by kernel_rfl) (by kernel_rfl) (fun _ _ _ h => h) (Or.inl ⟨by kernel_rfl, ?_⟩) (fun _ => hF) ?_
        rotate_left
        · intro wh hSw
          go_simp
          try with_reducible rfl
        try simp only [Act.put, List.getElem_toArray, List.getElem_cons_zero, List.getElem_cons_succ, List.setIfInBounds_toArray, List.set_cons_zero, List.set_cons_succ]
        refine tail_free (i := 4) (v := ?_) rfl (by kernel_rfl) (by kernel_rfl) (by kernel_rfl) (by kernel_rfl) (fun _ _ _ h => h) (Or.inl ⟨by kernel_rfl, ?_⟩) (fun _ => hF) ?_
        rotate_left
        · intro wh hSw
          go_simp
          try with_reducible rfl
        try simp only [Act.put, List.getElem_toArray, List.getElem_cons_zero, List.getElem_cons_succ, List.setIfInBounds_toArray, List.set_cons_zero, List.set_cons_succ]
        refine tail_free (i := 5) (v := ?_) rfl (by kernel_rfl) (by kernel_rfl) (by kernel_rfl) (by kernel_rfl) (fun _ _ _ h => h) (Or.inl ⟨by kernel_rfl, ?_⟩) (fun _ => hF) ?_
        rotate_left
        · intro wh hSw
          go_simp
          try with_reducible rfl
        try simp only [Act.put, List.getElem_toArray, List.getElem_cons_zero, List.getElem_cons_succ, List.setIfInBounds_toArray, List.set_cons_zero, List.set_cons_succ]
        refine tail_take (i := 6) (v := ?_) rfl (by kernel_rfl) (by kernel_rfl) (by kernel_rfl) (by kernel_rfl) (fun _ _ _ h => h) (Or.inl ⟨by kernel_rfl, ?_⟩) hF ?_
        rotate_left
        · intro wh hSw
          have hcell := hSw.1
          go_simp
          try with_reducible rfl
        try simp only [Act.put, List.getElem_toArray, List.getElem_cons_zero, List.getElem_cons_succ, List.setIfInBounds_toArray, List.set_cons_zero, List.set_cons_succ]
        refine tail_free (i := 7) (v := ?_) rfl (by kernel_rfl) (by kernel_rfl) (by kernel_rfl) (by kernel_rfl) (fun _ _ _ h => h) (Or.inl ⟨by kernel_rfl, ?_⟩) (fun _ => hF) ?_
        rotate_left
        · intro wh hSw
          go_simp
          try with_reducible rfl
        try simp only [Act.put, List.getElem_toArray, List.getElem_cons_zero, List.getElem_cons_succ, List.setIfInBounds_toArray, List.set_cons_zero, List.set_cons_succ]
        refine tail_free (i := 8) (v := ?_) rfl (by kernel_rfl) (by kernel_rfl) (by kernel_rfl) (by kernel_rfl) (fun _ _ _ h => h) (Or.inl ⟨by kernel_rfl, ?_⟩) (fun _ => hF) ?_
        rotate_left
        · intro wh hSw
          go_simp
          try with_reducible rfl
        try simp only [Act.put, List.getElem_toArray, List.getElem_cons_zero, List.getElem_cons_succ, List.setIfInBounds_toArray, List.set_cons_zero, List.set_cons_succ]
        refine tail_free (i := 9) (v := ?_) rfl (by kernel_rfl) (by kernel_rfl) (by kernel_rfl) (by kernel_rfl) (fun _ _ _ h => h) (Or.inl ⟨by kernel_rfl, ?_⟩) (fun _ => hF) ?_
        rotate_left
        · intro wh hSw
          go_simp
          try with_reducible rfl
        try simp only [Act.put, List.getElem_toArray, List.getElem_cons_zero, List.getElem_cons_succ, List.setIfInBounds_toArray, List.set_cons_zero, List.set_cons_succ]
        refine tail_free (i := 10) (v := ?_) rfl (by kernel_rfl) (by kernel_rfl) (by kernel_rfl) (by kernel_rfl) (fun _ _ _ h => h) (Or.inl ⟨by kernel_rfl, ?_⟩) (fun _ => hF) ?_
        rotate_left
        · intro wh hSw
          go_simp
          try with_reducible rfl
        try simp only [Act.put, List.getElem_toArray, List.getElem_cons_zero, List.getElem_cons_succ, List.setIfInBounds_toArray, List.set_cons_zero, List.set_cons_succ]
        refine tail_take (i := 11) (v := ?_) rfl (by kernel_rfl) (by kernel_rfl) (by kernel_rfl) (by kernel_rfl) (fun _ _ _ h => h) (Or.inl ⟨by kernel_rfl, ?_⟩) hF ?_
        rotate_left
        · intro wh hSw
          have hcell := hSw.2
          go_simp
          try with_reducible rfl
        try simp only [Act.put, List.getElem_toArray, List.getElem_cons_zero, List.getElem_cons_succ, List.setIfInBounds_toArray, List.set_cons_zero, List.set_cons_succ]
        refine tail_ready (rs := [12]) (by kernel_rfl) (by simp) (AllReadyT.cons rfl (fun K hK => ?_) AllReadyT.nil)
        clear hF
        go_simp
        refine (twinB_any D1 R3.out.2.2.2).mono ?_
        rintro r D2 ⟨v2, rfl, t2, b2⟩
        dsimp only
        have hD2 := hidd (R3.out.2.1.trans (b2.mono R3.out.2.1.size))
        have S2 := hidd (hS.out D2 hD2.out)
        have t3 := hidd (t2.lo (Lo' := g + 1) R3.out.1.lt)
        have hB2 := hidd (R3.out.1.below b2 R3.out.1.lt)
        have rows2 := hidd (show Rows (over cs (k * 2) oddO) 2 k (POT D2 (g + 1) os) from R3.out.2.2.1.imp (fun _ _ _ h => h.to b2))
        obtain ⟨g2, rfl, _⟩ := t2
        have hth2 : D2.there g (k * 2) ([.int .u8 o.1, .slice (some ⟨g2, 0, none⟩) o.2.length (o.2.length + 4)] : List Value).length := hB2.out.there (by have := mul_lt (K := 2) hlt; rw [R2.out.2.2]; exact this)
        clear b2 S1 R3
        refine hK.out _ _ S2.out (fun hF => ?_)
        clear hK K
        try simp only [Act.put, List.getElem_toArray, List.getElem_cons_zero, List.getElem_cons_succ, List.setIfInBounds_toArray, List.set_cons_zero, List.set_cons_succ]
        refine tail_free (i := 13) (v := ?_) rfl (by kernel_rfl) (by kernel_rfl) (by kernel_rfl) (by kernel_rfl) (fun _ _ _ h => h) (Or.inl ⟨by kernel_rfl, ?_⟩) (fun _ => hF) ?_
        rotate_left
        · intro wh hSw
          go_simp
          try with_reducible rfl
        try simp only [Act.put, List.getElem_toArray, List.getElem_cons_zero, List.getElem_cons_succ, List.setIfInBounds_toArray, List.set_cons_zero, List.set_cons_succ]
        refine tail_free (i := 14) (v := ?_) rfl (by kernel_rfl) (by kernel_rfl) (by kernel_rfl) (by kernel_rfl) (fun _ _ _ h => h) (Or.inl ⟨by kernel_rfl, ?_⟩) (fun _ => hF) ?_
        rotate_left
        · intro wh hSw
          go_simp
          try with_reducible rfl
        try simp only [Act.put, List.getElem_toArray, List.getElem_cons_zero, List.getElem_cons_succ, List.setIfInBounds_toArray, List.set_cons_zero, List.set_cons_succ]
        refine tail_ready (rs := [15]) (by kernel_rfl) (by simp) (AllReadyT.last rfl (by kernel_rfl) (fun K hK => ?_) AllReadyT.nil)
        clear hF
        refine step_store_vals D2 rfl rfl 46 (.tmp 37) (.tmp 36) rfl g (k * 2) [.int .u8 o.1, .slice (some ⟨g2, 0, none⟩) o.2.length (o.2.length + 4)] rfl rfl hth2 sz46 (ones_opt _ _ _ _) ?_
        obtain ⟨D3, hD3⟩ : ∃ U, D2.setCells g (k * 2) [.int .u8 o.1, .slice (some ⟨g2, 0, none⟩) o.2.length (o.2.length + 4)] = U := ⟨_, rfl⟩
        have R4 := hidd (show Blk D3 g 46 (over (over cs (k * 2) oddO) (k * 2) [.int .u8 o.1, .slice (some ⟨g2, 0, none⟩) o.2.length (o.2.length + 4)]) ∧ Below w.heap.size w D3 ∧ (over (over cs (k * 2) oddO) (k * 2) [.int .u8 o.1, .slice (some ⟨g2, 0, none⟩) o.2.length (o.2.length + 4)]).size = (n + 4) * 2 ∧ Rows (over (over cs (k * 2) oddO) (k * 2) [.int .u8 o.1, .slice (some ⟨g2, 0, none⟩) o.2.length (o.2.length + 4)]) 2 (k + 1) (POT D3 (g + 1) os) from hD3 ▸ ⟨Blk.over (W := D2) _ _ _ _ hB2.out, below_setCells hlo.out _ _ _ hD2.out, by rw [over_size]; exact R2.out.2.2, (rows2.out.imp (fun _ _ _ h => h.cells (by omega) _ _)).push rfl hlt R2.out.2.2 (POT.real ho'.out (t3.out.cells (by omega) _ _))⟩)
        rw [hD3]
        clear hD3 hth2 rows2 t3 hB2
        refine hK.out _ _ ?_
        clear hK K
        try simp only [Act.put, List.getElem_toArray, List.getElem_cons_zero, List.getElem_cons_succ, List.setIfInBounds_toArray, List.set_cons_zero, List.set_cons_succ]
        refine tail_done (by kernel_rfl) ?_ _
        go_wp2
        go_roundw
        case rel => exact ⟨k + 1, _, by omega, by go_num, R4⟩
        case measure => simp [intOf]; omega
      · have hkz : ¬ (k : Int) < (n : Int) := by omega
        have hd : decide ((k : Int) < (n : Int)) = false := by simp; omega
        have rows1 := hidd (show Rows (over cs (k * 2) oddO) 2 (k + 1) (POT D0 (g + 1) os) from (R.out.2.2.2.imp (fun j l _ hp => hD0 ▸ hp.cells (by omega) _ _)).push rfl hlt R.out.2.2.1 (POT.odd (by rw [hn'.out]; omega)))
        clear R
        go_wp2_with (first
          | (with_reducible show wpList _ _ _ (⟨_, Op.store 46 _ (Operand.tmp 17), _, _, _, _⟩ :: _) _ _; refine wpList_store_vals rfl rfl 46 (.tmp 18) (.tmp 17) rfl g (k * 2) oddO rfl rfl hth hsz ones_oddO ?_))
        try rw [hD0]
        go_roundw
        case rel => exact ⟨k + 1, _, by omega, by go_num, hidd ⟨R2.out.1, R2.out.2.1, R2.out.2.2, rows1.out⟩⟩
        case measure => simp [intOf]; omega
    · obtain rfl : k = n + 4 := by omega
      have hz : ¬ ((n : Int) + 4) < (n : Int) + 4 := by omega
      clear hmk hV
      go_wp2
      go_ret
      have hbel : Below w.heap.size w wr := R.out.2.1
      have hT : OsTw wr g (.slice (some ⟨g, 0, none⟩) n (n + 4)) os := ⟨g, cs, by rw [hn'.out], Nat.le_refl _, R.out.1, by rw [hn'.out]; exact R.out.2.2.1, by rw [hn'.out]; exact R.out.2.2.2.imp (fun _ _ _ h => h.lo (Nat.le_succ _)), by rw [hn'.out]; omega⟩
      first | exact ⟨.slice (some ⟨g, 0, none⟩) n (n + 4), rfl, hT, hbel⟩ | (rw [hg] at hbel; exact ⟨.slice (some ⟨g, 0, none⟩) n (n + 4), rfl, hT, hbel⟩)
end
end Go.Proofs.YtlckfnfmekgnkaaDoor
