/- A twin of a list of addresses; whether a twin is as it was made. Each function walked once. No condition. -/
import Derived.Test.YtlckfnfmekgnkaaDoorAs
namespace Go.Proofs.YtlckfnfmekgnkaaDoor
open Go.ChangeShapes Go.WideShapes Go.ChangeAt Go.RowKit Go.Deep
set_option linter.unusedVariables false
set_option linter.unusedSimpArgs false

theorem PAT.real {ls : List (List Int)} {i : Nat} {a : List Int} (h : ls[i]? = some a) (ha : IsAddr a) : PAT ls i (encA a) := by
  have hi := (List.getElem?_eq_some_iff.1 h).1
  unfold PAT; rw [if_pos hi]; exact ⟨a, h, rfl, ha⟩
theorem PAT.odd {ls : List (List Int)} {i : Nat} (h : ls.length ≤ i) : PAT ls i (encA oddA) := by
  unfold PAT; rw [if_neg (by omega)]
theorem ones_encA (a : List Int) : ∀ v ∈ encA a, v.oneCell' = true := ints_one .u8 a
section
variable {w W W' : World} {v v' : Value} {ls : List (List Int)} {Lo : Nat}
set_option maxRecDepth 100000 in
set_option maxHeartbeats 4000000 in
theorem twinRow_any (w : World) (h : AsIn w v ls) : Calls Tryd.prog 37 #[v, .agg (bytesV oddA)] w fun r W' => ∃ v', r = .returned v' ∧ AsTw W' w.heap.size v' ls ∧ Below w.heap.size w W' := by
  obtain ⟨A, c, rfl, h2, h3⟩ := h
  have hcm := h2.cmax
  have hcn := h2.cap
  unfold maxLen at hcm
  obtain ⟨n, hn⟩ : ∃ n, ls.length = n := ⟨_, rfl⟩
  rw [hn] at h2 h3 hcn ⊢
  obtain ⟨cs0, hs0, hmk⟩ := make_row Tryd.underlying32 info23z n (by omega) (by omega)
  obtain ⟨q, hq⟩ : ∃ q, w.heap.size = q := ⟨_, rfl⟩
  obtain ⟨V, hV⟩ : ∃ V, (w.alloc (.cells (bytesV oddA) 23)).alloc (.cells cs0 23) = V := ⟨_, rfl⟩
  have hS0 := hidd (show Blk V q 23 (bytesV oddA) ∧ Blk V (q + 1) 23 cs0 ∧ Below w.heap.size w V from by
    have b1 := Blk.new w 23 (bytesV oddA)
    have b2 := Blk.new (w.alloc (.cells (bytesV oddA) 23)) 23 cs0
    simp only [nblk_alloc, hq] at b1 b2
    rw [← hV]
    exact ⟨b1.alloc _, b2, ((Below.refl _ w).alloc (Nat.le_refl _) _).alloc (by simp) _⟩)
  have H := hidd h2
  have hn' := hidd hn
  have hs0' := hidd hs0
  have hq' := hidd hq
  clear h2 hn hs0
  go_enter Tryd.func37, Tryd.ntmps37
  go_wp2_with fail
  obtain ⟨g, hg⟩ : ∃ g, q + 1 = g := ⟨_, rfl⟩
  rw [hg] at hS0 ⊢
  have hgq := hidd (show q < g from by omega)
  go_loopw [6] (fun i wr => ∃ (k : Nat) (cs : Array Value), k ≤ n + 4 ∧ i = .int .i64 k ∧ Hid (Blk wr q 23 (bytesV oddA) ∧ Blk wr g 23 cs ∧ Below w.heap.size w wr ∧ cs.size = (n + 4) * 16 ∧ Rows cs 16 k (PAT ls))) (fun i _ => n + 4 - (intOf i).toNat)
  case atStart => exact ⟨0, cs0, Nat.zero_le _, rfl, hidd ⟨hS0.out.1, hS0.out.2.1, hS0.out.2.2, hs0'.out, fun j hj => by omega⟩⟩
  case round =>
    obtain ⟨k, cs, hk, rfl, R⟩ := hrel
    clear hS0
    by_cases hlt : k < n + 4
    · have hz : (k : Int) < (n : Int) + 4 := by omega
      have lq := ldB R.out.1 odd_is
      have hth : wr.there g (k * 16) (encA oddA).length := R.out.2.1.there (by have := mul_lt (K := 16) hlt; rw [R.out.2.2.2.1, encA_len odd_is]; exact this)
      have hlo := hidd (show w.heap.size ≤ g from by have := hq'.out; have := hgq.out; omega)
      have R2 := hidd (show Blk (wr.setCells g (k * 16) (encA oddA)) q 23 (bytesV oddA) ∧ Blk (wr.setCells g (k * 16) (encA oddA)) g 23 (over cs (k * 16) (encA oddA)) ∧ Below w.heap.size w (wr.setCells g (k * 16) (encA oddA)) ∧ (over cs (k * 16) (encA oddA)).size = (n + 4) * 16 from
        ⟨R.out.1.farCells g _ _ _ (by have := hgq.out; omega), Blk.over (W := wr) _ _ _ _ R.out.2.1, below_setCells hlo.out _ _ _ R.out.2.2.1, by rw [over_size]; exact R.out.2.2.2.1⟩)
      have hsz : (Tryd.prog.info? 23).map (·.size) = some (encA oddA).length := by simpa using info23' odd_is
      by_cases hkn : k < n
      · have hkz : (k : Int) < (n : Int) := by omega
        obtain ⟨b, off, rfl, hb, hc⟩ := H.out.at_ (by omega)
        obtain ⟨l, _, hr, a, ha0, rfl, ha⟩ := hc k hkn
        have lx := ldA (V := wr.setCells g (k * 16) (encA oddA)) (range_below hr R2.out.2.2.1 hb) ha
        have hth2 : (wr.setCells g (k * 16) (encA oddA)).there g (k * 16) (encA a).length := R2.out.2.1.there (by have := mul_lt (K := 16) hlt; rw [R2.out.2.2.2, encA_len ha]; exact this)
        have hsz2 : (Tryd.prog.info? 23).map (·.size) = some (encA a).length := by simpa using info23' ha
        have hp := hidd (PAT.real ha0 ha)
        have ha' := hidd ha
        have hrows := hidd ((R.out.2.2.2.2.keep (Nat.le_refl k) (encA oddA)).push (encA_len ha) hlt R2.out.2.2.2 hp.out)
        have R3 := hidd (show Blk ((wr.setCells g (k * 16) (encA oddA)).setCells g (k * 16) (encA a)) q 23 (bytesV oddA) ∧ Blk ((wr.setCells g (k * 16) (encA oddA)).setCells g (k * 16) (encA a)) g 23 (over (over cs (k * 16) (encA oddA)) (k * 16) (encA a)) ∧ Below w.heap.size w ((wr.setCells g (k * 16) (encA oddA)).setCells g (k * 16) (encA a)) ∧ (over (over cs (k * 16) (encA oddA)) (k * 16) (encA a)).size = (n + 4) * 16 from
          ⟨R2.out.1.farCells g _ _ _ (by have := hgq.out; omega), Blk.over (W := wr) _ _ _ _ R2.out.2.1, below_setCells hlo.out _ _ _ R2.out.2.2.1, by rw [over_size]; exact R2.out.2.2.2⟩)
        clear hc hr ha0 ha R
        go_wp2_with (first
          | (with_reducible show wpList _ _ _ (⟨_, Op.load 23 _, _, _, _, _⟩ :: _) _ _; refine wpList_load_want (by kernel_rfl) 23 _ rfl _ rfl _ (by with_reducible first | exact lq | exact lx) ?_)
          | (with_reducible show wpList _ _ _ (⟨_, Op.store 23 _ (Operand.tmp 19), _, _, _, _⟩ :: _) _ _; refine wpList_store_vals rfl rfl 23 (.tmp 20) (.tmp 19) rfl g (k * 16) (encA oddA) rfl rfl hth hsz (ones_encA _) ?_)
          | (with_reducible show wpList _ _ _ (⟨_, Op.store 23 _ (Operand.tmp 30), _, _, _, _⟩ :: _) _ _; refine wpList_store_vals rfl rfl 23 (.tmp 31) (.tmp 30) rfl g (k * 16) (encA a) rfl rfl hth2 hsz2 (ones_encA _) ?_))
        go_roundw
        case rel => exact ⟨k + 1, _, by omega, by go_num, hidd ⟨R3.out.1, R3.out.2.1, R3.out.2.2.1, R3.out.2.2.2, hrows.out⟩⟩
        case measure => simp [intOf]; omega
      · have hkz : ¬ (k : Int) < (n : Int) := by omega
        have hd : decide ((k : Int) < (n : Int)) = false := by simp; omega
        have hrows := hidd (R.out.2.2.2.2.push (encA_len odd_is) hlt R.out.2.2.2.1 (PAT.odd (by rw [hn'.out]; omega)))
        clear R
        go_wp2_with (first
          | (with_reducible show wpList _ _ _ (⟨_, Op.load 23 _, _, _, _, _⟩ :: _) _ _; refine wpList_load_want (by kernel_rfl) 23 _ rfl _ rfl _ (by with_reducible exact lq) ?_)
          | (with_reducible show wpList _ _ _ (⟨_, Op.store 23 _ (Operand.tmp 19), _, _, _, _⟩ :: _) _ _; refine wpList_store_vals rfl rfl 23 (.tmp 20) (.tmp 19) rfl g (k * 16) (encA oddA) rfl rfl hth hsz (ones_encA _) ?_))
        go_roundw
        case rel => exact ⟨k + 1, _, by omega, by go_num, hidd ⟨R2.out.1, R2.out.2.1, R2.out.2.2.1, R2.out.2.2.2, hrows.out⟩⟩
        case measure => simp [intOf]; omega
    · obtain rfl : k = n + 4 := by omega
      have hz : ¬ ((n : Int) + 4) < (n : Int) + 4 := by omega
      clear hmk hV
      go_wp2
      go_ret
      have hbel : Below q w wr := hq'.out ▸ R.out.2.2.1
      exact ⟨.slice (some ⟨g, 0, none⟩) n (n + 4), rfl, ⟨g, cs, by rw [hn'.out], by have := hgq.out; omega, R.out.2.1, by rw [hn'.out]; exact R.out.2.2.2.1, by rw [hn'.out]; exact R.out.2.2.2.2, by rw [hn'.out]; omega⟩, hbel⟩
theorem twinA_any (w : World) (h : AsIn w v ls) : Calls Tryd.prog 23 #[v] w fun r W' => ∃ v', r = .returned v' ∧ AsTw W' w.heap.size v' ls ∧ Below w.heap.size w W' := by
  have H := hidd h
  clear h
  go_enter Tryd.func23, Tryd.ntmps23
  go_wp2_with fail
  refine (odd_any w).mono ?_
  rintro r w1 ⟨rfl, b1⟩
  have B1 := hidd b1
  have H1 := hidd (H.out.to b1)
  clear b1
  go_wp2_with fail
  refine (twinRow_any w1 H1.out).mono ?_
  rintro r w2 ⟨v', rfl, t2, b2⟩
  have T2 := hidd (t2.lo B1.out.size)
  have B2 := hidd (B1.out.trans (b2.mono B1.out.size))
  clear t2 b2
  go_wp2
  go_ret
  exact ⟨v', rfl, T2.out, B2.out⟩
set_option maxRecDepth 100000 in
set_option maxHeartbeats 4000000 in
theorem leftRow_any (w : World) (h : AsTw w Lo v ls) (h' : AsIn w v' ls) : Calls Tryd.prog 52 #[v, v', .agg (bytesV oddA)] w fun r W' => r = .returned (.bool true) ∧ Below w.heap.size w W' := by
  have hs := h.as_
  obtain ⟨g, cs, rfl, h1, h2, h3, h4, h5⟩ := h
  have h'2 := h'
  obtain ⟨A, c, rfl, h6, _⟩ := h'
  have hcm := h6.cmax
  have hcn := h6.cap
  unfold maxLen at hcm
  obtain ⟨q, hq⟩ : ∃ q, w.heap.size = q := ⟨_, rfl⟩
  obtain ⟨V, hV⟩ : ∃ V, w.alloc (.cells (bytesV oddA) 23) = V := ⟨_, rfl⟩
  have bV : Below w.heap.size w V := hV ▸ (Below.refl _ w).alloc (Nat.le_refl _) _
  have H0 := hidd (And.intro (hs.to bV) (h'2.to bV))
  have hcell : Hid (∀ (W : World) (k : Nat), k < 4 → Blk W g 23 cs → W.rangeAt g (ls.length * 16 + k * 16) (encA oddA)) := hidd (fun W k hk hb => by
    obtain ⟨l, _, hr, hp⟩ := h4 (ls.length + k) (by omega)
    unfold PAT at hp
    rw [if_neg (by omega)] at hp
    subst hp
    rw [Nat.add_mul] at hr
    exact hb.rangeAt hr)
  have hQ := hidd (show Blk V q 23 (bytesV oddA) ∧ Blk V g 23 cs ∧ Below w.heap.size w V from ⟨by rw [← hV, ← hq]; exact Blk.new w 23 _, h2.below bV h2.lt, bV⟩)
  have hd : decide (((ls.length : Int) + 4) < (ls.length : Int) + 4) = false := by simp
  have e4 : ls.length + 4 - ls.length = 4 := by omega
  have e5 : ¬ (ls.length + 4 = ls.length) := by omega
  have hqe := fun V => eqA V odd_is odd_is
  have hgd := guard23
  clear h1 h2 h3 h4 h6 hs h'2 bV
  go_enter Tryd.func52, Tryd.ntmps52
  go_wp2_with fail
  refine (sameA_any V H0.out.1 H0.out.2).mono ?_
  rintro r w1 ⟨rfl, b1⟩
  have hQ1 := hidd (show Blk w1 q 23 (bytesV oddA) ∧ Blk w1 g 23 cs ∧ Below w.heap.size w w1 from ⟨hQ.out.1.below b1 hQ.out.1.lt, hQ.out.2.1.below b1 hQ.out.2.1.lt, hQ.out.2.2.trans (b1.mono hQ.out.2.2.size)⟩)
  clear b1 H0 hQ
  go_wp2_with fail
  go_loopw [8] (fun i wr => ∃ k : Nat, k ≤ 4 ∧ i = .int .i64 k ∧ Hid (Blk wr q 23 (bytesV oddA) ∧ Blk wr g 23 cs ∧ Below w.heap.size w wr)) (fun i _ => 4 - (intOf i).toNat)
  case atStart => exact ⟨0, by omega, rfl, hQ1⟩
  case round =>
    clear hQ1
    obtain ⟨k, hk, rfl, R⟩ := hrel
    by_cases hlt : k < 4
    · have hz : (k : Int) < 4 := by omega
      have S1 := hidd (show wr.drew.rangeAt g (ls.length * 16 + k * 16) (encA oddA) ∧ Blk wr.drew q 23 (bytesV oddA) from ⟨hcell.out wr.drew k hlt R.out.2.1, R.out.1⟩)
      have hB := hidd (show Blk wr.drew q 23 (bytesV oddA) ∧ Blk wr.drew g 23 cs ∧ Below w.heap.size w wr.drew from ⟨R.out.1, R.out.2.1, R.out.2.2.drew⟩)
      clear R
      go_wp2_with fail
      refine wp_region_held_drew (S := (fun V => V.rangeAt g (ls.length * 16 + k * 16) (encA oddA) ∧ Blk V q 23 (bytesV oddA))) (by kernel_rfl) S1.out (fun hHeld => ?_)
      generalize wr.drew = D at S1 hB hHeld ⊢
      refine wpAnyH_take (i := 0) (v := ?_) rfl (by kernel_rfl) (by kernel_rfl) (by kernel_rfl) (fun _ _ _ h => h) (Or.inl ⟨by kernel_rfl, ?_⟩) hHeld ?_
      rotate_left
      · intro wh hSw
        go_simp
        try with_reducible rfl
      try simp only [Act.put, List.getElem_toArray, List.getElem_cons_zero, List.getElem_cons_succ, List.setIfInBounds_toArray, List.set_cons_zero, List.set_cons_succ]
      refine wpAnyH_take (i := 1) (v := ?_) rfl (by kernel_rfl) (by kernel_rfl) (by kernel_rfl) (fun _ _ _ h => h) (Or.inl ⟨by kernel_rfl, ?_⟩) hHeld ?_
      rotate_left
      · intro wh hSw
        go_simp
        try with_reducible rfl
      try simp only [Act.put, List.getElem_toArray, List.getElem_cons_zero, List.getElem_cons_succ, List.setIfInBounds_toArray, List.set_cons_zero, List.set_cons_succ]
      refine wpAnyH_take (i := 2) (v := ?_) rfl (by kernel_rfl) (by kernel_rfl) (by kernel_rfl) (fun _ _ _ h => h) (Or.inl ⟨by kernel_rfl, ?_⟩) hHeld ?_
      rotate_left
      · intro wh hSw
        go_simp
        try with_reducible rfl
      try simp only [Act.put, List.getElem_toArray, List.getElem_cons_zero, List.getElem_cons_succ, List.setIfInBounds_toArray, List.set_cons_zero, List.set_cons_succ]
      refine wpAnyH_take (i := 3) rfl (by kernel_rfl) (by kernel_rfl) (by kernel_rfl) (fun _ _ _ h => h) (yieldsIf_load_want (by kernel_rfl) 23 _ rfl _ rfl _ (fun wh hSw => ldA hSw.1 odd_is)) hHeld ?_
      try simp only [Act.put, List.getElem_toArray, List.getElem_cons_zero, List.getElem_cons_succ, List.setIfInBounds_toArray, List.set_cons_zero, List.set_cons_succ]
      refine wpAnyH_take (i := 4) rfl (by kernel_rfl) (by kernel_rfl) (by kernel_rfl) (fun _ _ _ h => h) (yieldsIf_load_want (by kernel_rfl) 23 _ rfl _ rfl _ (fun wh hSw => ldB hSw.2 odd_is)) hHeld ?_
      try simp only [Act.put, List.getElem_toArray, List.getElem_cons_zero, List.getElem_cons_succ, List.setIfInBounds_toArray, List.set_cons_zero, List.set_cons_succ]
      refine wpAnyH_take (i := 5) (v := ?_) rfl (by kernel_rfl) (by kernel_rfl) (by kernel_rfl) (fun _ _ _ h => h) (Or.inl ⟨by kernel_rfl, ?_⟩) hHeld ?_
      rotate_left
      · intro wh hSw
        go_simp
        try with_reducible rfl
      try simp only [Act.put, List.getElem_toArray, List.getElem_cons_zero, List.getElem_cons_succ, List.setIfInBounds_toArray, List.set_cons_zero, List.set_cons_succ]
      refine wpAnyH_done (by kernel_rfl) ?_ _
      clear hHeld
      go_wp2
      go_roundw
      case rel => exact ⟨k + 1, by omega, by go_num, hB⟩
      case measure => simp [intOf]; omega
    · obtain rfl : k = 4 := by omega
      go_wp2
      go_ret
      have hb := R.out.2.2
      first | exact ⟨rfl, hb⟩ | (rw [hq] at hb; exact ⟨rfl, hb⟩)
theorem leftA_any (w : World) (h : AsTw w Lo v ls) (h' : AsIn w v' ls) : Calls Tryd.prog 34 #[v, v'] w fun r W' => r = .returned (.bool true) ∧ Below w.heap.size w W' := by
  have H := hidd (And.intro h h')
  clear h h'
  go_enter Tryd.func34, Tryd.ntmps34
  go_wp2_with fail
  refine (odd_any w).mono ?_
  rintro r w1 ⟨rfl, b1⟩
  have B1 := hidd b1
  have H1 := hidd (And.intro (H.out.1.to b1) (H.out.2.to b1))
  clear b1
  go_wp2_with fail
  refine (leftRow_any w1 H1.out.1 H1.out.2).mono ?_
  rintro r w2 ⟨rfl, b2⟩
  have B2 := hidd (B1.out.trans (b2.mono B1.out.size))
  clear b2
  go_wp2
  go_ret
  exact ⟨rfl, B2.out⟩
end
end Go.Proofs.YtlckfnfmekgnkaaDoor
