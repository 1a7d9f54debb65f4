/- 'SumsGood': for every input the law returns true; nothing that was there is written. No condition. -/
import Derived.Test.YtekmkainhehnpaaGoodPlain
import Derived.Deep.RegionHeld3
namespace Go.Proofs.Ytekmkainhehnpaa
open Go.ChangeShapes Go.WideShapes Go.ChangeAt Go.RowKit Go.Deep
set_option linter.unusedVariables false

theorem u16b {a : Int} (h : (Lit.int .u16 a).wf = true) : 0 ≤ a ∧ a ≤ 65535 := by
  have := bounds_u16 h; omega

theorem open_two {H : Type} {enc : TypeId × Value → H} {W : World} {r : Reach} {b0 : Nat} {v : Value} {d : DataW H} {p : List MemPlace} (hv : Value.okWide Try.prog W r b0 41 v) (h : DataW.Trod enc Try.prog W 0 (fun _ => true) true 41 v d p) (hw : Fit Try.prog 41 d) :
    ∃ x y, v = .agg #[.int .u16 x, .int .u16 y] ∧ (0 ≤ x ∧ x ≤ 65535) ∧ (0 ≤ y ∧ y ≤ 65535) := by
  simp only [Value.okWide, Try.underlying41] at hv
  obtain ⟨cs, rfl, hs, _⟩ := hv
  obtain ⟨fuel, hf⟩ := h
  obtain ⟨l, hl, hn, hwf⟩ := array_ints Try.underlying41 Try.underlying25 (by kernel_rfl) (by kernel_rfl) hf
  match l, hn with
  | [x, y], _ =>
    refine ⟨x, y, ?_, u16b (hwf x (by simp)), u16b (hwf y (by simp))⟩
    simp only [Value.cells, List.map_cons, List.map_nil] at hl
    congr 1
    exact Array.toList_inj.1 hl

theorem IsP.of_own {w : World} {base g cap n : Nat} {L : List Int} (h : w.ownsRow base 5 1 (.slice (some ⟨g, 0, none⟩) n cap) n (L.map (Value.int .u8))) (hr : ∀ x ∈ L, 0 ≤ x ∧ x ≤ 255) (hl : L.length ≤ 100000) (hn : L.length = n) : IsP w g cap L := by
  rcases h.2 with ⟨hv, _⟩ | ⟨g', cap', cur, hv, hb, hh, hc, hm, hs, ht⟩
  · cases hv
  · injection hv with h1 h2 h3
    injection h1 with h1
    injection h1 with h1
    subst h1 h3 hn
    exact ⟨⟨cur, hh, by omega, by rwa [Nat.mul_one] at ht⟩, hc, hm, hr, hl⟩

set_option maxRecDepth 100000 in
set_option maxHeartbeats 2000000 in
theorem walkSumsGood (s0 e0 : List Int) (n0 : Int) (a1 : Option Addr) (n1 c1 : Nat) (z1 : List Int) (x2 y2 : Int) (w : World) (w0 : IsEnds s0 e0 n0)
    (r1 : Rd w w.heap.size 1 a1 n1 c1 (z1.map (Value.int .u8))) (y1 : c1 * Try.prog.bytesOf 5 ≤ reachBytes) (w1 : ∀ y ∈ z1, (Lit.int .u8 y).wf = true) (w2 : (0 ≤ x2 ∧ x2 ≤ 65535) ∧ (0 ≤ y2 ∧ y2 ≤ 65535)) :
    Calls Try.prog 7 #[.agg (endsV s0 e0 n0), .slice a1 n1 c1, .agg #[.int .u16 x2, .int .u16 y2]] w fun e w' => e = .returned (.bool true) ∧ Below w.heap.size w w' := by
  clear y1
  have m1 := r1.cmax
  have k1 := r1.cap
  unfold maxLen at m1
  obtain ⟨⟨x0, x1⟩, yy0, yy1⟩ := w2
  by_cases h : n1 ≤ 3000 ∧ 2 ≤ n1
  · obtain ⟨h1, h2⟩ := h
    obtain ⟨x, rfl⟩ : ∃ x : Nat, x2 = (x : Int) := ⟨x2.toNat, by omega⟩
    obtain ⟨y, rfl⟩ : ∃ y : Nat, y2 = (y : Int) := ⟨y2.toNat, by omega⟩
    have e1 : z1.length = n1 := by have := r1.len; simpa using this
    have q0 : By w a1 n1 c1 z1 := ⟨r1, fun x hx => u8b (w1 x hx), by omega⟩
    obtain ⟨W0, hW0⟩ : ∃ W0, W0 = (w.alloc (.cells (endsV s0 e0 n0) 36)).alloc (.cells #[.int .u16 x, .int .u16 y] 41) := ⟨_, rfl⟩
    have E : Blk W0 w.heap.size 36 (endsV s0 e0 n0) := by rw [hW0]; exact (Blk.new w 36 (endsV s0 e0 n0)).alloc _
    have Z : Blk W0 (w.heap.size + 1) 41 #[.int .u16 x, .int .u16 y] := by
      have := Blk.new (w.alloc (.cells (endsV s0 e0 n0) 36)) 41 #[.int .u16 x, .int .u16 y]
      rw [World.size_alloc] at this
      rwa [hW0]
    have hsz : W0.heap.size = w.heap.size + 1 + 1 := by rw [hW0]; simp
    have B0 : Below w.heap.size w W0 := by rw [hW0]; exact ((Below.refl _ w).alloc (Nat.le_refl _) _).alloc (by simp) _
    have q1 : By W0 a1 n1 c1 z1 := by rw [hW0]; exact (q0.alloc _).alloc _
    have z0c : W0.cell? ⟨w.heap.size + 1, 0, none⟩ = some (.int .u16 x) := Z.at_ rfl
    have w0' := hidd w0
    have E' := hidd E
    have Z' := hidd Z
    have B0' := hidd B0
    have q1' := hidd q1
    have q1e := q1
    rw [hW0] at q1e
    have q1e' := hidd q1e
    have e1' := hidd e1
    obtain ⟨hf, hhf⟩ : ∃ hf : Nat, hf = n1 / 2 := ⟨_, rfl⟩
    have g1 : (n1 : Int) / 2 = (hf : Int) := by omega
    have g2 : 0 < hf := by omega
    obtain ⟨r, hr⟩ : ∃ r : Nat, r = x % hf := ⟨_, rfl⟩
    have g3 : (x : Int) % (hf : Int) = (r : Int) := by rw [hr]; exact (Int.natCast_emod _ _).symm
    have g4 : r < hf := by rw [hr]; exact Nat.mod_lt _ g2
    have g5 : r * 2 + 1 < n1 := by omega
    have g6 : ((hf : Int) == 0) = false := by simp; omega
    clear hhf hr w0 E Z B0 q1 q1e q0 r1 w1 e1
    rw [hW0] at z0c
    have hW0' := hidd hW0
    clear hW0
    have i0 : r * 2 < z1.length := by rw [e1'.out]; omega
    have i1 : r * 2 + 1 < z1.length := by rw [e1'.out]; omega
    obtain ⟨u, hu⟩ : ∃ u, z1[r * 2]? = some u := ⟨z1[r * 2]'i0, List.getElem?_eq_getElem _⟩
    obtain ⟨v, hv⟩ : ∃ v, z1[r * 2 + 1]? = some v := ⟨z1[r * 2 + 1]'i1, List.getElem?_eq_getElem _⟩
    have hu' := hidd hu
    have hv' := hidd hv
    have i0' := hidd i0
    have i1' := hidd i1
    clear hu hv i0 i1
    go_enter Try.func7, Try.ntmps7
    go_wp2_with (first
      | (refine wpList_load_want rfl 34 _ rfl _ rfl _ (by first | exact l0 | exact l1) ?_)
      | (at_builtin
         refine wpList_append_rd (v := .slice none 0 0) _ rfl (.const (.slice none 0 0)) (.tmp 28) T22 rfl rfl (World.ownsRow_nil _ (w.heap.size + 1 + 1) _ _) rfl q1e'.out.rd (ints_one _ _) (by unfold maxLen; omega) (by omega) (by simp) ?_
         intro x2 w2 o2 g2 t2 l2
         clear l2 t2
         have b2 := grown_below (World.ownsRow_nil _ (w.heap.size + 1 + 1) 5 1) g2 (by simp)
         rw [← hW0'.out] at b2
         rw [Nat.zero_add] at o2
         obtain ⟨g, cap, rfl, hg1, hg2⟩ := o2.form (by omega)
         have P2 := hidd (IsP.of_own (L := z1) (by simpa using o2) q1'.out.rng (by have := q1'.out.len; omega) e1'.out)
         have E2 := hidd (E'.out.below b2 (by omega))
         have Z2 := hidd (Z'.out.below b2 (by omega))
         have B2 := hidd (B0'.out.trans (b2.mono (by omega)))
         have ca := P2.out.cell hu'.out
         have cb := P2.out.cell hv'.out
         have fa := P2.out.frozen (r * 2)
         have fb := P2.out.frozen (r * 2 + 1)
         have E3 := hidd ((E2.out.far (p := ⟨g, r * 2, none⟩) (by show _ ≠ g; omega) (.int .u8 0)).far (p := ⟨g, r * 2 + 1, none⟩) (by show _ ≠ g; omega) (.int .u8 0))
         have l0 := ends_l0 E3.out w0'.out
         have l1 := ends_l1 E3.out w0'.out
         have l2 := ends_c2 E3.out w0'.out
         clear o2 g2 b2))
    have Z3 := hidd ((Z2.out.far (p := ⟨g, r * 2, none⟩) (by show _ ≠ g; omega) (.int .u8 0)).far (p := ⟨g, r * 2 + 1, none⟩) (by show _ ≠ g; omega) (.int .u8 0))
    have P3 := hidd ((P2.out.set (i := r * 2) (v := 0) i0'.out (by omega) (by omega)).set (i := r * 2 + 1) (v := 0) (by rw [List.length_set]; exact i1'.out) (by omega) (by omega))
    have B3 := hidd ((B2.out.setCell (p := ⟨g, r * 2, none⟩) (by show _ ≤ g; omega) (.int .u8 0)).setCell (p := ⟨g, r * 2 + 1, none⟩) (by show _ ≤ g; omega) (.int .u8 0))
    obtain ⟨L0, hL0⟩ : ∃ L0, L0 = (z1.set (r * 2) 0).set (r * 2 + 1) 0 := ⟨_, rfl⟩
    have hl0 : Hid (L0.length = n1) := by rw [hL0, List.length_set, List.length_set]; exact e1'.out
    have k0 : Hid (L0[r * 2]? = some 0) := by
      have := i0'.out
      rw [hL0, List.getElem?_set_ne (by omega), List.getElem?_set_self i0'.out]; rfl
    have k2 : Hid (L0[r * 2 + 1]? = some 0) := by
      have := i1'.out
      rw [hL0, List.getElem?_set_self (by rw [List.length_set]; exact i1'.out)]; rfl
    rw [← hL0] at P3
    obtain ⟨W3, hW3⟩ : ∃ W3, W3 = (w2.setCell ⟨g, r * 2, none⟩ (.int .u8 0)).setCell ⟨g, r * 2 + 1, none⟩ (.int .u8 0) := ⟨_, rfl⟩
    rw [← hW3] at E3 Z3 P3 B3 ⊢
    clear hW3 hL0 P2 E2 Z2 B2 ca cb fa fb l0 l1 l2 hu' hv' i0' i1' z0c hW0' q1e' q1' E' Z' B0'
    have q3 := hidd P3.out.by_
    rw [hl0.out] at q3
    refine (over_any W3 s0 e0 w0'.out.s w0'.out.d n0 w0'.out.n0 w0'.out.n1 _ _ _ L0 q3.out).mono ?_
    rintro e v4 ⟨rfl, b4⟩
    have P4 := hidd (P3.out.below b4 P3.out.lt)
    have E4 := hidd (E3.out.below b4 E3.out.lt)
    have Z4 := hidd (Z3.out.below b4 Z3.out.lt)
    have B4 := hidd (B3.out.trans (b4.mono B3.out.size))
    obtain ⟨cN0, cN1⟩ := ck_range (headed s0 e0 n0 L0 n1)
    have hput := hidd (ck_put (L := L0) (n := n1) (i := r * 2) w0'.out.s w0'.out.d w0'.out.n0 w0'.out.n1 P3.out.rng (by omega) (by omega) (by omega) (by rw [hl0.out]; omega) (by rw [k0.out]; rfl) (by rw [k2.out]; rfl))
    obtain ⟨N, hN⟩ : ∃ N, N = ck (headed s0 e0 n0 L0 n1) := ⟨_, rfl⟩
    rw [← hN] at hput cN0 cN1 ⊢
    have ca := P4.out.cell k0.out
    have cb := P4.out.cell k2.out
    have fa := P4.out.frozen (r * 2)
    have fb := P4.out.frozen (r * 2 + 1)
    clear hN b4 P3 E3 Z3 B3 q3
    have E5 := hidd ((E4.out.far (p := ⟨g, r * 2, none⟩) (by show _ ≠ g; omega) (.int .u8 (N / 256))).far (p := ⟨g, r * 2 + 1, none⟩) (by show _ ≠ g; omega) (.int .u8 (N % 256)))
    have l0 := ends_l0 E5.out w0'.out
    have l1 := ends_l1 E5.out w0'.out
    have l2 := ends_c2 E5.out w0'.out
    go_wp2_with (refine wpList_load_want rfl 34 _ rfl _ rfl _ (by first | exact l0 | exact l1) ?_)
    have Z5 := hidd ((Z4.out.far (p := ⟨g, r * 2, none⟩) (by show _ ≠ g; omega) (.int .u8 (N / 256))).far (p := ⟨g, r * 2 + 1, none⟩) (by show _ ≠ g; omega) (.int .u8 (N % 256)))
    have P5 := hidd ((P4.out.set (i := r * 2) (v := N / 256) (by rw [hl0.out]; omega) (by omega) (by omega)).set (i := r * 2 + 1) (v := N % 256) (by rw [List.length_set, hl0.out]; omega) (by omega) (by omega))
    have B5 := hidd ((B4.out.setCell (p := ⟨g, r * 2, none⟩) (by show _ ≤ g; omega) (.int .u8 (N / 256))).setCell (p := ⟨g, r * 2 + 1, none⟩) (by show _ ≤ g; omega) (.int .u8 (N % 256)))
    obtain ⟨L1, hL1⟩ : ∃ L1, L1 = (L0.set (r * 2) (N / 256)).set (r * 2 + 1) (N % 256) := ⟨_, rfl⟩
    have hl1 : Hid (L1.length = n1) := by rw [hL1, List.length_set, List.length_set]; exact hl0.out
    rw [← hL1] at P5 hput
    obtain ⟨W5, hW5⟩ : ∃ W5, W5 = (v4.setCell ⟨g, r * 2, none⟩ (.int .u8 (N / 256))).setCell ⟨g, r * 2 + 1, none⟩ (.int .u8 (N % 256)) := ⟨_, rfl⟩
    rw [← hW5] at E5 Z5 P5 B5 ⊢
    clear hW5 hL1 P4 E4 Z4 B4 ca cb fa fb l0 l1 l2 k0 k2 hl0
    have q5 := hidd P5.out.by_
    rw [hl1.out] at q5
    refine (good_any W5 s0 e0 w0'.out.s w0'.out.d n0 w0'.out.n0 w0'.out.n1 _ _ _ L1 q5.out).mono ?_
    rintro e v6 ⟨rfl, b6⟩
    rw [hput.out]
    have P6 := hidd (P5.out.below b6 P5.out.lt)
    have E6 := hidd (E5.out.below b6 E5.out.lt)
    have Z6 := hidd (Z5.out.below b6 Z5.out.lt)
    have B6 := hidd (B5.out.trans (b6.mono B5.out.size))
    clear b6 P5 E5 Z5 B5 q5
    have z1c : v6.cell? ⟨w.heap.size + 1, 1, none⟩ = some (.int .u16 y) := Z6.out.at_ rfl
    obtain ⟨t, ht⟩ : ∃ t : Nat, t = y % (8 * n1) := ⟨_, rfl⟩
    have g7 : (y : Int) % (8 * (n1 : Int)) = (t : Int) := by rw [ht, show (8 * (n1 : Int)) = ((8 * n1 : Nat) : Int) by omega]; exact (Int.natCast_emod _ _).symm
    have g8 : t < 8 * n1 := by rw [ht]; exact Nat.mod_lt _ (by omega)
    obtain ⟨j, hj⟩ : ∃ j : Nat, j = t / 8 := ⟨_, rfl⟩
    obtain ⟨kb, hkb⟩ : ∃ kb : Nat, kb = t % 8 := ⟨_, rfl⟩
    have g9 : (t : Int) / 8 = (j : Int) := by omega
    have g10 : (t : Int) % 8 = (kb : Int) := by omega
    have g11 : j < n1 := by omega
    have g12 : kb < 8 := by omega
    obtain ⟨mm, hmm⟩ : ∃ mm, L1[j]? = some mm := ⟨L1[j]'(by rw [hl1.out]; exact g11), List.getElem?_eq_getElem _⟩
    have cj := P6.out.cell hmm
    have fj := P6.out.frozen j
    obtain ⟨mm0, mm1⟩ := P6.out.rng mm (List.mem_of_getElem? hmm)
    have hmm' := hidd hmm
    clear ht hj hkb hmm
    go_wp2_with fail
    go_region
    have hk : ∀ k : Nat, k < 8 → (2 : Int) ^ k % 256 = ((2 ^ k : Nat) : Int) := by decide
    have hk2 : ∀ k : Nat, k < 8 → 2 ^ k < 256 := by decide
    obtain ⟨val, hval⟩ : ∃ val : Nat, val = mm.toNat ^^^ 2 ^ kb := ⟨_, rfl⟩
    have hb : bits .xor .u8 mm (2 ^ kb % 256) = (val : Int) := by
      rw [hk kb g12, u8_xor mm _ mm0 (by omega) (Int.natCast_nonneg _) (Int.ofNat_lt.2 (hk2 kb g12)), hval]
      rfl
    obtain ⟨x1', x2', x3', x4'⟩ := xor_bit kb g12 mm.toNat (by omega)
    rw [← hval] at x1' x2' x3' x4'
    rw [hb]
    clear hval hb
    have hmi : L1[j]?.getD 0 = mm := by rw [hmm'.out]; rfl
    have P7 := hidd (P6.out.set (i := j) (v := (val : Int)) (by rw [hl1.out]; exact g11) (by omega) (by omega)).drew
    have hck := ck_bit (L := L1) (n := n1) (i := j) (v := (val : Int)) w0'.out.s w0'.out.d w0'.out.n0 w0'.out.n1 P6.out.rng (by omega) (by omega) (by rw [hl1.out]; exact g11) hput.out (by omega) (by omega) (by rw [hmi]; omega) (by rw [hmi]; omega) (by rw [hmi]; omega)
    have hl2 : Hid ((L1.set j (val : Int)).length = n1) := by rw [List.length_set]; exact hl1.out
    have E7 := hidd (E6.out.far (p := ⟨g, j, none⟩) (by show _ ≠ g; omega) (.int .u8 (val : Int)))
    have B7 := hidd ((B6.out.setCell (p := ⟨g, j, none⟩) (by show _ ≤ g; omega) (.int .u8 (val : Int))).drew)
    obtain ⟨L2, hL2⟩ : ∃ L2, L2 = L1.set j (val : Int) := ⟨_, rfl⟩
    rw [← hL2] at P7 hck hl2
    have hck2 : Hid ((ck (headed s0 e0 n0 L2 n1) == 0) = false) := by rw [beq_eq_false_iff_ne]; exact hck
    clear hL2 hck hput P6 E6 Z6 B6 hmm' hl1 cj fj z1c x1' x2' x3' x4'
    obtain ⟨W7, hW7⟩ : ∃ W7, W7 = v6.setCell ⟨g, j, none⟩ (.int .u8 (val : Int)) := ⟨_, rfl⟩
    rw [← hW7] at E7 B7 P7 ⊢
    clear hW7
    have E8 : Blk W7.drew w.heap.size 36 (endsV s0 e0 n0) := E7.out
    have q7 := hidd P7.out.by_
    rw [hl2.out] at q7
    have E8' := hidd E8
    have l0 := ends_l0 E8 w0'.out
    have l1 := ends_l1 E8 w0'.out
    have l2 := ends_c2 E8 w0'.out
    clear E8 E7
    go_wp2_with (refine wpList_load_want rfl 34 _ rfl _ rfl _ (by first | exact l0 | exact l1) ?_)
    refine (good_any W7.drew s0 e0 w0'.out.s w0'.out.d n0 w0'.out.n0 w0'.out.n1 _ _ _ L2 q7.out).mono ?_
    rintro e v8 ⟨rfl, b8⟩
    rw [hck2.out]
    have B8 := hidd (B7.out.trans (b8.mono B7.out.size))
    clear b8 l0 l1 l2
    go_wp2_with fail
    refine (lives_any _).mono ?_
    rintro e v9 ⟨rfl, b9⟩
    go_wp2
    go_ret
    exact ⟨rfl, B8.out.trans (b9.mono B8.out.size)⟩
  · have B0 : Below w.heap.size w ((w.alloc (.cells (endsV s0 e0 n0) 36)).alloc (.cells #[.int .u16 x2, .int .u16 y2] 41)) := ((Below.refl _ w).alloc (Nat.le_refl _) _).alloc (by simp) _
    clear r1 w0 w1
    by_cases h5 : 3000 < n1
    · go_enter Try.func7, Try.ntmps7
      go_wp2_with (go_at_call 8; refine (lives_any _).mono ?_; rintro e w' ⟨rfl, hbel⟩)
      all_goals go_ret
      all_goals exact ⟨rfl, below_alloc2 hbel⟩
    · have h6 : n1 < 2 := by omega
      go_enter Try.func7, Try.ntmps7
      go_wp2_with (go_at_call 8; refine (lives_any _).mono ?_; rintro e w' ⟨rfl, hbel⟩)
      all_goals go_ret
      all_goals exact ⟨rfl, below_alloc2 hbel⟩

set_option maxRecDepth 100000 in
theorem liftedSumsGood (os : Os) (started : os.Started) (H : Type) (enc : TypeId × Value → H) :
    ReturnsInHanded {} Try.checked os 7 .any (Rows.sumsGoodSpec.pre6 enc Try.prog Try.f7 Rows.sumsGoodRow.domain false) (Rows.sumsGoodSpec.post enc Try.prog Try.f7 false true false false) := by
  refine returnsInHanded_of_change_sized (C := Try.checked) own started (by kernel_rfl) Try.func7
    (ChangeSpec.witness6 (enc := enc) (C := Try.checked) false ⟨#[], #[.agg (Array.replicate 33 (.int .u8 0)), .slice none 0 0, .agg #[.int .u16 0, .int .u16 0]], []⟩ 8 (by kernel_rfl) (by kernel_rfl) (by kernel_rfl) (by kernel_rfl)) ?_
  intro W base args ds gs before hval0 hW hcnd hsz0 _
  have hval : ∀ (j : Nat) t v, Try.f7.params[j]? = some t → args[j]? = some v → Value.okWide Try.prog W .any base t v := hval0
  have hW' := hW
  obtain ⟨p, q, hA0, hV, rfl, hfz, hnd⟩ := hW
  have hA : DataW.TrodAll enc Try.prog W 0 (fun _ => true) true Try.f7.params.toList args.toList ds p := hA0
  have hsz : (DataW.weightsEach Try.prog (Try.f7.params.toList ++ Rows.sumsGoodSpec.plain.varTypes Try.prog) (ds ++ gs)).all (· ≤ reachBytes) = true := hsz0
  rw [Try.params7] at hA hval hsz
  obtain ⟨v0, vs0, d0, ds0, p0, q0, hargs, rfl, rfl, h0, r0⟩ := trodAll_cons hA
  obtain ⟨v1, vs1, d1, ds1, p1, q1, rfl, rfl, rfl, h1, r1⟩ := trodAll_cons r0
  obtain ⟨v2, vs2, d2, ds2, p2, q2, rfl, rfl, rfl, h2, r2⟩ := trodAll_cons r1
  obtain ⟨rfl, rfl, rfl⟩ := trodAll_nil r2
  obtain rfl : args = #[v0, v1, v2] := by cases args; simp_all
  obtain ⟨rfl, rfl⟩ := trodVars_none hV
  have k0 := h0
  have lt0 : ∀ x ∈ p0, x.block < W.heap.size := by obtain ⟨m, hm⟩ := k0; exact DataW.trod_lt m _ _ _ hm
  have fit0 : Fit Try.prog 36 d0 := fun m hm => by simpa using List.all_eq_true.1 hsz _ (DataW.weights_mem_each (j := 0) (t := 36) rfl rfl m hm)
  obtain ⟨s0, e0, n0, ev0, w0⟩ := open_ends (hval 0 36 v0 rfl rfl) h0 fit0
  subst ev0
  have k1 := h1
  have lt1 : ∀ x ∈ p1, x.block < W.heap.size := by obtain ⟨m, hm⟩ := k1; exact DataW.trod_lt m _ _ _ hm
  have fit1 : Fit Try.prog 22 d1 := fun m hm => by simpa using List.all_eq_true.1 hsz _ (DataW.weights_mem_each (j := 1) (t := 22) rfl rfl m hm)
  obtain ⟨a1, n1, c1, rfl⟩ := okWide_slice Try.underlying22 (hval 1 22 v1 rfl rfl)
  obtain ⟨fuel1, hf1⟩ := h1
  obtain ⟨a1', n1', c1', z1, ev1, r1', y1, w1⟩ := ints_rd Try.underlying22 Try.underlying5 (by kernel_rfl) hf1 fit1
  simp only [Value.cells, List.cons.injEq, and_true, Value.slice.injEq] at ev1
  obtain ⟨rfl, rfl, rfl⟩ := ev1
  have k2 := h2
  have lt2 : ∀ x ∈ p2, x.block < W.heap.size := by obtain ⟨m, hm⟩ := k2; exact DataW.trod_lt m _ _ _ hm
  have fit2 : Fit Try.prog 41 d2 := fun m hm => by simpa using List.all_eq_true.1 hsz _ (DataW.weights_mem_each (j := 2) (t := 41) rfl rfl m hm)
  obtain ⟨x2, y2, ev2, w2⟩ := open_two (hval 2 41 v2 rfl rfl) h2 fit2
  subst ev2
  clear hA0 hval0
  refine (walkSumsGood s0 e0 n0 a1 n1 c1 z1 x2 y2 W w0 r1' y1 w1 w2).mono fun e W' ⟨he, bel⟩ => ?_
  subst he
  exact ⟨_, rfl, _, _, _, [], _, [], hW', trodAll_mk1 (shut_bool Try.underlying4 _), (trodAll_cons_mk (Below.trod laidOut (by kernel_rfl) (of_decide_eq_true (by kernel_rfl)) k0 bel lt0) (trodAll_cons_mk (Below.trod laidOut (by kernel_rfl) (of_decide_eq_true (by kernel_rfl)) k1 bel lt1) (trodAll_cons_mk (Below.trod laidOut (by kernel_rfl) (of_decide_eq_true (by kernel_rfl)) k2 bel lt2) trodAll_mk0))), rfl, bel.frame _, fun h => by cases h⟩

/-- THE STATEMENT: 'SumsGood'. -/
theorem sumsGood_holds : Rows.SumsGoodSaid :=
  OpenClaim.holds_of_wide 7 Try.f7 rfl rfl rfl rfl rfl rfl rfl ⟨rfl, rfl, rfl, rfl, rfl⟩ rfl rfl rfl rfl rfl (by kernel_rfl) Try.func7 (by kernel_rfl)
    (of_decide_eq_true (by kernel_rfl)) (by unfold Func.isWrapper; first | (rw [if_pos (by decide +kernel)]; kernel_rfl) | (rw [if_neg (by decide +kernel)]; exact ⟨rfl, rfl⟩))
    (fun os started H enc _ => liftedSumsGood os started H enc)

end Go.Proofs.Ytekmkainhehnpaa
