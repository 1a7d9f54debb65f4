/- The order of routers, in plain words; the library's stable sort gives it, for a few of them: each function walked once. No condition but that. -/
import Derived.Test.YtnchjbgfmkmbaaaKeep
import Derived.Deep.RegionHeld3
namespace Go.Proofs.Ytnchjbgfmkmbaaa
open Go.ChangeShapes Go.WideShapes Go.ChangeAt Go.RowKit Go.Deep
set_option linter.unusedVariables false
set_option linter.unusedSimpArgs false

/-- Those of one rank, as they came. -/
def ofR (r : Int) (es : List E) : List E := es.filter fun e => e.2.1 == r
/-- Those of greater rank first, as they came else. -/
def ord (es : List E) : List E := ofR 1 es ++ (ofR 0 es ++ ofR (-1) es)
theorem rk3 {e : E} (h : IsE e) : e.2.1 = 1 ∨ e.2.1 = 0 ∨ e.2.1 = -1 := by have := h.rlo; have := h.rhi; omega
theorem ofR_mem {r : Int} {es : List E} {e : E} : e ∈ ofR r es ↔ e ∈ es ∧ e.2.1 = r := by simp [ofR]
theorem ord_mem {es : List E} (ho : ∀ e ∈ es, IsE e) {e : E} : e ∈ ord es ↔ e ∈ es := by
  simp only [ord, List.mem_append, ofR_mem]
  constructor
  · rintro (h | h | h) <;> exact h.1
  · intro h
    rcases rk3 (ho e h) with h1 | h1 | h1
    · exact .inl ⟨h, h1⟩
    · exact .inr (.inl ⟨h, h1⟩)
    · exact .inr (.inr ⟨h, h1⟩)
theorem ord_len {es : List E} (ho : ∀ e ∈ es, IsE e) : (ord es).length = es.length := by
  induction es with
  | nil => rfl
  | cons e es ih =>
    have := ih fun x hx => ho x (by simp [hx])
    simp only [ord, List.length_append, ofR, List.filter_cons] at this ⊢
    rcases rk3 (ho e (by simp)) with h1 | h1 | h1 <;> simp [h1] <;> omega
theorem ord_sorted (es : List E) : (ord es).Pairwise fun a b => b.2.1 ≤ a.2.1 := by
  have one : ∀ r, (ofR r es).Pairwise fun a b => b.2.1 ≤ a.2.1 := fun r => List.pairwise_of_forall_mem_list fun a ha b hb => by
    rw [(ofR_mem.1 ha).2, (ofR_mem.1 hb).2]; exact Int.le_refl _
  rw [ord, List.pairwise_append, List.pairwise_append]
  refine ⟨one 1, ⟨one 0, one (-1), fun a ha b hb => ?_⟩, fun a ha b hb => ?_⟩
  · rw [(ofR_mem.1 ha).2, (ofR_mem.1 hb).2]; decide
  · rw [(ofR_mem.1 ha).2]
    rcases List.mem_append.1 hb with hb | hb <;> rw [(ofR_mem.1 hb).2] <;> decide
theorem filter_split {α : Type} {p : α → Bool} {A B : List α} (ha : ∀ x ∈ A, p x = true) (hb : ∀ x ∈ B, p x = false) : (A ++ B).filter p = A ∧ (A ++ B).filter (fun x => !p x) = B := by
  constructor
  · rw [List.filter_append, List.filter_eq_self.2 ha, List.filter_eq_nil_iff.2 (fun x hx => by rw [hb x hx]; simp), List.append_nil]
  · rw [List.filter_append, List.filter_eq_nil_iff.2 (fun x hx => by rw [ha x hx]; simp), List.filter_eq_self.2 (fun x hx => by rw [hb x hx]; rfl), List.nil_append]
/-- One more, put where it belongs. -/
theorem ord_ins {es : List E} {x : E} (hx : IsE x) {j : Nat} (h1 : ∀ y ∈ (ord es).take j, x.2.1 ≤ y.2.1) (h2 : ∀ y ∈ (ord es).drop j, y.2.1 < x.2.1) :
    (ord es).take j ++ x :: (ord es).drop j = ord (es ++ [x]) := by
  have hs := filter_split (p := fun y : E => decide (x.2.1 ≤ y.2.1)) (A := (ord es).take j) (B := (ord es).drop j) (fun y hy => by simpa using h1 y hy) (fun y hy => by have := h2 y hy; simp; omega)
  rw [List.take_append_drop] at hs
  rw [← hs.1, ← hs.2]
  have f : ∀ r s : Int, (ofR r es).filter (fun y => decide (s ≤ y.2.1)) = if s ≤ r then ofR r es else [] := fun r s => by
    split
    · rename_i h
      exact List.filter_eq_self.2 (fun y hy => by rw [(ofR_mem.1 hy).2]; simpa using h)
    · rename_i h
      exact List.filter_eq_nil_iff.2 (fun y hy => by rw [(ofR_mem.1 hy).2]; simpa using h)
  have f' : ∀ r s : Int, (ofR r es).filter (fun y => !decide (s ≤ y.2.1)) = if s ≤ r then [] else ofR r es := fun r s => by
    split
    · rename_i h
      exact List.filter_eq_nil_iff.2 (fun y hy => by rw [(ofR_mem.1 hy).2]; simpa using h)
    · rename_i h
      exact List.filter_eq_self.2 (fun y hy => by rw [(ofR_mem.1 hy).2]; simpa using h)
  have g : ∀ r : Int, ofR r (es ++ [x]) = ofR r es ++ if x.2.1 = r then [x] else [] := fun r => by
    rw [ofR, List.filter_append]
    by_cases h : x.2.1 = r <;> simp [ofR, h]
  simp only [ord, List.filter_append, f, f', g]
  rcases rk3 hx with h | h | h <;> rw [h] <;> simp
/-- How two numbers compare. -/
def cmpI (x y : Int) : Int := if x < y then -1 else if y < x then 1 else 0
theorem compare_any (x y : Int) (w : World) : Calls Try.prog 37 #[.int .i64 x, .int .i64 y] w fun e w' => e = .returned (.int .i64 (cmpI x y)) ∧ w = w' := by
  have hN : ∀ (n : Int) (w : World), Calls Try.prog 39 #[.int .i64 n] w fun e w' => e = .returned (.bool false) ∧ w = w' := fun n w => by
    go_enter Try.func39, Try.ntmps39
    go_wp2
    go_ret
    exact ⟨rfl, rfl⟩
  have hN' := hidd hN
  clear hN
  by_cases h1 : x < y
  · go_enter Try.func37, Try.ntmps37
    go_wp2_with (go_at_call 39; refine Calls.mono (hN'.out _ _) ?_; rintro e w2 ⟨rfl, rfl⟩)
    go_ret
    exact ⟨ret_int (by rw [cmpI, if_pos h1]), rfl⟩
  · by_cases h2 : y < x
    · go_enter Try.func37, Try.ntmps37
      go_wp2_with (go_at_call 39; refine Calls.mono (hN'.out _ _) ?_; rintro e w2 ⟨rfl, rfl⟩)
      go_ret
      exact ⟨ret_int (by rw [cmpI, if_neg (by omega), if_pos h2]), rfl⟩
    · go_enter Try.func37, Try.ntmps37
      go_wp2_with (go_at_call 39; refine Calls.mono (hN'.out _ _) ?_; rintro e w2 ⟨rfl, rfl⟩)
      go_ret
      exact ⟨ret_int (by rw [cmpI, if_neg (by omega), if_neg (by omega)]), rfl⟩
theorem rankM_any (w : World) (e : E) (he : IsE e) : Calls Try.prog 31 #[.agg (encV e)] w fun r w' => r = .returned (.int .i64 e.2.1) ∧ Below w.heap.size w w' := by
  have b1 := Blk.new w 48 (encV e)
  have c1 := b1.at_ (rank_encV he)
  clear b1
  go_enter Try.func31, Try.ntmps31
  go_wp2
  go_ret
  exact ⟨rfl, (Below.refl _ w).alloc (Nat.le_refl _) _⟩

set_option maxRecDepth 100000 in
/-- What the sort asks: less than 0 where the first one is of greater rank. -/
theorem cmp_any (w : World) (F : Nat) (hF : w.cell? ⟨F, 0, none⟩ = some (.func (.func 31) #[] #[])) (a b : E) (ha0 : IsE a) (hb0 : IsE b) :
    Calls Try.prog 36 #[.agg (encV a), .agg (encV b), .pointer (some ⟨F, 0, none⟩)] w fun e w' => e = .returned (.int .i64 (cmpI b.2.1 a.2.1)) ∧ Below w.heap.size w w' := by
  obtain ⟨s, Ss⟩ : ∃ s, w.heap.size = s := ⟨_, rfl⟩
  have hFs : F < s := by have := World.block_lt_of_cell? w _ hF; rw [← Ss]; exact this
  have ha := hidd ha0
  have hb := hidd hb0
  have bel1 : Below s w ((w.alloc (.cells (encV a) 48)).alloc (.cells (encV b) 48)) := by rw [← Ss]; exact ((Below.refl _ w).alloc (Nat.le_refl _) _).alloc (by simp) _
  have bel0 := hidd bel1.drew
  have Ba : Blk ((w.alloc (.cells (encV a) 48)).alloc (.cells (encV b) 48)) s 48 (encV a) := by rw [← Ss]; exact (Blk.new w 48 (encV a)).alloc _
  have Bb : Blk ((w.alloc (.cells (encV a) 48)).alloc (.cells (encV b) 48)) (s + 1) 48 (encV b) := by
    have := Blk.new (w.alloc (.cells (encV a) 48)) 48 (encV b)
    simpa [Ss] using this
  have S1 : Hid (((w.alloc (.cells (encV a) 48)).alloc (.cells (encV b) 48)).drew.cell? ⟨F, 0, none⟩ = some (.func (.func 31) #[] #[]) ∧ Blk ((w.alloc (.cells (encV a) 48)).alloc (.cells (encV b) 48)).drew s 48 (encV a) ∧ Blk ((w.alloc (.cells (encV a) 48)).alloc (.cells (encV b) 48)).drew (s + 1) 48 (encV b)) :=
    ⟨(bel1.cell (p := ⟨F, 0, none⟩) hFs).trans hF, Ba, Bb⟩
  have keep0 : ∀ (U V : World), Below U.heap.size U V → (U.cell? ⟨F, 0, none⟩ = some (.func (.func 31) #[] #[]) ∧ Blk U s 48 (encV a) ∧ Blk U (s + 1) 48 (encV b)) → (V.cell? ⟨F, 0, none⟩ = some (.func (.func 31) #[] #[]) ∧ Blk V s 48 (encV a) ∧ Blk V (s + 1) 48 (encV b)) := fun U V hUV h =>
    ⟨(hUV.cell (p := ⟨F, 0, none⟩) (World.block_lt_of_cell? U _ h.1)).trans h.1, h.2.1.below hUV h.2.1.lt, h.2.2.below hUV h.2.2.lt⟩
  have keep := fun V h => keep0 _ V h S1.out
  have keep2 := fun V h V' h' => keep0 V V' h' (keep V h)
  rw [Ss]
  clear ha0 hb0 hF bel1 Ba Bb keep0
  go_enter Try.func36, Try.ntmps36
  go_wp2
  refine wp_region_held_drew (S := (fun V => V.cell? ⟨F, 0, none⟩ = some (.func (.func 31) #[] #[]) ∧ Blk V s 48 (encV a) ∧ Blk V (s + 1) 48 (encV b))) (by kernel_rfl) S1.out (fun hHeld => ?_)
  refine wpAnyH_take (i := 0) (v := ?_) rfl (by kernel_rfl) (by kernel_rfl) (by kernel_rfl) (fun _ _ _ h => h) (Or.inl ⟨by kernel_rfl, ?_⟩) hHeld ?_
  rotate_left
  · intro wh hSw
    have hcell := hSw.1
    go_simp
    try with_reducible rfl
  try simp only [Act.put, List.getElem_toArray, List.getElem_cons_zero, List.getElem_cons_succ, List.setIfInBounds_toArray, List.set_cons_zero, List.set_cons_succ]
  refine wpAnyH_take (i := 1) rfl (by kernel_rfl) (by kernel_rfl) (by kernel_rfl) (fun _ _ _ h => h) (yieldsIf_load_want (by kernel_rfl) 48 _ rfl _ rfl _ (fun wh hSw => loadB hb.out hSw.2.2)) hHeld ?_
  try simp only [Act.put, List.getElem_toArray, List.getElem_cons_zero, List.getElem_cons_succ, List.setIfInBounds_toArray, List.set_cons_zero, List.set_cons_succ]
  refine wpAnyH_take (i := 3) (v := ?_) rfl (by kernel_rfl) (by kernel_rfl) (by kernel_rfl) (fun _ _ _ h => h) (Or.inl ⟨by kernel_rfl, ?_⟩) hHeld ?_
  rotate_left
  · intro wh hSw
    have hcell := hSw.1
    go_simp
    try with_reducible rfl
  try simp only [Act.put, List.getElem_toArray, List.getElem_cons_zero, List.getElem_cons_succ, List.setIfInBounds_toArray, List.set_cons_zero, List.set_cons_succ]
  refine wpAnyH_take (i := 4) rfl (by kernel_rfl) (by kernel_rfl) (by kernel_rfl) (fun _ _ _ h => h) (yieldsIf_load_want (by kernel_rfl) 48 _ rfl _ rfl _ (fun wh hSw => loadB ha.out hSw.2.1)) hHeld ?_
  try simp only [Act.put, List.getElem_toArray, List.getElem_cons_zero, List.getElem_cons_succ, List.setIfInBounds_toArray, List.set_cons_zero, List.set_cons_succ]
  refine wpAnyH_ready (rs := [2]) (by kernel_rfl) (by simp) (AllReadyH.cons rfl (fun K hK => ?_) AllReadyH.nil)
  clear hHeld
  go_simp
  with_reducible refine Calls.mono (rankM_any _ b hb.out) ?_
  rintro e V2 ⟨rfl, b2⟩
  dsimp only
  have S2 := hidd (keep V2 b2)
  have B2 := hidd (bel0.out.trans (b2.mono (by have := bel0.out.size; rw [Ss] at this; exact this)))
  refine hK.out _ _ S2.out (fun hHeld => ?_)
  clear hK K
  try simp only [Act.put, List.getElem_toArray, List.getElem_cons_zero, List.getElem_cons_succ, List.setIfInBounds_toArray, List.set_cons_zero, List.set_cons_succ]
  refine wpAnyH_ready (rs := [5]) (by kernel_rfl) (by simp) (AllReadyH.cons rfl (fun K hK => ?_) AllReadyH.nil)
  clear hHeld
  go_simp
  with_reducible refine Calls.mono (rankM_any _ a ha.out) ?_
  rintro e V3 ⟨rfl, b3⟩
  dsimp only
  have S3 := hidd (keep2 V2 b2 V3 b3)
  have B3 := hidd (B2.out.trans (b3.mono (by have := B2.out.size; rw [Ss] at this; exact this)))
  refine hK.out _ _ S3.out (fun hHeld => ?_)
  clear hK K
  try simp only [Act.put, List.getElem_toArray, List.getElem_cons_zero, List.getElem_cons_succ, List.setIfInBounds_toArray, List.set_cons_zero, List.set_cons_succ]
  refine wpAnyH_ready (rs := [6]) (by kernel_rfl) (by simp) (AllReadyH.cons rfl (fun K hK => ?_) AllReadyH.nil)
  clear hHeld
  go_simp
  with_reducible refine Calls.mono (compare_any _ _ _) ?_
  rintro e V4 ⟨rfl, rfl⟩
  dsimp only
  refine hK.out _ _ S3.out (fun hHeld => ?_)
  clear hK K
  try simp only [Act.put, List.getElem_toArray, List.getElem_cons_zero, List.getElem_cons_succ, List.setIfInBounds_toArray, List.set_cons_zero, List.set_cons_succ]
  refine wpAnyH_ready (rs := [7]) (by kernel_rfl) (by simp) (AllReadyH.cons rfl (fun K hK => ?_) AllReadyH.nil)
  clear hHeld
  go_simp
  refine hK.out _ _ S3.out (fun hHeld => ?_)
  clear hK K
  try simp only [Act.put, List.getElem_toArray, List.getElem_cons_zero, List.getElem_cons_succ, List.setIfInBounds_toArray, List.set_cons_zero, List.set_cons_succ]
  refine wpAnyH_done (by kernel_rfl) ?_ _
  clear hHeld
  go_wp2
  go_ret
  exact ⟨rfl, B3.out⟩

/-- The row while it is sorted. -/
structure Rw (W : World) (base g n c : Nat) (F : Nat) (ds : List E) : Prop where
  own : W.ownsRow base 48 18 (.slice (some ⟨g, 0, none⟩) n c) n (flat ds)
  len : ds.length = n
  ok : ∀ e ∈ ds, IsE e
  fn : W.cell? ⟨F, 0, none⟩ = some (.func (.func 31) #[] #[])
  apart : F ≠ g
section
variable {w W V : World} {base g n c F : Nat} {ds : List E}
theorem Rw.to (h : Rw W base g n c F ds) (hb : Below W.heap.size W V) : Rw V base g n c F ds :=
  ⟨ownRow_fr h.own (Fr.of_below hb (fun _ => False)) (fun _ _ e => e), h.len, h.ok, (hb.cell (p := ⟨F, 0, none⟩) (World.block_lt_of_cell? W _ h.fn)).trans h.fn, h.apart⟩
theorem own_set (h : Rw W base g n c F ds) {j : Nat} {e : E} (hj : j < ds.length) (he : IsE e) : Rw (W.setCells g (j * 18) (enc e)) base g n c F (ds.set j e) :=
  ⟨own_store h.own isEnc h.ok he hj, by rw [List.length_set]; exact h.len, fun x hx => by
    rcases List.mem_or_eq_of_mem_set hx with hx | rfl
    · exact h.ok x hx
    · exact he, ((fr_cells W g (enc e) (j * 18)).cell (p := ⟨F, 0, none⟩) (World.block_lt_of_cell? W _ h.fn) h.apart).trans h.fn, h.apart⟩
theorem Rw.load (h : Rw W base g n c F ds) {j : Nat} {e : E} (he : ds[j]? = some e) : (loadVar 48 ⟨g, j * 18, none⟩).run Try.prog W = .ok (.agg (encV e)) W :=
  loadE (h.ok e (List.mem_of_getElem? he)) (own_range h.own isEnc h.len h.ok he)
end
/-- Two neighbors change places. -/
theorem swap_list {A B : List E} {x y : E} {m : Nat} (hm : A.length = m) : ((A ++ y :: x :: B).set (m + 1) y).set m x = A ++ x :: y :: B := by
  subst hm
  rw [List.set_append_right _ _ (by omega), show A.length + 1 - A.length = 1 by omega, List.set_append_right _ _ (Nat.le_refl _), Nat.sub_self]
  rfl

set_option maxRecDepth 100000 in
set_option maxHeartbeats 4000000 in
theorem insertion_any (w : World) (base g n c F : Nat) (es : List E) (h : Rw w base g n c F es) :
    Calls Try.prog 40 #[.slice (some ⟨g, 0, none⟩) n c, .int .i64 0, .int .i64 n, .func (.func 36) #[] #[.pointer (some ⟨F, 0, none⟩)]] w fun e w' => (∃ r, e = .returned r) ∧ Rw w' base g n c F (ord es) ∧ Fr (· = g) w w' := by
  have hl := h.len
  have ho := hidd h.ok
  have h' := hidd h
  obtain ⟨hcn, hcm⟩ := own_cap h.own
  unfold maxLen at hcm
  clear h
  go_enter Try.func40, Try.ntmps40
  go_wp2
  go_loopw [8] (fun i wr => ∃ k : Nat, 1 ≤ k ∧ (k ≤ n ∨ n = 0) ∧ i = .int .i64 k ∧ Rw wr base g n c F (ord (es.take k) ++ es.drop k) ∧ Fr (· = g) w wr) (fun i _ => n + 1 - (intOf i).toNat)
  case atStart =>
    refine ⟨1, Nat.le_refl _, by omega, rfl, ?_, Fr.refl _ _⟩
    have : ord (es.take 1) ++ es.drop 1 = es := by
      cases es with
      | nil => rfl
      | cons e es =>
        have he := ho.out e (by simp)
        rcases rk3 he with h1 | h1 | h1 <;> simp [ord, ofR, h1]
    rw [this]
    exact h'.out
  case round =>
    obtain ⟨k, hk1, hk2, rfl, hR, hF⟩ := hrel
    have R := hidd hR
    have Fo := hidd hF
    clear hR hF h'
    by_cases hkn : k < n
    · obtain ⟨x, hx0⟩ : ∃ x, es[k]? = some x := ⟨_, List.getElem?_eq_getElem (by omega)⟩
      have hx := hidd (ho.out x (List.mem_of_getElem? hx0))
      obtain ⟨L, hL⟩ : ∃ L, ord (es.take k) = L := ⟨_, rfl⟩
      have hLl : L.length = k := by rw [← hL, ord_len (fun e he => ho.out e (List.mem_of_mem_take he)), List.length_take]; omega
      have hdr : es.drop k = x :: es.drop (k + 1) := by
        obtain ⟨hlt, rfl⟩ := List.getElem?_eq_some_iff.1 hx0
        exact List.drop_eq_getElem_cons hlt
      have htk : es.take (k + 1) = es.take k ++ [x] := by rw [List.take_add_one, hx0]; rfl
      have hfin := hidd (fun (j : Nat) (h1 : ∀ y ∈ L.take j, x.2.1 ≤ y.2.1) (h2 : ∀ y ∈ L.drop j, y.2.1 < x.2.1) => (show L.take j ++ x :: L.drop j = ord (es.take (k + 1)) from by
        rw [htk, ← hL]; exact ord_ins hx.out (by rw [hL]; exact h1) (by rw [hL]; exact h2)))
      have hso := hidd (show L.Pairwise (fun a b => b.2.1 ≤ a.2.1) from by rw [← hL]; exact ord_sorted _)
      rw [hL, hdr] at R
      have R1 := hidd (show Rw wr base g n c F (L.take k ++ x :: L.drop k ++ es.drop (k + 1)) from by
        rw [List.take_of_length_le (by omega), List.drop_of_length_le (by omega)]
        simpa using R.out)
      have hst := hidd (show ∀ y ∈ L.drop k, y.2.1 < x.2.1 from by rw [List.drop_of_length_le (by omega)]; intro y hy; simp at hy)
      clear hx0 hL hdr htk R
      go_wp2
      obtain ⟨wo, rfl⟩ : ∃ wo : World, wo = wr := ⟨_, rfl⟩
      go_loopw [9] (fun i wr => ∃ j : Nat, j ≤ k ∧ i = .int .i64 j ∧ Rw wr base g n c F (L.take j ++ x :: L.drop j ++ es.drop (k + 1)) ∧ (∀ y ∈ L.drop j, y.2.1 < x.2.1) ∧ Fr (· = g) w wr) (fun i _ => (intOf i).toNat)
      case atStart => exact ⟨k, Nat.le_refl _, rfl, R1.out, hst.out, Fo.out⟩
      case round =>
        obtain ⟨j, hj, rfl, hR, hlo, hF⟩ := hrel
        have R := hidd hR
        have Fi := hidd hF
        have hlo' := hidd hlo
        clear hR hF hlo R1 hst Fo
        rcases j with _ | m
        · have hz := hidd (hfin.out 0 (by intro y hy; simp at hy) hlo'.out)
          have R2 := hidd (R.out.to (Below.refl _ wr).drew)
          have F2 := hidd Fi.out.drew
          go_wp2
          refine wp_region_held_drew (S := (fun V => True)) (by kernel_rfl) trivial (fun hHeld => ?_)
          refine wpAnyH_take (i := 0) (v := ?_) rfl (by kernel_rfl) (by kernel_rfl) (by kernel_rfl) (fun _ _ _ h => h) (Or.inl ⟨by kernel_rfl, ?_⟩) hHeld ?_
          rotate_left
          · intro wh hSw
            go_simp
            try with_reducible rfl
          try simp only [Act.put, List.getElem_toArray, List.getElem_cons_zero, List.getElem_cons_succ, List.setIfInBounds_toArray, List.set_cons_zero, List.set_cons_succ]
          refine wpAnyH_take (i := 1) (v := ?_) rfl (by kernel_rfl) (by kernel_rfl) (by kernel_rfl) (fun _ _ _ h => h) (Or.inl ⟨by kernel_rfl, ?_⟩) hHeld ?_
          rotate_left
          · intro wh hSw
            go_simp
            try with_reducible rfl
          try simp only [Act.put, List.getElem_toArray, List.getElem_cons_zero, List.getElem_cons_succ, List.setIfInBounds_toArray, List.set_cons_zero, List.set_cons_succ]
          refine wpAnyH_take (i := 2) (v := ?_) rfl (by kernel_rfl) (by kernel_rfl) (by kernel_rfl) (fun _ _ _ h => h) (Or.inl ⟨by kernel_rfl, ?_⟩) hHeld ?_
          rotate_left
          · intro wh hSw
            go_simp
            try with_reducible rfl
          try simp only [Act.put, List.getElem_toArray, List.getElem_cons_zero, List.getElem_cons_succ, List.setIfInBounds_toArray, List.set_cons_zero, List.set_cons_succ]
          refine wpAnyH_take (i := 3) (v := ?_) rfl (by kernel_rfl) (by kernel_rfl) (by kernel_rfl) (fun _ _ _ h => h) (Or.inl ⟨by kernel_rfl, ?_⟩) hHeld ?_
          rotate_left
          · intro wh hSw
            go_simp
            try with_reducible rfl
          try simp only [Act.put, List.getElem_toArray, List.getElem_cons_zero, List.getElem_cons_succ, List.setIfInBounds_toArray, List.set_cons_zero, List.set_cons_succ]
          refine wpAnyH_take (i := 4) rfl (by kernel_rfl) (by kernel_rfl) (by kernel_rfl) (fun _ _ _ h => h) (Or.inr ⟨by kernel_rfl, rfl⟩) hHeld ?_
          try simp only [Act.put, List.getElem_toArray, List.getElem_cons_zero, List.getElem_cons_succ, List.setIfInBounds_toArray, List.set_cons_zero, List.set_cons_succ]
          refine wpAnyH_take (i := 5) rfl (by kernel_rfl) (by kernel_rfl) (by kernel_rfl) (fun _ _ _ h => h) (Or.inr ⟨by kernel_rfl, rfl⟩) hHeld ?_
          try simp only [Act.put, List.getElem_toArray, List.getElem_cons_zero, List.getElem_cons_succ, List.setIfInBounds_toArray, List.set_cons_zero, List.set_cons_succ]
          refine wpAnyH_take (i := 6) rfl (by kernel_rfl) (by kernel_rfl) (by kernel_rfl) (fun _ _ _ h => h) (Or.inr ⟨by kernel_rfl, rfl⟩) hHeld ?_
          try simp only [Act.put, List.getElem_toArray, List.getElem_cons_zero, List.getElem_cons_succ, List.setIfInBounds_toArray, List.set_cons_zero, List.set_cons_succ]
          refine wpAnyH_take (i := 7) rfl (by kernel_rfl) (by kernel_rfl) (by kernel_rfl) (fun _ _ _ h => h) (Or.inr ⟨by kernel_rfl, rfl⟩) hHeld ?_
          try simp only [Act.put, List.getElem_toArray, List.getElem_cons_zero, List.getElem_cons_succ, List.setIfInBounds_toArray, List.set_cons_zero, List.set_cons_succ]
          refine wpAnyH_take (i := 8) rfl (by kernel_rfl) (by kernel_rfl) (by kernel_rfl) (fun _ _ _ h => h) (Or.inr ⟨by kernel_rfl, rfl⟩) hHeld ?_
          try simp only [Act.put, List.getElem_toArray, List.getElem_cons_zero, List.getElem_cons_succ, List.setIfInBounds_toArray, List.set_cons_zero, List.set_cons_succ]
          refine wpAnyH_take (i := 9) rfl (by kernel_rfl) (by kernel_rfl) (by kernel_rfl) (fun _ _ _ h => h) (Or.inr ⟨by kernel_rfl, rfl⟩) hHeld ?_
          try simp only [Act.put, List.getElem_toArray, List.getElem_cons_zero, List.getElem_cons_succ, List.setIfInBounds_toArray, List.set_cons_zero, List.set_cons_succ]
          refine wpAnyH_take (i := 10) rfl (by kernel_rfl) (by kernel_rfl) (by kernel_rfl) (fun _ _ _ h => h) (Or.inr ⟨by kernel_rfl, rfl⟩) hHeld ?_
          try simp only [Act.put, List.getElem_toArray, List.getElem_cons_zero, List.getElem_cons_succ, List.setIfInBounds_toArray, List.set_cons_zero, List.set_cons_succ]
          refine wpAnyH_take (i := 11) rfl (by kernel_rfl) (by kernel_rfl) (by kernel_rfl) (fun _ _ _ h => h) (Or.inr ⟨by kernel_rfl, rfl⟩) hHeld ?_
          try simp only [Act.put, List.getElem_toArray, List.getElem_cons_zero, List.getElem_cons_succ, List.setIfInBounds_toArray, List.set_cons_zero, List.set_cons_succ]
          refine wpAnyH_take (i := 12) rfl (by kernel_rfl) (by kernel_rfl) (by kernel_rfl) (fun _ _ _ h => h) (Or.inr ⟨by kernel_rfl, rfl⟩) hHeld ?_
          try simp only [Act.put, List.getElem_toArray, List.getElem_cons_zero, List.getElem_cons_succ, List.setIfInBounds_toArray, List.set_cons_zero, List.set_cons_succ]
          refine wpAnyH_take (i := 13) rfl (by kernel_rfl) (by kernel_rfl) (by kernel_rfl) (fun _ _ _ h => h) (Or.inr ⟨by kernel_rfl, rfl⟩) hHeld ?_
          try simp only [Act.put, List.getElem_toArray, List.getElem_cons_zero, List.getElem_cons_succ, List.setIfInBounds_toArray, List.set_cons_zero, List.set_cons_succ]
          refine wpAnyH_take (i := 14) rfl (by kernel_rfl) (by kernel_rfl) (by kernel_rfl) (fun _ _ _ h => h) (Or.inr ⟨by kernel_rfl, rfl⟩) hHeld ?_
          try simp only [Act.put, List.getElem_toArray, List.getElem_cons_zero, List.getElem_cons_succ, List.setIfInBounds_toArray, List.set_cons_zero, List.set_cons_succ]
          refine wpAnyH_take (i := 15) rfl (by kernel_rfl) (by kernel_rfl) (by kernel_rfl) (fun _ _ _ h => h) (Or.inr ⟨by kernel_rfl, rfl⟩) hHeld ?_
          try simp only [Act.put, List.getElem_toArray, List.getElem_cons_zero, List.getElem_cons_succ, List.setIfInBounds_toArray, List.set_cons_zero, List.set_cons_succ]
          refine wpAnyH_take (i := 16) (v := ?_) rfl (by kernel_rfl) (by kernel_rfl) (by kernel_rfl) (fun _ _ _ h => h) (Or.inl ⟨by kernel_rfl, ?_⟩) hHeld ?_
          rotate_left
          · intro wh hSw
            go_simp
            try with_reducible rfl
          try simp only [Act.put, List.getElem_toArray, List.getElem_cons_zero, List.getElem_cons_succ, List.setIfInBounds_toArray, List.set_cons_zero, List.set_cons_succ]
          refine wpAnyH_done (by kernel_rfl) ?_ _
          clear hHeld
          go_wp2
          go_roundw
          case rel => exact ⟨k + 1, by omega, by omega, by go_num, by rw [← hz.out]; exact R2.out, F2.out⟩
          case measure => simp [intOf]; omega
        · obtain ⟨y, hy0⟩ : ∃ y, L[m]? = some y := ⟨_, List.getElem?_eq_getElem (by omega)⟩
          have htm : L.take (m + 1) = L.take m ++ [y] := by rw [List.take_add_one, hy0]; rfl
          have hdm : L.drop m = y :: L.drop (m + 1) := by
            obtain ⟨hlt, rfl⟩ := List.getElem?_eq_some_iff.1 hy0
            exact List.drop_eq_getElem_cons hlt
          have hAl : (L.take m).length = m := by rw [List.length_take]; omega
          have heq : L.take (m + 1) ++ x :: L.drop (m + 1) ++ es.drop (k + 1) = L.take m ++ y :: x :: (L.drop (m + 1) ++ es.drop (k + 1)) := by rw [htm]; simp
          have heq2 : L.take m ++ x :: L.drop m ++ es.drop (k + 1) = L.take m ++ x :: y :: (L.drop (m + 1) ++ es.drop (k + 1)) := by rw [hdm]; simp
          have hlo2 := hidd (show y.2.1 < x.2.1 → ∀ z ∈ L.drop m, z.2.1 < x.2.1 from fun h z hz => by
            rw [hdm] at hz
            rcases List.mem_cons.1 hz with rfl | hz
            · exact h
            · exact hlo'.out z hz)
          have hhi := hidd (show ¬ y.2.1 < x.2.1 → ∀ z ∈ L.take (m + 1), x.2.1 ≤ z.2.1 from fun h z hz => by
            rw [htm] at hz
            rcases List.mem_append.1 hz with hz | hz
            · have h1 := hso.out
              rw [← List.take_append_drop m L, List.pairwise_append] at h1
              have := h1.2.2 z hz y (by rw [hdm]; simp)
              omega
            · rw [List.mem_singleton.1 hz]; omega)
          rw [heq] at R
          have heqA := heq
          obtain ⟨A, hA⟩ : ∃ A, L.take m = A := ⟨_, rfl⟩
          obtain ⟨C, hC⟩ : ∃ C, L.drop (m + 1) ++ es.drop (k + 1) = C := ⟨_, rfl⟩
          have heq2' := hidd (show L.take m ++ x :: L.drop m ++ es.drop (k + 1) = A ++ x :: y :: C from by rw [heq2, hA, hC])
          rw [hA, hC] at R heqA
          rw [hA] at hAl
          have hy := hidd (R.out.ok y (by simp))
          have hgx : (A ++ y :: x :: C)[m + 1]? = some x := by rw [List.getElem?_append_right (by omega), hAl, show m + 1 - m = 1 by omega]; rfl
          have hgy : (A ++ y :: x :: C)[m]? = some y := by rw [List.getElem?_append_right (by omega), hAl, Nat.sub_self]; rfl
          have hm1 : m + 1 < (A ++ y :: x :: C).length := (List.getElem?_eq_some_iff.1 hgx).1
          have hm0 : m < (A ++ y :: x :: C).length := by omega
          have hnl : (A ++ y :: x :: C).length = n := R.out.len
          have hsw := hidd (swap_list (B := C) (x := x) (y := y) hAl)
          have O1 := hidd (R.out.to (Below.refl _ wr).drew)
          have S1 : Hid ((loadVar 48 ⟨g, (m + 1) * 18, none⟩).run Try.prog wr.drew = .ok (.agg (encV x)) wr.drew ∧ (loadVar 48 ⟨g, m * 18, none⟩).run Try.prog wr.drew = .ok (.agg (encV y)) wr.drew) := ⟨O1.out.load hgx, O1.out.load hgy⟩
          have keep := hidd (fun V2 (b2 : Below wr.drew.heap.size wr.drew V2) => (show (loadVar 48 ⟨g, (m + 1) * 18, none⟩).run Try.prog V2 = .ok (.agg (encV x)) V2 ∧ (loadVar 48 ⟨g, m * 18, none⟩).run Try.prog V2 = .ok (.agg (encV y)) V2 from ⟨(O1.out.to b2).load hgx, (O1.out.to b2).load hgy⟩))
          have hcmp0 := cmp_any wr.drew F O1.out.fn x y hx.out hy.out
          have hmz : (m : Int) + 1 < (n : Int) := by omega
          have hmz2 : (m : Int) < (n : Int) := by omega
          have hp0 : (0 : Int) ≤ (m : Int) + 1 := by omega
          rw [show (((m + 1 : Nat) : Int)) = (m : Int) + 1 from rfl]
          clear hy0 htm hdm heq heq2 hA hC hgx hgy R hnl hAl
          by_cases hlt : y.2.1 < x.2.1
          · have hc : cmpI y.2.1 x.2.1 = -1 := by rw [cmpI, if_pos hlt]
            rw [hc] at hcmp0
            have hcmp := hidd hcmp0
            have hlo3 := hidd (hlo2.out hlt)
            have hwm : IntKind.i64.wrap (m : Int) = m := IntWalk.i64_in _ (by omega)
            clear hc hlt hcmp0 hlo2 hhi
            go_wp2
            refine wp_region_held_drew (S := (fun V => (loadVar 48 ⟨g, (m + 1) * 18, none⟩).run Try.prog V = .ok (.agg (encV x)) V ∧ (loadVar 48 ⟨g, m * 18, none⟩).run Try.prog V = .ok (.agg (encV y)) V)) (by kernel_rfl) S1.out (fun hHeld => ?_)
            refine wpAnyH_take (i := 0) (v := ?_) rfl (by kernel_rfl) (by kernel_rfl) (by kernel_rfl) (fun _ _ _ h => h) (Or.inl ⟨by kernel_rfl, ?_⟩) hHeld ?_
            rotate_left
            · intro wh hSw
              go_simp
              try with_reducible rfl
            try simp only [Act.put, List.getElem_toArray, List.getElem_cons_zero, List.getElem_cons_succ, List.setIfInBounds_toArray, List.set_cons_zero, List.set_cons_succ]
            refine wpAnyH_take (i := 1) (v := ?_) rfl (by kernel_rfl) (by kernel_rfl) (by kernel_rfl) (fun _ _ _ h => h) (Or.inl ⟨by kernel_rfl, ?_⟩) hHeld ?_
            rotate_left
            · intro wh hSw
              go_simp
              try with_reducible rfl
            try simp only [Act.put, List.getElem_toArray, List.getElem_cons_zero, List.getElem_cons_succ, List.setIfInBounds_toArray, List.set_cons_zero, List.set_cons_succ]
            refine wpAnyH_take (i := 2) (v := ?_) rfl (by kernel_rfl) (by kernel_rfl) (by kernel_rfl) (fun _ _ _ h => h) (Or.inl ⟨by kernel_rfl, ?_⟩) hHeld ?_
            rotate_left
            · intro wh hSw
              go_simp
              try with_reducible rfl
            try simp only [Act.put, List.getElem_toArray, List.getElem_cons_zero, List.getElem_cons_succ, List.setIfInBounds_toArray, List.set_cons_zero, List.set_cons_succ]
            refine wpAnyH_take (i := 3) (v := ?_) rfl (by kernel_rfl) (by kernel_rfl) (by kernel_rfl) (fun _ _ _ h => h) (Or.inl ⟨by kernel_rfl, ?_⟩) hHeld ?_
            rotate_left
            · intro wh hSw
              go_simp
              try with_reducible rfl
            try simp only [Act.put, List.getElem_toArray, List.getElem_cons_zero, List.getElem_cons_succ, List.setIfInBounds_toArray, List.set_cons_zero, List.set_cons_succ]
            refine wpAnyH_take (i := 4) (v := ?_) rfl (by kernel_rfl) (by kernel_rfl) (by kernel_rfl) (fun _ _ _ h => h) (Or.inl ⟨by kernel_rfl, ?_⟩) hHeld ?_
            rotate_left
            · intro wh hSw
              go_simp
              try with_reducible rfl
            try simp only [Act.put, List.getElem_toArray, List.getElem_cons_zero, List.getElem_cons_succ, List.setIfInBounds_toArray, List.set_cons_zero, List.set_cons_succ]
            refine wpAnyH_take (i := 5) (v := ?_) rfl (by kernel_rfl) (by kernel_rfl) (by kernel_rfl) (fun _ _ _ h => h) (Or.inl ⟨by kernel_rfl, ?_⟩) hHeld ?_
            rotate_left
            · intro wh hSw
              go_simp
              try with_reducible rfl
            try simp only [Act.put, List.getElem_toArray, List.getElem_cons_zero, List.getElem_cons_succ, List.setIfInBounds_toArray, List.set_cons_zero, List.set_cons_succ]
            refine wpAnyH_take (i := 6) (v := ?_) rfl (by kernel_rfl) (by kernel_rfl) (by kernel_rfl) (fun _ _ _ h => h) (Or.inl ⟨by kernel_rfl, ?_⟩) hHeld ?_
            rotate_left
            · intro wh hSw
              go_simp
              try with_reducible rfl
            try simp only [Act.put, List.getElem_toArray, List.getElem_cons_zero, List.getElem_cons_succ, List.setIfInBounds_toArray, List.set_cons_zero, List.set_cons_succ]
            refine wpAnyH_take (i := 7) (v := ?_) rfl (by kernel_rfl) (by kernel_rfl) (by kernel_rfl) (fun _ _ _ h => h) (Or.inl ⟨by kernel_rfl, ?_⟩) hHeld ?_
            rotate_left
            · intro wh hSw
              go_simp
              try with_reducible rfl
            try simp only [Act.put, List.getElem_toArray, List.getElem_cons_zero, List.getElem_cons_succ, List.setIfInBounds_toArray, List.set_cons_zero, List.set_cons_succ]
            refine wpAnyH_take (i := 8) rfl (by kernel_rfl) (by kernel_rfl) (by kernel_rfl) (fun _ _ _ h => h) (yieldsIf_load_want (by kernel_rfl) 48 _ rfl _ rfl _ (fun wh hSw => hSw.1)) hHeld ?_
            try simp only [Act.put, List.getElem_toArray, List.getElem_cons_zero, List.getElem_cons_succ, List.setIfInBounds_toArray, List.set_cons_zero, List.set_cons_succ]
            refine wpAnyH_take (i := 9) (v := ?_) rfl (by kernel_rfl) (by kernel_rfl) (by kernel_rfl) (fun _ _ _ h => h) (Or.inl ⟨by kernel_rfl, ?_⟩) hHeld ?_
            rotate_left
            · intro wh hSw
              go_simp
              try with_reducible rfl
            try simp only [Act.put, List.getElem_toArray, List.getElem_cons_zero, List.getElem_cons_succ, List.setIfInBounds_toArray, List.set_cons_zero, List.set_cons_succ]
            refine wpAnyH_take (i := 10) (v := ?_) rfl (by kernel_rfl) (by kernel_rfl) (by kernel_rfl) (fun _ _ _ h => h) (Or.inl ⟨by kernel_rfl, ?_⟩) hHeld ?_
            rotate_left
            · intro wh hSw
              go_simp
              try with_reducible rfl
            try simp only [Act.put, List.getElem_toArray, List.getElem_cons_zero, List.getElem_cons_succ, List.setIfInBounds_toArray, List.set_cons_zero, List.set_cons_succ]
            refine wpAnyH_take (i := 11) (v := ?_) rfl (by kernel_rfl) (by kernel_rfl) (by kernel_rfl) (fun _ _ _ h => h) (Or.inl ⟨by kernel_rfl, ?_⟩) hHeld ?_
            rotate_left
            · intro wh hSw
              go_simp
              try with_reducible rfl
            try simp only [Act.put, List.getElem_toArray, List.getElem_cons_zero, List.getElem_cons_succ, List.setIfInBounds_toArray, List.set_cons_zero, List.set_cons_succ]
            refine wpAnyH_take (i := 12) (v := ?_) rfl (by kernel_rfl) (by kernel_rfl) (by kernel_rfl) (fun _ _ _ h => h) (Or.inl ⟨by kernel_rfl, ?_⟩) hHeld ?_
            rotate_left
            · intro wh hSw
              go_simp
              try with_reducible rfl
            try simp only [Act.put, List.getElem_toArray, List.getElem_cons_zero, List.getElem_cons_succ, List.setIfInBounds_toArray, List.set_cons_zero, List.set_cons_succ]
            refine wpAnyH_take (i := 13) rfl (by kernel_rfl) (by kernel_rfl) (by kernel_rfl) (fun _ _ _ h => h) (yieldsIf_load_want (by kernel_rfl) 48 _ rfl _ rfl _ (fun wh hSw => hSw.2)) hHeld ?_
            try simp only [Act.put, List.getElem_toArray, List.getElem_cons_zero, List.getElem_cons_succ, List.setIfInBounds_toArray, List.set_cons_zero, List.set_cons_succ]
            refine wpAnyH_ready (rs := [14]) (by kernel_rfl) (by simp) (AllReadyH.cons rfl (fun K hK => ?_) AllReadyH.nil)
            clear hHeld
            go_simp
            with_reducible refine Calls.mono hcmp.out ?_
            rintro e V2 ⟨rfl, b2⟩
            dsimp only
            have S2 := hidd (keep V2 b2)
            refine hK.out _ _ S2.out (fun hHeld => ?_)
            clear hK K
            try simp only [Act.put, List.getElem_toArray, List.getElem_cons_zero, List.getElem_cons_succ, List.setIfInBounds_toArray, List.set_cons_zero, List.set_cons_succ]
            refine wpAnyH_take (i := 15) (v := ?_) rfl (by kernel_rfl) (by kernel_rfl) (by kernel_rfl) (fun _ _ _ h => h) (Or.inl ⟨by kernel_rfl, ?_⟩) hHeld ?_
            rotate_left
            · intro wh hSw
              go_simp
              try with_reducible rfl
            try simp only [Act.put, List.getElem_toArray, List.getElem_cons_zero, List.getElem_cons_succ, List.setIfInBounds_toArray, List.set_cons_zero, List.set_cons_succ]
            refine wpAnyH_take (i := 16) (v := ?_) rfl (by kernel_rfl) (by kernel_rfl) (by kernel_rfl) (fun _ _ _ h => h) (Or.inl ⟨by kernel_rfl, ?_⟩) hHeld ?_
            rotate_left
            · intro wh hSw
              go_simp
              try with_reducible rfl
            try simp only [Act.put, List.getElem_toArray, List.getElem_cons_zero, List.getElem_cons_succ, List.setIfInBounds_toArray, List.set_cons_zero, List.set_cons_succ]
            refine wpAnyH_done (by kernel_rfl) ?_ _
            clear hHeld
            have O2 := hidd (O1.out.to b2)
            have F2 := hidd (Fi.out.drew.trans (Fr.of_below b2 _))
            have S3 := hidd (keep.out V2.drew b2.drew)
            clear S1 keep O1 b2 hcmp
            go_wp2_with fail
            have O3 := hidd (O2.out.to (Below.refl _ V2).drew)
            have F3 := hidd F2.out.drew
            clear O2 F2
            refine wp_region_tail (fun V => (loadVar 48 ⟨g, (m + 1) * 18, none⟩).run Try.prog V = .ok (.agg (encV x)) V ∧ (loadVar 48 ⟨g, m * 18, none⟩).run Try.prog V = .ok (.agg (encV y)) V) 15 (by kernel_rfl) S3.out (fun hF => ?_)
            generalize V2.drew = D at S3 O3 F3 hF ⊢
            refine tail_free (i := 0) (v := ?_) rfl (by kernel_rfl) (by kernel_rfl) (by kernel_rfl) (by kernel_rfl) (fun _ _ _ h => h) (Or.inl ⟨by kernel_rfl, ?_⟩) (fun _ => hF) ?_
            rotate_left
            · intro wh hSw
              go_simp
              try with_reducible rfl
            try simp only [Act.put, List.getElem_toArray, List.getElem_cons_zero, List.getElem_cons_succ, List.setIfInBounds_toArray, List.set_cons_zero, List.set_cons_succ]
            refine tail_free (i := 1) (v := ?_) rfl (by kernel_rfl) (by kernel_rfl) (by kernel_rfl) (by kernel_rfl) (fun _ _ _ h => h) (Or.inl ⟨by kernel_rfl, ?_⟩) (fun _ => hF) ?_
            rotate_left
            · intro wh hSw
              go_simp
              try with_reducible rfl
            try simp only [Act.put, List.getElem_toArray, List.getElem_cons_zero, List.getElem_cons_succ, List.setIfInBounds_toArray, List.set_cons_zero, List.set_cons_succ]
            refine tail_free (i := 2) (v := ?_) rfl (by kernel_rfl) (by kernel_rfl) (by kernel_rfl) (by kernel_rfl) (fun _ _ _ h => h) (Or.inl ⟨by kernel_rfl, ?_⟩) (fun _ => hF) ?_
            rotate_left
            · intro wh hSw
              go_simp
              try with_reducible rfl
            try simp only [Act.put, List.getElem_toArray, List.getElem_cons_zero, List.getElem_cons_succ, List.setIfInBounds_toArray, List.set_cons_zero, List.set_cons_succ]
            refine tail_free (i := 3) (v := ?_) rfl (by kernel_rfl) (by kernel_rfl) (by kernel_rfl) (by kernel_rfl) (fun _ _ _ h => h) (Or.inl ⟨by kernel_rfl, ?_⟩) (fun _ => hF) ?_
            rotate_left
            · intro wh hSw
              go_simp
              try with_reducible rfl
            try simp only [Act.put, List.getElem_toArray, List.getElem_cons_zero, List.getElem_cons_succ, List.setIfInBounds_toArray, List.set_cons_zero, List.set_cons_succ]
            refine tail_free (i := 4) (v := ?_) rfl (by kernel_rfl) (by kernel_rfl) (by kernel_rfl) (by kernel_rfl) (fun _ _ _ h => h) (Or.inl ⟨by kernel_rfl, ?_⟩) (fun _ => hF) ?_
            rotate_left
            · intro wh hSw
              go_simp
              try with_reducible rfl
            try simp only [Act.put, List.getElem_toArray, List.getElem_cons_zero, List.getElem_cons_succ, List.setIfInBounds_toArray, List.set_cons_zero, List.set_cons_succ]
            refine tail_free (i := 5) (v := ?_) rfl (by kernel_rfl) (by kernel_rfl) (by kernel_rfl) (by kernel_rfl) (fun _ _ _ h => h) (Or.inl ⟨by kernel_rfl, ?_⟩) (fun _ => hF) ?_
            rotate_left
            · intro wh hSw
              go_simp
              try with_reducible rfl
            try simp only [Act.put, List.getElem_toArray, List.getElem_cons_zero, List.getElem_cons_succ, List.setIfInBounds_toArray, List.set_cons_zero, List.set_cons_succ]
            refine tail_free (i := 6) (v := ?_) rfl (by kernel_rfl) (by kernel_rfl) (by kernel_rfl) (by kernel_rfl) (fun _ _ _ h => h) (Or.inl ⟨by kernel_rfl, ?_⟩) (fun _ => hF) ?_
            rotate_left
            · intro wh hSw
              go_simp
              try with_reducible rfl
            try simp only [Act.put, List.getElem_toArray, List.getElem_cons_zero, List.getElem_cons_succ, List.setIfInBounds_toArray, List.set_cons_zero, List.set_cons_succ]
            refine tail_free (i := 7) (v := ?_) rfl (by kernel_rfl) (by kernel_rfl) (by kernel_rfl) (by kernel_rfl) (fun _ _ _ h => h) (Or.inl ⟨by kernel_rfl, ?_⟩) (fun _ => hF) ?_
            rotate_left
            · intro wh hSw
              go_simp
              try with_reducible rfl
            try simp only [Act.put, List.getElem_toArray, List.getElem_cons_zero, List.getElem_cons_succ, List.setIfInBounds_toArray, List.set_cons_zero, List.set_cons_succ]
            refine tail_free (i := 8) (v := ?_) rfl (by kernel_rfl) (by kernel_rfl) (by kernel_rfl) (by kernel_rfl) (fun _ _ _ h => h) (Or.inl ⟨by kernel_rfl, ?_⟩) (fun _ => hF) ?_
            rotate_left
            · intro wh hSw
              go_simp
              try with_reducible rfl
            try simp only [Act.put, List.getElem_toArray, List.getElem_cons_zero, List.getElem_cons_succ, List.setIfInBounds_toArray, List.set_cons_zero, List.set_cons_succ]
            refine tail_take (i := 9) rfl (by kernel_rfl) (by kernel_rfl) (by kernel_rfl) (by kernel_rfl) (fun _ _ _ h => h) (yieldsIf_load_want (by kernel_rfl) 48 _ rfl _ rfl _ (fun wh hSw => hSw.2)) hF ?_
            try simp only [Act.put, List.getElem_toArray, List.getElem_cons_zero, List.getElem_cons_succ, List.setIfInBounds_toArray, List.set_cons_zero, List.set_cons_succ]
            refine tail_free (i := 10) (v := ?_) rfl (by kernel_rfl) (by kernel_rfl) (by kernel_rfl) (by kernel_rfl) (fun _ _ _ h => h) (Or.inl ⟨by kernel_rfl, ?_⟩) (fun _ => hF) ?_
            rotate_left
            · intro wh hSw
              go_simp
              try with_reducible rfl
            try simp only [Act.put, List.getElem_toArray, List.getElem_cons_zero, List.getElem_cons_succ, List.setIfInBounds_toArray, List.set_cons_zero, List.set_cons_succ]
            refine tail_free (i := 11) (v := ?_) rfl (by kernel_rfl) (by kernel_rfl) (by kernel_rfl) (by kernel_rfl) (fun _ _ _ h => h) (Or.inl ⟨by kernel_rfl, ?_⟩) (fun _ => hF) ?_
            rotate_left
            · intro wh hSw
              go_simp
              try with_reducible rfl
            try simp only [Act.put, List.getElem_toArray, List.getElem_cons_zero, List.getElem_cons_succ, List.setIfInBounds_toArray, List.set_cons_zero, List.set_cons_succ]
            refine tail_free (i := 12) (v := ?_) rfl (by kernel_rfl) (by kernel_rfl) (by kernel_rfl) (by kernel_rfl) (fun _ _ _ h => h) (Or.inl ⟨by kernel_rfl, ?_⟩) (fun _ => hF) ?_
            rotate_left
            · intro wh hSw
              go_simp
              try with_reducible rfl
            try simp only [Act.put, List.getElem_toArray, List.getElem_cons_zero, List.getElem_cons_succ, List.setIfInBounds_toArray, List.set_cons_zero, List.set_cons_succ]
            refine tail_take (i := 13) rfl (by kernel_rfl) (by kernel_rfl) (by kernel_rfl) (by kernel_rfl) (fun _ _ _ h => h) (yieldsIf_load_want (by kernel_rfl) 48 _ rfl _ rfl _ (fun wh hSw => hSw.1)) hF ?_
            try simp only [Act.put, List.getElem_toArray, List.getElem_cons_zero, List.getElem_cons_succ, List.setIfInBounds_toArray, List.set_cons_zero, List.set_cons_succ]
            refine tail_free (i := 14) (v := ?_) rfl (by kernel_rfl) (by kernel_rfl) (by kernel_rfl) (by kernel_rfl) (fun _ _ _ h => h) (Or.inl ⟨by kernel_rfl, ?_⟩) (fun _ => hF) ?_
            rotate_left
            · intro wh hSw
              go_simp
              try with_reducible rfl
            try simp only [Act.put, List.getElem_toArray, List.getElem_cons_zero, List.getElem_cons_succ, List.setIfInBounds_toArray, List.set_cons_zero, List.set_cons_succ]
            refine tail_ready (rs := [15]) (by kernel_rfl) (by simp) (AllReadyT.last rfl (by kernel_rfl) (fun K hK => ?_) AllReadyT.nil)
            clear hF
            refine step_store_vals D rfl rfl 48 (.tmp 51) (.tmp 46) rfl g ((m + 1) * 18) (enc y) rfl rfl (by rw [isEnc.len _ hy.out]; exact own_there (O3.out).own (by omega)) (by rw [isEnc.len _ hy.out]; exact infoE) (isEnc.one _) ?_
            have O4 := hidd (own_set O3.out hm1 hy.out)
            have F4 := hidd (F3.out.trans (fr_cells D g (enc y) ((m + 1) * 18)))
            generalize D.setCells g ((m + 1) * 18) (enc y) = D2 at O4 F4 ⊢
            refine hK.out _ _ ?_
            clear hK K
            try simp only [Act.put, List.getElem_toArray, List.getElem_cons_zero, List.getElem_cons_succ, List.setIfInBounds_toArray, List.set_cons_zero, List.set_cons_succ]
            refine tail_free (i := 16) (v := ?_) rfl (by kernel_rfl) (by kernel_rfl) (by kernel_rfl) (by kernel_rfl) (fun _ _ _ h => h) (Or.inl ⟨by kernel_rfl, ?_⟩) (fun h0 => by cases (show true = false from h0)) ?_
            rotate_left
            · intro wh hSw
              go_simp
              try with_reducible rfl
            try simp only [Act.put, List.getElem_toArray, List.getElem_cons_zero, List.getElem_cons_succ, List.setIfInBounds_toArray, List.set_cons_zero, List.set_cons_succ]
            refine tail_ready (rs := [17]) (by kernel_rfl) (by simp) (AllReadyT.last rfl (by kernel_rfl) (fun K hK => ?_) AllReadyT.nil)
            refine step_store_vals D2 rfl rfl 48 (.tmp 52) (.tmp 50) rfl g (m * 18) (enc x) rfl rfl (by rw [isEnc.len _ hx.out]; exact own_there (O4.out).own (by omega)) (by rw [isEnc.len _ hx.out]; exact infoE) (isEnc.one _) ?_
            have O5 := hidd (own_set O4.out (by rw [List.length_set]; exact hm0) hx.out)
            have F5 := hidd (F4.out.trans (fr_cells D2 g (enc x) (m * 18)))
            refine hK.out _ _ ?_
            clear hK K
            try simp only [Act.put, List.getElem_toArray, List.getElem_cons_zero, List.getElem_cons_succ, List.setIfInBounds_toArray, List.set_cons_zero, List.set_cons_succ]
            refine tail_done (by kernel_rfl) ?_ _
            go_wp2
            go_roundw
            case rel => exact ⟨m, by omega, by go_num, by rw [heq2'.out, ← hsw.out]; exact O5.out, hlo3.out, F5.out⟩
            case measure => simp [intOf]
          · obtain ⟨q, hq0, hq⟩ : ∃ q, 0 ≤ q ∧ cmpI y.2.1 x.2.1 = q := ⟨_, by rw [cmpI, if_neg hlt]; split <;> decide, rfl⟩
            rw [hq] at hcmp0
            have hcmp := hidd hcmp0
            have hz := hidd (hfin.out (m + 1) (hhi.out hlt) hlo'.out)
            have hz1 := hidd (show L.take (m + 1) ++ x :: L.drop (m + 1) ++ es.drop (k + 1) = A ++ y :: x :: C from heqA)
            have hwm : IntKind.i64.wrap (m : Int) = m := IntWalk.i64_in _ (by omega)
            have hq1 : ¬ q < 0 := by omega
            clear hlt hcmp0 hlo2 hhi hq heqA
            go_wp2
            refine wp_region_held_drew (S := (fun V => (loadVar 48 ⟨g, (m + 1) * 18, none⟩).run Try.prog V = .ok (.agg (encV x)) V ∧ (loadVar 48 ⟨g, m * 18, none⟩).run Try.prog V = .ok (.agg (encV y)) V)) (by kernel_rfl) S1.out (fun hHeld => ?_)
            refine wpAnyH_take (i := 0) (v := ?_) rfl (by kernel_rfl) (by kernel_rfl) (by kernel_rfl) (fun _ _ _ h => h) (Or.inl ⟨by kernel_rfl, ?_⟩) hHeld ?_
            rotate_left
            · intro wh hSw
              go_simp
              try with_reducible rfl
            try simp only [Act.put, List.getElem_toArray, List.getElem_cons_zero, List.getElem_cons_succ, List.setIfInBounds_toArray, List.set_cons_zero, List.set_cons_succ]
            refine wpAnyH_take (i := 1) (v := ?_) rfl (by kernel_rfl) (by kernel_rfl) (by kernel_rfl) (fun _ _ _ h => h) (Or.inl ⟨by kernel_rfl, ?_⟩) hHeld ?_
            rotate_left
            · intro wh hSw
              go_simp
              try with_reducible rfl
            try simp only [Act.put, List.getElem_toArray, List.getElem_cons_zero, List.getElem_cons_succ, List.setIfInBounds_toArray, List.set_cons_zero, List.set_cons_succ]
            refine wpAnyH_take (i := 2) (v := ?_) rfl (by kernel_rfl) (by kernel_rfl) (by kernel_rfl) (fun _ _ _ h => h) (Or.inl ⟨by kernel_rfl, ?_⟩) hHeld ?_
            rotate_left
            · intro wh hSw
              go_simp
              try with_reducible rfl
            try simp only [Act.put, List.getElem_toArray, List.getElem_cons_zero, List.getElem_cons_succ, List.setIfInBounds_toArray, List.set_cons_zero, List.set_cons_succ]
            refine wpAnyH_take (i := 3) (v := ?_) rfl (by kernel_rfl) (by kernel_rfl) (by kernel_rfl) (fun _ _ _ h => h) (Or.inl ⟨by kernel_rfl, ?_⟩) hHeld ?_
            rotate_left
            · intro wh hSw
              go_simp
              try with_reducible rfl
            try simp only [Act.put, List.getElem_toArray, List.getElem_cons_zero, List.getElem_cons_succ, List.setIfInBounds_toArray, List.set_cons_zero, List.set_cons_succ]
            refine wpAnyH_take (i := 4) (v := ?_) rfl (by kernel_rfl) (by kernel_rfl) (by kernel_rfl) (fun _ _ _ h => h) (Or.inl ⟨by kernel_rfl, ?_⟩) hHeld ?_
            rotate_left
            · intro wh hSw
              go_simp
              try with_reducible rfl
            try simp only [Act.put, List.getElem_toArray, List.getElem_cons_zero, List.getElem_cons_succ, List.setIfInBounds_toArray, List.set_cons_zero, List.set_cons_succ]
            refine wpAnyH_take (i := 5) (v := ?_) rfl (by kernel_rfl) (by kernel_rfl) (by kernel_rfl) (fun _ _ _ h => h) (Or.inl ⟨by kernel_rfl, ?_⟩) hHeld ?_
            rotate_left
            · intro wh hSw
              go_simp
              try with_reducible rfl
            try simp only [Act.put, List.getElem_toArray, List.getElem_cons_zero, List.getElem_cons_succ, List.setIfInBounds_toArray, List.set_cons_zero, List.set_cons_succ]
            refine wpAnyH_take (i := 6) (v := ?_) rfl (by kernel_rfl) (by kernel_rfl) (by kernel_rfl) (fun _ _ _ h => h) (Or.inl ⟨by kernel_rfl, ?_⟩) hHeld ?_
            rotate_left
            · intro wh hSw
              go_simp
              try with_reducible rfl
            try simp only [Act.put, List.getElem_toArray, List.getElem_cons_zero, List.getElem_cons_succ, List.setIfInBounds_toArray, List.set_cons_zero, List.set_cons_succ]
            refine wpAnyH_take (i := 7) (v := ?_) rfl (by kernel_rfl) (by kernel_rfl) (by kernel_rfl) (fun _ _ _ h => h) (Or.inl ⟨by kernel_rfl, ?_⟩) hHeld ?_
            rotate_left
            · intro wh hSw
              go_simp
              try with_reducible rfl
            try simp only [Act.put, List.getElem_toArray, List.getElem_cons_zero, List.getElem_cons_succ, List.setIfInBounds_toArray, List.set_cons_zero, List.set_cons_succ]
            refine wpAnyH_take (i := 8) rfl (by kernel_rfl) (by kernel_rfl) (by kernel_rfl) (fun _ _ _ h => h) (yieldsIf_load_want (by kernel_rfl) 48 _ rfl _ rfl _ (fun wh hSw => hSw.1)) hHeld ?_
            try simp only [Act.put, List.getElem_toArray, List.getElem_cons_zero, List.getElem_cons_succ, List.setIfInBounds_toArray, List.set_cons_zero, List.set_cons_succ]
            refine wpAnyH_take (i := 9) (v := ?_) rfl (by kernel_rfl) (by kernel_rfl) (by kernel_rfl) (fun _ _ _ h => h) (Or.inl ⟨by kernel_rfl, ?_⟩) hHeld ?_
            rotate_left
            · intro wh hSw
              go_simp
              try with_reducible rfl
            try simp only [Act.put, List.getElem_toArray, List.getElem_cons_zero, List.getElem_cons_succ, List.setIfInBounds_toArray, List.set_cons_zero, List.set_cons_succ]
            refine wpAnyH_take (i := 10) (v := ?_) rfl (by kernel_rfl) (by kernel_rfl) (by kernel_rfl) (fun _ _ _ h => h) (Or.inl ⟨by kernel_rfl, ?_⟩) hHeld ?_
            rotate_left
            · intro wh hSw
              go_simp
              try with_reducible rfl
            try simp only [Act.put, List.getElem_toArray, List.getElem_cons_zero, List.getElem_cons_succ, List.setIfInBounds_toArray, List.set_cons_zero, List.set_cons_succ]
            refine wpAnyH_take (i := 11) (v := ?_) rfl (by kernel_rfl) (by kernel_rfl) (by kernel_rfl) (fun _ _ _ h => h) (Or.inl ⟨by kernel_rfl, ?_⟩) hHeld ?_
            rotate_left
            · intro wh hSw
              go_simp
              try with_reducible rfl
            try simp only [Act.put, List.getElem_toArray, List.getElem_cons_zero, List.getElem_cons_succ, List.setIfInBounds_toArray, List.set_cons_zero, List.set_cons_succ]
            refine wpAnyH_take (i := 12) (v := ?_) rfl (by kernel_rfl) (by kernel_rfl) (by kernel_rfl) (fun _ _ _ h => h) (Or.inl ⟨by kernel_rfl, ?_⟩) hHeld ?_
            rotate_left
            · intro wh hSw
              go_simp
              try with_reducible rfl
            try simp only [Act.put, List.getElem_toArray, List.getElem_cons_zero, List.getElem_cons_succ, List.setIfInBounds_toArray, List.set_cons_zero, List.set_cons_succ]
            refine wpAnyH_take (i := 13) rfl (by kernel_rfl) (by kernel_rfl) (by kernel_rfl) (fun _ _ _ h => h) (yieldsIf_load_want (by kernel_rfl) 48 _ rfl _ rfl _ (fun wh hSw => hSw.2)) hHeld ?_
            try simp only [Act.put, List.getElem_toArray, List.getElem_cons_zero, List.getElem_cons_succ, List.setIfInBounds_toArray, List.set_cons_zero, List.set_cons_succ]
            refine wpAnyH_ready (rs := [14]) (by kernel_rfl) (by simp) (AllReadyH.cons rfl (fun K hK => ?_) AllReadyH.nil)
            clear hHeld
            go_simp
            with_reducible refine Calls.mono hcmp.out ?_
            rintro e V2 ⟨rfl, b2⟩
            dsimp only
            have S2 := hidd (keep V2 b2)
            refine hK.out _ _ S2.out (fun hHeld => ?_)
            clear hK K
            try simp only [Act.put, List.getElem_toArray, List.getElem_cons_zero, List.getElem_cons_succ, List.setIfInBounds_toArray, List.set_cons_zero, List.set_cons_succ]
            refine wpAnyH_take (i := 15) (v := ?_) rfl (by kernel_rfl) (by kernel_rfl) (by kernel_rfl) (fun _ _ _ h => h) (Or.inl ⟨by kernel_rfl, ?_⟩) hHeld ?_
            rotate_left
            · intro wh hSw
              go_simp
              try with_reducible rfl
            try simp only [Act.put, List.getElem_toArray, List.getElem_cons_zero, List.getElem_cons_succ, List.setIfInBounds_toArray, List.set_cons_zero, List.set_cons_succ]
            refine wpAnyH_take (i := 16) (v := ?_) rfl (by kernel_rfl) (by kernel_rfl) (by kernel_rfl) (fun _ _ _ h => h) (Or.inl ⟨by kernel_rfl, ?_⟩) hHeld ?_
            rotate_left
            · intro wh hSw
              go_simp
              try with_reducible rfl
            try simp only [Act.put, List.getElem_toArray, List.getElem_cons_zero, List.getElem_cons_succ, List.setIfInBounds_toArray, List.set_cons_zero, List.set_cons_succ]
            refine wpAnyH_done (by kernel_rfl) ?_ _
            clear hHeld
            have O2 := hidd (O1.out.to b2)
            have F2 := hidd (Fi.out.drew.trans (Fr.of_below b2 _))
            clear S1 keep O1 b2 hcmp
            go_wp2
            go_roundw
            case rel => exact ⟨k + 1, by omega, by omega, by go_num, by rw [← hz.out, hz1.out]; exact O2.out, F2.out⟩
            case measure => simp [intOf]; omega
    · have hkn' : k = n ∨ n = 0 := by omega
      have hfull : ord (es.take k) ++ es.drop k = ord es := by
        rw [List.take_of_length_le (by omega), List.drop_of_length_le (by omega), List.append_nil]
      rw [hfull] at R
      clear hfull
      go_wp2
      go_end0
      exact ⟨⟨_, rfl⟩, R.out, Fo.out⟩

end Go.Proofs.Ytnchjbgfmkmbaaa
