/- The reference of draws: each function walked once over a list that the call owns. No condition but that the list is the object's own. -/
import Derived.Test.YtgalphhamdemfaaWords
import Derived.Deep.RegionLaw
namespace Go.Proofs.Ytgalphhamdemfaa
open Go.ChangeShapes Go.WideShapes Go.ChangeAt Go.RowKit
set_option linter.unusedVariables false

theorem info31 : (Try.prog.info? 31).map (fun i => (i.zero, i.size, i.bytes)) = some (some (.int .u32 0), 1, 4) := by kernel_rfl
theorem T28 : SlTy Try.prog 28 31 1 4 := SlTy.mk_ Try.underlying28 info31 rfl (by omega)

/-- The document's words: block mb holds the slice v, which owns L. -/
structure IsM (w : World) (mb base : Nat) (v : Value) (L : List Int) : Prop where
  blk : Blk w mb 30 #[v]
  own : w.ownsRow base 31 1 v L.length (L.map (Value.int .u32))
  lt : mb < base
  rng : ∀ x ∈ L, 0 ≤ x ∧ x ≤ 4294967295
  len : L.length ≤ 256

theorem IsM.fr {w w' : World} {mb base : Nat} {v : Value} {L : List Int} {S : Nat → Prop} (h : IsM w mb base v L) (hf : Fr S w w') (h1 : ¬ S mb) (h2 : ∀ k, v.ownBlock = some k → ¬ S k) : IsM w' mb base v L :=
  ⟨h.blk.fr hf h1, ownRow_fr h.own hf h2, h.lt, h.rng, h.len⟩

theorem ints_one (k : IntKind) (xs : List Int) : ∀ u ∈ xs.map (Value.int k), u.oneCell' = true := by
  intro u hu
  obtain ⟨x, _, rfl⟩ := List.mem_map.1 hu
  rfl

theorem slice_of_own {w : World} {base : Nat} {e : TypeId} {size n : Nat} {v : Value} {xs : List Value} (h : w.ownsRow base e size v n xs) : ∃ A c, v = .slice A n c := by
  rcases h.2 with ⟨rfl, rfl⟩ | ⟨g, cap, cur, rfl, _⟩
  · exact ⟨_, _, rfl⟩
  · exact ⟨_, _, rfl⟩

set_option maxRecDepth 100000 in
set_option maxHeartbeats 2000000 in
theorem refFeed_any (w : World) (mb base : Nat) (v : Value) (L : List Int) (h : IsM w mb base v L) (hbase : base ≤ w.heap.size) (A : Option Addr) (n c : Nat) (xs : List Int) (hx : Rd w w.heap.size 1 A n c (xs.map (Value.int .u32)))
    (hfar : 0 < n → ∀ bb off sp, A = some ⟨bb, off, sp⟩ → bb ≠ mb ∧ v.ownBlock ≠ some bb) (hr : ∀ x ∈ xs, 0 ≤ x ∧ x ≤ 4294967295) :
    Calls Try.prog 12 #[.pointer (some ⟨mb, 0, none⟩), .slice A n c] w fun e w' =>
      e = .returned (.int .i64 (min n (256 - L.length) : Nat)) ∧ (∃ v', IsM w' mb base v' (L ++ xs.take (min n (256 - L.length))) ∧ (v'.ownBlock = v.ownBlock ∨ ∃ g, v'.ownBlock = some g ∧ w.heap.size ≤ g)) ∧ Fr (fun k => k = mb ∨ v.ownBlock = some k) w w' := by
  have hlen : xs.length = n := by have := hx.len; simpa using this
  have hcm := hx.cmax
  have hcn := hx.cap
  unfold maxLen at hcm
  have hL := h.len
  have hmlt := h.lt
  go_enter Try.func12, Try.ntmps12
  go_wp2
  go_loopw [5] (fun i wr => ∃ (k : Nat) (v' : Value), k ≤ n ∧ L.length + k ≤ 256 ∧ i = .int .i64 k ∧ IsM wr mb base v' (L ++ xs.take k) ∧ (v'.ownBlock = v.ownBlock ∨ ∃ g, v'.ownBlock = some g ∧ w.heap.size ≤ g) ∧ Fr (fun k => k = mb ∨ v.ownBlock = some k) w wr) (fun i _ => n - (intOf i).toNat)
  case atStart => exact ⟨0, v, Nat.zero_le _, by omega, rfl, by simpa using h, .inl rfl, Fr.refl _ _⟩
  case round =>
    obtain ⟨k, v', hk, hkl, rfl, hM, hat, hF⟩ := hrel
    obtain ⟨A', c', rfl⟩ := slice_of_own hM.own
    have hlk : (L ++ xs.take k).length = L.length + k := by simp; omega
    have c0 : wr.cell? ⟨mb, 0, none⟩ = some (.slice A' (L.length + k) c') := hM.blk.at_ (by rw [hlk]; rfl)
    have f0 : wr.frozen? ⟨mb, 0, none⟩ = false := hM.blk.frozen 0
    by_cases hlt : k < n
    · by_cases hfull : L.length + k = 256
      · have hfin := hidd (show min n (256 - L.length) = k by omega)
        have hd : decide (((L.length : Int) + k) < 256) = false := by simp; omega
        have hlast := hidd hM
        clear hM hlk hfull
        go_wp2
        go_ret
        rw [hfin.out]
        exact ⟨rfl, ⟨_, hlast.out, hat⟩, hF⟩
      · have hd : decide (((L.length : Int) + k) < 256) = true := by simp; omega
        have hxr := hr (xs[k]?.getD 0) (by rw [List.getElem?_eq_getElem (by omega)]; exact List.getElem_mem _)
        have hsn := take_snoc' (xs := xs) (k := k) (by omega)
        obtain ⟨bb, off, rfl, hbb, hcell⟩ := hx.at_ (by omega)
        obtain ⟨hne1, hne2⟩ := hfar (by omega) bb off none rfl
        have hcx : wr.cell? ⟨bb, off + k, none⟩ = some (.int .u32 (xs[k]?.getD 0)) := (hF.cell (p := ⟨bb, off + k, none⟩) hbb (by intro h; rcases h with h | h; exact hne1 h; exact hne2 h)).trans (hcell k _ (by simp [List.getElem?_eq_getElem (show k < xs.length by omega)]))
        obtain ⟨x, hx0⟩ : ∃ x, x = xs[k]?.getD 0 := ⟨_, rfl⟩
        rw [← hx0] at hxr hcx hsn
        have hsn' := hidd hsn
        obtain ⟨x0, x1⟩ := hxr
        have hlt2 : L.length + k < 256 := by omega
        clear hx0 hcell hsn hr hfar hx hfull
        have hown : Hid (wr.ownsRow base 31 1 (.slice A' (L.length + k) c') (L.length + k) ((L ++ xs.take k).map (Value.int .u32))) := by
          have := hM.own
          rw [hlk] at this
          exact this
        have hbw : base ≤ wr.heap.size := by have := hF.size; omega
        have hmw : mb < wr.heap.size := by omega
        have hmb : some mb ≠ (Value.slice A' (L.length + k) c').ownBlock := fun e => by have := (hown.out.lt mb e.symm).1; omega
        have hBm : Hid (Blk ((wr.alloc (.cells #[Value.int .u32 x] 31)).drew) mb 30 #[.slice A' (L.length + k) c']) := by
          have := (hM.blk.alloc (.cells #[Value.int .u32 x] 31)).drew
          rw [hlk] at this
          exact this
        have hmb' := hidd hmb
        have hrg := hidd (show ∀ y ∈ L ++ xs.take (k + 1), 0 ≤ y ∧ y ≤ 4294967295 by
          intro y hy
          rw [hsn'.out, ← List.append_assoc] at hy
          rcases List.mem_append.1 hy with hy | hy
          · exact hM.rng y hy
          · simp at hy; subst hy; exact ⟨x0, x1⟩)
        have hF' := hidd hF
        rw [hlk] at hat
        have hat' := hidd hat
        have hsz := hF.size
        have hlk2 := hidd (show (L ++ xs.take (k + 1)).length = L.length + k + 1 by simp; omega)
        clear hlk hM hF hmb hat
        go_wp2
        go_region_law (first | (refine step_append_rd (v := .slice A' (L.length + k) c') _ rfl (.tmp 22) (.tmp 27) T28 rfl rfl ((hown.out.alloc _).drew) rfl ((Rd.one wr (.int .u32 x) 31 rfl).drew) (by simp [Value.oneCell']) (by unfold maxLen; omega) (by omega) (by simp; omega) ?_; intro v2 w2 hown2 hg2 hat2 hnil2; clear hnil2; obtain ⟨g2, cap2, rfl, hb2, hl2⟩ := hown2.form (by omega); have hB2 := hidd (hBm.out.grown hg2 hmb'.out); have cM : w2.cell? ⟨mb, 0, none⟩ = some (.slice A' (L.length + k) c') := hB2.out.at_ rfl; have fM : w2.frozen? ⟨mb, 0, none⟩ = false := hB2.out.frozen 0))
        all_goals
          have hfin : IsM (w2.setCell ⟨mb, 0, none⟩ (.slice (some ⟨g2, 0, none⟩) (L.length + k + 1) cap2)) mb base (.slice (some ⟨g2, 0, none⟩) (L.length + k + 1) cap2) (L ++ xs.take (k + 1)) := by
            refine ⟨(hB2.out.set 0 _), ?_, hmlt, hrg.out, by rw [hlk2.out]; omega⟩
            rw [hlk2.out, hsn'.out, ← List.append_assoc, List.map_append (l₂ := [x])]
            exact ownsRow_setCell_below hown2 hmlt _
          have hFin : Fr (fun k => k = mb ∨ v.ownBlock = some k) w (w2.setCell ⟨mb, 0, none⟩ (.slice (some ⟨g2, 0, none⟩) (L.length + k + 1) cap2)) := by
            refine Fr.setCell (Fr.grown ((hF'.out.alloc _).drew) hg2 fun q hq => ?_) (.inl (.inl rfl)) _
            rcases hat'.out with h | ⟨g, h, hg⟩
            · exact .inl (.inr (by rw [← h]; exact hq))
            · rw [h] at hq; injection hq with hq; subst hq; exact .inr hg
          have hAt : (Value.slice (some ⟨g2, 0, none⟩) (L.length + k + 1) cap2).ownBlock = v.ownBlock ∨ ∃ g, (Value.slice (some ⟨g2, 0, none⟩) (L.length + k + 1) cap2).ownBlock = some g ∧ w.heap.size ≤ g := by
            rcases hat2 with h | h
            · rw [h]; exact hat'.out
            · exact .inr ⟨_, h, by simp; omega⟩
          have hfin' := hidd hfin
          have hFin' := hidd hFin
          have hAt' := hidd hAt
          clear hfin hFin hAt hat2 hown2 hg2
          go_wp2
          go_roundw
          case rel => exact ⟨k + 1, _, by omega, by omega, by go_num, hfin'.out, hAt'.out, hFin'.out⟩
          case measure => simp [intOf]; omega
    · obtain rfl : k = n := by omega
      have hfin := hidd (show min k (256 - L.length) = k by omega)
      have hlast := hidd hM
      clear hx hr hfar h hM hlk
      go_wp2
      go_ret
      rw [hfin.out]
      exact ⟨rfl, ⟨_, hlast.out, hat⟩, hF⟩

set_option maxRecDepth 100000 in
set_option maxHeartbeats 2000000 in
theorem refNext_yes (w : World) (mb base : Nat) (v : Value) (x : Int) (L : List Int) (h : IsM w mb base v (x :: L)) (hbase : base ≤ w.heap.size) :
    Calls Try.prog 15 #[.pointer (some ⟨mb, 0, none⟩)] w fun e w' =>
      e = .returned (.int .u32 x) ∧ (∃ v', IsM w' mb base v' L ∧ (v'.ownBlock = none ∨ ∃ g, v'.ownBlock = some g ∧ w.heap.size ≤ g)) ∧ Fr (fun k => k = mb) w w' := by
  obtain ⟨hblk, hown, hmlt, hrng, hlen⟩ := h
  obtain ⟨g, c, rfl, hbg, hgl⟩ := hown.form (by simp)
  simp only [List.length_cons] at hown hblk hlen
  have hrd := Rd.of_own hown
  have hrng' := hidd (show ∀ y ∈ L, 0 ≤ y ∧ y ≤ 4294967295 from fun y hy => hrng y (List.mem_cons_of_mem _ hy))
  have c0 : w.cell? ⟨mb, 0, none⟩ = some (.slice (some ⟨g, 0, none⟩) (L.length + 1) c) := hblk.at_ rfl
  have f0 : w.frozen? ⟨mb, 0, none⟩ = false := hblk.frozen 0
  have c1 : w.cell? ⟨g, 0, none⟩ = some (.int .u32 x) := by
    obtain ⟨b, off, e, _, hc⟩ := hrd.at_ (by omega)
    injection e with e; injection e with e1 e2 e3; subst e1 e2
    simpa using hc 0 (.int .u32 x) rfl
  have hcap := hrd.cap
  have hcm := hrd.cmax
  have hd : ((L.length : Int) + 1 == 0) = false := by simp; omega
  have hcut := hrd.cut (k := 1) (by omega)
  simp only [Nat.one_mul, List.drop_succ_cons, List.drop_zero, List.map_cons, Nat.add_sub_cancel] at hcut
  have hmw : mb < w.heap.size := hblk.lt
  by_cases hL : L.length = 0
  · obtain rfl : L = [] := List.eq_nil_of_length_eq_zero hL
    simp only [List.length_nil, Nat.zero_add, List.map_nil] at *
    have hB := hidd hblk
    by_cases hc1 : c = 1
    · subst hc1
      rw [if_pos rfl] at hcut
      have hcut' : Rd w w.heap.size 1 (some ⟨g, 0, none⟩) 0 0 (([] : List Int).map (Value.int .u32)) := hcut
      clear hcut hrd hrng hblk hown hd
      go_enter Try.func15, Try.ntmps15
      go_wp2_with (first | (at_builtin; refine wpList_append_rd (v := .slice none 0 0) _ rfl (.const (.slice none 0 0)) (.tmp 21) T28 rfl rfl (World.ownsRow_nil _ base _ _) rfl hcut' (ints_one _ _) (by unfold maxLen; simp) (by simp) hbase ?_; intro v2 w2 hown2 hg2 hat2 hnil2; have hv2 : v2 = .slice none 0 0 := hnil2.2 ⟨rfl, rfl⟩; clear hnil2 hat2 hown2; subst hv2; have hB2 := hidd (hB.out.grown hg2 (by simp [Value.ownBlock])); have cM : w2.cell? ⟨mb, 0, none⟩ = some (.slice (some ⟨g, 0, none⟩) 1 1) := hB2.out.at_ rfl; have fM : w2.frozen? ⟨mb, 0, none⟩ = false := hB2.out.frozen 0))
      go_ret
      exact ⟨rfl, ⟨.slice none 0 0, ⟨hB2.out.set 0 _, World.ownsRow_nil _ _ _ _, hmlt, hrng'.out, by simp⟩, .inl rfl⟩, ((Fr.refl _ _).grown hg2 (by intro k hk; cases hk)).setB _⟩
    · rw [if_neg hc1] at hcut
      have hcut' : Rd w w.heap.size 1 (some ⟨g, 1, none⟩) 0 (c - 1) (([] : List Int).map (Value.int .u32)) := hcut
      clear hcut hrd hrng hblk hown hd
      go_enter Try.func15, Try.ntmps15
      go_wp2_with (first | (at_builtin; refine wpList_append_rd (v := .slice none 0 0) _ rfl (.const (.slice none 0 0)) (.tmp 21) T28 rfl rfl (World.ownsRow_nil _ base _ _) rfl hcut' (ints_one _ _) (by unfold maxLen; simp) (by simp) hbase ?_; intro v2 w2 hown2 hg2 hat2 hnil2; have hv2 : v2 = .slice none 0 0 := hnil2.2 ⟨rfl, rfl⟩; clear hnil2 hat2 hown2; subst hv2; have hB2 := hidd (hB.out.grown hg2 (by simp [Value.ownBlock])); have cM : w2.cell? ⟨mb, 0, none⟩ = some (.slice (some ⟨g, 0, none⟩) 1 c) := hB2.out.at_ rfl; have fM : w2.frozen? ⟨mb, 0, none⟩ = false := hB2.out.frozen 0))
      go_ret
      exact ⟨rfl, ⟨.slice none 0 0, ⟨hB2.out.set 0 _, World.ownsRow_nil _ _ _ _, hmlt, hrng'.out, by simp⟩, .inl rfl⟩, ((Fr.refl _ _).grown hg2 (by intro k hk; cases hk)).setB _⟩
  · have hc1 : ¬ c = 1 := by omega
    rw [if_neg hc1] at hcut
    have hcut' : Rd w w.heap.size 1 (some ⟨g, 1, none⟩) L.length (c - 1) (L.map (Value.int .u32)) := hcut
    have hB := hidd hblk
    clear hcut hrd hrng hblk hown
    go_enter Try.func15, Try.ntmps15
    go_wp2_with (first | (at_builtin; refine wpList_append_rd (v := .slice none 0 0) _ rfl (.const (.slice none 0 0)) (.tmp 21) T28 rfl rfl (World.ownsRow_nil _ base _ _) rfl hcut' (ints_one _ _) (by unfold maxLen; omega) (by omega) hbase ?_; intro v2 w2 hown2 hg2 hat2 hnil2; clear hnil2; obtain ⟨g2, cap2, rfl, hb2, hl2⟩ := hown2.form (by omega); have hB2 := hidd (hB.out.grown hg2 (by simp [Value.ownBlock])); have cM : w2.cell? ⟨mb, 0, none⟩ = some (.slice (some ⟨g, 0, none⟩) (L.length + 1) c) := hB2.out.at_ rfl; have fM : w2.frozen? ⟨mb, 0, none⟩ = false := hB2.out.frozen 0))
    go_ret
    refine ⟨rfl, ⟨_, ⟨hB2.out.set 0 _, ?_, hmlt, hrng'.out, by omega⟩, ?_⟩, ((Fr.refl _ _).grown hg2 (by intro k hk; cases hk)).setB _⟩
    · have := ownsRow_setCell_below (a := ⟨mb, 0, none⟩) hown2 hmlt (.slice (some ⟨g2, 0, none⟩) (0 + L.length) cap2)
      simpa using this
    · rcases hat2 with h | h
      · simp [Value.ownBlock] at h
      · exact .inr ⟨_, h, Nat.le_refl _⟩

set_option maxRecDepth 100000 in
theorem refNext_no (w : World) (mb base : Nat) (v : Value) (h : IsM w mb base v []) :
    Calls Try.prog 15 #[.pointer (some ⟨mb, 0, none⟩)] w fun e w' => e = .returned (.int .u32 0) ∧ w = w' := by
  obtain ⟨A, c, rfl⟩ := slice_of_own h.own
  have c0 : w.cell? ⟨mb, 0, none⟩ = some (.slice A 0 c) := h.blk.at_ rfl
  go_enter Try.func15, Try.ntmps15
  go_wp2
  go_ret
  exact ⟨rfl, rfl⟩

set_option maxRecDepth 100000 in
theorem refBelow_yes (w : World) (mb base : Nat) (v : Value) (x n : Int) (L : List Int) (h : IsM w mb base v (x :: L)) (hbase : base ≤ w.heap.size) (n0 : 0 ≤ n) (n1 : n ≤ 4294967295) :
    Calls Try.prog 17 #[.pointer (some ⟨mb, 0, none⟩), .int .u32 n] w fun e w' =>
      e = .returned (.int .u32 (below x n)) ∧ (∃ v', IsM w' mb base v' L ∧ (v'.ownBlock = none ∨ ∃ g, v'.ownBlock = some g ∧ w.heap.size ≤ g)) ∧ Fr (fun k => k = mb) w w' := by
  obtain ⟨x0, x1⟩ := h.rng x (List.mem_cons_self ..)
  obtain ⟨m0, m1⟩ := mul_bd x0 x1 n0 n1
  go_enter Try.func17, Try.ntmps17
  go_wp2_with (go_at_call 15; refine (refNext_yes w mb base v x L h hbase).mono ?_; rintro e w' ⟨rfl, h1, h2⟩)
  go_ret
  exact ⟨rfl, h1, h2⟩
set_option maxRecDepth 100000 in
theorem refBelow_no (w : World) (mb base : Nat) (v : Value) (n : Int) (h : IsM w mb base v []) (n0 : 0 ≤ n) (n1 : n ≤ 4294967295) :
    Calls Try.prog 17 #[.pointer (some ⟨mb, 0, none⟩), .int .u32 n] w fun e w' => e = .returned (.int .u32 0) ∧ w = w' := by
  go_enter Try.func17, Try.ntmps17
  go_wp2_with (go_at_call 15; refine (refNext_no w mb base v h).mono ?_; rintro e w' ⟨rfl, rfl⟩)
  go_ret
  exact ⟨rfl, rfl⟩
end Go.Proofs.Ytgalphhamdemfaa
