/- 'DrawsPlay': for every input the law returns true; nothing that was there is written. No condition. -/
import Derived.Test.YtgalphhamdemfaaGreat
import Derived.Deep.RegionHeld3
import Derived.Deep.QuietTactic
import Derived.BigQuiet
import Derived.Deep.LoopGhost
namespace Go.Proofs.Ytgalphhamdemfaa
open Go.ChangeShapes Go.WideShapes Go.ChangeAt Go.RowKit Go.Deep
set_option linter.unusedVariables false

/-- Both sides hold the same words: the program's in block B, the document's in block B + 1. -/
structure Both (w W : World) (L : List Int) (v : Value) : Prop where
  isW : IsW W w.heap.size L
  isM : IsM W (w.heap.size + 1) (w.heap.size + 2) v L
  bel : Below w.heap.size w W
  sz : w.heap.size + 2 ≤ W.heap.size

theorem IsW.drew {w : World} {b : Nat} {L : List Int} (h : IsW w b L) : IsW w.drew b L := h
theorem IsM.drew {w : World} {mb base : Nat} {v : Value} {L : List Int} (h : IsM w mb base v L) : IsM w.drew mb base v L := ⟨h.blk, h.own, h.lt, h.rng, h.len⟩

theorem Both.drew {w W : World} {L : List Int} {v : Value} (h : Both w W L v) : Both w W.drew L v := ⟨h.isW.drew, h.isM.drew, h.bel.drew, h.sz⟩

theorem Both.own {w W : World} {L : List Int} {v : Value} (h : Both w W L v) {k : Nat} (hk : v.ownBlock = some k) : w.heap.size + 2 ≤ k ∧ k < W.heap.size := h.isM.own.lt k hk

/-- With a twin in block g, which is neither's. -/
structure Both0 (w W : World) (L : List Int) (v : Value) (g n : Nat) : Prop where
  both : Both w W L v
  glo : w.heap.size + 2 ≤ g
  gown : v.ownBlock ≠ some g
  twin : ∃ cs, Blk W g 31 cs ∧ cs.size = n + 4

theorem Both0.set {w W : World} {L : List Int} {v : Value} {g n j : Nat} (h : Both0 w W L v g n) (u : Value) : Both0 w (W.setCell ⟨g, j, none⟩ u) L v g n := by
  have hg := h.glo
  have hF : Fr (· = g) W (W.setCell ⟨g, j, none⟩ u) := (Fr.refl _ _).setB u
  refine ⟨⟨h.both.isW.fr hF (by omega), h.both.isM.fr hF (by omega) (fun k hk e => ?_), h.both.bel.setCell (p := ⟨g, j, none⟩) (by simp; omega) u, by have := h.both.sz; simpa [World.setCell] using this⟩, hg, h.gown, ?_⟩
  · subst e
    exact h.gown hk
  · obtain ⟨cs, h1, h2⟩ := h.twin
    exact ⟨_, h1.set j u, by simpa using h2⟩

theorem min_len (L : List Int) (n : Nat) (xs : List Int) (h : xs.length = n) : (L ++ xs.take (min n (256 - L.length))).length ≤ max L.length 256 := by
  simp; omega

/-- What the feeding leaves, call by call: the program's, the document's, and the look at the twin. -/
def FeedEnd (w : World) (g n : Nat) (b off k : Nat) (a : ActV) (e : Ending) (W : World) : Prop :=
  e = .returned (.bool true) ∧ ∃ L v, Both0 w W L v g n ∧ W.cell? ⟨b, off + k * 3 + 1, none⟩ = some (.slice a.A a.n a.c)

theorem feed_steps {w wr w2 : World} {L : List Int} {v : Value} {a : ActV} {b off k : Nat} (hB : Both w wr L v) (hrd : Rd wr w.heap.size 1 a.A a.n a.c (a.xs.map (Value.int .u32))) (hrng : ∀ x ∈ a.xs, 0 ≤ x ∧ x ≤ 4294967295) (hsm : a.n ≤ 2000)
    (hb : b < w.heap.size) (e2 : wr.cell? ⟨b, off + k * 3 + 1, none⟩ = some (.slice a.A a.n a.c)) (hT : Blk w2 wr.heap.size 31 (twinCells .u32 a.xs 3351707649)) (hF2 : Fr (fun _ => False) wr w2) (hz2 : w2.heap.size = wr.heap.size + 1) :
    ∃ r : Nat, Calls Try.prog 11 #[.pointer (some ⟨w.heap.size, 0, none⟩), .slice (some ⟨wr.heap.size, 0, none⟩) a.n (a.n + 4)] w2.drew fun e w3 =>
      e = .returned (.int .i64 r) ∧ w3.cell? ⟨b, off + k * 3 + 1, none⟩ = some (.slice a.A a.n a.c) ∧
      Hid (Calls Try.prog 12 #[.pointer (some ⟨w.heap.size + 1, 0, none⟩), .slice a.A a.n a.c] w3 fun e w4 =>
        e = .returned (.int .i64 r) ∧ w4.cell? ⟨b, off + k * 3 + 1, none⟩ = some (.slice a.A a.n a.c) ∧
        Hid (Calls Try.prog 13 #[.slice (some ⟨wr.heap.size, 0, none⟩) a.n (a.n + 4), .slice a.A a.n a.c] w4 (FeedEnd w wr.heap.size a.n b off k a))) := by
  have hlen : a.xs.length = a.n := by have := hrd.len; simpa using this
  have hsz := hB.sz
  have hT' := hT.drew
  have hrT := hT'.twin_rd (B := w2.drew.heap.size) hT'.lt (by unfold maxLen; omega)
  rw [hlen] at hrT
  have hW2 := (hB.isW.fr hF2 (fun h => h)).drew
  have hM2 := (hB.isM.fr hF2 (fun h => h) (fun _ _ h => h)).drew
  have hbl2 := (hF2.below (B := w.heap.size) (by omega) (fun _ h => h.elim)).drew
  refine ⟨min a.n (256 - L.length), (feed_any w2.drew w.heap.size L hW2 _ _ _ a.xs hrT (fun _ bb o sp h => by injection h with h; injection h with h1; omega) hrng).mono ?_⟩
  rintro e w3 ⟨rfl, hW3, hF3⟩
  have hbl3 := hF3.below (B := w.heap.size) (by have := hF2.size; show w.heap.size ≤ w2.heap.size; omega) (fun k hk => by omega)
  have hbl23 := hbl2.trans hbl3
  have hM3 := hM2.fr hF3 (by omega) (fun q hq e => by have := (hB.own hq).1; omega)
  have hT3 := hT'.fr hF3 (by omega)
  have hs3 := hF3.size
  have hs3' : w2.heap.size ≤ w3.heap.size := hs3
  refine ⟨rfl, (hbl23.cell (p := ⟨b, off + k * 3 + 1, none⟩) hb).trans e2, ?_⟩
  refine (refFeed_any w3 _ _ v L hM3 (by omega) _ _ _ a.xs ((hrd.below hbl23).more (by omega)) (fun hn bb o sp h => ?_) hrng).mono ?_
  · obtain ⟨bb', o', h', hlt, _⟩ := hrd.at_ hn
    rw [h] at h'
    injection h' with h'
    injection h' with h1 h2 h3
    subst h1
    refine ⟨by omega, fun e => ?_⟩
    have := (hB.own e).1
    omega
  · rintro e w4 ⟨rfl, ⟨v', hM4, hat⟩, hF4⟩
    have hbl4 := hF4.below (B := w.heap.size) (by omega) (fun q hq => by
      rcases hq with rfl | hq
      · omega
      · have := (hB.own hq).1; omega)
    have hbl234 := hbl23.trans hbl4
    have hs4 := hF4.size
    have hng : ¬ (wr.heap.size = w.heap.size + 1 ∨ v.ownBlock = some wr.heap.size) := by
      rintro (h | h)
      · omega
      · have := (hB.own h).2; omega
    have hT4 := hT3.fr hF4 hng
    have hW4 := hW3.fr hF4 (fun h => by
      rcases h with h | h
      · omega
      · have := (hB.own h).1; omega)
    refine ⟨rfl, (hbl234.cell (p := ⟨b, off + k * 3 + 1, none⟩) hb).trans e2, ?_⟩
    refine (leftWords_yes w4 wr.heap.size a.A a.n a.c a.xs hT4 ((hrd.below hbl234).more (by omega)) (by omega)).mono ?_
    rintro e w5 ⟨rfl, m, rfl⟩
    refine ⟨rfl, _, v', ⟨⟨hW4, ⟨hM4.blk, hM4.own, hM4.lt, hM4.rng, hM4.len⟩, ⟨(hB.bel.trans hbl234).os, (hB.bel.trans hbl234).tape, (hB.bel.trans hbl234).output, (hB.bel.trans hbl234).size, (hB.bel.trans hbl234).block⟩, by show w.heap.size + 2 ≤ w4.heap.size; omega⟩, hsz, fun e => ?_, ⟨_, hT4, by rw [twinCells_size, hlen]⟩⟩, (hbl234.cell (p := ⟨b, off + k * 3 + 1, none⟩) hb).trans e2⟩
    rcases hat with h | ⟨g, h, hg⟩
    · rw [h] at e; exact hng (.inr e)
    · rw [h] at e; injection e with e; omega

theorem both_next {w W w3 w4 : World} {x : Int} {L : List Int} {v v' : Value} (hB : Both w W (x :: L) v) (hW3 : IsW w3 w.heap.size L) (hF3 : Fr (· = w.heap.size) W w3) (hM4 : IsM w4 (w.heap.size + 1) (w.heap.size + 2) v' L) (hF4 : Fr (fun k => k = w.heap.size + 1) w3 w4) : Both w w4 L v' := by
  have hsz := hB.sz
  have h3 := hF3.size
  have h4 := hF4.size
  exact ⟨hW3.fr hF4 (by omega), hM4, (hB.bel.trans (hF3.below (by omega) (fun k hk => by omega))).trans (hF4.below (by omega) (fun k hk => by omega)), by omega⟩

theorem next_steps {w W : World} {x n : Int} {L : List Int} {v : Value} {b o : Nat} {u : Value} (hB : Both w W (x :: L) v) (n0 : 0 ≤ n) (n1 : n ≤ 4294967295) (hb : b < w.heap.size) (hu : W.cell? ⟨b, o, none⟩ = some u) :
    Calls Try.prog 14 #[.pointer (some ⟨w.heap.size, 0, none⟩)] W fun e w3 => e = .returned (.int .u32 x) ∧ w3.cell? ⟨b, o, none⟩ = some u ∧
      Hid (Calls Try.prog 15 #[.pointer (some ⟨w.heap.size + 1, 0, none⟩)] w3 fun e w4 => e = .returned (.int .u32 x) ∧ w4.cell? ⟨b, o, none⟩ = some u ∧ ∃ v', Both w w4 L v') := by
  have hsz := hB.sz
  refine (next_yes W w.heap.size x L hB.isW).mono ?_
  rintro e w3 ⟨rfl, hW3, hF3⟩
  have hb3 := hF3.below (B := w.heap.size) (by omega) (fun k hk => by omega)
  have h3 := hF3.size
  refine ⟨rfl, (hb3.cell (p := ⟨b, o, none⟩) hb).trans hu, ?_⟩
  have hM3 := hB.isM.fr hF3 (by omega) (fun k hk e => by have := (hB.own hk).1; omega)
  refine (refNext_yes w3 _ _ v x L hM3 (by omega)).mono ?_
  rintro e w4 ⟨rfl, ⟨v', hM4, _⟩, hF4⟩
  have hb4 := hF4.below (B := w.heap.size) (by omega) (fun k hk => by omega)
  exact ⟨rfl, ((hb3.trans hb4).cell (p := ⟨b, o, none⟩) hb).trans hu, v', both_next hB hW3 hF3 hM4 hF4⟩

theorem drain_steps {w W : World} {x : Int} {L : List Int} {v : Value} (hB : Both w W (x :: L) v) :
    Calls Try.prog 14 #[.pointer (some ⟨w.heap.size, 0, none⟩)] W fun e w3 => e = .returned (.int .u32 x) ∧
      Hid (Calls Try.prog 15 #[.pointer (some ⟨w.heap.size + 1, 0, none⟩)] w3 fun e w4 => e = .returned (.int .u32 x) ∧ ∃ v', Both w w4 L v') := by
  have hsz := hB.sz
  refine (next_yes W w.heap.size x L hB.isW).mono ?_
  rintro e w3 ⟨rfl, hW3, hF3⟩
  have h3 := hF3.size
  refine ⟨rfl, ?_⟩
  have hM3 := hB.isM.fr hF3 (by omega) (fun k hk e => by have := (hB.own hk).1; omega)
  refine (refNext_yes w3 _ _ v x L hM3 (by omega)).mono ?_
  rintro e w4 ⟨rfl, ⟨v', hM4, _⟩, hF4⟩
  exact ⟨rfl, v', both_next hB hW3 hF3 hM4 hF4⟩

theorem below_steps {w W : World} {x n : Int} {L : List Int} {v : Value} {b o : Nat} {u : Value} (hB : Both w W (x :: L) v) (n0 : 0 ≤ n) (n1 : n ≤ 4294967295) (hb : b < w.heap.size) (hu : W.cell? ⟨b, o, none⟩ = some u) :
    Calls Try.prog 16 #[.pointer (some ⟨w.heap.size, 0, none⟩), .int .u32 n] W fun e w3 => e = .returned (.int .u32 (below x n)) ∧ w3.cell? ⟨b, o, none⟩ = some u ∧
      Hid (Calls Try.prog 17 #[.pointer (some ⟨w.heap.size + 1, 0, none⟩), .int .u32 n] w3 fun e w4 => e = .returned (.int .u32 (below x n)) ∧ w4.cell? ⟨b, o, none⟩ = some u ∧ ∃ v', Both w w4 L v') := by
  have hsz := hB.sz
  refine (below_yes W w.heap.size x n L hB.isW n0 n1).mono ?_
  rintro e w3 ⟨rfl, hW3, hF3⟩
  have hb3 := hF3.below (B := w.heap.size) (by omega) (fun k hk => by omega)
  have h3 := hF3.size
  refine ⟨rfl, (hb3.cell (p := ⟨b, o, none⟩) hb).trans hu, ?_⟩
  have hM3 := hB.isM.fr hF3 (by omega) (fun k hk e => by have := (hB.own hk).1; omega)
  refine (refBelow_yes w3 _ _ v x n L hM3 (by omega) n0 n1).mono ?_
  rintro e w4 ⟨rfl, ⟨v', hM4, _⟩, hF4⟩
  have hb4 := hF4.below (B := w.heap.size) (by omega) (fun k hk => by omega)
  exact ⟨rfl, ((hb3.trans hb4).cell (p := ⟨b, o, none⟩) hb).trans hu, v', both_next hB hW3 hF3 hM4 hF4⟩

set_option maxRecDepth 100000 in
set_option maxHeartbeats 8000000 in
theorem walkDrawsPlay (A0 : Option Addr) (n0 c0 : Nat) (z0 : Nat → ActV) (w : World) (w0 : IsActs w A0 n0 c0 z0) :
    Calls Try.prog 3 #[.slice A0 n0 c0] w fun e w' => e = .returned (.bool true) ∧ Below w.heap.size w w' := by
  have hgr := hidd (great_any w A0 n0 c0 z0 w0)
  have hcm := w0.cmax
  have hcn := w0.cap
  unfold maxLen at hcm
  go_enter Try.func3, Try.ntmps3
  go_wp2_with fail
  refine Calls.mono hgr ?_
  rintro e w' ⟨g, rfl, hg, rfl⟩
  clear hgr
  cases g with
  | true =>
    clear hg
    go_wp2_with (go_at_call 8; refine (lives_any _).mono ?_; rintro e w' ⟨rfl, hbel⟩)
    go_ret
    exact ⟨rfl, hbel⟩
  | false =>
    have hcnt := hg rfl
    clear hg
    go_wp2_with fail
    refine (new_any _).mono ?_
    rintro e w1 ⟨rfl, hW1, hF1, hz1⟩
    have hst : Both w (w1.alloc (.cells #[.slice none 0 0] 30)) [] (.slice none 0 0) := by
      refine ⟨hW1.fr ((Fr.refl (fun _ => False) w1).alloc _) (fun h => h), ⟨?_, World.ownsRow_nil _ _ _ _, by omega, by simp, by simp⟩, (hF1.below (Nat.le_refl _) (fun _ h => h.elim)).trans ((Below.refl _ w1).alloc (by omega) _), by simp; omega⟩
      rw [← hz1]
      exact Blk.new w1 30 _
    have hst' := hidd hst
    clear hW1 hF1 hst
    go_wp2
    go_loopw [5] (fun i wr => ∃ (k : Nat) (L : List Int) (v : Value), k ≤ n0 ∧ i = .int .i64 k ∧ Both w wr L v) (fun i _ => n0 - (intOf i).toNat)
    case atStart => exact ⟨0, _, _, Nat.zero_le _, rfl, hst'.out⟩
    case round =>
      obtain ⟨k, L, v, hk, rfl, hB⟩ := hrel
      obtain ⟨wo, rfl⟩ : ∃ wo : World, wo = wr := ⟨_, rfl⟩
      by_cases hlt : k < n0
      · obtain ⟨b, off, rfl, hb, hcell⟩ := w0.at_ (by omega)
        obtain ⟨d1, d2, d3⟩ := hcell k hlt
        have e1 := (hB.bel.cell (p := ⟨b, off + k * 3, none⟩) hb).trans d1
        have e2 := (hB.bel.cell (p := ⟨b, off + k * 3 + 1, none⟩) hb).trans d2
        have e3 := (hB.bel.cell (p := ⟨b, off + k * 3 + 2, none⟩) hb).trans d3
        obtain ⟨k0, k1⟩ := w0.kind k hlt
        obtain ⟨n1, n2⟩ := w0.bound k hlt
        have hrd := (w0.rd k hlt).below hB.bel
        have hrng := hidd (w0.rng k hlt)
        have hsm : (z0 k).n ≤ 2000 := by have := cnt_mono z0 hlt; omega
        obtain ⟨a, ha⟩ : ∃ a, a = z0 k := ⟨_, rfl⟩
        rw [← ha] at e1 e2 e3 k0 k1 n1 n2 hrd hrng hsm
        have hrd' := hidd hrd
        have hB' := hidd hB
        have hsz := hB.sz
        clear ha hrd hB d1 d2 d3 hcell w0 hst'
        rcases (show a.kind % 3 = 0 ∨ a.kind % 3 = 1 ∨ a.kind % 3 = 2 by omega) with hkd | hkd | hkd
        · go_wp2_with (go_at_call 10; refine (twinWords_any wo a.A a.n a.c a.xs (hrd'.out.more (by omega)) (by omega)).mono ?_; rintro e w2 ⟨rfl, hT, hF2, hz2⟩)
          obtain ⟨r, H0⟩ := feed_steps hB'.out hrd'.out hrng.out hsm hb e2 hT hF2 hz2
          have H0' := hidd H0
          have q2 : w2.cell? ⟨b, off + k * 3 + 1, none⟩ = some (.slice a.A a.n a.c) := (hF2.cell (p := ⟨b, off + k * 3 + 1, none⟩) (by show b < wo.heap.size; omega) (fun h => h)).trans e2
          clear H0 hT hF2
          go_region_held3 (fun W => W.cell? ⟨b, off + k * 3 + 1, none⟩ = some (.slice a.A a.n a.c)) (first | assumption | simp [*])
            (first
              | (go_at_call 11; refine Calls.mono H0' ?_; rintro e w3 ⟨rfl, q3, H1⟩)
              | (go_at_call 12; refine Calls.mono H1 ?_; rintro e w4 ⟨rfl, q4, H2⟩)
              | (go_at_call 13; refine Calls.mono H2 ?_; rintro e w5 ⟨rfl, L5, v5, hB5, q5⟩))
          clear H0' H1 H2 q2 q3 q4 q5
          have hlo5 := hB5.glo
          have hB5h := hidd hB5
          clear hB5
          go_wp2
          go_loopw [7] (fun i wr2 => ∃ j : Nat, j ≤ a.n ∧ i = .int .i64 j ∧ Both0 w wr2 L5 v5 wo.heap.size a.n) (fun i _ => a.n - (intOf i).toNat)
          case atStart => exact ⟨0, Nat.zero_le _, rfl, hB5h.out⟩
          case round =>
            obtain ⟨j, hj, rfl, hB0⟩ := hrel
            clear hB5h
            by_cases hjl : j < a.n
            · obtain ⟨cs, hcs, hcz⟩ := hB0.twin
              have ck : wr.cell? ⟨wo.heap.size, j, none⟩ = some cs[j] := (hcs.cell j).trans (Array.getElem?_eq_getElem (by omega))
              have fk : wr.frozen? ⟨wo.heap.size, j, none⟩ = false := hcs.frozen j
              obtain ⟨y, hy⟩ : ∃ y, y = cs[j] := ⟨_, rfl⟩
              rw [← hy] at ck
              have hB0' := hidd hB0
              clear hB0 hcs hcz hy
              go_wp2
              go_roundw
              case rel => exact ⟨j + 1, by omega, by go_num, hB0'.out.set _⟩
              case measure => simp [intOf]; omega
            · have hB5 := hB0.both
              obtain ⟨W5, hW5⟩ : ∃ W5 : World, W5 = wr := ⟨_, rfl⟩
              clear hB0 hW5
              obtain ⟨A5, c5, hv5⟩ := slice_of_own hB5.isM.own
              have q1 : wr.cell? ⟨w.heap.size, 257, none⟩ = some (.int .i64 L5.length) := by
                obtain ⟨cs, f, hb, hc⟩ := hB5.isW
                exact hb.at_ hc.many
              have q2 : wr.cell? ⟨w.heap.size + 1, 0, none⟩ = some (.slice A5 L5.length c5) := by rw [← hv5]; exact hB5.isM.blk.at_ rfl
              have hB5' := hidd hB5
              clear hB5 hv5
              go_wp2
              go_region_held3 (fun W => W.cell? ⟨w.heap.size + 1, 0, none⟩ = some (.slice A5 L5.length c5)) (first | assumption | exact q2)
                (first
                  | (go_at_call 18; refine (len_any _ w.heap.size L5.length (by exact q1)).mono ?_; rintro e w' ⟨rfl, rfl⟩))
              go_wp2
              go_roundw
              case rel => exact ⟨k + 1, L5, v5, by omega, by go_num, hB5'.out.drew⟩
              case measure => simp [intOf]; omega
        · cases L with
          | nil =>
            have q1 := hB'.out.isW.none_cell
            have hM := hidd hB'.out.isM
            go_wp2_with (first
              | (go_at_call 14; refine (next_no _ _ q1).mono ?_; rintro e w' ⟨rfl, rfl⟩)
              | (go_at_call 15; refine (refNext_no _ _ _ _ hM.out).mono ?_; rintro e w' ⟨rfl, rfl⟩))
            clear q1 hM
            obtain ⟨L5, v5, hB5⟩ : ∃ L5 v5, Both w wo L5 v5 := ⟨_, _, hB'.out⟩
            obtain ⟨A5, c5, hv5⟩ := slice_of_own hB5.isM.own
            have q1 : wo.cell? ⟨w.heap.size, 257, none⟩ = some (.int .i64 L5.length) := by
              obtain ⟨cs, f, hb, hc⟩ := hB5.isW
              exact hb.at_ hc.many
            have q2 : wo.cell? ⟨w.heap.size + 1, 0, none⟩ = some (.slice A5 L5.length c5) := by rw [← hv5]; exact hB5.isM.blk.at_ rfl
            have hB5' := hidd hB5
            clear hB5 hv5
            go_wp2
            go_region_held3 (fun W => W.cell? ⟨w.heap.size + 1, 0, none⟩ = some (.slice A5 L5.length c5)) (first | assumption | exact q2)
              (first
                | (go_at_call 18; refine (len_any _ w.heap.size L5.length (by exact q1)).mono ?_; rintro e w' ⟨rfl, rfl⟩))
            go_wp2
            go_roundw
            case rel => exact ⟨k + 1, L5, v5, by omega, by go_num, hB5'.out.drew⟩
            case measure => simp [intOf]; omega
          | cons x L =>
            have H0 := hidd (next_steps hB'.out n1 n2 hb e3)
            go_wp2_with (first
              | (go_at_call 14; refine Calls.mono H0 ?_; rintro e w3 ⟨rfl, q3, H1⟩)
              | (go_at_call 15; refine Calls.mono H1 ?_; rintro e w4 ⟨rfl, q4, v4, hB4⟩))
            clear H0 H1 q3 q4
            obtain ⟨L5, v5, hB5⟩ : ∃ L5 v5, Both w w4 L5 v5 := ⟨_, _, hB4⟩
            clear hB4
            obtain ⟨A5, c5, hv5⟩ := slice_of_own hB5.isM.own
            have q1 : w4.cell? ⟨w.heap.size, 257, none⟩ = some (.int .i64 L5.length) := by
              obtain ⟨cs, f, hb, hc⟩ := hB5.isW
              exact hb.at_ hc.many
            have q2 : w4.cell? ⟨w.heap.size + 1, 0, none⟩ = some (.slice A5 L5.length c5) := by rw [← hv5]; exact hB5.isM.blk.at_ rfl
            have hB5' := hidd hB5
            clear hB5 hv5
            go_wp2
            go_region_held3 (fun W => W.cell? ⟨w.heap.size + 1, 0, none⟩ = some (.slice A5 L5.length c5)) (first | assumption | exact q2)
              (first
                | (go_at_call 18; refine (len_any _ w.heap.size L5.length (by exact q1)).mono ?_; rintro e w' ⟨rfl, rfl⟩))
            go_wp2
            go_roundw
            case rel => exact ⟨k + 1, L5, v5, by omega, by go_num, hB5'.out.drew⟩
            case measure => simp [intOf]; omega
        · go_wp2
          cases L with
          | nil =>
            have q1 := hB'.out.isW.none_cell
            have hM := hidd hB'.out.isM
            go_region_held3 (fun W => W.cell? ⟨b, off + k * 3 + 2, none⟩ = some (.int .u32 a.N)) (first | assumption | exact e3)
              (first
                | (go_at_call 16; refine (below_no _ _ _ (by exact q1) n1 n2).mono ?_; rintro e w' ⟨rfl, rfl⟩)
                | (go_at_call 17; refine (refBelow_no _ _ _ _ _ (by exact hM.out.drew) n1 n2).mono ?_; rintro e w' ⟨rfl, rfl⟩))
            clear q1 hM
            obtain ⟨L5, v5, hB5⟩ : ∃ L5 v5, Both w wo.drew L5 v5 := ⟨_, _, hB'.out.drew⟩
            obtain ⟨A5, c5, hv5⟩ := slice_of_own hB5.isM.own
            have q1 : wo.drew.cell? ⟨w.heap.size, 257, none⟩ = some (.int .i64 L5.length) := by
              obtain ⟨cs, f, hb, hc⟩ := hB5.isW
              exact hb.at_ hc.many
            have q2 : wo.drew.cell? ⟨w.heap.size + 1, 0, none⟩ = some (.slice A5 L5.length c5) := by rw [← hv5]; exact hB5.isM.blk.at_ rfl
            have hB5' := hidd hB5
            clear hB5 hv5
            go_wp2
            go_region_held3 (fun W => W.cell? ⟨w.heap.size + 1, 0, none⟩ = some (.slice A5 L5.length c5)) (first | assumption | exact q2)
              (first
                | (go_at_call 18; refine (len_any _ w.heap.size L5.length (by exact q1)).mono ?_; rintro e w' ⟨rfl, rfl⟩))
            go_wp2
            go_roundw
            case rel => exact ⟨k + 1, L5, v5, by omega, by go_num, hB5'.out.drew⟩
            case measure => simp [intOf]; omega
          | cons x L =>
            have H0 := hidd (below_steps hB'.out.drew n1 n2 hb e3)
            go_region_held3 (fun W => W.cell? ⟨b, off + k * 3 + 2, none⟩ = some (.int .u32 a.N)) (first | assumption | exact e3)
              (first
                | (go_at_call 16; refine Calls.mono H0 ?_; rintro e w3 ⟨rfl, q3, H1⟩)
                | (go_at_call 17; refine Calls.mono H1 ?_; rintro e w4 ⟨rfl, q4, v4, hB4⟩))
            clear H0 H1 q3 q4
            obtain ⟨L5, v5, hB5⟩ : ∃ L5 v5, Both w w4 L5 v5 := ⟨_, _, hB4⟩
            clear hB4
            obtain ⟨A5, c5, hv5⟩ := slice_of_own hB5.isM.own
            have q1 : w4.cell? ⟨w.heap.size, 257, none⟩ = some (.int .i64 L5.length) := by
              obtain ⟨cs, f, hb, hc⟩ := hB5.isW
              exact hb.at_ hc.many
            have q2 : w4.cell? ⟨w.heap.size + 1, 0, none⟩ = some (.slice A5 L5.length c5) := by rw [← hv5]; exact hB5.isM.blk.at_ rfl
            have hB5' := hidd hB5
            clear hB5 hv5
            go_wp2
            go_region_held3 (fun W => W.cell? ⟨w.heap.size + 1, 0, none⟩ = some (.slice A5 L5.length c5)) (first | assumption | exact q2)
              (first
                | (go_at_call 18; refine (len_any _ w.heap.size L5.length (by exact q1)).mono ?_; rintro e w' ⟨rfl, rfl⟩))
            go_wp2
            go_roundw
            case rel => exact ⟨k + 1, L5, v5, by omega, by go_num, hB5'.out.drew⟩
            case measure => simp [intOf]; omega
      · have hB' := hidd hB
        clear hB w0 hst'
        go_wp2
        go_loopg [] L.length (fun m wr => ∃ (L6 : List Int) (v6 : Value), L6.length = m ∧ Both w wr L6 v6)
        case atStart => exact ⟨L, v, rfl, hB'.out⟩
        case round =>
          obtain ⟨L6, v6, rfl, hB6⟩ := hrel
          obtain ⟨A6, c6, hv6⟩ := slice_of_own hB6.isM.own
          have q2 : wr.cell? ⟨w.heap.size + 1, 0, none⟩ = some (.slice A6 L6.length c6) := by rw [← hv6]; exact hB6.isM.blk.at_ rfl
          clear hv6
          cases L6 with
          | nil =>
            have q1 := hB6.isW.none_cell
            have hb6 := hidd hB6.bel
            clear hB6 hB'
            go_wp2_with (first
              | (go_at_call 18; refine (len_any _ _ 0 q1).mono ?_; rintro e w' ⟨rfl, rfl⟩)
              | (go_at_call 8; refine (lives_any _).mono ?_; rintro e w' ⟨rfl, hbel⟩))
            go_ret
            exact ⟨rfl, hb6.out.trans (hbel.mono (hb6.out.size))⟩
          | cons x L =>
            have H0 := hidd (drain_steps hB6)
            clear hB6 hB'
            go_wp2_with (first
              | (go_at_call 14; refine Calls.mono H0 ?_; rintro e w3 ⟨rfl, H1⟩)
              | (go_at_call 15; refine Calls.mono H1 ?_; rintro e w4 ⟨rfl, v4, hB4⟩))
            clear H0 H1
            have hB4' := hidd hB4
            clear hB4
            go_roundg L.length
            case measure => simp
            case rel => exact ⟨L, v4, rfl, hB4'.out⟩
set_option maxRecDepth 100000 in
theorem liftedDrawsPlay (os : Os) (started : os.Started) (H : Type) (enc : TypeId × Value → H) :
    ReturnsInHanded {} Try.checked os 3 .any (Rows.drawsPlaySpec.pre6 enc Try.prog Try.f3 Rows.drawsPlayRow.domain false) (Rows.drawsPlaySpec.post enc Try.prog Try.f3 false true false false) := by
  refine returnsInHanded_of_change_sized (C := Try.checked) own started (by kernel_rfl) Try.func3
    (ChangeSpec.witness6 (enc := enc) (C := Try.checked) false ⟨#[], #[.slice none 0 0], []⟩ 8 (by kernel_rfl) (by kernel_rfl) (by kernel_rfl) (by kernel_rfl)) ?_
  intro W base args ds gs before hval0 hW hcnd hsz0 _
  have hval : ∀ (j : Nat) t v, Try.f3.params[j]? = some t → args[j]? = some v → Value.okWide Try.prog W .any base t v := hval0
  have hW' := hW
  obtain ⟨p, q, hA0, hV, rfl, hfz, hnd⟩ := hW
  have hA : DataW.TrodAll enc Try.prog W 0 (fun _ => true) true Try.f3.params.toList args.toList ds p := hA0
  have hsz : (DataW.weightsEach Try.prog (Try.f3.params.toList ++ Rows.drawsPlaySpec.plain.varTypes Try.prog) (ds ++ gs)).all (· ≤ reachBytes) = true := hsz0
  rw [Try.params3] at hA hval hsz
  obtain ⟨v0, vs0, d0, ds0, p0, q0, hargs, rfl, rfl, h0, r0⟩ := trodAll_cons hA
  obtain ⟨rfl, rfl, rfl⟩ := trodAll_nil r0
  obtain rfl : args = #[v0] := by cases args; simp_all
  obtain ⟨rfl, rfl⟩ := trodVars_none hV
  have k0 := h0
  have lt0 : ∀ x ∈ p0, x.block < W.heap.size := by obtain ⟨m, hm⟩ := k0; exact DataW.trod_lt m _ _ _ hm
  have fit0 : Fit Try.prog 22 d0 := fun m hm => by simpa using List.all_eq_true.1 hsz _ (DataW.weights_mem_each (j := 0) (t := 22) rfl rfl m hm)
  obtain ⟨A0, n0, c0, z0, ev0, w0⟩ := open_acts (hval 0 22 v0 rfl rfl) h0 fit0
  subst ev0
  clear hA0 hval0
  refine (walkDrawsPlay A0 n0 c0 z0 W w0).mono fun e W' ⟨he, bel⟩ => ?_
  subst he
  exact ⟨_, rfl, _, _, _, [], _, [], hW', trodAll_mk1 (shut_bool Try.underlying4 _), (trodAll_cons_mk (Below.trod laidOut (by kernel_rfl) (of_decide_eq_true (by kernel_rfl)) k0 bel lt0) trodAll_mk0), rfl, bel.frame _, fun h => by cases h⟩

/-- THE STATEMENT: 'DrawsPlay'. -/
theorem drawsPlay_holds : Rows.DrawsPlaySaid :=
  OpenClaim.holds_of_wide 3 Try.f3 rfl rfl rfl rfl rfl rfl rfl ⟨rfl, rfl, rfl, rfl, rfl⟩ rfl rfl rfl rfl rfl (by kernel_rfl) Try.func3 (by kernel_rfl)
    (of_decide_eq_true (by kernel_rfl)) (by unfold Func.isWrapper; first | (rw [if_pos (by decide +kernel)]; kernel_rfl) | (rw [if_neg (by decide +kernel)]; exact ⟨rfl, rfl⟩))
    (fun os started H enc _ => liftedDrawsPlay os started H enc)

end Go.Proofs.Ytgalphhamdemfaa
