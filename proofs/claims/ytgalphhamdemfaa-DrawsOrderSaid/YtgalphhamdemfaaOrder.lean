/- 'DrawsOrder': for every input the law returns true; nothing that was there is written. No condition. -/
import Derived.Test.YtgalphhamdemfaaGreat
import Derived.Deep.RegionHeld3
import Derived.Deep.QuietTactic
import Derived.Deep.RegionLaw
import Derived.BigQuiet
import Derived.Deep.LoopGhost
namespace Go.Proofs.Ytgalphhamdemfaa
open Go.ChangeShapes Go.WideShapes Go.ChangeAt Go.RowKit Go.Deep
set_option linter.unusedVariables false

/-- A beginning 's[:k]'. -/
theorem Rd.take {w : World} {B size n c : Nat} {A : Option Addr} {xs : List Value} (h : Rd w B size A n c xs) {k : Nat} (hk : k ≤ n) : Rd w B size A k c (xs.take (k * size)) := by
  have hc := h.cap
  have hm := h.cmax
  have hl := h.len
  have hle : k * size ≤ n * size := Nat.mul_le_mul_right _ hk
  refine ⟨by rw [List.length_take, hl]; omega, by omega, hm, fun e => ?_, fun hn => ?_⟩
  · have := h.nil_ e
    omega
  · obtain ⟨b, off, rfl, hb, hcell⟩ := h.at_ (by omega)
    refine ⟨b, off, rfl, hb, fun j u hu => hcell j u ?_⟩
    have : j < k * size := by
      rcases Nat.lt_or_ge j (k * size) with hj | hj
      · exact hj
      · rw [List.getElem?_eq_none (by simp; omega)] at hu; cases hu
    rwa [List.getElem?_take_of_lt this] at hu

/-- What went in, what came out, and what waits: the queue is in block B. -/
structure Ord (w W : World) (L inn out : List Int) (vi vo : Value) : Prop where
  isW : IsW W w.heap.size L
  oin : W.ownsRow (w.heap.size + 1) 31 1 vi inn.length (inn.map (Value.int .u32))
  oout : W.ownsRow (w.heap.size + 1) 31 1 vo out.length (out.map (Value.int .u32))
  apart : ∀ g, vi.ownBlock = some g → vo.ownBlock ≠ some g
  eq : inn = out ++ L
  bel : Below w.heap.size w W
  sz : w.heap.size + 1 ≤ W.heap.size
  len : L.length ≤ 256

section
variable {w W W' W2 : World} {L inn out : List Int} {vi vo v2 : Value}
theorem Ord.drew (h : Ord w W L inn out vi vo) : Ord w W.drew L inn out vi vo := ⟨h.isW, h.oin, h.oout, h.apart, h.eq, h.bel.drew, h.sz, h.len⟩

theorem Ord.sum (h : Ord w W L inn out vi vo) : inn.length = out.length + L.length := by rw [h.eq, List.length_append]

theorem Ord.fed {xs : List Int} (h : Ord w W L inn out vi vo) {n : Nat} (hxs : (L ++ xs).length ≤ 256) (hF : Fr (· = w.heap.size) W W') (hW : IsW W' w.heap.size (L ++ xs))
    (ho : W2.ownsRow (w.heap.size + 1) 31 1 v2 n ((inn.map (Value.int .u32)) ++ xs.map (Value.int .u32))) (hn : n = inn.length + xs.length) (hg : W'.grownBy W2 vi.ownBlock) (hat : v2.ownBlock = vi.ownBlock ∨ v2.ownBlock = some W'.heap.size) :
    Ord w W2 (L ++ xs) (inn ++ xs) out v2 vo := by
  have hsz := h.sz
  have hs := hF.size
  have hFg := Fr.of_grown hg
  have hin : ∀ k, vi.ownBlock = some k → w.heap.size + 1 ≤ k ∧ k < W.heap.size := fun k hk => h.oin.lt k hk
  have hout : ∀ k, vo.ownBlock = some k → w.heap.size + 1 ≤ k ∧ k < W.heap.size := fun k hk => h.oout.lt k hk
  refine ⟨hW.fr hFg (fun e => by have := (hin _ e).1; omega), ?_, ?_, ?_, by rw [h.eq, List.append_assoc], ?_, by have := hFg.size; omega, hxs⟩
  · rw [List.map_append, List.length_append, ← hn]; exact ho
  · refine ownRow_fr (ownRow_fr h.oout hF (fun k hk e => by have := (hout k hk).1; omega)) hFg (fun k hk e => ?_)
    exact h.apart k e hk
  · intro g hg2 hvo
    rcases hat with e | e
    · exact h.apart g (e ▸ hg2) hvo
    · rw [e] at hg2; injection hg2 with hg2; have := (hout g hvo).2; omega
  · refine (h.bel.trans (hF.below (by omega) (fun k hk => by omega))).trans (hFg.below (by omega) (fun k hk => by have := (hin k hk).1; omega))

theorem Ord.took {x : Int} (h : Ord w W (x :: L) inn out vi vo) {n : Nat} (hF : Fr (· = w.heap.size) W W') (hW : IsW W' w.heap.size L) {o : Obj}
    (ho : W2.ownsRow (w.heap.size + 1) 31 1 v2 n ((out.map (Value.int .u32)) ++ [Value.int .u32 x])) (hn : n = out.length + 1) (hg : (W'.alloc o).grownBy W2 vo.ownBlock) (hat : v2.ownBlock = vo.ownBlock ∨ v2.ownBlock = some (W'.alloc o).heap.size) :
    Ord w W2 L inn (out ++ [x]) vi v2 := by
  have hsz := h.sz
  have hs := hF.size
  have hFa : Fr (fun _ => False) W' (W'.alloc o) := (Fr.refl _ _).alloc o
  have hs2 := hFa.size
  have hFg := Fr.of_grown hg
  have hin : ∀ k, vi.ownBlock = some k → w.heap.size + 1 ≤ k ∧ k < W.heap.size := fun k hk => h.oin.lt k hk
  have hout : ∀ k, vo.ownBlock = some k → w.heap.size + 1 ≤ k ∧ k < W.heap.size := fun k hk => h.oout.lt k hk
  refine ⟨(hW.fr hFa (fun h => h)).fr hFg (fun e => by have := (hout _ e).1; omega), ?_, ?_, ?_, by rw [h.eq]; simp, ?_, by have := hFg.size; omega, by have := h.len; simp at this; omega⟩
  · refine ownRow_fr (ownRow_fr (ownRow_fr h.oin hF (fun k hk e => by have := (hin k hk).1; omega)) hFa (fun _ _ e => e)) hFg (fun k hk e => ?_)
    exact h.apart k hk e
  · rw [List.map_append, List.length_append, List.length_singleton, ← hn]; exact ho
  · intro g hvi hg2
    rcases hat with e | e
    · exact h.apart g hvi (e ▸ hg2)
    · rw [e] at hg2; injection hg2 with hg2; have := (hin g hvi).2; omega
  · refine ((h.bel.trans (hF.below (by omega) (fun k hk => by omega))).trans (hFa.below (by omega) (fun _ e => e.elim))).trans (hFg.below (by omega) (fun k hk => by have := (hout k hk).1; omega))

theorem Ord.in2 (h : Ord w W L inn out vi vo) (hF : Fr (· = w.heap.size) W W') : W'.ownsRow (w.heap.size + 1) 31 1 vi inn.length (inn.map (Value.int .u32)) :=
  ownRow_fr h.oin hF (fun k hk e => by have := (h.oin.lt k hk).1; omega)

theorem Ord.out2 (h : Ord w W L inn out vi vo) (hF : Fr (· = w.heap.size) W W') (o : Obj) : (W'.alloc o).ownsRow (w.heap.size + 1) 31 1 vo out.length (out.map (Value.int .u32)) :=
  ownRow_fr (ownRow_fr h.oout hF (fun k hk e => by have := (h.oout.lt k hk).1; omega)) ((Fr.refl (fun _ => False) W').alloc o) (fun _ _ e => e)

theorem Ord.many (h : Ord w W L inn out vi vo) {m : Nat} (hm : m = L.length) : W.cell? ⟨w.heap.size, 257, none⟩ = some (.int .i64 m) := by
  obtain ⟨cs, f, hb, hc⟩ := h.isW
  rw [hm]
  exact hb.at_ hc.many

theorem feed_at {a : ActV} {b off : Nat} (h : Ord w W L inn out vi vo) (hrd : Rd W w.heap.size 1 a.A a.n a.c (a.xs.map (Value.int .u32))) (hrng : ∀ x ∈ a.xs, 0 ≤ x ∧ x ≤ 4294967295) (hb : b < w.heap.size)
    (e2 : W.cell? ⟨b, off, none⟩ = some (.slice a.A a.n a.c)) {r : Nat} (hr : r = min a.n (256 - L.length)) :
    Calls Try.prog 11 #[.pointer (some ⟨w.heap.size, 0, none⟩), .slice a.A a.n a.c] W fun e w2 => e = .returned (.int .i64 r) ∧ w2.cell? ⟨b, off, none⟩ = some (.slice a.A a.n a.c) ∧
      Hid (IsW w2 w.heap.size (L ++ a.xs.take r)) ∧ Hid (Fr (· = w.heap.size) W w2) ∧ Hid (Rd w2 w.heap.size 1 a.A r a.c ((a.xs.take r).map (Value.int .u32))) := by
  have hsz := h.sz
  have hrn : r ≤ a.n := by omega
  refine (feed_any W w.heap.size L h.isW _ _ _ a.xs (hrd.more (by omega)) (fun hn bb o sp e => ?_) hrng).mono ?_
  · obtain ⟨bb', o', h', hlt, _⟩ := hrd.at_ hn
    rw [e] at h'
    injection h' with h'
    injection h' with h1 h2 h3
    omega
  · rintro e w2 ⟨rfl, hW2, hF2⟩
    rw [← hr] at hW2 ⊢
    have hbl := hF2.below (B := w.heap.size) (by omega) (fun k hk => by omega)
    refine ⟨rfl, (hbl.cell (p := ⟨b, off, none⟩) hb).trans e2, hW2, hF2, ?_⟩
    have := (hrd.below hbl).take hrn
    rwa [Nat.mul_one, ← List.map_take] at this
end

set_option maxRecDepth 100000 in
set_option maxHeartbeats 8000000 in
theorem walkDrawsOrder (A0 : Option Addr) (n0 c0 : Nat) (z0 : Nat → ActV) (w : World) (w0 : IsActs w A0 n0 c0 z0) :
    Calls Try.prog 5 #[.slice A0 n0 c0] w fun e w' => e = .returned (.bool true) ∧ Below w.heap.size w w' := by
  have hgr := hidd (great_any w A0 n0 c0 z0 w0)
  have hcm := w0.cmax
  have hcn := w0.cap
  unfold maxLen at hcm
  go_enter Try.func5, Try.ntmps5
  go_wp2_with fail
  refine Calls.mono hgr ?_
  rintro e w' ⟨g, rfl, hg, rfl⟩
  clear hgr
  cases g with
  | true =>
    clear hg
    go_wp2_with (go_at_call 8; refine (lives_any _).mono ?_; rintro e w' ⟨rfl, hbel⟩)
    go_ret
    exact ⟨rfl, hbel⟩
  | false =>
    have hcnt := hg rfl
    clear hg
    go_wp2_with fail
    refine (new_any _).mono ?_
    rintro e w1 ⟨rfl, hW1, hF1, hz1⟩
    have hst : Ord w w1 [] [] [] (.slice none 0 0) (.slice none 0 0) :=
      ⟨hW1, World.ownsRow_nil _ _ _ _, World.ownsRow_nil _ _ _ _, by simp [Value.ownBlock], rfl, hF1.below (Nat.le_refl _) (fun _ h => h.elim), by omega, by simp⟩
    have hst' := hidd hst
    clear hW1 hF1 hst
    go_wp2
    go_loopw [4, 5, 6] (fun vi vo i wr => ∃ (k : Nat) (L inn out : List Int), k ≤ n0 ∧ i = .int .i64 k ∧ inn.length ≤ cnt z0 k ∧ Ord w wr L inn out vi vo) (fun _ _ i _ => n0 - (intOf i).toNat)
    case atStart => exact ⟨0, [], [], [], Nat.zero_le _, rfl, by simp, hst'.out⟩
    case round =>
      obtain ⟨k, L, inn, out, hk, rfl, hcn1, hO⟩ := hrel
      obtain ⟨wo, rfl⟩ : ∃ wo : World, wo = wr := ⟨_, rfl⟩
      obtain ⟨Ai, ci, rfl⟩ := slice_of_own hO.oin
      obtain ⟨Ao, co, rfl⟩ := slice_of_own hO.oout
      have hsum := hO.sum
      have hLl := hO.len
      have hsz := hO.sz
      have hi1 := (Rd.of_own hO.oin).cap
      have hi2 := (Rd.of_own hO.oin).cmax
      have ho1 := (Rd.of_own hO.oout).cap
      have ho2 := (Rd.of_own hO.oout).cmax
      unfold maxLen at hi2 ho2
      by_cases hlt : k < n0
      · obtain ⟨b, off, rfl, hb, hcell⟩ := w0.at_ (by omega)
        obtain ⟨d1, d2, d3⟩ := hcell k hlt
        have e1 := (hO.bel.cell (p := ⟨b, off + k * 3, none⟩) hb).trans d1
        have e2 := (hO.bel.cell (p := ⟨b, off + k * 3 + 1, none⟩) hb).trans d2
        obtain ⟨k0, k1⟩ := w0.kind k hlt
        have hrd := (w0.rd k hlt).below hO.bel
        have hrng := hidd (w0.rng k hlt)
        have hcm1 := cnt_mono z0 hlt
        have hnext := hidd (show cnt z0 (k + 1) = cnt z0 k + 1 + (z0 k).n from rfl)
        obtain ⟨a, ha⟩ : ∃ a, a = z0 k := ⟨_, rfl⟩
        obtain ⟨cc, hcc⟩ : ∃ cc, cc = cnt z0 k := ⟨_, rfl⟩
        rw [← ha] at e1 e2 k0 k1 hrd hrng hcm1 hnext
        rw [← hcc] at hcn1 hcm1 hnext
        have han : a.n ≤ a.c := hrd.cap
        have hac := hrd.cmax
        unfold maxLen at hac
        have hrd' := hidd hrd
        have hO' := hidd hO
        clear ha hcc hrd hO d1 d2 d3 hcell w0 hst'
        obtain ⟨p, hp⟩ : ∃ p, p = out.length := ⟨_, rfl⟩
        obtain ⟨q, hq⟩ : ∃ q, q = L.length := ⟨_, rfl⟩
        obtain ⟨pq, hpq⟩ : ∃ pq, pq = inn.length := ⟨_, rfl⟩
        rw [← hp, ← hq, ← hpq] at hsum
        rw [← hq] at hLl
        rw [← hpq] at hi1 hcn1
        rw [← hp] at ho1
        rw [← hpq, ← hp]
        have hp' := hidd hp
        have hq' := hidd hq
        have hpq' := hidd hpq
        clear hp hq hpq
        by_cases hkd : a.kind % 3 = 0
        · obtain ⟨r, hr⟩ : ∃ r, r = min a.n (256 - L.length) := ⟨_, rfl⟩
          have hr1 : r ≤ a.n := by omega
          have hr2 : r + q ≤ 256 := by have := hq'.out; omega
          have hr3 : r ≤ a.xs.length := by have := hrd'.out.len; simp at this; omega
          have hr4 : a.n ≤ 256 - q ∧ r = a.n ∨ 256 - q < a.n ∧ r = 256 - q := by have := hq'.out; omega
          have hfd := hidd (feed_at hO'.out hrd'.out hrng.out hb e2 hr)
          have hbase := hO'.out.sz
          clear hr
          subst hsum
          rcases hr4 with ⟨hr4, hr5⟩ | ⟨hr4, hr5⟩
          · subst hr5
            go_wp2_with (first
              | (go_at_call 11; refine Calls.mono hfd ?_; rintro e w2 ⟨rfl, q2, hW2, hF2, hrd2⟩)
              | (at_builtin
                 have hown2 := hO'.out.in2 hF2.out
                 rw [← hpq'.out] at hown2
                 have hs2 := hF2.out.size
                 refine wpList_append_rd (v := .slice Ai (p + q) ci) _ rfl (.tmp 49) (.tmp 56) T28 rfl rfl hown2 rfl hrd2.out (ints_one _ _) (by unfold maxLen; omega) (by omega) (by omega) ?_
                 intro v3 w3 hown3 hg3 hat3 hnil3
                 clear hnil3 hown2
                 obtain ⟨A3, c3, rfl⟩ := slice_of_own hown3
                 have hO3 := hO'.out.fed (by rw [List.length_append, List.length_take, ← hq'.out]; omega) hF2.out hW2.out hown3 (by rw [List.length_take, ← hpq'.out]; omega) (by rw [← hpq'.out]; exact hg3) (by rw [← hpq'.out]; exact hat3)
                 have q3 := hO3.many (m := q + a.n) (by rw [List.length_append, List.length_take, ← hq'.out]; omega)
                 have hO3' := hidd hO3
                 clear hO3 hown3 hg3 hat3)
              | (go_at_call 18; refine (len_any _ w.heap.size ((q + a.n : Nat) : Int) (by exact q3)).mono ?_; rintro e w' ⟨rfl, rfl⟩))
            go_roundw
            case rel => exact ⟨k + 1, L ++ a.xs.take a.n, inn ++ a.xs.take a.n, out, by omega, by go_num, by rw [hnext.out, List.length_append, List.length_take, ← hpq'.out]; omega, by have h := hO3'.out; rw [← hp'.out] at h; exact h⟩
            case measure => simp [intOf]; omega
          · have hr6 : 256 ≤ r + q := by omega
            clear hr5
            go_wp2_with (first
              | (go_at_call 11; refine Calls.mono hfd ?_; rintro e w2 ⟨rfl, q2, hW2, hF2, hrd2⟩)
              | (at_builtin
                 have hown2 := hO'.out.in2 hF2.out
                 rw [← hpq'.out] at hown2
                 have hs2 := hF2.out.size
                 refine wpList_append_rd (v := .slice Ai (p + q) ci) _ rfl (.tmp 49) (.tmp 56) T28 rfl rfl hown2 rfl hrd2.out (ints_one _ _) (by unfold maxLen; omega) (by omega) (by omega) ?_
                 intro v3 w3 hown3 hg3 hat3 hnil3
                 clear hnil3 hown2
                 obtain ⟨A3, c3, rfl⟩ := slice_of_own hown3
                 have hO3 := hO'.out.fed (by rw [List.length_append, List.length_take, ← hq'.out]; omega) hF2.out hW2.out hown3 (by rw [List.length_take, ← hpq'.out]; omega) (by rw [← hpq'.out]; exact hg3) (by rw [← hpq'.out]; exact hat3)
                 have q3 := hO3.many (m := q + r) (by rw [List.length_append, List.length_take, ← hq'.out]; omega)
                 have hO3' := hidd hO3
                 clear hO3 hown3 hg3 hat3)
              | (go_at_call 18; refine (len_any _ w.heap.size ((q + r : Nat) : Int) (by exact q3)).mono ?_; rintro e w' ⟨rfl, rfl⟩))
            go_roundw
            case rel => exact ⟨k + 1, L ++ a.xs.take r, inn ++ a.xs.take r, out, by omega, by go_num, by rw [hnext.out, List.length_append, List.length_take, ← hpq'.out]; omega, by have h := hO3'.out; rw [← hp'.out] at h; exact h⟩
            case measure => simp [intOf]; omega
        · have hkd' : (a.kind % 3 == 0) = false := by simp; omega
          cases L with
          | nil =>
            obtain rfl : q = 0 := hq'.out
            subst hsum
            have q1 := hO'.out.isW.none_cell
            go_wp2_with (first
              | (go_at_call 14; refine (next_no _ _ q1).mono ?_; rintro e w' ⟨rfl, rfl⟩)
              | (go_at_call 18; refine (len_any _ _ 0 q1).mono ?_; rintro e w' ⟨rfl, rfl⟩))
            go_roundw
            case rel => exact ⟨k + 1, [], inn, out, by omega, by go_num, by rw [hnext.out, ← hpq'.out]; omega, by have h := hO'.out; rw [← hpq'.out, ← hp'.out] at h; exact h⟩
            case measure => simp [intOf]; omega
          | cons x L =>
            obtain ⟨q', rfl⟩ : ∃ q', q = q' + 1 := ⟨L.length, hq'.out⟩
            subst hsum
            have hbase := hO'.out.sz
            have hlt3 : p < p + (q' + 1) := by omega
            go_wp2_with (first
              | (go_at_call 14; refine (next_yes _ _ _ _ hO'.out.isW).mono ?_; rintro e w2 ⟨rfl, hW2, hF2⟩; have hW2' := hidd hW2; have hF2' := hidd hF2; clear hW2 hF2)
              | (at_builtin
                 have hown2 := hO'.out.out2 hF2'.out (.cells #[Value.int .u32 x] 31)
                 rw [← hp'.out] at hown2
                 have hs2 := hF2'.out.size
                 refine wpList_append_rd (v := .slice Ao p co) _ rfl (.tmp 63) (.tmp 66) T28 rfl rfl hown2 rfl (Rd.one w2 (.int .u32 x) 31 rfl) (by simp [Value.oneCell']) (by unfold maxLen; omega) (by omega) (by simp; omega) ?_
                 intro v3 w3 hown3 hg3 hat3 hnil3
                 clear hnil3 hown2
                 obtain ⟨A3, c3, rfl⟩ := slice_of_own hown3
                 have hO3 := hO'.out.took hF2'.out hW2'.out hown3 (by rw [← hp'.out]) (by rw [← hp'.out]; exact hg3) (by rw [← hp'.out]; exact hat3)
                 have q3 := hO3.many (m := q') (by have := hq'.out; simp at this; omega)
                 have hO3' := hidd hO3
                 clear hO3 hown3 hg3 hat3)
              | (go_at_call 18; refine (len_any _ w.heap.size (q' : Int) (by exact q3)).mono ?_; rintro e w' ⟨rfl, rfl⟩))
            go_roundw
            case rel => exact ⟨k + 1, L, inn, out ++ [x], by omega, by go_num, by rw [hnext.out, ← hpq'.out]; omega, by have h := hO3'.out; rw [← hpq'.out] at h; exact h⟩
            case measure => simp [intOf]; omega
      · have hO' := hidd hO
        have hinn : inn.length ≤ 2000 := by
          obtain rfl : k = n0 := by omega
          omega
        have hnot : ¬ (k < n0) := hlt
        clear w0 hst' hO hcnt hcn1
        go_wp2
        go_loopg [5] L.length (fun m vo wr => ∃ (L6 out6 : List Int), L6.length = m ∧ Ord w wr L6 inn out6 (.slice Ai inn.length ci) vo)
        case atStart => exact ⟨L, out, rfl, hO'.out⟩
        case round =>
          obtain ⟨L6, out6, rfl, hO6⟩ := hrel
          obtain ⟨Ao6, co6, rfl⟩ := slice_of_own hO6.oout
          have hsum6 := hO6.sum
          have hO6' := hidd hO6
          have hbase := hO6.sz
          have ho6 := (Rd.of_own hO6.oout).cap
          have ho7 := (Rd.of_own hO6.oout).cmax
          unfold maxLen at ho7
          obtain ⟨p, hp⟩ : ∃ p, p = out6.length := ⟨_, rfl⟩
          obtain ⟨pq, hpq⟩ : ∃ pq, pq = inn.length := ⟨_, rfl⟩
          rw [← hp, ← hpq] at hsum6
          rw [← hpq] at hinn hi1
          rw [← hp] at ho6
          rw [← hp, ← hpq]
          have hp' := hidd hp
          have hpq' := hidd hpq
          clear hO6 hO' hp hpq hsum
          cases L6 with
          | nil =>
            obtain rfl : pq = p := hsum6
            have q1 := hO6'.out.isW.none_cell
            have hsame : Hid (Calls Try.prog 19 #[.slice Ai pq ci, .slice Ao6 pq co6] wr fun e w' => e = .returned (.bool true) ∧ ∃ m, w' = wr.drewN m) := by
              have h1 := Rd.of_own hO6'.out.oin
              have h2 := Rd.of_own hO6'.out.oout
              have h3 := hO6'.out.eq
              rw [List.append_nil] at h3
              rw [← hpq'.out] at h1
              rw [← hp'.out, ← h3] at h2
              exact sameWords_yes wr _ Ai Ao6 pq ci co6 inn h1 h2
            have hb6 := hidd hO6'.out.bel
            clear hO6'
            go_wp2_with (first
              | (go_at_call 19; refine Calls.mono hsame ?_; rintro e w' ⟨rfl, m, rfl⟩)
              | (go_at_call 14; refine (next_no (wr.drewN m) _ q1).mono ?_; rintro e w' ⟨rfl, rfl⟩)
              | (go_at_call 8; refine (lives_any _).mono ?_; rintro e w' ⟨rfl, hbel⟩))
            go_ret
            have hd : Below w.heap.size w (wr.drewN m) := ⟨hb6.out.os, hb6.out.tape, hb6.out.output, hb6.out.size, hb6.out.block⟩
            exact ⟨rfl, hd.trans (hbel.mono (hb6.out.size))⟩
          | cons x L =>
            have hlt3 : p < pq := by have := hsum6; simp at this; omega
            clear hsum6
            go_wp2_with (first
              | (go_at_call 14; refine (next_yes _ _ _ _ hO6'.out.isW).mono ?_; rintro e w2 ⟨rfl, hW2, hF2⟩; have hW2' := hidd hW2; have hF2' := hidd hF2; clear hW2 hF2)
              | (at_builtin
                 have hown2 := hO6'.out.out2 hF2'.out (.cells #[Value.int .u32 x] 31)
                 rw [← hp'.out] at hown2
                 have hs2 := hF2'.out.size
                 refine wpList_append_rd (v := .slice Ao6 p co6) _ rfl (.tmp 84) (.tmp 87) T28 rfl rfl hown2 rfl (Rd.one w2 (.int .u32 x) 31 rfl) (by simp [Value.oneCell']) (by unfold maxLen; omega) (by omega) (by simp; omega) ?_
                 intro v3 w3 hown3 hg3 hat3 hnil3
                 clear hnil3 hown2
                 obtain ⟨A3, c3, rfl⟩ := slice_of_own hown3
                 have hO3 := hO6'.out.took hF2'.out hW2'.out hown3 (by rw [← hp'.out]) (by rw [← hp'.out]; exact hg3) (by rw [← hp'.out]; exact hat3)
                 have hO3' := hidd hO3
                 clear hO3 hown3 hg3 hat3))
            obtain rfl : pq = inn.length := hpq'.out
            go_roundg L.length
            case measure => simp
            case rel => exact ⟨L, out6 ++ [x], rfl, hO3'.out⟩
set_option maxRecDepth 100000 in
theorem liftedDrawsOrder (os : Os) (started : os.Started) (H : Type) (enc : TypeId × Value → H) :
    ReturnsInHanded {} Try.checked os 5 .any (Rows.drawsOrderSpec.pre6 enc Try.prog Try.f5 Rows.drawsOrderRow.domain false) (Rows.drawsOrderSpec.post enc Try.prog Try.f5 false true false false) := by
  refine returnsInHanded_of_change_sized (C := Try.checked) own started (by kernel_rfl) Try.func5
    (ChangeSpec.witness6 (enc := enc) (C := Try.checked) false ⟨#[], #[.slice none 0 0], []⟩ 8 (by kernel_rfl) (by kernel_rfl) (by kernel_rfl) (by kernel_rfl)) ?_
  intro W base args ds gs before hval0 hW hcnd hsz0 _
  have hval : ∀ (j : Nat) t v, Try.f5.params[j]? = some t → args[j]? = some v → Value.okWide Try.prog W .any base t v := hval0
  have hW' := hW
  obtain ⟨p, q, hA0, hV, rfl, hfz, hnd⟩ := hW
  have hA : DataW.TrodAll enc Try.prog W 0 (fun _ => true) true Try.f5.params.toList args.toList ds p := hA0
  have hsz : (DataW.weightsEach Try.prog (Try.f5.params.toList ++ Rows.drawsOrderSpec.plain.varTypes Try.prog) (ds ++ gs)).all (· ≤ reachBytes) = true := hsz0
  rw [Try.params5] at hA hval hsz
  obtain ⟨v0, vs0, d0, ds0, p0, q0, hargs, rfl, rfl, h0, r0⟩ := trodAll_cons hA
  obtain ⟨rfl, rfl, rfl⟩ := trodAll_nil r0
  obtain rfl : args = #[v0] := by cases args; simp_all
  obtain ⟨rfl, rfl⟩ := trodVars_none hV
  have k0 := h0
  have lt0 : ∀ x ∈ p0, x.block < W.heap.size := by obtain ⟨m, hm⟩ := k0; exact DataW.trod_lt m _ _ _ hm
  have fit0 : Fit Try.prog 22 d0 := fun m hm => by simpa using List.all_eq_true.1 hsz _ (DataW.weights_mem_each (j := 0) (t := 22) rfl rfl m hm)
  obtain ⟨A0, n0, c0, z0, ev0, w0⟩ := open_acts (hval 0 22 v0 rfl rfl) h0 fit0
  subst ev0
  clear hA0 hval0
  refine (walkDrawsOrder A0 n0 c0 z0 W w0).mono fun e W' ⟨he, bel⟩ => ?_
  subst he
  exact ⟨_, rfl, _, _, _, [], _, [], hW', trodAll_mk1 (shut_bool Try.underlying4 _), (trodAll_cons_mk (Below.trod laidOut (by kernel_rfl) (of_decide_eq_true (by kernel_rfl)) k0 bel lt0) trodAll_mk0), rfl, bel.frame _, fun h => by cases h⟩

/-- THE STATEMENT: 'DrawsOrder'. -/
theorem drawsOrder_holds : Rows.DrawsOrderSaid :=
  OpenClaim.holds_of_wide 5 Try.f5 rfl rfl rfl rfl rfl rfl rfl ⟨rfl, rfl, rfl, rfl, rfl⟩ rfl rfl rfl rfl rfl (by kernel_rfl) Try.func5 (by kernel_rfl)
    (of_decide_eq_true (by kernel_rfl)) (by unfold Func.isWrapper; first | (rw [if_pos (by decide +kernel)]; kernel_rfl) | (rw [if_neg (by decide +kernel)]; exact ⟨rfl, rfl⟩))
    (fun os started H enc _ => liftedDrawsOrder os started H enc)

end Go.Proofs.Ytgalphhamdemfaa
