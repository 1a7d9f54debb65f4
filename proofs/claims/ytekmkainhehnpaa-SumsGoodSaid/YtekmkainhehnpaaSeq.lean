/- Package sums: the iterator over all bytes of lists, and the checksum over it; each function walked once. No condition but that the lists read as said. -/
import Derived.Test.YtekmkainhehnpaaRows
import Derived.Test.YtekmkainhehnpaaMem
import Derived.RangeFuncBox
import Derived.RangeFuncFrom
import Derived.RangeFuncNested
import Derived.RangeFuncBound
import Derived.RangeFuncCalls
import Derived.RangeFuncLeaves
import Derived.Shelf.Abstract
import Derived.OwnWalkIn
import Derived.TacticsInMore
import Derived.LoopNIn
import Derived.LoopIn
import Derived.Shelf.RegionOpen
import Derived.Laws.BitsAllLaws
namespace Go.Proofs.Ytekmkainhehnpaa
open Go.ChangeShapes Go.WideShapes Go.ChangeAt Go.RowKit Go.Shelf
set_option linter.unusedVariables false
attribute [local go_sem] Oper.semAt_some

/-- What has come when k rounds are over. -/
def upto {α : Type} (f : Nat → α) (k : Nat) : List α := (List.range k).map f
theorem upto_succ {α : Type} (f : Nat → α) (k : Nat) : upto f (k + 1) = upto f k ++ [f k] := by simp [upto, List.range_succ]
theorem upto_length {α : Type} (f : Nat → α) (k : Nat) : (upto f k).length = k := by simp [upto]

/-- A byte and its place's weight. -/
abbrev Item := { x : Int × Int // (0 ≤ x.1 ∧ x.1 ≤ 255) ∧ (x.2 = 8 ∨ x.2 = 0) }

/-- The bytes of a list, each made a byte. -/
def item (l : List Int) (j : Nat) : Item := ⟨(l[j]?.getD 0 % 256, 8 - 8 * ((j : Int) % 2)), by
  refine ⟨by dsimp only; omega, by dsimp only; omega⟩⟩

/-- A list of lists of bytes, below block B. -/
structure Lists (w : World) (B : Nat) (A : Option Addr) (m c : Nat) (xss : List (List Int)) : Prop where
  len : xss.length = m
  cap : m ≤ c
  cmax : c ≤ maxLen
  at_ : 0 < m → ∃ b off, A = some ⟨b, off, none⟩ ∧ b < B ∧ ∀ i, i < m → ∃ Ai ni ci, w.cell? ⟨b, off + i, none⟩ = some (.slice Ai ni ci) ∧ Rd w B 1 Ai ni ci ((xss[i]?.getD []).map (Value.int .u8))
  rng : ∀ xs ∈ xss, ∀ x ∈ xs, 0 ≤ x ∧ x ≤ 255

theorem Lists.below {w w' : World} {B m c : Nat} {A : Option Addr} {xss : List (List Int)} (h : Lists w B A m c xss) (hb : Below B w w') : Lists w' B A m c xss :=
  ⟨h.len, h.cap, h.cmax, fun hm => by
    obtain ⟨b, off, e, hlt, hc⟩ := h.at_ hm
    exact ⟨b, off, e, hlt, fun i hi => by
      obtain ⟨Ai, ni, ci, h1, h2⟩ := hc i hi
      exact ⟨Ai, ni, ci, (hb.cell (p := ⟨b, off + i, none⟩) hlt).trans h1, h2.below hb⟩⟩, h.rng⟩

theorem lists_take_succ (xss : List (List Int)) {k : Nat} (hk : k < xss.length) : (xss.take (k + 1)).flatten = (xss.take k).flatten ++ xss[k]?.getD [] := by
  rw [List.take_succ_eq_append_getElem hk, List.flatten_append]
  simp [hk]

theorem lists_get (xss : List (List Int)) {k j : Nat} (hk : k < xss.length) (hj : j < (xss[k]?.getD []).length) : xss.flatten[(xss.take k).flatten.length + j]? = (xss[k]?.getD [])[j]? := by
  have e : xss.flatten = (xss.take k).flatten ++ (xss[k]?.getD [] ++ (xss.drop (k + 1)).flatten) := by
    rw [← List.append_assoc, ← lists_take_succ xss hk, ← List.flatten_append, List.take_append_drop]
  rw [e, List.getElem?_append_right (by omega), Nat.add_sub_cancel_left, List.getElem?_append_left hj]

theorem lists_le (xss : List (List Int)) (k : Nat) : (xss.take k).flatten.length ≤ xss.flatten.length := by
  have e : xss.flatten = (xss.take k).flatten ++ (xss.drop k).flatten := by rw [← List.flatten_append, List.take_append_drop]
  rw [e, List.length_append]
  omega

theorem item_fst {l : List Int} {j : Nat} {y : Int} (h : l[j]? = some y) (h0 : 0 ≤ y) (h1 : y ≤ 255) : (item l j).1.1 = y := by
  simp only [item, h, Option.getD_some]
  omega

set_option maxRecDepth 100000 in
set_option maxHeartbeats 2000000 in
theorem all1_in (F : Fence) (n : Nat) (hf : F.fn 19) (hro : F.round = none) (hn : 1 ≤ n) (l Bs n₀ m cap : Nat) (A : Option Addr) (xss : List (List Int)) (J Jx : List Item → World → Prop)
    (hY : ∀ pre (x : Item) W, J pre W → pre.length < xss.flatten.length → YieldAt F (n - 1) Try.prog l #[.int .u8 x.1.1, .int .i64 x.1.2] W fun e W' =>
      (e = .returned (.bool true) ∧ J (pre ++ [x]) W' ∧ Below n₀ W W') ∨ (e = .returned (.bool false) ∧ Jx (pre ++ [x]) W'))
    (W : World) (hBs : W.cell? ⟨Bs, 0, none⟩ = some (.slice A m cap)) (hL : Lists W n₀ A m cap xss) (h0 : J [] W) :
    CallsIn F n Try.prog 19 #[.func (.yield l) #[] #[], .pointer (some ⟨Bs, 0, none⟩)] W fun e W' => (∃ v, e = .returned v) ∧
      ((∃ ys, ys = upto (item xss.flatten) xss.flatten.length ∧ J ys W') ∨ (∃ pre, True ∧ Jx pre W')) := by
  have hcm := hL.cmax
  have hcn := hL.cap
  have hlen := hL.len
  unfold maxLen at hcm
  refine callsIn_of_wp Try.func19 rfl hf ?_ hro
  simp only [Try.ntmps19, List.size_toArray, List.length_cons, List.length_nil, Nat.reduceAdd, Nat.reduceSub, Array.replicate_succ, Array.replicate_zero, List.push_toArray, List.append_toArray, List.nil_append, List.cons_append]
  gi_wp2
  gi_loopw [3, 10] (fun s i wr => ∃ k d : Nat, k ≤ m ∧ i = .int .i64 k ∧ d = (xss.take k).flatten.length ∧ s = .int .i64 (8 - 8 * ((d : Int) % 2)) ∧ J (upto (item xss.flatten) d) wr ∧ Below n₀ W wr)
    (fun _ i _ => m - (intOf i).toNat)
  case atStart => exact ⟨0, 0, Nat.zero_le _, rfl, by simp, by simp, h0, Below.refl _ _⟩
  case round =>
    obtain ⟨k, d, hk, rfl, hd, rfl, hJs, hnx⟩ := hrel
    by_cases hlt : k < m
    · obtain ⟨b, off, rfl, hb, hc⟩ := hL.at_ (by omega)
      obtain ⟨Ai, ni, ci, c1, r1⟩ := hc k hlt
      have e1 := (hnx.cell (p := ⟨b, off + k, none⟩) hb).trans c1
      obtain ⟨ys, hys⟩ : ∃ ys, ys = xss[k]?.getD [] := ⟨_, rfl⟩
      rw [← hys] at r1
      have hni : ys.length = ni := by have := r1.len; simpa using this
      have hget := hidd (fun (j : Nat) (hj : j < ni) => lists_get xss (k := k) (j := j) (by omega) (by rw [← hys]; omega))
      have hsuc := hidd (lists_take_succ xss (k := k) (by omega))
      have hle := hidd (lists_le xss (k + 1))
      rw [← hys, ← hd] at hget
      rw [← hys] at hsuc
      have hyr := hidd (show ∀ x ∈ ys, 0 ≤ x ∧ x ≤ 255 from hL.rng ys (by rw [hys, List.getElem?_eq_getElem (by omega)]; exact List.getElem_mem _))
      have hd2 := hidd hd
      have hcm2 := r1.cmax
      have hcn2 := r1.cap
      unfold maxLen at hcm2
      have hfl : d + ni ≤ xss.flatten.length := by
        have := hle.out
        rw [hsuc.out, List.length_append, ← hd] at this
        omega
      clear hc c1 hd hL hBs h0 hle
      gi_wp2
      gi_loopw [3, 16] (fun s i wr => ∃ j : Nat, j ≤ ni ∧ i = .int .i64 j ∧ s = .int .i64 (8 - 8 * (((d + j : Nat) : Int) % 2)) ∧ J (upto (item xss.flatten) (d + j)) wr ∧ Below n₀ W wr)
        (fun _ i _ => ni - (intOf i).toNat)
      case atStart => exact ⟨0, Nat.zero_le _, rfl, rfl, hJs, hnx⟩
      case round =>
        rename_i wo _
        clear hJs hnx e1
        obtain ⟨j, hj, rfl, rfl, hJs, hnx⟩ := hrel
        by_cases hjl : j < ni
        · obtain ⟨b2, off2, rfl, hb2, cc⟩ := r1.at_ (by omega)
          obtain ⟨y, hy⟩ : ∃ y, ys[j]? = some y := ⟨ys[j]'(by omega), List.getElem?_eq_getElem _⟩
          have cy := (hnx.cell (p := ⟨b2, off2 + j, none⟩) hb2).trans (cc j (.int .u8 y) (by simp [hy]))
          obtain ⟨y0, y1⟩ := hyr.out y (List.mem_of_getElem? hy)
          have hfl2 : xss.flatten[d + j]? = some y := (hget.out j hjl).trans hy
          obtain ⟨sh, hsh⟩ : ∃ sh : Int, sh = 8 - 8 * (((d + j : Nat) : Int) % 2) := ⟨_, rfl⟩
          have hsn : (item xss.flatten (d + j)).1.2 = sh := hsh.symm
          obtain ⟨fn, tmps, assign, body, hy2, hR⟩ := hY _ (item xss.flatten (d + j)) wr hJs (by rw [upto_length]; omega)
          rw [item_fst hfl2 y0 y1, hsn] at hy2
          rw [← hsh]
          have hs0 : 0 ≤ sh := by omega
          have hs1 : sh ≤ 8 := by omega
          have hsh' := hidd hsh
          have hnx' := hidd hnx
          clear hsh hsn hfl2 hy cc r1 hys hnx
          gi_wp2
          refine hR.mono ?_
          rintro e W3 (⟨rfl, hJ3, hk3⟩ | ⟨rfl, hJx3⟩)
          · gi_wp2
            go_roundw
            case rel => exact ⟨j + 1, by omega, by go_num, by rw [hsh'.out]; congr 1; omega, by rw [← Nat.add_assoc, upto_succ]; exact hJ3, hnx'.out.trans hk3⟩
            case measure => simp [intOf]; omega
          · gi_wp2
            refine bodyPost_ret (results_none rfl _ _ _) rfl ?_
            exact ⟨⟨_, rfl⟩, .inr ⟨_, trivial, hJx3⟩⟩
        · obtain rfl : j = ni := by omega
          have hdn : Hid (d + j = (List.take (k + 1) xss).flatten.length) := by rw [hsuc.out, List.length_append, ← hd2.out, hni]; rfl
          clear r1 hys hni hfl
          gi_wp2
          go_roundw
          case rel => exact ⟨k + 1, d + j, by omega, by go_num, hdn.out, rfl, hJs, hnx⟩
          case measure => simp [intOf]; omega
    · obtain rfl : k = m := by omega
      have hall : Hid (d = xss.flatten.length) := by rw [hd, List.take_of_length_le (by omega)]; rfl
      clear hd hL
      gi_wp2
      go_end0
      exact ⟨⟨_, rfl⟩, .inl ⟨_, rfl, by rw [← hall.out]; exact hJs⟩⟩

theorem all_in (F : Fence) (n : Nat) (hf : F.fn 17) (hro : F.round = none) (A : Option Addr) (m c : Nat) (w : World) :
    CallsIn F n Try.prog 17 #[.slice A m c] w fun e w' => e = .returned (.func (.func 19) #[] #[.pointer (some ⟨w.heap.size, 0, none⟩)]) ∧ w' = w.alloc (.cells #[.slice A m c] 44) := by
  refine callsIn_of_wp Try.func17 rfl hf ?_ hro
  simp only [Try.ntmps17, List.size_toArray, List.length_cons, List.length_nil, Nat.reduceAdd, Nat.reduceSub, Array.replicate_succ, Array.replicate_zero, List.push_toArray, List.append_toArray, List.nil_append, List.cons_append]
  gi_wp2
  go_ret
  exact ⟨rfl, rfl⟩

theorem all_stops (F : Fence) (n : Nat) (hf : F.fn 19) (hro : F.round = none) (hn : 1 ≤ n) (Bs n₀ m cap : Nat) (A : Option Addr) (xss : List (List Int)) (w : World) (hBs : Bs < w.heap.size) (hn₀ : n₀ ≤ w.heap.size)
    (hc : w.cell? ⟨Bs, 0, none⟩ = some (.slice A m cap)) (hL : Lists w n₀ A m cap xss) :
    SeqStopsK F n Try.prog 19 #[.pointer (some ⟨Bs, 0, none⟩)] (fun x : Item => #[Value.int .u8 x.1.1, Value.int .i64 x.1.2]) (Below n₀) (fun ys => ys = upto (item xss.flatten) xss.flatten.length) (fun _ => True) xss.flatten.length w := fun l J Jx W hW _ _ hY h0 =>
  all1_in F n hf hro hn l Bs n₀ m cap A xss J Jx hY W ((hW.cell (p := ⟨Bs, 0, none⟩) hBs).trans hc) (hL.below (hW.mono hn₀)) h0

/-- What the bytes come to. -/
def wsum : List Item → Int
  | [] => 0
  | x :: xs => x.1.1 * (if x.1.2 = 8 then 256 else 1) + wsum xs
theorem wsum_snoc (l : List Item) (x : Item) : wsum (l ++ [x]) = wsum l + x.1.1 * (if x.1.2 = 8 then 256 else 1) := by
  induction l with
  | nil => simp [wsum]
  | cons y l ih => simp only [List.cons_append, wsum, ih]; omega
theorem wsum_bound (l : List Item) : 0 ≤ wsum l ∧ wsum l ≤ 65280 * (l.length : Int) := by
  induction l with
  | nil => simp [wsum]
  | cons y l ih =>
    obtain ⟨⟨h0, h1⟩, h2⟩ := y.2
    simp only [wsum, List.length_cons]
    split <;> omega

/-- A sum, its carries taken around. -/
def canon (s : Int) : Int := if s = 0 then 0 else (s - 1) % 65535 + 1
theorem canon_small {s : Int} (h0 : 0 ≤ s) (h1 : s ≤ 65535) : canon s = s := by
  unfold canon; split <;> omega
theorem canon_step {s : Int} (h : 65535 < s) : canon (s / 65536 + s % 65536) = canon s := by
  unfold canon
  rw [if_neg (by omega), if_neg (by omega)]
  omega

/-- The checksum of bytes. -/
def ck (l : List Int) : Int := 65535 - canon (wsum (upto (item l) l.length))

theorem low16 {E : Int} (h0 : 0 ≤ E) (h1 : E ≤ 300000000000000) : bits BinOp.and IntKind.u64 E 65535 = E % 65536 := by
  rw [u64_and E 65535 h0 (by omega) (by omega) (by omega)]
  have e : (65535 : Int).toNat = 65535 := rfl
  rw [e, nat_mask16]
  omega
theorem turn16 {E : Int} (h0 : 0 ≤ E) (h1 : E ≤ 65535) : bits BinOp.xor IntKind.u16 IntKind.u16.max E = 65535 - E := by
  have e : IntKind.u16.max = 65535 := rfl
  rw [e, u16_xor 65535 E (by omega) (by omega) h0 (by omega)]
  have e2 : (65535 : Int).toNat = 65535 := rfl
  rw [e2]
  have h3 := BitVec.toNat_not (x := BitVec.ofNat 16 E.toNat)
  rw [← BitVec.allOnes_xor, BitVec.toNat_xor, BitVec.toNat_ofNat, Nat.mod_eq_of_lt (by omega)] at h3
  have e3 : (BitVec.allOnes 16).toNat = 65535 := rfl
  rw [e3] at h3
  rw [h3]
  omega

/-- The number in a box. -/
def boxNat (B : Nat) (w : World) : Nat := match w.cell? ⟨B, 0, none⟩ with | some (.int _ a) => a.toNat | _ => 0

set_option maxRecDepth 100000 in
set_option maxHeartbeats 4000000 in
theorem of_in (F : Fence) (n : Nat) (h10 : F.fn 10) (h17 : F.fn 17) (h19 : F.fn 19) (hro : F.round = none) (hn : 3 ≤ n) (w : World) (A : Option Addr) (m c : Nat) (xss : List (List Int)) (hL : Lists w w.heap.size A m c xss) (hs : xss.flatten.length ≤ 4294967296) :
    CallsIn F n Try.prog 10 #[.slice A m c] w fun e w' => e = .returned (.int .u16 (ck xss.flatten)) ∧ Below w.heap.size w w' := by
  have h1 : 1 ≤ n := by omega
  refine callsIn_of_wp_marks Try.func10 rfl h10 ?_ hro
  simp only [Try.ntmps10, List.size_toArray, List.length_cons, List.length_nil, Nat.reduceAdd, Nat.reduceSub, Array.replicate_succ, Array.replicate_zero, List.push_toArray, List.append_toArray, List.nil_append, List.cons_append]
  gi_wp2_with (gi_at_call 17; refine (all_in F (n - 1) h17 hro _ _ _ _).mono ?_; rintro e w' ⟨rfl, rfl⟩)
  have hB0 : Below w.heap.size w ((w.alloc (.cells #[.int .u64 0] 45)).alloc (.cells #[.slice A m c] 44)) := ((Below.refl _ w).alloc (Nat.le_refl _) _).alloc (by simp) _
  have b1 : Blk ((w.alloc (.cells #[.int .u64 0] 45)).alloc (.cells #[.slice A m c] 44)) w.heap.size 45 #[.int .u64 0] := (Blk.new w 45 _).alloc _
  have b2 : Blk ((w.alloc (.cells #[.int .u64 0] 45)).alloc (.cells #[.slice A m c] 44)) (w.heap.size + 1) 44 #[.slice A m c] := by
    have := Blk.new (w.alloc (.cells #[.int .u64 0] 45)) 44 #[.slice A m c]
    rwa [World.size_alloc] at this
  refine wpIn_rangeFunc_ownF hro h1 (gf := 19) (lb := #[.pointer (some ⟨w.heap.size + 1, 0, none⟩)]) rfl h19 (enters_of Try.func19 (by kernel_rfl) rfl)
    (all_stops F (n - 1) h19 hro (by omega) (w.heap.size + 1) w.heap.size m c A xss _ (by simp) (by simp; omega) (b2.at_ rfl) (hL.below hB0)) belowK_t (belowK_b (by simp; omega)) (Below.refl _ _) (fun _ => rfl)
    (fun pre W => (W.cell? ⟨w.heap.size, 0, none⟩ = some (.int .u64 (wsum pre)) ∧ W.frozen? ⟨w.heap.size, 0, none⟩ = false) ∧ Below w.heap.size w W)
    (fun _ _ _ => False)
    (OwnFrom.and (Own.from (fun s A B row hs hg hr => ⟨cell_kept hs.1 hg hr, (frozen_kept hs.1 hg hr).trans hs.2⟩) _) (ownFrom_below (Nat.le_refl _) (by simp; omega)))
    (fun _ _ _ _ _ hs _ _ => hs)
    ⟨⟨b1.at_ rfl, b1.frozen 0⟩, hB0⟩
    (fun x => { tmps := #[.slice A m c, undef, .int .u16 0, .pointer (some ⟨w.heap.size, 0, none⟩), .int .u8 x.1.1, .int .i64 x.1.2, .slice A m c, .func (.func 19) #[] #[.pointer (some ⟨w.heap.size + 1, 0, none⟩)], .int .u8 x.1.1, .int .i64 x.1.2, undef, undef, undef, undef, undef, undef, undef, undef, undef, undef, undef, undef, undef, undef, undef, undef], defers := [] }) ?assign ?body ?done ?stop
  case assign =>
    intro l x W K hK
    gi_wp2
    exact hK
  case body =>
    rintro l pre x W ⟨⟨hc, hf⟩, hB⟩ hlt
    obtain ⟨p0, p1⟩ := wsum_bound pre
    obtain ⟨s, hs0⟩ : ∃ s, s = wsum pre := ⟨_, rfl⟩
    have hsn := wsum_snoc pre x
    rw [← hs0] at hc p0 p1 hsn
    have hs2 : s ≤ 300000000000000 := by omega
    clear hs0
    obtain ⟨⟨y, sh⟩, ⟨y0, y1⟩, hsh⟩ := x
    dsimp only at y0 y1 hsh hsn ⊢
    have hsn' := hidd hsn
    clear hsn
    rcases hsh with rfl | rfl
    · have hmx : Try.prog.follows .mixedOrders = true := by kernel_rfl
      have hcs := World.cell?_setCell_same' W ⟨w.heap.size, 0, none⟩ (.int .u64 (s + y * 256)) (by rw [hc]; rfl)
      have hfin : wsum (pre ++ [⟨(y, 8), ⟨y0, y1⟩, by simp⟩]) = s + y * 256 := by rw [hsn'.out]; simp
      have hfin' := hidd hfin
      clear hfin
      gi_wp2
      gi_region_o
      all_goals gi_wp2
      all_goals (try go_bits)
      all_goals exact ⟨(KeepsOthers.setCell _ _ _).trans (KeepsOthers.drew _), ((Below.refl w.heap.size W).setCell (p := ⟨w.heap.size, 0, none⟩) (Nat.le_refl _) _).drew, ⟨by rw [hfin'.out]; exact hcs, by rw [frozen_drew_own, World.frozen?_setCell]; exact hf⟩, (hB.setCell (p := ⟨w.heap.size, 0, none⟩) (Nat.le_refl _) _).drew⟩
    · have hmx : Try.prog.follows .mixedOrders = true := by kernel_rfl
      have hcs := World.cell?_setCell_same' W ⟨w.heap.size, 0, none⟩ (.int .u64 (s + y)) (by rw [hc]; rfl)
      have hfin : wsum (pre ++ [⟨(y, 0), ⟨y0, y1⟩, by simp⟩]) = s + y := by rw [hsn'.out]; simp
      have hfin' := hidd hfin
      clear hfin
      gi_wp2
      gi_region_o
      all_goals gi_wp2
      all_goals (try go_bits)
      all_goals exact ⟨(KeepsOthers.setCell _ _ _).trans (KeepsOthers.drew _), ((Below.refl w.heap.size W).setCell (p := ⟨w.heap.size, 0, none⟩) (Nat.le_refl _) _).drew, ⟨by rw [hfin'.out]; exact hcs, by rw [frozen_drew_own, World.frozen?_setCell]; exact hf⟩, (hB.setCell (p := ⟨w.heap.size, 0, none⟩) (Nat.le_refl _) _).drew⟩
  case done =>
    rintro D ys W hD rfl ⟨⟨hc, hf⟩, hB⟩ hK
    obtain ⟨p0, p1⟩ := wsum_bound (upto (item xss.flatten) xss.flatten.length)
    rw [upto_length] at p1
    have hck : Hid (ck xss.flatten = 65535 - canon (wsum (upto (item xss.flatten) xss.flatten.length))) := rfl
    obtain ⟨s, hs0⟩ : ∃ s, s = wsum (upto (item xss.flatten) xss.flatten.length) := ⟨_, rfl⟩
    rw [← hs0] at hc p0 p1 hck
    have hs2 : s ≤ 300000000000000 := by omega
    have hD1 : w.heap.size + 1 < D := by simp at hD; omega
    clear hs0 p1 hL hB0 b1 b2 hD
    gi_wp2
    gi_loopw [] (fun wr => ∃ cur : Int, 0 ≤ cur ∧ cur ≤ 300000000000000 ∧ Hid (canon cur = canon s) ∧ wr.cell? ⟨w.heap.size, 0, none⟩ = some (.int .u64 cur) ∧ wr.frozen? ⟨w.heap.size, 0, none⟩ = false ∧ Below w.heap.size w wr ∧ wr.heap[D]? = some (.deferred (some []))) (fun wr => boxNat w.heap.size wr)
    case atStart => exact ⟨s, p0, hs2, rfl, hc, hf, hB, hK⟩
    case round =>
      obtain ⟨cur, k0, k1, hcan, kc, kf, kB, kK⟩ := hrel
      clear hc hf hB hK
      by_cases hgt : 65535 < cur
      · have q1 := low16 k0 k1
        have q2 := hidd (canon_step hgt)
        gi_wp2
        have hcs := World.cell?_setCell_same' wr ⟨w.heap.size, 0, none⟩ (.int .u64 (cur / 65536 + cur % 65536)) (by rw [kc]; rfl)
        refine ⟨⟨_, ?_, ?_, ?_, hcs, by rw [World.frozen?_setCell]; exact kf, kB.setCell (p := ⟨w.heap.size, 0, none⟩) (Nat.le_refl _) _, (KeepsOthers.setCell wr ⟨w.heap.size, 0, none⟩ _).same D _ kK rfl⟩, ?_⟩
        · omega
        · omega
        · exact q2.out.trans hcan.out
        · unfold boxNat
          rw [hcs, kc]
          dsimp only
          omega
      · have q1 := turn16 k0 (by omega)
        have q2 := hidd (canon_small k0 (by omega))
        gi_wp2
        refine ⟨by simp, .inl ⟨_, _, rfl, run_takeDeferred kK, ?_⟩⟩
        refine ⟨_, results_tmp rfl _ _ _, ?_, kB.trans (belowK_b (w := w) (Nat.le_refl _) wr D _ _ (by omega) kK rfl rfl)⟩
        rw [hck.out, ← hcan.out, q2.out]
        rfl
  case stop =>
    rintro D c pre W _ _ h _
    exact h.elim

theorem of_any (w : World) (A : Option Addr) (m c : Nat) (xss : List (List Int)) (hL : Lists w w.heap.size A m c xss) (hs : xss.flatten.length ≤ 4294967296) :
    Calls Try.prog 10 #[.slice A m c] w fun e w' => e = .returned (.int .u16 (ck xss.flatten)) ∧ Below w.heap.size w w' :=
  callsIn_wide.1 (of_in Fence.wide 3 trivial trivial trivial rfl (Nat.le_refl _) w A m c xss hL hs)
end Go.Proofs.Ytekmkainhehnpaa
