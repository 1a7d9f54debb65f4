/- The chapter's example. No condition. -/
import Derived.Test.YtajlgglknianlaaBook
import Derived.Deep.RegionHeld3
namespace Go.Proofs.Ytajlgglknianlaa
open Sv Go.ChangeShapes Go.WideShapes Go.ChangeAt Go.RowKit Go.Deep
set_option linter.unusedVariables false
set_option linter.unusedSimpArgs false

def xA : List Int := [1, 0, 0, 0, 0, 0, 0, 0, 0, 0, 0, 0, 0, 0, 0, 0]
def yA : List Int := [2, 0, 0, 0, 0, 0, 0, 0, 0, 0, 0, 0, 0, 0, 0, 0]
theorem isX : IsAddr xA := ⟨rfl, by decide⟩
theorem isY : IsAddr yA := ⟨rfl, by decide⟩
theorem first_two : putAll sameT (cadd 0 (csecs 10)) 10 [] [xA, yA] = [(xA, 10000), (yA, 10000)] := by decide
theorem then_one : putAll sameT (cadd 5000 (csecs 0)) 0 [(xA, 10000), (yA, 10000)] [xA] = [(yA, 10000)] := by decide
/-- Addresses that lie in a block one behind the other. -/
theorem isL_blk {W : World} {b : Nat} {p : Nat → Prop} {xs : List (List Int)} {t : TypeId} (h : Blk W b t (flatOf (fun x => x.map (Value.int .u8)) xs).toArray) (ho : ∀ x ∈ xs, IsAddr x) (hp : p b) (hm : xs.length ≤ maxLen) : IsL W p (some ⟨b, 0, none⟩) xs.length xs.length xs :=
  ⟨Nat.le_refl _, hm, rfl, ho, fun hn => ⟨b, 0, rfl, h.lt, hp, fun j x hx i v hv => by
    have hE : Enc (fun x : List Int => x.map (Value.int .u8)) 16 IsAddr := ⟨fun a h => by simp [h.len], fun a v hv => by obtain ⟨y, _, rfl⟩ := List.mem_map.1 hv; rfl⟩
    have hi : i < 16 := by have := (List.getElem?_eq_some_iff.1 hv).1; rw [encT, List.length_map, (ho x (List.mem_of_getElem? hx)).len] at this; exact this
    refine h.at_ ?_
    rw [List.getElem?_toArray, Nat.zero_add, hE.flat_at ho hx i hi]
    exact hv⟩⟩
theorem given_at {cur : Array Value} {es : List E} {k : Nat} (h : cur.toList.take k = flat es) {j : Nat} {v : Value} (hj : (flat es)[j]? = some v) (hk : j < k) : cur[j]? = some v := by
  rw [← h, List.getElem?_take_of_lt hk] at hj
  simpa using hj

set_option maxRecDepth 100000 in
set_option maxHeartbeats 4000000 in
theorem lives_any (w : World) : Calls Try.prog 7 #[] w fun e w' => e = .returned (.bool true) ∧ Below w.heap.size w w' := by
  go_enter Try.func7, Try.ntmps7
  go_wp2_with fail
  refine (new_any w).mono ?_
  rintro e V1 ⟨rfl, k1, b1⟩
  obtain ⟨B, hB⟩ : ∃ B, w.heap.size = B := ⟨_, rfl⟩
  rw [hB] at k1 b1 ⊢
  obtain ⟨bx, Sx⟩ : ∃ bx, V1.heap.size = bx := ⟨_, rfl⟩
  have hBx : B < bx := by have := k1.lt; omega
  have K1 := hidd k1
  have B1 := hidd b1
  clear k1 b1
  go_wp2_with (first
    | (refine wpList_build_want rfl 31 #[(0, .const (.int .u8 1))] rfl (bytesV xA) (by kernel_rfl) ?_)
    | (refine wpList_build_want rfl 31 #[(0, .const (.int .u8 2))] rfl (bytesV yA) (by kernel_rfl) ?_)
    | (refine wpList_store_new rfl rfl 31 (.tmp 2) _ rfl _ _ (bytesV xA) rfl Sx.symm rfl (size_a isX) rfl (all_oneCell_toArray (ints_one .u8 xA)) ?_
       have b2 := (Below.refl bx V1).alloc (by omega) (.cells (bytesV xA) 31)
       have K2 := hidd (K1.out.to (by rw [Sx]; exact b2))
       have X2 : Hid (Blk (V1.alloc (.cells (bytesV xA) 31)) bx 31 (bytesV xA)) := by rw [← Sx]; exact Blk.new _ _ _
       have B2 := hidd (B1.out.trans (b2.mono (by omega)))
       obtain ⟨by_, Sy⟩ : ∃ y, (V1.alloc (.cells (bytesV xA) 31)).heap.size = y := ⟨_, rfl⟩
       have hxy : bx < by_ := by rw [← Sy]; simp [Sx]
       generalize V1.alloc (.cells (bytesV xA) 31) = V2 at K2 X2 B2 Sy ⊢
       clear b2 K1 B1)
    | (refine wpList_store_new rfl rfl 31 (.tmp 3) _ rfl _ _ (bytesV yA) rfl Sy.symm rfl (size_a isY) rfl (all_oneCell_toArray (ints_one .u8 yA)) ?_
       have b3 := (Below.refl by_ V2).alloc (by omega) (.cells (bytesV yA) 31)
       have K3 := hidd (K2.out.to (by rw [Sy]; exact b3))
       have X3 := hidd (X2.out.below b3 hxy)
       have Y3 : Hid (Blk (V2.alloc (.cells (bytesV yA) 31)) by_ 31 (bytesV yA)) := by rw [← Sy]; exact Blk.new _ _ _
       have B3 := hidd (B2.out.trans (b3.mono (by omega)))
       obtain ⟨bl, Sl⟩ : ∃ y, (V2.alloc (.cells (bytesV yA) 31)).heap.size = y := ⟨_, rfl⟩
       have hyl : by_ < bl := by rw [← Sl]; simp [Sy]
       generalize V2.alloc (.cells (bytesV yA) 31) = V3 at K3 X3 Y3 B3 Sl ⊢
       have lx := hidd (X3.out.load (P := Try.prog) Try.underlying31 rfl (size_a isX))
       have ly := hidd (Y3.out.load (P := Try.prog) Try.underlying31 rfl (size_a isY))
       clear b3 K2 X2 B2)
    | (refine wpList_load_want (by kernel_rfl) 31 _ rfl _ rfl _ (by with_reducible first | exact lx.out | exact ly.out) ?_)
    | (refine wpList_bs_want rfl 32 31 2 _ rfl (.agg (bytesV (List.replicate 16 0))) 16 16 Try.underlying32 (by kernel_rfl) (by decide) (by decide) (flatOf (fun x => x.map (Value.int .u8)) [xA, yA]).toArray (by kernel_rfl) ?_
       have b4 := (Below.refl bl V3).alloc (by omega) (.cells (flatOf (fun x => x.map (Value.int .u8)) [xA, yA]).toArray 31)
       have K4 := hidd (K3.out.to (by rw [Sl]; exact b4))
       have X4 := hidd (X3.out.below b4 (by omega))
       have Y4 := hidd (Y3.out.below b4 hyl)
       have L4 : Hid (Blk (V3.alloc (.cells (flatOf (fun x => x.map (Value.int .u8)) [xA, yA]).toArray 31)) bl 31 (flatOf (fun x => x.map (Value.int .u8)) [xA, yA]).toArray) := by rw [← Sl]; exact Blk.new _ _ _
       have B4 := hidd (B3.out.trans (b4.mono (by omega)))
       generalize V3.alloc (.cells (flatOf (fun x => x.map (Value.int .u8)) [xA, yA]).toArray 31) = V4 at K4 X4 Y4 L4 B4 ⊢
       have L4lt := hidd L4.out.lt
       clear b4 K3 X3 Y3 B3 lx ly))
  refine (servers_any V4 B _ _ _ _ K4.out 0 10 (by omega) (by omega) _ _ _ _ (isL_blk L4.out (by intro x hx; simp only [List.mem_cons, List.not_mem_nil, or_false] at hx; rcases hx with rfl | rfl; exact isX; exact isY) ⟨by omega, fun e => by cases e⟩ (by decide))).mono ?_
  rintro e V5 ⟨⟨r, rfl⟩, v4, k5, f5, m5⟩
  rw [first_two] at k5
  have nB : ∀ k, B < k → ¬ Own B (.slice none 0 0) k := fun k hk e => by
    rcases e with e | e
    · omega
    · cases e
  have X5 := hidd (X4.out.fr f5 (nB _ hBx))
  have Y5 := hidd (Y4.out.fr f5 (nB _ (by omega)))
  have B5 := hidd (B4.out.trans (f5.below (B := B) (by have := K4.out.lt; omega) (fun k e => by rcases e with e | e; omega; cases e)))
  have K5 := hidd k5
  clear K4 X4 Y4 L4 B4 f5 k5
  go_wp2_with fail
  refine (allS_any V5 B _ _ _ _ K5.out).mono ?_
  rintro e V6 ⟨r6, rfl, G6⟩
  obtain ⟨A6, rfl, hA6⟩ := G6.out
  obtain ⟨g1, cur1, rfl, hg1, C1, hcs1, hcur1⟩ := hA6 (by decide)
  have b6 := G6.bel
  have K6 := hidd (K5.out.to b6)
  have X6 := hidd (X5.out.below b6 X5.out.lt)
  have Y6 := hidd (Y5.out.below b6 Y5.out.lt)
  have hB5 := K5.out.lt
  have hv4 : ∀ k, v4.ownBlock = some k → bl < k ∧ k < V5.heap.size := fun k hk => ⟨by rcases m5 k hk with e | e; cases e; have := L4lt.out; omega, (K5.out.s.lt k hk).2⟩
  have B6 := hidd (B5.out.trans (b6.mono (by omega)))
  have hcur1' := hidd hcur1
  have C6 := hidd C1
  obtain ⟨bm, Sm⟩ : ∃ y, V6.heap.size = y := ⟨_, rfl⟩
  have hbm : V5.heap.size ≤ bm := by rw [← Sm]; exact b6.size
  have hg1m : g1 < bm := by rw [← Sm]; exact C1.lt
  have lx := hidd (X6.out.load (P := Try.prog) Try.underlying31 rfl (size_a isX))
  clear G6 hA6 b6 K5 X5 Y5 B5 m5 C1 hcur1
  go_wp2_with (first
    | (refine wpList_load_want (by kernel_rfl) 31 _ rfl _ rfl _ (by with_reducible exact lx.out) ?_)
    | (refine wpList_bs_want rfl 32 31 1 _ rfl (.agg (bytesV (List.replicate 16 0))) 16 16 Try.underlying32 (by kernel_rfl) (by decide) (by decide) (flatOf (fun x => x.map (Value.int .u8)) [xA]).toArray (by kernel_rfl) ?_
       have b7 := (Below.refl bm V6).alloc (by omega) (.cells (flatOf (fun x => x.map (Value.int .u8)) [xA]).toArray 31)
       have K7 := hidd (K6.out.to (by rw [Sm]; exact b7))
       have X7 := hidd (X6.out.below b7 (by rw [← Sm]; exact X6.out.lt))
       have Y7 := hidd (Y6.out.below b7 (by rw [← Sm]; exact Y6.out.lt))
       have C7 := hidd (C6.out.below b7 hg1m)
       have L7 : Hid (Blk (V6.alloc (.cells (flatOf (fun x => x.map (Value.int .u8)) [xA]).toArray 31)) bm 31 (flatOf (fun x => x.map (Value.int .u8)) [xA]).toArray) := by rw [← Sm]; exact Blk.new _ _ _
       have B7 := hidd (B6.out.trans (b7.mono (by omega)))
       generalize V6.alloc (.cells (flatOf (fun x => x.map (Value.int .u8)) [xA]).toArray 31) = V7 at K7 X7 Y7 C7 L7 B7 ⊢
       clear b7 K6 X6 Y6 C6 B6 lx))
  refine (servers_any V7 B _ _ _ _ K7.out 5000 0 (by omega) (by omega) _ _ _ _ (isL_blk L7.out (by intro x hx; simp only [List.mem_cons, List.not_mem_nil, or_false] at hx; subst hx; exact isX) ⟨by omega, fun e => by have := hv4 bm e; omega⟩ (by decide))).mono ?_
  rintro e V8 ⟨⟨r, rfl⟩, v5, k8, f8, m8⟩
  rw [then_one] at k8
  have X8 := hidd (X7.out.fr f8 (fun e => by rcases e with e | e; omega; have := hv4 _ e; omega))
  have Y8 := hidd (Y7.out.fr f8 (fun e => by rcases e with e | e; omega; have := hv4 _ e; omega))
  have C8 := hidd (C7.out.fr f8 (fun e => by rcases e with e | e; omega; have := hv4 _ e; omega))
  have B8 := hidd (B7.out.trans (f8.below (B := B) (by have := K7.out.lt; omega) (fun k e => by rcases e with e | e; omega; have := hv4 _ e; omega)))
  have K8 := hidd k8
  clear K7 X7 Y7 C7 L7 B7 f8 k8 m8
  go_wp2_with fail
  refine (allS_any V8 B _ _ _ _ K8.out).mono ?_
  rintro e V9 ⟨r9, rfl, G9⟩
  obtain ⟨A9, rfl, hA9⟩ := G9.out
  obtain ⟨g2, cur2, rfl, hg2, C2, hcs2, hcur2⟩ := hA9 (by decide)
  have b9 := G9.bel
  have S9 : Hid (Blk V9.drew g1 48 cur1 ∧ Blk V9.drew bx 31 (bytesV xA) ∧ Blk V9.drew g2 48 cur2 ∧ Blk V9.drew by_ 31 (bytesV yA) ∧ Bk V9.drew B v5 (.slice none 0 0) [(yA, 10000)] []) :=
    ⟨(C8.out.below b9 C8.out.lt).drew, (X8.out.below b9 X8.out.lt).drew, C2.drew, (Y8.out.below b9 Y8.out.lt).drew, (K8.out.to b9).to (Below.refl _ _).drew⟩
  have B9 : Hid (Below B w V9.drew) := (B8.out.trans (b9.mono (by have := K8.out.lt; omega))).drew
  have at1 : At cur1 0 xA := fun j y hj => by
    have hlt := (List.getElem?_eq_some_iff.1 hj).1
    have hlt : j < 16 := hlt
    refine given_at hcur1'.out ?_ (by show 0 + j < 34; omega)
    rw [Nat.zero_add, flat, flatOf, List.getElem?_append_left (by rw [isEnc.len (xA, 10000) ⟨isX, by decide, by decide⟩]; omega), enc, List.getElem?_append_left (by rw [List.length_map]; exact hlt), List.getElem?_map, hj]; rfl
  have at2 : At cur2 0 yA := fun j y hj => by
    have hlt := (List.getElem?_eq_some_iff.1 hj).1
    have hlt : j < 16 := hlt
    refine given_at hcur2 ?_ (by show 0 + j < 17; omega)
    rw [Nat.zero_add, flat, flatOf, List.getElem?_append_left (by rw [isEnc.len (yA, 10000) ⟨isY, by decide, by decide⟩]; omega), enc, List.getElem?_append_left (by rw [List.length_map]; exact hlt), List.getElem?_map, hj]; rfl
  have at1b : cur1[33]? = some (.int .u64 10000) := given_at hcur1'.out rfl (by decide)
  have hmin : min (nextOf ([(yA, (10000 : Int))].map (·.2))) (nextOf (([] : List Dm.E).map (·.2))) = 10000 := by decide
  have heq1 := fun W => eql31 W isX isX
  have heq2 := fun W => eql31 W isY isY
  have hxx : (xA == xA) = true := by decide
  have hyy : (yA == yA) = true := by decide
  have hgd := guard31
  clear G9 hA9 C2 b9 C8 X8 Y8 K8 B8
  go_wp2_with fail
  refine wp_region_held_drew (S := (fun V => Blk V g1 48 cur1 ∧ Blk V bx 31 (bytesV xA) ∧ Blk V g2 48 cur2 ∧ Blk V by_ 31 (bytesV yA) ∧ Bk V B v5 (.slice none 0 0) [(yA, 10000)] [])) (by kernel_rfl) S9.out (fun hHeld => ?_)
  refine wpAnyH_take (i := 0) (v := ?_) rfl (by kernel_rfl) (by kernel_rfl) (by kernel_rfl) (fun _ _ _ h => h) (Or.inl ⟨by kernel_rfl, ?_⟩) hHeld ?_
  rotate_left
  · intro wh hSw
    go_simp
    try with_reducible rfl
  try simp only [Act.put, List.getElem_toArray, List.getElem_cons_zero, List.getElem_cons_succ, List.setIfInBounds_toArray, List.set_cons_zero, List.set_cons_succ]
  refine wpAnyH_take (i := 1) (v := ?_) rfl (by kernel_rfl) (by kernel_rfl) (by kernel_rfl) (fun _ _ _ h => h) (Or.inl ⟨by kernel_rfl, ?_⟩) hHeld ?_
  rotate_left
  · intro wh hSw
    go_simp
    try with_reducible rfl
  try simp only [Act.put, List.getElem_toArray, List.getElem_cons_zero, List.getElem_cons_succ, List.setIfInBounds_toArray, List.set_cons_zero, List.set_cons_succ]
  refine wpAnyH_take (i := 2) (v := ?_) rfl (by kernel_rfl) (by kernel_rfl) (by kernel_rfl) (fun _ _ _ h => h) (Or.inl ⟨by kernel_rfl, ?_⟩) hHeld ?_
  rotate_left
  · intro wh hSw
    go_simp
    try with_reducible rfl
  try simp only [Act.put, List.getElem_toArray, List.getElem_cons_zero, List.getElem_cons_succ, List.setIfInBounds_toArray, List.set_cons_zero, List.set_cons_succ]
  refine wpAnyH_take (i := 3) (v := ?_) rfl (by kernel_rfl) (by kernel_rfl) (by kernel_rfl) (fun _ _ _ h => h) (Or.inl ⟨by kernel_rfl, ?_⟩) hHeld ?_
  rotate_left
  · intro wh hSw
    go_simp
    try with_reducible rfl
  try simp only [Act.put, List.getElem_toArray, List.getElem_cons_zero, List.getElem_cons_succ, List.setIfInBounds_toArray, List.set_cons_zero, List.set_cons_succ]
  refine wpAnyH_take (i := 4) (v := ?_) rfl (by kernel_rfl) (by kernel_rfl) (by kernel_rfl) (fun _ _ _ h => h) (Or.inl ⟨by kernel_rfl, ?_⟩) hHeld ?_
  rotate_left
  · intro wh hSw
    go_simp
    try with_reducible rfl
  try simp only [Act.put, List.getElem_toArray, List.getElem_cons_zero, List.getElem_cons_succ, List.setIfInBounds_toArray, List.set_cons_zero, List.set_cons_succ]
  refine wpAnyH_take (i := 5) (v := ?_) rfl (by kernel_rfl) (by kernel_rfl) (by kernel_rfl) (fun _ _ _ h => h) (Or.inl ⟨by kernel_rfl, ?_⟩) hHeld ?_
  rotate_left
  · intro wh hSw
    go_simp
    try with_reducible rfl
  try simp only [Act.put, List.getElem_toArray, List.getElem_cons_zero, List.getElem_cons_succ, List.setIfInBounds_toArray, List.set_cons_zero, List.set_cons_succ]
  refine wpAnyH_take (i := 6) (v := ?_) rfl (by kernel_rfl) (by kernel_rfl) (by kernel_rfl) (fun _ _ _ h => h) (Or.inl ⟨by kernel_rfl, ?_⟩) hHeld ?_
  rotate_left
  · intro wh hSw
    go_simp
    try with_reducible rfl
  try simp only [Act.put, List.getElem_toArray, List.getElem_cons_zero, List.getElem_cons_succ, List.setIfInBounds_toArray, List.set_cons_zero, List.set_cons_succ]
  refine wpAnyH_take (i := 7) rfl (by kernel_rfl) (by kernel_rfl) (by kernel_rfl) (fun _ _ _ h => h) (yieldsIf_load_want (by kernel_rfl) 31 _ rfl _ rfl _ (fun wh hSw => hSw.1.part at1 Try.underlying31 rfl info31)) hHeld ?_
  try simp only [Act.put, List.getElem_toArray, List.getElem_cons_zero, List.getElem_cons_succ, List.setIfInBounds_toArray, List.set_cons_zero, List.set_cons_succ]
  refine wpAnyH_take (i := 8) rfl (by kernel_rfl) (by kernel_rfl) (by kernel_rfl) (fun _ _ _ h => h) (yieldsIf_load_want (by kernel_rfl) 31 _ rfl _ rfl _ (fun wh hSw => hSw.2.1.load Try.underlying31 rfl (size_a isX))) hHeld ?_
  try simp only [Act.put, List.getElem_toArray, List.getElem_cons_zero, List.getElem_cons_succ, List.setIfInBounds_toArray, List.set_cons_zero, List.set_cons_succ]
  refine wpAnyH_take (i := 9) (v := ?_) rfl (by kernel_rfl) (by kernel_rfl) (by kernel_rfl) (fun _ _ _ h => h) (Or.inl ⟨by kernel_rfl, ?_⟩) hHeld ?_
  rotate_left
  · intro wh hSw
    go_simp
    try with_reducible rfl
  try simp only [Act.put, List.getElem_toArray, List.getElem_cons_zero, List.getElem_cons_succ, List.setIfInBounds_toArray, List.set_cons_zero, List.set_cons_succ]
  refine wpAnyH_take (i := 10) (v := ?_) rfl (by kernel_rfl) (by kernel_rfl) (by kernel_rfl) (fun _ _ _ h => h) (Or.inl ⟨by kernel_rfl, ?_⟩) hHeld ?_
  rotate_left
  · intro wh hSw
    go_simp
    try with_reducible rfl
  try simp only [Act.put, List.getElem_toArray, List.getElem_cons_zero, List.getElem_cons_succ, List.setIfInBounds_toArray, List.set_cons_zero, List.set_cons_succ]
  refine wpAnyH_take (i := 11) (v := ?_) rfl (by kernel_rfl) (by kernel_rfl) (by kernel_rfl) (fun _ _ _ h => h) (Or.inl ⟨by kernel_rfl, ?_⟩) hHeld ?_
  rotate_left
  · intro wh hSw
    go_simp
    try with_reducible rfl
  try simp only [Act.put, List.getElem_toArray, List.getElem_cons_zero, List.getElem_cons_succ, List.setIfInBounds_toArray, List.set_cons_zero, List.set_cons_succ]
  refine wpAnyH_take (i := 12) (v := ?_) rfl (by kernel_rfl) (by kernel_rfl) (by kernel_rfl) (fun _ _ _ h => h) (Or.inl ⟨by kernel_rfl, ?_⟩) hHeld ?_
  rotate_left
  · intro wh hSw
    go_simp
    try with_reducible rfl
  try simp only [Act.put, List.getElem_toArray, List.getElem_cons_zero, List.getElem_cons_succ, List.setIfInBounds_toArray, List.set_cons_zero, List.set_cons_succ]
  refine wpAnyH_take (i := 13) (v := ?_) rfl (by kernel_rfl) (by kernel_rfl) (by kernel_rfl) (fun _ _ _ h => h) (Or.inl ⟨by kernel_rfl, ?_⟩) hHeld ?_
  rotate_left
  · intro wh hSw
    go_simp
    try with_reducible rfl
  try simp only [Act.put, List.getElem_toArray, List.getElem_cons_zero, List.getElem_cons_succ, List.setIfInBounds_toArray, List.set_cons_zero, List.set_cons_succ]
  refine wpAnyH_take (i := 14) (v := ?_) rfl (by kernel_rfl) (by kernel_rfl) (by kernel_rfl) (fun _ _ _ h => h) (Or.inl ⟨by kernel_rfl, ?_⟩) hHeld ?_
  rotate_left
  · intro wh hSw
    go_simp
    try with_reducible rfl
  try simp only [Act.put, List.getElem_toArray, List.getElem_cons_zero, List.getElem_cons_succ, List.setIfInBounds_toArray, List.set_cons_zero, List.set_cons_succ]
  refine wpAnyH_take (i := 15) (v := ?_) rfl (by kernel_rfl) (by kernel_rfl) (by kernel_rfl) (fun _ _ _ h => h) (Or.inl ⟨by kernel_rfl, ?_⟩) hHeld ?_
  rotate_left
  · intro wh hSw
    have hcell := hSw.1.at_ at1b
    go_simp
    try with_reducible rfl
  try simp only [Act.put, List.getElem_toArray, List.getElem_cons_zero, List.getElem_cons_succ, List.setIfInBounds_toArray, List.set_cons_zero, List.set_cons_succ]
  refine wpAnyH_take (i := 16) (v := ?_) rfl (by kernel_rfl) (by kernel_rfl) (by kernel_rfl) (fun _ _ _ h => h) (Or.inl ⟨by kernel_rfl, ?_⟩) hHeld ?_
  rotate_left
  · intro wh hSw
    go_simp
    try with_reducible rfl
  try simp only [Act.put, List.getElem_toArray, List.getElem_cons_zero, List.getElem_cons_succ, List.setIfInBounds_toArray, List.set_cons_zero, List.set_cons_succ]
  refine wpAnyH_take (i := 17) (v := ?_) rfl (by kernel_rfl) (by kernel_rfl) (by kernel_rfl) (fun _ _ _ h => h) (Or.inl ⟨by kernel_rfl, ?_⟩) hHeld ?_
  rotate_left
  · intro wh hSw
    go_simp
    try with_reducible rfl
  try simp only [Act.put, List.getElem_toArray, List.getElem_cons_zero, List.getElem_cons_succ, List.setIfInBounds_toArray, List.set_cons_zero, List.set_cons_succ]
  refine wpAnyH_take (i := 18) (v := ?_) rfl (by kernel_rfl) (by kernel_rfl) (by kernel_rfl) (fun _ _ _ h => h) (Or.inl ⟨by kernel_rfl, ?_⟩) hHeld ?_
  rotate_left
  · intro wh hSw
    go_simp
    try with_reducible rfl
  try simp only [Act.put, List.getElem_toArray, List.getElem_cons_zero, List.getElem_cons_succ, List.setIfInBounds_toArray, List.set_cons_zero, List.set_cons_succ]
  refine wpAnyH_take (i := 19) (v := ?_) rfl (by kernel_rfl) (by kernel_rfl) (by kernel_rfl) (fun _ _ _ h => h) (Or.inl ⟨by kernel_rfl, ?_⟩) hHeld ?_
  rotate_left
  · intro wh hSw
    go_simp
    try with_reducible rfl
  try simp only [Act.put, List.getElem_toArray, List.getElem_cons_zero, List.getElem_cons_succ, List.setIfInBounds_toArray, List.set_cons_zero, List.set_cons_succ]
  refine wpAnyH_take (i := 20) (v := ?_) rfl (by kernel_rfl) (by kernel_rfl) (by kernel_rfl) (fun _ _ _ h => h) (Or.inl ⟨by kernel_rfl, ?_⟩) hHeld ?_
  rotate_left
  · intro wh hSw
    go_simp
    try with_reducible rfl
  try simp only [Act.put, List.getElem_toArray, List.getElem_cons_zero, List.getElem_cons_succ, List.setIfInBounds_toArray, List.set_cons_zero, List.set_cons_succ]
  refine wpAnyH_take (i := 21) (v := ?_) rfl (by kernel_rfl) (by kernel_rfl) (by kernel_rfl) (fun _ _ _ h => h) (Or.inl ⟨by kernel_rfl, ?_⟩) hHeld ?_
  rotate_left
  · intro wh hSw
    go_simp
    try with_reducible rfl
  try simp only [Act.put, List.getElem_toArray, List.getElem_cons_zero, List.getElem_cons_succ, List.setIfInBounds_toArray, List.set_cons_zero, List.set_cons_succ]
  refine wpAnyH_take (i := 22) (v := ?_) rfl (by kernel_rfl) (by kernel_rfl) (by kernel_rfl) (fun _ _ _ h => h) (Or.inl ⟨by kernel_rfl, ?_⟩) hHeld ?_
  rotate_left
  · intro wh hSw
    go_simp
    try with_reducible rfl
  try simp only [Act.put, List.getElem_toArray, List.getElem_cons_zero, List.getElem_cons_succ, List.setIfInBounds_toArray, List.set_cons_zero, List.set_cons_succ]
  refine wpAnyH_take (i := 23) (v := ?_) rfl (by kernel_rfl) (by kernel_rfl) (by kernel_rfl) (fun _ _ _ h => h) (Or.inl ⟨by kernel_rfl, ?_⟩) hHeld ?_
  rotate_left
  · intro wh hSw
    go_simp
    try with_reducible rfl
  try simp only [Act.put, List.getElem_toArray, List.getElem_cons_zero, List.getElem_cons_succ, List.setIfInBounds_toArray, List.set_cons_zero, List.set_cons_succ]
  refine wpAnyH_take (i := 24) (v := ?_) rfl (by kernel_rfl) (by kernel_rfl) (by kernel_rfl) (fun _ _ _ h => h) (Or.inl ⟨by kernel_rfl, ?_⟩) hHeld ?_
  rotate_left
  · intro wh hSw
    go_simp
    try with_reducible rfl
  try simp only [Act.put, List.getElem_toArray, List.getElem_cons_zero, List.getElem_cons_succ, List.setIfInBounds_toArray, List.set_cons_zero, List.set_cons_succ]
  refine wpAnyH_take (i := 25) (v := ?_) rfl (by kernel_rfl) (by kernel_rfl) (by kernel_rfl) (fun _ _ _ h => h) (Or.inl ⟨by kernel_rfl, ?_⟩) hHeld ?_
  rotate_left
  · intro wh hSw
    go_simp
    try with_reducible rfl
  try simp only [Act.put, List.getElem_toArray, List.getElem_cons_zero, List.getElem_cons_succ, List.setIfInBounds_toArray, List.set_cons_zero, List.set_cons_succ]
  refine wpAnyH_take (i := 26) (v := ?_) rfl (by kernel_rfl) (by kernel_rfl) (by kernel_rfl) (fun _ _ _ h => h) (Or.inl ⟨by kernel_rfl, ?_⟩) hHeld ?_
  rotate_left
  · intro wh hSw
    go_simp
    try with_reducible rfl
  try simp only [Act.put, List.getElem_toArray, List.getElem_cons_zero, List.getElem_cons_succ, List.setIfInBounds_toArray, List.set_cons_zero, List.set_cons_succ]
  refine wpAnyH_take (i := 27) rfl (by kernel_rfl) (by kernel_rfl) (by kernel_rfl) (fun _ _ _ h => h) (yieldsIf_load_want (by kernel_rfl) 31 _ rfl _ rfl _ (fun wh hSw => hSw.2.2.1.part at2 Try.underlying31 rfl info31)) hHeld ?_
  try simp only [Act.put, List.getElem_toArray, List.getElem_cons_zero, List.getElem_cons_succ, List.setIfInBounds_toArray, List.set_cons_zero, List.set_cons_succ]
  refine wpAnyH_take (i := 28) rfl (by kernel_rfl) (by kernel_rfl) (by kernel_rfl) (fun _ _ _ h => h) (yieldsIf_load_want (by kernel_rfl) 31 _ rfl _ rfl _ (fun wh hSw => hSw.2.2.2.1.load Try.underlying31 rfl (size_a isY))) hHeld ?_
  try simp only [Act.put, List.getElem_toArray, List.getElem_cons_zero, List.getElem_cons_succ, List.setIfInBounds_toArray, List.set_cons_zero, List.set_cons_succ]
  refine wpAnyH_take (i := 29) (v := ?_) rfl (by kernel_rfl) (by kernel_rfl) (by kernel_rfl) (fun _ _ _ h => h) (Or.inl ⟨by kernel_rfl, ?_⟩) hHeld ?_
  rotate_left
  · intro wh hSw
    go_simp
    try with_reducible rfl
  try simp only [Act.put, List.getElem_toArray, List.getElem_cons_zero, List.getElem_cons_succ, List.setIfInBounds_toArray, List.set_cons_zero, List.set_cons_succ]
  refine wpAnyH_take (i := 30) (v := ?_) rfl (by kernel_rfl) (by kernel_rfl) (by kernel_rfl) (fun _ _ _ h => h) (Or.inl ⟨by kernel_rfl, ?_⟩) hHeld ?_
  rotate_left
  · intro wh hSw
    go_simp
    try with_reducible rfl
  try simp only [Act.put, List.getElem_toArray, List.getElem_cons_zero, List.getElem_cons_succ, List.setIfInBounds_toArray, List.set_cons_zero, List.set_cons_succ]
  refine wpAnyH_take (i := 31) (v := ?_) rfl (by kernel_rfl) (by kernel_rfl) (by kernel_rfl) (fun _ _ _ h => h) (Or.inl ⟨by kernel_rfl, ?_⟩) hHeld ?_
  rotate_left
  · intro wh hSw
    go_simp
    try with_reducible rfl
  try simp only [Act.put, List.getElem_toArray, List.getElem_cons_zero, List.getElem_cons_succ, List.setIfInBounds_toArray, List.set_cons_zero, List.set_cons_succ]
  refine wpAnyH_take (i := 32) (v := ?_) rfl (by kernel_rfl) (by kernel_rfl) (by kernel_rfl) (fun _ _ _ h => h) (Or.inl ⟨by kernel_rfl, ?_⟩) hHeld ?_
  rotate_left
  · intro wh hSw
    go_simp
    try with_reducible rfl
  try simp only [Act.put, List.getElem_toArray, List.getElem_cons_zero, List.getElem_cons_succ, List.setIfInBounds_toArray, List.set_cons_zero, List.set_cons_succ]
  refine wpAnyH_ready (rs := [33]) (by kernel_rfl) (by simp) (AllReadyH.cons rfl (fun K hK => ?_) AllReadyH.nil)
  clear hHeld
  go_simp
  refine (next_any _ B v5 _ _ _ S9.out.2.2.2.2).mono ?_
  rintro e V10 ⟨rfl, b10⟩
  have S10 : Hid (Blk V10 g1 48 cur1 ∧ Blk V10 bx 31 (bytesV xA) ∧ Blk V10 g2 48 cur2 ∧ Blk V10 by_ 31 (bytesV yA) ∧ Bk V10 B v5 (.slice none 0 0) [(yA, 10000)] []) := ⟨S9.out.1.below b10 S9.out.1.lt, S9.out.2.1.below b10 S9.out.2.1.lt, S9.out.2.2.1.below b10 S9.out.2.2.1.lt, S9.out.2.2.2.1.below b10 S9.out.2.2.2.1.lt, S9.out.2.2.2.2.to b10⟩
  dsimp only
  rw [hmin]
  refine hK.out _ _ S10.out (fun hHeld => ?_)
  clear hK K
  try simp only [Act.put, List.getElem_toArray, List.getElem_cons_zero, List.getElem_cons_succ, List.setIfInBounds_toArray, List.set_cons_zero, List.set_cons_succ]
  refine wpAnyH_take (i := 34) (v := ?_) rfl (by kernel_rfl) (by kernel_rfl) (by kernel_rfl) (fun _ _ _ h => h) (Or.inl ⟨by kernel_rfl, ?_⟩) hHeld ?_
  rotate_left
  · intro wh hSw
    go_simp
    try with_reducible rfl
  try simp only [Act.put, List.getElem_toArray, List.getElem_cons_zero, List.getElem_cons_succ, List.setIfInBounds_toArray, List.set_cons_zero, List.set_cons_succ]
  refine wpAnyH_take (i := 35) (v := ?_) rfl (by kernel_rfl) (by kernel_rfl) (by kernel_rfl) (fun _ _ _ h => h) (Or.inl ⟨by kernel_rfl, ?_⟩) hHeld ?_
  rotate_left
  · intro wh hSw
    go_simp
    try with_reducible rfl
  try simp only [Act.put, List.getElem_toArray, List.getElem_cons_zero, List.getElem_cons_succ, List.setIfInBounds_toArray, List.set_cons_zero, List.set_cons_succ]
  refine wpAnyH_ready (rs := [36]) (by kernel_rfl) (by simp) (AllReadyH.cons rfl (fun K hK => ?_) AllReadyH.nil)
  clear hHeld
  go_simp
  refine hK.out _ _ S10.out (fun hHeld => ?_)
  clear hK K
  try simp only [Act.put, List.getElem_toArray, List.getElem_cons_zero, List.getElem_cons_succ, List.setIfInBounds_toArray, List.set_cons_zero, List.set_cons_succ]
  refine wpAnyH_done (by kernel_rfl) ?_ _
  clear hHeld
  go_wp2
  go_ret
  exact ⟨rfl, by rw [hB]; exact (B9.out.trans (b10.mono (by have := S9.out.2.2.2.2.lt; omega)))⟩
end Go.Proofs.Ytajlgglknianlaa
