/- The chapter's example. No condition. -/
import Derived.Test.YtnchjbgfmkmbaaaPlain
import Derived.Deep.RegionHeld3
namespace Go.Proofs.Ytnchjbgfmkmbaaa
open Go.ChangeShapes Go.WideShapes Go.ChangeAt Go.RowKit Go.Deep
set_option linter.unusedVariables false
set_option linter.unusedSimpArgs false

/-- A list, and boxes that it has nothing to do with. -/
structure Lv (w W : World) (B : Nat) (v : Value) (es : List E) (last : List Int) (had : Bool) (L : List (Nat × TypeId × Array Value)) : Prop where
  rl : Rl W B v es last had
  le : w.heap.size ≤ B
  bel : Below w.heap.size w W
  box : ∀ x ∈ L, Blk W x.1 x.2.1 x.2.2 ∧ x.1 ≠ B ∧ ∀ k, v.ownBlock = some k → k ≠ x.1
section
variable {w W V : World} {B : Nat} {v v' : Value} {es cs : List E} {last l' : List Int} {had h' : Bool} {L : List (Nat × TypeId × Array Value)}
theorem Lv.to (h : Lv w W B v es last had L) (hb : Below W.heap.size W V) : Lv w V B v es last had L :=
  ⟨h.rl.to hb, h.le, h.bel.trans (hb.mono h.bel.size), fun x hx => ⟨(h.box x hx).1.below hb (h.box x hx).1.lt, (h.box x hx).2⟩⟩
theorem Lv.turn (h : Lv w W B v es last had L) (hr : Rl V B v' cs l' h') (hf : Fr (Own B v) W V) (hm : ∀ k, v'.ownBlock = some k → v.ownBlock = some k ∨ W.heap.size ≤ k) : Lv w V B v' cs l' h' L :=
  ⟨hr, h.le, h.bel.trans (hf.below h.bel.size (fun k e => by
    have := h.le
    rcases e with e | e
    · omega
    · have := (h.rl.own.lt k e).1; omega)), fun x hx => by
    obtain ⟨h1, h2, h3⟩ := h.box x hx
    refine ⟨h1.fr hf (fun e => ?_), h2, fun k hk e => ?_⟩
    · rcases e with e | e
      · exact h2 e
      · exact h3 _ e rfl
    · subst e
      rcases hm _ hk with e | e
      · exact h3 _ e rfl
      · have := h1.lt; omega⟩
theorem Lv.new (h : Lv w W B v es last had L) (t : TypeId) (cells : Array Value) {g : Nat} (hg : W.heap.size = g) : Lv w (W.alloc (.cells cells t)) B v es last had (L ++ [(g, t, cells)]) := by
  subst hg
  have h2 := h.to ((Below.refl W.heap.size W).alloc (Nat.le_refl _) (.cells cells t))
  refine ⟨h2.rl, h.le, h2.bel, fun x hx => ?_⟩
  rcases List.mem_append.1 hx with hx | hx
  · exact h2.box x hx
  · rw [List.mem_singleton.1 hx]
    refine ⟨Blk.new W t cells, fun e => by have := h.rl.lt; simp only at e; omega, fun k hk e => by have := (h.rl.own.lt k hk).2; simp only at e; omega⟩
/-- A block that was given. -/
theorem Lv.add (h : Lv w W B v es last had L) {g : Nat} {t : TypeId} {c : Array Value} (hb : Blk W g t c) (hB : B < g) (ho : ∀ k, v.ownBlock = some k → k < g) : Lv w W B v es last had (L ++ [(g, t, c)]) :=
  ⟨h.rl, h.le, h.bel, fun x hx => by
    rcases List.mem_append.1 hx with hx | hx
    · exact h.box x hx
    · rw [List.mem_singleton.1 hx]
      exact ⟨hb, fun e => by simp only at e; omega, fun k hk e => by have := ho k hk; simp only at e; omega⟩⟩
theorem Lv.get (h : Lv w W B v es last had L) (i : Nat) {g : Nat} {t : TypeId} {c : Array Value} (hi : L[i]? = some (g, t, c)) : Blk W g t c := (h.box _ (List.mem_of_getElem? hi)).1
end
def xA : List Int := [1, 0, 0, 0, 0, 0, 0, 0, 0, 0, 0, 0, 0, 0, 0, 0]
def yA : List Int := [2, 0, 0, 0, 0, 0, 0, 0, 0, 0, 0, 0, 0, 0, 0, 0]
theorem isX : IsAddr xA := ⟨rfl, by decide⟩
theorem isY : IsAddr yA := ⟨rfl, by decide⟩
theorem first_one : learnS (xA, rk 0, cadd 0 (csecs 1800)) 1800 [] = [(xA, 0, 1800000)] := by decide
theorem then_one : learnS (yA, rk 8, cadd 0 (csecs 1800)) 1800 [(xA, 0, 1800000)] = [(xA, 0, 1800000), (yA, 1, 1800000)] := by decide
theorem ord_two : ord [(xA, 0, 1800000), (yA, 1, 1800000)] = [(yA, 1, 1800000), (xA, 0, 1800000)] := by decide
abbrev two : List E := [(xA, 0, 1800000), (yA, 1, 1800000)]
theorem pick1 : pickS [xA] two zeroA false = (xA, true, zeroA, false) := by decide
theorem pick2 : pickS [] two zeroA false = (yA, true, yA, true) := by decide
theorem pick3 : pickS [] two yA true = (xA, true, xA, true) := by decide
theorem pick4 : pickS [] two xA true = (yA, true, yA, true) := by decide
theorem isKA_one {W : World} {b : Nat} {x : List Int} (h : Blk W b 23 (bytesV x)) (hx : IsAddr x) : IsKA W W.heap.size (some ⟨b, 0, none⟩) 1 1 [x] := by
  refine ⟨⟨by simp [flatOf, enc16, hx.len], Nat.le_refl _, by decide, (fun e => by cases e), fun _ => ⟨b, 0, rfl, h.lt, fun j u hu => ?_⟩⟩, rfl, fun y hy => by rw [List.mem_singleton.1 hy]; exact hx⟩
  refine h.at_ ?_
  rw [bytesV, List.getElem?_toArray, Nat.zero_add]
  simpa [flatOf, enc16] using hu
theorem isKA_nil (W : World) : IsKA W W.heap.size none 0 0 [] := ⟨⟨rfl, Nat.le_refl _, by decide, (fun _ => ⟨rfl, rfl⟩), fun h => by omega⟩, rfl, fun y hy => by simp at hy⟩
/-- What the example's last line reads. -/
structure LoadsX (V : World) (g bx by_ d1 d2 d3 d4 : Nat) : Prop where
  x0 : (loadVar 23 ⟨g, 0, none⟩).run Try.prog V = .ok (.agg (bytesV yA)) V
  x1 : (loadVar 23 ⟨g, 18, none⟩).run Try.prog V = .ok (.agg (bytesV xA)) V
  u1 : V.cell? ⟨g, 35, none⟩ = some (.int .u64 1800000)
  x : (loadVar 23 ⟨bx, 0, none⟩).run Try.prog V = .ok (.agg (bytesV xA)) V
  y : (loadVar 23 ⟨by_, 0, none⟩).run Try.prog V = .ok (.agg (bytesV yA)) V
  b1 : (loadVar 23 ⟨d1, 0, none⟩).run Try.prog V = .ok (.agg (bytesV xA)) V
  b2 : (loadVar 23 ⟨d2, 0, none⟩).run Try.prog V = .ok (.agg (bytesV yA)) V
  b3 : (loadVar 23 ⟨d3, 0, none⟩).run Try.prog V = .ok (.agg (bytesV xA)) V
  b4 : (loadVar 23 ⟨d4, 0, none⟩).run Try.prog V = .ok (.agg (bytesV yA)) V
theorem ld16 {W : World} {b : Nat} {x : List Int} (h : Blk W b 23 (bytesV x)) (hx : IsAddr x) : (loadVar 23 ⟨b, 0, none⟩).run Try.prog W = .ok (.agg (bytesV x)) W := h.load Try.underlying23 rfl (size_a hx)
theorem two_is : ∀ e ∈ [(yA, (1 : Int), (1800000 : Int)), (xA, 0, 1800000)], IsE e := by
  intro e he
  simp only [List.mem_cons, List.not_mem_nil, or_false] at he
  rcases he with rfl | rfl
  · exact ⟨isY, by decide, by decide, by decide, by decide⟩
  · exact ⟨isX, by decide, by decide, by decide, by decide⟩
theorem pk_says {w w' : World} {B : Nat} {v : Value} {es : List E} {good : List (List Int)} {last a l' : List Int} {had b h' : Bool} {e : Ending} (h : PickSays w B v es good last had e w') (hp : pickS good es last had = (a, b, l', h')) :
    e = .returned (.tuple #[.agg (bytesV a), .bool b]) ∧ Rl w' B v es l' h' ∧ Fr (Own B v) w w' := by
  rw [PickSays, hp] at h; exact h

set_option maxRecDepth 100000 in
set_option maxHeartbeats 8000000 in
theorem lives_any (w : World) : Calls Try.prog 13 #[] w fun e w' => e = .returned (.bool true) ∧ Below w.heap.size w w' := by
  go_enter Try.func13, Try.ntmps13
  go_wp2_with fail
  refine (new_any w).mono ?_
  rintro e V1 ⟨rfl, k1, b1⟩
  have K1 : Hid (Lv w V1 w.heap.size (.slice none 0 0) [] zeroA false []) := ⟨k1, Nat.le_refl _, b1, fun x hx => by simp at hx⟩
  obtain ⟨B, hB⟩ : ∃ B, w.heap.size = B := ⟨_, rfl⟩
  rw [hB] at K1 ⊢
  obtain ⟨bx, Sx⟩ : ∃ bx, V1.heap.size = bx := ⟨_, rfl⟩
  have K2 := hidd (K1.out.new 23 (bytesV xA) Sx)
  obtain ⟨by_, Sy⟩ : ∃ y, (V1.alloc (.cells (bytesV xA) 23)).heap.size = y := ⟨_, rfl⟩
  have K3 := hidd (K2.out.new 23 (bytesV yA) Sy)
  clear k1 b1 K1
  go_wp2_with (first
    | (with_reducible show wpList _ _ _ (⟨_, Op.build 23 _, _, _, _, _⟩ :: _) _ _; first
        | refine wpList_build_want rfl 23 #[(0, .const (.int .u8 1))] rfl (bytesV xA) (by kernel_rfl) ?_
        | refine wpList_build_want rfl 23 #[(0, .const (.int .u8 2))] rfl (bytesV yA) (by kernel_rfl) ?_)
    | (with_reducible show wpList _ _ _ (⟨_, Op.store 23 (.tmp 2) _, _, _, _, _⟩ :: _) _ _
       refine wpList_store_new rfl rfl 23 (.tmp 2) _ rfl _ _ (bytesV xA) rfl Sx.symm rfl (size_a isX) rfl (ones_b xA) ?_
       generalize V1.alloc (.cells (bytesV xA) 23) = V2 at K2 K3 Sy ⊢)
    | (with_reducible show wpList _ _ _ (⟨_, Op.store 23 (.tmp 3) _, _, _, _, _⟩ :: _) _ _
       refine wpList_store_new rfl rfl 23 (.tmp 3) _ rfl _ _ (bytesV yA) rfl Sy.symm rfl (size_a isY) rfl (ones_b yA) ?_
       generalize V2.alloc (.cells (bytesV yA) 23) = V3 at K3 ⊢
       have lx := hidd (ld16 (K3.out.get 0 rfl) isX)
       clear K2)
    | (with_reducible show wpList _ _ _ (⟨_, Op.load 23 _, _, _, _, _⟩ :: _) _ _; refine wpList_load_want (by kernel_rfl) 23 _ rfl _ rfl _ (by with_reducible exact lx.out) ?_))
  refine (learn_any V3 B _ _ _ _ K3.out.rl 0 1800 0 xA isX (by decide) (by decide) (by decide) (by decide) (by decide) (by decide)).mono ?_
  rintro e V4 ⟨q1, rfl, v4, r4, f4, m4⟩
  rw [first_one] at r4
  have K4 := hidd (K3.out.turn r4 f4 m4)
  have ly := hidd (ld16 (K4.out.get 1 rfl) isY)
  clear r4 f4 m4 K3 lx
  go_wp2_with (with_reducible show wpList _ _ _ (⟨_, Op.load 23 _, _, _, _, _⟩ :: _) _ _; refine wpList_load_want (by kernel_rfl) 23 _ rfl _ rfl _ (by with_reducible exact ly.out) ?_)
  refine (learn_any V4 B _ _ _ _ K4.out.rl 0 1800 8 yA isY (by decide) (by decide) (by decide) (by decide) (by decide) (by decide)).mono ?_
  rintro e V5 ⟨q2, rfl, v5, r5, f5, m5⟩
  rw [then_one] at r5
  have K5 := hidd (K4.out.turn r5 f5 m5)
  clear r5 f5 m5 K4 ly
  go_wp2_with fail
  refine (list_any V5 B v5 _ _ _ K5.out.rl).mono ?_
  rintro e V6 ⟨v6, rfl, ⟨A6, hv6, hg6⟩, b6⟩
  rw [ord_two] at hv6 hg6
  subst hv6
  obtain ⟨g, cur, rfl, hlo, hblk, hcur⟩ := hg6 (by decide)
  have K6 := hidd ((K5.out.to b6).add hblk (by have := K5.out.rl.lt; omega) (fun k hk => by have := (K5.out.rl.own.lt k hk).2; omega))
  have hcur' := hidd hcur
  have lx := hidd (ld16 (K6.out.get 0 rfl) isX)
  obtain ⟨b7, S7⟩ : ∃ y, V6.heap.size = y := ⟨_, rfl⟩
  have K7 := hidd (K6.out.new 23 (bytesV xA) S7)
  clear b6 hg6 hblk hcur K5
  go_wp2_with (first
    | (with_reducible show wpList _ _ _ (⟨_, Op.load 23 _, _, _, _, _⟩ :: _) _ _; refine wpList_load_want (by kernel_rfl) 23 _ rfl _ rfl _ (by with_reducible exact lx.out) ?_)
    | (with_reducible show wpList _ _ _ (⟨_, Op.buildSlice 26 _ _, _, _, _, _⟩ :: _) _ _; refine wpList_bs1 rfl (.tmp 26) slA (by decide) rfl (bytesV xA) rfl rfl ?_
       rw [S7]
       generalize V6.alloc (.cells (bytesV xA) 23) = V7 at K7 ⊢
       clear K6 lx))
  refine (pick_any V7 B v5 _ _ _ K7.out.rl _ _ _ [xA] (isKA_one (K7.out.get 3 rfl) isX)).mono ?_
  rintro e V8 h8
  obtain ⟨rfl, r8, f8⟩ := pk_says h8 pick1
  have K8 := hidd (K7.out.turn r8 f8 (fun k hk => .inl hk))
  obtain ⟨d1, D1⟩ : ∃ y, V8.heap.size = y := ⟨_, rfl⟩
  have K9 := hidd (K8.out.new 23 (bytesV xA) D1)
  clear r8 f8 h8 K7
  go_wp2_with (with_reducible show wpList _ _ _ (⟨_, Op.store 23 (.tmp 5) _, _, _, _, _⟩ :: _) _ _
               refine wpList_store_new rfl rfl 23 (.tmp 5) _ rfl _ _ (bytesV xA) rfl D1.symm rfl (size_a isX) rfl (ones_b xA) ?_
               generalize V8.alloc (.cells (bytesV xA) 23) = V9 at K9 ⊢
               clear K8)
  refine (pick_any V9 B v5 _ _ _ K9.out.rl _ _ _ [] (isKA_nil V9)).mono ?_
  rintro e V10 h10
  obtain ⟨rfl, r10, f10⟩ := pk_says h10 pick2
  have K10 := hidd (K9.out.turn r10 f10 (fun k hk => .inl hk))
  obtain ⟨d2, D2⟩ : ∃ y, V10.heap.size = y := ⟨_, rfl⟩
  have K11 := hidd (K10.out.new 23 (bytesV yA) D2)
  clear r10 f10 h10 K9
  go_wp2_with (with_reducible show wpList _ _ _ (⟨_, Op.store 23 (.tmp 7) _, _, _, _, _⟩ :: _) _ _
               refine wpList_store_new rfl rfl 23 (.tmp 7) _ rfl _ _ (bytesV yA) rfl D2.symm rfl (size_a isY) rfl (ones_b yA) ?_
               generalize V10.alloc (.cells (bytesV yA) 23) = V11 at K11 ⊢
               clear K10)
  refine (pick_any V11 B v5 _ _ _ K11.out.rl _ _ _ [] (isKA_nil V11)).mono ?_
  rintro e V12 h12
  obtain ⟨rfl, r12, f12⟩ := pk_says h12 pick3
  have K12 := hidd (K11.out.turn r12 f12 (fun k hk => .inl hk))
  obtain ⟨d3, D3⟩ : ∃ y, V12.heap.size = y := ⟨_, rfl⟩
  have K13 := hidd (K12.out.new 23 (bytesV xA) D3)
  clear r12 f12 h12 K11
  go_wp2_with (with_reducible show wpList _ _ _ (⟨_, Op.store 23 (.tmp 9) _, _, _, _, _⟩ :: _) _ _
               refine wpList_store_new rfl rfl 23 (.tmp 9) _ rfl _ _ (bytesV xA) rfl D3.symm rfl (size_a isX) rfl (ones_b xA) ?_
               generalize V12.alloc (.cells (bytesV xA) 23) = V13 at K13 ⊢
               clear K12)
  refine (pick_any V13 B v5 _ _ _ K13.out.rl _ _ _ [] (isKA_nil V13)).mono ?_
  rintro e V14 h14
  obtain ⟨rfl, r14, f14⟩ := pk_says h14 pick4
  have K14 := hidd (K13.out.turn r14 f14 (fun k hk => .inl hk))
  obtain ⟨d4, D4⟩ : ∃ y, V14.heap.size = y := ⟨_, rfl⟩
  have K15 := hidd (K14.out.new 23 (bytesV yA) D4)
  have S9 : Hid (LoadsX (V14.alloc (.cells (bytesV yA) 23)).drew g bx by_ d1 d2 d3 d4) := by
    have KK := K15.out.to (Below.refl _ _).drew
    have hG := KK.get 2 rfl
    refine ⟨?_, ?_, ?_, ld16 (KK.get 0 rfl) isX, ld16 (KK.get 1 rfl) isY, ld16 (KK.get 4 rfl) isX, ld16 (KK.get 5 rfl) isY, ld16 (KK.get 6 rfl) isX, ld16 (KK.get 7 rfl) isY⟩
    · exact loadA (e := (yA, 1, 1800000)) (two_is _ (by simp)) (fun j u hu => hG.at_ (by have := hcur'.out 0 _ rfl j u hu; rwa [Nat.zero_mul] at this))
    · exact loadA (e := (xA, 0, 1800000)) (two_is _ (by simp)) (fun j u hu => hG.at_ (by have := hcur'.out 1 _ rfl j u hu; rwa [Nat.one_mul] at this))
    · exact hG.at_ (hcur'.out 1 _ rfl 17 _ rfl)
  have hBe := hidd K15.out.bel
  have e1 := fun W => eql23 W isX isX
  have e2 := fun W => eql23 W isY isY
  have hxx : (xA == xA) = true := by decide
  have hyy : (yA == yA) = true := by decide
  have hgd := guard23
  clear r14 f14 h14 K13 hcur' K14
  go_wp2_with (with_reducible show wpList _ _ _ (⟨_, Op.store 23 (.tmp 11) _, _, _, _, _⟩ :: _) _ _
               refine wpList_store_new rfl rfl 23 (.tmp 11) _ rfl _ _ (bytesV yA) rfl D4.symm rfl (size_a isY) rfl (ones_b yA) ?_
               generalize V14.alloc (.cells (bytesV yA) 23) = V15 at S9 K15 hBe ⊢
               clear K15)
  refine wp_region_held_drew (S := (fun V => LoadsX V g bx by_ d1 d2 d3 d4)) (by kernel_rfl) S9.out (fun hHeld => ?_)
  refine wpAnyH_take (i := 0) (v := ?_) rfl (by kernel_rfl) (by kernel_rfl) (by kernel_rfl) (fun _ _ _ h => h) (Or.inl ⟨by kernel_rfl, ?_⟩) hHeld ?_
  rotate_left
  · intro wh hSw
    go_simp
    try with_reducible rfl
  try simp only [Act.put, List.getElem_toArray, List.getElem_cons_zero, List.getElem_cons_succ, List.setIfInBounds_toArray, List.set_cons_zero, List.set_cons_succ]
  refine wpAnyH_take (i := 1) (v := ?_) rfl (by kernel_rfl) (by kernel_rfl) (by kernel_rfl) (fun _ _ _ h => h) (Or.inl ⟨by kernel_rfl, ?_⟩) hHeld ?_
  rotate_left
  · intro wh hSw
    go_simp
    try with_reducible rfl
  try simp only [Act.put, List.getElem_toArray, List.getElem_cons_zero, List.getElem_cons_succ, List.setIfInBounds_toArray, List.set_cons_zero, List.set_cons_succ]
  refine wpAnyH_take (i := 2) (v := ?_) rfl (by kernel_rfl) (by kernel_rfl) (by kernel_rfl) (fun _ _ _ h => h) (Or.inl ⟨by kernel_rfl, ?_⟩) hHeld ?_
  rotate_left
  · intro wh hSw
    go_simp
    try with_reducible rfl
  try simp only [Act.put, List.getElem_toArray, List.getElem_cons_zero, List.getElem_cons_succ, List.setIfInBounds_toArray, List.set_cons_zero, List.set_cons_succ]
  refine wpAnyH_take (i := 3) (v := ?_) rfl (by kernel_rfl) (by kernel_rfl) (by kernel_rfl) (fun _ _ _ h => h) (Or.inl ⟨by kernel_rfl, ?_⟩) hHeld ?_
  rotate_left
  · intro wh hSw
    go_simp
    try with_reducible rfl
  try simp only [Act.put, List.getElem_toArray, List.getElem_cons_zero, List.getElem_cons_succ, List.setIfInBounds_toArray, List.set_cons_zero, List.set_cons_succ]
  refine wpAnyH_take (i := 4) (v := ?_) rfl (by kernel_rfl) (by kernel_rfl) (by kernel_rfl) (fun _ _ _ h => h) (Or.inl ⟨by kernel_rfl, ?_⟩) hHeld ?_
  rotate_left
  · intro wh hSw
    go_simp
    try with_reducible rfl
  try simp only [Act.put, List.getElem_toArray, List.getElem_cons_zero, List.getElem_cons_succ, List.setIfInBounds_toArray, List.set_cons_zero, List.set_cons_succ]
  refine wpAnyH_take (i := 5) (v := ?_) rfl (by kernel_rfl) (by kernel_rfl) (by kernel_rfl) (fun _ _ _ h => h) (Or.inl ⟨by kernel_rfl, ?_⟩) hHeld ?_
  rotate_left
  · intro wh hSw
    go_simp
    try with_reducible rfl
  try simp only [Act.put, List.getElem_toArray, List.getElem_cons_zero, List.getElem_cons_succ, List.setIfInBounds_toArray, List.set_cons_zero, List.set_cons_succ]
  refine wpAnyH_take (i := 6) (v := ?_) rfl (by kernel_rfl) (by kernel_rfl) (by kernel_rfl) (fun _ _ _ h => h) (Or.inl ⟨by kernel_rfl, ?_⟩) hHeld ?_
  rotate_left
  · intro wh hSw
    go_simp
    try with_reducible rfl
  try simp only [Act.put, List.getElem_toArray, List.getElem_cons_zero, List.getElem_cons_succ, List.setIfInBounds_toArray, List.set_cons_zero, List.set_cons_succ]
  refine wpAnyH_take (i := 7) rfl (by kernel_rfl) (by kernel_rfl) (by kernel_rfl) (fun _ _ _ h => h) (yieldsIf_load_want (by kernel_rfl) 23 _ rfl _ rfl _ (fun wh hSw => hSw.x0)) hHeld ?_
  try simp only [Act.put, List.getElem_toArray, List.getElem_cons_zero, List.getElem_cons_succ, List.setIfInBounds_toArray, List.set_cons_zero, List.set_cons_succ]
  refine wpAnyH_take (i := 8) rfl (by kernel_rfl) (by kernel_rfl) (by kernel_rfl) (fun _ _ _ h => h) (yieldsIf_load_want (by kernel_rfl) 23 _ rfl _ rfl _ (fun wh hSw => hSw.y)) hHeld ?_
  try simp only [Act.put, List.getElem_toArray, List.getElem_cons_zero, List.getElem_cons_succ, List.setIfInBounds_toArray, List.set_cons_zero, List.set_cons_succ]
  refine wpAnyH_take (i := 9) (v := ?_) rfl (by kernel_rfl) (by kernel_rfl) (by kernel_rfl) (fun _ _ _ h => h) (Or.inl ⟨by kernel_rfl, ?_⟩) hHeld ?_
  rotate_left
  · intro wh hSw
    go_simp
    try with_reducible rfl
  try simp only [Act.put, List.getElem_toArray, List.getElem_cons_zero, List.getElem_cons_succ, List.setIfInBounds_toArray, List.set_cons_zero, List.set_cons_succ]
  refine wpAnyH_take (i := 10) (v := ?_) rfl (by kernel_rfl) (by kernel_rfl) (by kernel_rfl) (fun _ _ _ h => h) (Or.inl ⟨by kernel_rfl, ?_⟩) hHeld ?_
  rotate_left
  · intro wh hSw
    go_simp
    try with_reducible rfl
  try simp only [Act.put, List.getElem_toArray, List.getElem_cons_zero, List.getElem_cons_succ, List.setIfInBounds_toArray, List.set_cons_zero, List.set_cons_succ]
  refine wpAnyH_take (i := 11) (v := ?_) rfl (by kernel_rfl) (by kernel_rfl) (by kernel_rfl) (fun _ _ _ h => h) (Or.inl ⟨by kernel_rfl, ?_⟩) hHeld ?_
  rotate_left
  · intro wh hSw
    go_simp
    try with_reducible rfl
  try simp only [Act.put, List.getElem_toArray, List.getElem_cons_zero, List.getElem_cons_succ, List.setIfInBounds_toArray, List.set_cons_zero, List.set_cons_succ]
  refine wpAnyH_take (i := 12) (v := ?_) rfl (by kernel_rfl) (by kernel_rfl) (by kernel_rfl) (fun _ _ _ h => h) (Or.inl ⟨by kernel_rfl, ?_⟩) hHeld ?_
  rotate_left
  · intro wh hSw
    go_simp
    try with_reducible rfl
  try simp only [Act.put, List.getElem_toArray, List.getElem_cons_zero, List.getElem_cons_succ, List.setIfInBounds_toArray, List.set_cons_zero, List.set_cons_succ]
  refine wpAnyH_take (i := 13) (v := ?_) rfl (by kernel_rfl) (by kernel_rfl) (by kernel_rfl) (fun _ _ _ h => h) (Or.inl ⟨by kernel_rfl, ?_⟩) hHeld ?_
  rotate_left
  · intro wh hSw
    go_simp
    try with_reducible rfl
  try simp only [Act.put, List.getElem_toArray, List.getElem_cons_zero, List.getElem_cons_succ, List.setIfInBounds_toArray, List.set_cons_zero, List.set_cons_succ]
  refine wpAnyH_take (i := 14) (v := ?_) rfl (by kernel_rfl) (by kernel_rfl) (by kernel_rfl) (fun _ _ _ h => h) (Or.inl ⟨by kernel_rfl, ?_⟩) hHeld ?_
  rotate_left
  · intro wh hSw
    go_simp
    try with_reducible rfl
  try simp only [Act.put, List.getElem_toArray, List.getElem_cons_zero, List.getElem_cons_succ, List.setIfInBounds_toArray, List.set_cons_zero, List.set_cons_succ]
  refine wpAnyH_take (i := 15) rfl (by kernel_rfl) (by kernel_rfl) (by kernel_rfl) (fun _ _ _ h => h) (yieldsIf_load_want (by kernel_rfl) 23 _ rfl _ rfl _ (fun wh hSw => hSw.x1)) hHeld ?_
  try simp only [Act.put, List.getElem_toArray, List.getElem_cons_zero, List.getElem_cons_succ, List.setIfInBounds_toArray, List.set_cons_zero, List.set_cons_succ]
  refine wpAnyH_take (i := 16) rfl (by kernel_rfl) (by kernel_rfl) (by kernel_rfl) (fun _ _ _ h => h) (yieldsIf_load_want (by kernel_rfl) 23 _ rfl _ rfl _ (fun wh hSw => hSw.x)) hHeld ?_
  try simp only [Act.put, List.getElem_toArray, List.getElem_cons_zero, List.getElem_cons_succ, List.setIfInBounds_toArray, List.set_cons_zero, List.set_cons_succ]
  refine wpAnyH_take (i := 17) (v := ?_) rfl (by kernel_rfl) (by kernel_rfl) (by kernel_rfl) (fun _ _ _ h => h) (Or.inl ⟨by kernel_rfl, ?_⟩) hHeld ?_
  rotate_left
  · intro wh hSw
    go_simp
    try with_reducible rfl
  try simp only [Act.put, List.getElem_toArray, List.getElem_cons_zero, List.getElem_cons_succ, List.setIfInBounds_toArray, List.set_cons_zero, List.set_cons_succ]
  refine wpAnyH_take (i := 18) (v := ?_) rfl (by kernel_rfl) (by kernel_rfl) (by kernel_rfl) (fun _ _ _ h => h) (Or.inl ⟨by kernel_rfl, ?_⟩) hHeld ?_
  rotate_left
  · intro wh hSw
    go_simp
    try with_reducible rfl
  try simp only [Act.put, List.getElem_toArray, List.getElem_cons_zero, List.getElem_cons_succ, List.setIfInBounds_toArray, List.set_cons_zero, List.set_cons_succ]
  refine wpAnyH_take (i := 19) (v := ?_) rfl (by kernel_rfl) (by kernel_rfl) (by kernel_rfl) (fun _ _ _ h => h) (Or.inl ⟨by kernel_rfl, ?_⟩) hHeld ?_
  rotate_left
  · intro wh hSw
    go_simp
    try with_reducible rfl
  try simp only [Act.put, List.getElem_toArray, List.getElem_cons_zero, List.getElem_cons_succ, List.setIfInBounds_toArray, List.set_cons_zero, List.set_cons_succ]
  refine wpAnyH_take (i := 20) (v := ?_) rfl (by kernel_rfl) (by kernel_rfl) (by kernel_rfl) (fun _ _ _ h => h) (Or.inl ⟨by kernel_rfl, ?_⟩) hHeld ?_
  rotate_left
  · intro wh hSw
    go_simp
    try with_reducible rfl
  try simp only [Act.put, List.getElem_toArray, List.getElem_cons_zero, List.getElem_cons_succ, List.setIfInBounds_toArray, List.set_cons_zero, List.set_cons_succ]
  refine wpAnyH_take (i := 21) (v := ?_) rfl (by kernel_rfl) (by kernel_rfl) (by kernel_rfl) (fun _ _ _ h => h) (Or.inl ⟨by kernel_rfl, ?_⟩) hHeld ?_
  rotate_left
  · intro wh hSw
    go_simp
    try with_reducible rfl
  try simp only [Act.put, List.getElem_toArray, List.getElem_cons_zero, List.getElem_cons_succ, List.setIfInBounds_toArray, List.set_cons_zero, List.set_cons_succ]
  refine wpAnyH_take (i := 22) (v := ?_) rfl (by kernel_rfl) (by kernel_rfl) (by kernel_rfl) (fun _ _ _ h => h) (Or.inl ⟨by kernel_rfl, ?_⟩) hHeld ?_
  rotate_left
  · intro wh hSw
    go_simp
    try with_reducible rfl
  try simp only [Act.put, List.getElem_toArray, List.getElem_cons_zero, List.getElem_cons_succ, List.setIfInBounds_toArray, List.set_cons_zero, List.set_cons_succ]
  refine wpAnyH_take (i := 23) (v := ?_) rfl (by kernel_rfl) (by kernel_rfl) (by kernel_rfl) (fun _ _ _ h => h) (Or.inl ⟨by kernel_rfl, ?_⟩) hHeld ?_
  rotate_left
  · intro wh hSw
    have hcell := hSw.u1
    go_simp
    try with_reducible rfl
  try simp only [Act.put, List.getElem_toArray, List.getElem_cons_zero, List.getElem_cons_succ, List.setIfInBounds_toArray, List.set_cons_zero, List.set_cons_succ]
  refine wpAnyH_take (i := 24) (v := ?_) rfl (by kernel_rfl) (by kernel_rfl) (by kernel_rfl) (fun _ _ _ h => h) (Or.inl ⟨by kernel_rfl, ?_⟩) hHeld ?_
  rotate_left
  · intro wh hSw
    go_simp
    try with_reducible rfl
  try simp only [Act.put, List.getElem_toArray, List.getElem_cons_zero, List.getElem_cons_succ, List.setIfInBounds_toArray, List.set_cons_zero, List.set_cons_succ]
  refine wpAnyH_take (i := 25) (v := ?_) rfl (by kernel_rfl) (by kernel_rfl) (by kernel_rfl) (fun _ _ _ h => h) (Or.inl ⟨by kernel_rfl, ?_⟩) hHeld ?_
  rotate_left
  · intro wh hSw
    go_simp
    try with_reducible rfl
  try simp only [Act.put, List.getElem_toArray, List.getElem_cons_zero, List.getElem_cons_succ, List.setIfInBounds_toArray, List.set_cons_zero, List.set_cons_succ]
  refine wpAnyH_take (i := 26) (v := ?_) rfl (by kernel_rfl) (by kernel_rfl) (by kernel_rfl) (fun _ _ _ h => h) (Or.inl ⟨by kernel_rfl, ?_⟩) hHeld ?_
  rotate_left
  · intro wh hSw
    go_simp
    try with_reducible rfl
  try simp only [Act.put, List.getElem_toArray, List.getElem_cons_zero, List.getElem_cons_succ, List.setIfInBounds_toArray, List.set_cons_zero, List.set_cons_succ]
  refine wpAnyH_take (i := 27) rfl (by kernel_rfl) (by kernel_rfl) (by kernel_rfl) (fun _ _ _ h => h) (yieldsIf_load_want (by kernel_rfl) 23 _ rfl _ rfl _ (fun wh hSw => hSw.b1)) hHeld ?_
  try simp only [Act.put, List.getElem_toArray, List.getElem_cons_zero, List.getElem_cons_succ, List.setIfInBounds_toArray, List.set_cons_zero, List.set_cons_succ]
  refine wpAnyH_take (i := 28) rfl (by kernel_rfl) (by kernel_rfl) (by kernel_rfl) (fun _ _ _ h => h) (yieldsIf_load_want (by kernel_rfl) 23 _ rfl _ rfl _ (fun wh hSw => hSw.x)) hHeld ?_
  try simp only [Act.put, List.getElem_toArray, List.getElem_cons_zero, List.getElem_cons_succ, List.setIfInBounds_toArray, List.set_cons_zero, List.set_cons_succ]
  refine wpAnyH_take (i := 29) (v := ?_) rfl (by kernel_rfl) (by kernel_rfl) (by kernel_rfl) (fun _ _ _ h => h) (Or.inl ⟨by kernel_rfl, ?_⟩) hHeld ?_
  rotate_left
  · intro wh hSw
    go_simp
    try with_reducible rfl
  try simp only [Act.put, List.getElem_toArray, List.getElem_cons_zero, List.getElem_cons_succ, List.setIfInBounds_toArray, List.set_cons_zero, List.set_cons_succ]
  refine wpAnyH_take (i := 30) (v := ?_) rfl (by kernel_rfl) (by kernel_rfl) (by kernel_rfl) (fun _ _ _ h => h) (Or.inl ⟨by kernel_rfl, ?_⟩) hHeld ?_
  rotate_left
  · intro wh hSw
    go_simp
    try with_reducible rfl
  try simp only [Act.put, List.getElem_toArray, List.getElem_cons_zero, List.getElem_cons_succ, List.setIfInBounds_toArray, List.set_cons_zero, List.set_cons_succ]
  refine wpAnyH_take (i := 31) (v := ?_) rfl (by kernel_rfl) (by kernel_rfl) (by kernel_rfl) (fun _ _ _ h => h) (Or.inl ⟨by kernel_rfl, ?_⟩) hHeld ?_
  rotate_left
  · intro wh hSw
    go_simp
    try with_reducible rfl
  try simp only [Act.put, List.getElem_toArray, List.getElem_cons_zero, List.getElem_cons_succ, List.setIfInBounds_toArray, List.set_cons_zero, List.set_cons_succ]
  refine wpAnyH_take (i := 32) rfl (by kernel_rfl) (by kernel_rfl) (by kernel_rfl) (fun _ _ _ h => h) (yieldsIf_load_want (by kernel_rfl) 23 _ rfl _ rfl _ (fun wh hSw => hSw.b2)) hHeld ?_
  try simp only [Act.put, List.getElem_toArray, List.getElem_cons_zero, List.getElem_cons_succ, List.setIfInBounds_toArray, List.set_cons_zero, List.set_cons_succ]
  refine wpAnyH_take (i := 33) rfl (by kernel_rfl) (by kernel_rfl) (by kernel_rfl) (fun _ _ _ h => h) (yieldsIf_load_want (by kernel_rfl) 23 _ rfl _ rfl _ (fun wh hSw => hSw.y)) hHeld ?_
  try simp only [Act.put, List.getElem_toArray, List.getElem_cons_zero, List.getElem_cons_succ, List.setIfInBounds_toArray, List.set_cons_zero, List.set_cons_succ]
  refine wpAnyH_take (i := 34) (v := ?_) rfl (by kernel_rfl) (by kernel_rfl) (by kernel_rfl) (fun _ _ _ h => h) (Or.inl ⟨by kernel_rfl, ?_⟩) hHeld ?_
  rotate_left
  · intro wh hSw
    go_simp
    try with_reducible rfl
  try simp only [Act.put, List.getElem_toArray, List.getElem_cons_zero, List.getElem_cons_succ, List.setIfInBounds_toArray, List.set_cons_zero, List.set_cons_succ]
  refine wpAnyH_take (i := 35) (v := ?_) rfl (by kernel_rfl) (by kernel_rfl) (by kernel_rfl) (fun _ _ _ h => h) (Or.inl ⟨by kernel_rfl, ?_⟩) hHeld ?_
  rotate_left
  · intro wh hSw
    go_simp
    try with_reducible rfl
  try simp only [Act.put, List.getElem_toArray, List.getElem_cons_zero, List.getElem_cons_succ, List.setIfInBounds_toArray, List.set_cons_zero, List.set_cons_succ]
  refine wpAnyH_take (i := 36) (v := ?_) rfl (by kernel_rfl) (by kernel_rfl) (by kernel_rfl) (fun _ _ _ h => h) (Or.inl ⟨by kernel_rfl, ?_⟩) hHeld ?_
  rotate_left
  · intro wh hSw
    go_simp
    try with_reducible rfl
  try simp only [Act.put, List.getElem_toArray, List.getElem_cons_zero, List.getElem_cons_succ, List.setIfInBounds_toArray, List.set_cons_zero, List.set_cons_succ]
  refine wpAnyH_take (i := 37) rfl (by kernel_rfl) (by kernel_rfl) (by kernel_rfl) (fun _ _ _ h => h) (yieldsIf_load_want (by kernel_rfl) 23 _ rfl _ rfl _ (fun wh hSw => hSw.b3)) hHeld ?_
  try simp only [Act.put, List.getElem_toArray, List.getElem_cons_zero, List.getElem_cons_succ, List.setIfInBounds_toArray, List.set_cons_zero, List.set_cons_succ]
  refine wpAnyH_take (i := 38) rfl (by kernel_rfl) (by kernel_rfl) (by kernel_rfl) (fun _ _ _ h => h) (yieldsIf_load_want (by kernel_rfl) 23 _ rfl _ rfl _ (fun wh hSw => hSw.x)) hHeld ?_
  try simp only [Act.put, List.getElem_toArray, List.getElem_cons_zero, List.getElem_cons_succ, List.setIfInBounds_toArray, List.set_cons_zero, List.set_cons_succ]
  refine wpAnyH_take (i := 39) (v := ?_) rfl (by kernel_rfl) (by kernel_rfl) (by kernel_rfl) (fun _ _ _ h => h) (Or.inl ⟨by kernel_rfl, ?_⟩) hHeld ?_
  rotate_left
  · intro wh hSw
    go_simp
    try with_reducible rfl
  try simp only [Act.put, List.getElem_toArray, List.getElem_cons_zero, List.getElem_cons_succ, List.setIfInBounds_toArray, List.set_cons_zero, List.set_cons_succ]
  refine wpAnyH_take (i := 40) (v := ?_) rfl (by kernel_rfl) (by kernel_rfl) (by kernel_rfl) (fun _ _ _ h => h) (Or.inl ⟨by kernel_rfl, ?_⟩) hHeld ?_
  rotate_left
  · intro wh hSw
    go_simp
    try with_reducible rfl
  try simp only [Act.put, List.getElem_toArray, List.getElem_cons_zero, List.getElem_cons_succ, List.setIfInBounds_toArray, List.set_cons_zero, List.set_cons_succ]
  refine wpAnyH_take (i := 41) (v := ?_) rfl (by kernel_rfl) (by kernel_rfl) (by kernel_rfl) (fun _ _ _ h => h) (Or.inl ⟨by kernel_rfl, ?_⟩) hHeld ?_
  rotate_left
  · intro wh hSw
    go_simp
    try with_reducible rfl
  try simp only [Act.put, List.getElem_toArray, List.getElem_cons_zero, List.getElem_cons_succ, List.setIfInBounds_toArray, List.set_cons_zero, List.set_cons_succ]
  refine wpAnyH_take (i := 42) rfl (by kernel_rfl) (by kernel_rfl) (by kernel_rfl) (fun _ _ _ h => h) (yieldsIf_load_want (by kernel_rfl) 23 _ rfl _ rfl _ (fun wh hSw => hSw.b4)) hHeld ?_
  try simp only [Act.put, List.getElem_toArray, List.getElem_cons_zero, List.getElem_cons_succ, List.setIfInBounds_toArray, List.set_cons_zero, List.set_cons_succ]
  refine wpAnyH_take (i := 43) rfl (by kernel_rfl) (by kernel_rfl) (by kernel_rfl) (fun _ _ _ h => h) (yieldsIf_load_want (by kernel_rfl) 23 _ rfl _ rfl _ (fun wh hSw => hSw.y)) hHeld ?_
  try simp only [Act.put, List.getElem_toArray, List.getElem_cons_zero, List.getElem_cons_succ, List.setIfInBounds_toArray, List.set_cons_zero, List.set_cons_succ]
  refine wpAnyH_take (i := 44) (v := ?_) rfl (by kernel_rfl) (by kernel_rfl) (by kernel_rfl) (fun _ _ _ h => h) (Or.inl ⟨by kernel_rfl, ?_⟩) hHeld ?_
  rotate_left
  · intro wh hSw
    go_simp
    try with_reducible rfl
  try simp only [Act.put, List.getElem_toArray, List.getElem_cons_zero, List.getElem_cons_succ, List.setIfInBounds_toArray, List.set_cons_zero, List.set_cons_succ]
  refine wpAnyH_take (i := 45) (v := ?_) rfl (by kernel_rfl) (by kernel_rfl) (by kernel_rfl) (fun _ _ _ h => h) (Or.inl ⟨by kernel_rfl, ?_⟩) hHeld ?_
  rotate_left
  · intro wh hSw
    go_simp
    try with_reducible rfl
  try simp only [Act.put, List.getElem_toArray, List.getElem_cons_zero, List.getElem_cons_succ, List.setIfInBounds_toArray, List.set_cons_zero, List.set_cons_succ]
  refine wpAnyH_take (i := 46) (v := ?_) rfl (by kernel_rfl) (by kernel_rfl) (by kernel_rfl) (fun _ _ _ h => h) (Or.inl ⟨by kernel_rfl, ?_⟩) hHeld ?_
  rotate_left
  · intro wh hSw
    go_simp
    try with_reducible rfl
  try simp only [Act.put, List.getElem_toArray, List.getElem_cons_zero, List.getElem_cons_succ, List.setIfInBounds_toArray, List.set_cons_zero, List.set_cons_succ]
  refine wpAnyH_take (i := 47) (v := ?_) rfl (by kernel_rfl) (by kernel_rfl) (by kernel_rfl) (fun _ _ _ h => h) (Or.inl ⟨by kernel_rfl, ?_⟩) hHeld ?_
  rotate_left
  · intro wh hSw
    go_simp
    try with_reducible rfl
  try simp only [Act.put, List.getElem_toArray, List.getElem_cons_zero, List.getElem_cons_succ, List.setIfInBounds_toArray, List.set_cons_zero, List.set_cons_succ]
  refine wpAnyH_take (i := 48) (v := ?_) rfl (by kernel_rfl) (by kernel_rfl) (by kernel_rfl) (fun _ _ _ h => h) (Or.inl ⟨by kernel_rfl, ?_⟩) hHeld ?_
  rotate_left
  · intro wh hSw
    go_simp
    try with_reducible rfl
  try simp only [Act.put, List.getElem_toArray, List.getElem_cons_zero, List.getElem_cons_succ, List.setIfInBounds_toArray, List.set_cons_zero, List.set_cons_succ]
  refine wpAnyH_ready (rs := [49]) (by kernel_rfl) (by simp) (AllReadyH.cons rfl (fun K hK => ?_) AllReadyH.nil)
  clear hHeld
  go_simp
  refine hK.out _ _ S9.out (fun hHeld => ?_)
  clear hK K
  try simp only [Act.put, List.getElem_toArray, List.getElem_cons_zero, List.getElem_cons_succ, List.setIfInBounds_toArray, List.set_cons_zero, List.set_cons_succ]
  refine wpAnyH_done (by kernel_rfl) ?_ _
  clear hHeld
  go_wp2
  go_ret
  exact ⟨rfl, hBe.out.drew⟩
end Go.Proofs.Ytnchjbgfmkmbaaa
