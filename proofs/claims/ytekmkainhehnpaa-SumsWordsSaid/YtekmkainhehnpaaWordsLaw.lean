/- 'SumsWords': for every input the law returns true; nothing that was there is written. No condition. -/
import Derived.Test.YtekmkainhehnpaaPlain
import Derived.Deep.RegionHeld3
import Derived.Deep.RegionLaw
namespace Go.Proofs.Ytekmkainhehnpaa
open Go.ChangeShapes Go.WideShapes Go.ChangeAt Go.RowKit Go.Deep
set_option linter.unusedVariables false

/-- Words as bytes, the high one first. -/
def wordsB (l : List Int) : List Int := l.flatMap fun x => [x / 256, x % 256]
theorem wordsB_snoc (l : List Int) (x : Int) : wordsB (l ++ [x]) = wordsB l ++ [x / 256, x % 256] := by simp [wordsB]
theorem wordsB_length (l : List Int) : (wordsB l).length = 2 * l.length := by
  induction l with
  | nil => rfl
  | cons x l ih => simp only [wordsB, List.flatMap_cons, List.length_append, List.length_cons, List.length_nil] at ih ⊢; omega
theorem ws_wordsB (l : List Int) : ws 0 (wordsB l) = l.sum := by
  induction l with
  | nil => rfl
  | cons x l ih =>
    have e : wordsB (x :: l) = [x / 256, x % 256] ++ wordsB l := by simp [wordsB]
    have e2 : ws (0 + 2) (wordsB l) = ws 0 (wordsB l) := ws_even (wordsB l) 1
    rw [e, ws_append]
    show ws 0 [x / 256, x % 256] + ws (0 + 2) (wordsB l) = _
    rw [e2, ih, List.sum_cons]
    simp [ws]
    omega
theorem wordsB_rng {l : List Int} (h : ∀ x ∈ l, 0 ≤ x ∧ x ≤ 65535) : ∀ x ∈ wordsB l, 0 ≤ x ∧ x ≤ 255 := by
  intro x hx
  obtain ⟨y, hy, hxy⟩ := List.mem_flatMap.1 hx
  have := h y hy
  simp only [List.mem_cons, List.not_mem_nil, or_false] at hxy
  rcases hxy with rfl | rfl <;> omega

/-- The other order: backward, beginning at 'at', around. -/
def turned (l : List Int) (r : Nat) : List Int := (l.take r).reverse ++ (l.drop r).reverse
theorem turned_sum (l : List Int) (r : Nat) : (turned l r).sum = l.sum := by
  unfold turned
  rw [List.sum_append, List.sum_reverse, List.sum_reverse]
  conv => rhs; rw [← List.take_append_drop r l, List.sum_append]
theorem turned_length (l : List Int) (r : Nat) : (turned l r).length = l.length := by
  unfold turned; simp; omega
theorem turned_get (l : List Int) (r j : Nat) (hr : r < l.length) (hj : j < l.length) : (turned l r)[j]? = l[(l.length - 1 - j + r) % l.length]? := by
  unfold turned
  by_cases h : j < r
  · rw [List.getElem?_append_left (by simp; omega), List.getElem?_reverse (by simp; omega)]
    have e : (l.length - 1 - j + r) % l.length = r - 1 - j := by
      rw [show l.length - 1 - j + r = r - 1 - j + l.length by omega, Nat.add_mod_right, Nat.mod_eq_of_lt (by omega)]
    rw [e, List.length_take, List.getElem?_take_of_lt (by omega)]
    congr 1
    omega
  · rw [List.getElem?_append_right (by simp; omega), List.getElem?_reverse (by simp; omega)]
    have e : (l.length - 1 - j + r) % l.length = l.length - 1 - j + r := Nat.mod_eq_of_lt (by omega)
    rw [e, List.length_drop, List.length_reverse, List.length_take, List.getElem?_drop]
    congr 1
    omega
theorem turned_rng {l : List Int} {r : Nat} (h : ∀ x ∈ l, 0 ≤ x ∧ x ≤ 65535) : ∀ x ∈ turned l r, 0 ≤ x ∧ x ≤ 65535 := by
  intro x hx
  unfold turned at hx
  rw [List.mem_append, List.mem_reverse, List.mem_reverse] at hx
  rcases hx with hx | hx
  · exact h x (List.mem_of_mem_take hx)
  · exact h x (List.mem_of_mem_drop hx)

theorem ck_turned {l : List Int} {r : Nat} (h : ∀ x ∈ l, 0 ≤ x ∧ x ≤ 65535) : ck (wordsB (turned l r)) = ck (wordsB l) := by
  rw [ck_ws _ (wordsB_rng (turned_rng h)), ck_ws _ (wordsB_rng h), ws_wordsB, ws_wordsB, turned_sum]
theorem ck_zeros {l : List Int} (n : Nat) (h : ∀ x ∈ l, 0 ≤ x ∧ x ≤ 255) : ck (l ++ List.replicate n 0) = ck l := by
  rw [ck_ws _ (by intro x hx; rcases List.mem_append.1 hx with hx | hx; exact h x hx; exact zeros_rng n x hx), ck_ws _ h, ws_append, ws_zeros, Int.add_zero]

theorem rd2 (w : World) (e1 e2 : Int) : Rd (w.alloc (.cells #[.int .u8 e1, .int .u8 e2] 5)) (w.heap.size + 1) 1 (some ⟨w.heap.size, 0, none⟩) 2 2 ([e1, e2].map (Value.int .u8)) :=
  (Blk.new w 5 #[.int .u8 e1, .int .u8 e2]).rd 1 2 2 rfl (Nat.le_refl _) (by decide) (by omega)
theorem own_drew {w : World} {base size n : Nat} {e : TypeId} {v : Value} {xs : List Value} (h : w.ownsRow base e size v n xs) : w.drew.ownsRow base e size v n xs := h
theorem own_al {w : World} {base size n : Nat} {e : TypeId} {v : Value} {xs : List Value} (h : w.ownsRow base e size v n xs) (o : Obj) : (w.alloc o).ownsRow base e size v n xs :=
  ownRow_fr h ((Fr.refl (fun _ => False) w).alloc o) (fun _ _ e => e)

theorem zeros_laid (n : Nat) : madeCells #[Value.int .u8 0] n = bytesV (List.replicate n 0) := by
  rw [← Array.toList_inj, toList_madeCells_one]
  simp [bytesV]

/-- Two lists that the call owns, each in a block of its own. -/
structure Two (w W : World) (va vb : Value) (la lb : List Int) : Prop where
  oa : W.ownsRow w.heap.size 5 1 va la.length (la.map (Value.int .u8))
  ob : W.ownsRow w.heap.size 5 1 vb lb.length (lb.map (Value.int .u8))
  apart : ∀ g, va.ownBlock = some g → vb.ownBlock ≠ some g
  bel : Below w.heap.size w W

section
variable {w W W2 : World} {va vb v2 : Value} {la lb : List Int}
theorem Two.ina (h : Two w W va vb la lb) {k : Nat} (hk : va.ownBlock = some k) : w.heap.size ≤ k ∧ k < W.heap.size := h.oa.lt k hk
theorem Two.inb (h : Two w W va vb la lb) {k : Nat} (hk : vb.ownBlock = some k) : w.heap.size ≤ k ∧ k < W.heap.size := h.ob.lt k hk
theorem Two.grew (h : Two w W va vb la lb) {W1 : World} (h1 : Fr (fun _ => False) W W1) {n : Nat} {xs : List Int} (ho : W2.ownsRow w.heap.size 5 1 v2 n (la.map (Value.int .u8) ++ xs.map (Value.int .u8))) (hn : n = la.length + xs.length)
    (hg : W1.grownBy W2 va.ownBlock) (hat : v2.ownBlock = va.ownBlock ∨ v2.ownBlock = some W1.heap.size) : Two w W2 v2 vb (la ++ xs) lb := by
  have hF := Fr.of_grown hg
  have hs := h.bel.size
  have hs1 := h1.size
  refine ⟨?_, ?_, ?_, ?_⟩
  · rw [List.map_append, List.length_append, ← hn]; exact ho
  · exact ownRow_fr (ownRow_fr h.ob h1 (fun _ _ e => e)) hF (fun k hk e => h.apart k e hk)
  · intro g hg2 hb
    rcases hat with e | e
    · exact h.apart g (e ▸ hg2) hb
    · rw [e] at hg2; injection hg2 with hg2; have := (h.inb hb).2; omega
  · exact (h.bel.trans (h1.below hs (fun _ e => e.elim))).trans (hF.below (by omega) (fun k hk => (h.ina hk).1))
theorem Two.swap (h : Two w W va vb la lb) : Two w W vb va lb la := ⟨h.ob, h.oa, fun g hb ha => h.apart g ha hb, h.bel⟩
end

set_option maxRecDepth 100000 in
set_option maxHeartbeats 1000000 in
theorem walkSumsWords (a0 : Option Addr) (n0 c0 : Nat) (z0 : List Int) (a1 : Int) (w : World) (r0 : Rd w w.heap.size 1 a0 n0 c0 (z0.map (Value.int .u16))) (y0 : c0 * Try.prog.bytesOf 25 ≤ reachBytes) (w0 : ∀ y ∈ z0, (Lit.int .u16 y).wf = true) (w1 : (Lit.int .u16 a1).wf = true) :
    Calls Try.prog 4 #[.slice a0 n0 c0, .int .u16 a1] w fun e w' => e = .returned (.bool true) ∧ Below w.heap.size w w' := by
  clear y0
  have m0 := r0.cmax
  have k0 := r0.cap
  unfold maxLen at m0
  have e0 : z0.length = n0 := by have := r0.len; simpa using this
  have hb1 := bounds_u16 w1
  by_cases h : n0 ≤ 500 ∧ 0 < n0
  · obtain ⟨h0, h1⟩ := h
    have hrng : Hid (∀ x ∈ z0, 0 ≤ x ∧ x ≤ 65535) := fun x hx => by have := bounds_u16 (w0 x hx); omega
    obtain ⟨a, rfl⟩ : ∃ a : Nat, a1 = (a : Int) := ⟨a1.toNat, by omega⟩
    have hst : Hid (Two w w (.slice none 0 0) (.slice none 0 0) [] []) := ⟨World.ownsRow_nil _ _ _ _, World.ownsRow_nil _ _ _ _, by simp [Value.ownBlock], Below.refl _ _⟩
    have ht1 : (decide (500 < (n0 : Int)) || (n0 : Int) == 0) = false := by simp; omega
    have ht2 : ((n0 : Int) == 0) = false := by simp; omega
    clear w0 w1
    go_enter Try.func4, Try.ntmps4
    go_wp2
    go_loopw [5, 6, 7] (fun va vb i wr => ∃ k : Nat, k ≤ n0 ∧ i = .int .i64 k ∧ Two w wr va vb (wordsB (z0.take k)) (wordsB ((turned z0 (a % n0)).take k))) (fun _ _ i _ => n0 - (intOf i).toNat)
    case atStart => exact ⟨0, Nat.zero_le _, rfl, hst.out⟩
    case round =>
      obtain ⟨k, hk, rfl, hT⟩ := hrel
      clear hst
      by_cases hlt : k < n0
      · obtain ⟨b, off, rfl, hb, hc⟩ := r0.ints (by omega)
        obtain ⟨q, hq⟩ : ∃ q, q = (n0 - 1 - k + a % n0) % n0 := ⟨_, rfl⟩
        have hm : q < n0 := by rw [hq]; exact Nat.mod_lt _ (by omega)
        have hqi : ((n0 : Int) - 1 - k + a) % n0 = (q : Int) := by
          rw [hq, Nat.add_mod_mod, show (n0 : Int) - 1 - k + a = ((n0 - 1 - k + a : Nat) : Int) by omega]
          exact (Int.natCast_emod _ _).symm
        obtain ⟨x, hx⟩ : ∃ x, z0[k]? = some x := ⟨z0[k]'(by omega), List.getElem?_eq_getElem _⟩
        obtain ⟨y, hy⟩ : ∃ y, z0[q]? = some y := ⟨z0[q]'(by omega), List.getElem?_eq_getElem _⟩
        obtain ⟨x0, x1⟩ := hrng.out x (List.mem_of_getElem? hx)
        obtain ⟨y0, y1⟩ := hrng.out y (List.mem_of_getElem? hy)
        have c1 := (hT.bel.cell (p := ⟨b, off + k, none⟩) hb).trans (hc k hlt)
        have c2 := (hT.bel.cell (p := ⟨b, off + q, none⟩) hb).trans (hc q hm)
        rw [hx, Option.getD_some] at c1
        rw [hy, Option.getD_some] at c2
        have n1 : Hid (wordsB (z0.take (k + 1)) = wordsB (z0.take k) ++ [x / 256, x % 256]) := by
          rw [take_snoc' (by omega), wordsB_snoc, hx]; rfl
        have n2 : Hid (wordsB ((turned z0 (a % n0)).take (k + 1)) = wordsB ((turned z0 (a % n0)).take k) ++ [y / 256, y % 256]) := by
          have hlen := turned_length z0 (a % n0)
          rw [take_snoc' (by omega), wordsB_snoc, turned_get _ _ _ (by rw [e0]; exact Nat.mod_lt _ (by omega)) (by omega), e0, ← hq, hy]; rfl
        obtain ⟨la, hla⟩ : ∃ la, la = wordsB (z0.take k) := ⟨_, rfl⟩
        obtain ⟨lb, hlb⟩ : ∃ lb, lb = wordsB ((turned z0 (a % n0)).take k) := ⟨_, rfl⟩
        have la1 : la.length ≤ 1000 := by rw [hla, wordsB_length, List.length_take]; omega
        have lb1 : lb.length ≤ 1000 := by rw [hlb, wordsB_length, List.length_take]; omega
        rw [← hla, ← hlb] at hT
        rw [← hla] at n1
        rw [← hlb] at n2
        have hT' := hidd hT
        have hbs := hT.bel.size
        have hwl := hT.bel
        have hblt : b < wr.heap.size := by omega
        have wb1 : Hid (IntKind.u8.wrap (x / 256) = x / 256) := by show _ = _; rw [IntKind.wrap_u8']; omega
        have wb2 : Hid (IntKind.u8.wrap x = x % 256) := IntKind.wrap_u8' x
        have wb3 : Hid (IntKind.u8.wrap (y / 256) = y / 256) := by show _ = _; rw [IntKind.wrap_u8']; omega
        have wb4 : Hid (IntKind.u8.wrap y = y % 256) := IntKind.wrap_u8' y
        clear hT hwl hla hlb hx hy hc hq r0 e0
        go_wp2
        go_region_held3 (fun W => W.cell? ⟨b, off + k, none⟩ = some (.int .u16 x)) (first | assumption | exact c1 | exact ((((Below.refl w.heap.size wr).alloc hbs _).drew).cell (p := ⟨b, off + k, none⟩) hb).trans c1)
          (first
            | (refine step_append_rd (v := u5) _ rfl (.tmp 37) (.tmp 49) T22 rfl rfl (own_drew (own_al hT'.out.oa _)) rfl (rd2 wr (IntKind.u8.wrap (x / 256)) (IntKind.u8.wrap x)).drew (ints_one _ _) (by unfold maxLen; omega) (by omega) (by simp; omega) ?_
               intro v3 w3 o3 g3 t3 l3
               clear l3
               have T3' := (hT'.out.grew (((Fr.refl _ wr).alloc _).drew) o3 rfl g3 t3)
               rw [wb1.out, wb2.out, ← n1.out] at T3'
               have T3 := hidd T3'
               have b3 : Below w.heap.size wr w3 := (((Below.refl w.heap.size wr).alloc hbs _).drew).trans ((Fr.of_grown g3).below (by simp; omega) (fun k hk => (hT'.out.ina hk).1))
               have c3 := (b3.cell (p := ⟨b, off + k, none⟩) hb).trans c1
               have c4 := (b3.cell (p := ⟨b, off + q, none⟩) hb).trans c2
               have s4 : w.heap.size ≤ w3.heap.size := by have := b3.size; omega
               clear o3 g3 t3 b3 T3'))
        go_wp2
        go_region_held3 (fun W => W.cell? ⟨b, off + q, none⟩ = some (.int .u16 y)) (first | assumption | exact c4 | exact ((((Below.refl w.heap.size w3).alloc s4 _).drew).cell (p := ⟨b, off + q, none⟩) hb).trans c4)
          (first
            | (refine step_append_rd (v := u6) _ rfl (.tmp 51) (.tmp 63) T22 rfl rfl (own_drew (own_al T3.out.ob _)) rfl (rd2 w3 (IntKind.u8.wrap (y / 256)) (IntKind.u8.wrap y)).drew (ints_one _ _) (by unfold maxLen; omega) (by omega) (by simp; omega) ?_
               intro v5 w5 o5 g5 t5 l5
               clear l5
               have T5' := (T3.out.swap.grew (((Fr.refl _ w3).alloc _).drew) o5 rfl g5 t5).swap
               rw [wb3.out, wb4.out, ← n2.out] at T5'
               have T5 := hidd T5'
               have b5 : Below w.heap.size w3 w5 := (((Below.refl w.heap.size w3).alloc s4 _).drew).trans ((Fr.of_grown g5).below (by simp; omega) (fun k hk => (T3.out.inb hk).1))
               have c6 := (b5.cell (p := ⟨b, off + q, none⟩) hb).trans c4
               clear o5 g5 t5 b5 T5'))
        go_wp2
        go_roundw
        case rel => exact ⟨k + 1, by omega, by go_num, T5.out⟩
        case measure => simp [intOf]; omega
      · obtain rfl : k = n0 := by omega
        have htl := turned_length z0 (a % k)
        rw [List.take_of_length_le (by omega), List.take_of_length_le (by omega)] at hT
        have ra := wordsB_rng hrng.out
        have rb := wordsB_rng (turned_rng (r := a % k) hrng.out)
        have hab := ck_turned (r := a % k) hrng.out
        have la1 : (wordsB z0).length = 2 * k := by rw [wordsB_length, e0]
        have lb1 : (wordsB (turned z0 (a % k))).length = 2 * k := by rw [wordsB_length, htl, e0]
        obtain ⟨la, hla⟩ : ∃ la, la = wordsB z0 := ⟨_, rfl⟩
        obtain ⟨lb, hlb⟩ : ∃ lb, lb = wordsB (turned z0 (a % k)) := ⟨_, rfl⟩
        rw [← hla, ← hlb] at hT
        rw [← hla] at ra la1 hab
        rw [← hlb] at rb lb1 hab
        obtain ⟨ga, ca, rfl, _, _⟩ := hT.oa.form (by omega)
        obtain ⟨gb, cb, rfl, _, _⟩ := hT.ob.form (by omega)
        have qa := By.of_own hT.oa ra (by omega)
        have qb := By.of_own hT.ob rb (by omega)
        have hbel := hT.bel
        have rao : ∀ x ∈ la.take (2 * k - 1), 0 ≤ x ∧ x ≤ 255 := fun x hx => ra x (List.mem_of_mem_take hx)
        have hz6 := ck_zeros 6 ra
        have hz1 := ck_zeros 1 rao
        have hcm := qa.rd.cmax
        have hcn := qa.rd.cap
        unfold maxLen at hcm
        rw [la1] at qa hcn ⊢
        rw [lb1] at qb ⊢
        have qo : By wr (some ⟨ga, 0, none⟩) (2 * k - 1) ca (la.take (2 * k - 1)) := by
          have := qa.rd.take (k := 2 * k - 1) (by omega)
          rw [Nat.mul_one, ← List.map_take] at this
          exact ⟨this, rao, by simp; omega⟩
        have lo1 : (la.take (2 * k - 1)).length = 2 * k - 1 := by simp; omega
        obtain ⟨lo, hlo⟩ : ∃ lo, lo = la.take (2 * k - 1) := ⟨_, rfl⟩
        rw [← hlo] at qo hz1 rao lo1
        obtain ⟨Z6, hZ6⟩ : ∃ Z6 : List Int, Z6 = List.replicate 6 0 := ⟨_, rfl⟩
        have hmk : ∀ w : World, (Instr.makeSlice 22 (.int .i64 6) (.int .i64 6)).run Try.prog w = .ok (.slice (some ⟨w.heap.size, 0, none⟩) 6 6) (w.alloc (.cells (bytesV Z6) 5)) := by
          intro w
          rw [hZ6, ← zeros_laid]
          exact run_make_row' (P := Try.prog) 22 5 (.int .u8 0) 1 Try.underlying22 info5 rfl .i64 .i64 6 (by omega) (by omega) w
        have hfit : 2 * k ≤ 1000 := by omega
        obtain ⟨m, hm⟩ : ∃ m, 2 * k = m + 1 := ⟨2 * k - 1, by omega⟩
        have hm1 : 2 * k - 1 = m := by omega
        rw [hm] at qa qb hcn hfit ⊢
        rw [hm1] at qo lo1
        have hqa := hidd qa
        have hqb := hidd qb
        have hqo := hidd qo
        have hrao := hidd rao
        have hlo1 := hidd lo1
        have hb0 := hidd hbel
        obtain ⟨C, hC⟩ : ∃ C, C = ck la := ⟨_, rfl⟩
        obtain ⟨X, hX⟩ : ∃ X, X = ck lo := ⟨_, rfl⟩
        rw [← hC] at hab hz6
        rw [← hX] at hz1
        rw [← hZ6] at hz6
        have hz6r : Hid (∀ x ∈ Z6, 0 ≤ x ∧ x ≤ 255) := by rw [hZ6]; exact zeros_rng 6
        have hz6l : Hid (Z6.length = 6) := by rw [hZ6]; rfl
        have hab' := hidd hab
        have hz6' := hidd hz6
        have hz1' := hidd hz1
        have hC' := hidd hC.symm
        have hX' := hidd hX.symm
        clear hab hz6 hz1 hC hX hZ6
        clear hT qa qb qo hbel ra rb rao hla hlb hlo htl la1 lb1 lo1 hm hm1 e0 hrng r0
        go_wp2_with fail
        refine (of_l1 wr _ _ _ la hqa.out).mono ?_
        rintro e v1 ⟨rfl, b1⟩
        rw [hC'.out]
        go_wp2_with fail
        refine (of_l1 v1 _ _ _ lb (hqb.out.below b1)).mono ?_
        rintro e v2 ⟨rfl, b2⟩
        have B2 := hidd (b1.trans (b2.mono b1.size))
        rw [hab'.out]
        clear b1 b2
        have qz := hidd (By.new v2 (l := Z6) 5 hz6r.out (by rw [hz6l.out]; omega))
        rw [hz6l.out] at qz
        have H2 := hidd (of_l2 (v2.alloc (.cells (bytesV Z6) 5)) _ _ _ _ _ _ la Z6 ((hqa.out.below B2.out).alloc _) qz.out)
        rw [World.size_alloc] at H2
        go_wp2_with fail
        refine Calls.mono H2 ?_
        clear H2
        rintro e v3 ⟨rfl, b3⟩
        have B3 := hidd (B2.out.trans ((((Below.refl v2.heap.size v2).alloc (Nat.le_refl _) _).trans (b3.mono (by omega))).mono B2.out.size))
        rw [hz6'.out]
        clear b3 qz
        go_wp2_with fail
        refine (of_l1 v3 _ _ _ lo (hqo.out.below B3.out)).mono ?_
        rintro e v4 ⟨rfl, b4⟩
        rw [hX'.out]
        have B4 := hidd (B3.out.trans (b4.mono B3.out.size))
        clear b4
        go_wp2_with (first
          | (at_builtin
             refine wpList_append_want v4 rfl (.const (.slice none 0 0)) (.tmp 90) T22 rfl rfl (World.ownsRow_nil _ v4.heap.size _ _) rfl (hqo.out.below B4.out).rd (ints_one _ _) (by unfold maxLen; omega) (by omega) (Nat.le_refl _) ?_
             intro x5 v5 o5 g5 t5 l5
             clear l5 t5
             have b5 := hidd (grown_below (World.ownsRow_nil _ v4.heap.size 5 1) g5 (Nat.le_refl _))
             rw [Nat.zero_add] at o5
             obtain ⟨A5, d5, rfl⟩ := slice_of_own o5
             have o5' := hidd o5
             clear o5 g5)
          | (at_builtin
             have s5 : v4.heap.size ≤ v5.heap.size := b5.out.size
             refine wpList_append_want (v5.alloc (.cells #[.int .u8 0] 5)) rfl (.tmp 91) (.tmp 92) T22 rfl rfl (own_al o5'.out _) rfl (Rd.one v5 (.int .u8 0) 5 rfl) (by simp [Value.oneCell']) (by unfold maxLen; omega) (by omega) (by simp; omega) ?_
             intro x6 v6 o6 g6 t6 l6
             clear l6 t6
             have b6 := hidd ((b5.out.alloc s5 _).trans (grown_below (own_al o5'.out _) g6 (by simp; omega)))
             obtain ⟨A6, d6, rfl, q6⟩ := grown_own o6 (l := lo ++ List.replicate 1 0) (by simp) (by intro x hx; rcases List.mem_append.1 hx with hx | hx; exact hrao.out x hx; exact zeros_rng 1 x hx) (by have := hlo1.out; simp; omega)
             have q6' := hidd q6
             clear o6 g6 s5 q6 o5'))
        refine (of_l1 v6 _ _ _ _ q6'.out).mono ?_
        rintro e v7 ⟨rfl, b7⟩
        rw [hz1'.out]
        have B7 := hidd ((hb0.out.trans (B4.out.mono hb0.out.size)).trans ((b6.out.trans (b7.mono b6.out.size)).mono (by have := hb0.out.size; have := B4.out.size; omega)))
        clear b7 q6' b6 b5
        go_wp2_with fail
        refine (lives_any _).mono ?_
        rintro e v8 ⟨rfl, b8⟩
        go_wp2
        go_ret
        exact ⟨rfl, B7.out.trans (b8.mono B7.out.size)⟩
  · have hb : (decide (500 < (n0 : Int)) || (n0 : Int) == 0) = true := by simp; omega
    clear r0 w0
    by_cases h5 : 500 < n0
    · go_enter Try.func4, Try.ntmps4
      go_wp2_with (go_at_call 8; refine (lives_any _).mono ?_; rintro e w' ⟨rfl, hbel⟩)
      all_goals go_ret
      all_goals exact ⟨rfl, hbel⟩
    · obtain rfl : n0 = 0 := by omega
      go_enter Try.func4, Try.ntmps4
      go_wp2_with (go_at_call 8; refine (lives_any _).mono ?_; rintro e w' ⟨rfl, hbel⟩)
      all_goals go_ret
      all_goals exact ⟨rfl, hbel⟩

set_option maxRecDepth 100000 in
theorem liftedSumsWords (os : Os) (started : os.Started) (H : Type) (enc : TypeId × Value → H) :
    ReturnsInHanded {} Try.checked os 4 .any (Rows.sumsWordsSpec.pre6 enc Try.prog Try.f4 Rows.sumsWordsRow.domain false) (Rows.sumsWordsSpec.post enc Try.prog Try.f4 false true false false) := by
  refine returnsInHanded_of_change_sized (C := Try.checked) own started (by kernel_rfl) Try.func4
    (ChangeSpec.witness6 (enc := enc) (C := Try.checked) false ⟨#[], #[.slice none 0 0, .int .u16 0], []⟩ 8 (by kernel_rfl) (by kernel_rfl) (by kernel_rfl) (by kernel_rfl)) ?_
  intro W base args ds gs before hval0 hW hcnd hsz0 _
  have hval : ∀ (j : Nat) t v, Try.f4.params[j]? = some t → args[j]? = some v → Value.okWide Try.prog W .any base t v := hval0
  have hW' := hW
  obtain ⟨p, q, hA0, hV, rfl, hfz, hnd⟩ := hW
  have hA : DataW.TrodAll enc Try.prog W 0 (fun _ => true) true Try.f4.params.toList args.toList ds p := hA0
  have hsz : (DataW.weightsEach Try.prog (Try.f4.params.toList ++ Rows.sumsWordsSpec.plain.varTypes Try.prog) (ds ++ gs)).all (· ≤ reachBytes) = true := hsz0
  rw [Try.params4] at hA hval hsz
  obtain ⟨v0, vs0, d0, ds0, p0, q0, hargs, rfl, rfl, h0, r0⟩ := trodAll_cons hA
  obtain ⟨v1, vs1, d1, ds1, p1, q1, rfl, rfl, rfl, h1, r1⟩ := trodAll_cons r0
  obtain ⟨rfl, rfl, rfl⟩ := trodAll_nil r1
  obtain rfl : args = #[v0, v1] := by cases args; simp_all
  obtain ⟨rfl, rfl⟩ := trodVars_none hV
  have k0 := h0
  have lt0 : ∀ x ∈ p0, x.block < W.heap.size := by obtain ⟨m, hm⟩ := k0; exact DataW.trod_lt m _ _ _ hm
  have fit0 : Fit Try.prog 30 d0 := fun m hm => by simpa using List.all_eq_true.1 hsz _ (DataW.weights_mem_each (j := 0) (t := 30) rfl rfl m hm)
  obtain ⟨a0, n0, c0, rfl⟩ := okWide_slice Try.underlying30 (hval 0 30 v0 rfl rfl)
  obtain ⟨fuel0, hf0⟩ := h0
  obtain ⟨a0', n0', c0', z0, ev0, r0', y0, w0⟩ := ints_rd Try.underlying30 Try.underlying25 (by kernel_rfl) hf0 fit0
  simp only [Value.cells, List.cons.injEq, and_true, Value.slice.injEq] at ev0
  obtain ⟨rfl, rfl, rfl⟩ := ev0
  have k1 := h1
  have lt1 : ∀ x ∈ p1, x.block < W.heap.size := by obtain ⟨m, hm⟩ := k1; exact DataW.trod_lt m _ _ _ hm
  have fit1 : Fit Try.prog 25 d1 := fun m hm => by simpa using List.all_eq_true.1 hsz _ (DataW.weights_mem_each (j := 1) (t := 25) rfl rfl m hm)
  obtain ⟨a1, rfl, _, _, w1⟩ := open_int Try.underlying25 (hval 1 25 v1 rfl rfl) h1
  clear hA0 hval0
  refine (walkSumsWords a0 n0 c0 z0 a1 W r0' y0 w0 w1).mono fun e W' ⟨he, bel⟩ => ?_
  subst he
  exact ⟨_, rfl, _, _, _, [], _, [], hW', trodAll_mk1 (shut_bool Try.underlying4 _), (trodAll_cons_mk (Below.trod laidOut (by kernel_rfl) (of_decide_eq_true (by kernel_rfl)) k0 bel lt0) (trodAll_cons_mk (Below.trod laidOut (by kernel_rfl) (of_decide_eq_true (by kernel_rfl)) k1 bel lt1) trodAll_mk0)), rfl, bel.frame _, fun h => by cases h⟩

/-- THE STATEMENT: 'SumsWords'. -/
theorem sumsWords_holds : Rows.SumsWordsSaid :=
  OpenClaim.holds_of_wide 4 Try.f4 rfl rfl rfl rfl rfl rfl rfl ⟨rfl, rfl, rfl, rfl, rfl⟩ rfl rfl rfl rfl rfl (by kernel_rfl) Try.func4 (by kernel_rfl)
    (of_decide_eq_true (by kernel_rfl)) (by unfold Func.isWrapper; first | (rw [if_pos (by decide +kernel)]; kernel_rfl) | (rw [if_neg (by decide +kernel)]; exact ⟨rfl, rfl⟩))
    (fun os started H enc _ => liftedSumsWords os started H enc)

end Go.Proofs.Ytekmkainhehnpaa
