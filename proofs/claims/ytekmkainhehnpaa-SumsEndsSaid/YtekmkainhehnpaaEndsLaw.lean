/- 'SumsEnds': for every input the law returns true; nothing that was there is written. No condition. -/
import Derived.Test.YtekmkainhehnpaaPlain
import Derived.Test.YtekmkainhehnpaaOverLaw
import Derived.Deep.RegionHeld3
import Derived.Deep.MidRow
import Derived.ArgAppend
namespace Go.Proofs.Ytekmkainhehnpaa
open Go.ChangeShapes Go.WideShapes Go.ChangeAt Go.RowKit Go.Deep
set_option linter.unusedVariables false
set_option linter.unusedSimpArgs false

theorem ends_l2 {w : World} {B : Nat} {s e : List Int} {nx : Int} (h : Blk w B 36 (endsV s e nx)) (hE : IsEnds s e nx) : (loadVar 5 ⟨B, 32, none⟩).run Try.prog w = .ok (.int .u8 nx) w := by
  have h1 := ends_c2 h hE
  simp [loadVar, Sem.run_bind, isAgg, run_underlying Try.underlying5, h1]

/-- The zero bytes that 'make' lays. -/
theorem zeros_made (n : Nat) : madeCells #[Value.int .u8 0] n = bytesV (List.replicate n 0) := by
  rw [← Array.toList_inj, toList_madeCells_one]
  simp [bytesV]

theorem own_zeros {w : World} {g n base : Nat} (h : Blk w g 5 (bytesV (List.replicate n 0))) (hb : base ≤ g) (hn : n ≤ maxLen) : w.ownsRow base 5 1 (.slice (some ⟨g, 0, none⟩) n n) n ((List.replicate n (0 : Int)).map (Value.int .u8)) :=
  ⟨by simp, .inr ⟨g, n, _, rfl, hb, h, Nat.le_refl _, hn, by simp [bytesV], by simp [bytesV]⟩⟩

/-- An append onto a list that is full, as a step of a region that draws. -/
theorem step_append_full {P : Program} {w : World} {ops : Array Oper} {o : Oper} {a : Act} {K : Act → World → Prop} {Q : Exit → Act → World → Prop} {E : Prop} (hw : Region.wanted o (yielded ops a.tmps) = true) (s x : Operand) {t e : TypeId} {size bytes : Nat} (ht : SlTy P t e size bytes)
    (ho : o.op = .call { callee := .builtin .append, args := #[s, x], argTypes := #[t, t] })
    {b : Addr} {n cap : Nat} {olds : List Value} (hs : a.eval s = .slice (some b) n cap) (hlo : olds.length = n * size) (holds : ∀ j u, olds[j]? = some u → w.cell? (b.add j) = some u)
    {d : Addr} {m c : Nat} {news : List Value} (hx : a.eval x = .slice (some d) m c) (hl : news.length = m * size) (hnews : ∀ j u, news[j]? = some u → w.cell? (d.add j) = some u)
    (hg : cap < n + m) (h63 : n + m ≤ maxLen) (hbytes : (n + m) * bytes ≤ 140737488355328)
    (h : ∀ v' w', w'.ownsRow w.heap.size e size v' (n + m) (olds ++ news) → w.grownBy w' none → K (a.put o.dst v') w') :
    if Region.wanted o (yielded ops a.tmps) = true then Oper.wp P o a w K Q else E := by
  obtain ⟨i0, z, hi, hz0, hz1, hz2, hz3⟩ := ht.info
  obtain ⟨v', w', hrun, h2, h3⟩ := run_append_arg_grows (P := P) w t o.type e i0 z size bytes ht.und hi hz0 hz1 hz2 hz3 ht.pos b n cap olds hlo holds d m c news hl hnews hg h63 hbytes
  rw [if_pos hw]
  unfold Oper.wp execOp
  simp only [ho, resolve, invoke, builtin, Sem.run_bind, Sem.run_pure, Result.andThen_ok, List.map_toArray, List.map_cons, List.map_nil, hs, hx, hrun]
  exact h v' w' h2 h3

theorem Blk.holds {w : World} {g : Nat} {t : TypeId} {l : List Int} (h : Blk w g t (bytesV l)) (j : Nat) (u : Value) (hu : (l.map (Value.int .u8))[j]? = some u) : w.cell? ((⟨g, 0, none⟩ : Addr).add j) = some u := by
  rw [Addr.add_mid, h.cell, Nat.zero_add, bytesV_get]
  rw [List.getElem?_map] at hu
  exact hu

/-- What the last statement reads of the ends. -/
def Reads (s e : List Int) (nx : Int) (B : Nat) (W : World) : Prop :=
  W.rangeAt B 0 (s.map (Value.int .u8)) ∧ W.rangeAt B 16 (e.map (Value.int .u8)) ∧ W.cell? ⟨B, 32, none⟩ = some (.int .u8 nx)

theorem Reads.of {w : World} {B : Nat} {s e : List Int} {nx : Int} (h : Blk w B 36 (endsV s e nx)) (hE : IsEnds s e nx) : Reads s e nx B w := by
  have h2 := hE.s.len
  have h3 := hE.d.len
  refine ⟨fun j v hv => ?_, fun j v hv => ?_, ends_c2 h hE⟩
  · rw [List.getElem?_map] at hv
    cases hy : s[j]? with
    | none => rw [hy] at hv; cases hv
    | some y =>
      rw [hy] at hv; simp at hv; subst hv
      have h1 := (List.getElem?_eq_some_iff.1 hy).1
      exact h.bytes j y (by rw [List.append_assoc, List.getElem?_append_left h1, hy])
  · rw [List.getElem?_map] at hv
    cases hy : e[j]? with
    | none => rw [hy] at hv; cases hv
    | some y =>
      rw [hy] at hv; simp at hv; subst hv
      have h1 := (List.getElem?_eq_some_iff.1 hy).1
      have := h.bytes (16 + j) y (by
        rw [List.append_assoc, List.getElem?_append_right (by omega), List.getElem?_append_left (by omega), ← hy]
        congr 1; omega)
      rwa [Nat.zero_add] at this

theorem ends_steps {w W W4 : World} {s e : List Int} {nx ny : Int} {B g n : Nat} {A4 : Option Addr} {c4 : Nat} (hE : IsEnds s e nx) (hy0 : 0 ≤ ny) (hy1 : ny ≤ 255) (hn : n ≤ 255) (hw : Below w.heap.size w W)
    (E : Blk W B 36 (endsV s e nx)) (Z : Blk W g 5 (bytesV (List.replicate n 0))) (h4 : Below W.heap.size W W4) (q : By W4 A4 (n + 1) c4 (List.replicate (n + 1) 0)) {K1 K2 : Int} (hk1 : K1 = ck (headed s e nx (List.replicate (n + 1) 0) (n + 1))) (hk2 : K2 = ck (headed s e ny (List.replicate n 0) n)) :
    Calls Try.prog 13 #[.agg (bytesV s), .agg (bytesV e), .int .u8 nx, .slice A4 (n + 1) c4] W4 fun en w5 => en = .returned (.int .u16 K1) ∧ Reads s e nx B w5 ∧
      Hid (Calls Try.prog 13 #[.agg (bytesV s), .agg (bytesV e), .int .u8 ny, .slice (some ⟨g, 0, none⟩) n n] w5 fun en w6 => en = .returned (.int .u16 K2) ∧ Reads s e nx B w6 ∧
        Hid (Calls Try.prog 8 #[] w6 fun en w7 => en = .returned (.bool true) ∧ Reads s e nx B w7 ∧ Hid (Below w.heap.size w w7))) := by
  subst hk1 hk2
  refine (over_any W4 s e hE.s hE.d nx hE.n0 hE.n1 _ _ _ _ q).mono ?_
  rintro en w5 ⟨rfl, b5⟩
  have B5 := h4.trans (b5.mono h4.size)
  have E5 := E.below B5 E.lt
  have Z5 := Z.below B5 Z.lt
  have q5 : By w5 (some ⟨g, 0, none⟩) n n (List.replicate n 0) := by
    have := Z5.rd 1 n n (by simp [bytesV]) (Nat.le_refl _) (by unfold maxLen; omega) (B := w5.heap.size) Z5.lt
    refine ⟨?_, zeros_rng n, by simp; omega⟩
    simpa [bytesV] using this
  refine ⟨rfl, Reads.of E5 hE, ?_⟩
  refine (over_any w5 s e hE.s hE.d ny hy0 hy1 _ _ _ _ q5).mono ?_
  rintro en w6 ⟨rfl, b6⟩
  have B6 := B5.trans (b6.mono B5.size)
  have E6 := E.below B6 E.lt
  refine ⟨rfl, Reads.of E6 hE, ?_⟩
  refine (lives_any w6).mono ?_
  rintro en w7 ⟨rfl, b7⟩
  have B7 := B6.trans (b7.mono B6.size)
  exact ⟨rfl, Reads.of (E.below B7 E.lt) hE, hw.trans (B7.mono hw.size)⟩

set_option maxRecDepth 100000 in
set_option maxHeartbeats 4000000 in
theorem walkSumsEnds (s0 e0 : List Int) (n0 : Int) (a1 : Int) (w : World) (w0 : IsEnds s0 e0 n0) (w1 : (Lit.int .u8 a1).wf = true) :
    Calls Try.prog 5 #[.agg (endsV s0 e0 n0), .int .u8 a1] w fun e w' => e = .returned (.bool true) ∧ Below w.heap.size w w' := by
  obtain ⟨k0, k1⟩ := u8b w1
  obtain ⟨n, rfl⟩ : ∃ n : Nat, a1 = (n : Int) := ⟨a1.toNat, by omega⟩
  clear w1
  have hmk : ∀ w : World, (Instr.makeSlice 22 (.int .i64 (n : Int)) (.int .i64 (n : Int))).run Try.prog w = .ok (.slice (some ⟨w.heap.size, 0, none⟩) n n) (w.alloc (.cells (bytesV (List.replicate n 0)) 5)) := by
    intro w
    rw [← zeros_made]
    exact run_make_row' (P := Try.prog) 22 5 (.int .u8 0) 1 Try.underlying22 info5 rfl .i64 .i64 n (by omega) (by omega) w
  have w0' := hidd w0
  obtain ⟨W0, hW0⟩ : ∃ W0, W0 = (w.alloc (.cells (endsV s0 e0 n0) 36)).alloc (.cells (bytesV (List.replicate n 0)) 5) := ⟨_, rfl⟩
  have E : Blk W0 w.heap.size 36 (endsV s0 e0 n0) := by rw [hW0]; exact (Blk.new w 36 (endsV s0 e0 n0)).alloc (.cells (bytesV (List.replicate n 0)) 5)
  have Z : Blk W0 (w.heap.size + 1) 5 (bytesV (List.replicate n 0)) := by
    have := Blk.new (w.alloc (.cells (endsV s0 e0 n0) 36)) 5 (bytesV (List.replicate n 0))
    rw [World.size_alloc] at this
    rwa [hW0]
  have B0 : Below w.heap.size w W0 := by rw [hW0]; exact ((Below.refl _ w).alloc (Nat.le_refl _) _).alloc (by simp) _
  have byZ : ∀ {W : World}, Blk W (w.heap.size + 1) 5 (bytesV (List.replicate n 0)) → By W (some ⟨w.heap.size + 1, 0, none⟩) n n (List.replicate n 0) := by
    intro W Z5
    have := Z5.rd 1 n n (by simp [bytesV]) (Nat.le_refl _) (by unfold maxLen; omega) (B := W.heap.size) Z5.lt
    refine ⟨?_, zeros_rng n, by simp; omega⟩
    simpa [bytesV] using this
  have l0 := ends_l0 E w0
  have l1 := ends_l1 E w0
  have l2 := ends_c2 E w0
  have E' := hidd E
  have Z' := hidd Z
  have B0' := hidd B0
  have hW0' := hidd hW0
  have byZ' : Hid (∀ {W : World}, Blk W (w.heap.size + 1) 5 (bytesV (List.replicate n 0)) → By W (some ⟨w.heap.size + 1, 0, none⟩) n n (List.replicate n 0)) := @byZ
  clear w0 E Z B0 byZ
  rw [hW0] at l0 l1 l2
  clear hW0
  go_enter Try.func5, Try.ntmps5
  go_wp2_with (refine wpList_load_want rfl 34 _ rfl _ rfl _ (by first | exact l0 | exact l1) ?_)
  rw [← hW0'.out]
  clear l0 l1 l2 hmk
  refine (over_any W0 s0 e0 w0'.out.s w0'.out.d n0 w0'.out.n0 w0'.out.n1 _ _ _ _ (byZ'.out Z'.out)).mono ?_
  rintro e v1 ⟨rfl, b1⟩
  have E1 := hidd (E'.out.below b1 E'.out.lt)
  have Z1 := hidd (Z'.out.below b1 Z'.out.lt)
  have B1 := hidd (B0'.out.trans (b1.mono B0'.out.size))
  have l0 := ends_l0 E1.out w0'.out
  have l1 := ends_l1 E1.out w0'.out
  have l2 := ends_c2 E1.out w0'.out
  clear b1 E' Z' B0' hW0'
  go_wp2_with (refine wpList_load_want rfl 34 _ rfl _ rfl _ (by first | exact l0 | exact l1) ?_)
  clear l0 l1 l2
  refine (over_any v1 e0 s0 w0'.out.d w0'.out.s n0 w0'.out.n0 w0'.out.n1 _ _ _ _ (byZ'.out Z1.out)).mono ?_
  rintro e v2 ⟨rfl, b2⟩
  have E2 := hidd (E1.out.below b2 E1.out.lt)
  have Z2 := hidd (Z1.out.below b2 Z1.out.lt)
  have B2 := hidd (B1.out.trans (b2.mono B1.out.size))
  rw [ck_swap w0'.out.s w0'.out.d w0'.out.n0 w0'.out.n1 (zeros_rng n) (by omega)]
  clear b2 E1 Z1 B1
  obtain ⟨ny, hx, hy0, hy1, hxy⟩ := flip1 w0'.out.n0 w0'.out.n1
  have t1 := ck_longer (n := n) w0'.out.s w0'.out.d w0'.out.n0 w0'.out.n1 (by omega)
  have t2 := ck_other (n := n) w0'.out.s w0'.out.d w0'.out.n0 w0'.out.n1 hy0 hy1 hxy (by omega)
  have R2 := hidd (Reads.of E2.out w0'.out)
  clear hxy
  obtain ⟨X0, hX0⟩ : ∃ X0, X0 = ck (headed s0 e0 n0 (List.replicate n 0) n) := ⟨_, rfl⟩
  rw [← hX0] at t1 t2 ⊢
  have hu : Try.prog.underlying 34 = some (.array 16 5) := Try.underlying34
  have hi0 : (Try.prog.info? 34).map (·.size) = some (s0.map (Value.int .u8)).length := by rw [List.length_map, w0'.out.s.len]; exact info34
  have hi1 : (Try.prog.info? 34).map (·.size) = some (e0.map (Value.int .u8)).length := by rw [List.length_map, w0'.out.d.len]; exact info34
  obtain ⟨K1, hK1⟩ : ∃ K1, K1 = ck (headed s0 e0 n0 (List.replicate (n + 1) 0) (n + 1)) := ⟨_, rfl⟩
  obtain ⟨K2, hK2⟩ : ∃ K2, K2 = ck (headed s0 e0 ny (List.replicate n 0) n) := ⟨_, rfl⟩
  rw [← hK1] at t1
  rw [← hK2] at t2
  have u1 : (X0 == K1) = false := by simpa using t1
  have u2 : (X0 == K2) = false := by simpa using t2
  have x1 : (X0 != K1) = true := by simpa using t1
  have x2 : (X0 != K2) = true := by simpa using t2
  have hK1' := hidd hK1
  have hK2' := hidd hK2
  clear hX0 hK1 hK2
  go_wp2_with fail
  refine wp_region_held_drew (S := Reads s0 e0 n0 w.heap.size) (by kernel_rfl) R2.out (fun hHeld => ?_)
  refine wpAnyH_take (i := 0) (v := ?_) rfl (by kernel_rfl) (by kernel_rfl) (by kernel_rfl) (fun _ _ _ h => h) (Or.inl ⟨by kernel_rfl, ?_⟩) hHeld ?_
  rotate_left
  · intro wh hSw
    go_simp
    try with_reducible rfl
  try simp only [Act.put, List.getElem_toArray, List.getElem_cons_zero, List.getElem_cons_succ, List.setIfInBounds_toArray, List.set_cons_zero, List.set_cons_succ]
  refine wpAnyH_take (i := 1) (v := ?_) rfl (by kernel_rfl) (by kernel_rfl) (by kernel_rfl) (fun _ _ _ h => h) (Or.inl ⟨by kernel_rfl, ?_⟩) hHeld ?_
  rotate_left
  · intro wh hSw
    go_simp
    try with_reducible rfl
  try simp only [Act.put, List.getElem_toArray, List.getElem_cons_zero, List.getElem_cons_succ, List.setIfInBounds_toArray, List.set_cons_zero, List.set_cons_succ]
  refine wpAnyH_take (i := 2) rfl (by kernel_rfl) (by kernel_rfl) (by kernel_rfl) (fun _ _ _ h => h) (yieldsIf_load_mid (by kernel_rfl) _ _ rfl _ _ rfl _ _ (fun wh hSw => hSw.1) hu rfl hi0) hHeld ?_
  try simp only [Act.put, List.getElem_toArray, List.getElem_cons_zero, List.getElem_cons_succ, List.setIfInBounds_toArray, List.set_cons_zero, List.set_cons_succ]
  refine wpAnyH_take (i := 3) (v := ?_) rfl (by kernel_rfl) (by kernel_rfl) (by kernel_rfl) (fun _ _ _ h => h) (Or.inl ⟨by kernel_rfl, ?_⟩) hHeld ?_
  rotate_left
  · intro wh hSw
    go_simp
    try with_reducible rfl
  try simp only [Act.put, List.getElem_toArray, List.getElem_cons_zero, List.getElem_cons_succ, List.setIfInBounds_toArray, List.set_cons_zero, List.set_cons_succ]
  refine wpAnyH_take (i := 4) rfl (by kernel_rfl) (by kernel_rfl) (by kernel_rfl) (fun _ _ _ h => h) (yieldsIf_load_mid (by kernel_rfl) _ _ rfl _ _ rfl _ _ (fun wh hSw => hSw.2.1) hu rfl hi1) hHeld ?_
  try simp only [Act.put, List.getElem_toArray, List.getElem_cons_zero, List.getElem_cons_succ, List.setIfInBounds_toArray, List.set_cons_zero, List.set_cons_succ]
  refine wpAnyH_take (i := 5) (v := ?_) rfl (by kernel_rfl) (by kernel_rfl) (by kernel_rfl) (fun _ _ _ h => h) (Or.inl ⟨by kernel_rfl, ?_⟩) hHeld ?_
  rotate_left
  · intro wh hSw
    go_simp
    try with_reducible rfl
  try simp only [Act.put, List.getElem_toArray, List.getElem_cons_zero, List.getElem_cons_succ, List.setIfInBounds_toArray, List.set_cons_zero, List.set_cons_succ]
  refine wpAnyH_take (i := 6) (v := ?_) rfl (by kernel_rfl) (by kernel_rfl) (by kernel_rfl) (fun _ _ _ h => h) (Or.inl ⟨by kernel_rfl, ?_⟩) hHeld ?_
  rotate_left
  · intro wh hSw
    have hcell := hSw.2.2
    go_simp
    try with_reducible rfl
  try simp only [Act.put, List.getElem_toArray, List.getElem_cons_zero, List.getElem_cons_succ, List.setIfInBounds_toArray, List.set_cons_zero, List.set_cons_succ]
  refine wpAnyH_take (i := 7) (v := ?_) rfl (by kernel_rfl) (by kernel_rfl) (by kernel_rfl) (fun _ _ _ h => h) (Or.inl ⟨by kernel_rfl, ?_⟩) hHeld ?_
  rotate_left
  · intro wh hSw
    go_simp
    try with_reducible rfl
  try simp only [Act.put, List.getElem_toArray, List.getElem_cons_zero, List.getElem_cons_succ, List.setIfInBounds_toArray, List.set_cons_zero, List.set_cons_succ]
  refine wpAnyH_ready (rs := [8]) (by kernel_rfl) (by simp) (AllReadyH.cons rfl (fun K hK => ?_) AllReadyH.nil)
  clear hHeld
  go_simp
  refine hK.out _ _ (Reads.of (E2.out.drew.alloc _) w0'.out) (fun hHeld => ?_)
  clear hK K
  try simp only [Act.put, List.getElem_toArray, List.getElem_cons_zero, List.getElem_cons_succ, List.setIfInBounds_toArray, List.set_cons_zero, List.set_cons_succ]
  refine wpAnyH_ready (rs := [9]) (by kernel_rfl) (by simp) (AllReadyH.cons rfl (fun K hK => ?_) AllReadyH.nil)
  clear hHeld
  refine step_append_full rfl (.tmp 35) (.tmp 36) T22 rfl rfl (olds := (List.replicate n (0 : Int)).map (Value.int .u8)) (by simp) (Z2.out.drew.alloc _).holds rfl (news := [0].map (Value.int .u8)) rfl (Blk.new v2.drew 5 (bytesV [0])).holds (by omega) (by unfold maxLen; omega) (by omega) ?_
  intro x4 w4 o4 g4
  have b4 := (((Below.refl v2.heap.size v2).drew).alloc (Nat.le_refl _) (.cells (bytesV [0]) 5)).trans ((Fr.of_grown g4).below (B := v2.heap.size) (by simp) (fun k hk => by cases hk))
  obtain ⟨A4, c4, rfl, q4⟩ := grown_own o4 (l := List.replicate (n + 1) 0) (by rw [← List.map_append, List.replicate_succ']) (zeros_rng _) (by simp; omega)
  have R4 := Reads.of (E2.out.below b4 E2.out.lt) w0'.out
  have H0 := ends_steps w0'.out hy0 hy1 (by omega) B2.out E2.out Z2.out b4 q4 hK1'.out hK2'.out
  clear o4 g4 b4 q4
  refine hK.out _ _ R4 (fun hHeld => ?_)
  clear hK K
  try simp only [Act.put, List.getElem_toArray, List.getElem_cons_zero, List.getElem_cons_succ, List.setIfInBounds_toArray, List.set_cons_zero, List.set_cons_succ]
  refine wpAnyH_ready (rs := [10]) (by kernel_rfl) (by simp) (AllReadyH.cons rfl (fun K hK => ?_) AllReadyH.nil)
  clear hHeld
  go_simp
  refine Calls.mono H0 ?_
  clear H0
  rintro e w5 ⟨rfl, R5, H1⟩
  dsimp only
  refine hK.out _ _ R5 (fun hHeld => ?_)
  clear hK K
  try simp only [Act.put, List.getElem_toArray, List.getElem_cons_zero, List.getElem_cons_succ, List.setIfInBounds_toArray, List.set_cons_zero, List.set_cons_succ]
  refine wpAnyH_take (i := 11) (v := ?_) rfl (by kernel_rfl) (by kernel_rfl) (by kernel_rfl) (fun _ _ _ h => h) (Or.inl ⟨by kernel_rfl, ?_⟩) hHeld ?_
  rotate_left
  · intro wh hSw
    go_simp
    try with_reducible rfl
  try simp only [Act.put, List.getElem_toArray, List.getElem_cons_zero, List.getElem_cons_succ, List.setIfInBounds_toArray, List.set_cons_zero, List.set_cons_succ]
  refine wpAnyH_take (i := 12) (v := ?_) rfl (by kernel_rfl) (by kernel_rfl) (by kernel_rfl) (fun _ _ _ h => h) (Or.inl ⟨by kernel_rfl, ?_⟩) hHeld ?_
  rotate_left
  · intro wh hSw
    go_simp
    try with_reducible rfl
  try simp only [Act.put, List.getElem_toArray, List.getElem_cons_zero, List.getElem_cons_succ, List.setIfInBounds_toArray, List.set_cons_zero, List.set_cons_succ]
  refine wpAnyH_take (i := 13) (v := ?_) rfl (by kernel_rfl) (by kernel_rfl) (by kernel_rfl) (fun _ _ _ h => h) (Or.inl ⟨by kernel_rfl, ?_⟩) hHeld ?_
  rotate_left
  · intro wh hSw
    go_simp
    try with_reducible rfl
  try simp only [Act.put, List.getElem_toArray, List.getElem_cons_zero, List.getElem_cons_succ, List.setIfInBounds_toArray, List.set_cons_zero, List.set_cons_succ]
  refine wpAnyH_take (i := 14) (v := ?_) rfl (by kernel_rfl) (by kernel_rfl) (by kernel_rfl) (fun _ _ _ h => h) (Or.inl ⟨by kernel_rfl, ?_⟩) hHeld ?_
  rotate_left
  · intro wh hSw
    go_simp
    try with_reducible rfl
  try simp only [Act.put, List.getElem_toArray, List.getElem_cons_zero, List.getElem_cons_succ, List.setIfInBounds_toArray, List.set_cons_zero, List.set_cons_succ]
  refine wpAnyH_take (i := 15) rfl (by kernel_rfl) (by kernel_rfl) (by kernel_rfl) (fun _ _ _ h => h) (yieldsIf_load_mid (by kernel_rfl) _ _ rfl _ _ rfl _ _ (fun wh hSw => hSw.1) hu rfl hi0) hHeld ?_
  try simp only [Act.put, List.getElem_toArray, List.getElem_cons_zero, List.getElem_cons_succ, List.setIfInBounds_toArray, List.set_cons_zero, List.set_cons_succ]
  refine wpAnyH_take (i := 16) (v := ?_) rfl (by kernel_rfl) (by kernel_rfl) (by kernel_rfl) (fun _ _ _ h => h) (Or.inl ⟨by kernel_rfl, ?_⟩) hHeld ?_
  rotate_left
  · intro wh hSw
    go_simp
    try with_reducible rfl
  try simp only [Act.put, List.getElem_toArray, List.getElem_cons_zero, List.getElem_cons_succ, List.setIfInBounds_toArray, List.set_cons_zero, List.set_cons_succ]
  refine wpAnyH_take (i := 17) rfl (by kernel_rfl) (by kernel_rfl) (by kernel_rfl) (fun _ _ _ h => h) (yieldsIf_load_mid (by kernel_rfl) _ _ rfl _ _ rfl _ _ (fun wh hSw => hSw.2.1) hu rfl hi1) hHeld ?_
  try simp only [Act.put, List.getElem_toArray, List.getElem_cons_zero, List.getElem_cons_succ, List.setIfInBounds_toArray, List.set_cons_zero, List.set_cons_succ]
  refine wpAnyH_take (i := 18) (v := ?_) rfl (by kernel_rfl) (by kernel_rfl) (by kernel_rfl) (fun _ _ _ h => h) (Or.inl ⟨by kernel_rfl, ?_⟩) hHeld ?_
  rotate_left
  · intro wh hSw
    go_simp
    try with_reducible rfl
  try simp only [Act.put, List.getElem_toArray, List.getElem_cons_zero, List.getElem_cons_succ, List.setIfInBounds_toArray, List.set_cons_zero, List.set_cons_succ]
  refine wpAnyH_take (i := 19) (v := ?_) rfl (by kernel_rfl) (by kernel_rfl) (by kernel_rfl) (fun _ _ _ h => h) (Or.inl ⟨by kernel_rfl, ?_⟩) hHeld ?_
  rotate_left
  · intro wh hSw
    have hcell := hSw.2.2
    go_simp
    try with_reducible rfl
  try simp only [Act.put, List.getElem_toArray, List.getElem_cons_zero, List.getElem_cons_succ, List.setIfInBounds_toArray, List.set_cons_zero, List.set_cons_succ]
  refine wpAnyH_take (i := 20) (v := ?_) rfl (by kernel_rfl) (by kernel_rfl) (by kernel_rfl) (fun _ _ _ h => h) (Or.inl ⟨by kernel_rfl, ?_⟩) hHeld ?_
  rotate_left
  · intro wh hSw
    go_simp
    try with_reducible rfl
  try simp only [Act.put, List.getElem_toArray, List.getElem_cons_zero, List.getElem_cons_succ, List.setIfInBounds_toArray, List.set_cons_zero, List.set_cons_succ]
  refine wpAnyH_take (i := 21) (v := ?_) rfl (by kernel_rfl) (by kernel_rfl) (by kernel_rfl) (fun _ _ _ h => h) (Or.inl ⟨by kernel_rfl, ?_⟩) hHeld ?_
  rotate_left
  · intro wh hSw
    go_simp
    try with_reducible rfl
  try simp only [Act.put, List.getElem_toArray, List.getElem_cons_zero, List.getElem_cons_succ, List.setIfInBounds_toArray, List.set_cons_zero, List.set_cons_succ]
  refine wpAnyH_ready (rs := [22]) (by kernel_rfl) (by simp) (AllReadyH.cons rfl (fun K hK => ?_) AllReadyH.nil)
  clear hHeld
  go_simp
  refine Calls.mono H1 ?_
  clear H1
  rintro e w6 ⟨rfl, R6, H2⟩
  dsimp only
  refine hK.out _ _ R6 (fun hHeld => ?_)
  clear hK K
  try simp only [Act.put, List.getElem_toArray, List.getElem_cons_zero, List.getElem_cons_succ, List.setIfInBounds_toArray, List.set_cons_zero, List.set_cons_succ]
  refine wpAnyH_take (i := 23) (v := ?_) rfl (by kernel_rfl) (by kernel_rfl) (by kernel_rfl) (fun _ _ _ h => h) (Or.inl ⟨by kernel_rfl, ?_⟩) hHeld ?_
  rotate_left
  · intro wh hSw
    go_simp
    try with_reducible rfl
  try simp only [Act.put, List.getElem_toArray, List.getElem_cons_zero, List.getElem_cons_succ, List.setIfInBounds_toArray, List.set_cons_zero, List.set_cons_succ]
  refine wpAnyH_take (i := 24) (v := ?_) rfl (by kernel_rfl) (by kernel_rfl) (by kernel_rfl) (fun _ _ _ h => h) (Or.inl ⟨by kernel_rfl, ?_⟩) hHeld ?_
  rotate_left
  · intro wh hSw
    go_simp
    try with_reducible rfl
  try simp only [Act.put, List.getElem_toArray, List.getElem_cons_zero, List.getElem_cons_succ, List.setIfInBounds_toArray, List.set_cons_zero, List.set_cons_succ]
  refine wpAnyH_take (i := 25) (v := ?_) rfl (by kernel_rfl) (by kernel_rfl) (by kernel_rfl) (fun _ _ _ h => h) (Or.inl ⟨by kernel_rfl, ?_⟩) hHeld ?_
  rotate_left
  · intro wh hSw
    go_simp
    try with_reducible rfl
  try simp only [Act.put, List.getElem_toArray, List.getElem_cons_zero, List.getElem_cons_succ, List.setIfInBounds_toArray, List.set_cons_zero, List.set_cons_succ]
  refine wpAnyH_ready (rs := [26]) (by kernel_rfl) (by simp) (AllReadyH.cons rfl (fun K hK => ?_) AllReadyH.nil)
  clear hHeld
  go_simp
  refine Calls.mono H2 ?_
  clear H2
  rintro e w7 ⟨rfl, R7, H3⟩
  dsimp only
  refine hK.out _ _ R7 (fun hHeld => ?_)
  clear hK K
  try simp only [Act.put, List.getElem_toArray, List.getElem_cons_zero, List.getElem_cons_succ, List.setIfInBounds_toArray, List.set_cons_zero, List.set_cons_succ]
  refine wpAnyH_take (i := 27) (v := ?_) rfl (by kernel_rfl) (by kernel_rfl) (by kernel_rfl) (fun _ _ _ h => h) (Or.inl ⟨by kernel_rfl, ?_⟩) hHeld ?_
  rotate_left
  · intro wh hSw
    go_simp
    try with_reducible rfl
  try simp only [Act.put, List.getElem_toArray, List.getElem_cons_zero, List.getElem_cons_succ, List.setIfInBounds_toArray, List.set_cons_zero, List.set_cons_succ]
  refine wpAnyH_take (i := 28) (v := ?_) rfl (by kernel_rfl) (by kernel_rfl) (by kernel_rfl) (fun _ _ _ h => h) (Or.inl ⟨by kernel_rfl, ?_⟩) hHeld ?_
  rotate_left
  · intro wh hSw
    go_simp
    try with_reducible rfl
  try simp only [Act.put, List.getElem_toArray, List.getElem_cons_zero, List.getElem_cons_succ, List.setIfInBounds_toArray, List.set_cons_zero, List.set_cons_succ]
  refine wpAnyH_done (by kernel_rfl) ?_ _
  clear hHeld
  go_wp2
  go_ret
  exact ⟨rfl, H3.out⟩

set_option maxRecDepth 100000 in
theorem liftedSumsEnds (os : Os) (started : os.Started) (H : Type) (enc : TypeId × Value → H) :
    ReturnsInHanded {} Try.checked os 5 .any (Rows.sumsEndsSpec.pre6 enc Try.prog Try.f5 Rows.sumsEndsRow.domain false) (Rows.sumsEndsSpec.post enc Try.prog Try.f5 false true false false) := by
  refine returnsInHanded_of_change_sized (C := Try.checked) own started (by kernel_rfl) Try.func5
    (ChangeSpec.witness6 (enc := enc) (C := Try.checked) false ⟨#[], #[.agg (Array.replicate 33 (.int .u8 0)), .int .u8 0], []⟩ 8 (by kernel_rfl) (by kernel_rfl) (by kernel_rfl) (by kernel_rfl)) ?_
  intro W base args ds gs before hval0 hW hcnd hsz0 _
  have hval : ∀ (j : Nat) t v, Try.f5.params[j]? = some t → args[j]? = some v → Value.okWide Try.prog W .any base t v := hval0
  have hW' := hW
  obtain ⟨p, q, hA0, hV, rfl, hfz, hnd⟩ := hW
  have hA : DataW.TrodAll enc Try.prog W 0 (fun _ => true) true Try.f5.params.toList args.toList ds p := hA0
  have hsz : (DataW.weightsEach Try.prog (Try.f5.params.toList ++ Rows.sumsEndsSpec.plain.varTypes Try.prog) (ds ++ gs)).all (· ≤ reachBytes) = true := hsz0
  rw [Try.params5] at hA hval hsz
  obtain ⟨v0, vs0, d0, ds0, p0, q0, hargs, rfl, rfl, h0, r0⟩ := trodAll_cons hA
  obtain ⟨v1, vs1, d1, ds1, p1, q1, rfl, rfl, rfl, h1, r1⟩ := trodAll_cons r0
  obtain ⟨rfl, rfl, rfl⟩ := trodAll_nil r1
  obtain rfl : args = #[v0, v1] := by cases args; simp_all
  obtain ⟨rfl, rfl⟩ := trodVars_none hV
  have k0 := h0
  have lt0 : ∀ x ∈ p0, x.block < W.heap.size := by obtain ⟨m, hm⟩ := k0; exact DataW.trod_lt m _ _ _ hm
  have fit0 : Fit Try.prog 36 d0 := fun m hm => by simpa using List.all_eq_true.1 hsz _ (DataW.weights_mem_each (j := 0) (t := 36) rfl rfl m hm)
  obtain ⟨s0, e0, n0, ev0, w0⟩ := open_ends (hval 0 36 v0 rfl rfl) h0 fit0
  subst ev0
  have k1 := h1
  have lt1 : ∀ x ∈ p1, x.block < W.heap.size := by obtain ⟨m, hm⟩ := k1; exact DataW.trod_lt m _ _ _ hm
  have fit1 : Fit Try.prog 5 d1 := fun m hm => by simpa using List.all_eq_true.1 hsz _ (DataW.weights_mem_each (j := 1) (t := 5) rfl rfl m hm)
  obtain ⟨a1, rfl, _, _, w1⟩ := open_int Try.underlying5 (hval 1 5 v1 rfl rfl) h1
  clear hA0 hval0
  refine (walkSumsEnds s0 e0 n0 a1 W w0 w1).mono fun e W' ⟨he, bel⟩ => ?_
  subst he
  exact ⟨_, rfl, _, _, _, [], _, [], hW', trodAll_mk1 (shut_bool Try.underlying4 _), (trodAll_cons_mk (Below.trod laidOut (by kernel_rfl) (of_decide_eq_true (by kernel_rfl)) k0 bel lt0) (trodAll_cons_mk (Below.trod laidOut (by kernel_rfl) (of_decide_eq_true (by kernel_rfl)) k1 bel lt1) trodAll_mk0)), rfl, bel.frame _, fun h => by cases h⟩

/-- THE STATEMENT: 'SumsEnds'. -/
theorem sumsEnds_holds : Rows.SumsEndsSaid :=
  OpenClaim.holds_of_wide 5 Try.f5 rfl rfl rfl rfl rfl rfl rfl ⟨rfl, rfl, rfl, rfl, rfl⟩ rfl rfl rfl rfl rfl (by kernel_rfl) Try.func5 (by kernel_rfl)
    (of_decide_eq_true (by kernel_rfl)) (by unfold Func.isWrapper; first | (rw [if_pos (by decide +kernel)]; kernel_rfl) | (rw [if_neg (by decide +kernel)]; exact ⟨rfl, rfl⟩))
    (fun os started H enc _ => liftedSumsEnds os started H enc)

end Go.Proofs.Ytekmkainhehnpaa
