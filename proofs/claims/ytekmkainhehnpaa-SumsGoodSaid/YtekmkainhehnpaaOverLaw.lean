/- 'SumsOver': for every input the law returns true; nothing that was there is written. No condition. -/
import Derived.Test.YtekmkainhehnpaaGood
namespace Go.Proofs.Ytekmkainhehnpaa
open Go.ChangeShapes Go.WideShapes Go.ChangeAt Go.RowKit Go.Deep
set_option linter.unusedVariables false

/-- Two ends and a protocol as a value. -/
def endsV (s d : List Int) (nx : Int) : Array Value := bytesV (s ++ d ++ [nx])

structure IsEnds (s d : List Int) (nx : Int) : Prop where
  s : IsAddr s
  d : IsAddr d
  n0 : 0 ≤ nx
  n1 : nx ≤ 255

theorem open_ends {H : Type} {enc : TypeId × Value → H} {W : World} {r : Reach} {b0 : Nat} {v : Value} {d : DataW H} {p : List MemPlace} (hv : Value.okWide Try.prog W r b0 36 v) (h : DataW.Trod enc Try.prog W 0 (fun _ => true) true 36 v d p) (hw : Fit Try.prog 36 d) :
    ∃ s e nx, v = .agg (endsV s e nx) ∧ IsEnds s e nx := by
  simp only [Value.okWide, Try.underlying36] at hv
  obtain ⟨cs, rfl, hs, _⟩ := hv
  obtain ⟨fuel, hf⟩ := h
  obtain ⟨hl, hfs⟩ := struct_any Try.underlying36 hf hw
  obtain ⟨m0, y0, h0, _⟩ := hfs 0 _ rfl
  obtain ⟨m1, y1, h1, _⟩ := hfs 1 _ rfl
  obtain ⟨m2, y2, h2, _⟩ := hfs 2 _ rfl
  have c34 : Try.prog.cellsOf 34 = 16 := by kernel_rfl
  have c5 : Try.prog.cellsOf 5 = 1 := by kernel_rfl
  have c36 : Try.prog.cellsOf 36 = 33 := by kernel_rfl
  replace h0 : DataW.trod enc Try.prog W 0 (fun _ => true) true m0 34 (List.take (Try.prog.cellsOf 34) (List.drop 0 cs.toList)) = some y0 := h0
  replace h1 : DataW.trod enc Try.prog W 0 (fun _ => true) true m1 34 (List.take (Try.prog.cellsOf 34) (List.drop 16 cs.toList)) = some y1 := h1
  replace h2 : DataW.trod enc Try.prog W 0 (fun _ => true) true m2 5 (List.take (Try.prog.cellsOf 5) (List.drop 32 cs.toList)) = some y2 := h2
  rw [c34] at h0 h1
  rw [c5] at h2
  obtain ⟨l0, e0, n0, w0⟩ := array_ints Try.underlying34 Try.underlying5 c5 c34 h0
  obtain ⟨l1, e1, n1, w1⟩ := array_ints Try.underlying34 Try.underlying5 c5 c34 h1
  obtain ⟨nx, e2, _, w2⟩ := DataW.trod_int Try.underlying5 h2
  have hl2 : cs.toList.length = 33 := by simpa [c36] using hs
  have hall : cs.toList = (l0 ++ l1 ++ [nx]).map (Value.int .u8) := by
    have ea : cs.toList = cs.toList.take 16 ++ (cs.toList.drop 16).take 16 ++ (cs.toList.drop 32).take 1 := by
      have e3 : (cs.toList.drop 32).take 1 = cs.toList.drop 32 := List.take_of_length_le (by simp only [List.length_drop]; omega)
      rw [e3, List.append_assoc]
      have e4 : (cs.toList.drop 16).drop 16 = cs.toList.drop 32 := by rw [List.drop_drop]
      rw [← e4, List.take_append_drop, List.take_append_drop]
    rw [List.drop_zero] at e0
    rw [ea, e0, e1, e2]
    simp
  refine ⟨l0, l1, nx, ?_, ⟨⟨n0, fun x hx => u8b (w0 x hx)⟩, ⟨n1, fun x hx => u8b (w1 x hx)⟩, (u8b w2).1, (u8b w2).2⟩⟩
  unfold endsV bytesV
  rw [← hall]

section
variable {w : World} {B : Nat} {s e : List Int} {nx : Int}
theorem ends_l0 (h : Blk w B 36 (endsV s e nx)) (hE : IsEnds s e nx) : (loadVar 34 ⟨B, 0, none⟩).run Try.prog w = .ok (.agg (bytesV s)) w :=
  load34 w B 0 s hE.s fun j y hy => h.bytes j y (by
    have := (List.getElem?_eq_some_iff.1 hy).1
    rw [List.append_assoc, List.getElem?_append_left this, hy])
theorem ends_l1 (h : Blk w B 36 (endsV s e nx)) (hE : IsEnds s e nx) : (loadVar 34 ⟨B, 16, none⟩).run Try.prog w = .ok (.agg (bytesV e)) w :=
  load34 w B 16 e hE.d fun j y hy => by
    have h1 := (List.getElem?_eq_some_iff.1 hy).1
    have h2 := hE.s.len
    have := h.bytes (16 + j) y (by
      rw [List.append_assoc, List.getElem?_append_right (by omega), List.getElem?_append_left (by omega), ← hy]
      congr 1; omega)
    rwa [Nat.zero_add] at this
theorem ends_c2 (h : Blk w B 36 (endsV s e nx)) (hE : IsEnds s e nx) : w.cell? ⟨B, 32, none⟩ = some (.int .u8 nx) := by
  have h2 := hE.s.len
  have h3 := hE.d.len
  have := h.bytes 32 nx (by rw [List.getElem?_append_right (by simp; omega)]; simp [h2, h3])
  rwa [Nat.zero_add] at this
end

set_option maxRecDepth 100000 in
set_option maxHeartbeats 4000000 in
theorem walkSumsOver (s0 e0 : List Int) (n0 : Int) (a1 : Option Addr) (n1 c1 : Nat) (z1 : List Int) (w : World) (w0 : IsEnds s0 e0 n0)
    (r1 : Rd w w.heap.size 1 a1 n1 c1 (z1.map (Value.int .u8))) (y1 : c1 * Try.prog.bytesOf 5 ≤ reachBytes) (w1 : ∀ y ∈ z1, (Lit.int .u8 y).wf = true) :
    Calls Try.prog 6 #[.agg (endsV s0 e0 n0), .slice a1 n1 c1] w fun e w' => e = .returned (.bool true) ∧ Below w.heap.size w w' := by
  clear y1
  have m1 := r1.cmax
  have k1 := r1.cap
  unfold maxLen at m1
  by_cases h1 : n1 ≤ 5000
  · have e1 : z1.length = n1 := by have := r1.len; simpa using this
    have q0 : By w a1 n1 c1 z1 := ⟨r1, fun x hx => u8b (w1 x hx), by omega⟩
    have hE := hidd (Blk.new w 36 (endsV s0 e0 n0))
    have q1 := hidd (q0.alloc (.cells (endsV s0 e0 n0) 36))
    have e1' := hidd e1
    have w0' := hidd w0
    clear r1 w1 e1 q0 w0
    go_enter Try.func6, Try.ntmps6
    go_wp2_with fail
    refine (twinBytes_any _ a1 n1 c1 z1 q1.out.rd (by omega)).mono ?_
    rintro e v1 ⟨rfl, hT, hF, hz⟩
    rw [World.size_alloc] at hT hz ⊢
    have b1 := hidd (hF.below (Nat.le_refl _) (fun _ e => e.elim))
    have qT : Hid (By v1 (some ⟨w.heap.size + 1, 0, none⟩) n1 (n1 + 4) z1) := by
      have := hT.twin_rd (B := v1.heap.size) hT.lt (by rw [e1'.out]; unfold maxLen; omega)
      rw [e1'.out] at this
      exact ⟨this, q1.out.rng, q1.out.len⟩
    have hT1 := hidd hT
    have E1 := hidd (hE.out.below b1.out (by simp))
    have Q1 := hidd (q1.out.below b1.out)
    have hb0 := hidd (below_alloc1 b1.out)
    clear hT hF q1 hE b1
    have l0 := ends_l0 E1.out w0'.out
    have l1 := ends_l1 E1.out w0'.out
    have l2 := ends_c2 E1.out w0'.out
    go_wp2_with (refine wpList_load_want rfl 34 _ rfl _ rfl _ (by first | exact l0 | exact l1) ?_)
    refine (refOver_any v1 s0 e0 w0'.out.s w0'.out.d n0 w0'.out.n0 w0'.out.n1 _ _ _ z1 Q1.out (by have := e1'.out; omega)).mono ?_
    rintro e v2 ⟨rfl, b2⟩
    have T1 := hidd qT.out
    have hb1 := hidd hb0.out
    clear qT hb0
    have E2 := hidd (E1.out.below b2 E1.out.lt)
    have Q2 := hidd (Q1.out.below b2)
    have T2 := hidd (T1.out.below b2)
    have hT2 := hidd (hT1.out.below b2 hT1.out.lt)
    have hb2 := hidd (hb1.out.trans (b2.mono hb1.out.size))
    clear E1 Q1 T1 hT1 hb1 l0 l1 l2 b2
    have l0 := ends_l0 E2.out w0'.out
    have l1 := ends_l1 E2.out w0'.out
    have l2 := ends_c2 E2.out w0'.out
    go_wp2_with (refine wpList_load_want rfl 34 _ rfl _ rfl _ (by first | exact l0 | exact l1) ?_)
    refine (over_any v2 s0 e0 w0'.out.s w0'.out.d n0 w0'.out.n0 w0'.out.n1 _ _ _ z1 T2.out).mono ?_
    rintro e v3 ⟨rfl, b3⟩
    have E3 := hidd (E2.out.below b3 E2.out.lt)
    have Q3 := hidd (Q2.out.below b3)
    have T3 := hidd (T2.out.below b3)
    have hT3 := hidd (hT2.out.below b3 hT2.out.lt)
    have hb3 := hidd (hb2.out.trans (b3.mono hb2.out.size))
    clear E2 Q2 T2 hT2 hb2 l0 l1 l2 b3
    have l0 := ends_l0 E3.out w0'.out
    have l1 := ends_l1 E3.out w0'.out
    have l2 := ends_c2 E3.out w0'.out
    go_wp2_with (refine wpList_load_want rfl 34 _ rfl _ rfl _ (by first | exact l0 | exact l1) ?_)
    refine (good_any v3 s0 e0 w0'.out.s w0'.out.d n0 w0'.out.n0 w0'.out.n1 _ _ _ z1 T3.out).mono ?_
    rintro e v4 ⟨rfl, b4⟩
    have E4 := hidd (E3.out.below b4 E3.out.lt)
    have Q4 := hidd (Q3.out.below b4)
    have T4 := hidd (T3.out.below b4)
    have hT4 := hidd (hT3.out.below b4 hT3.out.lt)
    have hb4 := hidd (hb3.out.trans (b4.mono hb3.out.size))
    clear E3 Q3 T3 hT3 hb3 l0 l1 l2 b4
    have l0 := ends_l0 E4.out w0'.out
    have l1 := ends_l1 E4.out w0'.out
    have l2 := ends_c2 E4.out w0'.out
    go_wp2_with (refine wpList_load_want rfl 34 _ rfl _ rfl _ (by first | exact l0 | exact l1) ?_)
    refine (leftBytes_yes v4 (w.heap.size + 1) a1 n1 c1 z1 hT4.out Q4.out.rd (by omega)).mono ?_
    rintro e v5 ⟨rfl, k, rfl⟩
    go_wp2_with fail
    refine (lives_any _).mono ?_
    rintro e v8 ⟨rfl, b8⟩
    go_wp2
    go_ret
    have c7 : Below w.heap.size w (v4.drewN k) := ⟨hb4.out.os, hb4.out.tape, hb4.out.output, hb4.out.size, hb4.out.block⟩
    exact ⟨rfl, c7.trans (b8.mono c7.size)⟩
  · clear r1 w1
    go_enter Try.func6, Try.ntmps6
    go_wp2_with (go_at_call 8; refine (lives_any _).mono ?_; rintro e w' ⟨rfl, hbel⟩)
    go_ret
    exact ⟨rfl, below_alloc1 hbel⟩

set_option maxRecDepth 100000 in
theorem liftedSumsOver (os : Os) (started : os.Started) (H : Type) (enc : TypeId × Value → H) :
    ReturnsInHanded {} Try.checked os 6 .any (Rows.sumsOverSpec.pre6 enc Try.prog Try.f6 Rows.sumsOverRow.domain false) (Rows.sumsOverSpec.post enc Try.prog Try.f6 false true false false) := by
  refine returnsInHanded_of_change_sized (C := Try.checked) own started (by kernel_rfl) Try.func6
    (ChangeSpec.witness6 (enc := enc) (C := Try.checked) false ⟨#[], #[.agg (Array.replicate 33 (.int .u8 0)), .slice none 0 0], []⟩ 8 (by kernel_rfl) (by kernel_rfl) (by kernel_rfl) (by kernel_rfl)) ?_
  intro W base args ds gs before hval0 hW hcnd hsz0 _
  have hval : ∀ (j : Nat) t v, Try.f6.params[j]? = some t → args[j]? = some v → Value.okWide Try.prog W .any base t v := hval0
  have hW' := hW
  obtain ⟨p, q, hA0, hV, rfl, hfz, hnd⟩ := hW
  have hA : DataW.TrodAll enc Try.prog W 0 (fun _ => true) true Try.f6.params.toList args.toList ds p := hA0
  have hsz : (DataW.weightsEach Try.prog (Try.f6.params.toList ++ Rows.sumsOverSpec.plain.varTypes Try.prog) (ds ++ gs)).all (· ≤ reachBytes) = true := hsz0
  rw [Try.params6] at hA hval hsz
  obtain ⟨v0, vs0, d0, ds0, p0, q0, hargs, rfl, rfl, h0, r0⟩ := trodAll_cons hA
  obtain ⟨v1, vs1, d1, ds1, p1, q1, rfl, rfl, rfl, h1, r1⟩ := trodAll_cons r0
  obtain ⟨rfl, rfl, rfl⟩ := trodAll_nil r1
  obtain rfl : args = #[v0, v1] := by cases args; simp_all
  obtain ⟨rfl, rfl⟩ := trodVars_none hV
  have k0 := h0
  have lt0 : ∀ x ∈ p0, x.block < W.heap.size := by obtain ⟨m, hm⟩ := k0; exact DataW.trod_lt m _ _ _ hm
  have fit0 : Fit Try.prog 36 d0 := fun m hm => by simpa using List.all_eq_true.1 hsz _ (DataW.weights_mem_each (j := 0) (t := 36) rfl rfl m hm)
  obtain ⟨s0, e0, n0, ev0, w0⟩ := open_ends (hval 0 36 v0 rfl rfl) h0 fit0
  subst ev0
  have k1 := h1
  have lt1 : ∀ x ∈ p1, x.block < W.heap.size := by obtain ⟨m, hm⟩ := k1; exact DataW.trod_lt m _ _ _ hm
  have fit1 : Fit Try.prog 22 d1 := fun m hm => by simpa using List.all_eq_true.1 hsz _ (DataW.weights_mem_each (j := 1) (t := 22) rfl rfl m hm)
  obtain ⟨a1, n1, c1, rfl⟩ := okWide_slice Try.underlying22 (hval 1 22 v1 rfl rfl)
  obtain ⟨fuel1, hf1⟩ := h1
  obtain ⟨a1', n1', c1', z1, ev1, r1', y1, w1⟩ := ints_rd Try.underlying22 Try.underlying5 (by kernel_rfl) hf1 fit1
  simp only [Value.cells, List.cons.injEq, and_true, Value.slice.injEq] at ev1
  obtain ⟨rfl, rfl, rfl⟩ := ev1
  clear hA0 hval0
  refine (walkSumsOver s0 e0 n0 a1 n1 c1 z1 W w0 r1' y1 w1).mono fun e W' ⟨he, bel⟩ => ?_
  subst he
  exact ⟨_, rfl, _, _, _, [], _, [], hW', trodAll_mk1 (shut_bool Try.underlying4 _), (trodAll_cons_mk (Below.trod laidOut (by kernel_rfl) (of_decide_eq_true (by kernel_rfl)) k0 bel lt0) (trodAll_cons_mk (Below.trod laidOut (by kernel_rfl) (of_decide_eq_true (by kernel_rfl)) k1 bel lt1) trodAll_mk0)), rfl, bel.frame _, fun h => by cases h⟩

/-- THE STATEMENT: 'SumsOver'. -/
theorem sumsOver_holds : Rows.SumsOverSaid :=
  OpenClaim.holds_of_wide 6 Try.f6 rfl rfl rfl rfl rfl rfl rfl ⟨rfl, rfl, rfl, rfl, rfl⟩ rfl rfl rfl rfl rfl (by kernel_rfl) Try.func6 (by kernel_rfl)
    (of_decide_eq_true (by kernel_rfl)) (by unfold Func.isWrapper; first | (rw [if_pos (by decide +kernel)]; kernel_rfl) | (rw [if_neg (by decide +kernel)]; exact ⟨rfl, rfl⟩))
    (fun os started H enc _ => liftedSumsOver os started H enc)

end Go.Proofs.Ytekmkainhehnpaa
