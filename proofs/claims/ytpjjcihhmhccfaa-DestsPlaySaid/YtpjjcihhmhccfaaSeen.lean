/- Entries held against one another. No condition. -/
import Derived.Test.YtpjjcihhmhccfaaBase
namespace Go.Proofs.Ytpjjcihhmhccfaa
open Go.ChangeShapes Go.WideShapes Go.ChangeAt Go.RowKit Go.Deep
set_option linter.unusedVariables false
set_option linter.unusedSimpArgs false

theorem part_dst (W : World) {e : E} (he : IsE e) : (part 24 (encV e) 0).run Try.prog W = .ok (.agg (bytesV e.1)) W := by
  obtain ⟨i, hi⟩ := info_of_underlying (P := Try.prog) Try.underlying24
  have hs : Try.prog.cellsOf 24 = 16 := cells24
  have hx : (encV e).extract 0 16 = bytesV e.1 := by
    obtain ⟨a, n, m, u⟩ := e
    obtain ⟨_, _, _, _, _, _, _, _, _, _, _, _, _, _, _, _, rfl⟩ := addr_ex he.a
    obtain ⟨_, _, _, _, _, _, _, _, _, _, _, _, _, _, _, _, rfl⟩ := addr_ex he.n
    rfl
  simp [part, isAgg, run_underlying Try.underlying24, run_sizeOf W hi, hs, hx]
theorem part_next (W : World) {e : E} (he : IsE e) : (part 24 (encV e) 16).run Try.prog W = .ok (.agg (bytesV e.2.1)) W := by
  obtain ⟨i, hi⟩ := info_of_underlying (P := Try.prog) Try.underlying24
  have hs : Try.prog.cellsOf 24 = 16 := cells24
  have hx : (encV e).extract 16 32 = bytesV e.2.1 := by
    obtain ⟨a, n, m, u⟩ := e
    obtain ⟨_, _, _, _, _, _, _, _, _, _, _, _, _, _, _, _, rfl⟩ := addr_ex he.a
    obtain ⟨_, _, _, _, _, _, _, _, _, _, _, _, _, _, _, _, rfl⟩ := addr_ex he.n
    rfl
  simp [part, isAgg, run_underlying Try.underlying24, run_sizeOf W hi, hs, hx]
theorem eqFields_cons {P : Program} {W : World} {d : Nat} {f : Field} {fs : List Field} {xs : Array Value} {a : Value} (hn : ¬ f.name = "_") (pa : (part f.type xs f.offset).run P W = .ok a W) (he : (Op.equalIn d f.type a a).run P W = .ok true W)
    (rest : (Op.eqFields d xs xs fs).run P W = .ok true W) : (Op.eqFields d xs xs (f :: fs)).run P W = .ok true W := by
  simp [Op.eqFields, hn, Sem.run_bind, pa, he, rest]
theorem eq33d (W : World) (d : Nat) {x : E} (he : IsE x) : (Op.equalIn (d + 3) 33 (.agg (encV x)) (.agg (encV x))).run Try.prog W = .ok true W := by
  have hf : (Try.prog.fieldsOf 33).toList.map (fun f => (f.type, f.offset, decide (f.name = "_"))) = [(24, 0, false), (24, 16, false), (28, 32, false), (29, 33, false)] := by kernel_rfl
  rw [run_equalIn_struct W (d + 2) 33 _ _ (by kernel_rfl) (by kernel_rfl)]
  generalize (Try.prog.fieldsOf 33).toList = fs at hf
  obtain ⟨f, g, h, k, rfl⟩ : ∃ f g h k, fs = [f, g, h, k] := by
    rcases fs with _ | ⟨f, _ | ⟨g, _ | ⟨h, _ | ⟨i, _ | ⟨k, fs⟩⟩⟩⟩⟩
    · cases congrArg List.length hf
    · cases congrArg List.length hf
    · cases congrArg List.length hf
    · cases congrArg List.length hf
    · exact ⟨f, g, h, i, rfl⟩
    · cases congrArg List.length hf
  simp only [List.map_cons, List.map_nil, List.cons.injEq, Prod.mk.injEq, decide_eq_false_iff_not, and_true] at hf
  obtain ⟨⟨h1, h2, h3⟩, ⟨h4, h5, h6⟩, ⟨h7, h8, h9⟩, h10, h11, h12⟩ := hf
  have p28 : Try.prog.plainKey 28 = true := by kernel_rfl
  have p29 : Try.prog.plainKey 29 = true := by kernel_rfl
  obtain ⟨i, hi⟩ := info_of_underlying (P := Try.prog) Try.underlying5
  have e1 : (Op.equalIn (d + 2) 24 (.agg (bytesV x.1)) (.agg (bytesV x.1))).run Try.prog W = .ok true W := by
    have := run_equal_bytes W d Try.underlying24 hi (by kernel_rfl) Try.underlying5 x.1 x.1 he.a.len he.a.len
    simpa using this
  have e2 : (Op.equalIn (d + 2) 24 (.agg (bytesV x.2.1)) (.agg (bytesV x.2.1))).run Try.prog W = .ok true W := by
    have := run_equal_bytes W d Try.underlying24 hi (by kernel_rfl) Try.underlying5 x.2.1 x.2.1 he.n.len he.n.len
    simpa using this
  have e3 : (Op.equalIn (d + 2) 28 (.int .u32 x.2.2.1) (.int .u32 x.2.2.1)).run Try.prog W = .ok (x.2.2.1 == x.2.2.1) W := run_equalIn_int W (d + 1) 28 .u32 .u32 x.2.2.1 x.2.2.1 Try.underlying28
  have e4 : (Op.equalIn (d + 2) 29 (.int .u64 x.2.2.2) (.int .u64 x.2.2.2)).run Try.prog W = .ok (x.2.2.2 == x.2.2.2) W := run_equalIn_int W (d + 1) 29 .u64 .u64 x.2.2.2 x.2.2.2 Try.underlying29
  have q1 := part_dst W he
  have q2 := part_next W he
  have q3 := run_part_plain W p28 (xs := encV x) (off := 32) (at_mtu he)
  have q4 := run_part_plain W p29 (xs := encV x) (off := 33) (at_until he)
  rw [beq_self_eq_true] at e3 e4
  clear hi
  refine eqFields_cons h3 (by rw [h1, h2]; exact q1) (by rw [h1]; exact e1) (eqFields_cons h6 (by rw [h4, h5]; exact q2) (by rw [h4]; exact e2) (eqFields_cons h9 (by rw [h7, h8]; exact q3) (by rw [h7]; exact e3) (eqFields_cons h12 (by rw [h10, h11]; exact q4) (by rw [h10]; exact e4) ?_)))
  rfl
theorem eq33 (W : World) {x : E} (he : IsE x) : (Op.equalIn 10000 33 (.agg (encV x)) (.agg (encV x))).run Try.prog W = .ok true W := eq33d W 9997 he
theorem guard33 : Try.prog.eqGuardType Try.prog.depth 33 = false := by kernel_rfl
end Go.Proofs.Ytpjjcihhmhccfaa
