/- The document's answer: whether a message counts in a packet. No condition but that the table lies where it was laid. -/
import Derived.Test.YtlckfnfmekgnkaaDoorRv
namespace Go.Proofs.YtlckfnfmekgnkaaDoor
open Go.ChangeShapes Go.WideShapes Go.ChangeAt Go.RowKit Go.Deep
set_option linter.unusedVariables false
set_option linter.unusedSimpArgs false

set_option maxRecDepth 100000 in
set_option maxHeartbeats 8000000 in
theorem ref137 (w : World) {cs ms : Array Value} {p : Pk} {m : Ms} (hp : IsPk cs p) (hm : IsMs w w.heap.size ms m) (hk : m.kind = 137) : Calls Tryd.prog 12 #[.agg cs, .agg ms] w fun e w' => e = .returned (.bool (valid p m)) ∧ Below w.heap.size w w' := by
  have hv := hidd (show valid p m = (p.hops == 255 && m.code == 0 && redirects p m) by simp [valid, rule, hk])
  have hA0 := hidd hp.srcA
  have hA1 := hidd hp.dstA
  have hA2 := hidd hm.targetA
  have hA3 := hidd hm.destA
  have hfr := hidd hm.fr
  have hz := zero23
  have g1 := guard23
  obtain ⟨V, q, hV, hq, k⟩ := rs0 w hp hm
  have K0 := hidd k
  clear hp hm k
  go_enter Tryd.func12, Tryd.ntmps12
  by_cases h1 : p.hops = 255
  rotate_left
  · have n1 : (p.hops != 255) = true := by simpa using h1
    have l0 := K0.out.lsrc
    have l1 := K0.out.ldst
    have l2 := K0.out.ltarget
    have l3 := K0.out.ldest
    have l4 := K0.out.lz
    have l5 := K0.out.lm
    have k0 := K0.out.kind
    have k1 := K0.out.code
    have k2 := K0.out.flags
    have k3 := K0.out.hops
    have k4 := K0.out.alert
    rw [hk] at k0
    go_wp2
    clear l0 l1 l2 l3 l4 l5 k0 k1 k2 k3 k4
    go_ret
    have hbel := K0.out.bel
    first | refine ⟨congrArg (fun z => Ending.returned (.bool z)) (?_ : _ = valid p m), hbel⟩ | (rw [hq] at hbel; refine ⟨congrArg (fun z => Ending.returned (.bool z)) (?_ : _ = valid p m), hbel⟩)
    rw [hv.out]; simp [none', tells, solicits, routes, asks, answers, redirects, questions, reports, h1]
  have n1 : (p.hops != 255) = false := by simpa using h1
  by_cases h2 : m.code = 0
  rotate_left
  · have n2 : (m.code != 0) = true := by simpa using h2
    have l0 := K0.out.lsrc
    have l1 := K0.out.ldst
    have l2 := K0.out.ltarget
    have l3 := K0.out.ldest
    have l4 := K0.out.lz
    have l5 := K0.out.lm
    have k0 := K0.out.kind
    have k1 := K0.out.code
    have k2 := K0.out.flags
    have k3 := K0.out.hops
    have k4 := K0.out.alert
    rw [hk] at k0
    go_wp2
    clear l0 l1 l2 l3 l4 l5 k0 k1 k2 k3 k4
    go_ret
    have hbel := K0.out.bel
    first | refine ⟨congrArg (fun z => Ending.returned (.bool z)) (?_ : _ = valid p m), hbel⟩ | (rw [hq] at hbel; refine ⟨congrArg (fun z => Ending.returned (.bool z)) (?_ : _ = valid p m), hbel⟩)
    rw [hv.out]; simp [none', tells, solicits, routes, asks, answers, redirects, questions, reports, h1, h2]
  have n2 : (m.code != 0) = false := by simpa using h2
  have hlk0 := Bool.eq_false_or_eq_true (isLink p.src)
  rcases hlk0 with hlk | hlk
  · skip
    have l0 := K0.out.lsrc
    have l1 := K0.out.ldst
    have l2 := K0.out.ltarget
    have l3 := K0.out.ldest
    have l4 := K0.out.lz
    have l5 := K0.out.lm
    have k0 := K0.out.kind
    have k1 := K0.out.code
    have k2 := K0.out.flags
    have k3 := K0.out.hops
    have k4 := K0.out.alert
    rw [hk] at k0
    go_wp2_with (first
      | (with_reducible show wpList _ _ _ (⟨some 34, Op.load 23 _, _, _, _, _⟩ :: _) _ _; refine wpList_load_want (by kernel_rfl) 23 _ rfl _ rfl _ (by with_reducible exact l0) ?_)
      | (with_reducible show wpList _ _ _ (⟨some 41, Op.load 23 _, _, _, _, _⟩ :: _) _ _; refine wpList_load_want (by kernel_rfl) 23 _ rfl _ rfl _ (by with_reducible exact l0) ?_)
      | (with_reducible show wpList _ _ _ (⟨some 42, Op.load 23 _, _, _, _, _⟩ :: _) _ _; refine wpList_load_want (by kernel_rfl) 23 _ rfl _ rfl _ (by with_reducible exact l4) ?_)
      | (with_reducible show wpList _ _ _ (⟨some 55, Op.load 23 _, _, _, _, _⟩ :: _) _ _; refine wpList_load_want (by kernel_rfl) 23 _ rfl _ rfl _ (by with_reducible exact l2) ?_)
      | (with_reducible show wpList _ _ _ (⟨some 58, Op.load 23 _, _, _, _, _⟩ :: _) _ _; refine wpList_load_want (by kernel_rfl) 23 _ rfl _ rfl _ (by with_reducible exact l0) ?_)
      | (with_reducible show wpList _ _ _ (⟨some 59, Op.load 23 _, _, _, _, _⟩ :: _) _ _; refine wpList_load_want (by kernel_rfl) 23 _ rfl _ rfl _ (by with_reducible exact l4) ?_)
      | (with_reducible show wpList _ _ _ (⟨some 75, Op.load 23 _, _, _, _, _⟩ :: _) _ _; refine wpList_load_want (by kernel_rfl) 23 _ rfl _ rfl _ (by with_reducible exact l2) ?_)
      | (with_reducible show wpList _ _ _ (⟨some 78, Op.load 23 _, _, _, _, _⟩ :: _) _ _; refine wpList_load_want (by kernel_rfl) 23 _ rfl _ rfl _ (by with_reducible exact l1) ?_)
      | (with_reducible show wpList _ _ _ (⟨some 94, Op.load 23 _, _, _, _, _⟩ :: _) _ _; refine wpList_load_want (by kernel_rfl) 23 _ rfl _ rfl _ (by with_reducible exact l3) ?_)
      | (with_reducible show wpList _ _ _ (⟨some 98, Op.load 23 _, _, _, _, _⟩ :: _) _ _; refine wpList_load_want (by kernel_rfl) 23 _ rfl _ rfl _ (by with_reducible exact l2) ?_)
      | (with_reducible show wpList _ _ _ (⟨some 102, Op.load 23 _, _, _, _, _⟩ :: _) _ _; refine wpList_load_want (by kernel_rfl) 23 _ rfl _ rfl _ (by with_reducible exact l2) ?_)
      | (with_reducible show wpList _ _ _ (⟨some 104, Op.load 23 _, _, _, _, _⟩ :: _) _ _; refine wpList_load_want (by kernel_rfl) 23 _ rfl _ rfl _ (by with_reducible exact l3) ?_)
      | (with_reducible show wpList _ _ _ (⟨some 117, Op.load 23 _, _, _, _, _⟩ :: _) _ _; refine wpList_load_want (by kernel_rfl) 23 _ rfl _ rfl _ (by with_reducible exact l0) ?_)
      | (with_reducible show wpList _ _ _ (⟨some 118, Op.load 23 _, _, _, _, _⟩ :: _) _ _; refine wpList_load_want (by kernel_rfl) 23 _ rfl _ rfl _ (by with_reducible exact l4) ?_)
      | (with_reducible show wpList _ _ _ (⟨some 45, Op.load 35 _, _, _, _, _⟩ :: _) _ _; refine wpList_load_want (by kernel_rfl) 35 _ rfl _ rfl _ (by with_reducible exact l5) ?_)
      | fail)
    refine (link_ref V p.src hA0.out).mono ?_
    rintro r U1 ⟨rfl, bb⟩
    rw [hlk]
    have K1 := hidd (K0.out.to bb)
    clear bb
    clear l0 l1 l2 l3 l4 l5 k0 k1 k2 k3 k4
    have hme0 := Bool.eq_false_or_eq_true (isMany m.dest)
    rcases hme0 with hme | hme
    · skip
      have l0 := K1.out.lsrc
      have l1 := K1.out.ldst
      have l2 := K1.out.ltarget
      have l3 := K1.out.ldest
      have l4 := K1.out.lz
      have l5 := K1.out.lm
      have k0 := K1.out.kind
      have k1 := K1.out.code
      have k2 := K1.out.flags
      have k3 := K1.out.hops
      have k4 := K1.out.alert
      rw [hk] at k0
      go_wp2_with (first
        | (with_reducible show wpList _ _ _ (⟨some 34, Op.load 23 _, _, _, _, _⟩ :: _) _ _; refine wpList_load_want (by kernel_rfl) 23 _ rfl _ rfl _ (by with_reducible exact l0) ?_)
        | (with_reducible show wpList _ _ _ (⟨some 41, Op.load 23 _, _, _, _, _⟩ :: _) _ _; refine wpList_load_want (by kernel_rfl) 23 _ rfl _ rfl _ (by with_reducible exact l0) ?_)
        | (with_reducible show wpList _ _ _ (⟨some 42, Op.load 23 _, _, _, _, _⟩ :: _) _ _; refine wpList_load_want (by kernel_rfl) 23 _ rfl _ rfl _ (by with_reducible exact l4) ?_)
        | (with_reducible show wpList _ _ _ (⟨some 55, Op.load 23 _, _, _, _, _⟩ :: _) _ _; refine wpList_load_want (by kernel_rfl) 23 _ rfl _ rfl _ (by with_reducible exact l2) ?_)
        | (with_reducible show wpList _ _ _ (⟨some 58, Op.load 23 _, _, _, _, _⟩ :: _) _ _; refine wpList_load_want (by kernel_rfl) 23 _ rfl _ rfl _ (by with_reducible exact l0) ?_)
        | (with_reducible show wpList _ _ _ (⟨some 59, Op.load 23 _, _, _, _, _⟩ :: _) _ _; refine wpList_load_want (by kernel_rfl) 23 _ rfl _ rfl _ (by with_reducible exact l4) ?_)
        | (with_reducible show wpList _ _ _ (⟨some 75, Op.load 23 _, _, _, _, _⟩ :: _) _ _; refine wpList_load_want (by kernel_rfl) 23 _ rfl _ rfl _ (by with_reducible exact l2) ?_)
        | (with_reducible show wpList _ _ _ (⟨some 78, Op.load 23 _, _, _, _, _⟩ :: _) _ _; refine wpList_load_want (by kernel_rfl) 23 _ rfl _ rfl _ (by with_reducible exact l1) ?_)
        | (with_reducible show wpList _ _ _ (⟨some 94, Op.load 23 _, _, _, _, _⟩ :: _) _ _; refine wpList_load_want (by kernel_rfl) 23 _ rfl _ rfl _ (by with_reducible exact l3) ?_)
        | (with_reducible show wpList _ _ _ (⟨some 98, Op.load 23 _, _, _, _, _⟩ :: _) _ _; refine wpList_load_want (by kernel_rfl) 23 _ rfl _ rfl _ (by with_reducible exact l2) ?_)
        | (with_reducible show wpList _ _ _ (⟨some 102, Op.load 23 _, _, _, _, _⟩ :: _) _ _; refine wpList_load_want (by kernel_rfl) 23 _ rfl _ rfl _ (by with_reducible exact l2) ?_)
        | (with_reducible show wpList _ _ _ (⟨some 104, Op.load 23 _, _, _, _, _⟩ :: _) _ _; refine wpList_load_want (by kernel_rfl) 23 _ rfl _ rfl _ (by with_reducible exact l3) ?_)
        | (with_reducible show wpList _ _ _ (⟨some 117, Op.load 23 _, _, _, _, _⟩ :: _) _ _; refine wpList_load_want (by kernel_rfl) 23 _ rfl _ rfl _ (by with_reducible exact l0) ?_)
        | (with_reducible show wpList _ _ _ (⟨some 118, Op.load 23 _, _, _, _, _⟩ :: _) _ _; refine wpList_load_want (by kernel_rfl) 23 _ rfl _ rfl _ (by with_reducible exact l4) ?_)
        | (with_reducible show wpList _ _ _ (⟨some 45, Op.load 35 _, _, _, _, _⟩ :: _) _ _; refine wpList_load_want (by kernel_rfl) 35 _ rfl _ rfl _ (by with_reducible exact l5) ?_)
        | fail)
      refine (many_ref U1 m.dest hA3.out).mono ?_
      rintro r U2 ⟨rfl, bb⟩
      rw [hme]
      have K2 := hidd (K1.out.to bb)
      clear bb
      clear l0 l1 l2 l3 l4 l5 k0 k1 k2 k3 k4
      have l0 := K2.out.lsrc
      have l1 := K2.out.ldst
      have l2 := K2.out.ltarget
      have l3 := K2.out.ldest
      have l4 := K2.out.lz
      have l5 := K2.out.lm
      have k0 := K2.out.kind
      have k1 := K2.out.code
      have k2 := K2.out.flags
      have k3 := K2.out.hops
      have k4 := K2.out.alert
      rw [hk] at k0
      go_wp2_with (first
        | (with_reducible show wpList _ _ _ (⟨some 34, Op.load 23 _, _, _, _, _⟩ :: _) _ _; refine wpList_load_want (by kernel_rfl) 23 _ rfl _ rfl _ (by with_reducible exact l0) ?_)
        | (with_reducible show wpList _ _ _ (⟨some 41, Op.load 23 _, _, _, _, _⟩ :: _) _ _; refine wpList_load_want (by kernel_rfl) 23 _ rfl _ rfl _ (by with_reducible exact l0) ?_)
        | (with_reducible show wpList _ _ _ (⟨some 42, Op.load 23 _, _, _, _, _⟩ :: _) _ _; refine wpList_load_want (by kernel_rfl) 23 _ rfl _ rfl _ (by with_reducible exact l4) ?_)
        | (with_reducible show wpList _ _ _ (⟨some 55, Op.load 23 _, _, _, _, _⟩ :: _) _ _; refine wpList_load_want (by kernel_rfl) 23 _ rfl _ rfl _ (by with_reducible exact l2) ?_)
        | (with_reducible show wpList _ _ _ (⟨some 58, Op.load 23 _, _, _, _, _⟩ :: _) _ _; refine wpList_load_want (by kernel_rfl) 23 _ rfl _ rfl _ (by with_reducible exact l0) ?_)
        | (with_reducible show wpList _ _ _ (⟨some 59, Op.load 23 _, _, _, _, _⟩ :: _) _ _; refine wpList_load_want (by kernel_rfl) 23 _ rfl _ rfl _ (by with_reducible exact l4) ?_)
        | (with_reducible show wpList _ _ _ (⟨some 75, Op.load 23 _, _, _, _, _⟩ :: _) _ _; refine wpList_load_want (by kernel_rfl) 23 _ rfl _ rfl _ (by with_reducible exact l2) ?_)
        | (with_reducible show wpList _ _ _ (⟨some 78, Op.load 23 _, _, _, _, _⟩ :: _) _ _; refine wpList_load_want (by kernel_rfl) 23 _ rfl _ rfl _ (by with_reducible exact l1) ?_)
        | (with_reducible show wpList _ _ _ (⟨some 94, Op.load 23 _, _, _, _, _⟩ :: _) _ _; refine wpList_load_want (by kernel_rfl) 23 _ rfl _ rfl _ (by with_reducible exact l3) ?_)
        | (with_reducible show wpList _ _ _ (⟨some 98, Op.load 23 _, _, _, _, _⟩ :: _) _ _; refine wpList_load_want (by kernel_rfl) 23 _ rfl _ rfl _ (by with_reducible exact l2) ?_)
        | (with_reducible show wpList _ _ _ (⟨some 102, Op.load 23 _, _, _, _, _⟩ :: _) _ _; refine wpList_load_want (by kernel_rfl) 23 _ rfl _ rfl _ (by with_reducible exact l2) ?_)
        | (with_reducible show wpList _ _ _ (⟨some 104, Op.load 23 _, _, _, _, _⟩ :: _) _ _; refine wpList_load_want (by kernel_rfl) 23 _ rfl _ rfl _ (by with_reducible exact l3) ?_)
        | (with_reducible show wpList _ _ _ (⟨some 117, Op.load 23 _, _, _, _, _⟩ :: _) _ _; refine wpList_load_want (by kernel_rfl) 23 _ rfl _ rfl _ (by with_reducible exact l0) ?_)
        | (with_reducible show wpList _ _ _ (⟨some 118, Op.load 23 _, _, _, _, _⟩ :: _) _ _; refine wpList_load_want (by kernel_rfl) 23 _ rfl _ rfl _ (by with_reducible exact l4) ?_)
        | (with_reducible show wpList _ _ _ (⟨some 45, Op.load 35 _, _, _, _, _⟩ :: _) _ _; refine wpList_load_want (by kernel_rfl) 35 _ rfl _ rfl _ (by with_reducible exact l5) ?_)
        | fail)
      clear l0 l1 l2 l3 l4 l5 k0 k1 k2 k3 k4
      go_ret
      have hbel := K2.out.bel
      first | refine ⟨congrArg (fun z => Ending.returned (.bool z)) (?_ : _ = valid p m), hbel⟩ | (rw [hq] at hbel; refine ⟨congrArg (fun z => Ending.returned (.bool z)) (?_ : _ = valid p m), hbel⟩)
      rw [hv.out]; simp [none', tells, solicits, routes, asks, answers, redirects, questions, reports, h1, h2, hlk, hme]
    · skip
      have l0 := K1.out.lsrc
      have l1 := K1.out.ldst
      have l2 := K1.out.ltarget
      have l3 := K1.out.ldest
      have l4 := K1.out.lz
      have l5 := K1.out.lm
      have k0 := K1.out.kind
      have k1 := K1.out.code
      have k2 := K1.out.flags
      have k3 := K1.out.hops
      have k4 := K1.out.alert
      rw [hk] at k0
      go_wp2_with (first
        | (with_reducible show wpList _ _ _ (⟨some 34, Op.load 23 _, _, _, _, _⟩ :: _) _ _; refine wpList_load_want (by kernel_rfl) 23 _ rfl _ rfl _ (by with_reducible exact l0) ?_)
        | (with_reducible show wpList _ _ _ (⟨some 41, Op.load 23 _, _, _, _, _⟩ :: _) _ _; refine wpList_load_want (by kernel_rfl) 23 _ rfl _ rfl _ (by with_reducible exact l0) ?_)
        | (with_reducible show wpList _ _ _ (⟨some 42, Op.load 23 _, _, _, _, _⟩ :: _) _ _; refine wpList_load_want (by kernel_rfl) 23 _ rfl _ rfl _ (by with_reducible exact l4) ?_)
        | (with_reducible show wpList _ _ _ (⟨some 55, Op.load 23 _, _, _, _, _⟩ :: _) _ _; refine wpList_load_want (by kernel_rfl) 23 _ rfl _ rfl _ (by with_reducible exact l2) ?_)
        | (with_reducible show wpList _ _ _ (⟨some 58, Op.load 23 _, _, _, _, _⟩ :: _) _ _; refine wpList_load_want (by kernel_rfl) 23 _ rfl _ rfl _ (by with_reducible exact l0) ?_)
        | (with_reducible show wpList _ _ _ (⟨some 59, Op.load 23 _, _, _, _, _⟩ :: _) _ _; refine wpList_load_want (by kernel_rfl) 23 _ rfl _ rfl _ (by with_reducible exact l4) ?_)
        | (with_reducible show wpList _ _ _ (⟨some 75, Op.load 23 _, _, _, _, _⟩ :: _) _ _; refine wpList_load_want (by kernel_rfl) 23 _ rfl _ rfl _ (by with_reducible exact l2) ?_)
        | (with_reducible show wpList _ _ _ (⟨some 78, Op.load 23 _, _, _, _, _⟩ :: _) _ _; refine wpList_load_want (by kernel_rfl) 23 _ rfl _ rfl _ (by with_reducible exact l1) ?_)
        | (with_reducible show wpList _ _ _ (⟨some 94, Op.load 23 _, _, _, _, _⟩ :: _) _ _; refine wpList_load_want (by kernel_rfl) 23 _ rfl _ rfl _ (by with_reducible exact l3) ?_)
        | (with_reducible show wpList _ _ _ (⟨some 98, Op.load 23 _, _, _, _, _⟩ :: _) _ _; refine wpList_load_want (by kernel_rfl) 23 _ rfl _ rfl _ (by with_reducible exact l2) ?_)
        | (with_reducible show wpList _ _ _ (⟨some 102, Op.load 23 _, _, _, _, _⟩ :: _) _ _; refine wpList_load_want (by kernel_rfl) 23 _ rfl _ rfl _ (by with_reducible exact l2) ?_)
        | (with_reducible show wpList _ _ _ (⟨some 104, Op.load 23 _, _, _, _, _⟩ :: _) _ _; refine wpList_load_want (by kernel_rfl) 23 _ rfl _ rfl _ (by with_reducible exact l3) ?_)
        | (with_reducible show wpList _ _ _ (⟨some 117, Op.load 23 _, _, _, _, _⟩ :: _) _ _; refine wpList_load_want (by kernel_rfl) 23 _ rfl _ rfl _ (by with_reducible exact l0) ?_)
        | (with_reducible show wpList _ _ _ (⟨some 118, Op.load 23 _, _, _, _, _⟩ :: _) _ _; refine wpList_load_want (by kernel_rfl) 23 _ rfl _ rfl _ (by with_reducible exact l4) ?_)
        | (with_reducible show wpList _ _ _ (⟨some 45, Op.load 35 _, _, _, _, _⟩ :: _) _ _; refine wpList_load_want (by kernel_rfl) 35 _ rfl _ rfl _ (by with_reducible exact l5) ?_)
        | fail)
      refine (many_ref U1 m.dest hA3.out).mono ?_
      rintro r U2 ⟨rfl, bb⟩
      rw [hme]
      have K2 := hidd (K1.out.to bb)
      clear bb
      clear l0 l1 l2 l3 l4 l5 k0 k1 k2 k3 k4
      have hlt0 := Bool.eq_false_or_eq_true (isLink m.target)
      rcases hlt0 with hlt | hlt
      · skip
        have l0 := K2.out.lsrc
        have l1 := K2.out.ldst
        have l2 := K2.out.ltarget
        have l3 := K2.out.ldest
        have l4 := K2.out.lz
        have l5 := K2.out.lm
        have k0 := K2.out.kind
        have k1 := K2.out.code
        have k2 := K2.out.flags
        have k3 := K2.out.hops
        have k4 := K2.out.alert
        rw [hk] at k0
        go_wp2_with (first
          | (with_reducible show wpList _ _ _ (⟨some 34, Op.load 23 _, _, _, _, _⟩ :: _) _ _; refine wpList_load_want (by kernel_rfl) 23 _ rfl _ rfl _ (by with_reducible exact l0) ?_)
          | (with_reducible show wpList _ _ _ (⟨some 41, Op.load 23 _, _, _, _, _⟩ :: _) _ _; refine wpList_load_want (by kernel_rfl) 23 _ rfl _ rfl _ (by with_reducible exact l0) ?_)
          | (with_reducible show wpList _ _ _ (⟨some 42, Op.load 23 _, _, _, _, _⟩ :: _) _ _; refine wpList_load_want (by kernel_rfl) 23 _ rfl _ rfl _ (by with_reducible exact l4) ?_)
          | (with_reducible show wpList _ _ _ (⟨some 55, Op.load 23 _, _, _, _, _⟩ :: _) _ _; refine wpList_load_want (by kernel_rfl) 23 _ rfl _ rfl _ (by with_reducible exact l2) ?_)
          | (with_reducible show wpList _ _ _ (⟨some 58, Op.load 23 _, _, _, _, _⟩ :: _) _ _; refine wpList_load_want (by kernel_rfl) 23 _ rfl _ rfl _ (by with_reducible exact l0) ?_)
          | (with_reducible show wpList _ _ _ (⟨some 59, Op.load 23 _, _, _, _, _⟩ :: _) _ _; refine wpList_load_want (by kernel_rfl) 23 _ rfl _ rfl _ (by with_reducible exact l4) ?_)
          | (with_reducible show wpList _ _ _ (⟨some 75, Op.load 23 _, _, _, _, _⟩ :: _) _ _; refine wpList_load_want (by kernel_rfl) 23 _ rfl _ rfl _ (by with_reducible exact l2) ?_)
          | (with_reducible show wpList _ _ _ (⟨some 78, Op.load 23 _, _, _, _, _⟩ :: _) _ _; refine wpList_load_want (by kernel_rfl) 23 _ rfl _ rfl _ (by with_reducible exact l1) ?_)
          | (with_reducible show wpList _ _ _ (⟨some 94, Op.load 23 _, _, _, _, _⟩ :: _) _ _; refine wpList_load_want (by kernel_rfl) 23 _ rfl _ rfl _ (by with_reducible exact l3) ?_)
          | (with_reducible show wpList _ _ _ (⟨some 98, Op.load 23 _, _, _, _, _⟩ :: _) _ _; refine wpList_load_want (by kernel_rfl) 23 _ rfl _ rfl _ (by with_reducible exact l2) ?_)
          | (with_reducible show wpList _ _ _ (⟨some 102, Op.load 23 _, _, _, _, _⟩ :: _) _ _; refine wpList_load_want (by kernel_rfl) 23 _ rfl _ rfl _ (by with_reducible exact l2) ?_)
          | (with_reducible show wpList _ _ _ (⟨some 104, Op.load 23 _, _, _, _, _⟩ :: _) _ _; refine wpList_load_want (by kernel_rfl) 23 _ rfl _ rfl _ (by with_reducible exact l3) ?_)
          | (with_reducible show wpList _ _ _ (⟨some 117, Op.load 23 _, _, _, _, _⟩ :: _) _ _; refine wpList_load_want (by kernel_rfl) 23 _ rfl _ rfl _ (by with_reducible exact l0) ?_)
          | (with_reducible show wpList _ _ _ (⟨some 118, Op.load 23 _, _, _, _, _⟩ :: _) _ _; refine wpList_load_want (by kernel_rfl) 23 _ rfl _ rfl _ (by with_reducible exact l4) ?_)
          | (with_reducible show wpList _ _ _ (⟨some 45, Op.load 35 _, _, _, _, _⟩ :: _) _ _; refine wpList_load_want (by kernel_rfl) 35 _ rfl _ rfl _ (by with_reducible exact l5) ?_)
          | fail)
        refine (link_ref U2 m.target hA2.out).mono ?_
        rintro r U3 ⟨rfl, bb⟩
        rw [hlt]
        have K3 := hidd (K2.out.to bb)
        clear bb
        clear l0 l1 l2 l3 l4 l5 k0 k1 k2 k3 k4
        have l0 := K3.out.lsrc
        have l1 := K3.out.ldst
        have l2 := K3.out.ltarget
        have l3 := K3.out.ldest
        have l4 := K3.out.lz
        have l5 := K3.out.lm
        have k0 := K3.out.kind
        have k1 := K3.out.code
        have k2 := K3.out.flags
        have k3 := K3.out.hops
        have k4 := K3.out.alert
        rw [hk] at k0
        go_wp2_with (first
          | (with_reducible show wpList _ _ _ (⟨some 34, Op.load 23 _, _, _, _, _⟩ :: _) _ _; refine wpList_load_want (by kernel_rfl) 23 _ rfl _ rfl _ (by with_reducible exact l0) ?_)
          | (with_reducible show wpList _ _ _ (⟨some 41, Op.load 23 _, _, _, _, _⟩ :: _) _ _; refine wpList_load_want (by kernel_rfl) 23 _ rfl _ rfl _ (by with_reducible exact l0) ?_)
          | (with_reducible show wpList _ _ _ (⟨some 42, Op.load 23 _, _, _, _, _⟩ :: _) _ _; refine wpList_load_want (by kernel_rfl) 23 _ rfl _ rfl _ (by with_reducible exact l4) ?_)
          | (with_reducible show wpList _ _ _ (⟨some 55, Op.load 23 _, _, _, _, _⟩ :: _) _ _; refine wpList_load_want (by kernel_rfl) 23 _ rfl _ rfl _ (by with_reducible exact l2) ?_)
          | (with_reducible show wpList _ _ _ (⟨some 58, Op.load 23 _, _, _, _, _⟩ :: _) _ _; refine wpList_load_want (by kernel_rfl) 23 _ rfl _ rfl _ (by with_reducible exact l0) ?_)
          | (with_reducible show wpList _ _ _ (⟨some 59, Op.load 23 _, _, _, _, _⟩ :: _) _ _; refine wpList_load_want (by kernel_rfl) 23 _ rfl _ rfl _ (by with_reducible exact l4) ?_)
          | (with_reducible show wpList _ _ _ (⟨some 75, Op.load 23 _, _, _, _, _⟩ :: _) _ _; refine wpList_load_want (by kernel_rfl) 23 _ rfl _ rfl _ (by with_reducible exact l2) ?_)
          | (with_reducible show wpList _ _ _ (⟨some 78, Op.load 23 _, _, _, _, _⟩ :: _) _ _; refine wpList_load_want (by kernel_rfl) 23 _ rfl _ rfl _ (by with_reducible exact l1) ?_)
          | (with_reducible show wpList _ _ _ (⟨some 94, Op.load 23 _, _, _, _, _⟩ :: _) _ _; refine wpList_load_want (by kernel_rfl) 23 _ rfl _ rfl _ (by with_reducible exact l3) ?_)
          | (with_reducible show wpList _ _ _ (⟨some 98, Op.load 23 _, _, _, _, _⟩ :: _) _ _; refine wpList_load_want (by kernel_rfl) 23 _ rfl _ rfl _ (by with_reducible exact l2) ?_)
          | (with_reducible show wpList _ _ _ (⟨some 117, Op.load 23 _, _, _, _, _⟩ :: _) _ _; refine wpList_load_want (by kernel_rfl) 23 _ rfl _ rfl _ (by with_reducible exact l0) ?_)
          | (with_reducible show wpList _ _ _ (⟨some 118, Op.load 23 _, _, _, _, _⟩ :: _) _ _; refine wpList_load_want (by kernel_rfl) 23 _ rfl _ rfl _ (by with_reducible exact l4) ?_)
          | (with_reducible show wpList _ _ _ (⟨some 45, Op.load 35 _, _, _, _, _⟩ :: _) _ _; refine wpList_load_want (by kernel_rfl) 35 _ rfl _ rfl _ (by with_reducible exact l5) ?_)
          | fail)
        clear l0 l1 l2 l3 l4 l5 k0 k1 k2 k3 k4
        go_ret
        have hbel := K3.out.bel
        first | refine ⟨congrArg (fun z => Ending.returned (.bool z)) (?_ : _ = valid p m), hbel⟩ | (rw [hq] at hbel; refine ⟨congrArg (fun z => Ending.returned (.bool z)) (?_ : _ = valid p m), hbel⟩)
        rw [hv.out]; simp [none', tells, solicits, routes, asks, answers, redirects, questions, reports, h1, h2, hlk, hme, hlt]
      · skip
        have htd0 := Bool.eq_false_or_eq_true (m.target == m.dest)
        rcases htd0 with htd | htd
        · skip
          have et := fun V => (eqA V hA2.out hA3.out).trans (by rw [htd])
          have l0 := K2.out.lsrc
          have l1 := K2.out.ldst
          have l2 := K2.out.ltarget
          have l3 := K2.out.ldest
          have l4 := K2.out.lz
          have l5 := K2.out.lm
          have k0 := K2.out.kind
          have k1 := K2.out.code
          have k2 := K2.out.flags
          have k3 := K2.out.hops
          have k4 := K2.out.alert
          rw [hk] at k0
          go_wp2_with (first
            | (with_reducible show wpList _ _ _ (⟨some 34, Op.load 23 _, _, _, _, _⟩ :: _) _ _; refine wpList_load_want (by kernel_rfl) 23 _ rfl _ rfl _ (by with_reducible exact l0) ?_)
            | (with_reducible show wpList _ _ _ (⟨some 41, Op.load 23 _, _, _, _, _⟩ :: _) _ _; refine wpList_load_want (by kernel_rfl) 23 _ rfl _ rfl _ (by with_reducible exact l0) ?_)
            | (with_reducible show wpList _ _ _ (⟨some 42, Op.load 23 _, _, _, _, _⟩ :: _) _ _; refine wpList_load_want (by kernel_rfl) 23 _ rfl _ rfl _ (by with_reducible exact l4) ?_)
            | (with_reducible show wpList _ _ _ (⟨some 55, Op.load 23 _, _, _, _, _⟩ :: _) _ _; refine wpList_load_want (by kernel_rfl) 23 _ rfl _ rfl _ (by with_reducible exact l2) ?_)
            | (with_reducible show wpList _ _ _ (⟨some 58, Op.load 23 _, _, _, _, _⟩ :: _) _ _; refine wpList_load_want (by kernel_rfl) 23 _ rfl _ rfl _ (by with_reducible exact l0) ?_)
            | (with_reducible show wpList _ _ _ (⟨some 59, Op.load 23 _, _, _, _, _⟩ :: _) _ _; refine wpList_load_want (by kernel_rfl) 23 _ rfl _ rfl _ (by with_reducible exact l4) ?_)
            | (with_reducible show wpList _ _ _ (⟨some 75, Op.load 23 _, _, _, _, _⟩ :: _) _ _; refine wpList_load_want (by kernel_rfl) 23 _ rfl _ rfl _ (by with_reducible exact l2) ?_)
            | (with_reducible show wpList _ _ _ (⟨some 78, Op.load 23 _, _, _, _, _⟩ :: _) _ _; refine wpList_load_want (by kernel_rfl) 23 _ rfl _ rfl _ (by with_reducible exact l1) ?_)
            | (with_reducible show wpList _ _ _ (⟨some 94, Op.load 23 _, _, _, _, _⟩ :: _) _ _; refine wpList_load_want (by kernel_rfl) 23 _ rfl _ rfl _ (by with_reducible exact l3) ?_)
            | (with_reducible show wpList _ _ _ (⟨some 98, Op.load 23 _, _, _, _, _⟩ :: _) _ _; refine wpList_load_want (by kernel_rfl) 23 _ rfl _ rfl _ (by with_reducible exact l2) ?_)
            | (with_reducible show wpList _ _ _ (⟨some 102, Op.load 23 _, _, _, _, _⟩ :: _) _ _; refine wpList_load_want (by kernel_rfl) 23 _ rfl _ rfl _ (by with_reducible exact l2) ?_)
            | (with_reducible show wpList _ _ _ (⟨some 104, Op.load 23 _, _, _, _, _⟩ :: _) _ _; refine wpList_load_want (by kernel_rfl) 23 _ rfl _ rfl _ (by with_reducible exact l3) ?_)
            | (with_reducible show wpList _ _ _ (⟨some 117, Op.load 23 _, _, _, _, _⟩ :: _) _ _; refine wpList_load_want (by kernel_rfl) 23 _ rfl _ rfl _ (by with_reducible exact l0) ?_)
            | (with_reducible show wpList _ _ _ (⟨some 118, Op.load 23 _, _, _, _, _⟩ :: _) _ _; refine wpList_load_want (by kernel_rfl) 23 _ rfl _ rfl _ (by with_reducible exact l4) ?_)
            | (with_reducible show wpList _ _ _ (⟨some 45, Op.load 35 _, _, _, _, _⟩ :: _) _ _; refine wpList_load_want (by kernel_rfl) 35 _ rfl _ rfl _ (by with_reducible exact l5) ?_)
            | fail)
          refine (link_ref U2 m.target hA2.out).mono ?_
          rintro r U3 ⟨rfl, bb⟩
          rw [hlt]
          have K3 := hidd (K2.out.to bb)
          clear bb
          clear l0 l1 l2 l3 l4 l5 k0 k1 k2 k3 k4
          have l0 := K3.out.lsrc
          have l1 := K3.out.ldst
          have l2 := K3.out.ltarget
          have l3 := K3.out.ldest
          have l4 := K3.out.lz
          have l5 := K3.out.lm
          have k0 := K3.out.kind
          have k1 := K3.out.code
          have k2 := K3.out.flags
          have k3 := K3.out.hops
          have k4 := K3.out.alert
          rw [hk] at k0
          go_wp2_with (first
            | (with_reducible show wpList _ _ _ (⟨some 34, Op.load 23 _, _, _, _, _⟩ :: _) _ _; refine wpList_load_want (by kernel_rfl) 23 _ rfl _ rfl _ (by with_reducible exact l0) ?_)
            | (with_reducible show wpList _ _ _ (⟨some 41, Op.load 23 _, _, _, _, _⟩ :: _) _ _; refine wpList_load_want (by kernel_rfl) 23 _ rfl _ rfl _ (by with_reducible exact l0) ?_)
            | (with_reducible show wpList _ _ _ (⟨some 42, Op.load 23 _, _, _, _, _⟩ :: _) _ _; refine wpList_load_want (by kernel_rfl) 23 _ rfl _ rfl _ (by with_reducible exact l4) ?_)
            | (with_reducible show wpList _ _ _ (⟨some 55, Op.load 23 _, _, _, _, _⟩ :: _) _ _; refine wpList_load_want (by kernel_rfl) 23 _ rfl _ rfl _ (by with_reducible exact l2) ?_)
            | (with_reducible show wpList _ _ _ (⟨some 58, Op.load 23 _, _, _, _, _⟩ :: _) _ _; refine wpList_load_want (by kernel_rfl) 23 _ rfl _ rfl _ (by with_reducible exact l0) ?_)
            | (with_reducible show wpList _ _ _ (⟨some 59, Op.load 23 _, _, _, _, _⟩ :: _) _ _; refine wpList_load_want (by kernel_rfl) 23 _ rfl _ rfl _ (by with_reducible exact l4) ?_)
            | (with_reducible show wpList _ _ _ (⟨some 75, Op.load 23 _, _, _, _, _⟩ :: _) _ _; refine wpList_load_want (by kernel_rfl) 23 _ rfl _ rfl _ (by with_reducible exact l2) ?_)
            | (with_reducible show wpList _ _ _ (⟨some 78, Op.load 23 _, _, _, _, _⟩ :: _) _ _; refine wpList_load_want (by kernel_rfl) 23 _ rfl _ rfl _ (by with_reducible exact l1) ?_)
            | (with_reducible show wpList _ _ _ (⟨some 94, Op.load 23 _, _, _, _, _⟩ :: _) _ _; refine wpList_load_want (by kernel_rfl) 23 _ rfl _ rfl _ (by with_reducible exact l3) ?_)
            | (with_reducible show wpList _ _ _ (⟨some 98, Op.load 23 _, _, _, _, _⟩ :: _) _ _; refine wpList_load_want (by kernel_rfl) 23 _ rfl _ rfl _ (by with_reducible exact l2) ?_)
            | (with_reducible show wpList _ _ _ (⟨some 102, Op.load 23 _, _, _, _, _⟩ :: _) _ _; refine wpList_load_want (by kernel_rfl) 23 _ rfl _ rfl _ (by with_reducible exact l2) ?_)
            | (with_reducible show wpList _ _ _ (⟨some 104, Op.load 23 _, _, _, _, _⟩ :: _) _ _; refine wpList_load_want (by kernel_rfl) 23 _ rfl _ rfl _ (by with_reducible exact l3) ?_)
            | (with_reducible show wpList _ _ _ (⟨some 117, Op.load 23 _, _, _, _, _⟩ :: _) _ _; refine wpList_load_want (by kernel_rfl) 23 _ rfl _ rfl _ (by with_reducible exact l0) ?_)
            | (with_reducible show wpList _ _ _ (⟨some 118, Op.load 23 _, _, _, _, _⟩ :: _) _ _; refine wpList_load_want (by kernel_rfl) 23 _ rfl _ rfl _ (by with_reducible exact l4) ?_)
            | (with_reducible show wpList _ _ _ (⟨some 45, Op.load 35 _, _, _, _, _⟩ :: _) _ _; refine wpList_load_want (by kernel_rfl) 35 _ rfl _ rfl _ (by with_reducible exact l5) ?_)
            | fail)
          clear l0 l1 l2 l3 l4 l5 k0 k1 k2 k3 k4
          go_ret
          have hbel := K3.out.bel
          first | refine ⟨congrArg (fun z => Ending.returned (.bool z)) (?_ : _ = valid p m), hbel⟩ | (rw [hq] at hbel; refine ⟨congrArg (fun z => Ending.returned (.bool z)) (?_ : _ = valid p m), hbel⟩)
          rw [hv.out]; simp [none', tells, solicits, routes, asks, answers, redirects, questions, reports, h1, h2, hlk, hme, hlt, htd]
        · skip
          have et := fun V => (eqA V hA2.out hA3.out).trans (by rw [htd])
          have l0 := K2.out.lsrc
          have l1 := K2.out.ldst
          have l2 := K2.out.ltarget
          have l3 := K2.out.ldest
          have l4 := K2.out.lz
          have l5 := K2.out.lm
          have k0 := K2.out.kind
          have k1 := K2.out.code
          have k2 := K2.out.flags
          have k3 := K2.out.hops
          have k4 := K2.out.alert
          rw [hk] at k0
          go_wp2_with (first
            | (with_reducible show wpList _ _ _ (⟨some 34, Op.load 23 _, _, _, _, _⟩ :: _) _ _; refine wpList_load_want (by kernel_rfl) 23 _ rfl _ rfl _ (by with_reducible exact l0) ?_)
            | (with_reducible show wpList _ _ _ (⟨some 41, Op.load 23 _, _, _, _, _⟩ :: _) _ _; refine wpList_load_want (by kernel_rfl) 23 _ rfl _ rfl _ (by with_reducible exact l0) ?_)
            | (with_reducible show wpList _ _ _ (⟨some 42, Op.load 23 _, _, _, _, _⟩ :: _) _ _; refine wpList_load_want (by kernel_rfl) 23 _ rfl _ rfl _ (by with_reducible exact l4) ?_)
            | (with_reducible show wpList _ _ _ (⟨some 55, Op.load 23 _, _, _, _, _⟩ :: _) _ _; refine wpList_load_want (by kernel_rfl) 23 _ rfl _ rfl _ (by with_reducible exact l2) ?_)
            | (with_reducible show wpList _ _ _ (⟨some 58, Op.load 23 _, _, _, _, _⟩ :: _) _ _; refine wpList_load_want (by kernel_rfl) 23 _ rfl _ rfl _ (by with_reducible exact l0) ?_)
            | (with_reducible show wpList _ _ _ (⟨some 59, Op.load 23 _, _, _, _, _⟩ :: _) _ _; refine wpList_load_want (by kernel_rfl) 23 _ rfl _ rfl _ (by with_reducible exact l4) ?_)
            | (with_reducible show wpList _ _ _ (⟨some 75, Op.load 23 _, _, _, _, _⟩ :: _) _ _; refine wpList_load_want (by kernel_rfl) 23 _ rfl _ rfl _ (by with_reducible exact l2) ?_)
            | (with_reducible show wpList _ _ _ (⟨some 78, Op.load 23 _, _, _, _, _⟩ :: _) _ _; refine wpList_load_want (by kernel_rfl) 23 _ rfl _ rfl _ (by with_reducible exact l1) ?_)
            | (with_reducible show wpList _ _ _ (⟨some 94, Op.load 23 _, _, _, _, _⟩ :: _) _ _; refine wpList_load_want (by kernel_rfl) 23 _ rfl _ rfl _ (by with_reducible exact l3) ?_)
            | (with_reducible show wpList _ _ _ (⟨some 98, Op.load 23 _, _, _, _, _⟩ :: _) _ _; refine wpList_load_want (by kernel_rfl) 23 _ rfl _ rfl _ (by with_reducible exact l2) ?_)
            | (with_reducible show wpList _ _ _ (⟨some 102, Op.load 23 _, _, _, _, _⟩ :: _) _ _; refine wpList_load_want (by kernel_rfl) 23 _ rfl _ rfl _ (by with_reducible exact l2) ?_)
            | (with_reducible show wpList _ _ _ (⟨some 104, Op.load 23 _, _, _, _, _⟩ :: _) _ _; refine wpList_load_want (by kernel_rfl) 23 _ rfl _ rfl _ (by with_reducible exact l3) ?_)
            | (with_reducible show wpList _ _ _ (⟨some 117, Op.load 23 _, _, _, _, _⟩ :: _) _ _; refine wpList_load_want (by kernel_rfl) 23 _ rfl _ rfl _ (by with_reducible exact l0) ?_)
            | (with_reducible show wpList _ _ _ (⟨some 118, Op.load 23 _, _, _, _, _⟩ :: _) _ _; refine wpList_load_want (by kernel_rfl) 23 _ rfl _ rfl _ (by with_reducible exact l4) ?_)
            | (with_reducible show wpList _ _ _ (⟨some 45, Op.load 35 _, _, _, _, _⟩ :: _) _ _; refine wpList_load_want (by kernel_rfl) 35 _ rfl _ rfl _ (by with_reducible exact l5) ?_)
            | fail)
          refine (link_ref U2 m.target hA2.out).mono ?_
          rintro r U3 ⟨rfl, bb⟩
          rw [hlt]
          have K3 := hidd (K2.out.to bb)
          clear bb
          clear l0 l1 l2 l3 l4 l5 k0 k1 k2 k3 k4
          have l0 := K3.out.lsrc
          have l1 := K3.out.ldst
          have l2 := K3.out.ltarget
          have l3 := K3.out.ldest
          have l4 := K3.out.lz
          have l5 := K3.out.lm
          have k0 := K3.out.kind
          have k1 := K3.out.code
          have k2 := K3.out.flags
          have k3 := K3.out.hops
          have k4 := K3.out.alert
          rw [hk] at k0
          go_wp2_with (first
            | (with_reducible show wpList _ _ _ (⟨some 34, Op.load 23 _, _, _, _, _⟩ :: _) _ _; refine wpList_load_want (by kernel_rfl) 23 _ rfl _ rfl _ (by with_reducible exact l0) ?_)
            | (with_reducible show wpList _ _ _ (⟨some 41, Op.load 23 _, _, _, _, _⟩ :: _) _ _; refine wpList_load_want (by kernel_rfl) 23 _ rfl _ rfl _ (by with_reducible exact l0) ?_)
            | (with_reducible show wpList _ _ _ (⟨some 42, Op.load 23 _, _, _, _, _⟩ :: _) _ _; refine wpList_load_want (by kernel_rfl) 23 _ rfl _ rfl _ (by with_reducible exact l4) ?_)
            | (with_reducible show wpList _ _ _ (⟨some 55, Op.load 23 _, _, _, _, _⟩ :: _) _ _; refine wpList_load_want (by kernel_rfl) 23 _ rfl _ rfl _ (by with_reducible exact l2) ?_)
            | (with_reducible show wpList _ _ _ (⟨some 58, Op.load 23 _, _, _, _, _⟩ :: _) _ _; refine wpList_load_want (by kernel_rfl) 23 _ rfl _ rfl _ (by with_reducible exact l0) ?_)
            | (with_reducible show wpList _ _ _ (⟨some 59, Op.load 23 _, _, _, _, _⟩ :: _) _ _; refine wpList_load_want (by kernel_rfl) 23 _ rfl _ rfl _ (by with_reducible exact l4) ?_)
            | (with_reducible show wpList _ _ _ (⟨some 75, Op.load 23 _, _, _, _, _⟩ :: _) _ _; refine wpList_load_want (by kernel_rfl) 23 _ rfl _ rfl _ (by with_reducible exact l2) ?_)
            | (with_reducible show wpList _ _ _ (⟨some 78, Op.load 23 _, _, _, _, _⟩ :: _) _ _; refine wpList_load_want (by kernel_rfl) 23 _ rfl _ rfl _ (by with_reducible exact l1) ?_)
            | (with_reducible show wpList _ _ _ (⟨some 94, Op.load 23 _, _, _, _, _⟩ :: _) _ _; refine wpList_load_want (by kernel_rfl) 23 _ rfl _ rfl _ (by with_reducible exact l3) ?_)
            | (with_reducible show wpList _ _ _ (⟨some 98, Op.load 23 _, _, _, _, _⟩ :: _) _ _; refine wpList_load_want (by kernel_rfl) 23 _ rfl _ rfl _ (by with_reducible exact l2) ?_)
            | (with_reducible show wpList _ _ _ (⟨some 102, Op.load 23 _, _, _, _, _⟩ :: _) _ _; refine wpList_load_want (by kernel_rfl) 23 _ rfl _ rfl _ (by with_reducible exact l2) ?_)
            | (with_reducible show wpList _ _ _ (⟨some 104, Op.load 23 _, _, _, _, _⟩ :: _) _ _; refine wpList_load_want (by kernel_rfl) 23 _ rfl _ rfl _ (by with_reducible exact l3) ?_)
            | (with_reducible show wpList _ _ _ (⟨some 117, Op.load 23 _, _, _, _, _⟩ :: _) _ _; refine wpList_load_want (by kernel_rfl) 23 _ rfl _ rfl _ (by with_reducible exact l0) ?_)
            | (with_reducible show wpList _ _ _ (⟨some 118, Op.load 23 _, _, _, _, _⟩ :: _) _ _; refine wpList_load_want (by kernel_rfl) 23 _ rfl _ rfl _ (by with_reducible exact l4) ?_)
            | (with_reducible show wpList _ _ _ (⟨some 45, Op.load 35 _, _, _, _, _⟩ :: _) _ _; refine wpList_load_want (by kernel_rfl) 35 _ rfl _ rfl _ (by with_reducible exact l5) ?_)
            | fail)
          clear l0 l1 l2 l3 l4 l5 k0 k1 k2 k3 k4
          go_ret
          have hbel := K3.out.bel
          first | refine ⟨congrArg (fun z => Ending.returned (.bool z)) (?_ : _ = valid p m), hbel⟩ | (rw [hq] at hbel; refine ⟨congrArg (fun z => Ending.returned (.bool z)) (?_ : _ = valid p m), hbel⟩)
          rw [hv.out]; simp [none', tells, solicits, routes, asks, answers, redirects, questions, reports, h1, h2, hlk, hme, hlt, htd]
  · skip
    have l0 := K0.out.lsrc
    have l1 := K0.out.ldst
    have l2 := K0.out.ltarget
    have l3 := K0.out.ldest
    have l4 := K0.out.lz
    have l5 := K0.out.lm
    have k0 := K0.out.kind
    have k1 := K0.out.code
    have k2 := K0.out.flags
    have k3 := K0.out.hops
    have k4 := K0.out.alert
    rw [hk] at k0
    go_wp2_with (first
      | (with_reducible show wpList _ _ _ (⟨some 34, Op.load 23 _, _, _, _, _⟩ :: _) _ _; refine wpList_load_want (by kernel_rfl) 23 _ rfl _ rfl _ (by with_reducible exact l0) ?_)
      | (with_reducible show wpList _ _ _ (⟨some 41, Op.load 23 _, _, _, _, _⟩ :: _) _ _; refine wpList_load_want (by kernel_rfl) 23 _ rfl _ rfl _ (by with_reducible exact l0) ?_)
      | (with_reducible show wpList _ _ _ (⟨some 42, Op.load 23 _, _, _, _, _⟩ :: _) _ _; refine wpList_load_want (by kernel_rfl) 23 _ rfl _ rfl _ (by with_reducible exact l4) ?_)
      | (with_reducible show wpList _ _ _ (⟨some 55, Op.load 23 _, _, _, _, _⟩ :: _) _ _; refine wpList_load_want (by kernel_rfl) 23 _ rfl _ rfl _ (by with_reducible exact l2) ?_)
      | (with_reducible show wpList _ _ _ (⟨some 58, Op.load 23 _, _, _, _, _⟩ :: _) _ _; refine wpList_load_want (by kernel_rfl) 23 _ rfl _ rfl _ (by with_reducible exact l0) ?_)
      | (with_reducible show wpList _ _ _ (⟨some 59, Op.load 23 _, _, _, _, _⟩ :: _) _ _; refine wpList_load_want (by kernel_rfl) 23 _ rfl _ rfl _ (by with_reducible exact l4) ?_)
      | (with_reducible show wpList _ _ _ (⟨some 75, Op.load 23 _, _, _, _, _⟩ :: _) _ _; refine wpList_load_want (by kernel_rfl) 23 _ rfl _ rfl _ (by with_reducible exact l2) ?_)
      | (with_reducible show wpList _ _ _ (⟨some 78, Op.load 23 _, _, _, _, _⟩ :: _) _ _; refine wpList_load_want (by kernel_rfl) 23 _ rfl _ rfl _ (by with_reducible exact l1) ?_)
      | (with_reducible show wpList _ _ _ (⟨some 94, Op.load 23 _, _, _, _, _⟩ :: _) _ _; refine wpList_load_want (by kernel_rfl) 23 _ rfl _ rfl _ (by with_reducible exact l3) ?_)
      | (with_reducible show wpList _ _ _ (⟨some 98, Op.load 23 _, _, _, _, _⟩ :: _) _ _; refine wpList_load_want (by kernel_rfl) 23 _ rfl _ rfl _ (by with_reducible exact l2) ?_)
      | (with_reducible show wpList _ _ _ (⟨some 102, Op.load 23 _, _, _, _, _⟩ :: _) _ _; refine wpList_load_want (by kernel_rfl) 23 _ rfl _ rfl _ (by with_reducible exact l2) ?_)
      | (with_reducible show wpList _ _ _ (⟨some 104, Op.load 23 _, _, _, _, _⟩ :: _) _ _; refine wpList_load_want (by kernel_rfl) 23 _ rfl _ rfl _ (by with_reducible exact l3) ?_)
      | (with_reducible show wpList _ _ _ (⟨some 117, Op.load 23 _, _, _, _, _⟩ :: _) _ _; refine wpList_load_want (by kernel_rfl) 23 _ rfl _ rfl _ (by with_reducible exact l0) ?_)
      | (with_reducible show wpList _ _ _ (⟨some 118, Op.load 23 _, _, _, _, _⟩ :: _) _ _; refine wpList_load_want (by kernel_rfl) 23 _ rfl _ rfl _ (by with_reducible exact l4) ?_)
      | (with_reducible show wpList _ _ _ (⟨some 45, Op.load 35 _, _, _, _, _⟩ :: _) _ _; refine wpList_load_want (by kernel_rfl) 35 _ rfl _ rfl _ (by with_reducible exact l5) ?_)
      | fail)
    refine (link_ref V p.src hA0.out).mono ?_
    rintro r U1 ⟨rfl, bb⟩
    rw [hlk]
    have K1 := hidd (K0.out.to bb)
    clear bb
    clear l0 l1 l2 l3 l4 l5 k0 k1 k2 k3 k4
    have l0 := K1.out.lsrc
    have l1 := K1.out.ldst
    have l2 := K1.out.ltarget
    have l3 := K1.out.ldest
    have l4 := K1.out.lz
    have l5 := K1.out.lm
    have k0 := K1.out.kind
    have k1 := K1.out.code
    have k2 := K1.out.flags
    have k3 := K1.out.hops
    have k4 := K1.out.alert
    rw [hk] at k0
    go_wp2_with (first
      | (with_reducible show wpList _ _ _ (⟨some 34, Op.load 23 _, _, _, _, _⟩ :: _) _ _; refine wpList_load_want (by kernel_rfl) 23 _ rfl _ rfl _ (by with_reducible exact l0) ?_)
      | (with_reducible show wpList _ _ _ (⟨some 41, Op.load 23 _, _, _, _, _⟩ :: _) _ _; refine wpList_load_want (by kernel_rfl) 23 _ rfl _ rfl _ (by with_reducible exact l0) ?_)
      | (with_reducible show wpList _ _ _ (⟨some 42, Op.load 23 _, _, _, _, _⟩ :: _) _ _; refine wpList_load_want (by kernel_rfl) 23 _ rfl _ rfl _ (by with_reducible exact l4) ?_)
      | (with_reducible show wpList _ _ _ (⟨some 55, Op.load 23 _, _, _, _, _⟩ :: _) _ _; refine wpList_load_want (by kernel_rfl) 23 _ rfl _ rfl _ (by with_reducible exact l2) ?_)
      | (with_reducible show wpList _ _ _ (⟨some 58, Op.load 23 _, _, _, _, _⟩ :: _) _ _; refine wpList_load_want (by kernel_rfl) 23 _ rfl _ rfl _ (by with_reducible exact l0) ?_)
      | (with_reducible show wpList _ _ _ (⟨some 59, Op.load 23 _, _, _, _, _⟩ :: _) _ _; refine wpList_load_want (by kernel_rfl) 23 _ rfl _ rfl _ (by with_reducible exact l4) ?_)
      | (with_reducible show wpList _ _ _ (⟨some 75, Op.load 23 _, _, _, _, _⟩ :: _) _ _; refine wpList_load_want (by kernel_rfl) 23 _ rfl _ rfl _ (by with_reducible exact l2) ?_)
      | (with_reducible show wpList _ _ _ (⟨some 78, Op.load 23 _, _, _, _, _⟩ :: _) _ _; refine wpList_load_want (by kernel_rfl) 23 _ rfl _ rfl _ (by with_reducible exact l1) ?_)
      | (with_reducible show wpList _ _ _ (⟨some 98, Op.load 23 _, _, _, _, _⟩ :: _) _ _; refine wpList_load_want (by kernel_rfl) 23 _ rfl _ rfl _ (by with_reducible exact l2) ?_)
      | (with_reducible show wpList _ _ _ (⟨some 102, Op.load 23 _, _, _, _, _⟩ :: _) _ _; refine wpList_load_want (by kernel_rfl) 23 _ rfl _ rfl _ (by with_reducible exact l2) ?_)
      | (with_reducible show wpList _ _ _ (⟨some 104, Op.load 23 _, _, _, _, _⟩ :: _) _ _; refine wpList_load_want (by kernel_rfl) 23 _ rfl _ rfl _ (by with_reducible exact l3) ?_)
      | (with_reducible show wpList _ _ _ (⟨some 117, Op.load 23 _, _, _, _, _⟩ :: _) _ _; refine wpList_load_want (by kernel_rfl) 23 _ rfl _ rfl _ (by with_reducible exact l0) ?_)
      | (with_reducible show wpList _ _ _ (⟨some 118, Op.load 23 _, _, _, _, _⟩ :: _) _ _; refine wpList_load_want (by kernel_rfl) 23 _ rfl _ rfl _ (by with_reducible exact l4) ?_)
      | (with_reducible show wpList _ _ _ (⟨some 45, Op.load 35 _, _, _, _, _⟩ :: _) _ _; refine wpList_load_want (by kernel_rfl) 35 _ rfl _ rfl _ (by with_reducible exact l5) ?_)
      | fail)
    clear l0 l1 l2 l3 l4 l5 k0 k1 k2 k3 k4
    go_ret
    have hbel := K1.out.bel
    first | refine ⟨congrArg (fun z => Ending.returned (.bool z)) (?_ : _ = valid p m), hbel⟩ | (rw [hq] at hbel; refine ⟨congrArg (fun z => Ending.returned (.bool z)) (?_ : _ = valid p m), hbel⟩)
    rw [hv.out]; simp [none', tells, solicits, routes, asks, answers, redirects, questions, reports, h1, h2, hlk]
end Go.Proofs.YtlckfnfmekgnkaaDoor
