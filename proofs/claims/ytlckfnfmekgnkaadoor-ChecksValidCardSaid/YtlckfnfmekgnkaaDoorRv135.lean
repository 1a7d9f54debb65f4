/- The document's answer: whether a message counts in a packet. No condition but that the table lies where it was laid. -/
import Derived.Test.YtlckfnfmekgnkaaDoorRv
namespace Go.Proofs.YtlckfnfmekgnkaaDoor
open Go.ChangeShapes Go.WideShapes Go.ChangeAt Go.RowKit Go.Deep
set_option linter.unusedVariables false
set_option linter.unusedSimpArgs false

set_option maxRecDepth 100000 in
set_option maxHeartbeats 8000000 in
theorem ref135 (w : World) {cs ms : Array Value} {p : Pk} {m : Ms} (hp : IsPk cs p) (hm : IsMs w w.heap.size ms m) (hk : m.kind = 135) : Calls Tryd.prog 12 #[.agg cs, .agg ms] w fun e w' => e = .returned (.bool (valid p m)) ∧ Below w.heap.size w w' := by
  have hv := hidd (show valid p m = (p.hops == 255 && m.code == 0 && asks p m) by simp [valid, rule, hk])
  have hA0 := hidd hp.srcA
  have hA1 := hidd hp.dstA
  have hA2 := hidd hm.targetA
  have hA3 := hidd hm.destA
  have hfr := hidd hm.fr
  have hz := zero23
  have g1 := guard23
  obtain ⟨V, q, hV, hq, k⟩ := rs0 w hp hm
  have K0 := hidd k
  clear hp hm k
  go_enter Tryd.func12, Tryd.ntmps12
  by_cases h1 : p.hops = 255
  rotate_left
  · have n1 : (p.hops != 255) = true := by simpa using h1
    have l0 := K0.out.lsrc
    have l1 := K0.out.ldst
    have l2 := K0.out.ltarget
    have l3 := K0.out.ldest
    have l4 := K0.out.lz
    have l5 := K0.out.lm
    have k0 := K0.out.kind
    have k1 := K0.out.code
    have k2 := K0.out.flags
    have k3 := K0.out.hops
    have k4 := K0.out.alert
    rw [hk] at k0
    go_wp2
    clear l0 l1 l2 l3 l4 l5 k0 k1 k2 k3 k4
    go_ret
    have hbel := K0.out.bel
    first | refine ⟨congrArg (fun z => Ending.returned (.bool z)) (?_ : _ = valid p m), hbel⟩ | (rw [hq] at hbel; refine ⟨congrArg (fun z => Ending.returned (.bool z)) (?_ : _ = valid p m), hbel⟩)
    rw [hv.out]; simp [none', tells, solicits, routes, asks, answers, redirects, questions, reports, h1]
  have n1 : (p.hops != 255) = false := by simpa using h1
  by_cases h2 : m.code = 0
  rotate_left
  · have n2 : (m.code != 0) = true := by simpa using h2
    have l0 := K0.out.lsrc
    have l1 := K0.out.ldst
    have l2 := K0.out.ltarget
    have l3 := K0.out.ldest
    have l4 := K0.out.lz
    have l5 := K0.out.lm
    have k0 := K0.out.kind
    have k1 := K0.out.code
    have k2 := K0.out.flags
    have k3 := K0.out.hops
    have k4 := K0.out.alert
    rw [hk] at k0
    go_wp2
    clear l0 l1 l2 l3 l4 l5 k0 k1 k2 k3 k4
    go_ret
    have hbel := K0.out.bel
    first | refine ⟨congrArg (fun z => Ending.returned (.bool z)) (?_ : _ = valid p m), hbel⟩ | (rw [hq] at hbel; refine ⟨congrArg (fun z => Ending.returned (.bool z)) (?_ : _ = valid p m), hbel⟩)
    rw [hv.out]; simp [none', tells, solicits, routes, asks, answers, redirects, questions, reports, h1, h2]
  have n2 : (m.code != 0) = false := by simpa using h2
  have hlk0 := Bool.eq_false_or_eq_true (isLink p.src)
  rcases hlk0 with hlk | hlk
  · skip
    have l0 := K0.out.lsrc
    have l1 := K0.out.ldst
    have l2 := K0.out.ltarget
    have l3 := K0.out.ldest
    have l4 := K0.out.lz
    have l5 := K0.out.lm
    have k0 := K0.out.kind
    have k1 := K0.out.code
    have k2 := K0.out.flags
    have k3 := K0.out.hops
    have k4 := K0.out.alert
    rw [hk] at k0
    go_wp2_with (first
      | (with_reducible show wpList _ _ _ (⟨some 34, Op.load 23 _, _, _, _, _⟩ :: _) _ _; refine wpList_load_want (by kernel_rfl) 23 _ rfl _ rfl _ (by with_reducible exact l0) ?_)
      | (with_reducible show wpList _ _ _ (⟨some 41, Op.load 23 _, _, _, _, _⟩ :: _) _ _; refine wpList_load_want (by kernel_rfl) 23 _ rfl _ rfl _ (by with_reducible exact l0) ?_)
      | (with_reducible show wpList _ _ _ (⟨some 42, Op.load 23 _, _, _, _, _⟩ :: _) _ _; refine wpList_load_want (by kernel_rfl) 23 _ rfl _ rfl _ (by with_reducible exact l4) ?_)
      | (with_reducible show wpList _ _ _ (⟨some 55, Op.load 23 _, _, _, _, _⟩ :: _) _ _; refine wpList_load_want (by kernel_rfl) 23 _ rfl _ rfl _ (by with_reducible exact l2) ?_)
      | (with_reducible show wpList _ _ _ (⟨some 58, Op.load 23 _, _, _, _, _⟩ :: _) _ _; refine wpList_load_want (by kernel_rfl) 23 _ rfl _ rfl _ (by with_reducible exact l0) ?_)
      | (with_reducible show wpList _ _ _ (⟨some 59, Op.load 23 _, _, _, _, _⟩ :: _) _ _; refine wpList_load_want (by kernel_rfl) 23 _ rfl _ rfl _ (by with_reducible exact l4) ?_)
      | (with_reducible show wpList _ _ _ (⟨some 75, Op.load 23 _, _, _, _, _⟩ :: _) _ _; refine wpList_load_want (by kernel_rfl) 23 _ rfl _ rfl _ (by with_reducible exact l2) ?_)
      | (with_reducible show wpList _ _ _ (⟨some 78, Op.load 23 _, _, _, _, _⟩ :: _) _ _; refine wpList_load_want (by kernel_rfl) 23 _ rfl _ rfl _ (by with_reducible exact l1) ?_)
      | (with_reducible show wpList _ _ _ (⟨some 94, Op.load 23 _, _, _, _, _⟩ :: _) _ _; refine wpList_load_want (by kernel_rfl) 23 _ rfl _ rfl _ (by with_reducible exact l3) ?_)
      | (with_reducible show wpList _ _ _ (⟨some 98, Op.load 23 _, _, _, _, _⟩ :: _) _ _; refine wpList_load_want (by kernel_rfl) 23 _ rfl _ rfl _ (by with_reducible exact l2) ?_)
      | (with_reducible show wpList _ _ _ (⟨some 102, Op.load 23 _, _, _, _, _⟩ :: _) _ _; refine wpList_load_want (by kernel_rfl) 23 _ rfl _ rfl _ (by with_reducible exact l2) ?_)
      | (with_reducible show wpList _ _ _ (⟨some 104, Op.load 23 _, _, _, _, _⟩ :: _) _ _; refine wpList_load_want (by kernel_rfl) 23 _ rfl _ rfl _ (by with_reducible exact l3) ?_)
      | (with_reducible show wpList _ _ _ (⟨some 117, Op.load 23 _, _, _, _, _⟩ :: _) _ _; refine wpList_load_want (by kernel_rfl) 23 _ rfl _ rfl _ (by with_reducible exact l0) ?_)
      | (with_reducible show wpList _ _ _ (⟨some 118, Op.load 23 _, _, _, _, _⟩ :: _) _ _; refine wpList_load_want (by kernel_rfl) 23 _ rfl _ rfl _ (by with_reducible exact l4) ?_)
      | (with_reducible show wpList _ _ _ (⟨some 45, Op.load 35 _, _, _, _, _⟩ :: _) _ _; refine wpList_load_want (by kernel_rfl) 35 _ rfl _ rfl _ (by with_reducible exact l5) ?_)
      | fail)
    refine (link_ref V p.src hA0.out).mono ?_
    rintro r U1 ⟨rfl, bb⟩
    rw [hlk]
    have K1 := hidd (K0.out.to bb)
    clear bb
    clear l0 l1 l2 l3 l4 l5 k0 k1 k2 k3 k4
    have hmt0 := Bool.eq_false_or_eq_true (isMany m.target)
    rcases hmt0 with hmt | hmt
    · skip
      have l0 := K1.out.lsrc
      have l1 := K1.out.ldst
      have l2 := K1.out.ltarget
      have l3 := K1.out.ldest
      have l4 := K1.out.lz
      have l5 := K1.out.lm
      have k0 := K1.out.kind
      have k1 := K1.out.code
      have k2 := K1.out.flags
      have k3 := K1.out.hops
      have k4 := K1.out.alert
      rw [hk] at k0
      go_wp2_with (first
        | (with_reducible show wpList _ _ _ (⟨some 34, Op.load 23 _, _, _, _, _⟩ :: _) _ _; refine wpList_load_want (by kernel_rfl) 23 _ rfl _ rfl _ (by with_reducible exact l0) ?_)
        | (with_reducible show wpList _ _ _ (⟨some 41, Op.load 23 _, _, _, _, _⟩ :: _) _ _; refine wpList_load_want (by kernel_rfl) 23 _ rfl _ rfl _ (by with_reducible exact l0) ?_)
        | (with_reducible show wpList _ _ _ (⟨some 42, Op.load 23 _, _, _, _, _⟩ :: _) _ _; refine wpList_load_want (by kernel_rfl) 23 _ rfl _ rfl _ (by with_reducible exact l4) ?_)
        | (with_reducible show wpList _ _ _ (⟨some 55, Op.load 23 _, _, _, _, _⟩ :: _) _ _; refine wpList_load_want (by kernel_rfl) 23 _ rfl _ rfl _ (by with_reducible exact l2) ?_)
        | (with_reducible show wpList _ _ _ (⟨some 58, Op.load 23 _, _, _, _, _⟩ :: _) _ _; refine wpList_load_want (by kernel_rfl) 23 _ rfl _ rfl _ (by with_reducible exact l0) ?_)
        | (with_reducible show wpList _ _ _ (⟨some 59, Op.load 23 _, _, _, _, _⟩ :: _) _ _; refine wpList_load_want (by kernel_rfl) 23 _ rfl _ rfl _ (by with_reducible exact l4) ?_)
        | (with_reducible show wpList _ _ _ (⟨some 75, Op.load 23 _, _, _, _, _⟩ :: _) _ _; refine wpList_load_want (by kernel_rfl) 23 _ rfl _ rfl _ (by with_reducible exact l2) ?_)
        | (with_reducible show wpList _ _ _ (⟨some 78, Op.load 23 _, _, _, _, _⟩ :: _) _ _; refine wpList_load_want (by kernel_rfl) 23 _ rfl _ rfl _ (by with_reducible exact l1) ?_)
        | (with_reducible show wpList _ _ _ (⟨some 94, Op.load 23 _, _, _, _, _⟩ :: _) _ _; refine wpList_load_want (by kernel_rfl) 23 _ rfl _ rfl _ (by with_reducible exact l3) ?_)
        | (with_reducible show wpList _ _ _ (⟨some 98, Op.load 23 _, _, _, _, _⟩ :: _) _ _; refine wpList_load_want (by kernel_rfl) 23 _ rfl _ rfl _ (by with_reducible exact l2) ?_)
        | (with_reducible show wpList _ _ _ (⟨some 102, Op.load 23 _, _, _, _, _⟩ :: _) _ _; refine wpList_load_want (by kernel_rfl) 23 _ rfl _ rfl _ (by with_reducible exact l2) ?_)
        | (with_reducible show wpList _ _ _ (⟨some 104, Op.load 23 _, _, _, _, _⟩ :: _) _ _; refine wpList_load_want (by kernel_rfl) 23 _ rfl _ rfl _ (by with_reducible exact l3) ?_)
        | (with_reducible show wpList _ _ _ (⟨some 117, Op.load 23 _, _, _, _, _⟩ :: _) _ _; refine wpList_load_want (by kernel_rfl) 23 _ rfl _ rfl _ (by with_reducible exact l0) ?_)
        | (with_reducible show wpList _ _ _ (⟨some 118, Op.load 23 _, _, _, _, _⟩ :: _) _ _; refine wpList_load_want (by kernel_rfl) 23 _ rfl _ rfl _ (by with_reducible exact l4) ?_)
        | (with_reducible show wpList _ _ _ (⟨some 45, Op.load 35 _, _, _, _, _⟩ :: _) _ _; refine wpList_load_want (by kernel_rfl) 35 _ rfl _ rfl _ (by with_reducible exact l5) ?_)
        | fail)
      refine (many_ref U1 m.target hA2.out).mono ?_
      rintro r U2 ⟨rfl, bb⟩
      rw [hmt]
      have K2 := hidd (K1.out.to bb)
      clear bb
      clear l0 l1 l2 l3 l4 l5 k0 k1 k2 k3 k4
      have l0 := K2.out.lsrc
      have l1 := K2.out.ldst
      have l2 := K2.out.ltarget
      have l3 := K2.out.ldest
      have l4 := K2.out.lz
      have l5 := K2.out.lm
      have k0 := K2.out.kind
      have k1 := K2.out.code
      have k2 := K2.out.flags
      have k3 := K2.out.hops
      have k4 := K2.out.alert
      rw [hk] at k0
      go_wp2_with (first
        | (with_reducible show wpList _ _ _ (⟨some 34, Op.load 23 _, _, _, _, _⟩ :: _) _ _; refine wpList_load_want (by kernel_rfl) 23 _ rfl _ rfl _ (by with_reducible exact l0) ?_)
        | (with_reducible show wpList _ _ _ (⟨some 41, Op.load 23 _, _, _, _, _⟩ :: _) _ _; refine wpList_load_want (by kernel_rfl) 23 _ rfl _ rfl _ (by with_reducible exact l0) ?_)
        | (with_reducible show wpList _ _ _ (⟨some 42, Op.load 23 _, _, _, _, _⟩ :: _) _ _; refine wpList_load_want (by kernel_rfl) 23 _ rfl _ rfl _ (by with_reducible exact l4) ?_)
        | (with_reducible show wpList _ _ _ (⟨some 55, Op.load 23 _, _, _, _, _⟩ :: _) _ _; refine wpList_load_want (by kernel_rfl) 23 _ rfl _ rfl _ (by with_reducible exact l2) ?_)
        | (with_reducible show wpList _ _ _ (⟨some 58, Op.load 23 _, _, _, _, _⟩ :: _) _ _; refine wpList_load_want (by kernel_rfl) 23 _ rfl _ rfl _ (by with_reducible exact l0) ?_)
        | (with_reducible show wpList _ _ _ (⟨some 59, Op.load 23 _, _, _, _, _⟩ :: _) _ _; refine wpList_load_want (by kernel_rfl) 23 _ rfl _ rfl _ (by with_reducible exact l4) ?_)
        | (with_reducible show wpList _ _ _ (⟨some 75, Op.load 23 _, _, _, _, _⟩ :: _) _ _; refine wpList_load_want (by kernel_rfl) 23 _ rfl _ rfl _ (by with_reducible exact l2) ?_)
        | (with_reducible show wpList _ _ _ (⟨some 78, Op.load 23 _, _, _, _, _⟩ :: _) _ _; refine wpList_load_want (by kernel_rfl) 23 _ rfl _ rfl _ (by with_reducible exact l1) ?_)
        | (with_reducible show wpList _ _ _ (⟨some 94, Op.load 23 _, _, _, _, _⟩ :: _) _ _; refine wpList_load_want (by kernel_rfl) 23 _ rfl _ rfl _ (by with_reducible exact l3) ?_)
        | (with_reducible show wpList _ _ _ (⟨some 98, Op.load 23 _, _, _, _, _⟩ :: _) _ _; refine wpList_load_want (by kernel_rfl) 23 _ rfl _ rfl _ (by with_reducible exact l2) ?_)
        | (with_reducible show wpList _ _ _ (⟨some 102, Op.load 23 _, _, _, _, _⟩ :: _) _ _; refine wpList_load_want (by kernel_rfl) 23 _ rfl _ rfl _ (by with_reducible exact l2) ?_)
        | (with_reducible show wpList _ _ _ (⟨some 104, Op.load 23 _, _, _, _, _⟩ :: _) _ _; refine wpList_load_want (by kernel_rfl) 23 _ rfl _ rfl _ (by with_reducible exact l3) ?_)
        | (with_reducible show wpList _ _ _ (⟨some 117, Op.load 23 _, _, _, _, _⟩ :: _) _ _; refine wpList_load_want (by kernel_rfl) 23 _ rfl _ rfl _ (by with_reducible exact l0) ?_)
        | (with_reducible show wpList _ _ _ (⟨some 118, Op.load 23 _, _, _, _, _⟩ :: _) _ _; refine wpList_load_want (by kernel_rfl) 23 _ rfl _ rfl _ (by with_reducible exact l4) ?_)
        | (with_reducible show wpList _ _ _ (⟨some 45, Op.load 35 _, _, _, _, _⟩ :: _) _ _; refine wpList_load_want (by kernel_rfl) 35 _ rfl _ rfl _ (by with_reducible exact l5) ?_)
        | fail)
      clear l0 l1 l2 l3 l4 l5 k0 k1 k2 k3 k4
      go_ret
      have hbel := K2.out.bel
      first | refine ⟨congrArg (fun z => Ending.returned (.bool z)) (?_ : _ = valid p m), hbel⟩ | (rw [hq] at hbel; refine ⟨congrArg (fun z => Ending.returned (.bool z)) (?_ : _ = valid p m), hbel⟩)
      rw [hv.out]; simp [none', tells, solicits, routes, asks, answers, redirects, questions, reports, h1, h2, hlk, hmt]
    · skip
      have l0 := K1.out.lsrc
      have l1 := K1.out.ldst
      have l2 := K1.out.ltarget
      have l3 := K1.out.ldest
      have l4 := K1.out.lz
      have l5 := K1.out.lm
      have k0 := K1.out.kind
      have k1 := K1.out.code
      have k2 := K1.out.flags
      have k3 := K1.out.hops
      have k4 := K1.out.alert
      rw [hk] at k0
      go_wp2_with (first
        | (with_reducible show wpList _ _ _ (⟨some 34, Op.load 23 _, _, _, _, _⟩ :: _) _ _; refine wpList_load_want (by kernel_rfl) 23 _ rfl _ rfl _ (by with_reducible exact l0) ?_)
        | (with_reducible show wpList _ _ _ (⟨some 41, Op.load 23 _, _, _, _, _⟩ :: _) _ _; refine wpList_load_want (by kernel_rfl) 23 _ rfl _ rfl _ (by with_reducible exact l0) ?_)
        | (with_reducible show wpList _ _ _ (⟨some 42, Op.load 23 _, _, _, _, _⟩ :: _) _ _; refine wpList_load_want (by kernel_rfl) 23 _ rfl _ rfl _ (by with_reducible exact l4) ?_)
        | (with_reducible show wpList _ _ _ (⟨some 55, Op.load 23 _, _, _, _, _⟩ :: _) _ _; refine wpList_load_want (by kernel_rfl) 23 _ rfl _ rfl _ (by with_reducible exact l2) ?_)
        | (with_reducible show wpList _ _ _ (⟨some 58, Op.load 23 _, _, _, _, _⟩ :: _) _ _; refine wpList_load_want (by kernel_rfl) 23 _ rfl _ rfl _ (by with_reducible exact l0) ?_)
        | (with_reducible show wpList _ _ _ (⟨some 59, Op.load 23 _, _, _, _, _⟩ :: _) _ _; refine wpList_load_want (by kernel_rfl) 23 _ rfl _ rfl _ (by with_reducible exact l4) ?_)
        | (with_reducible show wpList _ _ _ (⟨some 75, Op.load 23 _, _, _, _, _⟩ :: _) _ _; refine wpList_load_want (by kernel_rfl) 23 _ rfl _ rfl _ (by with_reducible exact l2) ?_)
        | (with_reducible show wpList _ _ _ (⟨some 78, Op.load 23 _, _, _, _, _⟩ :: _) _ _; refine wpList_load_want (by kernel_rfl) 23 _ rfl _ rfl _ (by with_reducible exact l1) ?_)
        | (with_reducible show wpList _ _ _ (⟨some 94, Op.load 23 _, _, _, _, _⟩ :: _) _ _; refine wpList_load_want (by kernel_rfl) 23 _ rfl _ rfl _ (by with_reducible exact l3) ?_)
        | (with_reducible show wpList _ _ _ (⟨some 98, Op.load 23 _, _, _, _, _⟩ :: _) _ _; refine wpList_load_want (by kernel_rfl) 23 _ rfl _ rfl _ (by with_reducible exact l2) ?_)
        | (with_reducible show wpList _ _ _ (⟨some 102, Op.load 23 _, _, _, _, _⟩ :: _) _ _; refine wpList_load_want (by kernel_rfl) 23 _ rfl _ rfl _ (by with_reducible exact l2) ?_)
        | (with_reducible show wpList _ _ _ (⟨some 104, Op.load 23 _, _, _, _, _⟩ :: _) _ _; refine wpList_load_want (by kernel_rfl) 23 _ rfl _ rfl _ (by with_reducible exact l3) ?_)
        | (with_reducible show wpList _ _ _ (⟨some 117, Op.load 23 _, _, _, _, _⟩ :: _) _ _; refine wpList_load_want (by kernel_rfl) 23 _ rfl _ rfl _ (by with_reducible exact l0) ?_)
        | (with_reducible show wpList _ _ _ (⟨some 118, Op.load 23 _, _, _, _, _⟩ :: _) _ _; refine wpList_load_want (by kernel_rfl) 23 _ rfl _ rfl _ (by with_reducible exact l4) ?_)
        | (with_reducible show wpList _ _ _ (⟨some 45, Op.load 35 _, _, _, _, _⟩ :: _) _ _; refine wpList_load_want (by kernel_rfl) 35 _ rfl _ rfl _ (by with_reducible exact l5) ?_)
        | fail)
      refine (many_ref U1 m.target hA2.out).mono ?_
      rintro r U2 ⟨rfl, bb⟩
      rw [hmt]
      have K2 := hidd (K1.out.to bb)
      clear bb
      clear l0 l1 l2 l3 l4 l5 k0 k1 k2 k3 k4
      have hsz0 := Bool.eq_false_or_eq_true (p.src == zeroA)
      rcases hsz0 with hsz | hsz
      · skip
        have es := fun V => (eqA V hA0.out zeroA_is).trans (by rw [hsz])
        have hds0 := Bool.eq_false_or_eq_true (p.dst == soli m.target)
        rcases hds0 with hds | hds
        · skip
          have ed := fun V => (eqA V hA1.out (soli_is hA2.out)).trans (by rw [hds])
          have hte0 := Bool.eq_false_or_eq_true (tells m)
          rcases hte0 with hte | hte
          · skip
            have htk : (m.ks.any (· == 1)) = _ := hte
            have l0 := K2.out.lsrc
            have l1 := K2.out.ldst
            have l2 := K2.out.ltarget
            have l3 := K2.out.ldest
            have l4 := K2.out.lz
            have l5 := K2.out.lm
            have k0 := K2.out.kind
            have k1 := K2.out.code
            have k2 := K2.out.flags
            have k3 := K2.out.hops
            have k4 := K2.out.alert
            rw [hk] at k0
            go_wp2_with (first
              | (with_reducible show wpList _ _ _ (⟨some 34, Op.load 23 _, _, _, _, _⟩ :: _) _ _; refine wpList_load_want (by kernel_rfl) 23 _ rfl _ rfl _ (by with_reducible exact l0) ?_)
              | (with_reducible show wpList _ _ _ (⟨some 41, Op.load 23 _, _, _, _, _⟩ :: _) _ _; refine wpList_load_want (by kernel_rfl) 23 _ rfl _ rfl _ (by with_reducible exact l0) ?_)
              | (with_reducible show wpList _ _ _ (⟨some 42, Op.load 23 _, _, _, _, _⟩ :: _) _ _; refine wpList_load_want (by kernel_rfl) 23 _ rfl _ rfl _ (by with_reducible exact l4) ?_)
              | (with_reducible show wpList _ _ _ (⟨some 55, Op.load 23 _, _, _, _, _⟩ :: _) _ _; refine wpList_load_want (by kernel_rfl) 23 _ rfl _ rfl _ (by with_reducible exact l2) ?_)
              | (with_reducible show wpList _ _ _ (⟨some 58, Op.load 23 _, _, _, _, _⟩ :: _) _ _; refine wpList_load_want (by kernel_rfl) 23 _ rfl _ rfl _ (by with_reducible exact l0) ?_)
              | (with_reducible show wpList _ _ _ (⟨some 59, Op.load 23 _, _, _, _, _⟩ :: _) _ _; refine wpList_load_want (by kernel_rfl) 23 _ rfl _ rfl _ (by with_reducible exact l4) ?_)
              | (with_reducible show wpList _ _ _ (⟨some 75, Op.load 23 _, _, _, _, _⟩ :: _) _ _; refine wpList_load_want (by kernel_rfl) 23 _ rfl _ rfl _ (by with_reducible exact l2) ?_)
              | (with_reducible show wpList _ _ _ (⟨some 78, Op.load 23 _, _, _, _, _⟩ :: _) _ _; refine wpList_load_want (by kernel_rfl) 23 _ rfl _ rfl _ (by with_reducible exact l1) ?_)
              | (with_reducible show wpList _ _ _ (⟨some 94, Op.load 23 _, _, _, _, _⟩ :: _) _ _; refine wpList_load_want (by kernel_rfl) 23 _ rfl _ rfl _ (by with_reducible exact l3) ?_)
              | (with_reducible show wpList _ _ _ (⟨some 98, Op.load 23 _, _, _, _, _⟩ :: _) _ _; refine wpList_load_want (by kernel_rfl) 23 _ rfl _ rfl _ (by with_reducible exact l2) ?_)
              | (with_reducible show wpList _ _ _ (⟨some 102, Op.load 23 _, _, _, _, _⟩ :: _) _ _; refine wpList_load_want (by kernel_rfl) 23 _ rfl _ rfl _ (by with_reducible exact l2) ?_)
              | (with_reducible show wpList _ _ _ (⟨some 104, Op.load 23 _, _, _, _, _⟩ :: _) _ _; refine wpList_load_want (by kernel_rfl) 23 _ rfl _ rfl _ (by with_reducible exact l3) ?_)
              | (with_reducible show wpList _ _ _ (⟨some 117, Op.load 23 _, _, _, _, _⟩ :: _) _ _; refine wpList_load_want (by kernel_rfl) 23 _ rfl _ rfl _ (by with_reducible exact l0) ?_)
              | (with_reducible show wpList _ _ _ (⟨some 118, Op.load 23 _, _, _, _, _⟩ :: _) _ _; refine wpList_load_want (by kernel_rfl) 23 _ rfl _ rfl _ (by with_reducible exact l4) ?_)
              | (with_reducible show wpList _ _ _ (⟨some 45, Op.load 35 _, _, _, _, _⟩ :: _) _ _; refine wpList_load_want (by kernel_rfl) 35 _ rfl _ rfl _ (by with_reducible exact l5) ?_)
              | fail)
            clear l0 l1 l2 l3 l4 l5 k0 k1 k2 k3 k4
            have Kd := hidd (K2.out.to (below_drew U2))
            refine wp_region_held_drew (S := (fun V => (loadVar 23 ⟨q, 16, none⟩).run Tryd.prog V = .ok (.agg (bytesV p.dst)) V ∧ (loadVar 23 ⟨q + 1, 9, none⟩).run Tryd.prog V = .ok (.agg (bytesV m.target)) V ∧ (loadVar 35 ⟨q + 1, 0, none⟩).run Tryd.prog V = .ok (.agg ms) V)) (by kernel_rfl) ⟨Kd.out.ldst, Kd.out.ltarget, Kd.out.lm⟩ (fun hHeld => ?_)
            generalize U2.drew = D at Kd hHeld ⊢
            refine wpAnyH_take (i := 0) (v := ?_) rfl (by kernel_rfl) (by kernel_rfl) (by kernel_rfl) (fun _ _ _ h => h) (Or.inl ⟨by kernel_rfl, ?_⟩) hHeld ?_
            rotate_left
            · intro wh hSw
              go_simp
              try with_reducible rfl
            try simp only [Act.put, List.getElem_toArray, List.getElem_cons_zero, List.getElem_cons_succ, List.setIfInBounds_toArray, List.set_cons_zero, List.set_cons_succ]
            refine wpAnyH_take (i := 1) rfl (by kernel_rfl) (by kernel_rfl) (by kernel_rfl) (fun _ _ _ h => h) (yieldsIf_load_want (by kernel_rfl) 23 _ rfl _ rfl _ (fun wh hSw => hSw.1)) hHeld ?_
            try simp only [Act.put, List.getElem_toArray, List.getElem_cons_zero, List.getElem_cons_succ, List.setIfInBounds_toArray, List.set_cons_zero, List.set_cons_succ]
            refine wpAnyH_take (i := 2) (v := ?_) rfl (by kernel_rfl) (by kernel_rfl) (by kernel_rfl) (fun _ _ _ h => h) (Or.inl ⟨by kernel_rfl, ?_⟩) hHeld ?_
            rotate_left
            · intro wh hSw
              go_simp
              try with_reducible rfl
            try simp only [Act.put, List.getElem_toArray, List.getElem_cons_zero, List.getElem_cons_succ, List.setIfInBounds_toArray, List.set_cons_zero, List.set_cons_succ]
            refine wpAnyH_take (i := 3) rfl (by kernel_rfl) (by kernel_rfl) (by kernel_rfl) (fun _ _ _ h => h) (yieldsIf_load_want (by kernel_rfl) 23 _ rfl _ rfl _ (fun wh hSw => hSw.2.1)) hHeld ?_
            try simp only [Act.put, List.getElem_toArray, List.getElem_cons_zero, List.getElem_cons_succ, List.setIfInBounds_toArray, List.set_cons_zero, List.set_cons_succ]
            refine wpAnyH_ready (rs := [4]) (by kernel_rfl) (by simp) (AllReadyH.cons rfl (fun K hK => ?_) AllReadyH.nil)
            clear hHeld
            go_simp
            refine (soli_ref D m.target hA2.out).mono ?_
            rintro r E ⟨rfl, bb⟩
            dsimp only
            have Ke := hidd (Kd.out.to bb)
            clear bb Kd
            refine hK.out _ _ ⟨Ke.out.ldst, Ke.out.ltarget, Ke.out.lm⟩ (fun hHeld => ?_)
            clear hK K
            try simp only [Act.put, List.getElem_toArray, List.getElem_cons_zero, List.getElem_cons_succ, List.setIfInBounds_toArray, List.set_cons_zero, List.set_cons_succ]
            refine wpAnyH_take (i := 5) (v := ?_) rfl (by kernel_rfl) (by kernel_rfl) (by kernel_rfl) (fun _ _ _ h => h) (Or.inl ⟨by kernel_rfl, ?_⟩) hHeld ?_
            rotate_left
            · intro wh hSw
              go_simp
              try with_reducible rfl
            try simp only [Act.put, List.getElem_toArray, List.getElem_cons_zero, List.getElem_cons_succ, List.setIfInBounds_toArray, List.set_cons_zero, List.set_cons_succ]
            refine wpAnyH_take (i := 6) (v := ?_) rfl (by kernel_rfl) (by kernel_rfl) (by kernel_rfl) (fun _ _ _ h => h) (Or.inl ⟨by kernel_rfl, ?_⟩) hHeld ?_
            rotate_left
            · intro wh hSw
              go_simp
              try with_reducible rfl
            try simp only [Act.put, List.getElem_toArray, List.getElem_cons_zero, List.getElem_cons_succ, List.setIfInBounds_toArray, List.set_cons_zero, List.set_cons_succ]
            refine wpAnyH_take (i := 7) rfl (by kernel_rfl) (by kernel_rfl) (by kernel_rfl) (fun _ _ _ h => h) (yieldsIf_load_want (by kernel_rfl) 35 _ rfl _ rfl _ (fun wh hSw => hSw.2.2)) hHeld ?_
            try simp only [Act.put, List.getElem_toArray, List.getElem_cons_zero, List.getElem_cons_succ, List.setIfInBounds_toArray, List.set_cons_zero, List.set_cons_succ]
            refine wpAnyH_ready (rs := [8]) (by kernel_rfl) (by simp) (AllReadyH.cons rfl (fun K hK => ?_) AllReadyH.nil)
            clear hHeld
            go_simp
            refine (source_ref E ms m Ke.out.ms).mono ?_
            rintro r E2 ⟨rfl, bb⟩
            rw [hte]
            dsimp only
            have K9 := hidd (Ke.out.to bb)
            clear bb Ke
            refine hK.out _ _ ⟨K9.out.ldst, K9.out.ltarget, K9.out.lm⟩ (fun hHeld => ?_)
            clear hK K
            try simp only [Act.put, List.getElem_toArray, List.getElem_cons_zero, List.getElem_cons_succ, List.setIfInBounds_toArray, List.set_cons_zero, List.set_cons_succ]
            refine wpAnyH_take (i := 9) (v := ?_) rfl (by kernel_rfl) (by kernel_rfl) (by kernel_rfl) (fun _ _ _ h => h) (Or.inl ⟨by kernel_rfl, ?_⟩) hHeld ?_
            rotate_left
            · intro wh hSw
              go_simp
              try with_reducible rfl
            try simp only [Act.put, List.getElem_toArray, List.getElem_cons_zero, List.getElem_cons_succ, List.setIfInBounds_toArray, List.set_cons_zero, List.set_cons_succ]
            refine wpAnyH_take (i := 10) (v := ?_) rfl (by kernel_rfl) (by kernel_rfl) (by kernel_rfl) (fun _ _ _ h => h) (Or.inl ⟨by kernel_rfl, ?_⟩) hHeld ?_
            rotate_left
            · intro wh hSw
              go_simp
              try with_reducible rfl
            try simp only [Act.put, List.getElem_toArray, List.getElem_cons_zero, List.getElem_cons_succ, List.setIfInBounds_toArray, List.set_cons_zero, List.set_cons_succ]
            refine wpAnyH_take (i := 11) (v := ?_) rfl (by kernel_rfl) (by kernel_rfl) (by kernel_rfl) (fun _ _ _ h => h) (Or.inl ⟨by kernel_rfl, ?_⟩) hHeld ?_
            rotate_left
            · intro wh hSw
              go_simp
              try with_reducible rfl
            try simp only [Act.put, List.getElem_toArray, List.getElem_cons_zero, List.getElem_cons_succ, List.setIfInBounds_toArray, List.set_cons_zero, List.set_cons_succ]
            refine wpAnyH_done (by kernel_rfl) ?_ _
            clear hHeld
            go_wp2
            go_ret
            have hbel := K9.out.bel
            first | refine ⟨congrArg (fun z => Ending.returned (.bool z)) (?_ : _ = valid p m), hbel⟩ | (rw [hq] at hbel; refine ⟨congrArg (fun z => Ending.returned (.bool z)) (?_ : _ = valid p m), hbel⟩)
            rw [hv.out]; simp [none', tells, solicits, routes, asks, answers, redirects, questions, reports, h1, h2, hlk, hmt, hsz, hds, hte, htk]
          · skip
            have htk : (m.ks.any (· == 1)) = _ := hte
            have l0 := K2.out.lsrc
            have l1 := K2.out.ldst
            have l2 := K2.out.ltarget
            have l3 := K2.out.ldest
            have l4 := K2.out.lz
            have l5 := K2.out.lm
            have k0 := K2.out.kind
            have k1 := K2.out.code
            have k2 := K2.out.flags
            have k3 := K2.out.hops
            have k4 := K2.out.alert
            rw [hk] at k0
            go_wp2_with (first
              | (with_reducible show wpList _ _ _ (⟨some 34, Op.load 23 _, _, _, _, _⟩ :: _) _ _; refine wpList_load_want (by kernel_rfl) 23 _ rfl _ rfl _ (by with_reducible exact l0) ?_)
              | (with_reducible show wpList _ _ _ (⟨some 41, Op.load 23 _, _, _, _, _⟩ :: _) _ _; refine wpList_load_want (by kernel_rfl) 23 _ rfl _ rfl _ (by with_reducible exact l0) ?_)
              | (with_reducible show wpList _ _ _ (⟨some 42, Op.load 23 _, _, _, _, _⟩ :: _) _ _; refine wpList_load_want (by kernel_rfl) 23 _ rfl _ rfl _ (by with_reducible exact l4) ?_)
              | (with_reducible show wpList _ _ _ (⟨some 55, Op.load 23 _, _, _, _, _⟩ :: _) _ _; refine wpList_load_want (by kernel_rfl) 23 _ rfl _ rfl _ (by with_reducible exact l2) ?_)
              | (with_reducible show wpList _ _ _ (⟨some 58, Op.load 23 _, _, _, _, _⟩ :: _) _ _; refine wpList_load_want (by kernel_rfl) 23 _ rfl _ rfl _ (by with_reducible exact l0) ?_)
              | (with_reducible show wpList _ _ _ (⟨some 59, Op.load 23 _, _, _, _, _⟩ :: _) _ _; refine wpList_load_want (by kernel_rfl) 23 _ rfl _ rfl _ (by with_reducible exact l4) ?_)
              | (with_reducible show wpList _ _ _ (⟨some 75, Op.load 23 _, _, _, _, _⟩ :: _) _ _; refine wpList_load_want (by kernel_rfl) 23 _ rfl _ rfl _ (by with_reducible exact l2) ?_)
              | (with_reducible show wpList _ _ _ (⟨some 78, Op.load 23 _, _, _, _, _⟩ :: _) _ _; refine wpList_load_want (by kernel_rfl) 23 _ rfl _ rfl _ (by with_reducible exact l1) ?_)
              | (with_reducible show wpList _ _ _ (⟨some 94, Op.load 23 _, _, _, _, _⟩ :: _) _ _; refine wpList_load_want (by kernel_rfl) 23 _ rfl _ rfl _ (by with_reducible exact l3) ?_)
              | (with_reducible show wpList _ _ _ (⟨some 98, Op.load 23 _, _, _, _, _⟩ :: _) _ _; refine wpList_load_want (by kernel_rfl) 23 _ rfl _ rfl _ (by with_reducible exact l2) ?_)
              | (with_reducible show wpList _ _ _ (⟨some 102, Op.load 23 _, _, _, _, _⟩ :: _) _ _; refine wpList_load_want (by kernel_rfl) 23 _ rfl _ rfl _ (by with_reducible exact l2) ?_)
              | (with_reducible show wpList _ _ _ (⟨some 104, Op.load 23 _, _, _, _, _⟩ :: _) _ _; refine wpList_load_want (by kernel_rfl) 23 _ rfl _ rfl _ (by with_reducible exact l3) ?_)
              | (with_reducible show wpList _ _ _ (⟨some 117, Op.load 23 _, _, _, _, _⟩ :: _) _ _; refine wpList_load_want (by kernel_rfl) 23 _ rfl _ rfl _ (by with_reducible exact l0) ?_)
              | (with_reducible show wpList _ _ _ (⟨some 118, Op.load 23 _, _, _, _, _⟩ :: _) _ _; refine wpList_load_want (by kernel_rfl) 23 _ rfl _ rfl _ (by with_reducible exact l4) ?_)
              | (with_reducible show wpList _ _ _ (⟨some 45, Op.load 35 _, _, _, _, _⟩ :: _) _ _; refine wpList_load_want (by kernel_rfl) 35 _ rfl _ rfl _ (by with_reducible exact l5) ?_)
              | fail)
            clear l0 l1 l2 l3 l4 l5 k0 k1 k2 k3 k4
            have Kd := hidd (K2.out.to (below_drew U2))
            refine wp_region_held_drew (S := (fun V => (loadVar 23 ⟨q, 16, none⟩).run Tryd.prog V = .ok (.agg (bytesV p.dst)) V ∧ (loadVar 23 ⟨q + 1, 9, none⟩).run Tryd.prog V = .ok (.agg (bytesV m.target)) V ∧ (loadVar 35 ⟨q + 1, 0, none⟩).run Tryd.prog V = .ok (.agg ms) V)) (by kernel_rfl) ⟨Kd.out.ldst, Kd.out.ltarget, Kd.out.lm⟩ (fun hHeld => ?_)
            generalize U2.drew = D at Kd hHeld ⊢
            refine wpAnyH_take (i := 0) (v := ?_) rfl (by kernel_rfl) (by kernel_rfl) (by kernel_rfl) (fun _ _ _ h => h) (Or.inl ⟨by kernel_rfl, ?_⟩) hHeld ?_
            rotate_left
            · intro wh hSw
              go_simp
              try with_reducible rfl
            try simp only [Act.put, List.getElem_toArray, List.getElem_cons_zero, List.getElem_cons_succ, List.setIfInBounds_toArray, List.set_cons_zero, List.set_cons_succ]
            refine wpAnyH_take (i := 1) rfl (by kernel_rfl) (by kernel_rfl) (by kernel_rfl) (fun _ _ _ h => h) (yieldsIf_load_want (by kernel_rfl) 23 _ rfl _ rfl _ (fun wh hSw => hSw.1)) hHeld ?_
            try simp only [Act.put, List.getElem_toArray, List.getElem_cons_zero, List.getElem_cons_succ, List.setIfInBounds_toArray, List.set_cons_zero, List.set_cons_succ]
            refine wpAnyH_take (i := 2) (v := ?_) rfl (by kernel_rfl) (by kernel_rfl) (by kernel_rfl) (fun _ _ _ h => h) (Or.inl ⟨by kernel_rfl, ?_⟩) hHeld ?_
            rotate_left
            · intro wh hSw
              go_simp
              try with_reducible rfl
            try simp only [Act.put, List.getElem_toArray, List.getElem_cons_zero, List.getElem_cons_succ, List.setIfInBounds_toArray, List.set_cons_zero, List.set_cons_succ]
            refine wpAnyH_take (i := 3) rfl (by kernel_rfl) (by kernel_rfl) (by kernel_rfl) (fun _ _ _ h => h) (yieldsIf_load_want (by kernel_rfl) 23 _ rfl _ rfl _ (fun wh hSw => hSw.2.1)) hHeld ?_
            try simp only [Act.put, List.getElem_toArray, List.getElem_cons_zero, List.getElem_cons_succ, List.setIfInBounds_toArray, List.set_cons_zero, List.set_cons_succ]
            refine wpAnyH_ready (rs := [4]) (by kernel_rfl) (by simp) (AllReadyH.cons rfl (fun K hK => ?_) AllReadyH.nil)
            clear hHeld
            go_simp
            refine (soli_ref D m.target hA2.out).mono ?_
            rintro r E ⟨rfl, bb⟩
            dsimp only
            have Ke := hidd (Kd.out.to bb)
            clear bb Kd
            refine hK.out _ _ ⟨Ke.out.ldst, Ke.out.ltarget, Ke.out.lm⟩ (fun hHeld => ?_)
            clear hK K
            try simp only [Act.put, List.getElem_toArray, List.getElem_cons_zero, List.getElem_cons_succ, List.setIfInBounds_toArray, List.set_cons_zero, List.set_cons_succ]
            refine wpAnyH_take (i := 5) (v := ?_) rfl (by kernel_rfl) (by kernel_rfl) (by kernel_rfl) (fun _ _ _ h => h) (Or.inl ⟨by kernel_rfl, ?_⟩) hHeld ?_
            rotate_left
            · intro wh hSw
              go_simp
              try with_reducible rfl
            try simp only [Act.put, List.getElem_toArray, List.getElem_cons_zero, List.getElem_cons_succ, List.setIfInBounds_toArray, List.set_cons_zero, List.set_cons_succ]
            refine wpAnyH_take (i := 6) (v := ?_) rfl (by kernel_rfl) (by kernel_rfl) (by kernel_rfl) (fun _ _ _ h => h) (Or.inl ⟨by kernel_rfl, ?_⟩) hHeld ?_
            rotate_left
            · intro wh hSw
              go_simp
              try with_reducible rfl
            try simp only [Act.put, List.getElem_toArray, List.getElem_cons_zero, List.getElem_cons_succ, List.setIfInBounds_toArray, List.set_cons_zero, List.set_cons_succ]
            refine wpAnyH_take (i := 7) rfl (by kernel_rfl) (by kernel_rfl) (by kernel_rfl) (fun _ _ _ h => h) (yieldsIf_load_want (by kernel_rfl) 35 _ rfl _ rfl _ (fun wh hSw => hSw.2.2)) hHeld ?_
            try simp only [Act.put, List.getElem_toArray, List.getElem_cons_zero, List.getElem_cons_succ, List.setIfInBounds_toArray, List.set_cons_zero, List.set_cons_succ]
            refine wpAnyH_ready (rs := [8]) (by kernel_rfl) (by simp) (AllReadyH.cons rfl (fun K hK => ?_) AllReadyH.nil)
            clear hHeld
            go_simp
            refine (source_ref E ms m Ke.out.ms).mono ?_
            rintro r E2 ⟨rfl, bb⟩
            rw [hte]
            dsimp only
            have K9 := hidd (Ke.out.to bb)
            clear bb Ke
            refine hK.out _ _ ⟨K9.out.ldst, K9.out.ltarget, K9.out.lm⟩ (fun hHeld => ?_)
            clear hK K
            try simp only [Act.put, List.getElem_toArray, List.getElem_cons_zero, List.getElem_cons_succ, List.setIfInBounds_toArray, List.set_cons_zero, List.set_cons_succ]
            refine wpAnyH_take (i := 9) (v := ?_) rfl (by kernel_rfl) (by kernel_rfl) (by kernel_rfl) (fun _ _ _ h => h) (Or.inl ⟨by kernel_rfl, ?_⟩) hHeld ?_
            rotate_left
            · intro wh hSw
              go_simp
              try with_reducible rfl
            try simp only [Act.put, List.getElem_toArray, List.getElem_cons_zero, List.getElem_cons_succ, List.setIfInBounds_toArray, List.set_cons_zero, List.set_cons_succ]
            refine wpAnyH_take (i := 10) (v := ?_) rfl (by kernel_rfl) (by kernel_rfl) (by kernel_rfl) (fun _ _ _ h => h) (Or.inl ⟨by kernel_rfl, ?_⟩) hHeld ?_
            rotate_left
            · intro wh hSw
              go_simp
              try with_reducible rfl
            try simp only [Act.put, List.getElem_toArray, List.getElem_cons_zero, List.getElem_cons_succ, List.setIfInBounds_toArray, List.set_cons_zero, List.set_cons_succ]
            refine wpAnyH_take (i := 11) (v := ?_) rfl (by kernel_rfl) (by kernel_rfl) (by kernel_rfl) (fun _ _ _ h => h) (Or.inl ⟨by kernel_rfl, ?_⟩) hHeld ?_
            rotate_left
            · intro wh hSw
              go_simp
              try with_reducible rfl
            try simp only [Act.put, List.getElem_toArray, List.getElem_cons_zero, List.getElem_cons_succ, List.setIfInBounds_toArray, List.set_cons_zero, List.set_cons_succ]
            refine wpAnyH_done (by kernel_rfl) ?_ _
            clear hHeld
            go_wp2
            go_ret
            have hbel := K9.out.bel
            first | refine ⟨congrArg (fun z => Ending.returned (.bool z)) (?_ : _ = valid p m), hbel⟩ | (rw [hq] at hbel; refine ⟨congrArg (fun z => Ending.returned (.bool z)) (?_ : _ = valid p m), hbel⟩)
            rw [hv.out]; simp [none', tells, solicits, routes, asks, answers, redirects, questions, reports, h1, h2, hlk, hmt, hsz, hds, hte, htk]
        · skip
          have ed := fun V => (eqA V hA1.out (soli_is hA2.out)).trans (by rw [hds])
          have l0 := K2.out.lsrc
          have l1 := K2.out.ldst
          have l2 := K2.out.ltarget
          have l3 := K2.out.ldest
          have l4 := K2.out.lz
          have l5 := K2.out.lm
          have k0 := K2.out.kind
          have k1 := K2.out.code
          have k2 := K2.out.flags
          have k3 := K2.out.hops
          have k4 := K2.out.alert
          rw [hk] at k0
          go_wp2_with (first
            | (with_reducible show wpList _ _ _ (⟨some 34, Op.load 23 _, _, _, _, _⟩ :: _) _ _; refine wpList_load_want (by kernel_rfl) 23 _ rfl _ rfl _ (by with_reducible exact l0) ?_)
            | (with_reducible show wpList _ _ _ (⟨some 41, Op.load 23 _, _, _, _, _⟩ :: _) _ _; refine wpList_load_want (by kernel_rfl) 23 _ rfl _ rfl _ (by with_reducible exact l0) ?_)
            | (with_reducible show wpList _ _ _ (⟨some 42, Op.load 23 _, _, _, _, _⟩ :: _) _ _; refine wpList_load_want (by kernel_rfl) 23 _ rfl _ rfl _ (by with_reducible exact l4) ?_)
            | (with_reducible show wpList _ _ _ (⟨some 55, Op.load 23 _, _, _, _, _⟩ :: _) _ _; refine wpList_load_want (by kernel_rfl) 23 _ rfl _ rfl _ (by with_reducible exact l2) ?_)
            | (with_reducible show wpList _ _ _ (⟨some 58, Op.load 23 _, _, _, _, _⟩ :: _) _ _; refine wpList_load_want (by kernel_rfl) 23 _ rfl _ rfl _ (by with_reducible exact l0) ?_)
            | (with_reducible show wpList _ _ _ (⟨some 59, Op.load 23 _, _, _, _, _⟩ :: _) _ _; refine wpList_load_want (by kernel_rfl) 23 _ rfl _ rfl _ (by with_reducible exact l4) ?_)
            | (with_reducible show wpList _ _ _ (⟨some 75, Op.load 23 _, _, _, _, _⟩ :: _) _ _; refine wpList_load_want (by kernel_rfl) 23 _ rfl _ rfl _ (by with_reducible exact l2) ?_)
            | (with_reducible show wpList _ _ _ (⟨some 78, Op.load 23 _, _, _, _, _⟩ :: _) _ _; refine wpList_load_want (by kernel_rfl) 23 _ rfl _ rfl _ (by with_reducible exact l1) ?_)
            | (with_reducible show wpList _ _ _ (⟨some 94, Op.load 23 _, _, _, _, _⟩ :: _) _ _; refine wpList_load_want (by kernel_rfl) 23 _ rfl _ rfl _ (by with_reducible exact l3) ?_)
            | (with_reducible show wpList _ _ _ (⟨some 98, Op.load 23 _, _, _, _, _⟩ :: _) _ _; refine wpList_load_want (by kernel_rfl) 23 _ rfl _ rfl _ (by with_reducible exact l2) ?_)
            | (with_reducible show wpList _ _ _ (⟨some 102, Op.load 23 _, _, _, _, _⟩ :: _) _ _; refine wpList_load_want (by kernel_rfl) 23 _ rfl _ rfl _ (by with_reducible exact l2) ?_)
            | (with_reducible show wpList _ _ _ (⟨some 104, Op.load 23 _, _, _, _, _⟩ :: _) _ _; refine wpList_load_want (by kernel_rfl) 23 _ rfl _ rfl _ (by with_reducible exact l3) ?_)
            | (with_reducible show wpList _ _ _ (⟨some 117, Op.load 23 _, _, _, _, _⟩ :: _) _ _; refine wpList_load_want (by kernel_rfl) 23 _ rfl _ rfl _ (by with_reducible exact l0) ?_)
            | (with_reducible show wpList _ _ _ (⟨some 118, Op.load 23 _, _, _, _, _⟩ :: _) _ _; refine wpList_load_want (by kernel_rfl) 23 _ rfl _ rfl _ (by with_reducible exact l4) ?_)
            | (with_reducible show wpList _ _ _ (⟨some 45, Op.load 35 _, _, _, _, _⟩ :: _) _ _; refine wpList_load_want (by kernel_rfl) 35 _ rfl _ rfl _ (by with_reducible exact l5) ?_)
            | fail)
          clear l0 l1 l2 l3 l4 l5 k0 k1 k2 k3 k4
          have Kd := hidd (K2.out.to (below_drew U2))
          refine wp_region_held_drew (S := (fun V => (loadVar 23 ⟨q, 16, none⟩).run Tryd.prog V = .ok (.agg (bytesV p.dst)) V ∧ (loadVar 23 ⟨q + 1, 9, none⟩).run Tryd.prog V = .ok (.agg (bytesV m.target)) V ∧ (loadVar 35 ⟨q + 1, 0, none⟩).run Tryd.prog V = .ok (.agg ms) V)) (by kernel_rfl) ⟨Kd.out.ldst, Kd.out.ltarget, Kd.out.lm⟩ (fun hHeld => ?_)
          generalize U2.drew = D at Kd hHeld ⊢
          refine wpAnyH_take (i := 0) (v := ?_) rfl (by kernel_rfl) (by kernel_rfl) (by kernel_rfl) (fun _ _ _ h => h) (Or.inl ⟨by kernel_rfl, ?_⟩) hHeld ?_
          rotate_left
          · intro wh hSw
            go_simp
            try with_reducible rfl
          try simp only [Act.put, List.getElem_toArray, List.getElem_cons_zero, List.getElem_cons_succ, List.setIfInBounds_toArray, List.set_cons_zero, List.set_cons_succ]
          refine wpAnyH_take (i := 1) rfl (by kernel_rfl) (by kernel_rfl) (by kernel_rfl) (fun _ _ _ h => h) (yieldsIf_load_want (by kernel_rfl) 23 _ rfl _ rfl _ (fun wh hSw => hSw.1)) hHeld ?_
          try simp only [Act.put, List.getElem_toArray, List.getElem_cons_zero, List.getElem_cons_succ, List.setIfInBounds_toArray, List.set_cons_zero, List.set_cons_succ]
          refine wpAnyH_take (i := 2) (v := ?_) rfl (by kernel_rfl) (by kernel_rfl) (by kernel_rfl) (fun _ _ _ h => h) (Or.inl ⟨by kernel_rfl, ?_⟩) hHeld ?_
          rotate_left
          · intro wh hSw
            go_simp
            try with_reducible rfl
          try simp only [Act.put, List.getElem_toArray, List.getElem_cons_zero, List.getElem_cons_succ, List.setIfInBounds_toArray, List.set_cons_zero, List.set_cons_succ]
          refine wpAnyH_take (i := 3) rfl (by kernel_rfl) (by kernel_rfl) (by kernel_rfl) (fun _ _ _ h => h) (yieldsIf_load_want (by kernel_rfl) 23 _ rfl _ rfl _ (fun wh hSw => hSw.2.1)) hHeld ?_
          try simp only [Act.put, List.getElem_toArray, List.getElem_cons_zero, List.getElem_cons_succ, List.setIfInBounds_toArray, List.set_cons_zero, List.set_cons_succ]
          refine wpAnyH_ready (rs := [4]) (by kernel_rfl) (by simp) (AllReadyH.cons rfl (fun K hK => ?_) AllReadyH.nil)
          clear hHeld
          go_simp
          refine (soli_ref D m.target hA2.out).mono ?_
          rintro r E ⟨rfl, bb⟩
          dsimp only
          have Ke := hidd (Kd.out.to bb)
          clear bb Kd
          refine hK.out _ _ ⟨Ke.out.ldst, Ke.out.ltarget, Ke.out.lm⟩ (fun hHeld => ?_)
          clear hK K
          try simp only [Act.put, List.getElem_toArray, List.getElem_cons_zero, List.getElem_cons_succ, List.setIfInBounds_toArray, List.set_cons_zero, List.set_cons_succ]
          refine wpAnyH_take (i := 5) (v := ?_) rfl (by kernel_rfl) (by kernel_rfl) (by kernel_rfl) (fun _ _ _ h => h) (Or.inl ⟨by kernel_rfl, ?_⟩) hHeld ?_
          rotate_left
          · intro wh hSw
            go_simp
            try with_reducible rfl
          try simp only [Act.put, List.getElem_toArray, List.getElem_cons_zero, List.getElem_cons_succ, List.setIfInBounds_toArray, List.set_cons_zero, List.set_cons_succ]
          refine wpAnyH_take (i := 6) (v := ?_) rfl (by kernel_rfl) (by kernel_rfl) (by kernel_rfl) (fun _ _ _ h => h) (Or.inl ⟨by kernel_rfl, ?_⟩) hHeld ?_
          rotate_left
          · intro wh hSw
            go_simp
            try with_reducible rfl
          try simp only [Act.put, List.getElem_toArray, List.getElem_cons_zero, List.getElem_cons_succ, List.setIfInBounds_toArray, List.set_cons_zero, List.set_cons_succ]
          refine wpAnyH_take (i := 7) rfl (by kernel_rfl) (by kernel_rfl) (by kernel_rfl) (fun _ _ _ h => h) (Or.inr ⟨by kernel_rfl, rfl⟩) hHeld ?_
          try simp only [Act.put, List.getElem_toArray, List.getElem_cons_zero, List.getElem_cons_succ, List.setIfInBounds_toArray, List.set_cons_zero, List.set_cons_succ]
          refine wpAnyH_take (i := 8) rfl (by kernel_rfl) (by kernel_rfl) (by kernel_rfl) (fun _ _ _ h => h) (Or.inr ⟨by kernel_rfl, rfl⟩) hHeld ?_
          try simp only [Act.put, List.getElem_toArray, List.getElem_cons_zero, List.getElem_cons_succ, List.setIfInBounds_toArray, List.set_cons_zero, List.set_cons_succ]
          refine wpAnyH_take (i := 9) rfl (by kernel_rfl) (by kernel_rfl) (by kernel_rfl) (fun _ _ _ h => h) (Or.inr ⟨by kernel_rfl, rfl⟩) hHeld ?_
          try simp only [Act.put, List.getElem_toArray, List.getElem_cons_zero, List.getElem_cons_succ, List.setIfInBounds_toArray, List.set_cons_zero, List.set_cons_succ]
          refine wpAnyH_take (i := 10) (v := ?_) rfl (by kernel_rfl) (by kernel_rfl) (by kernel_rfl) (fun _ _ _ h => h) (Or.inl ⟨by kernel_rfl, ?_⟩) hHeld ?_
          rotate_left
          · intro wh hSw
            go_simp
            try with_reducible rfl
          try simp only [Act.put, List.getElem_toArray, List.getElem_cons_zero, List.getElem_cons_succ, List.setIfInBounds_toArray, List.set_cons_zero, List.set_cons_succ]
          refine wpAnyH_take (i := 11) (v := ?_) rfl (by kernel_rfl) (by kernel_rfl) (by kernel_rfl) (fun _ _ _ h => h) (Or.inl ⟨by kernel_rfl, ?_⟩) hHeld ?_
          rotate_left
          · intro wh hSw
            go_simp
            try with_reducible rfl
          try simp only [Act.put, List.getElem_toArray, List.getElem_cons_zero, List.getElem_cons_succ, List.setIfInBounds_toArray, List.set_cons_zero, List.set_cons_succ]
          refine wpAnyH_done (by kernel_rfl) ?_ _
          clear hHeld
          go_wp2
          go_ret
          have hbel := Ke.out.bel
          first | refine ⟨congrArg (fun z => Ending.returned (.bool z)) (?_ : _ = valid p m), hbel⟩ | (rw [hq] at hbel; refine ⟨congrArg (fun z => Ending.returned (.bool z)) (?_ : _ = valid p m), hbel⟩)
          rw [hv.out]; simp [none', tells, solicits, routes, asks, answers, redirects, questions, reports, h1, h2, hlk, hmt, hsz, hds]
      · skip
        have es := fun V => (eqA V hA0.out zeroA_is).trans (by rw [hsz])
        have l0 := K2.out.lsrc
        have l1 := K2.out.ldst
        have l2 := K2.out.ltarget
        have l3 := K2.out.ldest
        have l4 := K2.out.lz
        have l5 := K2.out.lm
        have k0 := K2.out.kind
        have k1 := K2.out.code
        have k2 := K2.out.flags
        have k3 := K2.out.hops
        have k4 := K2.out.alert
        rw [hk] at k0
        go_wp2_with (first
          | (with_reducible show wpList _ _ _ (⟨some 34, Op.load 23 _, _, _, _, _⟩ :: _) _ _; refine wpList_load_want (by kernel_rfl) 23 _ rfl _ rfl _ (by with_reducible exact l0) ?_)
          | (with_reducible show wpList _ _ _ (⟨some 41, Op.load 23 _, _, _, _, _⟩ :: _) _ _; refine wpList_load_want (by kernel_rfl) 23 _ rfl _ rfl _ (by with_reducible exact l0) ?_)
          | (with_reducible show wpList _ _ _ (⟨some 42, Op.load 23 _, _, _, _, _⟩ :: _) _ _; refine wpList_load_want (by kernel_rfl) 23 _ rfl _ rfl _ (by with_reducible exact l4) ?_)
          | (with_reducible show wpList _ _ _ (⟨some 55, Op.load 23 _, _, _, _, _⟩ :: _) _ _; refine wpList_load_want (by kernel_rfl) 23 _ rfl _ rfl _ (by with_reducible exact l2) ?_)
          | (with_reducible show wpList _ _ _ (⟨some 58, Op.load 23 _, _, _, _, _⟩ :: _) _ _; refine wpList_load_want (by kernel_rfl) 23 _ rfl _ rfl _ (by with_reducible exact l0) ?_)
          | (with_reducible show wpList _ _ _ (⟨some 59, Op.load 23 _, _, _, _, _⟩ :: _) _ _; refine wpList_load_want (by kernel_rfl) 23 _ rfl _ rfl _ (by with_reducible exact l4) ?_)
          | (with_reducible show wpList _ _ _ (⟨some 75, Op.load 23 _, _, _, _, _⟩ :: _) _ _; refine wpList_load_want (by kernel_rfl) 23 _ rfl _ rfl _ (by with_reducible exact l2) ?_)
          | (with_reducible show wpList _ _ _ (⟨some 78, Op.load 23 _, _, _, _, _⟩ :: _) _ _; refine wpList_load_want (by kernel_rfl) 23 _ rfl _ rfl _ (by with_reducible exact l1) ?_)
          | (with_reducible show wpList _ _ _ (⟨some 94, Op.load 23 _, _, _, _, _⟩ :: _) _ _; refine wpList_load_want (by kernel_rfl) 23 _ rfl _ rfl _ (by with_reducible exact l3) ?_)
          | (with_reducible show wpList _ _ _ (⟨some 98, Op.load 23 _, _, _, _, _⟩ :: _) _ _; refine wpList_load_want (by kernel_rfl) 23 _ rfl _ rfl _ (by with_reducible exact l2) ?_)
          | (with_reducible show wpList _ _ _ (⟨some 102, Op.load 23 _, _, _, _, _⟩ :: _) _ _; refine wpList_load_want (by kernel_rfl) 23 _ rfl _ rfl _ (by with_reducible exact l2) ?_)
          | (with_reducible show wpList _ _ _ (⟨some 104, Op.load 23 _, _, _, _, _⟩ :: _) _ _; refine wpList_load_want (by kernel_rfl) 23 _ rfl _ rfl _ (by with_reducible exact l3) ?_)
          | (with_reducible show wpList _ _ _ (⟨some 117, Op.load 23 _, _, _, _, _⟩ :: _) _ _; refine wpList_load_want (by kernel_rfl) 23 _ rfl _ rfl _ (by with_reducible exact l0) ?_)
          | (with_reducible show wpList _ _ _ (⟨some 118, Op.load 23 _, _, _, _, _⟩ :: _) _ _; refine wpList_load_want (by kernel_rfl) 23 _ rfl _ rfl _ (by with_reducible exact l4) ?_)
          | (with_reducible show wpList _ _ _ (⟨some 45, Op.load 35 _, _, _, _, _⟩ :: _) _ _; refine wpList_load_want (by kernel_rfl) 35 _ rfl _ rfl _ (by with_reducible exact l5) ?_)
          | fail)
        clear l0 l1 l2 l3 l4 l5 k0 k1 k2 k3 k4
        go_ret
        have hbel := K2.out.bel
        first | refine ⟨congrArg (fun z => Ending.returned (.bool z)) (?_ : _ = valid p m), hbel⟩ | (rw [hq] at hbel; refine ⟨congrArg (fun z => Ending.returned (.bool z)) (?_ : _ = valid p m), hbel⟩)
        rw [hv.out]; simp [none', tells, solicits, routes, asks, answers, redirects, questions, reports, h1, h2, hlk, hmt, hsz]
  · skip
    have l0 := K0.out.lsrc
    have l1 := K0.out.ldst
    have l2 := K0.out.ltarget
    have l3 := K0.out.ldest
    have l4 := K0.out.lz
    have l5 := K0.out.lm
    have k0 := K0.out.kind
    have k1 := K0.out.code
    have k2 := K0.out.flags
    have k3 := K0.out.hops
    have k4 := K0.out.alert
    rw [hk] at k0
    go_wp2_with (first
      | (with_reducible show wpList _ _ _ (⟨some 34, Op.load 23 _, _, _, _, _⟩ :: _) _ _; refine wpList_load_want (by kernel_rfl) 23 _ rfl _ rfl _ (by with_reducible exact l0) ?_)
      | (with_reducible show wpList _ _ _ (⟨some 41, Op.load 23 _, _, _, _, _⟩ :: _) _ _; refine wpList_load_want (by kernel_rfl) 23 _ rfl _ rfl _ (by with_reducible exact l0) ?_)
      | (with_reducible show wpList _ _ _ (⟨some 42, Op.load 23 _, _, _, _, _⟩ :: _) _ _; refine wpList_load_want (by kernel_rfl) 23 _ rfl _ rfl _ (by with_reducible exact l4) ?_)
      | (with_reducible show wpList _ _ _ (⟨some 55, Op.load 23 _, _, _, _, _⟩ :: _) _ _; refine wpList_load_want (by kernel_rfl) 23 _ rfl _ rfl _ (by with_reducible exact l2) ?_)
      | (with_reducible show wpList _ _ _ (⟨some 58, Op.load 23 _, _, _, _, _⟩ :: _) _ _; refine wpList_load_want (by kernel_rfl) 23 _ rfl _ rfl _ (by with_reducible exact l0) ?_)
      | (with_reducible show wpList _ _ _ (⟨some 59, Op.load 23 _, _, _, _, _⟩ :: _) _ _; refine wpList_load_want (by kernel_rfl) 23 _ rfl _ rfl _ (by with_reducible exact l4) ?_)
      | (with_reducible show wpList _ _ _ (⟨some 75, Op.load 23 _, _, _, _, _⟩ :: _) _ _; refine wpList_load_want (by kernel_rfl) 23 _ rfl _ rfl _ (by with_reducible exact l2) ?_)
      | (with_reducible show wpList _ _ _ (⟨some 78, Op.load 23 _, _, _, _, _⟩ :: _) _ _; refine wpList_load_want (by kernel_rfl) 23 _ rfl _ rfl _ (by with_reducible exact l1) ?_)
      | (with_reducible show wpList _ _ _ (⟨some 94, Op.load 23 _, _, _, _, _⟩ :: _) _ _; refine wpList_load_want (by kernel_rfl) 23 _ rfl _ rfl _ (by with_reducible exact l3) ?_)
      | (with_reducible show wpList _ _ _ (⟨some 98, Op.load 23 _, _, _, _, _⟩ :: _) _ _; refine wpList_load_want (by kernel_rfl) 23 _ rfl _ rfl _ (by with_reducible exact l2) ?_)
      | (with_reducible show wpList _ _ _ (⟨some 102, Op.load 23 _, _, _, _, _⟩ :: _) _ _; refine wpList_load_want (by kernel_rfl) 23 _ rfl _ rfl _ (by with_reducible exact l2) ?_)
      | (with_reducible show wpList _ _ _ (⟨some 104, Op.load 23 _, _, _, _, _⟩ :: _) _ _; refine wpList_load_want (by kernel_rfl) 23 _ rfl _ rfl _ (by with_reducible exact l3) ?_)
      | (with_reducible show wpList _ _ _ (⟨some 117, Op.load 23 _, _, _, _, _⟩ :: _) _ _; refine wpList_load_want (by kernel_rfl) 23 _ rfl _ rfl _ (by with_reducible exact l0) ?_)
      | (with_reducible show wpList _ _ _ (⟨some 118, Op.load 23 _, _, _, _, _⟩ :: _) _ _; refine wpList_load_want (by kernel_rfl) 23 _ rfl _ rfl _ (by with_reducible exact l4) ?_)
      | (with_reducible show wpList _ _ _ (⟨some 45, Op.load 35 _, _, _, _, _⟩ :: _) _ _; refine wpList_load_want (by kernel_rfl) 35 _ rfl _ rfl _ (by with_reducible exact l5) ?_)
      | fail)
    refine (link_ref V p.src hA0.out).mono ?_
    rintro r U1 ⟨rfl, bb⟩
    rw [hlk]
    have K1 := hidd (K0.out.to bb)
    clear bb
    clear l0 l1 l2 l3 l4 l5 k0 k1 k2 k3 k4
    have hmt0 := Bool.eq_false_or_eq_true (isMany m.target)
    rcases hmt0 with hmt | hmt
    · skip
      have l0 := K1.out.lsrc
      have l1 := K1.out.ldst
      have l2 := K1.out.ltarget
      have l3 := K1.out.ldest
      have l4 := K1.out.lz
      have l5 := K1.out.lm
      have k0 := K1.out.kind
      have k1 := K1.out.code
      have k2 := K1.out.flags
      have k3 := K1.out.hops
      have k4 := K1.out.alert
      rw [hk] at k0
      go_wp2_with (first
        | (with_reducible show wpList _ _ _ (⟨some 34, Op.load 23 _, _, _, _, _⟩ :: _) _ _; refine wpList_load_want (by kernel_rfl) 23 _ rfl _ rfl _ (by with_reducible exact l0) ?_)
        | (with_reducible show wpList _ _ _ (⟨some 41, Op.load 23 _, _, _, _, _⟩ :: _) _ _; refine wpList_load_want (by kernel_rfl) 23 _ rfl _ rfl _ (by with_reducible exact l0) ?_)
        | (with_reducible show wpList _ _ _ (⟨some 42, Op.load 23 _, _, _, _, _⟩ :: _) _ _; refine wpList_load_want (by kernel_rfl) 23 _ rfl _ rfl _ (by with_reducible exact l4) ?_)
        | (with_reducible show wpList _ _ _ (⟨some 55, Op.load 23 _, _, _, _, _⟩ :: _) _ _; refine wpList_load_want (by kernel_rfl) 23 _ rfl _ rfl _ (by with_reducible exact l2) ?_)
        | (with_reducible show wpList _ _ _ (⟨some 58, Op.load 23 _, _, _, _, _⟩ :: _) _ _; refine wpList_load_want (by kernel_rfl) 23 _ rfl _ rfl _ (by with_reducible exact l0) ?_)
        | (with_reducible show wpList _ _ _ (⟨some 59, Op.load 23 _, _, _, _, _⟩ :: _) _ _; refine wpList_load_want (by kernel_rfl) 23 _ rfl _ rfl _ (by with_reducible exact l4) ?_)
        | (with_reducible show wpList _ _ _ (⟨some 75, Op.load 23 _, _, _, _, _⟩ :: _) _ _; refine wpList_load_want (by kernel_rfl) 23 _ rfl _ rfl _ (by with_reducible exact l2) ?_)
        | (with_reducible show wpList _ _ _ (⟨some 78, Op.load 23 _, _, _, _, _⟩ :: _) _ _; refine wpList_load_want (by kernel_rfl) 23 _ rfl _ rfl _ (by with_reducible exact l1) ?_)
        | (with_reducible show wpList _ _ _ (⟨some 94, Op.load 23 _, _, _, _, _⟩ :: _) _ _; refine wpList_load_want (by kernel_rfl) 23 _ rfl _ rfl _ (by with_reducible exact l3) ?_)
        | (with_reducible show wpList _ _ _ (⟨some 98, Op.load 23 _, _, _, _, _⟩ :: _) _ _; refine wpList_load_want (by kernel_rfl) 23 _ rfl _ rfl _ (by with_reducible exact l2) ?_)
        | (with_reducible show wpList _ _ _ (⟨some 102, Op.load 23 _, _, _, _, _⟩ :: _) _ _; refine wpList_load_want (by kernel_rfl) 23 _ rfl _ rfl _ (by with_reducible exact l2) ?_)
        | (with_reducible show wpList _ _ _ (⟨some 104, Op.load 23 _, _, _, _, _⟩ :: _) _ _; refine wpList_load_want (by kernel_rfl) 23 _ rfl _ rfl _ (by with_reducible exact l3) ?_)
        | (with_reducible show wpList _ _ _ (⟨some 117, Op.load 23 _, _, _, _, _⟩ :: _) _ _; refine wpList_load_want (by kernel_rfl) 23 _ rfl _ rfl _ (by with_reducible exact l0) ?_)
        | (with_reducible show wpList _ _ _ (⟨some 118, Op.load 23 _, _, _, _, _⟩ :: _) _ _; refine wpList_load_want (by kernel_rfl) 23 _ rfl _ rfl _ (by with_reducible exact l4) ?_)
        | (with_reducible show wpList _ _ _ (⟨some 45, Op.load 35 _, _, _, _, _⟩ :: _) _ _; refine wpList_load_want (by kernel_rfl) 35 _ rfl _ rfl _ (by with_reducible exact l5) ?_)
        | fail)
      refine (many_ref U1 m.target hA2.out).mono ?_
      rintro r U2 ⟨rfl, bb⟩
      rw [hmt]
      have K2 := hidd (K1.out.to bb)
      clear bb
      clear l0 l1 l2 l3 l4 l5 k0 k1 k2 k3 k4
      have l0 := K2.out.lsrc
      have l1 := K2.out.ldst
      have l2 := K2.out.ltarget
      have l3 := K2.out.ldest
      have l4 := K2.out.lz
      have l5 := K2.out.lm
      have k0 := K2.out.kind
      have k1 := K2.out.code
      have k2 := K2.out.flags
      have k3 := K2.out.hops
      have k4 := K2.out.alert
      rw [hk] at k0
      go_wp2_with (first
        | (with_reducible show wpList _ _ _ (⟨some 34, Op.load 23 _, _, _, _, _⟩ :: _) _ _; refine wpList_load_want (by kernel_rfl) 23 _ rfl _ rfl _ (by with_reducible exact l0) ?_)
        | (with_reducible show wpList _ _ _ (⟨some 41, Op.load 23 _, _, _, _, _⟩ :: _) _ _; refine wpList_load_want (by kernel_rfl) 23 _ rfl _ rfl _ (by with_reducible exact l0) ?_)
        | (with_reducible show wpList _ _ _ (⟨some 42, Op.load 23 _, _, _, _, _⟩ :: _) _ _; refine wpList_load_want (by kernel_rfl) 23 _ rfl _ rfl _ (by with_reducible exact l4) ?_)
        | (with_reducible show wpList _ _ _ (⟨some 55, Op.load 23 _, _, _, _, _⟩ :: _) _ _; refine wpList_load_want (by kernel_rfl) 23 _ rfl _ rfl _ (by with_reducible exact l2) ?_)
        | (with_reducible show wpList _ _ _ (⟨some 58, Op.load 23 _, _, _, _, _⟩ :: _) _ _; refine wpList_load_want (by kernel_rfl) 23 _ rfl _ rfl _ (by with_reducible exact l0) ?_)
        | (with_reducible show wpList _ _ _ (⟨some 59, Op.load 23 _, _, _, _, _⟩ :: _) _ _; refine wpList_load_want (by kernel_rfl) 23 _ rfl _ rfl _ (by with_reducible exact l4) ?_)
        | (with_reducible show wpList _ _ _ (⟨some 75, Op.load 23 _, _, _, _, _⟩ :: _) _ _; refine wpList_load_want (by kernel_rfl) 23 _ rfl _ rfl _ (by with_reducible exact l2) ?_)
        | (with_reducible show wpList _ _ _ (⟨some 78, Op.load 23 _, _, _, _, _⟩ :: _) _ _; refine wpList_load_want (by kernel_rfl) 23 _ rfl _ rfl _ (by with_reducible exact l1) ?_)
        | (with_reducible show wpList _ _ _ (⟨some 94, Op.load 23 _, _, _, _, _⟩ :: _) _ _; refine wpList_load_want (by kernel_rfl) 23 _ rfl _ rfl _ (by with_reducible exact l3) ?_)
        | (with_reducible show wpList _ _ _ (⟨some 98, Op.load 23 _, _, _, _, _⟩ :: _) _ _; refine wpList_load_want (by kernel_rfl) 23 _ rfl _ rfl _ (by with_reducible exact l2) ?_)
        | (with_reducible show wpList _ _ _ (⟨some 102, Op.load 23 _, _, _, _, _⟩ :: _) _ _; refine wpList_load_want (by kernel_rfl) 23 _ rfl _ rfl _ (by with_reducible exact l2) ?_)
        | (with_reducible show wpList _ _ _ (⟨some 104, Op.load 23 _, _, _, _, _⟩ :: _) _ _; refine wpList_load_want (by kernel_rfl) 23 _ rfl _ rfl _ (by with_reducible exact l3) ?_)
        | (with_reducible show wpList _ _ _ (⟨some 117, Op.load 23 _, _, _, _, _⟩ :: _) _ _; refine wpList_load_want (by kernel_rfl) 23 _ rfl _ rfl _ (by with_reducible exact l0) ?_)
        | (with_reducible show wpList _ _ _ (⟨some 118, Op.load 23 _, _, _, _, _⟩ :: _) _ _; refine wpList_load_want (by kernel_rfl) 23 _ rfl _ rfl _ (by with_reducible exact l4) ?_)
        | (with_reducible show wpList _ _ _ (⟨some 45, Op.load 35 _, _, _, _, _⟩ :: _) _ _; refine wpList_load_want (by kernel_rfl) 35 _ rfl _ rfl _ (by with_reducible exact l5) ?_)
        | fail)
      clear l0 l1 l2 l3 l4 l5 k0 k1 k2 k3 k4
      go_ret
      have hbel := K2.out.bel
      first | refine ⟨congrArg (fun z => Ending.returned (.bool z)) (?_ : _ = valid p m), hbel⟩ | (rw [hq] at hbel; refine ⟨congrArg (fun z => Ending.returned (.bool z)) (?_ : _ = valid p m), hbel⟩)
      rw [hv.out]; simp [none', tells, solicits, routes, asks, answers, redirects, questions, reports, h1, h2, hlk, hmt]
    · skip
      have l0 := K1.out.lsrc
      have l1 := K1.out.ldst
      have l2 := K1.out.ltarget
      have l3 := K1.out.ldest
      have l4 := K1.out.lz
      have l5 := K1.out.lm
      have k0 := K1.out.kind
      have k1 := K1.out.code
      have k2 := K1.out.flags
      have k3 := K1.out.hops
      have k4 := K1.out.alert
      rw [hk] at k0
      go_wp2_with (first
        | (with_reducible show wpList _ _ _ (⟨some 34, Op.load 23 _, _, _, _, _⟩ :: _) _ _; refine wpList_load_want (by kernel_rfl) 23 _ rfl _ rfl _ (by with_reducible exact l0) ?_)
        | (with_reducible show wpList _ _ _ (⟨some 41, Op.load 23 _, _, _, _, _⟩ :: _) _ _; refine wpList_load_want (by kernel_rfl) 23 _ rfl _ rfl _ (by with_reducible exact l0) ?_)
        | (with_reducible show wpList _ _ _ (⟨some 42, Op.load 23 _, _, _, _, _⟩ :: _) _ _; refine wpList_load_want (by kernel_rfl) 23 _ rfl _ rfl _ (by with_reducible exact l4) ?_)
        | (with_reducible show wpList _ _ _ (⟨some 55, Op.load 23 _, _, _, _, _⟩ :: _) _ _; refine wpList_load_want (by kernel_rfl) 23 _ rfl _ rfl _ (by with_reducible exact l2) ?_)
        | (with_reducible show wpList _ _ _ (⟨some 58, Op.load 23 _, _, _, _, _⟩ :: _) _ _; refine wpList_load_want (by kernel_rfl) 23 _ rfl _ rfl _ (by with_reducible exact l0) ?_)
        | (with_reducible show wpList _ _ _ (⟨some 59, Op.load 23 _, _, _, _, _⟩ :: _) _ _; refine wpList_load_want (by kernel_rfl) 23 _ rfl _ rfl _ (by with_reducible exact l4) ?_)
        | (with_reducible show wpList _ _ _ (⟨some 75, Op.load 23 _, _, _, _, _⟩ :: _) _ _; refine wpList_load_want (by kernel_rfl) 23 _ rfl _ rfl _ (by with_reducible exact l2) ?_)
        | (with_reducible show wpList _ _ _ (⟨some 78, Op.load 23 _, _, _, _, _⟩ :: _) _ _; refine wpList_load_want (by kernel_rfl) 23 _ rfl _ rfl _ (by with_reducible exact l1) ?_)
        | (with_reducible show wpList _ _ _ (⟨some 94, Op.load 23 _, _, _, _, _⟩ :: _) _ _; refine wpList_load_want (by kernel_rfl) 23 _ rfl _ rfl _ (by with_reducible exact l3) ?_)
        | (with_reducible show wpList _ _ _ (⟨some 98, Op.load 23 _, _, _, _, _⟩ :: _) _ _; refine wpList_load_want (by kernel_rfl) 23 _ rfl _ rfl _ (by with_reducible exact l2) ?_)
        | (with_reducible show wpList _ _ _ (⟨some 102, Op.load 23 _, _, _, _, _⟩ :: _) _ _; refine wpList_load_want (by kernel_rfl) 23 _ rfl _ rfl _ (by with_reducible exact l2) ?_)
        | (with_reducible show wpList _ _ _ (⟨some 104, Op.load 23 _, _, _, _, _⟩ :: _) _ _; refine wpList_load_want (by kernel_rfl) 23 _ rfl _ rfl _ (by with_reducible exact l3) ?_)
        | (with_reducible show wpList _ _ _ (⟨some 117, Op.load 23 _, _, _, _, _⟩ :: _) _ _; refine wpList_load_want (by kernel_rfl) 23 _ rfl _ rfl _ (by with_reducible exact l0) ?_)
        | (with_reducible show wpList _ _ _ (⟨some 118, Op.load 23 _, _, _, _, _⟩ :: _) _ _; refine wpList_load_want (by kernel_rfl) 23 _ rfl _ rfl _ (by with_reducible exact l4) ?_)
        | (with_reducible show wpList _ _ _ (⟨some 45, Op.load 35 _, _, _, _, _⟩ :: _) _ _; refine wpList_load_want (by kernel_rfl) 35 _ rfl _ rfl _ (by with_reducible exact l5) ?_)
        | fail)
      refine (many_ref U1 m.target hA2.out).mono ?_
      rintro r U2 ⟨rfl, bb⟩
      rw [hmt]
      have K2 := hidd (K1.out.to bb)
      clear bb
      clear l0 l1 l2 l3 l4 l5 k0 k1 k2 k3 k4
      have hsz0 := Bool.eq_false_or_eq_true (p.src == zeroA)
      rcases hsz0 with hsz | hsz
      · skip
        have es := fun V => (eqA V hA0.out zeroA_is).trans (by rw [hsz])
        have hds0 := Bool.eq_false_or_eq_true (p.dst == soli m.target)
        rcases hds0 with hds | hds
        · skip
          have ed := fun V => (eqA V hA1.out (soli_is hA2.out)).trans (by rw [hds])
          have hte0 := Bool.eq_false_or_eq_true (tells m)
          rcases hte0 with hte | hte
          · skip
            have htk : (m.ks.any (· == 1)) = _ := hte
            have l0 := K2.out.lsrc
            have l1 := K2.out.ldst
            have l2 := K2.out.ltarget
            have l3 := K2.out.ldest
            have l4 := K2.out.lz
            have l5 := K2.out.lm
            have k0 := K2.out.kind
            have k1 := K2.out.code
            have k2 := K2.out.flags
            have k3 := K2.out.hops
            have k4 := K2.out.alert
            rw [hk] at k0
            go_wp2_with (first
              | (with_reducible show wpList _ _ _ (⟨some 34, Op.load 23 _, _, _, _, _⟩ :: _) _ _; refine wpList_load_want (by kernel_rfl) 23 _ rfl _ rfl _ (by with_reducible exact l0) ?_)
              | (with_reducible show wpList _ _ _ (⟨some 41, Op.load 23 _, _, _, _, _⟩ :: _) _ _; refine wpList_load_want (by kernel_rfl) 23 _ rfl _ rfl _ (by with_reducible exact l0) ?_)
              | (with_reducible show wpList _ _ _ (⟨some 42, Op.load 23 _, _, _, _, _⟩ :: _) _ _; refine wpList_load_want (by kernel_rfl) 23 _ rfl _ rfl _ (by with_reducible exact l4) ?_)
              | (with_reducible show wpList _ _ _ (⟨some 55, Op.load 23 _, _, _, _, _⟩ :: _) _ _; refine wpList_load_want (by kernel_rfl) 23 _ rfl _ rfl _ (by with_reducible exact l2) ?_)
              | (with_reducible show wpList _ _ _ (⟨some 58, Op.load 23 _, _, _, _, _⟩ :: _) _ _; refine wpList_load_want (by kernel_rfl) 23 _ rfl _ rfl _ (by with_reducible exact l0) ?_)
              | (with_reducible show wpList _ _ _ (⟨some 59, Op.load 23 _, _, _, _, _⟩ :: _) _ _; refine wpList_load_want (by kernel_rfl) 23 _ rfl _ rfl _ (by with_reducible exact l4) ?_)
              | (with_reducible show wpList _ _ _ (⟨some 75, Op.load 23 _, _, _, _, _⟩ :: _) _ _; refine wpList_load_want (by kernel_rfl) 23 _ rfl _ rfl _ (by with_reducible exact l2) ?_)
              | (with_reducible show wpList _ _ _ (⟨some 78, Op.load 23 _, _, _, _, _⟩ :: _) _ _; refine wpList_load_want (by kernel_rfl) 23 _ rfl _ rfl _ (by with_reducible exact l1) ?_)
              | (with_reducible show wpList _ _ _ (⟨some 94, Op.load 23 _, _, _, _, _⟩ :: _) _ _; refine wpList_load_want (by kernel_rfl) 23 _ rfl _ rfl _ (by with_reducible exact l3) ?_)
              | (with_reducible show wpList _ _ _ (⟨some 98, Op.load 23 _, _, _, _, _⟩ :: _) _ _; refine wpList_load_want (by kernel_rfl) 23 _ rfl _ rfl _ (by with_reducible exact l2) ?_)
              | (with_reducible show wpList _ _ _ (⟨some 102, Op.load 23 _, _, _, _, _⟩ :: _) _ _; refine wpList_load_want (by kernel_rfl) 23 _ rfl _ rfl _ (by with_reducible exact l2) ?_)
              | (with_reducible show wpList _ _ _ (⟨some 104, Op.load 23 _, _, _, _, _⟩ :: _) _ _; refine wpList_load_want (by kernel_rfl) 23 _ rfl _ rfl _ (by with_reducible exact l3) ?_)
              | (with_reducible show wpList _ _ _ (⟨some 117, Op.load 23 _, _, _, _, _⟩ :: _) _ _; refine wpList_load_want (by kernel_rfl) 23 _ rfl _ rfl _ (by with_reducible exact l0) ?_)
              | (with_reducible show wpList _ _ _ (⟨some 118, Op.load 23 _, _, _, _, _⟩ :: _) _ _; refine wpList_load_want (by kernel_rfl) 23 _ rfl _ rfl _ (by with_reducible exact l4) ?_)
              | (with_reducible show wpList _ _ _ (⟨some 45, Op.load 35 _, _, _, _, _⟩ :: _) _ _; refine wpList_load_want (by kernel_rfl) 35 _ rfl _ rfl _ (by with_reducible exact l5) ?_)
              | fail)
            clear l0 l1 l2 l3 l4 l5 k0 k1 k2 k3 k4
            have Kd := hidd (K2.out.to (below_drew U2))
            refine wp_region_held_drew (S := (fun V => (loadVar 23 ⟨q, 16, none⟩).run Tryd.prog V = .ok (.agg (bytesV p.dst)) V ∧ (loadVar 23 ⟨q + 1, 9, none⟩).run Tryd.prog V = .ok (.agg (bytesV m.target)) V ∧ (loadVar 35 ⟨q + 1, 0, none⟩).run Tryd.prog V = .ok (.agg ms) V)) (by kernel_rfl) ⟨Kd.out.ldst, Kd.out.ltarget, Kd.out.lm⟩ (fun hHeld => ?_)
            generalize U2.drew = D at Kd hHeld ⊢
            refine wpAnyH_take (i := 0) (v := ?_) rfl (by kernel_rfl) (by kernel_rfl) (by kernel_rfl) (fun _ _ _ h => h) (Or.inl ⟨by kernel_rfl, ?_⟩) hHeld ?_
            rotate_left
            · intro wh hSw
              go_simp
              try with_reducible rfl
            try simp only [Act.put, List.getElem_toArray, List.getElem_cons_zero, List.getElem_cons_succ, List.setIfInBounds_toArray, List.set_cons_zero, List.set_cons_succ]
            refine wpAnyH_take (i := 1) rfl (by kernel_rfl) (by kernel_rfl) (by kernel_rfl) (fun _ _ _ h => h) (yieldsIf_load_want (by kernel_rfl) 23 _ rfl _ rfl _ (fun wh hSw => hSw.1)) hHeld ?_
            try simp only [Act.put, List.getElem_toArray, List.getElem_cons_zero, List.getElem_cons_succ, List.setIfInBounds_toArray, List.set_cons_zero, List.set_cons_succ]
            refine wpAnyH_take (i := 2) (v := ?_) rfl (by kernel_rfl) (by kernel_rfl) (by kernel_rfl) (fun _ _ _ h => h) (Or.inl ⟨by kernel_rfl, ?_⟩) hHeld ?_
            rotate_left
            · intro wh hSw
              go_simp
              try with_reducible rfl
            try simp only [Act.put, List.getElem_toArray, List.getElem_cons_zero, List.getElem_cons_succ, List.setIfInBounds_toArray, List.set_cons_zero, List.set_cons_succ]
            refine wpAnyH_take (i := 3) rfl (by kernel_rfl) (by kernel_rfl) (by kernel_rfl) (fun _ _ _ h => h) (yieldsIf_load_want (by kernel_rfl) 23 _ rfl _ rfl _ (fun wh hSw => hSw.2.1)) hHeld ?_
            try simp only [Act.put, List.getElem_toArray, List.getElem_cons_zero, List.getElem_cons_succ, List.setIfInBounds_toArray, List.set_cons_zero, List.set_cons_succ]
            refine wpAnyH_ready (rs := [4]) (by kernel_rfl) (by simp) (AllReadyH.cons rfl (fun K hK => ?_) AllReadyH.nil)
            clear hHeld
            go_simp
            refine (soli_ref D m.target hA2.out).mono ?_
            rintro r E ⟨rfl, bb⟩
            dsimp only
            have Ke := hidd (Kd.out.to bb)
            clear bb Kd
            refine hK.out _ _ ⟨Ke.out.ldst, Ke.out.ltarget, Ke.out.lm⟩ (fun hHeld => ?_)
            clear hK K
            try simp only [Act.put, List.getElem_toArray, List.getElem_cons_zero, List.getElem_cons_succ, List.setIfInBounds_toArray, List.set_cons_zero, List.set_cons_succ]
            refine wpAnyH_take (i := 5) (v := ?_) rfl (by kernel_rfl) (by kernel_rfl) (by kernel_rfl) (fun _ _ _ h => h) (Or.inl ⟨by kernel_rfl, ?_⟩) hHeld ?_
            rotate_left
            · intro wh hSw
              go_simp
              try with_reducible rfl
            try simp only [Act.put, List.getElem_toArray, List.getElem_cons_zero, List.getElem_cons_succ, List.setIfInBounds_toArray, List.set_cons_zero, List.set_cons_succ]
            refine wpAnyH_take (i := 6) (v := ?_) rfl (by kernel_rfl) (by kernel_rfl) (by kernel_rfl) (fun _ _ _ h => h) (Or.inl ⟨by kernel_rfl, ?_⟩) hHeld ?_
            rotate_left
            · intro wh hSw
              go_simp
              try with_reducible rfl
            try simp only [Act.put, List.getElem_toArray, List.getElem_cons_zero, List.getElem_cons_succ, List.setIfInBounds_toArray, List.set_cons_zero, List.set_cons_succ]
            refine wpAnyH_take (i := 7) rfl (by kernel_rfl) (by kernel_rfl) (by kernel_rfl) (fun _ _ _ h => h) (yieldsIf_load_want (by kernel_rfl) 35 _ rfl _ rfl _ (fun wh hSw => hSw.2.2)) hHeld ?_
            try simp only [Act.put, List.getElem_toArray, List.getElem_cons_zero, List.getElem_cons_succ, List.setIfInBounds_toArray, List.set_cons_zero, List.set_cons_succ]
            refine wpAnyH_ready (rs := [8]) (by kernel_rfl) (by simp) (AllReadyH.cons rfl (fun K hK => ?_) AllReadyH.nil)
            clear hHeld
            go_simp
            refine (source_ref E ms m Ke.out.ms).mono ?_
            rintro r E2 ⟨rfl, bb⟩
            rw [hte]
            dsimp only
            have K9 := hidd (Ke.out.to bb)
            clear bb Ke
            refine hK.out _ _ ⟨K9.out.ldst, K9.out.ltarget, K9.out.lm⟩ (fun hHeld => ?_)
            clear hK K
            try simp only [Act.put, List.getElem_toArray, List.getElem_cons_zero, List.getElem_cons_succ, List.setIfInBounds_toArray, List.set_cons_zero, List.set_cons_succ]
            refine wpAnyH_take (i := 9) (v := ?_) rfl (by kernel_rfl) (by kernel_rfl) (by kernel_rfl) (fun _ _ _ h => h) (Or.inl ⟨by kernel_rfl, ?_⟩) hHeld ?_
            rotate_left
            · intro wh hSw
              go_simp
              try with_reducible rfl
            try simp only [Act.put, List.getElem_toArray, List.getElem_cons_zero, List.getElem_cons_succ, List.setIfInBounds_toArray, List.set_cons_zero, List.set_cons_succ]
            refine wpAnyH_take (i := 10) (v := ?_) rfl (by kernel_rfl) (by kernel_rfl) (by kernel_rfl) (fun _ _ _ h => h) (Or.inl ⟨by kernel_rfl, ?_⟩) hHeld ?_
            rotate_left
            · intro wh hSw
              go_simp
              try with_reducible rfl
            try simp only [Act.put, List.getElem_toArray, List.getElem_cons_zero, List.getElem_cons_succ, List.setIfInBounds_toArray, List.set_cons_zero, List.set_cons_succ]
            refine wpAnyH_take (i := 11) (v := ?_) rfl (by kernel_rfl) (by kernel_rfl) (by kernel_rfl) (fun _ _ _ h => h) (Or.inl ⟨by kernel_rfl, ?_⟩) hHeld ?_
            rotate_left
            · intro wh hSw
              go_simp
              try with_reducible rfl
            try simp only [Act.put, List.getElem_toArray, List.getElem_cons_zero, List.getElem_cons_succ, List.setIfInBounds_toArray, List.set_cons_zero, List.set_cons_succ]
            refine wpAnyH_done (by kernel_rfl) ?_ _
            clear hHeld
            go_wp2
            go_ret
            have hbel := K9.out.bel
            first | refine ⟨congrArg (fun z => Ending.returned (.bool z)) (?_ : _ = valid p m), hbel⟩ | (rw [hq] at hbel; refine ⟨congrArg (fun z => Ending.returned (.bool z)) (?_ : _ = valid p m), hbel⟩)
            rw [hv.out]; simp [none', tells, solicits, routes, asks, answers, redirects, questions, reports, h1, h2, hlk, hmt, hsz, hds, hte, htk]
          · skip
            have htk : (m.ks.any (· == 1)) = _ := hte
            have l0 := K2.out.lsrc
            have l1 := K2.out.ldst
            have l2 := K2.out.ltarget
            have l3 := K2.out.ldest
            have l4 := K2.out.lz
            have l5 := K2.out.lm
            have k0 := K2.out.kind
            have k1 := K2.out.code
            have k2 := K2.out.flags
            have k3 := K2.out.hops
            have k4 := K2.out.alert
            rw [hk] at k0
            go_wp2_with (first
              | (with_reducible show wpList _ _ _ (⟨some 34, Op.load 23 _, _, _, _, _⟩ :: _) _ _; refine wpList_load_want (by kernel_rfl) 23 _ rfl _ rfl _ (by with_reducible exact l0) ?_)
              | (with_reducible show wpList _ _ _ (⟨some 41, Op.load 23 _, _, _, _, _⟩ :: _) _ _; refine wpList_load_want (by kernel_rfl) 23 _ rfl _ rfl _ (by with_reducible exact l0) ?_)
              | (with_reducible show wpList _ _ _ (⟨some 42, Op.load 23 _, _, _, _, _⟩ :: _) _ _; refine wpList_load_want (by kernel_rfl) 23 _ rfl _ rfl _ (by with_reducible exact l4) ?_)
              | (with_reducible show wpList _ _ _ (⟨some 55, Op.load 23 _, _, _, _, _⟩ :: _) _ _; refine wpList_load_want (by kernel_rfl) 23 _ rfl _ rfl _ (by with_reducible exact l2) ?_)
              | (with_reducible show wpList _ _ _ (⟨some 58, Op.load 23 _, _, _, _, _⟩ :: _) _ _; refine wpList_load_want (by kernel_rfl) 23 _ rfl _ rfl _ (by with_reducible exact l0) ?_)
              | (with_reducible show wpList _ _ _ (⟨some 59, Op.load 23 _, _, _, _, _⟩ :: _) _ _; refine wpList_load_want (by kernel_rfl) 23 _ rfl _ rfl _ (by with_reducible exact l4) ?_)
              | (with_reducible show wpList _ _ _ (⟨some 75, Op.load 23 _, _, _, _, _⟩ :: _) _ _; refine wpList_load_want (by kernel_rfl) 23 _ rfl _ rfl _ (by with_reducible exact l2) ?_)
              | (with_reducible show wpList _ _ _ (⟨some 78, Op.load 23 _, _, _, _, _⟩ :: _) _ _; refine wpList_load_want (by kernel_rfl) 23 _ rfl _ rfl _ (by with_reducible exact l1) ?_)
              | (with_reducible show wpList _ _ _ (⟨some 94, Op.load 23 _, _, _, _, _⟩ :: _) _ _; refine wpList_load_want (by kernel_rfl) 23 _ rfl _ rfl _ (by with_reducible exact l3) ?_)
              | (with_reducible show wpList _ _ _ (⟨some 98, Op.load 23 _, _, _, _, _⟩ :: _) _ _; refine wpList_load_want (by kernel_rfl) 23 _ rfl _ rfl _ (by with_reducible exact l2) ?_)
              | (with_reducible show wpList _ _ _ (⟨some 102, Op.load 23 _, _, _, _, _⟩ :: _) _ _; refine wpList_load_want (by kernel_rfl) 23 _ rfl _ rfl _ (by with_reducible exact l2) ?_)
              | (with_reducible show wpList _ _ _ (⟨some 104, Op.load 23 _, _, _, _, _⟩ :: _) _ _; refine wpList_load_want (by kernel_rfl) 23 _ rfl _ rfl _ (by with_reducible exact l3) ?_)
              | (with_reducible show wpList _ _ _ (⟨some 117, Op.load 23 _, _, _, _, _⟩ :: _) _ _; refine wpList_load_want (by kernel_rfl) 23 _ rfl _ rfl _ (by with_reducible exact l0) ?_)
              | (with_reducible show wpList _ _ _ (⟨some 118, Op.load 23 _, _, _, _, _⟩ :: _) _ _; refine wpList_load_want (by kernel_rfl) 23 _ rfl _ rfl _ (by with_reducible exact l4) ?_)
              | (with_reducible show wpList _ _ _ (⟨some 45, Op.load 35 _, _, _, _, _⟩ :: _) _ _; refine wpList_load_want (by kernel_rfl) 35 _ rfl _ rfl _ (by with_reducible exact l5) ?_)
              | fail)
            clear l0 l1 l2 l3 l4 l5 k0 k1 k2 k3 k4
            have Kd := hidd (K2.out.to (below_drew U2))
            refine wp_region_held_drew (S := (fun V => (loadVar 23 ⟨q, 16, none⟩).run Tryd.prog V = .ok (.agg (bytesV p.dst)) V ∧ (loadVar 23 ⟨q + 1, 9, none⟩).run Tryd.prog V = .ok (.agg (bytesV m.target)) V ∧ (loadVar 35 ⟨q + 1, 0, none⟩).run Tryd.prog V = .ok (.agg ms) V)) (by kernel_rfl) ⟨Kd.out.ldst, Kd.out.ltarget, Kd.out.lm⟩ (fun hHeld => ?_)
            generalize U2.drew = D at Kd hHeld ⊢
            refine wpAnyH_take (i := 0) (v := ?_) rfl (by kernel_rfl) (by kernel_rfl) (by kernel_rfl) (fun _ _ _ h => h) (Or.inl ⟨by kernel_rfl, ?_⟩) hHeld ?_
            rotate_left
            · intro wh hSw
              go_simp
              try with_reducible rfl
            try simp only [Act.put, List.getElem_toArray, List.getElem_cons_zero, List.getElem_cons_succ, List.setIfInBounds_toArray, List.set_cons_zero, List.set_cons_succ]
            refine wpAnyH_take (i := 1) rfl (by kernel_rfl) (by kernel_rfl) (by kernel_rfl) (fun _ _ _ h => h) (yieldsIf_load_want (by kernel_rfl) 23 _ rfl _ rfl _ (fun wh hSw => hSw.1)) hHeld ?_
            try simp only [Act.put, List.getElem_toArray, List.getElem_cons_zero, List.getElem_cons_succ, List.setIfInBounds_toArray, List.set_cons_zero, List.set_cons_succ]
            refine wpAnyH_take (i := 2) (v := ?_) rfl (by kernel_rfl) (by kernel_rfl) (by kernel_rfl) (fun _ _ _ h => h) (Or.inl ⟨by kernel_rfl, ?_⟩) hHeld ?_
            rotate_left
            · intro wh hSw
              go_simp
              try with_reducible rfl
            try simp only [Act.put, List.getElem_toArray, List.getElem_cons_zero, List.getElem_cons_succ, List.setIfInBounds_toArray, List.set_cons_zero, List.set_cons_succ]
            refine wpAnyH_take (i := 3) rfl (by kernel_rfl) (by kernel_rfl) (by kernel_rfl) (fun _ _ _ h => h) (yieldsIf_load_want (by kernel_rfl) 23 _ rfl _ rfl _ (fun wh hSw => hSw.2.1)) hHeld ?_
            try simp only [Act.put, List.getElem_toArray, List.getElem_cons_zero, List.getElem_cons_succ, List.setIfInBounds_toArray, List.set_cons_zero, List.set_cons_succ]
            refine wpAnyH_ready (rs := [4]) (by kernel_rfl) (by simp) (AllReadyH.cons rfl (fun K hK => ?_) AllReadyH.nil)
            clear hHeld
            go_simp
            refine (soli_ref D m.target hA2.out).mono ?_
            rintro r E ⟨rfl, bb⟩
            dsimp only
            have Ke := hidd (Kd.out.to bb)
            clear bb Kd
            refine hK.out _ _ ⟨Ke.out.ldst, Ke.out.ltarget, Ke.out.lm⟩ (fun hHeld => ?_)
            clear hK K
            try simp only [Act.put, List.getElem_toArray, List.getElem_cons_zero, List.getElem_cons_succ, List.setIfInBounds_toArray, List.set_cons_zero, List.set_cons_succ]
            refine wpAnyH_take (i := 5) (v := ?_) rfl (by kernel_rfl) (by kernel_rfl) (by kernel_rfl) (fun _ _ _ h => h) (Or.inl ⟨by kernel_rfl, ?_⟩) hHeld ?_
            rotate_left
            · intro wh hSw
              go_simp
              try with_reducible rfl
            try simp only [Act.put, List.getElem_toArray, List.getElem_cons_zero, List.getElem_cons_succ, List.setIfInBounds_toArray, List.set_cons_zero, List.set_cons_succ]
            refine wpAnyH_take (i := 6) (v := ?_) rfl (by kernel_rfl) (by kernel_rfl) (by kernel_rfl) (fun _ _ _ h => h) (Or.inl ⟨by kernel_rfl, ?_⟩) hHeld ?_
            rotate_left
            · intro wh hSw
              go_simp
              try with_reducible rfl
            try simp only [Act.put, List.getElem_toArray, List.getElem_cons_zero, List.getElem_cons_succ, List.setIfInBounds_toArray, List.set_cons_zero, List.set_cons_succ]
            refine wpAnyH_take (i := 7) rfl (by kernel_rfl) (by kernel_rfl) (by kernel_rfl) (fun _ _ _ h => h) (yieldsIf_load_want (by kernel_rfl) 35 _ rfl _ rfl _ (fun wh hSw => hSw.2.2)) hHeld ?_
            try simp only [Act.put, List.getElem_toArray, List.getElem_cons_zero, List.getElem_cons_succ, List.setIfInBounds_toArray, List.set_cons_zero, List.set_cons_succ]
            refine wpAnyH_ready (rs := [8]) (by kernel_rfl) (by simp) (AllReadyH.cons rfl (fun K hK => ?_) AllReadyH.nil)
            clear hHeld
            go_simp
            refine (source_ref E ms m Ke.out.ms).mono ?_
            rintro r E2 ⟨rfl, bb⟩
            rw [hte]
            dsimp only
            have K9 := hidd (Ke.out.to bb)
            clear bb Ke
            refine hK.out _ _ ⟨K9.out.ldst, K9.out.ltarget, K9.out.lm⟩ (fun hHeld => ?_)
            clear hK K
            try simp only [Act.put, List.getElem_toArray, List.getElem_cons_zero, List.getElem_cons_succ, List.setIfInBounds_toArray, List.set_cons_zero, List.set_cons_succ]
            refine wpAnyH_take (i := 9) (v := ?_) rfl (by kernel_rfl) (by kernel_rfl) (by kernel_rfl) (fun _ _ _ h => h) (Or.inl ⟨by kernel_rfl, ?_⟩) hHeld ?_
            rotate_left
            · intro wh hSw
              go_simp
              try with_reducible rfl
            try simp only [Act.put, List.getElem_toArray, List.getElem_cons_zero, List.getElem_cons_succ, List.setIfInBounds_toArray, List.set_cons_zero, List.set_cons_succ]
            refine wpAnyH_take (i := 10) (v := ?_) rfl (by kernel_rfl) (by kernel_rfl) (by kernel_rfl) (fun _ _ _ h => h) (Or.inl ⟨by kernel_rfl, ?_⟩) hHeld ?_
            rotate_left
            · intro wh hSw
              go_simp
              try with_reducible rfl
            try simp only [Act.put, List.getElem_toArray, List.getElem_cons_zero, List.getElem_cons_succ, List.setIfInBounds_toArray, List.set_cons_zero, List.set_cons_succ]
            refine wpAnyH_take (i := 11) (v := ?_) rfl (by kernel_rfl) (by kernel_rfl) (by kernel_rfl) (fun _ _ _ h => h) (Or.inl ⟨by kernel_rfl, ?_⟩) hHeld ?_
            rotate_left
            · intro wh hSw
              go_simp
              try with_reducible rfl
            try simp only [Act.put, List.getElem_toArray, List.getElem_cons_zero, List.getElem_cons_succ, List.setIfInBounds_toArray, List.set_cons_zero, List.set_cons_succ]
            refine wpAnyH_done (by kernel_rfl) ?_ _
            clear hHeld
            go_wp2
            go_ret
            have hbel := K9.out.bel
            first | refine ⟨congrArg (fun z => Ending.returned (.bool z)) (?_ : _ = valid p m), hbel⟩ | (rw [hq] at hbel; refine ⟨congrArg (fun z => Ending.returned (.bool z)) (?_ : _ = valid p m), hbel⟩)
            rw [hv.out]; simp [none', tells, solicits, routes, asks, answers, redirects, questions, reports, h1, h2, hlk, hmt, hsz, hds, hte, htk]
        · skip
          have ed := fun V => (eqA V hA1.out (soli_is hA2.out)).trans (by rw [hds])
          have l0 := K2.out.lsrc
          have l1 := K2.out.ldst
          have l2 := K2.out.ltarget
          have l3 := K2.out.ldest
          have l4 := K2.out.lz
          have l5 := K2.out.lm
          have k0 := K2.out.kind
          have k1 := K2.out.code
          have k2 := K2.out.flags
          have k3 := K2.out.hops
          have k4 := K2.out.alert
          rw [hk] at k0
          go_wp2_with (first
            | (with_reducible show wpList _ _ _ (⟨some 34, Op.load 23 _, _, _, _, _⟩ :: _) _ _; refine wpList_load_want (by kernel_rfl) 23 _ rfl _ rfl _ (by with_reducible exact l0) ?_)
            | (with_reducible show wpList _ _ _ (⟨some 41, Op.load 23 _, _, _, _, _⟩ :: _) _ _; refine wpList_load_want (by kernel_rfl) 23 _ rfl _ rfl _ (by with_reducible exact l0) ?_)
            | (with_reducible show wpList _ _ _ (⟨some 42, Op.load 23 _, _, _, _, _⟩ :: _) _ _; refine wpList_load_want (by kernel_rfl) 23 _ rfl _ rfl _ (by with_reducible exact l4) ?_)
            | (with_reducible show wpList _ _ _ (⟨some 55, Op.load 23 _, _, _, _, _⟩ :: _) _ _; refine wpList_load_want (by kernel_rfl) 23 _ rfl _ rfl _ (by with_reducible exact l2) ?_)
            | (with_reducible show wpList _ _ _ (⟨some 58, Op.load 23 _, _, _, _, _⟩ :: _) _ _; refine wpList_load_want (by kernel_rfl) 23 _ rfl _ rfl _ (by with_reducible exact l0) ?_)
            | (with_reducible show wpList _ _ _ (⟨some 59, Op.load 23 _, _, _, _, _⟩ :: _) _ _; refine wpList_load_want (by kernel_rfl) 23 _ rfl _ rfl _ (by with_reducible exact l4) ?_)
            | (with_reducible show wpList _ _ _ (⟨some 75, Op.load 23 _, _, _, _, _⟩ :: _) _ _; refine wpList_load_want (by kernel_rfl) 23 _ rfl _ rfl _ (by with_reducible exact l2) ?_)
            | (with_reducible show wpList _ _ _ (⟨some 78, Op.load 23 _, _, _, _, _⟩ :: _) _ _; refine wpList_load_want (by kernel_rfl) 23 _ rfl _ rfl _ (by with_reducible exact l1) ?_)
            | (with_reducible show wpList _ _ _ (⟨some 94, Op.load 23 _, _, _, _, _⟩ :: _) _ _; refine wpList_load_want (by kernel_rfl) 23 _ rfl _ rfl _ (by with_reducible exact l3) ?_)
            | (with_reducible show wpList _ _ _ (⟨some 98, Op.load 23 _, _, _, _, _⟩ :: _) _ _; refine wpList_load_want (by kernel_rfl) 23 _ rfl _ rfl _ (by with_reducible exact l2) ?_)
            | (with_reducible show wpList _ _ _ (⟨some 102, Op.load 23 _, _, _, _, _⟩ :: _) _ _; refine wpList_load_want (by kernel_rfl) 23 _ rfl _ rfl _ (by with_reducible exact l2) ?_)
            | (with_reducible show wpList _ _ _ (⟨some 104, Op.load 23 _, _, _, _, _⟩ :: _) _ _; refine wpList_load_want (by kernel_rfl) 23 _ rfl _ rfl _ (by with_reducible exact l3) ?_)
            | (with_reducible show wpList _ _ _ (⟨some 117, Op.load 23 _, _, _, _, _⟩ :: _) _ _; refine wpList_load_want (by kernel_rfl) 23 _ rfl _ rfl _ (by with_reducible exact l0) ?_)
            | (with_reducible show wpList _ _ _ (⟨some 118, Op.load 23 _, _, _, _, _⟩ :: _) _ _; refine wpList_load_want (by kernel_rfl) 23 _ rfl _ rfl _ (by with_reducible exact l4) ?_)
            | (with_reducible show wpList _ _ _ (⟨some 45, Op.load 35 _, _, _, _, _⟩ :: _) _ _; refine wpList_load_want (by kernel_rfl) 35 _ rfl _ rfl _ (by with_reducible exact l5) ?_)
            | fail)
          clear l0 l1 l2 l3 l4 l5 k0 k1 k2 k3 k4
          have Kd := hidd (K2.out.to (below_drew U2))
          refine wp_region_held_drew (S := (fun V => (loadVar 23 ⟨q, 16, none⟩).run Tryd.prog V = .ok (.agg (bytesV p.dst)) V ∧ (loadVar 23 ⟨q + 1, 9, none⟩).run Tryd.prog V = .ok (.agg (bytesV m.target)) V ∧ (loadVar 35 ⟨q + 1, 0, none⟩).run Tryd.prog V = .ok (.agg ms) V)) (by kernel_rfl) ⟨Kd.out.ldst, Kd.out.ltarget, Kd.out.lm⟩ (fun hHeld => ?_)
          generalize U2.drew = D at Kd hHeld ⊢
          refine wpAnyH_take (i := 0) (v := ?_) rfl (by kernel_rfl) (by kernel_rfl) (by kernel_rfl) (fun _ _ _ h => h) (Or.inl ⟨by kernel_rfl, ?_⟩) hHeld ?_
          rotate_left
          · intro wh hSw
            go_simp
            try with_reducible rfl
          try simp only [Act.put, List.getElem_toArray, List.getElem_cons_zero, List.getElem_cons_succ, List.setIfInBounds_toArray, List.set_cons_zero, List.set_cons_succ]
          refine wpAnyH_take (i := 1) rfl (by kernel_rfl) (by kernel_rfl) (by kernel_rfl) (fun _ _ _ h => h) (yieldsIf_load_want (by kernel_rfl) 23 _ rfl _ rfl _ (fun wh hSw => hSw.1)) hHeld ?_
          try simp only [Act.put, List.getElem_toArray, List.getElem_cons_zero, List.getElem_cons_succ, List.setIfInBounds_toArray, List.set_cons_zero, List.set_cons_succ]
          refine wpAnyH_take (i := 2) (v := ?_) rfl (by kernel_rfl) (by kernel_rfl) (by kernel_rfl) (fun _ _ _ h => h) (Or.inl ⟨by kernel_rfl, ?_⟩) hHeld ?_
          rotate_left
          · intro wh hSw
            go_simp
            try with_reducible rfl
          try simp only [Act.put, List.getElem_toArray, List.getElem_cons_zero, List.getElem_cons_succ, List.setIfInBounds_toArray, List.set_cons_zero, List.set_cons_succ]
          refine wpAnyH_take (i := 3) rfl (by kernel_rfl) (by kernel_rfl) (by kernel_rfl) (fun _ _ _ h => h) (yieldsIf_load_want (by kernel_rfl) 23 _ rfl _ rfl _ (fun wh hSw => hSw.2.1)) hHeld ?_
          try simp only [Act.put, List.getElem_toArray, List.getElem_cons_zero, List.getElem_cons_succ, List.setIfInBounds_toArray, List.set_cons_zero, List.set_cons_succ]
          refine wpAnyH_ready (rs := [4]) (by kernel_rfl) (by simp) (AllReadyH.cons rfl (fun K hK => ?_) AllReadyH.nil)
          clear hHeld
          go_simp
          refine (soli_ref D m.target hA2.out).mono ?_
          rintro r E ⟨rfl, bb⟩
          dsimp only
          have Ke := hidd (Kd.out.to bb)
          clear bb Kd
          refine hK.out _ _ ⟨Ke.out.ldst, Ke.out.ltarget, Ke.out.lm⟩ (fun hHeld => ?_)
          clear hK K
          try simp only [Act.put, List.getElem_toArray, List.getElem_cons_zero, List.getElem_cons_succ, List.setIfInBounds_toArray, List.set_cons_zero, List.set_cons_succ]
          refine wpAnyH_take (i := 5) (v := ?_) rfl (by kernel_rfl) (by kernel_rfl) (by kernel_rfl) (fun _ _ _ h => h) (Or.inl ⟨by kernel_rfl, ?_⟩) hHeld ?_
          rotate_left
          · intro wh hSw
            go_simp
            try with_reducible rfl
          try simp only [Act.put, List.getElem_toArray, List.getElem_cons_zero, List.getElem_cons_succ, List.setIfInBounds_toArray, List.set_cons_zero, List.set_cons_succ]
          refine wpAnyH_take (i := 6) (v := ?_) rfl (by kernel_rfl) (by kernel_rfl) (by kernel_rfl) (fun _ _ _ h => h) (Or.inl ⟨by kernel_rfl, ?_⟩) hHeld ?_
          rotate_left
          · intro wh hSw
            go_simp
            try with_reducible rfl
          try simp only [Act.put, List.getElem_toArray, List.getElem_cons_zero, List.getElem_cons_succ, List.setIfInBounds_toArray, List.set_cons_zero, List.set_cons_succ]
          refine wpAnyH_take (i := 7) rfl (by kernel_rfl) (by kernel_rfl) (by kernel_rfl) (fun _ _ _ h => h) (Or.inr ⟨by kernel_rfl, rfl⟩) hHeld ?_
          try simp only [Act.put, List.getElem_toArray, List.getElem_cons_zero, List.getElem_cons_succ, List.setIfInBounds_toArray, List.set_cons_zero, List.set_cons_succ]
          refine wpAnyH_take (i := 8) rfl (by kernel_rfl) (by kernel_rfl) (by kernel_rfl) (fun _ _ _ h => h) (Or.inr ⟨by kernel_rfl, rfl⟩) hHeld ?_
          try simp only [Act.put, List.getElem_toArray, List.getElem_cons_zero, List.getElem_cons_succ, List.setIfInBounds_toArray, List.set_cons_zero, List.set_cons_succ]
          refine wpAnyH_take (i := 9) rfl (by kernel_rfl) (by kernel_rfl) (by kernel_rfl) (fun _ _ _ h => h) (Or.inr ⟨by kernel_rfl, rfl⟩) hHeld ?_
          try simp only [Act.put, List.getElem_toArray, List.getElem_cons_zero, List.getElem_cons_succ, List.setIfInBounds_toArray, List.set_cons_zero, List.set_cons_succ]
          refine wpAnyH_take (i := 10) (v := ?_) rfl (by kernel_rfl) (by kernel_rfl) (by kernel_rfl) (fun _ _ _ h => h) (Or.inl ⟨by kernel_rfl, ?_⟩) hHeld ?_
          rotate_left
          · intro wh hSw
            go_simp
            try with_reducible rfl
          try simp only [Act.put, List.getElem_toArray, List.getElem_cons_zero, List.getElem_cons_succ, List.setIfInBounds_toArray, List.set_cons_zero, List.set_cons_succ]
          refine wpAnyH_take (i := 11) (v := ?_) rfl (by kernel_rfl) (by kernel_rfl) (by kernel_rfl) (fun _ _ _ h => h) (Or.inl ⟨by kernel_rfl, ?_⟩) hHeld ?_
          rotate_left
          · intro wh hSw
            go_simp
            try with_reducible rfl
          try simp only [Act.put, List.getElem_toArray, List.getElem_cons_zero, List.getElem_cons_succ, List.setIfInBounds_toArray, List.set_cons_zero, List.set_cons_succ]
          refine wpAnyH_done (by kernel_rfl) ?_ _
          clear hHeld
          go_wp2
          go_ret
          have hbel := Ke.out.bel
          first | refine ⟨congrArg (fun z => Ending.returned (.bool z)) (?_ : _ = valid p m), hbel⟩ | (rw [hq] at hbel; refine ⟨congrArg (fun z => Ending.returned (.bool z)) (?_ : _ = valid p m), hbel⟩)
          rw [hv.out]; simp [none', tells, solicits, routes, asks, answers, redirects, questions, reports, h1, h2, hlk, hmt, hsz, hds]
      · skip
        have es := fun V => (eqA V hA0.out zeroA_is).trans (by rw [hsz])
        have l0 := K2.out.lsrc
        have l1 := K2.out.ldst
        have l2 := K2.out.ltarget
        have l3 := K2.out.ldest
        have l4 := K2.out.lz
        have l5 := K2.out.lm
        have k0 := K2.out.kind
        have k1 := K2.out.code
        have k2 := K2.out.flags
        have k3 := K2.out.hops
        have k4 := K2.out.alert
        rw [hk] at k0
        go_wp2_with (first
          | (with_reducible show wpList _ _ _ (⟨some 34, Op.load 23 _, _, _, _, _⟩ :: _) _ _; refine wpList_load_want (by kernel_rfl) 23 _ rfl _ rfl _ (by with_reducible exact l0) ?_)
          | (with_reducible show wpList _ _ _ (⟨some 41, Op.load 23 _, _, _, _, _⟩ :: _) _ _; refine wpList_load_want (by kernel_rfl) 23 _ rfl _ rfl _ (by with_reducible exact l0) ?_)
          | (with_reducible show wpList _ _ _ (⟨some 42, Op.load 23 _, _, _, _, _⟩ :: _) _ _; refine wpList_load_want (by kernel_rfl) 23 _ rfl _ rfl _ (by with_reducible exact l4) ?_)
          | (with_reducible show wpList _ _ _ (⟨some 55, Op.load 23 _, _, _, _, _⟩ :: _) _ _; refine wpList_load_want (by kernel_rfl) 23 _ rfl _ rfl _ (by with_reducible exact l2) ?_)
          | (with_reducible show wpList _ _ _ (⟨some 58, Op.load 23 _, _, _, _, _⟩ :: _) _ _; refine wpList_load_want (by kernel_rfl) 23 _ rfl _ rfl _ (by with_reducible exact l0) ?_)
          | (with_reducible show wpList _ _ _ (⟨some 59, Op.load 23 _, _, _, _, _⟩ :: _) _ _; refine wpList_load_want (by kernel_rfl) 23 _ rfl _ rfl _ (by with_reducible exact l4) ?_)
          | (with_reducible show wpList _ _ _ (⟨some 75, Op.load 23 _, _, _, _, _⟩ :: _) _ _; refine wpList_load_want (by kernel_rfl) 23 _ rfl _ rfl _ (by with_reducible exact l2) ?_)
          | (with_reducible show wpList _ _ _ (⟨some 78, Op.load 23 _, _, _, _, _⟩ :: _) _ _; refine wpList_load_want (by kernel_rfl) 23 _ rfl _ rfl _ (by with_reducible exact l1) ?_)
          | (with_reducible show wpList _ _ _ (⟨some 94, Op.load 23 _, _, _, _, _⟩ :: _) _ _; refine wpList_load_want (by kernel_rfl) 23 _ rfl _ rfl _ (by with_reducible exact l3) ?_)
          | (with_reducible show wpList _ _ _ (⟨some 98, Op.load 23 _, _, _, _, _⟩ :: _) _ _; refine wpList_load_want (by kernel_rfl) 23 _ rfl _ rfl _ (by with_reducible exact l2) ?_)
          | (with_reducible show wpList _ _ _ (⟨some 102, Op.load 23 _, _, _, _, _⟩ :: _) _ _; refine wpList_load_want (by kernel_rfl) 23 _ rfl _ rfl _ (by with_reducible exact l2) ?_)
          | (with_reducible show wpList _ _ _ (⟨some 104, Op.load 23 _, _, _, _, _⟩ :: _) _ _; refine wpList_load_want (by kernel_rfl) 23 _ rfl _ rfl _ (by with_reducible exact l3) ?_)
          | (with_reducible show wpList _ _ _ (⟨some 117, Op.load 23 _, _, _, _, _⟩ :: _) _ _; refine wpList_load_want (by kernel_rfl) 23 _ rfl _ rfl _ (by with_reducible exact l0) ?_)
          | (with_reducible show wpList _ _ _ (⟨some 118, Op.load 23 _, _, _, _, _⟩ :: _) _ _; refine wpList_load_want (by kernel_rfl) 23 _ rfl _ rfl _ (by with_reducible exact l4) ?_)
          | (with_reducible show wpList _ _ _ (⟨some 45, Op.load 35 _, _, _, _, _⟩ :: _) _ _; refine wpList_load_want (by kernel_rfl) 35 _ rfl _ rfl _ (by with_reducible exact l5) ?_)
          | fail)
        clear l0 l1 l2 l3 l4 l5 k0 k1 k2 k3 k4
        go_ret
        have hbel := K2.out.bel
        first | refine ⟨congrArg (fun z => Ending.returned (.bool z)) (?_ : _ = valid p m), hbel⟩ | (rw [hq] at hbel; refine ⟨congrArg (fun z => Ending.returned (.bool z)) (?_ : _ = valid p m), hbel⟩)
        rw [hv.out]; simp [none', tells, solicits, routes, asks, answers, redirects, questions, reports, h1, h2, hlk, hmt, hsz]
end Go.Proofs.YtlckfnfmekgnkaaDoor
