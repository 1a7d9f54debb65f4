/- The conditions of each kind of message. No condition but that the table of known addresses lies where it was laid. -/
import Derived.Test.YtlckfnfmekgnkaaDoorShape
namespace Go.Proofs.YtlckfnfmekgnkaaDoor
open Go.ChangeShapes Go.WideShapes Go.ChangeAt Go.RowKit Go.Deep
set_option linter.unusedVariables false

def none' (p : Pk) : Bool := p.src == zeroA
def tells (m : Ms) : Bool := m.ks.any (· == 1)
def solicits (p : Pk) (m : Ms) : Bool := !none' p || !tells m
def routes (p : Pk) (_ : Ms) : Bool := isLink p.src
def asks (p : Pk) (m : Ms) : Bool := !isMany m.target && (solicits p m && (!none' p || p.dst == soli m.target))
def answers (p : Pk) (m : Ms) : Bool := !isMany m.target && (!isMany p.dst || m.flags / 64 % 2 == 0)
def redirects (p : Pk) (m : Ms) : Bool := routes p m && !isMany m.dest && (isLink m.target || m.target == m.dest)
def questions (p : Pk) (m : Ms) : Bool := routes p m && p.alert
def reports (p : Pk) (m : Ms) : Bool := (routes p m || none' p) && p.alert

/-- What a call over a packet and a message finds: both in boxes of their own. -/
structure Boxes (w W : World) (cs ms : Array Value) (p : Pk) (m : Ms) : Prop where
  gl : Gl W
  bel : Below w.heap.size w W
  pb : Blk W w.heap.size 30 cs
  mb : Blk W (w.heap.size + 1) 35 ms
  pk : IsPk cs p
  ms : IsMs W W.heap.size ms m
  size : w.heap.size + 2 ≤ W.heap.size

theorem Boxes.new {w : World} {cs ms : Array Value} {p : Pk} {m : Ms} (hg : Gl w) (hp : IsPk cs p) (hm : IsMs w w.heap.size ms m) : Boxes w ((w.alloc (.cells cs 30)).alloc (.cells ms 35)) cs ms p m := by
  have hb := ((Below.refl w.heap.size w).alloc (Nat.le_refl _) (.cells cs 30)).alloc (by simp) (.cells ms 35)
  refine ⟨(hg.alloc _).alloc _, hb, (Blk.new w 30 cs).alloc _, ?_, hp, hm.to hb (by simp; omega), by simp⟩
  have := Blk.new (w.alloc (.cells cs 30)) 35 ms
  rwa [World.size_alloc] at this
theorem Boxes.to {w W V : World} {cs ms : Array Value} {p : Pk} {m : Ms} (h : Boxes w W cs ms p m) (hb : Below W.heap.size W V) : Boxes w V cs ms p m := by
  have hs := h.size
  have hz := hb.size
  exact ⟨h.gl.below hb (by omega), h.bel.trans (hb.mono (by omega)), h.pb.below hb (by omega), h.mb.below hb (by omega), h.pk, h.ms.to hb hz, by omega⟩
theorem Boxes.drew {w W : World} {cs ms : Array Value} {p : Pk} {m : Ms} (h : Boxes w W cs ms p m) : Boxes w W.drew cs ms p m := h.to (Below.refl _ W).drew

section
variable {w W : World} {cs ms : Array Value} {p : Pk} {m : Ms}
theorem Boxes.lp (h : Boxes w W cs ms p m) : (loadVar 30 ⟨w.heap.size, 0, none⟩).run Tryd.prog W = .ok (.agg cs) W := h.pb.load Tryd.underlying30 rfl (size_pk h.pk)
theorem Boxes.lm (h : Boxes w W cs ms p m) : (loadVar 35 ⟨w.heap.size + 1, 0, none⟩).run Tryd.prog W = .ok (.agg ms) W := h.mb.load Tryd.underlying35 rfl (size_ms h.ms)
theorem Boxes.lsrc (h : Boxes w W cs ms p m) : (loadVar 23 ⟨w.heap.size, 0, none⟩).run Tryd.prog W = .ok (.agg (bytesV p.src)) W := h.pb.part h.pk.src Tryd.underlying23 rfl (info23' h.pk.srcA)
theorem Boxes.ldst (h : Boxes w W cs ms p m) : (loadVar 23 ⟨w.heap.size, 16, none⟩).run Tryd.prog W = .ok (.agg (bytesV p.dst)) W := h.pb.part h.pk.dst Tryd.underlying23 rfl (info23' h.pk.dstA)
theorem Boxes.ltarget (h : Boxes w W cs ms p m) : (loadVar 23 ⟨w.heap.size + 1, 9, none⟩).run Tryd.prog W = .ok (.agg (bytesV m.target)) W := h.mb.part h.ms.target Tryd.underlying23 rfl (info23' h.ms.targetA)
theorem Boxes.ldest (h : Boxes w W cs ms p m) : (loadVar 23 ⟨w.heap.size + 1, 25, none⟩).run Tryd.prog W = .ok (.agg (bytesV m.dest)) W := h.mb.part h.ms.dest Tryd.underlying23 rfl (info23' h.ms.destA)
theorem Boxes.calert (h : Boxes w W cs ms p m) : W.cell? ⟨w.heap.size, 33, none⟩ = some (.bool p.alert) := h.pb.at_ h.pk.alert
theorem Boxes.chops (h : Boxes w W cs ms p m) : W.cell? ⟨w.heap.size, 32, none⟩ = some (.int .u8 p.hops) := h.pb.at_ h.pk.hops
theorem Boxes.cflags (h : Boxes w W cs ms p m) : W.cell? ⟨w.heap.size + 1, 5, none⟩ = some (.int .u8 m.flags) := h.mb.at_ h.ms.flags
theorem Boxes.ckind (h : Boxes w W cs ms p m) : W.cell? ⟨w.heap.size + 1, 0, none⟩ = some (.int .u8 m.kind) := h.mb.at_ h.ms.kind
theorem Boxes.ccode (h : Boxes w W cs ms p m) : W.cell? ⟨w.heap.size + 1, 1, none⟩ = some (.int .u8 m.code) := h.mb.at_ h.ms.code
end

/-- The contract of a condition. -/
def Holds (f : Nat) (spec : Pk → Ms → Bool) : Prop := ∀ (w : World) (cs ms : Array Value) (p : Pk) (m : Ms), Gl w → IsPk cs p → IsMs w w.heap.size ms m →
  Calls Tryd.prog f #[.agg cs, .agg ms] w fun e w' => e = .returned (.bool (spec p m)) ∧ Below w.heap.size w w'

theorem routes_any : Holds 40 routes := by
  intro w cs ms p m hg hp hm
  have X := hidd (Boxes.new hg hp hm)
  have l0 := X.out.lsrc
  have ha := hidd hp.srcA
  clear hg hp hm
  go_enter Tryd.func40, Tryd.ntmps40
  go_wp2_with (first
    | (refine wpList_load_want rfl 23 _ rfl _ rfl _ (by with_reducible first | exact l0) ?_)
    | (go_at_call 55; refine (link_any _ p.src ha.out).mono ?_; rintro e w2 ⟨rfl, b2⟩))
  go_ret
  exact ⟨rfl, (X.out.to b2).bel⟩

theorem solicits_any : Holds 39 solicits := by
  intro w cs ms p m hg hp hm
  have X := hidd (Boxes.new hg hp hm)
  have l0 := X.out.lp
  have ha := hidd hp
  clear hg hp hm
  go_enter Tryd.func39, Tryd.ntmps39
  unfold solicits
  by_cases hn : none' p = true
  · go_wp2_with (first
      | (refine wpList_load_want rfl 30 _ rfl _ rfl _ (by with_reducible first | exact l0) ?_)
      | (go_at_call 53; refine (none_any _ X.out.gl cs p ha.out).mono ?_; rintro e w2 ⟨rfl, b2⟩; rw [show (p.src == zeroA) = true from hn]; have l1 := (X.out.to b2).lm; have X2 := hidd (X.out.to b2))
      | (refine wpList_load_want rfl 35 _ rfl _ rfl _ (by with_reducible first | exact l1) ?_)
      | (go_at_call 54; refine (tells_any _ ms m X2.out.ms).mono ?_; rintro e w3 ⟨rfl, b3⟩))
    go_ret
    exact ⟨by simp [hn, tells], (X2.out.to b3).bel⟩
  · have hn' : none' p = false := by simpa using hn
    go_wp2_with (first
      | (refine wpList_load_want rfl 30 _ rfl _ rfl _ (by with_reducible first | exact l0) ?_)
      | (go_at_call 53; refine (none_any _ X.out.gl cs p ha.out).mono ?_; rintro e w2 ⟨rfl, b2⟩; rw [show (p.src == zeroA) = false from hn']; have X2 := hidd (X.out.to b2)))
    go_ret
    exact ⟨by simp [hn'], X2.out.bel⟩

theorem questions_any : Holds 44 questions := by
  intro w cs ms p m hg hp hm
  have X := hidd (Boxes.new hg hp hm)
  have l0 := X.out.lp
  have l1 := X.out.lm
  have ha := hidd hp
  clear hg hp hm
  go_enter Tryd.func44, Tryd.ntmps44
  unfold questions
  go_wp2_with (first
    | (refine wpList_load_want rfl 30 _ rfl _ rfl _ (by with_reducible first | exact l0) ?_)
    | (refine wpList_load_want rfl 35 _ rfl _ rfl _ (by with_reducible first | exact l1) ?_)
    | (go_at_call 40; refine (routes_any _ cs ms p m X.out.gl ha.out X.out.ms).mono ?_; rintro e w2 ⟨rfl, b2⟩; have c2 := (X.out.to b2).calert; cases hr : routes p m))
  all_goals go_ret
  all_goals exact ⟨by simp [hr], (X.out.to b2).bel⟩

theorem reports_any : Holds 45 reports := by
  intro w cs ms p m hg hp hm
  have X := hidd (Boxes.new hg hp hm)
  have l0 := X.out.lp
  have l1 := X.out.lm
  have ha := hidd hp
  clear hg hp hm
  go_enter Tryd.func45, Tryd.ntmps45
  unfold reports
  cases hr : routes p m
  · go_wp2_with (first
      | (refine wpList_load_want rfl 30 _ rfl _ rfl _ (by with_reducible first | exact l0 | exact l2) ?_)
      | (refine wpList_load_want rfl 35 _ rfl _ rfl _ (by with_reducible first | exact l1) ?_)
      | (go_at_call 40; refine (routes_any _ cs ms p m X.out.gl ha.out X.out.ms).mono ?_; rintro e w2 ⟨rfl, b2⟩; have X2 := hidd (X.out.to b2); have l2 := X2.out.lp; rw [hr])
      | (go_at_call 53; refine (none_any _ X2.out.gl cs p ha.out).mono ?_; rintro e w3 ⟨rfl, b3⟩; rw [show (p.src == zeroA) = none' p from rfl]; have X3 := hidd (X2.out.to b3); have c3 := X3.out.calert; cases hn : none' p))
    all_goals go_ret
    all_goals exact ⟨by simp [hn], X3.out.bel⟩
  · go_wp2_with (first
      | (refine wpList_load_want rfl 30 _ rfl _ rfl _ (by with_reducible first | exact l0) ?_)
      | (refine wpList_load_want rfl 35 _ rfl _ rfl _ (by with_reducible first | exact l1) ?_)
      | (go_at_call 40; refine (routes_any _ cs ms p m X.out.gl ha.out X.out.ms).mono ?_; rintro e w2 ⟨rfl, b2⟩; have X2 := hidd (X.out.to b2); have c2 := X2.out.calert; rw [hr]))
    all_goals go_ret
    all_goals exact ⟨rfl, X2.out.bel⟩


theorem and64 : ∀ n : Nat, n < 256 → (bits .and .u8 (n : Int) 64 == 0) = ((n : Int) / 64 % 2 == 0) := by decide +kernel
end Go.Proofs.YtlckfnfmekgnkaaDoor
