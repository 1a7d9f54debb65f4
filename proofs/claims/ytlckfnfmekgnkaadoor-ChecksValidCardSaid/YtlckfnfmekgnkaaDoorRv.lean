/- The document's answer: whether a message counts in a packet. No condition but that the table lies where it was laid. -/
import Derived.Test.YtlckfnfmekgnkaaDoorRef2
namespace Go.Proofs.YtlckfnfmekgnkaaDoor
open Go.ChangeShapes Go.WideShapes Go.ChangeAt Go.RowKit Go.Deep
set_option linter.unusedVariables false
set_option linter.unusedSimpArgs false

/-- The call's boxes: packet, message, and a zero address. -/
structure Rb (w W : World) (q : Nat) (cs ms : Array Value) (p : Pk) (m : Ms) : Prop where
  bel : Below w.heap.size w W
  pb : Blk W q 30 cs
  mb : Blk W (q + 1) 35 ms
  zb : Blk W (q + 1 + 1) 23 (bytesV zeroA)
  pk : IsPk cs p
  ms : IsMs W W.heap.size ms m
section
variable {w W V : World} {q : Nat} {cs ms : Array Value} {p : Pk} {m : Ms}
theorem Rb.to (h : Rb w W q cs ms p m) (hb : Below W.heap.size W V) : Rb w V q cs ms p m :=
  ⟨h.bel.trans (hb.mono h.bel.size), h.pb.below hb h.pb.lt, h.mb.below hb h.mb.lt, h.zb.below hb h.zb.lt, h.pk, h.ms.to hb hb.size⟩
theorem Rb.lm (h : Rb w W q cs ms p m) : (loadVar 35 ⟨q + 1, 0, none⟩).run Tryd.prog W = .ok (.agg ms) W := h.mb.load Tryd.underlying35 rfl (size_ms h.ms)
theorem Rb.lsrc (h : Rb w W q cs ms p m) : (loadVar 23 ⟨q, 0, none⟩).run Tryd.prog W = .ok (.agg (bytesV p.src)) W := h.pb.part h.pk.src Tryd.underlying23 rfl (info23' h.pk.srcA)
theorem Rb.ldst (h : Rb w W q cs ms p m) : (loadVar 23 ⟨q, 16, none⟩).run Tryd.prog W = .ok (.agg (bytesV p.dst)) W := h.pb.part h.pk.dst Tryd.underlying23 rfl (info23' h.pk.dstA)
theorem Rb.ltarget (h : Rb w W q cs ms p m) : (loadVar 23 ⟨q + 1, 9, none⟩).run Tryd.prog W = .ok (.agg (bytesV m.target)) W := h.mb.part h.ms.target Tryd.underlying23 rfl (info23' h.ms.targetA)
theorem Rb.ldest (h : Rb w W q cs ms p m) : (loadVar 23 ⟨q + 1, 25, none⟩).run Tryd.prog W = .ok (.agg (bytesV m.dest)) W := h.mb.part h.ms.dest Tryd.underlying23 rfl (info23' h.ms.destA)
theorem Rb.lz (h : Rb w W q cs ms p m) : (loadVar 23 ⟨q + 1 + 1, 0, none⟩).run Tryd.prog W = .ok (.agg (bytesV zeroA)) W := ldB h.zb zeroA_is
theorem Rb.alert (h : Rb w W q cs ms p m) : W.cell? ⟨q, 33, none⟩ = some (.bool p.alert) := h.pb.at_ h.pk.alert
theorem Rb.hops (h : Rb w W q cs ms p m) : W.cell? ⟨q, 32, none⟩ = some (.int .u8 p.hops) := h.pb.at_ h.pk.hops
theorem Rb.flags (h : Rb w W q cs ms p m) : W.cell? ⟨q + 1, 5, none⟩ = some (.int .u8 m.flags) := h.mb.at_ h.ms.flags
theorem Rb.kind (h : Rb w W q cs ms p m) : W.cell? ⟨q + 1, 0, none⟩ = some (.int .u8 m.kind) := h.mb.at_ h.ms.kind
theorem Rb.code (h : Rb w W q cs ms p m) : W.cell? ⟨q + 1, 1, none⟩ = some (.int .u8 m.code) := h.mb.at_ h.ms.code
end
/-- What holds at the start, whatever the kind. -/
structure Rs0 (w V : World) (q : Nat) (cs ms : Array Value) (p : Pk) (m : Ms) : Prop where
  hv : ((w.alloc (.cells cs 30)).alloc (.cells ms 35)).alloc (.cells (bytesV zeroA) 23) = V
  hq : w.heap.size = q
  k : Rb w V q cs ms p m
theorem rs0 (w : World) {cs ms : Array Value} {p : Pk} {m : Ms} (hp : IsPk cs p) (hm : IsMs w w.heap.size ms m) : ∃ V q, Rs0 w V q cs ms p m := by
  obtain ⟨q, hq⟩ : ∃ q, w.heap.size = q := ⟨_, rfl⟩
  obtain ⟨V, hV⟩ : ∃ V, ((w.alloc (.cells cs 30)).alloc (.cells ms 35)).alloc (.cells (bytesV zeroA) 23) = V := ⟨_, rfl⟩
  have b1 := Blk.new w 30 cs
  have b2 := Blk.new (w.alloc (.cells cs 30)) 35 ms
  have b3 := Blk.new ((w.alloc (.cells cs 30)).alloc (.cells ms 35)) 23 (bytesV zeroA)
  simp only [nblk_alloc, hq] at b1 b2 b3
  have hB : Below w.heap.size w V := hV ▸ (((Below.refl _ w).alloc (Nat.le_refl _) _).alloc (by simp) _).alloc (by simp; omega) _
  exact ⟨V, q, hV, hq, hB, hV ▸ (b1.alloc _).alloc _, hV ▸ b2.alloc _, hV ▸ b3, hp, hm.to hB hB.size⟩
set_option maxRecDepth 100000 in
theorem refOther (w : World) {cs ms : Array Value} {p : Pk} {m : Ms} (hp : IsPk cs p) (hm : IsMs w w.heap.size ms m) (h0 : m.kind < 133 ∨ 137 < m.kind) (h1 : ¬ m.kind = 130) (h2 : ¬ m.kind = 143) : Calls Tryd.prog 12 #[.agg cs, .agg ms] w fun e w' => e = .returned (.bool (valid p m)) ∧ Below w.heap.size w w' := by
  have hv := hidd (show valid p m = true by
    have h3 : ¬ m.kind = 133 := by omega
    have h4 : ¬ m.kind = 134 := by omega
    have h5 : ¬ m.kind = 135 := by omega
    have h6 : ¬ m.kind = 136 := by omega
    have h7 : ¬ m.kind = 137 := by omega
    simp [valid, rule, h1, h2, h3, h4, h5, h6, h7])
  have hz := zero23
  have n1 : (m.kind == 130) = false := by simpa using h1
  have n2 : (m.kind == 143) = false := by simpa using h2
  obtain ⟨V, q, hV, hq, k⟩ := rs0 w hp hm
  have K0 := hidd k
  have k0 := k.kind
  clear hp hm k
  go_enter Tryd.func12, Tryd.ntmps12
  rcases h0 with h0 | h0
  · go_wp2
    go_ret
    have hbel := K0.out.bel
    first | exact ⟨by rw [hv.out]; rfl, hbel⟩ | (rw [hq] at hbel; exact ⟨by rw [hv.out]; rfl, hbel⟩)
  · have h9 : ¬ m.kind < 133 := by omega
    have h8 : decide (m.kind < 133) = false := by simpa using h9
    go_wp2
    go_ret
    have hbel := K0.out.bel
    first | exact ⟨by rw [hv.out]; rfl, hbel⟩ | (rw [hq] at hbel; exact ⟨by rw [hv.out]; rfl, hbel⟩)
end Go.Proofs.YtlckfnfmekgnkaaDoor
