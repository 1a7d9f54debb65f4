/- A packet's twin; whether it is as it was made. No condition. -/
import Derived.Test.YtlckfnfmekgnkaaDoorPm
namespace Go.Proofs.YtlckfnfmekgnkaaDoor
open Go.ChangeShapes Go.WideShapes Go.ChangeAt Go.RowKit Go.Deep
set_option linter.unusedVariables false
set_option linter.unusedSimpArgs false

theorem setRow_fr (W : World) (g : Nat) (cs : Array Value) : Fr (· = g) W (W.setRow g cs) := by
  have h := below_setRow (Below.refl 0 W) (Nat.zero_le g) cs
  exact ⟨h.os, h.tape, h.output, h.size, fun k _ hk => setRow_other W g k cs hk⟩
def z30 : Array Value := (Array.replicate 33 (.int .u8 0)) ++ #[.bool false, .bool false, .int .u32 0, .int .u16 0, .bool false, .int .u8 0, .slice none 0 0]
theorem z30_size : z30.size = 40 := rfl
theorem zero30 (V : World) : (zeroValue 30).run Tryd.prog V = .ok (.agg z30) V := (zero_of_info (v := .agg z30) (n := 40) (by kernel_rfl)).1 V
section
variable {w W W' : World} {cs cs' : Array Value} {p : Pk} {x : PkX} {v v' : Value} {Lo : Nat}
set_option maxRecDepth 100000 in
set_option maxHeartbeats 4000000 in
theorem leftP_any (w : World) (h : PkAll w cs p x) (h' : PkAll w cs' p x) (hv : cs[39]? = some v) (ht : BsTw w Lo v x.body) : Calls Tryd.prog 13 #[.agg cs, .agg cs'] w fun r W' => r = .returned (.bool true) ∧ Below w.heap.size w W' := by
  obtain ⟨v', hv', hb'⟩ := h'.body
  obtain ⟨q, hq⟩ : ∃ q, w.heap.size = q := ⟨_, rfl⟩
  obtain ⟨V, hV⟩ : ∃ V, (w.alloc (.cells cs 30)).alloc (.cells cs' 30) = V := ⟨_, rfl⟩
  have b1 := Blk.new w 30 cs
  have b2 := Blk.new (w.alloc (.cells cs 30)) 30 cs'
  simp only [nblk_alloc, hq] at b1 b2
  have q1 : Blk V q 30 cs := hV ▸ b1.alloc _
  have q2 : Blk V (q + 1) 30 cs' := hV ▸ b2
  have bV : Below w.heap.size w V := hV ▸ ((Below.refl _ w).alloc (Nat.le_refl _) _).alloc (by simp) _
  have l1 := q1.load Tryd.underlying30 rfl (size_pk h.is)
  have l2 := q2.load Tryd.underlying30 rfl (size_pk h'.is)
  have H := hidd (And.intro (h.to bV) (And.intro (h'.to bV) (And.intro (ht.to bV) (hb'.to bV))))
  have B := hidd bV
  have Q := hidd (And.intro q1 q2)
  have hv1 := hidd hv
  have hv2 := hidd hv'
  obtain ⟨g, rfl, _⟩ := ht
  obtain ⟨A', c', rfl, _⟩ := hb'
  clear q1 q2 b1 b2 bV h h' hv hv'
  go_enter Tryd.func13, Tryd.ntmps13
  go_wp2_with (first
    | (with_reducible show wpList _ _ _ (⟨_, Op.load 30 _, _, _, _, _⟩ :: _) _ _; refine wpList_load_want (by kernel_rfl) 30 _ rfl _ rfl _ (by with_reducible first | exact l1 | exact l2) ?_)
    | fail)
  refine (sameP_any V H.out.1 H.out.2.1).mono ?_
  rintro r w2 ⟨rfl, b2⟩
  have B2 := hidd (B.out.trans (b2.mono B.out.size))
  have H2 := hidd (And.intro (H.out.2.2.1.to b2) (H.out.2.2.2.to b2))
  have c1 := (Q.out.1.below b2 Q.out.1.lt).at_ hv1.out
  have c2 := (Q.out.2.below b2 Q.out.2.lt).at_ hv2.out
  clear b2 l1 l2 H Q B
  go_wp2_with fail
  refine (leftB_any w2 H2.out.1 H2.out.2).mono ?_
  rintro r w3 ⟨rfl, b3⟩
  have B3 := hidd (B2.out.trans (b3.mono B2.out.size))
  clear b3 c1 c2 H2
  go_wp2
  go_ret
  have hb := B3.out
  first | exact ⟨rfl, hb⟩ | (rw [hq] at hb; exact ⟨rfl, hb⟩)
end
end Go.Proofs.YtlckfnfmekgnkaaDoor
