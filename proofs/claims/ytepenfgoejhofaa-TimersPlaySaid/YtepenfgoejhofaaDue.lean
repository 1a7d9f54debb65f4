/- Which is due is taken. The function walked once. No condition. -/
import Derived.Test.YtepenfgoejhofaaArm
namespace Go.Proofs.Ytepenfgoejhofaa
open Go.ChangeShapes Go.WideShapes Go.ChangeAt Go.RowKit Go.Deep
set_option linter.unusedVariables false
set_option linter.unusedSimpArgs false

/-- What is due, and what is left. -/
def dueM (m : List T3) (now : Int) : Option T3 × List T3 := match bestM m with
  | none => (none, m)
  | some t => if now < t.2.2 then (none, m) else (some t, (canM m (kOf t)).2)
set_option maxRecDepth 100000 in
set_option maxHeartbeats 4000000 in
theorem due_any (W : World) {F : Nat → Prop} {B : Nat} {m : List T3} (h : Tm W F B m) (now : Int) : Calls Try.prog 11 #[ptr B, .int .u64 now] W fun r W' => r = .returned (nextV (dueM m now).1) ∧ Tm W' F B (dueM m now).2 ∧ Fr F W W' := by
  obtain ⟨q, hq⟩ : ∃ q, W.heap.size = q := ⟨_, rfl⟩
  obtain ⟨V, hV⟩ : ∃ V, W.alloc (.cells (keyV (0, 0)) 30) = V := ⟨_, rfl⟩
  have hVB : Below W.heap.size W V := hV ▸ (Below.refl _ W).alloc (Nat.le_refl _) _
  have hQ : Blk V q 30 (keyV (0, 0)) := by rw [← hV, ← hq]; exact Blk.new W 30 _
  have hFq : Hid (¬ F q) := hidd (fun e => by have := h.bd q e; omega)
  have H0 := hidd (And.intro (h.bel hVB) (And.intro hQ (Fr.of_below hVB F)))
  have hist := hidd h.ist
  clear h hVB hQ
  go_enter Try.func11, Try.ntmps11
  go_wp2_with fail
  refine (next_any V H0.out.1).mono ?_
  rintro r V1 ⟨rfl, b1⟩
  have H1 := hidd (And.intro (H0.out.1.bel b1) (H0.out.2.2.trans (Fr.of_below b1 F)))
  have q1 := H0.out.2.1.below b1 H0.out.2.1.lt
  clear b1 H0 hV
  cases hb : bestM m with
  | none =>
    have hd : dueM m now = (none, m) := by unfold dueM; rw [hb]
    have hd' := hidd hd
    have hn : nextV none = .tuple #[.agg (keyV (0, 0)), .int .u64 0, .bool false] := rfl
    rw [hn]
    obtain ⟨V2, hV2⟩ : ∃ U, (V1.setCell ⟨q, 0, none⟩ (.int .u8 ((0 : Int), (0 : Int)).1)).setCell ⟨q, 1, none⟩ (.int .u64 ((0 : Int), (0 : Int)).2) = U := ⟨_, rfl⟩
    have ka1 := (q1).at_ (i := 0) rfl
    have kb1 := (q1).at_ (i := 1) rfl
    have kc1 := (q1).frozen 0
    have kd1 := (q1).frozen 1
    have ke1 := ((q1).set 0 (.int .u8 ((0 : Int), (0 : Int)).1)).at_ (i := 1) rfl
    have kf1 := ((q1).set 0 (.int .u8 ((0 : Int), (0 : Int)).1)).frozen 1
    have kg1 : Blk V2 q 30 (keyV ((0 : Int), (0 : Int))) := hV2 ▸ ((q1).set 0 (.int .u8 ((0 : Int), (0 : Int)).1)).set 1 (.int .u64 ((0 : Int), (0 : Int)).2)
    have kh1 := kg1.at_ (i := 0) rfl
    have ki1 := kg1.at_ (i := 1) rfl
    have kj1 : Fr (· = q) V1 V2 := hV2 ▸ ((Fr.refl (· = q) V1).setB _).setB _
    obtain ⟨V3, hV3⟩ : ∃ U, (V2.setCell ⟨q, 0, none⟩ (.int .u8 ((0 : Int), (0 : Int)).1)).setCell ⟨q, 1, none⟩ (.int .u64 ((0 : Int), (0 : Int)).2) = U := ⟨_, rfl⟩
    have ka2 := (kg1).at_ (i := 0) rfl
    have kb2 := (kg1).at_ (i := 1) rfl
    have kc2 := (kg1).frozen 0
    have kd2 := (kg1).frozen 1
    have ke2 := ((kg1).set 0 (.int .u8 ((0 : Int), (0 : Int)).1)).at_ (i := 1) rfl
    have kf2 := ((kg1).set 0 (.int .u8 ((0 : Int), (0 : Int)).1)).frozen 1
    have kg2 : Blk V3 q 30 (keyV ((0 : Int), (0 : Int))) := hV3 ▸ ((kg1).set 0 (.int .u8 ((0 : Int), (0 : Int)).1)).set 1 (.int .u64 ((0 : Int), (0 : Int)).2)
    have kh2 := kg2.at_ (i := 0) rfl
    have ki2 := kg2.at_ (i := 1) rfl
    have kj2 : Fr (· = q) V2 V3 := hV3 ▸ ((Fr.refl (· = q) V2).setB _).setB _
    have hT := hidd (And.intro ((H1.out.1.fr kj1 (fun k hk e => hFq.out (e ▸ hk))).fr kj2 (fun k hk e => hFq.out (e ▸ hk))) (And.intro kg2 (show Fr F W V3 from by
      have f := (kj1.trans kj2)
      refine ⟨f.os.trans H1.out.2.os, f.tape.trans H1.out.2.tape, f.output.trans H1.out.2.output, Nat.le_trans H1.out.2.size f.size, fun k hk hF => ?_⟩
      exact (f.block k (by have := H1.out.2.size; omega) (by omega)).trans (H1.out.2.block k hk hF))))
    have l2 := ld30 kg2
    clear hd hb hn kg1 kg2 kj1 kj2
    go_wp2
    refine bodyPost_ret (v := nextV none) (by simp [results, Try.results11, Act.put, asAddr, l2, nextV]) rfl ?_
    rw [hd'.out]
    exact ⟨rfl, hT.out.1, hT.out.2.2⟩
  | some t =>
    have hn : nextV (some t) = .tuple #[.agg (keyV (t.1, t.2.1)), .int .u64 t.2.2, .bool true] := rfl
    rw [hn]
    by_cases hlt : now < t.2.2
    · have hd : dueM m now = (none, m) := by unfold dueM; rw [hb]; simp only; rw [if_pos hlt]
      have hd' := hidd hd
      have hgt : decide (t.2.2 > now) = true := by simpa using hlt
      obtain ⟨V2, hV2⟩ : ∃ U, (V1.setCell ⟨q, 0, none⟩ (.int .u8 (t.1, t.2.1).1)).setCell ⟨q, 1, none⟩ (.int .u64 (t.1, t.2.1).2) = U := ⟨_, rfl⟩
      have ka1 := (q1).at_ (i := 0) rfl
      have kb1 := (q1).at_ (i := 1) rfl
      have kc1 := (q1).frozen 0
      have kd1 := (q1).frozen 1
      have ke1 := ((q1).set 0 (.int .u8 (t.1, t.2.1).1)).at_ (i := 1) rfl
      have kf1 := ((q1).set 0 (.int .u8 (t.1, t.2.1).1)).frozen 1
      have kg1 : Blk V2 q 30 (keyV (t.1, t.2.1)) := hV2 ▸ ((q1).set 0 (.int .u8 (t.1, t.2.1).1)).set 1 (.int .u64 (t.1, t.2.1).2)
      have kh1 := kg1.at_ (i := 0) rfl
      have ki1 := kg1.at_ (i := 1) rfl
      have kj1 : Fr (· = q) V1 V2 := hV2 ▸ ((Fr.refl (· = q) V1).setB _).setB _
      obtain ⟨V3, hV3⟩ : ∃ U, (V2.setCell ⟨q, 0, none⟩ (.int .u8 ((0 : Int), (0 : Int)).1)).setCell ⟨q, 1, none⟩ (.int .u64 ((0 : Int), (0 : Int)).2) = U := ⟨_, rfl⟩
      have ka2 := (kg1).at_ (i := 0) rfl
      have kb2 := (kg1).at_ (i := 1) rfl
      have kc2 := (kg1).frozen 0
      have kd2 := (kg1).frozen 1
      have ke2 := ((kg1).set 0 (.int .u8 ((0 : Int), (0 : Int)).1)).at_ (i := 1) rfl
      have kf2 := ((kg1).set 0 (.int .u8 ((0 : Int), (0 : Int)).1)).frozen 1
      have kg2 : Blk V3 q 30 (keyV ((0 : Int), (0 : Int))) := hV3 ▸ ((kg1).set 0 (.int .u8 ((0 : Int), (0 : Int)).1)).set 1 (.int .u64 ((0 : Int), (0 : Int)).2)
      have kh2 := kg2.at_ (i := 0) rfl
      have ki2 := kg2.at_ (i := 1) rfl
      have kj2 : Fr (· = q) V2 V3 := hV3 ▸ ((Fr.refl (· = q) V2).setB _).setB _
      have hT := hidd (And.intro ((H1.out.1.fr kj1 (fun k hk e => hFq.out (e ▸ hk))).fr kj2 (fun k hk e => hFq.out (e ▸ hk))) (And.intro kg2 (show Fr F W V3 from by
        have f := (kj1.trans kj2)
        refine ⟨f.os.trans H1.out.2.os, f.tape.trans H1.out.2.tape, f.output.trans H1.out.2.output, Nat.le_trans H1.out.2.size f.size, fun k hk hF => ?_⟩
        exact (f.block k (by have := H1.out.2.size; omega) (by omega)).trans (H1.out.2.block k hk hF))))
      have l2 := ld30 kg2
      clear hd hb hn kg1 kg2 kj1 kj2
      go_wp2
      refine bodyPost_ret (v := nextV none) (by simp [results, Try.results11, Act.put, asAddr, l2, nextV]) rfl ?_
      rw [hd'.out]
      exact ⟨rfl, hT.out.1, hT.out.2.2⟩
    · have hd : dueM m now = (some t, (canM m (kOf t)).2) := by unfold dueM; rw [hb]; simp only; rw [if_neg hlt]
      have hd' := hidd hd
      have hgt : decide (t.2.2 > now) = false := by simpa using hlt
      have htm := (best_least hb).1
      have hkt := hidd (hist.out t htm).k
      obtain ⟨V2, hV2⟩ : ∃ U, (V1.setCell ⟨q, 0, none⟩ (.int .u8 (t.1, t.2.1).1)).setCell ⟨q, 1, none⟩ (.int .u64 (t.1, t.2.1).2) = U := ⟨_, rfl⟩
      have ka1 := (q1).at_ (i := 0) rfl
      have kb1 := (q1).at_ (i := 1) rfl
      have kc1 := (q1).frozen 0
      have kd1 := (q1).frozen 1
      have ke1 := ((q1).set 0 (.int .u8 (t.1, t.2.1).1)).at_ (i := 1) rfl
      have kf1 := ((q1).set 0 (.int .u8 (t.1, t.2.1).1)).frozen 1
      have kg1 : Blk V2 q 30 (keyV (t.1, t.2.1)) := hV2 ▸ ((q1).set 0 (.int .u8 (t.1, t.2.1).1)).set 1 (.int .u64 (t.1, t.2.1).2)
      have kh1 := kg1.at_ (i := 0) rfl
      have ki1 := kg1.at_ (i := 1) rfl
      have kj1 : Fr (· = q) V1 V2 := hV2 ▸ ((Fr.refl (· = q) V1).setB _).setB _
      have hT := hidd (And.intro (H1.out.1.fr kj1 (fun k hk e => hFq.out (e ▸ hk))) (And.intro kg1 (show Fr F W V2 from by
        have f := kj1
        refine ⟨f.os.trans H1.out.2.os, f.tape.trans H1.out.2.tape, f.output.trans H1.out.2.output, Nat.le_trans H1.out.2.size f.size, fun k hk hF => ?_⟩
        exact (f.block k (by have := H1.out.2.size; omega) (by omega)).trans (H1.out.2.block k hk hF))))
      clear hd hb hn kg1 kj1 htm
      go_wp2_with fail
      refine (cancel_any V2 hT.out.1 (kOf t) hkt.out).mono ?_
      rintro r V4 ⟨rfl, t4, f4⟩
      have q4 := hT.out.2.1.fr f4 hFq.out
      obtain ⟨V5, hV5⟩ : ∃ U, (V4.setCell ⟨q, 0, none⟩ (.int .u8 (t.1, t.2.1).1)).setCell ⟨q, 1, none⟩ (.int .u64 (t.1, t.2.1).2) = U := ⟨_, rfl⟩
      have ka2 := (q4).at_ (i := 0) rfl
      have kb2 := (q4).at_ (i := 1) rfl
      have kc2 := (q4).frozen 0
      have kd2 := (q4).frozen 1
      have ke2 := ((q4).set 0 (.int .u8 (t.1, t.2.1).1)).at_ (i := 1) rfl
      have kf2 := ((q4).set 0 (.int .u8 (t.1, t.2.1).1)).frozen 1
      have kg2 : Blk V5 q 30 (keyV (t.1, t.2.1)) := hV5 ▸ ((q4).set 0 (.int .u8 (t.1, t.2.1).1)).set 1 (.int .u64 (t.1, t.2.1).2)
      have kh2 := kg2.at_ (i := 0) rfl
      have ki2 := kg2.at_ (i := 1) rfl
      have kj2 : Fr (· = q) V4 V5 := hV5 ▸ ((Fr.refl (· = q) V4).setB _).setB _
      have hT2 := hidd (And.intro (t4.fr kj2 (fun k hk e => hFq.out (e ▸ hk))) (show Fr F W V5 from by
        have f := hT.out.2.2.trans f4
        refine ⟨kj2.os.trans f.os, kj2.tape.trans f.tape, kj2.output.trans f.output, Nat.le_trans f.size kj2.size, fun k hk hF => ?_⟩
        exact (kj2.block k (by have := f.size; omega) (by omega)).trans (f.block k hk hF)))
      have l2 := ld30 kg2
      clear t4 f4 kg2 kj2 hT q4
      go_wp2
      refine bodyPost_ret (v := nextV (some t)) (by simp [results, Try.results11, Act.put, asAddr, l2, nextV]) rfl ?_
      rw [hd'.out]
      exact ⟨rfl, hT2.out.1, hT2.out.2⟩
end Go.Proofs.Ytepenfgoejhofaa
