/- The last one is taken; one is put behind; a timer is put right; one is taken out. Each function walked once. No condition but that there are not too many. -/
import Derived.Test.YtepenfgoejhofaaDown
namespace Go.Proofs.Ytepenfgoejhofaa
open Go.ChangeShapes Go.WideShapes Go.ChangeAt Go.RowKit Go.Deep
set_option linter.unusedVariables false
set_option linter.unusedSimpArgs false

theorem own_take {W : World} {g n c k : Nat} {xs : List Value} (h : W.ownsRow 0 58 1 (.slice (some ⟨g, 0, none⟩) n c) n xs) (hk : k ≤ n) : W.ownsRow 0 58 1 (.slice (some ⟨g, 0, none⟩) k c) k (xs.take k) := by
  have := own_cut h hk
  rwa [Nat.mul_one] at this
set_option maxRecDepth 100000 in
set_option maxHeartbeats 2000000 in
theorem pop_any (W : World) {F : Nat → Prop} {B n c N : Nat} {A : Option Addr} {mv : Value} {L : Xs} (h : Hp W F B A N c mv L) (hN : N = n + 1) (hn : N ≤ 1000000) {x : Nat × T3} (hx : L[n]? = some x) :
    Calls Try.prog 56 #[ptr B] W fun r W' => r = .returned (.iface 58 (ptr x.1)) ∧ Hp W' F B A n c mv (L.take n) ∧ Fr F W W' := by
  obtain ⟨g, rfl, fg, cx, hlt, hnc, hcm⟩ := h.at_ hx
  have H := hidd h
  have c0 := h.set.at_ (i := 0) rfl
  have z0 := h.set.frozen 0
  have hw : (N : Int) - 1 = (n : Int) := by omega
  have hH := hidd (show Hp (W.setCell ⟨B, 0, none⟩ (.slice (some ⟨g, 0, none⟩) n c)) F B (some ⟨g, 0, none⟩) n c mv (L.take n) ∧ Fr F W (W.setCell ⟨B, 0, none⟩ (.slice (some ⟨g, 0, none⟩) n c)) from by
    obtain ⟨cs, hg⟩ := own_blk h.own
    have nBg := blk_ne h.set hg (by decide)
    have hf : Fr (· = B) W (W.setCell ⟨B, 0, none⟩ (.slice (some ⟨g, 0, none⟩) n c)) := (Fr.refl (· = B) W).setB _
    refine ⟨⟨by rw [List.length_take, h.len]; omega, h.set.set 0 _, ?_, fun j y hj => ?_, h.fb, h.fg, fun y hy => h.fx y (List.mem_of_mem_take hy)⟩, (Fr.refl F W).setCell (.inl h.fb) _⟩
    · have := ownRow_fr (own_take h.own (k := n) (by omega)) hf (fun k hk => by
        obtain rfl : g = k := by simpa [Value.ownBlock] using hk
        exact fun e => nBg e.symm)
      rwa [← List.map_take] at this
    · rw [List.getElem?_take] at hj
      split at hj
      · exact (h.box j y hj).fr hf (fun e => blk_ne h.set (h.box j y hj) (by decide) e.symm)
      · cases hj)
  clear h
  go_enter Try.func56, Try.ntmps56
  go_wp2
  go_wp2
  go_ret
  exact ⟨rfl, hH.out⟩
/-- What a call leaves of the blocks: all but the set's own, which may become more by new ones. -/
structure Gr (F : Nat → Prop) (W : World) (F' : Nat → Prop) (W' : World) : Prop where
  fr : Fr F W W'
  mor : ∀ k, F' k → F k ∨ (W.heap.size ≤ k ∧ k < W'.heap.size)
theorem Gr.same {F : Nat → Prop} {W W' : World} (h : Fr F W W') : Gr F W F W' := ⟨h, fun k hk => .inl hk⟩
theorem Gr.trans {F F' F'' : Nat → Prop} {W W' W'' : World} (h : Gr F W F' W') (h' : Gr F' W' F'' W'') (hb : ∀ k, F k → k < W.heap.size) : Gr F W F'' W'' := by
  refine ⟨?_, fun k hk => ?_⟩
  · refine ⟨h'.fr.os.trans h.fr.os, h'.fr.tape.trans h.fr.tape, h'.fr.output.trans h.fr.output, Nat.le_trans h.fr.size h'.fr.size, fun k hk hF => ?_⟩
    exact (h'.fr.block k (by have := h.fr.size; omega) (fun hF' => by rcases h.mor k hF' with h1 | h1; exact hF h1; omega)).trans (h.fr.block k hk hF)
  · rcases h'.mor k hk with h1 | h1
    · rcases h.mor k h1 with h2 | h2
      · exact .inl h2
      · exact .inr ⟨h2.1, by have := h'.fr.size; omega⟩
    · exact .inr ⟨by have := h.fr.size; omega, h1.2⟩
theorem assert58 (W : World) (b : Nat) : (Instr.typeAssert (.iface 58 (ptr b)) 20 58 true).run Try.prog W = .ok (.tuple #[ptr b, .bool true]) W := by kernel_rfl
theorem Hp.away {W : World} {F : Nat → Prop} {B n c y : Nat} {A : Option Addr} {mv : Value} {L : Xs} {t : TypeId} {cs : Array Value} (h : Hp W F B A n c mv L) (hy : Blk W y t cs) (ht : 58 ≠ t) : ∀ k, (Value.slice A n c).ownBlock = some k → k ≠ y := fun k hk e => by
  subst e
  rcases h.own.2 with ⟨h', _⟩ | ⟨g', cap', cur, h', hb', hg, _⟩
  · rw [h'] at hk; simp [Value.ownBlock] at hk
  · rw [h'] at hk
    obtain rfl : g' = k := by simpa [Value.ownBlock] using hk
    exact blk_ne (t := 58) hg hy ht rfl
set_option maxRecDepth 100000 in
set_option maxHeartbeats 2000000 in
theorem pushm_any (W : World) {F : Nat → Prop} {B n c b j0 : Nat} {A : Option Addr} {mv : Value} {L : Xs} {t : T3} (h : Hp W F B A n c mv L) (hn : n ≤ 1000000) (hb : Blk W b 61 (boxV t j0)) (fb : F b) (hne : ∀ x ∈ L, x.1 ≠ b) :
    Calls Try.prog 57 #[ptr B, .iface 58 (ptr b)] W fun r W' => r = .returned (.tuple #[]) ∧ ∃ A' c' F', Hp W' F' B A' (n + 1) c' mv (L ++ [(b, t)]) ∧ Gr F W F' W' := by
  have c0 := h.set.at_ (i := 0) rfl
  have z0 := h.set.frozen 0
  have c3 := hb.at_ (i := 3) rfl
  have z3 := hb.frozen 3
  have nBb := blk_ne h.set hb (by decide)
  have K := hidd (And.intro h (And.intro hb (And.intro fb hne)))
  have hta := assert58 W b
  obtain ⟨V, hV⟩ : ∃ V, (W.setCell ⟨b, 3, none⟩ (.int .i64 (n : Int))).alloc (.cells #[ptr b] 58) = V := ⟨_, rfl⟩
  have hVs : V.heap.size = W.heap.size + 1 := by rw [← hV]; simp
  have f1 : Fr (· = b) W V := hV ▸ (((Fr.refl (· = b) W).setB _).alloc _)
  have b1 : Hid (Blk V b 61 (boxV t n)) := hidd (hV ▸ (hb.set 3 (.int .i64 (n : Int))).alloc _)
  have o1 : Hid (V.ownsRow 0 58 1 (.slice A n c) n (L.map fun x => ptr x.1)) := hidd (ownRow_fr h.own f1 (h.away hb (by decide)))
  have s1 : Hid (Blk V B 50 #[.slice A n c, mv]) := hidd (h.set.fr f1 nBb)
  have x1 : Hid (∀ j x, L[j]? = some x → Blk V x.1 61 (boxV x.2 j)) := hidd (fun j x hj => (h.box j x hj).fr f1 (hne x (List.mem_of_getElem? hj)))
  have r1 : Hid (Rd V (W.heap.size + 1) 1 (some ⟨W.heap.size, 0, none⟩) 1 1 [ptr b]) := hidd (by
    rw [← hV]
    have := Rd.one (W.setCell ⟨b, 3, none⟩ (.int .i64 (n : Int))) (ptr b) 58 rfl
    rwa [show (W.setCell ⟨b, 3, none⟩ (.int .i64 (n : Int))).heap.size = W.heap.size by simp] at this)
  have F1 := hidd (show Fr F W V from hV ▸ (((Fr.refl F W).setCell (.inl fb) _).alloc _))
  have aB := hidd (fun k hk => h.away h.set (by decide) k hk)
  have ab := hidd (fun k hk => h.away hb (by decide) k hk)
  have ax := hidd (fun (x : Nat × T3) (hx : x ∈ L) k hk => (by
    obtain ⟨j, hj⟩ := List.mem_iff_getElem?.1 hx
    exact h.away (h.box j x hj) (by decide) k hk : k ≠ x.1))
  have hVs' := hidd hVs
  clear h hb fb hne f1 hVs
  go_enter Try.func57, Try.ntmps57
  go_wp2_with (first
    | (with_reducible show wpList _ _ _ (⟨_, Op.call { callee := Callee.builtin Builtin.append, args := _, argTypes := _ }, _, _, _, _⟩ :: _) _ _
       refine wpList_append_rd (v := .slice A n c) V rfl (.tmp 22) (.tmp 24) slTy rfl rfl o1.out rfl r1.out (by intro u hu; rw [List.mem_singleton.1 hu]; rfl) (by unfold maxLen; omega) (by omega) (Nat.zero_le _) ?_
       intro v5 w5 o5 g5 t5 l5
       obtain ⟨A5, c5, rfl⟩ := slice_of_own o5
       have s5 := hidd (s1.out.grown g5 (fun e => aB.out B e.symm rfl))
       have c05 := s5.out.at_ (i := 0) rfl
       have z05 := s5.out.frozen 0
       have O5 := hidd (And.intro o5 (And.intro g5 t5))
       clear o5 g5 t5 l5))
  go_end0
  obtain ⟨o5, g5, t5⟩ := O5.out
  obtain ⟨h, hb, fb, hne⟩ := K.out
  refine ⟨rfl, A5, c5, fun k => F k ∨ (W.heap.size ≤ k ∧ k < w5.heap.size), ?_, ?_⟩
  · have hf5 : Fr (fun k => (Value.slice A n c).ownBlock = some k) V w5 := Fr.of_grown g5
    have hfB : Fr (· = B) w5 (w5.setCell ⟨B, 0, none⟩ (.slice A5 (n + 1) c5)) := (Fr.refl (· = B) w5).setB _
    have hgB : ∀ k, (Value.slice A5 (n + 1) c5).ownBlock = some k → k ≠ B := fun k hk => by
      rcases t5 with e | e
      · exact aB.out k (e ▸ hk)
      · rw [e] at hk; injection hk with hk; have := s1.out.lt; omega
    refine ⟨by simp [h.len], s5.out.set 0 _, ?_, fun j x hj => ?_, .inl h.fb, fun k hk => ?_, fun x hx => ?_⟩
    · have := ownRow_fr o5 hfB hgB
      rwa [List.map_append, List.map_singleton]
    · have hx5 : Blk w5 x.1 61 (boxV x.2 j) ∧ x.1 ≠ B := by
        by_cases hj' : j < L.length
        · rw [List.getElem?_append_left hj'] at hj
          exact ⟨(x1.out j x hj).fr hf5 (fun e => ax.out x (List.mem_of_getElem? hj) _ e rfl), blk_ne (x1.out j x hj) s1.out (by decide)⟩
        · rw [List.getElem?_append_right (by omega)] at hj
          have hj0 : j = L.length := by
            have := lt_of_some hj
            simp at this; omega
          subst hj0
          simp at hj
          subst hj
          rw [h.len]
          exact ⟨b1.out.fr hf5 (fun e => ab.out _ e rfl), blk_ne b1.out s1.out (by decide)⟩
      exact hx5.1.fr hfB hx5.2
    · have hks : k < w5.heap.size := (o5.lt k hk).2
      rcases t5 with e | e
      · exact .inl (h.fg k (e ▸ hk))
      · rw [e] at hk; injection hk with hk
        have := hVs'.out
        exact .inr ⟨by omega, hks⟩
    · rcases List.mem_append.1 hx with hx | hx
      · exact .inl (h.fx x hx)
      · rw [List.mem_singleton.1 hx]; exact .inl fb
  · refine ⟨?_, fun k hk => ?_⟩
    · have f5 := F1.out.grown g5 (fun k hk => .inl (h.fg k hk))
      exact f5.setCell (.inl h.fb) _
    · rcases hk with hk | hk
      · exact .inl hk
      · exact .inr ⟨hk.1, by simpa using hk.2⟩
end Go.Proofs.Ytepenfgoejhofaa
