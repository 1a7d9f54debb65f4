/- A book in memory; its functions, walked once. No condition. -/
import Derived.Test.YtajlgglknianlaaSvTick
import Derived.Test.YtajlgglknianlaaDmTick
import Derived.Test.YtajlgglknianlaaSvAll
import Derived.Test.YtajlgglknianlaaDmAll
import Derived.RegionCalls
import Derived.Deep.RegionWith
namespace Go.Proofs.Ytajlgglknianlaa
open Go.ChangeShapes Go.WideShapes Go.ChangeAt Go.RowKit Go.Deep
set_option linter.unusedVariables false
set_option linter.unusedSimpArgs false

/-- A book: its block, both lists. -/
structure Bk (W : World) (B : Nat) (vs vd : Value) (ss : List Sv.E) (ds : List Dm.E) : Prop where
  blk : Blk W B 63 #[.int .i64 4, vs, .int .i64 4, vd]
  s : W.ownsRow (B + 1) 68 17 vs ss.length (Sv.flat ss)
  d : W.ownsRow (B + 1) 71 2 vd ds.length (Dm.flat ds)
  sok : ∀ e ∈ ss, Sv.IsE e
  dok : ∀ e ∈ ds, Dm.IsE e
  s4 : ss.length ≤ 4
  d4 : ds.length ≤ 4
  apart : ∀ k, vs.ownBlock = some k → vd.ownBlock ≠ some k
/-- What may turn when servers, or domains, turn. -/
abbrev Own (B : Nat) (v : Value) : Nat → Prop := fun k => k = B ∨ v.ownBlock = some k

section
variable {w W : World} {B : Nat} {vs vd : Value} {ss : List Sv.E} {ds : List Dm.E} {S : Nat → Prop}
theorem Bk.fr (h : Bk w B vs vd ss ds) (hf : Fr S w W) (h1 : ¬ S B) (h2 : ∀ k, vs.ownBlock = some k → ¬ S k) (h3 : ∀ k, vd.ownBlock = some k → ¬ S k) : Bk W B vs vd ss ds :=
  ⟨h.blk.fr hf h1, ownRow_fr h.s hf h2, ownRow_fr h.d hf h3, h.sok, h.dok, h.s4, h.d4, h.apart⟩
theorem Bk.to (h : Bk w B vs vd ss ds) (hb : Below w.heap.size w W) : Bk W B vs vd ss ds := h.fr (Fr.of_below hb (fun _ => False)) id (fun _ _ => id) (fun _ _ => id)
theorem Bk.hs (h : Bk w B vs vd ss ds) : Sv.Has #[.int .i64 4, vs, .int .i64 4, vd] := ⟨rfl, rfl⟩
theorem Bk.hd (h : Bk w B vs vd ss ds) : Dm.Has #[.int .i64 4, vs, .int .i64 4, vd] := ⟨rfl, rfl⟩
theorem Bk.sInv (h : Bk w B vs vd ss ds) : Sv.Inv w w B (B + 1) #[.int .i64 4, vs, .int .i64 4, vd] vs vs ss := ⟨h.blk, h.s, h.sok, Fr.refl _ _, fun k hk => .inl hk⟩
theorem Bk.dInv (h : Bk w B vs vd ss ds) : Dm.Inv w w B (B + 1) #[.int .i64 4, vs, .int .i64 4, vd] vd vd ds := ⟨h.blk, h.d, h.dok, Fr.refl _ _, fun k hk => .inl hk⟩
theorem Bk.sTo (h : Bk w B vs vd ss ds) {v : Value} {es : List Sv.E} (hi : Sv.Inv w W B (B + 1) #[.int .i64 4, vs, .int .i64 4, vd] vs v es) (h4 : es.length ≤ 4) : Bk W B v vd es ds where
  blk := hi.blk
  s := hi.own
  d := ownRow_fr h.d hi.fr (fun k hk e => by
    rcases e with e | e
    · have := (h.d.lt k hk).1; omega
    · exact h.apart k e hk)
  sok := hi.ok
  dok := h.dok
  s4 := h4
  d4 := h.d4
  apart := fun k hk e => by
    rcases hi.mine k hk with hm | hm
    · exact h.apart k hm e
    · have := (h.d.lt k e).2; omega
theorem Bk.dTo (h : Bk w B vs vd ss ds) {v : Value} {es : List Dm.E} (hi : Dm.Inv w W B (B + 1) #[.int .i64 4, vs, .int .i64 4, vd] vd v es) (h4 : es.length ≤ 4) : Bk W B vs v ss es where
  blk := hi.blk
  s := ownRow_fr h.s hi.fr (fun k hk e => by
    rcases e with e | e
    · have := (h.s.lt k hk).1; omega
    · exact h.apart k hk e)
  d := hi.own
  sok := h.sok
  dok := hi.ok
  s4 := h.s4
  d4 := h4
  apart := fun k hk e => by
    rcases hi.mine k e with hm | hm
    · exact h.apart k hk hm
    · have := (h.s.lt k hk).2; omega
theorem Bk.lt (h : Bk w B vs vd ss ds) : B < w.heap.size := h.blk.lt
theorem Bk.most (h : Bk w B vs vd ss ds) : w.cell? ⟨B, 0, none⟩ = some (.int .i64 4) := h.blk.at_ rfl
end

/-- A book that is not there, or that no call made. -/
def Not (w : World) (v : Value) : Prop := v = .pointer none ∨ ∃ B, v = .pointer (some ⟨B, 0, none⟩) ∧ w.cell? ⟨B, 0, none⟩ = some (.int .i64 0)
theorem there_not (w : World) (v : Value) (h : Not w v) : Calls Try.prog 20 #[v] w fun e w' => e = .returned (.bool false) ∧ w' = w := by
  rcases h with rfl | ⟨B, rfl, hc⟩
  · go_enter Try.func20, Try.ntmps20
    go_wp2
    go_ret
    exact ⟨rfl, rfl⟩
  · go_enter Try.func20, Try.ntmps20
    go_wp2
    go_ret
    exact ⟨rfl, rfl⟩
theorem servers_not (w : World) (v a b c : Value) (h : Not w v) : Calls Try.prog 9 #[v, a, b, c] w fun e w' => (∃ r, e = .returned r) ∧ w' = w := by
  have hT := hidd (there_not w v h)
  clear h
  go_enter Try.func9, Try.ntmps9
  go_wp2_with (go_at_call 20; refine Calls.mono hT.out ?_; rintro e w2 ⟨rfl, rfl⟩)
  go_end0
  exact ⟨⟨_, rfl⟩, rfl⟩
theorem domains_not (w : World) (v a b c : Value) (h : Not w v) : Calls Try.prog 15 #[v, a, b, c] w fun e w' => (∃ r, e = .returned r) ∧ w' = w := by
  have hT := hidd (there_not w v h)
  clear h
  go_enter Try.func15, Try.ntmps15
  go_wp2_with (go_at_call 20; refine Calls.mono hT.out ?_; rintro e w2 ⟨rfl, rfl⟩)
  go_end0
  exact ⟨⟨_, rfl⟩, rfl⟩
theorem tick_not (w : World) (v a : Value) (h : Not w v) : Calls Try.prog 10 #[v, a] w fun e w' => (∃ r, e = .returned r) ∧ w' = w := by
  have hT := hidd (there_not w v h)
  clear h
  go_enter Try.func10, Try.ntmps10
  go_wp2_with (go_at_call 20; refine Calls.mono hT.out ?_; rintro e w2 ⟨rfl, rfl⟩)
  refine bodyPost_ret (results_none rfl _ _ _) rfl ?_
  exact ⟨⟨_, rfl⟩, rfl⟩
theorem next_not (w : World) (v : Value) (h : Not w v) : Calls Try.prog 12 #[v] w fun e w' => e = .returned (.int .u64 9223372036854775807) ∧ w' = w := by
  have hT := hidd (there_not w v h)
  clear h
  go_enter Try.func12, Try.ntmps12
  go_wp2_with (go_at_call 20; refine Calls.mono hT.out ?_; rintro e w2 ⟨rfl, rfl⟩)
  go_ret
  exact ⟨rfl, rfl⟩
theorem allS_not (w : World) (v : Value) (h : Not w v) : Calls Try.prog 11 #[v] w fun e w' => e = .returned (.slice none 0 0) ∧ w' = w := by
  have hT := hidd (there_not w v h)
  clear h
  go_enter Try.func11, Try.ntmps11
  go_wp2_with (first
    | (go_at_call 20; refine Calls.mono hT.out ?_; rintro e w2 ⟨rfl, rfl⟩)
    | (go_at_call 24; refine Calls.mono (Sv.clip_any _ none 0 0 (Nat.le_refl _) (by decide)) ?_; rintro e w3 ⟨rfl, rfl⟩))
  go_ret
  exact ⟨rfl, rfl⟩
theorem allD_not (w : World) (v : Value) (h : Not w v) : Calls Try.prog 14 #[v] w fun e w' => e = .returned (.slice none 0 0) ∧ w' = w := by
  have hT := hidd (there_not w v h)
  clear h
  go_enter Try.func14, Try.ntmps14
  go_wp2_with (first
    | (go_at_call 20; refine Calls.mono hT.out ?_; rintro e w2 ⟨rfl, rfl⟩)
    | (go_at_call 27; refine Calls.mono (Dm.clip_any _ none 0 0 (Nat.le_refl _) (by decide)) ?_; rintro e w3 ⟨rfl, rfl⟩))
  go_ret
  exact ⟨rfl, rfl⟩

theorem new_any (w : World) : Calls Try.prog 8 #[] w fun e w' => e = .returned (.pointer (some ⟨w.heap.size, 0, none⟩)) ∧ Bk w' w.heap.size (.slice none 0 0) (.slice none 0 0) [] [] ∧ Below w.heap.size w w' := by
  have h0 := Blk.new w 63 #[.int .i64 0, .slice none 0 0, .int .i64 0, .slice none 0 0]
  have h1 := h0.set 0 (.int .i64 4)
  have h2 := hidd (h1.set 2 (.int .i64 4))
  have c0 := h0.at_ (i := 0) rfl
  have f0 := h0.frozen 0
  have c1 := h1.at_ (i := 2) rfl
  have f1 := h1.frozen 2
  clear h0 h1
  go_enter Try.func8, Try.ntmps8
  go_wp2
  go_ret
  exact ⟨rfl, ⟨Blk.new _ _ _, World.ownsRow_nil _ _ _ _, World.ownsRow_nil _ _ _ _, fun e h => by simp at h, fun e h => by simp at h, by simp, by simp, fun k h => by cases h⟩,
    (Below.refl _ w).alloc (Nat.le_refl _) _⟩
theorem servers_any (w : World) (B : Nat) (vs vd : Value) (ss : List Sv.E) (ds : List Dm.E) (h : Bk w B vs vd ss ds) (now life : Int) (hnow : 0 ≤ now ∧ now ≤ 18446744073709551615) (hlife : 0 ≤ life ∧ life ≤ 4294967295)
    (A : Option Addr) (n c : Nat) (xs : List (List Int)) (hx : Sv.IsL w (fun k => k ≠ B ∧ vs.ownBlock ≠ some k) A n c xs) :
    Calls Try.prog 9 #[.pointer (some ⟨B, 0, none⟩), .int .u64 now, .int .u32 life, .slice A n c] w fun e w' => (∃ r, e = .returned r) ∧
      ∃ v, Bk w' B v vd (putAll Sv.sameT (cadd now (csecs life)) life ss xs) ds ∧ Fr (Own B vs) w w' ∧ (∀ k, v.ownBlock = some k → vs.ownBlock = some k ∨ w.heap.size ≤ k) := by
  have hT := hidd (Sv.there_yes w B h.most)
  have hP := hidd (Sv.put_any w B (B + 1) _ vs ss h.hs h.sInv (by omega) h.lt now life hnow hlife A n c xs hx)
  have h' := hidd h
  clear h hx
  go_enter Try.func9, Try.ntmps9
  go_wp2_with (first
    | (go_at_call 20; refine Calls.mono hT.out ?_; rintro e w2 ⟨rfl, rfl⟩)
    | (go_at_call 21; refine Calls.mono hP.out ?_; rintro e w3 ⟨⟨r, rfl⟩, v, hv⟩))
  go_end0
  exact ⟨⟨_, rfl⟩, v, h'.out.sTo hv (putAll_four _ _ _ _ _ h'.out.s4), hv.fr, hv.mine⟩
theorem allS_any (w : World) (B : Nat) (vs vd : Value) (ss : List Sv.E) (ds : List Dm.E) (h : Bk w B vs vd ss ds) : Calls Try.prog 11 #[.pointer (some ⟨B, 0, none⟩)] w fun e w' => ∃ v, e = .returned v ∧ Sv.Given w w' v ss := by
  obtain ⟨A, c, rfl, hK⟩ := h.sInv.isK
  exact Sv.all_any w B A ss.length c ss h.most (h.sInv.isS h.hs) hK (by have := h.s4; omega)
theorem allD_any (w : World) (B : Nat) (vs vd : Value) (ss : List Sv.E) (ds : List Dm.E) (h : Bk w B vs vd ss ds) : Calls Try.prog 14 #[.pointer (some ⟨B, 0, none⟩)] w fun e w' => ∃ v, e = .returned v ∧ Dm.Given w w' v ds := by
  obtain ⟨A, c, rfl, hK⟩ := h.dInv.isK
  exact Dm.all_any w B A ds.length c ds h.most (h.dInv.isS h.hd) hK (by have := h.d4; omega)
theorem next_any (w : World) (B : Nat) (vs vd : Value) (ss : List Sv.E) (ds : List Dm.E) (h : Bk w B vs vd ss ds) : Calls Try.prog 12 #[.pointer (some ⟨B, 0, none⟩)] w fun e w' => e = .returned (.int .u64 (min (nextOf (ss.map (·.2))) (nextOf (ds.map (·.2))))) ∧ Below w.heap.size w w' := by
  have hT := hidd (Sv.there_yes w B h.most)
  have h' := hidd h
  have hS := hidd (fun W (hb : Below w.heap.size w W) => show Calls Try.prog 25 #[.pointer (some ⟨B, 0, none⟩)] W fun e w' => e = .returned (.int .u64 (nextOf (ss.map (·.2)))) ∧ Below W.heap.size W w' by
    obtain ⟨A, c, rfl, hK⟩ := (h.to hb).sInv.isK
    exact Sv.next_any W B A ss.length c ss ((h.to hb).sInv.isS h.hs) hK)
  have hD := hidd (fun W (hb : Below w.heap.size w W) => show Calls Try.prog 26 #[.pointer (some ⟨B, 2, none⟩)] W fun e w' => e = .returned (.int .u64 (nextOf (ds.map (·.2)))) ∧ Below W.heap.size W w' by
    obtain ⟨A, c, rfl, hK⟩ := (h.to hb).dInv.isK
    exact Dm.next_any W B A ds.length c ds ((h.to hb).dInv.isS h.hd) hK)
  clear h
  go_enter Try.func12, Try.ntmps12
  go_wp2_with (go_at_call 20; refine Calls.mono hT.out ?_; rintro e w2 ⟨rfl, rfl⟩)
  have b0 := (Below.refl w2.heap.size w2).drew
  go_region_with (first
    | (go_at_call 25; refine Calls.mono (hS.out _ b0) ?_; rintro e w3 ⟨rfl, b1⟩)
    | (go_at_call 26; refine Calls.mono (hD.out _ (b0.trans b1)) ?_; rintro e w4 ⟨rfl, b2⟩))
  go_wp2
  all_goals go_ret
  all_goals refine ⟨?_, b0.trans (b1.trans (b2.mono b1.size))⟩
  · show Ending.returned (Value.int .u64 (nextOf (ds.map (·.2)))) = _
    congr 2
    omega
  · show Ending.returned (Value.int .u64 (nextOf (ss.map (·.2)))) = _
    congr 2
    omega

set_option maxRecDepth 100000 in
theorem tick_any (w : World) (B : Nat) (vs vd : Value) (ss : List Sv.E) (ds : List Dm.E) (h : Bk w B vs vd ss ds) (now : Int) : Calls Try.prog 10 #[.pointer (some ⟨B, 0, none⟩), .int .u64 now] w fun e w' => (∃ r, e = .returned r) ∧
      ∃ vs' vd', Bk w' B vs' vd' (Sv.ticked now ss) (Dm.ticked now ds) ∧ Fr (fun k => k = B ∨ vs.ownBlock = some k ∨ vd.ownBlock = some k) w w' := by
  have hT := hidd (Sv.there_yes w B h.most)
  have h' := hidd h
  obtain ⟨s, Ss⟩ : ∃ s, w.heap.size = s := ⟨_, rfl⟩
  have hBs : B < s := by have := h.lt; omega
  clear h
  go_enter Try.func10, Try.ntmps10
  go_wp2_with (go_at_call 20; refine Calls.mono hT.out ?_; rintro e w2 ⟨rfl, rfl⟩)
  go_region
  go_wp2_with fail
  have k0 := Blk.new w2 33 #[.func (.func 22) #[.pointer (some ⟨B, 0, none⟩)] #[], .func (.func 23) #[.pointer (some ⟨B, 2, none⟩)] #[]]
  have b0 := ((Below.refl s w2).alloc (by omega) (.cells #[.func (.func 22) #[.pointer (some ⟨B, 0, none⟩)] #[], .func (.func 23) #[.pointer (some ⟨B, 2, none⟩)] #[]] 33)).drew
  have K0 := hidd k0.drew
  have B0 := hidd b0
  clear k0 b0
  generalize (w2.alloc (.cells #[.func (.func 22) #[.pointer (some ⟨B, 0, none⟩)] #[], .func (.func 23) #[.pointer (some ⟨B, 2, none⟩)] #[]] 33)).drew = V at K0 B0 ⊢
  rw [Ss] at K0
  go_loopw [19] (fun i wr => ∃ (j : Nat) (a b : Value), j ≤ 2 ∧ i = .int .i64 j ∧ Bk wr B a b (if 1 ≤ j then Sv.ticked now ss else ss) (if 2 ≤ j then Dm.ticked now ds else ds) ∧ Blk wr s 33 #[.func (.func 22) #[.pointer (some ⟨B, 0, none⟩)] #[], .func (.func 23) #[.pointer (some ⟨B, 2, none⟩)] #[]] ∧
    Fr (fun k => k = B ∨ vs.ownBlock = some k ∨ vd.ownBlock = some k) w2 wr ∧ (∀ k, a.ownBlock = some k → k ≠ s ∧ (vs.ownBlock = some k ∨ s < k)) ∧ (∀ k, b.ownBlock = some k → k ≠ s ∧ (vd.ownBlock = some k ∨ s < k))) (fun i _ => 2 - (intOf i).toNat)
  case atStart => exact ⟨0, vs, vd, by omega, rfl, h'.out.to (by rw [Ss]; exact B0.out), K0.out, Fr.of_below (by rw [Ss]; exact B0.out) _, fun k hk => ⟨by have := (h'.out.s.lt k hk).2; omega, .inl hk⟩, fun k hk => ⟨by have := (h'.out.d.lt k hk).2; omega, .inl hk⟩⟩
  case round =>
    obtain ⟨j, a, b, hj, rfl, hbk, hK, hF, ha, hb⟩ := hrel
    have hbk' := hidd hbk
    have hK' := hidd hK
    have hws := hF.size
    have hF' := hidd hF
    have hsr := hK.lt
    match j, hj with
    | 0, _ =>
      have c0 := hK.at_ (i := 0) rfl
      have hP := hidd (Sv.tick_any wr B (B + 1) _ a _ hbk.hs hbk.sInv (by omega) now)
      clear hbk hK hF
      go_wp2_with (go_at_call 22; refine Calls.mono hP.out ?_; rintro e w3 ⟨⟨r, rfl⟩, v, hv⟩)
      go_roundw
      case measure => simp [intOf]
      case rel =>
        have hl : (Sv.ticked now ss).length ≤ 4 := Nat.le_trans (List.length_filter_le _ _) hbk'.out.s4
        exact ⟨1, v, b, by omega, by go_num, hbk'.out.sTo hv hl, hK'.out.fr hv.fr (fun e => by
            rcases e with e | e
            · omega
            · exact (ha s e).1 rfl),
          Sv.fr_step hF'.out hv.fr (fun k hk e => by
            rcases e with e | e
            · exact .inl e
            · rcases (ha k e).2 with h1 | h1
              · exact .inr (.inl h1)
              · omega),
          fun k hk => by
            rcases hv.mine k hk with e | e
            · exact ha k e
            · exact ⟨by omega, .inr (by omega)⟩, hb⟩
    | 1, _ =>
      have c0 := hK.at_ (i := 1) rfl
      have hP := hidd (Dm.tick_any wr B (B + 1) _ b _ hbk.hd hbk.dInv (by omega) now)
      clear hbk hK hF
      go_wp2_with (go_at_call 23; refine Calls.mono hP.out ?_; rintro e w3 ⟨⟨r, rfl⟩, v, hv⟩)
      go_roundw
      case measure => simp [intOf]
      case rel =>
        have hl : (Dm.ticked now ds).length ≤ 4 := Nat.le_trans (List.length_filter_le _ _) hbk'.out.d4
        exact ⟨2, a, v, by omega, by go_num, hbk'.out.dTo hv hl, hK'.out.fr hv.fr (fun e => by
            rcases e with e | e
            · omega
            · exact (hb s e).1 rfl),
          Sv.fr_step hF'.out hv.fr (fun k hk e => by
            rcases e with e | e
            · exact .inl e
            · rcases (hb k e).2 with h1 | h1
              · exact .inr (.inr h1)
              · omega),
          ha, fun k hk => by
            rcases hv.mine k hk with e | e
            · exact hb k e
            · exact ⟨by omega, .inr (by omega)⟩⟩
    | 2, _ =>
      clear hbk hK hF
      go_wp2
      go_end0
      exact ⟨⟨_, rfl⟩, a, b, hbk'.out, hF'.out⟩
end Go.Proofs.Ytajlgglknianlaa
