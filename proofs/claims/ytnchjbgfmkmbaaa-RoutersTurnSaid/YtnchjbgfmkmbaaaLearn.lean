/- Learn, walked once. No condition. -/
import Derived.Test.YtnchjbgfmkmbaaaLearnP
namespace Go.Proofs.Ytnchjbgfmkmbaaa
open Go.ChangeShapes Go.WideShapes Go.ChangeAt Go.RowKit Go.Deep
set_option linter.unusedVariables false
set_option linter.unusedSimpArgs false

/-- While Learn runs: the list, and the call's own boxes. -/
structure St (w W : World) (B q p0 p1 p2 p3 pe : Nat) (v v' : Value) (cs : List E) (last : List Int) (had b : Bool) (a : List Int) (x : E) : Prop where
  l : Lr w W B q v v' cs last had
  k0 : Blk W p0 29 #[.pointer (some ⟨B, 0, none⟩)]
  k1 : Blk W p1 23 (bytesV a)
  k2 : Blk W p2 4 #[.bool false]
  k3 : Blk W p3 4 #[.bool b]
  ke : Blk W pe 48 (encV x)
/-- Where the boxes lie. -/
structure Bx (w : World) (q p0 p1 p2 p3 pe : Nat) : Prop where
  h0 : w.heap.size ≤ p0 ∧ p0 < q
  h1 : w.heap.size ≤ p1 ∧ p1 < q
  h2 : w.heap.size ≤ p2 ∧ p2 < q
  h3 : w.heap.size ≤ p3 ∧ p3 < q
  he : w.heap.size ≤ pe ∧ pe < q
  n02 : p0 ≠ p2
  n12 : p1 ≠ p2
  n32 : p3 ≠ p2
section
variable {w W V : World} {B q p0 p1 p2 p3 pe : Nat} {v v' u : Value} {cs ds : List E} {last : List Int} {had b : Bool} {a : List Int} {x : E}
theorem St.to (h : St w W B q p0 p1 p2 p3 pe v v' cs last had b a x) (hb : Below W.heap.size W V) : St w V B q p0 p1 p2 p3 pe v v' cs last had b a x :=
  ⟨h.l.to hb, h.k0.below hb h.k0.lt, h.k1.below hb h.k1.lt, h.k2.below hb h.k2.lt, h.k3.below hb h.k3.lt, h.ke.below hb h.ke.lt⟩
theorem St.turn (h : St w W B q p0 p1 p2 p3 pe v v' cs last had b a x) (hx : Bx w q p0 p1 p2 p3 pe) (hl : Lr w V B q v u ds last had) (hf : Fr (Own B v') W V) : St w V B q p0 p1 p2 p3 pe v u ds last had b a x :=
  ⟨hl, h.l.box h.k0 hx.h0.1 hx.h0.2 hf, h.l.box h.k1 hx.h1.1 hx.h1.2 hf, h.l.box h.k2 hx.h2.1 hx.h2.2 hf, h.l.box h.k3 hx.h3.1 hx.h3.2 hf, h.l.box h.ke hx.he.1 hx.he.2 hf⟩
/-- Behind an append, ahead of the store. -/
theorem St.grown {A : Option Addr} {c : Nat} (h : St w W B q p0 p1 p2 p3 pe v (.slice A cs.length c) cs last had b a x) (hx : Bx w q p0 p1 p2 p3 pe) (hE : IsE x) (hg : W.grownBy V (Value.slice A cs.length c).ownBlock) :
    (V.cell? ⟨p0, 0, none⟩ = some (.pointer (some ⟨B, 0, none⟩)) ∧ V.cell? ⟨B, 0, none⟩ = some (.slice A cs.length c) ∧ (loadVar 48 ⟨pe, 0, none⟩).run Try.prog V = .ok (.agg (encV x)) V) ∧ V.frozen? ⟨B, 0, none⟩ = false ∧ Fr (Own B (.slice A cs.length c)) W V := by
  have F : Fr (fun k => (Value.slice A cs.length c).ownBlock = some k) W V := Fr.of_grown hg
  have hB : ¬ ((Value.slice A cs.length c).ownBlock = some B) := fun e => by have := (h.l.rl.own.lt B e).1; omega
  have F' : Fr (Own B (.slice A cs.length c)) W V := F.mono (fun k _ e => .inr e)
  have k0 := h.l.box h.k0 hx.h0.1 hx.h0.2 F'
  have ke := h.l.box h.ke hx.he.1 hx.he.2 F'
  exact ⟨⟨k0.at_ rfl, (F.cell (p := ⟨B, 0, none⟩) h.l.rl.lt hB).trans h.l.rl.row, loadB hE ke⟩, (F.frozen (p := ⟨B, 0, none⟩) h.l.rl.lt hB).trans (h.l.rl.blk.frozen 0), F'⟩
/-- A box that the call made since is written. -/
theorem St.row (h : St w W B q p0 p1 p2 p3 pe v v cs last had b a x) (hx : Bx w q p0 p1 p2 p3 pe) {p : Nat} (hp : q ≤ p) (c' : Array Value) : St w (W.setRow p c') B q p0 p1 p2 p3 pe v v cs last had b a x := by
  have hb := below_setRow (Below.refl q W) hp c'
  have F : Fr (fun k => q ≤ k) W (W.setRow p c') := ⟨hb.os, hb.tape, hb.output, hb.size, fun k hk hS => hb.block k (by omega)⟩
  have h1 := h.l.lt
  have h2 := h.l.lo
  exact ⟨⟨h.l.rl.fr F (by omega) (fun k hk => by have := h.l.old k hk; omega), ⟨F.os.trans h.l.fr.os, F.tape.trans h.l.fr.tape, F.output.trans h.l.fr.output, Nat.le_trans h.l.fr.size F.size, fun k hk hS => (F.block k (Nat.lt_of_lt_of_le hk h.l.fr.size) (by omega)).trans (h.l.fr.block k hk hS)⟩, h.l.mine, h.l.old, h.l.lt, h.l.lo, Nat.le_trans h.l.hi F.size⟩,
    h.k0.fr F (by have := hx.h0.2; omega), h.k1.fr F (by have := hx.h1.2; omega), h.k2.fr F (by have := hx.h2.2; omega), h.k3.fr F (by have := hx.h3.2; omega), h.ke.fr F (by have := hx.he.2; omega)⟩
theorem St.door (h : St w W B q p0 p1 p2 p3 pe v v' cs last had b a x) (hx : Bx w q p0 p1 p2 p3 pe) (ha : IsAddr a) (tmps : Array Value) (h10 : tmps.getD 10 undef = .pointer (some ⟨p2, 0, none⟩)) :
    Leaves Try.prog Try.f8 tmps (LearnSays w B v cs last had) [{ target := .fn (.func 23) #[.pointer (some ⟨p3, 0, none⟩), .pointer (some ⟨p0, 0, none⟩), .pointer (some ⟨p1, 0, none⟩), .pointer (some ⟨p2, 0, none⟩)], args := #[] }] .returning (W.setCell ⟨p2, 0, none⟩ (.bool false)) :=
  Go.Proofs.Ytnchjbgfmkmbaaa.door tmps h10 h.l ha h.k0 h.k1 h.k2 h.k3 hx.h2.1 hx.h2.2 hx.n02 hx.n12 hx.n32
end

theorem rangeBelow {w W : World} {g o : Nat} {vs : List Value} {n : Nat} (h : w.rangeAt g o vs) (hb : Below n w W) (hg : g < n) : W.rangeAt g o vs := fun j u hu => (World.cell?_of_block (w := w) (hb.block g hg)).trans (h j u hu)
def zeroC : Array Value := bytesV zeroA ++ #[.int .i64 0, .int .u64 0]
theorem dropS_less {e : E} {es : List E} (h : e ∈ es) : (dropS e.1 es).length = es.length - 1 := by
  rcases whereA_cases e.1 es with ⟨h1, h2⟩ | ⟨i, y, h1, h2, h3⟩
  · exact absurd rfl (h2 e h)
  · rw [dropS, if_neg (by omega), h1, Int.toNat_natCast, List.length_eraseIdx_of_lt (List.getElem?_eq_some_iff.1 h2).1]

set_option maxRecDepth 100000 in
set_option maxHeartbeats 8000000 in
theorem learn_any (w : World) (B : Nat) (v : Value) (es : List E) (last : List Int) (had : Bool) (h : Rl w B v es last had) (now life flags : Int) (a : List Int) (ha0 : IsAddr a) (hn0 : 0 ≤ now) (hn1 : now ≤ 18446744073709551615) (hl0 : 0 ≤ life) (hl1 : life ≤ 65535) (hf0 : 0 ≤ flags) (hf1 : flags ≤ 255) :
    Calls Try.prog 8 #[.pointer (some ⟨B, 0, none⟩), .int .u64 now, .agg (bytesV a), .int .u16 life, .int .u8 flags] w (LearnSays w B v (learnS (a, rk flags, cadd now (csecs life)) life es) last had) := by
  obtain ⟨p0, Sp0⟩ : ∃ p0, w.heap.size = p0 := ⟨_, rfl⟩
  have ha := hidd ha0
  have hmf : ∀ (fn : Fn) (first cap : Array Value) (w : World), (Instr.makeFunc fn first cap).run Try.prog w = .ok (.func fn first cap) w := fun _ _ _ _ => rfl
  have hse0 : 0 ≤ csecs life := by unfold csecs; split <;> omega
  have hse1 : csecs life ≤ 18446744073709551615 := by unfold csecs; split <;> omega
  have hti : 0 ≤ cadd now (csecs life) ∧ cadd now (csecs life) ≤ 18446744073709551615 := by unfold cadd; split <;> omega
  obtain ⟨til, htil0⟩ : ∃ til, cadd now (csecs life) = til := ⟨_, rfl⟩
  rw [htil0] at hti
  rw [htil0]
  have htil := hidd htil0
  have hE : Hid (IsE (a, rk flags, til)) := ⟨ha0, (rk_bd flags).1, (rk_bd flags).2, hti.1, hti.2⟩
  have hbu := builtE ha0 (rk flags) til
  obtain ⟨x, hx0⟩ : ∃ x : E, x = (a, rk flags, til) := ⟨_, rfl⟩
  have hx := hidd hx0
  have b1 : Below p0 w (((w.alloc (.cells #[.pointer (some ⟨B, 0, none⟩)] 29)).alloc (.cells (bytesV a) 23)).alloc (.cells #[.bool false] 4)) := by rw [← Sp0]; exact (((Below.refl _ w).alloc (Nat.le_refl _) _).alloc (by simp) _).alloc (by simp; omega) _
  have G1 : Hid (Rl (((w.alloc (.cells #[.pointer (some ⟨B, 0, none⟩)] 29)).alloc (.cells (bytesV a) 23)).alloc (.cells #[.bool false] 4)) B v es last had ∧
      Blk (((w.alloc (.cells #[.pointer (some ⟨B, 0, none⟩)] 29)).alloc (.cells (bytesV a) 23)).alloc (.cells #[.bool false] 4)) p0 29 #[.pointer (some ⟨B, 0, none⟩)] ∧
      Blk (((w.alloc (.cells #[.pointer (some ⟨B, 0, none⟩)] 29)).alloc (.cells (bytesV a) 23)).alloc (.cells #[.bool false] 4)) (p0 + 1) 23 (bytesV a) ∧
      Blk (((w.alloc (.cells #[.pointer (some ⟨B, 0, none⟩)] 29)).alloc (.cells (bytesV a) 23)).alloc (.cells #[.bool false] 4)) (p0 + 1 + 1) 4 #[.bool false]) := by
    refine ⟨h.to (by rw [Sp0]; exact b1), ?_, ?_, ?_⟩
    · rw [← Sp0]; exact ((Blk.new w 29 _).alloc _).alloc _
    · have := (Blk.new (w.alloc (.cells #[.pointer (some ⟨B, 0, none⟩)] 29)) 23 (bytesV a)).alloc (.cells #[.bool false] 4)
      simpa [Sp0] using this
    · have := Blk.new ((w.alloc (.cells #[.pointer (some ⟨B, 0, none⟩)] 29)).alloc (.cells (bytesV a) 23)) 4 #[.bool false]
      simpa [Sp0] using this
  have S1 : (((w.alloc (.cells #[.pointer (some ⟨B, 0, none⟩)] 29)).alloc (.cells (bytesV a) 23)).alloc (.cells #[.bool false] 4)).heap.size = p0 + 1 + 1 + 1 := by simp [Sp0]
  have S1' := hidd S1
  have b1' := hidd b1
  have hold := hidd (fun k (hk : v.ownBlock = some k) => (h.own.lt k hk).2)
  have hBw := h.lt
  have h4 := h.four
  clear h b1 S1
  have c0 := G1.out.2.1.at_ (i := 0) rfl
  have hT := hidd (there_yes _ B G1.out.1.made)
  have l1 := hidd (G1.out.2.2.1.load (P := Try.prog) Try.underlying23 rfl (size_a ha0))
  have hat := hidd (at_any _ B v es last had G1.out.1 a ha0)
  rcases whereA_cases a es with ⟨hi1, hno⟩ | ⟨i, e, hi1, hei, hea⟩
  · rw [hi1] at hat
    go_enter_defers Try.func8, Try.ntmps8
    go_wp2_with (first
      | (go_at_call 17; refine Calls.mono hT.out ?_; rintro e w2 ⟨rfl, rfl⟩)
      | (with_reducible show wpList _ _ _ (⟨_, Op.load 23 _, _, _, _, _⟩ :: _) _ _; refine wpList_load_want (by kernel_rfl) 23 _ rfl _ rfl _ (by with_reducible exact l1.out) ?_))
    refine Calls.mono hat.out ?_
    rintro e2 V2 ⟨rfl, b2⟩
    obtain ⟨p3, Sp3⟩ : ∃ p3, V2.heap.size = p3 := ⟨_, rfl⟩
    have hp3 : p0 + 1 + 1 + 1 ≤ p3 := by have := b2.size; rw [S1'.out] at this; omega
    have B3 := (Below.refl V2.heap.size V2).alloc (Nat.le_refl _) (.cells #[.bool false] 4)
    have G3 : Hid (Rl (V2.alloc (.cells #[.bool false] 4)) B v es last had ∧ Blk (V2.alloc (.cells #[.bool false] 4)) p0 29 #[.pointer (some ⟨B, 0, none⟩)] ∧ Blk (V2.alloc (.cells #[.bool false] 4)) (p0 + 1) 23 (bytesV a) ∧ Blk (V2.alloc (.cells #[.bool false] 4)) (p0 + 1 + 1) 4 #[.bool false] ∧ Blk (V2.alloc (.cells #[.bool false] 4)) p3 4 #[.bool false] ∧ Below p0 w (V2.alloc (.cells #[.bool false] 4))) :=
      ⟨(G1.out.1.to b2).to B3, (G1.out.2.1.below b2 G1.out.2.1.lt).alloc _, (G1.out.2.2.1.below b2 G1.out.2.2.1.lt).alloc _, (G1.out.2.2.2.below b2 G1.out.2.2.2.lt).alloc _, (by rw [← Sp3]; exact Blk.new _ _ _), (b1'.out.trans (b2.mono (by rw [S1'.out]; omega))).trans (B3.mono (by omega))⟩
    have S3 : Hid ((V2.alloc (.cells #[.bool false] 4)).heap.size = p3 + 1) := by show _ = _; simp [Sp3]
    clear hat l1 hT c0 b2 B3 G1 S1' b1'
    go_wp2_with fail
    generalize V2.alloc (.cells #[.bool false] 4) = V3 at G3 S3 ⊢
    obtain ⟨pe, Spe⟩ : ∃ pe, V3.heap.size = pe := ⟨_, rfl⟩
    have hpe : pe = p3 + 1 := by rw [← Spe]; exact S3.out
    have SD : V3.drew.heap.size = pe := Spe
    have l3 := G3.out.2.2.1.load (P := Try.prog) Try.underlying23 rfl (size_a ha.out)
    have keep : Hid ((loadVar 23 ⟨p0 + 1, 0, none⟩).run Try.prog V3.drew = .ok (.agg (bytesV a)) V3.drew ∧ ∀ cs, (loadVar 23 ⟨p0 + 1, 0, none⟩).run Try.prog (V3.drew.alloc (.cells cs 48)) = .ok (.agg (bytesV a)) (V3.drew.alloc (.cells cs 48))) :=
      ⟨G3.out.2.2.1.drew.load (P := Try.prog) Try.underlying23 rfl (size_a ha.out), fun cs => (G3.out.2.2.1.drew.alloc (.cells cs 48)).load (P := Try.prog) Try.underlying23 rfl (size_a ha.out)⟩
    obtain ⟨p1, hp1⟩ : ∃ p1, p0 + 1 = p1 := ⟨_, rfl⟩
    obtain ⟨p2, hp2⟩ : ∃ p2, p1 + 1 = p2 := ⟨_, rfl⟩
    rw [hp1] at keep G3 ⊢
    rw [hp2] at G3 ⊢
    have hpp := hidd (And.intro hp1 (And.intro hp2 (And.intro hp3 hpe)))
    clear l3 hp1 hp2 hpe
    have hlw : IntKind.u32.wrap life = life := IntWalk.u32_in _ (by omega)
    apply wp_end (W := V3.drew.alloc (.cells (encV (a, rk flags, til)) 48))
    case h =>
      refine wp_region_tail (fun V => (loadVar 23 ⟨p1, 0, none⟩).run Try.prog V = .ok (.agg (bytesV a)) V) 10 (by kernel_rfl) keep.out.1 (fun hF => ?_)
      refine tail_free (i := 1) (v := ?_) rfl (by kernel_rfl) (by kernel_rfl) (by kernel_rfl) (by kernel_rfl) (fun _ _ _ h => h) (Or.inl ⟨by kernel_rfl, ?_⟩) (fun _ => hF) ?_
      rotate_left
      · intro wh hSw
        go_simp
        try with_reducible rfl
      try simp only [Act.put, List.getElem_toArray, List.getElem_cons_zero, List.getElem_cons_succ, List.setIfInBounds_toArray, List.set_cons_zero, List.set_cons_succ]
      refine tail_free (i := 3) (v := ?_) rfl (by kernel_rfl) (by kernel_rfl) (by kernel_rfl) (by kernel_rfl) (fun _ _ _ h => h) (Or.inl ⟨by kernel_rfl, ?_⟩) (fun _ => hF) ?_
      rotate_left
      · intro wh hSw
        go_simp
        try with_reducible rfl
      try simp only [Act.put, List.getElem_toArray, List.getElem_cons_zero, List.getElem_cons_succ, List.setIfInBounds_toArray, List.set_cons_zero, List.set_cons_succ]
      refine tail_free (i := 4) (v := ?_) rfl (by kernel_rfl) (by kernel_rfl) (by kernel_rfl) (by kernel_rfl) (fun _ _ _ h => h) (Or.inl ⟨by kernel_rfl, ?_⟩) (fun _ => hF) ?_
      rotate_left
      · intro wh hSw
        go_simp
        try with_reducible rfl
      try simp only [Act.put, List.getElem_toArray, List.getElem_cons_zero, List.getElem_cons_succ, List.setIfInBounds_toArray, List.set_cons_zero, List.set_cons_succ]
      refine tail_free (i := 5) (v := ?_) rfl (by kernel_rfl) (by kernel_rfl) (by kernel_rfl) (by kernel_rfl) (fun _ _ _ h => h) (Or.inl ⟨by kernel_rfl, ?_⟩) (fun _ => hF) ?_
      rotate_left
      · intro wh hSw
        go_simp
        try with_reducible rfl
      try simp only [Act.put, List.getElem_toArray, List.getElem_cons_zero, List.getElem_cons_succ, List.setIfInBounds_toArray, List.set_cons_zero, List.set_cons_succ]
      refine tail_take (i := 0) rfl (by kernel_rfl) (by kernel_rfl) (by kernel_rfl) (by kernel_rfl) (fun _ _ _ h => h) (yieldsIf_load_want (by kernel_rfl) 23 _ rfl _ rfl _ (fun wh hSw => hSw)) hF ?_
      try simp only [Act.put, List.getElem_toArray, List.getElem_cons_zero, List.getElem_cons_succ, List.setIfInBounds_toArray, List.set_cons_zero, List.set_cons_succ]
      refine tail_ready (rs := [2, 9]) (by kernel_rfl) (by simp) (AllReadyT.cons rfl (fun K hK => ?_) (AllReadyT.cons rfl (fun K hK => ?_) AllReadyT.nil))
      clear hF
      go_simp
      with_reducible refine Calls.mono (rank_any _ _ hf0 hf1) ?_
      rintro e1 V1 ⟨rfl, rfl⟩
      dsimp only
      refine hK.out _ _ keep.out.1 (fun hF => ?_)
      clear hK K
      try simp only [Act.put, List.getElem_toArray, List.getElem_cons_zero, List.getElem_cons_succ, List.setIfInBounds_toArray, List.set_cons_zero, List.set_cons_succ]
      refine tail_ready (rs := [6, 9]) (by kernel_rfl) (by simp) (AllReadyT.cons rfl (fun K hK => ?_) (AllReadyT.cons rfl (fun K hK => ?_) AllReadyT.nil))
      clear hF
      go_simp
      with_reducible refine Calls.mono (secs_any _ _ hl0 (by omega)) ?_
      rintro e1 V1 ⟨rfl, rfl⟩
      dsimp only
      refine hK.out _ _ keep.out.1 (fun hF => ?_)
      clear hK K
      try simp only [Act.put, List.getElem_toArray, List.getElem_cons_zero, List.getElem_cons_succ, List.setIfInBounds_toArray, List.set_cons_zero, List.set_cons_succ]
      refine tail_ready (rs := [7, 9]) (by kernel_rfl) (by simp) (AllReadyT.cons rfl (fun K hK => ?_) (AllReadyT.cons rfl (fun K hK => ?_) AllReadyT.nil))
      clear hF
      go_simp
      with_reducible refine Calls.mono (add_any _ _ _ hn0 hn1 hse0 hse1) ?_
      rintro e1 V1 ⟨rfl, rfl⟩
      dsimp only
      rw [htil.out]
      refine hK.out _ _ keep.out.1 (fun hF => ?_)
      clear hK K
      try simp only [Act.put, List.getElem_toArray, List.getElem_cons_zero, List.getElem_cons_succ, List.setIfInBounds_toArray, List.set_cons_zero, List.set_cons_succ]
      refine tail_free (i := 8) rfl (by kernel_rfl) (by kernel_rfl) (by kernel_rfl) (by kernel_rfl) (fun _ _ _ h => h) (yieldsIf_build_want (by kernel_rfl) 48 _ rfl (encV (a, rk flags, til)) (Eq.trans (b := Try.prog.built 48 [(0, .agg (bytesV a)), (1, .int .i64 (rk flags)), (2, .int .u64 til)]) (by kernel_rfl) hbu)) (fun _ => hF) ?_
      try simp only [Act.put, List.getElem_toArray, List.getElem_cons_zero, List.getElem_cons_succ, List.setIfInBounds_toArray, List.set_cons_zero, List.set_cons_succ]
      refine tail_ready (rs := [9]) (by kernel_rfl) (by simp) (AllReadyT.cons rfl (fun K hK => ?_) AllReadyT.nil)
      clear hF
      go_simp
      refine hK.out _ _ (keep.out.2 _) (fun hF => ?_)
      clear hK K
      try simp only [Act.put, List.getElem_toArray, List.getElem_cons_zero, List.getElem_cons_succ, List.setIfInBounds_toArray, List.set_cons_zero, List.set_cons_succ]
      refine tail_ready (rs := [10]) (by kernel_rfl) (by simp) (AllReadyT.last rfl (by kernel_rfl) (fun K hK => ?_) AllReadyT.nil)
      clear hF
      refine step_store_new V3.drew rfl rfl 48 (.tmp 12) (.tmp 30) rfl pe _ (encV (a, rk flags, til)) rfl SD.symm rfl (size_enc hE.out) (Eq.trans (b := 18) (by kernel_rfl) (encV_size hE.out).symm) (ones_enc _) ?_
      refine hK.out _ _ ?_
      clear hK K
      try simp only [Act.put, List.getElem_toArray, List.getElem_cons_zero, List.getElem_cons_succ, List.setIfInBounds_toArray, List.set_cons_zero, List.set_cons_succ]
      refine tail_done (by kernel_rfl) ?_ _
      exact ⟨rfl, rfl⟩
      clear hF
      go_simp
      refine hK.out _ _ (keep.out.2 _) (fun hF => ?_)
      clear hK K
      try simp only [Act.put, List.getElem_toArray, List.getElem_cons_zero, List.getElem_cons_succ, List.setIfInBounds_toArray, List.set_cons_zero, List.set_cons_succ]
      refine tail_ready (rs := [7]) (by kernel_rfl) (by simp) (AllReadyT.cons rfl (fun K hK => ?_) AllReadyT.nil)
      clear hF
      go_simp
      with_reducible refine Calls.mono (add_any _ _ _ hn0 hn1 hse0 hse1) ?_
      rintro e1 V1 ⟨rfl, rfl⟩
      dsimp only
      rw [htil.out]
      refine hK.out _ _ (keep.out.2 _) (fun hF => ?_)
      clear hK K
      try simp only [Act.put, List.getElem_toArray, List.getElem_cons_zero, List.getElem_cons_succ, List.setIfInBounds_toArray, List.set_cons_zero, List.set_cons_succ]
      refine tail_free (i := 8) rfl (by kernel_rfl) (by kernel_rfl) (by kernel_rfl) (by kernel_rfl) (fun _ _ _ h => h) (yieldsIf_build_want (by kernel_rfl) 48 _ rfl (encV (a, rk flags, til)) (Eq.trans (b := Try.prog.built 48 [(0, .agg (bytesV a)), (1, .int .i64 (rk flags)), (2, .int .u64 til)]) (by kernel_rfl) hbu)) (fun _ => hF) ?_
      try simp only [Act.put, List.getElem_toArray, List.getElem_cons_zero, List.getElem_cons_succ, List.setIfInBounds_toArray, List.set_cons_zero, List.set_cons_succ]
      refine tail_ready (rs := [10]) (by kernel_rfl) (by simp) (AllReadyT.last rfl (by kernel_rfl) (fun K hK => ?_) AllReadyT.nil)
      clear hF
      refine step_store_new V3.drew rfl rfl 48 (.tmp 12) (.tmp 30) rfl pe _ (encV (a, rk flags, til)) rfl SD.symm rfl (size_enc hE.out) (Eq.trans (b := 18) (by kernel_rfl) (encV_size hE.out).symm) (ones_enc _) ?_
      refine hK.out _ _ ?_
      clear hK K
      try simp only [Act.put, List.getElem_toArray, List.getElem_cons_zero, List.getElem_cons_succ, List.setIfInBounds_toArray, List.set_cons_zero, List.set_cons_succ]
      refine tail_done (by kernel_rfl) ?_ _
      exact ⟨rfl, rfl⟩
      clear hF
      go_simp
      refine hK.out _ _ (keep.out.2 _) (fun hF => ?_)
      clear hK K
      try simp only [Act.put, List.getElem_toArray, List.getElem_cons_zero, List.getElem_cons_succ, List.setIfInBounds_toArray, List.set_cons_zero, List.set_cons_succ]
      refine tail_ready (rs := [6]) (by kernel_rfl) (by simp) (AllReadyT.cons rfl (fun K hK => ?_) AllReadyT.nil)
      clear hF
      go_simp
      with_reducible refine Calls.mono (secs_any _ _ hl0 (by omega)) ?_
      rintro e1 V1 ⟨rfl, rfl⟩
      dsimp only
      refine hK.out _ _ (keep.out.2 _) (fun hF => ?_)
      clear hK K
      try simp only [Act.put, List.getElem_toArray, List.getElem_cons_zero, List.getElem_cons_succ, List.setIfInBounds_toArray, List.set_cons_zero, List.set_cons_succ]
      refine tail_ready (rs := [7]) (by kernel_rfl) (by simp) (AllReadyT.cons rfl (fun K hK => ?_) AllReadyT.nil)
      clear hF
      go_simp
      with_reducible refine Calls.mono (add_any _ _ _ hn0 hn1 hse0 hse1) ?_
      rintro e1 V1 ⟨rfl, rfl⟩
      dsimp only
      rw [htil.out]
      refine hK.out _ _ (keep.out.2 _) (fun hF => ?_)
      clear hK K
      try simp only [Act.put, List.getElem_toArray, List.getElem_cons_zero, List.getElem_cons_succ, List.setIfInBounds_toArray, List.set_cons_zero, List.set_cons_succ]
      refine tail_free (i := 8) rfl (by kernel_rfl) (by kernel_rfl) (by kernel_rfl) (by kernel_rfl) (fun _ _ _ h => h) (yieldsIf_build_want (by kernel_rfl) 48 _ rfl (encV (a, rk flags, til)) (Eq.trans (b := Try.prog.built 48 [(0, .agg (bytesV a)), (1, .int .i64 (rk flags)), (2, .int .u64 til)]) (by kernel_rfl) hbu)) (fun _ => hF) ?_
      try simp only [Act.put, List.getElem_toArray, List.getElem_cons_zero, List.getElem_cons_succ, List.setIfInBounds_toArray, List.set_cons_zero, List.set_cons_succ]
      refine tail_ready (rs := [10]) (by kernel_rfl) (by simp) (AllReadyT.last rfl (by kernel_rfl) (fun K hK => ?_) AllReadyT.nil)
      clear hF
      refine step_store_new V3.drew rfl rfl 48 (.tmp 12) (.tmp 30) rfl pe _ (encV (a, rk flags, til)) rfl SD.symm rfl (size_enc hE.out) (Eq.trans (b := 18) (by kernel_rfl) (encV_size hE.out).symm) (ones_enc _) ?_
      refine hK.out _ _ ?_
      clear hK K
      try simp only [Act.put, List.getElem_toArray, List.getElem_cons_zero, List.getElem_cons_succ, List.setIfInBounds_toArray, List.set_cons_zero, List.set_cons_succ]
      refine tail_done (by kernel_rfl) ?_ _
      exact ⟨rfl, rfl⟩
      clear hF
      go_simp
      refine hK.out _ _ (keep.out.2 _) (fun hF => ?_)
      clear hK K
      try simp only [Act.put, List.getElem_toArray, List.getElem_cons_zero, List.getElem_cons_succ, List.setIfInBounds_toArray, List.set_cons_zero, List.set_cons_succ]
      refine tail_ready (rs := [2]) (by kernel_rfl) (by simp) (AllReadyT.cons rfl (fun K hK => ?_) AllReadyT.nil)
      clear hF
      go_simp
      with_reducible refine Calls.mono (rank_any _ _ hf0 hf1) ?_
      rintro e1 V1 ⟨rfl, rfl⟩
      dsimp only
      refine hK.out _ _ (keep.out.2 _) (fun hF => ?_)
      clear hK K
      try simp only [Act.put, List.getElem_toArray, List.getElem_cons_zero, List.getElem_cons_succ, List.setIfInBounds_toArray, List.set_cons_zero, List.set_cons_succ]
      refine tail_ready (rs := [6]) (by kernel_rfl) (by simp) (AllReadyT.cons rfl (fun K hK => ?_) AllReadyT.nil)
      clear hF
      go_simp
      with_reducible refine Calls.mono (secs_any _ _ hl0 (by omega)) ?_
      rintro e1 V1 ⟨rfl, rfl⟩
      dsimp only
      refine hK.out _ _ (keep.out.2 _) (fun hF => ?_)
      clear hK K
      try simp only [Act.put, List.getElem_toArray, List.getElem_cons_zero, List.getElem_cons_succ, List.setIfInBounds_toArray, List.set_cons_zero, List.set_cons_succ]
      refine tail_ready (rs := [7]) (by kernel_rfl) (by simp) (AllReadyT.cons rfl (fun K hK => ?_) AllReadyT.nil)
      clear hF
      go_simp
      with_reducible refine Calls.mono (add_any _ _ _ hn0 hn1 hse0 hse1) ?_
      rintro e1 V1 ⟨rfl, rfl⟩
      dsimp only
      rw [htil.out]
      refine hK.out _ _ (keep.out.2 _) (fun hF => ?_)
      clear hK K
      try simp only [Act.put, List.getElem_toArray, List.getElem_cons_zero, List.getElem_cons_succ, List.setIfInBounds_toArray, List.set_cons_zero, List.set_cons_succ]
      refine tail_free (i := 8) rfl (by kernel_rfl) (by kernel_rfl) (by kernel_rfl) (by kernel_rfl) (fun _ _ _ h => h) (yieldsIf_build_want (by kernel_rfl) 48 _ rfl (encV (a, rk flags, til)) (Eq.trans (b := Try.prog.built 48 [(0, .agg (bytesV a)), (1, .int .i64 (rk flags)), (2, .int .u64 til)]) (by kernel_rfl) hbu)) (fun _ => hF) ?_
      try simp only [Act.put, List.getElem_toArray, List.getElem_cons_zero, List.getElem_cons_succ, List.setIfInBounds_toArray, List.set_cons_zero, List.set_cons_succ]
      refine tail_ready (rs := [10]) (by kernel_rfl) (by simp) (AllReadyT.last rfl (by kernel_rfl) (fun K hK => ?_) AllReadyT.nil)
      clear hF
      refine step_store_new V3.drew rfl rfl 48 (.tmp 12) (.tmp 30) rfl pe _ (encV (a, rk flags, til)) rfl SD.symm rfl (size_enc hE.out) (Eq.trans (b := 18) (by kernel_rfl) (encV_size hE.out).symm) (ones_enc _) ?_
      refine hK.out _ _ ?_
      clear hK K
      try simp only [Act.put, List.getElem_toArray, List.getElem_cons_zero, List.getElem_cons_succ, List.setIfInBounds_toArray, List.set_cons_zero, List.set_cons_succ]
      refine tail_done (by kernel_rfl) ?_ _
      exact ⟨rfl, rfl⟩
    have SW : Hid ((V3.drew.alloc (.cells (encV (a, rk flags, til)) 48)).heap.size = pe + 1) := by show _ = _; simp [Spe]
    have P4 : Hid (St w (V3.drew.alloc (.cells (encV (a, rk flags, til)) 48)) B (pe + 1) p0 p1 p2 p3 pe v v es last had false a (a, rk flags, til)) := by
      obtain ⟨g1, g2, g3, g4, g5, g6⟩ := G3.out
      have bb : Below V3.heap.size V3 (V3.drew.alloc (.cells (encV (a, rk flags, til)) 48)) := (Below.refl _ V3).drew.alloc (Nat.le_refl _) _
      refine ⟨⟨g1.to bb, Fr.of_below (by rw [Sp0]; exact g6.trans (bb.mono g6.size |>.mono (by have := g6.size; omega))) _, fun k hk => .inl hk, hold.out, hBw, ?_, ?_⟩, g2.below bb g2.lt, g3.below bb g3.lt, g4.below bb g4.lt, g5.below bb g5.lt, ?_⟩
      · obtain ⟨e1, e2, e3, e4⟩ := hpp.out; omega
      · rw [SW.out]; exact Nat.le_refl _
      · rw [← Spe]; exact Blk.new V3.drew 48 _
    have hbx : Hid (Bx w (pe + 1) p0 p1 p2 p3 pe) := by
      obtain ⟨e1, e2, e3, e4⟩ := hpp.out
      exact ⟨by omega, by omega, by omega, by omega, by omega, by omega, by omega, by omega⟩
    generalize V3.drew.alloc (.cells (encV (a, rk flags, til)) 48) = V4 at P4 ⊢
    rw [← hx.out] at hE P4
    clear SW G3 S3 keep SD Spe hlw hpp hbu hx0
    have c0 := P4.out.k0.at_ (i := 0) rfl
    have c1 := P4.out.k1.load (P := Try.prog) Try.underlying23 rfl (size_a ha.out)
    have l1 := hidd c1
    have c3 := P4.out.k3.at_ (i := 0) rfl
    have cr := P4.out.l.rl.row
    clear c1
    by_cases hz : life = 0
    · have hlz : (life == 0) = true := by rw [hz]; rfl
      have hls := hidd (show learnS (a, rk flags, til) life es = dropS a es from by rw [learnS, if_pos hz])
      clear hz c3 cr
      go_wp2_with (with_reducible show wpList _ _ _ (⟨_, Op.load 23 _, _, _, _, _⟩ :: _) _ _; refine wpList_load_want (by kernel_rfl) 23 _ rfl _ rfl _ (by with_reducible exact l1.out) ?_)
      refine (drop_any V4 B v es last had P4.out.l.rl a ha.out).mono ?_
      rintro e5 V5 ⟨rfl, v5, r5, f5, m5⟩
      have P5 := hidd (P4.out.turn hbx.out (P4.out.l.turn r5 f5 (fun k hk => .inl (m5 k hk))) f5)
      have c2 := P5.out.k2.at_ (i := 0) rfl
      have f2 := P5.out.k2.frozen 0
      clear r5 f5 m5 P4 l1 c0
      go_wp2
      rw [hls.out]
      exact P5.out.door hbx.out ha.out _ rfl
    · have hlz : (life == 0) = false := by simp [hz]
      obtain ⟨A, c, hA⟩ := slice_of_own P4.out.l.rl.own
      subst hA
      have keep := fun (U : World) (h : St w U B (pe + 1) p0 p1 p2 p3 pe (.slice A es.length c) (.slice A es.length c) es last had false a x) => (show U.cell? ⟨p0, 0, none⟩ = some (.pointer (some ⟨B, 0, none⟩)) ∧ U.cell? ⟨B, 0, none⟩ = some (.slice A es.length c) ∧ (loadVar 48 ⟨pe, 0, none⟩).run Try.prog U = .ok (.agg (encV x)) U from ⟨h.k0.at_ rfl, h.l.rl.row, loadB hE.out h.ke⟩)
      have stp := fun (U V : World) (h : St w U B (pe + 1) p0 p1 p2 p3 pe (.slice A es.length c) (.slice A es.length c) es last had false a x) (hb : Below U.heap.size U V) => h.to hb
      have stpG := fun (U V : World) (h : St w U B (pe + 1) p0 p1 p2 p3 pe (.slice A es.length c) (.slice A es.length c) es last had false a x) (hg : U.grownBy V (Value.slice A es.length c).ownBlock) => h.grown hbx.out hE.out hg
      by_cases hl4 : es.length < 4
      · have hls := hidd (show learnS (a, rk flags, til) life es = es ++ [x] from by rw [hx.out]; simp [learnS, hz, hi1, hl4])
        clear hz l1
        go_wp2
        refine wp_only ?_
        have PD := hidd (stp _ _ P4.out (Below.refl _ V4).drew)
        refine wp_region_tail (fun V => V.cell? ⟨p0, 0, none⟩ = some (.pointer (some ⟨B, 0, none⟩)) ∧ V.cell? ⟨B, 0, none⟩ = some (.slice A es.length c) ∧ (loadVar 48 ⟨pe, 0, none⟩).run Try.prog V = .ok (.agg (encV x)) V) 10 (by kernel_rfl) (keep _ PD.out) (fun hF => ?_)
        generalize V4.drew = D at PD hF ⊢
        refine tail_take (i := 0) (v := ?_) rfl (by kernel_rfl) (by kernel_rfl) (by kernel_rfl) (by kernel_rfl) (fun _ _ _ h => h) (Or.inl ⟨by kernel_rfl, ?_⟩) hF ?_
        rotate_left
        · intro wh hSw
          have hcell := hSw.1
          go_simp
          try with_reducible rfl
        try simp only [Act.put, List.getElem_toArray, List.getElem_cons_zero, List.getElem_cons_succ, List.setIfInBounds_toArray, List.set_cons_zero, List.set_cons_succ]
        refine tail_take (i := 1) (v := ?_) rfl (by kernel_rfl) (by kernel_rfl) (by kernel_rfl) (by kernel_rfl) (fun _ _ _ h => h) (Or.inl ⟨by kernel_rfl, ?_⟩) hF ?_
        rotate_left
        · intro wh hSw
          have hcell := hSw.1
          go_simp
          try with_reducible rfl
        try simp only [Act.put, List.getElem_toArray, List.getElem_cons_zero, List.getElem_cons_succ, List.setIfInBounds_toArray, List.set_cons_zero, List.set_cons_succ]
        refine tail_free (i := 2) (v := ?_) rfl (by kernel_rfl) (by kernel_rfl) (by kernel_rfl) (by kernel_rfl) (fun _ _ _ h => h) (Or.inl ⟨by kernel_rfl, ?_⟩) (fun _ => hF) ?_
        rotate_left
        · intro wh hSw
          go_simp
          try with_reducible rfl
        try simp only [Act.put, List.getElem_toArray, List.getElem_cons_zero, List.getElem_cons_succ, List.setIfInBounds_toArray, List.set_cons_zero, List.set_cons_succ]
        refine tail_free (i := 3) (v := ?_) rfl (by kernel_rfl) (by kernel_rfl) (by kernel_rfl) (by kernel_rfl) (fun _ _ _ h => h) (Or.inl ⟨by kernel_rfl, ?_⟩) (fun _ => hF) ?_
        rotate_left
        · intro wh hSw
          go_simp
          try with_reducible rfl
        try simp only [Act.put, List.getElem_toArray, List.getElem_cons_zero, List.getElem_cons_succ, List.setIfInBounds_toArray, List.set_cons_zero, List.set_cons_succ]
        refine tail_take (i := 4) (v := ?_) rfl (by kernel_rfl) (by kernel_rfl) (by kernel_rfl) (by kernel_rfl) (fun _ _ _ h => h) (Or.inl ⟨by kernel_rfl, ?_⟩) hF ?_
        rotate_left
        · intro wh hSw
          have hcell := hSw.2.1
          go_simp
          try with_reducible rfl
        try simp only [Act.put, List.getElem_toArray, List.getElem_cons_zero, List.getElem_cons_succ, List.setIfInBounds_toArray, List.set_cons_zero, List.set_cons_succ]
        refine tail_take (i := 5) rfl (by kernel_rfl) (by kernel_rfl) (by kernel_rfl) (by kernel_rfl) (fun _ _ _ h => h) (yieldsIf_load_want (by kernel_rfl) 48 _ rfl _ rfl _ (fun wh hSw => hSw.2.2)) hF ?_
        try simp only [Act.put, List.getElem_toArray, List.getElem_cons_zero, List.getElem_cons_succ, List.setIfInBounds_toArray, List.set_cons_zero, List.set_cons_succ]
        refine tail_ready (rs := [6]) (by kernel_rfl) (by simp) (AllReadyT.cons rfl (fun K hK => ?_) AllReadyT.nil)
        clear hF
        refine step_bs1 D rfl (.tmp 89) slTy (by decide) rfl (encV x) rfl (encV_size hE.out) ?_
        have P6 := hidd (stp _ _ PD.out ((Below.refl _ D).alloc (Nat.le_refl _) (.cells (encV x) 48)))
        have R6 := hidd (rd_one D 48 18 (encV x) (encV_size hE.out))
        have S6 : B + 1 ≤ (D.alloc (.cells (encV x) 48)).heap.size := by have := PD.out.1.rl.lt; simp; omega
        generalize D.alloc (.cells (encV x) 48) = V6 at P6 R6 S6 ⊢
        refine hK.out _ _ (keep _ P6.out) (fun hF => ?_)
        clear hK K
        try simp only [Act.put, List.getElem_toArray, List.getElem_cons_zero, List.getElem_cons_succ, List.setIfInBounds_toArray, List.set_cons_zero, List.set_cons_succ]
        refine tail_ready (rs := [7]) (by kernel_rfl) (by simp) (AllReadyT.cons rfl (fun K hK => ?_) AllReadyT.nil)
        clear hF
        refine step_append_rd (v := .slice A es.length c) V6 rfl (.tmp 88) (.tmp 90) slTy rfl rfl P6.out.1.rl.own rfl R6.out (by intro u hu; exact isEnc.one x u (by simpa [encV] using hu)) (by unfold maxLen; omega) (by omega) S6 ?_
        intro v7 w7 o7 g7 t7 l7
        clear l7
        obtain ⟨A7, c7, rfl⟩ := slice_of_own o7
        have P7 := hidd (P6.out.1.app hE.out (by omega) o7 g7 t7)
        have Q7 := hidd (stpG _ _ P6.out g7)
        have cB := Q7.out.1.2.1
        have zB := Q7.out.2.1
        have P8 := hidd (P6.out.turn hbx.out P7.out (Q7.out.2.2.setCell (p := ⟨B, 0, none⟩) (.inl (.inl rfl)) _))
        clear o7 g7 t7
        refine hK.out _ _ Q7.out.1 (fun hF => ?_)
        clear hK K
        try simp only [Act.put, List.getElem_toArray, List.getElem_cons_zero, List.getElem_cons_succ, List.setIfInBounds_toArray, List.set_cons_zero, List.set_cons_succ]
        refine tail_free (i := 8) (v := ?_) rfl (by kernel_rfl) (by kernel_rfl) (by kernel_rfl) (by kernel_rfl) (fun _ _ _ h => h) (Or.inl ⟨by kernel_rfl, ?_⟩) (fun _ => hF) ?_
        rotate_left
        · intro wh hSw
          go_simp
          try with_reducible rfl
        try simp only [Act.put, List.getElem_toArray, List.getElem_cons_zero, List.getElem_cons_succ, List.setIfInBounds_toArray, List.set_cons_zero, List.set_cons_succ]
        refine tail_free (i := 9) (v := ?_) rfl (by kernel_rfl) (by kernel_rfl) (by kernel_rfl) (by kernel_rfl) (fun _ _ _ h => h) (Or.inl ⟨by kernel_rfl, ?_⟩) (fun _ => hF) ?_
        rotate_left
        · intro wh hSw
          go_simp
          try with_reducible rfl
        try simp only [Act.put, List.getElem_toArray, List.getElem_cons_zero, List.getElem_cons_succ, List.setIfInBounds_toArray, List.set_cons_zero, List.set_cons_succ]
        refine tail_ready (rs := [10]) (by kernel_rfl) (by simp) (AllReadyT.last rfl (by kernel_rfl) (fun K hK => ?_) AllReadyT.nil)
        clear hF
        go_simp
        refine hK.out _ _ ?_
        clear hK K
        try simp only [Act.put, List.getElem_toArray, List.getElem_cons_zero, List.getElem_cons_succ, List.setIfInBounds_toArray, List.set_cons_zero, List.set_cons_succ]
        refine tail_done (by kernel_rfl) ?_ _
        refine only_of ?_
        have c2 := P8.out.k2.at_ (i := 0) rfl
        have f2 := P8.out.k2.frozen 0
        clear c0 c3 cr P4 PD P6 R6 S6 P7 Q7 keep stp stpG cB zB
        go_wp2
        rw [hls.out]
        exact P8.out.door hbx.out ha.out _ rfl
      · have h4 := P4.out.l.rl.four
        obtain ⟨k, hk⟩ : ∃ k, es.length - 1 = k := ⟨_, rfl⟩
        have hk1 : k < es.length := by omega
        have hw1 : IntKind.i64.wrap ((es.length : Int) - 1) = (k : Int) := by rw [IntWalk.i64_in _ (by omega)]; omega
        have hok := hidd P4.out.l.rl.ok
        obtain ⟨y, hy⟩ : ∃ y, (ord es)[k]? = some y := ⟨_, List.getElem?_eq_getElem (by rw [ord_len hok.out]; exact hk1)⟩
        have hy' := hidd hy
        have hyE := hidd (ord_ok hok.out y (List.mem_of_getElem? hy))
        have hdl := hidd (show (dropS y.1 es).length < 4 from by rw [dropS_less ((ord_mem hok.out).1 (List.mem_of_getElem? hy))]; omega)
        have hls := hidd (show learnS (a, rk flags, til) life es = if y.2.1 < x.2.1 then dropS y.1 es ++ [x] else es from by rw [hx.out]; simp [learnS, hz, hi1, hl4, hk, hy])
        have keep6 := fun (U : World) (h : St w U B (pe + 1) p0 p1 p2 p3 pe (.slice A es.length c) (.slice A es.length c) es last had false a x) => (show U.cell? ⟨p0, 0, none⟩ = some (.pointer (some ⟨B, 0, none⟩)) ∧ U.cell? ⟨B, 0, none⟩ = some (.slice A es.length c) from ⟨h.k0.at_ rfl, h.l.rl.row⟩)
        have stpR := fun (U : World) (p : Nat) (h : St w U B (pe + 1) p0 p1 p2 p3 pe (.slice A es.length c) (.slice A es.length c) es last had false a x) (hp : pe + 1 ≤ p) (c' : Array Value) => h.row hbx.out hp c'
        clear hz l1 hy keep stpG
        go_wp2
        apply wp_by (fun p g c' V => St w V B (pe + 1) p0 p1 p2 p3 pe (.slice A es.length c) (.slice A es.length c) es last had false a x ∧ Blk V p 48 (encV y))
        case h =>
          have PD := hidd (stp _ _ P4.out (Below.refl _ V4).drew)
          refine wp_region_tail (fun V => V.cell? ⟨p0, 0, none⟩ = some (.pointer (some ⟨B, 0, none⟩)) ∧ V.cell? ⟨B, 0, none⟩ = some (.slice A es.length c)) 11 (by kernel_rfl) (keep6 _ PD.out) (fun hF => ?_)
          generalize V4.drew = D at PD hF ⊢
          refine tail_take (i := 0) (v := ?_) rfl (by kernel_rfl) (by kernel_rfl) (by kernel_rfl) (by kernel_rfl) (fun _ _ _ h => h) (Or.inl ⟨by kernel_rfl, ?_⟩) hF ?_
          rotate_left
          · intro wh hSw
            have hcell := hSw.1
            go_simp
            try with_reducible rfl
          try simp only [Act.put, List.getElem_toArray, List.getElem_cons_zero, List.getElem_cons_succ, List.setIfInBounds_toArray, List.set_cons_zero, List.set_cons_succ]
          refine tail_take (i := 2) (v := ?_) rfl (by kernel_rfl) (by kernel_rfl) (by kernel_rfl) (by kernel_rfl) (fun _ _ _ h => h) (Or.inl ⟨by kernel_rfl, ?_⟩) hF ?_
          rotate_left
          · intro wh hSw
            have hcell := hSw.1
            go_simp
            try with_reducible rfl
          try simp only [Act.put, List.getElem_toArray, List.getElem_cons_zero, List.getElem_cons_succ, List.setIfInBounds_toArray, List.set_cons_zero, List.set_cons_succ]
          refine tail_free (i := 3) (v := ?_) rfl (by kernel_rfl) (by kernel_rfl) (by kernel_rfl) (by kernel_rfl) (fun _ _ _ h => h) (Or.inl ⟨by kernel_rfl, ?_⟩) (fun _ => hF) ?_
          rotate_left
          · intro wh hSw
            go_simp
            try with_reducible rfl
          try simp only [Act.put, List.getElem_toArray, List.getElem_cons_zero, List.getElem_cons_succ, List.setIfInBounds_toArray, List.set_cons_zero, List.set_cons_succ]
          refine tail_free (i := 4) (v := ?_) rfl (by kernel_rfl) (by kernel_rfl) (by kernel_rfl) (by kernel_rfl) (fun _ _ _ h => h) (Or.inl ⟨by kernel_rfl, ?_⟩) (fun _ => hF) ?_
          rotate_left
          · intro wh hSw
            go_simp
            try with_reducible rfl
          try simp only [Act.put, List.getElem_toArray, List.getElem_cons_zero, List.getElem_cons_succ, List.setIfInBounds_toArray, List.set_cons_zero, List.set_cons_succ]
          refine tail_take (i := 5) (v := ?_) rfl (by kernel_rfl) (by kernel_rfl) (by kernel_rfl) (by kernel_rfl) (fun _ _ _ h => h) (Or.inl ⟨by kernel_rfl, ?_⟩) hF ?_
          rotate_left
          · intro wh hSw
            have hcell := hSw.2
            go_simp
            try with_reducible rfl
          try simp only [Act.put, List.getElem_toArray, List.getElem_cons_zero, List.getElem_cons_succ, List.setIfInBounds_toArray, List.set_cons_zero, List.set_cons_succ]
          refine tail_free (i := 6) (v := ?_) rfl (by kernel_rfl) (by kernel_rfl) (by kernel_rfl) (by kernel_rfl) (fun _ _ _ h => h) (Or.inl ⟨by kernel_rfl, ?_⟩) (fun _ => hF) ?_
          rotate_left
          · intro wh hSw
            go_simp
            try with_reducible rfl
          try simp only [Act.put, List.getElem_toArray, List.getElem_cons_zero, List.getElem_cons_succ, List.setIfInBounds_toArray, List.set_cons_zero, List.set_cons_succ]
          refine tail_free (i := 7) (v := ?_) rfl (by kernel_rfl) (by kernel_rfl) (by kernel_rfl) (by kernel_rfl) (fun _ _ _ h => h) (Or.inl ⟨by kernel_rfl, ?_⟩) (fun _ => hF) ?_
          rotate_left
          · intro wh hSw
            go_simp
            try with_reducible rfl
          try simp only [Act.put, List.getElem_toArray, List.getElem_cons_zero, List.getElem_cons_succ, List.setIfInBounds_toArray, List.set_cons_zero, List.set_cons_succ]
          refine tail_ready (rs := [1, 10]) (by kernel_rfl) (by simp) (AllReadyT.cons rfl (fun K hK => ?_) (AllReadyT.cons rfl (fun K hK => ?_) AllReadyT.nil))
          clear hF
          go_simp
          with_reducible refine Calls.mono (ordered_any _ B _ es last had PD.out.l.rl) ?_
          rintro e1 V5 ⟨v5, rfl, o5, b5⟩
          dsimp only
          have P5 := hidd (stp _ _ PD.out b5)
          obtain ⟨g, cg, hv5, hg1, hg2⟩ := own_pos o5 (by omega)
          subst hv5
          have b5' := hidd b5
          have r5 := hidd (own_range o5 isEnc (ord_len hok.out) (ord_ok hok.out) hy'.out)
          have r5g := hidd hg2
          clear o5 b5 hg1 hg2
          refine hK.out _ _ (keep6 _ P5.out) (fun hF => ?_)
          clear hK K
          try simp only [Act.put, List.getElem_toArray, List.getElem_cons_zero, List.getElem_cons_succ, List.setIfInBounds_toArray, List.set_cons_zero, List.set_cons_succ]
          refine tail_free (i := 8) (v := ?_) rfl (by kernel_rfl) (by kernel_rfl) (by kernel_rfl) (by kernel_rfl) (fun _ _ _ h => h) (Or.inl ⟨by kernel_rfl, ?_⟩) (fun _ => hF) ?_
          rotate_left
          · intro wh hSw
            go_simp
            try with_reducible rfl
          try simp only [Act.put, List.getElem_toArray, List.getElem_cons_zero, List.getElem_cons_succ, List.setIfInBounds_toArray, List.set_cons_zero, List.set_cons_succ]
          refine tail_ready (rs := [9, 10]) (by kernel_rfl) (by simp) (AllReadyT.cons rfl (fun K hK => ?_) (AllReadyT.cons rfl (fun K hK => ?_) AllReadyT.nil))
          clear hF
          refine step_load_want rfl 48 (.tmp 39) rfl ⟨g, k * 18, none⟩ rfl (.agg (encV y)) (loadE hyE.out r5.out) ?_
          refine hK.out _ _ (keep6 _ P5.out) (fun hF => ?_)
          clear hK K
          try simp only [Act.put, List.getElem_toArray, List.getElem_cons_zero, List.getElem_cons_succ, List.setIfInBounds_toArray, List.set_cons_zero, List.set_cons_succ]
          refine tail_ready (rs := [10]) (by kernel_rfl) (by simp) (AllReadyT.cons rfl (fun K hK => ?_) AllReadyT.nil)
          clear hF
          go_simp
          have P6 := hidd (stp _ _ P5.out ((Below.refl _ V5).alloc (Nat.le_refl _) (.cells zeroC 48)))
          obtain ⟨p, Sp⟩ : ∃ p, V5.heap.size = p := ⟨_, rfl⟩
          have hp6 : pe + 1 ≤ p := by rw [← Sp]; exact P5.out.l.hi
          have K6 : Hid (Blk (V5.alloc (.cells zeroC 48)) p 48 zeroC) := by show Blk _ _ _ _; rw [← Sp]; exact Blk.new _ _ _
          rw [show (#[.int .u8 0, .int .u8 0, .int .u8 0, .int .u8 0, .int .u8 0, .int .u8 0, .int .u8 0, .int .u8 0, .int .u8 0, .int .u8 0, .int .u8 0, .int .u8 0, .int .u8 0, .int .u8 0, .int .u8 0, .int .u8 0, .int .i64 0, .int .u64 0] : Array Value) = zeroC from rfl]
          rw [Sp]
          generalize V5.alloc (.cells zeroC 48) = V6 at P6 K6 ⊢
          refine hK.out _ _ (keep6 _ P6.out) (fun hF => ?_)
          clear hK K
          try simp only [Act.put, List.getElem_toArray, List.getElem_cons_zero, List.getElem_cons_succ, List.setIfInBounds_toArray, List.set_cons_zero, List.set_cons_succ]
          refine tail_ready (rs := [11]) (by kernel_rfl) (by simp) (AllReadyT.last rfl (by kernel_rfl) (fun K hK => ?_) AllReadyT.nil)
          clear hF
          refine step_store_blk rfl 48 (.tmp 13) (.tmp 40) rfl p 48 zeroC (encV y) K6.out rfl rfl (size_enc hyE.out) (encV_size hyE.out).symm (ones_enc _) ?_
          refine hK.out _ _ ?_
          clear hK K
          try simp only [Act.put, List.getElem_toArray, List.getElem_cons_zero, List.getElem_cons_succ, List.setIfInBounds_toArray, List.set_cons_zero, List.set_cons_succ]
          refine tail_done (by kernel_rfl) ?_ _
          exact ⟨p, g, cg, rfl, stpR _ _ P6.out hp6 _, K6.out.setRow _⟩
          clear hF
          go_simp
          have P6 := hidd (stp _ _ P5.out ((Below.refl _ V5).alloc (Nat.le_refl _) (.cells zeroC 48)))
          obtain ⟨p, Sp⟩ : ∃ p, V5.heap.size = p := ⟨_, rfl⟩
          have hp6 : pe + 1 ≤ p := by rw [← Sp]; exact P5.out.l.hi
          have K6 : Hid (Blk (V5.alloc (.cells zeroC 48)) p 48 zeroC) := by show Blk _ _ _ _; rw [← Sp]; exact Blk.new _ _ _
          have r6 := hidd (rangeBelow r5.out ((Below.refl _ V5).alloc (Nat.le_refl _) (.cells zeroC 48)) r5g.out)
          rw [show (#[.int .u8 0, .int .u8 0, .int .u8 0, .int .u8 0, .int .u8 0, .int .u8 0, .int .u8 0, .int .u8 0, .int .u8 0, .int .u8 0, .int .u8 0, .int .u8 0, .int .u8 0, .int .u8 0, .int .u8 0, .int .u8 0, .int .i64 0, .int .u64 0] : Array Value) = zeroC from rfl]
          rw [Sp]
          generalize V5.alloc (.cells zeroC 48) = V6 at P6 K6 r6 ⊢
          refine hK.out _ _ (keep6 _ P6.out) (fun hF => ?_)
          clear hK K
          try simp only [Act.put, List.getElem_toArray, List.getElem_cons_zero, List.getElem_cons_succ, List.setIfInBounds_toArray, List.set_cons_zero, List.set_cons_succ]
          refine tail_ready (rs := [9]) (by kernel_rfl) (by simp) (AllReadyT.cons rfl (fun K hK => ?_) AllReadyT.nil)
          clear hF
          refine step_load_want rfl 48 (.tmp 39) rfl ⟨g, k * 18, none⟩ rfl (.agg (encV y)) (loadE hyE.out r6.out) ?_
          refine hK.out _ _ (keep6 _ P6.out) (fun hF => ?_)
          clear hK K
          try simp only [Act.put, List.getElem_toArray, List.getElem_cons_zero, List.getElem_cons_succ, List.setIfInBounds_toArray, List.set_cons_zero, List.set_cons_succ]
          refine tail_ready (rs := [11]) (by kernel_rfl) (by simp) (AllReadyT.last rfl (by kernel_rfl) (fun K hK => ?_) AllReadyT.nil)
          clear hF
          refine step_store_blk rfl 48 (.tmp 13) (.tmp 40) rfl p 48 zeroC (encV y) K6.out rfl rfl (size_enc hyE.out) (encV_size hyE.out).symm (ones_enc _) ?_
          refine hK.out _ _ ?_
          clear hK K
          try simp only [Act.put, List.getElem_toArray, List.getElem_cons_zero, List.getElem_cons_succ, List.setIfInBounds_toArray, List.set_cons_zero, List.set_cons_succ]
          refine tail_done (by kernel_rfl) ?_ _
          exact ⟨p, g, cg, rfl, stpR _ _ P6.out hp6 _, K6.out.setRow _⟩
          clear hF
          go_simp
          have P6 := hidd (stp _ _ PD.out ((Below.refl _ D).alloc (Nat.le_refl _) (.cells zeroC 48)))
          obtain ⟨p, Sp⟩ : ∃ p, D.heap.size = p := ⟨_, rfl⟩
          have hp6 : pe + 1 ≤ p := by rw [← Sp]; exact PD.out.l.hi
          have K6 : Hid (Blk (D.alloc (.cells zeroC 48)) p 48 zeroC) := by show Blk _ _ _ _; rw [← Sp]; exact Blk.new _ _ _
          rw [show (#[.int .u8 0, .int .u8 0, .int .u8 0, .int .u8 0, .int .u8 0, .int .u8 0, .int .u8 0, .int .u8 0, .int .u8 0, .int .u8 0, .int .u8 0, .int .u8 0, .int .u8 0, .int .u8 0, .int .u8 0, .int .u8 0, .int .i64 0, .int .u64 0] : Array Value) = zeroC from rfl]
          rw [Sp]
          generalize D.alloc (.cells zeroC 48) = V6 at P6 K6 ⊢
          refine hK.out _ _ (keep6 _ P6.out) (fun hF => ?_)
          clear hK K
          try simp only [Act.put, List.getElem_toArray, List.getElem_cons_zero, List.getElem_cons_succ, List.setIfInBounds_toArray, List.set_cons_zero, List.set_cons_succ]
          refine tail_ready (rs := [1]) (by kernel_rfl) (by simp) (AllReadyT.cons rfl (fun K hK => ?_) AllReadyT.nil)
          clear hF
          go_simp
          with_reducible refine Calls.mono (ordered_any _ B _ es last had P6.out.l.rl) ?_
          rintro e1 V5 ⟨v5, rfl, o5, b5⟩
          dsimp only
          have P5 := hidd (stp _ _ P6.out b5)
          obtain ⟨g, cg, hv5, hg1, hg2⟩ := own_pos o5 (by omega)
          subst hv5
          have b5' := hidd b5
          have r5 := hidd (own_range o5 isEnc (ord_len hok.out) (ord_ok hok.out) hy'.out)
          have r5g := hidd hg2
          clear o5 b5 hg1 hg2
          have K5 := hidd (K6.out.below b5'.out K6.out.lt)
          refine hK.out _ _ (keep6 _ P5.out) (fun hF => ?_)
          clear hK K
          try simp only [Act.put, List.getElem_toArray, List.getElem_cons_zero, List.getElem_cons_succ, List.setIfInBounds_toArray, List.set_cons_zero, List.set_cons_succ]
          refine tail_free (i := 8) (v := ?_) rfl (by kernel_rfl) (by kernel_rfl) (by kernel_rfl) (by kernel_rfl) (fun _ _ _ h => h) (Or.inl ⟨by kernel_rfl, ?_⟩) (fun _ => hF) ?_
          rotate_left
          · intro wh hSw
            go_simp
            try with_reducible rfl
          try simp only [Act.put, List.getElem_toArray, List.getElem_cons_zero, List.getElem_cons_succ, List.setIfInBounds_toArray, List.set_cons_zero, List.set_cons_succ]
          refine tail_ready (rs := [9]) (by kernel_rfl) (by simp) (AllReadyT.cons rfl (fun K hK => ?_) AllReadyT.nil)
          clear hF
          refine step_load_want rfl 48 (.tmp 39) rfl ⟨g, k * 18, none⟩ rfl (.agg (encV y)) (loadE hyE.out r5.out) ?_
          refine hK.out _ _ (keep6 _ P5.out) (fun hF => ?_)
          clear hK K
          try simp only [Act.put, List.getElem_toArray, List.getElem_cons_zero, List.getElem_cons_succ, List.setIfInBounds_toArray, List.set_cons_zero, List.set_cons_succ]
          refine tail_ready (rs := [11]) (by kernel_rfl) (by simp) (AllReadyT.last rfl (by kernel_rfl) (fun K hK => ?_) AllReadyT.nil)
          clear hF
          refine step_store_blk rfl 48 (.tmp 13) (.tmp 40) rfl p 48 zeroC (encV y) K5.out rfl rfl (size_enc hyE.out) (encV_size hyE.out).symm (ones_enc _) ?_
          refine hK.out _ _ ?_
          clear hK K
          try simp only [Act.put, List.getElem_toArray, List.getElem_cons_zero, List.getElem_cons_succ, List.setIfInBounds_toArray, List.set_cons_zero, List.set_cons_succ]
          refine tail_done (by kernel_rfl) ?_ _
          exact ⟨p, g, cg, rfl, stpR _ _ P5.out hp6 _, K5.out.setRow _⟩
        intro p g c' V9 H9
        have P9 := hidd H9.1
        have PY := hidd H9.2
        clear H9 c0 c3 cr keep6 stp stpR P4 hw1
        have c0 := P9.out.k0.at_ (i := 0) rfl
        have c13 := PY.out.at_ (rank_encV hyE.out)
        have ce := P9.out.ke.at_ (rank_encV hE.out)
        have la := hidd (PY.out.part (P := Try.prog) (at_enc hyE.out) Try.underlying23 rfl (by rw [hyE.out.addr.len]; exact info23))
        by_cases hlt : y.2.1 < x.2.1
        · go_wp2_with (with_reducible show wpList _ _ _ (⟨_, Op.load 23 _, _, _, _, _⟩ :: _) _ _; refine wpList_load_want (by kernel_rfl) 23 _ rfl _ rfl _ (by with_reducible exact la.out) ?_)
          refine (drop_any V9 B _ es last had P9.out.l.rl y.1 hyE.out.addr).mono ?_
          rintro e5 V10 ⟨rfl, v10, r5, f5, m5⟩
          have P10 := hidd (P9.out.turn hbx.out (P9.out.l.turn r5 f5 (fun k hk => .inl (m5 k hk))) f5)
          obtain ⟨ds, hds⟩ : ∃ ds, dropS y.1 es = ds := ⟨_, rfl⟩
          rw [hds] at P10 hls hdl
          obtain ⟨A9, c9, hA9⟩ := slice_of_own P10.out.l.rl.own
          subst hA9
          clear r5 f5 m5 la c13 ce c0 P9 PY
          have c0 := P10.out.k0.at_ (i := 0) rfl
          have cr := P10.out.l.rl.row
          go_wp2
          have keep := fun (U : World) (h : St w U B (pe + 1) p0 p1 p2 p3 pe (.slice A es.length c) (.slice A9 ds.length c9) ds last had false a x) => (show U.cell? ⟨p0, 0, none⟩ = some (.pointer (some ⟨B, 0, none⟩)) ∧ U.cell? ⟨B, 0, none⟩ = some (.slice A9 ds.length c9) ∧ (loadVar 48 ⟨pe, 0, none⟩).run Try.prog U = .ok (.agg (encV x)) U from ⟨h.k0.at_ rfl, h.l.rl.row, loadB hE.out h.ke⟩)
          have stp := fun (U V : World) (h : St w U B (pe + 1) p0 p1 p2 p3 pe (.slice A es.length c) (.slice A9 ds.length c9) ds last had false a x) (hb : Below U.heap.size U V) => h.to hb
          have stpG := fun (U V : World) (h : St w U B (pe + 1) p0 p1 p2 p3 pe (.slice A es.length c) (.slice A9 ds.length c9) ds last had false a x) (hg : U.grownBy V (Value.slice A9 ds.length c9).ownBlock) => h.grown hbx.out hE.out hg
          have hd4 := hdl.out
          refine wp_only ?_
          have PD := hidd (stp _ _ P10.out (Below.refl _ V10).drew)
          refine wp_region_tail (fun V => V.cell? ⟨p0, 0, none⟩ = some (.pointer (some ⟨B, 0, none⟩)) ∧ V.cell? ⟨B, 0, none⟩ = some (.slice A9 ds.length c9) ∧ (loadVar 48 ⟨pe, 0, none⟩).run Try.prog V = .ok (.agg (encV x)) V) 10 (by kernel_rfl) (keep _ PD.out) (fun hF => ?_)
          generalize V10.drew = D at PD hF ⊢
          refine tail_take (i := 0) (v := ?_) rfl (by kernel_rfl) (by kernel_rfl) (by kernel_rfl) (by kernel_rfl) (fun _ _ _ h => h) (Or.inl ⟨by kernel_rfl, ?_⟩) hF ?_
          rotate_left
          · intro wh hSw
            have hcell := hSw.1
            go_simp
            try with_reducible rfl
          try simp only [Act.put, List.getElem_toArray, List.getElem_cons_zero, List.getElem_cons_succ, List.setIfInBounds_toArray, List.set_cons_zero, List.set_cons_succ]
          refine tail_take (i := 1) (v := ?_) rfl (by kernel_rfl) (by kernel_rfl) (by kernel_rfl) (by kernel_rfl) (fun _ _ _ h => h) (Or.inl ⟨by kernel_rfl, ?_⟩) hF ?_
          rotate_left
          · intro wh hSw
            have hcell := hSw.1
            go_simp
            try with_reducible rfl
          try simp only [Act.put, List.getElem_toArray, List.getElem_cons_zero, List.getElem_cons_succ, List.setIfInBounds_toArray, List.set_cons_zero, List.set_cons_succ]
          refine tail_free (i := 2) (v := ?_) rfl (by kernel_rfl) (by kernel_rfl) (by kernel_rfl) (by kernel_rfl) (fun _ _ _ h => h) (Or.inl ⟨by kernel_rfl, ?_⟩) (fun _ => hF) ?_
          rotate_left
          · intro wh hSw
            go_simp
            try with_reducible rfl
          try simp only [Act.put, List.getElem_toArray, List.getElem_cons_zero, List.getElem_cons_succ, List.setIfInBounds_toArray, List.set_cons_zero, List.set_cons_succ]
          refine tail_free (i := 3) (v := ?_) rfl (by kernel_rfl) (by kernel_rfl) (by kernel_rfl) (by kernel_rfl) (fun _ _ _ h => h) (Or.inl ⟨by kernel_rfl, ?_⟩) (fun _ => hF) ?_
          rotate_left
          · intro wh hSw
            go_simp
            try with_reducible rfl
          try simp only [Act.put, List.getElem_toArray, List.getElem_cons_zero, List.getElem_cons_succ, List.setIfInBounds_toArray, List.set_cons_zero, List.set_cons_succ]
          refine tail_take (i := 4) (v := ?_) rfl (by kernel_rfl) (by kernel_rfl) (by kernel_rfl) (by kernel_rfl) (fun _ _ _ h => h) (Or.inl ⟨by kernel_rfl, ?_⟩) hF ?_
          rotate_left
          · intro wh hSw
            have hcell := hSw.2.1
            go_simp
            try with_reducible rfl
          try simp only [Act.put, List.getElem_toArray, List.getElem_cons_zero, List.getElem_cons_succ, List.setIfInBounds_toArray, List.set_cons_zero, List.set_cons_succ]
          refine tail_take (i := 5) rfl (by kernel_rfl) (by kernel_rfl) (by kernel_rfl) (by kernel_rfl) (fun _ _ _ h => h) (yieldsIf_load_want (by kernel_rfl) 48 _ rfl _ rfl _ (fun wh hSw => hSw.2.2)) hF ?_
          try simp only [Act.put, List.getElem_toArray, List.getElem_cons_zero, List.getElem_cons_succ, List.setIfInBounds_toArray, List.set_cons_zero, List.set_cons_succ]
          refine tail_ready (rs := [6]) (by kernel_rfl) (by simp) (AllReadyT.cons rfl (fun K hK => ?_) AllReadyT.nil)
          clear hF
          refine step_bs1 D rfl (.tmp 55) slTy (by decide) rfl (encV x) rfl (encV_size hE.out) ?_
          have P6 := hidd (stp _ _ PD.out ((Below.refl _ D).alloc (Nat.le_refl _) (.cells (encV x) 48)))
          have R6 := hidd (rd_one D 48 18 (encV x) (encV_size hE.out))
          have S6 : B + 1 ≤ (D.alloc (.cells (encV x) 48)).heap.size := by have := PD.out.1.rl.lt; simp; omega
          generalize D.alloc (.cells (encV x) 48) = V6 at P6 R6 S6 ⊢
          refine hK.out _ _ (keep _ P6.out) (fun hF => ?_)
          clear hK K
          try simp only [Act.put, List.getElem_toArray, List.getElem_cons_zero, List.getElem_cons_succ, List.setIfInBounds_toArray, List.set_cons_zero, List.set_cons_succ]
          refine tail_ready (rs := [7]) (by kernel_rfl) (by simp) (AllReadyT.cons rfl (fun K hK => ?_) AllReadyT.nil)
          clear hF
          refine step_append_rd (v := .slice A9 ds.length c9) V6 rfl (.tmp 54) (.tmp 56) slTy rfl rfl P6.out.1.rl.own rfl R6.out (by intro u hu; exact isEnc.one x u (by simpa [encV] using hu)) (by unfold maxLen; omega) (by omega) S6 ?_
          intro v7 w7 o7 g7 t7 l7
          clear l7
          obtain ⟨A7, c7, rfl⟩ := slice_of_own o7
          have P7 := hidd (P6.out.1.app hE.out (by omega) o7 g7 t7)
          have Q7 := hidd (stpG _ _ P6.out g7)
          have cB := Q7.out.1.2.1
          have zB := Q7.out.2.1
          have P8 := hidd (P6.out.turn hbx.out P7.out (Q7.out.2.2.setCell (p := ⟨B, 0, none⟩) (.inl (.inl rfl)) _))
          clear o7 g7 t7
          refine hK.out _ _ Q7.out.1 (fun hF => ?_)
          clear hK K
          try simp only [Act.put, List.getElem_toArray, List.getElem_cons_zero, List.getElem_cons_succ, List.setIfInBounds_toArray, List.set_cons_zero, List.set_cons_succ]
          refine tail_free (i := 8) (v := ?_) rfl (by kernel_rfl) (by kernel_rfl) (by kernel_rfl) (by kernel_rfl) (fun _ _ _ h => h) (Or.inl ⟨by kernel_rfl, ?_⟩) (fun _ => hF) ?_
          rotate_left
          · intro wh hSw
            go_simp
            try with_reducible rfl
          try simp only [Act.put, List.getElem_toArray, List.getElem_cons_zero, List.getElem_cons_succ, List.setIfInBounds_toArray, List.set_cons_zero, List.set_cons_succ]
          refine tail_free (i := 9) (v := ?_) rfl (by kernel_rfl) (by kernel_rfl) (by kernel_rfl) (by kernel_rfl) (fun _ _ _ h => h) (Or.inl ⟨by kernel_rfl, ?_⟩) (fun _ => hF) ?_
          rotate_left
          · intro wh hSw
            go_simp
            try with_reducible rfl
          try simp only [Act.put, List.getElem_toArray, List.getElem_cons_zero, List.getElem_cons_succ, List.setIfInBounds_toArray, List.set_cons_zero, List.set_cons_succ]
          refine tail_ready (rs := [10]) (by kernel_rfl) (by simp) (AllReadyT.last rfl (by kernel_rfl) (fun K hK => ?_) AllReadyT.nil)
          clear hF
          go_simp
          refine hK.out _ _ ?_
          clear hK K
          try simp only [Act.put, List.getElem_toArray, List.getElem_cons_zero, List.getElem_cons_succ, List.setIfInBounds_toArray, List.set_cons_zero, List.set_cons_succ]
          refine tail_done (by kernel_rfl) ?_ _
          refine only_of ?_
          have c2 := P8.out.k2.at_ (i := 0) rfl
          have f2 := P8.out.k2.frozen 0
          clear c0 cr P10 PD P6 R6 S6 P7 Q7 keep stp stpG cB zB
          go_wp2
          rw [hls.out, if_pos hlt]
          exact P8.out.door hbx.out ha.out _ rfl
        · have c2 := P9.out.k2.at_ (i := 0) rfl
          have f2 := P9.out.k2.frozen 0
          go_wp2
          rw [hls.out, if_neg (by omega)]
          exact P9.out.door hbx.out ha.out _ rfl
  · have hi1h := hidd hi1
    rw [hi1] at hat
    go_enter_defers Try.func8, Try.ntmps8
    go_wp2_with (first
      | (go_at_call 17; refine Calls.mono hT.out ?_; rintro e w2 ⟨rfl, rfl⟩)
      | (with_reducible show wpList _ _ _ (⟨_, Op.load 23 _, _, _, _, _⟩ :: _) _ _; refine wpList_load_want (by kernel_rfl) 23 _ rfl _ rfl _ (by with_reducible exact l1.out) ?_))
    refine Calls.mono hat.out ?_
    rintro e2 V2 ⟨rfl, b2⟩
    obtain ⟨p3, Sp3⟩ : ∃ p3, V2.heap.size = p3 := ⟨_, rfl⟩
    have hp3 : p0 + 1 + 1 + 1 ≤ p3 := by have := b2.size; rw [S1'.out] at this; omega
    have B3 := (Below.refl V2.heap.size V2).alloc (Nat.le_refl _) (.cells #[.bool true] 4)
    have G3 : Hid (Rl (V2.alloc (.cells #[.bool true] 4)) B v es last had ∧ Blk (V2.alloc (.cells #[.bool true] 4)) p0 29 #[.pointer (some ⟨B, 0, none⟩)] ∧ Blk (V2.alloc (.cells #[.bool true] 4)) (p0 + 1) 23 (bytesV a) ∧ Blk (V2.alloc (.cells #[.bool true] 4)) (p0 + 1 + 1) 4 #[.bool false] ∧ Blk (V2.alloc (.cells #[.bool true] 4)) p3 4 #[.bool true] ∧ Below p0 w (V2.alloc (.cells #[.bool true] 4))) :=
      ⟨(G1.out.1.to b2).to B3, (G1.out.2.1.below b2 G1.out.2.1.lt).alloc _, (G1.out.2.2.1.below b2 G1.out.2.2.1.lt).alloc _, (G1.out.2.2.2.below b2 G1.out.2.2.2.lt).alloc _, (by rw [← Sp3]; exact Blk.new _ _ _), (b1'.out.trans (b2.mono (by rw [S1'.out]; omega))).trans (B3.mono (by omega))⟩
    have S3 : Hid ((V2.alloc (.cells #[.bool true] 4)).heap.size = p3 + 1) := by show _ = _; simp [Sp3]
    clear hat l1 hT c0 b2 B3 G1 S1' b1'
    go_wp2_with fail
    generalize V2.alloc (.cells #[.bool true] 4) = V3 at G3 S3 ⊢
    obtain ⟨pe, Spe⟩ : ∃ pe, V3.heap.size = pe := ⟨_, rfl⟩
    have hpe : pe = p3 + 1 := by rw [← Spe]; exact S3.out
    have SD : V3.drew.heap.size = pe := Spe
    have l3 := G3.out.2.2.1.load (P := Try.prog) Try.underlying23 rfl (size_a ha.out)
    have keep : Hid ((loadVar 23 ⟨p0 + 1, 0, none⟩).run Try.prog V3.drew = .ok (.agg (bytesV a)) V3.drew ∧ ∀ cs, (loadVar 23 ⟨p0 + 1, 0, none⟩).run Try.prog (V3.drew.alloc (.cells cs 48)) = .ok (.agg (bytesV a)) (V3.drew.alloc (.cells cs 48))) :=
      ⟨G3.out.2.2.1.drew.load (P := Try.prog) Try.underlying23 rfl (size_a ha.out), fun cs => (G3.out.2.2.1.drew.alloc (.cells cs 48)).load (P := Try.prog) Try.underlying23 rfl (size_a ha.out)⟩
    obtain ⟨p1, hp1⟩ : ∃ p1, p0 + 1 = p1 := ⟨_, rfl⟩
    obtain ⟨p2, hp2⟩ : ∃ p2, p1 + 1 = p2 := ⟨_, rfl⟩
    rw [hp1] at keep G3 ⊢
    rw [hp2] at G3 ⊢
    have hpp := hidd (And.intro hp1 (And.intro hp2 (And.intro hp3 hpe)))
    clear l3 hp1 hp2 hpe
    have hlw : IntKind.u32.wrap life = life := IntWalk.u32_in _ (by omega)
    apply wp_end (W := V3.drew.alloc (.cells (encV (a, rk flags, til)) 48))
    case h =>
      refine wp_region_tail (fun V => (loadVar 23 ⟨p1, 0, none⟩).run Try.prog V = .ok (.agg (bytesV a)) V) 10 (by kernel_rfl) keep.out.1 (fun hF => ?_)
      refine tail_free (i := 1) (v := ?_) rfl (by kernel_rfl) (by kernel_rfl) (by kernel_rfl) (by kernel_rfl) (fun _ _ _ h => h) (Or.inl ⟨by kernel_rfl, ?_⟩) (fun _ => hF) ?_
      rotate_left
      · intro wh hSw
        go_simp
        try with_reducible rfl
      try simp only [Act.put, List.getElem_toArray, List.getElem_cons_zero, List.getElem_cons_succ, List.setIfInBounds_toArray, List.set_cons_zero, List.set_cons_succ]
      refine tail_free (i := 3) (v := ?_) rfl (by kernel_rfl) (by kernel_rfl) (by kernel_rfl) (by kernel_rfl) (fun _ _ _ h => h) (Or.inl ⟨by kernel_rfl, ?_⟩) (fun _ => hF) ?_
      rotate_left
      · intro wh hSw
        go_simp
        try with_reducible rfl
      try simp only [Act.put, List.getElem_toArray, List.getElem_cons_zero, List.getElem_cons_succ, List.setIfInBounds_toArray, List.set_cons_zero, List.set_cons_succ]
      refine tail_free (i := 4) (v := ?_) rfl (by kernel_rfl) (by kernel_rfl) (by kernel_rfl) (by kernel_rfl) (fun _ _ _ h => h) (Or.inl ⟨by kernel_rfl, ?_⟩) (fun _ => hF) ?_
      rotate_left
      · intro wh hSw
        go_simp
        try with_reducible rfl
      try simp only [Act.put, List.getElem_toArray, List.getElem_cons_zero, List.getElem_cons_succ, List.setIfInBounds_toArray, List.set_cons_zero, List.set_cons_succ]
      refine tail_free (i := 5) (v := ?_) rfl (by kernel_rfl) (by kernel_rfl) (by kernel_rfl) (by kernel_rfl) (fun _ _ _ h => h) (Or.inl ⟨by kernel_rfl, ?_⟩) (fun _ => hF) ?_
      rotate_left
      · intro wh hSw
        go_simp
        try with_reducible rfl
      try simp only [Act.put, List.getElem_toArray, List.getElem_cons_zero, List.getElem_cons_succ, List.setIfInBounds_toArray, List.set_cons_zero, List.set_cons_succ]
      refine tail_take (i := 0) rfl (by kernel_rfl) (by kernel_rfl) (by kernel_rfl) (by kernel_rfl) (fun _ _ _ h => h) (yieldsIf_load_want (by kernel_rfl) 23 _ rfl _ rfl _ (fun wh hSw => hSw)) hF ?_
      try simp only [Act.put, List.getElem_toArray, List.getElem_cons_zero, List.getElem_cons_succ, List.setIfInBounds_toArray, List.set_cons_zero, List.set_cons_succ]
      refine tail_ready (rs := [2, 9]) (by kernel_rfl) (by simp) (AllReadyT.cons rfl (fun K hK => ?_) (AllReadyT.cons rfl (fun K hK => ?_) AllReadyT.nil))
      clear hF
      go_simp
      with_reducible refine Calls.mono (rank_any _ _ hf0 hf1) ?_
      rintro e1 V1 ⟨rfl, rfl⟩
      dsimp only
      refine hK.out _ _ keep.out.1 (fun hF => ?_)
      clear hK K
      try simp only [Act.put, List.getElem_toArray, List.getElem_cons_zero, List.getElem_cons_succ, List.setIfInBounds_toArray, List.set_cons_zero, List.set_cons_succ]
      refine tail_ready (rs := [6, 9]) (by kernel_rfl) (by simp) (AllReadyT.cons rfl (fun K hK => ?_) (AllReadyT.cons rfl (fun K hK => ?_) AllReadyT.nil))
      clear hF
      go_simp
      with_reducible refine Calls.mono (secs_any _ _ hl0 (by omega)) ?_
      rintro e1 V1 ⟨rfl, rfl⟩
      dsimp only
      refine hK.out _ _ keep.out.1 (fun hF => ?_)
      clear hK K
      try simp only [Act.put, List.getElem_toArray, List.getElem_cons_zero, List.getElem_cons_succ, List.setIfInBounds_toArray, List.set_cons_zero, List.set_cons_succ]
      refine tail_ready (rs := [7, 9]) (by kernel_rfl) (by simp) (AllReadyT.cons rfl (fun K hK => ?_) (AllReadyT.cons rfl (fun K hK => ?_) AllReadyT.nil))
      clear hF
      go_simp
      with_reducible refine Calls.mono (add_any _ _ _ hn0 hn1 hse0 hse1) ?_
      rintro e1 V1 ⟨rfl, rfl⟩
      dsimp only
      rw [htil.out]
      refine hK.out _ _ keep.out.1 (fun hF => ?_)
      clear hK K
      try simp only [Act.put, List.getElem_toArray, List.getElem_cons_zero, List.getElem_cons_succ, List.setIfInBounds_toArray, List.set_cons_zero, List.set_cons_succ]
      refine tail_free (i := 8) rfl (by kernel_rfl) (by kernel_rfl) (by kernel_rfl) (by kernel_rfl) (fun _ _ _ h => h) (yieldsIf_build_want (by kernel_rfl) 48 _ rfl (encV (a, rk flags, til)) (Eq.trans (b := Try.prog.built 48 [(0, .agg (bytesV a)), (1, .int .i64 (rk flags)), (2, .int .u64 til)]) (by kernel_rfl) hbu)) (fun _ => hF) ?_
      try simp only [Act.put, List.getElem_toArray, List.getElem_cons_zero, List.getElem_cons_succ, List.setIfInBounds_toArray, List.set_cons_zero, List.set_cons_succ]
      refine tail_ready (rs := [9]) (by kernel_rfl) (by simp) (AllReadyT.cons rfl (fun K hK => ?_) AllReadyT.nil)
      clear hF
      go_simp
      refine hK.out _ _ (keep.out.2 _) (fun hF => ?_)
      clear hK K
      try simp only [Act.put, List.getElem_toArray, List.getElem_cons_zero, List.getElem_cons_succ, List.setIfInBounds_toArray, List.set_cons_zero, List.set_cons_succ]
      refine tail_ready (rs := [10]) (by kernel_rfl) (by simp) (AllReadyT.last rfl (by kernel_rfl) (fun K hK => ?_) AllReadyT.nil)
      clear hF
      refine step_store_new V3.drew rfl rfl 48 (.tmp 12) (.tmp 30) rfl pe _ (encV (a, rk flags, til)) rfl SD.symm rfl (size_enc hE.out) (Eq.trans (b := 18) (by kernel_rfl) (encV_size hE.out).symm) (ones_enc _) ?_
      refine hK.out _ _ ?_
      clear hK K
      try simp only [Act.put, List.getElem_toArray, List.getElem_cons_zero, List.getElem_cons_succ, List.setIfInBounds_toArray, List.set_cons_zero, List.set_cons_succ]
      refine tail_done (by kernel_rfl) ?_ _
      exact ⟨rfl, rfl⟩
      clear hF
      go_simp
      refine hK.out _ _ (keep.out.2 _) (fun hF => ?_)
      clear hK K
      try simp only [Act.put, List.getElem_toArray, List.getElem_cons_zero, List.getElem_cons_succ, List.setIfInBounds_toArray, List.set_cons_zero, List.set_cons_succ]
      refine tail_ready (rs := [7]) (by kernel_rfl) (by simp) (AllReadyT.cons rfl (fun K hK => ?_) AllReadyT.nil)
      clear hF
      go_simp
      with_reducible refine Calls.mono (add_any _ _ _ hn0 hn1 hse0 hse1) ?_
      rintro e1 V1 ⟨rfl, rfl⟩
      dsimp only
      rw [htil.out]
      refine hK.out _ _ (keep.out.2 _) (fun hF => ?_)
      clear hK K
      try simp only [Act.put, List.getElem_toArray, List.getElem_cons_zero, List.getElem_cons_succ, List.setIfInBounds_toArray, List.set_cons_zero, List.set_cons_succ]
      refine tail_free (i := 8) rfl (by kernel_rfl) (by kernel_rfl) (by kernel_rfl) (by kernel_rfl) (fun _ _ _ h => h) (yieldsIf_build_want (by kernel_rfl) 48 _ rfl (encV (a, rk flags, til)) (Eq.trans (b := Try.prog.built 48 [(0, .agg (bytesV a)), (1, .int .i64 (rk flags)), (2, .int .u64 til)]) (by kernel_rfl) hbu)) (fun _ => hF) ?_
      try simp only [Act.put, List.getElem_toArray, List.getElem_cons_zero, List.getElem_cons_succ, List.setIfInBounds_toArray, List.set_cons_zero, List.set_cons_succ]
      refine tail_ready (rs := [10]) (by kernel_rfl) (by simp) (AllReadyT.last rfl (by kernel_rfl) (fun K hK => ?_) AllReadyT.nil)
      clear hF
      refine step_store_new V3.drew rfl rfl 48 (.tmp 12) (.tmp 30) rfl pe _ (encV (a, rk flags, til)) rfl SD.symm rfl (size_enc hE.out) (Eq.trans (b := 18) (by kernel_rfl) (encV_size hE.out).symm) (ones_enc _) ?_
      refine hK.out _ _ ?_
      clear hK K
      try simp only [Act.put, List.getElem_toArray, List.getElem_cons_zero, List.getElem_cons_succ, List.setIfInBounds_toArray, List.set_cons_zero, List.set_cons_succ]
      refine tail_done (by kernel_rfl) ?_ _
      exact ⟨rfl, rfl⟩
      clear hF
      go_simp
      refine hK.out _ _ (keep.out.2 _) (fun hF => ?_)
      clear hK K
      try simp only [Act.put, List.getElem_toArray, List.getElem_cons_zero, List.getElem_cons_succ, List.setIfInBounds_toArray, List.set_cons_zero, List.set_cons_succ]
      refine tail_ready (rs := [6]) (by kernel_rfl) (by simp) (AllReadyT.cons rfl (fun K hK => ?_) AllReadyT.nil)
      clear hF
      go_simp
      with_reducible refine Calls.mono (secs_any _ _ hl0 (by omega)) ?_
      rintro e1 V1 ⟨rfl, rfl⟩
      dsimp only
      refine hK.out _ _ (keep.out.2 _) (fun hF => ?_)
      clear hK K
      try simp only [Act.put, List.getElem_toArray, List.getElem_cons_zero, List.getElem_cons_succ, List.setIfInBounds_toArray, List.set_cons_zero, List.set_cons_succ]
      refine tail_ready (rs := [7]) (by kernel_rfl) (by simp) (AllReadyT.cons rfl (fun K hK => ?_) AllReadyT.nil)
      clear hF
      go_simp
      with_reducible refine Calls.mono (add_any _ _ _ hn0 hn1 hse0 hse1) ?_
      rintro e1 V1 ⟨rfl, rfl⟩
      dsimp only
      rw [htil.out]
      refine hK.out _ _ (keep.out.2 _) (fun hF => ?_)
      clear hK K
      try simp only [Act.put, List.getElem_toArray, List.getElem_cons_zero, List.getElem_cons_succ, List.setIfInBounds_toArray, List.set_cons_zero, List.set_cons_succ]
      refine tail_free (i := 8) rfl (by kernel_rfl) (by kernel_rfl) (by kernel_rfl) (by kernel_rfl) (fun _ _ _ h => h) (yieldsIf_build_want (by kernel_rfl) 48 _ rfl (encV (a, rk flags, til)) (Eq.trans (b := Try.prog.built 48 [(0, .agg (bytesV a)), (1, .int .i64 (rk flags)), (2, .int .u64 til)]) (by kernel_rfl) hbu)) (fun _ => hF) ?_
      try simp only [Act.put, List.getElem_toArray, List.getElem_cons_zero, List.getElem_cons_succ, List.setIfInBounds_toArray, List.set_cons_zero, List.set_cons_succ]
      refine tail_ready (rs := [10]) (by kernel_rfl) (by simp) (AllReadyT.last rfl (by kernel_rfl) (fun K hK => ?_) AllReadyT.nil)
      clear hF
      refine step_store_new V3.drew rfl rfl 48 (.tmp 12) (.tmp 30) rfl pe _ (encV (a, rk flags, til)) rfl SD.symm rfl (size_enc hE.out) (Eq.trans (b := 18) (by kernel_rfl) (encV_size hE.out).symm) (ones_enc _) ?_
      refine hK.out _ _ ?_
      clear hK K
      try simp only [Act.put, List.getElem_toArray, List.getElem_cons_zero, List.getElem_cons_succ, List.setIfInBounds_toArray, List.set_cons_zero, List.set_cons_succ]
      refine tail_done (by kernel_rfl) ?_ _
      exact ⟨rfl, rfl⟩
      clear hF
      go_simp
      refine hK.out _ _ (keep.out.2 _) (fun hF => ?_)
      clear hK K
      try simp only [Act.put, List.getElem_toArray, List.getElem_cons_zero, List.getElem_cons_succ, List.setIfInBounds_toArray, List.set_cons_zero, List.set_cons_succ]
      refine tail_ready (rs := [2]) (by kernel_rfl) (by simp) (AllReadyT.cons rfl (fun K hK => ?_) AllReadyT.nil)
      clear hF
      go_simp
      with_reducible refine Calls.mono (rank_any _ _ hf0 hf1) ?_
      rintro e1 V1 ⟨rfl, rfl⟩
      dsimp only
      refine hK.out _ _ (keep.out.2 _) (fun hF => ?_)
      clear hK K
      try simp only [Act.put, List.getElem_toArray, List.getElem_cons_zero, List.getElem_cons_succ, List.setIfInBounds_toArray, List.set_cons_zero, List.set_cons_succ]
      refine tail_ready (rs := [6]) (by kernel_rfl) (by simp) (AllReadyT.cons rfl (fun K hK => ?_) AllReadyT.nil)
      clear hF
      go_simp
      with_reducible refine Calls.mono (secs_any _ _ hl0 (by omega)) ?_
      rintro e1 V1 ⟨rfl, rfl⟩
      dsimp only
      refine hK.out _ _ (keep.out.2 _) (fun hF => ?_)
      clear hK K
      try simp only [Act.put, List.getElem_toArray, List.getElem_cons_zero, List.getElem_cons_succ, List.setIfInBounds_toArray, List.set_cons_zero, List.set_cons_succ]
      refine tail_ready (rs := [7]) (by kernel_rfl) (by simp) (AllReadyT.cons rfl (fun K hK => ?_) AllReadyT.nil)
      clear hF
      go_simp
      with_reducible refine Calls.mono (add_any _ _ _ hn0 hn1 hse0 hse1) ?_
      rintro e1 V1 ⟨rfl, rfl⟩
      dsimp only
      rw [htil.out]
      refine hK.out _ _ (keep.out.2 _) (fun hF => ?_)
      clear hK K
      try simp only [Act.put, List.getElem_toArray, List.getElem_cons_zero, List.getElem_cons_succ, List.setIfInBounds_toArray, List.set_cons_zero, List.set_cons_succ]
      refine tail_free (i := 8) rfl (by kernel_rfl) (by kernel_rfl) (by kernel_rfl) (by kernel_rfl) (fun _ _ _ h => h) (yieldsIf_build_want (by kernel_rfl) 48 _ rfl (encV (a, rk flags, til)) (Eq.trans (b := Try.prog.built 48 [(0, .agg (bytesV a)), (1, .int .i64 (rk flags)), (2, .int .u64 til)]) (by kernel_rfl) hbu)) (fun _ => hF) ?_
      try simp only [Act.put, List.getElem_toArray, List.getElem_cons_zero, List.getElem_cons_succ, List.setIfInBounds_toArray, List.set_cons_zero, List.set_cons_succ]
      refine tail_ready (rs := [10]) (by kernel_rfl) (by simp) (AllReadyT.last rfl (by kernel_rfl) (fun K hK => ?_) AllReadyT.nil)
      clear hF
      refine step_store_new V3.drew rfl rfl 48 (.tmp 12) (.tmp 30) rfl pe _ (encV (a, rk flags, til)) rfl SD.symm rfl (size_enc hE.out) (Eq.trans (b := 18) (by kernel_rfl) (encV_size hE.out).symm) (ones_enc _) ?_
      refine hK.out _ _ ?_
      clear hK K
      try simp only [Act.put, List.getElem_toArray, List.getElem_cons_zero, List.getElem_cons_succ, List.setIfInBounds_toArray, List.set_cons_zero, List.set_cons_succ]
      refine tail_done (by kernel_rfl) ?_ _
      exact ⟨rfl, rfl⟩
    have SW : Hid ((V3.drew.alloc (.cells (encV (a, rk flags, til)) 48)).heap.size = pe + 1) := by show _ = _; simp [Spe]
    have P4 : Hid (St w (V3.drew.alloc (.cells (encV (a, rk flags, til)) 48)) B (pe + 1) p0 p1 p2 p3 pe v v es last had true a (a, rk flags, til)) := by
      obtain ⟨g1, g2, g3, g4, g5, g6⟩ := G3.out
      have bb : Below V3.heap.size V3 (V3.drew.alloc (.cells (encV (a, rk flags, til)) 48)) := (Below.refl _ V3).drew.alloc (Nat.le_refl _) _
      refine ⟨⟨g1.to bb, Fr.of_below (by rw [Sp0]; exact g6.trans (bb.mono g6.size |>.mono (by have := g6.size; omega))) _, fun k hk => .inl hk, hold.out, hBw, ?_, ?_⟩, g2.below bb g2.lt, g3.below bb g3.lt, g4.below bb g4.lt, g5.below bb g5.lt, ?_⟩
      · obtain ⟨e1, e2, e3, e4⟩ := hpp.out; omega
      · rw [SW.out]; exact Nat.le_refl _
      · rw [← Spe]; exact Blk.new V3.drew 48 _
    have hbx : Hid (Bx w (pe + 1) p0 p1 p2 p3 pe) := by
      obtain ⟨e1, e2, e3, e4⟩ := hpp.out
      exact ⟨by omega, by omega, by omega, by omega, by omega, by omega, by omega, by omega⟩
    generalize V3.drew.alloc (.cells (encV (a, rk flags, til)) 48) = V4 at P4 ⊢
    rw [← hx.out] at hE P4
    clear SW G3 S3 keep SD Spe hlw hpp hbu hx0
    have c0 := P4.out.k0.at_ (i := 0) rfl
    have c1 := P4.out.k1.load (P := Try.prog) Try.underlying23 rfl (size_a ha.out)
    have l1 := hidd c1
    have c3 := P4.out.k3.at_ (i := 0) rfl
    have cr := P4.out.l.rl.row
    clear c1
    by_cases hz : life = 0
    · have hlz : (life == 0) = true := by rw [hz]; rfl
      have hls := hidd (show learnS (a, rk flags, til) life es = dropS a es from by rw [learnS, if_pos hz])
      clear hz c3 cr
      go_wp2_with (with_reducible show wpList _ _ _ (⟨_, Op.load 23 _, _, _, _, _⟩ :: _) _ _; refine wpList_load_want (by kernel_rfl) 23 _ rfl _ rfl _ (by with_reducible exact l1.out) ?_)
      refine (drop_any V4 B v es last had P4.out.l.rl a ha.out).mono ?_
      rintro e5 V5 ⟨rfl, v5, r5, f5, m5⟩
      have P5 := hidd (P4.out.turn hbx.out (P4.out.l.turn r5 f5 (fun k hk => .inl (m5 k hk))) f5)
      have c2 := P5.out.k2.at_ (i := 0) rfl
      have f2 := P5.out.k2.frozen 0
      clear r5 f5 m5 P4 l1 c0
      go_wp2
      rw [hls.out]
      exact P5.out.door hbx.out ha.out _ rfl
    · have hlz : (life == 0) = false := by simp [hz]
      have hij := (List.getElem?_eq_some_iff.1 hei).1
      obtain ⟨g, c, hA, hbg, hgl⟩ := own_pos P4.out.l.rl.own (by omega)
      subst hA
      have hcc := own_cap P4.out.l.rl.own
      have hls := hidd (show learnS (a, rk flags, til) life es = es.set i x from by rw [hx.out]; simp [learnS, hz, hi1])
      have hok := hidd (fun e' (he' : e' ∈ es.set i x) => (show IsE e' from by
        rcases List.mem_or_eq_of_mem_set he' with he' | rfl
        · exact P4.out.l.rl.ok e' he'
        · exact hE.out))
      have keep := fun (U : World) (h : St w U B (pe + 1) p0 p1 p2 p3 pe (.slice (some ⟨g, 0, none⟩) es.length c) (.slice (some ⟨g, 0, none⟩) es.length c) es last had true a x) => (show U.cell? ⟨p0, 0, none⟩ = some (.pointer (some ⟨B, 0, none⟩)) ∧ U.cell? ⟨B, 0, none⟩ = some (.slice (some ⟨g, 0, none⟩) es.length c) ∧ (loadVar 23 ⟨p1, 0, none⟩).run Try.prog U = .ok (.agg (bytesV a)) U ∧ (loadVar 48 ⟨pe, 0, none⟩).run Try.prog U = .ok (.agg (encV x)) U from ⟨h.k0.at_ rfl, h.l.rl.row, h.k1.load (P := Try.prog) Try.underlying23 rfl (size_a ha.out), loadB hE.out h.ke⟩)
      have stp := fun (U V : World) (h : St w U B (pe + 1) p0 p1 p2 p3 pe (.slice (some ⟨g, 0, none⟩) es.length c) (.slice (some ⟨g, 0, none⟩) es.length c) es last had true a x) (hb : Below U.heap.size U V) => h.to hb
      clear hz l1 hei hea
      go_wp2
      refine wp_only ?_
      have PD := hidd (stp _ _ P4.out (Below.refl _ V4).drew)
      refine wp_region_tail (fun V => V.cell? ⟨p0, 0, none⟩ = some (.pointer (some ⟨B, 0, none⟩)) ∧ V.cell? ⟨B, 0, none⟩ = some (.slice (some ⟨g, 0, none⟩) es.length c) ∧ (loadVar 23 ⟨p1, 0, none⟩).run Try.prog V = .ok (.agg (bytesV a)) V ∧ (loadVar 48 ⟨pe, 0, none⟩).run Try.prog V = .ok (.agg (encV x)) V) 9 (by kernel_rfl) (keep _ PD.out) (fun hF => ?_)
      generalize V4.drew = D at PD hF ⊢
      refine tail_take (i := 0) (v := ?_) rfl (by kernel_rfl) (by kernel_rfl) (by kernel_rfl) (by kernel_rfl) (fun _ _ _ h => h) (Or.inl ⟨by kernel_rfl, ?_⟩) hF ?_
      rotate_left
      · intro wh hSw
        have hcell := hSw.1
        go_simp
        try with_reducible rfl
      try simp only [Act.put, List.getElem_toArray, List.getElem_cons_zero, List.getElem_cons_succ, List.setIfInBounds_toArray, List.set_cons_zero, List.set_cons_succ]
      refine tail_free (i := 1) (v := ?_) rfl (by kernel_rfl) (by kernel_rfl) (by kernel_rfl) (by kernel_rfl) (fun _ _ _ h => h) (Or.inl ⟨by kernel_rfl, ?_⟩) (fun _ => hF) ?_
      rotate_left
      · intro wh hSw
        go_simp
        try with_reducible rfl
      try simp only [Act.put, List.getElem_toArray, List.getElem_cons_zero, List.getElem_cons_succ, List.setIfInBounds_toArray, List.set_cons_zero, List.set_cons_succ]
      refine tail_free (i := 2) (v := ?_) rfl (by kernel_rfl) (by kernel_rfl) (by kernel_rfl) (by kernel_rfl) (fun _ _ _ h => h) (Or.inl ⟨by kernel_rfl, ?_⟩) (fun _ => hF) ?_
      rotate_left
      · intro wh hSw
        go_simp
        try with_reducible rfl
      try simp only [Act.put, List.getElem_toArray, List.getElem_cons_zero, List.getElem_cons_succ, List.setIfInBounds_toArray, List.set_cons_zero, List.set_cons_succ]
      refine tail_take (i := 3) (v := ?_) rfl (by kernel_rfl) (by kernel_rfl) (by kernel_rfl) (by kernel_rfl) (fun _ _ _ h => h) (Or.inl ⟨by kernel_rfl, ?_⟩) hF ?_
      rotate_left
      · intro wh hSw
        have hcell := hSw.2.1
        go_simp
        try with_reducible rfl
      try simp only [Act.put, List.getElem_toArray, List.getElem_cons_zero, List.getElem_cons_succ, List.setIfInBounds_toArray, List.set_cons_zero, List.set_cons_succ]
      refine tail_take (i := 4) (v := ?_) rfl (by kernel_rfl) (by kernel_rfl) (by kernel_rfl) (by kernel_rfl) (fun _ _ _ h => h) (Or.inl ⟨by kernel_rfl, ?_⟩) hF ?_
      rotate_left
      · intro wh hSw
        have hcell := hSw.1
        go_simp
        try with_reducible rfl
      try simp only [Act.put, List.getElem_toArray, List.getElem_cons_zero, List.getElem_cons_succ, List.setIfInBounds_toArray, List.set_cons_zero, List.set_cons_succ]
      refine tail_take (i := 5) rfl (by kernel_rfl) (by kernel_rfl) (by kernel_rfl) (by kernel_rfl) (fun _ _ _ h => h) (yieldsIf_load_want (by kernel_rfl) 23 _ rfl _ rfl _ (fun wh hSw => hSw.2.2.1)) hF ?_
      try simp only [Act.put, List.getElem_toArray, List.getElem_cons_zero, List.getElem_cons_succ, List.setIfInBounds_toArray, List.set_cons_zero, List.set_cons_succ]
      refine tail_take (i := 7) rfl (by kernel_rfl) (by kernel_rfl) (by kernel_rfl) (by kernel_rfl) (fun _ _ _ h => h) (yieldsIf_load_want (by kernel_rfl) 48 _ rfl _ rfl _ (fun wh hSw => hSw.2.2.2)) hF ?_
      try simp only [Act.put, List.getElem_toArray, List.getElem_cons_zero, List.getElem_cons_succ, List.setIfInBounds_toArray, List.set_cons_zero, List.set_cons_succ]
      refine tail_ready (rs := [6]) (by kernel_rfl) (by simp) (AllReadyT.cons rfl (fun K hK => ?_) AllReadyT.nil)
      clear hF
      go_simp
      with_reducible refine Calls.mono (at_any _ B _ es last had PD.out.1.rl a ha.out) ?_
      rintro e1 V6 ⟨rfl, b6⟩
      dsimp only
      rw [hi1]
      have P6 := hidd (stp _ _ PD.out b6)
      refine hK.out _ _ (keep _ P6.out) (fun hF => ?_)
      clear hK K
      try simp only [Act.put, List.getElem_toArray, List.getElem_cons_zero, List.getElem_cons_succ, List.setIfInBounds_toArray, List.set_cons_zero, List.set_cons_succ]
      refine tail_free (i := 8) (v := ?_) rfl (by kernel_rfl) (by kernel_rfl) (by kernel_rfl) (by kernel_rfl) (fun _ _ _ h => h) (Or.inl ⟨by kernel_rfl, ?_⟩) (fun _ => hF) ?_
      rotate_left
      · intro wh hSw
        go_simp
        try with_reducible rfl
      try simp only [Act.put, List.getElem_toArray, List.getElem_cons_zero, List.getElem_cons_succ, List.setIfInBounds_toArray, List.set_cons_zero, List.set_cons_succ]
      refine tail_ready (rs := [9]) (by kernel_rfl) (by simp) (AllReadyT.last rfl (by kernel_rfl) (fun K hK => ?_) AllReadyT.nil)
      clear hF
      refine step_store_vals V6 rfl rfl 48 (.tmp 76) (.tmp 75) rfl g (i * 18) (enc x) rfl rfl (by rw [isEnc.len _ hE.out]; exact own_there P6.out.1.rl.own (by show i * 18 + 18 ≤ c * 18; omega)) (by rw [isEnc.len _ hE.out]; exact infoE) (isEnc.one _) ?_
      refine hK.out _ _ ?_
      clear hK K
      try simp only [Act.put, List.getElem_toArray, List.getElem_cons_zero, List.getElem_cons_succ, List.setIfInBounds_toArray, List.set_cons_zero, List.set_cons_succ]
      refine tail_done (by kernel_rfl) ?_ _
      refine only_of ?_
      have F6 := fr_cells V6 g (enc x) (i * 18)
      have P7 : Hid (Rl (V6.setCells g (i * 18) (enc x)) B (.slice (some ⟨g, 0, none⟩) es.length c) (es.set i x) last had) :=
        ⟨P6.out.l.rl.blk.fr F6 (by omega), by rw [List.length_set]; exact own_store P6.out.l.rl.own isEnc P6.out.l.rl.ok hE.out hij, hok.out, by rw [List.length_set]; exact P6.out.l.rl.four, P6.out.l.rl.lastok⟩
      have F6' : Fr (Own B (.slice (some ⟨g, 0, none⟩) es.length c)) V6 (V6.setCells g (i * 18) (enc x)) := F6.mono (fun k _ e => .inr (by rw [e]; rfl))
      have P8 := hidd (P6.out.turn hbx.out (P6.out.l.turn P7.out F6' (fun k hk => .inl hk)) F6')
      have c2 := P8.out.k2.at_ (i := 0) rfl
      have f2 := P8.out.k2.frozen 0
      clear c0 c3 cr P4 PD P6 P7 F6 F6' keep stp
      go_wp2
      rw [hls.out]
      exact P8.out.door hbx.out ha.out _ rfl
end Go.Proofs.Ytnchjbgfmkmbaaa
