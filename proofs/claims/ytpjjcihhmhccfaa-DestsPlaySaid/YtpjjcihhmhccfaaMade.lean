/- A cache: an entry that tells nothing is none; all entries; an entry made; each function walked once. No condition. -/
import Derived.Test.YtpjjcihhmhccfaaTch
import Derived.WideLaws
namespace Go.Proofs.Ytpjjcihhmhccfaa
open Go.ChangeShapes Go.WideShapes Go.ChangeAt Go.RowKit Go.Deep
set_option linter.unusedVariables false
set_option linter.unusedSimpArgs false

def bareE (e : E) : Bool := e.2.1 == zeroA && e.2.2.1 == 0
def bareO (b : Nat) (e : E) (os : List En) : List En := if bareE e then outO b os else os
set_option maxRecDepth 100000 in
set_option maxHeartbeats 1000000 in
theorem bare_any {w0 : World} (w : World) {B : Nat} {os : List En} {L : List Bx} (h : Ch w0 w B os L) (b : Nat) (e : E) (hb : (b, e) ∈ os) :
    Calls Try.prog 28 #[ptr B, ptr b] w fun r w' => (∃ z, r = .returned z) ∧ Ch w0 w' B (bareO b e os) L := by
  obtain ⟨hbl, hE⟩ := h.ent hb
  have c1 := hbl.at_ (at_mtu hE)
  have l1 := hidd (ldNext hbl hE)
  have heq := fun V => eql24 V hE.n zeroA_is
  have hgd := guard24
  have hC := hidd h
  have hD := hidd (drop_any w h b e hb)
  clear h hbl
  by_cases hz : e.2.1 = zeroA
  · have hz' : (e.2.1 == zeroA) = true := by simpa using hz
    by_cases hm : e.2.2.1 = 0
    · have hm' : (e.2.2.1 == 0) = true := by simpa using hm
      have hr : Hid (bareO b e os = outO b os) := by refine hidd ?_; rw [bareO, bareE, hz', hm']; rfl
      rw [hz'] at heq
      clear hz hm
      go_enter Try.func28, Try.ntmps28
      go_wp2_with (first
        | (with_reducible show wpList _ _ _ (⟨_, Op.load 24 _, _, _, _, _⟩ :: _) _ _; refine wpList_load_want (by kernel_rfl) 24 _ rfl _ rfl _ (by with_reducible exact l1.out) ?_)
        | (with_reducible show wpList _ _ _ (⟨_, Op.build 24 _, _, _, _, _⟩ :: _) _ _; refine wpList_build_want rfl 24 #[] rfl (bytesV zeroA) (by kernel_rfl) ?_))
      refine Calls.mono hD.out ?_
      rintro r w2 ⟨⟨z, rfl⟩, h2⟩
      have h2' := hidd h2
      clear h2 hC hD
      go_wp2
      go_end0
      rw [hr.out]
      exact ⟨⟨_, rfl⟩, h2'.out⟩
    · have hm' : (e.2.2.1 == 0) = false := by simpa using hm
      have hr : Hid (bareO b e os = os) := by refine hidd ?_; rw [bareO, bareE, hz', hm']; rfl
      rw [hz'] at heq
      clear hz hm
      go_enter Try.func28, Try.ntmps28
      go_wp2_with (first
        | (with_reducible show wpList _ _ _ (⟨_, Op.load 24 _, _, _, _, _⟩ :: _) _ _; refine wpList_load_want (by kernel_rfl) 24 _ rfl _ rfl _ (by with_reducible exact l1.out) ?_)
        | (with_reducible show wpList _ _ _ (⟨_, Op.build 24 _, _, _, _, _⟩ :: _) _ _; refine wpList_build_want rfl 24 #[] rfl (bytesV zeroA) (by kernel_rfl) ?_))
      go_end0
      rw [hr.out]
      exact ⟨⟨_, rfl⟩, hC.out⟩
  · have hz' : (e.2.1 == zeroA) = false := by simpa using hz
    have hr : Hid (bareO b e os = os) := by refine hidd ?_; rw [bareO, bareE, hz']; rfl
    rw [hz'] at heq
    clear hz
    go_enter Try.func28, Try.ntmps28
    go_wp2_with (first
      | (with_reducible show wpList _ _ _ (⟨_, Op.load 24 _, _, _, _, _⟩ :: _) _ _; refine wpList_load_want (by kernel_rfl) 24 _ rfl _ rfl _ (by with_reducible exact l1.out) ?_)
      | (with_reducible show wpList _ _ _ (⟨_, Op.build 24 _, _, _, _, _⟩ :: _) _ _; refine wpList_build_want rfl 24 #[] rfl (bytesV zeroA) (by kernel_rfl) ?_))
    go_end0
    rw [hr.out]
    exact ⟨⟨_, rfl⟩, hC.out⟩

theorem all_any {w0 : World} (w : World) {B : Nat} {os : List En} {L : List Bx} (h : Ch w0 w B os L) :
    Calls Try.prog 27 #[ptr B] w fun e w' => ∃ v', e = .returned v' ∧ w'.ownsRow w.heap.size 61 1 v' os.length (flatP (os.map (·.1))) ∧ Below w.heap.size w w' := by
  obtain ⟨bm, v, ps, ms, ck, es, h1, h2⟩ := h
  have hl : ps.length = os.length := by rw [← h2.row, List.length_map]
  obtain ⟨A, c, rfl⟩ := slice_of_own h1.own
  have hF := hidd (cloneP_any w A _ c (flatP ps) (Rd.of_own h1.own) (isEncP.flat_one _) (by have := h2.max; omega))
  rw [← h2.row, List.length_map] at hF
  have c0 := h1.row0
  rw [hl] at c0
  clear h1 h2 hl
  go_enter Try.func27, Try.ntmps27
  go_wp2_with fail
  refine Calls.mono hF.out ?_
  rintro e w2 ⟨v2, rfl, o2, b2⟩
  have H := hidd (And.intro o2 b2)
  clear o2 b2 hF
  go_wp2
  go_ret
  exact ⟨_, rfl, H.out⟩

section
variable {w0 W V : World} {B bm ck : Nat} {v : Value} {ps : List Nat} {ms : List Mm} {es : List (Nat × E)} {L : List Bx}
theorem Lc.rowM (h : Lc w0 W B bm v ps ms ck es L) {v' : Value} {ps' : List Nat} {ms' : List Mm} {ck' : Nat} (hf : Fr (fun k => v.ownBlock = some k ∨ k = bm) W V) (hM : IsM V bm ms' ck') (ho : V.ownsRow (B + 1) 61 1 v' ps'.length (flatP ps')) (hm : ∀ k, v'.ownBlock = some k → v.ownBlock = some k ∨ W.heap.size ≤ k)
    (hp : ∀ p ∈ ps', ∃ e ∈ es, e.1 = p) (hk : ∀ m ∈ ms', IsAddr m.1) (hb : ∀ m ∈ ms', m.2.2 < ck') : Lc w0 (V.setCell ⟨B, 0, none⟩ v') B bm v' ps' ms' ck' es L := by
  have hS : ∀ k ∈ ids B bm es L, ¬ v.ownBlock = some k := fun k hk e => h.away k e hk
  have hf2 : Fr (fun k => (v.ownBlock = some k ∨ k = bm) ∨ k = B) W (V.setCell ⟨B, 0, none⟩ v') := (hf.mono (fun k _ hk => .inl hk)).setCell (p := ⟨B, 0, none⟩) (.inl (.inr rfl)) v'
  have hB : Blk (V.setCell ⟨B, 0, none⟩ v') B 58 #[v', .map (some bm)] := by
    have := (h.blk.fr hf (by rintro (e | e); exact hS _ ids_B e; exact nd_Bm h.nd e)).set 0 v'
    simpa using this
  refine ⟨hB, ownRow_fr ho ((Fr.refl (· = B) V).setB v') (fun k hk e => by have := (ho.lt k hk).1; omega), hM.fr ((Fr.refl (· = B) V).setB v') (fun e => nd_Bm h.nd e.symm),
    fun e he => (h.ent e he).fr hf2 (by rintro ((e' | e') | e'); exact hS _ (ids_e he) e'; exact nd_me h.nd he e'.symm; exact nd_Be h.nd he e'.symm), fun x hx => (h.box x hx).fr hf2 (by rintro ((e' | e') | e'); exact hS _ (ids_x hx) e'; exact nd_mx h.nd hx e'.symm; exact nd_Bx h.nd hx e'.symm),
    h.nd, fun k hk hi => ?_, h.lo, hk, hb, h.ok, hp, h.bel.trans (hf2.below h.bel.size (fun k e => ?_))⟩
  · rcases hm k hk with e | e
    · exact h.away k e hi
    · have := h.lt hi; omega
  · rcases e with (e | e) | e
    · have := (h.own.lt k e).1; have := h.lo.1; omega
    · rw [e]; exact h.lo.2.1
    · rw [e]; exact h.lo.1
theorem row_at {g n c k p : Nat} (h : Lc w0 W B bm (.slice (some ⟨g, 0, none⟩) n c) ps ms ck es L) (hk : ps[k]? = some p) : W.cell? ⟨g, k, none⟩ = some (ptr p) := by
  have hl : ps.length = n := by
    have h1 := h.own.1
    have h2 := h.own.2
    rcases h2 with ⟨h2, _⟩ | ⟨g', cap', cur, h', _⟩
    · simp at h2
    · simp only [Value.slice.injEq] at h'; exact h'.2.1.symm
  have ho := h.own
  rw [hl] at ho
  have := own_range ho isEncP hl (fun _ _ => trivial) hk 0 _ rfl
  rwa [Nat.mul_one, Nat.add_zero] at this
theorem mid_map (h : IsM W bm ms ck) (o : Obj) : ({ W with heap := W.heap.setIfInBounds bm o } : World).heap[bm]? = some o := by
  have := h.lt
  simp [this]
theorem setMap_mid (W : World) (bm : Nat) (o : Obj) (ms : List Mm) (ck : Nat) : setMap { W with heap := W.heap.setIfInBounds bm o } bm ms ck = setMap W bm ms ck := by
  simp [setMap]
theorem mid_fr (W : World) (bm : Nat) (o : Obj) : Fr (· = bm) W { W with heap := W.heap.setIfInBounds bm o } :=
  ⟨rfl, rfl, rfl, by simp, fun k hk hS => by simp [Ne.symm hS]⟩
theorem made_fr (h : Fr (fun k => v.ownBlock = some k) W V) (ms : List Mm) (ck : Nat) : Fr (fun k => v.ownBlock = some k ∨ k = bm) W (setMap V bm ms ck) :=
  (h.mono (fun k _ e => .inl e)).trans ((setMap_fr V bm ms ck).mono (fun k _ e => .inr e))
end
theorem outO_last {os : List En} {b : Nat} {e : E} (h : (os ++ [(b, e)]).Pairwise fun a b => a.1 ≠ b.1) : outO b (os ++ [(b, e)]) = os := by
  rw [outO, List.filter_append, List.filter_cons_of_neg (by simp), List.filter_nil, List.append_nil, List.filter_eq_self]
  intro p hp
  have := (List.pairwise_append.1 h).2.2 p hp (b, e) (by simp)
  simpa using this
/-- A new entry ahead. -/
theorem Gd.made {ps : List Nat} {ms : List Mm} {es os : List En} (h : Gd ps ms es os) {b ck : Nat} {e : E} (hb : ∀ o ∈ os, o.1 ≠ b) (he : ∀ o ∈ os, o.2.1 ≠ e.1) (hm : os.length < 32) : Gd (b :: ps) (ms ++ [(e.1, b, ck)]) (es ++ [(b, e)]) ((b, e) :: os) := by
  refine ⟨by rw [List.map_cons, h.row], fun o ho => ?_, List.pairwise_cons.2 ⟨fun o ho e' => he o ho e'.symm, h.nd⟩, List.pairwise_cons.2 ⟨fun o ho e' => hb o ho e'.symm, h.nb⟩, fun a b' => ?_, ?_, by simp [h.len], by simp; omega⟩
  · rcases List.mem_cons.1 ho with rfl | ho
    · simp
    · exact List.mem_append_left _ (h.mem o ho)
  · constructor
    · rintro ⟨n, hn⟩
      rcases List.mem_append.1 hn with hn | hn
      · obtain ⟨y, hy1, hy2⟩ := (h.keys a b').1 ⟨n, hn⟩
        exact ⟨y, List.mem_cons_of_mem _ hy1, hy2⟩
      · have := List.mem_singleton.1 hn
        simp only [Prod.mk.injEq] at this
        obtain ⟨rfl, rfl, rfl⟩ := this
        exact ⟨e, by simp, rfl⟩
    · rintro ⟨y, hy1, hy2⟩
      rcases List.mem_cons.1 hy1 with hy | hy
      · simp only [Prod.mk.injEq] at hy
        obtain ⟨rfl, rfl⟩ := hy
        exact ⟨ck, by rw [← hy2]; simp⟩
      · obtain ⟨n, hn⟩ := (h.keys a b').2 ⟨y, hy, hy2⟩
        exact ⟨n, List.mem_append_left _ hn⟩
  · rw [List.pairwise_append]
    refine ⟨h.kd, by simp, fun m hm m' hm' e' => ?_⟩
    rw [List.mem_singleton.1 hm'] at e'
    obtain ⟨a, b', n⟩ := m
    obtain ⟨y, hy1, hy2⟩ := (h.keys a b').1 ⟨n, hm⟩
    exact he _ hy1 (hy2.trans e')
def newE (x : List Int) : E := (x, zeroA, 0, 0)
theorem newE_is {x : List Int} (h : IsAddr x) : IsE (newE x) := ⟨h, zeroA_is, (by decide : (0 : Int) ≤ 0 ∧ (0 : Int) ≤ 4294967295), (by decide : (0 : Int) ≤ 0 ∧ (0 : Int) ≤ 18446744073709551615)⟩
/-- Of 32 the last one is let go. -/
def room (os : List En) : List En := if os.length = 32 then os.dropLast else os
/-- What is made of an entry. -/
def Mk (x : List Int) (os : List En) (b : Nat) (e : E) (rest : List En) : Prop := (fo x os = some (b, e) ∧ rest = outO b os) ∨ (fo x os = none ∧ e = newE x ∧ rest = room os)
end Go.Proofs.Ytpjjcihhmhccfaa
