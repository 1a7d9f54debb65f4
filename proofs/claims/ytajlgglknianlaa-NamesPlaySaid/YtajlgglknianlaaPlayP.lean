/- Both books side by side, and a copy of a list: what stays when one of them turns. No condition. -/
import Derived.Test.YtajlgglknianlaaSame
namespace Go.Proofs.Ytajlgglknianlaa
open Go.ChangeShapes Go.WideShapes Go.ChangeAt Go.RowKit Go.Deep
set_option linter.unusedVariables false
set_option linter.unusedSimpArgs false

theorem u64w (n : Int) : 0 ≤ IntKind.u64.wrap n ∧ IntKind.u64.wrap n ≤ 18446744073709551615 := by
  have h : IntKind.u64.wrap n = n % 18446744073709551616 := by
    simp [IntKind.wrap, IntKind.bits, IntKind.signed]
  rw [h]; omega
theorem noDup_filter {α : Type} {same : α → α → Bool} {es : List (α × Int)} (h : NoDup same es) (p : α × Int → Bool) : NoDup same (es.filter p) := List.Pairwise.sublist List.filter_sublist h
/-- Both books, apart from one another. -/
structure Pl (w : World) (B M : Nat) (vs vd rs rd : Value) (ss : List Sv.E) (dd : List Dm.E) (W : World) : Prop where
  bk : Bk W B vs vd ss dd
  rb : Rf.Rb W M rs rd (ss.map Rf.embS) (dd.map Rf.embD)
  ns : NoDup Sv.sameT ss
  nd : NoDup Dm.sameT dd
  bel : Below w.heap.size w W
  lo : w.heap.size ≤ B
  BM : B < M
  va : ∀ k, vs.ownBlock = some k → k ≠ M ∧ rs.ownBlock ≠ some k ∧ rd.ownBlock ≠ some k
  da : ∀ k, vd.ownBlock = some k → k ≠ M ∧ rs.ownBlock ≠ some k ∧ rd.ownBlock ≠ some k
/-- A block that is neither's. -/
structure Free (B M : Nat) (vs vd rs rd : Value) (g : Nat) : Prop where
  b : g ≠ B
  m : g ≠ M
  vs : vs.ownBlock ≠ some g
  vd : vd.ownBlock ≠ some g
  rs : rs.ownBlock ≠ some g
  rd : rd.ownBlock ≠ some g
section
variable {w W V : World} {B M : Nat} {vs vd rs rd : Value} {ss : List Sv.E} {dd : List Dm.E}
theorem Pl.to (h : Pl w B M vs vd rs rd ss dd W) (hb : Below W.heap.size W V) : Pl w B M vs vd rs rd ss dd V :=
  ⟨h.bk.to hb, h.rb.to hb, h.ns, h.nd, h.bel.trans (hb.mono h.bel.size), h.lo, h.BM, h.va, h.da⟩
theorem Pl.draw (h : Pl w B M vs vd rs rd ss dd W) : Pl w B M vs vd rs rd ss dd W.drew := h.to (Below.refl _ W).drew
theorem Pl.lt (h : Pl w B M vs vd rs rd ss dd W) : B < W.heap.size ∧ M < W.heap.size := ⟨h.bk.lt, h.rb.lt⟩
theorem Pl.free (h : Pl w B M vs vd rs rd ss dd W) {g : Nat} (hg : W.heap.size ≤ g) : Free B M vs vd rs rd g :=
  ⟨by have := h.bk.lt; omega, by have := h.rb.lt; omega, fun e => by have := (h.bk.s.lt g e).2; omega, fun e => by have := (h.bk.d.lt g e).2; omega, fun e => by have := (h.rb.s.lt g e).2; omega, fun e => by have := (h.rb.d.lt g e).2; omega⟩
/-- Another block turns. -/
theorem Pl.far (h : Pl w B M vs vd rs rd ss dd W) {g : Nat} (hf : Free B M vs vd rs rd g) (hg : w.heap.size ≤ g) (hF : Fr (· = g) W V) : Pl w B M vs vd rs rd ss dd V :=
  ⟨h.bk.fr hF (fun e => hf.b e.symm) (fun k hk e => hf.vs (by rw [← e]; exact hk)) (fun k hk e => hf.vd (by rw [← e]; exact hk)),
   h.rb.fr hF (fun e => hf.m e.symm) (fun k hk e => hf.rs (by rw [← e]; exact hk)) (fun k hk e => hf.rd (by rw [← e]; exact hk)),
   h.ns, h.nd, h.bel.trans (hF.below h.bel.size (fun k e => by rw [e]; exact hg)), h.lo, h.BM, h.va, h.da⟩
/-- The program's servers turn. -/
theorem Pl.rbS (h : Pl w B M vs vd rs rd ss dd W) (hF : Fr (Own B vs) W V) : Rf.Rb V M rs rd (ss.map Rf.embS) (dd.map Rf.embD) :=
  h.rb.fr hF (fun e => by rcases e with e | e; have := h.BM; omega; exact (h.va M e).1 rfl) (fun k hk e => by
    rcases e with e | e
    · have := (h.rb.s.lt k hk).1; have := h.BM; omega
    · exact (h.va k e).2.1 hk) (fun k hk e => by
    rcases e with e | e
    · have := (h.rb.d.lt k hk).1; have := h.BM; omega
    · exact (h.va k e).2.2 hk)
theorem Pl.rbD (h : Pl w B M vs vd rs rd ss dd W) (hF : Fr (Own B vd) W V) : Rf.Rb V M rs rd (ss.map Rf.embS) (dd.map Rf.embD) :=
  h.rb.fr hF (fun e => by rcases e with e | e; have := h.BM; omega; exact (h.da M e).1 rfl) (fun k hk e => by
    rcases e with e | e
    · have := (h.rb.s.lt k hk).1; have := h.BM; omega
    · exact (h.da k e).2.1 hk) (fun k hk e => by
    rcases e with e | e
    · have := (h.rb.d.lt k hk).1; have := h.BM; omega
    · exact (h.da k e).2.2 hk)
theorem Pl.lowS (h : Pl w B M vs vd rs rd ss dd W) (hF : Fr (Own B vs) W V) : Below w.heap.size W V := hF.below h.bel.size (fun k e => by
  rcases e with e | e
  · have := h.lo; omega
  · have := (h.bk.s.lt k e).1; have := h.lo; omega)
theorem Pl.lowD (h : Pl w B M vs vd rs rd ss dd W) (hF : Fr (Own B vd) W V) : Below w.heap.size W V := hF.below h.bel.size (fun k e => by
  rcases e with e | e
  · have := h.lo; omega
  · have := (h.bk.d.lt k e).1; have := h.lo; omega)
/-- Servers were told to both. -/
theorem Pl.servers (h : Pl w B M vs vd rs rd ss dd W) {X : World} {v r : Value} {xs : List (List Int)} {til life : Int}
    (hb : Bk V B v vd (putAll Sv.sameT til life ss xs) dd) (hF : Fr (Own B vs) W V) (hm : ∀ k, v.ownBlock = some k → vs.ownBlock = some k ∨ W.heap.size ≤ k)
    (hr : Rf.Rb X M r rd ((putAll Sv.sameT til life ss xs).map Rf.embS) (dd.map Rf.embD)) (hG : Fr (· = M) V X) (hn : ∀ k, r.ownBlock = some k → rs.ownBlock = some k ∨ V.heap.size ≤ k) :
    Pl w B M v vd r rd (putAll Sv.sameT til life ss xs) dd X := by
  have hMW := h.rb.lt
  have hVW := hF.size
  have hlo := h.lo
  have hBM := h.BM
  have vM : ∀ k, v.ownBlock = some k → k ≠ M := fun k hk => by
    rcases hm k hk with e | e
    · exact (h.va k e).1
    · omega
  refine ⟨hb.fr hG (fun e => by omega) (fun k hk e => vM k hk e) (fun k hk e => (h.da k hk).1 e), hr, putAll_nodup svSame_symm xs h.ns, h.nd,
    h.bel.trans ((h.lowS hF).trans (hG.below (B := w.heap.size) (by have := h.bel.size; omega) (fun k e => by omega))), hlo, hBM, fun k hk => ⟨vM k hk, fun e => ?_, fun e => ?_⟩, fun k hk => ⟨(h.da k hk).1, fun e => ?_, (h.da k hk).2.2⟩⟩
  · have h1 := (hb.s.lt k hk).2
    rcases hn k e with e | e
    · rcases hm k hk with e' | e'
      · exact (h.va k e').2.1 e
      · have := (h.rb.s.lt k e).2; omega
    · omega
  · rcases hm k hk with e' | e'
    · exact (h.va k e').2.2 e
    · have := (h.rb.d.lt k e).2; omega
  · rcases hn k e with e | e
    · exact (h.da k hk).2.1 e
    · have := (h.bk.d.lt k hk).2; omega
theorem Pl.domains (h : Pl w B M vs vd rs rd ss dd W) {X : World} {v r : Value} {xs : List ByteArray} {til life : Int}
    (hb : Bk V B vs v ss (putAll Dm.sameT til life dd xs)) (hF : Fr (Own B vd) W V) (hm : ∀ k, v.ownBlock = some k → vd.ownBlock = some k ∨ W.heap.size ≤ k)
    (hr : Rf.Rb X M rs r (ss.map Rf.embS) ((putAll Dm.sameT til life dd xs).map Rf.embD)) (hG : Fr (· = M) V X) (hn : ∀ k, r.ownBlock = some k → rd.ownBlock = some k ∨ V.heap.size ≤ k) :
    Pl w B M vs v rs r ss (putAll Dm.sameT til life dd xs) X := by
  have hMW := h.rb.lt
  have hVW := hF.size
  have hlo := h.lo
  have hBM := h.BM
  have vM : ∀ k, v.ownBlock = some k → k ≠ M := fun k hk => by
    rcases hm k hk with e | e
    · exact (h.da k e).1
    · omega
  refine ⟨hb.fr hG (fun e => by omega) (fun k hk e => (h.va k hk).1 e) (fun k hk e => vM k hk e), hr, h.ns, putAll_nodup dmSame_symm xs h.nd,
    h.bel.trans ((h.lowD hF).trans (hG.below (B := w.heap.size) (by have := h.bel.size; omega) (fun k e => by omega))), hlo, hBM, fun k hk => ⟨(h.va k hk).1, (h.va k hk).2.1, fun e => ?_⟩, fun k hk => ⟨vM k hk, fun e => ?_, fun e => ?_⟩⟩
  · rcases hn k e with e | e
    · exact (h.va k hk).2.2 e
    · have := (h.bk.s.lt k hk).2; omega
  · rcases hm k hk with e' | e'
    · exact (h.da k e').2.1 e
    · have := (h.rb.s.lt k e).2; omega
  · have h1 := (hb.d.lt k hk).2
    rcases hn k e with e | e
    · rcases hm k hk with e' | e'
      · exact (h.da k e').2.2 e
      · have := (h.rb.d.lt k e).2; omega
    · omega
/-- Time went on in both. -/
theorem Pl.rbT (h : Pl w B M vs vd rs rd ss dd W) (hF : Fr (fun k => k = B ∨ vs.ownBlock = some k ∨ vd.ownBlock = some k) W V) : Rf.Rb V M rs rd (ss.map Rf.embS) (dd.map Rf.embD) :=
  h.rb.fr hF (fun e => by rcases e with e | e | e; have := h.BM; omega; exact (h.va M e).1 rfl; exact (h.da M e).1 rfl) (fun k hk e => by
    rcases e with e | e | e
    · have := (h.rb.s.lt k hk).1; have := h.BM; omega
    · exact (h.va k e).2.1 hk
    · exact (h.da k e).2.1 hk) (fun k hk e => by
    rcases e with e | e | e
    · have := (h.rb.d.lt k hk).1; have := h.BM; omega
    · exact (h.va k e).2.2 hk
    · exact (h.da k e).2.2 hk)
theorem Pl.tick (h : Pl w B M vs vd rs rd ss dd W) {X : World} {v d r q : Value} {now : Int}
    (hb : Bk V B v d (Sv.ticked now ss) (Dm.ticked now dd)) (hF : Fr (fun k => k = B ∨ vs.ownBlock = some k ∨ vd.ownBlock = some k) W V) (hm : ∀ k, v.ownBlock = some k → vs.ownBlock = some k ∨ W.heap.size ≤ k) (hmd : ∀ k, d.ownBlock = some k → vd.ownBlock = some k ∨ W.heap.size ≤ k)
    (hr : Rf.Rb X M r q ((Sv.ticked now ss).map Rf.embS) ((Dm.ticked now dd).map Rf.embD)) (hG : Fr (· = M) V X) (hn : ∀ k, r.ownBlock = some k → V.heap.size ≤ k) (hq : ∀ k, q.ownBlock = some k → V.heap.size ≤ k) :
    Pl w B M v d r q (Sv.ticked now ss) (Dm.ticked now dd) X := by
  have hMW := h.rb.lt
  have hVW := hF.size
  have hlo := h.lo
  have hBM := h.BM
  have vM : ∀ k, v.ownBlock = some k → k ≠ M := fun k hk => by
    rcases hm k hk with e | e
    · exact (h.va k e).1
    · omega
  have dM : ∀ k, d.ownBlock = some k → k ≠ M := fun k hk => by
    rcases hmd k hk with e | e
    · exact (h.da k e).1
    · omega
  refine ⟨hb.fr hG (fun e => by omega) (fun k hk e => vM k hk e) (fun k hk e => dM k hk e), hr, noDup_filter h.ns _, noDup_filter h.nd _,
    h.bel.trans ((hF.below (B := w.heap.size) h.bel.size (fun k e => by
      rcases e with e | e | e
      · omega
      · have := (h.bk.s.lt k e).1; omega
      · have := (h.bk.d.lt k e).1; omega)).trans (hG.below (B := w.heap.size) (by have := h.bel.size; omega) (fun k e => by omega))), hlo, hBM,
    fun k hk => ⟨vM k hk, fun e => by have := hn k e; have := (hb.s.lt k hk).2; omega, fun e => by have := hq k e; have := (hb.s.lt k hk).2; omega⟩,
    fun k hk => ⟨dM k hk, fun e => by have := hn k e; have := (hb.d.lt k hk).2; omega, fun e => by have := hq k e; have := (hb.d.lt k hk).2; omega⟩⟩
end
/-- A copy of a list of addresses, while it is gone through: from the j-th on it is as it was. -/
def enc16 (x : List Int) : List Value := x.map (Value.int .u8)
theorem isEnc16 : Enc enc16 16 IsAddr := ⟨fun a h => by simp [enc16, h.len], fun a v hv => by obtain ⟨y, _, rfl⟩ := List.mem_map.1 hv; rfl⟩
theorem rd16 {w : World} {p : Nat → Prop} {A : Option Addr} {n c : Nat} {xs : List (List Int)} (h : Sv.IsL w p A n c xs) (ha : A = none → c = 0) : Rd w w.heap.size 16 A n c (flatOf enc16 xs) := by
  refine ⟨by rw [isEnc16.flat_len h.ok, h.len], h.cap, h.cmax, fun e => ⟨?_, ha e⟩, fun hn => ?_⟩
  · have := h.cap; have := ha e; omega
  · obtain ⟨b, off, e, hb, _, hc⟩ := h.at_ hn
    refine ⟨b, off, e, hb, fun j u hu => ?_⟩
    have hj : j < n * 16 := by have := (List.getElem?_eq_some_iff.1 hu).1; rwa [isEnc16.flat_len h.ok, h.len] at this
    obtain ⟨x, hx⟩ : ∃ x, xs[j / 16]? = some x := ⟨_, List.getElem?_eq_getElem (by rw [h.len]; omega)⟩
    have h1 := isEnc16.flat_at h.ok hx (j % 16) (by omega)
    rw [show j / 16 * 16 + j % 16 = j by omega, hu] at h1
    have := hc (j / 16) x hx (j % 16) u h1.symm
    rwa [show off + j / 16 * 16 + j % 16 = off + j by omega] at this
structure Cp (lo : Nat) (W : World) (A : Option Addr) (n c : Nat) (xs : List (List Int)) (j : Nat) : Prop where
  own : ∃ ys : List (List Int), W.ownsRow lo 31 16 (.slice A n c) n (flatOf enc16 ys) ∧ ys.length = n ∧ (∀ y ∈ ys, IsAddr y) ∧ ∀ i, j ≤ i → ys[i]? = xs[i]?
theorem Cp.to {lo : Nat} {W V : World} {A : Option Addr} {n c j : Nat} {xs : List (List Int)} (h : Cp lo W A n c xs j) {S : Nat → Prop} (hF : Fr S W V) (hS : ∀ g, A = some ⟨g, 0, none⟩ → ¬ S g) : Cp lo V A n c xs j := by
  obtain ⟨ys, h1, h2⟩ := h.own
  refine ⟨ys, ownRow_fr h1 hF (fun k hk => ?_), h2⟩
  rcases h1.2 with ⟨h', _⟩ | ⟨g, cap, cur, h', _⟩
  · rw [h'] at hk; cases hk
  · injection h' with e1 e2 e3
    rw [e1] at hk
    simp only [Value.ownBlock, Option.some.injEq] at hk
    have hk' : g = k := by simpa using hk
    rw [← hk']
    exact hS g e1
theorem cp_isL {lo : Nat} {W : World} {A : Option Addr} {n c : Nat} {xs : List (List Int)} (h : W.ownsRow lo 31 16 (.slice A n c) n (flatOf enc16 xs)) (hl : xs.length = n) (ho : ∀ x ∈ xs, IsAddr x) : Sv.IsL W (fun k => lo ≤ k) A n c xs := by
  have hr := Rd.of_own h
  refine ⟨hr.cap, hr.cmax, hl, ho, fun hn => ?_⟩
  obtain ⟨g, c', hA, hbg, hgl⟩ := own_pos h hn
  injection hA with e1 e2 e3
  subst e1 e3
  refine ⟨g, 0, rfl, hgl, hbg, fun j x hx => ?_⟩
  have := own_range h isEnc16 hl ho hx
  rwa [← Nat.zero_add (j * 16)] at this
structure CpD (lo : Nat) (W : World) (A : Option Addr) (n c : Nat) (xs : List ByteArray) (j : Nat) : Prop where
  own : ∃ ys : List ByteArray, W.ownsRow lo 9 1 (.slice A n c) n (St.flat ys) ∧ ys.length = n ∧ ∀ i, j ≤ i → ys[i]? = xs[i]?
theorem CpD.to {lo : Nat} {W V : World} {A : Option Addr} {n c j : Nat} {xs : List ByteArray} (h : CpD lo W A n c xs j) {S : Nat → Prop} (hF : Fr S W V) (hS : ∀ g, A = some ⟨g, 0, none⟩ → ¬ S g) : CpD lo V A n c xs j := by
  obtain ⟨ys, h1, h2⟩ := h.own
  refine ⟨ys, ownRow_fr h1 hF (fun k hk => ?_), h2⟩
  rcases h1.2 with ⟨h', _⟩ | ⟨g, cap, cur, h', _⟩
  · rw [h'] at hk; cases hk
  · injection h' with e1 e2 e3
    rw [e1] at hk
    simp only [Value.ownBlock, Option.some.injEq] at hk
    have hk' : g = k := by simpa using hk
    rw [← hk']
    exact hS g e1
theorem cpD_isL {lo : Nat} {W : World} {A : Option Addr} {n c : Nat} {xs : List ByteArray} (h : W.ownsRow lo 9 1 (.slice A n c) n (St.flat xs)) (hl : xs.length = n) : Dm.IsL W (fun k => lo ≤ k) A n c xs := by
  have hr := Rd.of_own h
  refine ⟨hr.cap, hr.cmax, hl, fun hn => ?_⟩
  obtain ⟨g, c', hA, hbg, hgl⟩ := own_pos h hn
  injection hA with e1 e2 e3
  subst e1 e3
  refine ⟨g, 0, rfl, hgl, hbg, fun j x hx => ?_⟩
  have := own_range h St.isEnc hl (fun _ _ => trivial) hx
  rwa [← Nat.zero_add (j * 1)] at this

/-- While the law looks whether a list stayed. -/
structure Lp (w : World) (B M bx : Nat) (a : ActV) (vs vd rs rd : Value) (ss : List Sv.E) (dd : List Dm.E) (W : World) : Prop where
  pl : Pl w B M vs vd rs rd ss dd W
  x : Blk W bx 42 a.cells.toArray
  act : IsAct W w.heap.size a
  lo : w.heap.size ≤ bx
theorem Lp.to {w W V : World} {B M bx : Nat} {a : ActV} {vs vd rs rd : Value} {ss : List Sv.E} {dd : List Dm.E} (h : Lp w B M bx a vs vd rs rd ss dd W) (hb : Below W.heap.size W V) : Lp w B M bx a vs vd rs rd ss dd V :=
  ⟨h.pl.to hb, h.x.below hb h.x.lt, h.act.to h.pl.bel.size (hb.mono h.pl.bel.size), h.lo⟩
theorem Lp.draw {w W : World} {B M bx : Nat} {a : ActV} {vs vd rs rd : Value} {ss : List Sv.E} {dd : List Dm.E} (h : Lp w B M bx a vs vd rs rd ss dd W) : Lp w B M bx a vs vd rs rd ss dd W.drew := h.to (Below.refl _ W).drew
theorem Lp.far {w W V : World} {B M bx : Nat} {a : ActV} {vs vd rs rd : Value} {ss : List Sv.E} {dd : List Dm.E} (h : Lp w B M bx a vs vd rs rd ss dd W) {g : Nat} (hf : Free B M vs vd rs rd g) (hg : bx < g) (hF : Fr (· = g) W V) : Lp w B M bx a vs vd rs rd ss dd V :=
  ⟨h.pl.far hf (by have := h.lo; omega) hF, h.x.fr hF (by omega), h.act.to h.pl.bel.size (hF.below h.pl.bel.size (fun k e => by have := h.lo; omega)), h.lo⟩
end Go.Proofs.Ytajlgglknianlaa
