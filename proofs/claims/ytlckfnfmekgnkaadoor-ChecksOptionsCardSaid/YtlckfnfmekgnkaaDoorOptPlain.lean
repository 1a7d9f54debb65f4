/- A list of options as a call makes it; what a message's options change. No condition. -/
import Derived.Test.YtlckfnfmekgnkaaDoorGreat
namespace Go.Proofs.YtlckfnfmekgnkaaDoor
open Go.ChangeShapes Go.WideShapes Go.ChangeAt Go.RowKit Go.Deep
set_option linter.unusedVariables false

section
variable {w W : World} {B B' : Nat} {cs : Array Value} {m : Ms}
theorem MsIn.to (h : MsIn w B cs m) (hb : Below B w W) (hB : B ≤ B') : MsIn W B' cs m := by
  obtain ⟨A, n, c, xs, h1, h2⟩ := h.ops
  obtain ⟨A', n', c', xs', h3, h4⟩ := h.recs
  exact ⟨h.is.to hb hB, h.data, h.sources, ⟨A, n, c, xs, h1, ⟨(h2.rd.below hb).more hB, h2.len, h2.at_, h2.room, h2.rng⟩⟩, ⟨A', n', c', xs', h3, ⟨(h4.rd.below hb).more hB, h4.at_⟩⟩⟩
end

theorem T31 : SlTy Tryd.prog 31 46 2 32 := .mk_ (z := .agg #[.int .u8 0, .slice none 0 0]) Tryd.underlying31 (by kernel_rfl) rfl (by omega)
def optsV : List Int → Value → List Value
  | [], _ => []
  | k :: ks, s => .int .u8 k :: s :: optsV ks s
theorem optsV_append (ks ls : List Int) (s : Value) : optsV (ks ++ ls) s = optsV ks s ++ optsV ls s := by
  induction ks with
  | nil => rfl
  | cons k ks ih => simp [optsV, ih]
theorem optsV_at : ∀ (ks : List Int) (s : Value) (i : Nat) (k : Int), ks[i]? = some k → (optsV ks s)[i * 2]? = some (.int .u8 k) ∧ (optsV ks s)[i * 2 + 1]? = some s
  | [], _, i, k, h => by simp at h
  | x :: ks, s, 0, k, h => by simp at h; subst h; exact ⟨rfl, rfl⟩
  | x :: ks, s, i + 1, k, h => by
    simp at h
    have := optsV_at ks s i k h
    rw [show (i + 1) * 2 = i * 2 + 1 + 1 by omega]
    exact this
theorem take_snoc {ks : List Int} {j : Nat} {k : Int} (h : ks[j]? = some k) : ks.take (j + 1) = ks.take j ++ [k] := by rw [List.take_add_one, h]; rfl

section
variable {w W V : World} {base size n : Nat} {e : TypeId} {v : Value} {xs : List Value}
theorem own_al (h : w.ownsRow base e size v n xs) (o : Obj) : (w.alloc o).ownsRow base e size v n xs := ownRow_fr h ((Fr.refl (fun _ => False) w).alloc o) (fun _ _ e => e)
theorem own_drew (h : w.ownsRow base e size v n xs) : w.drew.ownsRow base e size v n xs := h
theorem own_far (h : w.ownsRow base e size v n xs) {g i : Nat} (hg : g < base) (u : Value) : (w.setCell ⟨g, i, none⟩ u).ownsRow base e size v n xs :=
  ownRow_fr h ((Fr.refl (· = g) w).setB u) (fun k hk e => by have := (h.lt k hk).1; omega)
theorem grown_below (ho : w.ownsRow base e size v n xs) (hg : w.grownBy W v.ownBlock) (hb : base ≤ w.heap.size) : Below base w W :=
  (Fr.of_grown hg).below hb (fun k hk => (ho.lt k hk).1)
end

theorem Kp.base {w W V : World} {L : List (Nat × TypeId × Array Value)} (h : Kp w W L) {B : Nat} (hb : Below B W V) (hB : ∀ x ∈ L, x.1 < B) (hw : w.heap.size ≤ B) : Kp w V L :=
  ⟨h.bel.trans (hb.mono hw), fun k x hk => ⟨(h.blk k x hk).1, (h.blk k x hk).2.below hb (hB x (List.mem_of_getElem? hk))⟩, h.inc⟩

theorem ops_own {W : World} {base n : Nat} {v : Value} {ks : List Int} {A : Option Addr} {m c : Nat} (h : W.ownsRow base 46 2 v n (optsV ks (.slice A m c))) (hn : ks.length = n) : IsOps W W.heap.size v ks := by
  obtain ⟨A', c', rfl⟩ := slice_of_own h
  refine ⟨A', n, c', _, rfl, Rd.of_own h, hn, fun i k hk => ?_⟩
  obtain ⟨h1, h2⟩ := optsV_at ks (.slice A m c) i k hk
  exact ⟨h1, A, m, c, h2⟩

theorem valid_ks {p : Pk} {m : Ms} {ks : List Int} (h : ks.any (· == 1) = m.ks.any (· == 1)) : valid p { m with ks := ks } = valid p m := by
  have ht : tells { m with ks := ks } = tells m := h
  have h1 : solicits p { m with ks := ks } = solicits p m := by unfold solicits; rw [ht]
  have h2 : asks p { m with ks := ks } = asks p m := by unfold asks; rw [h1]
  have key : ∀ (x : Int) (f : Pk → Ms → Bool), rule m.kind = some (x, f) → f p { m with ks := ks } = f p m := by
    intro x f he
    unfold rule at he
    repeat' split at he
    all_goals first | (cases he; done) | (injection he with he; injection he with e1 e2; subst e1 e2; first | exact h1 | exact h2 | rfl)
  unfold valid
  show (match rule m.kind with | none => true | some (h, f) => p.hops == h && m.code == 0 && f p { m with ks := ks }) = _
  cases hr : rule m.kind with
  | none => rfl
  | some y => obtain ⟨x, f⟩ := y; dsimp only; rw [key x f hr]

theorem wpList_store_vals {P : Program} {W : World} {ops : Array Oper} {rest : List Oper} {o : Oper} {a : Act} {Q : Exit → Act → World → Prop} (hgd : o.guard = none) (hd : o.dst = none) (ty : TypeId) (x y : Operand) (ho : o.op = .store ty x y)
    (b off : Nat) (l : List Value) (hx : a.eval x = .pointer (some ⟨b, off, none⟩)) (hy : a.eval y = .agg l.toArray)
    (ht : W.there b off l.length) (hi : (P.info? ty).map (·.size) = some l.length) (h1 : ∀ v ∈ l, v.oneCell' = true)
    (h : wpList P ops Q rest a (W.setCells b off l)) : wpList P ops Q (o :: rest) a W := by
  refine wpList_store_mid (P := P) hgd ty x y ho b off l.toArray hx hy (by simpa using ht) (by simpa using hi) (all_oneCell_toArray h1) (by rw [hd]; simpa [Act.put] using h)
theorem IsPk.overs {cs : Array Value} {p : Pk} (h : IsPk cs p) (vs : List Value) (hv : ∀ v ∈ vs, v.oneCell' = true) {o : Nat} (ho : 34 ≤ o) : IsPk (over cs o vs) p := by
  have h1 := h.srcA.len
  have h2 := h.dstA.len
  exact ⟨by rw [over_size]; exact h.size, ones_over _ _ h.ones hv, h.srcA, h.dstA, h.src.overs _ (by omega), h.dst.overs _ (by omega), over_other h.hops (by omega), h.hr, over_other h.alert (by omega)⟩
theorem any_snoc {ks : List Int} {k : Int} (h : k ≠ 1) : (ks ++ [k]).any (· == 1) = ks.any (· == 1) := by simp [h]

theorem frOnes : ∀ v ∈ [Value.bool true, .int .u32 7, .int .u16 0, .bool false], v.oneCell' = true := by
  intro v hv
  simp only [List.mem_cons, List.not_mem_nil, or_false] at hv
  rcases hv with rfl | rfl | rfl | rfl <;> rfl
theorem room_one {s : Value} {w : World} {k : Int} : Rd (w.alloc (.cells #[.int .u8 k, s] 46)) (w.heap.size + 1) 2 (some ⟨w.heap.size, 0, none⟩) 1 1 [.int .u8 k, s] :=
  (Blk.new w 46 #[.int .u8 k, s]).rd 2 1 1 rfl (Nat.le_refl _) (by decide) (by omega)
end Go.Proofs.YtlckfnfmekgnkaaDoor
