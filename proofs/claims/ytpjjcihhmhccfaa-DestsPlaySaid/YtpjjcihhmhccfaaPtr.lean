/- A row of pointers: those that are another one are left, a copy; each function walked once. No condition. -/
import Derived.Test.YtpjjcihhmhccfaaClock
import Derived.Test.YtpjjcihhmhccfaaFlat
import Derived.Test.YtpjjcihhmhccfaaTail
import Derived.Deep.RegionLaw
import Derived.Deep.RegionWith
import Derived.WalkSpells
import Derived.LaidEqlPtr
namespace Go.Proofs.Ytpjjcihhmhccfaa
open Go.ChangeShapes Go.WideShapes Go.ChangeAt Go.RowKit Go.Deep
set_option linter.unusedVariables false
set_option linter.unusedSimpArgs false

abbrev ptr (p : Nat) : Value := .pointer (some ⟨p, 0, none⟩)
def encP (p : Nat) : List Value := [ptr p]
theorem isEncP : Enc encP 1 (fun _ => True) where
  len := fun a h => rfl
  one := fun a v hv => by
    simp only [encP, List.mem_cons, List.not_mem_nil, or_false] at hv
    subst hv; rfl
abbrev flatP (es : List Nat) : List Value := flatOf encP es
abbrev leftP (x : Nat) (es : List Nat) : List Nat := es.filter fun e => !(e == x)
theorem left_snoc {x : Nat} {es : List Nat} {j : Nat} {e : Nat} (h : es[j]? = some e) : leftP x (es.take (j + 1)) = leftP x (es.take j) ++ if (e == x) then [] else [e] := by
  rw [leftP, List.take_add_one, h, List.filter_append]
  cases hp : e == x <;> simp [hp]
theorem left_any {x : Nat} {es : List Nat} (h : es.any (fun e => e == x) = false) : leftP x es = es := by
  rw [leftP, List.filter_eq_self]
  intro a ha
  simp only [List.any_eq_false] at h
  simpa using h a ha
structure Mid (W : World) (base g n c : Nat) (x : Nat) (es : List Nat) (j : Nat) (ds : List Nat) : Prop where
  own : W.ownsRow base 61 1 (.slice (some ⟨g, 0, none⟩) n c) n (flatP ds)
  len : ds.length = n
  low : ds.take (leftP x (es.take j)).length = leftP x (es.take j)
  high : ∀ k, j ≤ k → ds[k]? = es[k]?
theorem Mid.keep {W V : World} {base g n c : Nat} {x : Nat} {es ds : List Nat} {j : Nat} {e : Nat} (h : Mid W base g n c x es j ds) (hl : es.length = n) (he : es[j]? = some e) (hp : (e == x) = false) (hlt : (leftP x (es.take j)).length < j)
    (hown : V.ownsRow base 61 1 (.slice (some ⟨g, 0, none⟩) n c) n (flatP (ds.set (leftP x (es.take j)).length e))) :
    Mid V base g n c x es (j + 1) (ds.set (leftP x (es.take j)).length e) := by
  have hj := (List.getElem?_eq_some_iff.1 he).1
  have hln := h.len
  have hs := left_snoc (x := x) he
  rw [hp] at hs
  simp only [Bool.false_eq_true, if_false] at hs
  refine ⟨hown, by simpa using h.len, ?_, ?_⟩
  · rw [hs, List.length_append, List.length_singleton, List.take_set, List.take_add_one, List.set_append_right _ _ (by rw [List.length_take]; omega), List.length_take, h.low]
    rw [show (leftP x (es.take j)).length - min (leftP x (es.take j)).length ds.length = 0 by omega]
    obtain ⟨d, hd⟩ : ∃ d, ds[(leftP x (es.take j)).length]? = some d := ⟨_, List.getElem?_eq_getElem (by omega)⟩
    rw [hd]
    rfl
  · intro k hk
    rw [List.getElem?_set_ne (by omega)]
    exact h.high k (by omega)
theorem Mid.skip {W : World} {base g n c : Nat} {x : Nat} {es ds : List Nat} {j : Nat} {e : Nat} (h : Mid W base g n c x es j ds) (he : es[j]? = some e) (hp : (e == x) = true) : Mid W base g n c x es (j + 1) ds := by
  have hs := left_snoc (x := x) he
  rw [hp] at hs
  simp only [if_true, List.append_nil] at hs
  exact ⟨h.own, h.len, by rw [hs]; exact h.low, fun k hk => h.high k (by omega)⟩

theorem infoE : (Try.prog.info? 33).map (fun i => decide (i.size ≠ 0)) = some true := by kernel_rfl
theorem eqp {W : World} {p x : Nat} {tp tx : TypeId} {cp cx : Array Value} (h1 : Blk W p tp cp) (h2 : Blk W x tx cx) : (binOp .eql 61 (ptr p) (ptr x)).run Try.prog W = .ok (.bool (p == x)) W := by
  cases hi : Try.prog.info? 33 with
  | none => have := infoE; rw [hi] at this; cases this
  | some j =>
    have hs : j.size ≠ 0 := by have := infoE; rw [hi] at this; simp at this; exact this
    by_cases he : p = x
    · subst he
      have := run_eql_ptr_same (P := Try.prog) (w := W) (tp := 61) ⟨p, 0, none⟩ Try.underlying61 hi
      simpa using this
    · have := run_eql_ptr_other (P := Try.prog) (w := W) (tp := 61) (a := ⟨p, 0, none⟩) (b := ⟨x, 0, none⟩) Try.underlying61 hi hs (fun h => he (Addr.mk.inj h).1) h1 h2
      rw [beq_eq_false_iff_ne.2 he]
      exact this
/-- Blocks that are there. -/
def There (W : World) (p : Nat) : Prop := ∃ t cs, Blk W p t cs
theorem There.fr {w W : World} {p : Nat} {S : Nat → Prop} (h : There w p) (hf : Fr S w W) (hS : ¬ S p) : There W p := by
  obtain ⟨t, cs, h⟩ := h
  exact ⟨t, cs, h.fr hf hS⟩
/-- Is it this one? -/
theorem same_any (W : World) (q x e : Nat) (hq : W.cell? ⟨q, 0, none⟩ = some (ptr x)) (hx : There W x) (he : There W e) : Calls Try.prog 42 #[ptr e, ptr q] W fun r w' => r = .returned (.bool (e == x)) ∧ W = w' := by
  obtain ⟨t1, c1, h1⟩ := hx
  obtain ⟨t2, c2, h2⟩ := he
  have hE := hidd (eqp h2 h1)
  clear h1 h2
  have hE2 := hE.out
  go_enter Try.func42, Try.ntmps42
  go_wp2
  go_ret
  exact ⟨rfl, rfl⟩

abbrev IsKP := Ls encP 1 (fun _ => True)
set_option maxRecDepth 100000 in
theorem indexP_any (w : World) (A : Option Addr) (n c q x : Nat) (es : List Nat) (h : IsKP w w.heap.size A n c es) (hq : w.cell? ⟨q, 0, none⟩ = some (ptr x)) (hx : There w x) (hes : ∀ e ∈ es, There w e) :
    Calls Try.prog 44 #[.slice A n c, .func (.func 42) #[] #[ptr q]] w fun e w' => e = .returned (.int .i64 (idx (fun e => e == x) es)) ∧ w = w' := by
  have hcall := hidd (fun (e : Nat) (he : e ∈ es) => same_any w q x e hq hx (hes e he))
  clear hq
  have hcm := h.rd.cmax
  have hcn := h.rd.cap
  have hl := h.len
  unfold maxLen at hcm
  go_enter Try.func44, Try.ntmps44
  go_wp2
  go_loop [8] (fun i => ∃ j : Nat, j ≤ n ∧ i = .int .i64 j ∧ (es.take j).any (fun e => e == x) = false) (fun i => n - (intOf i).toNat)
  case atStart => exact ⟨0, Nat.zero_le _, rfl, rfl⟩
  case round =>
    obtain ⟨j, hj, rfl, hno⟩ := hrel
    by_cases hjn : j < n
    · obtain ⟨b, off, rfl, hblt, hr⟩ := h.range isEncP (by omega)
      obtain ⟨e, he⟩ : ∃ e, es[j]? = some e := ⟨es[j]'(by omega), List.getElem?_eq_getElem _⟩
      have c1 : w.cell? ⟨b, off + j, none⟩ = some (ptr e) := by have := hr j e he 0 _ rfl; rwa [Nat.mul_one, Nat.add_zero] at this
      have ht := take_any he hno
      clear hr h
      have hC := hidd (hcall.out e (List.mem_of_getElem? he))
      cases hpe : (e == x)
      · rw [hpe] at ht hC
        go_wp2_with (refine Calls.mono hC.out ?_; rintro r w2 ⟨rfl, rfl⟩)
        go_round
        case rel => exact ⟨j + 1, by omega, by go_num, ht⟩
        case measure => simp [intOf]; omega
      · rw [hpe] at hC
        go_wp2_with (refine Calls.mono hC.out ?_; rintro r w2 ⟨rfl, rfl⟩)
        go_ret
        exact ⟨by rw [idx_at he hpe hno]; rfl, rfl⟩
    · have hjn' : j = n := by omega
      subst hjn'
      go_wp2
      go_ret
      rw [List.take_of_length_le (by omega)] at hno
      exact ⟨by rw [idx_none hno]; rfl, rfl⟩

theorem zeroE (w : World) : (zeroValue 61).run Try.prog w = .ok (.pointer none) w := by
  obtain ⟨i, hi, h1, _⟩ := info_parts (P := Try.prog) (e := 61) (z := .pointer none) (size := 1) (bytes := 8) (by kernel_rfl)
  simp [zeroValue, typeInfo, hi, h1]
theorem slTy : SlTy Try.prog 55 61 1 8 := .mk_ (z := .pointer none) Try.underlying55 (by kernel_rfl) rfl (by omega)

set_option maxRecDepth 100000 in
set_option maxHeartbeats 1000000 in
theorem dropP_any (w : World) (base : Nat) (v : Value) (n q x : Nat) (es : List Nat) (h : w.ownsRow base 61 1 v n (flatP es)) (hq : Blk w q 61 #[ptr x]) (hx : There w x) (hes : ∀ e ∈ es, There w e) (hqv : v.ownBlock ≠ some q) (hxv : v.ownBlock ≠ some x) (hev : ∀ e ∈ es, v.ownBlock ≠ some e) :
    Calls Try.prog 41 #[v, .func (.func 42) #[] #[ptr q]] w fun e w' => ∃ v', e = .returned v' ∧
      w'.ownsRow base 61 1 v' (leftP x es).length (flatP (leftP x es)) ∧ Fr (fun k => v.ownBlock = some k) w w' ∧ ∀ k, v'.ownBlock = some k → v.ownBlock = some k := by
  have hl : es.length = n := by have := h.1; rw [isEncP.flat_len (fun _ _ => trivial)] at this; omega
  obtain ⟨A, c, rfl, hrd⟩ := own_rd h
  have hI := hidd (indexP_any w A n c q x es ⟨hrd, hl, fun _ _ => trivial⟩ (hq.at_ rfl) hx hes)
  have hcm := hrd.cmax
  have hcn := hrd.cap
  have hO := hidd h
  unfold maxLen at hcm
  have hcall : Hid (∀ (W : World) (e : Nat), Fr (fun k => (Value.slice A n c).ownBlock = some k) w W → e ∈ es → Calls Try.prog 42 #[ptr e, ptr q] W fun r w' => r = .returned (.bool (e == x)) ∧ W = w') := fun W e hW he =>
    same_any W q x e ((hq.fr hW hqv).at_ rfl) (hx.fr hW hxv) ((hes e he).fr hW (hev e he))
  clear hq hx hes hqv hxv hev
  rcases idx_cases (p := fun e => e == x) es with ⟨hix, hno⟩ | ⟨j0, e0, hix, he0, hp0, hno⟩
  · rw [hix] at hI
    have hlv := left_any hno
    clear h hrd hno
    go_enter Try.func41, Try.ntmps41
    go_wp2_with (go_at_call 44; refine Calls.mono hI.out ?_; rintro e w2 ⟨rfl, rfl⟩)
    go_ret
    exact ⟨_, rfl, by rw [hlv, hl]; exact hO.out, Fr.refl _ _, fun k hk => hk⟩
  · rw [hix] at hI
    have hne1 : ((j0 : Int) == -1) = false := beq_eq_false_iff_ne.2 (by omega)
    have hj0 := (List.getElem?_eq_some_iff.1 he0).1
    obtain ⟨g, cg, hA, hbg, hgl⟩ := own_pos h (by omega)
    injection hA with hA hA2 hA3
    subst hA hA3
    have hlow : leftP x (es.take (j0 + 1)) = es.take j0 := by rw [left_snoc he0, left_any hno, hp0]; simp
    have hll : (es.take j0).length = j0 := by rw [List.length_take]; omega
    have M0 : Hid (Mid w base g n c x es (j0 + 1) es) := ⟨h, hl, by rw [hlow, hll], fun k _ => rfl⟩
    clear h hp0 hno hrd
    go_enter Try.func41, Try.ntmps41
    go_wp2_with (go_at_call 44; refine Calls.mono hI.out ?_; rintro e w2 ⟨rfl, rfl⟩)
    go_loopw [5, 6] (fun i jv wr => ∃ (j : Nat) (ds : List Nat), jv = .int .i64 j ∧ j ≤ n ∧ i = .int .i64 ((leftP x (es.take j)).length : Nat) ∧ (leftP x (es.take j)).length < j ∧ Mid wr base g n c x es j ds ∧ Fr (fun k => (Value.slice (some ⟨g, 0, none⟩) n c).ownBlock = some k) w wr) (fun _ jv _ => n - (intOf jv).toNat)
    case atStart => exact ⟨j0 + 1, es, by go_num, by omega, by rw [hlow, hll], by rw [hlow, hll]; omega, M0.out, Fr.refl _ _⟩
    case round =>
      obtain ⟨j, ds, rfl, hjn, rfl, hlt, hM, hF⟩ := hrel
      clear M0 hI hix
      obtain ⟨k, hk⟩ : ∃ k, (leftP x (es.take j)).length = k := ⟨_, rfl⟩
      rw [hk] at hlt ⊢
      have hdl := hM.len
      by_cases hj : j < n
      · obtain ⟨e, he⟩ : ∃ e, es[j]? = some e := ⟨_, List.getElem?_eq_getElem (by omega)⟩
        have c1 : wr.cell? ⟨g, j, none⟩ = some (ptr e) := by
          have := own_range hM.own isEncP hM.len (fun _ _ => trivial) (j := j) (e := e) (by rw [hM.high j (Nat.le_refl _)]; exact he) 0 _ rfl
          rwa [Nat.mul_one, Nat.add_zero] at this
        have f1 := hM.own.frozenAt k
        have cs1 := (own_there hM.own (o := k) (k := 1) (by omega) 0 (by omega)).1
        have hM' := hidd hM
        have hF' := hidd hF
        have hq : (j : Int) < (n : Int) := by omega
        clear hM hF he0
        have he' := hidd he
        clear he
        have hC := hidd (fun (W : World) (hW : Fr (fun k => (Value.slice (some ⟨g, 0, none⟩) n c).ownBlock = some k) w W) => hcall.out W e hW (List.mem_of_getElem? he'.out))
        have hC1 := hidd (hC.out _ hF'.out)
        cases hpe : (e == x)
        · have hi : k < n := by omega
          have hkn : (k : Int) < (n : Int) := by omega
          obtain ⟨u, hu⟩ := Option.isSome_iff_exists.1 cs1
          clear cs1
          rw [Nat.add_zero] at hu
          have F3 := hidd (hF'.out.trans (show Fr (fun k => (Value.slice (some ⟨g, 0, none⟩) n c).ownBlock = some k) wr (wr.setCell ⟨g, k, none⟩ (ptr e)) from ((Fr.refl (· = g) wr).setB _).mono (fun k _ hk => by rw [hk]; rfl)))
          have M3 := hidd (hM'.out.keep hl he'.out hpe (by rw [hk]; exact hlt) (V := wr.setCell ⟨g, k, none⟩ (ptr e)) (by
            have := own_store hM'.out.own isEncP (fun _ _ => trivial) (j := k) (e := e) trivial (by omega)
            rw [hk]
            rwa [Nat.mul_one] at this))
          go_wp2_with (refine Calls.mono hC1.out ?_; rintro r w2 ⟨rfl, rfl⟩; rw [hpe])
          go_roundw
          case rel => exact ⟨j + 1, _, by go_num, by omega, by rw [left_snoc he'.out, hpe, List.length_append, hk]; go_num, by rw [left_snoc he'.out, hpe, List.length_append, hk]; simp; omega, M3.out, F3.out⟩
          case measure => simp [intOf]; omega
        · go_wp2_with (refine Calls.mono hC1.out ?_; rintro r w2 ⟨rfl, rfl⟩; rw [hpe])
          go_roundw
          case rel => exact ⟨j + 1, ds, by go_num, by omega, by rw [left_snoc he'.out, hpe]; simp [hk], by rw [left_snoc he'.out, hpe]; simp; omega, hM'.out.skip he'.out hpe, hF'.out⟩
          case measure => simp [intOf]; omega
      · have hjn' : j = n := by omega
        subst hjn'
        have hfull : es.take j = es := List.take_of_length_le (by omega)
        rw [hfull] at hk
        have hlow := hM.low
        rw [hfull, hk] at hlow
        obtain ⟨vs, hcl⟩ := run_clear_own (P := Try.prog) wr Try.underlying55 zeroE (size := 1) rfl (by decide) g (k * 1) (j - k) (c - k) (by omega) (by omega) (own_there hM.own (by rw [← Nat.add_mul]; exact Nat.mul_le_mul_right _ (by omega)))
        have o3 := hidd (own_past (own_cut hM.own (m := k) (by omega)) (Nat.le_refl _) vs)
        rw [isEncP.flat_take (fun _ _ => trivial), hlow] at o3
        have f3 := hidd (hF.trans ((fr_cells wr g vs (k * 1)).mono (fun k _ hk => by rw [hk]; rfl)))
        rw [Nat.mul_one] at hcl o3 f3
        have hne : ¬ c = k := by omega
        have q5 : k ≤ j := by omega
        have q6 : k ≤ c := by omega
        clear hM hF hO hlow
        go_wp2
        go_ret
        exact ⟨_, rfl, by rw [hk]; exact o3.out, f3.out, fun k hk => hk⟩

theorem own_made (w : World) (t : TypeId) (size : Nat) : (w.alloc (.cells #[] t)).ownsRow w.heap.size t size (.slice (some ⟨w.heap.size, 0, none⟩) 0 0) 0 [] :=
  World.ownsRow_made w #[] 0 (Nat.le_refl _) (Nat.zero_le _) (by simp)
set_option maxRecDepth 100000 in
theorem cloneP_any (w : World) (A : Option Addr) (n c : Nat) (xs : List Value) (h : Rd w w.heap.size 1 A n c xs) (h1 : ∀ u ∈ xs, u.oneCell' = true) (hn : n * 8 ≤ 140737488355328) :
    Calls Try.prog 37 #[.slice A n c] w fun e w' => ∃ v', e = .returned v' ∧ w'.ownsRow w.heap.size 61 1 v' n xs ∧ Below w.heap.size w w' := by
  have q22 : ∀ (w : World) (a : Option Addr) (n c n' c' : Nat), (binOp .eql 55 (.slice a n c) (.slice none n' c')).run Try.prog w = .ok (.bool a.isNone) w := fun w a n c n' c' => Lib.run_eql_slice_nil w _ _ a n c n' c' Try.underlying55
  cases A with
  | none =>
    obtain ⟨h0, _⟩ := h.nil_ rfl
    have hx : xs = [] := List.eq_nil_of_length_eq_zero (by rw [h.len, h0])
    subst h0 hx
    clear h hn h1
    go_enter Try.func37, Try.ntmps37
    go_wp2
    go_ret
    exact ⟨_, rfl, World.ownsRow_nil _ _ _ _, Below.refl _ _⟩
  | some ad =>
    have hcm := h.cmax
    have hcn := h.cap
    have hr := hidd (h.below ((Below.refl w.heap.size w).alloc (Nat.le_refl _) (.cells #[] 61)))
    have ho := hidd (own_made w 61 1)
    have b1 := hidd ((Below.refl w.heap.size w).alloc (Nat.le_refl _) (.cells #[] 61))
    have h1' := hidd h1
    unfold maxLen at hcm
    clear h h1
    go_enter Try.func37, Try.ntmps37
    go_wp2_with (at_builtin
                 refine wpList_append_rd (v := .slice (some ⟨w.heap.size, 0, none⟩) 0 0) (w.alloc (.cells #[] 61)) rfl (.tmp 5) (.tmp 6) slTy rfl rfl ho.out rfl hr.out h1'.out (by unfold maxLen; omega) (by omega) (by simp) ?_
                 intro v5 w5 o5 g5 t5 l5
                 clear l5 t5
                 have b5 := hidd (b1.out.trans (grown_below ho.out g5 (by simp)))
                 have o6 := hidd o5
                 clear o5 g5 b1 ho hr)
    go_ret
    refine ⟨_, rfl, ?_, b5.out⟩
    have := o6.out
    rwa [Nat.zero_add, List.nil_append] at this
end Go.Proofs.Ytpjjcihhmhccfaa
