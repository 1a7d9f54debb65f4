/- Routers, as they lie in memory; the predicates over them; Delete, Clone, Clip, IndexFunc: each function walked once. No condition. -/
import Derived.Test.YtnchjbgfmkmbaaaClock
import Derived.Test.YtnchjbgfmkmbaaaFlat
import Derived.Test.YtnchjbgfmkmbaaaTail
import Derived.Deep.RegionLaw
import Derived.WalkSpells
namespace Go.Proofs.Ytnchjbgfmkmbaaa
open Go.ChangeShapes Go.WideShapes Go.ChangeAt Go.RowKit Go.Deep
set_option linter.unusedVariables false
set_option linter.unusedSimpArgs false

abbrev E := List Int × Int × Int
def enc (x : E) : List Value := x.1.map (Value.int .u8) ++ [.int .i64 x.2.1, .int .u64 x.2.2]
structure IsE (e : E) : Prop where
  addr : IsAddr e.1
  rlo : -1 ≤ e.2.1
  rhi : e.2.1 ≤ 1
  lo : 0 ≤ e.2.2
  hi : e.2.2 ≤ 18446744073709551615
theorem isEnc : Enc enc 18 IsE where
  len := fun a h => by simp [enc, h.addr.len]
  one := fun a v hv => by
    simp only [enc, List.mem_append, List.mem_map, List.mem_cons, List.not_mem_nil, or_false] at hv
    rcases hv with ⟨x, _, rfl⟩ | rfl | rfl <;> rfl
abbrev flat (es : List E) : List Value := flatOf enc es
def encV (e : E) : Array Value := (enc e).toArray
theorem infoE : (Try.prog.info? 48).map (·.size) = some 18 := by kernel_rfl
theorem info23 : (Try.prog.info? 23).map (·.size) = some 16 := by kernel_rfl
theorem size_a {l : List Int} (h : IsAddr l) : (Try.prog.info? 23).map (·.size) = some (bytesV l).size := by rw [bytesV_size, h.len]; exact info23
theorem size_enc {e : E} (h : IsE e) : (Try.prog.info? 48).map (·.size) = some (encV e).size := by rw [encV, List.size_toArray, isEnc.len e h]; exact infoE
theorem encV_size {e : E} (h : IsE e) : (encV e).size = 18 := by rw [encV, List.size_toArray, isEnc.len e h]
theorem ones_enc (e : E) : (encV e).all (·.oneCell') = true := all_oneCell_toArray (isEnc.one e)
theorem at_enc {e : E} (h : IsE e) : At (encV e) 0 e.1 := fun j y hy => by
  have hj := (List.getElem?_eq_some_iff.1 hy).1
  rw [Nat.zero_add, encV, List.getElem?_toArray, enc, List.getElem?_append_left (by simpa using hj), List.getElem?_map, hy]; rfl
theorem rank_enc {e : E} (h : IsE e) : (enc e)[16]? = some (.int .i64 e.2.1) := by
  rw [enc, List.getElem?_append_right (by simp [h.addr.len])]
  simp [h.addr.len]
theorem until_enc {e : E} (h : IsE e) : (enc e)[17]? = some (.int .u64 e.2.2) := by
  rw [enc, List.getElem?_append_right (by simp [h.addr.len])]
  simp [h.addr.len]
theorem rank_encV {e : E} (h : IsE e) : (encV e)[16]? = some (.int .i64 e.2.1) := by rw [encV, List.getElem?_toArray]; exact rank_enc h
theorem until_encV {e : E} (h : IsE e) : (encV e)[17]? = some (.int .u64 e.2.2) := by rw [encV, List.getElem?_toArray]; exact until_enc h
theorem loadE {W : World} {b o : Nat} {e : E} (he : IsE e) (h : W.rangeAt b o (enc e)) : (loadVar 48 ⟨b, o, none⟩).run Try.prog W = .ok (.agg (encV e)) W :=
  run_loadVar_mid (P := Try.prog) W b o 48 (enc e) _ h Try.underlying48 rfl (by rw [isEnc.len e he]; exact infoE)
theorem loadB {W : World} {b : Nat} {e : E} (he : IsE e) (h : Blk W b 48 (encV e)) : (loadVar 48 ⟨b, 0, none⟩).run Try.prog W = .ok (.agg (encV e)) W := h.load Try.underlying48 rfl (size_enc he)
/-- The address of a router, out of its cells. -/
theorem loadA {W : World} {b o : Nat} {e : E} (he : IsE e) (h : W.rangeAt b o (enc e)) : (loadVar 23 ⟨b, o, none⟩).run Try.prog W = .ok (.agg (bytesV e.1)) W :=
  run_loadVar_mid (P := Try.prog) W b o 23 (e.1.map (Value.int .u8)) _ (fun j v hv => h j v (by rw [enc, List.getElem?_append_left (List.getElem?_eq_some_iff.1 hv).1]; exact hv)) Try.underlying23 rfl (by rw [List.length_map, he.addr.len]; exact info23)
theorem eql23 (W : World) {a b : List Int} (ha : IsAddr a) (hb : IsAddr b) : (Op.equalIn 10000 23 (.agg (bytesV a)) (.agg (bytesV b))).run Try.prog W = .ok (a == b) W := by
  obtain ⟨i, hi⟩ := info_of_underlying (P := Try.prog) Try.underlying5
  exact run_equal_bytes W 9998 Try.underlying23 hi (by kernel_rfl) Try.underlying5 a b ha.len hb.len
theorem guard23 : Try.prog.eqGuardType Try.prog.depth 23 = false := by kernel_rfl
def zeroA : List Int := List.replicate 16 0
theorem zeroA_is : IsAddr zeroA := ⟨rfl, by decide⟩
def zeroV : Value := .agg (bytesV zeroA ++ #[.int .i64 0, .int .u64 0])
theorem slTy : SlTy Try.prog 30 48 18 32 := .mk_ (z := zeroV) Try.underlying30 (by kernel_rfl) rfl (by omega)
theorem slA : SlTy Try.prog 26 23 16 16 := .mk_ (z := .agg (bytesV zeroA)) Try.underlying26 (by kernel_rfl) rfl (by omega)
theorem zeroE (w : World) : (zeroValue 48).run Try.prog w = .ok zeroV w := by
  obtain ⟨i, hi, h1, _⟩ := info_parts (P := Try.prog) (e := 48) (z := zeroV) (size := 18) (bytes := 32) (by kernel_rfl)
  simp [zeroValue, typeInfo, hi, h1]

/-- A predicate over routers, as a function value, from the world w on, whatever the blocks in S hold. -/
def Pred (S : Nat → Prop) (g : Nat) (lb : Array Value) (p : E → Bool) (w : World) : Prop := ∀ (W : World) (e : E), Fr S w W → IsE e →
  Calls Try.prog g (#[.agg (encV e)] ++ lb) W fun r W' => r = .returned (.bool (p e)) ∧ Below W.heap.size W W'
/-- Has it this address? -/
theorem same_pred (w : World) (S : Nat → Prop) (B : Nat) (x : List Int) (hx : IsAddr x) (hb : Blk w B 23 (bytesV x)) (hS : ¬ S B) : Pred S 33 #[.pointer (some ⟨B, 0, none⟩)] (fun e => e.1 == x) w := by
  intro W e hW he
  have hB := hb.lt
  have b1 := Blk.new W 48 (encV e)
  have b2 := (hb.fr hW hS).alloc (.cells (encV e) 48)
  have l0 := hidd (b1.part (at_enc he) Try.underlying23 rfl (by rw [he.addr.len]; exact info23))
  have l1 := hidd (b2.load Try.underlying23 rfl (size_a hx))
  have heq := fun V => eql23 V he.addr hx
  have hgd := guard23
  clear b1 b2
  go_enter Try.func33, Try.ntmps33
  go_wp2_with (first
    | (with_reducible show wpList _ _ _ (⟨_, Op.load 23 _, _, _, _, _⟩ :: _) _ _; refine wpList_load_want (by kernel_rfl) 23 _ rfl _ rfl _ (by with_reducible first | exact l0.out | exact l1.out) ?_))
  go_ret
  exact ⟨rfl, (Below.refl _ W).alloc (Nat.le_refl _) _⟩

abbrev IsK := Ls enc 18 IsE
set_option maxRecDepth 100000 in
theorem index_any (w : World) (A : Option Addr) (n c : Nat) (es : List E) (h : IsK w w.heap.size A n c es) (p : E → Bool) (lb : Array Value) (g : Nat) (S : Nat → Prop) (hg : g = 33 ∨ g = 21) (hp : Pred S g lb p w) :
    Calls Try.prog 20 #[.slice A n c, .func (.func g) #[] lb] w fun e w' => e = .returned (.int .i64 (idx p es)) ∧ Below w.heap.size w w' := by
  have hcm := h.rd.cmax
  have hcn := h.rd.cap
  have hl := h.len
  unfold maxLen at hcm
  go_enter Try.func20, Try.ntmps20
  go_wp2
  go_loopw [8] (fun i wr => ∃ j : Nat, j ≤ n ∧ i = .int .i64 j ∧ Below w.heap.size w wr ∧ (es.take j).any p = false) (fun i _ => n - (intOf i).toNat)
  case atStart => exact ⟨0, Nat.zero_le _, rfl, Below.refl _ w, rfl⟩
  case round =>
    obtain ⟨j, hj, rfl, hb, hno⟩ := hrel
    by_cases hjn : j < n
    · obtain ⟨b, off, rfl, hblt, hr⟩ := (h.below hb).range isEnc (by omega)
      obtain ⟨e, he⟩ : ∃ e, es[j]? = some e := ⟨es[j]'(by omega), List.getElem?_eq_getElem _⟩
      have hE := h.ok e (List.mem_of_getElem? he)
      have l0 := hidd (loadE hE (hr j e he))
      have ht := take_any he hno
      have hb' := hidd hb
      have hP := hidd (hp wr e (Fr.of_below hb S) hE)
      clear hr hb h hp
      cases hpe : p e
      · rw [hpe] at ht
        rcases hg with rfl | rfl
        all_goals go_wp2_with (first
          | (with_reducible show wpList _ _ _ (⟨_, Op.load 48 _, _, _, _, _⟩ :: _) _ _; refine wpList_load_want (by kernel_rfl) 48 _ rfl _ rfl _ (by with_reducible exact l0.out) ?_))
        all_goals refine Calls.mono hP.out ?_
        all_goals rintro r w2 ⟨rfl, b2⟩
        all_goals rw [hpe]
        all_goals go_wp2
        all_goals go_roundw
        case rel => exact ⟨j + 1, by omega, by go_num, hb'.out.trans (b2.mono hb'.out.size), ht⟩
        case measure => simp [intOf]; omega
        case rel => exact ⟨j + 1, by omega, by go_num, hb'.out.trans (b2.mono hb'.out.size), ht⟩
        case measure => simp [intOf]; omega
      · rcases hg with rfl | rfl
        all_goals go_wp2_with (first
          | (with_reducible show wpList _ _ _ (⟨_, Op.load 48 _, _, _, _, _⟩ :: _) _ _; refine wpList_load_want (by kernel_rfl) 48 _ rfl _ rfl _ (by with_reducible exact l0.out) ?_))
        all_goals refine Calls.mono hP.out ?_
        all_goals rintro r w2 ⟨rfl, b2⟩
        all_goals rw [hpe]
        all_goals go_wp2
        all_goals go_ret
        all_goals exact ⟨by rw [idx_at he hpe hno]; rfl, hb'.out.trans (b2.mono hb'.out.size)⟩
    · have hjn' : j = n := by omega
      subst hjn'
      go_wp2
      go_ret
      rw [List.take_of_length_le (by omega)] at hno
      exact ⟨by rw [idx_none hno]; rfl, hb⟩

set_option maxRecDepth 100000 in
theorem delete_any (w : World) (base g n c i : Nat) (xs : List Value) (h : w.ownsRow base 48 18 (.slice (some ⟨g, 0, none⟩) n c) n xs) (h1 : ∀ u ∈ xs, u.oneCell' = true) (hi : i < n) :
    Calls Try.prog 27 #[.slice (some ⟨g, 0, none⟩) n c, .int .i64 i, .int .i64 ((i : Int) + 1)] w fun e w' => e = .returned (.slice (some ⟨g, 0, none⟩) (n - 1) c) ∧
      w'.ownsRow base 48 18 (.slice (some ⟨g, 0, none⟩) (n - 1) c) (n - 1) (xs.take (i * 18) ++ xs.drop ((i + 1) * 18)) ∧ Fr (· = g) w w' := by
  obtain ⟨hnc, hcm⟩ := own_cap h
  have o1 := hidd (own_drew (own_cut h (m := i) (by omega)))
  obtain ⟨A, hA⟩ : ∃ A : Option Addr, (if c = i + 1 then some (⟨g, 0, none⟩ : Addr) else some ⟨g, (i + 1) * 18, none⟩) = A := ⟨_, rfl⟩
  have hA' : (if c = i + 1 then some (⟨g, 0, none⟩ : Addr) else (some (⟨g, 0, none⟩ : Addr)).map (·.add ((i + 1) * 18))) = A := by rw [← hA]; simp [Addr.add]
  have r1 := hidd ((Rd.of_own h).drew.cut (k := i + 1) (by omega))
  rw [hA'] at r1
  have h1' : Hid (∀ u ∈ xs.drop ((i + 1) * 18), u.oneCell' = true) := fun u hu => h1 u (List.mem_of_mem_drop hu)
  have f0 := hidd ((Fr.refl (· = g) w).drew)
  unfold maxLen at hcm
  have q1 : i ≤ c := by omega
  have q2 : i + 1 ≤ c := by omega
  have q3 : 0 ≤ (i : Int) + 1 := by omega
  have q4 : (i : Int) + 1 ≤ (n : Int) := by omega
  clear h h1
  go_enter Try.func27, Try.ntmps27
  go_wp2_with fail
  go_region_law (refine step_append_fits _ rfl (.tmp 22) (.tmp 25) slTy rfl (by simp [Act.eval, Act.put]) o1.out (by simp [Act.eval, Act.put]) r1.out h1'.out (by omega) ?_; intro W o2 f2)
  all_goals
    obtain ⟨m, hm⟩ : ∃ m, i + (n - (i + 1)) = m := ⟨_, rfl⟩
    rw [hm] at o2 ⊢
    try simp only [hA]
    clear hA hA'
    obtain ⟨vs, hcl⟩ := run_clear_own (P := Try.prog) W Try.underlying30 zeroE (size := 18) rfl (by decide) g (m * 18) (n - m) (c - m) (by omega) (by omega) (own_there o2 (by rw [← Nat.add_mul]; exact Nat.mul_le_mul_right _ (by omega)))
    have o3 := hidd (own_past o2 (Nat.le_refl _) vs)
    have f3 := hidd ((f0.out.trans f2).trans (fr_cells W g vs (m * 18)))
    have hne : ¬ c = m := by omega
    have q5 : m ≤ n := by omega
    have q6 : n ≤ c := by omega
    have q7 : n - 1 = m := by omega
    clear o1 r1 h1' o2 f2 f0
    go_wp2
    go_ret
    try rw [q7]
    exact ⟨rfl, o3.out, f3.out⟩

theorem clip_any (w : World) (A : Option Addr) (n c : Nat) (h : n ≤ c) (hc : c ≤ maxLen) : Calls Try.prog 29 #[.slice A n c] w fun e w' => e = .returned (.slice A n n) ∧ w = w' := by
  unfold maxLen at hc
  go_enter Try.func29, Try.ntmps29
  go_wp2
  go_ret
  exact ⟨rfl, rfl⟩
theorem clipA_any (w : World) (A : Option Addr) (n c : Nat) (h : n ≤ c) (hc : c ≤ maxLen) : Calls Try.prog 28 #[.slice A n c] w fun e w' => e = .returned (.slice A n n) ∧ w = w' := by
  unfold maxLen at hc
  go_enter Try.func28, Try.ntmps28
  go_wp2
  go_ret
  exact ⟨rfl, rfl⟩

theorem own_made (w : World) (t : TypeId) (size : Nat) : (w.alloc (.cells #[] t)).ownsRow w.heap.size t size (.slice (some ⟨w.heap.size, 0, none⟩) 0 0) 0 [] :=
  World.ownsRow_made w #[] 0 (Nat.le_refl _) (Nat.zero_le _) (by simp)
set_option maxRecDepth 100000 in
theorem clone_any (w : World) (A : Option Addr) (n c : Nat) (xs : List Value) (h : Rd w w.heap.size 18 A n c xs) (h1 : ∀ u ∈ xs, u.oneCell' = true) (hn : n * 32 ≤ 140737488355328) :
    Calls Try.prog 34 #[.slice A n c] w fun e w' => ∃ v', e = .returned v' ∧ w'.ownsRow w.heap.size 48 18 v' n xs ∧ Below w.heap.size w w' := by
  have q22 : ∀ (w : World) (a : Option Addr) (n c n' c' : Nat), (binOp .eql 30 (.slice a n c) (.slice none n' c')).run Try.prog w = .ok (.bool a.isNone) w := fun w a n c n' c' => Lib.run_eql_slice_nil w _ _ a n c n' c' Try.underlying30
  cases A with
  | none =>
    obtain ⟨h0, _⟩ := h.nil_ rfl
    have hx : xs = [] := List.eq_nil_of_length_eq_zero (by rw [h.len, h0])
    subst h0 hx
    clear h hn h1
    go_enter Try.func34, Try.ntmps34
    go_wp2
    go_ret
    exact ⟨_, rfl, World.ownsRow_nil _ _ _ _, Below.refl _ _⟩
  | some ad =>
    have hcm := h.cmax
    have hcn := h.cap
    have hr := hidd (h.below ((Below.refl w.heap.size w).alloc (Nat.le_refl _) (.cells #[] 48)))
    have ho := hidd (own_made w 48 18)
    have b1 := hidd ((Below.refl w.heap.size w).alloc (Nat.le_refl _) (.cells #[] 48))
    have h1' := hidd h1
    unfold maxLen at hcm
    clear h h1
    go_enter Try.func34, Try.ntmps34
    go_wp2_with (at_builtin
                 refine wpList_append_rd (v := .slice (some ⟨w.heap.size, 0, none⟩) 0 0) (w.alloc (.cells #[] 48)) rfl (.tmp 5) (.tmp 6) slTy rfl rfl ho.out rfl hr.out h1'.out (by unfold maxLen; omega) (by omega) (by simp) ?_
                 intro v5 w5 o5 g5 t5 l5
                 clear l5 t5
                 have b5 := hidd (b1.out.trans (grown_below ho.out g5 (by simp)))
                 have o6 := hidd o5
                 clear o5 g5 b1 ho hr)
    go_ret
    refine ⟨_, rfl, ?_, b5.out⟩
    have := o6.out
    rwa [Nat.zero_add, List.nil_append] at this
end Go.Proofs.Ytnchjbgfmkmbaaa
