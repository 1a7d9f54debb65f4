/- Names that are told: those that are not empty, of a list of the call's own, walked once. No condition. -/
import Derived.Test.YtajlgglknianlaaBase
import Derived.Deep.RegionWith
namespace Go.Proofs.Ytajlgglknianlaa.St
open Go.Proofs.Ytajlgglknianlaa Go.ChangeShapes Go.WideShapes Go.ChangeAt Go.RowKit Go.Deep
set_option linter.unusedVariables false
set_option linter.unusedSimpArgs false

abbrev E := ByteArray
def enc (x : E) : List Value := [.string x]
theorem isEnc : Enc enc 1 (fun _ => True) where
  len := fun a h => rfl
  one := fun a v hv => by
    simp only [enc, List.mem_cons, List.not_mem_nil, or_false] at hv
    subst hv; rfl
abbrev flat (es : List E) : List Value := flatOf enc es
/-- Is it empty? -/
def gone (x : E) : Bool := x.toList.isEmpty
abbrev left (es : List E) : List E := es.filter fun e => !gone e
theorem left_snoc {es : List E} {j : Nat} {e : E} (h : es[j]? = some e) : left (es.take (j + 1)) = left (es.take j) ++ if gone e then [] else [e] := by
  rw [left, List.take_add_one, h, List.filter_append]
  cases hp : gone e <;> simp [hp]
theorem left_any {es : List E} (h : es.any gone = false) : left es = es := by
  rw [left, List.filter_eq_self]
  intro a ha
  simp only [List.any_eq_false] at h
  simpa using h a ha
structure Mid (W : World) (base g n c : Nat) (es : List E) (j : Nat) (ds : List E) : Prop where
  own : W.ownsRow base 9 1 (.slice (some ⟨g, 0, none⟩) n c) n (flat ds)
  len : ds.length = n
  low : ds.take (left (es.take j)).length = left (es.take j)
  high : ∀ k, j ≤ k → ds[k]? = es[k]?
theorem Mid.keep {W V : World} {base g n c : Nat} {es ds : List E} {j : Nat} {e : E} (h : Mid W base g n c es j ds) (hl : es.length = n) (he : es[j]? = some e) (hp : gone e = false) (hlt : (left (es.take j)).length < j)
    (hown : V.ownsRow base 9 1 (.slice (some ⟨g, 0, none⟩) n c) n (flat (ds.set (left (es.take j)).length e))) :
    Mid V base g n c es (j + 1) (ds.set (left (es.take j)).length e) := by
  have hj := (List.getElem?_eq_some_iff.1 he).1
  have hln := h.len
  have hs := left_snoc he
  rw [hp] at hs
  simp only [Bool.false_eq_true, if_false] at hs
  refine ⟨hown, by simpa using h.len, ?_, ?_⟩
  · rw [hs, List.length_append, List.length_singleton, List.take_set, List.take_add_one, List.set_append_right _ _ (by rw [List.length_take]; omega), List.length_take, h.low]
    rw [show (left (es.take j)).length - min (left (es.take j)).length ds.length = 0 by omega]
    obtain ⟨d, hd⟩ : ∃ d, ds[(left (es.take j)).length]? = some d := ⟨_, List.getElem?_eq_getElem (by omega)⟩
    rw [hd]
    rfl
  · intro k hk
    rw [List.getElem?_set_ne (by omega)]
    exact h.high k (by omega)
theorem Mid.skip {W : World} {base g n c : Nat} {es ds : List E} {j : Nat} {e : E} (h : Mid W base g n c es j ds) (he : es[j]? = some e) (hp : gone e = true) : Mid W base g n c es (j + 1) ds := by
  have hs := left_snoc he
  rw [hp] at hs
  simp only [if_true, List.append_nil] at hs
  exact ⟨h.own, h.len, by rw [hs]; exact h.low, fun k hk => h.high k (by omega)⟩

theorem gone_any (x : E) (w : World) : Calls Try.prog 31 #[.string x] w fun e w' => e = .returned (.bool (gone x)) ∧ w = w' := by
  go_enter Try.func31, Try.ntmps31
  go_wp2
  go_ret
  exact ⟨rfl, rfl⟩

abbrev IsK := Ls enc 1 (fun _ => True)
set_option maxRecDepth 100000 in
theorem index_any (w : World) (A : Option Addr) (n c : Nat) (es : List E) (h : IsK w w.heap.size A n c es) :
    Calls Try.prog 48 #[.slice A n c, .func (.func 31) #[] #[]] w fun e w' => e = .returned (.int .i64 (idx gone es)) ∧ w = w' := by
  have hcm := h.rd.cmax
  have hcn := h.rd.cap
  have hl := h.len
  unfold maxLen at hcm
  go_enter Try.func48, Try.ntmps48
  go_wp2
  go_loop [8] (fun i => ∃ j : Nat, j ≤ n ∧ i = .int .i64 j ∧ (es.take j).any gone = false) (fun i => n - (intOf i).toNat)
  case atStart => exact ⟨0, Nat.zero_le _, rfl, rfl⟩
  case round =>
    obtain ⟨j, hj, rfl, hno⟩ := hrel
    by_cases hjn : j < n
    · obtain ⟨b, off, rfl, hblt, hr⟩ := h.range isEnc (by omega)
      obtain ⟨e, he⟩ : ∃ e, es[j]? = some e := ⟨es[j]'(by omega), List.getElem?_eq_getElem _⟩
      have c1 : w.cell? ⟨b, off + j, none⟩ = some (.string e) := by have := hr j e he 0 _ rfl; rwa [Nat.mul_one, Nat.add_zero] at this
      have ht := take_any he hno
      clear hr h
      cases hpe : gone e
      · rw [hpe] at ht
        go_wp2_with (go_at_call 31; refine Calls.mono (gone_any e w) ?_; rintro r w2 ⟨rfl, rfl⟩; rw [hpe])
        go_round
        case rel => exact ⟨j + 1, by omega, by go_num, ht⟩
        case measure => simp [intOf]; omega
      · go_wp2_with (go_at_call 31; refine Calls.mono (gone_any e w) ?_; rintro r w2 ⟨rfl, rfl⟩; rw [hpe])
        go_ret
        exact ⟨by rw [idx_at he hpe hno]; rfl, rfl⟩
    · have hjn' : j = n := by omega
      subst hjn'
      go_wp2
      go_ret
      rw [List.take_of_length_le (by omega)] at hno
      exact ⟨by rw [idx_none hno]; rfl, rfl⟩

theorem zeroE (w : World) : (zeroValue 9).run Try.prog w = .ok (.string .empty) w := by
  obtain ⟨i, hi, h1, _⟩ := info_parts (P := Try.prog) (e := 9) (z := .string .empty) (size := 1) (bytes := 16) (by kernel_rfl)
  simp [zeroValue, typeInfo, hi, h1]
theorem slTy : SlTy Try.prog 40 9 1 16 := .mk_ (z := .string .empty) Try.underlying40 (by kernel_rfl) rfl (by omega)

set_option maxRecDepth 100000 in
set_option maxHeartbeats 1000000 in
theorem drop_any (w : World) (base : Nat) (v : Value) (n : Nat) (es : List E) (h : w.ownsRow base 9 1 v n (flat es)) :
    Calls Try.prog 29 #[v, .func (.func 31) #[] #[]] w fun e w' => ∃ v', e = .returned v' ∧
      w'.ownsRow base 9 1 v' (left es).length (flat (left es)) ∧ Fr (fun k => v.ownBlock = some k) w w' := by
  have hl : es.length = n := by have := h.1; rw [isEnc.flat_len (fun _ _ => trivial)] at this; omega
  obtain ⟨A, c, rfl, hrd⟩ := own_rd h
  have hI := hidd (index_any w A n c es ⟨hrd, hl, fun _ _ => trivial⟩)
  have hcm := hrd.cmax
  have hcn := hrd.cap
  have hO := hidd h
  unfold maxLen at hcm
  rcases idx_cases (p := gone) es with ⟨hx, hno⟩ | ⟨j0, e0, hx, he0, hp0, hno⟩
  · rw [hx] at hI
    have hlv := left_any hno
    clear h hrd hno
    go_enter Try.func29, Try.ntmps29
    go_wp2_with (go_at_call 48; refine Calls.mono hI.out ?_; rintro e w2 ⟨rfl, rfl⟩)
    go_ret
    exact ⟨_, rfl, by rw [hlv, hl]; exact hO.out, Fr.refl _ _⟩
  · rw [hx] at hI
    have hne1 : ((j0 : Int) == -1) = false := beq_eq_false_iff_ne.2 (by omega)
    have hj0 := (List.getElem?_eq_some_iff.1 he0).1
    obtain ⟨g, cg, hA, hbg, hgl⟩ := own_pos h (by omega)
    injection hA with hA hA2 hA3
    subst hA hA3
    have hlow : left (es.take (j0 + 1)) = es.take j0 := by rw [left_snoc he0, left_any hno, hp0]; simp
    have hll : (es.take j0).length = j0 := by rw [List.length_take]; omega
    have M0 : Hid (Mid w base g n c es (j0 + 1) es) := ⟨h, hl, by rw [hlow, hll], fun k _ => rfl⟩
    clear h hp0 hno hrd
    go_enter Try.func29, Try.ntmps29
    go_wp2_with (go_at_call 48; refine Calls.mono hI.out ?_; rintro e w2 ⟨rfl, rfl⟩)
    go_loopw [5, 6] (fun i jv wr => ∃ (j : Nat) (ds : List E), jv = .int .i64 j ∧ j ≤ n ∧ i = .int .i64 ((left (es.take j)).length : Nat) ∧ (left (es.take j)).length < j ∧ Mid wr base g n c es j ds ∧ Fr (fun k => (Value.slice (some ⟨g, 0, none⟩) n c).ownBlock = some k) w wr) (fun _ jv _ => n - (intOf jv).toNat)
    case atStart => exact ⟨j0 + 1, es, by go_num, by omega, by rw [hlow, hll], by rw [hlow, hll]; omega, M0.out, Fr.refl _ _⟩
    case round =>
      obtain ⟨j, ds, rfl, hjn, rfl, hlt, hM, hF⟩ := hrel
      clear M0 hI hx
      obtain ⟨k, hk⟩ : ∃ k, (left (es.take j)).length = k := ⟨_, rfl⟩
      rw [hk] at hlt ⊢
      have hdl := hM.len
      by_cases hj : j < n
      · obtain ⟨e, he⟩ : ∃ e, es[j]? = some e := ⟨_, List.getElem?_eq_getElem (by omega)⟩
        have c1 : wr.cell? ⟨g, j, none⟩ = some (.string e) := by
          have := own_range hM.own isEnc hM.len (fun _ _ => trivial) (j := j) (e := e) (by rw [hM.high j (Nat.le_refl _)]; exact he) 0 _ rfl
          rwa [Nat.mul_one, Nat.add_zero] at this
        have f1 := hM.own.frozenAt k
        have cs1 := (own_there hM.own (o := k) (k := 1) (by omega) 0 (by omega)).1
        have hM' := hidd hM
        have hF' := hidd hF
        have hq : (j : Int) < (n : Int) := by omega
        clear hM hF he0
        have he' := hidd he
        clear he
        cases hpe : gone e
        · have hi : k < n := by omega
          have hkn : (k : Int) < (n : Int) := by omega
          obtain ⟨u, hu⟩ := Option.isSome_iff_exists.1 cs1
          clear cs1
          rw [Nat.add_zero] at hu
          have F3 := hidd (hF'.out.trans (show Fr (fun k => (Value.slice (some ⟨g, 0, none⟩) n c).ownBlock = some k) wr (wr.setCell ⟨g, k, none⟩ (.string e)) from ((Fr.refl (· = g) wr).setB _).mono (fun k _ hk => by rw [hk]; rfl)))
          have M3 := hidd (hM'.out.keep hl he'.out hpe (by rw [hk]; exact hlt) (V := wr.setCell ⟨g, k, none⟩ (.string e)) (by
            have := own_store hM'.out.own isEnc (fun _ _ => trivial) (j := k) (e := e) trivial (by omega)
            rw [hk]
            rwa [Nat.mul_one] at this))
          go_wp2_with (go_at_call 31; refine Calls.mono (gone_any e _) ?_; rintro r w2 ⟨rfl, rfl⟩; rw [hpe])
          go_roundw
          case rel => exact ⟨j + 1, _, by go_num, by omega, by rw [left_snoc he'.out, hpe, List.length_append, hk]; go_num, by rw [left_snoc he'.out, hpe, List.length_append, hk]; simp; omega, M3.out, F3.out⟩
          case measure => simp [intOf]; omega
        · go_wp2_with (go_at_call 31; refine Calls.mono (gone_any e _) ?_; rintro r w2 ⟨rfl, rfl⟩; rw [hpe])
          go_roundw
          case rel => exact ⟨j + 1, ds, by go_num, by omega, by rw [left_snoc he'.out, hpe]; simp [hk], by rw [left_snoc he'.out, hpe]; simp; omega, hM'.out.skip he'.out hpe, hF'.out⟩
          case measure => simp [intOf]; omega
      · have hjn' : j = n := by omega
        subst hjn'
        have hfull : es.take j = es := List.take_of_length_le (by omega)
        rw [hfull] at hk
        have hlow := hM.low
        rw [hfull, hk] at hlow
        obtain ⟨vs, hcl⟩ := run_clear_own (P := Try.prog) wr Try.underlying40 zeroE (size := 1) rfl (by decide) g (k * 1) (j - k) (c - k) (by omega) (by omega) (own_there hM.own (by rw [← Nat.add_mul]; exact Nat.mul_le_mul_right _ (by omega)))
        have o3 := hidd (own_past (own_cut hM.own (m := k) (by omega)) (Nat.le_refl _) vs)
        rw [isEnc.flat_take (fun _ _ => trivial), hlow] at o3
        have f3 := hidd (hF.trans ((fr_cells wr g vs (k * 1)).mono (fun k _ hk => by rw [hk]; rfl)))
        rw [Nat.mul_one] at hcl o3 f3
        have hne : ¬ c = k := by omega
        have q5 : k ≤ j := by omega
        have q6 : k ≤ c := by omega
        clear hM hF hO hlow
        go_wp2
        go_ret
        exact ⟨_, rfl, by rw [hk]; exact o3.out, f3.out⟩
end Go.Proofs.Ytajlgglknianlaa.St
