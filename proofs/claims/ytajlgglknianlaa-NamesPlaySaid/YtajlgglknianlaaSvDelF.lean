/- DeleteFunc: those that are left, in order, walked once. No condition. -/
import Derived.Test.YtajlgglknianlaaSvFind
namespace Go.Proofs.Ytajlgglknianlaa.Sv
open Go.Proofs.Ytajlgglknianlaa Go.ChangeShapes Go.WideShapes Go.ChangeAt Go.RowKit Go.Deep
set_option linter.unusedVariables false
set_option linter.unusedSimpArgs false

/-- Those that are left. -/
abbrev left (p : E → Bool) (es : List E) : List E := es.filter fun e => !p e

/-- The row while it is gone through: j things are looked at, those that are left of them lie ahead; from j on it is as it was. -/
structure Mid (W : World) (base g n c : Nat) (p : E → Bool) (es : List E) (j : Nat) (ds : List E) : Prop where
  own : W.ownsRow base 68 17 (.slice (some ⟨g, 0, none⟩) n c) n (flat ds)
  len : ds.length = n
  ok : ∀ e ∈ ds, IsE e
  low : ds.take (left p (es.take j)).length = left p (es.take j)
  high : ∀ k, j ≤ k → ds[k]? = es[k]?
theorem left_le (p : E → Bool) (es : List E) (j : Nat) : (left p (es.take j)).length ≤ j := Nat.le_trans (List.length_filter_le _ _) (by rw [List.length_take]; omega)
theorem left_snoc {p : E → Bool} {es : List E} {j : Nat} {e : E} (h : es[j]? = some e) : left p (es.take (j + 1)) = left p (es.take j) ++ if p e then [] else [e] := by
  rw [left, List.take_add_one, h, List.filter_append]
  cases hp : p e <;> simp [hp]
theorem left_any {p : E → Bool} {es : List E} (h : es.any p = false) : left p es = es := by
  rw [left, List.filter_eq_self]
  intro a ha
  simp only [List.any_eq_false] at h
  simpa using h a ha

theorem Mid.keep {W V : World} {base g n c : Nat} {p : E → Bool} {es ds : List E} {j : Nat} {e : E} (h : Mid W base g n c p es j ds) (hl : es.length = n) (he : es[j]? = some e) (hp : p e = false) (hlt : (left p (es.take j)).length < j) (ho : ∀ e ∈ es, IsE e)
    (hown : V.ownsRow base 68 17 (.slice (some ⟨g, 0, none⟩) n c) n (flat (ds.set (left p (es.take j)).length e))) :
    Mid V base g n c p es (j + 1) (ds.set (left p (es.take j)).length e) := by
  have hj := (List.getElem?_eq_some_iff.1 he).1
  have hln := h.len
  have hs := left_snoc (p := p) he
  rw [hp] at hs
  simp only [Bool.false_eq_true, if_false] at hs
  refine ⟨hown, by simpa using h.len, ?_, ?_, ?_⟩
  · intro x hx
    rcases List.mem_or_eq_of_mem_set hx with hx | rfl
    · exact h.ok x hx
    · exact ho x (List.mem_of_getElem? he)
  · rw [hs, List.length_append, List.length_singleton, List.take_set, List.take_add_one, List.set_append_right _ _ (by rw [List.length_take]; omega), List.length_take, h.low]
    rw [show (left p (es.take j)).length - min (left p (es.take j)).length ds.length = 0 by omega]
    obtain ⟨d, hd⟩ : ∃ d, ds[(left p (es.take j)).length]? = some d := ⟨_, List.getElem?_eq_getElem (by omega)⟩
    rw [hd]
    rfl
  · intro k hk
    rw [List.getElem?_set_ne (by omega)]
    exact h.high k (by omega)
theorem Mid.skip {W : World} {base g n c : Nat} {p : E → Bool} {es ds : List E} {j : Nat} {e : E} (h : Mid W base g n c p es j ds) (he : es[j]? = some e) (hp : p e = true) : Mid W base g n c p es (j + 1) ds := by
  have hs := left_snoc (p := p) he
  rw [hp] at hs
  simp only [if_true, List.append_nil] at hs
  exact ⟨h.own, h.len, h.ok, by rw [hs]; exact h.low, fun k hk => h.high k (by omega)⟩
theorem Mid.to {W V : World} {base g n c : Nat} {p : E → Bool} {es ds : List E} {j : Nat} (h : Mid W base g n c p es j ds) (hb : Below W.heap.size W V) : Mid V base g n c p es j ds :=
  ⟨ownRow_fr h.own (Fr.of_below hb (fun _ => False)) (fun _ _ e => e), h.len, h.ok, h.low, h.high⟩

set_option maxRecDepth 100000 in
set_option maxHeartbeats 1000000 in
theorem drop_any (w : World) (base g n c : Nat) (es : List E) (h : w.ownsRow base 68 17 (.slice (some ⟨g, 0, none⟩) n c) n (flat es)) (hl : es.length = n) (ho : ∀ e ∈ es, IsE e) (p : E → Bool) (lb : Array Value) (hp : Pred (· = g) 42 lb p w) :
    Calls Try.prog 41 #[.slice (some ⟨g, 0, none⟩) n c, .func (.func 42) #[] lb] w fun e w' => e = .returned (.slice (some ⟨g, 0, none⟩) (left p es).length c) ∧
      w'.ownsRow base 68 17 (.slice (some ⟨g, 0, none⟩) (left p es).length c) (left p es).length (flat (left p es)) ∧ Fr (· = g) w w' := by
  obtain ⟨hnc, hcm⟩ := own_cap h
  have hI := hidd (index_any w _ n c es (Ls.of_own h hl ho) p lb 42 _ (.inr rfl) hp)
  have hO := hidd h
  have hO' := hidd ho
  have hP := hidd hp
  have hgl : g < w.heap.size := (h.lt g rfl).2
  unfold maxLen at hcm
  rcases idx_cases (p := p) es with ⟨hx, hno⟩ | ⟨j0, e0, hx, he0, hp0, hno⟩
  · rw [hx] at hI
    clear h ho hp
    go_enter Try.func41, Try.ntmps41
    go_wp2_with (go_at_call 49; refine Calls.mono hI.out ?_; rintro e w2 ⟨rfl, b2⟩)
    go_ret
    rw [left_any hno, hl]
    exact ⟨rfl, ownRow_fr hO.out (Fr.of_below b2 (fun _ => False)) (fun _ _ e => e), Fr.of_below b2 _⟩
  · rw [hx] at hI
    have hne1 : ((j0 : Int) == -1) = false := beq_eq_false_iff_ne.2 (by omega)
    have hj0 := (List.getElem?_eq_some_iff.1 he0).1
    have hlow : left p (es.take (j0 + 1)) = es.take j0 := by rw [left_snoc he0, left_any hno, hp0]; simp
    have hll : (es.take j0).length = j0 := by rw [List.length_take]; omega
    have M0 : Hid (Mid w base g n c p es (j0 + 1) es) := ⟨h, hl, ho, by rw [hlow, hll], fun k _ => rfl⟩
    clear h ho hp hno
    go_enter Try.func41, Try.ntmps41
    go_wp2_with (go_at_call 49; refine Calls.mono hI.out ?_; rintro e w2 ⟨rfl, b2⟩)
    go_loopw [5, 6, 7] (fun i jv _ wr => ∃ (j : Nat) (ds : List E), jv = .int .i64 j ∧ j ≤ n ∧ i = .int .i64 ((left p (es.take j)).length : Nat) ∧ (left p (es.take j)).length < j ∧ Mid wr base g n c p es j ds ∧ Fr (· = g) w wr) (fun _ jv _ _ => n - (intOf jv).toNat)
    case atStart => exact ⟨j0 + 1, es, by go_num, by omega, by rw [hlow, hll], by rw [hlow, hll]; omega, M0.out.to b2, Fr.of_below b2 _⟩
    case round =>
      obtain ⟨j, ds, rfl, hjn, rfl, hlt, hM, hF⟩ := hrel
      clear M0 hI b2 hx
      obtain ⟨k, hk⟩ : ∃ k, (left p (es.take j)).length = k := ⟨_, rfl⟩
      rw [hk] at hlt ⊢
      have hdl := hM.len
      by_cases hj : j < n
      · obtain ⟨e, he⟩ : ∃ e, es[j]? = some e := ⟨_, List.getElem?_eq_getElem (by omega)⟩
        have hE := hidd (hO'.out e (List.mem_of_getElem? he))
        obtain ⟨s, Ss⟩ : ∃ s, wr.heap.size = s := ⟨_, rfl⟩
        have l0 := hidd (loadE hE.out (own_range hM.own isEnc hM.len hM.ok (by rw [hM.high j (Nat.le_refl _)]; exact he)))
        have hM' := hidd hM
        have hF' := hidd hF
        have hq : (j : Int) < (n : Int) := by omega
        clear hM hF he0 hp0
        have he' := hidd he
        clear he
        cases hpe : p e
        all_goals
          go_wp2_with (first
            | (with_reducible show wpList _ _ _ (⟨_, Op.load 68 _, _, _, _, _⟩ :: _) _ _; refine wpList_load_want (by kernel_rfl) 68 _ rfl _ rfl _ (by with_reducible first | exact l0.out | exact l1.out) ?_)
            | (with_reducible show wpList _ _ _ (⟨_, Op.store 68 (.tmp 7) _, _, _, _, _⟩ :: _) _ _
               refine wpList_store_new rfl rfl 68 (.tmp 7) _ rfl _ _ (encV e) rfl Ss.symm rfl (size_enc hE.out) (Eq.trans (b := 17) (by kernel_rfl) (encV_size hE.out).symm) (ones_enc e) ?_
               have B1 := hidd ((Below.refl s wr).alloc (by omega) (.cells (encV e) 68))
               have K1 : Hid (Blk (wr.alloc (.cells (encV e) 68)) s 68 (encV e)) := by rw [← Ss]; exact Blk.new wr 68 (encV e)
               generalize wr.alloc (.cells (encV e) 68) = V1 at B1 K1 ⊢
               have l1 := hidd (loadB hE.out K1.out)
               clear l0))
          have F1 := hidd (hF'.out.trans (Fr.of_below (by rw [Ss]; exact B1.out) _))
          refine (hP.out V1 e F1.out hE.out).mono ?_
          rintro r V2 ⟨rfl, b2⟩
          rw [hpe]
          have B2 := hidd (B1.out.trans (b2.mono (by have := B1.out.size; omega)))
          have F2 := hidd (F1.out.trans (Fr.of_below b2 _))
          have M2 := hidd (hM'.out.to (by rw [Ss]; exact B2.out))
          have l3 := hidd (loadB hE.out (K1.out.below b2 K1.out.lt))
          clear l1 B1 F1 K1 b2 hM' hF' B2
        · have hi : k < n := by omega
          have hkn : (k : Int) < (n : Int) := by omega
          go_wp2_with (first
            | (with_reducible show wpList _ _ _ (⟨_, Op.load 68 _, _, _, _, _⟩ :: _) _ _; refine wpList_load_want (by kernel_rfl) 68 _ rfl _ rfl _ (by with_reducible exact l3.out) ?_)
            | (with_reducible show wpList _ _ _ (⟨_, Op.store 68 (.tmp 33) _, _, _, _, _⟩ :: _) _ _
               refine wpList_store_vals rfl rfl 68 (.tmp 33) _ rfl g (k * 17) (enc e) rfl rfl (by rw [isEnc.len e hE.out]; exact own_there M2.out.own (by rw [show k * 17 + 17 = (k + 1) * 17 by omega]; exact Nat.mul_le_mul_right _ (by omega))) (by rw [isEnc.len e hE.out]; exact infoE) (isEnc.one e) ?_
               have F3 := hidd (F2.out.trans (fr_cells V2 g (enc e) (k * 17)))
               have M3 := hidd (M2.out.keep hl he'.out hpe (by rw [hk]; exact hlt) hO'.out (by rw [hk]; exact own_store M2.out.own isEnc M2.out.ok hE.out (by omega)))
               generalize V2.setCells g (k * 17) (enc e) = V3 at F3 M3 ⊢
               clear M2 F2 l3))
          go_roundw
          case rel => exact ⟨j + 1, _, by go_num, by omega, by rw [left_snoc he'.out, hpe, List.length_append, hk]; go_num, by rw [left_snoc he'.out, hpe, List.length_append, hk]; simp; omega, M3.out, F3.out⟩
          case measure => simp [intOf]; omega
        · go_wp2
          go_roundw
          case rel => exact ⟨j + 1, ds, by go_num, by omega, by rw [left_snoc he'.out, hpe]; simp [hk], by rw [left_snoc he'.out, hpe]; simp; omega, M2.out.skip he'.out hpe, F2.out⟩
          case measure => simp [intOf]; omega
      · have hjn' : j = n := by omega
        subst hjn'
        have hfull : es.take j = es := List.take_of_length_le (by omega)
        rw [hfull] at hk
        have hlow := hM.low
        rw [hfull, hk] at hlow
        obtain ⟨vs, hcl⟩ := run_clear_own (P := Try.prog) wr Try.underlying56 zeroE (size := 17) rfl (by decide) g (k * 17) (j - k) (c - k) (by omega) (by omega) (own_there hM.own (by rw [← Nat.add_mul]; exact Nat.mul_le_mul_right _ (by omega)))
        have o3 := hidd (own_past (own_cut hM.own (m := k) (by omega)) (Nat.le_refl _) vs)
        rw [isEnc.flat_take hM.ok, hlow] at o3
        have f3 := hidd (hF.trans (fr_cells wr g vs (k * 17)))
        have hne : ¬ c = k := by omega
        have q5 : k ≤ j := by omega
        have q6 : k ≤ c := by omega
        clear hM hF hO hlow
        go_wp2
        go_ret
        rw [hk]
        exact ⟨rfl, o3.out, f3.out⟩
end Go.Proofs.Ytajlgglknianlaa.Sv
