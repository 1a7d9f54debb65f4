/- A new list; rank; when the next one's time is over; all, in order; ticks: each function walked once. No condition. -/
import Derived.Test.YtnchjbgfmkmbaaaDrop
namespace Go.Proofs.Ytnchjbgfmkmbaaa
open Go.ChangeShapes Go.WideShapes Go.ChangeAt Go.RowKit Go.Deep
set_option linter.unusedVariables false
set_option linter.unusedSimpArgs false

theorem new_any (w : World) : Calls Try.prog 16 #[] w fun e w' => e = .returned (.pointer (some ⟨w.heap.size, 0, none⟩)) ∧ Rl w' w.heap.size (.slice none 0 0) [] zeroA false ∧ Below w.heap.size w w' := by
  go_enter Try.func16, Try.ntmps16
  go_wp2_with (with_reducible show wpList _ _ _ (⟨_, Op.build 32 _, _, _, _, _⟩ :: _) _ _; refine wpList_build_want rfl 32 #[(3, .const (.bool true))] rfl (lcells (.slice none 0 0) zeroA false) (by kernel_rfl) ?_)
  go_ret
  exact ⟨rfl, ⟨Blk.new _ _ _, World.ownsRow_nil _ _ _ _, fun e h => by simp at h, by simp, zeroA_is⟩, (Below.refl _ w).alloc (Nat.le_refl _) _⟩

/-- The rank of flags. -/
def rk (f : Int) : Int := if f / 8 % 4 = 1 then 1 else if f / 8 % 4 = 3 then -1 else 0
theorem rk_bd (f : Int) : -1 ≤ rk f ∧ rk f ≤ 1 := by
  unfold rk
  split
  · decide
  · split <;> decide

/-- When the first one's time is over. -/
def nextOf (us : List Int) : Int := us.foldl min 9223372036854775807
theorem next_snoc {us : List Int} {j : Nat} {u : Int} (h : us[j]? = some u) : nextOf (us.take (j + 1)) = min (nextOf (us.take j)) u := by
  rw [List.take_add_one, h, nextOf, List.foldl_append]; rfl
theorem next_not (w : World) (v : Value) (h : Not w v) : Calls Try.prog 12 #[v] w fun e w' => e = .returned (.int .u64 9223372036854775807) ∧ w = w' := by
  have hT := hidd (there_not w v h)
  clear h
  go_enter Try.func12, Try.ntmps12
  go_wp2_with (go_at_call 17; refine Calls.mono hT.out ?_; rintro e w2 ⟨rfl, rfl⟩)
  go_ret
  exact ⟨rfl, rfl⟩
set_option maxRecDepth 100000 in
set_option maxHeartbeats 1000000 in
theorem next_any (w : World) (B : Nat) (v : Value) (es : List E) (last : List Int) (had : Bool) (h : Rl w B v es last had) :
    Calls Try.prog 12 #[.pointer (some ⟨B, 0, none⟩)] w fun e w' => e = .returned (.int .u64 (nextOf (es.map (·.2.2)))) ∧ Below w.heap.size w w' := by
  obtain ⟨A, c, rfl, hK⟩ := h.isK
  have hT := hidd (there_yes w B h.made)
  have hk' := hidd hK
  have c1 := h.row
  have hcm := hK.rd.cmax
  have hcn := hK.rd.cap
  obtain ⟨n, hn⟩ : ∃ n, es.length = n := ⟨_, rfl⟩
  rw [hn] at c1 hcn hk'
  have hn' := hidd hn
  unfold maxLen at hcm
  clear h hK hn
  go_enter Try.func12, Try.ntmps12
  go_wp2_with (go_at_call 17; refine Calls.mono hT.out ?_; rintro e w2 ⟨rfl, rfl⟩)
  clear c1
  go_loopw [3, 13] (fun a i wr => ∃ j : Nat, j ≤ n ∧ i = .int .i64 j ∧ a = .int .u64 (nextOf ((es.map (·.2.2)).take j)) ∧ Below w.heap.size w wr) (fun _ i _ => n - (intOf i).toNat)
  case atStart => exact ⟨0, Nat.zero_le _, rfl, rfl, Below.refl _ w⟩
  case round =>
    obtain ⟨j, hj, rfl, rfl, hb⟩ := hrel
    by_cases hjn : j < n
    · obtain ⟨b, off, rfl, hblt, hr⟩ := (hk'.out.below hb).range isEnc (by omega)
      obtain ⟨s, Ss⟩ : ∃ s, wr.heap.size = s := ⟨_, rfl⟩
      obtain ⟨e, he⟩ : ∃ e, es[j]? = some e := ⟨es[j]'(by rw [hn'.out]; omega), List.getElem?_eq_getElem _⟩
      have hE := hidd (hk'.out.ok e (List.mem_of_getElem? he))
      have l0 := hidd (loadE hE.out (hr j e he))
      have hst := next_snoc (us := es.map (·.2.2)) (j := j) (u := e.2.2) (by simp [he])
      obtain ⟨q, hq⟩ : ∃ q, nextOf ((es.map (·.2.2)).take j) = q := ⟨_, rfl⟩
      rw [hq] at hst ⊢
      have hst' := hidd hst
      have hb' := hidd hb
      have hws : w.heap.size ≤ s := by have := hb.size; omega
      clear hb hr hq hst he
      go_wp2_with (first
        | (with_reducible show wpList _ _ _ (⟨_, Op.load 48 _, _, _, _, _⟩ :: _) _ _; refine wpList_load_want (by kernel_rfl) 48 _ rfl _ rfl _ (by with_reducible exact l0.out) ?_)
        | (with_reducible show wpList _ _ _ (⟨_, Op.store 48 (.tmp 5) _, _, _, _, _⟩ :: _) _ _
           refine wpList_store_new rfl rfl 48 (.tmp 5) _ rfl _ _ (encV e) rfl Ss.symm rfl (size_enc hE.out) (Eq.trans (b := 18) (by kernel_rfl) (encV_size hE.out).symm) (ones_enc e) ?_
           have B1 := hidd ((Below.refl s wr).alloc (by omega) (.cells (encV e) 48))
           have K1 : Hid (Blk (wr.alloc (.cells (encV e) 48)) s 48 (encV e)) := by rw [← Ss]; exact Blk.new wr 48 (encV e)
           generalize wr.alloc (.cells (encV e) 48) = V1 at B1 K1 ⊢
           have d3 := K1.out.at_ (until_encV hE.out)
           have b1 := hidd (hb'.out.trans (B1.out.mono hws))
           clear l0 K1 B1 hb'))
      go_roundw
      case measure => simp [intOf]; omega
      case rel => exact ⟨j + 1, by omega, by go_num, by rw [hst'.out]; congr 1; (try split) <;> omega, b1.out⟩
    · have hjn' : j = n := by omega
      subst hjn'
      rw [List.take_of_length_le (by simp; rw [hn'.out]; exact Nat.le_refl _)]
      go_wp2
      go_ret
      exact ⟨rfl, hb⟩

/-- A list that was given, later; its block lies from lo on. -/
def GivenK (lo : Nat) (W : World) (v : Value) (xs : List E) : Prop := ∃ A, v = .slice A xs.length xs.length ∧ (0 < xs.length → ∃ g cur, A = some ⟨g, 0, none⟩ ∧ lo ≤ g ∧ Blk W g 48 cur ∧ ∀ j e, xs[j]? = some e → ∀ i u, (enc e)[i]? = some u → cur[j * 18 + i]? = some u)
theorem GivenK.fr {lo : Nat} {w W : World} {v : Value} {xs : List E} {S : Nat → Prop} (h : GivenK lo w v xs) (hf : Fr S w W) (hS : ∀ k, S k → k < lo) : GivenK lo W v xs := by
  obtain ⟨A, h1, h2⟩ := h
  exact ⟨A, h1, fun hn => by
    obtain ⟨g, cur, h3, h4, h5, h6⟩ := h2 hn
    exact ⟨g, cur, h3, h4, h5.fr hf (fun e => by have := hS g e; omega), h6⟩⟩
theorem GivenK.to {lo : Nat} {w W : World} {v : Value} {xs : List E} (h : GivenK lo w v xs) (hb : Below w.heap.size w W) : GivenK lo W v xs := h.fr (Fr.of_below hb (fun _ => False)) (fun _ e => e.elim)
theorem GivenK.le {lo lo' : Nat} {w : World} {v : Value} {xs : List E} (h : GivenK lo w v xs) (hl : lo' ≤ lo) : GivenK lo' w v xs := by
  obtain ⟨A, h1, h2⟩ := h
  exact ⟨A, h1, fun hn => by
    obtain ⟨g, cur, h3, h4, h5⟩ := h2 hn
    exact ⟨g, cur, h3, by omega, h5⟩⟩
theorem given_own {W : World} {base n c : Nat} {A : Option Addr} {xs : List E} (h : W.ownsRow base 48 18 (.slice A n c) n (flat xs)) (hl : xs.length = n) (ho : ∀ e ∈ xs, IsE e) : GivenK base W (.slice A n n) xs := by
  subst hl
  refine ⟨A, rfl, fun hn => ?_⟩
  rcases h.2 with ⟨_, h'⟩ | ⟨g, cap, cur, hv, hb, hg, hnc, hcm, hcs, htake⟩
  · omega
  · injection hv with h1 h2 h3
    subst h1
    refine ⟨g, cur, rfl, hb, hg, fun j e he i u hu => ?_⟩
    have hj := (List.getElem?_eq_some_iff.1 he).1
    have hi : i < 18 := by have := (List.getElem?_eq_some_iff.1 hu).1; rwa [isEnc.len e (ho e (List.mem_of_getElem? he))] at this
    have h5 := isEnc.flat_at ho he i hi
    have hlt : j * 18 + i < xs.length * 18 := by have : (j + 1) * 18 ≤ xs.length * 18 := Nat.mul_le_mul_right _ hj; omega
    rw [hu] at h5
    have h6 : (flat xs)[j * 18 + i]? = some u := h5
    rw [← htake, List.getElem?_take_of_lt hlt] at h6
    simpa using h6
theorem ord_ok {es : List E} (ho : ∀ e ∈ es, IsE e) : ∀ e ∈ ord es, IsE e := fun e he => ho e ((ord_mem ho).1 he)
theorem list_not (w : World) (v : Value) (h : Not w v) : Calls Try.prog 11 #[v] w fun e w' => e = .returned (.slice none 0 0) ∧ w = w' := by
  have hT := hidd (there_not w v h)
  clear h
  go_enter Try.func11, Try.ntmps11
  go_wp2_with (go_at_call 17; refine Calls.mono hT.out ?_; rintro e w2 ⟨rfl, rfl⟩)
  go_ret
  exact ⟨rfl, rfl⟩
theorem list_any (w : World) (B : Nat) (v : Value) (es : List E) (last : List Int) (had : Bool) (h : Rl w B v es last had) :
    Calls Try.prog 11 #[.pointer (some ⟨B, 0, none⟩)] w fun e w' => ∃ v', e = .returned v' ∧ GivenK w.heap.size w' v' (ord es) ∧ Below w.heap.size w w' := by
  have hT := hidd (there_yes w B h.made)
  have hO := hidd (ordered_any w B v es last had h)
  have ho := hidd h.ok
  clear h
  go_enter Try.func11, Try.ntmps11
  go_wp2_with (go_at_call 17; refine Calls.mono hT.out ?_; rintro e w2 ⟨rfl, rfl⟩)
  refine Calls.mono hO.out ?_
  rintro e w3 ⟨v3, rfl, o3, b3⟩
  obtain ⟨A, c, rfl⟩ := slice_of_own o3
  have H := hidd (And.intro o3 b3)
  have q1 := (Rd.of_own o3).cap
  have q2 := (Rd.of_own o3).cmax
  clear o3 b3 hO
  go_wp2_with fail
  refine (clip_any w3 A _ c q1 q2).mono ?_
  rintro e w4 ⟨rfl, rfl⟩
  go_wp2
  go_ret
  exact ⟨_, rfl, given_own H.out.1 (ord_len ho.out) (ord_ok ho.out), H.out.2⟩
end Go.Proofs.Ytnchjbgfmkmbaaa
