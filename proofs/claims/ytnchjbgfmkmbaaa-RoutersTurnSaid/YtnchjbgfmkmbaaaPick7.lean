/- One router is picked, walked once. No condition. -/
import Derived.Test.YtnchjbgfmkmbaaaPick
namespace Go.Proofs.Ytnchjbgfmkmbaaa
open Go.ChangeShapes Go.WideShapes Go.ChangeAt Go.RowKit Go.Deep
set_option linter.unusedVariables false
set_option linter.unusedSimpArgs false

theorem ones_b (x : List Int) : (bytesV x).all (·.oneCell') = true := all_oneCell_toArray (ints_one .u8 x)
/-- Which comes next. -/
def nextP (last : List Int) (had : Bool) (es : List E) : Nat := (idx (fun e => had && e.1 == last) (ord es) + 1).toNat % es.length
def pickS (good : List (List Int)) (es : List E) (last : List Int) (had : Bool) : List Int × Bool × List Int × Bool :=
  if es = [] then (zeroA, false, last, had)
  else match (ord es).find? (fun e => hasA good e.1) with
    | some e => (e.1, true, last, had)
    | none => (((ord es)[nextP last had es]?.map (·.1)).getD [], true, ((ord es)[nextP last had es]?.map (·.1)).getD [], true)
/-- While Pick runs. -/
structure Pk (w W : World) (B q p : Nat) (v : Value) (es : List E) (last : List Int) (had : Bool) : Prop where
  rl : Rl W B v es last had
  bel : Below w.heap.size w W
  kq : Blk W q 29 #[.pointer (some ⟨B, 0, none⟩)]
  kp : Blk W p 23 (bytesV zeroA)
section
variable {w W V : World} {B q p : Nat} {v : Value} {es : List E} {last : List Int} {had : Bool}
theorem Pk.to (h : Pk w W B q p v es last had) (hb : Below W.heap.size W V) : Pk w V B q p v es last had :=
  ⟨h.rl.to hb, h.bel.trans (hb.mono h.bel.size), h.kq.below hb h.kq.lt, h.kp.below hb h.kp.lt⟩
end
theorem res7 {tmps : Array Value} {W : World} {p : Nat} {a : List Int} {q : Bool} (ha : IsAddr a) (h4 : tmps.getD 4 undef = .pointer (some ⟨p, 0, none⟩)) (h5 : tmps.getD 5 undef = .bool q) (hc : Blk W p 23 (bytesV a)) : (results Try.f7 tmps).run Try.prog W = .ok (.tuple #[.agg (bytesV a), .bool q]) W := by
  obtain ⟨_, _, _, _, _, _, _, _, _, _, _, _, _, _, _, _, rfl⟩ := addr_ex ha
  simp only [Array.getD_eq_getD_getElem?] at h4 h5
  have hc' := fun i => hc.cell i
  simp [results, Try.results7, go_sem, h4, h5, hc', bytesV]
/-- What Pick says. -/
def PickSays (w : World) (B : Nat) (v : Value) (es : List E) (good : List (List Int)) (last : List Int) (had : Bool) (e : Ending) (w' : World) : Prop :=
  e = .returned (.tuple #[.agg (bytesV (pickS good es last had).1), .bool (pickS good es last had).2.1]) ∧ Rl w' B v es (pickS good es last had).2.2.1 (pickS good es last had).2.2.2 ∧ Fr (Own B v) w w'
theorem lcells_pick (v : Value) {last x : List Int} (hl : IsAddr last) (hx : IsAddr x) (had : Bool) : (over (lcells v last had) 1 (enc16 x)).setIfInBounds 17 (.bool true) = lcells v x true := by
  obtain ⟨_, _, _, _, _, _, _, _, _, _, _, _, _, _, _, _, rfl⟩ := addr_ex hl
  obtain ⟨_, _, _, _, _, _, _, _, _, _, _, _, _, _, _, _, rfl⟩ := addr_ex hx
  simp [lcells, over, enc16]

theorem Pk.ans {w W : World} {B q p : Nat} {v : Value} {es : List E} {last : List Int} {had : Bool} (h : Pk w W B q p v es last had) (hp : w.heap.size ≤ p) (hB : B < p) (ho : ∀ k, v.ownBlock = some k → k < p) (c' : Array Value) : Rl (W.setRow p c') B v es last had ∧ Fr (Own B v) w (W.setRow p c') := by
  have hb := below_setRow (Below.refl p W) (Nat.le_refl _) c'
  have F : Fr (fun k => p ≤ k) W (W.setRow p c') := ⟨hb.os, hb.tape, hb.output, hb.size, fun k hk hS => hb.block k (by omega)⟩
  exact ⟨h.rl.fr F (by omega) (fun k hk => by have := ho k hk; omega), Fr.of_below (h.bel.trans (hb.mono hp)) _⟩
theorem same_size {x : List Int} (hx : IsAddr x) : (bytesV zeroA).size = (bytesV x).size := by rw [bytesV_size, bytesV_size, hx.len]; rfl
theorem lcells_size (v : Value) {last : List Int} (had : Bool) (hl : IsAddr last) : (lcells v last had).size = 19 := by simp [lcells, hl.len]
/-- The picked one is kept. -/
theorem pick_turn {w W : World} {B q p : Nat} {v : Value} {es : List E} {last x : List Int} {had : Bool} (h : Pk w W B q p v es last had) (h1 : B < q) (h2 : B < p) (hx : IsAddr x) :
    (W.setCells B 1 (enc16 x)).cell? ⟨B, 17, none⟩ = some (.bool had) ∧ (W.setCells B 1 (enc16 x)).frozen? ⟨B, 17, none⟩ = false ∧
    Rl ((W.setCells B 1 (enc16 x)).setCell ⟨B, 17, none⟩ (.bool true)) B v es x true ∧ Fr (Own B v) w ((W.setCells B 1 (enc16 x)).setCell ⟨B, 17, none⟩ (.bool true)) ∧
    Blk ((W.setCells B 1 (enc16 x)).setCell ⟨B, 17, none⟩ (.bool true)) q 29 #[.pointer (some ⟨B, 0, none⟩)] ∧ Blk ((W.setCells B 1 (enc16 x)).setCell ⟨B, 17, none⟩ (.bool true)) p 23 (bytesV zeroA) := by
  have K1 := Blk.over (W := W) (enc16 x) 1 W (lcells v last had) h.rl.blk
  have F := (fr_cells W B (enc16 x) 1).trans ((Fr.refl (· = B) (W.setCells B 1 (enc16 x))).setB (i := 17) (.bool true))
  refine ⟨K1.at_ ?_, K1.frozen 17, ⟨?_, ownRow_fr h.rl.own F (fun k hk e => by have := (h.rl.own.lt k hk).1; omega), h.rl.ok, h.rl.four, hx⟩, (Fr.of_below h.bel _).trans (F.mono (fun k _ e => .inl e)), h.kq.fr F (by omega), h.kp.fr F (by omega)⟩
  · rw [over_out _ _ _ _ (.inr (by rw [isEnc16.len _ hx]; decide)), lcells, List.getElem?_toArray, List.getElem?_cons_succ, List.getElem?_append_right (by simp [h.rl.lastok.len])]
    simp [h.rl.lastok.len]
  · have := K1.set 17 (.bool true)
    rwa [lcells_pick v h.rl.lastok hx] at this
theorem ans2 {w W : World} {B p : Nat} {v : Value} {es : List E} {x : List Int} {b : Bool} (hr : Rl W B v es x b) (hf : Fr (Own B v) w W) (hp : w.heap.size ≤ p) (hB : B < p) (ho : ∀ k, v.ownBlock = some k → k < p) (c' : Array Value) : Rl (W.setRow p c') B v es x b ∧ Fr (Own B v) w (W.setRow p c') := by
  have hb := below_setRow (Below.refl p W) (Nat.le_refl _) c'
  have F : Fr (fun k => p ≤ k) W (W.setRow p c') := ⟨hb.os, hb.tape, hb.output, hb.size, fun k hk hS => hb.block k (by omega)⟩
  exact ⟨hr.fr F (by omega) (fun k hk => by have := ho k hk; omega), fr_past hf F (fun i hi => by omega)⟩
theorem find_none {p : E → Bool} {L : List E} (h : L.any p = false) : L.find? p = none := by
  rw [List.find?_eq_none]
  rw [List.any_eq_false] at h
  exact h
theorem find_at {p : E → Bool} : ∀ {L : List E} {j : Nat} {e : E}, L[j]? = some e → p e = true → (L.take j).any p = false → L.find? p = some e
  | [], j, e, h, _, _ => by simp at h
  | x :: L, 0, e, h, hp, _ => by simp at h; subst h; simp [List.find?, hp]
  | x :: L, j + 1, e, h, hp, hn => by
    simp at h
    simp only [List.take_succ_cons, List.any_cons, Bool.or_eq_false_iff] at hn
    rw [List.find?_cons_of_neg (by simp [hn.1]), find_at h hp hn.2]

set_option maxRecDepth 100000 in
set_option maxHeartbeats 8000000 in
theorem pick_any (w : World) (B : Nat) (v : Value) (es : List E) (last : List Int) (had : Bool) (h : Rl w B v es last had) (A : Option Addr) (n c : Nat) (good : List (List Int)) (hg : IsKA w w.heap.size A n c good) :
    Calls Try.prog 7 #[.pointer (some ⟨B, 0, none⟩), .slice A n c] w (PickSays w B v es good last had) := by
  obtain ⟨s, Ss⟩ : ∃ s, w.heap.size = s := ⟨_, rfl⟩
  have B1 : Below s w ((w.alloc (.cells #[.pointer (some ⟨B, 0, none⟩)] 29)).alloc (.cells (bytesV zeroA) 23)) := by rw [← Ss]; exact ((Below.refl _ w).alloc (Nat.le_refl _) _).alloc (by simp) _
  have hBs : B < s := by rw [← Ss]; exact h.lt
  have P1 : Hid (Pk w ((w.alloc (.cells #[.pointer (some ⟨B, 0, none⟩)] 29)).alloc (.cells (bytesV zeroA) 23)) B s (s + 1) v es last had) := by
    refine ⟨h.to (by rw [Ss]; exact B1), by rw [Ss]; exact B1, ?_, ?_⟩
    · rw [← Ss]; exact (Blk.new w 29 _).alloc _
    · have e : s + 1 = (w.alloc (.cells #[.pointer (some ⟨B, 0, none⟩)] 29)).heap.size := by simp [Ss]
      rw [e]; exact Blk.new _ 23 (bytesV zeroA)
  have hg' := hidd hg
  have h4 := h.four
  have hold := hidd (show ∀ k, v.ownBlock = some k → k < s + 1 from fun k hk => by have := (h.own.lt k hk).2; omega)
  obtain ⟨Av, cv, hAv⟩ := slice_of_own h.own
  subst hAv
  have hle := hidd (h.ok)
  have hla := hidd h.lastok
  clear B1 hg h
  rcases List.eq_nil_or_concat es with hes | ⟨es0, e0, hes⟩
  · subst hes
    go_enter Try.func7, Try.ntmps7
    go_wp2_with fail
    rw [show (#[.int .u8 0, .int .u8 0, .int .u8 0, .int .u8 0, .int .u8 0, .int .u8 0, .int .u8 0, .int .u8 0, .int .u8 0, .int .u8 0, .int .u8 0, .int .u8 0, .int .u8 0, .int .u8 0, .int .u8 0, .int .u8 0] : Array Value) = bytesV zeroA from rfl]
    generalize ((w.alloc (.cells #[.pointer (some ⟨B, 0, none⟩)] 29)).alloc (.cells (bytesV zeroA) 23)) = W1 at P1 ⊢
    have c1 := P1.out.kq.at_ (i := 0) rfl
    have cr := P1.out.rl.row
    refine Calls.mono (there_yes _ B P1.out.rl.made) ?_
    rintro e w2 ⟨rfl, rfl⟩
    go_wp2_with (with_reducible show wpList _ _ _ (⟨_, Op.store 23 (.tmp 4) _, _, _, _, _⟩ :: _) _ _; refine wpList_store_blk rfl rfl 23 (.tmp 4) _ rfl (s + 1) 23 (bytesV zeroA) (bytesV zeroA) P1.out.kp rfl rfl (size_a zeroA_is) rfl (ones_b zeroA) ?_)
    obtain ⟨a1, a2⟩ := P1.out.ans (by omega) (by omega) hold.out (bytesV zeroA)
    refine bodyPost_ret (res7 zeroA_is rfl rfl (P1.out.kp.setRow _)) rfl ⟨?_, ?_, a2⟩
    · rfl
    · exact a1
  · have hen : es ≠ [] := by rw [hes]; simp
    have hlen : 0 < es.length := List.length_pos_iff.2 hen
    have hz : ((es.length : Int) == 0) = false := by simp [hen]
    clear hes
    go_enter Try.func7, Try.ntmps7
    go_wp2_with fail
    rw [show (#[.int .u8 0, .int .u8 0, .int .u8 0, .int .u8 0, .int .u8 0, .int .u8 0, .int .u8 0, .int .u8 0, .int .u8 0, .int .u8 0, .int .u8 0, .int .u8 0, .int .u8 0, .int .u8 0, .int .u8 0, .int .u8 0] : Array Value) = bytesV zeroA from rfl]
    generalize ((w.alloc (.cells #[.pointer (some ⟨B, 0, none⟩)] 29)).alloc (.cells (bytesV zeroA) 23)) = W1 at P1 ⊢
    have c1 := P1.out.kq.at_ (i := 0) rfl
    have cr := P1.out.rl.row
    refine Calls.mono (there_yes _ B P1.out.rl.made) ?_
    have hO := hidd (ordered_any W1 B _ es last had P1.out.rl)
    rintro e w2 ⟨rfl, rfl⟩
    go_wp2_with fail
    refine Calls.mono hO.out ?_
    rintro e w3 ⟨ov, rfl, o3, b3⟩
    obtain ⟨Ao, co, rfl⟩ := slice_of_own o3
    obtain ⟨m, hm⟩ : ∃ m, es.length = m := ⟨_, rfl⟩
    have hol := ord_len hle.out
    obtain ⟨L, hL⟩ : ∃ L, ord es = L := ⟨_, rfl⟩
    have hLo := hidd (show ∀ e ∈ L, IsE e from by rw [← hL]; exact ord_ok hle.out)
    rw [hL] at o3 hol
    rw [hm] at o3 h4 hol hlen hz ⊢
    obtain ⟨lo, Slo⟩ : ∃ lo, W1.heap.size = lo := ⟨_, rfl⟩
    rw [Slo] at o3
    have q1 := (Rd.of_own o3).cap
    have q2 := (Rd.of_own o3).cmax
    unfold maxLen at q2
    have T0 : Hid (Pk w w3 B s (s + 1) (.slice Av es.length cv) es last had ∧ w3.ownsRow lo 48 18 (.slice Ao m co) m (flat L)) := ⟨P1.out.to b3, o3⟩
    have hs2 : s + 1 < lo := by have := P1.out.kp.lt; omega
    have hs0 : w.heap.size ≤ s := by omega
    have hm' := hidd hm
    have hL' := hidd hL
    clear c1 cr o3 b3 hO P1 hm hL
    go_wp2
    go_loopw [26] (fun i wr => ∃ j : Nat, j ≤ m ∧ i = .int .i64 j ∧ (Pk w wr B s (s + 1) (.slice Av es.length cv) es last had ∧ wr.ownsRow lo 48 18 (.slice Ao m co) m (flat L)) ∧ (L.take j).any (fun e => hasA good e.1) = false) (fun i _ => m - (intOf i).toNat)
    case atStart => exact ⟨0, Nat.zero_le _, rfl, T0.out, rfl⟩
    case round =>
      obtain ⟨j, hj, rfl, hT, hno⟩ := hrel
      have T1 := hidd hT
      clear T0 hT
      by_cases hjn : j < m
      · obtain ⟨e, he⟩ : ∃ e, L[j]? = some e := ⟨_, List.getElem?_eq_getElem (by omega)⟩
        have hE := hidd (hLo.out e (List.mem_of_getElem? he))
        have ht := hidd (take_any he hno)
        obtain ⟨g0, c0, hA, hb0, _⟩ := own_pos T1.out.2 (by omega)
        injection hA with hA hA2 hA3
        subst hA hA3
        have l0 := hidd (loadE hE.out (own_range T1.out.2 isEnc hol hLo.out he))
        obtain ⟨s8, Ss8⟩ : ∃ s8, wr.heap.size = s8 := ⟨_, rfl⟩
        have hjz : (j : Int) < (m : Int) := by omega
        have hfd := hidd (show hasA good e.1 = true → L.find? (fun e => hasA good e.1) = some e from fun h => find_at he h hno)
        have B1 := (Below.refl s8 wr).alloc (by omega) (.cells (encV e) 48)
        have T2 : Hid (Pk w (wr.alloc (.cells (encV e) 48)) B s (s + 1) (.slice Av es.length cv) es last had ∧ (wr.alloc (.cells (encV e) 48)).ownsRow lo 48 18 (.slice (some ⟨g0, 0, none⟩) m co) m (flat L)) := ⟨T1.out.1.to (by rw [Ss8]; exact B1), own_al T1.out.2 _⟩
        have K2 : Hid (Blk (wr.alloc (.cells (encV e) 48)) s8 48 (encV e)) := by rw [← Ss8]; exact Blk.new wr 48 (encV e)
        have l2 := hidd (K2.out.part (P := Try.prog) (at_enc hE.out) Try.underlying23 rfl (by rw [hE.out.addr.len]; exact info23))
        have hC := hidd (contains_any (wr.alloc (.cells (encV e) 48)) A n c good ((hg'.out.below T2.out.1.bel).more T2.out.1.bel.size) e.1 hE.out.addr)
        clear he hno B1 T1
        cases hgd : hasA good e.1
        · rw [hgd] at ht hC
          go_wp2_with (first
            | (with_reducible show wpList _ _ _ (⟨_, Op.load 48 _, _, _, _, _⟩ :: _) _ _; refine wpList_load_want (by kernel_rfl) 48 _ rfl _ rfl _ (by with_reducible exact l0.out) ?_)
            | (with_reducible show wpList _ _ _ (⟨_, Op.store 48 (.tmp 8) _, _, _, _, _⟩ :: _) _ _
               refine wpList_store_new rfl rfl 48 (.tmp 8) _ rfl _ _ (encV e) rfl Ss8.symm rfl (size_enc hE.out) (Eq.trans (b := 18) (by kernel_rfl) (encV_size hE.out).symm) (ones_enc e) ?_
               generalize wr.alloc (.cells (encV e) 48) = V2 at T2 K2 l2 hC ⊢
               clear l0)
            | (with_reducible show wpList _ _ _ (⟨_, Op.load 23 _, _, _, _, _⟩ :: _) _ _; refine wpList_load_want (by kernel_rfl) 23 _ rfl _ rfl _ (by with_reducible exact l2.out) ?_))
          refine Calls.mono hC.out ?_
          rintro e V3 ⟨rfl, b3⟩
          have T3 : Hid (Pk w V3 B s (s + 1) (.slice Av es.length cv) es last had ∧ V3.ownsRow lo 48 18 (.slice (some ⟨g0, 0, none⟩) m co) m (flat L)) := ⟨T2.out.1.to b3, ownRow_fr T2.out.2 (Fr.of_below b3 (fun _ => False)) (fun _ _ e => e)⟩
          clear T2 K2 l2 hC b3
          go_wp2
          go_roundw
          case rel => exact ⟨j + 1, by omega, by go_num, T3.out, ht.out⟩
          case measure => simp [intOf]; omega
        · rw [hgd] at ht hC
          go_wp2_with (first
            | (with_reducible show wpList _ _ _ (⟨_, Op.load 48 _, _, _, _, _⟩ :: _) _ _; refine wpList_load_want (by kernel_rfl) 48 _ rfl _ rfl _ (by with_reducible exact l0.out) ?_)
            | (with_reducible show wpList _ _ _ (⟨_, Op.store 48 (.tmp 8) _, _, _, _, _⟩ :: _) _ _
               refine wpList_store_new rfl rfl 48 (.tmp 8) _ rfl _ _ (encV e) rfl Ss8.symm rfl (size_enc hE.out) (Eq.trans (b := 18) (by kernel_rfl) (encV_size hE.out).symm) (ones_enc e) ?_
               generalize wr.alloc (.cells (encV e) 48) = V2 at T2 K2 l2 hC ⊢
               clear l0)
            | (with_reducible show wpList _ _ _ (⟨_, Op.load 23 _, _, _, _, _⟩ :: _) _ _; refine wpList_load_want (by kernel_rfl) 23 _ rfl _ rfl _ (by with_reducible exact l2.out) ?_))
          refine Calls.mono hC.out ?_
          rintro e' V3 ⟨rfl, b3⟩
          have T3 : Hid (Pk w V3 B s (s + 1) (.slice Av es.length cv) es last had) := T2.out.1.to b3
          have l3 := hidd ((K2.out.below b3 K2.out.lt).part (P := Try.prog) (at_enc hE.out) Try.underlying23 rfl (by rw [hE.out.addr.len]; exact info23))
          clear T2 K2 l2 hC b3
          go_wp2_with (first
            | (with_reducible show wpList _ _ _ (⟨_, Op.load 23 _, _, _, _, _⟩ :: _) _ _; refine wpList_load_want (by kernel_rfl) 23 _ rfl _ rfl _ (by with_reducible exact l3.out) ?_)
            | (with_reducible show wpList _ _ _ (⟨_, Op.store 23 (.tmp 4) _, _, _, _, _⟩ :: _) _ _; refine wpList_store_blk rfl rfl 23 (.tmp 4) _ rfl (s + 1) 23 (bytesV zeroA) (bytesV e.1) T3.out.kp rfl rfl (size_a hE.out.addr) (same_size hE.out.addr) (ones_b e.1) ?_))
          obtain ⟨a1, a2⟩ := T3.out.ans (by omega) (by omega) hold.out (bytesV e.1)
          have hp := hidd (show pickS good es last had = (e.1, true, last, had) from by rw [pickS, if_neg hen, hL'.out, hfd.out hgd])
          refine bodyPost_ret (res7 hE.out.addr rfl rfl (T3.out.kp.setRow _)) rfl ?_
          rw [PickSays, hp.out]
          exact ⟨rfl, a1, a2⟩
      · have hjn' : j = m := by omega
        subst hjn'
        rw [List.take_of_length_le (by omega)] at hno
        have hno' := hidd hno
        clear hno
        obtain ⟨k, hk⟩ : ∃ k : Nat, idx (fun e => had && e.1 == last) L + 1 = (k : Int) := ⟨(idx (fun e => had && e.1 == last) L + 1).toNat, by have := (idx_range (p := fun e : E => had && e.1 == last) L).1; omega⟩
        have hkj : k ≤ j := by have := (idx_range (p := fun e : E => had && e.1 == last) L).2; omega
        have hwk : IntKind.i64.wrap (idx (fun e => had && e.1 == last) L + 1) = (k : Int) := by rw [hk]; exact IntWalk.i64_in _ (by omega)
        have hnx : nextP last had es = k % j := by rw [nextP, hL'.out, hm'.out, hk]; rfl
        have hI := hidd (index_any wr Ao j co L (Ls.of_own T1.out.2 hol hLo.out) (fun e => had && e.1 == last) _ 21 (fun _ => False) (.inr rfl) (last_pred wr (fun _ => False) s B _ last had hla.out T1.out.1.kq T1.out.1.rl.blk id id))
        have hnx' := hidd hnx
        obtain ⟨x, hx⟩ : ∃ x : Nat, k % j = x := ⟨_, rfl⟩
        have hxj : x < j := by rw [← hx]; exact Nat.mod_lt _ hlen
        have hmd : (k : Int).tmod (j : Int) = (x : Int) := by rw [← hx]; rfl
        obtain ⟨y, hy⟩ : ∃ y, L[x]? = some y := ⟨_, List.getElem?_eq_getElem (by omega)⟩
        have hY := hidd (hLo.out y (List.mem_of_getElem? hy))
        have hy' := hidd hy
        obtain ⟨g0, c0, hA, hb0, _⟩ := own_pos T1.out.2 (by omega)
        injection hA with hA hA2 hA3
        subst hA hA3
        have hxe := hidd hx
        have hj0 : ¬ j = 0 := by omega
        clear hk hnx hx hy
        go_wp2_with fail
        refine Calls.mono hI.out ?_
        rintro e W5 ⟨rfl, b5⟩
        have T5 : Hid (Pk w W5 B s (s + 1) (.slice Av es.length cv) es last had ∧ W5.ownsRow lo 48 18 (.slice (some ⟨g0, 0, none⟩) j co) j (flat L)) := ⟨T1.out.1.to b5, ownRow_fr T1.out.2 (Fr.of_below b5 (fun _ => False)) (fun _ _ e => e)⟩
        have S5 : Hid (W5.drew.cell? ⟨s, 0, none⟩ = some (.pointer (some ⟨B, 0, none⟩)) ∧ (loadVar 23 ⟨g0, x * 18, none⟩).run Try.prog W5.drew = .ok (.agg (bytesV y.1)) W5.drew) := ⟨T5.out.1.kq.drew.at_ rfl, loadA hY.out (own_range (own_drew T5.out.2) isEnc hol hLo.out hy'.out)⟩
        have T6 : Hid (Pk w W5.drew B s (s + 1) (.slice Av es.length cv) es last had ∧ W5.drew.ownsRow lo 48 18 (.slice (some ⟨g0, 0, none⟩) j co) j (flat L)) := ⟨T5.out.1.to (Below.refl _ _).drew, own_drew T5.out.2⟩
        have keep : ∀ D : World, (Pk w D B s (s + 1) (.slice Av es.length cv) es last had ∧ D.ownsRow lo 48 18 (.slice (some ⟨g0, 0, none⟩) j co) j (flat L)) → ((D.setCells B 1 (enc16 y.1)).cell? ⟨s, 0, none⟩ = some (.pointer (some ⟨B, 0, none⟩)) ∧ (loadVar 23 ⟨g0, x * 18, none⟩).run Try.prog (D.setCells B 1 (enc16 y.1)) = .ok (.agg (bytesV y.1)) (D.setCells B 1 (enc16 y.1))) ∧
            (((D.setCells B 1 (enc16 y.1)).setCell ⟨B, 17, none⟩ (.bool true)).cell? ⟨s, 0, none⟩ = some (.pointer (some ⟨B, 0, none⟩)) ∧ (loadVar 23 ⟨g0, x * 18, none⟩).run Try.prog ((D.setCells B 1 (enc16 y.1)).setCell ⟨B, 17, none⟩ (.bool true)) = .ok (.agg (bytesV y.1)) ((D.setCells B 1 (enc16 y.1)).setCell ⟨B, 17, none⟩ (.bool true))) := fun D h => by
          have F1 := fr_cells D B (enc16 y.1) 1
          have F2 := F1.trans ((Fr.refl (· = B) (D.setCells B 1 (enc16 y.1))).setB (i := 17) (.bool true))
          have hlB : ∀ k, (Value.slice (some ⟨g0, 0, none⟩) j co).ownBlock = some k → ¬ k = B := fun k hk e => by have := (h.2.lt k hk).1; omega
          exact ⟨⟨(h.1.kq.fr F1 (by omega)).at_ rfl, loadA hY.out (own_range (ownRow_fr h.2 F1 hlB) isEnc hol hLo.out hy'.out)⟩, ⟨(h.1.kq.fr F2 (by omega)).at_ rfl, loadA hY.out (own_range (ownRow_fr h.2 F2 hlB) isEnc hol hLo.out hy'.out)⟩⟩
        clear T1 hI b5 T5
        go_wp2
        refine wp_region_held_drew (S := (fun V => V.cell? ⟨s, 0, none⟩ = some (.pointer (some ⟨B, 0, none⟩)) ∧ (loadVar 23 ⟨g0, x * 18, none⟩).run Try.prog V = .ok (.agg (bytesV y.1)) V)) (by kernel_rfl) S5.out (fun hHeld => ?_)
        generalize W5.drew = D at S5 T6 hHeld ⊢
        refine wpAnyH_take (i := 0) (v := ?_) rfl (by kernel_rfl) (by kernel_rfl) (by kernel_rfl) (fun _ _ _ h => h) (Or.inl ⟨by kernel_rfl, ?_⟩) hHeld ?_
        rotate_left
        · intro wh hSw
          have hcell := hSw.1
          go_simp
          try with_reducible rfl
        try simp only [Act.put, List.getElem_toArray, List.getElem_cons_zero, List.getElem_cons_succ, List.setIfInBounds_toArray, List.set_cons_zero, List.set_cons_succ]
        refine wpAnyH_take (i := 1) (v := ?_) rfl (by kernel_rfl) (by kernel_rfl) (by kernel_rfl) (fun _ _ _ h => h) (Or.inl ⟨by kernel_rfl, ?_⟩) hHeld ?_
        rotate_left
        · intro wh hSw
          have hcell := hSw.1
          go_simp
          try with_reducible rfl
        try simp only [Act.put, List.getElem_toArray, List.getElem_cons_zero, List.getElem_cons_succ, List.setIfInBounds_toArray, List.set_cons_zero, List.set_cons_succ]
        refine wpAnyH_take (i := 2) (v := ?_) rfl (by kernel_rfl) (by kernel_rfl) (by kernel_rfl) (fun _ _ _ h => h) (Or.inl ⟨by kernel_rfl, ?_⟩) hHeld ?_
        rotate_left
        · intro wh hSw
          go_simp
          try with_reducible rfl
        try simp only [Act.put, List.getElem_toArray, List.getElem_cons_zero, List.getElem_cons_succ, List.setIfInBounds_toArray, List.set_cons_zero, List.set_cons_succ]
        refine wpAnyH_take (i := 3) (v := ?_) rfl (by kernel_rfl) (by kernel_rfl) (by kernel_rfl) (fun _ _ _ h => h) (Or.inl ⟨by kernel_rfl, ?_⟩) hHeld ?_
        rotate_left
        · intro wh hSw
          go_simp
          try with_reducible rfl
        try simp only [Act.put, List.getElem_toArray, List.getElem_cons_zero, List.getElem_cons_succ, List.setIfInBounds_toArray, List.set_cons_zero, List.set_cons_succ]
        refine wpAnyH_take (i := 4) (v := ?_) rfl (by kernel_rfl) (by kernel_rfl) (by kernel_rfl) (fun _ _ _ h => h) (Or.inl ⟨by kernel_rfl, ?_⟩) hHeld ?_
        rotate_left
        · intro wh hSw
          go_simp
          try with_reducible rfl
        try simp only [Act.put, List.getElem_toArray, List.getElem_cons_zero, List.getElem_cons_succ, List.setIfInBounds_toArray, List.set_cons_zero, List.set_cons_succ]
        refine wpAnyH_take (i := 5) (v := ?_) rfl (by kernel_rfl) (by kernel_rfl) (by kernel_rfl) (fun _ _ _ h => h) (Or.inl ⟨by kernel_rfl, ?_⟩) hHeld ?_
        rotate_left
        · intro wh hSw
          go_simp
          try with_reducible rfl
        try simp only [Act.put, List.getElem_toArray, List.getElem_cons_zero, List.getElem_cons_succ, List.setIfInBounds_toArray, List.set_cons_zero, List.set_cons_succ]
        refine wpAnyH_take (i := 6) (v := ?_) rfl (by kernel_rfl) (by kernel_rfl) (by kernel_rfl) (fun _ _ _ h => h) (Or.inl ⟨by kernel_rfl, ?_⟩) hHeld ?_
        rotate_left
        · intro wh hSw
          go_simp
          try with_reducible rfl
        try simp only [Act.put, List.getElem_toArray, List.getElem_cons_zero, List.getElem_cons_succ, List.setIfInBounds_toArray, List.set_cons_zero, List.set_cons_succ]
        refine wpAnyH_take (i := 7) (v := ?_) rfl (by kernel_rfl) (by kernel_rfl) (by kernel_rfl) (fun _ _ _ h => h) (Or.inl ⟨by kernel_rfl, ?_⟩) hHeld ?_
        rotate_left
        · intro wh hSw
          go_simp
          try with_reducible rfl
        try simp only [Act.put, List.getElem_toArray, List.getElem_cons_zero, List.getElem_cons_succ, List.setIfInBounds_toArray, List.set_cons_zero, List.set_cons_succ]
        refine wpAnyH_take (i := 8) (v := ?_) rfl (by kernel_rfl) (by kernel_rfl) (by kernel_rfl) (fun _ _ _ h => h) (Or.inl ⟨by kernel_rfl, ?_⟩) hHeld ?_
        rotate_left
        · intro wh hSw
          go_simp
          try with_reducible rfl
        try simp only [Act.put, List.getElem_toArray, List.getElem_cons_zero, List.getElem_cons_succ, List.setIfInBounds_toArray, List.set_cons_zero, List.set_cons_succ]
        refine wpAnyH_take (i := 9) rfl (by kernel_rfl) (by kernel_rfl) (by kernel_rfl) (fun _ _ _ h => h) (yieldsIf_load_want (by kernel_rfl) 23 _ rfl _ rfl _ (fun wh hSw => hSw.2)) hHeld ?_
        try simp only [Act.put, List.getElem_toArray, List.getElem_cons_zero, List.getElem_cons_succ, List.setIfInBounds_toArray, List.set_cons_zero, List.set_cons_succ]
        refine wpAnyH_take (i := 10) (v := ?_) rfl (by kernel_rfl) (by kernel_rfl) (by kernel_rfl) (fun _ _ _ h => h) (Or.inl ⟨by kernel_rfl, ?_⟩) hHeld ?_
        rotate_left
        · intro wh hSw
          go_simp
          try with_reducible rfl
        try simp only [Act.put, List.getElem_toArray, List.getElem_cons_zero, List.getElem_cons_succ, List.setIfInBounds_toArray, List.set_cons_zero, List.set_cons_succ]
        refine wpAnyH_take (i := 11) (v := ?_) rfl (by kernel_rfl) (by kernel_rfl) (by kernel_rfl) (fun _ _ _ h => h) (Or.inl ⟨by kernel_rfl, ?_⟩) hHeld ?_
        rotate_left
        · intro wh hSw
          go_simp
          try with_reducible rfl
        try simp only [Act.put, List.getElem_toArray, List.getElem_cons_zero, List.getElem_cons_succ, List.setIfInBounds_toArray, List.set_cons_zero, List.set_cons_succ]
        refine wpAnyH_ready (rs := [12]) (by kernel_rfl) (by simp) (AllReadyH.cons rfl (fun K hK => ?_) AllReadyH.nil)
        clear hHeld
        refine step_store_vals D rfl rfl 23 (.tmp 52) (.tmp 50) rfl B 1 (enc16 y.1) rfl rfl (by rw [isEnc16.len _ hY.out.addr]; exact Blk.there T6.out.1.rl.blk (by rw [lcells_size _ _ hla.out]; decide)) (by rw [isEnc16.len _ hY.out.addr]; exact info23) (isEnc16.one _) ?_
        have S6 := hidd (keep _ T6.out)
        have U6 := hidd (pick_turn T6.out.1 (by omega) (by omega) hY.out.addr)
        have c17 := U6.out.1
        have z17 := U6.out.2.1
        have U7 := hidd U6.out.2.2
        clear U6
        refine hK.out _ _ S6.out.1 (fun hHeld => ?_)
        clear hK K
        try simp only [Act.put, List.getElem_toArray, List.getElem_cons_zero, List.getElem_cons_succ, List.setIfInBounds_toArray, List.set_cons_zero, List.set_cons_succ]
        refine wpAnyH_take (i := 13) (v := ?_) rfl (by kernel_rfl) (by kernel_rfl) (by kernel_rfl) (fun _ _ _ h => h) (Or.inl ⟨by kernel_rfl, ?_⟩) hHeld ?_
        rotate_left
        · intro wh hSw
          go_simp
          try with_reducible rfl
        try simp only [Act.put, List.getElem_toArray, List.getElem_cons_zero, List.getElem_cons_succ, List.setIfInBounds_toArray, List.set_cons_zero, List.set_cons_succ]
        refine wpAnyH_take (i := 14) (v := ?_) rfl (by kernel_rfl) (by kernel_rfl) (by kernel_rfl) (fun _ _ _ h => h) (Or.inl ⟨by kernel_rfl, ?_⟩) hHeld ?_
        rotate_left
        · intro wh hSw
          go_simp
          try with_reducible rfl
        try simp only [Act.put, List.getElem_toArray, List.getElem_cons_zero, List.getElem_cons_succ, List.setIfInBounds_toArray, List.set_cons_zero, List.set_cons_succ]
        refine wpAnyH_ready (rs := [15]) (by kernel_rfl) (by simp) (AllReadyH.cons rfl (fun K hK => ?_) AllReadyH.nil)
        clear hHeld
        go_simp
        refine hK.out _ _ S6.out.2 (fun hHeld => ?_)
        clear hK K
        try simp only [Act.put, List.getElem_toArray, List.getElem_cons_zero, List.getElem_cons_succ, List.setIfInBounds_toArray, List.set_cons_zero, List.set_cons_succ]
        refine wpAnyH_done (by kernel_rfl) ?_ _
        clear hHeld
        clear S5 S6 T6 keep c17 z17
        generalize (D.setCells B 1 (enc16 y.1)).setCell ⟨B, 17, none⟩ (.bool true) = W7 at U7 ⊢
        have cq := U7.out.2.2.1.at_ (i := 0) rfl
        have ll := hidd U7.out.1.lastl
        go_wp2_with (first
          | (with_reducible show wpList _ _ _ (⟨_, Op.load 23 _, _, _, _, _⟩ :: _) _ _; refine wpList_load_want (by kernel_rfl) 23 _ rfl _ rfl _ (by with_reducible exact ll.out) ?_)
          | (with_reducible show wpList _ _ _ (⟨_, Op.store 23 (.tmp 4) _, _, _, _, _⟩ :: _) _ _; refine wpList_store_blk rfl rfl 23 (.tmp 4) _ rfl (s + 1) 23 (bytesV zeroA) (bytesV y.1) U7.out.2.2.2 rfl rfl (size_a hY.out.addr) (same_size hY.out.addr) (ones_b y.1) ?_))
        obtain ⟨a1, a2⟩ := ans2 U7.out.1 U7.out.2.1 (p := s + 1) (by omega) (by omega) hold.out (bytesV y.1)
        have hp := hidd (show pickS good es last had = (y.1, true, y.1, true) from by rw [pickS, if_neg hen, hL'.out, find_none hno'.out, hnx'.out, hxe.out, hy'.out]; rfl)
        refine bodyPost_ret (res7 hY.out.addr rfl rfl (U7.out.2.2.2.setRow _)) rfl ?_
        rw [PickSays, hp.out]
        exact ⟨rfl, a1, a2⟩
end Go.Proofs.Ytnchjbgfmkmbaaa
