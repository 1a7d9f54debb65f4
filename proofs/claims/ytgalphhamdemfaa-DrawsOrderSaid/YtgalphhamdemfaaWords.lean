/- Package draws: each function walked once over a block that holds the words that wait. No condition but that the object was made, or is nil. -/
import Derived.Test.YtgalphhamdemfaaRows
import Derived.Test.YtgalphhamdemfaaMem
import Derived.Deep.QuietTactic
import Derived.BigQuiet
namespace Go.Proofs.Ytgalphhamdemfaa
open Go.ChangeShapes Go.WideShapes Go.ChangeAt Go.RowKit
set_option linter.unusedVariables false

/-- The cells of the words that wait: L, from place f of the ring on. -/
structure WC (cs : Array Value) (f : Nat) (L : List Int) : Prop where
  size : cs.size = 259
  flt : f < 256
  llen : L.length ≤ 256
  ring : ∀ i, i < 256 → ∃ x : Int, cs[i]? = some (.int .u32 x)
  elem : ∀ i, i < L.length → cs[(f + i) % 256]? = some (.int .u32 (L[i]?.getD 0))
  fst : cs[256]? = some (.int .i64 f)
  many : cs[257]? = some (.int .i64 L.length)
  made : cs[258]? = some (.bool true)
  rng : ∀ x ∈ L, 0 ≤ x ∧ x ≤ 4294967295

theorem get_set (cs : Array Value) (i j : Nat) (u : Value) (hi : i < cs.size) : (cs.setIfInBounds i u)[j]? = if i = j then some u else cs[j]? := by
  rw [Array.getElem?_setIfInBounds]
  split <;> simp_all

theorem WC.push {cs : Array Value} {f : Nat} {L : List Int} {x : Int} (h : WC cs f L) (hl : L.length < 256) (h0 : 0 ≤ x) (h1 : x ≤ 4294967295) :
    WC ((cs.setIfInBounds ((f + L.length) % 256) (.int .u32 x)).setIfInBounds 257 (.int .i64 ((L.length : Int) + 1))) f (L ++ [x]) := by
  have hs := h.size
  have hf := h.flt
  have hm : (f + L.length) % 256 < 256 := Nat.mod_lt _ (by omega)
  refine ⟨by simp [hs], hf, by simp; omega, fun i hi => ?_, fun i hi => ?_, ?_, ?_, ?_, fun y hy => ?_⟩
  · rw [get_set _ _ _ _ (by simp; omega), if_neg (by omega), get_set _ _ _ _ (by omega)]
    split
    · exact ⟨x, rfl⟩
    · exact h.ring i hi
  · have hm2 : (f + i) % 256 < 256 := Nat.mod_lt _ (by omega)
    rw [get_set _ _ _ _ (by simp; omega), if_neg (by omega), get_set _ _ _ _ (by omega)]
    simp at hi
    by_cases hil : i = L.length
    · subst hil
      rw [if_pos rfl]
      simp
    · rw [if_neg (by omega), h.elem i (by omega)]
      rw [List.getElem?_append_left (by omega)]
  · rw [get_set _ _ _ _ (by simp; omega), if_neg (by omega), get_set _ _ _ _ (by omega), if_neg (by omega)]
    exact h.fst
  · rw [get_set _ _ _ _ (by simp; omega), if_pos rfl]
    simp
  · rw [get_set _ _ _ _ (by simp; omega), if_neg (by omega), get_set _ _ _ _ (by omega), if_neg (by omega)]
    exact h.made
  · rcases List.mem_append.1 hy with hy | hy
    · exact h.rng y hy
    · simp at hy
      subst hy
      exact ⟨h0, h1⟩

theorem WC.pop {cs : Array Value} {f : Nat} {L : List Int} {x : Int} (h : WC cs f (x :: L)) :
    WC ((cs.setIfInBounds 256 (.int .i64 (((f : Int) + 1) % 256))).setIfInBounds 257 (.int .i64 (L.length : Int))) ((f + 1) % 256) L := by
  have hs := h.size
  have hf := h.flt
  have hl := h.llen
  simp at hl
  refine ⟨by simp [hs], by omega, by omega, fun i hi => ?_, fun i hi => ?_, ?_, ?_, ?_, fun y hy => h.rng y (List.mem_cons_of_mem _ hy)⟩
  · rw [get_set _ _ _ _ (by simp; omega), if_neg (by omega), get_set _ _ _ _ (by omega), if_neg (by omega)]
    exact h.ring i hi
  · have hm2 : ((f + 1) % 256 + i) % 256 < 256 := Nat.mod_lt _ (by omega)
    rw [get_set _ _ _ _ (by simp; omega), if_neg (by omega), get_set _ _ _ _ (by omega), if_neg (by omega)]
    have := h.elem (i + 1) (by simp; omega)
    rw [show ((f + 1) % 256 + i) % 256 = (f + (i + 1)) % 256 by omega, this]
    simp
  · rw [get_set _ _ _ _ (by simp; omega), if_neg (by omega), get_set _ _ _ _ (by omega), if_pos rfl]
    simp
  · rw [get_set _ _ _ _ (by simp; omega), if_pos rfl]
  · rw [get_set _ _ _ _ (by simp; omega), if_neg (by omega), get_set _ _ _ _ (by omega), if_neg (by omega)]
    exact h.made

/-- Block b holds words that were made; L wait. -/
def IsW (w : World) (b : Nat) (L : List Int) : Prop := ∃ cs f, Blk w b 43 cs ∧ WC cs f L
theorem IsW.fr {w w' : World} {b : Nat} {L : List Int} {S : Nat → Prop} (h : IsW w b L) (hf : Fr S w w') (hb : ¬ S b) : IsW w' b L := by
  obtain ⟨cs, f, h1, h2⟩ := h
  exact ⟨cs, f, h1.fr hf hb, h2⟩
theorem IsW.lt {w : World} {b : Nat} {L : List Int} (h : IsW w b L) : b < w.heap.size := by
  obtain ⟨cs, f, h1, h2⟩ := h
  exact h1.lt

set_option maxRecDepth 100000 in
set_option maxHeartbeats 1000000 in
theorem place_any (w : World) (b f i : Nat) (z : Int) (hz : z = i) (hf : f < 256) (hi : i ≤ 256) (h : w.cell? ⟨b, 256, none⟩ = some (.int .i64 f)) :
    Calls Try.prog 21 #[.pointer (some ⟨b, 0, none⟩), .int .i64 z] w fun e w' => e = .returned (.pointer (some ⟨b, (f + i) % 256, none⟩)) ∧ w.drew = w' := by
  subst hz
  go_enter Try.func21, Try.ntmps21
  go_wp2
  go_region
  go_wp2
  go_ret
  exact ⟨rfl, rfl⟩

theorem place_zero (w : World) (b f : Nat) (hf : f < 256) (h : w.cell? ⟨b, 256, none⟩ = some (.int .i64 f)) :
    Calls Try.prog 21 #[.pointer (some ⟨b, 0, none⟩), .int .i64 0] w fun e w' => e = .returned (.pointer (some ⟨b, f, none⟩)) ∧ w.drew = w' := by
  have := place_any w b f 0 0 rfl hf (by omega) h
  rwa [show (f + 0) % 256 = f by omega] at this

theorem drew_fr (S : Nat → Prop) (w : World) : Fr S w w.drew := (Fr.refl S w).drew

set_option maxRecDepth 100000 in
set_option maxHeartbeats 1000000 in
theorem next_yes (w : World) (b : Nat) (x : Int) (L : List Int) (h : IsW w b (x :: L)) :
    Calls Try.prog 14 #[.pointer (some ⟨b, 0, none⟩)] w fun e w' => e = .returned (.int .u32 x) ∧ IsW w' b L ∧ Fr (· = b) w w' := by
  obtain ⟨cs, f, hb, hc⟩ := h
  have hf := hc.flt
  have hl := hc.llen
  simp only [List.length_cons] at hl
  have c0 : w.cell? ⟨b, f, none⟩ = some (.int .u32 x) := hb.at_ (by have := hc.elem 0 (by simp); rw [Nat.add_zero, Nat.mod_eq_of_lt hf] at this; simpa using this)
  have c1 : w.cell? ⟨b, 256, none⟩ = some (.int .i64 f) := hb.at_ hc.fst
  have c2 : w.cell? ⟨b, 257, none⟩ = some (.int .i64 ((L.length : Int) + 1)) := hb.at_ (by have := hc.many; simpa using this)
  have f1 : w.frozen? ⟨b, 256, none⟩ = false := hb.frozen 256
  have f2 : w.frozen? ⟨b, 257, none⟩ = false := hb.frozen 257
  have hn : ((L.length : Int) + 1 == 0) = false := by simp; omega
  have hfin := hidd hc.pop
  have hB := hidd hb
  clear hc hb
  go_enter Try.func14, Try.ntmps14
  go_wp2_with (go_at_call 21; refine (place_zero _ b f hf c1).mono ?_; rintro e w' ⟨rfl, rfl⟩)
  go_ret
  exact ⟨rfl, ⟨_, _, ((hB.out.set 256 _).set 257 _).drew, hfin.out⟩, by repeat (first | exact Fr.refl _ _ | refine Fr.drew ?_ | refine Fr.setB ?_ _)⟩

set_option maxRecDepth 100000 in
theorem next_no (w : World) (b : Nat) (h : w.cell? ⟨b, 257, none⟩ = some (.int .i64 0)) :
    Calls Try.prog 14 #[.pointer (some ⟨b, 0, none⟩)] w fun e w' => e = .returned (.int .u32 0) ∧ w = w' := by
  go_enter Try.func14, Try.ntmps14
  go_wp2
  go_ret
  exact ⟨rfl, rfl⟩
theorem next_nil (w : World) :
    Calls Try.prog 14 #[.pointer none] w fun e w' => e = .returned (.int .u32 0) ∧ w = w' := by
  go_enter Try.func14, Try.ntmps14
  go_wp2
  go_ret
  exact ⟨rfl, rfl⟩
theorem IsW.none_cell {w : World} {b : Nat} (h : IsW w b []) : w.cell? ⟨b, 257, none⟩ = some (.int .i64 0) := by
  obtain ⟨cs, f, hb, hc⟩ := h
  exact hb.at_ hc.many

/-- The number that a word gives below n. -/
def below (x n : Int) : Int := x * n / 4294967296

theorem mul_bd {x n : Int} (x0 : 0 ≤ x) (x1 : x ≤ 4294967295) (n0 : 0 ≤ n) (n1 : n ≤ 4294967295) : 0 ≤ x * n ∧ x * n ≤ 18446744065119617025 :=
  ⟨Int.mul_nonneg x0 n0, by
    have : x * n ≤ 4294967295 * 4294967295 := Int.mul_le_mul x1 n1 n0 (by omega)
    omega⟩

set_option maxRecDepth 100000 in
theorem below_yes (w : World) (b : Nat) (x n : Int) (L : List Int) (h : IsW w b (x :: L)) (n0 : 0 ≤ n) (n1 : n ≤ 4294967295) :
    Calls Try.prog 16 #[.pointer (some ⟨b, 0, none⟩), .int .u32 n] w fun e w' => e = .returned (.int .u32 (below x n)) ∧ IsW w' b L ∧ Fr (· = b) w w' := by
  obtain ⟨x0, x1⟩ : 0 ≤ x ∧ x ≤ 4294967295 := by
    obtain ⟨cs, f, hb, hc⟩ := h
    exact hc.rng x (List.mem_cons_self ..)
  obtain ⟨m0, m1⟩ := mul_bd x0 x1 n0 n1
  go_enter Try.func16, Try.ntmps16
  go_wp2_with (go_at_call 14; refine (next_yes w b x L h).mono ?_; rintro e w' ⟨rfl, h1, h2⟩)
  go_ret
  exact ⟨rfl, h1, h2⟩

theorem below_no (w : World) (b : Nat) (n : Int) (h : w.cell? ⟨b, 257, none⟩ = some (.int .i64 0)) (n0 : 0 ≤ n) (n1 : n ≤ 4294967295) :
    Calls Try.prog 16 #[.pointer (some ⟨b, 0, none⟩), .int .u32 n] w fun e w' => e = .returned (.int .u32 0) ∧ w = w' := by
  go_enter Try.func16, Try.ntmps16
  go_wp2_with (go_at_call 14; refine (next_no w b h).mono ?_; rintro e w' ⟨rfl, rfl⟩)
  go_ret
  exact ⟨rfl, rfl⟩
theorem below_nil (w : World) (n : Int) (n0 : 0 ≤ n) (n1 : n ≤ 4294967295) :
    Calls Try.prog 16 #[.pointer none, .int .u32 n] w fun e w' => e = .returned (.int .u32 0) ∧ w = w' := by
  go_enter Try.func16, Try.ntmps16
  go_wp2_with (go_at_call 14; refine (next_nil w).mono ?_; rintro e w' ⟨rfl, rfl⟩)
  go_ret
  exact ⟨rfl, rfl⟩

set_option maxRecDepth 100000 in
theorem len_any (w : World) (b : Nat) (n : Int) (h : w.cell? ⟨b, 257, none⟩ = some (.int .i64 n)) :
    Calls Try.prog 18 #[.pointer (some ⟨b, 0, none⟩)] w fun e w' => e = .returned (.int .i64 n) ∧ w = w' := by
  go_enter Try.func18, Try.ntmps18
  go_wp2
  go_ret
  exact ⟨rfl, rfl⟩
theorem len_nil (w : World) :
    Calls Try.prog 18 #[.pointer none] w fun e w' => e = .returned (.int .i64 0) ∧ w = w' := by
  go_enter Try.func18, Try.ntmps18
  go_wp2
  go_ret
  exact ⟨rfl, rfl⟩

theorem rep_get (n : Nat) (x a b c : Value) (i : Nat) : (List.replicate n x ++ [a, b, c]).toArray[i]? = if i < n then some x else if i = n then some a else if i = n + 1 then some b else if i = n + 2 then some c else none := by
  rw [List.getElem?_toArray]
  by_cases h : i < n
  · rw [List.getElem?_append_left (by simpa using h), if_pos h, List.getElem?_replicate, if_pos h]
  · rw [List.getElem?_append_right (by simpa using h), if_neg h, List.length_replicate]
    obtain ⟨d, rfl⟩ : ∃ d, i = n + d := ⟨i - n, by omega⟩
    rw [Nat.add_sub_cancel_left]
    match d with
    | 0 => simp
    | 1 => simp
    | 2 => simp
    | d + 3 => simp
theorem rep_size (n : Nat) (x a b c : Value) : (List.replicate n x ++ [a, b, c]).toArray.size = n + 3 := by simp

/-- The zero value of Words. -/
def zWords : Array Value := (List.replicate 256 (Value.int .u32 0) ++ [Value.int .i64 0, Value.int .i64 0, Value.bool false]).toArray
theorem zWords_run (w : World) : (zeroValue 43).run Try.prog w = .ok (.agg zWords) w := by kernel_rfl
theorem zWords_size : zWords.size = 259 := rep_size _ _ _ _ _
theorem zWords_get (i : Nat) : zWords[i]? = if i < 256 then some (.int .u32 0) else if i = 256 then some (.int .i64 0) else if i = 257 then some (.int .i64 0) else if i = 258 then some (.bool false) else none :=
  rep_get _ _ _ _ _ _
theorem zWords_WC : WC (zWords.setIfInBounds 258 (.bool true)) 0 [] := by
  have hs := zWords_size
  refine ⟨by simp [hs], by omega, by simp, fun i hi => ⟨0, ?_⟩, fun i hi => ?_, ?_, ?_, ?_, fun x hx => ?_⟩
  · rw [get_set _ _ _ _ (by omega), if_neg (by omega), zWords_get, if_pos hi]
  · simp at hi
  · rw [get_set _ _ _ _ (by omega), if_neg (by omega), zWords_get]; rfl
  · rw [get_set _ _ _ _ (by omega), if_neg (by omega), zWords_get]; rfl
  · rw [get_set _ _ _ _ (by omega), if_pos rfl]
  · simp at hx

set_option maxRecDepth 100000 in
theorem new_any (w : World) :
    Calls Try.prog 9 #[] w fun e w' => e = .returned (.pointer (some ⟨w.heap.size, 0, none⟩)) ∧ IsW w' w.heap.size [] ∧ Fr (fun _ => False) w w' ∧ w'.heap.size = w.heap.size + 1 := by
  obtain ⟨cs, hz, hs, hw⟩ : ∃ cs : Array Value, (∀ w, (zeroValue 43).run Try.prog w = .ok (.agg cs) w) ∧ cs.size = 259 ∧ Hid (WC (cs.setIfInBounds 258 (.bool true)) 0 []) := ⟨zWords, zWords_run, zWords_size, zWords_WC⟩
  go_enter Try.func9, Try.ntmps9
  go_wp2
  go_ret
  exact ⟨rfl, ⟨_, 0, Blk.new w 43 _, hw.out⟩, (Fr.refl _ _).alloc _, by simp⟩

theorem take_snoc' {xs : List Int} {k : Nat} (h : k < xs.length) : xs.take (k + 1) = xs.take k ++ [xs[k]?.getD 0] := by
  rw [List.take_succ_eq_append_getElem h]
  simp [h]

set_option maxRecDepth 100000 in
set_option maxHeartbeats 2000000 in
/-- Feed: as many as there is room for. -/
theorem feed_any (w : World) (b : Nat) (L : List Int) (h : IsW w b L) (A : Option Addr) (n c : Nat) (xs : List Int) (hx : Rd w w.heap.size 1 A n c (xs.map (Value.int .u32)))
    (hfar : 0 < n → ∀ bb off sp, A = some ⟨bb, off, sp⟩ → bb ≠ b) (hr : ∀ x ∈ xs, 0 ≤ x ∧ x ≤ 4294967295) :
    Calls Try.prog 11 #[.pointer (some ⟨b, 0, none⟩), .slice A n c] w fun e w' =>
      e = .returned (.int .i64 (min n (256 - L.length) : Nat)) ∧ IsW w' b (L ++ xs.take (min n (256 - L.length))) ∧ Fr (· = b) w w' := by
  have hlen : xs.length = n := by have := hx.len; simpa using this
  have hcm := hx.cmax
  have hcn := hx.cap
  unfold maxLen at hcm
  obtain ⟨cs, f, hb, hc⟩ := h
  have hL := hc.llen
  have m1 : w.cell? ⟨b, 258, none⟩ = some (.bool true) := hb.at_ hc.made
  have hW : IsW w b L := ⟨cs, f, hb, hc⟩
  clear hb hc
  go_enter Try.func11, Try.ntmps11
  go_wp2
  go_loopw [18] (fun i wr => ∃ k : Nat, k ≤ n ∧ L.length + k ≤ 256 ∧ i = .int .i64 k ∧ IsW wr b (L ++ xs.take k) ∧ Fr (· = b) w wr) (fun i _ => n - (intOf i).toNat)
  case atStart => exact ⟨0, Nat.zero_le _, by omega, rfl, by simpa using hW, Fr.refl _ _⟩
  case round =>
    obtain ⟨k, hk, hkl, rfl, hWr, hF⟩ := hrel
    by_cases hlt : k < n
    · have hxr := hr (xs[k]?.getD 0) (by rw [List.getElem?_eq_getElem (by omega)]; exact List.getElem_mem _)
      have hsn := take_snoc' (xs := xs) (k := k) (by omega)
      obtain ⟨bb, off, rfl, hbb, hcell⟩ := hx.at_ (by omega)
      have hne := hfar (by omega) bb off none rfl
      have hcx : wr.cell? ⟨bb, off + k, none⟩ = some (.int .u32 (xs[k]?.getD 0)) := (hF.cell (p := ⟨bb, off + k, none⟩) hbb hne).trans (hcell k _ (by simp [List.getElem?_eq_getElem (show k < xs.length by omega)]))
      obtain ⟨x, hx0⟩ : ∃ x, x = xs[k]?.getD 0 := ⟨_, rfl⟩
      rw [← hx0] at hxr hcx hsn
      have hsn' := hidd hsn
      obtain ⟨x0, x1⟩ := hxr
      clear hx0 hcell hsn hr hfar hx hW
      obtain ⟨cs', f', hb', hc'⟩ := hWr
      have hlen' : (L ++ xs.take k).length = L.length + k := by simp; omega
      have hf := hc'.flt
      have c1 : wr.cell? ⟨b, 256, none⟩ = some (.int .i64 f') := hb'.at_ hc'.fst
      have c2 : wr.cell? ⟨b, 257, none⟩ = some (.int .i64 ((L.length : Int) + k)) := hb'.at_ (by rw [hc'.many, hlen']; simp)
      have f2 : wr.frozen? ⟨b, 257, none⟩ = false := hb'.frozen 257
      by_cases hfull : L.length + k = 256
      · have hd : ((L.length : Int) + k == 256) = true := by simp; omega
        have hfin := hidd (show min n (256 - L.length) = k by omega)
        have hlast := hidd (show IsW wr b (L ++ xs.take k) from ⟨cs', f', hb', hc'⟩)
        clear hb' hc' hlen' hfull
        go_wp2
        go_ret
        rw [hfin.out]
        exact ⟨rfl, hlast.out, hF⟩
      · have hd : ((L.length : Int) + k == 256) = false := by simp; omega
        have hlt2 : L.length + k < 256 := by omega
        have hp := hidd (hc'.push (x := x) (by omega) x0 x1)
        have hB := hidd hb'
        have hl2 := hidd hlen'
        obtain ⟨y, hy⟩ := hc'.ring ((f' + (L.length + k)) % 256) (Nat.mod_lt _ (by omega))
        have c3 : wr.cell? ⟨b, (f' + (L.length + k)) % 256, none⟩ = some (.int .u32 y) := hb'.at_ hy
        have f3 : wr.frozen? ⟨b, (f' + (L.length + k)) % 256, none⟩ = false := hb'.frozen _
        have hm : (f' + (L.length + k)) % 256 < 256 := Nat.mod_lt _ (by omega)
        clear hb' hc' hlen' hfull hy
        go_wp2_with (go_at_call 21; refine (place_any wr b f' (L.length + k) _ (by omega) hf (by omega) c1).mono ?_; rintro e w' ⟨rfl, rfl⟩)
        go_roundw
        case rel =>
          have hp' := hp.out
          rw [hl2.out] at hp'
          have hcast : ((L.length + k : Nat) : Int) = (L.length : Int) + k := by omega
          rw [hcast] at hp'
          refine ⟨k + 1, by omega, by omega, by go_num, ⟨_, f', ((hB.out.set _ _).set _ _).drew, ?_⟩, by repeat (first | exact hF | refine Fr.drew ?_ | refine Fr.setB ?_ _)⟩
          rw [hsn'.out, ← List.append_assoc]
          exact hp'
        case measure => simp [intOf]; omega
    · obtain rfl : k = n := by omega
      have hfin := hidd (show min k (256 - L.length) = k by omega)
      clear hx hr hfar hW
      go_wp2
      go_ret
      rw [hfin.out]
      exact ⟨rfl, hWr, hF⟩
theorem feed_nil (w : World) (A : Option Addr) (n c : Nat) :
    Calls Try.prog 11 #[.pointer none, .slice A n c] w fun e w' => e = .returned (.int .i64 0) ∧ w = w' := by
  go_enter Try.func11, Try.ntmps11
  go_wp2
  go_ret
  exact ⟨rfl, rfl⟩
theorem feed_unmade (w : World) (b : Nat) (A : Option Addr) (n c : Nat) (h : w.cell? ⟨b, 258, none⟩ = some (.bool false)) :
    Calls Try.prog 11 #[.pointer (some ⟨b, 0, none⟩), .slice A n c] w fun e w' => e = .returned (.int .i64 0) ∧ w = w' := by
  go_enter Try.func11, Try.ntmps11
  go_wp2
  go_ret
  exact ⟨rfl, rfl⟩
end Go.Proofs.Ytgalphhamdemfaa
