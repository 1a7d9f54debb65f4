/- A twin of a list, whether two lists are the same, and whether a twin is as it was made: each function walked once. No condition but that the lists read as said. -/
import Derived.Test.YtlckfnfmekgnkaaDoorGreat
import Derived.Test.YtlckfnfmekgnkaaDoorFlat
import Derived.Deep.QuietTactic
import Derived.BigQuiet
import Derived.Deep.RegionLaw
namespace Go.Proofs.YtlckfnfmekgnkaaDoor
open Go.ChangeShapes Go.WideShapes Go.ChangeAt Go.RowKit Go.Deep
set_option linter.unusedVariables false


theorem info5 : (Tryd.prog.info? 5).map (fun i => (i.zero, i.size, i.bytes)) = some (some (.int .u8 0), 1, 1) := by kernel_rfl
theorem T28 : SlTy Tryd.prog 28 5 1 1 := SlTy.mk_ Tryd.underlying28 info5 rfl (by omega)

set_option maxRecDepth 100000 in
set_option maxHeartbeats 1000000 in
theorem same_yes (w : World) (B : Nat) (A A' : Option Addr) (n c c' : Nat) (xs : List Int) (hx : Rd w B 1 A n c (xs.map (Value.int .u8))) (hy : Rd w B 1 A' n c' (xs.map (Value.int .u8))) :
    Calls Tryd.prog 47 #[.slice A n c, .slice A' n c'] w fun e w' => e = .returned (.bool true) ∧ ∃ m, w' = w.drewN m := by
  have hcm := hx.cmax
  have hcn := hx.cap
  unfold maxLen at hcm
  go_enter Tryd.func47, Tryd.ntmps47
  go_wp2
  go_loopw [5] (fun i wr => ∃ k m : Nat, k ≤ n ∧ i = .int .i64 k ∧ wr = w.drewN m) (fun i _ => n - (intOf i).toNat)
  case atStart => exact ⟨0, 0, Nat.zero_le _, rfl, rfl⟩
  case round =>
    obtain ⟨k, m, hk, rfl, rfl⟩ := hrel
    by_cases hlt : k < n
    · obtain ⟨b, off, rfl, hb, hc1⟩ := hx.ints (by omega)
      obtain ⟨b', off', rfl, hb', hc2⟩ := hy.ints (by omega)
      have c1 := hc1 k hlt
      have c2 := hc2 k hlt
      obtain ⟨x, hx0⟩ : ∃ x, x = xs[k]?.getD 0 := ⟨_, rfl⟩
      rw [← hx0] at c1 c2
      clear hx0 hc1 hc2 hx hy
      go_wp2
      go_region
      go_wp2
      go_roundw
      case rel => exact ⟨k + 1, m + 1, by omega, by go_num, rfl⟩
      case measure => simp [intOf]; omega
    · obtain rfl : k = n := by omega
      clear hx hy
      go_wp2
      go_ret
      exact ⟨rfl, m, rfl⟩

/-- The cells of a twin: the list, then four strange ones. -/
def twinCells (k : IntKind) (xs : List Int) (s : Int) : Array Value := (xs.map (Value.int k) ++ List.replicate 4 (Value.int k s)).toArray

theorem twinCells_get (k : IntKind) (xs : List Int) (s : Int) (j : Nat) (hj : j < xs.length + 4) : (twinCells k xs s)[j]? = some (if j < xs.length then .int k (xs[j]?.getD 0) else .int k s) := by
  unfold twinCells
  rw [List.getElem?_toArray]
  by_cases h : j < xs.length
  · rw [List.getElem?_append_left (by simpa using h), if_pos h]
    simp [h]
  · rw [List.getElem?_append_right (by simp; omega), if_neg h, List.getElem?_replicate, if_pos (by simp; omega)]
theorem twinCells_size (k : IntKind) (xs : List Int) (s : Int) : (twinCells k xs s).size = xs.length + 4 := by simp [twinCells]


set_option maxRecDepth 100000 in
set_option maxHeartbeats 1000000 in
theorem twin_any (w : World) (A : Option Addr) (n c : Nat) (xs : List Int) (s : Int) (hx : Rd w w.heap.size 1 A n c (xs.map (Value.int .u8))) (hn : n ≤ 140737488355328) :
    Calls Tryd.prog 36 #[.slice A n c, .int .u8 s] w fun e w' => e = .returned (.slice (some ⟨w.heap.size, 0, none⟩) n (n + 4)) ∧
      Blk w' w.heap.size 5 (twinCells .u8 xs s) ∧ Fr (fun _ => False) w w' ∧ w'.heap.size = w.heap.size + 1 := by
  have hcm := hx.cmax
  have hcn := hx.cap
  unfold maxLen at hcm
  have hlen : xs.length = n := by have := hx.len; simpa using this
  obtain ⟨cs0, hmk, hs0⟩ : ∃ cs0 : Array Value, (∀ w : World, (Instr.makeSlice 28 (.int .i64 ((n : Int) + 4)) (.int .i64 ((n : Int) + 4))).run Tryd.prog w = .ok (.slice (some ⟨w.heap.size, 0, none⟩) (n + 4) (n + 4)) (w.alloc (.cells cs0 5))) ∧ cs0.size = n + 4 := by
    refine ⟨_, fun w => ?_, size_madeCells #[Value.int .u8 0] (n + 4)⟩
    have := run_make_row' (P := Tryd.prog) 28 5 (.int .u8 0) 1 Tryd.underlying28 info5 rfl .i64 .i64 (n + 4) (by omega) (by omega) w
    simpa using this
  go_enter Tryd.func36, Tryd.ntmps36
  go_wp2
  go_loopw [6] (fun i wr => ∃ (k : Nat) (cs : Array Value), k ≤ n + 4 ∧ i = .int .i64 k ∧ Blk wr w.heap.size 5 cs ∧ cs.size = n + 4 ∧ (∀ j, j < k → cs[j]? = (twinCells .u8 xs s)[j]?) ∧ Fr (fun _ => False) w wr ∧ wr.heap.size = w.heap.size + 1) (fun i _ => n + 4 - (intOf i).toNat)
  case atStart => exact ⟨0, cs0, Nat.zero_le _, rfl, Blk.new w 5 cs0, hs0, fun j hj => absurd hj (by omega), (Fr.refl _ _).alloc _, by simp⟩
  case round =>
    obtain ⟨k, cs, hk, rfl, hB, hs, hc, hF, hz⟩ := hrel
    by_cases hlt : k < n + 4
    · have ck : wr.cell? ⟨w.heap.size, k, none⟩ = some cs[k] := (hB.cell k).trans (Array.getElem?_eq_getElem (by omega))
      have fk : wr.frozen? ⟨w.heap.size, k, none⟩ = false := hB.frozen k
      obtain ⟨y, hy⟩ : ∃ y, y = cs[k] := ⟨_, rfl⟩
      rw [← hy] at ck
      have hB' := hidd hB
      have hc' := hidd hc
      have hF' := hidd hF
      have hz' := hidd hz
      have hs' := hidd hs
      have htw := hidd (twinCells_get .u8 xs s k (by omega))
      clear hy hB hc hF hz hmk hs0
      by_cases hkn : k < n
      · obtain ⟨b, off, rfl, hb, hcx⟩ := hx.ints (by omega)
        have cx : wr.cell? ⟨b, off + k, none⟩ = some (.int .u8 (xs[k]?.getD 0)) := (hF'.out.cell (p := ⟨b, off + k, none⟩) hb (fun h => h)).trans (hcx k hkn)
        have hne : b ≠ w.heap.size := by omega
        obtain ⟨x, hx0⟩ : ∃ x, x = xs[k]?.getD 0 := ⟨_, rfl⟩
        rw [← hx0] at cx
        have hx0' := hidd hx0
        clear hx0 hcx hx
        go_wp2
        go_roundw
        case rel =>
          refine ⟨k + 1, _, by omega, by go_num, (hB'.out.set k _).set k _, by simp [hs'.out], fun j hj => ?_, (hF'.out.setCell (.inr (Nat.le_refl _)) _).setCell (.inr (Nat.le_refl _)) _, by simpa [World.setCell] using hz'.out⟩
          have hso := hs'.out
          rw [get_set _ _ _ _ (by simp; omega), get_set _ _ _ _ (by omega)]
          by_cases hjk : k = j
          · subst hjk
            rw [if_pos rfl, htw.out, if_pos (by omega), hx0'.out]
          · rw [if_neg hjk, if_neg hjk]
            exact hc'.out j (by omega)
        case measure => simp [intOf]; omega
      · clear hx
        go_wp2
        go_roundw
        case rel =>
          refine ⟨k + 1, _, by omega, by go_num, hB'.out.set k _, by simp [hs'.out], fun j hj => ?_, hF'.out.setCell (.inr (Nat.le_refl _)) _, by simpa [World.setCell] using hz'.out⟩
          have hso := hs'.out
          rw [get_set _ _ _ _ (by omega)]
          by_cases hjk : k = j
          · subst hjk
            rw [if_pos rfl, htw.out, if_neg (by omega)]
          · rw [if_neg hjk]
            exact hc'.out j (by omega)
        case measure => simp [intOf]; omega
    · obtain rfl : k = n + 4 := by omega
      have heq : cs = twinCells .u8 xs s := arr_ext (by rw [hs, twinCells_size, hlen]) (fun j hj => hc j (by omega))
      subst heq
      clear hx hmk hc
      go_wp2
      go_ret
      exact ⟨rfl, hB, hF, hz⟩

theorem twinBytes_any (w : World) (A : Option Addr) (n c : Nat) (xs : List Int) (hx : Rd w w.heap.size 1 A n c (xs.map (Value.int .u8))) (hn : n ≤ 140737488355328) :
    Calls Tryd.prog 21 #[.slice A n c] w fun e w' => e = .returned (.slice (some ⟨w.heap.size, 0, none⟩) n (n + 4)) ∧
      Blk w' w.heap.size 5 (twinCells .u8 xs 199) ∧ Fr (fun _ => False) w w' ∧ w'.heap.size = w.heap.size + 1 := by
  go_enter Tryd.func21, Tryd.ntmps21
  go_wp2_with (go_at_call 36; refine (twin_any w A n c xs _ hx hn).mono ?_; rintro e w' ⟨rfl, h1, h2, h3⟩)
  go_ret
  exact ⟨rfl, h1, h2, h3⟩

theorem Blk.twin_rd {w : World} {g : Nat} {k : IntKind} {t : TypeId} {xs : List Int} {s : Int} (h : Blk w g t (twinCells k xs s)) {B : Nat} (hB : g < B) (hm : xs.length + 4 ≤ maxLen) :
    Rd w B 1 (some ⟨g, 0, none⟩) xs.length (xs.length + 4) (xs.map (Value.int k)) := by
  have := h.rd 1 xs.length (xs.length + 4) (by rw [twinCells_size, Nat.mul_one]) (by omega) hm hB
  have e : (twinCells k xs s).toList.take (xs.length * 1) = xs.map (Value.int k) := by simp [twinCells]
  rw [e] at this
  exact this

set_option maxRecDepth 100000 in
set_option maxHeartbeats 1000000 in
theorem left_yes (w : World) (g : Nat) (A : Option Addr) (n c : Nat) (xs : List Int) (s : Int) (hg : Blk w g 5 (twinCells .u8 xs s)) (hx : Rd w w.heap.size 1 A n c (xs.map (Value.int .u8))) (hn : n ≤ 140737488355328) :
    Calls Tryd.prog 48 #[.slice (some ⟨g, 0, none⟩) n (n + 4), .slice A n c, .int .u8 s] w fun e w' => e = .returned (.bool true) ∧ ∃ m, w' = w.drewN m := by
  have hcm := hx.cmax
  have hcn := hx.cap
  unfold maxLen at hcm
  have hlen : xs.length = n := by have := hx.len; simpa using this
  have hrd := hg.twin_rd (B := w.heap.size) hg.lt (by unfold maxLen; omega)
  rw [hlen] at hrd
  have hcell := hidd (show ∀ j, j < 4 → w.cell? ⟨g, n + j, none⟩ = some (.int .u8 s) from fun j hj => by
    rw [hg.cell, twinCells_get _ _ _ _ (by omega), if_neg (by omega)])
  have hsame := hidd (same_yes w w.heap.size (some ⟨g, 0, none⟩) A n (n + 4) c xs hrd hx)
  have h0 : ¬ (n + 4 = n) := by omega
  have hd : decide (((n : Int) + 4) < (n : Int) + 4) = false := by simp
  have e4 : n + 4 - n = 4 := by omega
  clear hlen hrd hx hg
  go_enter Tryd.func48, Tryd.ntmps48
  go_wp2_with fail
  refine Calls.mono hsame ?_
  rintro e w' ⟨rfl, m, rfl⟩
  clear hsame
  go_wp2
  go_loop [8] (fun i => ∃ k : Nat, k ≤ 4 ∧ i = .int .i64 k) (fun i => 4 - (intOf i).toNat)
  case atStart => exact ⟨0, by omega, rfl⟩
  case round =>
    obtain ⟨k, hk, rfl⟩ := hrel
    by_cases hlt : k < 4
    · have ck := hcell.out k hlt
      go_wp2
      go_round
      case rel => exact ⟨k + 1, by omega, by go_num⟩
      case measure => simp [intOf]; omega
    · obtain rfl : k = 4 := by omega
      go_wp2
      go_ret
      exact ⟨rfl, m, rfl⟩

theorem leftBytes_yes (w : World) (g : Nat) (A : Option Addr) (n c : Nat) (xs : List Int) (hg : Blk w g 5 (twinCells .u8 xs 199)) (hx : Rd w w.heap.size 1 A n c (xs.map (Value.int .u8))) (hn : n ≤ 140737488355328) :
    Calls Tryd.prog 31 #[.slice (some ⟨g, 0, none⟩) n (n + 4), .slice A n c] w fun e w' => e = .returned (.bool true) ∧ ∃ m, w' = w.drewN m := by
  have h := hidd (left_yes w g A n c xs 199 hg hx hn)
  clear hg hx
  go_enter Tryd.func31, Tryd.ntmps31
  go_wp2_with fail
  refine Calls.mono h ?_
  rintro e w' ⟨rfl, m, rfl⟩
  clear h
  go_wp2
  go_ret
  exact ⟨rfl, m, rfl⟩
end Go.Proofs.YtlckfnfmekgnkaaDoor
