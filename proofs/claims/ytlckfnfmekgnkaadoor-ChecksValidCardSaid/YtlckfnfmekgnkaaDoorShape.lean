/- Packets and messages as cells; whoever has no address; whether a message tells an address of the link. No condition but that the table of known addresses lies where it was laid. -/
import Derived.Test.YtlckfnfmekgnkaaDoorSmall
import Derived.Deep.RegionHeld3
namespace Go.Proofs.YtlckfnfmekgnkaaDoor
open Go.ChangeShapes Go.WideShapes Go.ChangeAt Go.RowKit Go.Deep
set_option linter.unusedVariables false

structure Pk where
  src : List Int
  dst : List Int
  hops : Int
  alert : Bool
/-- Cells are a packet's. -/
structure IsPk (cs : Array Value) (p : Pk) : Prop where
  size : cs.size = 40
  ones : cs.all (·.oneCell') = true
  srcA : IsAddr p.src
  dstA : IsAddr p.dst
  src : At cs 0 p.src
  dst : At cs 16 p.dst
  hops : cs[32]? = some (.int .u8 p.hops)
  hr : 0 ≤ p.hops ∧ p.hops ≤ 255
  alert : cs[33]? = some (.bool p.alert)

structure Ms where
  kind : Int
  code : Int
  flags : Int
  target : List Int
  dest : List Int
  /-- its options' kinds -/
  ks : List Int
/-- A list of options reads so. -/
structure IsOps (w : World) (B : Nat) (v : Value) (ks : List Int) : Prop where
  ex : ∃ A n c xs, v = .slice A n c ∧ Rd w B 2 A n c xs ∧ ks.length = n ∧ ∀ i k, ks[i]? = some k → xs[i * 2]? = some (.int .u8 k) ∧ ∃ A' n' c', xs[i * 2 + 1]? = some (.slice A' n' c')
/-- Cells are a message's. -/
structure IsMs (w : World) (B : Nat) (cs : Array Value) (m : Ms) : Prop where
  size : cs.size = 63
  ones : cs.all (·.oneCell') = true
  kind : cs[0]? = some (.int .u8 m.kind)
  kr : 0 ≤ m.kind ∧ m.kind ≤ 255
  code : cs[1]? = some (.int .u8 m.code)
  cr : 0 ≤ m.code ∧ m.code ≤ 255
  flags : cs[5]? = some (.int .u8 m.flags)
  fr : 0 ≤ m.flags ∧ m.flags ≤ 255
  targetA : IsAddr m.target
  destA : IsAddr m.dest
  target : At cs 9 m.target
  dest : At cs 25 m.dest
  ops : ∃ v, cs[41]? = some v ∧ IsOps w B v m.ks

section
variable {w W : World} {B B' : Nat} {v : Value} {ks : List Int} {cs : Array Value} {m : Ms}
theorem IsOps.below (h : IsOps w B v ks) (hb : Below B w W) : IsOps W B v ks := by
  obtain ⟨A, n, c, xs, h1, h2, h3, h4⟩ := h.ex
  exact ⟨A, n, c, xs, h1, h2.below hb, h3, h4⟩
theorem IsOps.more (h : IsOps w B v ks) (hB : B ≤ B') : IsOps w B' v ks := by
  obtain ⟨A, n, c, xs, h1, h2, h3, h4⟩ := h.ex
  exact ⟨A, n, c, xs, h1, h2.more hB, h3, h4⟩
theorem IsMs.to (h : IsMs w B cs m) (hb : Below B w W) (hB : B ≤ B') : IsMs W B' cs m := by
  obtain ⟨v, h1, h2⟩ := h.ops
  exact ⟨h.size, h.ones, h.kind, h.kr, h.code, h.cr, h.flags, h.fr, h.targetA, h.destA, h.target, h.dest, ⟨v, h1, (h2.below hb).more hB⟩⟩
end

theorem size_pk {cs : Array Value} {p : Pk} (h : IsPk cs p) : (Tryd.prog.info? 30).map (·.size) = some cs.size := by rw [h.size]; exact info30
theorem size_ms {w : World} {B : Nat} {cs : Array Value} {m : Ms} (h : IsMs w B cs m) : (Tryd.prog.info? 35).map (·.size) = some cs.size := by rw [h.size]; exact info35
theorem info23' {l : List Int} (h : IsAddr l) : (Tryd.prog.info? 23).map (·.size) = some l.length := by rw [h.len]; exact info23
theorem eql23 (W : World) {a b : List Int} (ha : IsAddr a) (hb : IsAddr b) : (binOp .eql 23 (.agg (bytesV a)) (.agg (bytesV b))).run Tryd.prog W = .ok (.bool (a == b)) W := by
  obtain ⟨i, hi⟩ := info_of_underlying (P := Tryd.prog) Tryd.underlying5
  exact run_eql_bytes W Tryd.underlying23 hi (by kernel_rfl) Tryd.underlying5 a b ha.len hb.len
theorem neq23 (W : World) {a b : List Int} (ha : IsAddr a) (hb : IsAddr b) : (binOp .neq 23 (.agg (bytesV a)) (.agg (bytesV b))).run Tryd.prog W = .ok (.bool (!(a == b))) W := by
  obtain ⟨i, hi⟩ := info_of_underlying (P := Tryd.prog) Tryd.underlying5
  exact run_neq_bytes W Tryd.underlying23 hi (by kernel_rfl) Tryd.underlying5 a b ha.len hb.len
theorem guard23 : Tryd.prog.eqGuardType Tryd.prog.depth 23 = false := by kernel_rfl

theorem range_of {w : World} {g o : Nat} {t : TypeId} {cs : Array Value} {l : List Int} (h : Blk w g t cs) (ha : At cs o l) : w.rangeAt g o (l.map (Value.int .u8)) := fun j v hv => by
  rw [List.getElem?_map] at hv
  cases hy : l[j]? with
  | none => rw [hy] at hv; cases hv
  | some y => rw [hy] at hv; simp at hv; subst hv; exact h.at_ (ha j y hy)

theorem range_below {w W : World} {B g o : Nat} {l : List Value} (h : w.rangeAt g o l) (hb : Below B w W) (hg : g < B) : W.rangeAt g o l := fun j v hv => (hb.cell (p := ⟨g, o + j, none⟩) hg).trans (h j v hv)
theorem eql23' (W : World) {a b : List Int} (ha : IsAddr a) (hb : IsAddr b) : (Op.equalIn 10000 23 (.agg (a.map (Value.int .u8)).toArray) (.agg (bytesV b))).run Tryd.prog W = .ok (a == b) W := by
  obtain ⟨i, hi⟩ := info_of_underlying (P := Tryd.prog) Tryd.underlying5
  exact run_equal_bytes W 9998 Tryd.underlying23 hi (by kernel_rfl) Tryd.underlying5 a b ha.len hb.len
theorem load_range {g o : Nat} {l : List Int} (hl : IsAddr l) (W : World) (h : W.rangeAt g o (l.map (Value.int .u8))) : (Instr.loadAt 23 (.pointer (some ⟨g, o, none⟩))).run Tryd.prog W = .ok (.agg (bytesV l)) W :=
  run_loadAt_mid (P := Tryd.prog) W g o 23 _ _ h Tryd.underlying23 rfl (by simpa using info23' hl)

theorem none_any (w : World) (hg : Gl w) (cs : Array Value) (p : Pk) (hp : IsPk cs p) : Calls Tryd.prog 53 #[.agg cs] w fun e w' => e = .returned (.bool (p.src == zeroA)) ∧ Below w.heap.size w w' := by
  have b := Blk.new w 30 cs
  have r0 := range_of b hp.src
  have G1 := hidd (hg.alloc (.cells cs 30))
  have B1 := hidd ((Below.refl w.heap.size w).alloc (Nat.le_refl _) (.cells cs 30))
  have heq := fun W => eql23' W hp.srcA zeroA_is
  have hgd := guard23
  have hu := Tryd.underlying23
  have hi : (Tryd.prog.info? 23).map (·.size) = some (p.src.map (Value.int .u8)).length := by simpa using info23' hp.srcA
  have hsz : (w.alloc (.cells cs 30)).heap.size = w.heap.size + 1 := by simp
  clear b hg hp
  go_enter Tryd.func53, Tryd.ntmps53
  go_wp2
  generalize w.alloc (.cells cs 30) = W at *
  go_region_held3 (fun W => W.rangeAt w.heap.size 0 (p.src.map (Value.int .u8))) (first | assumption | exact (World.rangeAt_drew ..).2 r0 | exact range_below (w := W.drew) r0 b2 (by show _ < W.heap.size; omega))
    (first
      | (go_at_call 19; refine (unspec_any _ G1.out.drew).mono ?_; rintro e w2 ⟨rfl, b2⟩))
  go_wp2
  go_ret
  exact ⟨rfl, B1.out.drew.trans (b2.mono (by show _ ≤ W.heap.size; omega))⟩

theorem is1_any (w : World) (k : Int) (v : Value) (hv : v.oneCell' = true) : Calls Tryd.prog 59 #[.agg #[.int .u8 k, v]] w fun e w' => e = .returned (.bool (k == 1)) ∧ Below w.heap.size w w' := by
  have b := Blk.new w 46 #[.int .u8 k, v]
  have c0 := b.at_ (i := 0) rfl
  clear b
  go_enter Tryd.func59, Tryd.ntmps59
  go_wp2
  go_ret
  exact ⟨rfl, (Below.refl _ w).alloc (Nat.le_refl _) _⟩

theorem index_any (w : World) (A : Option Addr) (n c : Nat) (ks : List Int) (h : IsOps w w.heap.size (.slice A n c) ks) :
    Calls Tryd.prog 60 #[.slice A n c, .func (.func 59) #[] #[]] w fun e w' => ∃ r : Int, e = .returned (.int .i64 r) ∧ (decide (0 ≤ r) = ks.any (· == 1)) ∧ Below w.heap.size w w' := by
  obtain ⟨A', n', c', xs, he, hr, hl, hk⟩ := h.ex
  injection he with e1 e2 e3
  subst e1 e2 e3
  have hcm := hr.cmax
  have hcn := hr.cap
  unfold maxLen at hcm
  go_enter Tryd.func60, Tryd.ntmps60
  go_wp2
  go_loopw [8] (fun i wr => ∃ j : Nat, j ≤ n ∧ i = .int .i64 j ∧ Below w.heap.size w wr ∧ (ks.take j).any (· == 1) = false) (fun i _ => n - (intOf i).toNat)
  case atStart => exact ⟨0, Nat.zero_le _, rfl, Below.refl _ w, rfl⟩
  case round =>
    obtain ⟨j, hj, rfl, hb, hno⟩ := hrel
    by_cases hjn : j < n
    · obtain ⟨b, off, rfl, hblt, hcell⟩ := hr.at_ (by omega)
      obtain ⟨k, hk0⟩ : ∃ k, ks[j]? = some k := ⟨ks[j]'(by omega), List.getElem?_eq_getElem _⟩
      obtain ⟨h1, A', n', c', h2⟩ := hk j k hk0
      have c0 := (hb.cell (p := ⟨b, off + j * 2, none⟩) hblt).trans (hcell _ _ h1)
      have c1 := (hb.cell (p := ⟨b, off + (j * 2 + 1), none⟩) hblt).trans (hcell _ _ h2)
      rw [← Nat.add_assoc] at c1
      have ht : (ks.take (j + 1)).any (· == 1) = (k == 1) := by
        rw [List.take_add_one, hk0, List.any_append, hno]; simp
      have hb' := hidd hb
      clear hcell hk hr h1 h2 hb h
      by_cases h1 : k = 1
      · subst h1
        go_wp2_with (go_at_call 59; refine (is1_any wr 1 _ rfl).mono ?_; rintro e w2 ⟨rfl, b2⟩)
        all_goals go_ret
        refine ⟨j, rfl, ?_, hb'.out.trans (b2.mono hb'.out.size)⟩
        rw [decide_eq_true (by omega)]
        symm
        rw [List.any_eq_true]
        exact ⟨1, List.mem_of_getElem? hk0, by simp⟩
      · have hf : (k == 1) = false := by simpa using h1
        rw [hf] at ht
        go_wp2_with (go_at_call 59; refine (is1_any wr k _ rfl).mono ?_; rintro e w2 ⟨rfl, b2⟩; rw [hf])
        go_roundw
        case rel => exact ⟨j + 1, by omega, by go_num, hb'.out.trans (b2.mono hb'.out.size), ht⟩
        case measure => simp [intOf]; omega
    · have hjn' : j = n := by omega
      subst hjn'
      go_wp2
      go_ret
      refine ⟨-1, rfl, ?_, hb⟩
      rw [List.take_of_length_le (by omega)] at hno
      rw [hno]
      rfl

theorem contains_any (w : World) (A : Option Addr) (n c : Nat) (ks : List Int) (h : IsOps w w.heap.size (.slice A n c) ks) :
    Calls Tryd.prog 58 #[.slice A n c, .func (.func 59) #[] #[]] w fun e w' => e = .returned (.bool (ks.any (· == 1))) ∧ Below w.heap.size w w' := by
  go_enter Tryd.func58, Tryd.ntmps58
  go_wp2_with (go_at_call 60; refine (index_any w A n c ks h).mono ?_; rintro e w2 ⟨r, rfl, hr, b2⟩)
  go_ret
  exact ⟨by rw [← hr]; rfl, b2⟩

theorem tells_any (w : World) (cs : Array Value) (m : Ms) (hm : IsMs w w.heap.size cs m) :
    Calls Tryd.prog 54 #[.agg cs] w fun e w' => e = .returned (.bool (m.ks.any (· == 1))) ∧ Below w.heap.size w w' := by
  have b := Blk.new w 35 cs
  have B1 := (Below.refl w.heap.size w).alloc (Nat.le_refl _) (.cells cs 35)
  obtain ⟨v, h1, h2⟩ := hm.ops
  obtain ⟨A, n, c, xs, rfl, _⟩ := h2.ex
  have h3 : Hid (IsOps (w.alloc (.cells cs 35)) (w.alloc (.cells cs 35)).heap.size (.slice A n c) m.ks) := (h2.below B1).more (by simp)
  have c0 := b.at_ h1
  have B1' := hidd B1
  clear b B1 h1 h2 hm
  go_enter Tryd.func54, Tryd.ntmps54
  go_wp2_with (go_at_call 58; refine (contains_any _ A n c m.ks h3.out).mono ?_; rintro e w2 ⟨rfl, b2⟩)
  go_ret
  exact ⟨rfl, B1'.out.trans (b2.mono B1'.out.size)⟩
end Go.Proofs.YtlckfnfmekgnkaaDoor
