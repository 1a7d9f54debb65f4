/- A list of routers that were learnt; what a list that is not there answers: each function walked once. No condition. -/
import Derived.Test.YtnchjbgfmkmbaaaBase
import Derived.Deep.RegionHeld3
namespace Go.Proofs.Ytnchjbgfmkmbaaa
open Go.ChangeShapes Go.WideShapes Go.ChangeAt Go.RowKit Go.Deep
set_option linter.unusedVariables false
set_option linter.unusedSimpArgs false

section
variable {W V : World} {b o : Nat} {x : ActV}
theorem act_a (hx : IsAct x) (h : W.rangeAt b o x.cells) : (loadVar 23 ⟨b, o + 1, none⟩).run Try.prog W = .ok (.agg (bytesV x.a)) W :=
  run_loadVar_mid (P := Try.prog) W b (o + 1) 23 (x.a.map (Value.int .u8)) _ (fun j v hv => by
    rw [List.getElem?_map] at hv
    cases hy : x.a[j]? with
    | none => rw [hy] at hv; cases hv
    | some y =>
      rw [hy] at hv
      injection hv with hv
      subst hv
      have := h (1 + j) _ (hx.ca hy)
      rwa [← Nat.add_assoc] at this) Try.underlying23 rfl (by rw [List.length_map, hx.addr.len]; exact info23)
theorem act_life (hx : IsAct x) (h : W.rangeAt b o x.cells) : W.cell? ⟨b, o + 17, none⟩ = some (.int .u16 x.life) := h 17 _ (hx.past 0)
theorem act_flags (hx : IsAct x) (h : W.rangeAt b o x.cells) : W.cell? ⟨b, o + 18, none⟩ = some (.int .u8 x.flags) := h 18 _ (hx.past 1)
theorem act_later (hx : IsAct x) (h : W.rangeAt b o x.cells) : W.cell? ⟨b, o + 19, none⟩ = some (.int .u32 x.later) := h 19 _ (hx.past 2)
theorem act_fr {S : Nat → Prop} {vs : List Value} (h : W.rangeAt b o vs) (hS : ¬ S b) (hf : Fr S W V) : V.rangeAt b o vs := fun j v hv => by
  have h1 := h j v hv
  exact (hf.cell (p := ⟨b, o + j, none⟩) (World.block_lt_of_cell? W _ h1) hS).trans h1
end
/-- The routers that so many acts told. -/
def madeN (z : Nat → ActV) : Nat → List E
  | 0 => []
  | n + 1 => learnS (told (z n).later (z n)).1 (z n).life (madeN z n)
theorem madeN_nodup (z : Nat → ActV) : ∀ n, NoDup (madeN z n)
  | 0 => List.Pairwise.nil
  | n + 1 => learn_nodup (madeN_nodup z n) _ _

set_option maxRecDepth 100000 in
set_option maxHeartbeats 4000000 in
theorem made_any (w : World) (A0 : Option Addr) (n0 c0 : Nat) (z0 : Nat → ActV) (h0 : IsActs w w.heap.size A0 n0 c0 z0) :
    Calls Try.prog 15 #[.slice A0 n0 c0] w fun e w' => e = .returned (.pointer (some ⟨w.heap.size, 0, none⟩)) ∧ ∃ v, Lv w w' w.heap.size v (madeN z0 n0) zeroA false [] := by
  have hcm := h0.cmax
  have hcn := h0.cap
  have h0' := hidd h0
  unfold maxLen at hcm
  clear h0
  go_enter Try.func15, Try.ntmps15
  go_wp2_with fail
  refine (new_any w).mono ?_
  rintro e V1 ⟨rfl, k1, b1⟩
  have K1 : Hid (Lv w V1 w.heap.size (.slice none 0 0) [] zeroA false []) := ⟨k1, Nat.le_refl _, b1, fun x hx => by simp at hx⟩
  obtain ⟨B, hB⟩ : ∃ B, w.heap.size = B := ⟨_, rfl⟩
  rw [hB] at K1 ⊢
  clear k1 b1
  go_wp2_with fail
  go_loopw [4] (fun i wr => ∃ (k : Nat) (v : Value), k ≤ n0 ∧ i = .int .i64 k ∧ Lv w wr B v (madeN z0 k) zeroA false []) (fun i _ => n0 - (intOf i).toNat)
  case atStart => exact ⟨0, _, Nat.zero_le _, rfl, K1.out⟩
  case round =>
    obtain ⟨k, v, hk, rfl, hK⟩ := hrel
    have K := hidd hK
    clear hK K1
    by_cases hkn : k < n0
    · obtain ⟨b, off, rfl, hb, hc⟩ := h0'.out.at_ (by omega)
      have hbB : b < B := by omega
      have hm := hidd (show madeN z0 (k + 1) = learnS (told (z0 k).later (z0 k)).1 (z0 k).life (madeN z0 k) from rfl)
      have K2 := hidd (K.out.to (Below.refl _ wr).drew)
      have S2 : Hid (wr.drew.rangeAt b (off + k * 21) (z0 k).cells) := fun j u hu => (World.cell?_of_block (w := w) (K2.out.bel.block b hb)).trans (hc k hkn j u hu)
      have hA := hidd (h0'.out.each k hkn)
      obtain ⟨es, hes⟩ : ∃ es, madeN z0 k = es := ⟨_, rfl⟩
      obtain ⟨a, ha⟩ : ∃ a, z0 k = a := ⟨_, rfl⟩
      rw [hes, ha] at hm
      rw [hes] at K2
      rw [ha] at S2 hA
      have hl0 := hA.out.later.1
      have hl1 := hA.out.later.2
      have hw64 : IntKind.u64.wrap a.later = a.later := IntWalk.u64_in _ (by omega)
      clear hc hes ha K
      go_wp2_with fail
      refine wp_region_held_drew (S := (fun V => V.rangeAt b (off + k * 21) a.cells)) (by kernel_rfl) S2.out (fun hHeld => ?_)
      generalize wr.drew = D at K2 S2 hHeld ⊢
      refine wpAnyH_take (i := 0) (v := ?_) rfl (by kernel_rfl) (by kernel_rfl) (by kernel_rfl) (fun _ _ _ h => h) (Or.inl ⟨by kernel_rfl, ?_⟩) hHeld ?_
      rotate_left
      · intro wh hSw
        go_simp
        try with_reducible rfl
      try simp only [Act.put, List.getElem_toArray, List.getElem_cons_zero, List.getElem_cons_succ, List.setIfInBounds_toArray, List.set_cons_zero, List.set_cons_succ]
      refine wpAnyH_take (i := 1) (v := ?_) rfl (by kernel_rfl) (by kernel_rfl) (by kernel_rfl) (fun _ _ _ h => h) (Or.inl ⟨by kernel_rfl, ?_⟩) hHeld ?_
      rotate_left
      · intro wh hSw
        go_simp
        try with_reducible rfl
      try simp only [Act.put, List.getElem_toArray, List.getElem_cons_zero, List.getElem_cons_succ, List.setIfInBounds_toArray, List.set_cons_zero, List.set_cons_succ]
      refine wpAnyH_take (i := 2) (v := ?_) rfl (by kernel_rfl) (by kernel_rfl) (by kernel_rfl) (fun _ _ _ h => h) (Or.inl ⟨by kernel_rfl, ?_⟩) hHeld ?_
      rotate_left
      · intro wh hSw
        go_simp
        try with_reducible rfl
      try simp only [Act.put, List.getElem_toArray, List.getElem_cons_zero, List.getElem_cons_succ, List.setIfInBounds_toArray, List.set_cons_zero, List.set_cons_succ]
      refine wpAnyH_take (i := 3) (v := ?_) rfl (by kernel_rfl) (by kernel_rfl) (by kernel_rfl) (fun _ _ _ h => h) (Or.inl ⟨by kernel_rfl, ?_⟩) hHeld ?_
      rotate_left
      · intro wh hSw
        go_simp
        try with_reducible rfl
      try simp only [Act.put, List.getElem_toArray, List.getElem_cons_zero, List.getElem_cons_succ, List.setIfInBounds_toArray, List.set_cons_zero, List.set_cons_succ]
      refine wpAnyH_take (i := 4) (v := ?_) rfl (by kernel_rfl) (by kernel_rfl) (by kernel_rfl) (fun _ _ _ h => h) (Or.inl ⟨by kernel_rfl, ?_⟩) hHeld ?_
      rotate_left
      · intro wh hSw
        go_simp
        try with_reducible rfl
      try simp only [Act.put, List.getElem_toArray, List.getElem_cons_zero, List.getElem_cons_succ, List.setIfInBounds_toArray, List.set_cons_zero, List.set_cons_succ]
      refine wpAnyH_take (i := 5) (v := ?_) rfl (by kernel_rfl) (by kernel_rfl) (by kernel_rfl) (fun _ _ _ h => h) (Or.inl ⟨by kernel_rfl, ?_⟩) hHeld ?_
      rotate_left
      · intro wh hSw
        have hcell := act_later hA.out hSw
        go_simp
        try with_reducible rfl
      try simp only [Act.put, List.getElem_toArray, List.getElem_cons_zero, List.getElem_cons_succ, List.setIfInBounds_toArray, List.set_cons_zero, List.set_cons_succ]
      refine wpAnyH_take (i := 6) (v := ?_) rfl (by kernel_rfl) (by kernel_rfl) (by kernel_rfl) (fun _ _ _ h => h) (Or.inl ⟨by kernel_rfl, ?_⟩) hHeld ?_
      rotate_left
      · intro wh hSw
        go_simp
        try with_reducible rfl
      try simp only [Act.put, List.getElem_toArray, List.getElem_cons_zero, List.getElem_cons_succ, List.setIfInBounds_toArray, List.set_cons_zero, List.set_cons_succ]
      refine wpAnyH_take (i := 7) (v := ?_) rfl (by kernel_rfl) (by kernel_rfl) (by kernel_rfl) (fun _ _ _ h => h) (Or.inl ⟨by kernel_rfl, ?_⟩) hHeld ?_
      rotate_left
      · intro wh hSw
        go_simp
        try with_reducible rfl
      try simp only [Act.put, List.getElem_toArray, List.getElem_cons_zero, List.getElem_cons_succ, List.setIfInBounds_toArray, List.set_cons_zero, List.set_cons_succ]
      refine wpAnyH_take (i := 8) (v := ?_) rfl (by kernel_rfl) (by kernel_rfl) (by kernel_rfl) (fun _ _ _ h => h) (Or.inl ⟨by kernel_rfl, ?_⟩) hHeld ?_
      rotate_left
      · intro wh hSw
        go_simp
        try with_reducible rfl
      try simp only [Act.put, List.getElem_toArray, List.getElem_cons_zero, List.getElem_cons_succ, List.setIfInBounds_toArray, List.set_cons_zero, List.set_cons_succ]
      refine wpAnyH_take (i := 9) (v := ?_) rfl (by kernel_rfl) (by kernel_rfl) (by kernel_rfl) (fun _ _ _ h => h) (Or.inl ⟨by kernel_rfl, ?_⟩) hHeld ?_
      rotate_left
      · intro wh hSw
        go_simp
        try with_reducible rfl
      try simp only [Act.put, List.getElem_toArray, List.getElem_cons_zero, List.getElem_cons_succ, List.setIfInBounds_toArray, List.set_cons_zero, List.set_cons_succ]
      refine wpAnyH_take (i := 10) (v := ?_) rfl (by kernel_rfl) (by kernel_rfl) (by kernel_rfl) (fun _ _ _ h => h) (Or.inl ⟨by kernel_rfl, ?_⟩) hHeld ?_
      rotate_left
      · intro wh hSw
        go_simp
        try with_reducible rfl
      try simp only [Act.put, List.getElem_toArray, List.getElem_cons_zero, List.getElem_cons_succ, List.setIfInBounds_toArray, List.set_cons_zero, List.set_cons_succ]
      refine wpAnyH_take (i := 11) rfl (by kernel_rfl) (by kernel_rfl) (by kernel_rfl) (fun _ _ _ h => h) (yieldsIf_load_want (by kernel_rfl) 23 _ rfl _ rfl _ (fun wh hSw => act_a hA.out hSw)) hHeld ?_
      try simp only [Act.put, List.getElem_toArray, List.getElem_cons_zero, List.getElem_cons_succ, List.setIfInBounds_toArray, List.set_cons_zero, List.set_cons_succ]
      refine wpAnyH_take (i := 12) (v := ?_) rfl (by kernel_rfl) (by kernel_rfl) (by kernel_rfl) (fun _ _ _ h => h) (Or.inl ⟨by kernel_rfl, ?_⟩) hHeld ?_
      rotate_left
      · intro wh hSw
        go_simp
        try with_reducible rfl
      try simp only [Act.put, List.getElem_toArray, List.getElem_cons_zero, List.getElem_cons_succ, List.setIfInBounds_toArray, List.set_cons_zero, List.set_cons_succ]
      refine wpAnyH_take (i := 13) (v := ?_) rfl (by kernel_rfl) (by kernel_rfl) (by kernel_rfl) (fun _ _ _ h => h) (Or.inl ⟨by kernel_rfl, ?_⟩) hHeld ?_
      rotate_left
      · intro wh hSw
        go_simp
        try with_reducible rfl
      try simp only [Act.put, List.getElem_toArray, List.getElem_cons_zero, List.getElem_cons_succ, List.setIfInBounds_toArray, List.set_cons_zero, List.set_cons_succ]
      refine wpAnyH_take (i := 14) (v := ?_) rfl (by kernel_rfl) (by kernel_rfl) (by kernel_rfl) (fun _ _ _ h => h) (Or.inl ⟨by kernel_rfl, ?_⟩) hHeld ?_
      rotate_left
      · intro wh hSw
        go_simp
        try with_reducible rfl
      try simp only [Act.put, List.getElem_toArray, List.getElem_cons_zero, List.getElem_cons_succ, List.setIfInBounds_toArray, List.set_cons_zero, List.set_cons_succ]
      refine wpAnyH_take (i := 15) (v := ?_) rfl (by kernel_rfl) (by kernel_rfl) (by kernel_rfl) (fun _ _ _ h => h) (Or.inl ⟨by kernel_rfl, ?_⟩) hHeld ?_
      rotate_left
      · intro wh hSw
        go_simp
        try with_reducible rfl
      try simp only [Act.put, List.getElem_toArray, List.getElem_cons_zero, List.getElem_cons_succ, List.setIfInBounds_toArray, List.set_cons_zero, List.set_cons_succ]
      refine wpAnyH_take (i := 16) (v := ?_) rfl (by kernel_rfl) (by kernel_rfl) (by kernel_rfl) (fun _ _ _ h => h) (Or.inl ⟨by kernel_rfl, ?_⟩) hHeld ?_
      rotate_left
      · intro wh hSw
        have hcell := act_life hA.out hSw
        go_simp
        try with_reducible rfl
      try simp only [Act.put, List.getElem_toArray, List.getElem_cons_zero, List.getElem_cons_succ, List.setIfInBounds_toArray, List.set_cons_zero, List.set_cons_succ]
      refine wpAnyH_take (i := 17) (v := ?_) rfl (by kernel_rfl) (by kernel_rfl) (by kernel_rfl) (fun _ _ _ h => h) (Or.inl ⟨by kernel_rfl, ?_⟩) hHeld ?_
      rotate_left
      · intro wh hSw
        go_simp
        try with_reducible rfl
      try simp only [Act.put, List.getElem_toArray, List.getElem_cons_zero, List.getElem_cons_succ, List.setIfInBounds_toArray, List.set_cons_zero, List.set_cons_succ]
      refine wpAnyH_take (i := 18) (v := ?_) rfl (by kernel_rfl) (by kernel_rfl) (by kernel_rfl) (fun _ _ _ h => h) (Or.inl ⟨by kernel_rfl, ?_⟩) hHeld ?_
      rotate_left
      · intro wh hSw
        go_simp
        try with_reducible rfl
      try simp only [Act.put, List.getElem_toArray, List.getElem_cons_zero, List.getElem_cons_succ, List.setIfInBounds_toArray, List.set_cons_zero, List.set_cons_succ]
      refine wpAnyH_take (i := 19) (v := ?_) rfl (by kernel_rfl) (by kernel_rfl) (by kernel_rfl) (fun _ _ _ h => h) (Or.inl ⟨by kernel_rfl, ?_⟩) hHeld ?_
      rotate_left
      · intro wh hSw
        go_simp
        try with_reducible rfl
      try simp only [Act.put, List.getElem_toArray, List.getElem_cons_zero, List.getElem_cons_succ, List.setIfInBounds_toArray, List.set_cons_zero, List.set_cons_succ]
      refine wpAnyH_take (i := 20) (v := ?_) rfl (by kernel_rfl) (by kernel_rfl) (by kernel_rfl) (fun _ _ _ h => h) (Or.inl ⟨by kernel_rfl, ?_⟩) hHeld ?_
      rotate_left
      · intro wh hSw
        go_simp
        try with_reducible rfl
      try simp only [Act.put, List.getElem_toArray, List.getElem_cons_zero, List.getElem_cons_succ, List.setIfInBounds_toArray, List.set_cons_zero, List.set_cons_succ]
      refine wpAnyH_take (i := 21) (v := ?_) rfl (by kernel_rfl) (by kernel_rfl) (by kernel_rfl) (fun _ _ _ h => h) (Or.inl ⟨by kernel_rfl, ?_⟩) hHeld ?_
      rotate_left
      · intro wh hSw
        have hcell := act_flags hA.out hSw
        go_simp
        try with_reducible rfl
      try simp only [Act.put, List.getElem_toArray, List.getElem_cons_zero, List.getElem_cons_succ, List.setIfInBounds_toArray, List.set_cons_zero, List.set_cons_succ]
      refine wpAnyH_ready (rs := [22]) (by kernel_rfl) (by simp) (AllReadyH.cons rfl (fun K hK => ?_) AllReadyH.nil)
      clear hHeld
      go_simp
      refine (learn_any D B _ _ _ _ K2.out.rl a.later a.life a.flags a.a hA.out.addr hl0 (by omega) hA.out.life.1 hA.out.life.2 hA.out.flags.1 hA.out.flags.2).mono ?_
      rintro e V3 ⟨q, rfl, v3, r3, f3, m3⟩
      dsimp only
      have K3 := hidd (K2.out.turn r3 f3 m3)
      have S3 : Hid (V3.rangeAt b (off + k * 21) a.cells) := act_fr S2.out (fun e => by rcases e with e | e; omega; have := (K2.out.rl.own.lt b e).1; omega) f3
      clear r3 f3 m3
      refine hK.out _ _ S3.out (fun hHeld => ?_)
      clear hK K
      try simp only [Act.put, List.getElem_toArray, List.getElem_cons_zero, List.getElem_cons_succ, List.setIfInBounds_toArray, List.set_cons_zero, List.set_cons_succ]
      refine wpAnyH_done (by kernel_rfl) ?_ _
      clear hHeld
      clear S3 S2 K2
      go_wp2
      go_roundw
      case rel => exact ⟨k + 1, v3, by omega, by go_num, by rw [hm.out]; exact K3.out⟩
      case measure => simp [intOf]; omega
    · have hkn' : k = n0 := by omega
      subst hkn'
      go_wp2_with fail
      go_ret
      rw [hB]
      exact ⟨rfl, v, K.out⟩

theorem pick_not (w : World) (pv : Option Addr) (A : Option Addr) (n c : Nat) (h : Not w (.pointer pv)) : Calls Try.prog 7 #[.pointer pv, .slice A n c] w fun e w' => e = .returned (.tuple #[.agg (bytesV zeroA), .bool false]) ∧ Below w.heap.size w w' := by
  obtain ⟨s, Ss⟩ : ∃ s, w.heap.size = s := ⟨_, rfl⟩
  have b1 : Below s w ((w.alloc (.cells #[.pointer pv] 29)).alloc (.cells (bytesV zeroA) 23)) := by rw [← Ss]; exact ((Below.refl _ w).alloc (Nat.le_refl _) _).alloc (by simp) _
  have hN : Not ((w.alloc (.cells #[.pointer pv] 29)).alloc (.cells (bytesV zeroA) 23)) (.pointer pv) := by
    rcases h with h | ⟨B, h1, h2⟩
    · exact .inl h
    · exact .inr ⟨B, h1, (b1.cell (p := ⟨B, 18, none⟩) (by have := World.block_lt_of_cell? w _ h2; rw [← Ss]; exact this)).trans h2⟩
  have hT := hidd (there_not _ _ hN)
  have K0 : Blk ((w.alloc (.cells #[.pointer pv] 29)).alloc (.cells (bytesV zeroA) 23)) s 29 #[.pointer pv] := by rw [← Ss]; exact (Blk.new w 29 #[.pointer pv]).alloc _
  have K2 : Hid (Blk ((w.alloc (.cells #[.pointer pv] 29)).alloc (.cells (bytesV zeroA) 23)) (s + 1) 23 (bytesV zeroA)) := by
    have := Blk.new (w.alloc (.cells #[.pointer pv] 29)) 23 (bytesV zeroA)
    refine hidd ?_
    simpa [Ss] using this
  have b1' := hidd b1
  rw [Ss]
  clear hN h b1
  go_enter Try.func7, Try.ntmps7
  go_wp2_with fail
  rw [show (#[.int .u8 0, .int .u8 0, .int .u8 0, .int .u8 0, .int .u8 0, .int .u8 0, .int .u8 0, .int .u8 0, .int .u8 0, .int .u8 0, .int .u8 0, .int .u8 0, .int .u8 0, .int .u8 0, .int .u8 0, .int .u8 0] : Array Value) = bytesV zeroA from rfl]
  generalize ((w.alloc (.cells #[.pointer pv] 29)).alloc (.cells (bytesV zeroA) 23)) = W1 at K0 K2 b1' hT ⊢
  have c0 := K0.at_ (i := 0) rfl
  go_wp2_with (first
    | (go_at_call 17; refine Calls.mono hT.out ?_; rintro e w2 ⟨rfl, rfl⟩)
    | (with_reducible show wpList _ _ _ (⟨_, Op.store 23 (.tmp 4) _, _, _, _, _⟩ :: _) _ _; refine wpList_store_blk rfl rfl 23 (.tmp 4) _ rfl (s + 1) 23 (bytesV zeroA) (bytesV zeroA) K2.out rfl rfl (size_a zeroA_is) rfl (ones_b zeroA) ?_))
  exact bodyPost_ret (res7 zeroA_is rfl rfl (K2.out.setRow _)) rfl ⟨rfl, below_setRow b1'.out (by omega) _⟩

theorem drop_not (w : World) (pv : Option Addr) (a : List Int) (h : Not w (.pointer pv)) : Calls Try.prog 9 #[.pointer pv, .agg (bytesV a)] w fun e w' => e = .returned (.bool false) ∧ Below w.heap.size w w' := by
  have b1 : Below w.heap.size w (w.alloc (.cells (bytesV a) 23)) := (Below.refl _ w).alloc (Nat.le_refl _) _
  have hN : Not (w.alloc (.cells (bytesV a) 23)) (.pointer pv) := by
    rcases h with h | ⟨B, h1, h2⟩
    · exact .inl h
    · exact .inr ⟨B, h1, (b1.cell (p := ⟨B, 18, none⟩) (World.block_lt_of_cell? w _ h2)).trans h2⟩
  have hT := hidd (there_not _ _ hN)
  have b1' := hidd b1
  clear hN h b1
  go_enter Try.func9, Try.ntmps9
  go_wp2_with (go_at_call 17; refine Calls.mono hT.out ?_; rintro e w2 ⟨rfl, rfl⟩)
  go_ret
  exact ⟨rfl, b1'.out⟩
end Go.Proofs.Ytnchjbgfmkmbaaa
