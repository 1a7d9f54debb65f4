/- A set of timers: what it is in memory; a new one; how many; a timer's name. Each function walked once. No condition. -/
import Derived.Test.YtepenfgoejhofaaRem
namespace Go.Proofs.Ytepenfgoejhofaa
open Go.ChangeShapes Go.WideShapes Go.ChangeAt Go.RowKit Go.Deep
set_option linter.unusedVariables false
set_option linter.unusedSimpArgs false

abbrev kOf (t : T3) : K2 := (t.1, t.2.1)
structure IsT (t : T3) : Prop where
  k : IsK (kOf t)
  at_ : 0 ≤ t.2.2 ∧ t.2.2 ≤ 18446744073709551615
/-- A set at block B that holds the timers m, in whatever order. -/
structure Tc (W : World) (F : Nat → Prop) (B mb ck : Nat) (ms : List Mm) (A : Option Addr) (n c : Nat) (L : Xs) (m : List T3) : Prop where
  hp : Hp W (fun k => F k ∧ k ≠ mb) B A n c (.map (some mb)) L
  mp : IsM W mb ms ck
  fm : F mb
  mm : (ms.map fun e => (e.1, e.2.1)).Perm (L.map fun x => (kOf x.2, x.1))
  pm : (L.map (·.2)).Perm m
  nd : (m.map kOf).Nodup
  hh : Hpf (vl L) n
  mx : n ≤ 256
  ist : ∀ t ∈ m, IsT t
  bd : ∀ k, F k → k < W.heap.size
def Tm (W : World) (F : Nat → Prop) (B : Nat) (m : List T3) : Prop := ∃ mb ck ms A n c L, Tc W F B mb ck ms A n c L m
section
variable {W W' : World} {F S : Nat → Prop} {B mb ck n c : Nat} {ms : List Mm} {A : Option Addr} {L : Xs} {m : List T3}
theorem Tc.fr (h : Tc W F B mb ck ms A n c L m) (hf : Fr S W W') (hd : ∀ k, F k → ¬ S k) : Tc W' F B mb ck ms A n c L m :=
  ⟨h.hp.fr hf (fun k hk => hd k hk.1), h.mp.fr hf (hd _ h.fm), h.fm, h.mm, h.pm, h.nd, h.hh, h.mx, h.ist, fun k hk => by have := h.bd k hk; have := hf.size; omega⟩
theorem Tc.bel (h : Tc W F B mb ck ms A n c L m) (hb : Below W.heap.size W W') : Tc W' F B mb ck ms A n c L m := h.fr (S := fun _ => False) (Fr.of_below hb _) (fun _ _ e => e)
theorem Tm.fr (h : Tm W F B m) (hf : Fr S W W') (hd : ∀ k, F k → ¬ S k) : Tm W' F B m := by
  obtain ⟨mb, ck, ms, A, n, c, L, h⟩ := h
  exact ⟨mb, ck, ms, A, n, c, L, h.fr hf hd⟩
theorem Tm.bel (h : Tm W F B m) (hb : Below W.heap.size W W') : Tm W' F B m := h.fr (S := fun _ => False) (Fr.of_below hb _) (fun _ _ e => e)
theorem Tc.len (h : Tc W F B mb ck ms A n c L m) : m.length = n := by
  have h1 := h.pm.length_eq
  rw [List.length_map] at h1
  rw [← h1]; exact h.hp.len
theorem Tc.mlen (h : Tc W F B mb ck ms A n c L m) : ms.length = n := by
  have h1 := h.mm.length_eq
  rw [List.length_map, List.length_map] at h1
  rw [h1]; exact h.hp.len
theorem Tc.tm (h : Tc W F B mb ck ms A n c L m) : Tm W F B m := ⟨mb, ck, ms, A, n, c, L, h⟩
theorem Tm.bd (h : Tm W F B m) : ∀ k, F k → k < W.heap.size := by
  obtain ⟨mb, ck, ms, A, n, c, L, h⟩ := h
  exact h.bd
theorem Tm.nd (h : Tm W F B m) : (m.map kOf).Nodup := by
  obtain ⟨mb, ck, ms, A, n, c, L, h⟩ := h
  exact h.nd
theorem Tm.ist (h : Tm W F B m) : ∀ t ∈ m, IsT t := by
  obtain ⟨mb, ck, ms, A, n, c, L, h⟩ := h
  exact h.ist
theorem Tm.mx (h : Tm W F B m) : m.length ≤ 256 := by
  obtain ⟨mb, ck, ms, A, n, c, L, h⟩ := h
  rw [h.len]; exact h.mx
end
theorem new_any (W : World) : Calls Try.prog 8 #[] W fun r W' => ∃ B F, r = .returned (ptr B) ∧ Tm W' F B [] ∧ (∀ k, F k → W.heap.size ≤ k) ∧ Below W.heap.size W W' := by
  have hmm := @run_makeMap Try.prog
  obtain ⟨V, hV⟩ : ∃ V, (W.alloc (.map #[] 0)).alloc (.cells #[.slice none 0 0, .map (some W.heap.size)] 50) = V := ⟨_, rfl⟩
  have hb : Below W.heap.size W V := hV ▸ (((Below.refl _ W).alloc (Nat.le_refl _) _).alloc (by simp) _)
  have hs : Blk V (W.heap.size + 1) 50 #[.slice none 0 0, .map (some W.heap.size)] := by
    rw [← hV]
    have := Blk.new (W.alloc (.map #[] 0)) 50 #[.slice none 0 0, .map (some W.heap.size)]
    simpa using this
  have hm : IsM V W.heap.size [] 0 := by
    rw [← hV]
    have h1 : (W.alloc (.map #[] 0)).heap[W.heap.size]? = some (.map #[] 0) := heap_alloc_new W _
    exact (Below.heap_alloc _ _ _ (by simp)).trans h1
  have hsz : V.heap.size = W.heap.size + 2 := by rw [← hV]; simp
  have K : Hid (Tm V (fun k => W.heap.size ≤ k ∧ k < V.heap.size) (W.heap.size + 1) []) := hidd ⟨W.heap.size, 0, [], none, 0, 0, [], ⟨rfl, hs, World.ownsRow_nil V 0 58 1, fun j x hj => by simp at hj, ⟨⟨by omega, by omega⟩, by omega⟩, fun k hk => by simp [Value.ownBlock] at hk, fun x hx => by simp at hx⟩, hm, ⟨Nat.le_refl _, by omega⟩, List.Perm.refl _, List.Perm.refl _, List.nodup_nil, fun k h0 hk => by omega, by omega, fun t ht => by simp at ht, fun k hk => hk.2⟩
  have hb' := hidd hb
  clear hs hm hsz hb
  go_enter Try.func8, Try.ntmps8
  go_wp2
  go_ret
  exact ⟨W.heap.size + 1, _, rfl, K.out, fun k hk => hk.1, hb'.out⟩
theorem size_any (W : World) {F : Nat → Prop} {B : Nat} {m : List T3} (h : Tm W F B m) : Calls Try.prog 10 #[ptr B] W fun r W' => r = .returned (.int .i64 m.length) ∧ W = W' := by
  obtain ⟨mb, ck, ms, A, n, c, L, h⟩ := h
  have c0 := h.hp.set.at_ (i := 0) rfl
  have hl := h.len
  rw [hl]
  clear h hl
  go_enter Try.func10, Try.ntmps10
  go_wp2
  go_ret
  exact ⟨rfl, rfl⟩
theorem info30 : (Try.prog.info? 30).map (·.size) = some 2 := by kernel_rfl
theorem ld30 {W : World} {b : Nat} {x : K2} (h : Blk W b 30 (keyV x)) : (loadVar 30 ⟨b, 0, none⟩).run Try.prog W = .ok (.agg (keyV x)) W := h.load Try.underlying30 rfl info30
theorem ldKey {W : World} {b j : Nat} {t : T3} (h : Blk W b 61 (boxV t j)) : (loadVar 30 ⟨b, 0, none⟩).run Try.prog W = .ok (.agg (keyV (kOf t))) W :=
  run_loadVar_mid (P := Try.prog) W b 0 30 [.int .u8 t.1, .int .u64 t.2.1] _ (fun i u hu => by
    rw [h.cell]
    match i, hu with
    | 0, hu => simpa using hu
    | 1, hu => simpa using hu) Try.underlying30 rfl info30
theorem ones30 (x : K2) : (keyV x).all (·.oneCell') = true := by simp [keyV, Value.oneCell']
theorem timer_any (W : World) (k i : Int) : Calls Try.prog 18 #[.int .u8 k, .int .u64 i] W fun r W' => r = .returned (.agg (keyV (k, i))) ∧ Below W.heap.size W W' := by
  go_enter Try.func18, Try.ntmps18
  go_wp2
  have l2 := ld30 (Blk.new W 30 (keyV (k, i)))
  exact bodyPost_ret (v := .agg (keyV (k, i))) (by simp [results, Try.results18, Act.put, asAddr, l2]) rfl ⟨rfl, (Below.refl _ W).alloc (Nat.le_refl _) _⟩
/-- The first one of all. -/
def bestM : List T3 → Option T3
  | [] => none
  | t :: m => some (m.foldl (fun b x => if bef x b then x else b) t)
theorem best_fold : ∀ (m : List T3) (t : T3), (m.foldl (fun b x => if bef x b then x else b) t = t ∨ m.foldl (fun b x => if bef x b then x else b) t ∈ m) ∧ lee (m.foldl (fun b x => if bef x b then x else b) t) t ∧ ∀ u ∈ m, lee (m.foldl (fun b x => if bef x b then x else b) t) u
  | [], t => ⟨.inl rfl, lee_refl t, fun u hu => by simp at hu⟩
  | x :: m, t => by
    rw [List.foldl_cons]
    cases hb : bef x t with
    | true =>
      obtain ⟨h1, h2, h3⟩ := best_fold m x
      rw [if_pos rfl]
      refine ⟨.inr ?_, lee_trans h2 (lee_of_bef hb), fun u hu => ?_⟩
      · rcases h1 with h1 | h1
        · rw [h1]; simp
        · exact List.mem_cons_of_mem _ h1
      · rcases List.mem_cons.1 hu with rfl | hu
        · exact h2
        · exact h3 u hu
    | false =>
      obtain ⟨h1, h2, h3⟩ := best_fold m t
      rw [if_neg (by simp)]
      refine ⟨?_, h2, fun u hu => ?_⟩
      · rcases h1 with h1 | h1
        · exact .inl h1
        · exact .inr (List.mem_cons_of_mem _ h1)
      · rcases List.mem_cons.1 hu with rfl | hu
        · exact lee_trans h2 hb
        · exact h3 u hu
theorem best_least {m : List T3} {t : T3} (h : bestM m = some t) : t ∈ m ∧ ∀ u ∈ m, lee t u := by
  cases m with
  | nil => cases h
  | cons x m =>
    simp only [bestM, Option.some.injEq] at h
    obtain ⟨h1, h2, h3⟩ := best_fold m x
    rw [h] at h1 h2 h3
    refine ⟨?_, fun u hu => ?_⟩
    · rcases h1 with h1 | h1
      · rw [h1]; simp
      · exact List.mem_cons_of_mem _ h1
    · rcases List.mem_cons.1 hu with rfl | hu
      · exact h2
      · exact h3 u hu
theorem best_of {m : List T3} {t : T3} (h : t ∈ m) (hl : ∀ u ∈ m, lee t u) : bestM m = some t := by
  cases hb : bestM m with
  | none =>
    cases m with
    | nil => cases h
    | cons x m => cases hb
  | some s =>
    obtain ⟨h1, h2⟩ := best_least hb
    rw [lee_anti (h2 t h) (hl s h1)]
def nextV : Option T3 → Value
  | none => .tuple #[.agg (keyV (0, 0)), .int .u64 0, .bool false]
  | some t => .tuple #[.agg (keyV (kOf t)), .int .u64 t.2.2, .bool true]
end Go.Proofs.Ytepenfgoejhofaa
