/- Ticks, on both books; when the next one's time is over, by the document; walked once. No condition. -/
import Derived.Test.YtajlgglknianlaaRefMore
namespace Go.Proofs.Ytajlgglknianlaa
open Go.ChangeShapes Go.WideShapes Go.ChangeAt Go.RowKit Go.Deep
set_option linter.unusedVariables false
set_option linter.unusedSimpArgs false

set_option maxRecDepth 100000 in
theorem tick_more (w : World) (B : Nat) (vs vd : Value) (ss : List Sv.E) (ds : List Dm.E) (h : Bk w B vs vd ss ds) (now : Int) : Calls Try.prog 10 #[.pointer (some ⟨B, 0, none⟩), .int .u64 now] w fun e w' => (∃ r, e = .returned r) ∧
      ∃ vs' vd', Bk w' B vs' vd' (Sv.ticked now ss) (Dm.ticked now ds) ∧ Fr (fun k => k = B ∨ vs.ownBlock = some k ∨ vd.ownBlock = some k) w w' ∧ (∀ k, vs'.ownBlock = some k → vs.ownBlock = some k ∨ w.heap.size ≤ k) ∧ (∀ k, vd'.ownBlock = some k → vd.ownBlock = some k ∨ w.heap.size ≤ k) := by
  have hT := hidd (Sv.there_yes w B h.most)
  have h' := hidd h
  obtain ⟨s, Ss⟩ : ∃ s, w.heap.size = s := ⟨_, rfl⟩
  have hBs : B < s := by have := h.lt; omega
  clear h
  go_enter Try.func10, Try.ntmps10
  go_wp2_with (go_at_call 20; refine Calls.mono hT.out ?_; rintro e w2 ⟨rfl, rfl⟩)
  go_region
  go_wp2_with fail
  have k0 := Blk.new w2 33 #[.func (.func 22) #[.pointer (some ⟨B, 0, none⟩)] #[], .func (.func 23) #[.pointer (some ⟨B, 2, none⟩)] #[]]
  have b0 := ((Below.refl s w2).alloc (by omega) (.cells #[.func (.func 22) #[.pointer (some ⟨B, 0, none⟩)] #[], .func (.func 23) #[.pointer (some ⟨B, 2, none⟩)] #[]] 33)).drew
  have K0 := hidd k0.drew
  have B0 := hidd b0
  clear k0 b0
  generalize (w2.alloc (.cells #[.func (.func 22) #[.pointer (some ⟨B, 0, none⟩)] #[], .func (.func 23) #[.pointer (some ⟨B, 2, none⟩)] #[]] 33)).drew = V at K0 B0 ⊢
  rw [Ss] at K0
  go_loopw [19] (fun i wr => ∃ (j : Nat) (a b : Value), j ≤ 2 ∧ i = .int .i64 j ∧ Bk wr B a b (if 1 ≤ j then Sv.ticked now ss else ss) (if 2 ≤ j then Dm.ticked now ds else ds) ∧ Blk wr s 33 #[.func (.func 22) #[.pointer (some ⟨B, 0, none⟩)] #[], .func (.func 23) #[.pointer (some ⟨B, 2, none⟩)] #[]] ∧
    Fr (fun k => k = B ∨ vs.ownBlock = some k ∨ vd.ownBlock = some k) w2 wr ∧ (∀ k, a.ownBlock = some k → k ≠ s ∧ (vs.ownBlock = some k ∨ s < k)) ∧ (∀ k, b.ownBlock = some k → k ≠ s ∧ (vd.ownBlock = some k ∨ s < k))) (fun i _ => 2 - (intOf i).toNat)
  case atStart => exact ⟨0, vs, vd, by omega, rfl, h'.out.to (by rw [Ss]; exact B0.out), K0.out, Fr.of_below (by rw [Ss]; exact B0.out) _, fun k hk => ⟨by have := (h'.out.s.lt k hk).2; omega, .inl hk⟩, fun k hk => ⟨by have := (h'.out.d.lt k hk).2; omega, .inl hk⟩⟩
  case round =>
    obtain ⟨j, a, b, hj, rfl, hbk, hK, hF, ha, hb⟩ := hrel
    have hbk' := hidd hbk
    have hK' := hidd hK
    have hws := hF.size
    have hF' := hidd hF
    have hsr := hK.lt
    match j, hj with
    | 0, _ =>
      have c0 := hK.at_ (i := 0) rfl
      have hP := hidd (Sv.tick_any wr B (B + 1) _ a _ hbk.hs hbk.sInv (by omega) now)
      clear hbk hK hF
      go_wp2_with (go_at_call 22; refine Calls.mono hP.out ?_; rintro e w3 ⟨⟨r, rfl⟩, v, hv⟩)
      go_roundw
      case measure => simp [intOf]
      case rel =>
        have hl : (Sv.ticked now ss).length ≤ 4 := Nat.le_trans (List.length_filter_le _ _) hbk'.out.s4
        exact ⟨1, v, b, by omega, by go_num, hbk'.out.sTo hv hl, hK'.out.fr hv.fr (fun e => by
            rcases e with e | e
            · omega
            · exact (ha s e).1 rfl),
          Sv.fr_step hF'.out hv.fr (fun k hk e => by
            rcases e with e | e
            · exact .inl e
            · rcases (ha k e).2 with h1 | h1
              · exact .inr (.inl h1)
              · omega),
          fun k hk => by
            rcases hv.mine k hk with e | e
            · exact ha k e
            · exact ⟨by omega, .inr (by omega)⟩, hb⟩
    | 1, _ =>
      have c0 := hK.at_ (i := 1) rfl
      have hP := hidd (Dm.tick_any wr B (B + 1) _ b _ hbk.hd hbk.dInv (by omega) now)
      clear hbk hK hF
      go_wp2_with (go_at_call 23; refine Calls.mono hP.out ?_; rintro e w3 ⟨⟨r, rfl⟩, v, hv⟩)
      go_roundw
      case measure => simp [intOf]
      case rel =>
        have hl : (Dm.ticked now ds).length ≤ 4 := Nat.le_trans (List.length_filter_le _ _) hbk'.out.d4
        exact ⟨2, a, v, by omega, by go_num, hbk'.out.dTo hv hl, hK'.out.fr hv.fr (fun e => by
            rcases e with e | e
            · omega
            · exact (hb s e).1 rfl),
          Sv.fr_step hF'.out hv.fr (fun k hk e => by
            rcases e with e | e
            · exact .inl e
            · rcases (hb k e).2 with h1 | h1
              · exact .inr (.inr h1)
              · omega),
          ha, fun k hk => by
            rcases hv.mine k hk with e | e
            · exact hb k e
            · exact ⟨by omega, .inr (by omega)⟩⟩
    | 2, _ =>
      clear hbk hK hF
      go_wp2
      go_end0
      exact ⟨⟨_, rfl⟩, a, b, hbk'.out, hF'.out, fun k hk => by rcases (ha k hk).2 with e | e; exact .inl e; exact .inr (by omega), fun k hk => by rcases (hb k hk).2 with e | e; exact .inl e; exact .inr (by omega)⟩

namespace Rf
set_option maxRecDepth 100000 in
set_option maxHeartbeats 1000000 in
theorem tick_any (w : World) (M : Nat) (v d : Value) (ss : List Sv.E) (dd : List Dm.E) (h : Rb w M v d (ss.map embS) (dd.map embD)) (now : Int) (n0 : 0 ≤ now) (n1 : now ≤ 18446744073709551615) :
    Calls Try.prog 18 #[.pointer (some ⟨M, 0, none⟩), .int .u64 now] w fun e w' => (∃ r, e = .returned r) ∧
      ∃ v' d', Rb w' M v' d' ((Sv.ticked now ss).map embS) ((Dm.ticked now dd).map embD) ∧ Fr (· = M) w w' ∧ (∀ k, v'.ownBlock = some k → w.heap.size ≤ k) ∧ (∀ k, d'.ownBlock = some k → w.heap.size ≤ k) := by
  obtain ⟨Av, cv, hv⟩ := slice_of_own h.s
  obtain ⟨Ad, cd, hd⟩ := slice_of_own h.d
  rw [List.length_map] at hv hd
  subst hv hd
  have c1 : w.cell? ⟨M, 0, none⟩ = some (.slice Av ss.length cv) := h.blk.at_ rfl
  have f1 := h.blk.frozen 0
  have hM := h.lt
  have h' := hidd h
  clear h
  go_enter Try.func18, Try.ntmps18
  go_wp2_with fail
  refine (left_any w Av ss.length cv _ (Ls.of_own (by have := h'.out.s; rwa [List.length_map] at this) (List.length_map _) h'.out.sok) h'.out.s4 now n0 n1).mono ?_
  rintro e V1 ⟨v1, rfl, o1, b1⟩
  rw [rleft_S] at o1
  obtain ⟨A1, k1, hv1⟩ := slice_of_own o1
  rw [List.length_map] at hv1
  subst hv1
  have hok1 : ∀ e ∈ (Sv.ticked now ss).map embS, IsE e := fun e he => by
    obtain ⟨f, hf, rfl⟩ := List.mem_map.1 he
    exact h'.out.sok _ (List.mem_map.2 ⟨f, (List.mem_filter.1 hf).1, rfl⟩)
  have T1 := h'.out.turnS b1 o1 hok1 (by have h1 := h'.out.s4; rw [List.length_map] at h1 ⊢; exact Nat.le_trans (List.length_filter_le _ _) h1)
  have c2 := (b1.cell (p := ⟨M, 0, none⟩) hM).trans c1
  have f2 := (b1.frozen (p := ⟨M, 0, none⟩) hM).trans f1
  have T1' := hidd T1
  have hMs := Nat.lt_of_lt_of_le hM b1.size
  have c3 : (V1.setCell ⟨M, 0, none⟩ (.slice A1 (Sv.ticked now ss).length k1)).cell? ⟨M, 1, none⟩ = some (.slice Ad dd.length cd) := T1.1.blk.at_ rfl
  have f3 : (V1.setCell ⟨M, 0, none⟩ (.slice A1 (Sv.ticked now ss).length k1)).frozen? ⟨M, 1, none⟩ = false := T1.1.blk.frozen 1
  clear T1 o1 b1 c1 f1
  go_wp2_with fail
  refine (left_any _ Ad dd.length cd _ (Ls.of_own (by have := T1'.out.1.d; rwa [List.length_map] at this) (List.length_map _) T1'.out.1.dok) T1'.out.1.d4 now n0 n1).mono ?_
  rintro e V2 ⟨v2, rfl, o2, b2⟩
  rw [rleft_D] at o2
  obtain ⟨A2, k2, hv2⟩ := slice_of_own o2
  rw [List.length_map] at hv2
  subst hv2
  have hok2 : ∀ e ∈ (Dm.ticked now dd).map embD, IsE e := fun e he => by
    obtain ⟨f, hf, rfl⟩ := List.mem_map.1 he
    exact h'.out.dok _ (List.mem_map.2 ⟨f, (List.mem_filter.1 hf).1, rfl⟩)
  have T2 := hidd (T1'.out.1.turnD b2 o2 hok2 (by have h1 := h'.out.d4; rw [List.length_map] at h1 ⊢; exact Nat.le_trans (List.length_filter_le _ _) h1))
  have c4 := (b2.cell (p := ⟨M, 1, none⟩) T1'.out.1.lt).trans c3
  have f4 := (b2.frozen (p := ⟨M, 1, none⟩) T1'.out.1.lt).trans f3
  have hb2 := b2.size
  have hz := T1'.out.2.1.size
  clear o2 b2 c3 f3 c2 f2
  go_wp2
  go_end0
  exact ⟨⟨_, rfl⟩, _, _, T2.out.1, T1'.out.2.1.trans T2.out.2.1, fun k hk => T1'.out.2.2 k hk, fun k hk => Nat.le_trans hz (T2.out.2.2 k hk)⟩

theorem nextFrom (us : List Int) (a : Int) (h : a ≤ 9223372036854775807) : us.foldl min a = min a (nextOf us) := by
  induction us generalizing a with
  | nil => simp [nextOf]; omega
  | cons u us ih =>
    have e1 : nextOf (u :: us) = min (min 9223372036854775807 u) (nextOf us) := by rw [nextOf, List.foldl_cons]; exact ih _ (by omega)
    rw [List.foldl_cons, ih _ (by omega), e1]
    omega
theorem fold_snoc {us : List Int} {j : Nat} {u a : Int} (h : us[j]? = some u) : (us.take (j + 1)).foldl min a = min ((us.take j).foldl min a) u := by
  rw [List.take_add_one, h, List.foldl_append]; rfl
set_option maxRecDepth 100000 in
set_option maxHeartbeats 1000000 in
theorem next_any (w : World) (M : Nat) (v d : Value) (es ds : List E) (h : Rb w M v d es ds) :
    Calls Try.prog 35 #[.pointer (some ⟨M, 0, none⟩)] w fun e w' => e = .returned (.int .u64 (min (nextOf (es.map (·.2.2))) (nextOf (ds.map (·.2.2))))) ∧ w = w' := by
  obtain ⟨Av, cv, rfl⟩ := slice_of_own h.s
  obtain ⟨Ad, cd, rfl⟩ := slice_of_own h.d
  have c1 : w.cell? ⟨M, 0, none⟩ = some (.slice Av es.length cv) := h.blk.at_ rfl
  have c2 : w.cell? ⟨M, 1, none⟩ = some (.slice Ad ds.length cd) := h.blk.at_ rfl
  have h' := hidd h
  have hs4 := h.s4
  have hd4 := h.d4
  have q1 := (Rd.of_own h.s).cap
  have q2 := (Rd.of_own h.s).cmax
  have q3 := (Rd.of_own h.d).cap
  have q4 := (Rd.of_own h.d).cmax
  unfold maxLen at q2 q4
  clear h
  go_enter Try.func35, Try.ntmps35
  go_wp2
  go_loop [3, 4] (fun a i => ∃ j : Nat, j ≤ es.length ∧ i = .int .i64 j ∧ a = .int .u64 (nextOf ((es.map (·.2.2)).take j))) (fun _ i => es.length - (intOf i).toNat)
  case atStart => exact ⟨0, by omega, rfl, rfl⟩
  case round =>
    obtain ⟨j, hj, rfl, rfl⟩ := hrel
    obtain ⟨q, hq⟩ : ∃ q, nextOf ((es.map (·.2.2)).take j) = q := ⟨_, rfl⟩
    rw [hq]
    by_cases hjn : j < es.length
    · obtain ⟨e, he⟩ : ∃ e, es[j]? = some e := ⟨_, List.getElem?_eq_getElem hjn⟩
      have hst := hidd (next_snoc (us := es.map (·.2.2)) (j := j) (u := e.2.2) (by simp [he]))
      rw [hq] at hst
      obtain ⟨b, off, hA, _, hr⟩ := (Ls.of_own h'.out.s rfl h'.out.sok).range isEnc (by omega)
      subst hA
      have c3 := hr j e he 17 _ (until_enc (h'.out.sok e (List.mem_of_getElem? he)))
      have hjz : (j : Int) < (es.length : Int) := by omega
      clear hq hr he
      go_wp2
      go_round
      case rel => exact ⟨j + 1, by omega, by go_num, by rw [hst.out]; congr 1; (try split) <;> omega⟩
      case measure => simp [intOf]; omega
    · have hjn' : j = es.length := by omega
      subst hjn'
      rw [List.take_of_length_le (by simp)] at hq
      have hq' := hidd hq
      have hql : q ≤ 9223372036854775807 := by
        have := next_lo (us := es.map (·.2.2)) (fun u hu => by obtain ⟨e, he, rfl⟩ := List.mem_map.1 hu; exact (h'.out.sok e he).lo)
        omega
      clear hq
      go_wp2
      go_loop [3, 5] (fun a i => ∃ j : Nat, j ≤ ds.length ∧ i = .int .i64 j ∧ a = .int .u64 (((ds.map (·.2.2)).take j).foldl min q)) (fun _ i => ds.length - (intOf i).toNat)
      case atStart => exact ⟨0, by omega, rfl, rfl⟩
      case round =>
        obtain ⟨j, hj, rfl, rfl⟩ := hrel
        obtain ⟨p, hp⟩ : ∃ p, ((ds.map (·.2.2)).take j).foldl min q = p := ⟨_, rfl⟩
        rw [hp]
        by_cases hjn : j < ds.length
        · obtain ⟨e, he⟩ : ∃ e, ds[j]? = some e := ⟨_, List.getElem?_eq_getElem hjn⟩
          have hst := hidd (fold_snoc (us := ds.map (·.2.2)) (j := j) (u := e.2.2) (a := q) (by simp [he]))
          rw [hp] at hst
          obtain ⟨b, off, hA, _, hr⟩ := (Ls.of_own h'.out.d rfl h'.out.dok).range isEnc (by omega)
          subst hA
          have c3 := hr j e he 17 _ (until_enc (h'.out.dok e (List.mem_of_getElem? he)))
          have hjz : (j : Int) < (ds.length : Int) := by omega
          clear hp hr he
          go_wp2
          go_round
          case rel => exact ⟨j + 1, by omega, by go_num, by rw [hst.out]; congr 1; (try split) <;> omega⟩
          case measure => simp [intOf]; omega
        · have hjn' : j = ds.length := by omega
          subst hjn'
          rw [List.take_of_length_le (by simp), nextFrom _ _ hql, ← hq'.out] at hp
          have hp' := hidd hp
          clear hp
          go_wp2
          go_ret
          exact ⟨by rw [hp'.out]; rfl, rfl⟩
end Rf
end Go.Proofs.Ytajlgglknianlaa
