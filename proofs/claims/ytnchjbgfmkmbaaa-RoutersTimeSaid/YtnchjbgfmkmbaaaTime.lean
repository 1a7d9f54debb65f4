/- 'RoutersTime': for every input the law returns true; nothing that was there is written. No condition. -/
import Derived.Test.YtnchjbgfmkmbaaaSeen
namespace Go.Proofs.Ytnchjbgfmkmbaaa
open Go.ChangeShapes Go.WideShapes Go.ChangeAt Go.RowKit Go.Deep
set_option linter.unusedVariables false
set_option linter.unusedSimpArgs false

/-- The lists that were given: before, behind, and who is gone. -/
structure Bw (w W : World) (B : Nat) (v : Value) (es L M : List E) (G : List (List Int)) (A Ag Am : Option Addr) : Prop where
  rl : Rl W B v es zeroA false
  bel : Below w.heap.size w W
  x : GivenK 0 W (.slice A L.length L.length) L
  g : GivenA 0 W (.slice Ag G.length G.length) G
  y : GivenK 0 W (.slice Am M.length M.length) M
section
variable {w W V : World} {B : Nat} {v : Value} {es L M : List E} {G : List (List Int)} {A Ag Am : Option Addr}
theorem Bw.to (h : Bw w W B v es L M G A Ag Am) (hb : Below W.heap.size W V) : Bw w V B v es L M G A Ag Am :=
  ⟨h.rl.to hb, h.bel.trans (hb.mono h.bel.size), h.x.to hb, h.g.to hb, h.y.to hb⟩
end
theorem GivenA.le {lo lo' : Nat} {w : World} {v : Value} {xs : List (List Int)} (h : GivenA lo w v xs) (hl : lo' ≤ lo) : GivenA lo' w v xs := by
  obtain ⟨A, h1, h2⟩ := h
  exact ⟨A, h1, fun hn => by
    obtain ⟨g, cur, h3, h4, h5⟩ := h2 hn
    exact ⟨g, cur, h3, by omega, h5⟩⟩
theorem GivenK.far {lo lo' : Nat} {w W : World} {v : Value} {xs : List E} {S : Nat → Prop} (h : GivenK lo w v xs) (hf : Fr S w W) (hS : ∀ k, S k → k < lo) : GivenK 0 W v xs := (h.fr hf hS).le (Nat.zero_le _)
theorem gone_num (now : Int) (L : List E) : (goneL now L).length = num (fun e => decide (e.2.2 ≤ now)) L := by rw [goneL, List.length_map, num]
theorem gone_at {now : Int} {L : List E} {j : Nat} {e : E} (h : L[j]? = some e) (hp : e.2.2 ≤ now) : (goneL now L)[num (fun e => decide (e.2.2 ≤ now)) (L.take j)]? = some e.1 := by
  rw [goneL, List.getElem?_map, num, filter_at h (by simpa using hp)]; rfl

set_option maxRecDepth 100000 in
set_option maxHeartbeats 8000000 in
theorem walkRoutersTime (A0 : Option Addr) (n0 c0 : Nat) (z0 : Nat → ActV) (now : Int) (w : World) (h0 : IsActs w w.heap.size A0 n0 c0 z0) (hnow : (Lit.int .u32 now).wf = true) :
    Calls Try.prog 4 #[.slice A0 n0 c0, .int .u32 now] w fun e w' => e = .returned (.bool true) ∧ Below w.heap.size w w' := by
  have hgr := hidd (great_any w A0 n0 c0 z0 h0)
  have hcm := h0.cmax
  have hcn := h0.cap
  have hmd := hidd (made_any w A0 n0 c0 z0 h0)
  obtain ⟨hn0, hn1⟩ := u32b hnow
  have hw64 : IntKind.u64.wrap now = now := IntWalk.u64_in _ (by omega)
  unfold maxLen at hcm
  clear h0 hnow
  go_enter Try.func4, Try.ntmps4
  go_wp2_with fail
  refine Calls.mono hgr.out ?_
  rintro e w' ⟨g, rfl, hg, rfl⟩
  clear hgr
  cases g with
  | true =>
    clear hg
    go_wp2_with (go_at_call 13; refine (lives_any _).mono ?_; rintro e w' ⟨rfl, hbel⟩)
    go_ret
    exact ⟨rfl, hbel⟩
  | false =>
    clear hg
    go_wp2_with fail
    refine Calls.mono hmd.out ?_
    rintro e V1 ⟨rfl, v1, k1⟩
    have K1 := hidd k1
    have hnd := hidd (madeN_nodup z0 n0)
    obtain ⟨B, hB⟩ : ∃ B, w.heap.size = B := ⟨_, rfl⟩
    obtain ⟨es, hes⟩ : ∃ es, madeN z0 n0 = es := ⟨_, rfl⟩
    rw [hes] at K1 hnd
    rw [hB] at K1 ⊢
    clear k1 hmd hes
    go_wp2_with fail
    refine (list_any V1 B v1 _ _ _ K1.out.rl).mono ?_
    rintro e V2 ⟨x2, rfl, g2, b2⟩
    have K2 := hidd (K1.out.to b2)
    have lt2 := hidd (fun k (hk : Own B v1 k) => (show k < V1.heap.size from by
      rcases hk with rfl | hk
      · exact K1.out.rl.lt
      · exact (K1.out.rl.own.lt k hk).2))
    have G2 := hidd g2
    have ok1 := hidd K1.out.rl.ok
    have hfour := hidd K1.out.rl.four
    clear g2 b2 K1
    go_wp2_with fail
    refine (tick_any V2 B v1 _ _ _ K2.out.rl now hn0 (by omega)).mono ?_
    rintro e V3 ⟨o3, rfl, g3, v3, r3, f3, m3⟩
    have K3 := hidd (K2.out.turn r3 f3 (fun k hk => .inl (m3 k hk)))
    have X3 := hidd (G2.out.far (lo' := 0) f3 lt2.out)
    have G3 := hidd (g3.le (Nat.zero_le _))
    have hok := hidd K3.out.rl.ok
    clear g3 r3 f3 m3 K2 G2 lt2
    go_wp2_with fail
    refine (list_any V3 B v3 _ _ _ K3.out.rl).mono ?_
    rintro e V4 ⟨y4, rfl, g4, b4⟩
    have hM := hidd (show ord (tickF now es (ord es)) = (ord es).filter (fun y => !decide (y.2.2 ≤ now)) from by rw [tick_left ok1.out hnd.out, ord_filter])
    have hnx := hidd (show now < nextOf ((tickF now es (ord es)).map (·.2.2)) from next_gt (by omega) (fun u hu => by
      rw [tick_left ok1.out hnd.out] at hu
      obtain ⟨e, he, rfl⟩ := List.mem_map.1 hu
      have := (List.mem_filter.1 he).2
      simp at this
      omega))
    have hLok := hidd (ord_ok ok1.out)
    have hLlen := hidd (ord_len ok1.out)
    have hes4 := hidd hfour.out
    obtain ⟨L, hL⟩ : ∃ L, ord es = L := ⟨_, rfl⟩
    obtain ⟨cs, hcs⟩ : ∃ cs, tickF now es (ord es) = cs := ⟨_, rfl⟩
    rw [hcs] at K3 g4 hM hnx
    rw [hL] at X3 G3 hM hLok hLlen
    obtain ⟨M, hM'⟩ : ∃ M, ord cs = M := ⟨_, rfl⟩
    rw [hM'] at g4 hM
    have hGn := hidd (gone_num now L)
    have hGa := hidd (fun (j : Nat) (e : E) (h : L[j]? = some e) (hp : e.2.2 ≤ now) => gone_at h hp)
    obtain ⟨G, hG⟩ : ∃ G, goneL now L = G := ⟨_, rfl⟩
    rw [hG] at G3 hGn hGa
    have hMn : Hid (M.length = num (fun e => !decide (e.2.2 ≤ now)) L) := by rw [hM.out]; exact rfl
    have hMa : Hid (∀ (j : Nat) (e : E), L[j]? = some e → ¬ e.2.2 ≤ now → M[num (fun e => !decide (e.2.2 ≤ now)) (L.take j)]? = some e) := fun j e h hp => by
      rw [hM.out]; exact filter_at h (by simpa using hp)
    have hMlen : M.length ≤ 4 := by
      have := K3.out.rl.four
      rw [← hM', ord_len K3.out.rl.ok]; exact this
    obtain ⟨A, hA, _⟩ := id X3.out
    obtain ⟨Ag, hAg, _⟩ := id G3.out
    obtain ⟨Am, hAm, _⟩ := id g4
    subst hA hAg hAm
    have T0 : Hid (Bw w V4 B v3 cs L M G A Ag Am) := ⟨K3.out.rl.to b4, (K3.out.to b4).bel, X3.out.to b4, G3.out.to b4, g4.le (Nat.zero_le _)⟩
    have hLl : L.length ≤ 4 := by rw [hLlen.out]; exact hes4.out
    have hGl : G.length ≤ L.length := by rw [hGn.out]; exact List.length_filter_le _ _
    clear g4 b4 K3 X3 G3 hok ok1 hL hcs hM' hG hM hfour hes4
    have hnx' := hnx.out
    obtain ⟨nx, hnxe⟩ : ∃ nx, nextOf (cs.map (·.2.2)) = nx := ⟨_, rfl⟩
    rw [hnxe] at hnx'
    have hnxe' := hidd hnxe
    have hgt : decide (now < nx) = true := by simpa using hnx'
    clear hnx hnxe hnx'
    go_wp2_with fail
    go_loopw [9, 10, 11] (fun kk nn i wr => ∃ j : Nat, j ≤ L.length ∧ i = .int .i64 j ∧ kk = .int .i64 (num (fun e => decide (e.2.2 ≤ now)) (L.take j)) ∧ nn = .int .i64 (num (fun e => !decide (e.2.2 ≤ now)) (L.take j)) ∧ Bw w wr B v3 cs L M G A Ag Am) (fun _ _ i _ => L.length - (intOf i).toNat)
    case atStart => exact ⟨0, Nat.zero_le _, rfl, rfl, rfl, T0.out⟩
    case round =>
      obtain ⟨j, hj, rfl, rfl, rfl, hT⟩ := hrel
      have T1 := hidd hT
      clear hT T0
      by_cases hjn : j < L.length
      · obtain ⟨e, he⟩ : ∃ e, L[j]? = some e := ⟨_, List.getElem?_eq_getElem hjn⟩
        have hE := hidd (hLok.out e (List.mem_of_getElem? he))
        obtain ⟨g, hA, hgr⟩ := T1.out.x.at_ (by omega)
        subst hA
        have cu : wr.cell? ⟨g, j * 18 + 17, none⟩ = some (.int .u64 e.2.2) := hgr j e he 17 _ (until_enc hE.out)
        have hs1 := hidd (num_snoc (p := fun e => decide (e.2.2 ≤ now)) he)
        have hs2 := hidd (num_snoc (p := fun e => !decide (e.2.2 ≤ now)) he)
        have ha1 := hidd (hGa.out j e he)
        have ha2 := hidd (hMa.out j e he)
        obtain ⟨q, hq⟩ : ∃ q, num (fun e => decide (e.2.2 ≤ now)) (L.take j) = q := ⟨_, rfl⟩
        obtain ⟨r, hr⟩ : ∃ r, num (fun e => !decide (e.2.2 ≤ now)) (L.take j) = r := ⟨_, rfl⟩
        rw [hq] at hs1 ha1 ⊢
        rw [hr] at hs2 ha2 ⊢
        have hjz : (j : Int) < (L.length : Int) := by omega
        have hgd := guard23
        have hgd2 := guard48
        have lA : (loadVar 23 ⟨g, j * 18, none⟩).run Try.prog wr.drew = .ok (.agg (bytesV e.1)) wr.drew := loadA (W := wr.drew) hE.out (hgr j e he)
        have lE : (loadVar 48 ⟨g, j * 18, none⟩).run Try.prog wr.drew = .ok (.agg (encV e)) wr.drew := loadE (W := wr.drew) hE.out (hgr j e he)
        have T2 := hidd (T1.out.to (Below.refl _ _).drew)
        clear hq hr he
        by_cases hp : e.2.2 ≤ now
        · have hga := ha1.out hp
          have hql := (List.getElem?_eq_some_iff.1 hga).1
          obtain ⟨ga, hA2, hgr2⟩ := T1.out.g.at_ (by omega)
          subst hA2
          have S5 : Hid ((loadVar 23 ⟨ga, q * 16, none⟩).run Try.prog wr.drew = .ok (.agg (bytesV e.1)) wr.drew ∧ (loadVar 23 ⟨g, j * 18, none⟩).run Try.prog wr.drew = .ok (.agg (bytesV e.1)) wr.drew) :=
            ⟨loadX (W := wr.drew) hE.out.addr (hgr2 q e.1 hga), lA⟩
          have heq : ∀ V : World, (Op.equalIn 10000 23 (.agg (bytesV e.1)) (.agg (bytesV e.1))).run Try.prog V = .ok true V := fun V => by have := eql23 V hE.out.addr hE.out.addr; rwa [beq_self_eq_true] at this
          have hqz : (q : Int) < (G.length : Int) := by omega
          have hge : decide ((G.length : Int) ≤ (q : Int)) = false := by simp; omega
          have hge2 : decide (G.length ≤ q) = false := by simp; omega
          have hle : decide (e.2.2 ≤ now) = true := by simpa using hp
          have hs1' := hidd (show num (fun e => decide (e.2.2 ≤ now)) (L.take (j + 1)) = q + 1 from by rw [hs1.out]; simp [hp])
          have hs2' := hidd (show num (fun e => !decide (e.2.2 ≤ now)) (L.take (j + 1)) = r from by rw [hs2.out]; simp [hp])
          clear hga hgr2 ha1 ha2 hgr lA lE hs1 hs2 T1
          go_wp2
          clear cu
          refine wp_region_held_drew (S := (fun V => (loadVar 23 ⟨ga, q * 16, none⟩).run Try.prog V = .ok (.agg (bytesV e.1)) V ∧ (loadVar 23 ⟨g, j * 18, none⟩).run Try.prog V = .ok (.agg (bytesV e.1)) V)) (by kernel_rfl) S5.out (fun hHeld => ?_)
          refine wpAnyH_take (i := 0) (v := ?_) rfl (by kernel_rfl) (by kernel_rfl) (by kernel_rfl) (fun _ _ _ h => h) (Or.inl ⟨by kernel_rfl, ?_⟩) hHeld ?_
          rotate_left
          · intro wh hSw
            go_simp
            try with_reducible rfl
          try simp only [Act.put, List.getElem_toArray, List.getElem_cons_zero, List.getElem_cons_succ, List.setIfInBounds_toArray, List.set_cons_zero, List.set_cons_succ]
          refine wpAnyH_take (i := 1) (v := ?_) rfl (by kernel_rfl) (by kernel_rfl) (by kernel_rfl) (fun _ _ _ h => h) (Or.inl ⟨by kernel_rfl, ?_⟩) hHeld ?_
          rotate_left
          · intro wh hSw
            go_simp
            try with_reducible rfl
          try simp only [Act.put, List.getElem_toArray, List.getElem_cons_zero, List.getElem_cons_succ, List.setIfInBounds_toArray, List.set_cons_zero, List.set_cons_succ]
          refine wpAnyH_take (i := 2) (v := ?_) rfl (by kernel_rfl) (by kernel_rfl) (by kernel_rfl) (fun _ _ _ h => h) (Or.inl ⟨by kernel_rfl, ?_⟩) hHeld ?_
          rotate_left
          · intro wh hSw
            go_simp
            try with_reducible rfl
          try simp only [Act.put, List.getElem_toArray, List.getElem_cons_zero, List.getElem_cons_succ, List.setIfInBounds_toArray, List.set_cons_zero, List.set_cons_succ]
          refine wpAnyH_take (i := 3) (v := ?_) rfl (by kernel_rfl) (by kernel_rfl) (by kernel_rfl) (fun _ _ _ h => h) (Or.inl ⟨by kernel_rfl, ?_⟩) hHeld ?_
          rotate_left
          · intro wh hSw
            go_simp
            try with_reducible rfl
          try simp only [Act.put, List.getElem_toArray, List.getElem_cons_zero, List.getElem_cons_succ, List.setIfInBounds_toArray, List.set_cons_zero, List.set_cons_succ]
          refine wpAnyH_take (i := 4) (v := ?_) rfl (by kernel_rfl) (by kernel_rfl) (by kernel_rfl) (fun _ _ _ h => h) (Or.inl ⟨by kernel_rfl, ?_⟩) hHeld ?_
          rotate_left
          · intro wh hSw
            go_simp
            try with_reducible rfl
          try simp only [Act.put, List.getElem_toArray, List.getElem_cons_zero, List.getElem_cons_succ, List.setIfInBounds_toArray, List.set_cons_zero, List.set_cons_succ]
          refine wpAnyH_take (i := 5) (v := ?_) rfl (by kernel_rfl) (by kernel_rfl) (by kernel_rfl) (fun _ _ _ h => h) (Or.inl ⟨by kernel_rfl, ?_⟩) hHeld ?_
          rotate_left
          · intro wh hSw
            go_simp
            try with_reducible rfl
          try simp only [Act.put, List.getElem_toArray, List.getElem_cons_zero, List.getElem_cons_succ, List.setIfInBounds_toArray, List.set_cons_zero, List.set_cons_succ]
          refine wpAnyH_take (i := 6) (v := ?_) rfl (by kernel_rfl) (by kernel_rfl) (by kernel_rfl) (fun _ _ _ h => h) (Or.inl ⟨by kernel_rfl, ?_⟩) hHeld ?_
          rotate_left
          · intro wh hSw
            go_simp
            try with_reducible rfl
          try simp only [Act.put, List.getElem_toArray, List.getElem_cons_zero, List.getElem_cons_succ, List.setIfInBounds_toArray, List.set_cons_zero, List.set_cons_succ]
          refine wpAnyH_take (i := 7) (v := ?_) rfl (by kernel_rfl) (by kernel_rfl) (by kernel_rfl) (fun _ _ _ h => h) (Or.inl ⟨by kernel_rfl, ?_⟩) hHeld ?_
          rotate_left
          · intro wh hSw
            go_simp
            try with_reducible rfl
          try simp only [Act.put, List.getElem_toArray, List.getElem_cons_zero, List.getElem_cons_succ, List.setIfInBounds_toArray, List.set_cons_zero, List.set_cons_succ]
          refine wpAnyH_take (i := 8) rfl (by kernel_rfl) (by kernel_rfl) (by kernel_rfl) (fun _ _ _ h => h) (yieldsIf_load_want (by kernel_rfl) 23 _ rfl _ rfl _ (fun wh hSw => hSw.1)) hHeld ?_
          try simp only [Act.put, List.getElem_toArray, List.getElem_cons_zero, List.getElem_cons_succ, List.setIfInBounds_toArray, List.set_cons_zero, List.set_cons_succ]
          refine wpAnyH_take (i := 9) (v := ?_) rfl (by kernel_rfl) (by kernel_rfl) (by kernel_rfl) (fun _ _ _ h => h) (Or.inl ⟨by kernel_rfl, ?_⟩) hHeld ?_
          rotate_left
          · intro wh hSw
            go_simp
            try with_reducible rfl
          try simp only [Act.put, List.getElem_toArray, List.getElem_cons_zero, List.getElem_cons_succ, List.setIfInBounds_toArray, List.set_cons_zero, List.set_cons_succ]
          refine wpAnyH_take (i := 10) (v := ?_) rfl (by kernel_rfl) (by kernel_rfl) (by kernel_rfl) (fun _ _ _ h => h) (Or.inl ⟨by kernel_rfl, ?_⟩) hHeld ?_
          rotate_left
          · intro wh hSw
            go_simp
            try with_reducible rfl
          try simp only [Act.put, List.getElem_toArray, List.getElem_cons_zero, List.getElem_cons_succ, List.setIfInBounds_toArray, List.set_cons_zero, List.set_cons_succ]
          refine wpAnyH_take (i := 11) (v := ?_) rfl (by kernel_rfl) (by kernel_rfl) (by kernel_rfl) (fun _ _ _ h => h) (Or.inl ⟨by kernel_rfl, ?_⟩) hHeld ?_
          rotate_left
          · intro wh hSw
            go_simp
            try with_reducible rfl
          try simp only [Act.put, List.getElem_toArray, List.getElem_cons_zero, List.getElem_cons_succ, List.setIfInBounds_toArray, List.set_cons_zero, List.set_cons_succ]
          refine wpAnyH_take (i := 12) (v := ?_) rfl (by kernel_rfl) (by kernel_rfl) (by kernel_rfl) (fun _ _ _ h => h) (Or.inl ⟨by kernel_rfl, ?_⟩) hHeld ?_
          rotate_left
          · intro wh hSw
            go_simp
            try with_reducible rfl
          try simp only [Act.put, List.getElem_toArray, List.getElem_cons_zero, List.getElem_cons_succ, List.setIfInBounds_toArray, List.set_cons_zero, List.set_cons_succ]
          refine wpAnyH_take (i := 13) rfl (by kernel_rfl) (by kernel_rfl) (by kernel_rfl) (fun _ _ _ h => h) (yieldsIf_load_want (by kernel_rfl) 23 _ rfl _ rfl _ (fun wh hSw => hSw.2)) hHeld ?_
          try simp only [Act.put, List.getElem_toArray, List.getElem_cons_zero, List.getElem_cons_succ, List.setIfInBounds_toArray, List.set_cons_zero, List.set_cons_succ]
          refine wpAnyH_take (i := 14) (v := ?_) rfl (by kernel_rfl) (by kernel_rfl) (by kernel_rfl) (fun _ _ _ h => h) (Or.inl ⟨by kernel_rfl, ?_⟩) hHeld ?_
          rotate_left
          · intro wh hSw
            go_simp
            try with_reducible rfl
          try simp only [Act.put, List.getElem_toArray, List.getElem_cons_zero, List.getElem_cons_succ, List.setIfInBounds_toArray, List.set_cons_zero, List.set_cons_succ]
          refine wpAnyH_take (i := 15) (v := ?_) rfl (by kernel_rfl) (by kernel_rfl) (by kernel_rfl) (fun _ _ _ h => h) (Or.inl ⟨by kernel_rfl, ?_⟩) hHeld ?_
          rotate_left
          · intro wh hSw
            go_simp
            try with_reducible rfl
          try simp only [Act.put, List.getElem_toArray, List.getElem_cons_zero, List.getElem_cons_succ, List.setIfInBounds_toArray, List.set_cons_zero, List.set_cons_succ]
          refine wpAnyH_done (by kernel_rfl) ?_ _
          clear hHeld
          go_wp2
          go_roundw
          case rel => exact ⟨j + 1, by omega, by go_num, by rw [hs1'.out]; go_num, by rw [hs2'.out], T2.out⟩
          case measure => simp [intOf]; omega
        · have hga := ha2.out (by omega)
          have hql := (List.getElem?_eq_some_iff.1 hga).1
          obtain ⟨gy, hA2, hgr2⟩ := T1.out.y.at_ (by omega)
          subst hA2
          have S5 : Hid ((loadVar 48 ⟨gy, r * 18, none⟩).run Try.prog wr.drew = .ok (.agg (encV e)) wr.drew ∧ (loadVar 48 ⟨g, j * 18, none⟩).run Try.prog wr.drew = .ok (.agg (encV e)) wr.drew) :=
            ⟨loadE (W := wr.drew) hE.out (hgr2 r e hga), lE⟩
          have heq : ∀ V : World, (Op.equalIn 10000 48 (.agg (encV e)) (.agg (encV e))).run Try.prog V = .ok true V := fun V => eq48 V hE.out
          have hqz : (r : Int) < (M.length : Int) := by omega
          have hge : decide ((M.length : Int) ≤ (r : Int)) = false := by simp; omega
          have hge2 : decide (M.length ≤ r) = false := by simp; omega
          have hle : decide (e.2.2 ≤ now) = false := by simpa using hp
          have hs1' := hidd (show num (fun e => decide (e.2.2 ≤ now)) (L.take (j + 1)) = q from by rw [hs1.out]; simp [hp])
          have hs2' := hidd (show num (fun e => !decide (e.2.2 ≤ now)) (L.take (j + 1)) = r + 1 from by rw [hs2.out]; simp [hp])
          clear hga hgr2 ha1 ha2 hgr lA lE hs1 hs2 T1
          go_wp2
          clear cu
          refine wp_region_held_drew (S := (fun V => (loadVar 48 ⟨gy, r * 18, none⟩).run Try.prog V = .ok (.agg (encV e)) V ∧ (loadVar 48 ⟨g, j * 18, none⟩).run Try.prog V = .ok (.agg (encV e)) V)) (by kernel_rfl) S5.out (fun hHeld => ?_)
          refine wpAnyH_take (i := 0) (v := ?_) rfl (by kernel_rfl) (by kernel_rfl) (by kernel_rfl) (fun _ _ _ h => h) (Or.inl ⟨by kernel_rfl, ?_⟩) hHeld ?_
          rotate_left
          · intro wh hSw
            go_simp
            try with_reducible rfl
          try simp only [Act.put, List.getElem_toArray, List.getElem_cons_zero, List.getElem_cons_succ, List.setIfInBounds_toArray, List.set_cons_zero, List.set_cons_succ]
          refine wpAnyH_take (i := 1) (v := ?_) rfl (by kernel_rfl) (by kernel_rfl) (by kernel_rfl) (fun _ _ _ h => h) (Or.inl ⟨by kernel_rfl, ?_⟩) hHeld ?_
          rotate_left
          · intro wh hSw
            go_simp
            try with_reducible rfl
          try simp only [Act.put, List.getElem_toArray, List.getElem_cons_zero, List.getElem_cons_succ, List.setIfInBounds_toArray, List.set_cons_zero, List.set_cons_succ]
          refine wpAnyH_take (i := 2) (v := ?_) rfl (by kernel_rfl) (by kernel_rfl) (by kernel_rfl) (fun _ _ _ h => h) (Or.inl ⟨by kernel_rfl, ?_⟩) hHeld ?_
          rotate_left
          · intro wh hSw
            go_simp
            try with_reducible rfl
          try simp only [Act.put, List.getElem_toArray, List.getElem_cons_zero, List.getElem_cons_succ, List.setIfInBounds_toArray, List.set_cons_zero, List.set_cons_succ]
          refine wpAnyH_take (i := 3) (v := ?_) rfl (by kernel_rfl) (by kernel_rfl) (by kernel_rfl) (fun _ _ _ h => h) (Or.inl ⟨by kernel_rfl, ?_⟩) hHeld ?_
          rotate_left
          · intro wh hSw
            go_simp
            try with_reducible rfl
          try simp only [Act.put, List.getElem_toArray, List.getElem_cons_zero, List.getElem_cons_succ, List.setIfInBounds_toArray, List.set_cons_zero, List.set_cons_succ]
          refine wpAnyH_take (i := 4) (v := ?_) rfl (by kernel_rfl) (by kernel_rfl) (by kernel_rfl) (fun _ _ _ h => h) (Or.inl ⟨by kernel_rfl, ?_⟩) hHeld ?_
          rotate_left
          · intro wh hSw
            go_simp
            try with_reducible rfl
          try simp only [Act.put, List.getElem_toArray, List.getElem_cons_zero, List.getElem_cons_succ, List.setIfInBounds_toArray, List.set_cons_zero, List.set_cons_succ]
          refine wpAnyH_take (i := 5) (v := ?_) rfl (by kernel_rfl) (by kernel_rfl) (by kernel_rfl) (fun _ _ _ h => h) (Or.inl ⟨by kernel_rfl, ?_⟩) hHeld ?_
          rotate_left
          · intro wh hSw
            go_simp
            try with_reducible rfl
          try simp only [Act.put, List.getElem_toArray, List.getElem_cons_zero, List.getElem_cons_succ, List.setIfInBounds_toArray, List.set_cons_zero, List.set_cons_succ]
          refine wpAnyH_take (i := 6) (v := ?_) rfl (by kernel_rfl) (by kernel_rfl) (by kernel_rfl) (fun _ _ _ h => h) (Or.inl ⟨by kernel_rfl, ?_⟩) hHeld ?_
          rotate_left
          · intro wh hSw
            go_simp
            try with_reducible rfl
          try simp only [Act.put, List.getElem_toArray, List.getElem_cons_zero, List.getElem_cons_succ, List.setIfInBounds_toArray, List.set_cons_zero, List.set_cons_succ]
          refine wpAnyH_take (i := 7) (v := ?_) rfl (by kernel_rfl) (by kernel_rfl) (by kernel_rfl) (fun _ _ _ h => h) (Or.inl ⟨by kernel_rfl, ?_⟩) hHeld ?_
          rotate_left
          · intro wh hSw
            go_simp
            try with_reducible rfl
          try simp only [Act.put, List.getElem_toArray, List.getElem_cons_zero, List.getElem_cons_succ, List.setIfInBounds_toArray, List.set_cons_zero, List.set_cons_succ]
          refine wpAnyH_take (i := 8) rfl (by kernel_rfl) (by kernel_rfl) (by kernel_rfl) (fun _ _ _ h => h) (yieldsIf_load_want (by kernel_rfl) 48 _ rfl _ rfl _ (fun wh hSw => hSw.1)) hHeld ?_
          try simp only [Act.put, List.getElem_toArray, List.getElem_cons_zero, List.getElem_cons_succ, List.setIfInBounds_toArray, List.set_cons_zero, List.set_cons_succ]
          refine wpAnyH_take (i := 9) (v := ?_) rfl (by kernel_rfl) (by kernel_rfl) (by kernel_rfl) (fun _ _ _ h => h) (Or.inl ⟨by kernel_rfl, ?_⟩) hHeld ?_
          rotate_left
          · intro wh hSw
            go_simp
            try with_reducible rfl
          try simp only [Act.put, List.getElem_toArray, List.getElem_cons_zero, List.getElem_cons_succ, List.setIfInBounds_toArray, List.set_cons_zero, List.set_cons_succ]
          refine wpAnyH_take (i := 10) (v := ?_) rfl (by kernel_rfl) (by kernel_rfl) (by kernel_rfl) (fun _ _ _ h => h) (Or.inl ⟨by kernel_rfl, ?_⟩) hHeld ?_
          rotate_left
          · intro wh hSw
            go_simp
            try with_reducible rfl
          try simp only [Act.put, List.getElem_toArray, List.getElem_cons_zero, List.getElem_cons_succ, List.setIfInBounds_toArray, List.set_cons_zero, List.set_cons_succ]
          refine wpAnyH_take (i := 11) (v := ?_) rfl (by kernel_rfl) (by kernel_rfl) (by kernel_rfl) (fun _ _ _ h => h) (Or.inl ⟨by kernel_rfl, ?_⟩) hHeld ?_
          rotate_left
          · intro wh hSw
            go_simp
            try with_reducible rfl
          try simp only [Act.put, List.getElem_toArray, List.getElem_cons_zero, List.getElem_cons_succ, List.setIfInBounds_toArray, List.set_cons_zero, List.set_cons_succ]
          refine wpAnyH_take (i := 12) rfl (by kernel_rfl) (by kernel_rfl) (by kernel_rfl) (fun _ _ _ h => h) (yieldsIf_load_want (by kernel_rfl) 48 _ rfl _ rfl _ (fun wh hSw => hSw.2)) hHeld ?_
          try simp only [Act.put, List.getElem_toArray, List.getElem_cons_zero, List.getElem_cons_succ, List.setIfInBounds_toArray, List.set_cons_zero, List.set_cons_succ]
          refine wpAnyH_take (i := 13) (v := ?_) rfl (by kernel_rfl) (by kernel_rfl) (by kernel_rfl) (fun _ _ _ h => h) (Or.inl ⟨by kernel_rfl, ?_⟩) hHeld ?_
          rotate_left
          · intro wh hSw
            go_simp
            try with_reducible rfl
          try simp only [Act.put, List.getElem_toArray, List.getElem_cons_zero, List.getElem_cons_succ, List.setIfInBounds_toArray, List.set_cons_zero, List.set_cons_succ]
          refine wpAnyH_take (i := 14) (v := ?_) rfl (by kernel_rfl) (by kernel_rfl) (by kernel_rfl) (fun _ _ _ h => h) (Or.inl ⟨by kernel_rfl, ?_⟩) hHeld ?_
          rotate_left
          · intro wh hSw
            go_simp
            try with_reducible rfl
          try simp only [Act.put, List.getElem_toArray, List.getElem_cons_zero, List.getElem_cons_succ, List.setIfInBounds_toArray, List.set_cons_zero, List.set_cons_succ]
          refine wpAnyH_done (by kernel_rfl) ?_ _
          clear hHeld
          go_wp2
          go_roundw
          case rel => exact ⟨j + 1, by omega, by go_num, by rw [hs1'.out], by rw [hs2'.out]; go_num, T2.out⟩
          case measure => simp [intOf]; omega
      · have hjn' : j = L.length := by omega
        subst hjn'
        rw [List.take_of_length_le (Nat.le_refl _), ← hGn.out, ← hMn.out]
        by_cases hm0 : M.length = 0
        · have h1 : ((M.length : Int) == 0) = true := by rw [hm0]; rfl
          go_wp2_with (go_at_call 13; refine (lives_any _).mono ?_; rintro e w' ⟨rfl, hbel⟩)
          go_ret
          exact ⟨rfl, T1.out.bel.trans (hbel.mono T1.out.bel.size)⟩
        · have h1 : ((M.length : Int) == 0) = false := by simp only [beq_eq_false_iff_ne, ne_eq]; omega
          have hN := hidd (next_any wr B v3 cs _ _ T1.out.rl)
          rw [hnxe'.out] at hN
          go_wp2_with (first
            | (go_at_call 12; refine Calls.mono hN.out ?_; rintro e w9 ⟨rfl, b9⟩)
            | (go_at_call 13; refine (lives_any _).mono ?_; rintro e w' ⟨rfl, hbel⟩))
          go_ret
          exact ⟨rfl, (T1.out.bel.trans (b9.mono T1.out.bel.size)).trans (hbel.mono (Nat.le_trans T1.out.bel.size b9.size))⟩

set_option maxRecDepth 100000 in
theorem liftedRoutersTime (os : Os) (started : os.Started) (H : Type) (enc : TypeId × Value → H) :
    ReturnsInHanded {} Try.checked os 4 .any (Rows.routersTimeSpec.pre6 enc Try.prog Try.f4 Rows.routersTimeRow.domain false) (Rows.routersTimeSpec.post enc Try.prog Try.f4 false true false false) := by
  refine returnsInHanded_of_change_sized (C := Try.checked) own started (by kernel_rfl) Try.func4
    (ChangeSpec.witness6 (enc := enc) (C := Try.checked) false ⟨#[], #[.slice none 0 0, .int .u32 0], []⟩ 8 (by kernel_rfl) (by kernel_rfl) (by kernel_rfl) (by kernel_rfl)) ?_
  intro W base args ds gs before hval0 hW hcnd hsz0 _
  have hval : ∀ (j : Nat) t v, Try.f4.params[j]? = some t → args[j]? = some v → Value.okWide Try.prog W .any base t v := hval0
  have hW' := hW
  obtain ⟨p, q, hA0, hV, rfl, hfz, hnd⟩ := hW
  have hA : DataW.TrodAll enc Try.prog W 0 (fun _ => true) true Try.f4.params.toList args.toList ds p := hA0
  have hsz : (DataW.weightsEach Try.prog (Try.f4.params.toList ++ Rows.routersTimeSpec.plain.varTypes Try.prog) (ds ++ gs)).all (· ≤ reachBytes) = true := hsz0
  rw [Try.params4] at hA hval hsz
  obtain ⟨v0, vs0, d0, ds0, p0, q0, hargs, rfl, rfl, h0, r0⟩ := trodAll_cons hA
  obtain ⟨v1, vs1, d1, ds1, p1, q1, rfl, rfl, rfl, h1, r1⟩ := trodAll_cons r0
  obtain ⟨rfl, rfl, rfl⟩ := trodAll_nil r1
  obtain rfl : args = #[v0, v1] := by cases args; simp_all
  obtain ⟨rfl, rfl⟩ := trodVars_none hV
  have k0 := h0
  have lt0 : ∀ x ∈ p0, x.block < W.heap.size := by obtain ⟨m, hm⟩ := k0; exact DataW.trod_lt m _ _ _ hm
  have fit0 : Fit Try.prog 44 d0 := fun m hm => by simpa using List.all_eq_true.1 hsz _ (DataW.weights_mem_each (j := 0) (t := 44) rfl rfl m hm)
  obtain ⟨A0, n0, c0, z0, ev0, w0⟩ := open_acts (hval 0 44 v0 rfl rfl) h0 fit0
  subst ev0
  have k1 := h1
  have lt1 : ∀ x ∈ p1, x.block < W.heap.size := by obtain ⟨m, hm⟩ := k1; exact DataW.trod_lt m _ _ _ hm
  have fit1 : Fit Try.prog 25 d1 := fun m hm => by simpa using List.all_eq_true.1 hsz _ (DataW.weights_mem_each (j := 1) (t := 25) rfl rfl m hm)
  obtain ⟨a1, rfl, _, _, w1⟩ := open_int Try.underlying25 (hval 1 25 v1 rfl rfl) h1
  clear hA0 hval0
  refine (walkRoutersTime A0 n0 c0 z0 a1 W w0 w1).mono fun e W' ⟨he, bel⟩ => ?_
  subst he
  exact ⟨_, rfl, _, _, _, [], _, [], hW', trodAll_mk1 (shut_bool Try.underlying4 _), (trodAll_cons_mk (Below.trod laidOut (by kernel_rfl) (of_decide_eq_true (by kernel_rfl)) k0 bel lt0) (trodAll_cons_mk (Below.trod laidOut (by kernel_rfl) (of_decide_eq_true (by kernel_rfl)) k1 bel lt1) trodAll_mk0)), rfl, bel.frame _, fun h => by cases h⟩

/-- THE STATEMENT: 'RoutersTime'. -/
theorem routersTime_holds : Rows.RoutersTimeSaid :=
  OpenClaim.holds_of_wide 4 Try.f4 rfl rfl rfl rfl rfl rfl rfl ⟨rfl, rfl, rfl, rfl, rfl⟩ rfl rfl rfl rfl rfl (by kernel_rfl) Try.func4 (by kernel_rfl)
    (of_decide_eq_true (by kernel_rfl)) (by unfold Func.isWrapper; first | (rw [if_pos (by decide +kernel)]; kernel_rfl) | (rw [if_neg (by decide +kernel)]; exact ⟨rfl, rfl⟩))
    (fun os started H enc _ => liftedRoutersTime os started H enc)

end Go.Proofs.Ytnchjbgfmkmbaaa
