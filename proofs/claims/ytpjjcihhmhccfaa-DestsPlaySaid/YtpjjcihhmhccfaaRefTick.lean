/- The reference: a tick; each function walked once. No condition. -/
import Derived.Test.YtpjjcihhmhccfaaRefPut
namespace Go.Proofs.Ytpjjcihhmhccfaa
open Go.ChangeShapes Go.WideShapes Go.ChangeAt Go.RowKit Go.Deep
set_option linter.unusedVariables false
set_option linter.unusedSimpArgs false

section
variable {f : E → E} {es : List E} {j : Nat} {e : E}
/-- The first ones turned. -/
def part1 (f : E → E) (es : List E) (j : Nat) : List E := (es.take j).map f ++ es.drop j
theorem part1_len : (part1 f es j).length = es.length := by simp [part1]; omega
theorem part1_get (h : es[j]? = some e) : (part1 f es j)[j]? = some e := by
  have hj := (List.getElem?_eq_some_iff.1 h).1
  rw [part1, List.getElem?_append_right (by simp; omega), List.length_map, List.length_take, Nat.min_eq_left (by omega), Nat.sub_self, List.getElem?_drop, Nat.add_zero, h]
theorem part1_set (h : es[j]? = some e) : (part1 f es j).set j (f e) = part1 f es (j + 1) := by
  obtain ⟨hj, rfl⟩ := List.getElem?_eq_some_iff.1 h
  rw [part1, part1, List.set_append_right _ _ (by simp; omega), List.length_map, List.length_take, Nat.min_eq_left (by omega), Nat.sub_self, List.drop_eq_getElem_cons hj, List.set_cons_zero, List.take_add_one, h, List.map_append, List.append_assoc]
  rfl
theorem part1_same (h : es[j]? = some e) (hf : f e = e) : part1 f es j = part1 f es (j + 1) := by
  obtain ⟨h1, h2⟩ := List.getElem?_eq_some_iff.1 (part1_get (f := f) h)
  have h3 := List.set_getElem_self h1
  rw [h2] at h3
  rw [← part1_set h, hf, h3]
theorem part1_all (h : es.length ≤ j) : part1 f es j = es.map f := by rw [part1, List.take_of_length_le h, List.drop_of_length_le h, List.append_nil]
end
def tk (now : Int) (e : E) : E := if dueE now e then overE e else e
set_option maxRecDepth 100000 in
set_option maxHeartbeats 4000000 in
theorem tick_ref (w : World) {M : Nat} {v : Value} {es : List E} (h : Rf w M v es) (now : Int) (hn0 : 0 ≤ now) (hn1 : now ≤ 18446744073709551615) :
    Calls Try.prog 22 #[ptr M, .int .u64 now] w fun r w' => (∃ z, r = .returned z) ∧ TurnSays w M v ((es.map (tk now)).filter nb) w' := by
  obtain ⟨A, c, rfl, hcn, hcm⟩ := h.slice
  obtain ⟨n, hn⟩ : ∃ n, es.length = n := ⟨_, rfl⟩
  have hmax := h.max
  have hok := hidd h.ok
  have R1 := hidd h
  have hlt := hidd (fun k (hk : (Value.slice A es.length c).ownBlock = some k) => h.own.lt k hk)
  have hM := h.blk.lt
  rw [hn] at R1 hcn hmax hlt ⊢
  have hn' := hidd hn
  clear h hn
  go_enter Try.func22, Try.ntmps22
  go_wp2_with fail
  go_loopw [4] (fun i wr => ∃ j : Nat, j ≤ n ∧ i = .int .i64 j ∧ Rf wr M (.slice A n c) (part1 (tk now) es j) ∧ Fr (fun k => k = M ∨ (Value.slice A n c).ownBlock = some k) w wr) (fun i _ => n - (intOf i).toNat)
  case atStart => exact ⟨0, Nat.zero_le _, rfl, by rw [part1]; exact R1.out, Fr.refl _ _⟩
  case round =>
    obtain ⟨j, hj, rfl, hR, hF⟩ := hrel
    have R2 := hidd hR
    have F2 := hidd hF
    have c0 := hR.v0
    clear hR hF R1
    by_cases hjn : j < n
    · obtain ⟨e, he⟩ : ∃ e, es[j]? = some e := ⟨_, List.getElem?_eq_getElem (by rw [hn'.out]; omega)⟩
      have hE := hidd (hok.out e (List.mem_of_getElem? he))
      have hge := hidd (part1_get (f := tk now) he)
      obtain ⟨g, c2, hv, hg, hrow⟩ := R2.out.pos (by rw [part1_len, hn'.out]; omega)
      injection hv with hA hn2 hc2
      subst hA hc2
      have c32 := gMtu hE.out (hrow j e hge.out)
      have c33 := gUntil hE.out (hrow j e hge.out)
      have hjz : (j : Int) < (n : Int) := by omega
      have he' := hidd he
      obtain ⟨mt, hmt⟩ : ∃ mt, e.2.2.1 = mt := ⟨_, rfl⟩
      obtain ⟨u, hu⟩ : ∃ u, e.2.2.2 = u := ⟨_, rfl⟩
      have hm0 := hE.out.m.1
      rw [hmt] at c32 hm0
      rw [hu] at c33
      have hmt' := hidd hmt
      have hu' := hidd hu
      clear hrow he hn2 hmt hu
      by_cases hz : mt = 0
      · have h1 : (mt == 0) = true := by simpa using hz
        have h1' : decide (mt = 0) = true := by simpa using hz
        have hs := hidd (part1_same (f := tk now) he'.out (by rw [tk, dueE, hmt'.out, hz]; rfl))
        go_wp2
        go_roundw
        case rel => exact ⟨j + 1, by omega, by go_num, by rw [← hs.out]; exact R2.out, F2.out⟩
        case measure => simp [intOf]; omega
      · have h1 : (mt == 0) = false := by simpa using hz
        have h1' : decide (mt = 0) = false := by simpa using hz
        by_cases hle : u ≤ now
        · have h2 : decide (u ≤ now) = true := by simpa using hle
          have hdue : tk now e = overE e := by rw [tk, dueE, hmt'.out, hu'.out, h2, decide_eq_true (show 0 < mt by omega)]; rfl
          have hs := part1_set (f := tk now) he'.out
          rw [hdue] at hs
          have o2 := R2.out.own
          rw [part1_len, hn'.out] at o2
          have hth := own_there o2 (o := j * 34) (k := 34) (by rw [← Nat.succ_mul]; exact Nat.mul_le_mul_right _ (by omega))
          have z32 := (hth 32 (by omega)).2
          have z33 := (hth 33 (by omega)).2
          have hgM : ¬ g = M := by omega
          have hMg : ¬ M = g := by omega
          have R4 : Hid (Rf ((wr.setCell ⟨g, j * 34 + 32, none⟩ (.int .u32 0)).setCell ⟨g, j * 34 + 33, none⟩ (.int .u64 0)) M (.slice (some ⟨g, 0, none⟩) n c) (part1 (tk now) es (j + 1))) := by
            have hE2 : IsE (e.1, e.2.1, 0, e.2.2.2) := ⟨hE.out.a, hE.out.n, (by decide : (0 : Int) ≤ 0 ∧ (0 : Int) ≤ 4294967295), hE.out.u⟩
            have r3 := R2.out.put (vs := [.int .u32 0]) (o := 32) hge.out hE2 (by decide) (put_mtu hE.out 0)
            have r4 := r3.put (vs := [.int .u64 0]) (o := 33) (j := j) (e := (e.1, e.2.1, 0, e.2.2.2)) (e' := overE e) (by rw [List.getElem?_set_self (List.getElem?_eq_some_iff.1 hge.out).1]) (overE_is hE.out) (by decide) (put_until hE2 0)
            rw [List.set_set, hs] at r4
            exact r4
          have F4 : Hid (Fr (fun k => k = M ∨ (Value.slice (some ⟨g, 0, none⟩) n c).ownBlock = some k) w ((wr.setCell ⟨g, j * 34 + 32, none⟩ (.int .u32 0)).setCell ⟨g, j * 34 + 33, none⟩ (.int .u64 0))) := (F2.out.setCell (p := ⟨g, j * 34 + 32, none⟩) (.inl (.inr rfl)) (.int .u32 0)).setCell (p := ⟨g, j * 34 + 33, none⟩) (.inl (.inr rfl)) (.int .u64 0)
          clear hth hs hdue R2 F2 o2
          go_wp2
          go_roundw
          case rel => exact ⟨j + 1, by omega, by go_num, R4.out, F4.out⟩
          case measure => simp [intOf]; omega
        · have h2 : decide (u ≤ now) = false := by simpa using hle
          have hs := hidd (part1_same (f := tk now) he'.out (by rw [tk, dueE, hmt'.out, hu'.out, h2, Bool.and_false]; rfl))
          go_wp2
          go_roundw
          case rel => exact ⟨j + 1, by omega, by go_num, by rw [← hs.out]; exact R2.out, F2.out⟩
          case measure => simp [intOf]; omega
    · have hjn' : j = n := by omega
      have R3 : Hid (Rf wr M (.slice A n c) (es.map (tk now))) := by
        have := R2.out
        rw [part1_all (by rw [hn'.out]; omega)] at this
        exact this
      subst hjn'
      clear R2
      go_wp2_with fail
      refine (bare_ref wr R3.out).mono ?_
      rintro r w5 ⟨⟨z, rfl⟩, v5, r5, f5, s5⟩
      have T5 : Hid (TurnSays w M (.slice A j c) ((es.map (tk now)).filter nb) w5) := ⟨v5, r5, F2.out.trans f5, fun k hk => by
        rcases s5 k hk with h | h
        · exact .inl h
        · exact .inr (Nat.le_trans F2.out.size h)⟩
      clear r5 f5 s5
      go_wp2
      go_end0
      exact ⟨⟨_, rfl⟩, T5.out⟩
end Go.Proofs.Ytpjjcihhmhccfaa
