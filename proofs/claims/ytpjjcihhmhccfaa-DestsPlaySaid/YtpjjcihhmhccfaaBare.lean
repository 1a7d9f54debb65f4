/- The reference: bare entries go; the time that comes next; each function walked once. No condition. -/
import Derived.Test.YtpjjcihhmhccfaaFront
namespace Go.Proofs.Ytpjjcihhmhccfaa
open Go.ChangeShapes Go.WideShapes Go.ChangeAt Go.RowKit Go.Deep
set_option linter.unusedVariables false
set_option linter.unusedSimpArgs false

def nb (e : E) : Bool := !bareE e
theorem nb_snoc {es : List E} {j : Nat} {e : E} (h : es[j]? = some e) : (es.take (j + 1)).filter nb = (es.take j).filter nb ++ if nb e then [e] else [] := by
  rw [List.take_add_one, h, List.filter_append]
  cases hb : nb e <;> simp [hb]
def TurnSays (w : World) (M : Nat) (v : Value) (es : List E) (w' : World) : Prop :=
  ∃ v', Rf w' M v' es ∧ Fr (fun k => k = M ∨ v.ownBlock = some k) w w' ∧ ∀ k, v'.ownBlock = some k → v.ownBlock = some k ∨ w.heap.size ≤ k
set_option maxRecDepth 100000 in
set_option maxHeartbeats 4000000 in
theorem bare_ref (w : World) {M : Nat} {v : Value} {es : List E} (h : Rf w M v es) : Calls Try.prog 33 #[ptr M] w fun r w' => (∃ z, r = .returned z) ∧ TurnSays w M v (es.filter nb) w' := by
  obtain ⟨A, c, rfl, hcn, hcm⟩ := h.slice
  obtain ⟨n, hn⟩ : ∃ n, es.length = n := ⟨_, rfl⟩
  obtain ⟨lo, hlo⟩ : ∃ lo, w.heap.size = lo := ⟨_, rfl⟩
  have hM := h.blk.lt
  have hmax := h.max
  have hok := hidd h.ok
  have R1 := hidd h
  have hlt := hidd (fun k (hk : (Value.slice A es.length c).ownBlock = some k) => (h.own.lt k hk).2)
  rw [hn] at R1 hcn hmax hlt ⊢
  have hn' := hidd hn
  clear h hn
  go_enter Try.func33, Try.ntmps33
  go_wp2_with fail
  go_loopw [2, 3] (fun a i wr => ∃ (j : Nat) (os : List E), j ≤ n ∧ i = .int .i64 j ∧ os = (es.take j).filter nb ∧ wr.ownsRow lo 51 34 a os.length (flatE os) ∧ Rf wr M (.slice A n c) es ∧ Below lo w wr) (fun _ i _ => n - (intOf i).toNat)
  case atStart => exact ⟨0, [], Nat.zero_le _, rfl, rfl, World.ownsRow_nil _ _ _ _, R1.out, by rw [← hlo]; exact Below.refl _ w⟩
  case round =>
    obtain ⟨j, os, hj, rfl, hos, ho, hR, hb⟩ := hrel
    have R2 := hidd hR
    have O2 := hidd ho
    have B2 := hidd hb
    have hkl : os.length ≤ 32 := by
      rw [hos]
      exact Nat.le_trans (List.length_filter_le _ _) (by rw [List.length_take]; omega)
    obtain ⟨Ao, co, rfl⟩ := slice_of_own ho
    have c0 := hR.v0
    have hws : lo ≤ wr.heap.size := by have := hb.size; omega
    clear hR ho hb R1
    by_cases hjn : j < n
    · obtain ⟨e, he⟩ : ∃ e, es[j]? = some e := ⟨_, List.getElem?_eq_getElem (by rw [hn'.out]; omega)⟩
      have hE := hidd (hok.out e (List.mem_of_getElem? he))
      obtain ⟨g, c2, hv, hg, hrow⟩ := R2.out.pos (by rw [hn'.out]; omega)
      injection hv with hA hn2 hc2
      subst hA hc2
      have hgl : Hid (g < lo) := by
        have := hlt.out g rfl
        refine hidd ?_
        omega
      have l16 := hidd (gNext hE.out (hrow j e he))
      have l51 := hidd (gAll hE.out (hrow j e he))
      have c32 := gMtu hE.out (hrow j e he)
      have heq := fun V => eql24 V hE.out.n zeroA_is
      have hgd := guard24
      have hjz : (j : Int) < (n : Int) := by omega
      have hsn := nb_snoc he
      rw [← hos] at hsn
      have hsn' := hidd hsn
      obtain ⟨mt, hmt⟩ : ∃ mt, e.2.2.1 = mt := ⟨_, rfl⟩
      rw [hmt] at c32
      clear hrow he hn2 hos hsn
      cases hz : (e.2.1 == zeroA) with
      | false =>
        have hb : Hid (nb e = true) := by refine hidd ?_; rw [nb, bareE, hz]; rfl
        rw [hz] at heq
        clear hz hmt c32
        go_wp2_with (first
          | (with_reducible show wpList _ _ _ (⟨_, Op.load 24 (.tmp 19), _, _, _, _⟩ :: _) _ _; refine wpList_load_want (by kernel_rfl) 24 _ rfl _ rfl _ (by with_reducible exact l16.out) ?_)
          | (with_reducible show wpList _ _ _ (⟨_, Op.build 24 _, _, _, _, _⟩ :: _) _ _; refine wpList_build_want rfl 24 #[] rfl (bytesV zeroA) (by kernel_rfl) ?_)
          | (with_reducible show wpList _ _ _ (⟨_, Op.load 51 _, _, _, _, _⟩ :: _) _ _; refine wpList_load_want (by kernel_rfl) 51 _ rfl _ rfl _ (by with_reducible exact l51.out) ?_)
          | (with_reducible show wpList _ _ _ (⟨_, Op.buildSlice 47 _ _, _, _, _, _⟩ :: _) _ _; refine wpList_bs1 rfl (.tmp 41) slE (by decide) rfl (encV e) rfl (encV_size hE.out) ?_)
          | (at_builtin
             refine wpList_append_rd (v := .slice Ao os.length co) (wr.alloc (.cells (encV e) 51)) rfl (.tmp 34) (.tmp 42) slE rfl rfl (own_al O2.out _) rfl (rd_one wr 51 34 (encV e) (encV_size hE.out)) (by intro u hu; exact isEnc.one e u (by simpa [encV] using hu)) (by unfold maxLen; omega) (by omega) (by simp; omega) ?_
             intro v5 w5 o5 g5 t5 l5
             have b5 : Below lo (wr.alloc (.cells (encV e) 51)) w5 := grown_below (own_al O2.out _) g5 (by simp; omega)
             have b6 := hidd (B2.out.trans (((Below.refl lo wr).alloc hws (.cells (encV e) 51)).trans b5))
             have R5 : Hid (Rf w5 M (.slice (some ⟨g, 0, none⟩) n c) es) := by
               have r1 := R2.out.to ((Below.refl _ wr).alloc (Nat.le_refl _) (.cells (encV e) 51))
               have f5 := Fr.of_grown g5
               exact ⟨r1.blk.fr f5 (fun hk => by have := (O2.out.lt _ hk).1; omega), ownRow_fr r1.own f5 (fun k hk hk' => by
                 have h1 := (O2.out.lt _ hk').1
                 cases hk; have := hgl.out; simp only at h1; omega), r1.ok, r1.max⟩
             have o6 : Hid (w5.ownsRow lo 51 34 v5 (os ++ [e]).length (flatE (os ++ [e]))) := by
               refine hidd ?_
               rw [List.length_append, show flatE (os ++ [e]) = flatE os ++ flatE [e] from flat_append (enc := enc) _ _, show flatE [e] = (encV e).toList from by simp [flatE, flatOf, encV]]
               exact o5
             clear o5 g5 t5 l5 b5))
        go_roundw
        case rel => exact ⟨j + 1, os ++ [e], by omega, by go_num, by rw [hsn'.out, hb.out]; simp, o6.out, R5.out, b6.out⟩
        case measure => simp [intOf]; omega
      | true =>
        rw [hz] at heq
        by_cases hm0 : mt = 0
        · have hb : Hid (nb e = false) := by refine hidd ?_; rw [nb, bareE, hz, hmt, hm0]; rfl
          subst hm0
          clear hz hmt
          go_wp2_with (first
            | (with_reducible show wpList _ _ _ (⟨_, Op.load 24 _, _, _, _, _⟩ :: _) _ _; refine wpList_load_want (by kernel_rfl) 24 _ rfl _ rfl _ (by with_reducible exact l16.out) ?_)
            | (with_reducible show wpList _ _ _ (⟨_, Op.build 24 _, _, _, _, _⟩ :: _) _ _; refine wpList_build_want rfl 24 #[] rfl (bytesV zeroA) (by kernel_rfl) ?_))
          go_roundw
          case rel => exact ⟨j + 1, os, by omega, by go_num, by rw [hsn'.out, hb.out]; simp, O2.out, R2.out, B2.out⟩
          case measure => simp [intOf]; omega
        · have hb : Hid (nb e = true) := by refine hidd ?_; rw [nb, bareE, hz, hmt]; simpa using hm0
          have h1 : (mt == 0) = false := by simpa using hm0
          have h1' : decide (mt = 0) = false := by simpa using hm0
          clear hz hmt
          go_wp2_with (first
            | (with_reducible show wpList _ _ _ (⟨_, Op.load 24 (.tmp 19), _, _, _, _⟩ :: _) _ _; refine wpList_load_want (by kernel_rfl) 24 _ rfl _ rfl _ (by with_reducible exact l16.out) ?_)
            | (with_reducible show wpList _ _ _ (⟨_, Op.build 24 _, _, _, _, _⟩ :: _) _ _; refine wpList_build_want rfl 24 #[] rfl (bytesV zeroA) (by kernel_rfl) ?_)
            | (with_reducible show wpList _ _ _ (⟨_, Op.load 51 _, _, _, _, _⟩ :: _) _ _; refine wpList_load_want (by kernel_rfl) 51 _ rfl _ rfl _ (by with_reducible exact l51.out) ?_)
            | (with_reducible show wpList _ _ _ (⟨_, Op.buildSlice 47 _ _, _, _, _, _⟩ :: _) _ _; refine wpList_bs1 rfl (.tmp 41) slE (by decide) rfl (encV e) rfl (encV_size hE.out) ?_)
            | (at_builtin
               refine wpList_append_rd (v := .slice Ao os.length co) (wr.alloc (.cells (encV e) 51)) rfl (.tmp 34) (.tmp 42) slE rfl rfl (own_al O2.out _) rfl (rd_one wr 51 34 (encV e) (encV_size hE.out)) (by intro u hu; exact isEnc.one e u (by simpa [encV] using hu)) (by unfold maxLen; omega) (by omega) (by simp; omega) ?_
               intro v5 w5 o5 g5 t5 l5
               have b5 : Below lo (wr.alloc (.cells (encV e) 51)) w5 := grown_below (own_al O2.out _) g5 (by simp; omega)
               have b6 := hidd (B2.out.trans (((Below.refl lo wr).alloc hws (.cells (encV e) 51)).trans b5))
               have R5 : Hid (Rf w5 M (.slice (some ⟨g, 0, none⟩) n c) es) := by
                 have r1 := R2.out.to ((Below.refl _ wr).alloc (Nat.le_refl _) (.cells (encV e) 51))
                 have f5 := Fr.of_grown g5
                 exact ⟨r1.blk.fr f5 (fun hk => by have := (O2.out.lt _ hk).1; omega), ownRow_fr r1.own f5 (fun k hk hk' => by
                   have h1 := (O2.out.lt _ hk').1
                   cases hk; have := hgl.out; simp only at h1; omega), r1.ok, r1.max⟩
               have o6 : Hid (w5.ownsRow lo 51 34 v5 (os ++ [e]).length (flatE (os ++ [e]))) := by
                 refine hidd ?_
                 rw [List.length_append, show flatE (os ++ [e]) = flatE os ++ flatE [e] from flat_append (enc := enc) _ _, show flatE [e] = (encV e).toList from by simp [flatE, flatOf, encV]]
                 exact o5
               clear o5 g5 t5 l5 b5))
          go_roundw
          case rel => exact ⟨j + 1, os ++ [e], by omega, by go_num, by rw [hsn'.out, hb.out]; simp, o6.out, R5.out, b6.out⟩
          case measure => simp [intOf]; omega
    · have hjn' : j = n := by omega
      have hos' : Hid (os = es.filter nb) := by refine hidd ?_; rw [hos, List.take_of_length_le (by rw [hn'.out]; omega)]
      have z0 := R2.out.blk.frozen 0
      clear hos
      subst hjn'
      go_wp2
      go_end0
      rw [← hos'.out]
      refine ⟨⟨_, rfl⟩, _, ⟨R2.out.blk.set 0 _, own_far (own_base O2.out (by omega)) (Nat.lt_succ_self _) _, fun y hy => hok.out y (by rw [hos'.out] at hy; exact (List.mem_filter.1 hy).1), hkl⟩, (Fr.of_below (by rw [hlo]; exact B2.out) _).setCell (.inl (.inl rfl)) _, fun k hk => .inr (by have := (O2.out.lt k hk).1; omega)⟩
end Go.Proofs.Ytpjjcihhmhccfaa
