/- The document's list, told one thing, walked once. No condition. -/
import Derived.Test.YtajlgglknianlaaRefK
import Derived.Deep.RegionHeld3
namespace Go.Proofs.Ytajlgglknianlaa.Rf
open Go.Proofs.Ytajlgglknianlaa Go.ChangeShapes Go.WideShapes Go.ChangeAt Go.RowKit Go.Deep
set_option linter.unusedVariables false
set_option linter.unusedSimpArgs false

abbrev IsL := Ls enc 18 IsE
/-- While it is told: what is left so far is a list of the call's own; the thing in its box. -/
structure Pt (w W : World) (bx : Nat) (x : E) (v : Value) (os : List E) : Prop where
  blk : Blk W bx 79 (encV x)
  own : W.ownsRow (bx + 1) 79 18 v os.length (flat os)
  bel : Below bx w W
theorem Pt.app {w W V : World} {bx : Nat} {x y : E} {v v' : Value} {os : List E} (h : Pt w W bx x v os) (hy : IsE y) (ho : V.ownsRow (bx + 1) 79 18 v' (os.length + 1) (flat os ++ (encV y).toList)) (hg : (W.alloc (.cells (encV y) 79)).grownBy V v.ownBlock) : Pt w V bx x v' (os ++ [y]) := by
  have hlt := h.blk.lt
  have F : Fr (fun k => v.ownBlock = some k) W V := ((Fr.refl _ W).alloc _).trans (Fr.of_grown hg)
  refine ⟨h.blk.fr F (fun e => by have := (h.own.lt bx e).1; omega), ?_, h.bel.trans (F.below (by omega) (fun k e => by have := (h.own.lt k e).1; omega))⟩
  rw [List.length_append, flat, flat_append]
  simpa [flatOf, encV] using ho

theorem Pt.draw {w W : World} {bx : Nat} {x : E} {v : Value} {os : List E} (h : Pt w W bx x v os) : Pt w W.drew bx x v os := ⟨h.blk, h.own, h.bel.drew⟩
theorem Pt.drawN {w W : World} {bx : Nat} {x : E} {v : Value} {os : List E} (h : Pt w W bx x v os) (k : Nat) : Pt w (W.drewN k) bx x v os := ⟨h.blk, h.own, h.bel.trans ⟨rfl, rfl, rfl, Nat.le_refl _, fun _ _ => rfl⟩⟩

set_option maxRecDepth 100000 in
set_option maxHeartbeats 4000000 in
theorem put_any (w : World) (A : Option Addr) (n c : Nat) (es : List E) (hk : IsL w w.heap.size A n c es) (h4 : es.length ≤ 4) (x : E) (hx0 : IsE x) (life : Int) (l0 : 0 ≤ life) (l1 : life ≤ 4294967295) :
    Calls Try.prog 32 #[.slice A n c, .agg (encV x), .int .u32 life] w fun e w' => ∃ v', e = .returned v' ∧ w'.ownsRow (w.heap.size + 1) 79 18 v' (put life es x).length (flat (put life es x)) ∧ Below w.heap.size w w' := by
  have hcm := hk.rd.cmax
  have hcn := hk.rd.cap
  have hl := hk.len
  have hk' := hidd hk
  have hx := hidd hx0
  unfold maxLen at hcm
  obtain ⟨bx, Sx⟩ : ∃ bx, w.heap.size = bx := ⟨_, rfl⟩
  have P0 : Hid (Pt w (w.alloc (.cells (encV x) 79)) bx x (.slice none 0 0) []) := ⟨by rw [← Sx]; exact Blk.new _ _ _, World.ownsRow_nil _ _ _ _, by rw [← Sx]; exact (Below.refl _ w).alloc (Nat.le_refl _) _⟩
  rw [Sx]
  clear hk hx0
  go_enter Try.func32, Try.ntmps32
  go_wp2
  go_loopw [7, 8, 9] (fun v t i wr => ∃ j : Nat, j ≤ n ∧ i = .int .i64 j ∧ t = .bool ((es.take j).any fun e => same e x) ∧ Pt w wr bx x v (go x life (es.take j))) (fun _ _ i _ => n - (intOf i).toNat)
  case atStart => exact ⟨0, by omega, rfl, rfl, P0.out⟩
  case round =>
    obtain ⟨j, hj, rfl, rfl, hP⟩ := hrel
    obtain ⟨Ao, co, hv⟩ := slice_of_own hP.own
    subst hv
    obtain ⟨os, hos⟩ : ∃ os, go x life (es.take j) = os := ⟨_, rfl⟩
    have hol : os.length ≤ j := by rw [← hos]; exact Nat.le_trans (go_le _ _ _) (by rw [List.length_take]; omega)
    have hoo : Hid (∀ e ∈ os, IsE e) := by rw [← hos]; exact go_ok (fun e he => hk'.out.ok e (List.mem_of_mem_take he)) hx.out
    rw [hos] at hP ⊢
    have P := hidd hP
    clear P0 hP
    by_cases hjn : j < n
    · obtain ⟨b, off, rfl, hblt, hr⟩ := (hk'.out.below (by rw [Sx]; exact P.out.bel)).range isEnc (by omega)
      obtain ⟨s, Ss⟩ : ∃ s, wr.heap.size = s := ⟨_, rfl⟩
      obtain ⟨e, he⟩ : ∃ e, es[j]? = some e := ⟨es[j]'(by omega), List.getElem?_eq_getElem _⟩
      have hE := hidd (hk'.out.ok e (List.mem_of_getElem? he))
      have hgs := hidd (go_snoc (x := x) (life := life) he)
      have hta := hidd (show (es.take (j + 1)).any (fun e => same e x) = ((es.take j).any (fun e => same e x) || same e x) from by rw [List.take_add_one, he, List.any_append]; simp)
      have hrj := hidd (hr j e he)
      have S6 : Hid ((loadVar 31 ⟨b, off + j * 18, none⟩).run Try.prog wr.drew = .ok (.agg (bytesV e.1)) wr.drew ∧ Blk wr.drew bx 79 (encV x) ∧ wr.drew.cell? ⟨b, off + j * 18 + 16, none⟩ = some (.string e.2.1)) :=
        ⟨loadA hE.out (W := wr.drew) (fun i v hv => hr j e he i v hv), P.out.blk, hr j e he 16 _ (name_enc hE.out)⟩
      have heq := fun V => Sv.eql31 V hE.out.addr hx.out.addr
      have hgd := Sv.guard31
      have hsx : bx < s := by have := P.out.blk.lt; omega
      have hbs : b < bx := by omega
      clear hr he
      rw [hos] at hgs
      cases ha : (e.1 == x.1)
      · have hsm : same e x = false := by rw [same, ha]; rfl
        rw [ha] at heq
        rw [hsm] at hgs hta
        clear ha
        go_wp2
        refine wp_region_held_drew (S := (fun V => (loadVar 31 ⟨b, off + j * 18, none⟩).run Try.prog V = .ok (.agg (bytesV e.1)) V ∧ Blk V bx 79 (encV x) ∧ V.cell? ⟨b, off + j * 18 + 16, none⟩ = some (.string e.2.1))) (by kernel_rfl) S6.out (fun hHeld => ?_)
        refine wpAnyH_take (i := 0) (v := ?_) rfl (by kernel_rfl) (by kernel_rfl) (by kernel_rfl) (fun _ _ _ h => h) (Or.inl ⟨by kernel_rfl, ?_⟩) hHeld ?_
        rotate_left
        · intro wh hSw
          go_simp
          try with_reducible rfl
        try simp only [Act.put, List.getElem_toArray, List.getElem_cons_zero, List.getElem_cons_succ, List.setIfInBounds_toArray, List.set_cons_zero, List.set_cons_succ]
        refine wpAnyH_take (i := 1) (v := ?_) rfl (by kernel_rfl) (by kernel_rfl) (by kernel_rfl) (fun _ _ _ h => h) (Or.inl ⟨by kernel_rfl, ?_⟩) hHeld ?_
        rotate_left
        · intro wh hSw
          go_simp
          try with_reducible rfl
        try simp only [Act.put, List.getElem_toArray, List.getElem_cons_zero, List.getElem_cons_succ, List.setIfInBounds_toArray, List.set_cons_zero, List.set_cons_succ]
        refine wpAnyH_take (i := 2) (v := ?_) rfl (by kernel_rfl) (by kernel_rfl) (by kernel_rfl) (fun _ _ _ h => h) (Or.inl ⟨by kernel_rfl, ?_⟩) hHeld ?_
        rotate_left
        · intro wh hSw
          go_simp
          try with_reducible rfl
        try simp only [Act.put, List.getElem_toArray, List.getElem_cons_zero, List.getElem_cons_succ, List.setIfInBounds_toArray, List.set_cons_zero, List.set_cons_succ]
        refine wpAnyH_take (i := 3) (v := ?_) rfl (by kernel_rfl) (by kernel_rfl) (by kernel_rfl) (fun _ _ _ h => h) (Or.inl ⟨by kernel_rfl, ?_⟩) hHeld ?_
        rotate_left
        · intro wh hSw
          go_simp
          try with_reducible rfl
        try simp only [Act.put, List.getElem_toArray, List.getElem_cons_zero, List.getElem_cons_succ, List.setIfInBounds_toArray, List.set_cons_zero, List.set_cons_succ]
        refine wpAnyH_take (i := 4) rfl (by kernel_rfl) (by kernel_rfl) (by kernel_rfl) (fun _ _ _ h => h) (yieldsIf_load_want (by kernel_rfl) 31 _ rfl _ rfl _ (fun wh hSw => hSw.1)) hHeld ?_
        try simp only [Act.put, List.getElem_toArray, List.getElem_cons_zero, List.getElem_cons_succ, List.setIfInBounds_toArray, List.set_cons_zero, List.set_cons_succ]
        refine wpAnyH_take (i := 5) (v := ?_) rfl (by kernel_rfl) (by kernel_rfl) (by kernel_rfl) (fun _ _ _ h => h) (Or.inl ⟨by kernel_rfl, ?_⟩) hHeld ?_
        rotate_left
        · intro wh hSw
          go_simp
          try with_reducible rfl
        try simp only [Act.put, List.getElem_toArray, List.getElem_cons_zero, List.getElem_cons_succ, List.setIfInBounds_toArray, List.set_cons_zero, List.set_cons_succ]
        refine wpAnyH_take (i := 6) rfl (by kernel_rfl) (by kernel_rfl) (by kernel_rfl) (fun _ _ _ h => h) (yieldsIf_load_want (by kernel_rfl) 31 _ rfl _ rfl _ (fun wh hSw => hSw.2.1.part (at_enc hx.out) Try.underlying31 rfl (by rw [hx.out.addr.len]; exact Sv.info31))) hHeld ?_
        try simp only [Act.put, List.getElem_toArray, List.getElem_cons_zero, List.getElem_cons_succ, List.setIfInBounds_toArray, List.set_cons_zero, List.set_cons_succ]
        refine wpAnyH_take (i := 7) (v := ?_) rfl (by kernel_rfl) (by kernel_rfl) (by kernel_rfl) (fun _ _ _ h => h) (Or.inl ⟨by kernel_rfl, ?_⟩) hHeld ?_
        rotate_left
        · intro wh hSw
          go_simp
          try with_reducible rfl
        try simp only [Act.put, List.getElem_toArray, List.getElem_cons_zero, List.getElem_cons_succ, List.setIfInBounds_toArray, List.set_cons_zero, List.set_cons_succ]
        refine wpAnyH_take (i := 8) (v := ?_) rfl (by kernel_rfl) (by kernel_rfl) (by kernel_rfl) (fun _ _ _ h => h) (Or.inl ⟨by kernel_rfl, ?_⟩) hHeld ?_
        rotate_left
        · intro wh hSw
          go_simp
          try with_reducible rfl
        try simp only [Act.put, List.getElem_toArray, List.getElem_cons_zero, List.getElem_cons_succ, List.setIfInBounds_toArray, List.set_cons_zero, List.set_cons_succ]
        refine wpAnyH_take (i := 9) rfl (by kernel_rfl) (by kernel_rfl) (by kernel_rfl) (fun _ _ _ h => h) (Or.inr ⟨by kernel_rfl, rfl⟩) hHeld ?_
        try simp only [Act.put, List.getElem_toArray, List.getElem_cons_zero, List.getElem_cons_succ, List.setIfInBounds_toArray, List.set_cons_zero, List.set_cons_succ]
        refine wpAnyH_take (i := 10) rfl (by kernel_rfl) (by kernel_rfl) (by kernel_rfl) (fun _ _ _ h => h) (Or.inr ⟨by kernel_rfl, rfl⟩) hHeld ?_
        try simp only [Act.put, List.getElem_toArray, List.getElem_cons_zero, List.getElem_cons_succ, List.setIfInBounds_toArray, List.set_cons_zero, List.set_cons_succ]
        refine wpAnyH_take (i := 11) rfl (by kernel_rfl) (by kernel_rfl) (by kernel_rfl) (fun _ _ _ h => h) (Or.inr ⟨by kernel_rfl, rfl⟩) hHeld ?_
        try simp only [Act.put, List.getElem_toArray, List.getElem_cons_zero, List.getElem_cons_succ, List.setIfInBounds_toArray, List.set_cons_zero, List.set_cons_succ]
        refine wpAnyH_take (i := 12) rfl (by kernel_rfl) (by kernel_rfl) (by kernel_rfl) (fun _ _ _ h => h) (Or.inr ⟨by kernel_rfl, rfl⟩) hHeld ?_
        try simp only [Act.put, List.getElem_toArray, List.getElem_cons_zero, List.getElem_cons_succ, List.setIfInBounds_toArray, List.set_cons_zero, List.set_cons_succ]
        refine wpAnyH_take (i := 13) rfl (by kernel_rfl) (by kernel_rfl) (by kernel_rfl) (fun _ _ _ h => h) (Or.inr ⟨by kernel_rfl, rfl⟩) hHeld ?_
        try simp only [Act.put, List.getElem_toArray, List.getElem_cons_zero, List.getElem_cons_succ, List.setIfInBounds_toArray, List.set_cons_zero, List.set_cons_succ]
        refine wpAnyH_take (i := 14) rfl (by kernel_rfl) (by kernel_rfl) (by kernel_rfl) (fun _ _ _ h => h) (Or.inr ⟨by kernel_rfl, rfl⟩) hHeld ?_
        try simp only [Act.put, List.getElem_toArray, List.getElem_cons_zero, List.getElem_cons_succ, List.setIfInBounds_toArray, List.set_cons_zero, List.set_cons_succ]
        refine wpAnyH_take (i := 15) rfl (by kernel_rfl) (by kernel_rfl) (by kernel_rfl) (fun _ _ _ h => h) (Or.inr ⟨by kernel_rfl, rfl⟩) hHeld ?_
        try simp only [Act.put, List.getElem_toArray, List.getElem_cons_zero, List.getElem_cons_succ, List.setIfInBounds_toArray, List.set_cons_zero, List.set_cons_succ]
        refine wpAnyH_take (i := 16) rfl (by kernel_rfl) (by kernel_rfl) (by kernel_rfl) (fun _ _ _ h => h) (Or.inr ⟨by kernel_rfl, rfl⟩) hHeld ?_
        try simp only [Act.put, List.getElem_toArray, List.getElem_cons_zero, List.getElem_cons_succ, List.setIfInBounds_toArray, List.set_cons_zero, List.set_cons_succ]
        refine wpAnyH_take (i := 17) (v := ?_) rfl (by kernel_rfl) (by kernel_rfl) (by kernel_rfl) (fun _ _ _ h => h) (Or.inl ⟨by kernel_rfl, ?_⟩) hHeld ?_
        rotate_left
        · intro wh hSw
          go_simp
          try with_reducible rfl
        try simp only [Act.put, List.getElem_toArray, List.getElem_cons_zero, List.getElem_cons_succ, List.setIfInBounds_toArray, List.set_cons_zero, List.set_cons_succ]
        refine wpAnyH_done (by kernel_rfl) ?_ _
        clear hHeld
        have P1 := hidd P.out.draw
        have l1 := hidd (show (loadVar 79 ⟨b, off + j * 18, none⟩).run Try.prog wr.drew = .ok (.agg (encV e)) wr.drew from loadE hE.out hrj.out)
        generalize wr.drew = D at P1 l1 ⊢
        clear P S6 heq
        go_wp2_with (first
          | (with_reducible show wpList _ _ _ (⟨_, Op.load 79 _, _, _, _, _⟩ :: _) _ _; refine wpList_load_want (by kernel_rfl) 79 _ rfl _ rfl _ (by with_reducible exact l1.out) ?_)
          | (with_reducible show wpList _ _ _ (⟨_, Op.buildSlice 51 _ _, _, _, _, _⟩ :: _) _ _; refine wpList_bs1 rfl (.tmp 46) slTy (by decide) rfl (encV e) rfl (encV_size hE.out) ?_)
          | (at_builtin
             refine wpList_append_rd (v := .slice Ao os.length co) (D.alloc (.cells (encV e) 79)) rfl (.tmp 42) (.tmp 47) slTy rfl rfl (own_al P1.out.own _) rfl (rd_one D 79 18 (encV e) (encV_size hE.out)) (by intro u hu; exact isEnc.one e u (by simpa [encV] using hu)) (by unfold maxLen; omega) (by omega) (by have := P1.out.blk.lt; simp; omega) ?_
             intro v5 w5 o5 g5 t5 l5
             clear l5 t5
             have P5 := hidd (P1.out.app hE.out o5 g5)
             clear o5 g5))
        go_roundw
        case rel => exact ⟨j + 1, by omega, by go_num, by rw [hta.out]; simp, by rw [hgs.out]; exact P5.out⟩
        case measure => simp [intOf]; omega
      · rw [ha] at heq
        cases hb : (e.2.1.toList == x.2.1.toList)
        · have hsm : same e x = false := by rw [same, ha, hb]; rfl
          rw [hsm] at hgs hta
          clear ha
          go_wp2
          refine wp_region_held_drew (S := (fun V => (loadVar 31 ⟨b, off + j * 18, none⟩).run Try.prog V = .ok (.agg (bytesV e.1)) V ∧ Blk V bx 79 (encV x) ∧ V.cell? ⟨b, off + j * 18 + 16, none⟩ = some (.string e.2.1))) (by kernel_rfl) S6.out (fun hHeld => ?_)
          refine wpAnyH_take (i := 0) (v := ?_) rfl (by kernel_rfl) (by kernel_rfl) (by kernel_rfl) (fun _ _ _ h => h) (Or.inl ⟨by kernel_rfl, ?_⟩) hHeld ?_
          rotate_left
          · intro wh hSw
            go_simp
            try with_reducible rfl
          try simp only [Act.put, List.getElem_toArray, List.getElem_cons_zero, List.getElem_cons_succ, List.setIfInBounds_toArray, List.set_cons_zero, List.set_cons_succ]
          refine wpAnyH_take (i := 1) (v := ?_) rfl (by kernel_rfl) (by kernel_rfl) (by kernel_rfl) (fun _ _ _ h => h) (Or.inl ⟨by kernel_rfl, ?_⟩) hHeld ?_
          rotate_left
          · intro wh hSw
            go_simp
            try with_reducible rfl
          try simp only [Act.put, List.getElem_toArray, List.getElem_cons_zero, List.getElem_cons_succ, List.setIfInBounds_toArray, List.set_cons_zero, List.set_cons_succ]
          refine wpAnyH_take (i := 2) (v := ?_) rfl (by kernel_rfl) (by kernel_rfl) (by kernel_rfl) (fun _ _ _ h => h) (Or.inl ⟨by kernel_rfl, ?_⟩) hHeld ?_
          rotate_left
          · intro wh hSw
            go_simp
            try with_reducible rfl
          try simp only [Act.put, List.getElem_toArray, List.getElem_cons_zero, List.getElem_cons_succ, List.setIfInBounds_toArray, List.set_cons_zero, List.set_cons_succ]
          refine wpAnyH_take (i := 3) (v := ?_) rfl (by kernel_rfl) (by kernel_rfl) (by kernel_rfl) (fun _ _ _ h => h) (Or.inl ⟨by kernel_rfl, ?_⟩) hHeld ?_
          rotate_left
          · intro wh hSw
            go_simp
            try with_reducible rfl
          try simp only [Act.put, List.getElem_toArray, List.getElem_cons_zero, List.getElem_cons_succ, List.setIfInBounds_toArray, List.set_cons_zero, List.set_cons_succ]
          refine wpAnyH_take (i := 4) rfl (by kernel_rfl) (by kernel_rfl) (by kernel_rfl) (fun _ _ _ h => h) (yieldsIf_load_want (by kernel_rfl) 31 _ rfl _ rfl _ (fun wh hSw => hSw.1)) hHeld ?_
          try simp only [Act.put, List.getElem_toArray, List.getElem_cons_zero, List.getElem_cons_succ, List.setIfInBounds_toArray, List.set_cons_zero, List.set_cons_succ]
          refine wpAnyH_take (i := 5) (v := ?_) rfl (by kernel_rfl) (by kernel_rfl) (by kernel_rfl) (fun _ _ _ h => h) (Or.inl ⟨by kernel_rfl, ?_⟩) hHeld ?_
          rotate_left
          · intro wh hSw
            go_simp
            try with_reducible rfl
          try simp only [Act.put, List.getElem_toArray, List.getElem_cons_zero, List.getElem_cons_succ, List.setIfInBounds_toArray, List.set_cons_zero, List.set_cons_succ]
          refine wpAnyH_take (i := 6) rfl (by kernel_rfl) (by kernel_rfl) (by kernel_rfl) (fun _ _ _ h => h) (yieldsIf_load_want (by kernel_rfl) 31 _ rfl _ rfl _ (fun wh hSw => hSw.2.1.part (at_enc hx.out) Try.underlying31 rfl (by rw [hx.out.addr.len]; exact Sv.info31))) hHeld ?_
          try simp only [Act.put, List.getElem_toArray, List.getElem_cons_zero, List.getElem_cons_succ, List.setIfInBounds_toArray, List.set_cons_zero, List.set_cons_succ]
          refine wpAnyH_take (i := 7) (v := ?_) rfl (by kernel_rfl) (by kernel_rfl) (by kernel_rfl) (fun _ _ _ h => h) (Or.inl ⟨by kernel_rfl, ?_⟩) hHeld ?_
          rotate_left
          · intro wh hSw
            go_simp
            try with_reducible rfl
          try simp only [Act.put, List.getElem_toArray, List.getElem_cons_zero, List.getElem_cons_succ, List.setIfInBounds_toArray, List.set_cons_zero, List.set_cons_succ]
          refine wpAnyH_take (i := 8) (v := ?_) rfl (by kernel_rfl) (by kernel_rfl) (by kernel_rfl) (fun _ _ _ h => h) (Or.inl ⟨by kernel_rfl, ?_⟩) hHeld ?_
          rotate_left
          · intro wh hSw
            go_simp
            try with_reducible rfl
          try simp only [Act.put, List.getElem_toArray, List.getElem_cons_zero, List.getElem_cons_succ, List.setIfInBounds_toArray, List.set_cons_zero, List.set_cons_succ]
          refine wpAnyH_take (i := 9) (v := ?_) rfl (by kernel_rfl) (by kernel_rfl) (by kernel_rfl) (fun _ _ _ h => h) (Or.inl ⟨by kernel_rfl, ?_⟩) hHeld ?_
          rotate_left
          · intro wh hSw
            go_simp
            try with_reducible rfl
          try simp only [Act.put, List.getElem_toArray, List.getElem_cons_zero, List.getElem_cons_succ, List.setIfInBounds_toArray, List.set_cons_zero, List.set_cons_succ]
          refine wpAnyH_take (i := 10) (v := ?_) rfl (by kernel_rfl) (by kernel_rfl) (by kernel_rfl) (fun _ _ _ h => h) (Or.inl ⟨by kernel_rfl, ?_⟩) hHeld ?_
          rotate_left
          · intro wh hSw
            go_simp
            try with_reducible rfl
          try simp only [Act.put, List.getElem_toArray, List.getElem_cons_zero, List.getElem_cons_succ, List.setIfInBounds_toArray, List.set_cons_zero, List.set_cons_succ]
          refine wpAnyH_take (i := 11) (v := ?_) rfl (by kernel_rfl) (by kernel_rfl) (by kernel_rfl) (fun _ _ _ h => h) (Or.inl ⟨by kernel_rfl, ?_⟩) hHeld ?_
          rotate_left
          · intro wh hSw
            go_simp
            try with_reducible rfl
          try simp only [Act.put, List.getElem_toArray, List.getElem_cons_zero, List.getElem_cons_succ, List.setIfInBounds_toArray, List.set_cons_zero, List.set_cons_succ]
          refine wpAnyH_take (i := 12) (v := ?_) rfl (by kernel_rfl) (by kernel_rfl) (by kernel_rfl) (fun _ _ _ h => h) (Or.inl ⟨by kernel_rfl, ?_⟩) hHeld ?_
          rotate_left
          · intro wh hSw
            go_simp
            try with_reducible rfl
          try simp only [Act.put, List.getElem_toArray, List.getElem_cons_zero, List.getElem_cons_succ, List.setIfInBounds_toArray, List.set_cons_zero, List.set_cons_succ]
          refine wpAnyH_take (i := 13) (v := ?_) rfl (by kernel_rfl) (by kernel_rfl) (by kernel_rfl) (fun _ _ _ h => h) (Or.inl ⟨by kernel_rfl, ?_⟩) hHeld ?_
          rotate_left
          · intro wh hSw
            have hcell := hSw.2.2
            go_simp
            try with_reducible rfl
          try simp only [Act.put, List.getElem_toArray, List.getElem_cons_zero, List.getElem_cons_succ, List.setIfInBounds_toArray, List.set_cons_zero, List.set_cons_succ]
          refine wpAnyH_take (i := 14) (v := ?_) rfl (by kernel_rfl) (by kernel_rfl) (by kernel_rfl) (fun _ _ _ h => h) (Or.inl ⟨by kernel_rfl, ?_⟩) hHeld ?_
          rotate_left
          · intro wh hSw
            go_simp
            try with_reducible rfl
          try simp only [Act.put, List.getElem_toArray, List.getElem_cons_zero, List.getElem_cons_succ, List.setIfInBounds_toArray, List.set_cons_zero, List.set_cons_succ]
          refine wpAnyH_take (i := 15) (v := ?_) rfl (by kernel_rfl) (by kernel_rfl) (by kernel_rfl) (fun _ _ _ h => h) (Or.inl ⟨by kernel_rfl, ?_⟩) hHeld ?_
          rotate_left
          · intro wh hSw
            have hcell := hSw.2.1.at_ (name_encV hx.out)
            go_simp
            try with_reducible rfl
          try simp only [Act.put, List.getElem_toArray, List.getElem_cons_zero, List.getElem_cons_succ, List.setIfInBounds_toArray, List.set_cons_zero, List.set_cons_succ]
          refine wpAnyH_take (i := 16) (v := ?_) rfl (by kernel_rfl) (by kernel_rfl) (by kernel_rfl) (fun _ _ _ h => h) (Or.inl ⟨by kernel_rfl, ?_⟩) hHeld ?_
          rotate_left
          · intro wh hSw
            go_simp
            try with_reducible rfl
          try simp only [Act.put, List.getElem_toArray, List.getElem_cons_zero, List.getElem_cons_succ, List.setIfInBounds_toArray, List.set_cons_zero, List.set_cons_succ]
          refine wpAnyH_take (i := 17) (v := ?_) rfl (by kernel_rfl) (by kernel_rfl) (by kernel_rfl) (fun _ _ _ h => h) (Or.inl ⟨by kernel_rfl, ?_⟩) hHeld ?_
          rotate_left
          · intro wh hSw
            go_simp
            try with_reducible rfl
          try simp only [Act.put, List.getElem_toArray, List.getElem_cons_zero, List.getElem_cons_succ, List.setIfInBounds_toArray, List.set_cons_zero, List.set_cons_succ]
          refine wpAnyH_done (by kernel_rfl) ?_ _
          clear hHeld
          have P1 := hidd P.out.draw
          have l1 := hidd (show (loadVar 79 ⟨b, off + j * 18, none⟩).run Try.prog wr.drew = .ok (.agg (encV e)) wr.drew from loadE hE.out hrj.out)
          generalize wr.drew = D at P1 l1 ⊢
          clear P S6 heq
          go_wp2_with (first
            | (with_reducible show wpList _ _ _ (⟨_, Op.load 79 _, _, _, _, _⟩ :: _) _ _; refine wpList_load_want (by kernel_rfl) 79 _ rfl _ rfl _ (by with_reducible exact l1.out) ?_)
            | (with_reducible show wpList _ _ _ (⟨_, Op.buildSlice 51 _ _, _, _, _, _⟩ :: _) _ _; refine wpList_bs1 rfl (.tmp 46) slTy (by decide) rfl (encV e) rfl (encV_size hE.out) ?_)
            | (at_builtin
               refine wpList_append_rd (v := .slice Ao os.length co) (D.alloc (.cells (encV e) 79)) rfl (.tmp 42) (.tmp 47) slTy rfl rfl (own_al P1.out.own _) rfl (rd_one D 79 18 (encV e) (encV_size hE.out)) (by intro u hu; exact isEnc.one e u (by simpa [encV] using hu)) (by unfold maxLen; omega) (by omega) (by have := P1.out.blk.lt; simp; omega) ?_
               intro v5 w5 o5 g5 t5 l5
               clear l5 t5
               have P5 := hidd (P1.out.app hE.out o5 g5)
               clear o5 g5))
          go_roundw
          case rel => exact ⟨j + 1, by omega, by go_num, by rw [hta.out]; simp, by rw [hgs.out]; exact P5.out⟩
          case measure => simp [intOf]; omega
        · have hsm : same e x = true := by rw [same, ha, hb]; rfl
          rw [hsm] at hgs hta
          clear ha
          by_cases hz : life = 0
          · have hnz : ¬ 0 < life := by omega
            have hgs' := hidd (show go x life (es.take (j + 1)) = os from by rw [hgs.out, hz]; simp)
            clear hz hgs
            go_wp2
            refine wp_region_held_drew (S := (fun V => (loadVar 31 ⟨b, off + j * 18, none⟩).run Try.prog V = .ok (.agg (bytesV e.1)) V ∧ Blk V bx 79 (encV x) ∧ V.cell? ⟨b, off + j * 18 + 16, none⟩ = some (.string e.2.1))) (by kernel_rfl) S6.out (fun hHeld => ?_)
            refine wpAnyH_take (i := 0) (v := ?_) rfl (by kernel_rfl) (by kernel_rfl) (by kernel_rfl) (fun _ _ _ h => h) (Or.inl ⟨by kernel_rfl, ?_⟩) hHeld ?_
            rotate_left
            · intro wh hSw
              go_simp
              try with_reducible rfl
            try simp only [Act.put, List.getElem_toArray, List.getElem_cons_zero, List.getElem_cons_succ, List.setIfInBounds_toArray, List.set_cons_zero, List.set_cons_succ]
            refine wpAnyH_take (i := 1) (v := ?_) rfl (by kernel_rfl) (by kernel_rfl) (by kernel_rfl) (fun _ _ _ h => h) (Or.inl ⟨by kernel_rfl, ?_⟩) hHeld ?_
            rotate_left
            · intro wh hSw
              go_simp
              try with_reducible rfl
            try simp only [Act.put, List.getElem_toArray, List.getElem_cons_zero, List.getElem_cons_succ, List.setIfInBounds_toArray, List.set_cons_zero, List.set_cons_succ]
            refine wpAnyH_take (i := 2) (v := ?_) rfl (by kernel_rfl) (by kernel_rfl) (by kernel_rfl) (fun _ _ _ h => h) (Or.inl ⟨by kernel_rfl, ?_⟩) hHeld ?_
            rotate_left
            · intro wh hSw
              go_simp
              try with_reducible rfl
            try simp only [Act.put, List.getElem_toArray, List.getElem_cons_zero, List.getElem_cons_succ, List.setIfInBounds_toArray, List.set_cons_zero, List.set_cons_succ]
            refine wpAnyH_take (i := 3) (v := ?_) rfl (by kernel_rfl) (by kernel_rfl) (by kernel_rfl) (fun _ _ _ h => h) (Or.inl ⟨by kernel_rfl, ?_⟩) hHeld ?_
            rotate_left
            · intro wh hSw
              go_simp
              try with_reducible rfl
            try simp only [Act.put, List.getElem_toArray, List.getElem_cons_zero, List.getElem_cons_succ, List.setIfInBounds_toArray, List.set_cons_zero, List.set_cons_succ]
            refine wpAnyH_take (i := 4) rfl (by kernel_rfl) (by kernel_rfl) (by kernel_rfl) (fun _ _ _ h => h) (yieldsIf_load_want (by kernel_rfl) 31 _ rfl _ rfl _ (fun wh hSw => hSw.1)) hHeld ?_
            try simp only [Act.put, List.getElem_toArray, List.getElem_cons_zero, List.getElem_cons_succ, List.setIfInBounds_toArray, List.set_cons_zero, List.set_cons_succ]
            refine wpAnyH_take (i := 5) (v := ?_) rfl (by kernel_rfl) (by kernel_rfl) (by kernel_rfl) (fun _ _ _ h => h) (Or.inl ⟨by kernel_rfl, ?_⟩) hHeld ?_
            rotate_left
            · intro wh hSw
              go_simp
              try with_reducible rfl
            try simp only [Act.put, List.getElem_toArray, List.getElem_cons_zero, List.getElem_cons_succ, List.setIfInBounds_toArray, List.set_cons_zero, List.set_cons_succ]
            refine wpAnyH_take (i := 6) rfl (by kernel_rfl) (by kernel_rfl) (by kernel_rfl) (fun _ _ _ h => h) (yieldsIf_load_want (by kernel_rfl) 31 _ rfl _ rfl _ (fun wh hSw => hSw.2.1.part (at_enc hx.out) Try.underlying31 rfl (by rw [hx.out.addr.len]; exact Sv.info31))) hHeld ?_
            try simp only [Act.put, List.getElem_toArray, List.getElem_cons_zero, List.getElem_cons_succ, List.setIfInBounds_toArray, List.set_cons_zero, List.set_cons_succ]
            refine wpAnyH_take (i := 7) (v := ?_) rfl (by kernel_rfl) (by kernel_rfl) (by kernel_rfl) (fun _ _ _ h => h) (Or.inl ⟨by kernel_rfl, ?_⟩) hHeld ?_
            rotate_left
            · intro wh hSw
              go_simp
              try with_reducible rfl
            try simp only [Act.put, List.getElem_toArray, List.getElem_cons_zero, List.getElem_cons_succ, List.setIfInBounds_toArray, List.set_cons_zero, List.set_cons_succ]
            refine wpAnyH_take (i := 8) (v := ?_) rfl (by kernel_rfl) (by kernel_rfl) (by kernel_rfl) (fun _ _ _ h => h) (Or.inl ⟨by kernel_rfl, ?_⟩) hHeld ?_
            rotate_left
            · intro wh hSw
              go_simp
              try with_reducible rfl
            try simp only [Act.put, List.getElem_toArray, List.getElem_cons_zero, List.getElem_cons_succ, List.setIfInBounds_toArray, List.set_cons_zero, List.set_cons_succ]
            refine wpAnyH_take (i := 9) (v := ?_) rfl (by kernel_rfl) (by kernel_rfl) (by kernel_rfl) (fun _ _ _ h => h) (Or.inl ⟨by kernel_rfl, ?_⟩) hHeld ?_
            rotate_left
            · intro wh hSw
              go_simp
              try with_reducible rfl
            try simp only [Act.put, List.getElem_toArray, List.getElem_cons_zero, List.getElem_cons_succ, List.setIfInBounds_toArray, List.set_cons_zero, List.set_cons_succ]
            refine wpAnyH_take (i := 10) (v := ?_) rfl (by kernel_rfl) (by kernel_rfl) (by kernel_rfl) (fun _ _ _ h => h) (Or.inl ⟨by kernel_rfl, ?_⟩) hHeld ?_
            rotate_left
            · intro wh hSw
              go_simp
              try with_reducible rfl
            try simp only [Act.put, List.getElem_toArray, List.getElem_cons_zero, List.getElem_cons_succ, List.setIfInBounds_toArray, List.set_cons_zero, List.set_cons_succ]
            refine wpAnyH_take (i := 11) (v := ?_) rfl (by kernel_rfl) (by kernel_rfl) (by kernel_rfl) (fun _ _ _ h => h) (Or.inl ⟨by kernel_rfl, ?_⟩) hHeld ?_
            rotate_left
            · intro wh hSw
              go_simp
              try with_reducible rfl
            try simp only [Act.put, List.getElem_toArray, List.getElem_cons_zero, List.getElem_cons_succ, List.setIfInBounds_toArray, List.set_cons_zero, List.set_cons_succ]
            refine wpAnyH_take (i := 12) (v := ?_) rfl (by kernel_rfl) (by kernel_rfl) (by kernel_rfl) (fun _ _ _ h => h) (Or.inl ⟨by kernel_rfl, ?_⟩) hHeld ?_
            rotate_left
            · intro wh hSw
              go_simp
              try with_reducible rfl
            try simp only [Act.put, List.getElem_toArray, List.getElem_cons_zero, List.getElem_cons_succ, List.setIfInBounds_toArray, List.set_cons_zero, List.set_cons_succ]
            refine wpAnyH_take (i := 13) (v := ?_) rfl (by kernel_rfl) (by kernel_rfl) (by kernel_rfl) (fun _ _ _ h => h) (Or.inl ⟨by kernel_rfl, ?_⟩) hHeld ?_
            rotate_left
            · intro wh hSw
              have hcell := hSw.2.2
              go_simp
              try with_reducible rfl
            try simp only [Act.put, List.getElem_toArray, List.getElem_cons_zero, List.getElem_cons_succ, List.setIfInBounds_toArray, List.set_cons_zero, List.set_cons_succ]
            refine wpAnyH_take (i := 14) (v := ?_) rfl (by kernel_rfl) (by kernel_rfl) (by kernel_rfl) (fun _ _ _ h => h) (Or.inl ⟨by kernel_rfl, ?_⟩) hHeld ?_
            rotate_left
            · intro wh hSw
              go_simp
              try with_reducible rfl
            try simp only [Act.put, List.getElem_toArray, List.getElem_cons_zero, List.getElem_cons_succ, List.setIfInBounds_toArray, List.set_cons_zero, List.set_cons_succ]
            refine wpAnyH_take (i := 15) (v := ?_) rfl (by kernel_rfl) (by kernel_rfl) (by kernel_rfl) (fun _ _ _ h => h) (Or.inl ⟨by kernel_rfl, ?_⟩) hHeld ?_
            rotate_left
            · intro wh hSw
              have hcell := hSw.2.1.at_ (name_encV hx.out)
              go_simp
              try with_reducible rfl
            try simp only [Act.put, List.getElem_toArray, List.getElem_cons_zero, List.getElem_cons_succ, List.setIfInBounds_toArray, List.set_cons_zero, List.set_cons_succ]
            refine wpAnyH_take (i := 16) (v := ?_) rfl (by kernel_rfl) (by kernel_rfl) (by kernel_rfl) (fun _ _ _ h => h) (Or.inl ⟨by kernel_rfl, ?_⟩) hHeld ?_
            rotate_left
            · intro wh hSw
              go_simp
              try with_reducible rfl
            try simp only [Act.put, List.getElem_toArray, List.getElem_cons_zero, List.getElem_cons_succ, List.setIfInBounds_toArray, List.set_cons_zero, List.set_cons_succ]
            refine wpAnyH_take (i := 17) (v := ?_) rfl (by kernel_rfl) (by kernel_rfl) (by kernel_rfl) (fun _ _ _ h => h) (Or.inl ⟨by kernel_rfl, ?_⟩) hHeld ?_
            rotate_left
            · intro wh hSw
              go_simp
              try with_reducible rfl
            try simp only [Act.put, List.getElem_toArray, List.getElem_cons_zero, List.getElem_cons_succ, List.setIfInBounds_toArray, List.set_cons_zero, List.set_cons_succ]
            refine wpAnyH_done (by kernel_rfl) ?_ _
            clear hHeld
            have P1 := hidd P.out.draw
            generalize wr.drew = D at P1 ⊢
            clear P S6 heq
            go_wp2
            go_roundw
            case rel => exact ⟨j + 1, by omega, by go_num, by rw [hta.out]; simp, by rw [hgs'.out]; exact P1.out⟩
            case measure => simp [intOf]; omega
          · have hnz : 0 < life := by omega
            have hgs' := hidd (show go x life (es.take (j + 1)) = os ++ [x] from by rw [hgs.out, if_pos rfl, if_neg hz])
            clear hz hgs
            go_wp2
            refine wp_region_held_drew (S := (fun V => (loadVar 31 ⟨b, off + j * 18, none⟩).run Try.prog V = .ok (.agg (bytesV e.1)) V ∧ Blk V bx 79 (encV x) ∧ V.cell? ⟨b, off + j * 18 + 16, none⟩ = some (.string e.2.1))) (by kernel_rfl) S6.out (fun hHeld => ?_)
            refine wpAnyH_take (i := 0) (v := ?_) rfl (by kernel_rfl) (by kernel_rfl) (by kernel_rfl) (fun _ _ _ h => h) (Or.inl ⟨by kernel_rfl, ?_⟩) hHeld ?_
            rotate_left
            · intro wh hSw
              go_simp
              try with_reducible rfl
            try simp only [Act.put, List.getElem_toArray, List.getElem_cons_zero, List.getElem_cons_succ, List.setIfInBounds_toArray, List.set_cons_zero, List.set_cons_succ]
            refine wpAnyH_take (i := 1) (v := ?_) rfl (by kernel_rfl) (by kernel_rfl) (by kernel_rfl) (fun _ _ _ h => h) (Or.inl ⟨by kernel_rfl, ?_⟩) hHeld ?_
            rotate_left
            · intro wh hSw
              go_simp
              try with_reducible rfl
            try simp only [Act.put, List.getElem_toArray, List.getElem_cons_zero, List.getElem_cons_succ, List.setIfInBounds_toArray, List.set_cons_zero, List.set_cons_succ]
            refine wpAnyH_take (i := 2) (v := ?_) rfl (by kernel_rfl) (by kernel_rfl) (by kernel_rfl) (fun _ _ _ h => h) (Or.inl ⟨by kernel_rfl, ?_⟩) hHeld ?_
            rotate_left
            · intro wh hSw
              go_simp
              try with_reducible rfl
            try simp only [Act.put, List.getElem_toArray, List.getElem_cons_zero, List.getElem_cons_succ, List.setIfInBounds_toArray, List.set_cons_zero, List.set_cons_succ]
            refine wpAnyH_take (i := 3) (v := ?_) rfl (by kernel_rfl) (by kernel_rfl) (by kernel_rfl) (fun _ _ _ h => h) (Or.inl ⟨by kernel_rfl, ?_⟩) hHeld ?_
            rotate_left
            · intro wh hSw
              go_simp
              try with_reducible rfl
            try simp only [Act.put, List.getElem_toArray, List.getElem_cons_zero, List.getElem_cons_succ, List.setIfInBounds_toArray, List.set_cons_zero, List.set_cons_succ]
            refine wpAnyH_take (i := 4) rfl (by kernel_rfl) (by kernel_rfl) (by kernel_rfl) (fun _ _ _ h => h) (yieldsIf_load_want (by kernel_rfl) 31 _ rfl _ rfl _ (fun wh hSw => hSw.1)) hHeld ?_
            try simp only [Act.put, List.getElem_toArray, List.getElem_cons_zero, List.getElem_cons_succ, List.setIfInBounds_toArray, List.set_cons_zero, List.set_cons_succ]
            refine wpAnyH_take (i := 5) (v := ?_) rfl (by kernel_rfl) (by kernel_rfl) (by kernel_rfl) (fun _ _ _ h => h) (Or.inl ⟨by kernel_rfl, ?_⟩) hHeld ?_
            rotate_left
            · intro wh hSw
              go_simp
              try with_reducible rfl
            try simp only [Act.put, List.getElem_toArray, List.getElem_cons_zero, List.getElem_cons_succ, List.setIfInBounds_toArray, List.set_cons_zero, List.set_cons_succ]
            refine wpAnyH_take (i := 6) rfl (by kernel_rfl) (by kernel_rfl) (by kernel_rfl) (fun _ _ _ h => h) (yieldsIf_load_want (by kernel_rfl) 31 _ rfl _ rfl _ (fun wh hSw => hSw.2.1.part (at_enc hx.out) Try.underlying31 rfl (by rw [hx.out.addr.len]; exact Sv.info31))) hHeld ?_
            try simp only [Act.put, List.getElem_toArray, List.getElem_cons_zero, List.getElem_cons_succ, List.setIfInBounds_toArray, List.set_cons_zero, List.set_cons_succ]
            refine wpAnyH_take (i := 7) (v := ?_) rfl (by kernel_rfl) (by kernel_rfl) (by kernel_rfl) (fun _ _ _ h => h) (Or.inl ⟨by kernel_rfl, ?_⟩) hHeld ?_
            rotate_left
            · intro wh hSw
              go_simp
              try with_reducible rfl
            try simp only [Act.put, List.getElem_toArray, List.getElem_cons_zero, List.getElem_cons_succ, List.setIfInBounds_toArray, List.set_cons_zero, List.set_cons_succ]
            refine wpAnyH_take (i := 8) (v := ?_) rfl (by kernel_rfl) (by kernel_rfl) (by kernel_rfl) (fun _ _ _ h => h) (Or.inl ⟨by kernel_rfl, ?_⟩) hHeld ?_
            rotate_left
            · intro wh hSw
              go_simp
              try with_reducible rfl
            try simp only [Act.put, List.getElem_toArray, List.getElem_cons_zero, List.getElem_cons_succ, List.setIfInBounds_toArray, List.set_cons_zero, List.set_cons_succ]
            refine wpAnyH_take (i := 9) (v := ?_) rfl (by kernel_rfl) (by kernel_rfl) (by kernel_rfl) (fun _ _ _ h => h) (Or.inl ⟨by kernel_rfl, ?_⟩) hHeld ?_
            rotate_left
            · intro wh hSw
              go_simp
              try with_reducible rfl
            try simp only [Act.put, List.getElem_toArray, List.getElem_cons_zero, List.getElem_cons_succ, List.setIfInBounds_toArray, List.set_cons_zero, List.set_cons_succ]
            refine wpAnyH_take (i := 10) (v := ?_) rfl (by kernel_rfl) (by kernel_rfl) (by kernel_rfl) (fun _ _ _ h => h) (Or.inl ⟨by kernel_rfl, ?_⟩) hHeld ?_
            rotate_left
            · intro wh hSw
              go_simp
              try with_reducible rfl
            try simp only [Act.put, List.getElem_toArray, List.getElem_cons_zero, List.getElem_cons_succ, List.setIfInBounds_toArray, List.set_cons_zero, List.set_cons_succ]
            refine wpAnyH_take (i := 11) (v := ?_) rfl (by kernel_rfl) (by kernel_rfl) (by kernel_rfl) (fun _ _ _ h => h) (Or.inl ⟨by kernel_rfl, ?_⟩) hHeld ?_
            rotate_left
            · intro wh hSw
              go_simp
              try with_reducible rfl
            try simp only [Act.put, List.getElem_toArray, List.getElem_cons_zero, List.getElem_cons_succ, List.setIfInBounds_toArray, List.set_cons_zero, List.set_cons_succ]
            refine wpAnyH_take (i := 12) (v := ?_) rfl (by kernel_rfl) (by kernel_rfl) (by kernel_rfl) (fun _ _ _ h => h) (Or.inl ⟨by kernel_rfl, ?_⟩) hHeld ?_
            rotate_left
            · intro wh hSw
              go_simp
              try with_reducible rfl
            try simp only [Act.put, List.getElem_toArray, List.getElem_cons_zero, List.getElem_cons_succ, List.setIfInBounds_toArray, List.set_cons_zero, List.set_cons_succ]
            refine wpAnyH_take (i := 13) (v := ?_) rfl (by kernel_rfl) (by kernel_rfl) (by kernel_rfl) (fun _ _ _ h => h) (Or.inl ⟨by kernel_rfl, ?_⟩) hHeld ?_
            rotate_left
            · intro wh hSw
              have hcell := hSw.2.2
              go_simp
              try with_reducible rfl
            try simp only [Act.put, List.getElem_toArray, List.getElem_cons_zero, List.getElem_cons_succ, List.setIfInBounds_toArray, List.set_cons_zero, List.set_cons_succ]
            refine wpAnyH_take (i := 14) (v := ?_) rfl (by kernel_rfl) (by kernel_rfl) (by kernel_rfl) (fun _ _ _ h => h) (Or.inl ⟨by kernel_rfl, ?_⟩) hHeld ?_
            rotate_left
            · intro wh hSw
              go_simp
              try with_reducible rfl
            try simp only [Act.put, List.getElem_toArray, List.getElem_cons_zero, List.getElem_cons_succ, List.setIfInBounds_toArray, List.set_cons_zero, List.set_cons_succ]
            refine wpAnyH_take (i := 15) (v := ?_) rfl (by kernel_rfl) (by kernel_rfl) (by kernel_rfl) (fun _ _ _ h => h) (Or.inl ⟨by kernel_rfl, ?_⟩) hHeld ?_
            rotate_left
            · intro wh hSw
              have hcell := hSw.2.1.at_ (name_encV hx.out)
              go_simp
              try with_reducible rfl
            try simp only [Act.put, List.getElem_toArray, List.getElem_cons_zero, List.getElem_cons_succ, List.setIfInBounds_toArray, List.set_cons_zero, List.set_cons_succ]
            refine wpAnyH_take (i := 16) (v := ?_) rfl (by kernel_rfl) (by kernel_rfl) (by kernel_rfl) (fun _ _ _ h => h) (Or.inl ⟨by kernel_rfl, ?_⟩) hHeld ?_
            rotate_left
            · intro wh hSw
              go_simp
              try with_reducible rfl
            try simp only [Act.put, List.getElem_toArray, List.getElem_cons_zero, List.getElem_cons_succ, List.setIfInBounds_toArray, List.set_cons_zero, List.set_cons_succ]
            refine wpAnyH_take (i := 17) (v := ?_) rfl (by kernel_rfl) (by kernel_rfl) (by kernel_rfl) (fun _ _ _ h => h) (Or.inl ⟨by kernel_rfl, ?_⟩) hHeld ?_
            rotate_left
            · intro wh hSw
              go_simp
              try with_reducible rfl
            try simp only [Act.put, List.getElem_toArray, List.getElem_cons_zero, List.getElem_cons_succ, List.setIfInBounds_toArray, List.set_cons_zero, List.set_cons_succ]
            refine wpAnyH_done (by kernel_rfl) ?_ _
            clear hHeld
            have P1 := hidd P.out.draw
            have l1 := hidd (show (loadVar 79 ⟨bx, 0, none⟩).run Try.prog wr.drew = .ok (.agg (encV x)) wr.drew from loadB hx.out P1.out.blk)
            generalize wr.drew = D at P1 l1 ⊢
            clear P S6 heq
            go_wp2_with (first
              | (with_reducible show wpList _ _ _ (⟨_, Op.load 79 _, _, _, _, _⟩ :: _) _ _; refine wpList_load_want (by kernel_rfl) 79 _ rfl _ rfl _ (by with_reducible exact l1.out) ?_)
              | (with_reducible show wpList _ _ _ (⟨_, Op.buildSlice 51 _ _, _, _, _, _⟩ :: _) _ _; refine wpList_bs1 rfl (.tmp 39) slTy (by decide) rfl (encV x) rfl (encV_size hx.out) ?_)
              | (at_builtin
                 refine wpList_append_rd (v := .slice Ao os.length co) (D.alloc (.cells (encV x) 79)) rfl (.tmp 38) (.tmp 40) slTy rfl rfl (own_al P1.out.own _) rfl (rd_one D 79 18 (encV x) (encV_size hx.out)) (by intro u hu; exact isEnc.one x u (by simpa [encV] using hu)) (by unfold maxLen; omega) (by omega) (by have := P1.out.blk.lt; simp; omega) ?_
                 intro v5 w5 o5 g5 t5 l5
                 clear l5 t5
                 have P5 := hidd (P1.out.app hx.out o5 g5)
                 clear o5 g5))
            go_roundw
            case rel => exact ⟨j + 1, by omega, by go_num, by rw [hta.out]; simp, by rw [hgs'.out]; exact P5.out⟩
            case measure => simp [intOf]; omega
    · have hjn' : j = n := by omega
      subst hjn'
      rw [List.take_of_length_le (by omega)] at hos ⊢
      cases hany : es.any fun e => same e x
      · by_cases hz : life = 0
        · have hlz : (life == 0) = true := by rw [hz]; rfl
          have hput := hidd (show put life es x = os from by rw [put, if_pos (.inr hz), hos])
          clear hz hany hos
          go_wp2
          go_ret
          rw [hput.out]
          exact ⟨_, rfl, P.out.own, P.out.bel⟩
        · have hlz : (life == 0) = false := by simp [hz]
          by_cases ho4 : os.length < 4
          · have hput := hidd (show put life es x = os ++ [x] from by rw [put, if_neg (by simp [hany, hz]), hos, if_pos ho4])
            have l1 := hidd (loadB hx.out P.out.blk)
            have hq4 : (os.length : Int) < 4 := by omega
            clear hz hany hos
            go_wp2_with (first
              | (with_reducible show wpList _ _ _ (⟨_, Op.load 79 _, _, _, _, _⟩ :: _) _ _; refine wpList_load_want (by kernel_rfl) 79 _ rfl _ rfl _ (by with_reducible exact l1.out) ?_)
              | (with_reducible show wpList _ _ _ (⟨_, Op.buildSlice 51 _ _, _, _, _, _⟩ :: _) _ _; refine wpList_bs1 rfl (.tmp 59) slTy (by decide) rfl (encV x) rfl (encV_size hx.out) ?_)
              | (at_builtin
                 refine wpList_append_rd (v := .slice Ao os.length co) (wr.alloc (.cells (encV x) 79)) rfl (.tmp 58) (.tmp 60) slTy rfl rfl (own_al P.out.own _) rfl (rd_one wr 79 18 (encV x) (encV_size hx.out)) (by intro u hu; exact isEnc.one x u (by simpa [encV] using hu)) (by unfold maxLen; omega) (by omega) (by have := P.out.blk.lt; simp; omega) ?_
                 intro v5 w5 o5 g5 t5 l5
                 clear l5 t5
                 have P5 := hidd (P.out.app hx.out o5 g5)
                 clear o5 g5))
            go_ret
            rw [hput.out]
            exact ⟨_, rfl, P5.out.own, P5.out.bel⟩
          · obtain ⟨g, cg, hA, hbg, hgl⟩ := own_pos P.out.own (by omega)
            injection hA with hA hA2 hA3
            subst hA hA3
            have hq4 : ¬ (os.length : Int) < 4 := by omega
            have hcc := (own_cap P.out.own)
            obtain ⟨hcc1, hcc2⟩ := hcc
            unfold maxLen at hcc2
            obtain ⟨us, hus⟩ : ∃ us, os.map (·.2.2) = us := ⟨_, rfl⟩
            have hput := hidd (show put life es x = (if us[oldAt us os.length]?.getD 0 ≤ x.2.2 then os.set (oldAt us os.length) x else os) from by rw [put, if_neg (by simp [hany, hz]), hos, if_neg ho4, hus])
            have hus' := hidd hus
            clear hz hany hos hus
            go_wp2
            obtain ⟨w2, rfl⟩ : ∃ w2 : World, w2 = wr := ⟨_, rfl⟩
            go_loopw [10, 11] (fun a i wr => ∃ k : Nat, k ≤ os.length ∧ i = .int .i64 k ∧ a = .int .i64 (oldAt us k : Nat) ∧ Pt w wr bx x (.slice (some ⟨g, 0, none⟩) os.length co) os) (fun _ i _ => os.length - (intOf i).toNat)
            case atStart => exact ⟨0, by omega, rfl, rfl, P.out⟩
            case round =>
              obtain ⟨k, hk, rfl, rfl, hP⟩ := hrel
              have P2 := hidd hP
              clear P hP
              have hol := oldAt_le us k
              by_cases hkn : k < os.length
              · obtain ⟨q, hq⟩ : ∃ q, oldAt us k = q := ⟨_, rfl⟩
                rw [hq] at hol ⊢
                obtain ⟨e, he⟩ : ∃ e, os[k]? = some e := ⟨os[k], List.getElem?_eq_getElem hkn⟩
                obtain ⟨o, ho⟩ : ∃ o, os[q]? = some o := ⟨os[q]'(by omega), List.getElem?_eq_getElem _⟩
                have c1 : wr.cell? ⟨g, k * 18 + 17, none⟩ = some (.int .u64 e.2.2) := own_range P2.out.own isEnc rfl hoo.out he 17 _ (until_enc (hoo.out e (List.mem_of_getElem? he)))
                have c2 : wr.cell? ⟨g, q * 18 + 17, none⟩ = some (.int .u64 o.2.2) := own_range P2.out.own isEnc rfl hoo.out ho 17 _ (until_enc (hoo.out o (List.mem_of_getElem? ho)))
                have hst : oldAt us (k + 1) = if e.2.2 < o.2.2 then k else q := by rw [oldAt, hq, ← hus'.out]; simp [he, ho]
                have hst' := hidd hst
                have hqz : (q : Int) < (os.length : Int) := by omega
                clear hst hq he ho
                by_cases hlt : e.2.2 < o.2.2
                all_goals
                  go_wp2
                  go_region
                  go_wp2
                  go_roundw
                  case measure => simp [intOf]; omega
                  case rel => exact ⟨k + 1, by omega, by go_num, by rw [hst'.out]; (first | rw [if_pos hlt] | rw [if_neg (by omega)]), P2.out.draw⟩
              · have hkn' : k = os.length := by omega
                subst hkn'
                have hql := oldAt_lt us os.length (by omega)
                obtain ⟨q, hq⟩ : ∃ q, oldAt us os.length = q := ⟨_, rfl⟩
                rw [hq] at hql hput ⊢
                obtain ⟨o, ho⟩ : ∃ o, os[q]? = some o := ⟨os[q]'(by omega), List.getElem?_eq_getElem _⟩
                have hput' := hidd (show put life es x = (if o.2.2 ≤ x.2.2 then os.set q x else os) from by rw [hput.out, ← hus'.out]; simp [ho])
                have c2 : wr.cell? ⟨g, q * 18 + 17, none⟩ = some (.int .u64 o.2.2) := own_range P2.out.own isEnc rfl hoo.out ho 17 _ (until_enc (hoo.out o (List.mem_of_getElem? ho)))
                have c3 : wr.cell? ⟨bx, 17, none⟩ = some (.int .u64 x.2.2) := P2.out.blk.at_ (until_encV hx.out)
                have hqz : (q : Int) < (os.length : Int) := by omega
                clear hq ho hol hput
                by_cases hle : o.2.2 ≤ x.2.2
                · go_wp2
                  go_region
                  have P3 := hidd P2.out.draw
                  have l3 := hidd (show (loadVar 79 ⟨bx, 0, none⟩).run Try.prog wr.drew = .ok (.agg (encV x)) wr.drew from loadB hx.out P3.out.blk)
                  generalize wr.drew = D at P3 l3 ⊢
                  have ht3 := hidd (own_there (w := D) P3.out.own (o := q * 18) (k := 18) (by show q * 18 + 18 ≤ co * 18; omega))
                  clear c2 c3 P2
                  go_wp2_with (first
                    | (with_reducible show wpList _ _ _ (⟨_, Op.load 79 _, _, _, _, _⟩ :: _) _ _; refine wpList_load_want (by kernel_rfl) 79 _ rfl _ rfl _ (by with_reducible exact l3.out) ?_)
                    | (with_reducible show wpList _ _ _ (⟨_, Op.store 79 (.tmp 91) _, _, _, _, _⟩ :: _) _ _
                       refine wpList_store_vals rfl rfl 79 (.tmp 91) _ rfl g (q * 18) (enc x) rfl rfl (by rw [isEnc.len x hx.out]; exact ht3.out) (by rw [isEnc.len x hx.out]; exact infoE) (isEnc.one x) ?_))
                  go_ret
                  rw [hput'.out, if_pos hle]
                  refine ⟨_, rfl, by rw [List.length_set]; exact own_store P3.out.own isEnc hoo.out hx.out hql, P3.out.bel.trans (((fr_cells D g (enc x) (q * 18)).below (B := bx) (by have := P3.out.blk.lt; omega) (fun k e => by rw [e]; omega)))⟩
                · go_wp2
                  go_region
                  go_wp2
                  go_ret
                  rw [hput'.out, if_neg (by omega)]
                  exact ⟨_, rfl, P2.out.own, P2.out.bel.drew⟩
      · have hput := hidd (show put life es x = os from by rw [put, if_pos (.inl hany), hos])
        clear hany hos
        go_wp2
        go_ret
        rw [hput.out]
        exact ⟨_, rfl, P.out.own, P.out.bel⟩
end Go.Proofs.Ytajlgglknianlaa.Rf
