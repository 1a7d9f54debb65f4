/- A cache: an entry made, walked once. No condition. -/
import Derived.Test.YtpjjcihhmhccfaaMade
import Derived.StillTailTactics
namespace Go.Proofs.Ytpjjcihhmhccfaa
open Go.ChangeShapes Go.WideShapes Go.ChangeAt Go.RowKit Go.Deep
set_option linter.unusedVariables false
set_option linter.unusedSimpArgs false

theorem builtE {x : List Int} (h : IsAddr x) : Try.prog.built 33 [(0, .agg (bytesV x))] = some (encV (newE x)) := by
  obtain ⟨_, _, _, _, _, _, _, _, _, _, _, _, _, _, _, _, rfl⟩ := addr_ex h
  kernel_rfl
/-- The last steps of made: from region 6 on. -/
def MadeSays (w0 : World) (B : Nat) (x : List Int) (os : List En) (L : List Bx) (r : Ending) (w' : World) : Prop := ∃ b e rest, r = .returned (ptr b) ∧ Mk x os b e rest ∧ Ch w0 w' B ((b, e) :: rest) L
set_option maxRecDepth 100000 in
set_option maxHeartbeats 8000000 in
theorem made_any {w0 : World} (w : World) {B : Nat} {os : List En} {L : List Bx} (h : Ch w0 w B os L) (x : List Int) (hx0 : IsAddr x) :
    Calls Try.prog 25 #[ptr B, .agg (bytesV x)] w (MadeSays w0 B x os L) := by
  obtain ⟨q, hq⟩ : ∃ q, w.heap.size = q := ⟨_, rfl⟩
  have hx := hidd hx0
  have C0 := hidd (h.new 24 (bytesV x) hq)
  clear h hx0
  go_enter Try.func25, Try.ntmps25
  have l0 := hidd (ld24 C0.out.last hx.out)
  have hT := hidd (touched_any _ C0.out x hx.out)
  go_wp2_with (with_reducible show wpList _ _ _ (⟨_, Op.load 24 _, _, _, _, _⟩ :: _) _ _; refine wpList_load_want (by kernel_rfl) 24 _ rfl _ rfl _ (by with_reducible exact l0.out) ?_)
  refine Calls.mono hT.out ?_
  rintro r w2 ⟨rfl, c2⟩
  have C2 := hidd c2
  clear c2 hT l0 C0
  cases hf : fo x os with
  | some o =>
    obtain ⟨b, e⟩ := o
    have hv : tval x os = ptr b := by rw [tval, hf]
    have ht : tch x os = (b, e) :: outO b os := by rw [tch, hf]
    rw [hv]
    rw [ht] at C2
    have hf' := hidd hf
    clear hv ht hf
    go_wp2
    go_ret
    exact ⟨b, e, _, rfl, .inl ⟨hf'.out, rfl⟩, C2.out.pop⟩
  | none =>
    have hv : tval x os = .pointer none := by rw [tval, hf]
    have ht : tch x os = os := by rw [tch, hf]
    rw [hv]
    rw [ht] at C2
    have hf' := hidd hf
    clear hv ht hf
    obtain ⟨bm, v, ps, ms, ck, es, k2, g2⟩ := C2.out
    have K2 := hidd k2
    have G2 := hidd g2
    have c1 := k2.map1
    have hM : w2.heap[bm]? = some (.map (ms.map mkM).toArray ck) := k2.map
    have hml := g2.len
    have hmax := g2.max
    have hpl : ps.length = os.length := by rw [← g2.row, List.length_map]
    have hsz : (ms.map mkM).toArray.size = os.length := by simp [hml]
    have hlen : (Builtin.len_ #[56] 3 #[.map (some bm)]).run Try.prog w2 = .ok (.int .i64 os.length) w2 := by
      have := run_len_map (P := Try.prog) w2 56 3 bm _ _ (by kernel_rfl) hM
      rw [hsz] at this
      exact this
    have hnx0 := hidd (fo_none hf'.out)
    have hCC := hidd C2.out
    clear C2
    by_cases h32 : os.length = 32
    · have hb : ((os.length : Int) == 32) = true := by rw [h32]; rfl
      obtain ⟨os1, o, hos⟩ : ∃ os1 o, os = os1 ++ [o] := by
        rcases List.eq_nil_or_concat os with h0 | ⟨l, a, h0⟩
        · rw [h0] at h32; simp at h32
        · exact ⟨l, a, by rw [h0, List.concat_eq_append]⟩
      obtain ⟨bl, el⟩ := o
      have hl1 : os1.length + 1 = 32 := by rw [hos] at h32; simpa using h32
      have hrm : Hid (os1 = room os) := by refine hidd ?_; rw [room, if_pos h32, hos, List.dropLast_concat]
      have hnx : Hid (∀ o ∈ os1, o.2.1 ≠ x) := fun o ho => hnx0.out o (by rw [hos]; exact List.mem_append_left _ ho)
      have hout : Hid (outO bl os = os1) := by refine hidd ?_; rw [hos]; exact outO_last (by rw [← hos]; exact g2.nb)
      have hmem : (bl, el) ∈ os := by rw [hos]; simp
      have hpk : ps[31]? = some bl := by
        rw [← g2.row, hos, List.map_append, List.getElem?_append_right (by simp; omega)]
        rw [List.length_map, show 31 - os1.length = 0 by omega]; rfl
      have hpn : ps.length = 32 := by omega
      obtain ⟨g, c, hv, _, _⟩ := own_pos k2.own (by omega)
      rw [hpn] at hv
      subst hv
      have hcc := own_cap (by have := k2.own; rw [hpn] at this; exact this)
      have hcm := hcc.2
      unfold maxLen at hcm
      have hw31 : IntKind.i64.wrap 31 = 31 := rfl
      have K3 := hidd K2.out.draw
      have hlt1 : os1.length < 32 := by omega
      clear k2 g2 hos hpn hcc hl1
      rw [h32] at hlen
      have c0 := K2.out.row0
      have c31 := row_at K2.out hpk
      clear K2
      go_wp2
      go_still_tail 13, (by kernel_rfl)
      change wpList _ _ _ _ _ w2.drew
      generalize w2.drew = D at K3 ⊢
      clear c0 c31 c1 hM hlen hcm hml hsz hpl hCC
      go_wp2_with fail
      refine (drop_any D ⟨bm, _, _, _, _, _, K3.out, G2.out⟩ bl el hmem).mono ?_
      rintro r w3 ⟨⟨z, rfl⟩, c3⟩
      rw [hout.out] at c3
      have C3 := hidd c3
      clear c3 K3 hpk hb
      obtain ⟨bm, v, ps, ms, ck, es, k3, g3⟩ := C3.out
      have l3 := hidd (ld24 k3.last hx.out)
      have G3 := hidd g3
      obtain ⟨b, hb⟩ : ∃ b, w3.heap.size = b := ⟨_, rfl⟩
      have K4 := hidd (k3.newE (newE_is hx.out) hb)
      have fresh := hidd (fun (o : En) (ho : o ∈ os1) => (show o.1 ≠ b from fun e => by have := (k3.ent o (g3.mem o ho)).lt; omega))
      have hno := hidd (fnd_none (i := 0) (fun (m : Mm) (hm : m ∈ ms) => (show m.1 ≠ x from fun e => by
        obtain ⟨a, b', n⟩ := m
        obtain ⟨y, hy, hya⟩ := (g3.keys a b').1 ⟨n, hm⟩
        exact hnx.out _ hy (hya.trans e))))
      have hps : ps.length ≤ 1000000 := by have h1 := g3.max; rw [← List.length_map (f := (·.1)), g3.row] at h1; omega
      have s7 := fun (U : World) (h : Lc w0 U B bm v ps ms ck (es ++ [(b, newE x)]) (L ++ [(q, 24, bytesV x)])) => (show U.cell? ⟨B, 0, none⟩ = some v ∧ U.cell? ⟨B, 1, none⟩ = some (.map (some bm)) ∧ (loadVar 24 ⟨q, 0, none⟩).run Try.prog U = .ok (.agg (bytesV x)) U from ⟨h.row0, h.map1, ld24 h.last hx.out⟩)
      have s7f := fun (U V : World) (h : Lc w0 U B bm v ps ms ck (es ++ [(b, newE x)]) (L ++ [(q, 24, bytesV x)])) (f : Fr (fun k => v.ownBlock = some k) U V) => (show V.cell? ⟨B, 0, none⟩ = some v ∧ V.cell? ⟨B, 1, none⟩ = some (.map (some bm)) ∧ (loadVar 24 ⟨q, 0, none⟩).run Try.prog V = .ok (.agg (bytesV x)) V from
        ⟨(h.blk.fr f (fun e => h.away _ e ids_B)).at_ (i := 0) rfl, (h.blk.fr f (fun e => h.away _ e ids_B)).at_ (i := 1) rfl, ld24 (h.last.fr f (fun e => h.away q e (ids_x (x := (q, 24, bytesV x)) (List.mem_append_right _ (List.mem_singleton.2 rfl))))) hx.out⟩)
      have hBm : B ≠ bm := nd_Bm K4.out.nd
      have hqm : q ≠ bm := fun e => nd_mx K4.out.nd (x := (q, 24, bytesV x)) (List.mem_append_right _ (List.mem_singleton.2 rfl)) e.symm
      have s7m := fun (U : World) (o : Obj) (h : U.cell? ⟨B, 0, none⟩ = some v ∧ U.cell? ⟨B, 1, none⟩ = some (.map (some bm)) ∧ (loadVar 24 ⟨q, 0, none⟩).run Try.prog U = .ok (.agg (bytesV x)) U) (hk : Blk U q 24 (bytesV x)) => (show ({ U with heap := U.heap.setIfInBounds bm o } : World).cell? ⟨B, 0, none⟩ = some v ∧ ({ U with heap := U.heap.setIfInBounds bm o } : World).cell? ⟨B, 1, none⟩ = some (.map (some bm)) ∧ (loadVar 24 ⟨q, 0, none⟩).run Try.prog { U with heap := U.heap.setIfInBounds bm o } = .ok (.agg (bytesV x)) { U with heap := U.heap.setIfInBounds bm o } from
        ⟨((mid_fr U bm o).cell (p := ⟨B, 0, none⟩) (World.block_lt_of_cell? U _ h.1) hBm).trans h.1, ((mid_fr U bm o).cell (p := ⟨B, 1, none⟩) (World.block_lt_of_cell? U _ h.2.1) hBm).trans h.2.1, ld24 (hk.fr (mid_fr U bm o) hqm) hx.out⟩)
      clear k3 g3 C3
      go_wp2_with (first
        | (with_reducible show wpList _ _ _ (⟨_, Op.load 24 _, _, _, _, _⟩ :: _) _ _; refine wpList_load_want (by kernel_rfl) 24 _ rfl _ rfl _ (by with_reducible exact l3.out) ?_)
        | (with_reducible show wpList _ _ _ (⟨_, Op.build 33 _, _, _, _, _⟩ :: _) _ _; refine wpList_build_want rfl 33 #[(0, .tmp 33)] rfl (encV (newE x)) (Eq.trans (b := Try.prog.built 33 [(0, .agg (bytesV x))]) (by kernel_rfl) (builtE hx.out)) ?_))
      generalize w3.alloc (.cells (encV (newE x)) 33) = w4 at K4 ⊢
      replace K4 := hidd K4.out.draw
      refine wp_region_tail (fun V => V.cell? ⟨B, 0, none⟩ = some v ∧ V.cell? ⟨B, 1, none⟩ = some (.map (some bm)) ∧ (loadVar 24 ⟨q, 0, none⟩).run Try.prog V = .ok (.agg (bytesV x)) V) 19 (by kernel_rfl) (s7 _ K4.out) (fun hF => ?_)
      generalize w4.drew = D at K4 hF ⊢
      refine tail_free (i := 0) (v := ?_) rfl (by kernel_rfl) (by kernel_rfl) (by kernel_rfl) (by kernel_rfl) (fun _ _ _ h => h) (Or.inl ⟨by kernel_rfl, ?_⟩) (fun _ => hF) ?_
      rotate_left
      · intro wh hSw
        go_simp
        try with_reducible rfl
      try simp only [Act.put, List.getElem_toArray, List.getElem_cons_zero, List.getElem_cons_succ, List.setIfInBounds_toArray, List.set_cons_zero, List.set_cons_succ]
      refine tail_free (i := 1) (v := ?_) rfl (by kernel_rfl) (by kernel_rfl) (by kernel_rfl) (by kernel_rfl) (fun _ _ _ h => h) (Or.inl ⟨by kernel_rfl, ?_⟩) (fun _ => hF) ?_
      rotate_left
      · intro wh hSw
        go_simp
        try with_reducible rfl
      try simp only [Act.put, List.getElem_toArray, List.getElem_cons_zero, List.getElem_cons_succ, List.setIfInBounds_toArray, List.set_cons_zero, List.set_cons_succ]
      refine tail_free (i := 2) (v := ?_) rfl (by kernel_rfl) (by kernel_rfl) (by kernel_rfl) (by kernel_rfl) (fun _ _ _ h => h) (Or.inl ⟨by kernel_rfl, ?_⟩) (fun _ => hF) ?_
      rotate_left
      · intro wh hSw
        go_simp
        try with_reducible rfl
      try simp only [Act.put, List.getElem_toArray, List.getElem_cons_zero, List.getElem_cons_succ, List.setIfInBounds_toArray, List.set_cons_zero, List.set_cons_succ]
      refine tail_take (i := 3) (v := ?_) rfl (by kernel_rfl) (by kernel_rfl) (by kernel_rfl) (by kernel_rfl) (fun _ _ _ h => h) (Or.inl ⟨by kernel_rfl, ?_⟩) hF ?_
      rotate_left
      · intro wh hSw
        have hcell := hSw.2.1
        go_simp
        try with_reducible rfl
      try simp only [Act.put, List.getElem_toArray, List.getElem_cons_zero, List.getElem_cons_succ, List.setIfInBounds_toArray, List.set_cons_zero, List.set_cons_succ]
      refine tail_take (i := 4) rfl (by kernel_rfl) (by kernel_rfl) (by kernel_rfl) (by kernel_rfl) (fun _ _ _ h => h) (yieldsIf_load_want (by kernel_rfl) 24 _ rfl _ rfl _ (fun wh hSw => hSw.2.2)) hF ?_
      try simp only [Act.put, List.getElem_toArray, List.getElem_cons_zero, List.getElem_cons_succ, List.setIfInBounds_toArray, List.set_cons_zero, List.set_cons_succ]
      refine tail_free (i := 5) (v := ?_) rfl (by kernel_rfl) (by kernel_rfl) (by kernel_rfl) (by kernel_rfl) (fun _ _ _ h => h) (Or.inl ⟨by kernel_rfl, ?_⟩) (fun _ => hF) ?_
      rotate_left
      · intro wh hSw
        go_simp
        try with_reducible rfl
      try simp only [Act.put, List.getElem_toArray, List.getElem_cons_zero, List.getElem_cons_succ, List.setIfInBounds_toArray, List.set_cons_zero, List.set_cons_succ]
      refine tail_free (i := 6) (v := ?_) rfl (by kernel_rfl) (by kernel_rfl) (by kernel_rfl) (by kernel_rfl) (fun _ _ _ h => h) (Or.inl ⟨by kernel_rfl, ?_⟩) (fun _ => hF) ?_
      rotate_left
      · intro wh hSw
        go_simp
        try with_reducible rfl
      try simp only [Act.put, List.getElem_toArray, List.getElem_cons_zero, List.getElem_cons_succ, List.setIfInBounds_toArray, List.set_cons_zero, List.set_cons_succ]
      refine tail_free (i := 7) (v := ?_) rfl (by kernel_rfl) (by kernel_rfl) (by kernel_rfl) (by kernel_rfl) (fun _ _ _ h => h) (Or.inl ⟨by kernel_rfl, ?_⟩) (fun _ => hF) ?_
      rotate_left
      · intro wh hSw
        go_simp
        try with_reducible rfl
      try simp only [Act.put, List.getElem_toArray, List.getElem_cons_zero, List.getElem_cons_succ, List.setIfInBounds_toArray, List.set_cons_zero, List.set_cons_succ]
      refine tail_free (i := 8) (v := ?_) rfl (by kernel_rfl) (by kernel_rfl) (by kernel_rfl) (by kernel_rfl) (fun _ _ _ h => h) (Or.inl ⟨by kernel_rfl, ?_⟩) (fun _ => hF) ?_
      rotate_left
      · intro wh hSw
        go_simp
        try with_reducible rfl
      try simp only [Act.put, List.getElem_toArray, List.getElem_cons_zero, List.getElem_cons_succ, List.setIfInBounds_toArray, List.set_cons_zero, List.set_cons_succ]
      refine tail_free (i := 9) (v := ?_) rfl (by kernel_rfl) (by kernel_rfl) (by kernel_rfl) (by kernel_rfl) (fun _ _ _ h => h) (Or.inl ⟨by kernel_rfl, ?_⟩) (fun _ => hF) ?_
      rotate_left
      · intro wh hSw
        go_simp
        try with_reducible rfl
      try simp only [Act.put, List.getElem_toArray, List.getElem_cons_zero, List.getElem_cons_succ, List.setIfInBounds_toArray, List.set_cons_zero, List.set_cons_succ]
      refine tail_take (i := 10) (v := ?_) rfl (by kernel_rfl) (by kernel_rfl) (by kernel_rfl) (by kernel_rfl) (fun _ _ _ h => h) (Or.inl ⟨by kernel_rfl, ?_⟩) hF ?_
      rotate_left
      · intro wh hSw
        have hcell := hSw.1
        go_simp
        try with_reducible rfl
      try simp only [Act.put, List.getElem_toArray, List.getElem_cons_zero, List.getElem_cons_succ, List.setIfInBounds_toArray, List.set_cons_zero, List.set_cons_succ]
      refine tail_free (i := 11) (v := ?_) rfl (by kernel_rfl) (by kernel_rfl) (by kernel_rfl) (by kernel_rfl) (fun _ _ _ h => h) (Or.inl ⟨by kernel_rfl, ?_⟩) (fun _ => hF) ?_
      rotate_left
      · intro wh hSw
        go_simp
        try with_reducible rfl
      try simp only [Act.put, List.getElem_toArray, List.getElem_cons_zero, List.getElem_cons_succ, List.setIfInBounds_toArray, List.set_cons_zero, List.set_cons_succ]
      refine tail_ready (rs := [12]) (by kernel_rfl) (by simp) (AllReadyT.cons rfl (fun K hK => ?_) AllReadyT.nil)
      clear hF
      go_simp
      obtain ⟨vb, hvb⟩ : ∃ vb, D.heap.size = vb := ⟨_, rfl⟩
      have K5 := hidd (K4.out.new 61 #[ptr b] hvb)
      rw [hvb]
      generalize D.alloc (.cells #[ptr b] 61) = D5 at K5 ⊢
      refine hK.out _ _ (s7 _ K5.out.pop) (fun hF => ?_)
      clear hK K
      try simp only [Act.put, List.getElem_toArray, List.getElem_cons_zero, List.getElem_cons_succ, List.setIfInBounds_toArray, List.set_cons_zero, List.set_cons_succ]
      refine tail_ready (rs := [13]) (by kernel_rfl) (by simp) (AllReadyT.cons rfl (fun K hK => ?_) AllReadyT.nil)
      clear hF
      go_simp
      refine (insert_any D5 (B + 1) v _ b vb ps K5.out.own hps K5.out.last (fun e => K5.out.away vb e (ids_x (x := (vb, 61, #[ptr b])) (List.mem_append_right _ (List.mem_singleton.2 rfl)))) (by have := K5.out.blk.lt; omega)).mono ?_
      rintro r D6 ⟨v6, rfl, o6, f6, m6⟩
      dsimp only
      obtain ⟨A6, c6, rfl⟩ := slice_of_own o6
      have I6 := hidd (And.intro o6 (And.intro f6 m6))
      have M6 := hidd (K5.out.map.fr f6 (fun e => K5.out.away _ e ids_m))
      have S6 := hidd (s7f _ _ K5.out.pop f6)
      have KQ := hidd (K5.out.pop.last.fr f6 (fun e => K5.out.pop.away q e (ids_x (x := (q, 24, bytesV x)) (List.mem_append_right _ (List.mem_singleton.2 rfl)))))
      clear o6 f6 m6
      refine hK.out _ _ S6.out (fun hF => ?_)
      clear hK K
      try simp only [Act.put, List.getElem_toArray, List.getElem_cons_zero, List.getElem_cons_succ, List.setIfInBounds_toArray, List.set_cons_zero, List.set_cons_succ]
      refine tail_ready (rs := [14]) (by kernel_rfl) (by simp) (AllReadyT.cons rfl (fun K hK => ?_) AllReadyT.nil)
      clear hF
      go_simp
      rw [run_entry M6.out K5.out.keys hx.out hno.out]
      simp only [Result.andThen_ok]
      have S7 := hidd (s7m D6 (.map (ms.map mkM ++ [newM x ck]).toArray (ck + 1)) S6.out KQ.out)
      have M7 := hidd (mid_map M6.out (.map (ms.map mkM ++ [newM x ck]).toArray (ck + 1)))
      refine hK.out _ _ S7.out (fun hF => ?_)
      clear hK K
      try simp only [Act.put, List.getElem_toArray, List.getElem_cons_zero, List.getElem_cons_succ, List.setIfInBounds_toArray, List.set_cons_zero, List.set_cons_succ]
      refine tail_free (i := 15) (v := ?_) rfl (by kernel_rfl) (by kernel_rfl) (by kernel_rfl) (by kernel_rfl) (fun _ _ _ h => h) (Or.inl ⟨by kernel_rfl, ?_⟩) (fun _ => hF) ?_
      rotate_left
      · intro wh hSw
        go_simp
        try with_reducible rfl
      try simp only [Act.put, List.getElem_toArray, List.getElem_cons_zero, List.getElem_cons_succ, List.setIfInBounds_toArray, List.set_cons_zero, List.set_cons_succ]
      refine tail_ready (rs := [16]) (by kernel_rfl) (by simp) (AllReadyT.cons rfl (fun K hK => ?_) AllReadyT.nil)
      clear hF
      go_simp
      try rw [show goInt (ck : Int) = .int .i64 ck from rfl]
      rw [run_entryStore M7.out K5.out.born]
      simp only [Result.andThen_ok]
      rw [setMap_mid]
      have S8 := hidd (s7m D6 (.map ((ms ++ [(x, b, ck)]).map mkM).toArray (ck + 1)) S6.out KQ.out)
      refine hK.out _ _ S8.out (fun hF => ?_)
      clear hK K
      try simp only [Act.put, List.getElem_toArray, List.getElem_cons_zero, List.getElem_cons_succ, List.setIfInBounds_toArray, List.set_cons_zero, List.set_cons_succ]
      refine tail_free (i := 17) (v := ?_) rfl (by kernel_rfl) (by kernel_rfl) (by kernel_rfl) (by kernel_rfl) (fun _ _ _ h => h) (Or.inl ⟨by kernel_rfl, ?_⟩) (fun _ => hF) ?_
      rotate_left
      · intro wh hSw
        go_simp
        try with_reducible rfl
      try simp only [Act.put, List.getElem_toArray, List.getElem_cons_zero, List.getElem_cons_succ, List.setIfInBounds_toArray, List.set_cons_zero, List.set_cons_succ]
      refine tail_free (i := 18) (v := ?_) rfl (by kernel_rfl) (by kernel_rfl) (by kernel_rfl) (by kernel_rfl) (fun _ _ _ h => h) (Or.inl ⟨by kernel_rfl, ?_⟩) (fun _ => hF) ?_
      rotate_left
      · intro wh hSw
        go_simp
        try with_reducible rfl
      try simp only [Act.put, List.getElem_toArray, List.getElem_cons_zero, List.getElem_cons_succ, List.setIfInBounds_toArray, List.set_cons_zero, List.set_cons_succ]
      refine tail_ready (rs := [19]) (by kernel_rfl) (by simp) (AllReadyT.last rfl (by kernel_rfl) (fun K hK => ?_) AllReadyT.nil)
      clear hF
      have c1 : (setMap D6 bm (ms ++ [(x, b, ck)]) (ck + 1)).cell? ⟨B, 0, none⟩ = some v := S8.out.1
      have z1 := (K5.out.blk.fr (made_fr I6.out.2.1 (ms ++ [(x, b, ck)]) (ck + 1)) (by rintro (e | e); exact K5.out.away _ e ids_B; exact nd_Bm K5.out.nd e)).frozen 0
      go_simp
      refine hK.out _ _ ?_
      clear hK K
      try simp only [Act.put, List.getElem_toArray, List.getElem_cons_zero, List.getElem_cons_succ, List.setIfInBounds_toArray, List.set_cons_zero, List.set_cons_succ]
      refine tail_done (by kernel_rfl) ?_ _
      have ff := made_fr (bm := bm) I6.out.2.1 (ms ++ [(x, b, ck)]) (ck + 1)
      have K9 := hidd ((K5.out.rowM (v' := .slice A6 (ps.length + 1) c6) (ps' := b :: ps) ff (setMap_is M6.out (ms ++ [(x, b, ck)]) (ck + 1)) (ownRow_fr I6.out.1 (setMap_fr D6 bm _ _) (fun k hk e => by
        rcases I6.out.2.2 k hk with e' | e'
        · exact K5.out.away k e' (by rw [e]; exact ids_m)
        · have := K5.out.map.lt; omega)) I6.out.2.2 (fun p hp => by
        rcases List.mem_cons.1 hp with rfl | hp
        · exact ⟨(_, newE x), by simp, rfl⟩
        · exact K5.out.pt p hp) (fun m hm => by
        rcases List.mem_append.1 hm with hm | hm
        · exact K5.out.keys m hm
        · rw [List.mem_singleton.1 hm]; exact hx.out) (fun m hm => by
        rcases List.mem_append.1 hm with hm | hm
        · exact Nat.lt_succ_of_lt (K5.out.born m hm)
        · rw [List.mem_singleton.1 hm]; exact Nat.lt_succ_self _)).pop.pop)
      clear ff K5 I6 S6 S7 S8 M6 M7 K4 s7 s7f s7m c1 z1
      go_wp2
      go_ret
      exact ⟨b, newE x, os1, rfl, .inr ⟨hf'.out, rfl, hrm.out⟩, bm, _, _, _, _, _, K9.out, G3.out.made (e := newE x) (ck := ck) fresh.out (fun o ho => hnx.out o ho) hlt1⟩
    · have hb : ((os.length : Int) == 32) = false := by simp; omega
      have hlt1 : os.length < 32 := by omega
      have hrm : Hid (os = room os) := by refine hidd ?_; rw [room, if_neg h32]
      have hnx := hnx0
      obtain ⟨os1, hos1⟩ : ∃ os1, os1 = os := ⟨_, rfl⟩
      have C3 : Hid (Ch w0 w2 B os1 (L ++ [(q, 24, bytesV x)])) := by rw [hos1]; exact hCC.out
      rw [← hos1] at hlt1 hnx
      obtain ⟨w3, hw3⟩ : ∃ w3, w3 = w2 := ⟨_, rfl⟩
      subst hw3
      have hrm : Hid (os1 = room os) := by refine hidd ?_; rw [hos1]; exact hrm.out
      clear k2 g2 K2 G2 hCC hml hpl
      obtain ⟨bm, v, ps, ms, ck, es, k3, g3⟩ := C3.out
      have l3 := hidd (ld24 k3.last hx.out)
      have G3 := hidd g3
      obtain ⟨b, hb⟩ : ∃ b, w3.heap.size = b := ⟨_, rfl⟩
      have K4 := hidd (k3.newE (newE_is hx.out) hb)
      have fresh := hidd (fun (o : En) (ho : o ∈ os1) => (show o.1 ≠ b from fun e => by have := (k3.ent o (g3.mem o ho)).lt; omega))
      have hno := hidd (fnd_none (i := 0) (fun (m : Mm) (hm : m ∈ ms) => (show m.1 ≠ x from fun e => by
        obtain ⟨a, b', n⟩ := m
        obtain ⟨y, hy, hya⟩ := (g3.keys a b').1 ⟨n, hm⟩
        exact hnx.out _ hy (hya.trans e))))
      have hps : ps.length ≤ 1000000 := by have h1 := g3.max; rw [← List.length_map (f := (·.1)), g3.row] at h1; omega
      have s7 := fun (U : World) (h : Lc w0 U B bm v ps ms ck (es ++ [(b, newE x)]) (L ++ [(q, 24, bytesV x)])) => (show U.cell? ⟨B, 0, none⟩ = some v ∧ U.cell? ⟨B, 1, none⟩ = some (.map (some bm)) ∧ (loadVar 24 ⟨q, 0, none⟩).run Try.prog U = .ok (.agg (bytesV x)) U from ⟨h.row0, h.map1, ld24 h.last hx.out⟩)
      have s7f := fun (U V : World) (h : Lc w0 U B bm v ps ms ck (es ++ [(b, newE x)]) (L ++ [(q, 24, bytesV x)])) (f : Fr (fun k => v.ownBlock = some k) U V) => (show V.cell? ⟨B, 0, none⟩ = some v ∧ V.cell? ⟨B, 1, none⟩ = some (.map (some bm)) ∧ (loadVar 24 ⟨q, 0, none⟩).run Try.prog V = .ok (.agg (bytesV x)) V from
        ⟨(h.blk.fr f (fun e => h.away _ e ids_B)).at_ (i := 0) rfl, (h.blk.fr f (fun e => h.away _ e ids_B)).at_ (i := 1) rfl, ld24 (h.last.fr f (fun e => h.away q e (ids_x (x := (q, 24, bytesV x)) (List.mem_append_right _ (List.mem_singleton.2 rfl))))) hx.out⟩)
      have hBm : B ≠ bm := nd_Bm K4.out.nd
      have hqm : q ≠ bm := fun e => nd_mx K4.out.nd (x := (q, 24, bytesV x)) (List.mem_append_right _ (List.mem_singleton.2 rfl)) e.symm
      have s7m := fun (U : World) (o : Obj) (h : U.cell? ⟨B, 0, none⟩ = some v ∧ U.cell? ⟨B, 1, none⟩ = some (.map (some bm)) ∧ (loadVar 24 ⟨q, 0, none⟩).run Try.prog U = .ok (.agg (bytesV x)) U) (hk : Blk U q 24 (bytesV x)) => (show ({ U with heap := U.heap.setIfInBounds bm o } : World).cell? ⟨B, 0, none⟩ = some v ∧ ({ U with heap := U.heap.setIfInBounds bm o } : World).cell? ⟨B, 1, none⟩ = some (.map (some bm)) ∧ (loadVar 24 ⟨q, 0, none⟩).run Try.prog { U with heap := U.heap.setIfInBounds bm o } = .ok (.agg (bytesV x)) { U with heap := U.heap.setIfInBounds bm o } from
        ⟨((mid_fr U bm o).cell (p := ⟨B, 0, none⟩) (World.block_lt_of_cell? U _ h.1) hBm).trans h.1, ((mid_fr U bm o).cell (p := ⟨B, 1, none⟩) (World.block_lt_of_cell? U _ h.2.1) hBm).trans h.2.1, ld24 (hk.fr (mid_fr U bm o) hqm) hx.out⟩)
      clear k3 g3 C3
      go_wp2_with (first
        | (with_reducible show wpList _ _ _ (⟨_, Op.load 24 _, _, _, _, _⟩ :: _) _ _; refine wpList_load_want (by kernel_rfl) 24 _ rfl _ rfl _ (by with_reducible exact l3.out) ?_)
        | (with_reducible show wpList _ _ _ (⟨_, Op.build 33 _, _, _, _, _⟩ :: _) _ _; refine wpList_build_want rfl 33 #[(0, .tmp 33)] rfl (encV (newE x)) (Eq.trans (b := Try.prog.built 33 [(0, .agg (bytesV x))]) (by kernel_rfl) (builtE hx.out)) ?_))
      generalize w3.alloc (.cells (encV (newE x)) 33) = w4 at K4 ⊢
      replace K4 := hidd K4.out.draw
      refine wp_region_tail (fun V => V.cell? ⟨B, 0, none⟩ = some v ∧ V.cell? ⟨B, 1, none⟩ = some (.map (some bm)) ∧ (loadVar 24 ⟨q, 0, none⟩).run Try.prog V = .ok (.agg (bytesV x)) V) 19 (by kernel_rfl) (s7 _ K4.out) (fun hF => ?_)
      generalize w4.drew = D at K4 hF ⊢
      refine tail_free (i := 0) (v := ?_) rfl (by kernel_rfl) (by kernel_rfl) (by kernel_rfl) (by kernel_rfl) (fun _ _ _ h => h) (Or.inl ⟨by kernel_rfl, ?_⟩) (fun _ => hF) ?_
      rotate_left
      · intro wh hSw
        go_simp
        try with_reducible rfl
      try simp only [Act.put, List.getElem_toArray, List.getElem_cons_zero, List.getElem_cons_succ, List.setIfInBounds_toArray, List.set_cons_zero, List.set_cons_succ]
      refine tail_free (i := 1) (v := ?_) rfl (by kernel_rfl) (by kernel_rfl) (by kernel_rfl) (by kernel_rfl) (fun _ _ _ h => h) (Or.inl ⟨by kernel_rfl, ?_⟩) (fun _ => hF) ?_
      rotate_left
      · intro wh hSw
        go_simp
        try with_reducible rfl
      try simp only [Act.put, List.getElem_toArray, List.getElem_cons_zero, List.getElem_cons_succ, List.setIfInBounds_toArray, List.set_cons_zero, List.set_cons_succ]
      refine tail_free (i := 2) (v := ?_) rfl (by kernel_rfl) (by kernel_rfl) (by kernel_rfl) (by kernel_rfl) (fun _ _ _ h => h) (Or.inl ⟨by kernel_rfl, ?_⟩) (fun _ => hF) ?_
      rotate_left
      · intro wh hSw
        go_simp
        try with_reducible rfl
      try simp only [Act.put, List.getElem_toArray, List.getElem_cons_zero, List.getElem_cons_succ, List.setIfInBounds_toArray, List.set_cons_zero, List.set_cons_succ]
      refine tail_take (i := 3) (v := ?_) rfl (by kernel_rfl) (by kernel_rfl) (by kernel_rfl) (by kernel_rfl) (fun _ _ _ h => h) (Or.inl ⟨by kernel_rfl, ?_⟩) hF ?_
      rotate_left
      · intro wh hSw
        have hcell := hSw.2.1
        go_simp
        try with_reducible rfl
      try simp only [Act.put, List.getElem_toArray, List.getElem_cons_zero, List.getElem_cons_succ, List.setIfInBounds_toArray, List.set_cons_zero, List.set_cons_succ]
      refine tail_take (i := 4) rfl (by kernel_rfl) (by kernel_rfl) (by kernel_rfl) (by kernel_rfl) (fun _ _ _ h => h) (yieldsIf_load_want (by kernel_rfl) 24 _ rfl _ rfl _ (fun wh hSw => hSw.2.2)) hF ?_
      try simp only [Act.put, List.getElem_toArray, List.getElem_cons_zero, List.getElem_cons_succ, List.setIfInBounds_toArray, List.set_cons_zero, List.set_cons_succ]
      refine tail_free (i := 5) (v := ?_) rfl (by kernel_rfl) (by kernel_rfl) (by kernel_rfl) (by kernel_rfl) (fun _ _ _ h => h) (Or.inl ⟨by kernel_rfl, ?_⟩) (fun _ => hF) ?_
      rotate_left
      · intro wh hSw
        go_simp
        try with_reducible rfl
      try simp only [Act.put, List.getElem_toArray, List.getElem_cons_zero, List.getElem_cons_succ, List.setIfInBounds_toArray, List.set_cons_zero, List.set_cons_succ]
      refine tail_free (i := 6) (v := ?_) rfl (by kernel_rfl) (by kernel_rfl) (by kernel_rfl) (by kernel_rfl) (fun _ _ _ h => h) (Or.inl ⟨by kernel_rfl, ?_⟩) (fun _ => hF) ?_
      rotate_left
      · intro wh hSw
        go_simp
        try with_reducible rfl
      try simp only [Act.put, List.getElem_toArray, List.getElem_cons_zero, List.getElem_cons_succ, List.setIfInBounds_toArray, List.set_cons_zero, List.set_cons_succ]
      refine tail_free (i := 7) (v := ?_) rfl (by kernel_rfl) (by kernel_rfl) (by kernel_rfl) (by kernel_rfl) (fun _ _ _ h => h) (Or.inl ⟨by kernel_rfl, ?_⟩) (fun _ => hF) ?_
      rotate_left
      · intro wh hSw
        go_simp
        try with_reducible rfl
      try simp only [Act.put, List.getElem_toArray, List.getElem_cons_zero, List.getElem_cons_succ, List.setIfInBounds_toArray, List.set_cons_zero, List.set_cons_succ]
      refine tail_free (i := 8) (v := ?_) rfl (by kernel_rfl) (by kernel_rfl) (by kernel_rfl) (by kernel_rfl) (fun _ _ _ h => h) (Or.inl ⟨by kernel_rfl, ?_⟩) (fun _ => hF) ?_
      rotate_left
      · intro wh hSw
        go_simp
        try with_reducible rfl
      try simp only [Act.put, List.getElem_toArray, List.getElem_cons_zero, List.getElem_cons_succ, List.setIfInBounds_toArray, List.set_cons_zero, List.set_cons_succ]
      refine tail_free (i := 9) (v := ?_) rfl (by kernel_rfl) (by kernel_rfl) (by kernel_rfl) (by kernel_rfl) (fun _ _ _ h => h) (Or.inl ⟨by kernel_rfl, ?_⟩) (fun _ => hF) ?_
      rotate_left
      · intro wh hSw
        go_simp
        try with_reducible rfl
      try simp only [Act.put, List.getElem_toArray, List.getElem_cons_zero, List.getElem_cons_succ, List.setIfInBounds_toArray, List.set_cons_zero, List.set_cons_succ]
      refine tail_take (i := 10) (v := ?_) rfl (by kernel_rfl) (by kernel_rfl) (by kernel_rfl) (by kernel_rfl) (fun _ _ _ h => h) (Or.inl ⟨by kernel_rfl, ?_⟩) hF ?_
      rotate_left
      · intro wh hSw
        have hcell := hSw.1
        go_simp
        try with_reducible rfl
      try simp only [Act.put, List.getElem_toArray, List.getElem_cons_zero, List.getElem_cons_succ, List.setIfInBounds_toArray, List.set_cons_zero, List.set_cons_succ]
      refine tail_free (i := 11) (v := ?_) rfl (by kernel_rfl) (by kernel_rfl) (by kernel_rfl) (by kernel_rfl) (fun _ _ _ h => h) (Or.inl ⟨by kernel_rfl, ?_⟩) (fun _ => hF) ?_
      rotate_left
      · intro wh hSw
        go_simp
        try with_reducible rfl
      try simp only [Act.put, List.getElem_toArray, List.getElem_cons_zero, List.getElem_cons_succ, List.setIfInBounds_toArray, List.set_cons_zero, List.set_cons_succ]
      refine tail_ready (rs := [12]) (by kernel_rfl) (by simp) (AllReadyT.cons rfl (fun K hK => ?_) AllReadyT.nil)
      clear hF
      go_simp
      obtain ⟨vb, hvb⟩ : ∃ vb, D.heap.size = vb := ⟨_, rfl⟩
      have K5 := hidd (K4.out.new 61 #[ptr b] hvb)
      rw [hvb]
      generalize D.alloc (.cells #[ptr b] 61) = D5 at K5 ⊢
      refine hK.out _ _ (s7 _ K5.out.pop) (fun hF => ?_)
      clear hK K
      try simp only [Act.put, List.getElem_toArray, List.getElem_cons_zero, List.getElem_cons_succ, List.setIfInBounds_toArray, List.set_cons_zero, List.set_cons_succ]
      refine tail_ready (rs := [13]) (by kernel_rfl) (by simp) (AllReadyT.cons rfl (fun K hK => ?_) AllReadyT.nil)
      clear hF
      go_simp
      refine (insert_any D5 (B + 1) v _ b vb ps K5.out.own hps K5.out.last (fun e => K5.out.away vb e (ids_x (x := (vb, 61, #[ptr b])) (List.mem_append_right _ (List.mem_singleton.2 rfl)))) (by have := K5.out.blk.lt; omega)).mono ?_
      rintro r D6 ⟨v6, rfl, o6, f6, m6⟩
      dsimp only
      obtain ⟨A6, c6, rfl⟩ := slice_of_own o6
      have I6 := hidd (And.intro o6 (And.intro f6 m6))
      have M6 := hidd (K5.out.map.fr f6 (fun e => K5.out.away _ e ids_m))
      have S6 := hidd (s7f _ _ K5.out.pop f6)
      have KQ := hidd (K5.out.pop.last.fr f6 (fun e => K5.out.pop.away q e (ids_x (x := (q, 24, bytesV x)) (List.mem_append_right _ (List.mem_singleton.2 rfl)))))
      clear o6 f6 m6
      refine hK.out _ _ S6.out (fun hF => ?_)
      clear hK K
      try simp only [Act.put, List.getElem_toArray, List.getElem_cons_zero, List.getElem_cons_succ, List.setIfInBounds_toArray, List.set_cons_zero, List.set_cons_succ]
      refine tail_ready (rs := [14]) (by kernel_rfl) (by simp) (AllReadyT.cons rfl (fun K hK => ?_) AllReadyT.nil)
      clear hF
      go_simp
      rw [run_entry M6.out K5.out.keys hx.out hno.out]
      simp only [Result.andThen_ok]
      have S7 := hidd (s7m D6 (.map (ms.map mkM ++ [newM x ck]).toArray (ck + 1)) S6.out KQ.out)
      have M7 := hidd (mid_map M6.out (.map (ms.map mkM ++ [newM x ck]).toArray (ck + 1)))
      refine hK.out _ _ S7.out (fun hF => ?_)
      clear hK K
      try simp only [Act.put, List.getElem_toArray, List.getElem_cons_zero, List.getElem_cons_succ, List.setIfInBounds_toArray, List.set_cons_zero, List.set_cons_succ]
      refine tail_free (i := 15) (v := ?_) rfl (by kernel_rfl) (by kernel_rfl) (by kernel_rfl) (by kernel_rfl) (fun _ _ _ h => h) (Or.inl ⟨by kernel_rfl, ?_⟩) (fun _ => hF) ?_
      rotate_left
      · intro wh hSw
        go_simp
        try with_reducible rfl
      try simp only [Act.put, List.getElem_toArray, List.getElem_cons_zero, List.getElem_cons_succ, List.setIfInBounds_toArray, List.set_cons_zero, List.set_cons_succ]
      refine tail_ready (rs := [16]) (by kernel_rfl) (by simp) (AllReadyT.cons rfl (fun K hK => ?_) AllReadyT.nil)
      clear hF
      go_simp
      try rw [show goInt (ck : Int) = .int .i64 ck from rfl]
      rw [run_entryStore M7.out K5.out.born]
      simp only [Result.andThen_ok]
      rw [setMap_mid]
      have S8 := hidd (s7m D6 (.map ((ms ++ [(x, b, ck)]).map mkM).toArray (ck + 1)) S6.out KQ.out)
      refine hK.out _ _ S8.out (fun hF => ?_)
      clear hK K
      try simp only [Act.put, List.getElem_toArray, List.getElem_cons_zero, List.getElem_cons_succ, List.setIfInBounds_toArray, List.set_cons_zero, List.set_cons_succ]
      refine tail_free (i := 17) (v := ?_) rfl (by kernel_rfl) (by kernel_rfl) (by kernel_rfl) (by kernel_rfl) (fun _ _ _ h => h) (Or.inl ⟨by kernel_rfl, ?_⟩) (fun _ => hF) ?_
      rotate_left
      · intro wh hSw
        go_simp
        try with_reducible rfl
      try simp only [Act.put, List.getElem_toArray, List.getElem_cons_zero, List.getElem_cons_succ, List.setIfInBounds_toArray, List.set_cons_zero, List.set_cons_succ]
      refine tail_free (i := 18) (v := ?_) rfl (by kernel_rfl) (by kernel_rfl) (by kernel_rfl) (by kernel_rfl) (fun _ _ _ h => h) (Or.inl ⟨by kernel_rfl, ?_⟩) (fun _ => hF) ?_
      rotate_left
      · intro wh hSw
        go_simp
        try with_reducible rfl
      try simp only [Act.put, List.getElem_toArray, List.getElem_cons_zero, List.getElem_cons_succ, List.setIfInBounds_toArray, List.set_cons_zero, List.set_cons_succ]
      refine tail_ready (rs := [19]) (by kernel_rfl) (by simp) (AllReadyT.last rfl (by kernel_rfl) (fun K hK => ?_) AllReadyT.nil)
      clear hF
      have c1 : (setMap D6 bm (ms ++ [(x, b, ck)]) (ck + 1)).cell? ⟨B, 0, none⟩ = some v := S8.out.1
      have z1 := (K5.out.blk.fr (made_fr I6.out.2.1 (ms ++ [(x, b, ck)]) (ck + 1)) (by rintro (e | e); exact K5.out.away _ e ids_B; exact nd_Bm K5.out.nd e)).frozen 0
      go_simp
      refine hK.out _ _ ?_
      clear hK K
      try simp only [Act.put, List.getElem_toArray, List.getElem_cons_zero, List.getElem_cons_succ, List.setIfInBounds_toArray, List.set_cons_zero, List.set_cons_succ]
      refine tail_done (by kernel_rfl) ?_ _
      have ff := made_fr (bm := bm) I6.out.2.1 (ms ++ [(x, b, ck)]) (ck + 1)
      have K9 := hidd ((K5.out.rowM (v' := .slice A6 (ps.length + 1) c6) (ps' := b :: ps) ff (setMap_is M6.out (ms ++ [(x, b, ck)]) (ck + 1)) (ownRow_fr I6.out.1 (setMap_fr D6 bm _ _) (fun k hk e => by
        rcases I6.out.2.2 k hk with e' | e'
        · exact K5.out.away k e' (by rw [e]; exact ids_m)
        · have := K5.out.map.lt; omega)) I6.out.2.2 (fun p hp => by
        rcases List.mem_cons.1 hp with rfl | hp
        · exact ⟨(_, newE x), by simp, rfl⟩
        · exact K5.out.pt p hp) (fun m hm => by
        rcases List.mem_append.1 hm with hm | hm
        · exact K5.out.keys m hm
        · rw [List.mem_singleton.1 hm]; exact hx.out) (fun m hm => by
        rcases List.mem_append.1 hm with hm | hm
        · exact Nat.lt_succ_of_lt (K5.out.born m hm)
        · rw [List.mem_singleton.1 hm]; exact Nat.lt_succ_self _)).pop.pop)
      clear ff K5 I6 S6 S7 S8 M6 M7 K4 s7 s7f s7m c1 z1
      go_wp2
      go_ret
      exact ⟨b, newE x, os1, rfl, .inr ⟨hf'.out, rfl, hrm.out⟩, bm, _, _, _, _, _, K9.out, G3.out.made (e := newE x) (ck := ck) fresh.out (fun o ho => hnx.out o ho) hlt1⟩
end Go.Proofs.Ytpjjcihhmhccfaa
