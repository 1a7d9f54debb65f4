/- A cache: is it there; an entry taken out of the order, touched, dropped; each function walked once. No condition. -/
import Derived.Test.YtpjjcihhmhccfaaCh
import Derived.Deep.RegionHeld3
import Derived.Laws.Cover3
namespace Go.Proofs.Ytpjjcihhmhccfaa
open Go.ChangeShapes Go.WideShapes Go.ChangeAt Go.RowKit Go.Deep
set_option linter.unusedVariables false
set_option linter.unusedSimpArgs false

theorem ld24 {W : World} {b : Nat} {x : List Int} (h : Blk W b 24 (bytesV x)) (hx : IsAddr x) : (loadVar 24 ⟨b, 0, none⟩).run Try.prog W = .ok (.agg (bytesV x)) W := h.load Try.underlying24 rfl (size_a hx)
theorem ldDst {W : World} {b : Nat} {e : E} (h : Blk W b 33 (encV e)) (he : IsE e) : (loadVar 24 ⟨b, 0, none⟩).run Try.prog W = .ok (.agg (bytesV e.1)) W := h.part (at_dst he) Try.underlying24 rfl (by rw [he.a.len]; exact info24)
theorem ldNext {W : World} {b : Nat} {e : E} (h : Blk W b 33 (encV e)) (he : IsE e) : (loadVar 24 ⟨b, 16, none⟩).run Try.prog W = .ok (.agg (bytesV e.2.1)) W := h.part (at_next he) Try.underlying24 rfl (by rw [he.n.len]; exact info24)
theorem neqMap (m : Option Nat) (W : World) : (binOp .neq 56 (.map m) (.map none)).run Try.prog W = .ok (.bool (!m.isNone)) W := run_neq_map_nil W 56 24 61 m Try.underlying56
/-- A cache that is not there, or that no call made. -/
def Not (w : World) (v : Value) : Prop := v = .pointer none ∨ ∃ B, v = ptr B ∧ w.cell? ⟨B, 1, none⟩ = some (.map none)
theorem there_not (w : World) (v : Value) (h : Not w v) : Calls Try.prog 24 #[v] w fun e w' => e = .returned (.bool false) ∧ w = w' := by
  rcases h with rfl | ⟨B, rfl, hc⟩
  · go_enter Try.func24, Try.ntmps24
    go_wp2
    go_ret
    exact ⟨rfl, rfl⟩
  · have hn := neqMap
    go_enter Try.func24, Try.ntmps24
    go_wp2
    go_ret
    exact ⟨rfl, rfl⟩
theorem there_yes (w : World) (B bm : Nat) (h : w.cell? ⟨B, 1, none⟩ = some (.map (some bm))) : Calls Try.prog 24 #[ptr B] w fun e w' => e = .returned (.bool true) ∧ w = w' := by
  have hn := neqMap
  go_enter Try.func24, Try.ntmps24
  go_wp2
  go_ret
  exact ⟨rfl, rfl⟩
section
variable {w0 W : World} {B bm ck : Nat} {v : Value} {ps : List Nat} {ms : List Mm} {es : List (Nat × E)} {L : List Bx}
theorem Lc.row0 (h : Lc w0 W B bm v ps ms ck es L) : W.cell? ⟨B, 0, none⟩ = some v := h.blk.at_ rfl
theorem Lc.map1 (h : Lc w0 W B bm v ps ms ck es L) : W.cell? ⟨B, 1, none⟩ = some (.map (some bm)) := h.blk.at_ rfl
theorem Lc.there (h : Lc w0 W B bm v ps ms ck es L) {x : Nat} (hx : ∃ e ∈ es, e.1 = x) : There W x := by
  obtain ⟨e, he, rfl⟩ := hx
  exact ⟨_, _, h.ent e he⟩
end
set_option maxRecDepth 100000 in
set_option maxHeartbeats 1000000 in
theorem out_any {w0 : World} (w : World) {B bm ck : Nat} {v : Value} {ps : List Nat} {ms : List Mm} {es : List (Nat × E)} {L : List Bx} (h : Lc w0 w B bm v ps ms ck es L) (x : Nat) (hx : ∃ e ∈ es, e.1 = x) :
    Calls Try.prog 38 #[ptr B, ptr x] w fun e w' => (∃ r, e = .returned r) ∧ ∃ v', Lc w0 w' B bm v' (leftP x ps) ms ck es L := by
  obtain ⟨q, hq⟩ : ∃ q, w.heap.size = q := ⟨_, rfl⟩
  have K1 := hidd (h.new 61 #[ptr x] hq)
  have hx' := hidd hx
  clear h hx
  go_enter Try.func38, Try.ntmps38
  have c0 := K1.out.row0
  go_wp2_with fail
  generalize w.alloc (.cells #[ptr x] 61) = V at K1 c0 ⊢
  have hq1 : q ∈ ids B bm es (L ++ [(q, 61, #[ptr x])]) := ids_x (x := (q, 61, #[ptr x])) (List.mem_append_right _ (List.mem_singleton.2 rfl))
  refine (dropP_any V (B + 1) v ps.length q x ps K1.out.own K1.out.last (K1.out.there hx'.out) (fun e he => K1.out.there (K1.out.pt e he)) (fun e => K1.out.away q e hq1) (fun e => ?_) (fun p hp e => ?_)).mono ?_
  · obtain ⟨y, hy, rfl⟩ := hx'.out
    exact K1.out.away _ e (ids_e hy)
  · obtain ⟨y, hy, rfl⟩ := K1.out.pt p hp
    exact K1.out.away _ e (ids_e hy)
  rintro e V2 ⟨v2, rfl, o2, f2, m2⟩
  obtain ⟨A2, c2, rfl⟩ := slice_of_own o2
  have hB2 := K1.out.blk.fr f2 (fun e => K1.out.away _ e ids_B)
  have c1 := hB2.at_ (i := 0) rfl
  have z1 := hB2.frozen 0
  have K2 := hidd (K1.out.row f2 o2 (fun k hk => .inl (m2 k hk)) (fun p hp => K1.out.pt p ((List.mem_filter.1 hp).1)))
  clear K1 o2 f2 m2 hB2 c0
  go_wp2
  go_end0
  exact ⟨⟨_, rfl⟩, _, K2.out.pop⟩

/-- A delete, of which it is known what it does: as a step. -/
theorem step_delete {P : Program} {W : World} {ops : Array Oper} {o : Oper} {a : Act} {K : Act → World → Prop} {Q : Exit → Act → World → Prop} {X : Prop} (hgd : o.guard = none) (m x : Operand) (t t' : TypeId)
    (ho : o.op = .call { callee := .builtin .delete, args := #[m, x], argTypes := #[t, t'] }) (v u : Value) (hm : a.eval m = v) (hx : a.eval x = u) {r : Value} {V : World}
    (hr : (Builtin.delete_ #[t, t'] o.type #[v, u]).run P W = .ok r V) (h : K (a.put o.dst r) V) : if Region.wanted o (yielded ops a.tmps) = true then Oper.wp P o a W K Q else X := by
  rw [if_pos (by simp [Region.wanted, hgd])]
  unfold Oper.wp execOp
  simp only [ho, resolve, invoke, builtin, Sem.run_bind, Sem.run_pure, Result.andThen_ok, List.map_toArray, List.map_cons, List.map_nil, hm, hx, hr]
  exact h
theorem dropM_sub {x : List Int} {ms : List Mm} {m : Mm} (h : m ∈ dropM x ms) : m ∈ ms := by
  unfold dropM at h
  split at h
  · exact List.mem_of_mem_eraseIdx h
  · exact h
set_option maxRecDepth 100000 in
set_option maxHeartbeats 1000000 in
theorem dropL_any {w0 : World} (w : World) {B bm ck : Nat} {v : Value} {ps : List Nat} {ms : List Mm} {es : List (Nat × E)} {L : List Bx} (h : Lc w0 w B bm v ps ms ck es L) (b : Nat) (e : E) (hb : (b, e) ∈ es) :
    Calls Try.prog 35 #[ptr B, ptr b] w fun r w' => (∃ z, r = .returned z) ∧ ∃ v', Lc w0 w' B bm v' (leftP b ps) (dropM e.1 ms) ck es L := by
  have K1 := hidd h.draw
  have he := hidd (h.ok _ hb)
  have S1 : Hid (w.drew.cell? ⟨B, 1, none⟩ = some (.map (some bm)) ∧ (loadVar 24 ⟨b, 0, none⟩).run Try.prog w.drew = .ok (.agg (bytesV e.1)) w.drew) := ⟨h.draw.map1, ldDst (h.draw.ent _ hb) (h.ok _ hb)⟩
  clear h
  go_enter Try.func35, Try.ntmps35
  go_wp2_with fail
  refine wp_region_tail (fun V => V.cell? ⟨B, 1, none⟩ = some (.map (some bm)) ∧ (loadVar 24 ⟨b, 0, none⟩).run Try.prog V = .ok (.agg (bytesV e.1)) V) 8 (by kernel_rfl) S1.out (fun hF => ?_)
  generalize w.drew = D at S1 K1 hF ⊢
  refine tail_free (i := 0) (v := ?_) rfl (by kernel_rfl) (by kernel_rfl) (by kernel_rfl) (by kernel_rfl) (fun _ _ _ h => h) (Or.inl ⟨by kernel_rfl, ?_⟩) (fun _ => hF) ?_
  rotate_left
  · intro wh hSw
    go_simp
    try with_reducible rfl
  try simp only [Act.put, List.getElem_toArray, List.getElem_cons_zero, List.getElem_cons_succ, List.setIfInBounds_toArray, List.set_cons_zero, List.set_cons_succ]
  refine tail_free (i := 1) (v := ?_) rfl (by kernel_rfl) (by kernel_rfl) (by kernel_rfl) (by kernel_rfl) (fun _ _ _ h => h) (Or.inl ⟨by kernel_rfl, ?_⟩) (fun _ => hF) ?_
  rotate_left
  · intro wh hSw
    go_simp
    try with_reducible rfl
  try simp only [Act.put, List.getElem_toArray, List.getElem_cons_zero, List.getElem_cons_succ, List.setIfInBounds_toArray, List.set_cons_zero, List.set_cons_succ]
  refine tail_free (i := 2) (v := ?_) rfl (by kernel_rfl) (by kernel_rfl) (by kernel_rfl) (by kernel_rfl) (fun _ _ _ h => h) (Or.inl ⟨by kernel_rfl, ?_⟩) (fun _ => hF) ?_
  rotate_left
  · intro wh hSw
    go_simp
    try with_reducible rfl
  try simp only [Act.put, List.getElem_toArray, List.getElem_cons_zero, List.getElem_cons_succ, List.setIfInBounds_toArray, List.set_cons_zero, List.set_cons_succ]
  refine tail_take (i := 3) (v := ?_) rfl (by kernel_rfl) (by kernel_rfl) (by kernel_rfl) (by kernel_rfl) (fun _ _ _ h => h) (Or.inl ⟨by kernel_rfl, ?_⟩) hF ?_
  rotate_left
  · intro wh hSw
    have hcell := hSw.1
    go_simp
    try with_reducible rfl
  try simp only [Act.put, List.getElem_toArray, List.getElem_cons_zero, List.getElem_cons_succ, List.setIfInBounds_toArray, List.set_cons_zero, List.set_cons_succ]
  refine tail_free (i := 4) (v := ?_) rfl (by kernel_rfl) (by kernel_rfl) (by kernel_rfl) (by kernel_rfl) (fun _ _ _ h => h) (Or.inl ⟨by kernel_rfl, ?_⟩) (fun _ => hF) ?_
  rotate_left
  · intro wh hSw
    go_simp
    try with_reducible rfl
  try simp only [Act.put, List.getElem_toArray, List.getElem_cons_zero, List.getElem_cons_succ, List.setIfInBounds_toArray, List.set_cons_zero, List.set_cons_succ]
  refine tail_free (i := 5) (v := ?_) rfl (by kernel_rfl) (by kernel_rfl) (by kernel_rfl) (by kernel_rfl) (fun _ _ _ h => h) (Or.inl ⟨by kernel_rfl, ?_⟩) (fun _ => hF) ?_
  rotate_left
  · intro wh hSw
    go_simp
    try with_reducible rfl
  try simp only [Act.put, List.getElem_toArray, List.getElem_cons_zero, List.getElem_cons_succ, List.setIfInBounds_toArray, List.set_cons_zero, List.set_cons_succ]
  refine tail_free (i := 6) (v := ?_) rfl (by kernel_rfl) (by kernel_rfl) (by kernel_rfl) (by kernel_rfl) (fun _ _ _ h => h) (Or.inl ⟨by kernel_rfl, ?_⟩) (fun _ => hF) ?_
  rotate_left
  · intro wh hSw
    go_simp
    try with_reducible rfl
  try simp only [Act.put, List.getElem_toArray, List.getElem_cons_zero, List.getElem_cons_succ, List.setIfInBounds_toArray, List.set_cons_zero, List.set_cons_succ]
  refine tail_take (i := 7) rfl (by kernel_rfl) (by kernel_rfl) (by kernel_rfl) (by kernel_rfl) (fun _ _ _ h => h) (yieldsIf_load_want (by kernel_rfl) 24 _ rfl _ rfl _ (fun wh hSw => hSw.2)) hF ?_
  try simp only [Act.put, List.getElem_toArray, List.getElem_cons_zero, List.getElem_cons_succ, List.setIfInBounds_toArray, List.set_cons_zero, List.set_cons_succ]
  refine tail_ready (rs := [8]) (by kernel_rfl) (by simp) (AllReadyT.last rfl (by kernel_rfl) (fun K hK => ?_) AllReadyT.nil)
  clear hF
  refine step_delete rfl (.tmp 7) (.tmp 11) 56 24 rfl _ _ rfl rfl (run_delete K1.out.map K1.out.keys he.out.a _) ?_
  refine hK.out _ _ ?_
  clear hK K
  try simp only [Act.put, List.getElem_toArray, List.getElem_cons_zero, List.getElem_cons_succ, List.setIfInBounds_toArray, List.set_cons_zero, List.set_cons_succ]
  refine tail_done (by kernel_rfl) ?_ _
  have K2 := hidd (K1.out.mapped (ms' := dropM e.1 ms) (ck' := ck) (fun m hm => K1.out.keys m (dropM_sub hm)) (fun m hm => K1.out.born m (dropM_sub hm)))
  generalize setMap D bm (dropM e.1 ms) ck = W2 at K2 ⊢
  clear K1 S1
  go_wp2_with fail
  refine (out_any W2 K2.out b ⟨_, hb, rfl⟩).mono ?_
  rintro r W3 ⟨⟨z, rfl⟩, v3, k3⟩
  have K3 := hidd k3
  clear k3 K2
  go_wp2
  go_end0
  exact ⟨⟨_, rfl⟩, v3, K3.out⟩
end Go.Proofs.Ytpjjcihhmhccfaa
