/- A cache: time goes on, a way is forgotten; each function walked once. No condition. -/
import Derived.Test.YtpjjcihhmhccfaaLook
namespace Go.Proofs.Ytpjjcihhmhccfaa
open Go.ChangeShapes Go.WideShapes Go.ChangeAt Go.RowKit Go.Deep
set_option linter.unusedVariables false
set_option linter.unusedSimpArgs false

/-- Each for which it holds is turned, and none if it tells nothing then. -/
def visO (c : E → Bool) (t : E → E) (os : List En) : List En := os.filterMap fun o => if c o.2 then (if bareE (t o.2) then none else some (o.1, t o.2)) else some o
section
variable {c : E → Bool} {t : E → E} {os : List En} {j b : Nat} {e : E}
theorem vis_ids {o : En} (h : o ∈ visO c t os) : ∃ p ∈ os, p.1 = o.1 := by
  rw [visO, List.mem_filterMap] at h
  obtain ⟨p, hp, hq⟩ := h
  split at hq
  · split at hq
    · cases hq
    · injection hq with hq; exact ⟨p, hp, by rw [← hq]⟩
  · injection hq with hq; exact ⟨p, hp, by rw [← hq]⟩
theorem vis_snoc (h : os[j]? = some (b, e)) : visO c t (os.take (j + 1)) = visO c t (os.take j) ++ if c e then (if bareE (t e) then [] else [(b, t e)]) else [(b, e)] := by
  rw [visO, List.take_add_one, h, List.filterMap_append]
  cases hc : c e with
  | false => simp [hc, visO]
  | true => cases hb : bareE (t e) <;> simp [hc, hb, visO]
theorem drop_cons (h : os[j]? = some (b, e)) : os.drop j = (b, e) :: os.drop (j + 1) := by
  obtain ⟨hl, he⟩ := List.getElem?_eq_some_iff.1 h
  rw [List.drop_eq_getElem_cons hl, he]
theorem vis_ne (hn : os.Pairwise fun a b => a.1 ≠ b.1) (h : os[j]? = some (b, e)) : (∀ o ∈ visO c t (os.take j), o.1 ≠ b) ∧ ∀ o ∈ os.drop (j + 1), o.1 ≠ b := by
  have hs := hn
  rw [← List.take_append_drop j os, drop_cons h, List.pairwise_append] at hs
  refine ⟨fun o ho e' => ?_, fun o ho e' => (List.pairwise_cons.1 hs.2.1).1 o ho e'.symm⟩
  obtain ⟨p, hp, hp1⟩ := vis_ids ho
  exact hs.2.2 p hp (b, e) (by simp) (hp1.trans e')
theorem upd_mid {P S : List En} {x : E} (h1 : ∀ o ∈ P, o.1 ≠ b) (h2 : ∀ o ∈ S, o.1 ≠ b) : upd b x (P ++ (b, e) :: S) = P ++ (b, x) :: S := by
  rw [show upd b x (P ++ (b, e) :: S) = upd b x P ++ ((if (b, e).1 = b then (b, x) else (b, e)) :: upd b x S) from by simp [upd], upd_none h1, upd_none h2, if_pos rfl]
theorem out_mid {P S : List En} {x : E} (h1 : ∀ o ∈ P, o.1 ≠ b) (h2 : ∀ o ∈ S, o.1 ≠ b) : outO b (P ++ (b, x) :: S) = P ++ S := by
  rw [outO, List.filter_append, List.filter_cons_of_neg (by simp), List.filter_eq_self.2 (fun o ho => by simpa using h1 o ho), List.filter_eq_self.2 (fun o ho => by simpa using h2 o ho)]
theorem vis_step (hn : os.Pairwise fun a b => a.1 ≠ b.1) (h : os[j]? = some (b, e)) (hc : c e = true) :
    bareO b (t e) (upd b (t e) (visO c t (os.take j) ++ os.drop j)) = visO c t (os.take (j + 1)) ++ os.drop (j + 1) := by
  obtain ⟨h1, h2⟩ := vis_ne (c := c) (t := t) hn h
  rw [drop_cons h, upd_mid h1 h2, vis_snoc h, hc, if_pos rfl, bareO]
  cases hb : bareE (t e) with
  | true => rw [if_pos rfl, if_pos rfl, out_mid h1 h2, List.append_nil]
  | false => rw [if_neg (by simp), if_neg (by simp), List.append_assoc]; rfl
theorem vis_skip (h : os[j]? = some (b, e)) (hc : c e = false) : visO c t (os.take j) ++ os.drop j = visO c t (os.take (j + 1)) ++ os.drop (j + 1) := by
  rw [drop_cons h, vis_snoc h, hc, if_neg (by simp), List.append_assoc]; rfl
theorem vis_mem (h : os[j]? = some (b, e)) : (b, e) ∈ visO c t (os.take j) ++ os.drop j := by rw [drop_cons h]; simp
end
/-- A struct built, under a guard that says yes. -/
theorem wpList_build_wantG {P : Program} {W : World} {ops : Array Oper} {rest : List Oper} {o : Oper} {a : Act} {Q : Exit → Act → World → Prop} (hw : Region.wanted o (yielded ops a.tmps) = true) (t : TypeId) (parts : Array (Nat × Operand)) (ho : o.op = .build t parts) (cells : Array Value)
    (hf : P.built t (parts.map fun (i, x) => (i, a.eval x)).toList = some cells)
    (h : wpList P ops Q rest (a.put o.dst (.agg cells)) W) : wpList P ops Q (o :: rest) a W :=
  wpList_step fun K hK => by
    rw [if_pos hw]
    exact wp_build t parts ho (by rw [hf]; rfl) (by rw [hf]; exact hK _ _ h)
/-- A block that was made since is a box. -/
theorem Ch.add {w0 w W : World} {B : Nat} {os : List En} {L : List Bx} (h : Ch w0 w B os L) (hb : Below w.heap.size w W) {g : Nat} {t : TypeId} {c : Array Value} (hg : w.heap.size ≤ g) (hk : Blk W g t c) : Ch w0 W B os (L ++ [(g, t, c)]) := by
  obtain ⟨bm, v, ps, ms, ck, es, h1, h2⟩ := h
  have hn : g ∉ ids B bm es L := fun hm => by have := h1.lt hm; omega
  have hids : ids B bm es (L ++ [(g, t, c)]) = ids B bm es L ++ [g] := by simp [ids]
  have h3 := h1.call hb
  refine ⟨bm, v, ps, ms, ck, es, ⟨h3.blk, h3.own, h3.map, h3.ent, fun x hx => ?_, ?_, fun k hk => ?_, h3.lo, h3.keys, h3.born, h3.ok, h3.pt, h3.bel⟩, h2⟩
  · rcases List.mem_append.1 hx with hx | hx
    · exact h3.box x hx
    · rw [List.mem_singleton.1 hx]; exact hk
  · rw [hids, List.nodup_append]
    exact ⟨h1.nd, by simp, fun a ha b hb e => by rw [List.mem_singleton] at hb; subst hb; subst e; exact hn ha⟩
  · rw [hids, List.mem_append, List.mem_singleton]
    rintro (e | e)
    · exact h1.away k hk e
    · have := (h1.own.lt k hk).2; omega
/-- All entries' pointers, as a box. -/
theorem all_box {w0 w W : World} {B g n c : Nat} {os : List En} {L : List Bx} (h : Ch w0 w B os L) (hb : Below w.heap.size w W) (ho : W.ownsRow w.heap.size 61 1 (.slice (some ⟨g, 0, none⟩) n c) n (flatP (os.map (·.1)))) (hl : os.length = n) :
    ∃ cur, Ch w0 W B os (L ++ [(g, 61, cur)]) ∧ ∀ (j : Nat) (o : En), os[j]? = some o → cur[j]? = some (ptr o.1) := by
  obtain ⟨cur, hg, hbg, _, _, _, ht⟩ := own_blk ho
  refine ⟨cur, h.add hb hbg hg, fun j o hj => ?_⟩
  have := row_ptr ho hl hj
  rw [hg.cell] at this
  exact this

def dueE (now : Int) (e : E) : Bool := decide (0 < e.2.2.1) && decide (e.2.2.2 ≤ now)
def overE (e : E) : E := (e.1, e.2.1, 0, 0)
theorem overE_is {e : E} (h : IsE e) : IsE (overE e) := ⟨h.a, h.n, (by decide : (0 : Int) ≤ 0 ∧ (0 : Int) ≤ 4294967295), (by decide : (0 : Int) ≤ 0 ∧ (0 : Int) ≤ 18446744073709551615)⟩
theorem tick_not (w : World) (v a : Value) (h : Not w v) : Calls Try.prog 11 #[v, a] w fun e w' => (∃ r, e = .returned r) ∧ w = w' := by
  have hT := hidd (there_not w v h)
  clear h
  go_enter Try.func11, Try.ntmps11
  go_wp2_with (go_at_call 24; refine Calls.mono hT.out ?_; rintro e w2 ⟨rfl, rfl⟩)
  exact bodyPost_ret (results_none rfl _ _ _) rfl ⟨⟨_, rfl⟩, rfl⟩
set_option maxRecDepth 100000 in
set_option maxHeartbeats 4000000 in
theorem tick_any {w0 : World} (w : World) {B : Nat} {os : List En} {L : List Bx} (h : Ch w0 w B os L) (now : Int) (hn0 : 0 ≤ now) (hn1 : now ≤ 18446744073709551615) :
    Calls Try.prog 11 #[ptr B, .int .u64 now] w fun r w' => (∃ z, r = .returned z) ∧ Ch w0 w' B (visO (dueE now) overE os) L := by
  obtain ⟨bm0, c1⟩ := h.map1
  have hA := hidd (all_any w h)
  have hmax := h.nb.2.2
  have hnb := hidd h.nb.1
  have C := hidd h
  clear h
  go_enter Try.func11, Try.ntmps11
  go_wp2_with (go_at_call 24; refine (there_yes _ B bm0 c1).mono ?_; rintro e w2 ⟨rfl, rfl⟩)
  refine Calls.mono hA.out ?_
  rintro r w3 ⟨v3, rfl, o3, b3⟩
  obtain ⟨A, c, rfl⟩ := slice_of_own o3
  obtain ⟨n, hn⟩ : ∃ n, os.length = n := ⟨_, rfl⟩
  rw [hn] at o3 hmax ⊢
  have hcm := (Rd.of_own o3).cmax
  have hcn := (Rd.of_own o3).cap
  unfold maxLen at hcm
  clear hA c1
  rcases Nat.eq_zero_or_pos n with h0 | h0
  · subst h0
    have hos : os = [] := List.eq_nil_of_length_eq_zero hn
    subst hos
    have C3 := hidd (C.out.call b3)
    clear o3 b3 C
    go_wp2_with fail
    refine wp_loop_rounds 1 ?_
    rw [rounds_succ]
    go_wp2
    go_end0
    exact ⟨⟨_, rfl⟩, C3.out⟩
  · obtain ⟨g, c', hA', _, _⟩ := own_pos o3 h0
    injection hA' with hA' hA2 hA3
    subst hA' hA3
    obtain ⟨cur, k3, hcur0⟩ := all_box C.out b3 o3 hn
    have C3 := hidd k3
    have hcur := hidd hcur0
    clear o3 b3 C k3 hcur0
    go_wp2_with fail
    go_loopw [12] (fun i wr => ∃ j : Nat, j ≤ n ∧ i = .int .i64 j ∧ Ch w0 wr B (visO (dueE now) overE (os.take j) ++ os.drop j) (L ++ [(g, 61, cur)])) (fun i _ => n - (intOf i).toNat)
    case atStart => exact ⟨0, Nat.zero_le _, rfl, by rw [List.take_zero, List.drop_zero]; exact C3.out⟩
    case round =>
      obtain ⟨j, hj, rfl, hC⟩ := hrel
      have C4 := hidd hC
      clear hC C3
      by_cases hjn : j < n
      · obtain ⟨o, ho⟩ : ∃ o, os[j]? = some o := ⟨_, List.getElem?_eq_getElem (by omega)⟩
        obtain ⟨b, e⟩ := o
        have cp : wr.cell? ⟨g, j, none⟩ = some (ptr b) := C4.out.last.at_ (hcur.out j _ ho)
        have hm := hidd (vis_mem (c := dueE now) (t := overE) ho)
        obtain ⟨hbl, hE⟩ := C4.out.ent hm.out
        have cm := hbl.at_ (at_mtu hE)
        have cu := hbl.at_ (at_until hE)
        have z32 := hbl.frozen 32
        have z33 := hbl.frozen 33
        have hjz : (j : Int) < (n : Int) := by omega
        have ho' := hidd ho
        cases hd : dueE now e with
        | true =>
          have hst := hidd (vis_step (c := dueE now) (t := overE) hnb.out ho hd)
          rw [dueE, Bool.and_eq_true, decide_eq_true_eq, decide_eq_true_eq] at hd
          have hp' : decide (0 < e.2.2.1) = true := by simpa using hd.1
          have hu' : decide (e.2.2.2 ≤ now) = true := by simpa using hd.2
          have C6 : Hid (Ch w0 ((wr.setCell ⟨b, 32, none⟩ (.int .u32 0)).setCell ⟨b, 33, none⟩ (.int .u64 0)) B (upd b (overE e) (visO (dueE now) overE (os.take j) ++ os.drop j)) (L ++ [(g, 61, cur)])) := by
            have hE2 : IsE (e.1, e.2.1, 0, e.2.2.2) := ⟨hE.a, hE.n, (by decide : (0 : Int) ≤ 0 ∧ (0 : Int) ≤ 4294967295), hE.u⟩
            have k1 := hbl.set 32 (.int .u32 0)
            rw [set_mtu hE 0] at k1
            have k2 := k1.set 33 (.int .u64 0)
            rw [set_until hE2] at k2
            exact C4.out.upd (b := b) (e := e) (e' := overE e) hm.out rfl (overE_is hE) (((Fr.refl (· = b) wr).setB (.int .u32 0)).setB (.int .u64 0)) k2
          have hm6 : Hid ((b, overE e) ∈ upd b (overE e) (visO (dueE now) overE (os.take j) ++ os.drop j)) := List.mem_map.2 ⟨_, hm.out, by simp⟩
          clear hbl hE C4 ho hd
          go_wp2_with fail
          refine (bare_any _ C6.out b (overE e) hm6.out).mono ?_
          rintro r w5 ⟨⟨z, rfl⟩, c5⟩
          rw [hst.out] at c5
          have C5 := hidd c5
          clear c5 C6 hm6 cp cm cu z32 z33
          go_wp2
          go_roundw
          case rel => exact ⟨j + 1, by omega, by go_num, C5.out⟩
          case measure => simp [intOf]; omega
        | false =>
          have hst := hidd (vis_skip (c := dueE now) (t := overE) ho hd)
          by_cases hp : 0 < e.2.2.1
          · have hp' : decide (0 < e.2.2.1) = true := by simpa using hp
            have hu' : decide (e.2.2.2 ≤ now) = false := by rw [dueE, hp'] at hd; simpa using hd
            clear hbl hE ho hd z32 z33
            go_wp2
            go_roundw
            case rel => exact ⟨j + 1, by omega, by go_num, by rw [← hst.out]; exact C4.out⟩
            case measure => simp [intOf]; omega
          · have hp' : decide (0 < e.2.2.1) = false := by simpa using hp
            clear hbl hE ho hd z32 z33
            go_wp2
            go_roundw
            case rel => exact ⟨j + 1, by omega, by go_num, by rw [← hst.out]; exact C4.out⟩
            case measure => simp [intOf]; omega
      · have hjn' : j = n := by omega
        subst hjn'
        rw [List.take_of_length_le (by omega), List.drop_of_length_le (by omega), List.append_nil] at C4
        go_wp2
        go_end0
        exact ⟨⟨_, rfl⟩, C4.out.pop⟩

def wayE (x : List Int) (e : E) : Bool := e.2.1 == x
def noWay (e : E) : E := (e.1, zeroA, e.2.2)
theorem noWay_is {e : E} (h : IsE e) : IsE (noWay e) := ⟨h.a, zeroA_is, h.m, h.u⟩
def numW (x : List Int) (os : List En) : Nat := (os.filter fun o => wayE x o.2).length
theorem numW_snoc {x : List Int} {os : List En} {j b : Nat} {e : E} (h : os[j]? = some (b, e)) : numW x (os.take (j + 1)) = numW x (os.take j) + if wayE x e then 1 else 0 := by
  rw [numW, List.take_add_one, h, List.filter_append, List.length_append]
  cases hx : wayE x e <;> simp [hx, numW]
def forgN (x : List Int) (os : List En) : Nat := if x == zeroA then 0 else numW x os
def forgO (x : List Int) (os : List En) : List En := if x == zeroA then os else visO (wayE x) noWay os
set_option maxRecDepth 100000 in
set_option maxHeartbeats 4000000 in
theorem forget_any {w0 : World} (w : World) {B : Nat} {os : List En} {L : List Bx} (h : Ch w0 w B os L) (x : List Int) (hx0 : IsAddr x) :
    Calls Try.prog 16 #[ptr B, .agg (bytesV x)] w fun r w' => r = .returned (.int .i64 (forgN x os)) ∧ Ch w0 w' B (forgO x os) L := by
  obtain ⟨q, hq⟩ : ∃ q, w.heap.size = q := ⟨_, rfl⟩
  have hx := hidd hx0
  have C1 := hidd (h.new 24 (bytesV x) hq)
  have hnb := hidd h.nb.1
  have hmax := h.nb.2.2
  clear h hx0
  go_enter Try.func16, Try.ntmps16
  go_wp2_with fail
  generalize w.alloc (.cells (bytesV x) 24) = W1 at C1 ⊢
  obtain ⟨bm0, c1⟩ := C1.out.map1
  refine (there_yes W1 B bm0 c1).mono ?_
  rintro r w2 ⟨rfl, rfl⟩
  have l1 := hidd (ld24 C1.out.last hx.out)
  have hA := hidd (all_any W1 C1.out)
  have heq := fun V => eql24 V hx.out zeroA_is
  have hgd := guard24
  cases hz : x == zeroA with
  | true =>
    rw [hz] at heq
    have hN : Hid (forgN x os = 0) := by refine hidd ?_; rw [forgN, hz]; rfl
    have hO : Hid (forgO x os = os) := by refine hidd ?_; rw [forgO, hz]; rfl
    clear hz hA
    go_wp2_with (first
      | (with_reducible show wpList _ _ _ (⟨_, Op.load 24 _, _, _, _, _⟩ :: _) _ _; refine wpList_load_want (by kernel_rfl) 24 _ rfl _ rfl _ (by with_reducible exact l1.out) ?_)
      | (with_reducible show wpList _ _ _ (⟨_, Op.build 24 _, _, _, _, _⟩ :: _) _ _; refine wpList_build_wantG (by kernel_rfl) 24 #[] rfl (bytesV zeroA) (by kernel_rfl) ?_))
    go_ret
    rw [hN.out, hO.out]
    exact ⟨rfl, C1.out.pop⟩
  | false =>
    rw [hz] at heq
    have hN : Hid (forgN x os = numW x os) := by refine hidd ?_; rw [forgN, hz]; rfl
    have hO : Hid (forgO x os = visO (wayE x) noWay os) := by refine hidd ?_; rw [forgO, hz]; rfl
    clear hz
    go_wp2_with (first
      | (with_reducible show wpList _ _ _ (⟨_, Op.load 24 _, _, _, _, _⟩ :: _) _ _; refine wpList_load_want (by kernel_rfl) 24 _ rfl _ rfl _ (by with_reducible exact l1.out) ?_)
      | (with_reducible show wpList _ _ _ (⟨_, Op.build 24 _, _, _, _, _⟩ :: _) _ _; refine wpList_build_wantG (by kernel_rfl) 24 #[] rfl (bytesV zeroA) (by kernel_rfl) ?_))
    refine Calls.mono hA.out ?_
    rintro r w3 ⟨v3, rfl, o3, b3⟩
    obtain ⟨A, c, rfl⟩ := slice_of_own o3
    obtain ⟨n, hn⟩ : ∃ n, os.length = n := ⟨_, rfl⟩
    rw [hn] at o3 hmax ⊢
    have hcm := (Rd.of_own o3).cmax
    have hcn := (Rd.of_own o3).cap
    unfold maxLen at hcm
    clear hA c1 heq l1
    rcases Nat.eq_zero_or_pos n with h0 | h0
    · subst h0
      have hos : os = [] := List.eq_nil_of_length_eq_zero hn
      subst hos
      have C3 := hidd (C1.out.call b3)
      clear o3 b3 C1
      go_wp2_with fail
      refine wp_loop_rounds 1 ?_
      rw [rounds_succ]
      go_wp2
      go_ret
      rw [hN.out, hO.out]
      exact ⟨rfl, C3.out.pop⟩
    · obtain ⟨g, c', hA', _, _⟩ := own_pos o3 h0
      injection hA' with hA' hA2 hA3
      subst hA' hA3
      obtain ⟨cur, k3, hcur0⟩ := all_box C1.out b3 o3 hn
      have C3 := hidd k3
      have hcur := hidd hcur0
      clear o3 b3 C1 k3 hcur0
      go_wp2_with fail
      go_loopw [4, 18] (fun m i wr => ∃ j : Nat, j ≤ n ∧ i = .int .i64 j ∧ m = .int .i64 (numW x (os.take j)) ∧ Ch w0 wr B (visO (wayE x) noWay (os.take j) ++ os.drop j) (L ++ [(q, 24, bytesV x)] ++ [(g, 61, cur)])) (fun _ i _ => n - (intOf i).toNat)
      case atStart => exact ⟨0, Nat.zero_le _, rfl, rfl, by rw [List.take_zero, List.drop_zero]; exact C3.out⟩
      case round =>
        obtain ⟨j, hj, rfl, rfl, hC⟩ := hrel
        have C4 := hidd hC
        clear hC C3
        by_cases hjn : j < n
        · obtain ⟨o, ho⟩ : ∃ o, os[j]? = some o := ⟨_, List.getElem?_eq_getElem (by omega)⟩
          obtain ⟨b, e⟩ := o
          have cp : wr.cell? ⟨g, j, none⟩ = some (ptr b) := C4.out.last.at_ (hcur.out j _ ho)
          have hm := hidd (vis_mem (c := wayE x) (t := noWay) ho)
          have hE := hidd (C4.out.ent hm.out).2
          have C2 := hidd (C4.out.call (Below.refl _ wr).drew)
          have S1 : Hid ((loadVar 24 ⟨b, 16, none⟩).run Try.prog wr.drew = .ok (.agg (bytesV e.2.1)) wr.drew ∧ (loadVar 24 ⟨q, 0, none⟩).run Try.prog wr.drew = .ok (.agg (bytesV x)) wr.drew) :=
            ⟨ldNext (C2.out.ent hm.out).1 hE.out, ld24 (C2.out.pop.last) hx.out⟩
          have heq := fun V => eql24 V hE.out.n hx.out
          have hjz : (j : Int) < (n : Int) := by omega
          have hns := hidd (numW_snoc (x := x) ho)
          have hq36 : numW x (os.take j) ≤ 32 := by
            have h1 : numW x (os.take j) ≤ (os.take j).length := List.length_filter_le _ _
            rw [List.length_take] at h1
            omega
          obtain ⟨k, hk⟩ : ∃ k, numW x (os.take j) = k := ⟨_, rfl⟩
          rw [hk] at hns hq36 ⊢
          have hw1 : IntKind.i64.wrap ((k : Int) + 1) = (k : Int) + 1 := IntWalk.i64_in _ (by omega)
          clear hk
          cases hd : wayE x e with
          | true =>
            have hst := hidd (vis_step (c := wayE x) (t := noWay) hnb.out ho hd)
            rw [hd] at hns
            have hd' : (e.2.1 == x) = true := hd
            rw [hd'] at heq
            clear hd ho C4
            go_wp2
            refine wp_region_held_drew (S := (fun V => (loadVar 24 ⟨b, 16, none⟩).run Try.prog V = .ok (.agg (bytesV e.2.1)) V ∧ (loadVar 24 ⟨q, 0, none⟩).run Try.prog V = .ok (.agg (bytesV x)) V)) (by kernel_rfl) S1.out (fun hHeld => ?_)
            generalize wr.drew = D at S1 C2 hHeld ⊢
            refine wpAnyH_take (i := 0) (v := ?_) rfl (by kernel_rfl) (by kernel_rfl) (by kernel_rfl) (fun _ _ _ h => h) (Or.inl ⟨by kernel_rfl, ?_⟩) hHeld ?_
            rotate_left
            · intro wh hSw
              go_simp
              try with_reducible rfl
            try simp only [Act.put, List.getElem_toArray, List.getElem_cons_zero, List.getElem_cons_succ, List.setIfInBounds_toArray, List.set_cons_zero, List.set_cons_succ]
            refine wpAnyH_take (i := 1) (v := ?_) rfl (by kernel_rfl) (by kernel_rfl) (by kernel_rfl) (fun _ _ _ h => h) (Or.inl ⟨by kernel_rfl, ?_⟩) hHeld ?_
            rotate_left
            · intro wh hSw
              go_simp
              try with_reducible rfl
            try simp only [Act.put, List.getElem_toArray, List.getElem_cons_zero, List.getElem_cons_succ, List.setIfInBounds_toArray, List.set_cons_zero, List.set_cons_succ]
            refine wpAnyH_take (i := 2) (v := ?_) rfl (by kernel_rfl) (by kernel_rfl) (by kernel_rfl) (fun _ _ _ h => h) (Or.inl ⟨by kernel_rfl, ?_⟩) hHeld ?_
            rotate_left
            · intro wh hSw
              go_simp
              try with_reducible rfl
            try simp only [Act.put, List.getElem_toArray, List.getElem_cons_zero, List.getElem_cons_succ, List.setIfInBounds_toArray, List.set_cons_zero, List.set_cons_succ]
            refine wpAnyH_take (i := 3) rfl (by kernel_rfl) (by kernel_rfl) (by kernel_rfl) (fun _ _ _ h => h) (yieldsIf_load_want (by kernel_rfl) 24 _ rfl _ rfl _ (fun wh hSw => hSw.1)) hHeld ?_
            try simp only [Act.put, List.getElem_toArray, List.getElem_cons_zero, List.getElem_cons_succ, List.setIfInBounds_toArray, List.set_cons_zero, List.set_cons_succ]
            refine wpAnyH_take (i := 4) rfl (by kernel_rfl) (by kernel_rfl) (by kernel_rfl) (fun _ _ _ h => h) (yieldsIf_load_want (by kernel_rfl) 24 _ rfl _ rfl _ (fun wh hSw => hSw.2)) hHeld ?_
            try simp only [Act.put, List.getElem_toArray, List.getElem_cons_zero, List.getElem_cons_succ, List.setIfInBounds_toArray, List.set_cons_zero, List.set_cons_succ]
            refine wpAnyH_take (i := 5) (v := ?_) rfl (by kernel_rfl) (by kernel_rfl) (by kernel_rfl) (fun _ _ _ h => h) (Or.inl ⟨by kernel_rfl, ?_⟩) hHeld ?_
            rotate_left
            · intro wh hSw
              go_simp
              try with_reducible rfl
            try simp only [Act.put, List.getElem_toArray, List.getElem_cons_zero, List.getElem_cons_succ, List.setIfInBounds_toArray, List.set_cons_zero, List.set_cons_succ]
            refine wpAnyH_done (by kernel_rfl) ?_ _
            clear hHeld
            obtain ⟨hbl, _⟩ := C2.out.ent hm.out
            have hsz := encV_size hE.out
            have hth := hidd (hbl.there (o := 16) (n := 16) (by rw [hsz]; omega))
            have C6 : Hid (Ch w0 (D.setCells b 16 (zeroA.map (Value.int .u8))) B (upd b (noWay e) (visO (wayE x) noWay (os.take j) ++ os.drop j)) (L ++ [(q, 24, bytesV x)] ++ [(g, 61, cur)])) := by
              have hk := Blk.over (W := D) (zeroA.map (Value.int .u8)) 16 D (encV e) hbl
              rw [set_next hE.out zeroA_is] at hk
              exact C2.out.upd (b := b) (e := e) (e' := noWay e) hm.out rfl (noWay_is hE.out) (fr_cells D b _ 16) hk
            have hm6 : Hid ((b, noWay e) ∈ upd b (noWay e) (visO (wayE x) noWay (os.take j) ++ os.drop j)) := List.mem_map.2 ⟨_, hm.out, by simp⟩
            clear hbl S1 heq hsz cp
            go_wp2_with (first
              | (with_reducible show wpList _ _ _ (⟨_, Op.build 24 _, _, _, _, _⟩ :: _) _ _; refine wpList_build_want rfl 24 #[] rfl (bytesV zeroA) (by kernel_rfl) ?_)
              | (with_reducible show wpList _ _ _ (⟨_, Op.store 24 _ _, _, _, _, _⟩ :: _) _ _
                 refine wpList_store_bytes rfl rfl 24 _ _ rfl b 16 zeroA rfl rfl (by rw [zeroA_is.len]; exact hth.out) (by rw [zeroA_is.len]; exact info24) ?_
                 generalize D.setCells b 16 (zeroA.map (Value.int .u8)) = D6 at C6 ⊢
                 clear C2 hth))
            refine (bare_any _ C6.out b (noWay e) hm6.out).mono ?_
            rintro r w5 ⟨⟨z, rfl⟩, c5⟩
            rw [hst.out] at c5
            have C5 := hidd c5
            clear c5 C6 hm6
            go_wp2
            go_roundw
            case rel => exact ⟨j + 1, by omega, by go_num, by rw [hns.out]; go_num, C5.out⟩
            case measure => simp [intOf]; omega
          | false =>
            have hst := hidd (vis_skip (c := wayE x) (t := noWay) ho hd)
            rw [hd] at hns
            have hd' : (e.2.1 == x) = false := hd
            rw [hd'] at heq
            clear hd ho C4
            go_wp2
            refine wp_region_held_drew (S := (fun V => (loadVar 24 ⟨b, 16, none⟩).run Try.prog V = .ok (.agg (bytesV e.2.1)) V ∧ (loadVar 24 ⟨q, 0, none⟩).run Try.prog V = .ok (.agg (bytesV x)) V)) (by kernel_rfl) S1.out (fun hHeld => ?_)
            generalize wr.drew = D at S1 C2 hHeld ⊢
            refine wpAnyH_take (i := 0) (v := ?_) rfl (by kernel_rfl) (by kernel_rfl) (by kernel_rfl) (fun _ _ _ h => h) (Or.inl ⟨by kernel_rfl, ?_⟩) hHeld ?_
            rotate_left
            · intro wh hSw
              go_simp
              try with_reducible rfl
            try simp only [Act.put, List.getElem_toArray, List.getElem_cons_zero, List.getElem_cons_succ, List.setIfInBounds_toArray, List.set_cons_zero, List.set_cons_succ]
            refine wpAnyH_take (i := 1) (v := ?_) rfl (by kernel_rfl) (by kernel_rfl) (by kernel_rfl) (fun _ _ _ h => h) (Or.inl ⟨by kernel_rfl, ?_⟩) hHeld ?_
            rotate_left
            · intro wh hSw
              go_simp
              try with_reducible rfl
            try simp only [Act.put, List.getElem_toArray, List.getElem_cons_zero, List.getElem_cons_succ, List.setIfInBounds_toArray, List.set_cons_zero, List.set_cons_succ]
            refine wpAnyH_take (i := 2) (v := ?_) rfl (by kernel_rfl) (by kernel_rfl) (by kernel_rfl) (fun _ _ _ h => h) (Or.inl ⟨by kernel_rfl, ?_⟩) hHeld ?_
            rotate_left
            · intro wh hSw
              go_simp
              try with_reducible rfl
            try simp only [Act.put, List.getElem_toArray, List.getElem_cons_zero, List.getElem_cons_succ, List.setIfInBounds_toArray, List.set_cons_zero, List.set_cons_succ]
            refine wpAnyH_take (i := 3) rfl (by kernel_rfl) (by kernel_rfl) (by kernel_rfl) (fun _ _ _ h => h) (yieldsIf_load_want (by kernel_rfl) 24 _ rfl _ rfl _ (fun wh hSw => hSw.1)) hHeld ?_
            try simp only [Act.put, List.getElem_toArray, List.getElem_cons_zero, List.getElem_cons_succ, List.setIfInBounds_toArray, List.set_cons_zero, List.set_cons_succ]
            refine wpAnyH_take (i := 4) rfl (by kernel_rfl) (by kernel_rfl) (by kernel_rfl) (fun _ _ _ h => h) (yieldsIf_load_want (by kernel_rfl) 24 _ rfl _ rfl _ (fun wh hSw => hSw.2)) hHeld ?_
            try simp only [Act.put, List.getElem_toArray, List.getElem_cons_zero, List.getElem_cons_succ, List.setIfInBounds_toArray, List.set_cons_zero, List.set_cons_succ]
            refine wpAnyH_take (i := 5) (v := ?_) rfl (by kernel_rfl) (by kernel_rfl) (by kernel_rfl) (fun _ _ _ h => h) (Or.inl ⟨by kernel_rfl, ?_⟩) hHeld ?_
            rotate_left
            · intro wh hSw
              go_simp
              try with_reducible rfl
            try simp only [Act.put, List.getElem_toArray, List.getElem_cons_zero, List.getElem_cons_succ, List.setIfInBounds_toArray, List.set_cons_zero, List.set_cons_succ]
            refine wpAnyH_done (by kernel_rfl) ?_ _
            clear hHeld
            go_wp2
            go_roundw
            case rel => exact ⟨j + 1, by omega, by go_num, by rw [hns.out]; rfl, by rw [← hst.out]; exact C2.out⟩
            case measure => simp [intOf]; omega
        · have hjn' : j = n := by omega
          subst hjn'
          rw [List.take_of_length_le (by omega), List.drop_of_length_le (by omega), List.append_nil] at C4
          rw [List.take_of_length_le (by omega)]
          go_wp2
          go_ret
          rw [hN.out, hO.out]
          exact ⟨rfl, C4.out.pop.pop⟩
end Go.Proofs.Ytpjjcihhmhccfaa
