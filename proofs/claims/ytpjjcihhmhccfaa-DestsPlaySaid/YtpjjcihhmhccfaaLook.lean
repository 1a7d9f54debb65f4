/- A cache: what is known of a destination, when the next one's time is over, all entries; each function walked once. No condition. -/
import Derived.Test.YtpjjcihhmhccfaaActs2
import Derived.Laws.MakeOwn
namespace Go.Proofs.Ytpjjcihhmhccfaa
open Go.ChangeShapes Go.WideShapes Go.ChangeAt Go.RowKit Go.Deep
set_option linter.unusedVariables false
set_option linter.unusedSimpArgs false

def ofE (x : List Int) (os : List En) : E := match fo x os with | none => newE x | some o => o.2
def zeroE34 : E := (zeroA, zeroA, 0, 0)
theorem ld33 {W : World} {b : Nat} {e : E} (h : Blk W b 33 (encV e)) (he : IsE e) : (loadVar 33 ⟨b, 0, none⟩).run Try.prog W = .ok (.agg (encV e)) W := h.load Try.underlying33 rfl (size_enc he)
theorem res12 {tmps : Array Value} {W : World} {p : Nat} {e : E} (he : IsE e) (h4 : tmps.getD 4 undef = .pointer (some ⟨p, 0, none⟩)) (hc : Blk W p 33 (encV e)) : (results Try.f12 tmps).run Try.prog W = .ok (.agg (encV e)) W := by
  have l := ld33 hc he
  simp only [Array.getD_eq_getD_getElem?] at h4
  simp [results, Try.results12, asAddr, h4, l]
theorem Ch.setBox {w0 W : World} {B : Nat} {os : List En} {L : List Bx} {p : Nat} {t : TypeId} {c c' : Array Value} (h : Ch w0 W B os (L ++ [(p, t, c)])) (hp : w0.heap.size ≤ p) (hc : c'.size = c.size) : Ch w0 (W.setRow p c') B os (L ++ [(p, t, c')]) := by
  obtain ⟨bm, v, ps, ms, ck, es, h1, h2⟩ := h
  have hmem : (p, t, c) ∈ L ++ [(p, t, c)] := List.mem_append_right _ (List.mem_singleton.2 rfl)
  have hids : ids B bm es (L ++ [(p, t, c')]) = ids B bm es (L ++ [(p, t, c)]) := by simp [ids]
  have hb := below_setRow (Below.refl p W) (Nat.le_refl _) c'
  have F : Fr (· = p) W (W.setRow p c') := ⟨hb.os, hb.tape, hb.output, hb.size, fun k hk hS => setRow_other W p k c' hS⟩
  have nx : ∀ x ∈ L, x.1 ≠ p := fun x hx e => by
    have h3 := (List.nodup_append.1 (List.nodup_cons.1 (List.nodup_cons.1 h1.nd).2).2).2.1
    rw [List.map_append, List.nodup_append] at h3
    exact h3.2.2 _ (List.mem_map_of_mem hx) p (by simp) e
  exact ⟨bm, v, ps, ms, ck, es, ⟨h1.blk.fr F (nd_Bx h1.nd hmem), ownRow_fr h1.own F (fun k hk e => h1.away k hk (by rw [e]; exact ids_x hmem)), h1.map.fr F (nd_mx h1.nd hmem), fun e he => (h1.ent e he).fr F (nd_ex h1.nd he hmem), fun x hx => by
      rcases List.mem_append.1 hx with hx | hx
      · exact (h1.box x (List.mem_append_left _ hx)).fr F (nx x hx)
      · rw [List.mem_singleton.1 hx]; exact h1.last.setRow c', by rw [hids]; exact h1.nd, by rw [hids]; exact h1.away, h1.lo, h1.keys, h1.born, h1.ok, h1.pt, h1.bel.trans (F.below h1.bel.size (fun k e => by rw [e]; exact hp))⟩, h2⟩
theorem boxLe {w0 w : World} {B : Nat} {os : List En} {L : List Bx} (h : Ch w0 w B os L) {k : Nat} (hk : w.heap.size ≤ k) : w0.heap.size ≤ k := Nat.le_trans h.bel.size hk

set_option maxRecDepth 100000 in
set_option maxHeartbeats 2000000 in
theorem of_any {w0 : World} (w : World) {B : Nat} {os : List En} {L : List Bx} (h : Ch w0 w B os L) (x : List Int) (hx0 : IsAddr x) :
    Calls Try.prog 12 #[ptr B, .agg (bytesV x)] w fun r w' => r = .returned (.agg (encV (ofE x os))) ∧ Ch w0 w' B (tch x os) L := by
  obtain ⟨q, hq⟩ : ∃ q, w.heap.size = q := ⟨_, rfl⟩
  have hx := hidd hx0
  have hql := boxLe h (k := q + 1) (by omega)
  have C1 := h.new 24 (bytesV x) hq
  have C2 := hidd (C1.new 33 (encV zeroE34) (g := q + 1) (by simp [hq]))
  have hz34 : IsE zeroE34 := ⟨zeroA_is, zeroA_is, (by decide : (0 : Int) ≤ 0 ∧ (0 : Int) ≤ 4294967295), (by decide : (0 : Int) ≤ 0 ∧ (0 : Int) ≤ 18446744073709551615)⟩
  clear h hx0 C1
  go_enter Try.func12, Try.ntmps12
  go_wp2_with fail
  rw [show (#[.int .u8 0, .int .u8 0, .int .u8 0, .int .u8 0, .int .u8 0, .int .u8 0, .int .u8 0, .int .u8 0, .int .u8 0, .int .u8 0, .int .u8 0, .int .u8 0, .int .u8 0, .int .u8 0, .int .u8 0, .int .u8 0, .int .u8 0, .int .u8 0, .int .u8 0, .int .u8 0, .int .u8 0, .int .u8 0, .int .u8 0, .int .u8 0, .int .u8 0, .int .u8 0, .int .u8 0, .int .u8 0, .int .u8 0, .int .u8 0, .int .u8 0, .int .u8 0, .int .u32 0, .int .u64 0] : Array Value) = encV zeroE34 from rfl]
  generalize (w.alloc (.cells (bytesV x) 24)).alloc (.cells (encV zeroE34) 33) = W1 at C2 ⊢
  obtain ⟨bm0, c1⟩ := C2.out.map1
  have l1 := hidd (ld24 C2.out.pop.last hx.out)
  refine (there_yes W1 B bm0 c1).mono ?_
  rintro r w2 ⟨rfl, rfl⟩
  clear c1
  have hT := hidd (touched_any W1 C2.out x hx.out)
  go_wp2_with (with_reducible show wpList _ _ _ (⟨_, Op.load 24 _, _, _, _, _⟩ :: _) _ _; refine wpList_load_want (by kernel_rfl) 24 _ rfl _ rfl _ (by with_reducible exact l1.out) ?_)
  refine Calls.mono hT.out ?_
  rintro r w3 ⟨rfl, c3⟩
  have C3 := hidd c3
  have l3 := hidd (ld24 c3.pop.last hx.out)
  clear c3 hT l1 C2
  cases hf : fo x os with
  | none =>
    have hv : tval x os = .pointer none := by rw [tval, hf]
    have he : Hid (ofE x os = newE x) := by refine hidd ?_; rw [ofE, hf]
    rw [hv]
    clear hv hf
    have C4 := hidd (C3.out.setBox (c' := encV (newE x)) (by omega) (by rw [encV_size (newE_is hx.out), encV_size hz34]))
    go_wp2_with (first
      | (with_reducible show wpList _ _ _ (⟨_, Op.load 24 _, _, _, _, _⟩ :: _) _ _; refine wpList_load_want (by kernel_rfl) 24 _ rfl _ rfl _ (by with_reducible exact l3.out) ?_)
      | (with_reducible show wpList _ _ _ (⟨_, Op.build 33 _, _, _, _, _⟩ :: _) _ _; refine wpList_build_want rfl 33 #[(0, .tmp 16)] rfl (encV (newE x)) (Eq.trans (b := Try.prog.built 33 [(0, .agg (bytesV x))]) (by kernel_rfl) (builtE hx.out)) ?_)
      | (with_reducible show wpList _ _ _ (⟨_, Op.store 33 (.tmp 4) _, _, _, _, _⟩ :: _) _ _; refine wpList_store_blk rfl rfl 33 (.tmp 4) _ rfl (q + 1) 33 (encV zeroE34) (encV (newE x)) C3.out.last rfl rfl (size_enc (newE_is hx.out)) (by rw [encV_size (newE_is hx.out), encV_size hz34]) (ones_enc _) ?_))
    refine bodyPost_ret (res12 (newE_is hx.out) rfl C4.out.last) rfl ?_
    rw [he.out]
    exact ⟨rfl, C4.out.pop.pop⟩
  | some o =>
    obtain ⟨b, e⟩ := o
    have hv : tval x os = ptr b := by rw [tval, hf]
    have he : Hid (ofE x os = e) := by refine hidd ?_; rw [ofE, hf]
    have hm : (b, e) ∈ tch x os := by rw [tch, hf]; simp
    obtain ⟨hbl, hE0⟩ := C3.out.ent hm
    have hE := hidd hE0
    have lb := hidd (ld33 hbl hE0)
    rw [hv]
    clear hv hf hbl hE0 hm
    have C4 := hidd (C3.out.setBox (c' := encV e) (by omega) (by rw [encV_size hE.out, encV_size hz34]))
    go_wp2_with (first
      | (with_reducible show wpList _ _ _ (⟨_, Op.load 33 _, _, _, _, _⟩ :: _) _ _; refine wpList_load_want (by kernel_rfl) 33 _ rfl _ rfl _ (by with_reducible exact lb.out) ?_)
      | (with_reducible show wpList _ _ _ (⟨_, Op.store 33 (.tmp 4) _, _, _, _, _⟩ :: _) _ _; refine wpList_store_blk rfl rfl 33 (.tmp 4) _ rfl (q + 1) 33 (encV zeroE34) (encV e) C3.out.last rfl rfl (size_enc hE.out) (by rw [encV_size hE.out, encV_size hz34]) (ones_enc _) ?_))
    refine bodyPost_ret (res12 hE.out rfl C4.out.last) rfl ?_
    rw [he.out]
    exact ⟨rfl, C4.out.pop.pop⟩

/-- When the first one's time is over. -/
def nextT (es : List E) : Int := ((es.filter fun e => decide (0 < e.2.2.1)).map (·.2.2.2)).foldl min 9223372036854775807
theorem nextT_snoc {es : List E} {j : Nat} {e : E} (h : es[j]? = some e) : nextT (es.take (j + 1)) = if 0 < e.2.2.1 then min (nextT (es.take j)) e.2.2.2 else nextT (es.take j) := by
  rw [nextT, List.take_add_one, h, List.filter_append, List.map_append, List.foldl_append]
  by_cases hp : 0 < e.2.2.1 <;> simp [hp, nextT]
theorem next_not (w : World) (v : Value) (h : Not w v) : Calls Try.prog 13 #[v] w fun e w' => e = .returned (.int .u64 9223372036854775807) ∧ w = w' := by
  have hT := hidd (there_not w v h)
  clear h
  go_enter Try.func13, Try.ntmps13
  go_wp2_with (go_at_call 24; refine Calls.mono hT.out ?_; rintro e w2 ⟨rfl, rfl⟩)
  go_ret
  exact ⟨rfl, rfl⟩
/-- A row of the entries' pointers. -/
theorem row_ptr {W : World} {base g n c : Nat} {os : List En} (h : W.ownsRow base 61 1 (.slice (some ⟨g, 0, none⟩) n c) n (flatP (os.map (·.1)))) (hl : os.length = n) {j : Nat} {o : En} (ho : os[j]? = some o) : W.cell? ⟨g, j, none⟩ = some (ptr o.1) := by
  have := own_range h isEncP (by simp [hl]) (fun _ _ => trivial) (j := j) (e := o.1) (by rw [List.getElem?_map, ho]; rfl) 0 _ rfl
  rwa [Nat.mul_one, Nat.add_zero] at this
set_option maxRecDepth 100000 in
set_option maxHeartbeats 2000000 in
theorem next_any {w0 : World} (w : World) {B : Nat} {os : List En} {L : List Bx} (h : Ch w0 w B os L) :
    Calls Try.prog 13 #[ptr B] w fun r w' => r = .returned (.int .u64 (nextT (os.map (·.2)))) ∧ Ch w0 w' B os L ∧ Below w.heap.size w w' := by
  obtain ⟨bm0, c1⟩ := h.map1
  have hA := hidd (all_any w h)
  have hmax := h.nb.2.2
  have C := hidd h
  clear h
  go_enter Try.func13, Try.ntmps13
  go_wp2_with (go_at_call 24; refine (there_yes _ B bm0 c1).mono ?_; rintro e w2 ⟨rfl, rfl⟩)
  refine Calls.mono hA.out ?_
  rintro r w3 ⟨v3, rfl, o3, b3⟩
  obtain ⟨A, c, rfl⟩ := slice_of_own o3
  obtain ⟨n, hn⟩ : ∃ n, os.length = n := ⟨_, rfl⟩
  rw [hn] at o3 hmax ⊢
  have hcm := (Rd.of_own o3).cmax
  have hcn := (Rd.of_own o3).cap
  unfold maxLen at hcm
  have O3 := hidd o3
  have B3 := hidd b3
  have C3 := hidd (C.out.call b3)
  clear o3 b3 C hA c1
  go_wp2_with fail
  go_loop [3, 11] (fun a i => ∃ j : Nat, j ≤ n ∧ i = .int .i64 j ∧ a = .int .u64 (nextT ((os.map (·.2)).take j))) (fun _ i => n - (intOf i).toNat)
  case atStart => exact ⟨0, Nat.zero_le _, rfl, rfl⟩
  case round =>
    obtain ⟨j, hj, rfl, rfl⟩ := hrel
    by_cases hjn : j < n
    · obtain ⟨o, ho⟩ : ∃ o, os[j]? = some o := ⟨_, List.getElem?_eq_getElem (by omega)⟩
      obtain ⟨b, e⟩ := o
      obtain ⟨g, c', hA', _, _⟩ := own_pos O3.out (by omega)
      injection hA' with hA' hA2 hA3
      subst hA' hA3
      have cp := row_ptr O3.out hn ho
      obtain ⟨hbl, hE⟩ := C3.out.ent (List.mem_of_getElem? ho)
      have cm := hbl.at_ (at_mtu hE)
      have cu := hbl.at_ (at_until hE)
      have hs := hidd (nextT_snoc (es := os.map (·.2)) (j := j) (e := e) (by rw [List.getElem?_map, ho]; rfl))
      obtain ⟨q, hq⟩ : ∃ q, nextT ((os.map (·.2)).take j) = q := ⟨_, rfl⟩
      rw [hq] at hs ⊢
      have hjz : (j : Int) < (n : Int) := by omega
      clear hbl ho hq
      by_cases hp : 0 < e.2.2.1
      · have hp' : decide (0 < e.2.2.1) = true := by simpa using hp
        have hs' := hidd (show nextT ((os.map (·.2)).take (j + 1)) = min q e.2.2.2 from by rw [hs.out, if_pos hp])
        clear hs
        go_wp2
        go_round
        case rel => exact ⟨j + 1, by omega, by go_num, by rw [hs'.out]⟩
        case measure => simp [intOf]; omega
      · have hp' : decide (0 < e.2.2.1) = false := by simpa using hp
        have hs' := hidd (show nextT ((os.map (·.2)).take (j + 1)) = q from by rw [hs.out, if_neg hp])
        clear hs
        go_wp2
        go_round
        case rel => exact ⟨j + 1, by omega, by go_num, by rw [hs'.out]⟩
        case measure => simp [intOf]; omega
    · have hjn' : j = n := by omega
      subst hjn'
      rw [List.take_of_length_le (by simp; omega)]
      go_wp2
      go_ret
      exact ⟨rfl, C3.out, B3.out⟩
end Go.Proofs.Ytpjjcihhmhccfaa
