/- Things told, one by one, walked once. No condition. -/
import Derived.Test.YtajlgglknianlaaSvOld
import Derived.Test.YtajlgglknianlaaSvDel
import Derived.Deep.RegionHeld3
namespace Go.Proofs.Ytajlgglknianlaa.Sv
open Go.Proofs.Ytajlgglknianlaa Go.ChangeShapes Go.WideShapes Go.ChangeAt Go.RowKit Go.Deep
set_option linter.unusedVariables false
set_option linter.unusedSimpArgs false

def encT (x : List Int) : List Value := x.map (Value.int .u8)
/-- A list of things, in blocks that meet p. -/
structure IsL (W : World) (p : Nat → Prop) (A : Option Addr) (n c : Nat) (xs : List (List Int)) : Prop where
  cap : n ≤ c
  cmax : c ≤ maxLen
  len : xs.length = n
  ok : ∀ x ∈ xs, IsAddr x
  at_ : 0 < n → ∃ b off, A = some ⟨b, off, none⟩ ∧ b < W.heap.size ∧ p b ∧ ∀ j x, xs[j]? = some x → W.rangeAt b (off + j * 16) (encT x)
theorem range_fr {w W : World} {S : Nat → Prop} {b o : Nat} {vs : List Value} (h : w.rangeAt b o vs) (hf : Fr S w W) (hb : b < w.heap.size) (hS : ¬ S b) : W.rangeAt b o vs :=
  fun j v hv => (hf.cell (p := ⟨b, o + j, none⟩) hb hS).trans (h j v hv)
theorem IsL.fr {w W : World} {p S : Nat → Prop} {A : Option Addr} {n c : Nat} {xs : List (List Int)} (h : IsL w p A n c xs) (hf : Fr S w W) (hS : ∀ k, p k → ¬ S k) : IsL W p A n c xs :=
  ⟨h.cap, h.cmax, h.len,
    h.ok,
    fun hn => by
    obtain ⟨b, off, e, hb, hp, hc⟩ := h.at_ hn
    exact ⟨b, off, e, Nat.lt_of_lt_of_le hb hf.size, hp, fun j x hx => range_fr (hc j x hx) hf hb (hS b hp)⟩⟩

/-- A shelf while things are told: its block, its list, what has turned. -/
structure Inv (w W : World) (B base : Nat) (cs : Array Value) (v0 v : Value) (es : List E) : Prop where
  blk : Blk W B 63 (cs.setIfInBounds 1 v)
  own : W.ownsRow base 68 17 v es.length (flat es)
  ok : ∀ e ∈ es, IsE e
  fr : Fr (fun k => k = B ∨ v0.ownBlock = some k) w W
  mine : ∀ k, v.ownBlock = some k → v0.ownBlock = some k ∨ w.heap.size ≤ k
structure Has (cs : Array Value) : Prop where
  most : cs[0]? = some (.int .i64 4)
  sz : cs.size = 4
theorem Has.row {cs : Array Value} (h : Has cs) (v : Value) : (cs.setIfInBounds 1 v)[1]? = some v := by rw [get_set _ _ _ _ (by rw [h.sz]; omega), if_pos rfl]
theorem Has.most' {cs : Array Value} (h : Has cs) (v : Value) : (cs.setIfInBounds 1 v)[0]? = some (.int .i64 4) := by rw [get_set _ _ _ _ (by rw [h.sz]; omega), if_neg (by omega)]; exact h.most

theorem fr_step {S T : Nat → Prop} {a b c : World} (h : Fr S a b) (k : Fr T b c) (hT : ∀ k, k < a.heap.size → T k → S k) : Fr S a c :=
  ⟨k.os.trans h.os, k.tape.trans h.tape, k.output.trans h.output, Nat.le_trans h.size k.size, fun i hi hS => (k.block i (Nat.lt_of_lt_of_le hi h.size) (fun hh => hS (hT i hi hh))).trans (h.block i hi hS)⟩

section
variable {w W V : World} {B base : Nat} {cs : Array Value} {v0 v : Value} {es : List E}
theorem Inv.to (h : Inv w W B base cs v0 v es) (hb : Below W.heap.size W V) : Inv w V B base cs v0 v es :=
  ⟨h.blk.below hb h.blk.lt, ownRow_fr h.own (Fr.of_below hb (fun _ => False)) (fun _ _ e => e), h.ok, h.fr.trans (Fr.of_below hb _), h.mine⟩
theorem Inv.isS (h : Inv w W B base cs v0 v es) (hc : Has cs) : IsS W B v := IsS.of h.blk (hc.most' v) (hc.row v)
theorem Inv.isK (h : Inv w W B base cs v0 v es) : ∃ A c, v = .slice A es.length c ∧ IsK W W.heap.size A es.length c es := by
  obtain ⟨A, c, rfl⟩ := slice_of_own h.own
  exact ⟨A, c, rfl, Ls.of_own h.own rfl h.ok⟩
theorem Inv.lt (h : Inv w W B base cs v0 v es) (hB : B < base) {k : Nat} (hk : v.ownBlock = some k) : k ≠ B := by have := (h.own.lt k hk).1; omega
/-- The list's block turned. -/
theorem Inv.turn (h : Inv w W B base cs v0 v es) (hB : B < base) {es' : List E} {v' : Value} (hf : Fr (fun k => v.ownBlock = some k) W V) (ho : V.ownsRow base 68 17 v' es'.length (flat es')) (hok : ∀ e ∈ es', IsE e)
    (hv : ∀ k, v'.ownBlock = some k → v.ownBlock = some k ∨ W.heap.size ≤ k) : Inv w (V.setCell ⟨B, 1, none⟩ v') B base cs v0 v' es' where
  blk := by
    have b1 : Blk V B 63 (cs.setIfInBounds 1 v) := h.blk.fr hf (fun e => h.lt hB e rfl)
    have b2 := b1.set 1 v'
    have : (cs.setIfInBounds 1 v).setIfInBounds 1 v' = cs.setIfInBounds 1 v' := by simp
    rwa [this] at b2
  own := own_far ho hB v'
  ok := hok
  fr := (fr_step h.fr hf (fun k hk e => by
    rcases h.mine k e with hm | hm
    · exact .inr hm
    · omega)).setCell (.inl (.inl rfl)) v'
  mine := fun k hk => by
    rcases hv k hk with e | e
    · exact h.mine k e
    · exact .inr (Nat.le_trans h.fr.size e)
/-- A thing in the list turned; the list's own value stays. -/
theorem Inv.turn' (h : Inv w W B base cs v0 v es) (hB : B < base) {es' : List E} (hf : Fr (fun k => v.ownBlock = some k) W V) (ho : V.ownsRow base 68 17 v es'.length (flat es')) (hok : ∀ e ∈ es', IsE e) : Inv w V B base cs v0 v es' where
  blk := h.blk.fr hf (fun e => h.lt hB e rfl)
  own := ho
  ok := hok
  fr := fr_step h.fr hf (fun k hk e => by
    rcases h.mine k e with hm | hm
    · exact .inr hm
    · omega)
  mine := h.mine
end

theorem sameT_refl (x : List Int) : sameT x x = true := by simp [sameT]
theorem putOne_gone {til life : Int} {es : List E} {x : List Int} {i : Nat} (h : idx (fun e => sameT e.1 x) es = (i : Int)) (hl : life = 0) : putOne sameT til life es x = es.eraseIdx i := by
  unfold putOne
  rw [h]
  simp [hl]
theorem putOne_set {til life : Int} {es : List E} {x : List Int} {i : Nat} {e : E} (h : idx (fun e => sameT e.1 x) es = (i : Int)) (he : es[i]? = some e) (hl : ¬ life = 0) : putOne sameT til life es x = es.set i (e.1, til) := by
  unfold putOne
  rw [h]
  simp [hl, he]
theorem putOne_none {til life : Int} {es : List E} {x : List Int} (h : idx (fun e => sameT e.1 x) es = -1) (hl : life = 0) : putOne sameT til life es x = es := by
  unfold putOne
  rw [h]
  simp [hl]
theorem putOne_new {til life : Int} {es : List E} {x : List Int} (h : idx (fun e => sameT e.1 x) es = -1) (hl : ¬ life = 0) (hn : es.length < 4) : putOne sameT til life es x = es ++ [(x, til)] := by
  unfold putOne
  rw [h]
  simp [hl, hn]
theorem putOne_old {til life : Int} {es : List E} {x : List Int} {q : Nat} {o : E} (h : idx (fun e => sameT e.1 x) es = -1) (hl : ¬ life = 0) (hn : ¬ es.length < 4) (hq : oldAt (es.map (·.2)) es.length = q) (ho : es[q]? = some o) (hle : o.2 ≤ til) : putOne sameT til life es x = es.set q (x, til) := by
  unfold putOne
  rw [h, hq]
  simp [hl, hn, ho, hle]
theorem putOne_full {til life : Int} {es : List E} {x : List Int} {q : Nat} {o : E} (h : idx (fun e => sameT e.1 x) es = -1) (hl : ¬ life = 0) (hn : ¬ es.length < 4) (hq : oldAt (es.map (·.2)) es.length = q) (ho : es[q]? = some o) (hle : ¬ o.2 ≤ til) : putOne sameT til life es x = es := by
  unfold putOne
  rw [h, hq]
  simp [hl, hn, ho, hle]

theorem addr_ex {l : List Int} (h : IsAddr l) : ∃ a b c d e f g i j k m n o p q r : Int, l = [a, b, c, d, e, f, g, i, j, k, m, n, o, p, q, r] := by
  have hl := h.len
  match l, hl with
  | [a, b, c, d, e, f, g, i, j, k, m, n, o, p, q, r], _ => exact ⟨_, _, _, _, _, _, _, _, _, _, _, _, _, _, _, _, rfl⟩
theorem builtE {x : List Int} (h : IsAddr x) (u : Int) : Try.prog.built 68 [(0, .agg (bytesV x)), (1, .int .u64 u)] = some (encV (x, u)) := by
  obtain ⟨_, _, _, _, _, _, _, _, _, _, _, _, _, _, _, _, rfl⟩ := addr_ex h
  kernel_rfl
theorem flat_until {es : List E} (ho : ∀ e ∈ es, IsE e) {i : Nat} {e : E} (hi : es[i]? = some e) {u : Int} : (flat es).set (i * 17 + 16) (.int .u64 u) = flat (es.set i (e.1, u)) := by
  obtain ⟨hlt, rfl⟩ := List.getElem?_eq_some_iff.1 hi
  have hs : es = es.take i ++ es[i] :: es.drop (i + 1) := by simp
  have hl : (flat (es.take i)).length = i * 17 := by rw [isEnc.flat_len (fun x hx => ho x (List.mem_of_mem_take hx)), List.length_take]; congr 1; omega
  have hr : es.set i (es[i].1, u) = es.take i ++ (es[i].1, u) :: es.drop (i + 1) := by rw [List.set_eq_take_append_cons_drop, if_pos hlt]
  rw [hr, flat, flat, flat_append, flatOf]
  conv => lhs; rw [hs]
  have he := ho es[i] (by simp)
  have hle := isEnc.len _ he
  rw [flat_append, flatOf, List.set_append_right _ _ (by rw [hl]; omega), hl, Nat.add_sub_cancel_left, List.set_append_left _ _ (by rw [hle]; omega)]
  congr 2
  rw [enc, List.set_append_right _ _ (by rw [List.length_map, he.addr.len]; omega), List.length_map, he.addr.len]
  rfl

set_option maxRecDepth 100000 in
set_option maxHeartbeats 4000000 in
theorem put_any (w : World) (B base : Nat) (cs : Array Value) (v0 : Value) (es : List E) (hc : Has cs) (hi : Inv w w B base cs v0 v0 es) (hB : B < base) (hbase : base ≤ w.heap.size) (now life : Int) (hnow : 0 ≤ now ∧ now ≤ 18446744073709551615) (hlife : 0 ≤ life ∧ life ≤ 4294967295)
    (A : Option Addr) (n c : Nat) (xs : List (List Int)) (hx : IsL w (fun k => k ≠ B ∧ v0.ownBlock ≠ some k) A n c xs) :
    Calls Try.prog 21 #[.pointer (some ⟨B, 0, none⟩), .int .u64 now, .int .u32 life, .slice A n c] w fun e w' => (∃ r, e = .returned r) ∧
      ∃ v, Inv w w' B base cs v0 v (putAll sameT (cadd now (csecs life)) life es xs) := by
  have hcm := hx.cmax
  have hcn := hx.cap
  have hl := hx.len
  have hse : 0 ≤ csecs life ∧ csecs life ≤ 9223372036854775807 := by unfold csecs; split <;> omega
  have htil : 0 ≤ cadd now (csecs life) ∧ cadd now (csecs life) ≤ 9223372036854775807 := by unfold cadd; split <;> omega
  unfold maxLen at hcm
  have hx' := hidd hx
  have hi' := hidd hi
  clear hx hi
  obtain ⟨til, ht⟩ : ∃ til, cadd now (csecs life) = til := ⟨_, rfl⟩
  rw [ht] at htil
  go_enter Try.func21, Try.ntmps21
  go_wp2_with (first
    | (go_at_call 37; refine (secs_any life _ (by omega) (by omega)).mono ?_; rintro e w2 ⟨rfl, rfl⟩)
    | (go_at_call 36; refine (add_any now (csecs life) _ (by omega) (by omega) (by omega) (by omega)).mono ?_; rintro e w2 ⟨rfl, rfl⟩))
  go_loopw [19] (fun i wr => ∃ (j : Nat) (v : Value), j ≤ n ∧ i = .int .i64 j ∧ Inv w wr B base cs v0 v (putAll sameT til life es (xs.take j))) (fun i _ => n - (intOf i).toNat)
  case atStart => exact ⟨0, v0, Nat.zero_le _, rfl, hi'.out⟩
  case round =>
    obtain ⟨j, v, hj, rfl, hM⟩ := hrel
    by_cases hjn : j < n
    · obtain ⟨x, hx⟩ : ∃ x, xs[j]? = some x := ⟨_, List.getElem?_eq_getElem (by omega)⟩
      have hsn := putAll_snoc (same := sameT) (til := til) (life := life) (es := es) hx
      obtain ⟨ej, hej⟩ : ∃ ej, putAll sameT til life es (xs.take j) = ej := ⟨_, rfl⟩
      rw [hej] at hM hsn
      obtain ⟨b, off, rfl, hblt, hbp, hr⟩ := (hx'.out.fr hM.fr (fun k hk => by rintro (h | h); exact hk.1 h; exact hk.2 h)).at_ (by omega)
      have hax := hidd (hx'.out.ok x (List.mem_of_getElem? hx))
      have l0 : Hid ((loadVar 31 ⟨b, off + j * 16, none⟩).run Try.prog wr = .ok (.agg (bytesV x)) wr) :=
        run_loadVar_mid (P := Try.prog) wr b (off + j * 16) 31 (encT x) _ (hr j x hx) Try.underlying31 rfl (by rw [encT, List.length_map, hax.out.len]; exact info31)
      obtain ⟨s, Ss⟩ : ∃ s, wr.heap.size = s := ⟨_, rfl⟩
      have hM' := hidd hM
      have hvs : ∀ k, v.ownBlock = some k → k < s := fun k hk => by have := (hM'.out.own.lt k hk).2; omega
      have hsB : s ≠ B := by have := (hM'.out.isS hc).lt; omega
      clear hM hr
      go_wp2_with (first
        | (with_reducible show wpList _ _ _ (⟨_, Op.load 31 _, _, _, _, _⟩ :: _) _ _; refine wpList_load_want (by kernel_rfl) 31 _ rfl _ rfl _ (by with_reducible first | exact l0.out | exact l1.out) ?_)
        | (with_reducible show wpList _ _ _ (⟨_, Op.store 31 (.tmp 10) _, _, _, _, _⟩ :: _) _ _
           refine wpList_store_new rfl rfl 31 (.tmp 10) _ rfl _ _ (bytesV x) rfl Ss.symm rfl (size_a hax.out) (Eq.trans (b := 16) (by kernel_rfl) (by rw [bytesV_size, hax.out.len])) (all_oneCell_toArray (ints_one .u8 x)) ?_
           have M1 := hidd (hM'.out.to ((Below.refl wr.heap.size wr).alloc (Nat.le_refl _) (.cells (bytesV x) 31)))
           have K1 : Hid (Blk (wr.alloc (.cells (bytesV x) 31)) s 31 (bytesV x)) := by rw [← Ss]; exact Blk.new wr 31 (bytesV x)
           generalize wr.alloc (.cells (bytesV x) 31) = V1 at M1 K1 ⊢
           have l1 := hidd (K1.out.load (P := Try.prog) Try.underlying31 rfl (size_a hax.out))
           clear l0 hM'))
      obtain ⟨Av, cv, hv, hK⟩ := M1.out.isK
      subst hv
      have hcap := hK.rd.cap
      have hcmx := hK.rd.cmax
      unfold maxLen at hcmx
      refine (at_any _ B Av _ cv ej (M1.out.isS hc) hK x
        hax.out
        ).mono ?_
      rintro r V2 ⟨rfl, b2⟩
      have M2 := hidd (M1.out.to b2)
      have K2 := hidd (K1.out.below b2 K1.out.lt)
      clear l1 K1
      have c1 := (M2.out.isS hc).row
      have fz := (M2.out.isS hc).thaw
      have hBV := (M2.out.isS hc).lt
      have hws := M2.out.fr.size
      clear b2 hK M1
      rcases idx_cases (p := fun e => sameT e.1 x) ej with ⟨hi1, hany⟩ | ⟨i, e, hi1, hei, hpe, _⟩
      · by_cases hz : life = 0
        · have hzb : (life == 0) = true := by simp [hz]
          have hst := putOne_none (til := til) hi1 hz
          rw [hi1]
          clear hz
          go_wp2
          go_roundw
          case rel => exact ⟨j + 1, _, by omega, by go_num, by rw [hsn, hst]; exact M2.out⟩
          case measure => simp [intOf]; omega
        · have hzb : (life == 0) = false := by simp [hz]
          have c4 := (M2.out.isS hc).most
          by_cases hn : ej.length < 4
          · have hst := putOne_new (til := til) hi1 hz hn
            have hnz : (ej.length : Int) < 4 := by omega
            have hne : IsE (x, til) := {
                addr := hax.out,
                lo := htil.1, hi := by show til ≤ _; omega }
            have hok : ∀ y ∈ ej ++ [(x, til)], IsE y := fun y hy => by
              rcases List.mem_append.1 hy with hy | hy
              · exact M2.out.ok y hy
              · rw [List.mem_singleton.1 hy]; exact hne
            rw [hi1]
            clear hz hn
            go_wp2_with fail
            go_region
            go_wp2_with fail
            have MD : Hid (Inv w V2.drew.drew B base cs v0 (.slice Av ej.length cv) ej) := M2.out.to (Below.refl _ V2).drew.drew
            have KD : Hid (Blk V2.drew.drew s 31 (bytesV x)) := K2
            have S2 : Hid ((loadVar 31 ⟨s, 0, none⟩).run Try.prog V2.drew.drew = .ok (.agg (bytesV x)) V2.drew.drew) := KD.out.load Try.underlying31 rfl (size_a hax.out)
            have cD : V2.drew.drew.cell? ⟨B, 1, none⟩ = some (.slice Av ej.length cv) := c1
            have hDb : base ≤ V2.drew.drew.heap.size := Nat.le_trans hbase hws
            have hsv : ¬ (Value.slice Av ej.length cv).ownBlock = some s := fun h => absurd (hvs s h) (Nat.lt_irrefl s)
            have hbu := builtE hax.out til
            clear c1 fz c4
            refine wp_region_held_drew (S := (fun V => (loadVar 31 ⟨s, 0, none⟩).run Try.prog V = .ok (.agg (bytesV x)) V)) (by kernel_rfl) S2.out (fun hHeld => ?_)
            generalize V2.drew.drew = D at MD KD S2 cD hDb hHeld ⊢
            refine wpAnyH_take (i := 0) (v := ?_) rfl (by kernel_rfl) (by kernel_rfl) (by kernel_rfl) (fun _ _ _ h => h) (Or.inl ⟨by kernel_rfl, ?_⟩) hHeld ?_
            rotate_left
            · intro wh hSw
              go_simp
              try with_reducible rfl
            try simp only [Act.put, List.getElem_toArray, List.getElem_cons_zero, List.getElem_cons_succ, List.setIfInBounds_toArray, List.set_cons_zero, List.set_cons_succ]
            refine wpAnyH_take (i := 1) (v := ?_) rfl (by kernel_rfl) (by kernel_rfl) (by kernel_rfl) (fun _ _ _ h => h) (Or.inl ⟨by kernel_rfl, ?_⟩) hHeld ?_
            rotate_left
            · intro wh hSw
              go_simp
              try with_reducible rfl
            try simp only [Act.put, List.getElem_toArray, List.getElem_cons_zero, List.getElem_cons_succ, List.setIfInBounds_toArray, List.set_cons_zero, List.set_cons_succ]
            refine wpAnyH_take (i := 2) (v := ?_) rfl (by kernel_rfl) (by kernel_rfl) (by kernel_rfl) (fun _ _ _ h => h) (Or.inl ⟨by kernel_rfl, ?_⟩) hHeld ?_
            rotate_left
            · intro wh hSw
              go_simp
              try with_reducible rfl
            try simp only [Act.put, List.getElem_toArray, List.getElem_cons_zero, List.getElem_cons_succ, List.setIfInBounds_toArray, List.set_cons_zero, List.set_cons_succ]
            refine wpAnyH_take (i := 3) (v := ?_) rfl (by kernel_rfl) (by kernel_rfl) (by kernel_rfl) (fun _ _ _ h => h) (Or.inl ⟨by kernel_rfl, ?_⟩) hHeld ?_
            rotate_left
            · intro wh hSw
              go_simp
              try with_reducible rfl
            try simp only [Act.put, List.getElem_toArray, List.getElem_cons_zero, List.getElem_cons_succ, List.setIfInBounds_toArray, List.set_cons_zero, List.set_cons_succ]
            refine wpAnyH_take (i := 5) rfl (by kernel_rfl) (by kernel_rfl) (by kernel_rfl) (fun _ _ _ h => h) (yieldsIf_load_want (by kernel_rfl) 31 _ rfl _ rfl _ (fun wh hSw => hSw)) hHeld ?_
            try simp only [Act.put, List.getElem_toArray, List.getElem_cons_zero, List.getElem_cons_succ, List.setIfInBounds_toArray, List.set_cons_zero, List.set_cons_succ]
            refine wpAnyH_take (i := 6) (v := ?_) rfl (by kernel_rfl) (by kernel_rfl) (by kernel_rfl) (fun _ _ _ h => h) (Or.inl ⟨by kernel_rfl, ?_⟩) hHeld ?_
            rotate_left
            · intro wh hSw
              go_simp
              try with_reducible rfl
            try simp only [Act.put, List.getElem_toArray, List.getElem_cons_zero, List.getElem_cons_succ, List.setIfInBounds_toArray, List.set_cons_zero, List.set_cons_succ]
            refine wpAnyH_take (i := 7) rfl (by kernel_rfl) (by kernel_rfl) (by kernel_rfl) (fun _ _ _ h => h) (yieldsIf_build_want (by kernel_rfl) 68 _ rfl (encV (x, til)) (Eq.trans (b := Try.prog.built 68 [(0, .agg (bytesV x)), (1, .int .u64 til)]) (by kernel_rfl) hbu)) hHeld ?_
            try simp only [Act.put, List.getElem_toArray, List.getElem_cons_zero, List.getElem_cons_succ, List.setIfInBounds_toArray, List.set_cons_zero, List.set_cons_succ]
            refine wpAnyH_ready (rs := [4, 8]) (by kernel_rfl) (by simp) (AllReadyH.cons rfl (fun K hK => ?_) (AllReadyH.cons rfl (fun K hK => ?_) AllReadyH.nil))
            · skip
              clear hHeld
              go_simp
              refine hK.out _ _ S2.out (fun hHeld => ?_)
              clear hK K
              try simp only [Act.put, List.getElem_toArray, List.getElem_cons_zero, List.getElem_cons_succ, List.setIfInBounds_toArray, List.set_cons_zero, List.set_cons_succ]
              refine wpAnyH_ready (rs := [8]) (by kernel_rfl) (by simp) (AllReadyH.cons rfl (fun K hK => ?_) AllReadyH.nil)
              clear hHeld
              refine step_bs1 _ rfl (.tmp 97) slTy (by decide) rfl (encV (x, til)) rfl (encV_size hne) ?_
              have M3 := hidd (MD.out.to ((Below.refl D.heap.size D).alloc (Nat.le_refl _) (.cells (encV (x, til)) 68)))
              have R3 := hidd (rd_one D 68 17 (encV (x, til)) (encV_size hne))
              have S3 : Hid ((loadVar 31 ⟨s, 0, none⟩).run Try.prog (D.alloc (.cells (encV (x, til)) 68)) = .ok (.agg (bytesV x)) (D.alloc (.cells (encV (x, til)) 68))) := (KD.out.alloc _).load Try.underlying31 rfl (size_a hax.out)
              have K3 := hidd (KD.out.alloc (.cells (encV (x, til)) 68))
              have b3 : base ≤ (D.alloc (.cells (encV (x, til)) 68)).heap.size := by simp; omega
              generalize D.alloc (.cells (encV (x, til)) 68) = V3 at M3 R3 S3 K3 b3 ⊢
              refine hK.out _ _ S3.out (fun hHeld => ?_)
              clear hK K
              try simp only [Act.put, List.getElem_toArray, List.getElem_cons_zero, List.getElem_cons_succ, List.setIfInBounds_toArray, List.set_cons_zero, List.set_cons_succ]
              refine wpAnyH_ready (rs := [9]) (by kernel_rfl) (by simp) (AllReadyH.cons rfl (fun K hK => ?_) AllReadyH.nil)
              clear hHeld
              refine step_append_rd (v := .slice Av ej.length cv) V3 rfl (.tmp 94) (.tmp 98) slTy rfl rfl M3.out.own rfl R3.out (by intro u hu; exact isEnc.one (x, til) u (by simpa [encV] using hu)) (by unfold maxLen; omega) (by omega) b3 ?_
              intro v5 w5 o5 g5 t5 l5
              clear l5
              obtain ⟨A5, c5, rfl⟩ := slice_of_own o5
              have f5 := Fr.of_grown g5
              have c3 := (f5.cell (p := ⟨B, 1, none⟩) (M3.out.isS hc).lt (fun h => M3.out.lt hB h rfl)).trans (M3.out.isS hc).row
              have fz3 := (f5.frozen (p := ⟨B, 1, none⟩) (M3.out.isS hc).lt (fun h => M3.out.lt hB h rfl)).trans (M3.out.isS hc).thaw
              have M5 : Hid (Inv w (w5.setCell ⟨B, 1, none⟩ (.slice A5 (ej.length + 1) c5)) B base cs v0 (.slice A5 (ej.length + 1) c5) (ej ++ [(x, til)])) := M3.out.turn hB f5 (by rw [List.length_append, flat, flat_append]; simpa [flatOf, encV] using o5) hok (fun k hk => by rcases t5 with e | e <;> rw [e] at hk; exact .inl hk; exact .inr (by injection hk with hk; omega))
              have S5 : Hid ((loadVar 31 ⟨s, 0, none⟩).run Try.prog w5 = .ok (.agg (bytesV x)) w5) := (K3.out.fr f5 hsv).load Try.underlying31 rfl (size_a hax.out)
              have S6 : Hid ((loadVar 31 ⟨s, 0, none⟩).run Try.prog (w5.setCell ⟨B, 1, none⟩ (.slice A5 (ej.length + 1) c5)) = .ok (.agg (bytesV x)) (w5.setCell ⟨B, 1, none⟩ (.slice A5 (ej.length + 1) c5))) := ((K3.out.fr f5 hsv).far hsB (.slice A5 (ej.length + 1) c5)).load Try.underlying31 rfl (size_a hax.out)
              clear o5 g5 t5 f5
              refine hK.out _ _ S5.out (fun hHeld => ?_)
              clear hK K
              try simp only [Act.put, List.getElem_toArray, List.getElem_cons_zero, List.getElem_cons_succ, List.setIfInBounds_toArray, List.set_cons_zero, List.set_cons_succ]
              refine wpAnyH_take (i := 10) (v := ?_) rfl (by kernel_rfl) (by kernel_rfl) (by kernel_rfl) (fun _ _ _ h => h) (Or.inl ⟨by kernel_rfl, ?_⟩) hHeld ?_
              rotate_left
              · intro wh hSw
                go_simp
                try with_reducible rfl
              try simp only [Act.put, List.getElem_toArray, List.getElem_cons_zero, List.getElem_cons_succ, List.setIfInBounds_toArray, List.set_cons_zero, List.set_cons_succ]
              refine wpAnyH_take (i := 11) (v := ?_) rfl (by kernel_rfl) (by kernel_rfl) (by kernel_rfl) (fun _ _ _ h => h) (Or.inl ⟨by kernel_rfl, ?_⟩) hHeld ?_
              rotate_left
              · intro wh hSw
                go_simp
                try with_reducible rfl
              try simp only [Act.put, List.getElem_toArray, List.getElem_cons_zero, List.getElem_cons_succ, List.setIfInBounds_toArray, List.set_cons_zero, List.set_cons_succ]
              refine wpAnyH_ready (rs := [12]) (by kernel_rfl) (by simp) (AllReadyH.cons rfl (fun K hK => ?_) AllReadyH.nil)
              clear hHeld
              go_simp
              refine hK.out _ _ S6.out (fun hHeld => ?_)
              clear hK K
              try simp only [Act.put, List.getElem_toArray, List.getElem_cons_zero, List.getElem_cons_succ, List.setIfInBounds_toArray, List.set_cons_zero, List.set_cons_succ]
              refine wpAnyH_done (by kernel_rfl) ?_ _
              clear hHeld
              go_wp2
              go_roundw
              case rel => exact ⟨j + 1, _, by omega, by go_num, by rw [hsn, hst]; exact M5.out⟩
              case measure => simp [intOf]; omega
            · skip
              clear hHeld
              refine step_bs1 _ rfl (.tmp 97) slTy (by decide) rfl (encV (x, til)) rfl (encV_size hne) ?_
              have M3 := hidd (MD.out.to ((Below.refl D.heap.size D).alloc (Nat.le_refl _) (.cells (encV (x, til)) 68)))
              have R3 := hidd (rd_one D 68 17 (encV (x, til)) (encV_size hne))
              have S3 : Hid ((loadVar 31 ⟨s, 0, none⟩).run Try.prog (D.alloc (.cells (encV (x, til)) 68)) = .ok (.agg (bytesV x)) (D.alloc (.cells (encV (x, til)) 68))) := (KD.out.alloc _).load Try.underlying31 rfl (size_a hax.out)
              have K3 := hidd (KD.out.alloc (.cells (encV (x, til)) 68))
              have b3 : base ≤ (D.alloc (.cells (encV (x, til)) 68)).heap.size := by simp; omega
              generalize D.alloc (.cells (encV (x, til)) 68) = V3 at M3 R3 S3 K3 b3 ⊢
              refine hK.out _ _ S3.out (fun hHeld => ?_)
              clear hK K
              try simp only [Act.put, List.getElem_toArray, List.getElem_cons_zero, List.getElem_cons_succ, List.setIfInBounds_toArray, List.set_cons_zero, List.set_cons_succ]
              refine wpAnyH_ready (rs := [4]) (by kernel_rfl) (by simp) (AllReadyH.cons rfl (fun K hK => ?_) AllReadyH.nil)
              clear hHeld
              have c4' := (M3.out.isS hc).row
              go_simp
              clear c4'
              refine hK.out _ _ S3.out (fun hHeld => ?_)
              clear hK K
              try simp only [Act.put, List.getElem_toArray, List.getElem_cons_zero, List.getElem_cons_succ, List.setIfInBounds_toArray, List.set_cons_zero, List.set_cons_succ]
              refine wpAnyH_ready (rs := [9]) (by kernel_rfl) (by simp) (AllReadyH.cons rfl (fun K hK => ?_) AllReadyH.nil)
              clear hHeld
              refine step_append_rd (v := .slice Av ej.length cv) V3 rfl (.tmp 94) (.tmp 98) slTy rfl rfl M3.out.own rfl R3.out (by intro u hu; exact isEnc.one (x, til) u (by simpa [encV] using hu)) (by unfold maxLen; omega) (by omega) b3 ?_
              intro v5 w5 o5 g5 t5 l5
              clear l5
              obtain ⟨A5, c5, rfl⟩ := slice_of_own o5
              have f5 := Fr.of_grown g5
              have c3 := (f5.cell (p := ⟨B, 1, none⟩) (M3.out.isS hc).lt (fun h => M3.out.lt hB h rfl)).trans (M3.out.isS hc).row
              have fz3 := (f5.frozen (p := ⟨B, 1, none⟩) (M3.out.isS hc).lt (fun h => M3.out.lt hB h rfl)).trans (M3.out.isS hc).thaw
              have M5 : Hid (Inv w (w5.setCell ⟨B, 1, none⟩ (.slice A5 (ej.length + 1) c5)) B base cs v0 (.slice A5 (ej.length + 1) c5) (ej ++ [(x, til)])) := M3.out.turn hB f5 (by rw [List.length_append, flat, flat_append]; simpa [flatOf, encV] using o5) hok (fun k hk => by rcases t5 with e | e <;> rw [e] at hk; exact .inl hk; exact .inr (by injection hk with hk; omega))
              have S5 : Hid ((loadVar 31 ⟨s, 0, none⟩).run Try.prog w5 = .ok (.agg (bytesV x)) w5) := (K3.out.fr f5 hsv).load Try.underlying31 rfl (size_a hax.out)
              have S6 : Hid ((loadVar 31 ⟨s, 0, none⟩).run Try.prog (w5.setCell ⟨B, 1, none⟩ (.slice A5 (ej.length + 1) c5)) = .ok (.agg (bytesV x)) (w5.setCell ⟨B, 1, none⟩ (.slice A5 (ej.length + 1) c5))) := ((K3.out.fr f5 hsv).far hsB (.slice A5 (ej.length + 1) c5)).load Try.underlying31 rfl (size_a hax.out)
              clear o5 g5 t5 f5
              refine hK.out _ _ S5.out (fun hHeld => ?_)
              clear hK K
              try simp only [Act.put, List.getElem_toArray, List.getElem_cons_zero, List.getElem_cons_succ, List.setIfInBounds_toArray, List.set_cons_zero, List.set_cons_succ]
              refine wpAnyH_take (i := 10) (v := ?_) rfl (by kernel_rfl) (by kernel_rfl) (by kernel_rfl) (fun _ _ _ h => h) (Or.inl ⟨by kernel_rfl, ?_⟩) hHeld ?_
              rotate_left
              · intro wh hSw
                go_simp
                try with_reducible rfl
              try simp only [Act.put, List.getElem_toArray, List.getElem_cons_zero, List.getElem_cons_succ, List.setIfInBounds_toArray, List.set_cons_zero, List.set_cons_succ]
              refine wpAnyH_take (i := 11) (v := ?_) rfl (by kernel_rfl) (by kernel_rfl) (by kernel_rfl) (fun _ _ _ h => h) (Or.inl ⟨by kernel_rfl, ?_⟩) hHeld ?_
              rotate_left
              · intro wh hSw
                go_simp
                try with_reducible rfl
              try simp only [Act.put, List.getElem_toArray, List.getElem_cons_zero, List.getElem_cons_succ, List.setIfInBounds_toArray, List.set_cons_zero, List.set_cons_succ]
              refine wpAnyH_ready (rs := [12]) (by kernel_rfl) (by simp) (AllReadyH.cons rfl (fun K hK => ?_) AllReadyH.nil)
              clear hHeld
              go_simp
              refine hK.out _ _ S6.out (fun hHeld => ?_)
              clear hK K
              try simp only [Act.put, List.getElem_toArray, List.getElem_cons_zero, List.getElem_cons_succ, List.setIfInBounds_toArray, List.set_cons_zero, List.set_cons_succ]
              refine wpAnyH_done (by kernel_rfl) ?_ _
              clear hHeld
              go_wp2
              go_roundw
              case rel => exact ⟨j + 1, _, by omega, by go_num, by rw [hsn, hst]; exact M5.out⟩
              case measure => simp [intOf]; omega
          · have hnz : ¬ (ej.length : Int) < 4 := by omega
            obtain ⟨q, hq⟩ : ∃ q, oldAt (ej.map (·.2)) ej.length = q := ⟨_, rfl⟩
            have hql : q < ej.length := by have := oldAt_lt (ej.map (·.2)) ej.length (by omega); omega
            obtain ⟨o, ho⟩ : ∃ o, ej[q]? = some o := ⟨_, List.getElem?_eq_getElem hql⟩
            obtain ⟨g, cg, hA, hbg, hgl⟩ := own_pos M2.out.own (by omega)
            injection hA with hA hA2 hA3
            subst hA hA3
            have hgB : B ≠ g := by omega
            have hsg : s ≠ g := by have := hvs g rfl; omega
            have hstS := hidd (fun h => putOne_old (til := til) (life := life) (x := x) hi1 hz hn hq ho h)
            have hstN := hidd (fun h => putOne_full (til := til) (life := life) (x := x) hi1 hz hn hq ho h)
            have hne : IsE (x, til) := {
                addr := hax.out,
                lo := htil.1, hi := by show til ≤ _; omega }
            have hok : ∀ y ∈ ej.set q (x, til), IsE y := fun y hy => by
              rcases List.mem_or_eq_of_mem_set hy with hy | rfl
              · exact M2.out.ok y hy
              · exact hne
            rw [hi1]
            clear hz hn
            go_wp2_with fail
            go_region
            go_wp2_with fail
            have MD : Hid (Inv w V2.drew B base cs v0 (.slice (some ⟨g, 0, none⟩) ej.length cv) ej) := M2.out.to (Below.refl _ V2).drew
            refine (oldest_any V2.drew B _ ej.length cv ej (MD.out.isS hc) (Ls.of_own MD.out.own rfl MD.out.ok)).mono ?_
            rintro r V3 ⟨rfl, b3⟩
            rw [hq]
            have M4 : Hid (Inv w V3 B base cs v0 (.slice (some ⟨g, 0, none⟩) ej.length cv) ej) := MD.out.to b3
            have c1' : V3.cell? ⟨B, 1, none⟩ = some (.slice (some ⟨g, 0, none⟩) ej.length cv) := (M4.out.isS hc).row
            have c5 : V3.cell? ⟨g, q * 17 + 16, none⟩ = some (.int .u64 o.2) := by
              have := until_at (o := 0) (i := q) (W := V3) (b := g) (e := o) (by rw [Nat.zero_add]; exact own_range M4.out.own isEnc rfl M4.out.ok ho) (M2.out.ok o (List.mem_of_getElem? ho)); rwa [Nat.zero_add] at this
            have hqz : (q : Int) < (ej.length : Int) := by omega
            have K4 : Hid (Blk V3.drew s 31 (bytesV x)) := (K2.out.drew.below b3 K2.out.lt).drew
            clear c1 c4 fz MD b3
            by_cases hle : o.2 ≤ til
            · have hst := hstS.out hle
              have c4 : V3.drew.cell? ⟨B, 1, none⟩ = some (.slice (some ⟨g, 0, none⟩) ej.length cv) := c1'
              have S4 : Hid (V3.drew.cell? ⟨B, 1, none⟩ = some (.slice (some ⟨g, 0, none⟩) ej.length cv) ∧ (loadVar 31 ⟨s, 0, none⟩).run Try.prog V3.drew = .ok (.agg (bytesV x)) V3.drew) := ⟨c1', K4.out.load Try.underlying31 rfl (size_a hax.out)⟩
              have hbu := builtE hax.out til
              go_wp2_with fail
              have M4 : Hid (Inv w V3.drew B base cs v0 (.slice (some ⟨g, 0, none⟩) ej.length cv) ej) := M4.out.to (Below.refl _ V3).drew
              refine wp_region_held_drew (S := (fun V => V.cell? ⟨B, 1, none⟩ = some (.slice (some ⟨g, 0, none⟩) ej.length cv) ∧ (loadVar 31 ⟨s, 0, none⟩).run Try.prog V = .ok (.agg (bytesV x)) V)) (by kernel_rfl) S4.out (fun hHeld => ?_)
              generalize V3.drew = D at M4 K4 S4 c4 hHeld ⊢
              refine wpAnyH_take (i := 0) (v := ?_) rfl (by kernel_rfl) (by kernel_rfl) (by kernel_rfl) (fun _ _ _ h => h) (Or.inl ⟨by kernel_rfl, ?_⟩) hHeld ?_
              rotate_left
              · intro wh hSw
                go_simp
                try with_reducible rfl
              try simp only [Act.put, List.getElem_toArray, List.getElem_cons_zero, List.getElem_cons_succ, List.setIfInBounds_toArray, List.set_cons_zero, List.set_cons_succ]
              refine wpAnyH_take (i := 1) (v := ?_) rfl (by kernel_rfl) (by kernel_rfl) (by kernel_rfl) (fun _ _ _ h => h) (Or.inl ⟨by kernel_rfl, ?_⟩) hHeld ?_
              rotate_left
              · intro wh hSw
                go_simp
                try with_reducible rfl
              try simp only [Act.put, List.getElem_toArray, List.getElem_cons_zero, List.getElem_cons_succ, List.setIfInBounds_toArray, List.set_cons_zero, List.set_cons_succ]
              refine wpAnyH_take (i := 2) (v := ?_) rfl (by kernel_rfl) (by kernel_rfl) (by kernel_rfl) (fun _ _ _ h => h) (Or.inl ⟨by kernel_rfl, ?_⟩) hHeld ?_
              rotate_left
              · intro wh hSw
                go_simp
                try with_reducible rfl
              try simp only [Act.put, List.getElem_toArray, List.getElem_cons_zero, List.getElem_cons_succ, List.setIfInBounds_toArray, List.set_cons_zero, List.set_cons_succ]
              refine wpAnyH_take (i := 3) (v := ?_) rfl (by kernel_rfl) (by kernel_rfl) (by kernel_rfl) (fun _ _ _ h => h) (Or.inl ⟨by kernel_rfl, ?_⟩) hHeld ?_
              rotate_left
              · intro wh hSw
                have hcell := hSw.1
                go_simp
                try with_reducible rfl
              try simp only [Act.put, List.getElem_toArray, List.getElem_cons_zero, List.getElem_cons_succ, List.setIfInBounds_toArray, List.set_cons_zero, List.set_cons_succ]
              refine wpAnyH_take (i := 4) (v := ?_) rfl (by kernel_rfl) (by kernel_rfl) (by kernel_rfl) (fun _ _ _ h => h) (Or.inl ⟨by kernel_rfl, ?_⟩) hHeld ?_
              rotate_left
              · intro wh hSw
                go_simp
                try with_reducible rfl
              try simp only [Act.put, List.getElem_toArray, List.getElem_cons_zero, List.getElem_cons_succ, List.setIfInBounds_toArray, List.set_cons_zero, List.set_cons_succ]
              refine wpAnyH_take (i := 5) rfl (by kernel_rfl) (by kernel_rfl) (by kernel_rfl) (fun _ _ _ h => h) (yieldsIf_load_want (by kernel_rfl) 31 _ rfl _ rfl _ (fun wh hSw => hSw.2)) hHeld ?_
              try simp only [Act.put, List.getElem_toArray, List.getElem_cons_zero, List.getElem_cons_succ, List.setIfInBounds_toArray, List.set_cons_zero, List.set_cons_succ]
              refine wpAnyH_take (i := 6) (v := ?_) rfl (by kernel_rfl) (by kernel_rfl) (by kernel_rfl) (fun _ _ _ h => h) (Or.inl ⟨by kernel_rfl, ?_⟩) hHeld ?_
              rotate_left
              · intro wh hSw
                go_simp
                try with_reducible rfl
              try simp only [Act.put, List.getElem_toArray, List.getElem_cons_zero, List.getElem_cons_succ, List.setIfInBounds_toArray, List.set_cons_zero, List.set_cons_succ]
              refine wpAnyH_take (i := 7) rfl (by kernel_rfl) (by kernel_rfl) (by kernel_rfl) (fun _ _ _ h => h) (yieldsIf_build_want (by kernel_rfl) 68 _ rfl (encV (x, til)) (Eq.trans (b := Try.prog.built 68 [(0, .agg (bytesV x)), (1, .int .u64 til)]) (by kernel_rfl) hbu)) hHeld ?_
              try simp only [Act.put, List.getElem_toArray, List.getElem_cons_zero, List.getElem_cons_succ, List.setIfInBounds_toArray, List.set_cons_zero, List.set_cons_succ]
              refine wpAnyH_take (i := 8) (v := ?_) rfl (by kernel_rfl) (by kernel_rfl) (by kernel_rfl) (fun _ _ _ h => h) (Or.inl ⟨by kernel_rfl, ?_⟩) hHeld ?_
              rotate_left
              · intro wh hSw
                go_simp
                try with_reducible rfl
              try simp only [Act.put, List.getElem_toArray, List.getElem_cons_zero, List.getElem_cons_succ, List.setIfInBounds_toArray, List.set_cons_zero, List.set_cons_succ]
              refine wpAnyH_ready (rs := [9]) (by kernel_rfl) (by simp) (AllReadyH.cons rfl (fun K hK => ?_) AllReadyH.nil)
              clear hHeld
              refine step_store_vals _ rfl rfl 68 (.tmp 46) (.tmp 45) rfl g (q * 17) (enc (x, til)) rfl rfl (by rw [isEnc.len _ hne]; exact own_there M4.out.own (by rw [show q * 17 + 17 = (q + 1) * 17 by omega]; exact Nat.mul_le_mul_right _ (by omega))) (by rw [isEnc.len _ hne]; exact infoE) (isEnc.one _) ?_
              have M5 : Hid (Inv w (D.setCells g (q * 17) (enc (x, til))) B base cs v0 _ (ej.set q (x, til))) := M4.out.turn' hB ((fr_cells D g (enc (x, til)) (q * 17)).mono (fun k _ hk => by rw [show k = g from hk]; rfl)) (by rw [List.length_set]; exact own_store M4.out.own isEnc M4.out.ok hne hql) hok
              have S5 : Hid ((D.setCells g (q * 17) (enc (x, til))).cell? ⟨B, 1, none⟩ = some (.slice (some ⟨g, 0, none⟩) ej.length cv) ∧ (loadVar 31 ⟨s, 0, none⟩).run Try.prog (D.setCells g (q * 17) (enc (x, til))) = .ok (.agg (bytesV x)) (D.setCells g (q * 17) (enc (x, til)))) := ⟨((fr_cells D g (enc (x, til)) (q * 17)).cell (p := ⟨B, 1, none⟩) (M4.out.isS hc).lt hgB).trans c4, (Blk.farCells g (enc (x, til)) (q * 17) D K4.out hsg).load Try.underlying31 rfl (size_a hax.out)⟩
              refine hK.out _ _ S5.out (fun hHeld => ?_)
              clear hK K
              try simp only [Act.put, List.getElem_toArray, List.getElem_cons_zero, List.getElem_cons_succ, List.setIfInBounds_toArray, List.set_cons_zero, List.set_cons_succ]
              refine wpAnyH_done (by kernel_rfl) ?_ _
              clear hHeld
              go_wp2
              go_roundw
              case rel => exact ⟨j + 1, _, by omega, by go_num, by rw [hsn, hst]; exact M5.out⟩
              case measure => simp [intOf]; omega
            · have hst := hstN.out (by omega)
              go_wp2
              go_roundw
              case rel => exact ⟨j + 1, _, by omega, by go_num, by rw [hsn, hst]; exact M4.out⟩
              case measure => simp [intOf]; omega
      · have hij := (List.getElem?_eq_some_iff.1 hei).1
        obtain ⟨g, cg, hA, hbg, hgl⟩ := own_pos M2.out.own (by omega)
        injection hA with hA hA2 hA3
        subst hA hA3
        have hgB : B ≠ g := by omega
        have hge : ((i : Int) ≥ 0) := by omega
        by_cases hz : life = 0
        · have hzb : (life == 0) = true := by simp [hz]
          have hst := putOne_gone (til := til) hi1 hz
          have hle : (ej.eraseIdx i).length = ej.length - 1 := by rw [List.length_eraseIdx_of_lt hij]
          have hok : ∀ y ∈ ej.eraseIdx i, IsE y := fun y hy => M2.out.ok y (List.mem_of_mem_eraseIdx hy)
          rw [hi1]
          clear hz
          go_wp2_with (go_at_call 39
                       refine (delete_any V2 base g ej.length cv i (flat ej) M2.out.own (isEnc.flat_one _) hij).mono ?_
                       rintro r V3 ⟨rfl, o3, f3⟩
                       rw [isEnc.flat_cut M2.out.ok] at o3
                       have c3 := (f3.cell (p := ⟨B, 1, none⟩) hBV hgB).trans c1
                       have fz3 := (f3.frozen (p := ⟨B, 1, none⟩) hBV hgB).trans fz
                       have M3 : Hid (Inv w (V3.setCell ⟨B, 1, none⟩ (.slice (some ⟨g, 0, none⟩) (ej.length - 1) cv)) B base cs v0 _ (ej.eraseIdx i)) := M2.out.turn hB (f3.mono (fun k _ hk => by rw [hk]; rfl)) (by rw [hle]; exact o3) hok (fun k hk => .inl hk)
                       clear o3 f3)
          go_roundw
          case rel => exact ⟨j + 1, _, by omega, by go_num, by rw [hsn, hst]; exact M3.out⟩
          case measure => simp [intOf]; omega
        · have hzb : (life == 0) = false := by simp [hz]
          have hst := putOne_set (til := til) hi1 hei hz
          have hrg := own_range M2.out.own isEnc rfl M2.out.ok hei
          have ce : V2.cell? ⟨g, i * 17 + 16, none⟩ = some (.int .u64 e.2) := by have := until_at (o := 0) (i := i) (W := V2) (b := g) (e := e) (by rw [Nat.zero_add]; exact hrg) (M2.out.ok e (List.mem_of_getElem? hei)); rwa [Nat.zero_add] at this
          have fe := M2.out.own.frozenAt (i * 17 + 16)
          have M3 : Hid (Inv w (V2.setCell ⟨g, i * 17 + 16, none⟩ (.int .u64 til)) B base cs v0 _ (ej.set i (e.1, til))) := M2.out.turn' hB (((Fr.refl (· = g) V2).setB _).mono (fun k _ hk => by rw [hk]; rfl)) (by rw [List.length_set, ← flat_until M2.out.ok hei]; exact (M2.out.own.stored _ _).1) (fun y hy => by
            rcases List.mem_or_eq_of_mem_set hy with hy | rfl
            · exact M2.out.ok y hy
            · exact {
                addr := (M2.out.ok e (List.mem_of_getElem? hei)).addr,
                lo := htil.1, hi := by omega })
          clear hrg
          rw [hi1]
          go_wp2
          go_roundw
          case rel => exact ⟨j + 1, _, by omega, by go_num, by rw [hsn, hst]; exact M3.out⟩
          case measure => simp [intOf]; omega
    · have hjn' : j = n := by omega
      subst hjn'
      rw [List.take_of_length_le (by omega)] at hM
      go_wp2
      go_end0
      rw [ht]
      exact ⟨⟨_, rfl⟩, v, hM⟩
end Go.Proofs.Ytajlgglknianlaa.Sv
