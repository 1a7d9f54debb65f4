/- Things told, one by one, walked once. No condition. -/
import Derived.Test.YtajlgglknianlaaDmOld
import Derived.Test.YtajlgglknianlaaDmDel
import Derived.Deep.RegionHeld3
namespace Go.Proofs.Ytajlgglknianlaa.Dm
open Go.Proofs.Ytajlgglknianlaa Go.ChangeShapes Go.WideShapes Go.ChangeAt Go.RowKit Go.Deep
set_option linter.unusedVariables false
set_option linter.unusedSimpArgs false

def encT (x : ByteArray) : List Value := [.string x]
/-- A list of things, in blocks that meet p. -/
structure IsL (W : World) (p : Nat → Prop) (A : Option Addr) (n c : Nat) (xs : List (ByteArray)) : Prop where
  cap : n ≤ c
  cmax : c ≤ maxLen
  len : xs.length = n
  at_ : 0 < n → ∃ b off, A = some ⟨b, off, none⟩ ∧ b < W.heap.size ∧ p b ∧ ∀ j x, xs[j]? = some x → W.rangeAt b (off + j * 1) (encT x)
theorem range_fr {w W : World} {S : Nat → Prop} {b o : Nat} {vs : List Value} (h : w.rangeAt b o vs) (hf : Fr S w W) (hb : b < w.heap.size) (hS : ¬ S b) : W.rangeAt b o vs :=
  fun j v hv => (hf.cell (p := ⟨b, o + j, none⟩) hb hS).trans (h j v hv)
theorem IsL.fr {w W : World} {p S : Nat → Prop} {A : Option Addr} {n c : Nat} {xs : List (ByteArray)} (h : IsL w p A n c xs) (hf : Fr S w W) (hS : ∀ k, p k → ¬ S k) : IsL W p A n c xs :=
  ⟨h.cap, h.cmax, h.len,
    fun hn => by
    obtain ⟨b, off, e, hb, hp, hc⟩ := h.at_ hn
    exact ⟨b, off, e, Nat.lt_of_lt_of_le hb hf.size, hp, fun j x hx => range_fr (hc j x hx) hf hb (hS b hp)⟩⟩

/-- A shelf while things are told: its block, its list, what has turned. -/
structure Inv (w W : World) (B base : Nat) (cs : Array Value) (v0 v : Value) (es : List E) : Prop where
  blk : Blk W B 63 (cs.setIfInBounds 3 v)
  own : W.ownsRow base 71 2 v es.length (flat es)
  ok : ∀ e ∈ es, IsE e
  fr : Fr (fun k => k = B ∨ v0.ownBlock = some k) w W
  mine : ∀ k, v.ownBlock = some k → v0.ownBlock = some k ∨ w.heap.size ≤ k
structure Has (cs : Array Value) : Prop where
  most : cs[2]? = some (.int .i64 4)
  sz : cs.size = 4
theorem Has.row {cs : Array Value} (h : Has cs) (v : Value) : (cs.setIfInBounds 3 v)[3]? = some v := by rw [get_set _ _ _ _ (by rw [h.sz]; omega), if_pos rfl]
theorem Has.most' {cs : Array Value} (h : Has cs) (v : Value) : (cs.setIfInBounds 3 v)[2]? = some (.int .i64 4) := by rw [get_set _ _ _ _ (by rw [h.sz]; omega), if_neg (by omega)]; exact h.most

theorem fr_step {S T : Nat → Prop} {a b c : World} (h : Fr S a b) (k : Fr T b c) (hT : ∀ k, k < a.heap.size → T k → S k) : Fr S a c :=
  ⟨k.os.trans h.os, k.tape.trans h.tape, k.output.trans h.output, Nat.le_trans h.size k.size, fun i hi hS => (k.block i (Nat.lt_of_lt_of_le hi h.size) (fun hh => hS (hT i hi hh))).trans (h.block i hi hS)⟩

section
variable {w W V : World} {B base : Nat} {cs : Array Value} {v0 v : Value} {es : List E}
theorem Inv.to (h : Inv w W B base cs v0 v es) (hb : Below W.heap.size W V) : Inv w V B base cs v0 v es :=
  ⟨h.blk.below hb h.blk.lt, ownRow_fr h.own (Fr.of_below hb (fun _ => False)) (fun _ _ e => e), h.ok, h.fr.trans (Fr.of_below hb _), h.mine⟩
theorem Inv.isS (h : Inv w W B base cs v0 v es) (hc : Has cs) : IsS W B v := IsS.of h.blk (hc.most' v) (hc.row v)
theorem Inv.isK (h : Inv w W B base cs v0 v es) : ∃ A c, v = .slice A es.length c ∧ IsK W W.heap.size A es.length c es := by
  obtain ⟨A, c, rfl⟩ := slice_of_own h.own
  exact ⟨A, c, rfl, Ls.of_own h.own rfl h.ok⟩
theorem Inv.lt (h : Inv w W B base cs v0 v es) (hB : B < base) {k : Nat} (hk : v.ownBlock = some k) : k ≠ B := by have := (h.own.lt k hk).1; omega
/-- The list's block turned. -/
theorem Inv.turn (h : Inv w W B base cs v0 v es) (hB : B < base) {es' : List E} {v' : Value} (hf : Fr (fun k => v.ownBlock = some k) W V) (ho : V.ownsRow base 71 2 v' es'.length (flat es')) (hok : ∀ e ∈ es', IsE e)
    (hv : ∀ k, v'.ownBlock = some k → v.ownBlock = some k ∨ W.heap.size ≤ k) : Inv w (V.setCell ⟨B, 3, none⟩ v') B base cs v0 v' es' where
  blk := by
    have b1 : Blk V B 63 (cs.setIfInBounds 3 v) := h.blk.fr hf (fun e => h.lt hB e rfl)
    have b2 := b1.set 3 v'
    have : (cs.setIfInBounds 3 v).setIfInBounds 3 v' = cs.setIfInBounds 3 v' := by simp
    rwa [this] at b2
  own := own_far ho hB v'
  ok := hok
  fr := (fr_step h.fr hf (fun k hk e => by
    rcases h.mine k e with hm | hm
    · exact .inr hm
    · omega)).setCell (.inl (.inl rfl)) v'
  mine := fun k hk => by
    rcases hv k hk with e | e
    · exact h.mine k e
    · exact .inr (Nat.le_trans h.fr.size e)
/-- A thing in the list turned; the list's own value stays. -/
theorem Inv.turn' (h : Inv w W B base cs v0 v es) (hB : B < base) {es' : List E} (hf : Fr (fun k => v.ownBlock = some k) W V) (ho : V.ownsRow base 71 2 v es'.length (flat es')) (hok : ∀ e ∈ es', IsE e) : Inv w V B base cs v0 v es' where
  blk := h.blk.fr hf (fun e => h.lt hB e rfl)
  own := ho
  ok := hok
  fr := fr_step h.fr hf (fun k hk e => by
    rcases h.mine k e with hm | hm
    · exact .inr hm
    · omega)
  mine := h.mine
end

theorem sameT_refl (x : ByteArray) : sameT x x = true := by simp [sameT]
theorem putOne_gone {til life : Int} {es : List E} {x : ByteArray} {i : Nat} (h : idx (fun e => sameT e.1 x) es = (i : Int)) (hl : life = 0) : putOne sameT til life es x = es.eraseIdx i := by
  unfold putOne
  rw [h]
  simp [hl]
theorem putOne_set {til life : Int} {es : List E} {x : ByteArray} {i : Nat} {e : E} (h : idx (fun e => sameT e.1 x) es = (i : Int)) (he : es[i]? = some e) (hl : ¬ life = 0) : putOne sameT til life es x = es.set i (e.1, til) := by
  unfold putOne
  rw [h]
  simp [hl, he]
theorem putOne_none {til life : Int} {es : List E} {x : ByteArray} (h : idx (fun e => sameT e.1 x) es = -1) (hl : life = 0) : putOne sameT til life es x = es := by
  unfold putOne
  rw [h]
  simp [hl]
theorem putOne_new {til life : Int} {es : List E} {x : ByteArray} (h : idx (fun e => sameT e.1 x) es = -1) (hl : ¬ life = 0) (hn : es.length < 4) : putOne sameT til life es x = es ++ [(x, til)] := by
  unfold putOne
  rw [h]
  simp [hl, hn]
theorem putOne_old {til life : Int} {es : List E} {x : ByteArray} {q : Nat} {o : E} (h : idx (fun e => sameT e.1 x) es = -1) (hl : ¬ life = 0) (hn : ¬ es.length < 4) (hq : oldAt (es.map (·.2)) es.length = q) (ho : es[q]? = some o) (hle : o.2 ≤ til) : putOne sameT til life es x = es.set q (x, til) := by
  unfold putOne
  rw [h, hq]
  simp [hl, hn, ho, hle]
theorem putOne_full {til life : Int} {es : List E} {x : ByteArray} {q : Nat} {o : E} (h : idx (fun e => sameT e.1 x) es = -1) (hl : ¬ life = 0) (hn : ¬ es.length < 4) (hq : oldAt (es.map (·.2)) es.length = q) (ho : es[q]? = some o) (hle : ¬ o.2 ≤ til) : putOne sameT til life es x = es := by
  unfold putOne
  rw [h, hq]
  simp [hl, hn, ho, hle]

theorem flat_until {es : List E} (ho : ∀ e ∈ es, IsE e) {i : Nat} {e : E} (hi : es[i]? = some e) {u : Int} : (flat es).set (i * 2 + 1) (.int .u64 u) = flat (es.set i (e.1, u)) := by
  obtain ⟨hlt, rfl⟩ := List.getElem?_eq_some_iff.1 hi
  have hs : es = es.take i ++ es[i] :: es.drop (i + 1) := by simp
  have hl : (flat (es.take i)).length = i * 2 := by rw [isEnc.flat_len (fun x hx => ho x (List.mem_of_mem_take hx)), List.length_take]; congr 1; omega
  have hr : es.set i (es[i].1, u) = es.take i ++ (es[i].1, u) :: es.drop (i + 1) := by rw [List.set_eq_take_append_cons_drop, if_pos hlt]
  rw [hr, flat, flat, flat_append, flatOf]
  conv => lhs; rw [hs]
  have he := ho es[i] (by simp)
  have hle := isEnc.len _ he
  rw [flat_append, flatOf, List.set_append_right _ _ (by rw [hl]; omega), hl, Nat.add_sub_cancel_left, List.set_append_left _ _ (by rw [hle]; omega)]
  congr 2

set_option maxRecDepth 100000 in
set_option maxHeartbeats 4000000 in
theorem put_any (w : World) (B base : Nat) (cs : Array Value) (v0 : Value) (es : List E) (hc : Has cs) (hi : Inv w w B base cs v0 v0 es) (hB : B < base) (hbase : base ≤ w.heap.size) (now life : Int) (hnow : 0 ≤ now ∧ now ≤ 18446744073709551615) (hlife : 0 ≤ life ∧ life ≤ 4294967295)
    (A : Option Addr) (n c : Nat) (xs : List (ByteArray)) (hx : IsL w (fun k => k ≠ B ∧ v0.ownBlock ≠ some k) A n c xs) :
    Calls Try.prog 28 #[.pointer (some ⟨B, 2, none⟩), .int .u64 now, .int .u32 life, .slice A n c] w fun e w' => (∃ r, e = .returned r) ∧
      ∃ v, Inv w w' B base cs v0 v (putAll sameT (cadd now (csecs life)) life es xs) := by
  have hcm := hx.cmax
  have hcn := hx.cap
  have hl := hx.len
  have hse : 0 ≤ csecs life ∧ csecs life ≤ 9223372036854775807 := by unfold csecs; split <;> omega
  have htil : 0 ≤ cadd now (csecs life) ∧ cadd now (csecs life) ≤ 9223372036854775807 := by unfold cadd; split <;> omega
  unfold maxLen at hcm
  have hx' := hidd hx
  have hi' := hidd hi
  clear hx hi
  obtain ⟨til, ht⟩ : ∃ til, cadd now (csecs life) = til := ⟨_, rfl⟩
  rw [ht] at htil
  go_enter Try.func28, Try.ntmps28
  go_wp2_with (first
    | (go_at_call 37; refine (secs_any life _ (by omega) (by omega)).mono ?_; rintro e w2 ⟨rfl, rfl⟩)
    | (go_at_call 36; refine (add_any now (csecs life) _ (by omega) (by omega) (by omega) (by omega)).mono ?_; rintro e w2 ⟨rfl, rfl⟩))
  go_loopw [19] (fun i wr => ∃ (j : Nat) (v : Value), j ≤ n ∧ i = .int .i64 j ∧ Inv w wr B base cs v0 v (putAll sameT til life es (xs.take j))) (fun i _ => n - (intOf i).toNat)
  case atStart => exact ⟨0, v0, Nat.zero_le _, rfl, hi'.out⟩
  case round =>
    obtain ⟨j, v, hj, rfl, hM⟩ := hrel
    by_cases hjn : j < n
    · obtain ⟨x, hx⟩ : ∃ x, xs[j]? = some x := ⟨_, List.getElem?_eq_getElem (by omega)⟩
      have hsn := putAll_snoc (same := sameT) (til := til) (life := life) (es := es) hx
      obtain ⟨ej, hej⟩ : ∃ ej, putAll sameT til life es (xs.take j) = ej := ⟨_, rfl⟩
      rw [hej] at hM hsn
      obtain ⟨b, off, rfl, hblt, hbp, hr⟩ := (hx'.out.fr hM.fr (fun k hk => by rintro (h | h); exact hk.1 h; exact hk.2 h)).at_ (by omega)
      have c0 : wr.cell? ⟨b, off + j, none⟩ = some (.string x) := by have := hr j x hx 0 _ rfl; rwa [Nat.mul_one, Nat.add_zero] at this
      obtain ⟨s, Ss⟩ : ∃ s, wr.heap.size = s := ⟨_, rfl⟩
      have hM' := hidd hM
      clear hM hr
      go_wp2_with fail
      have M1 := hM'
      obtain ⟨Av, cv, hv, hK⟩ := M1.out.isK
      subst hv
      have hcap := hK.rd.cap
      have hcmx := hK.rd.cmax
      unfold maxLen at hcmx
      refine (at_any _ B Av _ cv ej (M1.out.isS hc) hK x
        ).mono ?_
      rintro r V2 ⟨rfl, b2⟩
      have M2 := hidd (M1.out.to b2)
      clear c0 hM'
      have c1 := (M2.out.isS hc).row
      have fz := (M2.out.isS hc).thaw
      have hBV := (M2.out.isS hc).lt
      have hws := M2.out.fr.size
      clear b2 hK M1
      rcases idx_cases (p := fun e => sameT e.1 x) ej with ⟨hi1, hany⟩ | ⟨i, e, hi1, hei, hpe, _⟩
      · by_cases hz : life = 0
        · have hzb : (life == 0) = true := by simp [hz]
          have hst := putOne_none (til := til) hi1 hz
          rw [hi1]
          clear hz
          go_wp2
          go_roundw
          case rel => exact ⟨j + 1, _, by omega, by go_num, by rw [hsn, hst]; exact M2.out⟩
          case measure => simp [intOf]; omega
        · have hzb : (life == 0) = false := by simp [hz]
          have c4 := (M2.out.isS hc).most
          by_cases hn : ej.length < 4
          · have hst := putOne_new (til := til) hi1 hz hn
            have hnz : (ej.length : Int) < 4 := by omega
            have hne : IsE (x, til) := {
                lo := htil.1, hi := by show til ≤ _; omega }
            have hok : ∀ y ∈ ej ++ [(x, til)], IsE y := fun y hy => by
              rcases List.mem_append.1 hy with hy | hy
              · exact M2.out.ok y hy
              · rw [List.mem_singleton.1 hy]; exact hne
            rw [hi1]
            clear hz hn
            go_wp2_with fail
            go_region
            have MD : Hid (Inv w V2.drew B base cs v0 (.slice Av ej.length cv) ej) := M2.out.to (Below.refl _ V2).drew
            have hVb : base ≤ V2.drew.heap.size := Nat.le_trans hbase hws
            have cD : V2.drew.cell? ⟨B, 3, none⟩ = some (.slice Av ej.length cv) := c1
            generalize V2.drew = D at MD hVb cD ⊢
            have M3 := hidd (MD.out.to ((Below.refl _ D).alloc (Nat.le_refl _) (.cells (encV (x, til)) 71)))
            go_wp2_with (first
              | (at_builtin
                 refine wpList_append_rd (v := .slice Av ej.length cv) (D.alloc (.cells (encV (x, til)) 71)) rfl (.tmp 94) (.tmp 98) slTy rfl rfl M3.out.own rfl (rd_one D 71 2 (encV (x, til)) rfl) (by intro u hu; exact isEnc.one (x, til) u (by simpa [encV] using hu)) (by unfold maxLen; omega) (by omega) (by simp; omega) ?_
                 intro v5 w5 o5 g5 t5 l5
                 clear l5
                 obtain ⟨A5, c5, rfl⟩ := slice_of_own o5
                 have f5 := Fr.of_grown g5
                 have c3 := (f5.cell (p := ⟨B, 3, none⟩) (M3.out.isS hc).lt (fun h => M3.out.lt hB h rfl)).trans (M3.out.isS hc).row
                 have fz3 := (f5.frozen (p := ⟨B, 3, none⟩) (M3.out.isS hc).lt (fun h => M3.out.lt hB h rfl)).trans (M3.out.isS hc).thaw
                 have M5 : Hid (Inv w (w5.setCell ⟨B, 3, none⟩ (.slice A5 (ej.length + 1) c5)) B base cs v0 _ (ej ++ [(x, til)])) := M3.out.turn hB f5 (by rw [List.length_append, flat, flat_append]; simpa [flatOf, encV] using o5) hok (fun k hk => by rcases t5 with e | e <;> rw [e] at hk; exact .inl hk; exact .inr (by injection hk with hk; omega))
                 clear o5 g5 t5 f5))
            go_roundw
            case rel => exact ⟨j + 1, _, by omega, by go_num, by rw [hsn, hst]; exact M5.out⟩
            case measure => simp [intOf]; omega
          · have hnz : ¬ (ej.length : Int) < 4 := by omega
            obtain ⟨q, hq⟩ : ∃ q, oldAt (ej.map (·.2)) ej.length = q := ⟨_, rfl⟩
            have hql : q < ej.length := by have := oldAt_lt (ej.map (·.2)) ej.length (by omega); omega
            obtain ⟨o, ho⟩ : ∃ o, ej[q]? = some o := ⟨_, List.getElem?_eq_getElem hql⟩
            obtain ⟨g, cg, hA, hbg, hgl⟩ := own_pos M2.out.own (by omega)
            injection hA with hA hA2 hA3
            subst hA hA3
            have hgB : B ≠ g := by omega
            have hstS := hidd (fun h => putOne_old (til := til) (life := life) (x := x) hi1 hz hn hq ho h)
            have hstN := hidd (fun h => putOne_full (til := til) (life := life) (x := x) hi1 hz hn hq ho h)
            have hne : IsE (x, til) := {
                lo := htil.1, hi := by show til ≤ _; omega }
            have hok : ∀ y ∈ ej.set q (x, til), IsE y := fun y hy => by
              rcases List.mem_or_eq_of_mem_set hy with hy | rfl
              · exact M2.out.ok y hy
              · exact hne
            rw [hi1]
            clear hz hn
            go_wp2_with fail
            go_region
            go_wp2_with fail
            have MD : Hid (Inv w V2.drew B base cs v0 (.slice (some ⟨g, 0, none⟩) ej.length cv) ej) := M2.out.to (Below.refl _ V2).drew
            refine (oldest_any V2.drew B _ ej.length cv ej (MD.out.isS hc) (Ls.of_own MD.out.own rfl MD.out.ok)).mono ?_
            rintro r V3 ⟨rfl, b3⟩
            rw [hq]
            have M4 : Hid (Inv w V3 B base cs v0 (.slice (some ⟨g, 0, none⟩) ej.length cv) ej) := MD.out.to b3
            have c1' : V3.cell? ⟨B, 3, none⟩ = some (.slice (some ⟨g, 0, none⟩) ej.length cv) := (M4.out.isS hc).row
            have c5 : V3.cell? ⟨g, q * 2 + 1, none⟩ = some (.int .u64 o.2) := by
              have := until_at (o := 0) (i := q) (W := V3) (b := g) (e := o) (by rw [Nat.zero_add]; exact own_range M4.out.own isEnc rfl M4.out.ok ho) (M2.out.ok o (List.mem_of_getElem? ho)); rwa [Nat.zero_add] at this
            have hqz : (q : Int) < (ej.length : Int) := by omega
            clear c1 c4 fz MD b3
            by_cases hle : o.2 ≤ til
            · have hst := hstS.out hle
              have M5 : Hid (Inv w (V3.setCells g (q * 2) (enc (x, til))) B base cs v0 _ (ej.set q (x, til))) := M4.out.turn' hB ((fr_cells V3 g (enc (x, til)) (q * 2)).mono (fun k _ hk => by rw [show k = g from hk]; rfl)) (by rw [List.length_set]; exact own_store M4.out.own isEnc M4.out.ok hne hql) hok
              go_wp2_with (first
                | (with_reducible show wpList _ _ _ (⟨_, Op.store 71 (.tmp 46) _, _, _, _, _⟩ :: _) _ _
                   refine wpList_store_vals rfl rfl 71 (.tmp 46) _ rfl g (q * 2) (enc (x, til)) rfl rfl (own_there (w := V3) M4.out.own (by show q * 2 + 2 ≤ _; rw [show q * 2 + 2 = (q + 1) * 2 by omega]; exact Nat.mul_le_mul_right _ (by omega))) infoE (isEnc.one _) ?_))
              go_roundw
              case rel => exact ⟨j + 1, _, by omega, by go_num, by rw [hsn, hst]; exact M5.out⟩
              case measure => simp [intOf]; omega
            · have hst := hstN.out (by omega)
              go_wp2
              go_roundw
              case rel => exact ⟨j + 1, _, by omega, by go_num, by rw [hsn, hst]; exact M4.out⟩
              case measure => simp [intOf]; omega
      · have hij := (List.getElem?_eq_some_iff.1 hei).1
        obtain ⟨g, cg, hA, hbg, hgl⟩ := own_pos M2.out.own (by omega)
        injection hA with hA hA2 hA3
        subst hA hA3
        have hgB : B ≠ g := by omega
        have hge : ((i : Int) ≥ 0) := by omega
        by_cases hz : life = 0
        · have hzb : (life == 0) = true := by simp [hz]
          have hst := putOne_gone (til := til) hi1 hz
          have hle : (ej.eraseIdx i).length = ej.length - 1 := by rw [List.length_eraseIdx_of_lt hij]
          have hok : ∀ y ∈ ej.eraseIdx i, IsE y := fun y hy => M2.out.ok y (List.mem_of_mem_eraseIdx hy)
          rw [hi1]
          clear hz
          go_wp2_with (go_at_call 46
                       refine (delete_any V2 base g ej.length cv i (flat ej) M2.out.own (isEnc.flat_one _) hij).mono ?_
                       rintro r V3 ⟨rfl, o3, f3⟩
                       rw [isEnc.flat_cut M2.out.ok] at o3
                       have c3 := (f3.cell (p := ⟨B, 3, none⟩) hBV hgB).trans c1
                       have fz3 := (f3.frozen (p := ⟨B, 3, none⟩) hBV hgB).trans fz
                       have M3 : Hid (Inv w (V3.setCell ⟨B, 3, none⟩ (.slice (some ⟨g, 0, none⟩) (ej.length - 1) cv)) B base cs v0 _ (ej.eraseIdx i)) := M2.out.turn hB (f3.mono (fun k _ hk => by rw [hk]; rfl)) (by rw [hle]; exact o3) hok (fun k hk => .inl hk)
                       clear o3 f3)
          go_roundw
          case rel => exact ⟨j + 1, _, by omega, by go_num, by rw [hsn, hst]; exact M3.out⟩
          case measure => simp [intOf]; omega
        · have hzb : (life == 0) = false := by simp [hz]
          have hst := putOne_set (til := til) hi1 hei hz
          have hrg := own_range M2.out.own isEnc rfl M2.out.ok hei
          have ce : V2.cell? ⟨g, i * 2 + 1, none⟩ = some (.int .u64 e.2) := by have := until_at (o := 0) (i := i) (W := V2) (b := g) (e := e) (by rw [Nat.zero_add]; exact hrg) (M2.out.ok e (List.mem_of_getElem? hei)); rwa [Nat.zero_add] at this
          have fe := M2.out.own.frozenAt (i * 2 + 1)
          have M3 : Hid (Inv w (V2.setCell ⟨g, i * 2 + 1, none⟩ (.int .u64 til)) B base cs v0 _ (ej.set i (e.1, til))) := M2.out.turn' hB (((Fr.refl (· = g) V2).setB _).mono (fun k _ hk => by rw [hk]; rfl)) (by rw [List.length_set, ← flat_until M2.out.ok hei]; exact (M2.out.own.stored _ _).1) (fun y hy => by
            rcases List.mem_or_eq_of_mem_set hy with hy | rfl
            · exact M2.out.ok y hy
            · exact {
                lo := htil.1, hi := by omega })
          clear hrg
          rw [hi1]
          go_wp2
          go_roundw
          case rel => exact ⟨j + 1, _, by omega, by go_num, by rw [hsn, hst]; exact M3.out⟩
          case measure => simp [intOf]; omega
    · have hjn' : j = n := by omega
      subst hjn'
      rw [List.take_of_length_le (by omega)] at hM
      go_wp2
      go_end0
      rw [ht]
      exact ⟨⟨_, rfl⟩, v, hM⟩
end Go.Proofs.Ytajlgglknianlaa.Dm
