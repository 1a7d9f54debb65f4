/- The reference: what an address has; an entry put in front; each function walked once. No condition. -/
import Derived.Test.YtpjjcihhmhccfaaRef
namespace Go.Proofs.Ytpjjcihhmhccfaa
open Go.ChangeShapes Go.WideShapes Go.ChangeAt Go.RowKit Go.Deep
set_option linter.unusedVariables false
set_option linter.unusedSimpArgs false

theorem own_base {w : World} {base base' : Nat} {t : TypeId} {size n : Nat} {v : Value} {xs : List Value} (h : w.ownsRow base t size v n xs) (hb : base' ≤ base) : w.ownsRow base' t size v n xs := by
  refine ⟨h.1, ?_⟩
  rcases h.2 with h' | ⟨g, cap, cur, hv, h1, h2⟩
  · exact .inl h'
  · exact .inr ⟨g, cap, cur, hv, by omega, h2⟩
theorem slE : SlTy Try.prog 47 51 34 48 := .mk_ (z := .agg (encV zeroE34)) Try.underlying47 (by kernel_rfl) rfl (by omega)
def atN (x : List Int) (es : List E) : Option (Nat × E) := if idx (isA x) es < 0 then none else (es[(idx (isA x) es).toNat]?).map fun e => ((idx (isA x) es).toNat, e)
/-- The entries but one. -/
def rmv (x : List Int) (es : List E) : List E := if idx (isA x) es < 0 then es else es.take (idx (isA x) es).toNat ++ es.drop ((idx (isA x) es).toNat + 1)
def cut32 (es : List E) : List E := if es.length = 32 then es.take 31 else es
def frontE (e : E) (es : List E) : List E := if bareE e then cut32 (rmv e.1 es) else e :: cut32 (rmv e.1 es)
def oldE (x : List Int) (es : List E) : E := if idx (isA x) es < 0 then newE x else (es[(idx (isA x) es).toNat]?).getD (newE x)
def FrontSays (w : World) (M : Nat) (v : Value) (es : List E) (e : E) (r : Ending) (w' : World) : Prop :=
  (∃ z, r = .returned z) ∧ ∃ v', Rf w' M v' (frontE e es) ∧ Fr (fun k => k = M ∨ v.ownBlock = some k) w w' ∧ ∀ k, v'.ownBlock = some k → v.ownBlock = some k ∨ w.heap.size ≤ k
/-- The rest, while it is looked at. -/
structure Fx (w W : World) (M q : Nat) (v : Value) (e : E) (vl : Value) (l : List E) : Prop where
  blk : Blk W M 49 #[v]
  box : Blk W q 51 (encV e)
  own : W.ownsRow (M + 1) 51 34 vl l.length (flatE l)
  src : ∀ k, vl.ownBlock = some k → v.ownBlock = some k ∨ w.heap.size ≤ k
  bel : Below w.heap.size w W
  ok : ∀ e ∈ l, IsE e
theorem own_one {W : World} (e : E) (he : IsE e) : (W.alloc (.cells (encV e) 51)).ownsRow W.heap.size 51 34 (.slice (some ⟨W.heap.size, 0, none⟩) 1 1) 1 (enc e) := by
  refine ⟨by rw [isEnc.len e he], .inr ⟨W.heap.size, 1, encV e, rfl, Nat.le_refl _, Blk.new W 51 (encV e), Nat.le_refl _, by decide, by rw [encV_size he], ?_⟩⟩
  rw [encV, List.toList_toArray, List.take_of_length_le (by rw [isEnc.len e he]; omega)]
theorem Fx.put {w W : World} {M q : Nat} {v vl : Value} {e : E} {l : List E} (h : Fx w W M q v e vl l) (hl : l.length ≤ 32) (hM : M < w.heap.size) : Rf (W.setCell ⟨M, 0, none⟩ vl) M vl l ∧ Fr (fun k => k = M ∨ v.ownBlock = some k) w (W.setCell ⟨M, 0, none⟩ vl) :=
  ⟨⟨h.blk.set 0 vl, own_far h.own (Nat.lt_succ_self _) vl, h.ok, hl⟩, (Fr.of_below h.bel _).setCell (.inl (.inl rfl)) vl⟩

theorem res30 {tmps : Array Value} {W : World} {p : Nat} {e : E} (he : IsE e) (h4 : tmps.getD 4 undef = .pointer (some ⟨p, 0, none⟩)) (hc : Blk W p 51 (encV e)) : (results Try.f30 tmps).run Try.prog W = .ok (.agg (encV e)) W := by
  have l := ld51 hc he
  simp only [Array.getD_eq_getD_getElem?] at h4
  simp [results, Try.results30, asAddr, h4, l]
theorem built51 {x : List Int} (h : IsAddr x) : Try.prog.built 51 [(0, .agg (bytesV x))] = some (encV (newE x)) := by
  obtain ⟨_, _, _, _, _, _, _, _, _, _, _, _, _, _, _, _, rfl⟩ := addr_ex h
  kernel_rfl
set_option maxRecDepth 100000 in
set_option maxHeartbeats 4000000 in
theorem old_ref (w : World) {M : Nat} {v : Value} {es : List E} (h : Rf w M v es) (x : List Int) (hx0 : IsAddr x) : Calls Try.prog 30 #[ptr M, .agg (bytesV x)] w fun r w' => r = .returned (.agg (encV (oldE x es))) ∧ Below w.heap.size w w' := by
  obtain ⟨q, hq⟩ : ∃ q, w.heap.size = q := ⟨_, rfl⟩
  have hx := hidd hx0
  have b1 : Below q w ((w.alloc (.cells (bytesV x) 24)).alloc (.cells (encV zeroE34) 51)) := by rw [← hq]; exact ((Below.refl _ w).alloc (Nat.le_refl _) _).alloc (by simp) _
  have k1 : Hid (Blk ((w.alloc (.cells (bytesV x) 24)).alloc (.cells (encV zeroE34) 51)) q 24 (bytesV x)) := by rw [← hq]; exact (Blk.new w 24 _).alloc _
  have k2 : Hid (Blk ((w.alloc (.cells (bytesV x) 24)).alloc (.cells (encV zeroE34) 51)) (q + 1) 51 (encV zeroE34)) := by
    have := Blk.new (w.alloc (.cells (bytesV x) 24)) 51 (encV zeroE34)
    rw [show (w.alloc (.cells (bytesV x) 24)).heap.size = q + 1 by simp [hq]] at this
    exact this
  have hz34 : IsE zeroE34 := ⟨zeroA_is, zeroA_is, (by decide : (0 : Int) ≤ 0 ∧ (0 : Int) ≤ 4294967295), (by decide : (0 : Int) ≤ 0 ∧ (0 : Int) ≤ 18446744073709551615)⟩
  have R1 := hidd (h.to (by rw [hq]; exact b1))
  have b1' := hidd b1
  have l1 := hidd (ld24 k1.out hx.out)
  rw [hq]
  have hok := hidd h.ok
  obtain ⟨n, hn⟩ : ∃ n, es.length = n := ⟨_, rfl⟩
  have hmax := h.max
  rw [hn] at hmax
  clear h hx0 b1
  go_enter Try.func30, Try.ntmps30
  go_wp2_with (with_reducible show wpList _ _ _ (⟨_, Op.load 24 (.tmp 3), _, _, _, _⟩ :: _) _ _
               rw [show (#[.int .u8 0, .int .u8 0, .int .u8 0, .int .u8 0, .int .u8 0, .int .u8 0, .int .u8 0, .int .u8 0, .int .u8 0, .int .u8 0, .int .u8 0, .int .u8 0, .int .u8 0, .int .u8 0, .int .u8 0, .int .u8 0, .int .u8 0, .int .u8 0, .int .u8 0, .int .u8 0, .int .u8 0, .int .u8 0, .int .u8 0, .int .u8 0, .int .u8 0, .int .u8 0, .int .u8 0, .int .u8 0, .int .u8 0, .int .u8 0, .int .u8 0, .int .u8 0, .int .u32 0, .int .u64 0] : Array Value) = encV zeroE34 from rfl]
               generalize (w.alloc (.cells (bytesV x) 24)).alloc (.cells (encV zeroE34) 51) = W1 at k1 k2 b1' l1 R1 ⊢
               refine wpList_load_want (by kernel_rfl) 24 _ rfl _ rfl _ (by with_reducible exact l1.out) ?_)
  refine (at_ref W1 R1.out x hx.out).mono ?_
  rintro r w2 ⟨rfl, b2⟩
  have R2 := hidd (R1.out.to b2)
  have k3 := hidd (k1.out.below b2 k1.out.lt)
  have k4 := hidd (k2.out.below b2 k2.out.lt)
  have l3 := hidd (ld24 k3.out hx.out)
  have b3 : Hid (Below q w w2) := b1'.out.trans (b2.mono (by have := b1'.out.size; omega))
  clear b2 k1 k2 l1 R1 b1'
  rcases idx_cases (p := isA x) es with ⟨hi, hno⟩ | ⟨j, e, hi, he, hd, hno⟩
  · rw [hi]
    have hO : Hid (oldE x es = newE x) := by refine hidd ?_; rw [oldE, hi]; rfl
    clear hno hi
    go_wp2_with (first
      | (with_reducible show wpList _ _ _ (⟨_, Op.load 24 _, _, _, _, _⟩ :: _) _ _; refine wpList_load_want (by kernel_rfl) 24 _ rfl _ rfl _ (by with_reducible exact l3.out) ?_)
      | (with_reducible show wpList _ _ _ (⟨_, Op.build 51 _, _, _, _, _⟩ :: _) _ _; refine wpList_build_want rfl 51 #[(0, .tmp 11)] rfl (encV (newE x)) (Eq.trans (b := Try.prog.built 51 [(0, .agg (bytesV x))]) (by kernel_rfl) (built51 hx.out)) ?_)
      | (with_reducible show wpList _ _ _ (⟨_, Op.store 51 (.tmp 4) _, _, _, _, _⟩ :: _) _ _; refine wpList_store_blk rfl rfl 51 (.tmp 4) _ rfl (q + 1) 51 (encV zeroE34) (encV (newE x)) k4.out rfl rfl (size51 (newE_is hx.out)) (by rw [encV_size (newE_is hx.out), encV_size hz34]) (ones_enc _) ?_))
    exact bodyPost_ret (res30 (newE_is hx.out) rfl (k4.out.setRow _)) rfl ⟨by rw [hO.out], below_setRow b3.out (by omega) _⟩
  · have hj := (List.getElem?_eq_some_iff.1 he).1
    have hE := hidd (hok.out e (List.mem_of_getElem? he))
    have hO : Hid (oldE x es = e) := by
      refine hidd ?_
      rw [oldE, hi, if_neg (by omega), Int.toNat_natCast, he]; rfl
    obtain ⟨g, c, hv, hg, hrow⟩ := R2.out.pos (by omega)
    subst hv
    have c0 := R2.out.v0
    rw [hn] at c0
    have l5 := hidd (gAll hE.out (hrow j e he))
    rw [hi]
    have hjz : (j : Int) < (n : Int) := by omega
    have hj0 : decide ((j : Int) < 0) = false := by simp
    clear hrow he hno hd hi
    go_wp2_with (first
      | (with_reducible show wpList _ _ _ (⟨_, Op.load 51 _, _, _, _, _⟩ :: _) _ _; refine wpList_load_want (by kernel_rfl) 51 _ rfl _ rfl _ (by with_reducible exact l5.out) ?_)
      | (with_reducible show wpList _ _ _ (⟨_, Op.store 51 (.tmp 4) _, _, _, _, _⟩ :: _) _ _; refine wpList_store_blk rfl rfl 51 (.tmp 4) _ rfl (q + 1) 51 (encV zeroE34) (encV e) k4.out rfl rfl (size51 hE.out) (by rw [encV_size hE.out, encV_size hz34]) (ones_enc _) ?_))
    exact bodyPost_ret (res30 hE.out rfl (k4.out.setRow _)) rfl ⟨by rw [hO.out], below_setRow b3.out (by omega) _⟩
theorem Fx.to {w W V : World} {M q : Nat} {v vl : Value} {e : E} {l : List E} (h : Fx w W M q v e vl l) (hb : Below W.heap.size W V) : Fx w V M q v e vl l :=
  ⟨h.blk.below hb h.blk.lt, h.box.below hb h.box.lt, ownRow_fr h.own (Fr.of_below hb (fun _ => False)) (fun _ _ e => e), h.src, h.bel.trans (hb.mono h.bel.size), h.ok⟩

set_option maxRecDepth 100000 in
set_option maxHeartbeats 8000000 in
theorem front_ref (w : World) {M : Nat} {v : Value} {es : List E} (h : Rf w M v es) (e : E) (he0 : IsE e) : Calls Try.prog 31 #[ptr M, .agg (encV e)] w (FrontSays w M v es e) := by
  obtain ⟨A, c, rfl, hcn, hcm⟩ := h.slice
  obtain ⟨q, hq⟩ : ∃ q, w.heap.size = q := ⟨_, rfl⟩
  obtain ⟨n, hn⟩ : ∃ n, es.length = n := ⟨_, rfl⟩
  have he := hidd he0
  have hM := h.blk.lt
  have hmax := h.max
  have F1 : Hid (Fx w (w.alloc (.cells (encV e) 51)) M q (.slice A es.length c) e (.slice A es.length c) es) := ⟨h.blk.alloc _, by rw [← hq]; exact Blk.new w 51 _, own_al h.own _, fun k hk => .inl hk, (Below.refl _ w).alloc (Nat.le_refl _) _, h.ok⟩
  have R1 := hidd (h.to ((Below.refl _ w).alloc (Nat.le_refl _) (.cells (encV e) 51)))
  rw [hn] at F1 R1 hcn hmax ⊢
  have hn' := hidd hn
  have l1 := hidd (bDst he.out F1.out.box)
  clear h he0 hn
  go_enter Try.func31, Try.ntmps31
  go_wp2_with (with_reducible show wpList _ _ _ (⟨_, Op.load 24 (.tmp 7), _, _, _, _⟩ :: _) _ _
               generalize w.alloc (.cells (encV e) 51) = W1 at F1 R1 l1 ⊢
               refine wpList_load_want (by kernel_rfl) 24 _ rfl _ rfl _ (by with_reducible exact l1.out) ?_)
  refine (at_ref W1 R1.out e.1 he.out.a).mono ?_
  rintro r W2 ⟨rfl, b2⟩
  have F2 := hidd (F1.out.to b2)
  have c0 : W2.cell? ⟨M, 0, none⟩ = some (.slice A n c) := F2.out.blk.at_ rfl
  clear b2 F1 R1 l1
  rcases idx_cases (p := isA e.1) es with ⟨hi, hno⟩ | ⟨j, e0, hi, hej, hd, hno⟩
  · rw [hi]
    have hr : rmv e.1 es = es := by rw [rmv, hi]; rfl
    clear hi hno
    by_cases h32 : n = 32
    · obtain ⟨g, c2, hv, _⟩ := own_pos F2.out.own (by rw [hn'.out]; omega)
      rw [hn'.out] at hv
      injection hv with hA _ hc2
      subst hA hc2
      have hcl : Hid (cut32 (rmv e.1 es) = es.take 31) := by refine hidd ?_; rw [hr, cut32, hn'.out, if_pos h32]
      obtain ⟨l, hl⟩ : ∃ l, es.take 31 = l := ⟨_, rfl⟩
      have hlm : Hid (l.length = 31) := by refine hidd ?_; rw [← hl, List.length_take, hn'.out, h32]; rfl
      have F3 : Hid (Fx w W2 M q (.slice (some ⟨g, 0, none⟩) n c) e (.slice (some ⟨g, 0, none⟩) 31 c) l) := by
        refine ⟨F2.out.blk, F2.out.box, ?_, F2.out.src, F2.out.bel, fun y hy => F2.out.ok y (by rw [← hl] at hy; exact List.mem_of_mem_take hy)⟩
        have o := F2.out.own
        rw [hn'.out] at o
        have := own_cut o (m := 31) (by omega)
        rw [isEnc.flat_take F2.out.ok 31, hl] at this
        rw [hlm.out]; exact this
      rw [hl] at hcl
      have hn32 : ((n : Int) == 32) = true := by simp; omega
      have hn32' : decide ((n : Int) = 32) = true := by simp; omega
      have h31c : 31 ≤ c := by omega
      clear F2 hr hl
      have l16 := hidd (bNext he.out F3.out.box)
      have c32 := F3.out.box.at_ (at_mtu he.out)
      have z0 := F3.out.blk.frozen 0
      have cM : W2.cell? ⟨M, 0, none⟩ = some (.slice (some ⟨g, 0, none⟩) n c) := F3.out.blk.at_ rfl
      have heq := fun V => eql24 V he.out.n zeroA_is
      have hgd := guard24
      obtain ⟨mt, hmt⟩ : ∃ mt, e.2.2.1 = mt := ⟨_, rfl⟩
      rw [hmt] at c32
      cases hz : (e.2.1 == zeroA) with
      | false =>
        have hb : Hid (bareE e = false) := by refine hidd ?_; rw [bareE, hz]; rfl
        rw [hz] at heq
        clear hz hmt c32
        obtain ⟨s, hs⟩ : ∃ s, W2.heap.size = s := ⟨_, rfl⟩
        have hMs : M < s := by have := F3.out.blk.lt; omega
        have hqs : q < s := by have := F3.out.box.lt; omega
        have o1 : Hid ((W2.alloc (.cells (encV e) 51)).ownsRow s 51 34 (.slice (some ⟨s, 0, none⟩) 1 1) 1 (enc e)) := by rw [← hs]; exact own_one e he.out
        have r1 : Hid (Rd (W2.alloc (.cells (encV e) 51)) _ 34 (some ⟨g, 0, none⟩) 31 c (flatE l)) := Rd.of_own (own_al (by have := F3.out.own; rwa [hlm.out] at this) _)
        have l51 := hidd (ld51 F3.out.box he.out)
        have ba := hidd (F3.out.bel.alloc (by have := F3.out.bel.size; omega) (.cells (encV e) 51))
        have bM : Hid (Blk (W2.alloc (.cells (encV e) 51)) M 49 #[.slice (some ⟨g, 0, none⟩) n c]) := F3.out.blk.alloc _
        have bq : Hid (Blk (W2.alloc (.cells (encV e) 51)) q 51 (encV e)) := F3.out.box.alloc _
        have hws : w.heap.size ≤ s := by have := F3.out.bel.size; omega
        have hsa : (W2.alloc (.cells (encV e) 51)).heap.size = s + 1 := by simp [hs]
        go_wp2_with (first
          | (with_reducible show wpList _ _ _ (⟨_, Op.load 24 (.tmp 36), _, _, _, _⟩ :: _) _ _; refine wpList_load_want (by kernel_rfl) 24 _ rfl _ rfl _ (by with_reducible exact l16.out) ?_)
          | (with_reducible show wpList _ _ _ (⟨_, Op.build 24 _, _, _, _, _⟩ :: _) _ _; refine wpList_build_want rfl 24 #[] rfl (bytesV zeroA) (by kernel_rfl) ?_)
          | (with_reducible show wpList _ _ _ (⟨_, Op.load 51 (.tmp 3), _, _, _, _⟩ :: _) _ _; refine wpList_load_want (by kernel_rfl) 51 _ rfl _ rfl _ (by with_reducible exact l51.out) ?_)
          | (with_reducible show wpList _ _ _ (⟨_, Op.buildSlice 47 _ _, _, _, _, _⟩ :: _) _ _; refine wpList_bs1 rfl (.tmp 45) slE (by decide) rfl (encV e) rfl (encV_size he.out) ?_
             generalize W2.alloc (.cells (encV e) 51) = Wa at o1 r1 ba bM bq hsa ⊢
             rw [hs])
          | (at_builtin
             refine wpList_append_rd (v := .slice (some ⟨s, 0, none⟩) 1 1) Wa rfl (.tmp 46) (.tmp 47) slE rfl rfl o1.out rfl r1.out (fun u hu => isEnc.flat_one l u hu) (by unfold maxLen; omega) (by omega) (by rw [hsa]; omega) ?_
             intro v7 W7 o7 g7 t7 l7
             obtain ⟨A7, q7, rfl⟩ := slice_of_own o7
             have f7 := Fr.of_grown g7
             have hown : ∀ k, (Value.slice (some ⟨s, 0, none⟩) 1 1).ownBlock = some k → k = s := fun k h => by cases h; rfl
             have F7 : Hid (Fx w W7 M q (.slice (some ⟨g, 0, none⟩) n c) e (.slice A7 (1 + 31) q7) (e :: l)) := by
               refine ⟨bM.out.fr f7 (fun h => by have := hown _ h; omega), bq.out.fr f7 (fun h => by have := hown _ h; omega), ?_, fun k hk => .inr ?_, ba.out.trans (f7.below (by rw [hsa]; omega) (fun k hk => by have := hown _ hk; omega)), fun y hy => ?_⟩
               · have := own_base (base' := M + 1) o7 (by omega)
                 rw [show (e :: l).length = 1 + 31 by rw [List.length_cons, hlm.out] <;> omega]
                 exact this
               · rcases t7 with h | h
                 · rw [h] at hk; have := hown _ hk; omega
                 · rw [h, hsa] at hk; have : s + 1 = k := Option.some.inj hk; omega
               · rcases List.mem_cons.1 hy with rfl | hy
                 · exact he.out
                 · exact F3.out.ok y hy
             have c7 : W7.cell? ⟨M, 0, none⟩ = some (.slice (some ⟨g, 0, none⟩) n c) := F7.out.blk.at_ rfl
             have z7 := F7.out.blk.frozen 0
             clear l7 t7 g7 o7 f7 cM z0))
        have P7 := hidd (F7.out.put (by rw [List.length_cons, hlm.out] <;> omega) hM)
        have src := hidd F7.out.src
        go_wp2
        go_end0
        exact ⟨⟨_, rfl⟩, _, by rw [frontE, hb.out, hcl.out]; exact P7.out.1, P7.out.2, src.out⟩
      | true =>
        rw [hz] at heq
        by_cases hm0 : mt = 0
        · have hb : Hid (bareE e = true) := by refine hidd ?_; rw [bareE, hz, hmt, hm0]; rfl
          subst hm0
          clear hz hmt
          have P3 := hidd (F3.out.put (by rw [hlm.out]; omega) hM)
          have src := hidd F3.out.src
          go_wp2_with (first
            | (with_reducible show wpList _ _ _ (⟨_, Op.load 24 (.tmp 36), _, _, _, _⟩ :: _) _ _; refine wpList_load_want (by kernel_rfl) 24 _ rfl _ rfl _ (by with_reducible exact l16.out) ?_)
            | (with_reducible show wpList _ _ _ (⟨_, Op.build 24 _, _, _, _, _⟩ :: _) _ _; refine wpList_build_want rfl 24 #[] rfl (bytesV zeroA) (by kernel_rfl) ?_))
          go_end0
          exact ⟨⟨_, rfl⟩, .slice (some ⟨g, 0, none⟩) 31 c, by rw [frontE, hb.out, hcl.out]; exact P3.out.1, P3.out.2, src.out⟩
        · have hb : Hid (bareE e = false) := by refine hidd ?_; rw [bareE, hz, hmt]; simpa using hm0
          have h1 : (mt == 0) = false := by simpa using hm0
          have h1' : decide (mt = 0) = false := by simpa using hm0
          clear hz hmt
          obtain ⟨s, hs⟩ : ∃ s, W2.heap.size = s := ⟨_, rfl⟩
          have hMs : M < s := by have := F3.out.blk.lt; omega
          have hqs : q < s := by have := F3.out.box.lt; omega
          have o1 : Hid ((W2.alloc (.cells (encV e) 51)).ownsRow s 51 34 (.slice (some ⟨s, 0, none⟩) 1 1) 1 (enc e)) := by rw [← hs]; exact own_one e he.out
          have r1 : Hid (Rd (W2.alloc (.cells (encV e) 51)) _ 34 (some ⟨g, 0, none⟩) 31 c (flatE l)) := Rd.of_own (own_al (by have := F3.out.own; rwa [hlm.out] at this) _)
          have l51 := hidd (ld51 F3.out.box he.out)
          have ba := hidd (F3.out.bel.alloc (by have := F3.out.bel.size; omega) (.cells (encV e) 51))
          have bM : Hid (Blk (W2.alloc (.cells (encV e) 51)) M 49 #[.slice (some ⟨g, 0, none⟩) n c]) := F3.out.blk.alloc _
          have bq : Hid (Blk (W2.alloc (.cells (encV e) 51)) q 51 (encV e)) := F3.out.box.alloc _
          have hws : w.heap.size ≤ s := by have := F3.out.bel.size; omega
          have hsa : (W2.alloc (.cells (encV e) 51)).heap.size = s + 1 := by simp [hs]
          go_wp2_with (first
            | (with_reducible show wpList _ _ _ (⟨_, Op.load 24 (.tmp 36), _, _, _, _⟩ :: _) _ _; refine wpList_load_want (by kernel_rfl) 24 _ rfl _ rfl _ (by with_reducible exact l16.out) ?_)
            | (with_reducible show wpList _ _ _ (⟨_, Op.build 24 _, _, _, _, _⟩ :: _) _ _; refine wpList_build_want rfl 24 #[] rfl (bytesV zeroA) (by kernel_rfl) ?_)
            | (with_reducible show wpList _ _ _ (⟨_, Op.load 51 (.tmp 3), _, _, _, _⟩ :: _) _ _; refine wpList_load_want (by kernel_rfl) 51 _ rfl _ rfl _ (by with_reducible exact l51.out) ?_)
            | (with_reducible show wpList _ _ _ (⟨_, Op.buildSlice 47 _ _, _, _, _, _⟩ :: _) _ _; refine wpList_bs1 rfl (.tmp 45) slE (by decide) rfl (encV e) rfl (encV_size he.out) ?_
               generalize W2.alloc (.cells (encV e) 51) = Wa at o1 r1 ba bM bq hsa ⊢
               rw [hs])
            | (at_builtin
               refine wpList_append_rd (v := .slice (some ⟨s, 0, none⟩) 1 1) Wa rfl (.tmp 46) (.tmp 47) slE rfl rfl o1.out rfl r1.out (fun u hu => isEnc.flat_one l u hu) (by unfold maxLen; omega) (by omega) (by rw [hsa]; omega) ?_
               intro v7 W7 o7 g7 t7 l7
               obtain ⟨A7, q7, rfl⟩ := slice_of_own o7
               have f7 := Fr.of_grown g7
               have hown : ∀ k, (Value.slice (some ⟨s, 0, none⟩) 1 1).ownBlock = some k → k = s := fun k h => by cases h; rfl
               have F7 : Hid (Fx w W7 M q (.slice (some ⟨g, 0, none⟩) n c) e (.slice A7 (1 + 31) q7) (e :: l)) := by
                 refine ⟨bM.out.fr f7 (fun h => by have := hown _ h; omega), bq.out.fr f7 (fun h => by have := hown _ h; omega), ?_, fun k hk => .inr ?_, ba.out.trans (f7.below (by rw [hsa]; omega) (fun k hk => by have := hown _ hk; omega)), fun y hy => ?_⟩
                 · have := own_base (base' := M + 1) o7 (by omega)
                   rw [show (e :: l).length = 1 + 31 by rw [List.length_cons, hlm.out] <;> omega]
                   exact this
                 · rcases t7 with h | h
                   · rw [h] at hk; have := hown _ hk; omega
                   · rw [h, hsa] at hk; have : s + 1 = k := Option.some.inj hk; omega
                 · rcases List.mem_cons.1 hy with rfl | hy
                   · exact he.out
                   · exact F3.out.ok y hy
               have c7 : W7.cell? ⟨M, 0, none⟩ = some (.slice (some ⟨g, 0, none⟩) n c) := F7.out.blk.at_ rfl
               have z7 := F7.out.blk.frozen 0
               clear l7 t7 g7 o7 f7 cM z0))
          have P7 := hidd (F7.out.put (by rw [List.length_cons, hlm.out] <;> omega) hM)
          have src := hidd F7.out.src
          go_wp2
          go_end0
          exact ⟨⟨_, rfl⟩, _, by rw [frontE, hb.out, hcl.out]; exact P7.out.1, P7.out.2, src.out⟩
    · have hcl : Hid (cut32 (rmv e.1 es) = es) := by refine hidd ?_; rw [hr, cut32, hn'.out, if_neg h32]
      have hlm : Hid (es.length = n) := hn'
      have F3 : Hid (Fx w W2 M q (.slice A n c) e (.slice A n c) es) := F2
      have hn32 : ((n : Int) == 32) = false := by simp; omega
      have hn32' : decide ((n : Int) = 32) = false := by simp; omega
      clear F2 hr
      have l16 := hidd (bNext he.out F3.out.box)
      have c32 := F3.out.box.at_ (at_mtu he.out)
      have z0 := F3.out.blk.frozen 0
      have cM : W2.cell? ⟨M, 0, none⟩ = some (.slice A n c) := F3.out.blk.at_ rfl
      have heq := fun V => eql24 V he.out.n zeroA_is
      have hgd := guard24
      obtain ⟨mt, hmt⟩ : ∃ mt, e.2.2.1 = mt := ⟨_, rfl⟩
      rw [hmt] at c32
      cases hz : (e.2.1 == zeroA) with
      | false =>
        have hb : Hid (bareE e = false) := by refine hidd ?_; rw [bareE, hz]; rfl
        rw [hz] at heq
        clear hz hmt c32
        obtain ⟨s, hs⟩ : ∃ s, W2.heap.size = s := ⟨_, rfl⟩
        have hMs : M < s := by have := F3.out.blk.lt; omega
        have hqs : q < s := by have := F3.out.box.lt; omega
        have o1 : Hid ((W2.alloc (.cells (encV e) 51)).ownsRow s 51 34 (.slice (some ⟨s, 0, none⟩) 1 1) 1 (enc e)) := by rw [← hs]; exact own_one e he.out
        have r1 : Hid (Rd (W2.alloc (.cells (encV e) 51)) _ 34 A n c (flatE es)) := Rd.of_own (own_al (by have := F3.out.own; rwa [hlm.out] at this) _)
        have l51 := hidd (ld51 F3.out.box he.out)
        have ba := hidd (F3.out.bel.alloc (by have := F3.out.bel.size; omega) (.cells (encV e) 51))
        have bM : Hid (Blk (W2.alloc (.cells (encV e) 51)) M 49 #[.slice A n c]) := F3.out.blk.alloc _
        have bq : Hid (Blk (W2.alloc (.cells (encV e) 51)) q 51 (encV e)) := F3.out.box.alloc _
        have hws : w.heap.size ≤ s := by have := F3.out.bel.size; omega
        have hsa : (W2.alloc (.cells (encV e) 51)).heap.size = s + 1 := by simp [hs]
        go_wp2_with (first
          | (with_reducible show wpList _ _ _ (⟨_, Op.load 24 (.tmp 36), _, _, _, _⟩ :: _) _ _; refine wpList_load_want (by kernel_rfl) 24 _ rfl _ rfl _ (by with_reducible exact l16.out) ?_)
          | (with_reducible show wpList _ _ _ (⟨_, Op.build 24 _, _, _, _, _⟩ :: _) _ _; refine wpList_build_want rfl 24 #[] rfl (bytesV zeroA) (by kernel_rfl) ?_)
          | (with_reducible show wpList _ _ _ (⟨_, Op.load 51 (.tmp 3), _, _, _, _⟩ :: _) _ _; refine wpList_load_want (by kernel_rfl) 51 _ rfl _ rfl _ (by with_reducible exact l51.out) ?_)
          | (with_reducible show wpList _ _ _ (⟨_, Op.buildSlice 47 _ _, _, _, _, _⟩ :: _) _ _; refine wpList_bs1 rfl (.tmp 45) slE (by decide) rfl (encV e) rfl (encV_size he.out) ?_
             generalize W2.alloc (.cells (encV e) 51) = Wa at o1 r1 ba bM bq hsa ⊢
             rw [hs])
          | (at_builtin
             refine wpList_append_rd (v := .slice (some ⟨s, 0, none⟩) 1 1) Wa rfl (.tmp 46) (.tmp 47) slE rfl rfl o1.out rfl r1.out (fun u hu => isEnc.flat_one es u hu) (by unfold maxLen; omega) (by omega) (by rw [hsa]; omega) ?_
             intro v7 W7 o7 g7 t7 l7
             obtain ⟨A7, q7, rfl⟩ := slice_of_own o7
             have f7 := Fr.of_grown g7
             have hown : ∀ k, (Value.slice (some ⟨s, 0, none⟩) 1 1).ownBlock = some k → k = s := fun k h => by cases h; rfl
             have F7 : Hid (Fx w W7 M q (.slice A n c) e (.slice A7 (1 + n) q7) (e :: es)) := by
               refine ⟨bM.out.fr f7 (fun h => by have := hown _ h; omega), bq.out.fr f7 (fun h => by have := hown _ h; omega), ?_, fun k hk => .inr ?_, ba.out.trans (f7.below (by rw [hsa]; omega) (fun k hk => by have := hown _ hk; omega)), fun y hy => ?_⟩
               · have := own_base (base' := M + 1) o7 (by omega)
                 rw [show (e :: es).length = 1 + n by rw [List.length_cons, hlm.out] <;> omega]
                 exact this
               · rcases t7 with h | h
                 · rw [h] at hk; have := hown _ hk; omega
                 · rw [h, hsa] at hk; have : s + 1 = k := Option.some.inj hk; omega
               · rcases List.mem_cons.1 hy with rfl | hy
                 · exact he.out
                 · exact F3.out.ok y hy
             have c7 : W7.cell? ⟨M, 0, none⟩ = some (.slice A n c) := F7.out.blk.at_ rfl
             have z7 := F7.out.blk.frozen 0
             clear l7 t7 g7 o7 f7 cM z0))
        have P7 := hidd (F7.out.put (by rw [List.length_cons, hlm.out] <;> omega) hM)
        have src := hidd F7.out.src
        go_wp2
        go_end0
        exact ⟨⟨_, rfl⟩, _, by rw [frontE, hb.out, hcl.out]; exact P7.out.1, P7.out.2, src.out⟩
      | true =>
        rw [hz] at heq
        by_cases hm0 : mt = 0
        · have hb : Hid (bareE e = true) := by refine hidd ?_; rw [bareE, hz, hmt, hm0]; rfl
          subst hm0
          clear hz hmt
          have P3 := hidd (F3.out.put (by rw [hlm.out]; omega) hM)
          have src := hidd F3.out.src
          go_wp2_with (first
            | (with_reducible show wpList _ _ _ (⟨_, Op.load 24 (.tmp 36), _, _, _, _⟩ :: _) _ _; refine wpList_load_want (by kernel_rfl) 24 _ rfl _ rfl _ (by with_reducible exact l16.out) ?_)
            | (with_reducible show wpList _ _ _ (⟨_, Op.build 24 _, _, _, _, _⟩ :: _) _ _; refine wpList_build_want rfl 24 #[] rfl (bytesV zeroA) (by kernel_rfl) ?_))
          go_end0
          exact ⟨⟨_, rfl⟩, .slice A n c, by rw [frontE, hb.out, hcl.out]; exact P3.out.1, P3.out.2, src.out⟩
        · have hb : Hid (bareE e = false) := by refine hidd ?_; rw [bareE, hz, hmt]; simpa using hm0
          have h1 : (mt == 0) = false := by simpa using hm0
          have h1' : decide (mt = 0) = false := by simpa using hm0
          clear hz hmt
          obtain ⟨s, hs⟩ : ∃ s, W2.heap.size = s := ⟨_, rfl⟩
          have hMs : M < s := by have := F3.out.blk.lt; omega
          have hqs : q < s := by have := F3.out.box.lt; omega
          have o1 : Hid ((W2.alloc (.cells (encV e) 51)).ownsRow s 51 34 (.slice (some ⟨s, 0, none⟩) 1 1) 1 (enc e)) := by rw [← hs]; exact own_one e he.out
          have r1 : Hid (Rd (W2.alloc (.cells (encV e) 51)) _ 34 A n c (flatE es)) := Rd.of_own (own_al (by have := F3.out.own; rwa [hlm.out] at this) _)
          have l51 := hidd (ld51 F3.out.box he.out)
          have ba := hidd (F3.out.bel.alloc (by have := F3.out.bel.size; omega) (.cells (encV e) 51))
          have bM : Hid (Blk (W2.alloc (.cells (encV e) 51)) M 49 #[.slice A n c]) := F3.out.blk.alloc _
          have bq : Hid (Blk (W2.alloc (.cells (encV e) 51)) q 51 (encV e)) := F3.out.box.alloc _
          have hws : w.heap.size ≤ s := by have := F3.out.bel.size; omega
          have hsa : (W2.alloc (.cells (encV e) 51)).heap.size = s + 1 := by simp [hs]
          go_wp2_with (first
            | (with_reducible show wpList _ _ _ (⟨_, Op.load 24 (.tmp 36), _, _, _, _⟩ :: _) _ _; refine wpList_load_want (by kernel_rfl) 24 _ rfl _ rfl _ (by with_reducible exact l16.out) ?_)
            | (with_reducible show wpList _ _ _ (⟨_, Op.build 24 _, _, _, _, _⟩ :: _) _ _; refine wpList_build_want rfl 24 #[] rfl (bytesV zeroA) (by kernel_rfl) ?_)
            | (with_reducible show wpList _ _ _ (⟨_, Op.load 51 (.tmp 3), _, _, _, _⟩ :: _) _ _; refine wpList_load_want (by kernel_rfl) 51 _ rfl _ rfl _ (by with_reducible exact l51.out) ?_)
            | (with_reducible show wpList _ _ _ (⟨_, Op.buildSlice 47 _ _, _, _, _, _⟩ :: _) _ _; refine wpList_bs1 rfl (.tmp 45) slE (by decide) rfl (encV e) rfl (encV_size he.out) ?_
               generalize W2.alloc (.cells (encV e) 51) = Wa at o1 r1 ba bM bq hsa ⊢
               rw [hs])
            | (at_builtin
               refine wpList_append_rd (v := .slice (some ⟨s, 0, none⟩) 1 1) Wa rfl (.tmp 46) (.tmp 47) slE rfl rfl o1.out rfl r1.out (fun u hu => isEnc.flat_one es u hu) (by unfold maxLen; omega) (by omega) (by rw [hsa]; omega) ?_
               intro v7 W7 o7 g7 t7 l7
               obtain ⟨A7, q7, rfl⟩ := slice_of_own o7
               have f7 := Fr.of_grown g7
               have hown : ∀ k, (Value.slice (some ⟨s, 0, none⟩) 1 1).ownBlock = some k → k = s := fun k h => by cases h; rfl
               have F7 : Hid (Fx w W7 M q (.slice A n c) e (.slice A7 (1 + n) q7) (e :: es)) := by
                 refine ⟨bM.out.fr f7 (fun h => by have := hown _ h; omega), bq.out.fr f7 (fun h => by have := hown _ h; omega), ?_, fun k hk => .inr ?_, ba.out.trans (f7.below (by rw [hsa]; omega) (fun k hk => by have := hown _ hk; omega)), fun y hy => ?_⟩
                 · have := own_base (base' := M + 1) o7 (by omega)
                   rw [show (e :: es).length = 1 + n by rw [List.length_cons, hlm.out] <;> omega]
                   exact this
                 · rcases t7 with h | h
                   · rw [h] at hk; have := hown _ hk; omega
                   · rw [h, hsa] at hk; have : s + 1 = k := Option.some.inj hk; omega
                 · rcases List.mem_cons.1 hy with rfl | hy
                   · exact he.out
                   · exact F3.out.ok y hy
               have c7 : W7.cell? ⟨M, 0, none⟩ = some (.slice A n c) := F7.out.blk.at_ rfl
               have z7 := F7.out.blk.frozen 0
               clear l7 t7 g7 o7 f7 cM z0))
          have P7 := hidd (F7.out.put (by rw [List.length_cons, hlm.out] <;> omega) hM)
          have src := hidd F7.out.src
          go_wp2
          go_end0
          exact ⟨⟨_, rfl⟩, _, by rw [frontE, hb.out, hcl.out]; exact P7.out.1, P7.out.2, src.out⟩
  · have hj := (List.getElem?_eq_some_iff.1 hej).1
    rw [hn'.out] at hj
    obtain ⟨g, c2, hv, _⟩ := own_pos F2.out.own (by rw [hn'.out]; omega)
    rw [hn'.out] at hv
    injection hv with hA _ hc2
    subst hA hc2
    have hr : rmv e.1 es = es.take j ++ es.drop (j + 1) := by rw [rmv, hi, if_neg (by omega), Int.toNat_natCast]
    rw [hi]
    obtain ⟨l, hl⟩ : ∃ l, es.take j ++ es.drop (j + 1) = l := ⟨_, rfl⟩
    obtain ⟨m, hm⟩ : ∃ m, j + (n - (j + 1)) = m := ⟨_, rfl⟩
    have hlm : Hid (l.length = m) := by
      refine hidd ?_
      rw [← hl, List.length_append, List.length_take, List.length_drop, hn'.out]; omega
    have hcl : Hid (cut32 (rmv e.1 es) = l) := by
      refine hidd ?_
      rw [hr, hl, cut32, hlm.out, if_neg (by omega)]
    have hfl : Hid ((flatE es).take (j * 34) ++ (flatE es).drop ((j + 1) * 34) = flatE l) := by
      refine hidd ?_
      rw [isEnc.flat_take F2.out.ok j, isEnc.flat_drop F2.out.ok (j + 1), ← hl]
      exact (flat_append (enc := enc) _ _).symm
    have hokl : Hid (∀ y ∈ l, IsE y) := fun y hy => by
      rw [← hl] at hy
      rcases List.mem_append.1 hy with hy | hy
      · exact F2.out.ok y (List.mem_of_mem_take hy)
      · exact F2.out.ok y (List.mem_of_mem_drop hy)
    have F4 := hidd (F2.out.to (Below.refl _ W2).drew)
    have S4 : Hid (W2.drew.cell? ⟨M, 0, none⟩ = some (.slice (some ⟨g, 0, none⟩) n c)) := F4.out.blk.at_ rfl
    have o4 := F4.out.own
    rw [hn'.out] at o4
    have rT := hidd ((Rd.of_own o4).take (k := j) (by omega))
    obtain ⟨Ac, hAc⟩ : ∃ A : Option Addr, (if c = j + 1 then some (⟨g, 0, none⟩ : Addr) else some ⟨g, (j + 1) * 34, none⟩) = A := ⟨_, rfl⟩
    have hAc' : (if c = j + 1 then some (⟨g, 0, none⟩ : Addr) else (some (⟨g, 0, none⟩ : Addr)).map (·.add ((j + 1) * 34))) = Ac := by rw [← hAc]; simp [Addr.add]
    have rC := hidd ((Rd.of_own o4).cut (k := j + 1) (by omega))
    rw [hAc'] at rC
    obtain ⟨lo, hlo⟩ : ∃ lo, W2.drew.heap.size = lo := ⟨_, rfl⟩
    have hwlo : w.heap.size ≤ lo := by have := F4.out.bel.size; omega
    have hmn : m ≤ 31 := by omega
    have hn32 : ((m : Int) == 32) = false := by simp; omega
    have hn32' : decide ((m : Int) = 32) = false := by simp; omega
    have hj0 : decide ((0 : Int) ≤ (j : Int)) = true := by simp
    have q1 : j ≤ c := by omega
    have hw1 : IntKind.i64.wrap ((j : Int) + 1) = (j : Int) + 1 := IntWalk.i64_in _ (by omega)
    have hw2 : ((j : Int) + 1).toNat = j + 1 := by omega
    have q2 : j + 1 ≤ c := by omega
    have q3 : (0 : Int) ≤ (j : Int) + 1 := by omega
    have q4 : (j : Int) + 1 ≤ (n : Int) := by omega
    clear hi hej hd hno hr hl o4 hAc' F2
    go_wp2_with fail
    refine wp_region_held_drew (S := (fun V => V.cell? ⟨M, 0, none⟩ = some (.slice (some ⟨g, 0, none⟩) n c))) (by kernel_rfl) S4.out (fun hHeld => ?_)
    generalize W2.drew = D at rT rC F4 S4 hlo hwlo hHeld ⊢
    refine wpAnyH_take (i := 0) (v := ?_) rfl (by kernel_rfl) (by kernel_rfl) (by kernel_rfl) (fun _ _ _ h => h) (Or.inl ⟨by kernel_rfl, ?_⟩) hHeld ?_
    rotate_left
    · intro wh hSw
      go_simp
      try with_reducible rfl
    try simp only [Act.put, List.getElem_toArray, List.getElem_cons_zero, List.getElem_cons_succ, List.setIfInBounds_toArray, List.set_cons_zero, List.set_cons_succ]
    refine wpAnyH_take (i := 1) (v := ?_) rfl (by kernel_rfl) (by kernel_rfl) (by kernel_rfl) (fun _ _ _ h => h) (Or.inl ⟨by kernel_rfl, ?_⟩) hHeld ?_
    rotate_left
    · intro wh hSw
      go_simp
      try with_reducible rfl
    try simp only [Act.put, List.getElem_toArray, List.getElem_cons_zero, List.getElem_cons_succ, List.setIfInBounds_toArray, List.set_cons_zero, List.set_cons_succ]
    refine wpAnyH_take (i := 2) (v := ?_) rfl (by kernel_rfl) (by kernel_rfl) (by kernel_rfl) (fun _ _ _ h => h) (Or.inl ⟨by kernel_rfl, ?_⟩) hHeld ?_
    rotate_left
    · intro wh hSw
      go_simp
      try with_reducible rfl
    try simp only [Act.put, List.getElem_toArray, List.getElem_cons_zero, List.getElem_cons_succ, List.setIfInBounds_toArray, List.set_cons_zero, List.set_cons_succ]
    refine wpAnyH_take (i := 3) (v := ?_) rfl (by kernel_rfl) (by kernel_rfl) (by kernel_rfl) (fun _ _ _ h => h) (Or.inl ⟨by kernel_rfl, ?_⟩) hHeld ?_
    rotate_left
    · intro wh hSw
      have hcell := hSw
      go_simp
      try with_reducible rfl
    try simp only [Act.put, List.getElem_toArray, List.getElem_cons_zero, List.getElem_cons_succ, List.setIfInBounds_toArray, List.set_cons_zero, List.set_cons_succ]
    refine wpAnyH_take (i := 4) (v := ?_) rfl (by kernel_rfl) (by kernel_rfl) (by kernel_rfl) (fun _ _ _ h => h) (Or.inl ⟨by kernel_rfl, ?_⟩) hHeld ?_
    rotate_left
    · intro wh hSw
      go_simp
      try with_reducible rfl
    try simp only [Act.put, List.getElem_toArray, List.getElem_cons_zero, List.getElem_cons_succ, List.setIfInBounds_toArray, List.set_cons_zero, List.set_cons_succ]
    refine wpAnyH_take (i := 5) (v := ?_) rfl (by kernel_rfl) (by kernel_rfl) (by kernel_rfl) (fun _ _ _ h => h) (Or.inl ⟨by kernel_rfl, ?_⟩) hHeld ?_
    rotate_left
    · intro wh hSw
      go_simp
      try with_reducible rfl
    try simp only [Act.put, List.getElem_toArray, List.getElem_cons_zero, List.getElem_cons_succ, List.setIfInBounds_toArray, List.set_cons_zero, List.set_cons_succ]
    refine wpAnyH_take (i := 7) (v := ?_) rfl (by kernel_rfl) (by kernel_rfl) (by kernel_rfl) (fun _ _ _ h => h) (Or.inl ⟨by kernel_rfl, ?_⟩) hHeld ?_
    rotate_left
    · intro wh hSw
      go_simp
      try with_reducible rfl
    try simp only [Act.put, List.getElem_toArray, List.getElem_cons_zero, List.getElem_cons_succ, List.setIfInBounds_toArray, List.set_cons_zero, List.set_cons_succ]
    refine wpAnyH_take (i := 8) (v := ?_) rfl (by kernel_rfl) (by kernel_rfl) (by kernel_rfl) (fun _ _ _ h => h) (Or.inl ⟨by kernel_rfl, ?_⟩) hHeld ?_
    rotate_left
    · intro wh hSw
      go_simp
      try with_reducible rfl
    try simp only [Act.put, List.getElem_toArray, List.getElem_cons_zero, List.getElem_cons_succ, List.setIfInBounds_toArray, List.set_cons_zero, List.set_cons_succ]
    refine wpAnyH_take (i := 9) (v := ?_) rfl (by kernel_rfl) (by kernel_rfl) (by kernel_rfl) (fun _ _ _ h => h) (Or.inl ⟨by kernel_rfl, ?_⟩) hHeld ?_
    rotate_left
    · intro wh hSw
      go_simp
      try with_reducible rfl
    try simp only [Act.put, List.getElem_toArray, List.getElem_cons_zero, List.getElem_cons_succ, List.setIfInBounds_toArray, List.set_cons_zero, List.set_cons_succ]
    refine wpAnyH_take (i := 10) (v := ?_) rfl (by kernel_rfl) (by kernel_rfl) (by kernel_rfl) (fun _ _ _ h => h) (Or.inl ⟨by kernel_rfl, ?_⟩) hHeld ?_
    rotate_left
    · intro wh hSw
      have hcell := hSw
      go_simp
      try with_reducible rfl
    try simp only [Act.put, List.getElem_toArray, List.getElem_cons_zero, List.getElem_cons_succ, List.setIfInBounds_toArray, List.set_cons_zero, List.set_cons_succ]
    refine wpAnyH_take (i := 11) (v := ?_) rfl (by kernel_rfl) (by kernel_rfl) (by kernel_rfl) (fun _ _ _ h => h) (Or.inl ⟨by kernel_rfl, ?_⟩) hHeld ?_
    rotate_left
    · intro wh hSw
      go_simp
      try with_reducible rfl
    try simp only [Act.put, List.getElem_toArray, List.getElem_cons_zero, List.getElem_cons_succ, List.setIfInBounds_toArray, List.set_cons_zero, List.set_cons_succ]
    refine wpAnyH_take (i := 12) (v := ?_) rfl (by kernel_rfl) (by kernel_rfl) (by kernel_rfl) (fun _ _ _ h => h) (Or.inl ⟨by kernel_rfl, ?_⟩) hHeld ?_
    rotate_left
    · intro wh hSw
      go_simp
      try with_reducible rfl
    try simp only [Act.put, List.getElem_toArray, List.getElem_cons_zero, List.getElem_cons_succ, List.setIfInBounds_toArray, List.set_cons_zero, List.set_cons_succ]
    refine wpAnyH_take (i := 13) (v := ?_) rfl (by kernel_rfl) (by kernel_rfl) (by kernel_rfl) (fun _ _ _ h => h) (Or.inl ⟨by kernel_rfl, ?_⟩) hHeld ?_
    rotate_left
    · intro wh hSw
      go_simp
      try with_reducible rfl
    try simp only [Act.put, List.getElem_toArray, List.getElem_cons_zero, List.getElem_cons_succ, List.setIfInBounds_toArray, List.set_cons_zero, List.set_cons_succ]
    refine wpAnyH_ready (rs := [6]) (by kernel_rfl) (by simp) (AllReadyH.cons rfl (fun K hK => ?_) AllReadyH.nil)
    clear hHeld
    refine step_append_rd (v := .slice none 0 0) D rfl (.const (.slice none 0 0)) (.tmp 21) slE rfl rfl (World.ownsRow_nil D lo 51 34) rfl rT.out (fun u hu => isEnc.flat_one es u (List.mem_of_mem_take hu)) (by unfold maxLen; omega) (by omega) (by omega) ?_
    intro v5 W5 o5 g5 t5 l5
    have b5 : Below D.heap.size D W5 := (Fr.of_grown g5).below (Nat.le_refl _) (fun k hk => by cases hk)
    have S5 : Hid (W5.cell? ⟨M, 0, none⟩ = some (.slice (some ⟨g, 0, none⟩) n c)) := (F4.out.to b5).blk.at_ rfl
    have r5 := hidd (rC.out.below b5)
    rw [Nat.zero_add, List.nil_append] at o5
    obtain ⟨A5, c5, rfl⟩ := slice_of_own o5
    have O5 := hidd o5
    have B5 := hidd b5
    clear o5 g5 t5 l5 b5
    refine hK.out _ _ S5.out (fun hHeld => ?_)
    clear hK K
    try simp only [Act.put, List.getElem_toArray, List.getElem_cons_zero, List.getElem_cons_succ, List.setIfInBounds_toArray, List.set_cons_zero, List.set_cons_succ]
    refine wpAnyH_ready (rs := [14]) (by kernel_rfl) (by simp) (AllReadyH.cons rfl (fun K hK => ?_) AllReadyH.nil)
    clear hHeld
    refine step_append_rd (v := .slice A5 j c5) W5 rfl (.tmp 22) (.tmp 29) slE rfl rfl O5.out rfl r5.out (fun u hu => isEnc.flat_one es u (List.mem_of_mem_drop hu)) (by unfold maxLen; omega) (by omega) (by have := B5.out.size; omega) ?_
    intro v6 W6 o6 g6 t6 l6
    have b6 : Below D.heap.size D W6 := B5.out.trans ((Fr.of_grown g6).below (by have := B5.out.size; omega) (fun k hk => by have := (O5.out.lt k hk).1; omega))
    rw [hm] at o6
    obtain ⟨A6, c6, rfl⟩ := slice_of_own o6
    have F6 := F4.out.to b6
    have F3 : Hid (Fx w W6 M q (.slice (some ⟨g, 0, none⟩) n c) e (.slice A6 m c6) l) := ⟨F6.blk, F6.box, by rw [hlm.out, ← hfl.out]; exact own_base o6 (by have := F4.out.blk.lt; omega), fun k hk => .inr (by have := (o6.lt k hk).1; omega), F6.bel, hokl.out⟩
    have S6 : Hid (W6.cell? ⟨M, 0, none⟩ = some (.slice (some ⟨g, 0, none⟩) n c)) := F6.blk.at_ rfl
    clear o6 g6 t6 l6 b6 F6
    refine hK.out _ _ S6.out (fun hHeld => ?_)
    clear hK K
    try simp only [Act.put, List.getElem_toArray, List.getElem_cons_zero, List.getElem_cons_succ, List.setIfInBounds_toArray, List.set_cons_zero, List.set_cons_succ]
    refine wpAnyH_ready (rs := [15]) (by kernel_rfl) (by simp) (AllReadyH.cons rfl (fun K hK => ?_) AllReadyH.nil)
    clear hHeld
    go_simp
    refine hK.out _ _ S6.out (fun hHeld => ?_)
    clear hK K
    try simp only [Act.put, List.getElem_toArray, List.getElem_cons_zero, List.getElem_cons_succ, List.setIfInBounds_toArray, List.set_cons_zero, List.set_cons_succ]
    refine wpAnyH_done (by kernel_rfl) ?_ _
    clear hHeld
    have l16 := hidd (bNext he.out F3.out.box)
    have c32 := F3.out.box.at_ (at_mtu he.out)
    have z0 := F3.out.blk.frozen 0
    have cM : W6.cell? ⟨M, 0, none⟩ = some (.slice (some ⟨g, 0, none⟩) n c) := F3.out.blk.at_ rfl
    have heq := fun V => eql24 V he.out.n zeroA_is
    have hgd := guard24
    obtain ⟨mt, hmt⟩ : ∃ mt, e.2.2.1 = mt := ⟨_, rfl⟩
    rw [hmt] at c32
    cases hz : (e.2.1 == zeroA) with
    | false =>
      have hb : Hid (bareE e = false) := by refine hidd ?_; rw [bareE, hz]; rfl
      rw [hz] at heq
      clear hz hmt c32
      obtain ⟨s, hs⟩ : ∃ s, W6.heap.size = s := ⟨_, rfl⟩
      have hMs : M < s := by have := F3.out.blk.lt; omega
      have hqs : q < s := by have := F3.out.box.lt; omega
      have o1 : Hid ((W6.alloc (.cells (encV e) 51)).ownsRow s 51 34 (.slice (some ⟨s, 0, none⟩) 1 1) 1 (enc e)) := by rw [← hs]; exact own_one e he.out
      have r1 : Hid (Rd (W6.alloc (.cells (encV e) 51)) _ 34 A6 m c6 (flatE l)) := Rd.of_own (own_al (by have := F3.out.own; rwa [hlm.out] at this) _)
      have l51 := hidd (ld51 F3.out.box he.out)
      have ba := hidd (F3.out.bel.alloc (by have := F3.out.bel.size; omega) (.cells (encV e) 51))
      have bM : Hid (Blk (W6.alloc (.cells (encV e) 51)) M 49 #[.slice (some ⟨g, 0, none⟩) n c]) := F3.out.blk.alloc _
      have bq : Hid (Blk (W6.alloc (.cells (encV e) 51)) q 51 (encV e)) := F3.out.box.alloc _
      have hws : w.heap.size ≤ s := by have := F3.out.bel.size; omega
      have hsa : (W6.alloc (.cells (encV e) 51)).heap.size = s + 1 := by simp [hs]
      go_wp2_with (first
        | (with_reducible show wpList _ _ _ (⟨_, Op.load 24 (.tmp 36), _, _, _, _⟩ :: _) _ _; refine wpList_load_want (by kernel_rfl) 24 _ rfl _ rfl _ (by with_reducible exact l16.out) ?_)
        | (with_reducible show wpList _ _ _ (⟨_, Op.build 24 _, _, _, _, _⟩ :: _) _ _; refine wpList_build_want rfl 24 #[] rfl (bytesV zeroA) (by kernel_rfl) ?_)
        | (with_reducible show wpList _ _ _ (⟨_, Op.load 51 (.tmp 3), _, _, _, _⟩ :: _) _ _; refine wpList_load_want (by kernel_rfl) 51 _ rfl _ rfl _ (by with_reducible exact l51.out) ?_)
        | (with_reducible show wpList _ _ _ (⟨_, Op.buildSlice 47 _ _, _, _, _, _⟩ :: _) _ _; refine wpList_bs1 rfl (.tmp 45) slE (by decide) rfl (encV e) rfl (encV_size he.out) ?_
           generalize W6.alloc (.cells (encV e) 51) = Wa at o1 r1 ba bM bq hsa ⊢
           rw [hs])
        | (at_builtin
           refine wpList_append_rd (v := .slice (some ⟨s, 0, none⟩) 1 1) Wa rfl (.tmp 46) (.tmp 47) slE rfl rfl o1.out rfl r1.out (fun u hu => isEnc.flat_one l u hu) (by unfold maxLen; omega) (by omega) (by rw [hsa]; omega) ?_
           intro v7 W7 o7 g7 t7 l7
           obtain ⟨A7, q7, rfl⟩ := slice_of_own o7
           have f7 := Fr.of_grown g7
           have hown : ∀ k, (Value.slice (some ⟨s, 0, none⟩) 1 1).ownBlock = some k → k = s := fun k h => by cases h; rfl
           have F7 : Hid (Fx w W7 M q (.slice (some ⟨g, 0, none⟩) n c) e (.slice A7 (1 + m) q7) (e :: l)) := by
             refine ⟨bM.out.fr f7 (fun h => by have := hown _ h; omega), bq.out.fr f7 (fun h => by have := hown _ h; omega), ?_, fun k hk => .inr ?_, ba.out.trans (f7.below (by rw [hsa]; omega) (fun k hk => by have := hown _ hk; omega)), fun y hy => ?_⟩
             · have := own_base (base' := M + 1) o7 (by omega)
               rw [show (e :: l).length = 1 + m by rw [List.length_cons, hlm.out] <;> omega]
               exact this
             · rcases t7 with h | h
               · rw [h] at hk; have := hown _ hk; omega
               · rw [h, hsa] at hk; have : s + 1 = k := Option.some.inj hk; omega
             · rcases List.mem_cons.1 hy with rfl | hy
               · exact he.out
               · exact F3.out.ok y hy
           have c7 : W7.cell? ⟨M, 0, none⟩ = some (.slice (some ⟨g, 0, none⟩) n c) := F7.out.blk.at_ rfl
           have z7 := F7.out.blk.frozen 0
           clear l7 t7 g7 o7 f7 cM z0))
      have P7 := hidd (F7.out.put (by rw [List.length_cons, hlm.out] <;> omega) hM)
      have src := hidd F7.out.src
      go_wp2
      go_end0
      exact ⟨⟨_, rfl⟩, _, by rw [frontE, hb.out, hcl.out]; exact P7.out.1, P7.out.2, src.out⟩
    | true =>
      rw [hz] at heq
      by_cases hm0 : mt = 0
      · have hb : Hid (bareE e = true) := by refine hidd ?_; rw [bareE, hz, hmt, hm0]; rfl
        subst hm0
        clear hz hmt
        have P3 := hidd (F3.out.put (by rw [hlm.out]; omega) hM)
        have src := hidd F3.out.src
        go_wp2_with (first
          | (with_reducible show wpList _ _ _ (⟨_, Op.load 24 (.tmp 36), _, _, _, _⟩ :: _) _ _; refine wpList_load_want (by kernel_rfl) 24 _ rfl _ rfl _ (by with_reducible exact l16.out) ?_)
          | (with_reducible show wpList _ _ _ (⟨_, Op.build 24 _, _, _, _, _⟩ :: _) _ _; refine wpList_build_want rfl 24 #[] rfl (bytesV zeroA) (by kernel_rfl) ?_))
        go_end0
        exact ⟨⟨_, rfl⟩, .slice A6 m c6, by rw [frontE, hb.out, hcl.out]; exact P3.out.1, P3.out.2, src.out⟩
      · have hb : Hid (bareE e = false) := by refine hidd ?_; rw [bareE, hz, hmt]; simpa using hm0
        have h1 : (mt == 0) = false := by simpa using hm0
        have h1' : decide (mt = 0) = false := by simpa using hm0
        clear hz hmt
        obtain ⟨s, hs⟩ : ∃ s, W6.heap.size = s := ⟨_, rfl⟩
        have hMs : M < s := by have := F3.out.blk.lt; omega
        have hqs : q < s := by have := F3.out.box.lt; omega
        have o1 : Hid ((W6.alloc (.cells (encV e) 51)).ownsRow s 51 34 (.slice (some ⟨s, 0, none⟩) 1 1) 1 (enc e)) := by rw [← hs]; exact own_one e he.out
        have r1 : Hid (Rd (W6.alloc (.cells (encV e) 51)) _ 34 A6 m c6 (flatE l)) := Rd.of_own (own_al (by have := F3.out.own; rwa [hlm.out] at this) _)
        have l51 := hidd (ld51 F3.out.box he.out)
        have ba := hidd (F3.out.bel.alloc (by have := F3.out.bel.size; omega) (.cells (encV e) 51))
        have bM : Hid (Blk (W6.alloc (.cells (encV e) 51)) M 49 #[.slice (some ⟨g, 0, none⟩) n c]) := F3.out.blk.alloc _
        have bq : Hid (Blk (W6.alloc (.cells (encV e) 51)) q 51 (encV e)) := F3.out.box.alloc _
        have hws : w.heap.size ≤ s := by have := F3.out.bel.size; omega
        have hsa : (W6.alloc (.cells (encV e) 51)).heap.size = s + 1 := by simp [hs]
        go_wp2_with (first
          | (with_reducible show wpList _ _ _ (⟨_, Op.load 24 (.tmp 36), _, _, _, _⟩ :: _) _ _; refine wpList_load_want (by kernel_rfl) 24 _ rfl _ rfl _ (by with_reducible exact l16.out) ?_)
          | (with_reducible show wpList _ _ _ (⟨_, Op.build 24 _, _, _, _, _⟩ :: _) _ _; refine wpList_build_want rfl 24 #[] rfl (bytesV zeroA) (by kernel_rfl) ?_)
          | (with_reducible show wpList _ _ _ (⟨_, Op.load 51 (.tmp 3), _, _, _, _⟩ :: _) _ _; refine wpList_load_want (by kernel_rfl) 51 _ rfl _ rfl _ (by with_reducible exact l51.out) ?_)
          | (with_reducible show wpList _ _ _ (⟨_, Op.buildSlice 47 _ _, _, _, _, _⟩ :: _) _ _; refine wpList_bs1 rfl (.tmp 45) slE (by decide) rfl (encV e) rfl (encV_size he.out) ?_
             generalize W6.alloc (.cells (encV e) 51) = Wa at o1 r1 ba bM bq hsa ⊢
             rw [hs])
          | (at_builtin
             refine wpList_append_rd (v := .slice (some ⟨s, 0, none⟩) 1 1) Wa rfl (.tmp 46) (.tmp 47) slE rfl rfl o1.out rfl r1.out (fun u hu => isEnc.flat_one l u hu) (by unfold maxLen; omega) (by omega) (by rw [hsa]; omega) ?_
             intro v7 W7 o7 g7 t7 l7
             obtain ⟨A7, q7, rfl⟩ := slice_of_own o7
             have f7 := Fr.of_grown g7
             have hown : ∀ k, (Value.slice (some ⟨s, 0, none⟩) 1 1).ownBlock = some k → k = s := fun k h => by cases h; rfl
             have F7 : Hid (Fx w W7 M q (.slice (some ⟨g, 0, none⟩) n c) e (.slice A7 (1 + m) q7) (e :: l)) := by
               refine ⟨bM.out.fr f7 (fun h => by have := hown _ h; omega), bq.out.fr f7 (fun h => by have := hown _ h; omega), ?_, fun k hk => .inr ?_, ba.out.trans (f7.below (by rw [hsa]; omega) (fun k hk => by have := hown _ hk; omega)), fun y hy => ?_⟩
               · have := own_base (base' := M + 1) o7 (by omega)
                 rw [show (e :: l).length = 1 + m by rw [List.length_cons, hlm.out] <;> omega]
                 exact this
               · rcases t7 with h | h
                 · rw [h] at hk; have := hown _ hk; omega
                 · rw [h, hsa] at hk; have : s + 1 = k := Option.some.inj hk; omega
               · rcases List.mem_cons.1 hy with rfl | hy
                 · exact he.out
                 · exact F3.out.ok y hy
             have c7 : W7.cell? ⟨M, 0, none⟩ = some (.slice (some ⟨g, 0, none⟩) n c) := F7.out.blk.at_ rfl
             have z7 := F7.out.blk.frozen 0
             clear l7 t7 g7 o7 f7 cM z0))
        have P7 := hidd (F7.out.put (by rw [List.length_cons, hlm.out] <;> omega) hM)
        have src := hidd F7.out.src
        go_wp2
        go_end0
        exact ⟨⟨_, rfl⟩, _, by rw [frontE, hb.out, hcl.out]; exact P7.out.1, P7.out.2, src.out⟩
end Go.Proofs.Ytpjjcihhmhccfaa
