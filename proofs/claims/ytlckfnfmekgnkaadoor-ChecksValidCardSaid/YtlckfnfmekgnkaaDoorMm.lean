/- A message as it came in, whole; whether two messages are the same. No condition. -/
import Derived.Test.YtlckfnfmekgnkaaDoorPm2
namespace Go.Proofs.YtlckfnfmekgnkaaDoor
open Go.ChangeShapes Go.WideShapes Go.ChangeAt Go.RowKit Go.Deep
set_option linter.unusedVariables false
set_option linter.unusedSimpArgs false

/-- A list, element by element, as one list of cells. -/
theorem Lst.rd {W : World} {K n c : Nat} {A : Option Addr} {P : Nat → List Value → Prop} (h : Lst W K A n c P) (hK : 0 < K) : ∃ f : Nat → List Value, (∀ i, i < n → (f i).length = K ∧ P i (f i)) ∧ Rd W W.heap.size K A n c ((List.range n).flatMap f) := by
  rcases Nat.eq_zero_or_pos n with rfl | hn
  · exact ⟨fun _ => [], fun i hi => by omega, by simp, h.cap, h.cmax, h.nil, fun h => by omega⟩
  · obtain ⟨b, off, hA, hb, hr⟩ := h.at_ hn
    obtain ⟨f, hf⟩ := choose_lt (α := List Value) hr
    refine ⟨f, fun i hi => ⟨(hf i hi).1, (hf i hi).2.2⟩, flat_len f K n (fun i hi => (hf i hi).1), h.cap, h.cmax, h.nil, fun _ => ⟨b, off, hA, hb, fun j u hu => ?_⟩⟩
    have hj : j < n * K := by
      have := (List.getElem?_eq_some_iff.1 hu).1
      rwa [flat_len f K n (fun i hi => (hf i hi).1)] at this
    rw [flat_get f K n hK (fun i hi => (hf i hi).1) j hj] at hu
    have hi : j / K < n := (Nat.div_lt_iff_lt_mul hK).2 hj
    have := (hf (j / K) hi).2.1 (j % K) u hu
    rwa [Nat.add_assoc, show j / K * K + j % K = j by rw [Nat.mul_comm]; exact Nat.div_add_mod j K] at this
theorem OsIn.ops {W : World} {v : Value} {os : List Op2} (h : OsIn W v os) : IsOps W W.heap.size v (os.map (·.1)) := by
  obtain ⟨A, c, rfl, h2, _⟩ := h
  obtain ⟨f, hf, hr⟩ := h2.rd (by omega)
  refine ⟨A, os.length, c, _, rfl, hr, by simp, fun i k hi => ?_⟩
  rw [List.getElem?_map] at hi
  cases ho : os[i]? with
  | none => rw [ho] at hi; cases hi
  | some o =>
    rw [ho] at hi
    simp at hi
    subst hi
    have hlt := (List.getElem?_eq_some_iff.1 ho).1
    obtain ⟨h3, o', v', h4, h5, A', c', h6, _⟩ := hf i hlt
    rw [ho] at h4
    cases h4
    have g0 := flat_get f 2 os.length (by omega) (fun i hi => (hf i hi).1) (i * 2) (by omega)
    have g1 := flat_get f 2 os.length (by omega) (fun i hi => (hf i hi).1) (i * 2 + 1) (by omega)
    rw [show i * 2 / 2 = i by omega, show i * 2 % 2 = 0 by omega, h5] at g0
    rw [show (i * 2 + 1) / 2 = i by omega, show (i * 2 + 1) % 2 = 1 by omega, h5] at g1
    exact ⟨g0, A', _, c', by rw [g1, h6]; rfl⟩
/-- What a message has besides. -/
structure MsX where
  param : Int
  hops : Int
  life : Int
  reach : Int
  retr : Int
  max : Int
  group : List Int
  robust : Int
  interval : Int
  data : List Int
  os : List Op2
  sources : List (List Int)
  recs : List Rec3
structure MsAll (W : World) (cs : Array Value) (m : Ms) (x : MsX) : Prop where
  is : IsMs W W.heap.size cs m
  ks : m.ks = x.os.map (·.1)
  param : cs[2]? = some (.int .u32 x.param)
  hops : cs[4]? = some (.int .u8 x.hops)
  life : cs[6]? = some (.int .u16 x.life)
  reach : cs[7]? = some (.int .u32 x.reach)
  retr : cs[8]? = some (.int .u32 x.retr)
  max : cs[42]? = some (.int .u16 x.max)
  groupA : IsAddr x.group
  group : At cs 43 x.group
  robust : cs[59]? = some (.int .u8 x.robust)
  interval : cs[60]? = some (.int .u8 x.interval)
  data : ∃ v, cs[3]? = some v ∧ BsIn W v x.data
  os : ∃ v, cs[41]? = some v ∧ OsIn W v x.os
  sources : ∃ v, cs[61]? = some v ∧ AsIn W v x.sources
  recs : ∃ v, cs[62]? = some v ∧ RsIn W v x.recs
structure MsTw (W : World) (Lo : Nat) (v3 v11 v16 v17 : Value) (x : MsX) : Prop where
  data : BsTw W Lo v3 x.data
  os : OsTw W Lo v11 x.os
  sources : AsTw W Lo v16 x.sources
  recs : RsTw W Lo v17 x.recs
def put4 (cs : Array Value) (v3 v11 v16 v17 : Value) : Array Value := (((cs.setIfInBounds 3 v3).setIfInBounds 41 v11).setIfInBounds 61 v16).setIfInBounds 62 v17
section
variable {w W W' : World} {cs cs' : Array Value} {m : Ms} {x : MsX} {v3 v11 v16 v17 : Value} {Lo : Nat}
theorem MsAll.to (h : MsAll W cs m x) (hb : Below W.heap.size W W') : MsAll W' cs m x := by
  obtain ⟨v3, h1, h2⟩ := h.data
  obtain ⟨v11, h3, h4⟩ := h.os
  obtain ⟨v16, h5, h6⟩ := h.sources
  obtain ⟨v17, h7, h8⟩ := h.recs
  exact ⟨h.is.to hb hb.size, h.ks, h.param, h.hops, h.life, h.reach, h.retr, h.max, h.groupA, h.group, h.robust, h.interval, ⟨v3, h1, h2.to hb⟩, ⟨v11, h3, h4.to hb⟩, ⟨v16, h5, h6.to hb⟩, ⟨v17, h7, h8.to hb⟩⟩
theorem MsTw.to (h : MsTw W Lo v3 v11 v16 v17 x) (hb : Below W.heap.size W W') : MsTw W' Lo v3 v11 v16 v17 x := ⟨h.data.to hb, h.os.to hb, h.sources.to hb, h.recs.to hb⟩
theorem OsTw.sl {W : World} {v : Value} {os : List Op2} (h : OsTw W Lo v os) : v.oneCell' = true := by
  obtain ⟨g, cs, rfl, _⟩ := h
  rfl
theorem RsTw.sl {W : World} {v : Value} {os : List Rec3} (h : RsTw W Lo v os) : v.oneCell' = true := by
  obtain ⟨g, cs, rfl, _⟩ := h
  rfl
theorem put4_ne {i : Nat} (h3 : i ≠ 3) (h11 : i ≠ 41) (h16 : i ≠ 61) (h17 : i ≠ 62) : (put4 cs v3 v11 v16 v17)[i]? = cs[i]? := by
  unfold put4
  rw [get_ne (Ne.symm h17), get_ne (Ne.symm h16), get_ne (Ne.symm h11), get_ne (Ne.symm h3)]
theorem put4_size : (put4 cs v3 v11 v16 v17).size = cs.size := by unfold put4; simp
theorem put4_3 (h : cs.size = 63) : (put4 cs v3 v11 v16 v17)[3]? = some v3 := by
  unfold put4
  rw [get_ne (by decide), get_ne (by decide), get_ne (by decide), Array.getElem?_setIfInBounds, if_pos rfl, if_pos (by omega)]
theorem put4_11 (h : cs.size = 63) : (put4 cs v3 v11 v16 v17)[41]? = some v11 := by
  unfold put4
  rw [get_ne (by decide), get_ne (by decide), Array.getElem?_setIfInBounds, if_pos rfl, if_pos (by simp; omega)]
theorem put4_16 (h : cs.size = 63) : (put4 cs v3 v11 v16 v17)[61]? = some v16 := by
  unfold put4
  rw [get_ne (by decide), Array.getElem?_setIfInBounds, if_pos rfl, if_pos (by simp; omega)]
theorem put4_17 (h : cs.size = 63) : (put4 cs v3 v11 v16 v17)[62]? = some v17 := by
  unfold put4
  rw [Array.getElem?_setIfInBounds, if_pos rfl, if_pos (by simp; omega)]
theorem at_put4 {o : Nat} {l : List Int} (h : At cs o l) (hl : l.length = 16) (ho : o = 9 ∨ o = 25 ∨ o = 43) : At (put4 cs v3 v11 v16 v17) o l := fun j y hy => by
  have hj := (List.getElem?_eq_some_iff.1 hy).1
  rw [put4_ne (by omega) (by omega) (by omega) (by omega)]
  exact h j y hy
theorem MsAll.turn (h : MsAll W cs m x) (ht : MsTw W Lo v3 v11 v16 v17 x) : MsAll W (put4 cs v3 v11 v16 v17) m x := by
  have hs := h.is.size
  have n4 := fun {i : Nat} (a : i ≠ 3) (b : i ≠ 41) (c : i ≠ 61) (d : i ≠ 62) => put4_ne (cs := cs) (v3 := v3) (v11 := v11) (v16 := v16) (v17 := v17) a b c d
  refine ⟨⟨by rw [put4_size]; exact hs, ?_, by rw [n4 (by decide) (by decide) (by decide) (by decide)]; exact h.is.kind, h.is.kr, by rw [n4 (by decide) (by decide) (by decide) (by decide)]; exact h.is.code, h.is.cr, by rw [n4 (by decide) (by decide) (by decide) (by decide)]; exact h.is.flags, h.is.fr, h.is.targetA, h.is.destA, at_put4 h.is.target h.is.targetA.len (.inl rfl), at_put4 h.is.dest h.is.destA.len (.inr (.inl rfl)), v11, put4_11 hs, ?_⟩, h.ks,
    by rw [n4 (by decide) (by decide) (by decide) (by decide)]; exact h.param, by rw [n4 (by decide) (by decide) (by decide) (by decide)]; exact h.hops, by rw [n4 (by decide) (by decide) (by decide) (by decide)]; exact h.life, by rw [n4 (by decide) (by decide) (by decide) (by decide)]; exact h.reach, by rw [n4 (by decide) (by decide) (by decide) (by decide)]; exact h.retr, by rw [n4 (by decide) (by decide) (by decide) (by decide)]; exact h.max, h.groupA, at_put4 h.group h.groupA.len (.inr (.inr rfl)), by rw [n4 (by decide) (by decide) (by decide) (by decide)]; exact h.robust, by rw [n4 (by decide) (by decide) (by decide) (by decide)]; exact h.interval,
    ⟨v3, put4_3 hs, ht.data.bs⟩, ⟨v11, put4_11 hs, ht.os.os_⟩, ⟨v16, put4_16 hs, ht.sources.as_⟩, ⟨v17, put4_17 hs, ht.recs.rs_⟩⟩
  · unfold put4
    exact ones_seti (ones_seti (ones_seti (ones_seti h.is.ones 3 ht.data.sl) 41 ht.os.sl) 61 ht.sources.sl) 62 ht.recs.sl
  · rw [h.ks]; exact ht.os.os_.ops
/-- A message's block: what each field's load yields. -/
structure MsBl (V : World) (q : Nat) (m : Ms) (x : MsX) (v3 v11 v16 v17 : Value) : Prop where
  kind : V.cell? ⟨q, 0, none⟩ = some (.int .u8 m.kind)
  code : V.cell? ⟨q, 1, none⟩ = some (.int .u8 m.code)
  param : V.cell? ⟨q, 2, none⟩ = some (.int .u32 x.param)
  hops : V.cell? ⟨q, 4, none⟩ = some (.int .u8 x.hops)
  flags : V.cell? ⟨q, 5, none⟩ = some (.int .u8 m.flags)
  life : V.cell? ⟨q, 6, none⟩ = some (.int .u16 x.life)
  reach : V.cell? ⟨q, 7, none⟩ = some (.int .u32 x.reach)
  retr : V.cell? ⟨q, 8, none⟩ = some (.int .u32 x.retr)
  max : V.cell? ⟨q, 42, none⟩ = some (.int .u16 x.max)
  robust : V.cell? ⟨q, 59, none⟩ = some (.int .u8 x.robust)
  interval : V.cell? ⟨q, 60, none⟩ = some (.int .u8 x.interval)
  target : (loadVar 23 ⟨q, 9, none⟩).run Tryd.prog V = .ok (.agg (bytesV m.target)) V
  dest : (loadVar 23 ⟨q, 25, none⟩).run Tryd.prog V = .ok (.agg (bytesV m.dest)) V
  group : (loadVar 23 ⟨q, 43, none⟩).run Tryd.prog V = .ok (.agg (bytesV x.group)) V
  data : V.cell? ⟨q, 3, none⟩ = some v3
  os : V.cell? ⟨q, 41, none⟩ = some v11
  sources : V.cell? ⟨q, 61, none⟩ = some v16
  recs : V.cell? ⟨q, 62, none⟩ = some v17
theorem MsAll.bl (h : MsAll W cs m x) {V : World} {q : Nat} {t : TypeId} (hb : Blk V q t cs) (h3 : cs[3]? = some v3) (h11 : cs[41]? = some v11) (h16 : cs[61]? = some v16) (h17 : cs[62]? = some v17) : MsBl V q m x v3 v11 v16 v17 :=
  ⟨hb.at_ h.is.kind, hb.at_ h.is.code, hb.at_ h.param, hb.at_ h.hops, hb.at_ h.is.flags, hb.at_ h.life, hb.at_ h.reach, hb.at_ h.retr, hb.at_ h.max, hb.at_ h.robust, hb.at_ h.interval, ldA (range_of hb h.is.target) h.is.targetA, ldA (range_of hb h.is.dest) h.is.destA, ldA (range_of hb h.group) h.groupA, hb.at_ h3, hb.at_ h11, hb.at_ h16, hb.at_ h17⟩
set_option maxRecDepth 100000 in
set_option maxHeartbeats 8000000 in
theorem sameM_any (w : World) (h : MsAll w cs m x) (h' : MsAll w cs' m x) : Calls Tryd.prog 32 #[.agg cs, .agg cs'] w fun r W' => r = .returned (.bool true) ∧ Below w.heap.size w W' := by
  obtain ⟨v3, hv3, hb3⟩ := h.data
  obtain ⟨v11, hv11, hb11⟩ := h.os
  obtain ⟨v16, hv16, hb16⟩ := h.sources
  obtain ⟨v17, hv17, hb17⟩ := h.recs
  obtain ⟨u3, hu3, hc3⟩ := h'.data
  obtain ⟨u11, hu11, hc11⟩ := h'.os
  obtain ⟨u16, hu16, hc16⟩ := h'.sources
  obtain ⟨u17, hu17, hc17⟩ := h'.recs
  obtain ⟨q, hq⟩ : ∃ q, w.heap.size = q := ⟨_, rfl⟩
  obtain ⟨V, hV⟩ : ∃ V, (w.alloc (.cells cs 35)).alloc (.cells cs' 35) = V := ⟨_, rfl⟩
  have b1 := Blk.new w 35 cs
  have b2 := Blk.new (w.alloc (.cells cs 35)) 35 cs'
  simp only [nblk_alloc, hq] at b1 b2
  have q1 : Blk V q 35 cs := hV ▸ b1.alloc _
  have q2 : Blk V (q + 1) 35 cs' := hV ▸ b2
  have bV : Below w.heap.size w V := hV ▸ ((Below.refl _ w).alloc (Nat.le_refl _) _).alloc (by simp) _
  have X1 := hidd (fun (U : World) (hU : Below V.heap.size V U) => h.bl (q1.below hU q1.lt) hv3 hv11 hv16 hv17)
  have X2 := hidd (fun (U : World) (hU : Below V.heap.size V U) => h'.bl (q2.below hU q2.lt) hu3 hu11 hu16 hu17)
  have hA1 := hidd h.is.targetA
  have hA2 := hidd h.is.destA
  have hA3 := hidd h.groupA
  have e1 := fun V => eqA V hA1.out hA1.out
  have e2 := fun V => eqA V hA2.out hA2.out
  have e3 := fun V => eqA V hA3.out hA3.out
  have g1 := guard23
  have H := hidd (show (BsIn V v3 x.data ∧ BsIn V u3 x.data) ∧ (OsIn V v11 x.os ∧ OsIn V u11 x.os) ∧ (AsIn V v16 x.sources ∧ AsIn V u16 x.sources) ∧ RsIn V v17 x.recs ∧ RsIn V u17 x.recs from ⟨⟨hb3.to bV, hc3.to bV⟩, ⟨hb11.to bV, hc11.to bV⟩, ⟨hb16.to bV, hc16.to bV⟩, hb17.to bV, hc17.to bV⟩)
  have B := hidd bV
  obtain ⟨_, _, rfl, _⟩ := hb3
  obtain ⟨_, _, rfl, _⟩ := hb11
  obtain ⟨_, _, rfl, _⟩ := hb16
  obtain ⟨_, _, rfl, _⟩ := hb17
  obtain ⟨_, _, rfl, _⟩ := hc3
  obtain ⟨_, _, rfl, _⟩ := hc11
  obtain ⟨_, _, rfl, _⟩ := hc16
  obtain ⟨_, _, rfl, _⟩ := hc17
  clear q1 q2 b1 b2 bV h h' hv3 hv11 hv16 hv17 hu3 hu11 hu16 hu17
  obtain ⟨l0, l1, l2, l3, l4, l5, l6, l7, l8, l9, l10, l11, l12, l13, l14, l15, l16, l17⟩ := X1.out V (Below.refl _ V)
  obtain ⟨m0, m1, m2, m3, m4, m5, m6, m7, m8, m9, m10, m11, m12, m13, m14, m15, m16, m17⟩ := X2.out V (Below.refl _ V)
  go_enter Tryd.func32, Tryd.ntmps32
  go_wp2_with (first
    | (with_reducible show wpList _ _ _ (⟨_, Op.load 23 _, _, _, _, _⟩ :: _) _ _; refine wpList_load_want (w := V) (by kernel_rfl) 23 _ rfl _ rfl _ (by with_reducible first | exact l11 | exact l12 | exact l13 | exact m11 | exact m12 | exact m13) ?_)
    | fail)
  refine (sameB_any V H.out.1.1 H.out.1.2).mono ?_
  rintro r V1 ⟨rfl, bb⟩
  have Z1 := hidd (bb)
  clear bb
  clear l0 l1 l2 l3 l4 l5 l6 l7 l8 l9 l10 l11 l12 l13 l14 l15 l16 l17 m0 m1 m2 m3 m4 m5 m6 m7 m8 m9 m10 m11 m12 m13 m14 m15 m16 m17
  have c1 := (X1.out V1 Z1.out).os
  have c2 := (X2.out V1 Z1.out).os
  go_wp2_with fail
  clear c1 c2
  refine (sameO_any V1 (H.out.2.1.1.to Z1.out) (H.out.2.1.2.to Z1.out)).mono ?_
  rintro r V2 ⟨rfl, bb⟩
  have Z2 := hidd (Z1.out.trans (bb.mono Z1.out.size))
  clear bb
  have c1 := (X1.out V2 Z2.out).sources
  have c2 := (X2.out V2 Z2.out).sources
  go_wp2_with fail
  clear c1 c2
  refine (sameA_any V2 (H.out.2.2.1.1.to Z2.out) (H.out.2.2.1.2.to Z2.out)).mono ?_
  rintro r V3 ⟨rfl, bb⟩
  have Z3 := hidd (Z2.out.trans (bb.mono Z2.out.size))
  clear bb
  have c1 := (X1.out V3 Z3.out).recs
  have c2 := (X2.out V3 Z3.out).recs
  go_wp2_with fail
  clear c1 c2
  refine (sameR_any V3 (H.out.2.2.2.1.to Z3.out) (H.out.2.2.2.2.to Z3.out)).mono ?_
  rintro r V4 ⟨rfl, bb⟩
  have Z4 := hidd (Z3.out.trans (bb.mono Z3.out.size))
  clear bb
  go_wp2
  go_ret
  have hb := B.out.trans (Z4.out.mono B.out.size)
  first | exact ⟨rfl, hb⟩ | (rw [hq] at hb; exact ⟨rfl, hb⟩)
end
end Go.Proofs.YtlckfnfmekgnkaaDoor
