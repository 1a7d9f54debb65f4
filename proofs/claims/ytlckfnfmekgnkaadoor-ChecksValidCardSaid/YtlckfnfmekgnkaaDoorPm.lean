/- A packet as it came in, whole; whether two packets are the same. No condition. -/
import Derived.Test.YtlckfnfmekgnkaaDoorRs3
namespace Go.Proofs.YtlckfnfmekgnkaaDoor
open Go.ChangeShapes Go.WideShapes Go.ChangeAt Go.RowKit Go.Deep
set_option linter.unusedVariables false
set_option linter.unusedSimpArgs false

theorem eqf_self {P : Program} {W : World} {d : Nat} {xs : Array Value} : ∀ {fs : List Field}, (∀ f ∈ fs, ¬ f.name = "_" ∧ ∃ a, (part f.type xs f.offset).run P W = .ok a W ∧ (Op.equalIn d f.type a a).run P W = .ok true W) → (Op.eqFields d xs xs fs).run P W = .ok true W
  | [], _ => by simp [Op.eqFields]
  | f :: fs, h => by
    obtain ⟨hn, a, pa, he⟩ := h f (by simp)
    have ih := eqf_self (P := P) (W := W) (d := d) (xs := xs) (fs := fs) (fun g hg => h g (by simp [hg]))
    simp [Op.eqFields, hn, Sem.run_bind, pa, he, ih]
/-- What a packet has besides. -/
structure PkX where
  fis : Bool
  id : Int
  off : Int
  more : Bool
  next : Int
  body : List Int
abbrev fragV (x : PkX) : Array Value := #[.bool x.fis, .int .u32 x.id, .int .u16 x.off, .bool x.more]
theorem fields27 : (Tryd.prog.fieldsOf 27).toList.map (fun f => (f.type, f.offset, decide (f.name = "_"))) = [(4, 0, false), (24, 1, false), (25, 2, false), (4, 3, false)] := by kernel_rfl
theorem und27 : Tryd.prog.underlying 27 = some (.struct (Tryd.prog.fieldsOf 27)) := by kernel_rfl
theorem sz27 : (Tryd.prog.info? 27).map (·.size) = some 4 := by kernel_rfl
theorem guard27 : Tryd.prog.eqGuardType Tryd.prog.depth 27 = false := by kernel_rfl
theorem eql27d (W : World) (d : Nat) (x : PkX) : (Op.equalIn (d + 2) 27 (.agg (fragV x)) (.agg (fragV x))).run Tryd.prog W = .ok true W := by
  rw [run_equalIn_struct W (d + 1) 27 _ _ und27 (by kernel_rfl)]
  refine eqf_self (fun f hf => ?_)
  have hm : (f.type, f.offset, decide (f.name = "_")) ∈ [(4, 0, false), (24, 1, false), (25, 2, false), (4, 3, false)] := by
    rw [← fields27]; exact List.mem_map.2 ⟨f, hf, rfl⟩
  have p4 : Tryd.prog.plainKey 4 = true := by kernel_rfl
  have p24 : Tryd.prog.plainKey 24 = true := by kernel_rfl
  have p25 : Tryd.prog.plainKey 25 = true := by kernel_rfl
  simp only [List.mem_cons, List.not_mem_nil, or_false, Prod.mk.injEq, decide_eq_false_iff_not] at hm
  rcases hm with ⟨h1, h2, h3⟩ | ⟨h1, h2, h3⟩ | ⟨h1, h2, h3⟩ | ⟨h1, h2, h3⟩
  · rw [h1, h2]
    exact ⟨h3, .bool x.fis, run_part_plain W p4 (xs := fragV x) (off := 0) rfl, (run_equalIn_bool' W d 4 x.fis x.fis Tryd.underlying4).trans (by simp)⟩
  · rw [h1, h2]
    exact ⟨h3, .int .u32 x.id, run_part_plain W p24 (xs := fragV x) (off := 1) rfl, (run_equalIn_int W d 24 .u32 .u32 x.id x.id Tryd.underlying24).trans (by simp)⟩
  · rw [h1, h2]
    exact ⟨h3, .int .u16 x.off, run_part_plain W p25 (xs := fragV x) (off := 2) rfl, (run_equalIn_int W d 25 .u16 .u16 x.off x.off Tryd.underlying25).trans (by simp)⟩
  · rw [h1, h2]
    exact ⟨h3, .bool x.more, run_part_plain W p4 (xs := fragV x) (off := 3) rfl, (run_equalIn_bool' W d 4 x.more x.more Tryd.underlying4).trans (by simp)⟩
theorem eql27 (W : World) (x : PkX) : (Op.equalIn 10000 27 (.agg (fragV x)) (.agg (fragV x))).run Tryd.prog W = .ok true W := eql27d W 9998 x
structure PkAll (W : World) (cs : Array Value) (p : Pk) (x : PkX) : Prop where
  is : IsPk cs p
  frag : RowAt cs 34 (fragV x).toList
  next : cs[38]? = some (.int .u8 x.next)
  body : ∃ v, cs[39]? = some v ∧ BsIn W v x.body
section
variable {w W W' : World} {cs cs' : Array Value} {p : Pk} {x : PkX} {v v' : Value} {Lo : Nat}
theorem PkAll.to (h : PkAll W cs p x) (hb : Below W.heap.size W W') : PkAll W' cs p x := by
  obtain ⟨v, h1, h2⟩ := h.body
  exact ⟨h.is, h.frag, h.next, v, h1, h2.to hb⟩
theorem get_ne {cs : Array Value} {i j : Nat} (hij : i ≠ j) (v : Value) : (cs.setIfInBounds i v)[j]? = cs[j]? := by
  rw [Array.getElem?_setIfInBounds, if_neg hij]
theorem ones_seti {cs : Array Value} (h : cs.all (·.oneCell') = true) (i : Nat) {v : Value} (hv : v.oneCell' = true) : (cs.setIfInBounds i v).all (·.oneCell') = true := by
  rw [Array.all_eq_true] at h ⊢
  intro j hj
  rw [Array.size_setIfInBounds] at hj
  rw [Array.getElem_setIfInBounds]
  split
  · exact hv
  · exact h j hj
theorem PkAll.turn (h : PkAll W cs p x) (hb : BsTw W Lo v' x.body) : PkAll W (cs.setIfInBounds 39 v') p x := by
  obtain ⟨v, h1, h2⟩ := h.body
  have hs := h.is.size
  refine ⟨⟨by rw [Array.size_setIfInBounds]; exact hs, ones_seti h.is.ones 39 hb.sl, h.is.srcA, h.is.dstA, fun j y hy => ?_, fun j y hy => ?_, by rw [get_ne (by decide)]; exact h.is.hops, h.is.hr, by rw [get_ne (by decide)]; exact h.is.alert⟩, fun j y hy => ?_, by rw [get_ne (by decide)]; exact h.next, v', ?_, hb.bs⟩
  · have hj := (List.getElem?_eq_some_iff.1 hy).1
    have := h.is.srcA.len
    rw [get_ne (by omega)]; exact h.is.src j y hy
  · have hj := (List.getElem?_eq_some_iff.1 hy).1
    have := h.is.dstA.len
    rw [get_ne (by omega)]; exact h.is.dst j y hy
  · have hj := (List.getElem?_eq_some_iff.1 hy).1
    have hl : (fragV x).toList.length = 4 := rfl
    rw [get_ne (by omega)]; exact h.frag j y hy
  · rw [Array.getElem?_setIfInBounds, if_pos rfl, if_pos (by omega)]
/-- A packet's block: what each field's load yields. -/
structure PkBl (V : World) (q : Nat) (p : Pk) (x : PkX) (v : Value) : Prop where
  src : (loadVar 23 ⟨q, 0, none⟩).run Tryd.prog V = .ok (.agg (bytesV p.src)) V
  dst : (loadVar 23 ⟨q, 16, none⟩).run Tryd.prog V = .ok (.agg (bytesV p.dst)) V
  hops : V.cell? ⟨q, 32, none⟩ = some (.int .u8 p.hops)
  alert : V.cell? ⟨q, 33, none⟩ = some (.bool p.alert)
  frag : (loadVar 27 ⟨q, 34, none⟩).run Tryd.prog V = .ok (.agg (fragV x)) V
  next : V.cell? ⟨q, 38, none⟩ = some (.int .u8 x.next)
  body : V.cell? ⟨q, 39, none⟩ = some v
theorem PkAll.bl (h : PkAll W cs p x) {V : World} {q : Nat} {t : TypeId} (hb : Blk V q t cs) (hv : cs[39]? = some v) : PkBl V q p x v :=
  ⟨ldA (range_of hb h.is.src) h.is.srcA, ldA (range_of hb h.is.dst) h.is.dstA, hb.at_ h.is.hops, hb.at_ h.is.alert,
    run_loadVar_mid (P := Tryd.prog) V q 34 27 (fragV x).toList _ (hb.rangeAt h.frag) und27 rfl sz27, hb.at_ h.next, hb.at_ hv⟩
set_option maxRecDepth 100000 in
set_option maxHeartbeats 4000000 in
theorem sameP_any (w : World) (h : PkAll w cs p x) (h' : PkAll w cs' p x) : Calls Tryd.prog 30 #[.agg cs, .agg cs'] w fun r W' => r = .returned (.bool true) ∧ Below w.heap.size w W' := by
  obtain ⟨v, hv, hb⟩ := h.body
  obtain ⟨v', hv', hb'⟩ := h'.body
  obtain ⟨q, hq⟩ : ∃ q, w.heap.size = q := ⟨_, rfl⟩
  obtain ⟨V, hV⟩ : ∃ V, (w.alloc (.cells cs 30)).alloc (.cells cs' 30) = V := ⟨_, rfl⟩
  have b1 := Blk.new w 30 cs
  have b2 := Blk.new (w.alloc (.cells cs 30)) 30 cs'
  simp only [nblk_alloc, hq] at b1 b2
  have q1 : Blk V q 30 cs := hV ▸ b1.alloc _
  have q2 : Blk V (q + 1) 30 cs' := hV ▸ b2
  have bV : Below w.heap.size w V := hV ▸ ((Below.refl _ w).alloc (Nat.le_refl _) _).alloc (by simp) _
  obtain ⟨l1, l2, l3, l4, l5, l6, l7⟩ := h.bl q1 hv
  obtain ⟨m1, m2, m3, m4, m5, m6, m7⟩ := h'.bl q2 hv'
  have hA := hidd h.is.srcA
  have hA' := hidd h.is.dstA
  have e1 := fun V => eqA V hA.out hA.out
  have e2 := fun V => eqA V hA'.out hA'.out
  have e3 := fun V => eql27 V x
  have g1 := guard23
  have g2 := guard27
  have H := hidd (And.intro (hb.to bV) (hb'.to bV))
  have B := hidd bV
  obtain ⟨A, c, rfl, _⟩ := hb
  obtain ⟨A', c', rfl, _⟩ := hb'
  clear q1 q2 b1 b2 bV h h' hv hv'
  go_enter Tryd.func30, Tryd.ntmps30
  go_wp2_with (first
    | (with_reducible show wpList _ _ _ (⟨_, Op.load 23 _, _, _, _, _⟩ :: _) _ _; refine wpList_load_want (by kernel_rfl) 23 _ rfl _ rfl _ (by with_reducible first | exact l1 | exact l2 | exact m1 | exact m2) ?_)
    | (with_reducible show wpList _ _ _ (⟨_, Op.load 27 _, _, _, _, _⟩ :: _) _ _; refine wpList_load_want (by kernel_rfl) 27 _ rfl _ rfl _ (by with_reducible first | exact l5 | exact m5) ?_)
    | fail)
  refine (sameB_any V H.out.1 H.out.2).mono ?_
  rintro r w2 ⟨rfl, b2⟩
  have B2 := hidd (B.out.trans (b2.mono B.out.size))
  clear b2 l1 l2 l3 l4 l5 l6 l7 m1 m2 m3 m4 m5 m6 m7
  go_wp2
  go_ret
  have hb := B2.out
  first | exact ⟨rfl, hb⟩ | (rw [hq] at hb; exact ⟨rfl, hb⟩)
end
end Go.Proofs.YtlckfnfmekgnkaaDoor
