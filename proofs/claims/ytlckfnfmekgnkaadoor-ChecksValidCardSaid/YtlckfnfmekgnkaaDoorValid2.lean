/- Whether a message counts in a packet. No condition but that the table of known addresses lies where it was laid. -/
import Derived.Test.YtlckfnfmekgnkaaDoorValid
namespace Go.Proofs.YtlckfnfmekgnkaaDoor
open Go.ChangeShapes Go.WideShapes Go.ChangeAt Go.RowKit Go.Deep Go.MapKept
set_option linter.unusedVariables false
set_option linter.unusedSimpArgs false

def rule (k : Int) : Option (Int × (Pk → Ms → Bool)) :=
  if k = 133 then some (255, solicits) else if k = 134 then some (255, routes) else if k = 135 then some (255, asks) else if k = 136 then some (255, answers) else if k = 137 then some (255, redirects) else if k = 130 then some (1, questions) else if k = 143 then some (1, reports) else none
def valid (p : Pk) (m : Ms) : Bool := match rule m.kind with
  | none => true
  | some (h, f) => p.hops == h && m.code == 0 && f p m

/-- A region is cut off: what holds behind it. -/
def Only (R : Act → World → Prop) : Exit → Act → World → Prop
  | .normal, a, w => R a w
  | _, _, _ => False
theorem region_cut {P : Program} {id : Nat} {ops : Array Oper} {b : Bool} {Q : Exit → Act → World → Prop} {a : Act} {W : World} (R : Act → World → Prop) (h1 : (Code.region id ops b).wp P (Only R) a W) (h2 : ∀ a w, R a w → Q .normal a w) : (Code.region id ops b).wp P Q a W :=
  Code.wp_mono (fun e a w h => by
    cases e with
    | normal => exact h2 a w h
    | _ => exact (h : False).elim) h1

def mapOf (w : World) (g : Nat) : Prop := w.heap[g]? = some (.map table 7)
theorem mapOf.below {w W : World} {g B : Nat} (h : mapOf w g) (hb : Below B w W) (hg : g < B) : mapOf W g := (hb.block g hg).trans h
theorem mapOf.new (w : World) : mapOf (w.alloc (.map table 7)) w.heap.size := heap_alloc_last w _
theorem ones2 (h : Int) {fv : Value} (hfv : fv.oneCell' = true) : (#[.int .u8 h, fv] : Array Value).all (·.oneCell') = true := by
  have h1 : (Value.int .u8 h).oneCell' = true := rfl
  simp [h1, hfv]
def zc : Array Value := #[.int .u8 0, .nilFunc]

/-- What the first statement of 'Valid' leaves. -/
def Looked (w : World) (cs ms : Array Value) (p : Pk) (m : Ms) (cells : Array Value) (ok : Bool) (a : Act) (V : World) : Prop :=
  ∃ (g : Nat) (t7 t8 t9 t10 t11 t12 t13 : Value), Boxes w V cs ms p m ∧ Blk V g 60 cells ∧
    a = { tmps := #[.agg cs, .agg ms, .pointer (some ⟨w.heap.size, 0, none⟩), .pointer (some ⟨w.heap.size + 1, 0, none⟩), .bool false, .pointer (some ⟨g, 0, none⟩), .bool ok, t7, t8, t9, t10, t11, t12, t13, undef, undef, undef, undef, undef, undef, undef, undef, undef, undef, undef, undef, undef, undef, undef, undef, undef, undef, undef, undef, undef], defers := [] }

set_option maxHeartbeats 2000000 in
theorem valid_gen (w : World) (cs ms : Array Value) (p : Pk) (m : Ms) (hg : Gl w) (hp : IsPk cs p) (hm : IsMs w w.heap.size ms m) (h : Int) (fv : Value) (hfv : fv.oneCell' = true) (ok : Bool)
    (hlook : ∀ (V : World) (g : Nat), mapOf V g → (Instr.lookup 62 (.map (some g)) (.int .u8 m.kind) true).run Tryd.prog V = .ok (.tuple #[.agg #[.int .u8 h, fv], .bool ok]) V)
    (res : Bool) (hres : (ok = false ∧ res = true) ∨ (ok = true ∧ ∃ f spec, (f = 39 ∨ f = 40 ∨ f = 41 ∨ f = 42 ∨ f = 43 ∨ f = 44 ∨ f = 45) ∧ fv = .func (.func f) #[] #[] ∧ Holds f spec ∧ res = (p.hops == h && m.code == 0 && spec p m))) :
    Calls Tryd.prog 11 #[.agg cs, .agg ms] w fun e w' => e = .returned (.bool res) ∧ Below w.heap.size w w' := by
  have X := hidd (Boxes.new hg hp hm)
  have hk' := hidd hp
  have hsz : ((w.alloc (.cells cs 30)).alloc (.cells ms 35)).heap.size = w.heap.size + 1 + 1 := by simp
  have hz60 : ∀ V : World, (zeroValue 60).run Tryd.prog V = .ok (.agg zc) V := fun V => (zero_of_info (v := .agg zc) (n := 2) (by kernel_rfl)).1 V
  clear hg hp hm
  go_enter Tryd.func11, Tryd.ntmps11
  go_wp2
  generalize (w.alloc (.cells cs 30)).alloc (.cells ms 35) = W at *
  refine region_cut (Looked w cs ms p m #[.int .u8 h, fv] ok) ?_ ?_
  · have hsd : W.drew.heap.size = w.heap.size + 1 + 1 := hsz
    refine wp_region_held_drew (S := (fun V => Boxes w V cs ms p m)) (by kernel_rfl) X.out.drew (fun hHeld => ?_)
    refine wpAnyH_take (i := 1) (v := ?_) rfl (by kernel_rfl) (by kernel_rfl) (by kernel_rfl) (fun _ _ _ h => h) (Or.inl ⟨by kernel_rfl, ?_⟩) hHeld ?_
    rotate_left
    · intro wh hSw
      go_simp
      try with_reducible rfl
    try simp only [Act.put, List.getElem_toArray, List.getElem_cons_zero, List.getElem_cons_succ, List.setIfInBounds_toArray, List.set_cons_zero, List.set_cons_succ]
    refine wpAnyH_take (i := 2) (v := ?_) rfl (by kernel_rfl) (by kernel_rfl) (by kernel_rfl) (fun _ _ _ h => h) (Or.inl ⟨by kernel_rfl, ?_⟩) hHeld ?_
    rotate_left
    · intro wh hSw
      have hcell := hSw.ckind
      go_simp
      try with_reducible rfl
    try simp only [Act.put, List.getElem_toArray, List.getElem_cons_zero, List.getElem_cons_succ, List.setIfInBounds_toArray, List.set_cons_zero, List.set_cons_succ]
    refine wpAnyH_ready (rs := [0, 7]) (by kernel_rfl) (by simp) (AllReadyH.cons rfl (fun K hK => ?_) (AllReadyH.cons rfl (fun K hK => ?_) AllReadyH.nil))
    · skip
      clear hHeld
      go_simp
      refine (rules_any _).mono ?_
      rintro e V2 ⟨rfl, rfl⟩
      dsimp only
      rw [hsd]
      have Xa : Hid (Boxes w (W.drew.alloc (.map table 7)) cs ms p m) := X.out.drew.to ((Below.refl _ W.drew).alloc (Nat.le_refl _) (.map table 7))
      have Ma : mapOf (W.drew.alloc (.map table 7)) (w.heap.size + 1 + 1) := by have := mapOf.new W.drew; rwa [hsd] at this
      have Sa : (W.drew.alloc (.map table 7)).heap.size = w.heap.size + 1 + 1 + 1 := by rw [World.size_alloc, hsd]
      generalize W.drew.alloc (.map table 7) = V at *
      refine hK.out _ _ Xa.out (fun hHeld => ?_)
      clear hK K
      try simp only [Act.put, List.getElem_toArray, List.getElem_cons_zero, List.getElem_cons_succ, List.setIfInBounds_toArray, List.set_cons_zero, List.set_cons_succ]
      refine wpAnyH_ready (rs := [3, 7]) (by kernel_rfl) (by simp) (AllReadyH.cons rfl (fun K hK => ?_) (AllReadyH.cons rfl (fun K hK => ?_) AllReadyH.nil))
      · skip
        clear hHeld
        have hl := hlook V _ Ma
        go_simp
        refine hK.out _ _ Xa.out (fun hHeld => ?_)
        clear hK K
        try simp only [Act.put, List.getElem_toArray, List.getElem_cons_zero, List.getElem_cons_succ, List.setIfInBounds_toArray, List.set_cons_zero, List.set_cons_succ]
        refine wpAnyH_take (i := 4) (v := ?_) rfl (by kernel_rfl) (by kernel_rfl) (by kernel_rfl) (fun _ _ _ h => h) (Or.inl ⟨by kernel_rfl, ?_⟩) hHeld ?_
        rotate_left
        · intro wh hSw
          go_simp
          try with_reducible rfl
        try simp only [Act.put, List.getElem_toArray, List.getElem_cons_zero, List.getElem_cons_succ, List.setIfInBounds_toArray, List.set_cons_zero, List.set_cons_succ]
        refine wpAnyH_take (i := 5) (v := ?_) rfl (by kernel_rfl) (by kernel_rfl) (by kernel_rfl) (fun _ _ _ h => h) (Or.inl ⟨by kernel_rfl, ?_⟩) hHeld ?_
        rotate_left
        · intro wh hSw
          go_simp
          try with_reducible rfl
        try simp only [Act.put, List.getElem_toArray, List.getElem_cons_zero, List.getElem_cons_succ, List.setIfInBounds_toArray, List.set_cons_zero, List.set_cons_succ]
        refine wpAnyH_take (i := 6) (v := ?_) rfl (by kernel_rfl) (by kernel_rfl) (by kernel_rfl) (fun _ _ _ h => h) (Or.inl ⟨by kernel_rfl, ?_⟩) hHeld ?_
        rotate_left
        · intro wh hSw
          go_simp
          try with_reducible rfl
        try simp only [Act.put, List.getElem_toArray, List.getElem_cons_zero, List.getElem_cons_succ, List.setIfInBounds_toArray, List.set_cons_zero, List.set_cons_succ]
        refine wpAnyH_ready (rs := [7]) (by kernel_rfl) (by simp) (AllReadyH.cons rfl (fun K hK => ?_) AllReadyH.nil)
        clear hHeld
        go_simp
        have Bz : Below (w.heap.size + 1 + 1 + 1) V (V.alloc (.cells zc 60)) := (Below.refl _ V).alloc (by omega) _
        have Xb := Xa
        have Xc : Hid (Boxes w (V.alloc (.cells zc 60)) cs ms p m) := Xa.out.to (by rw [Sa]; exact Bz)
        have Bb : Blk (V.alloc (.cells zc 60)) (w.heap.size + 1 + 1 + 1) 60 zc := by have := Blk.new V 60 zc; rwa [Sa] at this
        rw [← Sa] at Bz
        generalize hV2 : V.alloc (.cells zc 60) = V2 at *
        refine hK.out _ _ Xc.out (fun hHeld => ?_)
        clear hK K
        try simp only [Act.put, List.getElem_toArray, List.getElem_cons_zero, List.getElem_cons_succ, List.setIfInBounds_toArray, List.set_cons_zero, List.set_cons_succ]
        refine wpAnyH_ready (rs := [8]) (by kernel_rfl) (by simp) (AllReadyH.cons rfl (fun K hK => ?_) AllReadyH.nil)
        clear hHeld
        refine step_store_blk rfl 60 _ _ rfl (w.heap.size + 1 + 1 + 1) 60 _ #[.int .u8 h, fv] Bb rfl rfl (by kernel_rfl) rfl (ones2 h hfv) ?_
        have XZ := hidd (Xb.out.to (below_setRow (g := w.heap.size + 1 + 1 + 1) Bz (by omega) #[.int .u8 h, fv]))
        have BZ := Bb.setRow #[.int .u8 h, fv]
        refine hK.out _ _ XZ.out (fun hHeld => ?_)
        clear hK K
        try simp only [Act.put, List.getElem_toArray, List.getElem_cons_zero, List.getElem_cons_succ, List.setIfInBounds_toArray, List.set_cons_zero, List.set_cons_succ]
        refine wpAnyH_take (i := 9) (v := ?_) rfl (by kernel_rfl) (by kernel_rfl) (by kernel_rfl) (fun _ _ _ h => h) (Or.inl ⟨by kernel_rfl, ?_⟩) hHeld ?_
        rotate_left
        · intro wh hSw
          go_simp
          try with_reducible rfl
        try simp only [Act.put, List.getElem_toArray, List.getElem_cons_zero, List.getElem_cons_succ, List.setIfInBounds_toArray, List.set_cons_zero, List.set_cons_succ]
        refine wpAnyH_done (by kernel_rfl) ?_ _
        exact ⟨_, _, _, _, _, _, _, _, XZ.out, BZ, rfl⟩
      · skip
        clear hHeld
        go_simp
        have Bz : Below (w.heap.size + 1 + 1 + 1) V (V.alloc (.cells zc 60)) := (Below.refl _ V).alloc (by omega) _
        have Xb := Xa
        have Xc : Hid (Boxes w (V.alloc (.cells zc 60)) cs ms p m) := Xa.out.to (by rw [Sa]; exact Bz)
        have Bb : Blk (V.alloc (.cells zc 60)) (w.heap.size + 1 + 1 + 1) 60 zc := by have := Blk.new V 60 zc; rwa [Sa] at this
        have Mb : mapOf (V.alloc (.cells zc 60)) (w.heap.size + 1 + 1) := Ma.below Bz (by omega)
        rw [← Sa] at Bz
        generalize hV2 : V.alloc (.cells zc 60) = V2 at *
        refine hK.out _ _ Xc.out (fun hHeld => ?_)
        clear hK K
        try simp only [Act.put, List.getElem_toArray, List.getElem_cons_zero, List.getElem_cons_succ, List.setIfInBounds_toArray, List.set_cons_zero, List.set_cons_succ]
        refine wpAnyH_ready (rs := [3]) (by kernel_rfl) (by simp) (AllReadyH.cons rfl (fun K hK => ?_) AllReadyH.nil)
        clear hHeld
        have hl := hlook V2 _ Mb
        go_simp
        refine hK.out _ _ Xc.out (fun hHeld => ?_)
        clear hK K
        try simp only [Act.put, List.getElem_toArray, List.getElem_cons_zero, List.getElem_cons_succ, List.setIfInBounds_toArray, List.set_cons_zero, List.set_cons_succ]
        refine wpAnyH_take (i := 4) (v := ?_) rfl (by kernel_rfl) (by kernel_rfl) (by kernel_rfl) (fun _ _ _ h => h) (Or.inl ⟨by kernel_rfl, ?_⟩) hHeld ?_
        rotate_left
        · intro wh hSw
          go_simp
          try with_reducible rfl
        try simp only [Act.put, List.getElem_toArray, List.getElem_cons_zero, List.getElem_cons_succ, List.setIfInBounds_toArray, List.set_cons_zero, List.set_cons_succ]
        refine wpAnyH_take (i := 5) (v := ?_) rfl (by kernel_rfl) (by kernel_rfl) (by kernel_rfl) (fun _ _ _ h => h) (Or.inl ⟨by kernel_rfl, ?_⟩) hHeld ?_
        rotate_left
        · intro wh hSw
          go_simp
          try with_reducible rfl
        try simp only [Act.put, List.getElem_toArray, List.getElem_cons_zero, List.getElem_cons_succ, List.setIfInBounds_toArray, List.set_cons_zero, List.set_cons_succ]
        refine wpAnyH_take (i := 6) (v := ?_) rfl (by kernel_rfl) (by kernel_rfl) (by kernel_rfl) (fun _ _ _ h => h) (Or.inl ⟨by kernel_rfl, ?_⟩) hHeld ?_
        rotate_left
        · intro wh hSw
          go_simp
          try with_reducible rfl
        try simp only [Act.put, List.getElem_toArray, List.getElem_cons_zero, List.getElem_cons_succ, List.setIfInBounds_toArray, List.set_cons_zero, List.set_cons_succ]
        refine wpAnyH_ready (rs := [8]) (by kernel_rfl) (by simp) (AllReadyH.cons rfl (fun K hK => ?_) AllReadyH.nil)
        clear hHeld
        refine step_store_blk rfl 60 _ _ rfl (w.heap.size + 1 + 1 + 1) 60 _ #[.int .u8 h, fv] Bb rfl rfl (by kernel_rfl) rfl (ones2 h hfv) ?_
        have XZ := hidd (Xb.out.to (below_setRow (g := w.heap.size + 1 + 1 + 1) Bz (by omega) #[.int .u8 h, fv]))
        have BZ := Bb.setRow #[.int .u8 h, fv]
        refine hK.out _ _ XZ.out (fun hHeld => ?_)
        clear hK K
        try simp only [Act.put, List.getElem_toArray, List.getElem_cons_zero, List.getElem_cons_succ, List.setIfInBounds_toArray, List.set_cons_zero, List.set_cons_succ]
        refine wpAnyH_take (i := 9) (v := ?_) rfl (by kernel_rfl) (by kernel_rfl) (by kernel_rfl) (fun _ _ _ h => h) (Or.inl ⟨by kernel_rfl, ?_⟩) hHeld ?_
        rotate_left
        · intro wh hSw
          go_simp
          try with_reducible rfl
        try simp only [Act.put, List.getElem_toArray, List.getElem_cons_zero, List.getElem_cons_succ, List.setIfInBounds_toArray, List.set_cons_zero, List.set_cons_succ]
        refine wpAnyH_done (by kernel_rfl) ?_ _
        exact ⟨_, _, _, _, _, _, _, _, XZ.out, BZ, rfl⟩
    · skip
      clear hHeld
      go_simp
      have Xa : Hid (Boxes w (W.drew.alloc (.cells zc 60)) cs ms p m) := X.out.drew.to ((Below.refl _ W.drew).alloc (Nat.le_refl _) _)
      have Ba : Blk (W.drew.alloc (.cells zc 60)) (w.heap.size + 1 + 1) 60 zc := by have := Blk.new W.drew 60 zc; rwa [hsd] at this
      have B0 : Below W.drew.heap.size W.drew (W.drew.alloc (.cells zc 60)) := (Below.refl _ W.drew).alloc (Nat.le_refl _) _
      have Sa : (W.drew.alloc (.cells zc 60)).heap.size = w.heap.size + 1 + 1 + 1 := by rw [World.size_alloc, hsd]
      change K _ (W.drew.alloc (.cells zc 60))
      generalize W.drew.alloc (.cells zc 60) = V at *
      refine hK.out _ _ Xa.out (fun hHeld => ?_)
      clear hK K
      try simp only [Act.put, List.getElem_toArray, List.getElem_cons_zero, List.getElem_cons_succ, List.setIfInBounds_toArray, List.set_cons_zero, List.set_cons_succ]
      refine wpAnyH_ready (rs := [0]) (by kernel_rfl) (by simp) (AllReadyH.cons rfl (fun K hK => ?_) AllReadyH.nil)
      clear hHeld
      go_simp
      refine (rules_any _).mono ?_
      rintro e V2 ⟨rfl, rfl⟩
      dsimp only
      rw [Sa]
      have B1 : Below (w.heap.size + 1 + 1 + 1) V (V.alloc (.map table 7)) := (Below.refl _ V).alloc (by omega) _
      have Xb : Hid (Boxes w W.drew cs ms p m) := X.out.drew
      have Xc : Hid (Boxes w (V.alloc (.map table 7)) cs ms p m) := Xa.out.to (by rw [Sa]; exact B1)
      have Bb : Blk (V.alloc (.map table 7)) (w.heap.size + 1 + 1) 60 zc := Ba.below B1 (by omega)
      have Mb : mapOf (V.alloc (.map table 7)) (w.heap.size + 1 + 1 + 1) := by have := mapOf.new V; rwa [Sa] at this
      have Bz : Below W.drew.heap.size W.drew (V.alloc (.map table 7)) := B0.trans (B1.mono (by rw [hsd]; omega))
      generalize V.alloc (.map table 7) = V2 at *
      refine hK.out _ _ Xc.out (fun hHeld => ?_)
      clear hK K
      try simp only [Act.put, List.getElem_toArray, List.getElem_cons_zero, List.getElem_cons_succ, List.setIfInBounds_toArray, List.set_cons_zero, List.set_cons_succ]
      refine wpAnyH_ready (rs := [3]) (by kernel_rfl) (by simp) (AllReadyH.cons rfl (fun K hK => ?_) AllReadyH.nil)
      clear hHeld
      have hl := hlook V2 _ Mb
      go_simp
      refine hK.out _ _ Xc.out (fun hHeld => ?_)
      clear hK K
      try simp only [Act.put, List.getElem_toArray, List.getElem_cons_zero, List.getElem_cons_succ, List.setIfInBounds_toArray, List.set_cons_zero, List.set_cons_succ]
      refine wpAnyH_take (i := 4) (v := ?_) rfl (by kernel_rfl) (by kernel_rfl) (by kernel_rfl) (fun _ _ _ h => h) (Or.inl ⟨by kernel_rfl, ?_⟩) hHeld ?_
      rotate_left
      · intro wh hSw
        go_simp
        try with_reducible rfl
      try simp only [Act.put, List.getElem_toArray, List.getElem_cons_zero, List.getElem_cons_succ, List.setIfInBounds_toArray, List.set_cons_zero, List.set_cons_succ]
      refine wpAnyH_take (i := 5) (v := ?_) rfl (by kernel_rfl) (by kernel_rfl) (by kernel_rfl) (fun _ _ _ h => h) (Or.inl ⟨by kernel_rfl, ?_⟩) hHeld ?_
      rotate_left
      · intro wh hSw
        go_simp
        try with_reducible rfl
      try simp only [Act.put, List.getElem_toArray, List.getElem_cons_zero, List.getElem_cons_succ, List.setIfInBounds_toArray, List.set_cons_zero, List.set_cons_succ]
      refine wpAnyH_take (i := 6) (v := ?_) rfl (by kernel_rfl) (by kernel_rfl) (by kernel_rfl) (fun _ _ _ h => h) (Or.inl ⟨by kernel_rfl, ?_⟩) hHeld ?_
      rotate_left
      · intro wh hSw
        go_simp
        try with_reducible rfl
      try simp only [Act.put, List.getElem_toArray, List.getElem_cons_zero, List.getElem_cons_succ, List.setIfInBounds_toArray, List.set_cons_zero, List.set_cons_succ]
      refine wpAnyH_ready (rs := [8]) (by kernel_rfl) (by simp) (AllReadyH.cons rfl (fun K hK => ?_) AllReadyH.nil)
      clear hHeld
      refine step_store_blk rfl 60 _ _ rfl (w.heap.size + 1 + 1) 60 _ #[.int .u8 h, fv] Bb rfl rfl (by kernel_rfl) rfl (ones2 h hfv) ?_
      have XZ := hidd (Xb.out.to (below_setRow (g := w.heap.size + 1 + 1) Bz (by omega) #[.int .u8 h, fv]))
      have BZ := Bb.setRow #[.int .u8 h, fv]
      refine hK.out _ _ XZ.out (fun hHeld => ?_)
      clear hK K
      try simp only [Act.put, List.getElem_toArray, List.getElem_cons_zero, List.getElem_cons_succ, List.setIfInBounds_toArray, List.set_cons_zero, List.set_cons_succ]
      refine wpAnyH_take (i := 9) (v := ?_) rfl (by kernel_rfl) (by kernel_rfl) (by kernel_rfl) (fun _ _ _ h => h) (Or.inl ⟨by kernel_rfl, ?_⟩) hHeld ?_
      rotate_left
      · intro wh hSw
        go_simp
        try with_reducible rfl
      try simp only [Act.put, List.getElem_toArray, List.getElem_cons_zero, List.getElem_cons_succ, List.setIfInBounds_toArray, List.set_cons_zero, List.set_cons_succ]
      refine wpAnyH_done (by kernel_rfl) ?_ _
      exact ⟨_, _, _, _, _, _, _, _, XZ.out, BZ, rfl⟩
  · rintro _ V ⟨g, t7, t8, t9, t10, t11, t12, t13, X4, b5, rfl⟩
    have X5 := hidd X4
    have c0 := X4.chops
    have c1 := b5.at_ (i := 0) (v := .int .u8 h) rfl
    have c2 := b5.at_ (i := 1) (v := fv) rfl
    have c3 := X4.ccode
    have l0 := X4.lp
    have l1 := X4.lm
    clear X hlook b5 X4 hsz
    rcases hres with ⟨rfl, rfl⟩ | ⟨rfl, f, spec, hf, rfl, H, rfl⟩
    · go_wp2
      go_ret
      exact ⟨rfl, X5.out.bel⟩
    · have H' := hidd H
      clear H
      cases h1 : p.hops == h
      · go_wp2
        go_ret
        exact ⟨by rw [h1]; rfl, X5.out.bel⟩
      · cases h2 : m.code == 0
        · go_wp2
          go_ret
          exact ⟨by rw [h1, h2]; rfl, X5.out.bel⟩
        · rcases hf with rfl | rfl | rfl | rfl | rfl | rfl | rfl
          all_goals go_wp2_with (first
            | (refine wpList_load_want (by kernel_rfl) 30 _ rfl _ rfl _ (by with_reducible first | exact l0) ?_)
            | (refine wpList_load_want (by kernel_rfl) 35 _ rfl _ rfl _ (by with_reducible first | exact l1) ?_))
          all_goals refine (H'.out V cs ms p m X5.out.gl hk'.out X5.out.ms).mono ?_
          all_goals rintro e w5 ⟨rfl, b6⟩
          all_goals have X6 := hidd (X5.out.to b6)
          all_goals go_wp2
          all_goals go_ret
          all_goals exact ⟨by rw [h1, h2]; rfl, X6.out.bel⟩

theorem valid_any (w : World) (cs ms : Array Value) (p : Pk) (m : Ms) (hg : Gl w) (hp : IsPk cs p) (hm : IsMs w w.heap.size ms m) :
    Calls Tryd.prog 11 #[.agg cs, .agg ms] w fun e w' => e = .returned (.bool (valid p m)) ∧ Below w.heap.size w w' := by
  by_cases h133 : m.kind = 133
  · exact valid_gen w cs ms p m hg hp hm 255 (.func (.func 39) #[] #[]) rfl true (fun V g hV => by rw [h133]; exact run_look V Tryd.underlying62 Tryd.underlying5 table 7 g 133 0 _ hV rfl) _ (.inr ⟨rfl, 39, solicits, by simp, rfl, solicits_any, by simp [valid, rule, h133]⟩)
  by_cases h134 : m.kind = 134
  · exact valid_gen w cs ms p m hg hp hm 255 (.func (.func 40) #[] #[]) rfl true (fun V g hV => by rw [h134]; exact run_look V Tryd.underlying62 Tryd.underlying5 table 7 g 134 1 _ hV rfl) _ (.inr ⟨rfl, 40, routes, by simp, rfl, routes_any, by simp [valid, rule, h134]⟩)
  by_cases h135 : m.kind = 135
  · exact valid_gen w cs ms p m hg hp hm 255 (.func (.func 41) #[] #[]) rfl true (fun V g hV => by rw [h135]; exact run_look V Tryd.underlying62 Tryd.underlying5 table 7 g 135 2 _ hV rfl) _ (.inr ⟨rfl, 41, asks, by simp, rfl, asks_any, by simp [valid, rule, h135]⟩)
  by_cases h136 : m.kind = 136
  · exact valid_gen w cs ms p m hg hp hm 255 (.func (.func 42) #[] #[]) rfl true (fun V g hV => by rw [h136]; exact run_look V Tryd.underlying62 Tryd.underlying5 table 7 g 136 3 _ hV rfl) _ (.inr ⟨rfl, 42, answers, by simp, rfl, answers_any, by simp [valid, rule, h136]⟩)
  by_cases h137 : m.kind = 137
  · exact valid_gen w cs ms p m hg hp hm 255 (.func (.func 43) #[] #[]) rfl true (fun V g hV => by rw [h137]; exact run_look V Tryd.underlying62 Tryd.underlying5 table 7 g 137 4 _ hV rfl) _ (.inr ⟨rfl, 43, redirects, by simp, rfl, redirects_any, by simp [valid, rule, h137]⟩)
  by_cases h130 : m.kind = 130
  · exact valid_gen w cs ms p m hg hp hm 1 (.func (.func 44) #[] #[]) rfl true (fun V g hV => by rw [h130]; exact run_look V Tryd.underlying62 Tryd.underlying5 table 7 g 130 5 _ hV rfl) _ (.inr ⟨rfl, 44, questions, by simp, rfl, questions_any, by simp [valid, rule, h130]⟩)
  by_cases h143 : m.kind = 143
  · exact valid_gen w cs ms p m hg hp hm 1 (.func (.func 45) #[] #[]) rfl true (fun V g hV => by rw [h143]; exact run_look V Tryd.underlying62 Tryd.underlying5 table 7 g 143 6 _ hV rfl) _ (.inr ⟨rfl, 45, reports, by simp, rfl, reports_any, by simp [valid, rule, h143]⟩)
  have f : ∀ n : Int, m.kind ≠ n → (m.kind == n) = false := fun n h => by simpa using h
  exact valid_gen w cs ms p m hg hp hm 0 .nilFunc rfl false (fun V g hV => run_look_no V Tryd.underlying62 Tryd.underlying5 table 7 g m.kind _ hV (by simp [Instr.findNow, Instr.sameNow, table, ent, f _ h133, f _ h134, f _ h135, f _ h136, f _ h137, f _ h130, f _ h143]) ((zero_of_info (v := .agg zc) (n := 2) (by kernel_rfl)).1 V)) _
    (.inl ⟨rfl, by simp [valid, rule, h133, h134, h135, h136, h137, h130, h143]⟩)
end Go.Proofs.YtlckfnfmekgnkaaDoor
