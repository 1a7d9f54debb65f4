/- A list of routers in memory; its routers in order, and where one is: each function walked once. No condition. -/
import Derived.Test.YtnchjbgfmkmbaaaSort
namespace Go.Proofs.Ytnchjbgfmkmbaaa
open Go.ChangeShapes Go.WideShapes Go.ChangeAt Go.RowKit Go.Deep
set_option linter.unusedVariables false
set_option linter.unusedSimpArgs false

theorem insertion_zero (w : World) (A : Option Addr) (c : Nat) (f : Value) : Calls Try.prog 40 #[.slice A 0 c, .int .i64 0, .int .i64 0, f] w fun e w' => (∃ r, e = .returned r) ∧ w = w' := by
  go_enter Try.func40, Try.ntmps40
  go_wp2
  refine wp_loop_rounds 1 ?_
  rw [rounds_succ]
  go_wp2
  go_end0
  exact ⟨⟨_, rfl⟩, rfl⟩
/-- The row, sorted, or no row at all. -/
def Sorted (w W : World) (base : Nat) (v : Value) (n : Nat) (es : List E) : Prop := W.ownsRow base 48 18 v n (flat (ord es)) ∧ Fr (fun k => v.ownBlock = some k) w W
theorem stable_any (w : World) (base : Nat) (v : Value) (n F : Nat) (es : List E) (h : w.ownsRow base 48 18 v n (flat es)) (hl : es.length = n) (ho : ∀ e ∈ es, IsE e) (hn : n ≤ 4) (hF : w.cell? ⟨F, 0, none⟩ = some (.func (.func 31) #[] #[])) (hb : F < base) :
    Calls Try.prog 35 #[v, .func (.func 36) #[] #[.pointer (some ⟨F, 0, none⟩)]] w fun e w' => (∃ r, e = .returned r) ∧ Sorted w w' base v n es := by
  obtain ⟨A, c, rfl⟩ := slice_of_own h
  have hnz : (n : Int) ≤ 4 := by omega
  have hcm := (Rd.of_own h).cmax
  have hcn := (Rd.of_own h).cap
  unfold maxLen at hcm
  have hI : Hid (Calls Try.prog 40 #[.slice A n c, .int .i64 0, .int .i64 n, .func (.func 36) #[] #[.pointer (some ⟨F, 0, none⟩)]] w fun e w' => (∃ r, e = .returned r) ∧ Sorted w w' base (.slice A n c) n es) := by
    rcases Nat.eq_zero_or_pos n with h0 | h0
    · subst h0
      have he : es = [] := List.eq_nil_of_length_eq_zero hl
      subst he
      exact (insertion_zero w A c _).mono fun e w' ⟨h1, h2⟩ => ⟨h1, by subst h2; exact ⟨h, Fr.refl _ _⟩⟩
    · obtain ⟨g, c', hA, hbg, _⟩ := own_pos h h0
      injection hA with hA hA2 hA3
      subst hA hA3
      exact (insertion_any w base g n c F es ⟨h, hl, ho, hF, by omega⟩).mono fun e w' ⟨h1, h2, h3⟩ => ⟨h1, h2.own, h3.mono fun k _ hk => by rw [hk]; rfl⟩
  have hS : Hid (Calls Try.prog 38 #[.slice A n c, .int .i64 n, .func (.func 36) #[] #[.pointer (some ⟨F, 0, none⟩)]] w fun e w' => (∃ r, e = .returned r) ∧ Sorted w w' base (.slice A n c) n es) := by
    clear h hF ho hl
    go_enter Try.func38, Try.ntmps38
    go_wp2
    refine wp_loop_rounds 1 ?_
    rw [rounds_succ]
    go_wp2_with (go_at_call 40; refine Calls.mono hI.out ?_; rintro e w2 ⟨⟨r, rfl⟩, h2⟩)
    have h2' := hidd h2
    clear h2
    refine wp_loop_rounds 1 ?_
    rw [rounds_succ]
    go_wp2
    go_end0
    exact ⟨⟨_, rfl⟩, h2'.out⟩
  clear h hF ho hl hI
  go_enter Try.func35, Try.ntmps35
  go_wp2_with (go_at_call 38; refine Calls.mono hS.out ?_; rintro e w2 ⟨⟨r, rfl⟩, h2⟩; have h2' := hidd h2; clear h2)
  go_end0
  exact ⟨⟨_, rfl⟩, h2'.out⟩
theorem falling_any (w : World) (A : Option Addr) (n c : Nat) (es : List E) (h : IsK w w.heap.size A n c es) (hn : n ≤ 4) :
    Calls Try.prog 30 #[.slice A n c, .func (.func 31) #[] #[]] w fun e w' => ∃ v', e = .returned v' ∧ w'.ownsRow w.heap.size 48 18 v' n (flat (ord es)) ∧ Below w.heap.size w w' := by
  obtain ⟨F, hF⟩ : ∃ F, w.heap.size = F := ⟨_, rfl⟩
  have b1 : Below F w (w.alloc (.cells #[.func (.func 31) #[] #[]] 63)) := by rw [← hF]; exact (Below.refl _ w).alloc (Nat.le_refl _) _
  have c1 : (w.alloc (.cells #[.func (.func 31) #[] #[]] 63)).cell? ⟨F, 0, none⟩ = some (.func (.func 31) #[] #[]) := by rw [← hF]; exact (Blk.new _ _ _).at_ rfl
  have s1 : (w.alloc (.cells #[.func (.func 31) #[] #[]] 63)).heap.size = F + 1 := by simp [hF]
  have hC := hidd (clone_any (w.alloc (.cells #[.func (.func 31) #[] #[]] 63)) A n c (flat es) (by
    have := (h.rd.below (by rw [hF]; exact b1)).more (B' := (w.alloc (.cells #[.func (.func 31) #[] #[]] 63)).heap.size) (by rw [s1]; omega)
    exact this) (isEnc.flat_one es) (by omega))
  have hl := h.len
  have ho := hidd h.ok
  have b1' := hidd b1
  have c1' := hidd c1
  have s1' := hidd s1
  rw [hF]
  clear h b1 c1 s1
  go_enter Try.func30, Try.ntmps30
  go_wp2_with fail
  refine Calls.mono hC.out ?_
  rintro e w2 ⟨v2, rfl, o2, b2⟩
  have c2 := (b2.cell (p := ⟨F, 0, none⟩) (by rw [s1'.out]; exact Nat.lt_succ_self _)).trans c1'.out
  have b3 := hidd (b1'.out.trans (b2.mono (by rw [s1'.out]; omega)))
  have hS := hidd (stable_any w2 _ v2 n F es o2 hl ho.out hn c2 (by rw [s1'.out]; exact Nat.lt_succ_self _))
  have o2' := hidd o2
  clear o2 b2 c2 hC
  go_wp2_with fail
  refine Calls.mono hS.out ?_
  rintro e w3 ⟨⟨r, rfl⟩, h3⟩
  have h3' := hidd h3
  clear h3 hS
  go_wp2
  go_ret
  refine ⟨_, rfl, ?_, b3.out.trans (h3'.out.2.below (by have := b3.out.size; omega) (fun k hk => by have := (o2'.out.lt k hk).1; rw [s1'.out] at this; omega))⟩
  obtain ⟨h4, h5⟩ := h3'.out.1
  refine ⟨h4, ?_⟩
  rcases h5 with h5 | ⟨g, cap, cur, hv, h6, h7⟩
  · exact .inl h5
  · exact .inr ⟨g, cap, cur, hv, by rw [s1'.out] at h6; omega, h7⟩

/-- A list's cells: its row, who was picked last, whether one was. -/
def lcells (v : Value) (last : List Int) (had : Bool) : Array Value := (v :: (last.map (Value.int .u8) ++ [Value.bool had, Value.bool true])).toArray
structure Rl (W : World) (B : Nat) (v : Value) (es : List E) (last : List Int) (had : Bool) : Prop where
  blk : Blk W B 32 (lcells v last had)
  own : W.ownsRow (B + 1) 48 18 v es.length (flat es)
  ok : ∀ e ∈ es, IsE e
  four : es.length ≤ 4
  lastok : IsAddr last
section
variable {w W : World} {B : Nat} {v : Value} {es : List E} {last : List Int} {had : Bool} {S : Nat → Prop}
theorem Rl.lt (h : Rl w B v es last had) : B < w.heap.size := h.blk.lt
theorem Rl.row (h : Rl w B v es last had) : w.cell? ⟨B, 0, none⟩ = some v := h.blk.at_ rfl
theorem Rl.hadc (h : Rl w B v es last had) : w.cell? ⟨B, 17, none⟩ = some (.bool had) := h.blk.at_ (by
  rw [lcells, List.getElem?_toArray, List.getElem?_cons_succ, List.getElem?_append_right (by simp [h.lastok.len])]
  simp [h.lastok.len])
theorem Rl.made (h : Rl w B v es last had) : w.cell? ⟨B, 18, none⟩ = some (.bool true) := h.blk.at_ (by
  rw [lcells, List.getElem?_toArray, List.getElem?_cons_succ, List.getElem?_append_right (by simp [h.lastok.len])]
  simp [h.lastok.len])
theorem lcells_at (v : Value) (last : List Int) (had : Bool) : At (lcells v last had) 1 last := fun j y hy => by
  have hj := (List.getElem?_eq_some_iff.1 hy).1
  rw [lcells, List.getElem?_toArray, Nat.add_comm, List.getElem?_cons_succ, List.getElem?_append_left (by simpa using hj), List.getElem?_map, hy]; rfl
theorem Rl.lastl (h : Rl w B v es last had) : (loadVar 23 ⟨B, 1, none⟩).run Try.prog w = .ok (.agg (bytesV last)) w := h.blk.part (lcells_at v last had) Try.underlying23 rfl (by rw [h.lastok.len]; exact info23)
theorem Rl.fr (h : Rl w B v es last had) (hf : Fr S w W) (h1 : ¬ S B) (h2 : ∀ k, v.ownBlock = some k → ¬ S k) : Rl W B v es last had := ⟨h.blk.fr hf h1, ownRow_fr h.own hf h2, h.ok, h.four, h.lastok⟩
theorem Rl.to (h : Rl w B v es last had) (hb : Below w.heap.size w W) : Rl W B v es last had := h.fr (Fr.of_below hb (fun _ => False)) id (fun _ _ => id)
theorem Rl.draw (h : Rl w B v es last had) : Rl w.drew B v es last had := h.to (Below.refl _ w).drew
theorem Rl.isK (h : Rl w B v es last had) : ∃ A c, v = .slice A es.length c ∧ IsK w w.heap.size A es.length c es := by
  obtain ⟨A, c, rfl⟩ := slice_of_own h.own
  exact ⟨A, c, rfl, Ls.of_own h.own rfl h.ok⟩
/-- The row turned. -/
theorem Rl.turn (h : Rl w B v es last had) {V : World} {S : Nat → Prop} (hf : Fr S w V) (hS : ¬ S B) {v' : Value} {es' : List E} (ho : V.ownsRow (B + 1) 48 18 v' es'.length (flat es')) (hok : ∀ e ∈ es', IsE e) (h4 : es'.length ≤ 4) : Rl (V.setCell ⟨B, 0, none⟩ v') B v' es' last had := by
  refine ⟨?_, ownRow_fr ho ((Fr.refl (· = B) V).setB v') (fun k hk e => by have := (ho.lt k hk).1; omega), hok, h4, h.lastok⟩
  have := (h.blk.fr hf hS).set 0 v'
  simpa [lcells] using this
end

/-- A list that is not there, or that no call made. -/
def Not (w : World) (v : Value) : Prop := v = .pointer none ∨ ∃ B, v = .pointer (some ⟨B, 0, none⟩) ∧ w.cell? ⟨B, 18, none⟩ = some (.bool false)
theorem there_not (w : World) (v : Value) (h : Not w v) : Calls Try.prog 17 #[v] w fun e w' => e = .returned (.bool false) ∧ w = w' := by
  rcases h with rfl | ⟨B, rfl, hc⟩
  · go_enter Try.func17, Try.ntmps17
    go_wp2
    go_ret
    exact ⟨rfl, rfl⟩
  · go_enter Try.func17, Try.ntmps17
    go_wp2
    go_ret
    exact ⟨rfl, rfl⟩
theorem there_yes (w : World) (B : Nat) (h : w.cell? ⟨B, 18, none⟩ = some (.bool true)) : Calls Try.prog 17 #[.pointer (some ⟨B, 0, none⟩)] w fun e w' => e = .returned (.bool true) ∧ w = w' := by
  go_enter Try.func17, Try.ntmps17
  go_wp2
  go_ret
  exact ⟨rfl, rfl⟩
theorem ordered_any (w : World) (B : Nat) (v : Value) (es : List E) (last : List Int) (had : Bool) (h : Rl w B v es last had) :
    Calls Try.prog 18 #[.pointer (some ⟨B, 0, none⟩)] w fun e w' => ∃ v', e = .returned v' ∧ w'.ownsRow w.heap.size 48 18 v' es.length (flat (ord es)) ∧ Below w.heap.size w w' := by
  obtain ⟨A, c, rfl, hK⟩ := h.isK
  have hF := hidd (falling_any w A _ c es hK h.four)
  have c1 := h.row
  clear h hK
  go_enter Try.func18, Try.ntmps18
  go_wp2_with fail
  refine Calls.mono hF.out ?_
  rintro e w2 ⟨v2, rfl, o2, b2⟩
  have H := hidd (And.intro o2 b2)
  clear o2 b2
  go_wp2
  go_ret
  exact ⟨_, rfl, H.out⟩
/-- Where an address is. -/
def whereA (x : List Int) (es : List E) : Int := idx (fun e => e.1 == x) es
theorem at_any (w : World) (B : Nat) (v : Value) (es : List E) (last : List Int) (had : Bool) (h : Rl w B v es last had) (x : List Int) (hx : IsAddr x) :
    Calls Try.prog 22 #[.pointer (some ⟨B, 0, none⟩), .agg (bytesV x)] w fun e w' => e = .returned (.int .i64 (whereA x es)) ∧ Below w.heap.size w w' := by
  have B1 := (Below.refl w.heap.size w).alloc (Nat.le_refl _) (.cells (bytesV x) 23)
  obtain ⟨A, c, rfl, hK⟩ := h.isK
  have hs := h.to B1
  have c1 := hs.row
  have hp := same_pred (w.alloc (.cells (bytesV x) 23)) (fun k => k ≠ w.heap.size) w.heap.size x hx (Blk.new w 23 (bytesV x)) (fun h => h rfl)
  have hI := hidd (index_any (w.alloc (.cells (bytesV x) 23)) A es.length c es ((hK.below B1).more B1.size) _ _ 33 _ (.inl rfl) hp)
  have B1' := hidd B1
  clear h hK hp B1 hs
  go_enter Try.func22, Try.ntmps22
  go_wp2_with (go_at_call 20; refine Calls.mono hI.out ?_; rintro e w2 ⟨rfl, b2⟩)
  go_ret
  exact ⟨rfl, B1'.out.trans (b2.mono B1'.out.size)⟩
end Go.Proofs.Ytnchjbgfmkmbaaa
