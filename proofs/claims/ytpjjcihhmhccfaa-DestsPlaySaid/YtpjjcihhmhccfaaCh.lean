/- A cache in memory: its row, its map, its entries, and boxes that it has nothing to do with. Of no function; no condition. -/
import Derived.Test.YtpjjcihhmhccfaaMap
namespace Go.Proofs.Ytpjjcihhmhccfaa
open Go.ChangeShapes Go.WideShapes Go.ChangeAt Go.RowKit Go.Deep
set_option linter.unusedVariables false
set_option linter.unusedSimpArgs false

/-- An entry: its address, the next one, its mtu, until when. -/
abbrev E := List Int × List Int × Int × Int
def enc (x : E) : List Value := x.1.map (Value.int .u8) ++ (x.2.1.map (Value.int .u8) ++ [.int .u32 x.2.2.1, .int .u64 x.2.2.2])
structure IsE (e : E) : Prop where
  a : IsAddr e.1
  n : IsAddr e.2.1
  m : 0 ≤ e.2.2.1 ∧ e.2.2.1 ≤ 4294967295
  u : 0 ≤ e.2.2.2 ∧ e.2.2.2 ≤ 18446744073709551615
theorem isEnc : Enc enc 34 IsE where
  len := fun a h => by simp [enc, h.a.len, h.n.len]
  one := fun a v hv => by
    simp only [enc, List.mem_append, List.mem_map, List.mem_cons, List.not_mem_nil, or_false] at hv
    rcases hv with ⟨x, _, rfl⟩ | ⟨x, _, rfl⟩ | rfl | rfl <;> rfl
def encV (e : E) : Array Value := (enc e).toArray
theorem info33 : (Try.prog.info? 33).map (·.size) = some 34 := by kernel_rfl
theorem encV_size {e : E} (h : IsE e) : (encV e).size = 34 := by rw [encV, List.size_toArray, isEnc.len e h]
theorem size_enc {e : E} (h : IsE e) : (Try.prog.info? 33).map (·.size) = some (encV e).size := by rw [encV_size h]; exact info33
theorem ones_enc (e : E) : (encV e).all (·.oneCell') = true := all_oneCell_toArray (isEnc.one e)
theorem at_dst {e : E} (h : IsE e) : At (encV e) 0 e.1 := fun j y hy => by
  have hj := (List.getElem?_eq_some_iff.1 hy).1
  rw [Nat.zero_add, encV, List.getElem?_toArray, enc, List.getElem?_append_left (by simpa using hj), List.getElem?_map, hy]; rfl
theorem at_next {e : E} (h : IsE e) : At (encV e) 16 e.2.1 := fun j y hy => by
  have hj := (List.getElem?_eq_some_iff.1 hy).1
  rw [encV, List.getElem?_toArray, enc, List.getElem?_append_right (by simp [h.a.len]), List.getElem?_append_left (by simp [h.a.len]; exact hj)]
  simp [h.a.len, hy]
theorem at_mtu {e : E} (h : IsE e) : (encV e)[32]? = some (.int .u32 e.2.2.1) := by
  rw [encV, List.getElem?_toArray, enc, List.getElem?_append_right (by simp [h.a.len]), List.getElem?_append_right (by simp [h.a.len, h.n.len])]
  simp [h.a.len, h.n.len]
theorem at_until {e : E} (h : IsE e) : (encV e)[33]? = some (.int .u64 e.2.2.2) := by
  rw [encV, List.getElem?_toArray, enc, List.getElem?_append_right (by simp [h.a.len]), List.getElem?_append_right (by simp [h.a.len, h.n.len])]
  simp [h.a.len, h.n.len]
theorem set_mtu {e : E} (h : IsE e) (m : Int) : (encV e).setIfInBounds 32 (.int .u32 m) = encV (e.1, e.2.1, m, e.2.2.2) := by
  obtain ⟨a, n, m0, u⟩ := e
  obtain ⟨_, _, _, _, _, _, _, _, _, _, _, _, _, _, _, _, rfl⟩ := addr_ex h.a
  obtain ⟨_, _, _, _, _, _, _, _, _, _, _, _, _, _, _, _, rfl⟩ := addr_ex h.n
  simp [encV, enc]
theorem set_until {e : E} (h : IsE e) (u : Int) : (encV e).setIfInBounds 33 (.int .u64 u) = encV (e.1, e.2.1, e.2.2.1, u) := by
  obtain ⟨a, n, m0, u0⟩ := e
  obtain ⟨_, _, _, _, _, _, _, _, _, _, _, _, _, _, _, _, rfl⟩ := addr_ex h.a
  obtain ⟨_, _, _, _, _, _, _, _, _, _, _, _, _, _, _, _, rfl⟩ := addr_ex h.n
  simp [encV, enc]
theorem set_next {e : E} (h : IsE e) {n : List Int} (hn : IsAddr n) : over (encV e) 16 (n.map (Value.int .u8)) = encV (e.1, n, e.2.2.1, e.2.2.2) := by
  obtain ⟨a, n0, m0, u0⟩ := e
  obtain ⟨_, _, _, _, _, _, _, _, _, _, _, _, _, _, _, _, rfl⟩ := addr_ex h.a
  obtain ⟨_, _, _, _, _, _, _, _, _, _, _, _, _, _, _, _, rfl⟩ := addr_ex h.n
  obtain ⟨_, _, _, _, _, _, _, _, _, _, _, _, _, _, _, _, rfl⟩ := addr_ex hn
  simp [encV, enc, over]
def zeroA : List Int := List.replicate 16 0
theorem zeroA_is : IsAddr zeroA := ⟨rfl, by decide⟩
theorem ones_b (x : List Int) : (bytesV x).all (·.oneCell') = true := all_oneCell_toArray (ints_one .u8 x)

abbrev Bx := Nat × TypeId × Array Value
def ids (B bm : Nat) (es : List (Nat × E)) (L : List Bx) : List Nat := B :: bm :: (es.map (·.1) ++ L.map (·.1))
structure Lc (w0 W : World) (B bm : Nat) (v : Value) (ps : List Nat) (ms : List Mm) (ck : Nat) (es : List (Nat × E)) (L : List Bx) : Prop where
  blk : Blk W B 58 #[v, .map (some bm)]
  own : W.ownsRow (B + 1) 61 1 v ps.length (flatP ps)
  map : IsM W bm ms ck
  ent : ∀ e ∈ es, Blk W e.1 33 (encV e.2)
  box : ∀ x ∈ L, Blk W x.1 x.2.1 x.2.2
  nd : (ids B bm es L).Nodup
  away : ∀ k, v.ownBlock = some k → k ∉ ids B bm es L
  lo : w0.heap.size ≤ B ∧ w0.heap.size ≤ bm ∧ ∀ e ∈ es, w0.heap.size ≤ e.1
  keys : ∀ m ∈ ms, IsAddr m.1
  born : ∀ m ∈ ms, m.2.2 < ck
  ok : ∀ e ∈ es, IsE e.2
  pt : ∀ p ∈ ps, ∃ e ∈ es, e.1 = p
  bel : Below w0.heap.size w0 W
section
variable {B bm : Nat} {es : List (Nat × E)} {L : List Bx}
theorem ids_B : B ∈ ids B bm es L := by simp [ids]
theorem ids_m : bm ∈ ids B bm es L := by simp [ids]
theorem ids_e {e : Nat × E} (h : e ∈ es) : e.1 ∈ ids B bm es L := by
  simp only [ids, List.mem_cons, List.mem_append]
  exact .inr (.inr (.inl (List.mem_map_of_mem h)))
theorem ids_x {x : Bx} (h : x ∈ L) : x.1 ∈ ids B bm es L := by
  simp only [ids, List.mem_cons, List.mem_append]
  exact .inr (.inr (.inr (List.mem_map_of_mem h)))
theorem ids_cases {k : Nat} (h : k ∈ ids B bm es L) : k = B ∨ k = bm ∨ (∃ e ∈ es, e.1 = k) ∨ ∃ x ∈ L, x.1 = k := by
  simp only [ids, List.mem_cons, List.mem_append, List.mem_map] at h
  exact h
variable (h : (ids B bm es L).Nodup)
include h
theorem nd_Bm : B ≠ bm := fun e => by simp [ids, e] at h
theorem nd_Be {e : Nat × E} (he : e ∈ es) : B ≠ e.1 := fun e' => by
  have := (List.nodup_cons.1 h).1
  exact this (by rw [e']; exact List.mem_cons_of_mem _ (List.mem_append_left _ (List.mem_map_of_mem he)))
theorem nd_Bx {x : Bx} (hx : x ∈ L) : B ≠ x.1 := fun e' => by
  have := (List.nodup_cons.1 h).1
  exact this (by rw [e']; exact List.mem_cons_of_mem _ (List.mem_append_right _ (List.mem_map_of_mem hx)))
theorem nd_me {e : Nat × E} (he : e ∈ es) : bm ≠ e.1 := fun e' => by
  have := (List.nodup_cons.1 (List.nodup_cons.1 h).2).1
  exact this (by rw [e']; exact List.mem_append_left _ (List.mem_map_of_mem he))
theorem nd_mx {x : Bx} (hx : x ∈ L) : bm ≠ x.1 := fun e' => by
  have := (List.nodup_cons.1 (List.nodup_cons.1 h).2).1
  exact this (by rw [e']; exact List.mem_append_right _ (List.mem_map_of_mem hx))
theorem nd_ex {e : Nat × E} (he : e ∈ es) {x : Bx} (hx : x ∈ L) : e.1 ≠ x.1 := by
  have := (List.nodup_append.1 (List.nodup_cons.1 (List.nodup_cons.1 h).2).2).2.2
  exact this _ (List.mem_map_of_mem he) _ (List.mem_map_of_mem hx)
theorem nd_es : (es.map (·.1)).Nodup := (List.nodup_append.1 (List.nodup_cons.1 (List.nodup_cons.1 h).2).2).1
end
section
variable {w0 W V : World} {B bm ck : Nat} {v : Value} {ps : List Nat} {ms : List Mm} {es : List (Nat × E)} {L : List Bx}
theorem Lc.lt (h : Lc w0 W B bm v ps ms ck es L) {k : Nat} (hk : k ∈ ids B bm es L) : k < W.heap.size := by
  rcases ids_cases hk with rfl | rfl | ⟨e, he, rfl⟩ | ⟨x, hx, rfl⟩
  · exact h.blk.lt
  · exact h.map.lt
  · exact (h.ent e he).lt
  · exact (h.box x hx).lt
theorem Lc.fr (h : Lc w0 W B bm v ps ms ck es L) {S : Nat → Prop} (hf : Fr S W V) (h1 : ∀ k ∈ ids B bm es L, ¬ S k) (h2 : ∀ k, v.ownBlock = some k → ¬ S k) (hS : ∀ k, S k → w0.heap.size ≤ k) : Lc w0 V B bm v ps ms ck es L :=
  ⟨h.blk.fr hf (h1 _ ids_B), ownRow_fr h.own hf h2, h.map.fr hf (h1 _ ids_m), fun e he => (h.ent e he).fr hf (h1 _ (ids_e he)), fun x hx => (h.box x hx).fr hf (h1 _ (ids_x hx)), h.nd, h.away, h.lo, h.keys, h.born, h.ok, h.pt, h.bel.trans (hf.below h.bel.size hS)⟩
theorem Lc.call (h : Lc w0 W B bm v ps ms ck es L) (hb : Below W.heap.size W V) : Lc w0 V B bm v ps ms ck es L :=
  h.fr (Fr.of_below hb (fun _ => False)) (fun _ _ e => e) (fun _ _ e => e) (fun _ e => e.elim)
theorem Lc.draw (h : Lc w0 W B bm v ps ms ck es L) : Lc w0 W.drew B bm v ps ms ck es L := h.call (Below.refl _ W).drew
theorem Lc.new (h : Lc w0 W B bm v ps ms ck es L) (t : TypeId) (cs : Array Value) {g : Nat} (hg : W.heap.size = g) : Lc w0 (W.alloc (.cells cs t)) B bm v ps ms ck es (L ++ [(g, t, cs)]) := by
  subst hg
  have h2 := h.call ((Below.refl _ W).alloc (Nat.le_refl _) (.cells cs t))
  have hids : ids B bm es (L ++ [(W.heap.size, t, cs)]) = ids B bm es L ++ [W.heap.size] := by simp [ids]
  refine ⟨h2.blk, h2.own, h2.map, h2.ent, fun x hx => ?_, ?_, fun k hk => ?_, h.lo, h.keys, h.born, h.ok, h.pt, h2.bel⟩
  · rcases List.mem_append.1 hx with hx | hx
    · exact h2.box x hx
    · rw [List.mem_singleton.1 hx]; exact Blk.new W t cs
  · rw [hids, List.nodup_append]
    exact ⟨h.nd, by simp, fun a ha b hb e => by
      have := h.lt ha
      rw [List.mem_singleton] at hb
      omega⟩
  · rw [hids, List.mem_append, List.mem_singleton]
    rintro (e | e)
    · exact h.away k hk e
    · have := (h.own.lt k hk).2; omega
theorem Lc.newE (h : Lc w0 W B bm v ps ms ck es L) {e : E} (he : IsE e) {g : Nat} (hg : W.heap.size = g) : Lc w0 (W.alloc (.cells (encV e) 33)) B bm v ps ms ck (es ++ [(g, e)]) L := by
  subst hg
  have h2 := h.call ((Below.refl _ W).alloc (Nat.le_refl _) (.cells (encV e) 33))
  have hmem : ∀ k, k ∈ ids B bm (es ++ [(W.heap.size, e)]) L ↔ k ∈ ids B bm es L ∨ k = W.heap.size := fun k => by
    simp only [ids, List.map_append, List.mem_cons, List.mem_append, List.map_cons, List.map_nil, List.not_mem_nil, or_false]
    constructor
    · rintro (h | h | (h | h) | h)
      · exact .inl (.inl h)
      · exact .inl (.inr (.inl h))
      · exact .inl (.inr (.inr (.inl h)))
      · exact .inr h
      · exact .inl (.inr (.inr (.inr h)))
    · rintro ((h | h | h | h) | h)
      · exact .inl h
      · exact .inr (.inl h)
      · exact .inr (.inr (.inl (.inl h)))
      · exact .inr (.inr (.inr h))
      · exact .inr (.inr (.inl (.inr h)))
  have hnew : W.heap.size ∉ ids B bm es L := fun hk => by have := h.lt hk; omega
  refine ⟨h2.blk, h2.own, h2.map, fun x hx => ?_, h2.box, ?_, fun k hk => ?_, ⟨h.lo.1, h.lo.2.1, fun x hx => ?_⟩, h.keys, h.born, fun x hx => ?_, fun p hp => ?_, h2.bel⟩
  · rcases List.mem_append.1 hx with hx | hx
    · exact h2.ent x hx
    · rw [List.mem_singleton.1 hx]; exact Blk.new W 33 _
  · have hp : List.Perm (ids B bm (es ++ [(W.heap.size, e)]) L) (W.heap.size :: ids B bm es L) := by
      rw [ids, ids, List.map_append, List.append_assoc]
      refine ((List.Perm.cons B (List.Perm.cons bm List.perm_middle)).trans ?_)
      exact ((List.Perm.cons B (List.Perm.swap _ _ _)).trans (List.Perm.swap _ _ _))
    rw [hp.nodup_iff]
    exact List.nodup_cons.2 ⟨hnew, h.nd⟩
  · rw [hmem]
    rintro (e' | e')
    · exact h.away k hk e'
    · have := (h.own.lt k hk).2; omega
  · rcases List.mem_append.1 hx with hx | hx
    · exact h.lo.2.2 x hx
    · rw [List.mem_singleton.1 hx]; exact h.bel.size
  · rcases List.mem_append.1 hx with hx | hx
    · exact h.ok x hx
    · rw [List.mem_singleton.1 hx]; exact he
  · obtain ⟨x, hx, hx1⟩ := h.pt p hp
    exact ⟨x, List.mem_append_left _ hx, hx1⟩
theorem Lc.pop {L2 : List Bx} (h : Lc w0 W B bm v ps ms ck es (L ++ L2)) : Lc w0 W B bm v ps ms ck es L := by
  have hs : (ids B bm es L).Sublist (ids B bm es (L ++ L2)) := by
    rw [ids, ids, List.map_append]
    exact List.Sublist.cons_cons _ (List.Sublist.cons_cons _ (List.Sublist.append (List.Sublist.refl _) (List.sublist_append_left _ _)))
  exact ⟨h.blk, h.own, h.map, h.ent, fun x hx => h.box x (List.mem_append_left _ hx), h.nd.sublist hs, fun k hk hm => h.away k hk (hs.subset hm), h.lo, h.keys, h.born, h.ok, h.pt, h.bel⟩
theorem Lc.get (h : Lc w0 W B bm v ps ms ck es L) (i : Nat) {g : Nat} {t : TypeId} {c : Array Value} (hi : L[i]? = some (g, t, c)) : Blk W g t c := h.box _ (List.mem_of_getElem? hi)
theorem Lc.last {g : Nat} {t : TypeId} {c : Array Value} (h : Lc w0 W B bm v ps ms ck es (L ++ [(g, t, c)])) : Blk W g t c := h.box (g, t, c) (List.mem_append_right _ (List.mem_singleton.2 rfl))
/-- The row turned. -/
theorem Lc.row (h : Lc w0 W B bm v ps ms ck es L) {v' : Value} {ps' : List Nat} (hf : Fr (fun k => v.ownBlock = some k) W V) (ho : V.ownsRow (B + 1) 61 1 v' ps'.length (flatP ps')) (hm : ∀ k, v'.ownBlock = some k → v.ownBlock = some k ∨ W.heap.size ≤ k) (hp : ∀ p ∈ ps', ∃ e ∈ es, e.1 = p) :
    Lc w0 (V.setCell ⟨B, 0, none⟩ v') B bm v' ps' ms ck es L := by
  have hS : ∀ k ∈ ids B bm es L, ¬ v.ownBlock = some k := fun k hk e => h.away k e hk
  have hf2 : Fr (fun k => v.ownBlock = some k ∨ k = B) W (V.setCell ⟨B, 0, none⟩ v') := (hf.mono (fun k _ hk => .inl hk)).setCell (p := ⟨B, 0, none⟩) (.inl (.inr rfl)) v'
  have hB : Blk (V.setCell ⟨B, 0, none⟩ v') B 58 #[v', .map (some bm)] := by
    have := (h.blk.fr hf (hS _ ids_B)).set 0 v'
    simpa using this
  refine ⟨hB, ownRow_fr ho ((Fr.refl (· = B) V).setB v') (fun k hk e => by have := (ho.lt k hk).1; omega), h.map.fr hf2 (by rintro (e | e); exact hS _ ids_m e; exact nd_Bm h.nd e.symm),
    fun e he => (h.ent e he).fr hf2 (by rintro (e' | e'); exact hS _ (ids_e he) e'; exact nd_Be h.nd he e'.symm), fun x hx => (h.box x hx).fr hf2 (by rintro (e' | e'); exact hS _ (ids_x hx) e'; exact nd_Bx h.nd hx e'.symm),
    h.nd, fun k hk hi => ?_, h.lo, h.keys, h.born, h.ok, hp, h.bel.trans (hf2.below h.bel.size (fun k e => ?_))⟩
  · rcases hm k hk with e | e
    · exact h.away k e hi
    · have := h.lt hi; omega
  · rcases e with e | e
    · have := (h.own.lt k e).1; have := h.lo.1; omega
    · rw [e]; exact h.lo.1
/-- The map turned. -/
theorem Lc.mapped (h : Lc w0 W B bm v ps ms ck es L) {ms' : List Mm} {ck' : Nat} (hk : ∀ m ∈ ms', IsAddr m.1) (hb : ∀ m ∈ ms', m.2.2 < ck') : Lc w0 (setMap W bm ms' ck') B bm v ps ms' ck' es L := by
  have hf := setMap_fr W bm ms' ck'
  exact ⟨h.blk.fr hf (nd_Bm h.nd), ownRow_fr h.own hf (fun k hk e => h.away k hk (by rw [e]; exact ids_m)), setMap_is h.map ms' ck', fun e he => (h.ent e he).fr hf (fun e' => nd_me h.nd he e'.symm), fun x hx => (h.box x hx).fr hf (fun e' => nd_mx h.nd hx e'.symm), h.nd, h.away, h.lo, hk, hb, h.ok, h.pt,
    h.bel.trans (hf.below h.bel.size (fun k e => by rw [e]; exact h.lo.2.1))⟩
/-- One entry turned. -/
def upd (b : Nat) (x : E) (es : List (Nat × E)) : List (Nat × E) := es.map fun e => if e.1 = b then (b, x) else e
theorem upd_ids (b : Nat) (x : E) (es : List (Nat × E)) : (upd b x es).map (·.1) = es.map (·.1) := by
  rw [upd, List.map_map]
  apply List.map_congr_left
  intro e _
  show (if e.1 = b then (b, x) else e).1 = e.1
  split
  · rename_i h; exact h.symm
  · rfl
theorem upd_mem {b : Nat} {x : E} {es : List (Nat × E)} {e : Nat × E} (h : e ∈ upd b x es) : e = (b, x) ∨ (e ∈ es ∧ e.1 ≠ b) := by
  obtain ⟨y, hy, rfl⟩ := List.mem_map.1 h
  split
  · exact .inl rfl
  · rename_i hn; exact .inr ⟨hy, hn⟩
theorem Lc.turnE (h : Lc w0 W B bm v ps ms ck es L) {b : Nat} {e x : E} (he : (b, e) ∈ es) (hx : IsE x) (hf : Fr (· = b) W V) (hb : Blk V b 33 (encV x)) : Lc w0 V B bm v ps ms ck (upd b x es) L := by
  have hid : ids B bm (upd b x es) L = ids B bm es L := by rw [ids, ids, upd_ids]
  have hbm : b ∈ ids B bm es L := ids_e he
  refine ⟨h.blk.fr hf (fun e' => nd_Be h.nd he e'), ownRow_fr h.own hf (fun k hk e' => h.away k hk (by rw [e']; exact hbm)), h.map.fr hf (fun e' => nd_me h.nd he e'), fun y hy => ?_, fun y hy => (h.box y hy).fr hf (fun e' => nd_ex h.nd he hy e'.symm), by rw [hid]; exact h.nd, by rw [hid]; exact h.away,
    ⟨h.lo.1, h.lo.2.1, fun y hy => ?_⟩, h.keys, h.born, fun y hy => ?_, fun p hp => ?_, h.bel.trans (hf.below h.bel.size (fun k e' => by rw [e']; exact h.lo.2.2 _ he))⟩
  · rcases upd_mem hy with rfl | ⟨hy, hn⟩
    · exact hb
    · exact (h.ent y hy).fr hf hn
  · rcases upd_mem hy with rfl | ⟨hy, hn⟩
    · exact h.lo.2.2 (b, e) he
    · exact h.lo.2.2 y hy
  · rcases upd_mem hy with rfl | ⟨hy, hn⟩
    · exact hx
    · exact h.ok y hy
  · obtain ⟨y, hy, rfl⟩ := h.pt p hp
    refine ⟨if y.1 = b then (b, x) else y, List.mem_map_of_mem hy, ?_⟩
    split
    · rename_i hh; exact hh.symm
    · rfl
/-- An entry, by its block. -/
theorem Lc.uniq (h : Lc w0 W B bm v ps ms ck es L) {b : Nat} {e f : E} (h1 : (b, e) ∈ es) (h2 : (b, f) ∈ es) : e = f := by
  have hn := nd_es h.nd
  obtain ⟨i, hi, e1⟩ := List.mem_iff_getElem.1 h1
  obtain ⟨j, hj, e2⟩ := List.mem_iff_getElem.1 h2
  have : i = j := by
    have hp := List.pairwise_iff_getElem.1 hn
    rcases Nat.lt_trichotomy i j with hlt | heq | hlt
    · exact (hp i j (by simpa using hi) (by simpa using hj) hlt (by simp [e1, e2])).elim
    · exact heq
    · exact (hp j i (by simpa using hj) (by simpa using hi) hlt (by simp [e1, e2])).elim
  subst this
  rw [e1] at e2
  exact (Prod.mk.inj e2).2
end
end Go.Proofs.Ytpjjcihhmhccfaa
