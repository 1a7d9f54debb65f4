/- The document's list: things kept, as they lie in memory; what telling it one thing leaves, in plain words; that this is the shelf's. No condition. -/
import Derived.Test.YtajlgglknianlaaSeen
namespace Go.Proofs.Ytajlgglknianlaa.Rf
open Go.Proofs.Ytajlgglknianlaa Go.ChangeShapes Go.WideShapes Go.ChangeAt Go.RowKit Go.Deep
set_option linter.unusedVariables false
set_option linter.unusedSimpArgs false

abbrev E := List Int × ByteArray × Int
def enc (x : E) : List Value := x.1.map (Value.int .u8) ++ [.string x.2.1, .int .u64 x.2.2]
structure IsE (e : E) : Prop where
  addr : IsAddr e.1
  lo : 0 ≤ e.2.2
  hi : e.2.2 ≤ 18446744073709551615
theorem isEnc : Enc enc 18 IsE where
  len := fun a h => by simp [enc, h.addr.len]
  one := fun a v hv => by
    simp only [enc, List.mem_append, List.mem_map, List.mem_cons, List.not_mem_nil, or_false] at hv
    rcases hv with ⟨x, _, rfl⟩ | rfl | rfl <;> rfl
abbrev flat (es : List E) : List Value := flatOf enc es
def encV (e : E) : Array Value := (enc e).toArray
theorem infoE : (Try.prog.info? 79).map (·.size) = some 18 := by kernel_rfl
theorem size_enc {e : E} (h : IsE e) : (Try.prog.info? 79).map (·.size) = some (encV e).size := by rw [encV, List.size_toArray, isEnc.len e h]; exact infoE
theorem encV_size {e : E} (h : IsE e) : (encV e).size = 18 := by rw [encV, List.size_toArray, isEnc.len e h]
theorem ones_enc (e : E) : (encV e).all (·.oneCell') = true := all_oneCell_toArray (isEnc.one e)
theorem at_enc {e : E} (h : IsE e) : At (encV e) 0 e.1 := fun j y hy => by
  have hj := (List.getElem?_eq_some_iff.1 hy).1
  rw [Nat.zero_add, encV, List.getElem?_toArray, enc, List.getElem?_append_left (by simpa using hj), List.getElem?_map, hy]; rfl
theorem name_enc {e : E} (h : IsE e) : (enc e)[16]? = some (.string e.2.1) := by
  rw [enc, List.getElem?_append_right (by simp [h.addr.len])]
  simp [h.addr.len]
theorem until_enc {e : E} (h : IsE e) : (enc e)[17]? = some (.int .u64 e.2.2) := by
  rw [enc, List.getElem?_append_right (by simp [h.addr.len])]
  simp [h.addr.len]
theorem name_encV {e : E} (h : IsE e) : (encV e)[16]? = some (.string e.2.1) := by rw [encV, List.getElem?_toArray]; exact name_enc h
theorem until_encV {e : E} (h : IsE e) : (encV e)[17]? = some (.int .u64 e.2.2) := by rw [encV, List.getElem?_toArray]; exact until_enc h
theorem loadE {W : World} {b o : Nat} {e : E} (he : IsE e) (h : W.rangeAt b o (enc e)) : (loadVar 79 ⟨b, o, none⟩).run Try.prog W = .ok (.agg (encV e)) W :=
  run_loadVar_mid (P := Try.prog) W b o 79 (enc e) _ h Try.underlying79 rfl (by rw [isEnc.len e he]; exact infoE)
theorem loadB {W : World} {b : Nat} {e : E} (he : IsE e) (h : Blk W b 79 (encV e)) : (loadVar 79 ⟨b, 0, none⟩).run Try.prog W = .ok (.agg (encV e)) W := h.load Try.underlying79 rfl (size_enc he)
/-- The address of a thing, out of its cells. -/
theorem loadA {W : World} {b o : Nat} {e : E} (he : IsE e) (h : W.rangeAt b o (enc e)) : (loadVar 31 ⟨b, o, none⟩).run Try.prog W = .ok (.agg (bytesV e.1)) W :=
  run_loadVar_mid (P := Try.prog) W b o 31 (e.1.map (Value.int .u8)) _ (fun j v hv => h j v (by rw [enc, List.getElem?_append_left (List.getElem?_eq_some_iff.1 hv).1]; exact hv)) Try.underlying31 rfl (by rw [List.length_map, he.addr.len]; exact Sv.info31)
theorem slTy : SlTy Try.prog 51 79 18 40 := .mk_ (z := .agg ((bytesV (List.replicate 16 0)) ++ #[.string .empty, .int .u64 0])) Try.underlying51 (by kernel_rfl) rfl (by omega)

/-- Are these the same? -/
def same (a b : E) : Bool := a.1 == b.1 && a.2.1.toList == b.2.1.toList
def go (x : E) (life : Int) (es : List E) : List E := es.flatMap fun e => if same e x then (if life = 0 then [] else [x]) else [e]
def put (life : Int) (es : List E) (x : E) : List E :=
  if es.any (fun e => same e x) = true ∨ life = 0 then go x life es
  else if (go x life es).length < 4 then go x life es ++ [x]
  else if ((go x life es).map (·.2.2))[oldAt ((go x life es).map (·.2.2)) (go x life es).length]?.getD 0 ≤ x.2.2 then (go x life es).set (oldAt ((go x life es).map (·.2.2)) (go x life es).length) x
  else go x life es
theorem go_snoc {x : E} {life : Int} {es : List E} {j : Nat} {e : E} (h : es[j]? = some e) : go x life (es.take (j + 1)) = go x life (es.take j) ++ if same e x then (if life = 0 then [] else [x]) else [e] := by
  rw [List.take_add_one, h, go, List.flatMap_append]
  simp [go]
theorem go_le (x : E) (life : Int) (es : List E) : (go x life es).length ≤ es.length := by
  induction es with
  | nil => simp [go]
  | cons e es ih =>
    rw [go, List.flatMap_cons, List.length_append, List.length_cons]
    have : (if same e x then (if life = 0 then [] else [x]) else [e] : List E).length ≤ 1 := by split <;> (try split) <;> simp
    have := ih
    unfold go at this
    omega
theorem go_ok {x : E} {life : Int} {es : List E} (h : ∀ e ∈ es, IsE e) (hx : IsE x) : ∀ e ∈ go x life es, IsE e := by
  intro e he
  obtain ⟨f, hf, he⟩ := List.mem_flatMap.1 he
  split at he
  · split at he
    · simp at he
    · rw [List.mem_singleton.1 he]; exact hx
  · rw [List.mem_singleton.1 he]; exact h f hf
theorem put_ok {x : E} {life : Int} {es : List E} (h : ∀ e ∈ es, IsE e) (hx : IsE x) : ∀ e ∈ put life es x, IsE e := by
  unfold put
  intro e he
  split at he
  · exact go_ok h hx e he
  · split at he
    · rcases List.mem_append.1 he with he | he
      · exact go_ok h hx e he
      · rw [List.mem_singleton.1 he]; exact hx
    · split at he
      · rcases List.mem_or_eq_of_mem_set he with he | rfl
        · exact go_ok h hx e he
        · exact hx
      · exact go_ok h hx e he

section
variable {α : Type} {sm : α → α → Bool} {emb : α × Int → E}
/-- A shelf's list, as the document has it. -/
structure Emb (sm : α → α → Bool) (emb : α × Int → E) : Prop where
  inj : ∀ a b, sm a b = true → a = b
  same : ∀ a b, Rf.same (emb a) (emb b) = sm a.1 b.1
  til : ∀ a, (emb a).2.2 = a.2
theorem Emb.none (h : Emb sm emb) {x : α} {t life : Int} {es : List (α × Int)} (hn : ∀ e ∈ es, sm e.1 x = false) : go (emb (x, t)) life (es.map emb) = es.map emb := by
  induction es with
  | nil => rfl
  | cons e es ih =>
    rw [List.map_cons, go, List.flatMap_cons]
    have h1 := hn e (by simp)
    rw [if_neg (by rw [h.same]; simp [h1])]
    have := ih (fun f hf => hn f (by simp [hf]))
    unfold go at this
    rw [this]; rfl
theorem Emb.some (h : Emb sm emb) (hs : ∀ a b, sm a b = sm b a) {x : α} {t life : Int} : ∀ {es : List (α × Int)} {j : Nat} {e : α × Int}, NoDup sm es → es[j]? = some e → sm e.1 x = true →
    go (emb (x, t)) life (es.map emb) = (if life = 0 then es.eraseIdx j else es.set j (x, t)).map emb
  | [], j, e, _, he, _ => by simp at he
  | f :: es, 0, e, hd, he, hx => by
    simp at he
    subst he
    have hxe := h.inj _ _ hx
    have hrest : ∀ g ∈ es, sm g.1 x = false := fun g hg => by
      have := (List.pairwise_cons.1 hd).1 g hg
      rw [hxe, hs] at this
      exact this
    have h2 := h.none (t := t) (life := life) hrest
    rw [List.map_cons, go, List.flatMap_cons, if_pos (by rw [h.same]; exact hx)]
    unfold go at h2
    rw [h2]
    split <;> simp
  | f :: es, j + 1, e, hd, he, hx => by
    simp at he
    have hxe := h.inj _ _ hx
    have hf : sm f.1 x = false := by
      have := (List.pairwise_cons.1 hd).1 e (List.mem_of_getElem? he)
      rwa [hxe] at this
    have h2 := Emb.some h hs (t := t) (life := life) (List.pairwise_cons.1 hd).2 he hx
    rw [List.map_cons, go, List.flatMap_cons, if_neg (by rw [h.same]; simp [hf])]
    unfold go at h2
    rw [h2]
    split <;> simp
/-- One thing told: the document's answer is the shelf's. -/
theorem Emb.put (h : Emb sm emb) (hs : ∀ a b, sm a b = sm b a) {x : α} {t life : Int} {es : List (α × Int)} (hd : NoDup sm es) (h4 : es.length ≤ 4) : Rf.put life (es.map emb) (emb (x, t)) = (putOne sm t life es x).map emb := by
  have hany : (es.map emb).any (fun e => Rf.same e (emb (x, t))) = es.any (fun e => sm e.1 x) := by
    rw [List.any_map]
    congr 1
    funext e
    exact h.same e (x, t)
  have hmap : (es.map emb).map (·.2.2) = es.map (·.2) := by
    rw [List.map_map]
    congr 1
    funext e
    exact h.til e
  unfold Rf.put putOne
  dsimp only
  rw [hany]
  rcases idx_cases (p := fun e => sm e.1 x) es with ⟨h1, h2⟩ | ⟨j, e, h1, h2, h3, h4'⟩
  · have hn : ∀ e ∈ es, sm e.1 x = false := idx_any (by omega)
    rw [h1, h2, if_neg (show ¬ (0 : Int) ≤ -1 by omega), h.none hn]
    by_cases hl : life = 0
    · rw [if_pos (.inr hl), if_pos hl]
    · rw [if_neg (by simp [hl]), if_neg hl, hmap, List.length_map]
      split
      · simp
      · rw [h.til]
        split
        · rw [List.map_set]
        · rfl
  · have ha : es.any (fun e => sm e.1 x) = true := List.any_eq_true.2 ⟨e, List.mem_of_getElem? h2, h3⟩
    have hxe := h.inj _ _ h3
    rw [h1, ha, if_pos (.inl rfl), if_pos (by omega), Int.toNat_natCast, h.some hs hd h2 h3, h2]
    split
    · rfl
    · rw [show ((Option.map (·.1) (Option.some e)).getD x) = e.1 from rfl, hxe]
end
def zeroA : List Int := List.replicate 16 0
theorem zeroA_is : IsAddr zeroA := ⟨rfl, by decide⟩
def embS (e : Sv.E) : E := (e.1, .empty, e.2)
def embD (e : Dm.E) : E := (zeroA, e.1, e.2)
theorem bytes_eq {a b : ByteArray} (h : a.toList = b.toList) : a = b := by
  rw [ByteArray.toList_eq, ByteArray.toList_eq] at h
  obtain ⟨⟨x⟩⟩ := a
  obtain ⟨⟨y⟩⟩ := b
  simp at h
  subst h
  rfl
theorem isS : Emb Sv.sameT embS := ⟨fun a b h => by simpa [Sv.sameT] using h, fun a b => by simp [same, embS, Sv.sameT], fun _ => rfl⟩
theorem isD : Emb Dm.sameT embD := ⟨fun a b h => bytes_eq (by simpa [Dm.sameT] using h), fun a b => by simp [same, embD, Dm.sameT], fun _ => rfl⟩
theorem okS {es : List Sv.E} (h : ∀ e ∈ es, Sv.IsE e) : ∀ e ∈ es.map embS, IsE e := fun e he => by
  obtain ⟨f, hf, rfl⟩ := List.mem_map.1 he
  exact ⟨(h f hf).addr, (h f hf).lo, (h f hf).hi⟩
theorem okD {es : List Dm.E} (h : ∀ e ∈ es, Dm.IsE e) : ∀ e ∈ es.map embD, IsE e := fun e he => by
  obtain ⟨f, hf, rfl⟩ := List.mem_map.1 he
  exact ⟨zeroA_is, (h f hf).lo, (h f hf).hi⟩

set_option maxHeartbeats 400000 in
theorem until_any (now life : Int) (w : World) (h0 : 0 ≤ now) (h1 : now ≤ 18446744073709551615) (l0 : 0 ≤ life) (l1 : life ≤ 4294967295) :
    Calls Try.prog 33 #[.int .u64 now, .int .u32 life] w fun e w' => e = .returned (.int .u64 (cadd now (csecs life))) ∧ w = w' := by
  by_cases hl : life = 4294967295
  · have hv : cadd now (csecs life) = 9223372036854775807 := by
      have hc : csecs life = 9223372036854775807 := by unfold csecs; rw [if_neg (by omega)]
      unfold cadd
      rw [hc]
      split <;> omega
    have hlb : (life == 4294967295) = true := by simp [hl]
    rw [hv]
    clear hl hv
    go_enter Try.func33, Try.ntmps33
    go_wp2
    go_ret
    exact ⟨rfl, rfl⟩
  · have hlb : (life == 4294967295) = false := by simp [hl]
    have hc : csecs life = life * 1000 := by unfold csecs; rw [if_pos (by omega)]
    by_cases hn : 9223372036854775807 ≤ now
    · have hv : cadd now (csecs life) = 9223372036854775807 := by unfold cadd; rw [if_neg (by rw [hc]; omega)]
      rw [hv]
      clear hl hv hc
      go_enter Try.func33, Try.ntmps33
      go_wp2
      go_ret
      exact ⟨rfl, rfl⟩
    · by_cases hs : 9223372036854775807 ≤ now + 1000 * life
      · have hv : cadd now (csecs life) = 9223372036854775807 := by unfold cadd; rw [if_neg (by rw [hc]; omega)]
        rw [hv]
        clear hl hv hc
        go_enter Try.func33, Try.ntmps33
        go_wp2
        go_ret
        exact ⟨rfl, rfl⟩
      · have hv : cadd now (csecs life) = now + 1000 * life := by unfold cadd; rw [if_pos (by rw [hc]; omega), hc]; omega
        rw [hv]
        clear hl hv hc
        go_enter Try.func33, Try.ntmps33
        go_wp2
        go_ret
        exact ⟨rfl, rfl⟩
end Go.Proofs.Ytajlgglknianlaa.Rf
