/- The chapter's example; packets and messages as they are written in the text. No condition but that the table of known addresses lies where it was laid. -/
import Derived.Test.YtlckfnfmekgnkaaDoorTurn
namespace Go.Proofs.YtlckfnfmekgnkaaDoor
open Go.ChangeShapes Go.WideShapes Go.ChangeAt Go.RowKit Go.Deep
set_option linter.unusedVariables false

def pkV (src dst : List Int) (hops : Int) (alert : Bool) : Array Value := (src.map (Value.int .u8) ++ (dst.map (Value.int .u8) ++ [Value.int .u8 hops, .bool alert, .bool false, .int .u32 0, .int .u16 0, .bool false, .int .u8 0, .slice none 0 0])).toArray
def msV (kind : Int) (target : List Int) (ops : Value) : Array Value :=
  ([Value.int .u8 kind, .int .u8 0, .int .u32 0, .slice none 0 0, .int .u8 0, .int .u8 0, .int .u16 0, .int .u32 0, .int .u32 0] ++ (target.map (Value.int .u8) ++ (zeroA.map (Value.int .u8) ++ (ops :: Value.int .u16 0 :: (zeroA.map (Value.int .u8) ++ [Value.int .u8 0, .int .u8 0, .slice none 0 0, .slice none 0 0]))))).toArray

theorem At.of {A B l : List Int} {X Y : List Value} : At (X ++ (l.map (Value.int .u8) ++ Y)).toArray X.length l := fun j y hy => by
  have hj := (List.getElem?_eq_some_iff.1 hy).1
  simp only [List.getElem?_toArray]
  rw [List.getElem?_append_right (by omega), Nat.add_sub_cancel_left, List.getElem?_append_left (by simpa using hj), List.getElem?_map, hy]
  rfl

theorem ones_list {l : List Value} (h : ∀ v ∈ l, v.oneCell' = true) : l.toArray.all (·.oneCell') = true := all_oneCell_toArray h

theorem pkV_is {src dst : List Int} {hops : Int} {alert : Bool} (hs : IsAddr src) (hd : IsAddr dst) (h0 : 0 ≤ hops) (h1 : hops ≤ 255) : IsPk (pkV src dst hops alert) ⟨src, dst, hops, alert⟩ := by
  have l1 := hs.len
  have l2 := hd.len
  refine ⟨by simp [pkV, l1, l2], ones_list fun v hv => ?_, hs, hd, At.of (A := []) (B := []) (X := []), ?_, ?_, ⟨h0, h1⟩, ?_⟩
  · simp only [List.mem_append, List.mem_map, List.mem_cons, List.not_mem_nil, or_false] at hv
    rcases hv with ⟨x, _, rfl⟩ | ⟨x, _, rfl⟩ | rfl | rfl | rfl | rfl | rfl | rfl | rfl | rfl <;> rfl
  · have := At.of (A := []) (B := []) (X := src.map (Value.int .u8)) (l := dst) (Y := [Value.int .u8 hops, .bool alert, .bool false, .int .u32 0, .int .u16 0, .bool false, .int .u8 0, .slice none 0 0])
    rw [List.length_map, l1] at this
    exact this
  · simp only [pkV, List.getElem?_toArray]
    rw [List.getElem?_append_right (by simp; omega), List.getElem?_append_right (by simp; omega)]
    simp [l1, l2]
  · simp only [pkV, List.getElem?_toArray]
    rw [List.getElem?_append_right (by simp; omega), List.getElem?_append_right (by simp; omega)]
    simp [l1, l2]

theorem msV_is {w : World} {B : Nat} {kind : Int} {target : List Int} {ops : Value} {ks : List Int} (ht : IsAddr target) (h0 : 0 ≤ kind) (h1 : kind ≤ 255) (ho : IsOps w B ops ks) (h2 : ops.oneCell' = true) : IsMs w B (msV kind target ops) ⟨kind, 0, 0, target, zeroA, ks⟩ := by
  have l1 := ht.len
  have l2 := zeroA_is.len
  refine ⟨by simp [msV, l1, l2], ones_list fun v hv => ?_, rfl, ⟨h0, h1⟩, rfl, ⟨Int.le_refl _, by show (0 : Int) ≤ 255; omega⟩, rfl, ⟨Int.le_refl _, by show (0 : Int) ≤ 255; omega⟩, ht, zeroA_is, ?_, ?_, ⟨ops, ?_, ho⟩⟩
  · simp only [List.mem_append, List.mem_map, List.mem_cons, List.not_mem_nil, or_false] at hv
    rcases hv with (rfl | rfl | rfl | rfl | rfl | rfl | rfl | rfl | rfl) | ⟨x, _, rfl⟩ | ⟨x, _, rfl⟩ | rfl | rfl | ⟨x, _, rfl⟩ | rfl | rfl | rfl | rfl <;> first | rfl | exact h2
  · exact At.of (A := []) (B := []) (X := [Value.int .u8 kind, .int .u8 0, .int .u32 0, .slice none 0 0, .int .u8 0, .int .u8 0, .int .u16 0, .int .u32 0, .int .u32 0])
  · have := At.of (A := []) (B := []) (X := [Value.int .u8 kind, .int .u8 0, .int .u32 0, .slice none 0 0, .int .u8 0, .int .u8 0, .int .u16 0, .int .u32 0, .int .u32 0] ++ target.map (Value.int .u8)) (l := zeroA) (Y := ops :: Value.int .u16 0 :: (zeroA.map (Value.int .u8) ++ [Value.int .u8 0, .int .u8 0, .slice none 0 0, .slice none 0 0]))
    rw [List.length_append, List.length_map, l1, List.append_assoc] at this
    exact this
  · simp only [msV, List.getElem?_toArray]
    rw [List.getElem?_append_right (by simp), List.getElem?_append_right (by simp; omega), List.getElem?_append_right (by simp [l2]; omega)]
    simp [l1, l2]

theorem noOps (w : World) (B : Nat) : IsOps w B (.slice none 0 0) [] := ⟨none, 0, 0, [], rfl, Rd.none_ w B 2, rfl, fun i k h => by simp at h⟩

def a1 : List Int := [254, 128] ++ List.replicate 13 0 ++ [1]
def aLoop : List Int := List.replicate 15 0 ++ [1]
def aMany : List Int := [255, 2] ++ List.replicate 9 0 ++ [1, 255, 0, 0, 9]
def aNine : List Int := [254, 128] ++ List.replicate 13 0 ++ [9]
theorem a1_is : IsAddr a1 := ⟨rfl, by decide⟩
theorem aLoop_is : IsAddr aLoop := ⟨rfl, by decide⟩
theorem aMany_is : IsAddr aMany := ⟨rfl, by decide⟩
theorem aNine_is : IsAddr aNine := ⟨rfl, by decide⟩

section
variable {w W : World} {L : List (Nat × TypeId × Array Value)}
theorem Kp.l23 (h : Kp w W L) (k : Nat) {g : Nat} {t : TypeId} {a : List Int} (hk : L[k]? = some (g, t, bytesV a)) (ha : IsAddr a) : (loadVar 23 ⟨g, 0, none⟩).run Tryd.prog W = .ok (.agg (bytesV a)) W := (h.get k hk).load Tryd.underlying23 rfl (size_bytes ha)
theorem Kp.l30 (h : Kp w W L) (k : Nat) {g : Nat} {t : TypeId} {cs : Array Value} (hk : L[k]? = some (g, t, cs)) {p : Pk} (hp : IsPk cs p) : (loadVar 30 ⟨g, 0, none⟩).run Tryd.prog W = .ok (.agg cs) W := (h.get k hk).load Tryd.underlying30 rfl (size_pk hp)
theorem Kp.l35 (h : Kp w W L) (k : Nat) {g : Nat} {t : TypeId} {cs : Array Value} (hk : L[k]? = some (g, t, cs)) {V : World} {B : Nat} {m : Ms} (hm : IsMs V B cs m) : (loadVar 35 ⟨g, 0, none⟩).run Tryd.prog W = .ok (.agg cs) W := (h.get k hk).load Tryd.underlying35 rfl (size_ms hm)
theorem Kp.gl (h : Kp w W L) (hg : Gl w) : Gl W := hg.below h.bel hg.lt
end

theorem Kp.new {w W : World} {L : List (Nat × TypeId × Array Value)} (h : Kp w W L) {g : Nat} (hg : W.heap.size = g) (t : TypeId) (cs : Array Value) : Kp w (W.alloc (.cells cs t)) (L ++ [(g, t, cs)]) := by
  subst hg
  exact h.alloc t cs
theorem size_new {W : World} {g : Nat} (hg : W.heap.size = g) (o : Obj) : (W.alloc o).heap.size = g + 1 := by rw [World.size_alloc, hg]
theorem size_set {W : World} {g : Nat} (hg : W.heap.size = g) (a : Addr) (v : Value) : (W.setCell a v).heap.size = g := by simpa [World.setCell] using hg

def far : Array Value := (pkV a1 zeroA 255 false).setIfInBounds 32 (.int .u8 254)
def loop : Array Value := over (pkV a1 zeroA 255 false) 0 (aLoop.map (Value.int .u8))
theorem p_is : IsPk (pkV a1 zeroA 255 false) ⟨a1, zeroA, 255, false⟩ := pkV_is a1_is zeroA_is (by omega) (by omega)
theorem far_is : IsPk far ⟨a1, zeroA, 254, false⟩ := p_is.setHops (by omega) (by omega)
theorem loop_is : IsPk loop ⟨aLoop, zeroA, 255, false⟩ := p_is.setSrc aLoop_is
theorem q_is : IsPk (pkV zeroA aMany 255 false) ⟨zeroA, aMany, 255, false⟩ := pkV_is zeroA_is aMany_is (by omega) (by omega)

end Go.Proofs.YtlckfnfmekgnkaaDoor
