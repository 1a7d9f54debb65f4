/- A redirect once more: with what the reference makes of it. No condition. -/
import Derived.Test.YtpjjcihhmhccfaaLink2
namespace Go.Proofs.Ytpjjcihhmhccfaa
open Go.ChangeShapes Go.WideShapes Go.ChangeAt Go.RowKit Go.Deep
set_option linter.unusedVariables false
set_option linter.unusedSimpArgs false

/-- A redirect; the one in front stands nowhere else. -/
def RedMore (w0 : World) (B : Nat) (dst next : List Int) (os : List En) (L : List Bx) (w' : World) : Prop := ∃ b e rest, Mk dst os b e rest ∧ (∀ o ∈ rest, o.1 ≠ b) ∧ Ch w0 w' B (bareO b (e.1, next, e.2.2) ((b, (e.1, next, e.2.2)) :: rest)) L
set_option maxRecDepth 100000 in
set_option maxHeartbeats 2000000 in
theorem redirect_more {w0 : World} (w : World) {B : Nat} {os : List En} {L : List Bx} (h : Ch w0 w B os L) (dst next : List Int) (hd0 : IsAddr dst) (hn0 : IsAddr next) :
    Calls Try.prog 14 #[ptr B, .agg (bytesV dst), .agg (bytesV next)] w fun r w' => (∃ z, r = .returned z) ∧ RedMore w0 B dst next os L w' := by
  obtain ⟨q, hq⟩ : ∃ q, w.heap.size = q := ⟨_, rfl⟩
  have hd := hidd hd0
  have hn := hidd hn0
  have C1 := h.new 24 (bytesV dst) hq
  have C2 := hidd (C1.new 24 (bytesV next) (g := q + 1) (by simp [hq]))
  clear h hd0 hn0 C1
  go_enter Try.func14, Try.ntmps14
  obtain ⟨bm, c1⟩ := C2.out.map1
  have l1 := hidd (ld24 (C2.out.pop.last) hd.out)
  go_wp2_with (first
    | (go_at_call 24; refine (there_yes _ B bm c1).mono ?_; rintro e w2 ⟨rfl, rfl⟩)
    | (with_reducible show wpList _ _ _ (⟨_, Op.load 24 _, _, _, _, _⟩ :: _) _ _; refine wpList_load_want (by kernel_rfl) 24 _ rfl _ rfl _ (by with_reducible exact l1.out) ?_))
  refine (made_any _ C2.out dst hd.out).mono ?_
  rintro r w3 ⟨b, e, rest, rfl, hmk, c3⟩
  have C3 := hidd c3
  have hmk' := hidd hmk
  have hnr := hidd (fun (o : En) (ho : o ∈ rest) => (show o.1 ≠ b from fun e' => (List.pairwise_cons.1 c3.nb.1).1 o ho e'.symm))
  have l2 := hidd (ld24 c3.last hn.out)
  obtain ⟨hbl, hE⟩ := c3.ent (o := (b, e)) (by simp)
  have hsz := encV_size hE
  have hth := hidd (hbl.there (o := 16) (n := 16) (by rw [hsz]; omega))
  have hE' : IsE (e.1, next, e.2.2) := ⟨hE.a, hn.out, hE.m, hE.u⟩
  have hEE := hidd hE'
  have hbv : bytesV next = (next.map (Value.int .u8)).toArray := rfl
  have C4 : Hid (Ch w0 (w3.setCells b 16 (next.map (Value.int .u8))) B ((b, (e.1, next, e.2.2)) :: rest) (L ++ [(q, 24, bytesV dst)] ++ [(q + 1, 24, bytesV next)])) := by
    have hk := Blk.over (W := w3) (next.map (Value.int .u8)) 16 w3 (encV e) hbl
    rw [set_next hE hn.out] at hk
    have := c3.upd (b := b) (e := e) (e' := (e.1, next, e.2.2)) (by simp) rfl hE' (fr_cells w3 b _ 16) hk
    rwa [upd_head c3.nb.1] at this
  clear c3 hmk C2 l1 hbl hsz c1 hE'
  go_wp2_with (first
    | (with_reducible show wpList _ _ _ (⟨_, Op.load 24 _, _, _, _, _⟩ :: _) _ _; refine wpList_load_want (by kernel_rfl) 24 _ rfl _ rfl _ (by with_reducible exact l2.out) ?_)
    | (with_reducible show wpList _ _ _ (⟨_, Op.store 24 _ _, _, _, _, _⟩ :: _) _ _
       refine wpList_store_bytes rfl rfl 24 _ _ rfl b 16 next rfl rfl (by rw [hn.out.len]; exact hth.out) (by rw [hn.out.len]; exact info24) ?_
       generalize w3.setCells b 16 (next.map (Value.int .u8)) = w4 at C4 ⊢
       clear l2 C3 hth))
  refine (bare_any _ C4.out b (e.1, next, e.2.2) (by simp)).mono ?_
  rintro r w5 ⟨⟨z, rfl⟩, c5⟩
  have C5 := hidd c5
  clear c5 C4
  go_wp2
  go_end0
  exact ⟨⟨_, rfl⟩, b, e, rest, hmk'.out, hnr.out, C5.out.pop.pop⟩
theorem link_red {os rest : List En} {b : Nat} {e : E} {x y : List Int} (h1 : os.Pairwise fun a b => a.1 ≠ b.1) (h2 : os.Pairwise fun a b => a.2.1 ≠ b.2.1) (h32 : os.length ≤ 32) (hmk : Mk x os b e rest) (hnr : ∀ o ∈ rest, o.1 ≠ b) :
    (bareO b (e.1, y, e.2.2) ((b, (e.1, y, e.2.2)) :: rest)).map (·.2) = frontE ((oldE x (os.map (·.2))).1, y, (oldE x (os.map (·.2))).2.2) (os.map (·.2)) := by
  obtain ⟨ho, hc⟩ := link_mk h1 h2 h32 hmk
  rw [ho, frontE, bareO, show (e.1, y, e.2.2).1 = x from (show e.1 = x from mk_addr hmk), hc]
  cases hb : bareE (e.1, y, e.2.2) with
  | true =>
    rw [show e.1 = x from mk_addr hmk] at hb
    simp only [hb, ↓reduceIte]
    congr 1
    rw [outO, List.filter_cons_of_neg (by simp), List.filter_eq_self]
    intro o ho
    simpa using hnr o ho
  | false =>
    rw [show e.1 = x from mk_addr hmk] at hb
    simp only [hb, Bool.false_eq_true, ↓reduceIte]
    rfl
end Go.Proofs.Ytpjjcihhmhccfaa
