/- A cache: a new one; an entry turned; redirects, a lower mtu, a look; each function walked once. No condition. -/
import Derived.Test.YtpjjcihhmhccfaaMade2
namespace Go.Proofs.Ytpjjcihhmhccfaa
open Go.ChangeShapes Go.WideShapes Go.ChangeAt Go.RowKit Go.Deep
set_option linter.unusedVariables false
set_option linter.unusedSimpArgs false

theorem pairwise_of_map {α β : Type} {f : α → β} {l l' : List α} (h : l.map f = l'.map f) (hp : l.Pairwise fun a b => f a ≠ f b) : l'.Pairwise fun a b => f a ≠ f b := by
  rw [← List.pairwise_map (f := f) (R := fun a b => a ≠ b)] at hp ⊢
  rw [← h]; exact hp
theorem upd_addr {os : List En} (hn : os.Pairwise fun a b => a.1 ≠ b.1) {b : Nat} {e e' : E} (hb : (b, e) ∈ os) (ha : e'.1 = e.1) : (upd b e' os).map (·.2.1) = os.map (·.2.1) := by
  rw [upd, List.map_map]
  apply List.map_congr_left
  intro o ho
  show (if o.1 = b then (b, e') else o).2.1 = o.2.1
  split
  · rename_i h
    obtain ⟨o1, o2⟩ := o
    simp only at h
    subst h
    rw [nb_uniq hn ho hb]
    exact ha
  · rfl
theorem Gd.upd {ps : List Nat} {ms : List Mm} {es os : List En} (h : Gd ps ms es os) {b : Nat} {e e' : E} (hb : (b, e) ∈ os) (ha : e'.1 = e.1) : Gd ps ms (Go.Proofs.Ytpjjcihhmhccfaa.upd b e' es) (Go.Proofs.Ytpjjcihhmhccfaa.upd b e' os) := by
  refine ⟨by rw [upd_ids]; exact h.row, fun o ho => ?_, pairwise_of_map (f := fun o : En => o.2.1) (upd_addr h.nb hb ha).symm h.nd, pairwise_of_map (f := fun o : En => o.1) (upd_ids b e' os).symm h.nb, fun a b' => ?_, h.kd, by rw [Go.Proofs.Ytpjjcihhmhccfaa.upd, List.length_map]; exact h.len, by rw [Go.Proofs.Ytpjjcihhmhccfaa.upd, List.length_map]; exact h.max⟩
  · obtain ⟨y, hy, rfl⟩ := List.mem_map.1 ho
    exact List.mem_map_of_mem (h.mem y hy)
  · rw [h.keys a b']
    constructor
    · rintro ⟨y, hy1, hy2⟩
      by_cases hq : b' = b
      · subst hq
        have := nb_uniq h.nb hy1 hb
        subst this
        exact ⟨e', List.mem_map.2 ⟨_, hy1, by simp⟩, by rw [ha, hy2]⟩
      · exact ⟨y, List.mem_map.2 ⟨_, hy1, by simp [hq]⟩, hy2⟩
    · rintro ⟨y, hy1, hy2⟩
      rcases upd_mem hy1 with hy | ⟨hy, hn⟩
      · simp only [Prod.mk.injEq] at hy
        obtain ⟨rfl, rfl⟩ := hy
        exact ⟨e, hb, by rw [← ha, hy2]⟩
      · exact ⟨y, hy, hy2⟩
theorem Ch.upd {w0 W V : World} {B : Nat} {os : List En} {L : List Bx} (h : Ch w0 W B os L) {b : Nat} {e e' : E} (hb : (b, e) ∈ os) (ha : e'.1 = e.1) (he : IsE e') (hf : Fr (· = b) W V) (hk : Blk V b 33 (encV e')) : Ch w0 V B (Go.Proofs.Ytpjjcihhmhccfaa.upd b e' os) L := by
  obtain ⟨bm, v, ps, ms, ck, es, h1, h2⟩ := h
  exact ⟨bm, v, ps, ms, ck, _, h1.turnE (h2.mem _ hb) he hf hk, h2.upd hb ha⟩
theorem Ch.nb {w0 W : World} {B : Nat} {os : List En} {L : List Bx} (h : Ch w0 W B os L) : os.Pairwise (fun a b => a.1 ≠ b.1) ∧ os.Pairwise (fun a b => a.2.1 ≠ b.2.1) ∧ os.length ≤ 32 := by
  obtain ⟨bm, v, ps, ms, ck, es, h1, h2⟩ := h
  exact ⟨h2.nb, h2.nd, h2.max⟩
theorem upd_none {b : Nat} {e : E} {os : List En} (h : ∀ o ∈ os, o.1 ≠ b) : upd b e os = os := by
  rw [upd]
  conv => rhs; rw [← List.map_id os]
  exact List.map_congr_left fun o ho => by simp [h o ho]
theorem upd_head {b : Nat} {e e' : E} {rest : List En} (h : ((b, e) :: rest).Pairwise fun a b => a.1 ≠ b.1) : upd b e' ((b, e) :: rest) = (b, e') :: rest := by
  rw [show upd b e' ((b, e) :: rest) = (if (b, e).1 = b then (b, e') else (b, e)) :: upd b e' rest from rfl, if_pos rfl, upd_none (fun o ho e2 => (List.pairwise_cons.1 h).1 o ho e2.symm)]

theorem new_any (w : World) : Calls Try.prog 9 #[] w fun e w' => ∃ B, e = .returned (ptr B) ∧ Ch w w' B [] [] ∧ w.heap.size ≤ B := by
  have hmm := @run_makeMap Try.prog
  obtain ⟨s, Ss⟩ : ∃ s, w.heap.size = s := ⟨_, rfl⟩
  have b1 : Below s w ((w.alloc (.map #[] 0)).alloc (.cells #[.slice none 0 0, .map (some s)] 58)) := by rw [← Ss]; exact ((Below.refl _ w).alloc (Nat.le_refl _) _).alloc (by simp) _
  have hs : (w.alloc (.map #[] 0)).heap.size = s + 1 := by simp [Ss]
  have hm : IsM ((w.alloc (.map #[] 0)).alloc (.cells #[.slice none 0 0, .map (some s)] 58)) s [] 0 := by
    have h1 := (MapKept.heap_alloc w (.map #[] 0)).1
    rw [Ss] at h1
    exact ((MapKept.heap_alloc (w.alloc (.map #[] 0)) (.cells #[.slice none 0 0, .map (some s)] 58)).2 s (by omega)).trans h1
  have hb : Blk ((w.alloc (.map #[] 0)).alloc (.cells #[.slice none 0 0, .map (some s)] 58)) (s + 1) 58 #[.slice none 0 0, .map (some s)] := by rw [← hs]; exact Blk.new _ _ _
  have H : Hid (Ch w ((w.alloc (.map #[] 0)).alloc (.cells #[.slice none 0 0, .map (some s)] 58)) (s + 1) [] []) :=
    ⟨s, _, [], [], 0, [], ⟨hb, World.ownsRow_nil _ _ _ _, hm, (fun e he => by simp at he), (fun e he => by simp at he), by simp [ids], (fun k hk => by cases hk), ⟨by omega, by omega, (fun e he => by simp at he)⟩, (fun e he => by simp at he), (fun e he => by simp at he), (fun e he => by simp at he), (fun e he => by simp at he), by rw [Ss]; exact b1⟩,
      ⟨rfl, (fun e he => by simp at he), List.Pairwise.nil, List.Pairwise.nil, (fun a b => by simp), List.Pairwise.nil, rfl, by simp⟩⟩
  clear b1 hs hm hb
  go_enter Try.func9, Try.ntmps9
  go_wp2
  go_ret
  exact ⟨s + 1, by simp [Ss], H.out, by omega⟩

/-- A redirect. -/
def RedSays (w0 : World) (B : Nat) (dst next : List Int) (os : List En) (L : List Bx) (w' : World) : Prop := ∃ b e rest, Mk dst os b e rest ∧ Ch w0 w' B (bareO b (e.1, next, e.2.2) ((b, (e.1, next, e.2.2)) :: rest)) L
set_option maxRecDepth 100000 in
set_option maxHeartbeats 2000000 in
theorem redirect_any {w0 : World} (w : World) {B : Nat} {os : List En} {L : List Bx} (h : Ch w0 w B os L) (dst next : List Int) (hd0 : IsAddr dst) (hn0 : IsAddr next) :
    Calls Try.prog 14 #[ptr B, .agg (bytesV dst), .agg (bytesV next)] w fun r w' => (∃ z, r = .returned z) ∧ RedSays w0 B dst next os L w' := by
  obtain ⟨q, hq⟩ : ∃ q, w.heap.size = q := ⟨_, rfl⟩
  have hd := hidd hd0
  have hn := hidd hn0
  have C1 := h.new 24 (bytesV dst) hq
  have C2 := hidd (C1.new 24 (bytesV next) (g := q + 1) (by simp [hq]))
  clear h hd0 hn0 C1
  go_enter Try.func14, Try.ntmps14
  obtain ⟨bm, c1⟩ := C2.out.map1
  have l1 := hidd (ld24 (C2.out.pop.last) hd.out)
  go_wp2_with (first
    | (go_at_call 24; refine (there_yes _ B bm c1).mono ?_; rintro e w2 ⟨rfl, rfl⟩)
    | (with_reducible show wpList _ _ _ (⟨_, Op.load 24 _, _, _, _, _⟩ :: _) _ _; refine wpList_load_want (by kernel_rfl) 24 _ rfl _ rfl _ (by with_reducible exact l1.out) ?_))
  refine (made_any _ C2.out dst hd.out).mono ?_
  rintro r w3 ⟨b, e, rest, rfl, hmk, c3⟩
  have C3 := hidd c3
  have hmk' := hidd hmk
  have l2 := hidd (ld24 c3.last hn.out)
  obtain ⟨hbl, hE⟩ := c3.ent (o := (b, e)) (by simp)
  have hsz := encV_size hE
  have hth := hidd (hbl.there (o := 16) (n := 16) (by rw [hsz]; omega))
  have hE' : IsE (e.1, next, e.2.2) := ⟨hE.a, hn.out, hE.m, hE.u⟩
  have hEE := hidd hE'
  have hbv : bytesV next = (next.map (Value.int .u8)).toArray := rfl
  have C4 : Hid (Ch w0 (w3.setCells b 16 (next.map (Value.int .u8))) B ((b, (e.1, next, e.2.2)) :: rest) (L ++ [(q, 24, bytesV dst)] ++ [(q + 1, 24, bytesV next)])) := by
    have hk := Blk.over (W := w3) (next.map (Value.int .u8)) 16 w3 (encV e) hbl
    rw [set_next hE hn.out] at hk
    have := c3.upd (b := b) (e := e) (e' := (e.1, next, e.2.2)) (by simp) rfl hE' (fr_cells w3 b _ 16) hk
    rwa [upd_head c3.nb.1] at this
  clear c3 hmk C2 l1 hbl hsz c1 hE'
  go_wp2_with (first
    | (with_reducible show wpList _ _ _ (⟨_, Op.load 24 _, _, _, _, _⟩ :: _) _ _; refine wpList_load_want (by kernel_rfl) 24 _ rfl _ rfl _ (by with_reducible exact l2.out) ?_)
    | (with_reducible show wpList _ _ _ (⟨_, Op.store 24 _ _, _, _, _, _⟩ :: _) _ _
       refine wpList_store_bytes rfl rfl 24 _ _ rfl b 16 next rfl rfl (by rw [hn.out.len]; exact hth.out) (by rw [hn.out.len]; exact info24) ?_
       generalize w3.setCells b 16 (next.map (Value.int .u8)) = w4 at C4 ⊢
       clear l2 C3 hth))
  refine (bare_any _ C4.out b (e.1, next, e.2.2) (by simp)).mono ?_
  rintro r w5 ⟨⟨z, rfl⟩, c5⟩
  have C5 := hidd c5
  clear c5 C4
  go_wp2
  go_end0
  exact ⟨⟨_, rfl⟩, b, e, rest, hmk'.out, C5.out.pop.pop⟩
end Go.Proofs.Ytpjjcihhmhccfaa
