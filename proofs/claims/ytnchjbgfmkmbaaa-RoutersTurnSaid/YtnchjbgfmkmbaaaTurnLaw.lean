/- 'RoutersTurn': for every input the law returns true; nothing that was there is written. No condition. -/
import Derived.Test.YtnchjbgfmkmbaaaSeen
namespace Go.Proofs.Ytnchjbgfmkmbaaa
open Go.ChangeShapes Go.WideShapes Go.ChangeAt Go.RowKit Go.Deep
set_option linter.unusedVariables false
set_option linter.unusedSimpArgs false

/-- The list, what it gave, and the address that is asked for. -/
structure Tu (w W : World) (B bg lo : Nat) (v : Value) (es L : List E) (A : Option Addr) (gd last : List Int) (had : Bool) : Prop where
  k : Lv w W B v es last had [(bg, 23, bytesV gd)]
  g : GivenK lo W (.slice A L.length L.length) L
  lo : ∀ k, Own B v k → k < lo
section
variable {w W V : World} {B bg lo : Nat} {v : Value} {es L : List E} {A : Option Addr} {gd last l' : List Int} {had h' : Bool}
theorem Tu.to (h : Tu w W B bg lo v es L A gd last had) (hb : Below W.heap.size W V) : Tu w V B bg lo v es L A gd last had := ⟨h.k.to hb, h.g.to hb, h.lo⟩
theorem Tu.pick (h : Tu w W B bg lo v es L A gd last had) (hr : Rl V B v es l' h') (hf : Fr (Own B v) W V) : Tu w V B bg lo v es L A gd l' h' :=
  ⟨h.k.turn hr hf (fun k hk => .inl hk), h.g.fr hf h.lo, h.lo⟩
end
theorem open_addrF {H : Type} {enc : TypeId × Value → H} {W : World} {r : Reach} {b0 : Nat} {v : Value} {d : DataW H} {p : List MemPlace} (hv : Value.okWide Try.prog W r b0 23 v) (h : DataW.Trod enc Try.prog W 0 (fun _ => true) true 23 v d p) (hw : Fit Try.prog 23 d) :
    ∃ l, v = .agg (bytesV l) ∧ IsAddr l := open_addr hv h
theorem next_nil {es : List E} (h : es = []) (last : List Int) (had : Bool) : nextP last had es = 0 := by
  subst h; simp [nextP, ord, ofR, idx]
theorem any_snoc {p : E → Bool} {L : List E} {j : Nat} {e : E} (h : L[j]? = some e) : (L.take (j + 1)).any p = ((L.take j).any p || p e) := by
  rw [List.take_add_one, h, List.any_append]; simp

set_option maxRecDepth 100000 in
set_option maxHeartbeats 8000000 in
theorem walkRoutersTurn (A0 : Option Addr) (n0 c0 : Nat) (z0 : Nat → ActV) (gd : List Int) (w : World) (h0 : IsActs w w.heap.size A0 n0 c0 z0) (hgd0 : IsAddr gd) :
    Calls Try.prog 6 #[.slice A0 n0 c0, .agg (bytesV gd)] w fun e w' => e = .returned (.bool true) ∧ Below w.heap.size w w' := by
  obtain ⟨bg, hbg⟩ : ∃ bg, w.heap.size = bg := ⟨_, rfl⟩
  have b0 : Below bg w (w.alloc (.cells (bytesV gd) 23)) := by rw [← hbg]; exact (Below.refl _ w).alloc (Nat.le_refl _) _
  have hbk : Hid (Blk (w.alloc (.cells (bytesV gd) 23)) bg 23 (bytesV gd)) := by rw [← hbg]; exact Blk.new _ _ _
  have hsz : (w.alloc (.cells (bytesV gd) 23)).heap.size = bg + 1 := by simp [hbg]
  have h1 : IsActs (w.alloc (.cells (bytesV gd) 23)) (w.alloc (.cells (bytesV gd) 23)).heap.size A0 n0 c0 z0 := by
    have := h0.to (W := w.alloc (.cells (bytesV gd) 23)) (by rw [hbg]; exact b0)
    exact ⟨this.cap, this.cmax, fun hn => by
      obtain ⟨b, off, e, h1, h2⟩ := this.at_ hn
      exact ⟨b, off, e, by omega, h2⟩, this.each⟩
  have hgr := hidd (great_any _ A0 n0 c0 z0 h1)
  have hmd := hidd (made_any _ A0 n0 c0 z0 h1)
  have hcm := h0.cmax
  have hcn := h0.cap
  have hG := hidd hgd0
  have B0 := hidd b0
  have hsz' := hidd hsz
  unfold maxLen at hcm
  rw [hbg]
  clear h0 hgd0 b0 h1 hsz
  go_enter Try.func6, Try.ntmps6
  go_wp2_with fail
  generalize w.alloc (.cells (bytesV gd) 23) = V0 at hgr hmd B0 hsz' hbk ⊢
  refine Calls.mono hgr.out ?_
  rintro e w' ⟨g, rfl, hg, rfl⟩
  clear hgr
  cases g with
  | true =>
    clear hg
    go_wp2_with (go_at_call 13; refine (lives_any _).mono ?_; rintro e w' ⟨rfl, hbel⟩)
    go_ret
    exact ⟨rfl, B0.out.trans (hbel.mono (by rw [hsz'.out]; omega))⟩
  | false =>
    clear hg
    go_wp2_with fail
    refine Calls.mono hmd.out ?_
    rintro e V1 ⟨rfl, v1, k1⟩
    obtain ⟨B, hB⟩ : ∃ B, V0.heap.size = B := ⟨_, rfl⟩
    have hBg : bg < B := by rw [← hB, hsz'.out]; omega
    have hnd := hidd (madeN_nodup z0 n0)
    obtain ⟨es, hes⟩ : ∃ es, madeN z0 n0 = es := ⟨_, rfl⟩
    rw [hes] at k1 hnd
    rw [hB] at k1 ⊢
    have K1 : Hid (Lv w V1 B v1 es zeroA false [(bg, 23, bytesV gd)]) := by
      refine ⟨k1.rl, by omega, (by rw [hbg]; exact B0.out : Below w.heap.size w V0).trans (k1.bel.mono (by rw [hB]; omega)), fun x hx => ?_⟩
      rw [List.mem_singleton.1 hx]
      refine ⟨hbk.out.below k1.bel (by rw [hB]; omega), by simp only; omega, fun k hk e => by have := (k1.rl.own.lt k hk).1; simp only at e; omega⟩
    clear k1 hmd hes B0
    go_wp2_with fail
    refine (list_any V1 B v1 _ _ _ K1.out.rl).mono ?_
    rintro e V2 ⟨x2, rfl, g2, b2⟩
    have hok := hidd K1.out.rl.ok
    have h4 := K1.out.rl.four
    have hLok := hidd (ord_ok hok.out)
    have hLl := ord_len hok.out
    have hnx := hidd (fun (i : Nat) (e : E) (h : (ord es)[i]? = some e) => next_at hok.out hnd.out h)
    have hpk := hidd (fun (last : List Int) (had : Bool) (i : Nat) (e : E) (hn : nextP last had es = i) (hi : (ord es)[i]? = some e) (h0 : es ≠ []) => pick_none hn hi h0)
    have hp1 := hidd (fun (last : List Int) (had : Bool) (h0 : es ≠ []) => pick_one (g := gd) (last := last) (had := had) h0)
    have hpa := hidd (fun (good : List (List Int)) (last : List Int) (had : Bool) => pick_isaddr hok.out good last had)
    have T2 : ∃ A, x2 = .slice A (ord es).length (ord es).length ∧ Tu w V2 B bg V1.heap.size v1 es (ord es) A gd zeroA false := by
      obtain ⟨A, hA, _⟩ := id g2
      subst hA
      exact ⟨A, rfl, K1.out.to b2, g2, fun k hk => by
        rcases hk with rfl | hk
        · exact K1.out.rl.lt
        · exact (K1.out.rl.own.lt k hk).2⟩
    obtain ⟨A, rfl, t2⟩ := T2
    obtain ⟨lo, hlo⟩ : ∃ lo, V1.heap.size = lo := ⟨_, rfl⟩
    obtain ⟨L, hL⟩ : ∃ L, ord es = L := ⟨_, rfl⟩
    rw [hlo] at t2
    rw [hL] at t2 hLok hLl hnx hpk hp1 ⊢
    rw [← hLl] at h4
    have T2 := hidd t2
    have hn0 : Hid (nextP zeroA false es = 0) := next_first _
    have hnil := hidd (fun (h : es = []) (last : List Int) (had : Bool) => next_nil h last had)
    have hLl' := hidd hLl
    clear t2 g2 b2 K1 hL hLl hok
    go_wp2_with fail
    go_loopw [7] (fun i wr => ∃ (r : Nat) (last : List Int) (had : Bool), r ≤ 2 ∧ i = .int .i64 r ∧ Tu w wr B bg lo v1 es L A gd last had ∧ nextP last had es = 0) (fun i _ => 2 - (intOf i).toNat)
    case atStart => exact ⟨0, _, _, by omega, rfl, T2.out, hn0.out⟩
    case round =>
      obtain ⟨r, last, had, hr, rfl, hT, hN⟩ := hrel
      have T3 := hidd hT
      have hN3 := hidd hN
      clear hT hN T2 hn0
      by_cases hr2 : r < 2
      · have hrz : (r : Int) < 2 := by omega
        go_wp2_with fail
        obtain ⟨wo, rfl⟩ : ∃ wo : World, wo = wr := ⟨_, rfl⟩
        go_loopw [8] (fun i wr => ∃ (j : Nat) (last : List Int) (had : Bool), j ≤ L.length ∧ i = .int .i64 j ∧ Tu w wr B bg lo v1 es L A gd last had ∧ nextP last had es = j % es.length) (fun i _ => L.length - (intOf i).toNat)
        case atStart => exact ⟨0, _, _, Nat.zero_le _, rfl, T3.out, by rw [hN3.out, Nat.zero_mod]⟩
        case round =>
          obtain ⟨j, last, had, hj, rfl, hT, hN⟩ := hrel
          have T4 := hidd hT
          have hN4 := hidd hN
          clear hT hN T3 hN3
          by_cases hjn : j < L.length
          · obtain ⟨e, he⟩ : ∃ e, L[j]? = some e := ⟨_, List.getElem?_eq_getElem hjn⟩
            have hE := hidd (hLok.out e (List.mem_of_getElem? he))
            have he' := hidd he
            have hjz : (j : Int) < (L.length : Int) := by omega
            have hne : es ≠ [] := fun h => by
              have : L.length = 0 := by rw [hLl'.out, h]; rfl
              omega
            have hpp := hidd (hpk.out last had j e (by rw [hN4.out]; exact Nat.mod_eq_of_lt (by rw [← hLl'.out]; exact hjn)) he hne)
            have hnn := hidd (hnx.out j e he)
            clear he hne hN4
            go_wp2_with fail
            refine (pick_any wr B v1 es _ _ T4.out.k.rl none 0 0 [] (isKA_nil wr)).mono ?_
            rintro e5 V5 h5
            obtain ⟨rfl, r5, f5⟩ := pk_says h5 hpp.out
            have T5 := hidd (T4.out.pick r5 f5)
            obtain ⟨d, hd⟩ : ∃ d, V5.heap.size = d := ⟨_, rfl⟩
            have b6 := (Below.refl d V5).alloc (by omega) (.cells (bytesV e.1) 23)
            have T6 := hidd (T5.out.to (by rw [hd]; exact b6))
            have D6 : Hid (Blk (V5.alloc (.cells (bytesV e.1) 23)) d 23 (bytesV e.1)) := by rw [← hd]; exact Blk.new _ _ _
            clear h5 r5 f5 T4 T5 b6
            go_wp2_with (with_reducible show wpList _ _ _ (⟨_, Op.store 23 (.tmp 9) _, _, _, _, _⟩ :: _) _ _
                         refine wpList_store_new rfl rfl 23 (.tmp 9) _ rfl _ _ (bytesV e.1) rfl hd.symm rfl (size_a hE.out.addr) (Eq.trans (b := 16) (by kernel_rfl) (by rw [bytesV_size, hE.out.addr.len])) (ones_b e.1) ?_
                         generalize V5.alloc (.cells (bytesV e.1) 23) = V6 at T6 D6 ⊢)
            obtain ⟨g, hA, hgr⟩ := T6.out.g.at_ (by omega)
            subst hA
            have S5 : Hid ((loadVar 23 ⟨d, 0, none⟩).run Try.prog V6.drew = .ok (.agg (bytesV e.1)) V6.drew ∧ (loadVar 23 ⟨g, j * 18, none⟩).run Try.prog V6.drew = .ok (.agg (bytesV e.1)) V6.drew) :=
              ⟨ld16 D6.out.drew hE.out.addr, loadA (W := V6.drew) hE.out (hgr j e he'.out)⟩
            have heq : ∀ V : World, (Op.equalIn 10000 23 (.agg (bytesV e.1)) (.agg (bytesV e.1))).run Try.prog V = .ok true V := fun V => by have := eql23 V hE.out.addr hE.out.addr; rwa [beq_self_eq_true] at this
            have hgd := guard23
            have T7 := hidd (T6.out.to (Below.refl _ _).drew)
            clear hgr T6 D6 hpp
            refine wp_region_held_drew (S := (fun V => (loadVar 23 ⟨d, 0, none⟩).run Try.prog V = .ok (.agg (bytesV e.1)) V ∧ (loadVar 23 ⟨g, j * 18, none⟩).run Try.prog V = .ok (.agg (bytesV e.1)) V)) (by kernel_rfl) S5.out (fun hHeld => ?_)
            refine wpAnyH_take (i := 0) (v := ?_) rfl (by kernel_rfl) (by kernel_rfl) (by kernel_rfl) (fun _ _ _ h => h) (Or.inl ⟨by kernel_rfl, ?_⟩) hHeld ?_
            rotate_left
            · intro wh hSw
              go_simp
              try with_reducible rfl
            try simp only [Act.put, List.getElem_toArray, List.getElem_cons_zero, List.getElem_cons_succ, List.setIfInBounds_toArray, List.set_cons_zero, List.set_cons_succ]
            refine wpAnyH_take (i := 1) (v := ?_) rfl (by kernel_rfl) (by kernel_rfl) (by kernel_rfl) (fun _ _ _ h => h) (Or.inl ⟨by kernel_rfl, ?_⟩) hHeld ?_
            rotate_left
            · intro wh hSw
              go_simp
              try with_reducible rfl
            try simp only [Act.put, List.getElem_toArray, List.getElem_cons_zero, List.getElem_cons_succ, List.setIfInBounds_toArray, List.set_cons_zero, List.set_cons_succ]
            refine wpAnyH_take (i := 2) (v := ?_) rfl (by kernel_rfl) (by kernel_rfl) (by kernel_rfl) (fun _ _ _ h => h) (Or.inl ⟨by kernel_rfl, ?_⟩) hHeld ?_
            rotate_left
            · intro wh hSw
              go_simp
              try with_reducible rfl
            try simp only [Act.put, List.getElem_toArray, List.getElem_cons_zero, List.getElem_cons_succ, List.setIfInBounds_toArray, List.set_cons_zero, List.set_cons_succ]
            refine wpAnyH_take (i := 3) rfl (by kernel_rfl) (by kernel_rfl) (by kernel_rfl) (fun _ _ _ h => h) (yieldsIf_load_want (by kernel_rfl) 23 _ rfl _ rfl _ (fun wh hSw => hSw.1)) hHeld ?_
            try simp only [Act.put, List.getElem_toArray, List.getElem_cons_zero, List.getElem_cons_succ, List.setIfInBounds_toArray, List.set_cons_zero, List.set_cons_succ]
            refine wpAnyH_take (i := 4) (v := ?_) rfl (by kernel_rfl) (by kernel_rfl) (by kernel_rfl) (fun _ _ _ h => h) (Or.inl ⟨by kernel_rfl, ?_⟩) hHeld ?_
            rotate_left
            · intro wh hSw
              go_simp
              try with_reducible rfl
            try simp only [Act.put, List.getElem_toArray, List.getElem_cons_zero, List.getElem_cons_succ, List.setIfInBounds_toArray, List.set_cons_zero, List.set_cons_succ]
            refine wpAnyH_take (i := 5) (v := ?_) rfl (by kernel_rfl) (by kernel_rfl) (by kernel_rfl) (fun _ _ _ h => h) (Or.inl ⟨by kernel_rfl, ?_⟩) hHeld ?_
            rotate_left
            · intro wh hSw
              go_simp
              try with_reducible rfl
            try simp only [Act.put, List.getElem_toArray, List.getElem_cons_zero, List.getElem_cons_succ, List.setIfInBounds_toArray, List.set_cons_zero, List.set_cons_succ]
            refine wpAnyH_take (i := 6) (v := ?_) rfl (by kernel_rfl) (by kernel_rfl) (by kernel_rfl) (fun _ _ _ h => h) (Or.inl ⟨by kernel_rfl, ?_⟩) hHeld ?_
            rotate_left
            · intro wh hSw
              go_simp
              try with_reducible rfl
            try simp only [Act.put, List.getElem_toArray, List.getElem_cons_zero, List.getElem_cons_succ, List.setIfInBounds_toArray, List.set_cons_zero, List.set_cons_succ]
            refine wpAnyH_take (i := 7) (v := ?_) rfl (by kernel_rfl) (by kernel_rfl) (by kernel_rfl) (fun _ _ _ h => h) (Or.inl ⟨by kernel_rfl, ?_⟩) hHeld ?_
            rotate_left
            · intro wh hSw
              go_simp
              try with_reducible rfl
            try simp only [Act.put, List.getElem_toArray, List.getElem_cons_zero, List.getElem_cons_succ, List.setIfInBounds_toArray, List.set_cons_zero, List.set_cons_succ]
            refine wpAnyH_take (i := 8) rfl (by kernel_rfl) (by kernel_rfl) (by kernel_rfl) (fun _ _ _ h => h) (yieldsIf_load_want (by kernel_rfl) 23 _ rfl _ rfl _ (fun wh hSw => hSw.2)) hHeld ?_
            try simp only [Act.put, List.getElem_toArray, List.getElem_cons_zero, List.getElem_cons_succ, List.setIfInBounds_toArray, List.set_cons_zero, List.set_cons_succ]
            refine wpAnyH_take (i := 9) (v := ?_) rfl (by kernel_rfl) (by kernel_rfl) (by kernel_rfl) (fun _ _ _ h => h) (Or.inl ⟨by kernel_rfl, ?_⟩) hHeld ?_
            rotate_left
            · intro wh hSw
              go_simp
              try with_reducible rfl
            try simp only [Act.put, List.getElem_toArray, List.getElem_cons_zero, List.getElem_cons_succ, List.setIfInBounds_toArray, List.set_cons_zero, List.set_cons_succ]
            refine wpAnyH_take (i := 10) (v := ?_) rfl (by kernel_rfl) (by kernel_rfl) (by kernel_rfl) (fun _ _ _ h => h) (Or.inl ⟨by kernel_rfl, ?_⟩) hHeld ?_
            rotate_left
            · intro wh hSw
              go_simp
              try with_reducible rfl
            try simp only [Act.put, List.getElem_toArray, List.getElem_cons_zero, List.getElem_cons_succ, List.setIfInBounds_toArray, List.set_cons_zero, List.set_cons_succ]
            refine wpAnyH_done (by kernel_rfl) ?_ _
            clear hHeld
            go_wp2
            go_roundw
            case rel => exact ⟨j + 1, _, _, by omega, by go_num, T7.out, hnn.out⟩
            case measure => simp [intOf]; omega
          · have hjn' : j = L.length := by omega
            subst hjn'
            go_wp2
            go_roundw
            case rel => exact ⟨r + 1, last, had, by omega, by go_num, T4.out, by rw [hN4.out, hLl'.out, Nat.mod_self]⟩
            case measure => simp [intOf]; omega
      · clear hN3
        go_wp2_with fail
        obtain ⟨wo, rfl⟩ : ∃ wo : World, wo = wr := ⟨_, rfl⟩
        go_loopw [11, 12] (fun th i wr => ∃ j : Nat, j ≤ L.length ∧ i = .int .i64 j ∧ th = .bool ((L.take j).any (fun e => e.1 == gd)) ∧ Tu w wr B bg lo v1 es L A gd last had) (fun _ i _ => L.length - (intOf i).toNat)
        case atStart => exact ⟨0, Nat.zero_le _, rfl, rfl, T3.out⟩
        case round =>
          obtain ⟨j, hj, rfl, rfl, hT⟩ := hrel
          have T4 := hidd hT
          clear hT T3
          by_cases hjn : j < L.length
          · obtain ⟨e, he⟩ : ∃ e, L[j]? = some e := ⟨_, List.getElem?_eq_getElem hjn⟩
            have hE := hidd (hLok.out e (List.mem_of_getElem? he))
            have hjz : (j : Int) < (L.length : Int) := by omega
            obtain ⟨g, hA, hgr⟩ := T4.out.g.at_ (by omega)
            subst hA
            have S5 : Hid ((loadVar 23 ⟨g, j * 18, none⟩).run Try.prog wr.drew = .ok (.agg (bytesV e.1)) wr.drew ∧ (loadVar 23 ⟨bg, 0, none⟩).run Try.prog wr.drew = .ok (.agg (bytesV gd)) wr.drew) :=
              ⟨loadA (W := wr.drew) hE.out (hgr j e he), ld16 (T4.out.k.get 0 rfl).drew hG.out⟩
            have heq := fun V => eql23 V hE.out.addr hG.out
            have hgd := guard23
            have T7 := hidd (T4.out.to (Below.refl _ _).drew)
            have hs := hidd (any_snoc (p := fun e : E => e.1 == gd) he)
            clear hgr he T4
            cases hb : (L.take j).any (fun e => e.1 == gd)
            · rw [hb] at hs
              obtain ⟨q, hq⟩ : ∃ q, (e.1 == gd) = q := ⟨_, rfl⟩
              rw [hq] at hs heq
              clear hq
              go_wp2
              refine wp_region_held_drew (S := (fun V => (loadVar 23 ⟨g, j * 18, none⟩).run Try.prog V = .ok (.agg (bytesV e.1)) V ∧ (loadVar 23 ⟨bg, 0, none⟩).run Try.prog V = .ok (.agg (bytesV gd)) V)) (by kernel_rfl) S5.out (fun hHeld => ?_)
              refine wpAnyH_take (i := 0) (v := ?_) rfl (by kernel_rfl) (by kernel_rfl) (by kernel_rfl) (fun _ _ _ h => h) (Or.inl ⟨by kernel_rfl, ?_⟩) hHeld ?_
              rotate_left
              · intro wh hSw
                go_simp
                try with_reducible rfl
              try simp only [Act.put, List.getElem_toArray, List.getElem_cons_zero, List.getElem_cons_succ, List.setIfInBounds_toArray, List.set_cons_zero, List.set_cons_succ]
              refine wpAnyH_take (i := 1) (v := ?_) rfl (by kernel_rfl) (by kernel_rfl) (by kernel_rfl) (fun _ _ _ h => h) (Or.inl ⟨by kernel_rfl, ?_⟩) hHeld ?_
              rotate_left
              · intro wh hSw
                go_simp
                try with_reducible rfl
              try simp only [Act.put, List.getElem_toArray, List.getElem_cons_zero, List.getElem_cons_succ, List.setIfInBounds_toArray, List.set_cons_zero, List.set_cons_succ]
              refine wpAnyH_take (i := 2) (v := ?_) rfl (by kernel_rfl) (by kernel_rfl) (by kernel_rfl) (fun _ _ _ h => h) (Or.inl ⟨by kernel_rfl, ?_⟩) hHeld ?_
              rotate_left
              · intro wh hSw
                go_simp
                try with_reducible rfl
              try simp only [Act.put, List.getElem_toArray, List.getElem_cons_zero, List.getElem_cons_succ, List.setIfInBounds_toArray, List.set_cons_zero, List.set_cons_succ]
              refine wpAnyH_take (i := 3) (v := ?_) rfl (by kernel_rfl) (by kernel_rfl) (by kernel_rfl) (fun _ _ _ h => h) (Or.inl ⟨by kernel_rfl, ?_⟩) hHeld ?_
              rotate_left
              · intro wh hSw
                go_simp
                try with_reducible rfl
              try simp only [Act.put, List.getElem_toArray, List.getElem_cons_zero, List.getElem_cons_succ, List.setIfInBounds_toArray, List.set_cons_zero, List.set_cons_succ]
              refine wpAnyH_take (i := 4) (v := ?_) rfl (by kernel_rfl) (by kernel_rfl) (by kernel_rfl) (fun _ _ _ h => h) (Or.inl ⟨by kernel_rfl, ?_⟩) hHeld ?_
              rotate_left
              · intro wh hSw
                go_simp
                try with_reducible rfl
              try simp only [Act.put, List.getElem_toArray, List.getElem_cons_zero, List.getElem_cons_succ, List.setIfInBounds_toArray, List.set_cons_zero, List.set_cons_succ]
              refine wpAnyH_take (i := 5) (v := ?_) rfl (by kernel_rfl) (by kernel_rfl) (by kernel_rfl) (fun _ _ _ h => h) (Or.inl ⟨by kernel_rfl, ?_⟩) hHeld ?_
              rotate_left
              · intro wh hSw
                go_simp
                try with_reducible rfl
              try simp only [Act.put, List.getElem_toArray, List.getElem_cons_zero, List.getElem_cons_succ, List.setIfInBounds_toArray, List.set_cons_zero, List.set_cons_succ]
              refine wpAnyH_take (i := 6) rfl (by kernel_rfl) (by kernel_rfl) (by kernel_rfl) (fun _ _ _ h => h) (yieldsIf_load_want (by kernel_rfl) 23 _ rfl _ rfl _ (fun wh hSw => hSw.1)) hHeld ?_
              try simp only [Act.put, List.getElem_toArray, List.getElem_cons_zero, List.getElem_cons_succ, List.setIfInBounds_toArray, List.set_cons_zero, List.set_cons_succ]
              refine wpAnyH_take (i := 7) rfl (by kernel_rfl) (by kernel_rfl) (by kernel_rfl) (fun _ _ _ h => h) (yieldsIf_load_want (by kernel_rfl) 23 _ rfl _ rfl _ (fun wh hSw => hSw.2)) hHeld ?_
              try simp only [Act.put, List.getElem_toArray, List.getElem_cons_zero, List.getElem_cons_succ, List.setIfInBounds_toArray, List.set_cons_zero, List.set_cons_succ]
              refine wpAnyH_take (i := 8) (v := ?_) rfl (by kernel_rfl) (by kernel_rfl) (by kernel_rfl) (fun _ _ _ h => h) (Or.inl ⟨by kernel_rfl, ?_⟩) hHeld ?_
              rotate_left
              · intro wh hSw
                go_simp
                try with_reducible rfl
              try simp only [Act.put, List.getElem_toArray, List.getElem_cons_zero, List.getElem_cons_succ, List.setIfInBounds_toArray, List.set_cons_zero, List.set_cons_succ]
              refine wpAnyH_take (i := 9) (v := ?_) rfl (by kernel_rfl) (by kernel_rfl) (by kernel_rfl) (fun _ _ _ h => h) (Or.inl ⟨by kernel_rfl, ?_⟩) hHeld ?_
              rotate_left
              · intro wh hSw
                go_simp
                try with_reducible rfl
              try simp only [Act.put, List.getElem_toArray, List.getElem_cons_zero, List.getElem_cons_succ, List.setIfInBounds_toArray, List.set_cons_zero, List.set_cons_succ]
              refine wpAnyH_ready (rs := [10]) (by kernel_rfl) (by simp) (AllReadyH.cons rfl (fun K hK => ?_) AllReadyH.nil)
              clear hHeld
              go_simp
              refine hK.out _ _ S5.out (fun hHeld => ?_)
              clear hK K
              try simp only [Act.put, List.getElem_toArray, List.getElem_cons_zero, List.getElem_cons_succ, List.setIfInBounds_toArray, List.set_cons_zero, List.set_cons_succ]
              refine wpAnyH_done (by kernel_rfl) ?_ _
              clear hHeld
              go_wp2
              go_roundw
              case rel => exact ⟨j + 1, by omega, by go_num, by rw [hs.out, Bool.false_or], T7.out⟩
              case measure => simp [intOf]; omega
            · rw [hb] at hs
              go_wp2
              refine wp_region_held_drew (S := (fun V => (loadVar 23 ⟨g, j * 18, none⟩).run Try.prog V = .ok (.agg (bytesV e.1)) V ∧ (loadVar 23 ⟨bg, 0, none⟩).run Try.prog V = .ok (.agg (bytesV gd)) V)) (by kernel_rfl) S5.out (fun hHeld => ?_)
              refine wpAnyH_take (i := 0) (v := ?_) rfl (by kernel_rfl) (by kernel_rfl) (by kernel_rfl) (fun _ _ _ h => h) (Or.inl ⟨by kernel_rfl, ?_⟩) hHeld ?_
              rotate_left
              · intro wh hSw
                go_simp
                try with_reducible rfl
              try simp only [Act.put, List.getElem_toArray, List.getElem_cons_zero, List.getElem_cons_succ, List.setIfInBounds_toArray, List.set_cons_zero, List.set_cons_succ]
              refine wpAnyH_take (i := 1) (v := ?_) rfl (by kernel_rfl) (by kernel_rfl) (by kernel_rfl) (fun _ _ _ h => h) (Or.inl ⟨by kernel_rfl, ?_⟩) hHeld ?_
              rotate_left
              · intro wh hSw
                go_simp
                try with_reducible rfl
              try simp only [Act.put, List.getElem_toArray, List.getElem_cons_zero, List.getElem_cons_succ, List.setIfInBounds_toArray, List.set_cons_zero, List.set_cons_succ]
              refine wpAnyH_take (i := 2) rfl (by kernel_rfl) (by kernel_rfl) (by kernel_rfl) (fun _ _ _ h => h) (Or.inr ⟨by kernel_rfl, rfl⟩) hHeld ?_
              try simp only [Act.put, List.getElem_toArray, List.getElem_cons_zero, List.getElem_cons_succ, List.setIfInBounds_toArray, List.set_cons_zero, List.set_cons_succ]
              refine wpAnyH_take (i := 3) rfl (by kernel_rfl) (by kernel_rfl) (by kernel_rfl) (fun _ _ _ h => h) (Or.inr ⟨by kernel_rfl, rfl⟩) hHeld ?_
              try simp only [Act.put, List.getElem_toArray, List.getElem_cons_zero, List.getElem_cons_succ, List.setIfInBounds_toArray, List.set_cons_zero, List.set_cons_succ]
              refine wpAnyH_take (i := 4) rfl (by kernel_rfl) (by kernel_rfl) (by kernel_rfl) (fun _ _ _ h => h) (Or.inr ⟨by kernel_rfl, rfl⟩) hHeld ?_
              try simp only [Act.put, List.getElem_toArray, List.getElem_cons_zero, List.getElem_cons_succ, List.setIfInBounds_toArray, List.set_cons_zero, List.set_cons_succ]
              refine wpAnyH_take (i := 5) rfl (by kernel_rfl) (by kernel_rfl) (by kernel_rfl) (fun _ _ _ h => h) (Or.inr ⟨by kernel_rfl, rfl⟩) hHeld ?_
              try simp only [Act.put, List.getElem_toArray, List.getElem_cons_zero, List.getElem_cons_succ, List.setIfInBounds_toArray, List.set_cons_zero, List.set_cons_succ]
              refine wpAnyH_take (i := 6) rfl (by kernel_rfl) (by kernel_rfl) (by kernel_rfl) (fun _ _ _ h => h) (Or.inr ⟨by kernel_rfl, rfl⟩) hHeld ?_
              try simp only [Act.put, List.getElem_toArray, List.getElem_cons_zero, List.getElem_cons_succ, List.setIfInBounds_toArray, List.set_cons_zero, List.set_cons_succ]
              refine wpAnyH_take (i := 7) rfl (by kernel_rfl) (by kernel_rfl) (by kernel_rfl) (fun _ _ _ h => h) (Or.inr ⟨by kernel_rfl, rfl⟩) hHeld ?_
              try simp only [Act.put, List.getElem_toArray, List.getElem_cons_zero, List.getElem_cons_succ, List.setIfInBounds_toArray, List.set_cons_zero, List.set_cons_succ]
              refine wpAnyH_take (i := 8) rfl (by kernel_rfl) (by kernel_rfl) (by kernel_rfl) (fun _ _ _ h => h) (Or.inr ⟨by kernel_rfl, rfl⟩) hHeld ?_
              try simp only [Act.put, List.getElem_toArray, List.getElem_cons_zero, List.getElem_cons_succ, List.setIfInBounds_toArray, List.set_cons_zero, List.set_cons_succ]
              refine wpAnyH_take (i := 9) (v := ?_) rfl (by kernel_rfl) (by kernel_rfl) (by kernel_rfl) (fun _ _ _ h => h) (Or.inl ⟨by kernel_rfl, ?_⟩) hHeld ?_
              rotate_left
              · intro wh hSw
                go_simp
                try with_reducible rfl
              try simp only [Act.put, List.getElem_toArray, List.getElem_cons_zero, List.getElem_cons_succ, List.setIfInBounds_toArray, List.set_cons_zero, List.set_cons_succ]
              refine wpAnyH_ready (rs := [10]) (by kernel_rfl) (by simp) (AllReadyH.cons rfl (fun K hK => ?_) AllReadyH.nil)
              clear hHeld
              go_simp
              refine hK.out _ _ S5.out (fun hHeld => ?_)
              clear hK K
              try simp only [Act.put, List.getElem_toArray, List.getElem_cons_zero, List.getElem_cons_succ, List.setIfInBounds_toArray, List.set_cons_zero, List.set_cons_succ]
              refine wpAnyH_done (by kernel_rfl) ?_ _
              clear hHeld
              go_wp2
              go_roundw
              case rel => exact ⟨j + 1, by omega, by go_num, by rw [hs.out, Bool.true_or], T7.out⟩
              case measure => simp [intOf]; omega
          · have hjn' : j = L.length := by omega
            subst hjn'
            rw [List.take_of_length_le (Nat.le_refl _)]
            have lg := hidd (ld16 (T4.out.k.get 0 rfl) hG.out)
            obtain ⟨d, hd⟩ : ∃ d, wr.heap.size = d := ⟨_, rfl⟩
            have b5 := (Below.refl d wr).alloc (by omega) (.cells (bytesV gd) 23)
            have T5 := hidd (T4.out.to (by rw [hd]; exact b5))
            have D5 : Hid (Blk (wr.alloc (.cells (bytesV gd) 23)) d 23 (bytesV gd)) := by rw [← hd]; exact Blk.new _ _ _
            clear T4 b5
            go_wp2_with (first
              | (with_reducible show wpList _ _ _ (⟨_, Op.load 23 _, _, _, _, _⟩ :: _) _ _; refine wpList_load_want (by kernel_rfl) 23 _ rfl _ rfl _ (by with_reducible exact lg.out) ?_)
              | (with_reducible show wpList _ _ _ (⟨_, Op.buildSlice 26 _ _, _, _, _, _⟩ :: _) _ _; refine wpList_bs1 rfl (.tmp 66) slA (by decide) rfl (bytesV gd) rfl (by rw [bytesV_size, hG.out.len]) ?_
                 rw [hd]
                 generalize wr.alloc (.cells (bytesV gd) 23) = V5 at T5 D5 ⊢
                 clear lg))
            refine (pick_any V5 B v1 es _ _ T5.out.k.rl _ _ _ [gd] (isKA_one D5.out hG.out)).mono ?_
            rintro e6 V6 ⟨rfl, r6, f6⟩
            have T6 := hidd (T5.out.pick r6 f6)
            have hpb := hidd (hp1.out last had)
            have hA1 := hidd (hpa.out [gd] last had)
            have hemp := hidd (fun (h : es = []) => (show (pickS [gd] es last had).2.1 = false from by rw [pickS, if_pos h]))
            obtain ⟨a, ha⟩ : ∃ a, (pickS [gd] es last had).1 = a := ⟨_, rfl⟩
            obtain ⟨q, hq⟩ : ∃ q, (pickS [gd] es last had).2.1 = q := ⟨_, rfl⟩
            rw [ha] at hpb hA1 ⊢
            rw [hq] at hpb hemp ⊢
            obtain ⟨d2, hd2⟩ : ∃ d, V6.heap.size = d := ⟨_, rfl⟩
            have b7 := (Below.refl d2 V6).alloc (by omega) (.cells (bytesV a) 23)
            have T7 := hidd (T6.out.to (by rw [hd2]; exact b7))
            have D7 : Hid (Blk (V6.alloc (.cells (bytesV a) 23)) d2 23 (bytesV a)) := by rw [← hd2]; exact Blk.new _ _ _
            have l7 := hidd (ld16 D7.out hA1.out)
            have l8 := hidd (ld16 (T7.out.k.get 0 rfl) hG.out)
            have hq3 : Hid ((q = false ∧ L.length = 0) ∨ (q = true ∧ 0 < L.length)) := by
              by_cases he : es = []
              · exact .inl ⟨hemp.out he, by rw [hLl'.out, he]; rfl⟩
              · exact .inr ⟨(hpb.out he).1, by rw [hLl'.out]; exact List.length_pos_iff.2 he⟩
            obtain ⟨th, hth⟩ : ∃ th, L.any (fun e => e.1 == gd) = th := ⟨_, rfl⟩
            have hag := hidd (show th = true → a = gd from fun h => by
              refine (hpb.out ?_).2 (by rw [hth]; exact h)
              intro he
              have : L = [] := List.eq_nil_of_length_eq_zero (by rw [hLl'.out, he]; rfl)
              rw [this] at hth
              rw [← hth] at h
              cases h)
            have hne := hidd (show th = true → L ≠ [] from fun h e => by rw [e] at hth; rw [← hth] at h; cases h)
            rw [hth]
            have heq := fun V => eql23 V hA1.out hG.out
            have hgd := guard23
            clear r6 f6 T5 D5 T6 b7 ha hq hth D7 hpb hemp
            cases th with
            | false =>
              clear heq l7 l8 hgd
              rcases hq3.out with ⟨rfl, hl0⟩ | ⟨rfl, hl0⟩
              all_goals clear hq3
              all_goals go_wp2_with (first
                | (go_at_call 13; refine (lives_any _).mono ?_; rintro e w' ⟨rfl, hbel⟩)
                | (with_reducible show wpList _ _ _ (⟨_, Op.store 23 (.tmp 13) _, _, _, _, _⟩ :: _) _ _
                   refine wpList_store_new rfl rfl 23 (.tmp 13) _ rfl _ _ (bytesV a) rfl hd2.symm rfl (size_a hA1.out) (Eq.trans (b := 16) (by kernel_rfl) (by rw [bytesV_size, hA1.out.len])) (ones_b a) ?_
                   generalize V6.alloc (.cells (bytesV a) 23) = V7 at T7 ⊢))
              all_goals go_ret
              all_goals exact ⟨rfl, by rw [← hbg]; exact T7.out.k.bel.trans (hbel.mono T7.out.k.bel.size)⟩
            | true =>
              have hag' := hag.out rfl
              have h1 : (a == gd) = true := by rw [hag']; exact beq_self_eq_true gd
              rw [h1] at heq
              have hl0 : q = true ∧ 0 < L.length := by
                rcases hq3.out with ⟨h1, h2⟩ | h1
                · have : L = [] := List.eq_nil_of_length_eq_zero h2
                  exact absurd (hne.out rfl) (by rw [this]; simp)
                · exact h1
              obtain ⟨rfl, hl0⟩ := hl0
              clear hag' h1 hq3
              go_wp2_with (first
                | (go_at_call 13; refine (lives_any _).mono ?_; rintro e w' ⟨rfl, hbel⟩)
                | (with_reducible show wpList _ _ _ (⟨_, Op.load 23 _, _, _, _, _⟩ :: _) _ _; refine wpList_load_want (by kernel_rfl) 23 _ rfl _ rfl _ (by with_reducible first | exact l7.out | exact l8.out) ?_)
                | (with_reducible show wpList _ _ _ (⟨_, Op.store 23 (.tmp 13) _, _, _, _, _⟩ :: _) _ _
                   refine wpList_store_new rfl rfl 23 (.tmp 13) _ rfl _ _ (bytesV a) rfl hd2.symm rfl (size_a hA1.out) (Eq.trans (b := 16) (by kernel_rfl) (by rw [bytesV_size, hA1.out.len])) (ones_b a) ?_
                   generalize V6.alloc (.cells (bytesV a) 23) = V7 at T7 l7 l8 ⊢))
              go_ret
              exact ⟨rfl, by rw [← hbg]; exact T7.out.k.bel.trans (hbel.mono T7.out.k.bel.size)⟩

set_option maxRecDepth 100000 in
theorem liftedRoutersTurn (os : Os) (started : os.Started) (H : Type) (enc : TypeId × Value → H) :
    ReturnsInHanded {} Try.checked os 6 .any (Rows.routersTurnSpec.pre6 enc Try.prog Try.f6 Rows.routersTurnRow.domain false) (Rows.routersTurnSpec.post enc Try.prog Try.f6 false true false false) := by
  refine returnsInHanded_of_change_sized (C := Try.checked) own started (by kernel_rfl) Try.func6
    (ChangeSpec.witness6 (enc := enc) (C := Try.checked) false ⟨#[], #[.slice none 0 0, .agg #[.int .u8 0, .int .u8 0, .int .u8 0, .int .u8 0, .int .u8 0, .int .u8 0, .int .u8 0, .int .u8 0, .int .u8 0, .int .u8 0, .int .u8 0, .int .u8 0, .int .u8 0, .int .u8 0, .int .u8 0, .int .u8 0]], []⟩ 8 (by kernel_rfl) (by kernel_rfl) (by kernel_rfl) (by kernel_rfl)) ?_
  intro W base args ds gs before hval0 hW hcnd hsz0 _
  have hval : ∀ (j : Nat) t v, Try.f6.params[j]? = some t → args[j]? = some v → Value.okWide Try.prog W .any base t v := hval0
  have hW' := hW
  obtain ⟨p, q, hA0, hV, rfl, hfz, hnd⟩ := hW
  have hA : DataW.TrodAll enc Try.prog W 0 (fun _ => true) true Try.f6.params.toList args.toList ds p := hA0
  have hsz : (DataW.weightsEach Try.prog (Try.f6.params.toList ++ Rows.routersTurnSpec.plain.varTypes Try.prog) (ds ++ gs)).all (· ≤ reachBytes) = true := hsz0
  rw [Try.params6] at hA hval hsz
  obtain ⟨v0, vs0, d0, ds0, p0, q0, hargs, rfl, rfl, h0, r0⟩ := trodAll_cons hA
  obtain ⟨v1, vs1, d1, ds1, p1, q1, rfl, rfl, rfl, h1, r1⟩ := trodAll_cons r0
  obtain ⟨rfl, rfl, rfl⟩ := trodAll_nil r1
  obtain rfl : args = #[v0, v1] := by cases args; simp_all
  obtain ⟨rfl, rfl⟩ := trodVars_none hV
  have k0 := h0
  have lt0 : ∀ x ∈ p0, x.block < W.heap.size := by obtain ⟨m, hm⟩ := k0; exact DataW.trod_lt m _ _ _ hm
  have fit0 : Fit Try.prog 44 d0 := fun m hm => by simpa using List.all_eq_true.1 hsz _ (DataW.weights_mem_each (j := 0) (t := 44) rfl rfl m hm)
  obtain ⟨A0, n0, c0, z0, ev0, w0⟩ := open_acts (hval 0 44 v0 rfl rfl) h0 fit0
  subst ev0
  have k1 := h1
  have lt1 : ∀ x ∈ p1, x.block < W.heap.size := by obtain ⟨m, hm⟩ := k1; exact DataW.trod_lt m _ _ _ hm
  have fit1 : Fit Try.prog 23 d1 := fun m hm => by simpa using List.all_eq_true.1 hsz _ (DataW.weights_mem_each (j := 1) (t := 23) rfl rfl m hm)
  obtain ⟨l1, ev1, w1⟩ := open_addrF (hval 1 23 v1 rfl rfl) h1 fit1
  subst ev1
  clear hA0 hval0
  refine (walkRoutersTurn A0 n0 c0 z0 l1 W w0 w1).mono fun e W' ⟨he, bel⟩ => ?_
  subst he
  exact ⟨_, rfl, _, _, _, [], _, [], hW', trodAll_mk1 (shut_bool Try.underlying4 _), (trodAll_cons_mk (Below.trod laidOut (by kernel_rfl) (of_decide_eq_true (by kernel_rfl)) k0 bel lt0) (trodAll_cons_mk (Below.trod laidOut (by kernel_rfl) (of_decide_eq_true (by kernel_rfl)) k1 bel lt1) trodAll_mk0)), rfl, bel.frame _, fun h => by cases h⟩

/-- THE STATEMENT: 'RoutersTurn'. -/
theorem routersTurn_holds : Rows.RoutersTurnSaid :=
  OpenClaim.holds_of_wide 6 Try.f6 rfl rfl rfl rfl rfl rfl rfl ⟨rfl, rfl, rfl, rfl, rfl⟩ rfl rfl rfl rfl rfl (by kernel_rfl) Try.func6 (by kernel_rfl)
    (of_decide_eq_true (by kernel_rfl)) (by unfold Func.isWrapper; first | (rw [if_pos (by decide +kernel)]; kernel_rfl) | (rw [if_neg (by decide +kernel)]; exact ⟨rfl, rfl⟩))
    (fun os started H enc _ => liftedRoutersTurn os started H enc)

end Go.Proofs.Ytnchjbgfmkmbaaa
