/- All of them, in order, as a list of their own, walked once. No condition. -/
import Derived.Test.YtajlgglknianlaaDmPut
namespace Go.Proofs.Ytajlgglknianlaa.Dm
open Go.Proofs.Ytajlgglknianlaa Go.ChangeShapes Go.WideShapes Go.ChangeAt Go.RowKit Go.Deep
set_option linter.unusedVariables false
set_option linter.unusedSimpArgs false

theorem there_yes (w : World) (B : Nat) (h : w.cell? ⟨B, 0, none⟩ = some (.int .i64 4)) :
    Calls Try.prog 20 #[.pointer (some ⟨B, 0, none⟩)] w fun e w' => e = .returned (.bool true) ∧ w' = w := by
  go_enter Try.func20, Try.ntmps20
  go_wp2
  go_ret
  exact ⟨rfl, rfl⟩

theorem clip_any (w : World) (A : Option Addr) (n c : Nat) (h : n ≤ c) (hc : c ≤ maxLen) : Calls Try.prog 27 #[.slice A n c] w fun e w' => e = .returned (.slice A n n) ∧ w' = w := by
  unfold maxLen at hc
  go_enter Try.func27, Try.ntmps27
  go_wp2
  go_ret
  exact ⟨rfl, rfl⟩

theorem slTo : SlTy Try.prog 43 46 2 24 := .mk_ (z := .agg #[.string .empty, .int .u64 0]) Try.underlying43 (by kernel_rfl) rfl (by omega)

/-- What 'all' gives: a list of the call's own. -/
structure Given (w W : World) (v : Value) (es : List E) : Prop where
  bel : Below w.heap.size w W
  out : ∃ A, v = .slice A es.length es.length ∧ (0 < es.length → ∃ g cur, A = some ⟨g, 0, none⟩ ∧ w.heap.size ≤ g ∧ Blk W g 46 cur ∧ es.length * 2 ≤ cur.size ∧ cur.toList.take (es.length * 2) = flat es)

set_option maxRecDepth 100000 in
set_option maxHeartbeats 1000000 in
theorem all_any (w : World) (B : Nat) (A : Option Addr) (n c : Nat) (es : List E) (h0 : w.cell? ⟨B, 0, none⟩ = some (.int .i64 4)) (h : IsS w B (.slice A n c)) (hk : IsK w w.heap.size A n c es) (hroom : n * 24 ≤ 140737488355328) :
    Calls Try.prog 14 #[.pointer (some ⟨B, 0, none⟩)] w fun e w' => ∃ v, e = .returned v ∧ Given w w' v es := by
  have hcm := hk.rd.cmax
  have hcn := hk.rd.cap
  have hl := hk.len
  have c1 := h.row
  have hk' := hidd hk
  have hT := hidd (there_yes w B h0)
  unfold maxLen at hcm
  clear h hk h0
  go_enter Try.func14, Try.ntmps14
  go_wp2_with (go_at_call 20; refine Calls.mono hT.out ?_; rintro e w2 ⟨rfl, rfl⟩)
  clear c1
  go_loopw [2, 13] (fun v i wr => ∃ j : Nat, j ≤ n ∧ i = .int .i64 j ∧ Below w2.heap.size w2 wr ∧ wr.ownsRow w2.heap.size 46 2 v j (flat (es.take j))) (fun _ i _ => n - (intOf i).toNat)
  case atStart => exact ⟨0, Nat.zero_le _, rfl, Below.refl _ w2, World.ownsRow_nil _ _ _ _⟩
  case round =>
    obtain ⟨j, hj, rfl, hb, hv⟩ := hrel
    by_cases hjn : j < n
    · obtain ⟨b, off, rfl, hblt, hr⟩ := (hk'.out.below hb).range isEnc (by omega)
      obtain ⟨s, Ss⟩ : ∃ s, wr.heap.size = s := ⟨_, rfl⟩
      obtain ⟨e, he⟩ : ∃ e, es[j]? = some e := ⟨es[j]'(by omega), List.getElem?_eq_getElem _⟩
      have hE := hidd (hk'.out.ok e (List.mem_of_getElem? he))
      have l0 := hidd (loadE hE.out (hr j e he))
      have hsn : flat (es.take (j + 1)) = flat (es.take j) ++ enc e := by rw [List.take_add_one, he, flat, flat_append]; simp [flatOf]
      obtain ⟨Ao, co, rfl⟩ := slice_of_own hv
      have hb' := hidd hb
      have hv' := hidd hv
      have hws : w2.heap.size ≤ s := by have := hb.size; omega
      clear hb hr hv
      go_wp2_with (first
        | (with_reducible show wpList _ _ _ (⟨_, Op.load 71 _, _, _, _, _⟩ :: _) _ _; refine wpList_load_want (by kernel_rfl) 71 _ rfl _ rfl _ (by with_reducible exact l0.out) ?_)
        | (with_reducible show wpList _ _ _ (⟨_, Op.store 71 (.tmp 4) _, _, _, _, _⟩ :: _) _ _
           refine wpList_store_new rfl rfl 71 (.tmp 4) _ rfl _ _ (encV e) rfl Ss.symm rfl (size_enc hE.out) (Eq.trans (b := 2) (by kernel_rfl) (encV_size hE.out).symm) (ones_enc e) ?_
           have B1 := (Below.refl s wr).alloc (by omega) (.cells (encV e) 71)
           have b1 := hidd (hb'.out.trans (B1.mono hws))
           have o1 := hidd (own_al hv'.out (.cells (encV e) 71))
           have K1 : Hid (Blk (wr.alloc (.cells (encV e) 71)) s 71 (encV e)) := by rw [← Ss]; exact Blk.new wr 71 (encV e)
           generalize wr.alloc (.cells (encV e) 71) = V1 at B1 K1 b1 o1 ⊢
           have hws1 := b1.out.size
           have d3 := K1.out.at_ (until_enc hE.out)
           have d4 := K1.out.at_ (at_enc (e := e))
           have b2 := hidd (b1.out.alloc b1.out.size (.cells (encV e) 46))
           have o2 := hidd (own_al o1.out (.cells (encV e) 46))
           have r2 := hidd (rd_one V1 46 2 (encV e) (encV_size hE.out))
           clear l0 B1 hb' hv' K1)
        | (at_builtin
           refine wpList_append_rd (v := .slice Ao j co) (V1.alloc (.cells (encV e) 46)) rfl (.tmp 17) (.tmp 23) slTo rfl rfl o2.out rfl r2.out (by intro u hu; exact isEnc.one e u (by simpa [encV] using hu)) (by unfold maxLen; omega) (by omega) (by simp; omega) ?_
           intro v5 w5 o5 g5 t5 l5
           clear l5 t5
           have b5 := hidd (b2.out.trans (grown_below o2.out g5 (by simp; omega)))
           have o6 : Hid (w5.ownsRow w2.heap.size 46 2 v5 (j + 1) (flat (es.take (j + 1)))) := by rw [hsn]; exact o5
           clear o5 g5 b2 o2 b1 o1 r2))
      go_roundw
      case measure => simp [intOf]; omega
      case rel => exact ⟨j + 1, by omega, by go_num, b5.out, o6.out⟩
    · have hjn' : j = n := by omega
      subst hjn'
      rw [List.take_of_length_le (by omega)] at hv
      obtain ⟨Ao, co, rfl⟩ := slice_of_own hv
      have hq := (Rd.of_own hv).cap
      have hq2 := (Rd.of_own hv).cmax
      have hv' := hidd hv
      have hb' := hidd hb
      clear hv hb
      go_wp2_with (go_at_call 27; refine Calls.mono (clip_any wr Ao j co hq hq2) ?_; rintro e w3 ⟨rfl, rfl⟩)
      go_ret
      refine ⟨_, rfl, hb'.out, Ao, by rw [hl]; rfl, fun hn => ?_⟩
      rcases hv'.out.2 with ⟨_, h'⟩ | ⟨g, cap, cur, h', hbg, hg, hnc, hcm2, hcs, htake⟩
      · omega
      · injection h' with h1 h2 h3
        subst h1
        refine ⟨g, cur, rfl, hbg, hg, ?_, by rw [hl]; exact htake⟩
        rw [hl, hcs]
        exact Nat.mul_le_mul_right _ hnc
end Go.Proofs.Ytajlgglknianlaa.Dm
