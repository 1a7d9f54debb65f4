/- Which is the oldest, and when the next one's time is over, walked once. No condition. -/
import Derived.Test.YtajlgglknianlaaSvFind
import Derived.Test.YtajlgglknianlaaSpec
namespace Go.Proofs.Ytajlgglknianlaa.Sv
open Go.Proofs.Ytajlgglknianlaa Go.ChangeShapes Go.WideShapes Go.ChangeAt Go.RowKit Go.Deep
set_option linter.unusedVariables false
set_option linter.unusedSimpArgs false

theorem until_at {W : World} {b o i : Nat} {e : E} (h : W.rangeAt b (o + i * 17) (enc e)) (he : IsE e) : W.cell? ⟨b, o + i * 17 + 16, none⟩ = some (.int .u64 e.2) := by
  refine h 16 _ ?_
  have := until_enc he
  rwa [encV, List.getElem?_toArray] at this

set_option maxRecDepth 100000 in
theorem oldest_any (w : World) (B : Nat) (A : Option Addr) (n c : Nat) (es : List E) (h : IsS w B (.slice A n c)) (hk : IsK w w.heap.size A n c es) :
    Calls Try.prog 40 #[.pointer (some ⟨B, 0, none⟩)] w fun e w' => e = .returned (.int .i64 (oldAt (es.map (·.2)) es.length : Nat)) ∧ Below w.heap.size w w' := by
  have hcm := hk.rd.cmax
  have hcn := hk.rd.cap
  have hl := hk.len
  have c1 := h.row
  have h' := hidd h
  have hk' := hidd hk
  unfold maxLen at hcm
  clear h hk
  go_enter Try.func40, Try.ntmps40
  go_wp2
  clear c1
  go_loopw [2, 10] (fun a i wr => ∃ j : Nat, j ≤ n ∧ i = .int .i64 j ∧ a = .int .i64 (oldAt (es.map (·.2)) j : Nat) ∧ Below w.heap.size w wr) (fun _ i _ => n - (intOf i).toNat)
  case atStart => exact ⟨0, Nat.zero_le _, rfl, rfl, Below.refl _ w⟩
  case round =>
    obtain ⟨j, hj, rfl, rfl, hb⟩ := hrel
    by_cases hjn : j < n
    · obtain ⟨b, off, rfl, hblt, hr⟩ := (hk'.out.below hb).range isEnc (by omega)
      obtain ⟨s, Ss⟩ : ∃ s, wr.heap.size = s := ⟨_, rfl⟩
      obtain ⟨e, he⟩ : ∃ e, es[j]? = some e := ⟨es[j]'(by omega), List.getElem?_eq_getElem _⟩
      have hE := hidd (hk'.out.ok e (List.mem_of_getElem? he))
      have hol := oldAt_le (es.map (·.2)) j
      obtain ⟨q, hq⟩ : ∃ q, oldAt (es.map (·.2)) j = q := ⟨_, rfl⟩
      rw [hq] at hol ⊢
      obtain ⟨o, ho⟩ : ∃ o, es[q]? = some o := ⟨es[q]'(by omega), List.getElem?_eq_getElem _⟩
      have hO := hidd (hk'.out.ok o (List.mem_of_getElem? ho))
      have l0 := hidd (loadE hE.out (hr j e he))
      have c1 := (h'.out.below hb).row
      have c2 := until_at (hr q o ho) hO.out
      have hst : oldAt (es.map (·.2)) (j + 1) = if e.2 < o.2 then j else q := by rw [oldAt, hq]; simp [he, ho]
      have hb' := hidd hb
      have hqn : q < n := by omega
      have hBs : B < s := by have := h'.out.lt; have := hb.size; omega
      have hws : w.heap.size ≤ s := by have := hb.size; omega
      clear hb hr
      by_cases hlt : e.2 < o.2
      all_goals
        first | rw [if_pos hlt] at hst | rw [if_neg hlt] at hst
        go_wp2_with (first
          | (with_reducible show wpList _ _ _ (⟨_, Op.load 68 _, _, _, _, _⟩ :: _) _ _; refine wpList_load_want (by kernel_rfl) 68 _ rfl _ rfl _ (by with_reducible exact l0.out) ?_)
          | (with_reducible show wpList _ _ _ (⟨_, Op.store 68 (.tmp 4) _, _, _, _, _⟩ :: _) _ _
             refine wpList_store_new rfl rfl 68 (.tmp 4) _ rfl _ _ (encV e) rfl Ss.symm rfl (size_enc hE.out) (Eq.trans (b := 17) (by kernel_rfl) (encV_size hE.out).symm) (ones_enc e) ?_
             have B1 := hidd ((Below.refl s wr).alloc (by omega) (.cells (encV e) 68))
             have K1 : Hid (Blk (wr.alloc (.cells (encV e) 68)) s 68 (encV e)) := by rw [← Ss]; exact Blk.new wr 68 (encV e)
             generalize wr.alloc (.cells (encV e) 68) = V1 at B1 K1 ⊢
             have d1 := (B1.out.cell (p := ⟨B, 1, none⟩) hBs).trans c1
             have d2 := (B1.out.cell (p := ⟨b, off + q * 17 + 16, none⟩) (by show b < s; omega)).trans c2
             have d3 := K1.out.at_ (until_enc hE.out)
             have b1 := hidd (hb'.out.trans (B1.out.mono hws))
             clear l0 c1 c2 K1 B1 hb'))
        go_region
        go_wp2
        go_roundw
        case measure => simp [intOf]; omega
        case rel => exact ⟨j + 1, by omega, by go_num, by rw [hst], b1.out.drew⟩
    · have hjn' : j = n := by omega
      subst hjn'
      go_wp2
      go_ret
      rw [hl]
      exact ⟨rfl, hb⟩

set_option maxRecDepth 100000 in
theorem next_any (w : World) (B : Nat) (A : Option Addr) (n c : Nat) (es : List E) (h : IsS w B (.slice A n c)) (hk : IsK w w.heap.size A n c es) :
    Calls Try.prog 25 #[.pointer (some ⟨B, 0, none⟩)] w fun e w' => e = .returned (.int .u64 (nextOf (es.map (·.2)))) ∧ Below w.heap.size w w' := by
  have hcm := hk.rd.cmax
  have hcn := hk.rd.cap
  have hl := hk.len
  have c1 := h.row
  have hk' := hidd hk
  unfold maxLen at hcm
  clear h hk
  go_enter Try.func25, Try.ntmps25
  go_wp2
  clear c1
  go_loopw [3, 11] (fun a i wr => ∃ j : Nat, j ≤ n ∧ i = .int .i64 j ∧ a = .int .u64 (nextOf ((es.map (·.2)).take j)) ∧ Below w.heap.size w wr) (fun _ i _ => n - (intOf i).toNat)
  case atStart => exact ⟨0, Nat.zero_le _, rfl, rfl, Below.refl _ w⟩
  case round =>
    obtain ⟨j, hj, rfl, rfl, hb⟩ := hrel
    by_cases hjn : j < n
    · obtain ⟨b, off, rfl, hblt, hr⟩ := (hk'.out.below hb).range isEnc (by omega)
      obtain ⟨s, Ss⟩ : ∃ s, wr.heap.size = s := ⟨_, rfl⟩
      obtain ⟨e, he⟩ : ∃ e, es[j]? = some e := ⟨es[j]'(by omega), List.getElem?_eq_getElem _⟩
      have hE := hidd (hk'.out.ok e (List.mem_of_getElem? he))
      have l0 := hidd (loadE hE.out (hr j e he))
      have hst := next_snoc (us := es.map (·.2)) (j := j) (u := e.2) (by simp [he])
      obtain ⟨q, hq⟩ : ∃ q, nextOf ((es.map (·.2)).take j) = q := ⟨_, rfl⟩
      rw [hq] at hst ⊢
      have hb' := hidd hb
      have hws : w.heap.size ≤ s := by have := hb.size; omega
      clear hb hr
      go_wp2_with (first
        | (with_reducible show wpList _ _ _ (⟨_, Op.load 68 _, _, _, _, _⟩ :: _) _ _; refine wpList_load_want (by kernel_rfl) 68 _ rfl _ rfl _ (by with_reducible exact l0.out) ?_)
        | (with_reducible show wpList _ _ _ (⟨_, Op.store 68 (.tmp 5) _, _, _, _, _⟩ :: _) _ _
           refine wpList_store_new rfl rfl 68 (.tmp 5) _ rfl _ _ (encV e) rfl Ss.symm rfl (size_enc hE.out) (Eq.trans (b := 17) (by kernel_rfl) (encV_size hE.out).symm) (ones_enc e) ?_
           have B1 := hidd ((Below.refl s wr).alloc (by omega) (.cells (encV e) 68))
           have K1 : Hid (Blk (wr.alloc (.cells (encV e) 68)) s 68 (encV e)) := by rw [← Ss]; exact Blk.new wr 68 (encV e)
           generalize wr.alloc (.cells (encV e) 68) = V1 at B1 K1 ⊢
           have d3 := K1.out.at_ (until_enc hE.out)
           have b1 := hidd (hb'.out.trans (B1.out.mono hws))
           clear l0 K1 B1 hb'))
      go_roundw
      case measure => simp [intOf]; omega
      case rel => exact ⟨j + 1, by omega, by go_num, by rw [hst]; congr 1; split <;> omega, b1.out⟩
    · have hjn' : j = n := by omega
      subst hjn'
      rw [List.take_of_length_le (by simp; omega)]
      go_wp2
      go_ret
      exact ⟨rfl, hb⟩
end Go.Proofs.Ytajlgglknianlaa.Sv
