/- Those whose time is over go, walked once. No condition. -/
import Derived.Test.YtajlgglknianlaaDmDelF
import Derived.Test.YtajlgglknianlaaDmPut
namespace Go.Proofs.Ytajlgglknianlaa.Dm
open Go.Proofs.Ytajlgglknianlaa Go.ChangeShapes Go.WideShapes Go.ChangeAt Go.RowKit Go.Deep
set_option linter.unusedVariables false
set_option linter.unusedSimpArgs false

theorem drop_nil (w : World) (p : E → Bool) (lb : Array Value) (S : Nat → Prop) (hp : Pred S 44 lb p w) :
    Calls Try.prog 43 #[.slice none 0 0, .func (.func 44) #[] lb] w fun e w' => e = .returned (.slice none 0 0) ∧ Below w.heap.size w w' := by
  have hI := hidd (index_any w none 0 0 [] ⟨Rd.none_ _ _ _, rfl, fun e h => by simp at h⟩ p lb 44 _ (.inr rfl) hp)
  clear hp
  go_enter Try.func43, Try.ntmps43
  go_wp2_with (go_at_call 51; refine Calls.mono hI.out ?_; rintro e w2 ⟨rfl, b2⟩; simp only [idx])
  go_ret
  exact ⟨rfl, b2⟩

/-- What a tick leaves. -/
abbrev ticked (now : Int) (es : List E) : List E := left (fun e => decide (e.2 ≤ now)) es
theorem left_ok {p : E → Bool} {es : List E} (h : ∀ e ∈ es, IsE e) : ∀ e ∈ left p es, IsE e := fun e he => h e (List.mem_filter.1 he).1

set_option maxRecDepth 100000 in
theorem tick_any (w : World) (B base : Nat) (cs : Array Value) (v0 : Value) (es : List E) (hc : Has cs) (hi : Inv w w B base cs v0 v0 es) (hB : B < base) (now : Int) :
    Calls Try.prog 23 #[.pointer (some ⟨B, 2, none⟩), .int .u64 now] w fun e w' => (∃ r, e = .returned r) ∧ ∃ v, Inv w w' B base cs v0 v (ticked now es) := by
  have B1 := (Below.refl w.heap.size w).alloc (Nat.le_refl _) (.cells #[.int .u64 now] 28)
  have M1 := hidd (hi.to B1)
  have hp := fun S hS => over_pred (w.alloc (.cells #[.int .u64 now] 28)) S w.heap.size now (Blk.new w 28 #[.int .u64 now]) hS
  have hBw := (hi.isS hc).lt
  have c1 := (M1.out.isS hc).row
  have f1 := (M1.out.isS hc).thaw
  rcases hi.own.2 with ⟨hv, hn⟩ | ⟨g, cap, cur, hv, hbg, hh, _⟩
  · have he : es = [] := List.eq_nil_of_length_eq_zero hn
    subst hv he
    have hD := hidd (drop_nil (w.alloc (.cells #[.int .u64 now] 28)) (fun e => decide (e.2 ≤ now)) _ (fun _ => False) (hp _ id))
    clear hi B1 hp
    go_enter Try.func23, Try.ntmps23
    go_wp2_with (go_at_call 43
                 refine Calls.mono hD.out ?_
                 rintro e w2 ⟨rfl, b2⟩
                 have M2 := hidd (M1.out.to b2)
                 have c2 := (M2.out.isS hc).row
                 have f2 := (M2.out.isS hc).thaw
                 have M3 : Hid (Inv w (w2.setCell ⟨B, 3, none⟩ (.slice none 0 0)) B base cs (.slice none 0 0) (.slice none 0 0) []) := M2.out.turn hB (Fr.refl _ _) (World.ownsRow_nil _ _ _ _) (fun e h => by simp at h) (fun k hk => by cases hk)
                 clear b2)
    go_end0
    exact ⟨⟨_, rfl⟩, _, M3.out⟩
  · subst hv
    have hgl : g < w.heap.size := (Array.getElem?_eq_some_iff.1 hh).1
    have hD := hidd (drop_any (w.alloc (.cells #[.int .u64 now] 28)) base g es.length cap es M1.out.own rfl M1.out.ok (fun e => decide (e.2 ≤ now)) _ (hp _ (fun e => by omega)))
    have hgB : B ≠ g := by omega
    have hok := left_ok (p := fun e => decide (e.2 ≤ now)) hi.ok
    have hBw' : B < (w.alloc (.cells #[.int .u64 now] 28)).heap.size := by simp; omega
    clear hi B1 hp hh
    go_enter Try.func23, Try.ntmps23
    go_wp2_with (go_at_call 43
                 refine Calls.mono hD.out ?_
                 rintro e w2 ⟨rfl, o2, fr2⟩
                 have c2 := (fr2.cell (p := ⟨B, 3, none⟩) hBw' hgB).trans c1
                 have f2 := (fr2.frozen (p := ⟨B, 3, none⟩) hBw' hgB).trans f1
                 have M3 : Hid (Inv w (w2.setCell ⟨B, 3, none⟩ (.slice (some ⟨g, 0, none⟩) (ticked now es).length cap)) B base cs _ _ (ticked now es)) := M1.out.turn hB (fr2.mono (fun k _ hk => by rw [show k = g from hk]; rfl)) o2 hok (fun k hk => .inl hk)
                 clear o2 fr2)
    go_end0
    exact ⟨⟨_, rfl⟩, _, M3.out⟩
end Go.Proofs.Ytajlgglknianlaa.Dm
