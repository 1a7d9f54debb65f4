/- A cache: a lower mtu, a look; each function walked once. No condition. -/
import Derived.Test.YtpjjcihhmhccfaaActs
namespace Go.Proofs.Ytpjjcihhmhccfaa
open Go.ChangeShapes Go.WideShapes Go.ChangeAt Go.RowKit Go.Deep
set_option linter.unusedVariables false
set_option linter.unusedSimpArgs false

/-- No mtu is below 1280. -/
def lowM (mtu : Int) : Int := max mtu 1280
/-- Is it no lower one? -/
def lowNo (m : Int) (dst : List Int) (os : List En) : Bool := decide (1500 ≤ m) || match fo dst os with
  | none => false
  | some o => decide (0 < o.2.2.2.1) && decide (o.2.2.2.1 ≤ m)
def lowE (now m : Int) (e : E) : E := (e.1, e.2.1, m, cadd now 600000)
def LowSays (w0 : World) (B : Nat) (now mtu : Int) (dst : List Int) (os : List En) (L : List Bx) (r : Ending) (w' : World) : Prop :=
  (lowNo (lowM mtu) dst os = true ∧ r = .returned (.bool false) ∧ Ch w0 w' B os L) ∨
  (lowNo (lowM mtu) dst os = false ∧ r = .returned (.bool true) ∧ ∃ b e rest, Mk dst os b e rest ∧ Ch w0 w' B ((b, lowE now (lowM mtu) e) :: rest) L)
set_option maxRecDepth 100000 in
set_option maxHeartbeats 4000000 in
theorem lower_any {w0 : World} (w : World) {B : Nat} {os : List En} {L : List Bx} (h : Ch w0 w B os L) (now mtu : Int) (x : List Int) (hx0 : IsAddr x) (hn0 : 0 ≤ now) (hn1 : now ≤ 18446744073709551615) (hm0 : 0 ≤ mtu) (hm1 : mtu ≤ 4294967295) :
    Calls Try.prog 10 #[ptr B, .int .u64 now, .agg (bytesV x), .int .u32 mtu] w (LowSays w0 B now mtu x os L) := by
  obtain ⟨q, hq⟩ : ∃ q, w.heap.size = q := ⟨_, rfl⟩
  have hx := hidd hx0
  have C1 := hidd (h.new 24 (bytesV x) hq)
  have hlm : 1280 ≤ max mtu 1280 ∧ max mtu 1280 ≤ 4294967295 := by omega
  clear h hx0
  go_enter Try.func10, Try.ntmps10
  obtain ⟨bm0, c1⟩ := C1.out.map1
  go_wp2_with (go_at_call 24; refine (there_yes _ B bm0 c1).mono ?_; rintro e w2 ⟨rfl, rfl⟩)
  obtain ⟨m, hm0⟩ : ∃ m, max mtu 1280 = m := ⟨_, rfl⟩
  rw [hm0] at hlm ⊢
  obtain ⟨hm1', hm2'⟩ := hlm
  have hlow : Hid (lowM mtu = m) := hm0
  obtain ⟨bm, v, ps, ms, ck, es, k1, g1⟩ := C1.out
  have K0 := hidd k1
  have G := hidd g1
  have hlk := g1.look x
  clear k1 g1 C1 c1 hm0
  generalize w.alloc (.cells (bytesV x) 24) = w1 at K0 ⊢
  have K1 := hidd K0.out.draw
  clear K0
  refine wp_region_held_drew (S := (fun V => Lc w0 V B bm v ps ms ck es (L ++ [(q, 24, bytesV x)]))) (by kernel_rfl) K1.out (fun hHeld => ?_)
  generalize w1.drew = D at K1 hHeld ⊢
  refine wpAnyH_take (i := 0) (v := ?_) rfl (by kernel_rfl) (by kernel_rfl) (by kernel_rfl) (fun _ _ _ h => h) (Or.inl ⟨by kernel_rfl, ?_⟩) hHeld ?_
  rotate_left
  · intro wh hSw
    go_simp
    try with_reducible rfl
  try simp only [Act.put, List.getElem_toArray, List.getElem_cons_zero, List.getElem_cons_succ, List.setIfInBounds_toArray, List.set_cons_zero, List.set_cons_succ]
  refine wpAnyH_take (i := 1) (v := ?_) rfl (by kernel_rfl) (by kernel_rfl) (by kernel_rfl) (fun _ _ _ h => h) (Or.inl ⟨by kernel_rfl, ?_⟩) hHeld ?_
  rotate_left
  · intro wh hSw
    go_simp
    try with_reducible rfl
  try simp only [Act.put, List.getElem_toArray, List.getElem_cons_zero, List.getElem_cons_succ, List.setIfInBounds_toArray, List.set_cons_zero, List.set_cons_succ]
  refine wpAnyH_take (i := 2) (v := ?_) rfl (by kernel_rfl) (by kernel_rfl) (by kernel_rfl) (fun _ _ _ h => h) (Or.inl ⟨by kernel_rfl, ?_⟩) hHeld ?_
  rotate_left
  · intro wh hSw
    go_simp
    try with_reducible rfl
  try simp only [Act.put, List.getElem_toArray, List.getElem_cons_zero, List.getElem_cons_succ, List.setIfInBounds_toArray, List.set_cons_zero, List.set_cons_succ]
  refine wpAnyH_take (i := 3) (v := ?_) rfl (by kernel_rfl) (by kernel_rfl) (by kernel_rfl) (fun _ _ _ h => h) (Or.inl ⟨by kernel_rfl, ?_⟩) hHeld ?_
  rotate_left
  · intro wh hSw
    have hcell := hSw.map1
    go_simp
    try with_reducible rfl
  try simp only [Act.put, List.getElem_toArray, List.getElem_cons_zero, List.getElem_cons_succ, List.setIfInBounds_toArray, List.set_cons_zero, List.set_cons_succ]
  refine wpAnyH_take (i := 4) rfl (by kernel_rfl) (by kernel_rfl) (by kernel_rfl) (fun _ _ _ h => h) (yieldsIf_load_want (by kernel_rfl) 24 _ rfl _ rfl _ (fun wh hSw => ld24 hSw.last hx.out)) hHeld ?_
  try simp only [Act.put, List.getElem_toArray, List.getElem_cons_zero, List.getElem_cons_succ, List.setIfInBounds_toArray, List.set_cons_zero, List.set_cons_succ]
  refine wpAnyH_ready (rs := [5]) (by kernel_rfl) (by simp) (AllReadyH.cons rfl (fun K hK => ?_) AllReadyH.nil)
  clear hHeld
  go_simp
  rw [run_look K1.out.map K1.out.keys hx.out]
  simp only [Result.andThen_ok]
  refine hK.out _ _ K1.out (fun hHeld => ?_)
  clear hK K
  try simp only [Act.put, List.getElem_toArray, List.getElem_cons_zero, List.getElem_cons_succ, List.setIfInBounds_toArray, List.set_cons_zero, List.set_cons_succ]
  refine wpAnyH_ready (rs := [6]) (by kernel_rfl) (by simp) (AllReadyH.cons rfl (fun K hK => ?_) AllReadyH.nil)
  clear hHeld
  go_simp
  refine hK.out _ _ K1.out (fun hHeld => ?_)
  clear hK K
  try simp only [Act.put, List.getElem_toArray, List.getElem_cons_zero, List.getElem_cons_succ, List.setIfInBounds_toArray, List.set_cons_zero, List.set_cons_succ]
  refine wpAnyH_done (by kernel_rfl) ?_ _
  clear hHeld
  have C4 : Hid (Ch w0 D B os (L ++ [(q, 24, bytesV x)])) := ⟨bm, v, ps, ms, ck, es, K1.out, G.out⟩
  have l4 := hidd (ld24 K1.out.last hx.out)
  clear K1 G hlk
  by_cases h15 : 1500 ≤ m
  · have hno : Hid (lowNo m x os = true) := by refine hidd ?_; rw [lowNo, decide_eq_true h15]; rfl
    go_wp2
    go_ret
    exact .inl ⟨by rw [hlow.out]; exact hno.out, rfl, C4.out.pop⟩
  · have h15' : decide (1500 ≤ m) = false := by simpa using h15
    cases hf : fo x os with
    | none =>
      have hv : tval x os = .pointer none := by rw [tval, hf]
      have hno : Hid (lowNo m x os = false) := by refine hidd ?_; rw [lowNo, h15', hf]; rfl
      rw [hv]
      clear hv hf
      go_wp2_with (with_reducible show wpList _ _ _ (⟨_, Op.load 24 _, _, _, _, _⟩ :: _) _ _; refine wpList_load_want (by kernel_rfl) 24 _ rfl _ rfl _ (by with_reducible exact l4.out) ?_)
      refine (made_any _ C4.out x hx.out).mono ?_
      rintro r w5 ⟨b, e, rest, rfl, hmk, c5⟩
      have hmk' := hidd hmk
      obtain ⟨hbl, hE⟩ := c5.ent (o := (b, e)) (by simp)
      have hB5 := hidd (And.intro hbl hE)
      have C5 := hidd c5
      have hAdd := hidd (add_any now 600000 w5 hn0 hn1 (by omega) (by omega))
      have c32 := hbl.at_ (at_mtu hE)
      have c33 := hbl.at_ (at_until hE)
      have z32 := hbl.frozen 32
      have z33 := hbl.frozen 33
      have C6 : Hid (Ch w0 ((w5.setCell ⟨b, 32, none⟩ (.int .u32 m)).setCell ⟨b, 33, none⟩ (.int .u64 (cadd now 600000))) B ((b, lowE now m e) :: rest) (L ++ [(q, 24, bytesV x)])) := by
        have hE2 : IsE (e.1, e.2.1, m, e.2.2.2) := ⟨hE.a, hE.n, by constructor <;> simp only <;> omega, hE.u⟩
        have hE3 : IsE (lowE now m e) := ⟨hE.a, hE.n, by constructor <;> simp only [lowE] <;> omega, by constructor <;> simp only [lowE, cadd] <;> split <;> omega⟩
        have k1 := hbl.set 32 (.int .u32 m)
        rw [set_mtu hE m] at k1
        have k2 := k1.set 33 (.int .u64 (cadd now 600000))
        rw [set_until hE2] at k2
        have := c5.upd (b := b) (e := e) (e' := lowE now m e) (by simp) rfl hE3 (((Fr.refl (· = b) w5).setB (.int .u32 m)).setB (.int .u64 (cadd now 600000))) k2
        rwa [upd_head c5.nb.1] at this
      clear c5 hmk C4 l4 hbl hE
      go_wp2_with (go_at_call 26; refine Calls.mono hAdd.out ?_; rintro r w6 ⟨rfl, rfl⟩)
      go_ret
      exact .inr ⟨by rw [hlow.out]; exact hno.out, rfl, b, e, rest, hmk'.out, by rw [hlow.out]; exact C6.out.pop⟩
    | some o =>
      obtain ⟨b0, e0⟩ := o
      have hv : tval x os = ptr b0 := by rw [tval, hf]
      obtain ⟨hbl, hE⟩ := C4.out.ent (fo_some hf).1
      have c0 := hbl.at_ (at_mtu hE)
      by_cases hz : 0 < e0.2.2.1
      · have hz' : decide (0 < e0.2.2.1) = true := by simpa using hz
        by_cases hge : e0.2.2.1 ≤ m
        · have hge' : decide (e0.2.2.1 ≤ m) = true := by simpa using hge
          have hno : Hid (lowNo m x os = true) := by refine hidd ?_; rw [lowNo, h15', hf]; simp [hz, hge]
          rw [hv]
          clear hv hf hbl hE
          go_wp2
          go_ret
          exact .inl ⟨by rw [hlow.out]; exact hno.out, rfl, C4.out.pop⟩
        · have hge' : decide (e0.2.2.1 ≤ m) = false := by simpa using hge
          have hno : Hid (lowNo m x os = false) := by refine hidd ?_; rw [lowNo, h15', hf]; simp; omega
          rw [hv]
          clear hv hf hbl hE
          go_wp2_with (with_reducible show wpList _ _ _ (⟨_, Op.load 24 _, _, _, _, _⟩ :: _) _ _; refine wpList_load_want (by kernel_rfl) 24 _ rfl _ rfl _ (by with_reducible exact l4.out) ?_)
          refine (made_any _ C4.out x hx.out).mono ?_
          rintro r w5 ⟨b, e, rest, rfl, hmk, c5⟩
          have hmk' := hidd hmk
          obtain ⟨hbl, hE⟩ := c5.ent (o := (b, e)) (by simp)
          have hB5 := hidd (And.intro hbl hE)
          have C5 := hidd c5
          have hAdd := hidd (add_any now 600000 w5 hn0 hn1 (by omega) (by omega))
          have c32 := hbl.at_ (at_mtu hE)
          have c33 := hbl.at_ (at_until hE)
          have z32 := hbl.frozen 32
          have z33 := hbl.frozen 33
          have C6 : Hid (Ch w0 ((w5.setCell ⟨b, 32, none⟩ (.int .u32 m)).setCell ⟨b, 33, none⟩ (.int .u64 (cadd now 600000))) B ((b, lowE now m e) :: rest) (L ++ [(q, 24, bytesV x)])) := by
            have hE2 : IsE (e.1, e.2.1, m, e.2.2.2) := ⟨hE.a, hE.n, by constructor <;> simp only <;> omega, hE.u⟩
            have hE3 : IsE (lowE now m e) := ⟨hE.a, hE.n, by constructor <;> simp only [lowE] <;> omega, by constructor <;> simp only [lowE, cadd] <;> split <;> omega⟩
            have k1 := hbl.set 32 (.int .u32 m)
            rw [set_mtu hE m] at k1
            have k2 := k1.set 33 (.int .u64 (cadd now 600000))
            rw [set_until hE2] at k2
            have := c5.upd (b := b) (e := e) (e' := lowE now m e) (by simp) rfl hE3 (((Fr.refl (· = b) w5).setB (.int .u32 m)).setB (.int .u64 (cadd now 600000))) k2
            rwa [upd_head c5.nb.1] at this
          clear c5 hmk C4 l4 hbl hE
          go_wp2_with (go_at_call 26; refine Calls.mono hAdd.out ?_; rintro r w6 ⟨rfl, rfl⟩)
          go_ret
          exact .inr ⟨by rw [hlow.out]; exact hno.out, rfl, b, e, rest, hmk'.out, by rw [hlow.out]; exact C6.out.pop⟩
      · have hz' : decide (0 < e0.2.2.1) = false := by simpa using hz
        have hno : Hid (lowNo m x os = false) := by refine hidd ?_; rw [lowNo, h15', hf]; simp [hz]
        rw [hv]
        clear hv hf hbl hE
        go_wp2_with (with_reducible show wpList _ _ _ (⟨_, Op.load 24 _, _, _, _, _⟩ :: _) _ _; refine wpList_load_want (by kernel_rfl) 24 _ rfl _ rfl _ (by with_reducible exact l4.out) ?_)
        refine (made_any _ C4.out x hx.out).mono ?_
        rintro r w5 ⟨b, e, rest, rfl, hmk, c5⟩
        have hmk' := hidd hmk
        obtain ⟨hbl, hE⟩ := c5.ent (o := (b, e)) (by simp)
        have hB5 := hidd (And.intro hbl hE)
        have C5 := hidd c5
        have hAdd := hidd (add_any now 600000 w5 hn0 hn1 (by omega) (by omega))
        have c32 := hbl.at_ (at_mtu hE)
        have c33 := hbl.at_ (at_until hE)
        have z32 := hbl.frozen 32
        have z33 := hbl.frozen 33
        have C6 : Hid (Ch w0 ((w5.setCell ⟨b, 32, none⟩ (.int .u32 m)).setCell ⟨b, 33, none⟩ (.int .u64 (cadd now 600000))) B ((b, lowE now m e) :: rest) (L ++ [(q, 24, bytesV x)])) := by
          have hE2 : IsE (e.1, e.2.1, m, e.2.2.2) := ⟨hE.a, hE.n, by constructor <;> simp only <;> omega, hE.u⟩
          have hE3 : IsE (lowE now m e) := ⟨hE.a, hE.n, by constructor <;> simp only [lowE] <;> omega, by constructor <;> simp only [lowE, cadd] <;> split <;> omega⟩
          have k1 := hbl.set 32 (.int .u32 m)
          rw [set_mtu hE m] at k1
          have k2 := k1.set 33 (.int .u64 (cadd now 600000))
          rw [set_until hE2] at k2
          have := c5.upd (b := b) (e := e) (e' := lowE now m e) (by simp) rfl hE3 (((Fr.refl (· = b) w5).setB (.int .u32 m)).setB (.int .u64 (cadd now 600000))) k2
          rwa [upd_head c5.nb.1] at this
        clear c5 hmk C4 l4 hbl hE
        go_wp2_with (go_at_call 26; refine Calls.mono hAdd.out ?_; rintro r w6 ⟨rfl, rfl⟩)
        go_ret
        exact .inr ⟨by rw [hlow.out]; exact hno.out, rfl, b, e, rest, hmk'.out, by rw [hlow.out]; exact C6.out.pop⟩
end Go.Proofs.Ytpjjcihhmhccfaa
