/- A walk's step, with another block that stays as it is. -/
import Derived.Test.YtbldgbenlmjmjaaDda6
set_option linter.unusedVariables false
set_option linter.unusedSimpArgs false
namespace Go.Proofs.Ytbldgbenlmjmjaa
open Go.RowKit
set_option maxRecDepth 100000 in
set_option maxHeartbeats 16000000 in
theorem ddnextm_u (F G B qh ql sh sl left more : Int) (x0 x1 x2 x3 x4 x5 x6 x7 : Value) (g : Nat) (hX : AXB F G B) (ax : AX F G B qh ql sh sl left more) (w w0 : World) (BB : Below w.heap.size w w0) (hg : w.heap.size ≤ g) (r_k : AtB w0 g #[x0, .int .i64 qh, .int .u64 ql, .int .i64 sh, .int .u64 sl, .int .i64 left, .int .i64 more, .int .i64 B, x1, x2, x3, x4, x5, x6, x7] WK) (gm : Nat) (cm : Array Value) (Tm : TypeId) (hgm : gm ≠ g) (r_m : AtB w0 gm cm Tm) :
    Calls Try.prog 64 #[.pointer (some ⟨g, 1, none⟩)] w0 (fun e w' => GiveNx F G B g (fun qh ql left => #[x0, .int .i64 qh, .int .u64 ql, .int .i64 sh, .int .u64 sl, .int .i64 left, .int .i64 more, .int .i64 B, x1, x2, x3, x4, x5, x6, x7]) sh sl more w e w' ∧ AtB w' gm cm Tm) := by
  obtain ⟨hl, hm⟩ := ax.quot hX.b.1
  have k1 := fdiv_room' (z := F * 65536) hX.b.1 ⟨by have := hX.f; omega, by have := hX.f; omega⟩
  have k2 := fdiv_room' (z := G * 65536) hX.b.1 ⟨by have := hX.g; omega, by have := hX.g; omega⟩
  have hS := fdiv_step (x := F * 65536) (y := G * 65536) hX.b.1
  rw [← Int.add_mul, ← ax.l, ← ax.m] at hS
  have hbB := hX.b
  have R := Lib.hid (show I128 ((F * 65536).fdiv B + (G * 65536).fdiv B) ∧ I128 ((F * 65536).fdiv B + (G * 65536).fdiv B + 1) by unfold I128; constructor <;> constructor <;> omega)
  have CC := Lib.hid (fun w => qcut ((F * 65536).fdiv B) qh ql ax.q w)
  have A1 := Lib.hid (fun w => wadd ((F * 65536).fdiv B) ((G * 65536).fdiv B) qh ql sh sl ax.q ax.s w)
  have A2 := Lib.hid (fun ah al bh bl hx hy w => wadd ((F * 65536).fdiv B + (G * 65536).fdiv B) 1 ah al bh bl hx hy w)
  have CO := Lib.hid (fun w => wof 1 ⟨by omega, by omega⟩ w)
  have HS := Lib.hid ax.s
  have HM := Lib.hid ax.m
  have HX := Lib.hid hX
  clear ax hX k1 k2
  obtain ⟨T, hT⟩ : ∃ T, T = left + more := ⟨_, rfl⟩
  have i1 : IntKind.i64.wrap (left + more) = T := by rw [hT]; exact iw (by omega)
  rw [← hT] at hS
  have BB := Lib.hid BB
  have r_k := Lib.hid r_k
  have r_m := Lib.hid r_m
  rcases dec_both (T ≥ B) with ⟨h, hd⟩ | ⟨h, hd⟩
  · have hE := hS.2 (by omega)
    obtain ⟨U, hU⟩ : ∃ U, U = T - B := ⟨_, rfl⟩
    have i2 : IntKind.i64.wrap (T - B) = U := by rw [hU]; exact iw (by omega)
    rw [← hU] at hE
    have HE := Lib.hid hE
    clear hl hm hbB h hT hU hS hE
    generalize eQ : (F * 65536).fdiv B = Q at *
    generalize eS : (G * 65536).fdiv B = S at *
    replace eQ := Lib.hid eQ; replace eS := Lib.hid eS
    go_enter Try.func64, Try.ntmps64
    obtain ⟨c_k0, c_k1, c_k2, c_k3, c_k4, c_k5, c_k6, c_k7, c_k8, c_k9, c_k10, c_k11, c_k12, c_k13, c_k14, f_k0, f_k1, f_k2, f_k3, f_k4, f_k5, f_k6, f_k7, f_k8, f_k9, f_k10, f_k11, f_k12, f_k13, f_k14⟩ := reads15 r_k.out
    have l_k := r_k.out.lt
    go_wp2_with fail
    refine (CC.out _).mono ?_
    rintro e w1 ⟨rfl, hb⟩
    clear c_k0 c_k1 c_k2 c_k3 c_k4 c_k5 c_k6 c_k7 c_k8 c_k9 c_k10 c_k11 c_k12 c_k13 c_k14 f_k0 f_k1 f_k2 f_k3 f_k4 f_k5 f_k6 f_k7 f_k8 f_k9 f_k10 f_k11 f_k12 f_k13 f_k14 l_k
    replace r_k := Lib.hid (r_k.out.keep hb)
    replace r_m := Lib.hid (r_m.out.keep hb)
    replace BB := Lib.hid (below_next BB.out hb)
    clear hb
    go_wp2_with fail
    have KK := Lib.hid (fun (w9 : World) (h : Below w1.heap.size w1 w9) => (cells15 (r_k.out.keep h) : (w9.cell? ⟨g, 0, none⟩ = some (x0) ∧ w9.cell? ⟨g, 1, none⟩ = some (.int .i64 qh) ∧ w9.cell? ⟨g, 2, none⟩ = some (.int .u64 ql) ∧ w9.cell? ⟨g, 3, none⟩ = some (.int .i64 sh) ∧ w9.cell? ⟨g, 4, none⟩ = some (.int .u64 sl) ∧ w9.cell? ⟨g, 5, none⟩ = some (.int .i64 left) ∧ w9.cell? ⟨g, 6, none⟩ = some (.int .i64 more) ∧ w9.cell? ⟨g, 7, none⟩ = some (.int .i64 B) ∧ w9.cell? ⟨g, 8, none⟩ = some (x1) ∧ w9.cell? ⟨g, 9, none⟩ = some (x2) ∧ w9.cell? ⟨g, 10, none⟩ = some (x3) ∧ w9.cell? ⟨g, 11, none⟩ = some (x4) ∧ w9.cell? ⟨g, 12, none⟩ = some (x5) ∧ w9.cell? ⟨g, 13, none⟩ = some (x6) ∧ w9.cell? ⟨g, 14, none⟩ = some (x7))))
    have K0 := KK.out w1 (Below.refl _ _)
    have KD := KK.out w1.drew (below_drew (Below.refl _ _))
    refine AnyG.begin_ (fun w9 => (w9.cell? ⟨g, 0, none⟩ = some (x0) ∧ w9.cell? ⟨g, 1, none⟩ = some (.int .i64 qh) ∧ w9.cell? ⟨g, 2, none⟩ = some (.int .u64 ql) ∧ w9.cell? ⟨g, 3, none⟩ = some (.int .i64 sh) ∧ w9.cell? ⟨g, 4, none⟩ = some (.int .u64 sl) ∧ w9.cell? ⟨g, 5, none⟩ = some (.int .i64 left) ∧ w9.cell? ⟨g, 6, none⟩ = some (.int .i64 more) ∧ w9.cell? ⟨g, 7, none⟩ = some (.int .i64 B) ∧ w9.cell? ⟨g, 8, none⟩ = some (x1) ∧ w9.cell? ⟨g, 9, none⟩ = some (x2) ∧ w9.cell? ⟨g, 10, none⟩ = some (x3) ∧ w9.cell? ⟨g, 11, none⟩ = some (x4) ∧ w9.cell? ⟨g, 12, none⟩ = some (x5) ∧ w9.cell? ⟨g, 13, none⟩ = some (x6) ∧ w9.cell? ⟨g, 14, none⟩ = some (x7))) 15 (by kernel_rfl) ?_
    refine AnyG.take (i := 0) (v := ?_) rfl (by kernel_rfl) (by kernel_rfl) (by kernel_rfl) (fun _ _ _ h => h) (by kernel_rfl) (by kernel_rfl) (Or.inl ⟨by rfl, ?_⟩) (by assumption) ?_
    rotate_left
    · intro w9 hSw; (try dsimp only at hSw); go_simp <;> with_reducible rfl
    try simp only [Act.put, List.getElem_toArray, List.getElem_cons_zero, List.getElem_cons_succ, List.setIfInBounds_toArray, List.set_cons_zero, List.set_cons_succ]
    refine AnyG.take (i := 1) (v := ?_) rfl (by kernel_rfl) (by kernel_rfl) (by kernel_rfl) (fun _ _ _ h => h) (by kernel_rfl) (by kernel_rfl) (Or.inl ⟨by rfl, ?_⟩) (by assumption) ?_
    rotate_left
    · intro w9 hSw; (try dsimp only at hSw); go_simp <;> with_reducible rfl
    try simp only [Act.put, List.getElem_toArray, List.getElem_cons_zero, List.getElem_cons_succ, List.setIfInBounds_toArray, List.set_cons_zero, List.set_cons_succ]
    refine AnyG.take (i := 2) (v := ?_) rfl (by kernel_rfl) (by kernel_rfl) (by kernel_rfl) (fun _ _ _ h => h) (by kernel_rfl) (by kernel_rfl) (Or.inl ⟨by rfl, ?_⟩) (by assumption) ?_
    rotate_left
    · intro w9 hSw; (try dsimp only at hSw); go_simp <;> with_reducible rfl
    try simp only [Act.put, List.getElem_toArray, List.getElem_cons_zero, List.getElem_cons_succ, List.setIfInBounds_toArray, List.set_cons_zero, List.set_cons_succ]
    refine AnyG.take (i := 3) (v := ?_) rfl (by kernel_rfl) (by kernel_rfl) (by kernel_rfl) (fun _ _ _ h => h) (by kernel_rfl) (by kernel_rfl) (Or.inl ⟨by rfl, ?_⟩) (by assumption) ?_
    rotate_left
    · intro w9 hSw; (try dsimp only at hSw); go_simp <;> with_reducible rfl
    try simp only [Act.put, List.getElem_toArray, List.getElem_cons_zero, List.getElem_cons_succ, List.setIfInBounds_toArray, List.set_cons_zero, List.set_cons_succ]
    refine AnyG.take (i := 4) (v := ?_) rfl (by kernel_rfl) (by kernel_rfl) (by kernel_rfl) (fun _ _ _ h => h) (by kernel_rfl) (by kernel_rfl) (Or.inl ⟨by rfl, ?_⟩) (by assumption) ?_
    rotate_left
    · intro w9 hSw; (try dsimp only at hSw); go_simp <;> with_reducible rfl
    try simp only [Act.put, List.getElem_toArray, List.getElem_cons_zero, List.getElem_cons_succ, List.setIfInBounds_toArray, List.set_cons_zero, List.set_cons_succ]
    refine AnyG.take (i := 5) (v := ?_) rfl (by kernel_rfl) (by kernel_rfl) (by kernel_rfl) (fun _ _ _ h => h) (by kernel_rfl) (by kernel_rfl) (Or.inl ⟨by rfl, ?_⟩) (by assumption) ?_
    rotate_left
    · intro w9 hSw; (try dsimp only at hSw); go_simp <;> with_reducible rfl
    try simp only [Act.put, List.getElem_toArray, List.getElem_cons_zero, List.getElem_cons_succ, List.setIfInBounds_toArray, List.set_cons_zero, List.set_cons_succ]
    refine AnyG.take (i := 6) (v := ?_) rfl (by kernel_rfl) (by kernel_rfl) (by kernel_rfl) (fun _ _ _ h => h) (by kernel_rfl) (by kernel_rfl) (Or.inl ⟨by rfl, ?_⟩) (by assumption) ?_
    rotate_left
    · intro w9 hSw; (try dsimp only at hSw); go_simp <;> with_reducible rfl
    try simp only [Act.put, List.getElem_toArray, List.getElem_cons_zero, List.getElem_cons_succ, List.setIfInBounds_toArray, List.set_cons_zero, List.set_cons_succ]
    refine AnyG.take (i := 7) (v := ?_) rfl (by kernel_rfl) (by kernel_rfl) (by kernel_rfl) (fun _ _ _ h => h) (by kernel_rfl) (by kernel_rfl) (Or.inl ⟨by rfl, ?_⟩) (by assumption) ?_
    rotate_left
    · intro w9 hSw; (try dsimp only at hSw); go_simp <;> with_reducible rfl
    try simp only [Act.put, List.getElem_toArray, List.getElem_cons_zero, List.getElem_cons_succ, List.setIfInBounds_toArray, List.set_cons_zero, List.set_cons_succ]
    refine AnyG.take (i := 8) (v := ?_) rfl (by kernel_rfl) (by kernel_rfl) (by kernel_rfl) (fun _ _ _ h => h) (by kernel_rfl) (by kernel_rfl) (Or.inl ⟨by rfl, ?_⟩) (by assumption) ?_
    rotate_left
    · intro w9 hSw; (try dsimp only at hSw); go_simp <;> with_reducible rfl
    try simp only [Act.put, List.getElem_toArray, List.getElem_cons_zero, List.getElem_cons_succ, List.setIfInBounds_toArray, List.set_cons_zero, List.set_cons_succ]
    refine AnyG.step (i := 9) (by kernel_rfl) rfl (fun K hK => ?_)
    go_simp
    go_at_call 71
    refine (A1.out _).mono ?_
    rintro e w2 ⟨h1, l1, ok1, rfl, hb, hw1⟩
    have B_w2 := Lib.hid (reg_next (w0 := w1) (by repeat (first | with_reducible exact Below.refl _ _ | with_reducible apply below_drew | with_reducible apply below_new)) hb)
    have K_w2 := KK.out _ B_w2.out
    obtain ⟨rc_k0, rc_k1, rc_k2, rc_k3, rc_k4, rc_k5, rc_k6, rc_k7, rc_k8, rc_k9, rc_k10, rc_k11, rc_k12, rc_k13, rc_k14, rf_k0, rf_k1, rf_k2, rf_k3, rf_k4, rf_k5, rf_k6, rf_k7, rf_k8, rf_k9, rf_k10, rf_k11, rf_k12, rf_k13, rf_k14⟩ := reads15 (r_k.out.keep B_w2.out)
    have rl_k := (r_k.out.keep B_w2.out).lt
    clear hb
    refine hK.out _ _ (fun _ => K_w2) (fun hHeld => ?_)
    replace hHeld := hHeld (by decide)
    clear hK
    try simp only [Act.put, List.getElem_toArray, List.getElem_cons_zero, List.getElem_cons_succ, List.setIfInBounds_toArray, List.set_cons_zero, List.set_cons_succ]
    refine AnyG.take (i := 10) (v := ?_) rfl (by kernel_rfl) (by kernel_rfl) (by kernel_rfl) (fun _ _ _ h => h) (by kernel_rfl) (by kernel_rfl) (Or.inl ⟨by rfl, ?_⟩) (by assumption) ?_
    rotate_left
    · intro w9 hSw; (try dsimp only at hSw); go_simp <;> with_reducible rfl
    try simp only [Act.put, List.getElem_toArray, List.getElem_cons_zero, List.getElem_cons_succ, List.setIfInBounds_toArray, List.set_cons_zero, List.set_cons_succ]
    refine AnyG.take (i := 11) (v := ?_) rfl (by kernel_rfl) (by kernel_rfl) (by kernel_rfl) (fun _ _ _ h => h) (by kernel_rfl) (by kernel_rfl) (Or.inl ⟨by rfl, ?_⟩) (by assumption) ?_
    rotate_left
    · intro w9 hSw; (try dsimp only at hSw); go_simp <;> with_reducible rfl
    try simp only [Act.put, List.getElem_toArray, List.getElem_cons_zero, List.getElem_cons_succ, List.setIfInBounds_toArray, List.set_cons_zero, List.set_cons_succ]
    refine AnyG.take0 (i := 12) (v := ?_) rfl (by kernel_rfl) (by kernel_rfl) (by kernel_rfl) (fun _ _ _ h => h) (by decide) (Or.inl ⟨by rfl, ?_⟩) (by assumption) ?_
    rotate_left
    · intro w9 hSw; clear hSw; go_simp <;> with_reducible rfl
    try simp only [Act.put, List.getElem_toArray, List.getElem_cons_zero, List.getElem_cons_succ, List.setIfInBounds_toArray, List.set_cons_zero, List.set_cons_succ]
    refine AnyG.take (i := 13) (v := ?_) rfl (by kernel_rfl) (by kernel_rfl) (by kernel_rfl) (fun _ _ _ h => h) (by kernel_rfl) (by kernel_rfl) (Or.inl ⟨by rfl, ?_⟩) (by assumption) ?_
    rotate_left
    · intro w9 hSw; (try dsimp only at hSw); go_simp <;> with_reducible rfl
    try simp only [Act.put, List.getElem_toArray, List.getElem_cons_zero, List.getElem_cons_succ, List.setIfInBounds_toArray, List.set_cons_zero, List.set_cons_succ]
    refine AnyG.take (i := 14) (v := ?_) rfl (by kernel_rfl) (by kernel_rfl) (by kernel_rfl) (fun _ _ _ h => h) (by kernel_rfl) (by kernel_rfl) (Or.inl ⟨by rfl, ?_⟩) (by assumption) ?_
    rotate_left
    · intro w9 hSw; (try dsimp only at hSw); go_simp <;> with_reducible rfl
    try simp only [Act.put, List.getElem_toArray, List.getElem_cons_zero, List.getElem_cons_succ, List.setIfInBounds_toArray, List.set_cons_zero, List.set_cons_succ]
    refine AnyG.step (i := 15) (by kernel_rfl) rfl (fun K hK => ?_)
    go_simp
    refine hK.out _ _ (fun h => absurd h (by decide)) (fun _ => ?_)
    clear hK
    try simp only [Act.put, List.getElem_toArray, List.getElem_cons_zero, List.getElem_cons_succ, List.setIfInBounds_toArray, List.set_cons_zero, List.set_cons_succ]
    refine AnyG.done (by kernel_rfl) ?_ _
    clear KK K0 KD K_w2
    replace r_k := Lib.hid (r_k.out.keep B_w2.out)
    replace r_m := Lib.hid (r_m.out.keep B_w2.out)
    replace BB := Lib.hid (below_next BB.out B_w2.out)
    clear B_w2
    replace hw1 := Lib.hid (hw1.of_room R.out.1)
    replace r_k := Lib.hid (show AtB ((w2.setCell ⟨g, 1, none⟩ (.int .i64 h1)).setCell ⟨g, 2, none⟩ (.int .u64 l1)) (g) #[x0, .int .i64 h1, .int .u64 l1, .int .i64 sh, .int .u64 sl, .int .i64 left, .int .i64 more, .int .i64 B, x1, x2, x3, x4, x5, x6, x7] WK from by have k := ((r_k.out.set_n 1 (.int .i64 h1)).set_n 2 (.int .u64 l1)); simpa using k)
    replace r_m := Lib.hid ((r_m.out.far (p := g) (by omega) 1 (.int .i64 h1)).far (p := g) (by omega) 2 (.int .u64 l1))
    replace BB := Lib.hid (below_set (below_set BB.out (b := g) (o := 1) (by omega) (.int .i64 h1)) (b := g) (o := 2) (by omega) (.int .u64 l1))
    generalize ((w2.setCell ⟨g, 1, none⟩ (.int .i64 h1)).setCell ⟨g, 2, none⟩ (.int .u64 l1)) = w3 at *
    go_wp2_with fail
    have KK := Lib.hid (fun (w9 : World) (h : Below w3.heap.size w3 w9) => (cells15 (r_k.out.keep h) : (w9.cell? ⟨g, 0, none⟩ = some (x0) ∧ w9.cell? ⟨g, 1, none⟩ = some (.int .i64 h1) ∧ w9.cell? ⟨g, 2, none⟩ = some (.int .u64 l1) ∧ w9.cell? ⟨g, 3, none⟩ = some (.int .i64 sh) ∧ w9.cell? ⟨g, 4, none⟩ = some (.int .u64 sl) ∧ w9.cell? ⟨g, 5, none⟩ = some (.int .i64 left) ∧ w9.cell? ⟨g, 6, none⟩ = some (.int .i64 more) ∧ w9.cell? ⟨g, 7, none⟩ = some (.int .i64 B) ∧ w9.cell? ⟨g, 8, none⟩ = some (x1) ∧ w9.cell? ⟨g, 9, none⟩ = some (x2) ∧ w9.cell? ⟨g, 10, none⟩ = some (x3) ∧ w9.cell? ⟨g, 11, none⟩ = some (x4) ∧ w9.cell? ⟨g, 12, none⟩ = some (x5) ∧ w9.cell? ⟨g, 13, none⟩ = some (x6) ∧ w9.cell? ⟨g, 14, none⟩ = some (x7))))
    have K0 := KK.out w3 (Below.refl _ _)
    have KD := KK.out w3.drew (below_drew (Below.refl _ _))
    obtain ⟨rc_k0, rc_k1, rc_k2, rc_k3, rc_k4, rc_k5, rc_k6, rc_k7, rc_k8, rc_k9, rc_k10, rc_k11, rc_k12, rc_k13, rc_k14, rf_k0, rf_k1, rf_k2, rf_k3, rf_k4, rf_k5, rf_k6, rf_k7, rf_k8, rf_k9, rf_k10, rf_k11, rf_k12, rf_k13, rf_k14⟩ := reads15 r_k.out
    have rl_k := r_k.out.lt
    refine AnyG.begin_ (fun w9 => (w9.cell? ⟨g, 0, none⟩ = some (x0) ∧ w9.cell? ⟨g, 1, none⟩ = some (.int .i64 h1) ∧ w9.cell? ⟨g, 2, none⟩ = some (.int .u64 l1) ∧ w9.cell? ⟨g, 3, none⟩ = some (.int .i64 sh) ∧ w9.cell? ⟨g, 4, none⟩ = some (.int .u64 sl) ∧ w9.cell? ⟨g, 5, none⟩ = some (.int .i64 left) ∧ w9.cell? ⟨g, 6, none⟩ = some (.int .i64 more) ∧ w9.cell? ⟨g, 7, none⟩ = some (.int .i64 B) ∧ w9.cell? ⟨g, 8, none⟩ = some (x1) ∧ w9.cell? ⟨g, 9, none⟩ = some (x2) ∧ w9.cell? ⟨g, 10, none⟩ = some (x3) ∧ w9.cell? ⟨g, 11, none⟩ = some (x4) ∧ w9.cell? ⟨g, 12, none⟩ = some (x5) ∧ w9.cell? ⟨g, 13, none⟩ = some (x6) ∧ w9.cell? ⟨g, 14, none⟩ = some (x7))) 11 (by kernel_rfl) ?_
    refine AnyG.take (i := 0) (v := ?_) rfl (by kernel_rfl) (by kernel_rfl) (by kernel_rfl) (fun _ _ _ h => h) (by kernel_rfl) (by kernel_rfl) (Or.inl ⟨by rfl, ?_⟩) (by assumption) ?_
    rotate_left
    · intro w9 hSw; (try dsimp only at hSw); go_simp <;> with_reducible rfl
    try simp only [Act.put, List.getElem_toArray, List.getElem_cons_zero, List.getElem_cons_succ, List.setIfInBounds_toArray, List.set_cons_zero, List.set_cons_succ]
    refine AnyG.take (i := 1) (v := ?_) rfl (by kernel_rfl) (by kernel_rfl) (by kernel_rfl) (fun _ _ _ h => h) (by kernel_rfl) (by kernel_rfl) (Or.inl ⟨by rfl, ?_⟩) (by assumption) ?_
    rotate_left
    · intro w9 hSw; (try dsimp only at hSw); go_simp <;> with_reducible rfl
    try simp only [Act.put, List.getElem_toArray, List.getElem_cons_zero, List.getElem_cons_succ, List.setIfInBounds_toArray, List.set_cons_zero, List.set_cons_succ]
    refine AnyG.take (i := 2) (v := ?_) rfl (by kernel_rfl) (by kernel_rfl) (by kernel_rfl) (fun _ _ _ h => h) (by kernel_rfl) (by kernel_rfl) (Or.inl ⟨by rfl, ?_⟩) (by assumption) ?_
    rotate_left
    · intro w9 hSw; (try dsimp only at hSw); go_simp <;> with_reducible rfl
    try simp only [Act.put, List.getElem_toArray, List.getElem_cons_zero, List.getElem_cons_succ, List.setIfInBounds_toArray, List.set_cons_zero, List.set_cons_succ]
    refine AnyG.take (i := 3) (v := ?_) rfl (by kernel_rfl) (by kernel_rfl) (by kernel_rfl) (fun _ _ _ h => h) (by kernel_rfl) (by kernel_rfl) (Or.inl ⟨by rfl, ?_⟩) (by assumption) ?_
    rotate_left
    · intro w9 hSw; (try dsimp only at hSw); go_simp <;> with_reducible rfl
    try simp only [Act.put, List.getElem_toArray, List.getElem_cons_zero, List.getElem_cons_succ, List.setIfInBounds_toArray, List.set_cons_zero, List.set_cons_succ]
    refine AnyG.take (i := 4) (v := ?_) rfl (by kernel_rfl) (by kernel_rfl) (by kernel_rfl) (fun _ _ _ h => h) (by kernel_rfl) (by kernel_rfl) (Or.inl ⟨by rfl, ?_⟩) (by assumption) ?_
    rotate_left
    · intro w9 hSw; (try dsimp only at hSw); go_simp <;> with_reducible rfl
    try simp only [Act.put, List.getElem_toArray, List.getElem_cons_zero, List.getElem_cons_succ, List.setIfInBounds_toArray, List.set_cons_zero, List.set_cons_succ]
    refine AnyG.take (i := 5) (v := ?_) rfl (by kernel_rfl) (by kernel_rfl) (by kernel_rfl) (fun _ _ _ h => h) (by kernel_rfl) (by kernel_rfl) (Or.inl ⟨by rfl, ?_⟩) (by assumption) ?_
    rotate_left
    · intro w9 hSw; (try dsimp only at hSw); go_simp <;> with_reducible rfl
    try simp only [Act.put, List.getElem_toArray, List.getElem_cons_zero, List.getElem_cons_succ, List.setIfInBounds_toArray, List.set_cons_zero, List.set_cons_succ]
    refine AnyG.take (i := 6) (v := ?_) rfl (by kernel_rfl) (by kernel_rfl) (by kernel_rfl) (fun _ _ _ h => h) (by kernel_rfl) (by kernel_rfl) (Or.inl ⟨by rfl, ?_⟩) (by assumption) ?_
    rotate_left
    · intro w9 hSw; (try dsimp only at hSw); go_simp <;> with_reducible rfl
    try simp only [Act.put, List.getElem_toArray, List.getElem_cons_zero, List.getElem_cons_succ, List.setIfInBounds_toArray, List.set_cons_zero, List.set_cons_succ]
    refine AnyG.take (i := 7) (v := ?_) rfl (by kernel_rfl) (by kernel_rfl) (by kernel_rfl) (fun _ _ _ h => h) (by kernel_rfl) (by kernel_rfl) (Or.inl ⟨by rfl, ?_⟩) (by assumption) ?_
    rotate_left
    · intro w9 hSw; (try dsimp only at hSw); go_simp <;> with_reducible rfl
    try simp only [Act.put, List.getElem_toArray, List.getElem_cons_zero, List.getElem_cons_succ, List.setIfInBounds_toArray, List.set_cons_zero, List.set_cons_succ]
    refine AnyG.take (i := 8) (v := ?_) rfl (by kernel_rfl) (by kernel_rfl) (by kernel_rfl) (fun _ _ _ h => h) (by kernel_rfl) (by kernel_rfl) (Or.inl ⟨by rfl, ?_⟩) (by assumption) ?_
    rotate_left
    · intro w9 hSw; (try dsimp only at hSw); go_simp <;> with_reducible rfl
    try simp only [Act.put, List.getElem_toArray, List.getElem_cons_zero, List.getElem_cons_succ, List.setIfInBounds_toArray, List.set_cons_zero, List.set_cons_succ]
    refine AnyG.take (i := 9) (v := ?_) rfl (by kernel_rfl) (by kernel_rfl) (by kernel_rfl) (fun _ _ _ h => h) (by kernel_rfl) (by kernel_rfl) (Or.inl ⟨by rfl, ?_⟩) (by assumption) ?_
    rotate_left
    · intro w9 hSw; (try dsimp only at hSw); go_simp <;> with_reducible rfl
    try simp only [Act.put, List.getElem_toArray, List.getElem_cons_zero, List.getElem_cons_succ, List.setIfInBounds_toArray, List.set_cons_zero, List.set_cons_succ]
    refine AnyG.take (i := 10) (v := ?_) rfl (by kernel_rfl) (by kernel_rfl) (by kernel_rfl) (fun _ _ _ h => h) (by kernel_rfl) (by kernel_rfl) (Or.inl ⟨by rfl, ?_⟩) (by assumption) ?_
    rotate_left
    · intro w9 hSw; (try dsimp only at hSw); go_simp <;> with_reducible rfl
    try simp only [Act.put, List.getElem_toArray, List.getElem_cons_zero, List.getElem_cons_succ, List.setIfInBounds_toArray, List.set_cons_zero, List.set_cons_succ]
    refine AnyG.step (i := 11) (by kernel_rfl) rfl (fun K hK => ?_)
    go_simp
    refine hK.out _ _ (fun h => absurd h (by decide)) (fun _ => ?_)
    clear hK
    try simp only [Act.put, List.getElem_toArray, List.getElem_cons_zero, List.getElem_cons_succ, List.setIfInBounds_toArray, List.set_cons_zero, List.set_cons_succ]
    refine AnyG.done (by kernel_rfl) ?_ _
    clear KK K0 KD
    clear rc_k0 rc_k1 rc_k2 rc_k3 rc_k4 rc_k5 rc_k6 rc_k7 rc_k8 rc_k9 rc_k10 rc_k11 rc_k12 rc_k13 rc_k14 rf_k0 rf_k1 rf_k2 rf_k3 rf_k4 rf_k5 rf_k6 rf_k7 rf_k8 rf_k9 rf_k10 rf_k11 rf_k12 rf_k13 rf_k14 rl_k
    replace r_k := Lib.hid (show AtB (w3.setCell ⟨g, 5, none⟩ (.int .i64 T)) (g) #[x0, .int .i64 h1, .int .u64 l1, .int .i64 sh, .int .u64 sl, .int .i64 T, .int .i64 more, .int .i64 B, x1, x2, x3, x4, x5, x6, x7] WK from by have k := (r_k.out.set_n 5 (.int .i64 T)); simpa using k)
    replace r_m := Lib.hid (r_m.out.far (p := g) (by omega) 5 (.int .i64 T))
    replace BB := Lib.hid (below_set BB.out (b := g) (o := 5) (by omega) (.int .i64 T))
    generalize (w3.setCell ⟨g, 5, none⟩ (.int .i64 T)) = w4 at *
    have hb := below_drew (Below.refl w4.heap.size w4)
    generalize w4.drew = w5 at *
    replace r_k := Lib.hid (r_k.out.keep hb)
    replace r_m := Lib.hid (r_m.out.keep hb)
    replace BB := Lib.hid (below_next BB.out hb)
    clear hb
    obtain ⟨c_k0, c_k1, c_k2, c_k3, c_k4, c_k5, c_k6, c_k7, c_k8, c_k9, c_k10, c_k11, c_k12, c_k13, c_k14, f_k0, f_k1, f_k2, f_k3, f_k4, f_k5, f_k6, f_k7, f_k8, f_k9, f_k10, f_k11, f_k12, f_k13, f_k14⟩ := reads15 r_k.out
    have l_k := r_k.out.lt
    go_wp2_with fail
    go_quiet (fail)
    have hb := below_drawn (Below.refl w5.heap.size w5) nq
    generalize w5.drewN nq = w6 at *
    clear c_k0 c_k1 c_k2 c_k3 c_k4 c_k5 c_k6 c_k7 c_k8 c_k9 c_k10 c_k11 c_k12 c_k13 c_k14 f_k0 f_k1 f_k2 f_k3 f_k4 f_k5 f_k6 f_k7 f_k8 f_k9 f_k10 f_k11 f_k12 f_k13 f_k14 l_k
    replace r_k := Lib.hid (r_k.out.keep hb)
    replace r_m := Lib.hid (r_m.out.keep hb)
    replace BB := Lib.hid (below_next BB.out hb)
    clear hb nq
    go_wp2_with fail
    have KK := Lib.hid (fun (w9 : World) (h : Below w6.heap.size w6 w9) => (cells15 (r_k.out.keep h) : (w9.cell? ⟨g, 0, none⟩ = some (x0) ∧ w9.cell? ⟨g, 1, none⟩ = some (.int .i64 h1) ∧ w9.cell? ⟨g, 2, none⟩ = some (.int .u64 l1) ∧ w9.cell? ⟨g, 3, none⟩ = some (.int .i64 sh) ∧ w9.cell? ⟨g, 4, none⟩ = some (.int .u64 sl) ∧ w9.cell? ⟨g, 5, none⟩ = some (.int .i64 T) ∧ w9.cell? ⟨g, 6, none⟩ = some (.int .i64 more) ∧ w9.cell? ⟨g, 7, none⟩ = some (.int .i64 B) ∧ w9.cell? ⟨g, 8, none⟩ = some (x1) ∧ w9.cell? ⟨g, 9, none⟩ = some (x2) ∧ w9.cell? ⟨g, 10, none⟩ = some (x3) ∧ w9.cell? ⟨g, 11, none⟩ = some (x4) ∧ w9.cell? ⟨g, 12, none⟩ = some (x5) ∧ w9.cell? ⟨g, 13, none⟩ = some (x6) ∧ w9.cell? ⟨g, 14, none⟩ = some (x7))))
    have K0 := KK.out w6 (Below.refl _ _)
    have KD := KK.out w6.drew (below_drew (Below.refl _ _))
    obtain ⟨rc_k0, rc_k1, rc_k2, rc_k3, rc_k4, rc_k5, rc_k6, rc_k7, rc_k8, rc_k9, rc_k10, rc_k11, rc_k12, rc_k13, rc_k14, rf_k0, rf_k1, rf_k2, rf_k3, rf_k4, rf_k5, rf_k6, rf_k7, rf_k8, rf_k9, rf_k10, rf_k11, rf_k12, rf_k13, rf_k14⟩ := reads15 r_k.out
    have rl_k := r_k.out.lt
    refine AnyG.begin_ (fun w9 => (w9.cell? ⟨g, 0, none⟩ = some (x0) ∧ w9.cell? ⟨g, 1, none⟩ = some (.int .i64 h1) ∧ w9.cell? ⟨g, 2, none⟩ = some (.int .u64 l1) ∧ w9.cell? ⟨g, 3, none⟩ = some (.int .i64 sh) ∧ w9.cell? ⟨g, 4, none⟩ = some (.int .u64 sl) ∧ w9.cell? ⟨g, 5, none⟩ = some (.int .i64 T) ∧ w9.cell? ⟨g, 6, none⟩ = some (.int .i64 more) ∧ w9.cell? ⟨g, 7, none⟩ = some (.int .i64 B) ∧ w9.cell? ⟨g, 8, none⟩ = some (x1) ∧ w9.cell? ⟨g, 9, none⟩ = some (x2) ∧ w9.cell? ⟨g, 10, none⟩ = some (x3) ∧ w9.cell? ⟨g, 11, none⟩ = some (x4) ∧ w9.cell? ⟨g, 12, none⟩ = some (x5) ∧ w9.cell? ⟨g, 13, none⟩ = some (x6) ∧ w9.cell? ⟨g, 14, none⟩ = some (x7))) 11 (by kernel_rfl) ?_
    refine AnyG.take (i := 0) (v := ?_) rfl (by kernel_rfl) (by kernel_rfl) (by kernel_rfl) (fun _ _ _ h => h) (by kernel_rfl) (by kernel_rfl) (Or.inl ⟨by rfl, ?_⟩) (by assumption) ?_
    rotate_left
    · intro w9 hSw; (try dsimp only at hSw); go_simp <;> with_reducible rfl
    try simp only [Act.put, List.getElem_toArray, List.getElem_cons_zero, List.getElem_cons_succ, List.setIfInBounds_toArray, List.set_cons_zero, List.set_cons_succ]
    refine AnyG.take (i := 1) (v := ?_) rfl (by kernel_rfl) (by kernel_rfl) (by kernel_rfl) (fun _ _ _ h => h) (by kernel_rfl) (by kernel_rfl) (Or.inl ⟨by rfl, ?_⟩) (by assumption) ?_
    rotate_left
    · intro w9 hSw; (try dsimp only at hSw); go_simp <;> with_reducible rfl
    try simp only [Act.put, List.getElem_toArray, List.getElem_cons_zero, List.getElem_cons_succ, List.setIfInBounds_toArray, List.set_cons_zero, List.set_cons_succ]
    refine AnyG.take (i := 2) (v := ?_) rfl (by kernel_rfl) (by kernel_rfl) (by kernel_rfl) (fun _ _ _ h => h) (by kernel_rfl) (by kernel_rfl) (Or.inl ⟨by rfl, ?_⟩) (by assumption) ?_
    rotate_left
    · intro w9 hSw; (try dsimp only at hSw); go_simp <;> with_reducible rfl
    try simp only [Act.put, List.getElem_toArray, List.getElem_cons_zero, List.getElem_cons_succ, List.setIfInBounds_toArray, List.set_cons_zero, List.set_cons_succ]
    refine AnyG.take (i := 3) (v := ?_) rfl (by kernel_rfl) (by kernel_rfl) (by kernel_rfl) (fun _ _ _ h => h) (by kernel_rfl) (by kernel_rfl) (Or.inl ⟨by rfl, ?_⟩) (by assumption) ?_
    rotate_left
    · intro w9 hSw; (try dsimp only at hSw); go_simp <;> with_reducible rfl
    try simp only [Act.put, List.getElem_toArray, List.getElem_cons_zero, List.getElem_cons_succ, List.setIfInBounds_toArray, List.set_cons_zero, List.set_cons_succ]
    refine AnyG.take (i := 4) (v := ?_) rfl (by kernel_rfl) (by kernel_rfl) (by kernel_rfl) (fun _ _ _ h => h) (by kernel_rfl) (by kernel_rfl) (Or.inl ⟨by rfl, ?_⟩) (by assumption) ?_
    rotate_left
    · intro w9 hSw; (try dsimp only at hSw); go_simp <;> with_reducible rfl
    try simp only [Act.put, List.getElem_toArray, List.getElem_cons_zero, List.getElem_cons_succ, List.setIfInBounds_toArray, List.set_cons_zero, List.set_cons_succ]
    refine AnyG.take (i := 5) (v := ?_) rfl (by kernel_rfl) (by kernel_rfl) (by kernel_rfl) (fun _ _ _ h => h) (by kernel_rfl) (by kernel_rfl) (Or.inl ⟨by rfl, ?_⟩) (by assumption) ?_
    rotate_left
    · intro w9 hSw; (try dsimp only at hSw); go_simp <;> with_reducible rfl
    try simp only [Act.put, List.getElem_toArray, List.getElem_cons_zero, List.getElem_cons_succ, List.setIfInBounds_toArray, List.set_cons_zero, List.set_cons_succ]
    refine AnyG.take (i := 6) (v := ?_) rfl (by kernel_rfl) (by kernel_rfl) (by kernel_rfl) (fun _ _ _ h => h) (by kernel_rfl) (by kernel_rfl) (Or.inl ⟨by rfl, ?_⟩) (by assumption) ?_
    rotate_left
    · intro w9 hSw; (try dsimp only at hSw); go_simp <;> with_reducible rfl
    try simp only [Act.put, List.getElem_toArray, List.getElem_cons_zero, List.getElem_cons_succ, List.setIfInBounds_toArray, List.set_cons_zero, List.set_cons_succ]
    refine AnyG.take (i := 7) (v := ?_) rfl (by kernel_rfl) (by kernel_rfl) (by kernel_rfl) (fun _ _ _ h => h) (by kernel_rfl) (by kernel_rfl) (Or.inl ⟨by rfl, ?_⟩) (by assumption) ?_
    rotate_left
    · intro w9 hSw; (try dsimp only at hSw); go_simp <;> with_reducible rfl
    try simp only [Act.put, List.getElem_toArray, List.getElem_cons_zero, List.getElem_cons_succ, List.setIfInBounds_toArray, List.set_cons_zero, List.set_cons_succ]
    refine AnyG.take (i := 8) (v := ?_) rfl (by kernel_rfl) (by kernel_rfl) (by kernel_rfl) (fun _ _ _ h => h) (by kernel_rfl) (by kernel_rfl) (Or.inl ⟨by rfl, ?_⟩) (by assumption) ?_
    rotate_left
    · intro w9 hSw; (try dsimp only at hSw); go_simp <;> with_reducible rfl
    try simp only [Act.put, List.getElem_toArray, List.getElem_cons_zero, List.getElem_cons_succ, List.setIfInBounds_toArray, List.set_cons_zero, List.set_cons_succ]
    refine AnyG.take (i := 9) (v := ?_) rfl (by kernel_rfl) (by kernel_rfl) (by kernel_rfl) (fun _ _ _ h => h) (by kernel_rfl) (by kernel_rfl) (Or.inl ⟨by rfl, ?_⟩) (by assumption) ?_
    rotate_left
    · intro w9 hSw; (try dsimp only at hSw); go_simp <;> with_reducible rfl
    try simp only [Act.put, List.getElem_toArray, List.getElem_cons_zero, List.getElem_cons_succ, List.setIfInBounds_toArray, List.set_cons_zero, List.set_cons_succ]
    refine AnyG.take (i := 10) (v := ?_) rfl (by kernel_rfl) (by kernel_rfl) (by kernel_rfl) (fun _ _ _ h => h) (by kernel_rfl) (by kernel_rfl) (Or.inl ⟨by rfl, ?_⟩) (by assumption) ?_
    rotate_left
    · intro w9 hSw; (try dsimp only at hSw); go_simp <;> with_reducible rfl
    try simp only [Act.put, List.getElem_toArray, List.getElem_cons_zero, List.getElem_cons_succ, List.setIfInBounds_toArray, List.set_cons_zero, List.set_cons_succ]
    refine AnyG.step (i := 11) (by kernel_rfl) rfl (fun K hK => ?_)
    go_simp
    refine hK.out _ _ (fun h => absurd h (by decide)) (fun _ => ?_)
    clear hK
    try simp only [Act.put, List.getElem_toArray, List.getElem_cons_zero, List.getElem_cons_succ, List.setIfInBounds_toArray, List.set_cons_zero, List.set_cons_succ]
    refine AnyG.done (by kernel_rfl) ?_ _
    clear KK K0 KD
    clear rc_k0 rc_k1 rc_k2 rc_k3 rc_k4 rc_k5 rc_k6 rc_k7 rc_k8 rc_k9 rc_k10 rc_k11 rc_k12 rc_k13 rc_k14 rf_k0 rf_k1 rf_k2 rf_k3 rf_k4 rf_k5 rf_k6 rf_k7 rf_k8 rf_k9 rf_k10 rf_k11 rf_k12 rf_k13 rf_k14 rl_k
    replace r_k := Lib.hid (show AtB (w6.setCell ⟨g, 5, none⟩ (.int .i64 U)) (g) #[x0, .int .i64 h1, .int .u64 l1, .int .i64 sh, .int .u64 sl, .int .i64 U, .int .i64 more, .int .i64 B, x1, x2, x3, x4, x5, x6, x7] WK from by have k := (r_k.out.set_n 5 (.int .i64 U)); simpa using k)
    replace r_m := Lib.hid (r_m.out.far (p := g) (by omega) 5 (.int .i64 U))
    replace BB := Lib.hid (below_set BB.out (b := g) (o := 5) (by omega) (.int .i64 U))
    generalize (w6.setCell ⟨g, 5, none⟩ (.int .i64 U)) = w7 at *
    have hb := below_drew (Below.refl w7.heap.size w7)
    generalize w7.drew = w8 at *
    replace r_k := Lib.hid (r_k.out.keep hb)
    replace r_m := Lib.hid (r_m.out.keep hb)
    replace BB := Lib.hid (below_next BB.out hb)
    clear hb
    go_wp2_with fail
    have KK := Lib.hid (fun (w9 : World) (h : Below w8.heap.size w8 w9) => (cells15 (r_k.out.keep h) : (w9.cell? ⟨g, 0, none⟩ = some (x0) ∧ w9.cell? ⟨g, 1, none⟩ = some (.int .i64 h1) ∧ w9.cell? ⟨g, 2, none⟩ = some (.int .u64 l1) ∧ w9.cell? ⟨g, 3, none⟩ = some (.int .i64 sh) ∧ w9.cell? ⟨g, 4, none⟩ = some (.int .u64 sl) ∧ w9.cell? ⟨g, 5, none⟩ = some (.int .i64 U) ∧ w9.cell? ⟨g, 6, none⟩ = some (.int .i64 more) ∧ w9.cell? ⟨g, 7, none⟩ = some (.int .i64 B) ∧ w9.cell? ⟨g, 8, none⟩ = some (x1) ∧ w9.cell? ⟨g, 9, none⟩ = some (x2) ∧ w9.cell? ⟨g, 10, none⟩ = some (x3) ∧ w9.cell? ⟨g, 11, none⟩ = some (x4) ∧ w9.cell? ⟨g, 12, none⟩ = some (x5) ∧ w9.cell? ⟨g, 13, none⟩ = some (x6) ∧ w9.cell? ⟨g, 14, none⟩ = some (x7))))
    have K0 := KK.out w8 (Below.refl _ _)
    have KD := KK.out w8.drew (below_drew (Below.refl _ _))
    refine AnyG.begin_ (fun w9 => (w9.cell? ⟨g, 0, none⟩ = some (x0) ∧ w9.cell? ⟨g, 1, none⟩ = some (.int .i64 h1) ∧ w9.cell? ⟨g, 2, none⟩ = some (.int .u64 l1) ∧ w9.cell? ⟨g, 3, none⟩ = some (.int .i64 sh) ∧ w9.cell? ⟨g, 4, none⟩ = some (.int .u64 sl) ∧ w9.cell? ⟨g, 5, none⟩ = some (.int .i64 U) ∧ w9.cell? ⟨g, 6, none⟩ = some (.int .i64 more) ∧ w9.cell? ⟨g, 7, none⟩ = some (.int .i64 B) ∧ w9.cell? ⟨g, 8, none⟩ = some (x1) ∧ w9.cell? ⟨g, 9, none⟩ = some (x2) ∧ w9.cell? ⟨g, 10, none⟩ = some (x3) ∧ w9.cell? ⟨g, 11, none⟩ = some (x4) ∧ w9.cell? ⟨g, 12, none⟩ = some (x5) ∧ w9.cell? ⟨g, 13, none⟩ = some (x6) ∧ w9.cell? ⟨g, 14, none⟩ = some (x7))) 12 (by kernel_rfl) ?_
    refine AnyG.take (i := 0) (v := ?_) rfl (by kernel_rfl) (by kernel_rfl) (by kernel_rfl) (fun _ _ _ h => h) (by kernel_rfl) (by kernel_rfl) (Or.inl ⟨by rfl, ?_⟩) (by assumption) ?_
    rotate_left
    · intro w9 hSw; (try dsimp only at hSw); go_simp <;> with_reducible rfl
    try simp only [Act.put, List.getElem_toArray, List.getElem_cons_zero, List.getElem_cons_succ, List.setIfInBounds_toArray, List.set_cons_zero, List.set_cons_succ]
    refine AnyG.take (i := 1) (v := ?_) rfl (by kernel_rfl) (by kernel_rfl) (by kernel_rfl) (fun _ _ _ h => h) (by kernel_rfl) (by kernel_rfl) (Or.inl ⟨by rfl, ?_⟩) (by assumption) ?_
    rotate_left
    · intro w9 hSw; (try dsimp only at hSw); go_simp <;> with_reducible rfl
    try simp only [Act.put, List.getElem_toArray, List.getElem_cons_zero, List.getElem_cons_succ, List.setIfInBounds_toArray, List.set_cons_zero, List.set_cons_succ]
    refine AnyG.take (i := 2) (v := ?_) rfl (by kernel_rfl) (by kernel_rfl) (by kernel_rfl) (fun _ _ _ h => h) (by kernel_rfl) (by kernel_rfl) (Or.inl ⟨by rfl, ?_⟩) (by assumption) ?_
    rotate_left
    · intro w9 hSw; (try dsimp only at hSw); go_simp <;> with_reducible rfl
    try simp only [Act.put, List.getElem_toArray, List.getElem_cons_zero, List.getElem_cons_succ, List.setIfInBounds_toArray, List.set_cons_zero, List.set_cons_succ]
    refine AnyG.take (i := 3) (v := ?_) rfl (by kernel_rfl) (by kernel_rfl) (by kernel_rfl) (fun _ _ _ h => h) (by kernel_rfl) (by kernel_rfl) (Or.inl ⟨by rfl, ?_⟩) (by assumption) ?_
    rotate_left
    · intro w9 hSw; (try dsimp only at hSw); go_simp <;> with_reducible rfl
    try simp only [Act.put, List.getElem_toArray, List.getElem_cons_zero, List.getElem_cons_succ, List.setIfInBounds_toArray, List.set_cons_zero, List.set_cons_succ]
    refine AnyG.take (i := 4) (v := ?_) rfl (by kernel_rfl) (by kernel_rfl) (by kernel_rfl) (fun _ _ _ h => h) (by kernel_rfl) (by kernel_rfl) (Or.inl ⟨by rfl, ?_⟩) (by assumption) ?_
    rotate_left
    · intro w9 hSw; (try dsimp only at hSw); go_simp <;> with_reducible rfl
    try simp only [Act.put, List.getElem_toArray, List.getElem_cons_zero, List.getElem_cons_succ, List.setIfInBounds_toArray, List.set_cons_zero, List.set_cons_succ]
    refine AnyG.step (i := 5) (by kernel_rfl) rfl (fun K hK => ?_)
    go_simp
    go_at_call 84
    refine (CO.out _).mono ?_
    rintro e w10 ⟨h2, l2, rfl, hb, hw2⟩
    have B_w10 := Lib.hid (reg_next (w0 := w8) (by repeat (first | with_reducible exact Below.refl _ _ | with_reducible apply below_drew | with_reducible apply below_new)) hb)
    have K_w10 := KK.out _ B_w10.out
    clear hb
    refine hK.out _ _ (fun _ => K_w10) (fun hHeld => ?_)
    replace hHeld := hHeld (by decide)
    clear hK
    try simp only [Act.put, List.getElem_toArray, List.getElem_cons_zero, List.getElem_cons_succ, List.setIfInBounds_toArray, List.set_cons_zero, List.set_cons_succ]
    refine AnyG.step (i := 6) (by kernel_rfl) rfl (fun K hK => ?_)
    go_simp
    go_at_call 71
    refine (A2.out _ _ _ _ hw1.out hw2 _).mono ?_
    rintro e w11 ⟨h3, l3, ok3, rfl, hb, hw3⟩
    have B_w11 := Lib.hid (below_next B_w10.out hb)
    have K_w11 := KK.out _ B_w11.out
    obtain ⟨rc_k0, rc_k1, rc_k2, rc_k3, rc_k4, rc_k5, rc_k6, rc_k7, rc_k8, rc_k9, rc_k10, rc_k11, rc_k12, rc_k13, rc_k14, rf_k0, rf_k1, rf_k2, rf_k3, rf_k4, rf_k5, rf_k6, rf_k7, rf_k8, rf_k9, rf_k10, rf_k11, rf_k12, rf_k13, rf_k14⟩ := reads15 (r_k.out.keep B_w11.out)
    have rl_k := (r_k.out.keep B_w11.out).lt
    clear hb
    refine hK.out _ _ (fun _ => K_w11) (fun hHeld => ?_)
    replace hHeld := hHeld (by decide)
    clear hK
    try simp only [Act.put, List.getElem_toArray, List.getElem_cons_zero, List.getElem_cons_succ, List.setIfInBounds_toArray, List.set_cons_zero, List.set_cons_succ]
    refine AnyG.take (i := 7) (v := ?_) rfl (by kernel_rfl) (by kernel_rfl) (by kernel_rfl) (fun _ _ _ h => h) (by kernel_rfl) (by kernel_rfl) (Or.inl ⟨by rfl, ?_⟩) (by assumption) ?_
    rotate_left
    · intro w9 hSw; (try dsimp only at hSw); go_simp <;> with_reducible rfl
    try simp only [Act.put, List.getElem_toArray, List.getElem_cons_zero, List.getElem_cons_succ, List.setIfInBounds_toArray, List.set_cons_zero, List.set_cons_succ]
    refine AnyG.take (i := 8) (v := ?_) rfl (by kernel_rfl) (by kernel_rfl) (by kernel_rfl) (fun _ _ _ h => h) (by kernel_rfl) (by kernel_rfl) (Or.inl ⟨by rfl, ?_⟩) (by assumption) ?_
    rotate_left
    · intro w9 hSw; (try dsimp only at hSw); go_simp <;> with_reducible rfl
    try simp only [Act.put, List.getElem_toArray, List.getElem_cons_zero, List.getElem_cons_succ, List.setIfInBounds_toArray, List.set_cons_zero, List.set_cons_succ]
    refine AnyG.take0 (i := 9) (v := ?_) rfl (by kernel_rfl) (by kernel_rfl) (by kernel_rfl) (fun _ _ _ h => h) (by decide) (Or.inl ⟨by rfl, ?_⟩) (by assumption) ?_
    rotate_left
    · intro w9 hSw; clear hSw; go_simp <;> with_reducible rfl
    try simp only [Act.put, List.getElem_toArray, List.getElem_cons_zero, List.getElem_cons_succ, List.setIfInBounds_toArray, List.set_cons_zero, List.set_cons_succ]
    refine AnyG.take (i := 10) (v := ?_) rfl (by kernel_rfl) (by kernel_rfl) (by kernel_rfl) (fun _ _ _ h => h) (by kernel_rfl) (by kernel_rfl) (Or.inl ⟨by rfl, ?_⟩) (by assumption) ?_
    rotate_left
    · intro w9 hSw; (try dsimp only at hSw); go_simp <;> with_reducible rfl
    try simp only [Act.put, List.getElem_toArray, List.getElem_cons_zero, List.getElem_cons_succ, List.setIfInBounds_toArray, List.set_cons_zero, List.set_cons_succ]
    refine AnyG.take (i := 11) (v := ?_) rfl (by kernel_rfl) (by kernel_rfl) (by kernel_rfl) (fun _ _ _ h => h) (by kernel_rfl) (by kernel_rfl) (Or.inl ⟨by rfl, ?_⟩) (by assumption) ?_
    rotate_left
    · intro w9 hSw; (try dsimp only at hSw); go_simp <;> with_reducible rfl
    try simp only [Act.put, List.getElem_toArray, List.getElem_cons_zero, List.getElem_cons_succ, List.setIfInBounds_toArray, List.set_cons_zero, List.set_cons_succ]
    refine AnyG.step (i := 12) (by kernel_rfl) rfl (fun K hK => ?_)
    go_simp
    refine hK.out _ _ (fun h => absurd h (by decide)) (fun _ => ?_)
    clear hK
    try simp only [Act.put, List.getElem_toArray, List.getElem_cons_zero, List.getElem_cons_succ, List.setIfInBounds_toArray, List.set_cons_zero, List.set_cons_succ]
    refine AnyG.done (by kernel_rfl) ?_ _
    clear KK K0 KD K_w10 K_w11
    replace r_k := Lib.hid (r_k.out.keep B_w11.out)
    replace r_m := Lib.hid (r_m.out.keep B_w11.out)
    replace BB := Lib.hid (below_next BB.out B_w11.out)
    clear B_w10 B_w11
    replace hw3 := Lib.hid (hw3.of_room R.out.2)
    replace r_k := Lib.hid (show AtB ((w11.setCell ⟨g, 1, none⟩ (.int .i64 h3)).setCell ⟨g, 2, none⟩ (.int .u64 l3)) (g) #[x0, .int .i64 h3, .int .u64 l3, .int .i64 sh, .int .u64 sl, .int .i64 U, .int .i64 more, .int .i64 B, x1, x2, x3, x4, x5, x6, x7] WK from by have k := ((r_k.out.set_n 1 (.int .i64 h3)).set_n 2 (.int .u64 l3)); simpa using k)
    replace r_m := Lib.hid ((r_m.out.far (p := g) (by omega) 1 (.int .i64 h3)).far (p := g) (by omega) 2 (.int .u64 l3))
    replace BB := Lib.hid (below_set (below_set BB.out (b := g) (o := 1) (by omega) (.int .i64 h3)) (b := g) (o := 2) (by omega) (.int .u64 l3))
    generalize ((w11.setCell ⟨g, 1, none⟩ (.int .i64 h3)).setCell ⟨g, 2, none⟩ (.int .u64 l3)) = w12 at *
    go_wp2_with fail
    go_ret
    exact ⟨⟨show Ending.returned (.int .i64 (cutI Q)) = _ by rw [eQ.out], BB.out, _, _, _, r_k.out, ⟨by rw [HE.out.1]; exact hw3.out, by rw [eS.out]; exact HS.out, HE.out.2.symm, HM.out⟩⟩, r_m.out⟩
  · have HE := Lib.hid (hS.1 (by omega))
    clear hl hm hbB h hT hS
    generalize eQ : (F * 65536).fdiv B = Q at *
    generalize eS : (G * 65536).fdiv B = S at *
    replace eQ := Lib.hid eQ; replace eS := Lib.hid eS
    go_enter Try.func64, Try.ntmps64
    obtain ⟨c_k0, c_k1, c_k2, c_k3, c_k4, c_k5, c_k6, c_k7, c_k8, c_k9, c_k10, c_k11, c_k12, c_k13, c_k14, f_k0, f_k1, f_k2, f_k3, f_k4, f_k5, f_k6, f_k7, f_k8, f_k9, f_k10, f_k11, f_k12, f_k13, f_k14⟩ := reads15 r_k.out
    have l_k := r_k.out.lt
    go_wp2_with fail
    refine (CC.out _).mono ?_
    rintro e w1 ⟨rfl, hb⟩
    clear c_k0 c_k1 c_k2 c_k3 c_k4 c_k5 c_k6 c_k7 c_k8 c_k9 c_k10 c_k11 c_k12 c_k13 c_k14 f_k0 f_k1 f_k2 f_k3 f_k4 f_k5 f_k6 f_k7 f_k8 f_k9 f_k10 f_k11 f_k12 f_k13 f_k14 l_k
    replace r_k := Lib.hid (r_k.out.keep hb)
    replace r_m := Lib.hid (r_m.out.keep hb)
    replace BB := Lib.hid (below_next BB.out hb)
    clear hb
    go_wp2_with fail
    have KK := Lib.hid (fun (w9 : World) (h : Below w1.heap.size w1 w9) => (cells15 (r_k.out.keep h) : (w9.cell? ⟨g, 0, none⟩ = some (x0) ∧ w9.cell? ⟨g, 1, none⟩ = some (.int .i64 qh) ∧ w9.cell? ⟨g, 2, none⟩ = some (.int .u64 ql) ∧ w9.cell? ⟨g, 3, none⟩ = some (.int .i64 sh) ∧ w9.cell? ⟨g, 4, none⟩ = some (.int .u64 sl) ∧ w9.cell? ⟨g, 5, none⟩ = some (.int .i64 left) ∧ w9.cell? ⟨g, 6, none⟩ = some (.int .i64 more) ∧ w9.cell? ⟨g, 7, none⟩ = some (.int .i64 B) ∧ w9.cell? ⟨g, 8, none⟩ = some (x1) ∧ w9.cell? ⟨g, 9, none⟩ = some (x2) ∧ w9.cell? ⟨g, 10, none⟩ = some (x3) ∧ w9.cell? ⟨g, 11, none⟩ = some (x4) ∧ w9.cell? ⟨g, 12, none⟩ = some (x5) ∧ w9.cell? ⟨g, 13, none⟩ = some (x6) ∧ w9.cell? ⟨g, 14, none⟩ = some (x7))))
    have K0 := KK.out w1 (Below.refl _ _)
    have KD := KK.out w1.drew (below_drew (Below.refl _ _))
    refine AnyG.begin_ (fun w9 => (w9.cell? ⟨g, 0, none⟩ = some (x0) ∧ w9.cell? ⟨g, 1, none⟩ = some (.int .i64 qh) ∧ w9.cell? ⟨g, 2, none⟩ = some (.int .u64 ql) ∧ w9.cell? ⟨g, 3, none⟩ = some (.int .i64 sh) ∧ w9.cell? ⟨g, 4, none⟩ = some (.int .u64 sl) ∧ w9.cell? ⟨g, 5, none⟩ = some (.int .i64 left) ∧ w9.cell? ⟨g, 6, none⟩ = some (.int .i64 more) ∧ w9.cell? ⟨g, 7, none⟩ = some (.int .i64 B) ∧ w9.cell? ⟨g, 8, none⟩ = some (x1) ∧ w9.cell? ⟨g, 9, none⟩ = some (x2) ∧ w9.cell? ⟨g, 10, none⟩ = some (x3) ∧ w9.cell? ⟨g, 11, none⟩ = some (x4) ∧ w9.cell? ⟨g, 12, none⟩ = some (x5) ∧ w9.cell? ⟨g, 13, none⟩ = some (x6) ∧ w9.cell? ⟨g, 14, none⟩ = some (x7))) 15 (by kernel_rfl) ?_
    refine AnyG.take (i := 0) (v := ?_) rfl (by kernel_rfl) (by kernel_rfl) (by kernel_rfl) (fun _ _ _ h => h) (by kernel_rfl) (by kernel_rfl) (Or.inl ⟨by rfl, ?_⟩) (by assumption) ?_
    rotate_left
    · intro w9 hSw; (try dsimp only at hSw); go_simp <;> with_reducible rfl
    try simp only [Act.put, List.getElem_toArray, List.getElem_cons_zero, List.getElem_cons_succ, List.setIfInBounds_toArray, List.set_cons_zero, List.set_cons_succ]
    refine AnyG.take (i := 1) (v := ?_) rfl (by kernel_rfl) (by kernel_rfl) (by kernel_rfl) (fun _ _ _ h => h) (by kernel_rfl) (by kernel_rfl) (Or.inl ⟨by rfl, ?_⟩) (by assumption) ?_
    rotate_left
    · intro w9 hSw; (try dsimp only at hSw); go_simp <;> with_reducible rfl
    try simp only [Act.put, List.getElem_toArray, List.getElem_cons_zero, List.getElem_cons_succ, List.setIfInBounds_toArray, List.set_cons_zero, List.set_cons_succ]
    refine AnyG.take (i := 2) (v := ?_) rfl (by kernel_rfl) (by kernel_rfl) (by kernel_rfl) (fun _ _ _ h => h) (by kernel_rfl) (by kernel_rfl) (Or.inl ⟨by rfl, ?_⟩) (by assumption) ?_
    rotate_left
    · intro w9 hSw; (try dsimp only at hSw); go_simp <;> with_reducible rfl
    try simp only [Act.put, List.getElem_toArray, List.getElem_cons_zero, List.getElem_cons_succ, List.setIfInBounds_toArray, List.set_cons_zero, List.set_cons_succ]
    refine AnyG.take (i := 3) (v := ?_) rfl (by kernel_rfl) (by kernel_rfl) (by kernel_rfl) (fun _ _ _ h => h) (by kernel_rfl) (by kernel_rfl) (Or.inl ⟨by rfl, ?_⟩) (by assumption) ?_
    rotate_left
    · intro w9 hSw; (try dsimp only at hSw); go_simp <;> with_reducible rfl
    try simp only [Act.put, List.getElem_toArray, List.getElem_cons_zero, List.getElem_cons_succ, List.setIfInBounds_toArray, List.set_cons_zero, List.set_cons_succ]
    refine AnyG.take (i := 4) (v := ?_) rfl (by kernel_rfl) (by kernel_rfl) (by kernel_rfl) (fun _ _ _ h => h) (by kernel_rfl) (by kernel_rfl) (Or.inl ⟨by rfl, ?_⟩) (by assumption) ?_
    rotate_left
    · intro w9 hSw; (try dsimp only at hSw); go_simp <;> with_reducible rfl
    try simp only [Act.put, List.getElem_toArray, List.getElem_cons_zero, List.getElem_cons_succ, List.setIfInBounds_toArray, List.set_cons_zero, List.set_cons_succ]
    refine AnyG.take (i := 5) (v := ?_) rfl (by kernel_rfl) (by kernel_rfl) (by kernel_rfl) (fun _ _ _ h => h) (by kernel_rfl) (by kernel_rfl) (Or.inl ⟨by rfl, ?_⟩) (by assumption) ?_
    rotate_left
    · intro w9 hSw; (try dsimp only at hSw); go_simp <;> with_reducible rfl
    try simp only [Act.put, List.getElem_toArray, List.getElem_cons_zero, List.getElem_cons_succ, List.setIfInBounds_toArray, List.set_cons_zero, List.set_cons_succ]
    refine AnyG.take (i := 6) (v := ?_) rfl (by kernel_rfl) (by kernel_rfl) (by kernel_rfl) (fun _ _ _ h => h) (by kernel_rfl) (by kernel_rfl) (Or.inl ⟨by rfl, ?_⟩) (by assumption) ?_
    rotate_left
    · intro w9 hSw; (try dsimp only at hSw); go_simp <;> with_reducible rfl
    try simp only [Act.put, List.getElem_toArray, List.getElem_cons_zero, List.getElem_cons_succ, List.setIfInBounds_toArray, List.set_cons_zero, List.set_cons_succ]
    refine AnyG.take (i := 7) (v := ?_) rfl (by kernel_rfl) (by kernel_rfl) (by kernel_rfl) (fun _ _ _ h => h) (by kernel_rfl) (by kernel_rfl) (Or.inl ⟨by rfl, ?_⟩) (by assumption) ?_
    rotate_left
    · intro w9 hSw; (try dsimp only at hSw); go_simp <;> with_reducible rfl
    try simp only [Act.put, List.getElem_toArray, List.getElem_cons_zero, List.getElem_cons_succ, List.setIfInBounds_toArray, List.set_cons_zero, List.set_cons_succ]
    refine AnyG.take (i := 8) (v := ?_) rfl (by kernel_rfl) (by kernel_rfl) (by kernel_rfl) (fun _ _ _ h => h) (by kernel_rfl) (by kernel_rfl) (Or.inl ⟨by rfl, ?_⟩) (by assumption) ?_
    rotate_left
    · intro w9 hSw; (try dsimp only at hSw); go_simp <;> with_reducible rfl
    try simp only [Act.put, List.getElem_toArray, List.getElem_cons_zero, List.getElem_cons_succ, List.setIfInBounds_toArray, List.set_cons_zero, List.set_cons_succ]
    refine AnyG.step (i := 9) (by kernel_rfl) rfl (fun K hK => ?_)
    go_simp
    go_at_call 71
    refine (A1.out _).mono ?_
    rintro e w2 ⟨h1, l1, ok1, rfl, hb, hw1⟩
    have B_w2 := Lib.hid (reg_next (w0 := w1) (by repeat (first | with_reducible exact Below.refl _ _ | with_reducible apply below_drew | with_reducible apply below_new)) hb)
    have K_w2 := KK.out _ B_w2.out
    obtain ⟨rc_k0, rc_k1, rc_k2, rc_k3, rc_k4, rc_k5, rc_k6, rc_k7, rc_k8, rc_k9, rc_k10, rc_k11, rc_k12, rc_k13, rc_k14, rf_k0, rf_k1, rf_k2, rf_k3, rf_k4, rf_k5, rf_k6, rf_k7, rf_k8, rf_k9, rf_k10, rf_k11, rf_k12, rf_k13, rf_k14⟩ := reads15 (r_k.out.keep B_w2.out)
    have rl_k := (r_k.out.keep B_w2.out).lt
    clear hb
    refine hK.out _ _ (fun _ => K_w2) (fun hHeld => ?_)
    replace hHeld := hHeld (by decide)
    clear hK
    try simp only [Act.put, List.getElem_toArray, List.getElem_cons_zero, List.getElem_cons_succ, List.setIfInBounds_toArray, List.set_cons_zero, List.set_cons_succ]
    refine AnyG.take (i := 10) (v := ?_) rfl (by kernel_rfl) (by kernel_rfl) (by kernel_rfl) (fun _ _ _ h => h) (by kernel_rfl) (by kernel_rfl) (Or.inl ⟨by rfl, ?_⟩) (by assumption) ?_
    rotate_left
    · intro w9 hSw; (try dsimp only at hSw); go_simp <;> with_reducible rfl
    try simp only [Act.put, List.getElem_toArray, List.getElem_cons_zero, List.getElem_cons_succ, List.setIfInBounds_toArray, List.set_cons_zero, List.set_cons_succ]
    refine AnyG.take (i := 11) (v := ?_) rfl (by kernel_rfl) (by kernel_rfl) (by kernel_rfl) (fun _ _ _ h => h) (by kernel_rfl) (by kernel_rfl) (Or.inl ⟨by rfl, ?_⟩) (by assumption) ?_
    rotate_left
    · intro w9 hSw; (try dsimp only at hSw); go_simp <;> with_reducible rfl
    try simp only [Act.put, List.getElem_toArray, List.getElem_cons_zero, List.getElem_cons_succ, List.setIfInBounds_toArray, List.set_cons_zero, List.set_cons_succ]
    refine AnyG.take0 (i := 12) (v := ?_) rfl (by kernel_rfl) (by kernel_rfl) (by kernel_rfl) (fun _ _ _ h => h) (by decide) (Or.inl ⟨by rfl, ?_⟩) (by assumption) ?_
    rotate_left
    · intro w9 hSw; clear hSw; go_simp <;> with_reducible rfl
    try simp only [Act.put, List.getElem_toArray, List.getElem_cons_zero, List.getElem_cons_succ, List.setIfInBounds_toArray, List.set_cons_zero, List.set_cons_succ]
    refine AnyG.take (i := 13) (v := ?_) rfl (by kernel_rfl) (by kernel_rfl) (by kernel_rfl) (fun _ _ _ h => h) (by kernel_rfl) (by kernel_rfl) (Or.inl ⟨by rfl, ?_⟩) (by assumption) ?_
    rotate_left
    · intro w9 hSw; (try dsimp only at hSw); go_simp <;> with_reducible rfl
    try simp only [Act.put, List.getElem_toArray, List.getElem_cons_zero, List.getElem_cons_succ, List.setIfInBounds_toArray, List.set_cons_zero, List.set_cons_succ]
    refine AnyG.take (i := 14) (v := ?_) rfl (by kernel_rfl) (by kernel_rfl) (by kernel_rfl) (fun _ _ _ h => h) (by kernel_rfl) (by kernel_rfl) (Or.inl ⟨by rfl, ?_⟩) (by assumption) ?_
    rotate_left
    · intro w9 hSw; (try dsimp only at hSw); go_simp <;> with_reducible rfl
    try simp only [Act.put, List.getElem_toArray, List.getElem_cons_zero, List.getElem_cons_succ, List.setIfInBounds_toArray, List.set_cons_zero, List.set_cons_succ]
    refine AnyG.step (i := 15) (by kernel_rfl) rfl (fun K hK => ?_)
    go_simp
    refine hK.out _ _ (fun h => absurd h (by decide)) (fun _ => ?_)
    clear hK
    try simp only [Act.put, List.getElem_toArray, List.getElem_cons_zero, List.getElem_cons_succ, List.setIfInBounds_toArray, List.set_cons_zero, List.set_cons_succ]
    refine AnyG.done (by kernel_rfl) ?_ _
    clear KK K0 KD K_w2
    replace r_k := Lib.hid (r_k.out.keep B_w2.out)
    replace r_m := Lib.hid (r_m.out.keep B_w2.out)
    replace BB := Lib.hid (below_next BB.out B_w2.out)
    clear B_w2
    replace hw1 := Lib.hid (hw1.of_room R.out.1)
    replace r_k := Lib.hid (show AtB ((w2.setCell ⟨g, 1, none⟩ (.int .i64 h1)).setCell ⟨g, 2, none⟩ (.int .u64 l1)) (g) #[x0, .int .i64 h1, .int .u64 l1, .int .i64 sh, .int .u64 sl, .int .i64 left, .int .i64 more, .int .i64 B, x1, x2, x3, x4, x5, x6, x7] WK from by have k := ((r_k.out.set_n 1 (.int .i64 h1)).set_n 2 (.int .u64 l1)); simpa using k)
    replace r_m := Lib.hid ((r_m.out.far (p := g) (by omega) 1 (.int .i64 h1)).far (p := g) (by omega) 2 (.int .u64 l1))
    replace BB := Lib.hid (below_set (below_set BB.out (b := g) (o := 1) (by omega) (.int .i64 h1)) (b := g) (o := 2) (by omega) (.int .u64 l1))
    generalize ((w2.setCell ⟨g, 1, none⟩ (.int .i64 h1)).setCell ⟨g, 2, none⟩ (.int .u64 l1)) = w3 at *
    go_wp2_with fail
    have KK := Lib.hid (fun (w9 : World) (h : Below w3.heap.size w3 w9) => (cells15 (r_k.out.keep h) : (w9.cell? ⟨g, 0, none⟩ = some (x0) ∧ w9.cell? ⟨g, 1, none⟩ = some (.int .i64 h1) ∧ w9.cell? ⟨g, 2, none⟩ = some (.int .u64 l1) ∧ w9.cell? ⟨g, 3, none⟩ = some (.int .i64 sh) ∧ w9.cell? ⟨g, 4, none⟩ = some (.int .u64 sl) ∧ w9.cell? ⟨g, 5, none⟩ = some (.int .i64 left) ∧ w9.cell? ⟨g, 6, none⟩ = some (.int .i64 more) ∧ w9.cell? ⟨g, 7, none⟩ = some (.int .i64 B) ∧ w9.cell? ⟨g, 8, none⟩ = some (x1) ∧ w9.cell? ⟨g, 9, none⟩ = some (x2) ∧ w9.cell? ⟨g, 10, none⟩ = some (x3) ∧ w9.cell? ⟨g, 11, none⟩ = some (x4) ∧ w9.cell? ⟨g, 12, none⟩ = some (x5) ∧ w9.cell? ⟨g, 13, none⟩ = some (x6) ∧ w9.cell? ⟨g, 14, none⟩ = some (x7))))
    have K0 := KK.out w3 (Below.refl _ _)
    have KD := KK.out w3.drew (below_drew (Below.refl _ _))
    obtain ⟨rc_k0, rc_k1, rc_k2, rc_k3, rc_k4, rc_k5, rc_k6, rc_k7, rc_k8, rc_k9, rc_k10, rc_k11, rc_k12, rc_k13, rc_k14, rf_k0, rf_k1, rf_k2, rf_k3, rf_k4, rf_k5, rf_k6, rf_k7, rf_k8, rf_k9, rf_k10, rf_k11, rf_k12, rf_k13, rf_k14⟩ := reads15 r_k.out
    have rl_k := r_k.out.lt
    refine AnyG.begin_ (fun w9 => (w9.cell? ⟨g, 0, none⟩ = some (x0) ∧ w9.cell? ⟨g, 1, none⟩ = some (.int .i64 h1) ∧ w9.cell? ⟨g, 2, none⟩ = some (.int .u64 l1) ∧ w9.cell? ⟨g, 3, none⟩ = some (.int .i64 sh) ∧ w9.cell? ⟨g, 4, none⟩ = some (.int .u64 sl) ∧ w9.cell? ⟨g, 5, none⟩ = some (.int .i64 left) ∧ w9.cell? ⟨g, 6, none⟩ = some (.int .i64 more) ∧ w9.cell? ⟨g, 7, none⟩ = some (.int .i64 B) ∧ w9.cell? ⟨g, 8, none⟩ = some (x1) ∧ w9.cell? ⟨g, 9, none⟩ = some (x2) ∧ w9.cell? ⟨g, 10, none⟩ = some (x3) ∧ w9.cell? ⟨g, 11, none⟩ = some (x4) ∧ w9.cell? ⟨g, 12, none⟩ = some (x5) ∧ w9.cell? ⟨g, 13, none⟩ = some (x6) ∧ w9.cell? ⟨g, 14, none⟩ = some (x7))) 11 (by kernel_rfl) ?_
    refine AnyG.take (i := 0) (v := ?_) rfl (by kernel_rfl) (by kernel_rfl) (by kernel_rfl) (fun _ _ _ h => h) (by kernel_rfl) (by kernel_rfl) (Or.inl ⟨by rfl, ?_⟩) (by assumption) ?_
    rotate_left
    · intro w9 hSw; (try dsimp only at hSw); go_simp <;> with_reducible rfl
    try simp only [Act.put, List.getElem_toArray, List.getElem_cons_zero, List.getElem_cons_succ, List.setIfInBounds_toArray, List.set_cons_zero, List.set_cons_succ]
    refine AnyG.take (i := 1) (v := ?_) rfl (by kernel_rfl) (by kernel_rfl) (by kernel_rfl) (fun _ _ _ h => h) (by kernel_rfl) (by kernel_rfl) (Or.inl ⟨by rfl, ?_⟩) (by assumption) ?_
    rotate_left
    · intro w9 hSw; (try dsimp only at hSw); go_simp <;> with_reducible rfl
    try simp only [Act.put, List.getElem_toArray, List.getElem_cons_zero, List.getElem_cons_succ, List.setIfInBounds_toArray, List.set_cons_zero, List.set_cons_succ]
    refine AnyG.take (i := 2) (v := ?_) rfl (by kernel_rfl) (by kernel_rfl) (by kernel_rfl) (fun _ _ _ h => h) (by kernel_rfl) (by kernel_rfl) (Or.inl ⟨by rfl, ?_⟩) (by assumption) ?_
    rotate_left
    · intro w9 hSw; (try dsimp only at hSw); go_simp <;> with_reducible rfl
    try simp only [Act.put, List.getElem_toArray, List.getElem_cons_zero, List.getElem_cons_succ, List.setIfInBounds_toArray, List.set_cons_zero, List.set_cons_succ]
    refine AnyG.take (i := 3) (v := ?_) rfl (by kernel_rfl) (by kernel_rfl) (by kernel_rfl) (fun _ _ _ h => h) (by kernel_rfl) (by kernel_rfl) (Or.inl ⟨by rfl, ?_⟩) (by assumption) ?_
    rotate_left
    · intro w9 hSw; (try dsimp only at hSw); go_simp <;> with_reducible rfl
    try simp only [Act.put, List.getElem_toArray, List.getElem_cons_zero, List.getElem_cons_succ, List.setIfInBounds_toArray, List.set_cons_zero, List.set_cons_succ]
    refine AnyG.take (i := 4) (v := ?_) rfl (by kernel_rfl) (by kernel_rfl) (by kernel_rfl) (fun _ _ _ h => h) (by kernel_rfl) (by kernel_rfl) (Or.inl ⟨by rfl, ?_⟩) (by assumption) ?_
    rotate_left
    · intro w9 hSw; (try dsimp only at hSw); go_simp <;> with_reducible rfl
    try simp only [Act.put, List.getElem_toArray, List.getElem_cons_zero, List.getElem_cons_succ, List.setIfInBounds_toArray, List.set_cons_zero, List.set_cons_succ]
    refine AnyG.take (i := 5) (v := ?_) rfl (by kernel_rfl) (by kernel_rfl) (by kernel_rfl) (fun _ _ _ h => h) (by kernel_rfl) (by kernel_rfl) (Or.inl ⟨by rfl, ?_⟩) (by assumption) ?_
    rotate_left
    · intro w9 hSw; (try dsimp only at hSw); go_simp <;> with_reducible rfl
    try simp only [Act.put, List.getElem_toArray, List.getElem_cons_zero, List.getElem_cons_succ, List.setIfInBounds_toArray, List.set_cons_zero, List.set_cons_succ]
    refine AnyG.take (i := 6) (v := ?_) rfl (by kernel_rfl) (by kernel_rfl) (by kernel_rfl) (fun _ _ _ h => h) (by kernel_rfl) (by kernel_rfl) (Or.inl ⟨by rfl, ?_⟩) (by assumption) ?_
    rotate_left
    · intro w9 hSw; (try dsimp only at hSw); go_simp <;> with_reducible rfl
    try simp only [Act.put, List.getElem_toArray, List.getElem_cons_zero, List.getElem_cons_succ, List.setIfInBounds_toArray, List.set_cons_zero, List.set_cons_succ]
    refine AnyG.take (i := 7) (v := ?_) rfl (by kernel_rfl) (by kernel_rfl) (by kernel_rfl) (fun _ _ _ h => h) (by kernel_rfl) (by kernel_rfl) (Or.inl ⟨by rfl, ?_⟩) (by assumption) ?_
    rotate_left
    · intro w9 hSw; (try dsimp only at hSw); go_simp <;> with_reducible rfl
    try simp only [Act.put, List.getElem_toArray, List.getElem_cons_zero, List.getElem_cons_succ, List.setIfInBounds_toArray, List.set_cons_zero, List.set_cons_succ]
    refine AnyG.take (i := 8) (v := ?_) rfl (by kernel_rfl) (by kernel_rfl) (by kernel_rfl) (fun _ _ _ h => h) (by kernel_rfl) (by kernel_rfl) (Or.inl ⟨by rfl, ?_⟩) (by assumption) ?_
    rotate_left
    · intro w9 hSw; (try dsimp only at hSw); go_simp <;> with_reducible rfl
    try simp only [Act.put, List.getElem_toArray, List.getElem_cons_zero, List.getElem_cons_succ, List.setIfInBounds_toArray, List.set_cons_zero, List.set_cons_succ]
    refine AnyG.take (i := 9) (v := ?_) rfl (by kernel_rfl) (by kernel_rfl) (by kernel_rfl) (fun _ _ _ h => h) (by kernel_rfl) (by kernel_rfl) (Or.inl ⟨by rfl, ?_⟩) (by assumption) ?_
    rotate_left
    · intro w9 hSw; (try dsimp only at hSw); go_simp <;> with_reducible rfl
    try simp only [Act.put, List.getElem_toArray, List.getElem_cons_zero, List.getElem_cons_succ, List.setIfInBounds_toArray, List.set_cons_zero, List.set_cons_succ]
    refine AnyG.take (i := 10) (v := ?_) rfl (by kernel_rfl) (by kernel_rfl) (by kernel_rfl) (fun _ _ _ h => h) (by kernel_rfl) (by kernel_rfl) (Or.inl ⟨by rfl, ?_⟩) (by assumption) ?_
    rotate_left
    · intro w9 hSw; (try dsimp only at hSw); go_simp <;> with_reducible rfl
    try simp only [Act.put, List.getElem_toArray, List.getElem_cons_zero, List.getElem_cons_succ, List.setIfInBounds_toArray, List.set_cons_zero, List.set_cons_succ]
    refine AnyG.step (i := 11) (by kernel_rfl) rfl (fun K hK => ?_)
    go_simp
    refine hK.out _ _ (fun h => absurd h (by decide)) (fun _ => ?_)
    clear hK
    try simp only [Act.put, List.getElem_toArray, List.getElem_cons_zero, List.getElem_cons_succ, List.setIfInBounds_toArray, List.set_cons_zero, List.set_cons_succ]
    refine AnyG.done (by kernel_rfl) ?_ _
    clear KK K0 KD
    clear rc_k0 rc_k1 rc_k2 rc_k3 rc_k4 rc_k5 rc_k6 rc_k7 rc_k8 rc_k9 rc_k10 rc_k11 rc_k12 rc_k13 rc_k14 rf_k0 rf_k1 rf_k2 rf_k3 rf_k4 rf_k5 rf_k6 rf_k7 rf_k8 rf_k9 rf_k10 rf_k11 rf_k12 rf_k13 rf_k14 rl_k
    replace r_k := Lib.hid (show AtB (w3.setCell ⟨g, 5, none⟩ (.int .i64 T)) (g) #[x0, .int .i64 h1, .int .u64 l1, .int .i64 sh, .int .u64 sl, .int .i64 T, .int .i64 more, .int .i64 B, x1, x2, x3, x4, x5, x6, x7] WK from by have k := (r_k.out.set_n 5 (.int .i64 T)); simpa using k)
    replace r_m := Lib.hid (r_m.out.far (p := g) (by omega) 5 (.int .i64 T))
    replace BB := Lib.hid (below_set BB.out (b := g) (o := 5) (by omega) (.int .i64 T))
    generalize (w3.setCell ⟨g, 5, none⟩ (.int .i64 T)) = w4 at *
    have hb := below_drew (Below.refl w4.heap.size w4)
    generalize w4.drew = w5 at *
    replace r_k := Lib.hid (r_k.out.keep hb)
    replace r_m := Lib.hid (r_m.out.keep hb)
    replace BB := Lib.hid (below_next BB.out hb)
    clear hb
    obtain ⟨c_k0, c_k1, c_k2, c_k3, c_k4, c_k5, c_k6, c_k7, c_k8, c_k9, c_k10, c_k11, c_k12, c_k13, c_k14, f_k0, f_k1, f_k2, f_k3, f_k4, f_k5, f_k6, f_k7, f_k8, f_k9, f_k10, f_k11, f_k12, f_k13, f_k14⟩ := reads15 r_k.out
    have l_k := r_k.out.lt
    go_wp2_with fail
    go_quiet (fail)
    have hb := below_drawn (Below.refl w5.heap.size w5) nq
    generalize w5.drewN nq = w6 at *
    clear c_k0 c_k1 c_k2 c_k3 c_k4 c_k5 c_k6 c_k7 c_k8 c_k9 c_k10 c_k11 c_k12 c_k13 c_k14 f_k0 f_k1 f_k2 f_k3 f_k4 f_k5 f_k6 f_k7 f_k8 f_k9 f_k10 f_k11 f_k12 f_k13 f_k14 l_k
    replace r_k := Lib.hid (r_k.out.keep hb)
    replace r_m := Lib.hid (r_m.out.keep hb)
    replace BB := Lib.hid (below_next BB.out hb)
    clear hb nq
    go_wp2_with fail
    go_ret
    exact ⟨⟨show Ending.returned (.int .i64 (cutI Q)) = _ by rw [eQ.out], BB.out, _, _, _, r_k.out, ⟨by rw [HE.out.1]; exact hw1.out, by rw [eS.out]; exact HS.out, HE.out.2.symm, HM.out⟩⟩, r_m.out⟩

set_option maxRecDepth 100000 in
set_option maxHeartbeats 16000000 in
theorem ddnextm_v (F G B qh ql sh sl left more : Int) (x0 x1 x2 x3 x4 x5 x6 x7 : Value) (g : Nat) (hX : AXB F G B) (ax : AX F G B qh ql sh sl left more) (w w0 : World) (BB : Below w.heap.size w w0) (hg : w.heap.size ≤ g) (r_k : AtB w0 g #[x0, x1, x2, x3, x4, x5, x6, x7, .int .i64 qh, .int .u64 ql, .int .i64 sh, .int .u64 sl, .int .i64 left, .int .i64 more, .int .i64 B] WK) (gm : Nat) (cm : Array Value) (Tm : TypeId) (hgm : gm ≠ g) (r_m : AtB w0 gm cm Tm) :
    Calls Try.prog 64 #[.pointer (some ⟨g, 8, none⟩)] w0 (fun e w' => GiveNx F G B g (fun qh ql left => #[x0, x1, x2, x3, x4, x5, x6, x7, .int .i64 qh, .int .u64 ql, .int .i64 sh, .int .u64 sl, .int .i64 left, .int .i64 more, .int .i64 B]) sh sl more w e w' ∧ AtB w' gm cm Tm) := by
  obtain ⟨hl, hm⟩ := ax.quot hX.b.1
  have k1 := fdiv_room' (z := F * 65536) hX.b.1 ⟨by have := hX.f; omega, by have := hX.f; omega⟩
  have k2 := fdiv_room' (z := G * 65536) hX.b.1 ⟨by have := hX.g; omega, by have := hX.g; omega⟩
  have hS := fdiv_step (x := F * 65536) (y := G * 65536) hX.b.1
  rw [← Int.add_mul, ← ax.l, ← ax.m] at hS
  have hbB := hX.b
  have R := Lib.hid (show I128 ((F * 65536).fdiv B + (G * 65536).fdiv B) ∧ I128 ((F * 65536).fdiv B + (G * 65536).fdiv B + 1) by unfold I128; constructor <;> constructor <;> omega)
  have CC := Lib.hid (fun w => qcut ((F * 65536).fdiv B) qh ql ax.q w)
  have A1 := Lib.hid (fun w => wadd ((F * 65536).fdiv B) ((G * 65536).fdiv B) qh ql sh sl ax.q ax.s w)
  have A2 := Lib.hid (fun ah al bh bl hx hy w => wadd ((F * 65536).fdiv B + (G * 65536).fdiv B) 1 ah al bh bl hx hy w)
  have CO := Lib.hid (fun w => wof 1 ⟨by omega, by omega⟩ w)
  have HS := Lib.hid ax.s
  have HM := Lib.hid ax.m
  have HX := Lib.hid hX
  clear ax hX k1 k2
  obtain ⟨T, hT⟩ : ∃ T, T = left + more := ⟨_, rfl⟩
  have i1 : IntKind.i64.wrap (left + more) = T := by rw [hT]; exact iw (by omega)
  rw [← hT] at hS
  have BB := Lib.hid BB
  have r_k := Lib.hid r_k
  have r_m := Lib.hid r_m
  rcases dec_both (T ≥ B) with ⟨h, hd⟩ | ⟨h, hd⟩
  · have hE := hS.2 (by omega)
    obtain ⟨U, hU⟩ : ∃ U, U = T - B := ⟨_, rfl⟩
    have i2 : IntKind.i64.wrap (T - B) = U := by rw [hU]; exact iw (by omega)
    rw [← hU] at hE
    have HE := Lib.hid hE
    clear hl hm hbB h hT hU hS hE
    generalize eQ : (F * 65536).fdiv B = Q at *
    generalize eS : (G * 65536).fdiv B = S at *
    replace eQ := Lib.hid eQ; replace eS := Lib.hid eS
    go_enter Try.func64, Try.ntmps64
    obtain ⟨c_k0, c_k1, c_k2, c_k3, c_k4, c_k5, c_k6, c_k7, c_k8, c_k9, c_k10, c_k11, c_k12, c_k13, c_k14, f_k0, f_k1, f_k2, f_k3, f_k4, f_k5, f_k6, f_k7, f_k8, f_k9, f_k10, f_k11, f_k12, f_k13, f_k14⟩ := reads15 r_k.out
    have l_k := r_k.out.lt
    go_wp2_with fail
    refine (CC.out _).mono ?_
    rintro e w1 ⟨rfl, hb⟩
    clear c_k0 c_k1 c_k2 c_k3 c_k4 c_k5 c_k6 c_k7 c_k8 c_k9 c_k10 c_k11 c_k12 c_k13 c_k14 f_k0 f_k1 f_k2 f_k3 f_k4 f_k5 f_k6 f_k7 f_k8 f_k9 f_k10 f_k11 f_k12 f_k13 f_k14 l_k
    replace r_k := Lib.hid (r_k.out.keep hb)
    replace r_m := Lib.hid (r_m.out.keep hb)
    replace BB := Lib.hid (below_next BB.out hb)
    clear hb
    go_wp2_with fail
    have KK := Lib.hid (fun (w9 : World) (h : Below w1.heap.size w1 w9) => (cells15 (r_k.out.keep h) : (w9.cell? ⟨g, 0, none⟩ = some (x0) ∧ w9.cell? ⟨g, 1, none⟩ = some (x1) ∧ w9.cell? ⟨g, 2, none⟩ = some (x2) ∧ w9.cell? ⟨g, 3, none⟩ = some (x3) ∧ w9.cell? ⟨g, 4, none⟩ = some (x4) ∧ w9.cell? ⟨g, 5, none⟩ = some (x5) ∧ w9.cell? ⟨g, 6, none⟩ = some (x6) ∧ w9.cell? ⟨g, 7, none⟩ = some (x7) ∧ w9.cell? ⟨g, 8, none⟩ = some (.int .i64 qh) ∧ w9.cell? ⟨g, 9, none⟩ = some (.int .u64 ql) ∧ w9.cell? ⟨g, 10, none⟩ = some (.int .i64 sh) ∧ w9.cell? ⟨g, 11, none⟩ = some (.int .u64 sl) ∧ w9.cell? ⟨g, 12, none⟩ = some (.int .i64 left) ∧ w9.cell? ⟨g, 13, none⟩ = some (.int .i64 more) ∧ w9.cell? ⟨g, 14, none⟩ = some (.int .i64 B))))
    have K0 := KK.out w1 (Below.refl _ _)
    have KD := KK.out w1.drew (below_drew (Below.refl _ _))
    refine AnyG.begin_ (fun w9 => (w9.cell? ⟨g, 0, none⟩ = some (x0) ∧ w9.cell? ⟨g, 1, none⟩ = some (x1) ∧ w9.cell? ⟨g, 2, none⟩ = some (x2) ∧ w9.cell? ⟨g, 3, none⟩ = some (x3) ∧ w9.cell? ⟨g, 4, none⟩ = some (x4) ∧ w9.cell? ⟨g, 5, none⟩ = some (x5) ∧ w9.cell? ⟨g, 6, none⟩ = some (x6) ∧ w9.cell? ⟨g, 7, none⟩ = some (x7) ∧ w9.cell? ⟨g, 8, none⟩ = some (.int .i64 qh) ∧ w9.cell? ⟨g, 9, none⟩ = some (.int .u64 ql) ∧ w9.cell? ⟨g, 10, none⟩ = some (.int .i64 sh) ∧ w9.cell? ⟨g, 11, none⟩ = some (.int .u64 sl) ∧ w9.cell? ⟨g, 12, none⟩ = some (.int .i64 left) ∧ w9.cell? ⟨g, 13, none⟩ = some (.int .i64 more) ∧ w9.cell? ⟨g, 14, none⟩ = some (.int .i64 B))) 15 (by kernel_rfl) ?_
    refine AnyG.take (i := 0) (v := ?_) rfl (by kernel_rfl) (by kernel_rfl) (by kernel_rfl) (fun _ _ _ h => h) (by kernel_rfl) (by kernel_rfl) (Or.inl ⟨by rfl, ?_⟩) (by assumption) ?_
    rotate_left
    · intro w9 hSw; (try dsimp only at hSw); go_simp <;> with_reducible rfl
    try simp only [Act.put, List.getElem_toArray, List.getElem_cons_zero, List.getElem_cons_succ, List.setIfInBounds_toArray, List.set_cons_zero, List.set_cons_succ]
    refine AnyG.take (i := 1) (v := ?_) rfl (by kernel_rfl) (by kernel_rfl) (by kernel_rfl) (fun _ _ _ h => h) (by kernel_rfl) (by kernel_rfl) (Or.inl ⟨by rfl, ?_⟩) (by assumption) ?_
    rotate_left
    · intro w9 hSw; (try dsimp only at hSw); go_simp <;> with_reducible rfl
    try simp only [Act.put, List.getElem_toArray, List.getElem_cons_zero, List.getElem_cons_succ, List.setIfInBounds_toArray, List.set_cons_zero, List.set_cons_succ]
    refine AnyG.take (i := 2) (v := ?_) rfl (by kernel_rfl) (by kernel_rfl) (by kernel_rfl) (fun _ _ _ h => h) (by kernel_rfl) (by kernel_rfl) (Or.inl ⟨by rfl, ?_⟩) (by assumption) ?_
    rotate_left
    · intro w9 hSw; (try dsimp only at hSw); go_simp <;> with_reducible rfl
    try simp only [Act.put, List.getElem_toArray, List.getElem_cons_zero, List.getElem_cons_succ, List.setIfInBounds_toArray, List.set_cons_zero, List.set_cons_succ]
    refine AnyG.take (i := 3) (v := ?_) rfl (by kernel_rfl) (by kernel_rfl) (by kernel_rfl) (fun _ _ _ h => h) (by kernel_rfl) (by kernel_rfl) (Or.inl ⟨by rfl, ?_⟩) (by assumption) ?_
    rotate_left
    · intro w9 hSw; (try dsimp only at hSw); go_simp <;> with_reducible rfl
    try simp only [Act.put, List.getElem_toArray, List.getElem_cons_zero, List.getElem_cons_succ, List.setIfInBounds_toArray, List.set_cons_zero, List.set_cons_succ]
    refine AnyG.take (i := 4) (v := ?_) rfl (by kernel_rfl) (by kernel_rfl) (by kernel_rfl) (fun _ _ _ h => h) (by kernel_rfl) (by kernel_rfl) (Or.inl ⟨by rfl, ?_⟩) (by assumption) ?_
    rotate_left
    · intro w9 hSw; (try dsimp only at hSw); go_simp <;> with_reducible rfl
    try simp only [Act.put, List.getElem_toArray, List.getElem_cons_zero, List.getElem_cons_succ, List.setIfInBounds_toArray, List.set_cons_zero, List.set_cons_succ]
    refine AnyG.take (i := 5) (v := ?_) rfl (by kernel_rfl) (by kernel_rfl) (by kernel_rfl) (fun _ _ _ h => h) (by kernel_rfl) (by kernel_rfl) (Or.inl ⟨by rfl, ?_⟩) (by assumption) ?_
    rotate_left
    · intro w9 hSw; (try dsimp only at hSw); go_simp <;> with_reducible rfl
    try simp only [Act.put, List.getElem_toArray, List.getElem_cons_zero, List.getElem_cons_succ, List.setIfInBounds_toArray, List.set_cons_zero, List.set_cons_succ]
    refine AnyG.take (i := 6) (v := ?_) rfl (by kernel_rfl) (by kernel_rfl) (by kernel_rfl) (fun _ _ _ h => h) (by kernel_rfl) (by kernel_rfl) (Or.inl ⟨by rfl, ?_⟩) (by assumption) ?_
    rotate_left
    · intro w9 hSw; (try dsimp only at hSw); go_simp <;> with_reducible rfl
    try simp only [Act.put, List.getElem_toArray, List.getElem_cons_zero, List.getElem_cons_succ, List.setIfInBounds_toArray, List.set_cons_zero, List.set_cons_succ]
    refine AnyG.take (i := 7) (v := ?_) rfl (by kernel_rfl) (by kernel_rfl) (by kernel_rfl) (fun _ _ _ h => h) (by kernel_rfl) (by kernel_rfl) (Or.inl ⟨by rfl, ?_⟩) (by assumption) ?_
    rotate_left
    · intro w9 hSw; (try dsimp only at hSw); go_simp <;> with_reducible rfl
    try simp only [Act.put, List.getElem_toArray, List.getElem_cons_zero, List.getElem_cons_succ, List.setIfInBounds_toArray, List.set_cons_zero, List.set_cons_succ]
    refine AnyG.take (i := 8) (v := ?_) rfl (by kernel_rfl) (by kernel_rfl) (by kernel_rfl) (fun _ _ _ h => h) (by kernel_rfl) (by kernel_rfl) (Or.inl ⟨by rfl, ?_⟩) (by assumption) ?_
    rotate_left
    · intro w9 hSw; (try dsimp only at hSw); go_simp <;> with_reducible rfl
    try simp only [Act.put, List.getElem_toArray, List.getElem_cons_zero, List.getElem_cons_succ, List.setIfInBounds_toArray, List.set_cons_zero, List.set_cons_succ]
    refine AnyG.step (i := 9) (by kernel_rfl) rfl (fun K hK => ?_)
    go_simp
    go_at_call 71
    refine (A1.out _).mono ?_
    rintro e w2 ⟨h1, l1, ok1, rfl, hb, hw1⟩
    have B_w2 := Lib.hid (reg_next (w0 := w1) (by repeat (first | with_reducible exact Below.refl _ _ | with_reducible apply below_drew | with_reducible apply below_new)) hb)
    have K_w2 := KK.out _ B_w2.out
    obtain ⟨rc_k0, rc_k1, rc_k2, rc_k3, rc_k4, rc_k5, rc_k6, rc_k7, rc_k8, rc_k9, rc_k10, rc_k11, rc_k12, rc_k13, rc_k14, rf_k0, rf_k1, rf_k2, rf_k3, rf_k4, rf_k5, rf_k6, rf_k7, rf_k8, rf_k9, rf_k10, rf_k11, rf_k12, rf_k13, rf_k14⟩ := reads15 (r_k.out.keep B_w2.out)
    have rl_k := (r_k.out.keep B_w2.out).lt
    clear hb
    refine hK.out _ _ (fun _ => K_w2) (fun hHeld => ?_)
    replace hHeld := hHeld (by decide)
    clear hK
    try simp only [Act.put, List.getElem_toArray, List.getElem_cons_zero, List.getElem_cons_succ, List.setIfInBounds_toArray, List.set_cons_zero, List.set_cons_succ]
    refine AnyG.take (i := 10) (v := ?_) rfl (by kernel_rfl) (by kernel_rfl) (by kernel_rfl) (fun _ _ _ h => h) (by kernel_rfl) (by kernel_rfl) (Or.inl ⟨by rfl, ?_⟩) (by assumption) ?_
    rotate_left
    · intro w9 hSw; (try dsimp only at hSw); go_simp <;> with_reducible rfl
    try simp only [Act.put, List.getElem_toArray, List.getElem_cons_zero, List.getElem_cons_succ, List.setIfInBounds_toArray, List.set_cons_zero, List.set_cons_succ]
    refine AnyG.take (i := 11) (v := ?_) rfl (by kernel_rfl) (by kernel_rfl) (by kernel_rfl) (fun _ _ _ h => h) (by kernel_rfl) (by kernel_rfl) (Or.inl ⟨by rfl, ?_⟩) (by assumption) ?_
    rotate_left
    · intro w9 hSw; (try dsimp only at hSw); go_simp <;> with_reducible rfl
    try simp only [Act.put, List.getElem_toArray, List.getElem_cons_zero, List.getElem_cons_succ, List.setIfInBounds_toArray, List.set_cons_zero, List.set_cons_succ]
    refine AnyG.take0 (i := 12) (v := ?_) rfl (by kernel_rfl) (by kernel_rfl) (by kernel_rfl) (fun _ _ _ h => h) (by decide) (Or.inl ⟨by rfl, ?_⟩) (by assumption) ?_
    rotate_left
    · intro w9 hSw; clear hSw; go_simp <;> with_reducible rfl
    try simp only [Act.put, List.getElem_toArray, List.getElem_cons_zero, List.getElem_cons_succ, List.setIfInBounds_toArray, List.set_cons_zero, List.set_cons_succ]
    refine AnyG.take (i := 13) (v := ?_) rfl (by kernel_rfl) (by kernel_rfl) (by kernel_rfl) (fun _ _ _ h => h) (by kernel_rfl) (by kernel_rfl) (Or.inl ⟨by rfl, ?_⟩) (by assumption) ?_
    rotate_left
    · intro w9 hSw; (try dsimp only at hSw); go_simp <;> with_reducible rfl
    try simp only [Act.put, List.getElem_toArray, List.getElem_cons_zero, List.getElem_cons_succ, List.setIfInBounds_toArray, List.set_cons_zero, List.set_cons_succ]
    refine AnyG.take (i := 14) (v := ?_) rfl (by kernel_rfl) (by kernel_rfl) (by kernel_rfl) (fun _ _ _ h => h) (by kernel_rfl) (by kernel_rfl) (Or.inl ⟨by rfl, ?_⟩) (by assumption) ?_
    rotate_left
    · intro w9 hSw; (try dsimp only at hSw); go_simp <;> with_reducible rfl
    try simp only [Act.put, List.getElem_toArray, List.getElem_cons_zero, List.getElem_cons_succ, List.setIfInBounds_toArray, List.set_cons_zero, List.set_cons_succ]
    refine AnyG.step (i := 15) (by kernel_rfl) rfl (fun K hK => ?_)
    go_simp
    refine hK.out _ _ (fun h => absurd h (by decide)) (fun _ => ?_)
    clear hK
    try simp only [Act.put, List.getElem_toArray, List.getElem_cons_zero, List.getElem_cons_succ, List.setIfInBounds_toArray, List.set_cons_zero, List.set_cons_succ]
    refine AnyG.done (by kernel_rfl) ?_ _
    clear KK K0 KD K_w2
    replace r_k := Lib.hid (r_k.out.keep B_w2.out)
    replace r_m := Lib.hid (r_m.out.keep B_w2.out)
    replace BB := Lib.hid (below_next BB.out B_w2.out)
    clear B_w2
    replace hw1 := Lib.hid (hw1.of_room R.out.1)
    replace r_k := Lib.hid (show AtB ((w2.setCell ⟨g, 8, none⟩ (.int .i64 h1)).setCell ⟨g, 9, none⟩ (.int .u64 l1)) (g) #[x0, x1, x2, x3, x4, x5, x6, x7, .int .i64 h1, .int .u64 l1, .int .i64 sh, .int .u64 sl, .int .i64 left, .int .i64 more, .int .i64 B] WK from by have k := ((r_k.out.set_n 8 (.int .i64 h1)).set_n 9 (.int .u64 l1)); simpa using k)
    replace r_m := Lib.hid ((r_m.out.far (p := g) (by omega) 8 (.int .i64 h1)).far (p := g) (by omega) 9 (.int .u64 l1))
    replace BB := Lib.hid (below_set (below_set BB.out (b := g) (o := 8) (by omega) (.int .i64 h1)) (b := g) (o := 9) (by omega) (.int .u64 l1))
    generalize ((w2.setCell ⟨g, 8, none⟩ (.int .i64 h1)).setCell ⟨g, 9, none⟩ (.int .u64 l1)) = w3 at *
    go_wp2_with fail
    have KK := Lib.hid (fun (w9 : World) (h : Below w3.heap.size w3 w9) => (cells15 (r_k.out.keep h) : (w9.cell? ⟨g, 0, none⟩ = some (x0) ∧ w9.cell? ⟨g, 1, none⟩ = some (x1) ∧ w9.cell? ⟨g, 2, none⟩ = some (x2) ∧ w9.cell? ⟨g, 3, none⟩ = some (x3) ∧ w9.cell? ⟨g, 4, none⟩ = some (x4) ∧ w9.cell? ⟨g, 5, none⟩ = some (x5) ∧ w9.cell? ⟨g, 6, none⟩ = some (x6) ∧ w9.cell? ⟨g, 7, none⟩ = some (x7) ∧ w9.cell? ⟨g, 8, none⟩ = some (.int .i64 h1) ∧ w9.cell? ⟨g, 9, none⟩ = some (.int .u64 l1) ∧ w9.cell? ⟨g, 10, none⟩ = some (.int .i64 sh) ∧ w9.cell? ⟨g, 11, none⟩ = some (.int .u64 sl) ∧ w9.cell? ⟨g, 12, none⟩ = some (.int .i64 left) ∧ w9.cell? ⟨g, 13, none⟩ = some (.int .i64 more) ∧ w9.cell? ⟨g, 14, none⟩ = some (.int .i64 B))))
    have K0 := KK.out w3 (Below.refl _ _)
    have KD := KK.out w3.drew (below_drew (Below.refl _ _))
    obtain ⟨rc_k0, rc_k1, rc_k2, rc_k3, rc_k4, rc_k5, rc_k6, rc_k7, rc_k8, rc_k9, rc_k10, rc_k11, rc_k12, rc_k13, rc_k14, rf_k0, rf_k1, rf_k2, rf_k3, rf_k4, rf_k5, rf_k6, rf_k7, rf_k8, rf_k9, rf_k10, rf_k11, rf_k12, rf_k13, rf_k14⟩ := reads15 r_k.out
    have rl_k := r_k.out.lt
    refine AnyG.begin_ (fun w9 => (w9.cell? ⟨g, 0, none⟩ = some (x0) ∧ w9.cell? ⟨g, 1, none⟩ = some (x1) ∧ w9.cell? ⟨g, 2, none⟩ = some (x2) ∧ w9.cell? ⟨g, 3, none⟩ = some (x3) ∧ w9.cell? ⟨g, 4, none⟩ = some (x4) ∧ w9.cell? ⟨g, 5, none⟩ = some (x5) ∧ w9.cell? ⟨g, 6, none⟩ = some (x6) ∧ w9.cell? ⟨g, 7, none⟩ = some (x7) ∧ w9.cell? ⟨g, 8, none⟩ = some (.int .i64 h1) ∧ w9.cell? ⟨g, 9, none⟩ = some (.int .u64 l1) ∧ w9.cell? ⟨g, 10, none⟩ = some (.int .i64 sh) ∧ w9.cell? ⟨g, 11, none⟩ = some (.int .u64 sl) ∧ w9.cell? ⟨g, 12, none⟩ = some (.int .i64 left) ∧ w9.cell? ⟨g, 13, none⟩ = some (.int .i64 more) ∧ w9.cell? ⟨g, 14, none⟩ = some (.int .i64 B))) 11 (by kernel_rfl) ?_
    refine AnyG.take (i := 0) (v := ?_) rfl (by kernel_rfl) (by kernel_rfl) (by kernel_rfl) (fun _ _ _ h => h) (by kernel_rfl) (by kernel_rfl) (Or.inl ⟨by rfl, ?_⟩) (by assumption) ?_
    rotate_left
    · intro w9 hSw; (try dsimp only at hSw); go_simp <;> with_reducible rfl
    try simp only [Act.put, List.getElem_toArray, List.getElem_cons_zero, List.getElem_cons_succ, List.setIfInBounds_toArray, List.set_cons_zero, List.set_cons_succ]
    refine AnyG.take (i := 1) (v := ?_) rfl (by kernel_rfl) (by kernel_rfl) (by kernel_rfl) (fun _ _ _ h => h) (by kernel_rfl) (by kernel_rfl) (Or.inl ⟨by rfl, ?_⟩) (by assumption) ?_
    rotate_left
    · intro w9 hSw; (try dsimp only at hSw); go_simp <;> with_reducible rfl
    try simp only [Act.put, List.getElem_toArray, List.getElem_cons_zero, List.getElem_cons_succ, List.setIfInBounds_toArray, List.set_cons_zero, List.set_cons_succ]
    refine AnyG.take (i := 2) (v := ?_) rfl (by kernel_rfl) (by kernel_rfl) (by kernel_rfl) (fun _ _ _ h => h) (by kernel_rfl) (by kernel_rfl) (Or.inl ⟨by rfl, ?_⟩) (by assumption) ?_
    rotate_left
    · intro w9 hSw; (try dsimp only at hSw); go_simp <;> with_reducible rfl
    try simp only [Act.put, List.getElem_toArray, List.getElem_cons_zero, List.getElem_cons_succ, List.setIfInBounds_toArray, List.set_cons_zero, List.set_cons_succ]
    refine AnyG.take (i := 3) (v := ?_) rfl (by kernel_rfl) (by kernel_rfl) (by kernel_rfl) (fun _ _ _ h => h) (by kernel_rfl) (by kernel_rfl) (Or.inl ⟨by rfl, ?_⟩) (by assumption) ?_
    rotate_left
    · intro w9 hSw; (try dsimp only at hSw); go_simp <;> with_reducible rfl
    try simp only [Act.put, List.getElem_toArray, List.getElem_cons_zero, List.getElem_cons_succ, List.setIfInBounds_toArray, List.set_cons_zero, List.set_cons_succ]
    refine AnyG.take (i := 4) (v := ?_) rfl (by kernel_rfl) (by kernel_rfl) (by kernel_rfl) (fun _ _ _ h => h) (by kernel_rfl) (by kernel_rfl) (Or.inl ⟨by rfl, ?_⟩) (by assumption) ?_
    rotate_left
    · intro w9 hSw; (try dsimp only at hSw); go_simp <;> with_reducible rfl
    try simp only [Act.put, List.getElem_toArray, List.getElem_cons_zero, List.getElem_cons_succ, List.setIfInBounds_toArray, List.set_cons_zero, List.set_cons_succ]
    refine AnyG.take (i := 5) (v := ?_) rfl (by kernel_rfl) (by kernel_rfl) (by kernel_rfl) (fun _ _ _ h => h) (by kernel_rfl) (by kernel_rfl) (Or.inl ⟨by rfl, ?_⟩) (by assumption) ?_
    rotate_left
    · intro w9 hSw; (try dsimp only at hSw); go_simp <;> with_reducible rfl
    try simp only [Act.put, List.getElem_toArray, List.getElem_cons_zero, List.getElem_cons_succ, List.setIfInBounds_toArray, List.set_cons_zero, List.set_cons_succ]
    refine AnyG.take (i := 6) (v := ?_) rfl (by kernel_rfl) (by kernel_rfl) (by kernel_rfl) (fun _ _ _ h => h) (by kernel_rfl) (by kernel_rfl) (Or.inl ⟨by rfl, ?_⟩) (by assumption) ?_
    rotate_left
    · intro w9 hSw; (try dsimp only at hSw); go_simp <;> with_reducible rfl
    try simp only [Act.put, List.getElem_toArray, List.getElem_cons_zero, List.getElem_cons_succ, List.setIfInBounds_toArray, List.set_cons_zero, List.set_cons_succ]
    refine AnyG.take (i := 7) (v := ?_) rfl (by kernel_rfl) (by kernel_rfl) (by kernel_rfl) (fun _ _ _ h => h) (by kernel_rfl) (by kernel_rfl) (Or.inl ⟨by rfl, ?_⟩) (by assumption) ?_
    rotate_left
    · intro w9 hSw; (try dsimp only at hSw); go_simp <;> with_reducible rfl
    try simp only [Act.put, List.getElem_toArray, List.getElem_cons_zero, List.getElem_cons_succ, List.setIfInBounds_toArray, List.set_cons_zero, List.set_cons_succ]
    refine AnyG.take (i := 8) (v := ?_) rfl (by kernel_rfl) (by kernel_rfl) (by kernel_rfl) (fun _ _ _ h => h) (by kernel_rfl) (by kernel_rfl) (Or.inl ⟨by rfl, ?_⟩) (by assumption) ?_
    rotate_left
    · intro w9 hSw; (try dsimp only at hSw); go_simp <;> with_reducible rfl
    try simp only [Act.put, List.getElem_toArray, List.getElem_cons_zero, List.getElem_cons_succ, List.setIfInBounds_toArray, List.set_cons_zero, List.set_cons_succ]
    refine AnyG.take (i := 9) (v := ?_) rfl (by kernel_rfl) (by kernel_rfl) (by kernel_rfl) (fun _ _ _ h => h) (by kernel_rfl) (by kernel_rfl) (Or.inl ⟨by rfl, ?_⟩) (by assumption) ?_
    rotate_left
    · intro w9 hSw; (try dsimp only at hSw); go_simp <;> with_reducible rfl
    try simp only [Act.put, List.getElem_toArray, List.getElem_cons_zero, List.getElem_cons_succ, List.setIfInBounds_toArray, List.set_cons_zero, List.set_cons_succ]
    refine AnyG.take (i := 10) (v := ?_) rfl (by kernel_rfl) (by kernel_rfl) (by kernel_rfl) (fun _ _ _ h => h) (by kernel_rfl) (by kernel_rfl) (Or.inl ⟨by rfl, ?_⟩) (by assumption) ?_
    rotate_left
    · intro w9 hSw; (try dsimp only at hSw); go_simp <;> with_reducible rfl
    try simp only [Act.put, List.getElem_toArray, List.getElem_cons_zero, List.getElem_cons_succ, List.setIfInBounds_toArray, List.set_cons_zero, List.set_cons_succ]
    refine AnyG.step (i := 11) (by kernel_rfl) rfl (fun K hK => ?_)
    go_simp
    refine hK.out _ _ (fun h => absurd h (by decide)) (fun _ => ?_)
    clear hK
    try simp only [Act.put, List.getElem_toArray, List.getElem_cons_zero, List.getElem_cons_succ, List.setIfInBounds_toArray, List.set_cons_zero, List.set_cons_succ]
    refine AnyG.done (by kernel_rfl) ?_ _
    clear KK K0 KD
    clear rc_k0 rc_k1 rc_k2 rc_k3 rc_k4 rc_k5 rc_k6 rc_k7 rc_k8 rc_k9 rc_k10 rc_k11 rc_k12 rc_k13 rc_k14 rf_k0 rf_k1 rf_k2 rf_k3 rf_k4 rf_k5 rf_k6 rf_k7 rf_k8 rf_k9 rf_k10 rf_k11 rf_k12 rf_k13 rf_k14 rl_k
    replace r_k := Lib.hid (show AtB (w3.setCell ⟨g, 12, none⟩ (.int .i64 T)) (g) #[x0, x1, x2, x3, x4, x5, x6, x7, .int .i64 h1, .int .u64 l1, .int .i64 sh, .int .u64 sl, .int .i64 T, .int .i64 more, .int .i64 B] WK from by have k := (r_k.out.set_n 12 (.int .i64 T)); simpa using k)
    replace r_m := Lib.hid (r_m.out.far (p := g) (by omega) 12 (.int .i64 T))
    replace BB := Lib.hid (below_set BB.out (b := g) (o := 12) (by omega) (.int .i64 T))
    generalize (w3.setCell ⟨g, 12, none⟩ (.int .i64 T)) = w4 at *
    have hb := below_drew (Below.refl w4.heap.size w4)
    generalize w4.drew = w5 at *
    replace r_k := Lib.hid (r_k.out.keep hb)
    replace r_m := Lib.hid (r_m.out.keep hb)
    replace BB := Lib.hid (below_next BB.out hb)
    clear hb
    obtain ⟨c_k0, c_k1, c_k2, c_k3, c_k4, c_k5, c_k6, c_k7, c_k8, c_k9, c_k10, c_k11, c_k12, c_k13, c_k14, f_k0, f_k1, f_k2, f_k3, f_k4, f_k5, f_k6, f_k7, f_k8, f_k9, f_k10, f_k11, f_k12, f_k13, f_k14⟩ := reads15 r_k.out
    have l_k := r_k.out.lt
    go_wp2_with fail
    go_quiet (fail)
    have hb := below_drawn (Below.refl w5.heap.size w5) nq
    generalize w5.drewN nq = w6 at *
    clear c_k0 c_k1 c_k2 c_k3 c_k4 c_k5 c_k6 c_k7 c_k8 c_k9 c_k10 c_k11 c_k12 c_k13 c_k14 f_k0 f_k1 f_k2 f_k3 f_k4 f_k5 f_k6 f_k7 f_k8 f_k9 f_k10 f_k11 f_k12 f_k13 f_k14 l_k
    replace r_k := Lib.hid (r_k.out.keep hb)
    replace r_m := Lib.hid (r_m.out.keep hb)
    replace BB := Lib.hid (below_next BB.out hb)
    clear hb nq
    go_wp2_with fail
    have KK := Lib.hid (fun (w9 : World) (h : Below w6.heap.size w6 w9) => (cells15 (r_k.out.keep h) : (w9.cell? ⟨g, 0, none⟩ = some (x0) ∧ w9.cell? ⟨g, 1, none⟩ = some (x1) ∧ w9.cell? ⟨g, 2, none⟩ = some (x2) ∧ w9.cell? ⟨g, 3, none⟩ = some (x3) ∧ w9.cell? ⟨g, 4, none⟩ = some (x4) ∧ w9.cell? ⟨g, 5, none⟩ = some (x5) ∧ w9.cell? ⟨g, 6, none⟩ = some (x6) ∧ w9.cell? ⟨g, 7, none⟩ = some (x7) ∧ w9.cell? ⟨g, 8, none⟩ = some (.int .i64 h1) ∧ w9.cell? ⟨g, 9, none⟩ = some (.int .u64 l1) ∧ w9.cell? ⟨g, 10, none⟩ = some (.int .i64 sh) ∧ w9.cell? ⟨g, 11, none⟩ = some (.int .u64 sl) ∧ w9.cell? ⟨g, 12, none⟩ = some (.int .i64 T) ∧ w9.cell? ⟨g, 13, none⟩ = some (.int .i64 more) ∧ w9.cell? ⟨g, 14, none⟩ = some (.int .i64 B))))
    have K0 := KK.out w6 (Below.refl _ _)
    have KD := KK.out w6.drew (below_drew (Below.refl _ _))
    obtain ⟨rc_k0, rc_k1, rc_k2, rc_k3, rc_k4, rc_k5, rc_k6, rc_k7, rc_k8, rc_k9, rc_k10, rc_k11, rc_k12, rc_k13, rc_k14, rf_k0, rf_k1, rf_k2, rf_k3, rf_k4, rf_k5, rf_k6, rf_k7, rf_k8, rf_k9, rf_k10, rf_k11, rf_k12, rf_k13, rf_k14⟩ := reads15 r_k.out
    have rl_k := r_k.out.lt
    refine AnyG.begin_ (fun w9 => (w9.cell? ⟨g, 0, none⟩ = some (x0) ∧ w9.cell? ⟨g, 1, none⟩ = some (x1) ∧ w9.cell? ⟨g, 2, none⟩ = some (x2) ∧ w9.cell? ⟨g, 3, none⟩ = some (x3) ∧ w9.cell? ⟨g, 4, none⟩ = some (x4) ∧ w9.cell? ⟨g, 5, none⟩ = some (x5) ∧ w9.cell? ⟨g, 6, none⟩ = some (x6) ∧ w9.cell? ⟨g, 7, none⟩ = some (x7) ∧ w9.cell? ⟨g, 8, none⟩ = some (.int .i64 h1) ∧ w9.cell? ⟨g, 9, none⟩ = some (.int .u64 l1) ∧ w9.cell? ⟨g, 10, none⟩ = some (.int .i64 sh) ∧ w9.cell? ⟨g, 11, none⟩ = some (.int .u64 sl) ∧ w9.cell? ⟨g, 12, none⟩ = some (.int .i64 T) ∧ w9.cell? ⟨g, 13, none⟩ = some (.int .i64 more) ∧ w9.cell? ⟨g, 14, none⟩ = some (.int .i64 B))) 11 (by kernel_rfl) ?_
    refine AnyG.take (i := 0) (v := ?_) rfl (by kernel_rfl) (by kernel_rfl) (by kernel_rfl) (fun _ _ _ h => h) (by kernel_rfl) (by kernel_rfl) (Or.inl ⟨by rfl, ?_⟩) (by assumption) ?_
    rotate_left
    · intro w9 hSw; (try dsimp only at hSw); go_simp <;> with_reducible rfl
    try simp only [Act.put, List.getElem_toArray, List.getElem_cons_zero, List.getElem_cons_succ, List.setIfInBounds_toArray, List.set_cons_zero, List.set_cons_succ]
    refine AnyG.take (i := 1) (v := ?_) rfl (by kernel_rfl) (by kernel_rfl) (by kernel_rfl) (fun _ _ _ h => h) (by kernel_rfl) (by kernel_rfl) (Or.inl ⟨by rfl, ?_⟩) (by assumption) ?_
    rotate_left
    · intro w9 hSw; (try dsimp only at hSw); go_simp <;> with_reducible rfl
    try simp only [Act.put, List.getElem_toArray, List.getElem_cons_zero, List.getElem_cons_succ, List.setIfInBounds_toArray, List.set_cons_zero, List.set_cons_succ]
    refine AnyG.take (i := 2) (v := ?_) rfl (by kernel_rfl) (by kernel_rfl) (by kernel_rfl) (fun _ _ _ h => h) (by kernel_rfl) (by kernel_rfl) (Or.inl ⟨by rfl, ?_⟩) (by assumption) ?_
    rotate_left
    · intro w9 hSw; (try dsimp only at hSw); go_simp <;> with_reducible rfl
    try simp only [Act.put, List.getElem_toArray, List.getElem_cons_zero, List.getElem_cons_succ, List.setIfInBounds_toArray, List.set_cons_zero, List.set_cons_succ]
    refine AnyG.take (i := 3) (v := ?_) rfl (by kernel_rfl) (by kernel_rfl) (by kernel_rfl) (fun _ _ _ h => h) (by kernel_rfl) (by kernel_rfl) (Or.inl ⟨by rfl, ?_⟩) (by assumption) ?_
    rotate_left
    · intro w9 hSw; (try dsimp only at hSw); go_simp <;> with_reducible rfl
    try simp only [Act.put, List.getElem_toArray, List.getElem_cons_zero, List.getElem_cons_succ, List.setIfInBounds_toArray, List.set_cons_zero, List.set_cons_succ]
    refine AnyG.take (i := 4) (v := ?_) rfl (by kernel_rfl) (by kernel_rfl) (by kernel_rfl) (fun _ _ _ h => h) (by kernel_rfl) (by kernel_rfl) (Or.inl ⟨by rfl, ?_⟩) (by assumption) ?_
    rotate_left
    · intro w9 hSw; (try dsimp only at hSw); go_simp <;> with_reducible rfl
    try simp only [Act.put, List.getElem_toArray, List.getElem_cons_zero, List.getElem_cons_succ, List.setIfInBounds_toArray, List.set_cons_zero, List.set_cons_succ]
    refine AnyG.take (i := 5) (v := ?_) rfl (by kernel_rfl) (by kernel_rfl) (by kernel_rfl) (fun _ _ _ h => h) (by kernel_rfl) (by kernel_rfl) (Or.inl ⟨by rfl, ?_⟩) (by assumption) ?_
    rotate_left
    · intro w9 hSw; (try dsimp only at hSw); go_simp <;> with_reducible rfl
    try simp only [Act.put, List.getElem_toArray, List.getElem_cons_zero, List.getElem_cons_succ, List.setIfInBounds_toArray, List.set_cons_zero, List.set_cons_succ]
    refine AnyG.take (i := 6) (v := ?_) rfl (by kernel_rfl) (by kernel_rfl) (by kernel_rfl) (fun _ _ _ h => h) (by kernel_rfl) (by kernel_rfl) (Or.inl ⟨by rfl, ?_⟩) (by assumption) ?_
    rotate_left
    · intro w9 hSw; (try dsimp only at hSw); go_simp <;> with_reducible rfl
    try simp only [Act.put, List.getElem_toArray, List.getElem_cons_zero, List.getElem_cons_succ, List.setIfInBounds_toArray, List.set_cons_zero, List.set_cons_succ]
    refine AnyG.take (i := 7) (v := ?_) rfl (by kernel_rfl) (by kernel_rfl) (by kernel_rfl) (fun _ _ _ h => h) (by kernel_rfl) (by kernel_rfl) (Or.inl ⟨by rfl, ?_⟩) (by assumption) ?_
    rotate_left
    · intro w9 hSw; (try dsimp only at hSw); go_simp <;> with_reducible rfl
    try simp only [Act.put, List.getElem_toArray, List.getElem_cons_zero, List.getElem_cons_succ, List.setIfInBounds_toArray, List.set_cons_zero, List.set_cons_succ]
    refine AnyG.take (i := 8) (v := ?_) rfl (by kernel_rfl) (by kernel_rfl) (by kernel_rfl) (fun _ _ _ h => h) (by kernel_rfl) (by kernel_rfl) (Or.inl ⟨by rfl, ?_⟩) (by assumption) ?_
    rotate_left
    · intro w9 hSw; (try dsimp only at hSw); go_simp <;> with_reducible rfl
    try simp only [Act.put, List.getElem_toArray, List.getElem_cons_zero, List.getElem_cons_succ, List.setIfInBounds_toArray, List.set_cons_zero, List.set_cons_succ]
    refine AnyG.take (i := 9) (v := ?_) rfl (by kernel_rfl) (by kernel_rfl) (by kernel_rfl) (fun _ _ _ h => h) (by kernel_rfl) (by kernel_rfl) (Or.inl ⟨by rfl, ?_⟩) (by assumption) ?_
    rotate_left
    · intro w9 hSw; (try dsimp only at hSw); go_simp <;> with_reducible rfl
    try simp only [Act.put, List.getElem_toArray, List.getElem_cons_zero, List.getElem_cons_succ, List.setIfInBounds_toArray, List.set_cons_zero, List.set_cons_succ]
    refine AnyG.take (i := 10) (v := ?_) rfl (by kernel_rfl) (by kernel_rfl) (by kernel_rfl) (fun _ _ _ h => h) (by kernel_rfl) (by kernel_rfl) (Or.inl ⟨by rfl, ?_⟩) (by assumption) ?_
    rotate_left
    · intro w9 hSw; (try dsimp only at hSw); go_simp <;> with_reducible rfl
    try simp only [Act.put, List.getElem_toArray, List.getElem_cons_zero, List.getElem_cons_succ, List.setIfInBounds_toArray, List.set_cons_zero, List.set_cons_succ]
    refine AnyG.step (i := 11) (by kernel_rfl) rfl (fun K hK => ?_)
    go_simp
    refine hK.out _ _ (fun h => absurd h (by decide)) (fun _ => ?_)
    clear hK
    try simp only [Act.put, List.getElem_toArray, List.getElem_cons_zero, List.getElem_cons_succ, List.setIfInBounds_toArray, List.set_cons_zero, List.set_cons_succ]
    refine AnyG.done (by kernel_rfl) ?_ _
    clear KK K0 KD
    clear rc_k0 rc_k1 rc_k2 rc_k3 rc_k4 rc_k5 rc_k6 rc_k7 rc_k8 rc_k9 rc_k10 rc_k11 rc_k12 rc_k13 rc_k14 rf_k0 rf_k1 rf_k2 rf_k3 rf_k4 rf_k5 rf_k6 rf_k7 rf_k8 rf_k9 rf_k10 rf_k11 rf_k12 rf_k13 rf_k14 rl_k
    replace r_k := Lib.hid (show AtB (w6.setCell ⟨g, 12, none⟩ (.int .i64 U)) (g) #[x0, x1, x2, x3, x4, x5, x6, x7, .int .i64 h1, .int .u64 l1, .int .i64 sh, .int .u64 sl, .int .i64 U, .int .i64 more, .int .i64 B] WK from by have k := (r_k.out.set_n 12 (.int .i64 U)); simpa using k)
    replace r_m := Lib.hid (r_m.out.far (p := g) (by omega) 12 (.int .i64 U))
    replace BB := Lib.hid (below_set BB.out (b := g) (o := 12) (by omega) (.int .i64 U))
    generalize (w6.setCell ⟨g, 12, none⟩ (.int .i64 U)) = w7 at *
    have hb := below_drew (Below.refl w7.heap.size w7)
    generalize w7.drew = w8 at *
    replace r_k := Lib.hid (r_k.out.keep hb)
    replace r_m := Lib.hid (r_m.out.keep hb)
    replace BB := Lib.hid (below_next BB.out hb)
    clear hb
    go_wp2_with fail
    have KK := Lib.hid (fun (w9 : World) (h : Below w8.heap.size w8 w9) => (cells15 (r_k.out.keep h) : (w9.cell? ⟨g, 0, none⟩ = some (x0) ∧ w9.cell? ⟨g, 1, none⟩ = some (x1) ∧ w9.cell? ⟨g, 2, none⟩ = some (x2) ∧ w9.cell? ⟨g, 3, none⟩ = some (x3) ∧ w9.cell? ⟨g, 4, none⟩ = some (x4) ∧ w9.cell? ⟨g, 5, none⟩ = some (x5) ∧ w9.cell? ⟨g, 6, none⟩ = some (x6) ∧ w9.cell? ⟨g, 7, none⟩ = some (x7) ∧ w9.cell? ⟨g, 8, none⟩ = some (.int .i64 h1) ∧ w9.cell? ⟨g, 9, none⟩ = some (.int .u64 l1) ∧ w9.cell? ⟨g, 10, none⟩ = some (.int .i64 sh) ∧ w9.cell? ⟨g, 11, none⟩ = some (.int .u64 sl) ∧ w9.cell? ⟨g, 12, none⟩ = some (.int .i64 U) ∧ w9.cell? ⟨g, 13, none⟩ = some (.int .i64 more) ∧ w9.cell? ⟨g, 14, none⟩ = some (.int .i64 B))))
    have K0 := KK.out w8 (Below.refl _ _)
    have KD := KK.out w8.drew (below_drew (Below.refl _ _))
    refine AnyG.begin_ (fun w9 => (w9.cell? ⟨g, 0, none⟩ = some (x0) ∧ w9.cell? ⟨g, 1, none⟩ = some (x1) ∧ w9.cell? ⟨g, 2, none⟩ = some (x2) ∧ w9.cell? ⟨g, 3, none⟩ = some (x3) ∧ w9.cell? ⟨g, 4, none⟩ = some (x4) ∧ w9.cell? ⟨g, 5, none⟩ = some (x5) ∧ w9.cell? ⟨g, 6, none⟩ = some (x6) ∧ w9.cell? ⟨g, 7, none⟩ = some (x7) ∧ w9.cell? ⟨g, 8, none⟩ = some (.int .i64 h1) ∧ w9.cell? ⟨g, 9, none⟩ = some (.int .u64 l1) ∧ w9.cell? ⟨g, 10, none⟩ = some (.int .i64 sh) ∧ w9.cell? ⟨g, 11, none⟩ = some (.int .u64 sl) ∧ w9.cell? ⟨g, 12, none⟩ = some (.int .i64 U) ∧ w9.cell? ⟨g, 13, none⟩ = some (.int .i64 more) ∧ w9.cell? ⟨g, 14, none⟩ = some (.int .i64 B))) 12 (by kernel_rfl) ?_
    refine AnyG.take (i := 0) (v := ?_) rfl (by kernel_rfl) (by kernel_rfl) (by kernel_rfl) (fun _ _ _ h => h) (by kernel_rfl) (by kernel_rfl) (Or.inl ⟨by rfl, ?_⟩) (by assumption) ?_
    rotate_left
    · intro w9 hSw; (try dsimp only at hSw); go_simp <;> with_reducible rfl
    try simp only [Act.put, List.getElem_toArray, List.getElem_cons_zero, List.getElem_cons_succ, List.setIfInBounds_toArray, List.set_cons_zero, List.set_cons_succ]
    refine AnyG.take (i := 1) (v := ?_) rfl (by kernel_rfl) (by kernel_rfl) (by kernel_rfl) (fun _ _ _ h => h) (by kernel_rfl) (by kernel_rfl) (Or.inl ⟨by rfl, ?_⟩) (by assumption) ?_
    rotate_left
    · intro w9 hSw; (try dsimp only at hSw); go_simp <;> with_reducible rfl
    try simp only [Act.put, List.getElem_toArray, List.getElem_cons_zero, List.getElem_cons_succ, List.setIfInBounds_toArray, List.set_cons_zero, List.set_cons_succ]
    refine AnyG.take (i := 2) (v := ?_) rfl (by kernel_rfl) (by kernel_rfl) (by kernel_rfl) (fun _ _ _ h => h) (by kernel_rfl) (by kernel_rfl) (Or.inl ⟨by rfl, ?_⟩) (by assumption) ?_
    rotate_left
    · intro w9 hSw; (try dsimp only at hSw); go_simp <;> with_reducible rfl
    try simp only [Act.put, List.getElem_toArray, List.getElem_cons_zero, List.getElem_cons_succ, List.setIfInBounds_toArray, List.set_cons_zero, List.set_cons_succ]
    refine AnyG.take (i := 3) (v := ?_) rfl (by kernel_rfl) (by kernel_rfl) (by kernel_rfl) (fun _ _ _ h => h) (by kernel_rfl) (by kernel_rfl) (Or.inl ⟨by rfl, ?_⟩) (by assumption) ?_
    rotate_left
    · intro w9 hSw; (try dsimp only at hSw); go_simp <;> with_reducible rfl
    try simp only [Act.put, List.getElem_toArray, List.getElem_cons_zero, List.getElem_cons_succ, List.setIfInBounds_toArray, List.set_cons_zero, List.set_cons_succ]
    refine AnyG.take (i := 4) (v := ?_) rfl (by kernel_rfl) (by kernel_rfl) (by kernel_rfl) (fun _ _ _ h => h) (by kernel_rfl) (by kernel_rfl) (Or.inl ⟨by rfl, ?_⟩) (by assumption) ?_
    rotate_left
    · intro w9 hSw; (try dsimp only at hSw); go_simp <;> with_reducible rfl
    try simp only [Act.put, List.getElem_toArray, List.getElem_cons_zero, List.getElem_cons_succ, List.setIfInBounds_toArray, List.set_cons_zero, List.set_cons_succ]
    refine AnyG.step (i := 5) (by kernel_rfl) rfl (fun K hK => ?_)
    go_simp
    go_at_call 84
    refine (CO.out _).mono ?_
    rintro e w10 ⟨h2, l2, rfl, hb, hw2⟩
    have B_w10 := Lib.hid (reg_next (w0 := w8) (by repeat (first | with_reducible exact Below.refl _ _ | with_reducible apply below_drew | with_reducible apply below_new)) hb)
    have K_w10 := KK.out _ B_w10.out
    clear hb
    refine hK.out _ _ (fun _ => K_w10) (fun hHeld => ?_)
    replace hHeld := hHeld (by decide)
    clear hK
    try simp only [Act.put, List.getElem_toArray, List.getElem_cons_zero, List.getElem_cons_succ, List.setIfInBounds_toArray, List.set_cons_zero, List.set_cons_succ]
    refine AnyG.step (i := 6) (by kernel_rfl) rfl (fun K hK => ?_)
    go_simp
    go_at_call 71
    refine (A2.out _ _ _ _ hw1.out hw2 _).mono ?_
    rintro e w11 ⟨h3, l3, ok3, rfl, hb, hw3⟩
    have B_w11 := Lib.hid (below_next B_w10.out hb)
    have K_w11 := KK.out _ B_w11.out
    obtain ⟨rc_k0, rc_k1, rc_k2, rc_k3, rc_k4, rc_k5, rc_k6, rc_k7, rc_k8, rc_k9, rc_k10, rc_k11, rc_k12, rc_k13, rc_k14, rf_k0, rf_k1, rf_k2, rf_k3, rf_k4, rf_k5, rf_k6, rf_k7, rf_k8, rf_k9, rf_k10, rf_k11, rf_k12, rf_k13, rf_k14⟩ := reads15 (r_k.out.keep B_w11.out)
    have rl_k := (r_k.out.keep B_w11.out).lt
    clear hb
    refine hK.out _ _ (fun _ => K_w11) (fun hHeld => ?_)
    replace hHeld := hHeld (by decide)
    clear hK
    try simp only [Act.put, List.getElem_toArray, List.getElem_cons_zero, List.getElem_cons_succ, List.setIfInBounds_toArray, List.set_cons_zero, List.set_cons_succ]
    refine AnyG.take (i := 7) (v := ?_) rfl (by kernel_rfl) (by kernel_rfl) (by kernel_rfl) (fun _ _ _ h => h) (by kernel_rfl) (by kernel_rfl) (Or.inl ⟨by rfl, ?_⟩) (by assumption) ?_
    rotate_left
    · intro w9 hSw; (try dsimp only at hSw); go_simp <;> with_reducible rfl
    try simp only [Act.put, List.getElem_toArray, List.getElem_cons_zero, List.getElem_cons_succ, List.setIfInBounds_toArray, List.set_cons_zero, List.set_cons_succ]
    refine AnyG.take (i := 8) (v := ?_) rfl (by kernel_rfl) (by kernel_rfl) (by kernel_rfl) (fun _ _ _ h => h) (by kernel_rfl) (by kernel_rfl) (Or.inl ⟨by rfl, ?_⟩) (by assumption) ?_
    rotate_left
    · intro w9 hSw; (try dsimp only at hSw); go_simp <;> with_reducible rfl
    try simp only [Act.put, List.getElem_toArray, List.getElem_cons_zero, List.getElem_cons_succ, List.setIfInBounds_toArray, List.set_cons_zero, List.set_cons_succ]
    refine AnyG.take0 (i := 9) (v := ?_) rfl (by kernel_rfl) (by kernel_rfl) (by kernel_rfl) (fun _ _ _ h => h) (by decide) (Or.inl ⟨by rfl, ?_⟩) (by assumption) ?_
    rotate_left
    · intro w9 hSw; clear hSw; go_simp <;> with_reducible rfl
    try simp only [Act.put, List.getElem_toArray, List.getElem_cons_zero, List.getElem_cons_succ, List.setIfInBounds_toArray, List.set_cons_zero, List.set_cons_succ]
    refine AnyG.take (i := 10) (v := ?_) rfl (by kernel_rfl) (by kernel_rfl) (by kernel_rfl) (fun _ _ _ h => h) (by kernel_rfl) (by kernel_rfl) (Or.inl ⟨by rfl, ?_⟩) (by assumption) ?_
    rotate_left
    · intro w9 hSw; (try dsimp only at hSw); go_simp <;> with_reducible rfl
    try simp only [Act.put, List.getElem_toArray, List.getElem_cons_zero, List.getElem_cons_succ, List.setIfInBounds_toArray, List.set_cons_zero, List.set_cons_succ]
    refine AnyG.take (i := 11) (v := ?_) rfl (by kernel_rfl) (by kernel_rfl) (by kernel_rfl) (fun _ _ _ h => h) (by kernel_rfl) (by kernel_rfl) (Or.inl ⟨by rfl, ?_⟩) (by assumption) ?_
    rotate_left
    · intro w9 hSw; (try dsimp only at hSw); go_simp <;> with_reducible rfl
    try simp only [Act.put, List.getElem_toArray, List.getElem_cons_zero, List.getElem_cons_succ, List.setIfInBounds_toArray, List.set_cons_zero, List.set_cons_succ]
    refine AnyG.step (i := 12) (by kernel_rfl) rfl (fun K hK => ?_)
    go_simp
    refine hK.out _ _ (fun h => absurd h (by decide)) (fun _ => ?_)
    clear hK
    try simp only [Act.put, List.getElem_toArray, List.getElem_cons_zero, List.getElem_cons_succ, List.setIfInBounds_toArray, List.set_cons_zero, List.set_cons_succ]
    refine AnyG.done (by kernel_rfl) ?_ _
    clear KK K0 KD K_w10 K_w11
    replace r_k := Lib.hid (r_k.out.keep B_w11.out)
    replace r_m := Lib.hid (r_m.out.keep B_w11.out)
    replace BB := Lib.hid (below_next BB.out B_w11.out)
    clear B_w10 B_w11
    replace hw3 := Lib.hid (hw3.of_room R.out.2)
    replace r_k := Lib.hid (show AtB ((w11.setCell ⟨g, 8, none⟩ (.int .i64 h3)).setCell ⟨g, 9, none⟩ (.int .u64 l3)) (g) #[x0, x1, x2, x3, x4, x5, x6, x7, .int .i64 h3, .int .u64 l3, .int .i64 sh, .int .u64 sl, .int .i64 U, .int .i64 more, .int .i64 B] WK from by have k := ((r_k.out.set_n 8 (.int .i64 h3)).set_n 9 (.int .u64 l3)); simpa using k)
    replace r_m := Lib.hid ((r_m.out.far (p := g) (by omega) 8 (.int .i64 h3)).far (p := g) (by omega) 9 (.int .u64 l3))
    replace BB := Lib.hid (below_set (below_set BB.out (b := g) (o := 8) (by omega) (.int .i64 h3)) (b := g) (o := 9) (by omega) (.int .u64 l3))
    generalize ((w11.setCell ⟨g, 8, none⟩ (.int .i64 h3)).setCell ⟨g, 9, none⟩ (.int .u64 l3)) = w12 at *
    go_wp2_with fail
    go_ret
    exact ⟨⟨show Ending.returned (.int .i64 (cutI Q)) = _ by rw [eQ.out], BB.out, _, _, _, r_k.out, ⟨by rw [HE.out.1]; exact hw3.out, by rw [eS.out]; exact HS.out, HE.out.2.symm, HM.out⟩⟩, r_m.out⟩
  · have HE := Lib.hid (hS.1 (by omega))
    clear hl hm hbB h hT hS
    generalize eQ : (F * 65536).fdiv B = Q at *
    generalize eS : (G * 65536).fdiv B = S at *
    replace eQ := Lib.hid eQ; replace eS := Lib.hid eS
    go_enter Try.func64, Try.ntmps64
    obtain ⟨c_k0, c_k1, c_k2, c_k3, c_k4, c_k5, c_k6, c_k7, c_k8, c_k9, c_k10, c_k11, c_k12, c_k13, c_k14, f_k0, f_k1, f_k2, f_k3, f_k4, f_k5, f_k6, f_k7, f_k8, f_k9, f_k10, f_k11, f_k12, f_k13, f_k14⟩ := reads15 r_k.out
    have l_k := r_k.out.lt
    go_wp2_with fail
    refine (CC.out _).mono ?_
    rintro e w1 ⟨rfl, hb⟩
    clear c_k0 c_k1 c_k2 c_k3 c_k4 c_k5 c_k6 c_k7 c_k8 c_k9 c_k10 c_k11 c_k12 c_k13 c_k14 f_k0 f_k1 f_k2 f_k3 f_k4 f_k5 f_k6 f_k7 f_k8 f_k9 f_k10 f_k11 f_k12 f_k13 f_k14 l_k
    replace r_k := Lib.hid (r_k.out.keep hb)
    replace r_m := Lib.hid (r_m.out.keep hb)
    replace BB := Lib.hid (below_next BB.out hb)
    clear hb
    go_wp2_with fail
    have KK := Lib.hid (fun (w9 : World) (h : Below w1.heap.size w1 w9) => (cells15 (r_k.out.keep h) : (w9.cell? ⟨g, 0, none⟩ = some (x0) ∧ w9.cell? ⟨g, 1, none⟩ = some (x1) ∧ w9.cell? ⟨g, 2, none⟩ = some (x2) ∧ w9.cell? ⟨g, 3, none⟩ = some (x3) ∧ w9.cell? ⟨g, 4, none⟩ = some (x4) ∧ w9.cell? ⟨g, 5, none⟩ = some (x5) ∧ w9.cell? ⟨g, 6, none⟩ = some (x6) ∧ w9.cell? ⟨g, 7, none⟩ = some (x7) ∧ w9.cell? ⟨g, 8, none⟩ = some (.int .i64 qh) ∧ w9.cell? ⟨g, 9, none⟩ = some (.int .u64 ql) ∧ w9.cell? ⟨g, 10, none⟩ = some (.int .i64 sh) ∧ w9.cell? ⟨g, 11, none⟩ = some (.int .u64 sl) ∧ w9.cell? ⟨g, 12, none⟩ = some (.int .i64 left) ∧ w9.cell? ⟨g, 13, none⟩ = some (.int .i64 more) ∧ w9.cell? ⟨g, 14, none⟩ = some (.int .i64 B))))
    have K0 := KK.out w1 (Below.refl _ _)
    have KD := KK.out w1.drew (below_drew (Below.refl _ _))
    refine AnyG.begin_ (fun w9 => (w9.cell? ⟨g, 0, none⟩ = some (x0) ∧ w9.cell? ⟨g, 1, none⟩ = some (x1) ∧ w9.cell? ⟨g, 2, none⟩ = some (x2) ∧ w9.cell? ⟨g, 3, none⟩ = some (x3) ∧ w9.cell? ⟨g, 4, none⟩ = some (x4) ∧ w9.cell? ⟨g, 5, none⟩ = some (x5) ∧ w9.cell? ⟨g, 6, none⟩ = some (x6) ∧ w9.cell? ⟨g, 7, none⟩ = some (x7) ∧ w9.cell? ⟨g, 8, none⟩ = some (.int .i64 qh) ∧ w9.cell? ⟨g, 9, none⟩ = some (.int .u64 ql) ∧ w9.cell? ⟨g, 10, none⟩ = some (.int .i64 sh) ∧ w9.cell? ⟨g, 11, none⟩ = some (.int .u64 sl) ∧ w9.cell? ⟨g, 12, none⟩ = some (.int .i64 left) ∧ w9.cell? ⟨g, 13, none⟩ = some (.int .i64 more) ∧ w9.cell? ⟨g, 14, none⟩ = some (.int .i64 B))) 15 (by kernel_rfl) ?_
    refine AnyG.take (i := 0) (v := ?_) rfl (by kernel_rfl) (by kernel_rfl) (by kernel_rfl) (fun _ _ _ h => h) (by kernel_rfl) (by kernel_rfl) (Or.inl ⟨by rfl, ?_⟩) (by assumption) ?_
    rotate_left
    · intro w9 hSw; (try dsimp only at hSw); go_simp <;> with_reducible rfl
    try simp only [Act.put, List.getElem_toArray, List.getElem_cons_zero, List.getElem_cons_succ, List.setIfInBounds_toArray, List.set_cons_zero, List.set_cons_succ]
    refine AnyG.take (i := 1) (v := ?_) rfl (by kernel_rfl) (by kernel_rfl) (by kernel_rfl) (fun _ _ _ h => h) (by kernel_rfl) (by kernel_rfl) (Or.inl ⟨by rfl, ?_⟩) (by assumption) ?_
    rotate_left
    · intro w9 hSw; (try dsimp only at hSw); go_simp <;> with_reducible rfl
    try simp only [Act.put, List.getElem_toArray, List.getElem_cons_zero, List.getElem_cons_succ, List.setIfInBounds_toArray, List.set_cons_zero, List.set_cons_succ]
    refine AnyG.take (i := 2) (v := ?_) rfl (by kernel_rfl) (by kernel_rfl) (by kernel_rfl) (fun _ _ _ h => h) (by kernel_rfl) (by kernel_rfl) (Or.inl ⟨by rfl, ?_⟩) (by assumption) ?_
    rotate_left
    · intro w9 hSw; (try dsimp only at hSw); go_simp <;> with_reducible rfl
    try simp only [Act.put, List.getElem_toArray, List.getElem_cons_zero, List.getElem_cons_succ, List.setIfInBounds_toArray, List.set_cons_zero, List.set_cons_succ]
    refine AnyG.take (i := 3) (v := ?_) rfl (by kernel_rfl) (by kernel_rfl) (by kernel_rfl) (fun _ _ _ h => h) (by kernel_rfl) (by kernel_rfl) (Or.inl ⟨by rfl, ?_⟩) (by assumption) ?_
    rotate_left
    · intro w9 hSw; (try dsimp only at hSw); go_simp <;> with_reducible rfl
    try simp only [Act.put, List.getElem_toArray, List.getElem_cons_zero, List.getElem_cons_succ, List.setIfInBounds_toArray, List.set_cons_zero, List.set_cons_succ]
    refine AnyG.take (i := 4) (v := ?_) rfl (by kernel_rfl) (by kernel_rfl) (by kernel_rfl) (fun _ _ _ h => h) (by kernel_rfl) (by kernel_rfl) (Or.inl ⟨by rfl, ?_⟩) (by assumption) ?_
    rotate_left
    · intro w9 hSw; (try dsimp only at hSw); go_simp <;> with_reducible rfl
    try simp only [Act.put, List.getElem_toArray, List.getElem_cons_zero, List.getElem_cons_succ, List.setIfInBounds_toArray, List.set_cons_zero, List.set_cons_succ]
    refine AnyG.take (i := 5) (v := ?_) rfl (by kernel_rfl) (by kernel_rfl) (by kernel_rfl) (fun _ _ _ h => h) (by kernel_rfl) (by kernel_rfl) (Or.inl ⟨by rfl, ?_⟩) (by assumption) ?_
    rotate_left
    · intro w9 hSw; (try dsimp only at hSw); go_simp <;> with_reducible rfl
    try simp only [Act.put, List.getElem_toArray, List.getElem_cons_zero, List.getElem_cons_succ, List.setIfInBounds_toArray, List.set_cons_zero, List.set_cons_succ]
    refine AnyG.take (i := 6) (v := ?_) rfl (by kernel_rfl) (by kernel_rfl) (by kernel_rfl) (fun _ _ _ h => h) (by kernel_rfl) (by kernel_rfl) (Or.inl ⟨by rfl, ?_⟩) (by assumption) ?_
    rotate_left
    · intro w9 hSw; (try dsimp only at hSw); go_simp <;> with_reducible rfl
    try simp only [Act.put, List.getElem_toArray, List.getElem_cons_zero, List.getElem_cons_succ, List.setIfInBounds_toArray, List.set_cons_zero, List.set_cons_succ]
    refine AnyG.take (i := 7) (v := ?_) rfl (by kernel_rfl) (by kernel_rfl) (by kernel_rfl) (fun _ _ _ h => h) (by kernel_rfl) (by kernel_rfl) (Or.inl ⟨by rfl, ?_⟩) (by assumption) ?_
    rotate_left
    · intro w9 hSw; (try dsimp only at hSw); go_simp <;> with_reducible rfl
    try simp only [Act.put, List.getElem_toArray, List.getElem_cons_zero, List.getElem_cons_succ, List.setIfInBounds_toArray, List.set_cons_zero, List.set_cons_succ]
    refine AnyG.take (i := 8) (v := ?_) rfl (by kernel_rfl) (by kernel_rfl) (by kernel_rfl) (fun _ _ _ h => h) (by kernel_rfl) (by kernel_rfl) (Or.inl ⟨by rfl, ?_⟩) (by assumption) ?_
    rotate_left
    · intro w9 hSw; (try dsimp only at hSw); go_simp <;> with_reducible rfl
    try simp only [Act.put, List.getElem_toArray, List.getElem_cons_zero, List.getElem_cons_succ, List.setIfInBounds_toArray, List.set_cons_zero, List.set_cons_succ]
    refine AnyG.step (i := 9) (by kernel_rfl) rfl (fun K hK => ?_)
    go_simp
    go_at_call 71
    refine (A1.out _).mono ?_
    rintro e w2 ⟨h1, l1, ok1, rfl, hb, hw1⟩
    have B_w2 := Lib.hid (reg_next (w0 := w1) (by repeat (first | with_reducible exact Below.refl _ _ | with_reducible apply below_drew | with_reducible apply below_new)) hb)
    have K_w2 := KK.out _ B_w2.out
    obtain ⟨rc_k0, rc_k1, rc_k2, rc_k3, rc_k4, rc_k5, rc_k6, rc_k7, rc_k8, rc_k9, rc_k10, rc_k11, rc_k12, rc_k13, rc_k14, rf_k0, rf_k1, rf_k2, rf_k3, rf_k4, rf_k5, rf_k6, rf_k7, rf_k8, rf_k9, rf_k10, rf_k11, rf_k12, rf_k13, rf_k14⟩ := reads15 (r_k.out.keep B_w2.out)
    have rl_k := (r_k.out.keep B_w2.out).lt
    clear hb
    refine hK.out _ _ (fun _ => K_w2) (fun hHeld => ?_)
    replace hHeld := hHeld (by decide)
    clear hK
    try simp only [Act.put, List.getElem_toArray, List.getElem_cons_zero, List.getElem_cons_succ, List.setIfInBounds_toArray, List.set_cons_zero, List.set_cons_succ]
    refine AnyG.take (i := 10) (v := ?_) rfl (by kernel_rfl) (by kernel_rfl) (by kernel_rfl) (fun _ _ _ h => h) (by kernel_rfl) (by kernel_rfl) (Or.inl ⟨by rfl, ?_⟩) (by assumption) ?_
    rotate_left
    · intro w9 hSw; (try dsimp only at hSw); go_simp <;> with_reducible rfl
    try simp only [Act.put, List.getElem_toArray, List.getElem_cons_zero, List.getElem_cons_succ, List.setIfInBounds_toArray, List.set_cons_zero, List.set_cons_succ]
    refine AnyG.take (i := 11) (v := ?_) rfl (by kernel_rfl) (by kernel_rfl) (by kernel_rfl) (fun _ _ _ h => h) (by kernel_rfl) (by kernel_rfl) (Or.inl ⟨by rfl, ?_⟩) (by assumption) ?_
    rotate_left
    · intro w9 hSw; (try dsimp only at hSw); go_simp <;> with_reducible rfl
    try simp only [Act.put, List.getElem_toArray, List.getElem_cons_zero, List.getElem_cons_succ, List.setIfInBounds_toArray, List.set_cons_zero, List.set_cons_succ]
    refine AnyG.take0 (i := 12) (v := ?_) rfl (by kernel_rfl) (by kernel_rfl) (by kernel_rfl) (fun _ _ _ h => h) (by decide) (Or.inl ⟨by rfl, ?_⟩) (by assumption) ?_
    rotate_left
    · intro w9 hSw; clear hSw; go_simp <;> with_reducible rfl
    try simp only [Act.put, List.getElem_toArray, List.getElem_cons_zero, List.getElem_cons_succ, List.setIfInBounds_toArray, List.set_cons_zero, List.set_cons_succ]
    refine AnyG.take (i := 13) (v := ?_) rfl (by kernel_rfl) (by kernel_rfl) (by kernel_rfl) (fun _ _ _ h => h) (by kernel_rfl) (by kernel_rfl) (Or.inl ⟨by rfl, ?_⟩) (by assumption) ?_
    rotate_left
    · intro w9 hSw; (try dsimp only at hSw); go_simp <;> with_reducible rfl
    try simp only [Act.put, List.getElem_toArray, List.getElem_cons_zero, List.getElem_cons_succ, List.setIfInBounds_toArray, List.set_cons_zero, List.set_cons_succ]
    refine AnyG.take (i := 14) (v := ?_) rfl (by kernel_rfl) (by kernel_rfl) (by kernel_rfl) (fun _ _ _ h => h) (by kernel_rfl) (by kernel_rfl) (Or.inl ⟨by rfl, ?_⟩) (by assumption) ?_
    rotate_left
    · intro w9 hSw; (try dsimp only at hSw); go_simp <;> with_reducible rfl
    try simp only [Act.put, List.getElem_toArray, List.getElem_cons_zero, List.getElem_cons_succ, List.setIfInBounds_toArray, List.set_cons_zero, List.set_cons_succ]
    refine AnyG.step (i := 15) (by kernel_rfl) rfl (fun K hK => ?_)
    go_simp
    refine hK.out _ _ (fun h => absurd h (by decide)) (fun _ => ?_)
    clear hK
    try simp only [Act.put, List.getElem_toArray, List.getElem_cons_zero, List.getElem_cons_succ, List.setIfInBounds_toArray, List.set_cons_zero, List.set_cons_succ]
    refine AnyG.done (by kernel_rfl) ?_ _
    clear KK K0 KD K_w2
    replace r_k := Lib.hid (r_k.out.keep B_w2.out)
    replace r_m := Lib.hid (r_m.out.keep B_w2.out)
    replace BB := Lib.hid (below_next BB.out B_w2.out)
    clear B_w2
    replace hw1 := Lib.hid (hw1.of_room R.out.1)
    replace r_k := Lib.hid (show AtB ((w2.setCell ⟨g, 8, none⟩ (.int .i64 h1)).setCell ⟨g, 9, none⟩ (.int .u64 l1)) (g) #[x0, x1, x2, x3, x4, x5, x6, x7, .int .i64 h1, .int .u64 l1, .int .i64 sh, .int .u64 sl, .int .i64 left, .int .i64 more, .int .i64 B] WK from by have k := ((r_k.out.set_n 8 (.int .i64 h1)).set_n 9 (.int .u64 l1)); simpa using k)
    replace r_m := Lib.hid ((r_m.out.far (p := g) (by omega) 8 (.int .i64 h1)).far (p := g) (by omega) 9 (.int .u64 l1))
    replace BB := Lib.hid (below_set (below_set BB.out (b := g) (o := 8) (by omega) (.int .i64 h1)) (b := g) (o := 9) (by omega) (.int .u64 l1))
    generalize ((w2.setCell ⟨g, 8, none⟩ (.int .i64 h1)).setCell ⟨g, 9, none⟩ (.int .u64 l1)) = w3 at *
    go_wp2_with fail
    have KK := Lib.hid (fun (w9 : World) (h : Below w3.heap.size w3 w9) => (cells15 (r_k.out.keep h) : (w9.cell? ⟨g, 0, none⟩ = some (x0) ∧ w9.cell? ⟨g, 1, none⟩ = some (x1) ∧ w9.cell? ⟨g, 2, none⟩ = some (x2) ∧ w9.cell? ⟨g, 3, none⟩ = some (x3) ∧ w9.cell? ⟨g, 4, none⟩ = some (x4) ∧ w9.cell? ⟨g, 5, none⟩ = some (x5) ∧ w9.cell? ⟨g, 6, none⟩ = some (x6) ∧ w9.cell? ⟨g, 7, none⟩ = some (x7) ∧ w9.cell? ⟨g, 8, none⟩ = some (.int .i64 h1) ∧ w9.cell? ⟨g, 9, none⟩ = some (.int .u64 l1) ∧ w9.cell? ⟨g, 10, none⟩ = some (.int .i64 sh) ∧ w9.cell? ⟨g, 11, none⟩ = some (.int .u64 sl) ∧ w9.cell? ⟨g, 12, none⟩ = some (.int .i64 left) ∧ w9.cell? ⟨g, 13, none⟩ = some (.int .i64 more) ∧ w9.cell? ⟨g, 14, none⟩ = some (.int .i64 B))))
    have K0 := KK.out w3 (Below.refl _ _)
    have KD := KK.out w3.drew (below_drew (Below.refl _ _))
    obtain ⟨rc_k0, rc_k1, rc_k2, rc_k3, rc_k4, rc_k5, rc_k6, rc_k7, rc_k8, rc_k9, rc_k10, rc_k11, rc_k12, rc_k13, rc_k14, rf_k0, rf_k1, rf_k2, rf_k3, rf_k4, rf_k5, rf_k6, rf_k7, rf_k8, rf_k9, rf_k10, rf_k11, rf_k12, rf_k13, rf_k14⟩ := reads15 r_k.out
    have rl_k := r_k.out.lt
    refine AnyG.begin_ (fun w9 => (w9.cell? ⟨g, 0, none⟩ = some (x0) ∧ w9.cell? ⟨g, 1, none⟩ = some (x1) ∧ w9.cell? ⟨g, 2, none⟩ = some (x2) ∧ w9.cell? ⟨g, 3, none⟩ = some (x3) ∧ w9.cell? ⟨g, 4, none⟩ = some (x4) ∧ w9.cell? ⟨g, 5, none⟩ = some (x5) ∧ w9.cell? ⟨g, 6, none⟩ = some (x6) ∧ w9.cell? ⟨g, 7, none⟩ = some (x7) ∧ w9.cell? ⟨g, 8, none⟩ = some (.int .i64 h1) ∧ w9.cell? ⟨g, 9, none⟩ = some (.int .u64 l1) ∧ w9.cell? ⟨g, 10, none⟩ = some (.int .i64 sh) ∧ w9.cell? ⟨g, 11, none⟩ = some (.int .u64 sl) ∧ w9.cell? ⟨g, 12, none⟩ = some (.int .i64 left) ∧ w9.cell? ⟨g, 13, none⟩ = some (.int .i64 more) ∧ w9.cell? ⟨g, 14, none⟩ = some (.int .i64 B))) 11 (by kernel_rfl) ?_
    refine AnyG.take (i := 0) (v := ?_) rfl (by kernel_rfl) (by kernel_rfl) (by kernel_rfl) (fun _ _ _ h => h) (by kernel_rfl) (by kernel_rfl) (Or.inl ⟨by rfl, ?_⟩) (by assumption) ?_
    rotate_left
    · intro w9 hSw; (try dsimp only at hSw); go_simp <;> with_reducible rfl
    try simp only [Act.put, List.getElem_toArray, List.getElem_cons_zero, List.getElem_cons_succ, List.setIfInBounds_toArray, List.set_cons_zero, List.set_cons_succ]
    refine AnyG.take (i := 1) (v := ?_) rfl (by kernel_rfl) (by kernel_rfl) (by kernel_rfl) (fun _ _ _ h => h) (by kernel_rfl) (by kernel_rfl) (Or.inl ⟨by rfl, ?_⟩) (by assumption) ?_
    rotate_left
    · intro w9 hSw; (try dsimp only at hSw); go_simp <;> with_reducible rfl
    try simp only [Act.put, List.getElem_toArray, List.getElem_cons_zero, List.getElem_cons_succ, List.setIfInBounds_toArray, List.set_cons_zero, List.set_cons_succ]
    refine AnyG.take (i := 2) (v := ?_) rfl (by kernel_rfl) (by kernel_rfl) (by kernel_rfl) (fun _ _ _ h => h) (by kernel_rfl) (by kernel_rfl) (Or.inl ⟨by rfl, ?_⟩) (by assumption) ?_
    rotate_left
    · intro w9 hSw; (try dsimp only at hSw); go_simp <;> with_reducible rfl
    try simp only [Act.put, List.getElem_toArray, List.getElem_cons_zero, List.getElem_cons_succ, List.setIfInBounds_toArray, List.set_cons_zero, List.set_cons_succ]
    refine AnyG.take (i := 3) (v := ?_) rfl (by kernel_rfl) (by kernel_rfl) (by kernel_rfl) (fun _ _ _ h => h) (by kernel_rfl) (by kernel_rfl) (Or.inl ⟨by rfl, ?_⟩) (by assumption) ?_
    rotate_left
    · intro w9 hSw; (try dsimp only at hSw); go_simp <;> with_reducible rfl
    try simp only [Act.put, List.getElem_toArray, List.getElem_cons_zero, List.getElem_cons_succ, List.setIfInBounds_toArray, List.set_cons_zero, List.set_cons_succ]
    refine AnyG.take (i := 4) (v := ?_) rfl (by kernel_rfl) (by kernel_rfl) (by kernel_rfl) (fun _ _ _ h => h) (by kernel_rfl) (by kernel_rfl) (Or.inl ⟨by rfl, ?_⟩) (by assumption) ?_
    rotate_left
    · intro w9 hSw; (try dsimp only at hSw); go_simp <;> with_reducible rfl
    try simp only [Act.put, List.getElem_toArray, List.getElem_cons_zero, List.getElem_cons_succ, List.setIfInBounds_toArray, List.set_cons_zero, List.set_cons_succ]
    refine AnyG.take (i := 5) (v := ?_) rfl (by kernel_rfl) (by kernel_rfl) (by kernel_rfl) (fun _ _ _ h => h) (by kernel_rfl) (by kernel_rfl) (Or.inl ⟨by rfl, ?_⟩) (by assumption) ?_
    rotate_left
    · intro w9 hSw; (try dsimp only at hSw); go_simp <;> with_reducible rfl
    try simp only [Act.put, List.getElem_toArray, List.getElem_cons_zero, List.getElem_cons_succ, List.setIfInBounds_toArray, List.set_cons_zero, List.set_cons_succ]
    refine AnyG.take (i := 6) (v := ?_) rfl (by kernel_rfl) (by kernel_rfl) (by kernel_rfl) (fun _ _ _ h => h) (by kernel_rfl) (by kernel_rfl) (Or.inl ⟨by rfl, ?_⟩) (by assumption) ?_
    rotate_left
    · intro w9 hSw; (try dsimp only at hSw); go_simp <;> with_reducible rfl
    try simp only [Act.put, List.getElem_toArray, List.getElem_cons_zero, List.getElem_cons_succ, List.setIfInBounds_toArray, List.set_cons_zero, List.set_cons_succ]
    refine AnyG.take (i := 7) (v := ?_) rfl (by kernel_rfl) (by kernel_rfl) (by kernel_rfl) (fun _ _ _ h => h) (by kernel_rfl) (by kernel_rfl) (Or.inl ⟨by rfl, ?_⟩) (by assumption) ?_
    rotate_left
    · intro w9 hSw; (try dsimp only at hSw); go_simp <;> with_reducible rfl
    try simp only [Act.put, List.getElem_toArray, List.getElem_cons_zero, List.getElem_cons_succ, List.setIfInBounds_toArray, List.set_cons_zero, List.set_cons_succ]
    refine AnyG.take (i := 8) (v := ?_) rfl (by kernel_rfl) (by kernel_rfl) (by kernel_rfl) (fun _ _ _ h => h) (by kernel_rfl) (by kernel_rfl) (Or.inl ⟨by rfl, ?_⟩) (by assumption) ?_
    rotate_left
    · intro w9 hSw; (try dsimp only at hSw); go_simp <;> with_reducible rfl
    try simp only [Act.put, List.getElem_toArray, List.getElem_cons_zero, List.getElem_cons_succ, List.setIfInBounds_toArray, List.set_cons_zero, List.set_cons_succ]
    refine AnyG.take (i := 9) (v := ?_) rfl (by kernel_rfl) (by kernel_rfl) (by kernel_rfl) (fun _ _ _ h => h) (by kernel_rfl) (by kernel_rfl) (Or.inl ⟨by rfl, ?_⟩) (by assumption) ?_
    rotate_left
    · intro w9 hSw; (try dsimp only at hSw); go_simp <;> with_reducible rfl
    try simp only [Act.put, List.getElem_toArray, List.getElem_cons_zero, List.getElem_cons_succ, List.setIfInBounds_toArray, List.set_cons_zero, List.set_cons_succ]
    refine AnyG.take (i := 10) (v := ?_) rfl (by kernel_rfl) (by kernel_rfl) (by kernel_rfl) (fun _ _ _ h => h) (by kernel_rfl) (by kernel_rfl) (Or.inl ⟨by rfl, ?_⟩) (by assumption) ?_
    rotate_left
    · intro w9 hSw; (try dsimp only at hSw); go_simp <;> with_reducible rfl
    try simp only [Act.put, List.getElem_toArray, List.getElem_cons_zero, List.getElem_cons_succ, List.setIfInBounds_toArray, List.set_cons_zero, List.set_cons_succ]
    refine AnyG.step (i := 11) (by kernel_rfl) rfl (fun K hK => ?_)
    go_simp
    refine hK.out _ _ (fun h => absurd h (by decide)) (fun _ => ?_)
    clear hK
    try simp only [Act.put, List.getElem_toArray, List.getElem_cons_zero, List.getElem_cons_succ, List.setIfInBounds_toArray, List.set_cons_zero, List.set_cons_succ]
    refine AnyG.done (by kernel_rfl) ?_ _
    clear KK K0 KD
    clear rc_k0 rc_k1 rc_k2 rc_k3 rc_k4 rc_k5 rc_k6 rc_k7 rc_k8 rc_k9 rc_k10 rc_k11 rc_k12 rc_k13 rc_k14 rf_k0 rf_k1 rf_k2 rf_k3 rf_k4 rf_k5 rf_k6 rf_k7 rf_k8 rf_k9 rf_k10 rf_k11 rf_k12 rf_k13 rf_k14 rl_k
    replace r_k := Lib.hid (show AtB (w3.setCell ⟨g, 12, none⟩ (.int .i64 T)) (g) #[x0, x1, x2, x3, x4, x5, x6, x7, .int .i64 h1, .int .u64 l1, .int .i64 sh, .int .u64 sl, .int .i64 T, .int .i64 more, .int .i64 B] WK from by have k := (r_k.out.set_n 12 (.int .i64 T)); simpa using k)
    replace r_m := Lib.hid (r_m.out.far (p := g) (by omega) 12 (.int .i64 T))
    replace BB := Lib.hid (below_set BB.out (b := g) (o := 12) (by omega) (.int .i64 T))
    generalize (w3.setCell ⟨g, 12, none⟩ (.int .i64 T)) = w4 at *
    have hb := below_drew (Below.refl w4.heap.size w4)
    generalize w4.drew = w5 at *
    replace r_k := Lib.hid (r_k.out.keep hb)
    replace r_m := Lib.hid (r_m.out.keep hb)
    replace BB := Lib.hid (below_next BB.out hb)
    clear hb
    obtain ⟨c_k0, c_k1, c_k2, c_k3, c_k4, c_k5, c_k6, c_k7, c_k8, c_k9, c_k10, c_k11, c_k12, c_k13, c_k14, f_k0, f_k1, f_k2, f_k3, f_k4, f_k5, f_k6, f_k7, f_k8, f_k9, f_k10, f_k11, f_k12, f_k13, f_k14⟩ := reads15 r_k.out
    have l_k := r_k.out.lt
    go_wp2_with fail
    go_quiet (fail)
    have hb := below_drawn (Below.refl w5.heap.size w5) nq
    generalize w5.drewN nq = w6 at *
    clear c_k0 c_k1 c_k2 c_k3 c_k4 c_k5 c_k6 c_k7 c_k8 c_k9 c_k10 c_k11 c_k12 c_k13 c_k14 f_k0 f_k1 f_k2 f_k3 f_k4 f_k5 f_k6 f_k7 f_k8 f_k9 f_k10 f_k11 f_k12 f_k13 f_k14 l_k
    replace r_k := Lib.hid (r_k.out.keep hb)
    replace r_m := Lib.hid (r_m.out.keep hb)
    replace BB := Lib.hid (below_next BB.out hb)
    clear hb nq
    go_wp2_with fail
    go_ret
    exact ⟨⟨show Ending.returned (.int .i64 (cutI Q)) = _ by rw [eQ.out], BB.out, _, _, _, r_k.out, ⟨by rw [HE.out.1]; exact hw1.out, by rw [eS.out]; exact HS.out, HE.out.2.symm, HM.out⟩⟩, r_m.out⟩

set_option maxRecDepth 100000 in
set_option maxHeartbeats 8000000 in
theorem ddNextm (g : Nat) (x F G F' G' B : Int) (hx : -1048576 ≤ x ∧ x ≤ 1048576) (hX : AXB F G B) (hX' : AXB F' G' B) (w w0 : World) (BB : Below w.heap.size w w0) (hg : w.heap.size ≤ g) (h : WKA w0 g x F G F' G' B) (gm : Nat) (cm : Array Value) (Tm : TypeId) (hgm : gm ≠ g) (r_m : AtB w0 gm cm Tm) :
    Calls Try.prog 41 #[.pointer (some ⟨g, 0, none⟩)] w0 (fun e w' => GiveNext g x F G F' G' B w e w' ∧ AtB w' gm cm Tm) := by
  obtain ⟨a0, a1, a2, a3, a4, a5, b0, b1, b2, b3, b4, b5, r_k, h2, h3⟩ := h
  have CU := Lib.hid (fun y w1 h r rm => ddnextm_u F G B a0 a1 a2 a3 a4 a5 (.int .i64 y) (.int .i64 b0) (.int .u64 b1) (.int .i64 b2) (.int .u64 b3) (.int .i64 b4) (.int .i64 b5) (.int .i64 B) g hX h2 w w1 h hg r gm cm Tm hgm rm)
  have CV := Lib.hid (fun y q0 q1 l w1 h r rm => ddnextm_v F' G' B b0 b1 b2 b3 b4 b5 (.int .i64 y) (.int .i64 q0) (.int .u64 q1) (.int .i64 a2) (.int .u64 a3) (.int .i64 l) (.int .i64 a5) (.int .i64 B) g hX' h3 w w1 h hg r gm cm Tm hgm rm)
  have hd : decide (x > 1048576) = false := decide_eq_false (by omega)
  have hB : ¬ B = 0 := by have := hX.b; omega
  obtain ⟨y, hy⟩ : ∃ y, y = x + 1 := ⟨_, rfl⟩
  have i1 : wrap64 (x + 1) = y := by rw [hy]; exact wr_in (by omega) (by omega)
  have BB := Lib.hid BB
  have r_k := Lib.hid r_k
  have r_m := Lib.hid r_m
  have HY := Lib.hid hy
  clear hX hX' h2 h3 hx hy
  go_enter Try.func41, Try.ntmps41
  obtain ⟨c_k0, c_k1, c_k2, c_k3, c_k4, c_k5, c_k6, c_k7, c_k8, c_k9, c_k10, c_k11, c_k12, c_k13, c_k14, f_k0, f_k1, f_k2, f_k3, f_k4, f_k5, f_k6, f_k7, f_k8, f_k9, f_k10, f_k11, f_k12, f_k13, f_k14⟩ := reads15 r_k.out
  have l_k := r_k.out.lt
  go_wp2_with fail
  clear c_k0 c_k1 c_k2 c_k3 c_k4 c_k5 c_k6 c_k7 c_k8 c_k9 c_k10 c_k11 c_k12 c_k13 c_k14 f_k0 f_k1 f_k2 f_k3 f_k4 f_k5 f_k6 f_k7 f_k8 f_k9 f_k10 f_k11 f_k12 f_k13 f_k14 l_k
  replace r_k := Lib.hid (show AtB (w0.setCell ⟨g, 0, none⟩ (.int .i64 y)) (g) #[.int .i64 y, .int .i64 a0, .int .u64 a1, .int .i64 a2, .int .u64 a3, .int .i64 a4, .int .i64 a5, .int .i64 B, .int .i64 b0, .int .u64 b1, .int .i64 b2, .int .u64 b3, .int .i64 b4, .int .i64 b5, .int .i64 B] WK from by have k := (r_k.out.set_n 0 (.int .i64 y)); simpa using k)
  replace r_m := Lib.hid (r_m.out.far (p := g) (by omega) 0 (.int .i64 y))
  replace BB := Lib.hid (below_set BB.out (b := g) (o := 0) (by omega) (.int .i64 y))
  generalize (w0.setCell ⟨g, 0, none⟩ (.int .i64 y)) = w1 at *
  refine wp_region_held_drew (S := (fun w9 => True)) (by kernel_rfl) trivial (fun hHeld => ?_)
  refine wpAnyH_take (i := 0) (v := ?_) rfl (by kernel_rfl) (by kernel_rfl) (by kernel_rfl) (fun _ _ _ h => h) (Or.inl ⟨by rfl, ?_⟩) (by assumption) ?_
  rotate_left
  · intro w9 hSw; clear hSw; go_simp <;> with_reducible rfl
  try simp only [Act.put, List.getElem_toArray, List.getElem_cons_zero, List.getElem_cons_succ, List.setIfInBounds_toArray, List.set_cons_zero, List.set_cons_succ]
  refine wpAnyH_take (i := 1) (v := ?_) rfl (by kernel_rfl) (by kernel_rfl) (by kernel_rfl) (fun _ _ _ h => h) (Or.inl ⟨by rfl, ?_⟩) (by assumption) ?_
  rotate_left
  · intro w9 hSw; clear hSw; go_simp <;> with_reducible rfl
  try simp only [Act.put, List.getElem_toArray, List.getElem_cons_zero, List.getElem_cons_succ, List.setIfInBounds_toArray, List.set_cons_zero, List.set_cons_succ]
  refine wpAnyH_take (i := 2) (v := ?_) rfl (by kernel_rfl) (by kernel_rfl) (by kernel_rfl) (fun _ _ _ h => h) (Or.inl ⟨by rfl, ?_⟩) (by assumption) ?_
  rotate_left
  · intro w9 hSw; clear hSw; go_simp <;> with_reducible rfl
  try simp only [Act.put, List.getElem_toArray, List.getElem_cons_zero, List.getElem_cons_succ, List.setIfInBounds_toArray, List.set_cons_zero, List.set_cons_succ]
  refine wpAnyH_take (i := 4) (v := ?_) rfl (by kernel_rfl) (by kernel_rfl) (by kernel_rfl) (fun _ _ _ h => h) (Or.inl ⟨by rfl, ?_⟩) (by assumption) ?_
  rotate_left
  · intro w9 hSw; clear hSw; go_simp <;> with_reducible rfl
  try simp only [Act.put, List.getElem_toArray, List.getElem_cons_zero, List.getElem_cons_succ, List.setIfInBounds_toArray, List.set_cons_zero, List.set_cons_succ]
  refine wpAnyH_take (i := 5) (v := ?_) rfl (by kernel_rfl) (by kernel_rfl) (by kernel_rfl) (fun _ _ _ h => h) (Or.inl ⟨by rfl, ?_⟩) (by assumption) ?_
  rotate_left
  · intro w9 hSw; clear hSw; go_simp <;> with_reducible rfl
  try simp only [Act.put, List.getElem_toArray, List.getElem_cons_zero, List.getElem_cons_succ, List.setIfInBounds_toArray, List.set_cons_zero, List.set_cons_succ]
  refine wpAnyH_take (i := 6) (v := ?_) rfl (by kernel_rfl) (by kernel_rfl) (by kernel_rfl) (fun _ _ _ h => h) (Or.inl ⟨by rfl, ?_⟩) (by assumption) ?_
  rotate_left
  · intro w9 hSw; clear hSw; go_simp <;> with_reducible rfl
  try simp only [Act.put, List.getElem_toArray, List.getElem_cons_zero, List.getElem_cons_succ, List.setIfInBounds_toArray, List.set_cons_zero, List.set_cons_succ]
  refine wpAnyH_ready (rs := [3]) (by kernel_rfl) (by simp) ?_
  refine AllReadyH.cons rfl (fun K hK => ?_) AllReadyH.nil
  go_simp
  go_at_call 64
  refine (CU.out y _ (below_drew BB.out) (AtB.drew r_k.out) (AtB.drew r_m.out)).mono ?_
  rintro e w2 ⟨⟨rfl, hb, q0, q1, l, hk, hax⟩, hm⟩
  refine hK.out _ _ trivial (fun hHeld => ?_)
  clear hK
  try simp only [Act.put, List.getElem_toArray, List.getElem_cons_zero, List.getElem_cons_succ, List.setIfInBounds_toArray, List.set_cons_zero, List.set_cons_succ]
  refine wpAnyH_ready (rs := [7]) (by kernel_rfl) (by simp) ?_
  refine AllReadyH.cons rfl (fun K hK => ?_) AllReadyH.nil
  go_simp
  go_at_call 64
  refine (CV.out y q0 q1 l _ hb hk hm).mono ?_
  rintro e w3 ⟨⟨rfl, hb2, q2, q3, l2, hk2, hax2⟩, hm2⟩
  refine hK.out _ _ trivial (fun hHeld => ?_)
  clear hK
  try simp only [Act.put, List.getElem_toArray, List.getElem_cons_zero, List.getElem_cons_succ, List.setIfInBounds_toArray, List.set_cons_zero, List.set_cons_succ]
  refine wpAnyH_take (i := 8) (v := ?_) rfl (by kernel_rfl) (by kernel_rfl) (by kernel_rfl) (fun _ _ _ h => h) (Or.inl ⟨by rfl, ?_⟩) (by assumption) ?_
  rotate_left
  · intro w9 hSw; clear hSw; go_simp <;> with_reducible rfl
  try simp only [Act.put, List.getElem_toArray, List.getElem_cons_zero, List.getElem_cons_succ, List.setIfInBounds_toArray, List.set_cons_zero, List.set_cons_succ]
  refine wpAnyH_take (i := 9) (v := ?_) rfl (by kernel_rfl) (by kernel_rfl) (by kernel_rfl) (fun _ _ _ h => h) (Or.inl ⟨by rfl, ?_⟩) (by assumption) ?_
  rotate_left
  · intro w9 hSw; clear hSw; go_simp <;> with_reducible rfl
  try simp only [Act.put, List.getElem_toArray, List.getElem_cons_zero, List.getElem_cons_succ, List.setIfInBounds_toArray, List.set_cons_zero, List.set_cons_succ]
  refine wpAnyH_take (i := 10) (v := ?_) rfl (by kernel_rfl) (by kernel_rfl) (by kernel_rfl) (fun _ _ _ h => h) (Or.inl ⟨by rfl, ?_⟩) (by assumption) ?_
  rotate_left
  · intro w9 hSw; clear hSw; go_simp <;> with_reducible rfl
  try simp only [Act.put, List.getElem_toArray, List.getElem_cons_zero, List.getElem_cons_succ, List.setIfInBounds_toArray, List.set_cons_zero, List.set_cons_succ]
  refine wpAnyH_done (by kernel_rfl) ?_ _
  go_wp2_with fail
  refine bodyPost_ret (v := .tuple #[.int .i64 (cutI ((F * 65536).fdiv B)), .int .i64 (cutI ((F' * 65536).fdiv B)), .bool true]) (by unfold results; simp only [Try.results41]; go_simp) rfl ?_
  exact ⟨⟨rfl, hb2, by rw [← HY.out]; exact ⟨_, _, _, _, _, _, _, _, _, _, _, _, hk2, hax, hax2⟩⟩, hm2⟩
theorem wkmNextm (g : Nat) (x y c0 c1 c2 c3 c4 c5 : Int) (hM : AM c0 c1 c2 c3 c4 c5) (hx : -1048576 ≤ x ∧ x ≤ 1048576) (hy : -1048576 ≤ y ∧ y ≤ 1048576) (w w0 : World) (BB : Below w.heap.size w w0) (hg : w.heap.size ≤ g) (h : WKM w0 g x y c0 c1 c2 c3 c4 c5) (gm : Nat) (cm : Array Value) (Tm : TypeId) (hgm : gm ≠ g) (r_m : AtB w0 gm cm Tm) :
    Calls Try.prog 41 #[.pointer (some ⟨g, 0, none⟩)] w0 fun e w' => e = .returned (GiveU c0 c1 c2 c3 c4 c5 x y) ∧ Below w.heap.size w w' ∧ WKM w' g (x + 1) y c0 c1 c2 c3 c4 c5 ∧ AtB w' gm cm Tm := by
  obtain ⟨b1, b2⟩ := wkm_bounds (x := x) (y := y) hM (by omega) hy
  refine (ddNextm g x _ _ _ _ _ hx b1 b2 w w0 BB hg h gm cm Tm hgm r_m).mono ?_
  rintro e w' ⟨⟨rfl, h1, h2⟩, h3⟩
  refine ⟨?_, h1, WKM.move (n := 1) (by rw [Int.one_mul, Int.one_mul]; exact h2), h3⟩
  unfold GiveU
  rw [plU_one, plU_one, sD_fdiv hM.det, sD_fdiv hM.det]

end Go.Proofs.Ytbldgbenlmjmjaa
