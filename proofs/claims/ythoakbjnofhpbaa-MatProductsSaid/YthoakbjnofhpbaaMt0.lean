/- Contracts of mat: out, Right, at, less, cofactor. -/
import Derived.Test.YthoakbjnofhpbaaJD
import Derived.Test.YthoakbjnofhpbaaRegG
import Derived.Test.YthoakbjnofhpbaaBoxS
set_option linter.unusedVariables false
set_option linter.unusedSimpArgs false
namespace Go.Proofs.Ythoakbjnofhpbaa
open Go.RowKit
abbrev M9T : TypeId := 56
abbrev WT5 : TypeId := 59
/-- Whether a number is too far from 0. -/
def farM (x : Int) : Bool := decide (x < -2147483648) || decide (2147483648 < x)
theorem farM_t {x : Int} (h : x < -2147483648 ∨ 2147483648 < x) : farM x = true := by unfold farM; rcases h with h | h <;> simp [h]
theorem farM_f {x : Int} (h : -2147483648 ≤ x ∧ x ≤ 2147483648) : farM x = false := by
  unfold farM; rw [decide_eq_false (by omega), decide_eq_false (by omega)]; rfl
theorem farM_iff {x : Int} : farM x = false ↔ -2147483648 ≤ x ∧ x ≤ 2147483648 := by
  constructor
  · intro h
    by_cases h1 : x < -2147483648
    · rw [farM_t (.inl h1)] at h; cases h
    · by_cases h2 : 2147483648 < x
      · rw [farM_t (.inr h2)] at h; cases h
      · omega
  · exact farM_f
theorem mout (x : Int) (w : World) : Calls Try.prog 93 #[.int .i64 x] w fun e w' => e = .returned (.bool (farM x)) ∧ w = w' := by
  by_cases h1 : x < -2147483648
  · go_enter Try.func93, Try.ntmps93
    go_wp2
    go_ret
    exact ⟨ret_bool (farM_t (.inl h1)).symm, rfl⟩
  · by_cases h2 : 2147483648 < x
    · go_enter Try.func93, Try.ntmps93
      go_wp2
      go_ret
      exact ⟨ret_bool (farM_t (.inr h2)).symm, rfl⟩
    · go_enter Try.func93, Try.ntmps93
      go_wp2
      go_ret
      exact ⟨ret_bool (farM_f (by omega)).symm, rfl⟩
set_option maxRecDepth 100000 in
set_option maxHeartbeats 1000000 in
theorem mcon_idx (v : Value) (p : Int → Bool) (zs : List Int) (w : World) (hv : IS w v zs)
    (hp : ∀ z ∈ zs, Calls Try.prog 93 #[.int .i64 z] w fun e w' => e = .returned (.bool (p z)) ∧ w = w') :
    Calls Try.prog 132 #[v, .func (.func 93) #[] #[]] w (GiveIdx (zs.any p) w) := by
  have hl := hv.len
  by_cases hz : zs = []
  · subst hz
    obtain ⟨A, cap, rfl⟩ := hv.form
    clear hv hp
    go_enter Try.func132, Try.ntmps132
    go_wp2
    go_loop [8] (fun i => i = .int .i64 0) (fun _ => 0)
    case atStart => exact rfl
    case round =>
      obtain rfl := hrel
      go_wp2
      go_ret
      exact ⟨_, rfl, rfl, rfl⟩
  · obtain ⟨b, off, cap, rfl, h1, h2, hlt, hc⟩ := hv.some hz
    have HP := Lib.hid (fun k (hk : k < zs.length) => hp (zs.getD k 0) (by simp [List.getD, List.getElem?_eq_getElem hk]))
    have HC := Lib.hid hc
    have HS := Lib.hid (fun k (hk : k < zs.length) => any_step (p := p) hk)
    clear hv hp hc
    generalize hn : zs.length = n at *
    have HN := Lib.hid hn
    clear hn
    go_enter Try.func132, Try.ntmps132
    go_wp2
    go_loop [5, 8] (fun _ i => ∃ k : Nat, k ≤ n ∧ i = .int .i64 k ∧ Hid ((zs.take k).any p = false)) (fun _ i => n - (intOf i).toNat)
    case atStart => exact ⟨0, by omega, rfl, rfl⟩
    case round =>
      obtain ⟨k, hk, rfl, hI⟩ := hrel
      by_cases hkn : k < n
      · have hcell := HC.out k hkn
        have hstep := HS.out k hkn
        have C := Lib.hid (HP.out k hkn)
        rw [hI.out, Bool.false_or] at hstep
        clear HP HS HC hI
        generalize zs.getD k 0 = z at *
        cases hpz : p z
        · rw [hpz] at C hstep
          have hstep := Lib.hid hstep
          clear hpz
          go_wp2_with fail
          refine C.out.mono ?_; rintro e w' ⟨rfl, rfl⟩
          go_wp2_with fail
          go_round
          case rel => exact ⟨k + 1, by omega, rfl, hstep.out⟩
          case measure => simp [intOf]; omega
        · rw [hpz] at C hstep
          have hany : Hid (zs.any p = true) := by
            have : zs.any p = ((zs.take (k + 1)) ++ zs.drop (k + 1)).any p := by rw [List.take_append_drop]
            show _ = _
            rw [this, List.any_append, hstep]; rfl
          clear hpz hstep
          go_wp2_with fail
          refine C.out.mono ?_; rintro e w' ⟨rfl, rfl⟩
          go_wp2_with fail
          go_ret
          exact ⟨_, rfl, rfl, by rw [hany.out]; simp⟩
      · have : k = n := by omega
        subst this
        have hany : Hid (zs.any p = false) := by
          have := hI.out
          rw [List.take_of_length_le (by rw [HN.out]; omega)] at this
          exact this
        clear HP HS HC hI
        go_wp2_with fail
        go_ret
        exact ⟨_, rfl, rfl, by rw [hany.out]; rfl⟩

theorem mcon (v : Value) (p : Int → Bool) (zs : List Int) (w : World) (hv : IS w v zs)
    (hp : ∀ z ∈ zs, Calls Try.prog 93 #[.int .i64 z] w fun e w' => e = .returned (.bool (p z)) ∧ w = w') :
    Calls Try.prog 76 #[v, .func (.func 93) #[] #[]] w fun e w' => e = .returned (.bool (zs.any p)) ∧ w = w' := by
  have C := Lib.hid (mcon_idx v p zs w hv hp)
  clear hv hp
  generalize zs.any p = A at *
  go_enter Try.func76, Try.ntmps76
  go_wp2_with fail
  refine C.out.mono ?_; rintro e w' ⟨r, rfl, rfl, hr⟩
  go_wp2_with fail
  go_ret
  exact ⟨rfl, rfl⟩
theorem is_at9 {w : World} {g : Nat} {m0 m1 m2 m3 m4 m5 m6 m7 m8 : Int} {T : TypeId} (h : AtB w g #[.int .i64 m0, .int .i64 m1, .int .i64 m2, .int .i64 m3, .int .i64 m4, .int .i64 m5, .int .i64 m6, .int .i64 m7, .int .i64 m8] T) (hz : ∀ z ∈ [m0, m1, m2, m3, m4, m5, m6, m7, m8], I64 z) : IS w (.slice (some ⟨g, 0, none⟩) 9 9) [m0, m1, m2, m3, m4, m5, m6, m7, m8] := by
  refine ⟨_, _, rfl, by simp, by simp, hz, fun _ => ⟨g, 0, rfl, h.lt, fun i hi => ?_⟩⟩
  simp at hi
  have : i = 0 ∨ i = 1 ∨ i = 2 ∨ i = 3 ∨ i = 4 ∨ i = 5 ∨ i = 6 ∨ i = 7 ∨ i = 8 := by omega
  rcases this with rfl | rfl | rfl | rfl | rfl | rfl | rfl | rfl | rfl
  all_goals exact h.cell _ rfl
theorem cell9 {w : World} {g : Nat} {m0 m1 m2 m3 m4 m5 m6 m7 m8 : Int} {T : TypeId} (h : AtB w g #[.int .i64 m0, .int .i64 m1, .int .i64 m2, .int .i64 m3, .int .i64 m4, .int .i64 m5, .int .i64 m6, .int .i64 m7, .int .i64 m8] T) {i : Nat} (hi : i < 9) : w.cell? ⟨g, i, none⟩ = some (.int .i64 ([m0, m1, m2, m3, m4, m5, m6, m7, m8].getD i 0)) := by
  have : i = 0 ∨ i = 1 ∨ i = 2 ∨ i = 3 ∨ i = 4 ∨ i = 5 ∨ i = 6 ∨ i = 7 ∨ i = 8 := by omega
  rcases this with rfl | rfl | rfl | rfl | rfl | rfl | rfl | rfl | rfl
  all_goals exact h.cell _ rfl
set_option maxRecDepth 100000 in
theorem mright (m0 m1 m2 m3 m4 m5 m6 m7 m8 : Int) (hz : ∀ z ∈ [m0, m1, m2, m3, m4, m5, m6, m7, m8], I64 z) (w : World) : Calls Try.prog 35 #[.agg #[.int .i64 m0, .int .i64 m1, .int .i64 m2, .int .i64 m3, .int .i64 m4, .int .i64 m5, .int .i64 m6, .int .i64 m7, .int .i64 m8]] w fun e w' => e = .returned (.bool (!([m0, m1, m2, m3, m4, m5, m6, m7, m8].any farM))) ∧ Below w.heap.size w w' := by
  have CM := Lib.hid (fun v w hv => mcon v farM [m0, m1, m2, m3, m4, m5, m6, m7, m8] w hv (fun z _ => mout z w))
  have HZ := Lib.hid hz
  clear hz
  generalize [m0, m1, m2, m3, m4, m5, m6, m7, m8].any farM = b at *
  go_enter Try.func35, Try.ntmps35
  go_wp2_with fail
  have BB := start1 w #[.int .i64 m0, .int .i64 m1, .int .i64 m2, .int .i64 m3, .int .i64 m4, .int .i64 m5, .int .i64 m6, .int .i64 m7, .int .i64 m8] M9T
  obtain ⟨BB, hsz, r_a⟩ := BB
  generalize (w.alloc (.cells #[.int .i64 m0, .int .i64 m1, .int .i64 m2, .int .i64 m3, .int .i64 m4, .int .i64 m5, .int .i64 m6, .int .i64 m7, .int .i64 m8] M9T)) = w0 at *
  replace BB := Lib.hid BB
  replace r_a := Lib.hid r_a
  clear hsz
  refine (CM.out _ _ (is_at9 r_a.out HZ.out)).mono ?_
  rintro e w9 ⟨rfl, rfl⟩
  go_wp2_with fail
  go_ret
  exact ⟨rfl, BB.out⟩
/-- A number of a matrix, by its row and column, counted round. -/
def mAt (zs : List Int) (r c : Nat) : Int := zs.getD (r % 3 * 3 + c % 3) 0
set_option maxRecDepth 100000 in
theorem mat_at (m0 m1 m2 m3 m4 m5 m6 m7 m8 : Int) (r c : Nat) (hr : r < 100) (hc : c < 100) (w : World) : Calls Try.prog 92 #[.agg #[.int .i64 m0, .int .i64 m1, .int .i64 m2, .int .i64 m3, .int .i64 m4, .int .i64 m5, .int .i64 m6, .int .i64 m7, .int .i64 m8], .int .i64 (r : Int), .int .i64 (c : Int)] w fun e w' => e = .returned (.int .i64 (mAt [m0, m1, m2, m3, m4, m5, m6, m7, m8] r c)) ∧ Below w.heap.size w w' := by
  have er : (r : Int).tmod 3 = ((r % 3 : Nat) : Int) := by rw [Int.tmod_eq_emod_of_nonneg (by omega)]; omega
  have ec : (c : Int).tmod 3 = ((c % 3 : Nat) : Int) := by rw [Int.tmod_eq_emod_of_nonneg (by omega)]; omega
  have hr3 : r % 3 < 3 := Nat.mod_lt _ (by omega)
  have hc3 : c % 3 < 3 := Nat.mod_lt _ (by omega)
  unfold mAt
  generalize r % 3 = x at *
  generalize c % 3 = y at *
  obtain ⟨k, hk⟩ : ∃ k, k = x * 3 + y := ⟨_, rfl⟩
  obtain ⟨t, ht⟩ : ∃ t : Int, t = (x : Int) * 3 := ⟨_, rfl⟩
  have et : IntKind.i64.wrap ((x : Int) * 3) = t := by rw [ht]; exact iw (by omega)
  have ek : IntKind.i64.wrap (t + (y : Int)) = (k : Int) := by rw [ht, hk, show (x : Int) * 3 + (y : Int) = ((x * 3 + y : Nat) : Int) by omega]; exact iw (by omega)
  have k9 : k < 9 := by omega
  have k0 : (0 : Int) ≤ (k : Int) := by omega
  have k1 : (k : Int) < 9 := by omega
  rw [← hk]
  clear hk ht hr3 hc3 hr hc
  have H9 := Lib.hid (fun w (g : Nat) (h : AtB w g #[.int .i64 m0, .int .i64 m1, .int .i64 m2, .int .i64 m3, .int .i64 m4, .int .i64 m5, .int .i64 m6, .int .i64 m7, .int .i64 m8] M9T) => cell9 h k9)
  clear k9
  generalize [m0, m1, m2, m3, m4, m5, m6, m7, m8].getD k 0 = z at *
  go_enter Try.func92, Try.ntmps92
  go_upto_region 1 with fail
  have BB := start1 w #[.int .i64 m0, .int .i64 m1, .int .i64 m2, .int .i64 m3, .int .i64 m4, .int .i64 m5, .int .i64 m6, .int .i64 m7, .int .i64 m8] M9T
  obtain ⟨BB, hsz, r_a⟩ := BB
  generalize (w.alloc (.cells #[.int .i64 m0, .int .i64 m1, .int .i64 m2, .int .i64 m3, .int .i64 m4, .int .i64 m5, .int .i64 m6, .int .i64 m7, .int .i64 m8] M9T)) = w0 at *
  replace BB := Lib.hid BB
  replace r_a := Lib.hid r_a
  clear hsz
  have cz := H9.out _ _ r_a.out
  have lz := r_a.out.lt
  go_wp2_with fail

  go_ret
  exact ⟨rfl, BB.out⟩
/-- Within reach of a matrix. -/
def I32s (x : Int) : Prop := -2147483648 ≤ x ∧ x ≤ 2147483648
theorem i32_mul {x y : Int} (hx : I32s x) (hy : I32s y) : -4611686018427387904 ≤ x * y ∧ x * y ≤ 4611686018427387904 := by
  have h1 : x.natAbs ≤ 2147483648 := by unfold I32s at hx; omega
  have h2 : y.natAbs ≤ 2147483648 := by unfold I32s at hy; omega
  have h3 := Nat.mul_le_mul h1 h2
  rw [← Int.natAbs_mul] at h3
  omega
set_option maxRecDepth 100000 in
theorem mless (a b c d : Int) (ha : I32s a) (hb : I32s b) (hc : I32s c) (hd : I32s d) (w : World) : Calls Try.prog 144 #[.int .i64 a, .int .i64 b, .int .i64 c, .int .i64 d] w (GiveW (a * b - c * d) w) := by
  have h1 := i32_mul ha hb
  have h2 := i32_mul hc hd
  have M1 := Lib.hid (fun w => wmul a b (by unfold I32s at *; unfold I64; omega) (by unfold I32s at *; unfold I64; omega) w)
  have M2 := Lib.hid (fun w => wmul c d (by unfold I32s at *; unfold I64; omega) (by unfold I32s at *; unfold I64; omega) w)
  have CS := Lib.hid (fun w xh xl yh yl hx hy => wsub (a * b) (c * d) xh xl yh yl hx hy w)
  have R := Lib.hid (show I128 (a * b - c * d) by unfold I128; omega)
  generalize a * b = P at *
  generalize c * d = Q at *
  generalize P - Q = D at *
  clear h1 h2 ha hb hc hd
  go_enter Try.func144, Try.ntmps144
  go_wp2_with fail
  have BB := start1 w #[.int .i64 0, .int .u64 0] WT5
  obtain ⟨BB, hsz, r_res⟩ := BB
  generalize (w.alloc (.cells #[.int .i64 0, .int .u64 0] WT5)) = w0 at *
  replace BB := Lib.hid BB
  replace r_res := Lib.hid r_res
  clear hsz
  refine (M1.out _).mono ?_
  rintro e w1 ⟨xh, xl, rfl, hb, hx⟩
  replace r_res := Lib.hid (r_res.out.keep hb)
  replace BB := Lib.hid (below_next BB.out hb)
  clear hb
  have hx := Lib.hid hx
  go_wp2_with fail
  refine (M2.out _).mono ?_
  rintro e w2 ⟨yh, yl, rfl, hb, hy⟩
  replace r_res := Lib.hid (r_res.out.keep hb)
  replace BB := Lib.hid (below_next BB.out hb)
  clear hb
  have hy := Lib.hid hy
  go_wp2_with fail
  refine (CS.out _ _ _ _ _ hx.out hy.out).mono ?_
  rintro e w3 ⟨dh, dl, ok, rfl, hb, hd⟩
  replace r_res := Lib.hid (r_res.out.keep hb)
  replace BB := Lib.hid (below_next BB.out hb)
  clear hb
  have hd := Lib.hid (hd.of_room R.out)
  go_upto_region 2 with fail
  have d_x := Lib.hid (And.intro BB.out.size (And.intro r_res.out.lt (True.intro)))
  obtain ⟨hb, r_x⟩ := laid w3 #[.int .i64 dh, .int .u64 dl] WT5
  replace r_res := Lib.hid (r_res.out.keep hb)
  replace BB := Lib.hid (below_next BB.out hb)
  replace r_x := Lib.hid r_x
  clear hb
  generalize w3.alloc (.cells #[.int .i64 dh, .int .u64 dl] WT5) = w4 at *
  generalize w3.heap.size = g_x at *
  obtain ⟨c_x0, c_x1, f_x0, f_x1⟩ := reads2 r_x.out
  have l_x := r_x.out.lt
  obtain ⟨c_res0, c_res1, f_res0, f_res1⟩ := reads2 r_res.out
  have l_res := r_res.out.lt
  go_wp2_with fail
  exact bodyPost_ret (v := wv dh dl) (by unfold results; simp only [Try.results144]; go_simp) rfl (give_w_res rfl (below_set2 BB.out (by omega) _ _) hd.out)
/-- The cofactor of a row and a column. -/
def cofI (zs : List Int) (r c : Nat) : Int := mAt zs (r + 1) (c + 1) * mAt zs (r + 2) (c + 2) - mAt zs (r + 1) (c + 2) * mAt zs (r + 2) (c + 1)
theorem mAt_in {zs : List Int} (h : ∀ z ∈ zs, I32s z) (r c : Nat) : I32s (mAt zs r c) := by
  unfold mAt
  by_cases hk : r % 3 * 3 + c % 3 < zs.length
  · have e : zs.getD (r % 3 * 3 + c % 3) 0 = zs[r % 3 * 3 + c % 3] := by simp [List.getD, hk]
    rw [e]; exact h _ (List.getElem_mem hk)
  · rw [List.getD_eq_getElem?_getD, List.getElem?_eq_none (by omega)]; exact ⟨by decide, by decide⟩
set_option maxRecDepth 100000 in
set_option maxHeartbeats 8000000 in
theorem mcof (m0 m1 m2 m3 m4 m5 m6 m7 m8 : Int) (hz : ∀ z ∈ [m0, m1, m2, m3, m4, m5, m6, m7, m8], I32s z) (r c : Nat) (hr : r < 10) (hc : c < 10) (w : World) : Calls Try.prog 90 #[.agg #[.int .i64 m0, .int .i64 m1, .int .i64 m2, .int .i64 m3, .int .i64 m4, .int .i64 m5, .int .i64 m6, .int .i64 m7, .int .i64 m8], .int .i64 (r : Int), .int .i64 (c : Int)] w (GiveW (cofI [m0, m1, m2, m3, m4, m5, m6, m7, m8] r c) w) := by
  have A1 := Lib.hid (fun w => mat_at m0 m1 m2 m3 m4 m5 m6 m7 m8 (r + 1) (c + 1) (by omega) (by omega) w)
  have A2 := Lib.hid (fun w => mat_at m0 m1 m2 m3 m4 m5 m6 m7 m8 (r + 2) (c + 2) (by omega) (by omega) w)
  have A3 := Lib.hid (fun w => mat_at m0 m1 m2 m3 m4 m5 m6 m7 m8 (r + 1) (c + 2) (by omega) (by omega) w)
  have A4 := Lib.hid (fun w => mat_at m0 m1 m2 m3 m4 m5 m6 m7 m8 (r + 2) (c + 1) (by omega) (by omega) w)
  have L := Lib.hid (fun w => mless (mAt [m0, m1, m2, m3, m4, m5, m6, m7, m8] (r + 1) (c + 1)) (mAt [m0, m1, m2, m3, m4, m5, m6, m7, m8] (r + 2) (c + 2)) (mAt [m0, m1, m2, m3, m4, m5, m6, m7, m8] (r + 1) (c + 2)) (mAt [m0, m1, m2, m3, m4, m5, m6, m7, m8] (r + 2) (c + 1)) (mAt_in hz _ _) (mAt_in hz _ _) (mAt_in hz _ _) (mAt_in hz _ _) w)
  change Hid (∀ w, Calls _ _ _ w (GiveW (cofI [m0, m1, m2, m3, m4, m5, m6, m7, m8] r c) w)) at L
  generalize cofI [m0, m1, m2, m3, m4, m5, m6, m7, m8] r c = D at *
  generalize mAt [m0, m1, m2, m3, m4, m5, m6, m7, m8] (r + 1) (c + 1) = x1 at *
  generalize mAt [m0, m1, m2, m3, m4, m5, m6, m7, m8] (r + 2) (c + 2) = x2 at *
  generalize mAt [m0, m1, m2, m3, m4, m5, m6, m7, m8] (r + 1) (c + 2) = x3 at *
  generalize mAt [m0, m1, m2, m3, m4, m5, m6, m7, m8] (r + 2) (c + 1) = x4 at *
  have r1 : IntKind.i64.wrap ((r : Int) + 1) = ((r + 1 : Nat) : Int) := by rw [iw (by omega)]; rfl
  have r2 : IntKind.i64.wrap ((r : Int) + 2) = ((r + 2 : Nat) : Int) := by rw [iw (by omega)]; rfl
  have c1 : IntKind.i64.wrap ((c : Int) + 1) = ((c + 1 : Nat) : Int) := by rw [iw (by omega)]; rfl
  have c2 : IntKind.i64.wrap ((c : Int) + 2) = ((c + 2 : Nat) : Int) := by rw [iw (by omega)]; rfl
  generalize ((r + 1 : Nat) : Int) = ra at *
  generalize ((r + 2 : Nat) : Int) = rb at *
  generalize ((c + 1 : Nat) : Int) = ca at *
  generalize ((c + 2 : Nat) : Int) = cb at *
  clear hz hr hc
  go_enter Try.func90, Try.ntmps90
  go_wp2_with fail
  have BB := start2 w #[.int .i64 m0, .int .i64 m1, .int .i64 m2, .int .i64 m3, .int .i64 m4, .int .i64 m5, .int .i64 m6, .int .i64 m7, .int .i64 m8] M9T #[.int .i64 0, .int .u64 0] WT5
  obtain ⟨BB, hsz, r_m, r_res⟩ := BB
  generalize ((w.alloc (.cells #[.int .i64 m0, .int .i64 m1, .int .i64 m2, .int .i64 m3, .int .i64 m4, .int .i64 m5, .int .i64 m6, .int .i64 m7, .int .i64 m8] M9T)).alloc (.cells #[.int .i64 0, .int .u64 0] WT5)) = w0 at *
  replace BB := Lib.hid BB
  replace r_m := Lib.hid r_m
  replace r_res := Lib.hid r_res
  clear hsz
  have KK := Lib.hid (fun (w9 : World) (h : Below w0.heap.size w0 w9) => (cells9 (r_m.out.keep h) : (w9.cell? ⟨w.heap.size, 0, none⟩ = some (.int .i64 m0) ∧ w9.cell? ⟨w.heap.size, 1, none⟩ = some (.int .i64 m1) ∧ w9.cell? ⟨w.heap.size, 2, none⟩ = some (.int .i64 m2) ∧ w9.cell? ⟨w.heap.size, 3, none⟩ = some (.int .i64 m3) ∧ w9.cell? ⟨w.heap.size, 4, none⟩ = some (.int .i64 m4) ∧ w9.cell? ⟨w.heap.size, 5, none⟩ = some (.int .i64 m5) ∧ w9.cell? ⟨w.heap.size, 6, none⟩ = some (.int .i64 m6) ∧ w9.cell? ⟨w.heap.size, 7, none⟩ = some (.int .i64 m7) ∧ w9.cell? ⟨w.heap.size, 8, none⟩ = some (.int .i64 m8))))
  have K0 := KK.out w0 (Below.refl _ _)
  have KD := KK.out w0.drew (below_drew (Below.refl _ _))
  have tok0 : Hid True := trivial
  have tok1 : Hid True := trivial
  have tok2 : Hid True := trivial
  have tok3 : Hid True := trivial
  refine AnyG.begin_ (fun w9 => (w9.cell? ⟨w.heap.size, 0, none⟩ = some (.int .i64 m0) ∧ w9.cell? ⟨w.heap.size, 1, none⟩ = some (.int .i64 m1) ∧ w9.cell? ⟨w.heap.size, 2, none⟩ = some (.int .i64 m2) ∧ w9.cell? ⟨w.heap.size, 3, none⟩ = some (.int .i64 m3) ∧ w9.cell? ⟨w.heap.size, 4, none⟩ = some (.int .i64 m4) ∧ w9.cell? ⟨w.heap.size, 5, none⟩ = some (.int .i64 m5) ∧ w9.cell? ⟨w.heap.size, 6, none⟩ = some (.int .i64 m6) ∧ w9.cell? ⟨w.heap.size, 7, none⟩ = some (.int .i64 m7) ∧ w9.cell? ⟨w.heap.size, 8, none⟩ = some (.int .i64 m8))) 25 (by kernel_rfl) ?_
  refine AnyG.take (i := 0) (v := ?_) rfl (by kernel_rfl) (by kernel_rfl) (by kernel_rfl) (fun _ _ _ h => h) (by kernel_rfl) (by kernel_rfl) (Or.inl ⟨by rfl, ?_⟩) (by assumption) ?_
  rotate_left
  · intro w9 hSw; (try dsimp only at hSw); go_simp <;> with_reducible rfl
  try simp only [Act.put, List.getElem_toArray, List.getElem_cons_zero, List.getElem_cons_succ, List.setIfInBounds_toArray, List.set_cons_zero, List.set_cons_succ]
  refine AnyG.take (i := 1) (v := ?_) rfl (by kernel_rfl) (by kernel_rfl) (by kernel_rfl) (fun _ _ _ h => h) (by kernel_rfl) (by kernel_rfl) (Or.inl ⟨by rfl, ?_⟩) (by assumption) ?_
  rotate_left
  · intro w9 hSw; (try dsimp only at hSw); go_simp <;> with_reducible rfl
  try simp only [Act.put, List.getElem_toArray, List.getElem_cons_zero, List.getElem_cons_succ, List.setIfInBounds_toArray, List.set_cons_zero, List.set_cons_succ]
  refine AnyG.take (i := 2) (v := ?_) rfl (by kernel_rfl) (by kernel_rfl) (by kernel_rfl) (fun _ _ _ h => h) (by kernel_rfl) (by kernel_rfl) (Or.inl ⟨by rfl, ?_⟩) (by assumption) ?_
  rotate_left
  · intro w9 hSw; (try dsimp only at hSw); go_simp <;> with_reducible rfl
  try simp only [Act.put, List.getElem_toArray, List.getElem_cons_zero, List.getElem_cons_succ, List.setIfInBounds_toArray, List.set_cons_zero, List.set_cons_succ]
  refine AnyG.take (i := 3) (v := ?_) rfl (by kernel_rfl) (by kernel_rfl) (by kernel_rfl) (fun _ _ _ h => h) (by kernel_rfl) (by kernel_rfl) (Or.inl ⟨by rfl, ?_⟩) (by assumption) ?_
  rotate_left
  · intro w9 hSw; (try dsimp only at hSw); go_simp <;> with_reducible rfl
  try simp only [Act.put, List.getElem_toArray, List.getElem_cons_zero, List.getElem_cons_succ, List.setIfInBounds_toArray, List.set_cons_zero, List.set_cons_succ]
  refine AnyG.take (i := 4) (v := ?_) rfl (by kernel_rfl) (by kernel_rfl) (by kernel_rfl) (fun _ _ _ h => h) (by kernel_rfl) (by kernel_rfl) (Or.inl ⟨by rfl, ?_⟩) (by assumption) ?_
  rotate_left
  · intro w9 hSw; (try dsimp only at hSw); go_simp <;> with_reducible rfl
  try simp only [Act.put, List.getElem_toArray, List.getElem_cons_zero, List.getElem_cons_succ, List.setIfInBounds_toArray, List.set_cons_zero, List.set_cons_succ]
  refine AnyG.take (i := 6) (v := ?_) rfl (by kernel_rfl) (by kernel_rfl) (by kernel_rfl) (fun _ _ _ h => h) (by kernel_rfl) (by kernel_rfl) (Or.inl ⟨by rfl, ?_⟩) (by assumption) ?_
  rotate_left
  · intro w9 hSw; (try dsimp only at hSw); go_simp <;> with_reducible rfl
  try simp only [Act.put, List.getElem_toArray, List.getElem_cons_zero, List.getElem_cons_succ, List.setIfInBounds_toArray, List.set_cons_zero, List.set_cons_succ]
  refine AnyG.take (i := 7) (v := ?_) rfl (by kernel_rfl) (by kernel_rfl) (by kernel_rfl) (fun _ _ _ h => h) (by kernel_rfl) (by kernel_rfl) (Or.inl ⟨by rfl, ?_⟩) (by assumption) ?_
  rotate_left
  · intro w9 hSw; (try dsimp only at hSw); go_simp <;> with_reducible rfl
  try simp only [Act.put, List.getElem_toArray, List.getElem_cons_zero, List.getElem_cons_succ, List.setIfInBounds_toArray, List.set_cons_zero, List.set_cons_succ]
  refine AnyG.take (i := 8) (v := ?_) rfl (by kernel_rfl) (by kernel_rfl) (by kernel_rfl) (fun _ _ _ h => h) (by kernel_rfl) (by kernel_rfl) (Or.inl ⟨by rfl, ?_⟩) (by assumption) ?_
  rotate_left
  · intro w9 hSw; (try dsimp only at hSw); go_simp <;> with_reducible rfl
  try simp only [Act.put, List.getElem_toArray, List.getElem_cons_zero, List.getElem_cons_succ, List.setIfInBounds_toArray, List.set_cons_zero, List.set_cons_succ]
  refine AnyG.take (i := 9) (v := ?_) rfl (by kernel_rfl) (by kernel_rfl) (by kernel_rfl) (fun _ _ _ h => h) (by kernel_rfl) (by kernel_rfl) (Or.inl ⟨by rfl, ?_⟩) (by assumption) ?_
  rotate_left
  · intro w9 hSw; (try dsimp only at hSw); go_simp <;> with_reducible rfl
  try simp only [Act.put, List.getElem_toArray, List.getElem_cons_zero, List.getElem_cons_succ, List.setIfInBounds_toArray, List.set_cons_zero, List.set_cons_succ]
  refine AnyG.take (i := 10) (v := ?_) rfl (by kernel_rfl) (by kernel_rfl) (by kernel_rfl) (fun _ _ _ h => h) (by kernel_rfl) (by kernel_rfl) (Or.inl ⟨by rfl, ?_⟩) (by assumption) ?_
  rotate_left
  · intro w9 hSw; (try dsimp only at hSw); go_simp <;> with_reducible rfl
  try simp only [Act.put, List.getElem_toArray, List.getElem_cons_zero, List.getElem_cons_succ, List.setIfInBounds_toArray, List.set_cons_zero, List.set_cons_succ]
  refine AnyG.take (i := 12) (v := ?_) rfl (by kernel_rfl) (by kernel_rfl) (by kernel_rfl) (fun _ _ _ h => h) (by kernel_rfl) (by kernel_rfl) (Or.inl ⟨by rfl, ?_⟩) (by assumption) ?_
  rotate_left
  · intro w9 hSw; (try dsimp only at hSw); go_simp <;> with_reducible rfl
  try simp only [Act.put, List.getElem_toArray, List.getElem_cons_zero, List.getElem_cons_succ, List.setIfInBounds_toArray, List.set_cons_zero, List.set_cons_succ]
  refine AnyG.take (i := 13) (v := ?_) rfl (by kernel_rfl) (by kernel_rfl) (by kernel_rfl) (fun _ _ _ h => h) (by kernel_rfl) (by kernel_rfl) (Or.inl ⟨by rfl, ?_⟩) (by assumption) ?_
  rotate_left
  · intro w9 hSw; (try dsimp only at hSw); go_simp <;> with_reducible rfl
  try simp only [Act.put, List.getElem_toArray, List.getElem_cons_zero, List.getElem_cons_succ, List.setIfInBounds_toArray, List.set_cons_zero, List.set_cons_succ]
  refine AnyG.take (i := 14) (v := ?_) rfl (by kernel_rfl) (by kernel_rfl) (by kernel_rfl) (fun _ _ _ h => h) (by kernel_rfl) (by kernel_rfl) (Or.inl ⟨by rfl, ?_⟩) (by assumption) ?_
  rotate_left
  · intro w9 hSw; (try dsimp only at hSw); go_simp <;> with_reducible rfl
  try simp only [Act.put, List.getElem_toArray, List.getElem_cons_zero, List.getElem_cons_succ, List.setIfInBounds_toArray, List.set_cons_zero, List.set_cons_succ]
  refine AnyG.take (i := 15) (v := ?_) rfl (by kernel_rfl) (by kernel_rfl) (by kernel_rfl) (fun _ _ _ h => h) (by kernel_rfl) (by kernel_rfl) (Or.inl ⟨by rfl, ?_⟩) (by assumption) ?_
  rotate_left
  · intro w9 hSw; (try dsimp only at hSw); go_simp <;> with_reducible rfl
  try simp only [Act.put, List.getElem_toArray, List.getElem_cons_zero, List.getElem_cons_succ, List.setIfInBounds_toArray, List.set_cons_zero, List.set_cons_succ]
  refine AnyG.take (i := 16) (v := ?_) rfl (by kernel_rfl) (by kernel_rfl) (by kernel_rfl) (fun _ _ _ h => h) (by kernel_rfl) (by kernel_rfl) (Or.inl ⟨by rfl, ?_⟩) (by assumption) ?_
  rotate_left
  · intro w9 hSw; (try dsimp only at hSw); go_simp <;> with_reducible rfl
  try simp only [Act.put, List.getElem_toArray, List.getElem_cons_zero, List.getElem_cons_succ, List.setIfInBounds_toArray, List.set_cons_zero, List.set_cons_succ]
  refine AnyG.take (i := 18) (v := ?_) rfl (by kernel_rfl) (by kernel_rfl) (by kernel_rfl) (fun _ _ _ h => h) (by kernel_rfl) (by kernel_rfl) (Or.inl ⟨by rfl, ?_⟩) (by assumption) ?_
  rotate_left
  · intro w9 hSw; (try dsimp only at hSw); go_simp <;> with_reducible rfl
  try simp only [Act.put, List.getElem_toArray, List.getElem_cons_zero, List.getElem_cons_succ, List.setIfInBounds_toArray, List.set_cons_zero, List.set_cons_succ]
  refine AnyG.take (i := 19) (v := ?_) rfl (by kernel_rfl) (by kernel_rfl) (by kernel_rfl) (fun _ _ _ h => h) (by kernel_rfl) (by kernel_rfl) (Or.inl ⟨by rfl, ?_⟩) (by assumption) ?_
  rotate_left
  · intro w9 hSw; (try dsimp only at hSw); go_simp <;> with_reducible rfl
  try simp only [Act.put, List.getElem_toArray, List.getElem_cons_zero, List.getElem_cons_succ, List.setIfInBounds_toArray, List.set_cons_zero, List.set_cons_succ]
  refine AnyG.take (i := 20) (v := ?_) rfl (by kernel_rfl) (by kernel_rfl) (by kernel_rfl) (fun _ _ _ h => h) (by kernel_rfl) (by kernel_rfl) (Or.inl ⟨by rfl, ?_⟩) (by assumption) ?_
  rotate_left
  · intro w9 hSw; (try dsimp only at hSw); go_simp <;> with_reducible rfl
  try simp only [Act.put, List.getElem_toArray, List.getElem_cons_zero, List.getElem_cons_succ, List.setIfInBounds_toArray, List.set_cons_zero, List.set_cons_succ]
  refine AnyG.take (i := 21) (v := ?_) rfl (by kernel_rfl) (by kernel_rfl) (by kernel_rfl) (fun _ _ _ h => h) (by kernel_rfl) (by kernel_rfl) (Or.inl ⟨by rfl, ?_⟩) (by assumption) ?_
  rotate_left
  · intro w9 hSw; (try dsimp only at hSw); go_simp <;> with_reducible rfl
  try simp only [Act.put, List.getElem_toArray, List.getElem_cons_zero, List.getElem_cons_succ, List.setIfInBounds_toArray, List.set_cons_zero, List.set_cons_succ]
  refine AnyG.take (i := 22) (v := ?_) rfl (by kernel_rfl) (by kernel_rfl) (by kernel_rfl) (fun _ _ _ h => h) (by kernel_rfl) (by kernel_rfl) (Or.inl ⟨by rfl, ?_⟩) (by assumption) ?_
  rotate_left
  · intro w9 hSw; (try dsimp only at hSw); go_simp <;> with_reducible rfl
  try simp only [Act.put, List.getElem_toArray, List.getElem_cons_zero, List.getElem_cons_succ, List.setIfInBounds_toArray, List.set_cons_zero, List.set_cons_succ]
  refine AnyG.step (i := 5) (by kernel_rfl) rfl (fun K hK => ?_)
  go_simp
  go_at_call 92
  have t_k := tok0
  refine (A1.out _).mono ?_
  rintro e w1 ⟨rfl, hb⟩
  have B_w1 := Lib.hid (reg_next (w0 := w0) (by repeat (first | with_reducible exact Below.refl _ _ | with_reducible apply below_drew | with_reducible apply below_new)) hb)
  have K_w1 := KK.out _ B_w1.out
  clear hb
  clear t_k tok0
  refine hK.out _ _ (fun _ => K_w1) (fun hHeld => ?_)
  replace hHeld := hHeld (by decide)
  clear hK
  try simp only [Act.put, List.getElem_toArray, List.getElem_cons_zero, List.getElem_cons_succ, List.setIfInBounds_toArray, List.set_cons_zero, List.set_cons_succ]
  refine AnyG.step (i := 11) (by kernel_rfl) rfl (fun K hK => ?_)
  go_simp
  go_at_call 92
  have t_k := tok1
  refine (A2.out _).mono ?_
  rintro e w2 ⟨rfl, hb⟩
  have B_w2 := Lib.hid (below_next B_w1.out hb)
  have K_w2 := KK.out _ B_w2.out
  clear hb
  clear t_k tok1
  refine hK.out _ _ (fun _ => K_w2) (fun hHeld => ?_)
  replace hHeld := hHeld (by decide)
  clear hK
  try simp only [Act.put, List.getElem_toArray, List.getElem_cons_zero, List.getElem_cons_succ, List.setIfInBounds_toArray, List.set_cons_zero, List.set_cons_succ]
  refine AnyG.step (i := 17) (by kernel_rfl) rfl (fun K hK => ?_)
  go_simp
  go_at_call 92
  have t_k := tok2
  refine (A3.out _).mono ?_
  rintro e w3 ⟨rfl, hb⟩
  have B_w3 := Lib.hid (below_next B_w2.out hb)
  have K_w3 := KK.out _ B_w3.out
  clear hb
  clear t_k tok2
  refine hK.out _ _ (fun _ => K_w3) (fun hHeld => ?_)
  replace hHeld := hHeld (by decide)
  clear hK
  try simp only [Act.put, List.getElem_toArray, List.getElem_cons_zero, List.getElem_cons_succ, List.setIfInBounds_toArray, List.set_cons_zero, List.set_cons_succ]
  refine AnyG.step (i := 23) (by kernel_rfl) rfl (fun K hK => ?_)
  go_simp
  go_at_call 92
  have t_k := tok3
  refine (A4.out _).mono ?_
  rintro e w4 ⟨rfl, hb⟩
  have B_w4 := Lib.hid (below_next B_w3.out hb)
  have K_w4 := KK.out _ B_w4.out
  clear hb
  clear t_k tok3
  refine hK.out _ _ (fun _ => K_w4) (fun hHeld => ?_)
  replace hHeld := hHeld (by decide)
  clear hK
  try simp only [Act.put, List.getElem_toArray, List.getElem_cons_zero, List.getElem_cons_succ, List.setIfInBounds_toArray, List.set_cons_zero, List.set_cons_succ]
  refine AnyG.step (i := 24) (by kernel_rfl) rfl (fun K hK => ?_)
  go_simp
  go_at_call 144
  refine (L.out _).mono ?_
  rintro e w5 ⟨dh, dl, rfl, hb, hd⟩
  have B_w5 := Lib.hid (below_next B_w4.out hb)
  have K_w5 := KK.out _ B_w5.out
  obtain ⟨rc_res0, rc_res1, rf_res0, rf_res1⟩ := reads2 (r_res.out.keep B_w5.out)
  have rl_res := (r_res.out.keep B_w5.out).lt
  clear hb
  refine hK.out _ _ (fun _ => K_w5) (fun hHeld => ?_)
  replace hHeld := hHeld (by decide)
  clear hK
  try simp only [Act.put, List.getElem_toArray, List.getElem_cons_zero, List.getElem_cons_succ, List.setIfInBounds_toArray, List.set_cons_zero, List.set_cons_succ]
  refine AnyG.step (i := 25) (by kernel_rfl) rfl (fun K hK => ?_)
  go_simp
  refine hK.out _ _ (fun h => absurd h (by decide)) (fun _ => ?_)
  clear hK
  try simp only [Act.put, List.getElem_toArray, List.getElem_cons_zero, List.getElem_cons_succ, List.setIfInBounds_toArray, List.set_cons_zero, List.set_cons_succ]
  refine AnyG.done (by kernel_rfl) ?_ _
  clear KK K0 KD K_w1 K_w2 K_w3 K_w4 K_w5
  replace r_m := Lib.hid (r_m.out.keep B_w5.out)
  replace r_res := Lib.hid (r_res.out.keep B_w5.out)
  replace BB := Lib.hid (below_next BB.out B_w5.out)
  clear B_w1 B_w2 B_w3 B_w4 B_w5
  replace r_m := Lib.hid (r_m.out.far2 (p := w.heap.size + 1) (by omega) (.int .i64 dh) (.int .u64 dl))
  replace r_res := Lib.hid (r_res.out.set2 (.int .i64 dh) (.int .u64 dl))
  replace BB := Lib.hid (below_far2 BB.out (p := w.heap.size + 1) (by omega) (.int .i64 dh) (.int .u64 dl))
  generalize ((w5.setCell ⟨w.heap.size + 1, 0, none⟩ (.int .i64 dh)).setCell ⟨w.heap.size + 1, 1, none⟩ (.int .u64 dl)) = w6 at *
  obtain ⟨c_res0, c_res1, f_res0, f_res1⟩ := reads2 r_res.out
  have l_res := r_res.out.lt
  go_wp2_with fail
  exact bodyPost_ret (v := wv dh dl) (by unfold results; simp only [Try.results90]; go_simp) rfl (give_w_res rfl BB.out hd)
end Go.Proofs.Ythoakbjnofhpbaa
