/- Contracts of mesh: from, fits, far, cell, at, column, row. -/
import Derived.Test.YthoakbjnofhpbaaJD
import Derived.Test.YthoakbjnofhpbaaRegG
import Derived.Test.YthoakbjnofhpbaaBoxS
import Derived.Test.YthoakbjnofhpbaaMt0
set_option linter.unusedVariables false
set_option linter.unusedSimpArgs false
namespace Go.Proofs.Ythoakbjnofhpbaa
open Go.RowKit
abbrev MXT : TypeId := 131
abbrev AXT : TypeId := 126
abbrev KNT : TypeId := 138
/-- Whether a number is from 1 to another one. -/
def fromB (x m : Int) : Bool := decide (1 ≤ x ∧ x ≤ m)
theorem mfrom (x m : Int) (w : World) : Calls Try.prog 130 #[.int .i64 x, .int .i64 m] w fun e w' => e = .returned (.bool (fromB x m)) ∧ w = w' := by
  rcases dec_both (x ≥ 1) with ⟨h, hd⟩ | ⟨h, hd⟩
  · rcases dec_both (x ≤ m) with ⟨h', hd'⟩ | ⟨h', hd'⟩
    · have H := Lib.hid (show fromB x m = true from decide_eq_true ⟨h, h'⟩)
      clear h h'
      go_enter Try.func130, Try.ntmps130
      go_wp2
      go_ret
      exact ⟨ret_bool H.out.symm, rfl⟩
    · have H := Lib.hid (show fromB x m = false from decide_eq_false (fun k => h' k.2))
      clear h h'
      go_enter Try.func130, Try.ntmps130
      go_wp2
      go_ret
      exact ⟨ret_bool H.out.symm, rfl⟩
  · have H := Lib.hid (show fromB x m = false from decide_eq_false (fun k => h k.1))
    clear h
    go_enter Try.func130, Try.ntmps130
    go_wp2
    go_ret
    exact ⟨ret_bool H.out.symm, rfl⟩
theorem r21from (x m : Int) (w : World) : Calls Try.prog 131 #[.int .i64 x, .int .i64 m] w fun e w' => e = .returned (.bool (fromB x m)) ∧ w = w' := by
  rcases dec_both (x ≥ 1) with ⟨h, hd⟩ | ⟨h, hd⟩
  · rcases dec_both (x ≤ m) with ⟨h', hd'⟩ | ⟨h', hd'⟩
    · have H := Lib.hid (show fromB x m = true from decide_eq_true ⟨h, h'⟩)
      clear h h'
      go_enter Try.func131, Try.ntmps131
      go_wp2
      go_ret
      exact ⟨ret_bool H.out.symm, rfl⟩
    · have H := Lib.hid (show fromB x m = false from decide_eq_false (fun k => h' k.2))
      clear h h'
      go_enter Try.func131, Try.ntmps131
      go_wp2
      go_ret
      exact ⟨ret_bool H.out.symm, rfl⟩
  · have H := Lib.hid (show fromB x m = false from decide_eq_false (fun k => h k.1))
    clear h
    go_enter Try.func131, Try.ntmps131
    go_wp2
    go_ret
    exact ⟨ret_bool H.out.symm, rfl⟩
def fitsM (gx gy nx ny : Int) : Bool := fromB gx 1024 && (fromB gy 1024 && (fromB nx 64 && fromB ny 64))
theorem fitsM_iff {gx gy nx ny : Int} : fitsM gx gy nx ny = true ↔ (1 ≤ gx ∧ gx ≤ 1024) ∧ (1 ≤ gy ∧ gy ≤ 1024) ∧ (1 ≤ nx ∧ nx ≤ 64) ∧ (1 ≤ ny ∧ ny ≤ 64) := by
  unfold fitsM fromB; simp
set_option maxRecDepth 100000 in
theorem mfits (gx nx gy ny : Int) (w : World) : Calls Try.prog 74 #[.agg #[.int .i64 gx, .int .i64 nx], .agg #[.int .i64 gy, .int .i64 ny]] w fun e w' => e = .returned (.bool (fitsM gx gy nx ny)) ∧ Below w.heap.size w w' := by
  have C1 := Lib.hid (fun w => mfrom gx 1024 w)
  have C2 := Lib.hid (fun w => mfrom gy 1024 w)
  have C3 := Lib.hid (fun w => mfrom nx 64 w)
  have C4 := Lib.hid (fun w => mfrom ny 64 w)
  unfold fitsM
  generalize fromB gx 1024 = b1 at *
  generalize fromB gy 1024 = b2 at *
  generalize fromB nx 64 = b3 at *
  generalize fromB ny 64 = b4 at *
  go_enter Try.func74, Try.ntmps74
  go_upto_region 1 with fail
  have BB := start2 w #[.int .i64 gx, .int .i64 nx] AXT #[.int .i64 gy, .int .i64 ny] AXT
  obtain ⟨BB, hsz, r_x, r_y⟩ := BB
  generalize ((w.alloc (.cells #[.int .i64 gx, .int .i64 nx] AXT)).alloc (.cells #[.int .i64 gy, .int .i64 ny] AXT)) = w0 at *
  replace BB := Lib.hid BB
  replace r_x := Lib.hid r_x
  replace r_y := Lib.hid r_y
  clear hsz
  obtain ⟨c_x0, c_x1, f_x0, f_x1⟩ := reads2 r_x.out
  have l_x := r_x.out.lt
  obtain ⟨c_y0, c_y1, f_y0, f_y1⟩ := reads2 r_y.out
  have l_y := r_y.out.lt
  cases b1
  · go_wp2_with fail
    refine (C1.out _).mono ?_; rintro e w9 ⟨rfl, rfl⟩
    go_wp2_with fail
    go_ret
    exact ⟨rfl, BB.out⟩
  · cases b2
    · go_wp2_with fail
      refine (C1.out _).mono ?_; rintro e w9 ⟨rfl, rfl⟩
      go_wp2_with fail
      refine (C2.out _).mono ?_; rintro e w9 ⟨rfl, rfl⟩
      go_wp2_with fail
      go_ret
      exact ⟨rfl, BB.out⟩
    · cases b3
      · go_wp2_with fail
        refine (C1.out _).mono ?_; rintro e w9 ⟨rfl, rfl⟩
        go_wp2_with fail
        refine (C2.out _).mono ?_; rintro e w9 ⟨rfl, rfl⟩
        go_wp2_with fail
        refine (C3.out _).mono ?_; rintro e w9 ⟨rfl, rfl⟩
        go_wp2_with fail
        go_ret
        exact ⟨rfl, BB.out⟩
      · go_wp2_with fail
        refine (C1.out _).mono ?_; rintro e w9 ⟨rfl, rfl⟩
        go_wp2_with fail
        refine (C2.out _).mono ?_; rintro e w9 ⟨rfl, rfl⟩
        go_wp2_with fail
        refine (C3.out _).mono ?_; rintro e w9 ⟨rfl, rfl⟩
        go_wp2_with fail
        refine (C4.out _).mono ?_; rintro e w9 ⟨rfl, rfl⟩
        go_wp2_with fail
        go_ret
        exact ⟨rfl, BB.out⟩
theorem mfar (x : Int) (w : World) : Calls Try.prog 77 #[.int .i64 x] w fun e w' => e = .returned (.bool (farM x)) ∧ w = w' := by
  by_cases h1 : x < -2147483648
  · go_enter Try.func77, Try.ntmps77
    go_wp2
    go_ret
    exact ⟨ret_bool (farM_t (.inl h1)).symm, rfl⟩
  · by_cases h2 : 2147483648 < x
    · go_enter Try.func77, Try.ntmps77
      go_wp2
      go_ret
      exact ⟨ret_bool (farM_t (.inr h2)).symm, rfl⟩
    · go_enter Try.func77, Try.ntmps77
      go_wp2
      go_ret
      exact ⟨ret_bool (farM_f (by omega)).symm, rfl⟩
set_option maxRecDepth 100000 in
set_option maxHeartbeats 1000000 in
theorem kcon_idx (v : Value) (p : Int → Bool) (zs : List Int) (w : World) (hv : IS w v zs)
    (hp : ∀ z ∈ zs, Calls Try.prog 77 #[.int .i64 z] w fun e w' => e = .returned (.bool (p z)) ∧ w = w') :
    Calls Try.prog 132 #[v, .func (.func 77) #[] #[]] w (GiveIdx (zs.any p) w) := by
  have hl := hv.len
  by_cases hz : zs = []
  · subst hz
    obtain ⟨A, cap, rfl⟩ := hv.form
    clear hv hp
    go_enter Try.func132, Try.ntmps132
    go_wp2
    go_loop [8] (fun i => i = .int .i64 0) (fun _ => 0)
    case atStart => exact rfl
    case round =>
      obtain rfl := hrel
      go_wp2
      go_ret
      exact ⟨_, rfl, rfl, rfl⟩
  · obtain ⟨b, off, cap, rfl, h1, h2, hlt, hc⟩ := hv.some hz
    have HP := Lib.hid (fun k (hk : k < zs.length) => hp (zs.getD k 0) (by simp [List.getD, List.getElem?_eq_getElem hk]))
    have HC := Lib.hid hc
    have HS := Lib.hid (fun k (hk : k < zs.length) => any_step (p := p) hk)
    clear hv hp hc
    generalize hn : zs.length = n at *
    have HN := Lib.hid hn
    clear hn
    go_enter Try.func132, Try.ntmps132
    go_wp2
    go_loop [5, 8] (fun _ i => ∃ k : Nat, k ≤ n ∧ i = .int .i64 k ∧ Hid ((zs.take k).any p = false)) (fun _ i => n - (intOf i).toNat)
    case atStart => exact ⟨0, by omega, rfl, rfl⟩
    case round =>
      obtain ⟨k, hk, rfl, hI⟩ := hrel
      by_cases hkn : k < n
      · have hcell := HC.out k hkn
        have hstep := HS.out k hkn
        have C := Lib.hid (HP.out k hkn)
        rw [hI.out, Bool.false_or] at hstep
        clear HP HS HC hI
        generalize zs.getD k 0 = z at *
        cases hpz : p z
        · rw [hpz] at C hstep
          have hstep := Lib.hid hstep
          clear hpz
          go_wp2_with fail
          refine C.out.mono ?_; rintro e w' ⟨rfl, rfl⟩
          go_wp2_with fail
          go_round
          case rel => exact ⟨k + 1, by omega, rfl, hstep.out⟩
          case measure => simp [intOf]; omega
        · rw [hpz] at C hstep
          have hany : Hid (zs.any p = true) := by
            have : zs.any p = ((zs.take (k + 1)) ++ zs.drop (k + 1)).any p := by rw [List.take_append_drop]
            show _ = _
            rw [this, List.any_append, hstep]; rfl
          clear hpz hstep
          go_wp2_with fail
          refine C.out.mono ?_; rintro e w' ⟨rfl, rfl⟩
          go_wp2_with fail
          go_ret
          exact ⟨_, rfl, rfl, by rw [hany.out]; simp⟩
      · have : k = n := by omega
        subst this
        have hany : Hid (zs.any p = false) := by
          have := hI.out
          rw [List.take_of_length_le (by rw [HN.out]; omega)] at this
          exact this
        clear HP HS HC hI
        go_wp2_with fail
        go_ret
        exact ⟨_, rfl, rfl, by rw [hany.out]; rfl⟩

theorem kcon (v : Value) (p : Int → Bool) (zs : List Int) (w : World) (hv : IS w v zs)
    (hp : ∀ z ∈ zs, Calls Try.prog 77 #[.int .i64 z] w fun e w' => e = .returned (.bool (p z)) ∧ w = w') :
    Calls Try.prog 76 #[v, .func (.func 77) #[] #[]] w fun e w' => e = .returned (.bool (zs.any p)) ∧ w = w' := by
  have C := Lib.hid (kcon_idx v p zs w hv hp)
  clear hv hp
  generalize zs.any p = A at *
  go_enter Try.func76, Try.ntmps76
  go_wp2_with fail
  refine C.out.mono ?_; rintro e w' ⟨r, rfl, rfl, hr⟩
  go_wp2_with fail
  go_ret
  exact ⟨rfl, rfl⟩
theorem mul_rng {a b A B : Int} (ha : 1 ≤ a ∧ a ≤ A) (hb : 1 ≤ b ∧ b ≤ B) : 1 ≤ a * b ∧ a * b ≤ A * B := by
  have h1 : 0 < a * b := Int.mul_pos (by omega) (by omega)
  have h2 : a * b ≤ A * B := Int.mul_le_mul ha.2 hb.2 (by omega) (by omega)
  omega
/-- A place along an axis, put within it; its cell; how far it is in it. -/
def cellM (g n p d : Int) : Int := if g * n * d < p then g * n * d else p
def cellQ (g n p d : Int) : Int := if 0 < cellM g n p d then cellM g n p d else 0
def cellI (g n p d : Int) : Int := if n - 1 < cellQ g n p d / (g * d) then n - 1 else cellQ g n p d / (g * d)
def cellS (g n p d : Int) : Int := cellQ g n p d - cellI g n p d * g * d
theorem cell_facts {g n p d : Int} (hg : 1 ≤ g ∧ g ≤ 1024) (hn : 1 ≤ n ∧ n ≤ 64) (hd : 1 ≤ d ∧ d ≤ 16) : 0 ≤ cellQ g n p d ∧ cellQ g n p d ≤ g * n * d ∧ 0 ≤ cellI g n p d ∧ cellI g n p d ≤ n - 1 ∧ 0 ≤ cellS g n p d ∧ cellS g n p d ≤ g * d := by
  have h1 := mul_rng hg hn
  have h2 := mul_rng h1 hd
  have h3 := mul_rng hg hd
  have e : g * n * d = n * (g * d) := by rw [Int.mul_comm g n, Int.mul_assoc]
  have hQ : 0 ≤ cellQ g n p d ∧ cellQ g n p d ≤ g * n * d := by unfold cellQ cellM; split <;> split <;> omega
  have hS : cellS g n p d = cellQ g n p d - cellI g n p d * (g * d) := by unfold cellS; rw [Int.mul_assoc]
  rw [hS]
  unfold cellI
  generalize cellQ g n p d = Q at *
  rw [e] at hQ ⊢
  generalize g * d = U at *
  have hq0 : 0 ≤ Q / U := Int.ediv_nonneg (by omega) (by omega)
  have hm := Int.mul_ediv_add_emod Q U
  have hl := Int.emod_lt_of_pos Q (show 0 < U by omega)
  have hl0 := Int.emod_nonneg Q (show U ≠ 0 by omega)
  have hc : U * (Q / U) = Q / U * U := Int.mul_comm _ _
  refine ⟨hQ.1, hQ.2, ?_, ?_, ?_, ?_⟩
  · split <;> omega
  · split <;> omega
  · split
    · rename_i hlt
      have : (n - 1) * U ≤ Q / U * U := Int.mul_le_mul_of_nonneg_right (by omega) (by omega)
      omega
    · omega
  · split
    · rename_i hlt
      rw [Int.sub_mul, Int.one_mul]
      omega
    · omega
set_option maxRecDepth 100000 in
set_option maxHeartbeats 4000000 in
theorem mcell (g n p d : Int) (hg : 1 ≤ g ∧ g ≤ 1024) (hn : 1 ≤ n ∧ n ≤ 64) (hd : 1 ≤ d ∧ d ≤ 16) (w : World) : Calls Try.prog 88 #[.agg #[.int .i64 g, .int .i64 n], .int .i64 p, .int .i64 d] w fun e w' => e = .returned (.tuple #[.int .i64 (cellI g n p d), .int .i64 (cellS g n p d)]) ∧ Below w.heap.size w w' := by
  obtain ⟨f1, f2, f3, f4, f5, f6⟩ := cell_facts (p := p) hg hn hd
  have h1 := mul_rng hg hn
  have h2 := mul_rng h1 hd
  have h3 := mul_rng hg hd
  have f7 : cellI g n p d * g * d ≤ cellQ g n p d ∧ 0 ≤ cellI g n p d * g * d := ⟨by unfold cellS at f5; omega, Int.mul_nonneg (Int.mul_nonneg f3 (by omega)) (by omega)⟩
  have f8 : cellI g n p d * g ≤ 63 * 1024 := Int.mul_le_mul (by omega) hg.2 (by omega) (by omega)
  have f9 : 0 ≤ cellI g n p d * g := Int.mul_nonneg f3 (by omega)
  have hU : ¬ g * d = 0 := by omega
  have hUd : 0 ≤ cellQ g n p d / (g * d) := Int.ediv_nonneg f1 (by omega)
  have hUe : cellQ g n p d / (g * d) ≤ cellQ g n p d := Int.ediv_le_self _ f1
  have a1 : IntKind.i64.wrap (g * n) = g * n := iw ⟨by omega, by omega⟩
  have a2 : IntKind.i64.wrap (g * n * d) = g * n * d := iw ⟨by omega, by omega⟩
  have a3 : IntKind.i64.wrap (g * d) = g * d := iw ⟨by omega, by omega⟩
  have a6 : (cellQ g n p d).tdiv (g * d) = cellQ g n p d / (g * d) := Int.tdiv_eq_ediv_of_nonneg f1
  have a7 : IntKind.i64.wrap (cellQ g n p d / (g * d)) = cellQ g n p d / (g * d) := iw ⟨by omega, by omega⟩
  have a8 : IntKind.i64.wrap (n - 1) = n - 1 := iw ⟨by omega, by omega⟩
  have a10 : IntKind.i64.wrap (cellI g n p d * g) = cellI g n p d * g := iw ⟨by omega, by omega⟩
  have a11 : IntKind.i64.wrap (cellI g n p d * g * d) = cellI g n p d * g * d := iw ⟨by omega, by omega⟩
  have a12 : IntKind.i64.wrap (cellQ g n p d - cellI g n p d * g * d) = cellS g n p d := iw ⟨by unfold cellS at *; omega, by unfold cellS at *; omega⟩
  obtain ⟨gn, hgn⟩ : ∃ v, v = g * n := ⟨_, rfl⟩
  obtain ⟨T, hT⟩ : ∃ v, v = g * n * d := ⟨_, rfl⟩
  obtain ⟨U, hUU⟩ : ∃ v, v = g * d := ⟨_, rfl⟩
  obtain ⟨m, hm⟩ : ∃ v, v = cellM g n p d := ⟨_, rfl⟩
  obtain ⟨Q, hQ⟩ : ∃ v, v = cellQ g n p d := ⟨_, rfl⟩
  obtain ⟨q, hq⟩ : ∃ v, v = cellQ g n p d / (g * d) := ⟨_, rfl⟩
  obtain ⟨i, hi⟩ : ∃ v, v = cellI g n p d := ⟨_, rfl⟩
  obtain ⟨s, hs⟩ : ∃ v, v = cellS g n p d := ⟨_, rfl⟩
  obtain ⟨n1, hn1⟩ : ∃ v, v = n - 1 := ⟨_, rfl⟩
  obtain ⟨ig, hig⟩ : ∃ v, v = cellI g n p d * g := ⟨_, rfl⟩
  obtain ⟨igd, higd⟩ : ∃ v, v = cellI g n p d * g * d := ⟨_, rfl⟩
  have e1 : IntKind.i64.wrap (g * n) = gn := by rw [hgn]; exact a1
  have e2 : IntKind.i64.wrap (gn * d) = T := by rw [hgn, hT]; exact a2
  have e3 : IntKind.i64.wrap (g * d) = U := by rw [hUU]; exact a3
  have e4 : (if T < p then T else p) = m := by rw [hT, hm]; rfl
  have e5 : (if 0 < m then m else 0) = Q := by rw [hm, hQ]; rfl
  have e6 : Q.tdiv U = q := by rw [hQ, hUU, hq]; exact a6
  have e7 : IntKind.i64.wrap q = q := by rw [hq]; exact a7
  have e8 : IntKind.i64.wrap (n - 1) = n1 := by rw [hn1]; exact a8
  have e9 : (if n1 < q then n1 else q) = i := by rw [hn1, hq, hi]; rfl
  have e10 : IntKind.i64.wrap (i * g) = ig := by rw [hi, hig]; exact a10
  have e11 : IntKind.i64.wrap (ig * d) = igd := by rw [hig, higd]; exact a11
  have e12 : IntKind.i64.wrap (Q - igd) = s := by rw [hQ, higd, hs]; exact a12
  rw [← hUU] at hU
  rw [← hi, ← hs]
  clear f1 f2 f3 f4 f5 f6 f7 f8 f9 h1 h2 h3 hUd hUe hg hn hd a1 a2 a3 a6 a7 a8 a10 a11 a12 hgn hT hUU hm hQ hq hi hs hn1 hig higd
  go_enter Try.func88, Try.ntmps88
  go_upto_region 1 with fail
  have BB := start1 w #[.int .i64 g, .int .i64 n] AXT
  obtain ⟨BB, hsz, r_a⟩ := BB
  generalize (w.alloc (.cells #[.int .i64 g, .int .i64 n] AXT)) = w0 at *
  replace BB := Lib.hid BB
  replace r_a := Lib.hid r_a
  clear hsz
  obtain ⟨c_a0, c_a1, f_a0, f_a1⟩ := reads2 r_a.out
  have l_a := r_a.out.lt
  go_wp2_with fail
  clear c_a0 c_a1 f_a0 f_a1 l_a
  have KK := Lib.hid (fun (w9 : World) (h : Below w0.heap.size w0 w9) => (cells2 (r_a.out.keep h) : (w9.cell? ⟨w.heap.size, 0, none⟩ = some (.int .i64 g) ∧ w9.cell? ⟨w.heap.size, 1, none⟩ = some (.int .i64 n))))
  have K0 := KK.out w0 (Below.refl _ _)
  have KD := KK.out w0.drew (below_drew (Below.refl _ _))
  go_region_held3 (fun w9 => (w9.cell? ⟨w.heap.size, 0, none⟩ = some (.int .i64 g) ∧ w9.cell? ⟨w.heap.size, 1, none⟩ = some (.int .i64 n)))
      (first | with_reducible exact KD | with_reducible exact K0)
      (fail)
  clear KK K0 KD
  have hb := below_drew (Below.refl w0.heap.size w0)
  generalize w0.drew = w1 at *
  replace r_a := Lib.hid (r_a.out.keep hb)
  replace BB := Lib.hid (below_next BB.out hb)
  clear hb
  go_wp2_with fail
  obtain ⟨c_a0, c_a1, f_a0, f_a1⟩ := reads2 r_a.out
  have l_a := r_a.out.lt
  go_quiet (fail)
  have hb := below_drawn (Below.refl w1.heap.size w1) nq
  generalize w1.drewN nq = w2 at *
  clear c_a0 c_a1 f_a0 f_a1 l_a
  replace r_a := Lib.hid (r_a.out.keep hb)
  replace BB := Lib.hid (below_next BB.out hb)
  clear hb nq
  go_wp2_with fail
  refine bodyPost_ret (v := .tuple #[.int .i64 i, .int .i64 s]) (by unfold results; simp only [Try.results88]; go_simp) rfl ⟨rfl, BB.out⟩
/-- Knots side by side in a block. -/
def KB (w : World) (b : Nat) (ks : List (Int × Int)) : Prop := b < w.heap.size ∧ ∀ j, j < ks.length → w.cell? ⟨b, j * 2, none⟩ = some (.int .i64 (ks.getD j (0, 0)).1) ∧ w.cell? ⟨b, j * 2 + 1, none⟩ = some (.int .i64 (ks.getD j (0, 0)).2)
theorem KB.below {w w1 : World} {b : Nat} {ks : List (Int × Int)} (h : KB w b ks) {B : Nat} (hb : Below B w w1) (hB : b < B) : KB w1 b ks :=
  ⟨Nat.lt_of_lt_of_le h.1 hb.size, fun j hj => ⟨(hb.cell hB).trans (h.2 j hj).1, (hb.cell hB).trans (h.2 j hj).2⟩⟩
/-- A mesh: its cells' sizes, their numbers, its knots row by row. -/
def MX (w : World) (g : Nat) (gx gy nx ny : Int) (ks : List (Int × Int)) : Prop := ∃ b cap, AtB w g #[.int .i64 gx, .int .i64 nx, .int .i64 gy, .int .i64 ny, .slice (some ⟨b, 0, none⟩) ks.length cap] MXT ∧ ks.length ≤ cap ∧ KB w b ks
theorem MX.below {w w1 : World} {g : Nat} {gx gy nx ny : Int} {ks : List (Int × Int)} (h : MX w g gx gy nx ny ks) (hb : Below w.heap.size w w1) : MX w1 g gx gy nx ny ks := by
  obtain ⟨b, cap, h1, h2, h3⟩ := h
  exact ⟨b, cap, h1.keep hb, h2, h3.below hb h3.1⟩
set_option maxRecDepth 100000 in
set_option maxHeartbeats 4000000 in
theorem mk_at (g : Nat) (gx gy nx ny i k : Int) (ks : List (Int × Int)) (j : Nat) (hj : (j : Int) = k * (nx + 1) + i) (hl : j < ks.length) (hn : 1 ≤ nx ∧ nx ≤ 64) (hi : 0 ≤ i ∧ i ≤ 64) (hk : 0 ≤ k ∧ k ≤ 64) (hL : ks.length ≤ 100000) (w : World) (hm : MX w g gx gy nx ny ks) : Calls Try.prog 87 #[.pointer (some ⟨g, 0, none⟩), .int .i64 i, .int .i64 k] w fun e w' => e = .returned (.agg #[.int .i64 (ks.getD j (0, 0)).1, .int .i64 (ks.getD j (0, 0)).2]) ∧ Below w.heap.size w w' := by
  have f1 : k * (nx + 1) ≤ 64 * 65 := Int.mul_le_mul hk.2 (by omega) (by omega) (by omega)
  have f2 : 0 ≤ k * (nx + 1) := Int.mul_nonneg hk.1 (by omega)
  obtain ⟨n1, hn1⟩ : ∃ v, v = nx + 1 := ⟨_, rfl⟩
  rw [← hn1] at f1 f2 hj
  obtain ⟨kn, hkn⟩ : ∃ v, v = k * n1 := ⟨_, rfl⟩
  rw [← hkn] at f1 f2 hj
  have e1 : IntKind.i64.wrap (nx + 1) = n1 := by rw [hn1]; exact iw ⟨by omega, by omega⟩
  have e2 : IntKind.i64.wrap (k * n1) = kn := by rw [hkn]; exact iw ⟨by omega, by omega⟩
  have e3 : IntKind.i64.wrap (kn + i) = (j : Int) := by rw [iw ⟨by omega, by omega⟩]; exact hj.symm
  obtain ⟨b, cap, hA, hc, hb, hK⟩ := hm
  obtain ⟨k1, k2⟩ := hK j hl
  have j0 : (0 : Int) ≤ (j : Int) := by omega
  have j1 : (j : Int) < (ks.length : Int) := by omega
  have CK := Lib.hid (fun w9 (h9 : Below w.heap.size w w9) => And.intro ((h9.cell hb).trans k1) ((h9.cell hb).trans k2))
  have CM := Lib.hid (fun w9 (h9 : Below w.heap.size w w9) => cells5 (hA.keep h9))
  clear k1 k2 hK hA hj hl hn hi hk hb f1 f2 hkn hn1
  generalize (ks.getD j (0, 0)).1 = x at *
  generalize (ks.getD j (0, 0)).2 = y at *
  generalize ks.length = n at *
  go_enter Try.func87, Try.ntmps87
  go_wp2_with fail
  have BB := start1 w #[.int .i64 0, .int .i64 0] KNT
  obtain ⟨BB, hsz, r_res⟩ := BB
  generalize (w.alloc (.cells #[.int .i64 0, .int .i64 0] KNT)) = w0 at *
  replace BB := Lib.hid BB
  replace r_res := Lib.hid r_res
  clear hsz
  have KK := Lib.hid (fun (w9 : World) (h : Below w0.heap.size w0 w9) => (⟨CM.out _ (below_next BB.out h), CK.out _ (below_next BB.out h)⟩ : (w9.cell? ⟨g, 0, none⟩ = some (.int .i64 gx) ∧ w9.cell? ⟨g, 1, none⟩ = some (.int .i64 nx) ∧ w9.cell? ⟨g, 2, none⟩ = some (.int .i64 gy) ∧ w9.cell? ⟨g, 3, none⟩ = some (.int .i64 ny) ∧ w9.cell? ⟨g, 4, none⟩ = some (.slice (some ⟨b, 0, none⟩) n cap)) ∧ (w9.cell? ⟨b, j * 2, none⟩ = some (.int .i64 x) ∧ w9.cell? ⟨b, j * 2 + 1, none⟩ = some (.int .i64 y))))
  have K0 := KK.out w0 (Below.refl _ _)
  have KD := KK.out w0.drew (below_drew (Below.refl _ _))
  obtain ⟨rc_res0, rc_res1, rf_res0, rf_res1⟩ := reads2 r_res.out
  have rl_res := r_res.out.lt
  go_region_held3 (fun w9 => (w9.cell? ⟨g, 0, none⟩ = some (.int .i64 gx) ∧ w9.cell? ⟨g, 1, none⟩ = some (.int .i64 nx) ∧ w9.cell? ⟨g, 2, none⟩ = some (.int .i64 gy) ∧ w9.cell? ⟨g, 3, none⟩ = some (.int .i64 ny) ∧ w9.cell? ⟨g, 4, none⟩ = some (.slice (some ⟨b, 0, none⟩) n cap)) ∧ (w9.cell? ⟨b, j * 2, none⟩ = some (.int .i64 x) ∧ w9.cell? ⟨b, j * 2 + 1, none⟩ = some (.int .i64 y)))
      (first | with_reducible exact KD | with_reducible exact K0 | with_reducible exact ⟨(CM.out _ (below_drew (below_far2 BB.out (by omega) _ _))), (CK.out _ (below_drew (below_far2 BB.out (by omega) _ _)))⟩)
      (fail)
  clear KK K0 KD
  clear rc_res0 rc_res1 rf_res0 rf_res1 rl_res
  replace r_res := Lib.hid (r_res.out.set2 (.int .i64 x) (.int .i64 y))
  replace BB := Lib.hid (below_far2 BB.out (p := w.heap.size) (by omega) (.int .i64 x) (.int .i64 y))
  generalize ((w0.setCell ⟨w.heap.size, 0, none⟩ (.int .i64 x)).setCell ⟨w.heap.size, 1, none⟩ (.int .i64 y)) = w1 at *
  have hb := below_drew (Below.refl w1.heap.size w1)
  generalize w1.drew = w2 at *
  replace r_res := Lib.hid (r_res.out.keep hb)
  replace BB := Lib.hid (below_next BB.out hb)
  clear hb
  obtain ⟨c_res0, c_res1, f_res0, f_res1⟩ := reads2 r_res.out
  have l_res := r_res.out.lt
  go_wp2_with fail
  refine bodyPost_ret (v := .agg #[.int .i64 x, .int .i64 y]) (by unfold results; simp only [Try.results87]; go_simp) rfl ⟨rfl, BB.out⟩
theorem mcolumn (x y : Int) (w : World) : Calls Try.prog 82 #[.agg #[.int .i64 x, .int .i64 y]] w fun e w' => e = .returned (.int .i64 x) ∧ Below w.heap.size w w' := by
  go_enter Try.func82, Try.ntmps82
  go_upto_region 1 with fail
  have BB := start1 w #[.int .i64 x, .int .i64 y] KNT
  obtain ⟨BB, hsz, r_a⟩ := BB
  generalize (w.alloc (.cells #[.int .i64 x, .int .i64 y] KNT)) = w0 at *
  replace BB := Lib.hid BB
  replace r_a := Lib.hid r_a
  clear hsz
  obtain ⟨c_a0, c_a1, f_a0, f_a1⟩ := reads2 r_a.out
  have l_a := r_a.out.lt
  go_wp2_with fail
  go_ret
  exact ⟨rfl, BB.out⟩
theorem mkrow (x y : Int) (w : World) : Calls Try.prog 83 #[.agg #[.int .i64 x, .int .i64 y]] w fun e w' => e = .returned (.int .i64 y) ∧ Below w.heap.size w w' := by
  go_enter Try.func83, Try.ntmps83
  go_upto_region 1 with fail
  have BB := start1 w #[.int .i64 x, .int .i64 y] KNT
  obtain ⟨BB, hsz, r_a⟩ := BB
  generalize (w.alloc (.cells #[.int .i64 x, .int .i64 y] KNT)) = w0 at *
  replace BB := Lib.hid BB
  replace r_a := Lib.hid r_a
  clear hsz
  obtain ⟨c_a0, c_a1, f_a0, f_a1⟩ := reads2 r_a.out
  have l_a := r_a.out.lt
  go_wp2_with fail
  go_ret
  exact ⟨rfl, BB.out⟩
end Go.Proofs.Ythoakbjnofhpbaa
