/- Contract of the lens' At. -/
import Derived.Test.YthdbchghhpoadaaLens4
import Derived.Test.YthdbchghhpoadaaJA
set_option linter.unusedVariables false
namespace Go.Proofs.Ythdbchghhpoadaa
open Go.RowKit

/-- Numbers of a lens, each as it may be. -/
structure LM (cx cy f k1 k2 p1 p2 : Int) : Prop where
  x : -2147483648 ≤ cx ∧ cx ≤ 2147483648
  y : -2147483648 ≤ cy ∧ cy ≤ 2147483648
  f : 1 ≤ f ∧ f ≤ 32768
  k1 : -65536 ≤ k1 ∧ k1 ≤ 65536
  k2 : -65536 ≤ k2 ∧ k2 ≤ 65536
  p1 : -65536 ≤ p1 ∧ p1 ≤ 65536
  p2 : -65536 ≤ p2 ∧ p2 ≤ 65536
theorem rightI_ax {px py d cx cy f k1 k2 p1 p2 : Int} (h : rightI px py d = true) (m : LM cx cy f k1 k2 p1 p2) : Ax px d cx f ∧ Ax py d cy f := by
  obtain ⟨⟨a, b⟩, ⟨c, d⟩, e, f⟩ := rightI_iff.1 h
  exact ⟨⟨a, b, e, f, m.x.1, m.x.2, m.f.1, m.f.2⟩, ⟨c, d, e, f, m.y.1, m.y.2, m.f.1, m.f.2⟩⟩

theorem lat_nil (px py d : Int) (w : World) : Calls Try.prog 21 #[.pointer none, .int .i64 px, .int .i64 py, .int .i64 d] w fun e w' => e = .returned (.tuple #[.int .i64 0, .int .i64 0, .int .i64 10]) ∧ w = w' := by
  go_enter Try.func21, Try.ntmps21
  go_wp2
  go_ret3
  exact ⟨rfl, rfl⟩

set_option maxRecDepth 100000 in
set_option maxHeartbeats 4000000 in
theorem lat_bad (g : Nat) (cx cy f k1 k2 p1 p2 px py d : Int) (hp : rightI px py d = false) (w : World) (hm : AtB w g (lensCells cx cy f k1 k2 p1 p2) LT) :
    Calls Try.prog 21 #[.pointer (some ⟨g, 0, none⟩), .int .i64 px, .int .i64 py, .int .i64 d] w fun e w' => e = .returned (.tuple #[.int .i64 0, .int .i64 0, .int .i64 11]) ∧ w = w' := by
  have CI := Lib.hid (fun x w => lin x 1048576 (by omega) (by omega) w)
  clear hm
  rcases hb : inI px 1048576 with _ | _
  · skip
    go_enter Try.func21, Try.ntmps21
    go_wp2_with fail
    have BB : Hid (Below w.heap.size w w) := Below.refl _ _
    refine (CI.out _ _).mono ?_
    rintro e w9 ⟨rfl, rfl⟩
    rw [hb]
    go_wp2_with fail
    go_ret3
    exact ⟨rfl, rfl⟩
  rcases hb1 : inI py 1048576 with _ | _
  · skip
    go_enter Try.func21, Try.ntmps21
    go_wp2_with fail
    have BB : Hid (Below w.heap.size w w) := Below.refl _ _
    refine (CI.out _ _).mono ?_
    rintro e w9 ⟨rfl, rfl⟩
    rw [hb]
    go_wp2_with fail
    refine (CI.out _ _).mono ?_
    rintro e w9 ⟨rfl, rfl⟩
    rw [hb1]
    go_wp2_with fail
    go_ret3
    exact ⟨rfl, rfl⟩
  rcases dec_both (d < 1) with ⟨h, hd⟩ | ⟨h, hd⟩
  · clear hp h
    go_enter Try.func21, Try.ntmps21
    go_wp2_with fail
    have BB : Hid (Below w.heap.size w w) := Below.refl _ _
    refine (CI.out _ _).mono ?_
    rintro e w9 ⟨rfl, rfl⟩
    rw [hb]
    go_wp2_with fail
    refine (CI.out _ _).mono ?_
    rintro e w9 ⟨rfl, rfl⟩
    rw [hb1]
    go_wp2_with fail
    go_ret3
    exact ⟨rfl, rfl⟩
  have h' : d > 16 := by
    refine Decidable.byContradiction fun h' => ?_
    have := rightI_iff (px := px) (py := py) (d := d)
    rw [hp] at this
    have k0 := inI_iff.1 hb
    have k1 := inI_iff.1 hb1
    exact absurd (this.2 ⟨k0, k1, by omega, by omega⟩) (by simp)
  have hd' : decide (d > 16) = true := decide_eq_true h'
  clear hp h h'
  go_enter Try.func21, Try.ntmps21
  go_wp2_with fail
  have BB : Hid (Below w.heap.size w w) := Below.refl _ _
  refine (CI.out _ _).mono ?_
  rintro e w9 ⟨rfl, rfl⟩
  rw [hb]
  go_wp2_with fail
  refine (CI.out _ _).mono ?_
  rintro e w9 ⟨rfl, rfl⟩
  rw [hb1]
  go_wp2_with fail
  go_ret3
  exact ⟨rfl, rfl⟩

set_option maxRecDepth 100000 in
set_option maxHeartbeats 4000000 in
theorem lat_far (g : Nat) (cx cy f k1 k2 p1 p2 px py d : Int) (hp : rightI px py d = true) (hM : LM cx cy f k1 k2 p1 p2) (hf : farI cx cy f px py d = true) (w : World) (hm : AtB w g (lensCells cx cy f k1 k2 p1 p2) LT) :
    Calls Try.prog 21 #[.pointer (some ⟨g, 0, none⟩), .int .i64 px, .int .i64 py, .int .i64 d] w fun e w' => e = .returned (.tuple #[.int .i64 0, .int .i64 0, .int .i64 11]) ∧ w = w' := by
  have CI := Lib.hid (fun x w => lin x 1048576 (by omega) (by omega) w)
  obtain ⟨ax, ay⟩ := rightI_ax hp hM
  have CF := Lib.hid (lfar g cx cy f k1 k2 p1 p2 px py d ax ay w hm)
  rw [hf] at CF
  obtain ⟨k0, k1', h1, h2⟩ := rightI_iff.1 hp
  have hb := inI_iff.2 k0
  have hb1 := inI_iff.2 k1'
  have hd : decide (d < 1) = false := decide_eq_false (by omega)
  have hd' : decide (d > 16) = false := decide_eq_false (by omega)
  clear hm ax ay hp hM k0 k1' h1 h2 hf
  go_enter Try.func21, Try.ntmps21
  go_wp2_with fail
  have BB : Hid (Below w.heap.size w w) := Below.refl _ _
  refine (CI.out _ _).mono ?_
  rintro e w9 ⟨rfl, rfl⟩
  rw [hb]
  go_wp2_with fail
  refine (CI.out _ _).mono ?_
  rintro e w9 ⟨rfl, rfl⟩
  rw [hb1]
  go_wp2_with fail
  refine (CF.out).mono ?_
  rintro e w9 ⟨rfl, rfl⟩
  go_wp2_with fail
  go_ret3
  exact ⟨rfl, rfl⟩

def latU (cx f k1 k2 p1 p2 X Y : Int) : Int := cx + f * lB k1 k2 X Y p2 p1
set_option maxRecDepth 100000 in
set_option maxHeartbeats 8000000 in
theorem lat_ok (g : Nat) (cx cy f k1 k2 p1 p2 px py d : Int) (hp : rightI px py d = true) (hM : LM cx cy f k1 k2 p1 p2) (hf : farI cx cy f px py d = false) (w : World) (hm : AtB w g (lensCells cx cy f k1 k2 p1 p2) LT) :
    Calls Try.prog 21 #[.pointer (some ⟨g, 0, none⟩), .int .i64 px, .int .i64 py, .int .i64 d] w fun e w' => e = .returned (.tuple #[.int .i64 (latU cx f k1 k2 p1 p2 (axI px d cx f) (axI py d cy f)), .int .i64 (latU cy f k1 k2 p2 p1 (axI py d cy f) (axI px d cx f)), .int .i64 0]) ∧ ∃ m, w' = w.drewN m := by
  have CI := Lib.hid (fun x w => lin x 1048576 (by omega) (by omega) w)
  obtain ⟨ax, ay⟩ := rightI_ax hp hM
  have CF := Lib.hid (lfar g cx cy f k1 k2 p1 p2 px py d ax ay w hm)
  have C1 := Lib.hid (fun w hm => laxis g cx cy f k1 k2 p1 p2 px d cx ax w hm)
  have C2 := Lib.hid (fun w hm => laxis g cx cy f k1 k2 p1 p2 py d cy ay w hm)
  rw [hf] at CF
  obtain ⟨k0, k1', h1, h2⟩ := rightI_iff.1 hp
  have hb := inI_iff.2 k0
  have hb1 := inI_iff.2 k1'
  have hd : decide (d < 1) = false := decide_eq_false (by omega)
  have hd' : decide (d > 16) = false := decide_eq_false (by omega)
  have hX : inI (axI px d cx f) 262144 = true ∧ inI (axI py d cy f) 262144 = true := by
    unfold farI at hf; simpa using hf
  have hx := inI_iff.1 hX.1
  have hy := inI_iff.1 hX.2
  have CB1 := Lib.hid (fun w hm => lbend g cx cy f k1 k2 p1 p2 _ _ p2 p1 hx hy hM.k1 hM.k2 hM.p2 hM.p1 w hm)
  have CB2 := Lib.hid (fun w hm => lbend g cx cy f k1 k2 p1 p2 _ _ p1 p2 hy hx hM.k1 hM.k2 hM.p1 hM.p2 w hm)
  have BF1 := (bend_facts hx hy hM.k1 hM.k2 hM.p2 hM.p1).2.2.2.2.2.2.2.2.2.2.2.2
  have BF2 := (bend_facts hy hx hM.k1 hM.k2 hM.p1 hM.p2).2.2.2.2.2.2.2.2.2.2.2.2
  have m1 := mul_in (a := f) (A := 32768) (B := 1073741824) (by have := hM.f; omega) BF1
  have m2 := mul_in (a := f) (A := 32768) (B := 1073741824) (by have := hM.f; omega) BF2
  have HU : Hid (latU cx f k1 k2 p1 p2 (axI px d cx f) (axI py d cy f) = cx + f * lB k1 k2 (axI px d cx f) (axI py d cy f) p2 p1) := rfl
  have HV : Hid (latU cy f k1 k2 p2 p1 (axI py d cy f) (axI px d cx f) = cy + f * lB k1 k2 (axI py d cy f) (axI px d cx f) p1 p2) := rfl
  generalize latU cx f k1 k2 p1 p2 (axI px d cx f) (axI py d cy f) = U at *
  generalize latU cy f k1 k2 p2 p1 (axI py d cy f) (axI px d cx f) = V at *
  generalize axI px d cx f = X at *
  generalize axI py d cy f = Y at *
  generalize lB k1 k2 X Y p2 p1 = B1 at *
  generalize lB k1 k2 Y X p1 p2 = B2 at *
  have i1 : IntKind.i64.wrap (f * B1) = f * B1 := iw (by omega)
  have i2 : IntKind.i64.wrap (f * B2) = f * B2 := iw (by omega)
  have i3 : IntKind.i64.wrap (cx + f * B1) = cx + f * B1 := iw (by have := hM.x; omega)
  have i4 : IntKind.i64.wrap (cy + f * B2) = cy + f * B2 := iw (by have := hM.y; omega)
  have j3 : wrap64 (cx + f * B1) = cx + f * B1 := ww (by have := hM.x; omega)
  have j4 : wrap64 (cy + f * B2) = cy + f * B2 := ww (by have := hM.y; omega)
  have r_m := Lib.hid hm
  clear hm ax ay hp hM k0 k1' h1 h2 hf hx hy hX BF1 BF2 m1 m2
  go_enter Try.func21, Try.ntmps21
  go_wp2_with fail
  have BB : Hid (Below w.heap.size w w) := Below.refl _ _
  refine (CI.out _ _).mono ?_
  rintro e w9 ⟨rfl, rfl⟩
  rw [hb]
  go_wp2_with fail
  refine (CI.out _ _).mono ?_
  rintro e w9 ⟨rfl, rfl⟩
  rw [hb1]
  go_wp2_with fail
  refine (CF.out).mono ?_
  rintro e w9 ⟨rfl, rfl⟩
  obtain ⟨c0, c1, c2, c3, c4, c5, c6, z0, z1, z2, z3, z4, z5, z6⟩ := reads7 r_m.out
  have hg := r_m.out.lt
  go_wp2_with fail
  have Q1 := Lib.hid (fun n => quiet_same (C1.out (w.drewN n) (r_m.out.keep (below_drawn (Below.refl _ _) n))))
  have Q2 := Lib.hid (fun n => quiet_same (C2.out (w.drewN n) (r_m.out.keep (below_drawn (Below.refl _ _) n))))
  go_quiet (first | (go_at_call 42; with_reducible exact Q1.out _) | (go_at_call 42; with_reducible exact Q2.out _))
  have r1 := Lib.hid (r_m.out.keep (below_drawn (Below.refl w.heap.size w) nq))
  clear c0 c1 c2 c3 c4 c5 c6 z0 z1 z2 z3 z4 z5 z6 hg Q1 Q2 C1 C2 r_m
  generalize hw1 : w.drewN nq = w1 at *
  replace hw1 := Lib.hid hw1
  obtain ⟨c0, c1, c2, c3, c4, c5, c6, z0, z1, z2, z3, z4, z5, z6⟩ := reads7 r1.out
  have hg := r1.out.lt
  go_wp2_with fail
  have Q3 := Lib.hid (fun n => Calls.quiet_of (CB1.out (w1.drewN n) (r1.out.keep (below_drawn (Below.refl _ _) n))))
  have Q4 := Lib.hid (fun n => Calls.quiet_of (CB2.out (w1.drewN n) (r1.out.keep (below_drawn (Below.refl _ _) n))))
  go_quiet (first | (go_at_call 43; with_reducible exact Q3.out _) | (go_at_call 43; with_reducible exact Q4.out _))
  go_wp2_with fail
  refine bodyPost_ret (v := .tuple #[.int .i64 (cx + f * B1), .int .i64 (cy + f * B2), .int .i64 0]) (by unfold results; simp only [Try.results21]; go_simp) rfl ⟨by rw [HU.out, HV.out], ?_⟩
  exact ⟨_, by rw [← hw1.out]; exact World.drewN_drewN _ _ _⟩

end Go.Proofs.Ythdbchghhpoadaa
