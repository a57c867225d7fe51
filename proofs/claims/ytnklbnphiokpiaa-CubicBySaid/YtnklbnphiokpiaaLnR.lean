/- Walks of LinearReach, and of law 29's alive. -/
import Derived.Test.YtnklbnphiokpiaaLin
import Derived.Test.YtnklbnphiokpiaaCubic0
set_option linter.unusedVariables false
set_option linter.unusedSimpArgs false
namespace Go.Proofs.Ytnklbnphiokpiaa
open Go.RowKit
set_option maxRecDepth 100000 in
set_option maxHeartbeats 4000000 in
theorem lreach (lo hi : Int) (w : World) :
    Calls Try.prog 50 #[.int .i64 lo, .int .i64 hi] w fun e w' => (e = .returned (.tuple (if lo ≤ hi ∧ inB lo 70368744177664 = true ∧ inB hi 70368744177664 = true then #[.int .i64 (lo / 65536), .int .i64 (hi / 65536 + 1)] else #[.int .i64 0, .int .i64 0])) ∧ Below w.heap.size w w') := by
  have CI := Lib.hid (fun x w => lin_in x w)
  have SS := Lib.hid (fun x w => wsplit x w)
  by_cases h1 : lo ≤ hi
  · rcases hl : inB lo 70368744177664 with _ | _
    · have hn : ¬ (hi < lo) := by omega
      rw [if_neg (by simp)]
      replace hl := Lib.hid hl
      go_enter Try.func50, Try.ntmps50
      go_wp2_with fail
      have BB : Hid (Below w.heap.size w w) := Below.refl _ _
      refine (CI.out _ _).mono ?_
      rintro e w9 ⟨rfl, rfl⟩
      rw [hl.out]
      go_wp2_with fail
      refine bodyPost_ret (v := .tuple #[.int .i64 0, .int .i64 0]) (by unfold results; simp only [Try.results50]; go_simp) rfl ?_
      exact ⟨rfl, BB.out⟩
    · rcases hh : inB hi 70368744177664 with _ | _
      · have hn : ¬ (hi < lo) := by omega
        rw [if_neg (by simp)]
        replace hl := Lib.hid hl
        replace hh := Lib.hid hh
        go_enter Try.func50, Try.ntmps50
        go_wp2_with fail
        have BB : Hid (Below w.heap.size w w) := Below.refl _ _
        refine (CI.out _ _).mono ?_
        rintro e w9 ⟨rfl, rfl⟩
        rw [hl.out]
        go_wp2_with fail
        refine (CI.out _ _).mono ?_
        rintro e w9 ⟨rfl, rfl⟩
        rw [hh.out]
        go_wp2_with fail
        refine bodyPost_ret (v := .tuple #[.int .i64 0, .int .i64 0]) (by unfold results; simp only [Try.results50]; go_simp) rfl ?_
        exact ⟨rfl, BB.out⟩
      · have hn : ¬ (hi < lo) := by omega
        rw [if_pos ⟨h1, rfl, rfl⟩]
        obtain ⟨u0, u1⟩ := inB_iff.1 hl
        obtain ⟨v0, v1⟩ := inB_iff.1 hh
        replace hl := Lib.hid hl
        replace hh := Lib.hid hh
        have e0 : IntKind.i64.wrap (hi / 65536 + 1) = hi / 65536 + 1 := iw (by omega)
        obtain ⟨a, ha⟩ : ∃ a, a = lo / 65536 := ⟨_, rfl⟩
        obtain ⟨b, hb⟩ : ∃ b, b = hi / 65536 := ⟨_, rfl⟩
        have SL := Lib.hid (fun w => wsplit lo w)
        have SH := Lib.hid (fun w => wsplit hi w)
        rw [← ha] at SL ⊢
        rw [← hb] at SH e0 ⊢
        generalize lo % 65536 = f at *
        generalize hi % 65536 = g at *
        clear ha hb u0 u1 v0 v1
        go_enter Try.func50, Try.ntmps50
        go_wp2_with fail
        have BB : Hid (Below w.heap.size w w) := Below.refl _ _
        refine (CI.out _ _).mono ?_
        rintro e w9 ⟨rfl, rfl⟩
        rw [hl.out]
        go_wp2_with fail
        refine (CI.out _ _).mono ?_
        rintro e w9 ⟨rfl, rfl⟩
        rw [hh.out]
        go_wp2_with fail
        refine (SL.out _).mono ?_
        rintro e w9 ⟨rfl, rfl⟩
        go_wp2_with fail
        refine (SH.out _).mono ?_
        rintro e w9 ⟨rfl, rfl⟩
        go_wp2_with fail
        refine bodyPost_ret (v := .tuple #[.int .i64 a, .int .i64 (b + 1)]) (by unfold results; simp only [Try.results50]; go_simp) rfl ?_
        exact ⟨rfl, BB.out⟩
  · have hn : hi < lo := by omega
    rw [if_neg (fun h => h1 h.1)]
    go_enter Try.func50, Try.ntmps50
    go_wp2_with fail
    have BB : Hid (Below w.heap.size w w) := Below.refl _ _
    go_wp2_with fail
    refine bodyPost_ret (v := .tuple #[.int .i64 0, .int .i64 0]) (by unfold results; simp only [Try.results50]; go_simp) rfl ?_
    exact ⟨rfl, BB.out⟩

theorem img15 : linL 2 1 ((1 : Nat) : Int) 1 32768 0 [0, 0, 0, 0] [10, 20] 1 = [15] := by decide +kernel
set_option maxRecDepth 100000 in
set_option maxHeartbeats 4000000 in
theorem alive29 (w : World) : Calls Try.prog 51 #[] w fun e w' => e = .returned (.bool true) ∧ Below w.heap.size w w' := by
  have CR := Lib.hid (fun w => lreach 0 65536 w)
  rw [show (if (0:Int) ≤ 65536 ∧ inB 0 70368744177664 = true ∧ inB 65536 70368744177664 = true then #[Value.int .i64 (0 / 65536), .int .i64 (65536 / 65536 + 1)] else #[.int .i64 0, .int .i64 0]) = #[Value.int .i64 0, .int .i64 2] from rfl] at CR
  have CA := Lib.hid (fun A w hi => lat_ok 2 1 1 0 0 0 0 32768 0 1 A [10, 20] 2 (by decide +kernel) ⟨by omega, by omega⟩ (by decide) w hi)
  rw [img15] at CA
  have CA := Lib.hid (show ∀ g w, BRow w g [10, 20] → Calls Try.prog 55 #[.agg #[.int .i64 2, .int .i64 1, .int .i64 1, .slice (some ⟨g, 0, none⟩) 2 2], .agg #[.int .i64 1, .int .u8 0, .int .u8 0, .int .u8 0, .int .u8 0], .int .i64 32768, .int .i64 0] w (fun e w' => ∃ g, e = .returned (.tuple #[.slice (some ⟨g, 0, none⟩) 1 1, .int .i64 0]) ∧ Below w.heap.size w w' ∧ BRow w' g [15]) from fun g w hr => CA.out _ w ⟨⟨by omega, by omega⟩, ⟨by omega, by omega⟩, ⟨by omega, by omega⟩, hr.bs (by decide) (by decide)⟩)
  go_enter Try.func51, Try.ntmps51
  go_wp2_with fail
  have BB : Hid (Below w.heap.size w w) := Below.refl _ _
  refine (CR.out _).mono ?_
  rintro e w1 ⟨rfl, hb⟩
  replace BB := Lib.hid (below_next BB.out hb)
  clear hb
  go_wp2_with fail
  have d_p := Lib.hid (And.intro BB.out.size (True.intro))
  obtain ⟨hb, r_p⟩ := laid w1 #[.int .u8 10, .int .u8 20] 5
  replace BB := Lib.hid (below_next BB.out hb)
  replace r_p := Lib.hid r_p
  clear hb
  generalize w1.alloc (.cells #[.int .u8 10, .int .u8 20] 5) = w2 at *
  generalize w1.heap.size = g_p at *
  refine (CA.out g_p _ (show BRow _ g_p [10, 20] from r_p.out)).mono ?_
  rintro e w3 ⟨g, rfl, hb, hr⟩
  replace r_p := Lib.hid (r_p.out.keep hb)
  replace BB := Lib.hid (below_next BB.out hb)
  clear hb
  have hc := row_at hr (show 0 < 1 by omega)
  simp only [List.getD_cons_zero] at hc
  go_wp2_with fail
  go_ret
  exact ⟨rfl, BB.out⟩

set_option maxRecDepth 100000 in
set_option maxHeartbeats 8000000 in
theorem linearReach_any (lo hi : Int) (hlo : I64 lo) (hhi : I64 hi) (w : World) : Calls Try.prog 10 #[.int .i64 lo, .int .i64 hi] w fun e w' => e = .returned (.bool true) ∧ Below w.heap.size w w' := by
  have CL := Lib.hid (fun w => alive29 w)
  have CB := Lib.hid (fun w => right_any lo hi w)
  have CR := Lib.hid (fun w => lreach lo hi w)
  by_cases h1 : lo ≤ hi
  · have hn : ¬ (hi < lo) := by omega
    rcases hl : inB lo 70368744177664 && inB hi 70368744177664 with _ | _
    · rw [if_neg (by rintro ⟨-, h2, h3⟩; rw [h2, h3] at hl; simp at hl)] at CR
      replace hl := Lib.hid hl
      go_enter Try.func10, Try.ntmps10
      go_wp2_with fail
      have BB : Hid (Below w.heap.size w w) := Below.refl _ _
      refine (CR.out _).mono ?_
      rintro e w1 ⟨rfl, hb⟩
      replace BB := Lib.hid (below_next BB.out hb)
      clear hb
      go_wp2_with fail
      refine (CB.out _).mono ?_
      rintro e w9 ⟨rfl, rfl⟩
      rw [hl.out]
      go_wp2_with fail
      refine (CL.out _).mono ?_
      rintro e w2 ⟨rfl, hb⟩
      replace BB := Lib.hid (below_next BB.out hb)
      clear hb
      go_wp2_with fail
      go_ret
      exact ⟨rfl, BB.out⟩
    · have hl2 := hl
      rw [Bool.and_eq_true] at hl2
      rw [if_pos ⟨h1, hl2⟩] at CR
      obtain ⟨u0, u1⟩ := inB_iff.1 hl2.1
      obtain ⟨v0, v1⟩ := inB_iff.1 hl2.2
      replace hl := Lib.hid hl
      have SL := Lib.hid (fun w => rsplit lo hlo w)
      have SH := Lib.hid (fun w => rsplit hi hhi w)
      have e0 : IntKind.i64.wrap (hi / 65536 + 1) = hi / 65536 + 1 := iw (by omega)
      obtain ⟨a, ha⟩ : ∃ a, a = lo / 65536 := ⟨_, rfl⟩
      obtain ⟨b, hb⟩ : ∃ b, b = hi / 65536 := ⟨_, rfl⟩
      rw [← ha] at SL CR
      rw [← hb] at SH e0 CR
      generalize lo % 65536 = f at *
      generalize hi % 65536 = g at *
      clear ha hb u0 u1 v0 v1 hl2
      go_enter Try.func10, Try.ntmps10
      go_wp2_with fail
      have BB : Hid (Below w.heap.size w w) := Below.refl _ _
      refine (CR.out _).mono ?_
      rintro e w1 ⟨rfl, hb⟩
      replace BB := Lib.hid (below_next BB.out hb)
      clear hb
      go_wp2_with fail
      refine (CB.out _).mono ?_
      rintro e w9 ⟨rfl, rfl⟩
      rw [hl.out]
      go_wp2_with fail
      refine (SL.out _).mono ?_
      rintro e w9 ⟨rfl, rfl⟩
      go_wp2_with fail
      refine (SH.out _).mono ?_
      rintro e w9 ⟨rfl, rfl⟩
      go_wp2_with fail
      refine (CL.out _).mono ?_
      rintro e w2 ⟨rfl, hb⟩
      replace BB := Lib.hid (below_next BB.out hb)
      clear hb
      go_wp2_with fail
      go_ret
      exact ⟨rfl, BB.out⟩
  · have hn : hi < lo := by omega
    rw [if_neg (fun h => h1 h.1)] at CR
    go_enter Try.func10, Try.ntmps10
    go_wp2_with fail
    have BB : Hid (Below w.heap.size w w) := Below.refl _ _
    refine (CR.out _).mono ?_
    rintro e w1 ⟨rfl, hb⟩
    replace BB := Lib.hid (below_next BB.out hb)
    clear hb
    go_wp2_with fail
    refine (CL.out _).mono ?_
    rintro e w2 ⟨rfl, hb⟩
    replace BB := Lib.hid (below_next BB.out hb)
    clear hb
    go_wp2_with fail
    go_ret
    exact ⟨rfl, BB.out⟩
end Go.Proofs.Ytnklbnphiokpiaa
