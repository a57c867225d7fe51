/- Contracts of the lens' numbers: slices.ContainsFunc over them, ranges. -/
import Derived.Test.YthdbchghhpoadaaLens0
import Derived.Test.YthdbchghhpoadaaJA
set_option linter.unusedVariables false
namespace Go.Proofs.Ythdbchghhpoadaa
open Go.RowKit

theorem lbad (x : Int) (w : World) : Calls Try.prog 73 #[.int .i64 x] w fun e w' => e = .returned (.bool (!inI x 65536)) ∧ w = w' := by
  have C := Lib.hid (fun w => lin x 65536 (by omega) (by omega) w)
  go_enter Try.func73, Try.ntmps73
  go_wp2_with fail
  refine (C.out _).mono ?_; rintro e w' ⟨rfl, rfl⟩
  go_wp2_with fail
  go_ret
  exact ⟨rfl, rfl⟩

set_option maxRecDepth 100000 in
set_option maxHeartbeats 1000000 in
theorem lcontains_idx (v : Value) (p : Int → Bool) (zs : List Int) (w : World) (hv : IS w v zs)
    (hp : ∀ z ∈ zs, Calls Try.prog 73 #[.int .i64 z] w fun e w' => e = .returned (.bool (p z)) ∧ w = w') :
    Calls Try.prog 100 #[v, .func (.func 73) #[] #[]] w (GiveIdx (zs.any p) w) := by
  have hl := hv.len
  by_cases hz : zs = []
  · subst hz
    obtain ⟨A, cap, rfl⟩ := hv.form
    clear hv hp
    go_enter Try.func100, Try.ntmps100
    go_wp2
    go_loop [8] (fun i => i = .int .i64 0) (fun _ => 0)
    case atStart => exact rfl
    case round =>
      obtain rfl := hrel
      go_wp2
      go_ret
      exact ⟨_, rfl, rfl, rfl⟩
  · obtain ⟨b, off, cap, rfl, h1, h2, hlt, hc⟩ := hv.some hz
    have HP := Lib.hid (fun k (hk : k < zs.length) => hp (zs.getD k 0) (by simp [List.getD, List.getElem?_eq_getElem hk]))
    have HC := Lib.hid hc
    have HS := Lib.hid (fun k (hk : k < zs.length) => any_step (p := p) hk)
    clear hv hp hc
    generalize hn : zs.length = n at *
    have HN := Lib.hid hn
    clear hn
    go_enter Try.func100, Try.ntmps100
    go_wp2
    go_loop [5, 8] (fun _ i => ∃ k : Nat, k ≤ n ∧ i = .int .i64 k ∧ Hid ((zs.take k).any p = false)) (fun _ i => n - (intOf i).toNat)
    case atStart => exact ⟨0, by omega, rfl, rfl⟩
    case round =>
      obtain ⟨k, hk, rfl, hI⟩ := hrel
      by_cases hkn : k < n
      · have hcell := HC.out k hkn
        have hstep := HS.out k hkn
        have C := Lib.hid (HP.out k hkn)
        rw [hI.out, Bool.false_or] at hstep
        clear HP HS HC hI
        generalize zs.getD k 0 = z at *
        cases hpz : p z
        · rw [hpz] at C hstep
          have hstep := Lib.hid hstep
          clear hpz
          go_wp2_with fail
          refine C.out.mono ?_; rintro e w' ⟨rfl, rfl⟩
          go_wp2_with fail
          go_round
          case rel => exact ⟨k + 1, by omega, rfl, hstep.out⟩
          case measure => simp [intOf]; omega
        · rw [hpz] at C hstep
          have hany : Hid (zs.any p = true) := by
            have : zs.any p = ((zs.take (k + 1)) ++ zs.drop (k + 1)).any p := by rw [List.take_append_drop]
            show _ = _
            rw [this, List.any_append, hstep]; rfl
          clear hpz hstep
          go_wp2_with fail
          refine C.out.mono ?_; rintro e w' ⟨rfl, rfl⟩
          go_wp2_with fail
          go_ret
          exact ⟨_, rfl, rfl, by rw [hany.out]; simp⟩
      · have : k = n := by omega
        subst this
        have hany : Hid (zs.any p = false) := by
          have := hI.out
          rw [List.take_of_length_le (by rw [HN.out]; omega)] at this
          exact this
        clear HP HS HC hI
        go_wp2_with fail
        go_ret
        exact ⟨_, rfl, rfl, by rw [hany.out]; rfl⟩

theorem lcontains (v : Value) (p : Int → Bool) (zs : List Int) (w : World) (hv : IS w v zs)
    (hp : ∀ z ∈ zs, Calls Try.prog 73 #[.int .i64 z] w fun e w' => e = .returned (.bool (p z)) ∧ w = w') :
    Calls Try.prog 72 #[v, .func (.func 73) #[] #[]] w fun e w' => e = .returned (.bool (zs.any p)) ∧ w = w' := by
  have C := Lib.hid (lcontains_idx v p zs w hv hp)
  clear hv hp
  generalize zs.any p = A at *
  go_enter Try.func72, Try.ntmps72
  go_wp2_with fail
  refine C.out.mono ?_; rintro e w' ⟨r, rfl, rfl, hr⟩
  go_wp2_with fail
  go_ret
  exact ⟨rfl, rfl⟩

end Go.Proofs.Ythdbchghhpoadaa
