/- Contracts of span.Check and ref26.Check. -/
import Derived.Test.YthdbchghhpoadaaAffR0
import Derived.Test.YthdbchghhpoadaaAff1
set_option linter.unusedVariables false
set_option linter.unusedSimpArgs false
namespace Go.Proofs.Ythdbchghhpoadaa
open Go.RowKit
theorem sp_min4 {P : Program} (w : World) (ts : Array TypeId) (t : TypeId) (x y z u : Int) : (Builtin.min_ ts t #[.int .i64 x, .int .i64 y, .int .i64 z, .int .i64 u]).run P w = .ok (.int .i64 (if u < (if z < (if y < x then y else x) then z else (if y < x then y else x)) then u else (if z < (if y < x then y else x) then z else (if y < x then y else x)))) w := by
  simp [Builtin.min_, Builtin.min2]
theorem sp_max4 {P : Program} (w : World) (ts : Array TypeId) (t : TypeId) (x y z u : Int) : (Builtin.max_ ts t #[.int .i64 x, .int .i64 y, .int .i64 z, .int .i64 u]).run P w = .ok (.int .i64 (if u > (if z > (if y > x then y else x) then z else (if y > x then y else x)) then u else (if z > (if y > x then y else x) then z else (if y > x then y else x)))) w := by
  simp [Builtin.max_, Builtin.max2]
theorem sp_max (a b : Int) : (if a < b then b else a) = max a b := by split <;> omega
theorem sp_min (a b : Int) : (if b < a then b else a) = min a b := by split <;> omega
/-- The code of a map and two sizes. -/
def spC (zs : List Int) (w h to rows : Int) : Int := if 32768 < max (max (max w h) to) rows then 30 else if min (min (min w h) to) rows < 1 then 12 else afC zs
theorem spC_zero {zs : List Int} {w h to rows : Int} (h0 : spC zs w h to rows = 0) : afC zs = 0 ∧ (1 ≤ w ∧ w ≤ 32768) ∧ (1 ≤ h ∧ h ≤ 32768) ∧ (1 ≤ to ∧ to ≤ 32768) ∧ (1 ≤ rows ∧ rows ≤ 32768) := by
  unfold spC at h0
  split at h0
  · omega
  · split at h0
    · omega
    · exact ⟨h0, by omega, by omega, by omega, by omega⟩
set_option maxRecDepth 100000 in
set_option maxHeartbeats 4000000 in
theorem spcheck (v : Value) (zs : List Int) (W H to rows : Int) (w : World) (hv : IS w v zs) : Calls Try.prog 16 #[v, .int .i64 W, .int .i64 H, .int .i64 to, .int .i64 rows] w fun e w' => e = .returned (.int .i64 (spC zs W H to rows)) ∧ Below w.heap.size w w' := by
  have CA := Lib.hid (fun w hv => afcheck v zs w hv)
  have X4 : ∀ (ts : Array TypeId) (t : TypeId) (x y z u : Int) (w : World), (Builtin.max_ ts t #[.int .i64 x, .int .i64 y, .int .i64 z, .int .i64 u]).run Try.prog w = .ok (.int .i64 (if u > (if z > (if y > x then y else x) then z else (if y > x then y else x)) then u else (if z > (if y > x then y else x) then z else (if y > x then y else x)))) w := fun ts t x y z u w => sp_max4 w ts t x y z u
  have N4 : ∀ (ts : Array TypeId) (t : TypeId) (x y z u : Int) (w : World), (Builtin.min_ ts t #[.int .i64 x, .int .i64 y, .int .i64 z, .int .i64 u]).run Try.prog w = .ok (.int .i64 (if u < (if z < (if y < x then y else x) then z else (if y < x then y else x)) then u else (if z < (if y < x then y else x) then z else (if y < x then y else x)))) w := fun ts t x y z u w => sp_min4 w ts t x y z u
  obtain ⟨A1, hA1⟩ : ∃ v, v = max W H := ⟨_, rfl⟩
  obtain ⟨A2, hA2⟩ : ∃ v, v = max A1 to := ⟨_, rfl⟩
  obtain ⟨A3, hA3⟩ : ∃ v, v = max A2 rows := ⟨_, rfl⟩
  obtain ⟨B1, hB1⟩ : ∃ v, v = min W H := ⟨_, rfl⟩
  obtain ⟨B2, hB2⟩ : ∃ v, v = min B1 to := ⟨_, rfl⟩
  obtain ⟨B3, hB3⟩ : ∃ v, v = min B2 rows := ⟨_, rfl⟩
  unfold spC
  rw [← hA1, ← hA2, ← hA3, ← hB1, ← hB2, ← hB3]
  have a1 : (if W < H then H else W) = A1 := by rw [hA1]; exact sp_max _ _
  have a2 : (if A1 < to then to else A1) = A2 := by rw [hA2]; exact sp_max _ _
  have a3 : (if A2 < rows then rows else A2) = A3 := by rw [hA3]; exact sp_max _ _
  have b1 : (if H < W then H else W) = B1 := by rw [hB1]; exact sp_min _ _
  have b2 : (if to < B1 then to else B1) = B2 := by rw [hB2]; exact sp_min _ _
  have b3 : (if rows < B2 then rows else B2) = B3 := by rw [hB3]; exact sp_min _ _
  clear hA1 hA2 hA3 hB1 hB2 hB3
  generalize afC zs = C at *
  replace hv := Lib.hid hv
  by_cases k1 : 32768 < A3
  · rw [if_pos k1]
    go_enter Try.func16, Try.ntmps16
    go_wp2_with fail
    have BB : Hid (Below w.heap.size w w) := Below.refl _ _
    go_wp2_with fail
    go_ret
    exact ⟨rfl, BB.out⟩
  · rw [if_neg k1]
    by_cases k2 : B3 < 1
    · rw [if_pos k2]
      go_enter Try.func16, Try.ntmps16
      go_wp2_with fail
      have BB : Hid (Below w.heap.size w w) := Below.refl _ _
      go_wp2_with fail
      go_ret
      exact ⟨rfl, BB.out⟩
    · rw [if_neg k2]
      go_enter Try.func16, Try.ntmps16
      go_wp2_with fail
      have BB : Hid (Below w.heap.size w w) := Below.refl _ _
      go_wp2_with fail
      refine (CA.out _ hv.out).mono ?_
      rintro e w9 ⟨rfl, m_q, rfl⟩
      have hb := below_drawn (Below.refl w.heap.size w) m_q
      generalize w.drewN m_q = w1 at *
      replace BB := Lib.hid (below_next BB.out hb)
      clear hb
      go_wp2_with fail
      go_ret
      exact ⟨rfl, BB.out⟩
set_option maxRecDepth 100000 in
set_option maxHeartbeats 4000000 in
theorem r26check (v : Value) (zs : List Int) (W H to rows : Int) (w : World) (hv : IS w v zs) : Calls Try.prog 9 #[v, .int .i64 W, .int .i64 H, .int .i64 to, .int .i64 rows] w fun e w' => e = .returned (.int .i64 (spC zs W H to rows)) ∧ Below w.heap.size w w' := by
  have CA := Lib.hid (fun w hv => rcheck18 v zs w hv)
  have X4 : ∀ (ts : Array TypeId) (t : TypeId) (x y z u : Int) (w : World), (Builtin.max_ ts t #[.int .i64 x, .int .i64 y, .int .i64 z, .int .i64 u]).run Try.prog w = .ok (.int .i64 (if u > (if z > (if y > x then y else x) then z else (if y > x then y else x)) then u else (if z > (if y > x then y else x) then z else (if y > x then y else x)))) w := fun ts t x y z u w => sp_max4 w ts t x y z u
  have N4 : ∀ (ts : Array TypeId) (t : TypeId) (x y z u : Int) (w : World), (Builtin.min_ ts t #[.int .i64 x, .int .i64 y, .int .i64 z, .int .i64 u]).run Try.prog w = .ok (.int .i64 (if u < (if z < (if y < x then y else x) then z else (if y < x then y else x)) then u else (if z < (if y < x then y else x) then z else (if y < x then y else x)))) w := fun ts t x y z u w => sp_min4 w ts t x y z u
  obtain ⟨A1, hA1⟩ : ∃ v, v = max W H := ⟨_, rfl⟩
  obtain ⟨A2, hA2⟩ : ∃ v, v = max A1 to := ⟨_, rfl⟩
  obtain ⟨A3, hA3⟩ : ∃ v, v = max A2 rows := ⟨_, rfl⟩
  obtain ⟨B1, hB1⟩ : ∃ v, v = min W H := ⟨_, rfl⟩
  obtain ⟨B2, hB2⟩ : ∃ v, v = min B1 to := ⟨_, rfl⟩
  obtain ⟨B3, hB3⟩ : ∃ v, v = min B2 rows := ⟨_, rfl⟩
  unfold spC
  rw [← hA1, ← hA2, ← hA3, ← hB1, ← hB2, ← hB3]
  have a1 : (if W < H then H else W) = A1 := by rw [hA1]; exact sp_max _ _
  have a2 : (if A1 < to then to else A1) = A2 := by rw [hA2]; exact sp_max _ _
  have a3 : (if A2 < rows then rows else A2) = A3 := by rw [hA3]; exact sp_max _ _
  have b1 : (if H < W then H else W) = B1 := by rw [hB1]; exact sp_min _ _
  have b2 : (if to < B1 then to else B1) = B2 := by rw [hB2]; exact sp_min _ _
  have b3 : (if rows < B2 then rows else B2) = B3 := by rw [hB3]; exact sp_min _ _
  obtain ⟨C1, hC1⟩ : ∃ v, v = max to rows := ⟨_, rfl⟩
  obtain ⟨D1, hD1⟩ : ∃ v, v = min to rows := ⟨_, rfl⟩
  have c1 : (if to < rows then rows else to) = C1 := by rw [hC1]; exact sp_max _ _
  have c2 : (if A1 < C1 then C1 else A1) = A3 := by rw [sp_max]; omega
  have d1 : (if rows < to then rows else to) = D1 := by rw [hD1]; exact sp_min _ _
  have d2 : (if D1 < B1 then D1 else B1) = B3 := by rw [sp_min]; omega
  clear hA1 hA2 hA3 hB1 hB2 hB3 hC1 hD1
  generalize afC zs = C at *
  replace hv := Lib.hid hv
  by_cases k1 : 32768 < A3
  · rw [if_pos k1]
    go_enter Try.func9, Try.ntmps9
    go_wp2_with fail
    have BB : Hid (Below w.heap.size w w) := Below.refl _ _
    go_wp2_with fail
    go_ret
    exact ⟨rfl, BB.out⟩
  · rw [if_neg k1]
    by_cases k2 : B3 < 1
    · rw [if_pos k2]
      go_enter Try.func9, Try.ntmps9
      go_wp2_with fail
      have BB : Hid (Below w.heap.size w w) := Below.refl _ _
      go_wp2_with fail
      go_ret
      exact ⟨rfl, BB.out⟩
    · rw [if_neg k2]
      go_enter Try.func9, Try.ntmps9
      go_wp2_with fail
      have BB : Hid (Below w.heap.size w w) := Below.refl _ _
      go_wp2_with fail
      refine (CA.out _ hv.out).mono ?_
      rintro e w9 ⟨rfl, m_q, rfl⟩
      have hb := below_drawn (Below.refl w.heap.size w) m_q
      generalize w.drewN m_q = w1 at *
      replace BB := Lib.hid (below_next BB.out hb)
      clear hb
      go_wp2_with fail
      go_ret
      exact ⟨rfl, BB.out⟩
theorem nearest (u : Int) (h0 : -70368744177664 ≤ u) (h1 : u ≤ 70368744177664) (w : World) : Calls Try.prog 35 #[.int .i64 u] w fun e w' => e = .returned (.int .i64 ((u + 32768) / 65536)) ∧ w = w' := by
  have e1 : IntKind.i64.wrap (u + 32768) = u + 32768 := iw ⟨by omega, by omega⟩
  go_enter Try.func35, Try.ntmps35
  go_wp2
  go_ret
  exact ⟨rfl, rfl⟩
end Go.Proofs.Ythdbchghhpoadaa
