/- Contract of fix.number at digits. -/
import Derived.Test.YthdbchghhpoadaaDoorFx1
import Derived.Laws.RangeString
set_option linter.unusedVariables false
set_option linter.unusedSimpArgs false
namespace Go.Proofs.YthdbchghhpoadaaDoor
open Go.RowKit
def dgt (s : ByteArray) (k : Nat) : Nat := if h : k < s.size then (s[k]'h).toNat else 48
def decV (s : ByteArray) : Nat → Nat
  | 0 => 0
  | k + 1 => 10 * decV s k + (dgt s k - 48)
theorem dgt_at {s : ByteArray} {k : Nat} (h : k < s.size) : dgt s k = (s[k]'h).toNat := by unfold dgt; rw [dif_pos h]
theorem decV_lt {s : ByteArray} (hd : ∀ k, k < s.size → 48 ≤ dgt s k ∧ dgt s k ≤ 57) : ∀ k, k ≤ s.size → decV s k < 10 ^ k
  | 0, _ => by simp [decV]
  | k + 1, hk => by
    have ih := decV_lt hd k (by omega)
    have := hd k (by omega)
    unfold decV
    rw [Nat.pow_succ]
    omega
def GiveNum (n : Nat) (w : World) (e : Ending) (w' : World) : Prop := e = .returned (.tuple #[.int .u64 (n : Int), .bool true]) ∧ Below w.heap.size w w'
set_option maxRecDepth 100000 in
theorem number_ok (s : ByteArray) (h0 : 0 < s.size) (h1 : s.size ≤ 18) (hs : (s.toList == []) = false) (hd : ∀ k, k < s.size → 48 ≤ dgt s k ∧ dgt s k ≤ 57) (w : World) :
    Calls Tryd.prog 48 #[.string s] w (GiveNum (decV s s.size) w) := by
  have hb : ∀ k, k ≤ s.size → decV s k < 1000000000000000000 := fun k hk => Nat.lt_of_lt_of_le (decV_lt hd k hk) (Nat.le_trans (Nat.pow_le_pow_right (by omega) (Nat.le_trans hk h1)) (by decide))
  replace hd := Lib.hid hd
  replace hb := Lib.hid hb
  have g1 : ¬ ((18 : Int) < (s.size : Int)) := by omega
  go_enter Tryd.func48, Tryd.ntmps48
  go_wp2_with fail
  go_loopw [4, 6] (fun a _ wr => ∃ k : Nat, k ≤ s.size ∧ a = .int .u64 (decV s k : Int) ∧ wr = w.iter s k) (fun a _ wr => s.size - (match wr.heap[w.heap.size]? with | some (.stringIter _ p) => p | _ => 0))
  case atStart => exact ⟨0, by omega, rfl, rfl⟩
  case round =>
    obtain ⟨k, hk, rfl, rfl⟩ := hrel
    by_cases hlt : k < s.size
    · have q := hd.out k hlt
      have qd := dgt_at hlt
      have hnx := fun ty => run_next_ascii (P := Tryd.prog) w s k ty hlt (by omega)
      have b1 := hb.out k (by omega)
      have hN := Lib.hid (show ((decV s (k + 1) : Nat) : Int) = 10 * (decV s k : Int) + ((dgt s k : Int) - 48) from by show ((10 * decV s k + (dgt s k - 48) : Nat) : Int) = _; omega)
      rw [← qd] at hnx
      generalize dgt s k = c at *
      generalize decV s k = V at *
      clear qd
      go_wp2_with fail
      go_roundw
      case rel => exact ⟨k + 1, hlt, by rw [hN.out], rfl⟩
      case measure => rw [World.iter_heap, World.iter_heap]; exact Nat.sub_succ_lt_self _ _ hlt
    · obtain rfl : s.size = k := by omega
      have hnx := fun ty => run_next_end (P := Tryd.prog) w s s.size ty (by omega)
      generalize decV s s.size = V at *
      go_wp2_with fail
      refine bodyPost_ret (v := .tuple #[.int .u64 (V : Int), .bool true]) (by unfold results; simp only [Tryd.results48]; go_simp) rfl ?_
      exact ⟨rfl, below_new (Below.refl _ _) _⟩
end Go.Proofs.YthdbchghhpoadaaDoor
