/- Contract of fix.Show, out of what strconv.FormatUint tells of the whole part. -/
import Derived.Test.YthdbchghhpoadaaDoorFx3
import Derived.Test.YthdbchghhpoadaaDoorOwn
set_option linter.unusedVariables false
set_option linter.unusedSimpArgs false
namespace Go.Proofs.YthdbchghhpoadaaDoor
open Go.RowKit
theorem info_byte : (Tryd.prog.info? 5).map (fun i => (i.zero, i.size, i.bytes)) = some (some (.int .u8 0), 1, 1) := by kernel_rfl
def byv (c : UInt8) : Value := .int .u8 (c.toNat : Int)
theorem own_byte {w1 : World} {base : Nat} {v1 : Value} {os : List UInt8} {x : UInt8} (h : w1.ownsRow base 5 1 v1 (os.length + 1) (os.map byv ++ [byv x])) :
    w1.ownsRow base 5 1 v1 (os ++ [x]).length ((os ++ [x]).map byv) := by simpa using h
theorem own_cells {w : World} {base : Nat} {v : Value} {bs : List UInt8} (h : w.ownsRow base 5 1 v bs.length (bs.map byv)) (hb : bs ≠ []) :
    ∃ g cap, v = .slice (some ⟨g, 0, none⟩) bs.length cap ∧ ∀ j (hj : j < bs.length), w.cell? ((⟨g, 0, none⟩ : Addr).add j) = some (.int .u8 (bs[j].toNat : Int)) := by
  rcases h.2 with ⟨_, h0⟩ | ⟨g, cap, cur, rfl, hg, hh, hnc, hm, hsz, hc⟩
  · exact absurd (List.eq_nil_of_length_eq_zero h0) hb
  · refine ⟨g, cap, rfl, fun j hj => ?_⟩
    have hA : AtB w g cur 5 := hh
    have h1 : (cur.toList.take (bs.length * 1))[j]? = some (byv bs[j]) := by
      rw [hc, List.getElem?_map, List.getElem?_eq_getElem hj]; rfl
    rw [List.getElem?_take, if_pos (by omega)] at h1
    rw [show (⟨g, 0, none⟩ : Addr).add j = ⟨g, j, none⟩ by simp [Addr.add]; omega]
    exact hA.cell j (by simpa [byv] using h1)
/-- The digits behind the point. -/
def dig (p : Nat) : UInt8 := UInt8.ofNat (48 + p * 10 / 65536)
def dgs : Nat → Nat → List UInt8
  | 0, _ => []
  | f + 1, p => if p = 0 then [] else dig p :: dgs f (p * 10 % 65536)
theorem dig_val {p : Nat} (h : p < 65536) : ((dig p).toNat : Int) = 48 + ((p * 10 / 65536 : Nat) : Int) := by
  unfold dig
  have : (UInt8.ofNat (48 + p * 10 / 65536)).toNat = 48 + p * 10 / 65536 := by
    rw [UInt8.toNat_ofNat']
    exact Nat.mod_eq_of_lt (by omega)
  rw [this]; omega
theorem dgs_pos {f p : Nat} (h : p ≠ 0) : dgs (f + 1) p = dig p :: dgs f (p * 10 % 65536) := by
  show (if p = 0 then _ else _) = _
  rw [if_neg h]
theorem dgs_zero (f : Nat) : dgs f 0 = [] := by cases f <;> rfl
/-- Behind k rounds 2 to the k divides what is left. -/
theorem dv_step {k p : Nat} (hk : k < 16) (h : 2 ^ k ∣ p) : 2 ^ (k + 1) ∣ p * 10 % 65536 := by
  have h1 : 2 ^ (k + 1) ∣ p * 10 := by
    rw [Nat.pow_succ, show p * 10 = p * 5 * 2 by omega]
    exact Nat.mul_dvd_mul (Nat.dvd_trans h (Nat.dvd_mul_right _ _)) (Nat.dvd_refl _)
  have h2 : 2 ^ (k + 1) ∣ 65536 := by
    rw [show 65536 = 2 ^ 16 by decide]; exact Nat.pow_dvd_pow 2 (by omega)
  exact (Nat.dvd_mod_iff h2).2 h1
def showT (x : Int) (ws : List UInt8) : List UInt8 := (if x < 0 then [45] else []) ++ ws ++ (if x.natAbs % 65536 = 0 then [] else 46 :: dgs 16 (x.natAbs % 65536))
theorem str_app (a b : List UInt8) : (⟨a.toArray⟩ : ByteArray) ++ ⟨b.toArray⟩ = ⟨(a ++ b).toArray⟩ := by
  apply ByteArray.ext
  simp
end Go.Proofs.YthdbchghhpoadaaDoor
