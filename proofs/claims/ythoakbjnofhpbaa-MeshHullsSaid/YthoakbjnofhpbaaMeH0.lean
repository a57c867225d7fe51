/- Plain: the columns and rows of knots around some places. -/
import Derived.Test.YthoakbjnofhpbaaMeP
set_option linter.unusedVariables false
set_option linter.unusedSimpArgs false
namespace Go.Proofs.Ythoakbjnofhpbaa
open Go.RowKit
/-- The cell of a pixel's edge along an axis. -/
def huI (g n x : Int) : Int := cellI g n (2 * x - 1) 2
def huM (g n x0 x1 : Int) : Nat := (huI g n x1 - huI g n x0 + 2).toNat
theorem hu_facts {g n x0 x1 : Int} (hg : 1 ≤ g ∧ g ≤ 1024) (hn : 1 ≤ n ∧ n ≤ 64) (h : x0 < x1) : 0 ≤ huI g n x0 ∧ huI g n x0 ≤ huI g n x1 ∧ huI g n x1 ≤ n - 1 ∧ (huM g n x0 x1 : Int) = huI g n x1 - huI g n x0 + 2 ∧ 2 ≤ huM g n x0 x1 ∧ huM g n x0 x1 ≤ 65 := by
  obtain ⟨-, -, a1, a2, -⟩ := cell_facts (p := 2 * x0 - 1) (d := 2) hg hn (by omega)
  obtain ⟨-, -, b1, b2, -⟩ := cell_facts (p := 2 * x1 - 1) (d := 2) hg hn (by omega)
  have c := cellI_mono (a := 2 * x0 - 1) (b := 2 * x1 - 1) (e := 2) (f := 2) hg hn (by omega) (by omega) (by omega)
  unfold huM huI at *
  omega
/-- What the knots around some places have as their least, or greatest. -/
def huP (op : Int → Int → Int) (f : Int → Int → Int) (gx gy nx ny x0 y0 x1 y1 : Int) : Int := foBox op f (huI gx nx x0) (huI gy ny y0) (huM gx nx x0 x1) (huM gy ny y0 y1) (f (huI gx nx x0) (huI gy ny y0))
end Go.Proofs.Ythoakbjnofhpbaa
