/- Walk of wide.Fits. -/
import Derived.Test.YtnklbnphiokpiaaRFits
import Derived.Test.YtnklbnphiokpiaaTold
set_option linter.unusedVariables false
namespace Go.Proofs.Ytnklbnphiokpiaa
open Go.RowKit

def fitX (z : Int) : Int := if fitsB z 63 then z else 0
theorem fits_63 {z : Int} : fitsB z 63 = true ↔ I64 z := by
  unfold fitsB I64
  have : (2 : Int) ^ 63 = 9223372036854775808 := by decide
  simp; omega
theorem wrap_lo {z ah al : Int} (hz : W128 z ah al) (h : I64 z) : wrap64 al = z := by
  obtain ⟨a1, a2, h3⟩ := hz
  unfold wrap64 I64 U64 at *; omega

theorem ret_i64bool {a b : Int} {c d : Bool} (h : a = b) (h' : c = d) : Ending.returned (.tuple #[.int .i64 a, .bool c]) = .returned (.tuple #[.int .i64 b, .bool d]) := by rw [h, h']
set_option maxRecDepth 100000 in
set_option maxHeartbeats 1000000 in
theorem wfits (z ah al : Int) (hz : W128 z ah al) (w : World) : Calls Try.prog 95 #[wv ah al] w fun e w' => e = .returned (.tuple #[.int .i64 (fitX z), .bool (fitsB z 63)]) ∧ Below w.heap.size w w' := by
  have hx := wrap64_in64 al
  have CW := Lib.hid (fun w => wof_any (wrap64 al) hx w)
  have ho := of_w128 hx
  have HF : Hid (fitsB z 63 = true ↔ ofHi (wrap64 al) = ah ∧ ofLo (wrap64 al) = al) := by
    refine fits_63.trans ⟨fun h => ?_, fun h => ?_⟩
    · have e := wrap_lo hz h
      exact (W128.cmp ho hz).2.1 e
    · have e := (W128.cmp ho hz).2.2 h
      rw [← e]; exact hx
  have HZ := Lib.hid (wrap_lo hz)
  have HG := Lib.hid (fun h => HZ.out (fits_63.1 h))
  clear HZ hx hz ho
  generalize ofHi (wrap64 al) = oh at *
  generalize ofLo (wrap64 al) = ol at *
  go_enter Try.func95, Try.ntmps95
  go_wp2_with fail
  have BB := start1 w #[.int .i64 ah, .int .u64 al] 125
  obtain ⟨BB, hsz, r_a⟩ := BB
  generalize (w.alloc (.cells #[.int .i64 ah, .int .u64 al] 125)) = w0 at *
  replace BB := Lib.hid BB
  replace r_a := Lib.hid r_a
  clear hsz
  obtain ⟨c_a0, c_a1, f_a0, f_a1⟩ := reads2 r_a.out
  have l_a := r_a.out.lt
  go_wp2_with fail
  generalize hxx : wrap64 al = x at *
  replace hxx := Lib.hid hxx
  by_cases h1 : oh = ah
  · by_cases h2 : ol = al
    · have hf := HF.out.2 ⟨h1, h2⟩
      have hz := HG.out hf
      clear HF HG hxx
      subst hz
      obtain rfl := h1.symm; obtain rfl := h2.symm
      clear c_a0 c_a1 f_a0 f_a1 l_a
      have KK := Lib.hid (fun (w9 : World) (h : Below w0.heap.size w0 w9) => (cells2 (r_a.out.keep h) : (w9.cell? ⟨w.heap.size, 0, none⟩ = some (.int .i64 ah) ∧ w9.cell? ⟨w.heap.size, 1, none⟩ = some (.int .u64 al))))
      have K0 := KK.out w0 (Below.refl _ _)
      have KD := KK.out w0.drew (below_drew (Below.refl _ _))
      go_region_held3 (fun w9 => (w9.cell? ⟨w.heap.size, 0, none⟩ = some (.int .i64 ah) ∧ w9.cell? ⟨w.heap.size, 1, none⟩ = some (.int .u64 al)))
          (first | with_reducible exact KD | with_reducible exact K0 | with_reducible exact K_w1)
          (first
            | (go_at_call 94
               refine (CW.out _).mono ?_
               rintro e w1 ⟨rfl, hb⟩
               have B_w1 := Lib.hid (reg_next (w0 := w0) (by repeat (first | with_reducible exact Below.refl _ _ | with_reducible apply below_drew | with_reducible apply below_new)) hb)
               have K_w1 := KK.out _ B_w1.out
               clear hb))
      clear KK K0 KD K_w1
      replace r_a := Lib.hid (r_a.out.keep B_w1.out)
      replace BB := Lib.hid (below_next BB.out B_w1.out)
      clear B_w1
      go_wp2_with fail
      go_ret2
      exact ⟨ret_i64bool (by unfold fitX; rw [hf]; rfl) hf.symm, BB.out⟩
    · have hf : fitsB z 63 = false := by rw [← Bool.not_eq_true, HF.out]; exact fun h => h2 h.2
      clear HF HG hxx
      obtain rfl := h1.symm
      have h3 : (ol == al) = false := by simpa using h2
      clear h2
      clear c_a0 c_a1 f_a0 f_a1 l_a
      have KK := Lib.hid (fun (w9 : World) (h : Below w0.heap.size w0 w9) => (cells2 (r_a.out.keep h) : (w9.cell? ⟨w.heap.size, 0, none⟩ = some (.int .i64 ah) ∧ w9.cell? ⟨w.heap.size, 1, none⟩ = some (.int .u64 al))))
      have K0 := KK.out w0 (Below.refl _ _)
      have KD := KK.out w0.drew (below_drew (Below.refl _ _))
      go_region_held3 (fun w9 => (w9.cell? ⟨w.heap.size, 0, none⟩ = some (.int .i64 ah) ∧ w9.cell? ⟨w.heap.size, 1, none⟩ = some (.int .u64 al)))
          (first | with_reducible exact KD | with_reducible exact K0 | with_reducible exact K_w1)
          (first
            | (go_at_call 94
               refine (CW.out _).mono ?_
               rintro e w1 ⟨rfl, hb⟩
               have B_w1 := Lib.hid (reg_next (w0 := w0) (by repeat (first | with_reducible exact Below.refl _ _ | with_reducible apply below_drew | with_reducible apply below_new)) hb)
               have K_w1 := KK.out _ B_w1.out
               clear hb))
      clear KK K0 KD K_w1
      replace r_a := Lib.hid (r_a.out.keep B_w1.out)
      replace BB := Lib.hid (below_next BB.out B_w1.out)
      clear B_w1
      go_wp2_with fail
      go_ret2
      exact ⟨ret_i64bool (by unfold fitX; rw [hf]; rfl) hf.symm, BB.out⟩
  · have hf : fitsB z 63 = false := by rw [← Bool.not_eq_true, HF.out]; exact fun h => h1 h.1
    clear HF HG hxx
    have h3 : (oh == ah) = false := by simpa using h1
    clear h1
    clear c_a0 c_a1 f_a0 f_a1 l_a
    have KK := Lib.hid (fun (w9 : World) (h : Below w0.heap.size w0 w9) => (cells2 (r_a.out.keep h) : (w9.cell? ⟨w.heap.size, 0, none⟩ = some (.int .i64 ah) ∧ w9.cell? ⟨w.heap.size, 1, none⟩ = some (.int .u64 al))))
    have K0 := KK.out w0 (Below.refl _ _)
    have KD := KK.out w0.drew (below_drew (Below.refl _ _))
    go_region_held3 (fun w9 => (w9.cell? ⟨w.heap.size, 0, none⟩ = some (.int .i64 ah) ∧ w9.cell? ⟨w.heap.size, 1, none⟩ = some (.int .u64 al)))
        (first | with_reducible exact KD | with_reducible exact K0 | with_reducible exact K_w1)
        (first
          | (go_at_call 94
             refine (CW.out _).mono ?_
             rintro e w1 ⟨rfl, hb⟩
             have B_w1 := Lib.hid (reg_next (w0 := w0) (by repeat (first | with_reducible exact Below.refl _ _ | with_reducible apply below_drew | with_reducible apply below_new)) hb)
             have K_w1 := KK.out _ B_w1.out
             clear hb))
    clear KK K0 KD K_w1
    replace r_a := Lib.hid (r_a.out.keep B_w1.out)
    replace BB := Lib.hid (below_next BB.out B_w1.out)
    clear B_w1
    go_wp2_with fail
    go_ret2
    exact ⟨ret_i64bool (by unfold fitX; rw [hf]; rfl) hf.symm, BB.out⟩

end Go.Proofs.Ytnklbnphiokpiaa
