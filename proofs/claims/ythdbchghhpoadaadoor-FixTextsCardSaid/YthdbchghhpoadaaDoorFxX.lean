/- ref04.Read at any text. -/
import Derived.Test.YthdbchghhpoadaaDoorFxW
set_option linter.unusedVariables false
set_option linter.unusedSimpArgs false
namespace Go.Proofs.YthdbchghhpoadaaDoor
open Go.RowKit
set_option maxRecDepth 100000 in
set_option maxHeartbeats 4000000 in
theorem rread_empty (C : Option Int) (hC : C = none) (w : World) : Calls Tryd.prog 23 #[.string ⟨([] : List UInt8).toArray⟩] w (GiveFin C [] w) := by
  have CD := Lib.hid (fun w => dg_dd [] (by simp) w)
  rw [show (decide (0 < ([] : List UInt8).length ∧ isD [])) = false by simp, show (⟨([] : List UInt8).toArray⟩ : ByteArray) = ByteArray.empty from rfl] at CD
  have CW := Lib.hid (fun w => pow_any 16 (by omega) w)
  rw [two16] at CW
  obtain ⟨ts, hts⟩ : ∃ s : ByteArray, s = ⟨([] : List UInt8).toArray⟩ := ⟨_, rfl⟩
  have hsz : ts.size = 0 := by rw [hts, str_len]; rfl
  have he : ts.extract 0 0 = ts := by rw [hts, str_extract _ _ _ (by simp)]; simp
  rw [← hts]
  replace hC := Lib.hid hC
  clear hts
  go_enter Tryd.func23, Tryd.ntmps23
  go_wp2_with fail
  have BB : Hid (Below w.heap.size w w) := Below.refl _ _
  go_loopw [6, 7] (fun p i wr => p = .int .i64 0 ∧ i = .int .i64 (-1) ∧ Hid (Below w.heap.size w wr)) (fun _ _ _ => 0)
  case atStart => exact ⟨rfl, rfl, BB.out⟩
  case round =>
    clear BB
    obtain ⟨rfl, rfl, BB⟩ := hrel
    go_wp2_with fail
    refine (CD.out _).mono ?_
    rintro e w1 ⟨v_a, z_a, rfl, hb, h_a, hzb, hzv⟩
    replace BB := Lib.hid (below_next BB.out hb)
    clear hb
    obtain ⟨A_a, n_a, cap_a, rfl, -⟩ := id h_a.form
    have h_a := Lib.hid h_a
    go_upto_region 14 with fail
    have d_a := Lib.hid (And.intro BB.out.size (True.intro))
    obtain ⟨hb, r_a⟩ := laid w1 #[.bool (sgn (↑z_a)), .slice A_a n_a cap_a] BT4
    replace h_a := Lib.hid (h_a.out.below hb)
    replace BB := Lib.hid (below_next BB.out hb)
    replace r_a := Lib.hid r_a
    clear hb
    generalize w1.alloc (.cells #[.bool (sgn (↑z_a)), .slice A_a n_a cap_a] BT4) = w2 at *
    generalize w1.heap.size = g_a at *
    have CM := Lib.hid (fun u v w hu hv => mul60 z_a hzb u v w hu hv)
    obtain ⟨M, hM⟩ : ∃ M : Int, M = ((z_a * 65536 : Nat) : Int) := ⟨_, rfl⟩
    rw [← hM] at CM
    clear hM hzb hzv
    have KK := Lib.hid (fun (w9 : World) (h : Below w2.heap.size w2 w9) => (cells2 (r_a.out.keep h) : (w9.cell? ⟨g_a, 0, none⟩ = some (.bool (sgn (↑z_a))) ∧ w9.cell? ⟨g_a, 1, none⟩ = some (.slice A_a n_a cap_a))))
    have K0 := KK.out w2 (Below.refl _ _)
    have KD := KK.out w2.drew (below_drew (Below.refl _ _))
    refine AnyG.begin_ (fun w9 => (w9.cell? ⟨g_a, 0, none⟩ = some (.bool (sgn (↑z_a))) ∧ w9.cell? ⟨g_a, 1, none⟩ = some (.slice A_a n_a cap_a))) 3 (by kernel_rfl) ?_
    refine AnyG.take (i := 0) (v := ?_) rfl (by kernel_rfl) (by kernel_rfl) (by kernel_rfl) (fun _ _ _ h => h) (by kernel_rfl) (by kernel_rfl) (Or.inl ⟨by rfl, ?_⟩) (by assumption) ?_
    rotate_left
    · intro w9 hSw; (try dsimp only at hSw); go_simp <;> with_reducible rfl
    try simp only [Act.put, List.getElem_toArray, List.getElem_cons_zero, List.getElem_cons_succ, List.setIfInBounds_toArray, List.set_cons_zero, List.set_cons_succ]
    refine AnyG.step (i := 1) (by kernel_rfl) rfl (fun K hK => ?_)
    go_simp
    go_at_call 35
    refine (CW.out _).mono ?_
    rintro e w3 ⟨v_p, rfl, hb, h_p⟩
    obtain ⟨A_p, n_p, cap_p, rfl, -⟩ := id h_p.form
    replace h_p := Lib.hid h_p
    have B_w3 := Lib.hid (reg_next (w0 := w2) (by repeat (first | with_reducible exact Below.refl _ _ | with_reducible apply below_drew | with_reducible apply below_new)) hb)
    have K_w3 := KK.out _ B_w3.out
    clear hb
    refine hK.out _ _ (fun _ => K_w3) (fun hHeld => ?_)
    replace hHeld := hHeld (by decide)
    clear hK
    try simp only [Act.put, List.getElem_toArray, List.getElem_cons_zero, List.getElem_cons_succ, List.setIfInBounds_toArray, List.set_cons_zero, List.set_cons_succ]
    refine AnyG.step (i := 2) (by kernel_rfl) rfl (fun K hK => ?_)
    go_simp
    go_at_call 34
    refine (CM.out _ _ _ (h_a.out.below B_w3.out) h_p.out).mono ?_
    rintro e w4 ⟨v_m, rfl, hb, h_m⟩
    obtain ⟨A_m, n_m, cap_m, rfl, -⟩ := id h_m.form
    replace h_m := Lib.hid h_m
    replace h_p := Lib.hid (h_p.out.below hb)
    have B_w4 := Lib.hid (below_next B_w3.out hb)
    have K_w4 := KK.out _ B_w4.out
    obtain ⟨rc_a0, rc_a1, rf_a0, rf_a1⟩ := reads2 (r_a.out.keep B_w4.out)
    have rl_a := (r_a.out.keep B_w4.out).lt
    clear hb
    refine hK.out _ _ (fun _ => K_w4) (fun hHeld => ?_)
    replace hHeld := hHeld (by decide)
    clear hK
    try simp only [Act.put, List.getElem_toArray, List.getElem_cons_zero, List.getElem_cons_succ, List.setIfInBounds_toArray, List.set_cons_zero, List.set_cons_succ]
    refine AnyG.step (i := 3) (by kernel_rfl) rfl (fun K hK => ?_)
    go_simp
    refine hK.out _ _ (fun h => absurd h (by decide)) (fun _ => ?_)
    clear hK
    try simp only [Act.put, List.getElem_toArray, List.getElem_cons_zero, List.getElem_cons_succ, List.setIfInBounds_toArray, List.set_cons_zero, List.set_cons_succ]
    refine AnyG.done (by kernel_rfl) ?_ _
    clear KK K0 KD K_w3 K_w4
    replace r_a := Lib.hid (r_a.out.keep B_w4.out)
    replace h_a := Lib.hid (h_a.out.below B_w4.out)
    replace BB := Lib.hid (below_next BB.out B_w4.out)
    clear B_w3 B_w4
    clear h_a
    clear h_p
    replace h_m := Lib.hid (h_m.out.far2 r_a.out (by decide) (.bool (sgn M)) (.slice A_m n_m cap_m))
    replace r_a := Lib.hid (r_a.out.set2 (.bool (sgn M)) (.slice A_m n_m cap_m))
    replace BB := Lib.hid (below_far2 BB.out (p := g_a) (by have dd := d_a.out; omega) (.bool (sgn M)) (.slice A_m n_m cap_m))
    generalize ((w4.setCell ⟨g_a, 0, none⟩ (.bool (sgn M))).setCell ⟨g_a, 1, none⟩ (.slice A_m n_m cap_m)) = w5 at *
    go_wp2_with fail
    refine bodyPost_ret (v := .tuple #[.int .i64 0, .bool false]) (by unfold results; simp only [Tryd.results23]; go_simp) rfl ?_
    exact cast_fin hC.out (give_none BB.out)
theorem candV_long {t : List UInt8} (h : 60 < t.length) : candV t = none := by unfold candV; rw [if_pos h]
theorem candV_nopt {t : List UInt8} (h : t.length ≤ 60) (hn : 46 ∉ t) : (¬ (0 < t.length ∧ isD t) → candV t = none) ∧ (0 < t.length ∧ isD t → candV t = some ((decL t : Int) * 65536)) := by
  have e : candV t = if ¬ (0 < t.length ∧ isD t) then none else some ((decL t : Int) * 65536) := by
    unfold candV; rw [if_neg (by omega), cutD_no hn]
  exact ⟨fun h1 => by rw [e, if_pos h1], fun h1 => by rw [e, if_neg (fun h2 => h2 h1)]⟩
theorem candV_pt {t h r : List UInt8} (hl : t.length ≤ 60) (ht : t = h ++ 46 :: r) (hn : 46 ∉ h) : (¬ (0 < h.length ∧ isD h) ∨ ¬ (0 < r.length ∧ isD r) → candV t = none) ∧ (0 < h.length ∧ isD h → 0 < r.length ∧ isD r → candV t = some ((decL h : Int) * 65536 + ((decL r * 65536 / 10 ^ r.length : Nat) : Int))) := by
  have e : candV t = if ¬ (0 < h.length ∧ isD h) then none else if 0 < r.length ∧ isD r then some ((decL h : Int) * 65536 + ((decL r * 65536 / 10 ^ r.length : Nat) : Int)) else none := by
    unfold candV; rw [if_neg (by omega), ht, cutD_app r hn]
  constructor
  · intro h1
    rw [e]
    by_cases h2 : 0 < h.length ∧ isD h
    · rw [if_neg (fun h3 => h3 h2)]
      rcases h1 with h1 | h1
      · exact absurd h2 h1
      · rw [if_neg h1]
    · rw [if_pos h2]
  · intro h1 h2
    rw [e, if_neg (fun h3 => h3 h1), if_pos h2]
theorem map_none' {c : Option Int} (h : c = none) : c.map (fun z => -z) = none := by rw [h]; rfl
theorem map_some' {c : Option Int} {z : Int} (h : c = some z) : c.map (fun z => -z) = some (-z) := by rw [h]; rfl
theorem rread_any (l : List UInt8) (hl : l.length ≤ 1000) (w : World) : Calls Tryd.prog 23 #[.string ⟨l.toArray⟩] w (GiveFin (signed candV l) l w) := by
  by_cases hh : l.head? = some 45
  · cases l with
    | nil => simp at hh
    | cons c t =>
      obtain rfl : c = 45 := by simpa using hh
      have e : signed candV (45 :: t) = (candV t).map (fun z => -z) := by unfold signed; rw [if_pos hh]; rfl
      have htl : t.length ≤ 1000 := by simp at hl; omega
      rw [e]
      by_cases hlong : 60 < t.length
      · exact rread_long_neg _ t rfl htl _ (map_none' (candV_long hlong)) hlong w
      · rcases cutD_cases t with ⟨h1, -⟩ | ⟨h, r, h1, h2, -⟩
        · have := candV_nopt (t := t) (by omega) h1
          exact rread_nopt_neg _ t rfl htl _ (fun q => map_none' (this.1 q)) (fun q => map_some' (this.2 q)) (by omega) h1 w
        · have := candV_pt (t := t) (by omega) h1 h2
          exact rread_pt_neg _ t h r rfl htl _ (fun q => map_none' (this.1 q)) (fun q q' => map_some' (this.2 q q')) (by omega) h2 h1 w
  · have e : signed candV l = candV l := by unfold signed; rw [if_neg hh]
    rw [e]
    cases hlc : l with
    | nil =>
      exact rread_empty _ (by unfold candV; simp [cutD]) w
    | cons c t =>
      rw [← hlc]
      have hne : 0 < l.length := by rw [hlc]; simp
      by_cases hlong : 60 < l.length
      · exact rread_long_pos _ l rfl hh hne hl _ (candV_long hlong) hlong w
      · rcases cutD_cases l with ⟨h1, -⟩ | ⟨h, r, h1, h2, -⟩
        · have := candV_nopt (t := l) (by omega) h1
          exact rread_nopt_pos _ l rfl hh hne hl _ this.1 this.2 (by omega) h1 w
        · have := candV_pt (t := l) (by omega) h1 h2
          exact rread_pt_pos _ l h r rfl hh hne hl _ this.1 this.2 (by omega) h2 h1 w
end Go.Proofs.YthdbchghhpoadaaDoor
