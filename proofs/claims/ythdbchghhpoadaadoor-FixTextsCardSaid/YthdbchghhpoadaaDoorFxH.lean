/- Contracts of fix.Horner. -/
import Derived.Test.YthdbchghhpoadaaDoorFxD
set_option linter.unusedVariables false
set_option linter.unusedSimpArgs false
namespace Go.Proofs.YthdbchghhpoadaaDoor
open Go.RowKit
/-- A row's numbers, each behind a product. -/
def hornI (x : Int) : Int → List Int → Option Int
  | o, [] => some o
  | o, c :: cs => if fitsB (o * x / 65536) 63 = true ∧ fitsB (o * x / 65536 + c) 63 = true then hornI x (o * x / 65536 + c) cs else none
theorem horn_drop {x o : Int} {zs : List Int} {k : Nat} (hk : k < zs.length) : hornI x o (zs.drop k) = if fitsB (o * x / 65536) 63 = true ∧ fitsB (o * x / 65536 + zs.getD k 0) 63 = true then hornI x (o * x / 65536 + zs.getD k 0) (zs.drop (k + 1)) else none := by
  rw [List.drop_eq_getElem_cons hk]
  show (if _ then _ else _) = _
  simp [List.getD, hk]
theorem horn_end {x o : Int} {zs : List Int} : hornI x o (zs.drop zs.length) = some o := by rw [List.drop_length]; rfl
theorem IS.i64 {w : World} {v : Value} {zs : List Int} (h : IS w v zs) (k : Nat) : I64 (zs.getD k 0) := by
  obtain ⟨A, cap, -, -, -, hz, -⟩ := h
  rw [List.getD_eq_getElem?_getD]
  cases hk : zs[k]? with
  | none => unfold I64; simp
  | some z => exact hz z (List.mem_of_getElem? hk)
theorem fitX_t {z : Int} (h : fitsB z 63 = true) : fitX z = z := by unfold fitX; rw [if_pos h]
theorem fitX_f {z : Int} (h : fitsB z 63 = false) : fitX z = 0 := by unfold fitX; rw [if_neg (by simp [h])]
theorem fitX_i64 (z : Int) : I64 (fitX z) := by
  cases h : fitsB z 63 with
  | true => rw [fitX_t h]; exact fits_63.1 h
  | false => rw [fitX_f h]; unfold I64; omega
theorem ret_two {a c : Int} {b d : Bool} (h : a = c) (h2 : b = d) : Ending.returned (.tuple #[.int .i64 a, .bool b]) = .returned (.tuple #[.int .i64 c, .bool d]) := by rw [h, h2]
set_option maxRecDepth 100000 in
set_option maxHeartbeats 2000000 in
theorem fhorner_long (v : Value) (zs : List Int) (x : Int) (w : World) (hv : IS w v zs) (hl : 64 < zs.length) : Calls Tryd.prog 19 #[v, .int .i64 x] w fun e w' => e = .returned (.tuple #[.int .i64 0, .bool false]) ∧ Below w.heap.size w w' := by
  obtain ⟨A, cap, rfl⟩ := hv.form
  have g1 : (64 : Int) < (zs.length : Int) := by omega
  clear hv
  go_enter Tryd.func19, Tryd.ntmps19
  go_wp2_with fail
  have BB : Hid (Below w.heap.size w w) := Below.refl _ _
  refine bodyPost_ret (v := .tuple #[.int .i64 0, .bool false]) (by unfold results; simp only [Tryd.results19]; go_simp) rfl ?_
  exact ⟨rfl, BB.out⟩
set_option maxRecDepth 100000 in
set_option maxHeartbeats 4000000 in
theorem fhorner_ok (v : Value) (zs : List Int) (x : Int) (w : World) (hv : IS w v zs) (hx : I64 x) (hl : zs.length ≤ 64) : Calls Tryd.prog 19 #[v, .int .i64 x] w fun e w' => e = .returned (.tuple #[.int .i64 ((hornI x 0 zs).getD 0), .bool (hornI x 0 zs).isSome]) ∧ Below w.heap.size w w' := by
  have HA := Lib.hid (fun (hz : zs ≠ []) => hv.some hz)
  have HZ := Lib.hid hv.i64
  have HF := Lib.hid (fun k (hk : k < zs.length) (o : Int) => horn_drop (x := x) (o := o) hk)
  have HE := Lib.hid (fun (o : Int) => horn_end (x := x) (o := o) (zs := zs))
  obtain ⟨R, hR⟩ : ∃ R, R = hornI x 0 zs := ⟨_, rfl⟩
  have H0 : Hid (hornI x 0 (zs.drop 0) = R) := by rw [hR]; rfl
  rw [← hR]
  have CM := Lib.hid (fun (o : Int) (ho : I64 o) w => fmul o x ho hx w)
  have CA := Lib.hid (fun (p c : Int) (hp : I64 p) (hc : I64 c) w => fadd p c hp hc w)
  have HN := Lib.hid (fun (h : zs.length = 0) => (List.eq_nil_of_length_eq_zero h : zs = []))
  obtain ⟨A, cap, rfl⟩ := hv.form
  have g1 : ¬ ((64 : Int) < (zs.length : Int)) := by omega
  obtain ⟨F, hF⟩ : ∃ F : Int → Nat → Option Int, F = fun o k => hornI x o (zs.drop k) := ⟨_, rfl⟩
  have HF : Hid (∀ k, k < zs.length → ∀ o, F o k = if fitsB (o * x / 65536) 63 = true ∧ fitsB (o * x / 65536 + zs.getD k 0) 63 = true then F (o * x / 65536 + zs.getD k 0) (k + 1) else none) := by rw [hF]; exact HF.out
  have HE : Hid (∀ o, F o zs.length = some o) := by rw [hF]; exact HE.out
  have H0 : Hid (F 0 0 = R) := by rw [hF]; exact H0.out
  have HC : Hid (∀ k, k < zs.length → ∃ b off cap', (.slice A zs.length cap : Value) = .slice (some ⟨b, off, none⟩) zs.length cap' ∧ b < w.heap.size ∧ w.cell? ⟨b, off + k, none⟩ = some (.int .i64 (zs.getD k 0))) := by
    intro k hk
    obtain ⟨b, off, cap', e, -, -, hb, hc⟩ := HA.out (by rintro rfl; simp at hk)
    exact ⟨b, off, cap', e, hb, hc k hk⟩
  have hnl : Hid (zs.length < 100) := by show _ < _; omega
  clear hR hF hv hl hx HA HN
  generalize zs.length = n at *
  generalize hzz : (fun k => zs.getD k 0) = Z at *
  have HZ : Hid (∀ k, I64 (Z k)) := by rw [← hzz]; exact HZ.out
  have HF : Hid (∀ k, k < n → ∀ o, F o k = if fitsB (o * x / 65536) 63 = true ∧ fitsB (o * x / 65536 + Z k) 63 = true then F (o * x / 65536 + Z k) (k + 1) else none) := by rw [← hzz]; exact HF.out
  have HC : Hid (∀ k, k < n → ∃ b off cap', (.slice A n cap : Value) = .slice (some ⟨b, off, none⟩) n cap' ∧ b < w.heap.size ∧ w.cell? ⟨b, off + k, none⟩ = some (.int .i64 (Z k))) := by rw [← hzz]; exact HC.out
  clear hzz
  go_enter Tryd.func19, Tryd.ntmps19
  go_wp2_with fail
  have BB : Hid (Below w.heap.size w w) := Below.refl _ _
  go_loopw [6, 8, 9, 10, 11, 12, 18] (fun o _ _ _ _ _ i wr => ∃ (k : Nat) (X : Int), o = .int .i64 X ∧ i = .int .i64 k ∧ k ≤ n ∧ Hid (I64 X ∧ F X k = R ∧ Below w.heap.size w wr)) (fun _ _ _ _ _ _ i _ => n - (intOf i).toNat)
  case atStart => exact ⟨0, 0, rfl, rfl, by omega, ⟨by unfold I64; omega, H0.out, BB.out⟩⟩
  case round =>
    clear BB H0
    obtain ⟨k, X, rfl, rfl, hk, hinv⟩ := hrel
    obtain ⟨hX, hFk, BB⟩ := hinv.out
    replace BB := Lib.hid BB; replace hX := Lib.hid hX
    clear hinv
    by_cases hlt : k < n
    · have k0 : (0 : Int) ≤ (k : Int) := by omega
      have k1 : (k : Int) < (n : Int) := by omega
      obtain ⟨b, off, cap', e, hb0, hcz⟩ := HC.out k hlt
      simp only [Value.slice.injEq] at e
      obtain ⟨rfl, -, rfl⟩ := e
      have hFs := HF.out k hlt X
      have hc := Lib.hid (HZ.out k)
      have cz := (BB.out.cell (p := ⟨b, off + k, none⟩) hb0).trans hcz
      have ew : IntKind.i64.wrap ((k : Int) + 1) = ((k + 1 : Nat) : Int) := by have := hnl.out; rw [show (k : Int) + 1 = ((k + 1 : Nat) : Int) by omega]; exact iw ⟨by omega, by omega⟩
      generalize Z k = c at *
      have D1 := CM.out X hX.out
      have D2 := CA.out (fitX (X * x / 65536)) c (fitX_i64 _) hc.out
      rw [hFk] at hFs
      have hq : Hid ((fitsB (X * x / 65536) 63 = true ∧ fitsB (fitX (X * x / 65536) + c) 63 = true → F (fitX (fitX (X * x / 65536) + c)) (k + 1) = R) ∧ (¬ (fitsB (X * x / 65536) 63 = true ∧ fitsB (fitX (X * x / 65536) + c) 63 = true) → R = none)) := by
        refine ⟨fun ⟨h1, h2⟩ => ?_, fun h => ?_⟩
        · rw [fitX_t h1] at h2 ⊢; rw [fitX_t h2, hFs, if_pos ⟨h1, h2⟩]
        · rw [hFs, if_neg]
          rintro ⟨h1, h2⟩
          rw [fitX_t h1] at h
          exact h ⟨h1, h2⟩
      have hT := Lib.hid (fitX_i64 (fitX (X * x / 65536) + c))
      generalize fitX (fitX (X * x / 65536) + c) = T2 at *
      generalize fitsB (fitX (X * x / 65536) + c) 63 = B2 at *
      generalize fitX (X * x / 65536) = T1 at *
      generalize fitsB (X * x / 65536) 63 = B1 at *
      replace D1 := Lib.hid D1
      replace D2 := Lib.hid D2
      clear HC hFs hcz hFk HF HE CM CA
      cases B1 with
      | false =>
        have hRn := Lib.hid (hq.out.2 (by simp))
        go_wp2_with fail
        refine (D1.out _).mono ?_
        rintro e w1 ⟨rfl, hb⟩
        replace BB := Lib.hid (below_next BB.out hb)
        clear hb
        go_wp2_with fail
        refine (D2.out _).mono ?_
        rintro e w2 ⟨rfl, hb⟩
        replace BB := Lib.hid (below_next BB.out hb)
        clear hb
        go_wp2_with fail
        refine bodyPost_ret (v := .tuple #[.int .i64 0, .bool false]) (by unfold results; simp only [Tryd.results19]; go_simp) rfl ?_
        exact ⟨ret_two (by rw [hRn.out]; rfl) (by rw [hRn.out]; rfl), BB.out⟩
      | true =>
        cases B2 with
        | false =>
          have hRn := Lib.hid (hq.out.2 (by simp))
          go_wp2_with fail
          refine (D1.out _).mono ?_
          rintro e w1 ⟨rfl, hb⟩
          replace BB := Lib.hid (below_next BB.out hb)
          clear hb
          go_wp2_with fail
          refine (D2.out _).mono ?_
          rintro e w2 ⟨rfl, hb⟩
          replace BB := Lib.hid (below_next BB.out hb)
          clear hb
          go_wp2_with fail
          refine bodyPost_ret (v := .tuple #[.int .i64 0, .bool false]) (by unfold results; simp only [Tryd.results19]; go_simp) rfl ?_
          exact ⟨ret_two (by rw [hRn.out]; rfl) (by rw [hRn.out]; rfl), BB.out⟩
        | true =>
          have hFn := Lib.hid (hq.out.1 ⟨rfl, rfl⟩)
          clear hq
          go_wp2_with fail
          refine (D1.out _).mono ?_
          rintro e w1 ⟨rfl, hb⟩
          replace BB := Lib.hid (below_next BB.out hb)
          clear hb
          go_wp2_with fail
          refine (D2.out _).mono ?_
          rintro e w2 ⟨rfl, hb⟩
          replace BB := Lib.hid (below_next BB.out hb)
          clear hb
          go_wp2_with fail
          go_roundw
          case rel => exact ⟨k + 1, T2, rfl, by go_num, by omega, ⟨hT.out, hFn.out, BB.out⟩⟩
          case measure => simp [intOf, ew]; omega
    · obtain rfl : k = n := by omega
      have hRs := Lib.hid (hFk.symm.trans (HE.out X))
      clear hFk HE HF HC
      go_wp2_with fail
      refine bodyPost_ret (v := .tuple #[.int .i64 X, .bool true]) (by unfold results; simp only [Tryd.results19]; go_simp) rfl ?_
      exact ⟨ret_two (by rw [hRs.out]; rfl) (by rw [hRs.out]; rfl), BB.out⟩
end Go.Proofs.YthdbchghhpoadaaDoor
