/- Parts of the proof: Cut6 Low Pnm0. -/
import Derived.Test.YtikpobembcgbfaaGreatDoorQ11
set_option linter.unusedVariables false
set_option linter.unusedSimpArgs false
set_option maxRecDepth 100000
set_option maxHeartbeats 40000000
namespace Go.Proofs.YtikpobembcgbfaaGreatDoor
open Go.RowKit Go.Lib
theorem dec_big {c : UInt8} {t : List UInt8} (h : isD (c :: t)) (h0 : c ≠ 48) : 10 ^ t.length ≤ decL (c :: t) := by
 have h1 := h c (by simp)
 have h2 : c.toNat ≠ 48 := fun e => h0 (UInt8.toNat.inj (by rw [e]; rfl))
 rw [decL_cons]
 have h3 : 1 * 10 ^ t.length ≤ (c.toNat - 48) * 10 ^ t.length := Nat.mul_le_mul_right _ (by omega)
 omega
theorem num_long {l : List UInt8} {most : Nat} (h : 19 < dgN l) (h0 : l.head? ≠ some 48) (hm : most < 10 ^ 19) : most < decL (l.take (dgN l)) := by
 have hd := dgN_take l
 have hl := dgN_le l
 cases l with
 | nil => simp [dgN] at h
 | cons c t =>
   obtain ⟨m, hm2⟩ : ∃ m, dgN (c :: t) = m + 1 := ⟨dgN (c :: t) - 1, by omega⟩
   rw [hm2] at hd hl h ⊢
   rw [List.take_succ_cons] at hd ⊢
   have hc : c ≠ 48 := fun e => h0 (by rw [e]; rfl)
   have h1 := dec_big hd hc
   have h2 : 10 ^ 19 ≤ 10 ^ (t.take m).length := Nat.pow_le_pow_right (by omega) (by rw [List.length_take]; simp at hl; omega)
   omega
theorem dec_room {l : List UInt8} (h : dgN l ≤ 19) : ∀ j, j ≤ dgN l → decL (l.take j) < 10000000000000000000 := by
 intro j hj
 have hd : isD (l.take j) := by
  intro c hc
  have h2 := dgN_take l
  have : c ∈ l.take (dgN l) := by
   rw [show l.take j = (l.take (dgN l)).take j by rw [List.take_take, Nat.min_eq_left hj]] at hc
   exact List.mem_of_mem_take hc
  exact h2 c this
 have h1 := decL_lt hd
 have h2 : 10 ^ (l.take j).length ≤ 10 ^ 19 := Nat.pow_le_pow_right (by omega) (by rw [List.length_take]; omega)
 exact Nat.lt_of_lt_of_le h1 h2
theorem dec_step {l : List UInt8} {j : Nat} (h : j < dgN l) : decL (l.take (j + 1)) = 10 * decL (l.take j) + ((l.getD j 0).toNat - 48) := by
 have hl := dgN_le l
 have e : l.take (j + 1) = l.take j ++ [l.getD j 0] := by rw [List.take_add_one, List.getElem?_eq_getElem (by omega)]; simp [List.getD, show j < l.length by omega]
 rw [e, decL_app]
def GiveNum2 (x c : Nat) (g : Nat) (s : Value) (l : List UInt8) (k : Nat) (w : World) (e : Ending) (w' : World) : Prop := e = .returned (.tuple #[.int .i64 (x : Int), .int .i64 (c : Int)]) ∧ Onl g w w' ∧ CU w' g s l k
theorem cnum_nil (g : Nat) (s : Value) (l : List UInt8) (k most : Nat) (w : World) (h : CU w g s l k) (r : List UInt8) (hr : r = l.drop k) (h0 : r = []) :
 Calls Tryz.prog 434 #[.pointer (some ⟨g, 0, none⟩), .int .i64 (most : Int)] w (GiveNum2 0 20 g s l k w) := by
 have C := Lib.hid (crest g s l k w h)
 have H := Lib.hid h
 have hlen : (l.drop k).length ≤ 100000000 := by have := h.len; rw [List.length_drop]; omega
 have CP : Hid (∀ m, m ≤ (l.drop k).length → ∀ w1, Below w.heap.size w w1 → Calls Tryz.prog 332 #[.pointer (some ⟨g, 0, none⟩), .int .i64 (m : Int)] w1 fun e w' => e = .returned (.tuple #[]) ∧ Onl g w1 w' ∧ CU w' g s l (k + m)) :=
  fun m h2 w1 hb => cpass g s l k m (by have := h.le; rw [List.length_drop] at h2; omega) w1 (h.below hb)
 rw [← hr] at C hlen CP
 obtain ⟨n, hn⟩ : ∃ n, n = r.length := ⟨_, rfl⟩
 obtain ⟨d, hd⟩ : ∃ d, d = dgN r := ⟨_, rfl⟩
 have hdn : d ≤ n := by rw [hd, hn]; exact dgN_le r
 have hAll : Hid (∀ w1 A cap, BY w1 (.slice A n cap) r → (Calls Tryz.prog 475 #[.slice A n cap] w1 fun e w' => e = .returned (.int .i64 (d : Int)) ∧ w1 = w') ∧ n ≤ cap ∧ (cap : Int) ≤ 9223372036854775807 ∧ ∀ j, j < n → ∃ b off, A = some ⟨b, off, none⟩ ∧ w1.cell? ⟨b, off + j, none⟩ = some (.int .u8 ((r.getD j 0).toNat : Int))) := by
  intro w1 A cap hy
  obtain ⟨c1, c2, -⟩ := by_cap hn.symm hy
  refine ⟨by rw [hd]; exact cdigits A cap r n hn.symm (by omega) w1 hy, c1, c2, fun j hj => ?_⟩
  obtain ⟨b, off, hA, hc⟩ := by_at hn.symm hy j hj
  exact ⟨b, off, hA, hc w1 (Below.refl _ _)⟩
 rw [← hn] at hlen CP
 replace hr := Lib.hid hr
 clear h
 have e1 : n = 0 := by rw [hn, h0]; rfl
 have e2 : d = 0 := by omega
 subst e2
 subst e1
 replace hn := Lib.hid hn
 replace hd := Lib.hid hd
 go_enter Tryz.func434, Tryz.ntmps434
 go_wp2_with fail
 refine C.out.mono ?_
 rintro e w1 ⟨A, cap, he, hb, hby⟩
 rw [← hn.out] at he hby
 subst he
 replace hb := Lib.hid hb
 obtain ⟨CD, hcap, hcap2, hA⟩ := hAll.out _ _ _ hby
 replace CD := Lib.hid CD
 replace hA := Lib.hid hA
 clear hby hAll C
 go_wp2_with fail
 refine CD.out.mono ?_
 rintro e w9 ⟨rfl, rfl⟩
 go_wp2_with fail
 refine bodyPost_ret (v := .tuple #[.int .i64 0, .int .i64 20]) (by unfold results; simp only [Tryz.results434]; go_simp) rfl ?_
 exact ⟨rfl, onl_of hb.out, H.out.below hb.out⟩
theorem cnum_none (g : Nat) (s : Value) (l : List UInt8) (k most : Nat) (w : World) (h : CU w g s l k) (r : List UInt8) (hr : r = l.drop k) (hne : r ≠ []) (h0 : dgN r = 0) :
 Calls Tryz.prog 434 #[.pointer (some ⟨g, 0, none⟩), .int .i64 (most : Int)] w (GiveNum2 0 21 g s l k w) := by
 have C := Lib.hid (crest g s l k w h)
 have H := Lib.hid h
 have hlen : (l.drop k).length ≤ 100000000 := by have := h.len; rw [List.length_drop]; omega
 have CP : Hid (∀ m, m ≤ (l.drop k).length → ∀ w1, Below w.heap.size w w1 → Calls Tryz.prog 332 #[.pointer (some ⟨g, 0, none⟩), .int .i64 (m : Int)] w1 fun e w' => e = .returned (.tuple #[]) ∧ Onl g w1 w' ∧ CU w' g s l (k + m)) :=
  fun m h2 w1 hb => cpass g s l k m (by have := h.le; rw [List.length_drop] at h2; omega) w1 (h.below hb)
 rw [← hr] at C hlen CP
 obtain ⟨n, hn⟩ : ∃ n, n = r.length := ⟨_, rfl⟩
 obtain ⟨d, hd⟩ : ∃ d, d = dgN r := ⟨_, rfl⟩
 have hdn : d ≤ n := by rw [hd, hn]; exact dgN_le r
 have hAll : Hid (∀ w1 A cap, BY w1 (.slice A n cap) r → (Calls Tryz.prog 475 #[.slice A n cap] w1 fun e w' => e = .returned (.int .i64 (d : Int)) ∧ w1 = w') ∧ n ≤ cap ∧ (cap : Int) ≤ 9223372036854775807 ∧ ∀ j, j < n → ∃ b off, A = some ⟨b, off, none⟩ ∧ w1.cell? ⟨b, off + j, none⟩ = some (.int .u8 ((r.getD j 0).toNat : Int))) := by
  intro w1 A cap hy
  obtain ⟨c1, c2, -⟩ := by_cap hn.symm hy
  refine ⟨by rw [hd]; exact cdigits A cap r n hn.symm (by omega) w1 hy, c1, c2, fun j hj => ?_⟩
  obtain ⟨b, off, hA, hc⟩ := by_at hn.symm hy j hj
  exact ⟨b, off, hA, hc w1 (Below.refl _ _)⟩
 rw [← hn] at hlen CP
 replace hr := Lib.hid hr
 clear h
 have e1 : n ≠ 0 := by rw [hn]; intro e; exact hne (List.eq_nil_of_length_eq_zero e)
 obtain rfl : d = 0 := by omega
 have g1 : ((n : Int) == 0) = false := by simp; omega
 have g2 : ¬ n = 0 := by omega
 clear hne h0 e1
 replace hn := Lib.hid hn
 replace hd := Lib.hid hd
 go_enter Tryz.func434, Tryz.ntmps434
 go_wp2_with fail
 refine C.out.mono ?_
 rintro e w1 ⟨A, cap, he, hb, hby⟩
 rw [← hn.out] at he hby
 subst he
 replace hb := Lib.hid hb
 obtain ⟨CD, hcap, hcap2, hA⟩ := hAll.out _ _ _ hby
 replace CD := Lib.hid CD
 replace hA := Lib.hid hA
 clear hby hAll C
 go_wp2_with fail
 refine CD.out.mono ?_
 rintro e w9 ⟨rfl, rfl⟩
 go_wp2_with fail
 refine bodyPost_ret (v := .tuple #[.int .i64 0, .int .i64 21]) (by unfold results; simp only [Tryz.results434]; go_simp) rfl ?_
 exact ⟨rfl, onl_of hb.out, H.out.below hb.out⟩
theorem cnum_zero (g : Nat) (s : Value) (l : List UInt8) (k most : Nat) (w : World) (h : CU w g s l k) (r : List UInt8) (hr : r = l.drop k) (h1 : 1 < dgN r) (h48 : r.head? = some 48) :
 Calls Tryz.prog 434 #[.pointer (some ⟨g, 0, none⟩), .int .i64 (most : Int)] w (GiveNum2 0 21 g s l k w) := by
 have C := Lib.hid (crest g s l k w h)
 have H := Lib.hid h
 have hlen : (l.drop k).length ≤ 100000000 := by have := h.len; rw [List.length_drop]; omega
 have CP : Hid (∀ m, m ≤ (l.drop k).length → ∀ w1, Below w.heap.size w w1 → Calls Tryz.prog 332 #[.pointer (some ⟨g, 0, none⟩), .int .i64 (m : Int)] w1 fun e w' => e = .returned (.tuple #[]) ∧ Onl g w1 w' ∧ CU w' g s l (k + m)) :=
  fun m h2 w1 hb => cpass g s l k m (by have := h.le; rw [List.length_drop] at h2; omega) w1 (h.below hb)
 rw [← hr] at C hlen CP
 obtain ⟨n, hn⟩ : ∃ n, n = r.length := ⟨_, rfl⟩
 obtain ⟨d, hd⟩ : ∃ d, d = dgN r := ⟨_, rfl⟩
 have hdn : d ≤ n := by rw [hd, hn]; exact dgN_le r
 have hAll : Hid (∀ w1 A cap, BY w1 (.slice A n cap) r → (Calls Tryz.prog 475 #[.slice A n cap] w1 fun e w' => e = .returned (.int .i64 (d : Int)) ∧ w1 = w') ∧ n ≤ cap ∧ (cap : Int) ≤ 9223372036854775807 ∧ ∀ j, j < n → ∃ b off, A = some ⟨b, off, none⟩ ∧ w1.cell? ⟨b, off + j, none⟩ = some (.int .u8 ((r.getD j 0).toNat : Int))) := by
  intro w1 A cap hy
  obtain ⟨c1, c2, -⟩ := by_cap hn.symm hy
  refine ⟨by rw [hd]; exact cdigits A cap r n hn.symm (by omega) w1 hy, c1, c2, fun j hj => ?_⟩
  obtain ⟨b, off, hA, hc⟩ := by_at hn.symm hy j hj
  exact ⟨b, off, hA, hc w1 (Below.refl _ _)⟩
 rw [← hn] at hlen CP
 replace hr := Lib.hid hr
 clear h
 rw [← hd] at h1
 have e1 : 0 < n := by omega
 have g1 : ((n : Int) == 0) = false := by simp; omega
 have g2 : ¬ n = 0 := by omega
 have g3 : ((d : Int) == 0) = false := by simp; omega
 have g4 : ¬ d = 0 := by omega
 have g6 : (0 : Int) < (n : Int) := by omega
 have g5 : (1 : Int) < (d : Int) := by omega
 have hz := Lib.hid (show r.getD 0 0 = 48 by have := head_getD (l := r) (by omega); rw [h48] at this; simpa using this.symm)
 clear h48 hdn
 replace hn := Lib.hid hn
 replace hd := Lib.hid hd
 go_enter Tryz.func434, Tryz.ntmps434
 go_wp2_with fail
 refine C.out.mono ?_
 rintro e w1 ⟨A, cap, he, hb, hby⟩
 rw [← hn.out] at he hby
 subst he
 replace hb := Lib.hid hb
 obtain ⟨CD, hcap, hcap2, hA⟩ := hAll.out _ _ _ hby
 replace CD := Lib.hid CD
 replace hA := Lib.hid hA
 clear hby hAll C
 go_wp2_with fail
 refine CD.out.mono ?_
 rintro e w9 ⟨rfl, rfl⟩
 obtain ⟨b, off, rfl, hx⟩ := hA.out 0 e1
 rw [hz.out, Nat.add_zero] at hx
 have hx : w1.cell? ⟨b, off, none⟩ = some (.int .u8 48) := hx
 go_wp2_with fail
 refine bodyPost_ret (v := .tuple #[.int .i64 0, .int .i64 21]) (by unfold results; simp only [Tryz.results434]; go_simp) rfl ?_
 exact ⟨rfl, onl_of hb.out, H.out.below hb.out⟩
theorem cnum_far (g : Nat) (s : Value) (l : List UInt8) (k most : Nat) (w : World) (h : CU w g s l k) (r : List UInt8) (hr : r = l.drop k) (h1 : 19 < dgN r) (h48 : r.head? ≠ some 48) :
 Calls Tryz.prog 434 #[.pointer (some ⟨g, 0, none⟩), .int .i64 (most : Int)] w (GiveNum2 0 30 g s l k w) := by
 have C := Lib.hid (crest g s l k w h)
 have H := Lib.hid h
 have hlen : (l.drop k).length ≤ 100000000 := by have := h.len; rw [List.length_drop]; omega
 have CP : Hid (∀ m, m ≤ (l.drop k).length → ∀ w1, Below w.heap.size w w1 → Calls Tryz.prog 332 #[.pointer (some ⟨g, 0, none⟩), .int .i64 (m : Int)] w1 fun e w' => e = .returned (.tuple #[]) ∧ Onl g w1 w' ∧ CU w' g s l (k + m)) :=
  fun m h2 w1 hb => cpass g s l k m (by have := h.le; rw [List.length_drop] at h2; omega) w1 (h.below hb)
 rw [← hr] at C hlen CP
 obtain ⟨n, hn⟩ : ∃ n, n = r.length := ⟨_, rfl⟩
 obtain ⟨d, hd⟩ : ∃ d, d = dgN r := ⟨_, rfl⟩
 have hdn : d ≤ n := by rw [hd, hn]; exact dgN_le r
 have hAll : Hid (∀ w1 A cap, BY w1 (.slice A n cap) r → (Calls Tryz.prog 475 #[.slice A n cap] w1 fun e w' => e = .returned (.int .i64 (d : Int)) ∧ w1 = w') ∧ n ≤ cap ∧ (cap : Int) ≤ 9223372036854775807 ∧ ∀ j, j < n → ∃ b off, A = some ⟨b, off, none⟩ ∧ w1.cell? ⟨b, off + j, none⟩ = some (.int .u8 ((r.getD j 0).toNat : Int))) := by
  intro w1 A cap hy
  obtain ⟨c1, c2, -⟩ := by_cap hn.symm hy
  refine ⟨by rw [hd]; exact cdigits A cap r n hn.symm (by omega) w1 hy, c1, c2, fun j hj => ?_⟩
  obtain ⟨b, off, hA, hc⟩ := by_at hn.symm hy j hj
  exact ⟨b, off, hA, hc w1 (Below.refl _ _)⟩
 rw [← hn] at hlen CP
 replace hr := Lib.hid hr
 clear h
 rw [← hd] at h1
 have e1 : 0 < n := by omega
 have g1 : ((n : Int) == 0) = false := by simp; omega
 have g2 : ¬ n = 0 := by omega
 have g3 : ((d : Int) == 0) = false := by simp; omega
 have g4 : ¬ d = 0 := by omega
 have g6 : (0 : Int) < (n : Int) := by omega
 have g5 : (1 : Int) < (d : Int) := by omega
 have g7 : (19 : Int) < (d : Int) := by omega
 have hz := Lib.hid (show (((r.getD 0 0).toNat : Int) == 48) = false from (byte_ne (b := 48) (fun e => h48 (by rw [head_getD (l := r) (by omega), e]))).1)
 clear h48 hdn
 replace hn := Lib.hid hn
 replace hd := Lib.hid hd
 go_enter Tryz.func434, Tryz.ntmps434
 go_wp2_with fail
 refine C.out.mono ?_
 rintro e w1 ⟨A, cap, he, hb, hby⟩
 rw [← hn.out] at he hby
 subst he
 replace hb := Lib.hid hb
 obtain ⟨CD, hcap, hcap2, hA⟩ := hAll.out _ _ _ hby
 replace CD := Lib.hid CD
 replace hA := Lib.hid hA
 clear hby hAll C
 go_wp2_with fail
 refine CD.out.mono ?_
 rintro e w9 ⟨rfl, rfl⟩
 obtain ⟨b, off, rfl, hx⟩ := hA.out 0 e1
 have hz := hz.out
 rw [Nat.add_zero] at hx
 generalize ((r.getD 0 0).toNat : Int) = z at *
 go_wp2_with fail
 refine bodyPost_ret (v := .tuple #[.int .i64 0, .int .i64 30]) (by unfold results; simp only [Tryz.results434]; go_simp) rfl ?_
 exact ⟨rfl, onl_of hb.out, H.out.below hb.out⟩
theorem cnum_over (g : Nat) (s : Value) (l : List UInt8) (k most : Nat) (hm : most ≤ 1000000000000000000) (w : World) (h : CU w g s l k) (r : List UInt8) (hr : r = l.drop k) (h1 : 0 < dgN r) (h2 : dgN r ≤ 19) (h48 : 1 < dgN r → r.head? ≠ some 48) (h3 : most < decL (r.take (dgN r))) :
 Calls Tryz.prog 434 #[.pointer (some ⟨g, 0, none⟩), .int .i64 (most : Int)] w (GiveNum2 0 30 g s l k w) := by
 have C := Lib.hid (crest g s l k w h)
 have H := Lib.hid h
 have hlen : (l.drop k).length ≤ 100000000 := by have := h.len; rw [List.length_drop]; omega
 have CP : Hid (∀ m, m ≤ (l.drop k).length → ∀ w1, Below w.heap.size w w1 → Calls Tryz.prog 332 #[.pointer (some ⟨g, 0, none⟩), .int .i64 (m : Int)] w1 fun e w' => e = .returned (.tuple #[]) ∧ Onl g w1 w' ∧ CU w' g s l (k + m)) :=
  fun m h2 w1 hb => cpass g s l k m (by have := h.le; rw [List.length_drop] at h2; omega) w1 (h.below hb)
 rw [← hr] at C hlen CP
 obtain ⟨n, hn⟩ : ∃ n, n = r.length := ⟨_, rfl⟩
 obtain ⟨d, hd⟩ : ∃ d, d = dgN r := ⟨_, rfl⟩
 have hdn : d ≤ n := by rw [hd, hn]; exact dgN_le r
 have hAll : Hid (∀ w1 A cap, BY w1 (.slice A n cap) r → (Calls Tryz.prog 475 #[.slice A n cap] w1 fun e w' => e = .returned (.int .i64 (d : Int)) ∧ w1 = w') ∧ n ≤ cap ∧ (cap : Int) ≤ 9223372036854775807 ∧ ∀ j, j < n → ∃ b off, A = some ⟨b, off, none⟩ ∧ w1.cell? ⟨b, off + j, none⟩ = some (.int .u8 ((r.getD j 0).toNat : Int))) := by
  intro w1 A cap hy
  obtain ⟨c1, c2, -⟩ := by_cap hn.symm hy
  refine ⟨by rw [hd]; exact cdigits A cap r n hn.symm (by omega) w1 hy, c1, c2, fun j hj => ?_⟩
  obtain ⟨b, off, hA, hc⟩ := by_at hn.symm hy j hj
  exact ⟨b, off, hA, hc w1 (Below.refl _ _)⟩
 rw [← hn] at hlen CP
 replace hr := Lib.hid hr
 clear h
 rw [← hd] at h1 h2
 have e1 : 0 < n := by omega
 have g1 : ((n : Int) == 0) = false := by simp; omega
 have g2 : ¬ n = 0 := by omega
 have g3 : ((d : Int) == 0) = false := by simp; omega
 have g4 : ¬ d = 0 := by omega
 have g6 : (0 : Int) < (n : Int) := by omega
 have g7 : ¬ (19 : Int) < (d : Int) := by omega
 have hz : Hid (¬ (1 : Int) < (d : Int) ∨ (1 : Int) < (d : Int) ∧ (((r.getD 0 0).toNat : Int) == 48) = false) := by
  by_cases hd1 : 1 < d
  · exact .inr ⟨by omega, (byte_ne (b := 48) (fun e => h48 (by omega) (by rw [head_getD (l := r) (by omega), e]))).1⟩
  · exact .inl (by omega)
 have m0 : ¬ (most : Int) < 0 := by omega
 have m1 : IntKind.u64.wrap (most : Int) = (most : Int) := by simp [IntKind.wrap, IntKind.bits, IntKind.signed]; omega
 obtain ⟨D, hD⟩ : ∃ D : Nat → Nat, D = fun j => decL (r.take j) := ⟨_, rfl⟩
 have D0 : Hid (D 0 = 0) := by rw [hD]; rfl
 have DS : Hid (∀ j, j < d → 48 ≤ (r.getD j 0).toNat ∧ (r.getD j 0).toNat ≤ 57 ∧ D (j + 1) = 10 * D j + ((r.getD j 0).toNat - 48)) := by
  intro j hj
  rw [hd] at hj
  obtain ⟨a1, a2⟩ := dgN_in hj
  exact ⟨a1, a2, by rw [hD]; exact dec_step hj⟩
 have DB : Hid (∀ j, j ≤ d → D j < 10000000000000000000) := by
  intro j hj
  rw [hD]
  exact dec_room (by omega) j (by omega)
 have DE : D d = decL (r.take (dgN r)) := by rw [hD, hd]
 rw [← DE] at h3
 have dn := Lib.hid hdn
 clear h48 hD DE
 replace hn := Lib.hid hn
 replace hd := Lib.hid hd
 have CP2 := Lib.hid (CP.out d hdn)
 clear CP
 go_enter Tryz.func434, Tryz.ntmps434
 go_wp2_with fail
 refine C.out.mono ?_
 rintro e w1 ⟨A, cap, he, hb, hby⟩
 rw [← hn.out] at he hby
 subst he
 replace hb := Lib.hid hb
 obtain ⟨CD, hcap, hcap2, hA⟩ := hAll.out _ _ _ hby
 replace CD := Lib.hid CD
 replace hA := Lib.hid hA
 clear hby hAll C
 go_wp2_with fail
 refine CD.out.mono ?_
 rintro e w9 ⟨rfl, rfl⟩
 obtain ⟨b, off, rfl, hx⟩ := hA.out 0 e1
 rw [Nat.add_zero] at hx
 have k5 : (d : Int) ≤ (cap : Int) := by omega
 have k6 : d ≤ cap := by omega
 have hAA : Hid (∀ j, j < n → w1.cell? ⟨b, off + j, none⟩ = some (.int .u8 ((r.getD j 0).toNat : Int))) := by
  intro j hj
  obtain ⟨b2, off2, e2, hc⟩ := hA.out j hj
  cases e2
  exact hc
 clear hA
 rcases hz.out with hz1 | ⟨hz1, hz2⟩
 · clear hz
   generalize hgz : ((r.getD 0 0).toNat : Int) = z at *
   clear hgz
   go_wp2_with fail
   go_loop [8, 39] (fun x i => ∃ j : Nat, j ≤ d ∧ i = .int .i64 (j : Int) ∧ x = .int .u64 (D j : Int)) (fun _ i => d - (intOf i).toNat)
   case atStart => exact ⟨0, Nat.zero_le _, rfl, by rw [D0.out]; rfl⟩
   case round =>
    obtain ⟨j, hj, rfl, rfl⟩ := hrel
    by_cases hlt : j < d
    · obtain ⟨a1, a2, a3⟩ := DS.out j hlt
      have hxj := hAA.out j (by omega)
      have b1 := DB.out j hj
      have q0 : (0 : Int) ≤ (j : Int) := by omega
      have q1 : (j : Int) < (d : Int) := by omega
      have hN := Lib.hid (show ((D (j + 1) : Nat) : Int) = 10 * (D j : Int) + (((r.getD j 0).toNat : Int) - 48) by omega)
      have b2 := DB.out (j + 1) hlt
      have ew : IntKind.i64.wrap ((j : Int) + 1) = ((j + 1 : Nat) : Int) := by rw [show (j : Int) + 1 = ((j + 1 : Nat) : Int) by omega]; exact iw ⟨by omega, by omega⟩
      have hj2 := Lib.hid (show j + 1 ≤ d by omega)
      generalize (r.getD j 0).toNat = c at *
      generalize D j = V at *
      have e1 : IntKind.u8.wrap ((c : Int) - 48) = (c : Int) - 48 := by simp [IntKind.wrap, IntKind.bits, IntKind.signed]; omega
      have e2 : IntKind.u64.wrap (10 * (V : Int)) = 10 * (V : Int) := by simp [IntKind.wrap, IntKind.bits, IntKind.signed]; omega
      have e3 : IntKind.u64.wrap ((c : Int) - 48) = (c : Int) - 48 := by simp [IntKind.wrap, IntKind.bits, IntKind.signed]; omega
      have e4 : IntKind.u64.wrap (10 * (V : Int) + ((c : Int) - 48)) = 10 * (V : Int) + ((c : Int) - 48) := by simp [IntKind.wrap, IntKind.bits, IntKind.signed]; omega
      clear a3 b2 DS DB hAA hj hlt
      go_wp2_with fail
      go_round
      case rel => exact ⟨j + 1, hj2.out, by go_num, by rw [hN.out]⟩
      case measure => simp [intOf, ew]; omega
    · obtain rfl : j = d := by omega
      have q1 : ¬ (j : Int) < (j : Int) := by omega
      have b1 := DB.out j (Nat.le_refl _)
      clear DS DB hAA hlt hj D0
      have g9 : (most : Int) < (D j : Int) := by omega
      generalize D j = V at *
      clear CP2 h3
      go_wp2_with fail
      refine bodyPost_ret (v := .tuple #[.int .i64 0, .int .i64 30]) (by unfold results; simp only [Tryz.results434]; go_simp) rfl ?_
      exact ⟨rfl, onl_of hb.out, H.out.below hb.out⟩
 · clear hz
   generalize hgz : ((r.getD 0 0).toNat : Int) = z at *
   clear hgz
   go_wp2_with fail
   go_loop [8, 39] (fun x i => ∃ j : Nat, j ≤ d ∧ i = .int .i64 (j : Int) ∧ x = .int .u64 (D j : Int)) (fun _ i => d - (intOf i).toNat)
   case atStart => exact ⟨0, Nat.zero_le _, rfl, by rw [D0.out]; rfl⟩
   case round =>
    obtain ⟨j, hj, rfl, rfl⟩ := hrel
    by_cases hlt : j < d
    · obtain ⟨a1, a2, a3⟩ := DS.out j hlt
      have hxj := hAA.out j (by omega)
      have b1 := DB.out j hj
      have q0 : (0 : Int) ≤ (j : Int) := by omega
      have q1 : (j : Int) < (d : Int) := by omega
      have hN := Lib.hid (show ((D (j + 1) : Nat) : Int) = 10 * (D j : Int) + (((r.getD j 0).toNat : Int) - 48) by omega)
      have b2 := DB.out (j + 1) hlt
      have ew : IntKind.i64.wrap ((j : Int) + 1) = ((j + 1 : Nat) : Int) := by rw [show (j : Int) + 1 = ((j + 1 : Nat) : Int) by omega]; exact iw ⟨by omega, by omega⟩
      have hj2 := Lib.hid (show j + 1 ≤ d by omega)
      generalize (r.getD j 0).toNat = c at *
      generalize D j = V at *
      have e1 : IntKind.u8.wrap ((c : Int) - 48) = (c : Int) - 48 := by simp [IntKind.wrap, IntKind.bits, IntKind.signed]; omega
      have e2 : IntKind.u64.wrap (10 * (V : Int)) = 10 * (V : Int) := by simp [IntKind.wrap, IntKind.bits, IntKind.signed]; omega
      have e3 : IntKind.u64.wrap ((c : Int) - 48) = (c : Int) - 48 := by simp [IntKind.wrap, IntKind.bits, IntKind.signed]; omega
      have e4 : IntKind.u64.wrap (10 * (V : Int) + ((c : Int) - 48)) = 10 * (V : Int) + ((c : Int) - 48) := by simp [IntKind.wrap, IntKind.bits, IntKind.signed]; omega
      clear a3 b2 DS DB hAA hj hlt
      go_wp2_with fail
      go_round
      case rel => exact ⟨j + 1, hj2.out, by go_num, by rw [hN.out]⟩
      case measure => simp [intOf, ew]; omega
    · obtain rfl : j = d := by omega
      have q1 : ¬ (j : Int) < (j : Int) := by omega
      have b1 := DB.out j (Nat.le_refl _)
      clear DS DB hAA hlt hj D0
      have g9 : (most : Int) < (D j : Int) := by omega
      generalize D j = V at *
      clear CP2 h3
      go_wp2_with fail
      refine bodyPost_ret (v := .tuple #[.int .i64 0, .int .i64 30]) (by unfold results; simp only [Tryz.results434]; go_simp) rfl ?_
      exact ⟨rfl, onl_of hb.out, H.out.below hb.out⟩
theorem cnum_ok (g : Nat) (s : Value) (l : List UInt8) (k most : Nat) (hm : most ≤ 1000000000000000000) (w : World) (h : CU w g s l k) (r : List UInt8) (hr : r = l.drop k) (h1 : 0 < dgN r) (h2 : dgN r ≤ 19) (h48 : 1 < dgN r → r.head? ≠ some 48) (x d0 : Nat) (hx0 : x = decL (r.take (dgN r))) (hd0 : d0 = dgN r) (h3 : ¬ most < decL (r.take (dgN r))) :
 Calls Tryz.prog 434 #[.pointer (some ⟨g, 0, none⟩), .int .i64 (most : Int)] w (GiveNum2 x 0 g s l (k + d0) w) := by
 have C := Lib.hid (crest g s l k w h)
 have H := Lib.hid h
 have hlen : (l.drop k).length ≤ 100000000 := by have := h.len; rw [List.length_drop]; omega
 have CP : Hid (∀ m, m ≤ (l.drop k).length → ∀ w1, Below w.heap.size w w1 → Calls Tryz.prog 332 #[.pointer (some ⟨g, 0, none⟩), .int .i64 (m : Int)] w1 fun e w' => e = .returned (.tuple #[]) ∧ Onl g w1 w' ∧ CU w' g s l (k + m)) :=
  fun m h2 w1 hb => cpass g s l k m (by have := h.le; rw [List.length_drop] at h2; omega) w1 (h.below hb)
 rw [← hr] at C hlen CP
 obtain ⟨n, hn⟩ : ∃ n, n = r.length := ⟨_, rfl⟩
 obtain ⟨d, hd⟩ : ∃ d, d = dgN r := ⟨_, rfl⟩
 have hdn : d ≤ n := by rw [hd, hn]; exact dgN_le r
 have hAll : Hid (∀ w1 A cap, BY w1 (.slice A n cap) r → (Calls Tryz.prog 475 #[.slice A n cap] w1 fun e w' => e = .returned (.int .i64 (d : Int)) ∧ w1 = w') ∧ n ≤ cap ∧ (cap : Int) ≤ 9223372036854775807 ∧ ∀ j, j < n → ∃ b off, A = some ⟨b, off, none⟩ ∧ w1.cell? ⟨b, off + j, none⟩ = some (.int .u8 ((r.getD j 0).toNat : Int))) := by
  intro w1 A cap hy
  obtain ⟨c1, c2, -⟩ := by_cap hn.symm hy
  refine ⟨by rw [hd]; exact cdigits A cap r n hn.symm (by omega) w1 hy, c1, c2, fun j hj => ?_⟩
  obtain ⟨b, off, hA, hc⟩ := by_at hn.symm hy j hj
  exact ⟨b, off, hA, hc w1 (Below.refl _ _)⟩
 rw [← hn] at hlen CP
 replace hr := Lib.hid hr
 clear h
 rw [← hd] at h1 h2
 have e1 : 0 < n := by omega
 have g1 : ((n : Int) == 0) = false := by simp; omega
 have g2 : ¬ n = 0 := by omega
 have g3 : ((d : Int) == 0) = false := by simp; omega
 have g4 : ¬ d = 0 := by omega
 have g6 : (0 : Int) < (n : Int) := by omega
 have g7 : ¬ (19 : Int) < (d : Int) := by omega
 have hz : Hid (¬ (1 : Int) < (d : Int) ∨ (1 : Int) < (d : Int) ∧ (((r.getD 0 0).toNat : Int) == 48) = false) := by
  by_cases hd1 : 1 < d
  · exact .inr ⟨by omega, (byte_ne (b := 48) (fun e => h48 (by omega) (by rw [head_getD (l := r) (by omega), e]))).1⟩
  · exact .inl (by omega)
 have m0 : ¬ (most : Int) < 0 := by omega
 have m1 : IntKind.u64.wrap (most : Int) = (most : Int) := by simp [IntKind.wrap, IntKind.bits, IntKind.signed]; omega
 obtain ⟨D, hD⟩ : ∃ D : Nat → Nat, D = fun j => decL (r.take j) := ⟨_, rfl⟩
 have D0 : Hid (D 0 = 0) := by rw [hD]; rfl
 have DS : Hid (∀ j, j < d → 48 ≤ (r.getD j 0).toNat ∧ (r.getD j 0).toNat ≤ 57 ∧ D (j + 1) = 10 * D j + ((r.getD j 0).toNat - 48)) := by
  intro j hj
  rw [hd] at hj
  obtain ⟨a1, a2⟩ := dgN_in hj
  exact ⟨a1, a2, by rw [hD]; exact dec_step hj⟩
 have DB : Hid (∀ j, j ≤ d → D j < 10000000000000000000) := by
  intro j hj
  rw [hD]
  exact dec_room (by omega) j (by omega)
 have DE : D d = decL (r.take (dgN r)) := by rw [hD, hd]
 rw [← DE] at h3 hx0
 have dn := Lib.hid hdn
 clear h48 hD DE
 replace hn := Lib.hid hn
 replace hd := Lib.hid hd
 have CP2 := Lib.hid (CP.out d hdn)
 clear CP
 go_enter Tryz.func434, Tryz.ntmps434
 go_wp2_with fail
 refine C.out.mono ?_
 rintro e w1 ⟨A, cap, he, hb, hby⟩
 rw [← hn.out] at he hby
 subst he
 replace hb := Lib.hid hb
 obtain ⟨CD, hcap, hcap2, hA⟩ := hAll.out _ _ _ hby
 replace CD := Lib.hid CD
 replace hA := Lib.hid hA
 clear hby hAll C
 go_wp2_with fail
 refine CD.out.mono ?_
 rintro e w9 ⟨rfl, rfl⟩
 obtain ⟨b, off, rfl, hx⟩ := hA.out 0 e1
 rw [Nat.add_zero] at hx
 have k5 : (d : Int) ≤ (cap : Int) := by omega
 have k6 : d ≤ cap := by omega
 have hAA : Hid (∀ j, j < n → w1.cell? ⟨b, off + j, none⟩ = some (.int .u8 ((r.getD j 0).toNat : Int))) := by
  intro j hj
  obtain ⟨b2, off2, e2, hc⟩ := hA.out j hj
  cases e2
  exact hc
 clear hA
 rcases hz.out with hz1 | ⟨hz1, hz2⟩
 · clear hz
   generalize hgz : ((r.getD 0 0).toNat : Int) = z at *
   clear hgz
   go_wp2_with fail
   go_loop [8, 39] (fun x i => ∃ j : Nat, j ≤ d ∧ i = .int .i64 (j : Int) ∧ x = .int .u64 (D j : Int)) (fun _ i => d - (intOf i).toNat)
   case atStart => exact ⟨0, Nat.zero_le _, rfl, by rw [D0.out]; rfl⟩
   case round =>
    obtain ⟨j, hj, rfl, rfl⟩ := hrel
    by_cases hlt : j < d
    · obtain ⟨a1, a2, a3⟩ := DS.out j hlt
      have hxj := hAA.out j (by omega)
      have b1 := DB.out j hj
      have q0 : (0 : Int) ≤ (j : Int) := by omega
      have q1 : (j : Int) < (d : Int) := by omega
      have hN := Lib.hid (show ((D (j + 1) : Nat) : Int) = 10 * (D j : Int) + (((r.getD j 0).toNat : Int) - 48) by omega)
      have b2 := DB.out (j + 1) hlt
      have ew : IntKind.i64.wrap ((j : Int) + 1) = ((j + 1 : Nat) : Int) := by rw [show (j : Int) + 1 = ((j + 1 : Nat) : Int) by omega]; exact iw ⟨by omega, by omega⟩
      have hj2 := Lib.hid (show j + 1 ≤ d by omega)
      generalize (r.getD j 0).toNat = c at *
      generalize D j = V at *
      have e1 : IntKind.u8.wrap ((c : Int) - 48) = (c : Int) - 48 := by simp [IntKind.wrap, IntKind.bits, IntKind.signed]; omega
      have e2 : IntKind.u64.wrap (10 * (V : Int)) = 10 * (V : Int) := by simp [IntKind.wrap, IntKind.bits, IntKind.signed]; omega
      have e3 : IntKind.u64.wrap ((c : Int) - 48) = (c : Int) - 48 := by simp [IntKind.wrap, IntKind.bits, IntKind.signed]; omega
      have e4 : IntKind.u64.wrap (10 * (V : Int) + ((c : Int) - 48)) = 10 * (V : Int) + ((c : Int) - 48) := by simp [IntKind.wrap, IntKind.bits, IntKind.signed]; omega
      clear a3 b2 DS DB hAA hj hlt
      go_wp2_with fail
      go_round
      case rel => exact ⟨j + 1, hj2.out, by go_num, by rw [hN.out]⟩
      case measure => simp [intOf, ew]; omega
    · obtain rfl : j = d := by omega
      have q1 : ¬ (j : Int) < (j : Int) := by omega
      have b1 := DB.out j (Nat.le_refl _)
      clear DS DB hAA hlt hj D0
      have g9 : ¬ (most : Int) < (D j : Int) := by omega
      have e9 : IntKind.i64.wrap (D j : Int) = (D j : Int) := iw ⟨by omega, by omega⟩
      have e8 : wrap64 (D j : Int) = (D j : Int) := ww ⟨by omega, by omega⟩
      have CP3 := Lib.hid (CP2.out w1 hb.out)
      generalize D j = V at *
      replace hx0 := Lib.hid hx0
      replace hd0 := Lib.hid hd0
      clear h3 CP2
      go_wp2_with fail
      refine CP3.out.mono ?_
      rintro e w2 ⟨rfl, ho, hcu⟩
      replace ho := Lib.hid ho
      replace hcu := Lib.hid hcu
      go_wp2_with fail
      refine bodyPost_ret (v := .tuple #[.int .i64 (V : Int), .int .i64 0]) (by unfold results; simp only [Tryz.results434]; go_simp) rfl ?_
      exact ⟨by rw [hx0.out]; rfl, onl_next (onl_of hb.out) ho.out, by rw [hd0.out, ← hd.out]; exact hcu.out⟩
 · clear hz
   generalize hgz : ((r.getD 0 0).toNat : Int) = z at *
   clear hgz
   go_wp2_with fail
   go_loop [8, 39] (fun x i => ∃ j : Nat, j ≤ d ∧ i = .int .i64 (j : Int) ∧ x = .int .u64 (D j : Int)) (fun _ i => d - (intOf i).toNat)
   case atStart => exact ⟨0, Nat.zero_le _, rfl, by rw [D0.out]; rfl⟩
   case round =>
    obtain ⟨j, hj, rfl, rfl⟩ := hrel
    by_cases hlt : j < d
    · obtain ⟨a1, a2, a3⟩ := DS.out j hlt
      have hxj := hAA.out j (by omega)
      have b1 := DB.out j hj
      have q0 : (0 : Int) ≤ (j : Int) := by omega
      have q1 : (j : Int) < (d : Int) := by omega
      have hN := Lib.hid (show ((D (j + 1) : Nat) : Int) = 10 * (D j : Int) + (((r.getD j 0).toNat : Int) - 48) by omega)
      have b2 := DB.out (j + 1) hlt
      have ew : IntKind.i64.wrap ((j : Int) + 1) = ((j + 1 : Nat) : Int) := by rw [show (j : Int) + 1 = ((j + 1 : Nat) : Int) by omega]; exact iw ⟨by omega, by omega⟩
      have hj2 := Lib.hid (show j + 1 ≤ d by omega)
      generalize (r.getD j 0).toNat = c at *
      generalize D j = V at *
      have e1 : IntKind.u8.wrap ((c : Int) - 48) = (c : Int) - 48 := by simp [IntKind.wrap, IntKind.bits, IntKind.signed]; omega
      have e2 : IntKind.u64.wrap (10 * (V : Int)) = 10 * (V : Int) := by simp [IntKind.wrap, IntKind.bits, IntKind.signed]; omega
      have e3 : IntKind.u64.wrap ((c : Int) - 48) = (c : Int) - 48 := by simp [IntKind.wrap, IntKind.bits, IntKind.signed]; omega
      have e4 : IntKind.u64.wrap (10 * (V : Int) + ((c : Int) - 48)) = 10 * (V : Int) + ((c : Int) - 48) := by simp [IntKind.wrap, IntKind.bits, IntKind.signed]; omega
      clear a3 b2 DS DB hAA hj hlt
      go_wp2_with fail
      go_round
      case rel => exact ⟨j + 1, hj2.out, by go_num, by rw [hN.out]⟩
      case measure => simp [intOf, ew]; omega
    · obtain rfl : j = d := by omega
      have q1 : ¬ (j : Int) < (j : Int) := by omega
      have b1 := DB.out j (Nat.le_refl _)
      clear DS DB hAA hlt hj D0
      have g9 : ¬ (most : Int) < (D j : Int) := by omega
      have e9 : IntKind.i64.wrap (D j : Int) = (D j : Int) := iw ⟨by omega, by omega⟩
      have e8 : wrap64 (D j : Int) = (D j : Int) := ww ⟨by omega, by omega⟩
      have CP3 := Lib.hid (CP2.out w1 hb.out)
      generalize D j = V at *
      replace hx0 := Lib.hid hx0
      replace hd0 := Lib.hid hd0
      clear h3 CP2
      go_wp2_with fail
      refine CP3.out.mono ?_
      rintro e w2 ⟨rfl, ho, hcu⟩
      replace ho := Lib.hid ho
      replace hcu := Lib.hid hcu
      go_wp2_with fail
      refine bodyPost_ret (v := .tuple #[.int .i64 (V : Int), .int .i64 0]) (by unfold results; simp only [Tryz.results434]; go_simp) rfl ?_
      exact ⟨by rw [hx0.out]; rfl, onl_next (onl_of hb.out) ho.out, by rw [hd0.out, ← hd.out]; exact hcu.out⟩
theorem cNumber (g : Nat) (s : Value) (l : List UInt8) (k most : Nat) (hm : most ≤ 1000000000000000000) (w : World) (h : CU w g s l k) :
 Calls Tryz.prog 434 #[.pointer (some ⟨g, 0, none⟩), .int .i64 (most : Int)] w (GiveNum2 (numR (l.drop k) most).2.1 (numR (l.drop k) most).1 g s l (k + (numR (l.drop k) most).2.2) w) := by
 obtain ⟨r, hr⟩ : ∃ r, r = l.drop k := ⟨_, rfl⟩
 rw [← hr]
 unfold numR
 by_cases c1 : r = []
 · rw [if_pos c1]; exact cnum_nil g s l k most w h r hr c1
 rw [if_neg c1]
 by_cases c2 : dgN r = 0
 · rw [if_pos (.inl c2)]; exact cnum_none g s l k most w h r hr c1 c2
 by_cases c3 : 1 < dgN r ∧ r.head? = some 48
 · rw [if_pos (.inr c3)]; exact cnum_zero g s l k most w h r hr c3.1 c3.2
 rw [if_neg (fun h => h.elim c2 c3)]
 by_cases c4 : 19 < dgN r
 · have h48 : r.head? ≠ some 48 := fun e => c3 ⟨by omega, e⟩
   rw [if_pos (num_long c4 h48 (by omega))]
   exact cnum_far g s l k most w h r hr c4 h48
 · by_cases c5 : most < decL (r.take (dgN r))
   · rw [if_pos c5]; exact cnum_over g s l k most hm w h r hr (by omega) (by omega) (fun a e => c3 ⟨a, e⟩) c5
   · rw [if_neg c5]; exact cnum_ok g s l k most hm w h r hr (by omega) (by omega) (fun a e => c3 ⟨a, e⟩) _ _ rfl rfl c5
theorem low_step : ∀ (j : Nat) (r : List UInt8), j < r.length → lowB (j + 1) r = lowB j r + (r.getD j 0).toNat * 256 ^ j
 | 0, c :: t, _ => by simp [lowB]
 | j + 1, c :: t, h => by
   have ih := low_step j t (by simpa using h)
   show c.toNat + 256 * lowB (j + 1) t = c.toNat + 256 * lowB j t + (t.getD j 0).toNat * 256 ^ (j + 1)
   rw [ih, Nat.pow_succ, Nat.mul_add, Nat.add_assoc]
   congr 2
   rw [Nat.mul_comm, Nat.mul_assoc]
 | _, [], h => by simp at h
theorem low_take : ∀ (j : Nat) (r : List UInt8), lowB j (r.take j) = lowB j r
 | 0, r => by cases r <;> rfl
 | j + 1, [] => rfl
 | j + 1, c :: t => by
   rw [List.take_succ_cons]
   show c.toNat + 256 * lowB j (t.take j) = c.toNat + 256 * lowB j t
   rw [low_take j t]
/-- Bits that are apart add up. -/
theorem or_apart (x y : Nat) (i : Nat) (hx : x < 2 ^ i) (hs : x + y * 2 ^ i < 4294967296) : bits .or .u32 (x : Int) ((y * 2 ^ i : Nat) : Int) = ((x + y * 2 ^ i : Nat) : Int) := by
 have h1 : x ||| y * 2 ^ i = x + y * 2 ^ i := by
  have := Nat.shiftLeft_add_eq_or_of_lt hx y
  rw [Nat.shiftLeft_eq] at this
  rw [Nat.or_comm, ← this, Nat.add_comm]
 show IntKind.u32.wrap (((BitVec.ofInt 32 (x : Int) ||| BitVec.ofInt 32 ((y * 2 ^ i : Nat) : Int)) : BitVec 32).toNat : Int) = _
 rw [BitVec.toNat_or, BitVec.ofInt_natCast, BitVec.ofInt_natCast, BitVec.toNat_ofNat, BitVec.toNat_ofNat]
 rw [Nat.mod_eq_of_lt (show x < 2 ^ 32 by omega), Nat.mod_eq_of_lt (show y * 2 ^ i < 2 ^ 32 by omega), h1]
 generalize y * 2 ^ i = t at *
 simp [IntKind.wrap, IntKind.bits, IntKind.signed]
 omega
theorem clow (g : Nat) (s : Value) (l : List UInt8) (k n : Nat) (hn1 : 1 ≤ n) (hn4 : n ≤ 4) (w : World) (h : CU w g s l k) (hn : n ≤ (l.drop k).length) :
 Calls Tryz.prog 335 #[.pointer (some ⟨g, 0, none⟩), .int .i64 (n : Int)] w fun e w' => e = .returned (.tuple #[.int .u32 (lowB n (l.drop k) : Int), .int .i64 0]) ∧ Onl g w w' ∧ CU w' g s l (k + n) := by
 have CT := Lib.hid (ctake g s l k n w h hn)
 have hlt := Lib.hid (cu_lt h)
 obtain ⟨r, hr⟩ : ∃ r, r = (l.drop k).take n := ⟨_, rfl⟩
 have hL : r.length = n := by rw [hr, List.length_take]; omega
 have g1 : ¬ (n : Int) < 1 := by omega
 have g2 : ¬ (4 : Int) < (n : Int) := by omega
 clear h hn
 go_enter Tryz.func335, Tryz.ntmps335
 go_wp2_with fail
 refine CT.out.mono ?_
 rintro e w1 ⟨v, rfl, ho, hc, hv⟩
 rw [← hr] at hv
 obtain ⟨A, cap, rfl⟩ := own_form hv
 have hby := own_by (by rw [hL]; exact hv : w1.ownsRow w.heap.size U8T 1 (.slice A n cap) r.length (uV r))
 have hA : Hid (∀ j, j < n → ∃ b off, A = some ⟨b, off, none⟩ ∧ w1.cell? ⟨b, off + j, none⟩ = some (.int .u8 ((r.getD j 0).toNat : Int))) := by
  intro j hj
  obtain ⟨b, off, hA, hc⟩ := by_at hL hby j hj
  exact ⟨b, off, hA, hc w1 (Below.refl _ _)⟩
 replace ho := Lib.hid ho
 replace hc := Lib.hid hc
 clear hv hby
 go_wp2_with fail
 go_loop [8, 28] (fun x i => ∃ j : Nat, j ≤ n ∧ i = .int .i64 (j : Int) ∧ x = .int .u32 (lowB j r : Int)) (fun _ i => n - (intOf i).toNat)
 case atStart => exact ⟨0, Nat.zero_le _, rfl, by cases r <;> rfl⟩
 case round =>
  obtain ⟨j, hj, rfl, rfl⟩ := hrel
  by_cases hlt : j < n
  · obtain ⟨b, off, hAA, hx⟩ := hA.out j hlt
    subst hAA
    have q0 : (0 : Int) ≤ (j : Int) := by omega
    have q1 : (j : Int) < (n : Int) := by omega
    have hS := Lib.hid (low_step j r (by omega))
    have hB := lowB_lt j r
    have hcl := (r.getD j 0).toNat_lt
    have hp : (256 : Nat) ^ j = 2 ^ (8 * j) := by rw [Nat.pow_mul]
    have hT : lowB j r + (r.getD j 0).toNat * 2 ^ (8 * j) < 4294967296 := by
     have h1 := lowB_lt (j + 1) r
     rw [low_step j r (by omega), hp] at h1
     have h2 : (256 : Nat) ^ (j + 1) ≤ 256 ^ 4 := Nat.pow_le_pow_right (by omega) (by omega)
     omega
    rw [hp] at hB
    have hO := or_apart _ _ _ hB hT
    have hW : IntKind.u32.wrap (((r.getD j 0).toNat : Int) * 2 ^ (8 * j)) = (((r.getD j 0).toNat * 2 ^ (8 * j) : Nat) : Int) := by
     rw [show ((r.getD j 0).toNat : Int) * 2 ^ (8 * j) = (((r.getD j 0).toNat * 2 ^ (8 * j) : Nat) : Int) by rw [Int.natCast_mul, Int.natCast_pow]; rfl]
     generalize (r.getD j 0).toNat * 2 ^ (8 * j) = T at *
     simp [IntKind.wrap, IntKind.bits, IntKind.signed]
     omega
    have hR : Hid (((lowB (j + 1) r : Nat) : Int) = ((lowB j r + (r.getD j 0).toNat * 2 ^ (8 * j) : Nat) : Int)) := by show _ = _; rw [hS.out, hp]
    clear hS hp hB
    generalize lowB j r = V at *
    generalize (r.getD j 0).toNat * 2 ^ (8 * j) = T at *
    generalize (r.getD j 0).toNat = c at *
    obtain ⟨m, hm⟩ : ∃ m, m = 8 * j := ⟨_, rfl⟩
    rw [← hm] at hW
    have m1 : IntKind.i64.wrap (8 * (j : Int)) = (m : Int) := by rw [show 8 * (j : Int) = (m : Int) by omega]; exact iw ⟨by omega, by omega⟩
    have m2 : IntKind.u64.wrap (m : Int) = (m : Int) := by simp [IntKind.wrap, IntKind.bits, IntKind.signed]; omega
    have m3 : (m : Int) ≤ 32 := by omega
    have m4 : (0 : Int) ≤ (m : Int) := by omega
    have m5 : IntKind.u32.wrap (c : Int) = (c : Int) := by simp [IntKind.wrap, IntKind.bits, IntKind.signed]; omega
    have ew : IntKind.i64.wrap ((j : Int) + 1) = ((j + 1 : Nat) : Int) := by rw [show (j : Int) + 1 = ((j + 1 : Nat) : Int) by omega]; exact iw ⟨by omega, by omega⟩
    have hj2 := Lib.hid (show j + 1 ≤ n by omega)
    clear hT hcl hm hj hlt
    go_wp2_with fail
    go_round
    case rel => exact ⟨j + 1, hj2.out, by go_num, by rw [hR.out, Int.natCast_add]⟩
    case measure => simp [intOf, ew]; omega
  · obtain rfl : j = n := by omega
    have q1 : ¬ (j : Int) < (j : Int) := by omega
    have hE := Lib.hid (show lowB j r = lowB j (l.drop k) by rw [hr]; exact low_take j _)
    clear hA hlt hj
    go_wp2_with fail
    refine bodyPost_ret (v := .tuple #[.int .u32 (lowB j r : Int), .int .i64 0]) (by unfold results; simp only [Tryz.results335]; go_simp) rfl ?_
    exact ⟨by rw [hE.out], ho.out, hc.out⟩
theorem neq_f {n : Nat} (h : n = 0) : ((n : Int) != 0) = false := by subst h; rfl
theorem neq_t {n : Nat} (h : ¬ n = 0) : ((n : Int) != 0) = true := by rw [bne_iff_ne]; omega
/-- Two numbers; how many bytes were cut off is told where the code is 0. -/
def GiveFld (x c : Nat) (g : Nat) (s : Value) (l : List UInt8) (K : Nat) (w : World) (e : Ending) (w' : World) : Prop := ∃ k, e = .returned (.tuple #[.int .i64 (x : Int), .int .i64 (c : Int)]) ∧ Onl g w w' ∧ CU w' g s l k ∧ (c = 0 → k = K)
theorem fld_bad {r : List UInt8} {m : Nat} (h : ¬ (blkR r).1 = 0) : fldR r m = ((blkR r).1, 0, 0) := by unfold fldR; rw [if_neg h]
theorem fld_num {r : List UInt8} {m : Nat} (h : (blkR r).1 = 0) : (fldR r m).1 = (numR (r.drop (blkR r).2) m).1 ∧ (fldR r m).2.1 = (if (numR (r.drop (blkR r).2) m).1 = 0 then (numR (r.drop (blkR r).2) m).2.1 else 0) ∧ ((numR (r.drop (blkR r).2) m).1 = 0 → (fldR r m).2.2 = (blkR r).2 + (numR (r.drop (blkR r).2) m).2.2) := by
 unfold fldR
 rw [if_pos h]
 by_cases h2 : (numR (r.drop (blkR r).2) m).1 = 0
 · rw [if_pos h2, if_pos h2]; exact ⟨h2.symm, rfl, fun _ => rfl⟩
 · rw [if_neg h2, if_neg h2]; exact ⟨rfl, rfl, fun h => absurd h h2⟩
theorem numR_zero {r : List UInt8} {m : Nat} (h : ¬ (numR r m).1 = 0) : (numR r m).2.1 = 0 := by
 unfold numR at h ⊢
 split
 · rfl
 split
 · rfl
 split
 · rfl
 · rename_i a b c
   rw [if_neg a, if_neg b, if_neg c] at h
   exact absurd rfl h
theorem pnumber (g : Nat) (s : Value) (l : List UInt8) (k most : Nat) (hm : most ≤ 1000000000000000000) (w : World) (h : CU w g s l k) :
 Calls Tryz.prog 395 #[.pointer (some ⟨g, 0, none⟩), .int .i64 (most : Int)] w (GiveFld (fldR (l.drop k) most).2.1 (fldR (l.drop k) most).1 g s l (k + (fldR (l.drop k) most).2.2) w) := by
 obtain ⟨r, hr⟩ : ∃ r, r = l.drop k := ⟨_, rfl⟩
 have CB := Lib.hid (cBlank g s l k w h)
 rw [← hr] at CB ⊢
 by_cases hb : (blkR r).1 = 0
 · obtain ⟨f1, f2, f3⟩ := fld_num (m := most) hb
   have CN := Lib.hid (fun w1 (h1 : CU w1 g s l (k + (blkR r).2)) => cNumber g s l (k + (blkR r).2) most hm w1 h1)
   rw [← List.drop_drop, ← hr] at CN
   rw [hb] at CB
   have F := Lib.hid (show (fldR r most).1 = (numR (r.drop (blkR r).2) most).1 ∧ (fldR r most).2.1 = (numR (r.drop (blkR r).2) most).2.1 ∧ ((numR (r.drop (blkR r).2) most).1 = 0 → (fldR r most).2.2 = (blkR r).2 + (numR (r.drop (blkR r).2) most).2.2) from ⟨f1, by rw [f2]; split; rfl; rename_i q; exact (numR_zero q).symm, f3⟩)
   clear f1 f2 f3 hr h
   generalize numR (r.drop (blkR r).2) most = N at *
   generalize (blkR r).2 = b at *
   generalize fldR r most = f at *
   obtain ⟨Nc, Nx, Nn⟩ := N
   replace hb := Lib.hid hb
   go_enter Tryz.func395, Tryz.ntmps395
   go_wp2_with fail
   refine CB.out.mono ?_
   rintro e w1 ⟨rfl, ho, hc⟩
   have CN2 := Lib.hid (CN.out w1 hc)
   replace ho := Lib.hid ho
   clear hc CN CB
   go_wp2_with fail
   refine CN2.out.mono ?_
   rintro e w2 ⟨rfl, ho2, hc2⟩
   replace ho2 := Lib.hid ho2
   replace hc2 := Lib.hid hc2
   go_wp2_with fail
   refine bodyPost_ret (v := .tuple #[.int .i64 (Nx : Int), .int .i64 (Nc : Int)]) (by unfold results; simp only [Tryz.results395]; go_simp) rfl ?_
   obtain ⟨q1, q2, q3⟩ := F.out
   refine ⟨_, by rw [q1, q2], onl_next ho.out ho2.out, hc2.out, fun e => ?_⟩
   rw [q3 (by rw [← q1]; exact e), Nat.add_assoc]
 · have F := Lib.hid (fld_bad (m := most) hb)
   have hq := neq_t hb
   clear hr h hb
   generalize blkR r = B at *
   generalize fldR r most = f at *
   obtain ⟨b, n⟩ := B
   go_enter Tryz.func395, Tryz.ntmps395
   go_wp2_with fail
   refine CB.out.mono ?_
   rintro e w1 ⟨rfl, ho, hc⟩
   replace ho := Lib.hid ho
   replace hc := Lib.hid hc
   go_wp2_with fail
   refine bodyPost_ret (v := .tuple #[.int .i64 0, .int .i64 (b : Int)]) (by unfold results; simp only [Tryz.results395]; go_simp) rfl ?_
   refine ⟨_, by rw [F.out]; rfl, ho.out, hc.out, fun e => ?_⟩
   rw [F.out] at e
   simp only [] at e
   rw [e] at hq
   simp at hq
/-- The size; the code. -/
def szC (r : List UInt8) : Nat :=
 if (fldR r 32768).1 ≠ 0 then (fldR r 32768).1 else
 if (fldR (r.drop (fldR r 32768).2.2) 32768).1 ≠ 0 then (fldR (r.drop (fldR r 32768).2.2) 32768).1 else
 if (fldR r 32768).2.1 < 1 ∨ (fldR (r.drop (fldR r 32768).2.2) 32768).2.1 < 1 then 12 else
 if 4194304 < (fldR r 32768).2.1 * (fldR (r.drop (fldR r 32768).2.2) 32768).2.1 then 30 else 0
def GiveSz3 (x y c : Nat) (g : Nat) (s : Value) (l : List UInt8) (K : Nat) (w : World) (e : Ending) (w' : World) : Prop := ∃ k X Y, e = .returned (.tuple #[.int .i64 (X : Int), .int .i64 (Y : Int), .int .i64 (c : Int)]) ∧ Onl g w w' ∧ CU w' g s l k ∧ (c = 0 → k = K ∧ X = x ∧ Y = y)
theorem psize (g : Nat) (s : Value) (l : List UInt8) (k : Nat) (w : World) (h : CU w g s l k) :
 Calls Tryz.prog 329 #[.pointer (some ⟨g, 0, none⟩)] w (GiveSz3 (fldR (l.drop k) 32768).2.1 (fldR ((l.drop k).drop (fldR (l.drop k) 32768).2.2) 32768).2.1 (szC (l.drop k)) g s l (k + (fldR (l.drop k) 32768).2.2 + (fldR ((l.drop k).drop (fldR (l.drop k) 32768).2.2) 32768).2.2) w) := by
 obtain ⟨r, hr⟩ : ∃ r, r = l.drop k := ⟨_, rfl⟩
 have C1 := Lib.hid (pnumber g s l k 32768 (by omega) w h)
 have C2 := Lib.hid (fun w1 (h1 : CU w1 g s l (k + (fldR r 32768).2.2)) => pnumber g s l (k + (fldR r 32768).2.2) 32768 (by omega) w1 h1)
 rw [← List.drop_drop] at C2
 rw [← hr] at C1 C2 ⊢
 have S : szC r = _ := rfl
 conv at S => rhs; unfold szC
 have l1 := fldR_le r 32768
 have l2 := fldR_le (r.drop (fldR r 32768).2.2) 32768
 generalize szC r = S0 at *
 generalize fldR (r.drop (fldR r 32768).2.2) 32768 = F2 at *
 generalize fldR r 32768 = F1 at *
 obtain ⟨c1, x1, n1⟩ := F1
 obtain ⟨c2, x2, n2⟩ := F2
 simp only [] at S l1 l2 C1 C2 ⊢
 clear hr h
 by_cases h1 : c1 = 0
 · have q1 := neq_f h1
   rw [if_neg (by omega)] at S
   by_cases h2 : c2 = 0
   · have q2 := neq_f h2
     rw [if_neg (by omega)] at S
     have hle : x1 * x2 ≤ 1073741824 := Nat.le_trans (Nat.mul_le_mul l1 l2) (by omega)
     have em : (x1 : Int) * (x2 : Int) = ((x1 * x2 : Nat) : Int) := by rw [Int.natCast_mul]
     have ew : IntKind.i64.wrap ((x1 : Int) * (x2 : Int)) = ((x1 * x2 : Nat) : Int) := by rw [em]; exact iw ⟨by omega, by omega⟩
     have ew2 : wrap64 ((x1 : Int) * (x2 : Int)) = ((x1 * x2 : Nat) : Int) := by rw [em]; exact ww ⟨by omega, by omega⟩
     clear em
     by_cases h3 : x1 < 1 ∨ x2 < 1
     · rw [if_pos h3] at S
       replace S := Lib.hid S
       replace h1 := Lib.hid h1
       clear hle ew ew2 l1 l2
       have h3' : (x1 : Int) < 1 ∨ ¬ (x1 : Int) < 1 ∧ (x2 : Int) < 1 := by omega
       clear h3
       rcases h3' with h3 | ⟨h3, h4⟩
       · skip
         go_enter Tryz.func329, Tryz.ntmps329
         go_wp2_with fail
         refine C1.out.mono ?_
         rintro e w1 ⟨k1, rfl, ho, hc, hk⟩
         obtain rfl := hk h1.out
         have D2 := Lib.hid (C2.out w1 hc)
         replace ho := Lib.hid ho
         clear hc hk C2 C1
         go_wp2_with fail
         refine D2.out.mono ?_
         rintro e w2 ⟨k2, rfl, ho2, hc2, hk2⟩
         replace ho2 := Lib.hid ho2
         replace hc2 := Lib.hid hc2
         replace hk2 := Lib.hid hk2
         clear D2
         go_wp2_with fail
         refine bodyPost_ret (v := .tuple #[.int .i64 0, .int .i64 0, .int .i64 12]) (by unfold results; simp only [Tryz.results329]; go_simp) rfl ?_
         exact ⟨_, 0, 0, by rw [S.out]; rfl, onl_next ho.out ho2.out, hc2.out, fun e => by rw [S.out] at e; simp at e⟩
       · skip
         go_enter Tryz.func329, Tryz.ntmps329
         go_wp2_with fail
         refine C1.out.mono ?_
         rintro e w1 ⟨k1, rfl, ho, hc, hk⟩
         obtain rfl := hk h1.out
         have D2 := Lib.hid (C2.out w1 hc)
         replace ho := Lib.hid ho
         clear hc hk C2 C1
         go_wp2_with fail
         refine D2.out.mono ?_
         rintro e w2 ⟨k2, rfl, ho2, hc2, hk2⟩
         replace ho2 := Lib.hid ho2
         replace hc2 := Lib.hid hc2
         replace hk2 := Lib.hid hk2
         clear D2
         go_wp2_with fail
         refine bodyPost_ret (v := .tuple #[.int .i64 0, .int .i64 0, .int .i64 12]) (by unfold results; simp only [Tryz.results329]; go_simp) rfl ?_
         exact ⟨_, 0, 0, by rw [S.out]; rfl, onl_next ho.out ho2.out, hc2.out, fun e => by rw [S.out] at e; simp at e⟩
     · rw [if_neg h3] at S
       have h3a : ¬ (x1 : Int) < 1 := by omega
       have h3b : ¬ (x2 : Int) < 1 := by omega
       generalize x1 * x2 = m at *
       by_cases h4 : 4194304 < m
       · have h5 : (4194304 : Int) < (m : Int) := by omega
         rw [if_pos h4] at S
         replace S := Lib.hid S
         replace h1 := Lib.hid h1
         clear hle l1 l2 h3 h4
         go_enter Tryz.func329, Tryz.ntmps329
         go_wp2_with fail
         refine C1.out.mono ?_
         rintro e w1 ⟨k1, rfl, ho, hc, hk⟩
         obtain rfl := hk h1.out
         have D2 := Lib.hid (C2.out w1 hc)
         replace ho := Lib.hid ho
         clear hc hk C2 C1
         go_wp2_with fail
         refine D2.out.mono ?_
         rintro e w2 ⟨k2, rfl, ho2, hc2, hk2⟩
         replace ho2 := Lib.hid ho2
         replace hc2 := Lib.hid hc2
         replace hk2 := Lib.hid hk2
         clear D2
         go_wp2_with fail
         refine bodyPost_ret (v := .tuple #[.int .i64 0, .int .i64 0, .int .i64 30]) (by unfold results; simp only [Tryz.results329]; go_simp) rfl ?_
         exact ⟨_, 0, 0, by rw [S.out]; rfl, onl_next ho.out ho2.out, hc2.out, fun e => by rw [S.out] at e; simp at e⟩
       · have h5 : ¬ (4194304 : Int) < (m : Int) := by omega
         rw [if_neg h4] at S
         replace S := Lib.hid S
         replace h1 := Lib.hid h1
         replace h2 := Lib.hid h2
         clear hle l1 l2 h3 h4
         go_enter Tryz.func329, Tryz.ntmps329
         go_wp2_with fail
         refine C1.out.mono ?_
         rintro e w1 ⟨k1, rfl, ho, hc, hk⟩
         obtain rfl := hk h1.out
         have D2 := Lib.hid (C2.out w1 hc)
         replace ho := Lib.hid ho
         clear hc hk C2 C1
         go_wp2_with fail
         refine D2.out.mono ?_
         rintro e w2 ⟨k2, rfl, ho2, hc2, hk2⟩
         replace ho2 := Lib.hid ho2
         replace hc2 := Lib.hid hc2
         replace hk2 := Lib.hid hk2
         clear D2
         go_wp2_with fail
         refine bodyPost_ret (v := .tuple #[.int .i64 (x1 : Int), .int .i64 (x2 : Int), .int .i64 0]) (by unfold results; simp only [Tryz.results329]; go_simp) rfl ?_
         exact ⟨_, x1, x2, by rw [S.out]; rfl, onl_next ho.out ho2.out, hc2.out, fun _ => ⟨hk2.out h2.out, rfl, rfl⟩⟩
   · have q2 := neq_t h2
     rw [if_pos h2] at S
     replace S := Lib.hid S
     replace h1 := Lib.hid h1
     replace h2 := Lib.hid h2
     clear l1 l2
     go_enter Tryz.func329, Tryz.ntmps329
     go_wp2_with fail
     refine C1.out.mono ?_
     rintro e w1 ⟨k1, rfl, ho, hc, hk⟩
     obtain rfl := hk h1.out
     have D2 := Lib.hid (C2.out w1 hc)
     replace ho := Lib.hid ho
     clear hc hk C2 C1
     go_wp2_with fail
     refine D2.out.mono ?_
     rintro e w2 ⟨k2, rfl, ho2, hc2, hk2⟩
     replace ho2 := Lib.hid ho2
     replace hc2 := Lib.hid hc2
     replace hk2 := Lib.hid hk2
     clear D2
     go_wp2_with fail
     refine bodyPost_ret (v := .tuple #[.int .i64 0, .int .i64 0, .int .i64 (c2 : Int)]) (by unfold results; simp only [Tryz.results329]; go_simp) rfl ?_
     exact ⟨_, 0, 0, by rw [S.out], onl_next ho.out ho2.out, hc2.out, fun e => by rw [S.out] at e; exact absurd e h2.out⟩
 · have q1 := neq_t h1
   rw [if_pos h1] at S
   replace S := Lib.hid S
   replace h1 := Lib.hid h1
   clear l1 l2 C2
   go_enter Tryz.func329, Tryz.ntmps329
   go_wp2_with fail
   refine C1.out.mono ?_
   rintro e w1 ⟨k1, rfl, ho, hc, hk⟩
   replace ho := Lib.hid ho
   replace hc := Lib.hid hc
   clear hk
   go_wp2_with fail
   refine bodyPost_ret (v := .tuple #[.int .i64 0, .int .i64 0, .int .i64 (c1 : Int)]) (by unfold results; simp only [Tryz.results329]; go_simp) rfl ?_
   exact ⟨_, 0, 0, by rw [S.out], ho.out, hc.out, fun e => by rw [S.out] at e; exact absurd e h1.out⟩
end Go.Proofs.YtikpobembcgbfaaGreatDoor
