/- The walk of fix.Show. -/
import Derived.Test.YthdbchghhpoadaaDoorFx4
set_option linter.unusedVariables false
set_option linter.unusedSimpArgs false
namespace Go.Proofs.YthdbchghhpoadaaDoor
open Go.RowKit
theorem k_lt {k p : Nat} (hk : k ≤ 16) (h : p < 65536) (h0 : p ≠ 0) (hd : 2 ^ k ∣ p) : k < 16 := by
  have h1 := Nat.le_of_dvd (Nat.pos_of_ne_zero h0) hd
  refine Nat.lt_of_le_of_ne hk (fun e => ?_)
  subst e
  have : (2 : Nat) ^ 16 = 65536 := by decide
  omega
theorem str_one (c : UInt8) : (⟨#[c]⟩ : ByteArray) = ⟨[c].toArray⟩ := rfl
theorem ret_string {a b : ByteArray} (h : a = b) : Ending.returned (.string a) = .returned (.string b) := by rw [h]
set_option maxRecDepth 100000 in
set_option maxHeartbeats 4000000 in
theorem show_at (x : Int) (hx : I64 x) (ws : List UInt8) (hw : ws.length ≤ 100) (w : World) (hF : Calls Tryd.prog 45 #[.int .u64 ((x.natAbs / 65536 : Nat) : Int), .int .i64 10] w fun e w' => e = .returned (.string ⟨ws.toArray⟩) ∧ Below w.heap.size w w') :
    Calls Tryd.prog 21 #[.int .i64 x] w fun e w' => e = .returned (.string ⟨(showT x ws).toArray⟩) ∧ Below w.heap.size w w' := by
  obtain ⟨i0, hi0, hz0, hz1, hz2⟩ := info_parts info_byte
  replace hF := Lib.hid hF
  unfold showT
  obtain ⟨U, hU⟩ : ∃ U, U = x.natAbs := ⟨_, rfl⟩
  have hU1 : U ≤ 9223372036854775808 := by unfold I64 at hx; omega
  obtain ⟨p0, hpe⟩ : ∃ p, p = U % 65536 := ⟨_, rfl⟩
  obtain ⟨d0, hde⟩ : ∃ p, p = U / 65536 := ⟨_, rfl⟩
  have hp0 : p0 < 65536 := by omega
  have e1 : (U : Int) / 65536 = (d0 : Int) := by omega
  have e2 : (U : Int) % 65536 = (p0 : Int) := by omega
  rw [← hU] at hF ⊢
  rw [← hpe]
  rw [← hde] at hF
  obtain ⟨R, hR⟩ : ∃ R, R = (if x < 0 then [45] else []) ++ ws ++ (if p0 = 0 then [] else 46 :: dgs 16 p0) := ⟨_, rfl⟩
  rw [← hR]
  have hd0 : True := trivial
  have f3 : IntKind.u64.wrap (d0 : Int) = (d0 : Int) := by simp [IntKind.wrap, IntKind.bits, IntKind.signed]; omega
  have f4 : IntKind.u64.wrap (p0 : Int) = (p0 : Int) := by simp [IntKind.wrap, IntKind.bits, IntKind.signed]; omega
  by_cases hneg : x < 0
  · have f1 : IntKind.u64.wrap x = x + 18446744073709551616 := by simp [IntKind.wrap, IntKind.bits, IntKind.signed]; unfold I64 at hx; omega
    have f2 : IntKind.u64.wrap (-(x + 18446744073709551616)) = (U : Int) := by simp [IntKind.wrap, IntKind.bits, IntKind.signed]; unfold I64 at hx; omega
    rw [if_pos hneg] at hR
    replace hR := Lib.hid hR
    clear hx hU hU1 hpe hde
    go_enter Tryd.func21, Tryd.ntmps21
    go_wp2_with fail
    have BB : Hid (Below w.heap.size w w) := Below.refl _ _
    refine (hF.out).mono ?_
    rintro e w1 ⟨rfl, hb⟩
    replace BB := Lib.hid (below_next BB.out hb)
    clear hb
    by_cases hp : p0 = 0
    · skip
      replace hR := hR.out
      rw [if_pos hp] at hR
      replace hR := Lib.hid hR
      subst hp
      clear hd0
      go_wp2_with fail
      go_ret
      exact ⟨ret_string (by rw [hR.out]; simp [str_app, str_one]), BB.out⟩
    · replace hR := hR.out
      rw [if_neg hp] at hR
      replace hR := Lib.hid hR
      have hpi : ((p0 : Int) == 0) = false := by simpa using hp
      have hB0 : Hid (∃ (k : Nat) (L : List UInt8), L.length = k ∧ k ≤ 16 ∧ 2 ^ k ∣ p0 ∧ L ++ dgs (16 - k) p0 = dgs 16 p0 ∧ (L = [] → p0 ≠ 0) ∧ w1.ownsRow w1.heap.size 5 1 (.slice none 0 0) L.length (L.map byv) ∧ Below w.heap.size w w1 ∧ w1.heap.size ≤ w1.heap.size) :=
        ⟨0, [], rfl, by omega, by simp, rfl, fun _ => hp, World.ownsRow_nil _ _ _ _, BB.out, Nat.le_refl _⟩
      have hbase := Lib.hid BB.out.size
      clear BB hp
      go_wp2_with fail
      go_loopw [6, 7] (fun a v wr => ∃ p : Nat, p < 65536 ∧ a = .int .u64 (p : Int) ∧ Hid (∃ (k : Nat) (L : List UInt8), L.length = k ∧ k ≤ 16 ∧ 2 ^ k ∣ p ∧ L ++ dgs (16 - k) p = dgs 16 p0 ∧ (L = [] → p ≠ 0) ∧ wr.ownsRow w1.heap.size 5 1 v L.length (L.map byv) ∧ Below w.heap.size w wr ∧ w1.heap.size ≤ wr.heap.size)) (fun _ v _ => 60 - sliceLen v)
      case atStart => exact ⟨p0, hp0, by first | rfl | rw [e2], hB0⟩
      case round =>
        clear hB0 e1 e2 f3 f4 hpi
        obtain ⟨p, hpl, rfl, hI⟩ := hrel
        obtain ⟨k, L, hL, hk, hdv, hdg, hne, hown, BB, hsz⟩ := hI.out
        obtain ⟨A, cap, rfl⟩ := own_form hown
        have HO := Lib.hid hown
        replace BB := Lib.hid BB
        replace hdg := Lib.hid hdg
        replace hne := Lib.hid hne
        replace hsz := Lib.hid hsz
        have hLL : L.length ≤ 16 := by omega
        replace hL := Lib.hid hL
        clear hown hI
        by_cases hp : p = 0
        · subst hp
          have hLn : L ≠ [] := fun h => hne.out h rfl
          rw [dgs_zero, List.append_nil] at hdg
          obtain ⟨g, cap', hv, hcell⟩ := own_cells HO.out hLn
          simp only [Value.slice.injEq] at hv
          obtain ⟨rfl, -, rfl⟩ := hv
          have hcv := run_convert_bytes_back (P := Tryd.prog) wr 65 9 5 ⟨g, 0, none⟩ cap L Tryd.underlying65 Tryd.underlying5 Tryd.underlying9 hcell
          clear hdv hL hk hsz hcell HO hne
          go_wp2_with fail
          go_ret
          exact ⟨ret_string (by rw [hR.out, ← hdg.out]; simp [str_app, str_one]), BB.out⟩
        · have hk16 : k < 16 := k_lt hk hpl hp hdv
          have hdv2 := Lib.hid (dv_step hk16 hdv)
          have hdg2 : Hid ((L ++ [dig p]) ++ dgs (16 - (k + 1)) (p * 10 % 65536) = dgs 16 p0) := by
            show _ = _
            rw [← hdg.out, show 16 - k = 16 - (k + 1) + 1 by omega, dgs_pos hp, List.append_assoc]; rfl
          have hdval := Lib.hid (dig_val hpl)
          obtain ⟨z, hz⟩ : ∃ z, z = p * 10 := ⟨_, rfl⟩
          have e1 : IntKind.u64.wrap ((p : Int) * 10) = (z : Int) := by
            rw [show (z : Int) = (p : Int) * 10 by omega]; simp [IntKind.wrap, IntKind.bits, IntKind.signed]; omega
          rw [← hz] at hdv2 hdg2 hdval
          obtain ⟨q, hq⟩ : ∃ q, q = z % 65536 := ⟨_, rfl⟩
          obtain ⟨d, hd⟩ : ∃ d, d = z / 65536 := ⟨_, rfl⟩
          rw [← hq] at hdv2 hdg2
          rw [← hd] at hdval
          have hdd : d < 10 := by omega
          have hql : q < 65536 := by omega
          have e2 : (z : Int) % 65536 = (q : Int) := by omega
          have e3 : (z : Int) / 65536 = (d : Int) := by omega
          have hpi' : (0 : Int) < (p : Int) := by omega
          have e4 : IntKind.u8.wrap (48 + (d : Int)) = 48 + (d : Int) := by simp [IntKind.wrap, IntKind.bits, IntKind.signed]; omega
          have f5 : IntKind.u64.wrap (q : Int) = (q : Int) := by simp [IntKind.wrap, IntKind.bits, IntKind.signed]; omega
          have f6 : IntKind.u64.wrap (d : Int) = (d : Int) := by simp [IntKind.wrap, IntKind.bits, IntKind.signed]; omega
          have f7 : IntKind.u64.wrap (48 + (d : Int)) = 48 + (d : Int) := by simp [IntKind.wrap, IntKind.bits, IntKind.signed]; omega
          clear hdg hne hdv hq hd hz hp
          go_wp2_with (first | (at_builtin; refine wpList_append_own _ rfl (.tmp 29) (.tmp 35) 65 rfl w1.heap.size 5 i0 (.int .u8 0) 1 1 Tryd.underlying65 hi0 hz0 hz1 hz2 rfl (by decide) _ _ _ rfl (HO.out.alloc _) ⟨wr.heap.size, 0, none⟩ 1 1 [.int .u8 (48 + (d : Int))] rfl rfl (one_new_at _ _ _ rfl) (one_cell _ _) (by unfold maxLen; omega) (by omega) (by have := hsz.out; simp; omega) ?_))
          intro v' w8 hown' hgrow _
          have HB5 := Lib.hid (below_app' BB.out hbase.out BB.out.size HO.out hgrow)
          have hz5 := app_size hgrow
          rw [show Value.int .u8 (48 + (d : Int)) = byv (dig p) by unfold byv; rw [hdval.out]] at hown'
          have HO5 := Lib.hid (own_byte hown')
          have hs5 := Lib.hid (Nat.le_trans hsz.out (Nat.le_of_lt hz5))
          obtain ⟨A', cap', rfl⟩ := own_form hown'
          clear hown' hgrow hz5
          go_wp2_with fail
          go_roundw
          case rel => exact ⟨q, hql, by rw [e2], k + 1, L ++ [dig p], by rw [List.length_append, hL.out]; rfl, hk16, hdv2.out, hdg2.out, fun h => by simp at h, HO5.out, HB5.out, hs5.out⟩
          case measure => simp [sliceLen]; omega
  · have f1 : IntKind.u64.wrap x = (U : Int) := by rw [show (U : Int) = x by omega]; simp [IntKind.wrap, IntKind.bits, IntKind.signed]; unfold I64 at hx; omega
    rw [if_neg hneg] at hR
    replace hR := Lib.hid hR
    clear hx hU hU1 hpe hde
    go_enter Tryd.func21, Tryd.ntmps21
    go_wp2_with fail
    have BB : Hid (Below w.heap.size w w) := Below.refl _ _
    refine (hF.out).mono ?_
    rintro e w1 ⟨rfl, hb⟩
    replace BB := Lib.hid (below_next BB.out hb)
    clear hb
    by_cases hp : p0 = 0
    · skip
      replace hR := hR.out
      rw [if_pos hp] at hR
      replace hR := Lib.hid hR
      subst hp
      clear hd0
      go_wp2_with fail
      go_ret
      exact ⟨ret_string (by rw [hR.out]; simp [str_app, str_one]), BB.out⟩
    · replace hR := hR.out
      rw [if_neg hp] at hR
      replace hR := Lib.hid hR
      have hpi : ((p0 : Int) == 0) = false := by simpa using hp
      have hB0 : Hid (∃ (k : Nat) (L : List UInt8), L.length = k ∧ k ≤ 16 ∧ 2 ^ k ∣ p0 ∧ L ++ dgs (16 - k) p0 = dgs 16 p0 ∧ (L = [] → p0 ≠ 0) ∧ w1.ownsRow w1.heap.size 5 1 (.slice none 0 0) L.length (L.map byv) ∧ Below w.heap.size w w1 ∧ w1.heap.size ≤ w1.heap.size) :=
        ⟨0, [], rfl, by omega, by simp, rfl, fun _ => hp, World.ownsRow_nil _ _ _ _, BB.out, Nat.le_refl _⟩
      have hbase := Lib.hid BB.out.size
      clear BB hp
      go_wp2_with fail
      go_loopw [6, 7] (fun a v wr => ∃ p : Nat, p < 65536 ∧ a = .int .u64 (p : Int) ∧ Hid (∃ (k : Nat) (L : List UInt8), L.length = k ∧ k ≤ 16 ∧ 2 ^ k ∣ p ∧ L ++ dgs (16 - k) p = dgs 16 p0 ∧ (L = [] → p ≠ 0) ∧ wr.ownsRow w1.heap.size 5 1 v L.length (L.map byv) ∧ Below w.heap.size w wr ∧ w1.heap.size ≤ wr.heap.size)) (fun _ v _ => 60 - sliceLen v)
      case atStart => exact ⟨p0, hp0, by first | rfl | rw [e2], hB0⟩
      case round =>
        clear hB0 e1 e2 f3 f4 hpi
        obtain ⟨p, hpl, rfl, hI⟩ := hrel
        obtain ⟨k, L, hL, hk, hdv, hdg, hne, hown, BB, hsz⟩ := hI.out
        obtain ⟨A, cap, rfl⟩ := own_form hown
        have HO := Lib.hid hown
        replace BB := Lib.hid BB
        replace hdg := Lib.hid hdg
        replace hne := Lib.hid hne
        replace hsz := Lib.hid hsz
        have hLL : L.length ≤ 16 := by omega
        replace hL := Lib.hid hL
        clear hown hI
        by_cases hp : p = 0
        · subst hp
          have hLn : L ≠ [] := fun h => hne.out h rfl
          rw [dgs_zero, List.append_nil] at hdg
          obtain ⟨g, cap', hv, hcell⟩ := own_cells HO.out hLn
          simp only [Value.slice.injEq] at hv
          obtain ⟨rfl, -, rfl⟩ := hv
          have hcv := run_convert_bytes_back (P := Tryd.prog) wr 65 9 5 ⟨g, 0, none⟩ cap L Tryd.underlying65 Tryd.underlying5 Tryd.underlying9 hcell
          clear hdv hL hk hsz hcell HO hne
          go_wp2_with fail
          go_ret
          exact ⟨ret_string (by rw [hR.out, ← hdg.out]; simp [str_app, str_one]), BB.out⟩
        · have hk16 : k < 16 := k_lt hk hpl hp hdv
          have hdv2 := Lib.hid (dv_step hk16 hdv)
          have hdg2 : Hid ((L ++ [dig p]) ++ dgs (16 - (k + 1)) (p * 10 % 65536) = dgs 16 p0) := by
            show _ = _
            rw [← hdg.out, show 16 - k = 16 - (k + 1) + 1 by omega, dgs_pos hp, List.append_assoc]; rfl
          have hdval := Lib.hid (dig_val hpl)
          obtain ⟨z, hz⟩ : ∃ z, z = p * 10 := ⟨_, rfl⟩
          have e1 : IntKind.u64.wrap ((p : Int) * 10) = (z : Int) := by
            rw [show (z : Int) = (p : Int) * 10 by omega]; simp [IntKind.wrap, IntKind.bits, IntKind.signed]; omega
          rw [← hz] at hdv2 hdg2 hdval
          obtain ⟨q, hq⟩ : ∃ q, q = z % 65536 := ⟨_, rfl⟩
          obtain ⟨d, hd⟩ : ∃ d, d = z / 65536 := ⟨_, rfl⟩
          rw [← hq] at hdv2 hdg2
          rw [← hd] at hdval
          have hdd : d < 10 := by omega
          have hql : q < 65536 := by omega
          have e2 : (z : Int) % 65536 = (q : Int) := by omega
          have e3 : (z : Int) / 65536 = (d : Int) := by omega
          have hpi' : (0 : Int) < (p : Int) := by omega
          have e4 : IntKind.u8.wrap (48 + (d : Int)) = 48 + (d : Int) := by simp [IntKind.wrap, IntKind.bits, IntKind.signed]; omega
          have f5 : IntKind.u64.wrap (q : Int) = (q : Int) := by simp [IntKind.wrap, IntKind.bits, IntKind.signed]; omega
          have f6 : IntKind.u64.wrap (d : Int) = (d : Int) := by simp [IntKind.wrap, IntKind.bits, IntKind.signed]; omega
          have f7 : IntKind.u64.wrap (48 + (d : Int)) = 48 + (d : Int) := by simp [IntKind.wrap, IntKind.bits, IntKind.signed]; omega
          clear hdg hne hdv hq hd hz hp
          go_wp2_with (first | (at_builtin; refine wpList_append_own _ rfl (.tmp 29) (.tmp 35) 65 rfl w1.heap.size 5 i0 (.int .u8 0) 1 1 Tryd.underlying65 hi0 hz0 hz1 hz2 rfl (by decide) _ _ _ rfl (HO.out.alloc _) ⟨wr.heap.size, 0, none⟩ 1 1 [.int .u8 (48 + (d : Int))] rfl rfl (one_new_at _ _ _ rfl) (one_cell _ _) (by unfold maxLen; omega) (by omega) (by have := hsz.out; simp; omega) ?_))
          intro v' w8 hown' hgrow _
          have HB5 := Lib.hid (below_app' BB.out hbase.out BB.out.size HO.out hgrow)
          have hz5 := app_size hgrow
          rw [show Value.int .u8 (48 + (d : Int)) = byv (dig p) by unfold byv; rw [hdval.out]] at hown'
          have HO5 := Lib.hid (own_byte hown')
          have hs5 := Lib.hid (Nat.le_trans hsz.out (Nat.le_of_lt hz5))
          obtain ⟨A', cap', rfl⟩ := own_form hown'
          clear hown' hgrow hz5
          go_wp2_with fail
          go_roundw
          case rel => exact ⟨q, hql, by rw [e2], k + 1, L ++ [dig p], by rw [List.length_append, hL.out]; rfl, hk16, hdv2.out, hdg2.out, fun h => by simp at h, HO5.out, HB5.out, hs5.out⟩
          case measure => simp [sliceLen]; omega
theorem show_any (x : Int) (hx : I64 x) (ws : List UInt8) (hw : ws.length ≤ 100) (hF : ∀ w, Calls Tryd.prog 45 #[.int .u64 ((x.natAbs / 65536 : Nat) : Int), .int .i64 10] w fun e w' => e = .returned (.string ⟨ws.toArray⟩) ∧ Below w.heap.size w w') (w : World) :
    Calls Tryd.prog 21 #[.int .i64 x] w fun e w' => e = .returned (.string ⟨(showT x ws).toArray⟩) ∧ Below w.heap.size w w' := show_at x hx ws hw w (hF w)
end Go.Proofs.YthdbchghhpoadaaDoor
