/- Contracts of Same and One; the walk of NearAt. -/
import Derived.Test.YtnklbnphiokpiaaNr
import Derived.Test.YtnklbnphiokpiaaImO
import Derived.Laws.BytesArg
set_option linter.unusedVariables false
set_option linter.unusedSimpArgs false
namespace Go.Proofs.Ytnklbnphiokpiaa
open Go.RowKit
theorem conv_bs {w : World} {u : Value} {zs : List Int} (hu : BS w u zs) : (convert 33 9 u).run Try.prog w = .ok (.string (strOfNums zs)) w := by
  by_cases hz : zs = []
  · subst hz
    obtain ⟨A, cap, rfl⟩ := hu.form
    cases A with
    | none => exact run_convert_bytes_nil (P := Try.prog) w 33 5 Try.underlying33 Try.underlying5 _ _ 9 Try.underlying9
    | some a => exact run_convert_bytes_back (P := Try.prog) w 33 9 5 a cap [] Try.underlying33 Try.underlying5 Try.underlying9 (fun j hj => by simp at hj)
  · obtain ⟨b, off, cap, rfl, h1, h2, h3, h4⟩ := hu.some hz
    exact run_convert_bytes_arg (P := Try.prog) w 33 5 Try.underlying33 Try.underlying5 b off zs.length cap zs rfl h4 9 Try.underlying9
set_option maxRecDepth 100000 in
theorem rsame (u v : Value) (zs : List Int) (w : World) (hu : BS w u zs) (hv : BS w v zs) : Calls Try.prog 34 #[u, v] w fun e w' => e = .returned (.bool true) ∧ w = w' := by
  have h1 := conv_bs hu
  have h2 := conv_bs hv
  clear hu hv
  generalize strOfNums zs = s at *
  go_enter Try.func34, Try.ntmps34
  go_wp2_with fail
  go_ret
  exact ⟨ret_bool (by simp), rfl⟩

/-- All pixels are of one colour, and the border shows no other. -/
def oneP (m : Int) (c : Nat) (cl zs : List Int) (n : Nat) : Prop := ∀ i, i < n → zs.getD i 0 = zs.getD (i % c) 0 ∧ (m = 0 → zs.getD i 0 = cl.getD (i % c) 0)
theorem rem_nat (k c : Nat) : ((k : Int).tmod (c : Int)) = ((k % c : Nat) : Int) := by rw [Int.tmod_eq_emod_of_nonneg (by omega)]; omega
theorem color_cell {w : World} {g q : Nat} {m c0 c1 c2 c3 : Int} {T : TypeId} (h : AtB w g #[.int .i64 m, .int .u8 c0, .int .u8 c1, .int .u8 c2, .int .u8 c3] T) (hq : q < 4) : w.cell? ⟨g, 1 + q, none⟩ = some (.int .u8 ([c0, c1, c2, c3].getD q 0)) := by
  match q, hq with
  | 0, _ => exact h.cell 1 rfl
  | 1, _ => exact h.cell 2 rfl
  | 2, _ => exact h.cell 3 rfl
  | 3, _ => exact h.cell 4 rfl
set_option maxRecDepth 100000 in
set_option maxHeartbeats 8000000 in
theorem law_one (W H m c0 c1 c2 c3 : Int) (c pb po cap n : Nat) (zs : List Int) (hn : zs.length = n) (hn' : n ≤ 20000) (hc : 1 ≤ c ∧ c ≤ 4) (hcn : c ≤ n) (hcap : n ≤ cap) (hcap' : (cap : Int) ≤ 9223372036854775807) (w : World)
    (hlt : pb < w.heap.size) (hp : ∀ i, i < n → w.cell? ⟨pb, po + i, none⟩ = some (.int .u8 (zs.getD i 0))) :
    Calls Try.prog 36 #[imv W H c (.slice (some ⟨pb, po, none⟩) n cap), brv m c0 c1 c2 c3] w fun e w' => ∃ r, e = .returned (.bool r) ∧ (r = true → oneP m c [c0, c1, c2, c3] zs n) ∧ Below w.heap.size w w' := by
  have HP := Lib.hid hp
  have hlt := Lib.hid hlt
  have d1 : decide ((c : Int) < 1) = false := decide_eq_false (by omega)
  have d2 : decide ((c : Int) > 4) = false := decide_eq_false (by omega)
  have hc0 : ¬ (c : Int) = 0 := by omega
  clear hp
  clear hn
  go_enter Try.func36, Try.ntmps36
  go_wp2_with fail
  have BB := start2 w #[.int .i64 W, .int .i64 H, .int .i64 c, .slice (some ⟨pb, po, none⟩) n cap] IT #[.int .i64 m, .int .u8 c0, .int .u8 c1, .int .u8 c2, .int .u8 c3] RT
  obtain ⟨BB, hsz, r_i, r_b⟩ := BB
  generalize ((w.alloc (.cells #[.int .i64 W, .int .i64 H, .int .i64 c, .slice (some ⟨pb, po, none⟩) n cap] IT)).alloc (.cells #[.int .i64 m, .int .u8 c0, .int .u8 c1, .int .u8 c2, .int .u8 c3] RT)) = w0 at *
  replace BB := Lib.hid BB
  replace r_i := Lib.hid r_i
  replace r_b := Lib.hid r_b
  clear hsz
  go_loopw [5] (fun s wr => ∃ k : Nat, k ≤ n ∧ s = .int .i64 k ∧ Hid (oneP m c [c0, c1, c2, c3] zs k ∧ AtB wr w.heap.size #[.int .i64 W, .int .i64 H, .int .i64 c, .slice (some ⟨pb, po, none⟩) n cap] IT ∧ AtB wr (w.heap.size + 1) #[.int .i64 m, .int .u8 c0, .int .u8 c1, .int .u8 c2, .int .u8 c3] RT ∧ Below w.heap.size w wr)) (fun s _ => n - (intOf s).toNat)
  case atStart => exact ⟨0, by omega, rfl, ⟨fun i h => absurd h (by omega), r_i.out, r_b.out, BB.out⟩⟩
  case round =>
    clear r_i r_b BB
    obtain ⟨k, hk, rfl, hinv⟩ := hrel
    obtain ⟨h1, r_i, r_b, BB⟩ := hinv.out
    have HO := Lib.hid h1
    replace r_i := Lib.hid r_i; replace r_b := Lib.hid r_b; replace BB := Lib.hid BB
    clear hinv h1
    by_cases hlt2 : k < n
    · have hq : k % c < c := Nat.mod_lt _ (by omega)
      have hqk : k % c ≤ k := Nat.mod_le _ _
      have er := rem_nat k c
      have cz := (BB.out.cell (p := ⟨pb, po + k, none⟩) hlt.out).trans (HP.out k hlt2)
      have cq := (BB.out.cell (p := ⟨pb, po + k % c, none⟩) hlt.out).trans (HP.out (k % c) (by omega))
      have cc := color_cell r_b.out (show k % c < 4 by omega)
      have HS : Hid (zs.getD k 0 = zs.getD (k % c) 0 → (m = 0 → zs.getD k 0 = [c0, c1, c2, c3].getD (k % c) 0) → oneP m c [c0, c1, c2, c3] zs (k + 1)) := fun e1 e2 i hi => by
        by_cases h : i < k
        · exact HO.out i h
        · obtain rfl : i = k := by omega
          exact ⟨e1, e2⟩
      have k0 : (0 : Int) ≤ (k : Int) := by omega
      have k1 : (k : Int) < (n : Int) := by omega
      have q0 : (0 : Int) ≤ ((k % c : Nat) : Int) := by omega
      have q1 : ((k % c : Nat) : Int) < (n : Int) := by omega
      have q2 : ((k % c : Nat) : Int) < 4 := by omega
      clear HO HP hq hqk
      generalize k % c = q at *
      generalize zs.getD k 0 = a at *
      generalize zs.getD q 0 = a' at *
      generalize [c0, c1, c2, c3].getD q 0 = d at *
      by_cases e1 : a = a'
      · subst e1
        by_cases e2 : m = 0
        · subst e2
          by_cases e3 : a = d
          · subst e3
            have HS2 := Lib.hid (HS.out rfl (fun _ => rfl))
            clear HS
            obtain ⟨c_i0, c_i1, c_i2, c_i3, f_i0, f_i1, f_i2, f_i3⟩ := reads4 r_i.out
            have l_i := r_i.out.lt
            obtain ⟨c_b0, c_b1, c_b2, c_b3, c_b4, f_b0, f_b1, f_b2, f_b3, f_b4⟩ := reads5 r_b.out
            have l_b := r_b.out.lt
            go_wp2_with fail
            go_quiet (fail)
            have hb := below_drawn (Below.refl wr.heap.size wr) nq
            generalize wr.drewN nq = w1 at *
            clear c_i0 c_i1 c_i2 c_i3 f_i0 f_i1 f_i2 f_i3 l_i c_b0 c_b1 c_b2 c_b3 c_b4 f_b0 f_b1 f_b2 f_b3 f_b4 l_b
            replace r_i := Lib.hid (r_i.out.keep hb)
            replace r_b := Lib.hid (r_b.out.keep hb)
            replace BB := Lib.hid (below_next BB.out hb)
            clear hb nq
            go_wp2_with fail
            go_roundw
            case rel => exact ⟨k + 1, by omega, by go_num, ⟨HS2.out, r_i.out, r_b.out, BB.out⟩⟩
            case measure => simp [intOf]; omega
          · have b3 : (a != d) = true := by simpa using e3
            clear HS
            obtain ⟨c_i0, c_i1, c_i2, c_i3, f_i0, f_i1, f_i2, f_i3⟩ := reads4 r_i.out
            have l_i := r_i.out.lt
            obtain ⟨c_b0, c_b1, c_b2, c_b3, c_b4, f_b0, f_b1, f_b2, f_b3, f_b4⟩ := reads5 r_b.out
            have l_b := r_b.out.lt
            go_wp2_with fail
            go_quiet (fail)
            have hb := below_drawn (Below.refl wr.heap.size wr) nq
            generalize wr.drewN nq = w1 at *
            clear c_i0 c_i1 c_i2 c_i3 f_i0 f_i1 f_i2 f_i3 l_i c_b0 c_b1 c_b2 c_b3 c_b4 f_b0 f_b1 f_b2 f_b3 f_b4 l_b
            replace r_i := Lib.hid (r_i.out.keep hb)
            replace r_b := Lib.hid (r_b.out.keep hb)
            replace BB := Lib.hid (below_next BB.out hb)
            clear hb nq
            go_wp2_with fail
            go_ret
            exact ⟨_, rfl, fun h => by simp at h, BB.out⟩
        · have HS2 := Lib.hid (HS.out rfl (fun h => absurd h e2))
          have b2 : (m == 0) = false := by simpa using e2
          clear HS
          obtain ⟨c_i0, c_i1, c_i2, c_i3, f_i0, f_i1, f_i2, f_i3⟩ := reads4 r_i.out
          have l_i := r_i.out.lt
          obtain ⟨c_b0, c_b1, c_b2, c_b3, c_b4, f_b0, f_b1, f_b2, f_b3, f_b4⟩ := reads5 r_b.out
          have l_b := r_b.out.lt
          go_wp2_with fail
          go_quiet (fail)
          have hb := below_drawn (Below.refl wr.heap.size wr) nq
          generalize wr.drewN nq = w1 at *
          clear c_i0 c_i1 c_i2 c_i3 f_i0 f_i1 f_i2 f_i3 l_i c_b0 c_b1 c_b2 c_b3 c_b4 f_b0 f_b1 f_b2 f_b3 f_b4 l_b
          replace r_i := Lib.hid (r_i.out.keep hb)
          replace r_b := Lib.hid (r_b.out.keep hb)
          replace BB := Lib.hid (below_next BB.out hb)
          clear hb nq
          go_wp2_with fail
          go_roundw
          case rel => exact ⟨k + 1, by omega, by go_num, ⟨HS2.out, r_i.out, r_b.out, BB.out⟩⟩
          case measure => simp [intOf]; omega
      · have b1 : (a != a') = true := by simpa using e1
        clear HS
        obtain ⟨c_i0, c_i1, c_i2, c_i3, f_i0, f_i1, f_i2, f_i3⟩ := reads4 r_i.out
        have l_i := r_i.out.lt
        obtain ⟨c_b0, c_b1, c_b2, c_b3, c_b4, f_b0, f_b1, f_b2, f_b3, f_b4⟩ := reads5 r_b.out
        have l_b := r_b.out.lt
        go_wp2_with fail
        go_quiet (fail)
        have hb := below_drawn (Below.refl wr.heap.size wr) nq
        generalize wr.drewN nq = w1 at *
        clear c_i0 c_i1 c_i2 c_i3 f_i0 f_i1 f_i2 f_i3 l_i c_b0 c_b1 c_b2 c_b3 c_b4 f_b0 f_b1 f_b2 f_b3 f_b4 l_b
        replace r_i := Lib.hid (r_i.out.keep hb)
        replace r_b := Lib.hid (r_b.out.keep hb)
        replace BB := Lib.hid (below_next BB.out hb)
        clear hb nq
        go_wp2_with fail
        go_ret
        exact ⟨_, rfl, fun h => by simp at h, BB.out⟩
    · obtain rfl : k = n := by omega
      obtain ⟨c_i0, c_i1, c_i2, c_i3, f_i0, f_i1, f_i2, f_i3⟩ := reads4 r_i.out
      have l_i := r_i.out.lt
      go_wp2_with fail
      go_ret
      exact ⟨_, rfl, fun _ => HO.out, BB.out⟩

end Go.Proofs.Ytnklbnphiokpiaa
