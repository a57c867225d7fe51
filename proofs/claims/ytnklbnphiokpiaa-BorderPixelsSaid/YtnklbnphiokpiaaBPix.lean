/- Contract of border.At; the walk of BorderPixels. -/
import Derived.Test.YtnklbnphiokpiaaImO
import Derived.Test.YtnklbnphiokpiaaPeriodLaw
set_option linter.unusedVariables false
set_option linter.unusedSimpArgs false
namespace Go.Proofs.Ytnklbnphiokpiaa
open Go.RowKit

/-- What is told of a channel: its byte and the code. -/
def atV (W H C m x y k : Int) (cl zs : List Int) : Int := if ibC W H C m zs.length = 0 ∧ 0 ≤ k ∧ k < C then (pixL W H C m x y cl zs).getD k.toNat 0 else 0
def atC (W H C m k : Int) (n : Nat) : Int := if ibC W H C m n = 0 then (if 0 ≤ k ∧ k < C then 0 else 11) else ibC W H C m n

set_option maxRecDepth 100000 in
set_option maxHeartbeats 4000000 in
theorem bat (W H C m c0 c1 c2 c3 x y k : Int) (s : Value) (zs : List Int) (w : World) (hi : IMG w s W H C zs) (hm : I64 m) (hx : I64 x) (hy : I64 y) (hk : I64 k) :
    Calls Try.prog 37 #[imv W H C s, brv m c0 c1 c2 c3, .int .i64 x, .int .i64 y, .int .i64 k] w fun e w' => e = .returned (.tuple #[.int .u8 (atV W H C m x y k [c0, c1, c2, c3] zs), .int .i64 (atC W H C m k zs.length)]) ∧ Below w.heap.size w w' := by
  by_cases h : ibC W H C m zs.length = 0
  · have CP := Lib.hid (fun w hi => bpixel W H C m c0 c1 c2 c3 x y s zs w hi hm hx hy h)
    have hl := pixL_len (x := x) (y := y) (cl := [c0, c1, c2, c3]) h rfl
    by_cases hk2 : 0 ≤ k ∧ k < C
    · have F : Hid (atV W H C m x y k [c0, c1, c2, c3] zs = (pixL W H C m x y [c0, c1, c2, c3] zs).getD k.toNat 0 ∧ atC W H C m k zs.length = 0) := by
        refine ⟨if_pos ⟨h, hk2⟩, ?_⟩
        unfold atC; rw [if_pos h, if_pos hk2]
      have d1 : decide (k < 0) = false := decide_eq_false (by omega)
      generalize atV W H C m x y k [c0, c1, c2, c3] zs = a at *
      generalize atC W H C m k zs.length = b at *
      go_enter Try.func37, Try.ntmps37
      go_wp2_with fail
      have BB := start2 w #[.int .i64 W, .int .i64 H, .int .i64 C, s] IT #[.int .i64 m, .int .u8 c0, .int .u8 c1, .int .u8 c2, .int .u8 c3] RT
      obtain ⟨BB, hsz, r_i, r_b⟩ := BB
      generalize ((w.alloc (.cells #[.int .i64 W, .int .i64 H, .int .i64 C, s] IT)).alloc (.cells #[.int .i64 m, .int .u8 c0, .int .u8 c1, .int .u8 c2, .int .u8 c3] RT)) = w0 at *
      replace BB := Lib.hid BB
      replace r_i := Lib.hid r_i
      replace r_b := Lib.hid r_b
      clear hsz
      have hi := Lib.hid (hi.below BB.out)
      refine (CP.out _ hi.out).mono ?_
      rintro e w1 ⟨g, c, rfl, hc, hb, hg, hr⟩
      replace r_i := Lib.hid (r_i.out.keep hb)
      replace r_b := Lib.hid (r_b.out.keep hb)
      replace BB := Lib.hid (below_next BB.out hb)
      clear hb
      obtain ⟨q, rfl⟩ : ∃ q : Nat, k = (q : Int) := ⟨k.toNat, by omega⟩
      have d2 : decide ((q : Int) ≥ (c : Int)) = false := decide_eq_false (by omega)
      have q0 : (0 : Int) ≤ (q : Int) := by omega
      have q1 : (q : Int) < (c : Int) := by omega
      have q2 : q < c := by omega
      have hcell : w1.cell? ⟨g, 0 + q, none⟩ = some (.int .u8 ((pixL W H C m x y [c0, c1, c2, c3] zs).getD q 0)) := by
        refine AtB.cell hr (0 + q) ?_
        rw [Nat.zero_add]
        have : q < (pixL W H C m x y [c0, c1, c2, c3] zs).length := by omega
        simp [List.getD, this]
      rw [Nat.zero_add] at hcell
      rw [Int.toNat_natCast] at F
      clear hr hc hl hk2 CP h hi hm hx hy hk
      generalize (pixL W H C m x y [c0, c1, c2, c3] zs).getD q 0 = z at *
      go_wp2_with fail
      refine bodyPost_ret (v := .tuple #[.int .u8 z, .int .i64 0]) (by unfold results; simp only [Try.results37]; go_simp) rfl ?_
      exact ⟨by rw [F.out.1, F.out.2], BB.out⟩
    · have F : Hid (atV W H C m x y k [c0, c1, c2, c3] zs = 0 ∧ atC W H C m k zs.length = 11) := by
        refine ⟨if_neg (fun q => hk2 q.2), ?_⟩
        unfold atC; rw [if_pos h, if_neg hk2]
      generalize atV W H C m x y k [c0, c1, c2, c3] zs = a at *
      generalize atC W H C m k zs.length = b at *
      by_cases hk3 : k < 0
      · have d1 : decide (k < 0) = true := decide_eq_true hk3
        go_enter Try.func37, Try.ntmps37
        go_wp2_with fail
        have BB := start2 w #[.int .i64 W, .int .i64 H, .int .i64 C, s] IT #[.int .i64 m, .int .u8 c0, .int .u8 c1, .int .u8 c2, .int .u8 c3] RT
        obtain ⟨BB, hsz, r_i, r_b⟩ := BB
        generalize ((w.alloc (.cells #[.int .i64 W, .int .i64 H, .int .i64 C, s] IT)).alloc (.cells #[.int .i64 m, .int .u8 c0, .int .u8 c1, .int .u8 c2, .int .u8 c3] RT)) = w0 at *
        replace BB := Lib.hid BB
        replace r_i := Lib.hid r_i
        replace r_b := Lib.hid r_b
        clear hsz
        have hi := Lib.hid (hi.below BB.out)
        refine (CP.out _ hi.out).mono ?_
        rintro e w1 ⟨g, c, rfl, hc, hb, hg, hr⟩
        replace r_i := Lib.hid (r_i.out.keep hb)
        replace r_b := Lib.hid (r_b.out.keep hb)
        replace BB := Lib.hid (below_next BB.out hb)
        clear hb
        clear hr hc hl hk2 CP h hi hm hx hy hk
        go_wp2_with fail
        refine bodyPost_ret (v := .tuple #[.int .u8 0, .int .i64 11]) (by unfold results; simp only [Try.results37]; go_simp) rfl ?_
        exact ⟨by rw [F.out.1, F.out.2], BB.out⟩
      · have d1 : decide (k < 0) = false := decide_eq_false hk3
        go_enter Try.func37, Try.ntmps37
        go_wp2_with fail
        have BB := start2 w #[.int .i64 W, .int .i64 H, .int .i64 C, s] IT #[.int .i64 m, .int .u8 c0, .int .u8 c1, .int .u8 c2, .int .u8 c3] RT
        obtain ⟨BB, hsz, r_i, r_b⟩ := BB
        generalize ((w.alloc (.cells #[.int .i64 W, .int .i64 H, .int .i64 C, s] IT)).alloc (.cells #[.int .i64 m, .int .u8 c0, .int .u8 c1, .int .u8 c2, .int .u8 c3] RT)) = w0 at *
        replace BB := Lib.hid BB
        replace r_i := Lib.hid r_i
        replace r_b := Lib.hid r_b
        clear hsz
        have hi := Lib.hid (hi.below BB.out)
        refine (CP.out _ hi.out).mono ?_
        rintro e w1 ⟨g, c, rfl, hc, hb, hg, hr⟩
        replace r_i := Lib.hid (r_i.out.keep hb)
        replace r_b := Lib.hid (r_b.out.keep hb)
        replace BB := Lib.hid (below_next BB.out hb)
        clear hb
        have d2 : decide (k ≥ (c : Int)) = true := decide_eq_true (by omega)
        clear hr hc hl hk2 CP h hi hm hx hy hk
        go_wp2_with fail
        refine bodyPost_ret (v := .tuple #[.int .u8 0, .int .i64 11]) (by unfold results; simp only [Try.results37]; go_simp) rfl ?_
        exact ⟨by rw [F.out.1, F.out.2], BB.out⟩
  · obtain ⟨A, cap, hs⟩ := hi.ib.form
    subst hs
    have CP := Lib.hid (fun w => bpixel_no W H C m c0 c1 c2 c3 x y A zs.length cap h w)
    have F : Hid (atV W H C m x y k [c0, c1, c2, c3] zs = 0 ∧ atC W H C m k zs.length = ibC W H C m zs.length) := ⟨if_neg (fun q => h q.1), if_neg h⟩
    generalize atV W H C m x y k [c0, c1, c2, c3] zs = a at *
    generalize atC W H C m k zs.length = b at *
    generalize ibC W H C m zs.length = d at *
    generalize zs.length = n at *
    clear hi
    go_enter Try.func37, Try.ntmps37
    go_wp2_with fail
    have BB := start2 w #[.int .i64 W, .int .i64 H, .int .i64 C, .slice A n cap] IT #[.int .i64 m, .int .u8 c0, .int .u8 c1, .int .u8 c2, .int .u8 c3] RT
    obtain ⟨BB, hsz, r_i, r_b⟩ := BB
    generalize ((w.alloc (.cells #[.int .i64 W, .int .i64 H, .int .i64 C, .slice A n cap] IT)).alloc (.cells #[.int .i64 m, .int .u8 c0, .int .u8 c1, .int .u8 c2, .int .u8 c3] RT)) = w0 at *
    replace BB := Lib.hid BB
    replace r_i := Lib.hid r_i
    replace r_b := Lib.hid r_b
    clear hsz
    refine (CP.out _).mono ?_
    rintro e w1 ⟨rfl, hb⟩
    replace r_i := Lib.hid (r_i.out.keep hb)
    replace r_b := Lib.hid (r_b.out.keep hb)
    replace BB := Lib.hid (below_next BB.out hb)
    clear hb
    go_wp2_with fail
    refine bodyPost_ret (v := .tuple #[.int .u8 0, .int .i64 d]) (by unfold results; simp only [Try.results37]; go_simp) rfl ?_
    exact ⟨by rw [F.out.1, F.out.2], BB.out⟩

end Go.Proofs.Ytnklbnphiokpiaa
