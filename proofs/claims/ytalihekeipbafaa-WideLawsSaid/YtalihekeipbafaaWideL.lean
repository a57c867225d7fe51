/- Walk of the law WideLaws. -/
import Derived.Test.YtalihekeipbafaaAlive1
import Derived.Test.YtalihekeipbafaaWide3
import Derived.Deep.DeepCutAuto
set_option linter.unusedVariables false
namespace Go.Proofs.Ytalihekeipbafaa
open Go.RowKit

theorem WB.uniq {z a b c d : Int} {o p : Bool} (h : WB z a b o) (k : WB z c d p) : c = a ∧ d = b ∧ p = o := by
  rcases h with ⟨h1, h2, h3⟩ | ⟨h1, h2, h3, h4⟩ <;> rcases k with ⟨k1, k2, k3⟩ | ⟨k1, k2, k3, k4⟩
  · obtain ⟨e1, e2⟩ := (W128.cmp k3 h3).2.1 rfl
    exact ⟨e1, e2, k2.trans h2.symm⟩
  · exact absurd h1 k1
  · exact absurd k1 h1
  · simp_all
theorem W128.wb {z a b : Int} (h : W128 z a b) : WB z a b true := .inl ⟨h.room, rfl, h⟩
theorem WB.yes {z a b : Int} (h : WB z a b true) : W128 z a b := by
  rcases h with ⟨h1, h2, h3⟩ | ⟨h1, h2, h3, h4⟩
  · exact h3
  · simp_all

theorem cells7 {w : World} {g : Nat} {a b c d e f h : Value} {T : TypeId} (r : AtB w g #[a, b, c, d, e, f, h] T) : w.cell? ⟨g, 0, none⟩ = some a ∧ w.cell? ⟨g, 1, none⟩ = some b ∧ w.cell? ⟨g, 2, none⟩ = some c ∧ w.cell? ⟨g, 3, none⟩ = some d ∧ w.cell? ⟨g, 4, none⟩ = some e ∧ w.cell? ⟨g, 5, none⟩ = some f ∧ w.cell? ⟨g, 6, none⟩ = some h := ⟨r.cell 0 rfl, r.cell 1 rfl, r.cell 2 rfl, r.cell 3 rfl, r.cell 4 rfl, r.cell 5 rfl, r.cell 6 rfl⟩
set_option maxHeartbeats 20000000 in
set_option maxRecDepth 100000 in
theorem wideLaws_any (ah al bh bl ch cl x : Int) (a1 : I64 ah) (a2 : U64 al) (b1 : I64 bh) (b2 : U64 bl) (c1 : I64 ch) (c2 : U64 cl) (hx : I64 x) (w : World) :
    Calls Try.prog 6 #[.agg #[.int .i64 ah, .int .u64 al, .int .i64 bh, .int .u64 bl, .int .i64 ch, .int .u64 cl, .int .i64 x]] w fun e w' => e = .returned (.bool true) ∧ Below w.heap.size w w' := by
  obtain ⟨a, ha⟩ : ∃ a, W128 a ah al := ⟨_, a1, a2, rfl⟩
  obtain ⟨b, hb⟩ : ∃ b, W128 b bh bl := ⟨_, b1, b2, rfl⟩
  obtain ⟨c, hc⟩ : ∃ c, W128 c ch cl := ⟨_, c1, c2, rfl⟩
  have S1 := Lib.hid (fun w => wadd a b ah al bh bl ha hb w)
  have S2 := Lib.hid (fun w => (Int.add_comm b a ▸ wadd b a bh bl ah al hb ha w : Calls _ _ _ w (GiveWB (a + b) w)))
  have S3 := Lib.hid (fun h l (hs : W128 (a + b) h l) w => ((show a + b - b = a by omega) ▸ wsub (a + b) b h l bh bl hs hb w : Calls _ _ _ w (GiveWB a w)))
  have S4 := Lib.hid (fun h l (hs : W128 (a + b) h l) w => wadd (a + b) c h l ch cl hs hc w)
  have S5 := Lib.hid (fun w => wadd b c bh bl ch cl hb hc w)
  have S6 := Lib.hid (fun h l (hs : W128 (b + c) h l) w => ((show a + (b + c) = a + b + c by omega) ▸ wadd a (b + c) ah al h l ha hs w : Calls _ _ _ w (GiveWB (a + b + c) w)))
  have S7 := Lib.hid (fun w => wscale a x ah al ha hx w)
  have S8 := Lib.hid (fun w => wscale b x bh bl hb hx w)
  have S9 := Lib.hid (fun h l (hs : W128 (a + b) h l) w => (by have h := wscale (a + b) x h l hs hx w; rw [Int.add_mul] at h; exact h : Calls Try.prog 26 #[wv h l, .int .i64 x] w (GiveWB (a * x + b * x) w)))
  have S10 := Lib.hid (fun h l h' l' (hp : W128 (a * x) h l) (hq : W128 (b * x) h' l') w => wadd (a * x) (b * x) h l h' l' hp hq w)
  have CL := Lib.hid (fun w => alive1_any w)
  have HA := Lib.hid ha.wb
  clear ha hb hc hx a1 a2 b1 b2 c1 c2
  generalize a + b + c = z1 at *
  generalize a + b = z2 at *
  generalize b + c = z3 at *
  generalize a * x + b * x = z4 at *
  generalize a * x = z5 at *
  generalize b * x = z6 at *
  go_enter Try.func6, Try.ntmps6
  go_upto_region 1 with fail
  have BB := start1 w #[.int .i64 ah, .int .u64 al, .int .i64 bh, .int .u64 bl, .int .i64 ch, .int .u64 cl, .int .i64 x] 52
  obtain ⟨BB, hsz, r_z⟩ := BB
  generalize (w.alloc (.cells #[.int .i64 ah, .int .u64 al, .int .i64 bh, .int .u64 bl, .int .i64 ch, .int .u64 cl, .int .i64 x] 52)) = w0 at *
  replace BB := Lib.hid BB
  replace r_z := Lib.hid r_z
  clear hsz
  go_cut [3, 4, 5, 6] (fun s3 s4 s5 s6 wc => ∃ ga gb gc, s3 = .pointer (some ⟨ga, 0, none⟩) ∧ s4 = .pointer (some ⟨gb, 0, none⟩) ∧ s5 = .pointer (some ⟨gc, 0, none⟩) ∧ s6 = .int .i64 x ∧
    Hid (AtB wc ga #[.int .i64 ah, .int .u64 al] 24 ∧ AtB wc gb #[.int .i64 bh, .int .u64 bl] 24 ∧ AtB wc gc #[.int .i64 ch, .int .u64 cl] 24 ∧ Below w0.heap.size w0 wc))
  case first =>
    clear S1 S2 S3 S4 S5 S6 S7 S8 S9 S10 CL HA
    have KK := Lib.hid (fun (w9 : World) (h : Below w0.heap.size w0 w9) => (cells7 (r_z.out.keep h) : w9.cell? ⟨w.heap.size, 0, none⟩ = some (.int .i64 ah) ∧ w9.cell? ⟨w.heap.size, 1, none⟩ = some (.int .u64 al) ∧ w9.cell? ⟨w.heap.size, 2, none⟩ = some (.int .i64 bh) ∧ w9.cell? ⟨w.heap.size, 3, none⟩ = some (.int .u64 bl) ∧ w9.cell? ⟨w.heap.size, 4, none⟩ = some (.int .i64 ch) ∧ w9.cell? ⟨w.heap.size, 5, none⟩ = some (.int .u64 cl) ∧ w9.cell? ⟨w.heap.size, 6, none⟩ = some (.int .i64 x)))
    have K0 := KK.out w0 (Below.refl _ _)
    have KD := KK.out w0.drew (below_drew (Below.refl _ _))
    go_region_held3 (fun w9 => w9.cell? ⟨w.heap.size, 0, none⟩ = some (.int .i64 ah) ∧ w9.cell? ⟨w.heap.size, 1, none⟩ = some (.int .u64 al) ∧ w9.cell? ⟨w.heap.size, 2, none⟩ = some (.int .i64 bh) ∧ w9.cell? ⟨w.heap.size, 3, none⟩ = some (.int .u64 bl) ∧ w9.cell? ⟨w.heap.size, 4, none⟩ = some (.int .i64 ch) ∧ w9.cell? ⟨w.heap.size, 5, none⟩ = some (.int .u64 cl) ∧ w9.cell? ⟨w.heap.size, 6, none⟩ = some (.int .i64 x))
      (first | with_reducible exact KD | with_reducible exact K0 | (refine KK.out _ ?_; repeat' (first | with_reducible exact Below.refl _ _ | with_reducible apply below_new | with_reducible apply below_drew | with_reducible apply below_set | omega)))
      (fail)
    all_goals go_wp2_with fail
    all_goals go_meet
    all_goals refine ⟨_, _, _, rfl, rfl, rfl, rfl, ⟨?_, ?_, ?_, ?_⟩⟩
    all_goals repeat' (first | with_reducible exact Below.refl _ _ | with_reducible apply below_new | with_reducible apply below_drew | (with_reducible refine below_set ?_ ?_ _) | (with_reducible refine AtB.set2 (a := .int .i64 0) (b := .int .u64 0) ?_ _ _) | (with_reducible refine AtB.far2 ?_ ?_ _ _) | (with_reducible refine new_at_eq ?_ _ _; first | rfl | (simp; done)) | (with_reducible refine AtB.alloc ?_ _) | with_reducible apply AtB.drew | omega)
  case rest =>
    obtain ⟨ga, gb, gc, rfl, rfl, rfl, rfl, hcut⟩ := hcut
    obtain ⟨r_a, r_b, r_c, hb⟩ := hcut.out
    clear hcut
    replace BB := Lib.hid (below_next BB.out hb)
    clear hb r_z
    replace r_a := Lib.hid r_a; replace r_b := Lib.hid r_b; replace r_c := Lib.hid r_c
    obtain ⟨c_a0, c_a1, f_a0, f_a1⟩ := reads2 r_a.out
    have l_a := r_a.out.lt
    obtain ⟨c_b0, c_b1, f_b0, f_b1⟩ := reads2 r_b.out
    have l_b := r_b.out.lt
    go_wp2_with fail
    refine (S1.out _).mono ?_
    rintro e w1 ⟨sh, sl, so, rfl, hb, hs⟩
    clear c_a0 c_a1 f_a0 f_a1 l_a c_b0 c_b1 f_b0 f_b1 l_b
    replace r_a := Lib.hid (r_a.out.keep hb)
    replace r_b := Lib.hid (r_b.out.keep hb)
    replace r_c := Lib.hid (r_c.out.keep hb)
    replace BB := Lib.hid (below_next BB.out hb)
    clear hb
    have HS := Lib.hid hs
    clear hs
    obtain ⟨c_a0, c_a1, f_a0, f_a1⟩ := reads2 r_a.out
    have l_a := r_a.out.lt
    obtain ⟨c_b0, c_b1, f_b0, f_b1⟩ := reads2 r_b.out
    have l_b := r_b.out.lt
    go_wp2_with fail
    clear c_a0 c_a1 f_a0 f_a1 l_a c_b0 c_b1 f_b0 f_b1 l_b
    have d_s := Lib.hid (And.intro BB.out.size (And.intro r_a.out.lt (And.intro r_b.out.lt (And.intro r_c.out.lt (True.intro)))))
    obtain ⟨hb, r_s⟩ := laid w1 #[.int .i64 sh, .int .u64 sl] 24
    replace r_a := Lib.hid (r_a.out.keep hb)
    replace r_b := Lib.hid (r_b.out.keep hb)
    replace r_c := Lib.hid (r_c.out.keep hb)
    replace BB := Lib.hid (below_next BB.out hb)
    replace r_s := Lib.hid r_s
    clear hb
    generalize w1.alloc (.cells #[.int .i64 sh, .int .u64 sl] 24) = w2 at *
    generalize w1.heap.size = g_s at *
    refine (S2.out _).mono ?_
    rintro e w3 ⟨th, tl, tk, rfl, hb, ht⟩
    replace r_a := Lib.hid (r_a.out.keep hb)
    replace r_b := Lib.hid (r_b.out.keep hb)
    replace r_c := Lib.hid (r_c.out.keep hb)
    replace r_s := Lib.hid (r_s.out.keep hb)
    replace BB := Lib.hid (below_next BB.out hb)
    clear hb
    obtain ⟨rfl, rfl, rfl⟩ := HS.out.uniq ht
    clear ht
    cases tk
    · skip
      obtain ⟨c_s0, c_s1, f_s0, f_s1⟩ := reads2 r_s.out
      have l_s := r_s.out.lt
      go_wp2_with fail
      clear c_s0 c_s1 f_s0 f_s1 l_s
      have d_t := Lib.hid (And.intro BB.out.size (And.intro r_a.out.lt (And.intro r_b.out.lt (And.intro r_c.out.lt (And.intro r_s.out.lt (True.intro))))))
      obtain ⟨hb, r_t⟩ := laid w3 #[.int .i64 th, .int .u64 tl] 24
      replace r_a := Lib.hid (r_a.out.keep hb)
      replace r_b := Lib.hid (r_b.out.keep hb)
      replace r_c := Lib.hid (r_c.out.keep hb)
      replace r_s := Lib.hid (r_s.out.keep hb)
      replace BB := Lib.hid (below_next BB.out hb)
      replace r_t := Lib.hid r_t
      clear hb
      generalize w3.alloc (.cells #[.int .i64 th, .int .u64 tl] 24) = w4 at *
      generalize w3.heap.size = g_t at *
      refine (CL.out _).mono ?_
      rintro e w5 ⟨rfl, hb⟩
      replace r_a := Lib.hid (r_a.out.keep hb)
      replace r_b := Lib.hid (r_b.out.keep hb)
      replace r_c := Lib.hid (r_c.out.keep hb)
      replace r_s := Lib.hid (r_s.out.keep hb)
      replace r_t := Lib.hid (r_t.out.keep hb)
      replace BB := Lib.hid (below_next BB.out hb)
      clear hb
      go_wp2_with fail
      go_ret
      exact ⟨rfl, BB.out⟩
    · skip
      have HW := Lib.hid (HS.out.yes)
      clear HS
      have S3' := Lib.hid (S3.out _ _ HW.out)
      have S4' := Lib.hid (S4.out _ _ HW.out)
      have S9' := Lib.hid (S9.out _ _ HW.out)
      clear S3 S4 S9 HW S1 S2
      obtain ⟨c_s0, c_s1, f_s0, f_s1⟩ := reads2 r_s.out
      have l_s := r_s.out.lt
      obtain ⟨c_b0, c_b1, f_b0, f_b1⟩ := reads2 r_b.out
      have l_b := r_b.out.lt
      go_wp2_with fail
      clear c_s0 c_s1 f_s0 f_s1 l_s c_b0 c_b1 f_b0 f_b1 l_b
      have d_t := Lib.hid (And.intro BB.out.size (And.intro r_a.out.lt (And.intro r_b.out.lt (And.intro r_c.out.lt (And.intro r_s.out.lt (True.intro))))))
      obtain ⟨hb, r_t⟩ := laid w3 #[.int .i64 th, .int .u64 tl] 24
      replace r_a := Lib.hid (r_a.out.keep hb)
      replace r_b := Lib.hid (r_b.out.keep hb)
      replace r_c := Lib.hid (r_c.out.keep hb)
      replace r_s := Lib.hid (r_s.out.keep hb)
      replace BB := Lib.hid (below_next BB.out hb)
      replace r_t := Lib.hid r_t
      clear hb
      generalize w3.alloc (.cells #[.int .i64 th, .int .u64 tl] 24) = w4 at *
      generalize w3.heap.size = g_t at *
      clear r_t
      refine (S3'.out _).mono ?_
      rintro e w5 ⟨kh, kl, ko, rfl, hb, hk⟩
      replace r_a := Lib.hid (r_a.out.keep hb)
      replace r_b := Lib.hid (r_b.out.keep hb)
      replace r_c := Lib.hid (r_c.out.keep hb)
      replace r_s := Lib.hid (r_s.out.keep hb)
      replace BB := Lib.hid (below_next BB.out hb)
      clear hb
      obtain ⟨rfl, rfl, rfl⟩ := HA.out.uniq hk
      clear hk HA S3'
      obtain ⟨c_s0, c_s1, f_s0, f_s1⟩ := reads2 r_s.out
      have l_s := r_s.out.lt
      obtain ⟨c_a0, c_a1, f_a0, f_a1⟩ := reads2 r_a.out
      have l_a := r_a.out.lt
      obtain ⟨c_c0, c_c1, f_c0, f_c1⟩ := reads2 r_c.out
      have l_c := r_c.out.lt
      go_wp2_with fail
      clear c_s0 c_s1 f_s0 f_s1 l_s c_a0 c_a1 f_a0 f_a1 l_a c_c0 c_c1 f_c0 f_c1 l_c
      have d_k := Lib.hid (And.intro BB.out.size (And.intro r_a.out.lt (And.intro r_b.out.lt (And.intro r_c.out.lt (And.intro r_s.out.lt (True.intro))))))
      obtain ⟨hb, r_k⟩ := laid w5 #[.int .i64 kh, .int .u64 kl] 24
      replace r_a := Lib.hid (r_a.out.keep hb)
      replace r_b := Lib.hid (r_b.out.keep hb)
      replace r_c := Lib.hid (r_c.out.keep hb)
      replace r_s := Lib.hid (r_s.out.keep hb)
      replace BB := Lib.hid (below_next BB.out hb)
      replace r_k := Lib.hid r_k
      clear hb
      generalize w5.alloc (.cells #[.int .i64 kh, .int .u64 kl] 24) = w6 at *
      generalize w5.heap.size = g_k at *
      clear r_k
      refine (S4'.out _).mono ?_
      rintro e w7 ⟨lh, ll, lo, rfl, hb, hl⟩
      replace r_a := Lib.hid (r_a.out.keep hb)
      replace r_b := Lib.hid (r_b.out.keep hb)
      replace r_c := Lib.hid (r_c.out.keep hb)
      replace r_s := Lib.hid (r_s.out.keep hb)
      replace BB := Lib.hid (below_next BB.out hb)
      clear hb
      have HL := Lib.hid hl
      clear hl S4'
      obtain ⟨c_b0, c_b1, f_b0, f_b1⟩ := reads2 r_b.out
      have l_b := r_b.out.lt
      obtain ⟨c_c0, c_c1, f_c0, f_c1⟩ := reads2 r_c.out
      have l_c := r_c.out.lt
      go_wp2_with fail
      clear c_b0 c_b1 f_b0 f_b1 l_b c_c0 c_c1 f_c0 f_c1 l_c
      have d_l := Lib.hid (And.intro BB.out.size (And.intro r_a.out.lt (And.intro r_b.out.lt (And.intro r_c.out.lt (And.intro r_s.out.lt (True.intro))))))
      obtain ⟨hb, r_l⟩ := laid w7 #[.int .i64 lh, .int .u64 ll] 24
      replace r_a := Lib.hid (r_a.out.keep hb)
      replace r_b := Lib.hid (r_b.out.keep hb)
      replace r_c := Lib.hid (r_c.out.keep hb)
      replace r_s := Lib.hid (r_s.out.keep hb)
      replace BB := Lib.hid (below_next BB.out hb)
      replace r_l := Lib.hid r_l
      clear hb
      generalize w7.alloc (.cells #[.int .i64 lh, .int .u64 ll] 24) = w8 at *
      generalize w7.heap.size = g_l at *
      refine (S5.out _).mono ?_
      rintro e w9 ⟨rh, rl, ro, rfl, hb, hr⟩
      replace r_a := Lib.hid (r_a.out.keep hb)
      replace r_b := Lib.hid (r_b.out.keep hb)
      replace r_c := Lib.hid (r_c.out.keep hb)
      replace r_s := Lib.hid (r_s.out.keep hb)
      replace r_l := Lib.hid (r_l.out.keep hb)
      replace BB := Lib.hid (below_next BB.out hb)
      clear hb
      have HR := Lib.hid hr
      clear hr S5
      rcases (show lo = false ∨ (lo = true ∧ ro = false) ∨ (lo = true ∧ ro = true) by cases lo <;> cases ro <;> simp) with rfl | ⟨rfl, rfl⟩ | ⟨rfl, rfl⟩
      · skip
        obtain ⟨c_a0, c_a1, f_a0, f_a1⟩ := reads2 r_a.out
        have l_a := r_a.out.lt
        go_wp2_with fail
        clear c_a0 c_a1 f_a0 f_a1 l_a
        have d_r := Lib.hid (And.intro BB.out.size (And.intro r_a.out.lt (And.intro r_b.out.lt (And.intro r_c.out.lt (And.intro r_s.out.lt (And.intro r_l.out.lt (True.intro)))))))
        obtain ⟨hb, r_r⟩ := laid w9 #[.int .i64 rh, .int .u64 rl] 24
        replace r_a := Lib.hid (r_a.out.keep hb)
        replace r_b := Lib.hid (r_b.out.keep hb)
        replace r_c := Lib.hid (r_c.out.keep hb)
        replace r_s := Lib.hid (r_s.out.keep hb)
        replace r_l := Lib.hid (r_l.out.keep hb)
        replace BB := Lib.hid (below_next BB.out hb)
        replace r_r := Lib.hid r_r
        clear hb
        generalize w9.alloc (.cells #[.int .i64 rh, .int .u64 rl] 24) = w10 at *
        generalize w9.heap.size = g_r at *
        clear r_r
        refine (S7.out _).mono ?_
        rintro e w11 ⟨ph, pl, po, rfl, hb, hp⟩
        replace r_a := Lib.hid (r_a.out.keep hb)
        replace r_b := Lib.hid (r_b.out.keep hb)
        replace r_c := Lib.hid (r_c.out.keep hb)
        replace r_s := Lib.hid (r_s.out.keep hb)
        replace r_l := Lib.hid (r_l.out.keep hb)
        replace BB := Lib.hid (below_next BB.out hb)
        clear hb
        have HP := Lib.hid hp
        clear hp
        obtain ⟨c_b0, c_b1, f_b0, f_b1⟩ := reads2 r_b.out
        have l_b := r_b.out.lt
        go_wp2_with fail
        clear c_b0 c_b1 f_b0 f_b1 l_b
        have d_p := Lib.hid (And.intro BB.out.size (And.intro r_a.out.lt (And.intro r_b.out.lt (And.intro r_c.out.lt (And.intro r_s.out.lt (And.intro r_l.out.lt (True.intro)))))))
        obtain ⟨hb, r_p⟩ := laid w11 #[.int .i64 ph, .int .u64 pl] 24
        replace r_a := Lib.hid (r_a.out.keep hb)
        replace r_b := Lib.hid (r_b.out.keep hb)
        replace r_c := Lib.hid (r_c.out.keep hb)
        replace r_s := Lib.hid (r_s.out.keep hb)
        replace r_l := Lib.hid (r_l.out.keep hb)
        replace BB := Lib.hid (below_next BB.out hb)
        replace r_p := Lib.hid r_p
        clear hb
        generalize w11.alloc (.cells #[.int .i64 ph, .int .u64 pl] 24) = w12 at *
        generalize w11.heap.size = g_p at *
        refine (S8.out _).mono ?_
        rintro e w13 ⟨qh, ql, qo, rfl, hb, hq⟩
        replace r_a := Lib.hid (r_a.out.keep hb)
        replace r_b := Lib.hid (r_b.out.keep hb)
        replace r_c := Lib.hid (r_c.out.keep hb)
        replace r_s := Lib.hid (r_s.out.keep hb)
        replace r_l := Lib.hid (r_l.out.keep hb)
        replace r_p := Lib.hid (r_p.out.keep hb)
        replace BB := Lib.hid (below_next BB.out hb)
        clear hb
        have HQ := Lib.hid hq
        clear hq
        obtain ⟨c_s0, c_s1, f_s0, f_s1⟩ := reads2 r_s.out
        have l_s := r_s.out.lt
        go_wp2_with fail
        clear c_s0 c_s1 f_s0 f_s1 l_s
        have d_q := Lib.hid (And.intro BB.out.size (And.intro r_a.out.lt (And.intro r_b.out.lt (And.intro r_c.out.lt (And.intro r_s.out.lt (And.intro r_l.out.lt (And.intro r_p.out.lt (True.intro))))))))
        obtain ⟨hb, r_q⟩ := laid w13 #[.int .i64 qh, .int .u64 ql] 24
        replace r_a := Lib.hid (r_a.out.keep hb)
        replace r_b := Lib.hid (r_b.out.keep hb)
        replace r_c := Lib.hid (r_c.out.keep hb)
        replace r_s := Lib.hid (r_s.out.keep hb)
        replace r_l := Lib.hid (r_l.out.keep hb)
        replace r_p := Lib.hid (r_p.out.keep hb)
        replace BB := Lib.hid (below_next BB.out hb)
        replace r_q := Lib.hid r_q
        clear hb
        generalize w13.alloc (.cells #[.int .i64 qh, .int .u64 ql] 24) = w14 at *
        generalize w13.heap.size = g_q at *
        refine (S9'.out _).mono ?_
        rintro e w15 ⟨uh, ul, uo, rfl, hb, hu⟩
        replace r_a := Lib.hid (r_a.out.keep hb)
        replace r_b := Lib.hid (r_b.out.keep hb)
        replace r_c := Lib.hid (r_c.out.keep hb)
        replace r_s := Lib.hid (r_s.out.keep hb)
        replace r_l := Lib.hid (r_l.out.keep hb)
        replace r_p := Lib.hid (r_p.out.keep hb)
        replace r_q := Lib.hid (r_q.out.keep hb)
        replace BB := Lib.hid (below_next BB.out hb)
        clear hb
        have HU := Lib.hid hu
        clear hu
        rcases (show po = false ∨ (po = true ∧ qo = false) ∨ (po = true ∧ qo = true ∧ uo = false) ∨ (po = true ∧ qo = true ∧ uo = true) by cases po <;> cases qo <;> cases uo <;> simp) with rfl | ⟨rfl, rfl⟩ | ⟨rfl, rfl, rfl⟩ | ⟨rfl, rfl, rfl⟩
        · skip
          go_wp2_with fail
          have d_u := Lib.hid (And.intro BB.out.size (And.intro r_a.out.lt (And.intro r_b.out.lt (And.intro r_c.out.lt (And.intro r_s.out.lt (And.intro r_l.out.lt (And.intro r_p.out.lt (And.intro r_q.out.lt (True.intro)))))))))
          obtain ⟨hb, r_u⟩ := laid w15 #[.int .i64 uh, .int .u64 ul] 24
          replace r_a := Lib.hid (r_a.out.keep hb)
          replace r_b := Lib.hid (r_b.out.keep hb)
          replace r_c := Lib.hid (r_c.out.keep hb)
          replace r_s := Lib.hid (r_s.out.keep hb)
          replace r_l := Lib.hid (r_l.out.keep hb)
          replace r_p := Lib.hid (r_p.out.keep hb)
          replace r_q := Lib.hid (r_q.out.keep hb)
          replace BB := Lib.hid (below_next BB.out hb)
          replace r_u := Lib.hid r_u
          clear hb
          generalize w15.alloc (.cells #[.int .i64 uh, .int .u64 ul] 24) = w16 at *
          generalize w15.heap.size = g_u at *
          refine (CL.out _).mono ?_
          rintro e w17 ⟨rfl, hb⟩
          replace r_a := Lib.hid (r_a.out.keep hb)
          replace r_b := Lib.hid (r_b.out.keep hb)
          replace r_c := Lib.hid (r_c.out.keep hb)
          replace r_s := Lib.hid (r_s.out.keep hb)
          replace r_l := Lib.hid (r_l.out.keep hb)
          replace r_p := Lib.hid (r_p.out.keep hb)
          replace r_q := Lib.hid (r_q.out.keep hb)
          replace r_u := Lib.hid (r_u.out.keep hb)
          replace BB := Lib.hid (below_next BB.out hb)
          clear hb
          go_wp2_with fail
          go_ret
          exact ⟨rfl, BB.out⟩
        · skip
          go_wp2_with fail
          have d_u := Lib.hid (And.intro BB.out.size (And.intro r_a.out.lt (And.intro r_b.out.lt (And.intro r_c.out.lt (And.intro r_s.out.lt (And.intro r_l.out.lt (And.intro r_p.out.lt (And.intro r_q.out.lt (True.intro)))))))))
          obtain ⟨hb, r_u⟩ := laid w15 #[.int .i64 uh, .int .u64 ul] 24
          replace r_a := Lib.hid (r_a.out.keep hb)
          replace r_b := Lib.hid (r_b.out.keep hb)
          replace r_c := Lib.hid (r_c.out.keep hb)
          replace r_s := Lib.hid (r_s.out.keep hb)
          replace r_l := Lib.hid (r_l.out.keep hb)
          replace r_p := Lib.hid (r_p.out.keep hb)
          replace r_q := Lib.hid (r_q.out.keep hb)
          replace BB := Lib.hid (below_next BB.out hb)
          replace r_u := Lib.hid r_u
          clear hb
          generalize w15.alloc (.cells #[.int .i64 uh, .int .u64 ul] 24) = w16 at *
          generalize w15.heap.size = g_u at *
          refine (CL.out _).mono ?_
          rintro e w17 ⟨rfl, hb⟩
          replace r_a := Lib.hid (r_a.out.keep hb)
          replace r_b := Lib.hid (r_b.out.keep hb)
          replace r_c := Lib.hid (r_c.out.keep hb)
          replace r_s := Lib.hid (r_s.out.keep hb)
          replace r_l := Lib.hid (r_l.out.keep hb)
          replace r_p := Lib.hid (r_p.out.keep hb)
          replace r_q := Lib.hid (r_q.out.keep hb)
          replace r_u := Lib.hid (r_u.out.keep hb)
          replace BB := Lib.hid (below_next BB.out hb)
          clear hb
          go_wp2_with fail
          go_ret
          exact ⟨rfl, BB.out⟩
        · skip
          go_wp2_with fail
          have d_u := Lib.hid (And.intro BB.out.size (And.intro r_a.out.lt (And.intro r_b.out.lt (And.intro r_c.out.lt (And.intro r_s.out.lt (And.intro r_l.out.lt (And.intro r_p.out.lt (And.intro r_q.out.lt (True.intro)))))))))
          obtain ⟨hb, r_u⟩ := laid w15 #[.int .i64 uh, .int .u64 ul] 24
          replace r_a := Lib.hid (r_a.out.keep hb)
          replace r_b := Lib.hid (r_b.out.keep hb)
          replace r_c := Lib.hid (r_c.out.keep hb)
          replace r_s := Lib.hid (r_s.out.keep hb)
          replace r_l := Lib.hid (r_l.out.keep hb)
          replace r_p := Lib.hid (r_p.out.keep hb)
          replace r_q := Lib.hid (r_q.out.keep hb)
          replace BB := Lib.hid (below_next BB.out hb)
          replace r_u := Lib.hid r_u
          clear hb
          generalize w15.alloc (.cells #[.int .i64 uh, .int .u64 ul] 24) = w16 at *
          generalize w15.heap.size = g_u at *
          refine (CL.out _).mono ?_
          rintro e w17 ⟨rfl, hb⟩
          replace r_a := Lib.hid (r_a.out.keep hb)
          replace r_b := Lib.hid (r_b.out.keep hb)
          replace r_c := Lib.hid (r_c.out.keep hb)
          replace r_s := Lib.hid (r_s.out.keep hb)
          replace r_l := Lib.hid (r_l.out.keep hb)
          replace r_p := Lib.hid (r_p.out.keep hb)
          replace r_q := Lib.hid (r_q.out.keep hb)
          replace r_u := Lib.hid (r_u.out.keep hb)
          replace BB := Lib.hid (below_next BB.out hb)
          clear hb
          go_wp2_with fail
          go_ret
          exact ⟨rfl, BB.out⟩
        · skip
          have S10' := Lib.hid (S10.out _ _ _ _ HP.out.yes HQ.out.yes)
          clear S10
          obtain ⟨c_p0, c_p1, f_p0, f_p1⟩ := reads2 r_p.out
          have l_p := r_p.out.lt
          obtain ⟨c_q0, c_q1, f_q0, f_q1⟩ := reads2 r_q.out
          have l_q := r_q.out.lt
          go_wp2_with fail
          clear c_p0 c_p1 f_p0 f_p1 l_p c_q0 c_q1 f_q0 f_q1 l_q
          have d_u := Lib.hid (And.intro BB.out.size (And.intro r_a.out.lt (And.intro r_b.out.lt (And.intro r_c.out.lt (And.intro r_s.out.lt (And.intro r_l.out.lt (And.intro r_p.out.lt (And.intro r_q.out.lt (True.intro)))))))))
          obtain ⟨hb, r_u⟩ := laid w15 #[.int .i64 uh, .int .u64 ul] 24
          replace r_a := Lib.hid (r_a.out.keep hb)
          replace r_b := Lib.hid (r_b.out.keep hb)
          replace r_c := Lib.hid (r_c.out.keep hb)
          replace r_s := Lib.hid (r_s.out.keep hb)
          replace r_l := Lib.hid (r_l.out.keep hb)
          replace r_p := Lib.hid (r_p.out.keep hb)
          replace r_q := Lib.hid (r_q.out.keep hb)
          replace BB := Lib.hid (below_next BB.out hb)
          replace r_u := Lib.hid r_u
          clear hb
          generalize w15.alloc (.cells #[.int .i64 uh, .int .u64 ul] 24) = w16 at *
          generalize w15.heap.size = g_u at *
          refine (S10'.out _).mono ?_
          rintro e w17 ⟨vh, vl, vo, rfl, hb, hv⟩
          replace r_a := Lib.hid (r_a.out.keep hb)
          replace r_b := Lib.hid (r_b.out.keep hb)
          replace r_c := Lib.hid (r_c.out.keep hb)
          replace r_s := Lib.hid (r_s.out.keep hb)
          replace r_l := Lib.hid (r_l.out.keep hb)
          replace r_p := Lib.hid (r_p.out.keep hb)
          replace r_q := Lib.hid (r_q.out.keep hb)
          replace r_u := Lib.hid (r_u.out.keep hb)
          replace BB := Lib.hid (below_next BB.out hb)
          clear hb
          obtain ⟨rfl, rfl, rfl⟩ := HU.out.uniq hv
          clear hv HU
          obtain ⟨c_u0, c_u1, f_u0, f_u1⟩ := reads2 r_u.out
          have l_u := r_u.out.lt
          go_wp2_with fail
          clear c_u0 c_u1 f_u0 f_u1 l_u
          have d_v := Lib.hid (And.intro BB.out.size (And.intro r_a.out.lt (And.intro r_b.out.lt (And.intro r_c.out.lt (And.intro r_s.out.lt (And.intro r_l.out.lt (And.intro r_p.out.lt (And.intro r_q.out.lt (And.intro r_u.out.lt (True.intro))))))))))
          obtain ⟨hb, r_v⟩ := laid w17 #[.int .i64 vh, .int .u64 vl] 24
          replace r_a := Lib.hid (r_a.out.keep hb)
          replace r_b := Lib.hid (r_b.out.keep hb)
          replace r_c := Lib.hid (r_c.out.keep hb)
          replace r_s := Lib.hid (r_s.out.keep hb)
          replace r_l := Lib.hid (r_l.out.keep hb)
          replace r_p := Lib.hid (r_p.out.keep hb)
          replace r_q := Lib.hid (r_q.out.keep hb)
          replace r_u := Lib.hid (r_u.out.keep hb)
          replace BB := Lib.hid (below_next BB.out hb)
          replace r_v := Lib.hid r_v
          clear hb
          generalize w17.alloc (.cells #[.int .i64 vh, .int .u64 vl] 24) = w18 at *
          generalize w17.heap.size = g_v at *
          refine (CL.out _).mono ?_
          rintro e w19 ⟨rfl, hb⟩
          replace r_a := Lib.hid (r_a.out.keep hb)
          replace r_b := Lib.hid (r_b.out.keep hb)
          replace r_c := Lib.hid (r_c.out.keep hb)
          replace r_s := Lib.hid (r_s.out.keep hb)
          replace r_l := Lib.hid (r_l.out.keep hb)
          replace r_p := Lib.hid (r_p.out.keep hb)
          replace r_q := Lib.hid (r_q.out.keep hb)
          replace r_u := Lib.hid (r_u.out.keep hb)
          replace r_v := Lib.hid (r_v.out.keep hb)
          replace BB := Lib.hid (below_next BB.out hb)
          clear hb
          go_wp2_with fail
          go_ret
          exact ⟨rfl, BB.out⟩
      · skip
        obtain ⟨c_a0, c_a1, f_a0, f_a1⟩ := reads2 r_a.out
        have l_a := r_a.out.lt
        go_wp2_with fail
        clear c_a0 c_a1 f_a0 f_a1 l_a
        have d_r := Lib.hid (And.intro BB.out.size (And.intro r_a.out.lt (And.intro r_b.out.lt (And.intro r_c.out.lt (And.intro r_s.out.lt (And.intro r_l.out.lt (True.intro)))))))
        obtain ⟨hb, r_r⟩ := laid w9 #[.int .i64 rh, .int .u64 rl] 24
        replace r_a := Lib.hid (r_a.out.keep hb)
        replace r_b := Lib.hid (r_b.out.keep hb)
        replace r_c := Lib.hid (r_c.out.keep hb)
        replace r_s := Lib.hid (r_s.out.keep hb)
        replace r_l := Lib.hid (r_l.out.keep hb)
        replace BB := Lib.hid (below_next BB.out hb)
        replace r_r := Lib.hid r_r
        clear hb
        generalize w9.alloc (.cells #[.int .i64 rh, .int .u64 rl] 24) = w10 at *
        generalize w9.heap.size = g_r at *
        clear r_r
        refine (S7.out _).mono ?_
        rintro e w11 ⟨ph, pl, po, rfl, hb, hp⟩
        replace r_a := Lib.hid (r_a.out.keep hb)
        replace r_b := Lib.hid (r_b.out.keep hb)
        replace r_c := Lib.hid (r_c.out.keep hb)
        replace r_s := Lib.hid (r_s.out.keep hb)
        replace r_l := Lib.hid (r_l.out.keep hb)
        replace BB := Lib.hid (below_next BB.out hb)
        clear hb
        have HP := Lib.hid hp
        clear hp
        obtain ⟨c_b0, c_b1, f_b0, f_b1⟩ := reads2 r_b.out
        have l_b := r_b.out.lt
        go_wp2_with fail
        clear c_b0 c_b1 f_b0 f_b1 l_b
        have d_p := Lib.hid (And.intro BB.out.size (And.intro r_a.out.lt (And.intro r_b.out.lt (And.intro r_c.out.lt (And.intro r_s.out.lt (And.intro r_l.out.lt (True.intro)))))))
        obtain ⟨hb, r_p⟩ := laid w11 #[.int .i64 ph, .int .u64 pl] 24
        replace r_a := Lib.hid (r_a.out.keep hb)
        replace r_b := Lib.hid (r_b.out.keep hb)
        replace r_c := Lib.hid (r_c.out.keep hb)
        replace r_s := Lib.hid (r_s.out.keep hb)
        replace r_l := Lib.hid (r_l.out.keep hb)
        replace BB := Lib.hid (below_next BB.out hb)
        replace r_p := Lib.hid r_p
        clear hb
        generalize w11.alloc (.cells #[.int .i64 ph, .int .u64 pl] 24) = w12 at *
        generalize w11.heap.size = g_p at *
        refine (S8.out _).mono ?_
        rintro e w13 ⟨qh, ql, qo, rfl, hb, hq⟩
        replace r_a := Lib.hid (r_a.out.keep hb)
        replace r_b := Lib.hid (r_b.out.keep hb)
        replace r_c := Lib.hid (r_c.out.keep hb)
        replace r_s := Lib.hid (r_s.out.keep hb)
        replace r_l := Lib.hid (r_l.out.keep hb)
        replace r_p := Lib.hid (r_p.out.keep hb)
        replace BB := Lib.hid (below_next BB.out hb)
        clear hb
        have HQ := Lib.hid hq
        clear hq
        obtain ⟨c_s0, c_s1, f_s0, f_s1⟩ := reads2 r_s.out
        have l_s := r_s.out.lt
        go_wp2_with fail
        clear c_s0 c_s1 f_s0 f_s1 l_s
        have d_q := Lib.hid (And.intro BB.out.size (And.intro r_a.out.lt (And.intro r_b.out.lt (And.intro r_c.out.lt (And.intro r_s.out.lt (And.intro r_l.out.lt (And.intro r_p.out.lt (True.intro))))))))
        obtain ⟨hb, r_q⟩ := laid w13 #[.int .i64 qh, .int .u64 ql] 24
        replace r_a := Lib.hid (r_a.out.keep hb)
        replace r_b := Lib.hid (r_b.out.keep hb)
        replace r_c := Lib.hid (r_c.out.keep hb)
        replace r_s := Lib.hid (r_s.out.keep hb)
        replace r_l := Lib.hid (r_l.out.keep hb)
        replace r_p := Lib.hid (r_p.out.keep hb)
        replace BB := Lib.hid (below_next BB.out hb)
        replace r_q := Lib.hid r_q
        clear hb
        generalize w13.alloc (.cells #[.int .i64 qh, .int .u64 ql] 24) = w14 at *
        generalize w13.heap.size = g_q at *
        refine (S9'.out _).mono ?_
        rintro e w15 ⟨uh, ul, uo, rfl, hb, hu⟩
        replace r_a := Lib.hid (r_a.out.keep hb)
        replace r_b := Lib.hid (r_b.out.keep hb)
        replace r_c := Lib.hid (r_c.out.keep hb)
        replace r_s := Lib.hid (r_s.out.keep hb)
        replace r_l := Lib.hid (r_l.out.keep hb)
        replace r_p := Lib.hid (r_p.out.keep hb)
        replace r_q := Lib.hid (r_q.out.keep hb)
        replace BB := Lib.hid (below_next BB.out hb)
        clear hb
        have HU := Lib.hid hu
        clear hu
        rcases (show po = false ∨ (po = true ∧ qo = false) ∨ (po = true ∧ qo = true ∧ uo = false) ∨ (po = true ∧ qo = true ∧ uo = true) by cases po <;> cases qo <;> cases uo <;> simp) with rfl | ⟨rfl, rfl⟩ | ⟨rfl, rfl, rfl⟩ | ⟨rfl, rfl, rfl⟩
        · skip
          go_wp2_with fail
          have d_u := Lib.hid (And.intro BB.out.size (And.intro r_a.out.lt (And.intro r_b.out.lt (And.intro r_c.out.lt (And.intro r_s.out.lt (And.intro r_l.out.lt (And.intro r_p.out.lt (And.intro r_q.out.lt (True.intro)))))))))
          obtain ⟨hb, r_u⟩ := laid w15 #[.int .i64 uh, .int .u64 ul] 24
          replace r_a := Lib.hid (r_a.out.keep hb)
          replace r_b := Lib.hid (r_b.out.keep hb)
          replace r_c := Lib.hid (r_c.out.keep hb)
          replace r_s := Lib.hid (r_s.out.keep hb)
          replace r_l := Lib.hid (r_l.out.keep hb)
          replace r_p := Lib.hid (r_p.out.keep hb)
          replace r_q := Lib.hid (r_q.out.keep hb)
          replace BB := Lib.hid (below_next BB.out hb)
          replace r_u := Lib.hid r_u
          clear hb
          generalize w15.alloc (.cells #[.int .i64 uh, .int .u64 ul] 24) = w16 at *
          generalize w15.heap.size = g_u at *
          refine (CL.out _).mono ?_
          rintro e w17 ⟨rfl, hb⟩
          replace r_a := Lib.hid (r_a.out.keep hb)
          replace r_b := Lib.hid (r_b.out.keep hb)
          replace r_c := Lib.hid (r_c.out.keep hb)
          replace r_s := Lib.hid (r_s.out.keep hb)
          replace r_l := Lib.hid (r_l.out.keep hb)
          replace r_p := Lib.hid (r_p.out.keep hb)
          replace r_q := Lib.hid (r_q.out.keep hb)
          replace r_u := Lib.hid (r_u.out.keep hb)
          replace BB := Lib.hid (below_next BB.out hb)
          clear hb
          go_wp2_with fail
          go_ret
          exact ⟨rfl, BB.out⟩
        · skip
          go_wp2_with fail
          have d_u := Lib.hid (And.intro BB.out.size (And.intro r_a.out.lt (And.intro r_b.out.lt (And.intro r_c.out.lt (And.intro r_s.out.lt (And.intro r_l.out.lt (And.intro r_p.out.lt (And.intro r_q.out.lt (True.intro)))))))))
          obtain ⟨hb, r_u⟩ := laid w15 #[.int .i64 uh, .int .u64 ul] 24
          replace r_a := Lib.hid (r_a.out.keep hb)
          replace r_b := Lib.hid (r_b.out.keep hb)
          replace r_c := Lib.hid (r_c.out.keep hb)
          replace r_s := Lib.hid (r_s.out.keep hb)
          replace r_l := Lib.hid (r_l.out.keep hb)
          replace r_p := Lib.hid (r_p.out.keep hb)
          replace r_q := Lib.hid (r_q.out.keep hb)
          replace BB := Lib.hid (below_next BB.out hb)
          replace r_u := Lib.hid r_u
          clear hb
          generalize w15.alloc (.cells #[.int .i64 uh, .int .u64 ul] 24) = w16 at *
          generalize w15.heap.size = g_u at *
          refine (CL.out _).mono ?_
          rintro e w17 ⟨rfl, hb⟩
          replace r_a := Lib.hid (r_a.out.keep hb)
          replace r_b := Lib.hid (r_b.out.keep hb)
          replace r_c := Lib.hid (r_c.out.keep hb)
          replace r_s := Lib.hid (r_s.out.keep hb)
          replace r_l := Lib.hid (r_l.out.keep hb)
          replace r_p := Lib.hid (r_p.out.keep hb)
          replace r_q := Lib.hid (r_q.out.keep hb)
          replace r_u := Lib.hid (r_u.out.keep hb)
          replace BB := Lib.hid (below_next BB.out hb)
          clear hb
          go_wp2_with fail
          go_ret
          exact ⟨rfl, BB.out⟩
        · skip
          go_wp2_with fail
          have d_u := Lib.hid (And.intro BB.out.size (And.intro r_a.out.lt (And.intro r_b.out.lt (And.intro r_c.out.lt (And.intro r_s.out.lt (And.intro r_l.out.lt (And.intro r_p.out.lt (And.intro r_q.out.lt (True.intro)))))))))
          obtain ⟨hb, r_u⟩ := laid w15 #[.int .i64 uh, .int .u64 ul] 24
          replace r_a := Lib.hid (r_a.out.keep hb)
          replace r_b := Lib.hid (r_b.out.keep hb)
          replace r_c := Lib.hid (r_c.out.keep hb)
          replace r_s := Lib.hid (r_s.out.keep hb)
          replace r_l := Lib.hid (r_l.out.keep hb)
          replace r_p := Lib.hid (r_p.out.keep hb)
          replace r_q := Lib.hid (r_q.out.keep hb)
          replace BB := Lib.hid (below_next BB.out hb)
          replace r_u := Lib.hid r_u
          clear hb
          generalize w15.alloc (.cells #[.int .i64 uh, .int .u64 ul] 24) = w16 at *
          generalize w15.heap.size = g_u at *
          refine (CL.out _).mono ?_
          rintro e w17 ⟨rfl, hb⟩
          replace r_a := Lib.hid (r_a.out.keep hb)
          replace r_b := Lib.hid (r_b.out.keep hb)
          replace r_c := Lib.hid (r_c.out.keep hb)
          replace r_s := Lib.hid (r_s.out.keep hb)
          replace r_l := Lib.hid (r_l.out.keep hb)
          replace r_p := Lib.hid (r_p.out.keep hb)
          replace r_q := Lib.hid (r_q.out.keep hb)
          replace r_u := Lib.hid (r_u.out.keep hb)
          replace BB := Lib.hid (below_next BB.out hb)
          clear hb
          go_wp2_with fail
          go_ret
          exact ⟨rfl, BB.out⟩
        · skip
          have S10' := Lib.hid (S10.out _ _ _ _ HP.out.yes HQ.out.yes)
          clear S10
          obtain ⟨c_p0, c_p1, f_p0, f_p1⟩ := reads2 r_p.out
          have l_p := r_p.out.lt
          obtain ⟨c_q0, c_q1, f_q0, f_q1⟩ := reads2 r_q.out
          have l_q := r_q.out.lt
          go_wp2_with fail
          clear c_p0 c_p1 f_p0 f_p1 l_p c_q0 c_q1 f_q0 f_q1 l_q
          have d_u := Lib.hid (And.intro BB.out.size (And.intro r_a.out.lt (And.intro r_b.out.lt (And.intro r_c.out.lt (And.intro r_s.out.lt (And.intro r_l.out.lt (And.intro r_p.out.lt (And.intro r_q.out.lt (True.intro)))))))))
          obtain ⟨hb, r_u⟩ := laid w15 #[.int .i64 uh, .int .u64 ul] 24
          replace r_a := Lib.hid (r_a.out.keep hb)
          replace r_b := Lib.hid (r_b.out.keep hb)
          replace r_c := Lib.hid (r_c.out.keep hb)
          replace r_s := Lib.hid (r_s.out.keep hb)
          replace r_l := Lib.hid (r_l.out.keep hb)
          replace r_p := Lib.hid (r_p.out.keep hb)
          replace r_q := Lib.hid (r_q.out.keep hb)
          replace BB := Lib.hid (below_next BB.out hb)
          replace r_u := Lib.hid r_u
          clear hb
          generalize w15.alloc (.cells #[.int .i64 uh, .int .u64 ul] 24) = w16 at *
          generalize w15.heap.size = g_u at *
          refine (S10'.out _).mono ?_
          rintro e w17 ⟨vh, vl, vo, rfl, hb, hv⟩
          replace r_a := Lib.hid (r_a.out.keep hb)
          replace r_b := Lib.hid (r_b.out.keep hb)
          replace r_c := Lib.hid (r_c.out.keep hb)
          replace r_s := Lib.hid (r_s.out.keep hb)
          replace r_l := Lib.hid (r_l.out.keep hb)
          replace r_p := Lib.hid (r_p.out.keep hb)
          replace r_q := Lib.hid (r_q.out.keep hb)
          replace r_u := Lib.hid (r_u.out.keep hb)
          replace BB := Lib.hid (below_next BB.out hb)
          clear hb
          obtain ⟨rfl, rfl, rfl⟩ := HU.out.uniq hv
          clear hv HU
          obtain ⟨c_u0, c_u1, f_u0, f_u1⟩ := reads2 r_u.out
          have l_u := r_u.out.lt
          go_wp2_with fail
          clear c_u0 c_u1 f_u0 f_u1 l_u
          have d_v := Lib.hid (And.intro BB.out.size (And.intro r_a.out.lt (And.intro r_b.out.lt (And.intro r_c.out.lt (And.intro r_s.out.lt (And.intro r_l.out.lt (And.intro r_p.out.lt (And.intro r_q.out.lt (And.intro r_u.out.lt (True.intro))))))))))
          obtain ⟨hb, r_v⟩ := laid w17 #[.int .i64 vh, .int .u64 vl] 24
          replace r_a := Lib.hid (r_a.out.keep hb)
          replace r_b := Lib.hid (r_b.out.keep hb)
          replace r_c := Lib.hid (r_c.out.keep hb)
          replace r_s := Lib.hid (r_s.out.keep hb)
          replace r_l := Lib.hid (r_l.out.keep hb)
          replace r_p := Lib.hid (r_p.out.keep hb)
          replace r_q := Lib.hid (r_q.out.keep hb)
          replace r_u := Lib.hid (r_u.out.keep hb)
          replace BB := Lib.hid (below_next BB.out hb)
          replace r_v := Lib.hid r_v
          clear hb
          generalize w17.alloc (.cells #[.int .i64 vh, .int .u64 vl] 24) = w18 at *
          generalize w17.heap.size = g_v at *
          refine (CL.out _).mono ?_
          rintro e w19 ⟨rfl, hb⟩
          replace r_a := Lib.hid (r_a.out.keep hb)
          replace r_b := Lib.hid (r_b.out.keep hb)
          replace r_c := Lib.hid (r_c.out.keep hb)
          replace r_s := Lib.hid (r_s.out.keep hb)
          replace r_l := Lib.hid (r_l.out.keep hb)
          replace r_p := Lib.hid (r_p.out.keep hb)
          replace r_q := Lib.hid (r_q.out.keep hb)
          replace r_u := Lib.hid (r_u.out.keep hb)
          replace r_v := Lib.hid (r_v.out.keep hb)
          replace BB := Lib.hid (below_next BB.out hb)
          clear hb
          go_wp2_with fail
          go_ret
          exact ⟨rfl, BB.out⟩
      · skip
        have S6' := Lib.hid (S6.out _ _ HR.out.yes)
        clear S6
        obtain ⟨c_a0, c_a1, f_a0, f_a1⟩ := reads2 r_a.out
        have l_a := r_a.out.lt
        go_wp2_with fail
        clear c_a0 c_a1 f_a0 f_a1 l_a
        have d_r := Lib.hid (And.intro BB.out.size (And.intro r_a.out.lt (And.intro r_b.out.lt (And.intro r_c.out.lt (And.intro r_s.out.lt (And.intro r_l.out.lt (True.intro)))))))
        obtain ⟨hb, r_r⟩ := laid w9 #[.int .i64 rh, .int .u64 rl] 24
        replace r_a := Lib.hid (r_a.out.keep hb)
        replace r_b := Lib.hid (r_b.out.keep hb)
        replace r_c := Lib.hid (r_c.out.keep hb)
        replace r_s := Lib.hid (r_s.out.keep hb)
        replace r_l := Lib.hid (r_l.out.keep hb)
        replace BB := Lib.hid (below_next BB.out hb)
        replace r_r := Lib.hid r_r
        clear hb
        generalize w9.alloc (.cells #[.int .i64 rh, .int .u64 rl] 24) = w10 at *
        generalize w9.heap.size = g_r at *
        clear r_r
        refine (S6'.out _).mono ?_
        rintro e w11 ⟨mh, ml, mo, rfl, hb, hm⟩
        replace r_a := Lib.hid (r_a.out.keep hb)
        replace r_b := Lib.hid (r_b.out.keep hb)
        replace r_c := Lib.hid (r_c.out.keep hb)
        replace r_s := Lib.hid (r_s.out.keep hb)
        replace r_l := Lib.hid (r_l.out.keep hb)
        replace BB := Lib.hid (below_next BB.out hb)
        clear hb
        obtain ⟨rfl, rfl, rfl⟩ := HL.out.uniq hm
        clear hm HL S6'
        obtain ⟨c_l0, c_l1, f_l0, f_l1⟩ := reads2 r_l.out
        have l_l := r_l.out.lt
        obtain ⟨c_a0, c_a1, f_a0, f_a1⟩ := reads2 r_a.out
        have l_a := r_a.out.lt
        go_wp2_with fail
        clear c_l0 c_l1 f_l0 f_l1 l_l c_a0 c_a1 f_a0 f_a1 l_a
        have d_m := Lib.hid (And.intro BB.out.size (And.intro r_a.out.lt (And.intro r_b.out.lt (And.intro r_c.out.lt (And.intro r_s.out.lt (And.intro r_l.out.lt (True.intro)))))))
        obtain ⟨hb, r_m⟩ := laid w11 #[.int .i64 mh, .int .u64 ml] 24
        replace r_a := Lib.hid (r_a.out.keep hb)
        replace r_b := Lib.hid (r_b.out.keep hb)
        replace r_c := Lib.hid (r_c.out.keep hb)
        replace r_s := Lib.hid (r_s.out.keep hb)
        replace r_l := Lib.hid (r_l.out.keep hb)
        replace BB := Lib.hid (below_next BB.out hb)
        replace r_m := Lib.hid r_m
        clear hb
        generalize w11.alloc (.cells #[.int .i64 mh, .int .u64 ml] 24) = w12 at *
        generalize w11.heap.size = g_m at *
        clear r_m
        refine (S7.out _).mono ?_
        rintro e w13 ⟨ph, pl, po, rfl, hb, hp⟩
        replace r_a := Lib.hid (r_a.out.keep hb)
        replace r_b := Lib.hid (r_b.out.keep hb)
        replace r_c := Lib.hid (r_c.out.keep hb)
        replace r_s := Lib.hid (r_s.out.keep hb)
        replace r_l := Lib.hid (r_l.out.keep hb)
        replace BB := Lib.hid (below_next BB.out hb)
        clear hb
        have HP := Lib.hid hp
        clear hp
        obtain ⟨c_b0, c_b1, f_b0, f_b1⟩ := reads2 r_b.out
        have l_b := r_b.out.lt
        go_wp2_with fail
        clear c_b0 c_b1 f_b0 f_b1 l_b
        have d_p := Lib.hid (And.intro BB.out.size (And.intro r_a.out.lt (And.intro r_b.out.lt (And.intro r_c.out.lt (And.intro r_s.out.lt (And.intro r_l.out.lt (True.intro)))))))
        obtain ⟨hb, r_p⟩ := laid w13 #[.int .i64 ph, .int .u64 pl] 24
        replace r_a := Lib.hid (r_a.out.keep hb)
        replace r_b := Lib.hid (r_b.out.keep hb)
        replace r_c := Lib.hid (r_c.out.keep hb)
        replace r_s := Lib.hid (r_s.out.keep hb)
        replace r_l := Lib.hid (r_l.out.keep hb)
        replace BB := Lib.hid (below_next BB.out hb)
        replace r_p := Lib.hid r_p
        clear hb
        generalize w13.alloc (.cells #[.int .i64 ph, .int .u64 pl] 24) = w14 at *
        generalize w13.heap.size = g_p at *
        refine (S8.out _).mono ?_
        rintro e w15 ⟨qh, ql, qo, rfl, hb, hq⟩
        replace r_a := Lib.hid (r_a.out.keep hb)
        replace r_b := Lib.hid (r_b.out.keep hb)
        replace r_c := Lib.hid (r_c.out.keep hb)
        replace r_s := Lib.hid (r_s.out.keep hb)
        replace r_l := Lib.hid (r_l.out.keep hb)
        replace r_p := Lib.hid (r_p.out.keep hb)
        replace BB := Lib.hid (below_next BB.out hb)
        clear hb
        have HQ := Lib.hid hq
        clear hq
        obtain ⟨c_s0, c_s1, f_s0, f_s1⟩ := reads2 r_s.out
        have l_s := r_s.out.lt
        go_wp2_with fail
        clear c_s0 c_s1 f_s0 f_s1 l_s
        have d_q := Lib.hid (And.intro BB.out.size (And.intro r_a.out.lt (And.intro r_b.out.lt (And.intro r_c.out.lt (And.intro r_s.out.lt (And.intro r_l.out.lt (And.intro r_p.out.lt (True.intro))))))))
        obtain ⟨hb, r_q⟩ := laid w15 #[.int .i64 qh, .int .u64 ql] 24
        replace r_a := Lib.hid (r_a.out.keep hb)
        replace r_b := Lib.hid (r_b.out.keep hb)
        replace r_c := Lib.hid (r_c.out.keep hb)
        replace r_s := Lib.hid (r_s.out.keep hb)
        replace r_l := Lib.hid (r_l.out.keep hb)
        replace r_p := Lib.hid (r_p.out.keep hb)
        replace BB := Lib.hid (below_next BB.out hb)
        replace r_q := Lib.hid r_q
        clear hb
        generalize w15.alloc (.cells #[.int .i64 qh, .int .u64 ql] 24) = w16 at *
        generalize w15.heap.size = g_q at *
        refine (S9'.out _).mono ?_
        rintro e w17 ⟨uh, ul, uo, rfl, hb, hu⟩
        replace r_a := Lib.hid (r_a.out.keep hb)
        replace r_b := Lib.hid (r_b.out.keep hb)
        replace r_c := Lib.hid (r_c.out.keep hb)
        replace r_s := Lib.hid (r_s.out.keep hb)
        replace r_l := Lib.hid (r_l.out.keep hb)
        replace r_p := Lib.hid (r_p.out.keep hb)
        replace r_q := Lib.hid (r_q.out.keep hb)
        replace BB := Lib.hid (below_next BB.out hb)
        clear hb
        have HU := Lib.hid hu
        clear hu
        rcases (show po = false ∨ (po = true ∧ qo = false) ∨ (po = true ∧ qo = true ∧ uo = false) ∨ (po = true ∧ qo = true ∧ uo = true) by cases po <;> cases qo <;> cases uo <;> simp) with rfl | ⟨rfl, rfl⟩ | ⟨rfl, rfl, rfl⟩ | ⟨rfl, rfl, rfl⟩
        · skip
          go_wp2_with fail
          have d_u := Lib.hid (And.intro BB.out.size (And.intro r_a.out.lt (And.intro r_b.out.lt (And.intro r_c.out.lt (And.intro r_s.out.lt (And.intro r_l.out.lt (And.intro r_p.out.lt (And.intro r_q.out.lt (True.intro)))))))))
          obtain ⟨hb, r_u⟩ := laid w17 #[.int .i64 uh, .int .u64 ul] 24
          replace r_a := Lib.hid (r_a.out.keep hb)
          replace r_b := Lib.hid (r_b.out.keep hb)
          replace r_c := Lib.hid (r_c.out.keep hb)
          replace r_s := Lib.hid (r_s.out.keep hb)
          replace r_l := Lib.hid (r_l.out.keep hb)
          replace r_p := Lib.hid (r_p.out.keep hb)
          replace r_q := Lib.hid (r_q.out.keep hb)
          replace BB := Lib.hid (below_next BB.out hb)
          replace r_u := Lib.hid r_u
          clear hb
          generalize w17.alloc (.cells #[.int .i64 uh, .int .u64 ul] 24) = w18 at *
          generalize w17.heap.size = g_u at *
          refine (CL.out _).mono ?_
          rintro e w19 ⟨rfl, hb⟩
          replace r_a := Lib.hid (r_a.out.keep hb)
          replace r_b := Lib.hid (r_b.out.keep hb)
          replace r_c := Lib.hid (r_c.out.keep hb)
          replace r_s := Lib.hid (r_s.out.keep hb)
          replace r_l := Lib.hid (r_l.out.keep hb)
          replace r_p := Lib.hid (r_p.out.keep hb)
          replace r_q := Lib.hid (r_q.out.keep hb)
          replace r_u := Lib.hid (r_u.out.keep hb)
          replace BB := Lib.hid (below_next BB.out hb)
          clear hb
          go_wp2_with fail
          go_ret
          exact ⟨rfl, BB.out⟩
        · skip
          go_wp2_with fail
          have d_u := Lib.hid (And.intro BB.out.size (And.intro r_a.out.lt (And.intro r_b.out.lt (And.intro r_c.out.lt (And.intro r_s.out.lt (And.intro r_l.out.lt (And.intro r_p.out.lt (And.intro r_q.out.lt (True.intro)))))))))
          obtain ⟨hb, r_u⟩ := laid w17 #[.int .i64 uh, .int .u64 ul] 24
          replace r_a := Lib.hid (r_a.out.keep hb)
          replace r_b := Lib.hid (r_b.out.keep hb)
          replace r_c := Lib.hid (r_c.out.keep hb)
          replace r_s := Lib.hid (r_s.out.keep hb)
          replace r_l := Lib.hid (r_l.out.keep hb)
          replace r_p := Lib.hid (r_p.out.keep hb)
          replace r_q := Lib.hid (r_q.out.keep hb)
          replace BB := Lib.hid (below_next BB.out hb)
          replace r_u := Lib.hid r_u
          clear hb
          generalize w17.alloc (.cells #[.int .i64 uh, .int .u64 ul] 24) = w18 at *
          generalize w17.heap.size = g_u at *
          refine (CL.out _).mono ?_
          rintro e w19 ⟨rfl, hb⟩
          replace r_a := Lib.hid (r_a.out.keep hb)
          replace r_b := Lib.hid (r_b.out.keep hb)
          replace r_c := Lib.hid (r_c.out.keep hb)
          replace r_s := Lib.hid (r_s.out.keep hb)
          replace r_l := Lib.hid (r_l.out.keep hb)
          replace r_p := Lib.hid (r_p.out.keep hb)
          replace r_q := Lib.hid (r_q.out.keep hb)
          replace r_u := Lib.hid (r_u.out.keep hb)
          replace BB := Lib.hid (below_next BB.out hb)
          clear hb
          go_wp2_with fail
          go_ret
          exact ⟨rfl, BB.out⟩
        · skip
          go_wp2_with fail
          have d_u := Lib.hid (And.intro BB.out.size (And.intro r_a.out.lt (And.intro r_b.out.lt (And.intro r_c.out.lt (And.intro r_s.out.lt (And.intro r_l.out.lt (And.intro r_p.out.lt (And.intro r_q.out.lt (True.intro)))))))))
          obtain ⟨hb, r_u⟩ := laid w17 #[.int .i64 uh, .int .u64 ul] 24
          replace r_a := Lib.hid (r_a.out.keep hb)
          replace r_b := Lib.hid (r_b.out.keep hb)
          replace r_c := Lib.hid (r_c.out.keep hb)
          replace r_s := Lib.hid (r_s.out.keep hb)
          replace r_l := Lib.hid (r_l.out.keep hb)
          replace r_p := Lib.hid (r_p.out.keep hb)
          replace r_q := Lib.hid (r_q.out.keep hb)
          replace BB := Lib.hid (below_next BB.out hb)
          replace r_u := Lib.hid r_u
          clear hb
          generalize w17.alloc (.cells #[.int .i64 uh, .int .u64 ul] 24) = w18 at *
          generalize w17.heap.size = g_u at *
          refine (CL.out _).mono ?_
          rintro e w19 ⟨rfl, hb⟩
          replace r_a := Lib.hid (r_a.out.keep hb)
          replace r_b := Lib.hid (r_b.out.keep hb)
          replace r_c := Lib.hid (r_c.out.keep hb)
          replace r_s := Lib.hid (r_s.out.keep hb)
          replace r_l := Lib.hid (r_l.out.keep hb)
          replace r_p := Lib.hid (r_p.out.keep hb)
          replace r_q := Lib.hid (r_q.out.keep hb)
          replace r_u := Lib.hid (r_u.out.keep hb)
          replace BB := Lib.hid (below_next BB.out hb)
          clear hb
          go_wp2_with fail
          go_ret
          exact ⟨rfl, BB.out⟩
        · skip
          have S10' := Lib.hid (S10.out _ _ _ _ HP.out.yes HQ.out.yes)
          clear S10
          obtain ⟨c_p0, c_p1, f_p0, f_p1⟩ := reads2 r_p.out
          have l_p := r_p.out.lt
          obtain ⟨c_q0, c_q1, f_q0, f_q1⟩ := reads2 r_q.out
          have l_q := r_q.out.lt
          go_wp2_with fail
          clear c_p0 c_p1 f_p0 f_p1 l_p c_q0 c_q1 f_q0 f_q1 l_q
          have d_u := Lib.hid (And.intro BB.out.size (And.intro r_a.out.lt (And.intro r_b.out.lt (And.intro r_c.out.lt (And.intro r_s.out.lt (And.intro r_l.out.lt (And.intro r_p.out.lt (And.intro r_q.out.lt (True.intro)))))))))
          obtain ⟨hb, r_u⟩ := laid w17 #[.int .i64 uh, .int .u64 ul] 24
          replace r_a := Lib.hid (r_a.out.keep hb)
          replace r_b := Lib.hid (r_b.out.keep hb)
          replace r_c := Lib.hid (r_c.out.keep hb)
          replace r_s := Lib.hid (r_s.out.keep hb)
          replace r_l := Lib.hid (r_l.out.keep hb)
          replace r_p := Lib.hid (r_p.out.keep hb)
          replace r_q := Lib.hid (r_q.out.keep hb)
          replace BB := Lib.hid (below_next BB.out hb)
          replace r_u := Lib.hid r_u
          clear hb
          generalize w17.alloc (.cells #[.int .i64 uh, .int .u64 ul] 24) = w18 at *
          generalize w17.heap.size = g_u at *
          refine (S10'.out _).mono ?_
          rintro e w19 ⟨vh, vl, vo, rfl, hb, hv⟩
          replace r_a := Lib.hid (r_a.out.keep hb)
          replace r_b := Lib.hid (r_b.out.keep hb)
          replace r_c := Lib.hid (r_c.out.keep hb)
          replace r_s := Lib.hid (r_s.out.keep hb)
          replace r_l := Lib.hid (r_l.out.keep hb)
          replace r_p := Lib.hid (r_p.out.keep hb)
          replace r_q := Lib.hid (r_q.out.keep hb)
          replace r_u := Lib.hid (r_u.out.keep hb)
          replace BB := Lib.hid (below_next BB.out hb)
          clear hb
          obtain ⟨rfl, rfl, rfl⟩ := HU.out.uniq hv
          clear hv HU
          obtain ⟨c_u0, c_u1, f_u0, f_u1⟩ := reads2 r_u.out
          have l_u := r_u.out.lt
          go_wp2_with fail
          clear c_u0 c_u1 f_u0 f_u1 l_u
          have d_v := Lib.hid (And.intro BB.out.size (And.intro r_a.out.lt (And.intro r_b.out.lt (And.intro r_c.out.lt (And.intro r_s.out.lt (And.intro r_l.out.lt (And.intro r_p.out.lt (And.intro r_q.out.lt (And.intro r_u.out.lt (True.intro))))))))))
          obtain ⟨hb, r_v⟩ := laid w19 #[.int .i64 vh, .int .u64 vl] 24
          replace r_a := Lib.hid (r_a.out.keep hb)
          replace r_b := Lib.hid (r_b.out.keep hb)
          replace r_c := Lib.hid (r_c.out.keep hb)
          replace r_s := Lib.hid (r_s.out.keep hb)
          replace r_l := Lib.hid (r_l.out.keep hb)
          replace r_p := Lib.hid (r_p.out.keep hb)
          replace r_q := Lib.hid (r_q.out.keep hb)
          replace r_u := Lib.hid (r_u.out.keep hb)
          replace BB := Lib.hid (below_next BB.out hb)
          replace r_v := Lib.hid r_v
          clear hb
          generalize w19.alloc (.cells #[.int .i64 vh, .int .u64 vl] 24) = w20 at *
          generalize w19.heap.size = g_v at *
          refine (CL.out _).mono ?_
          rintro e w21 ⟨rfl, hb⟩
          replace r_a := Lib.hid (r_a.out.keep hb)
          replace r_b := Lib.hid (r_b.out.keep hb)
          replace r_c := Lib.hid (r_c.out.keep hb)
          replace r_s := Lib.hid (r_s.out.keep hb)
          replace r_l := Lib.hid (r_l.out.keep hb)
          replace r_p := Lib.hid (r_p.out.keep hb)
          replace r_q := Lib.hid (r_q.out.keep hb)
          replace r_u := Lib.hid (r_u.out.keep hb)
          replace r_v := Lib.hid (r_v.out.keep hb)
          replace BB := Lib.hid (below_next BB.out hb)
          clear hb
          go_wp2_with fail
          go_ret
          exact ⟨rfl, BB.out⟩

end Go.Proofs.Ytalihekeipbafaa
