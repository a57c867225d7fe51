/- Contract of an axis' beginning; what an axis holds, how it goes on. -/
import Derived.Test.YtbldgbenlmjmjaaDda0
set_option linter.unusedVariables false
set_option linter.unusedSimpArgs false
namespace Go.Proofs.Ytbldgbenlmjmjaa
open Go.RowKit
abbrev XT : TypeId := 103
abbrev WK : TypeId := 107
theorem reads15 {w : World} {g : Nat} {v0 v1 v2 v3 v4 v5 v6 v7 v8 v9 v10 v11 v12 v13 v14 : Value} {T : TypeId} (h : AtB w g #[v0, v1, v2, v3, v4, v5, v6, v7, v8, v9, v10, v11, v12, v13, v14] T) : w.cell? ⟨g, 0, none⟩ = some v0 ∧ w.cell? ⟨g, 1, none⟩ = some v1 ∧ w.cell? ⟨g, 2, none⟩ = some v2 ∧ w.cell? ⟨g, 3, none⟩ = some v3 ∧ w.cell? ⟨g, 4, none⟩ = some v4 ∧ w.cell? ⟨g, 5, none⟩ = some v5 ∧ w.cell? ⟨g, 6, none⟩ = some v6 ∧ w.cell? ⟨g, 7, none⟩ = some v7 ∧ w.cell? ⟨g, 8, none⟩ = some v8 ∧ w.cell? ⟨g, 9, none⟩ = some v9 ∧ w.cell? ⟨g, 10, none⟩ = some v10 ∧ w.cell? ⟨g, 11, none⟩ = some v11 ∧ w.cell? ⟨g, 12, none⟩ = some v12 ∧ w.cell? ⟨g, 13, none⟩ = some v13 ∧ w.cell? ⟨g, 14, none⟩ = some v14 ∧ w.frozen? ⟨g, 0, none⟩ = false ∧ w.frozen? ⟨g, 1, none⟩ = false ∧ w.frozen? ⟨g, 2, none⟩ = false ∧ w.frozen? ⟨g, 3, none⟩ = false ∧ w.frozen? ⟨g, 4, none⟩ = false ∧ w.frozen? ⟨g, 5, none⟩ = false ∧ w.frozen? ⟨g, 6, none⟩ = false ∧ w.frozen? ⟨g, 7, none⟩ = false ∧ w.frozen? ⟨g, 8, none⟩ = false ∧ w.frozen? ⟨g, 9, none⟩ = false ∧ w.frozen? ⟨g, 10, none⟩ = false ∧ w.frozen? ⟨g, 11, none⟩ = false ∧ w.frozen? ⟨g, 12, none⟩ = false ∧ w.frozen? ⟨g, 13, none⟩ = false ∧ w.frozen? ⟨g, 14, none⟩ = false := ⟨h.cell 0 rfl, h.cell 1 rfl, h.cell 2 rfl, h.cell 3 rfl, h.cell 4 rfl, h.cell 5 rfl, h.cell 6 rfl, h.cell 7 rfl, h.cell 8 rfl, h.cell 9 rfl, h.cell 10 rfl, h.cell 11 rfl, h.cell 12 rfl, h.cell 13 rfl, h.cell 14 rfl, h.fr 0, h.fr 1, h.fr 2, h.fr 3, h.fr 4, h.fr 5, h.fr 6, h.fr 7, h.fr 8, h.fr 9, h.fr 10, h.fr 11, h.fr 12, h.fr 13, h.fr 14⟩
theorem cells15 {w : World} {g : Nat} {v0 v1 v2 v3 v4 v5 v6 v7 v8 v9 v10 v11 v12 v13 v14 : Value} {T : TypeId} (h : AtB w g #[v0, v1, v2, v3, v4, v5, v6, v7, v8, v9, v10, v11, v12, v13, v14] T) : w.cell? ⟨g, 0, none⟩ = some v0 ∧ w.cell? ⟨g, 1, none⟩ = some v1 ∧ w.cell? ⟨g, 2, none⟩ = some v2 ∧ w.cell? ⟨g, 3, none⟩ = some v3 ∧ w.cell? ⟨g, 4, none⟩ = some v4 ∧ w.cell? ⟨g, 5, none⟩ = some v5 ∧ w.cell? ⟨g, 6, none⟩ = some v6 ∧ w.cell? ⟨g, 7, none⟩ = some v7 ∧ w.cell? ⟨g, 8, none⟩ = some v8 ∧ w.cell? ⟨g, 9, none⟩ = some v9 ∧ w.cell? ⟨g, 10, none⟩ = some v10 ∧ w.cell? ⟨g, 11, none⟩ = some v11 ∧ w.cell? ⟨g, 12, none⟩ = some v12 ∧ w.cell? ⟨g, 13, none⟩ = some v13 ∧ w.cell? ⟨g, 14, none⟩ = some v14 := ⟨h.cell 0 rfl, h.cell 1 rfl, h.cell 2 rfl, h.cell 3 rfl, h.cell 4 rfl, h.cell 5 rfl, h.cell 6 rfl, h.cell 7 rfl, h.cell 8 rfl, h.cell 9 rfl, h.cell 10 rfl, h.cell 11 rfl, h.cell 12 rfl, h.cell 13 rfl, h.cell 14 rfl⟩
abbrev axCells (qh ql sh sl left more by_ : Int) : Array Value := #[.int .i64 qh, .int .u64 ql, .int .i64 sh, .int .u64 sl, .int .i64 left, .int .i64 more, .int .i64 by_]
/-- An axis that stands at F and grows by G, both over B. -/
structure AX (F G B qh ql sh sl left more : Int) : Prop where
  q : W128 ((F * 65536).fdiv B) qh ql
  s : W128 ((G * 65536).fdiv B) sh sl
  l : left = (F * 65536).fmod B
  m : more = (G * 65536).fmod B
def GiveAx (F G B : Int) (w : World) (e : Ending) (w' : World) : Prop := ∃ qh ql sh sl left more, e = .returned (.agg (axCells qh ql sh sl left more B)) ∧ Below w.heap.size w w' ∧ AX F G B qh ql sh sl left more
theorem QW.of_room {z b hi lo r : Int} {ok : Bool} (h : QW z b hi lo r ok) (hb : b ≠ 0) (hz : I128 (z.fdiv b)) : W128 (z.fdiv b) hi lo ∧ r = z.fmod b := by
  rcases h with ⟨-, -, -, h1, h2⟩ | ⟨h1, -⟩
  · exact ⟨h1, h2⟩
  · rcases h1 with h1 | h1
    · exact absurd h1 hb
    · exact absurd hz h1
theorem fmod_in {z b : Int} (hb : 0 < b) : 0 ≤ z.fmod b ∧ z.fmod b < b := by
  have := fmod_bounds (a := z) (show b ≠ 0 by omega); omega
/-- The quotient of what is far from any bound has room. -/
theorem fdiv_room' {z b : Int} (hb : 0 < b) (h : -1267650600228229401496703205376 ≤ z ∧ z ≤ 1267650600228229401496703205376) : -1267650600228229401496703205376 ≤ z.fdiv b ∧ z.fdiv b ≤ 1267650600228229401496703205376 := by
  have h1 := fdiv_spec z b
  have h2 := fmod_in (z := z) hb
  generalize z.fdiv b = q at *
  generalize z.fmod b = r at *
  constructor
  · by_cases hq : 0 ≤ q
    · omega
    · have : b * (q + 1) ≤ 1 * (q + 1) := Int.mul_le_mul_of_nonpos_right (by omega) (by omega)
      rw [Int.mul_add, Int.mul_one] at this; omega
  · by_cases hq : q ≤ 0
    · omega
    · have : 1 * q ≤ b * q := Int.mul_le_mul_of_nonneg_right (by omega) (by omega)
      omega
/-- A step: quotient and remainder of a sum out of those of what was added. -/
theorem fdiv_step {x y b : Int} (hb : 0 < b) :
    (x.fmod b + y.fmod b < b → (x + y).fdiv b = x.fdiv b + y.fdiv b ∧ (x + y).fmod b = x.fmod b + y.fmod b) ∧
    (¬ x.fmod b + y.fmod b < b → (x + y).fdiv b = x.fdiv b + y.fdiv b + 1 ∧ (x + y).fmod b = x.fmod b + y.fmod b - b) := by
  have h1 := fdiv_spec x b
  have h2 := fdiv_spec y b
  have h3 := fmod_in (z := x) hb
  have h4 := fmod_in (z := y) hb
  generalize x.fdiv b = q at *
  generalize x.fmod b = r at *
  generalize y.fdiv b = q' at *
  generalize y.fmod b = r' at *
  constructor
  · intro h
    exact fdiv_uniq (by omega) (by rw [Int.mul_add]; omega) (.inl ⟨by omega, by omega⟩)
  · intro h
    exact fdiv_uniq (by omega) (by rw [Int.mul_add, Int.mul_add]; omega) (.inl ⟨by omega, by omega⟩)
/-- Many steps at once. -/
theorem fdiv_steps {x y b n : Int} (hb : 0 < b) :
    (x + n * y).fdiv b = x.fdiv b + y.fdiv b * n + (y.fmod b * n + x.fmod b).fdiv b ∧ (x + n * y).fmod b = (y.fmod b * n + x.fmod b).fmod b := by
  have h1 := fdiv_spec x b
  have h2 := fdiv_spec y b
  have h3 := fdiv_spec (y.fmod b * n + x.fmod b) b
  have h4 := fmod_in (z := y.fmod b * n + x.fmod b) hb
  generalize x.fdiv b = q at *
  generalize x.fmod b = r at *
  generalize y.fdiv b = q' at *
  generalize y.fmod b = r' at *
  generalize (r' * n + r).fdiv b = k at *
  generalize (r' * n + r).fmod b = l at *
  refine fdiv_uniq (by omega) ?_ (.inl h4)
  subst h1 h2
  grind

set_option maxRecDepth 100000 in
set_option maxHeartbeats 8000000 in
theorem ddbegin_pos (F G B ah al : Int) (hF : W128 F ah al) (hG : I64 G) (hB : I64 B) (h0 : 0 < B) (r1 : I128 (F * 65536)) (r2 : I128 ((F * 65536).fdiv B)) (r3 : I128 ((G * 65536).fdiv B)) (w : World) :
    Calls Try.prog 62 #[wv ah al, .int .i64 G, .int .i64 B] w (GiveAx F G B w) := by
  have hn : decide (B < 0) = false := decide_eq_false (by omega)
  have CS := Lib.hid (fun w => wshl F ah al 16 (by omega) hF w)
  have CM := Lib.hid (fun w => wmul G 65536 hG ⟨by omega, by omega⟩ w)
  rw [show F * 2 ^ 16 = F * 65536 by rfl] at CS
  have CQ := Lib.hid (fun ah al hz w => qwide (F * 65536) ah al B hz hB w)
  have CP := Lib.hid (fun ah al hz w => qwide (G * 65536) ah al B hz hB w)
  have R := Lib.hid (And.intro r1 (And.intro r2 r3))
  have hb0 := Lib.hid (show B ≠ 0 by omega)
  clear hF hG hB h0 r1 r2 r3
  rw [show ((16 : Nat) : Int) = 16 from rfl] at CS
  go_enter Try.func62, Try.ntmps62
  go_wp2_with fail
  have BB := start3 w #[.int .i64 ah, .int .u64 al] WT #[.int .i64 0, .int .u64 0, .int .i64 0, .int .u64 0, .int .i64 0, .int .i64 0, .int .i64 0] XT #[.int .i64 0, .int .u64 0, .int .i64 0, .int .u64 0, .int .i64 0, .int .i64 0, .int .i64 B] XT
  obtain ⟨BB, hsz, r_f, r_res, r_a⟩ := BB
  generalize (((w.alloc (.cells #[.int .i64 ah, .int .u64 al] WT)).alloc (.cells #[.int .i64 0, .int .u64 0, .int .i64 0, .int .u64 0, .int .i64 0, .int .i64 0, .int .i64 0] XT)).alloc (.cells #[.int .i64 0, .int .u64 0, .int .i64 0, .int .u64 0, .int .i64 0, .int .i64 0, .int .i64 B] XT)) = w0 at *
  replace BB := Lib.hid BB
  replace r_f := Lib.hid r_f
  replace r_res := Lib.hid r_res
  replace r_a := Lib.hid r_a
  clear hsz
  refine (CS.out _).mono ?_
  rintro e w1 ⟨h1, l1, ok1, rfl, hb, hw1⟩
  replace r_f := Lib.hid (r_f.out.keep hb)
  replace r_res := Lib.hid (r_res.out.keep hb)
  replace r_a := Lib.hid (r_a.out.keep hb)
  replace BB := Lib.hid (below_next BB.out hb)
  clear hb
  replace hw1 := Lib.hid (hw1.of_room R.out.1)
  obtain ⟨c_f0, c_f1, f_f0, f_f1⟩ := reads2 r_f.out
  have l_f := r_f.out.lt
  go_wp2_with fail
  clear c_f0 c_f1 f_f0 f_f1 l_f
  replace r_f := Lib.hid (r_f.out.set2 (.int .i64 h1) (.int .u64 l1))
  replace r_res := Lib.hid (r_res.out.far2 (p := w.heap.size) (by omega) (.int .i64 h1) (.int .u64 l1))
  replace r_a := Lib.hid (r_a.out.far2 (p := w.heap.size) (by omega) (.int .i64 h1) (.int .u64 l1))
  replace BB := Lib.hid (below_far2 BB.out (p := w.heap.size) (by omega) (.int .i64 h1) (.int .u64 l1))
  generalize ((w1.setCell ⟨w.heap.size, 0, none⟩ (.int .i64 h1)).setCell ⟨w.heap.size, 1, none⟩ (.int .u64 l1)) = w2 at *
  refine (CQ.out _ _ hw1.out _).mono ?_
  rintro e w3 ⟨qh, ql, left, ok2, rfl, hb, hw2⟩
  replace r_f := Lib.hid (r_f.out.keep hb)
  replace r_res := Lib.hid (r_res.out.keep hb)
  replace r_a := Lib.hid (r_a.out.keep hb)
  replace BB := Lib.hid (below_next BB.out hb)
  clear hb
  replace hw2 := Lib.hid (hw2.of_room hb0.out R.out.2.1)
  obtain ⟨c_a0, c_a1, c_a2, c_a3, c_a4, c_a5, c_a6, f_a0, f_a1, f_a2, f_a3, f_a4, f_a5, f_a6⟩ := reads7 r_a.out
  have l_a := r_a.out.lt
  go_wp2_with fail
  clear c_a0 c_a1 c_a2 c_a3 c_a4 c_a5 c_a6 f_a0 f_a1 f_a2 f_a3 f_a4 f_a5 f_a6 l_a
  replace r_f := Lib.hid (((r_f.out.far (p := w.heap.size + 2) (by omega) 0 (.int .i64 qh)).far (p := w.heap.size + 2) (by omega) 1 (.int .u64 ql)).far (p := w.heap.size + 2) (by omega) 4 (.int .i64 left))
  replace r_res := Lib.hid (((r_res.out.far (p := w.heap.size + 2) (by omega) 0 (.int .i64 qh)).far (p := w.heap.size + 2) (by omega) 1 (.int .u64 ql)).far (p := w.heap.size + 2) (by omega) 4 (.int .i64 left))
  replace r_a := Lib.hid (show AtB (((w3.setCell ⟨w.heap.size + 2, 0, none⟩ (.int .i64 qh)).setCell ⟨w.heap.size + 2, 1, none⟩ (.int .u64 ql)).setCell ⟨w.heap.size + 2, 4, none⟩ (.int .i64 left)) (w.heap.size + 2) #[.int .i64 qh, .int .u64 ql, .int .i64 0, .int .u64 0, .int .i64 left, .int .i64 0, .int .i64 B] XT from by have k := (((r_a.out.set_n 0 (.int .i64 qh)).set_n 1 (.int .u64 ql)).set_n 4 (.int .i64 left)); simpa using k)
  replace BB := Lib.hid (below_set (below_set (below_set BB.out (b := w.heap.size + 2) (o := 0) (by omega) (.int .i64 qh)) (b := w.heap.size + 2) (o := 1) (by omega) (.int .u64 ql)) (b := w.heap.size + 2) (o := 4) (by omega) (.int .i64 left))
  generalize (((w3.setCell ⟨w.heap.size + 2, 0, none⟩ (.int .i64 qh)).setCell ⟨w.heap.size + 2, 1, none⟩ (.int .u64 ql)).setCell ⟨w.heap.size + 2, 4, none⟩ (.int .i64 left)) = w4 at *
  refine (CM.out _).mono ?_
  rintro e w5 ⟨h3, l3, rfl, hb, hw3⟩
  replace r_f := Lib.hid (r_f.out.keep hb)
  replace r_res := Lib.hid (r_res.out.keep hb)
  replace r_a := Lib.hid (r_a.out.keep hb)
  replace BB := Lib.hid (below_next BB.out hb)
  clear hb
  replace hw3 := Lib.hid hw3
  go_wp2_with fail
  refine (CP.out _ _ hw3.out _).mono ?_
  rintro e w6 ⟨sh, sl, more, ok4, rfl, hb, hw4⟩
  replace r_f := Lib.hid (r_f.out.keep hb)
  replace r_res := Lib.hid (r_res.out.keep hb)
  replace r_a := Lib.hid (r_a.out.keep hb)
  replace BB := Lib.hid (below_next BB.out hb)
  clear hb
  replace hw4 := Lib.hid (hw4.of_room hb0.out R.out.2.2)
  obtain ⟨c_a0, c_a1, c_a2, c_a3, c_a4, c_a5, c_a6, f_a0, f_a1, f_a2, f_a3, f_a4, f_a5, f_a6⟩ := reads7 r_a.out
  have l_a := r_a.out.lt
  go_upto_region 8 with fail
  clear c_a0 c_a1 c_a2 c_a3 c_a4 c_a5 c_a6 f_a0 f_a1 f_a2 f_a3 f_a4 f_a5 f_a6 l_a
  replace r_f := Lib.hid (((r_f.out.far (p := w.heap.size + 2) (by omega) 2 (.int .i64 sh)).far (p := w.heap.size + 2) (by omega) 3 (.int .u64 sl)).far (p := w.heap.size + 2) (by omega) 5 (.int .i64 more))
  replace r_res := Lib.hid (((r_res.out.far (p := w.heap.size + 2) (by omega) 2 (.int .i64 sh)).far (p := w.heap.size + 2) (by omega) 3 (.int .u64 sl)).far (p := w.heap.size + 2) (by omega) 5 (.int .i64 more))
  replace r_a := Lib.hid (show AtB (((w6.setCell ⟨w.heap.size + 2, 2, none⟩ (.int .i64 sh)).setCell ⟨w.heap.size + 2, 3, none⟩ (.int .u64 sl)).setCell ⟨w.heap.size + 2, 5, none⟩ (.int .i64 more)) (w.heap.size + 2) #[.int .i64 qh, .int .u64 ql, .int .i64 sh, .int .u64 sl, .int .i64 left, .int .i64 more, .int .i64 B] XT from by have k := (((r_a.out.set_n 2 (.int .i64 sh)).set_n 3 (.int .u64 sl)).set_n 5 (.int .i64 more)); simpa using k)
  replace BB := Lib.hid (below_set (below_set (below_set BB.out (b := w.heap.size + 2) (o := 2) (by omega) (.int .i64 sh)) (b := w.heap.size + 2) (o := 3) (by omega) (.int .u64 sl)) (b := w.heap.size + 2) (o := 5) (by omega) (.int .i64 more))
  generalize (((w6.setCell ⟨w.heap.size + 2, 2, none⟩ (.int .i64 sh)).setCell ⟨w.heap.size + 2, 3, none⟩ (.int .u64 sl)).setCell ⟨w.heap.size + 2, 5, none⟩ (.int .i64 more)) = w7 at *
  obtain ⟨c_a0, c_a1, c_a2, c_a3, c_a4, c_a5, c_a6, f_a0, f_a1, f_a2, f_a3, f_a4, f_a5, f_a6⟩ := reads7 r_a.out
  have l_a := r_a.out.lt
  obtain ⟨c_res0, c_res1, c_res2, c_res3, c_res4, c_res5, c_res6, f_res0, f_res1, f_res2, f_res3, f_res4, f_res5, f_res6⟩ := reads7 r_res.out
  have l_res := r_res.out.lt
  go_wp2_with fail
  clear c_a0 c_a1 c_a2 c_a3 c_a4 c_a5 c_a6 f_a0 f_a1 f_a2 f_a3 f_a4 f_a5 f_a6 l_a c_res0 c_res1 c_res2 c_res3 c_res4 c_res5 c_res6 f_res0 f_res1 f_res2 f_res3 f_res4 f_res5 f_res6 l_res
  replace r_f := Lib.hid (((((((r_f.out.far (p := w.heap.size + 1) (by omega) 0 (.int .i64 qh)).far (p := w.heap.size + 1) (by omega) 1 (.int .u64 ql)).far (p := w.heap.size + 1) (by omega) 2 (.int .i64 sh)).far (p := w.heap.size + 1) (by omega) 3 (.int .u64 sl)).far (p := w.heap.size + 1) (by omega) 4 (.int .i64 left)).far (p := w.heap.size + 1) (by omega) 5 (.int .i64 more)).far (p := w.heap.size + 1) (by omega) 6 (.int .i64 B))
  replace r_res := Lib.hid (show AtB (((((((w7.setCell ⟨w.heap.size + 1, 0, none⟩ (.int .i64 qh)).setCell ⟨w.heap.size + 1, 1, none⟩ (.int .u64 ql)).setCell ⟨w.heap.size + 1, 2, none⟩ (.int .i64 sh)).setCell ⟨w.heap.size + 1, 3, none⟩ (.int .u64 sl)).setCell ⟨w.heap.size + 1, 4, none⟩ (.int .i64 left)).setCell ⟨w.heap.size + 1, 5, none⟩ (.int .i64 more)).setCell ⟨w.heap.size + 1, 6, none⟩ (.int .i64 B)) (w.heap.size + 1) #[.int .i64 qh, .int .u64 ql, .int .i64 sh, .int .u64 sl, .int .i64 left, .int .i64 more, .int .i64 B] XT from by have k := (((((((r_res.out.set_n 0 (.int .i64 qh)).set_n 1 (.int .u64 ql)).set_n 2 (.int .i64 sh)).set_n 3 (.int .u64 sl)).set_n 4 (.int .i64 left)).set_n 5 (.int .i64 more)).set_n 6 (.int .i64 B)); simpa using k)
  replace r_a := Lib.hid (((((((r_a.out.far (p := w.heap.size + 1) (by omega) 0 (.int .i64 qh)).far (p := w.heap.size + 1) (by omega) 1 (.int .u64 ql)).far (p := w.heap.size + 1) (by omega) 2 (.int .i64 sh)).far (p := w.heap.size + 1) (by omega) 3 (.int .u64 sl)).far (p := w.heap.size + 1) (by omega) 4 (.int .i64 left)).far (p := w.heap.size + 1) (by omega) 5 (.int .i64 more)).far (p := w.heap.size + 1) (by omega) 6 (.int .i64 B))
  replace BB := Lib.hid (below_set (below_set (below_set (below_set (below_set (below_set (below_set BB.out (b := w.heap.size + 1) (o := 0) (by omega) (.int .i64 qh)) (b := w.heap.size + 1) (o := 1) (by omega) (.int .u64 ql)) (b := w.heap.size + 1) (o := 2) (by omega) (.int .i64 sh)) (b := w.heap.size + 1) (o := 3) (by omega) (.int .u64 sl)) (b := w.heap.size + 1) (o := 4) (by omega) (.int .i64 left)) (b := w.heap.size + 1) (o := 5) (by omega) (.int .i64 more)) (b := w.heap.size + 1) (o := 6) (by omega) (.int .i64 B))
  generalize (((((((w7.setCell ⟨w.heap.size + 1, 0, none⟩ (.int .i64 qh)).setCell ⟨w.heap.size + 1, 1, none⟩ (.int .u64 ql)).setCell ⟨w.heap.size + 1, 2, none⟩ (.int .i64 sh)).setCell ⟨w.heap.size + 1, 3, none⟩ (.int .u64 sl)).setCell ⟨w.heap.size + 1, 4, none⟩ (.int .i64 left)).setCell ⟨w.heap.size + 1, 5, none⟩ (.int .i64 more)).setCell ⟨w.heap.size + 1, 6, none⟩ (.int .i64 B)) = w8 at *
  obtain ⟨c_res0, c_res1, c_res2, c_res3, c_res4, c_res5, c_res6, f_res0, f_res1, f_res2, f_res3, f_res4, f_res5, f_res6⟩ := reads7 r_res.out
  have l_res := r_res.out.lt
  refine bodyPost_ret (v := .agg (axCells qh ql sh sl left more B)) (by unfold results; simp only [Try.results62]; go_simp) rfl ?_
  refine ⟨_, _, _, _, _, _, rfl, ?_, ⟨hw2.out.1, hw4.out.1, hw2.out.2, hw4.out.2⟩⟩
  exact BB.out

set_option maxRecDepth 100000 in
set_option maxHeartbeats 8000000 in
theorem ddbegin_neg_ (F G B F' G' B' ah al : Int) (eF : F' = -F) (eG : wrap64 (-G) = G') (eB : wrap64 (-B) = B') (hF : W128 F ah al) (hG : I64 G') (hB : I64 B') (h0 : B < 0) (h0' : B' ≠ 0) (r0 : I128 F') (r1 : I128 (F' * 65536)) (r2 : I128 ((F' * 65536).fdiv B')) (r3 : I128 ((G' * 65536).fdiv B')) (w : World) :
    Calls Try.prog 62 #[wv ah al, .int .i64 G, .int .i64 B] w (GiveAx F' G' B' w) := by
  have hn : decide (B < 0) = true := decide_eq_true h0
  have CN := Lib.hid (fun w => wneg F ah al hF w)
  rw [← eF] at CN
  have CS := Lib.hid (fun ah al hF w => wshl F' ah al 16 (by omega) hF w)
  have CM := Lib.hid (fun w => wmul G' 65536 hG ⟨by omega, by omega⟩ w)
  rw [show F' * 2 ^ 16 = F' * 65536 by rfl] at CS
  have CQ := Lib.hid (fun ah al hz w => qwide (F' * 65536) ah al B' hz hB w)
  have CP := Lib.hid (fun ah al hz w => qwide (G' * 65536) ah al B' hz hB w)
  have R := Lib.hid (And.intro r1 (And.intro r2 r3))
  have R0 := Lib.hid r0
  have hb0 := Lib.hid (show B' ≠ 0 from h0')
  clear hF hG hB h0 h0' r0 r1 r2 r3 eF
  rw [show ((16 : Nat) : Int) = 16 from rfl] at CS
  go_enter Try.func62, Try.ntmps62
  go_wp2_with fail
  have BB := start2 w #[.int .i64 ah, .int .u64 al] WT #[.int .i64 0, .int .u64 0, .int .i64 0, .int .u64 0, .int .i64 0, .int .i64 0, .int .i64 0] XT
  obtain ⟨BB, hsz, r_f, r_res⟩ := BB
  generalize ((w.alloc (.cells #[.int .i64 ah, .int .u64 al] WT)).alloc (.cells #[.int .i64 0, .int .u64 0, .int .i64 0, .int .u64 0, .int .i64 0, .int .i64 0, .int .i64 0] XT)) = w0 at *
  replace BB := Lib.hid BB
  replace r_f := Lib.hid r_f
  replace r_res := Lib.hid r_res
  clear hsz
  refine (CN.out _).mono ?_
  rintro e w1 ⟨nh, nl, okn, rfl, hb, hwn⟩
  replace r_f := Lib.hid (r_f.out.keep hb)
  replace r_res := Lib.hid (r_res.out.keep hb)
  replace BB := Lib.hid (below_next BB.out hb)
  clear hb
  replace hwn := Lib.hid (hwn.of_room R0.out)
  obtain ⟨c_f0, c_f1, f_f0, f_f1⟩ := reads2 r_f.out
  have l_f := r_f.out.lt
  go_upto_region 4 with fail
  clear c_f0 c_f1 f_f0 f_f1 l_f
  replace r_f := Lib.hid (r_f.out.set2 (.int .i64 nh) (.int .u64 nl))
  replace r_res := Lib.hid (r_res.out.far2 (p := w.heap.size) (by omega) (.int .i64 nh) (.int .u64 nl))
  replace BB := Lib.hid (below_far2 BB.out (p := w.heap.size) (by omega) (.int .i64 nh) (.int .u64 nl))
  generalize ((w1.setCell ⟨w.heap.size, 0, none⟩ (.int .i64 nh)).setCell ⟨w.heap.size, 1, none⟩ (.int .u64 nl)) = w2 at *
  obtain ⟨c_f0, c_f1, f_f0, f_f1⟩ := reads2 r_f.out
  have l_f := r_f.out.lt
  go_wp2_with fail
  clear c_f0 c_f1 f_f0 f_f1 l_f
  have d_a := Lib.hid (And.intro BB.out.size (And.intro r_f.out.lt (And.intro r_res.out.lt (True.intro))))
  obtain ⟨hb, r_a⟩ := laid w2 #[.int .i64 0, .int .u64 0, .int .i64 0, .int .u64 0, .int .i64 0, .int .i64 0, .int .i64 B'] XT
  replace r_f := Lib.hid (r_f.out.keep hb)
  replace r_res := Lib.hid (r_res.out.keep hb)
  replace BB := Lib.hid (below_next BB.out hb)
  replace r_a := Lib.hid r_a
  clear hb
  generalize w2.alloc (.cells #[.int .i64 0, .int .u64 0, .int .i64 0, .int .u64 0, .int .i64 0, .int .i64 0, .int .i64 B'] XT) = w3 at *
  generalize w2.heap.size = g_a at *
  replace CS := Lib.hid (fun w => CS.out _ _ hwn.out w)
  refine (CS.out _).mono ?_
  rintro e w4 ⟨h1, l1, ok1, rfl, hb, hw1⟩
  replace r_f := Lib.hid (r_f.out.keep hb)
  replace r_res := Lib.hid (r_res.out.keep hb)
  replace r_a := Lib.hid (r_a.out.keep hb)
  replace BB := Lib.hid (below_next BB.out hb)
  clear hb
  replace hw1 := Lib.hid (hw1.of_room R.out.1)
  obtain ⟨c_f0, c_f1, f_f0, f_f1⟩ := reads2 r_f.out
  have l_f := r_f.out.lt
  go_wp2_with fail
  clear c_f0 c_f1 f_f0 f_f1 l_f
  replace r_f := Lib.hid (r_f.out.set2 (.int .i64 h1) (.int .u64 l1))
  replace r_res := Lib.hid (r_res.out.far2 (p := w.heap.size) (by omega) (.int .i64 h1) (.int .u64 l1))
  replace r_a := Lib.hid (r_a.out.far2 (p := w.heap.size) (by have dd_a := d_a.out; omega) (.int .i64 h1) (.int .u64 l1))
  replace BB := Lib.hid (below_far2 BB.out (p := w.heap.size) (by omega) (.int .i64 h1) (.int .u64 l1))
  generalize ((w4.setCell ⟨w.heap.size, 0, none⟩ (.int .i64 h1)).setCell ⟨w.heap.size, 1, none⟩ (.int .u64 l1)) = w5 at *
  refine (CQ.out _ _ hw1.out _).mono ?_
  rintro e w6 ⟨qh, ql, left, ok2, rfl, hb, hw2⟩
  replace r_f := Lib.hid (r_f.out.keep hb)
  replace r_res := Lib.hid (r_res.out.keep hb)
  replace r_a := Lib.hid (r_a.out.keep hb)
  replace BB := Lib.hid (below_next BB.out hb)
  clear hb
  replace hw2 := Lib.hid (hw2.of_room hb0.out R.out.2.1)
  obtain ⟨c_a0, c_a1, c_a2, c_a3, c_a4, c_a5, c_a6, f_a0, f_a1, f_a2, f_a3, f_a4, f_a5, f_a6⟩ := reads7 r_a.out
  have l_a := r_a.out.lt
  go_wp2_with fail
  clear c_a0 c_a1 c_a2 c_a3 c_a4 c_a5 c_a6 f_a0 f_a1 f_a2 f_a3 f_a4 f_a5 f_a6 l_a
  replace r_f := Lib.hid (((r_f.out.far (p := g_a) (by have dd_a := d_a.out; omega) 0 (.int .i64 qh)).far (p := g_a) (by have dd_a := d_a.out; omega) 1 (.int .u64 ql)).far (p := g_a) (by have dd_a := d_a.out; omega) 4 (.int .i64 left))
  replace r_res := Lib.hid (((r_res.out.far (p := g_a) (by have dd_a := d_a.out; omega) 0 (.int .i64 qh)).far (p := g_a) (by have dd_a := d_a.out; omega) 1 (.int .u64 ql)).far (p := g_a) (by have dd_a := d_a.out; omega) 4 (.int .i64 left))
  replace r_a := Lib.hid (show AtB (((w6.setCell ⟨g_a, 0, none⟩ (.int .i64 qh)).setCell ⟨g_a, 1, none⟩ (.int .u64 ql)).setCell ⟨g_a, 4, none⟩ (.int .i64 left)) (g_a) #[.int .i64 qh, .int .u64 ql, .int .i64 0, .int .u64 0, .int .i64 left, .int .i64 0, .int .i64 B'] XT from by have k := (((r_a.out.set_n 0 (.int .i64 qh)).set_n 1 (.int .u64 ql)).set_n 4 (.int .i64 left)); simpa using k)
  replace BB := Lib.hid (below_set (below_set (below_set BB.out (b := g_a) (o := 0) (by have dd := d_a.out; omega) (.int .i64 qh)) (b := g_a) (o := 1) (by have dd := d_a.out; omega) (.int .u64 ql)) (b := g_a) (o := 4) (by have dd := d_a.out; omega) (.int .i64 left))
  generalize (((w6.setCell ⟨g_a, 0, none⟩ (.int .i64 qh)).setCell ⟨g_a, 1, none⟩ (.int .u64 ql)).setCell ⟨g_a, 4, none⟩ (.int .i64 left)) = w7 at *
  refine (CM.out _).mono ?_
  rintro e w8 ⟨h3, l3, rfl, hb, hw3⟩
  replace r_f := Lib.hid (r_f.out.keep hb)
  replace r_res := Lib.hid (r_res.out.keep hb)
  replace r_a := Lib.hid (r_a.out.keep hb)
  replace BB := Lib.hid (below_next BB.out hb)
  clear hb
  replace hw3 := Lib.hid hw3
  go_wp2_with fail
  refine (CP.out _ _ hw3.out _).mono ?_
  rintro e w9 ⟨sh, sl, more, ok4, rfl, hb, hw4⟩
  replace r_f := Lib.hid (r_f.out.keep hb)
  replace r_res := Lib.hid (r_res.out.keep hb)
  replace r_a := Lib.hid (r_a.out.keep hb)
  replace BB := Lib.hid (below_next BB.out hb)
  clear hb
  replace hw4 := Lib.hid (hw4.of_room hb0.out R.out.2.2)
  obtain ⟨c_a0, c_a1, c_a2, c_a3, c_a4, c_a5, c_a6, f_a0, f_a1, f_a2, f_a3, f_a4, f_a5, f_a6⟩ := reads7 r_a.out
  have l_a := r_a.out.lt
  go_upto_region 8 with fail
  clear c_a0 c_a1 c_a2 c_a3 c_a4 c_a5 c_a6 f_a0 f_a1 f_a2 f_a3 f_a4 f_a5 f_a6 l_a
  replace r_f := Lib.hid (((r_f.out.far (p := g_a) (by have dd_a := d_a.out; omega) 2 (.int .i64 sh)).far (p := g_a) (by have dd_a := d_a.out; omega) 3 (.int .u64 sl)).far (p := g_a) (by have dd_a := d_a.out; omega) 5 (.int .i64 more))
  replace r_res := Lib.hid (((r_res.out.far (p := g_a) (by have dd_a := d_a.out; omega) 2 (.int .i64 sh)).far (p := g_a) (by have dd_a := d_a.out; omega) 3 (.int .u64 sl)).far (p := g_a) (by have dd_a := d_a.out; omega) 5 (.int .i64 more))
  replace r_a := Lib.hid (show AtB (((w9.setCell ⟨g_a, 2, none⟩ (.int .i64 sh)).setCell ⟨g_a, 3, none⟩ (.int .u64 sl)).setCell ⟨g_a, 5, none⟩ (.int .i64 more)) (g_a) #[.int .i64 qh, .int .u64 ql, .int .i64 sh, .int .u64 sl, .int .i64 left, .int .i64 more, .int .i64 B'] XT from by have k := (((r_a.out.set_n 2 (.int .i64 sh)).set_n 3 (.int .u64 sl)).set_n 5 (.int .i64 more)); simpa using k)
  replace BB := Lib.hid (below_set (below_set (below_set BB.out (b := g_a) (o := 2) (by have dd := d_a.out; omega) (.int .i64 sh)) (b := g_a) (o := 3) (by have dd := d_a.out; omega) (.int .u64 sl)) (b := g_a) (o := 5) (by have dd := d_a.out; omega) (.int .i64 more))
  generalize (((w9.setCell ⟨g_a, 2, none⟩ (.int .i64 sh)).setCell ⟨g_a, 3, none⟩ (.int .u64 sl)).setCell ⟨g_a, 5, none⟩ (.int .i64 more)) = w10 at *
  obtain ⟨c_a0, c_a1, c_a2, c_a3, c_a4, c_a5, c_a6, f_a0, f_a1, f_a2, f_a3, f_a4, f_a5, f_a6⟩ := reads7 r_a.out
  have l_a := r_a.out.lt
  obtain ⟨c_res0, c_res1, c_res2, c_res3, c_res4, c_res5, c_res6, f_res0, f_res1, f_res2, f_res3, f_res4, f_res5, f_res6⟩ := reads7 r_res.out
  have l_res := r_res.out.lt
  go_wp2_with fail
  clear c_a0 c_a1 c_a2 c_a3 c_a4 c_a5 c_a6 f_a0 f_a1 f_a2 f_a3 f_a4 f_a5 f_a6 l_a c_res0 c_res1 c_res2 c_res3 c_res4 c_res5 c_res6 f_res0 f_res1 f_res2 f_res3 f_res4 f_res5 f_res6 l_res
  replace r_f := Lib.hid (((((((r_f.out.far (p := w.heap.size + 1) (by omega) 0 (.int .i64 qh)).far (p := w.heap.size + 1) (by omega) 1 (.int .u64 ql)).far (p := w.heap.size + 1) (by omega) 2 (.int .i64 sh)).far (p := w.heap.size + 1) (by omega) 3 (.int .u64 sl)).far (p := w.heap.size + 1) (by omega) 4 (.int .i64 left)).far (p := w.heap.size + 1) (by omega) 5 (.int .i64 more)).far (p := w.heap.size + 1) (by omega) 6 (.int .i64 B'))
  replace r_res := Lib.hid (show AtB (((((((w10.setCell ⟨w.heap.size + 1, 0, none⟩ (.int .i64 qh)).setCell ⟨w.heap.size + 1, 1, none⟩ (.int .u64 ql)).setCell ⟨w.heap.size + 1, 2, none⟩ (.int .i64 sh)).setCell ⟨w.heap.size + 1, 3, none⟩ (.int .u64 sl)).setCell ⟨w.heap.size + 1, 4, none⟩ (.int .i64 left)).setCell ⟨w.heap.size + 1, 5, none⟩ (.int .i64 more)).setCell ⟨w.heap.size + 1, 6, none⟩ (.int .i64 B')) (w.heap.size + 1) #[.int .i64 qh, .int .u64 ql, .int .i64 sh, .int .u64 sl, .int .i64 left, .int .i64 more, .int .i64 B'] XT from by have k := (((((((r_res.out.set_n 0 (.int .i64 qh)).set_n 1 (.int .u64 ql)).set_n 2 (.int .i64 sh)).set_n 3 (.int .u64 sl)).set_n 4 (.int .i64 left)).set_n 5 (.int .i64 more)).set_n 6 (.int .i64 B')); simpa using k)
  replace r_a := Lib.hid (((((((r_a.out.far (p := w.heap.size + 1) (by have dd_a := d_a.out; omega) 0 (.int .i64 qh)).far (p := w.heap.size + 1) (by have dd_a := d_a.out; omega) 1 (.int .u64 ql)).far (p := w.heap.size + 1) (by have dd_a := d_a.out; omega) 2 (.int .i64 sh)).far (p := w.heap.size + 1) (by have dd_a := d_a.out; omega) 3 (.int .u64 sl)).far (p := w.heap.size + 1) (by have dd_a := d_a.out; omega) 4 (.int .i64 left)).far (p := w.heap.size + 1) (by have dd_a := d_a.out; omega) 5 (.int .i64 more)).far (p := w.heap.size + 1) (by have dd_a := d_a.out; omega) 6 (.int .i64 B'))
  replace BB := Lib.hid (below_set (below_set (below_set (below_set (below_set (below_set (below_set BB.out (b := w.heap.size + 1) (o := 0) (by omega) (.int .i64 qh)) (b := w.heap.size + 1) (o := 1) (by omega) (.int .u64 ql)) (b := w.heap.size + 1) (o := 2) (by omega) (.int .i64 sh)) (b := w.heap.size + 1) (o := 3) (by omega) (.int .u64 sl)) (b := w.heap.size + 1) (o := 4) (by omega) (.int .i64 left)) (b := w.heap.size + 1) (o := 5) (by omega) (.int .i64 more)) (b := w.heap.size + 1) (o := 6) (by omega) (.int .i64 B'))
  generalize (((((((w10.setCell ⟨w.heap.size + 1, 0, none⟩ (.int .i64 qh)).setCell ⟨w.heap.size + 1, 1, none⟩ (.int .u64 ql)).setCell ⟨w.heap.size + 1, 2, none⟩ (.int .i64 sh)).setCell ⟨w.heap.size + 1, 3, none⟩ (.int .u64 sl)).setCell ⟨w.heap.size + 1, 4, none⟩ (.int .i64 left)).setCell ⟨w.heap.size + 1, 5, none⟩ (.int .i64 more)).setCell ⟨w.heap.size + 1, 6, none⟩ (.int .i64 B')) = w11 at *
  obtain ⟨c_res0, c_res1, c_res2, c_res3, c_res4, c_res5, c_res6, f_res0, f_res1, f_res2, f_res3, f_res4, f_res5, f_res6⟩ := reads7 r_res.out
  have l_res := r_res.out.lt
  refine bodyPost_ret (v := .agg (axCells qh ql sh sl left more B')) (by unfold results; simp only [Try.results62]; go_simp) rfl ?_
  refine ⟨_, _, _, _, _, _, rfl, ?_, ⟨hw2.out.1, hw4.out.1, hw2.out.2, hw4.out.2⟩⟩
  exact BB.out

end Go.Proofs.Ytbldgbenlmjmjaa
