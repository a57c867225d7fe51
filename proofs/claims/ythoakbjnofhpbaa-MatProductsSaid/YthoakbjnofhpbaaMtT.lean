/- Contracts of mat: Turn, Unit, Adj, Det. -/
import Derived.Test.YthoakbjnofhpbaaMt0
set_option linter.unusedVariables false
set_option linter.unusedSimpArgs false
namespace Go.Proofs.Ythoakbjnofhpbaa
open Go.RowKit
theorem AtB.set_n {w : World} {g : Nat} {cs : Array Value} {T : TypeId} (h : AtB w g cs T) (o : Nat) (u : Value) : AtB (w.setCell ⟨g, o, none⟩ u) g (cs.setIfInBounds o u) T := heap_set h.heap u (o := o)
theorem reads18 {w : World} {g : Nat} {v0 v1 v2 v3 v4 v5 v6 v7 v8 v9 v10 v11 v12 v13 v14 v15 v16 v17 : Value} {T : TypeId} (h : AtB w g #[v0, v1, v2, v3, v4, v5, v6, v7, v8, v9, v10, v11, v12, v13, v14, v15, v16, v17] T) : w.cell? ⟨g, 0, none⟩ = some v0 ∧ w.cell? ⟨g, 1, none⟩ = some v1 ∧ w.cell? ⟨g, 2, none⟩ = some v2 ∧ w.cell? ⟨g, 3, none⟩ = some v3 ∧ w.cell? ⟨g, 4, none⟩ = some v4 ∧ w.cell? ⟨g, 5, none⟩ = some v5 ∧ w.cell? ⟨g, 6, none⟩ = some v6 ∧ w.cell? ⟨g, 7, none⟩ = some v7 ∧ w.cell? ⟨g, 8, none⟩ = some v8 ∧ w.cell? ⟨g, 9, none⟩ = some v9 ∧ w.cell? ⟨g, 10, none⟩ = some v10 ∧ w.cell? ⟨g, 11, none⟩ = some v11 ∧ w.cell? ⟨g, 12, none⟩ = some v12 ∧ w.cell? ⟨g, 13, none⟩ = some v13 ∧ w.cell? ⟨g, 14, none⟩ = some v14 ∧ w.cell? ⟨g, 15, none⟩ = some v15 ∧ w.cell? ⟨g, 16, none⟩ = some v16 ∧ w.cell? ⟨g, 17, none⟩ = some v17 ∧ w.frozen? ⟨g, 0, none⟩ = false ∧ w.frozen? ⟨g, 1, none⟩ = false ∧ w.frozen? ⟨g, 2, none⟩ = false ∧ w.frozen? ⟨g, 3, none⟩ = false ∧ w.frozen? ⟨g, 4, none⟩ = false ∧ w.frozen? ⟨g, 5, none⟩ = false ∧ w.frozen? ⟨g, 6, none⟩ = false ∧ w.frozen? ⟨g, 7, none⟩ = false ∧ w.frozen? ⟨g, 8, none⟩ = false ∧ w.frozen? ⟨g, 9, none⟩ = false ∧ w.frozen? ⟨g, 10, none⟩ = false ∧ w.frozen? ⟨g, 11, none⟩ = false ∧ w.frozen? ⟨g, 12, none⟩ = false ∧ w.frozen? ⟨g, 13, none⟩ = false ∧ w.frozen? ⟨g, 14, none⟩ = false ∧ w.frozen? ⟨g, 15, none⟩ = false ∧ w.frozen? ⟨g, 16, none⟩ = false ∧ w.frozen? ⟨g, 17, none⟩ = false :=
  ⟨h.cell 0 rfl, h.cell 1 rfl, h.cell 2 rfl, h.cell 3 rfl, h.cell 4 rfl, h.cell 5 rfl, h.cell 6 rfl, h.cell 7 rfl, h.cell 8 rfl, h.cell 9 rfl, h.cell 10 rfl, h.cell 11 rfl, h.cell 12 rfl, h.cell 13 rfl, h.cell 14 rfl, h.cell 15 rfl, h.cell 16 rfl, h.cell 17 rfl, h.fr 0, h.fr 1, h.fr 2, h.fr 3, h.fr 4, h.fr 5, h.fr 6, h.fr 7, h.fr 8, h.fr 9, h.fr 10, h.fr 11, h.fr 12, h.fr 13, h.fr 14, h.fr 15, h.fr 16, h.fr 17⟩
theorem cells18 {w : World} {g : Nat} {v0 v1 v2 v3 v4 v5 v6 v7 v8 v9 v10 v11 v12 v13 v14 v15 v16 v17 : Value} {T : TypeId} (h : AtB w g #[v0, v1, v2, v3, v4, v5, v6, v7, v8, v9, v10, v11, v12, v13, v14, v15, v16, v17] T) : w.cell? ⟨g, 0, none⟩ = some v0 ∧ w.cell? ⟨g, 1, none⟩ = some v1 ∧ w.cell? ⟨g, 2, none⟩ = some v2 ∧ w.cell? ⟨g, 3, none⟩ = some v3 ∧ w.cell? ⟨g, 4, none⟩ = some v4 ∧ w.cell? ⟨g, 5, none⟩ = some v5 ∧ w.cell? ⟨g, 6, none⟩ = some v6 ∧ w.cell? ⟨g, 7, none⟩ = some v7 ∧ w.cell? ⟨g, 8, none⟩ = some v8 ∧ w.cell? ⟨g, 9, none⟩ = some v9 ∧ w.cell? ⟨g, 10, none⟩ = some v10 ∧ w.cell? ⟨g, 11, none⟩ = some v11 ∧ w.cell? ⟨g, 12, none⟩ = some v12 ∧ w.cell? ⟨g, 13, none⟩ = some v13 ∧ w.cell? ⟨g, 14, none⟩ = some v14 ∧ w.cell? ⟨g, 15, none⟩ = some v15 ∧ w.cell? ⟨g, 16, none⟩ = some v16 ∧ w.cell? ⟨g, 17, none⟩ = some v17 :=
  ⟨h.cell 0 rfl, h.cell 1 rfl, h.cell 2 rfl, h.cell 3 rfl, h.cell 4 rfl, h.cell 5 rfl, h.cell 6 rfl, h.cell 7 rfl, h.cell 8 rfl, h.cell 9 rfl, h.cell 10 rfl, h.cell 11 rfl, h.cell 12 rfl, h.cell 13 rfl, h.cell 14 rfl, h.cell 15 rfl, h.cell 16 rfl, h.cell 17 rfl⟩
abbrev W9T : TypeId := 63
set_option maxRecDepth 100000 in
set_option maxHeartbeats 8000000 in
theorem mturn (m0 m1 m2 m3 m4 m5 m6 m7 m8 : Int) (w : World) : Calls Try.prog 33 #[.agg #[.int .i64 m0, .int .i64 m1, .int .i64 m2, .int .i64 m3, .int .i64 m4, .int .i64 m5, .int .i64 m6, .int .i64 m7, .int .i64 m8]] w fun e w' => e = .returned (.agg #[.int .i64 m0, .int .i64 m3, .int .i64 m6, .int .i64 m1, .int .i64 m4, .int .i64 m7, .int .i64 m2, .int .i64 m5, .int .i64 m8]) ∧ Below w.heap.size w w' := by
  have A0 : Hid (∀ w, Calls Try.prog 92 #[.agg #[.int .i64 m0, .int .i64 m1, .int .i64 m2, .int .i64 m3, .int .i64 m4, .int .i64 m5, .int .i64 m6, .int .i64 m7, .int .i64 m8], .int .i64 0, .int .i64 0] w (fun e w' => e = .returned (.int .i64 m0) ∧ Below w.heap.size w w')) := fun w => mat_at m0 m1 m2 m3 m4 m5 m6 m7 m8 0 0 (by omega) (by omega) w
  have A1 : Hid (∀ w, Calls Try.prog 92 #[.agg #[.int .i64 m0, .int .i64 m1, .int .i64 m2, .int .i64 m3, .int .i64 m4, .int .i64 m5, .int .i64 m6, .int .i64 m7, .int .i64 m8], .int .i64 1, .int .i64 0] w (fun e w' => e = .returned (.int .i64 m3) ∧ Below w.heap.size w w')) := fun w => mat_at m0 m1 m2 m3 m4 m5 m6 m7 m8 1 0 (by omega) (by omega) w
  have A2 : Hid (∀ w, Calls Try.prog 92 #[.agg #[.int .i64 m0, .int .i64 m1, .int .i64 m2, .int .i64 m3, .int .i64 m4, .int .i64 m5, .int .i64 m6, .int .i64 m7, .int .i64 m8], .int .i64 2, .int .i64 0] w (fun e w' => e = .returned (.int .i64 m6) ∧ Below w.heap.size w w')) := fun w => mat_at m0 m1 m2 m3 m4 m5 m6 m7 m8 2 0 (by omega) (by omega) w
  have A3 : Hid (∀ w, Calls Try.prog 92 #[.agg #[.int .i64 m0, .int .i64 m1, .int .i64 m2, .int .i64 m3, .int .i64 m4, .int .i64 m5, .int .i64 m6, .int .i64 m7, .int .i64 m8], .int .i64 0, .int .i64 1] w (fun e w' => e = .returned (.int .i64 m1) ∧ Below w.heap.size w w')) := fun w => mat_at m0 m1 m2 m3 m4 m5 m6 m7 m8 0 1 (by omega) (by omega) w
  have A4 : Hid (∀ w, Calls Try.prog 92 #[.agg #[.int .i64 m0, .int .i64 m1, .int .i64 m2, .int .i64 m3, .int .i64 m4, .int .i64 m5, .int .i64 m6, .int .i64 m7, .int .i64 m8], .int .i64 1, .int .i64 1] w (fun e w' => e = .returned (.int .i64 m4) ∧ Below w.heap.size w w')) := fun w => mat_at m0 m1 m2 m3 m4 m5 m6 m7 m8 1 1 (by omega) (by omega) w
  have A5 : Hid (∀ w, Calls Try.prog 92 #[.agg #[.int .i64 m0, .int .i64 m1, .int .i64 m2, .int .i64 m3, .int .i64 m4, .int .i64 m5, .int .i64 m6, .int .i64 m7, .int .i64 m8], .int .i64 2, .int .i64 1] w (fun e w' => e = .returned (.int .i64 m7) ∧ Below w.heap.size w w')) := fun w => mat_at m0 m1 m2 m3 m4 m5 m6 m7 m8 2 1 (by omega) (by omega) w
  have A6 : Hid (∀ w, Calls Try.prog 92 #[.agg #[.int .i64 m0, .int .i64 m1, .int .i64 m2, .int .i64 m3, .int .i64 m4, .int .i64 m5, .int .i64 m6, .int .i64 m7, .int .i64 m8], .int .i64 0, .int .i64 2] w (fun e w' => e = .returned (.int .i64 m2) ∧ Below w.heap.size w w')) := fun w => mat_at m0 m1 m2 m3 m4 m5 m6 m7 m8 0 2 (by omega) (by omega) w
  have A7 : Hid (∀ w, Calls Try.prog 92 #[.agg #[.int .i64 m0, .int .i64 m1, .int .i64 m2, .int .i64 m3, .int .i64 m4, .int .i64 m5, .int .i64 m6, .int .i64 m7, .int .i64 m8], .int .i64 1, .int .i64 2] w (fun e w' => e = .returned (.int .i64 m5) ∧ Below w.heap.size w w')) := fun w => mat_at m0 m1 m2 m3 m4 m5 m6 m7 m8 1 2 (by omega) (by omega) w
  have A8 : Hid (∀ w, Calls Try.prog 92 #[.agg #[.int .i64 m0, .int .i64 m1, .int .i64 m2, .int .i64 m3, .int .i64 m4, .int .i64 m5, .int .i64 m6, .int .i64 m7, .int .i64 m8], .int .i64 2, .int .i64 2] w (fun e w' => e = .returned (.int .i64 m8) ∧ Below w.heap.size w w')) := fun w => mat_at m0 m1 m2 m3 m4 m5 m6 m7 m8 2 2 (by omega) (by omega) w
  go_enter Try.func33, Try.ntmps33
  go_wp2_with fail
  have BB := start3 w #[.int .i64 m0, .int .i64 m1, .int .i64 m2, .int .i64 m3, .int .i64 m4, .int .i64 m5, .int .i64 m6, .int .i64 m7, .int .i64 m8] M9T #[.int .i64 0, .int .i64 0, .int .i64 0, .int .i64 0, .int .i64 0, .int .i64 0, .int .i64 0, .int .i64 0, .int .i64 0] M9T #[.int .i64 0, .int .i64 0, .int .i64 0, .int .i64 0, .int .i64 0, .int .i64 0, .int .i64 0, .int .i64 0, .int .i64 0] M9T
  obtain ⟨BB, hsz, r_a, r_res, r_t⟩ := BB
  generalize (((w.alloc (.cells #[.int .i64 m0, .int .i64 m1, .int .i64 m2, .int .i64 m3, .int .i64 m4, .int .i64 m5, .int .i64 m6, .int .i64 m7, .int .i64 m8] M9T)).alloc (.cells #[.int .i64 0, .int .i64 0, .int .i64 0, .int .i64 0, .int .i64 0, .int .i64 0, .int .i64 0, .int .i64 0, .int .i64 0] M9T)).alloc (.cells #[.int .i64 0, .int .i64 0, .int .i64 0, .int .i64 0, .int .i64 0, .int .i64 0, .int .i64 0, .int .i64 0, .int .i64 0] M9T)) = w0 at *
  replace BB := Lib.hid BB
  replace r_a := Lib.hid r_a
  replace r_res := Lib.hid r_res
  replace r_t := Lib.hid r_t
  clear hsz
  refine wp_loop_rounds 10 ?_
  rw [rounds_succ]
  obtain ⟨c_a0, c_a1, c_a2, c_a3, c_a4, c_a5, c_a6, c_a7, c_a8, f_a0, f_a1, f_a2, f_a3, f_a4, f_a5, f_a6, f_a7, f_a8⟩ := reads9 r_a.out
  have l_a := r_a.out.lt
  go_wp2_with fail
  refine (A0.out _).mono ?_
  rintro e w1 ⟨rfl, hb⟩
  clear c_a0 c_a1 c_a2 c_a3 c_a4 c_a5 c_a6 c_a7 c_a8 f_a0 f_a1 f_a2 f_a3 f_a4 f_a5 f_a6 f_a7 f_a8 l_a
  replace r_a := Lib.hid (r_a.out.keep hb)
  replace r_res := Lib.hid (r_res.out.keep hb)
  replace r_t := Lib.hid (r_t.out.keep hb)
  replace BB := Lib.hid (below_next BB.out hb)
  clear hb
  obtain ⟨c_t0, c_t1, c_t2, c_t3, c_t4, c_t5, c_t6, c_t7, c_t8, f_t0, f_t1, f_t2, f_t3, f_t4, f_t5, f_t6, f_t7, f_t8⟩ := reads9 r_t.out
  have l_t := r_t.out.lt
  go_wp2_with fail
  clear c_t0 c_t1 c_t2 c_t3 c_t4 c_t5 c_t6 c_t7 c_t8 f_t0 f_t1 f_t2 f_t3 f_t4 f_t5 f_t6 f_t7 f_t8 l_t
  replace r_a := Lib.hid (r_a.out.far (p := w.heap.size + 2) (by omega) 0 (.int .i64 m0))
  replace r_res := Lib.hid (r_res.out.far (p := w.heap.size + 2) (by omega) 0 (.int .i64 m0))
  replace r_t := Lib.hid (show AtB (w1.setCell ⟨w.heap.size + 2, 0, none⟩ (.int .i64 m0)) (w.heap.size + 2) #[.int .i64 m0, .int .i64 0, .int .i64 0, .int .i64 0, .int .i64 0, .int .i64 0, .int .i64 0, .int .i64 0, .int .i64 0] M9T from by have k := (r_t.out.set_n 0 (.int .i64 m0)); simpa using k)
  replace BB := Lib.hid (below_set BB.out (b := w.heap.size + 2) (o := 0) (by omega) (.int .i64 m0))
  generalize (w1.setCell ⟨w.heap.size + 2, 0, none⟩ (.int .i64 m0)) = w2 at *
  rw [rounds_succ]
  obtain ⟨c_a0, c_a1, c_a2, c_a3, c_a4, c_a5, c_a6, c_a7, c_a8, f_a0, f_a1, f_a2, f_a3, f_a4, f_a5, f_a6, f_a7, f_a8⟩ := reads9 r_a.out
  have l_a := r_a.out.lt
  go_wp2_with fail
  refine (A1.out _).mono ?_
  rintro e w3 ⟨rfl, hb⟩
  clear c_a0 c_a1 c_a2 c_a3 c_a4 c_a5 c_a6 c_a7 c_a8 f_a0 f_a1 f_a2 f_a3 f_a4 f_a5 f_a6 f_a7 f_a8 l_a
  replace r_a := Lib.hid (r_a.out.keep hb)
  replace r_res := Lib.hid (r_res.out.keep hb)
  replace r_t := Lib.hid (r_t.out.keep hb)
  replace BB := Lib.hid (below_next BB.out hb)
  clear hb
  obtain ⟨c_t0, c_t1, c_t2, c_t3, c_t4, c_t5, c_t6, c_t7, c_t8, f_t0, f_t1, f_t2, f_t3, f_t4, f_t5, f_t6, f_t7, f_t8⟩ := reads9 r_t.out
  have l_t := r_t.out.lt
  go_wp2_with fail
  clear c_t0 c_t1 c_t2 c_t3 c_t4 c_t5 c_t6 c_t7 c_t8 f_t0 f_t1 f_t2 f_t3 f_t4 f_t5 f_t6 f_t7 f_t8 l_t
  replace r_a := Lib.hid (r_a.out.far (p := w.heap.size + 2) (by omega) 1 (.int .i64 m3))
  replace r_res := Lib.hid (r_res.out.far (p := w.heap.size + 2) (by omega) 1 (.int .i64 m3))
  replace r_t := Lib.hid (show AtB (w3.setCell ⟨w.heap.size + 2, 1, none⟩ (.int .i64 m3)) (w.heap.size + 2) #[.int .i64 m0, .int .i64 m3, .int .i64 0, .int .i64 0, .int .i64 0, .int .i64 0, .int .i64 0, .int .i64 0, .int .i64 0] M9T from by have k := (r_t.out.set_n 1 (.int .i64 m3)); simpa using k)
  replace BB := Lib.hid (below_set BB.out (b := w.heap.size + 2) (o := 1) (by omega) (.int .i64 m3))
  generalize (w3.setCell ⟨w.heap.size + 2, 1, none⟩ (.int .i64 m3)) = w4 at *
  rw [rounds_succ]
  obtain ⟨c_a0, c_a1, c_a2, c_a3, c_a4, c_a5, c_a6, c_a7, c_a8, f_a0, f_a1, f_a2, f_a3, f_a4, f_a5, f_a6, f_a7, f_a8⟩ := reads9 r_a.out
  have l_a := r_a.out.lt
  go_wp2_with fail
  refine (A2.out _).mono ?_
  rintro e w5 ⟨rfl, hb⟩
  clear c_a0 c_a1 c_a2 c_a3 c_a4 c_a5 c_a6 c_a7 c_a8 f_a0 f_a1 f_a2 f_a3 f_a4 f_a5 f_a6 f_a7 f_a8 l_a
  replace r_a := Lib.hid (r_a.out.keep hb)
  replace r_res := Lib.hid (r_res.out.keep hb)
  replace r_t := Lib.hid (r_t.out.keep hb)
  replace BB := Lib.hid (below_next BB.out hb)
  clear hb
  obtain ⟨c_t0, c_t1, c_t2, c_t3, c_t4, c_t5, c_t6, c_t7, c_t8, f_t0, f_t1, f_t2, f_t3, f_t4, f_t5, f_t6, f_t7, f_t8⟩ := reads9 r_t.out
  have l_t := r_t.out.lt
  go_wp2_with fail
  clear c_t0 c_t1 c_t2 c_t3 c_t4 c_t5 c_t6 c_t7 c_t8 f_t0 f_t1 f_t2 f_t3 f_t4 f_t5 f_t6 f_t7 f_t8 l_t
  replace r_a := Lib.hid (r_a.out.far (p := w.heap.size + 2) (by omega) 2 (.int .i64 m6))
  replace r_res := Lib.hid (r_res.out.far (p := w.heap.size + 2) (by omega) 2 (.int .i64 m6))
  replace r_t := Lib.hid (show AtB (w5.setCell ⟨w.heap.size + 2, 2, none⟩ (.int .i64 m6)) (w.heap.size + 2) #[.int .i64 m0, .int .i64 m3, .int .i64 m6, .int .i64 0, .int .i64 0, .int .i64 0, .int .i64 0, .int .i64 0, .int .i64 0] M9T from by have k := (r_t.out.set_n 2 (.int .i64 m6)); simpa using k)
  replace BB := Lib.hid (below_set BB.out (b := w.heap.size + 2) (o := 2) (by omega) (.int .i64 m6))
  generalize (w5.setCell ⟨w.heap.size + 2, 2, none⟩ (.int .i64 m6)) = w6 at *
  rw [rounds_succ]
  obtain ⟨c_a0, c_a1, c_a2, c_a3, c_a4, c_a5, c_a6, c_a7, c_a8, f_a0, f_a1, f_a2, f_a3, f_a4, f_a5, f_a6, f_a7, f_a8⟩ := reads9 r_a.out
  have l_a := r_a.out.lt
  go_wp2_with fail
  refine (A3.out _).mono ?_
  rintro e w7 ⟨rfl, hb⟩
  clear c_a0 c_a1 c_a2 c_a3 c_a4 c_a5 c_a6 c_a7 c_a8 f_a0 f_a1 f_a2 f_a3 f_a4 f_a5 f_a6 f_a7 f_a8 l_a
  replace r_a := Lib.hid (r_a.out.keep hb)
  replace r_res := Lib.hid (r_res.out.keep hb)
  replace r_t := Lib.hid (r_t.out.keep hb)
  replace BB := Lib.hid (below_next BB.out hb)
  clear hb
  obtain ⟨c_t0, c_t1, c_t2, c_t3, c_t4, c_t5, c_t6, c_t7, c_t8, f_t0, f_t1, f_t2, f_t3, f_t4, f_t5, f_t6, f_t7, f_t8⟩ := reads9 r_t.out
  have l_t := r_t.out.lt
  go_wp2_with fail
  clear c_t0 c_t1 c_t2 c_t3 c_t4 c_t5 c_t6 c_t7 c_t8 f_t0 f_t1 f_t2 f_t3 f_t4 f_t5 f_t6 f_t7 f_t8 l_t
  replace r_a := Lib.hid (r_a.out.far (p := w.heap.size + 2) (by omega) 3 (.int .i64 m1))
  replace r_res := Lib.hid (r_res.out.far (p := w.heap.size + 2) (by omega) 3 (.int .i64 m1))
  replace r_t := Lib.hid (show AtB (w7.setCell ⟨w.heap.size + 2, 3, none⟩ (.int .i64 m1)) (w.heap.size + 2) #[.int .i64 m0, .int .i64 m3, .int .i64 m6, .int .i64 m1, .int .i64 0, .int .i64 0, .int .i64 0, .int .i64 0, .int .i64 0] M9T from by have k := (r_t.out.set_n 3 (.int .i64 m1)); simpa using k)
  replace BB := Lib.hid (below_set BB.out (b := w.heap.size + 2) (o := 3) (by omega) (.int .i64 m1))
  generalize (w7.setCell ⟨w.heap.size + 2, 3, none⟩ (.int .i64 m1)) = w8 at *
  rw [rounds_succ]
  obtain ⟨c_a0, c_a1, c_a2, c_a3, c_a4, c_a5, c_a6, c_a7, c_a8, f_a0, f_a1, f_a2, f_a3, f_a4, f_a5, f_a6, f_a7, f_a8⟩ := reads9 r_a.out
  have l_a := r_a.out.lt
  go_wp2_with fail
  refine (A4.out _).mono ?_
  rintro e w10 ⟨rfl, hb⟩
  clear c_a0 c_a1 c_a2 c_a3 c_a4 c_a5 c_a6 c_a7 c_a8 f_a0 f_a1 f_a2 f_a3 f_a4 f_a5 f_a6 f_a7 f_a8 l_a
  replace r_a := Lib.hid (r_a.out.keep hb)
  replace r_res := Lib.hid (r_res.out.keep hb)
  replace r_t := Lib.hid (r_t.out.keep hb)
  replace BB := Lib.hid (below_next BB.out hb)
  clear hb
  obtain ⟨c_t0, c_t1, c_t2, c_t3, c_t4, c_t5, c_t6, c_t7, c_t8, f_t0, f_t1, f_t2, f_t3, f_t4, f_t5, f_t6, f_t7, f_t8⟩ := reads9 r_t.out
  have l_t := r_t.out.lt
  go_wp2_with fail
  clear c_t0 c_t1 c_t2 c_t3 c_t4 c_t5 c_t6 c_t7 c_t8 f_t0 f_t1 f_t2 f_t3 f_t4 f_t5 f_t6 f_t7 f_t8 l_t
  replace r_a := Lib.hid (r_a.out.far (p := w.heap.size + 2) (by omega) 4 (.int .i64 m4))
  replace r_res := Lib.hid (r_res.out.far (p := w.heap.size + 2) (by omega) 4 (.int .i64 m4))
  replace r_t := Lib.hid (show AtB (w10.setCell ⟨w.heap.size + 2, 4, none⟩ (.int .i64 m4)) (w.heap.size + 2) #[.int .i64 m0, .int .i64 m3, .int .i64 m6, .int .i64 m1, .int .i64 m4, .int .i64 0, .int .i64 0, .int .i64 0, .int .i64 0] M9T from by have k := (r_t.out.set_n 4 (.int .i64 m4)); simpa using k)
  replace BB := Lib.hid (below_set BB.out (b := w.heap.size + 2) (o := 4) (by omega) (.int .i64 m4))
  generalize (w10.setCell ⟨w.heap.size + 2, 4, none⟩ (.int .i64 m4)) = w11 at *
  rw [rounds_succ]
  obtain ⟨c_a0, c_a1, c_a2, c_a3, c_a4, c_a5, c_a6, c_a7, c_a8, f_a0, f_a1, f_a2, f_a3, f_a4, f_a5, f_a6, f_a7, f_a8⟩ := reads9 r_a.out
  have l_a := r_a.out.lt
  go_wp2_with fail
  refine (A5.out _).mono ?_
  rintro e w12 ⟨rfl, hb⟩
  clear c_a0 c_a1 c_a2 c_a3 c_a4 c_a5 c_a6 c_a7 c_a8 f_a0 f_a1 f_a2 f_a3 f_a4 f_a5 f_a6 f_a7 f_a8 l_a
  replace r_a := Lib.hid (r_a.out.keep hb)
  replace r_res := Lib.hid (r_res.out.keep hb)
  replace r_t := Lib.hid (r_t.out.keep hb)
  replace BB := Lib.hid (below_next BB.out hb)
  clear hb
  obtain ⟨c_t0, c_t1, c_t2, c_t3, c_t4, c_t5, c_t6, c_t7, c_t8, f_t0, f_t1, f_t2, f_t3, f_t4, f_t5, f_t6, f_t7, f_t8⟩ := reads9 r_t.out
  have l_t := r_t.out.lt
  go_wp2_with fail
  clear c_t0 c_t1 c_t2 c_t3 c_t4 c_t5 c_t6 c_t7 c_t8 f_t0 f_t1 f_t2 f_t3 f_t4 f_t5 f_t6 f_t7 f_t8 l_t
  replace r_a := Lib.hid (r_a.out.far (p := w.heap.size + 2) (by omega) 5 (.int .i64 m7))
  replace r_res := Lib.hid (r_res.out.far (p := w.heap.size + 2) (by omega) 5 (.int .i64 m7))
  replace r_t := Lib.hid (show AtB (w12.setCell ⟨w.heap.size + 2, 5, none⟩ (.int .i64 m7)) (w.heap.size + 2) #[.int .i64 m0, .int .i64 m3, .int .i64 m6, .int .i64 m1, .int .i64 m4, .int .i64 m7, .int .i64 0, .int .i64 0, .int .i64 0] M9T from by have k := (r_t.out.set_n 5 (.int .i64 m7)); simpa using k)
  replace BB := Lib.hid (below_set BB.out (b := w.heap.size + 2) (o := 5) (by omega) (.int .i64 m7))
  generalize (w12.setCell ⟨w.heap.size + 2, 5, none⟩ (.int .i64 m7)) = w13 at *
  rw [rounds_succ]
  obtain ⟨c_a0, c_a1, c_a2, c_a3, c_a4, c_a5, c_a6, c_a7, c_a8, f_a0, f_a1, f_a2, f_a3, f_a4, f_a5, f_a6, f_a7, f_a8⟩ := reads9 r_a.out
  have l_a := r_a.out.lt
  go_wp2_with fail
  refine (A6.out _).mono ?_
  rintro e w14 ⟨rfl, hb⟩
  clear c_a0 c_a1 c_a2 c_a3 c_a4 c_a5 c_a6 c_a7 c_a8 f_a0 f_a1 f_a2 f_a3 f_a4 f_a5 f_a6 f_a7 f_a8 l_a
  replace r_a := Lib.hid (r_a.out.keep hb)
  replace r_res := Lib.hid (r_res.out.keep hb)
  replace r_t := Lib.hid (r_t.out.keep hb)
  replace BB := Lib.hid (below_next BB.out hb)
  clear hb
  obtain ⟨c_t0, c_t1, c_t2, c_t3, c_t4, c_t5, c_t6, c_t7, c_t8, f_t0, f_t1, f_t2, f_t3, f_t4, f_t5, f_t6, f_t7, f_t8⟩ := reads9 r_t.out
  have l_t := r_t.out.lt
  go_wp2_with fail
  clear c_t0 c_t1 c_t2 c_t3 c_t4 c_t5 c_t6 c_t7 c_t8 f_t0 f_t1 f_t2 f_t3 f_t4 f_t5 f_t6 f_t7 f_t8 l_t
  replace r_a := Lib.hid (r_a.out.far (p := w.heap.size + 2) (by omega) 6 (.int .i64 m2))
  replace r_res := Lib.hid (r_res.out.far (p := w.heap.size + 2) (by omega) 6 (.int .i64 m2))
  replace r_t := Lib.hid (show AtB (w14.setCell ⟨w.heap.size + 2, 6, none⟩ (.int .i64 m2)) (w.heap.size + 2) #[.int .i64 m0, .int .i64 m3, .int .i64 m6, .int .i64 m1, .int .i64 m4, .int .i64 m7, .int .i64 m2, .int .i64 0, .int .i64 0] M9T from by have k := (r_t.out.set_n 6 (.int .i64 m2)); simpa using k)
  replace BB := Lib.hid (below_set BB.out (b := w.heap.size + 2) (o := 6) (by omega) (.int .i64 m2))
  generalize (w14.setCell ⟨w.heap.size + 2, 6, none⟩ (.int .i64 m2)) = w15 at *
  rw [rounds_succ]
  obtain ⟨c_a0, c_a1, c_a2, c_a3, c_a4, c_a5, c_a6, c_a7, c_a8, f_a0, f_a1, f_a2, f_a3, f_a4, f_a5, f_a6, f_a7, f_a8⟩ := reads9 r_a.out
  have l_a := r_a.out.lt
  go_wp2_with fail
  refine (A7.out _).mono ?_
  rintro e w16 ⟨rfl, hb⟩
  clear c_a0 c_a1 c_a2 c_a3 c_a4 c_a5 c_a6 c_a7 c_a8 f_a0 f_a1 f_a2 f_a3 f_a4 f_a5 f_a6 f_a7 f_a8 l_a
  replace r_a := Lib.hid (r_a.out.keep hb)
  replace r_res := Lib.hid (r_res.out.keep hb)
  replace r_t := Lib.hid (r_t.out.keep hb)
  replace BB := Lib.hid (below_next BB.out hb)
  clear hb
  obtain ⟨c_t0, c_t1, c_t2, c_t3, c_t4, c_t5, c_t6, c_t7, c_t8, f_t0, f_t1, f_t2, f_t3, f_t4, f_t5, f_t6, f_t7, f_t8⟩ := reads9 r_t.out
  have l_t := r_t.out.lt
  go_wp2_with fail
  clear c_t0 c_t1 c_t2 c_t3 c_t4 c_t5 c_t6 c_t7 c_t8 f_t0 f_t1 f_t2 f_t3 f_t4 f_t5 f_t6 f_t7 f_t8 l_t
  replace r_a := Lib.hid (r_a.out.far (p := w.heap.size + 2) (by omega) 7 (.int .i64 m5))
  replace r_res := Lib.hid (r_res.out.far (p := w.heap.size + 2) (by omega) 7 (.int .i64 m5))
  replace r_t := Lib.hid (show AtB (w16.setCell ⟨w.heap.size + 2, 7, none⟩ (.int .i64 m5)) (w.heap.size + 2) #[.int .i64 m0, .int .i64 m3, .int .i64 m6, .int .i64 m1, .int .i64 m4, .int .i64 m7, .int .i64 m2, .int .i64 m5, .int .i64 0] M9T from by have k := (r_t.out.set_n 7 (.int .i64 m5)); simpa using k)
  replace BB := Lib.hid (below_set BB.out (b := w.heap.size + 2) (o := 7) (by omega) (.int .i64 m5))
  generalize (w16.setCell ⟨w.heap.size + 2, 7, none⟩ (.int .i64 m5)) = w17 at *
  rw [rounds_succ]
  obtain ⟨c_a0, c_a1, c_a2, c_a3, c_a4, c_a5, c_a6, c_a7, c_a8, f_a0, f_a1, f_a2, f_a3, f_a4, f_a5, f_a6, f_a7, f_a8⟩ := reads9 r_a.out
  have l_a := r_a.out.lt
  go_wp2_with fail
  refine (A8.out _).mono ?_
  rintro e w18 ⟨rfl, hb⟩
  clear c_a0 c_a1 c_a2 c_a3 c_a4 c_a5 c_a6 c_a7 c_a8 f_a0 f_a1 f_a2 f_a3 f_a4 f_a5 f_a6 f_a7 f_a8 l_a
  replace r_a := Lib.hid (r_a.out.keep hb)
  replace r_res := Lib.hid (r_res.out.keep hb)
  replace r_t := Lib.hid (r_t.out.keep hb)
  replace BB := Lib.hid (below_next BB.out hb)
  clear hb
  obtain ⟨c_t0, c_t1, c_t2, c_t3, c_t4, c_t5, c_t6, c_t7, c_t8, f_t0, f_t1, f_t2, f_t3, f_t4, f_t5, f_t6, f_t7, f_t8⟩ := reads9 r_t.out
  have l_t := r_t.out.lt
  go_wp2_with fail
  clear c_t0 c_t1 c_t2 c_t3 c_t4 c_t5 c_t6 c_t7 c_t8 f_t0 f_t1 f_t2 f_t3 f_t4 f_t5 f_t6 f_t7 f_t8 l_t
  replace r_a := Lib.hid (r_a.out.far (p := w.heap.size + 2) (by omega) 8 (.int .i64 m8))
  replace r_res := Lib.hid (r_res.out.far (p := w.heap.size + 2) (by omega) 8 (.int .i64 m8))
  replace r_t := Lib.hid (show AtB (w18.setCell ⟨w.heap.size + 2, 8, none⟩ (.int .i64 m8)) (w.heap.size + 2) #[.int .i64 m0, .int .i64 m3, .int .i64 m6, .int .i64 m1, .int .i64 m4, .int .i64 m7, .int .i64 m2, .int .i64 m5, .int .i64 m8] M9T from by have k := (r_t.out.set_n 8 (.int .i64 m8)); simpa using k)
  replace BB := Lib.hid (below_set BB.out (b := w.heap.size + 2) (o := 8) (by omega) (.int .i64 m8))
  generalize (w18.setCell ⟨w.heap.size + 2, 8, none⟩ (.int .i64 m8)) = w19 at *
  rw [rounds_succ]
  obtain ⟨c_t0, c_t1, c_t2, c_t3, c_t4, c_t5, c_t6, c_t7, c_t8, f_t0, f_t1, f_t2, f_t3, f_t4, f_t5, f_t6, f_t7, f_t8⟩ := reads9 r_t.out
  have l_t := r_t.out.lt
  obtain ⟨c_res0, c_res1, c_res2, c_res3, c_res4, c_res5, c_res6, c_res7, c_res8, f_res0, f_res1, f_res2, f_res3, f_res4, f_res5, f_res6, f_res7, f_res8⟩ := reads9 r_res.out
  have l_res := r_res.out.lt
  go_wp2_with fail
  clear c_t0 c_t1 c_t2 c_t3 c_t4 c_t5 c_t6 c_t7 c_t8 f_t0 f_t1 f_t2 f_t3 f_t4 f_t5 f_t6 f_t7 f_t8 l_t c_res0 c_res1 c_res2 c_res3 c_res4 c_res5 c_res6 c_res7 c_res8 f_res0 f_res1 f_res2 f_res3 f_res4 f_res5 f_res6 f_res7 f_res8 l_res
  have e_st : (((((((((w19.setCell ⟨w.heap.size + 1, 0, none⟩ (.int .i64 m0)).setCell ⟨w.heap.size + 1, 1, none⟩ (.int .i64 m3)).setCell ⟨w.heap.size + 1, 2, none⟩ (.int .i64 m6)).setCell ⟨w.heap.size + 1, 3, none⟩ (.int .i64 m1)).setCell ⟨w.heap.size + 1, 4, none⟩ (.int .i64 m4)).setCell ⟨w.heap.size + 1, 5, none⟩ (.int .i64 m7)).setCell ⟨w.heap.size + 1, 6, none⟩ (.int .i64 m2)).setCell ⟨w.heap.size + 1, 7, none⟩ (.int .i64 m5)).setCell ⟨w.heap.size + 1, 8, none⟩ (.int .i64 m8)) = setFrom w19 (w.heap.size + 1) 0 [.int .i64 m0, .int .i64 m3, .int .i64 m6, .int .i64 m1, .int .i64 m4, .int .i64 m7, .int .i64 m2, .int .i64 m5, .int .i64 m8] := by simp only [setFrom, Nat.reduceAdd]
  rw [e_st]
  clear e_st
  replace r_a := Lib.hid (AtB.farAll (p := w.heap.size + 1) (by omega) [.int .i64 m0, .int .i64 m3, .int .i64 m6, .int .i64 m1, .int .i64 m4, .int .i64 m7, .int .i64 m2, .int .i64 m5, .int .i64 m8] 0 r_a.out)
  replace r_res := Lib.hid (AtB.setAll r_res.out [.int .i64 m0, .int .i64 m3, .int .i64 m6, .int .i64 m1, .int .i64 m4, .int .i64 m7, .int .i64 m2, .int .i64 m5, .int .i64 m8] rfl)
  replace r_t := Lib.hid (AtB.farAll (p := w.heap.size + 1) (by omega) [.int .i64 m0, .int .i64 m3, .int .i64 m6, .int .i64 m1, .int .i64 m4, .int .i64 m7, .int .i64 m2, .int .i64 m5, .int .i64 m8] 0 r_t.out)
  replace BB := Lib.hid (below_setAll (b := w.heap.size + 1) (by omega) [.int .i64 m0, .int .i64 m3, .int .i64 m6, .int .i64 m1, .int .i64 m4, .int .i64 m7, .int .i64 m2, .int .i64 m5, .int .i64 m8] 0 BB.out)
  generalize setFrom w19 (w.heap.size + 1) 0 [.int .i64 m0, .int .i64 m3, .int .i64 m6, .int .i64 m1, .int .i64 m4, .int .i64 m7, .int .i64 m2, .int .i64 m5, .int .i64 m8] = w20 at *
  obtain ⟨c_res0, c_res1, c_res2, c_res3, c_res4, c_res5, c_res6, c_res7, c_res8, f_res0, f_res1, f_res2, f_res3, f_res4, f_res5, f_res6, f_res7, f_res8⟩ := reads9 r_res.out
  have l_res := r_res.out.lt
  refine bodyPost_ret (v := .agg #[.int .i64 m0, .int .i64 m3, .int .i64 m6, .int .i64 m1, .int .i64 m4, .int .i64 m7, .int .i64 m2, .int .i64 m5, .int .i64 m8]) (by unfold results; simp only [Try.results33]; go_simp) rfl ⟨rfl, BB.out⟩
set_option maxRecDepth 100000 in
theorem munit (w : World) : Calls Try.prog 34 #[] w fun e w' => e = .returned (.agg #[.int .i64 1, .int .i64 0, .int .i64 0, .int .i64 0, .int .i64 1, .int .i64 0, .int .i64 0, .int .i64 0, .int .i64 1]) ∧ Below w.heap.size w w' := by
  go_enter Try.func34, Try.ntmps34
  go_wp2
  refine bodyPost_ret (v := .agg #[.int .i64 1, .int .i64 0, .int .i64 0, .int .i64 0, .int .i64 1, .int .i64 0, .int .i64 0, .int .i64 0, .int .i64 1]) (by unfold results; simp only [Try.results34]; go_simp) rfl ⟨rfl, ?_⟩
  exact below_new (Below.refl _ _) _
end Go.Proofs.Ythoakbjnofhpbaa
