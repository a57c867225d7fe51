/- '==' on arrays of integers, element by element: two alike arrays are alike. -/
import Derived.Test.YtnklbnphiokpiaaJA
set_option linter.unusedVariables false
namespace Go.Proofs.Ytnklbnphiokpiaa
open Go.RowKit
section
variable {P : Program} (w : World)

theorem run_isAgg_int {e : TypeId} {k : IntKind} (he : P.underlying e = some (.int k)) : (isAgg e).run P w = .ok false w := by
  simp [isAgg, run_underlying he]

theorem run_part_int {e : TypeId} {k : IntKind} (he : P.underlying e = some (.int k)) (cs : Array Value) (o : Nat) (v : Value) (hv : cs[o]? = some v) : (part e cs o).run P w = .ok v w := by
  simp [part, run_isAgg_int w he, hv]

theorem run_eq_arr {t e : TypeId} {k : IntKind} {i : TypeInfo} (xs : List Int) (ht : P.underlying t = some (.array xs.length e)) (he : P.underlying e = some (.int k)) (hi : P.info? e = some i) (hs : i.size = 1) (d : Nat) :
    (Op.equalIn (d + 2) t (.agg (xs.map (Value.int k)).toArray) (.agg (xs.map (Value.int k)).toArray)).run P w = .ok true w := by
  rw [Op.equalIn]
  simp only [Sem.run_bind, run_underlying ht, Result.andThen_ok, sizeOf, typeInfo, Sem.run_pure, run_program, hi, hs, Nat.mul_one, Std.Legacy.Range.forIn_eq_forIn_range', Std.Legacy.Range.size, Nat.sub_zero, Nat.add_one_sub_one, Nat.div_one]
  have key : ∀ (n s : Nat), s + n ≤ xs.length → ((forIn (List.range' s n 1) ((none : Option Bool), ()) fun i __s => do
              let a ← part e (List.map (Value.int k) xs).toArray i
              let b ← part e (List.map (Value.int k) xs).toArray i
              let r ← Op.equalIn (d + 1) e a b
              if (!r) = true then pure (ForInStep.done (some false, ())) else pure (ForInStep.yield (none, ())) : Sem (Option Bool × Unit))).run P w = .ok (none, ()) w := by
    intro n
    induction n with
    | zero => intro s _; simp
    | succ n ih =>
      intro s hsn
      have hv : (List.map (Value.int k) xs).toArray[s]? = some (.int k (xs[s]'(by omega))) := by simp [List.getElem?_eq_getElem (show s < xs.length by omega)]
      rw [List.range'_succ, List.forIn_cons]
      simp only [Sem.run_bind, run_part_int w he _ _ _ hv, Result.andThen_ok, run_equalIn_int w d e k k _ _ he, beq_self_eq_true, Bool.not_true, Bool.false_eq_true, if_false, Sem.run_pure]
      exact ih (s + 1) (by omega)
  rw [key xs.length 0 (by omega)]
  simp
end
end Go.Proofs.Ytnklbnphiokpiaa
