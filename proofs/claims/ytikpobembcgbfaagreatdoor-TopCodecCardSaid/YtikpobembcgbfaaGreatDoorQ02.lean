/- Parts of the proof: JA. -/
import Derived.Test.YtikpobembcgbfaaGreatDoorLoT
import Derived.Test.YtikpobembcgbfaaGreatDoorRows
import Derived.WalkKit
import Derived.WalkSpells
import Derived.WalkLawsBesides
import Derived.ProofKit
import Derived.OpenShut
import Derived.Outline
import Derived.Laws.EntriesVeiled
import Derived.Lib.Hide
import Derived.Deep.QuietTactic
import Derived.BigQuiet
import Derived.Carry
import Derived.Below
import Derived.KernelRfl
import Derived.Deep.Slices
import Derived.ChangeSlices
import Derived.ChangeShapes
import Derived.WideShapes
import Derived.Laws.Externs
set_option linter.unusedVariables false
set_option linter.unusedSimpArgs false
set_option maxRecDepth 100000
set_option maxHeartbeats 40000000
namespace Go.Proofs.YtikpobembcgbfaaGreatDoor
open Go.RowKit
/-- An int64's bounds. -/
def I64 (x : Int) : Prop := -9223372036854775808 ≤ x ∧ x ≤ 9223372036854775807
def U64 (x : Int) : Prop := 0 ≤ x ∧ x ≤ 18446744073709551615
theorem u8_of_wf {x : Int} (h : (Lit.int .u8 x).wf = true) : 0 ≤ x ∧ x ≤ 255 := by
 simp [Lit.wf, IntKind.min, IntKind.max, IntKind.signed, IntKind.bits] at h
 exact ⟨by omega, by omega⟩
/-- Draws turn nothing. -/
theorem below_drawn {B : Nat} {a w : World} (h : Below B a w) (n : Nat) : Below B a (w.drewN n) := ⟨h.os, h.tape, h.output, h.size, h.block⟩
/-- A new block; a call that leaves what was there as it was; a draw: the steps of 'Below', from the heap as the walk began. -/
theorem below_new {w w1 : World} (h : Below w.heap.size w w1) (o : Obj) : Below w.heap.size w (w1.alloc o) := h.alloc h.size o
theorem below_next {w w1 w2 : World} (h : Below w.heap.size w w1) (h2 : Below w1.heap.size w1 w2) : Below w.heap.size w w2 := h.trans (h2.mono h.size)
theorem below_drew {w w1 : World} (h : Below w.heap.size w w1) : Below w.heap.size w w1.drew := h.drew
theorem below_set {w w1 : World} (h : Below w.heap.size w w1) {b o : Nat} (hb : w.heap.size ≤ b) (u : Value) : Below w.heap.size w (w1.setCell ⟨b, o, none⟩ u) := h.setCell (p := ⟨b, o, none⟩) hb u
/-- What was there reads as it did, in the walk's own words. -/
theorem below_reads {W w1 : World} (hb : Below W.heap.size W w1) :
 (∀ b o, b < W.heap.size → w1.cell? ⟨b, o, none⟩ = W.cell? ⟨b, o, none⟩) ∧ (∀ b o, b < W.heap.size → w1.frozen? ⟨b, o, none⟩ = W.frozen? ⟨b, o, none⟩) :=
 ⟨fun b o h => hb.cell (p := ⟨b, o, none⟩) h, fun b o h => hb.frozen (p := ⟨b, o, none⟩) h⟩
theorem ret_bool {a b : Bool} (h : a = b) : Ending.returned (.bool a) = .returned (.bool b) := by rw [h]
theorem ret_int {k : IntKind} {a b : Int} (h : a = b) : Ending.returned (.int k a) = .returned (.int k b) := by rw [h]
theorem wr_neg (a : Int) : wrap64 (-wrap64 a) = wrap64 (-a) := by unfold wrap64; omega
theorem wr_in {n : Int} (h0 : -9223372036854775808 ≤ n) (h1 : n ≤ 9223372036854775807) : wrap64 n = n := IntWalk.wrap64_in n ⟨h0, by omega⟩
/-- The base. -/
def BB : Int := 32768
/-- The number of a list of digits, the lowest first. -/
def bval : List Int → Int
 | [] => 0
 | d :: ds => d + 32768 * bval ds
def Dig (ds : List Int) : Prop := ∀ d ∈ ds, 0 ≤ d ∧ d < 32768
/-- No nought at the end. -/
def Canon (ds : List Int) : Prop := Dig ds ∧ ∀ h : ds ≠ [], ds.getLast h ≠ 0
/-- 32768 to a power. -/
def P2 (n : Nat) : Int := (32768 : Int) ^ n
theorem P2_zero : P2 0 = 1 := rfl
theorem P2_succ (n : Nat) : P2 (n + 1) = 32768 * P2 n := by unfold P2; rw [Int.pow_succ, Int.mul_comm]
theorem P2_pos (n : Nat) : 0 < P2 n := by unfold P2; exact Int.pow_pos (by omega)
theorem P2_add (m n : Nat) : P2 (m + n) = P2 m * P2 n := by unfold P2; exact Int.pow_add ..
theorem bval_cons (d : Int) (ds : List Int) : bval (d :: ds) = d + 32768 * bval ds := rfl
theorem bval_append (a b : List Int) : bval (a ++ b) = bval a + P2 a.length * bval b := by
 induction a with
 | nil => simp [bval, P2_zero]
 | cons d ds ih =>
   simp only [List.cons_append, bval_cons, List.length_cons, P2_succ, ih]
   grind
theorem bval_snoc (a : List Int) (d : Int) : bval (a ++ [d]) = bval a + P2 a.length * d := by
 rw [bval_append]; simp [bval]
theorem Dig.nil : Dig [] := fun _ h => by cases h
theorem Dig.cons {d : Int} {ds : List Int} (h : Dig (d :: ds)) : (0 ≤ d ∧ d < 32768) ∧ Dig ds :=
 ⟨h d (by simp), fun x hx => h x (by simp [hx])⟩
theorem Dig.mk {d : Int} {ds : List Int} (h : 0 ≤ d ∧ d < 32768) (hs : Dig ds) : Dig (d :: ds) := fun x hx => by
 rcases List.mem_cons.1 hx with rfl | hx
 · exact h
 · exact hs x hx
theorem Dig.append {a b : List Int} (ha : Dig a) (hb : Dig b) : Dig (a ++ b) := fun x hx => by
 rcases List.mem_append.1 hx with h | h
 · exact ha x h
 · exact hb x h
theorem Dig.snoc {a : List Int} {d : Int} (ha : Dig a) (h : 0 ≤ d ∧ d < 32768) : Dig (a ++ [d]) := ha.append (Dig.mk h Dig.nil)
theorem Dig.take {a : List Int} (ha : Dig a) (n : Nat) : Dig (a.take n) := fun x hx => ha x (List.mem_of_mem_take hx)
theorem Dig.drop {a : List Int} (ha : Dig a) (n : Nat) : Dig (a.drop n) := fun x hx => ha x (List.mem_of_mem_drop hx)
theorem Dig.set {a : List Int} (ha : Dig a) (n : Nat) {d : Int} (h : 0 ≤ d ∧ d < 32768) : Dig (a.set n d) := fun x hx => by
 rcases List.mem_or_eq_of_mem_set hx with h' | rfl
 · exact ha x h'
 · exact h
theorem Dig.at {a : List Int} (ha : Dig a) (i : Nat) : 0 ≤ a.getD i 0 ∧ a.getD i 0 < 32768 := by
 by_cases h : i < a.length
 · rw [List.getD_eq_getElem?_getD, List.getElem?_eq_getElem h]
   exact ha _ (List.getElem_mem h)
 · rw [List.getD_eq_getElem?_getD, List.getElem?_eq_none (by omega)]
   simp
theorem bval_nonneg : ∀ {ds : List Int}, Dig ds → 0 ≤ bval ds
 | [], _ => by simp [bval]
 | d :: ds, h => by
   have := bval_nonneg h.cons.2
   have := h.cons.1
   simp only [bval_cons]; omega
theorem bval_lt : ∀ {ds : List Int}, Dig ds → bval ds < P2 ds.length
 | [], _ => by simp [bval, P2_zero]
 | d :: ds, h => by
   have := bval_lt h.cons.2
   have := h.cons.1
   simp only [bval_cons, List.length_cons, P2_succ]; omega
theorem bval_low : ∀ {ds : List Int}, Canon ds → ds ≠ [] → P2 (ds.length - 1) ≤ bval ds
 | [], _, h => absurd rfl h
 | [d], h, _ => by
   have h1 := h.1.cons.1
   have h2 : d ≠ 0 := h.2 (by simp)
   simp [bval, P2_zero]; omega
 | d :: e :: ds, h, _ => by
   have hc : Canon (e :: ds) := ⟨h.1.cons.2, fun hn => by have := h.2 (by simp); simpa using this⟩
   have h1 := bval_low hc (by simp)
   have h2 := h.1.cons.1
   simp only [List.length_cons, Nat.add_sub_cancel] at h1 ⊢
   rw [bval_cons, P2_succ]; omega
theorem Canon.nil : Canon [] := ⟨Dig.nil, fun h => absurd rfl h⟩
theorem Canon.zero_iff {ds : List Int} (h : Canon ds) : bval ds = 0 ↔ ds = [] := by
 constructor
 · intro h0
   rcases Classical.em (ds = []) with h1 | h1
   · exact h1
   · have := bval_low h h1
     have := P2_pos (ds.length - 1)
     omega
 · rintro rfl; rfl
theorem P2_mono {m n : Nat} (h : m ≤ n) : P2 m ≤ P2 n := by
 obtain ⟨k, rfl⟩ := Nat.exists_eq_add_of_le h
 induction k with
 | zero => exact Int.le_refl _
 | succ k ih => 
   have := ih (by omega)
   have h2 := P2_pos (m + k)
   rw [← Nat.add_assoc, P2_succ]; omega
theorem P2_lt {m n : Nat} (h : P2 m < P2 n) : m < n := by
 rcases Nat.lt_or_ge m n with h1 | h1
 · exact h1
 · have := P2_mono h1; omega
/-- How many digits a number below a power has at most. -/
theorem Canon.length_le {ds : List Int} (h : Canon ds) {n : Nat} (hx : bval ds < P2 n) : ds.length ≤ n := by
 rcases Classical.em (ds = []) with rfl | h1
 · simp
 · have h2 := bval_low h h1
   have h3 : P2 (ds.length - 1) < P2 n := by omega
   have h4 := P2_lt h3
   have h5 : ds.length ≠ 0 := fun e => h1 (List.eq_nil_of_length_eq_zero e)
   omega
theorem take_succ_val (a : List Int) (i : Nat) : bval (a.take (i + 1)) = bval (a.take i) + P2 i * a.getD i 0 := by
 by_cases h : i < a.length
 · rw [List.take_succ_eq_append_getElem h, bval_snoc, List.length_take_of_le (by omega), List.getD_eq_getElem?_getD, List.getElem?_eq_getElem h]
   rfl
 · rw [List.take_of_length_le (by omega), List.take_of_length_le (by omega), List.getD_eq_getElem?_getD, List.getElem?_eq_none (by omega)]
   simp
theorem drop_val (a : List Int) (i : Nat) : bval (a.drop i) = a.getD i 0 + 32768 * bval (a.drop (i + 1)) := by
 by_cases h : i < a.length
 · rw [List.drop_eq_getElem_cons h, bval_cons, List.getD_eq_getElem?_getD, List.getElem?_eq_getElem h]
   rfl
 · rw [List.drop_of_length_le (by omega), List.drop_of_length_le (by omega), List.getD_eq_getElem?_getD, List.getElem?_eq_none (by omega)]
   simp [bval]
theorem take_drop_val (a : List Int) (i : Nat) : bval a = bval (a.take i) + P2 i * bval (a.drop i) := by
 induction i with
 | zero => simp [bval, P2_zero]
 | succ i ih =>
   rw [ih, take_succ_val, drop_val a i, P2_succ]
   grind
theorem take_lt {a : List Int} (h : Dig a) (i : Nat) : 0 ≤ bval (a.take i) ∧ bval (a.take i) < P2 i := by
 refine ⟨bval_nonneg (h.take i), ?_⟩
 have h1 := bval_lt (h.take i)
 have h2 : P2 (a.take i).length ≤ P2 i := P2_mono (by simp; omega)
 omega
/-- The first digit that differs, from above, decides. -/
theorem less_of_digit {a b : List Int} (ha : Dig a) (hb : Dig b) {i : Nat} (he : bval (a.drop (i + 1)) = bval (b.drop (i + 1))) (h : a.getD i 0 < b.getD i 0) : bval a < bval b := by
 rw [take_drop_val a i, take_drop_val b i, drop_val a i, drop_val b i, he]
 have h1 := take_lt ha i
 have h2 := take_lt hb i
 have h3 := P2_pos i
 have h4 : P2 i * (a.getD i 0 + 32768 * bval (b.drop (i + 1)) + 1) ≤ P2 i * (b.getD i 0 + 32768 * bval (b.drop (i + 1))) := Int.mul_le_mul_of_nonneg_left (by omega) (by omega)
 rw [Int.mul_add _ _ 1, Int.mul_one] at h4
 omega
theorem set_val : ∀ (a : List Int) (i : Nat) (v : Int), i < a.length → bval (a.set i v) = bval a + P2 i * (v - a.getD i 0)
 | [], _, _, h => by simp at h
 | d :: ds, 0, v, _ => by simp [bval, P2_zero]; omega
 | d :: ds, i + 1, v, h => by
   have := set_val ds i v (by simpa using h)
   simp only [List.set_cons_succ, bval_cons, this, P2_succ, List.getD_cons_succ]
   grind
theorem zeros_val : ∀ (n : Nat), bval (List.replicate n 0) = 0
 | 0 => rfl
 | n + 1 => by rw [List.replicate_succ, bval_cons, zeros_val n]; rfl
theorem Dig.zeros (n : Nat) : Dig (List.replicate n 0) := fun d h => by
 have := (List.mem_replicate.1 h).2; omega
/-- All digits from a place on are 0. -/
theorem drop_zero_val : ∀ {a : List Int} {n : Nat}, (∀ i, n ≤ i → a.getD i 0 = 0) → bval (a.drop n) = 0 := by
 intro a
 induction a with
 | nil => intro n _; simp [bval]
 | cons d ds ih =>
   intro n h
   cases n with
   | zero =>
     have h0 := h 0 (Nat.le_refl _)
     have h1 := ih (n := 0) (fun i _ => by have := h (i + 1) (by omega); simpa using this)
     simp at h0 h1
     simp [bval_cons, h0, h1]
   | succ n =>
     have h1 := ih (n := n) (fun i hi => by have := h (i + 1) (by omega); simpa using this)
     simpa using h1
theorem take_val_of_zero {a : List Int} {n : Nat} (h : ∀ i, n ≤ i → a.getD i 0 = 0) : bval (a.take n) = bval a := by
 have h1 := take_drop_val a n
 rw [drop_zero_val h] at h1
 omega
theorem canon_take {a : List Int} (h : Dig a) {n : Nat} (hn : n ≤ a.length) (hl : n = 0 ∨ a.getD (n - 1) 0 ≠ 0) : Canon (a.take n) := by
 refine ⟨h.take n, fun hne => ?_⟩
 rcases hl with rfl | hl
 · simp at hne
 · have hn0 : n ≠ 0 := by rintro rfl; simp at hne
   rw [List.getLast_eq_getElem]
   rw [List.getD_eq_getElem?_getD, List.getElem?_eq_getElem (by omega)] at hl
   simp only [List.getElem_take, List.length_take]
   have e : min n a.length - 1 = n - 1 := by omega
   simpa [e] using hl
open Go.ChangeShapes Go.WideShapes Go.ChangeAt
section
variable {H : Type} {enc : TypeId × Value → H}
/-- Each argument reads as it did, where nothing that was there has turned. -/
theorem trodAll_kept {W W' : World} (hb : Below W.heap.size W W') :
 ∀ (ts : List TypeId) (vs : List Value) (ds : List (DataW H)) (ps : List MemPlace), (ts.all fun t => Tryz.prog.readableRec t && decide (t < Tryz.prog.types.size)) = true →
   DataW.TrodAll enc Tryz.prog W 0 (fun _ => true) true ts vs ds ps → (∀ x ∈ ps, x.block < W.heap.size) →
   DataW.TrodAll enc Tryz.prog W' 0 (fun b => decide (b < W.heap.size)) true ts vs ds ps := by
 intro ts
 induction ts with
 | nil =>
   intro vs ds ps _ h _
   cases vs <;> cases ds <;> first | exact h | cases h
 | cons t ts ih =>
   intro vs ds ps hr h hlt
   simp only [List.all_cons, Bool.and_eq_true, decide_eq_true_eq] at hr
   obtain ⟨v, vs', d, ds', p, q, rfl, rfl, rfl, h0, h1⟩ := trodAll_cons h
   exact ⟨p, q, Below.trod laidOut hr.1.1 hr.1.2 h0 hb (fun x hx => hlt x (List.mem_append.2 (.inl hx))),
    ih vs' ds' q hr.2 h1 (fun x hx => hlt x (List.mem_append.2 (.inr hx))), rfl⟩
theorem law_post {f : Func} {s : ChangeSpec} {tb : TypeId} {W W' : World} {args : Array Value} {ds : List (DataW H)} {before : List MemPlace}
 (hv : s.vars = []) (hr : f.resultTypes = #[tb]) (hbool : Tryz.prog.underlying tb = some .bool)
 (hread : (f.params.toList.all fun t => Tryz.prog.readableRec t && decide (t < Tryz.prog.types.size)) = true)
 (hW : DataW.Whole enc Tryz.prog f.params.toList s.vars false W args.toList ds [] before)
 (hfn : s.fn H ds = { results := [.lit (.bool true)], args := ds }) (hb : Below W.heap.size W W') :
 s.post enc Tryz.prog f false true false false W args (.bool true) W' := by
 have hW0 := hW
 obtain ⟨p, q, hA, hV, rfl, hfz, hnd⟩ := hW
 rw [hv] at hV
 obtain ⟨-, rfl⟩ := trodVars_none hV
 have hlt : ∀ x ∈ p, x.block < W.heap.size := fun x hx => hW0.lt x (by simpa using hx)
 refine ⟨ds, [], p ++ [], [], p, [], hW0, ?_, ?_, ?_, hb.frame _, fun h => by cases h⟩
 · rw [List.append_nil, hfn, hr]
   exact trodAll_mk1 (shut_bool hbool _)
 · rw [List.append_nil, hfn]
   exact trodAll_kept hb _ _ _ _ hread hA hlt
 · rw [List.append_nil, hfn, hv]
   rfl
end
open Go.Deep
section
variable {H : Type} {enc : TypeId × Value → H} {P : Program} {w : World} {base : Nat} {spare : Nat → Bool} {held : Bool}
end
theorem iw {x : Int} (h : -9223372036854775808 ≤ x ∧ x ≤ 9223372036854775807) : IntKind.i64.wrap x = x := by rw [IntKind.wrap_i64]; omega
theorem ww {x : Int} (h : -9223372036854775808 ≤ x ∧ x ≤ 9223372036854775807) : wrap64 x = x := wr_in h.1 h.2
theorem quiet_same {P : Program} {f : FuncId} {args : Array Value} {w : World} {n : Nat} {v : Value}
 (h : Calls P f args (w.drewN n) fun e w' => e = .returned v ∧ w.drewN n = w') : Calls P f args (w.drewN n) fun e w'' => e = .returned v ∧ ∃ m, w'' = w.drewN m :=
 h.mono fun _ _ ⟨he, hm⟩ => ⟨he, n, hm.symm⟩
abbrev P3 := Int × Int × Int
/-- A slice that reads as the triples ps. -/
def PS (w : World) (v : Value) (ps : List P3) : Prop := ∃ A cap, v = .slice A ps.length cap ∧ ps.length ≤ cap ∧ (cap : Int) ≤ 9223372036854775807 ∧ (∀ p ∈ ps, I64 p.1 ∧ I64 p.2.1 ∧ I64 p.2.2) ∧
 (ps ≠ [] → ∃ b off, A = some ⟨b, off, none⟩ ∧ b < w.heap.size ∧ ∀ i, i < ps.length → w.cell? ⟨b, off + i * 3, none⟩ = some (.int .i64 (ps.getD i (0, 0, 0)).1) ∧ w.cell? ⟨b, off + i * 3 + 1, none⟩ = some (.int .i64 (ps.getD i (0, 0, 0)).2.1) ∧ w.cell? ⟨b, off + i * 3 + 2, none⟩ = some (.int .i64 (ps.getD i (0, 0, 0)).2.2))
end Go.Proofs.YtikpobembcgbfaaGreatDoor
