/- Parts of the proof: By Cut1 Cut2 Cut3 Cut4 Cut5. -/
import Derived.Test.YtikpobembcgbfaaGreatDoorQ10
import Derived.Test.YtikpobembcgbfaaGreatDoorQ07
import Derived.Test.YtikpobembcgbfaaGreatDoorQ09
import Derived.Lib.BufferOwn
import Derived.Lib.SliceRun
import Derived.Laws.IdiomStrings
import Derived.OwnWalk
set_option linter.unusedVariables false
set_option linter.unusedSimpArgs false
set_option maxRecDepth 100000
set_option maxHeartbeats 40000000
namespace Go.Proofs.YtikpobembcgbfaaGreatDoor
open Go.RowKit Go.Lib
/-- The block g alone has turned. -/
abbrev Onl (g : Nat) (w w' : World) : Prop := w.grownBy w' (some g)
theorem onl_of {g : Nat} {w w' : World} (h : Below w.heap.size w w') : Onl g w w' := ⟨h.os, h.tape, h.output, h.size, fun k hk _ => h.block k hk⟩
theorem onl_next {g : Nat} {a b c : World} (h : Onl g a b) (k : Onl g b c) : Onl g a c := grownBy_trans h k
theorem onl_below {g : Nat} {a b c : World} (h : Onl g a b) (k : Below b.heap.size b c) : Onl g a c := grownBy_below h k
theorem below_onl {B g : Nat} {a b c : World} (h : Below B a b) (hg : B ≤ g) (k : Onl g b c) (hB : B ≤ b.heap.size := by exact Nat.le_trans (Nat.le_refl _) ‹_›) : Below B a c := h.grown k hB (fun j hj => by cases hj; exact hg)
theorem below_onl' {g : Nat} {a b c : World} (h : Below a.heap.size a b) (hg : a.heap.size ≤ g) (k : Onl g b c) : Below a.heap.size a c := h.grown k h.size (fun j hj => by cases hj; exact hg)
theorem AtB.onl {w w1 : World} {x g : Nat} {cs : Array Value} {T : TypeId} (h : AtB w x cs T) (hne : x ≠ g) (hb : Onl g w w1) : AtB w1 x cs T := (hb.block _ h.lt (fun e => hne (by cases e; rfl))).trans h
theorem onl_set {g : Nat} {a b : World} (h : Onl g a b) (i : Nat) (v : Value) : Onl g a (b.setCell ⟨g, i, none⟩ v) := grownBy_setB h i v
theorem onl_far {g : Nat} {w w1 : World} (h : Onl g w w1) {b o : Nat} (hb : w.heap.size ≤ b) (u : Value) : Onl g w (w1.setCell ⟨b, o, none⟩ u) := by
 have k := grownBy_setCell w1 b o u
 exact ⟨k.os.trans h.os, k.tape.trans h.tape, k.output.trans h.output, Nat.le_trans h.size k.size, fun i hi hne => (k.block i (Nat.lt_of_lt_of_le hi h.size) (fun e => by cases e; omega)).trans (h.block i hi hne)⟩
theorem onl_drew {g : Nat} {w w1 : World} (h : Onl g w w1) : Onl g w w1.drew := grownBy_below h (below_drew (Below.refl _ _))
theorem AtB.set_n {w : World} {g : Nat} {cs : Array Value} {T : TypeId} (h : AtB w g cs T) (o : Nat) (u : Value) : AtB (w.setCell ⟨g, o, none⟩ u) g (cs.setIfInBounds o u) T := heap_set h.heap u (o := o)
/-- The bytes as numbers; as values. -/
def uI (l : List UInt8) : List Int := l.map fun c => (c.toNat : Int)
theorem uI_len (l : List UInt8) : (uI l).length = l.length := by simp [uI]
theorem uI_at (l : List UInt8) (i : Nat) : (uI l).getD i 0 = ((l.getD i 0).toNat : Int) := by
 unfold uI
 by_cases h : i < l.length
 · simp [List.getD, h]
 · simp [List.getD, h]
theorem uI_byte (l : List UInt8) : ∀ z ∈ uI l, 0 ≤ z ∧ z ≤ 255 := by
 intro z hz
 obtain ⟨c, -, rfl⟩ := List.mem_map.1 hz
 have := c.toNat_lt
 omega
theorem uI_ne {l : List UInt8} (h : l ≠ []) : uI l ≠ [] := by simpa [uI] using h
/-- A byte as a value. -/
def bv (c : UInt8) : Value := .int .u8 (c.toNat : Int)
def uV (l : List UInt8) : List Value := l.map bv
theorem uV_len (l : List UInt8) : (uV l).length = l.length := by simp [uV]
theorem uV_one (l : List UInt8) : ∀ v ∈ uV l, v.oneCell' = true := by
 intro v hv
 obtain ⟨z, -, rfl⟩ := List.mem_map.1 hv
 rfl
theorem uV_at {l : List UInt8} {i : Nat} (h : i < l.length) : (uV l)[i]? = some (.int .u8 ((l.getD i 0).toNat : Int)) := by
 simp [uV, h, List.getD, bv]
/-- A slice that reads as the bytes l. -/
abbrev BY (w : World) (v : Value) (l : List UInt8) : Prop := BS w v (uI l)
theorem BY.cells {w : World} {a : Addr} {n cap : Nat} {l : List UInt8} (h : BY w (.slice (some a) n cap) l) (hne : l ≠ []) : ∃ b off, a = ⟨b, off, none⟩ ∧ b < w.heap.size ∧ ∀ i, i < l.length → w.cell? ⟨b, off + i, none⟩ = some (.int .u8 ((l.getD i 0).toNat : Int)) := by
 obtain ⟨A, cap', hv, -, -, -, h4⟩ := h
 obtain ⟨b, off, hA, hlt, hc⟩ := h4 (uI_ne hne)
 simp only [Value.slice.injEq] at hv
 rw [hA] at hv
 simp only [Option.some.injEq] at hv
 refine ⟨b, off, hv.1, hlt, fun i hi => ?_⟩
 have := hc i (by rw [uI_len]; exact hi)
 rw [uI_at] at this
 exact this
theorem by_mk {w : World} {b off cap : Nat} {l : List UInt8} (h1 : l.length ≤ cap) (h2 : (cap : Int) ≤ 9223372036854775807) (hlt : b < w.heap.size) (hc : ∀ i, i < l.length → w.cell? ⟨b, off + i, none⟩ = some (.int .u8 ((l.getD i 0).toNat : Int))) : BY w (.slice (some ⟨b, off, none⟩) l.length cap) l := by
 refine ⟨some ⟨b, off, none⟩, cap, by rw [uI_len], by rw [uI_len]; exact h1, h2, uI_byte l, fun _ => ⟨b, off, rfl, hlt, fun i hi => ?_⟩⟩
 rw [uI_at]
 exact hc i (by rw [uI_len] at hi; exact hi)
theorem BY.some {w : World} {v : Value} {l : List UInt8} (h : BY w v l) (hne : l ≠ []) : ∃ b off cap, v = .slice (some ⟨b, off, none⟩) l.length cap ∧ l.length ≤ cap ∧ (cap : Int) ≤ 9223372036854775807 ∧ b < w.heap.size ∧ ∀ i, i < l.length → w.cell? ⟨b, off + i, none⟩ = some (.int .u8 ((l.getD i 0).toNat : Int)) := by
 obtain ⟨b, off, cap, rfl, h1, h2, h3, h4⟩ := BS.some h (uI_ne hne)
 rw [uI_len] at h1
 refine ⟨b, off, cap, by rw [uI_len], h1, h2, h3, fun i hi => ?_⟩
 have := h4 i (by rw [uI_len]; exact hi)
 rw [uI_at] at this
 exact this
theorem BY.form {w : World} {v : Value} {l : List UInt8} (h : BY w v l) : ∃ A cap, v = .slice A l.length cap := by
 obtain ⟨A, cap, rfl⟩ := BS.form h
 exact ⟨A, cap, by rw [uI_len]⟩
/-- A part of the bytes. -/
theorem by_part {w : World} {b off n cap cap' : Nat} {l : List UInt8} (h : BY w (.slice (some ⟨b, off, none⟩) n cap) l) (i j : Nat) (hij : i ≤ j) (hj : j ≤ l.length) (hc : j - i ≤ cap') (hc2 : (cap' : Int) ≤ 9223372036854775807) : BY w (.slice (some ⟨b, off + i, none⟩) (j - i) cap') ((l.drop i).take (j - i)) := by
 have hl : ((l.drop i).take (j - i)).length = j - i := by rw [List.length_take, List.length_drop]; omega
 by_cases hne : l = []
 · subst hne
   refine ⟨some ⟨b, off + i, none⟩, cap', by rw [uI_len, hl], by rw [uI_len, hl]; exact hc, hc2, uI_byte _, fun hx => ?_⟩
   simp [uI] at hx
 · obtain ⟨b', off', hA, hlt, hcells⟩ := h.cells hne
   cases hA
   have := by_mk (w := w) (b := b) (off := off + i) (cap := cap') (l := (l.drop i).take (j - i)) (by rw [hl]; exact hc) hc2 hlt (fun k hk => by
    rw [hl] at hk
    have h1 := hcells (i + k) (by omega)
    rw [Nat.add_assoc, h1]
    simp [List.getD, List.getElem?_take, hk, List.getElem?_drop])
   rw [hl] at this
   exact this
abbrev U8T : TypeId := 5
abbrev BLT : TypeId := 22
abbrev CT : TypeId := 448
theorem info_u8 : (Tryz.prog.info? U8T).map (fun i => (i.zero, i.size, i.bytes)) = some (some (.int .u8 0), 1, 1) := by kernel_rfl
/-- A call's own row of bytes reads as bytes. -/
theorem own_by {w : World} {base : Nat} {v : Value} {l : List UInt8} (h : w.ownsRow base U8T 1 v l.length (uV l)) : BY w v l := by
 rcases h.2 with ⟨rfl, h0⟩ | ⟨g, cap, cur, rfl, hb, hh, hc, hm, hs, ht⟩
 · have : l = [] := by simpa [uV] using h0
   subst this
   exact ⟨none, 0, rfl, by simp [uI], by simp, by simp [uI], fun h => absurd rfl h⟩
 · refine by_mk hc (by unfold maxLen at hm; omega) (heap_lt hh) (fun i hi => ?_)
   have k := uV_at hi
   rw [← ht, List.getElem?_take_of_lt (by omega)] at k
   rw [Nat.zero_add, cell_of_row w g i cur _ (0, 0) hh]
   simpa using k
/-- A new row of bytes. -/
def GiveOwn (l : List UInt8) (w : World) (e : Ending) (w' : World) : Prop := ∃ v, e = .returned v ∧ Below w.heap.size w w' ∧ w'.ownsRow w.heap.size U8T 1 v l.length (uV l)
theorem clone_some (ad : Addr) (cap : Nat) (l : List UInt8) (n : Nat) (hl : l.length = n) (hn : n ≤ 100000000) (w : World) (hv : BY w (.slice (some ad) n cap) l) :
 Calls Tryz.prog 327 #[.slice (some ad) n cap] w (GiveOwn l w) := by
 obtain ⟨i0, hi0, hz0, hz1, hz2⟩ := info_parts info_u8
 have q22 : ∀ (w : World) (a : Option Addr) (n c n' c' : Nat), (binOp .eql BLT (.slice a n c) (.slice none n' c')).run Tryz.prog w = .ok (.bool a.isNone) w := fun w a n c n' c' => Lib.run_eql_slice_nil w _ _ a n c n' c' Tryz.underlying22
 have hN : Hid (∀ j u, (uV l)[j]? = some u → w.cell? (ad.add j) = some u) := by
  intro j u hj
  have hjl : j < l.length := by have := (List.getElem?_eq_some_iff.1 hj).1; rwa [uV_len] at this
  have hne : l ≠ [] := by rintro rfl; simp at hjl
  obtain ⟨b, off, rfl, -, hc⟩ := hv.cells hne
  rw [addr_add, hc j hjl]
  rw [uV_at hjl] at hj
  exact hj
 clear hv
 go_enter Tryz.func327, Tryz.ntmps327
 go_wp2_with (first | (at_builtin; refine wpList_append_own _ rfl (.tmp 5) (.tmp 6) BLT rfl w.heap.size U8T i0 (.int .u8 0) 1 1 Tryz.underlying22 hi0 hz0 hz1 hz2 rfl (by decide) _ _ _ rfl (World.ownsRow_made w #[] 0 (Nat.le_refl _) (Nat.zero_le _) rfl) ad n cap (uV l) rfl (by rw [uV_len, hl, Nat.mul_one]) (fun j u hj => Lib.cell?_alloc_some _ (hN.out j u hj)) (uV_one l) (by unfold maxLen; omega) (by omega) (by simp) ?_))
 intro v' w1 hown hgrow hnil
 have hb := Lib.hid (((Below.refl _ w).alloc (Nat.le_refl _) _).grown hgrow (by simp) (by intro k hk; simp [Value.ownBlock] at hk; omega))
 have hR : Hid (w1.ownsRow w.heap.size U8T 1 v' l.length (uV l)) := by
  show w1.ownsRow _ _ _ _ _ _
  rw [hl]; simpa using hown
 clear hown hgrow hnil hN
 go_wp2_with fail
 go_ret
 exact ⟨_, rfl, hb.out, hR.out⟩
theorem clone_none (n cap : Nat) (w : World) : Calls Tryz.prog 327 #[.slice none n cap] w (GiveOwn [] w) := by
 have q22 : ∀ (w : World) (a : Option Addr) (n c n' c' : Nat), (binOp .eql BLT (.slice a n c) (.slice none n' c')).run Tryz.prog w = .ok (.bool a.isNone) w := fun w a n c n' c' => Lib.run_eql_slice_nil w _ _ a n c n' c' Tryz.underlying22
 go_enter Tryz.func327, Tryz.ntmps327
 go_wp2_with fail
 go_ret
 exact ⟨_, rfl, Below.refl _ _, World.ownsRow_nil _ _ _ _⟩
theorem clone_by (v : Value) (l : List UInt8) (hn : l.length ≤ 100000000) (w : World) (hv : BY w v l) : Calls Tryz.prog 327 #[v] w (GiveOwn l w) := by
 obtain ⟨A, cap, rfl⟩ := hv.form
 cases A with
 | some ad => exact clone_some ad cap l _ rfl hn w hv
 | none =>
   have hl : l = [] := by
    by_cases h : l = []
    · exact h
    · obtain ⟨b, off, c, e, -⟩ := hv.some h
      simp at e
   subst hl
   exact clone_none _ _ w
/-- A Cut: its bytes, and how many were cut off. -/
structure CU (w : World) (g : Nat) (s : Value) (l : List UInt8) (k : Nat) : Prop where
 box : AtB w g #[s, .int .i64 (k : Int)] CT
 own : w.ownsRow 0 U8T 1 s l.length (uV l)
 le : k ≤ l.length
 len : l.length ≤ 100000000
 ne : s.ownBlock ≠ some g
theorem CU.below {w w1 : World} {g k : Nat} {s : Value} {l : List UInt8} (h : CU w g s l k) (hb : Below w.heap.size w w1) : CU w1 g s l k := ⟨h.box.keep hb, own_below h.own hb, h.le, h.len, h.ne⟩
theorem CU.bytes {w : World} {g k : Nat} {s : Value} {l : List UInt8} (h : CU w g s l k) : BY w s l := own_by h.own
theorem CU.set {w : World} {g k : Nat} {s : Value} {l : List UInt8} (h : CU w g s l k) (m : Nat) (hm : m ≤ l.length) : CU (w.setCell ⟨g, 1, none⟩ (.int .i64 (m : Int))) g s l m := by
 refine ⟨?_, h.own.kept (grownBy_setCell w g 1 _) (.inr h.ne), hm, h.len, h.ne⟩
 have := heap_set h.box.heap (.int .i64 (m : Int)) (o := 1)
 simpa [AtB] using this
theorem CU.other {w w1 : World} {g x k : Nat} {s : Value} {l : List UInt8} (h : CU w g s l k) (hb : Onl x w w1) (h1 : g ≠ x) (h2 : s.ownBlock ≠ some x) : CU w1 g s l k := ⟨h.box.onl h1 hb, h.own.kept hb (.inr h2), h.le, h.len, h.ne⟩
def GiveBY (l : List UInt8) (w : World) (e : Ending) (w' : World) : Prop := ∃ A cap, e = .returned (.slice A l.length cap) ∧ Below w.heap.size w w' ∧ BY w' (.slice A l.length cap) l
theorem CU.form {w : World} {g k : Nat} {s : Value} {l : List UInt8} (h : CU w g s l k) : (s = .slice none 0 0 ∧ l = []) ∨ ∃ b cap, s = .slice (some ⟨b, 0, none⟩) l.length cap ∧ l.length ≤ cap ∧ (cap : Int) ≤ 9223372036854775807 := by
 rcases h.own.2 with ⟨rfl, h0⟩ | ⟨g, cap, cur, rfl, hb, hh, hc, hm, hs, ht⟩
 · exact .inl ⟨rfl, by simpa [uV] using h0⟩
 · exact .inr ⟨g, cap, rfl, hc, by unfold maxLen at hm; omega⟩
theorem by_empty (w : World) (A : Option Addr) (cap : Nat) (h : (cap : Int) ≤ 9223372036854775807) : BY w (.slice A 0 cap) [] := ⟨A, cap, rfl, by simp [uI], h, by simp [uI], fun h => absurd rfl h⟩
theorem crest (g : Nat) (s : Value) (l : List UInt8) (k : Nat) (w : World) (h : CU w g s l k) : Calls Tryz.prog 331 #[.pointer (some ⟨g, 0, none⟩)] w (GiveBY (l.drop k) w) := by
 have hle := h.le
 have hlen := h.len
 have hby := h.bytes
 obtain ⟨c0, c1, f0, f1⟩ := reads2 h.box
 have lt := h.box.lt
 rcases h.form with ⟨rfl, rfl⟩ | ⟨b, cap, rfl, h1, h2⟩
 · obtain rfl : k = 0 := by simpa using hle
   clear h hle hlen hby
   go_enter Tryz.func331, Tryz.ntmps331
   go_wp2_with fail
   go_quiet (fail)
   go_wp2_with fail
   go_ret
   exact ⟨_, _, rfl, below_drawn (Below.refl _ _) _, by_empty _ _ _ (by simp)⟩
 · have k0 : (k : Int) ≤ (l.length : Int) := by omega
   have k3 : (0 : Int) ≤ (k : Int) := by omega
   have hP : Hid (∀ w1, Below w.heap.size w w1 → k ≠ cap → BY w1 (.slice (some ⟨b, 0 + k, none⟩) (l.length - k) (cap - k)) (l.drop k)) := by
    intro w1 hb hk
    have := by_part (cap' := cap - k) hby k l.length hle (Nat.le_refl _) (by omega) (by omega)
    rw [List.take_of_length_le (by rw [List.length_drop]; exact Nat.le_refl _)] at this
    exact this.below hb
   have hD : Hid ((l.drop k).length = l.length - k) := List.length_drop ..
   have hE : Hid (k = cap → l.drop k = []) := fun e => by rw [List.drop_eq_nil_iff]; omega
   clear h hby
   generalize l.length = n at *
   generalize l.drop k = r at *
   by_cases hk : k = cap
   · have hr := hE.out hk
     subst hr
     have hn : n = k := by omega
     subst hn
     subst hk
     clear hD hE hP
     go_enter Tryz.func331, Tryz.ntmps331
     go_wp2_with fail
     go_quiet (fail)
     go_wp2_with fail
     go_ret
     exact ⟨_, _, rfl, below_drawn (Below.refl _ _) _, by_empty _ _ _ (by omega)⟩
   · have hk' : ¬ cap = k := fun e => hk e.symm
     go_enter Tryz.func331, Tryz.ntmps331
     go_wp2_with fail
     go_quiet (fail)
     go_wp2_with fail
     go_ret
     exact ⟨some ⟨b, k, none⟩, cap - k, by rw [hD.out]; rfl, below_drawn (Below.refl _ _) _, by have q := hP.out _ (below_drawn (Below.refl w.heap.size w) nq) hk; rw [Nat.zero_add] at q; rw [hD.out]; exact q⟩
theorem cleft (g : Nat) (s : Value) (l : List UInt8) (k : Nat) (w : World) (h : CU w g s l k) : Calls Tryz.prog 251 #[.pointer (some ⟨g, 0, none⟩)] w fun e w' => e = .returned (.int .i64 ((l.drop k).length : Int)) ∧ Below w.heap.size w w' := by
 have C := Lib.hid (crest g s l k w h)
 generalize l.drop k = r at *
 clear h
 go_enter Tryz.func251, Tryz.ntmps251
 go_wp2_with fail
 refine C.out.mono ?_
 rintro e w1 ⟨A, cap, rfl, hb, -⟩
 go_wp2_with fail
 go_ret
 exact ⟨rfl, hb⟩
theorem cpass (g : Nat) (s : Value) (l : List UInt8) (k m : Nat) (hm : k + m ≤ l.length) (w : World) (h : CU w g s l k) : Calls Tryz.prog 332 #[.pointer (some ⟨g, 0, none⟩), .int .i64 (m : Int)] w fun e w' => e = .returned (.tuple #[]) ∧ Onl g w w' ∧ CU w' g s l (k + m) := by
 obtain ⟨c0, c1, f0, f1⟩ := reads2 h.box
 have lt := h.box.lt
 have hs := Lib.hid (h.set (k + m) hm)
 have hn := h.len
 have ew : IntKind.i64.wrap ((k : Int) + (m : Int)) = ((k + m : Nat) : Int) := by rw [show (k : Int) + (m : Int) = ((k + m : Nat) : Int) by omega]; exact iw ⟨by omega, by omega⟩
 have ew2 : wrap64 ((k : Int) + (m : Int)) = ((k + m : Nat) : Int) := by rw [show (k : Int) + (m : Int) = ((k + m : Nat) : Int) by omega]; exact ww ⟨by omega, by omega⟩
 clear h hm hn
 generalize k + m = t at *
 go_enter Tryz.func332, Tryz.ntmps332
 go_wp2_with fail
 go_end0
 exact ⟨rfl, grownBy_setCell w g 1 _, hs.out⟩
theorem cblank0 (z : Int) (w : World) : Calls Tryz.prog 435 #[.int .u8 z] w fun e w' => e = .returned (.bool (decide ((9 ≤ z ∧ z ≤ 13) ∨ z = 32))) ∧ w = w' := by
 by_cases h3 : z = 32
 · subst h3
   go_enter Tryz.func435, Tryz.ntmps435
   go_wp2_with fail
   go_ret
   exact ⟨rfl, rfl⟩
 · have e3 : (z == 32) = false := by simpa using h3
   by_cases h1 : 9 ≤ z
   · by_cases h2 : z ≤ 13
     · skip
       have H := Lib.hid (show decide ((9 ≤ z ∧ z ≤ 13) ∨ z = 32) = true from by simp; omega)
       go_enter Tryz.func435, Tryz.ntmps435
       go_wp2_with fail
       go_ret
       first | exact ⟨ret_bool H.out.symm, rfl⟩ | exact ⟨ret_bool (by simp; omega), rfl⟩
     · skip
       have H := Lib.hid (show decide ((9 ≤ z ∧ z ≤ 13) ∨ z = 32) = false from by simp; omega)
       go_enter Tryz.func435, Tryz.ntmps435
       go_wp2_with fail
       go_ret
       first | exact ⟨ret_bool H.out.symm, rfl⟩ | exact ⟨ret_bool (by simp; omega), rfl⟩
   · skip
     have H := Lib.hid (show decide ((9 ≤ z ∧ z ≤ 13) ∨ z = 32) = false from by simp; omega)
     go_enter Tryz.func435, Tryz.ntmps435
     go_wp2_with fail
     go_ret
     first | exact ⟨ret_bool H.out.symm, rfl⟩ | exact ⟨ret_bool (by simp; omega), rfl⟩
theorem r14blank0 (z : Int) (w : World) : Calls Tryz.prog 82 #[.int .u8 z] w fun e w' => e = .returned (.bool (decide ((9 ≤ z ∧ z ≤ 13) ∨ z = 32))) ∧ w = w' := by
 by_cases h3 : z = 32
 · subst h3
   go_enter Tryz.func82, Tryz.ntmps82
   go_wp2_with fail
   go_ret
   exact ⟨rfl, rfl⟩
 · have e3 : (z == 32) = false := by simpa using h3
   by_cases h1 : 9 ≤ z
   · by_cases h2 : z ≤ 13
     · skip
       have H := Lib.hid (show decide ((9 ≤ z ∧ z ≤ 13) ∨ z = 32) = true from by simp; omega)
       go_enter Tryz.func82, Tryz.ntmps82
       go_wp2_with fail
       go_ret
       first | exact ⟨ret_bool H.out.symm, rfl⟩ | exact ⟨ret_bool (by simp; omega), rfl⟩
     · skip
       have H := Lib.hid (show decide ((9 ≤ z ∧ z ≤ 13) ∨ z = 32) = false from by simp; omega)
       go_enter Tryz.func82, Tryz.ntmps82
       go_wp2_with fail
       go_ret
       first | exact ⟨ret_bool H.out.symm, rfl⟩ | exact ⟨ret_bool (by simp; omega), rfl⟩
   · skip
     have H := Lib.hid (show decide ((9 ≤ z ∧ z ≤ 13) ∨ z = 32) = false from by simp; omega)
     go_enter Tryz.func82, Tryz.ntmps82
     go_wp2_with fail
     go_ret
     first | exact ⟨ret_bool H.out.symm, rfl⟩ | exact ⟨ret_bool (by simp; omega), rfl⟩
theorem blankB_eq (c : UInt8) : decide ((9 ≤ (c.toNat : Int) ∧ (c.toNat : Int) ≤ 13) ∨ (c.toNat : Int) = 32) = blankB c := by
 unfold blankB
 rw [decide_eq_decide]
 omega
theorem cblank (c : UInt8) (w : World) : Calls Tryz.prog 435 #[.int .u8 (c.toNat : Int)] w fun e w' => e = .returned (.bool (blankB c)) ∧ w = w' := by
 have h := cblank0 (c.toNat : Int) w
 rw [blankB_eq] at h; exact h
theorem r14blank (c : UInt8) (w : World) : Calls Tryz.prog 82 #[.int .u8 (c.toNat : Int)] w fun e w' => e = .returned (.bool (blankB c)) ∧ w = w' := by
 have h := r14blank0 (c.toNat : Int) w
 rw [blankB_eq] at h; exact h
theorem byte_ne {a b : UInt8} (h : a ≠ b) : (((a.toNat : Int) == (b.toNat : Int)) = false) ∧ (((a.toNat : Int) != (b.toNat : Int)) = true) := by
 have h1 : a.toNat ≠ b.toNat := fun e => h (UInt8.toNat.inj e)
 constructor
 · rw [Bool.eq_false_iff]; intro q; have := eq_of_beq q; omega
 · rw [bne_iff_ne]; omega
/-- Where the first line ends. -/
def n10 : List UInt8 → Nat
 | [] => 0
 | c :: t => if c = 10 then 0 else 1 + n10 t
theorem n10_le : ∀ l : List UInt8, n10 l ≤ l.length
 | [] => Nat.le_refl _
 | c :: t => by have := n10_le t; unfold n10; split <;> simp <;> omega
theorem n10_before : ∀ {l : List UInt8} {i : Nat}, i < n10 l → l.getD i 0 ≠ 10
 | [], i, h => by simp [n10] at h
 | c :: t, 0, h => by
   unfold n10 at h
   split at h
   · omega
   · rename_i k; simpa using k
 | c :: t, i + 1, h => by
   unfold n10 at h
   split at h
   · omega
   · simpa using n10_before (l := t) (i := i) (by omega)
theorem n10_at : ∀ {l : List UInt8}, n10 l < l.length → l.getD (n10 l) 0 = 10
 | [], h => by simp [n10] at h
 | c :: t, h => by
   by_cases k : c = 10
   · simp [n10, k]
   · have e : n10 (c :: t) = n10 t + 1 := by simp [n10, k]; omega
     rw [e] at h ⊢
     simpa using n10_at (l := t) (by simpa using h)
/-- How many bytes a remark has, that begins here. -/
def rmk (l : List UInt8) : Nat := if l.head? = some 35 then (if n10 l < l.length then n10 l + 1 else l.length) else 0
theorem rmk_le (l : List UInt8) : rmk l ≤ l.length := by
 unfold rmk
 split
 · split <;> omega
 · omega
theorem blk_true : ∀ l : List UInt8, blk true l = if n10 l < l.length then n10 l + 1 + blk false (l.drop (n10 l + 1)) else l.length
 | [] => rfl
 | c :: t => by
   have ih := blk_true t
   by_cases k : c = 10
   · subst k
     have e : n10 (10 :: t) = 0 := rfl
     rw [e, if_pos (by simp)]
     rfl
   · have e : n10 (c :: t) = n10 t + 1 := by simp [n10, k]; omega
     have e2 : blk true (c :: t) = 1 + blk true t := by show 1 + blk (decide (c ≠ 10)) t = _; rw [decide_eq_true k]
     rw [e, e2, ih]
     by_cases h : n10 t < t.length
     · rw [if_pos h, if_pos (by simpa using h), List.drop_succ_cons]; omega
     · rw [if_neg h, if_neg (by simpa using h), List.length_cons]; omega
theorem blk_rmk {l : List UInt8} (h : l.head? = some 35) : blk false l = rmk l + blk false (l.drop (rmk l)) := by
 match l, h with
 | c :: t, h =>
   obtain rfl : c = 35 := by simpa using h
   have e : n10 (35 :: t) = n10 t + 1 := by simp [n10]; omega
   have e2 : blk false (35 :: t) = 1 + blk true t := rfl
   have e3 : rmk (35 :: t) = (if n10 (35 :: t) < (35 :: t).length then n10 (35 :: t) + 1 else (35 :: t).length) := if_pos rfl
   rw [e3, e, e2, blk_true]
   by_cases k : n10 t < t.length
   · rw [if_pos k, if_pos (by simpa using k), List.drop_succ_cons]; omega
   · rw [if_neg k, if_neg (by simpa using k), List.drop_length]
     show _ = _ + 0
     simp; omega
theorem blk_blank {l : List UInt8} {c : UInt8} {t : List UInt8} (h : l = c :: t) (hc : blankB c = true) : blk false l = 1 + blk false t := by
 subst h
 show (if blankB c = true then _ else _) = _
 rw [if_pos hc]
theorem blk_none {l : List UInt8} {c : UInt8} {t : List UInt8} (h : l = c :: t) (hc : blankB c = false) (h35 : c ≠ 35) : blk false l = 0 := by
 subst h
 show (if blankB c = true then _ else if c = 35 then _ else _) = _
 rw [hc, if_neg (by simp), if_neg h35]
theorem index10 (A : Option Addr) (cap : Nat) (l : List UInt8) (n : Nat) (hn : l.length = n) (hb : n ≤ 100000000) (w : World) (h : BY w (.slice A n cap) l) :
 Calls Tryz.prog 510 #[.slice A n cap, .int .u8 10] w fun e w' => e = .returned (.int .i64 (if n10 l < l.length then (n10 l : Int) else -1)) ∧ w = w' := by
 have hK : Hid (∀ k, k < n → ∃ b off, A = some ⟨b, off, none⟩ ∧ w.cell? ⟨b, off + k, none⟩ = some (.int .u8 ((l.getD k 0).toNat : Int))) := by
  intro k hk
  have hne : l ≠ [] := by rintro rfl; simp at hn; omega
  obtain ⟨b, off, c, e, -, -, -, hc⟩ := h.some hne
  simp only [Value.slice.injEq] at e
  exact ⟨b, off, e.1, hc k (by omega)⟩
 have hB : Hid (∀ k, k < n10 l → (((l.getD k 0).toNat : Int) == 10) = false) := by
  intro k hk
  exact (byte_ne (b := 10) (n10_before hk)).1
 have hX : Hid (n10 l < n → (l.getD (n10 l) 0) = 10) := fun hk => n10_at (by omega)
 have hm := n10_le l
 rw [hn] at hm
 obtain ⟨R, hR⟩ : ∃ R : Int, R = (if n10 l < l.length then (n10 l : Int) else -1) := ⟨_, rfl⟩
 rw [← hR]
 rw [hn] at hR
 replace hR := Lib.hid hR
 clear h hn
 go_enter Tryz.func510, Tryz.ntmps510
 go_wp2_with fail
 go_loop [8] (fun i => ∃ k : Nat, k ≤ n10 l ∧ i = .int .i64 (k : Int)) (fun i => n - (intOf i).toNat)
 case atStart => exact ⟨0, Nat.zero_le _, rfl⟩
 case round =>
  obtain ⟨k, hk, rfl⟩ := hrel
  by_cases hlt : k < n
  · obtain ⟨b, off, hA, hc⟩ := hK.out k hlt
    subst hA
    have k0 : (0 : Int) ≤ (k : Int) := by omega
    have k1 : (k : Int) < (n : Int) := by omega
    have ew : IntKind.i64.wrap ((k : Int) + 1) = ((k + 1 : Nat) : Int) := by rw [show (k : Int) + 1 = ((k + 1 : Nat) : Int) by omega]; exact iw ⟨by omega, by omega⟩
    by_cases he : k = n10 l
    · have hx := hX.out (by omega)
      have hr : Hid (R = (k : Int)) := by show _ = _; rw [hR.out, if_pos (by omega), he]
      rw [← he] at hx
      rw [hx] at hc
      have hc2 : w.cell? ⟨b, off + k, none⟩ = some (.int .u8 10) := hc
      clear hc hx hB hX hK he hk hm
      go_wp2_with fail
      go_ret
      exact ⟨ret_int hr.out.symm, rfl⟩
    · have e1 := hB.out k (by omega)
      have e2 : ((10 : Int) == ((l.getD k 0).toNat : Int)) = false := by rw [Bool.eq_false_iff] at e1 ⊢; intro q; apply e1; simp at q ⊢; omega
      have hk' := Lib.hid (show k + 1 ≤ n10 l by omega)
      generalize ((l.getD k 0).toNat : Int) = c at *
      clear hB hX hK he hk hm
      go_wp2_with fail
      go_round
      case rel => exact ⟨k + 1, hk'.out, by go_num⟩
      case measure => simp [intOf, ew]; omega
  · have hr : Hid (R = -1) := by show _ = _; rw [hR.out, if_neg (by omega)]
    have k1 : ¬ (k : Int) < (n : Int) := by omega
    clear hB hX hK hk hm
    go_wp2_with fail
    go_ret
    exact ⟨ret_int hr.out.symm, rfl⟩
theorem sx_len (l : List UInt8) : (⟨l.toArray⟩ : ByteArray).size = l.length := by simp [ByteArray.size]
theorem sx_at (l : List UInt8) (k : Nat) (h : k < (⟨l.toArray⟩ : ByteArray).size) : (⟨l.toArray⟩ : ByteArray)[k]'h = l[k]'(by rw [sx_len] at h; exact h) := by
 show l.toArray[k]'_ = _
 simp
theorem sx_index (l : List UInt8) (k : Nat) (h : k < l.length) (w : World) : (Instr.index 9 (.string ⟨l.toArray⟩) (.int .i64 (k : Int))).run Tryz.prog w = .ok (.int .u8 ((l.getD k 0).toNat : Int)) w := by
 rw [run_index_string _ _ _ _ _ Tryz.underlying9, dif_pos ⟨by omega, by rw [sx_len]; omega⟩, sx_at]
 simp [List.getD, h]
/-- What is read of a row: where it lies. -/
theorem by_at {w : World} {A : Option Addr} {n cap : Nat} {l : List UInt8} (hn : l.length = n) (h : BY w (.slice A n cap) l) : ∀ k, k < n → ∃ b off, A = some ⟨b, off, none⟩ ∧ ∀ w1, Below w.heap.size w w1 → w1.cell? ⟨b, off + k, none⟩ = some (.int .u8 ((l.getD k 0).toNat : Int)) := by
 intro k hk
 have hne : l ≠ [] := by rintro rfl; simp at hn; omega
 obtain ⟨b, off, c, e, -, -, hlt, hc⟩ := h.some hne
 simp only [Value.slice.injEq] at e
 refine ⟨b, off, e.1, fun w1 hb => ?_⟩
 rw [hb.cell (p := ⟨b, off + k, none⟩) hlt]
 exact hc k (by omega)
theorem by_cap {w : World} {A : Option Addr} {n cap : Nat} {l : List UInt8} (hn : l.length = n) (h : BY w (.slice A n cap) l) : n ≤ cap ∧ (cap : Int) ≤ 9223372036854775807 ∧ (A = none → n = 0) := by
 obtain ⟨A', cap', e, h1, h2, -, h4⟩ := h
 simp only [Value.slice.injEq] at e
 obtain ⟨rfl, -, rfl⟩ := e
 rw [uI_len] at h1
 refine ⟨by omega, h2, fun hA => ?_⟩
 by_cases hz : l = []
 · subst hz; exact hn.symm
 · obtain ⟨b, off, hA2, -⟩ := h4 (uI_ne hz)
   rw [hA] at hA2; cases hA2
/-- The first bytes of a row. -/
theorem by_take {w : World} {A : Option Addr} {n cap m : Nat} {l : List UInt8} (hn : l.length = n) (h : BY w (.slice A n cap) l) (hm : m ≤ n) : BY w (.slice A m cap) (l.take m) := by
 obtain ⟨h1, h2, h3⟩ := by_cap hn h
 have hl : (l.take m).length = m := by rw [List.length_take]; omega
 by_cases hz : m = 0
 · subst hz; rw [List.take_zero]; exact by_empty _ _ _ h2
 · obtain ⟨b, off, rfl, hc⟩ := by_at hn h 0 (by omega)
   have hlt : b < w.heap.size := by
    have hne : l ≠ [] := by rintro rfl; simp at hn; omega
    obtain ⟨b', off', c, e, -, -, hlt, -⟩ := h.some hne
    simp only [Value.slice.injEq, Option.some.injEq] at e
    rw [Addr.mk.injEq] at e
    rw [e.1.1]; exact hlt
   have := by_mk (w := w) (b := b) (off := off) (cap := cap) (l := l.take m) (by rw [hl]; omega) h2 hlt (fun i hi => by
    rw [hl] at hi
    obtain ⟨b2, off2, e2, hc2⟩ := by_at hn h i (by omega)
    cases e2
    rw [hc2 w (Below.refl _ _)]
    simp [List.getD, List.getElem?_take, hi])
   rw [hl] at this
   exact this
/-- The rest of a row, behind a place that is within it. -/
theorem by_drop {w : World} {A : Option Addr} {n cap : Nat} {l : List UInt8} (hn : l.length = n) (h : BY w (.slice A n cap) l) (b off : Nat) (hA : A = some ⟨b, off, none⟩) (j : Nat) (hj : j ≤ n) : BY w (.slice (some ⟨b, off + j, none⟩) (n - j) (cap - j)) (l.drop j) := by
 subst hA
 obtain ⟨h1, h2, -⟩ := by_cap hn h
 have := by_part (cap' := cap - j) h j n hj (by omega) (by omega) (by omega)
 rw [List.take_of_length_le (by rw [List.length_drop]; omega)] at this
 exact this
theorem own_base {w : World} {b b' : Nat} {e : TypeId} {sz n : Nat} {v : Value} {xs : List Value} (h : w.ownsRow b e sz v n xs) (hb : b' ≤ b) : w.ownsRow b' e sz v n xs := by
 refine ⟨h.1, ?_⟩
 rcases h.2 with h | ⟨g, cap, cur, rfl, h1, h2⟩
 · exact .inl h
 · exact .inr ⟨g, cap, cur, rfl, Nat.le_trans hb h1, h2⟩
theorem cu_lt {w : World} {g k : Nat} {s : Value} {l : List UInt8} (h : CU w g s l k) : g < w.heap.size := h.box.lt
theorem take_own {w w2 w3 w4 : World} {g n : Nat} {v : Value} {xs : List Value} (h : w3.ownsRow w2.heap.size U8T 1 v n xs) (hs : w.heap.size ≤ w2.heap.size) (hg : g < w2.heap.size) (ho : Onl g w3 w4) : w4.ownsRow w.heap.size U8T 1 v n xs := by
 refine own_base (h.kept ho ?_) hs
 rcases h.2 with ⟨rfl, -⟩ | ⟨g', cap, cur, rfl, h1, -⟩
 · exact .inl rfl
 · refine .inr ?_
   simp only [Value.ownBlock, ne_eq, Option.some.injEq]
   omega
def GiveTake (g : Nat) (s : Value) (l : List UInt8) (k n : Nat) (w : World) (e : Ending) (w' : World) : Prop := ∃ v, e = .returned (.tuple #[v, .int .i64 0]) ∧ Onl g w w' ∧ CU w' g s l (k + n) ∧ w'.ownsRow w.heap.size U8T 1 v n (uV ((l.drop k).take n))
def GiveInt (x : Int) (g : Nat) (s : Value) (l : List UInt8) (k : Nat) (w : World) (e : Ending) (w' : World) : Prop := e = .returned (.int .i64 x) ∧ Onl g w w' ∧ CU w' g s l k
theorem ctake (g : Nat) (s : Value) (l : List UInt8) (k n : Nat) (w : World) (h : CU w g s l k) (hn : n ≤ (l.drop k).length) :
 Calls Tryz.prog 252 #[.pointer (some ⟨g, 0, none⟩), .int .i64 (n : Int)] w (GiveTake g s l k n w) := by
 have hl := h.len
 have hkn : k + n ≤ l.length := by have := h.le; rw [List.length_drop] at hn; omega
 have C := Lib.hid (cleft g s l k w h)
 have CR := Lib.hid (fun w1 (hb : Below w.heap.size w w1) => crest g s l k w1 (h.below hb))
 have CP := Lib.hid (fun w1 (hb : Below w.heap.size w w1) => cpass g s l k n hkn w1 (h.below hb))
 have hT : Hid (∀ w1 A cap, BY w1 (.slice A (l.drop k).length cap) (l.drop k) → BY w1 (.slice A n cap) ((l.drop k).take n)) := fun w1 A cap hy => by_take rfl hy hn
 have hL : Hid (((l.drop k).take n).length = n) := by show _ = _; rw [List.length_take]; omega
 have hN : n ≤ 100000000 := by omega
 have hM : (l.drop k).length ≤ 100000000 := by rw [List.length_drop]; omega
 have hcp : Hid (∀ w1 A cap, BY w1 (.slice A (l.drop k).length cap) (l.drop k) → (l.drop k).length ≤ cap ∧ (cap : Int) ≤ 9223372036854775807 ∧ (A = none → (l.drop k).length = 0)) := fun w1 A cap hy => by_cap rfl hy
 have n0 : ¬ (n : Int) < 0 := by omega
 have n1 : ¬ ((l.drop k).length : Int) < (n : Int) := by omega
 obtain ⟨m, hmm⟩ : ∃ m, m = (l.drop k).length := ⟨_, rfl⟩
 rw [← hmm] at C hT hM hcp n1 hn
 replace hmm := Lib.hid hmm
 have CK : Hid (∀ w1 v, BY w1 v ((l.drop k).take n) → Calls Tryz.prog 327 #[v] w1 (GiveOwn ((l.drop k).take n) w1)) := fun w1 v hy => clone_by v _ (by rw [hL.out]; exact hN) w1 hy
 obtain ⟨r, hrr⟩ : ∃ r, r = (l.drop k).take n := ⟨_, rfl⟩
 rw [← hrr] at hT hL CK
 replace hrr := Lib.hid hrr
 have hn' := hn
 have hg := Lib.hid (cu_lt h)
 clear h hn hl hkn
 go_enter Tryz.func252, Tryz.ntmps252
 go_wp2_with fail
 refine C.out.mono ?_
 rintro e w1 ⟨rfl, hb1⟩
 replace hb1 := Lib.hid hb1
 go_wp2_with fail
 refine (CR.out _ hb1.out).mono ?_
 rintro e w2 ⟨A, cap, he, hb, hby⟩
 rw [← hmm.out] at he hby
 subst he
 have hb2 := Lib.hid (below_next hb1.out hb)
 clear hb
 obtain ⟨k1, k2, k3⟩ := hcp.out _ _ _ hby
 have hbt := Lib.hid (hT.out _ _ _ hby)
 clear hby
 have k4 : (n : Int) ≤ (cap : Int) := by omega
 have k5 : n ≤ cap := by omega
 cases A with
 | none =>
   have hm0 := k3 rfl
   clear k3
   obtain rfl : n = 0 := by omega
   clear k1 k2 k4 k5 hn'
   go_wp2_with fail
   refine (CK.out _ _ hbt.out).mono ?_
   rintro e w3 ⟨v, rfl, hb, hown⟩
   have hb3 := Lib.hid (below_next hb2.out hb)
   have hown := Lib.hid hown
   have hbs := Lib.hid hb2.out.size
   clear hb
   go_wp2_with fail
   refine (CP.out _ hb3.out).mono ?_
   rintro e w4 ⟨rfl, ho, hc⟩
   go_wp2_with fail
   refine bodyPost_ret (v := .tuple #[v, .int .i64 0]) (by unfold results; simp only [Tryz.results252]; go_simp) rfl ?_
   refine ⟨_, rfl, onl_next (onl_of hb3.out) ho, hc, ?_⟩
   have hh := hown.out
   rw [hL.out, hrr.out] at hh
   exact take_own hh hbs.out (Nat.lt_of_lt_of_le hg.out hbs.out) ho
 | some a =>
   clear k3 hn'
   go_wp2_with fail
   refine (CK.out _ _ hbt.out).mono ?_
   rintro e w3 ⟨v, rfl, hb, hown⟩
   have hb3 := Lib.hid (below_next hb2.out hb)
   have hown := Lib.hid hown
   have hbs := Lib.hid hb2.out.size
   clear hb
   go_wp2_with fail
   refine (CP.out _ hb3.out).mono ?_
   rintro e w4 ⟨rfl, ho, hc⟩
   go_wp2_with fail
   refine bodyPost_ret (v := .tuple #[v, .int .i64 0]) (by unfold results; simp only [Tryz.results252]; go_simp) rfl ?_
   refine ⟨_, rfl, onl_next (onl_of hb3.out) ho, hc, ?_⟩
   have hh := hown.out
   rw [hL.out, hrr.out] at hh
   exact take_own hh hbs.out (Nat.lt_of_lt_of_le hg.out hbs.out) ho
/-- The code of a word of two bytes at the front. -/
def wrd (a b : UInt8) : List UInt8 → Nat
 | [] => 20
 | [x] => if x = a then 20 else 21
 | x :: y :: _ => if x = a ∧ y = b then 0 else 21
/-- How many bytes are as the word's. -/
def wgood (a b : UInt8) : List UInt8 → Nat
 | [] => 0
 | [x] => if x = a then 1 else 0
 | x :: y :: _ => if x = a then (if y = b then 2 else 1) else 0
theorem wgood_le (a b : UInt8) (l : List UInt8) : wgood a b l ≤ min 2 l.length := by
 match l with
 | [] => simp [wgood]
 | [x] => by_cases e : x = a <;> simp [wgood, e]
 | x :: y :: t => by_cases e : x = a <;> by_cases e2 : y = b <;> simp [wgood, e, e2] <;> omega
theorem wgood_at (a b : UInt8) (l : List UInt8) (i : Nat) (h : i < wgood a b l) : l.getD i 0 = [a, b].getD i 0 := by
 match l, i with
 | [], _ => simp [wgood] at h
 | [x], 0 =>
   by_cases e : x = a
   · simp [e]
   · simp [wgood, e] at h
 | [x], i + 1 => by_cases e : x = a <;> simp [wgood, e] at h
 | x :: y :: t, 0 =>
   by_cases e : x = a
   · simp [e]
   · simp [wgood, e] at h
 | x :: y :: t, 1 =>
   by_cases e : x = a
   · by_cases e2 : y = b
     · simp [e2]
     · simp [wgood, e, e2] at h
   · simp [wgood, e] at h
 | x :: y :: t, i + 2 => by_cases e : x = a <;> by_cases e2 : y = b <;> simp [wgood, e, e2] at h <;> omega
theorem wgood_bad (a b : UInt8) (l : List UInt8) (h : wgood a b l < min 2 l.length) : l.getD (wgood a b l) 0 ≠ [a, b].getD (wgood a b l) 0 ∧ wrd a b l = 21 := by
 match l with
 | [] => simp at h
 | [x] =>
   by_cases e : x = a
   · simp [wgood, e] at h
   · simp [wgood, wrd, e]
 | x :: y :: t =>
   by_cases e : x = a
   · by_cases e2 : y = b
     · simp [wgood, e, e2] at h
     · simp [wgood, wrd, e, e2]
   · simp [wgood, wrd, e]
theorem wgood_all (a b : UInt8) (l : List UInt8) (h : wgood a b l = min 2 l.length) : wrd a b l = if l.length < 2 then 20 else 0 := by
 match l with
 | [] => rfl
 | [x] =>
   by_cases e : x = a
   · simp [wrd, e]
   · simp [wgood, e] at h
 | x :: y :: t =>
   have h2 : wgood a b (x :: y :: t) = 2 := by rw [h]; simp
   by_cases e : x = a
   · by_cases e2 : y = b
     · simp [wrd, e, e2]
     · simp [wgood, e, e2] at h2
   · simp [wgood, e] at h2
theorem cword (a b : UInt8) (g : Nat) (s : Value) (l : List UInt8) (k : Nat) (w : World) (h : CU w g s l k) :
 Calls Tryz.prog 333 #[.pointer (some ⟨g, 0, none⟩), .string ⟨[a, b].toArray⟩] w (GiveInt (wrd a b (l.drop k)) g s l (k + if wrd a b (l.drop k) = 0 then 2 else 0) w) := by
 have C := Lib.hid (crest g s l k w h)
 have H := Lib.hid h
 have CP : Hid (2 ≤ (l.drop k).length → ∀ w1, Below w.heap.size w w1 → Calls Tryz.prog 332 #[.pointer (some ⟨g, 0, none⟩), .int .i64 2] w1 fun e w' => e = .returned (.tuple #[]) ∧ Onl g w1 w' ∧ CU w' g s l (k + 2)) :=
  fun h2 w1 hb => cpass g s l k 2 (by rw [List.length_drop] at h2; omega) w1 (h.below hb)
 have hlen : (l.drop k).length ≤ 100000000 := by have := h.len; rw [List.length_drop]; omega
 obtain ⟨r, hr⟩ : ∃ r, r = l.drop k := ⟨_, rfl⟩
 rw [← hr] at C CP hlen ⊢
 replace hr := Lib.hid hr
 clear h
 obtain ⟨n, hn⟩ : ∃ n, n = r.length := ⟨_, rfl⟩
 obtain ⟨p, hp⟩ : ∃ p, p = wgood a b r := ⟨_, rfl⟩
 obtain ⟨M, hM⟩ : ∃ M, M = min 2 n := ⟨_, rfl⟩
 obtain ⟨W, hW⟩ : ∃ W, W = wrd a b r := ⟨_, rfl⟩
 have hpM : p ≤ M := by rw [hp, hM, hn]; exact wgood_le a b r
 have HG : Hid (∀ i, i < p → r.getD i 0 = [a, b].getD i 0) := fun i hi => wgood_at a b r i (by rw [← hp]; exact hi)
 have HB : Hid (p < M → r.getD p 0 ≠ [a, b].getD p 0 ∧ W = 21) := fun hi => by rw [hp, hW]; exact wgood_bad a b r (by rw [← hn, ← hM, ← hp]; exact hi)
 have HA : Hid (p = M → W = if n < 2 then 20 else 0) := fun hi => by rw [hW, hn]; exact wgood_all a b r (by rw [← hn, ← hM, ← hp]; exact hi)
 have SI := fun k (hk : k < 2) (w : World) => sx_index [a, b] k hk w
 have SL := sx_len [a, b]
 have hA : Hid (∀ w1 A cap, BY w1 (.slice A n cap) r → ∀ k, k < n → ∃ b off, A = some ⟨b, off, none⟩ ∧ ∀ w2, Below w1.heap.size w1 w2 → w2.cell? ⟨b, off + k, none⟩ = some (.int .u8 ((r.getD k 0).toNat : Int))) := fun w1 A cap hy => by_at hn.symm hy
 rw [← hn] at CP hlen
 rw [← hW]
 obtain ⟨D, hD⟩ : ∃ D, D = (if W = 0 then 2 else 0) := ⟨_, rfl⟩
 rw [← hD]
 replace hD := Lib.hid hD
 have SI := Lib.hid SI
 simp only [List.length_cons, List.length_nil, Nat.zero_add, Nat.reduceAdd] at SL
 generalize (⟨[a, b].toArray⟩ : ByteArray) = t at *
 have m1 : (if (n : Int) < 2 then (n : Int) else 2) = (M : Int) := by rw [hM]; split <;> omega
 have m2 : (if (2 : Int) < (n : Int) then 2 else (n : Int)) = (M : Int) := by rw [hM]; split <;> omega
 have m3 : (if n < 2 then (n : Int) else 2) = (M : Int) := by rw [hM]; split <;> omega
 have m4 : (if 2 < n then 2 else (n : Int)) = (M : Int) := by rw [hM]; split <;> omega
 have hM2 : M ≤ 2 ∧ M ≤ n := by rw [hM]; omega
 have hM3 := Lib.hid hM
 have hM4 := Lib.hid hM2.1
 clear hM hp hW
 replace hn := Lib.hid hn
 go_enter Tryz.func333, Tryz.ntmps333
 go_wp2_with fail
 refine C.out.mono ?_
 rintro e w1 ⟨A, cap, he, hb, hby⟩
 rw [← hn.out] at he hby
 subst he
 replace hb := Lib.hid hb
 have hc := Lib.hid (hA.out _ _ _ hby)
 clear hA hby
 go_wp2_with fail
 go_loopw [14] (fun i wr => ∃ k : Nat, k ≤ p ∧ i = .int .i64 (k : Int) ∧ Hid (Below w1.heap.size w1 wr)) (fun i _ => 2 - (intOf i).toNat)
 case atStart => exact ⟨0, Nat.zero_le _, rfl, Below.refl _ _⟩
 case round =>
  obtain ⟨j, hj, rfl, hwr⟩ := hrel
  by_cases hlt : j < M
  · obtain ⟨b0, off, hA2, hcell⟩ := hc.out j (by omega)
    have hx := hcell wr hwr.out
    subst hA2
    have hi := SI.out j (by omega)
    have k0 : (0 : Int) ≤ (j : Int) := by omega
    have k1 : (j : Int) < (M : Int) := by omega
    have k2 : (j : Int) < (n : Int) := by omega
    have ew : IntKind.i64.wrap ((j : Int) + 1) = ((j + 1 : Nat) : Int) := by rw [show (j : Int) + 1 = ((j + 1 : Nat) : Int) by omega]; exact iw ⟨by omega, by omega⟩
    by_cases hjp : j < p
    · have he := HG.out j hjp
      rw [he] at hx
      have hj2 := Lib.hid (show j + 1 ≤ p by omega)
      generalize (([a, b].getD j 0).toNat : Int) = x at *
      clear hcell HG HB HA m1 m2 m3 m4 hM2 he hjp hj hc
      go_wp2_with fail
      go_quiet (fail)
      go_wp2_with fail
      go_roundw
      case rel => exact ⟨j + 1, hj2.out, by go_num, below_drawn hwr.out _⟩
      case measure => have := hM4.out; simp [intOf, ew]; omega
    · obtain rfl : j = p := by omega
      obtain ⟨h1, h2⟩ := HB.out hlt
      have hne : (((r.getD j 0).toNat : Int) != (([a, b].getD j 0).toNat : Int)) = true := by
       simp only [bne_iff_ne, ne_eq]
       intro q
       exact h1 (UInt8.toNat.inj (by omega))
      have h2 := Lib.hid h2
      generalize ((r.getD j 0).toNat : Int) = x at *
      generalize (([a, b].getD j 0).toNat : Int) = y at *
      clear hcell HG HB HA m1 m2 m3 m4 hM2 h1 hj hc hjp
      go_wp2_with fail
      go_quiet (fail)
      go_wp2_with fail
      go_ret
      refine ⟨by rw [h2.out]; rfl, onl_of (below_next hb.out (below_drawn hwr.out _)), ?_⟩
      rw [hD.out, h2.out, if_neg (by omega), Nat.add_zero]
      exact H.out.below (below_next hb.out (below_drawn hwr.out _))
  · obtain rfl : j = p := by omega
    have hW := Lib.hid (HA.out (by omega))
    have k1 : ¬ (j : Int) < (M : Int) := by omega
    by_cases h2 : n < 2
    · have h3 : (n : Int) < 2 := by omega
      clear HG HB HA m1 m2 m3 m4 hc hlt hj
      go_wp2_with fail
      go_ret
      have e20 : W = 20 := by rw [hW.out, if_pos h2]
      refine ⟨by rw [e20]; rfl, onl_of (below_next hb.out hwr.out), ?_⟩
      rw [hD.out, e20, if_neg (by omega), Nat.add_zero]
      exact H.out.below (below_next hb.out hwr.out)
    · have h3 : ¬ (n : Int) < 2 := by omega
      have CP2 := Lib.hid (CP.out (by omega) wr (below_next hb.out hwr.out))
      clear HG HB HA m1 m2 m3 m4 hc hlt hj CP
      go_wp2_with fail
      refine CP2.out.mono ?_
      rintro e w2 ⟨rfl, ho, hcu⟩
      replace ho := Lib.hid ho
      replace hcu := Lib.hid hcu
      go_wp2_with fail
      go_ret
      have e0 : W = 0 := by rw [hW.out, if_neg h2]
      refine ⟨by rw [e0]; rfl, onl_next (onl_of (below_next hb.out hwr.out)) ho.out, ?_⟩
      rw [hD.out, e0, if_pos rfl]
      exact hcu.out
theorem head_getD {l : List UInt8} (h : 0 < l.length) : l.head? = some (l.getD 0 0) := by
 cases l with
 | nil => simp at h
 | cons c t => rfl
theorem drop_cons_getD {l : List UInt8} {k : Nat} (h : k < l.length) : l.drop k = l.getD k 0 :: l.drop (k + 1) := by
 rw [List.drop_eq_getElem_cons h]
 simp [List.getD, h]
theorem cremark (A : Option Addr) (cap : Nat) (l : List UInt8) (n : Nat) (hn : l.length = n) (hb : n ≤ 100000000) (w : World) (h : BY w (.slice A n cap) l) :
 Calls Tryz.prog 474 #[.slice A n cap] w fun e w' => e = .returned (.int .i64 (rmk l : Int)) ∧ w = w' := by
 by_cases h0 : n = 0
 · subst h0
   have hl : Hid (rmk l = 0) := by have := rmk_le l; show _ = _; omega
   clear h hb hn
   go_enter Tryz.func474, Tryz.ntmps474
   go_wp2_with fail
   go_ret
   exact ⟨ret_int (by rw [hl.out]; rfl), rfl⟩
 · obtain ⟨b, off, hA, hc⟩ := by_at hn h 0 (by omega)
   have hx := hc w (Below.refl _ _)
   rw [Nat.add_zero] at hx
   have g0 : ((n : Int) == 0) = false := by simp; omega
   have g1 : ¬ n = 0 := h0
   have g2 : (0 : Int) < (n : Int) := by omega
   have g3 : 0 < n := by omega
   have hh := head_getD (l := l) (by omega)
   by_cases h35 : l.getD 0 0 = 35
   · rw [h35] at hx hh
     have hx : w.cell? ⟨b, off, none⟩ = some (.int .u8 35) := hx
     have CI := Lib.hid (index10 A cap l n hn hb w h)
     subst hA
     have hm := n10_le l
     by_cases hf : n10 l < l.length
     · have hr : Hid (rmk l = n10 l + 1) := by show _ = _; unfold rmk; rw [if_pos hh, if_pos hf]
       rw [if_pos hf] at CI
       have q1 : ¬ (n10 l : Int) < 0 := by omega
       have ew : IntKind.i64.wrap ((n10 l : Int) + 1) = ((n10 l + 1 : Nat) : Int) := by rw [show (n10 l : Int) + 1 = ((n10 l + 1 : Nat) : Int) by omega]; exact iw ⟨by omega, by omega⟩
       clear h hh h35 hf hc hm hn
       generalize n10 l = q at *
       go_enter Tryz.func474, Tryz.ntmps474
       go_wp2_with fail
       refine CI.out.mono ?_
       rintro e w9 ⟨rfl, rfl⟩
       go_wp2_with fail
       go_ret
       exact ⟨ret_int (by rw [hr.out]; try omega), rfl⟩
     · have hr : Hid (rmk l = n) := by show _ = _; unfold rmk; rw [if_pos hh, if_neg hf, hn]
       rw [if_neg hf] at CI
       clear h hh h35 hf hc hm hn
       go_enter Tryz.func474, Tryz.ntmps474
       go_wp2_with fail
       refine CI.out.mono ?_
       rintro e w9 ⟨rfl, rfl⟩
       go_wp2_with fail
       go_ret
       exact ⟨ret_int (by rw [hr.out]; try omega), rfl⟩
   · have hr : Hid (rmk l = 0) := by show _ = _; unfold rmk; rw [if_neg (by rw [hh]; simpa using h35)]
     have e1 : (((l.getD 0 0).toNat : Int) != 35) = true := (byte_ne h35).2
     generalize ((l.getD 0 0).toNat : Int) = x at *
     subst hA
     clear h hh h35 hc hn
     go_enter Tryz.func474, Tryz.ntmps474
     go_wp2_with fail
     go_ret
     exact ⟨ret_int (by rw [hr.out]; rfl), rfl⟩
theorem cBlank (g : Nat) (s : Value) (l : List UInt8) (k : Nat) (w : World) (h : CU w g s l k) :
 Calls Tryz.prog 433 #[.pointer (some ⟨g, 0, none⟩)] w (GiveInt ((blkR (l.drop k)).1 : Int) g s l (k + (blkR (l.drop k)).2) w) := by
 have C := Lib.hid (crest g s l k w h)
 have H := Lib.hid h
 have hlen : (l.drop k).length ≤ 100000000 := by have := h.len; rw [List.length_drop]; omega
 have CP : Hid (∀ m, m ≤ (l.drop k).length → ∀ w1, Below w.heap.size w w1 → Calls Tryz.prog 332 #[.pointer (some ⟨g, 0, none⟩), .int .i64 (m : Int)] w1 fun e w' => e = .returned (.tuple #[]) ∧ Onl g w1 w' ∧ CU w' g s l (k + m)) :=
  fun m h2 w1 hb => cpass g s l k m (by have := h.le; rw [List.length_drop] at h2; omega) w1 (h.below hb)
 generalize l.drop k = r at *
 clear h
 obtain ⟨n, hn⟩ : ∃ n, n = r.length := ⟨_, rfl⟩
 rw [← hn] at CP hlen
 by_cases h0 : n = 0
 · have hr0 : r = [] := List.eq_nil_of_length_eq_zero (by omega)
   have e1 : Hid (blkR r = (20, 0)) := by show _ = _; rw [hr0]; rfl
   subst h0
   clear CP hr0
   rw [e1.out]
   replace hn := Lib.hid hn
   go_enter Tryz.func433, Tryz.ntmps433
   go_wp2_with fail
   refine C.out.mono ?_
   rintro e w1 ⟨A, cap, he, hb, hby⟩
   rw [← hn.out] at he
   subst he
   clear hby
   replace hb := Lib.hid hb
   go_wp2_with fail
   go_ret
   exact ⟨rfl, onl_of hb.out, H.out.below hb.out⟩
 · have hne : r ≠ [] := fun e => by rw [e] at hn; exact h0 hn
   have hR : Hid (blkR r = if blk false r = 0 then (21, 0) else (0, blk false r)) := by show _ = _; unfold blkR; rw [if_neg hne]
   obtain ⟨T, hT⟩ : ∃ T, T = blk false r := ⟨_, rfl⟩
   rw [← hT] at hR
   have g0 : ((n : Int) == 0) = false := by simp; omega
   have g1 : ¬ (n : Int) = 0 := by omega
   have hS : Hid (∀ j, j < n → ∀ c, c = r.getD j 0 → (blankB c = true → blk false (r.drop j) = 1 + blk false (r.drop (j + 1))) ∧ (blankB c = false → blk false (r.drop j) = rmk (r.drop j) + blk false (r.drop (j + rmk (r.drop j)))) ∧ rmk (r.drop j) ≤ n - j ∧ (blankB c = false → rmk (r.drop j) = 0 → blk false (r.drop j) = 0)) := by
    intro j hj c hc
    have hd := drop_cons_getD (l := r) (k := j) (by omega)
    rw [← hc] at hd
    refine ⟨fun hb => blk_blank hd hb, fun hb => ?_, ?_, fun hb h0 => ?_⟩
    · by_cases h35 : c = 35
      · rw [← List.drop_drop]; exact blk_rmk (by rw [hd, h35]; rfl)
      · have : rmk (r.drop j) = 0 := by unfold rmk; rw [hd, if_neg (by simpa using h35)]
        rw [this, Nat.add_zero, Nat.zero_add]
    · have := rmk_le (r.drop j); rw [List.length_drop] at this; omega
    · refine blk_none hd hb ?_
      rintro rfl
      unfold rmk at h0
      rw [hd] at h0
      simp at h0
      split at h0 <;> omega
   have hA : Hid (∀ w1 A cap, BY w1 (.slice A n cap) r → n ≤ cap ∧ (cap : Int) ≤ 9223372036854775807 ∧ ∀ j, j < n → ∃ b off, A = some ⟨b, off, none⟩ ∧ w1.cell? ⟨b, off + j, none⟩ = some (.int .u8 ((r.getD j 0).toNat : Int)) ∧ Calls Tryz.prog 474 #[.slice (some ⟨b, off + j, none⟩) (n - j) (cap - j)] w1 fun e w' => e = .returned (.int .i64 (rmk (r.drop j) : Int)) ∧ w1 = w') := by
    intro w1 A cap hy
    obtain ⟨c1, c2, -⟩ := by_cap hn.symm hy
    refine ⟨c1, c2, fun j hj => ?_⟩
    obtain ⟨b, off, hA, hc⟩ := by_at hn.symm hy j hj
    exact ⟨b, off, hA, hc w1 (Below.refl _ _), cremark _ _ (r.drop j) (n - j) (by rw [List.length_drop]; omega) (by omega) w1 (by_drop hn.symm hy b off hA j (by omega))⟩
   have hT0 : Hid (blk false (r.drop 0) = T) := by show _ = _; rw [List.drop_zero]; exact hT.symm
   have hTn : Hid (∀ j, n ≤ j → blk false (r.drop j) = 0) := fun j hj => by rw [List.drop_of_length_le (by omega)]; rfl
   have hTle : Hid (∀ m, m ≤ n → blk false (r.drop m) ≤ n - m → T ≤ n → True) := fun _ _ _ _ => trivial
   clear hTle hT hne
   replace hn := Lib.hid hn
   have BLK := Lib.hid (fun c w => cblank c w)
   go_enter Tryz.func433, Tryz.ntmps433
   go_wp2_with fail
   refine C.out.mono ?_
   rintro e w1 ⟨A, cap, he, hb, hby⟩
   rw [← hn.out] at he hby
   subst he
   replace hb := Lib.hid hb
   obtain ⟨k1, k2, k3⟩ := hA.out _ _ _ hby
   replace k3 := Lib.hid k3
   clear hA hby C
   go_wp2_with fail
   go_loop [4] (fun i => ∃ j : Nat, j ≤ n ∧ i = .int .i64 (j : Int) ∧ Hid (T = j + blk false (r.drop j))) (fun i => n - (intOf i).toNat)
   case atStart => exact ⟨0, Nat.zero_le _, rfl, by show _ = _; rw [hT0.out, Nat.zero_add]⟩
   case round =>
    obtain ⟨j, hj, rfl, hTj⟩ := hrel
    by_cases hlt : j < n
    · obtain ⟨b, off, hA, hc, CR⟩ := k3.out j hlt
      subst hA
      obtain ⟨s1, s2, s3, s4⟩ := hS.out j hlt _ rfl
      replace CR := Lib.hid CR
      have CB := Lib.hid (BLK.out (r.getD j 0) w1)
      have q0 : (0 : Int) ≤ (j : Int) := by omega
      have q1 : (j : Int) < (n : Int) := by omega
      have q2 : (j : Int) ≤ (n : Int) := by omega
      have q3 : ¬ j = cap := by omega
      have q4 : ¬ cap = j := by omega
      generalize hz : ((r.getD j 0).toNat : Int) = z at *
      generalize blankB (r.getD j 0) = bl at *
      clear hz
      cases bl with
      | true =>
        have ew : IntKind.i64.wrap ((j : Int) + 1) = ((j + 1 : Nat) : Int) := by rw [show (j : Int) + 1 = ((j + 1 : Nat) : Int) by omega]; exact iw ⟨by omega, by omega⟩
        have hr := Lib.hid (show j + 1 ≤ n ∧ T = j + 1 + blk false (r.drop (j + 1)) from ⟨by omega, by rw [hTj.out, s1 rfl, Nat.add_assoc]⟩)
        clear s1 s2 s3 s4 hTj hj hlt CR
        go_wp2_with fail
        refine CB.out.mono ?_
        rintro e w9 ⟨rfl, rfl⟩
        go_wp2_with fail
        go_round
        case rel => exact ⟨j + 1, hr.out.1, by go_num, hr.out.2⟩
        case measure => simp [intOf, ew]; omega
      | false =>
        have s2 := s2 rfl
        have s4 := s4 rfl
        clear s1
        generalize rmk (r.drop j) = m at *
        by_cases hm0 : m = 0
        · subst hm0
          have hT2 := Lib.hid (show T = j by rw [hTj.out, s4 rfl, Nat.add_zero])
          clear s2 s3 s4 hTj hS hTn
          obtain rfl := hT2.out
          clear hT2
          have hE : Hid (blkR r = if T = 0 then (21, 0) else (0, T)) := hR.out
          have CP2 := Lib.hid (CP.out T hj w1 hb.out)
          clear hR
          by_cases hj0 : T = 0
          · have hE2 := Lib.hid (show (blkR r).1 = 21 ∧ (blkR r).2 = 0 by rw [hE.out, if_pos hj0]; exact ⟨rfl, rfl⟩)
            have u1 : ((T : Int) == 0) = true := by simp; omega
            clear hj hlt CP hT0 hE CP2 hj0
            go_wp2_with fail
            refine CB.out.mono ?_
            rintro e w9 ⟨rfl, rfl⟩
            go_wp2_with fail
            refine CR.out.mono ?_
            rintro e w9 ⟨rfl, rfl⟩
            go_wp2_with fail
            go_ret
            exact ⟨by rw [hE2.out.1]; rfl, onl_of hb.out, by rw [hE2.out.2]; exact H.out.below hb.out⟩
          · have hE2 := Lib.hid (show (blkR r).1 = 0 ∧ (blkR r).2 = T by rw [hE.out, if_neg hj0]; exact ⟨rfl, rfl⟩)
            have u1 : ((T : Int) == 0) = false := by simp; omega
            have u2 : ¬ (T : Int) = 0 := by omega
            clear hj hlt CP hT0 hE
            go_wp2_with fail
            refine CB.out.mono ?_
            rintro e w9 ⟨rfl, rfl⟩
            go_wp2_with fail
            refine CR.out.mono ?_
            rintro e w9 ⟨rfl, rfl⟩
            go_wp2_with fail
            refine CP2.out.mono ?_
            rintro e w2 ⟨rfl, ho, hcu⟩
            go_wp2_with fail
            go_ret
            exact ⟨by rw [hE2.out.1]; rfl, onl_next (onl_of hb.out) ho, by rw [hE2.out.2]; exact hcu⟩
        · have ew : IntKind.i64.wrap ((j : Int) + (m : Int)) = ((j + m : Nat) : Int) := by rw [show (j : Int) + (m : Int) = ((j + m : Nat) : Int) by omega]; exact iw ⟨by omega, by omega⟩
          have hr := Lib.hid (show j + m ≤ n ∧ T = j + m + blk false (r.drop (j + m)) from ⟨by omega, by rw [hTj.out, s2, Nat.add_assoc]⟩)
          have u1 : ((m : Int) == 0) = false := by simp; omega
          have u2 : ¬ (m : Int) = 0 := by omega
          have hm1 := Lib.hid (show 0 < m by omega)
          clear s2 s3 s4 hTj hj
          go_wp2_with fail
          refine CB.out.mono ?_
          rintro e w9 ⟨rfl, rfl⟩
          go_wp2_with fail
          refine CR.out.mono ?_
          rintro e w9 ⟨rfl, rfl⟩
          go_wp2_with fail
          go_round
          case rel => exact ⟨j + m, hr.out.1, by go_num, hr.out.2⟩
          case measure => have := hm1.out; simp [intOf, ew]; omega
    · obtain rfl : j = n := by omega
      have hT2 := Lib.hid (show T = j by rw [hTj.out, hTn.out j (Nat.le_refl _), Nat.add_zero])
      obtain rfl := hT2.out
      have hE2 := Lib.hid (show (blkR r).1 = 0 ∧ (blkR r).2 = T by rw [hR.out, if_neg h0]; exact ⟨rfl, rfl⟩)
      have CP2 := Lib.hid (CP.out T (Nat.le_refl _) w1 hb.out)
      have q1 : ¬ (T : Int) < (T : Int) := by omega
      clear hj hlt CP hT0 hS hTn hTj hT2
      go_wp2_with fail
      refine CP2.out.mono ?_
      rintro e w2 ⟨rfl, ho, hcu⟩
      go_wp2_with fail
      go_ret
      exact ⟨by rw [hE2.out.1]; rfl, onl_next (onl_of hb.out) ho, by rw [hE2.out.2]; exact hcu⟩
theorem cOne (g : Nat) (s : Value) (l : List UInt8) (k : Nat) (w : World) (h : CU w g s l k) :
 Calls Tryz.prog 396 #[.pointer (some ⟨g, 0, none⟩)] w (GiveInt ((oneR (l.drop k)).1 : Int) g s l (k + (oneR (l.drop k)).2) w) := by
 have C := Lib.hid (crest g s l k w h)
 have H := Lib.hid h
 have CP : Hid (1 ≤ (l.drop k).length → ∀ w1, Below w.heap.size w w1 → Calls Tryz.prog 332 #[.pointer (some ⟨g, 0, none⟩), .int .i64 1] w1 fun e w' => e = .returned (.tuple #[]) ∧ Onl g w1 w' ∧ CU w' g s l (k + 1)) :=
  fun h2 w1 hb => cpass g s l k 1 (by have := h.le; rw [List.length_drop] at h2; omega) w1 (h.below hb)
 generalize l.drop k = r at *
 clear h
 match r with
 | [] =>
   clear CP
   go_enter Tryz.func396, Tryz.ntmps396
   go_wp2_with fail
   refine C.out.mono ?_
   rintro e w1 ⟨A, cap, rfl, hb, hby⟩
   clear hby
   replace hb := Lib.hid hb
   go_wp2_with fail
   go_ret
   exact ⟨rfl, onl_of hb.out, H.out.below hb.out⟩
 | c :: t =>
   have CB := Lib.hid (fun w => cblank c w)
   have hR : Hid (oneR (c :: t) = if blankB c then (0, 1) else (21, 0)) := rfl
   have CP2 := Lib.hid (CP.out (by simp))
   have hA : Hid (∀ w1 A cap, BY w1 (.slice A (c :: t).length cap) (c :: t) → ∃ b off, A = some ⟨b, off, none⟩ ∧ w1.cell? ⟨b, off, none⟩ = some (.int .u8 (c.toNat : Int))) := by
    intro w1 A cap hy
    obtain ⟨b, off, hA, hc⟩ := by_at rfl hy 0 (by simp)
    exact ⟨b, off, hA, hc w1 (Below.refl _ _)⟩
   obtain ⟨n, hn⟩ : ∃ n, n = (c :: t).length := ⟨_, rfl⟩
   have g1 : ¬ n = 0 := by rw [hn]; simp
   have g2 : ((n : Int) == 0) = false := by simp; exact g1
   have g3 : (0 : Int) < (n : Int) := by omega
   rw [hR.out]
   generalize blankB c = bl at *
   generalize (c.toNat : Int) = z at *
   unfold GiveBY at C
   generalize (c :: t) = r at *
   rw [← hn] at C hA
   clear hR CP hn
   cases bl with
   | true =>
     show Calls _ _ _ _ (GiveInt 0 g s l (k + 1) w)
     go_enter Tryz.func396, Tryz.ntmps396
     go_wp2_with fail
     refine C.out.mono ?_
     rintro e w1 ⟨A, cap, rfl, hb, hby⟩
     obtain ⟨b, off, rfl, hx⟩ := hA.out _ _ _ hby
     clear hby hA
     replace hb := Lib.hid hb
     go_wp2_with fail
     refine (CB.out _).mono ?_
     rintro e w9 ⟨rfl, rfl⟩
     go_wp2_with fail
     refine (CP2.out _ hb.out).mono ?_
     rintro e w2 ⟨rfl, ho, hcu⟩
     go_wp2_with fail
     go_ret
     exact ⟨rfl, onl_next (onl_of hb.out) ho, hcu⟩
   | false =>
     show Calls _ _ _ _ (GiveInt 21 g s l (k + 0) w)
     clear CP2
     go_enter Tryz.func396, Tryz.ntmps396
     go_wp2_with fail
     refine C.out.mono ?_
     rintro e w1 ⟨A, cap, rfl, hb, hby⟩
     obtain ⟨b, off, rfl, hx⟩ := hA.out _ _ _ hby
     clear hby hA
     replace hb := Lib.hid hb
     go_wp2_with fail
     refine (CB.out _).mono ?_
     rintro e w9 ⟨rfl, rfl⟩
     go_wp2_with fail
     go_ret
     exact ⟨rfl, onl_of hb.out, H.out.below hb.out⟩
theorem dgN_le : ∀ l : List UInt8, dgN l ≤ l.length
 | [] => Nat.le_refl _
 | c :: t => by have := dgN_le t; unfold dgN; split <;> simp; omega
theorem dgN_in : ∀ {l : List UInt8} {i : Nat}, i < dgN l → 48 ≤ (l.getD i 0).toNat ∧ (l.getD i 0).toNat ≤ 57
 | [], i, h => by simp [dgN] at h
 | c :: t, 0, h => by
   unfold dgN at h
   split at h
   · rename_i k; simpa [digB] using k
   · omega
 | c :: t, i + 1, h => by
   unfold dgN at h
   split at h
   · simpa using dgN_in (l := t) (i := i) (by omega)
   · omega
theorem dgN_end : ∀ {l : List UInt8}, dgN l < l.length → ¬ (48 ≤ (l.getD (dgN l) 0).toNat ∧ (l.getD (dgN l) 0).toNat ≤ 57)
 | [], h => by simp at h
 | c :: t, h => by
   by_cases k : digB c = true
   · have e : dgN (c :: t) = dgN t + 1 := by simp [dgN, k]; omega
     rw [e] at h ⊢
     simpa using dgN_end (l := t) (by simpa using h)
   · have e : dgN (c :: t) = 0 := by simp [dgN, k]
     rw [e]
     simpa [digB] using k
theorem dgN_take (l : List UInt8) : isD (l.take (dgN l)) := by
 intro c hc
 obtain ⟨i, hi, rfl⟩ := List.mem_iff_getElem.1 hc
 rw [List.length_take] at hi
 have h := dgN_in (l := l) (i := i) (by omega)
 rw [List.getElem_take]
 rw [List.getD_eq_getElem?_getD, List.getElem?_eq_getElem (by omega)] at h
 exact h
theorem cdigits (A : Option Addr) (cap : Nat) (l : List UInt8) (n : Nat) (hn : l.length = n) (hb : n ≤ 100000000) (w : World) (h : BY w (.slice A n cap) l) :
 Calls Tryz.prog 475 #[.slice A n cap] w fun e w' => e = .returned (.int .i64 (dgN l : Int)) ∧ w = w' := by
 have hc : Hid (∀ j, j < n → ∃ b off, A = some ⟨b, off, none⟩ ∧ w.cell? ⟨b, off + j, none⟩ = some (.int .u8 ((l.getD j 0).toNat : Int))) := by
  intro j hj
  obtain ⟨b, off, hA, hc⟩ := by_at hn h j hj
  exact ⟨b, off, hA, hc w (Below.refl _ _)⟩
 have hI : Hid (∀ j, j < dgN l → 48 ≤ (l.getD j 0).toNat ∧ (l.getD j 0).toNat ≤ 57) := fun j hj => dgN_in hj
 have hE : Hid (dgN l < n → ¬ (48 ≤ (l.getD (dgN l) 0).toNat ∧ (l.getD (dgN l) 0).toNat ≤ 57)) := fun hj => dgN_end (by omega)
 have hm := dgN_le l
 rw [hn] at hm
 clear h hn
 generalize dgN l = m at *
 go_enter Tryz.func475, Tryz.ntmps475
 go_wp2_with fail
 go_loop [3] (fun i => ∃ j : Nat, j ≤ m ∧ i = .int .i64 (j : Int)) (fun i => n - (intOf i).toNat)
 case atStart => exact ⟨0, Nat.zero_le _, rfl⟩
 case round =>
  obtain ⟨j, hj, rfl⟩ := hrel
  by_cases hlt : j < n
  · obtain ⟨b, off, hA, hx⟩ := hc.out j hlt
    subst hA
    have q0 : (0 : Int) ≤ (j : Int) := by omega
    have q1 : (j : Int) < (n : Int) := by omega
    have ew : IntKind.i64.wrap ((j : Int) + 1) = ((j + 1 : Nat) : Int) := by rw [show (j : Int) + 1 = ((j + 1 : Nat) : Int) by omega]; exact iw ⟨by omega, by omega⟩
    by_cases hjm : j < m
    · obtain ⟨d1, d2⟩ := hI.out j hjm
      have e1 : (48 : Int) ≤ ((l.getD j 0).toNat : Int) := by omega
      have e2 : ((l.getD j 0).toNat : Int) ≤ 57 := by omega
      have hj2 := Lib.hid (show j + 1 ≤ m by omega)
      clear d1 d2
      generalize ((l.getD j 0).toNat : Int) = z at *
      clear hI hE hc hj hjm
      go_wp2_with fail
      go_round
      case rel => exact ⟨j + 1, hj2.out, by go_num⟩
      case measure => simp [intOf, ew]; omega
    · obtain rfl : j = m := by omega
      have hd := hE.out hlt
      by_cases h48 : 48 ≤ (l.getD j 0).toNat
      · have e1 : (48 : Int) ≤ ((l.getD j 0).toNat : Int) := by omega
        have e2 : ¬ ((l.getD j 0).toNat : Int) ≤ 57 := by omega
        have e3 : (57 : Int) < ((l.getD j 0).toNat : Int) := by omega
        clear hd h48
        generalize ((l.getD j 0).toNat : Int) = z at *
        clear hI hE hc hj hjm
        go_wp2_with fail
        go_ret
        exact ⟨rfl, rfl⟩
      · have e1 : ¬ (48 : Int) ≤ ((l.getD j 0).toNat : Int) := by omega
        have e2 : ((l.getD j 0).toNat : Int) < 48 := by omega
        clear hd h48
        generalize ((l.getD j 0).toNat : Int) = z at *
        clear hI hE hc hj hjm
        go_wp2_with fail
        go_ret
        exact ⟨rfl, rfl⟩
  · obtain rfl : j = m := by omega
    have q1 : ¬ (j : Int) < (n : Int) := by omega
    clear hI hE hc hlt
    go_wp2_with fail
    go_ret
    exact ⟨rfl, rfl⟩
end Go.Proofs.YtikpobembcgbfaaGreatDoor
