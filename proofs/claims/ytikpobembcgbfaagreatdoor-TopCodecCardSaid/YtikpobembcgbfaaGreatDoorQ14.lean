/- Parts of the proof: Sq. -/
import Derived.Test.YtikpobembcgbfaaGreatDoorQ13
import Derived.Test.YtikpobembcgbfaaGreatDoorQ11
set_option linter.unusedVariables false
set_option linter.unusedSimpArgs false
set_option maxRecDepth 100000
set_option maxHeartbeats 40000000
namespace Go.Proofs.YtikpobembcgbfaaGreatDoor
open Go.RowKit Go.Lib
/-- The cells of run's machine. -/
abbrev mac (ib io icap mp : Nat) (x y z : Int) (p : Value) (b : Bool) (o : Value) (c a d : Int) : Array Value := #[.slice (some ⟨ib, io, none⟩) 1 icap, .int .i64 x, .int .i64 y, .int .i64 z, p, .bool b, .int .i64 0, .slice none 0 0, .int .i64 0, .int .i64 0, .int .i64 0, .int .i64 0, .int .i64 1, .int .u8 0, .int .u8 0, .int .u8 0, .int .u8 0, .int .i64 0, .int .i64 64, .int .i64 64, .int .i64 16, .slice none 0 0, .int .i64 0, .int .i64 0, .pointer (some ⟨mp, 0, none⟩), o, .int .i64 c, .int .i64 a, .int .i64 d, .int .i64 0, .int .i64 0, .int .i64 0]
theorem Hi {p : Prop} (h : p) : Hid p := Lib.hid h
theorem rn {w0 w1 w2 : World} (hb : Below w1.heap.size w1 w2) (h : Below w0.heap.size w0 w1 := by (repeat (first | with_reducible exact Below.refl _ _ | with_reducible apply below_drew | with_reducible apply below_new))) : Hid (Below w0.heap.size w0 w2) := Lib.hid (reg_next h hb)
theorem kd {w : World} {S : World → Prop} (h : Hid (∀ w9, Below w.heap.size w w9 → S w9)) : S w.drew := h.out _ (below_drew (Below.refl _ _))
theorem kdo {w : World} {g : Nat} {S : World → Prop} (h : Hid (∀ w9, Onl g w w9 → S w9)) : S w.drew := h.out _ (onl_of (below_drew (Below.refl _ _)))
theorem bx (w : World) (cs : Array Value) (T : TypeId) : ∃ w' g, w.alloc (.cells cs T) = w' ∧ w.heap.size = g ∧ Below w.heap.size w w' ∧ Hid (AtB w' g cs T) := ⟨_, _, rfl, rfl, (laid w cs T).1, Lib.hid (laid w cs T).2⟩
theorem en1 (w : World) (cs : Array Value) (T : TypeId) : ∃ w0, w.alloc (.cells cs T) = w0 ∧ Hid (Below w.heap.size w w0) ∧ Hid (AtB w0 w.heap.size cs T) := ⟨_, rfl, Lib.hid (laid w cs T).1, Lib.hid (laid w cs T).2⟩
theorem bret {P : Program} {fn : Func} {R : Ending → World → Prop} {a : Act} {w : World} (v : Value) (hR : R (.returned v) w) (hr : (results fn a.tmps).run P w = .ok v w := by (unfold results; go_simp)) (hd : a.defers = [] := by rfl) : bodyPost P fn R .ret a w := bodyPost_ret hr hd hR
theorem kp {w w1 : World} {g : Nat} {cs : Array Value} {T : TypeId} (h : Hid (AtB w g cs T)) (hb : Below w.heap.size w w1) : Hid (AtB w1 g cs T) := Lib.hid (h.out.keep hb)
theorem kpo {w w1 : World} {x g : Nat} {cs : Array Value} {T : TypeId} (h : Hid (AtB w x cs T)) (hne : x ≠ g) (hb : Onl g w w1) : Hid (AtB w1 x cs T) := Lib.hid (h.out.onl hne hb)
theorem nx {w w1 w2 : World} (h : Hid (Below w.heap.size w w1)) (h2 : Below w1.heap.size w1 w2) : Hid (Below w.heap.size w w2) := Lib.hid (below_next h.out h2)
theorem nxo {g : Nat} {w w1 w2 : World} (h : Hid (Onl g w w1)) (h2 : Below w1.heap.size w1 w2) : Hid (Onl g w w2) := Lib.hid (onl_below h.out h2)
theorem AtB.sn {w : World} {g : Nat} {cs cs' : Array Value} {T : TypeId} (h : AtB w g cs T) (o : Nat) (u : Value) (e : cs.setIfInBounds o u = cs' := by (simp only [mac, List.setIfInBounds_toArray, List.set_cons_zero, List.set_cons_succ]; rfl)) : AtB (w.setCell ⟨g, o, none⟩ u) g cs' T := by
 subst e
 exact h.set_n o u
theorem st1 {w w0 : World} {g : Nat} {cs cs' : Array Value} {T : TypeId} (h : Hid (AtB w g cs T)) (b : Hid (Below w0.heap.size w0 w)) (o0 : Nat) (v0 : Value) (hg : w0.heap.size ≤ g := by omega) (e : (cs.setIfInBounds o0 v0) = cs' := by (simp only [mac, List.setIfInBounds_toArray, List.set_cons_zero, List.set_cons_succ]; rfl)) :
 ∃ w', (w.setCell ⟨g, o0, none⟩ v0) = w' ∧ Hid (AtB w' g cs' T) ∧ Hid (Below w0.heap.size w0 w') ∧ ∀ g2 c2 T2, g2 ≠ g → Hid (AtB w g2 c2 T2) → Hid (AtB w' g2 c2 T2) := by
 subst e
 exact ⟨_, rfl, Lib.hid (h.out.set_n o0 v0), Lib.hid (below_set b.out hg (o := o0) v0), fun g2 c2 T2 hn k => by have k := k.out; exact Lib.hid (k.far hn o0 v0)⟩
theorem st2 {w w0 : World} {g : Nat} {cs cs' : Array Value} {T : TypeId} (h : Hid (AtB w g cs T)) (b : Hid (Below w0.heap.size w0 w)) (o0 : Nat) (v0 : Value) (o1 : Nat) (v1 : Value) (hg : w0.heap.size ≤ g := by omega) (e : ((cs.setIfInBounds o0 v0).setIfInBounds o1 v1) = cs' := by (simp only [mac, List.setIfInBounds_toArray, List.set_cons_zero, List.set_cons_succ]; rfl)) :
 ∃ w', ((w.setCell ⟨g, o0, none⟩ v0).setCell ⟨g, o1, none⟩ v1) = w' ∧ Hid (AtB w' g cs' T) ∧ Hid (Below w0.heap.size w0 w') ∧ ∀ g2 c2 T2, g2 ≠ g → Hid (AtB w g2 c2 T2) → Hid (AtB w' g2 c2 T2) := by
 subst e
 exact ⟨_, rfl, Lib.hid ((h.out.set_n o0 v0).set_n o1 v1), Lib.hid (below_set (below_set b.out hg (o := o0) v0) hg (o := o1) v1), fun g2 c2 T2 hn k => by have k := k.out; exact Lib.hid ((k.far hn o0 v0).far hn o1 v1)⟩
theorem st4 {w w0 : World} {g : Nat} {cs cs' : Array Value} {T : TypeId} (h : Hid (AtB w g cs T)) (b : Hid (Below w0.heap.size w0 w)) (o0 : Nat) (v0 : Value) (o1 : Nat) (v1 : Value) (o2 : Nat) (v2 : Value) (o3 : Nat) (v3 : Value) (hg : w0.heap.size ≤ g := by omega) (e : ((((cs.setIfInBounds o0 v0).setIfInBounds o1 v1).setIfInBounds o2 v2).setIfInBounds o3 v3) = cs' := by (simp only [mac, List.setIfInBounds_toArray, List.set_cons_zero, List.set_cons_succ]; rfl)) :
 ∃ w', ((((w.setCell ⟨g, o0, none⟩ v0).setCell ⟨g, o1, none⟩ v1).setCell ⟨g, o2, none⟩ v2).setCell ⟨g, o3, none⟩ v3) = w' ∧ Hid (AtB w' g cs' T) ∧ Hid (Below w0.heap.size w0 w') ∧ ∀ g2 c2 T2, g2 ≠ g → Hid (AtB w g2 c2 T2) → Hid (AtB w' g2 c2 T2) := by
 subst e
 exact ⟨_, rfl, Lib.hid ((((h.out.set_n o0 v0).set_n o1 v1).set_n o2 v2).set_n o3 v3), Lib.hid (below_set (below_set (below_set (below_set b.out hg (o := o0) v0) hg (o := o1) v1) hg (o := o2) v2) hg (o := o3) v3), fun g2 c2 T2 hn k => by have k := k.out; exact Lib.hid ((((k.far hn o0 v0).far hn o1 v1).far hn o2 v2).far hn o3 v3)⟩
theorem st7 {w w0 : World} {g : Nat} {cs cs' : Array Value} {T : TypeId} (h : Hid (AtB w g cs T)) (b : Hid (Below w0.heap.size w0 w)) (o0 : Nat) (v0 : Value) (o1 : Nat) (v1 : Value) (o2 : Nat) (v2 : Value) (o3 : Nat) (v3 : Value) (o4 : Nat) (v4 : Value) (o5 : Nat) (v5 : Value) (o6 : Nat) (v6 : Value) (hg : w0.heap.size ≤ g := by omega) (e : (((((((cs.setIfInBounds o0 v0).setIfInBounds o1 v1).setIfInBounds o2 v2).setIfInBounds o3 v3).setIfInBounds o4 v4).setIfInBounds o5 v5).setIfInBounds o6 v6) = cs' := by (simp only [mac, List.setIfInBounds_toArray, List.set_cons_zero, List.set_cons_succ]; rfl)) :
 ∃ w', (((((((w.setCell ⟨g, o0, none⟩ v0).setCell ⟨g, o1, none⟩ v1).setCell ⟨g, o2, none⟩ v2).setCell ⟨g, o3, none⟩ v3).setCell ⟨g, o4, none⟩ v4).setCell ⟨g, o5, none⟩ v5).setCell ⟨g, o6, none⟩ v6) = w' ∧ Hid (AtB w' g cs' T) ∧ Hid (Below w0.heap.size w0 w') ∧ ∀ g2 c2 T2, g2 ≠ g → Hid (AtB w g2 c2 T2) → Hid (AtB w' g2 c2 T2) := by
 subst e
 exact ⟨_, rfl, Lib.hid (((((((h.out.set_n o0 v0).set_n o1 v1).set_n o2 v2).set_n o3 v3).set_n o4 v4).set_n o5 v5).set_n o6 v6), Lib.hid (below_set (below_set (below_set (below_set (below_set (below_set (below_set b.out hg (o := o0) v0) hg (o := o1) v1) hg (o := o2) v2) hg (o := o3) v3) hg (o := o4) v4) hg (o := o5) v5) hg (o := o6) v6), fun g2 c2 T2 hn k => by have k := k.out; exact Lib.hid (((((((k.far hn o0 v0).far hn o1 v1).far hn o2 v2).far hn o3 v3).far hn o4 v4).far hn o5 v5).far hn o6 v6)⟩
section
variable {P : Program} {ops : Array Oper} {Q : Exit → Act → World → Prop} {md : Region.Mode} {S : World → Prop} {L : Nat}
/-- An operation that reads is taken. -/
theorem g_tk (i : Nat) {oi : Oper} {v : Value} {n : Nat} {l : Array Bool} {a a' : Act} {w : World} (h : AnyG P md ops Q S L n (l.setIfInBounds i true) a' w) (hi : ops[i]? = some oi := by rfl)
 (hs : Region.noSelect ops = true := by kernel_rfl) (hf : Region.free md ops l i = true := by kernel_rfl) (hr : (Region.ready md ops l).contains i = true := by kernel_rfl)
 (hQ : ∀ c a w, Q (.panic c) (a.put oi.dst v) w → Q (.panic c) a w := by exact fun _ _ _ h => h) (hL : reach md ops ops.size L i = true := by kernel_rfl) (hc : closedB md ops l = true := by kernel_rfl)
 (hy : YieldsIf P ops S oi v a := by (refine Or.inl ⟨by rfl, ?_⟩; intro w9 hSw; (try dsimp only at hSw); go_simp <;> with_reducible rfl)) (hS : S w := by assumption)
 (ha : a.put oi.dst v = a' := by (first | (simp only [Act.put, List.getElem_toArray, List.getElem_cons_zero, List.getElem_cons_succ, List.setIfInBounds_toArray, List.set_cons_zero, List.set_cons_succ]; rfl) | rfl)) : AnyG P md ops Q S L (n + 1) l a w := by
 subst ha
 exact AnyG.take hi hs hf hr hQ hL hc hy hS h
/-- One that nothing waits for but the store. -/
theorem g_tp (i : Nat) {oi : Oper} {v : Value} {n : Nat} {l : Array Bool} {a a' : Act} {w : World} (h : AnyG P md ops Q S L n (l.setIfInBounds i true) a' w) (hi : ops[i]? = some oi := by rfl)
 (hs : Region.noSelect ops = true := by kernel_rfl) (hf : Region.free md ops l i = true := by kernel_rfl) (hr : (Region.ready md ops l).contains i = true := by kernel_rfl)
 (hQ : ∀ c a w, Q (.panic c) (a.put oi.dst v) w → Q (.panic c) a w := by exact fun _ _ _ h => h) (hiL : i ≠ L := by decide)
 (hy : YieldsIf P ops (fun _ => True) oi v a := by (refine Or.inl ⟨by rfl, ?_⟩; intro w9 hSw; clear hSw; go_simp <;> with_reducible rfl)) (hS : S w := by assumption)
 (ha : a.put oi.dst v = a' := by (first | (simp only [Act.put, List.getElem_toArray, List.getElem_cons_zero, List.getElem_cons_succ, List.setIfInBounds_toArray, List.set_cons_zero, List.set_cons_succ]; rfl) | rfl)) : AnyG P md ops Q S L (n + 1) l a w := by
 subst ha
 exact AnyG.take0 hi hs hf hr hQ hiL hy hS h
/-- The store at the end. -/
theorem g_ts (i : Nat) {o : Oper} {n : Nat} {l : Array Bool} {a a' : Act} {w w' : World} (h : AnyG P md ops Q S L n (l.setIfInBounds i true) a' w') (hr : Region.ready md ops l = [i] := by kernel_rfl) (ho : ops[i]? = some o := by rfl)
 (hx : ∀ K : Act → World → Prop, K a' w' → if Region.wanted o (yielded ops a.tmps) = true then Oper.wp P o a w K Q else K (a.put o.dst undef) w := by (intro K hK; go_simp; (try simp only [Act.put, List.getElem_toArray, List.getElem_cons_zero, List.getElem_cons_succ, List.setIfInBounds_toArray, List.set_cons_zero, List.set_cons_succ]); exact hK)) (hj : ¬ (l.setIfInBounds i true).getD L false = false := by decide) : AnyG P md ops Q S L (n + 1) l a w :=
 AnyG.step hr ho (fun K hK => hx K (hK.out _ _ (fun e => absurd e hj) (fun _ => h)))
theorem g_sc (i : Nat) {o : Oper} {n : Nat} {l : Array Bool} {a : Act} {w : World}
 (h : ∀ K' : Act → World → Prop, Shut (∀ b x, ((l.setIfInBounds i true).getD L false = false → S x) → (((l.setIfInBounds i true).getD L false = false → S x) → AnyG P md ops Q S L n (l.setIfInBounds i true) b x) → K' b x) → if Region.wanted o (yielded ops a.tmps) = true then Oper.wp P o a w K' Q else K' (a.put o.dst undef) w)
 (hr : Region.ready md ops l = [i] := by kernel_rfl) (ho : ops[i]? = some o := by rfl) : AnyG P md ops Q S L (n + 1) l a w := AnyG.step hr ho h
theorem g_dn {l : Array Bool} {a : Act} {w : World} {n : Nat} (h : Q .normal a w) (hr : Region.ready md ops l = [] := by kernel_rfl) : AnyG P md ops Q S L n l a w := AnyG.done hr h n
theorem g_pt {n : Nat} {l : Array Bool} {a a' : Act} {w : World} (h : AnyG P md ops Q S L n l a' w) (ha : a = a' := by (first | (simp only [Act.put, List.getElem_toArray, List.getElem_cons_zero, List.getElem_cons_succ, List.setIfInBounds_toArray, List.set_cons_zero, List.set_cons_succ]; rfl) | rfl)) : AnyG P md ops Q S L n l a w := by
 subst ha
 exact h
theorem g_bg {id : Nat} {a : Act} {w : World} (KK : Hid (∀ w9, Below w.heap.size w w9 → S w9)) (L : Nat) (h : AnyG P .any ops Q S L ops.size (Array.replicate ops.size false) a w.drew) (hm : P.follows .mixedOrders = true := by kernel_rfl) : (Code.region id ops true).wp P Q a w :=
 AnyG.begin_ S L hm h
theorem g_bgo {id g : Nat} {a : Act} {w : World} (KK : Hid (∀ w9, Onl g w w9 → S w9)) (L : Nat) (h : AnyG P .any ops Q S L ops.size (Array.replicate ops.size false) a w.drew) (hm : P.follows .mixedOrders = true := by kernel_rfl) : (Code.region id ops true).wp P Q a w :=
 AnyG.begin_ S L hm h
end
end Go.Proofs.YtikpobembcgbfaaGreatDoor
