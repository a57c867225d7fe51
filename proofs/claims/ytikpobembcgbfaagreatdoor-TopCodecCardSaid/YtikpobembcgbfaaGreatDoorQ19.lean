/- Parts of the proof: Trn Trw. -/
import Derived.Test.YtikpobembcgbfaaGreatDoorQ18
import Derived.Test.YtikpobembcgbfaaGreatDoorQ16
import Derived.RangeFuncBound
import Derived.RangeFuncNested
set_option linter.unusedVariables false
set_option linter.unusedSimpArgs false
set_option maxRecDepth 100000
set_option maxHeartbeats 40000000
namespace Go.Proofs.YtikpobembcgbfaaGreatDoor
open Go.RowKit Go.Shelf
attribute [local go_sem] Oper.semAt_some
/-- The first k pixels turned. -/
def tk3 : Nat → List UInt8 → List UInt8
 | k + 1, a :: b :: c :: t => c :: b :: a :: tk3 k t
 | _, l => l
def tk4 : Nat → List UInt8 → List UInt8
 | k + 1, a :: b :: c :: d :: t => c :: b :: a :: d :: tk4 k t
 | _, l => l
theorem tk3_zero (l : List UInt8) : tk3 0 l = l := by cases l <;> rfl
theorem tk4_zero (l : List UInt8) : tk4 0 l = l := by cases l <;> rfl
theorem tk3_all : ∀ (n : Nat) (l : List UInt8), l.length = 3 * n → tk3 n l = turn3 l
 | 0, l, h => by
   obtain rfl : l = [] := List.eq_nil_of_length_eq_zero (by omega)
   rfl
 | n + 1, a :: b :: c :: t, h => by simp [tk3, turn3, tk3_all n t (by simp at h; omega)]
 | n + 1, [], h => by simp at h
 | n + 1, [_], h => by simp at h; omega
 | n + 1, [_, _], h => by simp at h; omega
theorem tk4_all : ∀ (n : Nat) (l : List UInt8), l.length = 4 * n → tk4 n l = turn4 l
 | 0, l, h => by
   obtain rfl : l = [] := List.eq_nil_of_length_eq_zero (by omega)
   rfl
 | n + 1, a :: b :: c :: d :: t, h => by simp [tk4, turn4, tk4_all n t (by simp at h; omega)]
 | n + 1, [], h => by simp at h
 | n + 1, [_], h => by simp at h; omega
 | n + 1, [_, _], h => by simp at h; omega
 | n + 1, [_, _, _], h => by simp at h; omega
/-- One more pixel: what is read, what is written. -/
theorem tk3_step : ∀ (k : Nat) (l : List UInt8), 3 * k + 2 < l.length → (tk3 k l).getD (3 * k) 0 = l.getD (3 * k) 0 ∧ (tk3 k l).getD (3 * k + 2) 0 = l.getD (3 * k + 2) 0 ∧ tk3 (k + 1) l = ((tk3 k l).set (3 * k) (l.getD (3 * k + 2) 0)).set (3 * k + 2) (l.getD (3 * k) 0)
 | 0, a :: b :: c :: t, _ => by rw [tk3_zero]; simp [tk3, tk3_zero]
 | k + 1, a :: b :: c :: t, h => by
   obtain ⟨h1, h2, h3⟩ := tk3_step k t (by simp at h; omega)
   have e : tk3 (k + 1) (a :: b :: c :: t) = c :: b :: a :: tk3 k t := rfl
   have e2 : tk3 (k + 1 + 1) (a :: b :: c :: t) = c :: b :: a :: tk3 (k + 1) t := rfl
   rw [e, e2, h3, show 3 * (k + 1) = 3 * k + 1 + 1 + 1 by omega, show 3 * k + 1 + 1 + 1 + 2 = (3 * k + 2) + 1 + 1 + 1 by omega]
   simp only [List.getD_cons_succ, List.set_cons_succ]
   exact ⟨h1, h2, trivial⟩
 | _, [], h => by simp at h
 | _, [_], h => by simp at h
 | _, [_, _], h => by exfalso; simp only [List.length_cons, List.length_nil] at h; omega
theorem tk4_step : ∀ (k : Nat) (l : List UInt8), 4 * k + 3 < l.length → (tk4 k l).getD (4 * k) 0 = l.getD (4 * k) 0 ∧ (tk4 k l).getD (4 * k + 2) 0 = l.getD (4 * k + 2) 0 ∧ tk4 (k + 1) l = ((tk4 k l).set (4 * k) (l.getD (4 * k + 2) 0)).set (4 * k + 2) (l.getD (4 * k) 0)
 | 0, a :: b :: c :: d :: t, _ => by rw [tk4_zero]; simp [tk4, tk4_zero]
 | k + 1, a :: b :: c :: d :: t, h => by
   obtain ⟨h1, h2, h3⟩ := tk4_step k t (by simp at h; omega)
   have e : tk4 (k + 1) (a :: b :: c :: d :: t) = c :: b :: a :: d :: tk4 k t := rfl
   have e2 : tk4 (k + 1 + 1) (a :: b :: c :: d :: t) = c :: b :: a :: d :: tk4 (k + 1) t := rfl
   rw [e, e2, h3, show 4 * (k + 1) = 4 * k + 1 + 1 + 1 + 1 by omega, show 4 * k + 1 + 1 + 1 + 1 + 2 = (4 * k + 2) + 1 + 1 + 1 + 1 by omega]
   simp only [List.getD_cons_succ, List.set_cons_succ]
   exact ⟨h1, h2, trivial⟩
 | _, [], h => by simp at h
 | _, [_], h => by simp at h
 | _, [_, _], h => by exfalso; simp only [List.length_cons, List.length_nil] at h; omega
 | _, [_, _, _], h => by exfalso; simp only [List.length_cons, List.length_nil] at h; omega
/-- A block that holds bytes in its midst. -/
def midB (pre : List Value) (l : List UInt8) (post : List Value) : Array Value := (pre ++ uV l ++ post).toArray
theorem midB_at {pre post : List Value} {l : List UInt8} {i : Nat} (h : i < l.length) : (midB pre l post)[pre.length + i]? = some (.int .u8 ((l.getD i 0).toNat : Int)) := by
 unfold midB
 rw [List.getElem?_toArray, List.append_assoc, List.getElem?_append_right (by omega), Nat.add_sub_cancel_left, List.getElem?_append_left (by rw [uV_len]; exact h)]
 exact uV_at h
theorem uV_set (l : List UInt8) (i : Nat) (c : UInt8) : (uV l).set i (.int .u8 (c.toNat : Int)) = uV (l.set i c) := by
 unfold uV
 rw [List.map_set]; rfl
theorem midB_set {pre post : List Value} {l : List UInt8} {i : Nat} (h : i < l.length) (c : UInt8) : (midB pre l post).setIfInBounds (pre.length + i) (.int .u8 (c.toNat : Int)) = midB pre (l.set i c) post := by
 unfold midB
 rw [List.setIfInBounds_toArray, List.append_assoc, List.set_append_right _ _ (by omega), Nat.add_sub_cancel_left, List.set_append_left _ _ (by rw [uV_len]; exact h), uV_set, List.append_assoc]
/-- One pixel turned where it stands. -/
def act (c : Nat) (m : List UInt8) (x : Nat) : List UInt8 := (m.set (c * x) (m.getD (c * x + 2) 0)).set (c * x + 2) (m.getD (c * x) 0)
theorem act_len (c : Nat) (m : List UInt8) (x : Nat) : (act c m x).length = m.length := by simp [act]
theorem acts_len (c : Nat) : ∀ (xs : List Nat) (m : List UInt8), (xs.foldl (act c) m).length = m.length
 | [], m => rfl
 | x :: xs, m => by
   show (xs.foldl (act c) (act c m x)).length = _
   rw [acts_len c xs, act_len]
theorem acts3 (l : List UInt8) (N : Nat) (hl : l.length = 3 * N) : ∀ k, k ≤ N → (List.range k).foldl (act 3) l = tk3 k l
 | 0, _ => by rw [tk3_zero]; rfl
 | k + 1, h => by
   obtain ⟨h1, h2, h3⟩ := tk3_step k l (by omega)
   rw [List.range_succ, List.foldl_append, acts3 l N hl k (by omega)]
   show act 3 (tk3 k l) k = _
   unfold act
   rw [h1, h2, h3]
theorem acts4 (l : List UInt8) (N : Nat) (hl : l.length = 4 * N) : ∀ k, k ≤ N → (List.range k).foldl (act 4) l = tk4 k l
 | 0, _ => by rw [tk4_zero]; rfl
 | k + 1, h => by
   obtain ⟨h1, h2, h3⟩ := tk4_step k l (by omega)
   rw [List.range_succ, List.foldl_append, acts4 l N hl k (by omega)]
   show act 4 (tk4 k l) k = _
   unfold act
   rw [h1, h2, h3]
theorem fin_range (N : Nat) : (List.finRange N).map (·.1) = List.range N := by
 apply List.ext_getElem
 · simp
 · intro i h1 h2; simp
theorem range_wrap {P : Program} {c : Code} {Q : Exit → Act → World → Prop} {T : Array Value} {w : World} (h : ∀ T', T' = T → c.wp P Q { tmps := T', defers := [] } w) : c.wp P Q { tmps := T, defers := [] } w := h T rfl
/-- What holds in the rounds. -/
def TJ (w wB : World) (b c : Nat) (pre post : List Value) (l : List UInt8) {N : Nat} (xs : List (Fin N)) (W : World) : Prop := AtB W b (midB pre ((xs.map (·.1)).foldl (act c) l) post) U8T ∧ Onl b w W ∧ wB.heap.size ≤ W.heap.size
theorem TJ.from {w wB : World} {b c : Nat} {pre post : List Value} {l : List UInt8} {N : Nat} (hb : b < wB.heap.size) (hw : w.heap.size ≤ wB.heap.size) : OwnFrom wB.heap.size (fun (xs : List (Fin N)) W => TJ w wB b c pre post l xs W) := by
 rintro xs W W' row ⟨h1, h2, h3⟩ hg hr
 have hne : some b ≠ row := fun e => by have := (hr b e.symm).1; omega
 refine ⟨(hg.block b h1.lt hne).trans h1, ?_, Nat.le_trans h3 hg.size⟩
 refine ⟨hg.os.trans h2.os, hg.tape.trans h2.tape, hg.output.trans h2.output, Nat.le_trans h2.size hg.size, fun k hk hkb => ?_⟩
 rw [hg.block k (Nat.lt_of_lt_of_le hk h2.size) (fun e => by have := (hr k e.symm).1; omega)]
 exact h2.block k hk hkb
/-- As AnyG.take0, behind the operation L. -/
theorem AnyG.take1 {P : Program} {md : Region.Mode} {ops : Array Oper} {Q : Exit → Act → World → Prop} {S : World → Prop} {L i : Nat} {oi : Oper} {v : Value} {n : Nat} {l : Array Bool} {a : Act} {w : World} (hi : ops[i]? = some oi)
 (hs : Region.noSelect ops = true) (hf : Region.free md ops l i = true) (hr : (Region.ready md ops l).contains i = true)
 (hQ : ∀ c a w, Q (.panic c) (a.put oi.dst v) w → Q (.panic c) a w) (hiL : i ≠ L) (hy : YieldsIf P ops (fun _ => True) oi v a) (hS : l.getD L false = true)
 (h : AnyG P md ops Q S L n (l.setIfInBounds i true) (a.put oi.dst v) w) : AnyG P md ops Q S L (n + 1) l a w :=
 AnyG.first0 hi (Region.noSelect_spec hs) hQ hiL n l a w (Region.free_spec hi hf) (by simpa using hr) hy (fun e => by rw [hS] at e; cases e) h
attribute [local go_sem] Oper.semAt_some
theorem bturn3 (b off cap N : Nat) (pre post : List Value) (hoff : off = pre.length) (l : List UInt8) (hl : l.length = 3 * N) (hN : N ≤ 100000) (hcap : 3 * N ≤ cap) (w : World) (H : AtB w b (midB pre l post) U8T) :
 Calls Tryz.prog 259 #[.slice (some ⟨b, off, none⟩) (3 * N) cap, .int .i64 3] w fun e w' => e = .returned (.tuple #[]) ∧ Onl b w w' ∧ AtB w' b (midB pre (turn3 l) post) U8T := by
 have hT := Lib.hid (show ((List.finRange N).map (·.1)).foldl (act 3) l = turn3 l by rw [fin_range, acts3 l N hl N (Nat.le_refl _), tk3_all N l hl])
 have hlt := H.lt
 refine (callsIn_wide (n := 3)).1 (callsIn_of_wp_marks Tryz.func259 rfl trivial ?_ rfl)
 refine wpIn_wide.2 ?_
 simp only [Tryz.ntmps259, List.size_toArray, List.length_cons, List.length_nil, Nat.reduceAdd, Nat.reduceSub, Array.replicate_succ, Array.replicate_zero, List.push_toArray, List.append_toArray, List.nil_append, List.cons_append]
 replace hl := Lib.hid hl
 replace hoff := Lib.hid hoff
 replace hcap := Lib.hid hcap
 obtain ⟨M, hM⟩ : ∃ M, M = 3 * N := ⟨_, rfl⟩
 rw [← hM]
 replace hM := Lib.hid hM
 replace hN := Lib.hid hN
 replace H := Lib.hid H
 go_wp2_with fail
 refine (chunk3_any _ _ _ _ _).mono ?_
 rintro e w9 ⟨rfl, rfl⟩
 obtain ⟨hb, hsz, r1, r2⟩ := start2 w #[.slice (some ⟨b, off, none⟩) M cap] 22 #[.int .i64 3] 3
 have HB := Lib.hid (H.out.keep hb)
 have hbw := Lib.hid hb.size
 replace hb := Lib.hid hb
 replace r1 := Lib.hid r1
 replace r2 := Lib.hid r2
 replace hsz := Lib.hid hsz
 go_wp2_with fail
 have hq1 := r1.out.lt
 have hq2 := r2.out.lt
 have hbB := Lib.hid (show b < ((w.alloc (.cells #[.slice (some ⟨b, off, none⟩) M cap] 22)).alloc (.cells #[.int .i64 3] 3)).heap.size from HB.out.lt)
 generalize (w.alloc (.cells #[.slice (some ⟨b, off, none⟩) M cap] 22)).alloc (.cells #[.int .i64 3] 3) = wB at *
 generalize hg : w.heap.size = g_q at *
 have hstops := chunk3_stops g_q (g_q + 1) b off cap N (by have := hN.out; omega) hcap.out wB hq1 hq2 (by rw [← hM.out]; exact r1.out.cell 0 rfl) (r2.out.cell 0 rfl)
 have BO := Lib.hid (show w.heap.size ≤ wB.heap.size by have := hsz.out; omega)
 have hbq := Lib.hid (show b < g_q by omega)
 replace hg := Lib.hid hg
 refine range_wrap fun T hT2 => ?_
 refine (wpIn_wide (n := 4)).1 (wpIn_rangeFunc_ownF (F := Fence.wide) rfl (by omega) (gf := 367) (lb := #[.pointer (some ⟨g_q, 0, none⟩), .pointer (some ⟨g_q + 1, 0, none⟩)]) (by rw [hT2]; rfl) trivial (enters_of Tryz.func367 (by kernel_rfl) rfl) hstops (fun h k => Kept2.trans h k) (fun W l o o' hl h _ _ => Kept2.put hq1 hq2 W l o o' hl h) (Below.refl _ _) (fun _ => rfl)
  (fun xs W => TJ w wB b 3 pre post l xs W)
  (fun _ _ _ => False) (TJ.from hbB.out BO.out) (fun c s W W' row hs _ _ => hs) ⟨HB.out, onl_of (by have h2 := hb.out; rw [← hg.out] at h2; exact h2), Nat.le_refl _⟩
  (fun x => { tmps := (T.setIfInBounds 8 (.slice (some ⟨b, off + 3 * x.1, none⟩) 3 3)).setIfInBounds 4 (.slice (some ⟨b, off + 3 * x.1, none⟩) 3 3), defers := [] }) ?assign ?body ?done ?stop)
 case assign =>
  intro l x W K hK
  subst hT2
  simp only [chF3, List.setIfInBounds_toArray, List.set_cons_zero, List.set_cons_succ] at hK ⊢
  gi_wp2
  exact hK
 case stop => rintro D c pre W hD _ h _; exact h.elim
 case body =>
  rintro lk xs x W ⟨hp, hB, hsz2⟩ hlen
  subst hT2
  simp only [List.setIfInBounds_toArray, List.set_cons_zero, List.set_cons_succ]
  refine wpIn_block ?_
  have hx := x.2
  obtain ⟨m, hm⟩ : ∃ m, m = (xs.map (·.1)).foldl (act 3) l := ⟨_, rfl⟩
  have hml : m.length = 3 * N := by rw [hm, acts_len]; exact hl.out
  rw [← hm] at hp
  have a0 := midB_at (pre := pre) (post := post) (l := m) (i := 3 * x.1) (by omega)
  have a2 := midB_at (pre := pre) (post := post) (l := m) (i := 3 * x.1 + 2) (by omega)
  have s0 := midB_set (pre := pre) (post := post) (l := m) (i := 3 * x.1) (by omega) (m.getD (3 * x.1 + 2) 0)
  have s2 := midB_set (pre := pre) (post := post) (l := m.set (3 * x.1) (m.getD (3 * x.1 + 2) 0)) (i := 3 * x.1 + 2) (by rw [List.length_set]; omega) (m.getD (3 * x.1) 0)
  have hact : Hid (act 3 m x.1 = (m.set (3 * x.1) (m.getD (3 * x.1 + 2) 0)).set (3 * x.1 + 2) (m.getD (3 * x.1) 0)) := rfl
  rw [← hoff.out] at a0 a2 s0 s2
  rw [← Nat.add_assoc] at a2 s2
  have k0 := AtB.cell (AtB.drew hp) _ a0
  have k2 := AtB.cell (AtB.drew hp) _ a2
  have f0 := AtB.fr (AtB.drew hp) (off + 3 * x.1)
  have f2 := AtB.fr (AtB.drew hp) (off + 3 * x.1 + 2)
  have hp1 := AtB.set_n (AtB.drew hp) (off + 3 * x.1) (.int .u8 ((m.getD (3 * x.1 + 2) 0).toNat : Int))
  rw [s0] at hp1
  have hp2 := AtB.set_n hp1 (off + 3 * x.1 + 2) (.int .u8 ((m.getD (3 * x.1) 0).toNat : Int))
  rw [s2] at hp2
  have hcs : Hid (∃ v, (W.drew.setCell ⟨b, off + 3 * x.1, none⟩ (.int .u8 ((m.getD (3 * x.1 + 2) 0).toNat : Int))).cell? ⟨b, off + 3 * x.1 + 2, none⟩ = some v) := by
   have q := midB_at (pre := pre) (post := post) (l := m.set (3 * x.1) (m.getD (3 * x.1 + 2) 0)) (i := 3 * x.1 + 2) (by rw [List.length_set]; omega)
   rw [← hoff.out, ← Nat.add_assoc] at q
   exact ⟨_, hp1.cell _ q⟩
  obtain ⟨v2, k3⟩ := hcs.out
  have f3 := hp1.fr (off + 3 * x.1 + 2)
  have l3 := hp1.lt
  have l0 := hp.lt
  have hR := Lib.hid hp2
  replace hm := Lib.hid hm
  clear hp hp1 hp2 s0 s2 a0 a2 hcs hml
  generalize m.getD (3 * x.1 + 2) 0 = z2 at *
  generalize m.getD (3 * x.1) 0 = z0 at *
  generalize off + 3 * x.1 = o1 at *
  have hS : W.drew.cell? ⟨b, o1, none⟩ = some (.int .u8 (z0.toNat : Int)) ∧ W.drew.cell? ⟨b, o1 + 2, none⟩ = some (.int .u8 (z2.toNat : Int)) := ⟨k0, k2⟩
  refine region_round (fun w9 => w9.cell? ⟨b, o1, none⟩ = some (.int .u8 (z0.toNat : Int)) ∧ w9.cell? ⟨b, o1 + 2, none⟩ = some (.int .u8 (z2.toNat : Int))) 9 (by kernel_rfl) (by kernel_rfl) (by rintro ⟨_, _, h⟩; exact h) ?_
  refine AnyG.take (i := 0) (v := ?_) rfl (by kernel_rfl) (by kernel_rfl) (by kernel_rfl) (fun _ _ _ h => h) (by kernel_rfl) (by kernel_rfl) (Or.inl ⟨by rfl, ?_⟩) (by assumption) ?_
  rotate_left
  · intro w9 hSw; (try dsimp only at hSw); go_simp <;> with_reducible rfl
  try simp only [Act.put, List.getElem_toArray, List.getElem_cons_zero, List.getElem_cons_succ, List.setIfInBounds_toArray, List.set_cons_zero, List.set_cons_succ]
  refine AnyG.take0 (i := 1) (v := ?_) rfl (by kernel_rfl) (by kernel_rfl) (by kernel_rfl) (fun _ _ _ h => h) (by decide) (Or.inl ⟨by rfl, ?_⟩) (by assumption) ?_
  rotate_left
  · intro w9 hSw; clear hSw; go_simp <;> with_reducible rfl
  try simp only [Act.put, List.getElem_toArray, List.getElem_cons_zero, List.getElem_cons_succ, List.setIfInBounds_toArray, List.set_cons_zero, List.set_cons_succ]
  refine AnyG.take (i := 2) (v := ?_) rfl (by kernel_rfl) (by kernel_rfl) (by kernel_rfl) (fun _ _ _ h => h) (by kernel_rfl) (by kernel_rfl) (Or.inl ⟨by rfl, ?_⟩) (by assumption) ?_
  rotate_left
  · intro w9 hSw; (try dsimp only at hSw); go_simp <;> with_reducible rfl
  try simp only [Act.put, List.getElem_toArray, List.getElem_cons_zero, List.getElem_cons_succ, List.setIfInBounds_toArray, List.set_cons_zero, List.set_cons_succ]
  refine AnyG.take (i := 3) (v := ?_) rfl (by kernel_rfl) (by kernel_rfl) (by kernel_rfl) (fun _ _ _ h => h) (by kernel_rfl) (by kernel_rfl) (Or.inl ⟨by rfl, ?_⟩) (by assumption) ?_
  rotate_left
  · intro w9 hSw; (try dsimp only at hSw); go_simp <;> with_reducible rfl
  try simp only [Act.put, List.getElem_toArray, List.getElem_cons_zero, List.getElem_cons_succ, List.setIfInBounds_toArray, List.set_cons_zero, List.set_cons_succ]
  refine AnyG.take (i := 4) (v := ?_) rfl (by kernel_rfl) (by kernel_rfl) (by kernel_rfl) (fun _ _ _ h => h) (by kernel_rfl) (by kernel_rfl) (Or.inl ⟨by rfl, ?_⟩) (by assumption) ?_
  rotate_left
  · intro w9 hSw; (try dsimp only at hSw); go_simp <;> with_reducible rfl
  try simp only [Act.put, List.getElem_toArray, List.getElem_cons_zero, List.getElem_cons_succ, List.setIfInBounds_toArray, List.set_cons_zero, List.set_cons_succ]
  refine AnyG.take (i := 5) (v := ?_) rfl (by kernel_rfl) (by kernel_rfl) (by kernel_rfl) (fun _ _ _ h => h) (by kernel_rfl) (by kernel_rfl) (Or.inl ⟨by rfl, ?_⟩) (by assumption) ?_
  rotate_left
  · intro w9 hSw; (try dsimp only at hSw); go_simp <;> with_reducible rfl
  try simp only [Act.put, List.getElem_toArray, List.getElem_cons_zero, List.getElem_cons_succ, List.setIfInBounds_toArray, List.set_cons_zero, List.set_cons_succ]
  refine AnyG.take (i := 6) (v := ?_) rfl (by kernel_rfl) (by kernel_rfl) (by kernel_rfl) (fun _ _ _ h => h) (by kernel_rfl) (by kernel_rfl) (Or.inl ⟨by rfl, ?_⟩) (by assumption) ?_
  rotate_left
  · intro w9 hSw; (try dsimp only at hSw); go_simp <;> with_reducible rfl
  try simp only [Act.put, List.getElem_toArray, List.getElem_cons_zero, List.getElem_cons_succ, List.setIfInBounds_toArray, List.set_cons_zero, List.set_cons_succ]
  refine AnyG.take (i := 7) (v := ?_) rfl (by kernel_rfl) (by kernel_rfl) (by kernel_rfl) (fun _ _ _ h => h) (by kernel_rfl) (by kernel_rfl) (Or.inl ⟨by rfl, ?_⟩) (by assumption) ?_
  rotate_left
  · intro w9 hSw; (try dsimp only at hSw); go_simp <;> with_reducible rfl
  try simp only [Act.put, List.getElem_toArray, List.getElem_cons_zero, List.getElem_cons_succ, List.setIfInBounds_toArray, List.set_cons_zero, List.set_cons_succ]
  refine AnyG.take (i := 8) (v := ?_) rfl (by kernel_rfl) (by kernel_rfl) (by kernel_rfl) (fun _ _ _ h => h) (by kernel_rfl) (by kernel_rfl) (Or.inl ⟨by rfl, ?_⟩) (by assumption) ?_
  rotate_left
  · intro w9 hSw; (try dsimp only at hSw); go_simp <;> with_reducible rfl
  try simp only [Act.put, List.getElem_toArray, List.getElem_cons_zero, List.getElem_cons_succ, List.setIfInBounds_toArray, List.set_cons_zero, List.set_cons_succ]
  have k0w : W.cell? ⟨b, o1, none⟩ = some (.int .u8 (z0.toNat : Int)) := k0
  have k2w : W.cell? ⟨b, o1 + 2, none⟩ = some (.int .u8 (z2.toNat : Int)) := k2
  have f0w : W.frozen? ⟨b, o1, none⟩ = false := f0
  have f2w : W.frozen? ⟨b, o1 + 2, none⟩ = false := f2
  refine AnyG.step (i := 9) (by kernel_rfl) rfl (fun K hK => ?_)
  go_simp
  refine hK.out _ _ (fun h => absurd h (by decide)) (fun _ => ?_)
  clear hK
  try simp only [Act.put, List.getElem_toArray, List.getElem_cons_zero, List.getElem_cons_succ, List.setIfInBounds_toArray, List.set_cons_zero, List.set_cons_succ]
  refine AnyG.take1 (i := 10) (v := ?_) rfl (by kernel_rfl) (by kernel_rfl) (by kernel_rfl) (fun _ _ _ h => h) (by decide) (Or.inl ⟨by rfl, ?_⟩) (by rfl) ?_
  rotate_left
  · intro w9 hSw; clear hSw; go_simp <;> with_reducible rfl
  try simp only [Act.put, List.getElem_toArray, List.getElem_cons_zero, List.getElem_cons_succ, List.setIfInBounds_toArray, List.set_cons_zero, List.set_cons_succ]
  refine AnyG.step (i := 11) (by kernel_rfl) rfl (fun K hK => ?_)
  go_simp
  refine hK.out _ _ (fun h => absurd h (by decide)) (fun _ => ?_)
  clear hK
  try simp only [Act.put, List.getElem_toArray, List.getElem_cons_zero, List.getElem_cons_succ, List.setIfInBounds_toArray, List.set_cons_zero, List.set_cons_succ]
  refine AnyG.done (by kernel_rfl) ?_ _
  have hd := Lib.hid (World.grownBy.refl W (some b))
  have o2 : Onl b W ((W.drew.setCell ⟨b, o1, none⟩ (.int .u8 (z2.toNat : Int))).setCell ⟨b, o1 + 2, none⟩ (.int .u8 (z0.toNat : Int))) := onl_set (onl_set (onl_drew (World.grownBy.refl _ _)) _ _) _ _
  have hRR : AtB ((W.drew.setCell ⟨b, o1, none⟩ (.int .u8 (z2.toNat : Int))).setCell ⟨b, o1 + 2, none⟩ (.int .u8 (z0.toNat : Int))) b (midB pre (((xs ++ [x]).map (·.1)).foldl (act 3) l) post) U8T := by
   rw [List.map_append, List.foldl_append, ← hm.out]
   show AtB _ b (midB pre (act 3 m x.1) post) U8T
   rw [hact.out]
   exact hR.out
  exact ⟨((KeepsOthers.drew W).trans (KeepsOthers.setCell _ _ _)).trans (KeepsOthers.setCell _ _ _), ⟨o2.block g_q (by omega) (fun e => by have := hbq.out; cases e; omega), o2.block (g_q + 1) (by omega) (fun e => by have := hbq.out; cases e; omega)⟩, hRR, onl_next hB o2, Nat.le_trans hsz2 o2.size⟩
 case done =>
  rintro D xs W hD hxs hI hDef
  have hIx : OwnFrom wB.heap.size _ := TJ.from (w := w) (wB := wB) (b := b) (c := 3) (pre := pre) (post := post) (l := l) (N := N) hbB.out BO.out
  have hJ := Lib.hid (hIx.putObj (.deferred none) hI hD hDef rfl)
  subst hT2
  obtain rfl : xs = List.finRange N := hxs
  clear hI hIx
  go_wp2_with fail
  refine ⟨by simp, .inl ⟨_, _, rfl, run_takeDeferred hDef, ?_⟩⟩
  obtain ⟨h1, h2, -⟩ := hJ.out
  rw [hT.out] at h1
  exact ⟨_, results_none rfl _ _ _, rfl, h2, h1⟩
theorem bturn4 (b off cap N : Nat) (pre post : List Value) (hoff : off = pre.length) (l : List UInt8) (hl : l.length = 4 * N) (hN : N ≤ 100000) (hcap : 4 * N ≤ cap) (w : World) (H : AtB w b (midB pre l post) U8T) :
 Calls Tryz.prog 259 #[.slice (some ⟨b, off, none⟩) (4 * N) cap, .int .i64 4] w fun e w' => e = .returned (.tuple #[]) ∧ Onl b w w' ∧ AtB w' b (midB pre (turn4 l) post) U8T := by
 have hT := Lib.hid (show ((List.finRange N).map (·.1)).foldl (act 4) l = turn4 l by rw [fin_range, acts4 l N hl N (Nat.le_refl _), tk4_all N l hl])
 have hlt := H.lt
 refine (callsIn_wide (n := 3)).1 (callsIn_of_wp_marks Tryz.func259 rfl trivial ?_ rfl)
 refine wpIn_wide.2 ?_
 simp only [Tryz.ntmps259, List.size_toArray, List.length_cons, List.length_nil, Nat.reduceAdd, Nat.reduceSub, Array.replicate_succ, Array.replicate_zero, List.push_toArray, List.append_toArray, List.nil_append, List.cons_append]
 replace hl := Lib.hid hl
 replace hoff := Lib.hid hoff
 replace hcap := Lib.hid hcap
 obtain ⟨M, hM⟩ : ∃ M, M = 4 * N := ⟨_, rfl⟩
 rw [← hM]
 replace hM := Lib.hid hM
 replace hN := Lib.hid hN
 replace H := Lib.hid H
 go_wp2_with fail
 refine (chunk4_any _ _ _ _ _).mono ?_
 rintro e w9 ⟨rfl, rfl⟩
 obtain ⟨hb, hsz, r1, r2⟩ := start2 w #[.slice (some ⟨b, off, none⟩) M cap] 22 #[.int .i64 4] 3
 have HB := Lib.hid (H.out.keep hb)
 have hbw := Lib.hid hb.size
 replace hb := Lib.hid hb
 replace r1 := Lib.hid r1
 replace r2 := Lib.hid r2
 replace hsz := Lib.hid hsz
 go_wp2_with fail
 have hq1 := r1.out.lt
 have hq2 := r2.out.lt
 have hbB := Lib.hid (show b < ((w.alloc (.cells #[.slice (some ⟨b, off, none⟩) M cap] 22)).alloc (.cells #[.int .i64 4] 3)).heap.size from HB.out.lt)
 generalize (w.alloc (.cells #[.slice (some ⟨b, off, none⟩) M cap] 22)).alloc (.cells #[.int .i64 4] 3) = wB at *
 generalize hg : w.heap.size = g_q at *
 have hstops := chunk4_stops g_q (g_q + 1) b off cap N (by have := hN.out; omega) hcap.out wB hq1 hq2 (by rw [← hM.out]; exact r1.out.cell 0 rfl) (r2.out.cell 0 rfl)
 have BO := Lib.hid (show w.heap.size ≤ wB.heap.size by have := hsz.out; omega)
 have hbq := Lib.hid (show b < g_q by omega)
 replace hg := Lib.hid hg
 refine range_wrap fun T hT2 => ?_
 refine (wpIn_wide (n := 4)).1 (wpIn_rangeFunc_ownF (F := Fence.wide) rfl (by omega) (gf := 367) (lb := #[.pointer (some ⟨g_q, 0, none⟩), .pointer (some ⟨g_q + 1, 0, none⟩)]) (by rw [hT2]; rfl) trivial (enters_of Tryz.func367 (by kernel_rfl) rfl) hstops (fun h k => Kept2.trans h k) (fun W l o o' hl h _ _ => Kept2.put hq1 hq2 W l o o' hl h) (Below.refl _ _) (fun _ => rfl)
  (fun xs W => TJ w wB b 4 pre post l xs W)
  (fun _ _ _ => False) (TJ.from hbB.out BO.out) (fun c s W W' row hs _ _ => hs) ⟨HB.out, onl_of (by have h2 := hb.out; rw [← hg.out] at h2; exact h2), Nat.le_refl _⟩
  (fun x => { tmps := (T.setIfInBounds 8 (.slice (some ⟨b, off + 4 * x.1, none⟩) 4 4)).setIfInBounds 4 (.slice (some ⟨b, off + 4 * x.1, none⟩) 4 4), defers := [] }) ?assign ?body ?done ?stop)
 case assign =>
  intro l x W K hK
  subst hT2
  simp only [chF4, List.setIfInBounds_toArray, List.set_cons_zero, List.set_cons_succ] at hK ⊢
  gi_wp2
  exact hK
 case stop => rintro D c pre W hD _ h _; exact h.elim
 case body =>
  rintro lk xs x W ⟨hp, hB, hsz2⟩ hlen
  subst hT2
  simp only [List.setIfInBounds_toArray, List.set_cons_zero, List.set_cons_succ]
  refine wpIn_block ?_
  have hx := x.2
  obtain ⟨m, hm⟩ : ∃ m, m = (xs.map (·.1)).foldl (act 4) l := ⟨_, rfl⟩
  have hml : m.length = 4 * N := by rw [hm, acts_len]; exact hl.out
  rw [← hm] at hp
  have a0 := midB_at (pre := pre) (post := post) (l := m) (i := 4 * x.1) (by omega)
  have a2 := midB_at (pre := pre) (post := post) (l := m) (i := 4 * x.1 + 2) (by omega)
  have s0 := midB_set (pre := pre) (post := post) (l := m) (i := 4 * x.1) (by omega) (m.getD (4 * x.1 + 2) 0)
  have s2 := midB_set (pre := pre) (post := post) (l := m.set (4 * x.1) (m.getD (4 * x.1 + 2) 0)) (i := 4 * x.1 + 2) (by rw [List.length_set]; omega) (m.getD (4 * x.1) 0)
  have hact : Hid (act 4 m x.1 = (m.set (4 * x.1) (m.getD (4 * x.1 + 2) 0)).set (4 * x.1 + 2) (m.getD (4 * x.1) 0)) := rfl
  rw [← hoff.out] at a0 a2 s0 s2
  rw [← Nat.add_assoc] at a2 s2
  have k0 := AtB.cell (AtB.drew hp) _ a0
  have k2 := AtB.cell (AtB.drew hp) _ a2
  have f0 := AtB.fr (AtB.drew hp) (off + 4 * x.1)
  have f2 := AtB.fr (AtB.drew hp) (off + 4 * x.1 + 2)
  have hp1 := AtB.set_n (AtB.drew hp) (off + 4 * x.1) (.int .u8 ((m.getD (4 * x.1 + 2) 0).toNat : Int))
  rw [s0] at hp1
  have hp2 := AtB.set_n hp1 (off + 4 * x.1 + 2) (.int .u8 ((m.getD (4 * x.1) 0).toNat : Int))
  rw [s2] at hp2
  have hcs : Hid (∃ v, (W.drew.setCell ⟨b, off + 4 * x.1, none⟩ (.int .u8 ((m.getD (4 * x.1 + 2) 0).toNat : Int))).cell? ⟨b, off + 4 * x.1 + 2, none⟩ = some v) := by
   have q := midB_at (pre := pre) (post := post) (l := m.set (4 * x.1) (m.getD (4 * x.1 + 2) 0)) (i := 4 * x.1 + 2) (by rw [List.length_set]; omega)
   rw [← hoff.out, ← Nat.add_assoc] at q
   exact ⟨_, hp1.cell _ q⟩
  obtain ⟨v2, k3⟩ := hcs.out
  have f3 := hp1.fr (off + 4 * x.1 + 2)
  have l3 := hp1.lt
  have l0 := hp.lt
  have hR := Lib.hid hp2
  replace hm := Lib.hid hm
  clear hp hp1 hp2 s0 s2 a0 a2 hcs hml
  generalize m.getD (4 * x.1 + 2) 0 = z2 at *
  generalize m.getD (4 * x.1) 0 = z0 at *
  generalize off + 4 * x.1 = o1 at *
  have hS : W.drew.cell? ⟨b, o1, none⟩ = some (.int .u8 (z0.toNat : Int)) ∧ W.drew.cell? ⟨b, o1 + 2, none⟩ = some (.int .u8 (z2.toNat : Int)) := ⟨k0, k2⟩
  refine region_round (fun w9 => w9.cell? ⟨b, o1, none⟩ = some (.int .u8 (z0.toNat : Int)) ∧ w9.cell? ⟨b, o1 + 2, none⟩ = some (.int .u8 (z2.toNat : Int))) 9 (by kernel_rfl) (by kernel_rfl) (by rintro ⟨_, _, h⟩; exact h) ?_
  refine AnyG.take (i := 0) (v := ?_) rfl (by kernel_rfl) (by kernel_rfl) (by kernel_rfl) (fun _ _ _ h => h) (by kernel_rfl) (by kernel_rfl) (Or.inl ⟨by rfl, ?_⟩) (by assumption) ?_
  rotate_left
  · intro w9 hSw; (try dsimp only at hSw); go_simp <;> with_reducible rfl
  try simp only [Act.put, List.getElem_toArray, List.getElem_cons_zero, List.getElem_cons_succ, List.setIfInBounds_toArray, List.set_cons_zero, List.set_cons_succ]
  refine AnyG.take0 (i := 1) (v := ?_) rfl (by kernel_rfl) (by kernel_rfl) (by kernel_rfl) (fun _ _ _ h => h) (by decide) (Or.inl ⟨by rfl, ?_⟩) (by assumption) ?_
  rotate_left
  · intro w9 hSw; clear hSw; go_simp <;> with_reducible rfl
  try simp only [Act.put, List.getElem_toArray, List.getElem_cons_zero, List.getElem_cons_succ, List.setIfInBounds_toArray, List.set_cons_zero, List.set_cons_succ]
  refine AnyG.take (i := 2) (v := ?_) rfl (by kernel_rfl) (by kernel_rfl) (by kernel_rfl) (fun _ _ _ h => h) (by kernel_rfl) (by kernel_rfl) (Or.inl ⟨by rfl, ?_⟩) (by assumption) ?_
  rotate_left
  · intro w9 hSw; (try dsimp only at hSw); go_simp <;> with_reducible rfl
  try simp only [Act.put, List.getElem_toArray, List.getElem_cons_zero, List.getElem_cons_succ, List.setIfInBounds_toArray, List.set_cons_zero, List.set_cons_succ]
  refine AnyG.take (i := 3) (v := ?_) rfl (by kernel_rfl) (by kernel_rfl) (by kernel_rfl) (fun _ _ _ h => h) (by kernel_rfl) (by kernel_rfl) (Or.inl ⟨by rfl, ?_⟩) (by assumption) ?_
  rotate_left
  · intro w9 hSw; (try dsimp only at hSw); go_simp <;> with_reducible rfl
  try simp only [Act.put, List.getElem_toArray, List.getElem_cons_zero, List.getElem_cons_succ, List.setIfInBounds_toArray, List.set_cons_zero, List.set_cons_succ]
  refine AnyG.take (i := 4) (v := ?_) rfl (by kernel_rfl) (by kernel_rfl) (by kernel_rfl) (fun _ _ _ h => h) (by kernel_rfl) (by kernel_rfl) (Or.inl ⟨by rfl, ?_⟩) (by assumption) ?_
  rotate_left
  · intro w9 hSw; (try dsimp only at hSw); go_simp <;> with_reducible rfl
  try simp only [Act.put, List.getElem_toArray, List.getElem_cons_zero, List.getElem_cons_succ, List.setIfInBounds_toArray, List.set_cons_zero, List.set_cons_succ]
  refine AnyG.take (i := 5) (v := ?_) rfl (by kernel_rfl) (by kernel_rfl) (by kernel_rfl) (fun _ _ _ h => h) (by kernel_rfl) (by kernel_rfl) (Or.inl ⟨by rfl, ?_⟩) (by assumption) ?_
  rotate_left
  · intro w9 hSw; (try dsimp only at hSw); go_simp <;> with_reducible rfl
  try simp only [Act.put, List.getElem_toArray, List.getElem_cons_zero, List.getElem_cons_succ, List.setIfInBounds_toArray, List.set_cons_zero, List.set_cons_succ]
  refine AnyG.take (i := 6) (v := ?_) rfl (by kernel_rfl) (by kernel_rfl) (by kernel_rfl) (fun _ _ _ h => h) (by kernel_rfl) (by kernel_rfl) (Or.inl ⟨by rfl, ?_⟩) (by assumption) ?_
  rotate_left
  · intro w9 hSw; (try dsimp only at hSw); go_simp <;> with_reducible rfl
  try simp only [Act.put, List.getElem_toArray, List.getElem_cons_zero, List.getElem_cons_succ, List.setIfInBounds_toArray, List.set_cons_zero, List.set_cons_succ]
  refine AnyG.take (i := 7) (v := ?_) rfl (by kernel_rfl) (by kernel_rfl) (by kernel_rfl) (fun _ _ _ h => h) (by kernel_rfl) (by kernel_rfl) (Or.inl ⟨by rfl, ?_⟩) (by assumption) ?_
  rotate_left
  · intro w9 hSw; (try dsimp only at hSw); go_simp <;> with_reducible rfl
  try simp only [Act.put, List.getElem_toArray, List.getElem_cons_zero, List.getElem_cons_succ, List.setIfInBounds_toArray, List.set_cons_zero, List.set_cons_succ]
  refine AnyG.take (i := 8) (v := ?_) rfl (by kernel_rfl) (by kernel_rfl) (by kernel_rfl) (fun _ _ _ h => h) (by kernel_rfl) (by kernel_rfl) (Or.inl ⟨by rfl, ?_⟩) (by assumption) ?_
  rotate_left
  · intro w9 hSw; (try dsimp only at hSw); go_simp <;> with_reducible rfl
  try simp only [Act.put, List.getElem_toArray, List.getElem_cons_zero, List.getElem_cons_succ, List.setIfInBounds_toArray, List.set_cons_zero, List.set_cons_succ]
  have k0w : W.cell? ⟨b, o1, none⟩ = some (.int .u8 (z0.toNat : Int)) := k0
  have k2w : W.cell? ⟨b, o1 + 2, none⟩ = some (.int .u8 (z2.toNat : Int)) := k2
  have f0w : W.frozen? ⟨b, o1, none⟩ = false := f0
  have f2w : W.frozen? ⟨b, o1 + 2, none⟩ = false := f2
  refine AnyG.step (i := 9) (by kernel_rfl) rfl (fun K hK => ?_)
  go_simp
  refine hK.out _ _ (fun h => absurd h (by decide)) (fun _ => ?_)
  clear hK
  try simp only [Act.put, List.getElem_toArray, List.getElem_cons_zero, List.getElem_cons_succ, List.setIfInBounds_toArray, List.set_cons_zero, List.set_cons_succ]
  refine AnyG.take1 (i := 10) (v := ?_) rfl (by kernel_rfl) (by kernel_rfl) (by kernel_rfl) (fun _ _ _ h => h) (by decide) (Or.inl ⟨by rfl, ?_⟩) (by rfl) ?_
  rotate_left
  · intro w9 hSw; clear hSw; go_simp <;> with_reducible rfl
  try simp only [Act.put, List.getElem_toArray, List.getElem_cons_zero, List.getElem_cons_succ, List.setIfInBounds_toArray, List.set_cons_zero, List.set_cons_succ]
  refine AnyG.step (i := 11) (by kernel_rfl) rfl (fun K hK => ?_)
  go_simp
  refine hK.out _ _ (fun h => absurd h (by decide)) (fun _ => ?_)
  clear hK
  try simp only [Act.put, List.getElem_toArray, List.getElem_cons_zero, List.getElem_cons_succ, List.setIfInBounds_toArray, List.set_cons_zero, List.set_cons_succ]
  refine AnyG.done (by kernel_rfl) ?_ _
  have hd := Lib.hid (World.grownBy.refl W (some b))
  have o2 : Onl b W ((W.drew.setCell ⟨b, o1, none⟩ (.int .u8 (z2.toNat : Int))).setCell ⟨b, o1 + 2, none⟩ (.int .u8 (z0.toNat : Int))) := onl_set (onl_set (onl_drew (World.grownBy.refl _ _)) _ _) _ _
  have hRR : AtB ((W.drew.setCell ⟨b, o1, none⟩ (.int .u8 (z2.toNat : Int))).setCell ⟨b, o1 + 2, none⟩ (.int .u8 (z0.toNat : Int))) b (midB pre (((xs ++ [x]).map (·.1)).foldl (act 4) l) post) U8T := by
   rw [List.map_append, List.foldl_append, ← hm.out]
   show AtB _ b (midB pre (act 4 m x.1) post) U8T
   rw [hact.out]
   exact hR.out
  exact ⟨((KeepsOthers.drew W).trans (KeepsOthers.setCell _ _ _)).trans (KeepsOthers.setCell _ _ _), ⟨o2.block g_q (by omega) (fun e => by have := hbq.out; cases e; omega), o2.block (g_q + 1) (by omega) (fun e => by have := hbq.out; cases e; omega)⟩, hRR, onl_next hB o2, Nat.le_trans hsz2 o2.size⟩
 case done =>
  rintro D xs W hD hxs hI hDef
  have hIx : OwnFrom wB.heap.size _ := TJ.from (w := w) (wB := wB) (b := b) (c := 4) (pre := pre) (post := post) (l := l) (N := N) hbB.out BO.out
  have hJ := Lib.hid (hIx.putObj (.deferred none) hI hD hDef rfl)
  subst hT2
  obtain rfl : xs = List.finRange N := hxs
  clear hI hIx
  go_wp2_with fail
  refine ⟨by simp, .inl ⟨_, _, rfl, run_takeDeferred hDef, ?_⟩⟩
  obtain ⟨h1, h2, -⟩ := hJ.out
  rw [hT.out] at h1
  exact ⟨_, results_none rfl _ _ _, rfl, h2, h1⟩
end Go.Proofs.YtikpobembcgbfaaGreatDoor
