/- The walk of the document's 'Mul': digits times digits. -/
import Derived.Test.YtnklbnphiokpiaaBig6
import Derived.Deep.OwnRows
import Derived.Deep.QuietTactic
import Derived.BigQuiet
import Derived.StillTailTactics
set_option linter.unusedVariables false
namespace Go.Proofs.Ytnklbnphiokpiaa
open Go.RowKit

/-- A row of the call's own that holds these digits. -/
def DL (w : World) (g : Nat) (os : List Int) : Prop := w.rowIs g 3 os.length (fun i => .int .i64 (os.getD i 0))

theorem DL.set {w : World} {g : Nat} {os : List Int} (h : DL w g os) {i : Nat} (hi : i < os.length) (v : Int) : DL (w.setCell ⟨g, i, none⟩ (.int .i64 v)) g (os.set i v) := by
  unfold DL
  rw [List.length_set]
  refine (World.rowIs.set h i (.int .i64 v)).congr fun j hj => ?_
  simp only [List.getD_eq_getElem?_getD, List.getElem?_set]
  by_cases e : j = i
  · subst e; simp [hi]
  · rw [if_neg e, if_neg (fun h => e h.symm)]
theorem DL.of_block {w w1 : World} {g : Nat} {os : List Int} (h : DL w g os) (e : w1.heap[g]? = w.heap[g]?) : DL w1 g os := World.rowIs.of_block h e
theorem DL.cell {w : World} {g : Nat} {os : List Int} (h : DL w g os) {i : Nat} (hi : i < os.length) : w.cell? ⟨g, i, none⟩ = some (.int .i64 (os.getD i 0)) := World.rowIs.cell h hi
theorem DL.fr {w : World} {g : Nat} {os : List Int} (h : DL w g os) (i : Nat) : w.frozen? ⟨g, i, none⟩ = false := World.rowIs.frozen h i
theorem DL.lt {w : World} {g : Nat} {os : List Int} (h : DL w g os) : g < w.heap.size := World.rowIs.lt h
theorem DL.dr {w : World} {g : Nat} {os : List Int} (h : DL w g os) {n cap : Nat} (hn : n = os.length) (hc : n ≤ cap) : DR w (.slice (some ⟨g, 0, none⟩) n cap) os := by
  subst hn
  obtain ⟨c, hb, _, _⟩ := id h
  exact .inr ⟨g, 0, _, rfl, hc, ⟨c, _, hb⟩, fun i hi => by rw [Nat.zero_add]; exact h.cell hi⟩
theorem DL.made (w : World) (n : Nat) : DL (w.alloc (.cells (madeCells #[.int .i64 0] n) 3)) w.heap.size (List.replicate n 0) := by
  unfold DL
  rw [List.length_replicate]
  refine (World.rowIs_made w (.int .i64 0) n 3).congr fun i hi => ?_
  simp [List.getD_eq_getElem?_getD, hi]

def MO (a b os : List Int) (i : Nat) : Prop := os.length = a.length + b.length + 1 ∧ Dig os ∧ (∀ j, i + b.length ≤ j → os.getD j 0 = 0) ∧ bval os = bval (a.take i) * bval b
def MI (a b os : List Int) (i k : Nat) (c : Int) : Prop := os.length = a.length + b.length + 1 ∧ Dig os ∧ (∀ j, i + b.length ≤ j → os.getD j 0 = 0) ∧
  bval os + P2 (i + k) * c = bval (a.take i) * bval b + P2 i * (a.getD i 0 * bval (b.take k))

theorem MO.start (a b : List Int) : MO a b (List.replicate (a.length + b.length + 1) 0) 0 := by
  refine ⟨by simp, Dig.zeros _, fun j _ => ?_, by simp [zeros_val, bval]⟩
  simp only [List.getD_eq_getElem?_getD, List.getElem?_replicate]
  split <;> rfl
theorem MO.inner {a b os : List Int} {i : Nat} (h : MO a b os i) : MI a b os i 0 0 := ⟨h.1, h.2.1, h.2.2.1, by rw [h.2.2.2]; simp [bval]⟩
theorem MI.step {a b os : List Int} {i k : Nat} {c s : Int} (h : MI a b os i k c) (hi : i < a.length) (hk : k < b.length) (hs : s = os.getD (i + k) 0 + a.getD i 0 * b.getD k 0 + c) (h0 : 0 ≤ s) :
    MI a b (os.set (i + k) (s % 32768)) i (k + 1) (s / 32768) := by
  obtain ⟨h1, h2, h3, h4⟩ := h
  refine ⟨by simpa using h1, h2.set _ ⟨by omega, by omega⟩, fun j hj => ?_, ?_⟩
  · have h5 := h3 j hj
    simp only [List.getD_eq_getElem?_getD, List.getElem?_set] at h5 ⊢
    rw [if_neg (by omega)]; exact h5
  · rw [set_val _ _ _ (by omega), take_succ_val, ← Nat.add_assoc, P2_succ]
    have e := Int.mul_ediv_add_emod s 32768
    have e2 := P2_add i k
    generalize s % 32768 = q at *
    generalize s / 32768 = r at *
    generalize os.getD (i + k) 0 = o at *
    generalize a.getD i 0 = u at *
    generalize b.getD k 0 = v at *
    rw [e2] at h4 ⊢
    subst hs
    grind
theorem MI.outer {a b os : List Int} {i : Nat} {c : Int} (h : MI a b os i b.length c) (hi : i < a.length) (h0 : 0 ≤ c) (hc : c < 32768) : MO a b (os.set (i + b.length) c) (i + 1) := by
  obtain ⟨h1, h2, h3, h4⟩ := h
  refine ⟨by simpa using h1, h2.set _ ⟨h0, hc⟩, fun j hj => ?_, ?_⟩
  · have h5 := h3 j (by omega)
    simp only [List.getD_eq_getElem?_getD, List.getElem?_set] at h5 ⊢
    rw [if_neg (by omega)]; exact h5
  · rw [set_val _ _ _ (by omega), take_succ_val, h3 _ (Nat.le_refl _)]
    rw [List.take_length] at h4
    grind
theorem MO.end_ {a b os : List Int} (h : MO a b os a.length) : bval os = bval a * bval b := by
  have := h.2.2.2
  rwa [List.take_length] at this

theorem dig_mul {u v : Int} (hu : 0 ≤ u ∧ u < 32768) (hv : 0 ≤ v ∧ v < 32768) : 0 ≤ u * v ∧ u * v ≤ 1073676289 := by
  refine ⟨Int.mul_nonneg hu.1 hv.1, ?_⟩
  have := Int.mul_le_mul (show u ≤ 32767 by omega) (show v ≤ 32767 by omega) hv.1 (by omega)
  omega

theorem sgn_mul (x y : Int) : x * y = if (sgn x != sgn y) then -((x.natAbs : Int) * y.natAbs) else (x.natAbs : Int) * y.natAbs := by
  rcases Int.lt_or_le x 0 with hx | hx <;> rcases Int.lt_or_le y 0 with hy | hy
  · rw [sgn_t hx, sgn_t hy, if_neg (by decide), show (x.natAbs : Int) = -x by omega, show (y.natAbs : Int) = -y by omega]; grind
  · rw [sgn_t hx, sgn_f hy, if_pos (by decide), show (x.natAbs : Int) = -x by omega, show (y.natAbs : Int) = y by omega]; grind
  · rw [sgn_f hx, sgn_t hy, if_pos (by decide), show (x.natAbs : Int) = x by omega, show (y.natAbs : Int) = -y by omega]; grind
  · rw [sgn_f hx, sgn_f hy, if_neg (by decide), show (x.natAbs : Int) = x by omega, show (y.natAbs : Int) = y by omega]

theorem box_reads {w : World} {g : Nat} {a0 a1 : Value} {T : TypeId} (h : w.heap[g]? = some (.cells #[a0, a1] T (0, 0))) :
    w.cell? ⟨g, 0, none⟩ = some a0 ∧ w.cell? ⟨g, 1, none⟩ = some a1 ∧ w.frozen? ⟨g, 0, none⟩ = false ∧ w.frozen? ⟨g, 1, none⟩ = false := by
  simp [World.cell?, World.frozen?, h]

/-- The world behind the boxes of two parameters and of a result. -/
abbrev W3 (w : World) (a0 a1 b0 b1 : Value) : World := ((w.alloc (.cells #[a0, a1] 38)).alloc (.cells #[b0, b1] 38)).alloc (.cells #[.bool false, .slice none 0 0] 38)
theorem W3.size (w : World) (a0 a1 b0 b1 : Value) : (W3 w a0 a1 b0 b1).heap.size = w.heap.size + 3 := by simp
theorem W3.below (w : World) (a0 a1 b0 b1 : Value) : Below w.heap.size w (W3 w a0 a1 b0 b1) := below_new (below_new (below_new (Below.refl _ _) _) _) _
theorem W3.boxes {w wr : World} {a0 a1 b0 b1 : Value} (hb : Below (w.heap.size + 3) (W3 w a0 a1 b0 b1) wr) :
    (wr.cell? ⟨w.heap.size, 0, none⟩ = some a0 ∧ wr.cell? ⟨w.heap.size, 1, none⟩ = some a1 ∧ wr.cell? ⟨w.heap.size + 1, 0, none⟩ = some b0 ∧ wr.cell? ⟨w.heap.size + 1, 1, none⟩ = some b1) ∧
    w.heap.size + 2 < wr.heap.size ∧ Below w.heap.size w wr ∧ wr.heap[w.heap.size + 2]? = some (.cells #[.bool false, .slice none 0 0] 38 (0, 0)) := by
  refine boxes_call (w1 := wr) ⟨hb.os, hb.tape, hb.output, hb.size, fun k hk => hb.block k ?_⟩
  have e : (W3 w a0 a1 b0 b1).heap.size = w.heap.size + 3 := W3.size ..
  exact e ▸ hk

set_option maxRecDepth 100000 in
theorem mul_any (u v : Value) (x y : Int) (w : World) (hu : BR w u x) (hv : BR w v y) (hx : Mid x) (hy : Mid y) :
    Calls Try.prog 21 #[u, v] w (GiveB (x * y) w) := by
  obtain ⟨s, rfl, a, ha, ca, ea⟩ := hu
  obtain ⟨t, rfl, b, hb, cb, eb⟩ := hv
  have la := huge_len ca (by have := hx.1; have := hx.2; omega)
  have lb := huge_len cb (by have := hy.1; have := hy.2; omega)
  have HS := Lib.hid (sgn_mul x y)
  obtain ⟨A, capa, rfl⟩ := ha.form
  obtain ⟨B, capb, rfl⟩ := hb.form
  have HA := Lib.hid ha
  have HB := Lib.hid hb
  have HE := Lib.hid (show (x.natAbs : Int) * y.natAbs = bval a * bval b by rw [ea, eb])
  generalize sgn x = sx at *
  generalize sgn y = sy at *
  clear ha hb hx hy ea eb
  obtain ⟨i0, hi, hz0, hz1, hz2⟩ := info_parts info_int
  go_enter Try.func21, Try.ntmps21
  go_wp2_with (at_make; refine wpList_make_row _ rfl (.tmp 17) (.tmp 17) 36 rfl 3 i0 (.int .i64 0) Try.underlying36 hi hz0 hz1 rfl .i64 .i64 (a.length + b.length + 1) (by first | rfl | (simp [go_sem]; done)) (by first | rfl | (simp [go_sem]; done)) (by rw [hz2]; omega) (by omega) ?_)
  go_loopw [6, 7, 8, 9] (fun i cy k s wr => ∃ (p : Nat) (os : List Int), p ≤ a.length ∧ i = .int .i64 p ∧ Hid (DL wr (w.heap.size + 3) os ∧ MO a b os p) ∧ Below (w.heap.size + 3) (W3 w (.bool sx) (.slice A a.length capa) (.bool sy) (.slice B b.length capb)) wr) (fun i _ _ _ _ => 2001 - (intOf i).toNat)
  case atStart =>
    have hm := DL.made (W3 w (.bool sx) (.slice A a.length capa) (.bool sy) (.slice B b.length capb)) (a.length + b.length + 1)
    rw [W3.size] at hm
    exact ⟨0, _, by omega, rfl, ⟨hm, MO.start a b⟩, (Below.refl _ _).alloc (Nat.le_of_eq (W3.size ..).symm) _⟩
  case round =>
    obtain ⟨p, os, hp, rfl, hinv, hbel⟩ := hrel
    obtain ⟨⟨c0, c1, c2, c3⟩, hsz, HB1, HR⟩ := W3.boxes hbel
    have HB1 := Lib.hid HB1
    have HR := Lib.hid HR
    have HB2 := Lib.hid hbel
    clear hbel
    by_cases hlt : (p : Int) < a.length
    · go_wp2_with fail
      go_loopw [7, 8, 9] (fun cy k _ wi => ∃ (q : Nat) (c : Int) (os : List Int), q ≤ b.length ∧ k = .int .i64 q ∧ cy = .int .i64 c ∧ 0 ≤ c ∧ c < 32768 ∧ Hid (DL wi (w.heap.size + 3) os ∧ MI a b os p q c) ∧ Below (w.heap.size + 3) (W3 w (.bool sx) (.slice A a.length capa) (.bool sy) (.slice B b.length capb)) wi) (fun _ k _ _ => 2001 - (intOf k).toNat)
      case atStart => exact ⟨0, 0, os, by omega, rfl, rfl, by omega, by omega, ⟨hinv.out.1, hinv.out.2.inner⟩, HB2.out⟩
      case round =>
        obtain ⟨q, c, os, hq, rfl, rfl, hc0, hc1, hinv, hbel⟩ := hrel
        obtain ⟨⟨d0, d1, d2, d3⟩, hsz', HB3, HR'⟩ := W3.boxes hbel
        have HB3 := Lib.hid HB3
        have HB4 := Lib.hid hbel
        clear hbel c0 c1 c2 c3 HR'
        by_cases hlq : (q : Int) < b.length
        · obtain ⟨hD, hM⟩ := hinv.out
          have hla := hM.1
          have cO := hD.cell (i := p + q) (by omega)
          have fO := hD.fr (p + q)
          have gO := hD.lt
          rcases HA.out.below HB3.out with ⟨_, h⟩ | ⟨ba, oa, capa', e, hca, _, hcellA⟩
          · subst h; simp at hlt; omega
          rcases HB.out.below HB3.out with ⟨_, h⟩ | ⟨bb, ob, capb', e', hcb, _, hcellB⟩
          · subst h; simp at hlq; omega
          injection e with e1 e2 e3
          injection e' with e1' e2' e3'
          subst e1 e1' e3 e3'
          clear e2 e2'
          have cA := hcellA p (by omega)
          have cB := hcellB q (by omega)
          clear hcellA hcellB
          have dO := hM.2.1.at (p + q)
          have dA := ca.1.at p
          have dB := cb.1.at q
          obtain ⟨m0, m1⟩ := dig_mul dA dB
          have HM := Lib.hid (fun s hs h0 => hM.step (s := s) (by omega) (by omega) hs h0)
          have HX := Lib.hid (fun (n : Nat) (v : Int) => DL.set (w := wr.drewN n) (hD.of_block rfl) (i := p + q) (by omega) v)
          clear hinv hM hD
          generalize os.getD (p + q) 0 = o at *
          generalize a.getD p 0 = u at *
          generalize b.getD q 0 = v at *
          obtain ⟨o0, o1⟩ := dO
          clear dA dB
          go_wp2_with fail
          go_quiet (fail)
          go_wp2_with fail
          have hr0 : 0 ≤ o + u * v + c := by omega
          go_roundw
          case rel =>
            exact ⟨q + 1, (o + u * v + c) / 32768, _, by omega, rfl, rfl, by omega, by omega, ⟨HX.out _ _, HM.out _ rfl hr0⟩, (below_drawn HB4.out nq).setCell (p := ⟨_, _, none⟩) (Nat.le_refl _) _⟩
          case measure => simp [intOf]; omega
        · obtain rfl : q = b.length := by omega
          obtain ⟨hD, hM⟩ := hinv.out
          have hla := hM.1
          have cO := hD.cell (i := p + b.length) (by omega)
          have fO := hD.fr (p + b.length)
          have gO := hD.lt
          rw [hM.2.2.1 _ (Nat.le_refl _)] at cO
          have HM := Lib.hid (hM.outer (by omega) hc0 hc1)
          have HX := Lib.hid (fun (n : Nat) (v : Int) => DL.set (w := wr.drewN n) (hD.of_block rfl) (i := p + b.length) (by omega) v)
          clear hinv hM hD
          go_wp2_with fail
          go_region
          all_goals go_wp2_with fail
          go_roundw
          case rel => exact ⟨p + 1, _, by omega, rfl, ⟨(HX.out 1 _), HM.out⟩, ((HB4.out.setCell (p := ⟨_, _, none⟩) (Nat.le_refl _) _).drew)⟩
          case measure => simp [intOf]; omega
    · obtain rfl : p = a.length := by omega
      obtain ⟨hD, hM⟩ := hinv.out
      have C1 : Hid (∀ w1, Below wr.heap.size wr w1 → Calls Try.prog 64 #[.slice (some ⟨w.heap.size + 1 + 1 + 1, 0, none⟩) (a.length + b.length + 1) (a.length + b.length + 1)] w1 (GiveN ((x.natAbs : Int) * y.natAbs) wr)) :=
        fun w1 hw => trim_give hw ((hD.dr (n := a.length + b.length + 1) (cap := a.length + b.length + 1) hM.1.symm (Nat.le_refl _)).below hw) hM.2.1 (by have := hM.1; omega) (by rw [HE.out]; exact hM.end_)
      clear hinv hM hD
      have K0 : wr.cell? ⟨w.heap.size, 0, none⟩ = some (.bool sx) ∧ wr.cell? ⟨w.heap.size, 1, none⟩ = some (.slice A a.length capa) ∧ wr.cell? ⟨w.heap.size + 1, 0, none⟩ = some (.bool sy) ∧ wr.cell? ⟨w.heap.size + 1, 1, none⟩ = some (.slice B b.length capb) := ⟨c0, c1, c2, c3⟩
      obtain ⟨r0, r1, r2, r3⟩ := box_reads HR.out
      clear c0 c1 c2 c3 HA HB
      go_wp2_with fail
      go_region_held3 (fun w' => w'.cell? ⟨w.heap.size, 0, none⟩ = some (.bool sx) ∧ w'.cell? ⟨w.heap.size, 1, none⟩ = some (.slice A a.length capa) ∧ w'.cell? ⟨w.heap.size + 1, 0, none⟩ = some (.bool sy) ∧ w'.cell? ⟨w.heap.size + 1, 1, none⟩ = some (.slice B b.length capb))
        (first | exact K0 | exact K1 | exact K2 | exact boxes_set _ _ K2)
        (first
          | (go_at_call 64
             refine (C1.out _ ?_).mono ?_
             · repeat (first | exact Below.refl _ _ | apply below_drew | apply below_new)
             rintro e w1 ⟨r, rfl, hb1, hr⟩
             have K1 := boxes_keep hb1 (Nat.lt_of_succ_lt hsz) K0
             have Z1 : w.heap.size + 2 < w1.heap.size := Nat.lt_of_lt_of_le hsz hb1.size
             have B1 := Lib.hid (below_next HB1.out hb1)
             have H1 := Lib.hid ((hb1.block _ hsz).trans HR.out)
             obtain ⟨hc1, hf1⟩ := below_reads hb1
             have hr := Lib.hid hr
             clear hb1)
          | (go_at_call 60
             refine (made_any _ _ _ _ _ hr.out HS.out).mono ?_
             rintro e w2 ⟨r2, rfl, hb2, hr2⟩
             obtain ⟨A', n', cap', rfl, hn'⟩ := hr2.form
             have K2 := boxes_keep hb2 (Nat.lt_of_succ_lt Z1) K1
             have B2 := Lib.hid (below_next B1.out hb2)
             have H2 := Lib.hid ((hb2.block _ Z1).trans H1.out)
             have N2 := Lib.hid hn'
             obtain ⟨hc2, hf2⟩ := below_reads hb2
             clear hb2 hr2 hn'))
      clear K0 K1 HS C1
      go_wp2_with fail
      refine bodyPost_ret (v := .agg #[.bool (sgn (x * y)), .slice A' n' cap']) (by unfold results; simp only [Try.results21]; go_simp) rfl ?_
      exact give_box B2.out N2.out H2.out (by omega) rfl

end Go.Proofs.Ytnklbnphiokpiaa
