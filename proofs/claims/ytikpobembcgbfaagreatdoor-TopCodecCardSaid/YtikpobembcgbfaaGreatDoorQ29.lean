/- Parts of the proof: App Wl2 Wl3 Wl4 Cm3 Cm4. -/
import Derived.Test.YtikpobembcgbfaaGreatDoorQ28
import Derived.Test.YtikpobembcgbfaaGreatDoorQ27
import Derived.Test.YtikpobembcgbfaaGreatDoorQ14
import Derived.Deep.AppendLies
set_option linter.unusedVariables false
set_option linter.unusedSimpArgs false
set_option maxRecDepth 100000
set_option maxHeartbeats 40000000
namespace Go.Proofs.YtikpobembcgbfaaGreatDoor
open Go.RowKit Go.Lib
theorem app_el {e t : TypeId} {z : Value} {sz by_ : Nat} (hu : Tryz.prog.underlying t = some (.slice e)) (hinfo : (Tryz.prog.info? e).map (fun i => (i.zero, i.size, i.bytes)) = some (some z, sz, by_)) (hz : z.cells.size = sz) (hs : 0 < sz)
 (wr : World) (base : Nat) (u : Value) (n : Nat) (xs news : List Value) (hown : wr.ownsRow base e sz u n xs) (hl : news.length = sz) (h1 : ∀ v ∈ news, v.oneCell' = true) (hn : n ≤ 1000) (hb : by_ ≤ 1000) (hbase : base ≤ wr.heap.size) :
 ∃ g cap w', (∀ ty, (Builtin.append_ #[t, t] ty #[u, .slice (some ⟨wr.heap.size, 0, none⟩) 1 1]).run Tryz.prog (wr.alloc (.cells news.toArray e)) = .ok (.slice (some ⟨g, 0, none⟩) (n + 1) cap) w') ∧
   w'.ownsRow base e sz (.slice (some ⟨g, 0, none⟩) (n + 1) cap) (n + 1) (xs ++ news) ∧ (wr.alloc (.cells news.toArray e)).grownBy w' u.ownBlock ∧ (u.ownBlock = some g ∨ wr.heap.size ≤ g) := by
 obtain ⟨i0, hi0, hz0, hz1, hz2⟩ := info_parts hinfo
 have hnew : ∀ j v, news[j]? = some v → (wr.alloc (.cells news.toArray e)).cell? ((⟨wr.heap.size, 0, none⟩ : Addr).add j) = some v := by
  intro j v hj
  rw [addr_add, Nat.zero_add]
  exact (new_at wr news.toArray e).cell j (by simpa using hj)
 obtain ⟨g, cap, w', hr, ho, hgr, hat, -⟩ := run_append_lies (P := Tryz.prog) (wr.alloc (.cells news.toArray e)) t t base e i0 z sz by_ hu hi0 hz0 hz1 hz2 hz hs u n xs (hown.alloc _) ⟨wr.heap.size, 0, none⟩ 1 1 news (by rw [hl, Nat.one_mul]) hnew h1 (by decide) (by unfold maxLen; omega) (by have := Nat.mul_le_mul (show n + 1 ≤ 1001 by omega) hb; omega) (by simp; omega) _ rfl
 refine ⟨g, cap, w', fun ty => hr, ho, hgr, hat.elim .inl (fun e => .inr (by rw [e]; simp))⟩
abbrev StT : TypeId := 9
abbrev SsT : TypeId := 41
abbrev LnT : TypeId := 56
abbrev LsT : TypeId := 52
theorem info_st : (Tryz.prog.info? StT).map (fun i => (i.zero, i.size, i.bytes)) = some (some (.string ⟨#[]⟩), 1, 16) := by kernel_rfl
theorem info_ln : (Tryz.prog.info? LnT).map (fun i => (i.zero, i.size, i.bytes)) = some (some (.agg #[.int .i64 0, .slice none 0 0]), 2, 32) := by kernel_rfl
theorem app_st (wr : World) (base : Nat) (u : Value) (n : Nat) (xs : List Value) (s : ByteArray) (hown : wr.ownsRow base StT 1 u n xs) (hn : n ≤ 1000) (hbase : base ≤ wr.heap.size) :
 ∃ g cap w', (∀ ty, (Builtin.append_ #[SsT, SsT] ty #[u, .slice (some ⟨wr.heap.size, 0, none⟩) 1 1]).run Tryz.prog (wr.alloc (.cells #[.string s] StT)) = .ok (.slice (some ⟨g, 0, none⟩) (n + 1) cap) w') ∧
   w'.ownsRow base StT 1 (.slice (some ⟨g, 0, none⟩) (n + 1) cap) (n + 1) (xs ++ [.string s]) ∧ (wr.alloc (.cells #[.string s] StT)).grownBy w' u.ownBlock ∧ (u.ownBlock = some g ∨ wr.heap.size ≤ g) :=
 app_el Tryz.underlying41 info_st rfl (by decide) wr base u n xs [.string s] hown rfl (by simp [Value.oneCell']) hn (by decide) hbase
theorem app_ln (wr : World) (base : Nat) (u : Value) (n : Nat) (xs : List Value) (z : Int) (A : Option Addr) (m c : Nat) (hown : wr.ownsRow base LnT 2 u n xs) (hn : n ≤ 1000) (hbase : base ≤ wr.heap.size) :
 ∃ g cap w', (∀ ty, (Builtin.append_ #[LsT, LsT] ty #[u, .slice (some ⟨wr.heap.size, 0, none⟩) 1 1]).run Tryz.prog (wr.alloc (.cells #[.int .i64 z, .slice A m c] LnT)) = .ok (.slice (some ⟨g, 0, none⟩) (n + 1) cap) w') ∧
   w'.ownsRow base LnT 2 (.slice (some ⟨g, 0, none⟩) (n + 1) cap) (n + 1) (xs ++ [.int .i64 z, .slice A m c]) ∧ (wr.alloc (.cells #[.int .i64 z, .slice A m c] LnT)).grownBy w' u.ownBlock ∧ (u.ownBlock = some g ∨ wr.heap.size ≤ g) :=
 app_el Tryz.underlying52 info_ln rfl (by decide) wr base u n xs [.int .i64 z, .slice A m c] hown rfl (by simp [Value.oneCell']) hn (by decide) hbase
theorem own_ne {w : World} {base sz n x : Nat} {e T : TypeId} {v : Value} {xs : List Value} {cs : Array Value} (h : w.ownsRow base e sz v n xs) (hc : AtB w x cs T) (ht : e ≠ T) : v.ownBlock ≠ some x := by
 rcases h.2 with ⟨rfl, -⟩ | ⟨g, cap, cur, rfl, -, hh, -⟩
 · simp [Value.ownBlock]
 · intro k
   simp only [Value.ownBlock, Option.some.injEq] at k
   subst k
   have := hc.heap
   rw [hh] at this
   simp only [Option.some.injEq, Obj.cells.injEq] at this
   exact ht this.2.1
theorem own_ne2 {w : World} {base base' sz sz' n n' : Nat} {e e' : TypeId} {v v' : Value} {xs xs' : List Value} (h : w.ownsRow base e sz v n xs) (h' : w.ownsRow base' e' sz' v' n' xs') (ht : e ≠ e') : v.ownBlock = none ∨ v.ownBlock ≠ v'.ownBlock := by
 rcases h.2 with ⟨rfl, -⟩ | ⟨g, cap, cur, rfl, -, hh, -⟩
 · left; rfl
 · right
   rcases h'.2 with ⟨rfl, -⟩ | ⟨g', cap', cur', rfl, -, hh', -⟩
   · simp [Value.ownBlock]
   · intro k
     simp only [Value.ownBlock, Option.some.injEq] at k
     subst k
     rw [hh] at hh'
     simp only [Option.some.injEq, Obj.cells.injEq] at hh'
     exact ht hh'.2.1
/-- What holds in a line: the scanner, the line's box, the words, the lines; nothing before B has turned. -/
structure LnS (B g gl : Nat) (s : ByteArray) (i nn ov : Int) (out Wv : Value) (m j : Nat) (xs ws : List Value) (w cur : World) : Prop where
 c : AtB cur g #[.string s, .int .i64 i, .int .i64 nn, out, .int .i64 ov] ScT
 l : AtB cur gl #[.int .i64 nn, Wv] LnT
 words : cur.ownsRow gl StT 1 Wv j ws
 fresh : w.heap.size ≤ gl
 old : ∀ v n us, w.ownsRow B StT 1 v n us → cur.ownsRow B StT 1 v n us
 lines : cur.ownsRow B LnT 2 out m xs
 ne : out.ownBlock ≠ some gl
 low : Below B w cur
 size : gl ≤ cur.heap.size
 hB : B ≤ gl
/-- A line was taken: its words, behind the lines that there were. -/
def GiveLn (B g : Nat) (s : ByteArray) (i nn ov : Int) (m : Nat) (xs : List Value) (s0 s1 : ByteArray) (w : World) (e : Ending) (w' : World) : Prop :=
 ∃ ga capa A cap, e = .returned (.bool true) ∧ Below B w w' ∧ AtB w' g #[.string s, .int .i64 i, .int .i64 nn, .slice (some ⟨ga, 0, none⟩) (m + 1) capa, .int .i64 ov] ScT ∧
   w'.ownsRow B LnT 2 (.slice (some ⟨ga, 0, none⟩) (m + 1) capa) (m + 1) (xs ++ [.int .i64 nn, .slice A 2 cap]) ∧ w'.ownsRow B StT 1 (.slice A 2 cap) 2 [.string s0, .string s1] ∧ ∀ v n us, w.ownsRow B StT 1 v n us → w'.ownsRow B StT 1 v n us
theorem LnS.onl {B g gl : Nat} {s : ByteArray} {i i' nn ov : Int} {out Wv : Value} {m j : Nat} {xs ws : List Value} {w a b : World} (h : LnS B g gl s i nn ov out Wv m j xs ws w a) (hB : B ≤ g) (hgl : gl ≠ g) (k : Onl g a b) (hc : AtB b g #[.string s, .int .i64 i', .int .i64 nn, out, .int .i64 ov] ScT) : LnS B g gl s i' nn ov out Wv m j xs ws w b :=
 ⟨hc, h.l.onl hgl k, h.words.kept k (.inr (own_ne h.words h.c (by decide))), h.fresh, fun v n us hu => (h.old v n us hu).kept k (.inr (own_ne (h.old v n us hu) h.c (by decide))), h.lines.kept k (.inr (own_ne h.lines h.c (by decide))), h.ne, h.low.grown k (Nat.le_trans h.hB h.size) (fun j e => by cases e; exact hB), Nat.le_trans h.size k.size, h.hB⟩
theorem LnS.drawn {B g gl : Nat} {s : ByteArray} {i nn ov : Int} {out Wv : Value} {m j : Nat} {xs ws : List Value} {w a : World} (h : LnS B g gl s i nn ov out Wv m j xs ws w a) (n : Nat) : LnS B g gl s i nn ov out Wv m j xs ws w (a.drewN n) :=
 ⟨h.c.keep (below_drawn (Below.refl _ _) n), h.l.keep (below_drawn (Below.refl _ _) n), own_below h.words (below_drawn (Below.refl _ _) n), h.fresh, fun v m us hu => own_below (h.old v m us hu) (below_drawn (Below.refl _ _) n), own_below h.lines (below_drawn (Below.refl _ _) n), h.ne, below_drawn h.low n, h.size, h.hB⟩
theorem LnS.drew {B g gl : Nat} {s : ByteArray} {i nn ov : Int} {out Wv : Value} {m j : Nat} {xs ws : List Value} {w a : World} (h : LnS B g gl s i nn ov out Wv m j xs ws w a) : LnS B g gl s i nn ov out Wv m j xs ws w a.drew :=
 ⟨h.c.keep (below_drew (Below.refl _ _)), h.l.keep (below_drew (Below.refl _ _)), own_below h.words (below_drew (Below.refl _ _)), h.fresh, fun v m us hu => own_below (h.old v m us hu) (below_drew (Below.refl _ _)), own_below h.lines (below_drew (Below.refl _ _)), h.ne, h.low.drew, h.size, h.hB⟩
theorem row_apart {B g gl : Nat} {s : ByteArray} {i nn ov : Int} {out Wv : Value} {m j : Nat} {xs ws : List Value} {w a : World} (h : LnS B g gl s i nn ov out Wv m j xs ws w a) {v : Value} {n : Nat} {us : List Value} (hu : w.ownsRow B StT 1 v n us) : v.ownBlock = none ∨ v.ownBlock ≠ Wv.ownBlock := by
 rcases hv : v.ownBlock with - | b
 · exact .inl rfl
 · right
   intro e
   have h1 := (hu.lt b hv).2
   have h2 := (h.words.lt b e.symm).1
   have := h.fresh
   omega
theorem LnS.step {B g gl : Nat} {s : ByteArray} {i nn ov : Int} {out Wv W' : Value} {m j : Nat} {xs ws ws' : List Value} {w w2 w3 : World} {o : Obj} (h : LnS B g gl s i nn ov out Wv m j xs ws w w2) (hW3 : w3.ownsRow gl StT 1 W' (j + 1) ws') (hgr : (w2.alloc o).grownBy w3 Wv.ownBlock) (hgl : gl ≠ g) (hB : B ≤ gl) :
 AtB w3 gl #[.int .i64 nn, Wv] LnT ∧ LnS B g gl s i nn ov out W' m (j + 1) xs ws' w (w3.setCell ⟨gl, 1, none⟩ W') := by
 have l3 : AtB w3 gl #[.int .i64 nn, Wv] LnT := AtB.grow h.l (own_ne h.words h.l (by decide)) hgr
 have c3 := AtB.grow h.c (own_ne h.words h.c (by decide)) hgr
 have hz : B ≤ (w2.alloc o).heap.size := by have := h.size; have := h.hB; simp; omega
 have low3 : Below B w w3 := (h.low.alloc (Nat.le_trans h.hB h.size) o).grown hgr hz (fun b e => Nat.le_trans h.hB (h.words.lt b e).1)
 refine ⟨l3, c3.far (Ne.symm hgl) 1 W', by simpa using l3.set_n 1 W', own_store (own_ne hW3 l3 (by decide)) hW3 1 W', h.fresh, fun v n us hu => ?_, own_store h.ne ((h.lines.alloc o).kept hgr (own_ne2 h.lines h.words (by decide))) 1 W', h.ne, low3.setCell (p := ⟨gl, 1, none⟩) hB W', ?_, h.hB⟩
 · have h3 := ((h.old v n us hu).alloc o).kept hgr (row_apart h hu)
   exact own_store (own_ne h3 l3 (by decide)) h3 1 W'
 · rw [size_set]
   exact Nat.le_trans (by have := h.size; simp; omega) hgr.size
theorem wline (B g : Nat) (s : ByteArray) (P Q : Nat → Nat) (S : Nat → ByteArray) (m : Nat) (nn ov : Int) (out : Value) (xs : List Value) (w : World) (hBg : B ≤ g) (hm : m ≤ 100)
 (Bk : Hid (∀ j, j < 3 → ∀ w1, AtB w1 g #[.string s, .int .i64 (P j : Int), .int .i64 nn, out, .int .i64 ov] ScT → Calls Tryz.prog 51 #[.pointer (some ⟨g, 0, none⟩)] w1 fun e w' => e = .returned (.tuple #[]) ∧ Onl g w1 w' ∧ AtB w' g #[.string s, .int .i64 (Q j : Int), .int .i64 nn, out, .int .i64 ov] ScT))
 (Wd : Hid (∀ j, j < 3 → ∀ w1, AtB w1 g #[.string s, .int .i64 (Q j : Int), .int .i64 nn, out, .int .i64 ov] ScT → Calls Tryz.prog 52 #[.pointer (some ⟨g, 0, none⟩)] w1 fun e w' => e = .returned (.string (S j)) ∧ Onl g w1 w' ∧ AtB w' g #[.string s, .int .i64 (P (j + 1) : Int), .int .i64 nn, out, .int .i64 ov] ScT))
 (hP : Hid (P 0 < P 1 ∧ P 1 < P 2 ∧ P 2 ≤ 65536)) (hS : Hid (∀ j, j < 2 → (S j).toList.isEmpty = false)) (hS2 : S 2 = ⟨#[]⟩) (hE : decide (P 3 < s.size) = false ∨ (decide (P 3 < s.size) = true ∧ ∀ w, (Instr.index 9 (.string s) (.int .i64 (P 3 : Int))).run Tryz.prog w = .ok (.int .u8 10) w))
 (h : AtB w g #[.string s, .int .i64 (P 0 : Int), .int .i64 nn, out, .int .i64 ov] ScT) (hown : w.ownsRow B LnT 2 out m xs) :
 Calls Tryz.prog 35 #[.pointer (some ⟨g, 0, none⟩)] w (GiveLn B g s (P 3) nn ov m xs (S 0) (S 1) w) := by
 obtain ⟨c0, c1, c2, c3, c4, f0, f1, f2, f3, f4⟩ := reads5 h
 have l0 := h.lt
 have hgl := Hi (show w.heap.size ≠ g by omega)
 go_enter Tryz.func35, Tryz.ntmps35
 go_wp2_with fail
 go_region
 have H0 : LnS B g w.heap.size s (P 0) nn ov out (.slice none 0 0) m 0 xs [] w (w.alloc (.cells #[.int .i64 nn, .slice none 0 0] LnT)).drew :=
  ⟨(h.alloc _), new_at w #[.int .i64 nn, .slice none 0 0] LnT, World.ownsRow_nil _ _ _ _, Nat.le_refl _, fun v n us hu => hu.alloc _, hown.alloc _, fun e => by have := (hown.lt _ e).2; omega, ((Below.refl B w).alloc (by omega) _).drew, by simp [World.drew], by omega⟩
 replace H0 := Hi H0
 generalize (w.alloc (.cells #[.int .i64 nn, .slice none 0 0] LnT)).drew = w0 at *
 clear c0 c1 c2 c3 c4 f0 f1 f2 f3 f4
 have hBgl := Hi (show B ≤ w.heap.size by omega)
 generalize w.heap.size = gl at *
 go_wp2_with fail
 go_loopw [5] (fun _ wr => ∃ (j : Nat) (Wv : Value), j ≤ 2 ∧ Hid (LnS B g gl s (P j) nn ov out Wv m j xs ((List.range j).map fun q => .string (S q)) w wr)) (fun _ wr => 65536 - (cI wr g 1).toNat)
 case atStart => exact ⟨0, _, Nat.zero_le _, H0.out⟩
 case round =>
  clear H0
  obtain ⟨j, Wv, hj, H⟩ := hrel
  have B1 := Hi (Bk.out j (by omega) _ H.out.c)
  go_wp2_with fail
  refine B1.out.mono ?_
  rintro e w1 ⟨rfl, ho, hc⟩
  have H1 := Hi (H.out.onl hBg hgl.out ho hc)
  have D1 := Hi (Wd.out j (by omega) _ hc)
  clear ho hc B1
  go_wp2_with fail
  refine D1.out.mono ?_
  rintro e w2 ⟨rfl, ho, hc⟩
  have H2 := Hi (H1.out.onl hBg hgl.out ho hc)
  clear ho hc D1 H1
  by_cases hj2 : j = 2
  · subst hj2
    rw [hS2]
    rw [show (2 : Nat) + 1 = 3 from rfl] at H2
    rcases hE with hE | ⟨hE, hx⟩
    rotate_left
    · have hlt3 : P 3 < s.size := of_decide_eq_true hE
      obtain ⟨c0, c1, c2, c3, c4, f0, f1, f2, f3, f4⟩ := reads5 H2.out.c
      obtain ⟨d0, d1, e0, e1⟩ := reads2 H2.out.l
      have l1 := H2.out.c.lt
      have l2 := H2.out.l.lt
      obtain ⟨A5, cap5, rfl⟩ := own_form H2.out.words
      obtain ⟨A6, cap6, rfl⟩ := own_form H2.out.lines
      go_wp2_with fail
      go_quiet (fail)
      go_wp2_with fail
      clear c0 c1 c2 c3 c4 f0 f1 f2 f3 f4 d0 d1 e0 e1 l1 l2
      have H4 := H2.out.drawn nq
      generalize w2.drewN nq = w4 at *
      have q0 := Hi H4.c
      have q1 := Hi H4.l
      have BB := Hi (Below.refl w4.heap.size w4)
      have H5 := H4.drew
      obtain ⟨ga, capa, w5, hrun, hO, hgr, hat⟩ := app_ln w4.drew B _ m _ nn A5 2 cap5 H5.lines (by omega) (Nat.le_trans H5.hB H5.size)
      have c5 : AtB w5 g #[.string s, .int .i64 (P 3 : Int), .int .i64 nn, .slice A6 m cap6, .int .i64 ov] ScT := AtB.grow H5.c (own_ne H5.lines H5.c (by decide)) hgr
      have W5 : w5.ownsRow gl StT 1 (.slice A5 2 cap5) 2 [.string (S 0), .string (S 1)] := (H5.words.alloc _).kept hgr (own_ne2 H5.words H5.lines (by decide))
      have low5 : Below B w w5 := (H5.low.alloc (Nat.le_trans H5.hB H5.size) _).grown hgr (Nat.le_trans (Nat.le_trans H5.hB H5.size) (by rw [World.size_alloc]; exact Nat.le_succ _)) (fun b e => (H5.lines.lt b e).1)
      have gg : (Value.slice (some ⟨ga, 0, none⟩) (m + 1) capa).ownBlock ≠ some g := own_ne hO c5 (by decide)
      have gw := own_ne W5 c5 (by decide)
      obtain ⟨c0, c1, c2, c3, c4, f0, f1, f2, f3, f4⟩ := reads5 c5
      have l5 := c5.lt
      have r5 : AtB (w5.setCell ⟨g, 3, none⟩ (.slice (some ⟨ga, 0, none⟩) (m + 1) capa)) g #[.string s, .int .i64 (P 3 : Int), .int .i64 nn, .slice (some ⟨ga, 0, none⟩) (m + 1) capa, .int .i64 ov] ScT := by simpa using c5.set_n 3 (.slice (some ⟨ga, 0, none⟩) (m + 1) capa)
      have O5 := own_store gg hO 3 (.slice (some ⟨ga, 0, none⟩) (m + 1) capa)
      have V5 := own_store gw W5 3 (.slice (some ⟨ga, 0, none⟩) (m + 1) capa)
      have low6 := low5.setCell (p := ⟨g, 3, none⟩) hBg (.slice (some ⟨ga, 0, none⟩) (m + 1) capa)
      replace hrun := Hi hrun
      have old5 : ∀ v n us, w.ownsRow B StT 1 v n us → (w5.setCell ⟨g, 3, none⟩ (.slice (some ⟨ga, 0, none⟩) (m + 1) capa)).ownsRow B StT 1 v n us := fun v n us hu => by
       have h3 := ((H5.old v n us hu).alloc (.cells #[.int .i64 nn, .slice A5 2 cap5] LnT)).kept hgr (own_ne2 (H5.old v n us hu) H5.lines (by decide))
       exact own_store (own_ne h3 c5 (by decide)) h3 3 _
      replace V5 := own_base V5 hBgl.out
      have F5 := Hi (show Below B w _ ∧ AtB _ g _ ScT ∧ _ ∧ _ ∧ _ from ⟨low6, r5, O5, V5, old5⟩)
      have m1 : (((m + 1 : Nat) : Int) == 4097) = false := by rw [beq_eq_false_iff_ne]; omega
      have m2 : (((m : Int) + 1) == 4097) = false := by rw [beq_eq_false_iff_ne]; omega
      have m3 : (m + 1 == 4097) = false := by rw [beq_eq_false_iff_ne]; omega
      clear low6 r5 O5 V5 old5 gg gw low5 W5 c5 hgr hat hO H5 H4
      have KK := Hi fun w9 (h : Below w4.heap.size w4 w9) => And.intro (cells5 (q0.out.keep h)) (cells2 (q1.out.keep h))
      have KD := kd KK
      have KC := KK.out (w4.drew.alloc (.cells #[.int .i64 nn, .slice A5 2 cap5] LnT)) (below_new (below_drew (Below.refl _ _)) _)
      refine g_bg KK 7 ?_
      refine g_tp 0 ?_
      refine g_tk 1 ?_
      refine g_tk 2 ?_
      refine g_tk 3 ?_
      refine g_tk 4 ?_
      refine g_tk 5 ?_
      refine g_sc 6 (fun K hK => ?_)
      go_simp
      refine hK.out _ _ (fun _ => by assumption) (fun _ => ?_)
      clear hK
      refine g_pt ?_
      refine g_sc 7 (fun K hK => ?_)
      refine wp_app_run (.tmp 57) (.tmp 59) LsT rfl rfl rfl hrun.out ?_
      refine hK.out _ _ (fun h => absurd h (by decide)) (fun _ => ?_)
      clear hK
      refine g_pt ?_
      refine g_ts 8 ?_
      refine g_ts 9 ?_
      refine g_ts 10 ?_
      refine g_dn ?_
      clear KK KD
      clear KC c0 c1 c2 c3 c4 f0 f1 f2 f3 f4 l5
      generalize (w5.setCell ⟨g, 3, none⟩ (.slice (some ⟨ga, 0, none⟩) (m + 1) capa)) = w6 at *
      obtain ⟨low6, r5, O5, V5, old5⟩ := F5.out
      obtain ⟨c0, c1, c2, c3, c4, f0, f1, f2, f3, f4⟩ := reads5 r5
      have l5 := r5.lt
      go_wp2_with fail
      go_ret
      exact ⟨ga, capa, A5, cap5, rfl, low6, r5, O5, V5, old5⟩
    have hE' : ¬ P 3 < s.size := of_decide_eq_false hE
    obtain ⟨c0, c1, c2, c3, c4, f0, f1, f2, f3, f4⟩ := reads5 H2.out.c
    obtain ⟨d0, d1, e0, e1⟩ := reads2 H2.out.l
    have l1 := H2.out.c.lt
    have l2 := H2.out.l.lt
    obtain ⟨A5, cap5, rfl⟩ := own_form H2.out.words
    obtain ⟨A6, cap6, rfl⟩ := own_form H2.out.lines
    go_wp2_with fail
    go_quiet (fail)
    go_wp2_with fail
    clear c0 c1 c2 c3 c4 f0 f1 f2 f3 f4 d0 d1 e0 e1 l1 l2
    have H4 := H2.out.drawn nq
    generalize w2.drewN nq = w4 at *
    have q0 := Hi H4.c
    have q1 := Hi H4.l
    have BB := Hi (Below.refl w4.heap.size w4)
    have H5 := H4.drew
    obtain ⟨ga, capa, w5, hrun, hO, hgr, hat⟩ := app_ln w4.drew B _ m _ nn A5 2 cap5 H5.lines (by omega) (Nat.le_trans H5.hB H5.size)
    have c5 : AtB w5 g #[.string s, .int .i64 (P 3 : Int), .int .i64 nn, .slice A6 m cap6, .int .i64 ov] ScT := AtB.grow H5.c (own_ne H5.lines H5.c (by decide)) hgr
    have W5 : w5.ownsRow gl StT 1 (.slice A5 2 cap5) 2 [.string (S 0), .string (S 1)] := (H5.words.alloc _).kept hgr (own_ne2 H5.words H5.lines (by decide))
    have low5 : Below B w w5 := (H5.low.alloc (Nat.le_trans H5.hB H5.size) _).grown hgr (Nat.le_trans (Nat.le_trans H5.hB H5.size) (by rw [World.size_alloc]; exact Nat.le_succ _)) (fun b e => (H5.lines.lt b e).1)
    have gg : (Value.slice (some ⟨ga, 0, none⟩) (m + 1) capa).ownBlock ≠ some g := own_ne hO c5 (by decide)
    have gw := own_ne W5 c5 (by decide)
    obtain ⟨c0, c1, c2, c3, c4, f0, f1, f2, f3, f4⟩ := reads5 c5
    have l5 := c5.lt
    have r5 : AtB (w5.setCell ⟨g, 3, none⟩ (.slice (some ⟨ga, 0, none⟩) (m + 1) capa)) g #[.string s, .int .i64 (P 3 : Int), .int .i64 nn, .slice (some ⟨ga, 0, none⟩) (m + 1) capa, .int .i64 ov] ScT := by simpa using c5.set_n 3 (.slice (some ⟨ga, 0, none⟩) (m + 1) capa)
    have O5 := own_store gg hO 3 (.slice (some ⟨ga, 0, none⟩) (m + 1) capa)
    have V5 := own_store gw W5 3 (.slice (some ⟨ga, 0, none⟩) (m + 1) capa)
    have low6 := low5.setCell (p := ⟨g, 3, none⟩) hBg (.slice (some ⟨ga, 0, none⟩) (m + 1) capa)
    replace hrun := Hi hrun
    have old5 : ∀ v n us, w.ownsRow B StT 1 v n us → (w5.setCell ⟨g, 3, none⟩ (.slice (some ⟨ga, 0, none⟩) (m + 1) capa)).ownsRow B StT 1 v n us := fun v n us hu => by
     have h3 := ((H5.old v n us hu).alloc (.cells #[.int .i64 nn, .slice A5 2 cap5] LnT)).kept hgr (own_ne2 (H5.old v n us hu) H5.lines (by decide))
     exact own_store (own_ne h3 c5 (by decide)) h3 3 _
    replace V5 := own_base V5 hBgl.out
    have F5 := Hi (show Below B w _ ∧ AtB _ g _ ScT ∧ _ ∧ _ ∧ _ from ⟨low6, r5, O5, V5, old5⟩)
    have m1 : (((m + 1 : Nat) : Int) == 4097) = false := by rw [beq_eq_false_iff_ne]; omega
    have m2 : (((m : Int) + 1) == 4097) = false := by rw [beq_eq_false_iff_ne]; omega
    have m3 : (m + 1 == 4097) = false := by rw [beq_eq_false_iff_ne]; omega
    clear low6 r5 O5 V5 old5 gg gw low5 W5 c5 hgr hat hO H5 H4
    have KK := Hi fun w9 (h : Below w4.heap.size w4 w9) => And.intro (cells5 (q0.out.keep h)) (cells2 (q1.out.keep h))
    have KD := kd KK
    have KC := KK.out (w4.drew.alloc (.cells #[.int .i64 nn, .slice A5 2 cap5] LnT)) (below_new (below_drew (Below.refl _ _)) _)
    refine g_bg KK 7 ?_
    refine g_tp 0 ?_
    refine g_tk 1 ?_
    refine g_tk 2 ?_
    refine g_tk 3 ?_
    refine g_tk 4 ?_
    refine g_tk 5 ?_
    refine g_sc 6 (fun K hK => ?_)
    go_simp
    refine hK.out _ _ (fun _ => by assumption) (fun _ => ?_)
    clear hK
    refine g_pt ?_
    refine g_sc 7 (fun K hK => ?_)
    refine wp_app_run (.tmp 57) (.tmp 59) LsT rfl rfl rfl hrun.out ?_
    refine hK.out _ _ (fun h => absurd h (by decide)) (fun _ => ?_)
    clear hK
    refine g_pt ?_
    refine g_ts 8 ?_
    refine g_ts 9 ?_
    refine g_ts 10 ?_
    refine g_dn ?_
    clear KK KD
    clear KC c0 c1 c2 c3 c4 f0 f1 f2 f3 f4 l5
    generalize (w5.setCell ⟨g, 3, none⟩ (.slice (some ⟨ga, 0, none⟩) (m + 1) capa)) = w6 at *
    obtain ⟨low6, r5, O5, V5, old5⟩ := F5.out
    obtain ⟨c0, c1, c2, c3, c4, f0, f1, f2, f3, f4⟩ := reads5 r5
    have l5 := r5.lt
    go_wp2_with fail
    go_ret
    exact ⟨ga, capa, A5, cap5, rfl, low6, r5, O5, V5, old5⟩
  · have hs : (S j).toList.isEmpty = false := hS.out j (by omega)
    obtain ⟨ga, capa, w3, hrun, hW3, hgr, hat⟩ := app_st w2 gl Wv j _ (S j) H2.out.words (by omega) H2.out.size
    obtain ⟨l3, H3⟩ := H2.out.step hW3 hgr hgl.out hBgl.out
    obtain ⟨d0, d1, e0, e1⟩ := reads2 H2.out.l
    have l2 := H2.out.l.lt
    obtain ⟨d0', d1', e0', e1'⟩ := reads2 l3
    have l3' := l3.lt
    replace hrun := Hi hrun
    replace H3 := Hi H3
    have hci := Hi (cI_at (H.out.c.cell 1 rfl))
    clear hW3 hgr hat l3
    go_wp2_with (first | (at_builtin; refine wpList_app_run rfl (.tmp 22) (.tmp 24) SsT rfl rfl rfl hrun.out ?_))
    go_roundw
    case rel => exact ⟨j + 1, _, by omega, by rw [List.range_succ, List.map_append]; exact H3.out⟩
    case measure =>
     rw [hci.out, cI_at (H3.out.c.cell 1 rfl)]
     have hp := hP.out
     have : P j < P (j + 1) := by
      rcases (show j = 0 ∨ j = 1 by omega) with rfl | rfl
      · exact hp.1
      · exact hp.2.1
     have : P (j + 1) ≤ 65536 := by
      rcases (show j = 0 ∨ j = 1 by omega) with rfl | rfl
      · show P 1 ≤ 65536; omega
      · exact hp.2.2
     omega
/-- Behind blanks; behind words. -/
def qP (l : List UInt8) (p : Nat) : Nat := p + cntB wbB (l.drop p)
def pP (l : List UInt8) (k : Nat) : Nat → Nat
 | 0 => k
 | j + 1 => qP l (pP l k j) + cntB wmB (l.drop (qP l (pP l k j)))
def sP (l : List UInt8) (k j : Nat) : List UInt8 := (l.drop (qP l (pP l k j))).take (pP l k (j + 1) - qP l (pP l k j))
/-- A line of two words begins at k. -/
def okLn (l : List UInt8) (k : Nat) : Prop :=
 (pP l k 0 < pP l k 1 ∧ pP l k 1 < pP l k 2 ∧ pP l k 2 ≤ 65536) ∧ (∀ j, j < 3 → pP l k j ≤ l.length ∧ qP l (pP l k j) ≤ l.length ∧ l.getD (qP l (pP l k j)) 0 ≠ 35) ∧ (∀ j, j < 2 → sP l k j ≠ []) ∧ sP l k 2 = [] ∧ (l.length ≤ pP l k 3 ∨ (pP l k 3 < l.length ∧ l.getD (pP l k 3) 0 = 10))
theorem str_empty {l : List UInt8} (h : l ≠ []) : (⟨l.toArray⟩ : ByteArray).toList.isEmpty = false := by
 cases l with
 | nil => exact absurd rfl h
 | cons a t => rw [Go.ByteArray.toList_eq]; rfl
theorem wline_at (B g : Nat) (l : List UInt8) (k m : Nat) (nn ov : Int) (out : Value) (xs : List Value) (w : World) (hBg : B ≤ g) (hm : m ≤ 100) (hl : l.length ≤ 65536) (ho : okLn l k)
 (h : AtB w g #[.string ⟨l.toArray⟩, .int .i64 (k : Int), .int .i64 nn, out, .int .i64 ov] ScT) (hown : w.ownsRow B LnT 2 out m xs) :
 Calls Tryz.prog 35 #[.pointer (some ⟨g, 0, none⟩)] w (GiveLn B g ⟨l.toArray⟩ (pP l k 3) nn ov m xs ⟨(sP l k 0).toArray⟩ ⟨(sP l k 1).toArray⟩ w) := by
 obtain ⟨h1, h2, h3, h4, h5⟩ := ho
 refine wline B g ⟨l.toArray⟩ (pP l k) (fun j => qP l (pP l k j)) (fun j => ⟨(sP l k j).toArray⟩) m nn ov out xs w hBg hm (Lib.hid fun j hj w1 hc => ?_) (Lib.hid fun j hj w1 hc => ?_) h1 (Lib.hid fun j hj => str_empty (h3 j hj)) (by rw [h4]) ?_ h hown
 · exact wblanks g l (pP l k j) (qP l (pP l k j)) nn ov out w1 rfl (h2 j hj).1 hl (fun _ => (h2 j hj).2.2) hc
 · exact wword g l (qP l (pP l k j)) (pP l k (j + 1)) nn ov out w1 rfl (h2 j hj).2.1 hl hc
 · rw [sx_len]
   rcases h5 with h5 | ⟨h5, h6⟩
   · exact .inl (decide_eq_false (by omega))
   · refine .inr ⟨decide_eq_true h5, fun w => ?_⟩
     have := sx_index l (pP l k 3) h5 w
     rw [h6] at this
     exact this
def GiveLs (s0 s1 s2 s3 : ByteArray) (w : World) (e : Ending) (w' : World) : Prop :=
 ∃ ga capa A1 c1 A2 c2, e = .returned (.tuple #[.slice (some ⟨ga, 0, none⟩) 2 capa, .int .i64 0, .int .i64 0]) ∧ Below w.heap.size w w' ∧
   w'.ownsRow w.heap.size LnT 2 (.slice (some ⟨ga, 0, none⟩) 2 capa) 2 [.int .i64 1, .slice A1 2 c1, .int .i64 2, .slice A2 2 c2] ∧
   w'.ownsRow w.heap.size StT 1 (.slice A1 2 c1) 2 [.string s0, .string s1] ∧ w'.ownsRow w.heap.size StT 1 (.slice A2 2 c2) 2 [.string s2, .string s3]
theorem wlines (s s0 s1 s2 s3 : ByteArray) (e1 e2 N : Nat) (hN : s.size = N) (hb : N ≤ 1000) (he1 : e1 < N) (he2 : e2 = N) (w : World)
 (L1 : Hid (∀ (B g : Nat) (m : Nat) (nn ov : Int) (out : Value) (xs : List Value) (w : World), B ≤ g → m ≤ 100 → AtB w g #[.string s, .int .i64 0, .int .i64 nn, out, .int .i64 ov] ScT → w.ownsRow B LnT 2 out m xs → Calls Tryz.prog 35 #[.pointer (some ⟨g, 0, none⟩)] w (GiveLn B g s (e1 : Int) nn ov m xs s0 s1 w)))
 (L2 : Hid (∀ (B g : Nat) (m : Nat) (nn ov : Int) (out : Value) (xs : List Value) (w : World), B ≤ g → m ≤ 100 → AtB w g #[.string s, .int .i64 ((e1 + 1 : Nat) : Int), .int .i64 nn, out, .int .i64 ov] ScT → w.ownsRow B LnT 2 out m xs → Calls Tryz.prog 35 #[.pointer (some ⟨g, 0, none⟩)] w (GiveLn B g s (e2 : Int) nn ov m xs s2 s3 w))) :
 Calls Tryz.prog 21 #[.string s] w (GiveLs s0 s1 s2 s3 w) := by
 obtain rfl : N = e2 := he2.symm
 clear he2
 have g1 : decide ((65536 : Int) < (N : Int)) = false := decide_eq_false (by omega)
 have g2 : decide (65536 < N) = false := decide_eq_false (by omega)
 have g3 : ¬ (65536 : Int) < (N : Int) := by omega
 have hN2 := Lib.hid hN
 have hb' := Lib.hid hb
 have he1' := Lib.hid he1
 go_enter Tryz.func21, Tryz.ntmps21
 go_wp2_with fail
 have r0 := new_at w #[.string s, .int .i64 0, .int .i64 0, .slice none 0 0, .int .i64 0] ScT
 have b0 : Below w.heap.size w (w.alloc (.cells #[.string s, .int .i64 0, .int .i64 0, .slice none 0 0, .int .i64 0] ScT)) := below_new (Below.refl _ _) _
 generalize (w.alloc (.cells #[.string s, .int .i64 0, .int .i64 0, .slice none 0 0, .int .i64 0] ScT)) = w0 at *
 generalize hg : w.heap.size = g at *
 go_loopw [] (fun wr => Hid ((AtB wr g #[.string s, .int .i64 0, .int .i64 0, .slice none 0 0, .int .i64 0] ScT ∧ Below g w wr) ∨
  (∃ ga capa A1 c1, AtB wr g #[.string s, .int .i64 ((e1 + 1 : Nat) : Int), .int .i64 1, .slice (some ⟨ga, 0, none⟩) 1 capa, .int .i64 0] ScT ∧ Below g w wr ∧ wr.ownsRow g LnT 2 (.slice (some ⟨ga, 0, none⟩) 1 capa) 1 [.int .i64 1, .slice A1 2 c1] ∧ wr.ownsRow g StT 1 (.slice A1 2 c1) 2 [.string s0, .string s1]) ∨
  (∃ ga capa A1 c1 A2 c2, AtB wr g #[.string s, .int .i64 ((N + 1 : Nat) : Int), .int .i64 2, .slice (some ⟨ga, 0, none⟩) 2 capa, .int .i64 0] ScT ∧ Below g w wr ∧ wr.ownsRow g LnT 2 (.slice (some ⟨ga, 0, none⟩) 2 capa) 2 [.int .i64 1, .slice A1 2 c1, .int .i64 2, .slice A2 2 c2] ∧ wr.ownsRow g StT 1 (.slice A1 2 c1) 2 [.string s0, .string s1] ∧ wr.ownsRow g StT 1 (.slice A2 2 c2) 2 [.string s2, .string s3]))) (fun wr => N + 2 - (cI wr g 1).toNat)
 case atStart => exact .inl ⟨r0, b0⟩
 case round =>
  clear r0 b0
  rcases hrel.out with ⟨q0, BB⟩ | ⟨ga, capa, A1, c1, q0, BB, O1, V1⟩ | ⟨ga, capa, A1, c1, A2, c2, q0, BB, O1, V1, V2⟩
  · have q1 : (0 : Int) ≤ (s.size : Int) := by omega
    obtain ⟨c0, c1, c2, c3, c4, f0, f1, f2, f3, f4⟩ := reads5 q0
    have lt := q0.lt
    have r1 : AtB (wr.setCell ⟨g, 2, none⟩ (.int .i64 1)) g #[.string s, .int .i64 0, .int .i64 1, .slice none 0 0, .int .i64 0] ScT := by simpa using q0.set_n 2 (.int .i64 1)
    have b1 := BB.setCell (p := ⟨g, 2, none⟩) (Nat.le_refl _) (.int .i64 1)
    have C := Lib.hid (L1.out g g 0 1 0 _ [] _ (Nat.le_refl _) (Nat.zero_le _) r1 (World.ownsRow_nil _ _ _ _))
    go_wp2_with fail
    refine C.out.mono ?_
    rintro e w1 ⟨ga, capa, A, cap, rfl, low, r2, O, V, -⟩
    have b2 := b1.trans low
    obtain ⟨c0', c1', c2', c3', c4', f0', f1', f2', f3', f4'⟩ := reads5 r2
    have lt' := r2.lt
    have i1 : I64 ((e1 + 1 : Nat) : Int) := ⟨by omega, by omega⟩
    have j1 : (e1 : Int) + 1 = ((e1 + 1 : Nat) : Int) := by omega
    have ek : IntKind.i64.wrap ((e1 : Int) + 1) = ((e1 + 1 : Nat) : Int) := by rw [j1]; exact iw i1
    have hci := Lib.hid (cI_at c1)
    have r3 : AtB (w1.setCell ⟨g, 1, none⟩ (.int .i64 ((e1 + 1 : Nat) : Int))) g #[.string s, .int .i64 ((e1 + 1 : Nat) : Int), .int .i64 1, .slice (some ⟨ga, 0, none⟩) 1 capa, .int .i64 0] ScT := by simpa using r2.set_n 1 (.int .i64 ((e1 + 1 : Nat) : Int))
    have r3' : AtB (w1.setCell ⟨g, 1, none⟩ (.int .i64 ((e1 : Int) + 1))) g #[.string s, .int .i64 ((e1 : Int) + 1), .int .i64 1, .slice (some ⟨ga, 0, none⟩) 1 capa, .int .i64 0] ScT := by simpa using r2.set_n 1 (.int .i64 ((e1 : Int) + 1))
    have F := Lib.hid (show _ ∧ _ ∧ _ ∧ _ from ⟨r3, b2.setCell (p := ⟨g, 1, none⟩) (Nat.le_refl _) (.int .i64 ((e1 + 1 : Nat) : Int)), own_store (own_ne O r2 (by decide)) O 1 (.int .i64 ((e1 + 1 : Nat) : Int)), own_store (own_ne V r2 (by decide)) V 1 (.int .i64 ((e1 + 1 : Nat) : Int))⟩)
    have G := Lib.hid (cI_at (r3'.cell 1 rfl))
    clear i1 j1 r3 r3' b2 b1 low
    go_wp2_with fail
    go_roundw
    case rel => exact .inr (.inl ⟨ga, capa, A, cap, F.out⟩)
    case measure => rw [hci.out, G.out]; have := he1'.out; clear ek; omega
  · obtain ⟨c0, c1, c2, c3, c4, f0, f1, f2, f3, f4⟩ := reads5 q0
    have lt := q0.lt
    have q1 : ((e1 + 1 : Nat) : Int) ≤ (N : Int) := by omega
    have q2 : e1 + 1 ≤ N := by omega
    have q3 : (e1 : Int) + 1 ≤ (N : Int) := by omega
    have r1 : AtB (wr.setCell ⟨g, 2, none⟩ (.int .i64 2)) g #[.string s, .int .i64 ((e1 + 1 : Nat) : Int), .int .i64 2, .slice (some ⟨ga, 0, none⟩) 1 capa, .int .i64 0] ScT := by simpa using q0.set_n 2 (.int .i64 2)
    have b1 := BB.setCell (p := ⟨g, 2, none⟩) (Nat.le_refl _) (.int .i64 2)
    have O' := own_store (own_ne O1 q0 (by decide)) O1 2 (.int .i64 2)
    have V' := own_store (own_ne V1 q0 (by decide)) V1 2 (.int .i64 2)
    have C := Lib.hid (L2.out g g 1 2 0 _ _ _ (Nat.le_refl _) (by decide) r1 O')
    go_wp2_with fail
    refine C.out.mono ?_
    rintro e w1 ⟨gb, capb, A, cap, rfl, low, r2, O, V, old⟩
    have b2 := b1.trans low
    have V1' := old _ _ _ V'
    obtain ⟨c0', c1', c2', c3', c4', f0', f1', f2', f3', f4'⟩ := reads5 r2
    have lt' := r2.lt
    have i1 : I64 ((N + 1 : Nat) : Int) := ⟨by omega, by omega⟩
    have j1 : (N : Int) + 1 = ((N + 1 : Nat) : Int) := by omega
    have ek : IntKind.i64.wrap ((N : Int) + 1) = ((N + 1 : Nat) : Int) := by rw [j1]; exact iw i1
    have hci := Lib.hid (cI_at c1)
    have r3 : AtB (w1.setCell ⟨g, 1, none⟩ (.int .i64 ((N + 1 : Nat) : Int))) g #[.string s, .int .i64 ((N + 1 : Nat) : Int), .int .i64 2, .slice (some ⟨gb, 0, none⟩) 2 capb, .int .i64 0] ScT := by simpa using r2.set_n 1 (.int .i64 ((N + 1 : Nat) : Int))
    have r3' : AtB (w1.setCell ⟨g, 1, none⟩ (.int .i64 ((N : Int) + 1))) g #[.string s, .int .i64 ((N : Int) + 1), .int .i64 2, .slice (some ⟨gb, 0, none⟩) 2 capb, .int .i64 0] ScT := by simpa using r2.set_n 1 (.int .i64 ((N : Int) + 1))
    have F := Lib.hid (show _ ∧ _ ∧ _ ∧ _ ∧ _ from ⟨r3, b2.setCell (p := ⟨g, 1, none⟩) (Nat.le_refl _) (.int .i64 ((N + 1 : Nat) : Int)), own_store (own_ne O r2 (by decide)) O 1 (.int .i64 ((N + 1 : Nat) : Int)), own_store (own_ne V1' r2 (by decide)) V1' 1 (.int .i64 ((N + 1 : Nat) : Int)), own_store (own_ne V r2 (by decide)) V 1 (.int .i64 ((N + 1 : Nat) : Int))⟩)
    have G := Lib.hid (cI_at (r3'.cell 1 rfl))
    have hc := Lib.hid c1
    clear i1 j1 r3 r3' b2 b1 low
    go_wp2_with fail
    go_roundw
    case rel => exact .inr (.inr ⟨gb, capb, A1, _, A, cap, F.out⟩)
    case measure => rw [hci.out, G.out]; have := he1'.out; clear ek; omega
  · obtain ⟨k0, k1, k2, k3, k4, f0, f1, f2, f3, f4⟩ := reads5 q0
    have lt := q0.lt
    have q1 : ¬ ((N + 1 : Nat) : Int) ≤ (N : Int) := by omega
    have q2 : ¬ (N : Int) + 1 ≤ (N : Int) := by omega
    have F := Lib.hid (show _ ∧ _ ∧ _ ∧ _ from ⟨BB, O1, V1, V2⟩)
    clear q0 BB O1 V1 V2
    go_wp2_with fail
    subst hg
    refine bodyPost_ret (v := .tuple #[.slice (some ⟨ga, 0, none⟩) 2 capa, .int .i64 0, .int .i64 0]) (by unfold results; simp only [Tryz.results21]; go_simp) rfl ?_
    exact ⟨ga, capa, A1, c1, A2, c2, rfl, F.out⟩
/-- "load 0\nsave NAME". -/
def scr (k : Nat) : List UInt8 := [108, 111, 97, 100, 32, 48, 10, 115, 97, 118, 101, 32] ++ kName k
theorem scr_ok1 (k : Nat) (hk : k = 1 ∨ k = 2 ∨ k = 3 ∨ k = 4) : okLn (scr k) 0 ∧ pP (scr k) 0 3 = 6 ∧ sP (scr k) 0 0 = [108, 111, 97, 100] ∧ sP (scr k) 0 1 = [48] := by
 rcases hk with rfl | rfl | rfl | rfl <;> (unfold okLn; decide)
theorem scr_ok2 (k : Nat) (hk : k = 1 ∨ k = 2 ∨ k = 3 ∨ k = 4) : okLn (scr k) 7 ∧ pP (scr k) 7 3 = (scr k).length ∧ sP (scr k) 7 0 = [115, 97, 118, 101] ∧ sP (scr k) 7 1 = kName k ∧ 6 < (scr k).length ∧ (scr k).length ≤ 1000 := by
 rcases hk with rfl | rfl | rfl | rfl <;> (unfold okLn; decide)
theorem wscript (k : Nat) (hk : k = 1 ∨ k = 2 ∨ k = 3 ∨ k = 4) (w : World) : Calls Tryz.prog 21 #[.string ⟨(scr k).toArray⟩] w (GiveLs ⟨#[108, 111, 97, 100]⟩ ⟨#[48]⟩ ⟨#[115, 97, 118, 101]⟩ ⟨(kName k).toArray⟩ w) := by
 obtain ⟨o1, p1, a1, a2⟩ := scr_ok1 k hk
 obtain ⟨o2, p2, b1, b2, h6, hb⟩ := scr_ok2 k hk
 refine wlines ⟨(scr k).toArray⟩ _ _ _ _ 6 (scr k).length (scr k).length (sx_len _) hb h6 rfl w (Lib.hid ?_) (Lib.hid ?_)
 · intro B g m nn ov out xs w1 hB hm h hown
   have := wline_at B g (scr k) 0 m nn ov out xs w1 hB hm (by omega) o1 h hown
   rw [p1, a1, a2] at this
   exact this
 · intro B g m nn ov out xs w1 hB hm h hown
   have := wline_at B g (scr k) 7 m nn ov out xs w1 hB hm (by omega) o2 h hown
   rw [p2, b1, b2] at this
   exact this
abbrev I64T : TypeId := 2
abbrev IsT : TypeId := 57
theorem info_i64 : (Tryz.prog.info? I64T).map (fun i => (i.zero, i.size, i.bytes)) = some (some (.int .i64 0), 1, 8) := by kernel_rfl
def GiveTx (s : ByteArray) (w : World) (e : Ending) (w' : World) : Prop := e = .returned (.string s) ∧ Below w.heap.size w w'
theorem srep1 (s : ByteArray) (w : World) : Calls Tryz.prog 61 #[.string s, .int .i64 1] w (GiveTx s w) := by
 go_enter Tryz.func61, Tryz.ntmps61
 go_wp2_with fail
 go_ret
 exact ⟨rfl, Below.refl _ _⟩
theorem srep0 (s : ByteArray) (w : World) : Calls Tryz.prog 61 #[.string s, .int .i64 0] w (GiveTx ⟨#[]⟩ w) := by
 go_enter Tryz.func61, Tryz.ntmps61
 go_wp2_with fail
 go_ret
 exact ⟨rfl, Below.refl _ _⟩
/-- append's first number. -/
theorem app_i64 (wr : World) (base : Nat) (z : Int) (hbase : base ≤ wr.heap.size) :
 ∃ g cap w', (∀ ty, (Builtin.append_ #[IsT, IsT] ty #[.slice none 0 0, .slice (some ⟨wr.heap.size, 0, none⟩) 1 1]).run Tryz.prog (wr.alloc (.cells #[.int .i64 z] I64T)) = .ok (.slice (some ⟨g, 0, none⟩) 1 cap) w') ∧
   w'.ownsRow base I64T 1 (.slice (some ⟨g, 0, none⟩) 1 cap) 1 [.int .i64 z] ∧ Below wr.heap.size wr w' ∧ wr.heap.size ≤ g := by
 obtain ⟨g, cap, w', hr, ho, hgr, hat⟩ := app_el Tryz.underlying57 info_i64 rfl (by decide) wr base (.slice none 0 0) 0 [] [.int .i64 z] (World.ownsRow_nil _ _ _ _) rfl (by simp [Value.oneCell']) (by omega) (by decide) hbase
 refine ⟨g, cap, w', hr, ho, ((Below.refl wr.heap.size wr).alloc (Nat.le_refl _) _).grown hgr (by simp) (fun b e => by cases e), hat.elim (fun e => by cases e) id⟩
theorem cnum0 (A : Option Addr) (cap : Nat) (w : World) : Calls Tryz.prog 65 #[.slice A 0 cap, .string ⟨#[]⟩] w fun e w' => e = .returned (.tuple #[.slice none 0 0, .bool true]) ∧ Below w.heap.size w w' := by
 go_enter Tryz.func65, Tryz.ntmps65
 go_wp2_with fail
 go_loopw [6, 14] (fun u i wr => i = .int .i64 0 ∧ u = .slice none 0 0 ∧ Hid (Below w.heap.size w wr)) (fun _ _ _ => 0)
 case atStart => exact ⟨rfl, rfl, Below.refl _ _⟩
 case round =>
  obtain ⟨rfl, rfl, BB⟩ := hrel
  go_wp2_with fail
  go_ret2
  exact ⟨rfl, BB.out⟩
/-- One number, 0. -/
def GiveZero (w : World) (e : Ending) (w' : World) : Prop := ∃ g cap, e = .returned (.tuple #[.slice (some ⟨g, 0, none⟩) 1 cap, .bool true]) ∧ Below w.heap.size w w' ∧ w.heap.size ≤ g ∧ w'.ownsRow w.heap.size I64T 1 (.slice (some ⟨g, 0, none⟩) 1 cap) 1 [.int .i64 0]
theorem cnum1 (b off cap : Nat) (w : World) (hs : w.cell? ⟨b, off, none⟩ = some (.string ⟨#[48]⟩)) (hb : b < w.heap.size) : Calls Tryz.prog 65 #[.slice (some ⟨b, off, none⟩) 1 cap, .string ⟨#[119]⟩] w (GiveZero w) := by
 have hs' := Lib.hid (fun w1 (h : Below w.heap.size w w1) => (h.cell (p := ⟨b, off, none⟩) hb).trans hs)
 have WN := Lib.hid (fun w1 => wnumber0 w1)
 clear hs hb
 go_enter Tryz.func65, Tryz.ntmps65
 go_wp2_with fail
 go_loopw [6, 14] (fun u i wr => Hid (Below w.heap.size w wr) ∧ (i = .int .i64 0 ∧ u = .slice none 0 0 ∨ i = .int .i64 1 ∧ ∃ g cap, u = .slice (some ⟨g, 0, none⟩) 1 cap ∧ w.heap.size ≤ g ∧ Hid (wr.ownsRow w.heap.size I64T 1 (.slice (some ⟨g, 0, none⟩) 1 cap) 1 [.int .i64 0]))) (fun _ i _ => 1 - (RowKit.intOf i).toNat)
 case atStart => exact ⟨Below.refl _ _, .inl ⟨rfl, rfl⟩⟩
 case round =>
  obtain ⟨BB, ⟨rfl, rfl⟩ | ⟨rfl, g, cap1, rfl, hg, hO⟩⟩ := hrel
  · have c0 := hs'.out _ BB.out
    have W1 := Lib.hid (WN.out wr)
    go_wp2_with fail
    refine W1.out.mono ?_
    rintro e w1 ⟨rfl, hb⟩
    have B1 := below_next BB.out hb
    obtain ⟨g, cap1, w3, hrun, hO, h3, hg⟩ := app_i64 w1 w.heap.size 0 B1.size
    have F := Lib.hid (show _ ∧ _ ∧ _ from ⟨below_next B1 h3, Nat.le_trans B1.size hg, hO⟩)
    replace hrun := Lib.hid hrun
    clear hb B1 hO h3 hg c0
    go_wp2_with (first | (at_builtin; refine wpList_app_run rfl (.tmp 37) (.tmp 39) IsT rfl rfl rfl hrun.out ?_))
    go_roundw
    case rel => exact ⟨F.out.1, .inr ⟨rfl, g, cap1, rfl, F.out.2⟩⟩
    case measure => simp [RowKit.intOf]
  · go_wp2_with fail
    go_ret2
    exact ⟨g, cap1, rfl, BB.out, hg, hO.out⟩
attribute [go_sem] Tryz.results39 Tryz.results41
/-- n numbers, n at most 1, all 0. -/
def NumR (n : Nat) (w : World) (A : Option Addr) (cap : Nat) : Prop :=
 (n = 0 → A = none ∧ cap = 0) ∧ (n = 1 → ∃ g, A = some ⟨g, 0, none⟩ ∧ g < w.heap.size ∧ w.cell? ⟨g, 0, none⟩ = some (.int .i64 0))
theorem NumR.below {n : Nat} {w w' : World} {A : Option Addr} {cap : Nat} (h : NumR n w A cap) (hb : Below w.heap.size w w') : NumR n w' A cap :=
 ⟨h.1, fun e => by obtain ⟨g, e1, e2, e3⟩ := h.2 e; exact ⟨g, e1, Nat.lt_of_lt_of_le e2 hb.size, (hb.cell (p := ⟨g, 0, none⟩) e2).trans e3⟩⟩
theorem NumR.set {n b : Nat} {w : World} {A : Option Addr} {cap : Nat} (hne : ∀ g, A = some ⟨g, 0, none⟩ → g ≠ b) (h : NumR n w A cap) (o : Nat) (v : Value) : NumR n (w.setCell ⟨b, o, none⟩ v) A cap :=
 ⟨h.1, fun e => by
  obtain ⟨g, e1, e2, e3⟩ := h.2 e
  have hg := grownBy_setCell w b o v
  exact ⟨g, e1, Nat.lt_of_lt_of_le e2 hg.size, hg.cell e3 (fun e => hne g e1 (by cases e; rfl))⟩⟩
def GiveNums (n : Nat) (w : World) (e : Ending) (w' : World) : Prop := ∃ A cap, e = .returned (.tuple #[.slice A n cap, .bool true]) ∧ Below w.heap.size w w' ∧ NumR n w' A cap ∧ ∀ g, A = some ⟨g, 0, none⟩ → w.heap.size ≤ g
def GiveCmd (op k : Int) (n : Nat) (w : World) (e : Ending) (w' : World) : Prop := ∃ A cap, e = .returned (.tuple #[.agg #[.int .i64 op, .int .i64 k, .slice A n cap], .int .i64 0]) ∧ Below w.heap.size w w' ∧ NumR n w' A cap ∧ ∀ g, A = some ⟨g, 0, none⟩ → w.heap.size ≤ g
theorem cnums0 (A : Option Addr) (cap : Nat) (w : World) : Calls Tryz.prog 65 #[.slice A 0 cap, .string ⟨#[]⟩] w (GiveNums 0 w) := by
 refine (cnum0 A cap w).mono ?_
 rintro e w' ⟨rfl, hb⟩
 exact ⟨none, 0, rfl, hb, ⟨fun _ => ⟨rfl, rfl⟩, fun e => by cases e⟩, fun g e => by cases e⟩
theorem cnums1 (b off cap : Nat) (w : World) (hs : w.cell? ⟨b, off, none⟩ = some (.string ⟨#[48]⟩)) (hb : b < w.heap.size) : Calls Tryz.prog 65 #[.slice (some ⟨b, off, none⟩) 1 cap, .string ⟨#[119]⟩] w (GiveNums 1 w) := by
 refine (cnum1 b off cap w hs hb).mono ?_
 rintro e w' ⟨g, c, rfl, hb, hg, ho⟩
 refine ⟨_, c, rfl, hb, ⟨fun e => (by cases e), fun _ => ⟨g, rfl, (ho.lt g rfl).2, by rw [ho.cellAt 0 (by decide)]; rfl⟩⟩, fun g' e => by cases e; exact hg⟩
theorem cmade (n : Nat) (op k : Int) (A : Option Addr) (cap : Nat) (fm : ByteArray) (w : World) (hN : Hid (∀ w1, Below w.heap.size w w1 → Calls Tryz.prog 65 #[.slice A n cap, .string fm] w1 (GiveNums n w1))) :
 Calls Tryz.prog 41 #[.agg #[.int .i64 op, .int .i64 k, .slice none 0 0], .slice A n cap, .int .i64 (n : Int), .string fm] w (GiveCmd op k n w) := by
 have q1 : ((n : Int) != (n : Int)) = false := by simp
 go_enter Tryz.func41, Tryz.ntmps41
 go_upto_region 1 with fail
 have BB := start2 w #[.int .i64 op, .int .i64 k, .slice none 0 0] CmT #[.int .i64 0, .int .i64 0, .slice none 0 0] CmT
 obtain ⟨BB, hsz, qm, q0⟩ := BB
 generalize ((w.alloc (.cells #[.int .i64 op, .int .i64 k, .slice none 0 0] CmT)).alloc (.cells #[.int .i64 0, .int .i64 0, .slice none 0 0] CmT)) = w0 at *
 replace BB := Hi BB
 replace qm := Hi qm
 replace q0 := Hi q0
 clear hsz
 have lc := Hi qm.out.lt
 have lr := Hi q0.out.lt
 have h0 := Hi BB.out.size
 obtain ⟨qp, qq, qr, qs, qt, qu⟩ := reads3 qm.out
 have qC := qm.out.lt
 obtain ⟨q3, q4, q5, q6, q7, q8⟩ := reads3 q0.out
 have q9 := q0.out.lt
 go_wp2_with fail
 refine (hN.out _ BB.out).mono ?_
 rintro e w1 ⟨A2, cap2, rfl, hb, hn, hg⟩
 clear qp qq qr qs qt qu qC q3 q4 q5 q6 q7 q8 q9
 replace qm := kp qm hb
 replace q0 := kp q0 hb
 replace BB := nx BB hb
 clear hb
 have nc := Hi (fun g e => Nat.ne_of_gt (Nat.lt_of_lt_of_le lc.out (hg g e)))
 have nr := Hi (fun g e => Nat.ne_of_gt (Nat.lt_of_lt_of_le lr.out (hg g e)))
 have hg := Hi (fun g e => Nat.le_trans h0.out (hg g e))
 replace hn := Hi hn
 obtain ⟨qp, qq, qr, qs, qt, qu⟩ := reads3 qm.out
 have qC := qm.out.lt
 obtain ⟨q3, q4, q5, q6, q7, q8⟩ := reads3 q0.out
 have q9 := q0.out.lt
 go_upto_region 7 with fail
 clear qp qq qr qs qt qu qC q3 q4 q5 q6 q7 q8 q9
 replace qm := Hi (qm.out.sn 2 (.slice A2 n cap2))
 replace q0 := Hi (q0.out.far (p := w.heap.size) (by omega) 2 (.slice A2 n cap2))
 replace BB := Hi (below_set BB.out (b := w.heap.size) (o := 2) (by omega) (.slice A2 n cap2))
 replace hn := Hi (NumR.set nc.out hn.out 2 (.slice A2 n cap2))
 generalize (w1.setCell ⟨w.heap.size, 2, none⟩ (.slice A2 n cap2)) = w2 at *
 obtain ⟨qp, qq, qr, qs, qt, qu⟩ := reads3 qm.out
 have qC := qm.out.lt
 obtain ⟨q3, q4, q5, q6, q7, q8⟩ := reads3 q0.out
 have q9 := q0.out.lt
 go_wp2_with fail
 clear qp qq qr qs qt qu qC q3 q4 q5 q6 q7 q8 q9
 replace qm := Hi (((qm.out.far (p := w.heap.size + 1) (by omega) 0 (.int .i64 op)).far (p := w.heap.size + 1) (by omega) 1 (.int .i64 k)).far (p := w.heap.size + 1) (by omega) 2 (.slice A2 n cap2))
 replace q0 := Hi (((q0.out.sn 0 (.int .i64 op)).sn 1 (.int .i64 k)).sn 2 (.slice A2 n cap2))
 replace BB := Hi (below_set (below_set (below_set BB.out (b := w.heap.size + 1) (o := 0) (by omega) (.int .i64 op)) (b := w.heap.size + 1) (o := 1) (by omega) (.int .i64 k)) (b := w.heap.size + 1) (o := 2) (by omega) (.slice A2 n cap2))
 replace hn := Hi (NumR.set nr.out (NumR.set nr.out (NumR.set nr.out hn.out 0 (.int .i64 op)) 1 (.int .i64 k)) 2 (.slice A2 n cap2))
 generalize (((w2.setCell ⟨w.heap.size + 1, 0, none⟩ (.int .i64 op)).setCell ⟨w.heap.size + 1, 1, none⟩ (.int .i64 k)).setCell ⟨w.heap.size + 1, 2, none⟩ (.slice A2 n cap2)) = w3 at *
 obtain ⟨q3, q4, q5, q6, q7, q8⟩ := reads3 q0.out
 have q9 := q0.out.lt
 refine bret (.tuple #[.agg #[.int .i64 op, .int .i64 k, .slice A2 n cap2], .int .i64 0]) ?_
 exact ⟨A2, cap2, rfl, BB.out, hn.out, hg.out⟩
theorem cplain (s : ByteArray) (op : Int) (f g : Value) (b : Bool) (hop : op = 1 ∧ b = true ∨ op = 10 ∧ b = false) (w : World) : Calls Tryz.prog 60 #[.agg #[.string s, .int .i64 op, f, g]] w fun e w' => e = .returned (.bool b) ∧ Below w.heap.size w w' := by
 rcases hop with ⟨rfl, rfl⟩ | ⟨rfl, rfl⟩
 ·
  go_enter Tryz.func60, Tryz.ntmps60
  go_upto_region 1 with fail
  obtain ⟨w0, e, BB, q2⟩ := en1 w #[.string s, .int .i64 1, f, g] FmT
  rw [e]; clear e
  obtain ⟨qa, qb, qc, qd, qe, qf, qg, qh⟩ := reads4 q2.out
  have qk := q2.out.lt
  go_wp2_with fail
  go_ret
  exact ⟨rfl, BB.out⟩
 ·
  go_enter Tryz.func60, Tryz.ntmps60
  go_upto_region 1 with fail
  obtain ⟨w0, e, BB, q2⟩ := en1 w #[.string s, .int .i64 10, f, g] FmT
  rw [e]; clear e
  obtain ⟨qa, qb, qc, qd, qe, qf, qg, qh⟩ := reads4 q2.out
  have qk := q2.out.lt
  go_wp2_with fail
  go_ret
  exact ⟨rfl, BB.out⟩
theorem cof (n k : Int) (w : World) : Calls Tryz.prog 54 #[.int .i64 n, .int .i64 k] w fun e w' => e = .returned (.int .i64 n) ∧ w = w' := by
 go_enter Tryz.func54, Tryz.ntmps54
 go_wp2_with fail
 go_ret
 exact ⟨rfl, rfl⟩
theorem cparseL (b o cap : Nat) (w : World) (hc : ¬ cap = 1) (hs : w.cell? ⟨b, o + 1, none⟩ = some (.string ⟨#[48]⟩)) (hb : b < w.heap.size) :
 Calls Tryz.prog 39 #[.agg #[.string ⟨#[108, 111, 97, 100]⟩, .int .i64 1, (.func (.func 53) #[] #[]), (.func (.func 54) #[.int .i64 1] #[])], .slice (some ⟨b, o, none⟩) 2 cap] w (GiveCmd 1 0 1 w) := by
 have hN := Hi (fun w1 (h : Below w.heap.size w w1) cap => cmade 1 1 0 _ cap ⟨#[119]⟩ w1 (Hi fun w2 h2 => cnums1 b (o + 1) cap w2 ((h2.cell (p := ⟨b, o + 1, none⟩) (Nat.lt_of_lt_of_le hb h.size)).trans ((h.cell (p := ⟨b, o + 1, none⟩) hb).trans hs)) (Nat.lt_of_lt_of_le (Nat.lt_of_lt_of_le hb h.size) h2.size)))
 have hP := Hi (fun w => cplain ⟨#[108, 111, 97, 100]⟩ 1 (.func (.func 53) #[] #[]) (.func (.func 54) #[.int .i64 1] #[]) true (.inl ⟨rfl, rfl⟩) w)
 have hO := Hi (fun w => cof 1 0 w)
 have hR := Hi (fun w => srep1 ⟨#[119]⟩ w)
 clear hs hb
 go_enter Tryz.func39, Tryz.ntmps39
 go_upto_region 1 with fail
 have BB := start2 w #[.string ⟨#[108, 111, 97, 100]⟩, .int .i64 1, (.func (.func 53) #[] #[]), (.func (.func 54) #[.int .i64 1] #[])] FmT #[.int .i64 0, .int .i64 0, .slice none 0 0] CmT
 obtain ⟨BB, hsz, q2, q0⟩ := BB
 generalize ((w.alloc (.cells #[.string ⟨#[108, 111, 97, 100]⟩, .int .i64 1, (.func (.func 53) #[] #[]), (.func (.func 54) #[.int .i64 1] #[])] FmT)).alloc (.cells #[.int .i64 0, .int .i64 0, .slice none 0 0] CmT)) = w0 at *
 replace BB := Hi BB
 replace q2 := Hi q2
 replace q0 := Hi q0
 clear hsz
 obtain ⟨qa, qb, qc, qd, qe, qf, qg, qh⟩ := reads4 q2.out
 have qk := q2.out.lt
 obtain ⟨q3, q4, q5, q6, q7, q8⟩ := reads3 q0.out
 have q9 := q0.out.lt
 go_quiet (fail)
 have hb := below_drawn (Below.refl w0.heap.size w0) nq
 generalize w0.drewN nq = w1 at *
 clear qa qb qc qd qe qf qg qh qk q3 q4 q5 q6 q7 q8 q9
 replace q2 := kp q2 hb
 replace q0 := kp q0 hb
 replace BB := nx BB hb
 clear hb nq
 obtain ⟨qa, qb, qc, qd, qe, qf, qg, qh⟩ := reads4 q2.out
 have qk := q2.out.lt
 obtain ⟨q3, q4, q5, q6, q7, q8⟩ := reads3 q0.out
 have q9 := q0.out.lt
 go_wp2_with fail
 refine (hP.out _).mono ?_
 rintro e w2 ⟨rfl, hb⟩
 clear qa qb qc qd qe qf qg qh qk q3 q4 q5 q6 q7 q8 q9
 replace q2 := kp q2 hb
 replace q0 := kp q0 hb
 replace BB := nx BB hb
 clear hb
 obtain ⟨qa, qb, qc, qd, qe, qf, qg, qh⟩ := reads4 q2.out
 have qk := q2.out.lt
 go_wp2_with fail
 refine (hO.out _).mono ?_
 rintro e w9 ⟨rfl, rfl⟩
 go_wp2_with fail
 have hN2 := Hi (fun w9 (hb : Below w2.heap.size w2 w9) => hN.out w9 (below_next BB.out hb))
 have hs := Hi BB.out.size
 have lr := Hi q0.out.lt
 clear qa qb qc qd qe qf qg qh qk
 have KK := Hi fun w9 (h : Below w2.heap.size w2 w9) => And.intro (cells4 (q2.out.keep h)) (cells3 (q0.out.keep h))
 have KD := kd KK
 refine g_bg KK 11 ?_
 refine g_tk 0 ?_
 refine g_tk 1 ?_
 refine g_tk 2 ?_
 refine g_tk 3 ?_
 refine g_tk 4 ?_
 refine g_tk 5 ?_
 refine g_tk 6 ?_
 refine g_sc 7 (fun K hK => ?_)
 go_simp
 go_at_call 61
 refine (hR.out _).mono ?_
 rintro e w3 ⟨rfl, hb⟩
 have qj := rn (w0 := w2) hb
 have qn := KK.out _ qj.out
 clear hb
 refine hK.out _ _ (fun _ => qn) (fun hHeld => ?_)
 replace hHeld := hHeld (by decide)
 clear hK
 refine g_pt ?_
 refine g_sc 8 (fun K hK => ?_)
 go_simp
 go_at_call 41
 refine (hN2.out _ qj.out _).mono ?_
 rintro e w4 ⟨A2, cap2, rfl, hb, hn, hg⟩
 have qi := Hi (below_next qj.out hb)
 have qo := KK.out _ qi.out
 obtain ⟨qw, qx, qy, qz, qA, qB⟩ := reads3 (q0.out.keep qi.out)
 have qD := (q0.out.keep qi.out).lt
 have hgw := Hi (fun g e => Nat.le_trans hs.out (Nat.le_trans qj.out.size (hg g e)))
 have nr := Hi (fun g e => Nat.ne_of_gt (Nat.lt_of_lt_of_le lr.out (Nat.le_trans qj.out.size (hg g e))))
 replace hn := Hi hn
 clear hg
 clear hb
 refine hK.out _ _ (fun _ => qo) (fun hHeld => ?_)
 replace hHeld := hHeld (by decide)
 clear hK
 refine g_pt ?_
 refine g_tk 9 ?_
 refine g_tk 10 ?_
 refine g_ts 11 ?_
 refine g_ts 12 ?_
 refine g_dn ?_
 clear KK KD qn qo
 replace q2 := kp q2 qi.out
 replace q0 := kp q0 qi.out
 replace BB := nx BB qi.out
 clear qj qi
 replace q2 := Hi (((q2.out.far (p := w.heap.size + 1) (by omega) 0 (.int .i64 1)).far (p := w.heap.size + 1) (by omega) 1 (.int .i64 0)).far (p := w.heap.size + 1) (by omega) 2 (.slice A2 1 cap2))
 replace q0 := Hi (((q0.out.sn 0 (.int .i64 1)).sn 1 (.int .i64 0)).sn 2 (.slice A2 1 cap2))
 replace BB := Hi (below_set (below_set (below_set BB.out (b := w.heap.size + 1) (o := 0) (by omega) (.int .i64 1)) (b := w.heap.size + 1) (o := 1) (by omega) (.int .i64 0)) (b := w.heap.size + 1) (o := 2) (by omega) (.slice A2 1 cap2))
 replace hn := Hi (NumR.set nr.out (NumR.set nr.out (NumR.set nr.out hn.out 0 (.int .i64 1)) 1 (.int .i64 0)) 2 (.slice A2 1 cap2))
 generalize (((w4.setCell ⟨w.heap.size + 1, 0, none⟩ (.int .i64 1)).setCell ⟨w.heap.size + 1, 1, none⟩ (.int .i64 0)).setCell ⟨w.heap.size + 1, 2, none⟩ (.slice A2 1 cap2)) = w5 at *
 obtain ⟨q3, q4, q5, q6, q7, q8⟩ := reads3 q0.out
 have q9 := q0.out.lt
 go_wp2_with fail
 refine bret (.tuple #[.agg #[.int .i64 1, .int .i64 0, .slice A2 1 cap2], .int .i64 0]) ?_
 exact ⟨A2, cap2, rfl, BB.out, hn.out, hgw.out⟩
theorem cparseS (k : Nat) (nm : ByteArray) (b o cap : Nat) (w : World) (hc : ¬ cap = 1) (hs : w.cell? ⟨b, o + 1, none⟩ = some (.string nm)) (hb : b < w.heap.size) (hNK : Hid (∀ w1, Calls Tryz.prog 59 #[.string nm] w1 (GiveNmd k true w1))) :
 Calls Tryz.prog 39 #[.agg #[.string ⟨#[115, 97, 118, 101]⟩, .int .i64 10, .func (.func 59) #[] #[], .func (.func 54) #[.int .i64 0] #[]], .slice (some ⟨b, o, none⟩) 2 cap] w (GiveCmd 10 k 0 w) := by
 have hs' := Hi (fun w1 (h : Below w.heap.size w w1) => (h.cell (p := ⟨b, o + 1, none⟩) hb).trans hs)
 have hP := Hi (fun w => cplain ⟨#[115, 97, 118, 101]⟩ 10 (.func (.func 59) #[] #[]) (.func (.func 54) #[.int .i64 0] #[]) false (.inr ⟨rfl, rfl⟩) w)
 have hO := Hi (fun w => cof 0 k w)
 have hR := Hi (fun w => srep0 ⟨#[119]⟩ w)
 have hN := Hi (fun w1 (h : Below w.heap.size w w1) A cap => cmade 0 10 k A cap ⟨#[]⟩ w1 (Hi fun w2 h2 => cnums0 A cap w2))
 clear hs hb
 by_cases hc2 : cap - 1 = 1
 ·
  go_enter Tryz.func39, Tryz.ntmps39
  go_upto_region 1 with fail
  have BB := start2 w #[.string ⟨#[115, 97, 118, 101]⟩, .int .i64 10, .func (.func 59) #[] #[], .func (.func 54) #[.int .i64 0] #[]] FmT #[.int .i64 0, .int .i64 0, .slice none 0 0] CmT
  obtain ⟨BB, hsz, q2, q0⟩ := BB
  generalize ((w.alloc (.cells #[.string ⟨#[115, 97, 118, 101]⟩, .int .i64 10, .func (.func 59) #[] #[], .func (.func 54) #[.int .i64 0] #[]] FmT)).alloc (.cells #[.int .i64 0, .int .i64 0, .slice none 0 0] CmT)) = w0 at *
  replace BB := Hi BB
  replace q2 := Hi q2
  replace q0 := Hi q0
  clear hsz
  obtain ⟨qa, qb, qc, qd, qe, qf, qg, qh⟩ := reads4 q2.out
  have qk := q2.out.lt
  obtain ⟨q3, q4, q5, q6, q7, q8⟩ := reads3 q0.out
  have q9 := q0.out.lt
  go_quiet (fail)
  have hb := below_drawn (Below.refl w0.heap.size w0) nq
  generalize w0.drewN nq = w1 at *
  clear qa qb qc qd qe qf qg qh qk q3 q4 q5 q6 q7 q8 q9
  replace q2 := kp q2 hb
  replace q0 := kp q0 hb
  replace BB := nx BB hb
  clear hb nq
  obtain ⟨qa, qb, qc, qd, qe, qf, qg, qh⟩ := reads4 q2.out
  have qk := q2.out.lt
  obtain ⟨q3, q4, q5, q6, q7, q8⟩ := reads3 q0.out
  have q9 := q0.out.lt
  go_wp2_with fail
  refine (hP.out _).mono ?_
  rintro e w2 ⟨rfl, hb⟩
  clear qa qb qc qd qe qf qg qh qk q3 q4 q5 q6 q7 q8 q9
  replace q2 := kp q2 hb
  replace q0 := kp q0 hb
  replace BB := nx BB hb
  clear hb
  obtain ⟨qa, qb, qc, qd, qe, qf, qg, qh⟩ := reads4 q2.out
  have qk := q2.out.lt
  go_upto_region 6 with fail
  have CT := Hi (fun w9 (hb : Below w.heap.size w w9) => hs'.out w9 hb)
  clear qa qb qc qd qe qf qg qh qk
  have KK := Hi fun w9 (h : Below w2.heap.size w2 w9) => And.intro (cells4 (q2.out.keep h)) (And.intro (cells3 (q0.out.keep h)) (CT.out _ (below_next BB.out h)))
  have KD := kd KK
  refine g_bg KK 9 ?_
  refine g_tk 0 ?_
  refine g_tk 1 ?_
  refine g_tk 2 ?_
  refine g_tk 3 ?_
  refine g_tk 4 ?_
  refine g_sc 5 (fun K hK => ?_)
  go_simp
  go_at_call 59
  refine (hNK.out _).mono ?_
  rintro e w3 ⟨rfl, hb⟩
  have qj := rn (w0 := w2) hb
  have qn := KK.out _ qj.out
  clear hb
  refine hK.out _ _ (fun _ => qn) (fun hHeld => ?_)
  replace hHeld := hHeld (by decide)
  clear hK
  refine g_pt ?_
  refine g_tk 6 ?_
  refine g_tk 7 ?_
  refine g_tp 8 ?_
  refine g_ts 9 ?_
  refine g_ts 10 ?_
  refine g_dn ?_
  clear KK KD qn
  replace q2 := kp q2 qj.out
  replace q0 := kp q0 qj.out
  replace BB := nx BB qj.out
  clear qj
  obtain ⟨qa, qb, qc, qd, qe, qf, qg, qh⟩ := reads4 q2.out
  have qk := q2.out.lt
  obtain ⟨q3, q4, q5, q6, q7, q8⟩ := reads3 q0.out
  have q9 := q0.out.lt
  go_wp2_with fail
  refine (hO.out _).mono ?_
  rintro e w9 ⟨rfl, rfl⟩
  go_wp2_with fail
  have hN2 := Hi (fun w9 (hb : Below w3.heap.size w3 w9) => hN.out w9 (below_next BB.out hb))
  have hs := Hi BB.out.size
  have lr := Hi q0.out.lt
  clear qa qb qc qd qe qf qg qh qk q3 q4 q5 q6 q7 q8 q9
  have KK := Hi fun w9 (h : Below w3.heap.size w3 w9) => And.intro (cells4 (q2.out.keep h)) (cells3 (q0.out.keep h))
  have KD := kd KK
  refine g_bg KK 11 ?_
  refine g_tk 0 ?_
  refine g_tk 1 ?_
  refine g_tk 2 ?_
  refine g_tk 3 ?_
  refine g_tk 4 ?_
  refine g_tk 5 ?_
  refine g_tk 6 ?_
  refine g_sc 7 (fun K hK => ?_)
  go_simp
  go_at_call 61
  refine (hR.out _).mono ?_
  rintro e w4 ⟨rfl, hb⟩
  have qi := rn (w0 := w3) hb
  have qo := KK.out _ qi.out
  clear hb
  refine hK.out _ _ (fun _ => qo) (fun hHeld => ?_)
  replace hHeld := hHeld (by decide)
  clear hK
  refine g_pt ?_
  refine g_sc 8 (fun K hK => ?_)
  go_simp
  go_at_call 41
  refine (hN2.out _ qi.out _ _).mono ?_
  rintro e w5 ⟨A2, cap2, rfl, hb, hn, hg⟩
  have ql := Hi (below_next qi.out hb)
  have qv := KK.out _ ql.out
  obtain ⟨qw, qx, qy, qz, qA, qB⟩ := reads3 (q0.out.keep ql.out)
  have qD := (q0.out.keep ql.out).lt
  have hgw := Hi (fun g e => Nat.le_trans hs.out (Nat.le_trans qi.out.size (hg g e)))
  have nr := Hi (fun g e => Nat.ne_of_gt (Nat.lt_of_lt_of_le lr.out (Nat.le_trans qi.out.size (hg g e))))
  replace hn := Hi hn
  clear hg
  clear hb
  refine hK.out _ _ (fun _ => qv) (fun hHeld => ?_)
  replace hHeld := hHeld (by decide)
  clear hK
  refine g_pt ?_
  refine g_tk 9 ?_
  refine g_tk 10 ?_
  refine g_ts 11 ?_
  refine g_ts 12 ?_
  refine g_dn ?_
  clear KK KD qo qv
  replace q2 := kp q2 ql.out
  replace q0 := kp q0 ql.out
  replace BB := nx BB ql.out
  clear qi ql
  replace q2 := Hi (((q2.out.far (p := w.heap.size + 1) (by omega) 0 (.int .i64 10)).far (p := w.heap.size + 1) (by omega) 1 (.int .i64 (k : Int))).far (p := w.heap.size + 1) (by omega) 2 (.slice A2 0 cap2))
  replace q0 := Hi (((q0.out.sn 0 (.int .i64 10)).sn 1 (.int .i64 (k : Int))).sn 2 (.slice A2 0 cap2))
  replace BB := Hi (below_set (below_set (below_set BB.out (b := w.heap.size + 1) (o := 0) (by omega) (.int .i64 10)) (b := w.heap.size + 1) (o := 1) (by omega) (.int .i64 (k : Int))) (b := w.heap.size + 1) (o := 2) (by omega) (.slice A2 0 cap2))
  replace hn := Hi (NumR.set nr.out (NumR.set nr.out (NumR.set nr.out hn.out 0 (.int .i64 10)) 1 (.int .i64 (k : Int))) 2 (.slice A2 0 cap2))
  generalize (((w5.setCell ⟨w.heap.size + 1, 0, none⟩ (.int .i64 10)).setCell ⟨w.heap.size + 1, 1, none⟩ (.int .i64 (k : Int))).setCell ⟨w.heap.size + 1, 2, none⟩ (.slice A2 0 cap2)) = w6 at *
  obtain ⟨q3, q4, q5, q6, q7, q8⟩ := reads3 q0.out
  have q9 := q0.out.lt
  go_wp2_with fail
  refine bret (.tuple #[.agg #[.int .i64 10, .int .i64 (k : Int), .slice A2 0 cap2], .int .i64 0]) ?_
  exact ⟨A2, cap2, rfl, BB.out, hn.out, hgw.out⟩
 ·
  go_enter Tryz.func39, Tryz.ntmps39
  go_upto_region 1 with fail
  have BB := start2 w #[.string ⟨#[115, 97, 118, 101]⟩, .int .i64 10, .func (.func 59) #[] #[], .func (.func 54) #[.int .i64 0] #[]] FmT #[.int .i64 0, .int .i64 0, .slice none 0 0] CmT
  obtain ⟨BB, hsz, q2, q0⟩ := BB
  generalize ((w.alloc (.cells #[.string ⟨#[115, 97, 118, 101]⟩, .int .i64 10, .func (.func 59) #[] #[], .func (.func 54) #[.int .i64 0] #[]] FmT)).alloc (.cells #[.int .i64 0, .int .i64 0, .slice none 0 0] CmT)) = w0 at *
  replace BB := Hi BB
  replace q2 := Hi q2
  replace q0 := Hi q0
  clear hsz
  obtain ⟨qa, qb, qc, qd, qe, qf, qg, qh⟩ := reads4 q2.out
  have qk := q2.out.lt
  obtain ⟨q3, q4, q5, q6, q7, q8⟩ := reads3 q0.out
  have q9 := q0.out.lt
  go_quiet (fail)
  have hb := below_drawn (Below.refl w0.heap.size w0) nq
  generalize w0.drewN nq = w1 at *
  clear qa qb qc qd qe qf qg qh qk q3 q4 q5 q6 q7 q8 q9
  replace q2 := kp q2 hb
  replace q0 := kp q0 hb
  replace BB := nx BB hb
  clear hb nq
  obtain ⟨qa, qb, qc, qd, qe, qf, qg, qh⟩ := reads4 q2.out
  have qk := q2.out.lt
  obtain ⟨q3, q4, q5, q6, q7, q8⟩ := reads3 q0.out
  have q9 := q0.out.lt
  go_wp2_with fail
  refine (hP.out _).mono ?_
  rintro e w2 ⟨rfl, hb⟩
  clear qa qb qc qd qe qf qg qh qk q3 q4 q5 q6 q7 q8 q9
  replace q2 := kp q2 hb
  replace q0 := kp q0 hb
  replace BB := nx BB hb
  clear hb
  obtain ⟨qa, qb, qc, qd, qe, qf, qg, qh⟩ := reads4 q2.out
  have qk := q2.out.lt
  go_upto_region 6 with fail
  have CT := Hi (fun w9 (hb : Below w.heap.size w w9) => hs'.out w9 hb)
  clear qa qb qc qd qe qf qg qh qk
  have KK := Hi fun w9 (h : Below w2.heap.size w2 w9) => And.intro (cells4 (q2.out.keep h)) (And.intro (cells3 (q0.out.keep h)) (CT.out _ (below_next BB.out h)))
  have KD := kd KK
  refine g_bg KK 9 ?_
  refine g_tk 0 ?_
  refine g_tk 1 ?_
  refine g_tk 2 ?_
  refine g_tk 3 ?_
  refine g_tk 4 ?_
  refine g_sc 5 (fun K hK => ?_)
  go_simp
  go_at_call 59
  refine (hNK.out _).mono ?_
  rintro e w3 ⟨rfl, hb⟩
  have qj := rn (w0 := w2) hb
  have qn := KK.out _ qj.out
  clear hb
  refine hK.out _ _ (fun _ => qn) (fun hHeld => ?_)
  replace hHeld := hHeld (by decide)
  clear hK
  refine g_pt ?_
  refine g_tk 6 ?_
  refine g_tk 7 ?_
  refine g_tp 8 ?_
  refine g_ts 9 ?_
  refine g_ts 10 ?_
  refine g_dn ?_
  clear KK KD qn
  replace q2 := kp q2 qj.out
  replace q0 := kp q0 qj.out
  replace BB := nx BB qj.out
  clear qj
  obtain ⟨qa, qb, qc, qd, qe, qf, qg, qh⟩ := reads4 q2.out
  have qk := q2.out.lt
  obtain ⟨q3, q4, q5, q6, q7, q8⟩ := reads3 q0.out
  have q9 := q0.out.lt
  go_wp2_with fail
  refine (hO.out _).mono ?_
  rintro e w9 ⟨rfl, rfl⟩
  go_wp2_with fail
  have hN2 := Hi (fun w9 (hb : Below w3.heap.size w3 w9) => hN.out w9 (below_next BB.out hb))
  have hs := Hi BB.out.size
  have lr := Hi q0.out.lt
  clear qa qb qc qd qe qf qg qh qk q3 q4 q5 q6 q7 q8 q9
  have KK := Hi fun w9 (h : Below w3.heap.size w3 w9) => And.intro (cells4 (q2.out.keep h)) (cells3 (q0.out.keep h))
  have KD := kd KK
  refine g_bg KK 11 ?_
  refine g_tk 0 ?_
  refine g_tk 1 ?_
  refine g_tk 2 ?_
  refine g_tk 3 ?_
  refine g_tk 4 ?_
  refine g_tk 5 ?_
  refine g_tk 6 ?_
  refine g_sc 7 (fun K hK => ?_)
  go_simp
  go_at_call 61
  refine (hR.out _).mono ?_
  rintro e w4 ⟨rfl, hb⟩
  have qi := rn (w0 := w3) hb
  have qo := KK.out _ qi.out
  clear hb
  refine hK.out _ _ (fun _ => qo) (fun hHeld => ?_)
  replace hHeld := hHeld (by decide)
  clear hK
  refine g_pt ?_
  refine g_sc 8 (fun K hK => ?_)
  go_simp
  go_at_call 41
  refine (hN2.out _ qi.out _ _).mono ?_
  rintro e w5 ⟨A2, cap2, rfl, hb, hn, hg⟩
  have ql := Hi (below_next qi.out hb)
  have qv := KK.out _ ql.out
  obtain ⟨qw, qx, qy, qz, qA, qB⟩ := reads3 (q0.out.keep ql.out)
  have qD := (q0.out.keep ql.out).lt
  have hgw := Hi (fun g e => Nat.le_trans hs.out (Nat.le_trans qi.out.size (hg g e)))
  have nr := Hi (fun g e => Nat.ne_of_gt (Nat.lt_of_lt_of_le lr.out (Nat.le_trans qi.out.size (hg g e))))
  replace hn := Hi hn
  clear hg
  clear hb
  refine hK.out _ _ (fun _ => qv) (fun hHeld => ?_)
  replace hHeld := hHeld (by decide)
  clear hK
  refine g_pt ?_
  refine g_tk 9 ?_
  refine g_tk 10 ?_
  refine g_ts 11 ?_
  refine g_ts 12 ?_
  refine g_dn ?_
  clear KK KD qo qv
  replace q2 := kp q2 ql.out
  replace q0 := kp q0 ql.out
  replace BB := nx BB ql.out
  clear qi ql
  replace q2 := Hi (((q2.out.far (p := w.heap.size + 1) (by omega) 0 (.int .i64 10)).far (p := w.heap.size + 1) (by omega) 1 (.int .i64 (k : Int))).far (p := w.heap.size + 1) (by omega) 2 (.slice A2 0 cap2))
  replace q0 := Hi (((q0.out.sn 0 (.int .i64 10)).sn 1 (.int .i64 (k : Int))).sn 2 (.slice A2 0 cap2))
  replace BB := Hi (below_set (below_set (below_set BB.out (b := w.heap.size + 1) (o := 0) (by omega) (.int .i64 10)) (b := w.heap.size + 1) (o := 1) (by omega) (.int .i64 (k : Int))) (b := w.heap.size + 1) (o := 2) (by omega) (.slice A2 0 cap2))
  replace hn := Hi (NumR.set nr.out (NumR.set nr.out (NumR.set nr.out hn.out 0 (.int .i64 10)) 1 (.int .i64 (k : Int))) 2 (.slice A2 0 cap2))
  generalize (((w5.setCell ⟨w.heap.size + 1, 0, none⟩ (.int .i64 10)).setCell ⟨w.heap.size + 1, 1, none⟩ (.int .i64 (k : Int))).setCell ⟨w.heap.size + 1, 2, none⟩ (.slice A2 0 cap2)) = w6 at *
  obtain ⟨q3, q4, q5, q6, q7, q8⟩ := reads3 q0.out
  have q9 := q0.out.lt
  go_wp2_with fail
  refine bret (.tuple #[.agg #[.int .i64 10, .int .i64 (k : Int), .slice A2 0 cap2], .int .i64 0]) ?_
  exact ⟨A2, cap2, rfl, BB.out, hn.out, hgw.out⟩
end Go.Proofs.YtikpobembcgbfaaGreatDoor
