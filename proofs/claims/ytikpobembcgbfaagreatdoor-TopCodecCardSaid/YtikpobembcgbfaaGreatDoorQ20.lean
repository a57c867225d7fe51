/- Parts of the proof: Bm8 Bm9. -/
import Derived.Test.YtikpobembcgbfaaGreatDoorQ17
import Derived.Test.YtikpobembcgbfaaGreatDoorQ19
import Derived.Test.YtikpobembcgbfaaGreatDoorQ14
set_option linter.unusedVariables false
set_option linter.unusedSimpArgs false
set_option maxRecDepth 100000
set_option maxHeartbeats 40000000
namespace Go.Proofs.YtikpobembcgbfaaGreatDoor
open Go.RowKit Go.Lib
attribute [go_sem] Tryz.results171
theorem uV_app (a b : List UInt8) : uV (a ++ b) = uV a ++ uV b := by simp [uV]
theorem onl_setRow (w : World) (g : Nat) (cs : Array Value) : Onl g w (w.setRow g cs) :=
 ⟨rfl, rfl, rfl, by simp, fun k hk hne => setRow_other w g k cs (fun e => hne (by rw [e]))⟩
theorem midB_copy {pre post : List Value} {m : List UInt8} {cs : List Value} (h : cs.length = m.length) : (midB pre m post).toList.take pre.length ++ cs ++ (midB pre m post).toList.drop (pre.length + cs.length) = pre ++ cs ++ post := by
 unfold midB
 simp only [List.append_assoc, List.take_left]
 congr 2
 rw [← List.drop_drop, List.drop_left, h, ← uV_len m, List.drop_left]
theorem bturnZ (b off cap N z : Nat) (hz : z = 3 ∨ z = 4) (pre post : List Value) (hoff : off = pre.length) (l : List UInt8) (hl : l.length = N * z) (hN : N ≤ 100000) (hcap : N * z ≤ cap) (w : World) (H : AtB w b (midB pre l post) U8T) :
 Calls Tryz.prog 259 #[.slice (some ⟨b, off, none⟩) (N * z) cap, .int .i64 (z : Int)] w fun e w' => e = .returned (.tuple #[]) ∧ Onl b w w' ∧ AtB w' b (midB pre (turnL z l) post) U8T := by
 rcases hz with rfl | rfl
 · rw [Nat.mul_comm] at hl hcap ⊢
   exact bturn3 b off cap N pre post hoff l hl hN hcap w H
 · rw [Nat.mul_comm] at hl hcap ⊢
   exact bturn4 b off cap N pre post hoff l hl hN hcap w H
/-- The pixels within their block: the row that comes next in their midst. -/
theorem pix_mid {l : List UInt8} {x y z : Nat} {dn : Bool} {j : Nat} (h : j < y) : (uV (pixP l x y z dn j)).toArray = midB (uV (preP l x y z dn j (srcR dn y j))) (List.replicate (x * z) 0) (uV (postP l x y z dn j (srcR dn y j))) := by
 rw [pixP_split (t := srcR dn y j) (srcR_lt h), fR_now h, uV_app, uV_app]
 unfold midB
 rw [List.append_assoc]
theorem pix_next {l : List UInt8} {x y z : Nat} {dn : Bool} {j : Nat} (h : j < y) : midB (uV (preP l x y z dn j (srcR dn y j))) (turnL z ((l.drop (54 + j * strideN x z)).take (x * z))) (uV (postP l x y z dn j (srcR dn y j))) = (uV (pixP l x y z dn (j + 1))).toArray := by
 rw [pixP_split (t := srcR dn y j) (srcR_lt h), fR_next h, preP_next h, postP_next h, uV_app, uV_app]
 unfold midB
 rw [List.append_assoc]
theorem AtB.far_ {w : World} {g p : Nat} {cs : Array Value} {T : TypeId} (hp : g ≠ p) (h : AtB w g cs T) (o : Nat) (u : Value) : AtB (w.setCell ⟨p, o, none⟩ u) g cs T := h.far hp o u
theorem size_set (w : World) (a : Addr) (u : Value) : (w.setCell a u).heap.size = w.heap.size := by simp
/-- What a round does with the row: copied, then turned. -/
def RowIn (g_p o R cap : Nat) (v : Value) (w : World) (J' : Array Value) (z : Nat) : Prop :=
 ∃ w2, (Builtin.copy_ #[BLT, BLT] 3 #[.slice (some ⟨g_p, o, none⟩) R cap, v]).run Tryz.prog w = .ok (goInt R) w2 ∧ Onl g_p w w2 ∧
   Calls Tryz.prog 259 #[.slice (some ⟨g_p, o, none⟩) R cap, .int .i64 (z : Int)] w2 fun e w' => e = .returned (.tuple #[]) ∧ Onl g_p w2 w' ∧ AtB w' g_p J' U8T
theorem row_in {l : List UInt8} {x y z n : Nat} {dn : Bool} {j base g_p K : Nat} {v : Value} {w : World} (hj : j < y) (hx : 1 ≤ x ∧ x ≤ 32768) (hz : z = 3 ∨ z = 4) (hn : n = strideN x z) (hb : 54 + n * y ≤ l.length) (hK : K = x * y * z)
 (hp : AtB w g_p (uV (pixP l x y z dn j)).toArray U8T) (hv : w.ownsRow base U8T 1 v n (uV ((l.drop (54 + j * n)).take n))) :
 RowIn g_p (srcR dn y j * (x * z)) (x * z) (K - srcR dn y j * (x * z)) v w (uV (pixP l x y z dn (j + 1))).toArray z := by
 subst hn
 have hs := srcR_lt (down := dn) hj
 have hR : 0 < x * z := Nat.mul_pos (by omega) (by omega)
 have hge := stride_ge x z
 have hlen := preP_len (l := l) (W := x) (C := z) (down := dn) hb j (srcR dn y j) (by omega)
 rw [pix_mid hj] at hp
 have hle : (srcR dn y j + 1) * (x * z) ≤ K := by
  rw [hK, Nat.mul_right_comm, Nat.mul_comm (x * z)]
  exact Nat.mul_le_mul_right _ (by omega)
 rw [Nat.add_mul, Nat.one_mul] at hle
 have hrl : j * strideN x z + strideN x z ≤ strideN x z * y := by
  have := Nat.mul_le_mul_left (strideN x z) (show j + 1 ≤ y by omega)
  rw [Nat.mul_add, Nat.mul_one, Nat.mul_comm _ j] at this
  exact this
 obtain ⟨row, hrow⟩ : ∃ row, row = (l.drop (54 + j * strideN x z)).take (x * z) := ⟨_, rfl⟩
 have hrowl : row.length = x * z := by rw [hrow, List.length_take, List.length_drop]; omega
 have hrt : ((l.drop (54 + j * strideN x z)).take (strideN x z)).take (x * z) = row := by rw [List.take_take, Nat.min_eq_left hge, hrow]
 have hvn : v.ownBlock ≠ none := by
  rcases hv.2 with ⟨-, e⟩ | ⟨g, cap, cur, rfl, -⟩
  · omega
  · simp [Value.ownBlock]
 rcases hv.2 with ⟨-, e⟩ | ⟨gv, cap, cur, rfl, hbv, hh, hc, hm, hsz, ht⟩
 · omega
 · have hcells : ∀ i u, (uV row)[i]? = some u → w.cell? ((⟨gv, 0, none⟩ : Addr).add i) = some u := by
    intro i u hu
    refine hv.cells rfl i u ?_
    rw [← hrt] at hu
    unfold uV at hu ⊢
    rw [List.map_take] at hu
    rw [List.getElem?_take] at hu
    split at hu
    · exact hu
    · cases hu
   have hcopy := run_copy_row (P := Tryz.prog) w BLT BLT 3 U8T g_p (srcR dn y j * (x * z)) (x * z) (K - srcR dn y j * (x * z)) ⟨gv, 0, none⟩ (strideN x z) cap _ U8T (uV row) Tryz.underlying22 size_u8s hp (by rw [uV_len, hrowl]; simp [Nat.min_def]; omega) hcells (by
    unfold midB
    simp only [List.size_toArray, List.length_append, uV_len, hlen, hrowl, List.length_replicate]; omega) (uV_one row)
   have hmid := midB_copy (pre := uV (preP l x y z dn j (srcR dn y j))) (post := uV (postP l x y z dn j (srcR dn y j))) (m := List.replicate (x * z) 0) (cs := uV row) (by rw [uV_len, hrowl]; simp)
   have ho : srcR dn y j * (x * z) = (uV (preP l x y z dn j (srcR dn y j))).length := by rw [uV_len, hlen]
   rw [ho, hmid] at hcopy
   rw [← ho] at hcopy
   refine ⟨_, by rw [hcopy, uV_len, hrowl], onl_setRow _ _ _, ?_⟩
   have hp2 := row_set w g_p (uV (preP l x y z dn j (srcR dn y j)) ++ uV row ++ uV (postP l x y z dn j (srcR dn y j))) hp
   have hT := bturnZ g_p (srcR dn y j * (x * z)) (K - srcR dn y j * (x * z)) x z hz _ _ ho row hrowl (by omega) (by omega) _ hp2
   have hN := pix_next (l := l) (x := x) (y := y) (z := z) (dn := dn) hj
   rw [← hrow] at hN
   rw [hN] at hT
   exact hT
theorem own_block {w : World} {base g K : Nat} {xs : List Value} (h : AtB w g xs.toArray U8T) (hl : xs.length = K) (hK : K ≤ maxLen) (hb : base ≤ g) : w.ownsRow base U8T 1 (.slice (some ⟨g, 0, none⟩) K K) K xs :=
 ⟨by rw [hl, Nat.mul_one], .inr ⟨g, K, xs.toArray, rfl, hb, h, Nat.le_refl _, hK, by simp [hl], by rw [List.toList_toArray, Nat.mul_one, List.take_of_length_le (by omega)]⟩⟩
/-- What is reckoned in a round. -/
structure BmR (dn : Bool) (l : List UInt8) (x y z n K j : Nat) : Prop where
 take : n ≤ (l.drop (54 + j * n)).length
 q0 : (0 : Int) ≤ (j : Int)
 q1 : (j : Int) < (y : Int)
 ew : IntKind.i64.wrap ((j : Int) + 1) = ((j + 1 : Nat) : Int)
 y1 : IntKind.i64.wrap ((y : Int) - 1) = ((y - 1 : Nat) : Int)
 y2 : IntKind.i64.wrap (((y - 1 : Nat) : Int) - (j : Int)) = ((y - 1 - j : Nat) : Int)
 a : IntKind.i64.wrap ((srcR dn y j : Int) * (x : Int)) = ((srcR dn y j * x : Nat) : Int)
 o : IntKind.i64.wrap (((srcR dn y j * x : Nat) : Int) * (z : Int)) = ((srcR dn y j * (x * z) : Nat) : Int)
 t1 : IntKind.i64.wrap ((srcR dn y j : Int) + 1) = ((srcR dn y j + 1 : Nat) : Int)
 a1 : IntKind.i64.wrap (((srcR dn y j + 1 : Nat) : Int) * (x : Int)) = (((srcR dn y j + 1) * x : Nat) : Int)
 o1 : IntKind.i64.wrap ((((srcR dn y j + 1) * x : Nat) : Int) * (z : Int)) = (((srcR dn y j + 1) * (x * z) : Nat) : Int)
 lo : srcR dn y j * (x * z) ≤ (srcR dn y j + 1) * (x * z)
 hi : (srcR dn y j + 1) * (x * z) ≤ K
 dif : (srcR dn y j + 1) * (x * z) - srcR dn y j * (x * z) = x * z
 ne : srcR dn y j * (x * z) < K
theorem bm_round {dn : Bool} {l : List UInt8} {x y z n K j : Nat} (hd : HdOk l x y z n) (hb : 54 + n * y ≤ l.length) (hK : K = x * y * z) (hKl : K ≤ 1000000) (hj : j < y) : BmR dn l x y z n K j := by
 obtain ⟨hx, hy, hxy, hz, h54⟩ := hd.facts
 have hs := srcR_lt (down := dn) hj
 have hR : 0 < x * z := Nat.mul_pos (by omega) (by omega)
 have h1 : (srcR dn y j + 1) * (x * z) ≤ K := by
  rw [hK, Nat.mul_right_comm, Nat.mul_comm (x * z)]
  exact Nat.mul_le_mul_right _ (by omega)
 have h2 : (srcR dn y j + 1) * (x * z) = srcR dn y j * (x * z) + x * z := by rw [Nat.add_mul, Nat.one_mul]
 have h3 : (srcR dn y j + 1) * x ≤ 32768 * 32768 := Nat.mul_le_mul (by omega) (by omega)
 have h4 : srcR dn y j * x ≤ 32768 * 32768 := Nat.mul_le_mul (by omega) (by omega)
 have h5 : j * n + n ≤ n * y := by
  have := Nat.mul_le_mul_left n (show j + 1 ≤ y by omega)
  rw [Nat.mul_add, Nat.mul_one, Nat.mul_comm n j] at this
  exact this
 have e1 : ((srcR dn y j : Int) * (x : Int)) = ((srcR dn y j * x : Nat) : Int) := by rw [Int.natCast_mul]
 have e2 : (((srcR dn y j * x : Nat) : Int) * (z : Int)) = ((srcR dn y j * (x * z) : Nat) : Int) := by rw [← Int.natCast_mul, Nat.mul_assoc]
 have e3 : (((srcR dn y j + 1 : Nat) : Int) * (x : Int)) = (((srcR dn y j + 1) * x : Nat) : Int) := by rw [← Int.natCast_mul]
 have e4 : ((((srcR dn y j + 1) * x : Nat) : Int) * (z : Int)) = (((srcR dn y j + 1) * (x * z) : Nat) : Int) := by rw [← Int.natCast_mul, Nat.mul_assoc]
 refine ⟨by rw [List.length_drop]; omega, by omega, by omega, ?_, ?_, ?_, ?_, ?_, ?_, ?_, ?_, by omega, h1, by omega, by omega⟩
 · rw [show (j : Int) + 1 = ((j + 1 : Nat) : Int) by omega]; exact iw ⟨by omega, by omega⟩
 · rw [show (y : Int) - 1 = ((y - 1 : Nat) : Int) by omega]; exact iw ⟨by omega, by omega⟩
 · rw [show ((y - 1 : Nat) : Int) - (j : Int) = ((y - 1 - j : Nat) : Int) by omega]; exact iw ⟨by omega, by omega⟩
 · rw [e1]; exact iw ⟨by omega, by omega⟩
 · rw [e2]; exact iw ⟨by omega, by omega⟩
 · rw [show (srcR dn y j : Int) + 1 = ((srcR dn y j + 1 : Nat) : Int) by omega]; exact iw ⟨by omega, by omega⟩
 · rw [e3]; exact iw ⟨by omega, by omega⟩
 · rw [e4]; exact iw ⟨by omega, by omega⟩
theorem bread_7 (v : Value) (l : List UInt8) (hl : l.length ≤ 1000000) (w : World) (h : BY w v l) (x y z n : Nat) (hd : HdOk l x y z n) (m : Nat) (hm : m = l.length - 54) (hc : n * y = m) (hsm : decide (hv l 0 = l.length ∧ (hv l 9 = 0 ∨ hv l 9 = l.length - 54)) = true) (dn : Bool) (hdn : dn = decide (2147483648 ≤ hv l 5)) :
 Calls Tryz.prog 171 #[v] w (GiveImg (0, x, y, z, rowsB l x y z dn y) w) := by
 have hlen := Hi (show (l.drop 54).length = m by rw [List.length_drop, hm])
 have CSM := Hi (fun h w H => bsums h (hv l) l.length ⟨hd.facts.2.2.2.2, by omega⟩ w H)
 rw [hsm] at CSM
 have CDN := Hi (fun h w H => bdown h (hv l) w H)
 rw [← hdn] at CDN
 have hb54 := Hi (show 54 + n * y ≤ l.length by have := hd.facts.2.2.2.2; omega)
 have hl' : l.length ≤ 100000000 := by omega
 obtain ⟨K, hK⟩ : ∃ K, K = x * y * z := ⟨_, rfl⟩
 obtain ⟨p, hp⟩ : ∃ p, p = x * y := ⟨_, rfl⟩
 have hKl : K ≤ 1000000 := by
  have h1 := stride_ge x z
  rw [← hd.en] at h1
  have h2 : x * z * y ≤ n * y := Nat.mul_le_mul_right _ h1
  rw [hK, Nat.mul_right_comm]
  omega
 have hpl : p ≤ 4194304 := by rw [hp]; exact hd.facts.2.2.1
 have MK := mk_bytes K hKl
 have p1 : IntKind.i64.wrap ((x : Int) * (y : Int)) = (p : Int) := by rw [show (x : Int) * (y : Int) = (p : Int) by rw [hp, Int.natCast_mul]]; exact iw ⟨by omega, by omega⟩
 have p2 : IntKind.i64.wrap ((p : Int) * (z : Int)) = (K : Int) := by rw [show (p : Int) * (z : Int) = (K : Int) by rw [hK, hp, Int.natCast_mul (x * y)]]; exact iw ⟨by omega, by omega⟩
 have p3 : wrap64 ((x : Int) * (y : Int)) = (p : Int) := by rw [show (x : Int) * (y : Int) = (p : Int) by rw [hp, Int.natCast_mul]]; exact ww ⟨by omega, by omega⟩
 have p4 : wrap64 ((p : Int) * (z : Int)) = (K : Int) := by rw [show (p : Int) * (z : Int) = (K : Int) by rw [hK, hp, Int.natCast_mul (x * y)]]; exact ww ⟨by omega, by omega⟩
 replace hK := Hi hK
 replace hp := Hi hp
 replace hKl := Hi hKl
 replace hl := Hi hl'
 replace hdn := Hi hdn
 clear hpl hl'
 have CN := Hi (fun w1 (hb : Below w.heap.size w w1) => cnew v l hl.out w1 (h.below hb))
 obtain ⟨A, cap, rfl⟩ := h.form
 clear h
 have k0 := hd.facts
 have q1 : ((tkC l : Int) != 0) = false := neq_f hd.tk
 have q2 : ((shC (hv l 4) (rowsN (hv l 5)) : Int) != 0) = false := neq_f hd.sh
 have h0 := Hi hd.tk
 have h1 := Hi hd.fm
 have h2 := Hi hd.sh
 have CT := Hi (bstride x z k0.1 k0.2.2.2.1)
 rw [← hd.en] at CT
 have hex := Hi hd.ex
 have hey := Hi hd.ey
 have hez := Hi hd.ez
 have hen := Hi hd.en
 have hny : n * y ≤ 16875520 := by
  have h3 := stride_le x z
  rw [← hd.en] at h3
  have h4 : x * z ≤ x * 4 := Nat.mul_le_mul_left _ (by have := k0.2.2.2.1; omega)
  have h5 : n * y ≤ (x * 4 + 3) * y := Nat.mul_le_mul_right _ (by omega)
  have h6 : (x * 4 + 3) * y = x * y * 4 + 3 * y := by rw [Nat.add_mul, Nat.mul_right_comm]
  have := k0.2.2.1
  have := k0.2.1
  omega
 have en1 : (n : Int) * (y : Int) = ((n * y : Nat) : Int) := by rw [Int.natCast_mul]
 obtain ⟨N, hN⟩ : ∃ N, N = n * y := ⟨_, rfl⟩
 rw [← hN] at en1 hny
 have ew : IntKind.i64.wrap ((n : Int) * (y : Int)) = (N : Int) := by rw [en1]; exact iw ⟨by omega, by omega⟩
 have ew2 : wrap64 ((n : Int) * (y : Int)) = (N : Int) := by rw [en1]; exact ww ⟨by omega, by omega⟩
 replace hN := Hi hN
 replace k0 := Hi k0
 replace hd := Hi hd
 clear en1 hny
 have g1 : ¬ (m : Int) < (N : Int) := by rw [hN.out, hc]; exact Int.lt_irrefl _
 have g2 : ¬ (N : Int) < (m : Int) := by rw [hN.out, hc]; exact Int.lt_irrefl _
 clear hc hm hsm
 go_enter Tryz.func171, Tryz.ntmps171
 go_wp2_with fail
 obtain ⟨w0, e, BB, q3⟩ := en1 w #[.int .i64 0, .int .i64 0, .int .i64 0, .slice none 0 0] IT
 rw [e]; clear e
 have hsz := Hi q3.out.lt
 refine (CN.out _ BB.out).mono ?_
 rintro e w1 ⟨g, s, rfl, hb, hge, hc, hown⟩
 replace q3 := kp q3 hb
 replace BB := nx BB hb
 clear hb
 have hg := Hi (show w.heap.size < g from by have := hsz.out; omega)
 have hs := Hi (fun b e => (hown.lt b e).2)
 have gs := Hi (cu_lt hc)
 replace hc := Hi hc
 clear CN hge hown
 go_upto_region 2 with fail
 have qt := Hi (And.intro BB.out.size (And.intro q3.out.lt (True.intro)))
 obtain ⟨hb, qh⟩ := laid w1 #[.int .u32 0, .int .u32 0, .int .u32 0, .int .u32 0, .int .u32 0, .int .u32 0, .int .u32 0, .int .u32 0, .int .u32 0, .int .u32 0, .int .u32 0, .int .u32 0, .int .u32 0, .int .u32 0] HT
 replace q3 := kp q3 hb
 replace hc := Hi (CU.below hc.out hb)
 replace BB := nx BB hb
 replace qh := Hi qh
 clear hb
 generalize w1.alloc (.cells #[.int .u32 0, .int .u32 0, .int .u32 0, .int .u32 0, .int .u32 0, .int .u32 0, .int .u32 0, .int .u32 0, .int .u32 0, .int .u32 0, .int .u32 0, .int .u32 0, .int .u32 0, .int .u32 0] HT) = w2 at *
 generalize w1.heap.size = g_h at *
 have hgh := Hi (show g < g_h from gs.out)
 have hsh := Hi (show s.ownBlock ≠ some g_h from fun e => by have := hs.out _ e; omega)
 have D2 := Hi (btake g g g_h s l w2 hc.out qh.out (by have := hgh.out; omega) hsh.out (Nat.le_refl _) (by have := hgh.out; omega))
 clear hs gs
 clear hc
 go_wp2_with fail
 refine D2.out.mono ?_
 rintro e w5 ⟨rfl, hbg, hk⟩
 clear D2 qh
 replace q3 := Hi (q3.out.blk hbg hg.out)
 replace BB := Hi (below_pt BB.out hbg (Nat.le_of_lt hg.out))
 replace hk := Hi hk
 clear hbg
 obtain ⟨hc, hh⟩ := hk.out h0.out
 clear hk
 replace hc := Hi hc
 replace hh := Hi (hd_all hh)
 have CF := Hi (bform g_h (hv l) _ hh.out)
 go_wp2_with fail
 rw [h1.out] at CF
 refine (CF.out).mono ?_
 rintro e w3 ⟨rfl, hb⟩
 replace q3 := kp q3 hb
 replace hc := Hi (CU.below hc.out hb)
 replace hh := Hi (AtB.keep hh.out hb)
 replace BB := nx BB hb
 clear hb
 clear CF
 have CS := Hi (bshape g_h (hv l) _ hh.out (hv_lt l 4 (by omega)) (hv_lt l 5 (by omega)) (hv_lt l 7 (by omega)))
 go_wp2_with fail
 refine (CS.out).mono ?_
 rintro e w4 ⟨X, Y, Z, rfl, hb, hks⟩
 replace q3 := kp q3 hb
 replace hc := Hi (CU.below hc.out hb)
 replace hh := Hi (AtB.keep hh.out hb)
 replace BB := nx BB hb
 clear hb
 replace hks := Hi hks
 clear CS
 go_upto_region 8 with fail
 have gm := Hi (And.intro (cu_lt hc.out) (And.intro hh.out.lt (fun b (e : s.ownBlock = some b) => (hc.out.own.lt b e).2)))
 have qi := Hi (And.intro BB.out.size (And.intro q3.out.lt (True.intro)))
 obtain ⟨hb, q4⟩ := laid w4 #[.int .i64 X, .int .i64 Y, .int .i64 Z, .slice none 0 0] IT
 replace q3 := kp q3 hb
 replace hc := Hi (CU.below hc.out hb)
 replace hh := Hi (AtB.keep hh.out hb)
 replace BB := nx BB hb
 replace q4 := Hi q4
 clear hb
 generalize w4.alloc (.cells #[.int .i64 X, .int .i64 Y, .int .i64 Z, .slice none 0 0] IT) = w5 at *
 generalize w4.heap.size = g_m at *
 obtain ⟨rfl, rfl, rfl⟩ := hks.out h2.out
 clear hks
 rw [← hex.out, ← hey.out, ← hez.out] at q4
 obtain ⟨q5, q6, q7, q8, q9, qa, qb, qc⟩ := reads4 q4.out
 have qg := q4.out.lt
 go_wp2_with fail
 refine (CT.out _).mono ?_
 rintro e w9 ⟨rfl, rfl⟩
 go_wp2_with fail
 have CL := Hi (fun w9 (hb : Below w5.heap.size w5 w9) => cleft g s l 54 w9 (hc.out.below hb))
 rw [hlen.out] at CL
 clear q5 q6 q7 q8 q9 qa qb qc qg
 have KK := Hi (fun (w9 : World) (h : Below w5.heap.size w5 w9) => (cells4 (q4.out.keep h) : (w9.cell? ⟨g_m, 0, none⟩ = some (.int .i64 ↑x) ∧ w9.cell? ⟨g_m, 1, none⟩ = some (.int .i64 ↑y) ∧ w9.cell? ⟨g_m, 2, none⟩ = some (.int .i64 ↑z) ∧ w9.cell? ⟨g_m, 3, none⟩ = some (.slice none 0 0))))
 have K0 := KK.out w5 (Below.refl _ _)
 have KD := KK.out w5.drew (below_drew (Below.refl _ _))
 go_region_held3 (fun w9 => (w9.cell? ⟨g_m, 0, none⟩ = some (.int .i64 ↑x) ∧ w9.cell? ⟨g_m, 1, none⟩ = some (.int .i64 ↑y) ∧ w9.cell? ⟨g_m, 2, none⟩ = some (.int .i64 ↑z) ∧ w9.cell? ⟨g_m, 3, none⟩ = some (.slice none 0 0)))
  (first | with_reducible exact KD | with_reducible exact K0 | with_reducible exact qj)
  (first
    | (go_at_call 251
       refine (CL.out _ (by repeat (first | with_reducible exact Below.refl _ _ | with_reducible apply below_drew | with_reducible apply below_new))).mono ?_
       rintro e w6 ⟨rfl, hb⟩
       have qe := rn (w0 := w5) hb
       have qj := KK.out _ qe.out
       clear hb))
 clear KK K0 KD qj
 replace q3 := kp q3 qe.out
 replace q4 := kp q4 qe.out
 replace hc := Hi (CU.below hc.out qe.out)
 replace hh := Hi (AtB.keep hh.out qe.out)
 replace BB := nx BB qe.out
 clear qe
 clear CL
 go_wp2_with fail
 have CL := Hi (fun w9 (hb : Below w6.heap.size w6 w9) => cleft g s l 54 w9 (hc.out.below hb))
 rw [hlen.out] at CL
 have KK := Hi (fun (w9 : World) (h : Below w6.heap.size w6 w9) => (cells4 (q4.out.keep h) : (w9.cell? ⟨g_m, 0, none⟩ = some (.int .i64 ↑x) ∧ w9.cell? ⟨g_m, 1, none⟩ = some (.int .i64 ↑y) ∧ w9.cell? ⟨g_m, 2, none⟩ = some (.int .i64 ↑z) ∧ w9.cell? ⟨g_m, 3, none⟩ = some (.slice none 0 0))))
 have K0 := KK.out w6 (Below.refl _ _)
 have KD := KK.out w6.drew (below_drew (Below.refl _ _))
 go_region_held3 (fun w9 => (w9.cell? ⟨g_m, 0, none⟩ = some (.int .i64 ↑x) ∧ w9.cell? ⟨g_m, 1, none⟩ = some (.int .i64 ↑y) ∧ w9.cell? ⟨g_m, 2, none⟩ = some (.int .i64 ↑z) ∧ w9.cell? ⟨g_m, 3, none⟩ = some (.slice none 0 0)))
  (first | with_reducible exact KD | with_reducible exact K0 | with_reducible exact qk)
  (first
    | (go_at_call 251
       refine (CL.out _ (by repeat (first | with_reducible exact Below.refl _ _ | with_reducible apply below_drew | with_reducible apply below_new))).mono ?_
       rintro e w7 ⟨rfl, hb⟩
       have qf := rn (w0 := w6) hb
       have qk := KK.out _ qf.out
       clear hb))
 clear KK K0 KD qk
 replace q3 := kp q3 qf.out
 replace q4 := kp q4 qf.out
 replace hc := Hi (CU.below hc.out qf.out)
 replace hh := Hi (AtB.keep hh.out qf.out)
 replace BB := nx BB qf.out
 clear qf
 clear CL
 go_wp2_with fail
 refine (CSM.out _ _ hh.out).mono ?_
 rintro e w9 ⟨rfl, rfl⟩
 obtain ⟨q5, q6, q7, q8, q9, qa, qb, qc⟩ := reads4 q4.out
 have qg := q4.out.lt
 go_upto_region 18 with fail
 obtain ⟨gp0, hgp⟩ : ∃ g, g = w7.heap.size := ⟨_, rfl⟩
 rw [← hgp]
 have nx_m := Hi (show g ≠ g_m ∧ s.ownBlock ≠ some g_m from ⟨by have := gm.out.1; omega, fun e => by have := gm.out.2.2 _ e; omega⟩)
 have nh_m := Hi (show g_h ≠ g_m from by have := gm.out.2.1; omega)
 replace hgp := Hi (show gp0 = (w7.setCell ⟨g_m, 3, none⟩ (.slice (some ⟨gp0, 0, none⟩) K K)).heap.size by rw [size_set]; exact hgp)
 clear q5 q6 q7 q8 q9 qa qb qc qg
 replace q3 := Hi (q3.out.far (p := g_m) (by have dd_m := qi.out; omega) 3 (.slice (some ⟨gp0, 0, none⟩) K K))
 replace q4 := Hi (q4.out.sn 3 (.slice (some ⟨gp0, 0, none⟩) K K))
 replace BB := Hi (below_set BB.out (b := g_m) (o := 3) (by have dd := qi.out; omega) (.slice (some ⟨gp0, 0, none⟩) K K))
 replace hc := Hi (CU.store nx_m.out hc.out 3 (.slice (some ⟨gp0, 0, none⟩) K K))
 replace hh := Hi (AtB.far_ nh_m.out hh.out 3 (.slice (some ⟨gp0, 0, none⟩) K K))
 generalize (w7.setCell ⟨g_m, 3, none⟩ (.slice (some ⟨gp0, 0, none⟩) K K)) = w8 at *
 have gp := Hi (And.intro (cu_lt hc.out) (And.intro hh.out.lt (And.intro q4.out.lt (fun b (e : s.ownBlock = some b) => (hc.out.own.lt b e).2))))
 have qu := Hi (And.intro BB.out.size (And.intro q3.out.lt (And.intro q4.out.lt (True.intro))))
 obtain ⟨hb, qd⟩ := laid w8 (Array.replicate K (Value.int .u8 0)) U8T
 replace q3 := kp q3 hb
 replace q4 := kp q4 hb
 replace hc := Hi (CU.below hc.out hb)
 replace hh := Hi (AtB.keep hh.out hb)
 replace BB := nx BB hb
 replace qd := Hi qd
 clear hb
 generalize w8.alloc (.cells (Array.replicate K (Value.int .u8 0)) U8T) = w10 at *
 generalize w8.heap.size = g_p at *
 rw [hgp.out] at q4 ⊢
 clear hgp gp0 nx_m nh_m
 have hP0 : Hid (AtB w10 g_p (uV (pixP l x y z dn 0)).toArray U8T) := by
  have e : (Array.replicate K (Value.int .u8 0)) = (uV (pixP l x y z dn 0)).toArray := by
   rw [pixP_zero, ← List.toArray_replicate]
   congr 1
   unfold uV
   rw [List.map_replicate, show y * (x * z) = K by rw [hK.out, Nat.mul_comm x y, Nat.mul_assoc]]
   rfl
  have := qd.out
  rw [e] at this
  exact this
 have ORD := Hi (show w.heap.size < g ∧ g < g_h ∧ g_h < g_m ∧ g_m < g_p ∧ ∀ b, s.ownBlock = some b → b < g_m from ⟨hg.out, hgh.out, gm.out.2.1, gp.out.2.2.1, gm.out.2.2⟩)
 clear hgh hsh gm gp qt qi qu qd CT CSM h0 h1 h2 hex hey hez hlen MK p1 p2 p3 p4 ew ew2 g1 g2 hsz
 obtain ⟨q5, q6, q7, q8, q9, qa, qb, qc⟩ := reads4 q4.out
 have qg := q4.out.lt
 go_wp2_with fail
 go_loopw [80] (fun i wr => ∃ j : Nat, j ≤ y ∧ i = .int .i64 (j : Int) ∧ Hid (CU wr g s l (54 + j * n) ∧ HD wr g_h (hv l) ∧ AtB wr g_m #[.int .i64 (x : Int), .int .i64 (y : Int), .int .i64 (z : Int), .slice (some ⟨g_p, 0, none⟩) K K] IT ∧ AtB wr w.heap.size #[.int .i64 0, .int .i64 0, .int .i64 0, .slice none 0 0] IT ∧ AtB wr g_p (uV (pixP l x y z dn j)).toArray U8T ∧ Below w.heap.size w wr)) (fun i _ => y - (intOf i).toNat)
 case atStart => exact ⟨0, Nat.zero_le _, rfl, by rw [Nat.zero_mul]; exact hc.out, hh.out, q4.out, q3.out, hP0.out, BB.out⟩
 case round =>
  clear hc hh q4 q3 hP0 BB q5 q6 q7 q8 q9 qa qb qc qg
  obtain ⟨j, hj, rfl, hI⟩ := hrel
  by_cases hlt : j < y
  · obtain ⟨hc, hh, q4, q3, qd, BB⟩ := hI.out
    clear hI
    have F := bm_round (dn := dn) hd.out hb54.out hK.out hKl.out hlt
    have CT := Hi (ctake g s l (54 + j * n) n wr hc F.take)
    replace hh := Hi hh; replace q4 := Hi q4; replace q3 := Hi q3; replace qd := Hi qd; replace BB := Hi BB
    have q0 : (0 : Int) ≤ (j : Int) := F.q0
    have q1 : (j : Int) < (y : Int) := F.q1
    have ew := F.ew
    obtain ⟨q5, q6, q7, q8, q9, qa, qb, qc⟩ := reads4 q4.out
    replace F := Hi F
    clear hc
    go_wp2_with fail
    refine CT.out.mono ?_
    rintro e w1 ⟨vt, rfl, ho, hc, hvt⟩
    obtain ⟨A2, cap2, rfl⟩ := own_form hvt
    obtain ⟨w2, CPY, ho2, TRN⟩ := row_in hlt hd.out.facts.1 hd.out.facts.2.2.2.1 hd.out.en hb54.out hK.out (AtB.onl qd.out (by have := ORD.out; omega) ho) hvt
    have q2 := hh.out.lt
    replace hh := Hi (AtB.onl hh.out (by have := ORD.out; omega) ho)
    replace q4 := Hi (AtB.onl q4.out (by have := ORD.out; omega) ho)
    replace q3 := Hi (AtB.onl q3.out (by have := ORD.out; omega) ho)
    replace BB := Hi (below_onl' BB.out (Nat.le_of_lt hg.out) ho)
    have DN := Hi (CDN.out g_h w1 hh.out)
    replace hc := Hi hc
    replace TRN := Hi TRN
    replace ho2 := Hi ho2
    clear q5 q6 q7 q8 q9 qa qb qc qd hvt ho CT q2
    obtain ⟨q5, q6, q7, q8, q9, qa, qb, qc⟩ := reads4 q4.out
    have hmz := Hi ((AtB.onl q4.out (by have := ORD.out; omega) ho2.out).cell 2 rfl)
    have u1 := F.out.a
    have u2 := F.out.o
    have u3 := F.out.t1
    have u4 := F.out.a1
    have u5 := F.out.o1
    have u6 := F.out.dif
    have u7 : ((srcR dn y j * (x * z) : Nat) : Int) ≤ (((srcR dn y j + 1) * (x * z) : Nat) : Int) := by have := F.out.lo; omega
    have u8 : (((srcR dn y j + 1) * (x * z) : Nat) : Int) ≤ (K : Int) := by have := F.out.hi; omega
    have u9 := F.out.lo
    have v0 := F.out.hi
    have v1 : ¬ srcR dn y j * (x * z) = K := by have := F.out.ne; omega
    have v2 : ¬ K = srcR dn y j * (x * z) := by have := F.out.ne; omega
    have v3 : (0 : Int) ≤ ((srcR dn y j * (x * z) : Nat) : Int) := by omega
    have v4 := F.out.y1
    have v5 := F.out.y2
    have v6 : Hid (y - 1 - j = srcR false y j) := rfl
    have v7 : Hid (j = srcR true y j) := rfl
    have hfin := Hi (show j + 1 ≤ y from hlt)
    generalize hT : srcR dn y j = t at *
    generalize ht1 : t + 1 = t1 at *
    generalize t * (x * z) = o at *
    generalize t1 * (x * z) = o1 at *
    generalize x * z = R at *
    generalize t * x = a at *
    generalize t1 * x = a1 at *
    replace hT := Hi hT
    replace ht1 := Hi ht1
    have hj2 := Hi hlt
    clear hlt hj
    cases dn with
    | true =>
      rw [← v7.out] at hT
      have hjt : j = t := hT.out
      subst hjt
      clear ew v4 v5 v6
      go_wp2_with fail
      refine DN.out.mono ?_
      rintro e w9 ⟨rfl, rfl⟩
      have hmz2 := hmz.out
      go_wp2_with fail
      refine TRN.out.mono ?_
      rintro e w3 ⟨rfl, ho3, hp3⟩
      replace ho3 := Hi ho3
      replace hp3 := Hi hp3
      go_wp2_with fail
      go_roundw
      case rel =>
       have ho4 := onl_next ho2.out ho3.out
       refine ⟨t1, by rw [← ht1.out]; exact hfin.out, by go_num, ?_, AtB.onl hh.out (by have := ORD.out; omega) ho4, AtB.onl q4.out (by have := ORD.out; omega) ho4, AtB.onl q3.out (by have := ORD.out; omega) ho4, by rw [← ht1.out]; exact hp3.out, below_onl' BB.out (by have := ORD.out; omega) ho4⟩
       rw [← ht1.out, Nat.add_mul, Nat.one_mul, ← Nat.add_assoc]
       exact hc.out.other ho4 (by have := ORD.out; omega) (fun e => by have := ORD.out.2.2.2.2 _ e; have := ORD.out; omega)
      case measure => have := ht1.out; have := hj2.out; simp [intOf]; omega
    | false =>
      rw [← v6.out] at hT
      have hjt : y - 1 - j = t := hT.out
      rw [hjt] at v5
      replace hjt := Hi hjt
      generalize y - 1 = y1 at *
      clear v6 v7
      go_wp2_with fail
      refine DN.out.mono ?_
      rintro e w9 ⟨rfl, rfl⟩
      have hmz2 := hmz.out
      go_wp2_with fail
      refine TRN.out.mono ?_
      rintro e w3 ⟨rfl, ho3, hp3⟩
      replace ho3 := Hi ho3
      replace hp3 := Hi hp3
      go_wp2_with fail
      go_roundw
      case rel =>
       have ho4 := onl_next ho2.out ho3.out
       refine ⟨j + 1, hfin.out, by go_num, ?_, AtB.onl hh.out (by have := ORD.out; omega) ho4, AtB.onl q4.out (by have := ORD.out; omega) ho4, AtB.onl q3.out (by have := ORD.out; omega) ho4, hp3.out, below_onl' BB.out (by have := ORD.out; omega) ho4⟩
       rw [Nat.add_mul, Nat.one_mul, ← Nat.add_assoc]
       exact hc.out.other ho4 (by have := ORD.out; omega) (fun e => by have := ORD.out.2.2.2.2 _ e; have := ORD.out; omega)
      case measure => have := hj2.out; simp [intOf, ew]; omega
  · obtain rfl : j = y := by omega
    obtain ⟨hc, hh, q4, q3, qd, BB⟩ := hI.out
    clear hI hc hh
    have q1 : ¬ (j : Int) < (j : Int) := by omega
    obtain ⟨q5, q6, q7, q8, q9, qa, qb, qc⟩ := reads4 q4
    obtain ⟨ql, qm, qn, qo, qp, qq, qr, qs⟩ := reads4 q3
    have hp2 := Hi ((((qd.far (p := w.heap.size) (by have := ORD.out; omega) 0 (.int .i64 (x : Int))).far (p := w.heap.size) (by have := ORD.out; omega) 1 (.int .i64 (j : Int))).far (p := w.heap.size) (by have := ORD.out; omega) 2 (.int .i64 (z : Int))).far (p := w.heap.size) (by have := ORD.out; omega) 3 (.slice (some ⟨g_p, 0, none⟩) K K))
    have hr2 := (((q3.set_n 0 (.int .i64 (x : Int))).set_n 1 (.int .i64 (j : Int))).set_n 2 (.int .i64 (z : Int))).set_n 3 (.slice (some ⟨g_p, 0, none⟩) K K)
    have hr3 := Hi (show AtB _ w.heap.size #[.int .i64 (x : Int), .int .i64 (j : Int), .int .i64 (z : Int), .slice (some ⟨g_p, 0, none⟩) K K] IT from by simpa using hr2)
    have hb2 := Hi (below_set (below_set (below_set (below_set BB (b := w.heap.size) (o := 0) (Nat.le_refl _) (.int .i64 (x : Int))) (b := w.heap.size) (o := 1) (Nat.le_refl _) (.int .i64 (j : Int))) (b := w.heap.size) (o := 2) (Nat.le_refl _) (.int .i64 (z : Int))) (b := w.heap.size) (o := 3) (Nat.le_refl _) (.slice (some ⟨g_p, 0, none⟩) K K))
    clear hr2 q4 q3 qd BB hlt hj
    go_wp2_with fail
    clear q5 q6 q7 q8 q9 qa qb qc ql qm qn qo qp qq qr qs
    generalize (((wr.setCell ⟨w.heap.size, 0, none⟩ (.int .i64 (x : Int))).setCell ⟨w.heap.size, 1, none⟩ (.int .i64 (j : Int))).setCell ⟨w.heap.size, 2, none⟩ (.int .i64 (z : Int))).setCell ⟨w.heap.size, 3, none⟩ (.slice (some ⟨g_p, 0, none⟩) K K) = wE at *
    obtain ⟨ql, qm, qn, qo, qp, qq, qr, qs⟩ := reads4 hr3.out
    refine bret (.tuple #[imv (x : Int) (j : Int) (z : Int) (.slice (some ⟨g_p, 0, none⟩) K K), .int .i64 0]) ?_
    refine ⟨x, j, z, _, rfl, hb2.out, ⟨_, _, _, rfl⟩, fun e => absurd rfl e, fun _ => ⟨rfl, rfl, rfl, ?_⟩⟩
    have hlenP : (pixP l x j z dn j).length = K := by
     have := preP_len (l := l) (W := x) (C := z) (H := j) (down := dn) (by rw [← hen.out]; exact hb54.out) j j (Nat.le_refl _)
     have e : pixP l x j z dn j = preP l x j z dn j j := rfl
     rw [e, this, hK.out, Nat.mul_comm x j, Nat.mul_assoc]
    show World.ownsRow _ _ _ _ _ (rowsB l x j z dn j).length (uV (rowsB l x j z dn j))
    rw [← pixP_all, hlenP]
    exact own_block hp2.out (by rw [uV_len, hlenP]) (by have := hKl.out; unfold maxLen; omega) (by have := ORD.out; omega)
theorem bread (v : Value) (l : List UInt8) (hl : l.length ≤ 1000000) (w : World) (h : BY w v l) : Calls Tryz.prog 171 #[v] w (GiveImg (bmpR l) w) := by
 rw [← bmpP_eq]
 unfold bmpP
 by_cases h0 : tkC l = 0
 · rw [if_neg (by omega)]
   by_cases h1 : fmB (hv l) = false
   · rw [if_pos h1]; exact bread_2 v l (by omega) w h h0 h1
   · rw [if_neg h1]
     have h1 : fmB (hv l) = true := by simpa using h1
     by_cases h2 : shC (hv l 4) (rowsN (hv l 5)) = 0
     · rw [if_neg (by omega)]
       have hd : HdOk l (hv l 4) (rowsN (hv l 5)) (hv l 7 / 8) (strideN (hv l 4) (hv l 7 / 8)) := ⟨h0, h1, h2, rfl, rfl, rfl, rfl⟩
       by_cases h3 : l.length - 54 < strideN (hv l 4) (hv l 7 / 8) * rowsN (hv l 5)
       · rw [if_pos h3]; exact bread_4 v l (by omega) w h _ _ _ _ hd _ rfl h3
       · rw [if_neg h3]
         by_cases h4 : strideN (hv l 4) (hv l 7 / 8) * rowsN (hv l 5) < l.length - 54
         · rw [if_pos h4]; exact bread_5 v l (by omega) w h _ _ _ _ hd _ rfl h4
         · rw [if_neg h4]
           cases h5 : decide (hv l 0 = l.length ∧ (hv l 9 = 0 ∨ hv l 9 = l.length - 54)) with
           | false => rw [if_pos rfl]; exact bread_6 v l (by omega) w h _ _ _ _ hd _ rfl (by omega) h5
           | true => rw [if_neg (by simp)]; exact bread_7 v l hl w h _ _ _ _ hd _ rfl (by omega) h5 _ rfl
     · rw [if_pos h2]; exact bread_3 v l (by omega) w h h0 h1 h2
 · rw [if_pos h0]; exact bread_1 v l (by omega) w h h0
end Go.Proofs.YtikpobembcgbfaaGreatDoor
