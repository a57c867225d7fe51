/- Parts of the proof: DecP BmP BmQ Tp0. -/
import Derived.Lib.ItoaNum
set_option linter.unusedVariables false
set_option linter.unusedSimpArgs false
set_option maxRecDepth 100000
set_option maxHeartbeats 40000000
namespace Go.Proofs.YtikpobembcgbfaaGreatDoor
open Go.Lib
def isD (l : List UInt8) : Prop := ∀ c ∈ l, 48 ≤ c.toNat ∧ c.toNat ≤ 57
instance (l : List UInt8) : Decidable (isD l) := by unfold isD; infer_instance
def decL (l : List UInt8) : Nat := l.foldl (fun a c => 10 * a + (c.toNat - 48)) 0
theorem decL_app (l : List UInt8) (c : UInt8) : decL (l ++ [c]) = 10 * decL l + (c.toNat - 48) := by simp [decL, List.foldl_append]
theorem fold_from : ∀ (l : List UInt8) (a : Nat), l.foldl (fun a c => 10 * a + (c.toNat - 48)) a = a * 10 ^ l.length + decL l
 | [], a => by simp [decL]
 | c :: l, a => by
   show l.foldl _ (10 * a + (c.toNat - 48)) = a * 10 ^ (l.length + 1) + l.foldl _ (10 * 0 + (c.toNat - 48))
   rw [fold_from l, fold_from l, Nat.pow_succ, Nat.add_mul, show a * (10 ^ l.length * 10) = 10 * a * 10 ^ l.length by rw [Nat.mul_comm 10 a, Nat.mul_assoc, Nat.mul_comm 10]]
   simp [Nat.add_assoc]
theorem decL_cons (c : UInt8) (l : List UInt8) : decL (c :: l) = (c.toNat - 48) * 10 ^ l.length + decL l := by
 show l.foldl _ (10 * 0 + (c.toNat - 48)) = _
 rw [fold_from]; simp
theorem isD_app {a b : List UInt8} : isD (a ++ b) ↔ isD a ∧ isD b := by
 unfold isD
 constructor
 · intro h; exact ⟨fun c hc => h c (List.mem_append_left _ hc), fun c hc => h c (List.mem_append_right _ hc)⟩
 · rintro ⟨h1, h2⟩ c hc
   rcases List.mem_append.1 hc with h | h
   · exact h1 c h
   · exact h2 c h
theorem decL_lt : ∀ {l : List UInt8}, isD l → decL l < 10 ^ l.length
 | [], _ => by simp [decL]
 | c :: l, h => by
   have h1 := h c (by simp)
   have h2 : decL l < 10 ^ l.length := decL_lt fun x hx => h x (by simp [hx])
   rw [decL_cons, List.length_cons, Nat.pow_succ]
   have h3 : (c.toNat - 48) * 10 ^ l.length ≤ 9 * 10 ^ l.length := Nat.mul_le_mul_right _ (by omega)
   omega
theorem byte48 {d : Nat} (h : d < 10) : (UInt8.ofNat (48 + d)).toNat = 48 + d := by
 rw [UInt8.toNat_ofNat']
 exact Nat.mod_eq_of_lt (by omega)
theorem dec_facts : ∀ u : Nat, isD (decDigits u) ∧ decL (decDigits u) = u ∧ decDigits u ≠ [] := by
 intro u
 induction u using Nat.strongRecOn with
 | _ u ih =>
   rw [decDigits]
   split
   · rename_i h
     refine ⟨?_, ?_, by simp⟩
     · intro c hc
       obtain rfl : c = UInt8.ofNat (48 + u) := by simpa using hc
       rw [byte48 h]; omega
     · show 10 * 0 + ((UInt8.ofNat (48 + u)).toNat - 48) = u
       rw [byte48 h]; omega
   · rename_i h
     obtain ⟨h1, h2, h3⟩ := ih (u / 10) (by omega)
     refine ⟨isD_app.2 ⟨h1, ?_⟩, ?_, by simp⟩
     · intro c hc
       obtain rfl : c = UInt8.ofNat (48 + u % 10) := by simpa using hc
       rw [byte48 (by omega)]; omega
     · rw [decL_app, h2, byte48 (by omega)]; omega
theorem dec_len : ∀ (k u : Nat), u < 10 ^ (k + 1) → (decDigits u).length ≤ k + 1
 | 0, u, h => by rw [decDigits, dif_pos (by simpa using h)]; simp
 | k + 1, u, h => by
   rw [decDigits]
   split
   · simp
   · have := dec_len k (u / 10) (by rw [Nat.pow_succ] at h; omega)
     simp only [List.length_append, List.length_cons, List.length_nil]; omega
theorem dec_head : ∀ u : Nat, 0 < u → (decDigits u).head? ≠ some 48 := by
 intro u
 induction u using Nat.strongRecOn with
 | _ u ih =>
   intro hu
   rw [decDigits]
   split
   · rename_i h
     intro e
     have e1 : UInt8.ofNat (48 + u) = 48 := by simpa using e
     have := congrArg UInt8.toNat e1
     rw [byte48 h] at this
     simp at this
     omega
   · rename_i h
     have h1 := ih (u / 10) (by omega) (by omega)
     obtain ⟨-, -, h3⟩ := dec_facts (u / 10)
     cases hd : decDigits (u / 10) with
     | nil => exact absurd hd h3
     | cons c l => rw [hd] at h1; simpa using h1
/-- Whether a byte is a blank; a digit. -/
def blankB (c : UInt8) : Bool := decide ((9 ≤ c.toNat ∧ c.toNat ≤ 13) ∨ c.toNat = 32)
def digB (c : UInt8) : Bool := decide (48 ≤ c.toNat ∧ c.toNat ≤ 57)
/-- How many bytes are blanks and remarks (true: within a remark). -/
def blk : Bool → List UInt8 → Nat
 | _, [] => 0
 | false, c :: t => if blankB c then 1 + blk false t else if c = 35 then 1 + blk true t else 0
 | true, c :: t => 1 + blk (decide (c ≠ 10)) t
def dgN : List UInt8 → Nat
 | [] => 0
 | c :: t => if digB c then 1 + dgN t else 0
/-- Blanks, a number, one blank: the code, (the number,) how many bytes. -/
def blkR (l : List UInt8) : Nat × Nat := if l = [] then (20, 0) else if blk false l = 0 then (21, 0) else (0, blk false l)
def numR (l : List UInt8) (most : Nat) : Nat × Nat × Nat :=
 if l = [] then (20, 0, 0) else if dgN l = 0 ∨ (1 < dgN l ∧ l.head? = some 48) then (21, 0, 0) else if most < decL (l.take (dgN l)) then (30, 0, 0) else (0, decL (l.take (dgN l)), dgN l)
def oneR : List UInt8 → Nat × Nat
 | [] => (20, 0)
 | c :: _ => if blankB c then (0, 1) else (21, 0)
/-- Blanks and then a number: the code, the number, how many bytes. -/
def fldR (l : List UInt8) (most : Nat) : Nat × Nat × Nat :=
 if (blkR l).1 = 0 then
  if (numR (l.drop (blkR l).2) most).1 = 0 then (0, (numR (l.drop (blkR l).2) most).2.1, (blkR l).2 + (numR (l.drop (blkR l).2) most).2.2)
  else ((numR (l.drop (blkR l).2) most).1, 0, 0)
 else ((blkR l).1, 0, 0)
theorem dgN_app : ∀ {h : List UInt8} {c : UInt8} {r : List UInt8}, isD h → digB c = false → dgN (h ++ c :: r) = h.length
 | [], c, r, _, hc => by show (if digB c = true then _ else _) = _; rw [hc]; rfl
 | x :: h, c, r, hd, hc => by
   have hx : digB x = true := decide_eq_true (hd x (by simp))
   have ih := dgN_app (h := h) (c := c) (r := r) (fun y hy => hd y (by simp [hy])) hc
   show (if digB x = true then 1 + dgN (h ++ c :: r) else 0) = _
   rw [hx, ih]
   simp
   omega
theorem num_dec (w : Nat) (c : UInt8) (r : List UInt8) (hc : digB c = false) (most : Nat) (hm : w ≤ most) (h0 : 0 < w) : numR (decDigits w ++ c :: r) most = (0, w, (decDigits w).length) := by
 obtain ⟨h1, h2, h3⟩ := dec_facts w
 have hn := dgN_app (c := c) (r := r) h1 hc
 have hl : 0 < (decDigits w).length := List.length_pos_iff.2 h3
 have hh : (decDigits w ++ c :: r).head? ≠ some 48 := by
  have := dec_head w h0
  cases hd : decDigits w with
  | nil => exact absurd hd h3
  | cons x l => rw [hd] at this; simpa using this
 unfold numR
 rw [if_neg (by cases hd : decDigits w <;> simp), hn, if_neg (fun h => h.elim (fun h => by omega) (fun h => hh h.2)), List.take_left, h2, if_neg (by omega)]
theorem blk_one (c d : UInt8) (r : List UInt8) (hc : blankB c = true) (hd : blankB d = false) (h35 : d ≠ 35) : blk false (c :: d :: r) = 1 := by
 show (if blankB c = true then 1 + blk false (d :: r) else _) = 1
 rw [hc]
 show 1 + (if blankB d = true then _ else if d = 35 then _ else 0) = 1
 rw [hd, if_neg (by simp), if_neg h35]
theorem dig_plain {d : UInt8} (h : 48 ≤ d.toNat ∧ d.toNat ≤ 57) : blankB d = false ∧ d ≠ 35 := by
 constructor
 · unfold blankB; rw [decide_eq_false_iff_not]; omega
 · rintro rfl; simp at h
/-- A blank, a number, a sign that is no digit. -/
theorem fld_dec (b : UInt8) (hb : blankB b = true) (w : Nat) (c : UInt8) (r : List UInt8) (hc : digB c = false) (most : Nat) (hm : w ≤ most) (h0 : 0 < w) : fldR (b :: (decDigits w ++ c :: r)) most = (0, w, 1 + (decDigits w).length) := by
 obtain ⟨h1, -, h3⟩ := dec_facts w
 have hB : blkR (b :: (decDigits w ++ c :: r)) = (0, 1) := by
  have : blk false (b :: (decDigits w ++ c :: r)) = 1 := by
   cases hd : decDigits w with
   | nil => exact absurd hd h3
   | cons x l =>
     rw [hd] at h1
     obtain ⟨p1, p2⟩ := dig_plain (h1 x (by simp))
     exact blk_one b x _ hb p1 p2
  unfold blkR
  rw [if_neg (by simp), this, if_neg (by omega)]
 unfold fldR
 rw [hB]
 simp only [if_true, List.drop_succ_cons, List.drop_zero]
 rw [num_dec w c r hc most hm h0]
 simp
/-- What stands behind the first two bytes: the code, the size, what is left. -/
def pnmS (l : List UInt8) : Nat × Nat × Nat × List UInt8 :=
 if (fldR l 32768).1 ≠ 0 then ((fldR l 32768).1, 0, 0, []) else
 if (fldR (l.drop (fldR l 32768).2.2) 32768).1 ≠ 0 then ((fldR (l.drop (fldR l 32768).2.2) 32768).1, 0, 0, []) else
 if (fldR l 32768).2.1 < 1 ∨ (fldR (l.drop (fldR l 32768).2.2) 32768).2.1 < 1 then (12, 0, 0, []) else
 if 4194304 < (fldR l 32768).2.1 * (fldR (l.drop (fldR l 32768).2.2) 32768).2.1 then (30, 0, 0, []) else
 if (fldR ((l.drop (fldR l 32768).2.2).drop (fldR (l.drop (fldR l 32768).2.2) 32768).2.2) 255).1 ≠ 0 then ((fldR ((l.drop (fldR l 32768).2.2).drop (fldR (l.drop (fldR l 32768).2.2) 32768).2.2) 255).1, 0, 0, []) else
 if (fldR ((l.drop (fldR l 32768).2.2).drop (fldR (l.drop (fldR l 32768).2.2) 32768).2.2) 255).2.1 ≠ 255 then (21, 0, 0, []) else
 if (oneR (((l.drop (fldR l 32768).2.2).drop (fldR (l.drop (fldR l 32768).2.2) 32768).2.2).drop (fldR ((l.drop (fldR l 32768).2.2).drop (fldR (l.drop (fldR l 32768).2.2) 32768).2.2) 255).2.2)).1 ≠ 0 then
  ((oneR (((l.drop (fldR l 32768).2.2).drop (fldR (l.drop (fldR l 32768).2.2) 32768).2.2).drop (fldR ((l.drop (fldR l 32768).2.2).drop (fldR (l.drop (fldR l 32768).2.2) 32768).2.2) 255).2.2)).1, 0, 0, []) else
 (0, (fldR l 32768).2.1, (fldR (l.drop (fldR l 32768).2.2) 32768).2.1, (((l.drop (fldR l 32768).2.2).drop (fldR (l.drop (fldR l 32768).2.2) 32768).2.2).drop (fldR ((l.drop (fldR l 32768).2.2).drop (fldR (l.drop (fldR l 32768).2.2) 32768).2.2) 255).2.2).drop 1)
/-- The image that bytes are (the code; W, H, C; the pixels). -/
def pnmR : List UInt8 → Nat × Nat × Nat × Nat × List UInt8
 | x :: y :: l =>
   if x ≠ 80 ∨ (y ≠ 53 ∧ y ≠ 54) then (21, 0, 0, 0, []) else
   if (pnmS l).1 ≠ 0 then ((pnmS l).1, 0, 0, 0, []) else
   if (pnmS l).2.2.2.length < (pnmS l).2.1 * (pnmS l).2.2.1 * (if y = 54 then 3 else 1) then (20, 0, 0, 0, []) else
   if (pnmS l).2.1 * (pnmS l).2.2.1 * (if y = 54 then 3 else 1) < (pnmS l).2.2.2.length then (22, 0, 0, 0, []) else
   (0, (pnmS l).2.1, (pnmS l).2.2.1, if y = 54 then 3 else 1, (pnmS l).2.2.2)
 | [x] => if x = 80 then (20, 0, 0, 0, []) else (21, 0, 0, 0, [])
 | [] => (20, 0, 0, 0, [])
def pnmHd (W H C : Nat) : List UInt8 := [80, if C = 3 then 54 else 53, 10] ++ (decDigits W ++ 32 :: (decDigits H ++ [10, 50, 53, 53, 10]))
theorem dec255 : decDigits 255 = [50, 53, 53] := by
 rw [decDigits, dif_neg (by omega), decDigits, dif_neg (by omega), decDigits, dif_pos (by omega)]
 rfl
theorem pnmS_back (W H : Nat) (p : List UInt8) (hW : 1 ≤ W ∧ W ≤ 32768) (hH : 1 ≤ H ∧ H ≤ 32768) (hWH : W * H ≤ 4194304) : pnmS (10 :: (decDigits W ++ 32 :: (decDigits H ++ 10 :: 50 :: 53 :: 53 :: 10 :: p))) = (0, W, H, p) := by
 have f1 := fld_dec 10 (by decide) W 32 (decDigits H ++ 10 :: 50 :: 53 :: 53 :: 10 :: p) (by decide) 32768 hW.2 (by omega)
 have f2 := fld_dec 32 (by decide) H 10 (50 :: 53 :: 53 :: 10 :: p) (by decide) 32768 hH.2 (by omega)
 have f3 := fld_dec 10 (by decide) 255 10 p (by decide) 255 (by omega) (by omega)
 rw [dec255] at f3
 have d1 : (10 :: (decDigits W ++ 32 :: (decDigits H ++ 10 :: 50 :: 53 :: 53 :: 10 :: p))).drop (1 + (decDigits W).length) = 32 :: (decDigits H ++ 10 :: 50 :: 53 :: 53 :: 10 :: p) := by
  rw [Nat.add_comm, List.drop_succ_cons, List.drop_left]
 have d2 : (32 :: (decDigits H ++ 10 :: 50 :: 53 :: 53 :: 10 :: p)).drop (1 + (decDigits H).length) = 10 :: 50 :: 53 :: 53 :: 10 :: p := by
  rw [Nat.add_comm, List.drop_succ_cons, List.drop_left]
 have d3 : (10 :: 50 :: 53 :: 53 :: 10 :: p).drop (1 + [(50 : UInt8), 53, 53].length) = 10 :: p := rfl
 have f3' : fldR (10 :: 50 :: 53 :: 53 :: 10 :: p) 255 = (0, 255, 1 + [(50 : UInt8), 53, 53].length) := f3
 unfold pnmS
 simp only [f1, d1, f2, d2, f3', d3]
 rw [if_neg (by simp), if_neg (by simp), if_neg (by omega), if_neg (by omega), if_neg (by simp), if_neg (by simp)]
 have o1 : oneR (10 :: p) = (0, 1) := by show (if blankB 10 = true then ((0 : Nat), (1 : Nat)) else (21, 0)) = (0, 1); rw [if_pos (by decide)]
 simp [o1]
theorem pnm_back (W H C : Nat) (p : List UInt8) (hW : 1 ≤ W ∧ W ≤ 32768) (hH : 1 ≤ H ∧ H ≤ 32768) (hWH : W * H ≤ 4194304) (hC : C = 1 ∨ C = 3) (hp : p.length = W * H * C) : pnmR (pnmHd W H C ++ p) = (0, W, H, C, p) := by
 have e : pnmHd W H C ++ p = 80 :: (if C = 3 then 54 else 53) :: 10 :: (decDigits W ++ 32 :: (decDigits H ++ 10 :: 50 :: 53 :: 53 :: 10 :: p)) := by
  unfold pnmHd; simp
 have hc : (if (if C = 3 then (54 : UInt8) else 53) = 54 then 3 else 1) = C := by
  rcases hC with rfl | rfl <;> rfl
 rw [e]
 unfold pnmR
 simp only [pnmS_back W H p hW hH hWH, hc]
 rw [if_neg (by rcases hC with rfl | rfl <;> simp), if_neg (by simp), if_neg (by omega), if_neg (by omega)]
/-- A number in so many bytes, the lowest first; its bytes. -/
def lowB : Nat → List UInt8 → Nat
 | 0, _ => 0
 | _, [] => 0
 | n + 1, c :: t => c.toNat + 256 * lowB n t
def putB : Nat → Nat → List UInt8
 | 0, _ => []
 | n + 1, x => UInt8.ofNat (x % 256) :: putB n (x / 256)
theorem putB_len : ∀ n x, (putB n x).length = n
 | 0, _ => rfl
 | n + 1, x => by simp [putB, putB_len n]
theorem byte256 (x : Nat) : (UInt8.ofNat (x % 256)).toNat = x % 256 := by
 rw [UInt8.toNat_ofNat']
 exact Nat.mod_eq_of_lt (by omega)
theorem low_put : ∀ (n x : Nat) (t : List UInt8), x < 256 ^ n → lowB n (putB n x ++ t) = x
 | 0, x, t, h => by simp at h; subst h; rfl
 | n + 1, x, t, h => by
   show (UInt8.ofNat (x % 256)).toNat + 256 * lowB n (putB n (x / 256) ++ t) = x
   rw [byte256, low_put n (x / 256) t (by rw [Nat.pow_succ] at h; omega)]
   omega
theorem lowB_lt : ∀ (n : Nat) (l : List UInt8), lowB n l < 256 ^ n
 | 0, l => by cases l <;> simp [lowB]
 | n + 1, [] => by show 0 < _; exact Nat.pow_pos (by omega)
 | n + 1, c :: t => by
   have := lowB_lt n t
   have hc := c.toNat_lt
   show c.toNat + 256 * lowB n t < _
   rw [Nat.pow_succ]
   omega
/-- The bytes of a row. -/
def strideN (w c : Nat) : Nat := (w * c + 3) / 4 * 4
/-- The first and the third channel of each pixel in each other's place. -/
def turn3 : List UInt8 → List UInt8
 | a :: b :: c :: t => c :: b :: a :: turn3 t
 | l => l
def turn4 : List UInt8 → List UInt8
 | a :: b :: c :: d :: t => c :: b :: a :: d :: turn4 t
 | l => l
def turnL (c : Nat) (l : List UInt8) : List UInt8 := if c = 4 then turn4 l else turn3 l
theorem turn3_len : ∀ l : List UInt8, (turn3 l).length = l.length
 | a :: b :: c :: t => by simp [turn3, turn3_len t]
 | [] => rfl
 | [_] => rfl
 | [_, _] => rfl
theorem turn4_len : ∀ l : List UInt8, (turn4 l).length = l.length
 | a :: b :: c :: d :: t => by simp [turn4, turn4_len t]
 | [] => rfl
 | [_] => rfl
 | [_, _] => rfl
 | [_, _, _] => rfl
theorem turn3_back : ∀ l : List UInt8, turn3 (turn3 l) = l
 | a :: b :: c :: t => by simp [turn3, turn3_back t]
 | [] => rfl
 | [_] => rfl
 | [_, _] => rfl
theorem turn4_back : ∀ l : List UInt8, turn4 (turn4 l) = l
 | a :: b :: c :: d :: t => by simp [turn4, turn4_back t]
 | [] => rfl
 | [_] => rfl
 | [_, _] => rfl
 | [_, _, _] => rfl
theorem turnL_len (c : Nat) (l : List UInt8) : (turnL c l).length = l.length := by
 unfold turnL; split
 · exact turn4_len l
 · exact turn3_len l
theorem turnL_back (c : Nat) (l : List UInt8) : turnL c (turnL c l) = l := by
 unfold turnL; split
 · exact turn4_back l
 · exact turn3_back l
/-- The pixels: row after row, each out of its place. -/
def rowsB (b : List UInt8) (w h c : Nat) (down : Bool) : Nat → List UInt8
 | 0 => []
 | y + 1 => rowsB b w h c down y ++ turnL c ((b.drop (54 + (if down then y else h - 1 - y) * strideN w c)).take (w * c))
def hdB (b : List UInt8) (at_ n : Nat) : Nat := lowB n (b.drop at_)
/-- Why bytes are no image of this form; 0: they may be one. -/
def bmpF (b : List UInt8) : Nat :=
 if b.length = 0 ∨ (b.length = 1 ∧ b.head? = some 66) then 20 else
 if b.head? ≠ some 66 ∨ (b.drop 1).head? ≠ some 77 then 21 else
 if b.length < 54 then 20 else
 if hdB b 6 4 ≠ 0 ∨ hdB b 10 4 ≠ 54 ∨ hdB b 14 4 ≠ 40 ∨ hdB b 26 2 ≠ 1 ∨ hdB b 30 4 ≠ 0 ∨ hdB b 46 4 ≠ 0 ∨ hdB b 50 4 ≠ 0 then 21 else
 if hdB b 28 2 ≠ 24 ∧ hdB b 28 2 ≠ 32 then 21 else 0
def bmpH (b : List UInt8) : Nat := if 2147483648 ≤ hdB b 22 4 then 4294967296 - hdB b 22 4 else hdB b 22 4
/-- The image that bytes are (the code; W, H, C; the pixels). -/
def bmpR (b : List UInt8) : Nat × Nat × Nat × Nat × List UInt8 :=
 if bmpF b ≠ 0 then (bmpF b, 0, 0, 0, []) else
 if hdB b 18 4 = 0 ∨ bmpH b = 0 then (12, 0, 0, 0, []) else
 if 32768 < hdB b 18 4 ∨ 32768 < bmpH b ∨ 4194304 < hdB b 18 4 * bmpH b then (30, 0, 0, 0, []) else
 if b.length - 54 < strideN (hdB b 18 4) (hdB b 28 2 / 8) * bmpH b then (20, 0, 0, 0, []) else
 if strideN (hdB b 18 4) (hdB b 28 2 / 8) * bmpH b < b.length - 54 then (22, 0, 0, 0, []) else
 if hdB b 2 4 ≠ b.length ∨ (hdB b 34 4 ≠ 0 ∧ hdB b 34 4 ≠ strideN (hdB b 18 4) (hdB b 28 2 / 8) * bmpH b) then (21, 0, 0, 0, []) else
 (0, hdB b 18 4, bmpH b, hdB b 28 2 / 8, rowsB b (hdB b 18 4) (bmpH b) (hdB b 28 2 / 8) (decide (2147483648 ≤ hdB b 22 4)) (bmpH b))
/-- An image as bytes of this form. -/
def bmpHd (W H C : Nat) : List UInt8 :=
 [66, 77] ++ putB 4 (54 + strideN W C * H) ++ putB 4 0 ++ putB 4 54 ++ putB 4 40 ++ putB 4 W ++ putB 4 H ++ putB 2 1 ++ putB 2 (8 * C) ++ putB 4 0 ++ putB 4 0 ++ putB 4 0 ++ putB 4 0 ++ putB 4 0 ++ putB 4 0
def rowsW (W H C : Nat) (p : List UInt8) : Nat → List UInt8
 | 0 => []
 | k + 1 => rowsW W H C p k ++ (turnL C ((p.drop ((H - 1 - k) * (W * C))).take (W * C)) ++ List.replicate (strideN W C - W * C) 0)
def bmpW (W H C : Nat) (p : List UInt8) : List UInt8 := bmpHd W H C ++ rowsW W H C p H
theorem hd_at (pre t : List UInt8) (n x a : Nat) (hp : pre.length = a) (hx : x < 256 ^ n) : hdB (pre ++ (putB n x ++ t)) a n = x := by
 subst hp
 unfold hdB
 rw [List.drop_left]
 exact low_put n x t hx
theorem hd_size (W H C : Nat) (p : List UInt8) (hx : (54 + strideN W C * H) < 256 ^ 4) : hdB (bmpW W H C p) 2 4 = (54 + strideN W C * H) := by
 have h := hd_at ([66, 77]) ((putB 4 0 ++ putB 4 54 ++ putB 4 40 ++ putB 4 W ++ putB 4 H ++ putB 2 1 ++ putB 2 (8 * C) ++ putB 4 0 ++ putB 4 0 ++ putB 4 0 ++ putB 4 0 ++ putB 4 0 ++ putB 4 0) ++ rowsW W H C p H) 4 ((54 + strideN W C * H)) 2 (by simp [putB_len]) hx
 simpa only [bmpW, bmpHd, List.append_assoc, List.nil_append] using h
theorem hd_zero (W H C : Nat) (p : List UInt8) (hx : 0 < 256 ^ 4) : hdB (bmpW W H C p) 6 4 = 0 := by
 have h := hd_at ([66, 77] ++ putB 4 (54 + strideN W C * H)) ((putB 4 54 ++ putB 4 40 ++ putB 4 W ++ putB 4 H ++ putB 2 1 ++ putB 2 (8 * C) ++ putB 4 0 ++ putB 4 0 ++ putB 4 0 ++ putB 4 0 ++ putB 4 0 ++ putB 4 0) ++ rowsW W H C p H) 4 (0) 6 (by simp [putB_len]) hx
 simpa only [bmpW, bmpHd, List.append_assoc, List.nil_append] using h
theorem hd_off (W H C : Nat) (p : List UInt8) (hx : 54 < 256 ^ 4) : hdB (bmpW W H C p) 10 4 = 54 := by
 have h := hd_at ([66, 77] ++ putB 4 (54 + strideN W C * H) ++ putB 4 0) ((putB 4 40 ++ putB 4 W ++ putB 4 H ++ putB 2 1 ++ putB 2 (8 * C) ++ putB 4 0 ++ putB 4 0 ++ putB 4 0 ++ putB 4 0 ++ putB 4 0 ++ putB 4 0) ++ rowsW W H C p H) 4 (54) 10 (by simp [putB_len]) hx
 simpa only [bmpW, bmpHd, List.append_assoc, List.nil_append] using h
theorem hd_info (W H C : Nat) (p : List UInt8) (hx : 40 < 256 ^ 4) : hdB (bmpW W H C p) 14 4 = 40 := by
 have h := hd_at ([66, 77] ++ putB 4 (54 + strideN W C * H) ++ putB 4 0 ++ putB 4 54) ((putB 4 W ++ putB 4 H ++ putB 2 1 ++ putB 2 (8 * C) ++ putB 4 0 ++ putB 4 0 ++ putB 4 0 ++ putB 4 0 ++ putB 4 0 ++ putB 4 0) ++ rowsW W H C p H) 4 (40) 14 (by simp [putB_len]) hx
 simpa only [bmpW, bmpHd, List.append_assoc, List.nil_append] using h
theorem hd_w (W H C : Nat) (p : List UInt8) (hx : W < 256 ^ 4) : hdB (bmpW W H C p) 18 4 = W := by
 have h := hd_at ([66, 77] ++ putB 4 (54 + strideN W C * H) ++ putB 4 0 ++ putB 4 54 ++ putB 4 40) ((putB 4 H ++ putB 2 1 ++ putB 2 (8 * C) ++ putB 4 0 ++ putB 4 0 ++ putB 4 0 ++ putB 4 0 ++ putB 4 0 ++ putB 4 0) ++ rowsW W H C p H) 4 (W) 18 (by simp [putB_len]) hx
 simpa only [bmpW, bmpHd, List.append_assoc, List.nil_append] using h
theorem hd_h (W H C : Nat) (p : List UInt8) (hx : H < 256 ^ 4) : hdB (bmpW W H C p) 22 4 = H := by
 have h := hd_at ([66, 77] ++ putB 4 (54 + strideN W C * H) ++ putB 4 0 ++ putB 4 54 ++ putB 4 40 ++ putB 4 W) ((putB 2 1 ++ putB 2 (8 * C) ++ putB 4 0 ++ putB 4 0 ++ putB 4 0 ++ putB 4 0 ++ putB 4 0 ++ putB 4 0) ++ rowsW W H C p H) 4 (H) 22 (by simp [putB_len]) hx
 simpa only [bmpW, bmpHd, List.append_assoc, List.nil_append] using h
theorem hd_planes (W H C : Nat) (p : List UInt8) (hx : 1 < 256 ^ 2) : hdB (bmpW W H C p) 26 2 = 1 := by
 have h := hd_at ([66, 77] ++ putB 4 (54 + strideN W C * H) ++ putB 4 0 ++ putB 4 54 ++ putB 4 40 ++ putB 4 W ++ putB 4 H) ((putB 2 (8 * C) ++ putB 4 0 ++ putB 4 0 ++ putB 4 0 ++ putB 4 0 ++ putB 4 0 ++ putB 4 0) ++ rowsW W H C p H) 2 (1) 26 (by simp [putB_len]) hx
 simpa only [bmpW, bmpHd, List.append_assoc, List.nil_append] using h
theorem hd_bits (W H C : Nat) (p : List UInt8) (hx : (8 * C) < 256 ^ 2) : hdB (bmpW W H C p) 28 2 = (8 * C) := by
 have h := hd_at ([66, 77] ++ putB 4 (54 + strideN W C * H) ++ putB 4 0 ++ putB 4 54 ++ putB 4 40 ++ putB 4 W ++ putB 4 H ++ putB 2 1) ((putB 4 0 ++ putB 4 0 ++ putB 4 0 ++ putB 4 0 ++ putB 4 0 ++ putB 4 0) ++ rowsW W H C p H) 2 ((8 * C)) 28 (by simp [putB_len]) hx
 simpa only [bmpW, bmpHd, List.append_assoc, List.nil_append] using h
theorem hd_packed (W H C : Nat) (p : List UInt8) (hx : 0 < 256 ^ 4) : hdB (bmpW W H C p) 30 4 = 0 := by
 have h := hd_at ([66, 77] ++ putB 4 (54 + strideN W C * H) ++ putB 4 0 ++ putB 4 54 ++ putB 4 40 ++ putB 4 W ++ putB 4 H ++ putB 2 1 ++ putB 2 (8 * C)) ((putB 4 0 ++ putB 4 0 ++ putB 4 0 ++ putB 4 0 ++ putB 4 0) ++ rowsW W H C p H) 4 (0) 30 (by simp [putB_len]) hx
 simpa only [bmpW, bmpHd, List.append_assoc, List.nil_append] using h
theorem hd_bytes (W H C : Nat) (p : List UInt8) (hx : 0 < 256 ^ 4) : hdB (bmpW W H C p) 34 4 = 0 := by
 have h := hd_at ([66, 77] ++ putB 4 (54 + strideN W C * H) ++ putB 4 0 ++ putB 4 54 ++ putB 4 40 ++ putB 4 W ++ putB 4 H ++ putB 2 1 ++ putB 2 (8 * C) ++ putB 4 0) ((putB 4 0 ++ putB 4 0 ++ putB 4 0 ++ putB 4 0) ++ rowsW W H C p H) 4 (0) 34 (by simp [putB_len]) hx
 simpa only [bmpW, bmpHd, List.append_assoc, List.nil_append] using h
theorem hd_colors (W H C : Nat) (p : List UInt8) (hx : 0 < 256 ^ 4) : hdB (bmpW W H C p) 46 4 = 0 := by
 have h := hd_at ([66, 77] ++ putB 4 (54 + strideN W C * H) ++ putB 4 0 ++ putB 4 54 ++ putB 4 40 ++ putB 4 W ++ putB 4 H ++ putB 2 1 ++ putB 2 (8 * C) ++ putB 4 0 ++ putB 4 0 ++ putB 4 0 ++ putB 4 0) ((putB 4 0) ++ rowsW W H C p H) 4 (0) 46 (by simp [putB_len]) hx
 simpa only [bmpW, bmpHd, List.append_assoc, List.nil_append] using h
theorem hd_used (W H C : Nat) (p : List UInt8) (hx : 0 < 256 ^ 4) : hdB (bmpW W H C p) 50 4 = 0 := by
 have h := hd_at ([66, 77] ++ putB 4 (54 + strideN W C * H) ++ putB 4 0 ++ putB 4 54 ++ putB 4 40 ++ putB 4 W ++ putB 4 H ++ putB 2 1 ++ putB 2 (8 * C) ++ putB 4 0 ++ putB 4 0 ++ putB 4 0 ++ putB 4 0 ++ putB 4 0) ([] ++ rowsW W H C p H) 4 (0) 50 (by simp [putB_len]) hx
 simpa only [bmpW, bmpHd, List.append_assoc, List.nil_append] using h
theorem bmpHd_len (W H C : Nat) : (bmpHd W H C).length = 54 := by simp [bmpHd, putB_len]
theorem stride_ge (w c : Nat) : w * c ≤ strideN w c := by unfold strideN; omega
theorem stride_le (w c : Nat) : strideN w c ≤ w * c + 3 := by unfold strideN; omega
section
variable {W H C : Nat} {p : List UInt8}
theorem row_len (hp : p.length = H * (W * C)) {k : Nat} (hk : k < H) : (turnL C ((p.drop (k * (W * C))).take (W * C))).length = W * C := by
 rw [turnL_len, List.length_take, List.length_drop, hp]
 have h1 : (k + 1) * (W * C) ≤ H * (W * C) := Nat.mul_le_mul_right _ hk
 rw [Nat.add_mul, Nat.one_mul] at h1
 omega
theorem rowsW_len (hp : p.length = H * (W * C)) : ∀ n, n ≤ H → (rowsW W H C p n).length = n * strideN W C
 | 0, _ => by simp [rowsW]
 | n + 1, h => by
   have ih := rowsW_len hp n (by omega)
   have h1 := row_len (W := W) (C := C) hp (k := H - 1 - n) (by omega)
   have h2 := stride_ge W C
   simp only [rowsW, List.length_append, List.length_replicate, ih, h1]
   rw [Nat.add_mul]
   omega
theorem rowsW_at (hp : p.length = H * (W * C)) : ∀ n, n ≤ H → ∀ k, k < n → ((rowsW W H C p n).drop (k * strideN W C)).take (W * C) = turnL C ((p.drop ((H - 1 - k) * (W * C))).take (W * C))
 | 0, _, k, hk => by omega
 | n + 1, h, k, hk => by
   have hl := rowsW_len hp n (by omega)
   have h2 := stride_ge W C
   rw [show rowsW W H C p (n + 1) = rowsW W H C p n ++ (turnL C ((p.drop ((H - 1 - n) * (W * C))).take (W * C)) ++ List.replicate (strideN W C - W * C) 0) from rfl]
   by_cases hkn : k < n
   · have ih := rowsW_at hp n (by omega) k hkn
     have h3 : (k + 1) * strideN W C ≤ n * strideN W C := Nat.mul_le_mul_right _ hkn
     rw [Nat.add_mul, Nat.one_mul] at h3
     rw [List.drop_append_of_le_length (by omega), List.take_append_of_le_length (by rw [List.length_drop]; omega)]
     exact ih
   · obtain rfl : k = n := by omega
     rw [← hl, List.drop_left, List.take_append_of_le_length (by rw [row_len hp (by omega)]; exact Nat.le_refl _), List.take_of_length_le (by rw [row_len hp (by omega)]; exact Nat.le_refl _)]
theorem rows_back (hp : p.length = H * (W * C)) : ∀ y, y ≤ H → rowsB (bmpW W H C p) W H C false y = p.take (y * (W * C))
 | 0, _ => by simp [rowsB]
 | y + 1, h => by
   have ih := rows_back hp y (by omega)
   have e : (bmpW W H C p).drop (54 + (H - 1 - y) * strideN W C) = (rowsW W H C p H).drop ((H - 1 - y) * strideN W C) := by
    unfold bmpW
    rw [← bmpHd_len W H C, ← List.drop_drop, List.drop_left]
   have e2 := rowsW_at hp H (Nat.le_refl _) (H - 1 - y) (by omega)
   rw [show H - 1 - (H - 1 - y) = y by omega] at e2
   show rowsB (bmpW W H C p) W H C false y ++ turnL C (((bmpW W H C p).drop (54 + (H - 1 - y) * strideN W C)).take (W * C)) = _
   rw [ih, e, e2, turnL_back, Nat.add_mul, Nat.one_mul, List.take_add]
end
theorem bmp_len {W H C : Nat} {p : List UInt8} (hp : p.length = H * (W * C)) : (bmpW W H C p).length = 54 + strideN W C * H := by
 unfold bmpW
 rw [List.length_append, bmpHd_len, rowsW_len hp H (Nat.le_refl _), Nat.mul_comm]
theorem bmp_back (W H C : Nat) (p : List UInt8) (hW : 1 ≤ W ∧ W ≤ 32768) (hH : 1 ≤ H ∧ H ≤ 32768) (hWH : W * H ≤ 4194304) (hC : C = 3 ∨ C = 4) (hp : p.length = W * H * C) : bmpR (bmpW W H C p) = (0, W, H, C, p) := by
 have hp' : p.length = H * (W * C) := by rw [hp, Nat.mul_comm W H, Nat.mul_assoc]
 have hl := bmp_len (W := W) (C := C) hp'
 have hs := stride_le W C
 have hS : strideN W C * H ≤ 16875520 := by
  have h1 : strideN W C * H ≤ (W * 4 + 3) * H := Nat.mul_le_mul_right _ (Nat.le_trans hs (by rcases hC with rfl | rfl <;> omega))
  have h2 : (W * 4 + 3) * H = W * H * 4 + 3 * H := by rw [Nat.add_mul, Nat.mul_right_comm]
  omega
 have q1 := hd_size W H C p (by omega)
 have q2 := hd_zero W H C p (by omega)
 have q3 := hd_off W H C p (by omega)
 have q4 := hd_info W H C p (by omega)
 have q5 := hd_w W H C p (by omega)
 have q6 := hd_h W H C p (by omega)
 have q7 := hd_planes W H C p (by omega)
 have q8 := hd_bits W H C p (by omega)
 have q9 := hd_packed W H C p (by omega)
 have qa := hd_bytes W H C p (by omega)
 have qb := hd_colors W H C p (by omega)
 have qc := hd_used W H C p (by omega)
 have q0 : (bmpW W H C p).head? = some 66 ∧ ((bmpW W H C p).drop 1).head? = some 77 := ⟨rfl, rfl⟩
 have hF : bmpF (bmpW W H C p) = 0 := by
  unfold bmpF
  rw [q2, q3, q4, q7, q8, q9, qb, qc, q0.1, q0.2, hl, if_neg (by omega), if_neg (by simp), if_neg (by omega), if_neg (by omega), if_neg (by omega)]
 have hh : bmpH (bmpW W H C p) = H := by unfold bmpH; rw [q6, if_neg (by omega)]
 have hc : 8 * C / 8 = C := by omega
 unfold bmpR
 rw [hF, hh, q5, q8, q1, q6, qa, hc, hl, if_neg (by omega), if_neg (by omega), if_neg (by omega), if_neg (by omega), if_neg (by omega), if_neg (by omega)]
 have hd : decide (2147483648 ≤ H) = false := by rw [decide_eq_false_iff_not]; omega
 rw [hd, rows_back hp' H (Nat.le_refl _), List.take_of_length_le (by omega)]
/-- An image that may be. -/
def Img (W H C : Nat) (p : List UInt8) : Prop := (1 ≤ W ∧ W ≤ 32768) ∧ (1 ≤ H ∧ H ≤ 32768) ∧ W * H ≤ 4194304 ∧ (C = 1 ∨ C = 3 ∨ C = 4) ∧ p.length = W * H * C
theorem rowsB_len {b : List UInt8} {w h c : Nat} {down : Bool} (hb : 54 + strideN w c * h ≤ b.length) : ∀ y, y ≤ h → (rowsB b w h c down y).length = y * (w * c)
 | 0, _ => by simp [rowsB]
 | y + 1, hy => by
   have ih := rowsB_len (down := down) hb y (by omega)
   have hs := stride_ge w c
   have hr : (if down then y else h - 1 - y) + 1 ≤ h := by split <;> omega
   have h1 := Nat.mul_le_mul_right (strideN w c) hr
   rw [Nat.add_mul, Nat.one_mul, Nat.mul_comm h] at h1
   simp only [rowsB, List.length_append, ih, turnL_len, List.length_take, List.length_drop]
   rw [Nat.add_mul, Nat.one_mul]
   omega
theorem bmp_img {b : List UInt8} {W H C : Nat} {p : List UInt8} (h : bmpR b = (0, W, H, C, p)) : Img W H C p ∧ (C = 3 ∨ C = 4) ∧ p.length ≤ b.length := by
 unfold bmpR at h
 split at h
 · rename_i h0; simp only [Prod.mk.injEq] at h; omega
 rename_i h0
 split at h
 · simp at h
 rename_i h1
 split at h
 · simp at h
 rename_i h2
 split at h
 · simp at h
 rename_i h3
 split at h
 · simp at h
 rename_i h4
 split at h
 · simp at h
 simp only [Prod.mk.injEq, true_and] at h
 obtain ⟨rfl, rfl, rfl, hp⟩ := h
 have hF : bmpF b = 0 := by omega
 have hb : hdB b 28 2 = 24 ∨ hdB b 28 2 = 32 := by
  unfold bmpF at hF
  split at hF
  · omega
  split at hF
  · omega
  split at hF
  · omega
  split at hF
  · omega
  split at hF
  · omega
  omega
 have h54 : 54 ≤ b.length := by
  unfold bmpF at hF
  split at hF
  · omega
  split at hF
  · omega
  split at hF
  · omega
  omega
 have hl := rowsB_len (b := b) (w := hdB b 18 4) (h := bmpH b) (c := hdB b 28 2 / 8) (down := decide (2147483648 ≤ hdB b 22 4)) (by omega) (bmpH b) (Nat.le_refl _)
 rw [hp] at hl
 have hs := Nat.mul_le_mul_right (bmpH b) (stride_ge (hdB b 18 4) (hdB b 28 2 / 8))
 rw [Nat.mul_comm (bmpH b)] at hl
 refine ⟨⟨by omega, by omega, by omega, by omega, by rw [hl, Nat.mul_right_comm]⟩, by omega, by omega⟩
theorem numR_le (l : List UInt8) (m : Nat) : (numR l m).2.1 ≤ m := by
 unfold numR
 split
 · exact Nat.zero_le _
 split
 · exact Nat.zero_le _
 split
 · exact Nat.zero_le _
 · rename_i h; exact Nat.le_of_not_lt h
theorem fldR_le (l : List UInt8) (m : Nat) : (fldR l m).2.1 ≤ m := by
 unfold fldR
 split
 · split
   · exact numR_le _ _
   · exact Nat.zero_le _
 · exact Nat.zero_le _
theorem pnmS_img {l : List UInt8} {W H : Nat} {p : List UInt8} (h : pnmS l = (0, W, H, p)) : (1 ≤ W ∧ W ≤ 32768) ∧ (1 ≤ H ∧ H ≤ 32768) ∧ W * H ≤ 4194304 ∧ p.length ≤ l.length := by
 unfold pnmS at h
 split at h
 · rename_i k; simp only [Prod.mk.injEq] at h; omega
 split at h
 · rename_i k; simp only [Prod.mk.injEq] at h; omega
 split at h
 · simp at h
 rename_i k3
 split at h
 · simp at h
 rename_i k4
 split at h
 · rename_i k; simp only [Prod.mk.injEq] at h; omega
 split at h
 · simp at h
 split at h
 · rename_i k; simp only [Prod.mk.injEq] at h; omega
 simp only [Prod.mk.injEq, true_and] at h
 obtain ⟨rfl, rfl, hp⟩ := h
 have a1 := fldR_le l 32768
 have a2 := fldR_le (l.drop (fldR l 32768).2.2) 32768
 refine ⟨by omega, by omega, by omega, ?_⟩
 rw [← hp]
 simp only [List.length_drop]
 omega
theorem pnm_img {b : List UInt8} {W H C : Nat} {p : List UInt8} (h : pnmR b = (0, W, H, C, p)) : Img W H C p ∧ (C = 1 ∨ C = 3) ∧ p.length ≤ b.length := by
 match b, h with
 | [], h => simp [pnmR] at h
 | [x], h =>
   simp only [pnmR] at h
   split at h <;> simp at h
 | x :: y :: l, h =>
   simp only [pnmR] at h
   have hc : (if y = 54 then 3 else 1) = 1 ∨ (if y = 54 then 3 else 1) = 3 := by split <;> simp
   generalize (if y = 54 then 3 else 1) = c at *
   split at h
   · simp at h
   split at h
   · rename_i k; simp only [Prod.mk.injEq] at h; omega
   rename_i k2
   split at h
   · simp at h
   rename_i k3
   split at h
   · simp at h
   rename_i k4
   simp only [Prod.mk.injEq, true_and] at h
   obtain ⟨rfl, rfl, rfl, rfl⟩ := h
   have hs := pnmS_img (l := l) (W := (pnmS l).2.1) (H := (pnmS l).2.2.1) (p := (pnmS l).2.2.2) (by
    have : (pnmS l).1 = 0 := by omega
    rw [← this])
   refine ⟨⟨hs.1, hs.2.1, hs.2.2.1, by omega, by omega⟩, hc, ?_⟩
   have := hs.2.2.2
   simp only [List.length_cons]
   omega
/-- The image that bytes are, of whichever form. -/
def imgR (b : List UInt8) : Nat × Nat × Nat × Nat × List UInt8 :=
 if b.head? = none then (20, 0, 0, 0, []) else if b.head? = some 80 then pnmR b else if b.head? = some 66 then bmpR b else (21, 0, 0, 0, [])
def imgW (kind W H C : Nat) (p : List UInt8) : List UInt8 := if kind < 3 then pnmHd W H C ++ p else bmpW W H C p
def kindC (kind : Nat) : Nat := if kind = 1 then 1 else if kind = 2 then 3 else if kind = 3 then 3 else if kind = 4 then 4 else 0
theorem imgR_img {b : List UInt8} {W H C : Nat} {p : List UInt8} (h : imgR b = (0, W, H, C, p)) : Img W H C p ∧ p.length ≤ b.length := by
 unfold imgR at h
 split at h
 · simp at h
 split at h
 · exact ⟨(pnm_img h).1, (pnm_img h).2.2⟩
 split at h
 · exact ⟨(bmp_img h).1, (bmp_img h).2.2⟩
 · simp at h
theorem img_back {kind W H C : Nat} {p : List UInt8} (hi : Img W H C p) (hk : 1 ≤ kind ∧ kind ≤ 4) (hc : C = kindC kind) : imgR (imgW kind W H C p) = (0, W, H, C, p) := by
 obtain ⟨h1, h2, h3, h4, h5⟩ := hi
 unfold imgW
 split
 · have hC : C = 1 ∨ C = 3 := by rw [hc]; unfold kindC; split; exact .inl rfl; split; exact .inr rfl; split; exact .inr rfl; omega
   have e : (pnmHd W H C ++ p).head? = some 80 := rfl
   unfold imgR
   rw [e, if_neg (by simp), if_pos rfl]
   exact pnm_back W H C p h1 h2 h3 hC h5
 · have hC : C = 3 ∨ C = 4 := by rw [hc]; unfold kindC; rw [if_neg (by omega), if_neg (by omega)]; split; exact .inl rfl; rw [if_pos (by omega)]; exact .inr rfl
   have e : (bmpW W H C p).head? = some 66 := rfl
   unfold imgR
   rw [e, if_neg (by simp), if_neg (by simp), if_pos rfl]
   exact bmp_back W H C p h1 h2 h3 hC h5
theorem imgW_len {k W H C : Nat} {p : List UInt8} (hi : Img W H C p) (hl : p.length ≤ 20000) : (imgW k W H C p).length ≤ 1000000 := by
 obtain ⟨h1, h2, h3, h4, h5⟩ := hi
 unfold imgW
 split
 · have e1 := dec_len 4 W (by omega)
   have e2 := dec_len 4 H (by omega)
   simp only [pnmHd, List.length_append, List.length_cons, List.length_nil]
   omega
 · rw [bmp_len (by rw [h5, Nat.mul_comm W H, Nat.mul_assoc])]
   have s := Nat.mul_le_mul_right H (stride_le W C)
   have e : W * C * H = p.length := by rw [h5, Nat.mul_right_comm]
   rw [Nat.add_mul] at s
   omega
theorem imgW_head (k W H C : Nat) (p : List UInt8) : (imgW k W H C p).getD 0 0 ≠ 0 := by
 unfold imgW
 split
 · show (80 : UInt8) ≠ 0
   decide
 · show (66 : UInt8) ≠ 0
   decide
def exB : List UInt8 := [80, 53, 32, 49, 32, 49, 32, 50, 53, 53, 10, 7]
theorem exR : imgR exB = (0, 1, 1, 1, [7]) := by decide +kernel
theorem exW : imgW 1 1 1 1 [7] = [80, 53, 10, 49, 32, 49, 10, 50, 53, 53, 10, 7] := by
 have e : decDigits 1 = [49] := by rw [decDigits_one (by omega)]; rfl
 show pnmHd 1 1 1 ++ [7] = _
 unfold pnmHd
 rw [e]
 rfl
end Go.Proofs.YtikpobembcgbfaaGreatDoor
