/- Parts of the proof: Rn2 Rn3 Rn4 Rn5 Rn6. -/
import Derived.Test.YtikpobembcgbfaaGreatDoorQ30
import Derived.Test.YtikpobembcgbfaaGreatDoorQ31
import Derived.Test.YtikpobembcgbfaaGreatDoorQ14
import Derived.Test.YtikpobembcgbfaaGreatDoorQ09
import Derived.Test.YtikpobembcgbfaaGreatDoorQ24
import Derived.Test.YtikpobembcgbfaaGreatDoorQ21
set_option linter.unusedVariables false
set_option linter.unusedSimpArgs false
set_option maxRecDepth 100000
set_option maxHeartbeats 40000000
namespace Go.Proofs.YtikpobembcgbfaaGreatDoor
open Go.RowKit Go.Lib
theorem info_bl : (Tryz.prog.info? BLT).map (fun i => (i.zero, i.size, i.bytes)) = some (some (.slice none 0 0), 1, 24) := by kernel_rfl
theorem app_b0 (wr : World) (base : Nat) (A : Option Addr) (n c : Nat) (hbase : base ≤ wr.heap.size) :
 ∃ g cap w', (∀ ty, (Builtin.append_ #[BTT, BTT] ty #[.slice none 0 0, .slice (some ⟨wr.heap.size, 0, none⟩) 1 1]).run Tryz.prog (wr.alloc (.cells #[.slice A n c] BLT)) = .ok (.slice (some ⟨g, 0, none⟩) 1 cap) w') ∧
   w'.ownsRow base BLT 1 (.slice (some ⟨g, 0, none⟩) 1 cap) 1 [.slice A n c] ∧ Below wr.heap.size wr w' ∧ wr.heap.size ≤ g := by
 obtain ⟨g, cap, w', hr, ho, hgr, hat⟩ := app_el Tryz.underlying25 info_bl rfl (by decide) wr base (.slice none 0 0) 0 [] [.slice A n c] (World.ownsRow_nil _ _ _ _) rfl (by simp [Value.oneCell']) (by omega) (by decide) hbase
 refine ⟨g, cap, w', hr, ho, ((Below.refl wr.heap.size wr).alloc (Nat.le_refl _) _).grown hgr (by simp) (fun b e => by cases e), hat.elim (fun e => by cases e) id⟩
/-- The bytes do not lie in a block whose bytes are all 0. -/
theorem by_nz {w : World} {g n cap : Nat} {A : Option Addr} {cs : Array Value} {T : TypeId} {l : List UInt8} (h : BY w (.slice A n cap) l) (hc : AtB w g cs T) (hcs : ∀ (i : Nat) (x : Int), cs[i]? = some (Value.int .u8 x) → x = 0) (hz : l.getD 0 0 ≠ 0) : l ≠ [] → ∀ b off, A = some ⟨b, off, none⟩ → b ≠ g := by
 rintro hl b off rfl rfl
 obtain ⟨b', off', e, -, hcell⟩ := h.cells hl
 simp only [Addr.mk.injEq] at e
 obtain ⟨rfl, rfl, -⟩ := e
 have h0 := hcell 0 (List.length_pos_iff.2 hl)
 have hh : w.heap[b]? = _ := hc
 simp only [World.cell?, hh, Nat.add_zero] at h0
 have h2 : ((l.getD 0 0).toNat : Int) = 0 := hcs off _ (by simpa [List.getD] using h0)
 exact hz (by
  have h1 : (l.getD 0 0).toNat = 0 := by omega
  exact UInt8.toNat_inj.1 (by simpa using h1))
theorem mach_u8 (ib io icap mp : Nat) (x y z : Nat) (A B : Option Addr) (m c n d : Nat) (q : Bool) (e1 e2 e3 : Int) : ∀ (i : Nat) (u : Int), (#[.slice (some ⟨ib, io, none⟩) 1 icap, .int .i64 (x : Int), .int .i64 (y : Int), .int .i64 (z : Int), .slice A m c, .bool q, .int .i64 0, .slice none 0 0, .int .i64 0, .int .i64 0, .int .i64 0, .int .i64 0, .int .i64 1, .int .u8 0, .int .u8 0, .int .u8 0, .int .u8 0, .int .i64 0, .int .i64 64, .int .i64 64, .int .i64 16, .slice none 0 0, .int .i64 0, .int .i64 0, .pointer (some ⟨mp, 0, none⟩), .slice B n d, .int .i64 e1, .int .i64 e2, .int .i64 e3, .int .i64 0, .int .i64 0, .int .i64 0] : Array Value)[i]? = some (Value.int .u8 u) → u = 0 := by
 intro i u h
 have := Array.mem_of_getElem? h
 simpa using this
theorem rsave_no (g k ib io icap mp x y z m cap dc : Nat) (A D : Option Addr) (w : World) (hk : AtB w g (mac ib io icap mp x y z (.slice A m cap) true (.slice none 0 0) 0 1 1) MaT) (hW : Hid (∀ w1, Below w.heap.size w w1 → Calls Tryz.prog 123 #[.int .i64 (k : Int), imv x y z (.slice A m cap)] w1 (GiveArg w1))) :
 Calls Tryz.prog 78 #[.pointer (some ⟨g, 0, none⟩), .agg #[.int .i64 10, .int .i64 (k : Int), .slice D 0 dc]] w (GiveOnl g 10 (mac ib io icap mp x y z (.slice A m cap) true (.slice none 0 0) 0 1 1) w) := by
 have hlt := hk.lt
 replace hk := Hi hk
 go_enter Tryz.func78, Tryz.ntmps78
 go_upto_region 1 with fail
 obtain ⟨w0, e, BB, q2⟩ := en1 w #[.int .i64 10, .int .i64 ↑k, .slice D 0 dc] CmT
 rw [e]; clear e
 have q0 := Hi (hk.out.keep BB.out)
 clear hk
 have ks : w0.cell? ⟨g, 5, none⟩ = some (.bool true) := q0.out.cell 5 rfl
 have lk := q0.out.lt
 obtain ⟨q4, q5, q6, q7, q8, q9⟩ := reads3 q2.out
 have qa := q2.out.lt
 go_upto_region 3 with fail
 clear ks lk
 have KC := Hi (fun w9 (hb : Below w0.heap.size w0 w9) => show w9.cell? ⟨g, 1, none⟩ = some (.int .i64 x) ∧ w9.cell? ⟨g, 2, none⟩ = some (.int .i64 y) ∧ w9.cell? ⟨g, 3, none⟩ = some (.int .i64 z) ∧ w9.cell? ⟨g, 4, none⟩ = some (.slice A m cap) from ⟨(q0.out.keep hb).cell _ rfl, (q0.out.keep hb).cell _ rfl, (q0.out.keep hb).cell _ rfl, (q0.out.keep hb).cell _ rfl⟩)
 have hW2 := Hi (fun w9 (hb : Below w0.heap.size w0 w9) => hW.out w9 (below_next BB.out hb))
 clear q4 q5 q6 q7 q8 q9 qa
 have KK := Hi fun w9 (h : Below w0.heap.size w0 w9) => And.intro (cells3 (q2.out.keep h)) (KC.out _ h)
 have KD := kd KK
 refine g_bg KK 10 ?_
 refine g_tk 0 ?_
 refine g_tk 1 ?_
 refine g_tk 2 ?_
 refine g_tk 3 ?_
 refine g_tk 4 ?_
 refine g_tk 5 ?_
 refine g_sc 6 (fun K hK => ?_)
 go_simp
 go_at_call 123
 refine (hW2.out _ ?_).mono ?_
 · repeat (first | with_reducible exact Below.refl _ _ | with_reducible apply below_drew | with_reducible apply below_new)
 rintro e w1 ⟨rfl, hb⟩
 have q1 := rn (w0 := w0) hb
 have q3 := KK.out _ q1.out
 clear hb
 refine hK.out _ _ (fun _ => q3) (fun hHeld => ?_)
 replace hHeld := hHeld (by decide)
 clear hK
 refine g_pt ?_
 refine g_tk 7 ?_
 refine g_tk 8 ?_
 refine g_tp 9 ?_
 refine g_ts 10 ?_
 refine g_ts 11 ?_
 refine g_dn ?_
 clear KK KD q3
 replace q2 := kp q2 q1.out
 replace q0 := kp q0 q1.out
 replace BB := nx BB q1.out
 clear q1
 go_wp2_with fail
 go_ret
 exact ⟨rfl, onl_of BB.out, q0.out⟩
/-- The bytes are put out. -/
def GiveSv (g ib io icap mp x y z m cap : Nat) (A : Option Addr) (l : List UInt8) (w : World) (e : Ending) (w' : World) : Prop :=
 ∃ g2 cap2 E n c, e = .returned (.int .i64 0) ∧ Onl g w w' ∧ AtB w' g (mac ib io icap mp x y z (.slice A m cap) true (.slice (some ⟨g2, 0, none⟩) 1 cap2) 0 1 1) MaT ∧ w'.ownsRow w.heap.size BLT 1 (.slice (some ⟨g2, 0, none⟩) 1 cap2) 1 [.slice E n c] ∧ BY w' (.slice E n c) l
theorem rsave_ok (g k ib io icap mp x y z m cap dc : Nat) (A D : Option Addr) (l : List UInt8) (hl : l.getD 0 0 ≠ 0) (w : World) (hk : AtB w g (mac ib io icap mp x y z (.slice A m cap) true (.slice none 0 0) 0 1 1) MaT) (hW : Hid (∀ w1, Below w.heap.size w w1 → Calls Tryz.prog 123 #[.int .i64 (k : Int), imv x y z (.slice A m cap)] w1 (GiveWr l w1))) :
 Calls Tryz.prog 78 #[.pointer (some ⟨g, 0, none⟩), .agg #[.int .i64 10, .int .i64 (k : Int), .slice D 0 dc]] w (GiveSv g ib io icap mp x y z m cap A l w) := by
 have hl' := Hi hl
 clear hl
 have hlt := hk.lt
 replace hk := Hi hk
 go_enter Tryz.func78, Tryz.ntmps78
 go_upto_region 1 with fail
 obtain ⟨w0, e, BB, q2⟩ := en1 w #[.int .i64 10, .int .i64 ↑k, .slice D 0 dc] CmT
 rw [e]; clear e
 have q0 := Hi (hk.out.keep BB.out)
 clear hk
 have ks : w0.cell? ⟨g, 5, none⟩ = some (.bool true) := q0.out.cell 5 rfl
 have lk := q0.out.lt
 obtain ⟨q4, q5, q6, q7, q8, q9⟩ := reads3 q2.out
 have qa := q2.out.lt
 go_upto_region 3 with fail
 clear ks lk
 have KC := Hi (fun w9 (hb : Below w0.heap.size w0 w9) => show w9.cell? ⟨g, 1, none⟩ = some (.int .i64 x) ∧ w9.cell? ⟨g, 2, none⟩ = some (.int .i64 y) ∧ w9.cell? ⟨g, 3, none⟩ = some (.int .i64 z) ∧ w9.cell? ⟨g, 4, none⟩ = some (.slice A m cap) from ⟨(q0.out.keep hb).cell _ rfl, (q0.out.keep hb).cell _ rfl, (q0.out.keep hb).cell _ rfl, (q0.out.keep hb).cell _ rfl⟩)
 have hW2 := Hi (fun w9 (hb : Below w0.heap.size w0 w9) => hW.out w9 (below_next BB.out hb))
 clear q4 q5 q6 q7 q8 q9 qa
 have KK := Hi fun w9 (h : Below w0.heap.size w0 w9) => And.intro (cells3 (q2.out.keep h)) (KC.out _ h)
 have KD := kd KK
 refine g_bg KK 10 ?_
 refine g_tk 0 ?_
 refine g_tk 1 ?_
 refine g_tk 2 ?_
 refine g_tk 3 ?_
 refine g_tk 4 ?_
 refine g_tk 5 ?_
 refine g_sc 6 (fun K hK => ?_)
 go_simp
 go_at_call 123
 refine (hW2.out _ ?_).mono ?_
 · repeat (first | with_reducible exact Below.refl _ _ | with_reducible apply below_drew | with_reducible apply below_new)
 rintro e w1 ⟨v1, rfl, hb, hv⟩
 have q1 := rn (w0 := w0) hb
 have q3 := KK.out _ q1.out
 obtain ⟨E, nc, hE⟩ := hv.form
 obtain ⟨nn, hnn⟩ : ∃ n, n = l.length := ⟨_, rfl⟩
 rw [← hnn] at hE
 subst hE
 replace hv := Hi hv
 clear hnn
 clear hb
 refine hK.out _ _ (fun _ => q3) (fun hHeld => ?_)
 replace hHeld := hHeld (by decide)
 clear hK
 refine g_pt ?_
 refine g_tk 7 ?_
 refine g_tk 8 ?_
 refine g_tp 9 ?_
 refine g_ts 10 ?_
 refine g_ts 11 ?_
 refine g_dn ?_
 clear KK KD q3
 replace q2 := kp q2 q1.out
 replace q0 := kp q0 q1.out
 replace BB := nx BB q1.out
 clear q1
 have hs := Hi BB.out.size
 obtain ⟨g2, cap2, w9, hrun, hO, h3, hg2⟩ := app_b0 w1 w.heap.size E nn nc BB.out.size
 have r9 := q0.out.keep h3
 have V9 : BY w9 (.slice E nn nc) l := BS.below hv.out h3
 have hne : l ≠ [] := fun e => hl'.out (by rw [e]; rfl)
 have nz := by_nz V9 r9 (mach_u8 ib io icap mp x y z A none m cap 0 0 true 0 1 1) hl'.out
 have F := Hi (show _ ∧ _ ∧ _ ∧ _ from ⟨onl_set (g := g) (onl_of (below_next BB.out h3)) 25 (.slice (some ⟨g2, 0, none⟩) 1 cap2), (show AtB (w9.setCell ⟨g, 25, none⟩ (.slice (some ⟨g2, 0, none⟩) 1 cap2)) g #[.slice (some ⟨ib, io, none⟩) 1 icap, .int .i64 x, .int .i64 y, .int .i64 z, .slice A m cap, .bool true, .int .i64 0, .slice none 0 0, .int .i64 0, .int .i64 0, .int .i64 0, .int .i64 0, .int .i64 1, .int .u8 0, .int .u8 0, .int .u8 0, .int .u8 0, .int .i64 0, .int .i64 64, .int .i64 64, .int .i64 16, .slice none 0 0, .int .i64 0, .int .i64 0, .pointer (some ⟨mp, 0, none⟩), .slice (some ⟨g2, 0, none⟩) 1 cap2, .int .i64 0, .int .i64 1, .int .i64 1, .int .i64 0, .int .i64 0, .int .i64 0] MaT from by have k := r9.set_n 25 (.slice (some ⟨g2, 0, none⟩) 1 cap2); simpa using k), own_store (own_ne hO r9 (by decide)) hO 25 (.slice (some ⟨g2, 0, none⟩) 1 cap2), by_far nz V9 25 (.slice (some ⟨g2, 0, none⟩) 1 cap2)⟩)
 have k25 : w1.cell? ⟨g, 25, none⟩ = some (.slice none 0 0) := q0.out.cell 25 rfl
 have lk := q0.out.lt
 have j25 : w9.cell? ⟨g, 25, none⟩ = some (.slice none 0 0) := r9.cell 25 rfl
 have jf : w9.frozen? ⟨g, 25, none⟩ = false := r9.fr 25
 have jl := r9.lt
 replace hrun := Hi hrun
 clear hO h3 hg2 V9 nz r9 hv
 go_wp2_with (first | (at_builtin; refine wpList_app_run rfl (.tmp 29) (.tmp 31) BTT rfl rfl rfl hrun.out ?_))
 go_ret
 exact ⟨g2, cap2, E, nn, nc, rfl, F.out⟩
/-- A code; the block g alone has turned; Q holds. -/
def GiveRQ (g : Nat) (c : Int) (Q : World → Prop) (w : World) (e : Ending) (w' : World) : Prop := e = .returned (.int .i64 c) ∧ Onl g w w' ∧ Q w'
theorem tab_und : Tryz.prog.underlying 108 = some (.array 14 107) := by kernel_rfl
theorem tab_1 (w : World) : (Instr.index 108 (.agg #[.nilFunc, .func (.func 69) #[] #[], .func (.func 70) #[] #[], .func (.func 71) #[] #[], .func (.func 72) #[] #[], .func (.func 73) #[] #[], .func (.func 74) #[] #[], .func (.func 75) #[] #[], .func (.func 76) #[] #[], .func (.func 77) #[] #[], .func (.func 78) #[] #[], .func (.func 79) #[] #[], .func (.func 80) #[] #[], .func (.func 81) #[] #[]]) (.int .i64 1)).run Tryz.prog w = .ok (.func (.func 69) #[] #[]) w := by
 simp [Instr.index, run_underlying tab_und, asIntOf, go_sem]
theorem tab_10 (w : World) : (Instr.index 108 (.agg #[.nilFunc, .func (.func 69) #[] #[], .func (.func 70) #[] #[], .func (.func 71) #[] #[], .func (.func 72) #[] #[], .func (.func 73) #[] #[], .func (.func 74) #[] #[], .func (.func 75) #[] #[], .func (.func 76) #[] #[], .func (.func 77) #[] #[], .func (.func 78) #[] #[], .func (.func 79) #[] #[], .func (.func 80) #[] #[], .func (.func 81) #[] #[]]) (.int .i64 10)).run Tryz.prog w = .ok (.func (.func 78) #[] #[]) w := by
 simp [Instr.index, run_underlying tab_und, asIntOf, go_sem]
theorem rdo_load (g n cap : Nat) (kk c : Int) (A : Option Addr) (Q : World → Prop) (w : World) (hg : g < w.heap.size) (CR : Hid (∀ w1, Calls Tryz.prog 44 #[.agg #[.int .i64 1, .int .i64 kk, .slice A n cap]] w1 fun e w' => e = .returned (.bool true) ∧ Below w1.heap.size w1 w'))
 (HL : Hid (∀ w1, Below w.heap.size w w1 → Calls Tryz.prog 69 #[.pointer (some ⟨g, 0, none⟩), .agg #[.int .i64 1, .int .i64 kk, .slice A n cap]] w1 (GiveRQ g c Q w1))) :
 Calls Tryz.prog 25 #[.pointer (some ⟨g, 0, none⟩), .agg #[.int .i64 1, .int .i64 kk, .slice A n cap]] w (GiveRQ g c Q w) := by
 have MT := Hi (fun w => mtable w)
 go_enter Tryz.func25, Tryz.ntmps25
 go_upto_region 1 with fail
 obtain ⟨w0, e, BB, q0⟩ := en1 w #[.int .i64 1, .int .i64 kk, .slice A n cap] CmT
 rw [e]; clear e
 obtain ⟨q2, q3, q4, q5, q6, q7⟩ := reads3 q0.out
 have q9 := q0.out.lt
 go_wp2_with fail
 refine (CR.out _).mono ?_
 rintro e w1 ⟨rfl, hb⟩
 clear q2 q3 q4 q5 q6 q7 q9
 replace q0 := kp q0 hb
 replace BB := nx BB hb
 clear hb
 obtain ⟨q2, q3, q4, q5, q6, q7⟩ := reads3 q0.out
 have q9 := q0.out.lt
 go_upto_region 3 with fail
 have HL2 := Hi (fun w9 (hb : Below w1.heap.size w1 w9) => HL.out w9 (below_next BB.out hb))
 have cw := Hi (Nat.ne_of_gt hg)
 have TI := fun w9 => tab_1 w9
 replace BB := Hi (onl_of (g := g) BB.out)
 clear q2 q3 q4 q5 q6 q7 q9
 have KK := Hi fun w9 (h : Onl g w1 w9) => cells3 (q0.out.onl (by omega) h)
 have KD := kdo KK
 refine g_bgo KK 7 ?_
 refine g_tk 1 ?_
 refine g_tk 2 ?_
 refine g_tk 4 ?_
 refine g_tk 5 ?_
 refine g_sc 0 (fun K hK => ?_)
 go_simp
 go_at_call 45
 refine (MT.out _).mono ?_
 rintro e w2 ⟨rfl, hb⟩
 have q8 := Hi (onl_next (onl_of (g := g) (by repeat (first | with_reducible exact Below.refl _ _ | with_reducible apply below_drew | with_reducible apply below_new)) : Onl g w1 _) (onl_of hb))
 have qa := KK.out _ q8.out
 have BX := Hi (reg_next (w0 := w1) (by repeat (first | with_reducible exact Below.refl _ _ | with_reducible apply below_drew | with_reducible apply below_new)) hb)
 clear hb
 refine hK.out _ _ (fun _ => qa) (fun hHeld => ?_)
 replace hHeld := hHeld (by decide)
 clear hK
 refine g_pt ?_
 refine g_tk 3 ?_
 refine g_sc 6 (fun K hK => ?_)
 go_simp
 go_at_call 69
 refine (HL2.out _ BX.out).mono ?_
 rintro e w3 ⟨rfl, hb, hq⟩
 have q1 := Hi (onl_next q8.out hb)
 have qb := KK.out _ q1.out
 replace hq := Hi hq
 clear hb
 refine hK.out _ _ (fun _ => qb) (fun hHeld => ?_)
 replace hHeld := hHeld (by decide)
 clear hK
 refine g_pt ?_
 refine g_ts 7 ?_
 refine g_dn ?_
 clear KK KD qa qb
 replace q0 := kpo q0 (by omega) q1.out
 replace BB := Hi (onl_next BB.out q1.out)
 clear q8 q1
 go_wp2_with fail
 go_ret
 exact ⟨rfl, BB.out, hq.out⟩
theorem rdo_save (g n cap : Nat) (kk c : Int) (A : Option Addr) (Q : World → Prop) (w : World) (hg : g < w.heap.size) (CR : Hid (∀ w1, Calls Tryz.prog 44 #[.agg #[.int .i64 10, .int .i64 kk, .slice A n cap]] w1 fun e w' => e = .returned (.bool true) ∧ Below w1.heap.size w1 w'))
 (HL : Hid (∀ w1, Below w.heap.size w w1 → Calls Tryz.prog 78 #[.pointer (some ⟨g, 0, none⟩), .agg #[.int .i64 10, .int .i64 kk, .slice A n cap]] w1 (GiveRQ g c Q w1))) :
 Calls Tryz.prog 25 #[.pointer (some ⟨g, 0, none⟩), .agg #[.int .i64 10, .int .i64 kk, .slice A n cap]] w (GiveRQ g c Q w) := by
 have MT := Hi (fun w => mtable w)
 go_enter Tryz.func25, Tryz.ntmps25
 go_upto_region 1 with fail
 obtain ⟨w0, e, BB, q0⟩ := en1 w #[.int .i64 10, .int .i64 kk, .slice A n cap] CmT
 rw [e]; clear e
 obtain ⟨q2, q3, q4, q5, q6, q7⟩ := reads3 q0.out
 have q9 := q0.out.lt
 go_wp2_with fail
 refine (CR.out _).mono ?_
 rintro e w1 ⟨rfl, hb⟩
 clear q2 q3 q4 q5 q6 q7 q9
 replace q0 := kp q0 hb
 replace BB := nx BB hb
 clear hb
 obtain ⟨q2, q3, q4, q5, q6, q7⟩ := reads3 q0.out
 have q9 := q0.out.lt
 go_upto_region 3 with fail
 have HL2 := Hi (fun w9 (hb : Below w1.heap.size w1 w9) => HL.out w9 (below_next BB.out hb))
 have cw := Hi (Nat.ne_of_gt hg)
 have TI := fun w9 => tab_10 w9
 replace BB := Hi (onl_of (g := g) BB.out)
 clear q2 q3 q4 q5 q6 q7 q9
 have KK := Hi fun w9 (h : Onl g w1 w9) => cells3 (q0.out.onl (by omega) h)
 have KD := kdo KK
 refine g_bgo KK 7 ?_
 refine g_tk 1 ?_
 refine g_tk 2 ?_
 refine g_tk 4 ?_
 refine g_tk 5 ?_
 refine g_sc 0 (fun K hK => ?_)
 go_simp
 go_at_call 45
 refine (MT.out _).mono ?_
 rintro e w2 ⟨rfl, hb⟩
 have q8 := Hi (onl_next (onl_of (g := g) (by repeat (first | with_reducible exact Below.refl _ _ | with_reducible apply below_drew | with_reducible apply below_new)) : Onl g w1 _) (onl_of hb))
 have qa := KK.out _ q8.out
 have BX := Hi (reg_next (w0 := w1) (by repeat (first | with_reducible exact Below.refl _ _ | with_reducible apply below_drew | with_reducible apply below_new)) hb)
 clear hb
 refine hK.out _ _ (fun _ => qa) (fun hHeld => ?_)
 replace hHeld := hHeld (by decide)
 clear hK
 refine g_pt ?_
 refine g_tk 3 ?_
 refine g_sc 6 (fun K hK => ?_)
 go_simp
 go_at_call 78
 refine (HL2.out _ BX.out).mono ?_
 rintro e w3 ⟨rfl, hb, hq⟩
 have q1 := Hi (onl_next q8.out hb)
 have qb := KK.out _ q1.out
 replace hq := Hi hq
 clear hb
 refine hK.out _ _ (fun _ => qb) (fun hHeld => ?_)
 replace hHeld := hHeld (by decide)
 clear hK
 refine g_pt ?_
 refine g_ts 7 ?_
 refine g_dn ?_
 clear KK KD qa qb
 replace q0 := kpo q0 (by omega) q1.out
 replace BB := Hi (onl_next BB.out q1.out)
 clear q8 q1
 go_wp2_with fail
 go_ret
 exact ⟨rfl, BB.out, hq.out⟩
attribute [go_sem] Tryz.results13
abbrev RsT : TypeId := 28
def GiveRs (code at_ : Int) (w : World) (e : Ending) (w' : World) : Prop := e = .returned (.agg #[.slice none 0 0, .int .i64 code, .int .i64 at_, .int .i64 at_, .int .i64 0, .int .i64 0, .int .i64 0]) ∧ Below w.heap.size w w'
/-- The bytes l lie at the slice v, which is the only cell of the block g2. -/
def OutIs (g2 : Nat) (v : Value) (l : List UInt8) (w : World) : Prop := g2 < w.heap.size ∧ w.cell? ⟨g2, 0, none⟩ = some v ∧ BY w v l
/-- Neither the block g2 nor that of the slice v is b. -/
def Apart (g2 : Nat) (v : Value) (b : Nat) : Prop := g2 ≠ b ∧ ∀ A n cap, v = .slice A n cap → ∀ bb off, A = some ⟨bb, off, none⟩ → bb ≠ b
theorem OutIs.below {g2 : Nat} {v : Value} {l : List UInt8} {w w1 : World} (h : OutIs g2 v l w) (hb : Below w.heap.size w w1) : OutIs g2 v l w1 :=
 ⟨Nat.lt_of_lt_of_le h.1 hb.size, (hb.cell (p := ⟨g2, 0, none⟩) h.1).trans h.2.1, BS.below h.2.2 hb⟩
theorem out_apart {g2 b : Nat} {v : Value} {l : List UInt8} {w : World} {cs : Array Value} {T : TypeId} (h : OutIs g2 v l w) (hl : l.getD 0 0 ≠ 0) (hg : g2 ≠ b) (hc : AtB w b cs T) (hcs : ∀ (i : Nat) (x : Int), cs[i]? = some (Value.int .u8 x) → x = 0) : Apart g2 v b :=
 ⟨hg, fun A n cap e => by subst e; exact by_nz h.2.2 hc hcs hl (fun e => hl (by rw [e]; rfl))⟩
theorem out_set {g2 b : Nat} {v : Value} {l : List UInt8} {w : World} (ha : Apart g2 v b) (h : OutIs g2 v l w) (o : Nat) (u : Value) : OutIs g2 v l (w.setCell ⟨b, o, none⟩ u) := by
 have hg := grownBy_setCell w b o u
 obtain ⟨A, cap, e⟩ := h.2.2.form
 subst e
 exact ⟨Nat.lt_of_lt_of_le h.1 hg.size, hg.cell h.2.1 (fun e => ha.1 (by cases e; rfl)), by_far (fun _ => ha.2 A _ cap rfl) h.2.2 o u⟩
theorem res_u8 (B : Option Addr) (n d : Nat) (e1 e2 e3 : Int) : ∀ (i : Nat) (u : Int), (#[.slice B n d, .int .i64 e1, .int .i64 e2, .int .i64 e3, .int .i64 0, .int .i64 0, .int .i64 0] : Array Value)[i]? = some (Value.int .u8 u) → u = 0 := by
 intro i u h
 have := Array.mem_of_getElem? h
 simp at this
/-- The bytes are put out. -/
def GiveRo (l : List UInt8) (w : World) (e : Ending) (w' : World) : Prop :=
 ∃ g2 cp2 u, e = .returned (.agg #[.slice (some ⟨g2, 0, none⟩) 1 cp2, .int .i64 0, .int .i64 2, .int .i64 2, .int .i64 0, .int .i64 0, .int .i64 0]) ∧ Below w.heap.size w w' ∧ OutIs g2 u l w' ∧ w.heap.size ≤ g2
theorem rcmds_bad (S k : Nat) (ib io icap gl lcap ng nc : Nat) (v : Value) (w : World) (hS : S ≠ 0) (hlc : ¬ lcap = 1) (hin : Hid (∀ w1, Below w.heap.size w w1 → w1.cell? ⟨ib, io, none⟩ = some v)) (CL : Hid (∀ w1, Below w.heap.size w w1 → w1.cell? ⟨gl, 0, none⟩ = some (.int .i64 1) ∧ w1.cell? ⟨gl, 1, none⟩ = some (.int .i64 0) ∧ w1.cell? ⟨gl, 2, none⟩ = some (.slice (some ⟨ng, 0, none⟩) 1 nc) ∧ w1.cell? ⟨gl, 3, none⟩ = some (.int .i64 10) ∧ w1.cell? ⟨gl, 4, none⟩ = some (.int .i64 (k : Int)) ∧ w1.cell? ⟨gl, 5, none⟩ = some (.slice none 0 0))) (hN : Hid (∀ w1, Below w.heap.size w w1 → w1.cell? ⟨ng, 0, none⟩ = some (.int .i64 0))) (hR : Hid (∀ w1, Below w.heap.size w w1 → Calls Tryz.prog 116 #[v] w1 (GiveCod (S, 0, 0, 0, []) w1))) :
 Calls Tryz.prog 13 #[.slice (some ⟨ib, io, none⟩) 1 icap, .slice (some ⟨gl, 0, none⟩) 2 lcap] w (GiveRs S 0 w) := by
 have q1 : ((S : Int) != 0) = true := by rw [bne_iff_ne]; omega
 replace hS := Hi hS
 have MU := Hi (fun w => musual w)
 have MN := Hi (fun w => mnew 1099511627776 rfl w)
 go_enter Tryz.func13, Tryz.ntmps13
 go_upto_region 1 with fail
 obtain ⟨w0, e, BB, q2⟩ := en1 w #[.slice none 0 0, .int .i64 0, .int .i64 0, .int .i64 0, .int .i64 0, .int .i64 0, .int .i64 0] RsT
 rw [e]; clear e
 go_wp2_with fail
 refine (MU.out _).mono ?_
 rintro e w1 ⟨rfl, hb⟩
 replace q2 := kp q2 hb
 replace BB := nx BB hb
 clear hb
 go_wp2_with fail
 refine (MN.out _).mono ?_
 rintro e w2 ⟨mp, rfl, hb⟩
 replace q2 := kp q2 hb
 replace BB := nx BB hb
 clear hb
 go_upto_region 2 with fail
 have q5 := Hi (And.intro BB.out.size (And.intro q2.out.lt (True.intro)))
 obtain ⟨w3, q3, e1, e2, hb, q0⟩ := bx w2 (mac ib io icap mp 0 0 0 (.slice none 0 0) false (.slice none 0 0) 0 0 0) MaT
 rw [e2] at q5; rw [e1, e2]
 replace q2 := kp q2 hb
 replace BB := nx BB hb
 clear hb e1 e2
 go_wp2_with fail
 go_loopw [20] (fun i wr => Hid (Below w.heap.size w wr ∧ AtB wr w.heap.size #[.slice none 0 0, .int .i64 0, .int .i64 0, .int .i64 0, .int .i64 0, .int .i64 0, .int .i64 0] RsT ∧ AtB wr q3 (mac ib io icap mp 0 0 0 (.slice none 0 0) false (.slice none 0 0) 0 0 0) MaT ∧ w.heap.size < q3) ∧ i = .int .i64 0) (fun i _ => 2 - (RowKit.intOf i).toNat)
 case atStart => exact ⟨⟨BB.out, q2.out, q0.out, by have dd := q5.out; omega⟩, rfl⟩
 case round =>
  clear q2 q0 BB q5
  obtain ⟨H, rfl⟩ := hrel
  obtain ⟨BB, q2, q0, gk⟩ := H.out
  have q5 := Hi gk
  replace BB := Hi BB
  replace q2 := Hi q2
  replace q0 := Hi q0
  clear H
  obtain ⟨d0, d1, d2, d3, d4, d5⟩ := CL.out _ BB.out
  go_upto_region 6 with fail
  clear d0 d1 d2 d3 d4 d5
  have q6 := Hi (And.intro BB.out.size (And.intro q2.out.lt (And.intro q0.out.lt (True.intro))))
  obtain ⟨w4, qt, e1, e2, hb, q4⟩ := bx wr #[.int .i64 1, .int .i64 0, .slice (some ⟨ng, 0, none⟩) 1 nc] CmT
  rw [e2] at q6; rw [e1, e2]
  replace q2 := kp q2 hb
  replace q0 := kp q0 hb
  replace BB := nx BB hb
  clear hb e1 e2
  obtain ⟨q7, q8, q9, qa, qb, qc⟩ := reads3 q4.out
  have qd := q4.out.lt
  have f27 := q0.out.fr 27
  have q27 : w4.cell? ⟨q3, 27, none⟩ = some (.int .i64 0) := q0.out.cell 27 rfl
  have f28 := q0.out.fr 28
  have q28 : w4.cell? ⟨q3, 28, none⟩ = some (.int .i64 0) := q0.out.cell 28 rfl
  have lk := q0.out.lt
  go_upto_region 7 with fail
  clear f27 q27 f28 q28 lk
  clear q7 q8 q9 qa qb qc qd
  have F := st2 q0 BB 27 (.int .i64 0) 28 (.int .i64 0) (hg := by have dd := q5.out; omega)
  clear q0 BB
  obtain ⟨w5, e, q0, BB, F⟩ := F
  rw [e]; clear e
  replace q2 := F _ _ _ (by have dd_k := q5.out; omega) q2
  replace q4 := F _ _ _ (by have dd_c := q6.out; have dd_k := q5.out; omega) q4
  clear F
  obtain ⟨q7, q8, q9, qa, qb, qc⟩ := reads3 q4.out
  have qd := q4.out.lt
  go_wp2_with fail
  have qe := Hi (show qt ≠ q3 from by have dd := q6.out; omega)
  have lk := Hi q0.out.lt
  have KK := Hi q0.out
  have W0 := Hi (fun w1 (h : Below w5.heap.size w5 w1) => below_next BB.out h)
  refine (rdo_load q3 1 nc 0 S (some ⟨ng, 0, none⟩) (fun w9 => AtB w9 q3 (mac ib io icap mp 0 0 0 (.slice none 0 0) false (.slice none 0 0) 0 0 0) MaT) _ lk.out (Hi fun w1 => cRight1 _ _ w1) (Hi fun w1 h1 => (rload_bad q3 ng nc ib io icap mp S v w1 hS.out (KK.out.keep h1) (Hi fun w2 h2 => hN.out w2 (below_onl (W0.out w1 h1) (Nat.le_of_lt gk) h2 (W0.out w1 h1).size)) (Hi fun w2 h2 => hin.out w2 (below_onl (W0.out w1 h1) (Nat.le_of_lt gk) h2 (W0.out w1 h1).size)) (Hi fun w2 h2 => hR.out w2 (below_onl (W0.out w1 h1) (Nat.le_of_lt gk) h2 (W0.out w1 h1).size))))).mono ?_
  rintro e w6 ⟨rfl, hb, k_k⟩
  clear q7 q8 q9 qa qb qc qd
  replace q2 := Hi (AtB.onl q2.out (by omega) hb)
  clear q0
  have q0 := Hi k_k; clear k_k
  replace q4 := Hi (AtB.onl q4.out qe.out hb)
  replace BB := Hi (below_onl' BB.out (by omega) hb)
  clear hb
  clear lk KK W0
  have f26 := q0.out.fr 26
  have q26 : w6.cell? ⟨q3, 26, none⟩ = some (.int .i64 0) := q0.out.cell 26 rfl
  have lk := q0.out.lt
  go_upto_region 8 with fail
  clear f26 q26 lk
  have F := st1 q0 BB 26 (.int .i64 ↑S) (hg := by have dd := q5.out; omega)
  clear q0 BB
  obtain ⟨w7, e, q0, BB, F⟩ := F
  rw [e]; clear e
  replace q2 := F _ _ _ (by have dd_k := q5.out; omega) q2
  replace q4 := F _ _ _ (by have dd_c := q6.out; have dd_k := q5.out; omega) q4
  clear F
  have q25 : w7.cell? ⟨q3, 25, none⟩ = some (.slice none 0 0) := q0.out.cell 25 rfl
  have q26 : w7.cell? ⟨q3, 26, none⟩ = some (.int .i64 ↑S) := q0.out.cell 26 rfl
  have q27 : w7.cell? ⟨q3, 27, none⟩ = some (.int .i64 0) := q0.out.cell 27 rfl
  have q28 : w7.cell? ⟨q3, 28, none⟩ = some (.int .i64 0) := q0.out.cell 28 rfl
  have q29 : w7.cell? ⟨q3, 29, none⟩ = some (.int .i64 0) := q0.out.cell 29 rfl
  have q30 : w7.cell? ⟨q3, 30, none⟩ = some (.int .i64 0) := q0.out.cell 30 rfl
  have q31 : w7.cell? ⟨q3, 31, none⟩ = some (.int .i64 0) := q0.out.cell 31 rfl
  have lk := q0.out.lt
  obtain ⟨qf, qg, qh, qi, qj, qk, ql, qm, qn, qo, qp, qq, qr, qs⟩ := reads7 q2.out
  have qu := q2.out.lt
  go_wp2_with fail
  clear q25 q26 q27 q28 q29 q30 q31 lk
  clear qf qg qh qi qj qk ql qm qn qo qp qq qr qs qu
  have F := st7 q2 BB 0 (.slice none 0 0) 1 (.int .i64 ↑S) 2 (.int .i64 0) 3 (.int .i64 0) 4 (.int .i64 0) 5 (.int .i64 0) 6 (.int .i64 0)
  clear q2 BB
  obtain ⟨w8, e, q2, BB, F⟩ := F
  rw [e]; clear e
  replace q0 := F _ _ _ (by have dd_k := q5.out; omega) q0
  replace q4 := F _ _ _ (by have dd_c := q6.out; omega) q4
  clear F
  obtain ⟨qf, qg, qh, qi, qj, qk, ql, qm, qn, qo, qp, qq, qr, qs⟩ := reads7 q2.out
  have qu := q2.out.lt
  go_wp2_with fail
  refine bret (.agg #[.slice none 0 0, .int .i64 ↑S, .int .i64 0, .int .i64 0, .int .i64 0, .int .i64 0, .int .i64 0]) ?_
  exact ⟨rfl, BB.out⟩
theorem rcmds_arg (k : Nat) (hk : k = 1 ∨ k = 2 ∨ k = 3 ∨ k = 4) (ib io icap gl lcap ng nc x y z m : Nat) (p : List UInt8) (hm : Hid (m = p.length)) (v : Value) (w : World) (hlc : ¬ lcap = 1) (hin : Hid (∀ w1, Below w.heap.size w w1 → w1.cell? ⟨ib, io, none⟩ = some v)) (CL : Hid (∀ w1, Below w.heap.size w w1 → w1.cell? ⟨gl, 0, none⟩ = some (.int .i64 1) ∧ w1.cell? ⟨gl, 1, none⟩ = some (.int .i64 0) ∧ w1.cell? ⟨gl, 2, none⟩ = some (.slice (some ⟨ng, 0, none⟩) 1 nc) ∧ w1.cell? ⟨gl, 3, none⟩ = some (.int .i64 10) ∧ w1.cell? ⟨gl, 4, none⟩ = some (.int .i64 (k : Int)) ∧ w1.cell? ⟨gl, 5, none⟩ = some (.slice none 0 0))) (hN : Hid (∀ w1, Below w.heap.size w w1 → w1.cell? ⟨ng, 0, none⟩ = some (.int .i64 0))) (hR : Hid (∀ w1, Below w.heap.size w w1 → Calls Tryz.prog 116 #[v] w1 (GiveCod (0, x, y, z, p) w1)))
 (hW : Hid (∀ A2 cap2 w1, Below w.heap.size w w1 → BY w1 (.slice A2 p.length cap2) p → Calls Tryz.prog 123 #[.int .i64 (k : Int), imv x y z (.slice A2 p.length cap2)] w1 (GiveArg w1))) :
 Calls Tryz.prog 13 #[.slice (some ⟨ib, io, none⟩) 1 icap, .slice (some ⟨gl, 0, none⟩) 2 lcap] w (GiveRs 10 1 w) := by
 have CR := Hi (fun A cap w => cRight2 k hk A cap w)
 clear hk
 have MU := Hi (fun w => musual w)
 have MN := Hi (fun w => mnew 1099511627776 rfl w)
 go_enter Tryz.func13, Tryz.ntmps13
 go_upto_region 1 with fail
 obtain ⟨w0, e, BB, q2⟩ := en1 w #[.slice none 0 0, .int .i64 0, .int .i64 0, .int .i64 0, .int .i64 0, .int .i64 0, .int .i64 0] RsT
 rw [e]; clear e
 go_wp2_with fail
 refine (MU.out _).mono ?_
 rintro e w1 ⟨rfl, hb⟩
 replace q2 := kp q2 hb
 replace BB := nx BB hb
 clear hb
 go_wp2_with fail
 refine (MN.out _).mono ?_
 rintro e w2 ⟨mp, rfl, hb⟩
 replace q2 := kp q2 hb
 replace BB := nx BB hb
 clear hb
 go_upto_region 2 with fail
 have q5 := Hi (And.intro BB.out.size (And.intro q2.out.lt (True.intro)))
 obtain ⟨w3, q3, e1, e2, hb, q0⟩ := bx w2 (mac ib io icap mp 0 0 0 (.slice none 0 0) false (.slice none 0 0) 0 0 0) MaT
 rw [e2] at q5; rw [e1, e2]
 replace q2 := kp q2 hb
 replace BB := nx BB hb
 clear hb e1 e2
 go_wp2_with fail
 go_loopw [20] (fun i wr => Hid (Below w.heap.size w wr ∧ AtB wr w.heap.size #[.slice none 0 0, .int .i64 0, .int .i64 0, .int .i64 0, .int .i64 0, .int .i64 0, .int .i64 0] RsT ∧ w.heap.size < q3) ∧ ((i = .int .i64 0 ∧ Hid (AtB wr q3 (mac ib io icap mp 0 0 0 (.slice none 0 0) false (.slice none 0 0) 0 0 0) MaT)) ∨ (i = .int .i64 1 ∧ ∃ A2 cap2, Hid (AtB wr q3 (mac ib io icap mp x y z (.slice A2 m cap2) true (.slice none 0 0) 0 0 0) MaT ∧ wr.ownsRow (w.heap.size + 1) U8T 1 (.slice A2 m cap2) m (uV p))))) (fun i _ => 2 - (RowKit.intOf i).toNat)
 case atStart => exact ⟨⟨BB.out, q2.out, by have dd := q5.out; omega⟩, .inl ⟨rfl, q0.out⟩⟩
 case round =>
  clear q2 q0 BB q5
  obtain ⟨H, hrel⟩ := hrel
  obtain ⟨BB, q2, gk⟩ := H.out
  have q5 := Hi gk
  replace BB := Hi BB
  replace q2 := Hi q2
  clear H
  rcases hrel with ⟨rfl, q0⟩ | ⟨rfl, A2, cap2, H1⟩
  ·
   obtain ⟨d0, d1, d2, d3, d4, d5⟩ := CL.out _ BB.out
   go_upto_region 6 with fail
   clear d0 d1 d2 d3 d4 d5
   have q6 := Hi (And.intro BB.out.size (And.intro q2.out.lt (And.intro q0.out.lt (True.intro))))
   obtain ⟨w4, qt, e1, e2, hb, q4⟩ := bx wr #[.int .i64 1, .int .i64 0, .slice (some ⟨ng, 0, none⟩) 1 nc] CmT
   rw [e2] at q6; rw [e1, e2]
   replace q2 := kp q2 hb
   replace q0 := kp q0 hb
   replace BB := nx BB hb
   clear hb e1 e2
   obtain ⟨q7, q8, q9, qa, qb, qc⟩ := reads3 q4.out
   have qd := q4.out.lt
   have f27 := q0.out.fr 27
   have q27 : w4.cell? ⟨q3, 27, none⟩ = some (.int .i64 0) := q0.out.cell 27 rfl
   have f28 := q0.out.fr 28
   have q28 : w4.cell? ⟨q3, 28, none⟩ = some (.int .i64 0) := q0.out.cell 28 rfl
   have lk := q0.out.lt
   go_upto_region 7 with fail
   clear f27 q27 f28 q28 lk
   clear q7 q8 q9 qa qb qc qd
   have F := st2 q0 BB 27 (.int .i64 0) 28 (.int .i64 0) (hg := by have dd := q5.out; omega)
   clear q0 BB
   obtain ⟨w5, e, q0, BB, F⟩ := F
   rw [e]; clear e
   replace q2 := F _ _ _ (by have dd_k := q5.out; omega) q2
   replace q4 := F _ _ _ (by have dd_c := q6.out; have dd_k := q5.out; omega) q4
   clear F
   obtain ⟨q7, q8, q9, qa, qb, qc⟩ := reads3 q4.out
   have qd := q4.out.lt
   go_wp2_with fail
   have qe := Hi (show qt ≠ q3 from by have dd := q6.out; omega)
   have lk := Hi q0.out.lt
   have KK := Hi q0.out
   have W0 := Hi (fun w1 (h : Below w5.heap.size w5 w1) => below_next BB.out h)
   have hm2 := hm
   refine (rdo_load q3 1 nc 0 0 (some ⟨ng, 0, none⟩) (fun w9 => ∃ A2 cap2, AtB w9 q3 (mac ib io icap mp x y z (.slice A2 m cap2) true (.slice none 0 0) 0 0 0) MaT ∧ w9.ownsRow (w.heap.size + 1) U8T 1 (.slice A2 m cap2) m (uV p)) _ lk.out (Hi fun w1 => cRight1 _ _ w1) (Hi fun w1 h1 => (rload_ok q3 ng nc ib io icap mp x y z p m hm2 v w1 (KK.out.keep h1) (Hi fun w2 h2 => hN.out w2 (below_onl (W0.out w1 h1) (Nat.le_of_lt gk) h2 (W0.out w1 h1).size)) (Hi fun w2 h2 => hin.out w2 (below_onl (W0.out w1 h1) (Nat.le_of_lt gk) h2 (W0.out w1 h1).size)) (Hi fun w2 h2 => hR.out w2 (below_onl (W0.out w1 h1) (Nat.le_of_lt gk) h2 (W0.out w1 h1).size))).mono (by rintro e w9 ⟨A, cap, rfl, h8, h9, ho⟩; exact ⟨rfl, h8, A, cap, h9, own_base ho (by have := lk.out; have := h1.size; omega)⟩))).mono ?_
   rintro e w6 ⟨rfl, hb, A2, cap2, k_k, hO⟩
   clear q7 q8 q9 qa qb qc qd
   replace q2 := Hi (AtB.onl q2.out (by omega) hb)
   clear q0
   have q0 := Hi k_k; clear k_k
   replace q4 := Hi (AtB.onl q4.out qe.out hb)
   replace BB := Hi (below_onl' BB.out (by omega) hb)
   clear hb
   replace hO := Hi hO
   have nk := Hi (own_ne hO.out q0.out (by decide))
   clear lk KK W0
   have f26 := q0.out.fr 26
   have q26 : w6.cell? ⟨q3, 26, none⟩ = some (.int .i64 0) := q0.out.cell 26 rfl
   have lk := q0.out.lt
   go_upto_region 8 with fail
   clear f26 q26 lk
   replace q2 := Hi (q2.out.far (p := q3) (by have dd_k := q5.out; omega) 26 (.int .i64 0))
   replace q0 := Hi (q0.out.sn 26 (.int .i64 0))
   replace q4 := Hi (q4.out.far (p := q3) (by have dd_c := q6.out; have dd_k := q5.out; omega) 26 (.int .i64 0))
   replace BB := Hi (below_set BB.out (b := q3) (o := 26) (by have dd := q5.out; omega) (.int .i64 0))
   replace hO := Hi (own_store nk.out hO.out 26 (.int .i64 0))
   generalize (w6.setCell ⟨q3, 26, none⟩ (.int .i64 0)) = w7 at *
   have q26 : w7.cell? ⟨q3, 26, none⟩ = some (.int .i64 0) := q0.out.cell 26 rfl
   go_wp2_with fail
   go_roundw
   case rel => exact ⟨⟨BB.out, q2.out, gk⟩, .inr (⟨rfl, A2, cap2, q0.out, hO.out⟩)⟩
   case measure => simp [RowKit.intOf]
  ·
   obtain ⟨q0, hO⟩ := H1.out
   replace q0 := Hi q0
   replace hO := Hi hO
   clear H1
   have nk := Hi (own_ne hO.out q0.out (by decide))
   obtain ⟨d0, d1, d2, d3, d4, d5⟩ := CL.out _ BB.out
   go_upto_region 6 with fail
   clear d0 d1 d2 d3 d4 d5
   have q6 := Hi (And.intro BB.out.size (And.intro q2.out.lt (And.intro q0.out.lt (True.intro))))
   obtain ⟨w8, qt, e1, e2, hb, q4⟩ := bx wr #[.int .i64 10, .int .i64 ↑k, .slice none 0 0] CmT
   rw [e2] at q6; rw [e1, e2]
   replace q2 := kp q2 hb
   replace q0 := kp q0 hb
   replace hO := Hi (own_below hO.out hb)
   replace BB := nx BB hb
   clear hb e1 e2
   obtain ⟨q7, q8, q9, qa, qb, qc⟩ := reads3 q4.out
   have qd := q4.out.lt
   have f27 := q0.out.fr 27
   have q27 : w8.cell? ⟨q3, 27, none⟩ = some (.int .i64 0) := q0.out.cell 27 rfl
   have f28 := q0.out.fr 28
   have q28 : w8.cell? ⟨q3, 28, none⟩ = some (.int .i64 0) := q0.out.cell 28 rfl
   have lk := q0.out.lt
   go_upto_region 7 with fail
   clear f27 q27 f28 q28 lk
   clear q7 q8 q9 qa qb qc qd
   replace q2 := Hi ((q2.out.far (p := q3) (by have dd_k := q5.out; omega) 27 (.int .i64 1)).far (p := q3) (by have dd_k := q5.out; omega) 28 (.int .i64 1))
   replace q0 := Hi ((q0.out.sn 27 (.int .i64 1)).sn 28 (.int .i64 1))
   replace q4 := Hi ((q4.out.far (p := q3) (by have dd_c := q6.out; have dd_k := q5.out; omega) 27 (.int .i64 1)).far (p := q3) (by have dd_c := q6.out; have dd_k := q5.out; omega) 28 (.int .i64 1))
   replace BB := Hi (below_set (below_set BB.out (b := q3) (o := 27) (by have dd := q5.out; omega) (.int .i64 1)) (b := q3) (o := 28) (by have dd := q5.out; omega) (.int .i64 1))
   replace hO := Hi (own_store nk.out (own_store nk.out hO.out 27 (.int .i64 1)) 28 (.int .i64 1))
   generalize ((w8.setCell ⟨q3, 27, none⟩ (.int .i64 1)).setCell ⟨q3, 28, none⟩ (.int .i64 1)) = w10 at *
   obtain ⟨q7, q8, q9, qa, qb, qc⟩ := reads3 q4.out
   have qd := q4.out.lt
   go_wp2_with fail
   have qe := Hi (show qt ≠ q3 from by have dd := q6.out; omega)
   have lk := Hi q0.out.lt
   have KK := Hi q0.out
   have W0 := Hi (fun w1 (h : Below w10.heap.size w10 w1) => below_next BB.out h)
   have hB := Hi (own_by (by have h := hO.out; rw [hm.out] at h; exact h))
   have HW := Hi (fun w1 (h : Below w10.heap.size w10 w1) => hW.out A2 cap2 w1 (W0.out w1 h) (BS.below hB.out h))
   rw [← hm.out] at HW
   refine (rdo_save q3 0 0 k 10 none (fun w9 => AtB w9 q3 (mac ib io icap mp x y z (.slice A2 m cap2) true (.slice none 0 0) 0 1 1) MaT) _ lk.out (Hi fun w1 => CR.out _ _ w1) (Hi fun w1 h1 => rsave_no q3 k ib io icap mp x y z m cap2 0 A2 none w1 (KK.out.keep h1) (Hi fun w2 h2 => HW.out w2 (below_next h1 h2)))).mono ?_
   rintro e w11 ⟨rfl, hb, k_k⟩
   clear q7 q8 q9 qa qb qc qd
   replace q2 := Hi (AtB.onl q2.out (by omega) hb)
   clear q0
   have q0 := Hi k_k; clear k_k
   replace q4 := Hi (AtB.onl q4.out qe.out hb)
   replace hO := Hi ((fun h hb => own_onl h nk.out hb) hO.out hb)
   replace BB := Hi (below_onl' BB.out (by omega) hb)
   clear hb
   clear lk KK W0 HW hB
   have f26 := q0.out.fr 26
   have q26 : w11.cell? ⟨q3, 26, none⟩ = some (.int .i64 0) := q0.out.cell 26 rfl
   have lk := q0.out.lt
   go_upto_region 8 with fail
   clear f26 q26 lk
   replace q2 := Hi (q2.out.far (p := q3) (by have dd_k := q5.out; omega) 26 (.int .i64 10))
   replace q0 := Hi (q0.out.sn 26 (.int .i64 10))
   replace q4 := Hi (q4.out.far (p := q3) (by have dd_c := q6.out; have dd_k := q5.out; omega) 26 (.int .i64 10))
   replace BB := Hi (below_set BB.out (b := q3) (o := 26) (by have dd := q5.out; omega) (.int .i64 10))
   replace hO := Hi (own_store nk.out hO.out 26 (.int .i64 10))
   generalize (w11.setCell ⟨q3, 26, none⟩ (.int .i64 10)) = w12 at *
   have q25 : w12.cell? ⟨q3, 25, none⟩ = some (.slice none 0 0) := q0.out.cell 25 rfl
   have q26 : w12.cell? ⟨q3, 26, none⟩ = some (.int .i64 10) := q0.out.cell 26 rfl
   have q27 : w12.cell? ⟨q3, 27, none⟩ = some (.int .i64 1) := q0.out.cell 27 rfl
   have q28 : w12.cell? ⟨q3, 28, none⟩ = some (.int .i64 1) := q0.out.cell 28 rfl
   have q29 : w12.cell? ⟨q3, 29, none⟩ = some (.int .i64 0) := q0.out.cell 29 rfl
   have q30 : w12.cell? ⟨q3, 30, none⟩ = some (.int .i64 0) := q0.out.cell 30 rfl
   have q31 : w12.cell? ⟨q3, 31, none⟩ = some (.int .i64 0) := q0.out.cell 31 rfl
   have lk := q0.out.lt
   obtain ⟨qf, qg, qh, qi, qj, qk, ql, qm, qn, qo, qp, qq, qr, qs⟩ := reads7 q2.out
   have qu := q2.out.lt
   go_wp2_with fail
   clear q25 q26 q27 q28 q29 q30 q31 lk
   clear qf qg qh qi qj qk ql qm qn qo qp qq qr qs qu
   have F := st7 q2 BB 0 (.slice none 0 0) 1 (.int .i64 10) 2 (.int .i64 1) 3 (.int .i64 1) 4 (.int .i64 0) 5 (.int .i64 0) 6 (.int .i64 0)
   clear q2 BB
   obtain ⟨w13, e, q2, BB, F⟩ := F
   rw [e]; clear e
   replace q0 := F _ _ _ (by have dd_k := q5.out; omega) q0
   replace q4 := F _ _ _ (by have dd_c := q6.out; omega) q4
   clear F
   obtain ⟨qf, qg, qh, qi, qj, qk, ql, qm, qn, qo, qp, qq, qr, qs⟩ := reads7 q2.out
   have qu := q2.out.lt
   go_wp2_with fail
   refine bret (.agg #[.slice none 0 0, .int .i64 10, .int .i64 1, .int .i64 1, .int .i64 0, .int .i64 0, .int .i64 0]) ?_
   exact ⟨rfl, BB.out⟩
attribute [go_sem] Tryz.results13
theorem rcmds_ok (k : Nat) (hk : k = 1 ∨ k = 2 ∨ k = 3 ∨ k = 4) (ib io icap gl lcap ng nc x y z m : Nat) (p : List UInt8) (hm : Hid (m = p.length)) (v : Value) (w : World) (hlc : ¬ lcap = 1) (hin : Hid (∀ w1, Below w.heap.size w w1 → w1.cell? ⟨ib, io, none⟩ = some v)) (CL : Hid (∀ w1, Below w.heap.size w w1 → w1.cell? ⟨gl, 0, none⟩ = some (.int .i64 1) ∧ w1.cell? ⟨gl, 1, none⟩ = some (.int .i64 0) ∧ w1.cell? ⟨gl, 2, none⟩ = some (.slice (some ⟨ng, 0, none⟩) 1 nc) ∧ w1.cell? ⟨gl, 3, none⟩ = some (.int .i64 10) ∧ w1.cell? ⟨gl, 4, none⟩ = some (.int .i64 (k : Int)) ∧ w1.cell? ⟨gl, 5, none⟩ = some (.slice none 0 0))) (hN : Hid (∀ w1, Below w.heap.size w w1 → w1.cell? ⟨ng, 0, none⟩ = some (.int .i64 0))) (hR : Hid (∀ w1, Below w.heap.size w w1 → Calls Tryz.prog 116 #[v] w1 (GiveCod (0, x, y, z, p) w1)))
 (l : List UInt8) (hl : l.getD 0 0 ≠ 0) (hW : Hid (∀ A2 cap2 w1, Below w.heap.size w w1 → BY w1 (.slice A2 p.length cap2) p → Calls Tryz.prog 123 #[.int .i64 (k : Int), imv x y z (.slice A2 p.length cap2)] w1 (GiveWr l w1))) :
 Calls Tryz.prog 13 #[.slice (some ⟨ib, io, none⟩) 1 icap, .slice (some ⟨gl, 0, none⟩) 2 lcap] w (GiveRo l w) := by
 have CR := Hi (fun A cap w => cRight2 k hk A cap w)
 clear hk
 replace hl := Hi hl
 have MU := Hi (fun w => musual w)
 have MN := Hi (fun w => mnew 1099511627776 rfl w)
 go_enter Tryz.func13, Tryz.ntmps13
 go_upto_region 1 with fail
 obtain ⟨w0, e, BB, q2⟩ := en1 w #[.slice none 0 0, .int .i64 0, .int .i64 0, .int .i64 0, .int .i64 0, .int .i64 0, .int .i64 0] RsT
 rw [e]; clear e
 go_wp2_with fail
 refine (MU.out _).mono ?_
 rintro e w1 ⟨rfl, hb⟩
 replace q2 := kp q2 hb
 replace BB := nx BB hb
 clear hb
 go_wp2_with fail
 refine (MN.out _).mono ?_
 rintro e w2 ⟨mp, rfl, hb⟩
 replace q2 := kp q2 hb
 replace BB := nx BB hb
 clear hb
 go_upto_region 2 with fail
 have q3 := Hi (And.intro BB.out.size (And.intro q2.out.lt (True.intro)))
 obtain ⟨w3, q1, e1, e2, hb, q0⟩ := bx w2 (mac ib io icap mp 0 0 0 (.slice none 0 0) false (.slice none 0 0) 0 0 0) MaT
 rw [e2] at q3; rw [e1, e2]
 replace q2 := kp q2 hb
 replace BB := nx BB hb
 clear hb e1 e2
 go_wp2_with fail
 go_loopw [20] (fun i wr => Hid (Below w.heap.size w wr ∧ AtB wr w.heap.size #[.slice none 0 0, .int .i64 0, .int .i64 0, .int .i64 0, .int .i64 0, .int .i64 0, .int .i64 0] RsT ∧ w.heap.size < q1) ∧ ((i = .int .i64 0 ∧ Hid (AtB wr q1 (mac ib io icap mp 0 0 0 (.slice none 0 0) false (.slice none 0 0) 0 0 0) MaT)) ∨ (i = .int .i64 1 ∧ ∃ A2 cap2, Hid (AtB wr q1 (mac ib io icap mp x y z (.slice A2 m cap2) true (.slice none 0 0) 0 0 0) MaT ∧ wr.ownsRow (w.heap.size + 1) U8T 1 (.slice A2 m cap2) m (uV p))) ∨ (i = .int .i64 2 ∧ ∃ A2 cap2 g2 cp2 u, Hid (AtB wr q1 (mac ib io icap mp x y z (.slice A2 m cap2) true (.slice (some ⟨g2, 0, none⟩) 1 cp2) 0 1 1) MaT ∧ OutIs g2 u l wr ∧ Apart g2 u q1 ∧ w.heap.size < g2)))) (fun i _ => 2 - (RowKit.intOf i).toNat)
 case atStart => exact ⟨⟨BB.out, q2.out, by have dd := q3.out; omega⟩, .inl ⟨rfl, q0.out⟩⟩
 case round =>
  clear q2 q0 BB q3
  obtain ⟨H, hrel⟩ := hrel
  obtain ⟨BB, q2, gk⟩ := H.out
  have q3 := Hi gk
  replace BB := Hi BB
  replace q2 := Hi q2
  clear H
  rcases hrel with ⟨rfl, q0⟩ | ⟨rfl, A2, cap2, H1⟩ | ⟨rfl, A2, cap2, g2, cp2, u, H1⟩
  ·
   obtain ⟨d0, d1, d2, d3, d4, d5⟩ := CL.out _ BB.out
   go_upto_region 6 with fail
   clear d0 d1 d2 d3 d4 d5
   have q5 := Hi (And.intro BB.out.size (And.intro q2.out.lt (And.intro q0.out.lt (True.intro))))
   obtain ⟨w4, qe, e1, e2, hb, q4⟩ := bx wr #[.int .i64 1, .int .i64 0, .slice (some ⟨ng, 0, none⟩) 1 nc] CmT
   rw [e2] at q5; rw [e1, e2]
   replace q2 := kp q2 hb
   replace q0 := kp q0 hb
   replace BB := nx BB hb
   clear hb e1 e2
   obtain ⟨q6, q7, q8, q9, qa, qb⟩ := reads3 q4.out
   have qc := q4.out.lt
   have f27 := q0.out.fr 27
   have q27 : w4.cell? ⟨q1, 27, none⟩ = some (.int .i64 0) := q0.out.cell 27 rfl
   have f28 := q0.out.fr 28
   have q28 : w4.cell? ⟨q1, 28, none⟩ = some (.int .i64 0) := q0.out.cell 28 rfl
   have lk := q0.out.lt
   go_upto_region 7 with fail
   clear f27 q27 f28 q28 lk
   clear q6 q7 q8 q9 qa qb qc
   have F := st2 q0 BB 27 (.int .i64 0) 28 (.int .i64 0) (hg := by have dd := q3.out; omega)
   clear q0 BB
   obtain ⟨w5, e, q0, BB, F⟩ := F
   rw [e]; clear e
   replace q2 := F _ _ _ (by have dd_k := q3.out; omega) q2
   replace q4 := F _ _ _ (by have dd_c := q5.out; have dd_k := q3.out; omega) q4
   clear F
   obtain ⟨q6, q7, q8, q9, qa, qb⟩ := reads3 q4.out
   have qc := q4.out.lt
   go_wp2_with fail
   have qd := Hi (show qe ≠ q1 from by have dd := q5.out; omega)
   have lk := Hi q0.out.lt
   have KK := Hi q0.out
   have W0 := Hi (fun w1 (h : Below w5.heap.size w5 w1) => below_next BB.out h)
   have hm2 := hm
   refine (rdo_load q1 1 nc 0 0 (some ⟨ng, 0, none⟩) (fun w9 => ∃ A2 cap2, AtB w9 q1 (mac ib io icap mp x y z (.slice A2 m cap2) true (.slice none 0 0) 0 0 0) MaT ∧ w9.ownsRow (w.heap.size + 1) U8T 1 (.slice A2 m cap2) m (uV p)) _ lk.out (Hi fun w1 => cRight1 _ _ w1) (Hi fun w1 h1 => (rload_ok q1 ng nc ib io icap mp x y z p m hm2 v w1 (KK.out.keep h1) (Hi fun w2 h2 => hN.out w2 (below_onl (W0.out w1 h1) (Nat.le_of_lt gk) h2 (W0.out w1 h1).size)) (Hi fun w2 h2 => hin.out w2 (below_onl (W0.out w1 h1) (Nat.le_of_lt gk) h2 (W0.out w1 h1).size)) (Hi fun w2 h2 => hR.out w2 (below_onl (W0.out w1 h1) (Nat.le_of_lt gk) h2 (W0.out w1 h1).size))).mono (by rintro e w9 ⟨A, cap, rfl, h8, h9, ho⟩; exact ⟨rfl, h8, A, cap, h9, own_base ho (by have := lk.out; have := h1.size; omega)⟩))).mono ?_
   rintro e w6 ⟨rfl, hb, A2, cap2, k_k, hO⟩
   clear q6 q7 q8 q9 qa qb qc
   replace q2 := Hi (AtB.onl q2.out (by omega) hb)
   clear q0
   have q0 := Hi k_k; clear k_k
   replace q4 := Hi (AtB.onl q4.out qd.out hb)
   replace BB := Hi (below_onl' BB.out (by omega) hb)
   clear hb
   replace hO := Hi hO
   have nk := Hi (own_ne hO.out q0.out (by decide))
   clear lk KK W0
   have f26 := q0.out.fr 26
   have q26 : w6.cell? ⟨q1, 26, none⟩ = some (.int .i64 0) := q0.out.cell 26 rfl
   have lk := q0.out.lt
   go_upto_region 8 with fail
   clear f26 q26 lk
   replace q2 := Hi (q2.out.far (p := q1) (by have dd_k := q3.out; omega) 26 (.int .i64 0))
   replace q0 := Hi (q0.out.sn 26 (.int .i64 0))
   replace q4 := Hi (q4.out.far (p := q1) (by have dd_c := q5.out; have dd_k := q3.out; omega) 26 (.int .i64 0))
   replace BB := Hi (below_set BB.out (b := q1) (o := 26) (by have dd := q3.out; omega) (.int .i64 0))
   replace hO := Hi (own_store nk.out hO.out 26 (.int .i64 0))
   generalize (w6.setCell ⟨q1, 26, none⟩ (.int .i64 0)) = w7 at *
   have q26 : w7.cell? ⟨q1, 26, none⟩ = some (.int .i64 0) := q0.out.cell 26 rfl
   go_wp2_with fail
   go_roundw
   case rel => exact ⟨⟨BB.out, q2.out, gk⟩, .inr (.inl ⟨rfl, A2, cap2, q0.out, hO.out⟩)⟩
   case measure => simp [RowKit.intOf]
  ·
   obtain ⟨q0, hO⟩ := H1.out
   replace q0 := Hi q0
   replace hO := Hi hO
   clear H1
   have nk := Hi (own_ne hO.out q0.out (by decide))
   obtain ⟨d0, d1, d2, d3, d4, d5⟩ := CL.out _ BB.out
   go_upto_region 6 with fail
   clear d0 d1 d2 d3 d4 d5
   have q5 := Hi (And.intro BB.out.size (And.intro q2.out.lt (And.intro q0.out.lt (True.intro))))
   obtain ⟨w8, qe, e1, e2, hb, q4⟩ := bx wr #[.int .i64 10, .int .i64 ↑k, .slice none 0 0] CmT
   rw [e2] at q5; rw [e1, e2]
   replace q2 := kp q2 hb
   replace q0 := kp q0 hb
   replace hO := Hi (own_below hO.out hb)
   replace BB := nx BB hb
   clear hb e1 e2
   obtain ⟨q6, q7, q8, q9, qa, qb⟩ := reads3 q4.out
   have qc := q4.out.lt
   have f27 := q0.out.fr 27
   have q27 : w8.cell? ⟨q1, 27, none⟩ = some (.int .i64 0) := q0.out.cell 27 rfl
   have f28 := q0.out.fr 28
   have q28 : w8.cell? ⟨q1, 28, none⟩ = some (.int .i64 0) := q0.out.cell 28 rfl
   have lk := q0.out.lt
   go_upto_region 7 with fail
   clear f27 q27 f28 q28 lk
   clear q6 q7 q8 q9 qa qb qc
   replace q2 := Hi ((q2.out.far (p := q1) (by have dd_k := q3.out; omega) 27 (.int .i64 1)).far (p := q1) (by have dd_k := q3.out; omega) 28 (.int .i64 1))
   replace q0 := Hi ((q0.out.sn 27 (.int .i64 1)).sn 28 (.int .i64 1))
   replace q4 := Hi ((q4.out.far (p := q1) (by have dd_c := q5.out; have dd_k := q3.out; omega) 27 (.int .i64 1)).far (p := q1) (by have dd_c := q5.out; have dd_k := q3.out; omega) 28 (.int .i64 1))
   replace BB := Hi (below_set (below_set BB.out (b := q1) (o := 27) (by have dd := q3.out; omega) (.int .i64 1)) (b := q1) (o := 28) (by have dd := q3.out; omega) (.int .i64 1))
   replace hO := Hi (own_store nk.out (own_store nk.out hO.out 27 (.int .i64 1)) 28 (.int .i64 1))
   generalize ((w8.setCell ⟨q1, 27, none⟩ (.int .i64 1)).setCell ⟨q1, 28, none⟩ (.int .i64 1)) = w10 at *
   obtain ⟨q6, q7, q8, q9, qa, qb⟩ := reads3 q4.out
   have qc := q4.out.lt
   go_wp2_with fail
   have qd := Hi (show qe ≠ q1 from by have dd := q5.out; omega)
   have lk := Hi q0.out.lt
   have KK := Hi q0.out
   have W0 := Hi (fun w1 (h : Below w10.heap.size w10 w1) => below_next BB.out h)
   have hB := Hi (own_by (by have h := hO.out; rw [hm.out] at h; exact h))
   have HW := Hi (fun w1 (h : Below w10.heap.size w10 w1) => hW.out A2 cap2 w1 (W0.out w1 h) (BS.below hB.out h))
   rw [← hm.out] at HW
   refine (rdo_save q1 0 0 k 0 none (fun w9 => ∃ g2 cp2 u, AtB w9 q1 (mac ib io icap mp x y z (.slice A2 m cap2) true (.slice (some ⟨g2, 0, none⟩) 1 cp2) 0 1 1) MaT ∧ OutIs g2 u l w9 ∧ q1 < g2) _ lk.out (Hi fun w1 => CR.out _ _ w1) (Hi fun w1 h1 => (rsave_ok q1 k ib io icap mp x y z m cap2 0 A2 none l hl.out w1 (KK.out.keep h1) (Hi fun w2 h2 => HW.out w2 (below_next h1 h2))).mono (by rintro e w9 ⟨g2, cp2, E, n, c, rfl, h8, h9, ho, hv⟩; exact ⟨rfl, h8, g2, cp2, _, h9, ⟨(ho.lt g2 rfl).2, ho.cellAt 0 (by decide), hv⟩, by have a1 := (ho.lt g2 rfl).1; have a2 := lk.out; have a3 := h1.size; omega⟩))).mono ?_
   rintro e w11 ⟨rfl, hb, g2, cp2, u, k_k, hU, hg2⟩
   clear q6 q7 q8 q9 qa qb qc
   replace q2 := Hi (AtB.onl q2.out (by omega) hb)
   clear q0
   have q0 := Hi k_k; clear k_k
   replace q4 := Hi (AtB.onl q4.out qd.out hb)
   replace hO := Hi ((fun h hb => own_onl h nk.out hb) hO.out hb)
   replace BB := Hi (below_onl' BB.out (by omega) hb)
   clear hb
   clear lk KK W0 HW hB
   replace hU := Hi hU
   have nu := Hi (out_apart hU.out hl.out (by omega) q0.out (mach_u8 ib io icap mp x y z A2 (some ⟨g2, 0, none⟩) m cap2 1 cp2 true 0 1 1))
   have f26 := q0.out.fr 26
   have q26 : w11.cell? ⟨q1, 26, none⟩ = some (.int .i64 0) := q0.out.cell 26 rfl
   have lk := q0.out.lt
   go_upto_region 8 with fail
   clear f26 q26 lk
   replace q2 := Hi (q2.out.far (p := q1) (by have dd_k := q3.out; omega) 26 (.int .i64 0))
   replace q0 := Hi (q0.out.sn 26 (.int .i64 0))
   replace q4 := Hi (q4.out.far (p := q1) (by have dd_c := q5.out; have dd_k := q3.out; omega) 26 (.int .i64 0))
   replace BB := Hi (below_set BB.out (b := q1) (o := 26) (by have dd := q3.out; omega) (.int .i64 0))
   replace hO := Hi (own_store nk.out hO.out 26 (.int .i64 0))
   replace hU := Hi (out_set nu.out hU.out 26 (.int .i64 0))
   generalize (w11.setCell ⟨q1, 26, none⟩ (.int .i64 0)) = w12 at *
   have q26 : w12.cell? ⟨q1, 26, none⟩ = some (.int .i64 0) := q0.out.cell 26 rfl
   go_wp2_with fail
   go_roundw
   case rel => exact ⟨⟨BB.out, q2.out, gk⟩, .inr (.inr ⟨rfl, A2, cap2, g2, cp2, u, q0.out, hU.out, nu.out, by omega⟩)⟩
   case measure => simp [RowKit.intOf]
  ·
   obtain ⟨q0, hU, nu, hg2⟩ := H1.out
   replace q0 := Hi q0
   replace hU := Hi hU
   replace nu := Hi nu
   clear H1
   have nr := Hi (out_apart hU.out hl.out (by omega) q2.out (res_u8 none 0 0 0 0 0))
   have f27 := q0.out.fr 27
   have q27 : wr.cell? ⟨q1, 27, none⟩ = some (.int .i64 1) := q0.out.cell 27 rfl
   have f28 := q0.out.fr 28
   have q28 : wr.cell? ⟨q1, 28, none⟩ = some (.int .i64 1) := q0.out.cell 28 rfl
   have lk := q0.out.lt
   go_upto_region 12 with fail
   clear f27 q27 f28 q28 lk
   replace q2 := Hi ((q2.out.far (p := q1) (by have dd_k := q3.out; omega) 27 (.int .i64 2)).far (p := q1) (by have dd_k := q3.out; omega) 28 (.int .i64 2))
   replace q0 := Hi ((q0.out.sn 27 (.int .i64 2)).sn 28 (.int .i64 2))
   replace BB := Hi (below_set (below_set BB.out (b := q1) (o := 27) (by have dd := q3.out; omega) (.int .i64 2)) (b := q1) (o := 28) (by have dd := q3.out; omega) (.int .i64 2))
   replace hU := Hi (out_set nu.out (out_set nu.out hU.out 27 (.int .i64 2)) 28 (.int .i64 2))
   generalize ((wr.setCell ⟨q1, 27, none⟩ (.int .i64 2)).setCell ⟨q1, 28, none⟩ (.int .i64 2)) = w13 at *
   have q25 : w13.cell? ⟨q1, 25, none⟩ = some (.slice (some ⟨g2, 0, none⟩) 1 cp2) := q0.out.cell 25 rfl
   have q26 : w13.cell? ⟨q1, 26, none⟩ = some (.int .i64 0) := q0.out.cell 26 rfl
   have q27 : w13.cell? ⟨q1, 27, none⟩ = some (.int .i64 2) := q0.out.cell 27 rfl
   have q28 : w13.cell? ⟨q1, 28, none⟩ = some (.int .i64 2) := q0.out.cell 28 rfl
   have q29 : w13.cell? ⟨q1, 29, none⟩ = some (.int .i64 0) := q0.out.cell 29 rfl
   have q30 : w13.cell? ⟨q1, 30, none⟩ = some (.int .i64 0) := q0.out.cell 30 rfl
   have q31 : w13.cell? ⟨q1, 31, none⟩ = some (.int .i64 0) := q0.out.cell 31 rfl
   have lk := q0.out.lt
   obtain ⟨qf, qg, qh, qi, qj, qk, ql, qm, qn, qo, qp, qq, qr, qs⟩ := reads7 q2.out
   have qt := q2.out.lt
   go_wp2_with fail
   clear q25 q26 q27 q28 q29 q30 q31 lk
   clear qf qg qh qi qj qk ql qm qn qo qp qq qr qs qt
   replace q2 := Hi (((((((q2.out.sn 0 (.slice (some ⟨g2, 0, none⟩) 1 cp2)).sn 1 (.int .i64 0)).sn 2 (.int .i64 2)).sn 3 (.int .i64 2)).sn 4 (.int .i64 0)).sn 5 (.int .i64 0)).sn 6 (.int .i64 0))
   replace q0 := Hi (((((((q0.out.far (p := w.heap.size) (by have dd_k := q3.out; omega) 0 (.slice (some ⟨g2, 0, none⟩) 1 cp2)).far (p := w.heap.size) (by have dd_k := q3.out; omega) 1 (.int .i64 0)).far (p := w.heap.size) (by have dd_k := q3.out; omega) 2 (.int .i64 2)).far (p := w.heap.size) (by have dd_k := q3.out; omega) 3 (.int .i64 2)).far (p := w.heap.size) (by have dd_k := q3.out; omega) 4 (.int .i64 0)).far (p := w.heap.size) (by have dd_k := q3.out; omega) 5 (.int .i64 0)).far (p := w.heap.size) (by have dd_k := q3.out; omega) 6 (.int .i64 0))
   replace BB := Hi (below_set (below_set (below_set (below_set (below_set (below_set (below_set BB.out (b := w.heap.size) (o := 0) (by omega) (.slice (some ⟨g2, 0, none⟩) 1 cp2)) (b := w.heap.size) (o := 1) (by omega) (.int .i64 0)) (b := w.heap.size) (o := 2) (by omega) (.int .i64 2)) (b := w.heap.size) (o := 3) (by omega) (.int .i64 2)) (b := w.heap.size) (o := 4) (by omega) (.int .i64 0)) (b := w.heap.size) (o := 5) (by omega) (.int .i64 0)) (b := w.heap.size) (o := 6) (by omega) (.int .i64 0))
   replace hU := Hi (out_set nr.out (out_set nr.out (out_set nr.out (out_set nr.out (out_set nr.out (out_set nr.out (out_set nr.out hU.out 0 (.slice (some ⟨g2, 0, none⟩) 1 cp2)) 1 (.int .i64 0)) 2 (.int .i64 2)) 3 (.int .i64 2)) 4 (.int .i64 0)) 5 (.int .i64 0)) 6 (.int .i64 0))
   generalize (((((((w13.setCell ⟨w.heap.size, 0, none⟩ (.slice (some ⟨g2, 0, none⟩) 1 cp2)).setCell ⟨w.heap.size, 1, none⟩ (.int .i64 0)).setCell ⟨w.heap.size, 2, none⟩ (.int .i64 2)).setCell ⟨w.heap.size, 3, none⟩ (.int .i64 2)).setCell ⟨w.heap.size, 4, none⟩ (.int .i64 0)).setCell ⟨w.heap.size, 5, none⟩ (.int .i64 0)).setCell ⟨w.heap.size, 6, none⟩ (.int .i64 0)) = w14 at *
   obtain ⟨qf, qg, qh, qi, qj, qk, ql, qm, qn, qo, qp, qq, qr, qs⟩ := reads7 q2.out
   have qt := q2.out.lt
   go_wp2_with fail
   refine bret (.agg #[.slice (some ⟨g2, 0, none⟩) 1 cp2, .int .i64 0, .int .i64 2, .int .i64 2, .int .i64 0, .int .i64 0, .int .i64 0]) ?_
   exact ⟨g2, cp2, u, rfl, BB.out, hU.out, Nat.le_of_lt hg2⟩
attribute [go_sem] Tryz.results6
theorem rrun_bad (S k : Nat) (hk : k = 1 ∨ k = 2 ∨ k = 3 ∨ k = 4) (ib io icap : Nat) (v : Value) (w : World) (hS : S ≠ 0) (hin : Hid (∀ w1, Below w.heap.size w w1 → w1.cell? ⟨ib, io, none⟩ = some v)) (hR : Hid (∀ w1, Below w.heap.size w w1 → Calls Tryz.prog 116 #[v] w1 (GiveCod (S, 0, 0, 0, []) w1))) :
 Calls Tryz.prog 6 #[.slice (some ⟨ib, io, none⟩) 1 icap, .string ⟨(scr k).toArray⟩] w (GiveRs S 0 w) := by
 replace hS := Hi hS
 have CA := Hi (fun w => cAll k hk w)
 have hs := Hi hk
 clear hk
 generalize (⟨(scr k).toArray⟩ : ByteArray) = s at *
 go_enter Tryz.func6, Tryz.ntmps6
 go_upto_region 1 with fail
 obtain ⟨w0, e, BB, q0⟩ := en1 w #[.slice none 0 0, .int .i64 0, .int .i64 0, .int .i64 0, .int .i64 0, .int .i64 0, .int .i64 0] RsT
 rw [e]; clear e
 go_wp2_with fail
 refine (CA.out _).mono ?_
 rintro e w1 ⟨gl, lcap, AN, nc, rfl, hb, hN, hL⟩
 replace q0 := kp q0 hb
 replace BB := nx BB hb
 clear hb
 clear CA
 obtain ⟨ng, rfl, hlt, hce⟩ := hN.2 rfl
 clear hN
 have CL := Hi (fun wq (h : Below w1.heap.size w1 wq) => show wq.cell? ⟨gl, 0, none⟩ = some (.int .i64 1) ∧ wq.cell? ⟨gl, 1, none⟩ = some (.int .i64 0) ∧ wq.cell? ⟨gl, 2, none⟩ = some (.slice (some ⟨ng, 0, none⟩) 1 nc) ∧ wq.cell? ⟨gl, 3, none⟩ = some (.int .i64 10) ∧ wq.cell? ⟨gl, 4, none⟩ = some (.int .i64 (k : Int)) ∧ wq.cell? ⟨gl, 5, none⟩ = some (.slice none 0 0) from by
  have lt := (hL.lt gl rfl).2
  have hc := fun j hj => hL.cellAt j hj
  exact ⟨(h.cell (p := ⟨gl, 0, none⟩) lt).trans (hc 0 (by decide)), (h.cell (p := ⟨gl, 1, none⟩) lt).trans (hc 1 (by decide)), (h.cell (p := ⟨gl, 2, none⟩) lt).trans (hc 2 (by decide)), (h.cell (p := ⟨gl, 3, none⟩) lt).trans (hc 3 (by decide)), (h.cell (p := ⟨gl, 4, none⟩) lt).trans (hc 4 (by decide)), (h.cell (p := ⟨gl, 5, none⟩) lt).trans (hc 5 (by decide))⟩)
 have NC := Hi (fun wq (h : Below w1.heap.size w1 wq) => (h.cell (p := ⟨ng, 0, none⟩) hlt).trans hce)
 have IC := Hi (fun wq (h : Below w1.heap.size w1 wq) => hin.out wq (below_next BB.out h))
 have RC := Hi (fun wq (h : Below w1.heap.size w1 wq) => hR.out wq (below_next BB.out h))
 have hlc : ¬ lcap = 1 := by
  rcases hL.2 with ⟨e, h0⟩ | ⟨g, cap, cur, e, -, hg, hle, -⟩
  · exact absurd h0 (by decide)
  · cases e; omega
 clear hL hlt hce
 obtain ⟨q1, q2, q3, q4, q5, q6, q7, q8, q9, qa, qb, qc, qd, qe⟩ := reads7 q0.out
 have qf := q0.out.lt
 go_wp2_with fail
 refine (rcmds_bad S k ib io icap gl lcap ng nc v _ hS.out hlc IC CL NC RC).mono ?_
 rintro e w2 ⟨rfl, hb⟩
 clear q1 q2 q3 q4 q5 q6 q7 q8 q9 qa qb qc qd qe qf
 replace q0 := kp q0 hb
 replace BB := nx BB hb
 clear hb
 clear IC CL NC RC
 obtain ⟨q1, q2, q3, q4, q5, q6, q7, q8, q9, qa, qb, qc, qd, qe⟩ := reads7 q0.out
 have qf := q0.out.lt
 go_wp2_with fail
 clear q1 q2 q3 q4 q5 q6 q7 q8 q9 qa qb qc qd qe qf
 have F := st7 q0 BB 0 (.slice none 0 0) 1 (.int .i64 ↑S) 2 (.int .i64 0) 3 (.int .i64 0) 4 (.int .i64 0) 5 (.int .i64 0) 6 (.int .i64 0)
 clear q0 BB
 obtain ⟨w3, e, q0, BB, F⟩ := F
 rw [e]; clear e
 clear F
 obtain ⟨q1, q2, q3, q4, q5, q6, q7, q8, q9, qa, qb, qc, qd, qe⟩ := reads7 q0.out
 have qf := q0.out.lt
 go_wp2_with fail
 refine bret (.agg #[.slice none 0 0, .int .i64 ↑S, .int .i64 0, .int .i64 0, .int .i64 0, .int .i64 0, .int .i64 0]) ?_
 exact ⟨rfl, BB.out⟩
theorem rrun_arg (k : Nat) (hk : k = 1 ∨ k = 2 ∨ k = 3 ∨ k = 4) (ib io icap x y z m : Nat) (p : List UInt8) (hm : Hid (m = p.length)) (v : Value) (w : World) (hin : Hid (∀ w1, Below w.heap.size w w1 → w1.cell? ⟨ib, io, none⟩ = some v)) (hR : Hid (∀ w1, Below w.heap.size w w1 → Calls Tryz.prog 116 #[v] w1 (GiveCod (0, x, y, z, p) w1)))
 (hW : Hid (∀ A2 cap2 w1, Below w.heap.size w w1 → BY w1 (.slice A2 p.length cap2) p → Calls Tryz.prog 123 #[.int .i64 (k : Int), imv x y z (.slice A2 p.length cap2)] w1 (GiveArg w1))) :
 Calls Tryz.prog 6 #[.slice (some ⟨ib, io, none⟩) 1 icap, .string ⟨(scr k).toArray⟩] w (GiveRs 10 1 w) := by
 have CA := Hi (fun w => cAll k hk w)
 have hs := Hi hk
 clear hk
 generalize (⟨(scr k).toArray⟩ : ByteArray) = s at *
 go_enter Tryz.func6, Tryz.ntmps6
 go_upto_region 1 with fail
 obtain ⟨w0, e, BB, q0⟩ := en1 w #[.slice none 0 0, .int .i64 0, .int .i64 0, .int .i64 0, .int .i64 0, .int .i64 0, .int .i64 0] RsT
 rw [e]; clear e
 go_wp2_with fail
 refine (CA.out _).mono ?_
 rintro e w1 ⟨gl, lcap, AN, nc, rfl, hb, hN, hL⟩
 replace q0 := kp q0 hb
 replace BB := nx BB hb
 clear hb
 clear CA
 obtain ⟨ng, rfl, hlt, hce⟩ := hN.2 rfl
 clear hN
 have CL := Hi (fun wq (h : Below w1.heap.size w1 wq) => show wq.cell? ⟨gl, 0, none⟩ = some (.int .i64 1) ∧ wq.cell? ⟨gl, 1, none⟩ = some (.int .i64 0) ∧ wq.cell? ⟨gl, 2, none⟩ = some (.slice (some ⟨ng, 0, none⟩) 1 nc) ∧ wq.cell? ⟨gl, 3, none⟩ = some (.int .i64 10) ∧ wq.cell? ⟨gl, 4, none⟩ = some (.int .i64 (k : Int)) ∧ wq.cell? ⟨gl, 5, none⟩ = some (.slice none 0 0) from by
  have lt := (hL.lt gl rfl).2
  have hc := fun j hj => hL.cellAt j hj
  exact ⟨(h.cell (p := ⟨gl, 0, none⟩) lt).trans (hc 0 (by decide)), (h.cell (p := ⟨gl, 1, none⟩) lt).trans (hc 1 (by decide)), (h.cell (p := ⟨gl, 2, none⟩) lt).trans (hc 2 (by decide)), (h.cell (p := ⟨gl, 3, none⟩) lt).trans (hc 3 (by decide)), (h.cell (p := ⟨gl, 4, none⟩) lt).trans (hc 4 (by decide)), (h.cell (p := ⟨gl, 5, none⟩) lt).trans (hc 5 (by decide))⟩)
 have NC := Hi (fun wq (h : Below w1.heap.size w1 wq) => (h.cell (p := ⟨ng, 0, none⟩) hlt).trans hce)
 have IC := Hi (fun wq (h : Below w1.heap.size w1 wq) => hin.out wq (below_next BB.out h))
 have RC := Hi (fun wq (h : Below w1.heap.size w1 wq) => hR.out wq (below_next BB.out h))
 have hlc : ¬ lcap = 1 := by
  rcases hL.2 with ⟨e, h0⟩ | ⟨g, cap, cur, e, -, hg, hle, -⟩
  · exact absurd h0 (by decide)
  · cases e; omega
 clear hL hlt hce
 obtain ⟨q1, q2, q3, q4, q5, q6, q7, q8, q9, qa, qb, qc, qd, qe⟩ := reads7 q0.out
 have qf := q0.out.lt
 go_wp2_with fail
 have WC := Hi (fun A2 cap2 wq (h : Below w1.heap.size w1 wq) hb => hW.out A2 cap2 wq (below_next BB.out h) hb)
 refine (rcmds_arg k hs.out ib io icap gl lcap ng nc x y z m p hm v _ hlc IC CL NC RC WC).mono ?_
 rintro e w2 ⟨rfl, hb⟩
 clear q1 q2 q3 q4 q5 q6 q7 q8 q9 qa qb qc qd qe qf
 replace q0 := kp q0 hb
 replace BB := nx BB hb
 clear hb
 clear IC CL NC RC WC
 obtain ⟨q1, q2, q3, q4, q5, q6, q7, q8, q9, qa, qb, qc, qd, qe⟩ := reads7 q0.out
 have qf := q0.out.lt
 go_wp2_with fail
 clear q1 q2 q3 q4 q5 q6 q7 q8 q9 qa qb qc qd qe qf
 have F := st7 q0 BB 0 (.slice none 0 0) 1 (.int .i64 10) 2 (.int .i64 1) 3 (.int .i64 1) 4 (.int .i64 0) 5 (.int .i64 0) 6 (.int .i64 0)
 clear q0 BB
 obtain ⟨w3, e, q0, BB, F⟩ := F
 rw [e]; clear e
 clear F
 obtain ⟨q1, q2, q3, q4, q5, q6, q7, q8, q9, qa, qb, qc, qd, qe⟩ := reads7 q0.out
 have qf := q0.out.lt
 go_wp2_with fail
 refine bret (.agg #[.slice none 0 0, .int .i64 10, .int .i64 1, .int .i64 1, .int .i64 0, .int .i64 0, .int .i64 0]) ?_
 exact ⟨rfl, BB.out⟩
theorem rrun_ok (k : Nat) (hk : k = 1 ∨ k = 2 ∨ k = 3 ∨ k = 4) (ib io icap x y z m : Nat) (p : List UInt8) (hm : Hid (m = p.length)) (v : Value) (w : World) (hin : Hid (∀ w1, Below w.heap.size w w1 → w1.cell? ⟨ib, io, none⟩ = some v)) (hR : Hid (∀ w1, Below w.heap.size w w1 → Calls Tryz.prog 116 #[v] w1 (GiveCod (0, x, y, z, p) w1)))
 (l : List UInt8) (hl : l.getD 0 0 ≠ 0) (hW : Hid (∀ A2 cap2 w1, Below w.heap.size w w1 → BY w1 (.slice A2 p.length cap2) p → Calls Tryz.prog 123 #[.int .i64 (k : Int), imv x y z (.slice A2 p.length cap2)] w1 (GiveWr l w1))) :
 Calls Tryz.prog 6 #[.slice (some ⟨ib, io, none⟩) 1 icap, .string ⟨(scr k).toArray⟩] w (GiveRo l w) := by
 replace hl := Hi hl
 have CA := Hi (fun w => cAll k hk w)
 have hs := Hi hk
 clear hk
 generalize (⟨(scr k).toArray⟩ : ByteArray) = s at *
 go_enter Tryz.func6, Tryz.ntmps6
 go_upto_region 1 with fail
 obtain ⟨w0, e, BB, q0⟩ := en1 w #[.slice none 0 0, .int .i64 0, .int .i64 0, .int .i64 0, .int .i64 0, .int .i64 0, .int .i64 0] RsT
 rw [e]; clear e
 go_wp2_with fail
 refine (CA.out _).mono ?_
 rintro e w1 ⟨gl, lcap, AN, nc, rfl, hb, hN, hL⟩
 replace q0 := kp q0 hb
 replace BB := nx BB hb
 clear hb
 clear CA
 obtain ⟨ng, rfl, hlt, hce⟩ := hN.2 rfl
 clear hN
 have CL := Hi (fun wq (h : Below w1.heap.size w1 wq) => show wq.cell? ⟨gl, 0, none⟩ = some (.int .i64 1) ∧ wq.cell? ⟨gl, 1, none⟩ = some (.int .i64 0) ∧ wq.cell? ⟨gl, 2, none⟩ = some (.slice (some ⟨ng, 0, none⟩) 1 nc) ∧ wq.cell? ⟨gl, 3, none⟩ = some (.int .i64 10) ∧ wq.cell? ⟨gl, 4, none⟩ = some (.int .i64 (k : Int)) ∧ wq.cell? ⟨gl, 5, none⟩ = some (.slice none 0 0) from by
  have lt := (hL.lt gl rfl).2
  have hc := fun j hj => hL.cellAt j hj
  exact ⟨(h.cell (p := ⟨gl, 0, none⟩) lt).trans (hc 0 (by decide)), (h.cell (p := ⟨gl, 1, none⟩) lt).trans (hc 1 (by decide)), (h.cell (p := ⟨gl, 2, none⟩) lt).trans (hc 2 (by decide)), (h.cell (p := ⟨gl, 3, none⟩) lt).trans (hc 3 (by decide)), (h.cell (p := ⟨gl, 4, none⟩) lt).trans (hc 4 (by decide)), (h.cell (p := ⟨gl, 5, none⟩) lt).trans (hc 5 (by decide))⟩)
 have NC := Hi (fun wq (h : Below w1.heap.size w1 wq) => (h.cell (p := ⟨ng, 0, none⟩) hlt).trans hce)
 have IC := Hi (fun wq (h : Below w1.heap.size w1 wq) => hin.out wq (below_next BB.out h))
 have RC := Hi (fun wq (h : Below w1.heap.size w1 wq) => hR.out wq (below_next BB.out h))
 have hlc : ¬ lcap = 1 := by
  rcases hL.2 with ⟨e, h0⟩ | ⟨g, cap, cur, e, -, hg, hle, -⟩
  · exact absurd h0 (by decide)
  · cases e; omega
 clear hL hlt hce
 obtain ⟨q1, q2, q3, q4, q5, q6, q7, q8, q9, qa, qb, qc, qd, qe⟩ := reads7 q0.out
 have qf := q0.out.lt
 go_wp2_with fail
 have WC := Hi (fun A2 cap2 wq (h : Below w1.heap.size w1 wq) hb => hW.out A2 cap2 wq (below_next BB.out h) hb)
 have hsz := Hi (show w.heap.size < w1.heap.size from q0.out.lt)
 refine (rcmds_ok k hs.out ib io icap gl lcap ng nc x y z m p hm v _ hlc IC CL NC RC l hl.out WC).mono ?_
 rintro e w2 ⟨g2, cp2, u, rfl, hb, hU, hg2⟩
 clear q1 q2 q3 q4 q5 q6 q7 q8 q9 qa qb qc qd qe qf
 replace q0 := kp q0 hb
 replace BB := nx BB hb
 clear hb
 clear IC CL NC RC WC
 replace hU := Hi hU
 have hg := Hi (show w.heap.size < g2 from Nat.lt_of_lt_of_le hsz.out hg2)
 clear hg2 hsz
 have nr := Hi (out_apart hU.out hl.out (Nat.ne_of_gt hg.out) q0.out (res_u8 none 0 0 0 0 0))
 obtain ⟨q1, q2, q3, q4, q5, q6, q7, q8, q9, qa, qb, qc, qd, qe⟩ := reads7 q0.out
 have qf := q0.out.lt
 go_wp2_with fail
 clear q1 q2 q3 q4 q5 q6 q7 q8 q9 qa qb qc qd qe qf
 replace q0 := Hi (((((((q0.out.sn 0 (.slice (some ⟨g2, 0, none⟩) 1 cp2)).sn 1 (.int .i64 0)).sn 2 (.int .i64 2)).sn 3 (.int .i64 2)).sn 4 (.int .i64 0)).sn 5 (.int .i64 0)).sn 6 (.int .i64 0))
 replace BB := Hi (below_set (below_set (below_set (below_set (below_set (below_set (below_set BB.out (b := w.heap.size) (o := 0) (by omega) (.slice (some ⟨g2, 0, none⟩) 1 cp2)) (b := w.heap.size) (o := 1) (by omega) (.int .i64 0)) (b := w.heap.size) (o := 2) (by omega) (.int .i64 2)) (b := w.heap.size) (o := 3) (by omega) (.int .i64 2)) (b := w.heap.size) (o := 4) (by omega) (.int .i64 0)) (b := w.heap.size) (o := 5) (by omega) (.int .i64 0)) (b := w.heap.size) (o := 6) (by omega) (.int .i64 0))
 replace hU := Hi (out_set nr.out (out_set nr.out (out_set nr.out (out_set nr.out (out_set nr.out (out_set nr.out (out_set nr.out hU.out 0 (.slice (some ⟨g2, 0, none⟩) 1 cp2)) 1 (.int .i64 0)) 2 (.int .i64 2)) 3 (.int .i64 2)) 4 (.int .i64 0)) 5 (.int .i64 0)) 6 (.int .i64 0))
 generalize (((((((w2.setCell ⟨w.heap.size, 0, none⟩ (.slice (some ⟨g2, 0, none⟩) 1 cp2)).setCell ⟨w.heap.size, 1, none⟩ (.int .i64 0)).setCell ⟨w.heap.size, 2, none⟩ (.int .i64 2)).setCell ⟨w.heap.size, 3, none⟩ (.int .i64 2)).setCell ⟨w.heap.size, 4, none⟩ (.int .i64 0)).setCell ⟨w.heap.size, 5, none⟩ (.int .i64 0)).setCell ⟨w.heap.size, 6, none⟩ (.int .i64 0)) = w3 at *
 obtain ⟨q1, q2, q3, q4, q5, q6, q7, q8, q9, qa, qb, qc, qd, qe⟩ := reads7 q0.out
 have qf := q0.out.lt
 go_wp2_with fail
 refine bret (.agg #[.slice (some ⟨g2, 0, none⟩) 1 cp2, .int .i64 0, .int .i64 2, .int .i64 2, .int .i64 0, .int .i64 0, .int .i64 0]) ?_
 exact ⟨g2, cp2, u, rfl, BB.out, hU.out, Nat.le_of_lt hg.out⟩
/-- run.Run at bytes and the script of a kind. -/
def GiveRun (R : Nat × Nat × Nat × Nat × List UInt8) (k : Nat) (w : World) : Ending → World → Prop :=
 if R.1 ≠ 0 then GiveRs R.1 0 w else if R.2.2.2.1 ≠ kindC k then GiveRs 10 1 w else GiveRo (imgW k R.2.1 R.2.2.1 R.2.2.2.1 R.2.2.2.2) w
theorem imgR_zero {l : List UInt8} {S x y z : Nat} {p : List UInt8} (h : imgR l = (S, x, y, z, p)) (hS : S ≠ 0) : x = 0 ∧ y = 0 ∧ z = 0 ∧ p = [] := by
 unfold imgR at h
 split at h
 · simp at h; exact ⟨h.2.1.symm, h.2.2.1.symm, h.2.2.2.1.symm, h.2.2.2.2⟩
 split at h
 · exact pnmR_zero h hS
 split at h
 · exact bmpR_zero h hS
 · simp at h; exact ⟨h.2.1.symm, h.2.2.1.symm, h.2.2.2.1.symm, h.2.2.2.2⟩
theorem rrun (k : Nat) (hk : k = 1 ∨ k = 2 ∨ k = 3 ∨ k = 4) (g0 icap : Nat) (v : Value) (l : List UInt8) (hl : l.length ≤ 1000000) (w : World) (h : OutIs g0 v l w) (hs : ∀ W H C p, imgR l = (0, W, H, C, p) → p.length ≤ 1000000) (ht : Tab w) :
 Calls Tryz.prog 6 #[.slice (some ⟨g0, 0, none⟩) 1 icap, .string ⟨(scr k).toArray⟩] w (GiveRun (imgR l) k w) := by
 have hin := Hi (fun w1 (hb : Below w.heap.size w w1) => (h.below hb).2.1)
 have hR := fun w1 (hb : Below w.heap.size w w1) => cread v l hl w1 (h.below hb).2.2
 have hk2 : 1 ≤ k ∧ k ≤ 4 := by omega
 have hI := fun W H C p => imgR_img (b := l) (W := W) (H := H) (C := C) (p := p)
 have hZ := fun S x y z p => imgR_zero (l := l) (S := S) (x := x) (y := y) (z := z) (p := p)
 generalize imgR l = R at *
 obtain ⟨S, x, y, z, p⟩ := R
 unfold GiveRun
 by_cases hS : S = 0
 · subst hS
   obtain ⟨hi, -⟩ := hI x y z p rfl
   have hp := hs x y z p rfl
   rw [if_neg (by simp)]
   by_cases hc : z = kindC k
   · rw [if_neg (by simpa using hc)]
     exact rrun_ok k hk g0 0 icap x y z p.length p rfl v w hin hR _ (imgW_head k x y z p) (Hi fun A2 cap2 w1 hb hv => cwrite k x y z p hi hk2 hc hp _ w1 hv (tab_on ht hb))
   · rw [if_pos hc]
     exact rrun_arg k hk g0 0 icap x y z p.length p rfl v w hin hR (Hi fun A2 cap2 w1 hb hv => cwrite_no k x y z p hi hk2 hc _ w1 hv)
 · rw [if_pos hS]
   obtain ⟨rfl, rfl, rfl, rfl⟩ := hZ S x y z p rfl hS
   exact rrun_bad S k hk g0 0 icap v w hS hin hR
end Go.Proofs.YtikpobembcgbfaaGreatDoor
