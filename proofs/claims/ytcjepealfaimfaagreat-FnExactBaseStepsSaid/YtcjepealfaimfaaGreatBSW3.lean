/- That they compute it. No condition. -/
import Derived.Test.YtcjepealfaimfaaGreatBSW2
namespace Go.TI
set_option maxRecDepth 100000
open Go Go.Proofs
set_option linter.unusedVariables false
set_option linter.unusedSimpArgs false

def i_TxPages_H1 (xSeq : Int) (xTx : Int) (xRecs : List Rec) (z1 : List ByteArray) (z2 : Int) : St := mkSt [(0, (I xSeq)), (1, (I xTx)), (8, (.one (.sl true 9 1 (encs c9 z1)))), (19, (.one (.sl false 83 4 (encs c83 xRecs)))), (20, (I (ln xRecs))), (21, (I z2))] []
def i_TxPages_H2 (xSeq : Int) (xTx : Int) (z3 : List ByteArray) : St := mkSt [(0, (I xSeq)), (1, (I xTx)), (8, (.one (.sl true 9 1 (encs c9 z3))))] []
def i_TxPages_H3 (xSeq : Int) (xTx : Int) (xRecs : List Rec) (y1 : Int) (v1 : ByteArray × Bool) (z4 : List ByteArray) (z5 : Int) : St := mkSt [(0, (I xSeq)), (1, (I xTx)), (8, (.one (.sl true 9 1 (encs c9 z4)))), (11, (Y v1.1)), (13, (I z5)), (19, (.one (.sl false 83 4 (encs c83 xRecs)))), (20, (I (ln xRecs))), (21, (I y1))] []
def i_TxPages_H4 (xSeq : Int) (xTx : Int) (v2 : List ByteArray) (z6 : Bool) : St := mkSt [(0, (I xSeq)), (1, (I xTx)), (8, (.one (.sl true 9 1 (encs c9 v2)))), (14, (I (ln v2))), (73, (B z6))] []
def i_TxPages_H5 (xSeq : Int) (xTx : Int) (v2 : List ByteArray) (z7 : List Page) (z8 : Int) : St := mkSt [(0, (I xSeq)), (1, (I xTx)), (8, (.one (.sl true 9 1 (encs c9 v2)))), (14, (I (ln v2))), (15, (.one (.sl true 85 6 (encs c85 z7)))), (74, (.one (.view (.slot 8) 0 [] 0))), (75, (I (ln v2))), (76, (I z8))] []
def i_TxPages_H6 (z9 : List Page) : St := mkSt [(15, (.one (.sl true 85 6 (encs c85 z9))))] []
theorem i_TxPages_t (xSeq : Int) (xTx : Int) (xRecs : List Rec) (r : List Page × Bool) (h : i_TxPages xSeq xTx xRecs = some r) : Gives Tryz.prog 46 [.sv (I xSeq), .sv (I xTx), .sv (.one (.sl false 83 4 (encs c83 xRecs)))] (.tup [(.one (.sl true 85 6 (encs c85 r.1))), (B r.2)]) (List.replicate 3 .gone) := by
 unfold i_TxPages at h
 refine gives_of Tryz.func46 rfl ?_
 rw [Tryz.ntmps46]
 refine Wp.seq (Wp.region ?_)
 refine LWp.o 6 (.one (.sl true 85 6 (encs c85 []))) ?_
 refine LWp.o 7 (B false) ?_
 refine LWp.nil ?_
 refine Wp.seq (Wp.region ?_)
 refine LWp.m false [] 18 (.one (.sl true 9 1 (encs c9 [(bs [])]))) ?_
 refine LWp.m true [(.slot 18, [.junk])] 8 (.one (.sl true 9 1 (encs c9 [(bs [])]))) ?_
 refine LWp.nil ?_
 refine Wp.seq ?_
 refine Wp.seq (Wp.region ?_)
 refine LWp.o 19 (.one (.sl false 83 4 (encs c83 xRecs))) ?_
 refine LWp.o 20 (I (ln xRecs)) ?_ (st_pure (p_ln k83 xRecs))
 refine LWp.o 21 (I 0) ?_
 refine LWp.nil ?_
 refine Wp.l2 h [0, 1, 8, 19, 20, 21] [] (fun s => (i_TxPages_H1 xSeq xTx xRecs s.1 s.2)) [0, 1, 8] [] (fun s => (i_TxPages_H2 xSeq xTx s)) ⟨rfl, rfl⟩ ?_ ?_
 · rintro ⟨yTexts1, y1⟩ o (h : i_TxPages_b1 xRecs yTexts1 y1 = some o) hk1
   unfold i_TxPages_b1 at h
   change Wp _ _ _ (i_TxPages_H1 xSeq xTx xRecs yTexts1 y1) _
   refine Wp.seq (Wp.region ?_)
   refine LWp.o 22 (B (decide (y1 < (ln xRecs)))) ?_
   refine LWp.nil ?_
   refine Wp.seq ?_
   refine Wp.c h (fun h => ?_) (fun h => ?_)
   · refine Wp.skip ?_
     refine Wp.seq ?_
     refine Wp.block ?_
     refine Wp.seq (Wp.region ?_)
     refine LWp.p h 23 (fun _ => (.one (.ptr (.slot 19) 0 [0] (Int.toNat y1 * 4 + 0)))) ?_ (fun x1 gx1 => st_pure (p_ix k83 (.slot 19) [] 0 gx1))
     intro x1 gx1 h
     refine LWp.o 24 (.agg [.int .i64 x1.Kind, .int .i64 x1.Vol, .int .i64 x1.Arg, .int .i64 x1.Chunk]) ?_ (st_pure (p_le k83 (.slot 19) [0] gx1))
     refine LWp.b [] 10 [.int .i64 0, .int .i64 0, .int .i64 0, .int .i64 0] ?_
     refine LWp.s [] (.box 10) [.int .i64 x1.Kind, .int .i64 x1.Vol, .int .i64 x1.Arg, .int .i64 x1.Chunk] ?_
     refine LWp.nil ?_
     refine Wp.seq (Wp.region ?_)
     refine LWp.o 26 (.agg [.int .i64 x1.Kind, .int .i64 x1.Vol, .int .i64 x1.Arg, .int .i64 x1.Chunk]) ?_
     refine LWp.cl h 27 (fun v1 => (.tup [(Y v1.1), (B v1.2)])) rfl (l := [.sv (.agg [.int .i64 x1.Kind, .int .i64 x1.Vol, .int .i64 x1.Arg, .int .i64 x1.Chunk])]) rfl (fun v hv => i_RecText_t x1 v hv) (.inl rfl) ?_
     intro v1 gv1 h
     refine LWp.mt 27 25 (.tup [(Y v1.1), (B v1.2)]) ?_
     refine LWp.e 25 0 28 (Y v1.1) ?_
     refine LWp.e 25 1 29 (B v1.2) ?_
     refine LWp.o 11 (Y v1.1) ?_
     refine LWp.o 12 (B v1.2) ?_
     refine LWp.nil ?_
     refine Wp.seq ?_
     refine Wp.seq (Wp.region ?_)
     refine LWp.o 30 (B v1.2) ?_
     refine LWp.o 31 (B (!v1.2)) ?_
     refine LWp.nil ?_
     refine Wp.c h (fun h => ?_) (fun h => ?_)
     · refine Wp.seq (Wp.region ?_)
       refine LWp.o 6 (.one (.sl true 85 6 (encs c85 []))) ?_
       refine LWp.o 7 (B false) ?_
       refine LWp.nil ?_
       cases h
       replace h : some _ = some _ := hk1 _ rfl
       cases h
       exact Wp.ret ⟨.inr rfl, _, _, rfl, rfl⟩
     refine Wp.skip ?_
     refine Wp.seq (Wp.region ?_)
     refine LWp.o 32 (.one (.view (.slot 8) 0 [] 0)) ?_
     refine LWp.o 33 (I (ln yTexts1)) ?_ (st_pure (p_ln k9 yTexts1))
     refine LWp.o 34 (I (sb (ln yTexts1) 1)) ?_
     refine LWp.o 13 (I (sb (ln yTexts1) 1)) ?_
     refine LWp.nil ?_
     refine Wp.seq ?_
     refine Wp.seq (Wp.region ?_)
     refine LWp.o 35 (.one (.view (.slot 8) 0 [] 0)) ?_
     refine LWp.o 36 (I (sb (ln yTexts1) 1)) ?_
     refine LWp.p h 37 (fun _ => (.one (.ptr (.slot 8) 0 [0] (Int.toNat (sb (ln yTexts1) 1) * 1 + 0)))) ?_ (fun x2 gx2 => st_pure (p_ix k9 (.slot 8) [] 0 gx2))
     intro x2 gx2 h
     refine LWp.o 38 (Y x2) ?_ (st_pure (p_lc k9 (.slot 8) [0] 0 (.str x2) gx2))
     refine LWp.o 39 (I (sln x2)) ?_
     refine LWp.o 40 (Y v1.1) ?_
     refine LWp.o 41 (I (sln v1.1)) ?_
     refine LWp.o 42 (I (ad (sln x2) (sln v1.1))) ?_
     refine LWp.o 43 (B (decide ((ad (sln x2) (sln v1.1)) > 90))) ?_
     refine LWp.nil ?_
     refine Wp.j1 h [0, 1, 8, 11, 13, 19, 20, 21] [] (fun a => (i_TxPages_H3 xSeq xTx xRecs y1 v1 a.1 a.2)) ?_ ?_
     · intro a h
       refine Wp.c h (fun h => ?_) (fun h => ?_)
       · refine Wp.seq (Wp.region ?_)
         refine LWp.o 44 (.one (.view (.slot 8) 0 [] 0)) ?_
         refine LWp.m false [] 45 (.one (.sl true 9 1 (encs c9 [(bs [])]))) ?_
         refine LWp.pm h [(.slot 8, [.junk])] 46 (fun q1 => (.one (.sl true 9 1 (encs c9 q1)))) ?_ (fun q1 gq1 => s_apl k9 (fun _ => rfl) [(.slot 8, [.junk])] yTexts1 gq1)
         intro q1 gq1 h
         refine LWp.m true [(.slot 46, [.junk])] 8 (.one (.sl true 9 1 (encs c9 q1))) ?_
         refine LWp.nil ?_
         refine Wp.region ?_
         refine LWp.o 47 (I (sb (ln yTexts1) 1)) ?_
         refine LWp.o 48 (I (ad (sb (ln yTexts1) 1) 1)) ?_
         refine LWp.o 13 (I (ad (sb (ln yTexts1) 1) 1)) ?_
         refine LWp.nil ?_
         cases h
         exact ⟨_, rfl, rfl, rfl⟩
       refine Wp.skip ?_
       cases h
       exact ⟨_, rfl, rfl, rfl⟩
     intro j1 h E hE
     refine nt_wp hE ?_
     change Wp _ _ _ (i_TxPages_H3 xSeq xTx xRecs y1 v1 j1.1 j1.2) _
     refine Wp.region ?_
     refine LWp.o 49 (.one (.view (.slot 8) 0 [] 0)) ?_
     refine LWp.o 50 (I j1.2) ?_
     refine LWp.p h 51 (fun _ => (.one (.ptr (.slot 8) 0 [0] (Int.toNat j1.2 * 1 + 0)))) ?_ (fun x3 gx3 => st_pure (p_ix k9 (.slot 8) [] 0 gx3))
     intro x3 gx3 h
     refine LWp.o 52 (Y x3) ?_ (st_pure (p_lc k9 (.slot 8) [0] 0 (.str x3) gx3))
     refine LWp.o 53 (Y v1.1) ?_
     refine LWp.p h 54 (fun x4 => (Y x4)) ?_ (fun x4 gx4 => st_pure (p_cat gx4))
     intro x4 gx4 h
     refine LWp.p h 55 (fun _ => (.one (.ptr (.slot 8) 0 [0] (Int.toNat j1.2 * 1 + 0)))) ?_ (fun x5 gx5 => st_pure (p_ix k9 (.slot 8) [] 0 gx5))
     intro x5 gx5 h
     refine LWp.sb [] (.slot 8) [.sl true 9 1 (encs c9 (si j1.1 j1.2 x4))] ?_ (s_st [] (q := [0]) (cs := [.sl true 9 1 (encs c9 j1.1)]) (xs := [.str x4]) (At.one (setRow_gi k9 (k := 0) (z := x4) gx5 rfl rfl)) (fit_gi k9 (k := 0) gx5 rfl))
     refine LWp.nil ?_
     refine Wp.region ?_
     refine LWp.o 56 (I (ad y1 1)) ?_
     refine LWp.o 21 (I (ad y1 1)) ?_
     refine LWp.nil ?_
     cases h
     exact ⟨_, rfl, rfl, rfl⟩
   refine Wp.exit ?_
   cases h
   exact ⟨_, rfl, rfl, rfl⟩
 intro v2 h E hE
 refine nt_wp hE ?_
 change Wp _ _ _ (i_TxPages_H2 xSeq xTx v2) _
 refine Wp.seq (Wp.region ?_)
 refine LWp.o 57 (.one (.view (.slot 8) 0 [] 0)) ?_
 refine LWp.o 58 (I (ln v2)) ?_ (st_pure (p_ln k9 v2))
 refine LWp.o 14 (I (ln v2)) ?_
 refine LWp.nil ?_
 refine Wp.seq ?_
 refine Wp.seq ?_
 refine Wp.j1 h [0, 1, 8, 14, 73] [] (fun a => (i_TxPages_H4 xSeq xTx v2 a)) ?_ ?_
 · intro a h
   refine Wp.region ?_
   refine LWp.o 59 (I (ln v2)) ?_
   refine LWp.o 60 (B (decide ((ln v2) > 9))) ?_
   refine LWp.o 61 (B (decide ((ln v2) > 9))) ?_
   refine LWp.sp h 61 (fun h => ?_) (fun h => ?_)
   · refine LWp.sh 62 ?_
     refine LWp.sh 63 ?_
     refine LWp.sh 64 ?_
     refine LWp.sh 65 ?_
     refine LWp.sh 66 ?_
     refine LWp.sh 67 ?_
     refine LWp.o 68 (B true) ?_
     refine LWp.o 69 (B true) ?_
     refine LWp.sh 70 ?_
     refine LWp.sh 71 ?_
     refine LWp.sh 72 ?_
     refine LWp.o 73 (B true) ?_
     refine LWp.nil ?_
     cases h
     exact ⟨_, rfl, rfl, rfl⟩
   refine LWp.o 62 (I xSeq) ?_
   refine LWp.o 63 (I (ln v2)) ?_
   refine LWp.o 64 (I (sb 1000000000 (ln v2))) ?_
   refine LWp.o 65 (I (ad (sb 1000000000 (ln v2)) 1)) ?_
   refine LWp.cl h 66 (fun v3 => (B v3)) rfl (l := [.sv (.one (.int .i64 xSeq)), .sv (.one (.int .i64 1)), .sv (.one (.int .i64 (ad (sb 1000000000 (ln v2)) 1)))]) rfl (fun v hv => i_in_t xSeq 1 (ad (sb 1000000000 (ln v2)) 1) v hv) (.inl rfl) ?_
   intro v3 gv3 h
   refine LWp.o 67 (B (!v3)) ?_
   refine LWp.o 68 (B (!v3)) ?_
   refine LWp.o 69 (B (!v3)) ?_
   refine LWp.sp h 69 (fun h => ?_) (fun h => ?_)
   · refine LWp.sh 70 ?_
     refine LWp.sh 71 ?_
     refine LWp.sh 72 ?_
     refine LWp.o 73 (B true) ?_
     refine LWp.nil ?_
     cases h
     exact ⟨_, rfl, rfl, rfl⟩
   refine LWp.o 70 (I xTx) ?_
   refine LWp.cl h 71 (fun v4 => (B v4)) rfl (l := [.sv (.one (.int .i64 xTx)), .sv (.one (.int .i64 1)), .sv (.one (.int .i64 1000000000))]) rfl (fun v hv => i_in_t xTx 1 1000000000 v hv) (.inl rfl) ?_
   intro v4 gv4 h
   refine LWp.o 72 (B (!v4)) ?_
   refine LWp.o 73 (B (!v4)) ?_
   refine LWp.nil ?_
   cases h
   exact ⟨_, rfl, rfl, rfl⟩
 intro j2 h E hE
 refine nt_wp hE ?_
 change Wp _ _ _ (i_TxPages_H4 xSeq xTx v2 j2) _
 refine Wp.c h (fun h => ?_) (fun h => ?_)
 · refine Wp.seq (Wp.region ?_)
   refine LWp.o 6 (.one (.sl true 85 6 (encs c85 []))) ?_
   refine LWp.o 7 (B false) ?_
   refine LWp.nil ?_
   cases h
   exact Wp.ret ⟨.inr rfl, _, _, rfl, rfl⟩
 refine Wp.skip ?_
 refine Wp.seq (Wp.region ?_)
 refine LWp.o 15 (.one (.sl true 85 6 (encs c85 []))) ?_
 refine LWp.nil ?_
 refine Wp.seq ?_
 refine Wp.seq (Wp.region ?_)
 refine LWp.o 74 (.one (.view (.slot 8) 0 [] 0)) ?_
 refine LWp.o 75 (I (ln v2)) ?_ (st_pure (p_ln k9 v2))
 refine LWp.o 76 (I 0) ?_
 refine LWp.nil ?_
 refine Wp.l1 h [0, 1, 8, 14, 15, 74, 75, 76] [] (fun s => (i_TxPages_H5 xSeq xTx v2 s.1 s.2)) [15] [] (fun s => (i_TxPages_H6 s)) ⟨rfl, rfl⟩ ?_ ?_
 · rintro ⟨yOut1, y2⟩ o (h : i_TxPages_b2 xSeq xTx v2 yOut1 y2 = some o)
   unfold i_TxPages_b2 at h
   change Wp _ _ _ (i_TxPages_H5 xSeq xTx v2 yOut1 y2) _
   refine Wp.seq (Wp.region ?_)
   refine LWp.o 77 (B (decide (y2 < (ln v2)))) ?_
   refine LWp.nil ?_
   refine Wp.seq ?_
   refine Wp.c h (fun h => ?_) (fun h => ?_)
   · refine Wp.skip ?_
     refine Wp.seq ?_
     refine Wp.block ?_
     refine Wp.seq (Wp.region ?_)
     refine LWp.o 78 (I y2) ?_
     refine LWp.p h 79 (fun _ => (.one (.ptr (.slot 8) 0 [0] (Int.toNat y2 * 1 + 0)))) ?_ (fun x6 gx6 => st_pure (p_ix k9 (.slot 8) [] 0 gx6))
     intro x6 gx6 h
     refine LWp.o 80 (Y x6) ?_ (st_pure (p_lc k9 (.slot 8) [0] 0 (.str x6) gx6))
     refine LWp.o 16 (I y2) ?_
     refine LWp.o 17 (Y x6) ?_
     refine LWp.nil ?_
     refine Wp.region ?_
     refine LWp.o 81 (.one (.view (.slot 15) 0 [] 0)) ?_
     refine LWp.o 82 (I xSeq) ?_
     refine LWp.o 83 (I y2) ?_
     refine LWp.o 84 (I (ad xSeq y2)) ?_
     refine LWp.o 85 (I xTx) ?_
     refine LWp.o 86 (I y2) ?_
     refine LWp.o 87 (I (ln v2)) ?_
     refine LWp.o 88 (Y x6) ?_
     refine LWp.o 89 (.agg [.int .i64 2, .int .i64 (ad xSeq y2), .int .i64 xTx, .int .i64 y2, .int .i64 (ln v2), .str x6]) ?_
     refine LWp.m false [] 90 (.one (.sl true 85 6 (encs c85 [(Page.mk 2 (ad xSeq y2) xTx y2 (ln v2) x6)]))) ?_
     refine LWp.pm h [(.slot 15, [.junk])] 91 (fun q2 => (.one (.sl true 85 6 (encs c85 q2)))) ?_ (fun q2 gq2 => s_apl k85 (fun _ => rfl) [(.slot 15, [.junk])] yOut1 gq2)
     intro q2 gq2 h
     refine LWp.m true [(.slot 91, [.junk])] 15 (.one (.sl true 85 6 (encs c85 q2))) ?_
     refine LWp.nil ?_
     refine Wp.region ?_
     refine LWp.o 92 (I (ad y2 1)) ?_
     refine LWp.o 76 (I (ad y2 1)) ?_
     refine LWp.nil ?_
     cases h
     exact ⟨_, rfl, rfl, rfl⟩
   refine Wp.exit ?_
   cases h
   exact ⟨_, rfl, rfl, rfl⟩
 intro v5 h E hE
 refine nt_wp hE ?_
 change Wp _ _ _ (i_TxPages_H6 v5) _
 refine Wp.seq (Wp.region ?_)
 refine LWp.o 93 (.one (.view (.slot 15) 0 [] 0)) ?_
 refine LWp.m true [(.slot 15, [.junk])] 6 (.one (.sl true 85 6 (encs c85 v5))) ?_
 refine LWp.o 7 (B true) ?_
 refine LWp.nil ?_
 cases h
 exact Wp.ret ⟨.inr rfl, _, _, rfl, rfl⟩
def i_WriteSteps_H1 (xD : Device) (xRecs : List Rec) (z1 : Int) (z2 : List Block) (z3 : List Step) : St := mkSt [(1, (.one (.sl false 83 4 (encs c83 xRecs)))), (3, (.one (.ptr (.box 3) 0 [] 0))), (8, (.one (.ptr (.box 21) 0 [] 0))), (9, (I z1))] [(.box 3, [.sl false 124 3 (encs (c124 false) xD.Flash.Blocks), .sl false 110 2 (encs c110 xD.Store.Vols), .sl false 218 2 (encs (c218 false) xD.Store.Arena.Knots), .int .i64 xD.Store.Next, .int .i64 xD.Seq, .int .i64 xD.Tx, .int .i64 xD.Base]), (.box 21, [.sl false 124 3 (encs (c124 false) z2), .sl true 99 4 (encs c99 z3)])]
def i_WriteSteps_H2 (v2 : List Page × Bool) (z4 : Bool) (z5 : Int) (z6 : List Block) (z7 : List Step) : St := mkSt [(8, (.one (.ptr (.box 21) 0 [] 0))), (11, (.one (.sl true 85 6 (encs c85 v2.1)))), (12, (B z4)), (50, (.one (.view (.slot 11) 0 [] 0))), (51, (I (ln v2.1))), (52, (I z5))] [(.box 21, [.sl false 124 3 (encs (c124 false) z6), .sl true 99 4 (encs c99 z7)])]
def i_WriteSteps_H3 (z8 : Bool) (z9 : List Block) (z10 : List Step) : St := mkSt [(8, (.one (.ptr (.box 21) 0 [] 0))), (12, (B z8))] [(.box 21, [.sl false 124 3 (encs (c124 false) z9), .sl true 99 4 (encs c99 z10)])]
set_option maxHeartbeats 4000000 in
theorem i_WriteSteps_t (xD : Device) (xRecs : List Rec) (xText : ByteArray) (r : List Step × Bool) (h : i_WriteSteps xD xRecs xText = some r) : Gives Tryz.prog 13 [.sv (.agg [.sl false 124 3 (encs (c124 false) xD.Flash.Blocks), .sl false 110 2 (encs c110 xD.Store.Vols), .sl false 218 2 (encs (c218 false) xD.Store.Arena.Knots), .int .i64 xD.Store.Next, .int .i64 xD.Seq, .int .i64 xD.Tx, .int .i64 xD.Base]), .sv (.one (.sl false 83 4 (encs c83 xRecs))), .sv (Y xText)] (.tup [(.one (.sl true 99 4 (encs c99 r.1))), (B r.2)]) (List.replicate 3 .gone) := by
 unfold i_WriteSteps at h
 refine gives_of Tryz.func13 rfl ?_
 rw [Tryz.ntmps13]
 refine Wp.seq (Wp.region ?_)
 refine LWp.b [] 3 [.sl false 124 3 (encs (c124 false) xD.Flash.Blocks), .sl false 110 2 (encs c110 xD.Store.Vols), .sl false 218 2 (encs (c218 false) xD.Store.Arena.Knots), .int .i64 xD.Store.Next, .int .i64 xD.Seq, .int .i64 xD.Tx, .int .i64 xD.Base] ?_
 refine LWp.o 6 (.one (.sl true 99 4 (encs c99 []))) ?_
 refine LWp.o 7 (B false) ?_
 refine LWp.nil ?_
 refine Wp.seq ?_
 refine Wp.seq (Wp.region ?_)
 refine LWp.o 15 (.one (.sl false 83 4 (encs c83 xRecs))) ?_
 refine LWp.o 16 (I (ln xRecs)) ?_ (st_pure (p_ln k83 xRecs))
 refine LWp.o 17 (B ((ln xRecs) == 0)) ?_
 refine LWp.nil ?_
 refine Wp.c h (fun h => ?_) (fun h => ?_)
 · refine Wp.seq (Wp.region ?_)
   refine LWp.o 6 (.one (.sl true 99 4 (encs c99 []))) ?_
   refine LWp.o 7 (B true) ?_
   refine LWp.nil ?_
   cases h
   exact Wp.ret ⟨.inr rfl, _, _, rfl, rfl⟩
 refine Wp.skip ?_
 refine Wp.seq (Wp.region ?_)
 refine LWp.o 18 (.one (.ptr (.box 3) 1 [] 0)) ?_
 refine LWp.o 19 (.agg [.sl false 124 3 (encs (c124 false) xD.Flash.Blocks)]) ?_
 refine LWp.o 20 (.agg [.sl false 124 3 (encs (c124 false) xD.Flash.Blocks), .sl true 99 4 (encs c99 [])]) ?_
 refine LWp.b [(.slot 20, [.sl false 124 3 (encs (c124 false) xD.Flash.Blocks), .junk])] 21 [.sl false 124 3 (encs (c124 false) xD.Flash.Blocks), .sl true 99 4 (encs c99 [])] ?_
 refine LWp.o 8 (.one (.ptr (.box 21) 1 [] 0)) ?_
 refine LWp.nil ?_
 refine Wp.seq (Wp.region ?_)
 refine LWp.o 22 (.one (.ptr (.box 3) 1 [] 4)) ?_
 refine LWp.o 23 (I xD.Seq) ?_
 refine LWp.o 9 (I xD.Seq) ?_
 refine LWp.nil ?_
 refine Wp.seq ?_
 refine Wp.seq (Wp.region ?_)
 refine LWp.o 24 (Y xText) ?_
 refine LWp.o 25 (B (!(seq xText (bs [])))) ?_
 refine LWp.nil ?_
 refine Wp.j2 h [1, 3, 8, 9] [.box 3, .box 21] (fun a => (i_WriteSteps_H1 xD xRecs a.1 a.2.1 a.2.2)) ?_ ?_
 · intro a h hk1
   refine Wp.c h (fun h => ?_) (fun h => ?_)
   · refine Wp.seq (Wp.region ?_)
     refine LWp.o 26 (I xD.Seq) ?_
     refine LWp.o 27 (.one (.sl false 83 4 (encs c83 xRecs))) ?_
     refine LWp.o 28 (.one (.sl false 83 4 (encs c83 xRecs))) ?_
     refine LWp.o 29 (I (ln xRecs)) ?_ (st_pure (p_ln k83 xRecs))
     refine LWp.o 30 (I (sb (ln xRecs) 1)) ?_
     refine LWp.p h 31 (fun _ => (.one (.ptr (.slot 27) 1 [0] (Int.toNat (sb (ln xRecs) 1) * 4 + 0)))) ?_ (fun x1 gx1 => st_pure (p_ix k83 (.slot 27) [] 0 gx1))
     intro x1 gx1 h
     refine LWp.o 32 (.one (.ptr (.slot 27) 1 [0] (Int.toNat (sb (ln xRecs) 1) * 4 + 3))) ?_ (st_pure (p_fa k83 (.slot 27) [0] 0 gx1))
     refine LWp.o 33 (I x1.Chunk) ?_ (st_pure (p_lc k83 (.slot 27) [0] 3 (.int .i64 x1.Chunk) gx1))
     refine LWp.o 34 (Y xText) ?_
     refine LWp.o 35 (.agg [.int .i64 1, .int .i64 xD.Seq, .int .i64 x1.Chunk, .int .i64 0, .int .i64 1, .str xText]) ?_
     refine LWp.b [] 10 [.int .i64 0, .int .i64 0, .int .i64 0, .int .i64 0, .int .i64 0, .str (bs [])] ?_
     refine LWp.s [] (.box 10) [.int .i64 1, .int .i64 xD.Seq, .int .i64 x1.Chunk, .int .i64 0, .int .i64 1, .str xText] ?_
     refine LWp.nil ?_
     refine Wp.seq ?_
     refine Wp.seq (Wp.region ?_)
     refine LWp.o 36 (.one (.ptr (.box 21) 1 [] 0)) ?_
     refine LWp.o 37 (.agg [.int .i64 1, .int .i64 xD.Seq, .int .i64 x1.Chunk, .int .i64 0, .int .i64 1, .str xText]) ?_
     refine LWp.cx h (.box 21) [.sl false 124 3 (encs (c124 false) xD.Flash.Blocks), .sl true 99 4 (encs c99 [])] (some 38) (fun v1 => (B v1.1)) (fun v1 => [.sl false 124 3 (encs (c124 false) v1.2.f_.Blocks), .sl true 99 4 (encs c99 v1.2.steps_)]) rfl rfl (l := [.sv (.agg [.int .i64 1, .int .i64 xD.Seq, .int .i64 x1.Chunk, .int .i64 0, .int .i64 1, .str xText]), .sv (.one (.int .i64 (-1)))]) rfl (fun v hv => i_stepper_write_t (stepper.mk xD.Flash []) (Page.mk 1 xD.Seq x1.Chunk 0 1 xText) (-1) v hv) (.inl rfl) (fun _ => rfl) ?_
     intro v1 gv1 h
     refine LWp.o 39 (B (!v1.1)) ?_
     refine LWp.nil ?_
     refine Wp.c h (fun h => ?_) (fun h => ?_)
     · refine Wp.seq (Wp.region ?_)
       refine LWp.o 6 (.one (.sl true 99 4 (encs c99 []))) ?_
       refine LWp.o 7 (B false) ?_
       refine LWp.nil ?_
       cases h
       replace h : some _ = some _ := hk1
       cases h
       exact Wp.ret ⟨.inr rfl, _, _, rfl, rfl⟩
     refine Wp.skip ?_
     refine Wp.region ?_
     refine LWp.o 40 (I xD.Seq) ?_
     refine LWp.o 41 (I (ad xD.Seq 1)) ?_
     refine LWp.o 9 (I (ad xD.Seq 1)) ?_
     refine LWp.nil ?_
     cases h
     exact ⟨_, rfl, rfl, rfl⟩
   refine Wp.skip ?_
   cases h
   exact ⟨_, rfl, rfl, rfl⟩
 intro j1 h E hE
 refine nt_wp hE ?_
 change Wp _ _ _ (i_WriteSteps_H1 xD xRecs j1.1 j1.2.1 j1.2.2) _
 refine Wp.seq (Wp.region ?_)
 refine LWp.o 43 (I j1.1) ?_
 refine LWp.o 44 (.one (.ptr (.box 3) 0 [] 5)) ?_
 refine LWp.o 45 (I xD.Tx) ?_
 refine LWp.o 46 (.one (.sl false 83 4 (encs c83 xRecs))) ?_
 refine LWp.cl h 47 (fun v2 => (.tup [(.one (.sl true 85 6 (encs c85 v2.1))), (B v2.2)])) rfl (l := [.sv (.one (.int .i64 j1.1)), .sv (.one (.int .i64 xD.Tx)), .sv (.one (.sl false 83 4 (encs c83 xRecs)))]) rfl (fun v hv => i_TxPages_t j1.1 xD.Tx xRecs v hv) (.inl rfl) ?_
 intro v2 gv2 h
 refine LWp.mt 47 42 (.tup [(.one (.sl true 85 6 (encs c85 v2.1))), (B v2.2)]) ?_
 refine LWp.e 42 0 48 (.one (.sl true 85 6 (encs c85 v2.1))) ?_
 refine LWp.e 42 1 49 (B v2.2) ?_
 refine LWp.m true [(.slot 48, [.junk])] 11 (.one (.sl true 85 6 (encs c85 v2.1))) ?_
 refine LWp.o 12 (B v2.2) ?_
 refine LWp.nil ?_
 refine Wp.seq ?_
 refine Wp.seq (Wp.region ?_)
 refine LWp.o 50 (.one (.view (.slot 11) 1 [] 0)) ?_
 refine LWp.o 51 (I (ln v2.1)) ?_ (st_pure (p_ln k85 v2.1))
 refine LWp.o 52 (I 0) ?_
 refine LWp.nil ?_
 refine Wp.l1 h [8, 11, 12, 50, 51, 52] [.box 21] (fun s => (i_WriteSteps_H2 v2 s.1 s.2.1 s.2.2.1 s.2.2.2)) [8, 12] [.box 21] (fun s => (i_WriteSteps_H3 s.1 s.2.1 s.2.2)) ⟨rfl, rfl⟩ ?_ ?_
 · rintro ⟨yOk1, y1, y01, y11⟩ o (h : i_WriteSteps_b1 v2 yOk1 y1 y01 y11 = some o)
   unfold i_WriteSteps_b1 at h
   change Wp _ _ _ (i_WriteSteps_H2 v2 yOk1 y1 y01 y11) _
   refine Wp.seq (Wp.region ?_)
   refine LWp.o 53 (B (decide (y1 < (ln v2.1)))) ?_
   refine LWp.nil ?_
   refine Wp.seq ?_
   refine Wp.c h (fun h => ?_) (fun h => ?_)
   · refine Wp.skip ?_
     refine Wp.seq ?_
     refine Wp.block ?_
     refine Wp.seq (Wp.region ?_)
     refine LWp.p h 54 (fun _ => (.one (.ptr (.slot 11) 0 [0] (Int.toNat y1 * 6 + 0)))) ?_ (fun x2 gx2 => st_pure (p_ix k85 (.slot 11) [] 0 gx2))
     intro x2 gx2 h
     refine LWp.o 55 (.agg [.int .i64 x2.Kind, .int .i64 x2.Seq, .int .i64 x2.Tx, .int .i64 x2.Part, .int .i64 x2.Count, .str x2.Text]) ?_ (st_pure (p_le k85 (.slot 11) [0] gx2))
     refine LWp.b [] 14 [.int .i64 0, .int .i64 0, .int .i64 0, .int .i64 0, .int .i64 0, .str (bs [])] ?_
     refine LWp.s [] (.box 14) [.int .i64 x2.Kind, .int .i64 x2.Seq, .int .i64 x2.Tx, .int .i64 x2.Part, .int .i64 x2.Count, .str x2.Text] ?_
     refine LWp.nil ?_
     refine Wp.region ?_
     refine LWp.o 56 (B yOk1) ?_
     refine LWp.o 57 (B yOk1) ?_
     refine LWp.sp h 57 (fun h => ?_) (fun h => ?_)
     · refine LWp.o 58 (.one (.ptr (.box 21) 0 [] 0)) ?_
       refine LWp.o 59 (.agg [.int .i64 x2.Kind, .int .i64 x2.Seq, .int .i64 x2.Tx, .int .i64 x2.Part, .int .i64 x2.Count, .str x2.Text]) ?_
       refine LWp.cx h (.box 21) [.sl false 124 3 (encs (c124 false) y01), .sl true 99 4 (encs c99 y11)] (some 60) (fun v3 => (B v3.1)) (fun v3 => [.sl false 124 3 (encs (c124 false) v3.2.f_.Blocks), .sl true 99 4 (encs c99 v3.2.steps_)]) rfl rfl (l := [.sv (.agg [.int .i64 x2.Kind, .int .i64 x2.Seq, .int .i64 x2.Tx, .int .i64 x2.Part, .int .i64 x2.Count, .str x2.Text]), .sv (.one (.int .i64 (-1)))]) rfl (fun v hv => i_stepper_write_t (stepper.mk (Flash.mk y01) y11) x2 (-1) v hv) (.inl rfl) (fun _ => rfl) ?_
       intro v3 gv3 h
       refine LWp.o 61 (B v3.1) ?_
       refine LWp.o 12 (B v3.1) ?_
       refine LWp.nil ?_
       refine Wp.region ?_
       refine LWp.o 62 (I (ad y1 1)) ?_
       refine LWp.o 52 (I (ad y1 1)) ?_
       refine LWp.nil ?_
       cases h
       exact ⟨_, rfl, rfl, rfl⟩
     refine LWp.sh 58 ?_
     refine LWp.sh 59 ?_
     refine LWp.sh 60 ?_
     refine LWp.o 61 (B false) ?_
     refine LWp.o 12 (B false) ?_
     refine LWp.nil ?_
     refine Wp.region ?_
     refine LWp.o 62 (I (ad y1 1)) ?_
     refine LWp.o 52 (I (ad y1 1)) ?_
     refine LWp.nil ?_
     cases h
     exact ⟨_, rfl, rfl, rfl⟩
   refine Wp.exit ?_
   cases h
   exact ⟨_, rfl, rfl, rfl⟩
 intro v4 h E hE
 refine nt_wp hE ?_
 change Wp _ _ _ (i_WriteSteps_H3 v4.1 v4.2.1 v4.2.2) _
 refine Wp.seq ?_
 refine Wp.seq (Wp.region ?_)
 refine LWp.o 63 (B v4.1) ?_
 refine LWp.o 64 (B (!v4.1)) ?_
 refine LWp.nil ?_
 refine Wp.c h (fun h => ?_) (fun h => ?_)
 · refine Wp.seq (Wp.region ?_)
   refine LWp.o 6 (.one (.sl true 99 4 (encs c99 []))) ?_
   refine LWp.o 7 (B false) ?_
   refine LWp.nil ?_
   cases h
   exact Wp.ret ⟨.inr rfl, _, _, rfl, rfl⟩
 refine Wp.skip ?_
 refine Wp.seq (Wp.region ?_)
 refine LWp.o 65 (.one (.ptr (.box 21) 0 [] 0)) ?_
 refine LWp.o 66 (.one (.ptr (.box 21) 0 [] 0)) ?_
 refine LWp.o 67 (.one (.ptr (.box 21) 0 [] 1)) ?_
 refine LWp.o 68 (.one (.view (.box 21) 0 [] 1)) ?_
 refine LWp.m true [(.box 21, [.sl false 124 3 (encs (c124 false) v4.2.1), .junk])] 6 (.one (.sl true 99 4 (encs c99 v4.2.2))) ?_
 refine LWp.o 7 (B true) ?_
 refine LWp.nil ?_
 cases h
 exact Wp.ret ⟨.inr rfl, _, _, rfl, rfl⟩
theorem i_BaseSteps_t (xD : Device) (r : List Step × Bool) (h : i_BaseSteps xD = some r) : Gives Tryz.prog 22 [.sv (.agg [.sl false 124 3 (encs (c124 false) xD.Flash.Blocks), .sl false 110 2 (encs c110 xD.Store.Vols), .sl false 218 2 (encs (c218 false) xD.Store.Arena.Knots), .int .i64 xD.Store.Next, .int .i64 xD.Seq, .int .i64 xD.Tx, .int .i64 xD.Base])] (.tup [(.one (.sl true 99 4 (encs c99 r.1))), (B r.2)]) (List.replicate 1 .gone) := by
 unfold i_BaseSteps at h
 refine gives_of Tryz.func22 rfl ?_
 rw [Tryz.ntmps22]
 refine Wp.seq (Wp.region ?_)
 refine LWp.b [] 1 [.sl false 124 3 (encs (c124 false) xD.Flash.Blocks), .sl false 110 2 (encs c110 xD.Store.Vols), .sl false 218 2 (encs (c218 false) xD.Store.Arena.Knots), .int .i64 xD.Store.Next, .int .i64 xD.Seq, .int .i64 xD.Tx, .int .i64 xD.Base] ?_
 refine LWp.o 2 (.one (.sl true 99 4 (encs c99 []))) ?_
 refine LWp.o 3 (B false) ?_
 refine LWp.nil ?_
 refine Wp.seq ?_
 refine Wp.regionK 9 [] mixed (fun c E h => by rcases h with ⟨h | h, _⟩ <;> cases h) ?_
 refine KWp.o 9 0 4 (.agg [.sl false 124 3 (encs (c124 false) xD.Flash.Blocks), .sl false 110 2 (encs c110 xD.Store.Vols), .sl false 218 2 (encs (c218 false) xD.Store.Arena.Knots), .int .i64 xD.Store.Next, .int .i64 xD.Seq, .int .i64 xD.Tx, .int .i64 xD.Base]) ?_
 refine KWp.o 9 1 5 (.one (.ptr (.box 1) 1 [] 1)) ?_
 refine KWp.o 9 2 6 (.agg [.sl false 110 2 (encs c110 xD.Store.Vols), .sl false 218 2 (encs (c218 false) xD.Store.Arena.Knots), .int .i64 xD.Store.Next]) ?_
 refine KWp.w1 3 ?_
 refine KOp.cl h 3 7 (fun v1 => (.one (.sl true 83 4 (encs c83 v1)))) rfl rfl (l := [.sv (.agg [.sl false 110 2 (encs c110 xD.Store.Vols), .sl false 218 2 (encs (c218 false) xD.Store.Arena.Knots), .int .i64 xD.Store.Next])]) rfl (fun v hv => i_BaseRecs_t xD.Store v hv) (.inl rfl) ?_
 intro v1 gv1 h
 refine KWp.w1 4 ?_
 refine KOp.cl h 4 8 (fun v2 => (.tup [(.one (.sl true 99 4 (encs c99 v2.1))), (B v2.2)])) rfl rfl (l := [.sv (.agg [.sl false 124 3 (encs (c124 false) xD.Flash.Blocks), .sl false 110 2 (encs c110 xD.Store.Vols), .sl false 218 2 (encs (c218 false) xD.Store.Arena.Knots), .int .i64 xD.Store.Next, .int .i64 xD.Seq, .int .i64 xD.Tx, .int .i64 xD.Base]), .sv (.one (.sl false 83 4 (shares (encs c83 v1)))), .sv (.one (.str (bs [])))]) rfl (fun v hv => cg (l := [.sv (.agg [.sl false 124 3 (encs (c124 false) xD.Flash.Blocks), .sl false 110 2 (encs c110 xD.Store.Vols), .sl false 218 2 (encs (c218 false) xD.Store.Arena.Knots), .int .i64 xD.Store.Next, .int .i64 xD.Seq, .int .i64 xD.Tx, .int .i64 xD.Base]), .sv (.one (.sl false 83 4 (shares (encs c83 v1)))), .sv (.one (.str (bs [])))]) (by simp only [sh83]) (i_WriteSteps_t xD v1 (bs []) v hv)) (.inr (fun v => by simp [svShared, svShareds, hasShareds, hasShared, ns99])) ?_
 intro v2 gv2 h
 refine KWp.w2 5 6 ?_ ?_
 · refine KOp.e 5 8 0 9 (.one (.sl true 99 4 (encs c99 v2.1))) ?_
   refine KWp.w1 6 ?_
   refine KOp.e 6 8 1 10 (B v2.2) ?_
   refine KWp.o 9 7 2 (.one (.view (.slot 9) 1 [] 0)) ?_
   refine KWp.o 9 8 3 (B v2.2) ?_
   refine KWp.done ?_
   cases h
   exact Wp.ret ⟨.inr rfl, _, _, rfl, rfl⟩
 refine KOp.e 6 8 1 10 (B v2.2) ?_
 refine KWp.w1 5 ?_
 refine KOp.e 5 8 0 9 (.one (.sl true 99 4 (encs c99 v2.1))) ?_
 refine KWp.o 9 7 2 (.one (.view (.slot 9) 1 [] 0)) ?_
 refine KWp.o 9 8 3 (B v2.2) ?_
 refine KWp.done ?_
 cases h
 exact Wp.ret ⟨.inr rfl, _, _, rfl, rfl⟩
theorem w_eqStep_t (xA : Step) (xB : Step) (r : Bool) (h : w_eqStep xA xB = some r) : Gives Tryz.prog 47 [.sv (.agg [.int .i64 xA.Kind, .int .i64 xA.Block, .int .i64 xA.Leaf, .str xA.Text]), .sv (.agg [.int .i64 xB.Kind, .int .i64 xB.Block, .int .i64 xB.Leaf, .str xB.Text])] (B r) (List.replicate 2 .gone) := by
 unfold w_eqStep at h
 refine gives_of Tryz.func47 rfl ?_
 rw [Tryz.ntmps47]
 refine Wp.seq (Wp.region ?_)
 refine LWp.b [] 2 [.int .i64 xA.Kind, .int .i64 xA.Block, .int .i64 xA.Leaf, .str xA.Text] ?_
 refine LWp.b [] 3 [.int .i64 xB.Kind, .int .i64 xB.Block, .int .i64 xB.Leaf, .str xB.Text] ?_
 refine LWp.o 4 (B false) ?_
 refine LWp.nil ?_
 refine Wp.seq ?_
 refine Wp.seq (Wp.region ?_)
 refine LWp.o 5 (.one (.ptr (.box 2) 1 [] 0)) ?_
 refine LWp.o 6 (I xA.Kind) ?_
 refine LWp.o 7 (.one (.ptr (.box 3) 1 [] 0)) ?_
 refine LWp.o 8 (I xB.Kind) ?_
 refine LWp.o 9 (B (xA.Kind != xB.Kind)) ?_
 refine LWp.nil ?_
 refine Wp.c h (fun h => ?_) (fun h => ?_)
 · refine Wp.seq (Wp.region ?_)
   refine LWp.o 4 (B false) ?_
   refine LWp.nil ?_
   cases h
   exact Wp.ret ⟨.inr rfl, _, _, rfl, rfl⟩
 refine Wp.skip ?_
 refine Wp.seq ?_
 refine Wp.seq (Wp.region ?_)
 refine LWp.o 10 (.one (.ptr (.box 2) 1 [] 1)) ?_
 refine LWp.o 11 (I xA.Block) ?_
 refine LWp.o 12 (.one (.ptr (.box 3) 1 [] 1)) ?_
 refine LWp.o 13 (I xB.Block) ?_
 refine LWp.o 14 (B (xA.Block != xB.Block)) ?_
 refine LWp.nil ?_
 refine Wp.c h (fun h => ?_) (fun h => ?_)
 · refine Wp.seq (Wp.region ?_)
   refine LWp.o 4 (B false) ?_
   refine LWp.nil ?_
   cases h
   exact Wp.ret ⟨.inr rfl, _, _, rfl, rfl⟩
 refine Wp.skip ?_
 refine Wp.seq ?_
 refine Wp.seq (Wp.region ?_)
 refine LWp.o 15 (.one (.ptr (.box 2) 1 [] 2)) ?_
 refine LWp.o 16 (I xA.Leaf) ?_
 refine LWp.o 17 (.one (.ptr (.box 3) 1 [] 2)) ?_
 refine LWp.o 18 (I xB.Leaf) ?_
 refine LWp.o 19 (B (xA.Leaf != xB.Leaf)) ?_
 refine LWp.nil ?_
 refine Wp.c h (fun h => ?_) (fun h => ?_)
 · refine Wp.seq (Wp.region ?_)
   refine LWp.o 4 (B false) ?_
   refine LWp.nil ?_
   cases h
   exact Wp.ret ⟨.inr rfl, _, _, rfl, rfl⟩
 refine Wp.skip ?_
 refine Wp.seq ?_
 refine Wp.seq (Wp.region ?_)
 refine LWp.o 20 (.one (.ptr (.box 2) 1 [] 3)) ?_
 refine LWp.o 21 (Y xA.Text) ?_
 refine LWp.o 22 (.one (.ptr (.box 3) 1 [] 3)) ?_
 refine LWp.o 23 (Y xB.Text) ?_
 refine LWp.o 24 (B (!(seq xA.Text xB.Text))) ?_
 refine LWp.nil ?_
 refine Wp.c h (fun h => ?_) (fun h => ?_)
 · refine Wp.seq (Wp.region ?_)
   refine LWp.o 4 (B false) ?_
   refine LWp.nil ?_
   cases h
   exact Wp.ret ⟨.inr rfl, _, _, rfl, rfl⟩
 refine Wp.skip ?_
 refine Wp.seq (Wp.region ?_)
 refine LWp.o 4 (B true) ?_
 refine LWp.nil ?_
 cases h
 exact Wp.ret ⟨.inr rfl, _, _, rfl, rfl⟩
def w_eqStepS_H1 (xA : List Step) (xB : List Step) (z1 : Int) : St := mkSt [(0, (.one (.sl false 99 4 (encs c99 xA)))), (1, (.one (.sl false 99 4 (encs c99 xB)))), (5, (I z1))] []
def w_eqStepS_H2  : St := mkSt [] []
theorem w_eqStepS_t (xA : List Step) (xB : List Step) (r : Bool) (h : w_eqStepS xA xB = some r) : Gives Tryz.prog 14 [.sv (.one (.sl false 99 4 (encs c99 xA))), .sv (.one (.sl false 99 4 (encs c99 xB)))] (B r) (List.replicate 2 .gone) := by
 unfold w_eqStepS at h
 refine gives_of Tryz.func14 rfl ?_
 rw [Tryz.ntmps14]
 refine Wp.seq (Wp.region ?_)
 refine LWp.o 4 (B false) ?_
 refine LWp.nil ?_
 refine Wp.seq ?_
 refine Wp.seq (Wp.region ?_)
 refine LWp.o 6 (.one (.sl false 99 4 (encs c99 xA))) ?_
 refine LWp.o 7 (I (ln xA)) ?_ (st_pure (p_ln k99 xA))
 refine LWp.o 8 (.one (.sl false 99 4 (encs c99 xB))) ?_
 refine LWp.o 9 (I (ln xB)) ?_ (st_pure (p_ln k99 xB))
 refine LWp.o 10 (B ((ln xA) != (ln xB))) ?_
 refine LWp.nil ?_
 refine Wp.c h (fun h => ?_) (fun h => ?_)
 · refine Wp.seq (Wp.region ?_)
   refine LWp.o 4 (B false) ?_
   refine LWp.nil ?_
   cases h
   exact Wp.ret ⟨.inr rfl, _, _, rfl, rfl⟩
 refine Wp.skip ?_
 refine Wp.seq ?_
 refine Wp.seq (Wp.region ?_)
 refine LWp.o 5 (I 0) ?_
 refine LWp.nil ?_
 refine Wp.l2 h [0, 1, 5] [] (fun s => (w_eqStepS_H1 xA xB s)) [] [] (fun _ => w_eqStepS_H2) ⟨rfl, rfl⟩ ?_ ?_
 · rintro yI1 o (h : w_eqStepS_b1 xA xB yI1 = some o) hk1
   unfold w_eqStepS_b1 at h
   change Wp _ _ _ (w_eqStepS_H1 xA xB yI1) _
   refine Wp.seq ?_
   refine Wp.seq (Wp.region ?_)
   refine LWp.o 11 (I yI1) ?_
   refine LWp.o 12 (.one (.sl false 99 4 (encs c99 xA))) ?_
   refine LWp.o 13 (I (ln xA)) ?_ (st_pure (p_ln k99 xA))
   refine LWp.o 14 (B (decide (yI1 < (ln xA)))) ?_
   refine LWp.nil ?_
   refine Wp.c h (fun h => ?_) (fun h => ?_)
   · refine Wp.skip ?_
     refine Wp.seq ?_
     refine Wp.block ?_
     refine Wp.seq ?_
     refine Wp.regionT 8 mixed (by decide +kernel) ?_
     refine SWp.o 17 (.one (.sl false 99 4 (encs c99 xA))) ?_
     refine SWp.o 18 (I yI1) ?_
     refine SWp.p h 19 (fun _ => (.one (.ptr (.slot 17) 1 [0] (Int.toNat yI1 * 4 + 0)))) ?_ (fun x1 gx1 => sl_pure (p_ix k99 (.slot 17) [] 0 gx1))
     intro x1 gx1 h
     refine SWp.o 20 (.agg [.int .i64 x1.Kind, .int .i64 x1.Block, .int .i64 x1.Leaf, .str x1.Text]) ?_ (sl_pure (p_le k99 (.slot 17) [0] gx1))
     refine SWp.o 21 (.one (.sl false 99 4 (encs c99 xB))) ?_
     refine SWp.o 22 (I yI1) ?_
     refine SWp.p h 23 (fun _ => (.one (.ptr (.slot 21) 1 [0] (Int.toNat yI1 * 4 + 0)))) ?_ (fun x2 gx2 => sl_pure (p_ix k99 (.slot 21) [] 0 gx2))
     intro x2 gx2 h
     refine SWp.o 24 (.agg [.int .i64 x2.Kind, .int .i64 x2.Block, .int .i64 x2.Leaf, .str x2.Text]) ?_ (sl_pure (p_le k99 (.slot 21) [0] gx2))
     refine SWp.nil ?_
     refine LWp.cl h 25 (fun v1 => (B v1)) rfl (l := [.sv (.agg [.int .i64 x1.Kind, .int .i64 x1.Block, .int .i64 x1.Leaf, .str x1.Text]), .sv (.agg [.int .i64 x2.Kind, .int .i64 x2.Block, .int .i64 x2.Leaf, .str x2.Text])]) rfl (fun v hv => w_eqStep_t x1 x2 v hv) (.inl rfl) ?_
     intro v1 gv1 h
     refine LWp.o 26 (B (!v1)) ?_
     refine LWp.nil ?_
     refine Wp.c h (fun h => ?_) (fun h => ?_)
     · refine Wp.seq (Wp.region ?_)
       refine LWp.o 4 (B false) ?_
       refine LWp.nil ?_
       cases h
       replace h : some _ = some _ := hk1 _ rfl
       cases h
       exact Wp.ret ⟨.inr rfl, _, _, rfl, rfl⟩
     refine Wp.skip ?_
     refine Wp.region ?_
     refine LWp.o 15 (I yI1) ?_
     refine LWp.o 16 (I (ad yI1 1)) ?_
     refine LWp.o 5 (I (ad yI1 1)) ?_
     refine LWp.nil ?_
     cases h
     exact ⟨_, rfl, rfl, rfl⟩
   refine Wp.exit ?_
   cases h
   exact ⟨_, rfl, rfl, rfl⟩
 intro v2 h E hE
 refine nt_wp hE ?_
 change Wp _ _ _ w_eqStepS_H2 _
 refine Wp.seq (Wp.region ?_)
 refine LWp.o 4 (B true) ?_
 refine LWp.nil ?_
 cases h
 exact Wp.ret ⟨.inr rfl, _, _, rfl, rfl⟩
theorem w_eqLeaf_t (xA : Leaf) (xB : Leaf) (r : Bool) (h : w_eqLeaf xA xB = some r) : Gives Tryz.prog 204 [.sv (.agg [.int .i64 xA.Is, .str xA.Text]), .sv (.agg [.int .i64 xB.Is, .str xB.Text])] (B r) (List.replicate 2 .gone) := by
 unfold w_eqLeaf at h
 refine gives_of Tryz.func204 rfl ?_
 rw [Tryz.ntmps204]
 refine Wp.seq (Wp.region ?_)
 refine LWp.b [] 2 [.int .i64 xA.Is, .str xA.Text] ?_
 refine LWp.b [] 3 [.int .i64 xB.Is, .str xB.Text] ?_
 refine LWp.o 4 (B false) ?_
 refine LWp.nil ?_
 refine Wp.seq ?_
 refine Wp.seq (Wp.region ?_)
 refine LWp.o 5 (.one (.ptr (.box 2) 1 [] 0)) ?_
 refine LWp.o 6 (I xA.Is) ?_
 refine LWp.o 7 (.one (.ptr (.box 3) 1 [] 0)) ?_
 refine LWp.o 8 (I xB.Is) ?_
 refine LWp.o 9 (B (xA.Is != xB.Is)) ?_
 refine LWp.nil ?_
 refine Wp.c h (fun h => ?_) (fun h => ?_)
 · refine Wp.seq (Wp.region ?_)
   refine LWp.o 4 (B false) ?_
   refine LWp.nil ?_
   cases h
   exact Wp.ret ⟨.inr rfl, _, _, rfl, rfl⟩
 refine Wp.skip ?_
 refine Wp.seq ?_
 refine Wp.seq (Wp.region ?_)
 refine LWp.o 10 (.one (.ptr (.box 2) 1 [] 1)) ?_
 refine LWp.o 11 (Y xA.Text) ?_
 refine LWp.o 12 (.one (.ptr (.box 3) 1 [] 1)) ?_
 refine LWp.o 13 (Y xB.Text) ?_
 refine LWp.o 14 (B (!(seq xA.Text xB.Text))) ?_
 refine LWp.nil ?_
 refine Wp.c h (fun h => ?_) (fun h => ?_)
 · refine Wp.seq (Wp.region ?_)
   refine LWp.o 4 (B false) ?_
   refine LWp.nil ?_
   cases h
   exact Wp.ret ⟨.inr rfl, _, _, rfl, rfl⟩
 refine Wp.skip ?_
 refine Wp.seq (Wp.region ?_)
 refine LWp.o 4 (B true) ?_
 refine LWp.nil ?_
 cases h
 exact Wp.ret ⟨.inr rfl, _, _, rfl, rfl⟩
def w_eqLeafS_H1 (xA : List Leaf) (xB : List Leaf) (z1 : Int) : St := mkSt [(0, (.one (.sl false 165 2 (encs c165 xA)))), (1, (.one (.sl false 165 2 (encs c165 xB)))), (5, (I z1))] []
def w_eqLeafS_H2  : St := mkSt [] []
theorem w_eqLeafS_t (xA : List Leaf) (xB : List Leaf) (r : Bool) (h : w_eqLeafS xA xB = some r) : Gives Tryz.prog 177 [.sv (.one (.sl false 165 2 (encs c165 xA))), .sv (.one (.sl false 165 2 (encs c165 xB)))] (B r) (List.replicate 2 .gone) := by
 unfold w_eqLeafS at h
 refine gives_of Tryz.func177 rfl ?_
 rw [Tryz.ntmps177]
 refine Wp.seq (Wp.region ?_)
 refine LWp.o 4 (B false) ?_
 refine LWp.nil ?_
 refine Wp.seq ?_
 refine Wp.seq (Wp.region ?_)
 refine LWp.o 6 (.one (.sl false 165 2 (encs c165 xA))) ?_
 refine LWp.o 7 (I (ln xA)) ?_ (st_pure (p_ln k165 xA))
 refine LWp.o 8 (.one (.sl false 165 2 (encs c165 xB))) ?_
 refine LWp.o 9 (I (ln xB)) ?_ (st_pure (p_ln k165 xB))
 refine LWp.o 10 (B ((ln xA) != (ln xB))) ?_
 refine LWp.nil ?_
 refine Wp.c h (fun h => ?_) (fun h => ?_)
 · refine Wp.seq (Wp.region ?_)
   refine LWp.o 4 (B false) ?_
   refine LWp.nil ?_
   cases h
   exact Wp.ret ⟨.inr rfl, _, _, rfl, rfl⟩
 refine Wp.skip ?_
 refine Wp.seq ?_
 refine Wp.seq (Wp.region ?_)
 refine LWp.o 5 (I 0) ?_
 refine LWp.nil ?_
 refine Wp.l2 h [0, 1, 5] [] (fun s => (w_eqLeafS_H1 xA xB s)) [] [] (fun _ => w_eqLeafS_H2) ⟨rfl, rfl⟩ ?_ ?_
 · rintro yI1 o (h : w_eqLeafS_b1 xA xB yI1 = some o) hk1
   unfold w_eqLeafS_b1 at h
   change Wp _ _ _ (w_eqLeafS_H1 xA xB yI1) _
   refine Wp.seq ?_
   refine Wp.seq (Wp.region ?_)
   refine LWp.o 11 (I yI1) ?_
   refine LWp.o 12 (.one (.sl false 165 2 (encs c165 xA))) ?_
   refine LWp.o 13 (I (ln xA)) ?_ (st_pure (p_ln k165 xA))
   refine LWp.o 14 (B (decide (yI1 < (ln xA)))) ?_
   refine LWp.nil ?_
   refine Wp.c h (fun h => ?_) (fun h => ?_)
   · refine Wp.skip ?_
     refine Wp.seq ?_
     refine Wp.block ?_
     refine Wp.seq ?_
     refine Wp.regionT 8 mixed (by decide +kernel) ?_
     refine SWp.o 17 (.one (.sl false 165 2 (encs c165 xA))) ?_
     refine SWp.o 18 (I yI1) ?_
     refine SWp.p h 19 (fun _ => (.one (.ptr (.slot 17) 1 [0] (Int.toNat yI1 * 2 + 0)))) ?_ (fun x1 gx1 => sl_pure (p_ix k165 (.slot 17) [] 0 gx1))
     intro x1 gx1 h
     refine SWp.o 20 (.agg [.int .i64 x1.Is, .str x1.Text]) ?_ (sl_pure (p_le k165 (.slot 17) [0] gx1))
     refine SWp.o 21 (.one (.sl false 165 2 (encs c165 xB))) ?_
     refine SWp.o 22 (I yI1) ?_
     refine SWp.p h 23 (fun _ => (.one (.ptr (.slot 21) 1 [0] (Int.toNat yI1 * 2 + 0)))) ?_ (fun x2 gx2 => sl_pure (p_ix k165 (.slot 21) [] 0 gx2))
     intro x2 gx2 h
     refine SWp.o 24 (.agg [.int .i64 x2.Is, .str x2.Text]) ?_ (sl_pure (p_le k165 (.slot 21) [0] gx2))
     refine SWp.nil ?_
     refine LWp.cl h 25 (fun v1 => (B v1)) rfl (l := [.sv (.agg [.int .i64 x1.Is, .str x1.Text]), .sv (.agg [.int .i64 x2.Is, .str x2.Text])]) rfl (fun v hv => w_eqLeaf_t x1 x2 v hv) (.inl rfl) ?_
     intro v1 gv1 h
     refine LWp.o 26 (B (!v1)) ?_
     refine LWp.nil ?_
     refine Wp.c h (fun h => ?_) (fun h => ?_)
     · refine Wp.seq (Wp.region ?_)
       refine LWp.o 4 (B false) ?_
       refine LWp.nil ?_
       cases h
       replace h : some _ = some _ := hk1 _ rfl
       cases h
       exact Wp.ret ⟨.inr rfl, _, _, rfl, rfl⟩
     refine Wp.skip ?_
     refine Wp.region ?_
     refine LWp.o 15 (I yI1) ?_
     refine LWp.o 16 (I (ad yI1 1)) ?_
     refine LWp.o 5 (I (ad yI1 1)) ?_
     refine LWp.nil ?_
     cases h
     exact ⟨_, rfl, rfl, rfl⟩
   refine Wp.exit ?_
   cases h
   exact ⟨_, rfl, rfl, rfl⟩
 intro v2 h E hE
 refine nt_wp hE ?_
 change Wp _ _ _ w_eqLeafS_H2 _
 refine Wp.seq (Wp.region ?_)
 refine LWp.o 4 (B true) ?_
 refine LWp.nil ?_
 cases h
 exact Wp.ret ⟨.inr rfl, _, _, rfl, rfl⟩
theorem w_eqBlock_t (xA : Block) (xB : Block) (r : Bool) (h : w_eqBlock xA xB = some r) : Gives Tryz.prog 145 [.sv (.agg [.bool xA.Bad, .int .i64 xA.Wear, .sl false 165 2 (encs c165 xA.Leaves)]), .sv (.agg [.bool xB.Bad, .int .i64 xB.Wear, .sl false 165 2 (encs c165 xB.Leaves)])] (B r) (List.replicate 2 .gone) := by
 unfold w_eqBlock at h
 refine gives_of Tryz.func145 rfl ?_
 rw [Tryz.ntmps145]
 refine Wp.seq (Wp.region ?_)
 refine LWp.b [] 2 [.bool xA.Bad, .int .i64 xA.Wear, .sl false 165 2 (encs c165 xA.Leaves)] ?_
 refine LWp.b [] 3 [.bool xB.Bad, .int .i64 xB.Wear, .sl false 165 2 (encs c165 xB.Leaves)] ?_
 refine LWp.o 4 (B false) ?_
 refine LWp.nil ?_
 refine Wp.seq ?_
 refine Wp.seq (Wp.region ?_)
 refine LWp.o 5 (.one (.ptr (.box 2) 1 [] 0)) ?_
 refine LWp.o 6 (B xA.Bad) ?_
 refine LWp.o 7 (.one (.ptr (.box 3) 1 [] 0)) ?_
 refine LWp.o 8 (B xB.Bad) ?_
 refine LWp.o 9 (B (!(xA.Bad == xB.Bad))) ?_
 refine LWp.nil ?_
 refine Wp.c h (fun h => ?_) (fun h => ?_)
 · refine Wp.seq (Wp.region ?_)
   refine LWp.o 4 (B false) ?_
   refine LWp.nil ?_
   cases h
   exact Wp.ret ⟨.inr rfl, _, _, rfl, rfl⟩
 refine Wp.skip ?_
 refine Wp.seq ?_
 refine Wp.seq (Wp.region ?_)
 refine LWp.o 10 (.one (.ptr (.box 2) 1 [] 1)) ?_
 refine LWp.o 11 (I xA.Wear) ?_
 refine LWp.o 12 (.one (.ptr (.box 3) 1 [] 1)) ?_
 refine LWp.o 13 (I xB.Wear) ?_
 refine LWp.o 14 (B (xA.Wear != xB.Wear)) ?_
 refine LWp.nil ?_
 refine Wp.c h (fun h => ?_) (fun h => ?_)
 · refine Wp.seq (Wp.region ?_)
   refine LWp.o 4 (B false) ?_
   refine LWp.nil ?_
   cases h
   exact Wp.ret ⟨.inr rfl, _, _, rfl, rfl⟩
 refine Wp.skip ?_
 refine Wp.seq ?_
 refine Wp.seq (Wp.region ?_)
 refine LWp.o 15 (.one (.ptr (.box 2) 1 [] 2)) ?_
 refine LWp.o 16 (.one (.sl false 165 2 (encs c165 xA.Leaves))) ?_
 refine LWp.o 17 (.one (.ptr (.box 3) 1 [] 2)) ?_
 refine LWp.o 18 (.one (.sl false 165 2 (encs c165 xB.Leaves))) ?_
 refine LWp.cl h 19 (fun v1 => (B v1)) rfl (l := [.sv (.one (.sl false 165 2 (encs c165 xA.Leaves))), .sv (.one (.sl false 165 2 (encs c165 xB.Leaves)))]) rfl (fun v hv => w_eqLeafS_t xA.Leaves xB.Leaves v hv) (.inl rfl) ?_
 intro v1 gv1 h
 refine LWp.o 20 (B (!v1)) ?_
 refine LWp.nil ?_
 refine Wp.c h (fun h => ?_) (fun h => ?_)
 · refine Wp.seq (Wp.region ?_)
   refine LWp.o 4 (B false) ?_
   refine LWp.nil ?_
   cases h
   exact Wp.ret ⟨.inr rfl, _, _, rfl, rfl⟩
 refine Wp.skip ?_
 refine Wp.seq (Wp.region ?_)
 refine LWp.o 4 (B true) ?_
 refine LWp.nil ?_
 cases h
 exact Wp.ret ⟨.inr rfl, _, _, rfl, rfl⟩
def w_eqBlockS_H1 (xA : List Block) (xB : List Block) (z1 : Int) : St := mkSt [(0, (.one (.sl false 124 3 (encs (c124 false) xA)))), (1, (.one (.sl false 124 3 (encs (c124 false) xB)))), (5, (I z1))] []
def w_eqBlockS_H2  : St := mkSt [] []
theorem w_eqBlockS_t (xA : List Block) (xB : List Block) (r : Bool) (h : w_eqBlockS xA xB = some r) : Gives Tryz.prog 93 [.sv (.one (.sl false 124 3 (encs (c124 false) xA))), .sv (.one (.sl false 124 3 (encs (c124 false) xB)))] (B r) (List.replicate 2 .gone) := by
 unfold w_eqBlockS at h
 refine gives_of Tryz.func93 rfl ?_
 rw [Tryz.ntmps93]
 refine Wp.seq (Wp.region ?_)
 refine LWp.o 4 (B false) ?_
 refine LWp.nil ?_
 refine Wp.seq ?_
 refine Wp.seq (Wp.region ?_)
 refine LWp.o 6 (.one (.sl false 124 3 (encs (c124 false) xA))) ?_
 refine LWp.o 7 (I (ln xA)) ?_ (st_pure (p_ln (k124 false) xA))
 refine LWp.o 8 (.one (.sl false 124 3 (encs (c124 false) xB))) ?_
 refine LWp.o 9 (I (ln xB)) ?_ (st_pure (p_ln (k124 false) xB))
 refine LWp.o 10 (B ((ln xA) != (ln xB))) ?_
 refine LWp.nil ?_
 refine Wp.c h (fun h => ?_) (fun h => ?_)
 · refine Wp.seq (Wp.region ?_)
   refine LWp.o 4 (B false) ?_
   refine LWp.nil ?_
   cases h
   exact Wp.ret ⟨.inr rfl, _, _, rfl, rfl⟩
 refine Wp.skip ?_
 refine Wp.seq ?_
 refine Wp.seq (Wp.region ?_)
 refine LWp.o 5 (I 0) ?_
 refine LWp.nil ?_
 refine Wp.l2 h [0, 1, 5] [] (fun s => (w_eqBlockS_H1 xA xB s)) [] [] (fun _ => w_eqBlockS_H2) ⟨rfl, rfl⟩ ?_ ?_
 · rintro yI1 o (h : w_eqBlockS_b1 xA xB yI1 = some o) hk1
   unfold w_eqBlockS_b1 at h
   change Wp _ _ _ (w_eqBlockS_H1 xA xB yI1) _
   refine Wp.seq ?_
   refine Wp.seq (Wp.region ?_)
   refine LWp.o 11 (I yI1) ?_
   refine LWp.o 12 (.one (.sl false 124 3 (encs (c124 false) xA))) ?_
   refine LWp.o 13 (I (ln xA)) ?_ (st_pure (p_ln (k124 false) xA))
   refine LWp.o 14 (B (decide (yI1 < (ln xA)))) ?_
   refine LWp.nil ?_
   refine Wp.c h (fun h => ?_) (fun h => ?_)
   · refine Wp.skip ?_
     refine Wp.seq ?_
     refine Wp.block ?_
     refine Wp.seq ?_
     refine Wp.regionT 8 mixed (by decide +kernel) ?_
     refine SWp.o 17 (.one (.sl false 124 3 (encs (c124 false) xA))) ?_
     refine SWp.o 18 (I yI1) ?_
     refine SWp.p h 19 (fun _ => (.one (.ptr (.slot 17) 1 [0] (Int.toNat yI1 * 3 + 0)))) ?_ (fun x1 gx1 => sl_pure (p_ix (k124 false) (.slot 17) [] 0 gx1))
     intro x1 gx1 h
     refine SWp.o 20 (.agg [.bool x1.Bad, .int .i64 x1.Wear, .sl false 165 2 (encs c165 x1.Leaves)]) ?_ (sl_pure (p_le (k124 false) (.slot 17) [0] gx1))
     refine SWp.o 21 (.one (.sl false 124 3 (encs (c124 false) xB))) ?_
     refine SWp.o 22 (I yI1) ?_
     refine SWp.p h 23 (fun _ => (.one (.ptr (.slot 21) 1 [0] (Int.toNat yI1 * 3 + 0)))) ?_ (fun x2 gx2 => sl_pure (p_ix (k124 false) (.slot 21) [] 0 gx2))
     intro x2 gx2 h
     refine SWp.o 24 (.agg [.bool x2.Bad, .int .i64 x2.Wear, .sl false 165 2 (encs c165 x2.Leaves)]) ?_ (sl_pure (p_le (k124 false) (.slot 21) [0] gx2))
     refine SWp.nil ?_
     refine LWp.cl h 25 (fun v1 => (B v1)) rfl (l := [.sv (.agg [.bool x1.Bad, .int .i64 x1.Wear, .sl false 165 2 (encs c165 x1.Leaves)]), .sv (.agg [.bool x2.Bad, .int .i64 x2.Wear, .sl false 165 2 (encs c165 x2.Leaves)])]) rfl (fun v hv => w_eqBlock_t x1 x2 v hv) (.inl rfl) ?_
     intro v1 gv1 h
     refine LWp.o 26 (B (!v1)) ?_
     refine LWp.nil ?_
     refine Wp.c h (fun h => ?_) (fun h => ?_)
     · refine Wp.seq (Wp.region ?_)
       refine LWp.o 4 (B false) ?_
       refine LWp.nil ?_
       cases h
       replace h : some _ = some _ := hk1 _ rfl
       cases h
       exact Wp.ret ⟨.inr rfl, _, _, rfl, rfl⟩
     refine Wp.skip ?_
     refine Wp.region ?_
     refine LWp.o 15 (I yI1) ?_
     refine LWp.o 16 (I (ad yI1 1)) ?_
     refine LWp.o 5 (I (ad yI1 1)) ?_
     refine LWp.nil ?_
     cases h
     exact ⟨_, rfl, rfl, rfl⟩
   refine Wp.exit ?_
   cases h
   exact ⟨_, rfl, rfl, rfl⟩
 intro v2 h E hE
 refine nt_wp hE ?_
 change Wp _ _ _ w_eqBlockS_H2 _
 refine Wp.seq (Wp.region ?_)
 refine LWp.o 4 (B true) ?_
 refine LWp.nil ?_
 cases h
 exact Wp.ret ⟨.inr rfl, _, _, rfl, rfl⟩
theorem w_eqFlash_t (xA : Flash) (xB : Flash) (r : Bool) (h : w_eqFlash xA xB = some r) : Gives Tryz.prog 48 [.sv (.agg [.sl false 124 3 (encs (c124 false) xA.Blocks)]), .sv (.agg [.sl false 124 3 (encs (c124 false) xB.Blocks)])] (B r) (List.replicate 2 .gone) := by
 unfold w_eqFlash at h
 refine gives_of Tryz.func48 rfl ?_
 rw [Tryz.ntmps48]
 refine Wp.seq (Wp.region ?_)
 refine LWp.b [] 2 [.sl false 124 3 (encs (c124 false) xA.Blocks)] ?_
 refine LWp.b [] 3 [.sl false 124 3 (encs (c124 false) xB.Blocks)] ?_
 refine LWp.o 4 (B false) ?_
 refine LWp.nil ?_
 refine Wp.seq ?_
 refine Wp.seq (Wp.region ?_)
 refine LWp.o 5 (.one (.ptr (.box 2) 1 [] 0)) ?_
 refine LWp.o 6 (.one (.sl false 124 3 (encs (c124 false) xA.Blocks))) ?_
 refine LWp.o 7 (.one (.ptr (.box 3) 1 [] 0)) ?_
 refine LWp.o 8 (.one (.sl false 124 3 (encs (c124 false) xB.Blocks))) ?_
 refine LWp.cl h 9 (fun v1 => (B v1)) rfl (l := [.sv (.one (.sl false 124 3 (encs (c124 false) xA.Blocks))), .sv (.one (.sl false 124 3 (encs (c124 false) xB.Blocks)))]) rfl (fun v hv => w_eqBlockS_t xA.Blocks xB.Blocks v hv) (.inl rfl) ?_
 intro v1 gv1 h
 refine LWp.o 10 (B (!v1)) ?_
 refine LWp.nil ?_
 refine Wp.c h (fun h => ?_) (fun h => ?_)
 · refine Wp.seq (Wp.region ?_)
   refine LWp.o 4 (B false) ?_
   refine LWp.nil ?_
   cases h
   exact Wp.ret ⟨.inr rfl, _, _, rfl, rfl⟩
 refine Wp.skip ?_
 refine Wp.seq (Wp.region ?_)
 refine LWp.o 4 (B true) ?_
 refine LWp.nil ?_
 cases h
 exact Wp.ret ⟨.inr rfl, _, _, rfl, rfl⟩
theorem w_eqVol_t (xA : Vol) (xB : Vol) (r : Bool) (h : w_eqVol xA xB = some r) : Gives Tryz.prog 146 [.sv (.agg [.int .i64 xA.Id, .int .i64 xA.Root]), .sv (.agg [.int .i64 xB.Id, .int .i64 xB.Root])] (B r) (List.replicate 2 .gone) := by
 unfold w_eqVol at h
 refine gives_of Tryz.func146 rfl ?_
 rw [Tryz.ntmps146]
 refine Wp.seq (Wp.region ?_)
 refine LWp.b [] 2 [.int .i64 xA.Id, .int .i64 xA.Root] ?_
 refine LWp.b [] 3 [.int .i64 xB.Id, .int .i64 xB.Root] ?_
 refine LWp.o 4 (B false) ?_
 refine LWp.nil ?_
 refine Wp.seq ?_
 refine Wp.seq (Wp.region ?_)
 refine LWp.o 5 (.one (.ptr (.box 2) 1 [] 0)) ?_
 refine LWp.o 6 (I xA.Id) ?_
 refine LWp.o 7 (.one (.ptr (.box 3) 1 [] 0)) ?_
 refine LWp.o 8 (I xB.Id) ?_
 refine LWp.o 9 (B (xA.Id != xB.Id)) ?_
 refine LWp.nil ?_
 refine Wp.c h (fun h => ?_) (fun h => ?_)
 · refine Wp.seq (Wp.region ?_)
   refine LWp.o 4 (B false) ?_
   refine LWp.nil ?_
   cases h
   exact Wp.ret ⟨.inr rfl, _, _, rfl, rfl⟩
 refine Wp.skip ?_
 refine Wp.seq ?_
 refine Wp.seq (Wp.region ?_)
 refine LWp.o 10 (.one (.ptr (.box 2) 1 [] 1)) ?_
 refine LWp.o 11 (I xA.Root) ?_
 refine LWp.o 12 (.one (.ptr (.box 3) 1 [] 1)) ?_
 refine LWp.o 13 (I xB.Root) ?_
 refine LWp.o 14 (B (xA.Root != xB.Root)) ?_
 refine LWp.nil ?_
 refine Wp.c h (fun h => ?_) (fun h => ?_)
 · refine Wp.seq (Wp.region ?_)
   refine LWp.o 4 (B false) ?_
   refine LWp.nil ?_
   cases h
   exact Wp.ret ⟨.inr rfl, _, _, rfl, rfl⟩
 refine Wp.skip ?_
 refine Wp.seq (Wp.region ?_)
 refine LWp.o 4 (B true) ?_
 refine LWp.nil ?_
 cases h
 exact Wp.ret ⟨.inr rfl, _, _, rfl, rfl⟩
def w_eqVolS_H1 (xA : List Vol) (xB : List Vol) (z1 : Int) : St := mkSt [(0, (.one (.sl false 110 2 (encs c110 xA)))), (1, (.one (.sl false 110 2 (encs c110 xB)))), (5, (I z1))] []
def w_eqVolS_H2  : St := mkSt [] []
theorem w_eqVolS_t (xA : List Vol) (xB : List Vol) (r : Bool) (h : w_eqVolS xA xB = some r) : Gives Tryz.prog 94 [.sv (.one (.sl false 110 2 (encs c110 xA))), .sv (.one (.sl false 110 2 (encs c110 xB)))] (B r) (List.replicate 2 .gone) := by
 unfold w_eqVolS at h
 refine gives_of Tryz.func94 rfl ?_
 rw [Tryz.ntmps94]
 refine Wp.seq (Wp.region ?_)
 refine LWp.o 4 (B false) ?_
 refine LWp.nil ?_
 refine Wp.seq ?_
 refine Wp.seq (Wp.region ?_)
 refine LWp.o 6 (.one (.sl false 110 2 (encs c110 xA))) ?_
 refine LWp.o 7 (I (ln xA)) ?_ (st_pure (p_ln k110 xA))
 refine LWp.o 8 (.one (.sl false 110 2 (encs c110 xB))) ?_
 refine LWp.o 9 (I (ln xB)) ?_ (st_pure (p_ln k110 xB))
 refine LWp.o 10 (B ((ln xA) != (ln xB))) ?_
 refine LWp.nil ?_
 refine Wp.c h (fun h => ?_) (fun h => ?_)
 · refine Wp.seq (Wp.region ?_)
   refine LWp.o 4 (B false) ?_
   refine LWp.nil ?_
   cases h
   exact Wp.ret ⟨.inr rfl, _, _, rfl, rfl⟩
 refine Wp.skip ?_
 refine Wp.seq ?_
 refine Wp.seq (Wp.region ?_)
 refine LWp.o 5 (I 0) ?_
 refine LWp.nil ?_
 refine Wp.l2 h [0, 1, 5] [] (fun s => (w_eqVolS_H1 xA xB s)) [] [] (fun _ => w_eqVolS_H2) ⟨rfl, rfl⟩ ?_ ?_
 · rintro yI1 o (h : w_eqVolS_b1 xA xB yI1 = some o) hk1
   unfold w_eqVolS_b1 at h
   change Wp _ _ _ (w_eqVolS_H1 xA xB yI1) _
   refine Wp.seq ?_
   refine Wp.seq (Wp.region ?_)
   refine LWp.o 11 (I yI1) ?_
   refine LWp.o 12 (.one (.sl false 110 2 (encs c110 xA))) ?_
   refine LWp.o 13 (I (ln xA)) ?_ (st_pure (p_ln k110 xA))
   refine LWp.o 14 (B (decide (yI1 < (ln xA)))) ?_
   refine LWp.nil ?_
   refine Wp.c h (fun h => ?_) (fun h => ?_)
   · refine Wp.skip ?_
     refine Wp.seq ?_
     refine Wp.block ?_
     refine Wp.seq ?_
     refine Wp.regionT 8 mixed (by decide +kernel) ?_
     refine SWp.o 17 (.one (.sl false 110 2 (encs c110 xA))) ?_
     refine SWp.o 18 (I yI1) ?_
     refine SWp.p h 19 (fun _ => (.one (.ptr (.slot 17) 1 [0] (Int.toNat yI1 * 2 + 0)))) ?_ (fun x1 gx1 => sl_pure (p_ix k110 (.slot 17) [] 0 gx1))
     intro x1 gx1 h
     refine SWp.o 20 (.agg [.int .i64 x1.Id, .int .i64 x1.Root]) ?_ (sl_pure (p_le k110 (.slot 17) [0] gx1))
     refine SWp.o 21 (.one (.sl false 110 2 (encs c110 xB))) ?_
     refine SWp.o 22 (I yI1) ?_
     refine SWp.p h 23 (fun _ => (.one (.ptr (.slot 21) 1 [0] (Int.toNat yI1 * 2 + 0)))) ?_ (fun x2 gx2 => sl_pure (p_ix k110 (.slot 21) [] 0 gx2))
     intro x2 gx2 h
     refine SWp.o 24 (.agg [.int .i64 x2.Id, .int .i64 x2.Root]) ?_ (sl_pure (p_le k110 (.slot 21) [0] gx2))
     refine SWp.nil ?_
     refine LWp.cl h 25 (fun v1 => (B v1)) rfl (l := [.sv (.agg [.int .i64 x1.Id, .int .i64 x1.Root]), .sv (.agg [.int .i64 x2.Id, .int .i64 x2.Root])]) rfl (fun v hv => w_eqVol_t x1 x2 v hv) (.inl rfl) ?_
     intro v1 gv1 h
     refine LWp.o 26 (B (!v1)) ?_
     refine LWp.nil ?_
     refine Wp.c h (fun h => ?_) (fun h => ?_)
     · refine Wp.seq (Wp.region ?_)
       refine LWp.o 4 (B false) ?_
       refine LWp.nil ?_
       cases h
       replace h : some _ = some _ := hk1 _ rfl
       cases h
       exact Wp.ret ⟨.inr rfl, _, _, rfl, rfl⟩
     refine Wp.skip ?_
     refine Wp.region ?_
     refine LWp.o 15 (I yI1) ?_
     refine LWp.o 16 (I (ad yI1 1)) ?_
     refine LWp.o 5 (I (ad yI1 1)) ?_
     refine LWp.nil ?_
     cases h
     exact ⟨_, rfl, rfl, rfl⟩
   refine Wp.exit ?_
   cases h
   exact ⟨_, rfl, rfl, rfl⟩
 intro v2 h E hE
 refine nt_wp hE ?_
 change Wp _ _ _ w_eqVolS_H2 _
 refine Wp.seq (Wp.region ?_)
 refine LWp.o 4 (B true) ?_
 refine LWp.nil ?_
 cases h
 exact Wp.ret ⟨.inr rfl, _, _, rfl, rfl⟩
def w_eqIntS_H1 (xA : List Int) (xB : List Int) (z1 : Int) : St := mkSt [(0, (.one (.sl false 3 1 (encs c3 xA)))), (1, (.one (.sl false 3 1 (encs c3 xB)))), (5, (I z1))] []
def w_eqIntS_H2  : St := mkSt [] []
theorem w_eqIntS_t (xA : List Int) (xB : List Int) (r : Bool) (h : w_eqIntS xA xB = some r) : Gives Tryz.prog 30 [.sv (.one (.sl false 3 1 (encs c3 xA))), .sv (.one (.sl false 3 1 (encs c3 xB)))] (B r) (List.replicate 2 .gone) := by
 unfold w_eqIntS at h
 refine gives_of Tryz.func30 rfl ?_
 rw [Tryz.ntmps30]
 refine Wp.seq (Wp.region ?_)
 refine LWp.o 4 (B false) ?_
 refine LWp.nil ?_
 refine Wp.seq ?_
 refine Wp.seq (Wp.region ?_)
 refine LWp.o 6 (.one (.sl false 3 1 (encs c3 xA))) ?_
 refine LWp.o 7 (I (ln xA)) ?_ (st_pure (p_ln k3 xA))
 refine LWp.o 8 (.one (.sl false 3 1 (encs c3 xB))) ?_
 refine LWp.o 9 (I (ln xB)) ?_ (st_pure (p_ln k3 xB))
 refine LWp.o 10 (B ((ln xA) != (ln xB))) ?_
 refine LWp.nil ?_
 refine Wp.c h (fun h => ?_) (fun h => ?_)
 · refine Wp.seq (Wp.region ?_)
   refine LWp.o 4 (B false) ?_
   refine LWp.nil ?_
   cases h
   exact Wp.ret ⟨.inr rfl, _, _, rfl, rfl⟩
 refine Wp.skip ?_
 refine Wp.seq ?_
 refine Wp.seq (Wp.region ?_)
 refine LWp.o 5 (I 0) ?_
 refine LWp.nil ?_
 refine Wp.l2 h [0, 1, 5] [] (fun s => (w_eqIntS_H1 xA xB s)) [] [] (fun _ => w_eqIntS_H2) ⟨rfl, rfl⟩ ?_ ?_
 · rintro yI1 o (h : w_eqIntS_b1 xA xB yI1 = some o) hk1
   unfold w_eqIntS_b1 at h
   change Wp _ _ _ (w_eqIntS_H1 xA xB yI1) _
   refine Wp.seq ?_
   refine Wp.seq (Wp.region ?_)
   refine LWp.o 11 (I yI1) ?_
   refine LWp.o 12 (.one (.sl false 3 1 (encs c3 xA))) ?_
   refine LWp.o 13 (I (ln xA)) ?_ (st_pure (p_ln k3 xA))
   refine LWp.o 14 (B (decide (yI1 < (ln xA)))) ?_
   refine LWp.nil ?_
   refine Wp.c h (fun h => ?_) (fun h => ?_)
   · refine Wp.skip ?_
     refine Wp.seq ?_
     refine Wp.block ?_
     refine Wp.seq ?_
     refine Wp.regionS mixed (by decide +kernel) ?_
     refine SWp.o 17 (.one (.sl false 3 1 (encs c3 xA))) ?_
     refine SWp.o 18 (I yI1) ?_
     refine SWp.p h 19 (fun _ => (.one (.ptr (.slot 17) 1 [0] (Int.toNat yI1 * 1 + 0)))) ?_ (fun x1 gx1 => sl_pure (p_ix k3 (.slot 17) [] 0 gx1))
     intro x1 gx1 h
     refine SWp.o 20 (I x1) ?_ (sl_pure (p_lc k3 (.slot 17) [0] 0 (.int .i64 x1) gx1))
     refine SWp.o 21 (.one (.sl false 3 1 (encs c3 xB))) ?_
     refine SWp.o 22 (I yI1) ?_
     refine SWp.p h 23 (fun _ => (.one (.ptr (.slot 21) 1 [0] (Int.toNat yI1 * 1 + 0)))) ?_ (fun x2 gx2 => sl_pure (p_ix k3 (.slot 21) [] 0 gx2))
     intro x2 gx2 h
     refine SWp.o 24 (I x2) ?_ (sl_pure (p_lc k3 (.slot 21) [0] 0 (.int .i64 x2) gx2))
     refine SWp.o 25 (B (x1 != x2)) ?_
     refine SWp.nil ?_
     refine Wp.c h (fun h => ?_) (fun h => ?_)
     · refine Wp.seq (Wp.region ?_)
       refine LWp.o 4 (B false) ?_
       refine LWp.nil ?_
       cases h
       replace h : some _ = some _ := hk1 _ rfl
       cases h
       exact Wp.ret ⟨.inr rfl, _, _, rfl, rfl⟩
     refine Wp.skip ?_
     refine Wp.region ?_
     refine LWp.o 15 (I yI1) ?_
     refine LWp.o 16 (I (ad yI1 1)) ?_
     refine LWp.o 5 (I (ad yI1 1)) ?_
     refine LWp.nil ?_
     cases h
     exact ⟨_, rfl, rfl, rfl⟩
   refine Wp.exit ?_
   cases h
   exact ⟨_, rfl, rfl, rfl⟩
 intro v1 h E hE
 refine nt_wp hE ?_
 change Wp _ _ _ w_eqIntS_H2 _
 refine Wp.seq (Wp.region ?_)
 refine LWp.o 4 (B true) ?_
 refine LWp.nil ?_
 cases h
 exact Wp.ret ⟨.inr rfl, _, _, rfl, rfl⟩
theorem w_eqKnot_t (xA : Knot) (xB : Knot) (r : Bool) (h : w_eqKnot xA xB = some r) : Gives Tryz.prog 178 [.sv (.agg [.bool xA.Leaf, .sl false 3 1 (encs c3 xA.Kids)]), .sv (.agg [.bool xB.Leaf, .sl false 3 1 (encs c3 xB.Kids)])] (B r) (List.replicate 2 .gone) := by
 unfold w_eqKnot at h
 refine gives_of Tryz.func178 rfl ?_
 rw [Tryz.ntmps178]
 refine Wp.seq (Wp.region ?_)
 refine LWp.b [] 2 [.bool xA.Leaf, .sl false 3 1 (encs c3 xA.Kids)] ?_
 refine LWp.b [] 3 [.bool xB.Leaf, .sl false 3 1 (encs c3 xB.Kids)] ?_
 refine LWp.o 4 (B false) ?_
 refine LWp.nil ?_
 refine Wp.seq ?_
 refine Wp.seq (Wp.region ?_)
 refine LWp.o 5 (.one (.ptr (.box 2) 1 [] 0)) ?_
 refine LWp.o 6 (B xA.Leaf) ?_
 refine LWp.o 7 (.one (.ptr (.box 3) 1 [] 0)) ?_
 refine LWp.o 8 (B xB.Leaf) ?_
 refine LWp.o 9 (B (!(xA.Leaf == xB.Leaf))) ?_
 refine LWp.nil ?_
 refine Wp.c h (fun h => ?_) (fun h => ?_)
 · refine Wp.seq (Wp.region ?_)
   refine LWp.o 4 (B false) ?_
   refine LWp.nil ?_
   cases h
   exact Wp.ret ⟨.inr rfl, _, _, rfl, rfl⟩
 refine Wp.skip ?_
 refine Wp.seq ?_
 refine Wp.seq (Wp.region ?_)
 refine LWp.o 10 (.one (.ptr (.box 2) 1 [] 1)) ?_
 refine LWp.o 11 (.one (.sl false 3 1 (encs c3 xA.Kids))) ?_
 refine LWp.o 12 (.one (.ptr (.box 3) 1 [] 1)) ?_
 refine LWp.o 13 (.one (.sl false 3 1 (encs c3 xB.Kids))) ?_
 refine LWp.cl h 14 (fun v1 => (B v1)) rfl (l := [.sv (.one (.sl false 3 1 (encs c3 xA.Kids))), .sv (.one (.sl false 3 1 (encs c3 xB.Kids)))]) rfl (fun v hv => w_eqIntS_t xA.Kids xB.Kids v hv) (.inl rfl) ?_
 intro v1 gv1 h
 refine LWp.o 15 (B (!v1)) ?_
 refine LWp.nil ?_
 refine Wp.c h (fun h => ?_) (fun h => ?_)
 · refine Wp.seq (Wp.region ?_)
   refine LWp.o 4 (B false) ?_
   refine LWp.nil ?_
   cases h
   exact Wp.ret ⟨.inr rfl, _, _, rfl, rfl⟩
 refine Wp.skip ?_
 refine Wp.seq (Wp.region ?_)
 refine LWp.o 4 (B true) ?_
 refine LWp.nil ?_
 cases h
 exact Wp.ret ⟨.inr rfl, _, _, rfl, rfl⟩
def w_eqKnotS_H1 (xA : List Knot) (xB : List Knot) (z1 : Int) : St := mkSt [(0, (.one (.sl false 218 2 (encs (c218 false) xA)))), (1, (.one (.sl false 218 2 (encs (c218 false) xB)))), (5, (I z1))] []
def w_eqKnotS_H2  : St := mkSt [] []
theorem w_eqKnotS_t (xA : List Knot) (xB : List Knot) (r : Bool) (h : w_eqKnotS xA xB = some r) : Gives Tryz.prog 147 [.sv (.one (.sl false 218 2 (encs (c218 false) xA))), .sv (.one (.sl false 218 2 (encs (c218 false) xB)))] (B r) (List.replicate 2 .gone) := by
 unfold w_eqKnotS at h
 refine gives_of Tryz.func147 rfl ?_
 rw [Tryz.ntmps147]
 refine Wp.seq (Wp.region ?_)
 refine LWp.o 4 (B false) ?_
 refine LWp.nil ?_
 refine Wp.seq ?_
 refine Wp.seq (Wp.region ?_)
 refine LWp.o 6 (.one (.sl false 218 2 (encs (c218 false) xA))) ?_
 refine LWp.o 7 (I (ln xA)) ?_ (st_pure (p_ln (k218 false) xA))
 refine LWp.o 8 (.one (.sl false 218 2 (encs (c218 false) xB))) ?_
 refine LWp.o 9 (I (ln xB)) ?_ (st_pure (p_ln (k218 false) xB))
 refine LWp.o 10 (B ((ln xA) != (ln xB))) ?_
 refine LWp.nil ?_
 refine Wp.c h (fun h => ?_) (fun h => ?_)
 · refine Wp.seq (Wp.region ?_)
   refine LWp.o 4 (B false) ?_
   refine LWp.nil ?_
   cases h
   exact Wp.ret ⟨.inr rfl, _, _, rfl, rfl⟩
 refine Wp.skip ?_
 refine Wp.seq ?_
 refine Wp.seq (Wp.region ?_)
 refine LWp.o 5 (I 0) ?_
 refine LWp.nil ?_
 refine Wp.l2 h [0, 1, 5] [] (fun s => (w_eqKnotS_H1 xA xB s)) [] [] (fun _ => w_eqKnotS_H2) ⟨rfl, rfl⟩ ?_ ?_
 · rintro yI1 o (h : w_eqKnotS_b1 xA xB yI1 = some o) hk1
   unfold w_eqKnotS_b1 at h
   change Wp _ _ _ (w_eqKnotS_H1 xA xB yI1) _
   refine Wp.seq ?_
   refine Wp.seq (Wp.region ?_)
   refine LWp.o 11 (I yI1) ?_
   refine LWp.o 12 (.one (.sl false 218 2 (encs (c218 false) xA))) ?_
   refine LWp.o 13 (I (ln xA)) ?_ (st_pure (p_ln (k218 false) xA))
   refine LWp.o 14 (B (decide (yI1 < (ln xA)))) ?_
   refine LWp.nil ?_
   refine Wp.c h (fun h => ?_) (fun h => ?_)
   · refine Wp.skip ?_
     refine Wp.seq ?_
     refine Wp.block ?_
     refine Wp.seq ?_
     refine Wp.regionT 8 mixed (by decide +kernel) ?_
     refine SWp.o 17 (.one (.sl false 218 2 (encs (c218 false) xA))) ?_
     refine SWp.o 18 (I yI1) ?_
     refine SWp.p h 19 (fun _ => (.one (.ptr (.slot 17) 1 [0] (Int.toNat yI1 * 2 + 0)))) ?_ (fun x1 gx1 => sl_pure (p_ix (k218 false) (.slot 17) [] 0 gx1))
     intro x1 gx1 h
     refine SWp.o 20 (.agg [.bool x1.Leaf, .sl false 3 1 (encs c3 x1.Kids)]) ?_ (sl_pure (p_le (k218 false) (.slot 17) [0] gx1))
     refine SWp.o 21 (.one (.sl false 218 2 (encs (c218 false) xB))) ?_
     refine SWp.o 22 (I yI1) ?_
     refine SWp.p h 23 (fun _ => (.one (.ptr (.slot 21) 1 [0] (Int.toNat yI1 * 2 + 0)))) ?_ (fun x2 gx2 => sl_pure (p_ix (k218 false) (.slot 21) [] 0 gx2))
     intro x2 gx2 h
     refine SWp.o 24 (.agg [.bool x2.Leaf, .sl false 3 1 (encs c3 x2.Kids)]) ?_ (sl_pure (p_le (k218 false) (.slot 21) [0] gx2))
     refine SWp.nil ?_
     refine LWp.cl h 25 (fun v1 => (B v1)) rfl (l := [.sv (.agg [.bool x1.Leaf, .sl false 3 1 (encs c3 x1.Kids)]), .sv (.agg [.bool x2.Leaf, .sl false 3 1 (encs c3 x2.Kids)])]) rfl (fun v hv => w_eqKnot_t x1 x2 v hv) (.inl rfl) ?_
     intro v1 gv1 h
     refine LWp.o 26 (B (!v1)) ?_
     refine LWp.nil ?_
     refine Wp.c h (fun h => ?_) (fun h => ?_)
     · refine Wp.seq (Wp.region ?_)
       refine LWp.o 4 (B false) ?_
       refine LWp.nil ?_
       cases h
       replace h : some _ = some _ := hk1 _ rfl
       cases h
       exact Wp.ret ⟨.inr rfl, _, _, rfl, rfl⟩
     refine Wp.skip ?_
     refine Wp.region ?_
     refine LWp.o 15 (I yI1) ?_
     refine LWp.o 16 (I (ad yI1 1)) ?_
     refine LWp.o 5 (I (ad yI1 1)) ?_
     refine LWp.nil ?_
     cases h
     exact ⟨_, rfl, rfl, rfl⟩
   refine Wp.exit ?_
   cases h
   exact ⟨_, rfl, rfl, rfl⟩
 intro v2 h E hE
 refine nt_wp hE ?_
 change Wp _ _ _ w_eqKnotS_H2 _
 refine Wp.seq (Wp.region ?_)
 refine LWp.o 4 (B true) ?_
 refine LWp.nil ?_
 cases h
 exact Wp.ret ⟨.inr rfl, _, _, rfl, rfl⟩
theorem w_eqArena_t (xA : Arena) (xB : Arena) (r : Bool) (h : w_eqArena xA xB = some r) : Gives Tryz.prog 95 [.sv (.agg [.sl false 218 2 (encs (c218 false) xA.Knots)]), .sv (.agg [.sl false 218 2 (encs (c218 false) xB.Knots)])] (B r) (List.replicate 2 .gone) := by
 unfold w_eqArena at h
 refine gives_of Tryz.func95 rfl ?_
 rw [Tryz.ntmps95]
 refine Wp.seq (Wp.region ?_)
 refine LWp.b [] 2 [.sl false 218 2 (encs (c218 false) xA.Knots)] ?_
 refine LWp.b [] 3 [.sl false 218 2 (encs (c218 false) xB.Knots)] ?_
 refine LWp.o 4 (B false) ?_
 refine LWp.nil ?_
 refine Wp.seq ?_
 refine Wp.seq (Wp.region ?_)
 refine LWp.o 5 (.one (.ptr (.box 2) 1 [] 0)) ?_
 refine LWp.o 6 (.one (.sl false 218 2 (encs (c218 false) xA.Knots))) ?_
 refine LWp.o 7 (.one (.ptr (.box 3) 1 [] 0)) ?_
 refine LWp.o 8 (.one (.sl false 218 2 (encs (c218 false) xB.Knots))) ?_
 refine LWp.cl h 9 (fun v1 => (B v1)) rfl (l := [.sv (.one (.sl false 218 2 (encs (c218 false) xA.Knots))), .sv (.one (.sl false 218 2 (encs (c218 false) xB.Knots)))]) rfl (fun v hv => w_eqKnotS_t xA.Knots xB.Knots v hv) (.inl rfl) ?_
 intro v1 gv1 h
 refine LWp.o 10 (B (!v1)) ?_
 refine LWp.nil ?_
 refine Wp.c h (fun h => ?_) (fun h => ?_)
 · refine Wp.seq (Wp.region ?_)
   refine LWp.o 4 (B false) ?_
   refine LWp.nil ?_
   cases h
   exact Wp.ret ⟨.inr rfl, _, _, rfl, rfl⟩
 refine Wp.skip ?_
 refine Wp.seq (Wp.region ?_)
 refine LWp.o 4 (B true) ?_
 refine LWp.nil ?_
 cases h
 exact Wp.ret ⟨.inr rfl, _, _, rfl, rfl⟩
theorem w_eqStore_t (xA : Store) (xB : Store) (r : Bool) (h : w_eqStore xA xB = some r) : Gives Tryz.prog 49 [.sv (.agg [.sl false 110 2 (encs c110 xA.Vols), .sl false 218 2 (encs (c218 false) xA.Arena.Knots), .int .i64 xA.Next]), .sv (.agg [.sl false 110 2 (encs c110 xB.Vols), .sl false 218 2 (encs (c218 false) xB.Arena.Knots), .int .i64 xB.Next])] (B r) (List.replicate 2 .gone) := by
 unfold w_eqStore at h
 refine gives_of Tryz.func49 rfl ?_
 rw [Tryz.ntmps49]
 refine Wp.seq (Wp.region ?_)
 refine LWp.b [] 2 [.sl false 110 2 (encs c110 xA.Vols), .sl false 218 2 (encs (c218 false) xA.Arena.Knots), .int .i64 xA.Next] ?_
 refine LWp.b [] 3 [.sl false 110 2 (encs c110 xB.Vols), .sl false 218 2 (encs (c218 false) xB.Arena.Knots), .int .i64 xB.Next] ?_
 refine LWp.o 4 (B false) ?_
 refine LWp.nil ?_
 refine Wp.seq ?_
 refine Wp.seq (Wp.region ?_)
 refine LWp.o 5 (.one (.ptr (.box 2) 1 [] 0)) ?_
 refine LWp.o 6 (.one (.sl false 110 2 (encs c110 xA.Vols))) ?_
 refine LWp.o 7 (.one (.ptr (.box 3) 1 [] 0)) ?_
 refine LWp.o 8 (.one (.sl false 110 2 (encs c110 xB.Vols))) ?_
 refine LWp.cl h 9 (fun v1 => (B v1)) rfl (l := [.sv (.one (.sl false 110 2 (encs c110 xA.Vols))), .sv (.one (.sl false 110 2 (encs c110 xB.Vols)))]) rfl (fun v hv => w_eqVolS_t xA.Vols xB.Vols v hv) (.inl rfl) ?_
 intro v1 gv1 h
 refine LWp.o 10 (B (!v1)) ?_
 refine LWp.nil ?_
 refine Wp.c h (fun h => ?_) (fun h => ?_)
 · refine Wp.seq (Wp.region ?_)
   refine LWp.o 4 (B false) ?_
   refine LWp.nil ?_
   cases h
   exact Wp.ret ⟨.inr rfl, _, _, rfl, rfl⟩
 refine Wp.skip ?_
 refine Wp.seq ?_
 refine Wp.seq (Wp.region ?_)
 refine LWp.o 11 (.one (.ptr (.box 2) 1 [] 1)) ?_
 refine LWp.o 12 (.agg [.sl false 218 2 (encs (c218 false) xA.Arena.Knots)]) ?_
 refine LWp.o 13 (.one (.ptr (.box 3) 1 [] 1)) ?_
 refine LWp.o 14 (.agg [.sl false 218 2 (encs (c218 false) xB.Arena.Knots)]) ?_
 refine LWp.cl h 15 (fun v2 => (B v2)) rfl (l := [.sv (.agg [.sl false 218 2 (encs (c218 false) xA.Arena.Knots)]), .sv (.agg [.sl false 218 2 (encs (c218 false) xB.Arena.Knots)])]) rfl (fun v hv => w_eqArena_t xA.Arena xB.Arena v hv) (.inl rfl) ?_
 intro v2 gv2 h
 refine LWp.o 16 (B (!v2)) ?_
 refine LWp.nil ?_
 refine Wp.c h (fun h => ?_) (fun h => ?_)
 · refine Wp.seq (Wp.region ?_)
   refine LWp.o 4 (B false) ?_
   refine LWp.nil ?_
   cases h
   exact Wp.ret ⟨.inr rfl, _, _, rfl, rfl⟩
 refine Wp.skip ?_
 refine Wp.seq ?_
 refine Wp.seq (Wp.region ?_)
 refine LWp.o 17 (.one (.ptr (.box 2) 1 [] 2)) ?_
 refine LWp.o 18 (I xA.Next) ?_
 refine LWp.o 19 (.one (.ptr (.box 3) 1 [] 2)) ?_
 refine LWp.o 20 (I xB.Next) ?_
 refine LWp.o 21 (B (xA.Next != xB.Next)) ?_
 refine LWp.nil ?_
 refine Wp.c h (fun h => ?_) (fun h => ?_)
 · refine Wp.seq (Wp.region ?_)
   refine LWp.o 4 (B false) ?_
   refine LWp.nil ?_
   cases h
   exact Wp.ret ⟨.inr rfl, _, _, rfl, rfl⟩
 refine Wp.skip ?_
 refine Wp.seq (Wp.region ?_)
 refine LWp.o 4 (B true) ?_
 refine LWp.nil ?_
 cases h
 exact Wp.ret ⟨.inr rfl, _, _, rfl, rfl⟩
set_option maxHeartbeats 4000000 in
theorem w_eqDevice_t (xA : Device) (xB : Device) (r : Bool) (h : w_eqDevice xA xB = some r) : Gives Tryz.prog 15 [.sv (.agg [.sl false 124 3 (encs (c124 false) xA.Flash.Blocks), .sl false 110 2 (encs c110 xA.Store.Vols), .sl false 218 2 (encs (c218 false) xA.Store.Arena.Knots), .int .i64 xA.Store.Next, .int .i64 xA.Seq, .int .i64 xA.Tx, .int .i64 xA.Base]), .sv (.agg [.sl false 124 3 (encs (c124 false) xB.Flash.Blocks), .sl false 110 2 (encs c110 xB.Store.Vols), .sl false 218 2 (encs (c218 false) xB.Store.Arena.Knots), .int .i64 xB.Store.Next, .int .i64 xB.Seq, .int .i64 xB.Tx, .int .i64 xB.Base])] (B r) (List.replicate 2 .gone) := by
 unfold w_eqDevice at h
 refine gives_of Tryz.func15 rfl ?_
 rw [Tryz.ntmps15]
 refine Wp.seq (Wp.region ?_)
 refine LWp.b [] 2 [.sl false 124 3 (encs (c124 false) xA.Flash.Blocks), .sl false 110 2 (encs c110 xA.Store.Vols), .sl false 218 2 (encs (c218 false) xA.Store.Arena.Knots), .int .i64 xA.Store.Next, .int .i64 xA.Seq, .int .i64 xA.Tx, .int .i64 xA.Base] ?_
 refine LWp.b [] 3 [.sl false 124 3 (encs (c124 false) xB.Flash.Blocks), .sl false 110 2 (encs c110 xB.Store.Vols), .sl false 218 2 (encs (c218 false) xB.Store.Arena.Knots), .int .i64 xB.Store.Next, .int .i64 xB.Seq, .int .i64 xB.Tx, .int .i64 xB.Base] ?_
 refine LWp.o 4 (B false) ?_
 refine LWp.nil ?_
 refine Wp.seq ?_
 refine Wp.seq (Wp.region ?_)
 refine LWp.o 5 (.one (.ptr (.box 2) 1 [] 0)) ?_
 refine LWp.o 6 (.agg [.sl false 124 3 (encs (c124 false) xA.Flash.Blocks)]) ?_
 refine LWp.o 7 (.one (.ptr (.box 3) 1 [] 0)) ?_
 refine LWp.o 8 (.agg [.sl false 124 3 (encs (c124 false) xB.Flash.Blocks)]) ?_
 refine LWp.cl h 9 (fun v1 => (B v1)) rfl (l := [.sv (.agg [.sl false 124 3 (encs (c124 false) xA.Flash.Blocks)]), .sv (.agg [.sl false 124 3 (encs (c124 false) xB.Flash.Blocks)])]) rfl (fun v hv => w_eqFlash_t xA.Flash xB.Flash v hv) (.inl rfl) ?_
 intro v1 gv1 h
 refine LWp.o 10 (B (!v1)) ?_
 refine LWp.nil ?_
 refine Wp.c h (fun h => ?_) (fun h => ?_)
 · refine Wp.seq (Wp.region ?_)
   refine LWp.o 4 (B false) ?_
   refine LWp.nil ?_
   cases h
   exact Wp.ret ⟨.inr rfl, _, _, rfl, rfl⟩
 refine Wp.skip ?_
 refine Wp.seq ?_
 refine Wp.seq (Wp.region ?_)
 refine LWp.o 11 (.one (.ptr (.box 2) 1 [] 1)) ?_
 refine LWp.o 12 (.agg [.sl false 110 2 (encs c110 xA.Store.Vols), .sl false 218 2 (encs (c218 false) xA.Store.Arena.Knots), .int .i64 xA.Store.Next]) ?_
 refine LWp.o 13 (.one (.ptr (.box 3) 1 [] 1)) ?_
 refine LWp.o 14 (.agg [.sl false 110 2 (encs c110 xB.Store.Vols), .sl false 218 2 (encs (c218 false) xB.Store.Arena.Knots), .int .i64 xB.Store.Next]) ?_
 refine LWp.cl h 15 (fun v2 => (B v2)) rfl (l := [.sv (.agg [.sl false 110 2 (encs c110 xA.Store.Vols), .sl false 218 2 (encs (c218 false) xA.Store.Arena.Knots), .int .i64 xA.Store.Next]), .sv (.agg [.sl false 110 2 (encs c110 xB.Store.Vols), .sl false 218 2 (encs (c218 false) xB.Store.Arena.Knots), .int .i64 xB.Store.Next])]) rfl (fun v hv => w_eqStore_t xA.Store xB.Store v hv) (.inl rfl) ?_
 intro v2 gv2 h
 refine LWp.o 16 (B (!v2)) ?_
 refine LWp.nil ?_
 refine Wp.c h (fun h => ?_) (fun h => ?_)
 · refine Wp.seq (Wp.region ?_)
   refine LWp.o 4 (B false) ?_
   refine LWp.nil ?_
   cases h
   exact Wp.ret ⟨.inr rfl, _, _, rfl, rfl⟩
 refine Wp.skip ?_
 refine Wp.seq ?_
 refine Wp.seq (Wp.region ?_)
 refine LWp.o 17 (.one (.ptr (.box 2) 1 [] 4)) ?_
 refine LWp.o 18 (I xA.Seq) ?_
 refine LWp.o 19 (.one (.ptr (.box 3) 1 [] 4)) ?_
 refine LWp.o 20 (I xB.Seq) ?_
 refine LWp.o 21 (B (xA.Seq != xB.Seq)) ?_
 refine LWp.nil ?_
 refine Wp.c h (fun h => ?_) (fun h => ?_)
 · refine Wp.seq (Wp.region ?_)
   refine LWp.o 4 (B false) ?_
   refine LWp.nil ?_
   cases h
   exact Wp.ret ⟨.inr rfl, _, _, rfl, rfl⟩
 refine Wp.skip ?_
 refine Wp.seq ?_
 refine Wp.seq (Wp.region ?_)
 refine LWp.o 22 (.one (.ptr (.box 2) 1 [] 5)) ?_
 refine LWp.o 23 (I xA.Tx) ?_
 refine LWp.o 24 (.one (.ptr (.box 3) 1 [] 5)) ?_
 refine LWp.o 25 (I xB.Tx) ?_
 refine LWp.o 26 (B (xA.Tx != xB.Tx)) ?_
 refine LWp.nil ?_
 refine Wp.c h (fun h => ?_) (fun h => ?_)
 · refine Wp.seq (Wp.region ?_)
   refine LWp.o 4 (B false) ?_
   refine LWp.nil ?_
   cases h
   exact Wp.ret ⟨.inr rfl, _, _, rfl, rfl⟩
 refine Wp.skip ?_
 refine Wp.seq ?_
 refine Wp.seq (Wp.region ?_)
 refine LWp.o 27 (.one (.ptr (.box 2) 1 [] 6)) ?_
 refine LWp.o 28 (I xA.Base) ?_
 refine LWp.o 29 (.one (.ptr (.box 3) 1 [] 6)) ?_
 refine LWp.o 30 (I xB.Base) ?_
 refine LWp.o 31 (B (xA.Base != xB.Base)) ?_
 refine LWp.nil ?_
 refine Wp.c h (fun h => ?_) (fun h => ?_)
 · refine Wp.seq (Wp.region ?_)
   refine LWp.o 4 (B false) ?_
   refine LWp.nil ?_
   cases h
   exact Wp.ret ⟨.inr rfl, _, _, rfl, rfl⟩
 refine Wp.skip ?_
 refine Wp.seq (Wp.region ?_)
 refine LWp.o 4 (B true) ?_
 refine LWp.nil ?_
 cases h
 exact Wp.ret ⟨.inr rfl, _, _, rfl, rfl⟩
def w_markText_H1 (z1 : Int) (z2 : ByteArray) : St := mkSt [(0, (I z1)), (3, (Y z2))] []
def w_markText_H2 (z3 : ByteArray) : St := mkSt [(3, (Y z3))] []
theorem w_markText_t (xK : Int) (r : ByteArray) (h : w_markText xK = some r) : Gives Tryz.prog 53 [.sv (I xK)] (Y r) (List.replicate 1 .gone) := by
 unfold w_markText at h
 refine gives_of Tryz.func53 rfl ?_
 rw [Tryz.ntmps53]
 refine Wp.seq (Wp.region ?_)
 refine LWp.o 2 (Y (bs [])) ?_
 refine LWp.nil ?_
 refine Wp.seq ?_
 refine Wp.seq (Wp.region ?_)
 refine LWp.o 4 (I xK) ?_
 refine LWp.o 5 (B (decide (xK ≤ 0))) ?_
 refine LWp.nil ?_
 refine Wp.c h (fun h => ?_) (fun h => ?_)
 · refine Wp.seq (Wp.region ?_)
   refine LWp.o 2 (Y (bs [109, 48])) ?_
   refine LWp.nil ?_
   cases h
   exact Wp.ret ⟨.inr rfl, _, _, rfl, rfl⟩
 refine Wp.skip ?_
 refine Wp.seq (Wp.region ?_)
 refine LWp.o 3 (Y (bs [])) ?_
 refine LWp.nil ?_
 refine Wp.seq ?_
 refine Wp.l1 h [0, 3] [] (fun s => (w_markText_H1 s.1 s.2)) [3] [] (fun s => (w_markText_H2 s)) ⟨rfl, rfl⟩ ?_ ?_
 · rintro ⟨yK1, yOut1⟩ o (h : w_markText_b1 yK1 yOut1 = some o)
   unfold w_markText_b1 at h
   change Wp _ _ _ (w_markText_H1 yK1 yOut1) _
   refine Wp.seq ?_
   refine Wp.seq (Wp.region ?_)
   refine LWp.o 6 (I yK1) ?_
   refine LWp.o 7 (B (decide (yK1 > 0))) ?_
   refine LWp.nil ?_
   refine Wp.c h (fun h => ?_) (fun h => ?_)
   · refine Wp.skip ?_
     refine Wp.block ?_
     refine Wp.seq (Wp.region ?_)
     refine LWp.o 8 (I yK1) ?_
     refine LWp.o 9 (I (Int.tmod yK1 10)) ?_
     refine LWp.o 10 (I (ad 48 (Int.tmod yK1 10))) ?_
     refine LWp.o 11 (.one (.int .u8 (IntKind.u8.wrap (ad 48 (Int.tmod yK1 10))))) ?_
     refine LWp.m false [] 12 (.one (.sl true 5 1 (encs c5 [(IntKind.u8.wrap (ad 48 (Int.tmod yK1 10)))]))) ?_
     refine LWp.o 13 (Y (strB [(IntKind.u8.wrap (ad 48 (Int.tmod yK1 10)))])) ?_ (st_pure (p_cv (fun _ => rfl) [(IntKind.u8.wrap (ad 48 (Int.tmod yK1 10)))]))
     refine LWp.o 14 (Y yOut1) ?_
     refine LWp.p h 15 (fun x1 => (Y x1)) ?_ (fun x1 gx1 => st_pure (p_cat gx1))
     intro x1 gx1 h
     refine LWp.o 3 (Y x1) ?_
     refine LWp.nil ?_
     refine Wp.region ?_
     refine LWp.o 16 (I yK1) ?_
     refine LWp.o 17 (I (qu yK1 10)) ?_
     refine LWp.o 0 (I (qu yK1 10)) ?_
     refine LWp.nil ?_
     cases h
     exact ⟨_, rfl, rfl, rfl⟩
   refine Wp.exit ?_
   cases h
   exact ⟨_, rfl, rfl, rfl⟩
 intro v1 h E hE
 refine nt_wp hE ?_
 change Wp _ _ _ (w_markText_H2 v1) _
 refine Wp.seq (Wp.region ?_)
 refine LWp.o 18 (Y v1) ?_
 refine LWp.p h 19 (fun x2 => (Y x2)) ?_ (fun x2 gx2 => st_pure (p_cat gx2))
 intro x2 gx2 h
 refine LWp.o 2 (Y x2) ?_
 refine LWp.nil ?_
 cases h
 exact Wp.ret ⟨.inr rfl, _, _, rfl, rfl⟩
def w_markLeafS_H1 (z1 : List Leaf) (z2 : Int) (z3 : Int) : St := mkStF [(0, (.one (.sl true 165 2 (encs c165 z1)))), (1, (I z2)), (5, (I z3))] []
def w_markLeafS_H2 (z4 : List Leaf) (z5 : Int) : St := mkStF [(0, (.one (.sl true 165 2 (encs c165 z4)))), (1, (I z5))] []
theorem w_markLeafS_t (xA : List Leaf) (xK : Int) (r : Int × List Leaf) (h : w_markLeafS xA xK = some r) : Gives Tryz.prog 148 [.sv (.one (.sl true 165 2 (encs c165 xA))), .sv (I xK)] (I r.1) (.sv (.one (.sl true 165 2 (encs c165 r.2))) :: List.replicate 1 .gone) := by
 unfold w_markLeafS at h
 refine gives_lent Tryz.func148 rfl ?_
 rw [Tryz.ntmps148]
 refine Wp.seq (Wp.region ?_)
 refine LWp.o 4 (I 0) ?_
 refine LWp.nil ?_
 refine Wp.seq ?_
 refine Wp.seq (Wp.region ?_)
 refine LWp.o 5 (I 0) ?_
 refine LWp.nil ?_
 refine Wp.l1 h [0, 1, 5] [] (fun s => (w_markLeafS_H1 s.1 s.2.1 s.2.2)) [0, 1] [] (fun s => (w_markLeafS_H2 s.1 s.2)) ⟨rfl, rfl⟩ ?_ ?_
 · rintro ⟨yA1, yK1, yI1⟩ o (h : w_markLeafS_b1 yA1 yK1 yI1 = some o)
   unfold w_markLeafS_b1 at h
   change Wp _ _ _ (w_markLeafS_H1 yA1 yK1 yI1) _
   refine Wp.seq ?_
   refine Wp.seq (Wp.region ?_)
   refine LWp.o 6 (I yI1) ?_
   refine LWp.o 7 (.one (.view (.slot 0) 0 [] 0)) ?_
   refine LWp.o 8 (I (ln yA1)) ?_ (st_pure (p_ln k165 yA1))
   refine LWp.o 9 (B (decide (yI1 < (ln yA1)))) ?_
   refine LWp.nil ?_
   refine Wp.c h (fun h => ?_) (fun h => ?_)
   · refine Wp.skip ?_
     refine Wp.seq ?_
     refine Wp.block ?_
     refine Wp.seq (Wp.region ?_)
     refine LWp.o 12 (.one (.view (.slot 0) 0 [] 0)) ?_
     refine LWp.o 13 (I yI1) ?_
     refine LWp.o 14 (I yK1) ?_
     refine LWp.p h 15 (fun _ => (.one (.ptr (.slot 0) 0 [0] (Int.toNat yI1 * 2 + 0)))) ?_ (fun x1 gx1 => st_pure (p_ix k165 (.slot 0) [] 0 gx1))
     intro x1 gx1 h
     refine LWp.o 16 (.one (.ptr (.slot 0) 0 [0] (Int.toNat yI1 * 2 + 0))) ?_ (st_pure (p_fa k165 (.slot 0) [0] 0 gx1))
     refine LWp.sb [] (.slot 0) [.sl true 165 2 (encs c165 (si yA1 yI1 (Leaf.mk yK1 x1.Text)))] ?_ (s_st [] (q := [0]) (cs := [.sl true 165 2 (encs c165 yA1)]) (xs := [.int .i64 yK1]) (At.one (setRow_gi k165 (k := 0) (z := (Leaf.mk yK1 x1.Text)) gx1 rfl rfl)) (fit_gi k165 (k := 0) gx1 rfl))
     refine LWp.nil ?_
     refine Wp.seq (Wp.region ?_)
     refine LWp.o 17 (I yK1) ?_
     refine LWp.o 18 (I (ad yK1 1)) ?_
     refine LWp.o 1 (I (ad yK1 1)) ?_
     refine LWp.nil ?_
     refine Wp.seq (Wp.region ?_)
     refine LWp.o 19 (.one (.view (.slot 0) 1 [] 0)) ?_
     refine LWp.o 20 (I yI1) ?_
     refine LWp.o 21 (I (ad yK1 1)) ?_
     refine LWp.cl h 22 (fun v1 => (Y v1)) rfl (l := [.sv (.one (.int .i64 (ad yK1 1)))]) rfl (fun v hv => w_markText_t (ad yK1 1) v hv) (.inl rfl) ?_
     intro v1 gv1 h
     refine LWp.p h 23 (fun _ => (.one (.ptr (.slot 0) 1 [0] (Int.toNat yI1 * 2 + 0)))) ?_ (fun x2 gx2 => st_pure (p_ix k165 (.slot 0) [] 0 gx2))
     intro x2 gx2 h
     refine LWp.o 24 (.one (.ptr (.slot 0) 1 [0] (Int.toNat yI1 * 2 + 1))) ?_ (st_pure (p_fa k165 (.slot 0) [0] 0 gx2))
     refine LWp.sb [] (.slot 0) [.sl true 165 2 (encs c165 (si (si yA1 yI1 (Leaf.mk yK1 x1.Text)) yI1 (Leaf.mk x2.Is v1)))] ?_ (s_st [] (q := [0]) (cs := [.sl true 165 2 (encs c165 (si yA1 yI1 (Leaf.mk yK1 x1.Text)))]) (xs := [.str v1]) (At.one (setRow_gi k165 (k := 1) (z := (Leaf.mk x2.Is v1)) gx2 rfl rfl)) (fit_gi k165 (k := 1) gx2 rfl))
     refine LWp.nil ?_
     refine Wp.region ?_
     refine LWp.o 25 (I (ad yK1 1)) ?_
     refine LWp.o 26 (I (ad (ad yK1 1) 1)) ?_
     refine LWp.o 1 (I (ad (ad yK1 1) 1)) ?_
     refine LWp.nil ?_
     refine Wp.region ?_
     refine LWp.o 10 (I yI1) ?_
     refine LWp.o 11 (I (ad yI1 1)) ?_
     refine LWp.o 5 (I (ad yI1 1)) ?_
     refine LWp.nil ?_
     cases h
     exact ⟨_, rfl, rfl, rfl⟩
   refine Wp.exit ?_
   cases h
   exact ⟨_, rfl, rfl, rfl⟩
 intro v2 h E hE
 refine nt_wp hE ?_
 change Wp _ _ _ (w_markLeafS_H2 v2.1 v2.2) _
 refine Wp.seq (Wp.region ?_)
 refine LWp.o 27 (I v2.2) ?_
 refine LWp.o 4 (I v2.2) ?_
 refine LWp.nil ?_
 cases h
 exact Wp.ret ⟨.inr rfl, _, _, rfl, rfl, rfl, rfl⟩
def w_markBlockS_H1 (z1 : List Block) (z2 : Int) (z3 : Int) : St := mkStF [(0, (.one (.sl true 124 3 (encs (c124 true) z1)))), (1, (I z2)), (5, (I z3))] []
def w_markBlockS_H2 (z4 : List Block) (z5 : Int) : St := mkStF [(0, (.one (.sl true 124 3 (encs (c124 true) z4)))), (1, (I z5))] []
theorem w_markBlockS_t (xA : List Block) (xK : Int) (r : Int × List Block) (h : w_markBlockS xA xK = some r) : Gives Tryz.prog 96 [.sv (.one (.sl true 124 3 (encs (c124 true) xA))), .sv (I xK)] (I r.1) (.sv (.one (.sl true 124 3 (encs (c124 true) r.2))) :: List.replicate 1 .gone) := by
 unfold w_markBlockS at h
 refine gives_lent Tryz.func96 rfl ?_
 rw [Tryz.ntmps96]
 refine Wp.seq (Wp.region ?_)
 refine LWp.o 4 (I 0) ?_
 refine LWp.nil ?_
 refine Wp.seq ?_
 refine Wp.seq (Wp.region ?_)
 refine LWp.o 5 (I 0) ?_
 refine LWp.nil ?_
 refine Wp.l1 h [0, 1, 5] [] (fun s => (w_markBlockS_H1 s.1 s.2.1 s.2.2)) [0, 1] [] (fun s => (w_markBlockS_H2 s.1 s.2)) ⟨rfl, rfl⟩ ?_ ?_
 · rintro ⟨yA1, yK1, yI1⟩ o (h : w_markBlockS_b1 yA1 yK1 yI1 = some o)
   unfold w_markBlockS_b1 at h
   change Wp _ _ _ (w_markBlockS_H1 yA1 yK1 yI1) _
   refine Wp.seq ?_
   refine Wp.seq (Wp.region ?_)
   refine LWp.o 6 (I yI1) ?_
   refine LWp.o 7 (.one (.view (.slot 0) 0 [] 0)) ?_
   refine LWp.o 8 (I (ln yA1)) ?_ (st_pure (p_ln (k124 true) yA1))
   refine LWp.o 9 (B (decide (yI1 < (ln yA1)))) ?_
   refine LWp.nil ?_
   refine Wp.c h (fun h => ?_) (fun h => ?_)
   · refine Wp.skip ?_
     refine Wp.seq ?_
     refine Wp.block ?_
     refine Wp.seq (Wp.region ?_)
     refine LWp.o 12 (.one (.view (.slot 0) 0 [] 0)) ?_
     refine LWp.o 13 (I yI1) ?_
     refine LWp.o 14 (I yK1) ?_
     refine LWp.o 15 (I (Int.tmod yK1 3)) ?_
     refine LWp.o 16 (B ((Int.tmod yK1 3) == 0)) ?_
     refine LWp.p h 17 (fun _ => (.one (.ptr (.slot 0) 0 [0] (Int.toNat yI1 * 3 + 0)))) ?_ (fun x1 gx1 => st_pure (p_ix (k124 true) (.slot 0) [] 0 gx1))
     intro x1 gx1 h
     refine LWp.o 18 (.one (.ptr (.slot 0) 0 [0] (Int.toNat yI1 * 3 + 0))) ?_ (st_pure (p_fa (k124 true) (.slot 0) [0] 0 gx1))
     refine LWp.sb [] (.slot 0) [.sl true 124 3 (encs (c124 true) (si yA1 yI1 (Block.mk ((Int.tmod yK1 3) == 0) x1.Wear x1.Leaves)))] ?_ (s_st [] (q := [0]) (cs := [.sl true 124 3 (encs (c124 true) yA1)]) (xs := [.bool ((Int.tmod yK1 3) == 0)]) (At.one (setRow_gi (k124 true) (k := 0) (z := (Block.mk ((Int.tmod yK1 3) == 0) x1.Wear x1.Leaves)) gx1 rfl rfl)) (fit_gi (k124 true) (k := 0) gx1 rfl))
     refine LWp.nil ?_
     refine Wp.seq (Wp.region ?_)
     refine LWp.o 19 (I yK1) ?_
     refine LWp.o 20 (I (ad yK1 1)) ?_
     refine LWp.o 1 (I (ad yK1 1)) ?_
     refine LWp.nil ?_
     refine Wp.seq (Wp.region ?_)
     refine LWp.o 21 (.one (.view (.slot 0) 1 [] 0)) ?_
     refine LWp.o 22 (I yI1) ?_
     refine LWp.o 23 (I (ad yK1 1)) ?_
     refine LWp.p h 24 (fun _ => (.one (.ptr (.slot 0) 1 [0] (Int.toNat yI1 * 3 + 0)))) ?_ (fun x2 gx2 => st_pure (p_ix (k124 true) (.slot 0) [] 0 gx2))
     intro x2 gx2 h
     refine LWp.o 25 (.one (.ptr (.slot 0) 1 [0] (Int.toNat yI1 * 3 + 1))) ?_ (st_pure (p_fa (k124 true) (.slot 0) [0] 0 gx2))
     refine LWp.sb [] (.slot 0) [.sl true 124 3 (encs (c124 true) (si (si yA1 yI1 (Block.mk ((Int.tmod yK1 3) == 0) x1.Wear x1.Leaves)) yI1 (Block.mk x2.Bad (ad yK1 1) x2.Leaves)))] ?_ (s_st [] (q := [0]) (cs := [.sl true 124 3 (encs (c124 true) (si yA1 yI1 (Block.mk ((Int.tmod yK1 3) == 0) x1.Wear x1.Leaves)))]) (xs := [.int .i64 (ad yK1 1)]) (At.one (setRow_gi (k124 true) (k := 1) (z := (Block.mk x2.Bad (ad yK1 1) x2.Leaves)) gx2 rfl rfl)) (fit_gi (k124 true) (k := 1) gx2 rfl))
     refine LWp.nil ?_
     refine Wp.seq (Wp.region ?_)
     refine LWp.o 26 (I (ad yK1 1)) ?_
     refine LWp.o 27 (I (ad (ad yK1 1) 1)) ?_
     refine LWp.o 1 (I (ad (ad yK1 1) 1)) ?_
     refine LWp.nil ?_
     refine Wp.region ?_
     refine LWp.o 28 (.one (.view (.slot 0) 2 [] 0)) ?_
     refine LWp.o 29 (I yI1) ?_
     refine LWp.p h 30 (fun _ => (.one (.ptr (.slot 0) 2 [0] (Int.toNat yI1 * 3 + 0)))) ?_ (fun x3 gx3 => st_pure (p_ix (k124 true) (.slot 0) [] 0 gx3))
     intro x3 gx3 h
     refine LWp.o 31 (.one (.ptr (.slot 0) 2 [0] (Int.toNat yI1 * 3 + 2))) ?_ (st_pure (p_fa (k124 true) (.slot 0) [0] 0 gx3))
     refine LWp.o 32 (.one (.view (.slot 0) 2 [0] (Int.toNat yI1 * 3 + 2))) ?_ (st_pure (p_lc (k124 true) (.slot 0) [0] 2 (.sl true 165 2 (encs c165 x3.Leaves)) gx3))
     refine LWp.o 33 (I (ad (ad yK1 1) 1)) ?_
     refine LWp.leb h (.slot 0) [0] (Int.toNat yI1 * 3 + 2) [.sl true 124 3 (encs (c124 true) (si (si yA1 yI1 (Block.mk ((Int.tmod yK1 3) == 0) x1.Wear x1.Leaves)) yI1 (Block.mk x2.Bad (ad yK1 1) x2.Leaves)))] 34 (e := 165) (sz := 2) (encs c165 x3.Leaves) (ad (ad yK1 1) 1) (fun v => v.1) (fun v1 => (encs c165 v1.2)) (fun v1 => [.sl true 124 3 (encs (c124 true) (si (si (si yA1 yI1 (Block.mk ((Int.tmod yK1 3) == 0) x1.Wear x1.Leaves)) yI1 (Block.mk x2.Bad (ad yK1 1) x2.Leaves)) yI1 (Block.mk x3.Bad x3.Wear v1.2)))]) rfl (fun v1 => At.one (set_gi (k124 true) (k := 2) (z := (Block.mk x3.Bad x3.Wear v1.2)) gx3 rfl rfl)) ((gi_cellb (k124 true) (k := 2) gx3).trans rfl) (fun v hv => w_markLeafS_t x3.Leaves (ad (ad yK1 1) 1) v hv) (ns165 _) (fun _ => ns165 _) ?_ (.inl ⟨0, _, rfl, rfl, rfl, rfl, fun _ _ _ _ _ _ _ h => h⟩)
     intro v1 gv1 h
     refine LWp.o 1 (I v1.1) ?_
     refine LWp.nil ?_
     refine Wp.region ?_
     refine LWp.o 10 (I yI1) ?_
     refine LWp.o 11 (I (ad yI1 1)) ?_
     refine LWp.o 5 (I (ad yI1 1)) ?_
     refine LWp.nil ?_
     cases h
     exact ⟨_, rfl, rfl, rfl⟩
   refine Wp.exit ?_
   cases h
   exact ⟨_, rfl, rfl, rfl⟩
 intro v2 h E hE
 refine nt_wp hE ?_
 change Wp _ _ _ (w_markBlockS_H2 v2.1 v2.2) _
 refine Wp.seq (Wp.region ?_)
 refine LWp.o 35 (I v2.2) ?_
 refine LWp.o 4 (I v2.2) ?_
 refine LWp.nil ?_
 cases h
 exact Wp.ret ⟨.inr rfl, _, _, rfl, rfl, rfl, rfl⟩
theorem w_markFlash_t (xA : Flash) (xK : Int) (r : Int) (h : w_markFlash xA xK = some r) : Gives Tryz.prog 51 [.sv (.agg [.sl true 124 3 (encs (c124 true) xA.Blocks)]), .sv (I xK)] (I r) (List.replicate 2 .gone) := by
 unfold w_markFlash at h
 refine gives_of Tryz.func51 rfl ?_
 rw [Tryz.ntmps51]
 refine Wp.seq (Wp.region ?_)
 refine LWp.b [(.slot 0, [.junk])] 2 [.sl true 124 3 (encs (c124 true) xA.Blocks)] ?_
 refine LWp.o 4 (I 0) ?_
 refine LWp.nil ?_
 refine Wp.seq (Wp.region ?_)
 refine LWp.o 5 (.one (.ptr (.box 2) 1 [] 0)) ?_
 refine LWp.o 6 (.one (.view (.box 2) 1 [] 0)) ?_
 refine LWp.o 7 (I xK) ?_
 refine LWp.leb h (.box 2) [] 0 [.sl true 124 3 (encs (c124 true) xA.Blocks)] 8 (e := 124) (sz := 3) (encs (c124 true) xA.Blocks) xK (fun v => v.1) (fun v1 => (encs (c124 true) v1.2)) (fun v1 => [.sl true 124 3 (encs (c124 true) v1.2)]) rfl (fun v1 => At.nl rfl) rfl (fun v hv => w_markBlockS_t xA.Blocks xK v hv) (ns124 _) (fun _ => ns124 _) ?_ (.inr ⟨rfl, rfl⟩)
 intro v1 gv1 h
 refine LWp.o 1 (I v1.1) ?_
 refine LWp.nil ?_
 refine Wp.seq (Wp.region ?_)
 refine LWp.o 9 (I v1.1) ?_
 refine LWp.o 4 (I v1.1) ?_
 refine LWp.nil ?_
 cases h
 exact Wp.ret ⟨.inr rfl, _, _, rfl, rfl⟩
def w_markVolS_H1 (z1 : List Vol) (z2 : Int) (z3 : Int) : St := mkStF [(0, (.one (.sl true 110 2 (encs c110 z1)))), (1, (I z2)), (5, (I z3))] []
def w_markVolS_H2 (z4 : List Vol) (z5 : Int) : St := mkStF [(0, (.one (.sl true 110 2 (encs c110 z4)))), (1, (I z5))] []
theorem w_markVolS_t (xA : List Vol) (xK : Int) (r : Int × List Vol) (h : w_markVolS xA xK = some r) : Gives Tryz.prog 97 [.sv (.one (.sl true 110 2 (encs c110 xA))), .sv (I xK)] (I r.1) (.sv (.one (.sl true 110 2 (encs c110 r.2))) :: List.replicate 1 .gone) := by
 unfold w_markVolS at h
 refine gives_lent Tryz.func97 rfl ?_
 rw [Tryz.ntmps97]
 refine Wp.seq (Wp.region ?_)
 refine LWp.o 4 (I 0) ?_
 refine LWp.nil ?_
 refine Wp.seq ?_
 refine Wp.seq (Wp.region ?_)
 refine LWp.o 5 (I 0) ?_
 refine LWp.nil ?_
 refine Wp.l1 h [0, 1, 5] [] (fun s => (w_markVolS_H1 s.1 s.2.1 s.2.2)) [0, 1] [] (fun s => (w_markVolS_H2 s.1 s.2)) ⟨rfl, rfl⟩ ?_ ?_
 · rintro ⟨yA1, yK1, yI1⟩ o (h : w_markVolS_b1 yA1 yK1 yI1 = some o)
   unfold w_markVolS_b1 at h
   change Wp _ _ _ (w_markVolS_H1 yA1 yK1 yI1) _
   refine Wp.seq ?_
   refine Wp.seq (Wp.region ?_)
   refine LWp.o 6 (I yI1) ?_
   refine LWp.o 7 (.one (.view (.slot 0) 0 [] 0)) ?_
   refine LWp.o 8 (I (ln yA1)) ?_ (st_pure (p_ln k110 yA1))
   refine LWp.o 9 (B (decide (yI1 < (ln yA1)))) ?_
   refine LWp.nil ?_
   refine Wp.c h (fun h => ?_) (fun h => ?_)
   · refine Wp.skip ?_
     refine Wp.seq ?_
     refine Wp.block ?_
     refine Wp.seq (Wp.region ?_)
     refine LWp.o 12 (.one (.view (.slot 0) 0 [] 0)) ?_
     refine LWp.o 13 (I yI1) ?_
     refine LWp.o 14 (I yK1) ?_
     refine LWp.p h 15 (fun _ => (.one (.ptr (.slot 0) 0 [0] (Int.toNat yI1 * 2 + 0)))) ?_ (fun x1 gx1 => st_pure (p_ix k110 (.slot 0) [] 0 gx1))
     intro x1 gx1 h
     refine LWp.o 16 (.one (.ptr (.slot 0) 0 [0] (Int.toNat yI1 * 2 + 0))) ?_ (st_pure (p_fa k110 (.slot 0) [0] 0 gx1))
     refine LWp.sb [] (.slot 0) [.sl true 110 2 (encs c110 (si yA1 yI1 (Vol.mk yK1 x1.Root)))] ?_ (s_st [] (q := [0]) (cs := [.sl true 110 2 (encs c110 yA1)]) (xs := [.int .i64 yK1]) (At.one (setRow_gi k110 (k := 0) (z := (Vol.mk yK1 x1.Root)) gx1 rfl rfl)) (fit_gi k110 (k := 0) gx1 rfl))
     refine LWp.nil ?_
     refine Wp.seq (Wp.region ?_)
     refine LWp.o 17 (I yK1) ?_
     refine LWp.o 18 (I (ad yK1 1)) ?_
     refine LWp.o 1 (I (ad yK1 1)) ?_
     refine LWp.nil ?_
     refine Wp.seq (Wp.region ?_)
     refine LWp.o 19 (.one (.view (.slot 0) 1 [] 0)) ?_
     refine LWp.o 20 (I yI1) ?_
     refine LWp.o 21 (I (ad yK1 1)) ?_
     refine LWp.p h 22 (fun _ => (.one (.ptr (.slot 0) 1 [0] (Int.toNat yI1 * 2 + 0)))) ?_ (fun x2 gx2 => st_pure (p_ix k110 (.slot 0) [] 0 gx2))
     intro x2 gx2 h
     refine LWp.o 23 (.one (.ptr (.slot 0) 1 [0] (Int.toNat yI1 * 2 + 1))) ?_ (st_pure (p_fa k110 (.slot 0) [0] 0 gx2))
     refine LWp.sb [] (.slot 0) [.sl true 110 2 (encs c110 (si (si yA1 yI1 (Vol.mk yK1 x1.Root)) yI1 (Vol.mk x2.Id (ad yK1 1))))] ?_ (s_st [] (q := [0]) (cs := [.sl true 110 2 (encs c110 (si yA1 yI1 (Vol.mk yK1 x1.Root)))]) (xs := [.int .i64 (ad yK1 1)]) (At.one (setRow_gi k110 (k := 1) (z := (Vol.mk x2.Id (ad yK1 1))) gx2 rfl rfl)) (fit_gi k110 (k := 1) gx2 rfl))
     refine LWp.nil ?_
     refine Wp.region ?_
     refine LWp.o 24 (I (ad yK1 1)) ?_
     refine LWp.o 25 (I (ad (ad yK1 1) 1)) ?_
     refine LWp.o 1 (I (ad (ad yK1 1) 1)) ?_
     refine LWp.nil ?_
     refine Wp.region ?_
     refine LWp.o 10 (I yI1) ?_
     refine LWp.o 11 (I (ad yI1 1)) ?_
     refine LWp.o 5 (I (ad yI1 1)) ?_
     refine LWp.nil ?_
     cases h
     exact ⟨_, rfl, rfl, rfl⟩
   refine Wp.exit ?_
   cases h
   exact ⟨_, rfl, rfl, rfl⟩
 intro v1 h E hE
 refine nt_wp hE ?_
 change Wp _ _ _ (w_markVolS_H2 v1.1 v1.2) _
 refine Wp.seq (Wp.region ?_)
 refine LWp.o 26 (I v1.2) ?_
 refine LWp.o 4 (I v1.2) ?_
 refine LWp.nil ?_
 cases h
 exact Wp.ret ⟨.inr rfl, _, _, rfl, rfl, rfl, rfl⟩
def w_markIntS_H1 (z1 : List Int) (z2 : Int) (z3 : Int) : St := mkStF [(0, (.one (.sl true 3 1 (encs c3 z1)))), (1, (I z2)), (5, (I z3))] []
def w_markIntS_H2 (z4 : List Int) (z5 : Int) : St := mkStF [(0, (.one (.sl true 3 1 (encs c3 z4)))), (1, (I z5))] []
theorem w_markIntS_t (xA : List Int) (xK : Int) (r : Int × List Int) (h : w_markIntS xA xK = some r) : Gives Tryz.prog 31 [.sv (.one (.sl true 3 1 (encs c3 xA))), .sv (I xK)] (I r.1) (.sv (.one (.sl true 3 1 (encs c3 r.2))) :: List.replicate 1 .gone) := by
 unfold w_markIntS at h
 refine gives_lent Tryz.func31 rfl ?_
 rw [Tryz.ntmps31]
 refine Wp.seq (Wp.region ?_)
 refine LWp.o 4 (I 0) ?_
 refine LWp.nil ?_
 refine Wp.seq ?_
 refine Wp.seq (Wp.region ?_)
 refine LWp.o 5 (I 0) ?_
 refine LWp.nil ?_
 refine Wp.l1 h [0, 1, 5] [] (fun s => (w_markIntS_H1 s.1 s.2.1 s.2.2)) [0, 1] [] (fun s => (w_markIntS_H2 s.1 s.2)) ⟨rfl, rfl⟩ ?_ ?_
 · rintro ⟨yA1, yK1, yI1⟩ o (h : w_markIntS_b1 yA1 yK1 yI1 = some o)
   unfold w_markIntS_b1 at h
   change Wp _ _ _ (w_markIntS_H1 yA1 yK1 yI1) _
   refine Wp.seq ?_
   refine Wp.seq (Wp.region ?_)
   refine LWp.o 6 (I yI1) ?_
   refine LWp.o 7 (.one (.view (.slot 0) 0 [] 0)) ?_
   refine LWp.o 8 (I (ln yA1)) ?_ (st_pure (p_ln k3 yA1))
   refine LWp.o 9 (B (decide (yI1 < (ln yA1)))) ?_
   refine LWp.nil ?_
   refine Wp.c h (fun h => ?_) (fun h => ?_)
   · refine Wp.skip ?_
     refine Wp.seq ?_
     refine Wp.block ?_
     refine Wp.seq (Wp.region ?_)
     refine LWp.o 12 (.one (.view (.slot 0) 0 [] 0)) ?_
     refine LWp.o 13 (I yI1) ?_
     refine LWp.o 14 (I yK1) ?_
     refine LWp.p h 15 (fun _ => (.one (.ptr (.slot 0) 0 [0] (Int.toNat yI1 * 1 + 0)))) ?_ (fun x1 gx1 => st_pure (p_ix k3 (.slot 0) [] 0 gx1))
     intro x1 gx1 h
     refine LWp.sb [] (.slot 0) [.sl true 3 1 (encs c3 (si yA1 yI1 yK1))] ?_ (s_st [] (q := [0]) (cs := [.sl true 3 1 (encs c3 yA1)]) (xs := [.int .i64 yK1]) (At.one (setRow_gi k3 (k := 0) (z := yK1) gx1 rfl rfl)) (fit_gi k3 (k := 0) gx1 rfl))
     refine LWp.nil ?_
     refine Wp.region ?_
     refine LWp.o 16 (I yK1) ?_
     refine LWp.o 17 (I (ad yK1 1)) ?_
     refine LWp.o 1 (I (ad yK1 1)) ?_
     refine LWp.nil ?_
     refine Wp.region ?_
     refine LWp.o 10 (I yI1) ?_
     refine LWp.o 11 (I (ad yI1 1)) ?_
     refine LWp.o 5 (I (ad yI1 1)) ?_
     refine LWp.nil ?_
     cases h
     exact ⟨_, rfl, rfl, rfl⟩
   refine Wp.exit ?_
   cases h
   exact ⟨_, rfl, rfl, rfl⟩
 intro v1 h E hE
 refine nt_wp hE ?_
 change Wp _ _ _ (w_markIntS_H2 v1.1 v1.2) _
 refine Wp.seq (Wp.region ?_)
 refine LWp.o 18 (I v1.2) ?_
 refine LWp.o 4 (I v1.2) ?_
 refine LWp.nil ?_
 cases h
 exact Wp.ret ⟨.inr rfl, _, _, rfl, rfl, rfl, rfl⟩
def w_markKnotS_H1 (z1 : List Knot) (z2 : Int) (z3 : Int) : St := mkStF [(0, (.one (.sl true 218 2 (encs (c218 true) z1)))), (1, (I z2)), (5, (I z3))] []
def w_markKnotS_H2 (z4 : List Knot) (z5 : Int) : St := mkStF [(0, (.one (.sl true 218 2 (encs (c218 true) z4)))), (1, (I z5))] []
theorem w_markKnotS_t (xA : List Knot) (xK : Int) (r : Int × List Knot) (h : w_markKnotS xA xK = some r) : Gives Tryz.prog 149 [.sv (.one (.sl true 218 2 (encs (c218 true) xA))), .sv (I xK)] (I r.1) (.sv (.one (.sl true 218 2 (encs (c218 true) r.2))) :: List.replicate 1 .gone) := by
 unfold w_markKnotS at h
 refine gives_lent Tryz.func149 rfl ?_
 rw [Tryz.ntmps149]
 refine Wp.seq (Wp.region ?_)
 refine LWp.o 4 (I 0) ?_
 refine LWp.nil ?_
 refine Wp.seq ?_
 refine Wp.seq (Wp.region ?_)
 refine LWp.o 5 (I 0) ?_
 refine LWp.nil ?_
 refine Wp.l1 h [0, 1, 5] [] (fun s => (w_markKnotS_H1 s.1 s.2.1 s.2.2)) [0, 1] [] (fun s => (w_markKnotS_H2 s.1 s.2)) ⟨rfl, rfl⟩ ?_ ?_
 · rintro ⟨yA1, yK1, yI1⟩ o (h : w_markKnotS_b1 yA1 yK1 yI1 = some o)
   unfold w_markKnotS_b1 at h
   change Wp _ _ _ (w_markKnotS_H1 yA1 yK1 yI1) _
   refine Wp.seq ?_
   refine Wp.seq (Wp.region ?_)
   refine LWp.o 6 (I yI1) ?_
   refine LWp.o 7 (.one (.view (.slot 0) 0 [] 0)) ?_
   refine LWp.o 8 (I (ln yA1)) ?_ (st_pure (p_ln (k218 true) yA1))
   refine LWp.o 9 (B (decide (yI1 < (ln yA1)))) ?_
   refine LWp.nil ?_
   refine Wp.c h (fun h => ?_) (fun h => ?_)
   · refine Wp.skip ?_
     refine Wp.seq ?_
     refine Wp.block ?_
     refine Wp.seq (Wp.region ?_)
     refine LWp.o 12 (.one (.view (.slot 0) 0 [] 0)) ?_
     refine LWp.o 13 (I yI1) ?_
     refine LWp.o 14 (I yK1) ?_
     refine LWp.o 15 (I (Int.tmod yK1 3)) ?_
     refine LWp.o 16 (B ((Int.tmod yK1 3) == 0)) ?_
     refine LWp.p h 17 (fun _ => (.one (.ptr (.slot 0) 0 [0] (Int.toNat yI1 * 2 + 0)))) ?_ (fun x1 gx1 => st_pure (p_ix (k218 true) (.slot 0) [] 0 gx1))
     intro x1 gx1 h
     refine LWp.o 18 (.one (.ptr (.slot 0) 0 [0] (Int.toNat yI1 * 2 + 0))) ?_ (st_pure (p_fa (k218 true) (.slot 0) [0] 0 gx1))
     refine LWp.sb [] (.slot 0) [.sl true 218 2 (encs (c218 true) (si yA1 yI1 (Knot.mk ((Int.tmod yK1 3) == 0) x1.Kids)))] ?_ (s_st [] (q := [0]) (cs := [.sl true 218 2 (encs (c218 true) yA1)]) (xs := [.bool ((Int.tmod yK1 3) == 0)]) (At.one (setRow_gi (k218 true) (k := 0) (z := (Knot.mk ((Int.tmod yK1 3) == 0) x1.Kids)) gx1 rfl rfl)) (fit_gi (k218 true) (k := 0) gx1 rfl))
     refine LWp.nil ?_
     refine Wp.seq (Wp.region ?_)
     refine LWp.o 19 (I yK1) ?_
     refine LWp.o 20 (I (ad yK1 1)) ?_
     refine LWp.o 1 (I (ad yK1 1)) ?_
     refine LWp.nil ?_
     refine Wp.region ?_
     refine LWp.o 21 (.one (.view (.slot 0) 1 [] 0)) ?_
     refine LWp.o 22 (I yI1) ?_
     refine LWp.p h 23 (fun _ => (.one (.ptr (.slot 0) 1 [0] (Int.toNat yI1 * 2 + 0)))) ?_ (fun x2 gx2 => st_pure (p_ix (k218 true) (.slot 0) [] 0 gx2))
     intro x2 gx2 h
     refine LWp.o 24 (.one (.ptr (.slot 0) 1 [0] (Int.toNat yI1 * 2 + 1))) ?_ (st_pure (p_fa (k218 true) (.slot 0) [0] 0 gx2))
     refine LWp.o 25 (.one (.view (.slot 0) 1 [0] (Int.toNat yI1 * 2 + 1))) ?_ (st_pure (p_lc (k218 true) (.slot 0) [0] 1 (.sl true 3 1 (encs c3 x2.Kids)) gx2))
     refine LWp.o 26 (I (ad yK1 1)) ?_
     refine LWp.leb h (.slot 0) [0] (Int.toNat yI1 * 2 + 1) [.sl true 218 2 (encs (c218 true) (si yA1 yI1 (Knot.mk ((Int.tmod yK1 3) == 0) x1.Kids)))] 27 (e := 3) (sz := 1) (encs c3 x2.Kids) (ad yK1 1) (fun v => v.1) (fun v1 => (encs c3 v1.2)) (fun v1 => [.sl true 218 2 (encs (c218 true) (si (si yA1 yI1 (Knot.mk ((Int.tmod yK1 3) == 0) x1.Kids)) yI1 (Knot.mk x2.Leaf v1.2)))]) rfl (fun v1 => At.one (set_gi (k218 true) (k := 1) (z := (Knot.mk x2.Leaf v1.2)) gx2 rfl rfl)) ((gi_cellb (k218 true) (k := 1) gx2).trans rfl) (fun v hv => w_markIntS_t x2.Kids (ad yK1 1) v hv) (ns3 _) (fun _ => ns3 _) ?_ (.inl ⟨0, _, rfl, rfl, rfl, rfl, fun _ _ _ _ _ _ _ h => h⟩)
     intro v1 gv1 h
     refine LWp.o 1 (I v1.1) ?_
     refine LWp.nil ?_
     refine Wp.region ?_
     refine LWp.o 10 (I yI1) ?_
     refine LWp.o 11 (I (ad yI1 1)) ?_
     refine LWp.o 5 (I (ad yI1 1)) ?_
     refine LWp.nil ?_
     cases h
     exact ⟨_, rfl, rfl, rfl⟩
   refine Wp.exit ?_
   cases h
   exact ⟨_, rfl, rfl, rfl⟩
 intro v2 h E hE
 refine nt_wp hE ?_
 change Wp _ _ _ (w_markKnotS_H2 v2.1 v2.2) _
 refine Wp.seq (Wp.region ?_)
 refine LWp.o 28 (I v2.2) ?_
 refine LWp.o 4 (I v2.2) ?_
 refine LWp.nil ?_
 cases h
 exact Wp.ret ⟨.inr rfl, _, _, rfl, rfl, rfl, rfl⟩
theorem w_markArena_t (xA : Arena) (xK : Int) (r : Int) (h : w_markArena xA xK = some r) : Gives Tryz.prog 98 [.sv (.agg [.sl true 218 2 (encs (c218 true) xA.Knots)]), .sv (I xK)] (I r) (List.replicate 2 .gone) := by
 unfold w_markArena at h
 refine gives_of Tryz.func98 rfl ?_
 rw [Tryz.ntmps98]
 refine Wp.seq (Wp.region ?_)
 refine LWp.b [(.slot 0, [.junk])] 2 [.sl true 218 2 (encs (c218 true) xA.Knots)] ?_
 refine LWp.o 4 (I 0) ?_
 refine LWp.nil ?_
 refine Wp.seq (Wp.region ?_)
 refine LWp.o 5 (.one (.ptr (.box 2) 1 [] 0)) ?_
 refine LWp.o 6 (.one (.view (.box 2) 1 [] 0)) ?_
 refine LWp.o 7 (I xK) ?_
 refine LWp.leb h (.box 2) [] 0 [.sl true 218 2 (encs (c218 true) xA.Knots)] 8 (e := 218) (sz := 2) (encs (c218 true) xA.Knots) xK (fun v => v.1) (fun v1 => (encs (c218 true) v1.2)) (fun v1 => [.sl true 218 2 (encs (c218 true) v1.2)]) rfl (fun v1 => At.nl rfl) rfl (fun v hv => w_markKnotS_t xA.Knots xK v hv) (ns218 _) (fun _ => ns218 _) ?_ (.inr ⟨rfl, rfl⟩)
 intro v1 gv1 h
 refine LWp.o 1 (I v1.1) ?_
 refine LWp.nil ?_
 refine Wp.seq (Wp.region ?_)
 refine LWp.o 9 (I v1.1) ?_
 refine LWp.o 4 (I v1.1) ?_
 refine LWp.nil ?_
 cases h
 exact Wp.ret ⟨.inr rfl, _, _, rfl, rfl⟩
theorem w_markStore_t (xA : Store) (xK : Int) (r : Int) (h : w_markStore xA xK = some r) : Gives Tryz.prog 52 [.sv (.agg [.sl true 110 2 (encs c110 xA.Vols), .sl true 218 2 (encs (c218 true) xA.Arena.Knots), .int .i64 xA.Next]), .sv (I xK)] (I r) (List.replicate 2 .gone) := by
 unfold w_markStore at h
 refine gives_of Tryz.func52 rfl ?_
 rw [Tryz.ntmps52]
 refine Wp.seq (Wp.region ?_)
 refine LWp.b [(.slot 0, [.junk, .sl true 218 2 (encs (c218 true) xA.Arena.Knots), .int .i64 xA.Next]), (.slot 0, [.junk, .junk, .int .i64 xA.Next])] 2 [.sl true 110 2 (encs c110 xA.Vols), .sl true 218 2 (encs (c218 true) xA.Arena.Knots), .int .i64 xA.Next] ?_
 refine LWp.o 4 (I 0) ?_
 refine LWp.nil ?_
 refine Wp.seq (Wp.region ?_)
 refine LWp.o 5 (.one (.ptr (.box 2) 1 [] 0)) ?_
 refine LWp.o 6 (.one (.view (.box 2) 1 [] 0)) ?_
 refine LWp.o 7 (I xK) ?_
 refine LWp.leb h (.box 2) [] 0 [.sl true 110 2 (encs c110 xA.Vols), .sl true 218 2 (encs (c218 true) xA.Arena.Knots), .int .i64 xA.Next] 8 (e := 110) (sz := 2) (encs c110 xA.Vols) xK (fun v => v.1) (fun v1 => (encs c110 v1.2)) (fun v1 => [.sl true 110 2 (encs c110 v1.2), .sl true 218 2 (encs (c218 true) xA.Arena.Knots), .int .i64 xA.Next]) rfl (fun v1 => At.nl rfl) rfl (fun v hv => w_markVolS_t xA.Vols xK v hv) (ns110 _) (fun _ => ns110 _) ?_ (.inr ⟨rfl, rfl⟩)
 intro v1 gv1 h
 refine LWp.o 1 (I v1.1) ?_
 refine LWp.nil ?_
 refine Wp.seq (Wp.region ?_)
 refine LWp.o 9 (.one (.ptr (.box 2) 1 [] 1)) ?_
 refine LWp.o 10 (.agg [.view (.box 2) 2 [] 1]) ?_
 refine LWp.o 11 (I v1.1) ?_
 refine LWp.cv h [(true, 45, .tmp 10), (false, 3, .tmp 11)] [(.box 2, [.sl true 110 2 (encs c110 v1.2), .junk, .int .i64 xA.Next])] 12 (fun v2 => (I v2)) rfl rfl rfl (avl := [.sv (.agg [.sl true 218 2 (encs (c218 true) xA.Arena.Knots)]), .sv (.one (.int .i64 v1.1))]) rfl (fun v hv => w_markArena_t xA.Arena v1.1 v hv) (.inl rfl) ?_
 intro v2 gv2 h
 refine LWp.o 1 (I v2) ?_
 refine LWp.nil ?_
 refine Wp.seq (Wp.region ?_)
 refine LWp.o 13 (I v2) ?_
 refine LWp.o 4 (I v2) ?_
 refine LWp.nil ?_
 cases h
 exact Wp.ret ⟨.inr rfl, _, _, rfl, rfl⟩
theorem w_markDevice_t (xA : Device) (xK : Int) (r : Int) (h : w_markDevice xA xK = some r) : Gives Tryz.prog 17 [.sv (.agg [.sl true 124 3 (encs (c124 true) xA.Flash.Blocks), .sl true 110 2 (encs c110 xA.Store.Vols), .sl true 218 2 (encs (c218 true) xA.Store.Arena.Knots), .int .i64 xA.Store.Next, .int .i64 xA.Seq, .int .i64 xA.Tx, .int .i64 xA.Base]), .sv (I xK)] (I r) (List.replicate 2 .gone) := by
 unfold w_markDevice at h
 refine gives_of Tryz.func17 rfl ?_
 rw [Tryz.ntmps17]
 refine Wp.seq (Wp.region ?_)
 refine LWp.b [(.slot 0, [.junk, .sl true 110 2 (encs c110 xA.Store.Vols), .sl true 218 2 (encs (c218 true) xA.Store.Arena.Knots), .int .i64 xA.Store.Next, .int .i64 xA.Seq, .int .i64 xA.Tx, .int .i64 xA.Base]), (.slot 0, [.junk, .junk, .sl true 218 2 (encs (c218 true) xA.Store.Arena.Knots), .int .i64 xA.Store.Next, .int .i64 xA.Seq, .int .i64 xA.Tx, .int .i64 xA.Base]), (.slot 0, [.junk, .junk, .junk, .int .i64 xA.Store.Next, .int .i64 xA.Seq, .int .i64 xA.Tx, .int .i64 xA.Base])] 2 [.sl true 124 3 (encs (c124 true) xA.Flash.Blocks), .sl true 110 2 (encs c110 xA.Store.Vols), .sl true 218 2 (encs (c218 true) xA.Store.Arena.Knots), .int .i64 xA.Store.Next, .int .i64 xA.Seq, .int .i64 xA.Tx, .int .i64 xA.Base] ?_
 refine LWp.o 4 (I 0) ?_
 refine LWp.nil ?_
 refine Wp.seq (Wp.region ?_)
 refine LWp.o 5 (.one (.ptr (.box 2) 1 [] 0)) ?_
 refine LWp.o 6 (.agg [.view (.box 2) 1 [] 0]) ?_
 refine LWp.o 7 (I xK) ?_
 refine LWp.cv h [(true, 41, .tmp 6), (false, 3, .tmp 7)] [(.box 2, [.junk, .sl true 110 2 (encs c110 xA.Store.Vols), .sl true 218 2 (encs (c218 true) xA.Store.Arena.Knots), .int .i64 xA.Store.Next, .int .i64 xA.Seq, .int .i64 xA.Tx, .int .i64 xA.Base])] 8 (fun v1 => (I v1)) rfl rfl rfl (avl := [.sv (.agg [.sl true 124 3 (encs (c124 true) xA.Flash.Blocks)]), .sv (.one (.int .i64 xK))]) rfl (fun v hv => w_markFlash_t xA.Flash xK v hv) (.inl rfl) ?_
 intro v1 gv1 h
 refine LWp.o 1 (I v1) ?_
 refine LWp.nil ?_
 refine Wp.seq (Wp.region ?_)
 refine LWp.o 9 (.one (.ptr (.box 2) 1 [] 1)) ?_
 refine LWp.o 10 (.agg [.view (.box 2) 2 [] 1, .view (.box 2) 2 [] 2, .int .i64 xA.Store.Next]) ?_
 refine LWp.o 11 (I v1) ?_
 refine LWp.cv h [(true, 47, .tmp 10), (false, 3, .tmp 11)] [(.box 2, [.junk, .junk, .sl true 218 2 (encs (c218 true) xA.Store.Arena.Knots), .int .i64 xA.Store.Next, .int .i64 xA.Seq, .int .i64 xA.Tx, .int .i64 xA.Base]), (.box 2, [.junk, .junk, .junk, .int .i64 xA.Store.Next, .int .i64 xA.Seq, .int .i64 xA.Tx, .int .i64 xA.Base])] 12 (fun v2 => (I v2)) rfl rfl rfl (avl := [.sv (.agg [.sl true 110 2 (encs c110 xA.Store.Vols), .sl true 218 2 (encs (c218 true) xA.Store.Arena.Knots), .int .i64 xA.Store.Next]), .sv (.one (.int .i64 v1))]) rfl (fun v hv => w_markStore_t xA.Store v1 v hv) (.inl rfl) ?_
 intro v2 gv2 h
 refine LWp.o 1 (I v2) ?_
 refine LWp.nil ?_
 refine Wp.seq (Wp.region ?_)
 refine LWp.o 13 (I v2) ?_
 refine LWp.o 4 (I v2) ?_
 refine LWp.nil ?_
 cases h
 exact Wp.ret ⟨.inr rfl, _, _, rfl, rfl⟩
def w_markStepS_H1 (z1 : List Step) (z2 : Int) (z3 : Int) : St := mkStF [(0, (.one (.sl true 99 4 (encs c99 z1)))), (1, (I z2)), (5, (I z3))] []
def w_markStepS_H2 (z4 : List Step) (z5 : Int) : St := mkStF [(0, (.one (.sl true 99 4 (encs c99 z4)))), (1, (I z5))] []
theorem w_markStepS_t (xA : List Step) (xK : Int) (r : Int × List Step) (h : w_markStepS xA xK = some r) : Gives Tryz.prog 19 [.sv (.one (.sl true 99 4 (encs c99 xA))), .sv (I xK)] (I r.1) (.sv (.one (.sl true 99 4 (encs c99 r.2))) :: List.replicate 1 .gone) := by
 unfold w_markStepS at h
 refine gives_lent Tryz.func19 rfl ?_
 rw [Tryz.ntmps19]
 refine Wp.seq (Wp.region ?_)
 refine LWp.o 4 (I 0) ?_
 refine LWp.nil ?_
 refine Wp.seq ?_
 refine Wp.seq (Wp.region ?_)
 refine LWp.o 5 (I 0) ?_
 refine LWp.nil ?_
 refine Wp.l1 h [0, 1, 5] [] (fun s => (w_markStepS_H1 s.1 s.2.1 s.2.2)) [0, 1] [] (fun s => (w_markStepS_H2 s.1 s.2)) ⟨rfl, rfl⟩ ?_ ?_
 · rintro ⟨yA1, yK1, yI1⟩ o (h : w_markStepS_b1 yA1 yK1 yI1 = some o)
   unfold w_markStepS_b1 at h
   change Wp _ _ _ (w_markStepS_H1 yA1 yK1 yI1) _
   refine Wp.seq ?_
   refine Wp.seq (Wp.region ?_)
   refine LWp.o 6 (I yI1) ?_
   refine LWp.o 7 (.one (.view (.slot 0) 0 [] 0)) ?_
   refine LWp.o 8 (I (ln yA1)) ?_ (st_pure (p_ln k99 yA1))
   refine LWp.o 9 (B (decide (yI1 < (ln yA1)))) ?_
   refine LWp.nil ?_
   refine Wp.c h (fun h => ?_) (fun h => ?_)
   · refine Wp.skip ?_
     refine Wp.seq ?_
     refine Wp.block ?_
     refine Wp.seq (Wp.region ?_)
     refine LWp.o 12 (.one (.view (.slot 0) 0 [] 0)) ?_
     refine LWp.o 13 (I yI1) ?_
     refine LWp.o 14 (I yK1) ?_
     refine LWp.p h 15 (fun _ => (.one (.ptr (.slot 0) 0 [0] (Int.toNat yI1 * 4 + 0)))) ?_ (fun x1 gx1 => st_pure (p_ix k99 (.slot 0) [] 0 gx1))
     intro x1 gx1 h
     refine LWp.o 16 (.one (.ptr (.slot 0) 0 [0] (Int.toNat yI1 * 4 + 0))) ?_ (st_pure (p_fa k99 (.slot 0) [0] 0 gx1))
     refine LWp.sb [] (.slot 0) [.sl true 99 4 (encs c99 (si yA1 yI1 (Step.mk yK1 x1.Block x1.Leaf x1.Text)))] ?_ (s_st [] (q := [0]) (cs := [.sl true 99 4 (encs c99 yA1)]) (xs := [.int .i64 yK1]) (At.one (setRow_gi k99 (k := 0) (z := (Step.mk yK1 x1.Block x1.Leaf x1.Text)) gx1 rfl rfl)) (fit_gi k99 (k := 0) gx1 rfl))
     refine LWp.nil ?_
     refine Wp.seq (Wp.region ?_)
     refine LWp.o 17 (I yK1) ?_
     refine LWp.o 18 (I (ad yK1 1)) ?_
     refine LWp.o 1 (I (ad yK1 1)) ?_
     refine LWp.nil ?_
     refine Wp.seq (Wp.region ?_)
     refine LWp.o 19 (.one (.view (.slot 0) 1 [] 0)) ?_
     refine LWp.o 20 (I yI1) ?_
     refine LWp.o 21 (I (ad yK1 1)) ?_
     refine LWp.p h 22 (fun _ => (.one (.ptr (.slot 0) 1 [0] (Int.toNat yI1 * 4 + 0)))) ?_ (fun x2 gx2 => st_pure (p_ix k99 (.slot 0) [] 0 gx2))
     intro x2 gx2 h
     refine LWp.o 23 (.one (.ptr (.slot 0) 1 [0] (Int.toNat yI1 * 4 + 1))) ?_ (st_pure (p_fa k99 (.slot 0) [0] 0 gx2))
     refine LWp.sb [] (.slot 0) [.sl true 99 4 (encs c99 (si (si yA1 yI1 (Step.mk yK1 x1.Block x1.Leaf x1.Text)) yI1 (Step.mk x2.Kind (ad yK1 1) x2.Leaf x2.Text)))] ?_ (s_st [] (q := [0]) (cs := [.sl true 99 4 (encs c99 (si yA1 yI1 (Step.mk yK1 x1.Block x1.Leaf x1.Text)))]) (xs := [.int .i64 (ad yK1 1)]) (At.one (setRow_gi k99 (k := 1) (z := (Step.mk x2.Kind (ad yK1 1) x2.Leaf x2.Text)) gx2 rfl rfl)) (fit_gi k99 (k := 1) gx2 rfl))
     refine LWp.nil ?_
     refine Wp.seq (Wp.region ?_)
     refine LWp.o 24 (I (ad yK1 1)) ?_
     refine LWp.o 25 (I (ad (ad yK1 1) 1)) ?_
     refine LWp.o 1 (I (ad (ad yK1 1) 1)) ?_
     refine LWp.nil ?_
     refine Wp.seq (Wp.region ?_)
     refine LWp.o 26 (.one (.view (.slot 0) 2 [] 0)) ?_
     refine LWp.o 27 (I yI1) ?_
     refine LWp.o 28 (I (ad (ad yK1 1) 1)) ?_
     refine LWp.p h 29 (fun _ => (.one (.ptr (.slot 0) 2 [0] (Int.toNat yI1 * 4 + 0)))) ?_ (fun x3 gx3 => st_pure (p_ix k99 (.slot 0) [] 0 gx3))
     intro x3 gx3 h
     refine LWp.o 30 (.one (.ptr (.slot 0) 2 [0] (Int.toNat yI1 * 4 + 2))) ?_ (st_pure (p_fa k99 (.slot 0) [0] 0 gx3))
     refine LWp.sb [] (.slot 0) [.sl true 99 4 (encs c99 (si (si (si yA1 yI1 (Step.mk yK1 x1.Block x1.Leaf x1.Text)) yI1 (Step.mk x2.Kind (ad yK1 1) x2.Leaf x2.Text)) yI1 (Step.mk x3.Kind x3.Block (ad (ad yK1 1) 1) x3.Text)))] ?_ (s_st [] (q := [0]) (cs := [.sl true 99 4 (encs c99 (si (si yA1 yI1 (Step.mk yK1 x1.Block x1.Leaf x1.Text)) yI1 (Step.mk x2.Kind (ad yK1 1) x2.Leaf x2.Text)))]) (xs := [.int .i64 (ad (ad yK1 1) 1)]) (At.one (setRow_gi k99 (k := 2) (z := (Step.mk x3.Kind x3.Block (ad (ad yK1 1) 1) x3.Text)) gx3 rfl rfl)) (fit_gi k99 (k := 2) gx3 rfl))
     refine LWp.nil ?_
     refine Wp.seq (Wp.region ?_)
     refine LWp.o 31 (I (ad (ad yK1 1) 1)) ?_
     refine LWp.o 32 (I (ad (ad (ad yK1 1) 1) 1)) ?_
     refine LWp.o 1 (I (ad (ad (ad yK1 1) 1) 1)) ?_
     refine LWp.nil ?_
     refine Wp.seq (Wp.region ?_)
     refine LWp.o 33 (.one (.view (.slot 0) 3 [] 0)) ?_
     refine LWp.o 34 (I yI1) ?_
     refine LWp.o 35 (I (ad (ad (ad yK1 1) 1) 1)) ?_
     refine LWp.cl h 36 (fun v1 => (Y v1)) rfl (l := [.sv (.one (.int .i64 (ad (ad (ad yK1 1) 1) 1)))]) rfl (fun v hv => w_markText_t (ad (ad (ad yK1 1) 1) 1) v hv) (.inl rfl) ?_
     intro v1 gv1 h
     refine LWp.p h 37 (fun _ => (.one (.ptr (.slot 0) 3 [0] (Int.toNat yI1 * 4 + 0)))) ?_ (fun x4 gx4 => st_pure (p_ix k99 (.slot 0) [] 0 gx4))
     intro x4 gx4 h
     refine LWp.o 38 (.one (.ptr (.slot 0) 3 [0] (Int.toNat yI1 * 4 + 3))) ?_ (st_pure (p_fa k99 (.slot 0) [0] 0 gx4))
     refine LWp.sb [] (.slot 0) [.sl true 99 4 (encs c99 (si (si (si (si yA1 yI1 (Step.mk yK1 x1.Block x1.Leaf x1.Text)) yI1 (Step.mk x2.Kind (ad yK1 1) x2.Leaf x2.Text)) yI1 (Step.mk x3.Kind x3.Block (ad (ad yK1 1) 1) x3.Text)) yI1 (Step.mk x4.Kind x4.Block x4.Leaf v1)))] ?_ (s_st [] (q := [0]) (cs := [.sl true 99 4 (encs c99 (si (si (si yA1 yI1 (Step.mk yK1 x1.Block x1.Leaf x1.Text)) yI1 (Step.mk x2.Kind (ad yK1 1) x2.Leaf x2.Text)) yI1 (Step.mk x3.Kind x3.Block (ad (ad yK1 1) 1) x3.Text)))]) (xs := [.str v1]) (At.one (setRow_gi k99 (k := 3) (z := (Step.mk x4.Kind x4.Block x4.Leaf v1)) gx4 rfl rfl)) (fit_gi k99 (k := 3) gx4 rfl))
     refine LWp.nil ?_
     refine Wp.region ?_
     refine LWp.o 39 (I (ad (ad (ad yK1 1) 1) 1)) ?_
     refine LWp.o 40 (I (ad (ad (ad (ad yK1 1) 1) 1) 1)) ?_
     refine LWp.o 1 (I (ad (ad (ad (ad yK1 1) 1) 1) 1)) ?_
     refine LWp.nil ?_
     refine Wp.region ?_
     refine LWp.o 10 (I yI1) ?_
     refine LWp.o 11 (I (ad yI1 1)) ?_
     refine LWp.o 5 (I (ad yI1 1)) ?_
     refine LWp.nil ?_
     cases h
     exact ⟨_, rfl, rfl, rfl⟩
   refine Wp.exit ?_
   cases h
   exact ⟨_, rfl, rfl, rfl⟩
 intro v2 h E hE
 refine nt_wp hE ?_
 change Wp _ _ _ (w_markStepS_H2 v2.1 v2.2) _
 refine Wp.seq (Wp.region ?_)
 refine LWp.o 41 (I v2.2) ?_
 refine LWp.o 4 (I v2.2) ?_
 refine LWp.nil ?_
 cases h
 exact Wp.ret ⟨.inr rfl, _, _, rfl, rfl, rfl, rfl⟩
def w_heldStepS_H1 (xA : List Step) (z1 : Int) (z2 : Int) : St := mkSt [(0, (.one (.sl false 99 4 (encs c99 xA)))), (1, (I z1)), (5, (I z2))] []
def w_heldStepS_H2 (z3 : Int) : St := mkSt [(1, (I z3))] []
theorem w_heldStepS_t (xA : List Step) (xK : Int) (r : Int) (h : w_heldStepS xA xK = some r) : Gives Tryz.prog 20 [.sv (.one (.sl false 99 4 (encs c99 xA))), .sv (I xK)] (I r) (List.replicate 2 .gone) := by
 unfold w_heldStepS at h
 refine gives_of Tryz.func20 rfl ?_
 rw [Tryz.ntmps20]
 refine Wp.seq (Wp.region ?_)
 refine LWp.o 4 (I 0) ?_
 refine LWp.nil ?_
 refine Wp.seq ?_
 refine Wp.seq (Wp.region ?_)
 refine LWp.o 5 (I 0) ?_
 refine LWp.nil ?_
 refine Wp.l2 h [0, 1, 5] [] (fun s => (w_heldStepS_H1 xA s.1 s.2)) [1] [] (fun s => (w_heldStepS_H2 s)) ⟨rfl, rfl⟩ ?_ ?_
 · rintro ⟨yK1, yI1⟩ o (h : w_heldStepS_b1 xA yK1 yI1 = some o) hk1
   unfold w_heldStepS_b1 at h
   change Wp _ _ _ (w_heldStepS_H1 xA yK1 yI1) _
   refine Wp.seq ?_
   refine Wp.seq (Wp.region ?_)
   refine LWp.o 6 (I yI1) ?_
   refine LWp.o 7 (.one (.sl false 99 4 (encs c99 xA))) ?_
   refine LWp.o 8 (I (ln xA)) ?_ (st_pure (p_ln k99 xA))
   refine LWp.o 9 (B (decide (yI1 < (ln xA)))) ?_
   refine LWp.nil ?_
   refine Wp.c h (fun h => ?_) (fun h => ?_)
   · refine Wp.skip ?_
     refine Wp.seq ?_
     refine Wp.block ?_
     refine Wp.seq ?_
     refine Wp.seq (Wp.region ?_)
     refine LWp.o 12 (.one (.sl false 99 4 (encs c99 xA))) ?_
     refine LWp.o 13 (I yI1) ?_
     refine LWp.p h 14 (fun _ => (.one (.ptr (.slot 12) 1 [0] (Int.toNat yI1 * 4 + 0)))) ?_ (fun x1 gx1 => st_pure (p_ix k99 (.slot 12) [] 0 gx1))
     intro x1 gx1 h
     refine LWp.o 15 (.one (.ptr (.slot 12) 1 [0] (Int.toNat yI1 * 4 + 0))) ?_ (st_pure (p_fa k99 (.slot 12) [0] 0 gx1))
     refine LWp.o 16 (I x1.Kind) ?_ (st_pure (p_lc k99 (.slot 12) [0] 0 (.int .i64 x1.Kind) gx1))
     refine LWp.o 17 (I yK1) ?_
     refine LWp.o 18 (B (x1.Kind != yK1)) ?_
     refine LWp.nil ?_
     refine Wp.c h (fun h => ?_) (fun h => ?_)
     · refine Wp.seq (Wp.region ?_)
       refine LWp.o 4 (I (-1)) ?_
       refine LWp.nil ?_
       cases h
       replace h : some _ = some _ := hk1 _ rfl
       cases h
       exact Wp.ret ⟨.inr rfl, _, _, rfl, rfl⟩
     refine Wp.skip ?_
     refine Wp.seq (Wp.region ?_)
     refine LWp.o 19 (I yK1) ?_
     refine LWp.o 20 (I (ad yK1 1)) ?_
     refine LWp.o 1 (I (ad yK1 1)) ?_
     refine LWp.nil ?_
     refine Wp.seq ?_
     refine Wp.seq (Wp.region ?_)
     refine LWp.o 21 (.one (.sl false 99 4 (encs c99 xA))) ?_
     refine LWp.o 22 (I yI1) ?_
     refine LWp.p h 23 (fun _ => (.one (.ptr (.slot 21) 1 [0] (Int.toNat yI1 * 4 + 0)))) ?_ (fun x2 gx2 => st_pure (p_ix k99 (.slot 21) [] 0 gx2))
     intro x2 gx2 h
     refine LWp.o 24 (.one (.ptr (.slot 21) 1 [0] (Int.toNat yI1 * 4 + 1))) ?_ (st_pure (p_fa k99 (.slot 21) [0] 0 gx2))
     refine LWp.o 25 (I x2.Block) ?_ (st_pure (p_lc k99 (.slot 21) [0] 1 (.int .i64 x2.Block) gx2))
     refine LWp.o 26 (I (ad yK1 1)) ?_
     refine LWp.o 27 (B (x2.Block != (ad yK1 1))) ?_
     refine LWp.nil ?_
     refine Wp.c h (fun h => ?_) (fun h => ?_)
     · refine Wp.seq (Wp.region ?_)
       refine LWp.o 4 (I (-1)) ?_
       refine LWp.nil ?_
       cases h
       replace h : some _ = some _ := hk1 _ rfl
       cases h
       exact Wp.ret ⟨.inr rfl, _, _, rfl, rfl⟩
     refine Wp.skip ?_
     refine Wp.seq (Wp.region ?_)
     refine LWp.o 28 (I (ad yK1 1)) ?_
     refine LWp.o 29 (I (ad (ad yK1 1) 1)) ?_
     refine LWp.o 1 (I (ad (ad yK1 1) 1)) ?_
     refine LWp.nil ?_
     refine Wp.seq ?_
     refine Wp.seq (Wp.region ?_)
     refine LWp.o 30 (.one (.sl false 99 4 (encs c99 xA))) ?_
     refine LWp.o 31 (I yI1) ?_
     refine LWp.p h 32 (fun _ => (.one (.ptr (.slot 30) 1 [0] (Int.toNat yI1 * 4 + 0)))) ?_ (fun x3 gx3 => st_pure (p_ix k99 (.slot 30) [] 0 gx3))
     intro x3 gx3 h
     refine LWp.o 33 (.one (.ptr (.slot 30) 1 [0] (Int.toNat yI1 * 4 + 2))) ?_ (st_pure (p_fa k99 (.slot 30) [0] 0 gx3))
     refine LWp.o 34 (I x3.Leaf) ?_ (st_pure (p_lc k99 (.slot 30) [0] 2 (.int .i64 x3.Leaf) gx3))
     refine LWp.o 35 (I (ad (ad yK1 1) 1)) ?_
     refine LWp.o 36 (B (x3.Leaf != (ad (ad yK1 1) 1))) ?_
     refine LWp.nil ?_
     refine Wp.c h (fun h => ?_) (fun h => ?_)
     · refine Wp.seq (Wp.region ?_)
       refine LWp.o 4 (I (-1)) ?_
       refine LWp.nil ?_
       cases h
       replace h : some _ = some _ := hk1 _ rfl
       cases h
       exact Wp.ret ⟨.inr rfl, _, _, rfl, rfl⟩
     refine Wp.skip ?_
     refine Wp.seq (Wp.region ?_)
     refine LWp.o 37 (I (ad (ad yK1 1) 1)) ?_
     refine LWp.o 38 (I (ad (ad (ad yK1 1) 1) 1)) ?_
     refine LWp.o 1 (I (ad (ad (ad yK1 1) 1) 1)) ?_
     refine LWp.nil ?_
     refine Wp.seq ?_
     refine Wp.seq ?_
     refine Wp.regionK 8 [] mixed (fun c E h => by rcases h with ⟨h | h, _⟩ <;> cases h) ?_
     refine KWp.o 8 0 39 (.one (.sl false 99 4 (encs c99 xA))) ?_
     refine KWp.o 8 1 40 (I yI1) ?_
     refine KWp.p h 8 2 41 (fun _ => (.one (.ptr (.slot 39) 1 [0] (Int.toNat yI1 * 4 + 0)))) ?_ rfl (fun x4 gx4 => sl_pure (p_ix k99 (.slot 39) [] 0 gx4))
     intro x4 gx4 h
     refine KWp.o 8 3 42 (.one (.ptr (.slot 39) 1 [0] (Int.toNat yI1 * 4 + 3))) ?_ rfl (sl_pure (p_fa k99 (.slot 39) [0] 0 gx4))
     refine KWp.o 8 4 43 (Y x4.Text) ?_ rfl (sl_pure (p_lc k99 (.slot 39) [0] 3 (.str x4.Text) gx4))
     refine KWp.o 8 5 44 (I (ad (ad (ad yK1 1) 1) 1)) ?_
     refine KWp.w1 6 ?_
     refine KOp.cl h 6 45 (fun v1 => (Y v1)) rfl rfl (l := [.sv (.one (.int .i64 (ad (ad (ad yK1 1) 1) 1)))]) rfl (fun v hv => w_markText_t (ad (ad (ad yK1 1) 1) 1) v hv) (.inl rfl) ?_
     intro v1 gv1 h
     refine KWp.o 8 7 46 (B (!(seq x4.Text v1))) ?_
     refine KWp.done ?_
     refine Wp.c h (fun h => ?_) (fun h => ?_)
     · refine Wp.seq (Wp.region ?_)
       refine LWp.o 4 (I (-1)) ?_
       refine LWp.nil ?_
       cases h
       replace h : some _ = some _ := hk1 _ rfl
       cases h
       exact Wp.ret ⟨.inr rfl, _, _, rfl, rfl⟩
     refine Wp.skip ?_
     refine Wp.region ?_
     refine LWp.o 47 (I (ad (ad (ad yK1 1) 1) 1)) ?_
     refine LWp.o 48 (I (ad (ad (ad (ad yK1 1) 1) 1) 1)) ?_
     refine LWp.o 1 (I (ad (ad (ad (ad yK1 1) 1) 1) 1)) ?_
     refine LWp.nil ?_
     refine Wp.region ?_
     refine LWp.o 10 (I yI1) ?_
     refine LWp.o 11 (I (ad yI1 1)) ?_
     refine LWp.o 5 (I (ad yI1 1)) ?_
     refine LWp.nil ?_
     cases h
     exact ⟨_, rfl, rfl, rfl⟩
   refine Wp.exit ?_
   cases h
   exact ⟨_, rfl, rfl, rfl⟩
 intro v2 h E hE
 refine nt_wp hE ?_
 change Wp _ _ _ (w_heldStepS_H2 v2) _
 refine Wp.seq (Wp.region ?_)
 refine LWp.o 49 (I v2) ?_
 refine LWp.o 4 (I v2) ?_
 refine LWp.nil ?_
 cases h
 exact Wp.ret ⟨.inr rfl, _, _, rfl, rfl⟩
def w_FnExactBaseSteps_H1 (xAD : Device) (v3 : List Step × Bool) (v4 : Device) (v5 : List Step × Bool) (z1 : Bool) : St := mkSt [(1, (.one (.ptr (.box 1) 0 [] 0))), (4, (.one (.sl true 99 4 (encs c99 v3.1)))), (5, (B v3.2)), (6, (.one (.ptr (.box 6) 0 [] 0))), (7, (.one (.sl true 99 4 (encs c99 v5.1)))), (8, (B v5.2)), (40, (B z1))] [(.box 1, [.sl false 176 3 (encs (c176 false) xAD.Flash.Blocks), .sl false 188 2 (encs c188 xAD.Store.Vols), .sl false 211 2 (encs (c211 false) xAD.Store.Arena.Knots), .int .i64 xAD.Store.Next, .int .i64 xAD.Seq, .int .i64 xAD.Tx, .int .i64 xAD.Base]), (.box 6, [.sl true 124 3 (encs (c124 true) v4.Flash.Blocks), .sl true 110 2 (encs c110 v4.Store.Vols), .sl true 218 2 (encs (c218 true) v4.Store.Arena.Knots), .int .i64 v4.Store.Next, .int .i64 v4.Seq, .int .i64 v4.Tx, .int .i64 v4.Base])]
def w_FnExactBaseSteps_H2 (xAD : Device) (v3 : List Step × Bool) (v5 : List Step × Bool) (z2 : Bool) : St := mkSt [(1, (.one (.ptr (.box 1) 0 [] 0))), (4, (.one (.sl true 99 4 (encs c99 v3.1)))), (5, (B v3.2)), (7, (.one (.sl true 99 4 (encs c99 v5.1)))), (61, (B z2))] [(.box 1, [.sl false 176 3 (encs (c176 false) xAD.Flash.Blocks), .sl false 188 2 (encs c188 xAD.Store.Vols), .sl false 211 2 (encs (c211 false) xAD.Store.Arena.Knots), .int .i64 xAD.Store.Next, .int .i64 xAD.Seq, .int .i64 xAD.Tx, .int .i64 xAD.Base])]
def w_FnExactBaseSteps_H3 (v11 : Int × List Step) (z3 : Bool) : St := mkSt [(7, (.one (.sl true 99 4 (encs c99 v11.2)))), (10, (I v11.1)), (87, (B z3))] []
theorem w_FnExactBaseSteps_t (xAD : Device) (r : Bool) (h : w_FnExactBaseSteps xAD = some r) : Gives Tryz.prog 4 [.sv (.agg [.sl false 176 3 (encs (c176 false) xAD.Flash.Blocks), .sl false 188 2 (encs c188 xAD.Store.Vols), .sl false 211 2 (encs (c211 false) xAD.Store.Arena.Knots), .int .i64 xAD.Store.Next, .int .i64 xAD.Seq, .int .i64 xAD.Tx, .int .i64 xAD.Base])] (B r) (List.replicate 1 .gone) := by
 unfold w_FnExactBaseSteps at h
 refine gives_of Tryz.func4 rfl ?_
 rw [Tryz.ntmps4]
 refine Wp.seq (Wp.region ?_)
 refine LWp.b [] 1 [.sl false 176 3 (encs (c176 false) xAD.Flash.Blocks), .sl false 188 2 (encs c188 xAD.Store.Vols), .sl false 211 2 (encs (c211 false) xAD.Store.Arena.Knots), .int .i64 xAD.Store.Next, .int .i64 xAD.Seq, .int .i64 xAD.Tx, .int .i64 xAD.Base] ?_
 refine LWp.o 2 (B false) ?_
 refine LWp.nil ?_
 refine Wp.seq (Wp.region ?_)
 refine LWp.o 3 (I 1048576) ?_
 refine LWp.nil ?_
 refine Wp.seq (Wp.region ?_)
 refine LWp.o 14 (.agg [.sl false 176 3 (encs (c176 false) xAD.Flash.Blocks), .sl false 188 2 (encs c188 xAD.Store.Vols), .sl false 211 2 (encs (c211 false) xAD.Store.Arena.Knots), .int .i64 xAD.Store.Next, .int .i64 xAD.Seq, .int .i64 xAD.Tx, .int .i64 xAD.Base]) ?_
 refine LWp.o 15 (I 1048576) ?_
 refine LWp.cl h 16 (fun v1 => (I v1)) rfl (l := [.sv (.agg [.sl false 176 3 (encs (c176 false) xAD.Flash.Blocks), .sl false 188 2 (encs c188 xAD.Store.Vols), .sl false 211 2 (encs (c211 false) xAD.Store.Arena.Knots), .int .i64 xAD.Store.Next, .int .i64 xAD.Seq, .int .i64 xAD.Tx, .int .i64 xAD.Base]), .sv (.one (.int .i64 1048576))]) rfl (fun v hv => w_szDevice_t xAD 1048576 v hv) (.inl rfl) ?_
 intro v1 gv1 h
 refine LWp.o 3 (I v1) ?_
 refine LWp.nil ?_
 refine Wp.seq ?_
 refine Wp.seq (Wp.region ?_)
 refine LWp.o 17 (I v1) ?_
 refine LWp.o 18 (B (decide (v1 < 0))) ?_
 refine LWp.nil ?_
 refine Wp.c h (fun h => ?_) (fun h => ?_)
 · refine Wp.seq (Wp.region ?_)
   refine LWp.o 2 (B true) ?_
   refine LWp.nil ?_
   cases h
   exact Wp.ret ⟨.inr rfl, _, _, rfl, rfl⟩
 refine Wp.skip ?_
 refine Wp.seq (Wp.region ?_)
 refine LWp.o 20 (.agg [.sl false 176 3 (encs (c176 false) xAD.Flash.Blocks), .sl false 188 2 (encs c188 xAD.Store.Vols), .sl false 211 2 (encs (c211 false) xAD.Store.Arena.Knots), .int .i64 xAD.Store.Next, .int .i64 xAD.Seq, .int .i64 xAD.Tx, .int .i64 xAD.Base]) ?_
 refine LWp.cl h 21 (fun v2 => (.agg [.sl true 124 3 (encs (c124 true) v2.Flash.Blocks), .sl true 110 2 (encs c110 v2.Store.Vols), .sl true 218 2 (encs (c218 true) v2.Store.Arena.Knots), .int .i64 v2.Store.Next, .int .i64 v2.Seq, .int .i64 v2.Tx, .int .i64 v2.Base])) rfl (l := [.sv (.agg [.sl false 176 3 (encs (c176 false) xAD.Flash.Blocks), .sl false 188 2 (encs c188 xAD.Store.Vols), .sl false 211 2 (encs (c211 false) xAD.Store.Arena.Knots), .int .i64 xAD.Store.Next, .int .i64 xAD.Seq, .int .i64 xAD.Tx, .int .i64 xAD.Base])]) rfl (fun v hv => w_toDevice_t xAD v hv) (.inl rfl) ?_
 intro v2 gv2 h
 refine LWp.cl h 22 (fun v3 => (.tup [(.one (.sl true 99 4 (encs c99 v3.1))), (B v3.2)])) rfl (l := [.sv (.agg [.sl false 124 3 (shares (encs (c124 true) v2.Flash.Blocks)), .sl false 110 2 (shares (encs c110 v2.Store.Vols)), .sl false 218 2 (shares (encs (c218 true) v2.Store.Arena.Knots)), .int .i64 v2.Store.Next, .int .i64 v2.Seq, .int .i64 v2.Tx, .int .i64 v2.Base])]) rfl (fun v hv => cg (l := [.sv (.agg [.sl false 124 3 (shares (encs (c124 true) v2.Flash.Blocks)), .sl false 110 2 (shares (encs c110 v2.Store.Vols)), .sl false 218 2 (shares (encs (c218 true) v2.Store.Arena.Knots)), .int .i64 v2.Store.Next, .int .i64 v2.Seq, .int .i64 v2.Tx, .int .i64 v2.Base])]) (by simp only [sh110, sh124, sh218]) (s_BaseSteps_t v2 v hv)) (.inr (fun v => by simp [svShared, svShareds, hasShareds, hasShared, ns99])) ?_
 intro v3 gv3 h
 refine LWp.mt 22 19 (.tup [(.one (.sl true 99 4 (encs c99 v3.1))), (B v3.2)]) ?_
 refine LWp.e 19 0 23 (.one (.sl true 99 4 (encs c99 v3.1))) ?_
 refine LWp.e 19 1 24 (B v3.2) ?_
 refine LWp.m true [(.slot 23, [.junk])] 4 (.one (.sl true 99 4 (encs c99 v3.1))) ?_
 refine LWp.o 5 (B v3.2) ?_
 refine LWp.nil ?_
 refine Wp.seq (Wp.region ?_)
 refine LWp.o 25 (.agg [.sl false 176 3 (encs (c176 false) xAD.Flash.Blocks), .sl false 188 2 (encs c188 xAD.Store.Vols), .sl false 211 2 (encs (c211 false) xAD.Store.Arena.Knots), .int .i64 xAD.Store.Next, .int .i64 xAD.Seq, .int .i64 xAD.Tx, .int .i64 xAD.Base]) ?_
 refine LWp.cl h 26 (fun v4 => (.agg [.sl true 124 3 (encs (c124 true) v4.Flash.Blocks), .sl true 110 2 (encs c110 v4.Store.Vols), .sl true 218 2 (encs (c218 true) v4.Store.Arena.Knots), .int .i64 v4.Store.Next, .int .i64 v4.Seq, .int .i64 v4.Tx, .int .i64 v4.Base])) rfl (l := [.sv (.agg [.sl false 176 3 (encs (c176 false) xAD.Flash.Blocks), .sl false 188 2 (encs c188 xAD.Store.Vols), .sl false 211 2 (encs (c211 false) xAD.Store.Arena.Knots), .int .i64 xAD.Store.Next, .int .i64 xAD.Seq, .int .i64 xAD.Tx, .int .i64 xAD.Base])]) rfl (fun v hv => w_toDevice_t xAD v hv) (.inl rfl) ?_
 intro v4 gv4 h
 refine LWp.b [] 6 [.sl true 124 3 (encs (c124 true) []), .sl true 110 2 (encs c110 []), .sl true 218 2 (encs (c218 true) []), .int .i64 0, .int .i64 0, .int .i64 0, .int .i64 0] ?_
 refine LWp.sb [(.slot 26, [.junk, .sl true 110 2 (encs c110 v4.Store.Vols), .sl true 218 2 (encs (c218 true) v4.Store.Arena.Knots), .int .i64 v4.Store.Next, .int .i64 v4.Seq, .int .i64 v4.Tx, .int .i64 v4.Base]), (.slot 26, [.junk, .junk, .sl true 218 2 (encs (c218 true) v4.Store.Arena.Knots), .int .i64 v4.Store.Next, .int .i64 v4.Seq, .int .i64 v4.Tx, .int .i64 v4.Base]), (.slot 26, [.junk, .junk, .junk, .int .i64 v4.Store.Next, .int .i64 v4.Seq, .int .i64 v4.Tx, .int .i64 v4.Base])] (.box 6) [.sl true 124 3 (encs (c124 true) v4.Flash.Blocks), .sl true 110 2 (encs c110 v4.Store.Vols), .sl true 218 2 (encs (c218 true) v4.Store.Arena.Knots), .int .i64 v4.Store.Next, .int .i64 v4.Seq, .int .i64 v4.Tx, .int .i64 v4.Base] ?_
 refine LWp.nil ?_
 refine Wp.seq (Wp.region ?_)
 refine LWp.o 28 (.agg [.view (.box 6) 2 [] 0, .view (.box 6) 2 [] 1, .view (.box 6) 2 [] 2, .int .i64 v4.Store.Next, .int .i64 v4.Seq, .int .i64 v4.Tx, .int .i64 v4.Base]) ?_
 refine LWp.cl h 29 (fun v5 => (.tup [(.one (.sl true 99 4 (encs c99 v5.1))), (B v5.2)])) rfl (l := [.sv (.agg [.sl false 124 3 (shares (encs (c124 true) v4.Flash.Blocks)), .sl false 110 2 (shares (encs c110 v4.Store.Vols)), .sl false 218 2 (shares (encs (c218 true) v4.Store.Arena.Knots)), .int .i64 v4.Store.Next, .int .i64 v4.Seq, .int .i64 v4.Tx, .int .i64 v4.Base])]) rfl (fun v hv => cg (l := [.sv (.agg [.sl false 124 3 (shares (encs (c124 true) v4.Flash.Blocks)), .sl false 110 2 (shares (encs c110 v4.Store.Vols)), .sl false 218 2 (shares (encs (c218 true) v4.Store.Arena.Knots)), .int .i64 v4.Store.Next, .int .i64 v4.Seq, .int .i64 v4.Tx, .int .i64 v4.Base])]) (by simp only [sh110, sh124, sh218]) (i_BaseSteps_t v4 v hv)) (.inr (fun v => by simp [svShared, svShareds, hasShareds, hasShared, ns99])) ?_
 intro v5 gv5 h
 refine LWp.mt 29 27 (.tup [(.one (.sl true 99 4 (encs c99 v5.1))), (B v5.2)]) ?_
 refine LWp.e 27 0 30 (.one (.sl true 99 4 (encs c99 v5.1))) ?_
 refine LWp.e 27 1 31 (B v5.2) ?_
 refine LWp.m true [(.slot 30, [.junk])] 7 (.one (.sl true 99 4 (encs c99 v5.1))) ?_
 refine LWp.o 8 (B v5.2) ?_
 refine LWp.nil ?_
 refine Wp.seq ?_
 refine Wp.seq ?_
 refine Wp.j1 h [1, 4, 5, 6, 7, 8, 40] [.box 1, .box 6] (fun a => (w_FnExactBaseSteps_H1 xAD v3 v4 v5 a)) ?_ ?_
 · intro a h
   refine Wp.region ?_
   refine LWp.o 32 (.one (.view (.slot 7) 1 [] 0)) ?_
   refine LWp.o 33 (.one (.view (.slot 4) 1 [] 0)) ?_
   refine LWp.cl h 34 (fun v6 => (B v6)) rfl (l := [.sv (.one (.sl false 99 4 (shares (encs c99 v5.1)))), .sv (.one (.sl false 99 4 (shares (encs c99 v3.1))))]) rfl (fun v hv => cg (l := [.sv (.one (.sl false 99 4 (shares (encs c99 v5.1)))), .sv (.one (.sl false 99 4 (shares (encs c99 v3.1))))]) (by simp only [sh99]) (w_eqStepS_t v5.1 v3.1 v hv)) (.inr (fun v => rfl)) ?_
   intro v6 gv6 h
   refine LWp.o 35 (B (!v6)) ?_
   refine LWp.o 36 (B (!v6)) ?_
   refine LWp.sp h 36 (fun h => ?_) (fun h => ?_)
   · refine LWp.sh 37 ?_
     refine LWp.sh 38 ?_
     refine LWp.sh 39 ?_
     refine LWp.o 40 (B true) ?_
     refine LWp.nil ?_
     cases h
     exact ⟨_, rfl, rfl, rfl⟩
   refine LWp.o 37 (B v5.2) ?_
   refine LWp.o 38 (B v3.2) ?_
   refine LWp.o 39 (B (!(v5.2 == v3.2))) ?_
   refine LWp.o 40 (B (!(v5.2 == v3.2))) ?_
   refine LWp.nil ?_
   cases h
   exact ⟨_, rfl, rfl, rfl⟩
 intro j1 h E hE
 refine nt_wp hE ?_
 change Wp _ _ _ (w_FnExactBaseSteps_H1 xAD v3 v4 v5 j1) _
 refine Wp.c h (fun h => ?_) (fun h => ?_)
 · refine Wp.seq (Wp.region ?_)
   refine LWp.o 2 (B false) ?_
   refine LWp.nil ?_
   cases h
   exact Wp.ret ⟨.inr rfl, _, _, rfl, rfl⟩
 refine Wp.skip ?_
 refine Wp.seq ?_
 refine Wp.seq ?_
 refine Wp.regionK 5 [] mixed (fun c E h => by rcases h with ⟨h | h, _⟩ <;> cases h) ?_
 refine KWp.o 5 0 41 (.agg [.view (.box 6) 0 [] 0, .view (.box 6) 0 [] 1, .view (.box 6) 0 [] 2, .int .i64 v4.Store.Next, .int .i64 v4.Seq, .int .i64 v4.Tx, .int .i64 v4.Base]) ?_
 refine KWp.o 5 1 42 (.agg [.sl false 176 3 (encs (c176 false) xAD.Flash.Blocks), .sl false 188 2 (encs c188 xAD.Store.Vols), .sl false 211 2 (encs (c211 false) xAD.Store.Arena.Knots), .int .i64 xAD.Store.Next, .int .i64 xAD.Seq, .int .i64 xAD.Tx, .int .i64 xAD.Base]) ?_
 refine KWp.w1 2 ?_
 refine KOp.cl h 2 43 (fun v7 => (.agg [.sl true 124 3 (encs (c124 true) v7.Flash.Blocks), .sl true 110 2 (encs c110 v7.Store.Vols), .sl true 218 2 (encs (c218 true) v7.Store.Arena.Knots), .int .i64 v7.Store.Next, .int .i64 v7.Seq, .int .i64 v7.Tx, .int .i64 v7.Base])) rfl rfl (l := [.sv (.agg [.sl false 176 3 (encs (c176 false) xAD.Flash.Blocks), .sl false 188 2 (encs c188 xAD.Store.Vols), .sl false 211 2 (encs (c211 false) xAD.Store.Arena.Knots), .int .i64 xAD.Store.Next, .int .i64 xAD.Seq, .int .i64 xAD.Tx, .int .i64 xAD.Base])]) rfl (fun v hv => w_toDevice_t xAD v hv) (.inl rfl) ?_
 intro v7 gv7 h
 refine KWp.w1 3 ?_
 refine KOp.cl h 3 44 (fun v8 => (B v8)) rfl rfl (l := [.sv (.agg [.sl false 124 3 (shares (encs (c124 true) v4.Flash.Blocks)), .sl false 110 2 (shares (encs c110 v4.Store.Vols)), .sl false 218 2 (shares (encs (c218 true) v4.Store.Arena.Knots)), .int .i64 v4.Store.Next, .int .i64 v4.Seq, .int .i64 v4.Tx, .int .i64 v4.Base]), .sv (.agg [.sl false 124 3 (shares (encs (c124 true) v7.Flash.Blocks)), .sl false 110 2 (shares (encs c110 v7.Store.Vols)), .sl false 218 2 (shares (encs (c218 true) v7.Store.Arena.Knots)), .int .i64 v7.Store.Next, .int .i64 v7.Seq, .int .i64 v7.Tx, .int .i64 v7.Base])]) rfl (fun v hv => cg (l := [.sv (.agg [.sl false 124 3 (shares (encs (c124 true) v4.Flash.Blocks)), .sl false 110 2 (shares (encs c110 v4.Store.Vols)), .sl false 218 2 (shares (encs (c218 true) v4.Store.Arena.Knots)), .int .i64 v4.Store.Next, .int .i64 v4.Seq, .int .i64 v4.Tx, .int .i64 v4.Base]), .sv (.agg [.sl false 124 3 (shares (encs (c124 true) v7.Flash.Blocks)), .sl false 110 2 (shares (encs c110 v7.Store.Vols)), .sl false 218 2 (shares (encs (c218 true) v7.Store.Arena.Knots)), .int .i64 v7.Store.Next, .int .i64 v7.Seq, .int .i64 v7.Tx, .int .i64 v7.Base])]) (by simp only [sh110, sh124, sh218]) (w_eqDevice_t v4 v7 v hv)) (.inr (fun v => rfl)) ?_
 intro v8 gv8 h
 refine KWp.o 5 4 45 (B (!v8)) ?_
 refine KWp.done ?_
 refine Wp.c h (fun h => ?_) (fun h => ?_)
 · refine Wp.seq (Wp.region ?_)
   refine LWp.o 2 (B false) ?_
   refine LWp.nil ?_
   cases h
   exact Wp.ret ⟨.inr rfl, _, _, rfl, rfl⟩
 refine Wp.skip ?_
 refine Wp.seq (Wp.region ?_)
 refine LWp.o 9 (I 1) ?_
 refine LWp.nil ?_
 refine Wp.seq (Wp.region ?_)
 refine LWp.o 46 (.agg [.view (.box 6) 0 [] 0, .view (.box 6) 0 [] 1, .view (.box 6) 0 [] 2, .int .i64 v4.Store.Next, .int .i64 v4.Seq, .int .i64 v4.Tx, .int .i64 v4.Base]) ?_
 refine LWp.o 47 (I 1) ?_
 refine LWp.cv h [(true, 49, .tmp 46), (false, 3, .tmp 47)] [(.box 6, [.junk, .sl true 110 2 (encs c110 v4.Store.Vols), .sl true 218 2 (encs (c218 true) v4.Store.Arena.Knots), .int .i64 v4.Store.Next, .int .i64 v4.Seq, .int .i64 v4.Tx, .int .i64 v4.Base]), (.box 6, [.junk, .junk, .sl true 218 2 (encs (c218 true) v4.Store.Arena.Knots), .int .i64 v4.Store.Next, .int .i64 v4.Seq, .int .i64 v4.Tx, .int .i64 v4.Base]), (.box 6, [.junk, .junk, .junk, .int .i64 v4.Store.Next, .int .i64 v4.Seq, .int .i64 v4.Tx, .int .i64 v4.Base])] 48 (fun v9 => (I v9)) rfl rfl rfl (avl := [.sv (.agg [.sl true 124 3 (encs (c124 true) v4.Flash.Blocks), .sl true 110 2 (encs c110 v4.Store.Vols), .sl true 218 2 (encs (c218 true) v4.Store.Arena.Knots), .int .i64 v4.Store.Next, .int .i64 v4.Seq, .int .i64 v4.Tx, .int .i64 v4.Base]), .sv (.one (.int .i64 1))]) rfl (fun v hv => w_markDevice_t v4 1 v hv) (.inl rfl) ?_
 intro v9 gv9 h
 refine LWp.o 9 (I v9) ?_
 refine LWp.nil ?_
 refine Wp.seq ?_
 refine Wp.seq ?_
 refine Wp.j1 h [1, 4, 5, 7, 61] [.box 1] (fun a => (w_FnExactBaseSteps_H2 xAD v3 v5 a)) ?_ ?_
 · intro a h
   refine Wp.region ?_
   refine LWp.o 49 (I v9) ?_
   refine LWp.o 50 (B (decide (v9 < 0))) ?_
   refine LWp.o 51 (B (decide (v9 < 0))) ?_
   refine LWp.sp h 51 (fun h => ?_) (fun h => ?_)
   · refine LWp.sh 52 ?_
     refine LWp.sh 53 ?_
     refine LWp.sh 54 ?_
     refine LWp.sh 55 ?_
     refine LWp.o 56 (B true) ?_
     refine LWp.o 57 (B true) ?_
     refine LWp.sh 58 ?_
     refine LWp.sh 59 ?_
     refine LWp.sh 60 ?_
     refine LWp.o 61 (B true) ?_
     refine LWp.nil ?_
     cases h
     exact ⟨_, rfl, rfl, rfl⟩
   refine LWp.o 52 (.one (.view (.slot 7) 0 [] 0)) ?_
   refine LWp.o 53 (.one (.view (.slot 4) 0 [] 0)) ?_
   refine LWp.cl h 54 (fun v10 => (B v10)) rfl (l := [.sv (.one (.sl false 99 4 (shares (encs c99 v5.1)))), .sv (.one (.sl false 99 4 (shares (encs c99 v3.1))))]) rfl (fun v hv => cg (l := [.sv (.one (.sl false 99 4 (shares (encs c99 v5.1)))), .sv (.one (.sl false 99 4 (shares (encs c99 v3.1))))]) (by simp only [sh99]) (w_eqStepS_t v5.1 v3.1 v hv)) (.inr (fun v => rfl)) ?_
   intro v10 gv10 h
   refine LWp.o 55 (B (!v10)) ?_
   refine LWp.o 56 (B (!v10)) ?_
   refine LWp.o 57 (B (!v10)) ?_
   refine LWp.sp h 57 (fun h => ?_) (fun h => ?_)
   · refine LWp.sh 58 ?_
     refine LWp.sh 59 ?_
     refine LWp.sh 60 ?_
     refine LWp.o 61 (B true) ?_
     refine LWp.nil ?_
     cases h
     exact ⟨_, rfl, rfl, rfl⟩
   refine LWp.o 58 (B v5.2) ?_
   refine LWp.o 59 (B v3.2) ?_
   refine LWp.o 60 (B (!(v5.2 == v3.2))) ?_
   refine LWp.o 61 (B (!(v5.2 == v3.2))) ?_
   refine LWp.nil ?_
   cases h
   exact ⟨_, rfl, rfl, rfl⟩
 intro j2 h E hE
 refine nt_wp hE ?_
 change Wp _ _ _ (w_FnExactBaseSteps_H2 xAD v3 v5 j2) _
 refine Wp.c h (fun h => ?_) (fun h => ?_)
 · refine Wp.seq (Wp.region ?_)
   refine LWp.o 2 (B false) ?_
   refine LWp.nil ?_
   cases h
   exact Wp.ret ⟨.inr rfl, _, _, rfl, rfl⟩
 refine Wp.skip ?_
 refine Wp.seq (Wp.region ?_)
 refine LWp.o 10 (I 1) ?_
 refine LWp.nil ?_
 refine Wp.seq (Wp.region ?_)
 refine LWp.o 62 (.one (.view (.slot 7) 0 [] 0)) ?_
 refine LWp.o 63 (I 1) ?_
 refine LWp.leb h (.slot 7) [] 0 [.sl true 99 4 (encs c99 v5.1)] 64 (e := 99) (sz := 4) (encs c99 v5.1) 1 (fun v => v.1) (fun v11 => (encs c99 v11.2)) (fun v11 => [.sl true 99 4 (encs c99 v11.2)]) rfl (fun v11 => At.nl rfl) rfl (fun v hv => w_markStepS_t v5.1 1 v hv) (ns99 _) (fun _ => ns99 _) ?_ (.inl ⟨7, _, rfl, rfl, rfl, rfl, fun _ _ _ _ _ _ _ h => h⟩)
 intro v11 gv11 h
 refine LWp.o 10 (I v11.1) ?_
 refine LWp.nil ?_
 refine Wp.seq (Wp.region ?_)
 refine LWp.o 11 (I 1) ?_
 refine LWp.nil ?_
 refine Wp.seq (Wp.region ?_)
 refine LWp.o 65 (.one (.view (.slot 7) 1 [] 0)) ?_
 refine LWp.o 66 (I 1) ?_
 refine LWp.cl h 67 (fun v12 => (I v12)) rfl (l := [.sv (.one (.sl false 99 4 (shares (encs c99 v11.2)))), .sv (.one (.int .i64 1))]) rfl (fun v hv => cg (l := [.sv (.one (.sl false 99 4 (shares (encs c99 v11.2)))), .sv (.one (.int .i64 1))]) (by simp only [sh99]) (w_heldStepS_t v11.2 1 v hv)) (.inr (fun v => rfl)) ?_
 intro v12 gv12 h
 refine LWp.o 11 (I v12) ?_
 refine LWp.nil ?_
 refine Wp.seq ?_
 refine Wp.seq (Wp.region ?_)
 refine LWp.o 68 (I v12) ?_
 refine LWp.o 69 (B (decide (v12 < 0))) ?_
 refine LWp.nil ?_
 refine Wp.c h (fun h => ?_) (fun h => ?_)
 · refine Wp.seq (Wp.region ?_)
   refine LWp.o 2 (B false) ?_
   refine LWp.nil ?_
   cases h
   exact Wp.ret ⟨.inr rfl, _, _, rfl, rfl⟩
 refine Wp.skip ?_
 refine Wp.seq ?_
 refine Wp.seq (Wp.region ?_)
 refine LWp.o 70 (I v12) ?_
 refine LWp.o 71 (I v11.1) ?_
 refine LWp.o 72 (B (v12 != v11.1)) ?_
 refine LWp.nil ?_
 refine Wp.c h (fun h => ?_) (fun h => ?_)
 · refine Wp.seq (Wp.region ?_)
   refine LWp.o 2 (B false) ?_
   refine LWp.nil ?_
   cases h
   exact Wp.ret ⟨.inr rfl, _, _, rfl, rfl⟩
 refine Wp.skip ?_
 refine Wp.seq (Wp.region ?_)
 refine LWp.o 74 (.agg [.sl false 176 3 (encs (c176 false) xAD.Flash.Blocks), .sl false 188 2 (encs c188 xAD.Store.Vols), .sl false 211 2 (encs (c211 false) xAD.Store.Arena.Knots), .int .i64 xAD.Store.Next, .int .i64 xAD.Seq, .int .i64 xAD.Tx, .int .i64 xAD.Base]) ?_
 refine LWp.cl h 75 (fun v13 => (.agg [.sl true 124 3 (encs (c124 true) v13.Flash.Blocks), .sl true 110 2 (encs c110 v13.Store.Vols), .sl true 218 2 (encs (c218 true) v13.Store.Arena.Knots), .int .i64 v13.Store.Next, .int .i64 v13.Seq, .int .i64 v13.Tx, .int .i64 v13.Base])) rfl (l := [.sv (.agg [.sl false 176 3 (encs (c176 false) xAD.Flash.Blocks), .sl false 188 2 (encs c188 xAD.Store.Vols), .sl false 211 2 (encs (c211 false) xAD.Store.Arena.Knots), .int .i64 xAD.Store.Next, .int .i64 xAD.Seq, .int .i64 xAD.Tx, .int .i64 xAD.Base])]) rfl (fun v hv => w_toDevice_t xAD v hv) (.inl rfl) ?_
 intro v13 gv13 h
 refine LWp.cl h 76 (fun v14 => (.tup [(.one (.sl true 99 4 (encs c99 v14.1))), (B v14.2)])) rfl (l := [.sv (.agg [.sl false 124 3 (shares (encs (c124 true) v13.Flash.Blocks)), .sl false 110 2 (shares (encs c110 v13.Store.Vols)), .sl false 218 2 (shares (encs (c218 true) v13.Store.Arena.Knots)), .int .i64 v13.Store.Next, .int .i64 v13.Seq, .int .i64 v13.Tx, .int .i64 v13.Base])]) rfl (fun v hv => cg (l := [.sv (.agg [.sl false 124 3 (shares (encs (c124 true) v13.Flash.Blocks)), .sl false 110 2 (shares (encs c110 v13.Store.Vols)), .sl false 218 2 (shares (encs (c218 true) v13.Store.Arena.Knots)), .int .i64 v13.Store.Next, .int .i64 v13.Seq, .int .i64 v13.Tx, .int .i64 v13.Base])]) (by simp only [sh110, sh124, sh218]) (i_BaseSteps_t v13 v hv)) (.inr (fun v => by simp [svShared, svShareds, hasShareds, hasShared, ns99])) ?_
 intro v14 gv14 h
 refine LWp.mt 76 73 (.tup [(.one (.sl true 99 4 (encs c99 v14.1))), (B v14.2)]) ?_
 refine LWp.e 73 0 77 (.one (.sl true 99 4 (encs c99 v14.1))) ?_
 refine LWp.e 73 1 78 (B v14.2) ?_
 refine LWp.m true [(.slot 77, [.junk])] 12 (.one (.sl true 99 4 (encs c99 v14.1))) ?_
 refine LWp.o 13 (B v14.2) ?_
 refine LWp.nil ?_
 refine Wp.seq ?_
 refine Wp.seq ?_
 refine Wp.j1 h [7, 10, 87] [] (fun a => (w_FnExactBaseSteps_H3 v11 a)) ?_ ?_
 · intro a h
   refine Wp.region ?_
   refine LWp.o 79 (.one (.view (.slot 12) 1 [] 0)) ?_
   refine LWp.o 80 (.one (.view (.slot 4) 0 [] 0)) ?_
   refine LWp.cl h 81 (fun v15 => (B v15)) rfl (l := [.sv (.one (.sl false 99 4 (shares (encs c99 v14.1)))), .sv (.one (.sl false 99 4 (shares (encs c99 v3.1))))]) rfl (fun v hv => cg (l := [.sv (.one (.sl false 99 4 (shares (encs c99 v14.1)))), .sv (.one (.sl false 99 4 (shares (encs c99 v3.1))))]) (by simp only [sh99]) (w_eqStepS_t v14.1 v3.1 v hv)) (.inr (fun v => rfl)) ?_
   intro v15 gv15 h
   refine LWp.o 82 (B (!v15)) ?_
   refine LWp.o 83 (B (!v15)) ?_
   refine LWp.sp h 83 (fun h => ?_) (fun h => ?_)
   · refine LWp.sh 84 ?_
     refine LWp.sh 85 ?_
     refine LWp.sh 86 ?_
     refine LWp.o 87 (B true) ?_
     refine LWp.nil ?_
     cases h
     exact ⟨_, rfl, rfl, rfl⟩
   refine LWp.o 84 (B v14.2) ?_
   refine LWp.o 85 (B v3.2) ?_
   refine LWp.o 86 (B (!(v14.2 == v3.2))) ?_
   refine LWp.o 87 (B (!(v14.2 == v3.2))) ?_
   refine LWp.nil ?_
   cases h
   exact ⟨_, rfl, rfl, rfl⟩
 intro j3 h E hE
 refine nt_wp hE ?_
 change Wp _ _ _ (w_FnExactBaseSteps_H3 v11 j3) _
 refine Wp.c h (fun h => ?_) (fun h => ?_)
 · refine Wp.seq (Wp.region ?_)
   refine LWp.o 2 (B false) ?_
   refine LWp.nil ?_
   cases h
   exact Wp.ret ⟨.inr rfl, _, _, rfl, rfl⟩
 refine Wp.skip ?_
 refine Wp.seq (Wp.region ?_)
 refine LWp.o 11 (I 1) ?_
 refine LWp.nil ?_
 refine Wp.seq (Wp.region ?_)
 refine LWp.o 88 (.one (.view (.slot 7) 0 [] 0)) ?_
 refine LWp.o 89 (I 1) ?_
 refine LWp.cl h 90 (fun v16 => (I v16)) rfl (l := [.sv (.one (.sl false 99 4 (shares (encs c99 v11.2)))), .sv (.one (.int .i64 1))]) rfl (fun v hv => cg (l := [.sv (.one (.sl false 99 4 (shares (encs c99 v11.2)))), .sv (.one (.int .i64 1))]) (by simp only [sh99]) (w_heldStepS_t v11.2 1 v hv)) (.inr (fun v => rfl)) ?_
 intro v16 gv16 h
 refine LWp.o 11 (I v16) ?_
 refine LWp.nil ?_
 refine Wp.seq ?_
 refine Wp.seq (Wp.region ?_)
 refine LWp.o 91 (I v16) ?_
 refine LWp.o 92 (B (decide (v16 < 0))) ?_
 refine LWp.nil ?_
 refine Wp.c h (fun h => ?_) (fun h => ?_)
 · refine Wp.seq (Wp.region ?_)
   refine LWp.o 2 (B false) ?_
   refine LWp.nil ?_
   cases h
   exact Wp.ret ⟨.inr rfl, _, _, rfl, rfl⟩
 refine Wp.skip ?_
 refine Wp.seq ?_
 refine Wp.seq (Wp.region ?_)
 refine LWp.o 93 (I v16) ?_
 refine LWp.o 94 (I v11.1) ?_
 refine LWp.o 95 (B (v16 != v11.1)) ?_
 refine LWp.nil ?_
 refine Wp.c h (fun h => ?_) (fun h => ?_)
 · refine Wp.seq (Wp.region ?_)
   refine LWp.o 2 (B false) ?_
   refine LWp.nil ?_
   cases h
   exact Wp.ret ⟨.inr rfl, _, _, rfl, rfl⟩
 refine Wp.skip ?_
 refine Wp.seq (Wp.region ?_)
 refine LWp.o 2 (B true) ?_
 refine LWp.nil ?_
 cases h
 exact Wp.ret ⟨.inr rfl, _, _, rfl, rfl⟩
end Go.TI
