/- That they compute it. No condition. -/
import Derived.Test.YtdppikmniniaiaaBOW0
namespace Go.TI
open Go Go.Proofs
set_option linter.unusedVariables false
set_option linter.unusedSimpArgs false

def s_Bounds_H1 (xD : Device) (z1 : Int) (z2 : Int) : St := mkSt [(1, (.one (.ptr (.box 1) 0 [] 0))), (3, (I z1)), (4, (I z2))] [(.box 1, [.sl false 60 3 (encs (c60 false) xD.Flash.Blocks), .sl false 114 2 (encs c114 xD.Store.Vols), .sl false 142 2 (encs (c142 false) xD.Store.Arena.Knots), .int .i64 xD.Store.Next, .int .i64 xD.Seq, .int .i64 xD.Tx, .int .i64 xD.Base])]
def s_Bounds_H2 (xD : Device) (z3 : Int) : St := mkSt [(1, (.one (.ptr (.box 1) 0 [] 0))), (3, (I z3))] [(.box 1, [.sl false 60 3 (encs (c60 false) xD.Flash.Blocks), .sl false 114 2 (encs c114 xD.Store.Vols), .sl false 142 2 (encs (c142 false) xD.Store.Arena.Knots), .int .i64 xD.Store.Next, .int .i64 xD.Seq, .int .i64 xD.Tx, .int .i64 xD.Base])]
set_option maxRecDepth 100000 in
theorem s_Bounds_t (xD : Device) (r : Bool) (h : s_Bounds xD = some r) : Gives Try.prog 11 [.sv (.agg [.sl false 60 3 (encs (c60 false) xD.Flash.Blocks), .sl false 114 2 (encs c114 xD.Store.Vols), .sl false 142 2 (encs (c142 false) xD.Store.Arena.Knots), .int .i64 xD.Store.Next, .int .i64 xD.Seq, .int .i64 xD.Tx, .int .i64 xD.Base])] (B r) (List.replicate 1 .gone) := by
 unfold s_Bounds at h
 refine gives_of Try.func11 rfl ?_
 rw [Try.ntmps11]
 refine Wp.seq ?_
 refine Wp.region ?_
 refine LWp.b [] 1 [.sl false 60 3 (encs (c60 false) xD.Flash.Blocks), .sl false 114 2 (encs c114 xD.Store.Vols), .sl false 142 2 (encs (c142 false) xD.Store.Arena.Knots), .int .i64 xD.Store.Next, .int .i64 xD.Seq, .int .i64 xD.Tx, .int .i64 xD.Base] ?_
 refine LWp.o 2 (B false) ?_
 refine LWp.nil ?_
 refine Wp.seq ?_
 refine Wp.region ?_
 refine LWp.o 3 (I 0) ?_
 refine LWp.nil ?_
 refine Wp.seq ?_
 refine Wp.seq ?_
 refine Wp.region ?_
 refine LWp.o 4 (I 0) ?_
 refine LWp.nil ?_
 refine Wp.l2 h [1, 3, 4] [.box 1] (fun s => (s_Bounds_H1 xD s.1 s.2)) [1, 3] [.box 1] (fun s => (s_Bounds_H2 xD s)) ⟨rfl, rfl⟩ ?_ ?_
 · rintro ⟨yPages1, yB1⟩ o (h : s_Bounds_b1 xD yPages1 yB1 = some o) hk1
   unfold s_Bounds_b1 at h
   change Wp _ _ _ (s_Bounds_H1 xD yPages1 yB1) _
   refine Wp.seq ?_
   refine Wp.seq ?_
   refine Wp.region ?_
   refine LWp.o 5 (I yB1) ?_
   refine LWp.o 6 (.one (.ptr (.box 1) 0 [] 0)) ?_
   refine LWp.o 7 (.one (.ptr (.box 1) 0 [] 0)) ?_
   refine LWp.o 8 (.one (.sl false 60 3 (encs (c60 false) xD.Flash.Blocks))) ?_
   refine LWp.o 9 (I (ln xD.Flash.Blocks)) ?_ (st_pure (p_ln (k60 false) xD.Flash.Blocks))
   refine LWp.o 10 (B (decide (yB1 < (ln xD.Flash.Blocks)))) ?_
   refine LWp.nil ?_
   refine Wp.c h (fun h => ?_) (fun h => ?_)
   · refine Wp.skip ?_
     refine Wp.seq ?_
     refine Wp.block ?_
     refine Wp.seq ?_
     refine Wp.seq ?_
     refine Wp.region ?_
     refine LWp.o 13 (.one (.ptr (.box 1) 0 [] 0)) ?_
     refine LWp.o 14 (.one (.ptr (.box 1) 0 [] 0)) ?_
     refine LWp.o 15 (.one (.sl false 60 3 (encs (c60 false) xD.Flash.Blocks))) ?_
     refine LWp.o 16 (I yB1) ?_
     refine LWp.p h 17 (fun _ => (.one (.ptr (.slot 15) 1 [0] (Int.toNat yB1 * 3 + 0)))) ?_ (fun x1 gx1 => st_pure (p_ix (k60 false) (.slot 15) [] 0 gx1))
     intro x1 gx1 h
     refine LWp.o 18 (.one (.ptr (.slot 15) 1 [0] (Int.toNat yB1 * 3 + 1))) ?_ (st_pure (p_fa (k60 false) (.slot 15) [0] 0 gx1))
     refine LWp.o 19 (I x1.Wear) ?_ (st_pure (p_lc (k60 false) (.slot 15) [0] 1 (.int .i64 x1.Wear) gx1))
     refine LWp.cl h 20 (fun v1 => (B v1)) rfl (l := [.sv (.one (.int .i64 x1.Wear)), .sv (.one (.int .i64 0)), .sv (.one (.int .i64 1000000000))]) rfl (fun v hv => s_l01In_t x1.Wear 0 1000000000 v hv) (.inl rfl) ?_
     intro v1 gv1 h
     refine LWp.o 21 (B (!v1)) ?_
     refine LWp.nil ?_
     refine Wp.c h (fun h => ?_) (fun h => ?_)
     · refine Wp.seq ?_
       refine Wp.region ?_
       refine LWp.o 2 (B false) ?_
       refine LWp.nil ?_
       cases h
       replace h : some _ = some _ := hk1 _ rfl
       cases h
       exact Wp.ret ⟨.inr rfl, _, _, rfl, rfl⟩
     refine Wp.skip ?_
     refine Wp.region ?_
     refine LWp.o 22 (I yPages1) ?_
     refine LWp.o 23 (.one (.ptr (.box 1) 0 [] 0)) ?_
     refine LWp.o 24 (.one (.ptr (.box 1) 0 [] 0)) ?_
     refine LWp.o 25 (.one (.sl false 60 3 (encs (c60 false) xD.Flash.Blocks))) ?_
     refine LWp.o 26 (I yB1) ?_
     refine LWp.p h 27 (fun _ => (.one (.ptr (.slot 25) 1 [0] (Int.toNat yB1 * 3 + 0)))) ?_ (fun x2 gx2 => st_pure (p_ix (k60 false) (.slot 25) [] 0 gx2))
     intro x2 gx2 h
     refine LWp.o 28 (.one (.ptr (.slot 25) 1 [0] (Int.toNat yB1 * 3 + 2))) ?_ (st_pure (p_fa (k60 false) (.slot 25) [0] 0 gx2))
     refine LWp.o 29 (.one (.sl false 57 2 (encs c57 x2.Leaves))) ?_ (st_pure (p_lc (k60 false) (.slot 25) [0] 2 (.sl false 57 2 (encs c57 x2.Leaves)) gx2))
     refine LWp.o 30 (I (ln x2.Leaves)) ?_ (st_pure (p_ln k57 x2.Leaves))
     refine LWp.o 31 (I (ad yPages1 (ln x2.Leaves))) ?_
     refine LWp.o 3 (I (ad yPages1 (ln x2.Leaves))) ?_
     refine LWp.nil ?_
     refine Wp.region ?_
     refine LWp.o 11 (I yB1) ?_
     refine LWp.o 12 (I (ad yB1 1)) ?_
     refine LWp.o 4 (I (ad yB1 1)) ?_
     refine LWp.nil ?_
     cases h
     exact ⟨_, rfl, rfl, rfl⟩
   refine Wp.exit ?_
   cases h
   exact ⟨_, rfl, rfl, rfl⟩
 intro v2 h E hE
 refine nt_wp hE ?_
 change Wp _ _ _ (s_Bounds_H2 xD v2) _
 refine Wp.seq ?_
 refine Wp.region ?_
 refine LWp.o 32 (.one (.ptr (.box 1) 0 [] 0)) ?_
 refine LWp.o 33 (.agg [.sl false 60 3 (encs (c60 false) xD.Flash.Blocks)]) ?_
 refine LWp.cl h 34 (fun v3 => (I v3)) rfl (l := [.sv (.agg [.sl false 60 3 (encs (c60 false) xD.Flash.Blocks)])]) rfl (fun v hv => s_RoomOf_t xD.Flash v hv) (.inl rfl) ?_
 intro v3 gv3 h
 refine LWp.o 35 (B (decide (v3 ≥ 0))) ?_
 refine LWp.o 36 (B (decide (v3 ≥ 0))) ?_
 refine LWp.sp h 36 (fun h => ?_) (fun h => ?_)
 · refine LWp.o 37 (.one (.ptr (.box 1) 0 [] 0)) ?_
   refine LWp.o 38 (.agg [.sl false 60 3 (encs (c60 false) xD.Flash.Blocks)]) ?_
   refine LWp.cl h 39 (fun v4 => (.one (.sl true 93 8 (encs c93 v4)))) rfl (l := [.sv (.agg [.sl false 60 3 (encs (c60 false) xD.Flash.Blocks)])]) rfl (fun v hv => s_ScanAll_t xD.Flash v hv) (.inl rfl) ?_
   intro v4 gv4 h
   refine LWp.o 40 (I (ln v4)) ?_ (st_pure (p_ln k93 v4))
   refine LWp.o 41 (I v2) ?_
   refine LWp.o 42 (B (decide ((ln v4) ≤ v2))) ?_
   refine LWp.o 43 (B (decide ((ln v4) ≤ v2))) ?_
   refine LWp.o 2 (B (decide ((ln v4) ≤ v2))) ?_
   refine LWp.nil ?_
   cases h
   exact Wp.ret ⟨.inr rfl, _, _, rfl, rfl⟩
 refine LWp.sh 37 ?_
 refine LWp.sh 38 ?_
 refine LWp.sh 39 ?_
 refine LWp.sh 40 ?_
 refine LWp.sh 41 ?_
 refine LWp.sh 42 ?_
 refine LWp.o 43 (B false) ?_
 refine LWp.o 2 (B false) ?_
 refine LWp.nil ?_
 cases h
 exact Wp.ret ⟨.inr rfl, _, _, rfl, rfl⟩
set_option maxRecDepth 100000 in
theorem i_in_t (xN : Int) (xLow : Int) (xHigh : Int) (r : Bool) (h : i_in xN xLow xHigh = some r) : Gives Try.prog 27 [.sv (I xN), .sv (I xLow), .sv (I xHigh)] (B r) (List.replicate 3 .gone) := by
 unfold i_in at h
 refine gives_of Try.func27 rfl ?_
 rw [Try.ntmps27]
 refine Wp.seq ?_
 refine Wp.region ?_
 refine LWp.o 6 (B false) ?_
 refine LWp.nil ?_
 refine Wp.seq ?_
 refine Wp.region ?_
 refine LWp.o 7 (I xN) ?_
 refine LWp.o 8 (I xLow) ?_
 refine LWp.o 9 (B (decide (xN ≥ xLow))) ?_
 refine LWp.o 10 (B (decide (xN ≥ xLow))) ?_
 refine LWp.sp h 10 (fun h => ?_) (fun h => ?_)
 · refine LWp.o 11 (I xN) ?_
   refine LWp.o 12 (I xHigh) ?_
   refine LWp.o 13 (B (decide (xN ≤ xHigh))) ?_
   refine LWp.o 14 (B (decide (xN ≤ xHigh))) ?_
   refine LWp.o 6 (B (decide (xN ≤ xHigh))) ?_
   refine LWp.nil ?_
   cases h
   exact Wp.ret ⟨.inr rfl, _, _, rfl, rfl⟩
 refine LWp.sh 11 ?_
 refine LWp.sh 12 ?_
 refine LWp.sh 13 ?_
 refine LWp.o 14 (B false) ?_
 refine LWp.o 6 (B false) ?_
 refine LWp.nil ?_
 cases h
 exact Wp.ret ⟨.inr rfl, _, _, rfl, rfl⟩
def i_blanks_H1 (xB : Block) (z1 : Int) (z2 : Int) : St := mkSt [(3, (I z1)), (7, (.one (.sl false 57 2 (encs c57 xB.Leaves)))), (8, (I (ln xB.Leaves))), (9, (I z2))] []
def i_blanks_H2 (z3 : Int) : St := mkSt [(3, (I z3))] []
set_option maxRecDepth 100000 in
theorem i_blanks_t (xB : Block) (r : Int) (h : i_blanks xB = some r) : Gives Try.prog 45 [.sv (.agg [.bool xB.Bad, .int .i64 xB.Wear, .sl false 57 2 (encs c57 xB.Leaves)])] (I r) (List.replicate 1 .gone) := by
 unfold i_blanks at h
 refine gives_of Try.func45 rfl ?_
 rw [Try.ntmps45]
 refine Wp.seq ?_
 refine Wp.region ?_
 refine LWp.b [] 1 [.bool xB.Bad, .int .i64 xB.Wear, .sl false 57 2 (encs c57 xB.Leaves)] ?_
 refine LWp.o 2 (I 0) ?_
 refine LWp.nil ?_
 refine Wp.seq ?_
 refine Wp.region ?_
 refine LWp.o 3 (I 0) ?_
 refine LWp.nil ?_
 refine Wp.seq ?_
 refine Wp.seq ?_
 refine Wp.region ?_
 refine LWp.o 6 (.one (.ptr (.box 1) 1 [] 2)) ?_
 refine LWp.o 7 (.one (.sl false 57 2 (encs c57 xB.Leaves))) ?_
 refine LWp.o 8 (I (ln xB.Leaves)) ?_ (st_pure (p_ln k57 xB.Leaves))
 refine LWp.o 9 (I 0) ?_
 refine LWp.nil ?_
 refine Wp.l1 h [3, 7, 8, 9] [] (fun s => (i_blanks_H1 xB s.1 s.2)) [3] [] (fun s => (i_blanks_H2 s)) ⟨rfl, rfl⟩ ?_ ?_
 · rintro ⟨yN1, y1⟩ o (h : i_blanks_b1 xB yN1 y1 = some o)
   unfold i_blanks_b1 at h
   change Wp _ _ _ (i_blanks_H1 xB yN1 y1) _
   refine Wp.seq ?_
   refine Wp.region ?_
   refine LWp.o 10 (B (decide (y1 < (ln xB.Leaves)))) ?_
   refine LWp.nil ?_
   refine Wp.seq ?_
   refine Wp.c h (fun h => ?_) (fun h => ?_)
   · refine Wp.skip ?_
     refine Wp.seq ?_
     refine Wp.block ?_
     refine Wp.seq ?_
     refine Wp.region ?_
     refine LWp.p h 11 (fun _ => (.one (.ptr (.slot 7) 0 [0] (Int.toNat y1 * 2 + 0)))) ?_ (fun x1 gx1 => st_pure (p_ix k57 (.slot 7) [] 0 gx1))
     intro x1 gx1 h
     refine LWp.o 12 (.agg [.int .i64 x1.Is, .str x1.Text]) ?_ (st_pure (p_le k57 (.slot 7) [0] gx1))
     refine LWp.b [] 5 [.int .i64 0, .str (bs [])] ?_
     refine LWp.s [] (.box 5) [.int .i64 x1.Is, .str x1.Text] ?_
     refine LWp.nil ?_
     refine Wp.seq ?_
     refine Wp.region ?_
     refine LWp.o 13 (.one (.ptr (.box 5) 1 [] 0)) ?_
     refine LWp.o 14 (I x1.Is) ?_
     refine LWp.o 15 (B (x1.Is == 0)) ?_
     refine LWp.nil ?_
     refine Wp.c h (fun h => ?_) (fun h => ?_)
     · refine Wp.region ?_
       refine LWp.o 16 (I yN1) ?_
       refine LWp.o 17 (I (ad yN1 1)) ?_
       refine LWp.o 3 (I (ad yN1 1)) ?_
       refine LWp.nil ?_
       refine Wp.region ?_
       refine LWp.o 18 (I (ad y1 1)) ?_
       refine LWp.o 9 (I (ad y1 1)) ?_
       refine LWp.nil ?_
       cases h
       exact ⟨_, rfl, rfl, rfl⟩
     refine Wp.skip ?_
     refine Wp.region ?_
     refine LWp.o 18 (I (ad y1 1)) ?_
     refine LWp.o 9 (I (ad y1 1)) ?_
     refine LWp.nil ?_
     cases h
     exact ⟨_, rfl, rfl, rfl⟩
   refine Wp.exit ?_
   cases h
   exact ⟨_, rfl, rfl, rfl⟩
 intro v1 h E hE
 refine nt_wp hE ?_
 change Wp _ _ _ (i_blanks_H2 v1) _
 refine Wp.seq ?_
 refine Wp.region ?_
 refine LWp.o 19 (I v1) ?_
 refine LWp.o 2 (I v1) ?_
 refine LWp.nil ?_
 cases h
 exact Wp.ret ⟨.inr rfl, _, _, rfl, rfl⟩
def i_RoomOf_H1 (xF : Flash) (z1 : Int) (z2 : Int) : St := mkSt [(3, (I z1)), (7, (.one (.sl false 60 3 (encs (c60 false) xF.Blocks)))), (8, (I (ln xF.Blocks))), (9, (I z2))] []
def i_RoomOf_H2 (z3 : Int) : St := mkSt [(3, (I z3))] []
set_option maxRecDepth 100000 in
theorem i_RoomOf_t (xF : Flash) (r : Int) (h : i_RoomOf xF = some r) : Gives Try.prog 28 [.sv (.agg [.sl false 60 3 (encs (c60 false) xF.Blocks)])] (I r) (List.replicate 1 .gone) := by
 unfold i_RoomOf at h
 refine gives_of Try.func28 rfl ?_
 rw [Try.ntmps28]
 refine Wp.seq ?_
 refine Wp.region ?_
 refine LWp.b [] 1 [.sl false 60 3 (encs (c60 false) xF.Blocks)] ?_
 refine LWp.o 2 (I 0) ?_
 refine LWp.nil ?_
 refine Wp.seq ?_
 refine Wp.region ?_
 refine LWp.o 3 (I 0) ?_
 refine LWp.nil ?_
 refine Wp.seq ?_
 refine Wp.seq ?_
 refine Wp.region ?_
 refine LWp.o 6 (.one (.ptr (.box 1) 1 [] 0)) ?_
 refine LWp.o 7 (.one (.sl false 60 3 (encs (c60 false) xF.Blocks))) ?_
 refine LWp.o 8 (I (ln xF.Blocks)) ?_ (st_pure (p_ln (k60 false) xF.Blocks))
 refine LWp.o 9 (I 0) ?_
 refine LWp.nil ?_
 refine Wp.l1 h [3, 7, 8, 9] [] (fun s => (i_RoomOf_H1 xF s.1 s.2)) [3] [] (fun s => (i_RoomOf_H2 s)) ⟨rfl, rfl⟩ ?_ ?_
 · rintro ⟨yN1, y1⟩ o (h : i_RoomOf_b1 xF yN1 y1 = some o)
   unfold i_RoomOf_b1 at h
   change Wp _ _ _ (i_RoomOf_H1 xF yN1 y1) _
   refine Wp.seq ?_
   refine Wp.region ?_
   refine LWp.o 10 (B (decide (y1 < (ln xF.Blocks)))) ?_
   refine LWp.nil ?_
   refine Wp.seq ?_
   refine Wp.c h (fun h => ?_) (fun h => ?_)
   · refine Wp.skip ?_
     refine Wp.seq ?_
     refine Wp.block ?_
     refine Wp.seq ?_
     refine Wp.region ?_
     refine LWp.p h 11 (fun _ => (.one (.ptr (.slot 7) 0 [0] (Int.toNat y1 * 3 + 0)))) ?_ (fun x1 gx1 => st_pure (p_ix (k60 false) (.slot 7) [] 0 gx1))
     intro x1 gx1 h
     refine LWp.o 12 (.agg [.bool x1.Bad, .int .i64 x1.Wear, .sl false 57 2 (encs c57 x1.Leaves)]) ?_ (st_pure (p_le (k60 false) (.slot 7) [0] gx1))
     refine LWp.b [] 5 [.bool false, .int .i64 0, .sl true 57 2 (encs c57 [])] ?_
     refine LWp.sb [] (.box 5) [.bool x1.Bad, .int .i64 x1.Wear, .sl false 57 2 (encs c57 x1.Leaves)] ?_
     refine LWp.nil ?_
     refine Wp.seq ?_
     refine Wp.region ?_
     refine LWp.o 13 (.one (.ptr (.box 5) 1 [] 0)) ?_
     refine LWp.o 14 (B x1.Bad) ?_
     refine LWp.o 15 (B (!x1.Bad)) ?_
     refine LWp.nil ?_
     refine Wp.c h (fun h => ?_) (fun h => ?_)
     · refine Wp.region ?_
       refine LWp.o 16 (I yN1) ?_
       refine LWp.o 17 (.agg [.bool x1.Bad, .int .i64 x1.Wear, .sl false 57 2 (encs c57 x1.Leaves)]) ?_
       refine LWp.cl h 18 (fun v1 => (I v1)) rfl (l := [.sv (.agg [.bool x1.Bad, .int .i64 x1.Wear, .sl false 57 2 (encs c57 x1.Leaves)])]) rfl (fun v hv => i_blanks_t x1 v hv) (.inl rfl) ?_
       intro v1 gv1 h
       refine LWp.o 19 (I (ad yN1 v1)) ?_
       refine LWp.o 3 (I (ad yN1 v1)) ?_
       refine LWp.nil ?_
       refine Wp.region ?_
       refine LWp.o 20 (I (ad y1 1)) ?_
       refine LWp.o 9 (I (ad y1 1)) ?_
       refine LWp.nil ?_
       cases h
       exact ⟨_, rfl, rfl, rfl⟩
     refine Wp.skip ?_
     refine Wp.region ?_
     refine LWp.o 20 (I (ad y1 1)) ?_
     refine LWp.o 9 (I (ad y1 1)) ?_
     refine LWp.nil ?_
     cases h
     exact ⟨_, rfl, rfl, rfl⟩
   refine Wp.exit ?_
   cases h
   exact ⟨_, rfl, rfl, rfl⟩
 intro v2 h E hE
 refine nt_wp hE ?_
 change Wp _ _ _ (i_RoomOf_H2 v2) _
 refine Wp.seq ?_
 refine Wp.region ?_
 refine LWp.o 21 (I v2) ?_
 refine LWp.o 2 (I v2) ?_
 refine LWp.nil ?_
 cases h
 exact Wp.ret ⟨.inr rfl, _, _, rfl, rfl⟩
def i_SumMore_H1 (xText : ByteArray) (z1 : Int) (z2 : Int) : St := mkSt [(0, (.one (.int .u32 z1))), (1, (Y xText)), (5, (I z2))] []
def i_SumMore_H2 (z3 : Int) : St := mkSt [(0, (.one (.int .u32 z3)))] []
def i_SumMore_H3 (xText : ByteArray) (yI1 : Int) (z4 : Int) (z5 : Int) : St := mkSt [(0, (.one (.int .u32 z4))), (1, (Y xText)), (5, (I yI1)), (19, (I z5))] []
def i_SumMore_H4 (xText : ByteArray) (yI1 : Int) (z6 : Int) : St := mkSt [(0, (.one (.int .u32 z6))), (1, (Y xText)), (5, (I yI1))] []
set_option maxRecDepth 100000 in
theorem i_SumMore_t (xSum : Int) (xText : ByteArray) (r : Int) (h : i_SumMore xSum xText = some r) : Gives Try.prog 96 [.sv (.one (.int .u32 xSum)), .sv (Y xText)] (.one (.int .u32 r)) (List.replicate 2 .gone) := by
 unfold i_SumMore at h
 refine gives_of Try.func96 rfl ?_
 rw [Try.ntmps96]
 refine Wp.seq ?_
 refine Wp.region ?_
 refine LWp.o 4 (.one (.int .u32 0)) ?_
 refine LWp.nil ?_
 refine Wp.seq ?_
 refine Wp.seq ?_
 refine Wp.region ?_
 refine LWp.o 5 (I 0) ?_
 refine LWp.nil ?_
 refine Wp.l1 h [0, 1, 5] [] (fun s => (i_SumMore_H1 xText s.1 s.2)) [0] [] (fun s => (i_SumMore_H2 s)) ⟨rfl, rfl⟩ ?_ ?_
 · rintro ⟨ySum1, yI1⟩ o (h : i_SumMore_b1 xText ySum1 yI1 = some o)
   unfold i_SumMore_b1 at h
   change Wp _ _ _ (i_SumMore_H1 xText ySum1 yI1) _
   refine Wp.seq ?_
   refine Wp.seq ?_
   refine Wp.region ?_
   refine LWp.o 7 (I yI1) ?_
   refine LWp.o 8 (Y xText) ?_
   refine LWp.o 9 (I (sln xText)) ?_
   refine LWp.o 10 (B (decide (yI1 < (sln xText)))) ?_
   refine LWp.nil ?_
   refine Wp.c h (fun h => ?_) (fun h => ?_)
   · refine Wp.skip ?_
     refine Wp.seq ?_
     refine Wp.block ?_
     refine Wp.seq ?_
     refine Wp.region ?_
     refine LWp.o 13 (.one (.int .u32 ySum1)) ?_
     refine LWp.o 14 (Y xText) ?_
     refine LWp.o 15 (I yI1) ?_
     refine LWp.p h 16 (fun x1 => (.one (.int .u8 x1))) ?_ (fun x1 gx1 => st_pure (p_sx gx1))
     intro x1 gx1 h
     refine LWp.o 17 (.one (.int .u32 (IntKind.u32.wrap x1))) ?_
     refine LWp.o 18 (.one (.int .u32 (xr ySum1 (IntKind.u32.wrap x1)))) ?_
     refine LWp.o 0 (.one (.int .u32 (xr ySum1 (IntKind.u32.wrap x1)))) ?_
     refine LWp.nil ?_
     refine Wp.seq ?_
     refine Wp.region ?_
     refine LWp.o 19 (I 0) ?_
     refine LWp.nil ?_
     refine Wp.l1 h [0, 1, 5, 19] [] (fun s => (i_SumMore_H3 xText yI1 s.1 s.2)) [0, 1, 5] [] (fun s => (i_SumMore_H4 xText yI1 s)) ⟨rfl, rfl⟩ ?_ ?_
     · rintro ⟨ySum2, y1⟩ o (h : i_SumMore_b2 ySum2 y1 = some o)
       unfold i_SumMore_b2 at h
       change Wp _ _ _ (i_SumMore_H3 xText yI1 ySum2 y1) _
       refine Wp.seq ?_
       refine Wp.region ?_
       refine LWp.o 20 (B (decide (y1 < 8))) ?_
       refine LWp.nil ?_
       refine Wp.seq ?_
       refine Wp.c h (fun h => ?_) (fun h => ?_)
       · refine Wp.skip ?_
         refine Wp.seq ?_
         refine Wp.block ?_
         refine Wp.seq ?_
         refine Wp.region ?_
         refine LWp.o 21 (.one (.int .u32 ySum2)) ?_
         refine LWp.o 22 (.one (.int .u32 (an ySum2 1))) ?_
         refine LWp.o 6 (.one (.int .u32 (an ySum2 1))) ?_
         refine LWp.nil ?_
         refine Wp.seq ?_
         refine Wp.region ?_
         refine LWp.o 23 (.one (.int .u32 ySum2)) ?_
         refine LWp.o 24 (.one (.int .u32 (Int.fdiv ySum2 (2 ^ (min (1 : Int).toNat IntKind.u32.bits))))) ?_
         refine LWp.o 0 (.one (.int .u32 (Int.fdiv ySum2 (2 ^ (min (1 : Int).toNat IntKind.u32.bits))))) ?_
         refine LWp.nil ?_
         refine Wp.seq ?_
         refine Wp.region ?_
         refine LWp.o 25 (.one (.int .u32 (an ySum2 1))) ?_
         refine LWp.o 26 (B ((an ySum2 1) == 1)) ?_
         refine LWp.nil ?_
         refine Wp.c h (fun h => ?_) (fun h => ?_)
         · refine Wp.region ?_
           refine LWp.o 27 (.one (.int .u32 (Int.fdiv ySum2 (2 ^ (min (1 : Int).toNat IntKind.u32.bits))))) ?_
           refine LWp.o 28 (.one (.int .u32 (xr (Int.fdiv ySum2 (2 ^ (min (1 : Int).toNat IntKind.u32.bits))) 3558460437))) ?_
           refine LWp.o 0 (.one (.int .u32 (xr (Int.fdiv ySum2 (2 ^ (min (1 : Int).toNat IntKind.u32.bits))) 3558460437))) ?_
           refine LWp.nil ?_
           refine Wp.region ?_
           refine LWp.o 29 (I (ad y1 1)) ?_
           refine LWp.o 19 (I (ad y1 1)) ?_
           refine LWp.nil ?_
           cases h
           exact ⟨_, rfl, rfl, rfl⟩
         refine Wp.skip ?_
         refine Wp.region ?_
         refine LWp.o 29 (I (ad y1 1)) ?_
         refine LWp.o 19 (I (ad y1 1)) ?_
         refine LWp.nil ?_
         cases h
         exact ⟨_, rfl, rfl, rfl⟩
       refine Wp.exit ?_
       cases h
       exact ⟨_, rfl, rfl, rfl⟩
     intro v1 h E hE
     refine nt_wp hE ?_
     change Wp _ _ _ (i_SumMore_H4 xText yI1 v1) _
     refine Wp.region ?_
     refine LWp.o 11 (I yI1) ?_
     refine LWp.o 12 (I (ad yI1 1)) ?_
     refine LWp.o 5 (I (ad yI1 1)) ?_
     refine LWp.nil ?_
     cases h
     exact ⟨_, rfl, rfl, rfl⟩
   refine Wp.exit ?_
   cases h
   exact ⟨_, rfl, rfl, rfl⟩
 intro v2 h E hE
 refine nt_wp hE ?_
 change Wp _ _ _ (i_SumMore_H2 v2) _
 refine Wp.seq ?_
 refine Wp.region ?_
 refine LWp.o 30 (.one (.int .u32 v2)) ?_
 refine LWp.o 4 (.one (.int .u32 v2)) ?_
 refine LWp.nil ?_
 cases h
 exact Wp.ret ⟨.inr rfl, _, _, rfl, rfl⟩
set_option maxRecDepth 100000 in
theorem i_SumOf_t (xText : ByteArray) (r : Int) (h : i_SumOf xText = some r) : Gives Try.prog 91 [.sv (Y xText)] (.one (.int .u32 r)) (List.replicate 1 .gone) := by
 unfold i_SumOf at h
 refine gives_of Try.func91 rfl ?_
 rw [Try.ntmps91]
 refine Wp.seq ?_
 refine Wp.region ?_
 refine LWp.o 2 (.one (.int .u32 0)) ?_
 refine LWp.nil ?_
 refine Wp.seq ?_
 refine Wp.region ?_
 refine LWp.o 3 (Y xText) ?_
 refine LWp.cl h 4 (fun v1 => (.one (.int .u32 v1))) rfl (l := [.sv (.one (.int .u32 4294967295)), .sv (.one (.str xText))]) rfl (fun v hv => i_SumMore_t 4294967295 xText v hv) (.inl rfl) ?_
 intro v1 gv1 h
 refine LWp.o 2 (.one (.int .u32 v1)) ?_
 refine LWp.nil ?_
 cases h
 exact Wp.ret ⟨.inr rfl, _, _, rfl, rfl⟩
set_option maxRecDepth 100000 in
theorem i_Sealed_t (xText : ByteArray) (r : ByteArray × Bool) (h : i_Sealed xText = some r) : Gives Try.prog 75 [.sv (Y xText)] (.tup [(Y r.1), (B r.2)]) (List.replicate 1 .gone) := by
 unfold i_Sealed at h
 refine gives_of Try.func75 rfl ?_
 rw [Try.ntmps75]
 refine Wp.seq ?_
 refine Wp.region ?_
 refine LWp.o 2 (Y (bs [])) ?_
 refine LWp.o 3 (B false) ?_
 refine LWp.nil ?_
 refine Wp.seq ?_
 refine Wp.seq ?_
 refine Wp.region ?_
 refine LWp.o 5 (Y xText) ?_
 refine LWp.o 6 (I (sln xText)) ?_
 refine LWp.o 7 (B (decide ((sln xText) > 20000))) ?_
 refine LWp.nil ?_
 refine Wp.c h (fun h => ?_) (fun h => ?_)
 · refine Wp.seq ?_
   refine Wp.region ?_
   refine LWp.o 2 (Y (bs [])) ?_
   refine LWp.o 3 (B false) ?_
   refine LWp.nil ?_
   cases h
   exact Wp.ret ⟨.inr rfl, _, _, rfl, rfl⟩
 refine Wp.skip ?_
 refine Wp.seq ?_
 refine Wp.region ?_
 refine LWp.o 8 (Y xText) ?_
 refine LWp.cl h 9 (fun v1 => (.one (.int .u32 v1))) rfl (l := [.sv (.one (.str xText))]) rfl (fun v hv => i_SumOf_t xText v hv) (.inl rfl) ?_
 intro v1 gv1 h
 refine LWp.o 4 (.one (.int .u32 v1)) ?_
 refine LWp.nil ?_
 refine Wp.seq ?_
 refine Wp.region ?_
 refine LWp.o 10 (Y xText) ?_
 refine LWp.o 11 (.one (.int .u32 v1)) ?_
 refine LWp.o 12 (.one (.int .u32 (Int.fdiv v1 (2 ^ (min (24 : Int).toNat IntKind.u32.bits))))) ?_
 refine LWp.o 13 (.one (.int .u8 (IntKind.u8.wrap (Int.fdiv v1 (2 ^ (min (24 : Int).toNat IntKind.u32.bits)))))) ?_
 refine LWp.o 14 (.one (.int .u32 v1)) ?_
 refine LWp.o 15 (.one (.int .u32 (Int.fdiv v1 (2 ^ (min (16 : Int).toNat IntKind.u32.bits))))) ?_
 refine LWp.o 16 (.one (.int .u8 (IntKind.u8.wrap (Int.fdiv v1 (2 ^ (min (16 : Int).toNat IntKind.u32.bits)))))) ?_
 refine LWp.o 17 (.one (.int .u32 v1)) ?_
 refine LWp.o 18 (.one (.int .u32 (Int.fdiv v1 (2 ^ (min (8 : Int).toNat IntKind.u32.bits))))) ?_
 refine LWp.o 19 (.one (.int .u8 (IntKind.u8.wrap (Int.fdiv v1 (2 ^ (min (8 : Int).toNat IntKind.u32.bits)))))) ?_
 refine LWp.o 20 (.one (.int .u32 v1)) ?_
 refine LWp.o 21 (.one (.int .u8 (IntKind.u8.wrap v1))) ?_
 refine LWp.m false [] 22 (.one (.sl true 5 1 (encs c5 [(IntKind.u8.wrap (Int.fdiv v1 (2 ^ (min (24 : Int).toNat IntKind.u32.bits)))), (IntKind.u8.wrap (Int.fdiv v1 (2 ^ (min (16 : Int).toNat IntKind.u32.bits)))), (IntKind.u8.wrap (Int.fdiv v1 (2 ^ (min (8 : Int).toNat IntKind.u32.bits)))), (IntKind.u8.wrap v1)]))) ?_
 refine LWp.o 23 (Y (strB [(IntKind.u8.wrap (Int.fdiv v1 (2 ^ (min (24 : Int).toNat IntKind.u32.bits)))), (IntKind.u8.wrap (Int.fdiv v1 (2 ^ (min (16 : Int).toNat IntKind.u32.bits)))), (IntKind.u8.wrap (Int.fdiv v1 (2 ^ (min (8 : Int).toNat IntKind.u32.bits)))), (IntKind.u8.wrap v1)])) ?_ (st_pure (p_cv (fun _ => rfl) [(IntKind.u8.wrap (Int.fdiv v1 (2 ^ (min (24 : Int).toNat IntKind.u32.bits)))), (IntKind.u8.wrap (Int.fdiv v1 (2 ^ (min (16 : Int).toNat IntKind.u32.bits)))), (IntKind.u8.wrap (Int.fdiv v1 (2 ^ (min (8 : Int).toNat IntKind.u32.bits)))), (IntKind.u8.wrap v1)]))
 refine LWp.p h 24 (fun x1 => (Y x1)) ?_ (fun x1 gx1 => st_pure (p_cat gx1))
 intro x1 gx1 h
 refine LWp.o 2 (Y x1) ?_
 refine LWp.o 3 (B true) ?_
 refine LWp.nil ?_
 cases h
 exact Wp.ret ⟨.inr rfl, _, _, rfl, rfl⟩
def i_Unsealed_H1 (x1 : ByteArray) (z1 : Bool) : St := mkSt [(4, (Y x1)), (26, (B z1))] []
set_option maxRecDepth 100000 in
theorem i_Unsealed_t (xText : ByteArray) (r : ByteArray × Bool) (h : i_Unsealed xText = some r) : Gives Try.prog 59 [.sv (Y xText)] (.tup [(Y r.1), (B r.2)]) (List.replicate 1 .gone) := by
 unfold i_Unsealed at h
 refine gives_of Try.func59 rfl ?_
 rw [Try.ntmps59]
 refine Wp.seq ?_
 refine Wp.region ?_
 refine LWp.o 2 (Y (bs [])) ?_
 refine LWp.o 3 (B false) ?_
 refine LWp.nil ?_
 refine Wp.seq ?_
 refine Wp.seq ?_
 refine Wp.region ?_
 refine LWp.o 7 (Y xText) ?_
 refine LWp.o 8 (I (sln xText)) ?_
 refine LWp.o 9 (B (decide ((sln xText) < 4))) ?_
 refine LWp.nil ?_
 refine Wp.c h (fun h => ?_) (fun h => ?_)
 · refine Wp.seq ?_
   refine Wp.region ?_
   refine LWp.o 2 (Y (bs [])) ?_
   refine LWp.o 3 (B false) ?_
   refine LWp.nil ?_
   cases h
   exact Wp.ret ⟨.inr rfl, _, _, rfl, rfl⟩
 refine Wp.skip ?_
 refine Wp.seq ?_
 refine Wp.region ?_
 refine LWp.o 10 (Y xText) ?_
 refine LWp.o 11 (Y xText) ?_
 refine LWp.o 12 (I (sln xText)) ?_
 refine LWp.o 13 (I (sb (sln xText) 4)) ?_
 refine LWp.p h 14 (fun x1 => (Y x1)) ?_ (fun x1 gx1 => st_pure (p_sub gx1))
 intro x1 gx1 h
 refine LWp.o 4 (Y x1) ?_
 refine LWp.nil ?_
 refine Wp.seq ?_
 refine Wp.region ?_
 refine LWp.o 16 (Y x1) ?_
 refine LWp.cl h 17 (fun v1 => (.tup [(Y v1.1), (B v1.2)])) rfl (l := [.sv (.one (.str x1))]) rfl (fun v hv => i_Sealed_t x1 v hv) (.inl rfl) ?_
 intro v1 gv1 h
 refine LWp.mt 17 15 (.tup [(Y v1.1), (B v1.2)]) ?_
 refine LWp.e 15 0 18 (Y v1.1) ?_
 refine LWp.e 15 1 19 (B v1.2) ?_
 refine LWp.o 5 (Y v1.1) ?_
 refine LWp.o 6 (B v1.2) ?_
 refine LWp.nil ?_
 refine Wp.seq ?_
 refine Wp.seq ?_
 refine Wp.j1 h [4, 26] [] (fun a => (i_Unsealed_H1 x1 a)) ?_ ?_
 · intro a h
   refine Wp.region ?_
   refine LWp.o 20 (B v1.2) ?_
   refine LWp.o 21 (B (!v1.2)) ?_
   refine LWp.o 22 (B (!v1.2)) ?_
   refine LWp.sp h 22 (fun h => ?_) (fun h => ?_)
   · refine LWp.sh 23 ?_
     refine LWp.sh 24 ?_
     refine LWp.sh 25 ?_
     refine LWp.o 26 (B true) ?_
     refine LWp.nil ?_
     cases h
     exact ⟨_, rfl, rfl, rfl⟩
   refine LWp.o 23 (Y v1.1) ?_
   refine LWp.o 24 (Y xText) ?_
   refine LWp.o 25 (B (!(seq v1.1 xText))) ?_
   refine LWp.o 26 (B (!(seq v1.1 xText))) ?_
   refine LWp.nil ?_
   cases h
   exact ⟨_, rfl, rfl, rfl⟩
 intro j1 h E hE
 refine nt_wp hE ?_
 change Wp _ _ _ (i_Unsealed_H1 x1 j1) _
 refine Wp.c h (fun h => ?_) (fun h => ?_)
 · refine Wp.seq ?_
   refine Wp.region ?_
   refine LWp.o 2 (Y (bs [])) ?_
   refine LWp.o 3 (B false) ?_
   refine LWp.nil ?_
   cases h
   exact Wp.ret ⟨.inr rfl, _, _, rfl, rfl⟩
 refine Wp.skip ?_
 refine Wp.seq ?_
 refine Wp.region ?_
 refine LWp.o 27 (Y x1) ?_
 refine LWp.o 2 (Y x1) ?_
 refine LWp.o 3 (B true) ?_
 refine LWp.nil ?_
 cases h
 exact Wp.ret ⟨.inr rfl, _, _, rfl, rfl⟩
def i_ReadVar_H1 (xText : ByteArray) (xAt : Int) (z1 : Int) (z2 : Int) : St := mkSt [(0, (Y xText)), (1, (I xAt)), (7, (I z1)), (8, (I z2))] []
def i_ReadVar_H2  : St := mkSt [] []
def i_ReadVar_H3 (xText : ByteArray) (xAt : Int) (yN1 : Int) (yK1 : Int) (z3 : Bool) : St := mkSt [(0, (Y xText)), (1, (I xAt)), (7, (I yN1)), (8, (I yK1)), (23, (B z3))] []
def i_ReadVar_H4 (xAt : Int) (yN1 : Int) (yK1 : Int) (x2 : Int) (z4 : Bool) : St := mkSt [(1, (I xAt)), (7, (I (ad yN1 x2))), (8, (I yK1)), (50, (B z4))] []
set_option maxRecDepth 100000 in
theorem i_ReadVar_t (xText : ByteArray) (xAt : Int) (r : Int × Int × Bool) (h : i_ReadVar xText xAt = some r) : Gives Try.prog 60 [.sv (Y xText), .sv (I xAt)] (.tup [(I r.1), (I r.2.1), (B r.2.2)]) (List.replicate 2 .gone) := by
 unfold i_ReadVar at h
 refine gives_of Try.func60 rfl ?_
 rw [Try.ntmps60]
 refine Wp.seq ?_
 refine Wp.region ?_
 refine LWp.o 4 (I 0) ?_
 refine LWp.o 5 (I 0) ?_
 refine LWp.o 6 (B false) ?_
 refine LWp.nil ?_
 refine Wp.seq ?_
 refine Wp.region ?_
 refine LWp.o 7 (I 0) ?_
 refine LWp.nil ?_
 refine Wp.seq ?_
 refine Wp.seq ?_
 refine Wp.region ?_
 refine LWp.o 8 (I 0) ?_
 refine LWp.nil ?_
 refine Wp.l2 h [0, 1, 7, 8] [] (fun s => (i_ReadVar_H1 xText xAt s.1 s.2)) [] [] (fun _ => i_ReadVar_H2) ⟨rfl, rfl⟩ ?_ ?_
 · rintro ⟨yN1, yK1⟩ o (h : i_ReadVar_b1 xText xAt yN1 yK1 = some o) hk1
   unfold i_ReadVar_b1 at h
   change Wp _ _ _ (i_ReadVar_H1 xText xAt yN1 yK1) _
   refine Wp.seq ?_
   refine Wp.seq ?_
   refine Wp.j1 h [0, 1, 7, 8, 23] [] (fun a => (i_ReadVar_H3 xText xAt yN1 yK1 a)) ?_ ?_
   · intro a h
     refine Wp.region ?_
     refine LWp.o 10 (I yK1) ?_
     refine LWp.o 11 (B (decide (yK1 < 5))) ?_
     refine LWp.o 12 (B (decide (yK1 < 5))) ?_
     refine LWp.sp h 12 (fun h => ?_) (fun h => ?_)
     · refine LWp.o 13 (I xAt) ?_
       refine LWp.o 14 (B (decide (xAt ≥ 0))) ?_
       refine LWp.o 15 (B (decide (xAt ≥ 0))) ?_
       refine LWp.o 16 (B (decide (xAt ≥ 0))) ?_
       refine LWp.sp h 16 (fun h => ?_) (fun h => ?_)
       · refine LWp.o 17 (I xAt) ?_
         refine LWp.o 18 (Y xText) ?_
         refine LWp.o 19 (I (sln xText)) ?_
         refine LWp.o 20 (I yK1) ?_
         refine LWp.o 21 (I (sb (sln xText) yK1)) ?_
         refine LWp.o 22 (B (decide (xAt < (sb (sln xText) yK1)))) ?_
         refine LWp.o 23 (B (decide (xAt < (sb (sln xText) yK1)))) ?_
         refine LWp.nil ?_
         cases h
         exact ⟨_, rfl, rfl, rfl⟩
       refine LWp.sh 17 ?_
       refine LWp.sh 18 ?_
       refine LWp.sh 19 ?_
       refine LWp.sh 20 ?_
       refine LWp.sh 21 ?_
       refine LWp.sh 22 ?_
       refine LWp.o 23 (B false) ?_
       refine LWp.nil ?_
       cases h
       exact ⟨_, rfl, rfl, rfl⟩
     refine LWp.sh 13 ?_
     refine LWp.sh 14 ?_
     refine LWp.o 15 (B false) ?_
     refine LWp.o 16 (B false) ?_
     refine LWp.sh 17 ?_
     refine LWp.sh 18 ?_
     refine LWp.sh 19 ?_
     refine LWp.sh 20 ?_
     refine LWp.sh 21 ?_
     refine LWp.sh 22 ?_
     refine LWp.o 23 (B false) ?_
     refine LWp.nil ?_
     cases h
     exact ⟨_, rfl, rfl, rfl⟩
   intro j1 h E hE
   refine nt_wp hE ?_
   change Wp _ _ _ (i_ReadVar_H3 xText xAt yN1 yK1 j1) _
   refine Wp.c h (fun h => ?_) (fun h => ?_)
   · refine Wp.skip ?_
     refine Wp.seq ?_
     refine Wp.block ?_
     refine Wp.seq ?_
     refine Wp.region ?_
     refine LWp.o 26 (Y xText) ?_
     refine LWp.o 27 (I xAt) ?_
     refine LWp.o 28 (I yK1) ?_
     refine LWp.o 29 (I (ad xAt yK1)) ?_
     refine LWp.p h 30 (fun x1 => (.one (.int .u8 x1))) ?_ (fun x1 gx1 => st_pure (p_sx gx1))
     intro x1 gx1 h
     refine LWp.o 31 (I (IntKind.i64.wrap x1)) ?_
     refine LWp.o 9 (I (IntKind.i64.wrap x1)) ?_
     refine LWp.nil ?_
     refine Wp.seq ?_
     refine Wp.region ?_
     refine LWp.o 32 (I yN1) ?_
     refine LWp.o 33 (I (IntKind.i64.wrap x1)) ?_
     refine LWp.o 34 (I (Int.tmod (IntKind.i64.wrap x1) 128)) ?_
     refine LWp.o 35 (I yK1) ?_
     refine LWp.o 36 (I (ml 7 yK1)) ?_
     refine LWp.p h 37 (fun x2 => (I x2)) ?_ (fun x2 gx2 => st_pure (p_shl gx2))
     intro x2 gx2 h
     refine LWp.o 38 (I (ad yN1 x2)) ?_
     refine LWp.o 7 (I (ad yN1 x2)) ?_
     refine LWp.nil ?_
     refine Wp.seq ?_
     refine Wp.seq ?_
     refine Wp.region ?_
     refine LWp.o 39 (I (IntKind.i64.wrap x1)) ?_
     refine LWp.o 40 (B (decide ((IntKind.i64.wrap x1) ≥ 128))) ?_
     refine LWp.nil ?_
     refine Wp.c h (fun h => ?_) (fun h => ?_)
     · refine Wp.exit ?_
       refine Wp.region ?_
       refine LWp.o 24 (I yK1) ?_
       refine LWp.o 25 (I (ad yK1 1)) ?_
       refine LWp.o 8 (I (ad yK1 1)) ?_
       refine LWp.nil ?_
       cases h
       exact ⟨_, rfl, rfl, rfl⟩
     refine Wp.skip ?_
     refine Wp.seq ?_
     refine Wp.seq ?_
     refine Wp.j1 h [1, 7, 8, 50] [] (fun a => (i_ReadVar_H4 xAt yN1 yK1 x2 a)) ?_ ?_
     · intro a h
       refine Wp.region ?_
       refine LWp.o 41 (I (IntKind.i64.wrap x1)) ?_
       refine LWp.o 42 (B ((IntKind.i64.wrap x1) == 0)) ?_
       refine LWp.o 43 (B ((IntKind.i64.wrap x1) == 0)) ?_
       refine LWp.sp h 43 (fun h => ?_) (fun h => ?_)
       · refine LWp.o 44 (I yK1) ?_
         refine LWp.o 45 (B (decide (yK1 > 0))) ?_
         refine LWp.o 46 (B (decide (yK1 > 0))) ?_
         refine LWp.o 47 (B (decide (yK1 > 0))) ?_
         refine LWp.sp h 47 (fun h => ?_) (fun h => ?_)
         · refine LWp.sh 48 ?_
           refine LWp.sh 49 ?_
           refine LWp.o 50 (B true) ?_
           refine LWp.nil ?_
           cases h
           exact ⟨_, rfl, rfl, rfl⟩
         refine LWp.o 48 (I (ad yN1 x2)) ?_
         refine LWp.o 49 (B (decide ((ad yN1 x2) > 1000000000))) ?_
         refine LWp.o 50 (B (decide ((ad yN1 x2) > 1000000000))) ?_
         refine LWp.nil ?_
         cases h
         exact ⟨_, rfl, rfl, rfl⟩
       refine LWp.sh 44 ?_
       refine LWp.sh 45 ?_
       refine LWp.o 46 (B false) ?_
       refine LWp.o 47 (B false) ?_
       refine LWp.o 48 (I (ad yN1 x2)) ?_
       refine LWp.o 49 (B (decide ((ad yN1 x2) > 1000000000))) ?_
       refine LWp.o 50 (B (decide ((ad yN1 x2) > 1000000000))) ?_
       refine LWp.nil ?_
       cases h
       exact ⟨_, rfl, rfl, rfl⟩
     intro j2 h E hE
     refine nt_wp hE ?_
     change Wp _ _ _ (i_ReadVar_H4 xAt yN1 yK1 x2 j2) _
     refine Wp.c h (fun h => ?_) (fun h => ?_)
     · refine Wp.seq ?_
       refine Wp.region ?_
       refine LWp.o 4 (I 0) ?_
       refine LWp.o 5 (I 0) ?_
       refine LWp.o 6 (B false) ?_
       refine LWp.nil ?_
       cases h
       replace h : some _ = some _ := hk1 _ rfl
       cases h
       exact Wp.ret ⟨.inr rfl, _, _, rfl, rfl⟩
     refine Wp.skip ?_
     refine Wp.seq ?_
     refine Wp.region ?_
     refine LWp.o 51 (I (ad yN1 x2)) ?_
     refine LWp.o 52 (I xAt) ?_
     refine LWp.o 53 (I yK1) ?_
     refine LWp.o 54 (I (ad xAt yK1)) ?_
     refine LWp.o 55 (I (ad (ad xAt yK1) 1)) ?_
     refine LWp.o 4 (I (ad yN1 x2)) ?_
     refine LWp.o 5 (I (ad (ad xAt yK1) 1)) ?_
     refine LWp.o 6 (B true) ?_
     refine LWp.nil ?_
     cases h
     replace h : some _ = some _ := hk1 _ rfl
     cases h
     exact Wp.ret ⟨.inr rfl, _, _, rfl, rfl⟩
   refine Wp.exit ?_
   cases h
   exact ⟨_, rfl, rfl, rfl⟩
 intro v1 h E hE
 refine nt_wp hE ?_
 change Wp _ _ _ i_ReadVar_H2 _
 refine Wp.seq ?_
 refine Wp.region ?_
 refine LWp.o 4 (I 0) ?_
 refine LWp.o 5 (I 0) ?_
 refine LWp.o 6 (B false) ?_
 refine LWp.nil ?_
 cases h
 exact Wp.ret ⟨.inr rfl, _, _, rfl, rfl⟩
def i_PageOk_H1 (xP : Page) (z1 : Bool) : St := mkSt [(1, (.one (.ptr (.box 1) 0 [] 0))), (33, (B z1))] [(.box 1, [.int .i64 xP.Kind, .int .i64 xP.Seq, .int .i64 xP.Tx, .int .i64 xP.Part, .int .i64 xP.Count, .str xP.Text])]
set_option maxRecDepth 100000 in
theorem i_PageOk_t (xP : Page) (r : Bool) (h : i_PageOk xP = some r) : Gives Try.prog 61 [.sv (.agg [.int .i64 xP.Kind, .int .i64 xP.Seq, .int .i64 xP.Tx, .int .i64 xP.Part, .int .i64 xP.Count, .str xP.Text])] (B r) (List.replicate 1 .gone) := by
 unfold i_PageOk at h
 refine gives_of Try.func61 rfl ?_
 rw [Try.ntmps61]
 refine Wp.seq ?_
 refine Wp.region ?_
 refine LWp.b [] 1 [.int .i64 xP.Kind, .int .i64 xP.Seq, .int .i64 xP.Tx, .int .i64 xP.Part, .int .i64 xP.Count, .str xP.Text] ?_
 refine LWp.o 2 (B false) ?_
 refine LWp.nil ?_
 refine Wp.seq ?_
 refine Wp.seq ?_
 refine Wp.j1 h [1, 33] [.box 1] (fun a => (i_PageOk_H1 xP a)) ?_ ?_
 · intro a h
   refine Wp.region ?_
   refine LWp.o 3 (.one (.ptr (.box 1) 1 [] 1)) ?_
   refine LWp.o 4 (I xP.Seq) ?_
   refine LWp.cl h 5 (fun v1 => (B v1)) rfl (l := [.sv (.one (.int .i64 xP.Seq)), .sv (.one (.int .i64 1)), .sv (.one (.int .i64 1000000000))]) rfl (fun v hv => i_in_t xP.Seq 1 1000000000 v hv) (.inl rfl) ?_
   intro v1 gv1 h
   refine LWp.o 6 (B (!v1)) ?_
   refine LWp.o 7 (B (!v1)) ?_
   refine LWp.sp h 7 (fun h => ?_) (fun h => ?_)
   · refine LWp.sh 8 ?_
     refine LWp.sh 9 ?_
     refine LWp.sh 10 ?_
     refine LWp.sh 11 ?_
     refine LWp.o 12 (B true) ?_
     refine LWp.o 13 (B true) ?_
     refine LWp.sh 14 ?_
     refine LWp.sh 15 ?_
     refine LWp.sh 16 ?_
     refine LWp.sh 17 ?_
     refine LWp.o 18 (B true) ?_
     refine LWp.o 19 (B true) ?_
     refine LWp.sh 20 ?_
     refine LWp.sh 21 ?_
     refine LWp.sh 22 ?_
     refine LWp.sh 23 ?_
     refine LWp.sh 24 ?_
     refine LWp.sh 25 ?_
     refine LWp.sh 26 ?_
     refine LWp.o 27 (B true) ?_
     refine LWp.o 28 (B true) ?_
     refine LWp.sh 29 ?_
     refine LWp.sh 30 ?_
     refine LWp.sh 31 ?_
     refine LWp.sh 32 ?_
     refine LWp.o 33 (B true) ?_
     refine LWp.nil ?_
     cases h
     exact ⟨_, rfl, rfl, rfl⟩
   refine LWp.o 8 (.one (.ptr (.box 1) 1 [] 2)) ?_
   refine LWp.o 9 (I xP.Tx) ?_
   refine LWp.cl h 10 (fun v2 => (B v2)) rfl (l := [.sv (.one (.int .i64 xP.Tx)), .sv (.one (.int .i64 1)), .sv (.one (.int .i64 1000000000))]) rfl (fun v hv => i_in_t xP.Tx 1 1000000000 v hv) (.inl rfl) ?_
   intro v2 gv2 h
   refine LWp.o 11 (B (!v2)) ?_
   refine LWp.o 12 (B (!v2)) ?_
   refine LWp.o 13 (B (!v2)) ?_
   refine LWp.sp h 13 (fun h => ?_) (fun h => ?_)
   · refine LWp.sh 14 ?_
     refine LWp.sh 15 ?_
     refine LWp.sh 16 ?_
     refine LWp.sh 17 ?_
     refine LWp.o 18 (B true) ?_
     refine LWp.o 19 (B true) ?_
     refine LWp.sh 20 ?_
     refine LWp.sh 21 ?_
     refine LWp.sh 22 ?_
     refine LWp.sh 23 ?_
     refine LWp.sh 24 ?_
     refine LWp.sh 25 ?_
     refine LWp.sh 26 ?_
     refine LWp.o 27 (B true) ?_
     refine LWp.o 28 (B true) ?_
     refine LWp.sh 29 ?_
     refine LWp.sh 30 ?_
     refine LWp.sh 31 ?_
     refine LWp.sh 32 ?_
     refine LWp.o 33 (B true) ?_
     refine LWp.nil ?_
     cases h
     exact ⟨_, rfl, rfl, rfl⟩
   refine LWp.o 14 (.one (.ptr (.box 1) 1 [] 4)) ?_
   refine LWp.o 15 (I xP.Count) ?_
   refine LWp.cl h 16 (fun v3 => (B v3)) rfl (l := [.sv (.one (.int .i64 xP.Count)), .sv (.one (.int .i64 1)), .sv (.one (.int .i64 9))]) rfl (fun v hv => i_in_t xP.Count 1 9 v hv) (.inl rfl) ?_
   intro v3 gv3 h
   refine LWp.o 17 (B (!v3)) ?_
   refine LWp.o 18 (B (!v3)) ?_
   refine LWp.o 19 (B (!v3)) ?_
   refine LWp.sp h 19 (fun h => ?_) (fun h => ?_)
   · refine LWp.sh 20 ?_
     refine LWp.sh 21 ?_
     refine LWp.sh 22 ?_
     refine LWp.sh 23 ?_
     refine LWp.sh 24 ?_
     refine LWp.sh 25 ?_
     refine LWp.sh 26 ?_
     refine LWp.o 27 (B true) ?_
     refine LWp.o 28 (B true) ?_
     refine LWp.sh 29 ?_
     refine LWp.sh 30 ?_
     refine LWp.sh 31 ?_
     refine LWp.sh 32 ?_
     refine LWp.o 33 (B true) ?_
     refine LWp.nil ?_
     cases h
     exact ⟨_, rfl, rfl, rfl⟩
   refine LWp.o 20 (.one (.ptr (.box 1) 1 [] 3)) ?_
   refine LWp.o 21 (I xP.Part) ?_
   refine LWp.o 22 (.one (.ptr (.box 1) 1 [] 4)) ?_
   refine LWp.o 23 (I xP.Count) ?_
   refine LWp.o 24 (I (sb xP.Count 1)) ?_
   refine LWp.cl h 25 (fun v4 => (B v4)) rfl (l := [.sv (.one (.int .i64 xP.Part)), .sv (.one (.int .i64 0)), .sv (.one (.int .i64 (sb xP.Count 1)))]) rfl (fun v hv => i_in_t xP.Part 0 (sb xP.Count 1) v hv) (.inl rfl) ?_
   intro v4 gv4 h
   refine LWp.o 26 (B (!v4)) ?_
   refine LWp.o 27 (B (!v4)) ?_
   refine LWp.o 28 (B (!v4)) ?_
   refine LWp.sp h 28 (fun h => ?_) (fun h => ?_)
   · refine LWp.sh 29 ?_
     refine LWp.sh 30 ?_
     refine LWp.sh 31 ?_
     refine LWp.sh 32 ?_
     refine LWp.o 33 (B true) ?_
     refine LWp.nil ?_
     cases h
     exact ⟨_, rfl, rfl, rfl⟩
   refine LWp.o 29 (.one (.ptr (.box 1) 1 [] 5)) ?_
   refine LWp.o 30 (Y xP.Text) ?_
   refine LWp.o 31 (I (sln xP.Text)) ?_
   refine LWp.o 32 (B (decide ((sln xP.Text) > 90))) ?_
   refine LWp.o 33 (B (decide ((sln xP.Text) > 90))) ?_
   refine LWp.nil ?_
   cases h
   exact ⟨_, rfl, rfl, rfl⟩
 intro j1 h E hE
 refine nt_wp hE ?_
 change Wp _ _ _ (i_PageOk_H1 xP j1) _
 refine Wp.c h (fun h => ?_) (fun h => ?_)
 · refine Wp.seq ?_
   refine Wp.region ?_
   refine LWp.o 2 (B false) ?_
   refine LWp.nil ?_
   cases h
   exact Wp.ret ⟨.inr rfl, _, _, rfl, rfl⟩
 refine Wp.skip ?_
 refine Wp.seq ?_
 refine Wp.region ?_
 refine LWp.o 34 (.one (.ptr (.box 1) 0 [] 0)) ?_
 refine LWp.o 35 (I xP.Kind) ?_
 refine LWp.o 36 (B (xP.Kind == 2)) ?_
 refine LWp.o 37 (B (xP.Kind == 2)) ?_
 refine LWp.sp h 37 (fun h => ?_) (fun h => ?_)
 · refine LWp.sh 38 ?_
   refine LWp.sh 39 ?_
   refine LWp.sh 40 ?_
   refine LWp.sh 41 ?_
   refine LWp.sh 42 ?_
   refine LWp.sh 43 ?_
   refine LWp.sh 44 ?_
   refine LWp.sh 45 ?_
   refine LWp.o 46 (B true) ?_
   refine LWp.o 2 (B true) ?_
   refine LWp.nil ?_
   cases h
   exact Wp.ret ⟨.inr rfl, _, _, rfl, rfl⟩
 refine LWp.o 38 (.one (.ptr (.box 1) 0 [] 0)) ?_
 refine LWp.o 39 (I xP.Kind) ?_
 refine LWp.o 40 (B (xP.Kind == 1)) ?_
 refine LWp.o 41 (B (xP.Kind == 1)) ?_
 refine LWp.sp h 41 (fun h => ?_) (fun h => ?_)
 · refine LWp.o 42 (.one (.ptr (.box 1) 0 [] 4)) ?_
   refine LWp.o 43 (I xP.Count) ?_
   refine LWp.o 44 (B (xP.Count == 1)) ?_
   refine LWp.o 45 (B (xP.Count == 1)) ?_
   refine LWp.o 46 (B (xP.Count == 1)) ?_
   refine LWp.o 2 (B (xP.Count == 1)) ?_
   refine LWp.nil ?_
   cases h
   exact Wp.ret ⟨.inr rfl, _, _, rfl, rfl⟩
 refine LWp.sh 42 ?_
 refine LWp.sh 43 ?_
 refine LWp.sh 44 ?_
 refine LWp.o 45 (B false) ?_
 refine LWp.o 46 (B false) ?_
 refine LWp.o 2 (B false) ?_
 refine LWp.nil ?_
 cases h
 exact Wp.ret ⟨.inr rfl, _, _, rfl, rfl⟩
def i_ReadPage_H1 (v1 : ByteArray × Bool) (z1 : Bool) : St := mkSt [(2, (.one (.ptr (.box 2) 0 [] 0))), (4, (Y v1.1)), (23, (B z1))] [(.box 2, [.int .i64 0, .int .i64 0, .int .i64 0, .int .i64 0, .int .i64 0, .str (bs [])])]
def i_ReadPage_H2 (v1 : ByteArray × Bool) (z2 : Int) (z3 : Int) (z4 : Int) (z5 : Int) (z6 : Int) (z7 : Int) : St := mkSt [(2, (.one (.ptr (.box 2) 0 [] 0))), (4, (Y v1.1)), (6, (.one (.ptr (.box 6) 0 [] 0))), (7, (I z2)), (25, (I z3))] [(.box 2, [.int .i64 0, .int .i64 0, .int .i64 0, .int .i64 0, .int .i64 0, .str (bs [])]), (.box 6, [.int .i64 z4, .int .i64 z5, .int .i64 z6, .int .i64 z7])]
def i_ReadPage_H3 (v1 : ByteArray × Bool) (z8 : Int) (z9 : Int) (z10 : Int) (z11 : Int) (z12 : Int) : St := mkSt [(2, (.one (.ptr (.box 2) 0 [] 0))), (4, (Y v1.1)), (6, (.one (.ptr (.box 6) 0 [] 0))), (7, (I z8))] [(.box 2, [.int .i64 0, .int .i64 0, .int .i64 0, .int .i64 0, .int .i64 0, .str (bs [])]), (.box 6, [.int .i64 z9, .int .i64 z10, .int .i64 z11, .int .i64 z12])]
set_option maxRecDepth 100000 in
theorem i_ReadPage_t (xT : ByteArray) (r : Page × Bool) (h : i_ReadPage xT = some r) : Gives Try.prog 38 [.sv (Y xT)] (.tup [(.agg [.int .i64 r.1.Kind, .int .i64 r.1.Seq, .int .i64 r.1.Tx, .int .i64 r.1.Part, .int .i64 r.1.Count, .str r.1.Text]), (B r.2)]) (List.replicate 1 .gone) := by
 unfold i_ReadPage at h
 refine gives_of Try.func38 rfl ?_
 rw [Try.ntmps38]
 refine Wp.seq ?_
 refine Wp.region ?_
 refine LWp.b [] 2 [.int .i64 0, .int .i64 0, .int .i64 0, .int .i64 0, .int .i64 0, .str (bs [])] ?_
 refine LWp.o 3 (B false) ?_
 refine LWp.nil ?_
 refine Wp.seq ?_
 refine Wp.region ?_
 refine LWp.o 14 (Y xT) ?_
 refine LWp.cl h 15 (fun v1 => (.tup [(Y v1.1), (B v1.2)])) rfl (l := [.sv (.one (.str xT))]) rfl (fun v hv => i_Unsealed_t xT v hv) (.inl rfl) ?_
 intro v1 gv1 h
 refine LWp.mt 15 13 (.tup [(Y v1.1), (B v1.2)]) ?_
 refine LWp.e 13 0 16 (Y v1.1) ?_
 refine LWp.e 13 1 17 (B v1.2) ?_
 refine LWp.o 4 (Y v1.1) ?_
 refine LWp.o 5 (B v1.2) ?_
 refine LWp.nil ?_
 refine Wp.seq ?_
 refine Wp.seq ?_
 refine Wp.j1 h [2, 4, 23] [.box 2] (fun a => (i_ReadPage_H1 v1 a)) ?_ ?_
 · intro a h
   refine Wp.region ?_
   refine LWp.o 18 (B v1.2) ?_
   refine LWp.o 19 (B (!v1.2)) ?_
   refine LWp.o 20 (B (!v1.2)) ?_
   refine LWp.sp h 20 (fun h => ?_) (fun h => ?_)
   · refine LWp.sh 21 ?_
     refine LWp.sh 22 ?_
     refine LWp.o 23 (B true) ?_
     refine LWp.nil ?_
     cases h
     exact ⟨_, rfl, rfl, rfl⟩
   refine LWp.o 21 (Y v1.1) ?_
   refine LWp.o 22 (B (seq v1.1 (bs []))) ?_
   refine LWp.o 23 (B (seq v1.1 (bs []))) ?_
   refine LWp.nil ?_
   cases h
   exact ⟨_, rfl, rfl, rfl⟩
 intro j1 h E hE
 refine nt_wp hE ?_
 change Wp _ _ _ (i_ReadPage_H1 v1 j1) _
 refine Wp.c h (fun h => ?_) (fun h => ?_)
 · refine Wp.seq ?_
   refine Wp.region ?_
   refine LWp.o 24 (.agg [.int .i64 0, .int .i64 0, .int .i64 0, .int .i64 0, .int .i64 0, .str (bs [])]) ?_
   refine LWp.s [] (.box 2) [.int .i64 0, .int .i64 0, .int .i64 0, .int .i64 0, .int .i64 0, .str (bs [])] ?_
   refine LWp.o 3 (B false) ?_
   refine LWp.nil ?_
   cases h
   exact Wp.ret ⟨.inr rfl, _, _, rfl, rfl⟩
 refine Wp.skip ?_
 refine Wp.seq ?_
 refine Wp.region ?_
 refine LWp.b [] 6 [.int .i64 0, .int .i64 0, .int .i64 0, .int .i64 0] ?_
 refine LWp.nil ?_
 refine Wp.seq ?_
 refine Wp.region ?_
 refine LWp.o 7 (I 1) ?_
 refine LWp.nil ?_
 refine Wp.seq ?_
 refine Wp.seq ?_
 refine Wp.region ?_
 refine LWp.o 25 (I 0) ?_
 refine LWp.nil ?_
 refine Wp.l2 h [2, 4, 6, 7, 25] [.box 2, .box 6] (fun s => (i_ReadPage_H2 v1 s.1 s.2.1 s.2.2.1 s.2.2.2.1 s.2.2.2.2.1 s.2.2.2.2.2)) [2, 4, 6, 7] [.box 2, .box 6] (fun s => (i_ReadPage_H3 v1 s.1 s.2.1 s.2.2.1 s.2.2.2.1 s.2.2.2.2)) ⟨rfl, rfl⟩ ?_ ?_
 · rintro ⟨yAt1, y1, yL01, yL11, yL21, yL31⟩ o (h : i_ReadPage_b1 v1 yAt1 y1 yL01 yL11 yL21 yL31 = some o) hk1
   unfold i_ReadPage_b1 at h
   change Wp _ _ _ (i_ReadPage_H2 v1 yAt1 y1 yL01 yL11 yL21 yL31) _
   refine Wp.seq ?_
   refine Wp.region ?_
   refine LWp.o 26 (B (decide (y1 < 4))) ?_
   refine LWp.nil ?_
   refine Wp.seq ?_
   refine Wp.c h (fun h => ?_) (fun h => ?_)
   · refine Wp.skip ?_
     refine Wp.seq ?_
     refine Wp.block ?_
     refine Wp.seq ?_
     refine Wp.region ?_
     refine LWp.o 27 (I y1) ?_
     refine LWp.o 8 (I y1) ?_
     refine LWp.nil ?_
     refine Wp.seq ?_
     refine Wp.region ?_
     refine LWp.o 29 (Y v1.1) ?_
     refine LWp.o 30 (I yAt1) ?_
     refine LWp.cl h 31 (fun v2 => (.tup [(I v2.1), (I v2.2.1), (B v2.2.2)])) rfl (l := [.sv (.one (.str v1.1)), .sv (.one (.int .i64 yAt1))]) rfl (fun v hv => i_ReadVar_t v1.1 yAt1 v hv) (.inl rfl) ?_
     intro v2 gv2 h
     refine LWp.mt 31 28 (.tup [(I v2.1), (I v2.2.1), (B v2.2.2)]) ?_
     refine LWp.e 28 0 32 (I v2.1) ?_
     refine LWp.e 28 1 33 (I v2.2.1) ?_
     refine LWp.e 28 2 34 (B v2.2.2) ?_
     refine LWp.o 9 (I v2.1) ?_
     refine LWp.o 10 (I v2.2.1) ?_
     refine LWp.o 11 (B v2.2.2) ?_
     refine LWp.nil ?_
     refine Wp.seq ?_
     refine Wp.seq ?_
     refine Wp.region ?_
     refine LWp.o 35 (B v2.2.2) ?_
     refine LWp.o 36 (B (!v2.2.2)) ?_
     refine LWp.nil ?_
     refine Wp.c h (fun h => ?_) (fun h => ?_)
     · refine Wp.seq ?_
       refine Wp.region ?_
       refine LWp.o 37 (.agg [.int .i64 0, .int .i64 0, .int .i64 0, .int .i64 0, .int .i64 0, .str (bs [])]) ?_
       refine LWp.s [] (.box 2) [.int .i64 0, .int .i64 0, .int .i64 0, .int .i64 0, .int .i64 0, .str (bs [])] ?_
       refine LWp.o 3 (B false) ?_
       refine LWp.nil ?_
       cases h
       replace h : some _ = some _ := hk1 _ rfl
       cases h
       exact Wp.ret ⟨.inr rfl, _, _, rfl, rfl⟩
     refine Wp.skip ?_
     refine Wp.region ?_
     refine LWp.o 38 (I y1) ?_
     refine LWp.o 39 (I v2.1) ?_
     refine LWp.o 40 (I v2.2.1) ?_
     refine bsplit h (fun hb h => ?_) (fun h => ?_)
     · refine LWp.o 41 (.one (.ptr (.box 6) 0 [] 0)) ?_ (st_pure (p_xa (m := 0) (.box 6) [] 0 (eq_of_beq hb)))
       refine LWp.s [] (.box 6) [.int .i64 v2.1, .int .i64 yL11, .int .i64 yL21, .int .i64 yL31] ?_
       refine LWp.o 7 (I v2.2.1) ?_
       refine LWp.nil ?_
       refine Wp.region ?_
       refine LWp.o 42 (I (ad y1 1)) ?_
       refine LWp.o 25 (I (ad y1 1)) ?_
       refine LWp.nil ?_
       cases h
       exact ⟨_, rfl, rfl, rfl⟩
     refine bsplit h (fun hb h => ?_) (fun h => ?_)
     · refine LWp.o 41 (.one (.ptr (.box 6) 0 [] 1)) ?_ (st_pure (p_xa (m := 1) (.box 6) [] 0 (eq_of_beq hb)))
       refine LWp.s [] (.box 6) [.int .i64 yL01, .int .i64 v2.1, .int .i64 yL21, .int .i64 yL31] ?_
       refine LWp.o 7 (I v2.2.1) ?_
       refine LWp.nil ?_
       refine Wp.region ?_
       refine LWp.o 42 (I (ad y1 1)) ?_
       refine LWp.o 25 (I (ad y1 1)) ?_
       refine LWp.nil ?_
       cases h
       exact ⟨_, rfl, rfl, rfl⟩
     refine bsplit h (fun hb h => ?_) (fun h => ?_)
     · refine LWp.o 41 (.one (.ptr (.box 6) 0 [] 2)) ?_ (st_pure (p_xa (m := 2) (.box 6) [] 0 (eq_of_beq hb)))
       refine LWp.s [] (.box 6) [.int .i64 yL01, .int .i64 yL11, .int .i64 v2.1, .int .i64 yL31] ?_
       refine LWp.o 7 (I v2.2.1) ?_
       refine LWp.nil ?_
       refine Wp.region ?_
       refine LWp.o 42 (I (ad y1 1)) ?_
       refine LWp.o 25 (I (ad y1 1)) ?_
       refine LWp.nil ?_
       cases h
       exact ⟨_, rfl, rfl, rfl⟩
     refine bsplit h (fun hb h => ?_) (fun h => ?_)
     · refine LWp.o 41 (.one (.ptr (.box 6) 0 [] 3)) ?_ (st_pure (p_xa (m := 3) (.box 6) [] 0 (eq_of_beq hb)))
       refine LWp.s [] (.box 6) [.int .i64 yL01, .int .i64 yL11, .int .i64 yL21, .int .i64 v2.1] ?_
       refine LWp.o 7 (I v2.2.1) ?_
       refine LWp.nil ?_
       refine Wp.region ?_
       refine LWp.o 42 (I (ad y1 1)) ?_
       refine LWp.o 25 (I (ad y1 1)) ?_
       refine LWp.nil ?_
       cases h
       exact ⟨_, rfl, rfl, rfl⟩
     cases h
   refine Wp.exit ?_
   cases h
   exact ⟨_, rfl, rfl, rfl⟩
 intro v3 h E hE
 refine nt_wp hE ?_
 change Wp _ _ _ (i_ReadPage_H3 v1 v3.1 v3.2.1 v3.2.2.1 v3.2.2.2.1 v3.2.2.2.2) _
 refine Wp.seq ?_
 refine Wp.regionK 17 [16] mixed (fun c E h => by rcases h with ⟨h | h, _⟩ <;> cases h) ?_
 refine KWp.o 17 0 43 (Y v1.1) ?_
 refine KWp.p h 17 1 44 (fun x1 => (.one (.int .u8 x1))) ?_ rfl (fun x1 gx1 => sl_pure (p_sx gx1))
 intro x1 gx1 h
 refine KWp.o 17 2 45 (I (IntKind.i64.wrap x1)) ?_
 refine KWp.o 17 3 46 (.one (.ptr (.box 6) 0 [] 0)) ?_ rfl (sl_pure (p_xa (m := 0) (.box 6) [] 0 rfl))
 refine KWp.o 17 4 47 (I v3.2.1) ?_
 refine KWp.o 17 5 48 (.one (.ptr (.box 6) 0 [] 1)) ?_ rfl (sl_pure (p_xa (m := 1) (.box 6) [] 0 rfl))
 refine KWp.o 17 6 49 (I v3.2.2.1) ?_
 refine KWp.o 17 7 50 (.one (.ptr (.box 6) 0 [] 2)) ?_ rfl (sl_pure (p_xa (m := 2) (.box 6) [] 0 rfl))
 refine KWp.o 17 8 51 (I v3.2.2.2.1) ?_
 refine KWp.o 17 9 52 (.one (.ptr (.box 6) 0 [] 3)) ?_ rfl (sl_pure (p_xa (m := 3) (.box 6) [] 0 rfl))
 refine KWp.o 17 10 53 (I v3.2.2.2.2) ?_
 refine KWp.o 17 11 54 (Y v1.1) ?_
 refine KWp.o 17 12 55 (I v3.1) ?_
 refine KWp.p h 17 13 56 (fun x2 => (Y x2)) ?_ rfl (fun x2 gx2 => sl_pure (p_sub gx2))
 intro x2 gx2 h
 refine KWp.o 17 14 57 (.agg [.int .i64 (IntKind.i64.wrap x1), .int .i64 v3.2.1, .int .i64 v3.2.2.1, .int .i64 v3.2.2.2.1, .int .i64 v3.2.2.2.2, .str x2]) ?_
 refine KWp.w1 15 ?_
 refine KOp.b 15 [] 12 [.int .i64 0, .int .i64 0, .int .i64 0, .int .i64 0, .int .i64 0, .str (bs [])] ?_
 refine KWp.w1 16 ?_
 refine KOp.s 16 [] (.box 12) [.int .i64 (IntKind.i64.wrap x1), .int .i64 v3.2.1, .int .i64 v3.2.2.1, .int .i64 v3.2.2.2.1, .int .i64 v3.2.2.2.2, .str x2] ?_
 refine KWp.done ?_
 refine Wp.seq ?_
 refine Wp.seq ?_
 refine Wp.region ?_
 refine LWp.o 58 (.agg [.int .i64 (IntKind.i64.wrap x1), .int .i64 v3.2.1, .int .i64 v3.2.2.1, .int .i64 v3.2.2.2.1, .int .i64 v3.2.2.2.2, .str x2]) ?_
 refine LWp.cl h 59 (fun v4 => (B v4)) rfl (l := [.sv (.agg [.int .i64 (IntKind.i64.wrap x1), .int .i64 v3.2.1, .int .i64 v3.2.2.1, .int .i64 v3.2.2.2.1, .int .i64 v3.2.2.2.2, .str x2])]) rfl (fun v hv => i_PageOk_t (Page.mk (IntKind.i64.wrap x1) v3.2.1 v3.2.2.1 v3.2.2.2.1 v3.2.2.2.2 x2) v hv) (.inl rfl) ?_
 intro v4 gv4 h
 refine LWp.o 60 (B (!v4)) ?_
 refine LWp.nil ?_
 refine Wp.c h (fun h => ?_) (fun h => ?_)
 · refine Wp.seq ?_
   refine Wp.region ?_
   refine LWp.o 61 (.agg [.int .i64 0, .int .i64 0, .int .i64 0, .int .i64 0, .int .i64 0, .str (bs [])]) ?_
   refine LWp.s [] (.box 2) [.int .i64 0, .int .i64 0, .int .i64 0, .int .i64 0, .int .i64 0, .str (bs [])] ?_
   refine LWp.o 3 (B false) ?_
   refine LWp.nil ?_
   cases h
   exact Wp.ret ⟨.inr rfl, _, _, rfl, rfl⟩
 refine Wp.skip ?_
 refine Wp.seq ?_
 refine Wp.region ?_
 refine LWp.o 62 (.agg [.int .i64 (IntKind.i64.wrap x1), .int .i64 v3.2.1, .int .i64 v3.2.2.1, .int .i64 v3.2.2.2.1, .int .i64 v3.2.2.2.2, .str x2]) ?_
 refine LWp.s [] (.box 2) [.int .i64 (IntKind.i64.wrap x1), .int .i64 v3.2.1, .int .i64 v3.2.2.1, .int .i64 v3.2.2.2.1, .int .i64 v3.2.2.2.2, .str x2] ?_
 refine LWp.o 3 (B true) ?_
 refine LWp.nil ?_
 cases h
 exact Wp.ret ⟨.inr rfl, _, _, rfl, rfl⟩
theorem fl93 : ∀ x, (c93 x).all TV.flat = true := fun _ => rfl
set_option maxRecDepth 100000 in
theorem i_ScanAll_1_t (n b g cap : Nat) (T : TypeId) (hb : b ≠ g) : LessOk Try.prog (rowAmb n b g cap 93 T 8 c93) (ltk i_ScanAll_1) 47 #[.pointer (some ⟨b, 0, none⟩)] := by
 refine lessOk_of Try.func47 rfl rfl ?_
 rintro l i j x y hx hy ⟨w, hI⟩
 have hn : l.length = n := hI.len
 have hi := gi_lt hx
 have hj := gi_lt hy
 refine gives_rd Try.func47 rfl rfl ?_
 rw [Try.ntmps47]
 refine Wp.seq ?_
 refine Wp.region ?_
 refine LWp.o 5 (B false) ?_
 refine LWp.nil ?_
 refine Wp.seq ?_
 refine Wp.regionS mixed (by decide +kernel) ?_
 refine SWp.ld 6 (.hdr ⟨g, 0, none⟩ n cap) (.slice (some ⟨g, 0, none⟩) n cap) ?_ rfl rd_box (fun w => by simp [rep]) rfl rfl rfl
 refine SWp.o 7 (I i) ?_
 refine SWp.ix (n := n) 8 (m := i) ?_ rfl Try.underlying71 rfl hi.1 (by omega) (by decide)
 refine SWp.fa (f := 2) 9 ?_ rfl Try.underlying93 rfl (by decide)
 refine SWp.fa (f := 1) 10 ?_ rfl Try.underlying62 rfl (by decide)
 refine SWp.ld (x := 10) 11 (.int .i64 (i_ScanAll_1 x)) (.int .i64 (i_ScanAll_1 x)) ?_ rfl (rd_row (k := 3) (t := .int .i64 (i_ScanAll_1 x)) k93 hx rfl hb (by rw [addr0]; rfl)) (fun w => by simp [rep]) rfl rfl rfl
 refine SWp.ld 12 (.hdr ⟨g, 0, none⟩ n cap) (.slice (some ⟨g, 0, none⟩) n cap) ?_ rfl rd_box (fun w => by simp [rep]) rfl rfl rfl
 refine SWp.o 13 (I j) ?_
 refine SWp.ix (n := n) 14 (m := j) ?_ rfl Try.underlying71 rfl hj.1 (by omega) (by decide)
 refine SWp.fa (f := 2) 15 ?_ rfl Try.underlying93 rfl (by decide)
 refine SWp.fa (f := 1) 16 ?_ rfl Try.underlying62 rfl (by decide)
 refine SWp.ld (x := 16) 17 (.int .i64 (i_ScanAll_1 y)) (.int .i64 (i_ScanAll_1 y)) ?_ rfl (rd_row (k := 3) (t := .int .i64 (i_ScanAll_1 y)) k93 hy rfl hb (by rw [addr0]; rfl)) (fun w => by simp [rep]) rfl rfl rfl
 refine SWp.o 18 (B (decide ((i_ScanAll_1 x) < (i_ScanAll_1 y)))) ?_
 refine SWp.o 5 (B (decide ((i_ScanAll_1 x) < (i_ScanAll_1 y)))) ?_
 refine SWp.nil ?_
 exact Wp.ret ⟨.inr rfl, rfl, _, rfl⟩
set_option maxRecDepth 100000 in
theorem i_ScanAll_1_s {l r : List Found} (h : sort_stable_func (ltk i_ScanAll_1) l (ln l) = some r) : SortsAt Try.prog 46 71 93 8 c93 47 l r := by
 refine sort_SliceStable_at k93 h Try.t71 Try.t93 rfl rfl (by kernel_rfl) rfl 25 (fun w => rfl) rfl Try.isAgg93 (enters_of Try.func47 rfl rfl) ?_ (fun n b g cap T hb => i_ScanAll_1_t n b g cap T hb)
 intro n
 match n with
 | 0 => exact ⟨79, by kernel_rfl, fun h => absurd h (by decide)⟩
 | 1 => exact ⟨80, by kernel_rfl, fun h => absurd h (by decide)⟩
 | n + 2 =>
  have hk : Go.Lib.swapperK (n + 2) Try.t93 25 = 9 := rfl
  rw [hk]
  exact ⟨87, by kernel_rfl, fun _ => ⟨by decide, false, fun args W => run_callFunc_extern Try.func87 (by kernel_rfl) (by kernel_rfl) (by kernel_rfl) (e := Extern.ReflectliteSwapper.swap false) (by kernel_rfl) args W⟩⟩
def i_ScanAll_H1 (xF : Flash) (z1 : Int) (z2 : List Found) : St := mkSt [(3, (.one (.ptr (.box 3) 0 [] 0))), (11, (.one (.sl false 60 3 (encs (c60 false) xF.Blocks)))), (12, (I (ln xF.Blocks))), (13, (I z1))] [(.box 3, [.sl true 93 8 (encs c93 z2)])]
def i_ScanAll_H2 (z3 : List Found) : St := mkSt [(3, (.one (.ptr (.box 3) 0 [] 0)))] [(.box 3, [.sl true 93 8 (encs c93 z3)])]
def i_ScanAll_H3 (xF : Flash) (y1 : Int) (x1 : Block) (z4 : Int) (z5 : List Found) : St := mkSt [(3, (.one (.ptr (.box 3) 0 [] 0))), (4, (I y1)), (11, (.one (.sl false 60 3 (encs (c60 false) xF.Blocks)))), (12, (I (ln xF.Blocks))), (13, (I y1)), (19, (.one (.sl false 57 2 (encs c57 x1.Leaves)))), (20, (I (ln x1.Leaves))), (21, (I z4))] [(.box 3, [.sl true 93 8 (encs c93 z5)])]
def i_ScanAll_H4 (xF : Flash) (y1 : Int) (z6 : List Found) : St := mkSt [(3, (.one (.ptr (.box 3) 0 [] 0))), (11, (.one (.sl false 60 3 (encs (c60 false) xF.Blocks)))), (12, (I (ln xF.Blocks))), (13, (I y1))] [(.box 3, [.sl true 93 8 (encs c93 z6)])]
def i_ScanAll_H5 (xF : Flash) (y1 : Int) (x1 : Block) (y2 : Int) (yOut02 : List Found) (v1 : Page × Bool) (z7 : Bool) : St := mkSt [(3, (.one (.ptr (.box 3) 0 [] 0))), (4, (I y1)), (6, (I y2)), (8, (.one (.ptr (.box 8) 0 [] 0))), (11, (.one (.sl false 60 3 (encs (c60 false) xF.Blocks)))), (12, (I (ln xF.Blocks))), (13, (I y1)), (19, (.one (.sl false 57 2 (encs c57 x1.Leaves)))), (20, (I (ln x1.Leaves))), (21, (I y2)), (37, (B z7))] [(.box 3, [.sl true 93 8 (encs c93 yOut02)]), (.box 8, [.int .i64 v1.1.Kind, .int .i64 v1.1.Seq, .int .i64 v1.1.Tx, .int .i64 v1.1.Part, .int .i64 v1.1.Count, .str v1.1.Text])]
set_option maxRecDepth 100000 in
theorem i_ScanAll_t (xF : Flash) (r : List Found) (h : i_ScanAll xF = some r) : Gives Try.prog 29 [.sv (.agg [.sl false 60 3 (encs (c60 false) xF.Blocks)])] (.one (.sl true 93 8 (encs c93 r))) (List.replicate 1 .gone) := by
 unfold i_ScanAll at h
 refine gives_of Try.func29 rfl ?_
 rw [Try.ntmps29]
 refine Wp.seq ?_
 refine Wp.region ?_
 refine LWp.b [] 1 [.sl false 60 3 (encs (c60 false) xF.Blocks)] ?_
 refine LWp.o 2 (.one (.sl true 93 8 (encs c93 []))) ?_
 refine LWp.nil ?_
 refine Wp.seq ?_
 refine Wp.region ?_
 refine LWp.b [] 3 [.sl true 93 8 (encs c93 [])] ?_
 refine LWp.nil ?_
 refine Wp.seq ?_
 refine Wp.seq ?_
 refine Wp.region ?_
 refine LWp.o 10 (.one (.ptr (.box 1) 1 [] 0)) ?_
 refine LWp.o 11 (.one (.sl false 60 3 (encs (c60 false) xF.Blocks))) ?_
 refine LWp.o 12 (I (ln xF.Blocks)) ?_ (st_pure (p_ln (k60 false) xF.Blocks))
 refine LWp.o 13 (I 0) ?_
 refine LWp.nil ?_
 refine Wp.l1 h [3, 11, 12, 13] [.box 3] (fun s => (i_ScanAll_H1 xF s.1 s.2)) [3] [.box 3] (fun s => (i_ScanAll_H2 s)) ⟨rfl, rfl⟩ ?_ ?_
 · rintro ⟨y1, yOut01⟩ o (h : i_ScanAll_b1 xF y1 yOut01 = some o)
   unfold i_ScanAll_b1 at h
   change Wp _ _ _ (i_ScanAll_H1 xF y1 yOut01) _
   refine Wp.seq ?_
   refine Wp.region ?_
   refine LWp.o 14 (B (decide (y1 < (ln xF.Blocks)))) ?_
   refine LWp.nil ?_
   refine Wp.seq ?_
   refine Wp.c h (fun h => ?_) (fun h => ?_)
   · refine Wp.skip ?_
     refine Wp.seq ?_
     refine Wp.block ?_
     refine Wp.seq ?_
     refine Wp.region ?_
     refine LWp.o 15 (I y1) ?_
     refine LWp.p h 16 (fun _ => (.one (.ptr (.slot 11) 0 [0] (Int.toNat y1 * 3 + 0)))) ?_ (fun x1 gx1 => st_pure (p_ix (k60 false) (.slot 11) [] 0 gx1))
     intro x1 gx1 h
     refine LWp.o 17 (.agg [.bool x1.Bad, .int .i64 x1.Wear, .sl false 57 2 (encs c57 x1.Leaves)]) ?_ (st_pure (p_le (k60 false) (.slot 11) [0] gx1))
     refine LWp.b [] 5 [.bool false, .int .i64 0, .sl true 57 2 (encs c57 [])] ?_
     refine LWp.o 4 (I y1) ?_
     refine LWp.sb [] (.box 5) [.bool x1.Bad, .int .i64 x1.Wear, .sl false 57 2 (encs c57 x1.Leaves)] ?_
     refine LWp.nil ?_
     refine Wp.seq ?_
     refine Wp.region ?_
     refine LWp.o 18 (.one (.ptr (.box 5) 1 [] 2)) ?_
     refine LWp.o 19 (.one (.sl false 57 2 (encs c57 x1.Leaves))) ?_
     refine LWp.o 20 (I (ln x1.Leaves)) ?_ (st_pure (p_ln k57 x1.Leaves))
     refine LWp.o 21 (I 0) ?_
     refine LWp.nil ?_
     refine Wp.l1 h [3, 4, 11, 12, 13, 19, 20, 21] [.box 3] (fun s => (i_ScanAll_H3 xF y1 x1 s.1 s.2)) [3, 11, 12, 13] [.box 3] (fun s => (i_ScanAll_H4 xF y1 s)) ⟨rfl, rfl⟩ ?_ ?_
     · rintro ⟨y2, yOut02⟩ o (h : i_ScanAll_b2 y1 x1 y2 yOut02 = some o)
       unfold i_ScanAll_b2 at h
       change Wp _ _ _ (i_ScanAll_H3 xF y1 x1 y2 yOut02) _
       refine Wp.seq ?_
       refine Wp.region ?_
       refine LWp.o 22 (B (decide (y2 < (ln x1.Leaves)))) ?_
       refine LWp.nil ?_
       refine Wp.seq ?_
       refine Wp.c h (fun h => ?_) (fun h => ?_)
       · refine Wp.skip ?_
         refine Wp.seq ?_
         refine Wp.block ?_
         refine Wp.seq ?_
         refine Wp.region ?_
         refine LWp.o 23 (I y2) ?_
         refine LWp.p h 24 (fun _ => (.one (.ptr (.slot 19) 0 [0] (Int.toNat y2 * 2 + 0)))) ?_ (fun x2 gx2 => st_pure (p_ix k57 (.slot 19) [] 0 gx2))
         intro x2 gx2 h
         refine LWp.o 25 (.agg [.int .i64 x2.Is, .str x2.Text]) ?_ (st_pure (p_le k57 (.slot 19) [0] gx2))
         refine LWp.b [] 7 [.int .i64 0, .str (bs [])] ?_
         refine LWp.o 6 (I y2) ?_
         refine LWp.s [] (.box 7) [.int .i64 x2.Is, .str x2.Text] ?_
         refine LWp.nil ?_
         refine Wp.seq ?_
         refine Wp.region ?_
         refine LWp.o 27 (.one (.ptr (.box 7) 1 [] 1)) ?_
         refine LWp.o 28 (Y x2.Text) ?_
         refine LWp.cl h 29 (fun v1 => (.tup [(.agg [.int .i64 v1.1.Kind, .int .i64 v1.1.Seq, .int .i64 v1.1.Tx, .int .i64 v1.1.Part, .int .i64 v1.1.Count, .str v1.1.Text]), (B v1.2)])) rfl (l := [.sv (.one (.str x2.Text))]) rfl (fun v hv => i_ReadPage_t x2.Text v hv) (.inl rfl) ?_
         intro v1 gv1 h
         refine LWp.mt 29 26 (.tup [(.agg [.int .i64 v1.1.Kind, .int .i64 v1.1.Seq, .int .i64 v1.1.Tx, .int .i64 v1.1.Part, .int .i64 v1.1.Count, .str v1.1.Text]), (B v1.2)]) ?_
         refine LWp.e 26 0 30 (.agg [.int .i64 v1.1.Kind, .int .i64 v1.1.Seq, .int .i64 v1.1.Tx, .int .i64 v1.1.Part, .int .i64 v1.1.Count, .str v1.1.Text]) ?_
         refine LWp.e 26 1 31 (B v1.2) ?_
         refine LWp.b [] 8 [.int .i64 0, .int .i64 0, .int .i64 0, .int .i64 0, .int .i64 0, .str (bs [])] ?_
         refine LWp.s [] (.box 8) [.int .i64 v1.1.Kind, .int .i64 v1.1.Seq, .int .i64 v1.1.Tx, .int .i64 v1.1.Part, .int .i64 v1.1.Count, .str v1.1.Text] ?_
         refine LWp.o 9 (B v1.2) ?_
         refine LWp.nil ?_
         refine Wp.seq ?_
         refine Wp.j1 h [3, 4, 6, 8, 11, 12, 13, 19, 20, 21, 37] [.box 3, .box 8] (fun a => (i_ScanAll_H5 xF y1 x1 y2 yOut02 v1 a)) ?_ ?_
         · intro a h
           refine Wp.region ?_
           refine LWp.o 32 (B v1.2) ?_
           refine LWp.o 33 (B v1.2) ?_
           refine LWp.sp h 33 (fun h => ?_) (fun h => ?_)
           · refine LWp.o 34 (.one (.ptr (.box 7) 1 [] 0)) ?_
             refine LWp.o 35 (I x2.Is) ?_
             refine LWp.o 36 (B (x2.Is == 1)) ?_
             refine LWp.o 37 (B (x2.Is == 1)) ?_
             refine LWp.nil ?_
             cases h
             exact ⟨_, rfl, rfl, rfl⟩
           refine LWp.sh 34 ?_
           refine LWp.sh 35 ?_
           refine LWp.sh 36 ?_
           refine LWp.o 37 (B false) ?_
           refine LWp.nil ?_
           cases h
           exact ⟨_, rfl, rfl, rfl⟩
         intro j1 h E hE
         refine nt_wp hE ?_
         change Wp _ _ _ (i_ScanAll_H5 xF y1 x1 y2 yOut02 v1 j1) _
         refine Wp.c h (fun h => ?_) (fun h => ?_)
         · refine Wp.region ?_
           refine LWp.o 38 (.one (.view (.box 3) 0 [] 0)) ?_
           refine LWp.o 39 (I y1) ?_
           refine LWp.o 40 (I y2) ?_
           refine LWp.o 41 (.agg [.int .i64 v1.1.Kind, .int .i64 v1.1.Seq, .int .i64 v1.1.Tx, .int .i64 v1.1.Part, .int .i64 v1.1.Count, .str v1.1.Text]) ?_
           refine LWp.o 42 (.agg [.int .i64 y1, .int .i64 y2, .int .i64 v1.1.Kind, .int .i64 v1.1.Seq, .int .i64 v1.1.Tx, .int .i64 v1.1.Part, .int .i64 v1.1.Count, .str v1.1.Text]) ?_
           refine LWp.m false [] 43 (.one (.sl true 93 8 (encs c93 [(Found.mk y1 y2 v1.1)]))) ?_
           refine LWp.pm h [(.box 3, [.junk])] 44 (fun c1 => (.one (.sl true 93 8 (encs c93 c1)))) ?_ (fun c1 gc1 => s_apl k93 (fun _ => rfl) [(.box 3, [.junk])] yOut02 gc1)
           intro c1 gc1 h
           refine LWp.s [(.slot 44, [.junk])] (.box 3) [.sl true 93 8 (encs c93 c1)] ?_
           refine LWp.nil ?_
           refine Wp.region ?_
           refine LWp.o 45 (I (ad y2 1)) ?_
           refine LWp.o 21 (I (ad y2 1)) ?_
           refine LWp.nil ?_
           cases h
           exact ⟨_, rfl, rfl, rfl⟩
         refine Wp.skip ?_
         refine Wp.region ?_
         refine LWp.o 45 (I (ad y2 1)) ?_
         refine LWp.o 21 (I (ad y2 1)) ?_
         refine LWp.nil ?_
         cases h
         exact ⟨_, rfl, rfl, rfl⟩
       refine Wp.exit ?_
       cases h
       exact ⟨_, rfl, rfl, rfl⟩
     intro v2 h E hE
     refine nt_wp hE ?_
     change Wp _ _ _ (i_ScanAll_H4 xF y1 v2) _
     refine Wp.region ?_
     refine LWp.o 46 (I (ad y1 1)) ?_
     refine LWp.o 13 (I (ad y1 1)) ?_
     refine LWp.nil ?_
     cases h
     exact ⟨_, rfl, rfl, rfl⟩
   refine Wp.exit ?_
   cases h
   exact ⟨_, rfl, rfl, rfl⟩
 intro v3 h E hE
 refine nt_wp hE ?_
 change Wp _ _ _ (i_ScanAll_H2 v3) _
 refine Wp.seq ?_
 refine Wp.region ?_
 refine LWp.o 47 (.one (.view (.box 3) 0 [] 0)) ?_
 refine LWp.bd h ?_
 intro v4 gv4 h
 refine LWp.srt (x := 47) (p := 3) (d1 := 48) (d2 := 49) (d3 := 50) (r := .box 3) (i_ScanAll_1_s gv4) ?_ k93 fl93 (hf := ⟨_, Try.func46, by decide, rfl⟩)
 refine LWp.nil ?_
 refine Wp.seq ?_
 refine Wp.region ?_
 refine LWp.o 51 (.one (.view (.box 3) 1 [] 0)) ?_
 refine LWp.m true [(.box 3, [.junk])] 2 (.one (.sl true 93 8 (encs c93 v4))) ?_
 refine LWp.nil ?_
 cases h
 exact Wp.ret ⟨.inr rfl, _, _, rfl, rfl⟩
def i_Bounds_H1 (xD : Device) (z1 : Int) (z2 : Int) : St := mkSt [(1, (.one (.ptr (.box 1) 0 [] 0))), (3, (I z1)), (8, (.one (.sl false 60 3 (encs (c60 false) xD.Flash.Blocks)))), (9, (I (ln xD.Flash.Blocks))), (10, (I z2))] [(.box 1, [.sl false 60 3 (encs (c60 false) xD.Flash.Blocks), .sl false 114 2 (encs c114 xD.Store.Vols), .sl false 142 2 (encs (c142 false) xD.Store.Arena.Knots), .int .i64 xD.Store.Next, .int .i64 xD.Seq, .int .i64 xD.Tx, .int .i64 xD.Base])]
def i_Bounds_H2 (xD : Device) (z3 : Int) : St := mkSt [(1, (.one (.ptr (.box 1) 0 [] 0))), (3, (I z3))] [(.box 1, [.sl false 60 3 (encs (c60 false) xD.Flash.Blocks), .sl false 114 2 (encs c114 xD.Store.Vols), .sl false 142 2 (encs (c142 false) xD.Store.Arena.Knots), .int .i64 xD.Store.Next, .int .i64 xD.Seq, .int .i64 xD.Tx, .int .i64 xD.Base])]
set_option maxRecDepth 100000 in
theorem i_Bounds_t (xD : Device) (r : Bool) (h : i_Bounds xD = some r) : Gives Try.prog 13 [.sv (.agg [.sl false 60 3 (encs (c60 false) xD.Flash.Blocks), .sl false 114 2 (encs c114 xD.Store.Vols), .sl false 142 2 (encs (c142 false) xD.Store.Arena.Knots), .int .i64 xD.Store.Next, .int .i64 xD.Seq, .int .i64 xD.Tx, .int .i64 xD.Base])] (B r) (List.replicate 1 .gone) := by
 unfold i_Bounds at h
 refine gives_of Try.func13 rfl ?_
 rw [Try.ntmps13]
 refine Wp.seq ?_
 refine Wp.region ?_
 refine LWp.b [] 1 [.sl false 60 3 (encs (c60 false) xD.Flash.Blocks), .sl false 114 2 (encs c114 xD.Store.Vols), .sl false 142 2 (encs (c142 false) xD.Store.Arena.Knots), .int .i64 xD.Store.Next, .int .i64 xD.Seq, .int .i64 xD.Tx, .int .i64 xD.Base] ?_
 refine LWp.o 2 (B false) ?_
 refine LWp.nil ?_
 refine Wp.seq ?_
 refine Wp.region ?_
 refine LWp.o 3 (I 0) ?_
 refine LWp.nil ?_
 refine Wp.seq ?_
 refine Wp.seq ?_
 refine Wp.region ?_
 refine LWp.o 6 (.one (.ptr (.box 1) 1 [] 0)) ?_
 refine LWp.o 7 (.one (.ptr (.box 1) 1 [] 0)) ?_
 refine LWp.o 8 (.one (.sl false 60 3 (encs (c60 false) xD.Flash.Blocks))) ?_
 refine LWp.o 9 (I (ln xD.Flash.Blocks)) ?_ (st_pure (p_ln (k60 false) xD.Flash.Blocks))
 refine LWp.o 10 (I 0) ?_
 refine LWp.nil ?_
 refine Wp.l2 h [1, 3, 8, 9, 10] [.box 1] (fun s => (i_Bounds_H1 xD s.1 s.2)) [1, 3] [.box 1] (fun s => (i_Bounds_H2 xD s)) ⟨rfl, rfl⟩ ?_ ?_
 · rintro ⟨yLeaves1, y1⟩ o (h : i_Bounds_b1 xD yLeaves1 y1 = some o) hk1
   unfold i_Bounds_b1 at h
   change Wp _ _ _ (i_Bounds_H1 xD yLeaves1 y1) _
   refine Wp.seq ?_
   refine Wp.region ?_
   refine LWp.o 11 (B (decide (y1 < (ln xD.Flash.Blocks)))) ?_
   refine LWp.nil ?_
   refine Wp.seq ?_
   refine Wp.c h (fun h => ?_) (fun h => ?_)
   · refine Wp.skip ?_
     refine Wp.seq ?_
     refine Wp.block ?_
     refine Wp.seq ?_
     refine Wp.region ?_
     refine LWp.p h 12 (fun _ => (.one (.ptr (.slot 8) 0 [0] (Int.toNat y1 * 3 + 0)))) ?_ (fun x1 gx1 => st_pure (p_ix (k60 false) (.slot 8) [] 0 gx1))
     intro x1 gx1 h
     refine LWp.o 13 (.agg [.bool x1.Bad, .int .i64 x1.Wear, .sl false 57 2 (encs c57 x1.Leaves)]) ?_ (st_pure (p_le (k60 false) (.slot 8) [0] gx1))
     refine LWp.b [] 5 [.bool false, .int .i64 0, .sl true 57 2 (encs c57 [])] ?_
     refine LWp.sb [] (.box 5) [.bool x1.Bad, .int .i64 x1.Wear, .sl false 57 2 (encs c57 x1.Leaves)] ?_
     refine LWp.nil ?_
     refine Wp.seq ?_
     refine Wp.seq ?_
     refine Wp.region ?_
     refine LWp.o 14 (.one (.ptr (.box 5) 1 [] 1)) ?_
     refine LWp.o 15 (I x1.Wear) ?_
     refine LWp.cl h 16 (fun v1 => (B v1)) rfl (l := [.sv (.one (.int .i64 x1.Wear)), .sv (.one (.int .i64 0)), .sv (.one (.int .i64 1000000000))]) rfl (fun v hv => i_in_t x1.Wear 0 1000000000 v hv) (.inl rfl) ?_
     intro v1 gv1 h
     refine LWp.o 17 (B (!v1)) ?_
     refine LWp.nil ?_
     refine Wp.c h (fun h => ?_) (fun h => ?_)
     · refine Wp.seq ?_
       refine Wp.region ?_
       refine LWp.o 2 (B false) ?_
       refine LWp.nil ?_
       cases h
       replace h : some _ = some _ := hk1 _ rfl
       cases h
       exact Wp.ret ⟨.inr rfl, _, _, rfl, rfl⟩
     refine Wp.skip ?_
     refine Wp.region ?_
     refine LWp.o 18 (I yLeaves1) ?_
     refine LWp.o 19 (.one (.ptr (.box 5) 1 [] 2)) ?_
     refine LWp.o 20 (.one (.sl false 57 2 (encs c57 x1.Leaves))) ?_
     refine LWp.o 21 (I (ln x1.Leaves)) ?_ (st_pure (p_ln k57 x1.Leaves))
     refine LWp.o 22 (I (ad yLeaves1 (ln x1.Leaves))) ?_
     refine LWp.o 3 (I (ad yLeaves1 (ln x1.Leaves))) ?_
     refine LWp.nil ?_
     refine Wp.region ?_
     refine LWp.o 23 (I (ad y1 1)) ?_
     refine LWp.o 10 (I (ad y1 1)) ?_
     refine LWp.nil ?_
     cases h
     exact ⟨_, rfl, rfl, rfl⟩
   refine Wp.exit ?_
   cases h
   exact ⟨_, rfl, rfl, rfl⟩
 intro v2 h E hE
 refine nt_wp hE ?_
 change Wp _ _ _ (i_Bounds_H2 xD v2) _
 refine Wp.seq ?_
 refine Wp.region ?_
 refine LWp.o 24 (.one (.ptr (.box 1) 0 [] 0)) ?_
 refine LWp.o 25 (.agg [.sl false 60 3 (encs (c60 false) xD.Flash.Blocks)]) ?_
 refine LWp.cl h 26 (fun v3 => (I v3)) rfl (l := [.sv (.agg [.sl false 60 3 (encs (c60 false) xD.Flash.Blocks)])]) rfl (fun v hv => i_RoomOf_t xD.Flash v hv) (.inl rfl) ?_
 intro v3 gv3 h
 refine LWp.o 27 (B (decide (v3 ≥ 0))) ?_
 refine LWp.o 28 (B (decide (v3 ≥ 0))) ?_
 refine LWp.sp h 28 (fun h => ?_) (fun h => ?_)
 · refine LWp.o 29 (.one (.ptr (.box 1) 0 [] 0)) ?_
   refine LWp.o 30 (.agg [.sl false 60 3 (encs (c60 false) xD.Flash.Blocks)]) ?_
   refine LWp.cl h 31 (fun v4 => (.one (.sl true 93 8 (encs c93 v4)))) rfl (l := [.sv (.agg [.sl false 60 3 (encs (c60 false) xD.Flash.Blocks)])]) rfl (fun v hv => i_ScanAll_t xD.Flash v hv) (.inl rfl) ?_
   intro v4 gv4 h
   refine LWp.o 32 (I (ln v4)) ?_ (st_pure (p_ln k93 v4))
   refine LWp.o 33 (I v2) ?_
   refine LWp.o 34 (B (decide ((ln v4) ≤ v2))) ?_
   refine LWp.o 35 (B (decide ((ln v4) ≤ v2))) ?_
   refine LWp.o 2 (B (decide ((ln v4) ≤ v2))) ?_
   refine LWp.nil ?_
   cases h
   exact Wp.ret ⟨.inr rfl, _, _, rfl, rfl⟩
 refine LWp.sh 29 ?_
 refine LWp.sh 30 ?_
 refine LWp.sh 31 ?_
 refine LWp.sh 32 ?_
 refine LWp.sh 33 ?_
 refine LWp.sh 34 ?_
 refine LWp.o 35 (B false) ?_
 refine LWp.o 2 (B false) ?_
 refine LWp.nil ?_
 cases h
 exact Wp.ret ⟨.inr rfl, _, _, rfl, rfl⟩
set_option maxRecDepth 100000 in
theorem w_eqLeaf_t (xA : Leaf) (xB : Leaf) (r : Bool) (h : w_eqLeaf xA xB = some r) : Gives Try.prog 76 [.sv (.agg [.int .i64 xA.Is, .str xA.Text]), .sv (.agg [.int .i64 xB.Is, .str xB.Text])] (B r) (List.replicate 2 .gone) := by
 unfold w_eqLeaf at h
 refine gives_of Try.func76 rfl ?_
 rw [Try.ntmps76]
 refine Wp.seq ?_
 refine Wp.region ?_
 refine LWp.b [] 2 [.int .i64 xA.Is, .str xA.Text] ?_
 refine LWp.b [] 3 [.int .i64 xB.Is, .str xB.Text] ?_
 refine LWp.o 4 (B false) ?_
 refine LWp.nil ?_
 refine Wp.seq ?_
 refine Wp.seq ?_
 refine Wp.region ?_
 refine LWp.o 5 (.one (.ptr (.box 2) 1 [] 0)) ?_
 refine LWp.o 6 (I xA.Is) ?_
 refine LWp.o 7 (.one (.ptr (.box 3) 1 [] 0)) ?_
 refine LWp.o 8 (I xB.Is) ?_
 refine LWp.o 9 (B (xA.Is != xB.Is)) ?_
 refine LWp.nil ?_
 refine Wp.c h (fun h => ?_) (fun h => ?_)
 · refine Wp.seq ?_
   refine Wp.region ?_
   refine LWp.o 4 (B false) ?_
   refine LWp.nil ?_
   cases h
   exact Wp.ret ⟨.inr rfl, _, _, rfl, rfl⟩
 refine Wp.skip ?_
 refine Wp.seq ?_
 refine Wp.seq ?_
 refine Wp.region ?_
 refine LWp.o 10 (.one (.ptr (.box 2) 1 [] 1)) ?_
 refine LWp.o 11 (Y xA.Text) ?_
 refine LWp.o 12 (.one (.ptr (.box 3) 1 [] 1)) ?_
 refine LWp.o 13 (Y xB.Text) ?_
 refine LWp.o 14 (B (!(seq xA.Text xB.Text))) ?_
 refine LWp.nil ?_
 refine Wp.c h (fun h => ?_) (fun h => ?_)
 · refine Wp.seq ?_
   refine Wp.region ?_
   refine LWp.o 4 (B false) ?_
   refine LWp.nil ?_
   cases h
   exact Wp.ret ⟨.inr rfl, _, _, rfl, rfl⟩
 refine Wp.skip ?_
 refine Wp.seq ?_
 refine Wp.region ?_
 refine LWp.o 4 (B true) ?_
 refine LWp.nil ?_
 cases h
 exact Wp.ret ⟨.inr rfl, _, _, rfl, rfl⟩
def w_eqLeafS_H1 (xA : List Leaf) (xB : List Leaf) (z1 : Int) : St := mkSt [(0, (.one (.sl false 57 2 (encs c57 xA)))), (1, (.one (.sl false 57 2 (encs c57 xB)))), (5, (I z1))] []
def w_eqLeafS_H2  : St := mkSt [] []
set_option maxRecDepth 100000 in
theorem w_eqLeafS_t (xA : List Leaf) (xB : List Leaf) (r : Bool) (h : w_eqLeafS xA xB = some r) : Gives Try.prog 62 [.sv (.one (.sl false 57 2 (encs c57 xA))), .sv (.one (.sl false 57 2 (encs c57 xB)))] (B r) (List.replicate 2 .gone) := by
 unfold w_eqLeafS at h
 refine gives_of Try.func62 rfl ?_
 rw [Try.ntmps62]
 refine Wp.seq ?_
 refine Wp.region ?_
 refine LWp.o 4 (B false) ?_
 refine LWp.nil ?_
 refine Wp.seq ?_
 refine Wp.seq ?_
 refine Wp.region ?_
 refine LWp.o 6 (.one (.sl false 57 2 (encs c57 xA))) ?_
 refine LWp.o 7 (I (ln xA)) ?_ (st_pure (p_ln k57 xA))
 refine LWp.o 8 (.one (.sl false 57 2 (encs c57 xB))) ?_
 refine LWp.o 9 (I (ln xB)) ?_ (st_pure (p_ln k57 xB))
 refine LWp.o 10 (B ((ln xA) != (ln xB))) ?_
 refine LWp.nil ?_
 refine Wp.c h (fun h => ?_) (fun h => ?_)
 · refine Wp.seq ?_
   refine Wp.region ?_
   refine LWp.o 4 (B false) ?_
   refine LWp.nil ?_
   cases h
   exact Wp.ret ⟨.inr rfl, _, _, rfl, rfl⟩
 refine Wp.skip ?_
 refine Wp.seq ?_
 refine Wp.seq ?_
 refine Wp.region ?_
 refine LWp.o 5 (I 0) ?_
 refine LWp.nil ?_
 refine Wp.l2 h [0, 1, 5] [] (fun s => (w_eqLeafS_H1 xA xB s)) [] [] (fun _ => w_eqLeafS_H2) ⟨rfl, rfl⟩ ?_ ?_
 · rintro yI1 o (h : w_eqLeafS_b1 xA xB yI1 = some o) hk1
   unfold w_eqLeafS_b1 at h
   change Wp _ _ _ (w_eqLeafS_H1 xA xB yI1) _
   refine Wp.seq ?_
   refine Wp.seq ?_
   refine Wp.region ?_
   refine LWp.o 11 (I yI1) ?_
   refine LWp.o 12 (.one (.sl false 57 2 (encs c57 xA))) ?_
   refine LWp.o 13 (I (ln xA)) ?_ (st_pure (p_ln k57 xA))
   refine LWp.o 14 (B (decide (yI1 < (ln xA)))) ?_
   refine LWp.nil ?_
   refine Wp.c h (fun h => ?_) (fun h => ?_)
   · refine Wp.skip ?_
     refine Wp.seq ?_
     refine Wp.block ?_
     refine Wp.seq ?_
     refine Wp.regionT 8 mixed (by decide +kernel) ?_
     refine SWp.o 17 (.one (.sl false 57 2 (encs c57 xA))) ?_
     refine SWp.o 18 (I yI1) ?_
     refine SWp.p h 19 (fun _ => (.one (.ptr (.slot 17) 1 [0] (Int.toNat yI1 * 2 + 0)))) ?_ (fun x1 gx1 => sl_pure (p_ix k57 (.slot 17) [] 0 gx1))
     intro x1 gx1 h
     refine SWp.o 20 (.agg [.int .i64 x1.Is, .str x1.Text]) ?_ (sl_pure (p_le k57 (.slot 17) [0] gx1))
     refine SWp.o 21 (.one (.sl false 57 2 (encs c57 xB))) ?_
     refine SWp.o 22 (I yI1) ?_
     refine SWp.p h 23 (fun _ => (.one (.ptr (.slot 21) 1 [0] (Int.toNat yI1 * 2 + 0)))) ?_ (fun x2 gx2 => sl_pure (p_ix k57 (.slot 21) [] 0 gx2))
     intro x2 gx2 h
     refine SWp.o 24 (.agg [.int .i64 x2.Is, .str x2.Text]) ?_ (sl_pure (p_le k57 (.slot 21) [0] gx2))
     refine SWp.nil ?_
     refine LWp.cl h 25 (fun v1 => (B v1)) rfl (l := [.sv (.agg [.int .i64 x1.Is, .str x1.Text]), .sv (.agg [.int .i64 x2.Is, .str x2.Text])]) rfl (fun v hv => w_eqLeaf_t x1 x2 v hv) (.inl rfl) ?_
     intro v1 gv1 h
     refine LWp.o 26 (B (!v1)) ?_
     refine LWp.nil ?_
     refine Wp.c h (fun h => ?_) (fun h => ?_)
     · refine Wp.seq ?_
       refine Wp.region ?_
       refine LWp.o 4 (B false) ?_
       refine LWp.nil ?_
       cases h
       replace h : some _ = some _ := hk1 _ rfl
       cases h
       exact Wp.ret ⟨.inr rfl, _, _, rfl, rfl⟩
     refine Wp.skip ?_
     refine Wp.region ?_
     refine LWp.o 15 (I yI1) ?_
     refine LWp.o 16 (I (ad yI1 1)) ?_
     refine LWp.o 5 (I (ad yI1 1)) ?_
     refine LWp.nil ?_
     cases h
     exact ⟨_, rfl, rfl, rfl⟩
   refine Wp.exit ?_
   cases h
   exact ⟨_, rfl, rfl, rfl⟩
 intro v2 h E hE
 refine nt_wp hE ?_
 change Wp _ _ _ w_eqLeafS_H2 _
 refine Wp.seq ?_
 refine Wp.region ?_
 refine LWp.o 4 (B true) ?_
 refine LWp.nil ?_
 cases h
 exact Wp.ret ⟨.inr rfl, _, _, rfl, rfl⟩
set_option maxRecDepth 100000 in
theorem w_eqBlock_t (xA : Block) (xB : Block) (r : Bool) (h : w_eqBlock xA xB = some r) : Gives Try.prog 39 [.sv (.agg [.bool xA.Bad, .int .i64 xA.Wear, .sl false 57 2 (encs c57 xA.Leaves)]), .sv (.agg [.bool xB.Bad, .int .i64 xB.Wear, .sl false 57 2 (encs c57 xB.Leaves)])] (B r) (List.replicate 2 .gone) := by
 unfold w_eqBlock at h
 refine gives_of Try.func39 rfl ?_
 rw [Try.ntmps39]
 refine Wp.seq ?_
 refine Wp.region ?_
 refine LWp.b [] 2 [.bool xA.Bad, .int .i64 xA.Wear, .sl false 57 2 (encs c57 xA.Leaves)] ?_
 refine LWp.b [] 3 [.bool xB.Bad, .int .i64 xB.Wear, .sl false 57 2 (encs c57 xB.Leaves)] ?_
 refine LWp.o 4 (B false) ?_
 refine LWp.nil ?_
 refine Wp.seq ?_
 refine Wp.seq ?_
 refine Wp.region ?_
 refine LWp.o 5 (.one (.ptr (.box 2) 1 [] 0)) ?_
 refine LWp.o 6 (B xA.Bad) ?_
 refine LWp.o 7 (.one (.ptr (.box 3) 1 [] 0)) ?_
 refine LWp.o 8 (B xB.Bad) ?_
 refine LWp.o 9 (B (!(xA.Bad == xB.Bad))) ?_
 refine LWp.nil ?_
 refine Wp.c h (fun h => ?_) (fun h => ?_)
 · refine Wp.seq ?_
   refine Wp.region ?_
   refine LWp.o 4 (B false) ?_
   refine LWp.nil ?_
   cases h
   exact Wp.ret ⟨.inr rfl, _, _, rfl, rfl⟩
 refine Wp.skip ?_
 refine Wp.seq ?_
 refine Wp.seq ?_
 refine Wp.region ?_
 refine LWp.o 10 (.one (.ptr (.box 2) 1 [] 1)) ?_
 refine LWp.o 11 (I xA.Wear) ?_
 refine LWp.o 12 (.one (.ptr (.box 3) 1 [] 1)) ?_
 refine LWp.o 13 (I xB.Wear) ?_
 refine LWp.o 14 (B (xA.Wear != xB.Wear)) ?_
 refine LWp.nil ?_
 refine Wp.c h (fun h => ?_) (fun h => ?_)
 · refine Wp.seq ?_
   refine Wp.region ?_
   refine LWp.o 4 (B false) ?_
   refine LWp.nil ?_
   cases h
   exact Wp.ret ⟨.inr rfl, _, _, rfl, rfl⟩
 refine Wp.skip ?_
 refine Wp.seq ?_
 refine Wp.seq ?_
 refine Wp.region ?_
 refine LWp.o 15 (.one (.ptr (.box 2) 1 [] 2)) ?_
 refine LWp.o 16 (.one (.sl false 57 2 (encs c57 xA.Leaves))) ?_
 refine LWp.o 17 (.one (.ptr (.box 3) 1 [] 2)) ?_
 refine LWp.o 18 (.one (.sl false 57 2 (encs c57 xB.Leaves))) ?_
 refine LWp.cl h 19 (fun v1 => (B v1)) rfl (l := [.sv (.one (.sl false 57 2 (encs c57 xA.Leaves))), .sv (.one (.sl false 57 2 (encs c57 xB.Leaves)))]) rfl (fun v hv => w_eqLeafS_t xA.Leaves xB.Leaves v hv) (.inl rfl) ?_
 intro v1 gv1 h
 refine LWp.o 20 (B (!v1)) ?_
 refine LWp.nil ?_
 refine Wp.c h (fun h => ?_) (fun h => ?_)
 · refine Wp.seq ?_
   refine Wp.region ?_
   refine LWp.o 4 (B false) ?_
   refine LWp.nil ?_
   cases h
   exact Wp.ret ⟨.inr rfl, _, _, rfl, rfl⟩
 refine Wp.skip ?_
 refine Wp.seq ?_
 refine Wp.region ?_
 refine LWp.o 4 (B true) ?_
 refine LWp.nil ?_
 cases h
 exact Wp.ret ⟨.inr rfl, _, _, rfl, rfl⟩
def w_eqBlockS_H1 (xA : List Block) (xB : List Block) (z1 : Int) : St := mkSt [(0, (.one (.sl false 60 3 (encs (c60 false) xA)))), (1, (.one (.sl false 60 3 (encs (c60 false) xB)))), (5, (I z1))] []
def w_eqBlockS_H2  : St := mkSt [] []
set_option maxRecDepth 100000 in
theorem w_eqBlockS_t (xA : List Block) (xB : List Block) (r : Bool) (h : w_eqBlockS xA xB = some r) : Gives Try.prog 21 [.sv (.one (.sl false 60 3 (encs (c60 false) xA))), .sv (.one (.sl false 60 3 (encs (c60 false) xB)))] (B r) (List.replicate 2 .gone) := by
 unfold w_eqBlockS at h
 refine gives_of Try.func21 rfl ?_
 rw [Try.ntmps21]
 refine Wp.seq ?_
 refine Wp.region ?_
 refine LWp.o 4 (B false) ?_
 refine LWp.nil ?_
 refine Wp.seq ?_
 refine Wp.seq ?_
 refine Wp.region ?_
 refine LWp.o 6 (.one (.sl false 60 3 (encs (c60 false) xA))) ?_
 refine LWp.o 7 (I (ln xA)) ?_ (st_pure (p_ln (k60 false) xA))
 refine LWp.o 8 (.one (.sl false 60 3 (encs (c60 false) xB))) ?_
 refine LWp.o 9 (I (ln xB)) ?_ (st_pure (p_ln (k60 false) xB))
 refine LWp.o 10 (B ((ln xA) != (ln xB))) ?_
 refine LWp.nil ?_
 refine Wp.c h (fun h => ?_) (fun h => ?_)
 · refine Wp.seq ?_
   refine Wp.region ?_
   refine LWp.o 4 (B false) ?_
   refine LWp.nil ?_
   cases h
   exact Wp.ret ⟨.inr rfl, _, _, rfl, rfl⟩
 refine Wp.skip ?_
 refine Wp.seq ?_
 refine Wp.seq ?_
 refine Wp.region ?_
 refine LWp.o 5 (I 0) ?_
 refine LWp.nil ?_
 refine Wp.l2 h [0, 1, 5] [] (fun s => (w_eqBlockS_H1 xA xB s)) [] [] (fun _ => w_eqBlockS_H2) ⟨rfl, rfl⟩ ?_ ?_
 · rintro yI1 o (h : w_eqBlockS_b1 xA xB yI1 = some o) hk1
   unfold w_eqBlockS_b1 at h
   change Wp _ _ _ (w_eqBlockS_H1 xA xB yI1) _
   refine Wp.seq ?_
   refine Wp.seq ?_
   refine Wp.region ?_
   refine LWp.o 11 (I yI1) ?_
   refine LWp.o 12 (.one (.sl false 60 3 (encs (c60 false) xA))) ?_
   refine LWp.o 13 (I (ln xA)) ?_ (st_pure (p_ln (k60 false) xA))
   refine LWp.o 14 (B (decide (yI1 < (ln xA)))) ?_
   refine LWp.nil ?_
   refine Wp.c h (fun h => ?_) (fun h => ?_)
   · refine Wp.skip ?_
     refine Wp.seq ?_
     refine Wp.block ?_
     refine Wp.seq ?_
     refine Wp.regionT 8 mixed (by decide +kernel) ?_
     refine SWp.o 17 (.one (.sl false 60 3 (encs (c60 false) xA))) ?_
     refine SWp.o 18 (I yI1) ?_
     refine SWp.p h 19 (fun _ => (.one (.ptr (.slot 17) 1 [0] (Int.toNat yI1 * 3 + 0)))) ?_ (fun x1 gx1 => sl_pure (p_ix (k60 false) (.slot 17) [] 0 gx1))
     intro x1 gx1 h
     refine SWp.o 20 (.agg [.bool x1.Bad, .int .i64 x1.Wear, .sl false 57 2 (encs c57 x1.Leaves)]) ?_ (sl_pure (p_le (k60 false) (.slot 17) [0] gx1))
     refine SWp.o 21 (.one (.sl false 60 3 (encs (c60 false) xB))) ?_
     refine SWp.o 22 (I yI1) ?_
     refine SWp.p h 23 (fun _ => (.one (.ptr (.slot 21) 1 [0] (Int.toNat yI1 * 3 + 0)))) ?_ (fun x2 gx2 => sl_pure (p_ix (k60 false) (.slot 21) [] 0 gx2))
     intro x2 gx2 h
     refine SWp.o 24 (.agg [.bool x2.Bad, .int .i64 x2.Wear, .sl false 57 2 (encs c57 x2.Leaves)]) ?_ (sl_pure (p_le (k60 false) (.slot 21) [0] gx2))
     refine SWp.nil ?_
     refine LWp.cl h 25 (fun v1 => (B v1)) rfl (l := [.sv (.agg [.bool x1.Bad, .int .i64 x1.Wear, .sl false 57 2 (encs c57 x1.Leaves)]), .sv (.agg [.bool x2.Bad, .int .i64 x2.Wear, .sl false 57 2 (encs c57 x2.Leaves)])]) rfl (fun v hv => w_eqBlock_t x1 x2 v hv) (.inl rfl) ?_
     intro v1 gv1 h
     refine LWp.o 26 (B (!v1)) ?_
     refine LWp.nil ?_
     refine Wp.c h (fun h => ?_) (fun h => ?_)
     · refine Wp.seq ?_
       refine Wp.region ?_
       refine LWp.o 4 (B false) ?_
       refine LWp.nil ?_
       cases h
       replace h : some _ = some _ := hk1 _ rfl
       cases h
       exact Wp.ret ⟨.inr rfl, _, _, rfl, rfl⟩
     refine Wp.skip ?_
     refine Wp.region ?_
     refine LWp.o 15 (I yI1) ?_
     refine LWp.o 16 (I (ad yI1 1)) ?_
     refine LWp.o 5 (I (ad yI1 1)) ?_
     refine LWp.nil ?_
     cases h
     exact ⟨_, rfl, rfl, rfl⟩
   refine Wp.exit ?_
   cases h
   exact ⟨_, rfl, rfl, rfl⟩
 intro v2 h E hE
 refine nt_wp hE ?_
 change Wp _ _ _ w_eqBlockS_H2 _
 refine Wp.seq ?_
 refine Wp.region ?_
 refine LWp.o 4 (B true) ?_
 refine LWp.nil ?_
 cases h
 exact Wp.ret ⟨.inr rfl, _, _, rfl, rfl⟩
set_option maxRecDepth 100000 in
theorem w_eqFlash_t (xA : Flash) (xB : Flash) (r : Bool) (h : w_eqFlash xA xB = some r) : Gives Try.prog 9 [.sv (.agg [.sl false 60 3 (encs (c60 false) xA.Blocks)]), .sv (.agg [.sl false 60 3 (encs (c60 false) xB.Blocks)])] (B r) (List.replicate 2 .gone) := by
 unfold w_eqFlash at h
 refine gives_of Try.func9 rfl ?_
 rw [Try.ntmps9]
 refine Wp.seq ?_
 refine Wp.region ?_
 refine LWp.b [] 2 [.sl false 60 3 (encs (c60 false) xA.Blocks)] ?_
 refine LWp.b [] 3 [.sl false 60 3 (encs (c60 false) xB.Blocks)] ?_
 refine LWp.o 4 (B false) ?_
 refine LWp.nil ?_
 refine Wp.seq ?_
 refine Wp.seq ?_
 refine Wp.region ?_
 refine LWp.o 5 (.one (.ptr (.box 2) 1 [] 0)) ?_
 refine LWp.o 6 (.one (.sl false 60 3 (encs (c60 false) xA.Blocks))) ?_
 refine LWp.o 7 (.one (.ptr (.box 3) 1 [] 0)) ?_
 refine LWp.o 8 (.one (.sl false 60 3 (encs (c60 false) xB.Blocks))) ?_
 refine LWp.cl h 9 (fun v1 => (B v1)) rfl (l := [.sv (.one (.sl false 60 3 (encs (c60 false) xA.Blocks))), .sv (.one (.sl false 60 3 (encs (c60 false) xB.Blocks)))]) rfl (fun v hv => w_eqBlockS_t xA.Blocks xB.Blocks v hv) (.inl rfl) ?_
 intro v1 gv1 h
 refine LWp.o 10 (B (!v1)) ?_
 refine LWp.nil ?_
 refine Wp.c h (fun h => ?_) (fun h => ?_)
 · refine Wp.seq ?_
   refine Wp.region ?_
   refine LWp.o 4 (B false) ?_
   refine LWp.nil ?_
   cases h
   exact Wp.ret ⟨.inr rfl, _, _, rfl, rfl⟩
 refine Wp.skip ?_
 refine Wp.seq ?_
 refine Wp.region ?_
 refine LWp.o 4 (B true) ?_
 refine LWp.nil ?_
 cases h
 exact Wp.ret ⟨.inr rfl, _, _, rfl, rfl⟩
set_option maxRecDepth 100000 in
theorem w_eqVol_t (xA : Vol) (xB : Vol) (r : Bool) (h : w_eqVol xA xB = some r) : Gives Try.prog 70 [.sv (.agg [.int .i64 xA.Id, .int .i64 xA.Root]), .sv (.agg [.int .i64 xB.Id, .int .i64 xB.Root])] (B r) (List.replicate 2 .gone) := by
 unfold w_eqVol at h
 refine gives_of Try.func70 rfl ?_
 rw [Try.ntmps70]
 refine Wp.seq ?_
 refine Wp.region ?_
 refine LWp.b [] 2 [.int .i64 xA.Id, .int .i64 xA.Root] ?_
 refine LWp.b [] 3 [.int .i64 xB.Id, .int .i64 xB.Root] ?_
 refine LWp.o 4 (B false) ?_
 refine LWp.nil ?_
 refine Wp.seq ?_
 refine Wp.seq ?_
 refine Wp.region ?_
 refine LWp.o 5 (.one (.ptr (.box 2) 1 [] 0)) ?_
 refine LWp.o 6 (I xA.Id) ?_
 refine LWp.o 7 (.one (.ptr (.box 3) 1 [] 0)) ?_
 refine LWp.o 8 (I xB.Id) ?_
 refine LWp.o 9 (B (xA.Id != xB.Id)) ?_
 refine LWp.nil ?_
 refine Wp.c h (fun h => ?_) (fun h => ?_)
 · refine Wp.seq ?_
   refine Wp.region ?_
   refine LWp.o 4 (B false) ?_
   refine LWp.nil ?_
   cases h
   exact Wp.ret ⟨.inr rfl, _, _, rfl, rfl⟩
 refine Wp.skip ?_
 refine Wp.seq ?_
 refine Wp.seq ?_
 refine Wp.region ?_
 refine LWp.o 10 (.one (.ptr (.box 2) 1 [] 1)) ?_
 refine LWp.o 11 (I xA.Root) ?_
 refine LWp.o 12 (.one (.ptr (.box 3) 1 [] 1)) ?_
 refine LWp.o 13 (I xB.Root) ?_
 refine LWp.o 14 (B (xA.Root != xB.Root)) ?_
 refine LWp.nil ?_
 refine Wp.c h (fun h => ?_) (fun h => ?_)
 · refine Wp.seq ?_
   refine Wp.region ?_
   refine LWp.o 4 (B false) ?_
   refine LWp.nil ?_
   cases h
   exact Wp.ret ⟨.inr rfl, _, _, rfl, rfl⟩
 refine Wp.skip ?_
 refine Wp.seq ?_
 refine Wp.region ?_
 refine LWp.o 4 (B true) ?_
 refine LWp.nil ?_
 cases h
 exact Wp.ret ⟨.inr rfl, _, _, rfl, rfl⟩
def w_eqVolS_H1 (xA : List Vol) (xB : List Vol) (z1 : Int) : St := mkSt [(0, (.one (.sl false 114 2 (encs c114 xA)))), (1, (.one (.sl false 114 2 (encs c114 xB)))), (5, (I z1))] []
def w_eqVolS_H2  : St := mkSt [] []
set_option maxRecDepth 100000 in
theorem w_eqVolS_t (xA : List Vol) (xB : List Vol) (r : Bool) (h : w_eqVolS xA xB = some r) : Gives Try.prog 48 [.sv (.one (.sl false 114 2 (encs c114 xA))), .sv (.one (.sl false 114 2 (encs c114 xB)))] (B r) (List.replicate 2 .gone) := by
 unfold w_eqVolS at h
 refine gives_of Try.func48 rfl ?_
 rw [Try.ntmps48]
 refine Wp.seq ?_
 refine Wp.region ?_
 refine LWp.o 4 (B false) ?_
 refine LWp.nil ?_
 refine Wp.seq ?_
 refine Wp.seq ?_
 refine Wp.region ?_
 refine LWp.o 6 (.one (.sl false 114 2 (encs c114 xA))) ?_
 refine LWp.o 7 (I (ln xA)) ?_ (st_pure (p_ln k114 xA))
 refine LWp.o 8 (.one (.sl false 114 2 (encs c114 xB))) ?_
 refine LWp.o 9 (I (ln xB)) ?_ (st_pure (p_ln k114 xB))
 refine LWp.o 10 (B ((ln xA) != (ln xB))) ?_
 refine LWp.nil ?_
 refine Wp.c h (fun h => ?_) (fun h => ?_)
 · refine Wp.seq ?_
   refine Wp.region ?_
   refine LWp.o 4 (B false) ?_
   refine LWp.nil ?_
   cases h
   exact Wp.ret ⟨.inr rfl, _, _, rfl, rfl⟩
 refine Wp.skip ?_
 refine Wp.seq ?_
 refine Wp.seq ?_
 refine Wp.region ?_
 refine LWp.o 5 (I 0) ?_
 refine LWp.nil ?_
 refine Wp.l2 h [0, 1, 5] [] (fun s => (w_eqVolS_H1 xA xB s)) [] [] (fun _ => w_eqVolS_H2) ⟨rfl, rfl⟩ ?_ ?_
 · rintro yI1 o (h : w_eqVolS_b1 xA xB yI1 = some o) hk1
   unfold w_eqVolS_b1 at h
   change Wp _ _ _ (w_eqVolS_H1 xA xB yI1) _
   refine Wp.seq ?_
   refine Wp.seq ?_
   refine Wp.region ?_
   refine LWp.o 11 (I yI1) ?_
   refine LWp.o 12 (.one (.sl false 114 2 (encs c114 xA))) ?_
   refine LWp.o 13 (I (ln xA)) ?_ (st_pure (p_ln k114 xA))
   refine LWp.o 14 (B (decide (yI1 < (ln xA)))) ?_
   refine LWp.nil ?_
   refine Wp.c h (fun h => ?_) (fun h => ?_)
   · refine Wp.skip ?_
     refine Wp.seq ?_
     refine Wp.block ?_
     refine Wp.seq ?_
     refine Wp.regionT 8 mixed (by decide +kernel) ?_
     refine SWp.o 17 (.one (.sl false 114 2 (encs c114 xA))) ?_
     refine SWp.o 18 (I yI1) ?_
     refine SWp.p h 19 (fun _ => (.one (.ptr (.slot 17) 1 [0] (Int.toNat yI1 * 2 + 0)))) ?_ (fun x1 gx1 => sl_pure (p_ix k114 (.slot 17) [] 0 gx1))
     intro x1 gx1 h
     refine SWp.o 20 (.agg [.int .i64 x1.Id, .int .i64 x1.Root]) ?_ (sl_pure (p_le k114 (.slot 17) [0] gx1))
     refine SWp.o 21 (.one (.sl false 114 2 (encs c114 xB))) ?_
     refine SWp.o 22 (I yI1) ?_
     refine SWp.p h 23 (fun _ => (.one (.ptr (.slot 21) 1 [0] (Int.toNat yI1 * 2 + 0)))) ?_ (fun x2 gx2 => sl_pure (p_ix k114 (.slot 21) [] 0 gx2))
     intro x2 gx2 h
     refine SWp.o 24 (.agg [.int .i64 x2.Id, .int .i64 x2.Root]) ?_ (sl_pure (p_le k114 (.slot 21) [0] gx2))
     refine SWp.nil ?_
     refine LWp.cl h 25 (fun v1 => (B v1)) rfl (l := [.sv (.agg [.int .i64 x1.Id, .int .i64 x1.Root]), .sv (.agg [.int .i64 x2.Id, .int .i64 x2.Root])]) rfl (fun v hv => w_eqVol_t x1 x2 v hv) (.inl rfl) ?_
     intro v1 gv1 h
     refine LWp.o 26 (B (!v1)) ?_
     refine LWp.nil ?_
     refine Wp.c h (fun h => ?_) (fun h => ?_)
     · refine Wp.seq ?_
       refine Wp.region ?_
       refine LWp.o 4 (B false) ?_
       refine LWp.nil ?_
       cases h
       replace h : some _ = some _ := hk1 _ rfl
       cases h
       exact Wp.ret ⟨.inr rfl, _, _, rfl, rfl⟩
     refine Wp.skip ?_
     refine Wp.region ?_
     refine LWp.o 15 (I yI1) ?_
     refine LWp.o 16 (I (ad yI1 1)) ?_
     refine LWp.o 5 (I (ad yI1 1)) ?_
     refine LWp.nil ?_
     cases h
     exact ⟨_, rfl, rfl, rfl⟩
   refine Wp.exit ?_
   cases h
   exact ⟨_, rfl, rfl, rfl⟩
 intro v2 h E hE
 refine nt_wp hE ?_
 change Wp _ _ _ w_eqVolS_H2 _
 refine Wp.seq ?_
 refine Wp.region ?_
 refine LWp.o 4 (B true) ?_
 refine LWp.nil ?_
 cases h
 exact Wp.ret ⟨.inr rfl, _, _, rfl, rfl⟩
def w_eqIntS_H1 (xA : List Int) (xB : List Int) (z1 : Int) : St := mkSt [(0, (.one (.sl false 3 1 (encs c3 xA)))), (1, (.one (.sl false 3 1 (encs c3 xB)))), (5, (I z1))] []
def w_eqIntS_H2  : St := mkSt [] []
set_option maxRecDepth 100000 in
theorem w_eqIntS_t (xA : List Int) (xB : List Int) (r : Bool) (h : w_eqIntS xA xB = some r) : Gives Try.prog 95 [.sv (.one (.sl false 3 1 (encs c3 xA))), .sv (.one (.sl false 3 1 (encs c3 xB)))] (B r) (List.replicate 2 .gone) := by
 unfold w_eqIntS at h
 refine gives_of Try.func95 rfl ?_
 rw [Try.ntmps95]
 refine Wp.seq ?_
 refine Wp.region ?_
 refine LWp.o 4 (B false) ?_
 refine LWp.nil ?_
 refine Wp.seq ?_
 refine Wp.seq ?_
 refine Wp.region ?_
 refine LWp.o 6 (.one (.sl false 3 1 (encs c3 xA))) ?_
 refine LWp.o 7 (I (ln xA)) ?_ (st_pure (p_ln k3 xA))
 refine LWp.o 8 (.one (.sl false 3 1 (encs c3 xB))) ?_
 refine LWp.o 9 (I (ln xB)) ?_ (st_pure (p_ln k3 xB))
 refine LWp.o 10 (B ((ln xA) != (ln xB))) ?_
 refine LWp.nil ?_
 refine Wp.c h (fun h => ?_) (fun h => ?_)
 · refine Wp.seq ?_
   refine Wp.region ?_
   refine LWp.o 4 (B false) ?_
   refine LWp.nil ?_
   cases h
   exact Wp.ret ⟨.inr rfl, _, _, rfl, rfl⟩
 refine Wp.skip ?_
 refine Wp.seq ?_
 refine Wp.seq ?_
 refine Wp.region ?_
 refine LWp.o 5 (I 0) ?_
 refine LWp.nil ?_
 refine Wp.l2 h [0, 1, 5] [] (fun s => (w_eqIntS_H1 xA xB s)) [] [] (fun _ => w_eqIntS_H2) ⟨rfl, rfl⟩ ?_ ?_
 · rintro yI1 o (h : w_eqIntS_b1 xA xB yI1 = some o) hk1
   unfold w_eqIntS_b1 at h
   change Wp _ _ _ (w_eqIntS_H1 xA xB yI1) _
   refine Wp.seq ?_
   refine Wp.seq ?_
   refine Wp.region ?_
   refine LWp.o 11 (I yI1) ?_
   refine LWp.o 12 (.one (.sl false 3 1 (encs c3 xA))) ?_
   refine LWp.o 13 (I (ln xA)) ?_ (st_pure (p_ln k3 xA))
   refine LWp.o 14 (B (decide (yI1 < (ln xA)))) ?_
   refine LWp.nil ?_
   refine Wp.c h (fun h => ?_) (fun h => ?_)
   · refine Wp.skip ?_
     refine Wp.seq ?_
     refine Wp.block ?_
     refine Wp.seq ?_
     refine Wp.regionS mixed (by decide +kernel) ?_
     refine SWp.o 17 (.one (.sl false 3 1 (encs c3 xA))) ?_
     refine SWp.o 18 (I yI1) ?_
     refine SWp.p h 19 (fun _ => (.one (.ptr (.slot 17) 1 [0] (Int.toNat yI1 * 1 + 0)))) ?_ (fun x1 gx1 => sl_pure (p_ix k3 (.slot 17) [] 0 gx1))
     intro x1 gx1 h
     refine SWp.o 20 (I x1) ?_ (sl_pure (p_lc k3 (.slot 17) [0] 0 (.int .i64 x1) gx1))
     refine SWp.o 21 (.one (.sl false 3 1 (encs c3 xB))) ?_
     refine SWp.o 22 (I yI1) ?_
     refine SWp.p h 23 (fun _ => (.one (.ptr (.slot 21) 1 [0] (Int.toNat yI1 * 1 + 0)))) ?_ (fun x2 gx2 => sl_pure (p_ix k3 (.slot 21) [] 0 gx2))
     intro x2 gx2 h
     refine SWp.o 24 (I x2) ?_ (sl_pure (p_lc k3 (.slot 21) [0] 0 (.int .i64 x2) gx2))
     refine SWp.o 25 (B (x1 != x2)) ?_
     refine SWp.nil ?_
     refine Wp.c h (fun h => ?_) (fun h => ?_)
     · refine Wp.seq ?_
       refine Wp.region ?_
       refine LWp.o 4 (B false) ?_
       refine LWp.nil ?_
       cases h
       replace h : some _ = some _ := hk1 _ rfl
       cases h
       exact Wp.ret ⟨.inr rfl, _, _, rfl, rfl⟩
     refine Wp.skip ?_
     refine Wp.region ?_
     refine LWp.o 15 (I yI1) ?_
     refine LWp.o 16 (I (ad yI1 1)) ?_
     refine LWp.o 5 (I (ad yI1 1)) ?_
     refine LWp.nil ?_
     cases h
     exact ⟨_, rfl, rfl, rfl⟩
   refine Wp.exit ?_
   cases h
   exact ⟨_, rfl, rfl, rfl⟩
 intro v1 h E hE
 refine nt_wp hE ?_
 change Wp _ _ _ w_eqIntS_H2 _
 refine Wp.seq ?_
 refine Wp.region ?_
 refine LWp.o 4 (B true) ?_
 refine LWp.nil ?_
 cases h
 exact Wp.ret ⟨.inr rfl, _, _, rfl, rfl⟩
set_option maxRecDepth 100000 in
theorem w_eqKnot_t (xA : Knot) (xB : Knot) (r : Bool) (h : w_eqKnot xA xB = some r) : Gives Try.prog 90 [.sv (.agg [.bool xA.Leaf, .sl false 3 1 (encs c3 xA.Kids)]), .sv (.agg [.bool xB.Leaf, .sl false 3 1 (encs c3 xB.Kids)])] (B r) (List.replicate 2 .gone) := by
 unfold w_eqKnot at h
 refine gives_of Try.func90 rfl ?_
 rw [Try.ntmps90]
 refine Wp.seq ?_
 refine Wp.region ?_
 refine LWp.b [] 2 [.bool xA.Leaf, .sl false 3 1 (encs c3 xA.Kids)] ?_
 refine LWp.b [] 3 [.bool xB.Leaf, .sl false 3 1 (encs c3 xB.Kids)] ?_
 refine LWp.o 4 (B false) ?_
 refine LWp.nil ?_
 refine Wp.seq ?_
 refine Wp.seq ?_
 refine Wp.region ?_
 refine LWp.o 5 (.one (.ptr (.box 2) 1 [] 0)) ?_
 refine LWp.o 6 (B xA.Leaf) ?_
 refine LWp.o 7 (.one (.ptr (.box 3) 1 [] 0)) ?_
 refine LWp.o 8 (B xB.Leaf) ?_
 refine LWp.o 9 (B (!(xA.Leaf == xB.Leaf))) ?_
 refine LWp.nil ?_
 refine Wp.c h (fun h => ?_) (fun h => ?_)
 · refine Wp.seq ?_
   refine Wp.region ?_
   refine LWp.o 4 (B false) ?_
   refine LWp.nil ?_
   cases h
   exact Wp.ret ⟨.inr rfl, _, _, rfl, rfl⟩
 refine Wp.skip ?_
 refine Wp.seq ?_
 refine Wp.seq ?_
 refine Wp.region ?_
 refine LWp.o 10 (.one (.ptr (.box 2) 1 [] 1)) ?_
 refine LWp.o 11 (.one (.sl false 3 1 (encs c3 xA.Kids))) ?_
 refine LWp.o 12 (.one (.ptr (.box 3) 1 [] 1)) ?_
 refine LWp.o 13 (.one (.sl false 3 1 (encs c3 xB.Kids))) ?_
 refine LWp.cl h 14 (fun v1 => (B v1)) rfl (l := [.sv (.one (.sl false 3 1 (encs c3 xA.Kids))), .sv (.one (.sl false 3 1 (encs c3 xB.Kids)))]) rfl (fun v hv => w_eqIntS_t xA.Kids xB.Kids v hv) (.inl rfl) ?_
 intro v1 gv1 h
 refine LWp.o 15 (B (!v1)) ?_
 refine LWp.nil ?_
 refine Wp.c h (fun h => ?_) (fun h => ?_)
 · refine Wp.seq ?_
   refine Wp.region ?_
   refine LWp.o 4 (B false) ?_
   refine LWp.nil ?_
   cases h
   exact Wp.ret ⟨.inr rfl, _, _, rfl, rfl⟩
 refine Wp.skip ?_
 refine Wp.seq ?_
 refine Wp.region ?_
 refine LWp.o 4 (B true) ?_
 refine LWp.nil ?_
 cases h
 exact Wp.ret ⟨.inr rfl, _, _, rfl, rfl⟩
def w_eqKnotS_H1 (xA : List Knot) (xB : List Knot) (z1 : Int) : St := mkSt [(0, (.one (.sl false 142 2 (encs (c142 false) xA)))), (1, (.one (.sl false 142 2 (encs (c142 false) xB)))), (5, (I z1))] []
def w_eqKnotS_H2  : St := mkSt [] []
set_option maxRecDepth 100000 in
theorem w_eqKnotS_t (xA : List Knot) (xB : List Knot) (r : Bool) (h : w_eqKnotS xA xB = some r) : Gives Try.prog 71 [.sv (.one (.sl false 142 2 (encs (c142 false) xA))), .sv (.one (.sl false 142 2 (encs (c142 false) xB)))] (B r) (List.replicate 2 .gone) := by
 unfold w_eqKnotS at h
 refine gives_of Try.func71 rfl ?_
 rw [Try.ntmps71]
 refine Wp.seq ?_
 refine Wp.region ?_
 refine LWp.o 4 (B false) ?_
 refine LWp.nil ?_
 refine Wp.seq ?_
 refine Wp.seq ?_
 refine Wp.region ?_
 refine LWp.o 6 (.one (.sl false 142 2 (encs (c142 false) xA))) ?_
 refine LWp.o 7 (I (ln xA)) ?_ (st_pure (p_ln (k142 false) xA))
 refine LWp.o 8 (.one (.sl false 142 2 (encs (c142 false) xB))) ?_
 refine LWp.o 9 (I (ln xB)) ?_ (st_pure (p_ln (k142 false) xB))
 refine LWp.o 10 (B ((ln xA) != (ln xB))) ?_
 refine LWp.nil ?_
 refine Wp.c h (fun h => ?_) (fun h => ?_)
 · refine Wp.seq ?_
   refine Wp.region ?_
   refine LWp.o 4 (B false) ?_
   refine LWp.nil ?_
   cases h
   exact Wp.ret ⟨.inr rfl, _, _, rfl, rfl⟩
 refine Wp.skip ?_
 refine Wp.seq ?_
 refine Wp.seq ?_
 refine Wp.region ?_
 refine LWp.o 5 (I 0) ?_
 refine LWp.nil ?_
 refine Wp.l2 h [0, 1, 5] [] (fun s => (w_eqKnotS_H1 xA xB s)) [] [] (fun _ => w_eqKnotS_H2) ⟨rfl, rfl⟩ ?_ ?_
 · rintro yI1 o (h : w_eqKnotS_b1 xA xB yI1 = some o) hk1
   unfold w_eqKnotS_b1 at h
   change Wp _ _ _ (w_eqKnotS_H1 xA xB yI1) _
   refine Wp.seq ?_
   refine Wp.seq ?_
   refine Wp.region ?_
   refine LWp.o 11 (I yI1) ?_
   refine LWp.o 12 (.one (.sl false 142 2 (encs (c142 false) xA))) ?_
   refine LWp.o 13 (I (ln xA)) ?_ (st_pure (p_ln (k142 false) xA))
   refine LWp.o 14 (B (decide (yI1 < (ln xA)))) ?_
   refine LWp.nil ?_
   refine Wp.c h (fun h => ?_) (fun h => ?_)
   · refine Wp.skip ?_
     refine Wp.seq ?_
     refine Wp.block ?_
     refine Wp.seq ?_
     refine Wp.regionT 8 mixed (by decide +kernel) ?_
     refine SWp.o 17 (.one (.sl false 142 2 (encs (c142 false) xA))) ?_
     refine SWp.o 18 (I yI1) ?_
     refine SWp.p h 19 (fun _ => (.one (.ptr (.slot 17) 1 [0] (Int.toNat yI1 * 2 + 0)))) ?_ (fun x1 gx1 => sl_pure (p_ix (k142 false) (.slot 17) [] 0 gx1))
     intro x1 gx1 h
     refine SWp.o 20 (.agg [.bool x1.Leaf, .sl false 3 1 (encs c3 x1.Kids)]) ?_ (sl_pure (p_le (k142 false) (.slot 17) [0] gx1))
     refine SWp.o 21 (.one (.sl false 142 2 (encs (c142 false) xB))) ?_
     refine SWp.o 22 (I yI1) ?_
     refine SWp.p h 23 (fun _ => (.one (.ptr (.slot 21) 1 [0] (Int.toNat yI1 * 2 + 0)))) ?_ (fun x2 gx2 => sl_pure (p_ix (k142 false) (.slot 21) [] 0 gx2))
     intro x2 gx2 h
     refine SWp.o 24 (.agg [.bool x2.Leaf, .sl false 3 1 (encs c3 x2.Kids)]) ?_ (sl_pure (p_le (k142 false) (.slot 21) [0] gx2))
     refine SWp.nil ?_
     refine LWp.cl h 25 (fun v1 => (B v1)) rfl (l := [.sv (.agg [.bool x1.Leaf, .sl false 3 1 (encs c3 x1.Kids)]), .sv (.agg [.bool x2.Leaf, .sl false 3 1 (encs c3 x2.Kids)])]) rfl (fun v hv => w_eqKnot_t x1 x2 v hv) (.inl rfl) ?_
     intro v1 gv1 h
     refine LWp.o 26 (B (!v1)) ?_
     refine LWp.nil ?_
     refine Wp.c h (fun h => ?_) (fun h => ?_)
     · refine Wp.seq ?_
       refine Wp.region ?_
       refine LWp.o 4 (B false) ?_
       refine LWp.nil ?_
       cases h
       replace h : some _ = some _ := hk1 _ rfl
       cases h
       exact Wp.ret ⟨.inr rfl, _, _, rfl, rfl⟩
     refine Wp.skip ?_
     refine Wp.region ?_
     refine LWp.o 15 (I yI1) ?_
     refine LWp.o 16 (I (ad yI1 1)) ?_
     refine LWp.o 5 (I (ad yI1 1)) ?_
     refine LWp.nil ?_
     cases h
     exact ⟨_, rfl, rfl, rfl⟩
   refine Wp.exit ?_
   cases h
   exact ⟨_, rfl, rfl, rfl⟩
 intro v2 h E hE
 refine nt_wp hE ?_
 change Wp _ _ _ w_eqKnotS_H2 _
 refine Wp.seq ?_
 refine Wp.region ?_
 refine LWp.o 4 (B true) ?_
 refine LWp.nil ?_
 cases h
 exact Wp.ret ⟨.inr rfl, _, _, rfl, rfl⟩
set_option maxRecDepth 100000 in
theorem w_eqArena_t (xA : Arena) (xB : Arena) (r : Bool) (h : w_eqArena xA xB = some r) : Gives Try.prog 49 [.sv (.agg [.sl false 142 2 (encs (c142 false) xA.Knots)]), .sv (.agg [.sl false 142 2 (encs (c142 false) xB.Knots)])] (B r) (List.replicate 2 .gone) := by
 unfold w_eqArena at h
 refine gives_of Try.func49 rfl ?_
 rw [Try.ntmps49]
 refine Wp.seq ?_
 refine Wp.region ?_
 refine LWp.b [] 2 [.sl false 142 2 (encs (c142 false) xA.Knots)] ?_
 refine LWp.b [] 3 [.sl false 142 2 (encs (c142 false) xB.Knots)] ?_
 refine LWp.o 4 (B false) ?_
 refine LWp.nil ?_
 refine Wp.seq ?_
 refine Wp.seq ?_
 refine Wp.region ?_
 refine LWp.o 5 (.one (.ptr (.box 2) 1 [] 0)) ?_
 refine LWp.o 6 (.one (.sl false 142 2 (encs (c142 false) xA.Knots))) ?_
 refine LWp.o 7 (.one (.ptr (.box 3) 1 [] 0)) ?_
 refine LWp.o 8 (.one (.sl false 142 2 (encs (c142 false) xB.Knots))) ?_
 refine LWp.cl h 9 (fun v1 => (B v1)) rfl (l := [.sv (.one (.sl false 142 2 (encs (c142 false) xA.Knots))), .sv (.one (.sl false 142 2 (encs (c142 false) xB.Knots)))]) rfl (fun v hv => w_eqKnotS_t xA.Knots xB.Knots v hv) (.inl rfl) ?_
 intro v1 gv1 h
 refine LWp.o 10 (B (!v1)) ?_
 refine LWp.nil ?_
 refine Wp.c h (fun h => ?_) (fun h => ?_)
 · refine Wp.seq ?_
   refine Wp.region ?_
   refine LWp.o 4 (B false) ?_
   refine LWp.nil ?_
   cases h
   exact Wp.ret ⟨.inr rfl, _, _, rfl, rfl⟩
 refine Wp.skip ?_
 refine Wp.seq ?_
 refine Wp.region ?_
 refine LWp.o 4 (B true) ?_
 refine LWp.nil ?_
 cases h
 exact Wp.ret ⟨.inr rfl, _, _, rfl, rfl⟩
set_option maxRecDepth 100000 in
theorem w_eqStore_t (xA : Store) (xB : Store) (r : Bool) (h : w_eqStore xA xB = some r) : Gives Try.prog 30 [.sv (.agg [.sl false 114 2 (encs c114 xA.Vols), .sl false 142 2 (encs (c142 false) xA.Arena.Knots), .int .i64 xA.Next]), .sv (.agg [.sl false 114 2 (encs c114 xB.Vols), .sl false 142 2 (encs (c142 false) xB.Arena.Knots), .int .i64 xB.Next])] (B r) (List.replicate 2 .gone) := by
 unfold w_eqStore at h
 refine gives_of Try.func30 rfl ?_
 rw [Try.ntmps30]
 refine Wp.seq ?_
 refine Wp.region ?_
 refine LWp.b [] 2 [.sl false 114 2 (encs c114 xA.Vols), .sl false 142 2 (encs (c142 false) xA.Arena.Knots), .int .i64 xA.Next] ?_
 refine LWp.b [] 3 [.sl false 114 2 (encs c114 xB.Vols), .sl false 142 2 (encs (c142 false) xB.Arena.Knots), .int .i64 xB.Next] ?_
 refine LWp.o 4 (B false) ?_
 refine LWp.nil ?_
 refine Wp.seq ?_
 refine Wp.seq ?_
 refine Wp.region ?_
 refine LWp.o 5 (.one (.ptr (.box 2) 1 [] 0)) ?_
 refine LWp.o 6 (.one (.sl false 114 2 (encs c114 xA.Vols))) ?_
 refine LWp.o 7 (.one (.ptr (.box 3) 1 [] 0)) ?_
 refine LWp.o 8 (.one (.sl false 114 2 (encs c114 xB.Vols))) ?_
 refine LWp.cl h 9 (fun v1 => (B v1)) rfl (l := [.sv (.one (.sl false 114 2 (encs c114 xA.Vols))), .sv (.one (.sl false 114 2 (encs c114 xB.Vols)))]) rfl (fun v hv => w_eqVolS_t xA.Vols xB.Vols v hv) (.inl rfl) ?_
 intro v1 gv1 h
 refine LWp.o 10 (B (!v1)) ?_
 refine LWp.nil ?_
 refine Wp.c h (fun h => ?_) (fun h => ?_)
 · refine Wp.seq ?_
   refine Wp.region ?_
   refine LWp.o 4 (B false) ?_
   refine LWp.nil ?_
   cases h
   exact Wp.ret ⟨.inr rfl, _, _, rfl, rfl⟩
 refine Wp.skip ?_
 refine Wp.seq ?_
 refine Wp.seq ?_
 refine Wp.region ?_
 refine LWp.o 11 (.one (.ptr (.box 2) 1 [] 1)) ?_
 refine LWp.o 12 (.agg [.sl false 142 2 (encs (c142 false) xA.Arena.Knots)]) ?_
 refine LWp.o 13 (.one (.ptr (.box 3) 1 [] 1)) ?_
 refine LWp.o 14 (.agg [.sl false 142 2 (encs (c142 false) xB.Arena.Knots)]) ?_
 refine LWp.cl h 15 (fun v2 => (B v2)) rfl (l := [.sv (.agg [.sl false 142 2 (encs (c142 false) xA.Arena.Knots)]), .sv (.agg [.sl false 142 2 (encs (c142 false) xB.Arena.Knots)])]) rfl (fun v hv => w_eqArena_t xA.Arena xB.Arena v hv) (.inl rfl) ?_
 intro v2 gv2 h
 refine LWp.o 16 (B (!v2)) ?_
 refine LWp.nil ?_
 refine Wp.c h (fun h => ?_) (fun h => ?_)
 · refine Wp.seq ?_
   refine Wp.region ?_
   refine LWp.o 4 (B false) ?_
   refine LWp.nil ?_
   cases h
   exact Wp.ret ⟨.inr rfl, _, _, rfl, rfl⟩
 refine Wp.skip ?_
 refine Wp.seq ?_
 refine Wp.seq ?_
 refine Wp.region ?_
 refine LWp.o 17 (.one (.ptr (.box 2) 1 [] 2)) ?_
 refine LWp.o 18 (I xA.Next) ?_
 refine LWp.o 19 (.one (.ptr (.box 3) 1 [] 2)) ?_
 refine LWp.o 20 (I xB.Next) ?_
 refine LWp.o 21 (B (xA.Next != xB.Next)) ?_
 refine LWp.nil ?_
 refine Wp.c h (fun h => ?_) (fun h => ?_)
 · refine Wp.seq ?_
   refine Wp.region ?_
   refine LWp.o 4 (B false) ?_
   refine LWp.nil ?_
   cases h
   exact Wp.ret ⟨.inr rfl, _, _, rfl, rfl⟩
 refine Wp.skip ?_
 refine Wp.seq ?_
 refine Wp.region ?_
 refine LWp.o 4 (B true) ?_
 refine LWp.nil ?_
 cases h
 exact Wp.ret ⟨.inr rfl, _, _, rfl, rfl⟩
set_option maxRecDepth 100000 in
theorem w_eqDevice_t (xA : Device) (xB : Device) (r : Bool) (h : w_eqDevice xA xB = some r) : Gives Try.prog 14 [.sv (.agg [.sl false 60 3 (encs (c60 false) xA.Flash.Blocks), .sl false 114 2 (encs c114 xA.Store.Vols), .sl false 142 2 (encs (c142 false) xA.Store.Arena.Knots), .int .i64 xA.Store.Next, .int .i64 xA.Seq, .int .i64 xA.Tx, .int .i64 xA.Base]), .sv (.agg [.sl false 60 3 (encs (c60 false) xB.Flash.Blocks), .sl false 114 2 (encs c114 xB.Store.Vols), .sl false 142 2 (encs (c142 false) xB.Store.Arena.Knots), .int .i64 xB.Store.Next, .int .i64 xB.Seq, .int .i64 xB.Tx, .int .i64 xB.Base])] (B r) (List.replicate 2 .gone) := by
 unfold w_eqDevice at h
 refine gives_of Try.func14 rfl ?_
 rw [Try.ntmps14]
 refine Wp.seq ?_
 refine Wp.region ?_
 refine LWp.b [] 2 [.sl false 60 3 (encs (c60 false) xA.Flash.Blocks), .sl false 114 2 (encs c114 xA.Store.Vols), .sl false 142 2 (encs (c142 false) xA.Store.Arena.Knots), .int .i64 xA.Store.Next, .int .i64 xA.Seq, .int .i64 xA.Tx, .int .i64 xA.Base] ?_
 refine LWp.b [] 3 [.sl false 60 3 (encs (c60 false) xB.Flash.Blocks), .sl false 114 2 (encs c114 xB.Store.Vols), .sl false 142 2 (encs (c142 false) xB.Store.Arena.Knots), .int .i64 xB.Store.Next, .int .i64 xB.Seq, .int .i64 xB.Tx, .int .i64 xB.Base] ?_
 refine LWp.o 4 (B false) ?_
 refine LWp.nil ?_
 refine Wp.seq ?_
 refine Wp.seq ?_
 refine Wp.region ?_
 refine LWp.o 5 (.one (.ptr (.box 2) 1 [] 0)) ?_
 refine LWp.o 6 (.agg [.sl false 60 3 (encs (c60 false) xA.Flash.Blocks)]) ?_
 refine LWp.o 7 (.one (.ptr (.box 3) 1 [] 0)) ?_
 refine LWp.o 8 (.agg [.sl false 60 3 (encs (c60 false) xB.Flash.Blocks)]) ?_
 refine LWp.cl h 9 (fun v1 => (B v1)) rfl (l := [.sv (.agg [.sl false 60 3 (encs (c60 false) xA.Flash.Blocks)]), .sv (.agg [.sl false 60 3 (encs (c60 false) xB.Flash.Blocks)])]) rfl (fun v hv => w_eqFlash_t xA.Flash xB.Flash v hv) (.inl rfl) ?_
 intro v1 gv1 h
 refine LWp.o 10 (B (!v1)) ?_
 refine LWp.nil ?_
 refine Wp.c h (fun h => ?_) (fun h => ?_)
 · refine Wp.seq ?_
   refine Wp.region ?_
   refine LWp.o 4 (B false) ?_
   refine LWp.nil ?_
   cases h
   exact Wp.ret ⟨.inr rfl, _, _, rfl, rfl⟩
 refine Wp.skip ?_
 refine Wp.seq ?_
 refine Wp.seq ?_
 refine Wp.region ?_
 refine LWp.o 11 (.one (.ptr (.box 2) 1 [] 1)) ?_
 refine LWp.o 12 (.agg [.sl false 114 2 (encs c114 xA.Store.Vols), .sl false 142 2 (encs (c142 false) xA.Store.Arena.Knots), .int .i64 xA.Store.Next]) ?_
 refine LWp.o 13 (.one (.ptr (.box 3) 1 [] 1)) ?_
 refine LWp.o 14 (.agg [.sl false 114 2 (encs c114 xB.Store.Vols), .sl false 142 2 (encs (c142 false) xB.Store.Arena.Knots), .int .i64 xB.Store.Next]) ?_
 refine LWp.cl h 15 (fun v2 => (B v2)) rfl (l := [.sv (.agg [.sl false 114 2 (encs c114 xA.Store.Vols), .sl false 142 2 (encs (c142 false) xA.Store.Arena.Knots), .int .i64 xA.Store.Next]), .sv (.agg [.sl false 114 2 (encs c114 xB.Store.Vols), .sl false 142 2 (encs (c142 false) xB.Store.Arena.Knots), .int .i64 xB.Store.Next])]) rfl (fun v hv => w_eqStore_t xA.Store xB.Store v hv) (.inl rfl) ?_
 intro v2 gv2 h
 refine LWp.o 16 (B (!v2)) ?_
 refine LWp.nil ?_
 refine Wp.c h (fun h => ?_) (fun h => ?_)
 · refine Wp.seq ?_
   refine Wp.region ?_
   refine LWp.o 4 (B false) ?_
   refine LWp.nil ?_
   cases h
   exact Wp.ret ⟨.inr rfl, _, _, rfl, rfl⟩
 refine Wp.skip ?_
 refine Wp.seq ?_
 refine Wp.seq ?_
 refine Wp.region ?_
 refine LWp.o 17 (.one (.ptr (.box 2) 1 [] 4)) ?_
 refine LWp.o 18 (I xA.Seq) ?_
 refine LWp.o 19 (.one (.ptr (.box 3) 1 [] 4)) ?_
 refine LWp.o 20 (I xB.Seq) ?_
 refine LWp.o 21 (B (xA.Seq != xB.Seq)) ?_
 refine LWp.nil ?_
 refine Wp.c h (fun h => ?_) (fun h => ?_)
 · refine Wp.seq ?_
   refine Wp.region ?_
   refine LWp.o 4 (B false) ?_
   refine LWp.nil ?_
   cases h
   exact Wp.ret ⟨.inr rfl, _, _, rfl, rfl⟩
 refine Wp.skip ?_
 refine Wp.seq ?_
 refine Wp.seq ?_
 refine Wp.region ?_
 refine LWp.o 22 (.one (.ptr (.box 2) 1 [] 5)) ?_
 refine LWp.o 23 (I xA.Tx) ?_
 refine LWp.o 24 (.one (.ptr (.box 3) 1 [] 5)) ?_
 refine LWp.o 25 (I xB.Tx) ?_
 refine LWp.o 26 (B (xA.Tx != xB.Tx)) ?_
 refine LWp.nil ?_
 refine Wp.c h (fun h => ?_) (fun h => ?_)
 · refine Wp.seq ?_
   refine Wp.region ?_
   refine LWp.o 4 (B false) ?_
   refine LWp.nil ?_
   cases h
   exact Wp.ret ⟨.inr rfl, _, _, rfl, rfl⟩
 refine Wp.skip ?_
 refine Wp.seq ?_
 refine Wp.seq ?_
 refine Wp.region ?_
 refine LWp.o 27 (.one (.ptr (.box 2) 1 [] 6)) ?_
 refine LWp.o 28 (I xA.Base) ?_
 refine LWp.o 29 (.one (.ptr (.box 3) 1 [] 6)) ?_
 refine LWp.o 30 (I xB.Base) ?_
 refine LWp.o 31 (B (xA.Base != xB.Base)) ?_
 refine LWp.nil ?_
 refine Wp.c h (fun h => ?_) (fun h => ?_)
 · refine Wp.seq ?_
   refine Wp.region ?_
   refine LWp.o 4 (B false) ?_
   refine LWp.nil ?_
   cases h
   exact Wp.ret ⟨.inr rfl, _, _, rfl, rfl⟩
 refine Wp.skip ?_
 refine Wp.seq ?_
 refine Wp.region ?_
 refine LWp.o 4 (B true) ?_
 refine LWp.nil ?_
 cases h
 exact Wp.ret ⟨.inr rfl, _, _, rfl, rfl⟩
set_option maxRecDepth 100000 in
theorem w_FnExactBounds_t (xAD : Device) (r : Bool) (h : w_FnExactBounds xAD = some r) : Gives Try.prog 4 [.sv (.agg [.sl false 78 3 (encs (c78 false) xAD.Flash.Blocks), .sl false 116 2 (encs c116 xAD.Store.Vols), .sl false 141 2 (encs (c141 false) xAD.Store.Arena.Knots), .int .i64 xAD.Store.Next, .int .i64 xAD.Seq, .int .i64 xAD.Tx, .int .i64 xAD.Base])] (B r) (List.replicate 1 .gone) := by
 unfold w_FnExactBounds at h
 refine gives_of Try.func4 rfl ?_
 rw [Try.ntmps4]
 refine Wp.seq ?_
 refine Wp.region ?_
 refine LWp.b [] 1 [.sl false 78 3 (encs (c78 false) xAD.Flash.Blocks), .sl false 116 2 (encs c116 xAD.Store.Vols), .sl false 141 2 (encs (c141 false) xAD.Store.Arena.Knots), .int .i64 xAD.Store.Next, .int .i64 xAD.Seq, .int .i64 xAD.Tx, .int .i64 xAD.Base] ?_
 refine LWp.o 2 (B false) ?_
 refine LWp.nil ?_
 refine Wp.seq ?_
 refine Wp.region ?_
 refine LWp.o 3 (I 1048576) ?_
 refine LWp.nil ?_
 refine Wp.seq ?_
 refine Wp.region ?_
 refine LWp.o 7 (.agg [.sl false 78 3 (encs (c78 false) xAD.Flash.Blocks), .sl false 116 2 (encs c116 xAD.Store.Vols), .sl false 141 2 (encs (c141 false) xAD.Store.Arena.Knots), .int .i64 xAD.Store.Next, .int .i64 xAD.Seq, .int .i64 xAD.Tx, .int .i64 xAD.Base]) ?_
 refine LWp.o 8 (I 1048576) ?_
 refine LWp.cl h 9 (fun v1 => (I v1)) rfl (l := [.sv (.agg [.sl false 78 3 (encs (c78 false) xAD.Flash.Blocks), .sl false 116 2 (encs c116 xAD.Store.Vols), .sl false 141 2 (encs (c141 false) xAD.Store.Arena.Knots), .int .i64 xAD.Store.Next, .int .i64 xAD.Seq, .int .i64 xAD.Tx, .int .i64 xAD.Base]), .sv (.one (.int .i64 1048576))]) rfl (fun v hv => w_szDevice_t xAD 1048576 v hv) (.inl rfl) ?_
 intro v1 gv1 h
 refine LWp.o 3 (I v1) ?_
 refine LWp.nil ?_
 refine Wp.seq ?_
 refine Wp.seq ?_
 refine Wp.region ?_
 refine LWp.o 10 (I v1) ?_
 refine LWp.o 11 (B (decide (v1 < 0))) ?_
 refine LWp.nil ?_
 refine Wp.c h (fun h => ?_) (fun h => ?_)
 · refine Wp.seq ?_
   refine Wp.region ?_
   refine LWp.o 2 (B true) ?_
   refine LWp.nil ?_
   cases h
   exact Wp.ret ⟨.inr rfl, _, _, rfl, rfl⟩
 refine Wp.skip ?_
 refine Wp.seq ?_
 refine Wp.region ?_
 refine LWp.o 12 (.agg [.sl false 78 3 (encs (c78 false) xAD.Flash.Blocks), .sl false 116 2 (encs c116 xAD.Store.Vols), .sl false 141 2 (encs (c141 false) xAD.Store.Arena.Knots), .int .i64 xAD.Store.Next, .int .i64 xAD.Seq, .int .i64 xAD.Tx, .int .i64 xAD.Base]) ?_
 refine LWp.cl h 13 (fun v2 => (.agg [.sl true 60 3 (encs (c60 true) v2.Flash.Blocks), .sl true 114 2 (encs c114 v2.Store.Vols), .sl true 142 2 (encs (c142 true) v2.Store.Arena.Knots), .int .i64 v2.Store.Next, .int .i64 v2.Seq, .int .i64 v2.Tx, .int .i64 v2.Base])) rfl (l := [.sv (.agg [.sl false 78 3 (encs (c78 false) xAD.Flash.Blocks), .sl false 116 2 (encs c116 xAD.Store.Vols), .sl false 141 2 (encs (c141 false) xAD.Store.Arena.Knots), .int .i64 xAD.Store.Next, .int .i64 xAD.Seq, .int .i64 xAD.Tx, .int .i64 xAD.Base])]) rfl (fun v hv => w_toDevice_t xAD v hv) (.inl rfl) ?_
 intro v2 gv2 h
 refine LWp.cl h 14 (fun v3 => (B v3)) rfl (l := [.sv (.agg [.sl false 60 3 (shares (encs (c60 true) v2.Flash.Blocks)), .sl false 114 2 (shares (encs c114 v2.Store.Vols)), .sl false 142 2 (shares (encs (c142 true) v2.Store.Arena.Knots)), .int .i64 v2.Store.Next, .int .i64 v2.Seq, .int .i64 v2.Tx, .int .i64 v2.Base])]) rfl (fun v hv => cg (l := [.sv (.agg [.sl false 60 3 (shares (encs (c60 true) v2.Flash.Blocks)), .sl false 114 2 (shares (encs c114 v2.Store.Vols)), .sl false 142 2 (shares (encs (c142 true) v2.Store.Arena.Knots)), .int .i64 v2.Store.Next, .int .i64 v2.Seq, .int .i64 v2.Tx, .int .i64 v2.Base])]) (by simp only [sh60, sh114, sh142]) (s_Bounds_t v2 v hv)) (.inr (fun v => rfl)) ?_
 intro v3 gv3 h
 refine LWp.o 4 (B v3) ?_
 refine LWp.nil ?_
 refine Wp.seq ?_
 refine Wp.region ?_
 refine LWp.o 15 (.agg [.sl false 78 3 (encs (c78 false) xAD.Flash.Blocks), .sl false 116 2 (encs c116 xAD.Store.Vols), .sl false 141 2 (encs (c141 false) xAD.Store.Arena.Knots), .int .i64 xAD.Store.Next, .int .i64 xAD.Seq, .int .i64 xAD.Tx, .int .i64 xAD.Base]) ?_
 refine LWp.cl h 16 (fun v4 => (.agg [.sl true 60 3 (encs (c60 true) v4.Flash.Blocks), .sl true 114 2 (encs c114 v4.Store.Vols), .sl true 142 2 (encs (c142 true) v4.Store.Arena.Knots), .int .i64 v4.Store.Next, .int .i64 v4.Seq, .int .i64 v4.Tx, .int .i64 v4.Base])) rfl (l := [.sv (.agg [.sl false 78 3 (encs (c78 false) xAD.Flash.Blocks), .sl false 116 2 (encs c116 xAD.Store.Vols), .sl false 141 2 (encs (c141 false) xAD.Store.Arena.Knots), .int .i64 xAD.Store.Next, .int .i64 xAD.Seq, .int .i64 xAD.Tx, .int .i64 xAD.Base])]) rfl (fun v hv => w_toDevice_t xAD v hv) (.inl rfl) ?_
 intro v4 gv4 h
 refine LWp.b [] 5 [.sl true 60 3 (encs (c60 true) []), .sl true 114 2 (encs c114 []), .sl true 142 2 (encs (c142 true) []), .int .i64 0, .int .i64 0, .int .i64 0, .int .i64 0] ?_
 refine LWp.sb [(.slot 16, [.junk, .sl true 114 2 (encs c114 v4.Store.Vols), .sl true 142 2 (encs (c142 true) v4.Store.Arena.Knots), .int .i64 v4.Store.Next, .int .i64 v4.Seq, .int .i64 v4.Tx, .int .i64 v4.Base]), (.slot 16, [.junk, .junk, .sl true 142 2 (encs (c142 true) v4.Store.Arena.Knots), .int .i64 v4.Store.Next, .int .i64 v4.Seq, .int .i64 v4.Tx, .int .i64 v4.Base]), (.slot 16, [.junk, .junk, .junk, .int .i64 v4.Store.Next, .int .i64 v4.Seq, .int .i64 v4.Tx, .int .i64 v4.Base])] (.box 5) [.sl true 60 3 (encs (c60 true) v4.Flash.Blocks), .sl true 114 2 (encs c114 v4.Store.Vols), .sl true 142 2 (encs (c142 true) v4.Store.Arena.Knots), .int .i64 v4.Store.Next, .int .i64 v4.Seq, .int .i64 v4.Tx, .int .i64 v4.Base] ?_
 refine LWp.nil ?_
 refine Wp.seq ?_
 refine Wp.region ?_
 refine LWp.o 17 (.agg [.view (.box 5) 2 [] 0, .view (.box 5) 2 [] 1, .view (.box 5) 2 [] 2, .int .i64 v4.Store.Next, .int .i64 v4.Seq, .int .i64 v4.Tx, .int .i64 v4.Base]) ?_
 refine LWp.cl h 18 (fun v5 => (B v5)) rfl (l := [.sv (.agg [.sl false 60 3 (shares (encs (c60 true) v4.Flash.Blocks)), .sl false 114 2 (shares (encs c114 v4.Store.Vols)), .sl false 142 2 (shares (encs (c142 true) v4.Store.Arena.Knots)), .int .i64 v4.Store.Next, .int .i64 v4.Seq, .int .i64 v4.Tx, .int .i64 v4.Base])]) rfl (fun v hv => cg (l := [.sv (.agg [.sl false 60 3 (shares (encs (c60 true) v4.Flash.Blocks)), .sl false 114 2 (shares (encs c114 v4.Store.Vols)), .sl false 142 2 (shares (encs (c142 true) v4.Store.Arena.Knots)), .int .i64 v4.Store.Next, .int .i64 v4.Seq, .int .i64 v4.Tx, .int .i64 v4.Base])]) (by simp only [sh60, sh114, sh142]) (i_Bounds_t v4 v hv)) (.inr (fun v => rfl)) ?_
 intro v5 gv5 h
 refine LWp.o 6 (B v5) ?_
 refine LWp.nil ?_
 refine Wp.seq ?_
 refine Wp.seq ?_
 refine Wp.region ?_
 refine LWp.o 19 (B v5) ?_
 refine LWp.o 20 (B v3) ?_
 refine LWp.o 21 (B (!(v5 == v3))) ?_
 refine LWp.nil ?_
 refine Wp.c h (fun h => ?_) (fun h => ?_)
 · refine Wp.seq ?_
   refine Wp.region ?_
   refine LWp.o 2 (B false) ?_
   refine LWp.nil ?_
   cases h
   exact Wp.ret ⟨.inr rfl, _, _, rfl, rfl⟩
 refine Wp.skip ?_
 refine Wp.seq ?_
 refine Wp.seq ?_
 refine Wp.regionK 5 [] mixed (fun c E h => by rcases h with ⟨h | h, _⟩ <;> cases h) ?_
 refine KWp.o 5 0 22 (.agg [.view (.box 5) 2 [] 0, .view (.box 5) 2 [] 1, .view (.box 5) 2 [] 2, .int .i64 v4.Store.Next, .int .i64 v4.Seq, .int .i64 v4.Tx, .int .i64 v4.Base]) ?_
 refine KWp.o 5 1 23 (.agg [.sl false 78 3 (encs (c78 false) xAD.Flash.Blocks), .sl false 116 2 (encs c116 xAD.Store.Vols), .sl false 141 2 (encs (c141 false) xAD.Store.Arena.Knots), .int .i64 xAD.Store.Next, .int .i64 xAD.Seq, .int .i64 xAD.Tx, .int .i64 xAD.Base]) ?_
 refine KWp.w1 2 ?_
 refine KOp.cl h 2 24 (fun v6 => (.agg [.sl true 60 3 (encs (c60 true) v6.Flash.Blocks), .sl true 114 2 (encs c114 v6.Store.Vols), .sl true 142 2 (encs (c142 true) v6.Store.Arena.Knots), .int .i64 v6.Store.Next, .int .i64 v6.Seq, .int .i64 v6.Tx, .int .i64 v6.Base])) rfl rfl (l := [.sv (.agg [.sl false 78 3 (encs (c78 false) xAD.Flash.Blocks), .sl false 116 2 (encs c116 xAD.Store.Vols), .sl false 141 2 (encs (c141 false) xAD.Store.Arena.Knots), .int .i64 xAD.Store.Next, .int .i64 xAD.Seq, .int .i64 xAD.Tx, .int .i64 xAD.Base])]) rfl (fun v hv => w_toDevice_t xAD v hv) (.inl rfl) ?_
 intro v6 gv6 h
 refine KWp.w1 3 ?_
 refine KOp.cl h 3 25 (fun v7 => (B v7)) rfl rfl (l := [.sv (.agg [.sl false 60 3 (shares (encs (c60 true) v4.Flash.Blocks)), .sl false 114 2 (shares (encs c114 v4.Store.Vols)), .sl false 142 2 (shares (encs (c142 true) v4.Store.Arena.Knots)), .int .i64 v4.Store.Next, .int .i64 v4.Seq, .int .i64 v4.Tx, .int .i64 v4.Base]), .sv (.agg [.sl false 60 3 (shares (encs (c60 true) v6.Flash.Blocks)), .sl false 114 2 (shares (encs c114 v6.Store.Vols)), .sl false 142 2 (shares (encs (c142 true) v6.Store.Arena.Knots)), .int .i64 v6.Store.Next, .int .i64 v6.Seq, .int .i64 v6.Tx, .int .i64 v6.Base])]) rfl (fun v hv => cg (l := [.sv (.agg [.sl false 60 3 (shares (encs (c60 true) v4.Flash.Blocks)), .sl false 114 2 (shares (encs c114 v4.Store.Vols)), .sl false 142 2 (shares (encs (c142 true) v4.Store.Arena.Knots)), .int .i64 v4.Store.Next, .int .i64 v4.Seq, .int .i64 v4.Tx, .int .i64 v4.Base]), .sv (.agg [.sl false 60 3 (shares (encs (c60 true) v6.Flash.Blocks)), .sl false 114 2 (shares (encs c114 v6.Store.Vols)), .sl false 142 2 (shares (encs (c142 true) v6.Store.Arena.Knots)), .int .i64 v6.Store.Next, .int .i64 v6.Seq, .int .i64 v6.Tx, .int .i64 v6.Base])]) (by simp only [sh60, sh114, sh142]) (w_eqDevice_t v4 v6 v hv)) (.inr (fun v => rfl)) ?_
 intro v7 gv7 h
 refine KWp.o 5 4 26 (B (!v7)) ?_
 refine KWp.done ?_
 refine Wp.c h (fun h => ?_) (fun h => ?_)
 · refine Wp.seq ?_
   refine Wp.region ?_
   refine LWp.o 2 (B false) ?_
   refine LWp.nil ?_
   cases h
   exact Wp.ret ⟨.inr rfl, _, _, rfl, rfl⟩
 refine Wp.skip ?_
 refine Wp.seq ?_
 refine Wp.region ?_
 refine LWp.o 2 (B true) ?_
 refine LWp.nil ?_
 cases h
 exact Wp.ret ⟨.inr rfl, _, _, rfl, rfl⟩
end Go.TI
