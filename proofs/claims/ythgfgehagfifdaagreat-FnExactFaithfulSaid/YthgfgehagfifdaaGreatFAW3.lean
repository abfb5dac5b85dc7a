/- That they compute it. No condition. -/
import Derived.Test.YthgfgehagfifdaaGreatFAW2
namespace Go.TI
set_option maxRecDepth 100000
open Go Go.Proofs
set_option linter.unusedVariables false
set_option linter.unusedSimpArgs false

def i_UnpackText_H1 (xT : ByteArray) (z1 : ByteArray) : St := mkSt [(0, (Y xT)), (4, (Y z1))] []
def i_UnpackText_H2 (j1 : ByteArray) (z2 : Bool) : St := mkSt [(4, (Y j1)), (46, (B z2))] []
theorem i_UnpackText_t (xT : ByteArray) (r : ByteArray × Bool) (h : i_UnpackText xT = some r) : Gives Tryz.prog 69 [.sv (Y xT)] (.tup [(Y r.1), (B r.2)]) (List.replicate 1 .gone) := by
 unfold i_UnpackText at h
 refine gives_of Tryz.func69 rfl ?_
 rw [Tryz.ntmps69]
 refine Wp.seq (Wp.region ?_)
 refine LWp.o 2 (Y (bs [])) ?_
 refine LWp.o 3 (B false) ?_
 refine LWp.nil ?_
 refine Wp.seq ?_
 refine Wp.seq (Wp.region ?_)
 refine LWp.o 11 (Y xT) ?_
 refine LWp.o 12 (B (seq xT (bs []))) ?_
 refine LWp.nil ?_
 refine Wp.c h (fun h => ?_) (fun h => ?_)
 · refine Wp.seq (Wp.region ?_)
   refine LWp.o 2 (Y (bs [])) ?_
   refine LWp.o 3 (B false) ?_
   refine LWp.nil ?_
   cases h
   exact Wp.ret ⟨.inr rfl, _, _, rfl, rfl⟩
 refine Wp.skip ?_
 refine Wp.seq (Wp.region ?_)
 refine LWp.o 13 (Y xT) ?_
 refine LWp.p h 14 (fun x1 => (Y x1)) ?_ (fun x1 gx1 => st_pure (p_sub gx1))
 intro x1 gx1 h
 refine LWp.o 4 (Y x1) ?_
 refine LWp.nil ?_
 refine Wp.seq ?_
 refine Wp.seq (Wp.region ?_)
 refine LWp.o 15 (Y xT) ?_
 refine LWp.p h 16 (fun x2 => (.one (.int .u8 x2))) ?_ (fun x2 gx2 => st_pure (p_sx gx2))
 intro x2 gx2 h
 refine LWp.o 17 (B (x2 != 114)) ?_
 refine LWp.nil ?_
 refine Wp.j2 h [0, 4] [] (fun a => (i_UnpackText_H1 xT a)) ?_ ?_
 · intro a h hk1
   refine Wp.c h (fun h => ?_) (fun h => ?_)
   · refine Wp.seq (Wp.region ?_)
     refine LWp.o 19 (Y x1) ?_
     refine LWp.cl h 20 (fun v1 => (.tup [(.one (.sl true 172 3 (encs c172 v1.1))), (B v1.2)])) rfl (l := [.sv (.one (.str x1))]) rfl (fun v hv => i_tokensIn_t x1 v hv) (.inl rfl) ?_
     intro v1 gv1 h
     refine LWp.mt 20 18 (.tup [(.one (.sl true 172 3 (encs c172 v1.1))), (B v1.2)]) ?_
     refine LWp.e 18 0 21 (.one (.sl true 172 3 (encs c172 v1.1))) ?_
     refine LWp.e 18 1 22 (B v1.2) ?_
     refine LWp.m true [(.slot 21, [.junk])] 5 (.one (.sl true 172 3 (encs c172 v1.1))) ?_
     refine LWp.o 6 (B v1.2) ?_
     refine LWp.nil ?_
     refine Wp.seq (Wp.region ?_)
     refine LWp.o 24 (.one (.view (.slot 5) 1 [] 0)) ?_
     refine LWp.cl h 25 (fun v2 => (.tup [(Y v2.1), (B v2.2)])) rfl (l := [.sv (.one (.sl false 172 3 (shares (encs c172 v1.1))))]) rfl (fun v hv => cg (l := [.sv (.one (.sl false 172 3 (shares (encs c172 v1.1))))]) (by simp only [sh172]) (i_PlainOf_t v1.1 v hv)) (.inr (fun v => rfl)) ?_
     intro v2 gv2 h
     refine LWp.mt 25 23 (.tup [(Y v2.1), (B v2.2)]) ?_
     refine LWp.e 23 0 26 (Y v2.1) ?_
     refine LWp.e 23 1 27 (B v2.2) ?_
     refine LWp.o 7 (Y v2.1) ?_
     refine LWp.o 8 (B v2.2) ?_
     refine LWp.nil ?_
     refine Wp.seq ?_
     refine Wp.seq (Wp.region ?_)
     refine LWp.o 28 (B v1.2) ?_
     refine LWp.o 29 (B (!v1.2)) ?_
     refine LWp.o 30 (B (!v1.2)) ?_
     refine LWp.sp h 30 (fun h => ?_) (fun h => ?_)
     · refine LWp.sh 31 ?_
       refine LWp.sh 32 ?_
       refine LWp.o 33 (B true) ?_
       refine LWp.nil ?_
       refine Wp.ct ?_
       refine Wp.seq (Wp.region ?_)
       refine LWp.o 2 (Y (bs [])) ?_
       refine LWp.o 3 (B false) ?_
       refine LWp.nil ?_
       cases h
       replace h : some _ = some _ := hk1
       cases h
       exact Wp.ret ⟨.inr rfl, _, _, rfl, rfl⟩
     refine LWp.o 31 (B v2.2) ?_
     refine LWp.o 32 (B (!v2.2)) ?_
     refine LWp.o 33 (B (!v2.2)) ?_
     refine LWp.nil ?_
     refine Wp.c h (fun h => ?_) (fun h => ?_)
     · refine Wp.seq (Wp.region ?_)
       refine LWp.o 2 (Y (bs [])) ?_
       refine LWp.o 3 (B false) ?_
       refine LWp.nil ?_
       cases h
       replace h : some _ = some _ := hk1
       cases h
       exact Wp.ret ⟨.inr rfl, _, _, rfl, rfl⟩
     refine Wp.skip ?_
     refine Wp.region ?_
     refine LWp.o 34 (Y v2.1) ?_
     refine LWp.o 4 (Y v2.1) ?_
     refine LWp.nil ?_
     cases h
     exact ⟨_, rfl, rfl, rfl⟩
   refine Wp.skip ?_
   cases h
   exact ⟨_, rfl, rfl, rfl⟩
 intro j1 h E hE
 refine nt_wp hE ?_
 change Wp _ _ _ (i_UnpackText_H1 xT j1) _
 refine Wp.seq (Wp.region ?_)
 refine LWp.o 36 (Y j1) ?_
 refine LWp.cl h 37 (fun v3 => (.tup [(Y v3.1), (B v3.2)])) rfl (l := [.sv (.one (.str j1))]) rfl (fun v hv => i_PackText_t j1 v hv) (.inl rfl) ?_
 intro v3 gv3 h
 refine LWp.mt 37 35 (.tup [(Y v3.1), (B v3.2)]) ?_
 refine LWp.e 35 0 38 (Y v3.1) ?_
 refine LWp.e 35 1 39 (B v3.2) ?_
 refine LWp.o 9 (Y v3.1) ?_
 refine LWp.o 10 (B v3.2) ?_
 refine LWp.nil ?_
 refine Wp.seq ?_
 refine Wp.seq ?_
 refine Wp.j1 h [4, 46] [] (fun a => (i_UnpackText_H2 j1 a)) ?_ ?_
 · intro a h
   refine Wp.region ?_
   refine LWp.o 40 (B v3.2) ?_
   refine LWp.o 41 (B (!v3.2)) ?_
   refine LWp.o 42 (B (!v3.2)) ?_
   refine LWp.sp h 42 (fun h => ?_) (fun h => ?_)
   · refine LWp.sh 43 ?_
     refine LWp.sh 44 ?_
     refine LWp.sh 45 ?_
     refine LWp.o 46 (B true) ?_
     refine LWp.nil ?_
     cases h
     exact ⟨_, rfl, rfl, rfl⟩
   refine LWp.o 43 (Y v3.1) ?_
   refine LWp.o 44 (Y xT) ?_
   refine LWp.o 45 (B (!(seq v3.1 xT))) ?_
   refine LWp.o 46 (B (!(seq v3.1 xT))) ?_
   refine LWp.nil ?_
   cases h
   exact ⟨_, rfl, rfl, rfl⟩
 intro j2 h E hE
 refine nt_wp hE ?_
 change Wp _ _ _ (i_UnpackText_H2 j1 j2) _
 refine Wp.c h (fun h => ?_) (fun h => ?_)
 · refine Wp.seq (Wp.region ?_)
   refine LWp.o 2 (Y (bs [])) ?_
   refine LWp.o 3 (B false) ?_
   refine LWp.nil ?_
   cases h
   exact Wp.ret ⟨.inr rfl, _, _, rfl, rfl⟩
 refine Wp.skip ?_
 refine Wp.seq (Wp.region ?_)
 refine LWp.o 47 (Y j1) ?_
 refine LWp.o 2 (Y j1) ?_
 refine LWp.o 3 (B true) ?_
 refine LWp.nil ?_
 cases h
 exact Wp.ret ⟨.inr rfl, _, _, rfl, rfl⟩
theorem i_ChunkText_t (xF : Flash) (xChunk : Int) (r : ByteArray × Bool) (h : i_ChunkText xF xChunk = some r) : Gives Tryz.prog 42 [.sv (.agg [.sl false 113 3 (encs (c113 false) xF.Blocks)]), .sv (I xChunk)] (.tup [(Y r.1), (B r.2)]) (List.replicate 2 .gone) := by
 unfold i_ChunkText at h
 refine gives_of Tryz.func42 rfl ?_
 rw [Tryz.ntmps42]
 refine Wp.seq (Wp.region ?_)
 refine LWp.b [] 2 [.sl false 113 3 (encs (c113 false) xF.Blocks)] ?_
 refine LWp.o 4 (Y (bs [])) ?_
 refine LWp.o 5 (B false) ?_
 refine LWp.nil ?_
 refine Wp.seq (Wp.region ?_)
 refine LWp.o 9 (.agg [.sl false 113 3 (encs (c113 false) xF.Blocks)]) ?_
 refine LWp.o 10 (I xChunk) ?_
 refine LWp.cl h 11 (fun v1 => (.tup [(.agg [.int .i64 v1.1.Block, .int .i64 v1.1.Leaf, .int .i64 v1.1.Page.Kind, .int .i64 v1.1.Page.Seq, .int .i64 v1.1.Page.Tx, .int .i64 v1.1.Page.Part, .int .i64 v1.1.Page.Count, .str v1.1.Page.Text]), (B v1.2)])) rfl (l := [.sv (.agg [.sl false 113 3 (encs (c113 false) xF.Blocks)]), .sv (.one (.int .i64 xChunk))]) rfl (fun v hv => i_dataOf_t xF xChunk v hv) (.inl rfl) ?_
 intro v1 gv1 h
 refine LWp.mt 11 8 (.tup [(.agg [.int .i64 v1.1.Block, .int .i64 v1.1.Leaf, .int .i64 v1.1.Page.Kind, .int .i64 v1.1.Page.Seq, .int .i64 v1.1.Page.Tx, .int .i64 v1.1.Page.Part, .int .i64 v1.1.Page.Count, .str v1.1.Page.Text]), (B v1.2)]) ?_
 refine LWp.e 8 0 12 (.agg [.int .i64 v1.1.Block, .int .i64 v1.1.Leaf, .int .i64 v1.1.Page.Kind, .int .i64 v1.1.Page.Seq, .int .i64 v1.1.Page.Tx, .int .i64 v1.1.Page.Part, .int .i64 v1.1.Page.Count, .str v1.1.Page.Text]) ?_
 refine LWp.e 8 1 13 (B v1.2) ?_
 refine LWp.b [] 6 [.int .i64 0, .int .i64 0, .int .i64 0, .int .i64 0, .int .i64 0, .int .i64 0, .int .i64 0, .str (bs [])] ?_
 refine LWp.s [] (.box 6) [.int .i64 v1.1.Block, .int .i64 v1.1.Leaf, .int .i64 v1.1.Page.Kind, .int .i64 v1.1.Page.Seq, .int .i64 v1.1.Page.Tx, .int .i64 v1.1.Page.Part, .int .i64 v1.1.Page.Count, .str v1.1.Page.Text] ?_
 refine LWp.o 7 (B v1.2) ?_
 refine LWp.nil ?_
 refine Wp.seq ?_
 refine Wp.seq (Wp.region ?_)
 refine LWp.o 14 (B v1.2) ?_
 refine LWp.o 15 (B (!v1.2)) ?_
 refine LWp.nil ?_
 refine Wp.c h (fun h => ?_) (fun h => ?_)
 · refine Wp.seq (Wp.region ?_)
   refine LWp.o 4 (Y (bs [])) ?_
   refine LWp.o 5 (B false) ?_
   refine LWp.nil ?_
   cases h
   exact Wp.ret ⟨.inr rfl, _, _, rfl, rfl⟩
 refine Wp.skip ?_
 refine Wp.seq (Wp.region ?_)
 refine LWp.o 16 (.one (.ptr (.box 6) 1 [] 2)) ?_
 refine LWp.o 17 (.one (.ptr (.box 6) 1 [] 7)) ?_
 refine LWp.o 18 (Y v1.1.Page.Text) ?_
 refine LWp.cl h 19 (fun v2 => (.tup [(Y v2.1), (B v2.2)])) rfl (l := [.sv (.one (.str v1.1.Page.Text))]) rfl (fun v hv => i_UnpackText_t v1.1.Page.Text v hv) (.inl rfl) ?_
 intro v2 gv2 h
 refine LWp.e 19 0 20 (Y v2.1) ?_
 refine LWp.e 19 1 21 (B v2.2) ?_
 refine LWp.o 4 (Y v2.1) ?_
 refine LWp.o 5 (B v2.2) ?_
 refine LWp.nil ?_
 cases h
 exact Wp.ret ⟨.inr rfl, _, _, rfl, rfl⟩
set_option maxHeartbeats 4000000 in
theorem i_ReadOf_t (xD : Device) (xVol : Int) (xSector : Int) (r : ByteArray × Bool) (h : i_ReadOf xD xVol xSector = some r) : Gives Tryz.prog 52 [.sv (.agg [.sl false 113 3 (encs (c113 false) xD.Flash.Blocks), .sl false 87 2 (encs c87 xD.Store.Vols), .sl false 175 2 (encs (c175 false) xD.Store.Arena.Knots), .int .i64 xD.Store.Next, .int .i64 xD.Seq, .int .i64 xD.Tx, .int .i64 xD.Base]), .sv (I xVol), .sv (I xSector)] (.tup [(Y r.1), (B r.2)]) (List.replicate 3 .gone) := by
 unfold i_ReadOf at h
 refine gives_of Tryz.func52 rfl ?_
 rw [Tryz.ntmps52]
 refine Wp.seq (Wp.region ?_)
 refine LWp.b [] 3 [.sl false 113 3 (encs (c113 false) xD.Flash.Blocks), .sl false 87 2 (encs c87 xD.Store.Vols), .sl false 175 2 (encs (c175 false) xD.Store.Arena.Knots), .int .i64 xD.Store.Next, .int .i64 xD.Seq, .int .i64 xD.Tx, .int .i64 xD.Base] ?_
 refine LWp.o 6 (Y (bs [])) ?_
 refine LWp.o 7 (B false) ?_
 refine LWp.nil ?_
 refine Wp.seq ?_
 refine Wp.seq (Wp.region ?_)
 refine LWp.o 9 (.one (.ptr (.box 3) 1 [] 1)) ?_
 refine LWp.o 10 (.agg [.sl false 87 2 (encs c87 xD.Store.Vols), .sl false 175 2 (encs (c175 false) xD.Store.Arena.Knots), .int .i64 xD.Store.Next]) ?_
 refine LWp.o 11 (I xVol) ?_
 refine LWp.cl h 12 (fun v1 => (I v1)) rfl (l := [.sv (.agg [.sl false 87 2 (encs c87 xD.Store.Vols), .sl false 175 2 (encs (c175 false) xD.Store.Arena.Knots), .int .i64 xD.Store.Next]), .sv (.one (.int .i64 xVol))]) rfl (fun v hv => i_volAt_t xD.Store xVol v hv) (.inl rfl) ?_
 intro v1 gv1 h
 refine LWp.o 13 (B (decide (v1 < 0))) ?_
 refine LWp.nil ?_
 refine Wp.c h (fun h => ?_) (fun h => ?_)
 · refine Wp.seq (Wp.region ?_)
   refine LWp.o 6 (Y (bs [])) ?_
   refine LWp.o 7 (B false) ?_
   refine LWp.nil ?_
   cases h
   exact Wp.ret ⟨.inr rfl, _, _, rfl, rfl⟩
 refine Wp.skip ?_
 refine Wp.seq (Wp.region ?_)
 refine LWp.o 14 (.one (.ptr (.box 3) 1 [] 1)) ?_
 refine LWp.o 15 (.agg [.sl false 87 2 (encs c87 xD.Store.Vols), .sl false 175 2 (encs (c175 false) xD.Store.Arena.Knots), .int .i64 xD.Store.Next]) ?_
 refine LWp.o 16 (I xVol) ?_
 refine LWp.o 17 (I xSector) ?_
 refine LWp.cl h 18 (fun v2 => (I v2)) rfl (l := [.sv (.agg [.sl false 87 2 (encs c87 xD.Store.Vols), .sl false 175 2 (encs (c175 false) xD.Store.Arena.Knots), .int .i64 xD.Store.Next]), .sv (.one (.int .i64 xVol)), .sv (.one (.int .i64 xSector))]) rfl (fun v hv => i_ChunkOf_t xD.Store xVol xSector v hv) (.inl rfl) ?_
 intro v2 gv2 h
 refine LWp.o 8 (I v2) ?_
 refine LWp.nil ?_
 refine Wp.seq ?_
 refine Wp.seq (Wp.region ?_)
 refine LWp.o 19 (I v2) ?_
 refine LWp.o 20 (B (v2 == 0)) ?_
 refine LWp.nil ?_
 refine Wp.c h (fun h => ?_) (fun h => ?_)
 · refine Wp.seq (Wp.region ?_)
   refine LWp.o 6 (Y (bs [])) ?_
   refine LWp.o 7 (B true) ?_
   refine LWp.nil ?_
   cases h
   exact Wp.ret ⟨.inr rfl, _, _, rfl, rfl⟩
 refine Wp.skip ?_
 refine Wp.seq (Wp.region ?_)
 refine LWp.o 21 (.one (.ptr (.box 3) 1 [] 0)) ?_
 refine LWp.o 22 (.agg [.sl false 113 3 (encs (c113 false) xD.Flash.Blocks)]) ?_
 refine LWp.o 23 (I v2) ?_
 refine LWp.cl h 24 (fun v3 => (.tup [(Y v3.1), (B v3.2)])) rfl (l := [.sv (.agg [.sl false 113 3 (encs (c113 false) xD.Flash.Blocks)]), .sv (.one (.int .i64 v2))]) rfl (fun v hv => i_ChunkText_t xD.Flash v2 v hv) (.inl rfl) ?_
 intro v3 gv3 h
 refine LWp.e 24 0 25 (Y v3.1) ?_
 refine LWp.e 24 1 26 (B v3.2) ?_
 refine LWp.o 6 (Y v3.1) ?_
 refine LWp.o 7 (B v3.2) ?_
 refine LWp.nil ?_
 cases h
 exact Wp.ret ⟨.inr rfl, _, _, rfl, rfl⟩
def i_ModelOfDevice_H1 (xD : Device) (z1 : List Shelf) (z2 : Int) : St := mkSt [(1, (.one (.ptr (.box 1) 0 [] 0))), (3, (.one (.sl true 99 2 (encs (c99 true) z1)))), (12, (.one (.sl false 87 2 (encs c87 xD.Store.Vols)))), (13, (I (ln xD.Store.Vols))), (14, (I z2))] [(.box 1, [.sl false 113 3 (encs (c113 false) xD.Flash.Blocks), .sl false 87 2 (encs c87 xD.Store.Vols), .sl false 175 2 (encs (c175 false) xD.Store.Arena.Knots), .int .i64 xD.Store.Next, .int .i64 xD.Seq, .int .i64 xD.Tx, .int .i64 xD.Base])]
def i_ModelOfDevice_H2 (z3 : List Shelf) : St := mkSt [(3, (.one (.sl true 99 2 (encs (c99 true) z3))))] []
def i_ModelOfDevice_H3 (xD : Device) (yOut1 : List Shelf) (y1 : Int) (x1 : Vol) (z4 : Int) (z5 : List ByteArray) : St := mkSt [(1, (.one (.ptr (.box 1) 0 [] 0))), (3, (.one (.sl true 99 2 (encs (c99 true) yOut1)))), (5, (.one (.ptr (.box 5) 0 [] 0))), (6, (.one (.ptr (.box 6) 0 [] 0))), (12, (.one (.sl false 87 2 (encs c87 xD.Store.Vols)))), (13, (I (ln xD.Store.Vols))), (14, (I y1)), (21, (I z4))] [(.box 1, [.sl false 113 3 (encs (c113 false) xD.Flash.Blocks), .sl false 87 2 (encs c87 xD.Store.Vols), .sl false 175 2 (encs (c175 false) xD.Store.Arena.Knots), .int .i64 xD.Store.Next, .int .i64 xD.Seq, .int .i64 xD.Tx, .int .i64 xD.Base]), (.box 5, [.int .i64 x1.Id, .int .i64 x1.Root]), (.box 6, [.int .i64 x1.Id, .sl true 9 1 (encs c9 z5)])]
def i_ModelOfDevice_H4 (xD : Device) (yOut1 : List Shelf) (y1 : Int) (x1 : Vol) (z6 : List ByteArray) : St := mkSt [(1, (.one (.ptr (.box 1) 0 [] 0))), (3, (.one (.sl true 99 2 (encs (c99 true) yOut1)))), (6, (.one (.ptr (.box 6) 0 [] 0))), (12, (.one (.sl false 87 2 (encs c87 xD.Store.Vols)))), (13, (I (ln xD.Store.Vols))), (14, (I y1))] [(.box 1, [.sl false 113 3 (encs (c113 false) xD.Flash.Blocks), .sl false 87 2 (encs c87 xD.Store.Vols), .sl false 175 2 (encs (c175 false) xD.Store.Arena.Knots), .int .i64 xD.Store.Next, .int .i64 xD.Seq, .int .i64 xD.Tx, .int .i64 xD.Base]), (.box 6, [.int .i64 x1.Id, .sl true 9 1 (encs c9 z6)])]
theorem i_ModelOfDevice_t (xD : Device) (r : List Shelf) (h : i_ModelOfDevice xD = some r) : Gives Tryz.prog 26 [.sv (.agg [.sl false 113 3 (encs (c113 false) xD.Flash.Blocks), .sl false 87 2 (encs c87 xD.Store.Vols), .sl false 175 2 (encs (c175 false) xD.Store.Arena.Knots), .int .i64 xD.Store.Next, .int .i64 xD.Seq, .int .i64 xD.Tx, .int .i64 xD.Base])] (.one (.sl true 99 2 (encs (c99 true) r))) (List.replicate 1 .gone) := by
 unfold i_ModelOfDevice at h
 refine gives_of Tryz.func26 rfl ?_
 rw [Tryz.ntmps26]
 refine Wp.seq (Wp.region ?_)
 refine LWp.b [] 1 [.sl false 113 3 (encs (c113 false) xD.Flash.Blocks), .sl false 87 2 (encs c87 xD.Store.Vols), .sl false 175 2 (encs (c175 false) xD.Store.Arena.Knots), .int .i64 xD.Store.Next, .int .i64 xD.Seq, .int .i64 xD.Tx, .int .i64 xD.Base] ?_
 refine LWp.o 2 (.one (.sl true 99 2 (encs (c99 true) []))) ?_
 refine LWp.nil ?_
 refine Wp.seq (Wp.region ?_)
 refine LWp.o 3 (.one (.sl true 99 2 (encs (c99 true) []))) ?_
 refine LWp.nil ?_
 refine Wp.seq ?_
 refine Wp.seq (Wp.region ?_)
 refine LWp.o 10 (.one (.ptr (.box 1) 1 [] 1)) ?_
 refine LWp.o 11 (.one (.ptr (.box 1) 1 [] 1)) ?_
 refine LWp.o 12 (.one (.sl false 87 2 (encs c87 xD.Store.Vols))) ?_
 refine LWp.o 13 (I (ln xD.Store.Vols)) ?_ (st_pure (p_ln k87 xD.Store.Vols))
 refine LWp.o 14 (I 0) ?_
 refine LWp.nil ?_
 refine Wp.l1 h [1, 3, 12, 13, 14] [.box 1] (fun s => (i_ModelOfDevice_H1 xD s.1 s.2)) [3] [] (fun s => (i_ModelOfDevice_H2 s)) ⟨rfl, rfl⟩ ?_ ?_
 · rintro ⟨yOut1, y1⟩ o (h : i_ModelOfDevice_b1 xD yOut1 y1 = some o)
   unfold i_ModelOfDevice_b1 at h
   change Wp _ _ _ (i_ModelOfDevice_H1 xD yOut1 y1) _
   refine Wp.seq (Wp.region ?_)
   refine LWp.o 15 (B (decide (y1 < (ln xD.Store.Vols)))) ?_
   refine LWp.nil ?_
   refine Wp.seq ?_
   refine Wp.c h (fun h => ?_) (fun h => ?_)
   · refine Wp.skip ?_
     refine Wp.seq ?_
     refine Wp.block ?_
     refine Wp.seq (Wp.region ?_)
     refine LWp.p h 16 (fun _ => (.one (.ptr (.slot 12) 0 [0] (Int.toNat y1 * 2 + 0)))) ?_ (fun x1 gx1 => st_pure (p_ix k87 (.slot 12) [] 0 gx1))
     intro x1 gx1 h
     refine LWp.o 17 (.agg [.int .i64 x1.Id, .int .i64 x1.Root]) ?_ (st_pure (p_le k87 (.slot 12) [0] gx1))
     refine LWp.b [] 5 [.int .i64 0, .int .i64 0] ?_
     refine LWp.s [] (.box 5) [.int .i64 x1.Id, .int .i64 x1.Root] ?_
     refine LWp.nil ?_
     refine Wp.seq (Wp.region ?_)
     refine LWp.o 18 (.one (.ptr (.box 5) 1 [] 0)) ?_
     refine LWp.o 19 (I x1.Id) ?_
     refine LWp.o 20 (.agg [.int .i64 x1.Id, .sl true 9 1 (encs c9 [])]) ?_
     refine LWp.b [] 6 [.int .i64 0, .sl true 9 1 (encs c9 [])] ?_
     refine LWp.sb [(.slot 20, [.int .i64 x1.Id, .junk])] (.box 6) [.int .i64 x1.Id, .sl true 9 1 (encs c9 [])] ?_
     refine LWp.nil ?_
     refine Wp.seq ?_
     refine Wp.seq (Wp.region ?_)
     refine LWp.o 21 (I 0) ?_
     refine LWp.nil ?_
     refine Wp.l1 h [1, 3, 5, 6, 12, 13, 14, 21] [.box 1, .box 5, .box 6] (fun s => (i_ModelOfDevice_H3 xD yOut1 y1 x1 s.1 s.2)) [1, 3, 6, 12, 13, 14] [.box 1, .box 6] (fun s => (i_ModelOfDevice_H4 xD yOut1 y1 x1 s)) ⟨rfl, rfl⟩ ?_ ?_
     · rintro ⟨y2, yS11⟩ o (h : i_ModelOfDevice_b2 xD x1 y2 yS11 = some o)
       unfold i_ModelOfDevice_b2 at h
       change Wp _ _ _ (i_ModelOfDevice_H3 xD yOut1 y1 x1 y2 yS11) _
       refine Wp.seq (Wp.region ?_)
       refine LWp.o 22 (B (decide (y2 < 16))) ?_
       refine LWp.nil ?_
       refine Wp.seq ?_
       refine Wp.c h (fun h => ?_) (fun h => ?_)
       · refine Wp.skip ?_
         refine Wp.seq ?_
         refine Wp.block ?_
         refine Wp.seq (Wp.region ?_)
         refine LWp.o 23 (I y2) ?_
         refine LWp.o 7 (I y2) ?_
         refine LWp.nil ?_
         refine Wp.seq (Wp.region ?_)
         refine LWp.o 25 (.agg [.sl false 113 3 (encs (c113 false) xD.Flash.Blocks), .sl false 87 2 (encs c87 xD.Store.Vols), .sl false 175 2 (encs (c175 false) xD.Store.Arena.Knots), .int .i64 xD.Store.Next, .int .i64 xD.Seq, .int .i64 xD.Tx, .int .i64 xD.Base]) ?_
         refine LWp.o 26 (.one (.ptr (.box 5) 0 [] 0)) ?_
         refine LWp.o 27 (I x1.Id) ?_
         refine LWp.o 28 (I y2) ?_
         refine LWp.cl h 29 (fun v1 => (.tup [(Y v1.1), (B v1.2)])) rfl (l := [.sv (.agg [.sl false 113 3 (encs (c113 false) xD.Flash.Blocks), .sl false 87 2 (encs c87 xD.Store.Vols), .sl false 175 2 (encs (c175 false) xD.Store.Arena.Knots), .int .i64 xD.Store.Next, .int .i64 xD.Seq, .int .i64 xD.Tx, .int .i64 xD.Base]), .sv (.one (.int .i64 x1.Id)), .sv (.one (.int .i64 y2))]) rfl (fun v hv => i_ReadOf_t xD x1.Id y2 v hv) (.inl rfl) ?_
         intro v1 gv1 h
         refine LWp.mt 29 24 (.tup [(Y v1.1), (B v1.2)]) ?_
         refine LWp.e 24 0 30 (Y v1.1) ?_
         refine LWp.e 24 1 31 (B v1.2) ?_
         refine LWp.o 8 (Y v1.1) ?_
         refine LWp.o 9 (B v1.2) ?_
         refine LWp.nil ?_
         refine Wp.region ?_
         refine LWp.o 32 (.one (.ptr (.box 6) 0 [] 1)) ?_
         refine LWp.o 33 (.one (.view (.box 6) 0 [] 1)) ?_
         refine LWp.o 34 (Y v1.1) ?_
         refine LWp.m false [] 35 (.one (.sl true 9 1 (encs c9 [v1.1]))) ?_
         refine LWp.pm h [(.box 6, [.int .i64 x1.Id, .junk])] 36 (fun q1 => (.one (.sl true 9 1 (encs c9 q1)))) ?_ (fun q1 gq1 => s_apl k9 (fun _ => rfl) [(.box 6, [.int .i64 x1.Id, .junk])] yS11 gq1)
         intro q1 gq1 h
         refine LWp.o 37 (.one (.ptr (.box 6) 0 [] 1)) ?_
         refine LWp.s [(.slot 36, [.junk])] (.box 6) [.int .i64 x1.Id, .sl true 9 1 (encs c9 q1)] ?_
         refine LWp.nil ?_
         refine Wp.region ?_
         refine LWp.o 38 (I (ad y2 1)) ?_
         refine LWp.o 21 (I (ad y2 1)) ?_
         refine LWp.nil ?_
         cases h
         exact ⟨_, rfl, rfl, rfl⟩
       refine Wp.exit ?_
       cases h
       exact ⟨_, rfl, rfl, rfl⟩
     intro v2 h E hE
     refine nt_wp hE ?_
     change Wp _ _ _ (i_ModelOfDevice_H4 xD yOut1 y1 x1 v2) _
     refine Wp.region ?_
     refine LWp.o 39 (.one (.view (.slot 3) 0 [] 0)) ?_
     refine LWp.o 40 (.agg [.int .i64 x1.Id, .view (.box 6) 0 [] 1]) ?_
     refine LWp.m false [(.box 6, [.int .i64 x1.Id, .junk])] 41 (.one (.sl true 99 2 (encs (c99 true) [(Shelf.mk x1.Id v2)]))) ?_
     refine LWp.pm h [(.slot 3, [.junk]), (.slot 41, [.sl true 99 2 [.int .i64 ((Shelf.mk x1.Id v2).Vol), .junk]])] 42 (fun q2 => (.one (.sl true 99 2 (encs (c99 true) q2)))) ?_ (fun q2 gq2 => s_ap1 (k99 true) [(.slot 3, [.junk]), (.slot 41, [.sl true 99 2 [.int .i64 ((Shelf.mk x1.Id v2).Vol), .junk]])] yOut1 [(Shelf.mk x1.Id v2)] gq2)
     intro q2 gq2 h
     refine LWp.m true [(.slot 42, [.junk])] 3 (.one (.sl true 99 2 (encs (c99 true) q2))) ?_
     refine LWp.nil ?_
     refine Wp.region ?_
     refine LWp.o 43 (I (ad y1 1)) ?_
     refine LWp.o 14 (I (ad y1 1)) ?_
     refine LWp.nil ?_
     cases h
     exact ⟨_, rfl, rfl, rfl⟩
   refine Wp.exit ?_
   cases h
   exact ⟨_, rfl, rfl, rfl⟩
 intro v3 h E hE
 refine nt_wp hE ?_
 change Wp _ _ _ (i_ModelOfDevice_H2 v3) _
 refine Wp.seq (Wp.region ?_)
 refine LWp.o 44 (.one (.view (.slot 3) 0 [] 0)) ?_
 refine LWp.m true [(.slot 3, [.junk])] 2 (.one (.sl true 99 2 (encs (c99 true) v3))) ?_
 refine LWp.nil ?_
 cases h
 exact Wp.ret ⟨.inr rfl, _, _, rfl, rfl⟩
def i_SameModel_H1 (xA : List Shelf) (xB : List Shelf) (z1 : Int) : St := mkSt [(0, (.one (.sl false 99 2 (encs (c99 false) xA)))), (1, (.one (.sl false 99 2 (encs (c99 false) xB)))), (13, (I (ln xA))), (14, (I z1))] []
def i_SameModel_H2  : St := mkSt [] []
def i_SameModel_H3 (xA : List Shelf) (xB : List Shelf) (y1 : Int) (z2 : Bool) : St := mkSt [(0, (.one (.sl false 99 2 (encs (c99 false) xA)))), (1, (.one (.sl false 99 2 (encs (c99 false) xB)))), (5, (I y1)), (13, (I (ln xA))), (14, (I y1)), (42, (B z2))] []
def i_SameModel_H4 (xA : List Shelf) (xB : List Shelf) (y1 : Int) (x5 : Shelf) (z3 : Int) : St := mkSt [(0, (.one (.sl false 99 2 (encs (c99 false) xA)))), (1, (.one (.sl false 99 2 (encs (c99 false) xB)))), (5, (I y1)), (13, (I (ln xA))), (14, (I y1)), (48, (I (ln x5.Texts))), (49, (I z3))] []
def i_SameModel_H5 (xA : List Shelf) (xB : List Shelf) (y1 : Int) : St := mkSt [(0, (.one (.sl false 99 2 (encs (c99 false) xA)))), (1, (.one (.sl false 99 2 (encs (c99 false) xB)))), (13, (I (ln xA))), (14, (I y1))] []
theorem i_SameModel_t (xA : List Shelf) (xB : List Shelf) (r : Bool) (h : i_SameModel xA xB = some r) : Gives Tryz.prog 25 [.sv (.one (.sl false 99 2 (encs (c99 false) xA))), .sv (.one (.sl false 99 2 (encs (c99 false) xB)))] (B r) (List.replicate 2 .gone) := by
 unfold i_SameModel at h
 refine gives_of Tryz.func25 rfl ?_
 rw [Tryz.ntmps25]
 refine Wp.seq (Wp.region ?_)
 refine LWp.o 4 (B false) ?_
 refine LWp.nil ?_
 refine Wp.seq ?_
 refine Wp.seq (Wp.region ?_)
 refine LWp.o 7 (.one (.sl false 99 2 (encs (c99 false) xA))) ?_
 refine LWp.o 8 (I (ln xA)) ?_ (st_pure (p_ln (k99 false) xA))
 refine LWp.o 9 (.one (.sl false 99 2 (encs (c99 false) xB))) ?_
 refine LWp.o 10 (I (ln xB)) ?_ (st_pure (p_ln (k99 false) xB))
 refine LWp.o 11 (B ((ln xA) != (ln xB))) ?_
 refine LWp.nil ?_
 refine Wp.c h (fun h => ?_) (fun h => ?_)
 · refine Wp.seq (Wp.region ?_)
   refine LWp.o 4 (B false) ?_
   refine LWp.nil ?_
   cases h
   exact Wp.ret ⟨.inr rfl, _, _, rfl, rfl⟩
 refine Wp.skip ?_
 refine Wp.seq ?_
 refine Wp.seq (Wp.region ?_)
 refine LWp.o 12 (.one (.sl false 99 2 (encs (c99 false) xA))) ?_
 refine LWp.o 13 (I (ln xA)) ?_ (st_pure (p_ln (k99 false) xA))
 refine LWp.o 14 (I 0) ?_
 refine LWp.nil ?_
 refine Wp.l2 h [0, 1, 13, 14] [] (fun s => (i_SameModel_H1 xA xB s)) [] [] (fun _ => i_SameModel_H2) ⟨rfl, rfl⟩ ?_ ?_
 · rintro y1 o (h : i_SameModel_b1 xA xB y1 = some o) hk1
   unfold i_SameModel_b1 at h
   change Wp _ _ _ (i_SameModel_H1 xA xB y1) _
   refine Wp.seq (Wp.region ?_)
   refine LWp.o 15 (B (decide (y1 < (ln xA)))) ?_
   refine LWp.nil ?_
   refine Wp.seq ?_
   refine Wp.c h (fun h => ?_) (fun h => ?_)
   · refine Wp.skip ?_
     refine Wp.seq ?_
     refine Wp.block ?_
     refine Wp.seq (Wp.region ?_)
     refine LWp.o 16 (I y1) ?_
     refine LWp.o 5 (I y1) ?_
     refine LWp.nil ?_
     refine Wp.seq ?_
     refine Wp.seq ?_
     refine Wp.j1 h [0, 1, 5, 13, 14, 42] [] (fun a => (i_SameModel_H3 xA xB y1 a)) ?_ ?_
     · intro a h
       refine Wp.regionS mixed (by decide +kernel) ?_
       refine SWp.o 17 (.one (.sl false 99 2 (encs (c99 false) xA))) ?_
       refine SWp.o 18 (I y1) ?_
       refine SWp.p h 19 (fun _ => (.one (.ptr (.slot 17) 1 [0] (Int.toNat y1 * 2 + 0)))) ?_ (fun x1 gx1 => sl_pure (p_ix (k99 false) (.slot 17) [] 0 gx1))
       intro x1 gx1 h
       refine SWp.o 20 (.one (.ptr (.slot 17) 1 [0] (Int.toNat y1 * 2 + 0))) ?_ (sl_pure (p_fa (k99 false) (.slot 17) [0] 0 gx1))
       refine SWp.o 21 (I x1.Vol) ?_ (sl_pure (p_lc (k99 false) (.slot 17) [0] 0 (.int .i64 x1.Vol) gx1))
       refine SWp.o 22 (.one (.sl false 99 2 (encs (c99 false) xB))) ?_
       refine SWp.o 23 (I y1) ?_
       refine SWp.p h 24 (fun _ => (.one (.ptr (.slot 22) 1 [0] (Int.toNat y1 * 2 + 0)))) ?_ (fun x2 gx2 => sl_pure (p_ix (k99 false) (.slot 22) [] 0 gx2))
       intro x2 gx2 h
       refine SWp.o 25 (.one (.ptr (.slot 22) 1 [0] (Int.toNat y1 * 2 + 0))) ?_ (sl_pure (p_fa (k99 false) (.slot 22) [0] 0 gx2))
       refine SWp.o 26 (I x2.Vol) ?_ (sl_pure (p_lc (k99 false) (.slot 22) [0] 0 (.int .i64 x2.Vol) gx2))
       refine SWp.o 27 (B (x1.Vol != x2.Vol)) ?_
       refine SWp.o 28 (B (x1.Vol != x2.Vol)) ?_
       refine SWp.sp h 28 (fun h => ?_) (fun h => ?_)
       · refine SWp.sh 29 ?_
         refine SWp.sh 30 ?_
         refine SWp.sh 31 ?_
         refine SWp.sh 32 ?_
         refine SWp.sh 33 ?_
         refine SWp.sh 34 ?_
         refine SWp.sh 35 ?_
         refine SWp.sh 36 ?_
         refine SWp.sh 37 ?_
         refine SWp.sh 38 ?_
         refine SWp.sh 39 ?_
         refine SWp.sh 40 ?_
         refine SWp.sh 41 ?_
         refine SWp.o 42 (B true) ?_
         refine SWp.nil ?_
         cases h
         exact ⟨_, rfl, rfl, rfl⟩
       refine SWp.o 29 (.one (.sl false 99 2 (encs (c99 false) xA))) ?_
       refine SWp.o 30 (I y1) ?_
       refine SWp.p h 31 (fun _ => (.one (.ptr (.slot 29) 1 [0] (Int.toNat y1 * 2 + 0)))) ?_ (fun x3 gx3 => sl_pure (p_ix (k99 false) (.slot 29) [] 0 gx3))
       intro x3 gx3 h
       refine SWp.o 32 (.one (.ptr (.slot 29) 1 [0] (Int.toNat y1 * 2 + 1))) ?_ (sl_pure (p_fa (k99 false) (.slot 29) [0] 0 gx3))
       refine SWp.o 33 (.one (.sl false 9 1 (encs c9 x3.Texts))) ?_ (sl_pure (p_lc (k99 false) (.slot 29) [0] 1 (.sl false 9 1 (encs c9 x3.Texts)) gx3))
       refine SWp.o 34 (I (ln x3.Texts)) ?_ (sl_pure (p_ln k9 x3.Texts))
       refine SWp.o 35 (.one (.sl false 99 2 (encs (c99 false) xB))) ?_
       refine SWp.o 36 (I y1) ?_
       refine SWp.p h 37 (fun _ => (.one (.ptr (.slot 35) 1 [0] (Int.toNat y1 * 2 + 0)))) ?_ (fun x4 gx4 => sl_pure (p_ix (k99 false) (.slot 35) [] 0 gx4))
       intro x4 gx4 h
       refine SWp.o 38 (.one (.ptr (.slot 35) 1 [0] (Int.toNat y1 * 2 + 1))) ?_ (sl_pure (p_fa (k99 false) (.slot 35) [0] 0 gx4))
       refine SWp.o 39 (.one (.sl false 9 1 (encs c9 x4.Texts))) ?_ (sl_pure (p_lc (k99 false) (.slot 35) [0] 1 (.sl false 9 1 (encs c9 x4.Texts)) gx4))
       refine SWp.o 40 (I (ln x4.Texts)) ?_ (sl_pure (p_ln k9 x4.Texts))
       refine SWp.o 41 (B ((ln x3.Texts) != (ln x4.Texts))) ?_
       refine SWp.o 42 (B ((ln x3.Texts) != (ln x4.Texts))) ?_
       refine SWp.nil ?_
       cases h
       exact ⟨_, rfl, rfl, rfl⟩
     intro j1 h E hE
     refine nt_wp hE ?_
     change Wp _ _ _ (i_SameModel_H3 xA xB y1 j1) _
     refine Wp.c h (fun h => ?_) (fun h => ?_)
     · refine Wp.seq (Wp.region ?_)
       refine LWp.o 4 (B false) ?_
       refine LWp.nil ?_
       cases h
       replace h : some _ = some _ := hk1 _ rfl
       cases h
       exact Wp.ret ⟨.inr rfl, _, _, rfl, rfl⟩
     refine Wp.skip ?_
     refine Wp.seq (Wp.region ?_)
     refine LWp.o 43 (.one (.sl false 99 2 (encs (c99 false) xA))) ?_
     refine LWp.o 44 (I y1) ?_
     refine LWp.p h 45 (fun _ => (.one (.ptr (.slot 43) 1 [0] (Int.toNat y1 * 2 + 0)))) ?_ (fun x5 gx5 => st_pure (p_ix (k99 false) (.slot 43) [] 0 gx5))
     intro x5 gx5 h
     refine LWp.o 46 (.one (.ptr (.slot 43) 1 [0] (Int.toNat y1 * 2 + 1))) ?_ (st_pure (p_fa (k99 false) (.slot 43) [0] 0 gx5))
     refine LWp.o 47 (.one (.sl false 9 1 (encs c9 x5.Texts))) ?_ (st_pure (p_lc (k99 false) (.slot 43) [0] 1 (.sl false 9 1 (encs c9 x5.Texts)) gx5))
     refine LWp.o 48 (I (ln x5.Texts)) ?_ (st_pure (p_ln k9 x5.Texts))
     refine LWp.o 49 (I 0) ?_
     refine LWp.nil ?_
     refine Wp.l2 h [0, 1, 5, 13, 14, 48, 49] [] (fun s => (i_SameModel_H4 xA xB y1 x5 s)) [0, 1, 13, 14] [] (fun _ => (i_SameModel_H5 xA xB y1)) ⟨rfl, rfl⟩ ?_ ?_
     · rintro y2 o (h : i_SameModel_b2 xA xB y1 x5 y2 = some o) hk2
       unfold i_SameModel_b2 at h
       change Wp _ _ _ (i_SameModel_H4 xA xB y1 x5 y2) _
       refine Wp.seq (Wp.region ?_)
       refine LWp.o 50 (B (decide (y2 < (ln x5.Texts)))) ?_
       refine LWp.nil ?_
       refine Wp.seq ?_
       refine Wp.c h (fun h => ?_) (fun h => ?_)
       · refine Wp.skip ?_
         refine Wp.seq ?_
         refine Wp.block ?_
         refine Wp.seq (Wp.region ?_)
         refine LWp.o 51 (I y2) ?_
         refine LWp.o 6 (I y2) ?_
         refine LWp.nil ?_
         refine Wp.seq ?_
         refine Wp.regionS mixed (by decide +kernel) ?_
         refine SWp.o 52 (.one (.sl false 99 2 (encs (c99 false) xA))) ?_
         refine SWp.o 53 (I y1) ?_
         refine SWp.p h 54 (fun _ => (.one (.ptr (.slot 52) 1 [0] (Int.toNat y1 * 2 + 0)))) ?_ (fun x6 gx6 => sl_pure (p_ix (k99 false) (.slot 52) [] 0 gx6))
         intro x6 gx6 h
         refine SWp.o 55 (.one (.ptr (.slot 52) 1 [0] (Int.toNat y1 * 2 + 1))) ?_ (sl_pure (p_fa (k99 false) (.slot 52) [0] 0 gx6))
         refine SWp.o 56 (.one (.sl false 9 1 (encs c9 x6.Texts))) ?_ (sl_pure (p_lc (k99 false) (.slot 52) [0] 1 (.sl false 9 1 (encs c9 x6.Texts)) gx6))
         refine SWp.o 57 (I y2) ?_
         refine SWp.p h 58 (fun _ => (.one (.ptr (.slot 56) 1 [0] (Int.toNat y2 * 1 + 0)))) ?_ (fun x7 gx7 => sl_pure (p_ix k9 (.slot 56) [] 0 gx7))
         intro x7 gx7 h
         refine SWp.o 59 (Y x7) ?_ (sl_pure (p_lc k9 (.slot 56) [0] 0 (.str x7) gx7))
         refine SWp.o 60 (.one (.sl false 99 2 (encs (c99 false) xB))) ?_
         refine SWp.o 61 (I y1) ?_
         refine SWp.p h 62 (fun _ => (.one (.ptr (.slot 60) 1 [0] (Int.toNat y1 * 2 + 0)))) ?_ (fun x8 gx8 => sl_pure (p_ix (k99 false) (.slot 60) [] 0 gx8))
         intro x8 gx8 h
         refine SWp.o 63 (.one (.ptr (.slot 60) 1 [0] (Int.toNat y1 * 2 + 1))) ?_ (sl_pure (p_fa (k99 false) (.slot 60) [0] 0 gx8))
         refine SWp.o 64 (.one (.sl false 9 1 (encs c9 x8.Texts))) ?_ (sl_pure (p_lc (k99 false) (.slot 60) [0] 1 (.sl false 9 1 (encs c9 x8.Texts)) gx8))
         refine SWp.o 65 (I y2) ?_
         refine SWp.p h 66 (fun _ => (.one (.ptr (.slot 64) 1 [0] (Int.toNat y2 * 1 + 0)))) ?_ (fun x9 gx9 => sl_pure (p_ix k9 (.slot 64) [] 0 gx9))
         intro x9 gx9 h
         refine SWp.o 67 (Y x9) ?_ (sl_pure (p_lc k9 (.slot 64) [0] 0 (.str x9) gx9))
         refine SWp.o 68 (B (!(seq x7 x9))) ?_
         refine SWp.nil ?_
         refine Wp.c h (fun h => ?_) (fun h => ?_)
         · refine Wp.seq (Wp.region ?_)
           refine LWp.o 4 (B false) ?_
           refine LWp.nil ?_
           cases h
           replace h : some _ = some _ := hk2 _ rfl
           cases h
           replace h : some _ = some _ := hk1 _ rfl
           cases h
           exact Wp.ret ⟨.inr rfl, _, _, rfl, rfl⟩
         refine Wp.skip ?_
         refine Wp.region ?_
         refine LWp.o 69 (I (ad y2 1)) ?_
         refine LWp.o 49 (I (ad y2 1)) ?_
         refine LWp.nil ?_
         cases h
         exact ⟨_, rfl, rfl, rfl⟩
       refine Wp.exit ?_
       cases h
       exact ⟨_, rfl, rfl, rfl⟩
     intro v1 h E hE
     refine nt_wp hE ?_
     change Wp _ _ _ (i_SameModel_H5 xA xB y1) _
     refine Wp.region ?_
     refine LWp.o 70 (I (ad y1 1)) ?_
     refine LWp.o 14 (I (ad y1 1)) ?_
     refine LWp.nil ?_
     cases h
     exact ⟨_, rfl, rfl, rfl⟩
   refine Wp.exit ?_
   cases h
   exact ⟨_, rfl, rfl, rfl⟩
 intro v2 h E hE
 refine nt_wp hE ?_
 change Wp _ _ _ i_SameModel_H2 _
 refine Wp.seq (Wp.region ?_)
 refine LWp.o 4 (B true) ?_
 refine LWp.nil ?_
 cases h
 exact Wp.ret ⟨.inr rfl, _, _, rfl, rfl⟩
set_option maxHeartbeats 4000000 in
theorem i_Faithful_t (xW : World) (r : Bool) (h : i_Faithful xW = some r) : Gives Tryz.prog 8 [.sv (.agg [.sl false 113 3 (encs (c113 false) xW.Device.Flash.Blocks), .sl false 87 2 (encs c87 xW.Device.Store.Vols), .sl false 175 2 (encs (c175 false) xW.Device.Store.Arena.Knots), .int .i64 xW.Device.Store.Next, .int .i64 xW.Device.Seq, .int .i64 xW.Device.Tx, .int .i64 xW.Device.Base, .sl false 3 1 (encs c3 xW.Codes), .sl false 9 1 (encs c9 xW.Told), .sl false 99 2 (encs (c99 false) xW.Model), .sl false 102 4 (encs c102 xW.Steps)])] (B r) (List.replicate 1 .gone) := by
 unfold i_Faithful at h
 refine gives_of Tryz.func8 rfl ?_
 rw [Tryz.ntmps8]
 refine Wp.seq (Wp.region ?_)
 refine LWp.b [] 1 [.sl false 113 3 (encs (c113 false) xW.Device.Flash.Blocks), .sl false 87 2 (encs c87 xW.Device.Store.Vols), .sl false 175 2 (encs (c175 false) xW.Device.Store.Arena.Knots), .int .i64 xW.Device.Store.Next, .int .i64 xW.Device.Seq, .int .i64 xW.Device.Tx, .int .i64 xW.Device.Base, .sl false 3 1 (encs c3 xW.Codes), .sl false 9 1 (encs c9 xW.Told), .sl false 99 2 (encs (c99 false) xW.Model), .sl false 102 4 (encs c102 xW.Steps)] ?_
 refine LWp.o 2 (B false) ?_
 refine LWp.nil ?_
 refine Wp.seq ?_
 refine Wp.regionK 7 [] mixed (fun c E h => by rcases h with ⟨h | h, _⟩ <;> cases h) ?_
 refine KWp.o 7 0 3 (.one (.ptr (.box 1) 1 [] 9)) ?_
 refine KWp.o 7 1 4 (.one (.sl false 99 2 (encs (c99 false) xW.Model))) ?_
 refine KWp.o 7 2 5 (.one (.ptr (.box 1) 1 [] 0)) ?_
 refine KWp.o 7 3 6 (.agg [.sl false 113 3 (encs (c113 false) xW.Device.Flash.Blocks), .sl false 87 2 (encs c87 xW.Device.Store.Vols), .sl false 175 2 (encs (c175 false) xW.Device.Store.Arena.Knots), .int .i64 xW.Device.Store.Next, .int .i64 xW.Device.Seq, .int .i64 xW.Device.Tx, .int .i64 xW.Device.Base]) ?_
 refine KWp.w1 4 ?_
 refine KOp.cl h 4 7 (fun v1 => (.one (.sl true 99 2 (encs (c99 true) v1)))) rfl rfl (l := [.sv (.agg [.sl false 113 3 (encs (c113 false) xW.Device.Flash.Blocks), .sl false 87 2 (encs c87 xW.Device.Store.Vols), .sl false 175 2 (encs (c175 false) xW.Device.Store.Arena.Knots), .int .i64 xW.Device.Store.Next, .int .i64 xW.Device.Seq, .int .i64 xW.Device.Tx, .int .i64 xW.Device.Base])]) rfl (fun v hv => i_ModelOfDevice_t xW.Device v hv) (.inl rfl) ?_
 intro v1 gv1 h
 refine KWp.w1 5 ?_
 refine KOp.cl h 5 8 (fun v2 => (B v2)) rfl rfl (l := [.sv (.one (.sl false 99 2 (encs (c99 false) xW.Model))), .sv (.one (.sl false 99 2 (shares (encs (c99 true) v1))))]) rfl (fun v hv => cg (l := [.sv (.one (.sl false 99 2 (encs (c99 false) xW.Model))), .sv (.one (.sl false 99 2 (shares (encs (c99 true) v1))))]) (by simp only [sh99]) (i_SameModel_t xW.Model v1 v hv)) (.inr (fun v => rfl)) ?_
 intro v2 gv2 h
 refine KWp.o 7 6 2 (B v2) ?_
 refine KWp.done ?_
 cases h
 exact Wp.ret ⟨.inr rfl, _, _, rfl, rfl⟩
theorem w_eqLeaf_t (xA : Leaf) (xB : Leaf) (r : Bool) (h : w_eqLeaf xA xB = some r) : Gives Tryz.prog 149 [.sv (.agg [.int .i64 xA.Is, .str xA.Text]), .sv (.agg [.int .i64 xB.Is, .str xB.Text])] (B r) (List.replicate 2 .gone) := by
 unfold w_eqLeaf at h
 refine gives_of Tryz.func149 rfl ?_
 rw [Tryz.ntmps149]
 refine Wp.seq (Wp.region ?_)
 refine LWp.b [] 2 [.int .i64 xA.Is, .str xA.Text] ?_
 refine LWp.b [] 3 [.int .i64 xB.Is, .str xB.Text] ?_
 refine LWp.o 4 (B false) ?_
 refine LWp.nil ?_
 refine Wp.seq ?_
 refine Wp.seq (Wp.region ?_)
 refine LWp.o 5 (.one (.ptr (.box 2) 1 [] 0)) ?_
 refine LWp.o 6 (I xA.Is) ?_
 refine LWp.o 7 (.one (.ptr (.box 3) 1 [] 0)) ?_
 refine LWp.o 8 (I xB.Is) ?_
 refine LWp.o 9 (B (xA.Is != xB.Is)) ?_
 refine LWp.nil ?_
 refine Wp.c h (fun h => ?_) (fun h => ?_)
 · refine Wp.seq (Wp.region ?_)
   refine LWp.o 4 (B false) ?_
   refine LWp.nil ?_
   cases h
   exact Wp.ret ⟨.inr rfl, _, _, rfl, rfl⟩
 refine Wp.skip ?_
 refine Wp.seq ?_
 refine Wp.seq (Wp.region ?_)
 refine LWp.o 10 (.one (.ptr (.box 2) 1 [] 1)) ?_
 refine LWp.o 11 (Y xA.Text) ?_
 refine LWp.o 12 (.one (.ptr (.box 3) 1 [] 1)) ?_
 refine LWp.o 13 (Y xB.Text) ?_
 refine LWp.o 14 (B (!(seq xA.Text xB.Text))) ?_
 refine LWp.nil ?_
 refine Wp.c h (fun h => ?_) (fun h => ?_)
 · refine Wp.seq (Wp.region ?_)
   refine LWp.o 4 (B false) ?_
   refine LWp.nil ?_
   cases h
   exact Wp.ret ⟨.inr rfl, _, _, rfl, rfl⟩
 refine Wp.skip ?_
 refine Wp.seq (Wp.region ?_)
 refine LWp.o 4 (B true) ?_
 refine LWp.nil ?_
 cases h
 exact Wp.ret ⟨.inr rfl, _, _, rfl, rfl⟩
def w_eqLeafS_H1 (xA : List Leaf) (xB : List Leaf) (z1 : Int) : St := mkSt [(0, (.one (.sl false 141 2 (encs c141 xA)))), (1, (.one (.sl false 141 2 (encs c141 xB)))), (5, (I z1))] []
def w_eqLeafS_H2  : St := mkSt [] []
theorem w_eqLeafS_t (xA : List Leaf) (xB : List Leaf) (r : Bool) (h : w_eqLeafS xA xB = some r) : Gives Tryz.prog 124 [.sv (.one (.sl false 141 2 (encs c141 xA))), .sv (.one (.sl false 141 2 (encs c141 xB)))] (B r) (List.replicate 2 .gone) := by
 unfold w_eqLeafS at h
 refine gives_of Tryz.func124 rfl ?_
 rw [Tryz.ntmps124]
 refine Wp.seq (Wp.region ?_)
 refine LWp.o 4 (B false) ?_
 refine LWp.nil ?_
 refine Wp.seq ?_
 refine Wp.seq (Wp.region ?_)
 refine LWp.o 6 (.one (.sl false 141 2 (encs c141 xA))) ?_
 refine LWp.o 7 (I (ln xA)) ?_ (st_pure (p_ln k141 xA))
 refine LWp.o 8 (.one (.sl false 141 2 (encs c141 xB))) ?_
 refine LWp.o 9 (I (ln xB)) ?_ (st_pure (p_ln k141 xB))
 refine LWp.o 10 (B ((ln xA) != (ln xB))) ?_
 refine LWp.nil ?_
 refine Wp.c h (fun h => ?_) (fun h => ?_)
 · refine Wp.seq (Wp.region ?_)
   refine LWp.o 4 (B false) ?_
   refine LWp.nil ?_
   cases h
   exact Wp.ret ⟨.inr rfl, _, _, rfl, rfl⟩
 refine Wp.skip ?_
 refine Wp.seq ?_
 refine Wp.seq (Wp.region ?_)
 refine LWp.o 5 (I 0) ?_
 refine LWp.nil ?_
 refine Wp.l2 h [0, 1, 5] [] (fun s => (w_eqLeafS_H1 xA xB s)) [] [] (fun _ => w_eqLeafS_H2) ⟨rfl, rfl⟩ ?_ ?_
 · rintro yI1 o (h : w_eqLeafS_b1 xA xB yI1 = some o) hk1
   unfold w_eqLeafS_b1 at h
   change Wp _ _ _ (w_eqLeafS_H1 xA xB yI1) _
   refine Wp.seq ?_
   refine Wp.seq (Wp.region ?_)
   refine LWp.o 11 (I yI1) ?_
   refine LWp.o 12 (.one (.sl false 141 2 (encs c141 xA))) ?_
   refine LWp.o 13 (I (ln xA)) ?_ (st_pure (p_ln k141 xA))
   refine LWp.o 14 (B (decide (yI1 < (ln xA)))) ?_
   refine LWp.nil ?_
   refine Wp.c h (fun h => ?_) (fun h => ?_)
   · refine Wp.skip ?_
     refine Wp.seq ?_
     refine Wp.block ?_
     refine Wp.seq ?_
     refine Wp.regionT 8 mixed (by decide +kernel) ?_
     refine SWp.o 17 (.one (.sl false 141 2 (encs c141 xA))) ?_
     refine SWp.o 18 (I yI1) ?_
     refine SWp.p h 19 (fun _ => (.one (.ptr (.slot 17) 1 [0] (Int.toNat yI1 * 2 + 0)))) ?_ (fun x1 gx1 => sl_pure (p_ix k141 (.slot 17) [] 0 gx1))
     intro x1 gx1 h
     refine SWp.o 20 (.agg [.int .i64 x1.Is, .str x1.Text]) ?_ (sl_pure (p_le k141 (.slot 17) [0] gx1))
     refine SWp.o 21 (.one (.sl false 141 2 (encs c141 xB))) ?_
     refine SWp.o 22 (I yI1) ?_
     refine SWp.p h 23 (fun _ => (.one (.ptr (.slot 21) 1 [0] (Int.toNat yI1 * 2 + 0)))) ?_ (fun x2 gx2 => sl_pure (p_ix k141 (.slot 21) [] 0 gx2))
     intro x2 gx2 h
     refine SWp.o 24 (.agg [.int .i64 x2.Is, .str x2.Text]) ?_ (sl_pure (p_le k141 (.slot 21) [0] gx2))
     refine SWp.nil ?_
     refine LWp.cl h 25 (fun v1 => (B v1)) rfl (l := [.sv (.agg [.int .i64 x1.Is, .str x1.Text]), .sv (.agg [.int .i64 x2.Is, .str x2.Text])]) rfl (fun v hv => w_eqLeaf_t x1 x2 v hv) (.inl rfl) ?_
     intro v1 gv1 h
     refine LWp.o 26 (B (!v1)) ?_
     refine LWp.nil ?_
     refine Wp.c h (fun h => ?_) (fun h => ?_)
     · refine Wp.seq (Wp.region ?_)
       refine LWp.o 4 (B false) ?_
       refine LWp.nil ?_
       cases h
       replace h : some _ = some _ := hk1 _ rfl
       cases h
       exact Wp.ret ⟨.inr rfl, _, _, rfl, rfl⟩
     refine Wp.skip ?_
     refine Wp.region ?_
     refine LWp.o 15 (I yI1) ?_
     refine LWp.o 16 (I (ad yI1 1)) ?_
     refine LWp.o 5 (I (ad yI1 1)) ?_
     refine LWp.nil ?_
     cases h
     exact ⟨_, rfl, rfl, rfl⟩
   refine Wp.exit ?_
   cases h
   exact ⟨_, rfl, rfl, rfl⟩
 intro v2 h E hE
 refine nt_wp hE ?_
 change Wp _ _ _ w_eqLeafS_H2 _
 refine Wp.seq (Wp.region ?_)
 refine LWp.o 4 (B true) ?_
 refine LWp.nil ?_
 cases h
 exact Wp.ret ⟨.inr rfl, _, _, rfl, rfl⟩
theorem w_eqBlock_t (xA : Block) (xB : Block) (r : Bool) (h : w_eqBlock xA xB = some r) : Gives Tryz.prog 99 [.sv (.agg [.bool xA.Bad, .int .i64 xA.Wear, .sl false 141 2 (encs c141 xA.Leaves)]), .sv (.agg [.bool xB.Bad, .int .i64 xB.Wear, .sl false 141 2 (encs c141 xB.Leaves)])] (B r) (List.replicate 2 .gone) := by
 unfold w_eqBlock at h
 refine gives_of Tryz.func99 rfl ?_
 rw [Tryz.ntmps99]
 refine Wp.seq (Wp.region ?_)
 refine LWp.b [] 2 [.bool xA.Bad, .int .i64 xA.Wear, .sl false 141 2 (encs c141 xA.Leaves)] ?_
 refine LWp.b [] 3 [.bool xB.Bad, .int .i64 xB.Wear, .sl false 141 2 (encs c141 xB.Leaves)] ?_
 refine LWp.o 4 (B false) ?_
 refine LWp.nil ?_
 refine Wp.seq ?_
 refine Wp.seq (Wp.region ?_)
 refine LWp.o 5 (.one (.ptr (.box 2) 1 [] 0)) ?_
 refine LWp.o 6 (B xA.Bad) ?_
 refine LWp.o 7 (.one (.ptr (.box 3) 1 [] 0)) ?_
 refine LWp.o 8 (B xB.Bad) ?_
 refine LWp.o 9 (B (!(xA.Bad == xB.Bad))) ?_
 refine LWp.nil ?_
 refine Wp.c h (fun h => ?_) (fun h => ?_)
 · refine Wp.seq (Wp.region ?_)
   refine LWp.o 4 (B false) ?_
   refine LWp.nil ?_
   cases h
   exact Wp.ret ⟨.inr rfl, _, _, rfl, rfl⟩
 refine Wp.skip ?_
 refine Wp.seq ?_
 refine Wp.seq (Wp.region ?_)
 refine LWp.o 10 (.one (.ptr (.box 2) 1 [] 1)) ?_
 refine LWp.o 11 (I xA.Wear) ?_
 refine LWp.o 12 (.one (.ptr (.box 3) 1 [] 1)) ?_
 refine LWp.o 13 (I xB.Wear) ?_
 refine LWp.o 14 (B (xA.Wear != xB.Wear)) ?_
 refine LWp.nil ?_
 refine Wp.c h (fun h => ?_) (fun h => ?_)
 · refine Wp.seq (Wp.region ?_)
   refine LWp.o 4 (B false) ?_
   refine LWp.nil ?_
   cases h
   exact Wp.ret ⟨.inr rfl, _, _, rfl, rfl⟩
 refine Wp.skip ?_
 refine Wp.seq ?_
 refine Wp.seq (Wp.region ?_)
 refine LWp.o 15 (.one (.ptr (.box 2) 1 [] 2)) ?_
 refine LWp.o 16 (.one (.sl false 141 2 (encs c141 xA.Leaves))) ?_
 refine LWp.o 17 (.one (.ptr (.box 3) 1 [] 2)) ?_
 refine LWp.o 18 (.one (.sl false 141 2 (encs c141 xB.Leaves))) ?_
 refine LWp.cl h 19 (fun v1 => (B v1)) rfl (l := [.sv (.one (.sl false 141 2 (encs c141 xA.Leaves))), .sv (.one (.sl false 141 2 (encs c141 xB.Leaves)))]) rfl (fun v hv => w_eqLeafS_t xA.Leaves xB.Leaves v hv) (.inl rfl) ?_
 intro v1 gv1 h
 refine LWp.o 20 (B (!v1)) ?_
 refine LWp.nil ?_
 refine Wp.c h (fun h => ?_) (fun h => ?_)
 · refine Wp.seq (Wp.region ?_)
   refine LWp.o 4 (B false) ?_
   refine LWp.nil ?_
   cases h
   exact Wp.ret ⟨.inr rfl, _, _, rfl, rfl⟩
 refine Wp.skip ?_
 refine Wp.seq (Wp.region ?_)
 refine LWp.o 4 (B true) ?_
 refine LWp.nil ?_
 cases h
 exact Wp.ret ⟨.inr rfl, _, _, rfl, rfl⟩
def w_eqBlockS_H1 (xA : List Block) (xB : List Block) (z1 : Int) : St := mkSt [(0, (.one (.sl false 113 3 (encs (c113 false) xA)))), (1, (.one (.sl false 113 3 (encs (c113 false) xB)))), (5, (I z1))] []
def w_eqBlockS_H2  : St := mkSt [] []
theorem w_eqBlockS_t (xA : List Block) (xB : List Block) (r : Bool) (h : w_eqBlockS xA xB = some r) : Gives Tryz.prog 71 [.sv (.one (.sl false 113 3 (encs (c113 false) xA))), .sv (.one (.sl false 113 3 (encs (c113 false) xB)))] (B r) (List.replicate 2 .gone) := by
 unfold w_eqBlockS at h
 refine gives_of Tryz.func71 rfl ?_
 rw [Tryz.ntmps71]
 refine Wp.seq (Wp.region ?_)
 refine LWp.o 4 (B false) ?_
 refine LWp.nil ?_
 refine Wp.seq ?_
 refine Wp.seq (Wp.region ?_)
 refine LWp.o 6 (.one (.sl false 113 3 (encs (c113 false) xA))) ?_
 refine LWp.o 7 (I (ln xA)) ?_ (st_pure (p_ln (k113 false) xA))
 refine LWp.o 8 (.one (.sl false 113 3 (encs (c113 false) xB))) ?_
 refine LWp.o 9 (I (ln xB)) ?_ (st_pure (p_ln (k113 false) xB))
 refine LWp.o 10 (B ((ln xA) != (ln xB))) ?_
 refine LWp.nil ?_
 refine Wp.c h (fun h => ?_) (fun h => ?_)
 · refine Wp.seq (Wp.region ?_)
   refine LWp.o 4 (B false) ?_
   refine LWp.nil ?_
   cases h
   exact Wp.ret ⟨.inr rfl, _, _, rfl, rfl⟩
 refine Wp.skip ?_
 refine Wp.seq ?_
 refine Wp.seq (Wp.region ?_)
 refine LWp.o 5 (I 0) ?_
 refine LWp.nil ?_
 refine Wp.l2 h [0, 1, 5] [] (fun s => (w_eqBlockS_H1 xA xB s)) [] [] (fun _ => w_eqBlockS_H2) ⟨rfl, rfl⟩ ?_ ?_
 · rintro yI1 o (h : w_eqBlockS_b1 xA xB yI1 = some o) hk1
   unfold w_eqBlockS_b1 at h
   change Wp _ _ _ (w_eqBlockS_H1 xA xB yI1) _
   refine Wp.seq ?_
   refine Wp.seq (Wp.region ?_)
   refine LWp.o 11 (I yI1) ?_
   refine LWp.o 12 (.one (.sl false 113 3 (encs (c113 false) xA))) ?_
   refine LWp.o 13 (I (ln xA)) ?_ (st_pure (p_ln (k113 false) xA))
   refine LWp.o 14 (B (decide (yI1 < (ln xA)))) ?_
   refine LWp.nil ?_
   refine Wp.c h (fun h => ?_) (fun h => ?_)
   · refine Wp.skip ?_
     refine Wp.seq ?_
     refine Wp.block ?_
     refine Wp.seq ?_
     refine Wp.regionT 8 mixed (by decide +kernel) ?_
     refine SWp.o 17 (.one (.sl false 113 3 (encs (c113 false) xA))) ?_
     refine SWp.o 18 (I yI1) ?_
     refine SWp.p h 19 (fun _ => (.one (.ptr (.slot 17) 1 [0] (Int.toNat yI1 * 3 + 0)))) ?_ (fun x1 gx1 => sl_pure (p_ix (k113 false) (.slot 17) [] 0 gx1))
     intro x1 gx1 h
     refine SWp.o 20 (.agg [.bool x1.Bad, .int .i64 x1.Wear, .sl false 141 2 (encs c141 x1.Leaves)]) ?_ (sl_pure (p_le (k113 false) (.slot 17) [0] gx1))
     refine SWp.o 21 (.one (.sl false 113 3 (encs (c113 false) xB))) ?_
     refine SWp.o 22 (I yI1) ?_
     refine SWp.p h 23 (fun _ => (.one (.ptr (.slot 21) 1 [0] (Int.toNat yI1 * 3 + 0)))) ?_ (fun x2 gx2 => sl_pure (p_ix (k113 false) (.slot 21) [] 0 gx2))
     intro x2 gx2 h
     refine SWp.o 24 (.agg [.bool x2.Bad, .int .i64 x2.Wear, .sl false 141 2 (encs c141 x2.Leaves)]) ?_ (sl_pure (p_le (k113 false) (.slot 21) [0] gx2))
     refine SWp.nil ?_
     refine LWp.cl h 25 (fun v1 => (B v1)) rfl (l := [.sv (.agg [.bool x1.Bad, .int .i64 x1.Wear, .sl false 141 2 (encs c141 x1.Leaves)]), .sv (.agg [.bool x2.Bad, .int .i64 x2.Wear, .sl false 141 2 (encs c141 x2.Leaves)])]) rfl (fun v hv => w_eqBlock_t x1 x2 v hv) (.inl rfl) ?_
     intro v1 gv1 h
     refine LWp.o 26 (B (!v1)) ?_
     refine LWp.nil ?_
     refine Wp.c h (fun h => ?_) (fun h => ?_)
     · refine Wp.seq (Wp.region ?_)
       refine LWp.o 4 (B false) ?_
       refine LWp.nil ?_
       cases h
       replace h : some _ = some _ := hk1 _ rfl
       cases h
       exact Wp.ret ⟨.inr rfl, _, _, rfl, rfl⟩
     refine Wp.skip ?_
     refine Wp.region ?_
     refine LWp.o 15 (I yI1) ?_
     refine LWp.o 16 (I (ad yI1 1)) ?_
     refine LWp.o 5 (I (ad yI1 1)) ?_
     refine LWp.nil ?_
     cases h
     exact ⟨_, rfl, rfl, rfl⟩
   refine Wp.exit ?_
   cases h
   exact ⟨_, rfl, rfl, rfl⟩
 intro v2 h E hE
 refine nt_wp hE ?_
 change Wp _ _ _ w_eqBlockS_H2 _
 refine Wp.seq (Wp.region ?_)
 refine LWp.o 4 (B true) ?_
 refine LWp.nil ?_
 cases h
 exact Wp.ret ⟨.inr rfl, _, _, rfl, rfl⟩
theorem w_eqFlash_t (xA : Flash) (xB : Flash) (r : Bool) (h : w_eqFlash xA xB = some r) : Gives Tryz.prog 44 [.sv (.agg [.sl false 113 3 (encs (c113 false) xA.Blocks)]), .sv (.agg [.sl false 113 3 (encs (c113 false) xB.Blocks)])] (B r) (List.replicate 2 .gone) := by
 unfold w_eqFlash at h
 refine gives_of Tryz.func44 rfl ?_
 rw [Tryz.ntmps44]
 refine Wp.seq (Wp.region ?_)
 refine LWp.b [] 2 [.sl false 113 3 (encs (c113 false) xA.Blocks)] ?_
 refine LWp.b [] 3 [.sl false 113 3 (encs (c113 false) xB.Blocks)] ?_
 refine LWp.o 4 (B false) ?_
 refine LWp.nil ?_
 refine Wp.seq ?_
 refine Wp.seq (Wp.region ?_)
 refine LWp.o 5 (.one (.ptr (.box 2) 1 [] 0)) ?_
 refine LWp.o 6 (.one (.sl false 113 3 (encs (c113 false) xA.Blocks))) ?_
 refine LWp.o 7 (.one (.ptr (.box 3) 1 [] 0)) ?_
 refine LWp.o 8 (.one (.sl false 113 3 (encs (c113 false) xB.Blocks))) ?_
 refine LWp.cl h 9 (fun v1 => (B v1)) rfl (l := [.sv (.one (.sl false 113 3 (encs (c113 false) xA.Blocks))), .sv (.one (.sl false 113 3 (encs (c113 false) xB.Blocks)))]) rfl (fun v hv => w_eqBlockS_t xA.Blocks xB.Blocks v hv) (.inl rfl) ?_
 intro v1 gv1 h
 refine LWp.o 10 (B (!v1)) ?_
 refine LWp.nil ?_
 refine Wp.c h (fun h => ?_) (fun h => ?_)
 · refine Wp.seq (Wp.region ?_)
   refine LWp.o 4 (B false) ?_
   refine LWp.nil ?_
   cases h
   exact Wp.ret ⟨.inr rfl, _, _, rfl, rfl⟩
 refine Wp.skip ?_
 refine Wp.seq (Wp.region ?_)
 refine LWp.o 4 (B true) ?_
 refine LWp.nil ?_
 cases h
 exact Wp.ret ⟨.inr rfl, _, _, rfl, rfl⟩
theorem w_eqVol_t (xA : Vol) (xB : Vol) (r : Bool) (h : w_eqVol xA xB = some r) : Gives Tryz.prog 100 [.sv (.agg [.int .i64 xA.Id, .int .i64 xA.Root]), .sv (.agg [.int .i64 xB.Id, .int .i64 xB.Root])] (B r) (List.replicate 2 .gone) := by
 unfold w_eqVol at h
 refine gives_of Tryz.func100 rfl ?_
 rw [Tryz.ntmps100]
 refine Wp.seq (Wp.region ?_)
 refine LWp.b [] 2 [.int .i64 xA.Id, .int .i64 xA.Root] ?_
 refine LWp.b [] 3 [.int .i64 xB.Id, .int .i64 xB.Root] ?_
 refine LWp.o 4 (B false) ?_
 refine LWp.nil ?_
 refine Wp.seq ?_
 refine Wp.seq (Wp.region ?_)
 refine LWp.o 5 (.one (.ptr (.box 2) 1 [] 0)) ?_
 refine LWp.o 6 (I xA.Id) ?_
 refine LWp.o 7 (.one (.ptr (.box 3) 1 [] 0)) ?_
 refine LWp.o 8 (I xB.Id) ?_
 refine LWp.o 9 (B (xA.Id != xB.Id)) ?_
 refine LWp.nil ?_
 refine Wp.c h (fun h => ?_) (fun h => ?_)
 · refine Wp.seq (Wp.region ?_)
   refine LWp.o 4 (B false) ?_
   refine LWp.nil ?_
   cases h
   exact Wp.ret ⟨.inr rfl, _, _, rfl, rfl⟩
 refine Wp.skip ?_
 refine Wp.seq ?_
 refine Wp.seq (Wp.region ?_)
 refine LWp.o 10 (.one (.ptr (.box 2) 1 [] 1)) ?_
 refine LWp.o 11 (I xA.Root) ?_
 refine LWp.o 12 (.one (.ptr (.box 3) 1 [] 1)) ?_
 refine LWp.o 13 (I xB.Root) ?_
 refine LWp.o 14 (B (xA.Root != xB.Root)) ?_
 refine LWp.nil ?_
 refine Wp.c h (fun h => ?_) (fun h => ?_)
 · refine Wp.seq (Wp.region ?_)
   refine LWp.o 4 (B false) ?_
   refine LWp.nil ?_
   cases h
   exact Wp.ret ⟨.inr rfl, _, _, rfl, rfl⟩
 refine Wp.skip ?_
 refine Wp.seq (Wp.region ?_)
 refine LWp.o 4 (B true) ?_
 refine LWp.nil ?_
 cases h
 exact Wp.ret ⟨.inr rfl, _, _, rfl, rfl⟩
def w_eqVolS_H1 (xA : List Vol) (xB : List Vol) (z1 : Int) : St := mkSt [(0, (.one (.sl false 87 2 (encs c87 xA)))), (1, (.one (.sl false 87 2 (encs c87 xB)))), (5, (I z1))] []
def w_eqVolS_H2  : St := mkSt [] []
theorem w_eqVolS_t (xA : List Vol) (xB : List Vol) (r : Bool) (h : w_eqVolS xA xB = some r) : Gives Tryz.prog 72 [.sv (.one (.sl false 87 2 (encs c87 xA))), .sv (.one (.sl false 87 2 (encs c87 xB)))] (B r) (List.replicate 2 .gone) := by
 unfold w_eqVolS at h
 refine gives_of Tryz.func72 rfl ?_
 rw [Tryz.ntmps72]
 refine Wp.seq (Wp.region ?_)
 refine LWp.o 4 (B false) ?_
 refine LWp.nil ?_
 refine Wp.seq ?_
 refine Wp.seq (Wp.region ?_)
 refine LWp.o 6 (.one (.sl false 87 2 (encs c87 xA))) ?_
 refine LWp.o 7 (I (ln xA)) ?_ (st_pure (p_ln k87 xA))
 refine LWp.o 8 (.one (.sl false 87 2 (encs c87 xB))) ?_
 refine LWp.o 9 (I (ln xB)) ?_ (st_pure (p_ln k87 xB))
 refine LWp.o 10 (B ((ln xA) != (ln xB))) ?_
 refine LWp.nil ?_
 refine Wp.c h (fun h => ?_) (fun h => ?_)
 · refine Wp.seq (Wp.region ?_)
   refine LWp.o 4 (B false) ?_
   refine LWp.nil ?_
   cases h
   exact Wp.ret ⟨.inr rfl, _, _, rfl, rfl⟩
 refine Wp.skip ?_
 refine Wp.seq ?_
 refine Wp.seq (Wp.region ?_)
 refine LWp.o 5 (I 0) ?_
 refine LWp.nil ?_
 refine Wp.l2 h [0, 1, 5] [] (fun s => (w_eqVolS_H1 xA xB s)) [] [] (fun _ => w_eqVolS_H2) ⟨rfl, rfl⟩ ?_ ?_
 · rintro yI1 o (h : w_eqVolS_b1 xA xB yI1 = some o) hk1
   unfold w_eqVolS_b1 at h
   change Wp _ _ _ (w_eqVolS_H1 xA xB yI1) _
   refine Wp.seq ?_
   refine Wp.seq (Wp.region ?_)
   refine LWp.o 11 (I yI1) ?_
   refine LWp.o 12 (.one (.sl false 87 2 (encs c87 xA))) ?_
   refine LWp.o 13 (I (ln xA)) ?_ (st_pure (p_ln k87 xA))
   refine LWp.o 14 (B (decide (yI1 < (ln xA)))) ?_
   refine LWp.nil ?_
   refine Wp.c h (fun h => ?_) (fun h => ?_)
   · refine Wp.skip ?_
     refine Wp.seq ?_
     refine Wp.block ?_
     refine Wp.seq ?_
     refine Wp.regionT 8 mixed (by decide +kernel) ?_
     refine SWp.o 17 (.one (.sl false 87 2 (encs c87 xA))) ?_
     refine SWp.o 18 (I yI1) ?_
     refine SWp.p h 19 (fun _ => (.one (.ptr (.slot 17) 1 [0] (Int.toNat yI1 * 2 + 0)))) ?_ (fun x1 gx1 => sl_pure (p_ix k87 (.slot 17) [] 0 gx1))
     intro x1 gx1 h
     refine SWp.o 20 (.agg [.int .i64 x1.Id, .int .i64 x1.Root]) ?_ (sl_pure (p_le k87 (.slot 17) [0] gx1))
     refine SWp.o 21 (.one (.sl false 87 2 (encs c87 xB))) ?_
     refine SWp.o 22 (I yI1) ?_
     refine SWp.p h 23 (fun _ => (.one (.ptr (.slot 21) 1 [0] (Int.toNat yI1 * 2 + 0)))) ?_ (fun x2 gx2 => sl_pure (p_ix k87 (.slot 21) [] 0 gx2))
     intro x2 gx2 h
     refine SWp.o 24 (.agg [.int .i64 x2.Id, .int .i64 x2.Root]) ?_ (sl_pure (p_le k87 (.slot 21) [0] gx2))
     refine SWp.nil ?_
     refine LWp.cl h 25 (fun v1 => (B v1)) rfl (l := [.sv (.agg [.int .i64 x1.Id, .int .i64 x1.Root]), .sv (.agg [.int .i64 x2.Id, .int .i64 x2.Root])]) rfl (fun v hv => w_eqVol_t x1 x2 v hv) (.inl rfl) ?_
     intro v1 gv1 h
     refine LWp.o 26 (B (!v1)) ?_
     refine LWp.nil ?_
     refine Wp.c h (fun h => ?_) (fun h => ?_)
     · refine Wp.seq (Wp.region ?_)
       refine LWp.o 4 (B false) ?_
       refine LWp.nil ?_
       cases h
       replace h : some _ = some _ := hk1 _ rfl
       cases h
       exact Wp.ret ⟨.inr rfl, _, _, rfl, rfl⟩
     refine Wp.skip ?_
     refine Wp.region ?_
     refine LWp.o 15 (I yI1) ?_
     refine LWp.o 16 (I (ad yI1 1)) ?_
     refine LWp.o 5 (I (ad yI1 1)) ?_
     refine LWp.nil ?_
     cases h
     exact ⟨_, rfl, rfl, rfl⟩
   refine Wp.exit ?_
   cases h
   exact ⟨_, rfl, rfl, rfl⟩
 intro v2 h E hE
 refine nt_wp hE ?_
 change Wp _ _ _ w_eqVolS_H2 _
 refine Wp.seq (Wp.region ?_)
 refine LWp.o 4 (B true) ?_
 refine LWp.nil ?_
 cases h
 exact Wp.ret ⟨.inr rfl, _, _, rfl, rfl⟩
def w_eqIntS_H1 (xA : List Int) (xB : List Int) (z1 : Int) : St := mkSt [(0, (.one (.sl false 3 1 (encs c3 xA)))), (1, (.one (.sl false 3 1 (encs c3 xB)))), (5, (I z1))] []
def w_eqIntS_H2  : St := mkSt [] []
theorem w_eqIntS_t (xA : List Int) (xB : List Int) (r : Bool) (h : w_eqIntS xA xB = some r) : Gives Tryz.prog 27 [.sv (.one (.sl false 3 1 (encs c3 xA))), .sv (.one (.sl false 3 1 (encs c3 xB)))] (B r) (List.replicate 2 .gone) := by
 unfold w_eqIntS at h
 refine gives_of Tryz.func27 rfl ?_
 rw [Tryz.ntmps27]
 refine Wp.seq (Wp.region ?_)
 refine LWp.o 4 (B false) ?_
 refine LWp.nil ?_
 refine Wp.seq ?_
 refine Wp.seq (Wp.region ?_)
 refine LWp.o 6 (.one (.sl false 3 1 (encs c3 xA))) ?_
 refine LWp.o 7 (I (ln xA)) ?_ (st_pure (p_ln k3 xA))
 refine LWp.o 8 (.one (.sl false 3 1 (encs c3 xB))) ?_
 refine LWp.o 9 (I (ln xB)) ?_ (st_pure (p_ln k3 xB))
 refine LWp.o 10 (B ((ln xA) != (ln xB))) ?_
 refine LWp.nil ?_
 refine Wp.c h (fun h => ?_) (fun h => ?_)
 · refine Wp.seq (Wp.region ?_)
   refine LWp.o 4 (B false) ?_
   refine LWp.nil ?_
   cases h
   exact Wp.ret ⟨.inr rfl, _, _, rfl, rfl⟩
 refine Wp.skip ?_
 refine Wp.seq ?_
 refine Wp.seq (Wp.region ?_)
 refine LWp.o 5 (I 0) ?_
 refine LWp.nil ?_
 refine Wp.l2 h [0, 1, 5] [] (fun s => (w_eqIntS_H1 xA xB s)) [] [] (fun _ => w_eqIntS_H2) ⟨rfl, rfl⟩ ?_ ?_
 · rintro yI1 o (h : w_eqIntS_b1 xA xB yI1 = some o) hk1
   unfold w_eqIntS_b1 at h
   change Wp _ _ _ (w_eqIntS_H1 xA xB yI1) _
   refine Wp.seq ?_
   refine Wp.seq (Wp.region ?_)
   refine LWp.o 11 (I yI1) ?_
   refine LWp.o 12 (.one (.sl false 3 1 (encs c3 xA))) ?_
   refine LWp.o 13 (I (ln xA)) ?_ (st_pure (p_ln k3 xA))
   refine LWp.o 14 (B (decide (yI1 < (ln xA)))) ?_
   refine LWp.nil ?_
   refine Wp.c h (fun h => ?_) (fun h => ?_)
   · refine Wp.skip ?_
     refine Wp.seq ?_
     refine Wp.block ?_
     refine Wp.seq ?_
     refine Wp.regionS mixed (by decide +kernel) ?_
     refine SWp.o 17 (.one (.sl false 3 1 (encs c3 xA))) ?_
     refine SWp.o 18 (I yI1) ?_
     refine SWp.p h 19 (fun _ => (.one (.ptr (.slot 17) 1 [0] (Int.toNat yI1 * 1 + 0)))) ?_ (fun x1 gx1 => sl_pure (p_ix k3 (.slot 17) [] 0 gx1))
     intro x1 gx1 h
     refine SWp.o 20 (I x1) ?_ (sl_pure (p_lc k3 (.slot 17) [0] 0 (.int .i64 x1) gx1))
     refine SWp.o 21 (.one (.sl false 3 1 (encs c3 xB))) ?_
     refine SWp.o 22 (I yI1) ?_
     refine SWp.p h 23 (fun _ => (.one (.ptr (.slot 21) 1 [0] (Int.toNat yI1 * 1 + 0)))) ?_ (fun x2 gx2 => sl_pure (p_ix k3 (.slot 21) [] 0 gx2))
     intro x2 gx2 h
     refine SWp.o 24 (I x2) ?_ (sl_pure (p_lc k3 (.slot 21) [0] 0 (.int .i64 x2) gx2))
     refine SWp.o 25 (B (x1 != x2)) ?_
     refine SWp.nil ?_
     refine Wp.c h (fun h => ?_) (fun h => ?_)
     · refine Wp.seq (Wp.region ?_)
       refine LWp.o 4 (B false) ?_
       refine LWp.nil ?_
       cases h
       replace h : some _ = some _ := hk1 _ rfl
       cases h
       exact Wp.ret ⟨.inr rfl, _, _, rfl, rfl⟩
     refine Wp.skip ?_
     refine Wp.region ?_
     refine LWp.o 15 (I yI1) ?_
     refine LWp.o 16 (I (ad yI1 1)) ?_
     refine LWp.o 5 (I (ad yI1 1)) ?_
     refine LWp.nil ?_
     cases h
     exact ⟨_, rfl, rfl, rfl⟩
   refine Wp.exit ?_
   cases h
   exact ⟨_, rfl, rfl, rfl⟩
 intro v1 h E hE
 refine nt_wp hE ?_
 change Wp _ _ _ w_eqIntS_H2 _
 refine Wp.seq (Wp.region ?_)
 refine LWp.o 4 (B true) ?_
 refine LWp.nil ?_
 cases h
 exact Wp.ret ⟨.inr rfl, _, _, rfl, rfl⟩
theorem w_eqKnot_t (xA : Knot) (xB : Knot) (r : Bool) (h : w_eqKnot xA xB = some r) : Gives Tryz.prog 125 [.sv (.agg [.bool xA.Leaf, .sl false 3 1 (encs c3 xA.Kids)]), .sv (.agg [.bool xB.Leaf, .sl false 3 1 (encs c3 xB.Kids)])] (B r) (List.replicate 2 .gone) := by
 unfold w_eqKnot at h
 refine gives_of Tryz.func125 rfl ?_
 rw [Tryz.ntmps125]
 refine Wp.seq (Wp.region ?_)
 refine LWp.b [] 2 [.bool xA.Leaf, .sl false 3 1 (encs c3 xA.Kids)] ?_
 refine LWp.b [] 3 [.bool xB.Leaf, .sl false 3 1 (encs c3 xB.Kids)] ?_
 refine LWp.o 4 (B false) ?_
 refine LWp.nil ?_
 refine Wp.seq ?_
 refine Wp.seq (Wp.region ?_)
 refine LWp.o 5 (.one (.ptr (.box 2) 1 [] 0)) ?_
 refine LWp.o 6 (B xA.Leaf) ?_
 refine LWp.o 7 (.one (.ptr (.box 3) 1 [] 0)) ?_
 refine LWp.o 8 (B xB.Leaf) ?_
 refine LWp.o 9 (B (!(xA.Leaf == xB.Leaf))) ?_
 refine LWp.nil ?_
 refine Wp.c h (fun h => ?_) (fun h => ?_)
 · refine Wp.seq (Wp.region ?_)
   refine LWp.o 4 (B false) ?_
   refine LWp.nil ?_
   cases h
   exact Wp.ret ⟨.inr rfl, _, _, rfl, rfl⟩
 refine Wp.skip ?_
 refine Wp.seq ?_
 refine Wp.seq (Wp.region ?_)
 refine LWp.o 10 (.one (.ptr (.box 2) 1 [] 1)) ?_
 refine LWp.o 11 (.one (.sl false 3 1 (encs c3 xA.Kids))) ?_
 refine LWp.o 12 (.one (.ptr (.box 3) 1 [] 1)) ?_
 refine LWp.o 13 (.one (.sl false 3 1 (encs c3 xB.Kids))) ?_
 refine LWp.cl h 14 (fun v1 => (B v1)) rfl (l := [.sv (.one (.sl false 3 1 (encs c3 xA.Kids))), .sv (.one (.sl false 3 1 (encs c3 xB.Kids)))]) rfl (fun v hv => w_eqIntS_t xA.Kids xB.Kids v hv) (.inl rfl) ?_
 intro v1 gv1 h
 refine LWp.o 15 (B (!v1)) ?_
 refine LWp.nil ?_
 refine Wp.c h (fun h => ?_) (fun h => ?_)
 · refine Wp.seq (Wp.region ?_)
   refine LWp.o 4 (B false) ?_
   refine LWp.nil ?_
   cases h
   exact Wp.ret ⟨.inr rfl, _, _, rfl, rfl⟩
 refine Wp.skip ?_
 refine Wp.seq (Wp.region ?_)
 refine LWp.o 4 (B true) ?_
 refine LWp.nil ?_
 cases h
 exact Wp.ret ⟨.inr rfl, _, _, rfl, rfl⟩
def w_eqKnotS_H1 (xA : List Knot) (xB : List Knot) (z1 : Int) : St := mkSt [(0, (.one (.sl false 175 2 (encs (c175 false) xA)))), (1, (.one (.sl false 175 2 (encs (c175 false) xB)))), (5, (I z1))] []
def w_eqKnotS_H2  : St := mkSt [] []
theorem w_eqKnotS_t (xA : List Knot) (xB : List Knot) (r : Bool) (h : w_eqKnotS xA xB = some r) : Gives Tryz.prog 101 [.sv (.one (.sl false 175 2 (encs (c175 false) xA))), .sv (.one (.sl false 175 2 (encs (c175 false) xB)))] (B r) (List.replicate 2 .gone) := by
 unfold w_eqKnotS at h
 refine gives_of Tryz.func101 rfl ?_
 rw [Tryz.ntmps101]
 refine Wp.seq (Wp.region ?_)
 refine LWp.o 4 (B false) ?_
 refine LWp.nil ?_
 refine Wp.seq ?_
 refine Wp.seq (Wp.region ?_)
 refine LWp.o 6 (.one (.sl false 175 2 (encs (c175 false) xA))) ?_
 refine LWp.o 7 (I (ln xA)) ?_ (st_pure (p_ln (k175 false) xA))
 refine LWp.o 8 (.one (.sl false 175 2 (encs (c175 false) xB))) ?_
 refine LWp.o 9 (I (ln xB)) ?_ (st_pure (p_ln (k175 false) xB))
 refine LWp.o 10 (B ((ln xA) != (ln xB))) ?_
 refine LWp.nil ?_
 refine Wp.c h (fun h => ?_) (fun h => ?_)
 · refine Wp.seq (Wp.region ?_)
   refine LWp.o 4 (B false) ?_
   refine LWp.nil ?_
   cases h
   exact Wp.ret ⟨.inr rfl, _, _, rfl, rfl⟩
 refine Wp.skip ?_
 refine Wp.seq ?_
 refine Wp.seq (Wp.region ?_)
 refine LWp.o 5 (I 0) ?_
 refine LWp.nil ?_
 refine Wp.l2 h [0, 1, 5] [] (fun s => (w_eqKnotS_H1 xA xB s)) [] [] (fun _ => w_eqKnotS_H2) ⟨rfl, rfl⟩ ?_ ?_
 · rintro yI1 o (h : w_eqKnotS_b1 xA xB yI1 = some o) hk1
   unfold w_eqKnotS_b1 at h
   change Wp _ _ _ (w_eqKnotS_H1 xA xB yI1) _
   refine Wp.seq ?_
   refine Wp.seq (Wp.region ?_)
   refine LWp.o 11 (I yI1) ?_
   refine LWp.o 12 (.one (.sl false 175 2 (encs (c175 false) xA))) ?_
   refine LWp.o 13 (I (ln xA)) ?_ (st_pure (p_ln (k175 false) xA))
   refine LWp.o 14 (B (decide (yI1 < (ln xA)))) ?_
   refine LWp.nil ?_
   refine Wp.c h (fun h => ?_) (fun h => ?_)
   · refine Wp.skip ?_
     refine Wp.seq ?_
     refine Wp.block ?_
     refine Wp.seq ?_
     refine Wp.regionT 8 mixed (by decide +kernel) ?_
     refine SWp.o 17 (.one (.sl false 175 2 (encs (c175 false) xA))) ?_
     refine SWp.o 18 (I yI1) ?_
     refine SWp.p h 19 (fun _ => (.one (.ptr (.slot 17) 1 [0] (Int.toNat yI1 * 2 + 0)))) ?_ (fun x1 gx1 => sl_pure (p_ix (k175 false) (.slot 17) [] 0 gx1))
     intro x1 gx1 h
     refine SWp.o 20 (.agg [.bool x1.Leaf, .sl false 3 1 (encs c3 x1.Kids)]) ?_ (sl_pure (p_le (k175 false) (.slot 17) [0] gx1))
     refine SWp.o 21 (.one (.sl false 175 2 (encs (c175 false) xB))) ?_
     refine SWp.o 22 (I yI1) ?_
     refine SWp.p h 23 (fun _ => (.one (.ptr (.slot 21) 1 [0] (Int.toNat yI1 * 2 + 0)))) ?_ (fun x2 gx2 => sl_pure (p_ix (k175 false) (.slot 21) [] 0 gx2))
     intro x2 gx2 h
     refine SWp.o 24 (.agg [.bool x2.Leaf, .sl false 3 1 (encs c3 x2.Kids)]) ?_ (sl_pure (p_le (k175 false) (.slot 21) [0] gx2))
     refine SWp.nil ?_
     refine LWp.cl h 25 (fun v1 => (B v1)) rfl (l := [.sv (.agg [.bool x1.Leaf, .sl false 3 1 (encs c3 x1.Kids)]), .sv (.agg [.bool x2.Leaf, .sl false 3 1 (encs c3 x2.Kids)])]) rfl (fun v hv => w_eqKnot_t x1 x2 v hv) (.inl rfl) ?_
     intro v1 gv1 h
     refine LWp.o 26 (B (!v1)) ?_
     refine LWp.nil ?_
     refine Wp.c h (fun h => ?_) (fun h => ?_)
     · refine Wp.seq (Wp.region ?_)
       refine LWp.o 4 (B false) ?_
       refine LWp.nil ?_
       cases h
       replace h : some _ = some _ := hk1 _ rfl
       cases h
       exact Wp.ret ⟨.inr rfl, _, _, rfl, rfl⟩
     refine Wp.skip ?_
     refine Wp.region ?_
     refine LWp.o 15 (I yI1) ?_
     refine LWp.o 16 (I (ad yI1 1)) ?_
     refine LWp.o 5 (I (ad yI1 1)) ?_
     refine LWp.nil ?_
     cases h
     exact ⟨_, rfl, rfl, rfl⟩
   refine Wp.exit ?_
   cases h
   exact ⟨_, rfl, rfl, rfl⟩
 intro v2 h E hE
 refine nt_wp hE ?_
 change Wp _ _ _ w_eqKnotS_H2 _
 refine Wp.seq (Wp.region ?_)
 refine LWp.o 4 (B true) ?_
 refine LWp.nil ?_
 cases h
 exact Wp.ret ⟨.inr rfl, _, _, rfl, rfl⟩
theorem w_eqArena_t (xA : Arena) (xB : Arena) (r : Bool) (h : w_eqArena xA xB = some r) : Gives Tryz.prog 73 [.sv (.agg [.sl false 175 2 (encs (c175 false) xA.Knots)]), .sv (.agg [.sl false 175 2 (encs (c175 false) xB.Knots)])] (B r) (List.replicate 2 .gone) := by
 unfold w_eqArena at h
 refine gives_of Tryz.func73 rfl ?_
 rw [Tryz.ntmps73]
 refine Wp.seq (Wp.region ?_)
 refine LWp.b [] 2 [.sl false 175 2 (encs (c175 false) xA.Knots)] ?_
 refine LWp.b [] 3 [.sl false 175 2 (encs (c175 false) xB.Knots)] ?_
 refine LWp.o 4 (B false) ?_
 refine LWp.nil ?_
 refine Wp.seq ?_
 refine Wp.seq (Wp.region ?_)
 refine LWp.o 5 (.one (.ptr (.box 2) 1 [] 0)) ?_
 refine LWp.o 6 (.one (.sl false 175 2 (encs (c175 false) xA.Knots))) ?_
 refine LWp.o 7 (.one (.ptr (.box 3) 1 [] 0)) ?_
 refine LWp.o 8 (.one (.sl false 175 2 (encs (c175 false) xB.Knots))) ?_
 refine LWp.cl h 9 (fun v1 => (B v1)) rfl (l := [.sv (.one (.sl false 175 2 (encs (c175 false) xA.Knots))), .sv (.one (.sl false 175 2 (encs (c175 false) xB.Knots)))]) rfl (fun v hv => w_eqKnotS_t xA.Knots xB.Knots v hv) (.inl rfl) ?_
 intro v1 gv1 h
 refine LWp.o 10 (B (!v1)) ?_
 refine LWp.nil ?_
 refine Wp.c h (fun h => ?_) (fun h => ?_)
 · refine Wp.seq (Wp.region ?_)
   refine LWp.o 4 (B false) ?_
   refine LWp.nil ?_
   cases h
   exact Wp.ret ⟨.inr rfl, _, _, rfl, rfl⟩
 refine Wp.skip ?_
 refine Wp.seq (Wp.region ?_)
 refine LWp.o 4 (B true) ?_
 refine LWp.nil ?_
 cases h
 exact Wp.ret ⟨.inr rfl, _, _, rfl, rfl⟩
theorem w_eqStore_t (xA : Store) (xB : Store) (r : Bool) (h : w_eqStore xA xB = some r) : Gives Tryz.prog 45 [.sv (.agg [.sl false 87 2 (encs c87 xA.Vols), .sl false 175 2 (encs (c175 false) xA.Arena.Knots), .int .i64 xA.Next]), .sv (.agg [.sl false 87 2 (encs c87 xB.Vols), .sl false 175 2 (encs (c175 false) xB.Arena.Knots), .int .i64 xB.Next])] (B r) (List.replicate 2 .gone) := by
 unfold w_eqStore at h
 refine gives_of Tryz.func45 rfl ?_
 rw [Tryz.ntmps45]
 refine Wp.seq (Wp.region ?_)
 refine LWp.b [] 2 [.sl false 87 2 (encs c87 xA.Vols), .sl false 175 2 (encs (c175 false) xA.Arena.Knots), .int .i64 xA.Next] ?_
 refine LWp.b [] 3 [.sl false 87 2 (encs c87 xB.Vols), .sl false 175 2 (encs (c175 false) xB.Arena.Knots), .int .i64 xB.Next] ?_
 refine LWp.o 4 (B false) ?_
 refine LWp.nil ?_
 refine Wp.seq ?_
 refine Wp.seq (Wp.region ?_)
 refine LWp.o 5 (.one (.ptr (.box 2) 1 [] 0)) ?_
 refine LWp.o 6 (.one (.sl false 87 2 (encs c87 xA.Vols))) ?_
 refine LWp.o 7 (.one (.ptr (.box 3) 1 [] 0)) ?_
 refine LWp.o 8 (.one (.sl false 87 2 (encs c87 xB.Vols))) ?_
 refine LWp.cl h 9 (fun v1 => (B v1)) rfl (l := [.sv (.one (.sl false 87 2 (encs c87 xA.Vols))), .sv (.one (.sl false 87 2 (encs c87 xB.Vols)))]) rfl (fun v hv => w_eqVolS_t xA.Vols xB.Vols v hv) (.inl rfl) ?_
 intro v1 gv1 h
 refine LWp.o 10 (B (!v1)) ?_
 refine LWp.nil ?_
 refine Wp.c h (fun h => ?_) (fun h => ?_)
 · refine Wp.seq (Wp.region ?_)
   refine LWp.o 4 (B false) ?_
   refine LWp.nil ?_
   cases h
   exact Wp.ret ⟨.inr rfl, _, _, rfl, rfl⟩
 refine Wp.skip ?_
 refine Wp.seq ?_
 refine Wp.seq (Wp.region ?_)
 refine LWp.o 11 (.one (.ptr (.box 2) 1 [] 1)) ?_
 refine LWp.o 12 (.agg [.sl false 175 2 (encs (c175 false) xA.Arena.Knots)]) ?_
 refine LWp.o 13 (.one (.ptr (.box 3) 1 [] 1)) ?_
 refine LWp.o 14 (.agg [.sl false 175 2 (encs (c175 false) xB.Arena.Knots)]) ?_
 refine LWp.cl h 15 (fun v2 => (B v2)) rfl (l := [.sv (.agg [.sl false 175 2 (encs (c175 false) xA.Arena.Knots)]), .sv (.agg [.sl false 175 2 (encs (c175 false) xB.Arena.Knots)])]) rfl (fun v hv => w_eqArena_t xA.Arena xB.Arena v hv) (.inl rfl) ?_
 intro v2 gv2 h
 refine LWp.o 16 (B (!v2)) ?_
 refine LWp.nil ?_
 refine Wp.c h (fun h => ?_) (fun h => ?_)
 · refine Wp.seq (Wp.region ?_)
   refine LWp.o 4 (B false) ?_
   refine LWp.nil ?_
   cases h
   exact Wp.ret ⟨.inr rfl, _, _, rfl, rfl⟩
 refine Wp.skip ?_
 refine Wp.seq ?_
 refine Wp.seq (Wp.region ?_)
 refine LWp.o 17 (.one (.ptr (.box 2) 1 [] 2)) ?_
 refine LWp.o 18 (I xA.Next) ?_
 refine LWp.o 19 (.one (.ptr (.box 3) 1 [] 2)) ?_
 refine LWp.o 20 (I xB.Next) ?_
 refine LWp.o 21 (B (xA.Next != xB.Next)) ?_
 refine LWp.nil ?_
 refine Wp.c h (fun h => ?_) (fun h => ?_)
 · refine Wp.seq (Wp.region ?_)
   refine LWp.o 4 (B false) ?_
   refine LWp.nil ?_
   cases h
   exact Wp.ret ⟨.inr rfl, _, _, rfl, rfl⟩
 refine Wp.skip ?_
 refine Wp.seq (Wp.region ?_)
 refine LWp.o 4 (B true) ?_
 refine LWp.nil ?_
 cases h
 exact Wp.ret ⟨.inr rfl, _, _, rfl, rfl⟩
set_option maxHeartbeats 4000000 in
theorem w_eqDevice_t (xA : Device) (xB : Device) (r : Bool) (h : w_eqDevice xA xB = some r) : Gives Tryz.prog 14 [.sv (.agg [.sl false 113 3 (encs (c113 false) xA.Flash.Blocks), .sl false 87 2 (encs c87 xA.Store.Vols), .sl false 175 2 (encs (c175 false) xA.Store.Arena.Knots), .int .i64 xA.Store.Next, .int .i64 xA.Seq, .int .i64 xA.Tx, .int .i64 xA.Base]), .sv (.agg [.sl false 113 3 (encs (c113 false) xB.Flash.Blocks), .sl false 87 2 (encs c87 xB.Store.Vols), .sl false 175 2 (encs (c175 false) xB.Store.Arena.Knots), .int .i64 xB.Store.Next, .int .i64 xB.Seq, .int .i64 xB.Tx, .int .i64 xB.Base])] (B r) (List.replicate 2 .gone) := by
 unfold w_eqDevice at h
 refine gives_of Tryz.func14 rfl ?_
 rw [Tryz.ntmps14]
 refine Wp.seq (Wp.region ?_)
 refine LWp.b [] 2 [.sl false 113 3 (encs (c113 false) xA.Flash.Blocks), .sl false 87 2 (encs c87 xA.Store.Vols), .sl false 175 2 (encs (c175 false) xA.Store.Arena.Knots), .int .i64 xA.Store.Next, .int .i64 xA.Seq, .int .i64 xA.Tx, .int .i64 xA.Base] ?_
 refine LWp.b [] 3 [.sl false 113 3 (encs (c113 false) xB.Flash.Blocks), .sl false 87 2 (encs c87 xB.Store.Vols), .sl false 175 2 (encs (c175 false) xB.Store.Arena.Knots), .int .i64 xB.Store.Next, .int .i64 xB.Seq, .int .i64 xB.Tx, .int .i64 xB.Base] ?_
 refine LWp.o 4 (B false) ?_
 refine LWp.nil ?_
 refine Wp.seq ?_
 refine Wp.seq (Wp.region ?_)
 refine LWp.o 5 (.one (.ptr (.box 2) 1 [] 0)) ?_
 refine LWp.o 6 (.agg [.sl false 113 3 (encs (c113 false) xA.Flash.Blocks)]) ?_
 refine LWp.o 7 (.one (.ptr (.box 3) 1 [] 0)) ?_
 refine LWp.o 8 (.agg [.sl false 113 3 (encs (c113 false) xB.Flash.Blocks)]) ?_
 refine LWp.cl h 9 (fun v1 => (B v1)) rfl (l := [.sv (.agg [.sl false 113 3 (encs (c113 false) xA.Flash.Blocks)]), .sv (.agg [.sl false 113 3 (encs (c113 false) xB.Flash.Blocks)])]) rfl (fun v hv => w_eqFlash_t xA.Flash xB.Flash v hv) (.inl rfl) ?_
 intro v1 gv1 h
 refine LWp.o 10 (B (!v1)) ?_
 refine LWp.nil ?_
 refine Wp.c h (fun h => ?_) (fun h => ?_)
 · refine Wp.seq (Wp.region ?_)
   refine LWp.o 4 (B false) ?_
   refine LWp.nil ?_
   cases h
   exact Wp.ret ⟨.inr rfl, _, _, rfl, rfl⟩
 refine Wp.skip ?_
 refine Wp.seq ?_
 refine Wp.seq (Wp.region ?_)
 refine LWp.o 11 (.one (.ptr (.box 2) 1 [] 1)) ?_
 refine LWp.o 12 (.agg [.sl false 87 2 (encs c87 xA.Store.Vols), .sl false 175 2 (encs (c175 false) xA.Store.Arena.Knots), .int .i64 xA.Store.Next]) ?_
 refine LWp.o 13 (.one (.ptr (.box 3) 1 [] 1)) ?_
 refine LWp.o 14 (.agg [.sl false 87 2 (encs c87 xB.Store.Vols), .sl false 175 2 (encs (c175 false) xB.Store.Arena.Knots), .int .i64 xB.Store.Next]) ?_
 refine LWp.cl h 15 (fun v2 => (B v2)) rfl (l := [.sv (.agg [.sl false 87 2 (encs c87 xA.Store.Vols), .sl false 175 2 (encs (c175 false) xA.Store.Arena.Knots), .int .i64 xA.Store.Next]), .sv (.agg [.sl false 87 2 (encs c87 xB.Store.Vols), .sl false 175 2 (encs (c175 false) xB.Store.Arena.Knots), .int .i64 xB.Store.Next])]) rfl (fun v hv => w_eqStore_t xA.Store xB.Store v hv) (.inl rfl) ?_
 intro v2 gv2 h
 refine LWp.o 16 (B (!v2)) ?_
 refine LWp.nil ?_
 refine Wp.c h (fun h => ?_) (fun h => ?_)
 · refine Wp.seq (Wp.region ?_)
   refine LWp.o 4 (B false) ?_
   refine LWp.nil ?_
   cases h
   exact Wp.ret ⟨.inr rfl, _, _, rfl, rfl⟩
 refine Wp.skip ?_
 refine Wp.seq ?_
 refine Wp.seq (Wp.region ?_)
 refine LWp.o 17 (.one (.ptr (.box 2) 1 [] 4)) ?_
 refine LWp.o 18 (I xA.Seq) ?_
 refine LWp.o 19 (.one (.ptr (.box 3) 1 [] 4)) ?_
 refine LWp.o 20 (I xB.Seq) ?_
 refine LWp.o 21 (B (xA.Seq != xB.Seq)) ?_
 refine LWp.nil ?_
 refine Wp.c h (fun h => ?_) (fun h => ?_)
 · refine Wp.seq (Wp.region ?_)
   refine LWp.o 4 (B false) ?_
   refine LWp.nil ?_
   cases h
   exact Wp.ret ⟨.inr rfl, _, _, rfl, rfl⟩
 refine Wp.skip ?_
 refine Wp.seq ?_
 refine Wp.seq (Wp.region ?_)
 refine LWp.o 22 (.one (.ptr (.box 2) 1 [] 5)) ?_
 refine LWp.o 23 (I xA.Tx) ?_
 refine LWp.o 24 (.one (.ptr (.box 3) 1 [] 5)) ?_
 refine LWp.o 25 (I xB.Tx) ?_
 refine LWp.o 26 (B (xA.Tx != xB.Tx)) ?_
 refine LWp.nil ?_
 refine Wp.c h (fun h => ?_) (fun h => ?_)
 · refine Wp.seq (Wp.region ?_)
   refine LWp.o 4 (B false) ?_
   refine LWp.nil ?_
   cases h
   exact Wp.ret ⟨.inr rfl, _, _, rfl, rfl⟩
 refine Wp.skip ?_
 refine Wp.seq ?_
 refine Wp.seq (Wp.region ?_)
 refine LWp.o 27 (.one (.ptr (.box 2) 1 [] 6)) ?_
 refine LWp.o 28 (I xA.Base) ?_
 refine LWp.o 29 (.one (.ptr (.box 3) 1 [] 6)) ?_
 refine LWp.o 30 (I xB.Base) ?_
 refine LWp.o 31 (B (xA.Base != xB.Base)) ?_
 refine LWp.nil ?_
 refine Wp.c h (fun h => ?_) (fun h => ?_)
 · refine Wp.seq (Wp.region ?_)
   refine LWp.o 4 (B false) ?_
   refine LWp.nil ?_
   cases h
   exact Wp.ret ⟨.inr rfl, _, _, rfl, rfl⟩
 refine Wp.skip ?_
 refine Wp.seq (Wp.region ?_)
 refine LWp.o 4 (B true) ?_
 refine LWp.nil ?_
 cases h
 exact Wp.ret ⟨.inr rfl, _, _, rfl, rfl⟩
def w_eqStringS_H1 (xA : List ByteArray) (xB : List ByteArray) (z1 : Int) : St := mkSt [(0, (.one (.sl false 9 1 (encs c9 xA)))), (1, (.one (.sl false 9 1 (encs c9 xB)))), (5, (I z1))] []
def w_eqStringS_H2  : St := mkSt [] []
theorem w_eqStringS_t (xA : List ByteArray) (xB : List ByteArray) (r : Bool) (h : w_eqStringS xA xB = some r) : Gives Tryz.prog 28 [.sv (.one (.sl false 9 1 (encs c9 xA))), .sv (.one (.sl false 9 1 (encs c9 xB)))] (B r) (List.replicate 2 .gone) := by
 unfold w_eqStringS at h
 refine gives_of Tryz.func28 rfl ?_
 rw [Tryz.ntmps28]
 refine Wp.seq (Wp.region ?_)
 refine LWp.o 4 (B false) ?_
 refine LWp.nil ?_
 refine Wp.seq ?_
 refine Wp.seq (Wp.region ?_)
 refine LWp.o 6 (.one (.sl false 9 1 (encs c9 xA))) ?_
 refine LWp.o 7 (I (ln xA)) ?_ (st_pure (p_ln k9 xA))
 refine LWp.o 8 (.one (.sl false 9 1 (encs c9 xB))) ?_
 refine LWp.o 9 (I (ln xB)) ?_ (st_pure (p_ln k9 xB))
 refine LWp.o 10 (B ((ln xA) != (ln xB))) ?_
 refine LWp.nil ?_
 refine Wp.c h (fun h => ?_) (fun h => ?_)
 · refine Wp.seq (Wp.region ?_)
   refine LWp.o 4 (B false) ?_
   refine LWp.nil ?_
   cases h
   exact Wp.ret ⟨.inr rfl, _, _, rfl, rfl⟩
 refine Wp.skip ?_
 refine Wp.seq ?_
 refine Wp.seq (Wp.region ?_)
 refine LWp.o 5 (I 0) ?_
 refine LWp.nil ?_
 refine Wp.l2 h [0, 1, 5] [] (fun s => (w_eqStringS_H1 xA xB s)) [] [] (fun _ => w_eqStringS_H2) ⟨rfl, rfl⟩ ?_ ?_
 · rintro yI1 o (h : w_eqStringS_b1 xA xB yI1 = some o) hk1
   unfold w_eqStringS_b1 at h
   change Wp _ _ _ (w_eqStringS_H1 xA xB yI1) _
   refine Wp.seq ?_
   refine Wp.seq (Wp.region ?_)
   refine LWp.o 11 (I yI1) ?_
   refine LWp.o 12 (.one (.sl false 9 1 (encs c9 xA))) ?_
   refine LWp.o 13 (I (ln xA)) ?_ (st_pure (p_ln k9 xA))
   refine LWp.o 14 (B (decide (yI1 < (ln xA)))) ?_
   refine LWp.nil ?_
   refine Wp.c h (fun h => ?_) (fun h => ?_)
   · refine Wp.skip ?_
     refine Wp.seq ?_
     refine Wp.block ?_
     refine Wp.seq ?_
     refine Wp.regionS mixed (by decide +kernel) ?_
     refine SWp.o 17 (.one (.sl false 9 1 (encs c9 xA))) ?_
     refine SWp.o 18 (I yI1) ?_
     refine SWp.p h 19 (fun _ => (.one (.ptr (.slot 17) 1 [0] (Int.toNat yI1 * 1 + 0)))) ?_ (fun x1 gx1 => sl_pure (p_ix k9 (.slot 17) [] 0 gx1))
     intro x1 gx1 h
     refine SWp.o 20 (Y x1) ?_ (sl_pure (p_lc k9 (.slot 17) [0] 0 (.str x1) gx1))
     refine SWp.o 21 (.one (.sl false 9 1 (encs c9 xB))) ?_
     refine SWp.o 22 (I yI1) ?_
     refine SWp.p h 23 (fun _ => (.one (.ptr (.slot 21) 1 [0] (Int.toNat yI1 * 1 + 0)))) ?_ (fun x2 gx2 => sl_pure (p_ix k9 (.slot 21) [] 0 gx2))
     intro x2 gx2 h
     refine SWp.o 24 (Y x2) ?_ (sl_pure (p_lc k9 (.slot 21) [0] 0 (.str x2) gx2))
     refine SWp.o 25 (B (!(seq x1 x2))) ?_
     refine SWp.nil ?_
     refine Wp.c h (fun h => ?_) (fun h => ?_)
     · refine Wp.seq (Wp.region ?_)
       refine LWp.o 4 (B false) ?_
       refine LWp.nil ?_
       cases h
       replace h : some _ = some _ := hk1 _ rfl
       cases h
       exact Wp.ret ⟨.inr rfl, _, _, rfl, rfl⟩
     refine Wp.skip ?_
     refine Wp.region ?_
     refine LWp.o 15 (I yI1) ?_
     refine LWp.o 16 (I (ad yI1 1)) ?_
     refine LWp.o 5 (I (ad yI1 1)) ?_
     refine LWp.nil ?_
     cases h
     exact ⟨_, rfl, rfl, rfl⟩
   refine Wp.exit ?_
   cases h
   exact ⟨_, rfl, rfl, rfl⟩
 intro v1 h E hE
 refine nt_wp hE ?_
 change Wp _ _ _ w_eqStringS_H2 _
 refine Wp.seq (Wp.region ?_)
 refine LWp.o 4 (B true) ?_
 refine LWp.nil ?_
 cases h
 exact Wp.ret ⟨.inr rfl, _, _, rfl, rfl⟩
theorem w_eqShelf_t (xA : Shelf) (xB : Shelf) (r : Bool) (h : w_eqShelf xA xB = some r) : Gives Tryz.prog 53 [.sv (.agg [.int .i64 xA.Vol, .sl false 9 1 (encs c9 xA.Texts)]), .sv (.agg [.int .i64 xB.Vol, .sl false 9 1 (encs c9 xB.Texts)])] (B r) (List.replicate 2 .gone) := by
 unfold w_eqShelf at h
 refine gives_of Tryz.func53 rfl ?_
 rw [Tryz.ntmps53]
 refine Wp.seq (Wp.region ?_)
 refine LWp.b [] 2 [.int .i64 xA.Vol, .sl false 9 1 (encs c9 xA.Texts)] ?_
 refine LWp.b [] 3 [.int .i64 xB.Vol, .sl false 9 1 (encs c9 xB.Texts)] ?_
 refine LWp.o 4 (B false) ?_
 refine LWp.nil ?_
 refine Wp.seq ?_
 refine Wp.seq (Wp.region ?_)
 refine LWp.o 5 (.one (.ptr (.box 2) 1 [] 0)) ?_
 refine LWp.o 6 (I xA.Vol) ?_
 refine LWp.o 7 (.one (.ptr (.box 3) 1 [] 0)) ?_
 refine LWp.o 8 (I xB.Vol) ?_
 refine LWp.o 9 (B (xA.Vol != xB.Vol)) ?_
 refine LWp.nil ?_
 refine Wp.c h (fun h => ?_) (fun h => ?_)
 · refine Wp.seq (Wp.region ?_)
   refine LWp.o 4 (B false) ?_
   refine LWp.nil ?_
   cases h
   exact Wp.ret ⟨.inr rfl, _, _, rfl, rfl⟩
 refine Wp.skip ?_
 refine Wp.seq ?_
 refine Wp.seq (Wp.region ?_)
 refine LWp.o 10 (.one (.ptr (.box 2) 1 [] 1)) ?_
 refine LWp.o 11 (.one (.sl false 9 1 (encs c9 xA.Texts))) ?_
 refine LWp.o 12 (.one (.ptr (.box 3) 1 [] 1)) ?_
 refine LWp.o 13 (.one (.sl false 9 1 (encs c9 xB.Texts))) ?_
 refine LWp.cl h 14 (fun v1 => (B v1)) rfl (l := [.sv (.one (.sl false 9 1 (encs c9 xA.Texts))), .sv (.one (.sl false 9 1 (encs c9 xB.Texts)))]) rfl (fun v hv => w_eqStringS_t xA.Texts xB.Texts v hv) (.inl rfl) ?_
 intro v1 gv1 h
 refine LWp.o 15 (B (!v1)) ?_
 refine LWp.nil ?_
 refine Wp.c h (fun h => ?_) (fun h => ?_)
 · refine Wp.seq (Wp.region ?_)
   refine LWp.o 4 (B false) ?_
   refine LWp.nil ?_
   cases h
   exact Wp.ret ⟨.inr rfl, _, _, rfl, rfl⟩
 refine Wp.skip ?_
 refine Wp.seq (Wp.region ?_)
 refine LWp.o 4 (B true) ?_
 refine LWp.nil ?_
 cases h
 exact Wp.ret ⟨.inr rfl, _, _, rfl, rfl⟩
def w_eqShelfS_H1 (xA : List Shelf) (xB : List Shelf) (z1 : Int) : St := mkSt [(0, (.one (.sl false 99 2 (encs (c99 false) xA)))), (1, (.one (.sl false 99 2 (encs (c99 false) xB)))), (5, (I z1))] []
def w_eqShelfS_H2  : St := mkSt [] []
theorem w_eqShelfS_t (xA : List Shelf) (xB : List Shelf) (r : Bool) (h : w_eqShelfS xA xB = some r) : Gives Tryz.prog 29 [.sv (.one (.sl false 99 2 (encs (c99 false) xA))), .sv (.one (.sl false 99 2 (encs (c99 false) xB)))] (B r) (List.replicate 2 .gone) := by
 unfold w_eqShelfS at h
 refine gives_of Tryz.func29 rfl ?_
 rw [Tryz.ntmps29]
 refine Wp.seq (Wp.region ?_)
 refine LWp.o 4 (B false) ?_
 refine LWp.nil ?_
 refine Wp.seq ?_
 refine Wp.seq (Wp.region ?_)
 refine LWp.o 6 (.one (.sl false 99 2 (encs (c99 false) xA))) ?_
 refine LWp.o 7 (I (ln xA)) ?_ (st_pure (p_ln (k99 false) xA))
 refine LWp.o 8 (.one (.sl false 99 2 (encs (c99 false) xB))) ?_
 refine LWp.o 9 (I (ln xB)) ?_ (st_pure (p_ln (k99 false) xB))
 refine LWp.o 10 (B ((ln xA) != (ln xB))) ?_
 refine LWp.nil ?_
 refine Wp.c h (fun h => ?_) (fun h => ?_)
 · refine Wp.seq (Wp.region ?_)
   refine LWp.o 4 (B false) ?_
   refine LWp.nil ?_
   cases h
   exact Wp.ret ⟨.inr rfl, _, _, rfl, rfl⟩
 refine Wp.skip ?_
 refine Wp.seq ?_
 refine Wp.seq (Wp.region ?_)
 refine LWp.o 5 (I 0) ?_
 refine LWp.nil ?_
 refine Wp.l2 h [0, 1, 5] [] (fun s => (w_eqShelfS_H1 xA xB s)) [] [] (fun _ => w_eqShelfS_H2) ⟨rfl, rfl⟩ ?_ ?_
 · rintro yI1 o (h : w_eqShelfS_b1 xA xB yI1 = some o) hk1
   unfold w_eqShelfS_b1 at h
   change Wp _ _ _ (w_eqShelfS_H1 xA xB yI1) _
   refine Wp.seq ?_
   refine Wp.seq (Wp.region ?_)
   refine LWp.o 11 (I yI1) ?_
   refine LWp.o 12 (.one (.sl false 99 2 (encs (c99 false) xA))) ?_
   refine LWp.o 13 (I (ln xA)) ?_ (st_pure (p_ln (k99 false) xA))
   refine LWp.o 14 (B (decide (yI1 < (ln xA)))) ?_
   refine LWp.nil ?_
   refine Wp.c h (fun h => ?_) (fun h => ?_)
   · refine Wp.skip ?_
     refine Wp.seq ?_
     refine Wp.block ?_
     refine Wp.seq ?_
     refine Wp.regionT 8 mixed (by decide +kernel) ?_
     refine SWp.o 17 (.one (.sl false 99 2 (encs (c99 false) xA))) ?_
     refine SWp.o 18 (I yI1) ?_
     refine SWp.p h 19 (fun _ => (.one (.ptr (.slot 17) 1 [0] (Int.toNat yI1 * 2 + 0)))) ?_ (fun x1 gx1 => sl_pure (p_ix (k99 false) (.slot 17) [] 0 gx1))
     intro x1 gx1 h
     refine SWp.o 20 (.agg [.int .i64 x1.Vol, .sl false 9 1 (encs c9 x1.Texts)]) ?_ (sl_pure (p_le (k99 false) (.slot 17) [0] gx1))
     refine SWp.o 21 (.one (.sl false 99 2 (encs (c99 false) xB))) ?_
     refine SWp.o 22 (I yI1) ?_
     refine SWp.p h 23 (fun _ => (.one (.ptr (.slot 21) 1 [0] (Int.toNat yI1 * 2 + 0)))) ?_ (fun x2 gx2 => sl_pure (p_ix (k99 false) (.slot 21) [] 0 gx2))
     intro x2 gx2 h
     refine SWp.o 24 (.agg [.int .i64 x2.Vol, .sl false 9 1 (encs c9 x2.Texts)]) ?_ (sl_pure (p_le (k99 false) (.slot 21) [0] gx2))
     refine SWp.nil ?_
     refine LWp.cl h 25 (fun v1 => (B v1)) rfl (l := [.sv (.agg [.int .i64 x1.Vol, .sl false 9 1 (encs c9 x1.Texts)]), .sv (.agg [.int .i64 x2.Vol, .sl false 9 1 (encs c9 x2.Texts)])]) rfl (fun v hv => w_eqShelf_t x1 x2 v hv) (.inl rfl) ?_
     intro v1 gv1 h
     refine LWp.o 26 (B (!v1)) ?_
     refine LWp.nil ?_
     refine Wp.c h (fun h => ?_) (fun h => ?_)
     · refine Wp.seq (Wp.region ?_)
       refine LWp.o 4 (B false) ?_
       refine LWp.nil ?_
       cases h
       replace h : some _ = some _ := hk1 _ rfl
       cases h
       exact Wp.ret ⟨.inr rfl, _, _, rfl, rfl⟩
     refine Wp.skip ?_
     refine Wp.region ?_
     refine LWp.o 15 (I yI1) ?_
     refine LWp.o 16 (I (ad yI1 1)) ?_
     refine LWp.o 5 (I (ad yI1 1)) ?_
     refine LWp.nil ?_
     cases h
     exact ⟨_, rfl, rfl, rfl⟩
   refine Wp.exit ?_
   cases h
   exact ⟨_, rfl, rfl, rfl⟩
 intro v2 h E hE
 refine nt_wp hE ?_
 change Wp _ _ _ w_eqShelfS_H2 _
 refine Wp.seq (Wp.region ?_)
 refine LWp.o 4 (B true) ?_
 refine LWp.nil ?_
 cases h
 exact Wp.ret ⟨.inr rfl, _, _, rfl, rfl⟩
theorem w_eqStep_t (xA : Step) (xB : Step) (r : Bool) (h : w_eqStep xA xB = some r) : Gives Tryz.prog 54 [.sv (.agg [.int .i64 xA.Kind, .int .i64 xA.Block, .int .i64 xA.Leaf, .str xA.Text]), .sv (.agg [.int .i64 xB.Kind, .int .i64 xB.Block, .int .i64 xB.Leaf, .str xB.Text])] (B r) (List.replicate 2 .gone) := by
 unfold w_eqStep at h
 refine gives_of Tryz.func54 rfl ?_
 rw [Tryz.ntmps54]
 refine Wp.seq (Wp.region ?_)
 refine LWp.b [] 2 [.int .i64 xA.Kind, .int .i64 xA.Block, .int .i64 xA.Leaf, .str xA.Text] ?_
 refine LWp.b [] 3 [.int .i64 xB.Kind, .int .i64 xB.Block, .int .i64 xB.Leaf, .str xB.Text] ?_
 refine LWp.o 4 (B false) ?_
 refine LWp.nil ?_
 refine Wp.seq ?_
 refine Wp.seq (Wp.region ?_)
 refine LWp.o 5 (.one (.ptr (.box 2) 1 [] 0)) ?_
 refine LWp.o 6 (I xA.Kind) ?_
 refine LWp.o 7 (.one (.ptr (.box 3) 1 [] 0)) ?_
 refine LWp.o 8 (I xB.Kind) ?_
 refine LWp.o 9 (B (xA.Kind != xB.Kind)) ?_
 refine LWp.nil ?_
 refine Wp.c h (fun h => ?_) (fun h => ?_)
 · refine Wp.seq (Wp.region ?_)
   refine LWp.o 4 (B false) ?_
   refine LWp.nil ?_
   cases h
   exact Wp.ret ⟨.inr rfl, _, _, rfl, rfl⟩
 refine Wp.skip ?_
 refine Wp.seq ?_
 refine Wp.seq (Wp.region ?_)
 refine LWp.o 10 (.one (.ptr (.box 2) 1 [] 1)) ?_
 refine LWp.o 11 (I xA.Block) ?_
 refine LWp.o 12 (.one (.ptr (.box 3) 1 [] 1)) ?_
 refine LWp.o 13 (I xB.Block) ?_
 refine LWp.o 14 (B (xA.Block != xB.Block)) ?_
 refine LWp.nil ?_
 refine Wp.c h (fun h => ?_) (fun h => ?_)
 · refine Wp.seq (Wp.region ?_)
   refine LWp.o 4 (B false) ?_
   refine LWp.nil ?_
   cases h
   exact Wp.ret ⟨.inr rfl, _, _, rfl, rfl⟩
 refine Wp.skip ?_
 refine Wp.seq ?_
 refine Wp.seq (Wp.region ?_)
 refine LWp.o 15 (.one (.ptr (.box 2) 1 [] 2)) ?_
 refine LWp.o 16 (I xA.Leaf) ?_
 refine LWp.o 17 (.one (.ptr (.box 3) 1 [] 2)) ?_
 refine LWp.o 18 (I xB.Leaf) ?_
 refine LWp.o 19 (B (xA.Leaf != xB.Leaf)) ?_
 refine LWp.nil ?_
 refine Wp.c h (fun h => ?_) (fun h => ?_)
 · refine Wp.seq (Wp.region ?_)
   refine LWp.o 4 (B false) ?_
   refine LWp.nil ?_
   cases h
   exact Wp.ret ⟨.inr rfl, _, _, rfl, rfl⟩
 refine Wp.skip ?_
 refine Wp.seq ?_
 refine Wp.seq (Wp.region ?_)
 refine LWp.o 20 (.one (.ptr (.box 2) 1 [] 3)) ?_
 refine LWp.o 21 (Y xA.Text) ?_
 refine LWp.o 22 (.one (.ptr (.box 3) 1 [] 3)) ?_
 refine LWp.o 23 (Y xB.Text) ?_
 refine LWp.o 24 (B (!(seq xA.Text xB.Text))) ?_
 refine LWp.nil ?_
 refine Wp.c h (fun h => ?_) (fun h => ?_)
 · refine Wp.seq (Wp.region ?_)
   refine LWp.o 4 (B false) ?_
   refine LWp.nil ?_
   cases h
   exact Wp.ret ⟨.inr rfl, _, _, rfl, rfl⟩
 refine Wp.skip ?_
 refine Wp.seq (Wp.region ?_)
 refine LWp.o 4 (B true) ?_
 refine LWp.nil ?_
 cases h
 exact Wp.ret ⟨.inr rfl, _, _, rfl, rfl⟩
def w_eqStepS_H1 (xA : List Step) (xB : List Step) (z1 : Int) : St := mkSt [(0, (.one (.sl false 102 4 (encs c102 xA)))), (1, (.one (.sl false 102 4 (encs c102 xB)))), (5, (I z1))] []
def w_eqStepS_H2  : St := mkSt [] []
theorem w_eqStepS_t (xA : List Step) (xB : List Step) (r : Bool) (h : w_eqStepS xA xB = some r) : Gives Tryz.prog 30 [.sv (.one (.sl false 102 4 (encs c102 xA))), .sv (.one (.sl false 102 4 (encs c102 xB)))] (B r) (List.replicate 2 .gone) := by
 unfold w_eqStepS at h
 refine gives_of Tryz.func30 rfl ?_
 rw [Tryz.ntmps30]
 refine Wp.seq (Wp.region ?_)
 refine LWp.o 4 (B false) ?_
 refine LWp.nil ?_
 refine Wp.seq ?_
 refine Wp.seq (Wp.region ?_)
 refine LWp.o 6 (.one (.sl false 102 4 (encs c102 xA))) ?_
 refine LWp.o 7 (I (ln xA)) ?_ (st_pure (p_ln k102 xA))
 refine LWp.o 8 (.one (.sl false 102 4 (encs c102 xB))) ?_
 refine LWp.o 9 (I (ln xB)) ?_ (st_pure (p_ln k102 xB))
 refine LWp.o 10 (B ((ln xA) != (ln xB))) ?_
 refine LWp.nil ?_
 refine Wp.c h (fun h => ?_) (fun h => ?_)
 · refine Wp.seq (Wp.region ?_)
   refine LWp.o 4 (B false) ?_
   refine LWp.nil ?_
   cases h
   exact Wp.ret ⟨.inr rfl, _, _, rfl, rfl⟩
 refine Wp.skip ?_
 refine Wp.seq ?_
 refine Wp.seq (Wp.region ?_)
 refine LWp.o 5 (I 0) ?_
 refine LWp.nil ?_
 refine Wp.l2 h [0, 1, 5] [] (fun s => (w_eqStepS_H1 xA xB s)) [] [] (fun _ => w_eqStepS_H2) ⟨rfl, rfl⟩ ?_ ?_
 · rintro yI1 o (h : w_eqStepS_b1 xA xB yI1 = some o) hk1
   unfold w_eqStepS_b1 at h
   change Wp _ _ _ (w_eqStepS_H1 xA xB yI1) _
   refine Wp.seq ?_
   refine Wp.seq (Wp.region ?_)
   refine LWp.o 11 (I yI1) ?_
   refine LWp.o 12 (.one (.sl false 102 4 (encs c102 xA))) ?_
   refine LWp.o 13 (I (ln xA)) ?_ (st_pure (p_ln k102 xA))
   refine LWp.o 14 (B (decide (yI1 < (ln xA)))) ?_
   refine LWp.nil ?_
   refine Wp.c h (fun h => ?_) (fun h => ?_)
   · refine Wp.skip ?_
     refine Wp.seq ?_
     refine Wp.block ?_
     refine Wp.seq ?_
     refine Wp.regionT 8 mixed (by decide +kernel) ?_
     refine SWp.o 17 (.one (.sl false 102 4 (encs c102 xA))) ?_
     refine SWp.o 18 (I yI1) ?_
     refine SWp.p h 19 (fun _ => (.one (.ptr (.slot 17) 1 [0] (Int.toNat yI1 * 4 + 0)))) ?_ (fun x1 gx1 => sl_pure (p_ix k102 (.slot 17) [] 0 gx1))
     intro x1 gx1 h
     refine SWp.o 20 (.agg [.int .i64 x1.Kind, .int .i64 x1.Block, .int .i64 x1.Leaf, .str x1.Text]) ?_ (sl_pure (p_le k102 (.slot 17) [0] gx1))
     refine SWp.o 21 (.one (.sl false 102 4 (encs c102 xB))) ?_
     refine SWp.o 22 (I yI1) ?_
     refine SWp.p h 23 (fun _ => (.one (.ptr (.slot 21) 1 [0] (Int.toNat yI1 * 4 + 0)))) ?_ (fun x2 gx2 => sl_pure (p_ix k102 (.slot 21) [] 0 gx2))
     intro x2 gx2 h
     refine SWp.o 24 (.agg [.int .i64 x2.Kind, .int .i64 x2.Block, .int .i64 x2.Leaf, .str x2.Text]) ?_ (sl_pure (p_le k102 (.slot 21) [0] gx2))
     refine SWp.nil ?_
     refine LWp.cl h 25 (fun v1 => (B v1)) rfl (l := [.sv (.agg [.int .i64 x1.Kind, .int .i64 x1.Block, .int .i64 x1.Leaf, .str x1.Text]), .sv (.agg [.int .i64 x2.Kind, .int .i64 x2.Block, .int .i64 x2.Leaf, .str x2.Text])]) rfl (fun v hv => w_eqStep_t x1 x2 v hv) (.inl rfl) ?_
     intro v1 gv1 h
     refine LWp.o 26 (B (!v1)) ?_
     refine LWp.nil ?_
     refine Wp.c h (fun h => ?_) (fun h => ?_)
     · refine Wp.seq (Wp.region ?_)
       refine LWp.o 4 (B false) ?_
       refine LWp.nil ?_
       cases h
       replace h : some _ = some _ := hk1 _ rfl
       cases h
       exact Wp.ret ⟨.inr rfl, _, _, rfl, rfl⟩
     refine Wp.skip ?_
     refine Wp.region ?_
     refine LWp.o 15 (I yI1) ?_
     refine LWp.o 16 (I (ad yI1 1)) ?_
     refine LWp.o 5 (I (ad yI1 1)) ?_
     refine LWp.nil ?_
     cases h
     exact ⟨_, rfl, rfl, rfl⟩
   refine Wp.exit ?_
   cases h
   exact ⟨_, rfl, rfl, rfl⟩
 intro v2 h E hE
 refine nt_wp hE ?_
 change Wp _ _ _ w_eqStepS_H2 _
 refine Wp.seq (Wp.region ?_)
 refine LWp.o 4 (B true) ?_
 refine LWp.nil ?_
 cases h
 exact Wp.ret ⟨.inr rfl, _, _, rfl, rfl⟩
set_option maxHeartbeats 4000000 in
theorem w_eqWorld_t (xA : World) (xB : World) (r : Bool) (h : w_eqWorld xA xB = some r) : Gives Tryz.prog 9 [.sv (.agg [.sl false 113 3 (encs (c113 false) xA.Device.Flash.Blocks), .sl false 87 2 (encs c87 xA.Device.Store.Vols), .sl false 175 2 (encs (c175 false) xA.Device.Store.Arena.Knots), .int .i64 xA.Device.Store.Next, .int .i64 xA.Device.Seq, .int .i64 xA.Device.Tx, .int .i64 xA.Device.Base, .sl false 3 1 (encs c3 xA.Codes), .sl false 9 1 (encs c9 xA.Told), .sl false 99 2 (encs (c99 false) xA.Model), .sl false 102 4 (encs c102 xA.Steps)]), .sv (.agg [.sl false 113 3 (encs (c113 false) xB.Device.Flash.Blocks), .sl false 87 2 (encs c87 xB.Device.Store.Vols), .sl false 175 2 (encs (c175 false) xB.Device.Store.Arena.Knots), .int .i64 xB.Device.Store.Next, .int .i64 xB.Device.Seq, .int .i64 xB.Device.Tx, .int .i64 xB.Device.Base, .sl false 3 1 (encs c3 xB.Codes), .sl false 9 1 (encs c9 xB.Told), .sl false 99 2 (encs (c99 false) xB.Model), .sl false 102 4 (encs c102 xB.Steps)])] (B r) (List.replicate 2 .gone) := by
 unfold w_eqWorld at h
 refine gives_of Tryz.func9 rfl ?_
 rw [Tryz.ntmps9]
 refine Wp.seq (Wp.region ?_)
 refine LWp.b [] 2 [.sl false 113 3 (encs (c113 false) xA.Device.Flash.Blocks), .sl false 87 2 (encs c87 xA.Device.Store.Vols), .sl false 175 2 (encs (c175 false) xA.Device.Store.Arena.Knots), .int .i64 xA.Device.Store.Next, .int .i64 xA.Device.Seq, .int .i64 xA.Device.Tx, .int .i64 xA.Device.Base, .sl false 3 1 (encs c3 xA.Codes), .sl false 9 1 (encs c9 xA.Told), .sl false 99 2 (encs (c99 false) xA.Model), .sl false 102 4 (encs c102 xA.Steps)] ?_
 refine LWp.b [] 3 [.sl false 113 3 (encs (c113 false) xB.Device.Flash.Blocks), .sl false 87 2 (encs c87 xB.Device.Store.Vols), .sl false 175 2 (encs (c175 false) xB.Device.Store.Arena.Knots), .int .i64 xB.Device.Store.Next, .int .i64 xB.Device.Seq, .int .i64 xB.Device.Tx, .int .i64 xB.Device.Base, .sl false 3 1 (encs c3 xB.Codes), .sl false 9 1 (encs c9 xB.Told), .sl false 99 2 (encs (c99 false) xB.Model), .sl false 102 4 (encs c102 xB.Steps)] ?_
 refine LWp.o 4 (B false) ?_
 refine LWp.nil ?_
 refine Wp.seq ?_
 refine Wp.seq (Wp.region ?_)
 refine LWp.o 5 (.one (.ptr (.box 2) 1 [] 0)) ?_
 refine LWp.o 6 (.agg [.sl false 113 3 (encs (c113 false) xA.Device.Flash.Blocks), .sl false 87 2 (encs c87 xA.Device.Store.Vols), .sl false 175 2 (encs (c175 false) xA.Device.Store.Arena.Knots), .int .i64 xA.Device.Store.Next, .int .i64 xA.Device.Seq, .int .i64 xA.Device.Tx, .int .i64 xA.Device.Base]) ?_
 refine LWp.o 7 (.one (.ptr (.box 3) 1 [] 0)) ?_
 refine LWp.o 8 (.agg [.sl false 113 3 (encs (c113 false) xB.Device.Flash.Blocks), .sl false 87 2 (encs c87 xB.Device.Store.Vols), .sl false 175 2 (encs (c175 false) xB.Device.Store.Arena.Knots), .int .i64 xB.Device.Store.Next, .int .i64 xB.Device.Seq, .int .i64 xB.Device.Tx, .int .i64 xB.Device.Base]) ?_
 refine LWp.cl h 9 (fun v1 => (B v1)) rfl (l := [.sv (.agg [.sl false 113 3 (encs (c113 false) xA.Device.Flash.Blocks), .sl false 87 2 (encs c87 xA.Device.Store.Vols), .sl false 175 2 (encs (c175 false) xA.Device.Store.Arena.Knots), .int .i64 xA.Device.Store.Next, .int .i64 xA.Device.Seq, .int .i64 xA.Device.Tx, .int .i64 xA.Device.Base]), .sv (.agg [.sl false 113 3 (encs (c113 false) xB.Device.Flash.Blocks), .sl false 87 2 (encs c87 xB.Device.Store.Vols), .sl false 175 2 (encs (c175 false) xB.Device.Store.Arena.Knots), .int .i64 xB.Device.Store.Next, .int .i64 xB.Device.Seq, .int .i64 xB.Device.Tx, .int .i64 xB.Device.Base])]) rfl (fun v hv => w_eqDevice_t xA.Device xB.Device v hv) (.inl rfl) ?_
 intro v1 gv1 h
 refine LWp.o 10 (B (!v1)) ?_
 refine LWp.nil ?_
 refine Wp.c h (fun h => ?_) (fun h => ?_)
 · refine Wp.seq (Wp.region ?_)
   refine LWp.o 4 (B false) ?_
   refine LWp.nil ?_
   cases h
   exact Wp.ret ⟨.inr rfl, _, _, rfl, rfl⟩
 refine Wp.skip ?_
 refine Wp.seq ?_
 refine Wp.seq (Wp.region ?_)
 refine LWp.o 11 (.one (.ptr (.box 2) 1 [] 7)) ?_
 refine LWp.o 12 (.one (.sl false 3 1 (encs c3 xA.Codes))) ?_
 refine LWp.o 13 (.one (.ptr (.box 3) 1 [] 7)) ?_
 refine LWp.o 14 (.one (.sl false 3 1 (encs c3 xB.Codes))) ?_
 refine LWp.cl h 15 (fun v2 => (B v2)) rfl (l := [.sv (.one (.sl false 3 1 (encs c3 xA.Codes))), .sv (.one (.sl false 3 1 (encs c3 xB.Codes)))]) rfl (fun v hv => w_eqIntS_t xA.Codes xB.Codes v hv) (.inl rfl) ?_
 intro v2 gv2 h
 refine LWp.o 16 (B (!v2)) ?_
 refine LWp.nil ?_
 refine Wp.c h (fun h => ?_) (fun h => ?_)
 · refine Wp.seq (Wp.region ?_)
   refine LWp.o 4 (B false) ?_
   refine LWp.nil ?_
   cases h
   exact Wp.ret ⟨.inr rfl, _, _, rfl, rfl⟩
 refine Wp.skip ?_
 refine Wp.seq ?_
 refine Wp.seq (Wp.region ?_)
 refine LWp.o 17 (.one (.ptr (.box 2) 1 [] 8)) ?_
 refine LWp.o 18 (.one (.sl false 9 1 (encs c9 xA.Told))) ?_
 refine LWp.o 19 (.one (.ptr (.box 3) 1 [] 8)) ?_
 refine LWp.o 20 (.one (.sl false 9 1 (encs c9 xB.Told))) ?_
 refine LWp.cl h 21 (fun v3 => (B v3)) rfl (l := [.sv (.one (.sl false 9 1 (encs c9 xA.Told))), .sv (.one (.sl false 9 1 (encs c9 xB.Told)))]) rfl (fun v hv => w_eqStringS_t xA.Told xB.Told v hv) (.inl rfl) ?_
 intro v3 gv3 h
 refine LWp.o 22 (B (!v3)) ?_
 refine LWp.nil ?_
 refine Wp.c h (fun h => ?_) (fun h => ?_)
 · refine Wp.seq (Wp.region ?_)
   refine LWp.o 4 (B false) ?_
   refine LWp.nil ?_
   cases h
   exact Wp.ret ⟨.inr rfl, _, _, rfl, rfl⟩
 refine Wp.skip ?_
 refine Wp.seq ?_
 refine Wp.seq (Wp.region ?_)
 refine LWp.o 23 (.one (.ptr (.box 2) 1 [] 9)) ?_
 refine LWp.o 24 (.one (.sl false 99 2 (encs (c99 false) xA.Model))) ?_
 refine LWp.o 25 (.one (.ptr (.box 3) 1 [] 9)) ?_
 refine LWp.o 26 (.one (.sl false 99 2 (encs (c99 false) xB.Model))) ?_
 refine LWp.cl h 27 (fun v4 => (B v4)) rfl (l := [.sv (.one (.sl false 99 2 (encs (c99 false) xA.Model))), .sv (.one (.sl false 99 2 (encs (c99 false) xB.Model)))]) rfl (fun v hv => w_eqShelfS_t xA.Model xB.Model v hv) (.inl rfl) ?_
 intro v4 gv4 h
 refine LWp.o 28 (B (!v4)) ?_
 refine LWp.nil ?_
 refine Wp.c h (fun h => ?_) (fun h => ?_)
 · refine Wp.seq (Wp.region ?_)
   refine LWp.o 4 (B false) ?_
   refine LWp.nil ?_
   cases h
   exact Wp.ret ⟨.inr rfl, _, _, rfl, rfl⟩
 refine Wp.skip ?_
 refine Wp.seq ?_
 refine Wp.seq (Wp.region ?_)
 refine LWp.o 29 (.one (.ptr (.box 2) 1 [] 10)) ?_
 refine LWp.o 30 (.one (.sl false 102 4 (encs c102 xA.Steps))) ?_
 refine LWp.o 31 (.one (.ptr (.box 3) 1 [] 10)) ?_
 refine LWp.o 32 (.one (.sl false 102 4 (encs c102 xB.Steps))) ?_
 refine LWp.cl h 33 (fun v5 => (B v5)) rfl (l := [.sv (.one (.sl false 102 4 (encs c102 xA.Steps))), .sv (.one (.sl false 102 4 (encs c102 xB.Steps)))]) rfl (fun v hv => w_eqStepS_t xA.Steps xB.Steps v hv) (.inl rfl) ?_
 intro v5 gv5 h
 refine LWp.o 34 (B (!v5)) ?_
 refine LWp.nil ?_
 refine Wp.c h (fun h => ?_) (fun h => ?_)
 · refine Wp.seq (Wp.region ?_)
   refine LWp.o 4 (B false) ?_
   refine LWp.nil ?_
   cases h
   exact Wp.ret ⟨.inr rfl, _, _, rfl, rfl⟩
 refine Wp.skip ?_
 refine Wp.seq (Wp.region ?_)
 refine LWp.o 4 (B true) ?_
 refine LWp.nil ?_
 cases h
 exact Wp.ret ⟨.inr rfl, _, _, rfl, rfl⟩
set_option maxHeartbeats 4000000 in
theorem w_FnExactFaithful_t (xAW : World) (r : Bool) (h : w_FnExactFaithful xAW = some r) : Gives Tryz.prog 3 [.sv (.agg [.sl false 137 3 (encs (c137 false) xAW.Device.Flash.Blocks), .sl false 155 2 (encs c155 xAW.Device.Store.Vols), .sl false 163 2 (encs (c163 false) xAW.Device.Store.Arena.Knots), .int .i64 xAW.Device.Store.Next, .int .i64 xAW.Device.Seq, .int .i64 xAW.Device.Tx, .int .i64 xAW.Device.Base, .sl false 3 1 (encs c3 xAW.Codes), .sl false 9 1 (encs c9 xAW.Told), .sl false 95 2 (encs (c95 false) xAW.Model), .sl false 98 4 (encs c98 xAW.Steps)])] (B r) (List.replicate 1 .gone) := by
 unfold w_FnExactFaithful at h
 refine gives_of Tryz.func3 rfl ?_
 rw [Tryz.ntmps3]
 refine Wp.seq (Wp.region ?_)
 refine LWp.b [] 1 [.sl false 137 3 (encs (c137 false) xAW.Device.Flash.Blocks), .sl false 155 2 (encs c155 xAW.Device.Store.Vols), .sl false 163 2 (encs (c163 false) xAW.Device.Store.Arena.Knots), .int .i64 xAW.Device.Store.Next, .int .i64 xAW.Device.Seq, .int .i64 xAW.Device.Tx, .int .i64 xAW.Device.Base, .sl false 3 1 (encs c3 xAW.Codes), .sl false 9 1 (encs c9 xAW.Told), .sl false 95 2 (encs (c95 false) xAW.Model), .sl false 98 4 (encs c98 xAW.Steps)] ?_
 refine LWp.o 2 (B false) ?_
 refine LWp.nil ?_
 refine Wp.seq (Wp.region ?_)
 refine LWp.o 3 (I 1048576) ?_
 refine LWp.nil ?_
 refine Wp.seq (Wp.region ?_)
 refine LWp.o 7 (.agg [.sl false 137 3 (encs (c137 false) xAW.Device.Flash.Blocks), .sl false 155 2 (encs c155 xAW.Device.Store.Vols), .sl false 163 2 (encs (c163 false) xAW.Device.Store.Arena.Knots), .int .i64 xAW.Device.Store.Next, .int .i64 xAW.Device.Seq, .int .i64 xAW.Device.Tx, .int .i64 xAW.Device.Base, .sl false 3 1 (encs c3 xAW.Codes), .sl false 9 1 (encs c9 xAW.Told), .sl false 95 2 (encs (c95 false) xAW.Model), .sl false 98 4 (encs c98 xAW.Steps)]) ?_
 refine LWp.o 8 (I 1048576) ?_
 refine LWp.cl h 9 (fun v1 => (I v1)) rfl (l := [.sv (.agg [.sl false 137 3 (encs (c137 false) xAW.Device.Flash.Blocks), .sl false 155 2 (encs c155 xAW.Device.Store.Vols), .sl false 163 2 (encs (c163 false) xAW.Device.Store.Arena.Knots), .int .i64 xAW.Device.Store.Next, .int .i64 xAW.Device.Seq, .int .i64 xAW.Device.Tx, .int .i64 xAW.Device.Base, .sl false 3 1 (encs c3 xAW.Codes), .sl false 9 1 (encs c9 xAW.Told), .sl false 95 2 (encs (c95 false) xAW.Model), .sl false 98 4 (encs c98 xAW.Steps)]), .sv (.one (.int .i64 1048576))]) rfl (fun v hv => w_szWorld_t xAW 1048576 v hv) (.inl rfl) ?_
 intro v1 gv1 h
 refine LWp.o 3 (I v1) ?_
 refine LWp.nil ?_
 refine Wp.seq ?_
 refine Wp.seq (Wp.region ?_)
 refine LWp.o 10 (I v1) ?_
 refine LWp.o 11 (B (decide (v1 < 0))) ?_
 refine LWp.nil ?_
 refine Wp.c h (fun h => ?_) (fun h => ?_)
 · refine Wp.seq (Wp.region ?_)
   refine LWp.o 2 (B true) ?_
   refine LWp.nil ?_
   cases h
   exact Wp.ret ⟨.inr rfl, _, _, rfl, rfl⟩
 refine Wp.skip ?_
 refine Wp.seq (Wp.region ?_)
 refine LWp.o 12 (.agg [.sl false 137 3 (encs (c137 false) xAW.Device.Flash.Blocks), .sl false 155 2 (encs c155 xAW.Device.Store.Vols), .sl false 163 2 (encs (c163 false) xAW.Device.Store.Arena.Knots), .int .i64 xAW.Device.Store.Next, .int .i64 xAW.Device.Seq, .int .i64 xAW.Device.Tx, .int .i64 xAW.Device.Base, .sl false 3 1 (encs c3 xAW.Codes), .sl false 9 1 (encs c9 xAW.Told), .sl false 95 2 (encs (c95 false) xAW.Model), .sl false 98 4 (encs c98 xAW.Steps)]) ?_
 refine LWp.cl h 13 (fun v2 => (.agg [.sl true 113 3 (encs (c113 true) v2.Device.Flash.Blocks), .sl true 87 2 (encs c87 v2.Device.Store.Vols), .sl true 175 2 (encs (c175 true) v2.Device.Store.Arena.Knots), .int .i64 v2.Device.Store.Next, .int .i64 v2.Device.Seq, .int .i64 v2.Device.Tx, .int .i64 v2.Device.Base, .sl true 3 1 (encs c3 v2.Codes), .sl true 9 1 (encs c9 v2.Told), .sl true 99 2 (encs (c99 true) v2.Model), .sl true 102 4 (encs c102 v2.Steps)])) rfl (l := [.sv (.agg [.sl false 137 3 (encs (c137 false) xAW.Device.Flash.Blocks), .sl false 155 2 (encs c155 xAW.Device.Store.Vols), .sl false 163 2 (encs (c163 false) xAW.Device.Store.Arena.Knots), .int .i64 xAW.Device.Store.Next, .int .i64 xAW.Device.Seq, .int .i64 xAW.Device.Tx, .int .i64 xAW.Device.Base, .sl false 3 1 (encs c3 xAW.Codes), .sl false 9 1 (encs c9 xAW.Told), .sl false 95 2 (encs (c95 false) xAW.Model), .sl false 98 4 (encs c98 xAW.Steps)])]) rfl (fun v hv => w_toWorld_t xAW v hv) (.inl rfl) ?_
 intro v2 gv2 h
 refine LWp.cl h 14 (fun v3 => (B v3)) rfl (l := [.sv (.agg [.sl false 113 3 (shares (encs (c113 true) v2.Device.Flash.Blocks)), .sl false 87 2 (shares (encs c87 v2.Device.Store.Vols)), .sl false 175 2 (shares (encs (c175 true) v2.Device.Store.Arena.Knots)), .int .i64 v2.Device.Store.Next, .int .i64 v2.Device.Seq, .int .i64 v2.Device.Tx, .int .i64 v2.Device.Base, .sl false 3 1 (shares (encs c3 v2.Codes)), .sl false 9 1 (shares (encs c9 v2.Told)), .sl false 99 2 (shares (encs (c99 true) v2.Model)), .sl false 102 4 (shares (encs c102 v2.Steps))])]) rfl (fun v hv => cg (l := [.sv (.agg [.sl false 113 3 (shares (encs (c113 true) v2.Device.Flash.Blocks)), .sl false 87 2 (shares (encs c87 v2.Device.Store.Vols)), .sl false 175 2 (shares (encs (c175 true) v2.Device.Store.Arena.Knots)), .int .i64 v2.Device.Store.Next, .int .i64 v2.Device.Seq, .int .i64 v2.Device.Tx, .int .i64 v2.Device.Base, .sl false 3 1 (shares (encs c3 v2.Codes)), .sl false 9 1 (shares (encs c9 v2.Told)), .sl false 99 2 (shares (encs (c99 true) v2.Model)), .sl false 102 4 (shares (encs c102 v2.Steps))])]) (by simp only [sh3, sh9, sh87, sh99, sh102, sh113, sh175]) (s_Faithful_t v2 v hv)) (.inr (fun v => rfl)) ?_
 intro v3 gv3 h
 refine LWp.o 4 (B v3) ?_
 refine LWp.nil ?_
 refine Wp.seq (Wp.region ?_)
 refine LWp.o 15 (.agg [.sl false 137 3 (encs (c137 false) xAW.Device.Flash.Blocks), .sl false 155 2 (encs c155 xAW.Device.Store.Vols), .sl false 163 2 (encs (c163 false) xAW.Device.Store.Arena.Knots), .int .i64 xAW.Device.Store.Next, .int .i64 xAW.Device.Seq, .int .i64 xAW.Device.Tx, .int .i64 xAW.Device.Base, .sl false 3 1 (encs c3 xAW.Codes), .sl false 9 1 (encs c9 xAW.Told), .sl false 95 2 (encs (c95 false) xAW.Model), .sl false 98 4 (encs c98 xAW.Steps)]) ?_
 refine LWp.cl h 16 (fun v4 => (.agg [.sl true 113 3 (encs (c113 true) v4.Device.Flash.Blocks), .sl true 87 2 (encs c87 v4.Device.Store.Vols), .sl true 175 2 (encs (c175 true) v4.Device.Store.Arena.Knots), .int .i64 v4.Device.Store.Next, .int .i64 v4.Device.Seq, .int .i64 v4.Device.Tx, .int .i64 v4.Device.Base, .sl true 3 1 (encs c3 v4.Codes), .sl true 9 1 (encs c9 v4.Told), .sl true 99 2 (encs (c99 true) v4.Model), .sl true 102 4 (encs c102 v4.Steps)])) rfl (l := [.sv (.agg [.sl false 137 3 (encs (c137 false) xAW.Device.Flash.Blocks), .sl false 155 2 (encs c155 xAW.Device.Store.Vols), .sl false 163 2 (encs (c163 false) xAW.Device.Store.Arena.Knots), .int .i64 xAW.Device.Store.Next, .int .i64 xAW.Device.Seq, .int .i64 xAW.Device.Tx, .int .i64 xAW.Device.Base, .sl false 3 1 (encs c3 xAW.Codes), .sl false 9 1 (encs c9 xAW.Told), .sl false 95 2 (encs (c95 false) xAW.Model), .sl false 98 4 (encs c98 xAW.Steps)])]) rfl (fun v hv => w_toWorld_t xAW v hv) (.inl rfl) ?_
 intro v4 gv4 h
 refine LWp.b [] 5 [.sl true 113 3 (encs (c113 true) []), .sl true 87 2 (encs c87 []), .sl true 175 2 (encs (c175 true) []), .int .i64 0, .int .i64 0, .int .i64 0, .int .i64 0, .sl true 3 1 (encs c3 []), .sl true 9 1 (encs c9 []), .sl true 99 2 (encs (c99 true) []), .sl true 102 4 (encs c102 [])] ?_
 refine LWp.sb [(.slot 16, [.junk, .sl true 87 2 (encs c87 v4.Device.Store.Vols), .sl true 175 2 (encs (c175 true) v4.Device.Store.Arena.Knots), .int .i64 v4.Device.Store.Next, .int .i64 v4.Device.Seq, .int .i64 v4.Device.Tx, .int .i64 v4.Device.Base, .sl true 3 1 (encs c3 v4.Codes), .sl true 9 1 (encs c9 v4.Told), .sl true 99 2 (encs (c99 true) v4.Model), .sl true 102 4 (encs c102 v4.Steps)]), (.slot 16, [.junk, .junk, .sl true 175 2 (encs (c175 true) v4.Device.Store.Arena.Knots), .int .i64 v4.Device.Store.Next, .int .i64 v4.Device.Seq, .int .i64 v4.Device.Tx, .int .i64 v4.Device.Base, .sl true 3 1 (encs c3 v4.Codes), .sl true 9 1 (encs c9 v4.Told), .sl true 99 2 (encs (c99 true) v4.Model), .sl true 102 4 (encs c102 v4.Steps)]), (.slot 16, [.junk, .junk, .junk, .int .i64 v4.Device.Store.Next, .int .i64 v4.Device.Seq, .int .i64 v4.Device.Tx, .int .i64 v4.Device.Base, .sl true 3 1 (encs c3 v4.Codes), .sl true 9 1 (encs c9 v4.Told), .sl true 99 2 (encs (c99 true) v4.Model), .sl true 102 4 (encs c102 v4.Steps)]), (.slot 16, [.junk, .junk, .junk, .int .i64 v4.Device.Store.Next, .int .i64 v4.Device.Seq, .int .i64 v4.Device.Tx, .int .i64 v4.Device.Base, .junk, .sl true 9 1 (encs c9 v4.Told), .sl true 99 2 (encs (c99 true) v4.Model), .sl true 102 4 (encs c102 v4.Steps)]), (.slot 16, [.junk, .junk, .junk, .int .i64 v4.Device.Store.Next, .int .i64 v4.Device.Seq, .int .i64 v4.Device.Tx, .int .i64 v4.Device.Base, .junk, .junk, .sl true 99 2 (encs (c99 true) v4.Model), .sl true 102 4 (encs c102 v4.Steps)]), (.slot 16, [.junk, .junk, .junk, .int .i64 v4.Device.Store.Next, .int .i64 v4.Device.Seq, .int .i64 v4.Device.Tx, .int .i64 v4.Device.Base, .junk, .junk, .junk, .sl true 102 4 (encs c102 v4.Steps)]), (.slot 16, [.junk, .junk, .junk, .int .i64 v4.Device.Store.Next, .int .i64 v4.Device.Seq, .int .i64 v4.Device.Tx, .int .i64 v4.Device.Base, .junk, .junk, .junk, .junk])] (.box 5) [.sl true 113 3 (encs (c113 true) v4.Device.Flash.Blocks), .sl true 87 2 (encs c87 v4.Device.Store.Vols), .sl true 175 2 (encs (c175 true) v4.Device.Store.Arena.Knots), .int .i64 v4.Device.Store.Next, .int .i64 v4.Device.Seq, .int .i64 v4.Device.Tx, .int .i64 v4.Device.Base, .sl true 3 1 (encs c3 v4.Codes), .sl true 9 1 (encs c9 v4.Told), .sl true 99 2 (encs (c99 true) v4.Model), .sl true 102 4 (encs c102 v4.Steps)] ?_
 refine LWp.nil ?_
 refine Wp.seq (Wp.region ?_)
 refine LWp.o 17 (.agg [.view (.box 5) 2 [] 0, .view (.box 5) 2 [] 1, .view (.box 5) 2 [] 2, .int .i64 v4.Device.Store.Next, .int .i64 v4.Device.Seq, .int .i64 v4.Device.Tx, .int .i64 v4.Device.Base, .view (.box 5) 2 [] 7, .view (.box 5) 2 [] 8, .view (.box 5) 2 [] 9, .view (.box 5) 2 [] 10]) ?_
 refine LWp.cl h 18 (fun v5 => (B v5)) rfl (l := [.sv (.agg [.sl false 113 3 (shares (encs (c113 true) v4.Device.Flash.Blocks)), .sl false 87 2 (shares (encs c87 v4.Device.Store.Vols)), .sl false 175 2 (shares (encs (c175 true) v4.Device.Store.Arena.Knots)), .int .i64 v4.Device.Store.Next, .int .i64 v4.Device.Seq, .int .i64 v4.Device.Tx, .int .i64 v4.Device.Base, .sl false 3 1 (shares (encs c3 v4.Codes)), .sl false 9 1 (shares (encs c9 v4.Told)), .sl false 99 2 (shares (encs (c99 true) v4.Model)), .sl false 102 4 (shares (encs c102 v4.Steps))])]) rfl (fun v hv => cg (l := [.sv (.agg [.sl false 113 3 (shares (encs (c113 true) v4.Device.Flash.Blocks)), .sl false 87 2 (shares (encs c87 v4.Device.Store.Vols)), .sl false 175 2 (shares (encs (c175 true) v4.Device.Store.Arena.Knots)), .int .i64 v4.Device.Store.Next, .int .i64 v4.Device.Seq, .int .i64 v4.Device.Tx, .int .i64 v4.Device.Base, .sl false 3 1 (shares (encs c3 v4.Codes)), .sl false 9 1 (shares (encs c9 v4.Told)), .sl false 99 2 (shares (encs (c99 true) v4.Model)), .sl false 102 4 (shares (encs c102 v4.Steps))])]) (by simp only [sh3, sh9, sh87, sh99, sh102, sh113, sh175]) (i_Faithful_t v4 v hv)) (.inr (fun v => rfl)) ?_
 intro v5 gv5 h
 refine LWp.o 6 (B v5) ?_
 refine LWp.nil ?_
 refine Wp.seq ?_
 refine Wp.seq (Wp.region ?_)
 refine LWp.o 19 (B v5) ?_
 refine LWp.o 20 (B v3) ?_
 refine LWp.o 21 (B (!(v5 == v3))) ?_
 refine LWp.nil ?_
 refine Wp.c h (fun h => ?_) (fun h => ?_)
 · refine Wp.seq (Wp.region ?_)
   refine LWp.o 2 (B false) ?_
   refine LWp.nil ?_
   cases h
   exact Wp.ret ⟨.inr rfl, _, _, rfl, rfl⟩
 refine Wp.skip ?_
 refine Wp.seq ?_
 refine Wp.seq ?_
 refine Wp.regionK 5 [] mixed (fun c E h => by rcases h with ⟨h | h, _⟩ <;> cases h) ?_
 refine KWp.o 5 0 22 (.agg [.view (.box 5) 2 [] 0, .view (.box 5) 2 [] 1, .view (.box 5) 2 [] 2, .int .i64 v4.Device.Store.Next, .int .i64 v4.Device.Seq, .int .i64 v4.Device.Tx, .int .i64 v4.Device.Base, .view (.box 5) 2 [] 7, .view (.box 5) 2 [] 8, .view (.box 5) 2 [] 9, .view (.box 5) 2 [] 10]) ?_
 refine KWp.o 5 1 23 (.agg [.sl false 137 3 (encs (c137 false) xAW.Device.Flash.Blocks), .sl false 155 2 (encs c155 xAW.Device.Store.Vols), .sl false 163 2 (encs (c163 false) xAW.Device.Store.Arena.Knots), .int .i64 xAW.Device.Store.Next, .int .i64 xAW.Device.Seq, .int .i64 xAW.Device.Tx, .int .i64 xAW.Device.Base, .sl false 3 1 (encs c3 xAW.Codes), .sl false 9 1 (encs c9 xAW.Told), .sl false 95 2 (encs (c95 false) xAW.Model), .sl false 98 4 (encs c98 xAW.Steps)]) ?_
 refine KWp.w1 2 ?_
 refine KOp.cl h 2 24 (fun v6 => (.agg [.sl true 113 3 (encs (c113 true) v6.Device.Flash.Blocks), .sl true 87 2 (encs c87 v6.Device.Store.Vols), .sl true 175 2 (encs (c175 true) v6.Device.Store.Arena.Knots), .int .i64 v6.Device.Store.Next, .int .i64 v6.Device.Seq, .int .i64 v6.Device.Tx, .int .i64 v6.Device.Base, .sl true 3 1 (encs c3 v6.Codes), .sl true 9 1 (encs c9 v6.Told), .sl true 99 2 (encs (c99 true) v6.Model), .sl true 102 4 (encs c102 v6.Steps)])) rfl rfl (l := [.sv (.agg [.sl false 137 3 (encs (c137 false) xAW.Device.Flash.Blocks), .sl false 155 2 (encs c155 xAW.Device.Store.Vols), .sl false 163 2 (encs (c163 false) xAW.Device.Store.Arena.Knots), .int .i64 xAW.Device.Store.Next, .int .i64 xAW.Device.Seq, .int .i64 xAW.Device.Tx, .int .i64 xAW.Device.Base, .sl false 3 1 (encs c3 xAW.Codes), .sl false 9 1 (encs c9 xAW.Told), .sl false 95 2 (encs (c95 false) xAW.Model), .sl false 98 4 (encs c98 xAW.Steps)])]) rfl (fun v hv => w_toWorld_t xAW v hv) (.inl rfl) ?_
 intro v6 gv6 h
 refine KWp.w1 3 ?_
 refine KOp.cl h 3 25 (fun v7 => (B v7)) rfl rfl (l := [.sv (.agg [.sl false 113 3 (shares (encs (c113 true) v4.Device.Flash.Blocks)), .sl false 87 2 (shares (encs c87 v4.Device.Store.Vols)), .sl false 175 2 (shares (encs (c175 true) v4.Device.Store.Arena.Knots)), .int .i64 v4.Device.Store.Next, .int .i64 v4.Device.Seq, .int .i64 v4.Device.Tx, .int .i64 v4.Device.Base, .sl false 3 1 (shares (encs c3 v4.Codes)), .sl false 9 1 (shares (encs c9 v4.Told)), .sl false 99 2 (shares (encs (c99 true) v4.Model)), .sl false 102 4 (shares (encs c102 v4.Steps))]), .sv (.agg [.sl false 113 3 (shares (encs (c113 true) v6.Device.Flash.Blocks)), .sl false 87 2 (shares (encs c87 v6.Device.Store.Vols)), .sl false 175 2 (shares (encs (c175 true) v6.Device.Store.Arena.Knots)), .int .i64 v6.Device.Store.Next, .int .i64 v6.Device.Seq, .int .i64 v6.Device.Tx, .int .i64 v6.Device.Base, .sl false 3 1 (shares (encs c3 v6.Codes)), .sl false 9 1 (shares (encs c9 v6.Told)), .sl false 99 2 (shares (encs (c99 true) v6.Model)), .sl false 102 4 (shares (encs c102 v6.Steps))])]) rfl (fun v hv => cg (l := [.sv (.agg [.sl false 113 3 (shares (encs (c113 true) v4.Device.Flash.Blocks)), .sl false 87 2 (shares (encs c87 v4.Device.Store.Vols)), .sl false 175 2 (shares (encs (c175 true) v4.Device.Store.Arena.Knots)), .int .i64 v4.Device.Store.Next, .int .i64 v4.Device.Seq, .int .i64 v4.Device.Tx, .int .i64 v4.Device.Base, .sl false 3 1 (shares (encs c3 v4.Codes)), .sl false 9 1 (shares (encs c9 v4.Told)), .sl false 99 2 (shares (encs (c99 true) v4.Model)), .sl false 102 4 (shares (encs c102 v4.Steps))]), .sv (.agg [.sl false 113 3 (shares (encs (c113 true) v6.Device.Flash.Blocks)), .sl false 87 2 (shares (encs c87 v6.Device.Store.Vols)), .sl false 175 2 (shares (encs (c175 true) v6.Device.Store.Arena.Knots)), .int .i64 v6.Device.Store.Next, .int .i64 v6.Device.Seq, .int .i64 v6.Device.Tx, .int .i64 v6.Device.Base, .sl false 3 1 (shares (encs c3 v6.Codes)), .sl false 9 1 (shares (encs c9 v6.Told)), .sl false 99 2 (shares (encs (c99 true) v6.Model)), .sl false 102 4 (shares (encs c102 v6.Steps))])]) (by simp only [sh3, sh9, sh87, sh99, sh102, sh113, sh175]) (w_eqWorld_t v4 v6 v hv)) (.inr (fun v => rfl)) ?_
 intro v7 gv7 h
 refine KWp.o 5 4 26 (B (!v7)) ?_
 refine KWp.done ?_
 refine Wp.c h (fun h => ?_) (fun h => ?_)
 · refine Wp.seq (Wp.region ?_)
   refine LWp.o 2 (B false) ?_
   refine LWp.nil ?_
   cases h
   exact Wp.ret ⟨.inr rfl, _, _, rfl, rfl⟩
 refine Wp.skip ?_
 refine Wp.seq (Wp.region ?_)
 refine LWp.o 2 (B true) ?_
 refine LWp.nil ?_
 cases h
 exact Wp.ret ⟨.inr rfl, _, _, rfl, rfl⟩
end Go.TI
