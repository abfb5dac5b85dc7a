/- That they compute it. No condition. -/
import Derived.Test.YtcjepealfaimfaaGreatBSW1
namespace Go.TI
set_option maxRecDepth 100000
open Go Go.Proofs
set_option linter.unusedVariables false
set_option linter.unusedSimpArgs false

theorem i_numberAt_t (xA : Arena) (xRoot : Int) (xSector : Int) (r : Int) (h : i_numberAt xA xRoot xSector = some r) : Gives Tryz.prog 184 [.sv (.agg [.sl false 218 2 (encs (c218 false) xA.Knots)]), .sv (I xRoot), .sv (I xSector)] (I r) (List.replicate 3 .gone) := by
 unfold i_numberAt at h
 refine gives_of Tryz.func184 rfl ?_
 rw [Tryz.ntmps184]
 refine Wp.seq (Wp.region ?_)
 refine LWp.b [] 3 [.sl false 218 2 (encs (c218 false) xA.Knots)] ?_
 refine LWp.o 6 (I 0) ?_
 refine LWp.nil ?_
 refine Wp.seq (Wp.region ?_)
 refine LWp.o 8 (.one (.ptr (.box 3) 1 [] 0)) ?_
 refine LWp.o 9 (.one (.sl false 218 2 (encs (c218 false) xA.Knots))) ?_
 refine LWp.o 10 (I xRoot) ?_
 refine LWp.p h 11 (fun _ => (.one (.ptr (.slot 9) 1 [0] (Int.toNat xRoot * 2 + 0)))) ?_ (fun x1 gx1 => st_pure (p_ix (k218 false) (.slot 9) [] 0 gx1))
 intro x1 gx1 h
 refine LWp.o 12 (.one (.ptr (.slot 9) 1 [0] (Int.toNat xRoot * 2 + 1))) ?_ (st_pure (p_fa (k218 false) (.slot 9) [0] 0 gx1))
 refine LWp.o 13 (.one (.sl false 3 1 (encs c3 x1.Kids))) ?_ (st_pure (p_lc (k218 false) (.slot 9) [0] 1 (.sl false 3 1 (encs c3 x1.Kids)) gx1))
 refine LWp.o 14 (I xSector) ?_
 refine LWp.o 15 (I (qu xSector 4)) ?_
 refine LWp.p h 16 (fun _ => (.one (.ptr (.slot 13) 1 [0] (Int.toNat (qu xSector 4) * 1 + 0)))) ?_ (fun x2 gx2 => st_pure (p_ix k3 (.slot 13) [] 0 gx2))
 intro x2 gx2 h
 refine LWp.o 17 (I x2) ?_ (st_pure (p_lc k3 (.slot 13) [0] 0 (.int .i64 x2) gx2))
 refine LWp.o 7 (I x2) ?_
 refine LWp.nil ?_
 refine Wp.seq ?_
 refine Wp.seq (Wp.region ?_)
 refine LWp.o 18 (I x2) ?_
 refine LWp.o 19 (B (decide (x2 < 0))) ?_
 refine LWp.nil ?_
 refine Wp.c h (fun h => ?_) (fun h => ?_)
 · refine Wp.seq (Wp.region ?_)
   refine LWp.o 6 (I 0) ?_
   refine LWp.nil ?_
   cases h
   exact Wp.ret ⟨.inr rfl, _, _, rfl, rfl⟩
 refine Wp.skip ?_
 refine Wp.seq (Wp.region ?_)
 refine LWp.o 20 (.one (.ptr (.box 3) 1 [] 0)) ?_
 refine LWp.o 21 (.one (.sl false 218 2 (encs (c218 false) xA.Knots))) ?_
 refine LWp.o 22 (I x2) ?_
 refine LWp.p h 23 (fun _ => (.one (.ptr (.slot 21) 1 [0] (Int.toNat x2 * 2 + 0)))) ?_ (fun x3 gx3 => st_pure (p_ix (k218 false) (.slot 21) [] 0 gx3))
 intro x3 gx3 h
 refine LWp.o 24 (.one (.ptr (.slot 21) 1 [0] (Int.toNat x2 * 2 + 1))) ?_ (st_pure (p_fa (k218 false) (.slot 21) [0] 0 gx3))
 refine LWp.o 25 (.one (.sl false 3 1 (encs c3 x3.Kids))) ?_ (st_pure (p_lc (k218 false) (.slot 21) [0] 1 (.sl false 3 1 (encs c3 x3.Kids)) gx3))
 refine LWp.o 26 (I xSector) ?_
 refine LWp.o 27 (I (Int.tmod xSector 4)) ?_
 refine LWp.p h 28 (fun _ => (.one (.ptr (.slot 25) 1 [0] (Int.toNat (Int.tmod xSector 4) * 1 + 0)))) ?_ (fun x4 gx4 => st_pure (p_ix k3 (.slot 25) [] 0 gx4))
 intro x4 gx4 h
 refine LWp.o 29 (I x4) ?_ (st_pure (p_lc k3 (.slot 25) [0] 0 (.int .i64 x4) gx4))
 refine LWp.o 6 (I x4) ?_
 refine LWp.nil ?_
 cases h
 exact Wp.ret ⟨.inr rfl, _, _, rfl, rfl⟩
def i_GetAt_H1 (xA : Arena) (xRoot : Int) (xSector : Int) (z1 : Bool) : St := mkSt [(1, (I xRoot)), (2, (I xSector)), (3, (.one (.ptr (.box 3) 0 [] 0))), (20, (B z1))] [(.box 3, [.sl false 218 2 (encs (c218 false) xA.Knots)])]
theorem i_GetAt_t (xA : Arena) (xRoot : Int) (xSector : Int) (r : Int) (h : i_GetAt xA xRoot xSector = some r) : Gives Tryz.prog 151 [.sv (.agg [.sl false 218 2 (encs (c218 false) xA.Knots)]), .sv (I xRoot), .sv (I xSector)] (I r) (List.replicate 3 .gone) := by
 unfold i_GetAt at h
 refine gives_of Tryz.func151 rfl ?_
 rw [Tryz.ntmps151]
 refine Wp.seq (Wp.region ?_)
 refine LWp.b [] 3 [.sl false 218 2 (encs (c218 false) xA.Knots)] ?_
 refine LWp.o 6 (I 0) ?_
 refine LWp.nil ?_
 refine Wp.seq ?_
 refine Wp.seq ?_
 refine Wp.j1 h [1, 2, 3, 20] [.box 3] (fun a => (i_GetAt_H1 xA xRoot xSector a)) ?_ ?_
 · intro a h
   refine Wp.region ?_
   refine LWp.o 7 (I xSector) ?_
   refine LWp.cl h 8 (fun v1 => (B v1)) rfl (l := [.sv (.one (.int .i64 xSector)), .sv (.one (.int .i64 0)), .sv (.one (.int .i64 15))]) rfl (fun v hv => i_in_t xSector 0 15 v hv) (.inl rfl) ?_
   intro v1 gv1 h
   refine LWp.o 9 (B (!v1)) ?_
   refine LWp.o 10 (B (!v1)) ?_
   refine LWp.sp h 10 (fun h => ?_) (fun h => ?_)
   · refine LWp.sh 11 ?_
     refine LWp.sh 12 ?_
     refine LWp.sh 13 ?_
     refine LWp.sh 14 ?_
     refine LWp.o 15 (B true) ?_
     refine LWp.o 16 (B true) ?_
     refine LWp.sh 17 ?_
     refine LWp.sh 18 ?_
     refine LWp.sh 19 ?_
     refine LWp.o 20 (B true) ?_
     refine LWp.nil ?_
     cases h
     exact ⟨_, rfl, rfl, rfl⟩
   refine LWp.o 11 (.agg [.sl false 218 2 (encs (c218 false) xA.Knots)]) ?_
   refine LWp.o 12 (I xRoot) ?_
   refine LWp.cl h 13 (fun v2 => (B v2)) rfl (l := [.sv (.agg [.sl false 218 2 (encs (c218 false) xA.Knots)]), .sv (.one (.int .i64 xRoot))]) rfl (fun v hv => i_isRoot_t xA xRoot v hv) (.inl rfl) ?_
   intro v2 gv2 h
   refine LWp.o 14 (B (!v2)) ?_
   refine LWp.o 15 (B (!v2)) ?_
   refine LWp.o 16 (B (!v2)) ?_
   refine LWp.sp h 16 (fun h => ?_) (fun h => ?_)
   · refine LWp.sh 17 ?_
     refine LWp.sh 18 ?_
     refine LWp.sh 19 ?_
     refine LWp.o 20 (B true) ?_
     refine LWp.nil ?_
     cases h
     exact ⟨_, rfl, rfl, rfl⟩
   refine LWp.o 17 (.agg [.sl false 218 2 (encs (c218 false) xA.Knots)]) ?_
   refine LWp.cl h 18 (fun v3 => (B v3)) rfl (l := [.sv (.agg [.sl false 218 2 (encs (c218 false) xA.Knots)])]) rfl (fun v hv => i_ArenaOk_t xA v hv) (.inl rfl) ?_
   intro v3 gv3 h
   refine LWp.o 19 (B (!v3)) ?_
   refine LWp.o 20 (B (!v3)) ?_
   refine LWp.nil ?_
   cases h
   exact ⟨_, rfl, rfl, rfl⟩
 intro j1 h E hE
 refine nt_wp hE ?_
 change Wp _ _ _ (i_GetAt_H1 xA xRoot xSector j1) _
 refine Wp.c h (fun h => ?_) (fun h => ?_)
 · refine Wp.seq (Wp.region ?_)
   refine LWp.o 6 (I 0) ?_
   refine LWp.nil ?_
   cases h
   exact Wp.ret ⟨.inr rfl, _, _, rfl, rfl⟩
 refine Wp.skip ?_
 refine Wp.seq (Wp.region ?_)
 refine LWp.o 21 (.agg [.sl false 218 2 (encs (c218 false) xA.Knots)]) ?_
 refine LWp.o 22 (I xRoot) ?_
 refine LWp.o 23 (I xSector) ?_
 refine LWp.cl h 24 (fun v4 => (I v4)) rfl (l := [.sv (.agg [.sl false 218 2 (encs (c218 false) xA.Knots)]), .sv (.one (.int .i64 xRoot)), .sv (.one (.int .i64 xSector))]) rfl (fun v hv => i_numberAt_t xA xRoot xSector v hv) (.inl rfl) ?_
 intro v4 gv4 h
 refine LWp.o 6 (I v4) ?_
 refine LWp.nil ?_
 cases h
 exact Wp.ret ⟨.inr rfl, _, _, rfl, rfl⟩
def i_AllAt_H1 (xA : Arena) (xRoot : Int) (z1 : List Int) (z2 : Int) : St := mkSt [(1, (I xRoot)), (2, (.one (.ptr (.box 2) 0 [] 0))), (5, (.one (.sl true 3 1 (encs c3 z1)))), (7, (I z2))] [(.box 2, [.sl false 218 2 (encs (c218 false) xA.Knots)])]
def i_AllAt_H2 (z3 : List Int) : St := mkSt [(5, (.one (.sl true 3 1 (encs c3 z3))))] []
theorem i_AllAt_t (xA : Arena) (xRoot : Int) (r : List Int) (h : i_AllAt xA xRoot = some r) : Gives Tryz.prog 100 [.sv (.agg [.sl false 218 2 (encs (c218 false) xA.Knots)]), .sv (I xRoot)] (.one (.sl true 3 1 (encs c3 r))) (List.replicate 2 .gone) := by
 unfold i_AllAt at h
 refine gives_of Tryz.func100 rfl ?_
 rw [Tryz.ntmps100]
 refine Wp.seq (Wp.region ?_)
 refine LWp.b [] 2 [.sl false 218 2 (encs (c218 false) xA.Knots)] ?_
 refine LWp.o 4 (.one (.sl true 3 1 (encs c3 []))) ?_
 refine LWp.nil ?_
 refine Wp.seq (Wp.region ?_)
 refine LWp.o 5 (.one (.sl true 3 1 (encs c3 []))) ?_
 refine LWp.nil ?_
 refine Wp.seq ?_
 refine Wp.seq (Wp.region ?_)
 refine LWp.o 7 (I 0) ?_
 refine LWp.nil ?_
 refine Wp.l1 h [1, 2, 5, 7] [.box 2] (fun s => (i_AllAt_H1 xA xRoot s.1 s.2)) [5] [] (fun s => (i_AllAt_H2 s)) ⟨rfl, rfl⟩ ?_ ?_
 · rintro ⟨yOut1, y1⟩ o (h : i_AllAt_b1 xA xRoot yOut1 y1 = some o)
   unfold i_AllAt_b1 at h
   change Wp _ _ _ (i_AllAt_H1 xA xRoot yOut1 y1) _
   refine Wp.seq (Wp.region ?_)
   refine LWp.o 8 (B (decide (y1 < 16))) ?_
   refine LWp.nil ?_
   refine Wp.seq ?_
   refine Wp.c h (fun h => ?_) (fun h => ?_)
   · refine Wp.skip ?_
     refine Wp.seq ?_
     refine Wp.block ?_
     refine Wp.seq (Wp.region ?_)
     refine LWp.o 9 (I y1) ?_
     refine LWp.o 6 (I y1) ?_
     refine LWp.nil ?_
     refine Wp.region ?_
     refine LWp.o 10 (.one (.view (.slot 5) 0 [] 0)) ?_
     refine LWp.o 11 (.agg [.sl false 218 2 (encs (c218 false) xA.Knots)]) ?_
     refine LWp.o 12 (I xRoot) ?_
     refine LWp.o 13 (I y1) ?_
     refine LWp.cl h 14 (fun v1 => (I v1)) rfl (l := [.sv (.agg [.sl false 218 2 (encs (c218 false) xA.Knots)]), .sv (.one (.int .i64 xRoot)), .sv (.one (.int .i64 y1))]) rfl (fun v hv => i_GetAt_t xA xRoot y1 v hv) (.inl rfl) ?_
     intro v1 gv1 h
     refine LWp.m false [] 15 (.one (.sl true 3 1 (encs c3 [v1]))) ?_
     refine LWp.pm h [(.slot 5, [.junk])] 16 (fun q1 => (.one (.sl true 3 1 (encs c3 q1)))) ?_ (fun q1 gq1 => s_apl k3 (fun _ => rfl) [(.slot 5, [.junk])] yOut1 gq1)
     intro q1 gq1 h
     refine LWp.m true [(.slot 16, [.junk])] 5 (.one (.sl true 3 1 (encs c3 q1))) ?_
     refine LWp.nil ?_
     refine Wp.region ?_
     refine LWp.o 17 (I (ad y1 1)) ?_
     refine LWp.o 7 (I (ad y1 1)) ?_
     refine LWp.nil ?_
     cases h
     exact ⟨_, rfl, rfl, rfl⟩
   refine Wp.exit ?_
   cases h
   exact ⟨_, rfl, rfl, rfl⟩
 intro v2 h E hE
 refine nt_wp hE ?_
 change Wp _ _ _ (i_AllAt_H2 v2) _
 refine Wp.seq (Wp.region ?_)
 refine LWp.o 18 (.one (.view (.slot 5) 0 [] 0)) ?_
 refine LWp.m true [(.slot 5, [.junk])] 4 (.one (.sl true 3 1 (encs c3 v2))) ?_
 refine LWp.nil ?_
 cases h
 exact Wp.ret ⟨.inr rfl, _, _, rfl, rfl⟩
def i_BaseRecs_H1 (xS : Store) (z1 : List Rec) (z2 : Int) : St := mkSt [(1, (.one (.ptr (.box 1) 0 [] 0))), (3, (.one (.sl true 83 4 (encs c83 z1)))), (13, (.one (.sl false 110 2 (encs c110 xS.Vols)))), (14, (I (ln xS.Vols))), (15, (I z2))] [(.box 1, [.sl false 110 2 (encs c110 xS.Vols), .sl false 218 2 (encs (c218 false) xS.Arena.Knots), .int .i64 xS.Next])]
def i_BaseRecs_H2 (z3 : List Rec) : St := mkSt [(3, (.one (.sl true 83 4 (encs c83 z3))))] []
def i_BaseRecs_H3 (xS : Store) (y1 : Int) (x1 : Vol) (v1 : List Int) (z4 : List Rec) (z5 : Int) : St := mkSt [(1, (.one (.ptr (.box 1) 0 [] 0))), (3, (.one (.sl true 83 4 (encs c83 z4)))), (5, (.one (.ptr (.box 5) 0 [] 0))), (13, (.one (.sl false 110 2 (encs c110 xS.Vols)))), (14, (I (ln xS.Vols))), (15, (I y1)), (29, (.one (.sl true 3 1 (encs c3 v1)))), (30, (I (ln v1))), (31, (I z5))] [(.box 1, [.sl false 110 2 (encs c110 xS.Vols), .sl false 218 2 (encs (c218 false) xS.Arena.Knots), .int .i64 xS.Next]), (.box 5, [.int .i64 x1.Id, .int .i64 x1.Root])]
def i_BaseRecs_H4 (xS : Store) (y1 : Int) (z6 : List Rec) : St := mkSt [(1, (.one (.ptr (.box 1) 0 [] 0))), (3, (.one (.sl true 83 4 (encs c83 z6)))), (13, (.one (.sl false 110 2 (encs c110 xS.Vols)))), (14, (I (ln xS.Vols))), (15, (I y1))] [(.box 1, [.sl false 110 2 (encs c110 xS.Vols), .sl false 218 2 (encs (c218 false) xS.Arena.Knots), .int .i64 xS.Next])]
theorem i_BaseRecs_t (xS : Store) (r : List Rec) (h : i_BaseRecs xS = some r) : Gives Tryz.prog 55 [.sv (.agg [.sl false 110 2 (encs c110 xS.Vols), .sl false 218 2 (encs (c218 false) xS.Arena.Knots), .int .i64 xS.Next])] (.one (.sl true 83 4 (encs c83 r))) (List.replicate 1 .gone) := by
 unfold i_BaseRecs at h
 refine gives_of Tryz.func55 rfl ?_
 rw [Tryz.ntmps55]
 refine Wp.seq (Wp.region ?_)
 refine LWp.b [] 1 [.sl false 110 2 (encs c110 xS.Vols), .sl false 218 2 (encs (c218 false) xS.Arena.Knots), .int .i64 xS.Next] ?_
 refine LWp.o 2 (.one (.sl true 83 4 (encs c83 []))) ?_
 refine LWp.nil ?_
 refine Wp.seq (Wp.region ?_)
 refine LWp.o 8 (.one (.ptr (.box 1) 1 [] 2)) ?_
 refine LWp.o 9 (I xS.Next) ?_
 refine LWp.o 10 (.agg [.int .i64 1, .int .i64 0, .int .i64 xS.Next, .int .i64 0]) ?_
 refine LWp.m false [] 11 (.one (.sl true 83 4 (encs c83 [(Rec.mk 1 0 xS.Next 0)]))) ?_
 refine LWp.m true [(.slot 11, [.junk])] 3 (.one (.sl true 83 4 (encs c83 [(Rec.mk 1 0 xS.Next 0)]))) ?_
 refine LWp.nil ?_
 refine Wp.seq ?_
 refine Wp.seq (Wp.region ?_)
 refine LWp.o 12 (.one (.ptr (.box 1) 1 [] 0)) ?_
 refine LWp.o 13 (.one (.sl false 110 2 (encs c110 xS.Vols))) ?_
 refine LWp.o 14 (I (ln xS.Vols)) ?_ (st_pure (p_ln k110 xS.Vols))
 refine LWp.o 15 (I 0) ?_
 refine LWp.nil ?_
 refine Wp.l1 h [1, 3, 13, 14, 15] [.box 1] (fun s => (i_BaseRecs_H1 xS s.1 s.2)) [3] [] (fun s => (i_BaseRecs_H2 s)) ⟨rfl, rfl⟩ ?_ ?_
 · rintro ⟨yOut1, y1⟩ o (h : i_BaseRecs_b1 xS yOut1 y1 = some o)
   unfold i_BaseRecs_b1 at h
   change Wp _ _ _ (i_BaseRecs_H1 xS yOut1 y1) _
   refine Wp.seq (Wp.region ?_)
   refine LWp.o 16 (B (decide (y1 < (ln xS.Vols)))) ?_
   refine LWp.nil ?_
   refine Wp.seq ?_
   refine Wp.c h (fun h => ?_) (fun h => ?_)
   · refine Wp.skip ?_
     refine Wp.seq ?_
     refine Wp.block ?_
     refine Wp.seq (Wp.region ?_)
     refine LWp.p h 17 (fun _ => (.one (.ptr (.slot 13) 0 [0] (Int.toNat y1 * 2 + 0)))) ?_ (fun x1 gx1 => st_pure (p_ix k110 (.slot 13) [] 0 gx1))
     intro x1 gx1 h
     refine LWp.o 18 (.agg [.int .i64 x1.Id, .int .i64 x1.Root]) ?_ (st_pure (p_le k110 (.slot 13) [0] gx1))
     refine LWp.b [] 5 [.int .i64 0, .int .i64 0] ?_
     refine LWp.s [] (.box 5) [.int .i64 x1.Id, .int .i64 x1.Root] ?_
     refine LWp.nil ?_
     refine Wp.seq (Wp.region ?_)
     refine LWp.o 19 (.one (.view (.slot 3) 0 [] 0)) ?_
     refine LWp.o 20 (.one (.ptr (.box 5) 1 [] 0)) ?_
     refine LWp.o 21 (I x1.Id) ?_
     refine LWp.o 22 (.agg [.int .i64 2, .int .i64 x1.Id, .int .i64 0, .int .i64 0]) ?_
     refine LWp.m false [] 23 (.one (.sl true 83 4 (encs c83 [(Rec.mk 2 x1.Id 0 0)]))) ?_
     refine LWp.pm h [(.slot 3, [.junk])] 24 (fun q1 => (.one (.sl true 83 4 (encs c83 q1)))) ?_ (fun q1 gq1 => s_apl k83 (fun _ => rfl) [(.slot 3, [.junk])] yOut1 gq1)
     intro q1 gq1 h
     refine LWp.m true [(.slot 24, [.junk])] 3 (.one (.sl true 83 4 (encs c83 q1))) ?_
     refine LWp.nil ?_
     refine Wp.seq (Wp.region ?_)
     refine LWp.o 25 (.one (.ptr (.box 1) 0 [] 1)) ?_
     refine LWp.o 26 (.agg [.sl false 218 2 (encs (c218 false) xS.Arena.Knots)]) ?_
     refine LWp.o 27 (.one (.ptr (.box 5) 1 [] 1)) ?_
     refine LWp.o 28 (I x1.Root) ?_
     refine LWp.cl h 29 (fun v1 => (.one (.sl true 3 1 (encs c3 v1)))) rfl (l := [.sv (.agg [.sl false 218 2 (encs (c218 false) xS.Arena.Knots)]), .sv (.one (.int .i64 x1.Root))]) rfl (fun v hv => i_AllAt_t xS.Arena x1.Root v hv) (.inl rfl) ?_
     intro v1 gv1 h
     refine LWp.o 30 (I (ln v1)) ?_ (st_pure (p_ln k3 v1))
     refine LWp.o 31 (I 0) ?_
     refine LWp.nil ?_
     refine Wp.l1 h [1, 3, 5, 13, 14, 15, 29, 30, 31] [.box 1, .box 5] (fun s => (i_BaseRecs_H3 xS y1 x1 v1 s.1 s.2)) [1, 3, 13, 14, 15] [.box 1] (fun s => (i_BaseRecs_H4 xS y1 s)) ⟨rfl, rfl⟩ ?_ ?_
     · rintro ⟨yOut2, y2⟩ o (h : i_BaseRecs_b2 x1 v1 yOut2 y2 = some o)
       unfold i_BaseRecs_b2 at h
       change Wp _ _ _ (i_BaseRecs_H3 xS y1 x1 v1 yOut2 y2) _
       refine Wp.seq (Wp.region ?_)
       refine LWp.o 32 (B (decide (y2 < (ln v1)))) ?_
       refine LWp.nil ?_
       refine Wp.seq ?_
       refine Wp.c h (fun h => ?_) (fun h => ?_)
       · refine Wp.skip ?_
         refine Wp.seq ?_
         refine Wp.block ?_
         refine Wp.seq (Wp.region ?_)
         refine LWp.o 33 (I y2) ?_
         refine LWp.p h 34 (fun _ => (.one (.ptr (.slot 29) 0 [0] (Int.toNat y2 * 1 + 0)))) ?_ (fun x2 gx2 => st_pure (p_ix k3 (.slot 29) [] 0 gx2))
         intro x2 gx2 h
         refine LWp.o 35 (I x2) ?_ (st_pure (p_lc k3 (.slot 29) [0] 0 (.int .i64 x2) gx2))
         refine LWp.o 6 (I y2) ?_
         refine LWp.o 7 (I x2) ?_
         refine LWp.nil ?_
         refine Wp.seq (Wp.region ?_)
         refine LWp.o 36 (I x2) ?_
         refine LWp.o 37 (B (decide (x2 > 0))) ?_
         refine LWp.nil ?_
         refine Wp.c h (fun h => ?_) (fun h => ?_)
         · refine Wp.region ?_
           refine LWp.o 38 (.one (.view (.slot 3) 0 [] 0)) ?_
           refine LWp.o 39 (.one (.ptr (.box 5) 0 [] 0)) ?_
           refine LWp.o 40 (I x1.Id) ?_
           refine LWp.o 41 (I y2) ?_
           refine LWp.o 42 (I x2) ?_
           refine LWp.o 43 (.agg [.int .i64 4, .int .i64 x1.Id, .int .i64 y2, .int .i64 x2]) ?_
           refine LWp.m false [] 44 (.one (.sl true 83 4 (encs c83 [(Rec.mk 4 x1.Id y2 x2)]))) ?_
           refine LWp.pm h [(.slot 3, [.junk])] 45 (fun q2 => (.one (.sl true 83 4 (encs c83 q2)))) ?_ (fun q2 gq2 => s_apl k83 (fun _ => rfl) [(.slot 3, [.junk])] yOut2 gq2)
           intro q2 gq2 h
           refine LWp.m true [(.slot 45, [.junk])] 3 (.one (.sl true 83 4 (encs c83 q2))) ?_
           refine LWp.nil ?_
           refine Wp.region ?_
           refine LWp.o 46 (I (ad y2 1)) ?_
           refine LWp.o 31 (I (ad y2 1)) ?_
           refine LWp.nil ?_
           cases h
           exact ⟨_, rfl, rfl, rfl⟩
         refine Wp.skip ?_
         refine Wp.region ?_
         refine LWp.o 46 (I (ad y2 1)) ?_
         refine LWp.o 31 (I (ad y2 1)) ?_
         refine LWp.nil ?_
         cases h
         exact ⟨_, rfl, rfl, rfl⟩
       refine Wp.exit ?_
       cases h
       exact ⟨_, rfl, rfl, rfl⟩
     intro v2 h E hE
     refine nt_wp hE ?_
     change Wp _ _ _ (i_BaseRecs_H4 xS y1 v2) _
     refine Wp.region ?_
     refine LWp.o 47 (I (ad y1 1)) ?_
     refine LWp.o 15 (I (ad y1 1)) ?_
     refine LWp.nil ?_
     cases h
     exact ⟨_, rfl, rfl, rfl⟩
   refine Wp.exit ?_
   cases h
   exact ⟨_, rfl, rfl, rfl⟩
 intro v3 h E hE
 refine nt_wp hE ?_
 change Wp _ _ _ (i_BaseRecs_H2 v3) _
 refine Wp.seq (Wp.region ?_)
 refine LWp.o 48 (.one (.view (.slot 3) 0 [] 0)) ?_
 refine LWp.m true [(.slot 3, [.junk])] 2 (.one (.sl true 83 4 (encs c83 v3))) ?_
 refine LWp.nil ?_
 cases h
 exact Wp.ret ⟨.inr rfl, _, _, rfl, rfl⟩
def i_PageOk_H1 (xP : Page) (z1 : Bool) : St := mkSt [(1, (.one (.ptr (.box 1) 0 [] 0))), (33, (B z1))] [(.box 1, [.int .i64 xP.Kind, .int .i64 xP.Seq, .int .i64 xP.Tx, .int .i64 xP.Part, .int .i64 xP.Count, .str xP.Text])]
theorem i_PageOk_t (xP : Page) (r : Bool) (h : i_PageOk xP = some r) : Gives Tryz.prog 134 [.sv (.agg [.int .i64 xP.Kind, .int .i64 xP.Seq, .int .i64 xP.Tx, .int .i64 xP.Part, .int .i64 xP.Count, .str xP.Text])] (B r) (List.replicate 1 .gone) := by
 unfold i_PageOk at h
 refine gives_of Tryz.func134 rfl ?_
 rw [Tryz.ntmps134]
 refine Wp.seq (Wp.region ?_)
 refine LWp.b [] 1 [.int .i64 xP.Kind, .int .i64 xP.Seq, .int .i64 xP.Tx, .int .i64 xP.Part, .int .i64 xP.Count, .str xP.Text] ?_
 refine LWp.o 2 (B false) ?_
 refine LWp.nil ?_
 refine Wp.seq ?_
 refine Wp.seq ?_
 refine Wp.j1 h [1, 33] [.box 1] (fun a => (i_PageOk_H1 xP a)) ?_ ?_
 · intro a h
   refine Wp.region ?_
   refine LWp.o 3 (.one (.ptr (.box 1) 1 [] 1)) ?_
   refine LWp.o 4 (I xP.Seq) ?_
   refine LWp.cl h 5 (fun v1 => (B v1)) rfl (l := [.sv (.one (.int .i64 xP.Seq)), .sv (.one (.int .i64 1)), .sv (.one (.int .i64 1000000000))]) rfl (fun v hv => i_in_t xP.Seq 1 1000000000 v hv) (.inl rfl) ?_
   intro v1 gv1 h
   refine LWp.o 6 (B (!v1)) ?_
   refine LWp.o 7 (B (!v1)) ?_
   refine LWp.sp h 7 (fun h => ?_) (fun h => ?_)
   · refine LWp.sh 8 ?_
     refine LWp.sh 9 ?_
     refine LWp.sh 10 ?_
     refine LWp.sh 11 ?_
     refine LWp.o 12 (B true) ?_
     refine LWp.o 13 (B true) ?_
     refine LWp.sh 14 ?_
     refine LWp.sh 15 ?_
     refine LWp.sh 16 ?_
     refine LWp.sh 17 ?_
     refine LWp.o 18 (B true) ?_
     refine LWp.o 19 (B true) ?_
     refine LWp.sh 20 ?_
     refine LWp.sh 21 ?_
     refine LWp.sh 22 ?_
     refine LWp.sh 23 ?_
     refine LWp.sh 24 ?_
     refine LWp.sh 25 ?_
     refine LWp.sh 26 ?_
     refine LWp.o 27 (B true) ?_
     refine LWp.o 28 (B true) ?_
     refine LWp.sh 29 ?_
     refine LWp.sh 30 ?_
     refine LWp.sh 31 ?_
     refine LWp.sh 32 ?_
     refine LWp.o 33 (B true) ?_
     refine LWp.nil ?_
     cases h
     exact ⟨_, rfl, rfl, rfl⟩
   refine LWp.o 8 (.one (.ptr (.box 1) 1 [] 2)) ?_
   refine LWp.o 9 (I xP.Tx) ?_
   refine LWp.cl h 10 (fun v2 => (B v2)) rfl (l := [.sv (.one (.int .i64 xP.Tx)), .sv (.one (.int .i64 1)), .sv (.one (.int .i64 1000000000))]) rfl (fun v hv => i_in_t xP.Tx 1 1000000000 v hv) (.inl rfl) ?_
   intro v2 gv2 h
   refine LWp.o 11 (B (!v2)) ?_
   refine LWp.o 12 (B (!v2)) ?_
   refine LWp.o 13 (B (!v2)) ?_
   refine LWp.sp h 13 (fun h => ?_) (fun h => ?_)
   · refine LWp.sh 14 ?_
     refine LWp.sh 15 ?_
     refine LWp.sh 16 ?_
     refine LWp.sh 17 ?_
     refine LWp.o 18 (B true) ?_
     refine LWp.o 19 (B true) ?_
     refine LWp.sh 20 ?_
     refine LWp.sh 21 ?_
     refine LWp.sh 22 ?_
     refine LWp.sh 23 ?_
     refine LWp.sh 24 ?_
     refine LWp.sh 25 ?_
     refine LWp.sh 26 ?_
     refine LWp.o 27 (B true) ?_
     refine LWp.o 28 (B true) ?_
     refine LWp.sh 29 ?_
     refine LWp.sh 30 ?_
     refine LWp.sh 31 ?_
     refine LWp.sh 32 ?_
     refine LWp.o 33 (B true) ?_
     refine LWp.nil ?_
     cases h
     exact ⟨_, rfl, rfl, rfl⟩
   refine LWp.o 14 (.one (.ptr (.box 1) 1 [] 4)) ?_
   refine LWp.o 15 (I xP.Count) ?_
   refine LWp.cl h 16 (fun v3 => (B v3)) rfl (l := [.sv (.one (.int .i64 xP.Count)), .sv (.one (.int .i64 1)), .sv (.one (.int .i64 9))]) rfl (fun v hv => i_in_t xP.Count 1 9 v hv) (.inl rfl) ?_
   intro v3 gv3 h
   refine LWp.o 17 (B (!v3)) ?_
   refine LWp.o 18 (B (!v3)) ?_
   refine LWp.o 19 (B (!v3)) ?_
   refine LWp.sp h 19 (fun h => ?_) (fun h => ?_)
   · refine LWp.sh 20 ?_
     refine LWp.sh 21 ?_
     refine LWp.sh 22 ?_
     refine LWp.sh 23 ?_
     refine LWp.sh 24 ?_
     refine LWp.sh 25 ?_
     refine LWp.sh 26 ?_
     refine LWp.o 27 (B true) ?_
     refine LWp.o 28 (B true) ?_
     refine LWp.sh 29 ?_
     refine LWp.sh 30 ?_
     refine LWp.sh 31 ?_
     refine LWp.sh 32 ?_
     refine LWp.o 33 (B true) ?_
     refine LWp.nil ?_
     cases h
     exact ⟨_, rfl, rfl, rfl⟩
   refine LWp.o 20 (.one (.ptr (.box 1) 1 [] 3)) ?_
   refine LWp.o 21 (I xP.Part) ?_
   refine LWp.o 22 (.one (.ptr (.box 1) 1 [] 4)) ?_
   refine LWp.o 23 (I xP.Count) ?_
   refine LWp.o 24 (I (sb xP.Count 1)) ?_
   refine LWp.cl h 25 (fun v4 => (B v4)) rfl (l := [.sv (.one (.int .i64 xP.Part)), .sv (.one (.int .i64 0)), .sv (.one (.int .i64 (sb xP.Count 1)))]) rfl (fun v hv => i_in_t xP.Part 0 (sb xP.Count 1) v hv) (.inl rfl) ?_
   intro v4 gv4 h
   refine LWp.o 26 (B (!v4)) ?_
   refine LWp.o 27 (B (!v4)) ?_
   refine LWp.o 28 (B (!v4)) ?_
   refine LWp.sp h 28 (fun h => ?_) (fun h => ?_)
   · refine LWp.sh 29 ?_
     refine LWp.sh 30 ?_
     refine LWp.sh 31 ?_
     refine LWp.sh 32 ?_
     refine LWp.o 33 (B true) ?_
     refine LWp.nil ?_
     cases h
     exact ⟨_, rfl, rfl, rfl⟩
   refine LWp.o 29 (.one (.ptr (.box 1) 1 [] 5)) ?_
   refine LWp.o 30 (Y xP.Text) ?_
   refine LWp.o 31 (I (sln xP.Text)) ?_
   refine LWp.o 32 (B (decide ((sln xP.Text) > 90))) ?_
   refine LWp.o 33 (B (decide ((sln xP.Text) > 90))) ?_
   refine LWp.nil ?_
   cases h
   exact ⟨_, rfl, rfl, rfl⟩
 intro j1 h E hE
 refine nt_wp hE ?_
 change Wp _ _ _ (i_PageOk_H1 xP j1) _
 refine Wp.c h (fun h => ?_) (fun h => ?_)
 · refine Wp.seq (Wp.region ?_)
   refine LWp.o 2 (B false) ?_
   refine LWp.nil ?_
   cases h
   exact Wp.ret ⟨.inr rfl, _, _, rfl, rfl⟩
 refine Wp.skip ?_
 refine Wp.seq (Wp.region ?_)
 refine LWp.o 34 (.one (.ptr (.box 1) 0 [] 0)) ?_
 refine LWp.o 35 (I xP.Kind) ?_
 refine LWp.o 36 (B (xP.Kind == 2)) ?_
 refine LWp.o 37 (B (xP.Kind == 2)) ?_
 refine LWp.sp h 37 (fun h => ?_) (fun h => ?_)
 · refine LWp.sh 38 ?_
   refine LWp.sh 39 ?_
   refine LWp.sh 40 ?_
   refine LWp.sh 41 ?_
   refine LWp.sh 42 ?_
   refine LWp.sh 43 ?_
   refine LWp.sh 44 ?_
   refine LWp.sh 45 ?_
   refine LWp.o 46 (B true) ?_
   refine LWp.o 2 (B true) ?_
   refine LWp.nil ?_
   cases h
   exact Wp.ret ⟨.inr rfl, _, _, rfl, rfl⟩
 refine LWp.o 38 (.one (.ptr (.box 1) 0 [] 0)) ?_
 refine LWp.o 39 (I xP.Kind) ?_
 refine LWp.o 40 (B (xP.Kind == 1)) ?_
 refine LWp.o 41 (B (xP.Kind == 1)) ?_
 refine LWp.sp h 41 (fun h => ?_) (fun h => ?_)
 · refine LWp.o 42 (.one (.ptr (.box 1) 0 [] 4)) ?_
   refine LWp.o 43 (I xP.Count) ?_
   refine LWp.o 44 (B (xP.Count == 1)) ?_
   refine LWp.o 45 (B (xP.Count == 1)) ?_
   refine LWp.o 46 (B (xP.Count == 1)) ?_
   refine LWp.o 2 (B (xP.Count == 1)) ?_
   refine LWp.nil ?_
   cases h
   exact Wp.ret ⟨.inr rfl, _, _, rfl, rfl⟩
 refine LWp.sh 42 ?_
 refine LWp.sh 43 ?_
 refine LWp.sh 44 ?_
 refine LWp.o 45 (B false) ?_
 refine LWp.o 46 (B false) ?_
 refine LWp.o 2 (B false) ?_
 refine LWp.nil ?_
 cases h
 exact Wp.ret ⟨.inr rfl, _, _, rfl, rfl⟩
def i_VarText_H1 (z1 : Int) (z2 : List Int) : St := mkSt [(0, (I z1)), (4, (.one (.sl true 5 1 (encs c5 z2))))] []
def i_VarText_H2 (z3 : Int) (z4 : List Int) : St := mkSt [(0, (I z3)), (4, (.one (.sl true 5 1 (encs c5 z4))))] []
theorem i_VarText_t (xN : Int) (r : ByteArray × Bool) (h : i_VarText xN = some r) : Gives Tryz.prog 173 [.sv (I xN)] (.tup [(Y r.1), (B r.2)]) (List.replicate 1 .gone) := by
 unfold i_VarText at h
 refine gives_of Tryz.func173 rfl ?_
 rw [Tryz.ntmps173]
 refine Wp.seq (Wp.region ?_)
 refine LWp.o 2 (Y (bs [])) ?_
 refine LWp.o 3 (B false) ?_
 refine LWp.nil ?_
 refine Wp.seq ?_
 refine Wp.seq (Wp.region ?_)
 refine LWp.o 5 (I xN) ?_
 refine LWp.cl h 6 (fun v1 => (B v1)) rfl (l := [.sv (.one (.int .i64 xN)), .sv (.one (.int .i64 0)), .sv (.one (.int .i64 1000000000))]) rfl (fun v hv => i_in_t xN 0 1000000000 v hv) (.inl rfl) ?_
 intro v1 gv1 h
 refine LWp.o 7 (B (!v1)) ?_
 refine LWp.nil ?_
 refine Wp.c h (fun h => ?_) (fun h => ?_)
 · refine Wp.seq (Wp.region ?_)
   refine LWp.o 2 (Y (bs [])) ?_
   refine LWp.o 3 (B false) ?_
   refine LWp.nil ?_
   cases h
   exact Wp.ret ⟨.inr rfl, _, _, rfl, rfl⟩
 refine Wp.skip ?_
 refine Wp.seq (Wp.region ?_)
 refine LWp.o 4 (.one (.sl true 5 1 (encs c5 []))) ?_
 refine LWp.nil ?_
 refine Wp.seq ?_
 refine Wp.l1 h [0, 4] [] (fun s => (i_VarText_H1 s.1 s.2)) [0, 4] [] (fun s => (i_VarText_H2 s.1 s.2)) ⟨rfl, rfl⟩ ?_ ?_
 · rintro ⟨yN1, yOut1⟩ o (h : i_VarText_b1 yN1 yOut1 = some o)
   unfold i_VarText_b1 at h
   change Wp _ _ _ (i_VarText_H1 yN1 yOut1) _
   refine Wp.seq ?_
   refine Wp.seq (Wp.region ?_)
   refine LWp.o 8 (I yN1) ?_
   refine LWp.o 9 (B (decide (yN1 > 127))) ?_
   refine LWp.nil ?_
   refine Wp.c h (fun h => ?_) (fun h => ?_)
   · refine Wp.skip ?_
     refine Wp.block ?_
     refine Wp.seq (Wp.region ?_)
     refine LWp.o 10 (.one (.view (.slot 4) 0 [] 0)) ?_
     refine LWp.o 11 (I yN1) ?_
     refine LWp.o 12 (I (Int.tmod yN1 128)) ?_
     refine LWp.o 13 (I (ad (Int.tmod yN1 128) 128)) ?_
     refine LWp.o 14 (.one (.int .u8 (IntKind.u8.wrap (ad (Int.tmod yN1 128) 128)))) ?_
     refine LWp.m false [] 15 (.one (.sl true 5 1 (encs c5 [(IntKind.u8.wrap (ad (Int.tmod yN1 128) 128))]))) ?_
     refine LWp.pm h [(.slot 4, [.junk])] 16 (fun q1 => (.one (.sl true 5 1 (encs c5 q1)))) ?_ (fun q1 gq1 => s_apl k5 (fun _ => rfl) [(.slot 4, [.junk])] yOut1 gq1)
     intro q1 gq1 h
     refine LWp.m true [(.slot 16, [.junk])] 4 (.one (.sl true 5 1 (encs c5 q1))) ?_
     refine LWp.nil ?_
     refine Wp.region ?_
     refine LWp.o 17 (I yN1) ?_
     refine LWp.o 18 (I (qu yN1 128)) ?_
     refine LWp.o 0 (I (qu yN1 128)) ?_
     refine LWp.nil ?_
     cases h
     exact ⟨_, rfl, rfl, rfl⟩
   refine Wp.exit ?_
   cases h
   exact ⟨_, rfl, rfl, rfl⟩
 intro v2 h E hE
 refine nt_wp hE ?_
 change Wp _ _ _ (i_VarText_H2 v2.1 v2.2) _
 refine Wp.seq (Wp.region ?_)
 refine LWp.o 19 (.one (.view (.slot 4) 0 [] 0)) ?_
 refine LWp.o 20 (I v2.1) ?_
 refine LWp.o 21 (.one (.int .u8 (IntKind.u8.wrap v2.1))) ?_
 refine LWp.m false [] 22 (.one (.sl true 5 1 (encs c5 [(IntKind.u8.wrap v2.1)]))) ?_
 refine LWp.pm h [(.slot 4, [.junk])] 23 (fun q2 => (.one (.sl true 5 1 (encs c5 q2)))) ?_ (fun q2 gq2 => s_apl k5 (fun _ => rfl) [(.slot 4, [.junk])] v2.2 gq2)
 intro q2 gq2 h
 refine LWp.o 24 (Y (strB q2)) ?_ (st_pure (p_cv (fun _ => rfl) q2))
 refine LWp.o 2 (Y (strB q2)) ?_
 refine LWp.o 3 (B true) ?_
 refine LWp.nil ?_
 cases h
 exact Wp.ret ⟨.inr rfl, _, _, rfl, rfl⟩
theorem i_varOf_t (xN : Int) (r : ByteArray) (h : i_varOf xN = some r) : Gives Tryz.prog 136 [.sv (I xN)] (Y r) (List.replicate 1 .gone) := by
 unfold i_varOf at h
 refine gives_of Tryz.func136 rfl ?_
 rw [Tryz.ntmps136]
 refine Wp.seq (Wp.region ?_)
 refine LWp.o 2 (Y (bs [])) ?_
 refine LWp.nil ?_
 refine Wp.seq (Wp.region ?_)
 refine LWp.o 6 (I xN) ?_
 refine LWp.cl h 7 (fun v1 => (.tup [(Y v1.1), (B v1.2)])) rfl (l := [.sv (.one (.int .i64 xN))]) rfl (fun v hv => i_VarText_t xN v hv) (.inl rfl) ?_
 intro v1 gv1 h
 refine LWp.mt 7 5 (.tup [(Y v1.1), (B v1.2)]) ?_
 refine LWp.e 5 0 8 (Y v1.1) ?_
 refine LWp.e 5 1 9 (B v1.2) ?_
 refine LWp.o 3 (Y v1.1) ?_
 refine LWp.o 4 (B v1.2) ?_
 refine LWp.nil ?_
 refine Wp.seq (Wp.region ?_)
 refine LWp.o 10 (Y v1.1) ?_
 refine LWp.o 2 (Y v1.1) ?_
 refine LWp.nil ?_
 cases h
 exact Wp.ret ⟨.inr rfl, _, _, rfl, rfl⟩
def i_SumMore_H1 (xText : ByteArray) (z1 : Int) (z2 : Int) : St := mkSt [(0, (.one (.int .u32 z1))), (1, (Y xText)), (5, (I z2))] []
def i_SumMore_H2 (z3 : Int) : St := mkSt [(0, (.one (.int .u32 z3)))] []
def i_SumMore_H3 (xText : ByteArray) (yI1 : Int) (z4 : Int) (z5 : Int) : St := mkSt [(0, (.one (.int .u32 z4))), (1, (Y xText)), (5, (I yI1)), (19, (I z5))] []
def i_SumMore_H4 (xText : ByteArray) (yI1 : Int) (z6 : Int) : St := mkSt [(0, (.one (.int .u32 z6))), (1, (Y xText)), (5, (I yI1))] []
theorem i_SumMore_t (xSum : Int) (xText : ByteArray) (r : Int) (h : i_SumMore xSum xText = some r) : Gives Tryz.prog 203 [.sv (.one (.int .u32 xSum)), .sv (Y xText)] (.one (.int .u32 r)) (List.replicate 2 .gone) := by
 unfold i_SumMore at h
 refine gives_of Tryz.func203 rfl ?_
 rw [Tryz.ntmps203]
 refine Wp.seq (Wp.region ?_)
 refine LWp.o 4 (.one (.int .u32 0)) ?_
 refine LWp.nil ?_
 refine Wp.seq ?_
 refine Wp.seq (Wp.region ?_)
 refine LWp.o 5 (I 0) ?_
 refine LWp.nil ?_
 refine Wp.l1 h [0, 1, 5] [] (fun s => (i_SumMore_H1 xText s.1 s.2)) [0] [] (fun s => (i_SumMore_H2 s)) ⟨rfl, rfl⟩ ?_ ?_
 · rintro ⟨ySum1, yI1⟩ o (h : i_SumMore_b1 xText ySum1 yI1 = some o)
   unfold i_SumMore_b1 at h
   change Wp _ _ _ (i_SumMore_H1 xText ySum1 yI1) _
   refine Wp.seq ?_
   refine Wp.seq (Wp.region ?_)
   refine LWp.o 7 (I yI1) ?_
   refine LWp.o 8 (Y xText) ?_
   refine LWp.o 9 (I (sln xText)) ?_
   refine LWp.o 10 (B (decide (yI1 < (sln xText)))) ?_
   refine LWp.nil ?_
   refine Wp.c h (fun h => ?_) (fun h => ?_)
   · refine Wp.skip ?_
     refine Wp.seq ?_
     refine Wp.block ?_
     refine Wp.seq (Wp.region ?_)
     refine LWp.o 13 (.one (.int .u32 ySum1)) ?_
     refine LWp.o 14 (Y xText) ?_
     refine LWp.o 15 (I yI1) ?_
     refine LWp.p h 16 (fun x1 => (.one (.int .u8 x1))) ?_ (fun x1 gx1 => st_pure (p_sx gx1))
     intro x1 gx1 h
     refine LWp.o 17 (.one (.int .u32 (IntKind.u32.wrap x1))) ?_
     refine LWp.o 18 (.one (.int .u32 (xr ySum1 (IntKind.u32.wrap x1)))) ?_
     refine LWp.o 0 (.one (.int .u32 (xr ySum1 (IntKind.u32.wrap x1)))) ?_
     refine LWp.nil ?_
     refine Wp.seq (Wp.region ?_)
     refine LWp.o 19 (I 0) ?_
     refine LWp.nil ?_
     refine Wp.l1 h [0, 1, 5, 19] [] (fun s => (i_SumMore_H3 xText yI1 s.1 s.2)) [0, 1, 5] [] (fun s => (i_SumMore_H4 xText yI1 s)) ⟨rfl, rfl⟩ ?_ ?_
     · rintro ⟨ySum2, y1⟩ o (h : i_SumMore_b2 ySum2 y1 = some o)
       unfold i_SumMore_b2 at h
       change Wp _ _ _ (i_SumMore_H3 xText yI1 ySum2 y1) _
       refine Wp.seq (Wp.region ?_)
       refine LWp.o 20 (B (decide (y1 < 8))) ?_
       refine LWp.nil ?_
       refine Wp.seq ?_
       refine Wp.c h (fun h => ?_) (fun h => ?_)
       · refine Wp.skip ?_
         refine Wp.seq ?_
         refine Wp.block ?_
         refine Wp.seq (Wp.region ?_)
         refine LWp.o 21 (.one (.int .u32 ySum2)) ?_
         refine LWp.o 22 (.one (.int .u32 (an ySum2 1))) ?_
         refine LWp.o 6 (.one (.int .u32 (an ySum2 1))) ?_
         refine LWp.nil ?_
         refine Wp.seq (Wp.region ?_)
         refine LWp.o 23 (.one (.int .u32 ySum2)) ?_
         refine LWp.o 24 (.one (.int .u32 (Int.fdiv ySum2 (2 ^ (min (1 : Int).toNat IntKind.u32.bits))))) ?_
         refine LWp.o 0 (.one (.int .u32 (Int.fdiv ySum2 (2 ^ (min (1 : Int).toNat IntKind.u32.bits))))) ?_
         refine LWp.nil ?_
         refine Wp.seq (Wp.region ?_)
         refine LWp.o 25 (.one (.int .u32 (an ySum2 1))) ?_
         refine LWp.o 26 (B ((an ySum2 1) == 1)) ?_
         refine LWp.nil ?_
         refine Wp.c h (fun h => ?_) (fun h => ?_)
         · refine Wp.region ?_
           refine LWp.o 27 (.one (.int .u32 (Int.fdiv ySum2 (2 ^ (min (1 : Int).toNat IntKind.u32.bits))))) ?_
           refine LWp.o 28 (.one (.int .u32 (xr (Int.fdiv ySum2 (2 ^ (min (1 : Int).toNat IntKind.u32.bits))) 3558460437))) ?_
           refine LWp.o 0 (.one (.int .u32 (xr (Int.fdiv ySum2 (2 ^ (min (1 : Int).toNat IntKind.u32.bits))) 3558460437))) ?_
           refine LWp.nil ?_
           refine Wp.region ?_
           refine LWp.o 29 (I (ad y1 1)) ?_
           refine LWp.o 19 (I (ad y1 1)) ?_
           refine LWp.nil ?_
           cases h
           exact ⟨_, rfl, rfl, rfl⟩
         refine Wp.skip ?_
         refine Wp.region ?_
         refine LWp.o 29 (I (ad y1 1)) ?_
         refine LWp.o 19 (I (ad y1 1)) ?_
         refine LWp.nil ?_
         cases h
         exact ⟨_, rfl, rfl, rfl⟩
       refine Wp.exit ?_
       cases h
       exact ⟨_, rfl, rfl, rfl⟩
     intro v1 h E hE
     refine nt_wp hE ?_
     change Wp _ _ _ (i_SumMore_H4 xText yI1 v1) _
     refine Wp.region ?_
     refine LWp.o 11 (I yI1) ?_
     refine LWp.o 12 (I (ad yI1 1)) ?_
     refine LWp.o 5 (I (ad yI1 1)) ?_
     refine LWp.nil ?_
     cases h
     exact ⟨_, rfl, rfl, rfl⟩
   refine Wp.exit ?_
   cases h
   exact ⟨_, rfl, rfl, rfl⟩
 intro v2 h E hE
 refine nt_wp hE ?_
 change Wp _ _ _ (i_SumMore_H2 v2) _
 refine Wp.seq (Wp.region ?_)
 refine LWp.o 30 (.one (.int .u32 v2)) ?_
 refine LWp.o 4 (.one (.int .u32 v2)) ?_
 refine LWp.nil ?_
 cases h
 exact Wp.ret ⟨.inr rfl, _, _, rfl, rfl⟩
theorem i_SumOf_t (xText : ByteArray) (r : Int) (h : i_SumOf xText = some r) : Gives Tryz.prog 172 [.sv (Y xText)] (.one (.int .u32 r)) (List.replicate 1 .gone) := by
 unfold i_SumOf at h
 refine gives_of Tryz.func172 rfl ?_
 rw [Tryz.ntmps172]
 refine Wp.seq (Wp.region ?_)
 refine LWp.o 2 (.one (.int .u32 0)) ?_
 refine LWp.nil ?_
 refine Wp.seq (Wp.region ?_)
 refine LWp.o 3 (Y xText) ?_
 refine LWp.cl h 4 (fun v1 => (.one (.int .u32 v1))) rfl (l := [.sv (.one (.int .u32 4294967295)), .sv (.one (.str xText))]) rfl (fun v hv => i_SumMore_t 4294967295 xText v hv) (.inl rfl) ?_
 intro v1 gv1 h
 refine LWp.o 2 (.one (.int .u32 v1)) ?_
 refine LWp.nil ?_
 cases h
 exact Wp.ret ⟨.inr rfl, _, _, rfl, rfl⟩
theorem i_Sealed_t (xText : ByteArray) (r : ByteArray × Bool) (h : i_Sealed xText = some r) : Gives Tryz.prog 135 [.sv (Y xText)] (.tup [(Y r.1), (B r.2)]) (List.replicate 1 .gone) := by
 unfold i_Sealed at h
 refine gives_of Tryz.func135 rfl ?_
 rw [Tryz.ntmps135]
 refine Wp.seq (Wp.region ?_)
 refine LWp.o 2 (Y (bs [])) ?_
 refine LWp.o 3 (B false) ?_
 refine LWp.nil ?_
 refine Wp.seq ?_
 refine Wp.seq (Wp.region ?_)
 refine LWp.o 5 (Y xText) ?_
 refine LWp.o 6 (I (sln xText)) ?_
 refine LWp.o 7 (B (decide ((sln xText) > 20000))) ?_
 refine LWp.nil ?_
 refine Wp.c h (fun h => ?_) (fun h => ?_)
 · refine Wp.seq (Wp.region ?_)
   refine LWp.o 2 (Y (bs [])) ?_
   refine LWp.o 3 (B false) ?_
   refine LWp.nil ?_
   cases h
   exact Wp.ret ⟨.inr rfl, _, _, rfl, rfl⟩
 refine Wp.skip ?_
 refine Wp.seq (Wp.region ?_)
 refine LWp.o 8 (Y xText) ?_
 refine LWp.cl h 9 (fun v1 => (.one (.int .u32 v1))) rfl (l := [.sv (.one (.str xText))]) rfl (fun v hv => i_SumOf_t xText v hv) (.inl rfl) ?_
 intro v1 gv1 h
 refine LWp.o 4 (.one (.int .u32 v1)) ?_
 refine LWp.nil ?_
 refine Wp.seq (Wp.region ?_)
 refine LWp.o 10 (Y xText) ?_
 refine LWp.o 11 (.one (.int .u32 v1)) ?_
 refine LWp.o 12 (.one (.int .u32 (Int.fdiv v1 (2 ^ (min (24 : Int).toNat IntKind.u32.bits))))) ?_
 refine LWp.o 13 (.one (.int .u8 (IntKind.u8.wrap (Int.fdiv v1 (2 ^ (min (24 : Int).toNat IntKind.u32.bits)))))) ?_
 refine LWp.o 14 (.one (.int .u32 v1)) ?_
 refine LWp.o 15 (.one (.int .u32 (Int.fdiv v1 (2 ^ (min (16 : Int).toNat IntKind.u32.bits))))) ?_
 refine LWp.o 16 (.one (.int .u8 (IntKind.u8.wrap (Int.fdiv v1 (2 ^ (min (16 : Int).toNat IntKind.u32.bits)))))) ?_
 refine LWp.o 17 (.one (.int .u32 v1)) ?_
 refine LWp.o 18 (.one (.int .u32 (Int.fdiv v1 (2 ^ (min (8 : Int).toNat IntKind.u32.bits))))) ?_
 refine LWp.o 19 (.one (.int .u8 (IntKind.u8.wrap (Int.fdiv v1 (2 ^ (min (8 : Int).toNat IntKind.u32.bits)))))) ?_
 refine LWp.o 20 (.one (.int .u32 v1)) ?_
 refine LWp.o 21 (.one (.int .u8 (IntKind.u8.wrap v1))) ?_
 refine LWp.m false [] 22 (.one (.sl true 5 1 (encs c5 [(IntKind.u8.wrap (Int.fdiv v1 (2 ^ (min (24 : Int).toNat IntKind.u32.bits)))), (IntKind.u8.wrap (Int.fdiv v1 (2 ^ (min (16 : Int).toNat IntKind.u32.bits)))), (IntKind.u8.wrap (Int.fdiv v1 (2 ^ (min (8 : Int).toNat IntKind.u32.bits)))), (IntKind.u8.wrap v1)]))) ?_
 refine LWp.o 23 (Y (strB [(IntKind.u8.wrap (Int.fdiv v1 (2 ^ (min (24 : Int).toNat IntKind.u32.bits)))), (IntKind.u8.wrap (Int.fdiv v1 (2 ^ (min (16 : Int).toNat IntKind.u32.bits)))), (IntKind.u8.wrap (Int.fdiv v1 (2 ^ (min (8 : Int).toNat IntKind.u32.bits)))), (IntKind.u8.wrap v1)])) ?_ (st_pure (p_cv (fun _ => rfl) [(IntKind.u8.wrap (Int.fdiv v1 (2 ^ (min (24 : Int).toNat IntKind.u32.bits)))), (IntKind.u8.wrap (Int.fdiv v1 (2 ^ (min (16 : Int).toNat IntKind.u32.bits)))), (IntKind.u8.wrap (Int.fdiv v1 (2 ^ (min (8 : Int).toNat IntKind.u32.bits)))), (IntKind.u8.wrap v1)]))
 refine LWp.p h 24 (fun x1 => (Y x1)) ?_ (fun x1 gx1 => st_pure (p_cat gx1))
 intro x1 gx1 h
 refine LWp.o 2 (Y x1) ?_
 refine LWp.o 3 (B true) ?_
 refine LWp.nil ?_
 cases h
 exact Wp.ret ⟨.inr rfl, _, _, rfl, rfl⟩
def i_PageText_H1 (z1 : ByteArray) (z2 : Bool) : St := mkSt [(2, (Y z1)), (3, (B z2))] []
theorem i_PageText_t (xP : Page) (r : ByteArray × Bool) (h : i_PageText xP = some r) : Gives Tryz.prog 88 [.sv (.agg [.int .i64 xP.Kind, .int .i64 xP.Seq, .int .i64 xP.Tx, .int .i64 xP.Part, .int .i64 xP.Count, .str xP.Text])] (.tup [(Y r.1), (B r.2)]) (List.replicate 1 .gone) := by
 unfold i_PageText at h
 refine gives_of Tryz.func88 rfl ?_
 rw [Tryz.ntmps88]
 refine Wp.seq (Wp.region ?_)
 refine LWp.b [] 1 [.int .i64 xP.Kind, .int .i64 xP.Seq, .int .i64 xP.Tx, .int .i64 xP.Part, .int .i64 xP.Count, .str xP.Text] ?_
 refine LWp.o 2 (Y (bs [])) ?_
 refine LWp.o 3 (B false) ?_
 refine LWp.nil ?_
 refine Wp.seq ?_
 refine Wp.seq (Wp.region ?_)
 refine LWp.o 4 (.agg [.int .i64 xP.Kind, .int .i64 xP.Seq, .int .i64 xP.Tx, .int .i64 xP.Part, .int .i64 xP.Count, .str xP.Text]) ?_
 refine LWp.cl h 5 (fun v1 => (B v1)) rfl (l := [.sv (.agg [.int .i64 xP.Kind, .int .i64 xP.Seq, .int .i64 xP.Tx, .int .i64 xP.Part, .int .i64 xP.Count, .str xP.Text])]) rfl (fun v hv => i_PageOk_t xP v hv) (.inl rfl) ?_
 intro v1 gv1 h
 refine LWp.o 6 (B (!v1)) ?_
 refine LWp.nil ?_
 refine Wp.c h (fun h => ?_) (fun h => ?_)
 · refine Wp.seq (Wp.region ?_)
   refine LWp.o 2 (Y (bs [])) ?_
   refine LWp.o 3 (B false) ?_
   refine LWp.nil ?_
   cases h
   exact Wp.ret ⟨.inr rfl, _, _, rfl, rfl⟩
 refine Wp.skip ?_
 refine Wp.seq ?_
 refine Wp.j1 h [2, 3] [] (fun a => (i_PageText_H1 a.1 a.2)) ?_ ?_
 · intro a h
   refine Wp.regionK 29 [] mixed (fun c E h => by rcases h with ⟨h | h, _⟩ <;> cases h) ?_
   refine KWp.o 29 0 7 (.one (.ptr (.box 1) 1 [] 0)) ?_
   refine KWp.o 29 1 8 (I xP.Kind) ?_
   refine KWp.o 29 2 9 (.one (.int .u8 (IntKind.u8.wrap xP.Kind))) ?_
   refine KWp.o 29 5 12 (.one (.ptr (.box 1) 1 [] 1)) ?_
   refine KWp.o 29 6 13 (I xP.Seq) ?_
   refine KWp.o 29 9 16 (.one (.ptr (.box 1) 1 [] 2)) ?_
   refine KWp.o 29 10 17 (I xP.Tx) ?_
   refine KWp.o 29 13 20 (.one (.ptr (.box 1) 1 [] 3)) ?_
   refine KWp.o 29 14 21 (I xP.Part) ?_
   refine KWp.o 29 17 24 (.one (.ptr (.box 1) 1 [] 4)) ?_
   refine KWp.o 29 18 25 (I xP.Count) ?_
   refine KWp.o 29 21 28 (.one (.ptr (.box 1) 1 [] 5)) ?_
   refine KWp.o 29 22 29 (Y xP.Text) ?_
   refine KWp.w2 3 7 ?_ ?_
   · refine KOp.m 3 false [] 10 (.one (.sl true 5 1 (encs c5 [(IntKind.u8.wrap xP.Kind)]))) ?_
     refine KWp.o 29 4 11 (Y (strB [(IntKind.u8.wrap xP.Kind)])) ?_ rfl (sl_pure (p_cv (fun _ => rfl) [(IntKind.u8.wrap xP.Kind)]))
     refine KWp.w1 7 ?_
     refine KOp.cl h 7 14 (fun v2 => (Y v2)) rfl rfl (l := [.sv (.one (.int .i64 xP.Seq))]) rfl (fun v hv => i_varOf_t xP.Seq v hv) (.inl rfl) ?_
     intro v2 gv2 h
     refine KWp.p h 29 8 15 (fun x1 => (Y x1)) ?_ rfl (fun x1 gx1 => sl_pure (p_cat gx1))
     intro x1 gx1 h
     refine KWp.w1 11 ?_
     refine KOp.cl h 11 18 (fun v3 => (Y v3)) rfl rfl (l := [.sv (.one (.int .i64 xP.Tx))]) rfl (fun v hv => i_varOf_t xP.Tx v hv) (.inl rfl) ?_
     intro v3 gv3 h
     refine KWp.p h 29 12 19 (fun x2 => (Y x2)) ?_ rfl (fun x2 gx2 => sl_pure (p_cat gx2))
     intro x2 gx2 h
     refine KWp.w1 15 ?_
     refine KOp.cl h 15 22 (fun v4 => (Y v4)) rfl rfl (l := [.sv (.one (.int .i64 xP.Part))]) rfl (fun v hv => i_varOf_t xP.Part v hv) (.inl rfl) ?_
     intro v4 gv4 h
     refine KWp.p h 29 16 23 (fun x3 => (Y x3)) ?_ rfl (fun x3 gx3 => sl_pure (p_cat gx3))
     intro x3 gx3 h
     refine KWp.w1 19 ?_
     refine KOp.cl h 19 26 (fun v5 => (Y v5)) rfl rfl (l := [.sv (.one (.int .i64 xP.Count))]) rfl (fun v hv => i_varOf_t xP.Count v hv) (.inl rfl) ?_
     intro v5 gv5 h
     refine KWp.p h 29 20 27 (fun x4 => (Y x4)) ?_ rfl (fun x4 gx4 => sl_pure (p_cat gx4))
     intro x4 gx4 h
     refine KWp.p h 29 23 30 (fun x5 => (Y x5)) ?_ rfl (fun x5 gx5 => sl_pure (p_cat gx5))
     intro x5 gx5 h
     refine KWp.w1 24 ?_
     refine KOp.cl h 24 31 (fun v6 => (.tup [(Y v6.1), (B v6.2)])) rfl rfl (l := [.sv (.one (.str x5))]) rfl (fun v hv => i_Sealed_t x5 v hv) (.inl rfl) ?_
     intro v6 gv6 h
     refine KWp.w2 25 26 ?_ ?_
     · refine KOp.e 25 31 0 32 (Y v6.1) ?_
       refine KWp.w1 26 ?_
       refine KOp.e 26 31 1 33 (B v6.2) ?_
       refine KWp.o 29 27 2 (Y v6.1) ?_
       refine KWp.o 29 28 3 (B v6.2) ?_
       refine KWp.done ?_
       cases h
       exact ⟨_, rfl, rfl, rfl⟩
     refine KOp.e 26 31 1 33 (B v6.2) ?_
     refine KWp.w1 25 ?_
     refine KOp.e 25 31 0 32 (Y v6.1) ?_
     refine KWp.o 29 27 2 (Y v6.1) ?_
     refine KWp.o 29 28 3 (B v6.2) ?_
     refine KWp.done ?_
     cases h
     exact ⟨_, rfl, rfl, rfl⟩
   refine KOp.cl h 7 14 (fun v7 => (Y v7)) rfl rfl (l := [.sv (.one (.int .i64 xP.Seq))]) rfl (fun v hv => i_varOf_t xP.Seq v hv) (.inl rfl) ?_
   intro v7 gv7 h
   refine KWp.w2 3 11 ?_ ?_
   · refine KOp.m 3 false [] 10 (.one (.sl true 5 1 (encs c5 [(IntKind.u8.wrap xP.Kind)]))) ?_
     refine KWp.o 29 4 11 (Y (strB [(IntKind.u8.wrap xP.Kind)])) ?_ rfl (sl_pure (p_cv (fun _ => rfl) [(IntKind.u8.wrap xP.Kind)]))
     refine KWp.p h 29 8 15 (fun x6 => (Y x6)) ?_ rfl (fun x6 gx6 => sl_pure (p_cat gx6))
     intro x6 gx6 h
     refine KWp.w1 11 ?_
     refine KOp.cl h 11 18 (fun v8 => (Y v8)) rfl rfl (l := [.sv (.one (.int .i64 xP.Tx))]) rfl (fun v hv => i_varOf_t xP.Tx v hv) (.inl rfl) ?_
     intro v8 gv8 h
     refine KWp.p h 29 12 19 (fun x7 => (Y x7)) ?_ rfl (fun x7 gx7 => sl_pure (p_cat gx7))
     intro x7 gx7 h
     refine KWp.w1 15 ?_
     refine KOp.cl h 15 22 (fun v9 => (Y v9)) rfl rfl (l := [.sv (.one (.int .i64 xP.Part))]) rfl (fun v hv => i_varOf_t xP.Part v hv) (.inl rfl) ?_
     intro v9 gv9 h
     refine KWp.p h 29 16 23 (fun x8 => (Y x8)) ?_ rfl (fun x8 gx8 => sl_pure (p_cat gx8))
     intro x8 gx8 h
     refine KWp.w1 19 ?_
     refine KOp.cl h 19 26 (fun v10 => (Y v10)) rfl rfl (l := [.sv (.one (.int .i64 xP.Count))]) rfl (fun v hv => i_varOf_t xP.Count v hv) (.inl rfl) ?_
     intro v10 gv10 h
     refine KWp.p h 29 20 27 (fun x9 => (Y x9)) ?_ rfl (fun x9 gx9 => sl_pure (p_cat gx9))
     intro x9 gx9 h
     refine KWp.p h 29 23 30 (fun x10 => (Y x10)) ?_ rfl (fun x10 gx10 => sl_pure (p_cat gx10))
     intro x10 gx10 h
     refine KWp.w1 24 ?_
     refine KOp.cl h 24 31 (fun v11 => (.tup [(Y v11.1), (B v11.2)])) rfl rfl (l := [.sv (.one (.str x10))]) rfl (fun v hv => i_Sealed_t x10 v hv) (.inl rfl) ?_
     intro v11 gv11 h
     refine KWp.w2 25 26 ?_ ?_
     · refine KOp.e 25 31 0 32 (Y v11.1) ?_
       refine KWp.w1 26 ?_
       refine KOp.e 26 31 1 33 (B v11.2) ?_
       refine KWp.o 29 27 2 (Y v11.1) ?_
       refine KWp.o 29 28 3 (B v11.2) ?_
       refine KWp.done ?_
       cases h
       exact ⟨_, rfl, rfl, rfl⟩
     refine KOp.e 26 31 1 33 (B v11.2) ?_
     refine KWp.w1 25 ?_
     refine KOp.e 25 31 0 32 (Y v11.1) ?_
     refine KWp.o 29 27 2 (Y v11.1) ?_
     refine KWp.o 29 28 3 (B v11.2) ?_
     refine KWp.done ?_
     cases h
     exact ⟨_, rfl, rfl, rfl⟩
   replace h := Eq.trans (show ((i_varOf xP.Tx).bind fun v12 => (cat (strB [(IntKind.u8.wrap xP.Kind)]) v7).bind fun x11 => (cat x11 v12).bind fun x12 => (i_varOf xP.Part).bind fun v13 => (cat x12 v13).bind fun x13 => (i_varOf xP.Count).bind fun v14 => (cat x13 v14).bind fun x14 => (cat x14 xP.Text).bind fun x15 => (i_Sealed x15).bind fun v15 => some (v15.1, v15.2)) = ((cat (strB [(IntKind.u8.wrap xP.Kind)]) v7).bind fun x6 => (i_varOf xP.Tx).bind fun v8 => (cat x6 v8).bind fun x7 => (i_varOf xP.Part).bind fun v9 => (cat x7 v9).bind fun x8 => (i_varOf xP.Count).bind fun v10 => (cat x8 v10).bind fun x9 => (cat x9 xP.Text).bind fun x10 => (i_Sealed x10).bind fun v11 => some (v11.1, v11.2)) from Option.ext fun z => by simp only [Option.bind_eq_some_iff]; exact ⟨fun ⟨v12, k0, x11, k1, x12, k2, v13, k3, x13, k4, v14, k5, x14, k6, x15, k7, v15, k8, z⟩ => ⟨_, k1, _, k0, _, k2, _, k3, _, k4, _, k5, _, k6, _, k7, _, k8, z⟩, fun ⟨x6, k0, v8, k1, x7, k2, v9, k3, x8, k4, v10, k5, x9, k6, x10, k7, v11, k8, z⟩ => ⟨_, k1, _, k0, _, k2, _, k3, _, k4, _, k5, _, k6, _, k7, _, k8, z⟩⟩) h
   refine KOp.cl h 11 18 (fun v12 => (Y v12)) rfl rfl (l := [.sv (.one (.int .i64 xP.Tx))]) rfl (fun v hv => i_varOf_t xP.Tx v hv) (.inl rfl) ?_
   intro v12 gv12 h
   refine KWp.w2 3 15 ?_ ?_
   · refine KOp.m 3 false [] 10 (.one (.sl true 5 1 (encs c5 [(IntKind.u8.wrap xP.Kind)]))) ?_
     refine KWp.o 29 4 11 (Y (strB [(IntKind.u8.wrap xP.Kind)])) ?_ rfl (sl_pure (p_cv (fun _ => rfl) [(IntKind.u8.wrap xP.Kind)]))
     refine KWp.p h 29 8 15 (fun x11 => (Y x11)) ?_ rfl (fun x11 gx11 => sl_pure (p_cat gx11))
     intro x11 gx11 h
     refine KWp.p h 29 12 19 (fun x12 => (Y x12)) ?_ rfl (fun x12 gx12 => sl_pure (p_cat gx12))
     intro x12 gx12 h
     refine KWp.w1 15 ?_
     refine KOp.cl h 15 22 (fun v13 => (Y v13)) rfl rfl (l := [.sv (.one (.int .i64 xP.Part))]) rfl (fun v hv => i_varOf_t xP.Part v hv) (.inl rfl) ?_
     intro v13 gv13 h
     refine KWp.p h 29 16 23 (fun x13 => (Y x13)) ?_ rfl (fun x13 gx13 => sl_pure (p_cat gx13))
     intro x13 gx13 h
     refine KWp.w1 19 ?_
     refine KOp.cl h 19 26 (fun v14 => (Y v14)) rfl rfl (l := [.sv (.one (.int .i64 xP.Count))]) rfl (fun v hv => i_varOf_t xP.Count v hv) (.inl rfl) ?_
     intro v14 gv14 h
     refine KWp.p h 29 20 27 (fun x14 => (Y x14)) ?_ rfl (fun x14 gx14 => sl_pure (p_cat gx14))
     intro x14 gx14 h
     refine KWp.p h 29 23 30 (fun x15 => (Y x15)) ?_ rfl (fun x15 gx15 => sl_pure (p_cat gx15))
     intro x15 gx15 h
     refine KWp.w1 24 ?_
     refine KOp.cl h 24 31 (fun v15 => (.tup [(Y v15.1), (B v15.2)])) rfl rfl (l := [.sv (.one (.str x15))]) rfl (fun v hv => i_Sealed_t x15 v hv) (.inl rfl) ?_
     intro v15 gv15 h
     refine KWp.w2 25 26 ?_ ?_
     · refine KOp.e 25 31 0 32 (Y v15.1) ?_
       refine KWp.w1 26 ?_
       refine KOp.e 26 31 1 33 (B v15.2) ?_
       refine KWp.o 29 27 2 (Y v15.1) ?_
       refine KWp.o 29 28 3 (B v15.2) ?_
       refine KWp.done ?_
       cases h
       exact ⟨_, rfl, rfl, rfl⟩
     refine KOp.e 26 31 1 33 (B v15.2) ?_
     refine KWp.w1 25 ?_
     refine KOp.e 25 31 0 32 (Y v15.1) ?_
     refine KWp.o 29 27 2 (Y v15.1) ?_
     refine KWp.o 29 28 3 (B v15.2) ?_
     refine KWp.done ?_
     cases h
     exact ⟨_, rfl, rfl, rfl⟩
   replace h := Eq.trans (show ((i_varOf xP.Part).bind fun v16 => (cat (strB [(IntKind.u8.wrap xP.Kind)]) v7).bind fun x16 => (cat x16 v12).bind fun x17 => (cat x17 v16).bind fun x18 => (i_varOf xP.Count).bind fun v17 => (cat x18 v17).bind fun x19 => (cat x19 xP.Text).bind fun x20 => (i_Sealed x20).bind fun v18 => some (v18.1, v18.2)) = ((cat (strB [(IntKind.u8.wrap xP.Kind)]) v7).bind fun x11 => (cat x11 v12).bind fun x12 => (i_varOf xP.Part).bind fun v13 => (cat x12 v13).bind fun x13 => (i_varOf xP.Count).bind fun v14 => (cat x13 v14).bind fun x14 => (cat x14 xP.Text).bind fun x15 => (i_Sealed x15).bind fun v15 => some (v15.1, v15.2)) from Option.ext fun z => by simp only [Option.bind_eq_some_iff]; exact ⟨fun ⟨v16, k0, x16, k1, x17, k2, x18, k3, v17, k4, x19, k5, x20, k6, v18, k7, z⟩ => ⟨_, k1, _, k2, _, k0, _, k3, _, k4, _, k5, _, k6, _, k7, z⟩, fun ⟨x11, k0, x12, k1, v13, k2, x13, k3, v14, k4, x14, k5, x15, k6, v15, k7, z⟩ => ⟨_, k2, _, k0, _, k1, _, k3, _, k4, _, k5, _, k6, _, k7, z⟩⟩) h
   refine KOp.cl h 15 22 (fun v16 => (Y v16)) rfl rfl (l := [.sv (.one (.int .i64 xP.Part))]) rfl (fun v hv => i_varOf_t xP.Part v hv) (.inl rfl) ?_
   intro v16 gv16 h
   refine KWp.w2 3 19 ?_ ?_
   · refine KOp.m 3 false [] 10 (.one (.sl true 5 1 (encs c5 [(IntKind.u8.wrap xP.Kind)]))) ?_
     refine KWp.o 29 4 11 (Y (strB [(IntKind.u8.wrap xP.Kind)])) ?_ rfl (sl_pure (p_cv (fun _ => rfl) [(IntKind.u8.wrap xP.Kind)]))
     refine KWp.p h 29 8 15 (fun x16 => (Y x16)) ?_ rfl (fun x16 gx16 => sl_pure (p_cat gx16))
     intro x16 gx16 h
     refine KWp.p h 29 12 19 (fun x17 => (Y x17)) ?_ rfl (fun x17 gx17 => sl_pure (p_cat gx17))
     intro x17 gx17 h
     refine KWp.p h 29 16 23 (fun x18 => (Y x18)) ?_ rfl (fun x18 gx18 => sl_pure (p_cat gx18))
     intro x18 gx18 h
     refine KWp.w1 19 ?_
     refine KOp.cl h 19 26 (fun v17 => (Y v17)) rfl rfl (l := [.sv (.one (.int .i64 xP.Count))]) rfl (fun v hv => i_varOf_t xP.Count v hv) (.inl rfl) ?_
     intro v17 gv17 h
     refine KWp.p h 29 20 27 (fun x19 => (Y x19)) ?_ rfl (fun x19 gx19 => sl_pure (p_cat gx19))
     intro x19 gx19 h
     refine KWp.p h 29 23 30 (fun x20 => (Y x20)) ?_ rfl (fun x20 gx20 => sl_pure (p_cat gx20))
     intro x20 gx20 h
     refine KWp.w1 24 ?_
     refine KOp.cl h 24 31 (fun v18 => (.tup [(Y v18.1), (B v18.2)])) rfl rfl (l := [.sv (.one (.str x20))]) rfl (fun v hv => i_Sealed_t x20 v hv) (.inl rfl) ?_
     intro v18 gv18 h
     refine KWp.w2 25 26 ?_ ?_
     · refine KOp.e 25 31 0 32 (Y v18.1) ?_
       refine KWp.w1 26 ?_
       refine KOp.e 26 31 1 33 (B v18.2) ?_
       refine KWp.o 29 27 2 (Y v18.1) ?_
       refine KWp.o 29 28 3 (B v18.2) ?_
       refine KWp.done ?_
       cases h
       exact ⟨_, rfl, rfl, rfl⟩
     refine KOp.e 26 31 1 33 (B v18.2) ?_
     refine KWp.w1 25 ?_
     refine KOp.e 25 31 0 32 (Y v18.1) ?_
     refine KWp.o 29 27 2 (Y v18.1) ?_
     refine KWp.o 29 28 3 (B v18.2) ?_
     refine KWp.done ?_
     cases h
     exact ⟨_, rfl, rfl, rfl⟩
   replace h := Eq.trans (show ((i_varOf xP.Count).bind fun v19 => (cat (strB [(IntKind.u8.wrap xP.Kind)]) v7).bind fun x21 => (cat x21 v12).bind fun x22 => (cat x22 v16).bind fun x23 => (cat x23 v19).bind fun x24 => (cat x24 xP.Text).bind fun x25 => (i_Sealed x25).bind fun v20 => some (v20.1, v20.2)) = ((cat (strB [(IntKind.u8.wrap xP.Kind)]) v7).bind fun x16 => (cat x16 v12).bind fun x17 => (cat x17 v16).bind fun x18 => (i_varOf xP.Count).bind fun v17 => (cat x18 v17).bind fun x19 => (cat x19 xP.Text).bind fun x20 => (i_Sealed x20).bind fun v18 => some (v18.1, v18.2)) from Option.ext fun z => by simp only [Option.bind_eq_some_iff]; exact ⟨fun ⟨v19, k0, x21, k1, x22, k2, x23, k3, x24, k4, x25, k5, v20, k6, z⟩ => ⟨_, k1, _, k2, _, k3, _, k0, _, k4, _, k5, _, k6, z⟩, fun ⟨x16, k0, x17, k1, x18, k2, v17, k3, x19, k4, x20, k5, v18, k6, z⟩ => ⟨_, k3, _, k0, _, k1, _, k2, _, k4, _, k5, _, k6, z⟩⟩) h
   refine KOp.cl h 19 26 (fun v19 => (Y v19)) rfl rfl (l := [.sv (.one (.int .i64 xP.Count))]) rfl (fun v hv => i_varOf_t xP.Count v hv) (.inl rfl) ?_
   intro v19 gv19 h
   refine KWp.w1 3 ?_
   refine KOp.m 3 false [] 10 (.one (.sl true 5 1 (encs c5 [(IntKind.u8.wrap xP.Kind)]))) ?_
   refine KWp.o 29 4 11 (Y (strB [(IntKind.u8.wrap xP.Kind)])) ?_ rfl (sl_pure (p_cv (fun _ => rfl) [(IntKind.u8.wrap xP.Kind)]))
   refine KWp.p h 29 8 15 (fun x21 => (Y x21)) ?_ rfl (fun x21 gx21 => sl_pure (p_cat gx21))
   intro x21 gx21 h
   refine KWp.p h 29 12 19 (fun x22 => (Y x22)) ?_ rfl (fun x22 gx22 => sl_pure (p_cat gx22))
   intro x22 gx22 h
   refine KWp.p h 29 16 23 (fun x23 => (Y x23)) ?_ rfl (fun x23 gx23 => sl_pure (p_cat gx23))
   intro x23 gx23 h
   refine KWp.p h 29 20 27 (fun x24 => (Y x24)) ?_ rfl (fun x24 gx24 => sl_pure (p_cat gx24))
   intro x24 gx24 h
   refine KWp.p h 29 23 30 (fun x25 => (Y x25)) ?_ rfl (fun x25 gx25 => sl_pure (p_cat gx25))
   intro x25 gx25 h
   refine KWp.w1 24 ?_
   refine KOp.cl h 24 31 (fun v20 => (.tup [(Y v20.1), (B v20.2)])) rfl rfl (l := [.sv (.one (.str x25))]) rfl (fun v hv => i_Sealed_t x25 v hv) (.inl rfl) ?_
   intro v20 gv20 h
   refine KWp.w2 25 26 ?_ ?_
   · refine KOp.e 25 31 0 32 (Y v20.1) ?_
     refine KWp.w1 26 ?_
     refine KOp.e 26 31 1 33 (B v20.2) ?_
     refine KWp.o 29 27 2 (Y v20.1) ?_
     refine KWp.o 29 28 3 (B v20.2) ?_
     refine KWp.done ?_
     cases h
     exact ⟨_, rfl, rfl, rfl⟩
   refine KOp.e 26 31 1 33 (B v20.2) ?_
   refine KWp.w1 25 ?_
   refine KOp.e 25 31 0 32 (Y v20.1) ?_
   refine KWp.o 29 27 2 (Y v20.1) ?_
   refine KWp.o 29 28 3 (B v20.2) ?_
   refine KWp.done ?_
   cases h
   exact ⟨_, rfl, rfl, rfl⟩
 intro j1 h E hE
 refine nt_wp hE ?_
 change Wp _ _ _ (i_PageText_H1 j1.1 j1.2) _
 cases h
 exact Wp.ret ⟨.inr rfl, _, _, rfl, rfl⟩
theorem i_leafOk_t (xX : Leaf) (r : Bool) (h : i_leafOk xX = some r) : Gives Tryz.prog 174 [.sv (.agg [.int .i64 xX.Is, .str xX.Text])] (B r) (List.replicate 1 .gone) := by
 unfold i_leafOk at h
 refine gives_of Tryz.func174 rfl ?_
 rw [Tryz.ntmps174]
 refine Wp.seq (Wp.region ?_)
 refine LWp.b [] 1 [.int .i64 xX.Is, .str xX.Text] ?_
 refine LWp.o 2 (B false) ?_
 refine LWp.nil ?_
 refine Wp.seq ?_
 refine Wp.seq (Wp.region ?_)
 refine LWp.o 3 (.one (.ptr (.box 1) 1 [] 0)) ?_
 refine LWp.o 4 (I xX.Is) ?_
 refine LWp.nil ?_
 refine Wp.block ?_
 refine Wp.seq (Wp.region ?_)
 refine LWp.o 6 (B (xX.Is == 0)) ?_
 refine LWp.o 5 (B (xX.Is == 0)) ?_
 refine LWp.nil ?_
 refine Wp.c h (fun h => ?_) (fun h => ?_)
 · refine Wp.seq (Wp.region ?_)
   refine LWp.o 7 (.one (.ptr (.box 1) 1 [] 1)) ?_
   refine LWp.o 8 (Y xX.Text) ?_
   refine LWp.o 9 (B (seq xX.Text (bs []))) ?_
   refine LWp.o 2 (B (seq xX.Text (bs []))) ?_
   refine LWp.nil ?_
   cases h
   exact Wp.ret ⟨.inr rfl, _, _, rfl, rfl⟩
 refine Wp.seq (Wp.region ?_)
 refine LWp.o 11 (B (xX.Is == 1)) ?_
 refine LWp.o 10 (B (xX.Is == 1)) ?_
 refine LWp.nil ?_
 refine Wp.c h (fun h => ?_) (fun h => ?_)
 · refine Wp.seq (Wp.region ?_)
   refine LWp.o 12 (.one (.ptr (.box 1) 1 [] 1)) ?_
   refine LWp.o 13 (Y xX.Text) ?_
   refine LWp.o 14 (I (sln xX.Text)) ?_
   refine LWp.cl h 15 (fun v1 => (B v1)) rfl (l := [.sv (.one (.int .i64 (sln xX.Text))), .sv (.one (.int .i64 1)), .sv (.one (.int .i64 120))]) rfl (fun v hv => i_in_t (sln xX.Text) 1 120 v hv) (.inl rfl) ?_
   intro v1 gv1 h
   refine LWp.o 2 (B v1) ?_
   refine LWp.nil ?_
   cases h
   exact Wp.ret ⟨.inr rfl, _, _, rfl, rfl⟩
 refine Wp.skip ?_
 refine Wp.seq (Wp.region ?_)
 refine LWp.o 16 (.one (.ptr (.box 1) 1 [] 0)) ?_
 refine LWp.o 17 (I xX.Is) ?_
 refine LWp.o 18 (B (xX.Is == 2)) ?_
 refine LWp.o 19 (B (xX.Is == 2)) ?_
 refine LWp.sp h 19 (fun h => ?_) (fun h => ?_)
 · refine LWp.o 20 (.one (.ptr (.box 1) 1 [] 1)) ?_
   refine LWp.o 21 (Y xX.Text) ?_
   refine LWp.o 22 (I (sln xX.Text)) ?_
   refine LWp.o 23 (B (decide ((sln xX.Text) ≤ 120))) ?_
   refine LWp.o 24 (B (decide ((sln xX.Text) ≤ 120))) ?_
   refine LWp.o 2 (B (decide ((sln xX.Text) ≤ 120))) ?_
   refine LWp.nil ?_
   cases h
   exact Wp.ret ⟨.inr rfl, _, _, rfl, rfl⟩
 refine LWp.sh 20 ?_
 refine LWp.sh 21 ?_
 refine LWp.sh 22 ?_
 refine LWp.sh 23 ?_
 refine LWp.o 24 (B false) ?_
 refine LWp.o 2 (B false) ?_
 refine LWp.nil ?_
 cases h
 exact Wp.ret ⟨.inr rfl, _, _, rfl, rfl⟩
def i_FlashOk_H1 (xF : Flash) (z1 : Int) : St := mkSt [(1, (.one (.ptr (.box 1) 0 [] 0))), (8, (.one (.sl false 124 3 (encs (c124 false) xF.Blocks)))), (9, (I (ln xF.Blocks))), (10, (I z1))] [(.box 1, [.sl false 124 3 (encs (c124 false) xF.Blocks)])]
def i_FlashOk_H2 (xF : Flash) : St := mkSt [(1, (.one (.ptr (.box 1) 0 [] 0)))] [(.box 1, [.sl false 124 3 (encs (c124 false) xF.Blocks)])]
def i_FlashOk_H3 (xF : Flash) (y1 : Int) (x1 : Block) (z2 : Bool) : St := mkSt [(1, (.one (.ptr (.box 1) 0 [] 0))), (4, (.one (.ptr (.box 4) 0 [] 0))), (8, (.one (.sl false 124 3 (encs (c124 false) xF.Blocks)))), (9, (I (ln xF.Blocks))), (10, (I y1)), (23, (B z2))] [(.box 1, [.sl false 124 3 (encs (c124 false) xF.Blocks)]), (.box 4, [.bool x1.Bad, .int .i64 x1.Wear, .sl false 165 2 (encs c165 x1.Leaves)])]
def i_FlashOk_H4 (xF : Flash) (y1 : Int) (x1 : Block) (z3 : Int) : St := mkSt [(1, (.one (.ptr (.box 1) 0 [] 0))), (4, (.one (.ptr (.box 4) 0 [] 0))), (8, (.one (.sl false 124 3 (encs (c124 false) xF.Blocks)))), (9, (I (ln xF.Blocks))), (10, (I y1)), (25, (.one (.sl false 165 2 (encs c165 x1.Leaves)))), (26, (I (ln x1.Leaves))), (27, (I z3))] [(.box 1, [.sl false 124 3 (encs (c124 false) xF.Blocks)]), (.box 4, [.bool x1.Bad, .int .i64 x1.Wear, .sl false 165 2 (encs c165 x1.Leaves)])]
def i_FlashOk_H5 (xF : Flash) (y1 : Int) : St := mkSt [(1, (.one (.ptr (.box 1) 0 [] 0))), (8, (.one (.sl false 124 3 (encs (c124 false) xF.Blocks)))), (9, (I (ln xF.Blocks))), (10, (I y1))] [(.box 1, [.sl false 124 3 (encs (c124 false) xF.Blocks)])]
def i_FlashOk_H6 (xF : Flash) (y1 : Int) (x1 : Block) (y2 : Int) (z4 : Bool) : St := mkSt [(1, (.one (.ptr (.box 1) 0 [] 0))), (4, (.one (.ptr (.box 4) 0 [] 0))), (8, (.one (.sl false 124 3 (encs (c124 false) xF.Blocks)))), (9, (I (ln xF.Blocks))), (10, (I y1)), (25, (.one (.sl false 165 2 (encs c165 x1.Leaves)))), (26, (I (ln x1.Leaves))), (27, (I y2)), (53, (B z4))] [(.box 1, [.sl false 124 3 (encs (c124 false) xF.Blocks)]), (.box 4, [.bool x1.Bad, .int .i64 x1.Wear, .sl false 165 2 (encs c165 x1.Leaves)])]
theorem i_FlashOk_t (xF : Flash) (r : Bool) (h : i_FlashOk xF = some r) : Gives Tryz.prog 137 [.sv (.agg [.sl false 124 3 (encs (c124 false) xF.Blocks)])] (B r) (List.replicate 1 .gone) := by
 unfold i_FlashOk at h
 refine gives_of Tryz.func137 rfl ?_
 rw [Tryz.ntmps137]
 refine Wp.seq (Wp.region ?_)
 refine LWp.b [] 1 [.sl false 124 3 (encs (c124 false) xF.Blocks)] ?_
 refine LWp.o 2 (B false) ?_
 refine LWp.nil ?_
 refine Wp.seq ?_
 refine Wp.seq (Wp.region ?_)
 refine LWp.o 7 (.one (.ptr (.box 1) 1 [] 0)) ?_
 refine LWp.o 8 (.one (.sl false 124 3 (encs (c124 false) xF.Blocks))) ?_
 refine LWp.o 9 (I (ln xF.Blocks)) ?_ (st_pure (p_ln (k124 false) xF.Blocks))
 refine LWp.o 10 (I 0) ?_
 refine LWp.nil ?_
 refine Wp.l2 h [1, 8, 9, 10] [.box 1] (fun s => (i_FlashOk_H1 xF s)) [1] [.box 1] (fun _ => (i_FlashOk_H2 xF)) ⟨rfl, rfl⟩ ?_ ?_
 · rintro y1 o (h : i_FlashOk_b1 xF y1 = some o) hk1
   unfold i_FlashOk_b1 at h
   change Wp _ _ _ (i_FlashOk_H1 xF y1) _
   refine Wp.seq (Wp.region ?_)
   refine LWp.o 11 (B (decide (y1 < (ln xF.Blocks)))) ?_
   refine LWp.nil ?_
   refine Wp.seq ?_
   refine Wp.c h (fun h => ?_) (fun h => ?_)
   · refine Wp.skip ?_
     refine Wp.seq ?_
     refine Wp.block ?_
     refine Wp.seq (Wp.region ?_)
     refine LWp.p h 12 (fun _ => (.one (.ptr (.slot 8) 0 [0] (Int.toNat y1 * 3 + 0)))) ?_ (fun x1 gx1 => st_pure (p_ix (k124 false) (.slot 8) [] 0 gx1))
     intro x1 gx1 h
     refine LWp.o 13 (.agg [.bool x1.Bad, .int .i64 x1.Wear, .sl false 165 2 (encs c165 x1.Leaves)]) ?_ (st_pure (p_le (k124 false) (.slot 8) [0] gx1))
     refine LWp.b [] 4 [.bool false, .int .i64 0, .sl true 165 2 (encs c165 [])] ?_
     refine LWp.sb [] (.box 4) [.bool x1.Bad, .int .i64 x1.Wear, .sl false 165 2 (encs c165 x1.Leaves)] ?_
     refine LWp.nil ?_
     refine Wp.seq ?_
     refine Wp.seq ?_
     refine Wp.j1 h [1, 4, 8, 9, 10, 23] [.box 1, .box 4] (fun a => (i_FlashOk_H3 xF y1 x1 a)) ?_ ?_
     · intro a h
       refine Wp.region ?_
       refine LWp.o 14 (.one (.ptr (.box 4) 1 [] 2)) ?_
       refine LWp.o 15 (.one (.sl false 165 2 (encs c165 x1.Leaves))) ?_
       refine LWp.o 16 (I (ln x1.Leaves)) ?_ (st_pure (p_ln k165 x1.Leaves))
       refine LWp.o 17 (B ((ln x1.Leaves) != 4)) ?_
       refine LWp.o 18 (B ((ln x1.Leaves) != 4)) ?_
       refine LWp.sp h 18 (fun h => ?_) (fun h => ?_)
       · refine LWp.sh 19 ?_
         refine LWp.sh 20 ?_
         refine LWp.sh 21 ?_
         refine LWp.sh 22 ?_
         refine LWp.o 23 (B true) ?_
         refine LWp.nil ?_
         cases h
         exact ⟨_, rfl, rfl, rfl⟩
       refine LWp.o 19 (.one (.ptr (.box 4) 1 [] 1)) ?_
       refine LWp.o 20 (I x1.Wear) ?_
       refine LWp.cl h 21 (fun v1 => (B v1)) rfl (l := [.sv (.one (.int .i64 x1.Wear)), .sv (.one (.int .i64 0)), .sv (.one (.int .i64 1000000000))]) rfl (fun v hv => i_in_t x1.Wear 0 1000000000 v hv) (.inl rfl) ?_
       intro v1 gv1 h
       refine LWp.o 22 (B (!v1)) ?_
       refine LWp.o 23 (B (!v1)) ?_
       refine LWp.nil ?_
       cases h
       exact ⟨_, rfl, rfl, rfl⟩
     intro j1 h E hE
     refine nt_wp hE ?_
     change Wp _ _ _ (i_FlashOk_H3 xF y1 x1 j1) _
     refine Wp.c h (fun h => ?_) (fun h => ?_)
     · refine Wp.seq (Wp.region ?_)
       refine LWp.o 2 (B false) ?_
       refine LWp.nil ?_
       cases h
       replace h : some _ = some _ := hk1 _ rfl
       cases h
       exact Wp.ret ⟨.inr rfl, _, _, rfl, rfl⟩
     refine Wp.skip ?_
     refine Wp.seq (Wp.region ?_)
     refine LWp.o 24 (.one (.ptr (.box 4) 0 [] 2)) ?_
     refine LWp.o 25 (.one (.sl false 165 2 (encs c165 x1.Leaves))) ?_
     refine LWp.o 26 (I (ln x1.Leaves)) ?_ (st_pure (p_ln k165 x1.Leaves))
     refine LWp.o 27 (I 0) ?_
     refine LWp.nil ?_
     refine Wp.l2 h [1, 4, 8, 9, 10, 25, 26, 27] [.box 1, .box 4] (fun s => (i_FlashOk_H4 xF y1 x1 s)) [1, 8, 9, 10] [.box 1] (fun _ => (i_FlashOk_H5 xF y1)) ⟨rfl, rfl⟩ ?_ ?_
     · rintro y2 o (h : i_FlashOk_b2 x1 y2 = some o) hk2
       unfold i_FlashOk_b2 at h
       change Wp _ _ _ (i_FlashOk_H4 xF y1 x1 y2) _
       refine Wp.seq (Wp.region ?_)
       refine LWp.o 28 (B (decide (y2 < (ln x1.Leaves)))) ?_
       refine LWp.nil ?_
       refine Wp.seq ?_
       refine Wp.c h (fun h => ?_) (fun h => ?_)
       · refine Wp.skip ?_
         refine Wp.seq ?_
         refine Wp.block ?_
         refine Wp.seq (Wp.region ?_)
         refine LWp.o 29 (I y2) ?_
         refine LWp.p h 30 (fun _ => (.one (.ptr (.slot 25) 0 [0] (Int.toNat y2 * 2 + 0)))) ?_ (fun x2 gx2 => st_pure (p_ix k165 (.slot 25) [] 0 gx2))
         intro x2 gx2 h
         refine LWp.o 31 (.agg [.int .i64 x2.Is, .str x2.Text]) ?_ (st_pure (p_le k165 (.slot 25) [0] gx2))
         refine LWp.b [] 6 [.int .i64 0, .str (bs [])] ?_
         refine LWp.o 5 (I y2) ?_
         refine LWp.s [] (.box 6) [.int .i64 x2.Is, .str x2.Text] ?_
         refine LWp.nil ?_
         refine Wp.seq ?_
         refine Wp.j1 h [1, 4, 8, 9, 10, 25, 26, 27, 53] [.box 1, .box 4] (fun a => (i_FlashOk_H6 xF y1 x1 y2 a)) ?_ ?_
         · intro a h
           refine Wp.region ?_
           refine LWp.o 32 (.agg [.int .i64 x2.Is, .str x2.Text]) ?_
           refine LWp.cl h 33 (fun v2 => (B v2)) rfl (l := [.sv (.agg [.int .i64 x2.Is, .str x2.Text])]) rfl (fun v hv => i_leafOk_t x2 v hv) (.inl rfl) ?_
           intro v2 gv2 h
           refine LWp.o 34 (B (!v2)) ?_
           refine LWp.o 35 (B (!v2)) ?_
           refine LWp.sp h 35 (fun h => ?_) (fun h => ?_)
           · refine LWp.sh 36 ?_
             refine LWp.sh 37 ?_
             refine LWp.sh 38 ?_
             refine LWp.sh 39 ?_
             refine LWp.sh 40 ?_
             refine LWp.sh 41 ?_
             refine LWp.sh 42 ?_
             refine LWp.sh 43 ?_
             refine LWp.sh 44 ?_
             refine LWp.sh 45 ?_
             refine LWp.sh 46 ?_
             refine LWp.sh 47 ?_
             refine LWp.sh 48 ?_
             refine LWp.sh 49 ?_
             refine LWp.sh 50 ?_
             refine LWp.sh 51 ?_
             refine LWp.sh 52 ?_
             refine LWp.o 53 (B true) ?_
             refine LWp.nil ?_
             cases h
             exact ⟨_, rfl, rfl, rfl⟩
           refine LWp.o 36 (I y2) ?_
           refine LWp.o 37 (B (decide (y2 > 0))) ?_
           refine LWp.o 38 (B (decide (y2 > 0))) ?_
           refine LWp.sp h 38 (fun h => ?_) (fun h => ?_)
           · refine LWp.o 39 (.one (.ptr (.box 4) 0 [] 2)) ?_
             refine LWp.o 40 (.one (.sl false 165 2 (encs c165 x1.Leaves))) ?_
             refine LWp.o 41 (I y2) ?_
             refine LWp.o 42 (I (sb y2 1)) ?_
             refine LWp.p h 43 (fun _ => (.one (.ptr (.slot 40) 1 [0] (Int.toNat (sb y2 1) * 2 + 0)))) ?_ (fun x3 gx3 => st_pure (p_ix k165 (.slot 40) [] 0 gx3))
             intro x3 gx3 h
             refine LWp.o 44 (.one (.ptr (.slot 40) 1 [0] (Int.toNat (sb y2 1) * 2 + 0))) ?_ (st_pure (p_fa k165 (.slot 40) [0] 0 gx3))
             refine LWp.o 45 (I x3.Is) ?_ (st_pure (p_lc k165 (.slot 40) [0] 0 (.int .i64 x3.Is) gx3))
             refine LWp.o 46 (B (x3.Is == 0)) ?_
             refine LWp.o 47 (B (x3.Is == 0)) ?_
             refine LWp.o 48 (B (x3.Is == 0)) ?_
             refine LWp.sp h 48 (fun h => ?_) (fun h => ?_)
             · refine LWp.o 49 (.one (.ptr (.box 6) 1 [] 0)) ?_
               refine LWp.o 50 (I x2.Is) ?_
               refine LWp.o 51 (B (x2.Is != 0)) ?_
               refine LWp.o 52 (B (x2.Is != 0)) ?_
               refine LWp.o 53 (B (x2.Is != 0)) ?_
               refine LWp.nil ?_
               cases h
               exact ⟨_, rfl, rfl, rfl⟩
             refine LWp.sh 49 ?_
             refine LWp.sh 50 ?_
             refine LWp.sh 51 ?_
             refine LWp.o 52 (B false) ?_
             refine LWp.o 53 (B false) ?_
             refine LWp.nil ?_
             cases h
             exact ⟨_, rfl, rfl, rfl⟩
           refine LWp.sh 39 ?_
           refine LWp.sh 40 ?_
           refine LWp.sh 41 ?_
           refine LWp.sh 42 ?_
           refine LWp.sh 43 ?_
           refine LWp.sh 44 ?_
           refine LWp.sh 45 ?_
           refine LWp.sh 46 ?_
           refine LWp.o 47 (B false) ?_
           refine LWp.o 48 (B false) ?_
           refine LWp.sh 49 ?_
           refine LWp.sh 50 ?_
           refine LWp.sh 51 ?_
           refine LWp.o 52 (B false) ?_
           refine LWp.o 53 (B false) ?_
           refine LWp.nil ?_
           cases h
           exact ⟨_, rfl, rfl, rfl⟩
         intro j2 h E hE
         refine nt_wp hE ?_
         change Wp _ _ _ (i_FlashOk_H6 xF y1 x1 y2 j2) _
         refine Wp.c h (fun h => ?_) (fun h => ?_)
         · refine Wp.seq (Wp.region ?_)
           refine LWp.o 2 (B false) ?_
           refine LWp.nil ?_
           cases h
           replace h : some _ = some _ := hk2 _ rfl
           cases h
           replace h : some _ = some _ := hk1 _ rfl
           cases h
           exact Wp.ret ⟨.inr rfl, _, _, rfl, rfl⟩
         refine Wp.skip ?_
         refine Wp.region ?_
         refine LWp.o 54 (I (ad y2 1)) ?_
         refine LWp.o 27 (I (ad y2 1)) ?_
         refine LWp.nil ?_
         cases h
         exact ⟨_, rfl, rfl, rfl⟩
       refine Wp.exit ?_
       cases h
       exact ⟨_, rfl, rfl, rfl⟩
     intro v3 h E hE
     refine nt_wp hE ?_
     change Wp _ _ _ (i_FlashOk_H5 xF y1) _
     refine Wp.region ?_
     refine LWp.o 55 (I (ad y1 1)) ?_
     refine LWp.o 10 (I (ad y1 1)) ?_
     refine LWp.nil ?_
     cases h
     exact ⟨_, rfl, rfl, rfl⟩
   refine Wp.exit ?_
   cases h
   exact ⟨_, rfl, rfl, rfl⟩
 intro v4 h E hE
 refine nt_wp hE ?_
 change Wp _ _ _ (i_FlashOk_H2 xF) _
 refine Wp.seq (Wp.region ?_)
 refine LWp.o 56 (.one (.ptr (.box 1) 0 [] 0)) ?_
 refine LWp.o 57 (.one (.sl false 124 3 (encs (c124 false) xF.Blocks))) ?_
 refine LWp.o 58 (I (ln xF.Blocks)) ?_ (st_pure (p_ln (k124 false) xF.Blocks))
 refine LWp.cl h 59 (fun v5 => (B v5)) rfl (l := [.sv (.one (.int .i64 (ln xF.Blocks))), .sv (.one (.int .i64 3)), .sv (.one (.int .i64 10))]) rfl (fun v hv => i_in_t (ln xF.Blocks) 3 10 v hv) (.inl rfl) ?_
 intro v5 gv5 h
 refine LWp.o 2 (B v5) ?_
 refine LWp.nil ?_
 cases h
 exact Wp.ret ⟨.inr rfl, _, _, rfl, rfl⟩
def i_blanks_H1 (xB : Block) (z1 : Int) (z2 : Int) : St := mkSt [(3, (I z1)), (7, (.one (.sl false 165 2 (encs c165 xB.Leaves)))), (8, (I (ln xB.Leaves))), (9, (I z2))] []
def i_blanks_H2 (z3 : Int) : St := mkSt [(3, (I z3))] []
theorem i_blanks_t (xB : Block) (r : Int) (h : i_blanks xB = some r) : Gives Tryz.prog 66 [.sv (.agg [.bool xB.Bad, .int .i64 xB.Wear, .sl false 165 2 (encs c165 xB.Leaves)])] (I r) (List.replicate 1 .gone) := by
 unfold i_blanks at h
 refine gives_of Tryz.func66 rfl ?_
 rw [Tryz.ntmps66]
 refine Wp.seq (Wp.region ?_)
 refine LWp.b [] 1 [.bool xB.Bad, .int .i64 xB.Wear, .sl false 165 2 (encs c165 xB.Leaves)] ?_
 refine LWp.o 2 (I 0) ?_
 refine LWp.nil ?_
 refine Wp.seq (Wp.region ?_)
 refine LWp.o 3 (I 0) ?_
 refine LWp.nil ?_
 refine Wp.seq ?_
 refine Wp.seq (Wp.region ?_)
 refine LWp.o 6 (.one (.ptr (.box 1) 1 [] 2)) ?_
 refine LWp.o 7 (.one (.sl false 165 2 (encs c165 xB.Leaves))) ?_
 refine LWp.o 8 (I (ln xB.Leaves)) ?_ (st_pure (p_ln k165 xB.Leaves))
 refine LWp.o 9 (I 0) ?_
 refine LWp.nil ?_
 refine Wp.l1 h [3, 7, 8, 9] [] (fun s => (i_blanks_H1 xB s.1 s.2)) [3] [] (fun s => (i_blanks_H2 s)) ⟨rfl, rfl⟩ ?_ ?_
 · rintro ⟨yN1, y1⟩ o (h : i_blanks_b1 xB yN1 y1 = some o)
   unfold i_blanks_b1 at h
   change Wp _ _ _ (i_blanks_H1 xB yN1 y1) _
   refine Wp.seq (Wp.region ?_)
   refine LWp.o 10 (B (decide (y1 < (ln xB.Leaves)))) ?_
   refine LWp.nil ?_
   refine Wp.seq ?_
   refine Wp.c h (fun h => ?_) (fun h => ?_)
   · refine Wp.skip ?_
     refine Wp.seq ?_
     refine Wp.block ?_
     refine Wp.seq (Wp.region ?_)
     refine LWp.p h 11 (fun _ => (.one (.ptr (.slot 7) 0 [0] (Int.toNat y1 * 2 + 0)))) ?_ (fun x1 gx1 => st_pure (p_ix k165 (.slot 7) [] 0 gx1))
     intro x1 gx1 h
     refine LWp.o 12 (.agg [.int .i64 x1.Is, .str x1.Text]) ?_ (st_pure (p_le k165 (.slot 7) [0] gx1))
     refine LWp.b [] 5 [.int .i64 0, .str (bs [])] ?_
     refine LWp.s [] (.box 5) [.int .i64 x1.Is, .str x1.Text] ?_
     refine LWp.nil ?_
     refine Wp.seq (Wp.region ?_)
     refine LWp.o 13 (.one (.ptr (.box 5) 1 [] 0)) ?_
     refine LWp.o 14 (I x1.Is) ?_
     refine LWp.o 15 (B (x1.Is == 0)) ?_
     refine LWp.nil ?_
     refine Wp.c h (fun h => ?_) (fun h => ?_)
     · refine Wp.region ?_
       refine LWp.o 16 (I yN1) ?_
       refine LWp.o 17 (I (ad yN1 1)) ?_
       refine LWp.o 3 (I (ad yN1 1)) ?_
       refine LWp.nil ?_
       refine Wp.region ?_
       refine LWp.o 18 (I (ad y1 1)) ?_
       refine LWp.o 9 (I (ad y1 1)) ?_
       refine LWp.nil ?_
       cases h
       exact ⟨_, rfl, rfl, rfl⟩
     refine Wp.skip ?_
     refine Wp.region ?_
     refine LWp.o 18 (I (ad y1 1)) ?_
     refine LWp.o 9 (I (ad y1 1)) ?_
     refine LWp.nil ?_
     cases h
     exact ⟨_, rfl, rfl, rfl⟩
   refine Wp.exit ?_
   cases h
   exact ⟨_, rfl, rfl, rfl⟩
 intro v1 h E hE
 refine nt_wp hE ?_
 change Wp _ _ _ (i_blanks_H2 v1) _
 refine Wp.seq (Wp.region ?_)
 refine LWp.o 19 (I v1) ?_
 refine LWp.o 2 (I v1) ?_
 refine LWp.nil ?_
 cases h
 exact Wp.ret ⟨.inr rfl, _, _, rfl, rfl⟩
def i_OpenBlock_H1 (xF : Flash) (z1 : Int) : St := mkSt [(7, (.one (.sl false 124 3 (encs (c124 false) xF.Blocks)))), (8, (I (ln xF.Blocks))), (9, (I z1))] []
def i_OpenBlock_H2  : St := mkSt [] []
def i_OpenBlock_H3 (xF : Flash) (y1 : Int) (z2 : Bool) : St := mkSt [(3, (I y1)), (7, (.one (.sl false 124 3 (encs (c124 false) xF.Blocks)))), (8, (I (ln xF.Blocks))), (9, (I y1)), (29, (B z2))] []
theorem i_OpenBlock_t (xF : Flash) (r : Int) (h : i_OpenBlock xF = some r) : Gives Tryz.prog 138 [.sv (.agg [.sl false 124 3 (encs (c124 false) xF.Blocks)])] (I r) (List.replicate 1 .gone) := by
 unfold i_OpenBlock at h
 refine gives_of Tryz.func138 rfl ?_
 rw [Tryz.ntmps138]
 refine Wp.seq (Wp.region ?_)
 refine LWp.b [] 1 [.sl false 124 3 (encs (c124 false) xF.Blocks)] ?_
 refine LWp.o 2 (I 0) ?_
 refine LWp.nil ?_
 refine Wp.seq ?_
 refine Wp.seq (Wp.region ?_)
 refine LWp.o 6 (.one (.ptr (.box 1) 1 [] 0)) ?_
 refine LWp.o 7 (.one (.sl false 124 3 (encs (c124 false) xF.Blocks))) ?_
 refine LWp.o 8 (I (ln xF.Blocks)) ?_ (st_pure (p_ln (k124 false) xF.Blocks))
 refine LWp.o 9 (I 0) ?_
 refine LWp.nil ?_
 refine Wp.l2 h [7, 8, 9] [] (fun s => (i_OpenBlock_H1 xF s)) [] [] (fun _ => i_OpenBlock_H2) ⟨rfl, rfl⟩ ?_ ?_
 · rintro y1 o (h : i_OpenBlock_b1 xF y1 = some o) hk1
   unfold i_OpenBlock_b1 at h
   change Wp _ _ _ (i_OpenBlock_H1 xF y1) _
   refine Wp.seq (Wp.region ?_)
   refine LWp.o 10 (B (decide (y1 < (ln xF.Blocks)))) ?_
   refine LWp.nil ?_
   refine Wp.seq ?_
   refine Wp.c h (fun h => ?_) (fun h => ?_)
   · refine Wp.skip ?_
     refine Wp.seq ?_
     refine Wp.block ?_
     refine Wp.seq (Wp.region ?_)
     refine LWp.o 11 (I y1) ?_
     refine LWp.p h 12 (fun _ => (.one (.ptr (.slot 7) 0 [0] (Int.toNat y1 * 3 + 0)))) ?_ (fun x1 gx1 => st_pure (p_ix (k124 false) (.slot 7) [] 0 gx1))
     intro x1 gx1 h
     refine LWp.o 13 (.agg [.bool x1.Bad, .int .i64 x1.Wear, .sl false 165 2 (encs c165 x1.Leaves)]) ?_ (st_pure (p_le (k124 false) (.slot 7) [0] gx1))
     refine LWp.b [] 4 [.bool false, .int .i64 0, .sl true 165 2 (encs c165 [])] ?_
     refine LWp.o 3 (I y1) ?_
     refine LWp.sb [] (.box 4) [.bool x1.Bad, .int .i64 x1.Wear, .sl false 165 2 (encs c165 x1.Leaves)] ?_
     refine LWp.nil ?_
     refine Wp.seq (Wp.region ?_)
     refine LWp.o 14 (.agg [.bool x1.Bad, .int .i64 x1.Wear, .sl false 165 2 (encs c165 x1.Leaves)]) ?_
     refine LWp.cl h 15 (fun v1 => (I v1)) rfl (l := [.sv (.agg [.bool x1.Bad, .int .i64 x1.Wear, .sl false 165 2 (encs c165 x1.Leaves)])]) rfl (fun v hv => i_blanks_t x1 v hv) (.inl rfl) ?_
     intro v1 gv1 h
     refine LWp.o 5 (I v1) ?_
     refine LWp.nil ?_
     refine Wp.seq ?_
     refine Wp.j1 h [3, 7, 8, 9, 29] [] (fun a => (i_OpenBlock_H3 xF y1 a)) ?_ ?_
     · intro a h
       refine Wp.region ?_
       refine LWp.o 16 (.one (.ptr (.box 4) 1 [] 0)) ?_
       refine LWp.o 17 (B x1.Bad) ?_
       refine LWp.o 18 (B (!x1.Bad)) ?_
       refine LWp.o 19 (B (!x1.Bad)) ?_
       refine LWp.sp h 19 (fun h => ?_) (fun h => ?_)
       · refine LWp.o 20 (I v1) ?_
         refine LWp.o 21 (B (decide (v1 > 0))) ?_
         refine LWp.o 22 (B (decide (v1 > 0))) ?_
         refine LWp.o 23 (B (decide (v1 > 0))) ?_
         refine LWp.sp h 23 (fun h => ?_) (fun h => ?_)
         · refine LWp.o 24 (I v1) ?_
           refine LWp.o 25 (.one (.ptr (.box 4) 1 [] 2)) ?_
           refine LWp.o 26 (.one (.sl false 165 2 (encs c165 x1.Leaves))) ?_
           refine LWp.o 27 (I (ln x1.Leaves)) ?_ (st_pure (p_ln k165 x1.Leaves))
           refine LWp.o 28 (B (decide (v1 < (ln x1.Leaves)))) ?_
           refine LWp.o 29 (B (decide (v1 < (ln x1.Leaves)))) ?_
           refine LWp.nil ?_
           cases h
           exact ⟨_, rfl, rfl, rfl⟩
         refine LWp.sh 24 ?_
         refine LWp.sh 25 ?_
         refine LWp.sh 26 ?_
         refine LWp.sh 27 ?_
         refine LWp.sh 28 ?_
         refine LWp.o 29 (B false) ?_
         refine LWp.nil ?_
         cases h
         exact ⟨_, rfl, rfl, rfl⟩
       refine LWp.sh 20 ?_
       refine LWp.sh 21 ?_
       refine LWp.o 22 (B false) ?_
       refine LWp.o 23 (B false) ?_
       refine LWp.sh 24 ?_
       refine LWp.sh 25 ?_
       refine LWp.sh 26 ?_
       refine LWp.sh 27 ?_
       refine LWp.sh 28 ?_
       refine LWp.o 29 (B false) ?_
       refine LWp.nil ?_
       cases h
       exact ⟨_, rfl, rfl, rfl⟩
     intro j1 h E hE
     refine nt_wp hE ?_
     change Wp _ _ _ (i_OpenBlock_H3 xF y1 j1) _
     refine Wp.c h (fun h => ?_) (fun h => ?_)
     · refine Wp.seq (Wp.region ?_)
       refine LWp.o 30 (I y1) ?_
       refine LWp.o 2 (I y1) ?_
       refine LWp.nil ?_
       cases h
       replace h : some _ = some _ := hk1 _ rfl
       cases h
       exact Wp.ret ⟨.inr rfl, _, _, rfl, rfl⟩
     refine Wp.skip ?_
     refine Wp.region ?_
     refine LWp.o 31 (I (ad y1 1)) ?_
     refine LWp.o 9 (I (ad y1 1)) ?_
     refine LWp.nil ?_
     cases h
     exact ⟨_, rfl, rfl, rfl⟩
   refine Wp.exit ?_
   cases h
   exact ⟨_, rfl, rfl, rfl⟩
 intro v2 h E hE
 refine nt_wp hE ?_
 change Wp _ _ _ i_OpenBlock_H2 _
 refine Wp.seq (Wp.region ?_)
 refine LWp.o 2 (I (-1)) ?_
 refine LWp.nil ?_
 cases h
 exact Wp.ret ⟨.inr rfl, _, _, rfl, rfl⟩
def i_NextBlank_H1 (xB : Block) (z1 : Int) : St := mkSt [(6, (.one (.sl false 165 2 (encs c165 xB.Leaves)))), (7, (I (ln xB.Leaves))), (8, (I z1))] []
def i_NextBlank_H2  : St := mkSt [] []
theorem i_NextBlank_t (xB : Block) (r : Int) (h : i_NextBlank xB = some r) : Gives Tryz.prog 139 [.sv (.agg [.bool xB.Bad, .int .i64 xB.Wear, .sl false 165 2 (encs c165 xB.Leaves)])] (I r) (List.replicate 1 .gone) := by
 unfold i_NextBlank at h
 refine gives_of Tryz.func139 rfl ?_
 rw [Tryz.ntmps139]
 refine Wp.seq (Wp.region ?_)
 refine LWp.b [] 1 [.bool xB.Bad, .int .i64 xB.Wear, .sl false 165 2 (encs c165 xB.Leaves)] ?_
 refine LWp.o 2 (I 0) ?_
 refine LWp.nil ?_
 refine Wp.seq ?_
 refine Wp.seq (Wp.region ?_)
 refine LWp.o 5 (.one (.ptr (.box 1) 1 [] 2)) ?_
 refine LWp.o 6 (.one (.sl false 165 2 (encs c165 xB.Leaves))) ?_
 refine LWp.o 7 (I (ln xB.Leaves)) ?_ (st_pure (p_ln k165 xB.Leaves))
 refine LWp.o 8 (I 0) ?_
 refine LWp.nil ?_
 refine Wp.l2 h [6, 7, 8] [] (fun s => (i_NextBlank_H1 xB s)) [] [] (fun _ => i_NextBlank_H2) ⟨rfl, rfl⟩ ?_ ?_
 · rintro y1 o (h : i_NextBlank_b1 xB y1 = some o) hk1
   unfold i_NextBlank_b1 at h
   change Wp _ _ _ (i_NextBlank_H1 xB y1) _
   refine Wp.seq (Wp.region ?_)
   refine LWp.o 9 (B (decide (y1 < (ln xB.Leaves)))) ?_
   refine LWp.nil ?_
   refine Wp.seq ?_
   refine Wp.c h (fun h => ?_) (fun h => ?_)
   · refine Wp.skip ?_
     refine Wp.seq ?_
     refine Wp.block ?_
     refine Wp.seq (Wp.region ?_)
     refine LWp.o 10 (I y1) ?_
     refine LWp.p h 11 (fun _ => (.one (.ptr (.slot 6) 0 [0] (Int.toNat y1 * 2 + 0)))) ?_ (fun x1 gx1 => st_pure (p_ix k165 (.slot 6) [] 0 gx1))
     intro x1 gx1 h
     refine LWp.o 12 (.agg [.int .i64 x1.Is, .str x1.Text]) ?_ (st_pure (p_le k165 (.slot 6) [0] gx1))
     refine LWp.b [] 4 [.int .i64 0, .str (bs [])] ?_
     refine LWp.o 3 (I y1) ?_
     refine LWp.s [] (.box 4) [.int .i64 x1.Is, .str x1.Text] ?_
     refine LWp.nil ?_
     refine Wp.seq (Wp.region ?_)
     refine LWp.o 13 (.one (.ptr (.box 4) 1 [] 0)) ?_
     refine LWp.o 14 (I x1.Is) ?_
     refine LWp.o 15 (B (x1.Is == 0)) ?_
     refine LWp.nil ?_
     refine Wp.c h (fun h => ?_) (fun h => ?_)
     · refine Wp.seq (Wp.region ?_)
       refine LWp.o 16 (I y1) ?_
       refine LWp.o 2 (I y1) ?_
       refine LWp.nil ?_
       cases h
       replace h : some _ = some _ := hk1 _ rfl
       cases h
       exact Wp.ret ⟨.inr rfl, _, _, rfl, rfl⟩
     refine Wp.skip ?_
     refine Wp.region ?_
     refine LWp.o 17 (I (ad y1 1)) ?_
     refine LWp.o 8 (I (ad y1 1)) ?_
     refine LWp.nil ?_
     cases h
     exact ⟨_, rfl, rfl, rfl⟩
   refine Wp.exit ?_
   cases h
   exact ⟨_, rfl, rfl, rfl⟩
 intro v1 h E hE
 refine nt_wp hE ?_
 change Wp _ _ _ i_NextBlank_H2 _
 refine Wp.seq (Wp.region ?_)
 refine LWp.o 2 (I 4) ?_
 refine LWp.nil ?_
 cases h
 exact Wp.ret ⟨.inr rfl, _, _, rfl, rfl⟩
def i_FreeBlocks_H1 (xF : Flash) (z1 : List Int) (z2 : Int) : St := mkSt [(3, (.one (.sl true 3 1 (encs c3 z1)))), (7, (.one (.sl false 124 3 (encs (c124 false) xF.Blocks)))), (8, (I (ln xF.Blocks))), (9, (I z2))] []
def i_FreeBlocks_H2 (z3 : List Int) : St := mkSt [(3, (.one (.sl true 3 1 (encs c3 z3))))] []
def i_FreeBlocks_H3 (xF : Flash) (yOut1 : List Int) (y1 : Int) (z4 : Bool) : St := mkSt [(3, (.one (.sl true 3 1 (encs c3 yOut1)))), (4, (I y1)), (7, (.one (.sl false 124 3 (encs (c124 false) xF.Blocks)))), (8, (I (ln xF.Blocks))), (9, (I y1)), (24, (B z4))] []
theorem i_FreeBlocks_t (xF : Flash) (r : List Int) (h : i_FreeBlocks xF = some r) : Gives Tryz.prog 140 [.sv (.agg [.sl false 124 3 (encs (c124 false) xF.Blocks)])] (.one (.sl true 3 1 (encs c3 r))) (List.replicate 1 .gone) := by
 unfold i_FreeBlocks at h
 refine gives_of Tryz.func140 rfl ?_
 rw [Tryz.ntmps140]
 refine Wp.seq (Wp.region ?_)
 refine LWp.b [] 1 [.sl false 124 3 (encs (c124 false) xF.Blocks)] ?_
 refine LWp.o 2 (.one (.sl true 3 1 (encs c3 []))) ?_
 refine LWp.nil ?_
 refine Wp.seq (Wp.region ?_)
 refine LWp.o 3 (.one (.sl true 3 1 (encs c3 []))) ?_
 refine LWp.nil ?_
 refine Wp.seq ?_
 refine Wp.seq (Wp.region ?_)
 refine LWp.o 6 (.one (.ptr (.box 1) 1 [] 0)) ?_
 refine LWp.o 7 (.one (.sl false 124 3 (encs (c124 false) xF.Blocks))) ?_
 refine LWp.o 8 (I (ln xF.Blocks)) ?_ (st_pure (p_ln (k124 false) xF.Blocks))
 refine LWp.o 9 (I 0) ?_
 refine LWp.nil ?_
 refine Wp.l1 h [3, 7, 8, 9] [] (fun s => (i_FreeBlocks_H1 xF s.1 s.2)) [3] [] (fun s => (i_FreeBlocks_H2 s)) ⟨rfl, rfl⟩ ?_ ?_
 · rintro ⟨yOut1, y1⟩ o (h : i_FreeBlocks_b1 xF yOut1 y1 = some o)
   unfold i_FreeBlocks_b1 at h
   change Wp _ _ _ (i_FreeBlocks_H1 xF yOut1 y1) _
   refine Wp.seq (Wp.region ?_)
   refine LWp.o 10 (B (decide (y1 < (ln xF.Blocks)))) ?_
   refine LWp.nil ?_
   refine Wp.seq ?_
   refine Wp.c h (fun h => ?_) (fun h => ?_)
   · refine Wp.skip ?_
     refine Wp.seq ?_
     refine Wp.block ?_
     refine Wp.seq (Wp.region ?_)
     refine LWp.o 11 (I y1) ?_
     refine LWp.p h 12 (fun _ => (.one (.ptr (.slot 7) 0 [0] (Int.toNat y1 * 3 + 0)))) ?_ (fun x1 gx1 => st_pure (p_ix (k124 false) (.slot 7) [] 0 gx1))
     intro x1 gx1 h
     refine LWp.o 13 (.agg [.bool x1.Bad, .int .i64 x1.Wear, .sl false 165 2 (encs c165 x1.Leaves)]) ?_ (st_pure (p_le (k124 false) (.slot 7) [0] gx1))
     refine LWp.b [] 5 [.bool false, .int .i64 0, .sl true 165 2 (encs c165 [])] ?_
     refine LWp.o 4 (I y1) ?_
     refine LWp.sb [] (.box 5) [.bool x1.Bad, .int .i64 x1.Wear, .sl false 165 2 (encs c165 x1.Leaves)] ?_
     refine LWp.nil ?_
     refine Wp.seq ?_
     refine Wp.j1 h [3, 4, 7, 8, 9, 24] [] (fun a => (i_FreeBlocks_H3 xF yOut1 y1 a)) ?_ ?_
     · intro a h
       refine Wp.regionK 11 [] mixed (fun c E h => by rcases h with ⟨h | h, _⟩ <;> cases h) ?_
       refine KWp.o 11 0 14 (.one (.ptr (.box 5) 1 [] 0)) ?_
       refine KWp.o 11 1 15 (B x1.Bad) ?_
       refine KWp.o 11 2 16 (B (!x1.Bad)) ?_
       refine KWp.o 11 3 17 (B (!x1.Bad)) ?_
       refine KWp.sp h 17 (fun h => ?_) (fun h => ?_)
       · refine KWp.o 11 4 18 (.agg [.bool x1.Bad, .int .i64 x1.Wear, .sl false 165 2 (encs c165 x1.Leaves)]) ?_
         refine KWp.o 11 6 20 (.one (.ptr (.box 5) 1 [] 2)) ?_
         refine KWp.o 11 7 21 (.one (.sl false 165 2 (encs c165 x1.Leaves))) ?_
         refine KWp.o 11 8 22 (I (ln x1.Leaves)) ?_ rfl (sl_pure (p_ln k165 x1.Leaves))
         refine KWp.w1 5 ?_
         refine KOp.cl h 5 19 (fun v1 => (I v1)) rfl rfl (l := [.sv (.agg [.bool x1.Bad, .int .i64 x1.Wear, .sl false 165 2 (encs c165 x1.Leaves)])]) rfl (fun v hv => i_blanks_t x1 v hv) (.inl rfl) ?_
         intro v1 gv1 h
         refine KWp.o 11 9 23 (B (v1 == (ln x1.Leaves))) ?_
         refine KWp.o 11 10 24 (B (v1 == (ln x1.Leaves))) ?_
         refine KWp.done ?_
         cases h
         exact ⟨_, rfl, rfl, rfl⟩
       refine KWp.sh 11 4 18 ?_
       refine KWp.sh 11 6 20 ?_
       refine KWp.sh 11 7 21 ?_
       refine KWp.sh 11 8 22 ?_
       refine KWp.sh 11 5 19 ?_
       refine KWp.sh 11 9 23 ?_
       refine KWp.o 11 10 24 (B false) ?_
       refine KWp.done ?_
       cases h
       exact ⟨_, rfl, rfl, rfl⟩
     intro j1 h E hE
     refine nt_wp hE ?_
     change Wp _ _ _ (i_FreeBlocks_H3 xF yOut1 y1 j1) _
     refine Wp.c h (fun h => ?_) (fun h => ?_)
     · refine Wp.region ?_
       refine LWp.o 25 (.one (.view (.slot 3) 0 [] 0)) ?_
       refine LWp.o 26 (I y1) ?_
       refine LWp.m false [] 27 (.one (.sl true 3 1 (encs c3 [y1]))) ?_
       refine LWp.pm h [(.slot 3, [.junk])] 28 (fun q1 => (.one (.sl true 3 1 (encs c3 q1)))) ?_ (fun q1 gq1 => s_apl k3 (fun _ => rfl) [(.slot 3, [.junk])] yOut1 gq1)
       intro q1 gq1 h
       refine LWp.m true [(.slot 28, [.junk])] 3 (.one (.sl true 3 1 (encs c3 q1))) ?_
       refine LWp.nil ?_
       refine Wp.region ?_
       refine LWp.o 29 (I (ad y1 1)) ?_
       refine LWp.o 9 (I (ad y1 1)) ?_
       refine LWp.nil ?_
       cases h
       exact ⟨_, rfl, rfl, rfl⟩
     refine Wp.skip ?_
     refine Wp.region ?_
     refine LWp.o 29 (I (ad y1 1)) ?_
     refine LWp.o 9 (I (ad y1 1)) ?_
     refine LWp.nil ?_
     cases h
     exact ⟨_, rfl, rfl, rfl⟩
   refine Wp.exit ?_
   cases h
   exact ⟨_, rfl, rfl, rfl⟩
 intro v2 h E hE
 refine nt_wp hE ?_
 change Wp _ _ _ (i_FreeBlocks_H2 v2) _
 refine Wp.seq (Wp.region ?_)
 refine LWp.o 30 (.one (.view (.slot 3) 0 [] 0)) ?_
 refine LWp.m true [(.slot 3, [.junk])] 2 (.one (.sl true 3 1 (encs c3 v2))) ?_
 refine LWp.nil ?_
 cases h
 exact Wp.ret ⟨.inr rfl, _, _, rfl, rfl⟩
def i_PlaceOf_H1 (xF : Flash) (v4 : List Int) (z1 : Int) (z2 : Int) : St := mkSt [(1, (.one (.ptr (.box 1) 0 [] 0))), (6, (I z1)), (24, (.one (.sl true 3 1 (encs c3 v4)))), (25, (I (ln v4))), (26, (I z2))] [(.box 1, [.sl false 124 3 (encs (c124 false) xF.Blocks)])]
def i_PlaceOf_H2 (z3 : Int) : St := mkSt [(6, (I z3))] []
theorem i_PlaceOf_t (xF : Flash) (r : Int × Int × Bool) (h : i_PlaceOf xF = some r) : Gives Tryz.prog 89 [.sv (.agg [.sl false 124 3 (encs (c124 false) xF.Blocks)])] (.tup [(I r.1), (I r.2.1), (B r.2.2)]) (List.replicate 1 .gone) := by
 unfold i_PlaceOf at h
 refine gives_of Tryz.func89 rfl ?_
 rw [Tryz.ntmps89]
 refine Wp.seq (Wp.region ?_)
 refine LWp.b [] 1 [.sl false 124 3 (encs (c124 false) xF.Blocks)] ?_
 refine LWp.o 2 (I 0) ?_
 refine LWp.o 3 (I 0) ?_
 refine LWp.o 4 (B false) ?_
 refine LWp.nil ?_
 refine Wp.seq ?_
 refine Wp.seq (Wp.region ?_)
 refine LWp.o 9 (.agg [.sl false 124 3 (encs (c124 false) xF.Blocks)]) ?_
 refine LWp.cl h 10 (fun v1 => (B v1)) rfl (l := [.sv (.agg [.sl false 124 3 (encs (c124 false) xF.Blocks)])]) rfl (fun v hv => i_FlashOk_t xF v hv) (.inl rfl) ?_
 intro v1 gv1 h
 refine LWp.o 11 (B (!v1)) ?_
 refine LWp.nil ?_
 refine Wp.c h (fun h => ?_) (fun h => ?_)
 · refine Wp.seq (Wp.region ?_)
   refine LWp.o 2 (I 0) ?_
   refine LWp.o 3 (I 0) ?_
   refine LWp.o 4 (B false) ?_
   refine LWp.nil ?_
   cases h
   exact Wp.ret ⟨.inr rfl, _, _, rfl, rfl⟩
 refine Wp.skip ?_
 refine Wp.seq ?_
 refine Wp.seq (Wp.region ?_)
 refine LWp.o 12 (.agg [.sl false 124 3 (encs (c124 false) xF.Blocks)]) ?_
 refine LWp.cl h 13 (fun v2 => (I v2)) rfl (l := [.sv (.agg [.sl false 124 3 (encs (c124 false) xF.Blocks)])]) rfl (fun v hv => i_OpenBlock_t xF v hv) (.inl rfl) ?_
 intro v2 gv2 h
 refine LWp.o 5 (I v2) ?_
 refine LWp.nil ?_
 refine Wp.seq (Wp.region ?_)
 refine LWp.o 14 (I v2) ?_
 refine LWp.o 15 (B (decide (v2 ≥ 0))) ?_
 refine LWp.nil ?_
 refine Wp.c h (fun h => ?_) (fun h => ?_)
 · refine Wp.seq (Wp.region ?_)
   refine LWp.o 16 (I v2) ?_
   refine LWp.o 17 (.one (.ptr (.box 1) 1 [] 0)) ?_
   refine LWp.o 18 (.one (.sl false 124 3 (encs (c124 false) xF.Blocks))) ?_
   refine LWp.o 19 (I v2) ?_
   refine LWp.p h 20 (fun _ => (.one (.ptr (.slot 18) 1 [0] (Int.toNat v2 * 3 + 0)))) ?_ (fun x1 gx1 => st_pure (p_ix (k124 false) (.slot 18) [] 0 gx1))
   intro x1 gx1 h
   refine LWp.o 21 (.agg [.bool x1.Bad, .int .i64 x1.Wear, .sl false 165 2 (encs c165 x1.Leaves)]) ?_ (st_pure (p_le (k124 false) (.slot 18) [0] gx1))
   refine LWp.cl h 22 (fun v3 => (I v3)) rfl (l := [.sv (.agg [.bool x1.Bad, .int .i64 x1.Wear, .sl false 165 2 (encs c165 x1.Leaves)])]) rfl (fun v hv => i_NextBlank_t x1 v hv) (.inl rfl) ?_
   intro v3 gv3 h
   refine LWp.o 2 (I v2) ?_
   refine LWp.o 3 (I v3) ?_
   refine LWp.o 4 (B true) ?_
   refine LWp.nil ?_
   cases h
   exact Wp.ret ⟨.inr rfl, _, _, rfl, rfl⟩
 refine Wp.skip ?_
 refine Wp.seq (Wp.region ?_)
 refine LWp.o 6 (I (-1)) ?_
 refine LWp.nil ?_
 refine Wp.seq ?_
 refine Wp.seq (Wp.region ?_)
 refine LWp.o 23 (.agg [.sl false 124 3 (encs (c124 false) xF.Blocks)]) ?_
 refine LWp.cl h 24 (fun v4 => (.one (.sl true 3 1 (encs c3 v4)))) rfl (l := [.sv (.agg [.sl false 124 3 (encs (c124 false) xF.Blocks)])]) rfl (fun v hv => i_FreeBlocks_t xF v hv) (.inl rfl) ?_
 intro v4 gv4 h
 refine LWp.o 25 (I (ln v4)) ?_ (st_pure (p_ln k3 v4))
 refine LWp.o 26 (I 0) ?_
 refine LWp.nil ?_
 refine Wp.l1 h [1, 6, 24, 25, 26] [.box 1] (fun s => (i_PlaceOf_H1 xF v4 s.1 s.2)) [6] [] (fun s => (i_PlaceOf_H2 s)) ⟨rfl, rfl⟩ ?_ ?_
 · rintro ⟨yBest1, y1⟩ o (h : i_PlaceOf_b1 xF v4 yBest1 y1 = some o)
   unfold i_PlaceOf_b1 at h
   change Wp _ _ _ (i_PlaceOf_H1 xF v4 yBest1 y1) _
   refine Wp.seq (Wp.region ?_)
   refine LWp.o 27 (B (decide (y1 < (ln v4)))) ?_
   refine LWp.nil ?_
   refine Wp.seq ?_
   refine Wp.c h (fun h => ?_) (fun h => ?_)
   · refine Wp.skip ?_
     refine Wp.seq ?_
     refine Wp.block ?_
     refine Wp.seq (Wp.region ?_)
     refine LWp.p h 28 (fun _ => (.one (.ptr (.slot 24) 0 [0] (Int.toNat y1 * 1 + 0)))) ?_ (fun x2 gx2 => st_pure (p_ix k3 (.slot 24) [] 0 gx2))
     intro x2 gx2 h
     refine LWp.o 29 (I x2) ?_ (st_pure (p_lc k3 (.slot 24) [0] 0 (.int .i64 x2) gx2))
     refine LWp.o 8 (I x2) ?_
     refine LWp.nil ?_
     refine Wp.seq ?_
     refine Wp.regionS mixed (by decide +kernel) ?_
     refine SWp.o 30 (I yBest1) ?_
     refine SWp.o 31 (B (decide (yBest1 < 0))) ?_
     refine SWp.o 32 (B (decide (yBest1 < 0))) ?_
     refine SWp.sp h 32 (fun h => ?_) (fun h => ?_)
     · refine SWp.sh 33 ?_
       refine SWp.sh 34 ?_
       refine SWp.sh 35 ?_
       refine SWp.sh 36 ?_
       refine SWp.sh 37 ?_
       refine SWp.sh 38 ?_
       refine SWp.sh 39 ?_
       refine SWp.sh 40 ?_
       refine SWp.sh 41 ?_
       refine SWp.sh 42 ?_
       refine SWp.sh 43 ?_
       refine SWp.sh 44 ?_
       refine SWp.sh 45 ?_
       refine SWp.o 46 (B true) ?_
       refine SWp.nil ?_
       refine Wp.ct ?_
       refine Wp.region ?_
       refine LWp.o 47 (I x2) ?_
       refine LWp.o 6 (I x2) ?_
       refine LWp.nil ?_
       refine Wp.region ?_
       refine LWp.o 48 (I (ad y1 1)) ?_
       refine LWp.o 26 (I (ad y1 1)) ?_
       refine LWp.nil ?_
       cases h
       exact ⟨_, rfl, rfl, rfl⟩
     refine SWp.o 33 (.one (.ptr (.box 1) 0 [] 0)) ?_
     refine SWp.o 34 (.one (.sl false 124 3 (encs (c124 false) xF.Blocks))) ?_
     refine SWp.o 35 (I x2) ?_
     refine SWp.p h 36 (fun _ => (.one (.ptr (.slot 34) 1 [0] (Int.toNat x2 * 3 + 0)))) ?_ (fun x3 gx3 => sl_pure (p_ix (k124 false) (.slot 34) [] 0 gx3))
     intro x3 gx3 h
     refine SWp.o 37 (.one (.ptr (.slot 34) 1 [0] (Int.toNat x2 * 3 + 1))) ?_ (sl_pure (p_fa (k124 false) (.slot 34) [0] 0 gx3))
     refine SWp.o 38 (I x3.Wear) ?_ (sl_pure (p_lc (k124 false) (.slot 34) [0] 1 (.int .i64 x3.Wear) gx3))
     refine SWp.o 39 (.one (.ptr (.box 1) 0 [] 0)) ?_
     refine SWp.o 40 (.one (.sl false 124 3 (encs (c124 false) xF.Blocks))) ?_
     refine SWp.o 41 (I yBest1) ?_
     refine SWp.p h 42 (fun _ => (.one (.ptr (.slot 40) 1 [0] (Int.toNat yBest1 * 3 + 0)))) ?_ (fun x4 gx4 => sl_pure (p_ix (k124 false) (.slot 40) [] 0 gx4))
     intro x4 gx4 h
     refine SWp.o 43 (.one (.ptr (.slot 40) 1 [0] (Int.toNat yBest1 * 3 + 1))) ?_ (sl_pure (p_fa (k124 false) (.slot 40) [0] 0 gx4))
     refine SWp.o 44 (I x4.Wear) ?_ (sl_pure (p_lc (k124 false) (.slot 40) [0] 1 (.int .i64 x4.Wear) gx4))
     refine SWp.o 45 (B (decide (x3.Wear < x4.Wear))) ?_
     refine SWp.o 46 (B (decide (x3.Wear < x4.Wear))) ?_
     refine SWp.nil ?_
     refine Wp.c h (fun h => ?_) (fun h => ?_)
     · refine Wp.region ?_
       refine LWp.o 47 (I x2) ?_
       refine LWp.o 6 (I x2) ?_
       refine LWp.nil ?_
       refine Wp.region ?_
       refine LWp.o 48 (I (ad y1 1)) ?_
       refine LWp.o 26 (I (ad y1 1)) ?_
       refine LWp.nil ?_
       cases h
       exact ⟨_, rfl, rfl, rfl⟩
     refine Wp.skip ?_
     refine Wp.region ?_
     refine LWp.o 48 (I (ad y1 1)) ?_
     refine LWp.o 26 (I (ad y1 1)) ?_
     refine LWp.nil ?_
     cases h
     exact ⟨_, rfl, rfl, rfl⟩
   refine Wp.exit ?_
   cases h
   exact ⟨_, rfl, rfl, rfl⟩
 intro v5 h E hE
 refine nt_wp hE ?_
 change Wp _ _ _ (i_PlaceOf_H2 v5) _
 refine Wp.seq ?_
 refine Wp.seq (Wp.region ?_)
 refine LWp.o 49 (I v5) ?_
 refine LWp.o 50 (B (decide (v5 < 0))) ?_
 refine LWp.nil ?_
 refine Wp.c h (fun h => ?_) (fun h => ?_)
 · refine Wp.seq (Wp.region ?_)
   refine LWp.o 2 (I 0) ?_
   refine LWp.o 3 (I 0) ?_
   refine LWp.o 4 (B false) ?_
   refine LWp.nil ?_
   cases h
   exact Wp.ret ⟨.inr rfl, _, _, rfl, rfl⟩
 refine Wp.skip ?_
 refine Wp.seq (Wp.region ?_)
 refine LWp.o 51 (I v5) ?_
 refine LWp.o 2 (I v5) ?_
 refine LWp.o 3 (I 0) ?_
 refine LWp.o 4 (B true) ?_
 refine LWp.nil ?_
 cases h
 exact Wp.ret ⟨.inr rfl, _, _, rfl, rfl⟩
def i_copyFlash_H1 (xF : Flash) (z1 : Int) (z2 : List Block) : St := mkSt [(2, (.one (.ptr (.box 2) 0 [] 0))), (3, (.one (.ptr (.box 3) 0 [] 0))), (7, (.one (.sl false 124 3 (encs (c124 false) xF.Blocks)))), (8, (I (ln xF.Blocks))), (9, (I z1))] [(.box 2, [.sl true 124 3 (encs (c124 true) [])]), (.box 3, [.sl true 124 3 (encs (c124 true) z2)])]
def i_copyFlash_H2 (z3 : List Block) : St := mkSt [(2, (.one (.ptr (.box 2) 0 [] 0))), (3, (.one (.ptr (.box 3) 0 [] 0)))] [(.box 2, [.sl true 124 3 (encs (c124 true) [])]), (.box 3, [.sl true 124 3 (encs (c124 true) z3)])]
theorem i_copyFlash_t (xF : Flash) (r : Flash) (h : i_copyFlash xF = some r) : Gives Tryz.prog 143 [.sv (.agg [.sl false 124 3 (encs (c124 false) xF.Blocks)])] (.agg [.sl true 124 3 (encs (c124 true) r.Blocks)]) (List.replicate 1 .gone) := by
 unfold i_copyFlash at h
 refine gives_of Tryz.func143 rfl ?_
 rw [Tryz.ntmps143]
 refine Wp.seq (Wp.region ?_)
 refine LWp.b [] 1 [.sl false 124 3 (encs (c124 false) xF.Blocks)] ?_
 refine LWp.b [] 2 [.sl true 124 3 (encs (c124 true) [])] ?_
 refine LWp.nil ?_
 refine Wp.seq (Wp.region ?_)
 refine LWp.b [] 3 [.sl true 124 3 (encs (c124 true) [])] ?_
 refine LWp.nil ?_
 refine Wp.seq ?_
 refine Wp.seq (Wp.region ?_)
 refine LWp.o 6 (.one (.ptr (.box 1) 1 [] 0)) ?_
 refine LWp.o 7 (.one (.sl false 124 3 (encs (c124 false) xF.Blocks))) ?_
 refine LWp.o 8 (I (ln xF.Blocks)) ?_ (st_pure (p_ln (k124 false) xF.Blocks))
 refine LWp.o 9 (I 0) ?_
 refine LWp.nil ?_
 refine Wp.l1 h [2, 3, 7, 8, 9] [.box 2, .box 3] (fun s => (i_copyFlash_H1 xF s.1 s.2)) [2, 3] [.box 2, .box 3] (fun s => (i_copyFlash_H2 s)) ⟨rfl, rfl⟩ ?_ ?_
 · rintro ⟨y1, yOut01⟩ o (h : i_copyFlash_b1 xF y1 yOut01 = some o)
   unfold i_copyFlash_b1 at h
   change Wp _ _ _ (i_copyFlash_H1 xF y1 yOut01) _
   refine Wp.seq (Wp.region ?_)
   refine LWp.o 10 (B (decide (y1 < (ln xF.Blocks)))) ?_
   refine LWp.nil ?_
   refine Wp.seq ?_
   refine Wp.c h (fun h => ?_) (fun h => ?_)
   · refine Wp.skip ?_
     refine Wp.seq ?_
     refine Wp.block ?_
     refine Wp.seq (Wp.region ?_)
     refine LWp.p h 11 (fun _ => (.one (.ptr (.slot 7) 0 [0] (Int.toNat y1 * 3 + 0)))) ?_ (fun x1 gx1 => st_pure (p_ix (k124 false) (.slot 7) [] 0 gx1))
     intro x1 gx1 h
     refine LWp.o 12 (.agg [.bool x1.Bad, .int .i64 x1.Wear, .sl false 165 2 (encs c165 x1.Leaves)]) ?_ (st_pure (p_le (k124 false) (.slot 7) [0] gx1))
     refine LWp.b [] 5 [.bool false, .int .i64 0, .sl true 165 2 (encs c165 [])] ?_
     refine LWp.sb [] (.box 5) [.bool x1.Bad, .int .i64 x1.Wear, .sl false 165 2 (encs c165 x1.Leaves)] ?_
     refine LWp.nil ?_
     refine Wp.seq (Wp.region ?_)
     refine LWp.o 13 (.one (.ptr (.box 5) 1 [] 2)) ?_
     refine LWp.o 14 (.one (.sl false 165 2 (encs c165 x1.Leaves))) ?_
     refine LWp.pm h [] 15 (fun q1 => (.one (.sl true 165 2 (encs c165 q1)))) ?_ (fun q1 gq1 => s_apl k165 (fun _ => rfl) [] [] gq1)
     intro q1 gq1 h
     refine LWp.o 16 (.one (.ptr (.box 5) 1 [] 2)) ?_
     refine LWp.sb [(.slot 15, [.junk])] (.box 5) [.bool x1.Bad, .int .i64 x1.Wear, .sl true 165 2 (encs c165 q1)] ?_
     refine LWp.nil ?_
     refine Wp.region ?_
     refine LWp.o 17 (.one (.ptr (.box 3) 0 [] 0)) ?_
     refine LWp.o 18 (.one (.view (.box 3) 0 [] 0)) ?_
     refine LWp.o 19 (.agg [.bool x1.Bad, .int .i64 x1.Wear, .view (.box 5) 3 [] 2]) ?_
     refine LWp.m false [(.box 5, [.bool x1.Bad, .int .i64 x1.Wear, .junk])] 20 (.one (.sl true 124 3 (encs (c124 true) [(Block.mk x1.Bad x1.Wear q1)]))) ?_
     refine LWp.pm h [(.box 3, [.junk]), (.slot 20, [.sl true 124 3 [.bool ((Block.mk x1.Bad x1.Wear q1).Bad), .int .i64 ((Block.mk x1.Bad x1.Wear q1).Wear), .junk]])] 21 (fun q2 => (.one (.sl true 124 3 (encs (c124 true) q2)))) ?_ (fun q2 gq2 => s_ap1 (k124 true) [(.box 3, [.junk]), (.slot 20, [.sl true 124 3 [.bool ((Block.mk x1.Bad x1.Wear q1).Bad), .int .i64 ((Block.mk x1.Bad x1.Wear q1).Wear), .junk]])] yOut01 [(Block.mk x1.Bad x1.Wear q1)] gq2)
     intro q2 gq2 h
     refine LWp.o 22 (.one (.ptr (.box 3) 0 [] 0)) ?_
     refine LWp.s [(.slot 21, [.junk])] (.box 3) [.sl true 124 3 (encs (c124 true) q2)] ?_
     refine LWp.nil ?_
     refine Wp.region ?_
     refine LWp.o 23 (I (ad y1 1)) ?_
     refine LWp.o 9 (I (ad y1 1)) ?_
     refine LWp.nil ?_
     cases h
     exact ⟨_, rfl, rfl, rfl⟩
   refine Wp.exit ?_
   cases h
   exact ⟨_, rfl, rfl, rfl⟩
 intro v1 h E hE
 refine nt_wp hE ?_
 change Wp _ _ _ (i_copyFlash_H2 v1) _
 refine Wp.seq (Wp.region ?_)
 refine LWp.o 24 (.agg [.view (.box 3) 0 [] 0]) ?_
 refine LWp.sb [(.box 3, [.junk])] (.box 2) [.sl true 124 3 (encs (c124 true) v1)] ?_
 refine LWp.nil ?_
 cases h
 exact Wp.ret ⟨.inr rfl, _, _, rfl, rfl⟩
theorem i_usable_t (xF : Flash) (xB : Int) (r : Bool) (h : i_usable xF xB = some r) : Gives Tryz.prog 175 [.sv (.agg [.sl false 124 3 (encs (c124 false) xF.Blocks)]), .sv (I xB)] (B r) (List.replicate 2 .gone) := by
 unfold i_usable at h
 refine gives_of Tryz.func175 rfl ?_
 rw [Tryz.ntmps175]
 refine Wp.seq (Wp.region ?_)
 refine LWp.b [] 2 [.sl false 124 3 (encs (c124 false) xF.Blocks)] ?_
 refine LWp.o 4 (B false) ?_
 refine LWp.nil ?_
 refine Wp.seq (Wp.region ?_)
 refine LWp.o 5 (.agg [.sl false 124 3 (encs (c124 false) xF.Blocks)]) ?_
 refine LWp.cl h 6 (fun v1 => (B v1)) rfl (l := [.sv (.agg [.sl false 124 3 (encs (c124 false) xF.Blocks)])]) rfl (fun v hv => i_FlashOk_t xF v hv) (.inl rfl) ?_
 intro v1 gv1 h
 refine LWp.o 7 (B v1) ?_
 refine LWp.sp h 7 (fun h => ?_) (fun h => ?_)
 · refine LWp.o 8 (I xB) ?_
   refine LWp.o 9 (.one (.ptr (.box 2) 1 [] 0)) ?_
   refine LWp.o 10 (.one (.sl false 124 3 (encs (c124 false) xF.Blocks))) ?_
   refine LWp.o 11 (I (ln xF.Blocks)) ?_ (st_pure (p_ln (k124 false) xF.Blocks))
   refine LWp.o 12 (I (sb (ln xF.Blocks) 1)) ?_
   refine LWp.cl h 13 (fun v2 => (B v2)) rfl (l := [.sv (.one (.int .i64 xB)), .sv (.one (.int .i64 0)), .sv (.one (.int .i64 (sb (ln xF.Blocks) 1)))]) rfl (fun v hv => i_in_t xB 0 (sb (ln xF.Blocks) 1) v hv) (.inl rfl) ?_
   intro v2 gv2 h
   refine LWp.o 14 (B v2) ?_
   refine LWp.o 15 (B v2) ?_
   refine LWp.sp h 15 (fun h => ?_) (fun h => ?_)
   · refine LWp.o 16 (.one (.ptr (.box 2) 1 [] 0)) ?_
     refine LWp.o 17 (.one (.sl false 124 3 (encs (c124 false) xF.Blocks))) ?_
     refine LWp.o 18 (I xB) ?_
     refine LWp.p h 19 (fun _ => (.one (.ptr (.slot 17) 1 [0] (Int.toNat xB * 3 + 0)))) ?_ (fun x1 gx1 => st_pure (p_ix (k124 false) (.slot 17) [] 0 gx1))
     intro x1 gx1 h
     refine LWp.o 20 (.one (.ptr (.slot 17) 1 [0] (Int.toNat xB * 3 + 0))) ?_ (st_pure (p_fa (k124 false) (.slot 17) [0] 0 gx1))
     refine LWp.o 21 (B x1.Bad) ?_ (st_pure (p_lc (k124 false) (.slot 17) [0] 0 (.bool x1.Bad) gx1))
     refine LWp.o 22 (B (!x1.Bad)) ?_
     refine LWp.o 23 (B (!x1.Bad)) ?_
     refine LWp.o 4 (B (!x1.Bad)) ?_
     refine LWp.nil ?_
     cases h
     exact Wp.ret ⟨.inr rfl, _, _, rfl, rfl⟩
   refine LWp.sh 16 ?_
   refine LWp.sh 17 ?_
   refine LWp.sh 18 ?_
   refine LWp.sh 19 ?_
   refine LWp.sh 20 ?_
   refine LWp.sh 21 ?_
   refine LWp.sh 22 ?_
   refine LWp.o 23 (B false) ?_
   refine LWp.o 4 (B false) ?_
   refine LWp.nil ?_
   cases h
   exact Wp.ret ⟨.inr rfl, _, _, rfl, rfl⟩
 refine LWp.sh 8 ?_
 refine LWp.sh 9 ?_
 refine LWp.sh 10 ?_
 refine LWp.sh 11 ?_
 refine LWp.sh 12 ?_
 refine LWp.sh 13 ?_
 refine LWp.o 14 (B false) ?_
 refine LWp.o 15 (B false) ?_
 refine LWp.sh 16 ?_
 refine LWp.sh 17 ?_
 refine LWp.sh 18 ?_
 refine LWp.sh 19 ?_
 refine LWp.sh 20 ?_
 refine LWp.sh 21 ?_
 refine LWp.sh 22 ?_
 refine LWp.o 23 (B false) ?_
 refine LWp.o 4 (B false) ?_
 refine LWp.nil ?_
 cases h
 exact Wp.ret ⟨.inr rfl, _, _, rfl, rfl⟩
def i_Program_H1 (xB : Int) (xLeaf : Int) (xText : ByteArray) (v1 : Flash) (z1 : Bool) : St := mkSt [(1, (I xB)), (2, (I xLeaf)), (3, (Y xText)), (8, (.one (.ptr (.box 8) 0 [] 0))), (10, (.one (.ptr (.box 10) 0 [] 0))), (37, (B z1))] [(.box 8, [.sl true 124 3 (encs (c124 true) [])]), (.box 10, [.sl true 124 3 (encs (c124 true) v1.Blocks)])]
theorem i_Program_t (xF : Flash) (xB : Int) (xLeaf : Int) (xText : ByteArray) (r : Flash × Bool) (h : i_Program xF xB xLeaf xText = some r) : Gives Tryz.prog 141 [.sv (.agg [.sl false 124 3 (encs (c124 false) xF.Blocks)]), .sv (I xB), .sv (I xLeaf), .sv (Y xText)] (.tup [(.agg [.sl true 124 3 (encs (c124 true) r.1.Blocks)]), (B r.2)]) (List.replicate 4 .gone) := by
 unfold i_Program at h
 refine gives_of Tryz.func141 rfl ?_
 rw [Tryz.ntmps141]
 refine Wp.seq (Wp.region ?_)
 refine LWp.b [] 4 [.sl false 124 3 (encs (c124 false) xF.Blocks)] ?_
 refine LWp.b [] 8 [.sl true 124 3 (encs (c124 true) [])] ?_
 refine LWp.o 9 (B false) ?_
 refine LWp.nil ?_
 refine Wp.seq (Wp.region ?_)
 refine LWp.o 11 (.agg [.sl false 124 3 (encs (c124 false) xF.Blocks)]) ?_
 refine LWp.cl h 12 (fun v1 => (.agg [.sl true 124 3 (encs (c124 true) v1.Blocks)])) rfl (l := [.sv (.agg [.sl false 124 3 (encs (c124 false) xF.Blocks)])]) rfl (fun v hv => i_copyFlash_t xF v hv) (.inl rfl) ?_
 intro v1 gv1 h
 refine LWp.b [] 10 [.sl true 124 3 (encs (c124 true) [])] ?_
 refine LWp.sb [(.slot 12, [.junk])] (.box 10) [.sl true 124 3 (encs (c124 true) v1.Blocks)] ?_
 refine LWp.nil ?_
 refine Wp.seq ?_
 refine Wp.seq ?_
 refine Wp.j1 h [1, 2, 3, 8, 10, 37] [.box 8, .box 10] (fun a => (i_Program_H1 xB xLeaf xText v1 a)) ?_ ?_
 · intro a h
   refine Wp.region ?_
   refine LWp.o 13 (.agg [.sl false 124 3 (encs (c124 false) xF.Blocks)]) ?_
   refine LWp.o 14 (I xB) ?_
   refine LWp.cl h 15 (fun v2 => (B v2)) rfl (l := [.sv (.agg [.sl false 124 3 (encs (c124 false) xF.Blocks)]), .sv (.one (.int .i64 xB))]) rfl (fun v hv => i_usable_t xF xB v hv) (.inl rfl) ?_
   intro v2 gv2 h
   refine LWp.o 16 (B (!v2)) ?_
   refine LWp.o 17 (B (!v2)) ?_
   refine LWp.sp h 17 (fun h => ?_) (fun h => ?_)
   · refine LWp.sh 18 ?_
     refine LWp.sh 19 ?_
     refine LWp.sh 20 ?_
     refine LWp.o 21 (B true) ?_
     refine LWp.o 22 (B true) ?_
     refine LWp.sh 23 ?_
     refine LWp.sh 24 ?_
     refine LWp.sh 25 ?_
     refine LWp.sh 26 ?_
     refine LWp.sh 27 ?_
     refine LWp.sh 28 ?_
     refine LWp.sh 29 ?_
     refine LWp.sh 30 ?_
     refine LWp.o 31 (B true) ?_
     refine LWp.o 32 (B true) ?_
     refine LWp.sh 33 ?_
     refine LWp.sh 34 ?_
     refine LWp.sh 35 ?_
     refine LWp.sh 36 ?_
     refine LWp.o 37 (B true) ?_
     refine LWp.nil ?_
     cases h
     exact ⟨_, rfl, rfl, rfl⟩
   refine LWp.o 18 (I xLeaf) ?_
   refine LWp.cl h 19 (fun v3 => (B v3)) rfl (l := [.sv (.one (.int .i64 xLeaf)), .sv (.one (.int .i64 0)), .sv (.one (.int .i64 3))]) rfl (fun v hv => i_in_t xLeaf 0 3 v hv) (.inl rfl) ?_
   intro v3 gv3 h
   refine LWp.o 20 (B (!v3)) ?_
   refine LWp.o 21 (B (!v3)) ?_
   refine LWp.o 22 (B (!v3)) ?_
   refine LWp.sp h 22 (fun h => ?_) (fun h => ?_)
   · refine LWp.sh 23 ?_
     refine LWp.sh 24 ?_
     refine LWp.sh 25 ?_
     refine LWp.sh 26 ?_
     refine LWp.sh 27 ?_
     refine LWp.sh 28 ?_
     refine LWp.sh 29 ?_
     refine LWp.sh 30 ?_
     refine LWp.o 31 (B true) ?_
     refine LWp.o 32 (B true) ?_
     refine LWp.sh 33 ?_
     refine LWp.sh 34 ?_
     refine LWp.sh 35 ?_
     refine LWp.sh 36 ?_
     refine LWp.o 37 (B true) ?_
     refine LWp.nil ?_
     cases h
     exact ⟨_, rfl, rfl, rfl⟩
   refine LWp.o 23 (I xLeaf) ?_
   refine LWp.o 24 (.one (.ptr (.box 4) 1 [] 0)) ?_
   refine LWp.o 25 (.one (.sl false 124 3 (encs (c124 false) xF.Blocks))) ?_
   refine LWp.o 26 (I xB) ?_
   refine LWp.p h 27 (fun _ => (.one (.ptr (.slot 25) 1 [0] (Int.toNat xB * 3 + 0)))) ?_ (fun x1 gx1 => st_pure (p_ix (k124 false) (.slot 25) [] 0 gx1))
   intro x1 gx1 h
   refine LWp.o 28 (.agg [.bool x1.Bad, .int .i64 x1.Wear, .sl false 165 2 (encs c165 x1.Leaves)]) ?_ (st_pure (p_le (k124 false) (.slot 25) [0] gx1))
   refine LWp.cl h 29 (fun v4 => (I v4)) rfl (l := [.sv (.agg [.bool x1.Bad, .int .i64 x1.Wear, .sl false 165 2 (encs c165 x1.Leaves)])]) rfl (fun v hv => i_NextBlank_t x1 v hv) (.inl rfl) ?_
   intro v4 gv4 h
   refine LWp.o 30 (B (xLeaf != v4)) ?_
   refine LWp.o 31 (B (xLeaf != v4)) ?_
   refine LWp.o 32 (B (xLeaf != v4)) ?_
   refine LWp.sp h 32 (fun h => ?_) (fun h => ?_)
   · refine LWp.sh 33 ?_
     refine LWp.sh 34 ?_
     refine LWp.sh 35 ?_
     refine LWp.sh 36 ?_
     refine LWp.o 37 (B true) ?_
     refine LWp.nil ?_
     cases h
     exact ⟨_, rfl, rfl, rfl⟩
   refine LWp.o 33 (Y xText) ?_
   refine LWp.o 34 (I (sln xText)) ?_
   refine LWp.cl h 35 (fun v5 => (B v5)) rfl (l := [.sv (.one (.int .i64 (sln xText))), .sv (.one (.int .i64 1)), .sv (.one (.int .i64 120))]) rfl (fun v hv => i_in_t (sln xText) 1 120 v hv) (.inl rfl) ?_
   intro v5 gv5 h
   refine LWp.o 36 (B (!v5)) ?_
   refine LWp.o 37 (B (!v5)) ?_
   refine LWp.nil ?_
   cases h
   exact ⟨_, rfl, rfl, rfl⟩
 intro j1 h E hE
 refine nt_wp hE ?_
 change Wp _ _ _ (i_Program_H1 xB xLeaf xText v1 j1) _
 refine Wp.c h (fun h => ?_) (fun h => ?_)
 · refine Wp.seq (Wp.region ?_)
   refine LWp.o 38 (.agg [.view (.box 10) 0 [] 0]) ?_
   refine LWp.sb [(.box 10, [.junk])] (.box 8) [.sl true 124 3 (encs (c124 true) v1.Blocks)] ?_
   refine LWp.o 9 (B false) ?_
   refine LWp.nil ?_
   cases h
   exact Wp.ret ⟨.inr rfl, _, _, rfl, rfl⟩
 refine Wp.skip ?_
 refine Wp.seq (Wp.region ?_)
 refine LWp.o 39 (.one (.ptr (.box 10) 0 [] 0)) ?_
 refine LWp.o 40 (.one (.view (.box 10) 0 [] 0)) ?_
 refine LWp.o 41 (I xB) ?_
 refine LWp.p h 42 (fun _ => (.one (.ptr (.box 10) 0 [0] (Int.toNat xB * 3 + 0)))) ?_ (fun x2 gx2 => st_pure (p_ix (k124 true) (.box 10) [] 0 gx2))
 intro x2 gx2 h
 refine LWp.o 43 (.one (.ptr (.box 10) 0 [0] (Int.toNat xB * 3 + 2))) ?_ (st_pure (p_fa (k124 true) (.box 10) [0] 0 gx2))
 refine LWp.o 44 (.one (.view (.box 10) 0 [0] (Int.toNat xB * 3 + 2))) ?_ (st_pure (p_lc (k124 true) (.box 10) [0] 2 (.sl true 165 2 (encs c165 x2.Leaves)) gx2))
 refine LWp.o 45 (I xLeaf) ?_
 refine LWp.o 46 (Y xText) ?_
 refine LWp.o 47 (.agg [.int .i64 1, .str xText]) ?_
 refine LWp.p h 48 (fun _ => (.one (.ptr (.box 10) 0 [0, (Int.toNat xB * 3 + 2)] (Int.toNat xLeaf * 2 + 0)))) ?_ (fun x3 gx3 => st_pure (p_ix k165 (.box 10) [0] (Int.toNat xB * 3 + 2) gx3 (hp := gi_cellb (k124 true) gx2)))
 intro x3 gx3 h
 refine LWp.sb [] (.box 10) [.sl true 124 3 (encs (c124 true) (si v1.Blocks xB (Block.mk x2.Bad x2.Wear (si x2.Leaves xLeaf (Leaf.mk 1 xText)))))] ?_ (s_st [] (q := [0, (Int.toNat xB * 3 + 2)]) (cs := [.sl true 124 3 (encs (c124 true) v1.Blocks)]) (xs := [.int .i64 1, .str xText]) (At.el (k124 true) (k := 2) (z := (Block.mk x2.Bad x2.Wear (si x2.Leaves xLeaf (Leaf.mk 1 xText)))) gx2 (At.one (setRow_gi k165 (k := 0) (z := (Leaf.mk 1 xText)) gx3 rfl rfl))) (fit_gi k165 (k := 0) gx3 rfl))
 refine LWp.nil ?_
 refine Wp.seq (Wp.region ?_)
 refine LWp.o 49 (.agg [.view (.box 10) 1 [] 0]) ?_
 refine LWp.sb [(.box 10, [.junk])] (.box 8) [.sl true 124 3 (encs (c124 true) (si v1.Blocks xB (Block.mk x2.Bad x2.Wear (si x2.Leaves xLeaf (Leaf.mk 1 xText)))))] ?_
 refine LWp.o 9 (B true) ?_
 refine LWp.nil ?_
 cases h
 exact Wp.ret ⟨.inr rfl, _, _, rfl, rfl⟩
theorem i_blankLeaves_t  (r : List Leaf) (h : i_blankLeaves = some r) : Gives Tryz.prog 176 [] (.one (.sl true 165 2 (encs c165 r))) (List.replicate 0 .gone) := by
 unfold i_blankLeaves at h
 refine gives_of Tryz.func176 rfl ?_
 rw [Tryz.ntmps176]
 refine Wp.seq (Wp.region ?_)
 refine LWp.o 0 (.one (.sl true 165 2 (encs c165 []))) ?_
 refine LWp.nil ?_
 refine Wp.seq (Wp.region ?_)
 refine LWp.p h 1 (fun q1 => (.one (.sl true 165 2 (encs c165 q1)))) ?_ (fun q1 gq1 => s_mk (f := c165) (Leaf.mk 0 (bs [])) gq1)
 intro q1 gq1 h
 refine LWp.m true [(.slot 1, [.junk])] 0 (.one (.sl true 165 2 (encs c165 q1))) ?_
 refine LWp.nil ?_
 cases h
 exact Wp.ret ⟨.inr rfl, _, _, rfl, rfl⟩
def i_Wipe_H1 (xB : Int) (v1 : Flash) (z1 : Bool) : St := mkSt [(1, (I xB)), (4, (.one (.ptr (.box 4) 0 [] 0))), (6, (.one (.ptr (.box 6) 0 [] 0))), (21, (B z1))] [(.box 4, [.sl true 124 3 (encs (c124 true) [])]), (.box 6, [.sl true 124 3 (encs (c124 true) v1.Blocks)])]
theorem i_Wipe_t (xF : Flash) (xB : Int) (r : Flash × Bool) (h : i_Wipe xF xB = some r) : Gives Tryz.prog 142 [.sv (.agg [.sl false 124 3 (encs (c124 false) xF.Blocks)]), .sv (I xB)] (.tup [(.agg [.sl true 124 3 (encs (c124 true) r.1.Blocks)]), (B r.2)]) (List.replicate 2 .gone) := by
 unfold i_Wipe at h
 refine gives_of Tryz.func142 rfl ?_
 rw [Tryz.ntmps142]
 refine Wp.seq (Wp.region ?_)
 refine LWp.b [] 2 [.sl false 124 3 (encs (c124 false) xF.Blocks)] ?_
 refine LWp.b [] 4 [.sl true 124 3 (encs (c124 true) [])] ?_
 refine LWp.o 5 (B false) ?_
 refine LWp.nil ?_
 refine Wp.seq (Wp.region ?_)
 refine LWp.o 7 (.agg [.sl false 124 3 (encs (c124 false) xF.Blocks)]) ?_
 refine LWp.cl h 8 (fun v1 => (.agg [.sl true 124 3 (encs (c124 true) v1.Blocks)])) rfl (l := [.sv (.agg [.sl false 124 3 (encs (c124 false) xF.Blocks)])]) rfl (fun v hv => i_copyFlash_t xF v hv) (.inl rfl) ?_
 intro v1 gv1 h
 refine LWp.b [] 6 [.sl true 124 3 (encs (c124 true) [])] ?_
 refine LWp.sb [(.slot 8, [.junk])] (.box 6) [.sl true 124 3 (encs (c124 true) v1.Blocks)] ?_
 refine LWp.nil ?_
 refine Wp.seq ?_
 refine Wp.seq ?_
 refine Wp.j1 h [1, 4, 6, 21] [.box 4, .box 6] (fun a => (i_Wipe_H1 xB v1 a)) ?_ ?_
 · intro a h
   refine Wp.region ?_
   refine LWp.o 9 (.agg [.sl false 124 3 (encs (c124 false) xF.Blocks)]) ?_
   refine LWp.o 10 (I xB) ?_
   refine LWp.cl h 11 (fun v2 => (B v2)) rfl (l := [.sv (.agg [.sl false 124 3 (encs (c124 false) xF.Blocks)]), .sv (.one (.int .i64 xB))]) rfl (fun v hv => i_usable_t xF xB v hv) (.inl rfl) ?_
   intro v2 gv2 h
   refine LWp.o 12 (B (!v2)) ?_
   refine LWp.o 13 (B (!v2)) ?_
   refine LWp.sp h 13 (fun h => ?_) (fun h => ?_)
   · refine LWp.sh 14 ?_
     refine LWp.sh 15 ?_
     refine LWp.sh 16 ?_
     refine LWp.sh 17 ?_
     refine LWp.sh 18 ?_
     refine LWp.sh 19 ?_
     refine LWp.sh 20 ?_
     refine LWp.o 21 (B true) ?_
     refine LWp.nil ?_
     cases h
     exact ⟨_, rfl, rfl, rfl⟩
   refine LWp.o 14 (.one (.ptr (.box 2) 1 [] 0)) ?_
   refine LWp.o 15 (.one (.sl false 124 3 (encs (c124 false) xF.Blocks))) ?_
   refine LWp.o 16 (I xB) ?_
   refine LWp.p h 17 (fun _ => (.one (.ptr (.slot 15) 1 [0] (Int.toNat xB * 3 + 0)))) ?_ (fun x1 gx1 => st_pure (p_ix (k124 false) (.slot 15) [] 0 gx1))
   intro x1 gx1 h
   refine LWp.o 18 (.one (.ptr (.slot 15) 1 [0] (Int.toNat xB * 3 + 1))) ?_ (st_pure (p_fa (k124 false) (.slot 15) [0] 0 gx1))
   refine LWp.o 19 (I x1.Wear) ?_ (st_pure (p_lc (k124 false) (.slot 15) [0] 1 (.int .i64 x1.Wear) gx1))
   refine LWp.o 20 (B (x1.Wear == 1000000000)) ?_
   refine LWp.o 21 (B (x1.Wear == 1000000000)) ?_
   refine LWp.nil ?_
   cases h
   exact ⟨_, rfl, rfl, rfl⟩
 intro j1 h E hE
 refine nt_wp hE ?_
 change Wp _ _ _ (i_Wipe_H1 xB v1 j1) _
 refine Wp.c h (fun h => ?_) (fun h => ?_)
 · refine Wp.seq (Wp.region ?_)
   refine LWp.o 22 (.agg [.view (.box 6) 0 [] 0]) ?_
   refine LWp.sb [(.box 6, [.junk])] (.box 4) [.sl true 124 3 (encs (c124 true) v1.Blocks)] ?_
   refine LWp.o 5 (B false) ?_
   refine LWp.nil ?_
   cases h
   exact Wp.ret ⟨.inr rfl, _, _, rfl, rfl⟩
 refine Wp.skip ?_
 refine Wp.seq ?_
 refine Wp.regionK 7 [6] mixed (fun c E h => by rcases h with ⟨h | h, _⟩ <;> cases h) ?_
 refine KWp.o 7 0 23 (.one (.ptr (.box 6) 0 [] 0)) ?_
 refine KWp.o 7 1 24 (.one (.view (.box 6) 0 [] 0)) ?_
 refine KWp.o 7 2 25 (I xB) ?_
 refine KWp.w1 3 ?_
 refine KOp.cl h 3 26 (fun v3 => (.one (.sl true 165 2 (encs c165 v3)))) rfl rfl (l := []) rfl (fun v hv => i_blankLeaves_t v hv) (.inl rfl) ?_
 intro v3 gv3 h
 refine KWp.p h 7 4 27 (fun _ => (.one (.ptr (.box 6) 0 [0] (Int.toNat xB * 3 + 0)))) ?_ rfl (fun x2 gx2 => sl_pure (p_ix (k124 true) (.box 6) [] 0 gx2))
 intro x2 gx2 h
 refine KWp.o 7 5 28 (.one (.ptr (.box 6) 0 [0] (Int.toNat xB * 3 + 2))) ?_ rfl (sl_pure (p_fa (k124 true) (.box 6) [0] 0 gx2))
 refine KWp.w1 6 ?_
 refine KOp.sb 6 [(.slot 26, [.junk])] (.box 6) [.sl true 124 3 (encs (c124 true) (si v1.Blocks xB (Block.mk x2.Bad x2.Wear v3)))] ?_ rfl (s_st [(.slot 26, [.junk])] (q := [0]) (cs := [.sl true 124 3 (encs (c124 true) v1.Blocks)]) (xs := [.sl true 165 2 (encs c165 v3)]) (At.one (setRow_gi (k124 true) (k := 2) (z := (Block.mk x2.Bad x2.Wear v3)) gx2 rfl rfl)) (fit_gi (k124 true) (k := 2) gx2 rfl))
 refine KWp.done ?_
 refine Wp.seq (Wp.region ?_)
 refine LWp.o 29 (.one (.ptr (.box 6) 0 [] 0)) ?_
 refine LWp.o 30 (.one (.view (.box 6) 1 [] 0)) ?_
 refine LWp.o 31 (I xB) ?_
 refine LWp.p h 32 (fun _ => (.one (.ptr (.box 6) 1 [0] (Int.toNat xB * 3 + 0)))) ?_ (fun x3 gx3 => st_pure (p_ix (k124 true) (.box 6) [] 0 gx3))
 intro x3 gx3 h
 refine LWp.o 33 (.one (.ptr (.box 6) 1 [0] (Int.toNat xB * 3 + 1))) ?_ (st_pure (p_fa (k124 true) (.box 6) [0] 0 gx3))
 refine LWp.o 34 (I x3.Wear) ?_ (st_pure (p_lc (k124 true) (.box 6) [0] 1 (.int .i64 x3.Wear) gx3))
 refine LWp.o 35 (I (ad x3.Wear 1)) ?_
 refine LWp.p h 36 (fun _ => (.one (.ptr (.box 6) 1 [0] (Int.toNat xB * 3 + 0)))) ?_ (fun x4 gx4 => st_pure (p_ix (k124 true) (.box 6) [] 0 gx4))
 intro x4 gx4 h
 refine LWp.o 37 (.one (.ptr (.box 6) 1 [0] (Int.toNat xB * 3 + 1))) ?_ (st_pure (p_fa (k124 true) (.box 6) [0] 0 gx4))
 refine LWp.sb [] (.box 6) [.sl true 124 3 (encs (c124 true) (si (si v1.Blocks xB (Block.mk x2.Bad x2.Wear v3)) xB (Block.mk x4.Bad (ad x3.Wear 1) x4.Leaves)))] ?_ (s_st [] (q := [0]) (cs := [.sl true 124 3 (encs (c124 true) (si v1.Blocks xB (Block.mk x2.Bad x2.Wear v3)))]) (xs := [.int .i64 (ad x3.Wear 1)]) (At.one (setRow_gi (k124 true) (k := 1) (z := (Block.mk x4.Bad (ad x3.Wear 1) x4.Leaves)) gx4 rfl rfl)) (fit_gi (k124 true) (k := 1) gx4 rfl))
 refine LWp.nil ?_
 refine Wp.seq (Wp.region ?_)
 refine LWp.o 38 (.agg [.view (.box 6) 2 [] 0]) ?_
 refine LWp.sb [(.box 6, [.junk])] (.box 4) [.sl true 124 3 (encs (c124 true) (si (si v1.Blocks xB (Block.mk x2.Bad x2.Wear v3)) xB (Block.mk x4.Bad (ad x3.Wear 1) x4.Leaves)))] ?_
 refine LWp.o 5 (B true) ?_
 refine LWp.nil ?_
 cases h
 exact Wp.ret ⟨.inr rfl, _, _, rfl, rfl⟩
theorem i_DoStep_t (xF : Flash) (xS : Step) (r : Flash × Bool) (h : i_DoStep xF xS = some r) : Gives Tryz.prog 90 [.sv (.agg [.sl false 124 3 (encs (c124 false) xF.Blocks)]), .sv (.agg [.int .i64 xS.Kind, .int .i64 xS.Block, .int .i64 xS.Leaf, .str xS.Text])] (.tup [(.agg [.sl true 124 3 (encs (c124 true) r.1.Blocks)]), (B r.2)]) (List.replicate 2 .gone) := by
 unfold i_DoStep at h
 refine gives_of Tryz.func90 rfl ?_
 rw [Tryz.ntmps90]
 refine Wp.seq (Wp.region ?_)
 refine LWp.b [] 2 [.sl false 124 3 (encs (c124 false) xF.Blocks)] ?_
 refine LWp.b [] 3 [.int .i64 xS.Kind, .int .i64 xS.Block, .int .i64 xS.Leaf, .str xS.Text] ?_
 refine LWp.b [] 4 [.sl true 124 3 (encs (c124 true) [])] ?_
 refine LWp.o 5 (B false) ?_
 refine LWp.nil ?_
 refine Wp.seq ?_
 refine Wp.seq (Wp.region ?_)
 refine LWp.o 6 (.one (.ptr (.box 3) 1 [] 0)) ?_
 refine LWp.o 7 (I xS.Kind) ?_
 refine LWp.nil ?_
 refine Wp.block ?_
 refine Wp.seq (Wp.region ?_)
 refine LWp.o 9 (B (xS.Kind == 1)) ?_
 refine LWp.o 8 (B (xS.Kind == 1)) ?_
 refine LWp.nil ?_
 refine Wp.c h (fun h => ?_) (fun h => ?_)
 · refine Wp.seq (Wp.region ?_)
   refine LWp.o 10 (.agg [.sl false 124 3 (encs (c124 false) xF.Blocks)]) ?_
   refine LWp.o 11 (.one (.ptr (.box 3) 1 [] 1)) ?_
   refine LWp.o 12 (I xS.Block) ?_
   refine LWp.o 13 (.one (.ptr (.box 3) 1 [] 2)) ?_
   refine LWp.o 14 (I xS.Leaf) ?_
   refine LWp.o 15 (.one (.ptr (.box 3) 1 [] 3)) ?_
   refine LWp.o 16 (Y xS.Text) ?_
   refine LWp.cl h 17 (fun v1 => (.tup [(.agg [.sl true 124 3 (encs (c124 true) v1.1.Blocks)]), (B v1.2)])) rfl (l := [.sv (.agg [.sl false 124 3 (encs (c124 false) xF.Blocks)]), .sv (.one (.int .i64 xS.Block)), .sv (.one (.int .i64 xS.Leaf)), .sv (.one (.str xS.Text))]) rfl (fun v hv => i_Program_t xF xS.Block xS.Leaf xS.Text v hv) (.inl rfl) ?_
   intro v1 gv1 h
   refine LWp.e 17 0 18 (.agg [.sl true 124 3 (encs (c124 true) v1.1.Blocks)]) ?_
   refine LWp.e 17 1 19 (B v1.2) ?_
   refine LWp.sb [(.slot 18, [.junk])] (.box 4) [.sl true 124 3 (encs (c124 true) v1.1.Blocks)] ?_
   refine LWp.o 5 (B v1.2) ?_
   refine LWp.nil ?_
   cases h
   exact Wp.ret ⟨.inr rfl, _, _, rfl, rfl⟩
 refine Wp.seq (Wp.region ?_)
 refine LWp.o 21 (B (xS.Kind == 2)) ?_
 refine LWp.o 20 (B (xS.Kind == 2)) ?_
 refine LWp.nil ?_
 refine Wp.c h (fun h => ?_) (fun h => ?_)
 · refine Wp.seq (Wp.region ?_)
   refine LWp.o 22 (.agg [.sl false 124 3 (encs (c124 false) xF.Blocks)]) ?_
   refine LWp.o 23 (.one (.ptr (.box 3) 1 [] 1)) ?_
   refine LWp.o 24 (I xS.Block) ?_
   refine LWp.cl h 25 (fun v2 => (.tup [(.agg [.sl true 124 3 (encs (c124 true) v2.1.Blocks)]), (B v2.2)])) rfl (l := [.sv (.agg [.sl false 124 3 (encs (c124 false) xF.Blocks)]), .sv (.one (.int .i64 xS.Block))]) rfl (fun v hv => i_Wipe_t xF xS.Block v hv) (.inl rfl) ?_
   intro v2 gv2 h
   refine LWp.e 25 0 26 (.agg [.sl true 124 3 (encs (c124 true) v2.1.Blocks)]) ?_
   refine LWp.e 25 1 27 (B v2.2) ?_
   refine LWp.sb [(.slot 26, [.junk])] (.box 4) [.sl true 124 3 (encs (c124 true) v2.1.Blocks)] ?_
   refine LWp.o 5 (B v2.2) ?_
   refine LWp.nil ?_
   cases h
   exact Wp.ret ⟨.inr rfl, _, _, rfl, rfl⟩
 refine Wp.skip ?_
 refine Wp.seq (Wp.region ?_)
 refine LWp.o 28 (.agg [.sl false 124 3 (encs (c124 false) xF.Blocks)]) ?_
 refine LWp.cl h 29 (fun v3 => (.agg [.sl true 124 3 (encs (c124 true) v3.Blocks)])) rfl (l := [.sv (.agg [.sl false 124 3 (encs (c124 false) xF.Blocks)])]) rfl (fun v hv => i_copyFlash_t xF v hv) (.inl rfl) ?_
 intro v3 gv3 h
 refine LWp.sb [(.slot 29, [.junk])] (.box 4) [.sl true 124 3 (encs (c124 true) v3.Blocks)] ?_
 refine LWp.o 5 (B false) ?_
 refine LWp.nil ?_
 cases h
 exact Wp.ret ⟨.inr rfl, _, _, rfl, rfl⟩
def i_stepper_write_H1 (xW : stepper) (v1 : ByteArray × Bool) (v2 : Int × Int × Bool) (z1 : Bool) : St := mkSt [(0, (.one (.ptr (.ext 0) 0 [] 0))), (7, (Y v1.1)), (9, (I v2.1)), (10, (I v2.2.1)), (39, (B z1))] [(.ext 0, [.sl false 124 3 (encs (c124 false) xW.f_.Blocks), .sl true 99 4 (encs c99 xW.steps_)])]
def i_stepper_write_H2 (xW : stepper) (v1 : ByteArray × Bool) (v2 : Int × Int × Bool) (z2 : Bool) (z3 : List Block) : St := mkSt [(0, (.one (.ptr (.ext 0) 0 [] 0))), (12, (.one (.ptr (.box 12) 0 [] 0))), (13, (.one (.ptr (.box 13) 0 [] 0))), (14, (B z2))] [(.box 12, [.int .i64 1, .int .i64 v2.1, .int .i64 v2.2.1, .str v1.1]), (.box 13, [.sl true 124 3 (encs (c124 true) z3)]), (.ext 0, [.sl false 124 3 (encs (c124 false) xW.f_.Blocks), .sl true 99 4 (encs c99 xW.steps_)])]
set_option maxHeartbeats 4000000 in
theorem i_stepper_write_t (xW : stepper) (xP : Page) (xBut : Int) (r : Bool × stepper) (h : i_stepper_write xW xP xBut = some r) : Gives Tryz.prog 45 [.ext [.sl false 124 3 (encs (c124 false) xW.f_.Blocks), .sl true 99 4 (encs c99 xW.steps_)], .sv (.agg [.int .i64 xP.Kind, .int .i64 xP.Seq, .int .i64 xP.Tx, .int .i64 xP.Part, .int .i64 xP.Count, .str xP.Text]), .sv (I xBut)] (B r.1) (.ext [.sl false 124 3 (encs (c124 false) r.2.f_.Blocks), .sl true 99 4 (encs c99 r.2.steps_)] :: List.replicate 2 .gone) := by
 unfold i_stepper_write at h
 refine gives_extL Tryz.func45 rfl ?_ rfl
 rw [Tryz.ntmps45]
 refine Wp.seq (Wp.region ?_)
 refine LWp.b [] 4 [.int .i64 xP.Kind, .int .i64 xP.Seq, .int .i64 xP.Tx, .int .i64 xP.Part, .int .i64 xP.Count, .str xP.Text] ?_
 refine LWp.o 6 (B false) ?_
 refine LWp.nil ?_
 refine Wp.seq (Wp.region ?_)
 refine LWp.o 16 (.agg [.int .i64 xP.Kind, .int .i64 xP.Seq, .int .i64 xP.Tx, .int .i64 xP.Part, .int .i64 xP.Count, .str xP.Text]) ?_
 refine LWp.cl h 17 (fun v1 => (.tup [(Y v1.1), (B v1.2)])) rfl (l := [.sv (.agg [.int .i64 xP.Kind, .int .i64 xP.Seq, .int .i64 xP.Tx, .int .i64 xP.Part, .int .i64 xP.Count, .str xP.Text])]) rfl (fun v hv => i_PageText_t xP v hv) (.inl rfl) ?_
 intro v1 gv1 h
 refine LWp.mt 17 15 (.tup [(Y v1.1), (B v1.2)]) ?_
 refine LWp.e 15 0 18 (Y v1.1) ?_
 refine LWp.e 15 1 19 (B v1.2) ?_
 refine LWp.o 7 (Y v1.1) ?_
 refine LWp.o 8 (B v1.2) ?_
 refine LWp.nil ?_
 refine Wp.seq (Wp.region ?_)
 refine LWp.o 21 (.one (.ptr (.ext 0) 0 [] 0)) ?_
 refine LWp.o 22 (.one (.ptr (.ext 0) 0 [] 0)) ?_
 refine LWp.o 23 (.one (.ptr (.ext 0) 0 [] 0)) ?_
 refine LWp.o 24 (.agg [.sl false 124 3 (encs (c124 false) xW.f_.Blocks)]) ?_
 refine LWp.cl h 25 (fun v2 => (.tup [(I v2.1), (I v2.2.1), (B v2.2.2)])) rfl (l := [.sv (.agg [.sl false 124 3 (encs (c124 false) xW.f_.Blocks)])]) rfl (fun v hv => i_PlaceOf_t xW.f_ v hv) (.inl rfl) ?_
 intro v2 gv2 h
 refine LWp.mt 25 20 (.tup [(I v2.1), (I v2.2.1), (B v2.2.2)]) ?_
 refine LWp.e 20 0 26 (I v2.1) ?_
 refine LWp.e 20 1 27 (I v2.2.1) ?_
 refine LWp.e 20 2 28 (B v2.2.2) ?_
 refine LWp.o 9 (I v2.1) ?_
 refine LWp.o 10 (I v2.2.1) ?_
 refine LWp.o 11 (B v2.2.2) ?_
 refine LWp.nil ?_
 refine Wp.seq ?_
 refine Wp.seq ?_
 refine Wp.j1 h [0, 7, 9, 10, 39] [.ext 0] (fun a => (i_stepper_write_H1 xW v1 v2 a)) ?_ ?_
 · intro a h
   refine Wp.region ?_
   refine LWp.o 29 (B v1.2) ?_
   refine LWp.o 30 (B (!v1.2)) ?_
   refine LWp.o 31 (B (!v1.2)) ?_
   refine LWp.sp h 31 (fun h => ?_) (fun h => ?_)
   · refine LWp.sh 32 ?_
     refine LWp.sh 33 ?_
     refine LWp.o 34 (B true) ?_
     refine LWp.o 35 (B true) ?_
     refine LWp.sh 36 ?_
     refine LWp.sh 37 ?_
     refine LWp.sh 38 ?_
     refine LWp.o 39 (B true) ?_
     refine LWp.nil ?_
     cases h
     exact ⟨_, rfl, rfl, rfl⟩
   refine LWp.o 32 (B v2.2.2) ?_
   refine LWp.o 33 (B (!v2.2.2)) ?_
   refine LWp.o 34 (B (!v2.2.2)) ?_
   refine LWp.o 35 (B (!v2.2.2)) ?_
   refine LWp.sp h 35 (fun h => ?_) (fun h => ?_)
   · refine LWp.sh 36 ?_
     refine LWp.sh 37 ?_
     refine LWp.sh 38 ?_
     refine LWp.o 39 (B true) ?_
     refine LWp.nil ?_
     cases h
     exact ⟨_, rfl, rfl, rfl⟩
   refine LWp.o 36 (I v2.1) ?_
   refine LWp.o 37 (I xBut) ?_
   refine LWp.o 38 (B (v2.1 == xBut)) ?_
   refine LWp.o 39 (B (v2.1 == xBut)) ?_
   refine LWp.nil ?_
   cases h
   exact ⟨_, rfl, rfl, rfl⟩
 intro j1 h E hE
 refine nt_wp hE ?_
 change Wp _ _ _ (i_stepper_write_H1 xW v1 v2 j1) _
 refine Wp.c h (fun h => ?_) (fun h => ?_)
 · refine Wp.seq (Wp.region ?_)
   refine LWp.o 6 (B false) ?_
   refine LWp.nil ?_
   cases h
   exact Wp.ret ⟨.inr rfl, _, _, _, rfl, SVle.r, rfl, les.r⟩
 refine Wp.skip ?_
 refine Wp.seq (Wp.region ?_)
 refine LWp.o 40 (I v2.1) ?_
 refine LWp.o 41 (I v2.2.1) ?_
 refine LWp.o 42 (Y v1.1) ?_
 refine LWp.o 43 (.agg [.int .i64 1, .int .i64 v2.1, .int .i64 v2.2.1, .str v1.1]) ?_
 refine LWp.b [] 12 [.int .i64 0, .int .i64 0, .int .i64 0, .str (bs [])] ?_
 refine LWp.s [] (.box 12) [.int .i64 1, .int .i64 v2.1, .int .i64 v2.2.1, .str v1.1] ?_
 refine LWp.nil ?_
 refine Wp.seq ?_
 refine Wp.j1 h [0, 12, 13, 14] [.box 12, .box 13, .ext 0] (fun a => (i_stepper_write_H2 xW v1 v2 a.1 a.2)) ?_ ?_
 · intro a h
   refine Wp.regionK 12 [10] mixed (fun c E h => by rcases h with ⟨h | h, _⟩ <;> cases h) ?_
   refine KWp.o 12 0 45 (.one (.ptr (.ext 0) 0 [] 0)) ?_
   refine KWp.o 12 1 46 (.one (.ptr (.ext 0) 0 [] 0)) ?_
   refine KWp.o 12 2 47 (.one (.ptr (.ext 0) 0 [] 0)) ?_
   refine KWp.o 12 3 48 (.agg [.sl false 124 3 (encs (c124 false) xW.f_.Blocks)]) ?_
   refine KWp.o 12 4 49 (.agg [.int .i64 1, .int .i64 v2.1, .int .i64 v2.2.1, .str v1.1]) ?_
   refine KWp.w2 5 9 ?_ ?_
   · refine KOp.cl h 5 50 (fun v3 => (.tup [(.agg [.sl true 124 3 (encs (c124 true) v3.1.Blocks)]), (B v3.2)])) rfl rfl (l := [.sv (.agg [.sl false 124 3 (encs (c124 false) xW.f_.Blocks)]), .sv (.agg [.int .i64 1, .int .i64 v2.1, .int .i64 v2.2.1, .str v1.1])]) rfl (fun v hv => i_DoStep_t xW.f_ (Step.mk 1 v2.1 v2.2.1 v1.1) v hv) (.inl rfl) ?_
     intro v3 gv3 h
     refine KWp.w2 6 9 ?_ ?_
     · refine KOp.mt 6 50 44 (.tup [(.agg [.sl true 124 3 (encs (c124 true) v3.1.Blocks)]), (B v3.2)]) ?_
       refine KWp.w3 7 8 9 ?_ ?_ ?_
       · refine KOp.e 7 44 0 51 (.agg [.sl true 124 3 (encs (c124 true) v3.1.Blocks)]) ?_
         refine KWp.w2 8 9 ?_ ?_
         · refine KOp.e 8 44 1 52 (B v3.2) ?_
           refine KWp.w1 9 ?_
           refine KOp.b 9 [] 13 [.sl true 124 3 (encs (c124 true) [])] ?_
           refine KWp.w1 10 ?_
           refine KOp.sb 10 [(.slot 51, [.junk])] (.box 13) [.sl true 124 3 (encs (c124 true) v3.1.Blocks)] ?_
           refine KWp.w1 11 ?_
           refine KOp.o 11 14 (B v3.2) ?_
           refine KWp.done ?_
           cases h
           exact ⟨_, rfl, rfl, rfl⟩
         refine KOp.b 9 [] 13 [.sl true 124 3 (encs (c124 true) [])] ?_
         refine KWp.w2 8 10 ?_ ?_
         · refine KOp.e 8 44 1 52 (B v3.2) ?_
           refine KWp.w1 10 ?_
           refine KOp.sb 10 [(.slot 51, [.junk])] (.box 13) [.sl true 124 3 (encs (c124 true) v3.1.Blocks)] ?_
           refine KWp.w1 11 ?_
           refine KOp.o 11 14 (B v3.2) ?_
           refine KWp.done ?_
           cases h
           exact ⟨_, rfl, rfl, rfl⟩
         refine KOp.sb 10 [(.slot 51, [.junk])] (.box 13) [.sl true 124 3 (encs (c124 true) v3.1.Blocks)] ?_
         refine KWp.w1 8 ?_
         refine KOp.e 8 44 1 52 (B v3.2) ?_
         refine KWp.w1 11 ?_
         refine KOp.o 11 14 (B v3.2) ?_
         refine KWp.done ?_
         cases h
         exact ⟨_, rfl, rfl, rfl⟩
       · refine KOp.e 8 44 1 52 (B v3.2) ?_
         refine KWp.w2 7 9 ?_ ?_
         · refine KOp.e 7 44 0 51 (.agg [.sl true 124 3 (encs (c124 true) v3.1.Blocks)]) ?_
           refine KWp.w1 9 ?_
           refine KOp.b 9 [] 13 [.sl true 124 3 (encs (c124 true) [])] ?_
           refine KWp.w1 10 ?_
           refine KOp.sb 10 [(.slot 51, [.junk])] (.box 13) [.sl true 124 3 (encs (c124 true) v3.1.Blocks)] ?_
           refine KWp.w1 11 ?_
           refine KOp.o 11 14 (B v3.2) ?_
           refine KWp.done ?_
           cases h
           exact ⟨_, rfl, rfl, rfl⟩
         refine KOp.b 9 [] 13 [.sl true 124 3 (encs (c124 true) [])] ?_
         refine KWp.w1 7 ?_
         refine KOp.e 7 44 0 51 (.agg [.sl true 124 3 (encs (c124 true) v3.1.Blocks)]) ?_
         refine KWp.w1 10 ?_
         refine KOp.sb 10 [(.slot 51, [.junk])] (.box 13) [.sl true 124 3 (encs (c124 true) v3.1.Blocks)] ?_
         refine KWp.w1 11 ?_
         refine KOp.o 11 14 (B v3.2) ?_
         refine KWp.done ?_
         cases h
         exact ⟨_, rfl, rfl, rfl⟩
       refine KOp.b 9 [] 13 [.sl true 124 3 (encs (c124 true) [])] ?_
       refine KWp.w2 7 8 ?_ ?_
       · refine KOp.e 7 44 0 51 (.agg [.sl true 124 3 (encs (c124 true) v3.1.Blocks)]) ?_
         refine KWp.w2 8 10 ?_ ?_
         · refine KOp.e 8 44 1 52 (B v3.2) ?_
           refine KWp.w1 10 ?_
           refine KOp.sb 10 [(.slot 51, [.junk])] (.box 13) [.sl true 124 3 (encs (c124 true) v3.1.Blocks)] ?_
           refine KWp.w1 11 ?_
           refine KOp.o 11 14 (B v3.2) ?_
           refine KWp.done ?_
           cases h
           exact ⟨_, rfl, rfl, rfl⟩
         refine KOp.sb 10 [(.slot 51, [.junk])] (.box 13) [.sl true 124 3 (encs (c124 true) v3.1.Blocks)] ?_
         refine KWp.w1 8 ?_
         refine KOp.e 8 44 1 52 (B v3.2) ?_
         refine KWp.w1 11 ?_
         refine KOp.o 11 14 (B v3.2) ?_
         refine KWp.done ?_
         cases h
         exact ⟨_, rfl, rfl, rfl⟩
       refine KOp.e 8 44 1 52 (B v3.2) ?_
       refine KWp.w1 7 ?_
       refine KOp.e 7 44 0 51 (.agg [.sl true 124 3 (encs (c124 true) v3.1.Blocks)]) ?_
       refine KWp.w1 10 ?_
       refine KOp.sb 10 [(.slot 51, [.junk])] (.box 13) [.sl true 124 3 (encs (c124 true) v3.1.Blocks)] ?_
       refine KWp.w1 11 ?_
       refine KOp.o 11 14 (B v3.2) ?_
       refine KWp.done ?_
       cases h
       exact ⟨_, rfl, rfl, rfl⟩
     refine KOp.b 9 [] 13 [.sl true 124 3 (encs (c124 true) [])] ?_
     refine KWp.w1 6 ?_
     refine KOp.mt 6 50 44 (.tup [(.agg [.sl true 124 3 (encs (c124 true) v3.1.Blocks)]), (B v3.2)]) ?_
     refine KWp.w2 7 8 ?_ ?_
     · refine KOp.e 7 44 0 51 (.agg [.sl true 124 3 (encs (c124 true) v3.1.Blocks)]) ?_
       refine KWp.w2 8 10 ?_ ?_
       · refine KOp.e 8 44 1 52 (B v3.2) ?_
         refine KWp.w1 10 ?_
         refine KOp.sb 10 [(.slot 51, [.junk])] (.box 13) [.sl true 124 3 (encs (c124 true) v3.1.Blocks)] ?_
         refine KWp.w1 11 ?_
         refine KOp.o 11 14 (B v3.2) ?_
         refine KWp.done ?_
         cases h
         exact ⟨_, rfl, rfl, rfl⟩
       refine KOp.sb 10 [(.slot 51, [.junk])] (.box 13) [.sl true 124 3 (encs (c124 true) v3.1.Blocks)] ?_
       refine KWp.w1 8 ?_
       refine KOp.e 8 44 1 52 (B v3.2) ?_
       refine KWp.w1 11 ?_
       refine KOp.o 11 14 (B v3.2) ?_
       refine KWp.done ?_
       cases h
       exact ⟨_, rfl, rfl, rfl⟩
     refine KOp.e 8 44 1 52 (B v3.2) ?_
     refine KWp.w1 7 ?_
     refine KOp.e 7 44 0 51 (.agg [.sl true 124 3 (encs (c124 true) v3.1.Blocks)]) ?_
     refine KWp.w1 10 ?_
     refine KOp.sb 10 [(.slot 51, [.junk])] (.box 13) [.sl true 124 3 (encs (c124 true) v3.1.Blocks)] ?_
     refine KWp.w1 11 ?_
     refine KOp.o 11 14 (B v3.2) ?_
     refine KWp.done ?_
     cases h
     exact ⟨_, rfl, rfl, rfl⟩
   refine KOp.b 9 [] 13 [.sl true 124 3 (encs (c124 true) [])] ?_
   refine KWp.w1 5 ?_
   refine KOp.cl h 5 50 (fun v4 => (.tup [(.agg [.sl true 124 3 (encs (c124 true) v4.1.Blocks)]), (B v4.2)])) rfl rfl (l := [.sv (.agg [.sl false 124 3 (encs (c124 false) xW.f_.Blocks)]), .sv (.agg [.int .i64 1, .int .i64 v2.1, .int .i64 v2.2.1, .str v1.1])]) rfl (fun v hv => i_DoStep_t xW.f_ (Step.mk 1 v2.1 v2.2.1 v1.1) v hv) (.inl rfl) ?_
   intro v4 gv4 h
   refine KWp.w1 6 ?_
   refine KOp.mt 6 50 44 (.tup [(.agg [.sl true 124 3 (encs (c124 true) v4.1.Blocks)]), (B v4.2)]) ?_
   refine KWp.w2 7 8 ?_ ?_
   · refine KOp.e 7 44 0 51 (.agg [.sl true 124 3 (encs (c124 true) v4.1.Blocks)]) ?_
     refine KWp.w2 8 10 ?_ ?_
     · refine KOp.e 8 44 1 52 (B v4.2) ?_
       refine KWp.w1 10 ?_
       refine KOp.sb 10 [(.slot 51, [.junk])] (.box 13) [.sl true 124 3 (encs (c124 true) v4.1.Blocks)] ?_
       refine KWp.w1 11 ?_
       refine KOp.o 11 14 (B v4.2) ?_
       refine KWp.done ?_
       cases h
       exact ⟨_, rfl, rfl, rfl⟩
     refine KOp.sb 10 [(.slot 51, [.junk])] (.box 13) [.sl true 124 3 (encs (c124 true) v4.1.Blocks)] ?_
     refine KWp.w1 8 ?_
     refine KOp.e 8 44 1 52 (B v4.2) ?_
     refine KWp.w1 11 ?_
     refine KOp.o 11 14 (B v4.2) ?_
     refine KWp.done ?_
     cases h
     exact ⟨_, rfl, rfl, rfl⟩
   refine KOp.e 8 44 1 52 (B v4.2) ?_
   refine KWp.w1 7 ?_
   refine KOp.e 7 44 0 51 (.agg [.sl true 124 3 (encs (c124 true) v4.1.Blocks)]) ?_
   refine KWp.w1 10 ?_
   refine KOp.sb 10 [(.slot 51, [.junk])] (.box 13) [.sl true 124 3 (encs (c124 true) v4.1.Blocks)] ?_
   refine KWp.w1 11 ?_
   refine KOp.o 11 14 (B v4.2) ?_
   refine KWp.done ?_
   cases h
   exact ⟨_, rfl, rfl, rfl⟩
 intro j2 h E hE
 refine nt_wp hE ?_
 change Wp _ _ _ (i_stepper_write_H2 xW v1 v2 j2.1 j2.2) _
 refine Wp.seq (Wp.region ?_)
 refine LWp.o 53 (.one (.ptr (.ext 0) 0 [] 0)) ?_
 refine LWp.o 54 (.agg [.view (.box 13) 0 [] 0]) ?_
 refine LWp.o 55 (.one (.ptr (.ext 0) 0 [] 0)) ?_
 refine LWp.o 56 (.one (.ptr (.ext 0) 0 [] 0)) ?_
 refine LWp.sb [(.box 13, [.junk])] (.ext 0) [.sl true 124 3 (encs (c124 true) j2.2), .sl true 99 4 (encs c99 xW.steps_)] ?_
 refine LWp.nil ?_
 refine Wp.seq ?_
 refine Wp.regionK 11 [7, 10] mixed (fun c E h => by rcases h with ⟨h | h, _⟩ <;> cases h) ?_
 refine KWp.o 11 1 58 (.one (.ptr (.ext 0) 0 [] 0)) ?_
 refine KWp.o 11 2 59 (.one (.ptr (.ext 0) 0 [] 0)) ?_
 refine KWp.o 11 3 60 (.one (.ptr (.ext 0) 0 [] 1)) ?_
 refine KWp.o 11 4 61 (.one (.view (.ext 0) 1 [] 1)) ?_
 refine KWp.o 11 5 62 (.agg [.int .i64 1, .int .i64 v2.1, .int .i64 v2.2.1, .str v1.1]) ?_
 refine KWp.w2 0 6 ?_ ?_
 · refine KOp.o 0 57 (.one (.ptr (.ext 0) 0 [] 0)) ?_
   refine KWp.w1 6 ?_
   refine KOp.m 6 false [] 63 (.one (.sl true 99 4 (encs c99 [(Step.mk 1 v2.1 v2.2.1 v1.1)]))) ?_
   refine KWp.w1 7 ?_
   refine KOp.pm h 7 [(.ext 0, [.sl true 124 3 (encs (c124 true) j2.2), .junk])] 64 (fun q1 => (.one (.sl true 99 4 (encs c99 q1)))) ?_ rfl (fun q1 gq1 => s_apl k99 (fun _ => rfl) [(.ext 0, [.sl true 124 3 (encs (c124 true) j2.2), .junk])] xW.steps_ gq1)
   intro q1 gq1 h
   refine KWp.w1 8 ?_
   refine KOp.o 8 65 (.one (.ptr (.ext 0) 0 [] 0)) ?_
   refine KWp.w1 9 ?_
   refine KOp.o 9 66 (.one (.ptr (.ext 0) 0 [] 1)) ?_
   refine KWp.w1 10 ?_
   refine KOp.s 10 [(.slot 64, [.junk])] (.ext 0) [.sl true 124 3 (encs (c124 true) j2.2), .sl true 99 4 (encs c99 q1)] ?_
   refine KWp.done ?_
   refine Wp.seq (Wp.region ?_)
   refine LWp.o 67 (B j2.1) ?_
   refine LWp.o 6 (B j2.1) ?_
   refine LWp.nil ?_
   cases h
   exact Wp.ret ⟨.inr rfl, _, _, _, rfl, SVle.r, rfl, (les.c (le1.s (sh124 _)) (les.c le1.r les.r))⟩
 refine KOp.m 6 false [] 63 (.one (.sl true 99 4 (encs c99 [(Step.mk 1 v2.1 v2.2.1 v1.1)]))) ?_
 refine KWp.w2 0 7 ?_ ?_
 · refine KOp.o 0 57 (.one (.ptr (.ext 0) 0 [] 0)) ?_
   refine KWp.w1 7 ?_
   refine KOp.pm h 7 [(.ext 0, [.sl true 124 3 (encs (c124 true) j2.2), .junk])] 64 (fun q2 => (.one (.sl true 99 4 (encs c99 q2)))) ?_ rfl (fun q2 gq2 => s_apl k99 (fun _ => rfl) [(.ext 0, [.sl true 124 3 (encs (c124 true) j2.2), .junk])] xW.steps_ gq2)
   intro q2 gq2 h
   refine KWp.w1 8 ?_
   refine KOp.o 8 65 (.one (.ptr (.ext 0) 0 [] 0)) ?_
   refine KWp.w1 9 ?_
   refine KOp.o 9 66 (.one (.ptr (.ext 0) 0 [] 1)) ?_
   refine KWp.w1 10 ?_
   refine KOp.s 10 [(.slot 64, [.junk])] (.ext 0) [.sl true 124 3 (encs (c124 true) j2.2), .sl true 99 4 (encs c99 q2)] ?_
   refine KWp.done ?_
   refine Wp.seq (Wp.region ?_)
   refine LWp.o 67 (B j2.1) ?_
   refine LWp.o 6 (B j2.1) ?_
   refine LWp.nil ?_
   cases h
   exact Wp.ret ⟨.inr rfl, _, _, _, rfl, SVle.r, rfl, (les.c (le1.s (sh124 _)) (les.c le1.r les.r))⟩
 refine KOp.pm h 7 [(.ext 0, [.sl true 124 3 (encs (c124 true) j2.2), .junk])] 64 (fun q3 => (.one (.sl true 99 4 (encs c99 q3)))) ?_ rfl (fun q3 gq3 => s_apl k99 (fun _ => rfl) [(.ext 0, [.sl true 124 3 (encs (c124 true) j2.2), .junk])] xW.steps_ gq3)
 intro q3 gq3 h
 refine KWp.w1 0 ?_
 refine KOp.o 0 57 (.one (.ptr (.ext 0) 0 [] 0)) ?_
 refine KWp.w1 8 ?_
 refine KOp.o 8 65 (.one (.ptr (.ext 0) 0 [] 0)) ?_
 refine KWp.w1 9 ?_
 refine KOp.o 9 66 (.one (.ptr (.ext 0) 0 [] 1)) ?_
 refine KWp.w1 10 ?_
 refine KOp.s 10 [(.slot 64, [.junk])] (.ext 0) [.sl true 124 3 (encs (c124 true) j2.2), .sl true 99 4 (encs c99 q3)] ?_
 refine KWp.done ?_
 refine Wp.seq (Wp.region ?_)
 refine LWp.o 67 (B j2.1) ?_
 refine LWp.o 6 (B j2.1) ?_
 refine LWp.nil ?_
 cases h
 exact Wp.ret ⟨.inr rfl, _, _, _, rfl, SVle.r, rfl, (les.c (le1.s (sh124 _)) (les.c le1.r les.r))⟩
def i_RecOk_H1 (z1 : Bool) : St := mkSt [(2, (B z1))] []
def i_RecOk_H2 (xR : Rec) (z2 : Bool) : St := mkSt [(1, (.one (.ptr (.box 1) 0 [] 0))), (32, (B z2))] [(.box 1, [.int .i64 xR.Kind, .int .i64 xR.Vol, .int .i64 xR.Arg, .int .i64 xR.Chunk])]
theorem i_RecOk_t (xR : Rec) (r : Bool) (h : i_RecOk xR = some r) : Gives Tryz.prog 144 [.sv (.agg [.int .i64 xR.Kind, .int .i64 xR.Vol, .int .i64 xR.Arg, .int .i64 xR.Chunk])] (B r) (List.replicate 1 .gone) := by
 unfold i_RecOk at h
 refine gives_of Tryz.func144 rfl ?_
 rw [Tryz.ntmps144]
 refine Wp.seq (Wp.region ?_)
 refine LWp.b [] 1 [.int .i64 xR.Kind, .int .i64 xR.Vol, .int .i64 xR.Arg, .int .i64 xR.Chunk] ?_
 refine LWp.o 2 (B false) ?_
 refine LWp.nil ?_
 refine Wp.seq ?_
 refine Wp.seq (Wp.region ?_)
 refine LWp.o 3 (.one (.ptr (.box 1) 1 [] 0)) ?_
 refine LWp.o 4 (I xR.Kind) ?_
 refine LWp.o 5 (B (xR.Kind == 1)) ?_
 refine LWp.nil ?_
 refine Wp.c h (fun h => ?_) (fun h => ?_)
 · refine Wp.seq ?_
   refine Wp.j1 h [2] [] (fun a => (i_RecOk_H1 a)) ?_ ?_
   · intro a h
     refine Wp.region ?_
     refine LWp.o 6 (.one (.ptr (.box 1) 1 [] 1)) ?_
     refine LWp.o 7 (I xR.Vol) ?_
     refine LWp.o 8 (B (xR.Vol == 0)) ?_
     refine LWp.o 9 (B (xR.Vol == 0)) ?_
     refine LWp.sp h 9 (fun h => ?_) (fun h => ?_)
     · refine LWp.o 10 (.one (.ptr (.box 1) 1 [] 2)) ?_
       refine LWp.o 11 (I xR.Arg) ?_
       refine LWp.cl h 12 (fun v1 => (B v1)) rfl (l := [.sv (.one (.int .i64 xR.Arg)), .sv (.one (.int .i64 0)), .sv (.one (.int .i64 1000000000))]) rfl (fun v hv => i_in_t xR.Arg 0 1000000000 v hv) (.inl rfl) ?_
       intro v1 gv1 h
       refine LWp.o 13 (B v1) ?_
       refine LWp.o 14 (B v1) ?_
       refine LWp.sp h 14 (fun h => ?_) (fun h => ?_)
       · refine LWp.o 15 (.one (.ptr (.box 1) 1 [] 3)) ?_
         refine LWp.o 16 (I xR.Chunk) ?_
         refine LWp.o 17 (B (xR.Chunk == 0)) ?_
         refine LWp.o 18 (B (xR.Chunk == 0)) ?_
         refine LWp.o 2 (B (xR.Chunk == 0)) ?_
         refine LWp.nil ?_
         cases h
         exact ⟨_, rfl, rfl, rfl⟩
       refine LWp.sh 15 ?_
       refine LWp.sh 16 ?_
       refine LWp.sh 17 ?_
       refine LWp.o 18 (B false) ?_
       refine LWp.o 2 (B false) ?_
       refine LWp.nil ?_
       cases h
       exact ⟨_, rfl, rfl, rfl⟩
     refine LWp.sh 10 ?_
     refine LWp.sh 11 ?_
     refine LWp.sh 12 ?_
     refine LWp.o 13 (B false) ?_
     refine LWp.o 14 (B false) ?_
     refine LWp.sh 15 ?_
     refine LWp.sh 16 ?_
     refine LWp.sh 17 ?_
     refine LWp.o 18 (B false) ?_
     refine LWp.o 2 (B false) ?_
     refine LWp.nil ?_
     cases h
     exact ⟨_, rfl, rfl, rfl⟩
   intro j1 h E hE
   refine nt_wp hE ?_
   change Wp _ _ _ (i_RecOk_H1 j1) _
   cases h
   exact Wp.ret ⟨.inr rfl, _, _, rfl, rfl⟩
 refine Wp.skip ?_
 refine Wp.seq ?_
 refine Wp.seq ?_
 refine Wp.j1 h [1, 32] [.box 1] (fun a => (i_RecOk_H2 xR a)) ?_ ?_
 · intro a h
   refine Wp.region ?_
   refine LWp.o 19 (.one (.ptr (.box 1) 1 [] 1)) ?_
   refine LWp.o 20 (I xR.Vol) ?_
   refine LWp.cl h 21 (fun v2 => (B v2)) rfl (l := [.sv (.one (.int .i64 xR.Vol)), .sv (.one (.int .i64 1)), .sv (.one (.int .i64 9))]) rfl (fun v hv => i_in_t xR.Vol 1 9 v hv) (.inl rfl) ?_
   intro v2 gv2 h
   refine LWp.o 22 (B (!v2)) ?_
   refine LWp.o 23 (B (!v2)) ?_
   refine LWp.sp h 23 (fun h => ?_) (fun h => ?_)
   · refine LWp.sh 24 ?_
     refine LWp.sh 25 ?_
     refine LWp.sh 26 ?_
     refine LWp.sh 27 ?_
     refine LWp.sh 28 ?_
     refine LWp.sh 29 ?_
     refine LWp.sh 30 ?_
     refine LWp.sh 31 ?_
     refine LWp.o 32 (B true) ?_
     refine LWp.nil ?_
     cases h
     exact ⟨_, rfl, rfl, rfl⟩
   refine LWp.o 24 (.one (.ptr (.box 1) 1 [] 0)) ?_
   refine LWp.o 25 (I xR.Kind) ?_
   refine LWp.o 26 (B (xR.Kind != 4)) ?_
   refine LWp.o 27 (B (xR.Kind != 4)) ?_
   refine LWp.sp h 27 (fun h => ?_) (fun h => ?_)
   · refine LWp.o 28 (.one (.ptr (.box 1) 1 [] 3)) ?_
     refine LWp.o 29 (I xR.Chunk) ?_
     refine LWp.o 30 (B (xR.Chunk != 0)) ?_
     refine LWp.o 31 (B (xR.Chunk != 0)) ?_
     refine LWp.o 32 (B (xR.Chunk != 0)) ?_
     refine LWp.nil ?_
     cases h
     exact ⟨_, rfl, rfl, rfl⟩
   refine LWp.sh 28 ?_
   refine LWp.sh 29 ?_
   refine LWp.sh 30 ?_
   refine LWp.o 31 (B false) ?_
   refine LWp.o 32 (B false) ?_
   refine LWp.nil ?_
   cases h
   exact ⟨_, rfl, rfl, rfl⟩
 intro j2 h E hE
 refine nt_wp hE ?_
 change Wp _ _ _ (i_RecOk_H2 xR j2) _
 refine Wp.c h (fun h => ?_) (fun h => ?_)
 · refine Wp.seq (Wp.region ?_)
   refine LWp.o 2 (B false) ?_
   refine LWp.nil ?_
   cases h
   exact Wp.ret ⟨.inr rfl, _, _, rfl, rfl⟩
 refine Wp.skip ?_
 refine Wp.seq ?_
 refine Wp.seq (Wp.region ?_)
 refine LWp.o 33 (.one (.ptr (.box 1) 0 [] 0)) ?_
 refine LWp.o 34 (I xR.Kind) ?_
 refine LWp.nil ?_
 refine Wp.block ?_
 refine Wp.seq (Wp.region ?_)
 refine LWp.o 36 (B (xR.Kind == 2)) ?_
 refine LWp.o 35 (B (xR.Kind == 2)) ?_
 refine LWp.nil ?_
 refine Wp.c h (fun h => ?_) (fun h => ?_)
 · refine Wp.seq (Wp.region ?_)
   refine LWp.o 37 (.one (.ptr (.box 1) 0 [] 2)) ?_
   refine LWp.o 38 (I xR.Arg) ?_
   refine LWp.cl h 39 (fun v3 => (B v3)) rfl (l := [.sv (.one (.int .i64 xR.Arg)), .sv (.one (.int .i64 0)), .sv (.one (.int .i64 9))]) rfl (fun v hv => i_in_t xR.Arg 0 9 v hv) (.inl rfl) ?_
   intro v3 gv3 h
   refine LWp.o 2 (B v3) ?_
   refine LWp.nil ?_
   cases h
   exact Wp.ret ⟨.inr rfl, _, _, rfl, rfl⟩
 refine Wp.seq (Wp.region ?_)
 refine LWp.o 41 (B (xR.Kind == 3)) ?_
 refine LWp.o 40 (B (xR.Kind == 3)) ?_
 refine LWp.nil ?_
 refine Wp.c h (fun h => ?_) (fun h => ?_)
 · refine Wp.seq (Wp.region ?_)
   refine LWp.o 42 (.one (.ptr (.box 1) 0 [] 2)) ?_
   refine LWp.o 43 (I xR.Arg) ?_
   refine LWp.o 44 (B (xR.Arg == 0)) ?_
   refine LWp.o 2 (B (xR.Arg == 0)) ?_
   refine LWp.nil ?_
   cases h
   exact Wp.ret ⟨.inr rfl, _, _, rfl, rfl⟩
 refine Wp.seq (Wp.region ?_)
 refine LWp.o 46 (B (xR.Kind == 4)) ?_
 refine LWp.o 45 (B (xR.Kind == 4)) ?_
 refine LWp.nil ?_
 refine Wp.c h (fun h => ?_) (fun h => ?_)
 · refine Wp.seq (Wp.region ?_)
   refine LWp.o 47 (.one (.ptr (.box 1) 0 [] 2)) ?_
   refine LWp.o 48 (I xR.Arg) ?_
   refine LWp.cl h 49 (fun v4 => (B v4)) rfl (l := [.sv (.one (.int .i64 xR.Arg)), .sv (.one (.int .i64 0)), .sv (.one (.int .i64 15))]) rfl (fun v hv => i_in_t xR.Arg 0 15 v hv) (.inl rfl) ?_
   intro v4 gv4 h
   refine LWp.o 50 (B v4) ?_
   refine LWp.sp h 50 (fun h => ?_) (fun h => ?_)
   · refine LWp.o 51 (.one (.ptr (.box 1) 0 [] 3)) ?_
     refine LWp.o 52 (I xR.Chunk) ?_
     refine LWp.cl h 53 (fun v5 => (B v5)) rfl (l := [.sv (.one (.int .i64 xR.Chunk)), .sv (.one (.int .i64 1)), .sv (.one (.int .i64 1000000000))]) rfl (fun v hv => i_in_t xR.Chunk 1 1000000000 v hv) (.inl rfl) ?_
     intro v5 gv5 h
     refine LWp.o 54 (B v5) ?_
     refine LWp.o 2 (B v5) ?_
     refine LWp.nil ?_
     cases h
     exact Wp.ret ⟨.inr rfl, _, _, rfl, rfl⟩
   refine LWp.sh 51 ?_
   refine LWp.sh 52 ?_
   refine LWp.sh 53 ?_
   refine LWp.o 54 (B false) ?_
   refine LWp.o 2 (B false) ?_
   refine LWp.nil ?_
   cases h
   exact Wp.ret ⟨.inr rfl, _, _, rfl, rfl⟩
 refine Wp.seq (Wp.region ?_)
 refine LWp.o 56 (B (xR.Kind == 5)) ?_
 refine LWp.o 55 (B (xR.Kind == 5)) ?_
 refine LWp.nil ?_
 refine Wp.c h (fun h => ?_) (fun h => ?_)
 · refine Wp.seq (Wp.region ?_)
   refine LWp.o 57 (.one (.ptr (.box 1) 0 [] 2)) ?_
   refine LWp.o 58 (I xR.Arg) ?_
   refine LWp.cl h 59 (fun v6 => (B v6)) rfl (l := [.sv (.one (.int .i64 xR.Arg)), .sv (.one (.int .i64 0)), .sv (.one (.int .i64 15))]) rfl (fun v hv => i_in_t xR.Arg 0 15 v hv) (.inl rfl) ?_
   intro v6 gv6 h
   refine LWp.o 2 (B v6) ?_
   refine LWp.nil ?_
   cases h
   exact Wp.ret ⟨.inr rfl, _, _, rfl, rfl⟩
 refine Wp.skip ?_
 refine Wp.seq (Wp.region ?_)
 refine LWp.o 2 (B false) ?_
 refine LWp.nil ?_
 cases h
 exact Wp.ret ⟨.inr rfl, _, _, rfl, rfl⟩
theorem i_RecText_t (xR : Rec) (r : ByteArray × Bool) (h : i_RecText xR = some r) : Gives Tryz.prog 91 [.sv (.agg [.int .i64 xR.Kind, .int .i64 xR.Vol, .int .i64 xR.Arg, .int .i64 xR.Chunk])] (.tup [(Y r.1), (B r.2)]) (List.replicate 1 .gone) := by
 unfold i_RecText at h
 refine gives_of Tryz.func91 rfl ?_
 rw [Tryz.ntmps91]
 refine Wp.seq (Wp.region ?_)
 refine LWp.b [] 1 [.int .i64 xR.Kind, .int .i64 xR.Vol, .int .i64 xR.Arg, .int .i64 xR.Chunk] ?_
 refine LWp.o 2 (Y (bs [])) ?_
 refine LWp.o 3 (B false) ?_
 refine LWp.nil ?_
 refine Wp.seq ?_
 refine Wp.seq (Wp.region ?_)
 refine LWp.o 4 (.agg [.int .i64 xR.Kind, .int .i64 xR.Vol, .int .i64 xR.Arg, .int .i64 xR.Chunk]) ?_
 refine LWp.cl h 5 (fun v1 => (B v1)) rfl (l := [.sv (.agg [.int .i64 xR.Kind, .int .i64 xR.Vol, .int .i64 xR.Arg, .int .i64 xR.Chunk])]) rfl (fun v hv => i_RecOk_t xR v hv) (.inl rfl) ?_
 intro v1 gv1 h
 refine LWp.o 6 (B (!v1)) ?_
 refine LWp.nil ?_
 refine Wp.c h (fun h => ?_) (fun h => ?_)
 · refine Wp.seq (Wp.region ?_)
   refine LWp.o 2 (Y (bs [])) ?_
   refine LWp.o 3 (B false) ?_
   refine LWp.nil ?_
   cases h
   exact Wp.ret ⟨.inr rfl, _, _, rfl, rfl⟩
 refine Wp.skip ?_
 refine Wp.seq ?_
 refine Wp.regionK 19 [] mixed (fun c E h => by rcases h with ⟨h | h, _⟩ <;> cases h) ?_
 refine KWp.o 19 0 7 (.one (.ptr (.box 1) 1 [] 0)) ?_
 refine KWp.o 19 1 8 (I xR.Kind) ?_
 refine KWp.o 19 2 9 (I (ml 16 xR.Kind)) ?_
 refine KWp.o 19 3 10 (.one (.ptr (.box 1) 1 [] 1)) ?_
 refine KWp.o 19 4 11 (I xR.Vol) ?_
 refine KWp.o 19 5 12 (I (ad (ml 16 xR.Kind) xR.Vol)) ?_
 refine KWp.o 19 6 13 (.one (.int .u8 (IntKind.u8.wrap (ad (ml 16 xR.Kind) xR.Vol)))) ?_
 refine KWp.o 19 9 16 (.one (.ptr (.box 1) 1 [] 2)) ?_
 refine KWp.o 19 10 17 (I xR.Arg) ?_
 refine KWp.o 19 13 20 (.one (.ptr (.box 1) 1 [] 3)) ?_
 refine KWp.o 19 14 21 (I xR.Chunk) ?_
 refine KWp.w2 7 11 ?_ ?_
 · refine KOp.m 7 false [] 14 (.one (.sl true 5 1 (encs c5 [(IntKind.u8.wrap (ad (ml 16 xR.Kind) xR.Vol))]))) ?_
   refine KWp.o 19 8 15 (Y (strB [(IntKind.u8.wrap (ad (ml 16 xR.Kind) xR.Vol))])) ?_ rfl (sl_pure (p_cv (fun _ => rfl) [(IntKind.u8.wrap (ad (ml 16 xR.Kind) xR.Vol))]))
   refine KWp.w1 11 ?_
   refine KOp.cl h 11 18 (fun v2 => (Y v2)) rfl rfl (l := [.sv (.one (.int .i64 xR.Arg))]) rfl (fun v hv => i_varOf_t xR.Arg v hv) (.inl rfl) ?_
   intro v2 gv2 h
   refine KWp.p h 19 12 19 (fun x1 => (Y x1)) ?_ rfl (fun x1 gx1 => sl_pure (p_cat gx1))
   intro x1 gx1 h
   refine KWp.w1 15 ?_
   refine KOp.cl h 15 22 (fun v3 => (Y v3)) rfl rfl (l := [.sv (.one (.int .i64 xR.Chunk))]) rfl (fun v hv => i_varOf_t xR.Chunk v hv) (.inl rfl) ?_
   intro v3 gv3 h
   refine KWp.p h 19 16 23 (fun x2 => (Y x2)) ?_ rfl (fun x2 gx2 => sl_pure (p_cat gx2))
   intro x2 gx2 h
   refine KWp.o 19 17 2 (Y x2) ?_
   refine KWp.o 19 18 3 (B true) ?_
   refine KWp.done ?_
   cases h
   exact Wp.ret ⟨.inr rfl, _, _, rfl, rfl⟩
 refine KOp.cl h 11 18 (fun v4 => (Y v4)) rfl rfl (l := [.sv (.one (.int .i64 xR.Arg))]) rfl (fun v hv => i_varOf_t xR.Arg v hv) (.inl rfl) ?_
 intro v4 gv4 h
 refine KWp.w2 7 15 ?_ ?_
 · refine KOp.m 7 false [] 14 (.one (.sl true 5 1 (encs c5 [(IntKind.u8.wrap (ad (ml 16 xR.Kind) xR.Vol))]))) ?_
   refine KWp.o 19 8 15 (Y (strB [(IntKind.u8.wrap (ad (ml 16 xR.Kind) xR.Vol))])) ?_ rfl (sl_pure (p_cv (fun _ => rfl) [(IntKind.u8.wrap (ad (ml 16 xR.Kind) xR.Vol))]))
   refine KWp.p h 19 12 19 (fun x3 => (Y x3)) ?_ rfl (fun x3 gx3 => sl_pure (p_cat gx3))
   intro x3 gx3 h
   refine KWp.w1 15 ?_
   refine KOp.cl h 15 22 (fun v5 => (Y v5)) rfl rfl (l := [.sv (.one (.int .i64 xR.Chunk))]) rfl (fun v hv => i_varOf_t xR.Chunk v hv) (.inl rfl) ?_
   intro v5 gv5 h
   refine KWp.p h 19 16 23 (fun x4 => (Y x4)) ?_ rfl (fun x4 gx4 => sl_pure (p_cat gx4))
   intro x4 gx4 h
   refine KWp.o 19 17 2 (Y x4) ?_
   refine KWp.o 19 18 3 (B true) ?_
   refine KWp.done ?_
   cases h
   exact Wp.ret ⟨.inr rfl, _, _, rfl, rfl⟩
 replace h := Eq.trans (show ((i_varOf xR.Chunk).bind fun v6 => (cat (strB [(IntKind.u8.wrap (ad (ml 16 xR.Kind) xR.Vol))]) v4).bind fun x5 => (cat x5 v6).bind fun x6 => some (x6, true)) = ((cat (strB [(IntKind.u8.wrap (ad (ml 16 xR.Kind) xR.Vol))]) v4).bind fun x3 => (i_varOf xR.Chunk).bind fun v5 => (cat x3 v5).bind fun x4 => some (x4, true)) from Option.ext fun z => by simp only [Option.bind_eq_some_iff]; exact ⟨fun ⟨v6, k0, x5, k1, x6, k2, z⟩ => ⟨_, k1, _, k0, _, k2, z⟩, fun ⟨x3, k0, v5, k1, x4, k2, z⟩ => ⟨_, k1, _, k0, _, k2, z⟩⟩) h
 refine KOp.cl h 15 22 (fun v6 => (Y v6)) rfl rfl (l := [.sv (.one (.int .i64 xR.Chunk))]) rfl (fun v hv => i_varOf_t xR.Chunk v hv) (.inl rfl) ?_
 intro v6 gv6 h
 refine KWp.w1 7 ?_
 refine KOp.m 7 false [] 14 (.one (.sl true 5 1 (encs c5 [(IntKind.u8.wrap (ad (ml 16 xR.Kind) xR.Vol))]))) ?_
 refine KWp.o 19 8 15 (Y (strB [(IntKind.u8.wrap (ad (ml 16 xR.Kind) xR.Vol))])) ?_ rfl (sl_pure (p_cv (fun _ => rfl) [(IntKind.u8.wrap (ad (ml 16 xR.Kind) xR.Vol))]))
 refine KWp.p h 19 12 19 (fun x5 => (Y x5)) ?_ rfl (fun x5 gx5 => sl_pure (p_cat gx5))
 intro x5 gx5 h
 refine KWp.p h 19 16 23 (fun x6 => (Y x6)) ?_ rfl (fun x6 gx6 => sl_pure (p_cat gx6))
 intro x6 gx6 h
 refine KWp.o 19 17 2 (Y x6) ?_
 refine KWp.o 19 18 3 (B true) ?_
 refine KWp.done ?_
 cases h
 exact Wp.ret ⟨.inr rfl, _, _, rfl, rfl⟩
end Go.TI
