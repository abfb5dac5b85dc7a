/- That they compute it. No condition. -/
import Derived.Test.YtcjepealfaimfaaGreatPOW1
namespace Go.TI
set_option maxRecDepth 100000
open Go Go.Proofs
set_option linter.unusedVariables false
set_option linter.unusedSimpArgs false
def i_refusal_H1 (xS : Store) (xQ : Ask) (v1 : Int) (z1 : Bool) : St := mkSt [(2, (.one (.ptr (.box 2) 0 [] 0))), (3, (.one (.ptr (.box 3) 0 [] 0))), (5, (B (decide (v1 ≥ 0)))), (18, (B z1))] [(.box 2, [.sl false 110 2 (encs c110 xS.Vols), .sl false 218 2 (encs (c218 false) xS.Arena.Knots), .int .i64 xS.Next]), (.box 3, [.int .i64 xQ.Kind, .int .i64 xQ.Vol, .int .i64 xQ.Sector, .int .i64 xQ.Of, .str xQ.Text])]
def i_refusal_H2 (xS : Store) (z2 : Bool) : St := mkSt [(2, (.one (.ptr (.box 2) 0 [] 0))), (23, (B z2))] [(.box 2, [.sl false 110 2 (encs c110 xS.Vols), .sl false 218 2 (encs (c218 false) xS.Arena.Knots), .int .i64 xS.Next])]
theorem i_refusal_t (xS : Store) (xQ : Ask) (r : Int) (h : i_refusal xS xQ = some r) : Gives Tryz.prog 73 [.sv (.agg [.sl false 110 2 (encs c110 xS.Vols), .sl false 218 2 (encs (c218 false) xS.Arena.Knots), .int .i64 xS.Next]), .sv (.agg [.int .i64 xQ.Kind, .int .i64 xQ.Vol, .int .i64 xQ.Sector, .int .i64 xQ.Of, .str xQ.Text])] (I r) (List.replicate 2 .gone) := by
 unfold i_refusal at h
 refine gives_of Tryz.func73 rfl ?_
 rw [Tryz.ntmps73]
 refine wr (LWp.b [] 2 [.sl false 110 2 (encs c110 xS.Vols), .sl false 218 2 (encs (c218 false) xS.Arena.Knots), .int .i64 xS.Next] (LWp.b [] 3 [.int .i64 xQ.Kind, .int .i64 xQ.Vol, .int .i64 xQ.Sector, .int .i64 xQ.Of, .str xQ.Text] (lO 4 (I 0) (lZ (wr (lO 6 (.agg [.sl false 110 2 (encs c110 xS.Vols), .sl false 218 2 (encs (c218 false) xS.Arena.Knots), .int .i64 xS.Next]) (lO 7 (.one (.ptr (.box 3) 1 [] 1)) (lO 8 (I xQ.Vol) (LWp.cl h 9 (fun v1 => (I v1)) rfl (l := [.sv (.agg [.sl false 110 2 (encs c110 xS.Vols), .sl false 218 2 (encs (c218 false) xS.Arena.Knots), .int .i64 xS.Next]), .sv (.one (.int .i64 xQ.Vol))]) rfl (fun v hv => i_volAt_t xS xQ.Vol v hv) (.inl rfl) ?_)))))))))
 intro v1 gv1 h
 refine lO 10 (B (decide (v1 ≥ 0))) (lO 5 (B (decide (v1 ≥ 0))) (lZ (Wp.seq (Wp.seq (Wp.j1 h [2, 3, 5, 18] [.box 2, .box 3] (fun a => (i_refusal_H1 xS xQ v1 a)) ?_ ?_)))))
 ·intro a h
  refine Wp.region (lO 11 (.one (.ptr (.box 3) 1 [] 0)) (lO 12 (I xQ.Kind) (lO 13 (B (xQ.Kind != 3)) (lO 14 (B (xQ.Kind != 3)) (LWp.sp h 14 (fun h => ?_) (fun h => ?_))))))
  ·refine lO 15 (.one (.ptr (.box 3) 1 [] 0)) ?_
   refine lO 16 (I xQ.Kind) (lO 17 (B (xQ.Kind != 4)) (lO 18 (B (xQ.Kind != 4)) (lZ ?_)))
   cases h
   exact ⟨_, rfl, rfl, rfl⟩
  refine lH 15 (lH 16 (lH 17 (lO 18 (B false) (lZ ?_))))
  cases h
  exact ⟨_, rfl, rfl, rfl⟩
 intro j1 h E hE
 refine nt_wp hE ?_
 change Wp _ _ _ (i_refusal_H1 xS xQ v1 j1) _
 refine Wp.c h (fun h => ?_) (fun h => ?_)
 ·refine Wp.seq ?_
  refine wr (lO 19 (B (decide (v1 ≥ 0))) (lO 20 (B (!(decide (v1 ≥ 0)))) (lZ (Wp.c h (fun h => ?_) (fun h => ?_)))))
  ·refine wr ?_
   refine lO 4 (I 1) (lZ ?_)
   cases h
   exact Wp.ret ⟨.inr rfl, _, _, rfl, rfl⟩
  refine Wp.skip (wr (lO 4 (I 0) (lZ ?_)))
  cases h
  exact Wp.ret ⟨.inr rfl, _, _, rfl, rfl⟩
 refine Wp.skip (Wp.seq (Wp.block (wr (lO 22 (B (decide (v1 ≥ 0))) (lO 21 (B (decide (v1 ≥ 0))) (lZ (Wp.c h (fun h => ?_) (fun h => ?_))))))))
 ·refine wr ?_
  refine lO 4 (I 2) (lZ ?_)
  cases h
  exact Wp.ret ⟨.inr rfl, _, _, rfl, rfl⟩
 refine Wp.seq (Wp.j1 h [2, 23] [.box 2] (fun a => (i_refusal_H2 xS a)) ?_ ?_)
 ·intro a h
  refine Wp.region (lO 24 (.one (.ptr (.box 3) 0 [] 0)) (lO 25 (I xQ.Kind) (lO 26 (B (xQ.Kind == 4)) (lO 27 (B (xQ.Kind == 4)) (LWp.sp h 27 (fun h => ?_) (fun h => ?_))))))
  ·refine lO 28 (.agg [.sl false 110 2 (encs c110 xS.Vols), .sl false 218 2 (encs (c218 false) xS.Arena.Knots), .int .i64 xS.Next]) ?_
   refine lO 29 (.one (.ptr (.box 3) 0 [] 3)) (lO 30 (I xQ.Of) (LWp.cl h 31 (fun v2 => (I v2)) rfl (l := [.sv (.agg [.sl false 110 2 (encs c110 xS.Vols), .sl false 218 2 (encs (c218 false) xS.Arena.Knots), .int .i64 xS.Next]), .sv (.one (.int .i64 xQ.Of))]) rfl (fun v hv => i_volAt_t xS xQ.Of v hv) (.inl rfl) ?_))
   intro v2 gv2 h
   refine lO 32 (B (decide (v2 < 0))) (lO 33 (B (decide (v2 < 0))) (lO 23 (B (decide (v2 < 0))) (lZ ?_)))
   cases h
   exact ⟨_, rfl, rfl, rfl⟩
  refine lH 28 (lH 29 (lH 30 (lH 31 (lH 32 (lO 33 (B false) (lO 23 (B false) (lZ ?_)))))))
  cases h
  exact ⟨_, rfl, rfl, rfl⟩
 intro j2 h E hE
 refine nt_wp hE ?_
 change Wp _ _ _ (i_refusal_H2 xS j2) _
 refine Wp.c h (fun h => ?_) (fun h => ?_)
 ·refine wr ?_
  refine lO 4 (I 1) (lZ ?_)
  cases h
  exact Wp.ret ⟨.inr rfl, _, _, rfl, rfl⟩
 refine wr (lO 35 (.one (.ptr (.box 2) 0 [] 0)) (lO 36 (.one (.sl false 110 2 (encs c110 xS.Vols))) (lO 37 (I (ln xS.Vols)) (lO 38 (B (decide ((ln xS.Vols) ≥ 3))) (lO 34 (B (decide ((ln xS.Vols) ≥ 3))) (lZ (Wp.c h (fun h => ?_) (fun h => ?_))))) (st_pure (p_ln k110 xS.Vols)))))
 ·refine wr ?_
  refine lO 4 (I 4) (lZ ?_)
  cases h
  exact Wp.ret ⟨.inr rfl, _, _, rfl, rfl⟩
 refine Wp.skip (wr (lO 4 (I 0) (lZ ?_)))
 cases h
 exact Wp.ret ⟨.inr rfl, _, _, rfl, rfl⟩
theorem i_isRoot_t (xA : Arena) (xRoot : Int) (r : Bool) (h : i_isRoot xA xRoot = some r) : Gives Tryz.prog 182 [.sv (.agg [.sl false 218 2 (encs (c218 false) xA.Knots)]), .sv (I xRoot)] (B r) (List.replicate 2 .gone) := by
 unfold i_isRoot at h
 refine gives_of Tryz.func182 rfl ?_
 rw [Tryz.ntmps182]
 refine wr (LWp.b [] 2 [.sl false 218 2 (encs (c218 false) xA.Knots)] (lO 4 (B false) (lZ (wr (lO 5 (I xRoot) (lO 6 (.one (.ptr (.box 2) 1 [] 0)) (lO 7 (.one (.sl false 218 2 (encs (c218 false) xA.Knots))) (lO 8 (I (ln xA.Knots)) (lO 9 (I (sb (ln xA.Knots) 1)) ?_) (st_pure (p_ln (k218 false) xA.Knots))))))))))
 refine LWp.cl h 10 (fun v1 => (B v1)) rfl (l := [.sv (.one (.int .i64 xRoot)), .sv (.one (.int .i64 0)), .sv (.one (.int .i64 (sb (ln xA.Knots) 1)))]) rfl (fun v hv => i_in_t xRoot 0 (sb (ln xA.Knots) 1) v hv) (.inl rfl) ?_
 intro v1 gv1 h
 refine lO 11 (B v1) (LWp.sp h 11 (fun h => ?_) (fun h => ?_))
 ·refine lO 12 (.one (.ptr (.box 2) 1 [] 0)) ?_
  refine lO 13 (.one (.sl false 218 2 (encs (c218 false) xA.Knots))) (lO 14 (I xRoot) (LWp.p h 15 (fun _ => (.one (.ptr (.slot 13) 1 [0] (Int.toNat xRoot * 2 + 0)))) ?_ (fun x1 gx1 => st_pure (p_ix (k218 false) (.slot 13) [] 0 gx1))))
  intro x1 gx1 h
  refine lO 16 (.one (.ptr (.slot 13) 1 [0] (Int.toNat xRoot * 2 + 0))) (lO 17 (B x1.Leaf) (lO 18 (B (!x1.Leaf)) (lO 19 (B (!x1.Leaf)) (lO 4 (B (!x1.Leaf)) (lZ ?_)))) (st_pure (p_lc (k218 false) (.slot 13) [0] 0 (.bool x1.Leaf) gx1))) (st_pure (p_fa (k218 false) (.slot 13) [0] 0 gx1))
  cases h
  exact Wp.ret ⟨.inr rfl, _, _, rfl, rfl⟩
 refine lH 12 (lH 13 (lH 14 (lH 15 (lH 16 (lH 17 (lH 18 (lO 19 (B false) (lO 4 (B false) (lZ ?_)))))))))
 cases h
 exact Wp.ret ⟨.inr rfl, _, _, rfl, rfl⟩
def i_ArenaOk_H1 (xA : Arena) (z1 : Int) : St := mkSt [(1, (.one (.ptr (.box 1) 0 [] 0))), (8, (.one (.sl false 218 2 (encs (c218 false) xA.Knots)))), (9, (I (ln xA.Knots))), (10, (I z1))] [(.box 1, [.sl false 218 2 (encs (c218 false) xA.Knots)])]
def i_ArenaOk_H2  : St := mkSt [] []
def i_ArenaOk_H3 (xA : Arena) (y1 : Int) (x1 : Knot) (z2 : Int) : St := mkSt [(1, (.one (.ptr (.box 1) 0 [] 0))), (3, (I y1)), (4, (.one (.ptr (.box 4) 0 [] 0))), (8, (.one (.sl false 218 2 (encs (c218 false) xA.Knots)))), (9, (I (ln xA.Knots))), (10, (I y1)), (20, (.one (.sl false 3 1 (encs c3 x1.Kids)))), (21, (I (ln x1.Kids))), (22, (I z2))] [(.box 1, [.sl false 218 2 (encs (c218 false) xA.Knots)]), (.box 4, [.bool x1.Leaf, .sl false 3 1 (encs c3 x1.Kids)])]
def i_ArenaOk_H4 (xA : Arena) (y1 : Int) : St := mkSt [(1, (.one (.ptr (.box 1) 0 [] 0))), (8, (.one (.sl false 218 2 (encs (c218 false) xA.Knots)))), (9, (I (ln xA.Knots))), (10, (I y1))] [(.box 1, [.sl false 218 2 (encs (c218 false) xA.Knots)])]
def i_ArenaOk_H5 (xA : Arena) (y1 : Int) (x1 : Knot) (y2 : Int) (z3 : Bool) : St := mkSt [(1, (.one (.ptr (.box 1) 0 [] 0))), (3, (I y1)), (4, (.one (.ptr (.box 4) 0 [] 0))), (8, (.one (.sl false 218 2 (encs (c218 false) xA.Knots)))), (9, (I (ln xA.Knots))), (10, (I y1)), (20, (.one (.sl false 3 1 (encs c3 x1.Kids)))), (21, (I (ln x1.Kids))), (22, (I y2)), (56, (B z3))] [(.box 1, [.sl false 218 2 (encs (c218 false) xA.Knots)]), (.box 4, [.bool x1.Leaf, .sl false 3 1 (encs c3 x1.Kids)])]
theorem i_ArenaOk_t (xA : Arena) (r : Bool) (h : i_ArenaOk xA = some r) : Gives Tryz.prog 183 [.sv (.agg [.sl false 218 2 (encs (c218 false) xA.Knots)])] (B r) (List.replicate 1 .gone) := by
 unfold i_ArenaOk at h
 refine gives_of Tryz.func183 rfl ?_
 rw [Tryz.ntmps183]
 refine wr (LWp.b [] 1 [.sl false 218 2 (encs (c218 false) xA.Knots)] (lO 2 (B false) (lZ (Wp.seq (wr (lO 7 (.one (.ptr (.box 1) 1 [] 0)) (lO 8 (.one (.sl false 218 2 (encs (c218 false) xA.Knots))) (lO 9 (I (ln xA.Knots)) (lO 10 (I 0) ?_) (st_pure (p_ln (k218 false) xA.Knots))))))))))
 refine lZ (Wp.l2 h [1, 8, 9, 10] [.box 1] (fun s => (i_ArenaOk_H1 xA s)) [] [] (fun _ => i_ArenaOk_H2) ⟨rfl, rfl⟩ ?_ ?_)
 ·rintro y1 o (h : i_ArenaOk_b1 xA y1 = some o) hk1
  unfold i_ArenaOk_b1 at h
  change Wp _ _ _ (i_ArenaOk_H1 xA y1) _
  refine wr (lO 11 (B (decide (y1 < (ln xA.Knots)))) (lZ (Wp.seq (Wp.c h (fun h => ?_) (fun h => ?_)))))
  ·refine Wp.skip ?_
   refine Wp.seq (Wp.block (wr (lO 12 (I y1) (LWp.p h 13 (fun _ => (.one (.ptr (.slot 8) 0 [0] (Int.toNat y1 * 2 + 0)))) ?_ (fun x1 gx1 => st_pure (p_ix (k218 false) (.slot 8) [] 0 gx1))))))
   intro x1 gx1 h
   refine lO 14 (.agg [.bool x1.Leaf, .sl false 3 1 (encs c3 x1.Kids)]) (LWp.b [] 4 [.bool false, .sl true 3 1 (encs c3 [])] (lO 3 (I y1) (LWp.sb [] (.box 4) [.bool x1.Leaf, .sl false 3 1 (encs c3 x1.Kids)] (lZ (Wp.seq (wr (lO 15 (.one (.ptr (.box 4) 1 [] 1)) (lO 16 (.one (.sl false 3 1 (encs c3 x1.Kids))) (lO 17 (I (ln x1.Kids)) ?_ (st_pure (p_ln k3 x1.Kids))))))))))) (st_pure (p_le (k218 false) (.slot 8) [0] gx1))
   refine lO 18 (B ((ln x1.Kids) != 4)) (lZ (Wp.c h (fun h => ?_) (fun h => ?_)))
   ·refine wr ?_
    refine lO 2 (B false) (lZ ?_)
    cases h
    replace h : some _ = some _ := hk1 _ rfl
    cases h
    exact Wp.ret ⟨.inr rfl, _, _, rfl, rfl⟩
   refine Wp.skip (wr (lO 19 (.one (.ptr (.box 4) 1 [] 1)) (lO 20 (.one (.sl false 3 1 (encs c3 x1.Kids))) (lO 21 (I (ln x1.Kids)) (lO 22 (I 0) (lZ (Wp.l2 h [1, 3, 4, 8, 9, 10, 20, 21, 22] [.box 1, .box 4] (fun s => (i_ArenaOk_H3 xA y1 x1 s)) [1, 8, 9, 10] [.box 1] (fun _ => (i_ArenaOk_H4 xA y1)) ⟨rfl, rfl⟩ ?_ ?_))) (st_pure (p_ln k3 x1.Kids))))))
   ·rintro y2 o (h : i_ArenaOk_b2 xA y1 x1 y2 = some o) hk2
    unfold i_ArenaOk_b2 at h
    change Wp _ _ _ (i_ArenaOk_H3 xA y1 x1 y2) _
    refine wr (lO 23 (B (decide (y2 < (ln x1.Kids)))) (lZ (Wp.seq (Wp.c h (fun h => ?_) (fun h => ?_)))))
    ·refine Wp.skip ?_
     refine Wp.seq (Wp.block (wr (LWp.p h 24 (fun _ => (.one (.ptr (.slot 20) 0 [0] (Int.toNat y2 * 1 + 0)))) ?_ (fun x2 gx2 => st_pure (p_ix k3 (.slot 20) [] 0 gx2)))))
     intro x2 gx2 h
     refine lO 25 (I x2) (lO 6 (I x2) (lZ (Wp.seq (Wp.j1 h [1, 3, 4, 8, 9, 10, 20, 21, 22, 56] [.box 1, .box 4] (fun a => (i_ArenaOk_H5 xA y1 x1 y2 a)) ?_ ?_)))) (st_pure (p_lc k3 (.slot 20) [0] 0 (.int .i64 x2) gx2))
     ·intro a h
      refine Wp.region (lO 26 (.one (.ptr (.box 4) 0 [] 0)) (lO 27 (B x1.Leaf) (lO 28 (B x1.Leaf) (LWp.sp h 28 (fun h => ?_) (fun h => ?_)))))
      ·refine lO 29 (I x2) ?_
       refine lO 30 (B (decide (x2 < 0))) (lO 31 (B (decide (x2 < 0))) (lO 32 (B (decide (x2 < 0))) (LWp.sp h 32 (fun h => ?_) (fun h => ?_))))
       ·refine lH 33 ?_
        refine lH 34 (lH 35 (lH 36 (lH 37 (lH 38 (lH 39 (lH 40 (lH 41 (lH 42 (lH 43 ?_)))))))))
        refine lH 44 (lH 45 (lH 46 (lH 47 (lH 48 (lH 49 (lH 50 (lH 51 (lH 52 (lH 53 ?_)))))))))
        refine lH 54 (lH 55 (lO 56 (B true) (lZ ?_)))
        cases h
        exact ⟨_, rfl, rfl, rfl⟩
       refine lO 33 (.one (.ptr (.box 4) 0 [] 0)) (lO 34 (B x1.Leaf) (lO 35 (B (!x1.Leaf)) (lO 36 (B (!x1.Leaf)) (LWp.sp h 36 (fun h => ?_) (fun h => ?_)))))
       ·refine lO 37 (I x2) ?_
        refine lO 38 (B (x2 != (-1))) (lO 39 (B (x2 != (-1))) (lO 40 (B (x2 != (-1))) (LWp.sp h 40 (fun h => ?_) (fun h => ?_))))
        ·refine lO 41 (I x2) ?_
         refine lO 42 (I y1) (lO 43 (I (sb y1 1)) (LWp.cl h 44 (fun v1 => (B v1)) rfl (l := [.sv (.one (.int .i64 x2)), .sv (.one (.int .i64 0)), .sv (.one (.int .i64 (sb y1 1)))]) rfl (fun v hv => i_in_t x2 0 (sb y1 1) v hv) (.inl rfl) ?_))
         intro v1 gv1 h
         refine lO 45 (B (!v1)) (lO 46 (B (!v1)) (LWp.sp h 46 (fun h => ?_) (fun h => ?_)))
         ·refine lH 47 ?_
          refine lH 48 (lH 49 (lH 50 (lH 51 (lH 52 (lH 53 (lO 54 (B true) (lO 55 (B true) (lO 56 (B true) (lZ ?_)))))))))
          cases h
          exact ⟨_, rfl, rfl, rfl⟩
         refine lO 47 (.one (.ptr (.box 1) 0 [] 0)) (lO 48 (.one (.sl false 218 2 (encs (c218 false) xA.Knots))) (lO 49 (I x2) (LWp.p h 50 (fun _ => (.one (.ptr (.slot 48) 1 [0] (Int.toNat x2 * 2 + 0)))) ?_ (fun x3 gx3 => st_pure (p_ix (k218 false) (.slot 48) [] 0 gx3)))))
         intro x3 gx3 h
         refine lO 51 (.one (.ptr (.slot 48) 1 [0] (Int.toNat x2 * 2 + 0))) (lO 52 (B x3.Leaf) (lO 53 (B (!x3.Leaf)) (lO 54 (B (!x3.Leaf)) (lO 55 (B (!x3.Leaf)) (lO 56 (B (!x3.Leaf)) (lZ ?_))))) (st_pure (p_lc (k218 false) (.slot 48) [0] 0 (.bool x3.Leaf) gx3))) (st_pure (p_fa (k218 false) (.slot 48) [0] 0 gx3))
         cases h
         exact ⟨_, rfl, rfl, rfl⟩
        refine lH 41 (lH 42 (lH 43 (lH 44 (lH 45 (lH 46 (lH 47 (lH 48 (lH 49 (lH 50 ?_)))))))))
        refine lH 51 (lH 52 (lH 53 (lH 54 (lO 55 (B false) (lO 56 (B false) (lZ ?_))))))
        cases h
        exact ⟨_, rfl, rfl, rfl⟩
       refine lH 37 (lH 38 (lO 39 (B false) (lO 40 (B false) (lH 41 (lH 42 (lH 43 (lH 44 (lH 45 (lH 46 ?_)))))))))
       refine lH 47 (lH 48 (lH 49 (lH 50 (lH 51 (lH 52 (lH 53 (lH 54 (lO 55 (B false) (lO 56 (B false) ?_)))))))))
       refine lZ ?_
       cases h
       exact ⟨_, rfl, rfl, rfl⟩
      refine lH 29 (lH 30 (lO 31 (B false) (lO 32 (B false) (lO 33 (.one (.ptr (.box 4) 0 [] 0)) (lO 34 (B x1.Leaf) (lO 35 (B (!x1.Leaf)) (lO 36 (B (!x1.Leaf)) (LWp.sp h 36 (fun h => ?_) (fun h => ?_)))))))))
      ·refine lO 37 (I x2) ?_
       refine lO 38 (B (x2 != (-1))) (lO 39 (B (x2 != (-1))) (lO 40 (B (x2 != (-1))) (LWp.sp h 40 (fun h => ?_) (fun h => ?_))))
       ·refine lO 41 (I x2) ?_
        refine lO 42 (I y1) (lO 43 (I (sb y1 1)) (LWp.cl h 44 (fun v2 => (B v2)) rfl (l := [.sv (.one (.int .i64 x2)), .sv (.one (.int .i64 0)), .sv (.one (.int .i64 (sb y1 1)))]) rfl (fun v hv => i_in_t x2 0 (sb y1 1) v hv) (.inl rfl) ?_))
        intro v2 gv2 h
        refine lO 45 (B (!v2)) (lO 46 (B (!v2)) (LWp.sp h 46 (fun h => ?_) (fun h => ?_)))
        ·refine lH 47 ?_
         refine lH 48 (lH 49 (lH 50 (lH 51 (lH 52 (lH 53 (lO 54 (B true) (lO 55 (B true) (lO 56 (B true) (lZ ?_)))))))))
         cases h
         exact ⟨_, rfl, rfl, rfl⟩
        refine lO 47 (.one (.ptr (.box 1) 0 [] 0)) (lO 48 (.one (.sl false 218 2 (encs (c218 false) xA.Knots))) (lO 49 (I x2) (LWp.p h 50 (fun _ => (.one (.ptr (.slot 48) 1 [0] (Int.toNat x2 * 2 + 0)))) ?_ (fun x4 gx4 => st_pure (p_ix (k218 false) (.slot 48) [] 0 gx4)))))
        intro x4 gx4 h
        refine lO 51 (.one (.ptr (.slot 48) 1 [0] (Int.toNat x2 * 2 + 0))) (lO 52 (B x4.Leaf) (lO 53 (B (!x4.Leaf)) (lO 54 (B (!x4.Leaf)) (lO 55 (B (!x4.Leaf)) (lO 56 (B (!x4.Leaf)) (lZ ?_))))) (st_pure (p_lc (k218 false) (.slot 48) [0] 0 (.bool x4.Leaf) gx4))) (st_pure (p_fa (k218 false) (.slot 48) [0] 0 gx4))
        cases h
        exact ⟨_, rfl, rfl, rfl⟩
       refine lH 41 (lH 42 (lH 43 (lH 44 (lH 45 (lH 46 (lH 47 (lH 48 (lH 49 (lH 50 ?_)))))))))
       refine lH 51 (lH 52 (lH 53 (lH 54 (lO 55 (B false) (lO 56 (B false) (lZ ?_))))))
       cases h
       exact ⟨_, rfl, rfl, rfl⟩
      refine lH 37 (lH 38 (lO 39 (B false) (lO 40 (B false) (lH 41 (lH 42 (lH 43 (lH 44 (lH 45 (lH 46 ?_)))))))))
      refine lH 47 (lH 48 (lH 49 (lH 50 (lH 51 (lH 52 (lH 53 (lH 54 (lO 55 (B false) (lO 56 (B false) ?_)))))))))
      refine lZ ?_
      cases h
      exact ⟨_, rfl, rfl, rfl⟩
     intro j1 h E hE
     refine nt_wp hE ?_
     change Wp _ _ _ (i_ArenaOk_H5 xA y1 x1 y2 j1) _
     refine Wp.c h (fun h => ?_) (fun h => ?_)
     ·refine wr ?_
      refine lO 2 (B false) (lZ ?_)
      cases h
      replace h : some _ = some _ := hk2 _ rfl
      cases h
      replace h : some _ = some _ := hk1 _ rfl
      cases h
      exact Wp.ret ⟨.inr rfl, _, _, rfl, rfl⟩
     refine Wp.skip (Wp.region (lO 57 (I (ad y2 1)) (lO 22 (I (ad y2 1)) (lZ ?_))))
     cases h
     exact ⟨_, rfl, rfl, rfl⟩
    refine Wp.exit ?_
    cases h
    exact ⟨_, rfl, rfl, rfl⟩
   intro v3 h E hE
   refine nt_wp hE ?_
   change Wp _ _ _ (i_ArenaOk_H4 xA y1) _
   refine Wp.region (lO 58 (I (ad y1 1)) (lO 10 (I (ad y1 1)) (lZ ?_)))
   cases h
   exact ⟨_, rfl, rfl, rfl⟩
  refine Wp.exit ?_
  cases h
  exact ⟨_, rfl, rfl, rfl⟩
 intro v4 h E hE
 refine nt_wp hE ?_
 change Wp _ _ _ i_ArenaOk_H2 _
 refine wr (lO 2 (B true) (lZ ?_))
 cases h
 exact Wp.ret ⟨.inr rfl, _, _, rfl, rfl⟩
theorem i_numberAt_t (xA : Arena) (xRoot : Int) (xSector : Int) (r : Int) (h : i_numberAt xA xRoot xSector = some r) : Gives Tryz.prog 184 [.sv (.agg [.sl false 218 2 (encs (c218 false) xA.Knots)]), .sv (I xRoot), .sv (I xSector)] (I r) (List.replicate 3 .gone) := by
 unfold i_numberAt at h
 refine gives_of Tryz.func184 rfl ?_
 rw [Tryz.ntmps184]
 refine wr (LWp.b [] 3 [.sl false 218 2 (encs (c218 false) xA.Knots)] (lO 6 (I 0) (lZ (wr (lO 8 (.one (.ptr (.box 3) 1 [] 0)) (lO 9 (.one (.sl false 218 2 (encs (c218 false) xA.Knots))) (lO 10 (I xRoot) (LWp.p h 11 (fun _ => (.one (.ptr (.slot 9) 1 [0] (Int.toNat xRoot * 2 + 0)))) ?_ (fun x1 gx1 => st_pure (p_ix (k218 false) (.slot 9) [] 0 gx1))))))))))
 intro x1 gx1 h
 refine lO 12 (.one (.ptr (.slot 9) 1 [0] (Int.toNat xRoot * 2 + 1))) (lO 13 (.one (.sl false 3 1 (encs c3 x1.Kids))) (lO 14 (I xSector) (lO 15 (I (qu xSector 4)) (LWp.p h 16 (fun _ => (.one (.ptr (.slot 13) 1 [0] (Int.toNat (qu xSector 4) * 1 + 0)))) ?_ (fun x2 gx2 => st_pure (p_ix k3 (.slot 13) [] 0 gx2))))) (st_pure (p_lc (k218 false) (.slot 9) [0] 1 (.sl false 3 1 (encs c3 x1.Kids)) gx1))) (st_pure (p_fa (k218 false) (.slot 9) [0] 0 gx1))
 intro x2 gx2 h
 refine lO 17 (I x2) (lO 7 (I x2) (lZ (Wp.seq (wr (lO 18 (I x2) (lO 19 (B (decide (x2 < 0))) (lZ (Wp.c h (fun h => ?_) (fun h => ?_))))))))) (st_pure (p_lc k3 (.slot 13) [0] 0 (.int .i64 x2) gx2))
 ·refine wr ?_
  refine lO 6 (I 0) (lZ ?_)
  cases h
  exact Wp.ret ⟨.inr rfl, _, _, rfl, rfl⟩
 refine Wp.skip (wr (lO 20 (.one (.ptr (.box 3) 1 [] 0)) (lO 21 (.one (.sl false 218 2 (encs (c218 false) xA.Knots))) (lO 22 (I x2) (LWp.p h 23 (fun _ => (.one (.ptr (.slot 21) 1 [0] (Int.toNat x2 * 2 + 0)))) ?_ (fun x3 gx3 => st_pure (p_ix (k218 false) (.slot 21) [] 0 gx3)))))))
 intro x3 gx3 h
 refine lO 24 (.one (.ptr (.slot 21) 1 [0] (Int.toNat x2 * 2 + 1))) (lO 25 (.one (.sl false 3 1 (encs c3 x3.Kids))) (lO 26 (I xSector) (lO 27 (I (Int.tmod xSector 4)) (LWp.p h 28 (fun _ => (.one (.ptr (.slot 25) 1 [0] (Int.toNat (Int.tmod xSector 4) * 1 + 0)))) ?_ (fun x4 gx4 => st_pure (p_ix k3 (.slot 25) [] 0 gx4))))) (st_pure (p_lc (k218 false) (.slot 21) [0] 1 (.sl false 3 1 (encs c3 x3.Kids)) gx3))) (st_pure (p_fa (k218 false) (.slot 21) [0] 0 gx3))
 intro x4 gx4 h
 refine lO 29 (I x4) (lO 6 (I x4) (lZ ?_)) (st_pure (p_lc k3 (.slot 25) [0] 0 (.int .i64 x4) gx4))
 cases h
 exact Wp.ret ⟨.inr rfl, _, _, rfl, rfl⟩
def i_GetAt_H1 (xA : Arena) (xRoot : Int) (xSector : Int) (z1 : Bool) : St := mkSt [(1, (I xRoot)), (2, (I xSector)), (3, (.one (.ptr (.box 3) 0 [] 0))), (20, (B z1))] [(.box 3, [.sl false 218 2 (encs (c218 false) xA.Knots)])]
theorem i_GetAt_t (xA : Arena) (xRoot : Int) (xSector : Int) (r : Int) (h : i_GetAt xA xRoot xSector = some r) : Gives Tryz.prog 151 [.sv (.agg [.sl false 218 2 (encs (c218 false) xA.Knots)]), .sv (I xRoot), .sv (I xSector)] (I r) (List.replicate 3 .gone) := by
 unfold i_GetAt at h
 refine gives_of Tryz.func151 rfl ?_
 rw [Tryz.ntmps151]
 refine wr (LWp.b [] 3 [.sl false 218 2 (encs (c218 false) xA.Knots)] (lO 6 (I 0) (lZ (Wp.seq (Wp.seq (Wp.j1 h [1, 2, 3, 20] [.box 3] (fun a => (i_GetAt_H1 xA xRoot xSector a)) ?_ ?_))))))
 ·intro a h
  refine Wp.region (lO 7 (I xSector) (LWp.cl h 8 (fun v1 => (B v1)) rfl (l := [.sv (.one (.int .i64 xSector)), .sv (.one (.int .i64 0)), .sv (.one (.int .i64 15))]) rfl (fun v hv => i_in_t xSector 0 15 v hv) (.inl rfl) ?_))
  intro v1 gv1 h
  refine lO 9 (B (!v1)) (lO 10 (B (!v1)) (LWp.sp h 10 (fun h => ?_) (fun h => ?_)))
  ·refine lH 11 ?_
   refine lH 12 (lH 13 (lH 14 (lO 15 (B true) (lO 16 (B true) (lH 17 (lH 18 (lH 19 (lO 20 (B true) (lZ ?_)))))))))
   cases h
   exact ⟨_, rfl, rfl, rfl⟩
  refine lO 11 (.agg [.sl false 218 2 (encs (c218 false) xA.Knots)]) (lO 12 (I xRoot) (LWp.cl h 13 (fun v2 => (B v2)) rfl (l := [.sv (.agg [.sl false 218 2 (encs (c218 false) xA.Knots)]), .sv (.one (.int .i64 xRoot))]) rfl (fun v hv => i_isRoot_t xA xRoot v hv) (.inl rfl) ?_))
  intro v2 gv2 h
  refine lO 14 (B (!v2)) (lO 15 (B (!v2)) (lO 16 (B (!v2)) (LWp.sp h 16 (fun h => ?_) (fun h => ?_))))
  ·refine lH 17 ?_
   refine lH 18 (lH 19 (lO 20 (B true) (lZ ?_)))
   cases h
   exact ⟨_, rfl, rfl, rfl⟩
  refine lO 17 (.agg [.sl false 218 2 (encs (c218 false) xA.Knots)]) (LWp.cl h 18 (fun v3 => (B v3)) rfl (l := [.sv (.agg [.sl false 218 2 (encs (c218 false) xA.Knots)])]) rfl (fun v hv => i_ArenaOk_t xA v hv) (.inl rfl) ?_)
  intro v3 gv3 h
  refine lO 19 (B (!v3)) (lO 20 (B (!v3)) (lZ ?_))
  cases h
  exact ⟨_, rfl, rfl, rfl⟩
 intro j1 h E hE
 refine nt_wp hE ?_
 change Wp _ _ _ (i_GetAt_H1 xA xRoot xSector j1) _
 refine Wp.c h (fun h => ?_) (fun h => ?_)
 ·refine wr ?_
  refine lO 6 (I 0) (lZ ?_)
  cases h
  exact Wp.ret ⟨.inr rfl, _, _, rfl, rfl⟩
 refine Wp.skip (wr (lO 21 (.agg [.sl false 218 2 (encs (c218 false) xA.Knots)]) (lO 22 (I xRoot) (lO 23 (I xSector) (LWp.cl h 24 (fun v4 => (I v4)) rfl (l := [.sv (.agg [.sl false 218 2 (encs (c218 false) xA.Knots)]), .sv (.one (.int .i64 xRoot)), .sv (.one (.int .i64 xSector))]) rfl (fun v hv => i_numberAt_t xA xRoot xSector v hv) (.inl rfl) ?_)))))
 intro v4 gv4 h
 refine lO 6 (I v4) (lZ ?_)
 cases h
 exact Wp.ret ⟨.inr rfl, _, _, rfl, rfl⟩
def i_AllAt_H1 (xA : Arena) (xRoot : Int) (z1 : List Int) (z2 : Int) : St := mkSt [(1, (I xRoot)), (2, (.one (.ptr (.box 2) 0 [] 0))), (5, (.one (.sl true 3 1 (encs c3 z1)))), (7, (I z2))] [(.box 2, [.sl false 218 2 (encs (c218 false) xA.Knots)])]
def i_AllAt_H2 (z3 : List Int) : St := mkSt [(5, (.one (.sl true 3 1 (encs c3 z3))))] []
theorem i_AllAt_t (xA : Arena) (xRoot : Int) (r : List Int) (h : i_AllAt xA xRoot = some r) : Gives Tryz.prog 100 [.sv (.agg [.sl false 218 2 (encs (c218 false) xA.Knots)]), .sv (I xRoot)] (.one (.sl true 3 1 (encs c3 r))) (List.replicate 2 .gone) := by
 unfold i_AllAt at h
 refine gives_of Tryz.func100 rfl ?_
 rw [Tryz.ntmps100]
 refine wr (LWp.b [] 2 [.sl false 218 2 (encs (c218 false) xA.Knots)] (lO 4 (.one (.sl true 3 1 (encs c3 []))) (lZ (wr (lO 5 (.one (.sl true 3 1 (encs c3 []))) (lZ (Wp.seq (wr (lO 7 (I 0) ?_)))))))))
 refine lZ (Wp.l1 h [1, 2, 5, 7] [.box 2] (fun s => (i_AllAt_H1 xA xRoot s.1 s.2)) [5] [] (fun s => (i_AllAt_H2 s)) ⟨rfl, rfl⟩ ?_ ?_)
 ·rintro ⟨yOut1, y1⟩ o (h : i_AllAt_b1 xA xRoot yOut1 y1 = some o)
  unfold i_AllAt_b1 at h
  change Wp _ _ _ (i_AllAt_H1 xA xRoot yOut1 y1) _
  refine wr (lO 8 (B (decide (y1 < 16))) (lZ (Wp.seq (Wp.c h (fun h => ?_) (fun h => ?_)))))
  ·refine Wp.skip ?_
   refine Wp.seq (Wp.block (wr (lO 9 (I y1) (lO 6 (I y1) (lZ (Wp.region (lO 10 (.one (.view (.slot 5) 0 [] 0)) (lO 11 (.agg [.sl false 218 2 (encs (c218 false) xA.Knots)]) (lO 12 (I xRoot) ?_)))))))))
   refine lO 13 (I y1) (LWp.cl h 14 (fun v1 => (I v1)) rfl (l := [.sv (.agg [.sl false 218 2 (encs (c218 false) xA.Knots)]), .sv (.one (.int .i64 xRoot)), .sv (.one (.int .i64 y1))]) rfl (fun v hv => i_GetAt_t xA xRoot y1 v hv) (.inl rfl) ?_)
   intro v1 gv1 h
   refine LWp.m false [] 15 (.one (.sl true 3 1 (encs c3 [v1]))) (LWp.pm h [(.slot 5, [.junk])] 16 (fun q1 => (.one (.sl true 3 1 (encs c3 q1)))) ?_ (fun q1 gq1 => s_apl k3 (fun _ => rfl) [(.slot 5, [.junk])] yOut1 gq1))
   intro q1 gq1 h
   refine LWp.m true [(.slot 16, [.junk])] 5 (.one (.sl true 3 1 (encs c3 q1))) (lZ (Wp.region (lO 17 (I (ad y1 1)) (lO 7 (I (ad y1 1)) (lZ ?_)))))
   cases h
   exact ⟨_, rfl, rfl, rfl⟩
  refine Wp.exit ?_
  cases h
  exact ⟨_, rfl, rfl, rfl⟩
 intro v2 h E hE
 refine nt_wp hE ?_
 change Wp _ _ _ (i_AllAt_H2 v2) _
 refine wr (lO 18 (.one (.view (.slot 5) 0 [] 0)) (LWp.m true [(.slot 5, [.junk])] 4 (.one (.sl true 3 1 (encs c3 v2))) (lZ ?_)))
 cases h
 exact Wp.ret ⟨.inr rfl, _, _, rfl, rfl⟩
def i_chunksOf_H1 (xS : Store) (z1 : List Int) (z2 : Int) : St := mkSt [(1, (.one (.ptr (.box 1) 0 [] 0))), (3, (.one (.sl true 3 1 (encs c3 z1)))), (9, (.one (.sl false 110 2 (encs c110 xS.Vols)))), (10, (I (ln xS.Vols))), (11, (I z2))] [(.box 1, [.sl false 110 2 (encs c110 xS.Vols), .sl false 218 2 (encs (c218 false) xS.Arena.Knots), .int .i64 xS.Next])]
def i_chunksOf_H2 (z3 : List Int) : St := mkSt [(3, (.one (.sl true 3 1 (encs c3 z3))))] []
def i_chunksOf_H3 (xS : Store) (y1 : Int) (v1 : List Int) (z4 : List Int) (z5 : Int) : St := mkSt [(1, (.one (.ptr (.box 1) 0 [] 0))), (3, (.one (.sl true 3 1 (encs c3 z4)))), (9, (.one (.sl false 110 2 (encs c110 xS.Vols)))), (10, (I (ln xS.Vols))), (11, (I y1)), (19, (.one (.sl true 3 1 (encs c3 v1)))), (20, (I (ln v1))), (21, (I z5))] [(.box 1, [.sl false 110 2 (encs c110 xS.Vols), .sl false 218 2 (encs (c218 false) xS.Arena.Knots), .int .i64 xS.Next])]
def i_chunksOf_H4 (xS : Store) (y1 : Int) (z6 : List Int) : St := mkSt [(1, (.one (.ptr (.box 1) 0 [] 0))), (3, (.one (.sl true 3 1 (encs c3 z6)))), (9, (.one (.sl false 110 2 (encs c110 xS.Vols)))), (10, (I (ln xS.Vols))), (11, (I y1))] [(.box 1, [.sl false 110 2 (encs c110 xS.Vols), .sl false 218 2 (encs (c218 false) xS.Arena.Knots), .int .i64 xS.Next])]
theorem i_chunksOf_t (xS : Store) (r : List Int) (h : i_chunksOf xS = some r) : Gives Tryz.prog 114 [.sv (.agg [.sl false 110 2 (encs c110 xS.Vols), .sl false 218 2 (encs (c218 false) xS.Arena.Knots), .int .i64 xS.Next])] (.one (.sl true 3 1 (encs c3 r))) (List.replicate 1 .gone) := by
 unfold i_chunksOf at h
 refine gives_of Tryz.func114 rfl ?_
 rw [Tryz.ntmps114]
 refine wr (LWp.b [] 1 [.sl false 110 2 (encs c110 xS.Vols), .sl false 218 2 (encs (c218 false) xS.Arena.Knots), .int .i64 xS.Next] (lO 2 (.one (.sl true 3 1 (encs c3 []))) (lZ (wr (lO 3 (.one (.sl true 3 1 (encs c3 []))) (lZ (Wp.seq (wr (lO 8 (.one (.ptr (.box 1) 1 [] 0)) ?_)))))))))
 refine lO 9 (.one (.sl false 110 2 (encs c110 xS.Vols))) (lO 10 (I (ln xS.Vols)) (lO 11 (I 0) (lZ (Wp.l1 h [1, 3, 9, 10, 11] [.box 1] (fun s => (i_chunksOf_H1 xS s.1 s.2)) [3] [] (fun s => (i_chunksOf_H2 s)) ⟨rfl, rfl⟩ ?_ ?_))) (st_pure (p_ln k110 xS.Vols)))
 ·rintro ⟨yOut1, y1⟩ o (h : i_chunksOf_b1 xS yOut1 y1 = some o)
  unfold i_chunksOf_b1 at h
  change Wp _ _ _ (i_chunksOf_H1 xS yOut1 y1) _
  refine wr (lO 12 (B (decide (y1 < (ln xS.Vols)))) (lZ (Wp.seq (Wp.c h (fun h => ?_) (fun h => ?_)))))
  ·refine Wp.skip ?_
   refine Wp.seq (Wp.block (wr (LWp.p h 13 (fun _ => (.one (.ptr (.slot 9) 0 [0] (Int.toNat y1 * 2 + 0)))) ?_ (fun x1 gx1 => st_pure (p_ix k110 (.slot 9) [] 0 gx1)))))
   intro x1 gx1 h
   refine lO 14 (.agg [.int .i64 x1.Id, .int .i64 x1.Root]) (LWp.b [] 5 [.int .i64 0, .int .i64 0] (LWp.s [] (.box 5) [.int .i64 x1.Id, .int .i64 x1.Root] (lZ (wr (lO 15 (.one (.ptr (.box 1) 0 [] 1)) (lO 16 (.agg [.sl false 218 2 (encs (c218 false) xS.Arena.Knots)]) (lO 17 (.one (.ptr (.box 5) 1 [] 1)) (lO 18 (I x1.Root) (LWp.cl h 19 (fun v1 => (.one (.sl true 3 1 (encs c3 v1)))) rfl (l := [.sv (.agg [.sl false 218 2 (encs (c218 false) xS.Arena.Knots)]), .sv (.one (.int .i64 x1.Root))]) rfl (fun v hv => i_AllAt_t xS.Arena x1.Root v hv) (.inl rfl) ?_))))))))) (st_pure (p_le k110 (.slot 9) [0] gx1))
   intro v1 gv1 h
   refine lO 20 (I (ln v1)) (lO 21 (I 0) (lZ (Wp.l1 h [1, 3, 9, 10, 11, 19, 20, 21] [.box 1] (fun s => (i_chunksOf_H3 xS y1 v1 s.1 s.2)) [1, 3, 9, 10, 11] [.box 1] (fun s => (i_chunksOf_H4 xS y1 s)) ⟨rfl, rfl⟩ ?_ ?_))) (st_pure (p_ln k3 v1))
   ·rintro ⟨yOut2, y2⟩ o (h : i_chunksOf_b2 v1 yOut2 y2 = some o)
    unfold i_chunksOf_b2 at h
    change Wp _ _ _ (i_chunksOf_H3 xS y1 v1 yOut2 y2) _
    refine wr (lO 22 (B (decide (y2 < (ln v1)))) (lZ (Wp.seq (Wp.c h (fun h => ?_) (fun h => ?_)))))
    ·refine Wp.skip ?_
     refine Wp.seq (Wp.block (wr (LWp.p h 23 (fun _ => (.one (.ptr (.slot 19) 0 [0] (Int.toNat y2 * 1 + 0)))) ?_ (fun x2 gx2 => st_pure (p_ix k3 (.slot 19) [] 0 gx2)))))
     intro x2 gx2 h
     refine lO 24 (I x2) (lO 7 (I x2) (lZ (wr (lO 25 (I x2) (lO 26 (B (decide (x2 > 0))) (lZ (Wp.c h (fun h => ?_) (fun h => ?_)))))))) (st_pure (p_lc k3 (.slot 19) [0] 0 (.int .i64 x2) gx2))
     ·refine Wp.region ?_
      refine lO 27 (.one (.view (.slot 3) 0 [] 0)) (lO 28 (I x2) (LWp.m false [] 29 (.one (.sl true 3 1 (encs c3 [x2]))) (LWp.pm h [(.slot 3, [.junk])] 30 (fun q1 => (.one (.sl true 3 1 (encs c3 q1)))) ?_ (fun q1 gq1 => s_apl k3 (fun _ => rfl) [(.slot 3, [.junk])] yOut2 gq1))))
      intro q1 gq1 h
      refine LWp.m true [(.slot 30, [.junk])] 3 (.one (.sl true 3 1 (encs c3 q1))) (lZ (Wp.region (lO 31 (I (ad y2 1)) (lO 21 (I (ad y2 1)) (lZ ?_)))))
      cases h
      exact ⟨_, rfl, rfl, rfl⟩
     refine Wp.skip (Wp.region (lO 31 (I (ad y2 1)) (lO 21 (I (ad y2 1)) (lZ ?_))))
     cases h
     exact ⟨_, rfl, rfl, rfl⟩
    refine Wp.exit ?_
    cases h
    exact ⟨_, rfl, rfl, rfl⟩
   intro v2 h E hE
   refine nt_wp hE ?_
   change Wp _ _ _ (i_chunksOf_H4 xS y1 v2) _
   refine Wp.region (lO 32 (I (ad y1 1)) (lO 11 (I (ad y1 1)) (lZ ?_)))
   cases h
   exact ⟨_, rfl, rfl, rfl⟩
  refine Wp.exit ?_
  cases h
  exact ⟨_, rfl, rfl, rfl⟩
 intro v3 h E hE
 refine nt_wp hE ?_
 change Wp _ _ _ (i_chunksOf_H2 v3) _
 refine wr (lO 33 (.one (.view (.slot 3) 0 [] 0)) (LWp.m true [(.slot 3, [.junk])] 2 (.one (.sl true 3 1 (encs c3 v3))) (lZ ?_)))
 cases h
 exact Wp.ret ⟨.inr rfl, _, _, rfl, rfl⟩
def i_LiveOf_H1 (v2 : List Int) (z1 : List Int) (z2 : Int) : St := mkSt [(3, (.one (.sl true 3 1 (encs c3 v2)))), (4, (.one (.sl true 3 1 (encs c3 z1)))), (11, (.one (.view (.slot 3) 0 [] 0))), (12, (I (ln v2))), (13, (I z2))] []
def i_LiveOf_H2 (z3 : List Int) : St := mkSt [(4, (.one (.sl true 3 1 (encs c3 z3))))] []
def i_LiveOf_H3 (v2 : List Int) (yOut1 : List Int) (y1 : Int) (x1 : Int) (z4 : Bool) : St := mkSt [(3, (.one (.sl true 3 1 (encs c3 v2)))), (4, (.one (.sl true 3 1 (encs c3 yOut1)))), (6, (I x1)), (11, (.one (.view (.slot 3) 0 [] 0))), (12, (I (ln v2))), (13, (I y1)), (28, (B z4))] []
theorem i_LiveOf_t (xS : Store) (r : List Int) (h : i_LiveOf xS = some r) : Gives Tryz.prog 75 [.sv (.agg [.sl false 110 2 (encs c110 xS.Vols), .sl false 218 2 (encs (c218 false) xS.Arena.Knots), .int .i64 xS.Next])] (.one (.sl true 3 1 (encs c3 r))) (List.replicate 1 .gone) := by
 unfold i_LiveOf at h
 refine gives_of Tryz.func75 rfl ?_
 rw [Tryz.ntmps75]
 refine wr (LWp.b [] 1 [.sl false 110 2 (encs c110 xS.Vols), .sl false 218 2 (encs (c218 false) xS.Arena.Knots), .int .i64 xS.Next] (lO 2 (.one (.sl true 3 1 (encs c3 []))) (lZ (wr (lO 7 (.agg [.sl false 110 2 (encs c110 xS.Vols), .sl false 218 2 (encs (c218 false) xS.Arena.Knots), .int .i64 xS.Next]) (LWp.cl h 8 (fun v1 => (.one (.sl true 3 1 (encs c3 v1)))) rfl (l := [.sv (.agg [.sl false 110 2 (encs c110 xS.Vols), .sl false 218 2 (encs (c218 false) xS.Arena.Knots), .int .i64 xS.Next])]) rfl (fun v hv => i_chunksOf_t xS v hv) (.inl rfl) ?_))))))
 intro v1 gv1 h
 refine LWp.m true [(.slot 8, [.junk])] 3 (.one (.sl true 3 1 (encs c3 v1))) (lZ (wr (lO 9 (.one (.view (.slot 3) 1 [] 0)) (LWp.sI (n := 3) (x := 9) (d := 10) (enc := c3) h ints ?_ (fun _ => rfl) (hf := ⟨_, Tryz.func115, by decide, rfl⟩)))))
 intro v2 gv2 h
 refine lZ (wr (lO 4 (.one (.sl true 3 1 (encs c3 []))) (lZ (Wp.seq (wr (lO 11 (.one (.view (.slot 3) 2 [] 0)) (lO 12 (I (ln v2)) (lO 13 (I 0) (lZ ?_)) (st_pure (p_ln k3 v2)))))))))
 refine Wp.l1 h [3, 4, 11, 12, 13] [] (fun s => (i_LiveOf_H1 v2 s.1 s.2)) [4] [] (fun s => (i_LiveOf_H2 s)) ⟨rfl, rfl⟩ ?_ ?_
 ·rintro ⟨yOut1, y1⟩ o (h : i_LiveOf_b1 v2 yOut1 y1 = some o)
  unfold i_LiveOf_b1 at h
  change Wp _ _ _ (i_LiveOf_H1 v2 yOut1 y1) _
  refine wr (lO 14 (B (decide (y1 < (ln v2)))) (lZ (Wp.seq (Wp.c h (fun h => ?_) (fun h => ?_)))))
  ·refine Wp.skip ?_
   refine Wp.seq (Wp.block (wr (lO 15 (I y1) (LWp.p h 16 (fun _ => (.one (.ptr (.slot 3) 0 [0] (Int.toNat y1 * 1 + 0)))) ?_ (fun x1 gx1 => st_pure (p_ix k3 (.slot 3) [] 0 gx1))))))
   intro x1 gx1 h
   refine lO 17 (I x1) (lO 5 (I y1) (lO 6 (I x1) (lZ (Wp.seq (Wp.j1 h [3, 4, 6, 11, 12, 13, 28] [] (fun a => (i_LiveOf_H3 v2 yOut1 y1 x1 a)) ?_ ?_))))) (st_pure (p_lc k3 (.slot 3) [0] 0 (.int .i64 x1) gx1))
   ·intro a h
    refine Wp.region (lO 18 (I y1) (lO 19 (B (y1 == 0)) (lO 20 (B (y1 == 0)) (LWp.sp h 20 (fun h => ?_) (fun h => ?_)))))
    ·refine lH 21 ?_
     refine lH 22 (lH 23 (lH 24 (lH 25 (lH 26 (lH 27 (lO 28 (B true) (lZ ?_)))))))
     cases h
     exact ⟨_, rfl, rfl, rfl⟩
    refine lO 21 (.one (.view (.slot 3) 0 [] 0)) (lO 22 (I y1) (lO 23 (I (sb y1 1)) (LWp.p h 24 (fun _ => (.one (.ptr (.slot 3) 0 [0] (Int.toNat (sb y1 1) * 1 + 0)))) ?_ (fun x2 gx2 => st_pure (p_ix k3 (.slot 3) [] 0 gx2)))))
    intro x2 gx2 h
    refine lO 25 (I x2) (lO 26 (I x1) (lO 27 (B (x2 != x1)) (lO 28 (B (x2 != x1)) (lZ ?_)))) (st_pure (p_lc k3 (.slot 3) [0] 0 (.int .i64 x2) gx2))
    cases h
    exact ⟨_, rfl, rfl, rfl⟩
   intro j1 h E hE
   refine nt_wp hE ?_
   change Wp _ _ _ (i_LiveOf_H3 v2 yOut1 y1 x1 j1) _
   refine Wp.c h (fun h => ?_) (fun h => ?_)
   ·refine Wp.region ?_
    refine lO 29 (.one (.view (.slot 4) 0 [] 0)) (lO 30 (I x1) (LWp.m false [] 31 (.one (.sl true 3 1 (encs c3 [x1]))) (LWp.pm h [(.slot 4, [.junk])] 32 (fun q1 => (.one (.sl true 3 1 (encs c3 q1)))) ?_ (fun q1 gq1 => s_apl k3 (fun _ => rfl) [(.slot 4, [.junk])] yOut1 gq1))))
    intro q1 gq1 h
    refine LWp.m true [(.slot 32, [.junk])] 4 (.one (.sl true 3 1 (encs c3 q1))) (lZ (Wp.region (lO 33 (I (ad y1 1)) (lO 13 (I (ad y1 1)) (lZ ?_)))))
    cases h
    exact ⟨_, rfl, rfl, rfl⟩
   refine Wp.skip (Wp.region (lO 33 (I (ad y1 1)) (lO 13 (I (ad y1 1)) (lZ ?_))))
   cases h
   exact ⟨_, rfl, rfl, rfl⟩
  refine Wp.exit ?_
  cases h
  exact ⟨_, rfl, rfl, rfl⟩
 intro v3 h E hE
 refine nt_wp hE ?_
 change Wp _ _ _ (i_LiveOf_H2 v3) _
 refine wr (lO 34 (.one (.view (.slot 4) 0 [] 0)) (LWp.m true [(.slot 4, [.junk])] 2 (.one (.sl true 3 1 (encs c3 v3))) (lZ ?_)))
 cases h
 exact Wp.ret ⟨.inr rfl, _, _, rfl, rfl⟩
def i_SumMore_H1 (xText : ByteArray) (z1 : Int) (z2 : Int) : St := mkSt [(0, (.one (.int .u32 z1))), (1, (Y xText)), (5, (I z2))] []
def i_SumMore_H2 (z3 : Int) : St := mkSt [(0, (.one (.int .u32 z3)))] []
def i_SumMore_H3 (xText : ByteArray) (yI1 : Int) (z4 : Int) (z5 : Int) : St := mkSt [(0, (.one (.int .u32 z4))), (1, (Y xText)), (5, (I yI1)), (19, (I z5))] []
def i_SumMore_H4 (xText : ByteArray) (yI1 : Int) (z6 : Int) : St := mkSt [(0, (.one (.int .u32 z6))), (1, (Y xText)), (5, (I yI1))] []
theorem i_SumMore_t (xSum : Int) (xText : ByteArray) (r : Int) (h : i_SumMore xSum xText = some r) : Gives Tryz.prog 203 [.sv (.one (.int .u32 xSum)), .sv (Y xText)] (.one (.int .u32 r)) (List.replicate 2 .gone) := by
 unfold i_SumMore at h
 refine gives_of Tryz.func203 rfl ?_
 rw [Tryz.ntmps203]
 refine wr (lO 4 (.one (.int .u32 0)) (lZ (Wp.seq (wr (lO 5 (I 0) (lZ (Wp.l1 h [0, 1, 5] [] (fun s => (i_SumMore_H1 xText s.1 s.2)) [0] [] (fun s => (i_SumMore_H2 s)) ⟨rfl, rfl⟩ ?_ ?_)))))))
 ·rintro ⟨ySum1, yI1⟩ o (h : i_SumMore_b1 xText ySum1 yI1 = some o)
  unfold i_SumMore_b1 at h
  change Wp _ _ _ (i_SumMore_H1 xText ySum1 yI1) _
  refine Wp.seq (wr (lO 7 (I yI1) (lO 8 (Y xText) (lO 9 (I (sln xText)) (lO 10 (B (decide (yI1 < (sln xText)))) (lZ (Wp.c h (fun h => ?_) (fun h => ?_))))))))
  ·refine Wp.skip ?_
   refine Wp.seq (Wp.block (wr (lO 13 (.one (.int .u32 ySum1)) (lO 14 (Y xText) (lO 15 (I yI1) (LWp.p h 16 (fun x1 => (.one (.int .u8 x1))) ?_ (fun x1 gx1 => st_pure (p_sx gx1))))))))
   intro x1 gx1 h
   refine lO 17 (.one (.int .u32 (IntKind.u32.wrap x1))) (lO 18 (.one (.int .u32 (xr ySum1 (IntKind.u32.wrap x1)))) (lO 0 (.one (.int .u32 (xr ySum1 (IntKind.u32.wrap x1)))) (lZ (wr (lO 19 (I 0) (lZ (Wp.l1 h [0, 1, 5, 19] [] (fun s => (i_SumMore_H3 xText yI1 s.1 s.2)) [0, 1, 5] [] (fun s => (i_SumMore_H4 xText yI1 s)) ⟨rfl, rfl⟩ ?_ ?_)))))))
   ·rintro ⟨ySum2, y1⟩ o (h : i_SumMore_b2 ySum2 y1 = some o)
    unfold i_SumMore_b2 at h
    change Wp _ _ _ (i_SumMore_H3 xText yI1 ySum2 y1) _
    refine wr (lO 20 (B (decide (y1 < 8))) (lZ (Wp.seq (Wp.c h (fun h => ?_) (fun h => ?_)))))
    ·refine Wp.skip ?_
     refine Wp.seq (Wp.block (wr (lO 21 (.one (.int .u32 ySum2)) (lO 22 (.one (.int .u32 (an ySum2 1))) (lO 6 (.one (.int .u32 (an ySum2 1))) (lZ (wr (lO 23 (.one (.int .u32 ySum2)) (lO 24 (.one (.int .u32 (Int.fdiv ySum2 (2 ^ (min (1 : Int).toNat IntKind.u32.bits))))) ?_)))))))))
     refine lO 0 (.one (.int .u32 (Int.fdiv ySum2 (2 ^ (min (1 : Int).toNat IntKind.u32.bits))))) (lZ (wr (lO 25 (.one (.int .u32 (an ySum2 1))) (lO 26 (B ((an ySum2 1) == 1)) (lZ (Wp.c h (fun h => ?_) (fun h => ?_)))))))
     ·refine Wp.region ?_
      refine lO 27 (.one (.int .u32 (Int.fdiv ySum2 (2 ^ (min (1 : Int).toNat IntKind.u32.bits))))) (lO 28 (.one (.int .u32 (xr (Int.fdiv ySum2 (2 ^ (min (1 : Int).toNat IntKind.u32.bits))) 3558460437))) (lO 0 (.one (.int .u32 (xr (Int.fdiv ySum2 (2 ^ (min (1 : Int).toNat IntKind.u32.bits))) 3558460437))) (lZ (Wp.region (lO 29 (I (ad y1 1)) (lO 19 (I (ad y1 1)) (lZ ?_)))))))
      cases h
      exact ⟨_, rfl, rfl, rfl⟩
     refine Wp.skip (Wp.region (lO 29 (I (ad y1 1)) (lO 19 (I (ad y1 1)) (lZ ?_))))
     cases h
     exact ⟨_, rfl, rfl, rfl⟩
    refine Wp.exit ?_
    cases h
    exact ⟨_, rfl, rfl, rfl⟩
   intro v1 h E hE
   refine nt_wp hE ?_
   change Wp _ _ _ (i_SumMore_H4 xText yI1 v1) _
   refine Wp.region (lO 11 (I yI1) (lO 12 (I (ad yI1 1)) (lO 5 (I (ad yI1 1)) (lZ ?_))))
   cases h
   exact ⟨_, rfl, rfl, rfl⟩
  refine Wp.exit ?_
  cases h
  exact ⟨_, rfl, rfl, rfl⟩
 intro v2 h E hE
 refine nt_wp hE ?_
 change Wp _ _ _ (i_SumMore_H2 v2) _
 refine wr (lO 30 (.one (.int .u32 v2)) (lO 4 (.one (.int .u32 v2)) (lZ ?_)))
 cases h
 exact Wp.ret ⟨.inr rfl, _, _, rfl, rfl⟩
theorem i_SumOf_t (xText : ByteArray) (r : Int) (h : i_SumOf xText = some r) : Gives Tryz.prog 172 [.sv (Y xText)] (.one (.int .u32 r)) (List.replicate 1 .gone) := by
 unfold i_SumOf at h
 refine gives_of Tryz.func172 rfl ?_
 rw [Tryz.ntmps172]
 refine wr (lO 2 (.one (.int .u32 0)) (lZ (wr (lO 3 (Y xText) (LWp.cl h 4 (fun v1 => (.one (.int .u32 v1))) rfl (l := [.sv (.one (.int .u32 4294967295)), .sv (.one (.str xText))]) rfl (fun v hv => i_SumMore_t 4294967295 xText v hv) (.inl rfl) ?_)))))
 intro v1 gv1 h
 refine lO 2 (.one (.int .u32 v1)) (lZ ?_)
 cases h
 exact Wp.ret ⟨.inr rfl, _, _, rfl, rfl⟩
theorem i_Sealed_t (xText : ByteArray) (r : ByteArray × Bool) (h : i_Sealed xText = some r) : Gives Tryz.prog 135 [.sv (Y xText)] (.tup [(Y r.1), (B r.2)]) (List.replicate 1 .gone) := by
 unfold i_Sealed at h
 refine gives_of Tryz.func135 rfl ?_
 rw [Tryz.ntmps135]
 refine wr (lO 2 (Y (bs [])) (lO 3 (B false) (lZ (Wp.seq (wr (lO 5 (Y xText) (lO 6 (I (sln xText)) (lO 7 (B (decide ((sln xText) > 20000))) (lZ ?_)))))))))
 refine Wp.c h (fun h => ?_) (fun h => ?_)
 ·refine wr ?_
  refine lO 2 (Y (bs [])) (lO 3 (B false) (lZ ?_))
  cases h
  exact Wp.ret ⟨.inr rfl, _, _, rfl, rfl⟩
 refine Wp.skip (wr (lO 8 (Y xText) (LWp.cl h 9 (fun v1 => (.one (.int .u32 v1))) rfl (l := [.sv (.one (.str xText))]) rfl (fun v hv => i_SumOf_t xText v hv) (.inl rfl) ?_)))
 intro v1 gv1 h
 refine lO 4 (.one (.int .u32 v1)) (lZ (wr (lO 10 (Y xText) (lO 11 (.one (.int .u32 v1)) (lO 12 (.one (.int .u32 (Int.fdiv v1 (2 ^ (min (24 : Int).toNat IntKind.u32.bits))))) (lO 13 (.one (.int .u8 (IntKind.u8.wrap (Int.fdiv v1 (2 ^ (min (24 : Int).toNat IntKind.u32.bits)))))) (lO 14 (.one (.int .u32 v1)) (lO 15 (.one (.int .u32 (Int.fdiv v1 (2 ^ (min (16 : Int).toNat IntKind.u32.bits))))) (lO 16 (.one (.int .u8 (IntKind.u8.wrap (Int.fdiv v1 (2 ^ (min (16 : Int).toNat IntKind.u32.bits)))))) ?_)))))))))
 refine lO 17 (.one (.int .u32 v1)) (lO 18 (.one (.int .u32 (Int.fdiv v1 (2 ^ (min (8 : Int).toNat IntKind.u32.bits))))) (lO 19 (.one (.int .u8 (IntKind.u8.wrap (Int.fdiv v1 (2 ^ (min (8 : Int).toNat IntKind.u32.bits)))))) (lO 20 (.one (.int .u32 v1)) (lO 21 (.one (.int .u8 (IntKind.u8.wrap v1))) (LWp.m false [] 22 (.one (.sl true 5 1 (encs c5 [(IntKind.u8.wrap (Int.fdiv v1 (2 ^ (min (24 : Int).toNat IntKind.u32.bits)))), (IntKind.u8.wrap (Int.fdiv v1 (2 ^ (min (16 : Int).toNat IntKind.u32.bits)))), (IntKind.u8.wrap (Int.fdiv v1 (2 ^ (min (8 : Int).toNat IntKind.u32.bits)))), (IntKind.u8.wrap v1)]))) (lO 23 (Y (strB [(IntKind.u8.wrap (Int.fdiv v1 (2 ^ (min (24 : Int).toNat IntKind.u32.bits)))), (IntKind.u8.wrap (Int.fdiv v1 (2 ^ (min (16 : Int).toNat IntKind.u32.bits)))), (IntKind.u8.wrap (Int.fdiv v1 (2 ^ (min (8 : Int).toNat IntKind.u32.bits)))), (IntKind.u8.wrap v1)])) (LWp.p h 24 (fun x1 => (Y x1)) ?_ (fun x1 gx1 => st_pure (p_cat gx1))) (st_pure (p_cv (fun _ => rfl) [(IntKind.u8.wrap (Int.fdiv v1 (2 ^ (min (24 : Int).toNat IntKind.u32.bits)))), (IntKind.u8.wrap (Int.fdiv v1 (2 ^ (min (16 : Int).toNat IntKind.u32.bits)))), (IntKind.u8.wrap (Int.fdiv v1 (2 ^ (min (8 : Int).toNat IntKind.u32.bits)))), (IntKind.u8.wrap v1)]))))))))
 intro x1 gx1 h
 refine lO 2 (Y x1) (lO 3 (B true) (lZ ?_))
 cases h
 exact Wp.ret ⟨.inr rfl, _, _, rfl, rfl⟩
def i_Unsealed_H1 (x1 : ByteArray) (z1 : Bool) : St := mkSt [(4, (Y x1)), (26, (B z1))] []
theorem i_Unsealed_t (xText : ByteArray) (r : ByteArray × Bool) (h : i_Unsealed xText = some r) : Gives Tryz.prog 190 [.sv (Y xText)] (.tup [(Y r.1), (B r.2)]) (List.replicate 1 .gone) := by
 unfold i_Unsealed at h
 refine gives_of Tryz.func190 rfl ?_
 rw [Tryz.ntmps190]
 refine wr (lO 2 (Y (bs [])) (lO 3 (B false) (lZ (Wp.seq (wr (lO 7 (Y xText) (lO 8 (I (sln xText)) (lO 9 (B (decide ((sln xText) < 4))) (lZ ?_)))))))))
 refine Wp.c h (fun h => ?_) (fun h => ?_)
 ·refine wr ?_
  refine lO 2 (Y (bs [])) (lO 3 (B false) (lZ ?_))
  cases h
  exact Wp.ret ⟨.inr rfl, _, _, rfl, rfl⟩
 refine Wp.skip (wr (lO 10 (Y xText) (lO 11 (Y xText) (lO 12 (I (sln xText)) (lO 13 (I (sb (sln xText) 4)) (LWp.p h 14 (fun x1 => (Y x1)) ?_ (fun x1 gx1 => st_pure (p_sub gx1))))))))
 intro x1 gx1 h
 refine lO 4 (Y x1) (lZ (wr (lO 16 (Y x1) (LWp.cl h 17 (fun v1 => (.tup [(Y v1.1), (B v1.2)])) rfl (l := [.sv (.one (.str x1))]) rfl (fun v hv => i_Sealed_t x1 v hv) (.inl rfl) ?_))))
 intro v1 gv1 h
 refine LWp.mt 17 15 (.tup [(Y v1.1), (B v1.2)]) (LWp.e 15 0 18 (Y v1.1) (LWp.e 15 1 19 (B v1.2) (lO 5 (Y v1.1) (lO 6 (B v1.2) (lZ (Wp.seq (Wp.seq (Wp.j1 h [4, 26] [] (fun a => (i_Unsealed_H1 x1 a)) ?_ ?_))))))))
 ·intro a h
  refine Wp.region (lO 20 (B v1.2) (lO 21 (B (!v1.2)) (lO 22 (B (!v1.2)) (LWp.sp h 22 (fun h => ?_) (fun h => ?_)))))
  ·refine lH 23 ?_
   refine lH 24 (lH 25 (lO 26 (B true) (lZ ?_)))
   cases h
   exact ⟨_, rfl, rfl, rfl⟩
  refine lO 23 (Y v1.1) (lO 24 (Y xText) (lO 25 (B (!(seq v1.1 xText))) (lO 26 (B (!(seq v1.1 xText))) (lZ ?_))))
  cases h
  exact ⟨_, rfl, rfl, rfl⟩
 intro j1 h E hE
 refine nt_wp hE ?_
 change Wp _ _ _ (i_Unsealed_H1 x1 j1) _
 refine Wp.c h (fun h => ?_) (fun h => ?_)
 ·refine wr ?_
  refine lO 2 (Y (bs [])) (lO 3 (B false) (lZ ?_))
  cases h
  exact Wp.ret ⟨.inr rfl, _, _, rfl, rfl⟩
 refine Wp.skip (wr (lO 27 (Y x1) (lO 2 (Y x1) (lO 3 (B true) (lZ ?_)))))
 cases h
 exact Wp.ret ⟨.inr rfl, _, _, rfl, rfl⟩
def i_ReadVar_H1 (xText : ByteArray) (xAt : Int) (z1 : Int) (z2 : Int) : St := mkSt [(0, (Y xText)), (1, (I xAt)), (7, (I z1)), (8, (I z2))] []
def i_ReadVar_H2  : St := mkSt [] []
def i_ReadVar_H3 (xText : ByteArray) (xAt : Int) (yN1 : Int) (yK1 : Int) (z3 : Bool) : St := mkSt [(0, (Y xText)), (1, (I xAt)), (7, (I yN1)), (8, (I yK1)), (23, (B z3))] []
def i_ReadVar_H4 (xAt : Int) (yN1 : Int) (yK1 : Int) (x2 : Int) (z4 : Bool) : St := mkSt [(1, (I xAt)), (7, (I (ad yN1 x2))), (8, (I yK1)), (50, (B z4))] []
theorem i_ReadVar_t (xText : ByteArray) (xAt : Int) (r : Int × Int × Bool) (h : i_ReadVar xText xAt = some r) : Gives Tryz.prog 191 [.sv (Y xText), .sv (I xAt)] (.tup [(I r.1), (I r.2.1), (B r.2.2)]) (List.replicate 2 .gone) := by
 unfold i_ReadVar at h
 refine gives_of Tryz.func191 rfl ?_
 rw [Tryz.ntmps191]
 refine wr (lO 4 (I 0) (lO 5 (I 0) (lO 6 (B false) (lZ (wr (lO 7 (I 0) (lZ (Wp.seq (wr ?_)))))))))
 refine lO 8 (I 0) (lZ (Wp.l2 h [0, 1, 7, 8] [] (fun s => (i_ReadVar_H1 xText xAt s.1 s.2)) [] [] (fun _ => i_ReadVar_H2) ⟨rfl, rfl⟩ ?_ ?_))
 ·rintro ⟨yN1, yK1⟩ o (h : i_ReadVar_b1 xText xAt yN1 yK1 = some o) hk1
  unfold i_ReadVar_b1 at h
  change Wp _ _ _ (i_ReadVar_H1 xText xAt yN1 yK1) _
  refine Wp.seq (Wp.seq (Wp.j1 h [0, 1, 7, 8, 23] [] (fun a => (i_ReadVar_H3 xText xAt yN1 yK1 a)) ?_ ?_))
  ·intro a h
   refine Wp.region (lO 10 (I yK1) (lO 11 (B (decide (yK1 < 5))) (lO 12 (B (decide (yK1 < 5))) (LWp.sp h 12 (fun h => ?_) (fun h => ?_)))))
   ·refine lO 13 (I xAt) ?_
    refine lO 14 (B (decide (xAt ≥ 0))) (lO 15 (B (decide (xAt ≥ 0))) (lO 16 (B (decide (xAt ≥ 0))) (LWp.sp h 16 (fun h => ?_) (fun h => ?_))))
    ·refine lO 17 (I xAt) ?_
     refine lO 18 (Y xText) (lO 19 (I (sln xText)) (lO 20 (I yK1) (lO 21 (I (sb (sln xText) yK1)) (lO 22 (B (decide (xAt < (sb (sln xText) yK1)))) (lO 23 (B (decide (xAt < (sb (sln xText) yK1)))) (lZ ?_))))))
     cases h
     exact ⟨_, rfl, rfl, rfl⟩
    refine lH 17 (lH 18 (lH 19 (lH 20 (lH 21 (lH 22 (lO 23 (B false) (lZ ?_)))))))
    cases h
    exact ⟨_, rfl, rfl, rfl⟩
   refine lH 13 (lH 14 (lO 15 (B false) (lO 16 (B false) (lH 17 (lH 18 (lH 19 (lH 20 (lH 21 (lH 22 ?_)))))))))
   refine lO 23 (B false) (lZ ?_)
   cases h
   exact ⟨_, rfl, rfl, rfl⟩
  intro j1 h E hE
  refine nt_wp hE ?_
  change Wp _ _ _ (i_ReadVar_H3 xText xAt yN1 yK1 j1) _
  refine Wp.c h (fun h => ?_) (fun h => ?_)
  ·refine Wp.skip ?_
   refine Wp.seq (Wp.block (wr (lO 26 (Y xText) (lO 27 (I xAt) (lO 28 (I yK1) (lO 29 (I (ad xAt yK1)) (LWp.p h 30 (fun x1 => (.one (.int .u8 x1))) ?_ (fun x1 gx1 => st_pure (p_sx gx1)))))))))
   intro x1 gx1 h
   refine lO 31 (I (IntKind.i64.wrap x1)) (lO 9 (I (IntKind.i64.wrap x1)) (lZ (wr (lO 32 (I yN1) (lO 33 (I (IntKind.i64.wrap x1)) (lO 34 (I (Int.tmod (IntKind.i64.wrap x1) 128)) (lO 35 (I yK1) (lO 36 (I (ml 7 yK1)) (LWp.p h 37 (fun x2 => (I x2)) ?_ (fun x2 gx2 => st_pure (p_shl gx2)))))))))))
   intro x2 gx2 h
   refine lO 38 (I (ad yN1 x2)) (lO 7 (I (ad yN1 x2)) (lZ (Wp.seq (wr (lO 39 (I (IntKind.i64.wrap x1)) (lO 40 (B (decide ((IntKind.i64.wrap x1) ≥ 128))) (lZ (Wp.c h (fun h => ?_) (fun h => ?_)))))))))
   ·refine Wp.exit ?_
    refine Wp.region (lO 24 (I yK1) (lO 25 (I (ad yK1 1)) (lO 8 (I (ad yK1 1)) (lZ ?_))))
    cases h
    exact ⟨_, rfl, rfl, rfl⟩
   refine Wp.skip (Wp.seq (Wp.seq (Wp.j1 h [1, 7, 8, 50] [] (fun a => (i_ReadVar_H4 xAt yN1 yK1 x2 a)) ?_ ?_)))
   ·intro a h
    refine Wp.region (lO 41 (I (IntKind.i64.wrap x1)) (lO 42 (B ((IntKind.i64.wrap x1) == 0)) (lO 43 (B ((IntKind.i64.wrap x1) == 0)) (LWp.sp h 43 (fun h => ?_) (fun h => ?_)))))
    ·refine lO 44 (I yK1) ?_
     refine lO 45 (B (decide (yK1 > 0))) (lO 46 (B (decide (yK1 > 0))) (lO 47 (B (decide (yK1 > 0))) (LWp.sp h 47 (fun h => ?_) (fun h => ?_))))
     ·refine lH 48 ?_
      refine lH 49 (lO 50 (B true) (lZ ?_))
      cases h
      exact ⟨_, rfl, rfl, rfl⟩
     refine lO 48 (I (ad yN1 x2)) (lO 49 (B (decide ((ad yN1 x2) > 1000000000))) (lO 50 (B (decide ((ad yN1 x2) > 1000000000))) (lZ ?_)))
     cases h
     exact ⟨_, rfl, rfl, rfl⟩
    refine lH 44 (lH 45 (lO 46 (B false) (lO 47 (B false) (lO 48 (I (ad yN1 x2)) (lO 49 (B (decide ((ad yN1 x2) > 1000000000))) (lO 50 (B (decide ((ad yN1 x2) > 1000000000))) (lZ ?_)))))))
    cases h
    exact ⟨_, rfl, rfl, rfl⟩
   intro j2 h E hE
   refine nt_wp hE ?_
   change Wp _ _ _ (i_ReadVar_H4 xAt yN1 yK1 x2 j2) _
   refine Wp.c h (fun h => ?_) (fun h => ?_)
   ·refine wr ?_
    refine lO 4 (I 0) (lO 5 (I 0) (lO 6 (B false) (lZ ?_)))
    cases h
    replace h : some _ = some _ := hk1 _ rfl
    cases h
    exact Wp.ret ⟨.inr rfl, _, _, rfl, rfl⟩
   refine Wp.skip (wr (lO 51 (I (ad yN1 x2)) (lO 52 (I xAt) (lO 53 (I yK1) (lO 54 (I (ad xAt yK1)) (lO 55 (I (ad (ad xAt yK1) 1)) (lO 4 (I (ad yN1 x2)) (lO 5 (I (ad (ad xAt yK1) 1)) (lO 6 (B true) ?_)))))))))
   refine lZ ?_
   cases h
   replace h : some _ = some _ := hk1 _ rfl
   cases h
   exact Wp.ret ⟨.inr rfl, _, _, rfl, rfl⟩
  refine Wp.exit ?_
  cases h
  exact ⟨_, rfl, rfl, rfl⟩
 intro v1 h E hE
 refine nt_wp hE ?_
 change Wp _ _ _ i_ReadVar_H2 _
 refine wr (lO 4 (I 0) (lO 5 (I 0) (lO 6 (B false) (lZ ?_))))
 cases h
 exact Wp.ret ⟨.inr rfl, _, _, rfl, rfl⟩
def i_PageOk_H1 (xP : Page) (z1 : Bool) : St := mkSt [(1, (.one (.ptr (.box 1) 0 [] 0))), (33, (B z1))] [(.box 1, [.int .i64 xP.Kind, .int .i64 xP.Seq, .int .i64 xP.Tx, .int .i64 xP.Part, .int .i64 xP.Count, .str xP.Text])]
theorem i_PageOk_t (xP : Page) (r : Bool) (h : i_PageOk xP = some r) : Gives Tryz.prog 134 [.sv (.agg [.int .i64 xP.Kind, .int .i64 xP.Seq, .int .i64 xP.Tx, .int .i64 xP.Part, .int .i64 xP.Count, .str xP.Text])] (B r) (List.replicate 1 .gone) := by
 unfold i_PageOk at h
 refine gives_of Tryz.func134 rfl ?_
 rw [Tryz.ntmps134]
 refine wr (LWp.b [] 1 [.int .i64 xP.Kind, .int .i64 xP.Seq, .int .i64 xP.Tx, .int .i64 xP.Part, .int .i64 xP.Count, .str xP.Text] (lO 2 (B false) (lZ (Wp.seq (Wp.seq (Wp.j1 h [1, 33] [.box 1] (fun a => (i_PageOk_H1 xP a)) ?_ ?_))))))
 ·intro a h
  refine Wp.region (lO 3 (.one (.ptr (.box 1) 1 [] 1)) (lO 4 (I xP.Seq) (LWp.cl h 5 (fun v1 => (B v1)) rfl (l := [.sv (.one (.int .i64 xP.Seq)), .sv (.one (.int .i64 1)), .sv (.one (.int .i64 1000000000))]) rfl (fun v hv => i_in_t xP.Seq 1 1000000000 v hv) (.inl rfl) ?_)))
  intro v1 gv1 h
  refine lO 6 (B (!v1)) (lO 7 (B (!v1)) (LWp.sp h 7 (fun h => ?_) (fun h => ?_)))
  ·refine lH 8 ?_
   refine lH 9 (lH 10 (lH 11 (lO 12 (B true) (lO 13 (B true) (lH 14 (lH 15 (lH 16 (lH 17 (lO 18 (B true) ?_)))))))))
   refine lO 19 (B true) (lH 20 (lH 21 (lH 22 (lH 23 (lH 24 (lH 25 (lH 26 (lO 27 (B true) (lO 28 (B true) ?_)))))))))
   refine lH 29 (lH 30 (lH 31 (lH 32 (lO 33 (B true) (lZ ?_)))))
   cases h
   exact ⟨_, rfl, rfl, rfl⟩
  refine lO 8 (.one (.ptr (.box 1) 1 [] 2)) (lO 9 (I xP.Tx) (LWp.cl h 10 (fun v2 => (B v2)) rfl (l := [.sv (.one (.int .i64 xP.Tx)), .sv (.one (.int .i64 1)), .sv (.one (.int .i64 1000000000))]) rfl (fun v hv => i_in_t xP.Tx 1 1000000000 v hv) (.inl rfl) ?_))
  intro v2 gv2 h
  refine lO 11 (B (!v2)) (lO 12 (B (!v2)) (lO 13 (B (!v2)) (LWp.sp h 13 (fun h => ?_) (fun h => ?_))))
  ·refine lH 14 ?_
   refine lH 15 (lH 16 (lH 17 (lO 18 (B true) (lO 19 (B true) (lH 20 (lH 21 (lH 22 (lH 23 (lH 24 ?_)))))))))
   refine lH 25 (lH 26 (lO 27 (B true) (lO 28 (B true) (lH 29 (lH 30 (lH 31 (lH 32 (lO 33 (B true) (lZ ?_)))))))))
   cases h
   exact ⟨_, rfl, rfl, rfl⟩
  refine lO 14 (.one (.ptr (.box 1) 1 [] 4)) (lO 15 (I xP.Count) (LWp.cl h 16 (fun v3 => (B v3)) rfl (l := [.sv (.one (.int .i64 xP.Count)), .sv (.one (.int .i64 1)), .sv (.one (.int .i64 9))]) rfl (fun v hv => i_in_t xP.Count 1 9 v hv) (.inl rfl) ?_))
  intro v3 gv3 h
  refine lO 17 (B (!v3)) (lO 18 (B (!v3)) (lO 19 (B (!v3)) (LWp.sp h 19 (fun h => ?_) (fun h => ?_))))
  ·refine lH 20 ?_
   refine lH 21 (lH 22 (lH 23 (lH 24 (lH 25 (lH 26 (lO 27 (B true) (lO 28 (B true) (lH 29 (lH 30 ?_)))))))))
   refine lH 31 (lH 32 (lO 33 (B true) (lZ ?_)))
   cases h
   exact ⟨_, rfl, rfl, rfl⟩
  refine lO 20 (.one (.ptr (.box 1) 1 [] 3)) (lO 21 (I xP.Part) (lO 22 (.one (.ptr (.box 1) 1 [] 4)) (lO 23 (I xP.Count) (lO 24 (I (sb xP.Count 1)) (LWp.cl h 25 (fun v4 => (B v4)) rfl (l := [.sv (.one (.int .i64 xP.Part)), .sv (.one (.int .i64 0)), .sv (.one (.int .i64 (sb xP.Count 1)))]) rfl (fun v hv => i_in_t xP.Part 0 (sb xP.Count 1) v hv) (.inl rfl) ?_)))))
  intro v4 gv4 h
  refine lO 26 (B (!v4)) (lO 27 (B (!v4)) (lO 28 (B (!v4)) (LWp.sp h 28 (fun h => ?_) (fun h => ?_))))
  ·refine lH 29 ?_
   refine lH 30 (lH 31 (lH 32 (lO 33 (B true) (lZ ?_))))
   cases h
   exact ⟨_, rfl, rfl, rfl⟩
  refine lO 29 (.one (.ptr (.box 1) 1 [] 5)) (lO 30 (Y xP.Text) (lO 31 (I (sln xP.Text)) (lO 32 (B (decide ((sln xP.Text) > 90))) (lO 33 (B (decide ((sln xP.Text) > 90))) (lZ ?_)))))
  cases h
  exact ⟨_, rfl, rfl, rfl⟩
 intro j1 h E hE
 refine nt_wp hE ?_
 change Wp _ _ _ (i_PageOk_H1 xP j1) _
 refine Wp.c h (fun h => ?_) (fun h => ?_)
 ·refine wr ?_
  refine lO 2 (B false) (lZ ?_)
  cases h
  exact Wp.ret ⟨.inr rfl, _, _, rfl, rfl⟩
 refine Wp.skip (wr (lO 34 (.one (.ptr (.box 1) 0 [] 0)) (lO 35 (I xP.Kind) (lO 36 (B (xP.Kind == 2)) (lO 37 (B (xP.Kind == 2)) (LWp.sp h 37 (fun h => ?_) (fun h => ?_)))))))
 ·refine lH 38 ?_
  refine lH 39 (lH 40 (lH 41 (lH 42 (lH 43 (lH 44 (lH 45 (lO 46 (B true) (lO 2 (B true) (lZ ?_)))))))))
  cases h
  exact Wp.ret ⟨.inr rfl, _, _, rfl, rfl⟩
 refine lO 38 (.one (.ptr (.box 1) 0 [] 0)) (lO 39 (I xP.Kind) (lO 40 (B (xP.Kind == 1)) (lO 41 (B (xP.Kind == 1)) (LWp.sp h 41 (fun h => ?_) (fun h => ?_)))))
 ·refine lO 42 (.one (.ptr (.box 1) 0 [] 4)) ?_
  refine lO 43 (I xP.Count) (lO 44 (B (xP.Count == 1)) (lO 45 (B (xP.Count == 1)) (lO 46 (B (xP.Count == 1)) (lO 2 (B (xP.Count == 1)) (lZ ?_)))))
  cases h
  exact Wp.ret ⟨.inr rfl, _, _, rfl, rfl⟩
 refine lH 42 (lH 43 (lH 44 (lO 45 (B false) (lO 46 (B false) (lO 2 (B false) (lZ ?_))))))
 cases h
 exact Wp.ret ⟨.inr rfl, _, _, rfl, rfl⟩
def i_ReadPage_H1 (v1 : ByteArray × Bool) (z1 : Bool) : St := mkSt [(2, (.one (.ptr (.box 2) 0 [] 0))), (4, (Y v1.1)), (23, (B z1))] [(.box 2, [.int .i64 0, .int .i64 0, .int .i64 0, .int .i64 0, .int .i64 0, .str (bs [])])]
def i_ReadPage_H2 (v1 : ByteArray × Bool) (z2 : Int) (z3 : Int) (z4 : Int) (z5 : Int) (z6 : Int) (z7 : Int) : St := mkSt [(2, (.one (.ptr (.box 2) 0 [] 0))), (4, (Y v1.1)), (6, (.one (.ptr (.box 6) 0 [] 0))), (7, (I z2)), (25, (I z3))] [(.box 2, [.int .i64 0, .int .i64 0, .int .i64 0, .int .i64 0, .int .i64 0, .str (bs [])]), (.box 6, [.int .i64 z4, .int .i64 z5, .int .i64 z6, .int .i64 z7])]
def i_ReadPage_H3 (v1 : ByteArray × Bool) (z8 : Int) (z9 : Int) (z10 : Int) (z11 : Int) (z12 : Int) : St := mkSt [(2, (.one (.ptr (.box 2) 0 [] 0))), (4, (Y v1.1)), (6, (.one (.ptr (.box 6) 0 [] 0))), (7, (I z8))] [(.box 2, [.int .i64 0, .int .i64 0, .int .i64 0, .int .i64 0, .int .i64 0, .str (bs [])]), (.box 6, [.int .i64 z9, .int .i64 z10, .int .i64 z11, .int .i64 z12])]
theorem i_ReadPage_t (xT : ByteArray) (r : Page × Bool) (h : i_ReadPage xT = some r) : Gives Tryz.prog 158 [.sv (Y xT)] (.tup [(.agg [.int .i64 r.1.Kind, .int .i64 r.1.Seq, .int .i64 r.1.Tx, .int .i64 r.1.Part, .int .i64 r.1.Count, .str r.1.Text]), (B r.2)]) (List.replicate 1 .gone) := by
 unfold i_ReadPage at h
 refine gives_of Tryz.func158 rfl ?_
 rw [Tryz.ntmps158]
 refine wr (LWp.b [] 2 [.int .i64 0, .int .i64 0, .int .i64 0, .int .i64 0, .int .i64 0, .str (bs [])] (lO 3 (B false) (lZ (wr (lO 14 (Y xT) (LWp.cl h 15 (fun v1 => (.tup [(Y v1.1), (B v1.2)])) rfl (l := [.sv (.one (.str xT))]) rfl (fun v hv => i_Unsealed_t xT v hv) (.inl rfl) ?_))))))
 intro v1 gv1 h
 refine LWp.mt 15 13 (.tup [(Y v1.1), (B v1.2)]) (LWp.e 13 0 16 (Y v1.1) (LWp.e 13 1 17 (B v1.2) (lO 4 (Y v1.1) (lO 5 (B v1.2) (lZ (Wp.seq (Wp.seq (Wp.j1 h [2, 4, 23] [.box 2] (fun a => (i_ReadPage_H1 v1 a)) ?_ ?_))))))))
 ·intro a h
  refine Wp.region (lO 18 (B v1.2) (lO 19 (B (!v1.2)) (lO 20 (B (!v1.2)) (LWp.sp h 20 (fun h => ?_) (fun h => ?_)))))
  ·refine lH 21 ?_
   refine lH 22 (lO 23 (B true) (lZ ?_))
   cases h
   exact ⟨_, rfl, rfl, rfl⟩
  refine lO 21 (Y v1.1) (lO 22 (B (seq v1.1 (bs []))) (lO 23 (B (seq v1.1 (bs []))) (lZ ?_)))
  cases h
  exact ⟨_, rfl, rfl, rfl⟩
 intro j1 h E hE
 refine nt_wp hE ?_
 change Wp _ _ _ (i_ReadPage_H1 v1 j1) _
 refine Wp.c h (fun h => ?_) (fun h => ?_)
 ·refine wr ?_
  refine lO 24 (.agg [.int .i64 0, .int .i64 0, .int .i64 0, .int .i64 0, .int .i64 0, .str (bs [])]) (LWp.s [] (.box 2) [.int .i64 0, .int .i64 0, .int .i64 0, .int .i64 0, .int .i64 0, .str (bs [])] (lO 3 (B false) (lZ ?_)))
  cases h
  exact Wp.ret ⟨.inr rfl, _, _, rfl, rfl⟩
 refine Wp.skip (wr (LWp.b [] 6 [.int .i64 0, .int .i64 0, .int .i64 0, .int .i64 0] (lZ (wr (lO 7 (I 1) (lZ (Wp.seq (wr (lO 25 (I 0) ?_)))))))))
 refine lZ (Wp.l2 h [2, 4, 6, 7, 25] [.box 2, .box 6] (fun s => (i_ReadPage_H2 v1 s.1 s.2.1 s.2.2.1 s.2.2.2.1 s.2.2.2.2.1 s.2.2.2.2.2)) [2, 4, 6, 7] [.box 2, .box 6] (fun s => (i_ReadPage_H3 v1 s.1 s.2.1 s.2.2.1 s.2.2.2.1 s.2.2.2.2)) ⟨rfl, rfl⟩ ?_ ?_)
 ·rintro ⟨yAt1, y1, yL01, yL11, yL21, yL31⟩ o (h : i_ReadPage_b1 v1 yAt1 y1 yL01 yL11 yL21 yL31 = some o) hk1
  unfold i_ReadPage_b1 at h
  change Wp _ _ _ (i_ReadPage_H2 v1 yAt1 y1 yL01 yL11 yL21 yL31) _
  refine wr (lO 26 (B (decide (y1 < 4))) (lZ (Wp.seq (Wp.c h (fun h => ?_) (fun h => ?_)))))
  ·refine Wp.skip ?_
   refine Wp.seq (Wp.block (wr (lO 27 (I y1) (lO 8 (I y1) (lZ (wr (lO 29 (Y v1.1) (lO 30 (I yAt1) (LWp.cl h 31 (fun v2 => (.tup [(I v2.1), (I v2.2.1), (B v2.2.2)])) rfl (l := [.sv (.one (.str v1.1)), .sv (.one (.int .i64 yAt1))]) rfl (fun v hv => i_ReadVar_t v1.1 yAt1 v hv) (.inl rfl) ?_)))))))))
   intro v2 gv2 h
   refine LWp.mt 31 28 (.tup [(I v2.1), (I v2.2.1), (B v2.2.2)]) (LWp.e 28 0 32 (I v2.1) (LWp.e 28 1 33 (I v2.2.1) (LWp.e 28 2 34 (B v2.2.2) (lO 9 (I v2.1) (lO 10 (I v2.2.1) (lO 11 (B v2.2.2) (lZ (Wp.seq (wr ?_)))))))))
   refine lO 35 (B v2.2.2) (lO 36 (B (!v2.2.2)) (lZ (Wp.c h (fun h => ?_) (fun h => ?_))))
   ·refine wr ?_
    refine lO 37 (.agg [.int .i64 0, .int .i64 0, .int .i64 0, .int .i64 0, .int .i64 0, .str (bs [])]) (LWp.s [] (.box 2) [.int .i64 0, .int .i64 0, .int .i64 0, .int .i64 0, .int .i64 0, .str (bs [])] (lO 3 (B false) (lZ ?_)))
    cases h
    replace h : some _ = some _ := hk1 _ rfl
    cases h
    exact Wp.ret ⟨.inr rfl, _, _, rfl, rfl⟩
   refine Wp.skip (Wp.region (lO 38 (I y1) (lO 39 (I v2.1) (lO 40 (I v2.2.1) (bsplit h (fun hb h => ?_) (fun h => ?_))))))
   ·refine lO 41 (.one (.ptr (.box 6) 0 [] 0)) ?_ (st_pure (p_xa (m := 0) (.box 6) [] 0 (eq_of_beq hb)))
    refine LWp.s [] (.box 6) [.int .i64 v2.1, .int .i64 yL11, .int .i64 yL21, .int .i64 yL31] (lO 7 (I v2.2.1) (lZ (Wp.region (lO 42 (I (ad y1 1)) (lO 25 (I (ad y1 1)) (lZ ?_))))))
    cases h
    exact ⟨_, rfl, rfl, rfl⟩
   refine bsplit h (fun hb h => ?_) (fun h => ?_)
   ·refine lO 41 (.one (.ptr (.box 6) 0 [] 1)) ?_ (st_pure (p_xa (m := 1) (.box 6) [] 0 (eq_of_beq hb)))
    refine LWp.s [] (.box 6) [.int .i64 yL01, .int .i64 v2.1, .int .i64 yL21, .int .i64 yL31] (lO 7 (I v2.2.1) (lZ (Wp.region (lO 42 (I (ad y1 1)) (lO 25 (I (ad y1 1)) (lZ ?_))))))
    cases h
    exact ⟨_, rfl, rfl, rfl⟩
   refine bsplit h (fun hb h => ?_) (fun h => ?_)
   ·refine lO 41 (.one (.ptr (.box 6) 0 [] 2)) ?_ (st_pure (p_xa (m := 2) (.box 6) [] 0 (eq_of_beq hb)))
    refine LWp.s [] (.box 6) [.int .i64 yL01, .int .i64 yL11, .int .i64 v2.1, .int .i64 yL31] (lO 7 (I v2.2.1) (lZ (Wp.region (lO 42 (I (ad y1 1)) (lO 25 (I (ad y1 1)) (lZ ?_))))))
    cases h
    exact ⟨_, rfl, rfl, rfl⟩
   refine bsplit h (fun hb h => ?_) (fun h => ?_)
   ·refine lO 41 (.one (.ptr (.box 6) 0 [] 3)) ?_ (st_pure (p_xa (m := 3) (.box 6) [] 0 (eq_of_beq hb)))
    refine LWp.s [] (.box 6) [.int .i64 yL01, .int .i64 yL11, .int .i64 yL21, .int .i64 v2.1] (lO 7 (I v2.2.1) (lZ (Wp.region (lO 42 (I (ad y1 1)) (lO 25 (I (ad y1 1)) (lZ ?_))))))
    cases h
    exact ⟨_, rfl, rfl, rfl⟩
   cases h
  refine Wp.exit ?_
  cases h
  exact ⟨_, rfl, rfl, rfl⟩
 intro v3 h E hE
 refine nt_wp hE ?_
 change Wp _ _ _ (i_ReadPage_H3 v1 v3.1 v3.2.1 v3.2.2.1 v3.2.2.2.1 v3.2.2.2.2) _
 refine Wp.seq (Wp.regionK 17 [16] mixed (fun c E h => by rcases h with ⟨h | h, _⟩ <;> cases h) (KWp.o 17 0 43 (Y v1.1) (KWp.p h 17 1 44 (fun x1 => (.one (.int .u8 x1))) ?_ rfl (fun x1 gx1 => sl_pure (p_sx gx1)))))
 intro x1 gx1 h
 refine KWp.o 17 2 45 (I (IntKind.i64.wrap x1)) (KWp.o 17 3 46 (.one (.ptr (.box 6) 0 [] 0)) (KWp.o 17 4 47 (I v3.2.1) (KWp.o 17 5 48 (.one (.ptr (.box 6) 0 [] 1)) (KWp.o 17 6 49 (I v3.2.2.1) (KWp.o 17 7 50 (.one (.ptr (.box 6) 0 [] 2)) (KWp.o 17 8 51 (I v3.2.2.2.1) (KWp.o 17 9 52 (.one (.ptr (.box 6) 0 [] 3)) (KWp.o 17 10 53 (I v3.2.2.2.2) (KWp.o 17 11 54 (Y v1.1) ?_)) rfl (sl_pure (p_xa (m := 3) (.box 6) [] 0 rfl)))) rfl (sl_pure (p_xa (m := 2) (.box 6) [] 0 rfl)))) rfl (sl_pure (p_xa (m := 1) (.box 6) [] 0 rfl)))) rfl (sl_pure (p_xa (m := 0) (.box 6) [] 0 rfl)))
 refine KWp.o 17 12 55 (I v3.1) (KWp.p h 17 13 56 (fun x2 => (Y x2)) ?_ rfl (fun x2 gx2 => sl_pure (p_sub gx2)))
 intro x2 gx2 h
 refine KWp.o 17 14 57 (.agg [.int .i64 (IntKind.i64.wrap x1), .int .i64 v3.2.1, .int .i64 v3.2.2.1, .int .i64 v3.2.2.2.1, .int .i64 v3.2.2.2.2, .str x2]) (KWp.w1 15 (KOp.b 15 [] 12 [.int .i64 0, .int .i64 0, .int .i64 0, .int .i64 0, .int .i64 0, .str (bs [])] (KWp.w1 16 (KOp.s 16 [] (.box 12) [.int .i64 (IntKind.i64.wrap x1), .int .i64 v3.2.1, .int .i64 v3.2.2.1, .int .i64 v3.2.2.2.1, .int .i64 v3.2.2.2.2, .str x2] (KWp.done (Wp.seq (wr (lO 58 (.agg [.int .i64 (IntKind.i64.wrap x1), .int .i64 v3.2.1, .int .i64 v3.2.2.1, .int .i64 v3.2.2.2.1, .int .i64 v3.2.2.2.2, .str x2]) (LWp.cl h 59 (fun v4 => (B v4)) rfl (l := [.sv (.agg [.int .i64 (IntKind.i64.wrap x1), .int .i64 v3.2.1, .int .i64 v3.2.2.1, .int .i64 v3.2.2.2.1, .int .i64 v3.2.2.2.2, .str x2])]) rfl (fun v hv => i_PageOk_t (Page.mk (IntKind.i64.wrap x1) v3.2.1 v3.2.2.1 v3.2.2.2.1 v3.2.2.2.2 x2) v hv) (.inl rfl) ?_)))))))))
 intro v4 gv4 h
 refine lO 60 (B (!v4)) (lZ (Wp.c h (fun h => ?_) (fun h => ?_)))
 ·refine wr ?_
  refine lO 61 (.agg [.int .i64 0, .int .i64 0, .int .i64 0, .int .i64 0, .int .i64 0, .str (bs [])]) (LWp.s [] (.box 2) [.int .i64 0, .int .i64 0, .int .i64 0, .int .i64 0, .int .i64 0, .str (bs [])] (lO 3 (B false) (lZ ?_)))
  cases h
  exact Wp.ret ⟨.inr rfl, _, _, rfl, rfl⟩
 refine Wp.skip (wr (lO 62 (.agg [.int .i64 (IntKind.i64.wrap x1), .int .i64 v3.2.1, .int .i64 v3.2.2.1, .int .i64 v3.2.2.2.1, .int .i64 v3.2.2.2.2, .str x2]) (LWp.s [] (.box 2) [.int .i64 (IntKind.i64.wrap x1), .int .i64 v3.2.1, .int .i64 v3.2.2.1, .int .i64 v3.2.2.2.1, .int .i64 v3.2.2.2.2, .str x2] (lO 3 (B true) (lZ ?_)))))
 cases h
 exact Wp.ret ⟨.inr rfl, _, _, rfl, rfl⟩
theorem fl158 : ∀ x, (c158 x).all TV.flat = true := fun _ => rfl
theorem i_ScanAll_1_t (n b g cap : Nat) (T : TypeId) (hb : b ≠ g) : LessOk Tryz.prog (rowAmb n b g cap 158 T 8 c158) (ltk i_ScanAll_1) 160 #[.pointer (some ⟨b, 0, none⟩)] := by
 refine lessOk_of Tryz.func160 rfl rfl ?_
 rintro l i j x y hx hy ⟨w, hI⟩
 have hn : l.length = n := hI.len
 have hi := gi_lt hx
 have hj := gi_lt hy
 refine gives_rd Tryz.func160 rfl rfl ?_
 rw [Tryz.ntmps160]
 refine wr (lO 5 (B false) (lZ (Wp.seq (Wp.regionS mixed (by decide +kernel) (SWp.ld 6 (.hdr ⟨g, 0, none⟩ n cap) (.slice (some ⟨g, 0, none⟩) n cap) (SWp.o 7 (I i) (SWp.ix (n := n) 8 (m := i) (SWp.fa (f := 2) 9 (SWp.fa (f := 1) 10 ?_ rfl Tryz.underlying85 rfl (by decide)) rfl Tryz.underlying158 rfl (by decide)) rfl Tryz.underlying107 rfl hi.1 (by omega) (by decide))) rfl rd_box (fun w => by simp [rep]) rfl rfl rfl)))))
 refine SWp.ld (x := 10) 11 (.int .i64 (i_ScanAll_1 x)) (.int .i64 (i_ScanAll_1 x)) ?_ rfl (rd_row (k := 3) (t := .int .i64 (i_ScanAll_1 x)) k158 hx rfl hb (by rw [addr0]; rfl)) (fun w => by simp [rep]) rfl rfl rfl
 refine SWp.ld 12 (.hdr ⟨g, 0, none⟩ n cap) (.slice (some ⟨g, 0, none⟩) n cap) (SWp.o 13 (I j) (SWp.ix (n := n) 14 (m := j) (SWp.fa (f := 2) 15 (SWp.fa (f := 1) 16 ?_ rfl Tryz.underlying85 rfl (by decide)) rfl Tryz.underlying158 rfl (by decide)) rfl Tryz.underlying107 rfl hj.1 (by omega) (by decide))) rfl rd_box (fun w => by simp [rep]) rfl rfl rfl
 refine SWp.ld (x := 16) 17 (.int .i64 (i_ScanAll_1 y)) (.int .i64 (i_ScanAll_1 y)) ?_ rfl (rd_row (k := 3) (t := .int .i64 (i_ScanAll_1 y)) k158 hy rfl hb (by rw [addr0]; rfl)) (fun w => by simp [rep]) rfl rfl rfl
 refine SWp.o 18 (B (decide ((i_ScanAll_1 x) < (i_ScanAll_1 y)))) (SWp.o 5 (B (decide ((i_ScanAll_1 x) < (i_ScanAll_1 y)))) (SWp.nil ?_))
 exact Wp.ret ⟨.inr rfl, rfl, _, rfl⟩
theorem i_ScanAll_1_s {l r : List Found} (h : sort_stable_func (ltk i_ScanAll_1) l (ln l) = some r) : SortsAt Tryz.prog 159 107 158 8 c158 160 l r := by
 refine sort_SliceStable_at k158 h Tryz.t107 Tryz.t158 rfl rfl (by kernel_rfl) rfl 25 (fun w => rfl) rfl Tryz.isAgg158 (enters_of Tryz.func160 rfl rfl) ?_ (fun n b g cap T hb => i_ScanAll_1_t n b g cap T hb)
 intro n
 match n with
 | 0 => exact ⟨205, by kernel_rfl, fun h => absurd h (by decide)⟩
 | 1 => exact ⟨206, by kernel_rfl, fun h => absurd h (by decide)⟩
 | n + 2 =>
 have hk : Go.Lib.swapperK (n + 2) Tryz.t158 25 = 9 := rfl
 rw [hk]
 exact ⟨213, by kernel_rfl, fun _ => ⟨by decide, false, fun args W => run_callFunc_extern Tryz.func213 (by kernel_rfl) (by kernel_rfl) (by kernel_rfl) (e := Extern.ReflectliteSwapper.swap false) (by kernel_rfl) args W⟩⟩
def i_ScanAll_H1 (xF : Flash) (z1 : Int) (z2 : List Found) : St := mkSt [(3, (.one (.ptr (.box 3) 0 [] 0))), (11, (.one (.sl false 124 3 (encs (c124 false) xF.Blocks)))), (12, (I (ln xF.Blocks))), (13, (I z1))] [(.box 3, [.sl true 158 8 (encs c158 z2)])]
def i_ScanAll_H2 (z3 : List Found) : St := mkSt [(3, (.one (.ptr (.box 3) 0 [] 0)))] [(.box 3, [.sl true 158 8 (encs c158 z3)])]
def i_ScanAll_H3 (xF : Flash) (y1 : Int) (x1 : Block) (z4 : Int) (z5 : List Found) : St := mkSt [(3, (.one (.ptr (.box 3) 0 [] 0))), (4, (I y1)), (11, (.one (.sl false 124 3 (encs (c124 false) xF.Blocks)))), (12, (I (ln xF.Blocks))), (13, (I y1)), (19, (.one (.sl false 165 2 (encs c165 x1.Leaves)))), (20, (I (ln x1.Leaves))), (21, (I z4))] [(.box 3, [.sl true 158 8 (encs c158 z5)])]
def i_ScanAll_H4 (xF : Flash) (y1 : Int) (z6 : List Found) : St := mkSt [(3, (.one (.ptr (.box 3) 0 [] 0))), (11, (.one (.sl false 124 3 (encs (c124 false) xF.Blocks)))), (12, (I (ln xF.Blocks))), (13, (I y1))] [(.box 3, [.sl true 158 8 (encs c158 z6)])]
def i_ScanAll_H5 (xF : Flash) (y1 : Int) (x1 : Block) (y2 : Int) (yOut02 : List Found) (v1 : Page × Bool) (z7 : Bool) : St := mkSt [(3, (.one (.ptr (.box 3) 0 [] 0))), (4, (I y1)), (6, (I y2)), (8, (.one (.ptr (.box 8) 0 [] 0))), (11, (.one (.sl false 124 3 (encs (c124 false) xF.Blocks)))), (12, (I (ln xF.Blocks))), (13, (I y1)), (19, (.one (.sl false 165 2 (encs c165 x1.Leaves)))), (20, (I (ln x1.Leaves))), (21, (I y2)), (37, (B z7))] [(.box 3, [.sl true 158 8 (encs c158 yOut02)]), (.box 8, [.int .i64 v1.1.Kind, .int .i64 v1.1.Seq, .int .i64 v1.1.Tx, .int .i64 v1.1.Part, .int .i64 v1.1.Count, .str v1.1.Text])]
theorem i_ScanAll_t (xF : Flash) (r : List Found) (h : i_ScanAll xF = some r) : Gives Tryz.prog 111 [.sv (.agg [.sl false 124 3 (encs (c124 false) xF.Blocks)])] (.one (.sl true 158 8 (encs c158 r))) (List.replicate 1 .gone) := by
 unfold i_ScanAll at h
 refine gives_of Tryz.func111 rfl ?_
 rw [Tryz.ntmps111]
 refine wr (LWp.b [] 1 [.sl false 124 3 (encs (c124 false) xF.Blocks)] (lO 2 (.one (.sl true 158 8 (encs c158 []))) (lZ (wr (LWp.b [] 3 [.sl true 158 8 (encs c158 [])] (lZ (Wp.seq (wr (lO 10 (.one (.ptr (.box 1) 1 [] 0)) ?_)))))))))
 refine lO 11 (.one (.sl false 124 3 (encs (c124 false) xF.Blocks))) (lO 12 (I (ln xF.Blocks)) (lO 13 (I 0) (lZ (Wp.l1 h [3, 11, 12, 13] [.box 3] (fun s => (i_ScanAll_H1 xF s.1 s.2)) [3] [.box 3] (fun s => (i_ScanAll_H2 s)) ⟨rfl, rfl⟩ ?_ ?_))) (st_pure (p_ln (k124 false) xF.Blocks)))
 ·rintro ⟨y1, yOut01⟩ o (h : i_ScanAll_b1 xF y1 yOut01 = some o)
  unfold i_ScanAll_b1 at h
  change Wp _ _ _ (i_ScanAll_H1 xF y1 yOut01) _
  refine wr (lO 14 (B (decide (y1 < (ln xF.Blocks)))) (lZ (Wp.seq (Wp.c h (fun h => ?_) (fun h => ?_)))))
  ·refine Wp.skip ?_
   refine Wp.seq (Wp.block (wr (lO 15 (I y1) (LWp.p h 16 (fun _ => (.one (.ptr (.slot 11) 0 [0] (Int.toNat y1 * 3 + 0)))) ?_ (fun x1 gx1 => st_pure (p_ix (k124 false) (.slot 11) [] 0 gx1))))))
   intro x1 gx1 h
   refine lO 17 (.agg [.bool x1.Bad, .int .i64 x1.Wear, .sl false 165 2 (encs c165 x1.Leaves)]) (LWp.b [] 5 [.bool false, .int .i64 0, .sl true 165 2 (encs c165 [])] (lO 4 (I y1) (LWp.sb [] (.box 5) [.bool x1.Bad, .int .i64 x1.Wear, .sl false 165 2 (encs c165 x1.Leaves)] (lZ (wr (lO 18 (.one (.ptr (.box 5) 1 [] 2)) (lO 19 (.one (.sl false 165 2 (encs c165 x1.Leaves))) (lO 20 (I (ln x1.Leaves)) (lO 21 (I 0) ?_) (st_pure (p_ln k165 x1.Leaves)))))))))) (st_pure (p_le (k124 false) (.slot 11) [0] gx1))
   refine lZ (Wp.l1 h [3, 4, 11, 12, 13, 19, 20, 21] [.box 3] (fun s => (i_ScanAll_H3 xF y1 x1 s.1 s.2)) [3, 11, 12, 13] [.box 3] (fun s => (i_ScanAll_H4 xF y1 s)) ⟨rfl, rfl⟩ ?_ ?_)
   ·rintro ⟨y2, yOut02⟩ o (h : i_ScanAll_b2 y1 x1 y2 yOut02 = some o)
    unfold i_ScanAll_b2 at h
    change Wp _ _ _ (i_ScanAll_H3 xF y1 x1 y2 yOut02) _
    refine wr (lO 22 (B (decide (y2 < (ln x1.Leaves)))) (lZ (Wp.seq (Wp.c h (fun h => ?_) (fun h => ?_)))))
    ·refine Wp.skip ?_
     refine Wp.seq (Wp.block (wr (lO 23 (I y2) (LWp.p h 24 (fun _ => (.one (.ptr (.slot 19) 0 [0] (Int.toNat y2 * 2 + 0)))) ?_ (fun x2 gx2 => st_pure (p_ix k165 (.slot 19) [] 0 gx2))))))
     intro x2 gx2 h
     refine lO 25 (.agg [.int .i64 x2.Is, .str x2.Text]) (LWp.b [] 7 [.int .i64 0, .str (bs [])] (lO 6 (I y2) (LWp.s [] (.box 7) [.int .i64 x2.Is, .str x2.Text] (lZ (wr (lO 27 (.one (.ptr (.box 7) 1 [] 1)) (lO 28 (Y x2.Text) (LWp.cl h 29 (fun v1 => (.tup [(.agg [.int .i64 v1.1.Kind, .int .i64 v1.1.Seq, .int .i64 v1.1.Tx, .int .i64 v1.1.Part, .int .i64 v1.1.Count, .str v1.1.Text]), (B v1.2)])) rfl (l := [.sv (.one (.str x2.Text))]) rfl (fun v hv => i_ReadPage_t x2.Text v hv) (.inl rfl) ?_)))))))) (st_pure (p_le k165 (.slot 19) [0] gx2))
     intro v1 gv1 h
     refine LWp.mt 29 26 (.tup [(.agg [.int .i64 v1.1.Kind, .int .i64 v1.1.Seq, .int .i64 v1.1.Tx, .int .i64 v1.1.Part, .int .i64 v1.1.Count, .str v1.1.Text]), (B v1.2)]) (LWp.e 26 0 30 (.agg [.int .i64 v1.1.Kind, .int .i64 v1.1.Seq, .int .i64 v1.1.Tx, .int .i64 v1.1.Part, .int .i64 v1.1.Count, .str v1.1.Text]) (LWp.e 26 1 31 (B v1.2) (LWp.b [] 8 [.int .i64 0, .int .i64 0, .int .i64 0, .int .i64 0, .int .i64 0, .str (bs [])] (LWp.s [] (.box 8) [.int .i64 v1.1.Kind, .int .i64 v1.1.Seq, .int .i64 v1.1.Tx, .int .i64 v1.1.Part, .int .i64 v1.1.Count, .str v1.1.Text] (lO 9 (B v1.2) (lZ (Wp.seq (Wp.j1 h [3, 4, 6, 8, 11, 12, 13, 19, 20, 21, 37] [.box 3, .box 8] (fun a => (i_ScanAll_H5 xF y1 x1 y2 yOut02 v1 a)) ?_ ?_))))))))
     ·intro a h
      refine Wp.region (lO 32 (B v1.2) (lO 33 (B v1.2) (LWp.sp h 33 (fun h => ?_) (fun h => ?_))))
      ·refine lO 34 (.one (.ptr (.box 7) 1 [] 0)) ?_
       refine lO 35 (I x2.Is) (lO 36 (B (x2.Is == 1)) (lO 37 (B (x2.Is == 1)) (lZ ?_)))
       cases h
       exact ⟨_, rfl, rfl, rfl⟩
      refine lH 34 (lH 35 (lH 36 (lO 37 (B false) (lZ ?_))))
      cases h
      exact ⟨_, rfl, rfl, rfl⟩
     intro j1 h E hE
     refine nt_wp hE ?_
     change Wp _ _ _ (i_ScanAll_H5 xF y1 x1 y2 yOut02 v1 j1) _
     refine Wp.c h (fun h => ?_) (fun h => ?_)
     ·refine Wp.region ?_
      refine lO 38 (.one (.view (.box 3) 0 [] 0)) (lO 39 (I y1) (lO 40 (I y2) (lO 41 (.agg [.int .i64 v1.1.Kind, .int .i64 v1.1.Seq, .int .i64 v1.1.Tx, .int .i64 v1.1.Part, .int .i64 v1.1.Count, .str v1.1.Text]) (lO 42 (.agg [.int .i64 y1, .int .i64 y2, .int .i64 v1.1.Kind, .int .i64 v1.1.Seq, .int .i64 v1.1.Tx, .int .i64 v1.1.Part, .int .i64 v1.1.Count, .str v1.1.Text]) (LWp.m false [] 43 (.one (.sl true 158 8 (encs c158 [(Found.mk y1 y2 v1.1)]))) (LWp.pm h [(.box 3, [.junk])] 44 (fun q1 => (.one (.sl true 158 8 (encs c158 q1)))) ?_ (fun q1 gq1 => s_apl k158 (fun _ => rfl) [(.box 3, [.junk])] yOut02 gq1)))))))
      intro q1 gq1 h
      refine LWp.s [(.slot 44, [.junk])] (.box 3) [.sl true 158 8 (encs c158 q1)] (lZ (Wp.region (lO 45 (I (ad y2 1)) (lO 21 (I (ad y2 1)) (lZ ?_)))))
      cases h
      exact ⟨_, rfl, rfl, rfl⟩
     refine Wp.skip (Wp.region (lO 45 (I (ad y2 1)) (lO 21 (I (ad y2 1)) (lZ ?_))))
     cases h
     exact ⟨_, rfl, rfl, rfl⟩
    refine Wp.exit ?_
    cases h
    exact ⟨_, rfl, rfl, rfl⟩
   intro v2 h E hE
   refine nt_wp hE ?_
   change Wp _ _ _ (i_ScanAll_H4 xF y1 v2) _
   refine Wp.region (lO 46 (I (ad y1 1)) (lO 13 (I (ad y1 1)) (lZ ?_)))
   cases h
   exact ⟨_, rfl, rfl, rfl⟩
  refine Wp.exit ?_
  cases h
  exact ⟨_, rfl, rfl, rfl⟩
 intro v3 h E hE
 refine nt_wp hE ?_
 change Wp _ _ _ (i_ScanAll_H2 v3) _
 refine wr (lO 47 (.one (.view (.box 3) 0 [] 0)) (LWp.bd h ?_))
 intro v4 gv4 h
 refine LWp.srt (x := 47) (p := 3) (d1 := 48) (d2 := 49) (d3 := 50) (r := .box 3) (i_ScanAll_1_s gv4) (lZ (wr (lO 51 (.one (.view (.box 3) 1 [] 0)) (LWp.m true [(.box 3, [.junk])] 2 (.one (.sl true 158 8 (encs c158 v4))) (lZ ?_))))) k158 fl158 (hf := ⟨_, Tryz.func159, by decide, rfl⟩)
 cases h
 exact Wp.ret ⟨.inr rfl, _, _, rfl, rfl⟩
def i_dataOf_H1 (xChunk : Int) (v1 : List Found) (z1 : Bool) (z2 : Int) (z3 : Int) (z4 : Int) (z5 : Int) (z6 : Int) (z7 : Int) (z8 : Int) (z9 : Int) (z10 : ByteArray) : St := mkSt [(1, (I xChunk)), (4, (.one (.ptr (.box 4) 0 [] 0))), (6, (.one (.ptr (.box 6) 0 [] 0))), (7, (B z1)), (11, (.one (.sl true 158 8 (encs c158 v1)))), (12, (I (ln v1))), (13, (I z2))] [(.box 4, [.int .i64 0, .int .i64 0, .int .i64 0, .int .i64 0, .int .i64 0, .int .i64 0, .int .i64 0, .str (bs [])]), (.box 6, [.int .i64 z3, .int .i64 z4, .int .i64 z5, .int .i64 z6, .int .i64 z7, .int .i64 z8, .int .i64 z9, .str z10])]
def i_dataOf_H2 (z11 : Bool) (z12 : Int) (z13 : Int) (z14 : Int) (z15 : Int) (z16 : Int) (z17 : Int) (z18 : Int) (z19 : ByteArray) : St := mkSt [(4, (.one (.ptr (.box 4) 0 [] 0))), (6, (.one (.ptr (.box 6) 0 [] 0))), (7, (B z11))] [(.box 4, [.int .i64 0, .int .i64 0, .int .i64 0, .int .i64 0, .int .i64 0, .int .i64 0, .int .i64 0, .str (bs [])]), (.box 6, [.int .i64 z12, .int .i64 z13, .int .i64 z14, .int .i64 z15, .int .i64 z16, .int .i64 z17, .int .i64 z18, .str z19])]
def i_dataOf_H3 (xChunk : Int) (v1 : List Found) (yOk1 : Bool) (y1 : Int) (yBest01 : Int) (yBest11 : Int) (yBest21 : Int) (yBest31 : Int) (yBest41 : Int) (yBest51 : Int) (yBest61 : Int) (yBest71 : ByteArray) (x1 : Found) (z20 : Bool) : St := mkSt [(1, (I xChunk)), (4, (.one (.ptr (.box 4) 0 [] 0))), (6, (.one (.ptr (.box 6) 0 [] 0))), (7, (B yOk1)), (9, (.one (.ptr (.box 9) 0 [] 0))), (11, (.one (.sl true 158 8 (encs c158 v1)))), (12, (I (ln v1))), (13, (I y1)), (40, (B z20))] [(.box 4, [.int .i64 0, .int .i64 0, .int .i64 0, .int .i64 0, .int .i64 0, .int .i64 0, .int .i64 0, .str (bs [])]), (.box 6, [.int .i64 yBest01, .int .i64 yBest11, .int .i64 yBest21, .int .i64 yBest31, .int .i64 yBest41, .int .i64 yBest51, .int .i64 yBest61, .str yBest71]), (.box 9, [.int .i64 x1.Block, .int .i64 x1.Leaf, .int .i64 x1.Page.Kind, .int .i64 x1.Page.Seq, .int .i64 x1.Page.Tx, .int .i64 x1.Page.Part, .int .i64 x1.Page.Count, .str x1.Page.Text])]
theorem i_dataOf_t (xF : Flash) (xChunk : Int) (r : Found × Bool) (h : i_dataOf xF xChunk = some r) : Gives Tryz.prog 156 [.sv (.agg [.sl false 124 3 (encs (c124 false) xF.Blocks)]), .sv (I xChunk)] (.tup [(.agg [.int .i64 r.1.Block, .int .i64 r.1.Leaf, .int .i64 r.1.Page.Kind, .int .i64 r.1.Page.Seq, .int .i64 r.1.Page.Tx, .int .i64 r.1.Page.Part, .int .i64 r.1.Page.Count, .str r.1.Page.Text]), (B r.2)]) (List.replicate 2 .gone) := by
 unfold i_dataOf at h
 refine gives_of Tryz.func156 rfl ?_
 rw [Tryz.ntmps156]
 refine wr (LWp.b [] 2 [.sl false 124 3 (encs (c124 false) xF.Blocks)] (LWp.b [] 4 [.int .i64 0, .int .i64 0, .int .i64 0, .int .i64 0, .int .i64 0, .int .i64 0, .int .i64 0, .str (bs [])] (lO 5 (B false) (lZ (wr (LWp.b [] 6 [.int .i64 0, .int .i64 0, .int .i64 0, .int .i64 0, .int .i64 0, .int .i64 0, .int .i64 0, .str (bs [])] (lZ (wr (lO 7 (B false) ?_)))))))))
 refine lZ (Wp.seq (wr (lO 10 (.agg [.sl false 124 3 (encs (c124 false) xF.Blocks)]) (LWp.cl h 11 (fun v1 => (.one (.sl true 158 8 (encs c158 v1)))) rfl (l := [.sv (.agg [.sl false 124 3 (encs (c124 false) xF.Blocks)])]) rfl (fun v hv => i_ScanAll_t xF v hv) (.inl rfl) ?_))))
 intro v1 gv1 h
 refine lO 12 (I (ln v1)) (lO 13 (I 0) (lZ (Wp.l1 h [1, 4, 6, 7, 11, 12, 13] [.box 4, .box 6] (fun s => (i_dataOf_H1 xChunk v1 s.1 s.2.1 s.2.2.1 s.2.2.2.1 s.2.2.2.2.1 s.2.2.2.2.2.1 s.2.2.2.2.2.2.1 s.2.2.2.2.2.2.2.1 s.2.2.2.2.2.2.2.2.1 s.2.2.2.2.2.2.2.2.2)) [4, 6, 7] [.box 4, .box 6] (fun s => (i_dataOf_H2 s.1 s.2.1 s.2.2.1 s.2.2.2.1 s.2.2.2.2.1 s.2.2.2.2.2.1 s.2.2.2.2.2.2.1 s.2.2.2.2.2.2.2.1 s.2.2.2.2.2.2.2.2)) ⟨rfl, rfl⟩ ?_ ?_))) (st_pure (p_ln k158 v1))
 ·rintro ⟨yOk1, y1, yBest01, yBest11, yBest21, yBest31, yBest41, yBest51, yBest61, yBest71⟩ o (h : i_dataOf_b1 xChunk v1 yOk1 y1 yBest01 yBest11 yBest21 yBest31 yBest41 yBest51 yBest61 yBest71 = some o)
  unfold i_dataOf_b1 at h
  change Wp _ _ _ (i_dataOf_H1 xChunk v1 yOk1 y1 yBest01 yBest11 yBest21 yBest31 yBest41 yBest51 yBest61 yBest71) _
  refine wr (lO 14 (B (decide (y1 < (ln v1)))) (lZ (Wp.seq (Wp.c h (fun h => ?_) (fun h => ?_)))))
  ·refine Wp.skip ?_
   refine Wp.seq (Wp.block (wr (LWp.p h 15 (fun _ => (.one (.ptr (.slot 11) 0 [0] (Int.toNat y1 * 8 + 0)))) ?_ (fun x1 gx1 => st_pure (p_ix k158 (.slot 11) [] 0 gx1)))))
   intro x1 gx1 h
   refine lO 16 (.agg [.int .i64 x1.Block, .int .i64 x1.Leaf, .int .i64 x1.Page.Kind, .int .i64 x1.Page.Seq, .int .i64 x1.Page.Tx, .int .i64 x1.Page.Part, .int .i64 x1.Page.Count, .str x1.Page.Text]) (LWp.b [] 9 [.int .i64 0, .int .i64 0, .int .i64 0, .int .i64 0, .int .i64 0, .int .i64 0, .int .i64 0, .str (bs [])] (LWp.s [] (.box 9) [.int .i64 x1.Block, .int .i64 x1.Leaf, .int .i64 x1.Page.Kind, .int .i64 x1.Page.Seq, .int .i64 x1.Page.Tx, .int .i64 x1.Page.Part, .int .i64 x1.Page.Count, .str x1.Page.Text] (lZ (Wp.seq (Wp.j1 h [1, 4, 6, 7, 9, 11, 12, 13, 40] [.box 4, .box 6, .box 9] (fun a => (i_dataOf_H3 xChunk v1 yOk1 y1 yBest01 yBest11 yBest21 yBest31 yBest41 yBest51 yBest61 yBest71 x1 a)) ?_ ?_))))) (st_pure (p_le k158 (.slot 11) [0] gx1))
   ·intro a h
    refine Wp.region (lO 17 (.one (.ptr (.box 9) 1 [] 2)) (lO 18 (.one (.ptr (.box 9) 1 [] 2)) (lO 19 (I x1.Page.Kind) (lO 20 (B (x1.Page.Kind == 1)) (lO 21 (B (x1.Page.Kind == 1)) (LWp.sp h 21 (fun h => ?_) (fun h => ?_)))))))
    ·refine lO 22 (.one (.ptr (.box 9) 1 [] 2)) ?_
     refine lO 23 (.one (.ptr (.box 9) 1 [] 4)) (lO 24 (I x1.Page.Tx) (lO 25 (I xChunk) (lO 26 (B (x1.Page.Tx == xChunk)) (lO 27 (B (x1.Page.Tx == xChunk)) (lO 28 (B (x1.Page.Tx == xChunk)) (LWp.sp h 28 (fun h => ?_) (fun h => ?_)))))))
     ·refine lO 29 (B yOk1) ?_
      refine lO 30 (B (!yOk1)) (lO 31 (B (!yOk1)) (LWp.sp h 31 (fun h => ?_) (fun h => ?_)))
      ·refine lH 32 ?_
       refine lH 33 (lH 34 (lH 35 (lH 36 (lH 37 (lH 38 (lO 39 (B true) (lO 40 (B true) (lZ ?_))))))))
       cases h
       exact ⟨_, rfl, rfl, rfl⟩
      refine lO 32 (.one (.ptr (.box 9) 1 [] 2)) (lO 33 (.one (.ptr (.box 9) 1 [] 3)) (lO 34 (I x1.Page.Seq) (lO 35 (.one (.ptr (.box 6) 0 [] 2)) (lO 36 (.one (.ptr (.box 6) 0 [] 3)) (lO 37 (I yBest31) (lO 38 (B (decide (x1.Page.Seq ≥ yBest31))) (lO 39 (B (decide (x1.Page.Seq ≥ yBest31))) (lO 40 (B (decide (x1.Page.Seq ≥ yBest31))) (lZ ?_)))))))))
      cases h
      exact ⟨_, rfl, rfl, rfl⟩
     refine lH 29 (lH 30 (lH 31 (lH 32 (lH 33 (lH 34 (lH 35 (lH 36 (lH 37 (lH 38 ?_)))))))))
     refine lH 39 (lO 40 (B false) (lZ ?_))
     cases h
     exact ⟨_, rfl, rfl, rfl⟩
    refine lH 22 (lH 23 (lH 24 (lH 25 (lH 26 (lO 27 (B false) (lO 28 (B false) (lH 29 (lH 30 (lH 31 ?_)))))))))
    refine lH 32 (lH 33 (lH 34 (lH 35 (lH 36 (lH 37 (lH 38 (lH 39 (lO 40 (B false) (lZ ?_)))))))))
    cases h
    exact ⟨_, rfl, rfl, rfl⟩
   intro j1 h E hE
   refine nt_wp hE ?_
   change Wp _ _ _ (i_dataOf_H3 xChunk v1 yOk1 y1 yBest01 yBest11 yBest21 yBest31 yBest41 yBest51 yBest61 yBest71 x1 j1) _
   refine Wp.c h (fun h => ?_) (fun h => ?_)
   ·refine Wp.region ?_
    refine lO 41 (.agg [.int .i64 x1.Block, .int .i64 x1.Leaf, .int .i64 x1.Page.Kind, .int .i64 x1.Page.Seq, .int .i64 x1.Page.Tx, .int .i64 x1.Page.Part, .int .i64 x1.Page.Count, .str x1.Page.Text]) (LWp.s [] (.box 6) [.int .i64 x1.Block, .int .i64 x1.Leaf, .int .i64 x1.Page.Kind, .int .i64 x1.Page.Seq, .int .i64 x1.Page.Tx, .int .i64 x1.Page.Part, .int .i64 x1.Page.Count, .str x1.Page.Text] (lO 7 (B true) (lZ (Wp.region (lO 42 (I (ad y1 1)) (lO 13 (I (ad y1 1)) (lZ ?_)))))))
    cases h
    exact ⟨_, rfl, rfl, rfl⟩
   refine Wp.skip (Wp.region (lO 42 (I (ad y1 1)) (lO 13 (I (ad y1 1)) (lZ ?_))))
   cases h
   exact ⟨_, rfl, rfl, rfl⟩
  refine Wp.exit ?_
  cases h
  exact ⟨_, rfl, rfl, rfl⟩
 intro v2 h E hE
 refine nt_wp hE ?_
 change Wp _ _ _ (i_dataOf_H2 v2.1 v2.2.1 v2.2.2.1 v2.2.2.2.1 v2.2.2.2.2.1 v2.2.2.2.2.2.1 v2.2.2.2.2.2.2.1 v2.2.2.2.2.2.2.2.1 v2.2.2.2.2.2.2.2.2) _
 refine wr (lO 43 (.agg [.int .i64 v2.2.1, .int .i64 v2.2.2.1, .int .i64 v2.2.2.2.1, .int .i64 v2.2.2.2.2.1, .int .i64 v2.2.2.2.2.2.1, .int .i64 v2.2.2.2.2.2.2.1, .int .i64 v2.2.2.2.2.2.2.2.1, .str v2.2.2.2.2.2.2.2.2]) (lO 44 (B v2.1) (LWp.s [] (.box 4) [.int .i64 v2.2.1, .int .i64 v2.2.2.1, .int .i64 v2.2.2.2.1, .int .i64 v2.2.2.2.2.1, .int .i64 v2.2.2.2.2.2.1, .int .i64 v2.2.2.2.2.2.2.1, .int .i64 v2.2.2.2.2.2.2.2.1, .str v2.2.2.2.2.2.2.2.2] (lO 5 (B v2.1) (lZ ?_)))))
 cases h
 exact Wp.ret ⟨.inr rfl, _, _, rfl, rfl⟩
def i_tokensIn_H1 (z1 : ByteArray) (z2 : List Token) : St := mkSt [(0, (Y z1)), (4, (.one (.sl true 171 3 (encs c171 z2))))] []
def i_tokensIn_H2 (z3 : List Token) : St := mkSt [(4, (.one (.sl true 171 3 (encs c171 z3))))] []
def i_tokensIn_H3 (yT1 : ByteArray) (yOut1 : List Token) (x1 : Int) (z4 : Bool) : St := mkSt [(0, (Y yT1)), (4, (.one (.sl true 171 3 (encs c171 yOut1)))), (5, (I (IntKind.i64.wrap x1))), (11, (B z4))] []
def i_tokensIn_H4 (yT1 : ByteArray) (yOut1 : List Token) (x1 : Int) (z5 : Bool) : St := mkSt [(0, (Y yT1)), (4, (.one (.sl true 171 3 (encs c171 yOut1)))), (5, (I (IntKind.i64.wrap x1))), (30, (B z5))] []
theorem i_tokensIn_t (xT : ByteArray) (r : List Token × Bool) (h : i_tokensIn xT = some r) : Gives Tryz.prog 188 [.sv (Y xT)] (.tup [(.one (.sl true 171 3 (encs c171 r.1))), (B r.2)]) (List.replicate 1 .gone) := by
 unfold i_tokensIn at h
 refine gives_of Tryz.func188 rfl ?_
 rw [Tryz.ntmps188]
 refine wr (lO 2 (.one (.sl true 171 3 (encs c171 []))) (lO 3 (B false) (lZ (wr (lO 4 (.one (.sl true 171 3 (encs c171 []))) (lZ (Wp.seq (Wp.l2 h [0, 4] [] (fun s => (i_tokensIn_H1 s.1 s.2)) [4] [] (fun s => (i_tokensIn_H2 s)) ⟨rfl, rfl⟩ ?_ ?_))))))))
 ·rintro ⟨yT1, yOut1⟩ o (h : i_tokensIn_b1 yT1 yOut1 = some o) hk1
  unfold i_tokensIn_b1 at h
  change Wp _ _ _ (i_tokensIn_H1 yT1 yOut1) _
  refine Wp.seq (wr (lO 6 (Y yT1) (lO 7 (B (!(seq yT1 (bs [])))) (lZ (Wp.c h (fun h => ?_) (fun h => ?_))))))
  ·refine Wp.skip ?_
   refine Wp.block (wr (lO 8 (Y yT1) (LWp.p h 9 (fun x1 => (.one (.int .u8 x1))) ?_ (fun x1 gx1 => st_pure (p_sx gx1)))))
   intro x1 gx1 h
   refine lO 10 (I (IntKind.i64.wrap x1)) (lO 5 (I (IntKind.i64.wrap x1)) (lZ (Wp.block (Wp.seq (Wp.j1 h [0, 4, 5, 11] [] (fun a => (i_tokensIn_H3 yT1 yOut1 x1 a)) ?_ ?_)))))
   ·intro a h
    refine Wp.region (lO 12 (I (IntKind.i64.wrap x1)) (lO 13 (B (decide ((IntKind.i64.wrap x1) ≥ 128))) (lO 14 (B (decide ((IntKind.i64.wrap x1) ≥ 128))) (LWp.sp h 14 (fun h => ?_) (fun h => ?_)))))
    ·refine lO 15 (Y yT1) ?_
     refine lO 16 (I (sln yT1)) (lO 17 (B (decide ((sln yT1) ≥ 2))) (lO 18 (B (decide ((sln yT1) ≥ 2))) (lO 11 (B (decide ((sln yT1) ≥ 2))) (lZ ?_))))
     cases h
     exact ⟨_, rfl, rfl, rfl⟩
    refine lH 15 (lH 16 (lH 17 (lO 18 (B false) (lO 11 (B false) (lZ ?_)))))
    cases h
    exact ⟨_, rfl, rfl, rfl⟩
   intro j1 h E hE
   refine nt_wp hE ?_
   change Wp _ _ _ (i_tokensIn_H3 yT1 yOut1 x1 j1) _
   refine Wp.c h (fun h => ?_) (fun h => ?_)
   ·refine wr ?_
    refine lO 19 (.one (.view (.slot 4) 0 [] 0)) (lO 20 (Y yT1) (LWp.p h 21 (fun x2 => (.one (.int .u8 x2))) ?_ (fun x2 gx2 => st_pure (p_sx gx2))))
    intro x2 gx2 h
    refine lO 22 (I (IntKind.i64.wrap x2)) (lO 23 (I (IntKind.i64.wrap x1)) (lO 24 (I (sb (IntKind.i64.wrap x1) 128)) (lO 25 (.agg [.int .i64 (IntKind.i64.wrap x2), .int .i64 (sb (IntKind.i64.wrap x1) 128), .str (bs [])]) (LWp.m false [] 26 (.one (.sl true 171 3 (encs c171 [(Token.mk (IntKind.i64.wrap x2) (sb (IntKind.i64.wrap x1) 128) (bs []))]))) (LWp.pm h [(.slot 4, [.junk])] 27 (fun q1 => (.one (.sl true 171 3 (encs c171 q1)))) ?_ (fun q1 gq1 => s_apl k171 (fun _ => rfl) [(.slot 4, [.junk])] yOut1 gq1))))))
    intro q1 gq1 h
    refine LWp.m true [(.slot 27, [.junk])] 4 (.one (.sl true 171 3 (encs c171 q1))) (lZ (Wp.region (lO 28 (Y yT1) (LWp.p h 29 (fun x3 => (Y x3)) ?_ (fun x3 gx3 => st_pure (p_sub gx3))))))
    intro x3 gx3 h
    refine lO 0 (Y x3) (lZ ?_)
    cases h
    exact ⟨_, rfl, rfl, rfl⟩
   refine Wp.seq (Wp.j1 h [0, 4, 5, 30] [] (fun a => (i_tokensIn_H4 yT1 yOut1 x1 a)) ?_ ?_)
   ·intro a h
    refine Wp.region (lO 31 (I (IntKind.i64.wrap x1)) (lO 32 (B (decide ((IntKind.i64.wrap x1) < 128))) (lO 33 (B (decide ((IntKind.i64.wrap x1) < 128))) (LWp.sp h 33 (fun h => ?_) (fun h => ?_)))))
    ·refine lO 34 (I (IntKind.i64.wrap x1)) ?_
     refine lO 35 (Y yT1) (lO 36 (I (sln yT1)) (lO 37 (B (decide ((IntKind.i64.wrap x1) < (sln yT1)))) (lO 38 (B (decide ((IntKind.i64.wrap x1) < (sln yT1)))) (lO 30 (B (decide ((IntKind.i64.wrap x1) < (sln yT1)))) (lZ ?_)))))
     cases h
     exact ⟨_, rfl, rfl, rfl⟩
    refine lH 34 (lH 35 (lH 36 (lH 37 (lO 38 (B false) (lO 30 (B false) (lZ ?_))))))
    cases h
    exact ⟨_, rfl, rfl, rfl⟩
   intro j2 h E hE
   refine nt_wp hE ?_
   change Wp _ _ _ (i_tokensIn_H4 yT1 yOut1 x1 j2) _
   refine Wp.c h (fun h => ?_) (fun h => ?_)
   ·refine wr ?_
    refine lO 39 (.one (.view (.slot 4) 0 [] 0)) (lO 40 (Y yT1) (lO 41 (I (IntKind.i64.wrap x1)) (lO 42 (I (ad 1 (IntKind.i64.wrap x1))) (LWp.p h 43 (fun x4 => (Y x4)) ?_ (fun x4 gx4 => st_pure (p_sub gx4))))))
    intro x4 gx4 h
    refine lO 44 (.agg [.int .i64 0, .int .i64 0, .str x4]) (LWp.m false [] 45 (.one (.sl true 171 3 (encs c171 [(Token.mk 0 0 x4)]))) (LWp.pm h [(.slot 4, [.junk])] 46 (fun q2 => (.one (.sl true 171 3 (encs c171 q2)))) ?_ (fun q2 gq2 => s_apl k171 (fun _ => rfl) [(.slot 4, [.junk])] yOut1 gq2)))
    intro q2 gq2 h
    refine LWp.m true [(.slot 46, [.junk])] 4 (.one (.sl true 171 3 (encs c171 q2))) (lZ (Wp.region (lO 47 (Y yT1) (lO 48 (I (IntKind.i64.wrap x1)) (lO 49 (I (ad 1 (IntKind.i64.wrap x1))) (LWp.p h 50 (fun x5 => (Y x5)) ?_ (fun x5 gx5 => st_pure (p_sub gx5))))))))
    intro x5 gx5 h
    refine lO 0 (Y x5) (lZ ?_)
    cases h
    exact ⟨_, rfl, rfl, rfl⟩
   refine wr (lO 2 (.one (.sl true 171 3 (encs c171 []))) (lO 3 (B false) (lZ ?_)))
   cases h
   replace h : some _ = some _ := hk1 _ rfl
   cases h
   exact Wp.ret ⟨.inr rfl, _, _, rfl, rfl⟩
  refine Wp.exit ?_
  cases h
  exact ⟨_, rfl, rfl, rfl⟩
 intro v1 h E hE
 refine nt_wp hE ?_
 change Wp _ _ _ (i_tokensIn_H2 v1) _
 refine wr (lO 51 (.one (.view (.slot 4) 0 [] 0)) (LWp.m true [(.slot 4, [.junk])] 2 (.one (.sl true 171 3 (encs c171 v1))) (lO 3 (B true) (lZ ?_))))
 cases h
 exact Wp.ret ⟨.inr rfl, _, _, rfl, rfl⟩
def i_PlainOf_H1 (xList : List Token) (z1 : List Int) (z2 : Int) : St := mkSt [(4, (.one (.sl true 5 1 (encs c5 z1)))), (7, (.one (.sl false 171 3 (encs c171 xList)))), (8, (I (ln xList))), (9, (I z2))] []
def i_PlainOf_H2 (z3 : List Int) : St := mkSt [(4, (.one (.sl true 5 1 (encs c5 z3))))] []
def i_PlainOf_H3 (xList : List Token) (y1 : Int) (z4 : List Int) : St := mkSt [(4, (.one (.sl true 5 1 (encs c5 z4)))), (7, (.one (.sl false 171 3 (encs c171 xList)))), (8, (I (ln xList))), (9, (I y1))] []
def i_PlainOf_H4 (xList : List Token) (yOut1 : List Int) (y1 : Int) (x1 : Token) (z5 : Bool) : St := mkSt [(4, (.one (.sl true 5 1 (encs c5 yOut1)))), (6, (.one (.ptr (.box 6) 0 [] 0))), (7, (.one (.sl false 171 3 (encs c171 xList)))), (8, (I (ln xList))), (9, (I y1)), (25, (B z5))] [(.box 6, [.int .i64 x1.Back, .int .i64 x1.Size, .str x1.Text])]
def i_PlainOf_H5 (xList : List Token) (yOut1 : List Int) (y1 : Int) (x1 : Token) (z6 : Bool) : St := mkSt [(4, (.one (.sl true 5 1 (encs c5 yOut1)))), (6, (.one (.ptr (.box 6) 0 [] 0))), (7, (.one (.sl false 171 3 (encs c171 xList)))), (8, (I (ln xList))), (9, (I y1)), (46, (B z6))] [(.box 6, [.int .i64 x1.Back, .int .i64 x1.Size, .str x1.Text])]
def i_PlainOf_H6 (xList : List Token) (y1 : Int) (x1 : Token) (z7 : List Int) (z8 : Int) : St := mkSt [(4, (.one (.sl true 5 1 (encs c5 z7)))), (6, (.one (.ptr (.box 6) 0 [] 0))), (7, (.one (.sl false 171 3 (encs c171 xList)))), (8, (I (ln xList))), (9, (I y1)), (48, (I x1.Size)), (49, (I z8))] [(.box 6, [.int .i64 x1.Back, .int .i64 x1.Size, .str x1.Text])]
def i_PlainOf_H7 (xList : List Token) (y1 : Int) (z9 : List Int) : St := mkSt [(4, (.one (.sl true 5 1 (encs c5 z9)))), (7, (.one (.sl false 171 3 (encs c171 xList)))), (8, (I (ln xList))), (9, (I y1))] []
theorem i_PlainOf_t (xList : List Token) (r : ByteArray × Bool) (h : i_PlainOf xList = some r) : Gives Tryz.prog 189 [.sv (.one (.sl false 171 3 (encs c171 xList)))] (.tup [(Y r.1), (B r.2)]) (List.replicate 1 .gone) := by
 unfold i_PlainOf at h
 refine gives_of Tryz.func189 rfl ?_
 rw [Tryz.ntmps189]
 refine wr (lO 2 (Y (bs [])) (lO 3 (B false) (lZ (wr (lO 4 (.one (.sl true 5 1 (encs c5 []))) (lZ (Wp.seq (wr (lO 7 (.one (.sl false 171 3 (encs c171 xList))) ?_)))))))))
 refine lO 8 (I (ln xList)) (lO 9 (I 0) (lZ (Wp.l2 h [4, 7, 8, 9] [] (fun s => (i_PlainOf_H1 xList s.1 s.2)) [4] [] (fun s => (i_PlainOf_H2 s)) ⟨rfl, rfl⟩ ?_ ?_))) (st_pure (p_ln k171 xList))
 ·rintro ⟨yOut1, y1⟩ o (h : i_PlainOf_b1 xList yOut1 y1 = some o) hk1
  unfold i_PlainOf_b1 at h
  change Wp _ _ _ (i_PlainOf_H1 xList yOut1 y1) _
  refine wr (lO 10 (B (decide (y1 < (ln xList)))) (lZ (Wp.seq (Wp.c h (fun h => ?_) (fun h => ?_)))))
  ·refine Wp.skip ?_
   refine Wp.seq (Wp.block (wr (LWp.p h 11 (fun _ => (.one (.ptr (.slot 7) 0 [0] (Int.toNat y1 * 3 + 0)))) ?_ (fun x1 gx1 => st_pure (p_ix k171 (.slot 7) [] 0 gx1)))))
   intro x1 gx1 h
   refine lO 12 (.agg [.int .i64 x1.Back, .int .i64 x1.Size, .str x1.Text]) (LWp.b [] 6 [.int .i64 0, .int .i64 0, .str (bs [])] (LWp.s [] (.box 6) [.int .i64 x1.Back, .int .i64 x1.Size, .str x1.Text] (lZ (Wp.seq (wr (lO 13 (.one (.ptr (.box 6) 1 [] 0)) (lO 14 (I x1.Back) (lO 15 (B (x1.Back == 0)) (lZ ?_))))))))) (st_pure (p_le k171 (.slot 7) [0] gx1))
   refine Wp.j2 h [4, 7, 8, 9] [] (fun a => (i_PlainOf_H3 xList y1 a)) ?_ ?_
   ·intro a h hk2
    refine Wp.c h (fun h => ?_) (fun h => ?_)
    ·refine Wp.seq ?_
     refine Wp.seq (Wp.j1 h [4, 6, 7, 8, 9, 25] [.box 6] (fun a => (i_PlainOf_H4 xList yOut1 y1 x1 a)) ?_ ?_)
     ·intro a h
      refine Wp.region (lO 16 (.one (.ptr (.box 6) 1 [] 1)) (lO 17 (I x1.Size) (lO 18 (B (x1.Size != 0)) (lO 19 (B (x1.Size != 0)) (LWp.sp h 19 (fun h => ?_) (fun h => ?_))))))
      ·refine lH 20 ?_
       refine lH 21 (lH 22 (lH 23 (lH 24 (lO 25 (B true) (lZ ?_)))))
       cases h
       exact ⟨_, rfl, rfl, rfl⟩
      refine lO 20 (.one (.ptr (.box 6) 1 [] 2)) (lO 21 (Y x1.Text) (lO 22 (I (sln x1.Text)) (LWp.cl h 23 (fun v1 => (B v1)) rfl (l := [.sv (.one (.int .i64 (sln x1.Text))), .sv (.one (.int .i64 1)), .sv (.one (.int .i64 31))]) rfl (fun v hv => i_in_t (sln x1.Text) 1 31 v hv) (.inl rfl) ?_)))
      intro v1 gv1 h
      refine lO 24 (B (!v1)) (lO 25 (B (!v1)) (lZ ?_))
      cases h
      exact ⟨_, rfl, rfl, rfl⟩
     intro j2 h E hE
     refine nt_wp hE ?_
     change Wp _ _ _ (i_PlainOf_H4 xList yOut1 y1 x1 j2) _
     refine Wp.c h (fun h => ?_) (fun h => ?_)
     ·refine wr ?_
      refine lO 2 (Y (bs [])) (lO 3 (B false) (lZ ?_))
      cases h
      replace h : some _ = some _ := hk2
      cases h
      replace h : some _ = some _ := hk1 _ rfl
      cases h
      exact Wp.ret ⟨.inr rfl, _, _, rfl, rfl⟩
     refine Wp.skip (Wp.region (lO 26 (.one (.view (.slot 4) 0 [] 0)) (lO 27 (.one (.ptr (.box 6) 0 [] 2)) (lO 28 (Y x1.Text) (LWp.pm h [(.slot 4, [.junk])] 29 (fun q1 => (.one (.sl true 5 1 (encs c5 q1)))) ?_ (fun q1 gq1 => s_aps (fun _ => rfl) [(.slot 4, [.junk])] yOut1 gq1))))))
     intro q1 gq1 h
     refine LWp.m true [(.slot 29, [.junk])] 4 (.one (.sl true 5 1 (encs c5 q1))) (lZ ?_)
     cases h
     exact ⟨_, rfl, rfl, rfl⟩
    refine Wp.seq (Wp.seq (Wp.j1 h [4, 6, 7, 8, 9, 46] [.box 6] (fun a => (i_PlainOf_H5 xList yOut1 y1 x1 a)) ?_ ?_))
    ·intro a h
     refine Wp.region (lO 30 (.one (.ptr (.box 6) 1 [] 0)) (lO 31 (I x1.Back) (lO 32 (.one (.view (.slot 4) 0 [] 0)) (lO 33 (I (ln yOut1)) (LWp.cl h 34 (fun v2 => (B v2)) rfl (l := [.sv (.one (.int .i64 x1.Back)), .sv (.one (.int .i64 1)), .sv (.one (.int .i64 (ln yOut1)))]) rfl (fun v hv => i_in_t x1.Back 1 (ln yOut1) v hv) (.inl rfl) ?_) (st_pure (p_ln k5 yOut1))))))
     intro v2 gv2 h
     refine lO 35 (B (!v2)) (lO 36 (B (!v2)) (LWp.sp h 36 (fun h => ?_) (fun h => ?_)))
     ·refine lH 37 ?_
      refine lH 38 (lH 39 (lH 40 (lO 41 (B true) (lO 42 (B true) (lH 43 (lH 44 (lH 45 (lO 46 (B true) (lZ ?_)))))))))
      cases h
      exact ⟨_, rfl, rfl, rfl⟩
     refine lO 37 (.one (.ptr (.box 6) 1 [] 1)) (lO 38 (I x1.Size) (LWp.cl h 39 (fun v3 => (B v3)) rfl (l := [.sv (.one (.int .i64 x1.Size)), .sv (.one (.int .i64 1)), .sv (.one (.int .i64 31))]) rfl (fun v hv => i_in_t x1.Size 1 31 v hv) (.inl rfl) ?_))
     intro v3 gv3 h
     refine lO 40 (B (!v3)) (lO 41 (B (!v3)) (lO 42 (B (!v3)) (LWp.sp h 42 (fun h => ?_) (fun h => ?_))))
     ·refine lH 43 ?_
      refine lH 44 (lH 45 (lO 46 (B true) (lZ ?_)))
      cases h
      exact ⟨_, rfl, rfl, rfl⟩
     refine lO 43 (.one (.ptr (.box 6) 1 [] 2)) (lO 44 (Y x1.Text) (lO 45 (B (!(seq x1.Text (bs [])))) (lO 46 (B (!(seq x1.Text (bs [])))) (lZ ?_))))
     cases h
     exact ⟨_, rfl, rfl, rfl⟩
    intro j3 h E hE
    refine nt_wp hE ?_
    change Wp _ _ _ (i_PlainOf_H5 xList yOut1 y1 x1 j3) _
    refine Wp.c h (fun h => ?_) (fun h => ?_)
    ·refine wr ?_
     refine lO 2 (Y (bs [])) (lO 3 (B false) (lZ ?_))
     cases h
     replace h : some _ = some _ := hk2
     cases h
     replace h : some _ = some _ := hk1 _ rfl
     cases h
     exact Wp.ret ⟨.inr rfl, _, _, rfl, rfl⟩
    refine Wp.skip (wr (lO 47 (.one (.ptr (.box 6) 0 [] 1)) (lO 48 (I x1.Size) (lO 49 (I 0) (lZ (Wp.l1 h [4, 6, 7, 8, 9, 48, 49] [.box 6] (fun s => (i_PlainOf_H6 xList y1 x1 s.1 s.2)) [4, 7, 8, 9] [] (fun s => (i_PlainOf_H7 xList y1 s)) ⟨rfl, rfl⟩ ?_ ?_))))))
    ·rintro ⟨yOut2, y2⟩ o (h : i_PlainOf_b2 x1 yOut2 y2 = some o)
     unfold i_PlainOf_b2 at h
     change Wp _ _ _ (i_PlainOf_H6 xList y1 x1 yOut2 y2) _
     refine wr (lO 50 (B (decide (y2 < x1.Size))) (lZ (Wp.seq (Wp.c h (fun h => ?_) (fun h => ?_)))))
     ·refine Wp.skip ?_
      refine Wp.seq (Wp.block (Wp.region (lO 51 (.one (.view (.slot 4) 0 [] 0)) (lO 52 (.one (.view (.slot 4) 0 [] 0)) (lO 53 (.one (.view (.slot 4) 0 [] 0)) (lO 54 (I (ln yOut2)) (lO 55 (.one (.ptr (.box 6) 0 [] 0)) (lO 56 (I x1.Back) (lO 57 (I (sb (ln yOut2) x1.Back)) ?_))) (st_pure (p_ln k5 yOut2))))))))
      refine LWp.p h 58 (fun _ => (.one (.ptr (.slot 4) 0 [0] (Int.toNat (sb (ln yOut2) x1.Back) * 1 + 0)))) ?_ (fun x2 gx2 => st_pure (p_ix k5 (.slot 4) [] 0 gx2))
      intro x2 gx2 h
      refine lO 59 (.one (.int .u8 x2)) (LWp.m false [] 60 (.one (.sl true 5 1 (encs c5 [x2]))) (LWp.pm h [(.slot 4, [.junk])] 61 (fun q2 => (.one (.sl true 5 1 (encs c5 q2)))) ?_ (fun q2 gq2 => s_apl k5 (fun _ => rfl) [(.slot 4, [.junk])] yOut2 gq2))) (st_pure (p_lc k5 (.slot 4) [0] 0 (.int .u8 x2) gx2))
      intro q2 gq2 h
      refine LWp.m true [(.slot 61, [.junk])] 4 (.one (.sl true 5 1 (encs c5 q2))) (lZ (Wp.region (lO 62 (I (ad y2 1)) (lO 49 (I (ad y2 1)) (lZ ?_)))))
      cases h
      exact ⟨_, rfl, rfl, rfl⟩
     refine Wp.exit ?_
     cases h
     exact ⟨_, rfl, rfl, rfl⟩
    intro v4 h E hE
    cases h
    exact ⟨_, rfl, hE⟩
   intro j1 h E hE
   refine nt_wp hE ?_
   change Wp _ _ _ (i_PlainOf_H3 xList y1 j1) _
   refine wr (lO 63 (.one (.view (.slot 4) 0 [] 0)) (lO 64 (I (ln j1)) (lO 65 (B (decide ((ln j1) > 64))) (lZ (Wp.c h (fun h => ?_) (fun h => ?_)))) (st_pure (p_ln k5 j1))))
   ·refine wr ?_
    refine lO 2 (Y (bs [])) (lO 3 (B false) (lZ ?_))
    cases h
    replace h : some _ = some _ := hk1 _ rfl
    cases h
    exact Wp.ret ⟨.inr rfl, _, _, rfl, rfl⟩
   refine Wp.skip (Wp.region (lO 66 (I (ad y1 1)) (lO 9 (I (ad y1 1)) (lZ ?_))))
   cases h
   exact ⟨_, rfl, rfl, rfl⟩
  refine Wp.exit ?_
  cases h
  exact ⟨_, rfl, rfl, rfl⟩
 intro v5 h E hE
 refine nt_wp hE ?_
 change Wp _ _ _ (i_PlainOf_H2 v5) _
 refine wr (lO 67 (.one (.view (.slot 4) 0 [] 0)) (lO 68 (Y (strB v5)) (lO 2 (Y (strB v5)) (lO 3 (B true) (lZ ?_))) (st_pure (p_cv (fun _ => rfl) v5))))
 cases h
 exact Wp.ret ⟨.inr rfl, _, _, rfl, rfl⟩
def i_matchAt_H1 (xS : ByteArray) (xAt : Int) (z1 : Int) (z2 : Int) (z3 : Int) : St := mkSt [(0, (Y xS)), (1, (I xAt)), (6, (I z1)), (7, (I z2)), (8, (I z3))] []
def i_matchAt_H2 (z4 : Int) (z5 : Int) : St := mkSt [(6, (I z4)), (7, (I z5))] []
def i_matchAt_H3 (xS : ByteArray) (xAt : Int) (ySize1 : Int) (yBack1 : Int) (yFrom1 : Int) (z6 : Int) : St := mkSt [(0, (Y xS)), (1, (I xAt)), (6, (I ySize1)), (7, (I yBack1)), (8, (I yFrom1)), (9, (I z6))] []
def i_matchAt_H4 (xS : ByteArray) (xAt : Int) (ySize1 : Int) (yBack1 : Int) (yFrom1 : Int) (z7 : Int) : St := mkSt [(0, (Y xS)), (1, (I xAt)), (6, (I ySize1)), (7, (I yBack1)), (8, (I yFrom1)), (9, (I z7))] []
def i_matchAt_H5 (xS : ByteArray) (xAt : Int) (ySize1 : Int) (yBack1 : Int) (yFrom1 : Int) (yN1 : Int) (z8 : Bool) : St := mkSt [(0, (Y xS)), (1, (I xAt)), (6, (I ySize1)), (7, (I yBack1)), (8, (I yFrom1)), (9, (I yN1)), (38, (B z8))] []
def i_matchAt_H6 (xS : ByteArray) (xAt : Int) (ySize1 : Int) (yBack1 : Int) (yFrom1 : Int) (v1 : Int) (z9 : Bool) : St := mkSt [(0, (Y xS)), (1, (I xAt)), (6, (I ySize1)), (7, (I yBack1)), (8, (I yFrom1)), (9, (I v1)), (47, (B z9))] []
theorem i_matchAt_t (xS : ByteArray) (xAt : Int) (r : Int × Int) (h : i_matchAt xS xAt = some r) : Gives Tryz.prog 163 [.sv (Y xS), .sv (I xAt)] (.tup [(I r.1), (I r.2)]) (List.replicate 2 .gone) := by
 unfold i_matchAt at h
 refine gives_of Tryz.func163 rfl ?_
 rw [Tryz.ntmps163]
 refine wr (lO 4 (I 0) (lO 5 (I 0) (lZ (wr (lO 6 (I 0) (lO 7 (I 0) (lZ (Wp.seq (wr ?_)))))))))
 refine lO 10 (I xAt) (lO 11 (I (sb xAt 1)) (lO 8 (I (sb xAt 1)) (lZ (Wp.l1 h [0, 1, 6, 7, 8] [] (fun s => (i_matchAt_H1 xS xAt s.1 s.2.1 s.2.2)) [6, 7] [] (fun s => (i_matchAt_H2 s.1 s.2)) ⟨rfl, rfl⟩ ?_ ?_))))
 ·rintro ⟨ySize1, yBack1, yFrom1⟩ o (h : i_matchAt_b1 xS xAt ySize1 yBack1 yFrom1 = some o)
  unfold i_matchAt_b1 at h
  change Wp _ _ _ (i_matchAt_H1 xS xAt ySize1 yBack1 yFrom1) _
  refine Wp.seq (wr (lO 12 (I yFrom1) (lO 13 (B (decide (yFrom1 ≥ 0))) (lZ (Wp.c h (fun h => ?_) (fun h => ?_))))))
  ·refine Wp.skip ?_
   refine Wp.seq (Wp.block (wr (lO 9 (I 0) (lZ (Wp.seq (Wp.l1 h [0, 1, 6, 7, 8, 9] [] (fun s => (i_matchAt_H3 xS xAt ySize1 yBack1 yFrom1 s)) [0, 1, 6, 7, 8, 9] [] (fun s => (i_matchAt_H4 xS xAt ySize1 yBack1 yFrom1 s)) ⟨rfl, rfl⟩ ?_ ?_))))))
   ·rintro yN1 o (h : i_matchAt_b2 xS xAt yFrom1 yN1 = some o)
    unfold i_matchAt_b2 at h
    change Wp _ _ _ (i_matchAt_H3 xS xAt ySize1 yBack1 yFrom1 yN1) _
    refine Wp.seq (Wp.seq (Wp.j1 h [0, 1, 6, 7, 8, 9, 38] [] (fun a => (i_matchAt_H5 xS xAt ySize1 yBack1 yFrom1 yN1 a)) ?_ ?_))
    ·intro a h
     refine Wp.regionS mixed (by decide +kernel) (SWp.o 16 (I yN1) (SWp.o 17 (B (decide (yN1 < 31))) (SWp.o 18 (B (decide (yN1 < 31))) (SWp.sp h 18 (fun h => ?_) (fun h => ?_)))))
     ·refine SWp.o 19 (I xAt) ?_
      refine SWp.o 20 (I yN1) (SWp.o 21 (I (ad xAt yN1)) (SWp.o 22 (Y xS) (SWp.o 23 (I (sln xS)) (SWp.o 24 (B (decide ((ad xAt yN1) < (sln xS)))) (SWp.o 25 (B (decide ((ad xAt yN1) < (sln xS)))) (SWp.o 26 (B (decide ((ad xAt yN1) < (sln xS)))) (SWp.sp h 26 (fun h => ?_) (fun h => ?_))))))))
      ·refine SWp.o 27 (Y xS) ?_
       refine SWp.o 28 (I yFrom1) (SWp.o 29 (I yN1) (SWp.o 30 (I (ad yFrom1 yN1)) (SWp.p h 31 (fun x1 => (.one (.int .u8 x1))) ?_ (fun x1 gx1 => sl_pure (p_sx gx1)))))
       intro x1 gx1 h
       refine SWp.o 32 (Y xS) (SWp.o 33 (I xAt) (SWp.o 34 (I yN1) (SWp.o 35 (I (ad xAt yN1)) (SWp.p h 36 (fun x2 => (.one (.int .u8 x2))) ?_ (fun x2 gx2 => sl_pure (p_sx gx2))))))
       intro x2 gx2 h
       refine SWp.o 37 (B (x1 == x2)) (SWp.o 38 (B (x1 == x2)) (SWp.nil ?_))
       cases h
       exact ⟨_, rfl, rfl, rfl⟩
      refine SWp.sh 27 (SWp.sh 28 (SWp.sh 29 (SWp.sh 30 (SWp.sh 31 (SWp.sh 32 (SWp.sh 33 (SWp.sh 34 (SWp.sh 35 (SWp.sh 36 ?_)))))))))
      refine SWp.sh 37 (SWp.o 38 (B false) (SWp.nil ?_))
      cases h
      exact ⟨_, rfl, rfl, rfl⟩
     refine SWp.sh 19 (SWp.sh 20 (SWp.sh 21 (SWp.sh 22 (SWp.sh 23 (SWp.sh 24 (SWp.o 25 (B false) (SWp.o 26 (B false) (SWp.sh 27 (SWp.sh 28 ?_)))))))))
     refine SWp.sh 29 (SWp.sh 30 (SWp.sh 31 (SWp.sh 32 (SWp.sh 33 (SWp.sh 34 (SWp.sh 35 (SWp.sh 36 (SWp.sh 37 (SWp.o 38 (B false) ?_)))))))))
     refine SWp.nil ?_
     cases h
     exact ⟨_, rfl, rfl, rfl⟩
    intro j1 h E hE
    refine nt_wp hE ?_
    change Wp _ _ _ (i_matchAt_H5 xS xAt ySize1 yBack1 yFrom1 yN1 j1) _
    refine Wp.c h (fun h => ?_) (fun h => ?_)
    ·refine Wp.skip ?_
     refine Wp.block (Wp.region (lO 39 (I yN1) (lO 40 (I (ad yN1 1)) (lO 9 (I (ad yN1 1)) (lZ ?_)))))
     cases h
     exact ⟨_, rfl, rfl, rfl⟩
    refine Wp.exit ?_
    cases h
    exact ⟨_, rfl, rfl, rfl⟩
   intro v1 h E hE
   refine nt_wp hE ?_
   change Wp _ _ _ (i_matchAt_H4 xS xAt ySize1 yBack1 yFrom1 v1) _
   refine Wp.seq (Wp.j1 h [0, 1, 6, 7, 8, 9, 47] [] (fun a => (i_matchAt_H6 xS xAt ySize1 yBack1 yFrom1 v1 a)) ?_ ?_)
   ·intro a h
    refine Wp.region (lO 41 (I v1) (lO 42 (B (decide (v1 ≥ 4))) (lO 43 (B (decide (v1 ≥ 4))) (LWp.sp h 43 (fun h => ?_) (fun h => ?_)))))
    ·refine lO 44 (I v1) ?_
     refine lO 45 (I ySize1) (lO 46 (B (decide (v1 > ySize1))) (lO 47 (B (decide (v1 > ySize1))) (lZ ?_)))
     cases h
     exact ⟨_, rfl, rfl, rfl⟩
    refine lH 44 (lH 45 (lH 46 (lO 47 (B false) (lZ ?_))))
    cases h
    exact ⟨_, rfl, rfl, rfl⟩
   intro j2 h E hE
   refine nt_wp hE ?_
   change Wp _ _ _ (i_matchAt_H6 xS xAt ySize1 yBack1 yFrom1 v1 j2) _
   refine Wp.c h (fun h => ?_) (fun h => ?_)
   ·refine Wp.region ?_
    refine lO 48 (I v1) (lO 49 (I xAt) (lO 50 (I yFrom1) (lO 51 (I (sb xAt yFrom1)) (lO 6 (I v1) (lO 7 (I (sb xAt yFrom1)) (lZ (Wp.region (lO 14 (I yFrom1) (lO 15 (I (sb yFrom1 1)) ?_)))))))))
    refine lO 8 (I (sb yFrom1 1)) (lZ ?_)
    cases h
    exact ⟨_, rfl, rfl, rfl⟩
   refine Wp.skip (Wp.region (lO 14 (I yFrom1) (lO 15 (I (sb yFrom1 1)) (lO 8 (I (sb yFrom1 1)) (lZ ?_)))))
   cases h
   exact ⟨_, rfl, rfl, rfl⟩
  refine Wp.exit ?_
  cases h
  exact ⟨_, rfl, rfl, rfl⟩
 intro v2 h E hE
 refine nt_wp hE ?_
 change Wp _ _ _ (i_matchAt_H2 v2.1 v2.2) _
 refine wr (lO 52 (I v2.1) (lO 53 (I v2.2) (lO 4 (I v2.1) (lO 5 (I v2.2) (lZ ?_)))))
 cases h
 exact Wp.ret ⟨.inr rfl, _, _, rfl, rfl⟩
def i_TokensOf_H1 (xS : ByteArray) (z1 : List Token) (z2 : Int) : St := mkSt [(0, (Y xS)), (3, (.one (.sl true 171 3 (encs c171 z1)))), (4, (I z2))] []
def i_TokensOf_H2 (z3 : List Token) : St := mkSt [(3, (.one (.sl true 171 3 (encs c171 z3))))] []
def i_TokensOf_H3 (xS : ByteArray) (yOut1 : List Token) (yAt1 : Int) (z4 : Bool) : St := mkSt [(0, (Y xS)), (3, (.one (.sl true 171 3 (encs c171 yOut1)))), (4, (I yAt1)), (7, (I (sb (ln yOut1) 1))), (53, (B z4))] []
def i_TokensOf_H4 (xS : ByteArray) (yAt1 : Int) (z5 : List Token) (z6 : Int) : St := mkSt [(0, (Y xS)), (3, (.one (.sl true 171 3 (encs c171 z5)))), (4, (I yAt1)), (7, (I z6))] []
theorem i_TokensOf_t (xS : ByteArray) (r : List Token) (h : i_TokensOf xS = some r) : Gives Tryz.prog 116 [.sv (Y xS)] (.one (.sl true 171 3 (encs c171 r))) (List.replicate 1 .gone) := by
 unfold i_TokensOf at h
 refine gives_of Tryz.func116 rfl ?_
 rw [Tryz.ntmps116]
 refine wr (lO 2 (.one (.sl true 171 3 (encs c171 []))) (lZ (Wp.seq (wr (lO 8 (Y xS) (lO 9 (I (sln xS)) (lO 10 (B (decide ((sln xS) > 64))) (lZ (Wp.c h (fun h => ?_) (fun h => ?_))))))))))
 ·refine wr ?_
  refine lO 2 (.one (.sl true 171 3 (encs c171 []))) (lZ ?_)
  cases h
  exact Wp.ret ⟨.inr rfl, _, _, rfl, rfl⟩
 refine Wp.skip (wr (lO 3 (.one (.sl true 171 3 (encs c171 []))) (lZ (Wp.seq (wr (lO 4 (I 0) (lZ (Wp.l1 h [0, 3, 4] [] (fun s => (i_TokensOf_H1 xS s.1 s.2)) [3] [] (fun s => (i_TokensOf_H2 s)) ⟨rfl, rfl⟩ ?_ ?_))))))))
 ·rintro ⟨yOut1, yAt1⟩ o (h : i_TokensOf_b1 xS yOut1 yAt1 = some o)
  unfold i_TokensOf_b1 at h
  change Wp _ _ _ (i_TokensOf_H1 xS yOut1 yAt1) _
  refine Wp.seq (wr (lO 11 (I yAt1) (lO 12 (Y xS) (lO 13 (I (sln xS)) (lO 14 (B (decide (yAt1 < (sln xS)))) (lZ (Wp.c h (fun h => ?_) (fun h => ?_))))))))
  ·refine Wp.skip ?_
   refine Wp.block (wr (lO 16 (Y xS) (lO 17 (I yAt1) (LWp.cl h 18 (fun v1 => (.tup [(I v1.1), (I v1.2)])) rfl (l := [.sv (.one (.str xS)), .sv (.one (.int .i64 yAt1))]) rfl (fun v hv => i_matchAt_t xS yAt1 v hv) (.inl rfl) ?_))))
   intro v1 gv1 h
   refine LWp.mt 18 15 (.tup [(I v1.1), (I v1.2)]) (LWp.e 15 0 19 (I v1.1) (LWp.e 15 1 20 (I v1.2) (lO 5 (I v1.1) (lO 6 (I v1.2) (lZ (Wp.seq (wr (lO 21 (I v1.1) (lO 22 (B (decide (v1.1 > 0))) ?_)))))))))
   refine lZ (Wp.c h (fun h => ?_) (fun h => ?_))
   ·refine wr ?_
    refine lO 23 (.one (.view (.slot 3) 0 [] 0)) (lO 24 (I v1.2) (lO 25 (I v1.1) (lO 26 (.agg [.int .i64 v1.2, .int .i64 v1.1, .str (bs [])]) (LWp.m false [] 27 (.one (.sl true 171 3 (encs c171 [(Token.mk v1.2 v1.1 (bs []))]))) (LWp.pm h [(.slot 3, [.junk])] 28 (fun q1 => (.one (.sl true 171 3 (encs c171 q1)))) ?_ (fun q1 gq1 => s_apl k171 (fun _ => rfl) [(.slot 3, [.junk])] yOut1 gq1))))))
    intro q1 gq1 h
    refine LWp.m true [(.slot 28, [.junk])] 3 (.one (.sl true 171 3 (encs c171 q1))) (lZ (wr (lO 29 (I yAt1) (lO 30 (I v1.1) (lO 31 (I (ad yAt1 v1.1)) (lO 4 (I (ad yAt1 v1.1)) (lZ (Wp.exit ?_))))))))
    cases h
    exact ⟨_, rfl, rfl, rfl⟩
   refine Wp.skip (wr (lO 32 (.one (.view (.slot 3) 0 [] 0)) (lO 33 (I (ln yOut1)) (lO 34 (I (sb (ln yOut1) 1)) (lO 7 (I (sb (ln yOut1) 1)) (lZ (Wp.seq (Wp.seq (Wp.j1 h [0, 3, 4, 7, 53] [] (fun a => (i_TokensOf_H3 xS yOut1 yAt1 a)) ?_ ?_)))))) (st_pure (p_ln k171 yOut1)))))
   ·intro a h
    refine Wp.region (lO 35 (I (sb (ln yOut1) 1)) (lO 36 (B (decide ((sb (ln yOut1) 1) < 0))) (lO 37 (B (decide ((sb (ln yOut1) 1) < 0))) (LWp.sp h 37 (fun h => ?_) (fun h => ?_)))))
    ·refine lH 38 ?_
     refine lH 39 (lH 40 (lH 41 (lH 42 (lH 43 (lO 44 (B true) (lO 45 (B true) (lH 46 (lH 47 (lH 48 ?_)))))))))
     refine lH 49 (lH 50 (lH 51 (lH 52 (lO 53 (B true) (lZ ?_)))))
     cases h
     exact ⟨_, rfl, rfl, rfl⟩
    refine lO 38 (.one (.view (.slot 3) 0 [] 0)) (lO 39 (I (sb (ln yOut1) 1)) (LWp.p h 40 (fun _ => (.one (.ptr (.slot 3) 0 [0] (Int.toNat (sb (ln yOut1) 1) * 3 + 0)))) ?_ (fun x1 gx1 => st_pure (p_ix k171 (.slot 3) [] 0 gx1))))
    intro x1 gx1 h
    refine lO 41 (.one (.ptr (.slot 3) 0 [0] (Int.toNat (sb (ln yOut1) 1) * 3 + 0))) (lO 42 (I x1.Back) (lO 43 (B (decide (x1.Back > 0))) (lO 44 (B (decide (x1.Back > 0))) (lO 45 (B (decide (x1.Back > 0))) (LWp.sp h 45 (fun h => ?_) (fun h => ?_))))) (st_pure (p_lc k171 (.slot 3) [0] 0 (.int .i64 x1.Back) gx1))) (st_pure (p_fa k171 (.slot 3) [0] 0 gx1))
    ·refine lH 46 ?_
     refine lH 47 (lH 48 (lH 49 (lH 50 (lH 51 (lH 52 (lO 53 (B true) (lZ ?_)))))))
     cases h
     exact ⟨_, rfl, rfl, rfl⟩
    refine lO 46 (.one (.view (.slot 3) 0 [] 0)) (lO 47 (I (sb (ln yOut1) 1)) (LWp.p h 48 (fun _ => (.one (.ptr (.slot 3) 0 [0] (Int.toNat (sb (ln yOut1) 1) * 3 + 0)))) ?_ (fun x2 gx2 => st_pure (p_ix k171 (.slot 3) [] 0 gx2))))
    intro x2 gx2 h
    refine lO 49 (.one (.ptr (.slot 3) 0 [0] (Int.toNat (sb (ln yOut1) 1) * 3 + 2))) (lO 50 (Y x2.Text) (lO 51 (I (sln x2.Text)) (lO 52 (B (decide ((sln x2.Text) ≥ 31))) (lO 53 (B (decide ((sln x2.Text) ≥ 31))) (lZ ?_)))) (st_pure (p_lc k171 (.slot 3) [0] 2 (.str x2.Text) gx2))) (st_pure (p_fa k171 (.slot 3) [0] 0 gx2))
    cases h
    exact ⟨_, rfl, rfl, rfl⟩
   intro j1 h E hE
   refine nt_wp hE ?_
   change Wp _ _ _ (i_TokensOf_H3 xS yOut1 yAt1 j1) _
   refine Wp.j1 h [0, 3, 4, 7] [] (fun a => (i_TokensOf_H4 xS yAt1 a.1 a.2)) ?_ ?_
   ·intro a h
    refine Wp.c h (fun h => ?_) (fun h => ?_)
    ·refine wr ?_
     refine lO 54 (.one (.view (.slot 3) 0 [] 0)) (lO 55 (.agg [.int .i64 0, .int .i64 0, .str (bs [])]) (LWp.m false [] 56 (.one (.sl true 171 3 (encs c171 [(Token.mk 0 0 (bs []))]))) (LWp.pm h [(.slot 3, [.junk])] 57 (fun q2 => (.one (.sl true 171 3 (encs c171 q2)))) ?_ (fun q2 gq2 => s_apl k171 (fun _ => rfl) [(.slot 3, [.junk])] yOut1 gq2))))
     intro q2 gq2 h
     refine LWp.m true [(.slot 57, [.junk])] 3 (.one (.sl true 171 3 (encs c171 q2))) (lZ (Wp.region (lO 58 (I (sb (ln yOut1) 1)) (lO 59 (I (ad (sb (ln yOut1) 1) 1)) (lO 7 (I (ad (sb (ln yOut1) 1) 1)) (lZ ?_))))))
     cases h
     exact ⟨_, rfl, rfl, rfl⟩
    refine Wp.skip ?_
    cases h
    exact ⟨_, rfl, rfl, rfl⟩
   intro j2 h E hE
   refine nt_wp hE ?_
   change Wp _ _ _ (i_TokensOf_H4 xS yAt1 j2.1 j2.2) _
   refine Wp.seq (Wp.regionT 13 mixed (by decide +kernel) (SWp.o 60 (.one (.view (.slot 3) 0 [] 0)) (SWp.o 61 (I j2.2) (SWp.p h 62 (fun _ => (.one (.ptr (.slot 3) 0 [0] (Int.toNat j2.2 * 3 + 0)))) ?_ (fun x3 gx3 => sl_pure (p_ix k171 (.slot 3) [] 0 gx3))))))
   intro x3 gx3 h
   refine SWp.o 63 (.one (.ptr (.slot 3) 0 [0] (Int.toNat j2.2 * 3 + 2))) (SWp.o 64 (Y x3.Text) (SWp.o 65 (Y xS) (SWp.o 66 (I yAt1) (SWp.o 67 (I yAt1) (SWp.o 68 (I (ad yAt1 1)) (SWp.p h 69 (fun x4 => (Y x4)) ?_ (fun x4 gx4 => sl_pure (p_sub gx4))))))) (sl_pure (p_lc k171 (.slot 3) [0] 2 (.str x3.Text) gx3))) (sl_pure (p_fa k171 (.slot 3) [0] 0 gx3))
   intro x4 gx4 h
   refine SWp.p h 70 (fun x5 => (Y x5)) ?_ (fun x5 gx5 => sl_pure (p_cat gx5))
   intro x5 gx5 h
   refine SWp.p h 71 (fun _ => (.one (.ptr (.slot 3) 0 [0] (Int.toNat j2.2 * 3 + 0)))) ?_ (fun x6 gx6 => sl_pure (p_ix k171 (.slot 3) [] 0 gx6))
   intro x6 gx6 h
   refine SWp.o 72 (.one (.ptr (.slot 3) 0 [0] (Int.toNat j2.2 * 3 + 2))) (SWp.nil (LWp.sb [] (.slot 3) [.sl true 171 3 (encs c171 (si j2.1 j2.2 (Token.mk x6.Back x6.Size x5)))] (lZ (Wp.region (lO 73 (I yAt1) (lO 74 (I (ad yAt1 1)) (lO 4 (I (ad yAt1 1)) (lZ ?_)))))) (s_st [] (q := [0]) (cs := [.sl true 171 3 (encs c171 j2.1)]) (xs := [.str x5]) (At.one (setRow_gi k171 (k := 2) (z := (Token.mk x6.Back x6.Size x5)) gx6 rfl rfl)) (fit_gi k171 (k := 2) gx6 rfl)))) (sl_pure (p_fa k171 (.slot 3) [0] 0 gx6))
   cases h
   exact ⟨_, rfl, rfl, rfl⟩
  refine Wp.exit ?_
  cases h
  exact ⟨_, rfl, rfl, rfl⟩
 intro v2 h E hE
 refine nt_wp hE ?_
 change Wp _ _ _ (i_TokensOf_H2 v2) _
 refine wr (lO 75 (.one (.view (.slot 3) 0 [] 0)) (LWp.m true [(.slot 3, [.junk])] 2 (.one (.sl true 171 3 (encs c171 v2))) (lZ ?_)))
 cases h
 exact Wp.ret ⟨.inr rfl, _, _, rfl, rfl⟩
end Go.TI
