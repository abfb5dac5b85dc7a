/- That they compute it. No condition. -/
import Derived.Test.YtcjepealfaimfaaGreatMDW2
namespace Go.TI
set_option maxRecDepth 100000
open Go Go.Proofs
set_option linter.unusedVariables false
set_option linter.unusedSimpArgs false

theorem w_eqKnot_t (xA : Knot) (xB : Knot) (r : Bool) (h : w_eqKnot xA xB = some r) : Gives Tryz.prog 178 [.sv (.agg [.bool xA.Leaf, .sl false 3 1 (encs c3 xA.Kids)]), .sv (.agg [.bool xB.Leaf, .sl false 3 1 (encs c3 xB.Kids)])] (B r) (List.replicate 2 .gone) := by
 unfold w_eqKnot at h
 refine gives_of Tryz.func178 rfl ?_
 rw [Tryz.ntmps178]
 refine Wp.seq (Wp.region ?_)
 refine LWp.b [] 2 [.bool xA.Leaf, .sl false 3 1 (encs c3 xA.Kids)] ?_
 refine LWp.b [] 3 [.bool xB.Leaf, .sl false 3 1 (encs c3 xB.Kids)] ?_
 refine LWp.o 4 (B false) ?_
 refine LWp.nil ?_
 refine Wp.seq ?_
 refine Wp.seq (Wp.region ?_)
 refine LWp.o 5 (.one (.ptr (.box 2) 1 [] 0)) ?_
 refine LWp.o 6 (B xA.Leaf) ?_
 refine LWp.o 7 (.one (.ptr (.box 3) 1 [] 0)) ?_
 refine LWp.o 8 (B xB.Leaf) ?_
 refine LWp.o 9 (B (!(xA.Leaf == xB.Leaf))) ?_
 refine LWp.nil ?_
 refine Wp.c h (fun h => ?_) (fun h => ?_)
 · refine Wp.seq (Wp.region ?_)
   refine LWp.o 4 (B false) ?_
   refine LWp.nil ?_
   cases h
   exact Wp.ret ⟨.inr rfl, _, _, rfl, rfl⟩
 refine Wp.skip ?_
 refine Wp.seq ?_
 refine Wp.seq (Wp.region ?_)
 refine LWp.o 10 (.one (.ptr (.box 2) 1 [] 1)) ?_
 refine LWp.o 11 (.one (.sl false 3 1 (encs c3 xA.Kids))) ?_
 refine LWp.o 12 (.one (.ptr (.box 3) 1 [] 1)) ?_
 refine LWp.o 13 (.one (.sl false 3 1 (encs c3 xB.Kids))) ?_
 refine LWp.cl h 14 (fun v1 => (B v1)) rfl (l := [.sv (.one (.sl false 3 1 (encs c3 xA.Kids))), .sv (.one (.sl false 3 1 (encs c3 xB.Kids)))]) rfl (fun v hv => w_eqIntS_t xA.Kids xB.Kids v hv) (.inl rfl) ?_
 intro v1 gv1 h
 refine LWp.o 15 (B (!v1)) ?_
 refine LWp.nil ?_
 refine Wp.c h (fun h => ?_) (fun h => ?_)
 · refine Wp.seq (Wp.region ?_)
   refine LWp.o 4 (B false) ?_
   refine LWp.nil ?_
   cases h
   exact Wp.ret ⟨.inr rfl, _, _, rfl, rfl⟩
 refine Wp.skip ?_
 refine Wp.seq (Wp.region ?_)
 refine LWp.o 4 (B true) ?_
 refine LWp.nil ?_
 cases h
 exact Wp.ret ⟨.inr rfl, _, _, rfl, rfl⟩
def w_eqKnotS_H1 (xA : List Knot) (xB : List Knot) (z1 : Int) : St := mkSt [(0, (.one (.sl false 218 2 (encs (c218 false) xA)))), (1, (.one (.sl false 218 2 (encs (c218 false) xB)))), (5, (I z1))] []
def w_eqKnotS_H2  : St := mkSt [] []
theorem w_eqKnotS_t (xA : List Knot) (xB : List Knot) (r : Bool) (h : w_eqKnotS xA xB = some r) : Gives Tryz.prog 147 [.sv (.one (.sl false 218 2 (encs (c218 false) xA))), .sv (.one (.sl false 218 2 (encs (c218 false) xB)))] (B r) (List.replicate 2 .gone) := by
 unfold w_eqKnotS at h
 refine gives_of Tryz.func147 rfl ?_
 rw [Tryz.ntmps147]
 refine Wp.seq (Wp.region ?_)
 refine LWp.o 4 (B false) ?_
 refine LWp.nil ?_
 refine Wp.seq ?_
 refine Wp.seq (Wp.region ?_)
 refine LWp.o 6 (.one (.sl false 218 2 (encs (c218 false) xA))) ?_
 refine LWp.o 7 (I (ln xA)) ?_ (st_pure (p_ln (k218 false) xA))
 refine LWp.o 8 (.one (.sl false 218 2 (encs (c218 false) xB))) ?_
 refine LWp.o 9 (I (ln xB)) ?_ (st_pure (p_ln (k218 false) xB))
 refine LWp.o 10 (B ((ln xA) != (ln xB))) ?_
 refine LWp.nil ?_
 refine Wp.c h (fun h => ?_) (fun h => ?_)
 · refine Wp.seq (Wp.region ?_)
   refine LWp.o 4 (B false) ?_
   refine LWp.nil ?_
   cases h
   exact Wp.ret ⟨.inr rfl, _, _, rfl, rfl⟩
 refine Wp.skip ?_
 refine Wp.seq ?_
 refine Wp.seq (Wp.region ?_)
 refine LWp.o 5 (I 0) ?_
 refine LWp.nil ?_
 refine Wp.l2 h [0, 1, 5] [] (fun s => (w_eqKnotS_H1 xA xB s)) [] [] (fun _ => w_eqKnotS_H2) ⟨rfl, rfl⟩ ?_ ?_
 · rintro yI1 o (h : w_eqKnotS_b1 xA xB yI1 = some o) hk1
   unfold w_eqKnotS_b1 at h
   change Wp _ _ _ (w_eqKnotS_H1 xA xB yI1) _
   refine Wp.seq ?_
   refine Wp.seq (Wp.region ?_)
   refine LWp.o 11 (I yI1) ?_
   refine LWp.o 12 (.one (.sl false 218 2 (encs (c218 false) xA))) ?_
   refine LWp.o 13 (I (ln xA)) ?_ (st_pure (p_ln (k218 false) xA))
   refine LWp.o 14 (B (decide (yI1 < (ln xA)))) ?_
   refine LWp.nil ?_
   refine Wp.c h (fun h => ?_) (fun h => ?_)
   · refine Wp.skip ?_
     refine Wp.seq ?_
     refine Wp.block ?_
     refine Wp.seq ?_
     refine Wp.regionT 8 mixed (by decide +kernel) ?_
     refine SWp.o 17 (.one (.sl false 218 2 (encs (c218 false) xA))) ?_
     refine SWp.o 18 (I yI1) ?_
     refine SWp.p h 19 (fun _ => (.one (.ptr (.slot 17) 1 [0] (Int.toNat yI1 * 2 + 0)))) ?_ (fun x1 gx1 => sl_pure (p_ix (k218 false) (.slot 17) [] 0 gx1))
     intro x1 gx1 h
     refine SWp.o 20 (.agg [.bool x1.Leaf, .sl false 3 1 (encs c3 x1.Kids)]) ?_ (sl_pure (p_le (k218 false) (.slot 17) [0] gx1))
     refine SWp.o 21 (.one (.sl false 218 2 (encs (c218 false) xB))) ?_
     refine SWp.o 22 (I yI1) ?_
     refine SWp.p h 23 (fun _ => (.one (.ptr (.slot 21) 1 [0] (Int.toNat yI1 * 2 + 0)))) ?_ (fun x2 gx2 => sl_pure (p_ix (k218 false) (.slot 21) [] 0 gx2))
     intro x2 gx2 h
     refine SWp.o 24 (.agg [.bool x2.Leaf, .sl false 3 1 (encs c3 x2.Kids)]) ?_ (sl_pure (p_le (k218 false) (.slot 21) [0] gx2))
     refine SWp.nil ?_
     refine LWp.cl h 25 (fun v1 => (B v1)) rfl (l := [.sv (.agg [.bool x1.Leaf, .sl false 3 1 (encs c3 x1.Kids)]), .sv (.agg [.bool x2.Leaf, .sl false 3 1 (encs c3 x2.Kids)])]) rfl (fun v hv => w_eqKnot_t x1 x2 v hv) (.inl rfl) ?_
     intro v1 gv1 h
     refine LWp.o 26 (B (!v1)) ?_
     refine LWp.nil ?_
     refine Wp.c h (fun h => ?_) (fun h => ?_)
     · refine Wp.seq (Wp.region ?_)
       refine LWp.o 4 (B false) ?_
       refine LWp.nil ?_
       cases h
       replace h : some _ = some _ := hk1 _ rfl
       cases h
       exact Wp.ret ⟨.inr rfl, _, _, rfl, rfl⟩
     refine Wp.skip ?_
     refine Wp.region ?_
     refine LWp.o 15 (I yI1) ?_
     refine LWp.o 16 (I (ad yI1 1)) ?_
     refine LWp.o 5 (I (ad yI1 1)) ?_
     refine LWp.nil ?_
     cases h
     exact ⟨_, rfl, rfl, rfl⟩
   refine Wp.exit ?_
   cases h
   exact ⟨_, rfl, rfl, rfl⟩
 intro v2 h E hE
 refine nt_wp hE ?_
 change Wp _ _ _ w_eqKnotS_H2 _
 refine Wp.seq (Wp.region ?_)
 refine LWp.o 4 (B true) ?_
 refine LWp.nil ?_
 cases h
 exact Wp.ret ⟨.inr rfl, _, _, rfl, rfl⟩
theorem w_eqArena_t (xA : Arena) (xB : Arena) (r : Bool) (h : w_eqArena xA xB = some r) : Gives Tryz.prog 95 [.sv (.agg [.sl false 218 2 (encs (c218 false) xA.Knots)]), .sv (.agg [.sl false 218 2 (encs (c218 false) xB.Knots)])] (B r) (List.replicate 2 .gone) := by
 unfold w_eqArena at h
 refine gives_of Tryz.func95 rfl ?_
 rw [Tryz.ntmps95]
 refine Wp.seq (Wp.region ?_)
 refine LWp.b [] 2 [.sl false 218 2 (encs (c218 false) xA.Knots)] ?_
 refine LWp.b [] 3 [.sl false 218 2 (encs (c218 false) xB.Knots)] ?_
 refine LWp.o 4 (B false) ?_
 refine LWp.nil ?_
 refine Wp.seq ?_
 refine Wp.seq (Wp.region ?_)
 refine LWp.o 5 (.one (.ptr (.box 2) 1 [] 0)) ?_
 refine LWp.o 6 (.one (.sl false 218 2 (encs (c218 false) xA.Knots))) ?_
 refine LWp.o 7 (.one (.ptr (.box 3) 1 [] 0)) ?_
 refine LWp.o 8 (.one (.sl false 218 2 (encs (c218 false) xB.Knots))) ?_
 refine LWp.cl h 9 (fun v1 => (B v1)) rfl (l := [.sv (.one (.sl false 218 2 (encs (c218 false) xA.Knots))), .sv (.one (.sl false 218 2 (encs (c218 false) xB.Knots)))]) rfl (fun v hv => w_eqKnotS_t xA.Knots xB.Knots v hv) (.inl rfl) ?_
 intro v1 gv1 h
 refine LWp.o 10 (B (!v1)) ?_
 refine LWp.nil ?_
 refine Wp.c h (fun h => ?_) (fun h => ?_)
 · refine Wp.seq (Wp.region ?_)
   refine LWp.o 4 (B false) ?_
   refine LWp.nil ?_
   cases h
   exact Wp.ret ⟨.inr rfl, _, _, rfl, rfl⟩
 refine Wp.skip ?_
 refine Wp.seq (Wp.region ?_)
 refine LWp.o 4 (B true) ?_
 refine LWp.nil ?_
 cases h
 exact Wp.ret ⟨.inr rfl, _, _, rfl, rfl⟩
theorem w_eqStore_t (xA : Store) (xB : Store) (r : Bool) (h : w_eqStore xA xB = some r) : Gives Tryz.prog 49 [.sv (.agg [.sl false 110 2 (encs c110 xA.Vols), .sl false 218 2 (encs (c218 false) xA.Arena.Knots), .int .i64 xA.Next]), .sv (.agg [.sl false 110 2 (encs c110 xB.Vols), .sl false 218 2 (encs (c218 false) xB.Arena.Knots), .int .i64 xB.Next])] (B r) (List.replicate 2 .gone) := by
 unfold w_eqStore at h
 refine gives_of Tryz.func49 rfl ?_
 rw [Tryz.ntmps49]
 refine Wp.seq (Wp.region ?_)
 refine LWp.b [] 2 [.sl false 110 2 (encs c110 xA.Vols), .sl false 218 2 (encs (c218 false) xA.Arena.Knots), .int .i64 xA.Next] ?_
 refine LWp.b [] 3 [.sl false 110 2 (encs c110 xB.Vols), .sl false 218 2 (encs (c218 false) xB.Arena.Knots), .int .i64 xB.Next] ?_
 refine LWp.o 4 (B false) ?_
 refine LWp.nil ?_
 refine Wp.seq ?_
 refine Wp.seq (Wp.region ?_)
 refine LWp.o 5 (.one (.ptr (.box 2) 1 [] 0)) ?_
 refine LWp.o 6 (.one (.sl false 110 2 (encs c110 xA.Vols))) ?_
 refine LWp.o 7 (.one (.ptr (.box 3) 1 [] 0)) ?_
 refine LWp.o 8 (.one (.sl false 110 2 (encs c110 xB.Vols))) ?_
 refine LWp.cl h 9 (fun v1 => (B v1)) rfl (l := [.sv (.one (.sl false 110 2 (encs c110 xA.Vols))), .sv (.one (.sl false 110 2 (encs c110 xB.Vols)))]) rfl (fun v hv => w_eqVolS_t xA.Vols xB.Vols v hv) (.inl rfl) ?_
 intro v1 gv1 h
 refine LWp.o 10 (B (!v1)) ?_
 refine LWp.nil ?_
 refine Wp.c h (fun h => ?_) (fun h => ?_)
 · refine Wp.seq (Wp.region ?_)
   refine LWp.o 4 (B false) ?_
   refine LWp.nil ?_
   cases h
   exact Wp.ret ⟨.inr rfl, _, _, rfl, rfl⟩
 refine Wp.skip ?_
 refine Wp.seq ?_
 refine Wp.seq (Wp.region ?_)
 refine LWp.o 11 (.one (.ptr (.box 2) 1 [] 1)) ?_
 refine LWp.o 12 (.agg [.sl false 218 2 (encs (c218 false) xA.Arena.Knots)]) ?_
 refine LWp.o 13 (.one (.ptr (.box 3) 1 [] 1)) ?_
 refine LWp.o 14 (.agg [.sl false 218 2 (encs (c218 false) xB.Arena.Knots)]) ?_
 refine LWp.cl h 15 (fun v2 => (B v2)) rfl (l := [.sv (.agg [.sl false 218 2 (encs (c218 false) xA.Arena.Knots)]), .sv (.agg [.sl false 218 2 (encs (c218 false) xB.Arena.Knots)])]) rfl (fun v hv => w_eqArena_t xA.Arena xB.Arena v hv) (.inl rfl) ?_
 intro v2 gv2 h
 refine LWp.o 16 (B (!v2)) ?_
 refine LWp.nil ?_
 refine Wp.c h (fun h => ?_) (fun h => ?_)
 · refine Wp.seq (Wp.region ?_)
   refine LWp.o 4 (B false) ?_
   refine LWp.nil ?_
   cases h
   exact Wp.ret ⟨.inr rfl, _, _, rfl, rfl⟩
 refine Wp.skip ?_
 refine Wp.seq ?_
 refine Wp.seq (Wp.region ?_)
 refine LWp.o 17 (.one (.ptr (.box 2) 1 [] 2)) ?_
 refine LWp.o 18 (I xA.Next) ?_
 refine LWp.o 19 (.one (.ptr (.box 3) 1 [] 2)) ?_
 refine LWp.o 20 (I xB.Next) ?_
 refine LWp.o 21 (B (xA.Next != xB.Next)) ?_
 refine LWp.nil ?_
 refine Wp.c h (fun h => ?_) (fun h => ?_)
 · refine Wp.seq (Wp.region ?_)
   refine LWp.o 4 (B false) ?_
   refine LWp.nil ?_
   cases h
   exact Wp.ret ⟨.inr rfl, _, _, rfl, rfl⟩
 refine Wp.skip ?_
 refine Wp.seq (Wp.region ?_)
 refine LWp.o 4 (B true) ?_
 refine LWp.nil ?_
 cases h
 exact Wp.ret ⟨.inr rfl, _, _, rfl, rfl⟩
set_option maxHeartbeats 4000000 in
theorem w_eqDevice_t (xA : Device) (xB : Device) (r : Bool) (h : w_eqDevice xA xB = some r) : Gives Tryz.prog 15 [.sv (.agg [.sl false 124 3 (encs (c124 false) xA.Flash.Blocks), .sl false 110 2 (encs c110 xA.Store.Vols), .sl false 218 2 (encs (c218 false) xA.Store.Arena.Knots), .int .i64 xA.Store.Next, .int .i64 xA.Seq, .int .i64 xA.Tx, .int .i64 xA.Base]), .sv (.agg [.sl false 124 3 (encs (c124 false) xB.Flash.Blocks), .sl false 110 2 (encs c110 xB.Store.Vols), .sl false 218 2 (encs (c218 false) xB.Store.Arena.Knots), .int .i64 xB.Store.Next, .int .i64 xB.Seq, .int .i64 xB.Tx, .int .i64 xB.Base])] (B r) (List.replicate 2 .gone) := by
 unfold w_eqDevice at h
 refine gives_of Tryz.func15 rfl ?_
 rw [Tryz.ntmps15]
 refine Wp.seq (Wp.region ?_)
 refine LWp.b [] 2 [.sl false 124 3 (encs (c124 false) xA.Flash.Blocks), .sl false 110 2 (encs c110 xA.Store.Vols), .sl false 218 2 (encs (c218 false) xA.Store.Arena.Knots), .int .i64 xA.Store.Next, .int .i64 xA.Seq, .int .i64 xA.Tx, .int .i64 xA.Base] ?_
 refine LWp.b [] 3 [.sl false 124 3 (encs (c124 false) xB.Flash.Blocks), .sl false 110 2 (encs c110 xB.Store.Vols), .sl false 218 2 (encs (c218 false) xB.Store.Arena.Knots), .int .i64 xB.Store.Next, .int .i64 xB.Seq, .int .i64 xB.Tx, .int .i64 xB.Base] ?_
 refine LWp.o 4 (B false) ?_
 refine LWp.nil ?_
 refine Wp.seq ?_
 refine Wp.seq (Wp.region ?_)
 refine LWp.o 5 (.one (.ptr (.box 2) 1 [] 0)) ?_
 refine LWp.o 6 (.agg [.sl false 124 3 (encs (c124 false) xA.Flash.Blocks)]) ?_
 refine LWp.o 7 (.one (.ptr (.box 3) 1 [] 0)) ?_
 refine LWp.o 8 (.agg [.sl false 124 3 (encs (c124 false) xB.Flash.Blocks)]) ?_
 refine LWp.cl h 9 (fun v1 => (B v1)) rfl (l := [.sv (.agg [.sl false 124 3 (encs (c124 false) xA.Flash.Blocks)]), .sv (.agg [.sl false 124 3 (encs (c124 false) xB.Flash.Blocks)])]) rfl (fun v hv => w_eqFlash_t xA.Flash xB.Flash v hv) (.inl rfl) ?_
 intro v1 gv1 h
 refine LWp.o 10 (B (!v1)) ?_
 refine LWp.nil ?_
 refine Wp.c h (fun h => ?_) (fun h => ?_)
 · refine Wp.seq (Wp.region ?_)
   refine LWp.o 4 (B false) ?_
   refine LWp.nil ?_
   cases h
   exact Wp.ret ⟨.inr rfl, _, _, rfl, rfl⟩
 refine Wp.skip ?_
 refine Wp.seq ?_
 refine Wp.seq (Wp.region ?_)
 refine LWp.o 11 (.one (.ptr (.box 2) 1 [] 1)) ?_
 refine LWp.o 12 (.agg [.sl false 110 2 (encs c110 xA.Store.Vols), .sl false 218 2 (encs (c218 false) xA.Store.Arena.Knots), .int .i64 xA.Store.Next]) ?_
 refine LWp.o 13 (.one (.ptr (.box 3) 1 [] 1)) ?_
 refine LWp.o 14 (.agg [.sl false 110 2 (encs c110 xB.Store.Vols), .sl false 218 2 (encs (c218 false) xB.Store.Arena.Knots), .int .i64 xB.Store.Next]) ?_
 refine LWp.cl h 15 (fun v2 => (B v2)) rfl (l := [.sv (.agg [.sl false 110 2 (encs c110 xA.Store.Vols), .sl false 218 2 (encs (c218 false) xA.Store.Arena.Knots), .int .i64 xA.Store.Next]), .sv (.agg [.sl false 110 2 (encs c110 xB.Store.Vols), .sl false 218 2 (encs (c218 false) xB.Store.Arena.Knots), .int .i64 xB.Store.Next])]) rfl (fun v hv => w_eqStore_t xA.Store xB.Store v hv) (.inl rfl) ?_
 intro v2 gv2 h
 refine LWp.o 16 (B (!v2)) ?_
 refine LWp.nil ?_
 refine Wp.c h (fun h => ?_) (fun h => ?_)
 · refine Wp.seq (Wp.region ?_)
   refine LWp.o 4 (B false) ?_
   refine LWp.nil ?_
   cases h
   exact Wp.ret ⟨.inr rfl, _, _, rfl, rfl⟩
 refine Wp.skip ?_
 refine Wp.seq ?_
 refine Wp.seq (Wp.region ?_)
 refine LWp.o 17 (.one (.ptr (.box 2) 1 [] 4)) ?_
 refine LWp.o 18 (I xA.Seq) ?_
 refine LWp.o 19 (.one (.ptr (.box 3) 1 [] 4)) ?_
 refine LWp.o 20 (I xB.Seq) ?_
 refine LWp.o 21 (B (xA.Seq != xB.Seq)) ?_
 refine LWp.nil ?_
 refine Wp.c h (fun h => ?_) (fun h => ?_)
 · refine Wp.seq (Wp.region ?_)
   refine LWp.o 4 (B false) ?_
   refine LWp.nil ?_
   cases h
   exact Wp.ret ⟨.inr rfl, _, _, rfl, rfl⟩
 refine Wp.skip ?_
 refine Wp.seq ?_
 refine Wp.seq (Wp.region ?_)
 refine LWp.o 22 (.one (.ptr (.box 2) 1 [] 5)) ?_
 refine LWp.o 23 (I xA.Tx) ?_
 refine LWp.o 24 (.one (.ptr (.box 3) 1 [] 5)) ?_
 refine LWp.o 25 (I xB.Tx) ?_
 refine LWp.o 26 (B (xA.Tx != xB.Tx)) ?_
 refine LWp.nil ?_
 refine Wp.c h (fun h => ?_) (fun h => ?_)
 · refine Wp.seq (Wp.region ?_)
   refine LWp.o 4 (B false) ?_
   refine LWp.nil ?_
   cases h
   exact Wp.ret ⟨.inr rfl, _, _, rfl, rfl⟩
 refine Wp.skip ?_
 refine Wp.seq ?_
 refine Wp.seq (Wp.region ?_)
 refine LWp.o 27 (.one (.ptr (.box 2) 1 [] 6)) ?_
 refine LWp.o 28 (I xA.Base) ?_
 refine LWp.o 29 (.one (.ptr (.box 3) 1 [] 6)) ?_
 refine LWp.o 30 (I xB.Base) ?_
 refine LWp.o 31 (B (xA.Base != xB.Base)) ?_
 refine LWp.nil ?_
 refine Wp.c h (fun h => ?_) (fun h => ?_)
 · refine Wp.seq (Wp.region ?_)
   refine LWp.o 4 (B false) ?_
   refine LWp.nil ?_
   cases h
   exact Wp.ret ⟨.inr rfl, _, _, rfl, rfl⟩
 refine Wp.skip ?_
 refine Wp.seq (Wp.region ?_)
 refine LWp.o 4 (B true) ?_
 refine LWp.nil ?_
 cases h
 exact Wp.ret ⟨.inr rfl, _, _, rfl, rfl⟩
def w_markText_H1 (z1 : Int) (z2 : ByteArray) : St := mkSt [(0, (I z1)), (3, (Y z2))] []
def w_markText_H2 (z3 : ByteArray) : St := mkSt [(3, (Y z3))] []
theorem w_markText_t (xK : Int) (r : ByteArray) (h : w_markText xK = some r) : Gives Tryz.prog 53 [.sv (I xK)] (Y r) (List.replicate 1 .gone) := by
 unfold w_markText at h
 refine gives_of Tryz.func53 rfl ?_
 rw [Tryz.ntmps53]
 refine Wp.seq (Wp.region ?_)
 refine LWp.o 2 (Y (bs [])) ?_
 refine LWp.nil ?_
 refine Wp.seq ?_
 refine Wp.seq (Wp.region ?_)
 refine LWp.o 4 (I xK) ?_
 refine LWp.o 5 (B (decide (xK ≤ 0))) ?_
 refine LWp.nil ?_
 refine Wp.c h (fun h => ?_) (fun h => ?_)
 · refine Wp.seq (Wp.region ?_)
   refine LWp.o 2 (Y (bs [109, 48])) ?_
   refine LWp.nil ?_
   cases h
   exact Wp.ret ⟨.inr rfl, _, _, rfl, rfl⟩
 refine Wp.skip ?_
 refine Wp.seq (Wp.region ?_)
 refine LWp.o 3 (Y (bs [])) ?_
 refine LWp.nil ?_
 refine Wp.seq ?_
 refine Wp.l1 h [0, 3] [] (fun s => (w_markText_H1 s.1 s.2)) [3] [] (fun s => (w_markText_H2 s)) ⟨rfl, rfl⟩ ?_ ?_
 · rintro ⟨yK1, yOut1⟩ o (h : w_markText_b1 yK1 yOut1 = some o)
   unfold w_markText_b1 at h
   change Wp _ _ _ (w_markText_H1 yK1 yOut1) _
   refine Wp.seq ?_
   refine Wp.seq (Wp.region ?_)
   refine LWp.o 6 (I yK1) ?_
   refine LWp.o 7 (B (decide (yK1 > 0))) ?_
   refine LWp.nil ?_
   refine Wp.c h (fun h => ?_) (fun h => ?_)
   · refine Wp.skip ?_
     refine Wp.block ?_
     refine Wp.seq (Wp.region ?_)
     refine LWp.o 8 (I yK1) ?_
     refine LWp.o 9 (I (Int.tmod yK1 10)) ?_
     refine LWp.o 10 (I (ad 48 (Int.tmod yK1 10))) ?_
     refine LWp.o 11 (.one (.int .u8 (IntKind.u8.wrap (ad 48 (Int.tmod yK1 10))))) ?_
     refine LWp.m false [] 12 (.one (.sl true 5 1 (encs c5 [(IntKind.u8.wrap (ad 48 (Int.tmod yK1 10)))]))) ?_
     refine LWp.o 13 (Y (strB [(IntKind.u8.wrap (ad 48 (Int.tmod yK1 10)))])) ?_ (st_pure (p_cv (fun _ => rfl) [(IntKind.u8.wrap (ad 48 (Int.tmod yK1 10)))]))
     refine LWp.o 14 (Y yOut1) ?_
     refine LWp.p h 15 (fun x1 => (Y x1)) ?_ (fun x1 gx1 => st_pure (p_cat gx1))
     intro x1 gx1 h
     refine LWp.o 3 (Y x1) ?_
     refine LWp.nil ?_
     refine Wp.region ?_
     refine LWp.o 16 (I yK1) ?_
     refine LWp.o 17 (I (qu yK1 10)) ?_
     refine LWp.o 0 (I (qu yK1 10)) ?_
     refine LWp.nil ?_
     cases h
     exact ⟨_, rfl, rfl, rfl⟩
   refine Wp.exit ?_
   cases h
   exact ⟨_, rfl, rfl, rfl⟩
 intro v1 h E hE
 refine nt_wp hE ?_
 change Wp _ _ _ (w_markText_H2 v1) _
 refine Wp.seq (Wp.region ?_)
 refine LWp.o 18 (Y v1) ?_
 refine LWp.p h 19 (fun x2 => (Y x2)) ?_ (fun x2 gx2 => st_pure (p_cat gx2))
 intro x2 gx2 h
 refine LWp.o 2 (Y x2) ?_
 refine LWp.nil ?_
 cases h
 exact Wp.ret ⟨.inr rfl, _, _, rfl, rfl⟩
def w_markLeafS_H1 (z1 : List Leaf) (z2 : Int) (z3 : Int) : St := mkStF [(0, (.one (.sl true 165 2 (encs c165 z1)))), (1, (I z2)), (5, (I z3))] []
def w_markLeafS_H2 (z4 : List Leaf) (z5 : Int) : St := mkStF [(0, (.one (.sl true 165 2 (encs c165 z4)))), (1, (I z5))] []
theorem w_markLeafS_t (xA : List Leaf) (xK : Int) (r : Int × List Leaf) (h : w_markLeafS xA xK = some r) : Gives Tryz.prog 148 [.sv (.one (.sl true 165 2 (encs c165 xA))), .sv (I xK)] (I r.1) (.sv (.one (.sl true 165 2 (encs c165 r.2))) :: List.replicate 1 .gone) := by
 unfold w_markLeafS at h
 refine gives_lent Tryz.func148 rfl ?_
 rw [Tryz.ntmps148]
 refine Wp.seq (Wp.region ?_)
 refine LWp.o 4 (I 0) ?_
 refine LWp.nil ?_
 refine Wp.seq ?_
 refine Wp.seq (Wp.region ?_)
 refine LWp.o 5 (I 0) ?_
 refine LWp.nil ?_
 refine Wp.l1 h [0, 1, 5] [] (fun s => (w_markLeafS_H1 s.1 s.2.1 s.2.2)) [0, 1] [] (fun s => (w_markLeafS_H2 s.1 s.2)) ⟨rfl, rfl⟩ ?_ ?_
 · rintro ⟨yA1, yK1, yI1⟩ o (h : w_markLeafS_b1 yA1 yK1 yI1 = some o)
   unfold w_markLeafS_b1 at h
   change Wp _ _ _ (w_markLeafS_H1 yA1 yK1 yI1) _
   refine Wp.seq ?_
   refine Wp.seq (Wp.region ?_)
   refine LWp.o 6 (I yI1) ?_
   refine LWp.o 7 (.one (.view (.slot 0) 0 [] 0)) ?_
   refine LWp.o 8 (I (ln yA1)) ?_ (st_pure (p_ln k165 yA1))
   refine LWp.o 9 (B (decide (yI1 < (ln yA1)))) ?_
   refine LWp.nil ?_
   refine Wp.c h (fun h => ?_) (fun h => ?_)
   · refine Wp.skip ?_
     refine Wp.seq ?_
     refine Wp.block ?_
     refine Wp.seq (Wp.region ?_)
     refine LWp.o 12 (.one (.view (.slot 0) 0 [] 0)) ?_
     refine LWp.o 13 (I yI1) ?_
     refine LWp.o 14 (I yK1) ?_
     refine LWp.p h 15 (fun _ => (.one (.ptr (.slot 0) 0 [0] (Int.toNat yI1 * 2 + 0)))) ?_ (fun x1 gx1 => st_pure (p_ix k165 (.slot 0) [] 0 gx1))
     intro x1 gx1 h
     refine LWp.o 16 (.one (.ptr (.slot 0) 0 [0] (Int.toNat yI1 * 2 + 0))) ?_ (st_pure (p_fa k165 (.slot 0) [0] 0 gx1))
     refine LWp.sb [] (.slot 0) [.sl true 165 2 (encs c165 (si yA1 yI1 (Leaf.mk yK1 x1.Text)))] ?_ (s_st [] (q := [0]) (cs := [.sl true 165 2 (encs c165 yA1)]) (xs := [.int .i64 yK1]) (At.one (setRow_gi k165 (k := 0) (z := (Leaf.mk yK1 x1.Text)) gx1 rfl rfl)) (fit_gi k165 (k := 0) gx1 rfl))
     refine LWp.nil ?_
     refine Wp.seq (Wp.region ?_)
     refine LWp.o 17 (I yK1) ?_
     refine LWp.o 18 (I (ad yK1 1)) ?_
     refine LWp.o 1 (I (ad yK1 1)) ?_
     refine LWp.nil ?_
     refine Wp.seq (Wp.region ?_)
     refine LWp.o 19 (.one (.view (.slot 0) 1 [] 0)) ?_
     refine LWp.o 20 (I yI1) ?_
     refine LWp.o 21 (I (ad yK1 1)) ?_
     refine LWp.cl h 22 (fun v1 => (Y v1)) rfl (l := [.sv (.one (.int .i64 (ad yK1 1)))]) rfl (fun v hv => w_markText_t (ad yK1 1) v hv) (.inl rfl) ?_
     intro v1 gv1 h
     refine LWp.p h 23 (fun _ => (.one (.ptr (.slot 0) 1 [0] (Int.toNat yI1 * 2 + 0)))) ?_ (fun x2 gx2 => st_pure (p_ix k165 (.slot 0) [] 0 gx2))
     intro x2 gx2 h
     refine LWp.o 24 (.one (.ptr (.slot 0) 1 [0] (Int.toNat yI1 * 2 + 1))) ?_ (st_pure (p_fa k165 (.slot 0) [0] 0 gx2))
     refine LWp.sb [] (.slot 0) [.sl true 165 2 (encs c165 (si (si yA1 yI1 (Leaf.mk yK1 x1.Text)) yI1 (Leaf.mk x2.Is v1)))] ?_ (s_st [] (q := [0]) (cs := [.sl true 165 2 (encs c165 (si yA1 yI1 (Leaf.mk yK1 x1.Text)))]) (xs := [.str v1]) (At.one (setRow_gi k165 (k := 1) (z := (Leaf.mk x2.Is v1)) gx2 rfl rfl)) (fit_gi k165 (k := 1) gx2 rfl))
     refine LWp.nil ?_
     refine Wp.region ?_
     refine LWp.o 25 (I (ad yK1 1)) ?_
     refine LWp.o 26 (I (ad (ad yK1 1) 1)) ?_
     refine LWp.o 1 (I (ad (ad yK1 1) 1)) ?_
     refine LWp.nil ?_
     refine Wp.region ?_
     refine LWp.o 10 (I yI1) ?_
     refine LWp.o 11 (I (ad yI1 1)) ?_
     refine LWp.o 5 (I (ad yI1 1)) ?_
     refine LWp.nil ?_
     cases h
     exact ⟨_, rfl, rfl, rfl⟩
   refine Wp.exit ?_
   cases h
   exact ⟨_, rfl, rfl, rfl⟩
 intro v2 h E hE
 refine nt_wp hE ?_
 change Wp _ _ _ (w_markLeafS_H2 v2.1 v2.2) _
 refine Wp.seq (Wp.region ?_)
 refine LWp.o 27 (I v2.2) ?_
 refine LWp.o 4 (I v2.2) ?_
 refine LWp.nil ?_
 cases h
 exact Wp.ret ⟨.inr rfl, _, _, rfl, rfl, rfl, rfl⟩
def w_markBlockS_H1 (z1 : List Block) (z2 : Int) (z3 : Int) : St := mkStF [(0, (.one (.sl true 124 3 (encs (c124 true) z1)))), (1, (I z2)), (5, (I z3))] []
def w_markBlockS_H2 (z4 : List Block) (z5 : Int) : St := mkStF [(0, (.one (.sl true 124 3 (encs (c124 true) z4)))), (1, (I z5))] []
theorem w_markBlockS_t (xA : List Block) (xK : Int) (r : Int × List Block) (h : w_markBlockS xA xK = some r) : Gives Tryz.prog 96 [.sv (.one (.sl true 124 3 (encs (c124 true) xA))), .sv (I xK)] (I r.1) (.sv (.one (.sl true 124 3 (encs (c124 true) r.2))) :: List.replicate 1 .gone) := by
 unfold w_markBlockS at h
 refine gives_lent Tryz.func96 rfl ?_
 rw [Tryz.ntmps96]
 refine Wp.seq (Wp.region ?_)
 refine LWp.o 4 (I 0) ?_
 refine LWp.nil ?_
 refine Wp.seq ?_
 refine Wp.seq (Wp.region ?_)
 refine LWp.o 5 (I 0) ?_
 refine LWp.nil ?_
 refine Wp.l1 h [0, 1, 5] [] (fun s => (w_markBlockS_H1 s.1 s.2.1 s.2.2)) [0, 1] [] (fun s => (w_markBlockS_H2 s.1 s.2)) ⟨rfl, rfl⟩ ?_ ?_
 · rintro ⟨yA1, yK1, yI1⟩ o (h : w_markBlockS_b1 yA1 yK1 yI1 = some o)
   unfold w_markBlockS_b1 at h
   change Wp _ _ _ (w_markBlockS_H1 yA1 yK1 yI1) _
   refine Wp.seq ?_
   refine Wp.seq (Wp.region ?_)
   refine LWp.o 6 (I yI1) ?_
   refine LWp.o 7 (.one (.view (.slot 0) 0 [] 0)) ?_
   refine LWp.o 8 (I (ln yA1)) ?_ (st_pure (p_ln (k124 true) yA1))
   refine LWp.o 9 (B (decide (yI1 < (ln yA1)))) ?_
   refine LWp.nil ?_
   refine Wp.c h (fun h => ?_) (fun h => ?_)
   · refine Wp.skip ?_
     refine Wp.seq ?_
     refine Wp.block ?_
     refine Wp.seq (Wp.region ?_)
     refine LWp.o 12 (.one (.view (.slot 0) 0 [] 0)) ?_
     refine LWp.o 13 (I yI1) ?_
     refine LWp.o 14 (I yK1) ?_
     refine LWp.o 15 (I (Int.tmod yK1 3)) ?_
     refine LWp.o 16 (B ((Int.tmod yK1 3) == 0)) ?_
     refine LWp.p h 17 (fun _ => (.one (.ptr (.slot 0) 0 [0] (Int.toNat yI1 * 3 + 0)))) ?_ (fun x1 gx1 => st_pure (p_ix (k124 true) (.slot 0) [] 0 gx1))
     intro x1 gx1 h
     refine LWp.o 18 (.one (.ptr (.slot 0) 0 [0] (Int.toNat yI1 * 3 + 0))) ?_ (st_pure (p_fa (k124 true) (.slot 0) [0] 0 gx1))
     refine LWp.sb [] (.slot 0) [.sl true 124 3 (encs (c124 true) (si yA1 yI1 (Block.mk ((Int.tmod yK1 3) == 0) x1.Wear x1.Leaves)))] ?_ (s_st [] (q := [0]) (cs := [.sl true 124 3 (encs (c124 true) yA1)]) (xs := [.bool ((Int.tmod yK1 3) == 0)]) (At.one (setRow_gi (k124 true) (k := 0) (z := (Block.mk ((Int.tmod yK1 3) == 0) x1.Wear x1.Leaves)) gx1 rfl rfl)) (fit_gi (k124 true) (k := 0) gx1 rfl))
     refine LWp.nil ?_
     refine Wp.seq (Wp.region ?_)
     refine LWp.o 19 (I yK1) ?_
     refine LWp.o 20 (I (ad yK1 1)) ?_
     refine LWp.o 1 (I (ad yK1 1)) ?_
     refine LWp.nil ?_
     refine Wp.seq (Wp.region ?_)
     refine LWp.o 21 (.one (.view (.slot 0) 1 [] 0)) ?_
     refine LWp.o 22 (I yI1) ?_
     refine LWp.o 23 (I (ad yK1 1)) ?_
     refine LWp.p h 24 (fun _ => (.one (.ptr (.slot 0) 1 [0] (Int.toNat yI1 * 3 + 0)))) ?_ (fun x2 gx2 => st_pure (p_ix (k124 true) (.slot 0) [] 0 gx2))
     intro x2 gx2 h
     refine LWp.o 25 (.one (.ptr (.slot 0) 1 [0] (Int.toNat yI1 * 3 + 1))) ?_ (st_pure (p_fa (k124 true) (.slot 0) [0] 0 gx2))
     refine LWp.sb [] (.slot 0) [.sl true 124 3 (encs (c124 true) (si (si yA1 yI1 (Block.mk ((Int.tmod yK1 3) == 0) x1.Wear x1.Leaves)) yI1 (Block.mk x2.Bad (ad yK1 1) x2.Leaves)))] ?_ (s_st [] (q := [0]) (cs := [.sl true 124 3 (encs (c124 true) (si yA1 yI1 (Block.mk ((Int.tmod yK1 3) == 0) x1.Wear x1.Leaves)))]) (xs := [.int .i64 (ad yK1 1)]) (At.one (setRow_gi (k124 true) (k := 1) (z := (Block.mk x2.Bad (ad yK1 1) x2.Leaves)) gx2 rfl rfl)) (fit_gi (k124 true) (k := 1) gx2 rfl))
     refine LWp.nil ?_
     refine Wp.seq (Wp.region ?_)
     refine LWp.o 26 (I (ad yK1 1)) ?_
     refine LWp.o 27 (I (ad (ad yK1 1) 1)) ?_
     refine LWp.o 1 (I (ad (ad yK1 1) 1)) ?_
     refine LWp.nil ?_
     refine Wp.region ?_
     refine LWp.o 28 (.one (.view (.slot 0) 2 [] 0)) ?_
     refine LWp.o 29 (I yI1) ?_
     refine LWp.p h 30 (fun _ => (.one (.ptr (.slot 0) 2 [0] (Int.toNat yI1 * 3 + 0)))) ?_ (fun x3 gx3 => st_pure (p_ix (k124 true) (.slot 0) [] 0 gx3))
     intro x3 gx3 h
     refine LWp.o 31 (.one (.ptr (.slot 0) 2 [0] (Int.toNat yI1 * 3 + 2))) ?_ (st_pure (p_fa (k124 true) (.slot 0) [0] 0 gx3))
     refine LWp.o 32 (.one (.view (.slot 0) 2 [0] (Int.toNat yI1 * 3 + 2))) ?_ (st_pure (p_lc (k124 true) (.slot 0) [0] 2 (.sl true 165 2 (encs c165 x3.Leaves)) gx3))
     refine LWp.o 33 (I (ad (ad yK1 1) 1)) ?_
     refine LWp.leb h (.slot 0) [0] (Int.toNat yI1 * 3 + 2) [.sl true 124 3 (encs (c124 true) (si (si yA1 yI1 (Block.mk ((Int.tmod yK1 3) == 0) x1.Wear x1.Leaves)) yI1 (Block.mk x2.Bad (ad yK1 1) x2.Leaves)))] 34 (e := 165) (sz := 2) (encs c165 x3.Leaves) (ad (ad yK1 1) 1) (fun v => v.1) (fun v1 => (encs c165 v1.2)) (fun v1 => [.sl true 124 3 (encs (c124 true) (si (si (si yA1 yI1 (Block.mk ((Int.tmod yK1 3) == 0) x1.Wear x1.Leaves)) yI1 (Block.mk x2.Bad (ad yK1 1) x2.Leaves)) yI1 (Block.mk x3.Bad x3.Wear v1.2)))]) rfl (fun v1 => At.one (set_gi (k124 true) (k := 2) (z := (Block.mk x3.Bad x3.Wear v1.2)) gx3 rfl rfl)) ((gi_cellb (k124 true) (k := 2) gx3).trans rfl) (fun v hv => w_markLeafS_t x3.Leaves (ad (ad yK1 1) 1) v hv) (ns165 _) (fun _ => ns165 _) ?_ (.inl ⟨0, _, rfl, rfl, rfl, rfl, fun _ _ _ _ _ _ _ h => h⟩)
     intro v1 gv1 h
     refine LWp.o 1 (I v1.1) ?_
     refine LWp.nil ?_
     refine Wp.region ?_
     refine LWp.o 10 (I yI1) ?_
     refine LWp.o 11 (I (ad yI1 1)) ?_
     refine LWp.o 5 (I (ad yI1 1)) ?_
     refine LWp.nil ?_
     cases h
     exact ⟨_, rfl, rfl, rfl⟩
   refine Wp.exit ?_
   cases h
   exact ⟨_, rfl, rfl, rfl⟩
 intro v2 h E hE
 refine nt_wp hE ?_
 change Wp _ _ _ (w_markBlockS_H2 v2.1 v2.2) _
 refine Wp.seq (Wp.region ?_)
 refine LWp.o 35 (I v2.2) ?_
 refine LWp.o 4 (I v2.2) ?_
 refine LWp.nil ?_
 cases h
 exact Wp.ret ⟨.inr rfl, _, _, rfl, rfl, rfl, rfl⟩
theorem w_markFlash_t (xA : Flash) (xK : Int) (r : Int) (h : w_markFlash xA xK = some r) : Gives Tryz.prog 51 [.sv (.agg [.sl true 124 3 (encs (c124 true) xA.Blocks)]), .sv (I xK)] (I r) (List.replicate 2 .gone) := by
 unfold w_markFlash at h
 refine gives_of Tryz.func51 rfl ?_
 rw [Tryz.ntmps51]
 refine Wp.seq (Wp.region ?_)
 refine LWp.b [(.slot 0, [.junk])] 2 [.sl true 124 3 (encs (c124 true) xA.Blocks)] ?_
 refine LWp.o 4 (I 0) ?_
 refine LWp.nil ?_
 refine Wp.seq (Wp.region ?_)
 refine LWp.o 5 (.one (.ptr (.box 2) 1 [] 0)) ?_
 refine LWp.o 6 (.one (.view (.box 2) 1 [] 0)) ?_
 refine LWp.o 7 (I xK) ?_
 refine LWp.leb h (.box 2) [] 0 [.sl true 124 3 (encs (c124 true) xA.Blocks)] 8 (e := 124) (sz := 3) (encs (c124 true) xA.Blocks) xK (fun v => v.1) (fun v1 => (encs (c124 true) v1.2)) (fun v1 => [.sl true 124 3 (encs (c124 true) v1.2)]) rfl (fun v1 => At.nl rfl) rfl (fun v hv => w_markBlockS_t xA.Blocks xK v hv) (ns124 _) (fun _ => ns124 _) ?_ (.inr ⟨rfl, rfl⟩)
 intro v1 gv1 h
 refine LWp.o 1 (I v1.1) ?_
 refine LWp.nil ?_
 refine Wp.seq (Wp.region ?_)
 refine LWp.o 9 (I v1.1) ?_
 refine LWp.o 4 (I v1.1) ?_
 refine LWp.nil ?_
 cases h
 exact Wp.ret ⟨.inr rfl, _, _, rfl, rfl⟩
def w_markVolS_H1 (z1 : List Vol) (z2 : Int) (z3 : Int) : St := mkStF [(0, (.one (.sl true 110 2 (encs c110 z1)))), (1, (I z2)), (5, (I z3))] []
def w_markVolS_H2 (z4 : List Vol) (z5 : Int) : St := mkStF [(0, (.one (.sl true 110 2 (encs c110 z4)))), (1, (I z5))] []
theorem w_markVolS_t (xA : List Vol) (xK : Int) (r : Int × List Vol) (h : w_markVolS xA xK = some r) : Gives Tryz.prog 97 [.sv (.one (.sl true 110 2 (encs c110 xA))), .sv (I xK)] (I r.1) (.sv (.one (.sl true 110 2 (encs c110 r.2))) :: List.replicate 1 .gone) := by
 unfold w_markVolS at h
 refine gives_lent Tryz.func97 rfl ?_
 rw [Tryz.ntmps97]
 refine Wp.seq (Wp.region ?_)
 refine LWp.o 4 (I 0) ?_
 refine LWp.nil ?_
 refine Wp.seq ?_
 refine Wp.seq (Wp.region ?_)
 refine LWp.o 5 (I 0) ?_
 refine LWp.nil ?_
 refine Wp.l1 h [0, 1, 5] [] (fun s => (w_markVolS_H1 s.1 s.2.1 s.2.2)) [0, 1] [] (fun s => (w_markVolS_H2 s.1 s.2)) ⟨rfl, rfl⟩ ?_ ?_
 · rintro ⟨yA1, yK1, yI1⟩ o (h : w_markVolS_b1 yA1 yK1 yI1 = some o)
   unfold w_markVolS_b1 at h
   change Wp _ _ _ (w_markVolS_H1 yA1 yK1 yI1) _
   refine Wp.seq ?_
   refine Wp.seq (Wp.region ?_)
   refine LWp.o 6 (I yI1) ?_
   refine LWp.o 7 (.one (.view (.slot 0) 0 [] 0)) ?_
   refine LWp.o 8 (I (ln yA1)) ?_ (st_pure (p_ln k110 yA1))
   refine LWp.o 9 (B (decide (yI1 < (ln yA1)))) ?_
   refine LWp.nil ?_
   refine Wp.c h (fun h => ?_) (fun h => ?_)
   · refine Wp.skip ?_
     refine Wp.seq ?_
     refine Wp.block ?_
     refine Wp.seq (Wp.region ?_)
     refine LWp.o 12 (.one (.view (.slot 0) 0 [] 0)) ?_
     refine LWp.o 13 (I yI1) ?_
     refine LWp.o 14 (I yK1) ?_
     refine LWp.p h 15 (fun _ => (.one (.ptr (.slot 0) 0 [0] (Int.toNat yI1 * 2 + 0)))) ?_ (fun x1 gx1 => st_pure (p_ix k110 (.slot 0) [] 0 gx1))
     intro x1 gx1 h
     refine LWp.o 16 (.one (.ptr (.slot 0) 0 [0] (Int.toNat yI1 * 2 + 0))) ?_ (st_pure (p_fa k110 (.slot 0) [0] 0 gx1))
     refine LWp.sb [] (.slot 0) [.sl true 110 2 (encs c110 (si yA1 yI1 (Vol.mk yK1 x1.Root)))] ?_ (s_st [] (q := [0]) (cs := [.sl true 110 2 (encs c110 yA1)]) (xs := [.int .i64 yK1]) (At.one (setRow_gi k110 (k := 0) (z := (Vol.mk yK1 x1.Root)) gx1 rfl rfl)) (fit_gi k110 (k := 0) gx1 rfl))
     refine LWp.nil ?_
     refine Wp.seq (Wp.region ?_)
     refine LWp.o 17 (I yK1) ?_
     refine LWp.o 18 (I (ad yK1 1)) ?_
     refine LWp.o 1 (I (ad yK1 1)) ?_
     refine LWp.nil ?_
     refine Wp.seq (Wp.region ?_)
     refine LWp.o 19 (.one (.view (.slot 0) 1 [] 0)) ?_
     refine LWp.o 20 (I yI1) ?_
     refine LWp.o 21 (I (ad yK1 1)) ?_
     refine LWp.p h 22 (fun _ => (.one (.ptr (.slot 0) 1 [0] (Int.toNat yI1 * 2 + 0)))) ?_ (fun x2 gx2 => st_pure (p_ix k110 (.slot 0) [] 0 gx2))
     intro x2 gx2 h
     refine LWp.o 23 (.one (.ptr (.slot 0) 1 [0] (Int.toNat yI1 * 2 + 1))) ?_ (st_pure (p_fa k110 (.slot 0) [0] 0 gx2))
     refine LWp.sb [] (.slot 0) [.sl true 110 2 (encs c110 (si (si yA1 yI1 (Vol.mk yK1 x1.Root)) yI1 (Vol.mk x2.Id (ad yK1 1))))] ?_ (s_st [] (q := [0]) (cs := [.sl true 110 2 (encs c110 (si yA1 yI1 (Vol.mk yK1 x1.Root)))]) (xs := [.int .i64 (ad yK1 1)]) (At.one (setRow_gi k110 (k := 1) (z := (Vol.mk x2.Id (ad yK1 1))) gx2 rfl rfl)) (fit_gi k110 (k := 1) gx2 rfl))
     refine LWp.nil ?_
     refine Wp.region ?_
     refine LWp.o 24 (I (ad yK1 1)) ?_
     refine LWp.o 25 (I (ad (ad yK1 1) 1)) ?_
     refine LWp.o 1 (I (ad (ad yK1 1) 1)) ?_
     refine LWp.nil ?_
     refine Wp.region ?_
     refine LWp.o 10 (I yI1) ?_
     refine LWp.o 11 (I (ad yI1 1)) ?_
     refine LWp.o 5 (I (ad yI1 1)) ?_
     refine LWp.nil ?_
     cases h
     exact ⟨_, rfl, rfl, rfl⟩
   refine Wp.exit ?_
   cases h
   exact ⟨_, rfl, rfl, rfl⟩
 intro v1 h E hE
 refine nt_wp hE ?_
 change Wp _ _ _ (w_markVolS_H2 v1.1 v1.2) _
 refine Wp.seq (Wp.region ?_)
 refine LWp.o 26 (I v1.2) ?_
 refine LWp.o 4 (I v1.2) ?_
 refine LWp.nil ?_
 cases h
 exact Wp.ret ⟨.inr rfl, _, _, rfl, rfl, rfl, rfl⟩
def w_markIntS_H1 (z1 : List Int) (z2 : Int) (z3 : Int) : St := mkStF [(0, (.one (.sl true 3 1 (encs c3 z1)))), (1, (I z2)), (5, (I z3))] []
def w_markIntS_H2 (z4 : List Int) (z5 : Int) : St := mkStF [(0, (.one (.sl true 3 1 (encs c3 z4)))), (1, (I z5))] []
theorem w_markIntS_t (xA : List Int) (xK : Int) (r : Int × List Int) (h : w_markIntS xA xK = some r) : Gives Tryz.prog 31 [.sv (.one (.sl true 3 1 (encs c3 xA))), .sv (I xK)] (I r.1) (.sv (.one (.sl true 3 1 (encs c3 r.2))) :: List.replicate 1 .gone) := by
 unfold w_markIntS at h
 refine gives_lent Tryz.func31 rfl ?_
 rw [Tryz.ntmps31]
 refine Wp.seq (Wp.region ?_)
 refine LWp.o 4 (I 0) ?_
 refine LWp.nil ?_
 refine Wp.seq ?_
 refine Wp.seq (Wp.region ?_)
 refine LWp.o 5 (I 0) ?_
 refine LWp.nil ?_
 refine Wp.l1 h [0, 1, 5] [] (fun s => (w_markIntS_H1 s.1 s.2.1 s.2.2)) [0, 1] [] (fun s => (w_markIntS_H2 s.1 s.2)) ⟨rfl, rfl⟩ ?_ ?_
 · rintro ⟨yA1, yK1, yI1⟩ o (h : w_markIntS_b1 yA1 yK1 yI1 = some o)
   unfold w_markIntS_b1 at h
   change Wp _ _ _ (w_markIntS_H1 yA1 yK1 yI1) _
   refine Wp.seq ?_
   refine Wp.seq (Wp.region ?_)
   refine LWp.o 6 (I yI1) ?_
   refine LWp.o 7 (.one (.view (.slot 0) 0 [] 0)) ?_
   refine LWp.o 8 (I (ln yA1)) ?_ (st_pure (p_ln k3 yA1))
   refine LWp.o 9 (B (decide (yI1 < (ln yA1)))) ?_
   refine LWp.nil ?_
   refine Wp.c h (fun h => ?_) (fun h => ?_)
   · refine Wp.skip ?_
     refine Wp.seq ?_
     refine Wp.block ?_
     refine Wp.seq (Wp.region ?_)
     refine LWp.o 12 (.one (.view (.slot 0) 0 [] 0)) ?_
     refine LWp.o 13 (I yI1) ?_
     refine LWp.o 14 (I yK1) ?_
     refine LWp.p h 15 (fun _ => (.one (.ptr (.slot 0) 0 [0] (Int.toNat yI1 * 1 + 0)))) ?_ (fun x1 gx1 => st_pure (p_ix k3 (.slot 0) [] 0 gx1))
     intro x1 gx1 h
     refine LWp.sb [] (.slot 0) [.sl true 3 1 (encs c3 (si yA1 yI1 yK1))] ?_ (s_st [] (q := [0]) (cs := [.sl true 3 1 (encs c3 yA1)]) (xs := [.int .i64 yK1]) (At.one (setRow_gi k3 (k := 0) (z := yK1) gx1 rfl rfl)) (fit_gi k3 (k := 0) gx1 rfl))
     refine LWp.nil ?_
     refine Wp.region ?_
     refine LWp.o 16 (I yK1) ?_
     refine LWp.o 17 (I (ad yK1 1)) ?_
     refine LWp.o 1 (I (ad yK1 1)) ?_
     refine LWp.nil ?_
     refine Wp.region ?_
     refine LWp.o 10 (I yI1) ?_
     refine LWp.o 11 (I (ad yI1 1)) ?_
     refine LWp.o 5 (I (ad yI1 1)) ?_
     refine LWp.nil ?_
     cases h
     exact ⟨_, rfl, rfl, rfl⟩
   refine Wp.exit ?_
   cases h
   exact ⟨_, rfl, rfl, rfl⟩
 intro v1 h E hE
 refine nt_wp hE ?_
 change Wp _ _ _ (w_markIntS_H2 v1.1 v1.2) _
 refine Wp.seq (Wp.region ?_)
 refine LWp.o 18 (I v1.2) ?_
 refine LWp.o 4 (I v1.2) ?_
 refine LWp.nil ?_
 cases h
 exact Wp.ret ⟨.inr rfl, _, _, rfl, rfl, rfl, rfl⟩
def w_markKnotS_H1 (z1 : List Knot) (z2 : Int) (z3 : Int) : St := mkStF [(0, (.one (.sl true 218 2 (encs (c218 true) z1)))), (1, (I z2)), (5, (I z3))] []
def w_markKnotS_H2 (z4 : List Knot) (z5 : Int) : St := mkStF [(0, (.one (.sl true 218 2 (encs (c218 true) z4)))), (1, (I z5))] []
theorem w_markKnotS_t (xA : List Knot) (xK : Int) (r : Int × List Knot) (h : w_markKnotS xA xK = some r) : Gives Tryz.prog 149 [.sv (.one (.sl true 218 2 (encs (c218 true) xA))), .sv (I xK)] (I r.1) (.sv (.one (.sl true 218 2 (encs (c218 true) r.2))) :: List.replicate 1 .gone) := by
 unfold w_markKnotS at h
 refine gives_lent Tryz.func149 rfl ?_
 rw [Tryz.ntmps149]
 refine Wp.seq (Wp.region ?_)
 refine LWp.o 4 (I 0) ?_
 refine LWp.nil ?_
 refine Wp.seq ?_
 refine Wp.seq (Wp.region ?_)
 refine LWp.o 5 (I 0) ?_
 refine LWp.nil ?_
 refine Wp.l1 h [0, 1, 5] [] (fun s => (w_markKnotS_H1 s.1 s.2.1 s.2.2)) [0, 1] [] (fun s => (w_markKnotS_H2 s.1 s.2)) ⟨rfl, rfl⟩ ?_ ?_
 · rintro ⟨yA1, yK1, yI1⟩ o (h : w_markKnotS_b1 yA1 yK1 yI1 = some o)
   unfold w_markKnotS_b1 at h
   change Wp _ _ _ (w_markKnotS_H1 yA1 yK1 yI1) _
   refine Wp.seq ?_
   refine Wp.seq (Wp.region ?_)
   refine LWp.o 6 (I yI1) ?_
   refine LWp.o 7 (.one (.view (.slot 0) 0 [] 0)) ?_
   refine LWp.o 8 (I (ln yA1)) ?_ (st_pure (p_ln (k218 true) yA1))
   refine LWp.o 9 (B (decide (yI1 < (ln yA1)))) ?_
   refine LWp.nil ?_
   refine Wp.c h (fun h => ?_) (fun h => ?_)
   · refine Wp.skip ?_
     refine Wp.seq ?_
     refine Wp.block ?_
     refine Wp.seq (Wp.region ?_)
     refine LWp.o 12 (.one (.view (.slot 0) 0 [] 0)) ?_
     refine LWp.o 13 (I yI1) ?_
     refine LWp.o 14 (I yK1) ?_
     refine LWp.o 15 (I (Int.tmod yK1 3)) ?_
     refine LWp.o 16 (B ((Int.tmod yK1 3) == 0)) ?_
     refine LWp.p h 17 (fun _ => (.one (.ptr (.slot 0) 0 [0] (Int.toNat yI1 * 2 + 0)))) ?_ (fun x1 gx1 => st_pure (p_ix (k218 true) (.slot 0) [] 0 gx1))
     intro x1 gx1 h
     refine LWp.o 18 (.one (.ptr (.slot 0) 0 [0] (Int.toNat yI1 * 2 + 0))) ?_ (st_pure (p_fa (k218 true) (.slot 0) [0] 0 gx1))
     refine LWp.sb [] (.slot 0) [.sl true 218 2 (encs (c218 true) (si yA1 yI1 (Knot.mk ((Int.tmod yK1 3) == 0) x1.Kids)))] ?_ (s_st [] (q := [0]) (cs := [.sl true 218 2 (encs (c218 true) yA1)]) (xs := [.bool ((Int.tmod yK1 3) == 0)]) (At.one (setRow_gi (k218 true) (k := 0) (z := (Knot.mk ((Int.tmod yK1 3) == 0) x1.Kids)) gx1 rfl rfl)) (fit_gi (k218 true) (k := 0) gx1 rfl))
     refine LWp.nil ?_
     refine Wp.seq (Wp.region ?_)
     refine LWp.o 19 (I yK1) ?_
     refine LWp.o 20 (I (ad yK1 1)) ?_
     refine LWp.o 1 (I (ad yK1 1)) ?_
     refine LWp.nil ?_
     refine Wp.region ?_
     refine LWp.o 21 (.one (.view (.slot 0) 1 [] 0)) ?_
     refine LWp.o 22 (I yI1) ?_
     refine LWp.p h 23 (fun _ => (.one (.ptr (.slot 0) 1 [0] (Int.toNat yI1 * 2 + 0)))) ?_ (fun x2 gx2 => st_pure (p_ix (k218 true) (.slot 0) [] 0 gx2))
     intro x2 gx2 h
     refine LWp.o 24 (.one (.ptr (.slot 0) 1 [0] (Int.toNat yI1 * 2 + 1))) ?_ (st_pure (p_fa (k218 true) (.slot 0) [0] 0 gx2))
     refine LWp.o 25 (.one (.view (.slot 0) 1 [0] (Int.toNat yI1 * 2 + 1))) ?_ (st_pure (p_lc (k218 true) (.slot 0) [0] 1 (.sl true 3 1 (encs c3 x2.Kids)) gx2))
     refine LWp.o 26 (I (ad yK1 1)) ?_
     refine LWp.leb h (.slot 0) [0] (Int.toNat yI1 * 2 + 1) [.sl true 218 2 (encs (c218 true) (si yA1 yI1 (Knot.mk ((Int.tmod yK1 3) == 0) x1.Kids)))] 27 (e := 3) (sz := 1) (encs c3 x2.Kids) (ad yK1 1) (fun v => v.1) (fun v1 => (encs c3 v1.2)) (fun v1 => [.sl true 218 2 (encs (c218 true) (si (si yA1 yI1 (Knot.mk ((Int.tmod yK1 3) == 0) x1.Kids)) yI1 (Knot.mk x2.Leaf v1.2)))]) rfl (fun v1 => At.one (set_gi (k218 true) (k := 1) (z := (Knot.mk x2.Leaf v1.2)) gx2 rfl rfl)) ((gi_cellb (k218 true) (k := 1) gx2).trans rfl) (fun v hv => w_markIntS_t x2.Kids (ad yK1 1) v hv) (ns3 _) (fun _ => ns3 _) ?_ (.inl ⟨0, _, rfl, rfl, rfl, rfl, fun _ _ _ _ _ _ _ h => h⟩)
     intro v1 gv1 h
     refine LWp.o 1 (I v1.1) ?_
     refine LWp.nil ?_
     refine Wp.region ?_
     refine LWp.o 10 (I yI1) ?_
     refine LWp.o 11 (I (ad yI1 1)) ?_
     refine LWp.o 5 (I (ad yI1 1)) ?_
     refine LWp.nil ?_
     cases h
     exact ⟨_, rfl, rfl, rfl⟩
   refine Wp.exit ?_
   cases h
   exact ⟨_, rfl, rfl, rfl⟩
 intro v2 h E hE
 refine nt_wp hE ?_
 change Wp _ _ _ (w_markKnotS_H2 v2.1 v2.2) _
 refine Wp.seq (Wp.region ?_)
 refine LWp.o 28 (I v2.2) ?_
 refine LWp.o 4 (I v2.2) ?_
 refine LWp.nil ?_
 cases h
 exact Wp.ret ⟨.inr rfl, _, _, rfl, rfl, rfl, rfl⟩
theorem w_markArena_t (xA : Arena) (xK : Int) (r : Int) (h : w_markArena xA xK = some r) : Gives Tryz.prog 98 [.sv (.agg [.sl true 218 2 (encs (c218 true) xA.Knots)]), .sv (I xK)] (I r) (List.replicate 2 .gone) := by
 unfold w_markArena at h
 refine gives_of Tryz.func98 rfl ?_
 rw [Tryz.ntmps98]
 refine Wp.seq (Wp.region ?_)
 refine LWp.b [(.slot 0, [.junk])] 2 [.sl true 218 2 (encs (c218 true) xA.Knots)] ?_
 refine LWp.o 4 (I 0) ?_
 refine LWp.nil ?_
 refine Wp.seq (Wp.region ?_)
 refine LWp.o 5 (.one (.ptr (.box 2) 1 [] 0)) ?_
 refine LWp.o 6 (.one (.view (.box 2) 1 [] 0)) ?_
 refine LWp.o 7 (I xK) ?_
 refine LWp.leb h (.box 2) [] 0 [.sl true 218 2 (encs (c218 true) xA.Knots)] 8 (e := 218) (sz := 2) (encs (c218 true) xA.Knots) xK (fun v => v.1) (fun v1 => (encs (c218 true) v1.2)) (fun v1 => [.sl true 218 2 (encs (c218 true) v1.2)]) rfl (fun v1 => At.nl rfl) rfl (fun v hv => w_markKnotS_t xA.Knots xK v hv) (ns218 _) (fun _ => ns218 _) ?_ (.inr ⟨rfl, rfl⟩)
 intro v1 gv1 h
 refine LWp.o 1 (I v1.1) ?_
 refine LWp.nil ?_
 refine Wp.seq (Wp.region ?_)
 refine LWp.o 9 (I v1.1) ?_
 refine LWp.o 4 (I v1.1) ?_
 refine LWp.nil ?_
 cases h
 exact Wp.ret ⟨.inr rfl, _, _, rfl, rfl⟩
theorem w_markStore_t (xA : Store) (xK : Int) (r : Int) (h : w_markStore xA xK = some r) : Gives Tryz.prog 52 [.sv (.agg [.sl true 110 2 (encs c110 xA.Vols), .sl true 218 2 (encs (c218 true) xA.Arena.Knots), .int .i64 xA.Next]), .sv (I xK)] (I r) (List.replicate 2 .gone) := by
 unfold w_markStore at h
 refine gives_of Tryz.func52 rfl ?_
 rw [Tryz.ntmps52]
 refine Wp.seq (Wp.region ?_)
 refine LWp.b [(.slot 0, [.junk, .sl true 218 2 (encs (c218 true) xA.Arena.Knots), .int .i64 xA.Next]), (.slot 0, [.junk, .junk, .int .i64 xA.Next])] 2 [.sl true 110 2 (encs c110 xA.Vols), .sl true 218 2 (encs (c218 true) xA.Arena.Knots), .int .i64 xA.Next] ?_
 refine LWp.o 4 (I 0) ?_
 refine LWp.nil ?_
 refine Wp.seq (Wp.region ?_)
 refine LWp.o 5 (.one (.ptr (.box 2) 1 [] 0)) ?_
 refine LWp.o 6 (.one (.view (.box 2) 1 [] 0)) ?_
 refine LWp.o 7 (I xK) ?_
 refine LWp.leb h (.box 2) [] 0 [.sl true 110 2 (encs c110 xA.Vols), .sl true 218 2 (encs (c218 true) xA.Arena.Knots), .int .i64 xA.Next] 8 (e := 110) (sz := 2) (encs c110 xA.Vols) xK (fun v => v.1) (fun v1 => (encs c110 v1.2)) (fun v1 => [.sl true 110 2 (encs c110 v1.2), .sl true 218 2 (encs (c218 true) xA.Arena.Knots), .int .i64 xA.Next]) rfl (fun v1 => At.nl rfl) rfl (fun v hv => w_markVolS_t xA.Vols xK v hv) (ns110 _) (fun _ => ns110 _) ?_ (.inr ⟨rfl, rfl⟩)
 intro v1 gv1 h
 refine LWp.o 1 (I v1.1) ?_
 refine LWp.nil ?_
 refine Wp.seq (Wp.region ?_)
 refine LWp.o 9 (.one (.ptr (.box 2) 1 [] 1)) ?_
 refine LWp.o 10 (.agg [.view (.box 2) 2 [] 1]) ?_
 refine LWp.o 11 (I v1.1) ?_
 refine LWp.cm h [(.box 2, [.sl true 110 2 (encs c110 v1.2), .junk, .int .i64 xA.Next])] 12 (fun v2 => (I v2)) rfl rfl (l := [.sv (.agg [.sl true 218 2 (encs (c218 true) xA.Arena.Knots)]), .sv (I v1.1)]) rfl (fun v hv => w_markArena_t xA.Arena v1.1 v hv) (.inl rfl) ?_
 intro v2 gv2 h
 refine LWp.o 1 (I v2) ?_
 refine LWp.nil ?_
 refine Wp.seq (Wp.region ?_)
 refine LWp.o 13 (I v2) ?_
 refine LWp.o 4 (I v2) ?_
 refine LWp.nil ?_
 cases h
 exact Wp.ret ⟨.inr rfl, _, _, rfl, rfl⟩
theorem w_markDevice_t (xA : Device) (xK : Int) (r : Int) (h : w_markDevice xA xK = some r) : Gives Tryz.prog 17 [.sv (.agg [.sl true 124 3 (encs (c124 true) xA.Flash.Blocks), .sl true 110 2 (encs c110 xA.Store.Vols), .sl true 218 2 (encs (c218 true) xA.Store.Arena.Knots), .int .i64 xA.Store.Next, .int .i64 xA.Seq, .int .i64 xA.Tx, .int .i64 xA.Base]), .sv (I xK)] (I r) (List.replicate 2 .gone) := by
 unfold w_markDevice at h
 refine gives_of Tryz.func17 rfl ?_
 rw [Tryz.ntmps17]
 refine Wp.seq (Wp.region ?_)
 refine LWp.b [(.slot 0, [.junk, .sl true 110 2 (encs c110 xA.Store.Vols), .sl true 218 2 (encs (c218 true) xA.Store.Arena.Knots), .int .i64 xA.Store.Next, .int .i64 xA.Seq, .int .i64 xA.Tx, .int .i64 xA.Base]), (.slot 0, [.junk, .junk, .sl true 218 2 (encs (c218 true) xA.Store.Arena.Knots), .int .i64 xA.Store.Next, .int .i64 xA.Seq, .int .i64 xA.Tx, .int .i64 xA.Base]), (.slot 0, [.junk, .junk, .junk, .int .i64 xA.Store.Next, .int .i64 xA.Seq, .int .i64 xA.Tx, .int .i64 xA.Base])] 2 [.sl true 124 3 (encs (c124 true) xA.Flash.Blocks), .sl true 110 2 (encs c110 xA.Store.Vols), .sl true 218 2 (encs (c218 true) xA.Store.Arena.Knots), .int .i64 xA.Store.Next, .int .i64 xA.Seq, .int .i64 xA.Tx, .int .i64 xA.Base] ?_
 refine LWp.o 4 (I 0) ?_
 refine LWp.nil ?_
 refine Wp.seq (Wp.region ?_)
 refine LWp.o 5 (.one (.ptr (.box 2) 1 [] 0)) ?_
 refine LWp.o 6 (.agg [.view (.box 2) 1 [] 0]) ?_
 refine LWp.o 7 (I xK) ?_
 refine LWp.cm h [(.box 2, [.junk, .sl true 110 2 (encs c110 xA.Store.Vols), .sl true 218 2 (encs (c218 true) xA.Store.Arena.Knots), .int .i64 xA.Store.Next, .int .i64 xA.Seq, .int .i64 xA.Tx, .int .i64 xA.Base])] 8 (fun v1 => (I v1)) rfl rfl (l := [.sv (.agg [.sl true 124 3 (encs (c124 true) xA.Flash.Blocks)]), .sv (I xK)]) rfl (fun v hv => w_markFlash_t xA.Flash xK v hv) (.inl rfl) ?_
 intro v1 gv1 h
 refine LWp.o 1 (I v1) ?_
 refine LWp.nil ?_
 refine Wp.seq (Wp.region ?_)
 refine LWp.o 9 (.one (.ptr (.box 2) 1 [] 1)) ?_
 refine LWp.o 10 (.agg [.view (.box 2) 2 [] 1, .view (.box 2) 2 [] 2, .int .i64 xA.Store.Next]) ?_
 refine LWp.o 11 (I v1) ?_
 refine LWp.cm h [(.box 2, [.junk, .junk, .sl true 218 2 (encs (c218 true) xA.Store.Arena.Knots), .int .i64 xA.Store.Next, .int .i64 xA.Seq, .int .i64 xA.Tx, .int .i64 xA.Base]), (.box 2, [.junk, .junk, .junk, .int .i64 xA.Store.Next, .int .i64 xA.Seq, .int .i64 xA.Tx, .int .i64 xA.Base])] 12 (fun v2 => (I v2)) rfl rfl (l := [.sv (.agg [.sl true 110 2 (encs c110 xA.Store.Vols), .sl true 218 2 (encs (c218 true) xA.Store.Arena.Knots), .int .i64 xA.Store.Next]), .sv (I v1)]) rfl (fun v hv => w_markStore_t xA.Store v1 v hv) (.inl rfl) ?_
 intro v2 gv2 h
 refine LWp.o 1 (I v2) ?_
 refine LWp.nil ?_
 refine Wp.seq (Wp.region ?_)
 refine LWp.o 13 (I v2) ?_
 refine LWp.o 4 (I v2) ?_
 refine LWp.nil ?_
 cases h
 exact Wp.ret ⟨.inr rfl, _, _, rfl, rfl⟩
def w_markStringS_H1 (z1 : List ByteArray) (z2 : Int) (z3 : Int) : St := mkStF [(0, (.one (.sl true 9 1 (encs c9 z1)))), (1, (I z2)), (5, (I z3))] []
def w_markStringS_H2 (z4 : List ByteArray) (z5 : Int) : St := mkStF [(0, (.one (.sl true 9 1 (encs c9 z4)))), (1, (I z5))] []
theorem w_markStringS_t (xA : List ByteArray) (xK : Int) (r : Int × List ByteArray) (h : w_markStringS xA xK = some r) : Gives Tryz.prog 60 [.sv (.one (.sl true 9 1 (encs c9 xA))), .sv (I xK)] (I r.1) (.sv (.one (.sl true 9 1 (encs c9 r.2))) :: List.replicate 1 .gone) := by
 unfold w_markStringS at h
 refine gives_lent Tryz.func60 rfl ?_
 rw [Tryz.ntmps60]
 refine Wp.seq (Wp.region ?_)
 refine LWp.o 4 (I 0) ?_
 refine LWp.nil ?_
 refine Wp.seq ?_
 refine Wp.seq (Wp.region ?_)
 refine LWp.o 5 (I 0) ?_
 refine LWp.nil ?_
 refine Wp.l1 h [0, 1, 5] [] (fun s => (w_markStringS_H1 s.1 s.2.1 s.2.2)) [0, 1] [] (fun s => (w_markStringS_H2 s.1 s.2)) ⟨rfl, rfl⟩ ?_ ?_
 · rintro ⟨yA1, yK1, yI1⟩ o (h : w_markStringS_b1 yA1 yK1 yI1 = some o)
   unfold w_markStringS_b1 at h
   change Wp _ _ _ (w_markStringS_H1 yA1 yK1 yI1) _
   refine Wp.seq ?_
   refine Wp.seq (Wp.region ?_)
   refine LWp.o 6 (I yI1) ?_
   refine LWp.o 7 (.one (.view (.slot 0) 0 [] 0)) ?_
   refine LWp.o 8 (I (ln yA1)) ?_ (st_pure (p_ln k9 yA1))
   refine LWp.o 9 (B (decide (yI1 < (ln yA1)))) ?_
   refine LWp.nil ?_
   refine Wp.c h (fun h => ?_) (fun h => ?_)
   · refine Wp.skip ?_
     refine Wp.seq ?_
     refine Wp.block ?_
     refine Wp.seq (Wp.region ?_)
     refine LWp.o 12 (.one (.view (.slot 0) 0 [] 0)) ?_
     refine LWp.o 13 (I yI1) ?_
     refine LWp.o 14 (I yK1) ?_
     refine LWp.cl h 15 (fun v1 => (Y v1)) rfl (l := [.sv (.one (.int .i64 yK1))]) rfl (fun v hv => w_markText_t yK1 v hv) (.inl rfl) ?_
     intro v1 gv1 h
     refine LWp.p h 16 (fun _ => (.one (.ptr (.slot 0) 0 [0] (Int.toNat yI1 * 1 + 0)))) ?_ (fun x1 gx1 => st_pure (p_ix k9 (.slot 0) [] 0 gx1))
     intro x1 gx1 h
     refine LWp.sb [] (.slot 0) [.sl true 9 1 (encs c9 (si yA1 yI1 v1))] ?_ (s_st [] (q := [0]) (cs := [.sl true 9 1 (encs c9 yA1)]) (xs := [.str v1]) (At.one (setRow_gi k9 (k := 0) (z := v1) gx1 rfl rfl)) (fit_gi k9 (k := 0) gx1 rfl))
     refine LWp.nil ?_
     refine Wp.region ?_
     refine LWp.o 17 (I yK1) ?_
     refine LWp.o 18 (I (ad yK1 1)) ?_
     refine LWp.o 1 (I (ad yK1 1)) ?_
     refine LWp.nil ?_
     refine Wp.region ?_
     refine LWp.o 10 (I yI1) ?_
     refine LWp.o 11 (I (ad yI1 1)) ?_
     refine LWp.o 5 (I (ad yI1 1)) ?_
     refine LWp.nil ?_
     cases h
     exact ⟨_, rfl, rfl, rfl⟩
   refine Wp.exit ?_
   cases h
   exact ⟨_, rfl, rfl, rfl⟩
 intro v2 h E hE
 refine nt_wp hE ?_
 change Wp _ _ _ (w_markStringS_H2 v2.1 v2.2) _
 refine Wp.seq (Wp.region ?_)
 refine LWp.o 19 (I v2.2) ?_
 refine LWp.o 4 (I v2.2) ?_
 refine LWp.nil ?_
 cases h
 exact Wp.ret ⟨.inr rfl, _, _, rfl, rfl, rfl, rfl⟩
def w_markShelfS_H1 (z1 : List Shelf) (z2 : Int) (z3 : Int) : St := mkStF [(0, (.one (.sl true 113 2 (encs (c113 true) z1)))), (1, (I z2)), (5, (I z3))] []
def w_markShelfS_H2 (z4 : List Shelf) (z5 : Int) : St := mkStF [(0, (.one (.sl true 113 2 (encs (c113 true) z4)))), (1, (I z5))] []
theorem w_markShelfS_t (xA : List Shelf) (xK : Int) (r : Int × List Shelf) (h : w_markShelfS xA xK = some r) : Gives Tryz.prog 26 [.sv (.one (.sl true 113 2 (encs (c113 true) xA))), .sv (I xK)] (I r.1) (.sv (.one (.sl true 113 2 (encs (c113 true) r.2))) :: List.replicate 1 .gone) := by
 unfold w_markShelfS at h
 refine gives_lent Tryz.func26 rfl ?_
 rw [Tryz.ntmps26]
 refine Wp.seq (Wp.region ?_)
 refine LWp.o 4 (I 0) ?_
 refine LWp.nil ?_
 refine Wp.seq ?_
 refine Wp.seq (Wp.region ?_)
 refine LWp.o 5 (I 0) ?_
 refine LWp.nil ?_
 refine Wp.l1 h [0, 1, 5] [] (fun s => (w_markShelfS_H1 s.1 s.2.1 s.2.2)) [0, 1] [] (fun s => (w_markShelfS_H2 s.1 s.2)) ⟨rfl, rfl⟩ ?_ ?_
 · rintro ⟨yA1, yK1, yI1⟩ o (h : w_markShelfS_b1 yA1 yK1 yI1 = some o)
   unfold w_markShelfS_b1 at h
   change Wp _ _ _ (w_markShelfS_H1 yA1 yK1 yI1) _
   refine Wp.seq ?_
   refine Wp.seq (Wp.region ?_)
   refine LWp.o 6 (I yI1) ?_
   refine LWp.o 7 (.one (.view (.slot 0) 0 [] 0)) ?_
   refine LWp.o 8 (I (ln yA1)) ?_ (st_pure (p_ln (k113 true) yA1))
   refine LWp.o 9 (B (decide (yI1 < (ln yA1)))) ?_
   refine LWp.nil ?_
   refine Wp.c h (fun h => ?_) (fun h => ?_)
   · refine Wp.skip ?_
     refine Wp.seq ?_
     refine Wp.block ?_
     refine Wp.seq (Wp.region ?_)
     refine LWp.o 12 (.one (.view (.slot 0) 0 [] 0)) ?_
     refine LWp.o 13 (I yI1) ?_
     refine LWp.o 14 (I yK1) ?_
     refine LWp.p h 15 (fun _ => (.one (.ptr (.slot 0) 0 [0] (Int.toNat yI1 * 2 + 0)))) ?_ (fun x1 gx1 => st_pure (p_ix (k113 true) (.slot 0) [] 0 gx1))
     intro x1 gx1 h
     refine LWp.o 16 (.one (.ptr (.slot 0) 0 [0] (Int.toNat yI1 * 2 + 0))) ?_ (st_pure (p_fa (k113 true) (.slot 0) [0] 0 gx1))
     refine LWp.sb [] (.slot 0) [.sl true 113 2 (encs (c113 true) (si yA1 yI1 (Shelf.mk yK1 x1.Texts)))] ?_ (s_st [] (q := [0]) (cs := [.sl true 113 2 (encs (c113 true) yA1)]) (xs := [.int .i64 yK1]) (At.one (setRow_gi (k113 true) (k := 0) (z := (Shelf.mk yK1 x1.Texts)) gx1 rfl rfl)) (fit_gi (k113 true) (k := 0) gx1 rfl))
     refine LWp.nil ?_
     refine Wp.seq (Wp.region ?_)
     refine LWp.o 17 (I yK1) ?_
     refine LWp.o 18 (I (ad yK1 1)) ?_
     refine LWp.o 1 (I (ad yK1 1)) ?_
     refine LWp.nil ?_
     refine Wp.region ?_
     refine LWp.o 19 (.one (.view (.slot 0) 1 [] 0)) ?_
     refine LWp.o 20 (I yI1) ?_
     refine LWp.p h 21 (fun _ => (.one (.ptr (.slot 0) 1 [0] (Int.toNat yI1 * 2 + 0)))) ?_ (fun x2 gx2 => st_pure (p_ix (k113 true) (.slot 0) [] 0 gx2))
     intro x2 gx2 h
     refine LWp.o 22 (.one (.ptr (.slot 0) 1 [0] (Int.toNat yI1 * 2 + 1))) ?_ (st_pure (p_fa (k113 true) (.slot 0) [0] 0 gx2))
     refine LWp.o 23 (.one (.view (.slot 0) 1 [0] (Int.toNat yI1 * 2 + 1))) ?_ (st_pure (p_lc (k113 true) (.slot 0) [0] 1 (.sl true 9 1 (encs c9 x2.Texts)) gx2))
     refine LWp.o 24 (I (ad yK1 1)) ?_
     refine LWp.leb h (.slot 0) [0] (Int.toNat yI1 * 2 + 1) [.sl true 113 2 (encs (c113 true) (si yA1 yI1 (Shelf.mk yK1 x1.Texts)))] 25 (e := 9) (sz := 1) (encs c9 x2.Texts) (ad yK1 1) (fun v => v.1) (fun v1 => (encs c9 v1.2)) (fun v1 => [.sl true 113 2 (encs (c113 true) (si (si yA1 yI1 (Shelf.mk yK1 x1.Texts)) yI1 (Shelf.mk x2.Vol v1.2)))]) rfl (fun v1 => At.one (set_gi (k113 true) (k := 1) (z := (Shelf.mk x2.Vol v1.2)) gx2 rfl rfl)) ((gi_cellb (k113 true) (k := 1) gx2).trans rfl) (fun v hv => w_markStringS_t x2.Texts (ad yK1 1) v hv) (ns9 _) (fun _ => ns9 _) ?_ (.inl ⟨0, _, rfl, rfl, rfl, rfl, fun _ _ _ _ _ _ _ h => h⟩)
     intro v1 gv1 h
     refine LWp.o 1 (I v1.1) ?_
     refine LWp.nil ?_
     refine Wp.region ?_
     refine LWp.o 10 (I yI1) ?_
     refine LWp.o 11 (I (ad yI1 1)) ?_
     refine LWp.o 5 (I (ad yI1 1)) ?_
     refine LWp.nil ?_
     cases h
     exact ⟨_, rfl, rfl, rfl⟩
   refine Wp.exit ?_
   cases h
   exact ⟨_, rfl, rfl, rfl⟩
 intro v2 h E hE
 refine nt_wp hE ?_
 change Wp _ _ _ (w_markShelfS_H2 v2.1 v2.2) _
 refine Wp.seq (Wp.region ?_)
 refine LWp.o 26 (I v2.2) ?_
 refine LWp.o 4 (I v2.2) ?_
 refine LWp.nil ?_
 cases h
 exact Wp.ret ⟨.inr rfl, _, _, rfl, rfl, rfl, rfl⟩
def w_heldStringS_H1 (xA : List ByteArray) (z1 : Int) (z2 : Int) : St := mkSt [(0, (.one (.sl false 9 1 (encs c9 xA)))), (1, (I z1)), (5, (I z2))] []
def w_heldStringS_H2 (z3 : Int) : St := mkSt [(1, (I z3))] []
theorem w_heldStringS_t (xA : List ByteArray) (xK : Int) (r : Int) (h : w_heldStringS xA xK = some r) : Gives Tryz.prog 61 [.sv (.one (.sl false 9 1 (encs c9 xA))), .sv (I xK)] (I r) (List.replicate 2 .gone) := by
 unfold w_heldStringS at h
 refine gives_of Tryz.func61 rfl ?_
 rw [Tryz.ntmps61]
 refine Wp.seq (Wp.region ?_)
 refine LWp.o 4 (I 0) ?_
 refine LWp.nil ?_
 refine Wp.seq ?_
 refine Wp.seq (Wp.region ?_)
 refine LWp.o 5 (I 0) ?_
 refine LWp.nil ?_
 refine Wp.l2 h [0, 1, 5] [] (fun s => (w_heldStringS_H1 xA s.1 s.2)) [1] [] (fun s => (w_heldStringS_H2 s)) ⟨rfl, rfl⟩ ?_ ?_
 · rintro ⟨yK1, yI1⟩ o (h : w_heldStringS_b1 xA yK1 yI1 = some o) hk1
   unfold w_heldStringS_b1 at h
   change Wp _ _ _ (w_heldStringS_H1 xA yK1 yI1) _
   refine Wp.seq ?_
   refine Wp.seq (Wp.region ?_)
   refine LWp.o 6 (I yI1) ?_
   refine LWp.o 7 (.one (.sl false 9 1 (encs c9 xA))) ?_
   refine LWp.o 8 (I (ln xA)) ?_ (st_pure (p_ln k9 xA))
   refine LWp.o 9 (B (decide (yI1 < (ln xA)))) ?_
   refine LWp.nil ?_
   refine Wp.c h (fun h => ?_) (fun h => ?_)
   · refine Wp.skip ?_
     refine Wp.seq ?_
     refine Wp.block ?_
     refine Wp.seq ?_
     refine Wp.seq ?_
     refine Wp.regionK 7 [] mixed (fun c E h => by rcases h with ⟨h | h, _⟩ <;> cases h) ?_
     refine KWp.o 7 0 12 (.one (.sl false 9 1 (encs c9 xA))) ?_
     refine KWp.o 7 1 13 (I yI1) ?_
     refine KWp.p h 7 2 14 (fun _ => (.one (.ptr (.slot 12) 1 [0] (Int.toNat yI1 * 1 + 0)))) ?_ rfl (fun x1 gx1 => sl_pure (p_ix k9 (.slot 12) [] 0 gx1))
     intro x1 gx1 h
     refine KWp.o 7 3 15 (Y x1) ?_ rfl (sl_pure (p_lc k9 (.slot 12) [0] 0 (.str x1) gx1))
     refine KWp.o 7 4 16 (I yK1) ?_
     refine KWp.w1 5 ?_
     refine KOp.cl h 5 17 (fun v1 => (Y v1)) rfl rfl (l := [.sv (.one (.int .i64 yK1))]) rfl (fun v hv => w_markText_t yK1 v hv) (.inl rfl) ?_
     intro v1 gv1 h
     refine KWp.o 7 6 18 (B (!(seq x1 v1))) ?_
     refine KWp.done ?_
     refine Wp.c h (fun h => ?_) (fun h => ?_)
     · refine Wp.seq (Wp.region ?_)
       refine LWp.o 4 (I (-1)) ?_
       refine LWp.nil ?_
       cases h
       replace h : some _ = some _ := hk1 _ rfl
       cases h
       exact Wp.ret ⟨.inr rfl, _, _, rfl, rfl⟩
     refine Wp.skip ?_
     refine Wp.region ?_
     refine LWp.o 19 (I yK1) ?_
     refine LWp.o 20 (I (ad yK1 1)) ?_
     refine LWp.o 1 (I (ad yK1 1)) ?_
     refine LWp.nil ?_
     refine Wp.region ?_
     refine LWp.o 10 (I yI1) ?_
     refine LWp.o 11 (I (ad yI1 1)) ?_
     refine LWp.o 5 (I (ad yI1 1)) ?_
     refine LWp.nil ?_
     cases h
     exact ⟨_, rfl, rfl, rfl⟩
   refine Wp.exit ?_
   cases h
   exact ⟨_, rfl, rfl, rfl⟩
 intro v2 h E hE
 refine nt_wp hE ?_
 change Wp _ _ _ (w_heldStringS_H2 v2) _
 refine Wp.seq (Wp.region ?_)
 refine LWp.o 21 (I v2) ?_
 refine LWp.o 4 (I v2) ?_
 refine LWp.nil ?_
 cases h
 exact Wp.ret ⟨.inr rfl, _, _, rfl, rfl⟩
def w_heldShelfS_H1 (xA : List Shelf) (z1 : Int) (z2 : Int) : St := mkSt [(0, (.one (.sl false 113 2 (encs (c113 false) xA)))), (1, (I z1)), (5, (I z2))] []
def w_heldShelfS_H2 (z3 : Int) : St := mkSt [(1, (I z3))] []
theorem w_heldShelfS_t (xA : List Shelf) (xK : Int) (r : Int) (h : w_heldShelfS xA xK = some r) : Gives Tryz.prog 27 [.sv (.one (.sl false 113 2 (encs (c113 false) xA))), .sv (I xK)] (I r) (List.replicate 2 .gone) := by
 unfold w_heldShelfS at h
 refine gives_of Tryz.func27 rfl ?_
 rw [Tryz.ntmps27]
 refine Wp.seq (Wp.region ?_)
 refine LWp.o 4 (I 0) ?_
 refine LWp.nil ?_
 refine Wp.seq ?_
 refine Wp.seq (Wp.region ?_)
 refine LWp.o 5 (I 0) ?_
 refine LWp.nil ?_
 refine Wp.l2 h [0, 1, 5] [] (fun s => (w_heldShelfS_H1 xA s.1 s.2)) [1] [] (fun s => (w_heldShelfS_H2 s)) ⟨rfl, rfl⟩ ?_ ?_
 · rintro ⟨yK1, yI1⟩ o (h : w_heldShelfS_b1 xA yK1 yI1 = some o) hk1
   unfold w_heldShelfS_b1 at h
   change Wp _ _ _ (w_heldShelfS_H1 xA yK1 yI1) _
   refine Wp.seq ?_
   refine Wp.seq (Wp.region ?_)
   refine LWp.o 6 (I yI1) ?_
   refine LWp.o 7 (.one (.sl false 113 2 (encs (c113 false) xA))) ?_
   refine LWp.o 8 (I (ln xA)) ?_ (st_pure (p_ln (k113 false) xA))
   refine LWp.o 9 (B (decide (yI1 < (ln xA)))) ?_
   refine LWp.nil ?_
   refine Wp.c h (fun h => ?_) (fun h => ?_)
   · refine Wp.skip ?_
     refine Wp.seq ?_
     refine Wp.block ?_
     refine Wp.seq ?_
     refine Wp.seq (Wp.region ?_)
     refine LWp.o 12 (.one (.sl false 113 2 (encs (c113 false) xA))) ?_
     refine LWp.o 13 (I yI1) ?_
     refine LWp.p h 14 (fun _ => (.one (.ptr (.slot 12) 1 [0] (Int.toNat yI1 * 2 + 0)))) ?_ (fun x1 gx1 => st_pure (p_ix (k113 false) (.slot 12) [] 0 gx1))
     intro x1 gx1 h
     refine LWp.o 15 (.one (.ptr (.slot 12) 1 [0] (Int.toNat yI1 * 2 + 0))) ?_ (st_pure (p_fa (k113 false) (.slot 12) [0] 0 gx1))
     refine LWp.o 16 (I x1.Vol) ?_ (st_pure (p_lc (k113 false) (.slot 12) [0] 0 (.int .i64 x1.Vol) gx1))
     refine LWp.o 17 (I yK1) ?_
     refine LWp.o 18 (B (x1.Vol != yK1)) ?_
     refine LWp.nil ?_
     refine Wp.c h (fun h => ?_) (fun h => ?_)
     · refine Wp.seq (Wp.region ?_)
       refine LWp.o 4 (I (-1)) ?_
       refine LWp.nil ?_
       cases h
       replace h : some _ = some _ := hk1 _ rfl
       cases h
       exact Wp.ret ⟨.inr rfl, _, _, rfl, rfl⟩
     refine Wp.skip ?_
     refine Wp.seq (Wp.region ?_)
     refine LWp.o 19 (I yK1) ?_
     refine LWp.o 20 (I (ad yK1 1)) ?_
     refine LWp.o 1 (I (ad yK1 1)) ?_
     refine LWp.nil ?_
     refine Wp.seq (Wp.region ?_)
     refine LWp.o 21 (.one (.sl false 113 2 (encs (c113 false) xA))) ?_
     refine LWp.o 22 (I yI1) ?_
     refine LWp.p h 23 (fun _ => (.one (.ptr (.slot 21) 1 [0] (Int.toNat yI1 * 2 + 0)))) ?_ (fun x2 gx2 => st_pure (p_ix (k113 false) (.slot 21) [] 0 gx2))
     intro x2 gx2 h
     refine LWp.o 24 (.one (.ptr (.slot 21) 1 [0] (Int.toNat yI1 * 2 + 1))) ?_ (st_pure (p_fa (k113 false) (.slot 21) [0] 0 gx2))
     refine LWp.o 25 (.one (.sl false 9 1 (encs c9 x2.Texts))) ?_ (st_pure (p_lc (k113 false) (.slot 21) [0] 1 (.sl false 9 1 (encs c9 x2.Texts)) gx2))
     refine LWp.o 26 (I (ad yK1 1)) ?_
     refine LWp.cl h 27 (fun v1 => (I v1)) rfl (l := [.sv (.one (.sl false 9 1 (encs c9 x2.Texts))), .sv (.one (.int .i64 (ad yK1 1)))]) rfl (fun v hv => w_heldStringS_t x2.Texts (ad yK1 1) v hv) (.inl rfl) ?_
     intro v1 gv1 h
     refine LWp.o 1 (I v1) ?_
     refine LWp.nil ?_
     refine Wp.seq (Wp.region ?_)
     refine LWp.o 28 (I v1) ?_
     refine LWp.o 29 (B (decide (v1 < 0))) ?_
     refine LWp.nil ?_
     refine Wp.c h (fun h => ?_) (fun h => ?_)
     · refine Wp.seq (Wp.region ?_)
       refine LWp.o 4 (I (-1)) ?_
       refine LWp.nil ?_
       cases h
       replace h : some _ = some _ := hk1 _ rfl
       cases h
       exact Wp.ret ⟨.inr rfl, _, _, rfl, rfl⟩
     refine Wp.skip ?_
     refine Wp.region ?_
     refine LWp.o 10 (I yI1) ?_
     refine LWp.o 11 (I (ad yI1 1)) ?_
     refine LWp.o 5 (I (ad yI1 1)) ?_
     refine LWp.nil ?_
     cases h
     exact ⟨_, rfl, rfl, rfl⟩
   refine Wp.exit ?_
   cases h
   exact ⟨_, rfl, rfl, rfl⟩
 intro v2 h E hE
 refine nt_wp hE ?_
 change Wp _ _ _ (w_heldShelfS_H2 v2) _
 refine Wp.seq (Wp.region ?_)
 refine LWp.o 30 (I v2) ?_
 refine LWp.o 4 (I v2) ?_
 refine LWp.nil ?_
 cases h
 exact Wp.ret ⟨.inr rfl, _, _, rfl, rfl⟩
def w_FnExactModelOfDevice_H1 (xAD : Device) (v3 : List Shelf) (v5 : List Shelf) (z1 : Bool) : St := mkSt [(1, (.one (.ptr (.box 1) 0 [] 0))), (4, (.one (.sl true 113 2 (encs (c113 true) v3)))), (6, (.one (.sl true 113 2 (encs (c113 true) v5)))), (42, (B z1))] [(.box 1, [.sl false 176 3 (encs (c176 false) xAD.Flash.Blocks), .sl false 188 2 (encs c188 xAD.Store.Vols), .sl false 211 2 (encs (c211 false) xAD.Store.Arena.Knots), .int .i64 xAD.Store.Next, .int .i64 xAD.Seq, .int .i64 xAD.Tx, .int .i64 xAD.Base])]
theorem w_FnExactModelOfDevice_t (xAD : Device) (r : Bool) (h : w_FnExactModelOfDevice xAD = some r) : Gives Tryz.prog 5 [.sv (.agg [.sl false 176 3 (encs (c176 false) xAD.Flash.Blocks), .sl false 188 2 (encs c188 xAD.Store.Vols), .sl false 211 2 (encs (c211 false) xAD.Store.Arena.Knots), .int .i64 xAD.Store.Next, .int .i64 xAD.Seq, .int .i64 xAD.Tx, .int .i64 xAD.Base])] (B r) (List.replicate 1 .gone) := by
 unfold w_FnExactModelOfDevice at h
 refine gives_of Tryz.func5 rfl ?_
 rw [Tryz.ntmps5]
 refine Wp.seq (Wp.region ?_)
 refine LWp.b [] 1 [.sl false 176 3 (encs (c176 false) xAD.Flash.Blocks), .sl false 188 2 (encs c188 xAD.Store.Vols), .sl false 211 2 (encs (c211 false) xAD.Store.Arena.Knots), .int .i64 xAD.Store.Next, .int .i64 xAD.Seq, .int .i64 xAD.Tx, .int .i64 xAD.Base] ?_
 refine LWp.o 2 (B false) ?_
 refine LWp.nil ?_
 refine Wp.seq (Wp.region ?_)
 refine LWp.o 3 (I 1048576) ?_
 refine LWp.nil ?_
 refine Wp.seq (Wp.region ?_)
 refine LWp.o 11 (.agg [.sl false 176 3 (encs (c176 false) xAD.Flash.Blocks), .sl false 188 2 (encs c188 xAD.Store.Vols), .sl false 211 2 (encs (c211 false) xAD.Store.Arena.Knots), .int .i64 xAD.Store.Next, .int .i64 xAD.Seq, .int .i64 xAD.Tx, .int .i64 xAD.Base]) ?_
 refine LWp.o 12 (I 1048576) ?_
 refine LWp.cl h 13 (fun v1 => (I v1)) rfl (l := [.sv (.agg [.sl false 176 3 (encs (c176 false) xAD.Flash.Blocks), .sl false 188 2 (encs c188 xAD.Store.Vols), .sl false 211 2 (encs (c211 false) xAD.Store.Arena.Knots), .int .i64 xAD.Store.Next, .int .i64 xAD.Seq, .int .i64 xAD.Tx, .int .i64 xAD.Base]), .sv (.one (.int .i64 1048576))]) rfl (fun v hv => w_szDevice_t xAD 1048576 v hv) (.inl rfl) ?_
 intro v1 gv1 h
 refine LWp.o 3 (I v1) ?_
 refine LWp.nil ?_
 refine Wp.seq ?_
 refine Wp.seq (Wp.region ?_)
 refine LWp.o 14 (I v1) ?_
 refine LWp.o 15 (B (decide (v1 < 0))) ?_
 refine LWp.nil ?_
 refine Wp.c h (fun h => ?_) (fun h => ?_)
 · refine Wp.seq (Wp.region ?_)
   refine LWp.o 2 (B true) ?_
   refine LWp.nil ?_
   cases h
   exact Wp.ret ⟨.inr rfl, _, _, rfl, rfl⟩
 refine Wp.skip ?_
 refine Wp.seq (Wp.region ?_)
 refine LWp.o 16 (.agg [.sl false 176 3 (encs (c176 false) xAD.Flash.Blocks), .sl false 188 2 (encs c188 xAD.Store.Vols), .sl false 211 2 (encs (c211 false) xAD.Store.Arena.Knots), .int .i64 xAD.Store.Next, .int .i64 xAD.Seq, .int .i64 xAD.Tx, .int .i64 xAD.Base]) ?_
 refine LWp.cl h 17 (fun v2 => (.agg [.sl true 124 3 (encs (c124 true) v2.Flash.Blocks), .sl true 110 2 (encs c110 v2.Store.Vols), .sl true 218 2 (encs (c218 true) v2.Store.Arena.Knots), .int .i64 v2.Store.Next, .int .i64 v2.Seq, .int .i64 v2.Tx, .int .i64 v2.Base])) rfl (l := [.sv (.agg [.sl false 176 3 (encs (c176 false) xAD.Flash.Blocks), .sl false 188 2 (encs c188 xAD.Store.Vols), .sl false 211 2 (encs (c211 false) xAD.Store.Arena.Knots), .int .i64 xAD.Store.Next, .int .i64 xAD.Seq, .int .i64 xAD.Tx, .int .i64 xAD.Base])]) rfl (fun v hv => w_toDevice_t xAD v hv) (.inl rfl) ?_
 intro v2 gv2 h
 refine LWp.cl h 18 (fun v3 => (.one (.sl true 113 2 (encs (c113 true) v3)))) rfl (l := [.sv (.agg [.sl false 124 3 (shares (encs (c124 true) v2.Flash.Blocks)), .sl false 110 2 (shares (encs c110 v2.Store.Vols)), .sl false 218 2 (shares (encs (c218 true) v2.Store.Arena.Knots)), .int .i64 v2.Store.Next, .int .i64 v2.Seq, .int .i64 v2.Tx, .int .i64 v2.Base])]) rfl (fun v hv => cg (l := [.sv (.agg [.sl false 124 3 (shares (encs (c124 true) v2.Flash.Blocks)), .sl false 110 2 (shares (encs c110 v2.Store.Vols)), .sl false 218 2 (shares (encs (c218 true) v2.Store.Arena.Knots)), .int .i64 v2.Store.Next, .int .i64 v2.Seq, .int .i64 v2.Tx, .int .i64 v2.Base])]) (by simp only [sh110, sh124, sh218]) (s_ModelOfDevice_t v2 v hv)) (.inr (fun v => by simp [svShared, svShareds, hasShareds, hasShared, ns113])) ?_
 intro v3 gv3 h
 refine LWp.m true [(.slot 18, [.junk])] 4 (.one (.sl true 113 2 (encs (c113 true) v3))) ?_
 refine LWp.nil ?_
 refine Wp.seq (Wp.region ?_)
 refine LWp.o 19 (.agg [.sl false 176 3 (encs (c176 false) xAD.Flash.Blocks), .sl false 188 2 (encs c188 xAD.Store.Vols), .sl false 211 2 (encs (c211 false) xAD.Store.Arena.Knots), .int .i64 xAD.Store.Next, .int .i64 xAD.Seq, .int .i64 xAD.Tx, .int .i64 xAD.Base]) ?_
 refine LWp.cl h 20 (fun v4 => (.agg [.sl true 124 3 (encs (c124 true) v4.Flash.Blocks), .sl true 110 2 (encs c110 v4.Store.Vols), .sl true 218 2 (encs (c218 true) v4.Store.Arena.Knots), .int .i64 v4.Store.Next, .int .i64 v4.Seq, .int .i64 v4.Tx, .int .i64 v4.Base])) rfl (l := [.sv (.agg [.sl false 176 3 (encs (c176 false) xAD.Flash.Blocks), .sl false 188 2 (encs c188 xAD.Store.Vols), .sl false 211 2 (encs (c211 false) xAD.Store.Arena.Knots), .int .i64 xAD.Store.Next, .int .i64 xAD.Seq, .int .i64 xAD.Tx, .int .i64 xAD.Base])]) rfl (fun v hv => w_toDevice_t xAD v hv) (.inl rfl) ?_
 intro v4 gv4 h
 refine LWp.b [] 5 [.sl true 124 3 (encs (c124 true) []), .sl true 110 2 (encs c110 []), .sl true 218 2 (encs (c218 true) []), .int .i64 0, .int .i64 0, .int .i64 0, .int .i64 0] ?_
 refine LWp.sb [(.slot 20, [.junk, .sl true 110 2 (encs c110 v4.Store.Vols), .sl true 218 2 (encs (c218 true) v4.Store.Arena.Knots), .int .i64 v4.Store.Next, .int .i64 v4.Seq, .int .i64 v4.Tx, .int .i64 v4.Base]), (.slot 20, [.junk, .junk, .sl true 218 2 (encs (c218 true) v4.Store.Arena.Knots), .int .i64 v4.Store.Next, .int .i64 v4.Seq, .int .i64 v4.Tx, .int .i64 v4.Base]), (.slot 20, [.junk, .junk, .junk, .int .i64 v4.Store.Next, .int .i64 v4.Seq, .int .i64 v4.Tx, .int .i64 v4.Base])] (.box 5) [.sl true 124 3 (encs (c124 true) v4.Flash.Blocks), .sl true 110 2 (encs c110 v4.Store.Vols), .sl true 218 2 (encs (c218 true) v4.Store.Arena.Knots), .int .i64 v4.Store.Next, .int .i64 v4.Seq, .int .i64 v4.Tx, .int .i64 v4.Base] ?_
 refine LWp.nil ?_
 refine Wp.seq (Wp.region ?_)
 refine LWp.o 21 (.agg [.view (.box 5) 2 [] 0, .view (.box 5) 2 [] 1, .view (.box 5) 2 [] 2, .int .i64 v4.Store.Next, .int .i64 v4.Seq, .int .i64 v4.Tx, .int .i64 v4.Base]) ?_
 refine LWp.cl h 22 (fun v5 => (.one (.sl true 113 2 (encs (c113 true) v5)))) rfl (l := [.sv (.agg [.sl false 124 3 (shares (encs (c124 true) v4.Flash.Blocks)), .sl false 110 2 (shares (encs c110 v4.Store.Vols)), .sl false 218 2 (shares (encs (c218 true) v4.Store.Arena.Knots)), .int .i64 v4.Store.Next, .int .i64 v4.Seq, .int .i64 v4.Tx, .int .i64 v4.Base])]) rfl (fun v hv => cg (l := [.sv (.agg [.sl false 124 3 (shares (encs (c124 true) v4.Flash.Blocks)), .sl false 110 2 (shares (encs c110 v4.Store.Vols)), .sl false 218 2 (shares (encs (c218 true) v4.Store.Arena.Knots)), .int .i64 v4.Store.Next, .int .i64 v4.Seq, .int .i64 v4.Tx, .int .i64 v4.Base])]) (by simp only [sh110, sh124, sh218]) (i_ModelOfDevice_t v4 v hv)) (.inr (fun v => by simp [svShared, svShareds, hasShareds, hasShared, ns113])) ?_
 intro v5 gv5 h
 refine LWp.m true [(.slot 22, [.junk])] 6 (.one (.sl true 113 2 (encs (c113 true) v5))) ?_
 refine LWp.nil ?_
 refine Wp.seq ?_
 refine Wp.seq (Wp.region ?_)
 refine LWp.o 23 (.one (.view (.slot 6) 1 [] 0)) ?_
 refine LWp.o 24 (.one (.view (.slot 4) 1 [] 0)) ?_
 refine LWp.cl h 25 (fun v6 => (B v6)) rfl (l := [.sv (.one (.sl false 113 2 (shares (encs (c113 true) v5)))), .sv (.one (.sl false 113 2 (shares (encs (c113 true) v3))))]) rfl (fun v hv => cg (l := [.sv (.one (.sl false 113 2 (shares (encs (c113 true) v5)))), .sv (.one (.sl false 113 2 (shares (encs (c113 true) v3))))]) (by simp only [sh113]) (w_eqShelfS_t v5 v3 v hv)) (.inr (fun v => rfl)) ?_
 intro v6 gv6 h
 refine LWp.o 26 (B (!v6)) ?_
 refine LWp.nil ?_
 refine Wp.c h (fun h => ?_) (fun h => ?_)
 · refine Wp.seq (Wp.region ?_)
   refine LWp.o 2 (B false) ?_
   refine LWp.nil ?_
   cases h
   exact Wp.ret ⟨.inr rfl, _, _, rfl, rfl⟩
 refine Wp.skip ?_
 refine Wp.seq ?_
 refine Wp.seq ?_
 refine Wp.regionK 5 [] mixed (fun c E h => by rcases h with ⟨h | h, _⟩ <;> cases h) ?_
 refine KWp.o 5 0 27 (.agg [.view (.box 5) 2 [] 0, .view (.box 5) 2 [] 1, .view (.box 5) 2 [] 2, .int .i64 v4.Store.Next, .int .i64 v4.Seq, .int .i64 v4.Tx, .int .i64 v4.Base]) ?_
 refine KWp.o 5 1 28 (.agg [.sl false 176 3 (encs (c176 false) xAD.Flash.Blocks), .sl false 188 2 (encs c188 xAD.Store.Vols), .sl false 211 2 (encs (c211 false) xAD.Store.Arena.Knots), .int .i64 xAD.Store.Next, .int .i64 xAD.Seq, .int .i64 xAD.Tx, .int .i64 xAD.Base]) ?_
 refine KWp.w1 2 ?_
 refine KOp.cl h 2 29 (fun v7 => (.agg [.sl true 124 3 (encs (c124 true) v7.Flash.Blocks), .sl true 110 2 (encs c110 v7.Store.Vols), .sl true 218 2 (encs (c218 true) v7.Store.Arena.Knots), .int .i64 v7.Store.Next, .int .i64 v7.Seq, .int .i64 v7.Tx, .int .i64 v7.Base])) rfl rfl (l := [.sv (.agg [.sl false 176 3 (encs (c176 false) xAD.Flash.Blocks), .sl false 188 2 (encs c188 xAD.Store.Vols), .sl false 211 2 (encs (c211 false) xAD.Store.Arena.Knots), .int .i64 xAD.Store.Next, .int .i64 xAD.Seq, .int .i64 xAD.Tx, .int .i64 xAD.Base])]) rfl (fun v hv => w_toDevice_t xAD v hv) (.inl rfl) ?_
 intro v7 gv7 h
 refine KWp.w1 3 ?_
 refine KOp.cl h 3 30 (fun v8 => (B v8)) rfl rfl (l := [.sv (.agg [.sl false 124 3 (shares (encs (c124 true) v4.Flash.Blocks)), .sl false 110 2 (shares (encs c110 v4.Store.Vols)), .sl false 218 2 (shares (encs (c218 true) v4.Store.Arena.Knots)), .int .i64 v4.Store.Next, .int .i64 v4.Seq, .int .i64 v4.Tx, .int .i64 v4.Base]), .sv (.agg [.sl false 124 3 (shares (encs (c124 true) v7.Flash.Blocks)), .sl false 110 2 (shares (encs c110 v7.Store.Vols)), .sl false 218 2 (shares (encs (c218 true) v7.Store.Arena.Knots)), .int .i64 v7.Store.Next, .int .i64 v7.Seq, .int .i64 v7.Tx, .int .i64 v7.Base])]) rfl (fun v hv => cg (l := [.sv (.agg [.sl false 124 3 (shares (encs (c124 true) v4.Flash.Blocks)), .sl false 110 2 (shares (encs c110 v4.Store.Vols)), .sl false 218 2 (shares (encs (c218 true) v4.Store.Arena.Knots)), .int .i64 v4.Store.Next, .int .i64 v4.Seq, .int .i64 v4.Tx, .int .i64 v4.Base]), .sv (.agg [.sl false 124 3 (shares (encs (c124 true) v7.Flash.Blocks)), .sl false 110 2 (shares (encs c110 v7.Store.Vols)), .sl false 218 2 (shares (encs (c218 true) v7.Store.Arena.Knots)), .int .i64 v7.Store.Next, .int .i64 v7.Seq, .int .i64 v7.Tx, .int .i64 v7.Base])]) (by simp only [sh110, sh124, sh218]) (w_eqDevice_t v4 v7 v hv)) (.inr (fun v => rfl)) ?_
 intro v8 gv8 h
 refine KWp.o 5 4 31 (B (!v8)) ?_
 refine KWp.done ?_
 refine Wp.c h (fun h => ?_) (fun h => ?_)
 · refine Wp.seq (Wp.region ?_)
   refine LWp.o 2 (B false) ?_
   refine LWp.nil ?_
   cases h
   exact Wp.ret ⟨.inr rfl, _, _, rfl, rfl⟩
 refine Wp.skip ?_
 refine Wp.seq (Wp.region ?_)
 refine LWp.o 7 (I 1) ?_
 refine LWp.nil ?_
 refine Wp.seq (Wp.region ?_)
 refine LWp.o 32 (.agg [.view (.box 5) 2 [] 0, .view (.box 5) 2 [] 1, .view (.box 5) 2 [] 2, .int .i64 v4.Store.Next, .int .i64 v4.Seq, .int .i64 v4.Tx, .int .i64 v4.Base]) ?_
 refine LWp.o 33 (I 1) ?_
 refine LWp.cm h [(.box 5, [.junk, .sl true 110 2 (encs c110 v4.Store.Vols), .sl true 218 2 (encs (c218 true) v4.Store.Arena.Knots), .int .i64 v4.Store.Next, .int .i64 v4.Seq, .int .i64 v4.Tx, .int .i64 v4.Base]), (.box 5, [.junk, .junk, .sl true 218 2 (encs (c218 true) v4.Store.Arena.Knots), .int .i64 v4.Store.Next, .int .i64 v4.Seq, .int .i64 v4.Tx, .int .i64 v4.Base]), (.box 5, [.junk, .junk, .junk, .int .i64 v4.Store.Next, .int .i64 v4.Seq, .int .i64 v4.Tx, .int .i64 v4.Base])] 34 (fun v9 => (I v9)) rfl rfl (l := [.sv (.agg [.sl true 124 3 (encs (c124 true) v4.Flash.Blocks), .sl true 110 2 (encs c110 v4.Store.Vols), .sl true 218 2 (encs (c218 true) v4.Store.Arena.Knots), .int .i64 v4.Store.Next, .int .i64 v4.Seq, .int .i64 v4.Tx, .int .i64 v4.Base]), .sv (I 1)]) rfl (fun v hv => w_markDevice_t v4 1 v hv) (.inl rfl) ?_
 intro v9 gv9 h
 refine LWp.o 7 (I v9) ?_
 refine LWp.nil ?_
 refine Wp.seq ?_
 refine Wp.seq ?_
 refine Wp.j1 h [1, 4, 6, 42] [.box 1] (fun a => (w_FnExactModelOfDevice_H1 xAD v3 v5 a)) ?_ ?_
 · intro a h
   refine Wp.region ?_
   refine LWp.o 35 (I v9) ?_
   refine LWp.o 36 (B (decide (v9 < 0))) ?_
   refine LWp.o 37 (B (decide (v9 < 0))) ?_
   refine LWp.sp h 37 (fun h => ?_) (fun h => ?_)
   · refine LWp.sh 38 ?_
     refine LWp.sh 39 ?_
     refine LWp.sh 40 ?_
     refine LWp.sh 41 ?_
     refine LWp.o 42 (B true) ?_
     refine LWp.nil ?_
     cases h
     exact ⟨_, rfl, rfl, rfl⟩
   refine LWp.o 38 (.one (.view (.slot 6) 1 [] 0)) ?_
   refine LWp.o 39 (.one (.view (.slot 4) 1 [] 0)) ?_
   refine LWp.cl h 40 (fun v10 => (B v10)) rfl (l := [.sv (.one (.sl false 113 2 (shares (encs (c113 true) v5)))), .sv (.one (.sl false 113 2 (shares (encs (c113 true) v3))))]) rfl (fun v hv => cg (l := [.sv (.one (.sl false 113 2 (shares (encs (c113 true) v5)))), .sv (.one (.sl false 113 2 (shares (encs (c113 true) v3))))]) (by simp only [sh113]) (w_eqShelfS_t v5 v3 v hv)) (.inr (fun v => rfl)) ?_
   intro v10 gv10 h
   refine LWp.o 41 (B (!v10)) ?_
   refine LWp.o 42 (B (!v10)) ?_
   refine LWp.nil ?_
   cases h
   exact ⟨_, rfl, rfl, rfl⟩
 intro j1 h E hE
 refine nt_wp hE ?_
 change Wp _ _ _ (w_FnExactModelOfDevice_H1 xAD v3 v5 j1) _
 refine Wp.c h (fun h => ?_) (fun h => ?_)
 · refine Wp.seq (Wp.region ?_)
   refine LWp.o 2 (B false) ?_
   refine LWp.nil ?_
   cases h
   exact Wp.ret ⟨.inr rfl, _, _, rfl, rfl⟩
 refine Wp.skip ?_
 refine Wp.seq (Wp.region ?_)
 refine LWp.o 8 (I 1) ?_
 refine LWp.nil ?_
 refine Wp.seq (Wp.region ?_)
 refine LWp.o 43 (.one (.view (.slot 6) 0 [] 0)) ?_
 refine LWp.o 44 (I 1) ?_
 refine LWp.leb h (.slot 6) [] 0 [.sl true 113 2 (encs (c113 true) v5)] 45 (e := 113) (sz := 2) (encs (c113 true) v5) 1 (fun v => v.1) (fun v11 => (encs (c113 true) v11.2)) (fun v11 => [.sl true 113 2 (encs (c113 true) v11.2)]) rfl (fun v11 => At.nl rfl) rfl (fun v hv => w_markShelfS_t v5 1 v hv) (ns113 _) (fun _ => ns113 _) ?_ (.inl ⟨6, _, rfl, rfl, rfl, rfl, fun _ _ _ _ _ _ _ h => h⟩)
 intro v11 gv11 h
 refine LWp.o 8 (I v11.1) ?_
 refine LWp.nil ?_
 refine Wp.seq (Wp.region ?_)
 refine LWp.o 9 (I 1) ?_
 refine LWp.nil ?_
 refine Wp.seq (Wp.region ?_)
 refine LWp.o 46 (.one (.view (.slot 6) 1 [] 0)) ?_
 refine LWp.o 47 (I 1) ?_
 refine LWp.cl h 48 (fun v12 => (I v12)) rfl (l := [.sv (.one (.sl false 113 2 (shares (encs (c113 true) v11.2)))), .sv (.one (.int .i64 1))]) rfl (fun v hv => cg (l := [.sv (.one (.sl false 113 2 (shares (encs (c113 true) v11.2)))), .sv (.one (.int .i64 1))]) (by simp only [sh113]) (w_heldShelfS_t v11.2 1 v hv)) (.inr (fun v => rfl)) ?_
 intro v12 gv12 h
 refine LWp.o 9 (I v12) ?_
 refine LWp.nil ?_
 refine Wp.seq ?_
 refine Wp.seq (Wp.region ?_)
 refine LWp.o 49 (I v12) ?_
 refine LWp.o 50 (B (decide (v12 < 0))) ?_
 refine LWp.nil ?_
 refine Wp.c h (fun h => ?_) (fun h => ?_)
 · refine Wp.seq (Wp.region ?_)
   refine LWp.o 2 (B false) ?_
   refine LWp.nil ?_
   cases h
   exact Wp.ret ⟨.inr rfl, _, _, rfl, rfl⟩
 refine Wp.skip ?_
 refine Wp.seq ?_
 refine Wp.seq (Wp.region ?_)
 refine LWp.o 51 (I v12) ?_
 refine LWp.o 52 (I v11.1) ?_
 refine LWp.o 53 (B (v12 != v11.1)) ?_
 refine LWp.nil ?_
 refine Wp.c h (fun h => ?_) (fun h => ?_)
 · refine Wp.seq (Wp.region ?_)
   refine LWp.o 2 (B false) ?_
   refine LWp.nil ?_
   cases h
   exact Wp.ret ⟨.inr rfl, _, _, rfl, rfl⟩
 refine Wp.skip ?_
 refine Wp.seq (Wp.region ?_)
 refine LWp.o 54 (.agg [.sl false 176 3 (encs (c176 false) xAD.Flash.Blocks), .sl false 188 2 (encs c188 xAD.Store.Vols), .sl false 211 2 (encs (c211 false) xAD.Store.Arena.Knots), .int .i64 xAD.Store.Next, .int .i64 xAD.Seq, .int .i64 xAD.Tx, .int .i64 xAD.Base]) ?_
 refine LWp.cl h 55 (fun v13 => (.agg [.sl true 124 3 (encs (c124 true) v13.Flash.Blocks), .sl true 110 2 (encs c110 v13.Store.Vols), .sl true 218 2 (encs (c218 true) v13.Store.Arena.Knots), .int .i64 v13.Store.Next, .int .i64 v13.Seq, .int .i64 v13.Tx, .int .i64 v13.Base])) rfl (l := [.sv (.agg [.sl false 176 3 (encs (c176 false) xAD.Flash.Blocks), .sl false 188 2 (encs c188 xAD.Store.Vols), .sl false 211 2 (encs (c211 false) xAD.Store.Arena.Knots), .int .i64 xAD.Store.Next, .int .i64 xAD.Seq, .int .i64 xAD.Tx, .int .i64 xAD.Base])]) rfl (fun v hv => w_toDevice_t xAD v hv) (.inl rfl) ?_
 intro v13 gv13 h
 refine LWp.cl h 56 (fun v14 => (.one (.sl true 113 2 (encs (c113 true) v14)))) rfl (l := [.sv (.agg [.sl false 124 3 (shares (encs (c124 true) v13.Flash.Blocks)), .sl false 110 2 (shares (encs c110 v13.Store.Vols)), .sl false 218 2 (shares (encs (c218 true) v13.Store.Arena.Knots)), .int .i64 v13.Store.Next, .int .i64 v13.Seq, .int .i64 v13.Tx, .int .i64 v13.Base])]) rfl (fun v hv => cg (l := [.sv (.agg [.sl false 124 3 (shares (encs (c124 true) v13.Flash.Blocks)), .sl false 110 2 (shares (encs c110 v13.Store.Vols)), .sl false 218 2 (shares (encs (c218 true) v13.Store.Arena.Knots)), .int .i64 v13.Store.Next, .int .i64 v13.Seq, .int .i64 v13.Tx, .int .i64 v13.Base])]) (by simp only [sh110, sh124, sh218]) (i_ModelOfDevice_t v13 v hv)) (.inr (fun v => by simp [svShared, svShareds, hasShareds, hasShared, ns113])) ?_
 intro v14 gv14 h
 refine LWp.m true [(.slot 56, [.junk])] 10 (.one (.sl true 113 2 (encs (c113 true) v14))) ?_
 refine LWp.nil ?_
 refine Wp.seq ?_
 refine Wp.seq (Wp.region ?_)
 refine LWp.o 57 (.one (.view (.slot 10) 1 [] 0)) ?_
 refine LWp.o 58 (.one (.view (.slot 4) 0 [] 0)) ?_
 refine LWp.cl h 59 (fun v15 => (B v15)) rfl (l := [.sv (.one (.sl false 113 2 (shares (encs (c113 true) v14)))), .sv (.one (.sl false 113 2 (shares (encs (c113 true) v3))))]) rfl (fun v hv => cg (l := [.sv (.one (.sl false 113 2 (shares (encs (c113 true) v14)))), .sv (.one (.sl false 113 2 (shares (encs (c113 true) v3))))]) (by simp only [sh113]) (w_eqShelfS_t v14 v3 v hv)) (.inr (fun v => rfl)) ?_
 intro v15 gv15 h
 refine LWp.o 60 (B (!v15)) ?_
 refine LWp.nil ?_
 refine Wp.c h (fun h => ?_) (fun h => ?_)
 · refine Wp.seq (Wp.region ?_)
   refine LWp.o 2 (B false) ?_
   refine LWp.nil ?_
   cases h
   exact Wp.ret ⟨.inr rfl, _, _, rfl, rfl⟩
 refine Wp.skip ?_
 refine Wp.seq (Wp.region ?_)
 refine LWp.o 9 (I 1) ?_
 refine LWp.nil ?_
 refine Wp.seq (Wp.region ?_)
 refine LWp.o 61 (.one (.view (.slot 6) 1 [] 0)) ?_
 refine LWp.o 62 (I 1) ?_
 refine LWp.cl h 63 (fun v16 => (I v16)) rfl (l := [.sv (.one (.sl false 113 2 (shares (encs (c113 true) v11.2)))), .sv (.one (.int .i64 1))]) rfl (fun v hv => cg (l := [.sv (.one (.sl false 113 2 (shares (encs (c113 true) v11.2)))), .sv (.one (.int .i64 1))]) (by simp only [sh113]) (w_heldShelfS_t v11.2 1 v hv)) (.inr (fun v => rfl)) ?_
 intro v16 gv16 h
 refine LWp.o 9 (I v16) ?_
 refine LWp.nil ?_
 refine Wp.seq ?_
 refine Wp.seq (Wp.region ?_)
 refine LWp.o 64 (I v16) ?_
 refine LWp.o 65 (B (decide (v16 < 0))) ?_
 refine LWp.nil ?_
 refine Wp.c h (fun h => ?_) (fun h => ?_)
 · refine Wp.seq (Wp.region ?_)
   refine LWp.o 2 (B false) ?_
   refine LWp.nil ?_
   cases h
   exact Wp.ret ⟨.inr rfl, _, _, rfl, rfl⟩
 refine Wp.skip ?_
 refine Wp.seq ?_
 refine Wp.seq (Wp.region ?_)
 refine LWp.o 66 (I v16) ?_
 refine LWp.o 67 (I v11.1) ?_
 refine LWp.o 68 (B (v16 != v11.1)) ?_
 refine LWp.nil ?_
 refine Wp.c h (fun h => ?_) (fun h => ?_)
 · refine Wp.seq (Wp.region ?_)
   refine LWp.o 2 (B false) ?_
   refine LWp.nil ?_
   cases h
   exact Wp.ret ⟨.inr rfl, _, _, rfl, rfl⟩
 refine Wp.skip ?_
 refine Wp.seq (Wp.region ?_)
 refine LWp.o 2 (B true) ?_
 refine LWp.nil ?_
 cases h
 exact Wp.ret ⟨.inr rfl, _, _, rfl, rfl⟩
end Go.TI
