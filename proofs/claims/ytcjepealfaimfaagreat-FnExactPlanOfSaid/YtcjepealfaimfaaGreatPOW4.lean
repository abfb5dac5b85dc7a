/- That they compute it. No condition. -/
import Derived.Test.YtcjepealfaimfaaGreatPOW3
namespace Go.TI
set_option maxRecDepth 100000
open Go Go.Proofs
set_option linter.unusedVariables false
set_option linter.unusedSimpArgs false
def w_FnExactPlanOf_H1 (xAD : Device) (xAQ : Ask) (z1 : List Rec) (z2 : ByteArray) (z3 : Int) : St := mkSt [(2, (.one (.ptr (.box 2) 0 [] 0))), (3, (.one (.ptr (.box 3) 0 [] 0))), (6, (.one (.sl true 83 4 (encs c83 z1)))), (7, (Y z2)), (8, (I z3))] [(.box 2, [.sl false 176 3 (encs (c176 false) xAD.Flash.Blocks), .sl false 188 2 (encs c188 xAD.Store.Vols), .sl false 211 2 (encs (c211 false) xAD.Store.Arena.Knots), .int .i64 xAD.Store.Next, .int .i64 xAD.Seq, .int .i64 xAD.Tx, .int .i64 xAD.Base]), (.box 3, [.int .i64 xAQ.Kind, .int .i64 xAQ.Vol, .int .i64 xAQ.Sector, .int .i64 xAQ.Of, .str xAQ.Text])]
def w_FnExactPlanOf_H2 (xAD : Device) (xAQ : Ask) (j1 : List Rec × ByteArray × Int) (v6 : Device) (z4 : List Rec) (z5 : ByteArray) (z6 : Int) : St := mkSt [(2, (.one (.ptr (.box 2) 0 [] 0))), (3, (.one (.ptr (.box 3) 0 [] 0))), (6, (.one (.sl true 83 4 (encs c83 j1.1)))), (7, (Y j1.2.1)), (8, (I j1.2.2)), (9, (.one (.ptr (.box 9) 0 [] 0))), (10, (.one (.sl true 83 4 (encs c83 z4)))), (11, (Y z5)), (12, (I z6))] [(.box 2, [.sl false 176 3 (encs (c176 false) xAD.Flash.Blocks), .sl false 188 2 (encs c188 xAD.Store.Vols), .sl false 211 2 (encs (c211 false) xAD.Store.Arena.Knots), .int .i64 xAD.Store.Next, .int .i64 xAD.Seq, .int .i64 xAD.Tx, .int .i64 xAD.Base]), (.box 3, [.int .i64 xAQ.Kind, .int .i64 xAQ.Vol, .int .i64 xAQ.Sector, .int .i64 xAQ.Of, .str xAQ.Text]), (.box 9, [.sl true 124 3 (encs (c124 true) v6.Flash.Blocks), .sl true 110 2 (encs c110 v6.Store.Vols), .sl true 218 2 (encs (c218 true) v6.Store.Arena.Knots), .int .i64 v6.Store.Next, .int .i64 v6.Seq, .int .i64 v6.Tx, .int .i64 v6.Base])]
def w_FnExactPlanOf_H3 (xAD : Device) (xAQ : Ask) (j1 : List Rec × ByteArray × Int) (v6 : Device) (j2 : List Rec × ByteArray × Int) (z7 : Bool) : St := mkSt [(2, (.one (.ptr (.box 2) 0 [] 0))), (3, (.one (.ptr (.box 3) 0 [] 0))), (6, (.one (.sl true 83 4 (encs c83 j1.1)))), (7, (Y j1.2.1)), (8, (I j1.2.2)), (9, (.one (.ptr (.box 9) 0 [] 0))), (10, (.one (.sl true 83 4 (encs c83 j2.1)))), (11, (Y j2.2.1)), (12, (I j2.2.2)), (61, (B z7))] [(.box 2, [.sl false 176 3 (encs (c176 false) xAD.Flash.Blocks), .sl false 188 2 (encs c188 xAD.Store.Vols), .sl false 211 2 (encs (c211 false) xAD.Store.Arena.Knots), .int .i64 xAD.Store.Next, .int .i64 xAD.Seq, .int .i64 xAD.Tx, .int .i64 xAD.Base]), (.box 3, [.int .i64 xAQ.Kind, .int .i64 xAQ.Vol, .int .i64 xAQ.Sector, .int .i64 xAQ.Of, .str xAQ.Text]), (.box 9, [.sl true 124 3 (encs (c124 true) v6.Flash.Blocks), .sl true 110 2 (encs c110 v6.Store.Vols), .sl true 218 2 (encs (c218 true) v6.Store.Arena.Knots), .int .i64 v6.Store.Next, .int .i64 v6.Seq, .int .i64 v6.Tx, .int .i64 v6.Base])]
def w_FnExactPlanOf_H4 (xAD : Device) (xAQ : Ask) (j1 : List Rec × ByteArray × Int) (j2 : List Rec × ByteArray × Int) (z8 : Bool) : St := mkSt [(2, (.one (.ptr (.box 2) 0 [] 0))), (3, (.one (.ptr (.box 3) 0 [] 0))), (6, (.one (.sl true 83 4 (encs c83 j1.1)))), (7, (Y j1.2.1)), (8, (I j1.2.2)), (10, (.one (.sl true 83 4 (encs c83 j2.1)))), (87, (B z8))] [(.box 2, [.sl false 176 3 (encs (c176 false) xAD.Flash.Blocks), .sl false 188 2 (encs c188 xAD.Store.Vols), .sl false 211 2 (encs (c211 false) xAD.Store.Arena.Knots), .int .i64 xAD.Store.Next, .int .i64 xAD.Seq, .int .i64 xAD.Tx, .int .i64 xAD.Base]), (.box 3, [.int .i64 xAQ.Kind, .int .i64 xAQ.Vol, .int .i64 xAQ.Sector, .int .i64 xAQ.Of, .str xAQ.Text])]
def w_FnExactPlanOf_H5 (j1 : List Rec × ByteArray × Int) (v14 : Int × List Rec) (z9 : List Rec) (z10 : ByteArray) (z11 : Int) : St := mkSt [(6, (.one (.sl true 83 4 (encs c83 j1.1)))), (7, (Y j1.2.1)), (8, (I j1.2.2)), (10, (.one (.sl true 83 4 (encs c83 v14.2)))), (14, (I v14.1)), (16, (.one (.sl true 83 4 (encs c83 z9)))), (17, (Y z10)), (18, (I z11))] []
def w_FnExactPlanOf_H6 (v14 : Int × List Rec) (z12 : Bool) : St := mkSt [(10, (.one (.sl true 83 4 (encs c83 v14.2)))), (14, (I v14.1)), (121, (B z12))] []
set_option maxHeartbeats 4000000 in
theorem w_FnExactPlanOf_t (xAD : Device) (xAQ : Ask) (r : Bool) (h : w_FnExactPlanOf xAD xAQ = some r) : Gives Tryz.prog 7 [.sv (.agg [.sl false 176 3 (encs (c176 false) xAD.Flash.Blocks), .sl false 188 2 (encs c188 xAD.Store.Vols), .sl false 211 2 (encs (c211 false) xAD.Store.Arena.Knots), .int .i64 xAD.Store.Next, .int .i64 xAD.Seq, .int .i64 xAD.Tx, .int .i64 xAD.Base]), .sv (.agg [.int .i64 xAQ.Kind, .int .i64 xAQ.Vol, .int .i64 xAQ.Sector, .int .i64 xAQ.Of, .str xAQ.Text])] (B r) (List.replicate 2 .gone) := by
 unfold w_FnExactPlanOf at h
 refine gives_of Tryz.func7 rfl ?_
 rw [Tryz.ntmps7]
 refine wr (LWp.b [] 2 [.sl false 176 3 (encs (c176 false) xAD.Flash.Blocks), .sl false 188 2 (encs c188 xAD.Store.Vols), .sl false 211 2 (encs (c211 false) xAD.Store.Arena.Knots), .int .i64 xAD.Store.Next, .int .i64 xAD.Seq, .int .i64 xAD.Tx, .int .i64 xAD.Base] (LWp.b [] 3 [.int .i64 xAQ.Kind, .int .i64 xAQ.Vol, .int .i64 xAQ.Sector, .int .i64 xAQ.Of, .str xAQ.Text] (lO 4 (B false) (lZ (wr (lO 5 (I 1048576) (lZ (wr (lO 19 (.agg [.sl false 176 3 (encs (c176 false) xAD.Flash.Blocks), .sl false 188 2 (encs c188 xAD.Store.Vols), .sl false 211 2 (encs (c211 false) xAD.Store.Arena.Knots), .int .i64 xAD.Store.Next, .int .i64 xAD.Seq, .int .i64 xAD.Tx, .int .i64 xAD.Base]) ?_)))))))))
 refine lO 20 (I 1048576) (LWp.cl h 21 (fun v1 => (I v1)) rfl (l := [.sv (.agg [.sl false 176 3 (encs (c176 false) xAD.Flash.Blocks), .sl false 188 2 (encs c188 xAD.Store.Vols), .sl false 211 2 (encs (c211 false) xAD.Store.Arena.Knots), .int .i64 xAD.Store.Next, .int .i64 xAD.Seq, .int .i64 xAD.Tx, .int .i64 xAD.Base]), .sv (.one (.int .i64 1048576))]) rfl (fun v hv => w_szDevice_t xAD 1048576 v hv) (.inl rfl) ?_)
 intro v1 gv1 h
 refine lO 5 (I v1) (lZ (Wp.seq (wr (lO 22 (I v1) (lO 23 (B (decide (v1 < 0))) (lZ (Wp.c h (fun h => ?_) (fun h => ?_))))))))
 ·refine wr ?_
  refine lO 4 (B true) (lZ ?_)
  cases h
  exact Wp.ret ⟨.inr rfl, _, _, rfl, rfl⟩
 refine Wp.skip (wr (lO 24 (.agg [.int .i64 xAQ.Kind, .int .i64 xAQ.Vol, .int .i64 xAQ.Sector, .int .i64 xAQ.Of, .str xAQ.Text]) (lO 25 (I v1) (LWp.cl h 26 (fun v2 => (I v2)) rfl (l := [.sv (.agg [.int .i64 xAQ.Kind, .int .i64 xAQ.Vol, .int .i64 xAQ.Sector, .int .i64 xAQ.Of, .str xAQ.Text]), .sv (.one (.int .i64 v1))]) rfl (fun v hv => w_szAsk_t xAQ v1 v hv) (.inl rfl) ?_))))
 intro v2 gv2 h
 refine lO 5 (I v2) (lZ (Wp.seq (wr (lO 27 (I v2) (lO 28 (B (decide (v2 < 0))) (lZ (Wp.c h (fun h => ?_) (fun h => ?_))))))))
 ·refine wr ?_
  refine lO 4 (B true) (lZ ?_)
  cases h
  exact Wp.ret ⟨.inr rfl, _, _, rfl, rfl⟩
 refine Wp.skip (Wp.seq (Wp.j1 h [2, 3, 6, 7, 8] [.box 2, .box 3] (fun a => (w_FnExactPlanOf_H1 xAD xAQ a.1 a.2.1 a.2.2)) ?_ ?_))
 ·intro a h
  refine Wp.regionK 12 [] mixed (fun c E h => by rcases h with ⟨h | h, _⟩ <;> cases h) (KWp.o 12 0 30 (.agg [.sl false 176 3 (encs (c176 false) xAD.Flash.Blocks), .sl false 188 2 (encs c188 xAD.Store.Vols), .sl false 211 2 (encs (c211 false) xAD.Store.Arena.Knots), .int .i64 xAD.Store.Next, .int .i64 xAD.Seq, .int .i64 xAD.Tx, .int .i64 xAD.Base]) (KWp.o 12 2 32 (.agg [.int .i64 xAQ.Kind, .int .i64 xAQ.Vol, .int .i64 xAQ.Sector, .int .i64 xAQ.Of, .str xAQ.Text]) (KWp.w1 1 (KOp.cl h 1 31 (fun v3 => (.agg [.sl true 124 3 (encs (c124 true) v3.Flash.Blocks), .sl true 110 2 (encs c110 v3.Store.Vols), .sl true 218 2 (encs (c218 true) v3.Store.Arena.Knots), .int .i64 v3.Store.Next, .int .i64 v3.Seq, .int .i64 v3.Tx, .int .i64 v3.Base])) rfl rfl (l := [.sv (.agg [.sl false 176 3 (encs (c176 false) xAD.Flash.Blocks), .sl false 188 2 (encs c188 xAD.Store.Vols), .sl false 211 2 (encs (c211 false) xAD.Store.Arena.Knots), .int .i64 xAD.Store.Next, .int .i64 xAD.Seq, .int .i64 xAD.Tx, .int .i64 xAD.Base])]) rfl (fun v hv => w_toDevice_t xAD v hv) (.inl rfl) ?_))))
  intro v3 gv3 h
  refine KWp.w1 3 (KOp.cl h 3 33 (fun v4 => (.agg [.int .i64 v4.Kind, .int .i64 v4.Vol, .int .i64 v4.Sector, .int .i64 v4.Of, .str v4.Text])) rfl rfl (l := [.sv (.agg [.int .i64 xAQ.Kind, .int .i64 xAQ.Vol, .int .i64 xAQ.Sector, .int .i64 xAQ.Of, .str xAQ.Text])]) rfl (fun v hv => w_toAsk_t xAQ v hv) (.inl rfl) ?_)
  intro v4 gv4 h
  refine KWp.w1 4 (KOp.cl h 4 34 (fun v5 => (.tup [(.one (.sl true 83 4 (encs c83 v5.1))), (Y v5.2.1), (I v5.2.2)])) rfl rfl (l := [.sv (.agg [.sl false 124 3 (shares (encs (c124 true) v3.Flash.Blocks)), .sl false 110 2 (shares (encs c110 v3.Store.Vols)), .sl false 218 2 (shares (encs (c218 true) v3.Store.Arena.Knots)), .int .i64 v3.Store.Next, .int .i64 v3.Seq, .int .i64 v3.Tx, .int .i64 v3.Base]), .sv (.agg [.int .i64 v4.Kind, .int .i64 v4.Vol, .int .i64 v4.Sector, .int .i64 v4.Of, .str v4.Text])]) rfl (fun v hv => cg (l := [.sv (.agg [.sl false 124 3 (shares (encs (c124 true) v3.Flash.Blocks)), .sl false 110 2 (shares (encs c110 v3.Store.Vols)), .sl false 218 2 (shares (encs (c218 true) v3.Store.Arena.Knots)), .int .i64 v3.Store.Next, .int .i64 v3.Seq, .int .i64 v3.Tx, .int .i64 v3.Base]), .sv (.agg [.int .i64 v4.Kind, .int .i64 v4.Vol, .int .i64 v4.Sector, .int .i64 v4.Of, .str v4.Text])]) (by simp only [sh110, sh124, sh218]) (s_PlanOf_t v3 v4 v hv)) (.inr (fun v => by simp [svShared, svShareds, hasShareds, hasShared, ns83])) ?_)
  intro v5 gv5 h
  refine KWp.w1 5 (KOp.mt 5 34 29 (.tup [(.one (.sl true 83 4 (encs c83 v5.1))), (Y v5.2.1), (I v5.2.2)]) (KWp.w3 6 7 8 ?_ ?_ ?_))
  ·refine KOp.e 6 29 0 35 (.one (.sl true 83 4 (encs c83 v5.1))) ?_
   refine KWp.w3 7 8 9 ?_ ?_ ?_
   ·refine KOp.e 7 29 1 36 (Y v5.2.1) ?_
    refine KWp.w2 8 9 ?_ ?_
    ·refine KOp.e 8 29 2 37 (I v5.2.2) ?_
     refine KWp.w1 9 (KOp.m 9 true [(.slot 35, [.junk])] 6 (.one (.sl true 83 4 (encs c83 v5.1))) (KWp.o 12 10 7 (Y v5.2.1) (KWp.o 12 11 8 (I v5.2.2) (KWp.done ?_))))
     cases h
     exact ⟨_, rfl, rfl, rfl⟩
    refine KOp.m 9 true [(.slot 35, [.junk])] 6 (.one (.sl true 83 4 (encs c83 v5.1))) (KWp.o 12 10 7 (Y v5.2.1) (KWp.w1 8 (KOp.e 8 29 2 37 (I v5.2.2) (KWp.o 12 11 8 (I v5.2.2) (KWp.done ?_)))))
    cases h
    exact ⟨_, rfl, rfl, rfl⟩
   ·refine KOp.e 8 29 2 37 (I v5.2.2) ?_
    refine KWp.w2 7 9 ?_ ?_
    ·refine KOp.e 7 29 1 36 (Y v5.2.1) ?_
     refine KWp.w1 9 (KOp.m 9 true [(.slot 35, [.junk])] 6 (.one (.sl true 83 4 (encs c83 v5.1))) (KWp.o 12 10 7 (Y v5.2.1) (KWp.o 12 11 8 (I v5.2.2) (KWp.done ?_))))
     cases h
     exact ⟨_, rfl, rfl, rfl⟩
    refine KOp.m 9 true [(.slot 35, [.junk])] 6 (.one (.sl true 83 4 (encs c83 v5.1))) (KWp.w1 7 (KOp.e 7 29 1 36 (Y v5.2.1) (KWp.o 12 10 7 (Y v5.2.1) (KWp.o 12 11 8 (I v5.2.2) (KWp.done ?_)))))
    cases h
    exact ⟨_, rfl, rfl, rfl⟩
   refine KOp.m 9 true [(.slot 35, [.junk])] 6 (.one (.sl true 83 4 (encs c83 v5.1))) (KWp.w2 7 8 ?_ ?_)
   ·refine KOp.e 7 29 1 36 (Y v5.2.1) ?_
    refine KWp.o 12 10 7 (Y v5.2.1) (KWp.w1 8 (KOp.e 8 29 2 37 (I v5.2.2) (KWp.o 12 11 8 (I v5.2.2) (KWp.done ?_))))
    cases h
    exact ⟨_, rfl, rfl, rfl⟩
   refine KOp.e 8 29 2 37 (I v5.2.2) (KWp.w1 7 (KOp.e 7 29 1 36 (Y v5.2.1) (KWp.o 12 10 7 (Y v5.2.1) (KWp.o 12 11 8 (I v5.2.2) (KWp.done ?_)))))
   cases h
   exact ⟨_, rfl, rfl, rfl⟩
  ·refine KOp.e 7 29 1 36 (Y v5.2.1) ?_
   refine KWp.w2 6 8 ?_ ?_
   ·refine KOp.e 6 29 0 35 (.one (.sl true 83 4 (encs c83 v5.1))) ?_
    refine KWp.w2 8 9 ?_ ?_
    ·refine KOp.e 8 29 2 37 (I v5.2.2) ?_
     refine KWp.w1 9 (KOp.m 9 true [(.slot 35, [.junk])] 6 (.one (.sl true 83 4 (encs c83 v5.1))) (KWp.o 12 10 7 (Y v5.2.1) (KWp.o 12 11 8 (I v5.2.2) (KWp.done ?_))))
     cases h
     exact ⟨_, rfl, rfl, rfl⟩
    refine KOp.m 9 true [(.slot 35, [.junk])] 6 (.one (.sl true 83 4 (encs c83 v5.1))) (KWp.o 12 10 7 (Y v5.2.1) (KWp.w1 8 (KOp.e 8 29 2 37 (I v5.2.2) (KWp.o 12 11 8 (I v5.2.2) (KWp.done ?_)))))
    cases h
    exact ⟨_, rfl, rfl, rfl⟩
   refine KOp.e 8 29 2 37 (I v5.2.2) (KWp.w1 6 (KOp.e 6 29 0 35 (.one (.sl true 83 4 (encs c83 v5.1))) (KWp.w1 9 (KOp.m 9 true [(.slot 35, [.junk])] 6 (.one (.sl true 83 4 (encs c83 v5.1))) (KWp.o 12 10 7 (Y v5.2.1) (KWp.o 12 11 8 (I v5.2.2) (KWp.done ?_)))))))
   cases h
   exact ⟨_, rfl, rfl, rfl⟩
  refine KOp.e 8 29 2 37 (I v5.2.2) (KWp.w2 6 7 ?_ ?_)
  ·refine KOp.e 6 29 0 35 (.one (.sl true 83 4 (encs c83 v5.1))) ?_
   refine KWp.w2 7 9 ?_ ?_
   ·refine KOp.e 7 29 1 36 (Y v5.2.1) ?_
    refine KWp.w1 9 (KOp.m 9 true [(.slot 35, [.junk])] 6 (.one (.sl true 83 4 (encs c83 v5.1))) (KWp.o 12 10 7 (Y v5.2.1) (KWp.o 12 11 8 (I v5.2.2) (KWp.done ?_))))
    cases h
    exact ⟨_, rfl, rfl, rfl⟩
   refine KOp.m 9 true [(.slot 35, [.junk])] 6 (.one (.sl true 83 4 (encs c83 v5.1))) (KWp.w1 7 (KOp.e 7 29 1 36 (Y v5.2.1) (KWp.o 12 10 7 (Y v5.2.1) (KWp.o 12 11 8 (I v5.2.2) (KWp.done ?_)))))
   cases h
   exact ⟨_, rfl, rfl, rfl⟩
  refine KOp.e 7 29 1 36 (Y v5.2.1) (KWp.w1 6 (KOp.e 6 29 0 35 (.one (.sl true 83 4 (encs c83 v5.1))) (KWp.w1 9 (KOp.m 9 true [(.slot 35, [.junk])] 6 (.one (.sl true 83 4 (encs c83 v5.1))) (KWp.o 12 10 7 (Y v5.2.1) (KWp.o 12 11 8 (I v5.2.2) (KWp.done ?_)))))))
  cases h
  exact ⟨_, rfl, rfl, rfl⟩
 intro j1 h E hE
 refine nt_wp hE ?_
 change Wp _ _ _ (w_FnExactPlanOf_H1 xAD xAQ j1.1 j1.2.1 j1.2.2) _
 refine wr (lO 38 (.agg [.sl false 176 3 (encs (c176 false) xAD.Flash.Blocks), .sl false 188 2 (encs c188 xAD.Store.Vols), .sl false 211 2 (encs (c211 false) xAD.Store.Arena.Knots), .int .i64 xAD.Store.Next, .int .i64 xAD.Seq, .int .i64 xAD.Tx, .int .i64 xAD.Base]) (LWp.cl h 39 (fun v6 => (.agg [.sl true 124 3 (encs (c124 true) v6.Flash.Blocks), .sl true 110 2 (encs c110 v6.Store.Vols), .sl true 218 2 (encs (c218 true) v6.Store.Arena.Knots), .int .i64 v6.Store.Next, .int .i64 v6.Seq, .int .i64 v6.Tx, .int .i64 v6.Base])) rfl (l := [.sv (.agg [.sl false 176 3 (encs (c176 false) xAD.Flash.Blocks), .sl false 188 2 (encs c188 xAD.Store.Vols), .sl false 211 2 (encs (c211 false) xAD.Store.Arena.Knots), .int .i64 xAD.Store.Next, .int .i64 xAD.Seq, .int .i64 xAD.Tx, .int .i64 xAD.Base])]) rfl (fun v hv => w_toDevice_t xAD v hv) (.inl rfl) ?_))
 intro v6 gv6 h
 refine LWp.b [] 9 [.sl true 124 3 (encs (c124 true) []), .sl true 110 2 (encs c110 []), .sl true 218 2 (encs (c218 true) []), .int .i64 0, .int .i64 0, .int .i64 0, .int .i64 0] (LWp.sb [(.slot 39, [.junk, .sl true 110 2 (encs c110 v6.Store.Vols), .sl true 218 2 (encs (c218 true) v6.Store.Arena.Knots), .int .i64 v6.Store.Next, .int .i64 v6.Seq, .int .i64 v6.Tx, .int .i64 v6.Base]), (.slot 39, [.junk, .junk, .sl true 218 2 (encs (c218 true) v6.Store.Arena.Knots), .int .i64 v6.Store.Next, .int .i64 v6.Seq, .int .i64 v6.Tx, .int .i64 v6.Base]), (.slot 39, [.junk, .junk, .junk, .int .i64 v6.Store.Next, .int .i64 v6.Seq, .int .i64 v6.Tx, .int .i64 v6.Base])] (.box 9) [.sl true 124 3 (encs (c124 true) v6.Flash.Blocks), .sl true 110 2 (encs c110 v6.Store.Vols), .sl true 218 2 (encs (c218 true) v6.Store.Arena.Knots), .int .i64 v6.Store.Next, .int .i64 v6.Seq, .int .i64 v6.Tx, .int .i64 v6.Base] (lZ (Wp.seq (Wp.j1 h [2, 3, 6, 7, 8, 9, 10, 11, 12] [.box 2, .box 3, .box 9] (fun a => (w_FnExactPlanOf_H2 xAD xAQ j1 v6 a.1 a.2.1 a.2.2)) ?_ ?_))))
 ·intro a h
  refine Wp.regionK 11 [] mixed (fun c E h => by rcases h with ⟨h | h, _⟩ <;> cases h) (KWp.o 11 0 41 (.agg [.view (.box 9) 2 [] 0, .view (.box 9) 2 [] 1, .view (.box 9) 2 [] 2, .int .i64 v6.Store.Next, .int .i64 v6.Seq, .int .i64 v6.Tx, .int .i64 v6.Base]) (KWp.o 11 1 42 (.agg [.int .i64 xAQ.Kind, .int .i64 xAQ.Vol, .int .i64 xAQ.Sector, .int .i64 xAQ.Of, .str xAQ.Text]) (KWp.w1 2 (KOp.cl h 2 43 (fun v7 => (.agg [.int .i64 v7.Kind, .int .i64 v7.Vol, .int .i64 v7.Sector, .int .i64 v7.Of, .str v7.Text])) rfl rfl (l := [.sv (.agg [.int .i64 xAQ.Kind, .int .i64 xAQ.Vol, .int .i64 xAQ.Sector, .int .i64 xAQ.Of, .str xAQ.Text])]) rfl (fun v hv => w_toAsk_t xAQ v hv) (.inl rfl) ?_))))
  intro v7 gv7 h
  refine KWp.w1 3 (KOp.cl h 3 44 (fun v8 => (.tup [(.one (.sl true 83 4 (encs c83 v8.1))), (Y v8.2.1), (I v8.2.2)])) rfl rfl (l := [.sv (.agg [.sl false 124 3 (shares (encs (c124 true) v6.Flash.Blocks)), .sl false 110 2 (shares (encs c110 v6.Store.Vols)), .sl false 218 2 (shares (encs (c218 true) v6.Store.Arena.Knots)), .int .i64 v6.Store.Next, .int .i64 v6.Seq, .int .i64 v6.Tx, .int .i64 v6.Base]), .sv (.agg [.int .i64 v7.Kind, .int .i64 v7.Vol, .int .i64 v7.Sector, .int .i64 v7.Of, .str v7.Text])]) rfl (fun v hv => cg (l := [.sv (.agg [.sl false 124 3 (shares (encs (c124 true) v6.Flash.Blocks)), .sl false 110 2 (shares (encs c110 v6.Store.Vols)), .sl false 218 2 (shares (encs (c218 true) v6.Store.Arena.Knots)), .int .i64 v6.Store.Next, .int .i64 v6.Seq, .int .i64 v6.Tx, .int .i64 v6.Base]), .sv (.agg [.int .i64 v7.Kind, .int .i64 v7.Vol, .int .i64 v7.Sector, .int .i64 v7.Of, .str v7.Text])]) (by simp only [sh110, sh124, sh218]) (i_PlanOf_t v6 v7 v hv)) (.inr (fun v => by simp [svShared, svShareds, hasShareds, hasShared, ns83])) ?_)
  intro v8 gv8 h
  refine KWp.w1 4 (KOp.mt 4 44 40 (.tup [(.one (.sl true 83 4 (encs c83 v8.1))), (Y v8.2.1), (I v8.2.2)]) (KWp.w3 5 6 7 ?_ ?_ ?_))
  ·refine KOp.e 5 40 0 45 (.one (.sl true 83 4 (encs c83 v8.1))) ?_
   refine KWp.w3 6 7 8 ?_ ?_ ?_
   ·refine KOp.e 6 40 1 46 (Y v8.2.1) ?_
    refine KWp.w2 7 8 ?_ ?_
    ·refine KOp.e 7 40 2 47 (I v8.2.2) ?_
     refine KWp.w1 8 (KOp.m 8 true [(.slot 45, [.junk])] 10 (.one (.sl true 83 4 (encs c83 v8.1))) (KWp.o 11 9 11 (Y v8.2.1) (KWp.o 11 10 12 (I v8.2.2) (KWp.done ?_))))
     cases h
     exact ⟨_, rfl, rfl, rfl⟩
    refine KOp.m 8 true [(.slot 45, [.junk])] 10 (.one (.sl true 83 4 (encs c83 v8.1))) (KWp.o 11 9 11 (Y v8.2.1) (KWp.w1 7 (KOp.e 7 40 2 47 (I v8.2.2) (KWp.o 11 10 12 (I v8.2.2) (KWp.done ?_)))))
    cases h
    exact ⟨_, rfl, rfl, rfl⟩
   ·refine KOp.e 7 40 2 47 (I v8.2.2) ?_
    refine KWp.w2 6 8 ?_ ?_
    ·refine KOp.e 6 40 1 46 (Y v8.2.1) ?_
     refine KWp.w1 8 (KOp.m 8 true [(.slot 45, [.junk])] 10 (.one (.sl true 83 4 (encs c83 v8.1))) (KWp.o 11 9 11 (Y v8.2.1) (KWp.o 11 10 12 (I v8.2.2) (KWp.done ?_))))
     cases h
     exact ⟨_, rfl, rfl, rfl⟩
    refine KOp.m 8 true [(.slot 45, [.junk])] 10 (.one (.sl true 83 4 (encs c83 v8.1))) (KWp.w1 6 (KOp.e 6 40 1 46 (Y v8.2.1) (KWp.o 11 9 11 (Y v8.2.1) (KWp.o 11 10 12 (I v8.2.2) (KWp.done ?_)))))
    cases h
    exact ⟨_, rfl, rfl, rfl⟩
   refine KOp.m 8 true [(.slot 45, [.junk])] 10 (.one (.sl true 83 4 (encs c83 v8.1))) (KWp.w2 6 7 ?_ ?_)
   ·refine KOp.e 6 40 1 46 (Y v8.2.1) ?_
    refine KWp.o 11 9 11 (Y v8.2.1) (KWp.w1 7 (KOp.e 7 40 2 47 (I v8.2.2) (KWp.o 11 10 12 (I v8.2.2) (KWp.done ?_))))
    cases h
    exact ⟨_, rfl, rfl, rfl⟩
   refine KOp.e 7 40 2 47 (I v8.2.2) (KWp.w1 6 (KOp.e 6 40 1 46 (Y v8.2.1) (KWp.o 11 9 11 (Y v8.2.1) (KWp.o 11 10 12 (I v8.2.2) (KWp.done ?_)))))
   cases h
   exact ⟨_, rfl, rfl, rfl⟩
  ·refine KOp.e 6 40 1 46 (Y v8.2.1) ?_
   refine KWp.w2 5 7 ?_ ?_
   ·refine KOp.e 5 40 0 45 (.one (.sl true 83 4 (encs c83 v8.1))) ?_
    refine KWp.w2 7 8 ?_ ?_
    ·refine KOp.e 7 40 2 47 (I v8.2.2) ?_
     refine KWp.w1 8 (KOp.m 8 true [(.slot 45, [.junk])] 10 (.one (.sl true 83 4 (encs c83 v8.1))) (KWp.o 11 9 11 (Y v8.2.1) (KWp.o 11 10 12 (I v8.2.2) (KWp.done ?_))))
     cases h
     exact ⟨_, rfl, rfl, rfl⟩
    refine KOp.m 8 true [(.slot 45, [.junk])] 10 (.one (.sl true 83 4 (encs c83 v8.1))) (KWp.o 11 9 11 (Y v8.2.1) (KWp.w1 7 (KOp.e 7 40 2 47 (I v8.2.2) (KWp.o 11 10 12 (I v8.2.2) (KWp.done ?_)))))
    cases h
    exact ⟨_, rfl, rfl, rfl⟩
   refine KOp.e 7 40 2 47 (I v8.2.2) (KWp.w1 5 (KOp.e 5 40 0 45 (.one (.sl true 83 4 (encs c83 v8.1))) (KWp.w1 8 (KOp.m 8 true [(.slot 45, [.junk])] 10 (.one (.sl true 83 4 (encs c83 v8.1))) (KWp.o 11 9 11 (Y v8.2.1) (KWp.o 11 10 12 (I v8.2.2) (KWp.done ?_)))))))
   cases h
   exact ⟨_, rfl, rfl, rfl⟩
  refine KOp.e 7 40 2 47 (I v8.2.2) (KWp.w2 5 6 ?_ ?_)
  ·refine KOp.e 5 40 0 45 (.one (.sl true 83 4 (encs c83 v8.1))) ?_
   refine KWp.w2 6 8 ?_ ?_
   ·refine KOp.e 6 40 1 46 (Y v8.2.1) ?_
    refine KWp.w1 8 (KOp.m 8 true [(.slot 45, [.junk])] 10 (.one (.sl true 83 4 (encs c83 v8.1))) (KWp.o 11 9 11 (Y v8.2.1) (KWp.o 11 10 12 (I v8.2.2) (KWp.done ?_))))
    cases h
    exact ⟨_, rfl, rfl, rfl⟩
   refine KOp.m 8 true [(.slot 45, [.junk])] 10 (.one (.sl true 83 4 (encs c83 v8.1))) (KWp.w1 6 (KOp.e 6 40 1 46 (Y v8.2.1) (KWp.o 11 9 11 (Y v8.2.1) (KWp.o 11 10 12 (I v8.2.2) (KWp.done ?_)))))
   cases h
   exact ⟨_, rfl, rfl, rfl⟩
  refine KOp.e 6 40 1 46 (Y v8.2.1) (KWp.w1 5 (KOp.e 5 40 0 45 (.one (.sl true 83 4 (encs c83 v8.1))) (KWp.w1 8 (KOp.m 8 true [(.slot 45, [.junk])] 10 (.one (.sl true 83 4 (encs c83 v8.1))) (KWp.o 11 9 11 (Y v8.2.1) (KWp.o 11 10 12 (I v8.2.2) (KWp.done ?_)))))))
  cases h
  exact ⟨_, rfl, rfl, rfl⟩
 intro j2 h E hE
 refine nt_wp hE ?_
 change Wp _ _ _ (w_FnExactPlanOf_H2 xAD xAQ j1 v6 j2.1 j2.2.1 j2.2.2) _
 refine Wp.seq (Wp.seq (Wp.j1 h [2, 3, 6, 7, 8, 9, 10, 11, 12, 61] [.box 2, .box 3, .box 9] (fun a => (w_FnExactPlanOf_H3 xAD xAQ j1 v6 j2 a)) ?_ ?_))
 ·intro a h
  refine Wp.region (lO 48 (.one (.view (.slot 10) 0 [] 0)) (lO 49 (.one (.view (.slot 6) 0 [] 0)) (LWp.cl h 50 (fun v9 => (B v9)) rfl (l := [.sv (.one (.sl false 83 4 (shares (encs c83 j2.1)))), .sv (.one (.sl false 83 4 (shares (encs c83 j1.1))))]) rfl (fun v hv => cg (l := [.sv (.one (.sl false 83 4 (shares (encs c83 j2.1)))), .sv (.one (.sl false 83 4 (shares (encs c83 j1.1))))]) (by simp only [sh83]) (w_eqRecS_t j2.1 j1.1 v hv)) (.inr (fun v => rfl)) ?_)))
  intro v9 gv9 h
  refine lO 51 (B (!v9)) (lO 52 (B (!v9)) (LWp.sp h 52 (fun h => ?_) (fun h => ?_)))
  ·refine lH 53 ?_
   refine lH 54 (lH 55 (lO 56 (B true) (lO 57 (B true) (lH 58 (lH 59 (lH 60 (lO 61 (B true) (lZ ?_))))))))
   cases h
   exact ⟨_, rfl, rfl, rfl⟩
  refine lO 53 (Y j2.2.1) (lO 54 (Y j1.2.1) (lO 55 (B (!(seq j2.2.1 j1.2.1))) (lO 56 (B (!(seq j2.2.1 j1.2.1))) (lO 57 (B (!(seq j2.2.1 j1.2.1))) (LWp.sp h 57 (fun h => ?_) (fun h => ?_))))))
  ·refine lH 58 ?_
   refine lH 59 (lH 60 (lO 61 (B true) (lZ ?_)))
   cases h
   exact ⟨_, rfl, rfl, rfl⟩
  refine lO 58 (I j2.2.2) (lO 59 (I j1.2.2) (lO 60 (B (j2.2.2 != j1.2.2)) (lO 61 (B (j2.2.2 != j1.2.2)) (lZ ?_))))
  cases h
  exact ⟨_, rfl, rfl, rfl⟩
 intro j3 h E hE
 refine nt_wp hE ?_
 change Wp _ _ _ (w_FnExactPlanOf_H3 xAD xAQ j1 v6 j2 j3) _
 refine Wp.c h (fun h => ?_) (fun h => ?_)
 ·refine wr ?_
  refine lO 4 (B false) (lZ ?_)
  cases h
  exact Wp.ret ⟨.inr rfl, _, _, rfl, rfl⟩
 refine Wp.skip (Wp.seq (Wp.seq (Wp.regionK 5 [] mixed (fun c E h => by rcases h with ⟨h | h, _⟩ <;> cases h) (KWp.o 5 0 62 (.agg [.view (.box 9) 0 [] 0, .view (.box 9) 0 [] 1, .view (.box 9) 0 [] 2, .int .i64 v6.Store.Next, .int .i64 v6.Seq, .int .i64 v6.Tx, .int .i64 v6.Base]) (KWp.o 5 1 63 (.agg [.sl false 176 3 (encs (c176 false) xAD.Flash.Blocks), .sl false 188 2 (encs c188 xAD.Store.Vols), .sl false 211 2 (encs (c211 false) xAD.Store.Arena.Knots), .int .i64 xAD.Store.Next, .int .i64 xAD.Seq, .int .i64 xAD.Tx, .int .i64 xAD.Base]) (KWp.w1 2 (KOp.cl h 2 64 (fun v10 => (.agg [.sl true 124 3 (encs (c124 true) v10.Flash.Blocks), .sl true 110 2 (encs c110 v10.Store.Vols), .sl true 218 2 (encs (c218 true) v10.Store.Arena.Knots), .int .i64 v10.Store.Next, .int .i64 v10.Seq, .int .i64 v10.Tx, .int .i64 v10.Base])) rfl rfl (l := [.sv (.agg [.sl false 176 3 (encs (c176 false) xAD.Flash.Blocks), .sl false 188 2 (encs c188 xAD.Store.Vols), .sl false 211 2 (encs (c211 false) xAD.Store.Arena.Knots), .int .i64 xAD.Store.Next, .int .i64 xAD.Seq, .int .i64 xAD.Tx, .int .i64 xAD.Base])]) rfl (fun v hv => w_toDevice_t xAD v hv) (.inl rfl) ?_)))))))
 intro v10 gv10 h
 refine KWp.w1 3 (KOp.cl h 3 65 (fun v11 => (B v11)) rfl rfl (l := [.sv (.agg [.sl false 124 3 (shares (encs (c124 true) v6.Flash.Blocks)), .sl false 110 2 (shares (encs c110 v6.Store.Vols)), .sl false 218 2 (shares (encs (c218 true) v6.Store.Arena.Knots)), .int .i64 v6.Store.Next, .int .i64 v6.Seq, .int .i64 v6.Tx, .int .i64 v6.Base]), .sv (.agg [.sl false 124 3 (shares (encs (c124 true) v10.Flash.Blocks)), .sl false 110 2 (shares (encs c110 v10.Store.Vols)), .sl false 218 2 (shares (encs (c218 true) v10.Store.Arena.Knots)), .int .i64 v10.Store.Next, .int .i64 v10.Seq, .int .i64 v10.Tx, .int .i64 v10.Base])]) rfl (fun v hv => cg (l := [.sv (.agg [.sl false 124 3 (shares (encs (c124 true) v6.Flash.Blocks)), .sl false 110 2 (shares (encs c110 v6.Store.Vols)), .sl false 218 2 (shares (encs (c218 true) v6.Store.Arena.Knots)), .int .i64 v6.Store.Next, .int .i64 v6.Seq, .int .i64 v6.Tx, .int .i64 v6.Base]), .sv (.agg [.sl false 124 3 (shares (encs (c124 true) v10.Flash.Blocks)), .sl false 110 2 (shares (encs c110 v10.Store.Vols)), .sl false 218 2 (shares (encs (c218 true) v10.Store.Arena.Knots)), .int .i64 v10.Store.Next, .int .i64 v10.Seq, .int .i64 v10.Tx, .int .i64 v10.Base])]) (by simp only [sh110, sh124, sh218]) (w_eqDevice_t v6 v10 v hv)) (.inr (fun v => rfl)) ?_)
 intro v11 gv11 h
 refine KWp.o 5 4 66 (B (!v11)) (KWp.done (Wp.c h (fun h => ?_) (fun h => ?_)))
 ·refine wr ?_
  refine lO 4 (B false) (lZ ?_)
  cases h
  exact Wp.ret ⟨.inr rfl, _, _, rfl, rfl⟩
 refine Wp.skip (wr (lO 13 (I 1) (lZ (wr (lO 67 (.agg [.view (.box 9) 0 [] 0, .view (.box 9) 0 [] 1, .view (.box 9) 0 [] 2, .int .i64 v6.Store.Next, .int .i64 v6.Seq, .int .i64 v6.Tx, .int .i64 v6.Base]) (lO 68 (I 1) (LWp.cv h [(true, 49, .tmp 67), (false, 3, .tmp 68)] [(.box 9, [.junk, .sl true 110 2 (encs c110 v6.Store.Vols), .sl true 218 2 (encs (c218 true) v6.Store.Arena.Knots), .int .i64 v6.Store.Next, .int .i64 v6.Seq, .int .i64 v6.Tx, .int .i64 v6.Base]), (.box 9, [.junk, .junk, .sl true 218 2 (encs (c218 true) v6.Store.Arena.Knots), .int .i64 v6.Store.Next, .int .i64 v6.Seq, .int .i64 v6.Tx, .int .i64 v6.Base]), (.box 9, [.junk, .junk, .junk, .int .i64 v6.Store.Next, .int .i64 v6.Seq, .int .i64 v6.Tx, .int .i64 v6.Base])] 69 (fun v12 => (I v12)) rfl rfl rfl (avl := [.sv (.agg [.sl true 124 3 (encs (c124 true) v6.Flash.Blocks), .sl true 110 2 (encs c110 v6.Store.Vols), .sl true 218 2 (encs (c218 true) v6.Store.Arena.Knots), .int .i64 v6.Store.Next, .int .i64 v6.Seq, .int .i64 v6.Tx, .int .i64 v6.Base]), .sv (.one (.int .i64 1))]) rfl (fun v hv => w_markDevice_t v6 1 v hv) (.inl rfl) ?_)))))))
 intro v12 gv12 h
 refine lO 13 (I v12) (lZ (Wp.seq (Wp.seq (Wp.j1 h [2, 3, 6, 7, 8, 10, 87] [.box 2, .box 3] (fun a => (w_FnExactPlanOf_H4 xAD xAQ j1 j2 a)) ?_ ?_))))
 ·intro a h
  refine Wp.region (lO 70 (I v12) (lO 71 (B (decide (v12 < 0))) (lO 72 (B (decide (v12 < 0))) (LWp.sp h 72 (fun h => ?_) (fun h => ?_)))))
  ·refine lH 73 ?_
   refine lH 74 (lH 75 (lH 76 (lO 77 (B true) (lO 78 (B true) (lH 79 (lH 80 (lH 81 (lO 82 (B true) (lO 83 (B true) ?_)))))))))
   refine lH 84 (lH 85 (lH 86 (lO 87 (B true) (lZ ?_))))
   cases h
   exact ⟨_, rfl, rfl, rfl⟩
  refine lO 73 (.one (.view (.slot 10) 0 [] 0)) (lO 74 (.one (.view (.slot 6) 0 [] 0)) (LWp.cl h 75 (fun v13 => (B v13)) rfl (l := [.sv (.one (.sl false 83 4 (shares (encs c83 j2.1)))), .sv (.one (.sl false 83 4 (shares (encs c83 j1.1))))]) rfl (fun v hv => cg (l := [.sv (.one (.sl false 83 4 (shares (encs c83 j2.1)))), .sv (.one (.sl false 83 4 (shares (encs c83 j1.1))))]) (by simp only [sh83]) (w_eqRecS_t j2.1 j1.1 v hv)) (.inr (fun v => rfl)) ?_))
  intro v13 gv13 h
  refine lO 76 (B (!v13)) (lO 77 (B (!v13)) (lO 78 (B (!v13)) (LWp.sp h 78 (fun h => ?_) (fun h => ?_))))
  ·refine lH 79 ?_
   refine lH 80 (lH 81 (lO 82 (B true) (lO 83 (B true) (lH 84 (lH 85 (lH 86 (lO 87 (B true) (lZ ?_))))))))
   cases h
   exact ⟨_, rfl, rfl, rfl⟩
  refine lO 79 (Y j2.2.1) (lO 80 (Y j1.2.1) (lO 81 (B (!(seq j2.2.1 j1.2.1))) (lO 82 (B (!(seq j2.2.1 j1.2.1))) (lO 83 (B (!(seq j2.2.1 j1.2.1))) (LWp.sp h 83 (fun h => ?_) (fun h => ?_))))))
  ·refine lH 84 ?_
   refine lH 85 (lH 86 (lO 87 (B true) (lZ ?_)))
   cases h
   exact ⟨_, rfl, rfl, rfl⟩
  refine lO 84 (I j2.2.2) (lO 85 (I j1.2.2) (lO 86 (B (j2.2.2 != j1.2.2)) (lO 87 (B (j2.2.2 != j1.2.2)) (lZ ?_))))
  cases h
  exact ⟨_, rfl, rfl, rfl⟩
 intro j4 h E hE
 refine nt_wp hE ?_
 change Wp _ _ _ (w_FnExactPlanOf_H4 xAD xAQ j1 j2 j4) _
 refine Wp.c h (fun h => ?_) (fun h => ?_)
 ·refine wr ?_
  refine lO 4 (B false) (lZ ?_)
  cases h
  exact Wp.ret ⟨.inr rfl, _, _, rfl, rfl⟩
 refine Wp.skip (wr (lO 14 (I 1) (lZ (wr (lO 88 (.one (.view (.slot 10) 0 [] 0)) (lO 89 (I 1) (LWp.leb h (.slot 10) [] 0 [.sl true 83 4 (encs c83 j2.1)] 90 (e := 83) (sz := 4) (encs c83 j2.1) 1 (fun v => v.1) (fun v14 => (encs c83 v14.2)) (fun v14 => [.sl true 83 4 (encs c83 v14.2)]) rfl (fun v14 => At.nl rfl) rfl (fun v hv => w_markRecS_t j2.1 1 v hv) (ns83 _) (fun _ => ns83 _) ?_ (.inl ⟨10, _, rfl, rfl, rfl, rfl, fun _ _ _ _ _ _ _ h => h⟩))))))))
 intro v14 gv14 h
 refine lO 14 (I v14.1) (lZ (wr (lO 15 (I 1) (lZ (wr (lO 91 (.one (.view (.slot 10) 1 [] 0)) (lO 92 (I 1) (LWp.cl h 93 (fun v15 => (I v15)) rfl (l := [.sv (.one (.sl false 83 4 (shares (encs c83 v14.2)))), .sv (.one (.int .i64 1))]) rfl (fun v hv => cg (l := [.sv (.one (.sl false 83 4 (shares (encs c83 v14.2)))), .sv (.one (.int .i64 1))]) (by simp only [sh83]) (w_heldRecS_t v14.2 1 v hv)) (.inr (fun v => rfl)) ?_))))))))
 intro v15 gv15 h
 refine lO 15 (I v15) (lZ (Wp.seq (wr (lO 94 (I v15) (lO 95 (B (decide (v15 < 0))) (lZ (Wp.c h (fun h => ?_) (fun h => ?_))))))))
 ·refine wr ?_
  refine lO 4 (B false) (lZ ?_)
  cases h
  exact Wp.ret ⟨.inr rfl, _, _, rfl, rfl⟩
 refine Wp.skip (Wp.seq (wr (lO 96 (I v15) (lO 97 (I v14.1) (lO 98 (B (v15 != v14.1)) (lZ (Wp.c h (fun h => ?_) (fun h => ?_))))))))
 ·refine wr ?_
  refine lO 4 (B false) (lZ ?_)
  cases h
  exact Wp.ret ⟨.inr rfl, _, _, rfl, rfl⟩
 refine Wp.skip (Wp.seq (Wp.j1 h [6, 7, 8, 10, 14, 16, 17, 18] [] (fun a => (w_FnExactPlanOf_H5 j1 v14 a.1 a.2.1 a.2.2)) ?_ ?_))
 ·intro a h
  refine Wp.regionK 12 [] mixed (fun c E h => by rcases h with ⟨h | h, _⟩ <;> cases h) (KWp.o 12 0 100 (.agg [.sl false 176 3 (encs (c176 false) xAD.Flash.Blocks), .sl false 188 2 (encs c188 xAD.Store.Vols), .sl false 211 2 (encs (c211 false) xAD.Store.Arena.Knots), .int .i64 xAD.Store.Next, .int .i64 xAD.Seq, .int .i64 xAD.Tx, .int .i64 xAD.Base]) (KWp.o 12 2 102 (.agg [.int .i64 xAQ.Kind, .int .i64 xAQ.Vol, .int .i64 xAQ.Sector, .int .i64 xAQ.Of, .str xAQ.Text]) (KWp.w1 1 (KOp.cl h 1 101 (fun v16 => (.agg [.sl true 124 3 (encs (c124 true) v16.Flash.Blocks), .sl true 110 2 (encs c110 v16.Store.Vols), .sl true 218 2 (encs (c218 true) v16.Store.Arena.Knots), .int .i64 v16.Store.Next, .int .i64 v16.Seq, .int .i64 v16.Tx, .int .i64 v16.Base])) rfl rfl (l := [.sv (.agg [.sl false 176 3 (encs (c176 false) xAD.Flash.Blocks), .sl false 188 2 (encs c188 xAD.Store.Vols), .sl false 211 2 (encs (c211 false) xAD.Store.Arena.Knots), .int .i64 xAD.Store.Next, .int .i64 xAD.Seq, .int .i64 xAD.Tx, .int .i64 xAD.Base])]) rfl (fun v hv => w_toDevice_t xAD v hv) (.inl rfl) ?_))))
  intro v16 gv16 h
  refine KWp.w1 3 (KOp.cl h 3 103 (fun v17 => (.agg [.int .i64 v17.Kind, .int .i64 v17.Vol, .int .i64 v17.Sector, .int .i64 v17.Of, .str v17.Text])) rfl rfl (l := [.sv (.agg [.int .i64 xAQ.Kind, .int .i64 xAQ.Vol, .int .i64 xAQ.Sector, .int .i64 xAQ.Of, .str xAQ.Text])]) rfl (fun v hv => w_toAsk_t xAQ v hv) (.inl rfl) ?_)
  intro v17 gv17 h
  refine KWp.w1 4 (KOp.cl h 4 104 (fun v18 => (.tup [(.one (.sl true 83 4 (encs c83 v18.1))), (Y v18.2.1), (I v18.2.2)])) rfl rfl (l := [.sv (.agg [.sl false 124 3 (shares (encs (c124 true) v16.Flash.Blocks)), .sl false 110 2 (shares (encs c110 v16.Store.Vols)), .sl false 218 2 (shares (encs (c218 true) v16.Store.Arena.Knots)), .int .i64 v16.Store.Next, .int .i64 v16.Seq, .int .i64 v16.Tx, .int .i64 v16.Base]), .sv (.agg [.int .i64 v17.Kind, .int .i64 v17.Vol, .int .i64 v17.Sector, .int .i64 v17.Of, .str v17.Text])]) rfl (fun v hv => cg (l := [.sv (.agg [.sl false 124 3 (shares (encs (c124 true) v16.Flash.Blocks)), .sl false 110 2 (shares (encs c110 v16.Store.Vols)), .sl false 218 2 (shares (encs (c218 true) v16.Store.Arena.Knots)), .int .i64 v16.Store.Next, .int .i64 v16.Seq, .int .i64 v16.Tx, .int .i64 v16.Base]), .sv (.agg [.int .i64 v17.Kind, .int .i64 v17.Vol, .int .i64 v17.Sector, .int .i64 v17.Of, .str v17.Text])]) (by simp only [sh110, sh124, sh218]) (i_PlanOf_t v16 v17 v hv)) (.inr (fun v => by simp [svShared, svShareds, hasShareds, hasShared, ns83])) ?_)
  intro v18 gv18 h
  refine KWp.w1 5 (KOp.mt 5 104 99 (.tup [(.one (.sl true 83 4 (encs c83 v18.1))), (Y v18.2.1), (I v18.2.2)]) (KWp.w3 6 7 8 ?_ ?_ ?_))
  ·refine KOp.e 6 99 0 105 (.one (.sl true 83 4 (encs c83 v18.1))) ?_
   refine KWp.w3 7 8 9 ?_ ?_ ?_
   ·refine KOp.e 7 99 1 106 (Y v18.2.1) ?_
    refine KWp.w2 8 9 ?_ ?_
    ·refine KOp.e 8 99 2 107 (I v18.2.2) ?_
     refine KWp.w1 9 (KOp.m 9 true [(.slot 105, [.junk])] 16 (.one (.sl true 83 4 (encs c83 v18.1))) (KWp.o 12 10 17 (Y v18.2.1) (KWp.o 12 11 18 (I v18.2.2) (KWp.done ?_))))
     cases h
     exact ⟨_, rfl, rfl, rfl⟩
    refine KOp.m 9 true [(.slot 105, [.junk])] 16 (.one (.sl true 83 4 (encs c83 v18.1))) (KWp.o 12 10 17 (Y v18.2.1) (KWp.w1 8 (KOp.e 8 99 2 107 (I v18.2.2) (KWp.o 12 11 18 (I v18.2.2) (KWp.done ?_)))))
    cases h
    exact ⟨_, rfl, rfl, rfl⟩
   ·refine KOp.e 8 99 2 107 (I v18.2.2) ?_
    refine KWp.w2 7 9 ?_ ?_
    ·refine KOp.e 7 99 1 106 (Y v18.2.1) ?_
     refine KWp.w1 9 (KOp.m 9 true [(.slot 105, [.junk])] 16 (.one (.sl true 83 4 (encs c83 v18.1))) (KWp.o 12 10 17 (Y v18.2.1) (KWp.o 12 11 18 (I v18.2.2) (KWp.done ?_))))
     cases h
     exact ⟨_, rfl, rfl, rfl⟩
    refine KOp.m 9 true [(.slot 105, [.junk])] 16 (.one (.sl true 83 4 (encs c83 v18.1))) (KWp.w1 7 (KOp.e 7 99 1 106 (Y v18.2.1) (KWp.o 12 10 17 (Y v18.2.1) (KWp.o 12 11 18 (I v18.2.2) (KWp.done ?_)))))
    cases h
    exact ⟨_, rfl, rfl, rfl⟩
   refine KOp.m 9 true [(.slot 105, [.junk])] 16 (.one (.sl true 83 4 (encs c83 v18.1))) (KWp.w2 7 8 ?_ ?_)
   ·refine KOp.e 7 99 1 106 (Y v18.2.1) ?_
    refine KWp.o 12 10 17 (Y v18.2.1) (KWp.w1 8 (KOp.e 8 99 2 107 (I v18.2.2) (KWp.o 12 11 18 (I v18.2.2) (KWp.done ?_))))
    cases h
    exact ⟨_, rfl, rfl, rfl⟩
   refine KOp.e 8 99 2 107 (I v18.2.2) (KWp.w1 7 (KOp.e 7 99 1 106 (Y v18.2.1) (KWp.o 12 10 17 (Y v18.2.1) (KWp.o 12 11 18 (I v18.2.2) (KWp.done ?_)))))
   cases h
   exact ⟨_, rfl, rfl, rfl⟩
  ·refine KOp.e 7 99 1 106 (Y v18.2.1) ?_
   refine KWp.w2 6 8 ?_ ?_
   ·refine KOp.e 6 99 0 105 (.one (.sl true 83 4 (encs c83 v18.1))) ?_
    refine KWp.w2 8 9 ?_ ?_
    ·refine KOp.e 8 99 2 107 (I v18.2.2) ?_
     refine KWp.w1 9 (KOp.m 9 true [(.slot 105, [.junk])] 16 (.one (.sl true 83 4 (encs c83 v18.1))) (KWp.o 12 10 17 (Y v18.2.1) (KWp.o 12 11 18 (I v18.2.2) (KWp.done ?_))))
     cases h
     exact ⟨_, rfl, rfl, rfl⟩
    refine KOp.m 9 true [(.slot 105, [.junk])] 16 (.one (.sl true 83 4 (encs c83 v18.1))) (KWp.o 12 10 17 (Y v18.2.1) (KWp.w1 8 (KOp.e 8 99 2 107 (I v18.2.2) (KWp.o 12 11 18 (I v18.2.2) (KWp.done ?_)))))
    cases h
    exact ⟨_, rfl, rfl, rfl⟩
   refine KOp.e 8 99 2 107 (I v18.2.2) (KWp.w1 6 (KOp.e 6 99 0 105 (.one (.sl true 83 4 (encs c83 v18.1))) (KWp.w1 9 (KOp.m 9 true [(.slot 105, [.junk])] 16 (.one (.sl true 83 4 (encs c83 v18.1))) (KWp.o 12 10 17 (Y v18.2.1) (KWp.o 12 11 18 (I v18.2.2) (KWp.done ?_)))))))
   cases h
   exact ⟨_, rfl, rfl, rfl⟩
  refine KOp.e 8 99 2 107 (I v18.2.2) (KWp.w2 6 7 ?_ ?_)
  ·refine KOp.e 6 99 0 105 (.one (.sl true 83 4 (encs c83 v18.1))) ?_
   refine KWp.w2 7 9 ?_ ?_
   ·refine KOp.e 7 99 1 106 (Y v18.2.1) ?_
    refine KWp.w1 9 (KOp.m 9 true [(.slot 105, [.junk])] 16 (.one (.sl true 83 4 (encs c83 v18.1))) (KWp.o 12 10 17 (Y v18.2.1) (KWp.o 12 11 18 (I v18.2.2) (KWp.done ?_))))
    cases h
    exact ⟨_, rfl, rfl, rfl⟩
   refine KOp.m 9 true [(.slot 105, [.junk])] 16 (.one (.sl true 83 4 (encs c83 v18.1))) (KWp.w1 7 (KOp.e 7 99 1 106 (Y v18.2.1) (KWp.o 12 10 17 (Y v18.2.1) (KWp.o 12 11 18 (I v18.2.2) (KWp.done ?_)))))
   cases h
   exact ⟨_, rfl, rfl, rfl⟩
  refine KOp.e 7 99 1 106 (Y v18.2.1) (KWp.w1 6 (KOp.e 6 99 0 105 (.one (.sl true 83 4 (encs c83 v18.1))) (KWp.w1 9 (KOp.m 9 true [(.slot 105, [.junk])] 16 (.one (.sl true 83 4 (encs c83 v18.1))) (KWp.o 12 10 17 (Y v18.2.1) (KWp.o 12 11 18 (I v18.2.2) (KWp.done ?_)))))))
  cases h
  exact ⟨_, rfl, rfl, rfl⟩
 intro j5 h E hE
 refine nt_wp hE ?_
 change Wp _ _ _ (w_FnExactPlanOf_H5 j1 v14 j5.1 j5.2.1 j5.2.2) _
 refine Wp.seq (Wp.seq (Wp.j1 h [10, 14, 121] [] (fun a => (w_FnExactPlanOf_H6 v14 a)) ?_ ?_))
 ·intro a h
  refine Wp.region (lO 108 (.one (.view (.slot 16) 0 [] 0)) (lO 109 (.one (.view (.slot 6) 0 [] 0)) (LWp.cl h 110 (fun v19 => (B v19)) rfl (l := [.sv (.one (.sl false 83 4 (shares (encs c83 j5.1)))), .sv (.one (.sl false 83 4 (shares (encs c83 j1.1))))]) rfl (fun v hv => cg (l := [.sv (.one (.sl false 83 4 (shares (encs c83 j5.1)))), .sv (.one (.sl false 83 4 (shares (encs c83 j1.1))))]) (by simp only [sh83]) (w_eqRecS_t j5.1 j1.1 v hv)) (.inr (fun v => rfl)) ?_)))
  intro v19 gv19 h
  refine lO 111 (B (!v19)) (lO 112 (B (!v19)) (LWp.sp h 112 (fun h => ?_) (fun h => ?_)))
  ·refine lH 113 ?_
   refine lH 114 (lH 115 (lO 116 (B true) (lO 117 (B true) (lH 118 (lH 119 (lH 120 (lO 121 (B true) (lZ ?_))))))))
   cases h
   exact ⟨_, rfl, rfl, rfl⟩
  refine lO 113 (Y j5.2.1) (lO 114 (Y j1.2.1) (lO 115 (B (!(seq j5.2.1 j1.2.1))) (lO 116 (B (!(seq j5.2.1 j1.2.1))) (lO 117 (B (!(seq j5.2.1 j1.2.1))) (LWp.sp h 117 (fun h => ?_) (fun h => ?_))))))
  ·refine lH 118 ?_
   refine lH 119 (lH 120 (lO 121 (B true) (lZ ?_)))
   cases h
   exact ⟨_, rfl, rfl, rfl⟩
  refine lO 118 (I j5.2.2) (lO 119 (I j1.2.2) (lO 120 (B (j5.2.2 != j1.2.2)) (lO 121 (B (j5.2.2 != j1.2.2)) (lZ ?_))))
  cases h
  exact ⟨_, rfl, rfl, rfl⟩
 intro j6 h E hE
 refine nt_wp hE ?_
 change Wp _ _ _ (w_FnExactPlanOf_H6 v14 j6) _
 refine Wp.c h (fun h => ?_) (fun h => ?_)
 ·refine wr ?_
  refine lO 4 (B false) (lZ ?_)
  cases h
  exact Wp.ret ⟨.inr rfl, _, _, rfl, rfl⟩
 refine Wp.skip (wr (lO 15 (I 1) (lZ (wr (lO 122 (.one (.view (.slot 10) 0 [] 0)) (lO 123 (I 1) (LWp.cl h 124 (fun v20 => (I v20)) rfl (l := [.sv (.one (.sl false 83 4 (shares (encs c83 v14.2)))), .sv (.one (.int .i64 1))]) rfl (fun v hv => cg (l := [.sv (.one (.sl false 83 4 (shares (encs c83 v14.2)))), .sv (.one (.int .i64 1))]) (by simp only [sh83]) (w_heldRecS_t v14.2 1 v hv)) (.inr (fun v => rfl)) ?_)))))))
 intro v20 gv20 h
 refine lO 15 (I v20) (lZ (Wp.seq (wr (lO 125 (I v20) (lO 126 (B (decide (v20 < 0))) (lZ (Wp.c h (fun h => ?_) (fun h => ?_))))))))
 ·refine wr ?_
  refine lO 4 (B false) (lZ ?_)
  cases h
  exact Wp.ret ⟨.inr rfl, _, _, rfl, rfl⟩
 refine Wp.skip (Wp.seq (wr (lO 127 (I v20) (lO 128 (I v14.1) (lO 129 (B (v20 != v14.1)) (lZ (Wp.c h (fun h => ?_) (fun h => ?_))))))))
 ·refine wr ?_
  refine lO 4 (B false) (lZ ?_)
  cases h
  exact Wp.ret ⟨.inr rfl, _, _, rfl, rfl⟩
 refine Wp.skip (wr (lO 4 (B true) (lZ ?_)))
 cases h
 exact Wp.ret ⟨.inr rfl, _, _, rfl, rfl⟩
end Go.TI
