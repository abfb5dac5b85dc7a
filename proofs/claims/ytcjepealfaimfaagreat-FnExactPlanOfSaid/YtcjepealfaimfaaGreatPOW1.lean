/- That they compute it. No condition. -/
import Derived.Test.YtcjepealfaimfaaGreatPOW0
namespace Go.TI
set_option maxRecDepth 100000
open Go Go.Proofs
set_option linter.unusedVariables false
set_option linter.unusedSimpArgs false
def s_ReadVar_H1 (xText : ByteArray) (xAt : Int) (z1 : Int) (z2 : Int) (z3 : Int) : St := mkSt [(0, (Y xText)), (1, (I xAt)), (7, (I z1)), (8, (I z2)), (9, (I z3))] []
def s_ReadVar_H2  : St := mkSt [] []
def s_ReadVar_H3 (xText : ByteArray) (xAt : Int) (yN1 : Int) (yScale1 : Int) (yI1 : Int) (z4 : Bool) : St := mkSt [(0, (Y xText)), (1, (I xAt)), (7, (I yN1)), (8, (I yScale1)), (9, (I yI1)), (25, (B z4))] []
def s_ReadVar_H4 (yN1 : Int) (yScale1 : Int) (yI1 : Int) (x1 : Int) (z5 : Bool) : St := mkSt [(7, (I (ad yN1 (ml (Int.tmod (IntKind.i64.wrap x1) 128) yScale1)))), (9, (I yI1)), (54, (B z5))] []
theorem s_ReadVar_t (xText : ByteArray) (xAt : Int) (r : Int × Int × Bool) (h : s_ReadVar xText xAt = some r) : Gives Tryz.prog 185 [.sv (Y xText), .sv (I xAt)] (.tup [(I r.1), (I r.2.1), (B r.2.2)]) (List.replicate 2 .gone) := by
 unfold s_ReadVar at h
 refine gives_of Tryz.func185 rfl ?_
 rw [Tryz.ntmps185]
 refine wr (lO 4 (I 0) (lO 5 (I 0) (lO 6 (B false) (lZ (Wp.seq (wr (lO 10 (I xAt) (lO 11 (Y xText) (lO 12 (I (sln xText)) ?_)))))))))
 refine LWp.cl h 13 (fun v1 => (B v1)) rfl (l := [.sv (.one (.int .i64 xAt)), .sv (.one (.int .i64 0)), .sv (.one (.int .i64 (sln xText)))]) rfl (fun v hv => s_l01In_t xAt 0 (sln xText) v hv) (.inl rfl) ?_
 intro v1 gv1 h
 refine lO 14 (B (!v1)) (lZ (Wp.c h (fun h => ?_) (fun h => ?_)))
 ·refine wr ?_
  refine lO 4 (I 0) (lO 5 (I 0) (lO 6 (B false) (lZ ?_)))
  cases h
  exact Wp.ret ⟨.inr rfl, _, _, rfl, rfl⟩
 refine Wp.skip (wr (lO 7 (I 0) (lZ (wr (lO 8 (I 1) (lZ (Wp.seq (wr (lO 15 (I xAt) ?_)))))))))
 refine lO 9 (I xAt) (lZ (Wp.l2 h [0, 1, 7, 8, 9] [] (fun s => (s_ReadVar_H1 xText xAt s.1 s.2.1 s.2.2)) [] [] (fun _ => s_ReadVar_H2) ⟨rfl, rfl⟩ ?_ ?_))
 ·rintro ⟨yN1, yScale1, yI1⟩ o (h : s_ReadVar_b1 xText xAt yN1 yScale1 yI1 = some o) hk1
  unfold s_ReadVar_b1 at h
  change Wp _ _ _ (s_ReadVar_H1 xText xAt yN1 yScale1 yI1) _
  refine Wp.seq (Wp.seq (Wp.j1 h [0, 1, 7, 8, 9, 25] [] (fun a => (s_ReadVar_H3 xText xAt yN1 yScale1 yI1 a)) ?_ ?_))
  ·intro a h
   refine Wp.region (lO 16 (I yI1) (lO 17 (Y xText) (lO 18 (I (sln xText)) (lO 19 (B (decide (yI1 < (sln xText)))) (lO 20 (B (decide (yI1 < (sln xText)))) (LWp.sp h 20 (fun h => ?_) (fun h => ?_)))))))
   ·refine lO 21 (I yI1) ?_
    refine lO 22 (I xAt) (lO 23 (I (ad xAt 5)) (lO 24 (B (decide (yI1 < (ad xAt 5)))) (lO 25 (B (decide (yI1 < (ad xAt 5)))) (lZ ?_))))
    cases h
    exact ⟨_, rfl, rfl, rfl⟩
   refine lH 21 (lH 22 (lH 23 (lH 24 (lO 25 (B false) (lZ ?_)))))
   cases h
   exact ⟨_, rfl, rfl, rfl⟩
  intro j1 h E hE
  refine nt_wp hE ?_
  change Wp _ _ _ (s_ReadVar_H3 xText xAt yN1 yScale1 yI1 j1) _
  refine Wp.c h (fun h => ?_) (fun h => ?_)
  ·refine Wp.skip ?_
   refine Wp.seq (Wp.block (wr (lO 28 (I yN1) (lO 29 (Y xText) (lO 30 (I yI1) (LWp.p h 31 (fun x1 => (.one (.int .u8 x1))) ?_ (fun x1 gx1 => st_pure (p_sx gx1))))))))
   intro x1 gx1 h
   refine lO 32 (I (IntKind.i64.wrap x1)) (lO 33 (I (Int.tmod (IntKind.i64.wrap x1) 128)) (lO 34 (I yScale1) (lO 35 (I (ml (Int.tmod (IntKind.i64.wrap x1) 128) yScale1)) (lO 36 (I (ad yN1 (ml (Int.tmod (IntKind.i64.wrap x1) 128) yScale1))) (lO 7 (I (ad yN1 (ml (Int.tmod (IntKind.i64.wrap x1) 128) yScale1))) (lZ (wr (lO 37 (I yScale1) (lO 38 (I (ml yScale1 128)) ?_)))))))))
   refine lO 8 (I (ml yScale1 128)) (lZ (wr (lO 39 (Y xText) (lO 40 (I yI1) (LWp.p h 41 (fun x2 => (.one (.int .u8 x2))) ?_ (fun x2 gx2 => st_pure (p_sx gx2)))))))
   intro x2 gx2 h
   refine lO 42 (B (decide (x2 < 128))) (lZ (Wp.c h (fun h => ?_) (fun h => ?_)))
   ·refine Wp.seq ?_
    refine Wp.seq (Wp.j1 h [7, 9, 54] [] (fun a => (s_ReadVar_H4 yN1 yScale1 yI1 x1 a)) ?_ ?_)
    ·intro a h
     refine Wp.regionK 12 [] mixed (fun c E h => by rcases h with ⟨h | h, _⟩ <;> cases h) (KWp.o 12 0 43 (I (ad yN1 (ml (Int.tmod (IntKind.i64.wrap x1) 128) yScale1))) (KWp.o 12 1 44 (B (decide ((ad yN1 (ml (Int.tmod (IntKind.i64.wrap x1) 128) yScale1)) > 1000000000))) (KWp.o 12 2 45 (B (decide ((ad yN1 (ml (Int.tmod (IntKind.i64.wrap x1) 128) yScale1)) > 1000000000))) (KWp.sp h 45 (fun h => ?_) (fun h => ?_)))))
     ·refine KWp.sh 12 3 46 ?_
      refine KWp.sh 12 5 48 (KWp.sh 12 6 49 (KWp.sh 12 7 50 (KWp.sh 12 8 51 (KWp.sh 12 9 52 (KWp.sh 12 4 47 (KWp.sh 12 10 53 (KWp.o 12 11 54 (B true) (KWp.done ?_))))))))
      cases h
      exact ⟨_, rfl, rfl, rfl⟩
     refine KWp.o 12 3 46 (I (ad yN1 (ml (Int.tmod (IntKind.i64.wrap x1) 128) yScale1))) (KWp.o 12 5 48 (Y xText) (KWp.o 12 6 49 (I xAt) (KWp.o 12 7 50 (I yI1) (KWp.o 12 8 51 (I (ad yI1 1)) (KWp.p h 12 9 52 (fun x3 => (Y x3)) ?_ rfl (fun x3 gx3 => sl_pure (p_sub gx3)))))))
     intro x3 gx3 h
     refine KWp.w1 4 (KOp.cl h 4 47 (fun v2 => (Y v2)) rfl rfl (l := [.sv (.one (.int .i64 (ad yN1 (ml (Int.tmod (IntKind.i64.wrap x1) 128) yScale1))))]) rfl (fun v hv => s_l01Var_t (ad yN1 (ml (Int.tmod (IntKind.i64.wrap x1) 128) yScale1)) v hv) (.inl rfl) ?_)
     intro v2 gv2 h
     refine KWp.o 12 10 53 (B (!(seq v2 x3))) (KWp.o 12 11 54 (B (!(seq v2 x3))) (KWp.done ?_))
     cases h
     exact ⟨_, rfl, rfl, rfl⟩
    intro j2 h E hE
    refine nt_wp hE ?_
    change Wp _ _ _ (s_ReadVar_H4 yN1 yScale1 yI1 x1 j2) _
    refine Wp.c h (fun h => ?_) (fun h => ?_)
    ·refine wr ?_
     refine lO 4 (I 0) (lO 5 (I 0) (lO 6 (B false) (lZ ?_)))
     cases h
     replace h : some _ = some _ := hk1 _ rfl
     cases h
     exact Wp.ret ⟨.inr rfl, _, _, rfl, rfl⟩
    refine Wp.skip (wr (lO 55 (I (ad yN1 (ml (Int.tmod (IntKind.i64.wrap x1) 128) yScale1))) (lO 56 (I yI1) (lO 57 (I (ad yI1 1)) (lO 4 (I (ad yN1 (ml (Int.tmod (IntKind.i64.wrap x1) 128) yScale1))) (lO 5 (I (ad yI1 1)) (lO 6 (B true) (lZ ?_))))))))
    cases h
    replace h : some _ = some _ := hk1 _ rfl
    cases h
    exact Wp.ret ⟨.inr rfl, _, _, rfl, rfl⟩
   refine Wp.skip (Wp.region (lO 26 (I yI1) (lO 27 (I (ad yI1 1)) (lO 9 (I (ad yI1 1)) (lZ ?_)))))
   cases h
   exact ⟨_, rfl, rfl, rfl⟩
  refine Wp.exit ?_
  cases h
  exact ⟨_, rfl, rfl, rfl⟩
 intro v3 h E hE
 refine nt_wp hE ?_
 change Wp _ _ _ s_ReadVar_H2 _
 refine wr (lO 4 (I 0) (lO 5 (I 0) (lO 6 (B false) (lZ ?_))))
 cases h
 exact Wp.ret ⟨.inr rfl, _, _, rfl, rfl⟩
def s_l06Var_H1 (xC : l06Cur) (z1 : Int) (z2 : Int) (z3 : Bool) : St := mkSt [(0, (.one (.ptr (.ext 0) 0 [] 0))), (3, (I z1)), (4, (I z2)), (5, (B z3))] [(.ext 0, [.str xC.text_, .int .i64 xC.at_, .bool xC.bad_])]
def s_l06Var_H2 (xC : l06Cur) (j1 : Int × Int × Bool) (z4 : Bool) : St := mkSt [(0, (.one (.ptr (.ext 0) 0 [] 0))), (3, (I j1.1)), (4, (I j1.2.1)), (26, (B z4))] [(.ext 0, [.str xC.text_, .int .i64 xC.at_, .bool xC.bad_])]
theorem s_l06Var_t (xC : l06Cur) (r : Int × l06Cur) (h : s_l06Var xC = some r) : Gives Tryz.prog 153 [.ext [.str xC.text_, .int .i64 xC.at_, .bool xC.bad_]] (I r.1) (.ext [.str r.2.text_, .int .i64 r.2.at_, .bool r.2.bad_] :: List.replicate 0 .gone) := by
 unfold s_l06Var at h
 refine gives_ext Tryz.func153 rfl ?_ rfl
 rw [Tryz.ntmps153]
 refine wr (lO 2 (I 0) (lZ (Wp.seq (Wp.j1 h [0, 3, 4, 5] [.ext 0] (fun a => (s_l06Var_H1 xC a.1 a.2.1 a.2.2)) ?_ ?_))))
 ·intro a h
  refine Wp.regionK 16 [] mixed (fun c E h => by rcases h with ⟨h | h, _⟩ <;> cases h) (KWp.o 16 0 7 (.one (.ptr (.ext 0) 0 [] 0)) (KWp.o 16 1 8 (.one (.ptr (.ext 0) 0 [] 0)) (KWp.o 16 2 9 (.one (.ptr (.ext 0) 0 [] 0)) (KWp.o 16 3 10 (Y xC.text_) (KWp.o 16 4 11 (.one (.ptr (.ext 0) 0 [] 0)) (KWp.o 16 5 12 (.one (.ptr (.ext 0) 0 [] 0)) (KWp.o 16 6 13 (.one (.ptr (.ext 0) 0 [] 1)) (KWp.o 16 7 14 (I xC.at_) (KWp.w1 8 ?_)))))))))
  refine KOp.cl h 8 15 (fun v1 => (.tup [(I v1.1), (I v1.2.1), (B v1.2.2)])) rfl rfl (l := [.sv (.one (.str xC.text_)), .sv (.one (.int .i64 xC.at_))]) rfl (fun v hv => s_ReadVar_t xC.text_ xC.at_ v hv) (.inl rfl) ?_
  intro v1 gv1 h
  refine KWp.w1 9 (KOp.mt 9 15 6 (.tup [(I v1.1), (I v1.2.1), (B v1.2.2)]) (KWp.w3 10 11 12 ?_ ?_ ?_))
  ·refine KOp.e 10 6 0 16 (I v1.1) ?_
   refine KWp.o 16 13 3 (I v1.1) (KWp.w2 11 12 ?_ ?_)
   ·refine KOp.e 11 6 1 17 (I v1.2.1) ?_
    refine KWp.o 16 14 4 (I v1.2.1) (KWp.w1 12 (KOp.e 12 6 2 18 (B v1.2.2) (KWp.o 16 15 5 (B v1.2.2) (KWp.done ?_))))
    cases h
    exact ⟨_, rfl, rfl, rfl⟩
   refine KOp.e 12 6 2 18 (B v1.2.2) (KWp.w1 11 (KOp.e 11 6 1 17 (I v1.2.1) (KWp.o 16 14 4 (I v1.2.1) (KWp.o 16 15 5 (B v1.2.2) (KWp.done ?_)))))
   cases h
   exact ⟨_, rfl, rfl, rfl⟩
  ·refine KOp.e 11 6 1 17 (I v1.2.1) ?_
   refine KWp.w2 10 12 ?_ ?_
   ·refine KOp.e 10 6 0 16 (I v1.1) ?_
    refine KWp.o 16 13 3 (I v1.1) (KWp.o 16 14 4 (I v1.2.1) (KWp.w1 12 (KOp.e 12 6 2 18 (B v1.2.2) (KWp.o 16 15 5 (B v1.2.2) (KWp.done ?_)))))
    cases h
    exact ⟨_, rfl, rfl, rfl⟩
   refine KOp.e 12 6 2 18 (B v1.2.2) (KWp.w1 10 (KOp.e 10 6 0 16 (I v1.1) (KWp.o 16 13 3 (I v1.1) (KWp.o 16 14 4 (I v1.2.1) (KWp.o 16 15 5 (B v1.2.2) (KWp.done ?_))))))
   cases h
   exact ⟨_, rfl, rfl, rfl⟩
  refine KOp.e 12 6 2 18 (B v1.2.2) (KWp.w2 10 11 ?_ ?_)
  ·refine KOp.e 10 6 0 16 (I v1.1) ?_
   refine KWp.o 16 13 3 (I v1.1) (KWp.w1 11 (KOp.e 11 6 1 17 (I v1.2.1) (KWp.o 16 14 4 (I v1.2.1) (KWp.o 16 15 5 (B v1.2.2) (KWp.done ?_)))))
   cases h
   exact ⟨_, rfl, rfl, rfl⟩
  refine KOp.e 11 6 1 17 (I v1.2.1) (KWp.w1 10 (KOp.e 10 6 0 16 (I v1.1) (KWp.o 16 13 3 (I v1.1) (KWp.o 16 14 4 (I v1.2.1) (KWp.o 16 15 5 (B v1.2.2) (KWp.done ?_))))))
  cases h
  exact ⟨_, rfl, rfl, rfl⟩
 intro j1 h E hE
 refine nt_wp hE ?_
 change Wp _ _ _ (s_l06Var_H1 xC j1.1 j1.2.1 j1.2.2) _
 refine Wp.seq (Wp.seq (Wp.j1 h [0, 3, 4, 26] [.ext 0] (fun a => (s_l06Var_H2 xC j1 a)) ?_ ?_))
 ·intro a h
  refine Wp.region (lO 19 (.one (.ptr (.ext 0) 0 [] 0)) (lO 20 (.one (.ptr (.ext 0) 0 [] 0)) (lO 21 (.one (.ptr (.ext 0) 0 [] 2)) (lO 22 (B xC.bad_) (lO 23 (B xC.bad_) (LWp.sp h 23 (fun h => ?_) (fun h => ?_)))))))
  ·refine lH 24 ?_
   refine lH 25 (lO 26 (B true) (lZ ?_))
   cases h
   exact ⟨_, rfl, rfl, rfl⟩
  refine lO 24 (B j1.2.2) (lO 25 (B (!j1.2.2)) (lO 26 (B (!j1.2.2)) (lZ ?_)))
  cases h
  exact ⟨_, rfl, rfl, rfl⟩
 intro j2 h E hE
 refine nt_wp hE ?_
 change Wp _ _ _ (s_l06Var_H2 xC j1 j2) _
 refine Wp.c h (fun h => ?_) (fun h => ?_)
 ·refine wr ?_
  refine lO 27 (.one (.ptr (.ext 0) 0 [] 0)) (lO 28 (.one (.ptr (.ext 0) 0 [] 0)) (lO 29 (.one (.ptr (.ext 0) 0 [] 2)) (LWp.s [] (.ext 0) [.str xC.text_, .int .i64 xC.at_, .bool true] (lZ (wr (lO 2 (I 0) (lZ ?_)))))))
  cases h
  exact Wp.ret ⟨.inr rfl, _, _, rfl, rfl, rfl⟩
 refine Wp.skip (wr (lO 30 (.one (.ptr (.ext 0) 0 [] 0)) (lO 31 (I j1.2.1) (lO 32 (.one (.ptr (.ext 0) 0 [] 0)) (lO 33 (.one (.ptr (.ext 0) 0 [] 1)) (LWp.s [] (.ext 0) [.str xC.text_, .int .i64 j1.2.1, .bool xC.bad_] (lZ (wr (lO 34 (I j1.1) ?_)))))))))
 refine lO 2 (I j1.1) (lZ ?_)
 cases h
 exact Wp.ret ⟨.inr rfl, _, _, rfl, rfl, rfl⟩
def s_PageOk_H1 (xP : Page) (z1 : Bool) : St := mkSt [(1, (.one (.ptr (.box 1) 0 [] 0))), (39, (B z1))] [(.box 1, [.int .i64 xP.Kind, .int .i64 xP.Seq, .int .i64 xP.Tx, .int .i64 xP.Part, .int .i64 xP.Count, .str xP.Text])]
theorem s_PageOk_t (xP : Page) (r : Bool) (h : s_PageOk xP = some r) : Gives Tryz.prog 119 [.sv (.agg [.int .i64 xP.Kind, .int .i64 xP.Seq, .int .i64 xP.Tx, .int .i64 xP.Part, .int .i64 xP.Count, .str xP.Text])] (B r) (List.replicate 1 .gone) := by
 unfold s_PageOk at h
 refine gives_of Tryz.func119 rfl ?_
 rw [Tryz.ntmps119]
 refine wr (LWp.b [] 1 [.int .i64 xP.Kind, .int .i64 xP.Seq, .int .i64 xP.Tx, .int .i64 xP.Part, .int .i64 xP.Count, .str xP.Text] (lO 2 (B false) (lZ (Wp.seq (Wp.seq (Wp.j1 h [1, 39] [.box 1] (fun a => (s_PageOk_H1 xP a)) ?_ ?_))))))
 ·intro a h
  refine Wp.region (lO 3 (.one (.ptr (.box 1) 1 [] 0)) (lO 4 (I xP.Kind) (LWp.cl h 5 (fun v1 => (B v1)) rfl (l := [.sv (.one (.int .i64 xP.Kind)), .sv (.one (.int .i64 1)), .sv (.one (.int .i64 2))]) rfl (fun v hv => s_l01In_t xP.Kind 1 2 v hv) (.inl rfl) ?_)))
  intro v1 gv1 h
  refine lO 6 (B (!v1)) (lO 7 (B (!v1)) (LWp.sp h 7 (fun h => ?_) (fun h => ?_)))
  ·refine lH 8 ?_
   refine lH 9 (lH 10 (lH 11 (lO 12 (B true) (lO 13 (B true) (lH 14 (lH 15 (lH 16 (lH 17 (lO 18 (B true) ?_)))))))))
   refine lO 19 (B true) (lH 20 (lH 21 (lH 22 (lH 23 (lO 24 (B true) (lO 25 (B true) (lH 26 (lH 27 (lH 28 ?_)))))))))
   refine lH 29 (lH 30 (lH 31 (lH 32 (lO 33 (B true) (lO 34 (B true) (lH 35 (lH 36 (lH 37 (lH 38 ?_)))))))))
   refine lO 39 (B true) (lZ ?_)
   cases h
   exact ⟨_, rfl, rfl, rfl⟩
  refine lO 8 (.one (.ptr (.box 1) 1 [] 1)) (lO 9 (I xP.Seq) (LWp.cl h 10 (fun v2 => (B v2)) rfl (l := [.sv (.one (.int .i64 xP.Seq)), .sv (.one (.int .i64 1)), .sv (.one (.int .i64 1000000000))]) rfl (fun v hv => s_l01In_t xP.Seq 1 1000000000 v hv) (.inl rfl) ?_))
  intro v2 gv2 h
  refine lO 11 (B (!v2)) (lO 12 (B (!v2)) (lO 13 (B (!v2)) (LWp.sp h 13 (fun h => ?_) (fun h => ?_))))
  ·refine lH 14 ?_
   refine lH 15 (lH 16 (lH 17 (lO 18 (B true) (lO 19 (B true) (lH 20 (lH 21 (lH 22 (lH 23 (lO 24 (B true) ?_)))))))))
   refine lO 25 (B true) (lH 26 (lH 27 (lH 28 (lH 29 (lH 30 (lH 31 (lH 32 (lO 33 (B true) (lO 34 (B true) ?_)))))))))
   refine lH 35 (lH 36 (lH 37 (lH 38 (lO 39 (B true) (lZ ?_)))))
   cases h
   exact ⟨_, rfl, rfl, rfl⟩
  refine lO 14 (.one (.ptr (.box 1) 1 [] 2)) (lO 15 (I xP.Tx) (LWp.cl h 16 (fun v3 => (B v3)) rfl (l := [.sv (.one (.int .i64 xP.Tx)), .sv (.one (.int .i64 1)), .sv (.one (.int .i64 1000000000))]) rfl (fun v hv => s_l01In_t xP.Tx 1 1000000000 v hv) (.inl rfl) ?_))
  intro v3 gv3 h
  refine lO 17 (B (!v3)) (lO 18 (B (!v3)) (lO 19 (B (!v3)) (LWp.sp h 19 (fun h => ?_) (fun h => ?_))))
  ·refine lH 20 ?_
   refine lH 21 (lH 22 (lH 23 (lO 24 (B true) (lO 25 (B true) (lH 26 (lH 27 (lH 28 (lH 29 (lH 30 ?_)))))))))
   refine lH 31 (lH 32 (lO 33 (B true) (lO 34 (B true) (lH 35 (lH 36 (lH 37 (lH 38 (lO 39 (B true) (lZ ?_)))))))))
   cases h
   exact ⟨_, rfl, rfl, rfl⟩
  refine lO 20 (.one (.ptr (.box 1) 1 [] 4)) (lO 21 (I xP.Count) (LWp.cl h 22 (fun v4 => (B v4)) rfl (l := [.sv (.one (.int .i64 xP.Count)), .sv (.one (.int .i64 1)), .sv (.one (.int .i64 9))]) rfl (fun v hv => s_l01In_t xP.Count 1 9 v hv) (.inl rfl) ?_))
  intro v4 gv4 h
  refine lO 23 (B (!v4)) (lO 24 (B (!v4)) (lO 25 (B (!v4)) (LWp.sp h 25 (fun h => ?_) (fun h => ?_))))
  ·refine lH 26 ?_
   refine lH 27 (lH 28 (lH 29 (lH 30 (lH 31 (lH 32 (lO 33 (B true) (lO 34 (B true) (lH 35 (lH 36 ?_)))))))))
   refine lH 37 (lH 38 (lO 39 (B true) (lZ ?_)))
   cases h
   exact ⟨_, rfl, rfl, rfl⟩
  refine lO 26 (.one (.ptr (.box 1) 1 [] 3)) (lO 27 (I xP.Part) (lO 28 (.one (.ptr (.box 1) 1 [] 4)) (lO 29 (I xP.Count) (lO 30 (I (sb xP.Count 1)) (LWp.cl h 31 (fun v5 => (B v5)) rfl (l := [.sv (.one (.int .i64 xP.Part)), .sv (.one (.int .i64 0)), .sv (.one (.int .i64 (sb xP.Count 1)))]) rfl (fun v hv => s_l01In_t xP.Part 0 (sb xP.Count 1) v hv) (.inl rfl) ?_)))))
  intro v5 gv5 h
  refine lO 32 (B (!v5)) (lO 33 (B (!v5)) (lO 34 (B (!v5)) (LWp.sp h 34 (fun h => ?_) (fun h => ?_))))
  ·refine lH 35 ?_
   refine lH 36 (lH 37 (lH 38 (lO 39 (B true) (lZ ?_))))
   cases h
   exact ⟨_, rfl, rfl, rfl⟩
  refine lO 35 (.one (.ptr (.box 1) 1 [] 5)) (lO 36 (Y xP.Text) (lO 37 (I (sln xP.Text)) (lO 38 (B (decide ((sln xP.Text) > 90))) (lO 39 (B (decide ((sln xP.Text) > 90))) (lZ ?_)))))
  cases h
  exact ⟨_, rfl, rfl, rfl⟩
 intro j1 h E hE
 refine nt_wp hE ?_
 change Wp _ _ _ (s_PageOk_H1 xP j1) _
 refine Wp.c h (fun h => ?_) (fun h => ?_)
 ·refine wr ?_
  refine lO 2 (B false) (lZ ?_)
  cases h
  exact Wp.ret ⟨.inr rfl, _, _, rfl, rfl⟩
 refine Wp.skip (wr (lO 40 (.one (.ptr (.box 1) 0 [] 0)) (lO 41 (I xP.Kind) (lO 42 (B (xP.Kind == 2)) (lO 43 (B (xP.Kind == 2)) (LWp.sp h 43 (fun h => ?_) (fun h => ?_)))))))
 ·refine lH 44 ?_
  refine lH 45 (lH 46 (lO 47 (B true) (lO 2 (B true) (lZ ?_))))
  cases h
  exact Wp.ret ⟨.inr rfl, _, _, rfl, rfl⟩
 refine lO 44 (.one (.ptr (.box 1) 0 [] 4)) (lO 45 (I xP.Count) (lO 46 (B (xP.Count == 1)) (lO 47 (B (xP.Count == 1)) (lO 2 (B (xP.Count == 1)) (lZ ?_)))))
 cases h
 exact Wp.ret ⟨.inr rfl, _, _, rfl, rfl⟩
theorem s_l06Byte_t (xN : Int) (r : ByteArray) (h : s_l06Byte xN = some r) : Gives Tryz.prog 121 [.sv (I xN)] (Y r) (List.replicate 1 .gone) := by
 unfold s_l06Byte at h
 refine gives_of Tryz.func121 rfl ?_
 rw [Tryz.ntmps121]
 refine wr (lO 2 (Y (bs [])) (lZ (wr (lO 3 (I xN) (lO 4 (.one (.int .u8 (IntKind.u8.wrap xN))) (LWp.m false [] 5 (.one (.sl true 5 1 (encs c5 [(IntKind.u8.wrap xN)]))) (lO 6 (Y (strB [(IntKind.u8.wrap xN)])) (lO 2 (Y (strB [(IntKind.u8.wrap xN)])) (lZ ?_)) (st_pure (p_cv (fun _ => rfl) [(IntKind.u8.wrap xN)])))))))))
 cases h
 exact Wp.ret ⟨.inr rfl, _, _, rfl, rfl⟩
theorem s_Sealed_t (xText : ByteArray) (r : ByteArray × Bool) (h : s_Sealed xText = some r) : Gives Tryz.prog 120 [.sv (Y xText)] (.tup [(Y r.1), (B r.2)]) (List.replicate 1 .gone) := by
 unfold s_Sealed at h
 refine gives_of Tryz.func120 rfl ?_
 rw [Tryz.ntmps120]
 refine wr (lO 2 (Y (bs [])) (lO 3 (B false) (lZ (Wp.seq (wr (lO 4 (Y xText) (lO 5 (I (sln xText)) (lO 6 (B (decide ((sln xText) > 20000))) (lZ ?_)))))))))
 refine Wp.c h (fun h => ?_) (fun h => ?_)
 ·refine wr ?_
  refine lO 2 (Y (bs [])) (lO 3 (B false) (lZ ?_))
  cases h
  exact Wp.ret ⟨.inr rfl, _, _, rfl, rfl⟩
 refine Wp.skip (wr (lO 7 (Y xText) (lO 8 (Y xText) (LWp.cl h 9 (fun v1 => (.one (.int .u32 v1))) rfl (l := [.sv (.one (.str xText))]) rfl (fun v hv => s_SumOf_t xText v hv) (.inl rfl) ?_))))
 intro v1 gv1 h
 refine LWp.cl h 10 (fun v2 => (Y v2)) rfl (l := [.sv (.one (.int .u32 v1))]) rfl (fun v hv => s_l02Four_t v1 v hv) (.inl rfl) ?_
 intro v2 gv2 h
 refine LWp.p h 11 (fun x1 => (Y x1)) ?_ (fun x1 gx1 => st_pure (p_cat gx1))
 intro x1 gx1 h
 refine lO 2 (Y x1) (lO 3 (B true) (lZ ?_))
 cases h
 exact Wp.ret ⟨.inr rfl, _, _, rfl, rfl⟩
theorem s_PageText_t (xP : Page) (r : ByteArray × Bool) (h : s_PageText xP = some r) : Gives Tryz.prog 80 [.sv (.agg [.int .i64 xP.Kind, .int .i64 xP.Seq, .int .i64 xP.Tx, .int .i64 xP.Part, .int .i64 xP.Count, .str xP.Text])] (.tup [(Y r.1), (B r.2)]) (List.replicate 1 .gone) := by
 unfold s_PageText at h
 refine gives_of Tryz.func80 rfl ?_
 rw [Tryz.ntmps80]
 refine wr (LWp.b [] 1 [.int .i64 xP.Kind, .int .i64 xP.Seq, .int .i64 xP.Tx, .int .i64 xP.Part, .int .i64 xP.Count, .str xP.Text] (lO 2 (Y (bs [])) (lO 3 (B false) (lZ (Wp.seq (wr (lO 4 (.agg [.int .i64 xP.Kind, .int .i64 xP.Seq, .int .i64 xP.Tx, .int .i64 xP.Part, .int .i64 xP.Count, .str xP.Text]) (LWp.cl h 5 (fun v1 => (B v1)) rfl (l := [.sv (.agg [.int .i64 xP.Kind, .int .i64 xP.Seq, .int .i64 xP.Tx, .int .i64 xP.Part, .int .i64 xP.Count, .str xP.Text])]) rfl (fun v hv => s_PageOk_t xP v hv) (.inl rfl) ?_))))))))
 intro v1 gv1 h
 refine lO 6 (B (!v1)) (lZ (Wp.c h (fun h => ?_) (fun h => ?_)))
 ·refine wr ?_
  refine lO 2 (Y (bs [])) (lO 3 (B false) (lZ ?_))
  cases h
  exact Wp.ret ⟨.inr rfl, _, _, rfl, rfl⟩
 refine Wp.skip (Wp.seq (Wp.regionK 27 [] mixed (fun c E h => by rcases h with ⟨h | h, _⟩ <;> cases h) (KWp.o 27 0 7 (.one (.ptr (.box 1) 1 [] 0)) (KWp.o 27 1 8 (I xP.Kind) (KWp.o 27 3 10 (.one (.ptr (.box 1) 1 [] 1)) (KWp.o 27 4 11 (I xP.Seq) (KWp.o 27 7 14 (.one (.ptr (.box 1) 1 [] 2)) (KWp.o 27 8 15 (I xP.Tx) (KWp.o 27 11 18 (.one (.ptr (.box 1) 1 [] 3)) ?_)))))))))
 refine KWp.o 27 12 19 (I xP.Part) (KWp.o 27 15 22 (.one (.ptr (.box 1) 1 [] 4)) (KWp.o 27 16 23 (I xP.Count) (KWp.o 27 19 26 (.one (.ptr (.box 1) 1 [] 5)) (KWp.o 27 20 27 (Y xP.Text) (KWp.w1 2 (KOp.cl h 2 9 (fun v2 => (Y v2)) rfl rfl (l := [.sv (.one (.int .i64 xP.Kind))]) rfl (fun v hv => s_l06Byte_t xP.Kind v hv) (.inl rfl) ?_))))))
 intro v2 gv2 h
 refine KWp.w1 5 (KOp.cl h 5 12 (fun v3 => (Y v3)) rfl rfl (l := [.sv (.one (.int .i64 xP.Seq))]) rfl (fun v hv => s_l01Var_t xP.Seq v hv) (.inl rfl) ?_)
 intro v3 gv3 h
 refine KWp.p h 27 6 13 (fun x1 => (Y x1)) ?_ rfl (fun x1 gx1 => sl_pure (p_cat gx1))
 intro x1 gx1 h
 refine KWp.w1 9 (KOp.cl h 9 16 (fun v4 => (Y v4)) rfl rfl (l := [.sv (.one (.int .i64 xP.Tx))]) rfl (fun v hv => s_l01Var_t xP.Tx v hv) (.inl rfl) ?_)
 intro v4 gv4 h
 refine KWp.p h 27 10 17 (fun x2 => (Y x2)) ?_ rfl (fun x2 gx2 => sl_pure (p_cat gx2))
 intro x2 gx2 h
 refine KWp.w1 13 (KOp.cl h 13 20 (fun v5 => (Y v5)) rfl rfl (l := [.sv (.one (.int .i64 xP.Part))]) rfl (fun v hv => s_l01Var_t xP.Part v hv) (.inl rfl) ?_)
 intro v5 gv5 h
 refine KWp.p h 27 14 21 (fun x3 => (Y x3)) ?_ rfl (fun x3 gx3 => sl_pure (p_cat gx3))
 intro x3 gx3 h
 refine KWp.w1 17 (KOp.cl h 17 24 (fun v6 => (Y v6)) rfl rfl (l := [.sv (.one (.int .i64 xP.Count))]) rfl (fun v hv => s_l01Var_t xP.Count v hv) (.inl rfl) ?_)
 intro v6 gv6 h
 refine KWp.p h 27 18 25 (fun x4 => (Y x4)) ?_ rfl (fun x4 gx4 => sl_pure (p_cat gx4))
 intro x4 gx4 h
 refine KWp.p h 27 21 28 (fun x5 => (Y x5)) ?_ rfl (fun x5 gx5 => sl_pure (p_cat gx5))
 intro x5 gx5 h
 refine KWp.w1 22 (KOp.cl h 22 29 (fun v7 => (.tup [(Y v7.1), (B v7.2)])) rfl rfl (l := [.sv (.one (.str x5))]) rfl (fun v hv => s_Sealed_t x5 v hv) (.inl rfl) ?_)
 intro v7 gv7 h
 refine KWp.w2 23 24 ?_ ?_
 ·refine KOp.e 23 29 0 30 (Y v7.1) ?_
  refine KWp.w1 24 (KOp.e 24 29 1 31 (B v7.2) (KWp.o 27 25 2 (Y v7.1) (KWp.o 27 26 3 (B v7.2) (KWp.done ?_))))
  cases h
  exact Wp.ret ⟨.inr rfl, _, _, rfl, rfl⟩
 refine KOp.e 24 29 1 31 (B v7.2) (KWp.w1 23 (KOp.e 23 29 0 30 (Y v7.1) (KWp.o 27 25 2 (Y v7.1) (KWp.o 27 26 3 (B v7.2) (KWp.done ?_)))))
 cases h
 exact Wp.ret ⟨.inr rfl, _, _, rfl, rfl⟩
def s_ReadPage_H1 (xT : ByteArray) (v1 : ByteArray × Bool) (z1 : Bool) : St := mkSt [(0, (Y xT)), (2, (.one (.ptr (.box 2) 0 [] 0))), (4, (Y v1.1)), (6, (.one (.ptr (.box 24) 0 [] 0)))] [(.box 2, [.int .i64 0, .int .i64 0, .int .i64 0, .int .i64 0, .int .i64 0, .str (bs [])]), (.box 24, [.str v1.1, .int .i64 1, .bool z1])]
def s_ReadPage_H2 (v2 : Int × l06Cur) (v3 : Int × l06Cur) (v4 : Int × l06Cur) (v5 : Int × l06Cur) (x1 : Int) (x2 : ByteArray) (z2 : Bool) : St := mkSt [(2, (.one (.ptr (.box 2) 0 [] 0))), (7, (.one (.ptr (.box 7) 0 [] 0))), (64, (B z2))] [(.box 2, [.int .i64 0, .int .i64 0, .int .i64 0, .int .i64 0, .int .i64 0, .str (bs [])]), (.box 7, [.int .i64 (IntKind.i64.wrap x1), .int .i64 v2.1, .int .i64 v3.1, .int .i64 v4.1, .int .i64 v5.1, .str x2])]
theorem s_ReadPage_t (xT : ByteArray) (r : Page × Bool) (h : s_ReadPage xT = some r) : Gives Tryz.prog 102 [.sv (Y xT)] (.tup [(.agg [.int .i64 r.1.Kind, .int .i64 r.1.Seq, .int .i64 r.1.Tx, .int .i64 r.1.Part, .int .i64 r.1.Count, .str r.1.Text]), (B r.2)]) (List.replicate 1 .gone) := by
 unfold s_ReadPage at h
 refine gives_of Tryz.func102 rfl ?_
 rw [Tryz.ntmps102]
 refine wr (LWp.b [] 2 [.int .i64 0, .int .i64 0, .int .i64 0, .int .i64 0, .int .i64 0, .str (bs [])] (lO 3 (B false) (lZ (wr (lO 11 (Y xT) (LWp.cl h 12 (fun v1 => (.tup [(Y v1.1), (B v1.2)])) rfl (l := [.sv (.one (.str xT))]) rfl (fun v hv => s_Unsealed_t xT v hv) (.inl rfl) ?_))))))
 intro v1 gv1 h
 refine LWp.mt 12 10 (.tup [(Y v1.1), (B v1.2)]) (LWp.e 10 0 13 (Y v1.1) (LWp.e 10 1 14 (B v1.2) (lO 4 (Y v1.1) (lO 5 (B v1.2) (lZ (Wp.seq (Wp.j1 h [0, 2, 4, 6] [.box 2, .box 24] (fun a => (s_ReadPage_H1 xT v1 a)) ?_ ?_)))))))
 ·intro a h
  refine Wp.region (lO 15 (Y v1.1) (lO 16 (B v1.2) (lO 17 (B (!v1.2)) (lO 18 (B (!v1.2)) (LWp.sp h 18 (fun h => ?_) (fun h => ?_))))))
  ·refine lH 19 ?_
   refine lH 20 (lH 21 (lO 22 (B true) (lO 23 (.agg [.str v1.1, .int .i64 1, .bool true]) (LWp.b [] 24 [.str v1.1, .int .i64 1, .bool true] (lO 6 (.one (.ptr (.box 24) 1 [] 0)) (lZ ?_))))))
   cases h
   exact ⟨_, rfl, rfl, rfl⟩
  refine lO 19 (Y v1.1) (lO 20 (I (sln v1.1)) (lO 21 (B (decide ((sln v1.1) < 1))) (lO 22 (B (decide ((sln v1.1) < 1))) (lO 23 (.agg [.str v1.1, .int .i64 1, .bool (decide ((sln v1.1) < 1))]) (LWp.b [] 24 [.str v1.1, .int .i64 1, .bool (decide ((sln v1.1) < 1))] (lO 6 (.one (.ptr (.box 24) 1 [] 0)) (lZ ?_)))))))
  cases h
  exact ⟨_, rfl, rfl, rfl⟩
 intro j1 h E hE
 refine nt_wp hE ?_
 change Wp _ _ _ (s_ReadPage_H1 xT v1 j1) _
 refine wr (lO 25 (.one (.ptr (.box 24) 0 [] 0)) (LWp.cx h (.box 24) [.str v1.1, .int .i64 1, .bool j1] (some 26) (fun v2 => (I v2.1)) (fun v2 => [.str v2.2.text_, .int .i64 v2.2.at_, .bool v2.2.bad_]) rfl rfl (l := []) rfl (fun v hv => s_l06Var_t (l06Cur.mk v1.1 1 j1) v hv) (.inl rfl) (fun _ => rfl) ?_))
 intro v2 gv2 h
 refine lO 27 (.agg [.int .i64 0, .int .i64 v2.1, .int .i64 0, .int .i64 0, .int .i64 0, .str (bs [])]) (LWp.b [] 7 [.int .i64 0, .int .i64 0, .int .i64 0, .int .i64 0, .int .i64 0, .str (bs [])] (LWp.s [] (.box 7) [.int .i64 0, .int .i64 v2.1, .int .i64 0, .int .i64 0, .int .i64 0, .str (bs [])] (lZ (wr (lO 28 (.one (.ptr (.box 24) 0 [] 0)) (LWp.cx h (.box 24) [.str v2.2.text_, .int .i64 v2.2.at_, .bool v2.2.bad_] (some 29) (fun v3 => (I v3.1)) (fun v3 => [.str v3.2.text_, .int .i64 v3.2.at_, .bool v3.2.bad_]) rfl rfl (l := []) rfl (fun v hv => s_l06Var_t v2.2 v hv) (.inl rfl) (fun _ => rfl) ?_))))))
 intro v3 gv3 h
 refine lO 30 (.one (.ptr (.box 7) 1 [] 2)) (LWp.s [] (.box 7) [.int .i64 0, .int .i64 v2.1, .int .i64 v3.1, .int .i64 0, .int .i64 0, .str (bs [])] (lZ (wr (lO 31 (.one (.ptr (.box 24) 0 [] 0)) (LWp.cx h (.box 24) [.str v3.2.text_, .int .i64 v3.2.at_, .bool v3.2.bad_] (some 32) (fun v4 => (I v4.1)) (fun v4 => [.str v4.2.text_, .int .i64 v4.2.at_, .bool v4.2.bad_]) rfl rfl (l := []) rfl (fun v hv => s_l06Var_t v3.2 v hv) (.inl rfl) (fun _ => rfl) ?_)))))
 intro v4 gv4 h
 refine lO 33 (.one (.ptr (.box 7) 1 [] 3)) (LWp.s [] (.box 7) [.int .i64 0, .int .i64 v2.1, .int .i64 v3.1, .int .i64 v4.1, .int .i64 0, .str (bs [])] (lZ (wr (lO 34 (.one (.ptr (.box 24) 0 [] 0)) (LWp.cx h (.box 24) [.str v4.2.text_, .int .i64 v4.2.at_, .bool v4.2.bad_] (some 35) (fun v5 => (I v5.1)) (fun v5 => [.str v5.2.text_, .int .i64 v5.2.at_, .bool v5.2.bad_]) rfl rfl (l := []) rfl (fun v hv => s_l06Var_t v4.2 v hv) (.inl rfl) (fun _ => rfl) ?_)))))
 intro v5 gv5 h
 refine lO 36 (.one (.ptr (.box 7) 1 [] 4)) (LWp.s [] (.box 7) [.int .i64 0, .int .i64 v2.1, .int .i64 v3.1, .int .i64 v4.1, .int .i64 v5.1, .str (bs [])] (lZ (Wp.seq (wr (lO 37 (.one (.ptr (.box 24) 0 [] 0)) (lO 38 (.one (.ptr (.box 24) 0 [] 0)) (lO 39 (.one (.ptr (.box 24) 0 [] 2)) (lO 40 (B v5.2.bad_) (lZ ?_)))))))))
 refine Wp.c h (fun h => ?_) (fun h => ?_)
 ·refine wr ?_
  refine lO 41 (.agg [.int .i64 0, .int .i64 0, .int .i64 0, .int .i64 0, .int .i64 0, .str (bs [])]) (LWp.s [] (.box 2) [.int .i64 0, .int .i64 0, .int .i64 0, .int .i64 0, .int .i64 0, .str (bs [])] (lO 3 (B false) (lZ ?_)))
  cases h
  exact Wp.ret ⟨.inr rfl, _, _, rfl, rfl⟩
 refine Wp.skip (wr (lO 42 (Y v1.1) (LWp.p h 43 (fun x1 => (.one (.int .u8 x1))) ?_ (fun x1 gx1 => st_pure (p_sx gx1)))))
 intro x1 gx1 h
 refine lO 44 (I (IntKind.i64.wrap x1)) (lO 45 (.one (.ptr (.box 7) 1 [] 0)) (LWp.s [] (.box 7) [.int .i64 (IntKind.i64.wrap x1), .int .i64 v2.1, .int .i64 v3.1, .int .i64 v4.1, .int .i64 v5.1, .str (bs [])] (lZ (wr (lO 46 (Y v1.1) (lO 47 (.one (.ptr (.box 24) 0 [] 0)) (lO 48 (.one (.ptr (.box 24) 0 [] 0)) (lO 49 (.one (.ptr (.box 24) 0 [] 1)) (lO 50 (I v5.2.at_) ?_)))))))))
 refine LWp.p h 51 (fun x2 => (Y x2)) ?_ (fun x2 gx2 => st_pure (p_sub gx2))
 intro x2 gx2 h
 refine lO 52 (.one (.ptr (.box 7) 1 [] 5)) (LWp.s [] (.box 7) [.int .i64 (IntKind.i64.wrap x1), .int .i64 v2.1, .int .i64 v3.1, .int .i64 v4.1, .int .i64 v5.1, .str x2] (lZ (wr (lO 54 (.agg [.int .i64 (IntKind.i64.wrap x1), .int .i64 v2.1, .int .i64 v3.1, .int .i64 v4.1, .int .i64 v5.1, .str x2]) (LWp.cl h 55 (fun v6 => (.tup [(Y v6.1), (B v6.2)])) rfl (l := [.sv (.agg [.int .i64 (IntKind.i64.wrap x1), .int .i64 v2.1, .int .i64 v3.1, .int .i64 v4.1, .int .i64 v5.1, .str x2])]) rfl (fun v hv => s_PageText_t (Page.mk (IntKind.i64.wrap x1) v2.1 v3.1 v4.1 v5.1 x2) v hv) (.inl rfl) ?_)))))
 intro v6 gv6 h
 refine LWp.mt 55 53 (.tup [(Y v6.1), (B v6.2)]) (LWp.e 53 0 56 (Y v6.1) (LWp.e 53 1 57 (B v6.2) (lO 8 (Y v6.1) (lO 9 (B v6.2) (lZ (Wp.seq (Wp.seq (Wp.j1 h [2, 7, 64] [.box 2, .box 7] (fun a => (s_ReadPage_H2 v2 v3 v4 v5 x1 x2 a)) ?_ ?_))))))))
 ·intro a h
  refine Wp.region (lO 58 (B v6.2) (lO 59 (B (!v6.2)) (lO 60 (B (!v6.2)) (LWp.sp h 60 (fun h => ?_) (fun h => ?_)))))
  ·refine lH 61 ?_
   refine lH 62 (lH 63 (lO 64 (B true) (lZ ?_)))
   cases h
   exact ⟨_, rfl, rfl, rfl⟩
  refine lO 61 (Y v6.1) (lO 62 (Y xT) (lO 63 (B (!(seq v6.1 xT))) (lO 64 (B (!(seq v6.1 xT))) (lZ ?_))))
  cases h
  exact ⟨_, rfl, rfl, rfl⟩
 intro j2 h E hE
 refine nt_wp hE ?_
 change Wp _ _ _ (s_ReadPage_H2 v2 v3 v4 v5 x1 x2 j2) _
 refine Wp.c h (fun h => ?_) (fun h => ?_)
 ·refine wr ?_
  refine lO 65 (.agg [.int .i64 0, .int .i64 0, .int .i64 0, .int .i64 0, .int .i64 0, .str (bs [])]) (LWp.s [] (.box 2) [.int .i64 0, .int .i64 0, .int .i64 0, .int .i64 0, .int .i64 0, .str (bs [])] (lO 3 (B false) (lZ ?_)))
  cases h
  exact Wp.ret ⟨.inr rfl, _, _, rfl, rfl⟩
 refine Wp.skip (wr (lO 66 (.agg [.int .i64 (IntKind.i64.wrap x1), .int .i64 v2.1, .int .i64 v3.1, .int .i64 v4.1, .int .i64 v5.1, .str x2]) (LWp.s [] (.box 2) [.int .i64 (IntKind.i64.wrap x1), .int .i64 v2.1, .int .i64 v3.1, .int .i64 v4.1, .int .i64 v5.1, .str x2] (lO 3 (B true) (lZ ?_)))))
 cases h
 exact Wp.ret ⟨.inr rfl, _, _, rfl, rfl⟩
def c158 (x : Found) : List TV := [.int .i64 x.Block, .int .i64 x.Leaf, .int .i64 x.Page.Kind, .int .i64 x.Page.Seq, .int .i64 x.Page.Tx, .int .i64 x.Page.Part, .int .i64 x.Page.Count, .str x.Page.Text]
theorem k158 : ∀ x, (c158 x).length = 8 := fun _ => rfl
theorem sh158 : ∀ l, shares (encs c158 l) = encs c158 l := shares_encs (fun _ => rfl)
theorem ns158 : ∀ l, hasShareds (encs c158 l) = false := ns_encs (fun _ => rfl)
def s_ScanAll_H1 (xF : Flash) (z1 : List Found) (z2 : Int) : St := mkSt [(1, (.one (.ptr (.box 1) 0 [] 0))), (3, (.one (.sl true 158 8 (encs c158 z1)))), (4, (I z2))] [(.box 1, [.sl false 124 3 (encs (c124 false) xF.Blocks)])]
def s_ScanAll_H2 (z3 : List Found) : St := mkSt [(3, (.one (.sl true 158 8 (encs c158 z3))))] []
def s_ScanAll_H3 (xF : Flash) (yB1 : Int) (z4 : List Found) (z5 : Int) : St := mkSt [(1, (.one (.ptr (.box 1) 0 [] 0))), (3, (.one (.sl true 158 8 (encs c158 z4)))), (4, (I yB1)), (5, (I z5))] [(.box 1, [.sl false 124 3 (encs (c124 false) xF.Blocks)])]
def s_ScanAll_H4 (xF : Flash) (yB1 : Int) (z6 : List Found) : St := mkSt [(1, (.one (.ptr (.box 1) 0 [] 0))), (3, (.one (.sl true 158 8 (encs c158 z6)))), (4, (I yB1))] [(.box 1, [.sl false 124 3 (encs (c124 false) xF.Blocks)])]
def s_ScanAll_H5 (xF : Flash) (yB1 : Int) (yOut2 : List Found) (yK1 : Int) (v2 : Page × Bool) (z7 : Bool) : St := mkSt [(1, (.one (.ptr (.box 1) 0 [] 0))), (3, (.one (.sl true 158 8 (encs c158 yOut2)))), (4, (I yB1)), (5, (I yK1)), (8, (.one (.ptr (.box 8) 0 [] 0))), (47, (B z7))] [(.box 1, [.sl false 124 3 (encs (c124 false) xF.Blocks)]), (.box 8, [.int .i64 v2.1.Kind, .int .i64 v2.1.Seq, .int .i64 v2.1.Tx, .int .i64 v2.1.Part, .int .i64 v2.1.Count, .str v2.1.Text])]
def s_ScanAll_H6 (z8 : List Found) (z9 : Int) : St := mkSt [(3, (.one (.sl true 158 8 (encs c158 z8)))), (10, (I z9))] []
def s_ScanAll_H7 (z10 : List Found) : St := mkSt [(3, (.one (.sl true 158 8 (encs c158 z10))))] []
def s_ScanAll_H8 (yI1 : Int) (z11 : List Found) (z12 : Int) : St := mkSt [(3, (.one (.sl true 158 8 (encs c158 z11)))), (10, (I yI1)), (11, (I z12))] []
def s_ScanAll_H9 (yI1 : Int) (z13 : List Found) : St := mkSt [(3, (.one (.sl true 158 8 (encs c158 z13)))), (10, (I yI1))] []
def s_ScanAll_H10 (yI1 : Int) (yOut4 : List Found) (yK2 : Int) (z14 : Bool) : St := mkSt [(3, (.one (.sl true 158 8 (encs c158 yOut4)))), (10, (I yI1)), (11, (I yK2)), (79, (B z14))] []
theorem s_ScanAll_t (xF : Flash) (r : List Found) (h : s_ScanAll xF = some r) : Gives Tryz.prog 56 [.sv (.agg [.sl false 124 3 (encs (c124 false) xF.Blocks)])] (.one (.sl true 158 8 (encs c158 r))) (List.replicate 1 .gone) := by
 unfold s_ScanAll at h
 refine gives_of Tryz.func56 rfl ?_
 rw [Tryz.ntmps56]
 refine wr (LWp.b [] 1 [.sl false 124 3 (encs (c124 false) xF.Blocks)] (lO 2 (.one (.sl true 158 8 (encs c158 []))) (lZ (wr (LWp.m false [] 13 (.one (.sl true 158 8 (encs c158 []))) (LWp.m true [(.slot 13, [.junk])] 3 (.one (.sl true 158 8 (encs c158 []))) (lZ (Wp.seq (wr ?_)))))))))
 refine lO 4 (I 0) (lZ (Wp.l1 h [1, 3, 4] [.box 1] (fun s => (s_ScanAll_H1 xF s.1 s.2)) [3] [] (fun s => (s_ScanAll_H2 s)) ⟨rfl, rfl⟩ ?_ ?_))
 ·rintro ⟨yOut1, yB1⟩ o (h : s_ScanAll_b1 xF yOut1 yB1 = some o)
  unfold s_ScanAll_b1 at h
  change Wp _ _ _ (s_ScanAll_H1 xF yOut1 yB1) _
  refine Wp.seq (wr (lO 14 (I yB1) (lO 15 (.one (.ptr (.box 1) 0 [] 0)) (lO 16 (.one (.sl false 124 3 (encs (c124 false) xF.Blocks))) (lO 17 (I (ln xF.Blocks)) (lO 18 (B (decide (yB1 < (ln xF.Blocks)))) (lZ (Wp.c h (fun h => ?_) (fun h => ?_)))) (st_pure (p_ln (k124 false) xF.Blocks)))))))
  ·refine Wp.skip ?_
   refine Wp.seq (Wp.block (wr (lO 5 (I 0) (lZ (Wp.l1 h [1, 3, 4, 5] [.box 1] (fun s => (s_ScanAll_H3 xF yB1 s.1 s.2)) [1, 3, 4] [.box 1] (fun s => (s_ScanAll_H4 xF yB1 s)) ⟨rfl, rfl⟩ ?_ ?_)))))
   ·rintro ⟨yOut2, yK1⟩ o (h : s_ScanAll_b2 xF yB1 yOut2 yK1 = some o)
    unfold s_ScanAll_b2 at h
    change Wp _ _ _ (s_ScanAll_H3 xF yB1 yOut2 yK1) _
    refine Wp.seq (wr (lO 21 (I yK1) (lO 22 (.one (.ptr (.box 1) 0 [] 0)) (lO 23 (.one (.sl false 124 3 (encs (c124 false) xF.Blocks))) (lO 24 (I yB1) (LWp.p h 25 (fun _ => (.one (.ptr (.slot 23) 1 [0] (Int.toNat yB1 * 3 + 0)))) ?_ (fun x1 gx1 => st_pure (p_ix (k124 false) (.slot 23) [] 0 gx1))))))))
    intro x1 gx1 h
    refine lO 26 (.one (.ptr (.slot 23) 1 [0] (Int.toNat yB1 * 3 + 2))) (lO 27 (.one (.sl false 165 2 (encs c165 x1.Leaves))) (lO 28 (I (ln x1.Leaves)) (lO 29 (B (decide (yK1 < (ln x1.Leaves)))) (lZ (Wp.c h (fun h => ?_) (fun h => ?_)))) (st_pure (p_ln k165 x1.Leaves))) (st_pure (p_lc (k124 false) (.slot 23) [0] 2 (.sl false 165 2 (encs c165 x1.Leaves)) gx1))) (st_pure (p_fa (k124 false) (.slot 23) [0] 0 gx1))
    ·refine Wp.skip ?_
     refine Wp.seq (Wp.block (wr (lO 33 (.agg [.sl false 124 3 (encs (c124 false) xF.Blocks)]) (lO 34 (I yB1) (lO 35 (I yK1) (LWp.cl h 36 (fun v1 => (.tup [(Y v1.1), (B v1.2)])) rfl (l := [.sv (.agg [.sl false 124 3 (encs (c124 false) xF.Blocks)]), .sv (.one (.int .i64 yB1)), .sv (.one (.int .i64 yK1))]) rfl (fun v hv => s_ReadLeaf_t xF yB1 yK1 v hv) (.inl rfl) ?_))))))
     intro v1 gv1 h
     refine LWp.mt 36 32 (.tup [(Y v1.1), (B v1.2)]) (LWp.e 32 0 37 (Y v1.1) (LWp.e 32 1 38 (B v1.2) (lO 6 (Y v1.1) (lO 7 (B v1.2) (lZ (wr (lO 40 (Y v1.1) (LWp.cl h 41 (fun v2 => (.tup [(.agg [.int .i64 v2.1.Kind, .int .i64 v2.1.Seq, .int .i64 v2.1.Tx, .int .i64 v2.1.Part, .int .i64 v2.1.Count, .str v2.1.Text]), (B v2.2)])) rfl (l := [.sv (.one (.str v1.1))]) rfl (fun v hv => s_ReadPage_t v1.1 v hv) (.inl rfl) ?_))))))))
     intro v2 gv2 h
     refine LWp.mt 41 39 (.tup [(.agg [.int .i64 v2.1.Kind, .int .i64 v2.1.Seq, .int .i64 v2.1.Tx, .int .i64 v2.1.Part, .int .i64 v2.1.Count, .str v2.1.Text]), (B v2.2)]) (LWp.e 39 0 42 (.agg [.int .i64 v2.1.Kind, .int .i64 v2.1.Seq, .int .i64 v2.1.Tx, .int .i64 v2.1.Part, .int .i64 v2.1.Count, .str v2.1.Text]) (LWp.e 39 1 43 (B v2.2) (LWp.b [] 8 [.int .i64 0, .int .i64 0, .int .i64 0, .int .i64 0, .int .i64 0, .str (bs [])] (LWp.s [] (.box 8) [.int .i64 v2.1.Kind, .int .i64 v2.1.Seq, .int .i64 v2.1.Tx, .int .i64 v2.1.Part, .int .i64 v2.1.Count, .str v2.1.Text] (lO 9 (B v2.2) (lZ (Wp.seq (Wp.j1 h [1, 3, 4, 5, 8, 47] [.box 1, .box 8] (fun a => (s_ScanAll_H5 xF yB1 yOut2 yK1 v2 a)) ?_ ?_))))))))
     ·intro a h
      refine Wp.region (lO 44 (B v1.2) (lO 45 (B v1.2) (LWp.sp h 45 (fun h => ?_) (fun h => ?_))))
      ·refine lO 46 (B v2.2) ?_
       refine lO 47 (B v2.2) (lZ ?_)
       cases h
       exact ⟨_, rfl, rfl, rfl⟩
      refine lH 46 (lO 47 (B false) (lZ ?_))
      cases h
      exact ⟨_, rfl, rfl, rfl⟩
     intro j1 h E hE
     refine nt_wp hE ?_
     change Wp _ _ _ (s_ScanAll_H5 xF yB1 yOut2 yK1 v2 j1) _
     refine Wp.c h (fun h => ?_) (fun h => ?_)
     ·refine Wp.region ?_
      refine lO 48 (.one (.view (.slot 3) 0 [] 0)) (lO 49 (I yB1) (lO 50 (I yK1) (lO 51 (.agg [.int .i64 v2.1.Kind, .int .i64 v2.1.Seq, .int .i64 v2.1.Tx, .int .i64 v2.1.Part, .int .i64 v2.1.Count, .str v2.1.Text]) (lO 52 (.agg [.int .i64 yB1, .int .i64 yK1, .int .i64 v2.1.Kind, .int .i64 v2.1.Seq, .int .i64 v2.1.Tx, .int .i64 v2.1.Part, .int .i64 v2.1.Count, .str v2.1.Text]) (LWp.m false [] 53 (.one (.sl true 158 8 (encs c158 [(Found.mk yB1 yK1 v2.1)]))) (LWp.pm h [(.slot 3, [.junk])] 54 (fun q1 => (.one (.sl true 158 8 (encs c158 q1)))) ?_ (fun q1 gq1 => s_apl k158 (fun _ => rfl) [(.slot 3, [.junk])] yOut2 gq1)))))))
      intro q1 gq1 h
      refine LWp.m true [(.slot 54, [.junk])] 3 (.one (.sl true 158 8 (encs c158 q1))) (lZ (Wp.region (lO 30 (I yK1) (lO 31 (I (ad yK1 1)) (lO 5 (I (ad yK1 1)) (lZ ?_))))))
      cases h
      exact ⟨_, rfl, rfl, rfl⟩
     refine Wp.skip (Wp.region (lO 30 (I yK1) (lO 31 (I (ad yK1 1)) (lO 5 (I (ad yK1 1)) (lZ ?_)))))
     cases h
     exact ⟨_, rfl, rfl, rfl⟩
    refine Wp.exit ?_
    cases h
    exact ⟨_, rfl, rfl, rfl⟩
   intro v3 h E hE
   refine nt_wp hE ?_
   change Wp _ _ _ (s_ScanAll_H4 xF yB1 v3) _
   refine Wp.region (lO 19 (I yB1) (lO 20 (I (ad yB1 1)) (lO 4 (I (ad yB1 1)) (lZ ?_))))
   cases h
   exact ⟨_, rfl, rfl, rfl⟩
  refine Wp.exit ?_
  cases h
  exact ⟨_, rfl, rfl, rfl⟩
 intro v4 h E hE
 refine nt_wp hE ?_
 change Wp _ _ _ (s_ScanAll_H2 v4) _
 refine Wp.seq (wr (lO 10 (I 1) (lZ (Wp.l1 h [3, 10] [] (fun s => (s_ScanAll_H6 s.1 s.2)) [3] [] (fun s => (s_ScanAll_H7 s)) ⟨rfl, rfl⟩ ?_ ?_))))
 ·rintro ⟨yOut3, yI1⟩ o (h : s_ScanAll_b3 yOut3 yI1 = some o)
  unfold s_ScanAll_b3 at h
  change Wp _ _ _ (s_ScanAll_H6 yOut3 yI1) _
  refine Wp.seq (wr (lO 55 (I yI1) (lO 56 (.one (.view (.slot 3) 0 [] 0)) (lO 57 (I (ln yOut3)) (lO 58 (B (decide (yI1 < (ln yOut3)))) (lZ (Wp.c h (fun h => ?_) (fun h => ?_)))) (st_pure (p_ln k158 yOut3))))))
  ·refine Wp.skip ?_
   refine Wp.seq (Wp.block (wr (lO 61 (I yI1) (lO 11 (I yI1) (lZ (Wp.l1 h [3, 10, 11] [] (fun s => (s_ScanAll_H8 yI1 s.1 s.2)) [3, 10] [] (fun s => (s_ScanAll_H9 yI1 s)) ⟨rfl, rfl⟩ ?_ ?_))))))
   ·rintro ⟨yOut4, yK2⟩ o (h : s_ScanAll_b4 yOut4 yK2 = some o)
    unfold s_ScanAll_b4 at h
    change Wp _ _ _ (s_ScanAll_H8 yI1 yOut4 yK2) _
    refine Wp.seq (Wp.seq (Wp.j1 h [3, 10, 11, 79] [] (fun a => (s_ScanAll_H10 yI1 yOut4 yK2 a)) ?_ ?_))
    ·intro a h
     refine Wp.regionS mixed (by decide +kernel) (SWp.o 62 (I yK2) (SWp.o 63 (B (decide (yK2 > 0))) (SWp.o 64 (B (decide (yK2 > 0))) (SWp.sp h 64 (fun h => ?_) (fun h => ?_)))))
     ·refine SWp.o 65 (.one (.view (.slot 3) 0 [] 0)) ?_
      refine SWp.o 66 (I yK2) (SWp.o 67 (I (sb yK2 1)) (SWp.p h 68 (fun _ => (.one (.ptr (.slot 3) 0 [0] (Int.toNat (sb yK2 1) * 8 + 0)))) ?_ (fun x2 gx2 => sl_pure (p_ix k158 (.slot 3) [] 0 gx2))))
      intro x2 gx2 h
      refine SWp.o 69 (.one (.ptr (.slot 3) 0 [0] (Int.toNat (sb yK2 1) * 8 + 2))) (SWp.o 70 (.one (.ptr (.slot 3) 0 [0] (Int.toNat (sb yK2 1) * 8 + 3))) (SWp.o 71 (I x2.Page.Seq) (SWp.o 72 (.one (.view (.slot 3) 0 [] 0)) (SWp.o 73 (I yK2) (SWp.p h 74 (fun _ => (.one (.ptr (.slot 3) 0 [0] (Int.toNat yK2 * 8 + 0)))) ?_ (fun x3 gx3 => sl_pure (p_ix k158 (.slot 3) [] 0 gx3))))) (sl_pure (p_lc k158 (.slot 3) [0] 3 (.int .i64 x2.Page.Seq) gx2))) (sl_pure (p_fa k158 (.slot 3) [0] 2 gx2))) (sl_pure (p_fa k158 (.slot 3) [0] 0 gx2))
      intro x3 gx3 h
      refine SWp.o 75 (.one (.ptr (.slot 3) 0 [0] (Int.toNat yK2 * 8 + 2))) (SWp.o 76 (.one (.ptr (.slot 3) 0 [0] (Int.toNat yK2 * 8 + 3))) (SWp.o 77 (I x3.Page.Seq) (SWp.o 78 (B (decide (x2.Page.Seq > x3.Page.Seq))) (SWp.o 79 (B (decide (x2.Page.Seq > x3.Page.Seq))) (SWp.nil ?_))) (sl_pure (p_lc k158 (.slot 3) [0] 3 (.int .i64 x3.Page.Seq) gx3))) (sl_pure (p_fa k158 (.slot 3) [0] 2 gx3))) (sl_pure (p_fa k158 (.slot 3) [0] 0 gx3))
      cases h
      exact ⟨_, rfl, rfl, rfl⟩
     refine SWp.sh 65 (SWp.sh 66 (SWp.sh 67 (SWp.sh 68 (SWp.sh 69 (SWp.sh 70 (SWp.sh 71 (SWp.sh 72 (SWp.sh 73 (SWp.sh 74 ?_)))))))))
     refine SWp.sh 75 (SWp.sh 76 (SWp.sh 77 (SWp.sh 78 (SWp.o 79 (B false) (SWp.nil ?_)))))
     cases h
     exact ⟨_, rfl, rfl, rfl⟩
    intro j2 h E hE
    refine nt_wp hE ?_
    change Wp _ _ _ (s_ScanAll_H10 yI1 yOut4 yK2 j2) _
    refine Wp.c h (fun h => ?_) (fun h => ?_)
    ·refine Wp.skip ?_
     refine Wp.seq (Wp.block (wr (lO 82 (.one (.view (.slot 3) 0 [] 0)) (lO 83 (I yK2) (LWp.p h 84 (fun _ => (.one (.ptr (.slot 3) 0 [0] (Int.toNat yK2 * 8 + 0)))) ?_ (fun x4 gx4 => st_pure (p_ix k158 (.slot 3) [] 0 gx4)))))))
     intro x4 gx4 h
     refine lO 85 (.agg [.int .i64 x4.Block, .int .i64 x4.Leaf, .int .i64 x4.Page.Kind, .int .i64 x4.Page.Seq, .int .i64 x4.Page.Tx, .int .i64 x4.Page.Part, .int .i64 x4.Page.Count, .str x4.Page.Text]) (LWp.b [] 12 [.int .i64 0, .int .i64 0, .int .i64 0, .int .i64 0, .int .i64 0, .int .i64 0, .int .i64 0, .str (bs [])] (LWp.s [] (.box 12) [.int .i64 x4.Block, .int .i64 x4.Leaf, .int .i64 x4.Page.Kind, .int .i64 x4.Page.Seq, .int .i64 x4.Page.Tx, .int .i64 x4.Page.Part, .int .i64 x4.Page.Count, .str x4.Page.Text] (lZ (wr (lO 86 (.one (.view (.slot 3) 0 [] 0)) (lO 87 (I yK2) (lO 88 (.one (.view (.slot 3) 0 [] 0)) (lO 89 (I yK2) (lO 90 (I (sb yK2 1)) ?_))))))))) (st_pure (p_le k158 (.slot 3) [0] gx4))
     refine LWp.p h 91 (fun _ => (.one (.ptr (.slot 3) 0 [0] (Int.toNat (sb yK2 1) * 8 + 0)))) ?_ (fun x5 gx5 => st_pure (p_ix k158 (.slot 3) [] 0 gx5))
     intro x5 gx5 h
     refine lO 92 (.agg [.int .i64 x5.Block, .int .i64 x5.Leaf, .int .i64 x5.Page.Kind, .int .i64 x5.Page.Seq, .int .i64 x5.Page.Tx, .int .i64 x5.Page.Part, .int .i64 x5.Page.Count, .str x5.Page.Text]) (LWp.p h 93 (fun _ => (.one (.ptr (.slot 3) 0 [0] (Int.toNat yK2 * 8 + 0)))) ?_ (fun x6 gx6 => st_pure (p_ix k158 (.slot 3) [] 0 gx6))) (st_pure (p_le k158 (.slot 3) [0] gx5))
     intro x6 gx6 h
     refine LWp.sb [] (.slot 3) [.sl true 158 8 (encs c158 (si yOut4 yK2 x5))] (lZ (Wp.region (lO 94 (.one (.view (.slot 3) 1 [] 0)) (lO 95 (I yK2) (lO 96 (I (sb yK2 1)) (lO 97 (.agg [.int .i64 x4.Block, .int .i64 x4.Leaf, .int .i64 x4.Page.Kind, .int .i64 x4.Page.Seq, .int .i64 x4.Page.Tx, .int .i64 x4.Page.Part, .int .i64 x4.Page.Count, .str x4.Page.Text]) (LWp.p h 98 (fun _ => (.one (.ptr (.slot 3) 1 [0] (Int.toNat (sb yK2 1) * 8 + 0)))) ?_ (fun x7 gx7 => st_pure (p_ix k158 (.slot 3) [] 0 gx7))))))))) (s_st [] (q := [0]) (cs := [.sl true 158 8 (encs c158 yOut4)]) (xs := [.int .i64 x5.Block, .int .i64 x5.Leaf, .int .i64 x5.Page.Kind, .int .i64 x5.Page.Seq, .int .i64 x5.Page.Tx, .int .i64 x5.Page.Part, .int .i64 x5.Page.Count, .str x5.Page.Text]) (At.one (setRow_gi k158 (k := 0) (z := x5) gx6 rfl rfl)) (fit_gi k158 (k := 0) gx6 rfl))
     intro x7 gx7 h
     refine LWp.sb [] (.slot 3) [.sl true 158 8 (encs c158 (si (si yOut4 yK2 x5) (sb yK2 1) x4))] (lZ (Wp.region (lO 80 (I yK2) (lO 81 (I (sb yK2 1)) (lO 11 (I (sb yK2 1)) (lZ ?_)))))) (s_st [] (q := [0]) (cs := [.sl true 158 8 (encs c158 (si yOut4 yK2 x5))]) (xs := [.int .i64 x4.Block, .int .i64 x4.Leaf, .int .i64 x4.Page.Kind, .int .i64 x4.Page.Seq, .int .i64 x4.Page.Tx, .int .i64 x4.Page.Part, .int .i64 x4.Page.Count, .str x4.Page.Text]) (At.one (setRow_gi k158 (k := 0) (z := x4) gx7 rfl rfl)) (fit_gi k158 (k := 0) gx7 rfl))
     cases h
     exact ⟨_, rfl, rfl, rfl⟩
    refine Wp.exit ?_
    cases h
    exact ⟨_, rfl, rfl, rfl⟩
   intro v5 h E hE
   refine nt_wp hE ?_
   change Wp _ _ _ (s_ScanAll_H9 yI1 v5) _
   refine Wp.region (lO 59 (I yI1) (lO 60 (I (ad yI1 1)) (lO 10 (I (ad yI1 1)) (lZ ?_))))
   cases h
   exact ⟨_, rfl, rfl, rfl⟩
  refine Wp.exit ?_
  cases h
  exact ⟨_, rfl, rfl, rfl⟩
 intro v6 h E hE
 refine nt_wp hE ?_
 change Wp _ _ _ (s_ScanAll_H7 v6) _
 refine wr (lO 99 (.one (.view (.slot 3) 0 [] 0)) (LWp.m true [(.slot 3, [.junk])] 2 (.one (.sl true 158 8 (encs c158 v6))) (lZ ?_)))
 cases h
 exact Wp.ret ⟨.inr rfl, _, _, rfl, rfl⟩
def s_l13Newest_H1 (xList : List Found) (xChunk : Int) (z1 : Int) : St := mkSt [(0, (.one (.sl false 158 8 (encs c158 xList)))), (1, (I xChunk)), (4, (.one (.ptr (.box 4) 0 [] 0))), (6, (I z1))] [(.box 4, [.int .i64 0, .int .i64 0, .int .i64 0, .int .i64 0, .int .i64 0, .int .i64 0, .int .i64 0, .str (bs [])])]
def s_l13Newest_H2  : St := mkSt [(4, (.one (.ptr (.box 4) 0 [] 0)))] [(.box 4, [.int .i64 0, .int .i64 0, .int .i64 0, .int .i64 0, .int .i64 0, .int .i64 0, .int .i64 0, .str (bs [])])]
def s_l13Newest_H3 (xList : List Found) (xChunk : Int) (yI1 : Int) (z2 : Bool) : St := mkSt [(0, (.one (.sl false 158 8 (encs c158 xList)))), (1, (I xChunk)), (4, (.one (.ptr (.box 4) 0 [] 0))), (6, (I yI1)), (30, (B z2))] [(.box 4, [.int .i64 0, .int .i64 0, .int .i64 0, .int .i64 0, .int .i64 0, .int .i64 0, .int .i64 0, .str (bs [])])]
theorem s_l13Newest_t (xList : List Found) (xChunk : Int) (r : Found × Bool) (h : s_l13Newest xList xChunk = some r) : Gives Tryz.prog 154 [.sv (.one (.sl false 158 8 (encs c158 xList))), .sv (I xChunk)] (.tup [(.agg [.int .i64 r.1.Block, .int .i64 r.1.Leaf, .int .i64 r.1.Page.Kind, .int .i64 r.1.Page.Seq, .int .i64 r.1.Page.Tx, .int .i64 r.1.Page.Part, .int .i64 r.1.Page.Count, .str r.1.Page.Text]), (B r.2)]) (List.replicate 2 .gone) := by
 unfold s_l13Newest at h
 refine gives_of Tryz.func154 rfl ?_
 rw [Tryz.ntmps154]
 refine wr (LWp.b [] 4 [.int .i64 0, .int .i64 0, .int .i64 0, .int .i64 0, .int .i64 0, .int .i64 0, .int .i64 0, .str (bs [])] (lO 5 (B false) (lZ (Wp.seq (wr (lO 7 (.one (.sl false 158 8 (encs c158 xList))) (lO 8 (I (ln xList)) (lO 9 (I (sb (ln xList) 1)) (lO 6 (I (sb (ln xList) 1)) ?_)) (st_pure (p_ln k158 xList)))))))))
 refine lZ (Wp.l2 h [0, 1, 4, 6] [.box 4] (fun s => (s_l13Newest_H1 xList xChunk s)) [4] [.box 4] (fun _ => s_l13Newest_H2) ⟨rfl, rfl⟩ ?_ ?_)
 ·rintro yI1 o (h : s_l13Newest_b1 xList xChunk yI1 = some o) hk1
  unfold s_l13Newest_b1 at h
  change Wp _ _ _ (s_l13Newest_H1 xList xChunk yI1) _
  refine Wp.seq (wr (lO 10 (I yI1) (lO 11 (B (decide (yI1 ≥ 0))) (lZ (Wp.c h (fun h => ?_) (fun h => ?_))))))
  ·refine Wp.skip ?_
   refine Wp.seq (Wp.block (Wp.seq (Wp.j1 h [0, 1, 4, 6, 30] [.box 4] (fun a => (s_l13Newest_H3 xList xChunk yI1 a)) ?_ ?_)))
   ·intro a h
    refine Wp.region (lO 14 (.one (.sl false 158 8 (encs c158 xList))) (lO 15 (I yI1) (LWp.p h 16 (fun _ => (.one (.ptr (.slot 14) 1 [0] (Int.toNat yI1 * 8 + 0)))) ?_ (fun x1 gx1 => st_pure (p_ix k158 (.slot 14) [] 0 gx1)))))
    intro x1 gx1 h
    refine lO 17 (.one (.ptr (.slot 14) 1 [0] (Int.toNat yI1 * 8 + 2))) (lO 18 (.one (.ptr (.slot 14) 1 [0] (Int.toNat yI1 * 8 + 2))) (lO 19 (I x1.Page.Kind) (lO 20 (B (x1.Page.Kind == 1)) (lO 21 (B (x1.Page.Kind == 1)) (LWp.sp h 21 (fun h => ?_) (fun h => ?_)))) (st_pure (p_lc k158 (.slot 14) [0] 2 (.int .i64 x1.Page.Kind) gx1))) (st_pure (p_fa k158 (.slot 14) [0] 2 gx1))) (st_pure (p_fa k158 (.slot 14) [0] 0 gx1))
    ·refine lO 22 (.one (.sl false 158 8 (encs c158 xList))) ?_
     refine lO 23 (I yI1) (LWp.p h 24 (fun _ => (.one (.ptr (.slot 22) 1 [0] (Int.toNat yI1 * 8 + 0)))) ?_ (fun x2 gx2 => st_pure (p_ix k158 (.slot 22) [] 0 gx2)))
     intro x2 gx2 h
     refine lO 25 (.one (.ptr (.slot 22) 1 [0] (Int.toNat yI1 * 8 + 2))) (lO 26 (.one (.ptr (.slot 22) 1 [0] (Int.toNat yI1 * 8 + 4))) (lO 27 (I x2.Page.Tx) (lO 28 (I xChunk) (lO 29 (B (x2.Page.Tx == xChunk)) (lO 30 (B (x2.Page.Tx == xChunk)) (lZ ?_)))) (st_pure (p_lc k158 (.slot 22) [0] 4 (.int .i64 x2.Page.Tx) gx2))) (st_pure (p_fa k158 (.slot 22) [0] 2 gx2))) (st_pure (p_fa k158 (.slot 22) [0] 0 gx2))
     cases h
     exact ⟨_, rfl, rfl, rfl⟩
    refine lH 22 (lH 23 (lH 24 (lH 25 (lH 26 (lH 27 (lH 28 (lH 29 (lO 30 (B false) (lZ ?_)))))))))
    cases h
    exact ⟨_, rfl, rfl, rfl⟩
   intro j1 h E hE
   refine nt_wp hE ?_
   change Wp _ _ _ (s_l13Newest_H3 xList xChunk yI1 j1) _
   refine Wp.c h (fun h => ?_) (fun h => ?_)
   ·refine wr ?_
    refine lO 31 (.one (.sl false 158 8 (encs c158 xList))) (lO 32 (I yI1) (LWp.p h 33 (fun _ => (.one (.ptr (.slot 31) 1 [0] (Int.toNat yI1 * 8 + 0)))) ?_ (fun x3 gx3 => st_pure (p_ix k158 (.slot 31) [] 0 gx3))))
    intro x3 gx3 h
    refine lO 34 (.agg [.int .i64 x3.Block, .int .i64 x3.Leaf, .int .i64 x3.Page.Kind, .int .i64 x3.Page.Seq, .int .i64 x3.Page.Tx, .int .i64 x3.Page.Part, .int .i64 x3.Page.Count, .str x3.Page.Text]) (LWp.s [] (.box 4) [.int .i64 x3.Block, .int .i64 x3.Leaf, .int .i64 x3.Page.Kind, .int .i64 x3.Page.Seq, .int .i64 x3.Page.Tx, .int .i64 x3.Page.Part, .int .i64 x3.Page.Count, .str x3.Page.Text] (lO 5 (B true) (lZ ?_))) (st_pure (p_le k158 (.slot 31) [0] gx3))
    cases h
    replace h : some _ = some _ := hk1 _ rfl
    cases h
    exact Wp.ret ⟨.inr rfl, _, _, rfl, rfl⟩
   refine Wp.skip (Wp.region (lO 12 (I yI1) (lO 13 (I (sb yI1 1)) (lO 6 (I (sb yI1 1)) (lZ ?_)))))
   cases h
   exact ⟨_, rfl, rfl, rfl⟩
  refine Wp.exit ?_
  cases h
  exact ⟨_, rfl, rfl, rfl⟩
 intro v1 h E hE
 refine nt_wp hE ?_
 change Wp _ _ _ s_l13Newest_H2 _
 refine wr (lO 35 (.agg [.int .i64 0, .int .i64 0, .int .i64 0, .int .i64 0, .int .i64 0, .int .i64 0, .int .i64 0, .str (bs [])]) (LWp.s [] (.box 4) [.int .i64 0, .int .i64 0, .int .i64 0, .int .i64 0, .int .i64 0, .int .i64 0, .int .i64 0, .str (bs [])] (lO 5 (B false) (lZ ?_))))
 cases h
 exact Wp.ret ⟨.inr rfl, _, _, rfl, rfl⟩
def c171 (x : Token) : List TV := [.int .i64 x.Back, .int .i64 x.Size, .str x.Text]
theorem k171 : ∀ x, (c171 x).length = 3 := fun _ => rfl
theorem sh171 : ∀ l, shares (encs c171 l) = encs c171 l := shares_encs (fun _ => rfl)
theorem ns171 : ∀ l, hasShareds (encs c171 l) = false := ns_encs (fun _ => rfl)
def s_l04Tokens_H1 (xT : ByteArray) (z1 : List Token) (z2 : Int) : St := mkSt [(0, (Y xT)), (4, (.one (.sl true 171 3 (encs c171 z1)))), (5, (I z2))] []
def s_l04Tokens_H2 (z3 : List Token) : St := mkSt [(4, (.one (.sl true 171 3 (encs c171 z3))))] []
theorem s_l04Tokens_t (xT : ByteArray) (r : List Token × Bool) (h : s_l04Tokens xT = some r) : Gives Tryz.prog 186 [.sv (Y xT)] (.tup [(.one (.sl true 171 3 (encs c171 r.1))), (B r.2)]) (List.replicate 1 .gone) := by
 unfold s_l04Tokens at h
 refine gives_of Tryz.func186 rfl ?_
 rw [Tryz.ntmps186]
 refine wr (lO 2 (.one (.sl true 171 3 (encs c171 []))) (lO 3 (B false) (lZ (wr (LWp.m false [] 7 (.one (.sl true 171 3 (encs c171 []))) (LWp.m true [(.slot 7, [.junk])] 4 (.one (.sl true 171 3 (encs c171 []))) (lZ (wr (lO 5 (I 0) ?_)))))))))
 refine lZ (Wp.seq (Wp.l2 h [0, 4, 5] [] (fun s => (s_l04Tokens_H1 xT s.1 s.2)) [4] [] (fun s => (s_l04Tokens_H2 s)) ⟨rfl, rfl⟩ ?_ ?_))
 ·rintro ⟨yOut1, yAt1⟩ o (h : s_l04Tokens_b1 xT yOut1 yAt1 = some o) hk1
  unfold s_l04Tokens_b1 at h
  change Wp _ _ _ (s_l04Tokens_H1 xT yOut1 yAt1) _
  refine Wp.seq (wr (lO 8 (I yAt1) (lO 9 (Y xT) (lO 10 (I (sln xT)) (lO 11 (B (decide (yAt1 < (sln xT)))) (lZ (Wp.c h (fun h => ?_) (fun h => ?_))))))))
  ·refine Wp.skip ?_
   refine Wp.block (wr (lO 12 (Y xT) (lO 13 (I yAt1) (LWp.p h 14 (fun x1 => (.one (.int .u8 x1))) ?_ (fun x1 gx1 => st_pure (p_sx gx1))))))
   intro x1 gx1 h
   refine lO 15 (I (IntKind.i64.wrap x1)) (lO 6 (I (IntKind.i64.wrap x1)) (lZ (Wp.seq (wr (lO 16 (I (IntKind.i64.wrap x1)) (lO 17 (B (decide ((IntKind.i64.wrap x1) > 128))) (lZ (Wp.c h (fun h => ?_) (fun h => ?_)))))))))
   ·refine Wp.seq ?_
    refine wr (lO 18 (I yAt1) (lO 19 (I (ad yAt1 2)) (lO 20 (Y xT) (lO 21 (I (sln xT)) (lO 22 (B (decide ((ad yAt1 2) > (sln xT)))) (lZ (Wp.c h (fun h => ?_) (fun h => ?_))))))))
    ·refine wr ?_
     refine lO 23 (.one (.view (.slot 4) 0 [] 0)) (LWp.m true [(.slot 4, [.junk])] 2 (.one (.sl true 171 3 (encs c171 yOut1))) (lO 3 (B false) (lZ ?_)))
     cases h
     replace h : some _ = some _ := hk1 _ rfl
     cases h
     exact Wp.ret ⟨.inr rfl, _, _, rfl, rfl⟩
    refine Wp.skip (wr (lO 24 (.one (.view (.slot 4) 0 [] 0)) (lO 25 (Y xT) (lO 26 (I yAt1) (lO 27 (I (ad yAt1 1)) (LWp.p h 28 (fun x2 => (.one (.int .u8 x2))) ?_ (fun x2 gx2 => st_pure (p_sx gx2))))))))
    intro x2 gx2 h
    refine lO 29 (I (IntKind.i64.wrap x2)) (lO 30 (I (IntKind.i64.wrap x1)) (lO 31 (I (sb (IntKind.i64.wrap x1) 128)) (lO 32 (.agg [.int .i64 (IntKind.i64.wrap x2), .int .i64 (sb (IntKind.i64.wrap x1) 128), .str (bs [])]) (LWp.m false [] 33 (.one (.sl true 171 3 (encs c171 [(Token.mk (IntKind.i64.wrap x2) (sb (IntKind.i64.wrap x1) 128) (bs []))]))) (LWp.pm h [(.slot 4, [.junk])] 34 (fun q1 => (.one (.sl true 171 3 (encs c171 q1)))) ?_ (fun q1 gq1 => s_apl k171 (fun _ => rfl) [(.slot 4, [.junk])] yOut1 gq1))))))
    intro q1 gq1 h
    refine LWp.m true [(.slot 34, [.junk])] 4 (.one (.sl true 171 3 (encs c171 q1))) (lZ (wr (lO 35 (I yAt1) (lO 36 (I (ad yAt1 2)) (lO 5 (I (ad yAt1 2)) (lZ (Wp.exit ?_)))))))
    cases h
    exact ⟨_, rfl, rfl, rfl⟩
   refine Wp.skip (Wp.seq (wr (lO 37 (I yAt1) (lO 38 (I (ad yAt1 1)) (lO 39 (I (IntKind.i64.wrap x1)) (lO 40 (I (ad (ad yAt1 1) (IntKind.i64.wrap x1))) (lO 41 (Y xT) (lO 42 (I (sln xT)) (lO 43 (B (decide ((ad (ad yAt1 1) (IntKind.i64.wrap x1)) > (sln xT)))) ?_)))))))))
   refine lZ (Wp.c h (fun h => ?_) (fun h => ?_))
   ·refine wr ?_
    refine lO 44 (.one (.view (.slot 4) 0 [] 0)) (LWp.m true [(.slot 4, [.junk])] 2 (.one (.sl true 171 3 (encs c171 yOut1))) (lO 3 (B false) (lZ ?_)))
    cases h
    replace h : some _ = some _ := hk1 _ rfl
    cases h
    exact Wp.ret ⟨.inr rfl, _, _, rfl, rfl⟩
   refine Wp.skip (wr (lO 45 (.one (.view (.slot 4) 0 [] 0)) (lO 46 (Y xT) (lO 47 (I yAt1) (lO 48 (I (ad yAt1 1)) (lO 49 (I yAt1) (lO 50 (I (ad yAt1 1)) (lO 51 (I (IntKind.i64.wrap x1)) (lO 52 (I (ad (ad yAt1 1) (IntKind.i64.wrap x1))) ?_)))))))))
   refine LWp.p h 53 (fun x3 => (Y x3)) ?_ (fun x3 gx3 => st_pure (p_sub gx3))
   intro x3 gx3 h
   refine lO 54 (.agg [.int .i64 0, .int .i64 0, .str x3]) (LWp.m false [] 55 (.one (.sl true 171 3 (encs c171 [(Token.mk 0 0 x3)]))) (LWp.pm h [(.slot 4, [.junk])] 56 (fun q2 => (.one (.sl true 171 3 (encs c171 q2)))) ?_ (fun q2 gq2 => s_apl k171 (fun _ => rfl) [(.slot 4, [.junk])] yOut1 gq2)))
   intro q2 gq2 h
   refine LWp.m true [(.slot 56, [.junk])] 4 (.one (.sl true 171 3 (encs c171 q2))) (lZ (Wp.region (lO 57 (I yAt1) (lO 58 (I (ad yAt1 1)) (lO 59 (I (IntKind.i64.wrap x1)) (lO 60 (I (ad (ad yAt1 1) (IntKind.i64.wrap x1))) (lO 5 (I (ad (ad yAt1 1) (IntKind.i64.wrap x1))) (lZ ?_))))))))
   cases h
   exact ⟨_, rfl, rfl, rfl⟩
  refine Wp.exit ?_
  cases h
  exact ⟨_, rfl, rfl, rfl⟩
 intro v1 h E hE
 refine nt_wp hE ?_
 change Wp _ _ _ (s_l04Tokens_H2 v1) _
 refine wr (lO 61 (.one (.view (.slot 4) 0 [] 0)) (LWp.m true [(.slot 4, [.junk])] 2 (.one (.sl true 171 3 (encs c171 v1))) (lO 3 (B true) (lZ ?_))))
 cases h
 exact Wp.ret ⟨.inr rfl, _, _, rfl, rfl⟩
def s_PlainOf_H1 (xList : List Token) (z1 : List Int) (z2 : Int) : St := mkSt [(0, (.one (.sl false 171 3 (encs c171 xList)))), (4, (.one (.sl true 5 1 (encs c5 z1)))), (5, (I z2))] []
def s_PlainOf_H2 (z3 : List Int) : St := mkSt [(4, (.one (.sl true 5 1 (encs c5 z3))))] []
def s_PlainOf_H3 (xList : List Token) (yI1 : Int) (z4 : List Int) : St := mkSt [(0, (.one (.sl false 171 3 (encs c171 xList)))), (4, (.one (.sl true 5 1 (encs c5 z4)))), (5, (I yI1))] []
def s_PlainOf_H4 (xList : List Token) (yOut1 : List Int) (yI1 : Int) (x1 : Token) (z5 : Bool) : St := mkSt [(0, (.one (.sl false 171 3 (encs c171 xList)))), (4, (.one (.sl true 5 1 (encs c5 yOut1)))), (5, (I yI1)), (6, (.one (.ptr (.box 6) 0 [] 0))), (32, (B z5))] [(.box 6, [.int .i64 x1.Back, .int .i64 x1.Size, .str x1.Text])]
def s_PlainOf_H5 (xList : List Token) (yOut1 : List Int) (yI1 : Int) (x1 : Token) (z6 : Bool) : St := mkSt [(0, (.one (.sl false 171 3 (encs c171 xList)))), (4, (.one (.sl true 5 1 (encs c5 yOut1)))), (5, (I yI1)), (6, (.one (.ptr (.box 6) 0 [] 0))), (54, (B z6))] [(.box 6, [.int .i64 x1.Back, .int .i64 x1.Size, .str x1.Text])]
def s_PlainOf_H6 (xList : List Token) (yI1 : Int) (x1 : Token) (z7 : List Int) (z8 : Int) : St := mkSt [(0, (.one (.sl false 171 3 (encs c171 xList)))), (4, (.one (.sl true 5 1 (encs c5 z7)))), (5, (I yI1)), (6, (.one (.ptr (.box 6) 0 [] 0))), (7, (I z8))] [(.box 6, [.int .i64 x1.Back, .int .i64 x1.Size, .str x1.Text])]
def s_PlainOf_H7 (xList : List Token) (yI1 : Int) (z9 : List Int) : St := mkSt [(0, (.one (.sl false 171 3 (encs c171 xList)))), (4, (.one (.sl true 5 1 (encs c5 z9)))), (5, (I yI1))] []
theorem s_PlainOf_t (xList : List Token) (r : ByteArray × Bool) (h : s_PlainOf xList = some r) : Gives Tryz.prog 187 [.sv (.one (.sl false 171 3 (encs c171 xList)))] (.tup [(Y r.1), (B r.2)]) (List.replicate 1 .gone) := by
 unfold s_PlainOf at h
 refine gives_of Tryz.func187 rfl ?_
 rw [Tryz.ntmps187]
 refine wr (lO 2 (Y (bs [])) (lO 3 (B false) (lZ (wr (LWp.m false [] 9 (.one (.sl true 5 1 (encs c5 []))) (LWp.m true [(.slot 9, [.junk])] 4 (.one (.sl true 5 1 (encs c5 []))) (lZ (Wp.seq (wr ?_)))))))))
 refine lO 5 (I 0) (lZ (Wp.l2 h [0, 4, 5] [] (fun s => (s_PlainOf_H1 xList s.1 s.2)) [4] [] (fun s => (s_PlainOf_H2 s)) ⟨rfl, rfl⟩ ?_ ?_))
 ·rintro ⟨yOut1, yI1⟩ o (h : s_PlainOf_b1 xList yOut1 yI1 = some o) hk1
  unfold s_PlainOf_b1 at h
  change Wp _ _ _ (s_PlainOf_H1 xList yOut1 yI1) _
  refine Wp.seq (wr (lO 10 (I yI1) (lO 11 (.one (.sl false 171 3 (encs c171 xList))) (lO 12 (I (ln xList)) (lO 13 (B (decide (yI1 < (ln xList)))) (lZ (Wp.c h (fun h => ?_) (fun h => ?_)))) (st_pure (p_ln k171 xList))))))
  ·refine Wp.skip ?_
   refine Wp.seq (Wp.block (wr (lO 16 (.one (.sl false 171 3 (encs c171 xList))) (lO 17 (I yI1) (LWp.p h 18 (fun _ => (.one (.ptr (.slot 16) 1 [0] (Int.toNat yI1 * 3 + 0)))) ?_ (fun x1 gx1 => st_pure (p_ix k171 (.slot 16) [] 0 gx1)))))))
   intro x1 gx1 h
   refine lO 19 (.agg [.int .i64 x1.Back, .int .i64 x1.Size, .str x1.Text]) (LWp.b [] 6 [.int .i64 0, .int .i64 0, .str (bs [])] (LWp.s [] (.box 6) [.int .i64 x1.Back, .int .i64 x1.Size, .str x1.Text] (lZ (Wp.seq (wr (lO 20 (.one (.ptr (.box 6) 1 [] 0)) (lO 21 (I x1.Back) (lO 22 (B (x1.Back == 0)) (lZ ?_))))))))) (st_pure (p_le k171 (.slot 16) [0] gx1))
   refine Wp.j2 h [0, 4, 5] [] (fun a => (s_PlainOf_H3 xList yI1 a)) ?_ ?_
   ·intro a h hk2
    refine Wp.c h (fun h => ?_) (fun h => ?_)
    ·refine Wp.seq ?_
     refine Wp.seq (Wp.j1 h [0, 4, 5, 6, 32] [.box 6] (fun a => (s_PlainOf_H4 xList yOut1 yI1 x1 a)) ?_ ?_)
     ·intro a h
      refine Wp.region (lO 23 (.one (.ptr (.box 6) 1 [] 2)) (lO 24 (Y x1.Text) (lO 25 (I (sln x1.Text)) (LWp.cl h 26 (fun v1 => (B v1)) rfl (l := [.sv (.one (.int .i64 (sln x1.Text))), .sv (.one (.int .i64 1)), .sv (.one (.int .i64 31))]) rfl (fun v hv => s_l01In_t (sln x1.Text) 1 31 v hv) (.inl rfl) ?_))))
      intro v1 gv1 h
      refine lO 27 (B (!v1)) (lO 28 (B (!v1)) (LWp.sp h 28 (fun h => ?_) (fun h => ?_)))
      ·refine lH 29 ?_
       refine lH 30 (lH 31 (lO 32 (B true) (lZ ?_)))
       cases h
       exact ⟨_, rfl, rfl, rfl⟩
      refine lO 29 (.one (.ptr (.box 6) 1 [] 1)) (lO 30 (I x1.Size) (lO 31 (B (x1.Size != 0)) (lO 32 (B (x1.Size != 0)) (lZ ?_))))
      cases h
      exact ⟨_, rfl, rfl, rfl⟩
     intro j2 h E hE
     refine nt_wp hE ?_
     change Wp _ _ _ (s_PlainOf_H4 xList yOut1 yI1 x1 j2) _
     refine Wp.c h (fun h => ?_) (fun h => ?_)
     ·refine wr ?_
      refine lO 2 (Y (bs [])) (lO 3 (B false) (lZ ?_))
      cases h
      replace h : some _ = some _ := hk2
      cases h
      replace h : some _ = some _ := hk1 _ rfl
      cases h
      exact Wp.ret ⟨.inr rfl, _, _, rfl, rfl⟩
     refine Wp.skip (Wp.region (lO 33 (.one (.view (.slot 4) 0 [] 0)) (lO 34 (.one (.ptr (.box 6) 0 [] 2)) (lO 35 (Y x1.Text) (lO 36 (.one (.sl false 5 1 (encs c5 (sby x1.Text)))) (LWp.pm h [(.slot 4, [.junk])] 37 (fun q1 => (.one (.sl true 5 1 (encs c5 q1)))) ?_ (fun q1 gq1 => s_apl k5 (fun _ => rfl) [(.slot 4, [.junk])] yOut1 gq1)) (s_sb (fun _ => rfl)))))))
     intro q1 gq1 h
     refine LWp.m true [(.slot 37, [.junk])] 4 (.one (.sl true 5 1 (encs c5 q1))) (lZ ?_)
     cases h
     exact ⟨_, rfl, rfl, rfl⟩
    refine Wp.seq (Wp.seq (Wp.j1 h [0, 4, 5, 6, 54] [.box 6] (fun a => (s_PlainOf_H5 xList yOut1 yI1 x1 a)) ?_ ?_))
    ·intro a h
     refine Wp.region (lO 38 (.one (.ptr (.box 6) 1 [] 0)) (lO 39 (I x1.Back) (lO 40 (.one (.view (.slot 4) 0 [] 0)) (lO 41 (I (ln yOut1)) (LWp.cl h 42 (fun v2 => (B v2)) rfl (l := [.sv (.one (.int .i64 x1.Back)), .sv (.one (.int .i64 1)), .sv (.one (.int .i64 (ln yOut1)))]) rfl (fun v hv => s_l01In_t x1.Back 1 (ln yOut1) v hv) (.inl rfl) ?_) (st_pure (p_ln k5 yOut1))))))
     intro v2 gv2 h
     refine lO 43 (B (!v2)) (lO 44 (B (!v2)) (LWp.sp h 44 (fun h => ?_) (fun h => ?_)))
     ·refine lH 45 ?_
      refine lH 46 (lH 47 (lH 48 (lO 49 (B true) (lO 50 (B true) (lH 51 (lH 52 (lH 53 (lO 54 (B true) (lZ ?_)))))))))
      cases h
      exact ⟨_, rfl, rfl, rfl⟩
     refine lO 45 (.one (.ptr (.box 6) 1 [] 1)) (lO 46 (I x1.Size) (LWp.cl h 47 (fun v3 => (B v3)) rfl (l := [.sv (.one (.int .i64 x1.Size)), .sv (.one (.int .i64 1)), .sv (.one (.int .i64 31))]) rfl (fun v hv => s_l01In_t x1.Size 1 31 v hv) (.inl rfl) ?_))
     intro v3 gv3 h
     refine lO 48 (B (!v3)) (lO 49 (B (!v3)) (lO 50 (B (!v3)) (LWp.sp h 50 (fun h => ?_) (fun h => ?_))))
     ·refine lH 51 ?_
      refine lH 52 (lH 53 (lO 54 (B true) (lZ ?_)))
      cases h
      exact ⟨_, rfl, rfl, rfl⟩
     refine lO 51 (.one (.ptr (.box 6) 1 [] 2)) (lO 52 (Y x1.Text) (lO 53 (B (!(seq x1.Text (bs [])))) (lO 54 (B (!(seq x1.Text (bs [])))) (lZ ?_))))
     cases h
     exact ⟨_, rfl, rfl, rfl⟩
    intro j3 h E hE
    refine nt_wp hE ?_
    change Wp _ _ _ (s_PlainOf_H5 xList yOut1 yI1 x1 j3) _
    refine Wp.c h (fun h => ?_) (fun h => ?_)
    ·refine wr ?_
     refine lO 2 (Y (bs [])) (lO 3 (B false) (lZ ?_))
     cases h
     replace h : some _ = some _ := hk2
     cases h
     replace h : some _ = some _ := hk1 _ rfl
     cases h
     exact Wp.ret ⟨.inr rfl, _, _, rfl, rfl⟩
    refine Wp.skip (wr (lO 7 (I 0) (lZ (Wp.l1 h [0, 4, 5, 6, 7] [.box 6] (fun s => (s_PlainOf_H6 xList yI1 x1 s.1 s.2)) [0, 4, 5] [] (fun s => (s_PlainOf_H7 xList yI1 s)) ⟨rfl, rfl⟩ ?_ ?_))))
    ·rintro ⟨yOut2, yK1⟩ o (h : s_PlainOf_b2 x1 yOut2 yK1 = some o)
     unfold s_PlainOf_b2 at h
     change Wp _ _ _ (s_PlainOf_H6 xList yI1 x1 yOut2 yK1) _
     refine Wp.seq (wr (lO 55 (I yK1) (lO 56 (.one (.ptr (.box 6) 0 [] 1)) (lO 57 (I x1.Size) (lO 58 (B (decide (yK1 < x1.Size))) (lZ (Wp.c h (fun h => ?_) (fun h => ?_))))))))
     ·refine Wp.skip ?_
      refine Wp.seq (Wp.block (wr (lO 61 (.one (.view (.slot 4) 0 [] 0)) (lO 62 (.one (.view (.slot 4) 0 [] 0)) (lO 63 (I (ln yOut2)) (lO 64 (.one (.ptr (.box 6) 0 [] 0)) (lO 65 (I x1.Back) (lO 66 (I (sb (ln yOut2) x1.Back)) (LWp.p h 67 (fun _ => (.one (.ptr (.slot 4) 0 [0] (Int.toNat (sb (ln yOut2) x1.Back) * 1 + 0)))) ?_ (fun x2 gx2 => st_pure (p_ix k5 (.slot 4) [] 0 gx2)))))) (st_pure (p_ln k5 yOut2)))))))
      intro x2 gx2 h
      refine lO 68 (.one (.int .u8 x2)) (lO 8 (.one (.int .u8 x2)) (lZ (Wp.region (lO 69 (.one (.view (.slot 4) 0 [] 0)) (lO 70 (.one (.int .u8 x2)) (LWp.m false [] 71 (.one (.sl true 5 1 (encs c5 [x2]))) (LWp.pm h [(.slot 4, [.junk])] 72 (fun q2 => (.one (.sl true 5 1 (encs c5 q2)))) ?_ (fun q2 gq2 => s_apl k5 (fun _ => rfl) [(.slot 4, [.junk])] yOut2 gq2)))))))) (st_pure (p_lc k5 (.slot 4) [0] 0 (.int .u8 x2) gx2))
      intro q2 gq2 h
      refine LWp.m true [(.slot 72, [.junk])] 4 (.one (.sl true 5 1 (encs c5 q2))) (lZ (Wp.region (lO 59 (I yK1) (lO 60 (I (ad yK1 1)) (lO 7 (I (ad yK1 1)) (lZ ?_))))))
      cases h
      exact ⟨_, rfl, rfl, rfl⟩
     refine Wp.exit ?_
     cases h
     exact ⟨_, rfl, rfl, rfl⟩
    intro v4 h E hE
    cases h
    exact ⟨_, rfl, hE⟩
   intro j1 h E hE
   refine nt_wp hE ?_
   change Wp _ _ _ (s_PlainOf_H3 xList yI1 j1) _
   refine wr (lO 73 (.one (.view (.slot 4) 0 [] 0)) (lO 74 (I (ln j1)) (lO 75 (B (decide ((ln j1) > 64))) (lZ (Wp.c h (fun h => ?_) (fun h => ?_)))) (st_pure (p_ln k5 j1))))
   ·refine wr ?_
    refine lO 2 (Y (bs [])) (lO 3 (B false) (lZ ?_))
    cases h
    replace h : some _ = some _ := hk1 _ rfl
    cases h
    exact Wp.ret ⟨.inr rfl, _, _, rfl, rfl⟩
   refine Wp.skip (Wp.region (lO 14 (I yI1) (lO 15 (I (ad yI1 1)) (lO 5 (I (ad yI1 1)) (lZ ?_)))))
   cases h
   exact ⟨_, rfl, rfl, rfl⟩
  refine Wp.exit ?_
  cases h
  exact ⟨_, rfl, rfl, rfl⟩
 intro v5 h E hE
 refine nt_wp hE ?_
 change Wp _ _ _ (s_PlainOf_H2 v5) _
 refine wr (lO 76 (.one (.view (.slot 4) 0 [] 0)) (lO 77 (Y (strB v5)) (lO 2 (Y (strB v5)) (lO 3 (B true) (lZ ?_))) (st_pure (p_cv (fun _ => rfl) v5))))
 cases h
 exact Wp.ret ⟨.inr rfl, _, _, rfl, rfl⟩
def s_l04Match_H1 (xS : ByteArray) (xFrom : Int) (xAt : Int) (z1 : Int) : St := mkSt [(0, (Y xS)), (1, (I xFrom)), (2, (I xAt)), (7, (I z1))] []
def s_l04Match_H2 (z2 : Int) : St := mkSt [(7, (I z2))] []
def s_l04Match_H3 (xS : ByteArray) (xFrom : Int) (xAt : Int) (yN1 : Int) (z3 : Bool) : St := mkSt [(0, (Y xS)), (1, (I xFrom)), (2, (I xAt)), (7, (I yN1)), (30, (B z3))] []
theorem s_l04Match_t (xS : ByteArray) (xFrom : Int) (xAt : Int) (r : Int) (h : s_l04Match xS xFrom xAt = some r) : Gives Tryz.prog 161 [.sv (Y xS), .sv (I xFrom), .sv (I xAt)] (I r) (List.replicate 3 .gone) := by
 unfold s_l04Match at h
 refine gives_of Tryz.func161 rfl ?_
 rw [Tryz.ntmps161]
 refine wr (lO 6 (I 0) (lZ (wr (lO 7 (I 0) (lZ (Wp.seq (Wp.l1 h [0, 1, 2, 7] [] (fun s => (s_l04Match_H1 xS xFrom xAt s)) [7] [] (fun s => (s_l04Match_H2 s)) ⟨rfl, rfl⟩ ?_ ?_)))))))
 ·rintro yN1 o (h : s_l04Match_b1 xS xFrom xAt yN1 = some o)
  unfold s_l04Match_b1 at h
  change Wp _ _ _ (s_l04Match_H1 xS xFrom xAt yN1) _
  refine Wp.seq (Wp.seq (Wp.j1 h [0, 1, 2, 7, 30] [] (fun a => (s_l04Match_H3 xS xFrom xAt yN1 a)) ?_ ?_))
  ·intro a h
   refine Wp.regionS mixed (by decide +kernel) (SWp.o 8 (I yN1) (SWp.o 9 (B (decide (yN1 < 31))) (SWp.o 10 (B (decide (yN1 < 31))) (SWp.sp h 10 (fun h => ?_) (fun h => ?_)))))
   ·refine SWp.o 11 (I xAt) ?_
    refine SWp.o 12 (I yN1) (SWp.o 13 (I (ad xAt yN1)) (SWp.o 14 (Y xS) (SWp.o 15 (I (sln xS)) (SWp.o 16 (B (decide ((ad xAt yN1) < (sln xS)))) (SWp.o 17 (B (decide ((ad xAt yN1) < (sln xS)))) (SWp.o 18 (B (decide ((ad xAt yN1) < (sln xS)))) (SWp.sp h 18 (fun h => ?_) (fun h => ?_))))))))
    ·refine SWp.o 19 (Y xS) ?_
     refine SWp.o 20 (I xFrom) (SWp.o 21 (I yN1) (SWp.o 22 (I (ad xFrom yN1)) (SWp.p h 23 (fun x1 => (.one (.int .u8 x1))) ?_ (fun x1 gx1 => sl_pure (p_sx gx1)))))
     intro x1 gx1 h
     refine SWp.o 24 (Y xS) (SWp.o 25 (I xAt) (SWp.o 26 (I yN1) (SWp.o 27 (I (ad xAt yN1)) (SWp.p h 28 (fun x2 => (.one (.int .u8 x2))) ?_ (fun x2 gx2 => sl_pure (p_sx gx2))))))
     intro x2 gx2 h
     refine SWp.o 29 (B (x1 == x2)) (SWp.o 30 (B (x1 == x2)) (SWp.nil ?_))
     cases h
     exact ⟨_, rfl, rfl, rfl⟩
    refine SWp.sh 19 (SWp.sh 20 (SWp.sh 21 (SWp.sh 22 (SWp.sh 23 (SWp.sh 24 (SWp.sh 25 (SWp.sh 26 (SWp.sh 27 (SWp.sh 28 ?_)))))))))
    refine SWp.sh 29 (SWp.o 30 (B false) (SWp.nil ?_))
    cases h
    exact ⟨_, rfl, rfl, rfl⟩
   refine SWp.sh 11 (SWp.sh 12 (SWp.sh 13 (SWp.sh 14 (SWp.sh 15 (SWp.sh 16 (SWp.o 17 (B false) (SWp.o 18 (B false) (SWp.sh 19 (SWp.sh 20 ?_)))))))))
   refine SWp.sh 21 (SWp.sh 22 (SWp.sh 23 (SWp.sh 24 (SWp.sh 25 (SWp.sh 26 (SWp.sh 27 (SWp.sh 28 (SWp.sh 29 (SWp.o 30 (B false) ?_)))))))))
   refine SWp.nil ?_
   cases h
   exact ⟨_, rfl, rfl, rfl⟩
  intro j1 h E hE
  refine nt_wp hE ?_
  change Wp _ _ _ (s_l04Match_H3 xS xFrom xAt yN1 j1) _
  refine Wp.c h (fun h => ?_) (fun h => ?_)
  ·refine Wp.skip ?_
   refine Wp.block (Wp.region (lO 31 (I yN1) (lO 32 (I (ad yN1 1)) (lO 7 (I (ad yN1 1)) (lZ ?_)))))
   cases h
   exact ⟨_, rfl, rfl, rfl⟩
  refine Wp.exit ?_
  cases h
  exact ⟨_, rfl, rfl, rfl⟩
 intro v1 h E hE
 refine nt_wp hE ?_
 change Wp _ _ _ (s_l04Match_H2 v1) _
 refine wr (lO 33 (I v1) (lO 6 (I v1) (lZ ?_)))
 cases h
 exact Wp.ret ⟨.inr rfl, _, _, rfl, rfl⟩
def s_TokensOf_H1 (xS : ByteArray) (z1 : List Token) (z2 : Int) : St := mkSt [(0, (Y xS)), (3, (.one (.sl true 171 3 (encs c171 z1)))), (4, (I z2))] []
def s_TokensOf_H2 (z3 : List Token) : St := mkSt [(3, (.one (.sl true 171 3 (encs c171 z3))))] []
def s_TokensOf_H3 (xS : ByteArray) (yOut1 : List Token) (yAt1 : Int) (z4 : Int) (z5 : Int) (z6 : Int) : St := mkSt [(0, (Y xS)), (3, (.one (.sl true 171 3 (encs c171 yOut1)))), (4, (I yAt1)), (5, (I z4)), (6, (I z5)), (7, (I z6))] []
def s_TokensOf_H4 (xS : ByteArray) (yOut1 : List Token) (yAt1 : Int) (z7 : Int) (z8 : Int) : St := mkSt [(0, (Y xS)), (3, (.one (.sl true 171 3 (encs c171 yOut1)))), (4, (I yAt1)), (5, (I z7)), (6, (I z8))] []
def s_TokensOf_H5 (xS : ByteArray) (yOut1 : List Token) (yAt1 : Int) (yBest1 : Int) (yBack1 : Int) (yFrom1 : Int) (v1 : Int) (z9 : Bool) : St := mkSt [(0, (Y xS)), (3, (.one (.sl true 171 3 (encs c171 yOut1)))), (4, (I yAt1)), (5, (I yBest1)), (6, (I yBack1)), (7, (I yFrom1)), (8, (I v1)), (35, (B z9))] []
def s_TokensOf_H6 (xS : ByteArray) (yOut1 : List Token) (yAt1 : Int) (z10 : Bool) : St := mkSt [(0, (Y xS)), (3, (.one (.sl true 171 3 (encs c171 yOut1)))), (4, (I yAt1)), (9, (I (sb (ln yOut1) 1))), (72, (B z10))] []
theorem s_TokensOf_t (xS : ByteArray) (r : List Token) (h : s_TokensOf xS = some r) : Gives Tryz.prog 113 [.sv (Y xS)] (.one (.sl true 171 3 (encs c171 r))) (List.replicate 1 .gone) := by
 unfold s_TokensOf at h
 refine gives_of Tryz.func113 rfl ?_
 rw [Tryz.ntmps113]
 refine wr (lO 2 (.one (.sl true 171 3 (encs c171 []))) (lZ (wr (LWp.m false [] 10 (.one (.sl true 171 3 (encs c171 []))) (LWp.m true [(.slot 10, [.junk])] 3 (.one (.sl true 171 3 (encs c171 []))) (lZ (Wp.seq (wr (lO 11 (Y xS) ?_)))))))))
 refine lO 12 (I (sln xS)) (lO 13 (B (decide ((sln xS) > 64))) (lZ (Wp.c h (fun h => ?_) (fun h => ?_))))
 ·refine wr ?_
  refine lO 14 (.one (.view (.slot 3) 1 [] 0)) (LWp.m true [(.slot 3, [.junk])] 2 (.one (.sl true 171 3 (encs c171 []))) (lZ ?_))
  cases h
  exact Wp.ret ⟨.inr rfl, _, _, rfl, rfl⟩
 refine Wp.skip (wr (lO 4 (I 0) (lZ (Wp.seq (Wp.l1 h [0, 3, 4] [] (fun s => (s_TokensOf_H1 xS s.1 s.2)) [3] [] (fun s => (s_TokensOf_H2 s)) ⟨rfl, rfl⟩ ?_ ?_)))))
 ·rintro ⟨yOut1, yAt1⟩ o (h : s_TokensOf_b1 xS yOut1 yAt1 = some o)
  unfold s_TokensOf_b1 at h
  change Wp _ _ _ (s_TokensOf_H1 xS yOut1 yAt1) _
  refine Wp.seq (wr (lO 15 (I yAt1) (lO 16 (Y xS) (lO 17 (I (sln xS)) (lO 18 (B (decide (yAt1 < (sln xS)))) (lZ (Wp.c h (fun h => ?_) (fun h => ?_))))))))
  ·refine Wp.skip ?_
   refine Wp.block (wr (lO 5 (I 0) (lZ (wr (lO 6 (I 0) (lZ (Wp.seq (wr (lO 19 (I yAt1) ?_)))))))))
   refine lO 20 (I (sb yAt1 1)) (lO 7 (I (sb yAt1 1)) (lZ (Wp.l1 h [0, 3, 4, 5, 6, 7] [] (fun s => (s_TokensOf_H3 xS yOut1 yAt1 s.1 s.2.1 s.2.2)) [0, 3, 4, 5, 6] [] (fun s => (s_TokensOf_H4 xS yOut1 yAt1 s.1 s.2)) ⟨rfl, rfl⟩ ?_ ?_)))
   ·rintro ⟨yBest1, yBack1, yFrom1⟩ o (h : s_TokensOf_b2 xS yAt1 yBest1 yBack1 yFrom1 = some o)
    unfold s_TokensOf_b2 at h
    change Wp _ _ _ (s_TokensOf_H3 xS yOut1 yAt1 yBest1 yBack1 yFrom1) _
    refine Wp.seq (wr (lO 21 (I yFrom1) (lO 22 (B (decide (yFrom1 ≥ 0))) (lZ (Wp.c h (fun h => ?_) (fun h => ?_))))))
    ·refine Wp.skip ?_
     refine Wp.seq (Wp.block (wr (lO 25 (Y xS) (lO 26 (I yFrom1) (lO 27 (I yAt1) (LWp.cl h 28 (fun v1 => (I v1)) rfl (l := [.sv (.one (.str xS)), .sv (.one (.int .i64 yFrom1)), .sv (.one (.int .i64 yAt1))]) rfl (fun v hv => s_l04Match_t xS yFrom1 yAt1 v hv) (.inl rfl) ?_))))))
     intro v1 gv1 h
     refine lO 8 (I v1) (lZ (Wp.seq (Wp.j1 h [0, 3, 4, 5, 6, 7, 8, 35] [] (fun a => (s_TokensOf_H5 xS yOut1 yAt1 yBest1 yBack1 yFrom1 v1 a)) ?_ ?_)))
     ·intro a h
      refine Wp.region (lO 29 (I v1) (lO 30 (B (decide (v1 ≥ 4))) (lO 31 (B (decide (v1 ≥ 4))) (LWp.sp h 31 (fun h => ?_) (fun h => ?_)))))
      ·refine lO 32 (I v1) ?_
       refine lO 33 (I yBest1) (lO 34 (B (decide (v1 > yBest1))) (lO 35 (B (decide (v1 > yBest1))) (lZ ?_)))
       cases h
       exact ⟨_, rfl, rfl, rfl⟩
      refine lH 32 (lH 33 (lH 34 (lO 35 (B false) (lZ ?_))))
      cases h
      exact ⟨_, rfl, rfl, rfl⟩
     intro j1 h E hE
     refine nt_wp hE ?_
     change Wp _ _ _ (s_TokensOf_H5 xS yOut1 yAt1 yBest1 yBack1 yFrom1 v1 j1) _
     refine Wp.c h (fun h => ?_) (fun h => ?_)
     ·refine wr ?_
      refine lO 36 (I v1) (lO 5 (I v1) (lZ (Wp.region (lO 37 (I yAt1) (lO 38 (I yFrom1) (lO 39 (I (sb yAt1 yFrom1)) (lO 6 (I (sb yAt1 yFrom1)) (lZ (Wp.region ?_)))))))))
      refine lO 23 (I yFrom1) (lO 24 (I (sb yFrom1 1)) (lO 7 (I (sb yFrom1 1)) (lZ ?_)))
      cases h
      exact ⟨_, rfl, rfl, rfl⟩
     refine Wp.skip (Wp.region (lO 23 (I yFrom1) (lO 24 (I (sb yFrom1 1)) (lO 7 (I (sb yFrom1 1)) (lZ ?_)))))
     cases h
     exact ⟨_, rfl, rfl, rfl⟩
    refine Wp.exit ?_
    cases h
    exact ⟨_, rfl, rfl, rfl⟩
   intro v2 h E hE
   refine nt_wp hE ?_
   change Wp _ _ _ (s_TokensOf_H4 xS yOut1 yAt1 v2.1 v2.2) _
   refine Wp.seq (wr (lO 40 (I v2.1) (lO 41 (B (decide (v2.1 > 0))) (lZ (Wp.c h (fun h => ?_) (fun h => ?_))))))
   ·refine wr ?_
    refine lO 42 (.one (.view (.slot 3) 0 [] 0)) (lO 43 (I v2.2) (lO 44 (I v2.1) (lO 45 (.agg [.int .i64 v2.2, .int .i64 v2.1, .str (bs [])]) (LWp.m false [] 46 (.one (.sl true 171 3 (encs c171 [(Token.mk v2.2 v2.1 (bs []))]))) (LWp.pm h [(.slot 3, [.junk])] 47 (fun q1 => (.one (.sl true 171 3 (encs c171 q1)))) ?_ (fun q1 gq1 => s_apl k171 (fun _ => rfl) [(.slot 3, [.junk])] yOut1 gq1))))))
    intro q1 gq1 h
    refine LWp.m true [(.slot 47, [.junk])] 3 (.one (.sl true 171 3 (encs c171 q1))) (lZ (wr (lO 48 (I yAt1) (lO 49 (I v2.1) (lO 50 (I (ad yAt1 v2.1)) (lO 4 (I (ad yAt1 v2.1)) (lZ (Wp.exit ?_))))))))
    cases h
    exact ⟨_, rfl, rfl, rfl⟩
   refine Wp.skip (wr (lO 51 (.one (.view (.slot 3) 0 [] 0)) (lO 52 (I (ln yOut1)) (lO 53 (I (sb (ln yOut1) 1)) (lO 9 (I (sb (ln yOut1) 1)) (lZ (Wp.seq (Wp.seq (Wp.j1 h [0, 3, 4, 9, 72] [] (fun a => (s_TokensOf_H6 xS yOut1 yAt1 a)) ?_ ?_)))))) (st_pure (p_ln k171 yOut1)))))
   ·intro a h
    refine Wp.region (lO 54 (I (sb (ln yOut1) 1)) (lO 55 (B (decide ((sb (ln yOut1) 1) ≥ 0))) (lO 56 (B (decide ((sb (ln yOut1) 1) ≥ 0))) (LWp.sp h 56 (fun h => ?_) (fun h => ?_)))))
    ·refine lO 57 (.one (.view (.slot 3) 0 [] 0)) ?_
     refine lO 58 (I (sb (ln yOut1) 1)) (LWp.p h 59 (fun _ => (.one (.ptr (.slot 3) 0 [0] (Int.toNat (sb (ln yOut1) 1) * 3 + 0)))) ?_ (fun x1 gx1 => st_pure (p_ix k171 (.slot 3) [] 0 gx1)))
     intro x1 gx1 h
     refine lO 60 (.one (.ptr (.slot 3) 0 [0] (Int.toNat (sb (ln yOut1) 1) * 3 + 0))) (lO 61 (I x1.Back) (lO 62 (B (x1.Back == 0)) (lO 63 (B (x1.Back == 0)) (lO 64 (B (x1.Back == 0)) (LWp.sp h 64 (fun h => ?_) (fun h => ?_))))) (st_pure (p_lc k171 (.slot 3) [0] 0 (.int .i64 x1.Back) gx1))) (st_pure (p_fa k171 (.slot 3) [0] 0 gx1))
     ·refine lO 65 (.one (.view (.slot 3) 0 [] 0)) ?_
      refine lO 66 (I (sb (ln yOut1) 1)) (LWp.p h 67 (fun _ => (.one (.ptr (.slot 3) 0 [0] (Int.toNat (sb (ln yOut1) 1) * 3 + 0)))) ?_ (fun x2 gx2 => st_pure (p_ix k171 (.slot 3) [] 0 gx2)))
      intro x2 gx2 h
      refine lO 68 (.one (.ptr (.slot 3) 0 [0] (Int.toNat (sb (ln yOut1) 1) * 3 + 2))) (lO 69 (Y x2.Text) (lO 70 (I (sln x2.Text)) (lO 71 (B (decide ((sln x2.Text) < 31))) (lO 72 (B (decide ((sln x2.Text) < 31))) (lZ ?_)))) (st_pure (p_lc k171 (.slot 3) [0] 2 (.str x2.Text) gx2))) (st_pure (p_fa k171 (.slot 3) [0] 0 gx2))
      cases h
      exact ⟨_, rfl, rfl, rfl⟩
     refine lH 65 (lH 66 (lH 67 (lH 68 (lH 69 (lH 70 (lH 71 (lO 72 (B false) (lZ ?_))))))))
     cases h
     exact ⟨_, rfl, rfl, rfl⟩
    refine lH 57 (lH 58 (lH 59 (lH 60 (lH 61 (lH 62 (lO 63 (B false) (lO 64 (B false) (lH 65 (lH 66 ?_)))))))))
    refine lH 67 (lH 68 (lH 69 (lH 70 (lH 71 (lO 72 (B false) (lZ ?_))))))
    cases h
    exact ⟨_, rfl, rfl, rfl⟩
   intro j2 h E hE
   refine nt_wp hE ?_
   change Wp _ _ _ (s_TokensOf_H6 xS yOut1 yAt1 j2) _
   refine Wp.c h (fun h => ?_) (fun h => ?_)
   ·refine Wp.regionT 15 mixed (by decide +kernel) ?_
    refine SWp.o 73 (.one (.view (.slot 3) 0 [] 0)) (SWp.o 74 (I (sb (ln yOut1) 1)) (SWp.o 75 (.one (.view (.slot 3) 0 [] 0)) (SWp.o 76 (I (sb (ln yOut1) 1)) (SWp.p h 77 (fun _ => (.one (.ptr (.slot 3) 0 [0] (Int.toNat (sb (ln yOut1) 1) * 3 + 0)))) ?_ (fun x3 gx3 => sl_pure (p_ix k171 (.slot 3) [] 0 gx3))))))
    intro x3 gx3 h
    refine SWp.o 78 (.one (.ptr (.slot 3) 0 [0] (Int.toNat (sb (ln yOut1) 1) * 3 + 2))) (SWp.o 79 (Y x3.Text) (SWp.o 80 (Y xS) (SWp.o 81 (I yAt1) (SWp.o 82 (I yAt1) (SWp.o 83 (I (ad yAt1 1)) (SWp.p h 84 (fun x4 => (Y x4)) ?_ (fun x4 gx4 => sl_pure (p_sub gx4))))))) (sl_pure (p_lc k171 (.slot 3) [0] 2 (.str x3.Text) gx3))) (sl_pure (p_fa k171 (.slot 3) [0] 0 gx3))
    intro x4 gx4 h
    refine SWp.p h 85 (fun x5 => (Y x5)) ?_ (fun x5 gx5 => sl_pure (p_cat gx5))
    intro x5 gx5 h
    refine SWp.p h 86 (fun _ => (.one (.ptr (.slot 3) 0 [0] (Int.toNat (sb (ln yOut1) 1) * 3 + 0)))) ?_ (fun x6 gx6 => sl_pure (p_ix k171 (.slot 3) [] 0 gx6))
    intro x6 gx6 h
    refine SWp.o 87 (.one (.ptr (.slot 3) 0 [0] (Int.toNat (sb (ln yOut1) 1) * 3 + 2))) (SWp.nil (LWp.sb [] (.slot 3) [.sl true 171 3 (encs c171 (si yOut1 (sb (ln yOut1) 1) (Token.mk x6.Back x6.Size x5)))] (lZ (Wp.region (lO 97 (I yAt1) (lO 98 (I (ad yAt1 1)) (lO 4 (I (ad yAt1 1)) (lZ ?_)))))) (s_st [] (q := [0]) (cs := [.sl true 171 3 (encs c171 yOut1)]) (xs := [.str x5]) (At.one (setRow_gi k171 (k := 2) (z := (Token.mk x6.Back x6.Size x5)) gx6 rfl rfl)) (fit_gi k171 (k := 2) gx6 rfl)))) (sl_pure (p_fa k171 (.slot 3) [0] 0 gx6))
    cases h
    exact ⟨_, rfl, rfl, rfl⟩
   refine Wp.region (lO 88 (.one (.view (.slot 3) 0 [] 0)) (lO 89 (Y xS) (lO 90 (I yAt1) (lO 91 (I yAt1) (lO 92 (I (ad yAt1 1)) (LWp.p h 93 (fun x7 => (Y x7)) ?_ (fun x7 gx7 => st_pure (p_sub gx7))))))))
   intro x7 gx7 h
   refine lO 94 (.agg [.int .i64 0, .int .i64 0, .str x7]) (LWp.m false [] 95 (.one (.sl true 171 3 (encs c171 [(Token.mk 0 0 x7)]))) (LWp.pm h [(.slot 3, [.junk])] 96 (fun q2 => (.one (.sl true 171 3 (encs c171 q2)))) ?_ (fun q2 gq2 => s_apl k171 (fun _ => rfl) [(.slot 3, [.junk])] yOut1 gq2)))
   intro q2 gq2 h
   refine LWp.m true [(.slot 96, [.junk])] 3 (.one (.sl true 171 3 (encs c171 q2))) (lZ (Wp.region (lO 97 (I yAt1) (lO 98 (I (ad yAt1 1)) (lO 4 (I (ad yAt1 1)) (lZ ?_))))))
   cases h
   exact ⟨_, rfl, rfl, rfl⟩
  refine Wp.exit ?_
  cases h
  exact ⟨_, rfl, rfl, rfl⟩
 intro v3 h E hE
 refine nt_wp hE ?_
 change Wp _ _ _ (s_TokensOf_H2 v3) _
 refine wr (lO 99 (.one (.view (.slot 3) 0 [] 0)) (LWp.m true [(.slot 3, [.junk])] 2 (.one (.sl true 171 3 (encs c171 v3))) (lZ ?_)))
 cases h
 exact Wp.ret ⟨.inr rfl, _, _, rfl, rfl⟩
def s_PackText_H1 (xS : ByteArray) (v1 : List Token) (z1 : ByteArray) (z2 : Int) : St := mkSt [(0, (Y xS)), (4, (.one (.sl true 171 3 (encs c171 v1)))), (5, (Y z1)), (6, (I z2))] []
def s_PackText_H2 (xS : ByteArray) (z3 : ByteArray) : St := mkSt [(0, (Y xS)), (5, (Y z3))] []
theorem s_PackText_t (xS : ByteArray) (r : ByteArray × Bool) (h : s_PackText xS = some r) : Gives Tryz.prog 71 [.sv (Y xS)] (.tup [(Y r.1), (B r.2)]) (List.replicate 1 .gone) := by
 unfold s_PackText at h
 refine gives_of Tryz.func71 rfl ?_
 rw [Tryz.ntmps71]
 refine wr (lO 2 (Y (bs [])) (lO 3 (B false) (lZ (Wp.seq (wr (lO 8 (Y xS) (lO 9 (I (sln xS)) (lO 10 (B (decide ((sln xS) > 64))) (lZ ?_)))))))))
 refine Wp.c h (fun h => ?_) (fun h => ?_)
 ·refine wr ?_
  refine lO 2 (Y (bs [])) (lO 3 (B false) (lZ ?_))
  cases h
  exact Wp.ret ⟨.inr rfl, _, _, rfl, rfl⟩
 refine Wp.skip (wr (lO 11 (Y xS) (LWp.cl h 12 (fun v1 => (.one (.sl true 171 3 (encs c171 v1)))) rfl (l := [.sv (.one (.str xS))]) rfl (fun v hv => s_TokensOf_t xS v hv) (.inl rfl) ?_)))
 intro v1 gv1 h
 refine LWp.m true [(.slot 12, [.junk])] 4 (.one (.sl true 171 3 (encs c171 v1))) (lZ (wr (lO 5 (Y (bs [122])) (lZ (Wp.seq (wr (lO 6 (I 0) (lZ (Wp.l1 h [0, 4, 5, 6] [] (fun s => (s_PackText_H1 xS v1 s.1 s.2)) [0, 5] [] (fun s => (s_PackText_H2 xS s)) ⟨rfl, rfl⟩ ?_ ?_)))))))))
 ·rintro ⟨yZ1, yI1⟩ o (h : s_PackText_b1 v1 yZ1 yI1 = some o)
  unfold s_PackText_b1 at h
  change Wp _ _ _ (s_PackText_H1 xS v1 yZ1 yI1) _
  refine Wp.seq (wr (lO 13 (I yI1) (lO 14 (.one (.view (.slot 4) 0 [] 0)) (lO 15 (I (ln v1)) (lO 16 (B (decide (yI1 < (ln v1)))) (lZ (Wp.c h (fun h => ?_) (fun h => ?_)))) (st_pure (p_ln k171 v1))))))
  ·refine Wp.skip ?_
   refine Wp.seq (Wp.block (wr (lO 19 (.one (.view (.slot 4) 0 [] 0)) (lO 20 (I yI1) (LWp.p h 21 (fun _ => (.one (.ptr (.slot 4) 0 [0] (Int.toNat yI1 * 3 + 0)))) ?_ (fun x1 gx1 => st_pure (p_ix k171 (.slot 4) [] 0 gx1)))))))
   intro x1 gx1 h
   refine lO 22 (.agg [.int .i64 x1.Back, .int .i64 x1.Size, .str x1.Text]) (LWp.b [] 7 [.int .i64 0, .int .i64 0, .str (bs [])] (LWp.s [] (.box 7) [.int .i64 x1.Back, .int .i64 x1.Size, .str x1.Text] (lZ (wr (lO 23 (.one (.ptr (.box 7) 1 [] 0)) (lO 24 (I x1.Back) (lO 25 (B (x1.Back == 0)) (lZ (Wp.c h (fun h => ?_) (fun h => ?_)))))))))) (st_pure (p_le k171 (.slot 4) [0] gx1))
   ·refine Wp.region ?_
    refine lO 26 (Y yZ1) (lO 27 (.one (.ptr (.box 7) 1 [] 2)) (lO 28 (Y x1.Text) (lO 29 (I (sln x1.Text)) (lO 30 (.one (.int .u8 (IntKind.u8.wrap (sln x1.Text)))) (LWp.m false [] 31 (.one (.sl true 5 1 (encs c5 [(IntKind.u8.wrap (sln x1.Text))]))) (lO 32 (Y (strB [(IntKind.u8.wrap (sln x1.Text))])) (LWp.p h 33 (fun x2 => (Y x2)) ?_ (fun x2 gx2 => st_pure (p_cat gx2))) (st_pure (p_cv (fun _ => rfl) [(IntKind.u8.wrap (sln x1.Text))]))))))))
    intro x2 gx2 h
    refine lO 34 (.one (.ptr (.box 7) 1 [] 2)) (lO 35 (Y x1.Text) (LWp.p h 36 (fun x3 => (Y x3)) ?_ (fun x3 gx3 => st_pure (p_cat gx3))))
    intro x3 gx3 h
    refine lO 5 (Y x3) (lZ (Wp.region (lO 17 (I yI1) (lO 18 (I (ad yI1 1)) (lO 6 (I (ad yI1 1)) (lZ ?_))))))
    cases h
    exact ⟨_, rfl, rfl, rfl⟩
   refine Wp.region (lO 37 (Y yZ1) (lO 38 (.one (.ptr (.box 7) 1 [] 1)) (lO 39 (I x1.Size) (lO 40 (I (ad 128 x1.Size)) (lO 41 (.one (.int .u8 (IntKind.u8.wrap (ad 128 x1.Size)))) (lO 42 (.one (.ptr (.box 7) 1 [] 0)) (lO 43 (I x1.Back) (lO 44 (.one (.int .u8 (IntKind.u8.wrap x1.Back))) (LWp.m false [] 45 (.one (.sl true 5 1 (encs c5 [(IntKind.u8.wrap (ad 128 x1.Size)), (IntKind.u8.wrap x1.Back)]))) ?_)))))))))
   refine lO 46 (Y (strB [(IntKind.u8.wrap (ad 128 x1.Size)), (IntKind.u8.wrap x1.Back)])) (LWp.p h 47 (fun x4 => (Y x4)) ?_ (fun x4 gx4 => st_pure (p_cat gx4))) (st_pure (p_cv (fun _ => rfl) [(IntKind.u8.wrap (ad 128 x1.Size)), (IntKind.u8.wrap x1.Back)]))
   intro x4 gx4 h
   refine lO 5 (Y x4) (lZ (Wp.region (lO 17 (I yI1) (lO 18 (I (ad yI1 1)) (lO 6 (I (ad yI1 1)) (lZ ?_))))))
   cases h
   exact ⟨_, rfl, rfl, rfl⟩
  refine Wp.exit ?_
  cases h
  exact ⟨_, rfl, rfl, rfl⟩
 intro v2 h E hE
 refine nt_wp hE ?_
 change Wp _ _ _ (s_PackText_H2 xS v2) _
 refine Wp.seq (wr (lO 48 (Y xS) (lO 49 (I (sln xS)) (lO 50 (I (ad (sln xS) 1)) (lO 51 (Y v2) (lO 52 (I (sln v2)) (lO 53 (B (decide ((ad (sln xS) 1) ≤ (sln v2)))) (lZ (Wp.c h (fun h => ?_) (fun h => ?_))))))))))
 ·refine wr ?_
  refine lO 54 (Y xS) (LWp.p h 55 (fun x5 => (Y x5)) ?_ (fun x5 gx5 => st_pure (p_cat gx5)))
  intro x5 gx5 h
  refine lO 2 (Y x5) (lO 3 (B true) (lZ ?_))
  cases h
  exact Wp.ret ⟨.inr rfl, _, _, rfl, rfl⟩
 refine Wp.skip (wr (lO 56 (Y v2) (lO 2 (Y v2) (lO 3 (B true) (lZ ?_)))))
 cases h
 exact Wp.ret ⟨.inr rfl, _, _, rfl, rfl⟩
def s_UnpackText_H1 (xT : ByteArray) (z1 : ByteArray) : St := mkSt [(0, (Y xT)), (4, (Y z1))] []
def s_UnpackText_H2 (j1 : ByteArray) (z2 : Bool) : St := mkSt [(4, (Y j1)), (48, (B z2))] []
theorem s_UnpackText_t (xT : ByteArray) (r : ByteArray × Bool) (h : s_UnpackText xT = some r) : Gives Tryz.prog 155 [.sv (Y xT)] (.tup [(Y r.1), (B r.2)]) (List.replicate 1 .gone) := by
 unfold s_UnpackText at h
 refine gives_of Tryz.func155 rfl ?_
 rw [Tryz.ntmps155]
 refine wr (lO 2 (Y (bs [])) (lO 3 (B false) (lZ (Wp.seq (wr (lO 11 (Y xT) (lO 12 (I (sln xT)) (lO 13 (B ((sln xT) == 0)) (lZ ?_)))))))))
 refine Wp.c h (fun h => ?_) (fun h => ?_)
 ·refine wr ?_
  refine lO 2 (Y (bs [])) (lO 3 (B false) (lZ ?_))
  cases h
  exact Wp.ret ⟨.inr rfl, _, _, rfl, rfl⟩
 refine Wp.skip (wr (lO 14 (Y xT) (LWp.p h 15 (fun x1 => (Y x1)) ?_ (fun x1 gx1 => st_pure (p_sub gx1)))))
 intro x1 gx1 h
 refine lO 4 (Y x1) (lZ (Wp.seq (wr (lO 16 (Y xT) (LWp.p h 17 (fun x2 => (.one (.int .u8 x2))) ?_ (fun x2 gx2 => st_pure (p_sx gx2)))))))
 intro x2 gx2 h
 refine lO 18 (B (x2 == 122)) (lZ (Wp.j2 h [0, 4] [] (fun a => (s_UnpackText_H1 xT a)) ?_ ?_))
 ·intro a h hk1
  refine Wp.c h (fun h => ?_) (fun h => ?_)
  ·refine wr ?_
   refine lO 20 (Y xT) (LWp.p h 21 (fun x3 => (Y x3)) ?_ (fun x3 gx3 => st_pure (p_sub gx3)))
   intro x3 gx3 h
   refine LWp.cl h 22 (fun v1 => (.tup [(.one (.sl true 171 3 (encs c171 v1.1))), (B v1.2)])) rfl (l := [.sv (.one (.str x3))]) rfl (fun v hv => s_l04Tokens_t x3 v hv) (.inl rfl) ?_
   intro v1 gv1 h
   refine LWp.mt 22 19 (.tup [(.one (.sl true 171 3 (encs c171 v1.1))), (B v1.2)]) (LWp.e 19 0 23 (.one (.sl true 171 3 (encs c171 v1.1))) (LWp.e 19 1 24 (B v1.2) (LWp.m true [(.slot 23, [.junk])] 5 (.one (.sl true 171 3 (encs c171 v1.1))) (lO 6 (B v1.2) (lZ (wr (lO 26 (.one (.view (.slot 5) 1 [] 0)) (LWp.cl h 27 (fun v2 => (.tup [(Y v2.1), (B v2.2)])) rfl (l := [.sv (.one (.sl false 171 3 (shares (encs c171 v1.1))))]) rfl (fun v hv => cg (l := [.sv (.one (.sl false 171 3 (shares (encs c171 v1.1))))]) (by simp only [sh171]) (s_PlainOf_t v1.1 v hv)) (.inr (fun v => rfl)) ?_))))))))
   intro v2 gv2 h
   refine LWp.mt 27 25 (.tup [(Y v2.1), (B v2.2)]) (LWp.e 25 0 28 (Y v2.1) (LWp.e 25 1 29 (B v2.2) (lO 7 (Y v2.1) (lO 8 (B v2.2) (lZ (Wp.seq (wr (lO 30 (B v1.2) (lO 31 (B (!v1.2)) ?_)))))))))
   refine lO 32 (B (!v1.2)) (LWp.sp h 32 (fun h => ?_) (fun h => ?_))
   ·refine lH 33 ?_
    refine lH 34 (lO 35 (B true) (lZ (Wp.ct (wr (lO 2 (Y (bs [])) (lO 3 (B false) (lZ ?_)))))))
    cases h
    replace h : some _ = some _ := hk1
    cases h
    exact Wp.ret ⟨.inr rfl, _, _, rfl, rfl⟩
   refine lO 33 (B v2.2) (lO 34 (B (!v2.2)) (lO 35 (B (!v2.2)) (lZ (Wp.c h (fun h => ?_) (fun h => ?_)))))
   ·refine wr ?_
    refine lO 2 (Y (bs [])) (lO 3 (B false) (lZ ?_))
    cases h
    replace h : some _ = some _ := hk1
    cases h
    exact Wp.ret ⟨.inr rfl, _, _, rfl, rfl⟩
   refine Wp.skip (Wp.region (lO 36 (Y v2.1) (lO 4 (Y v2.1) (lZ ?_))))
   cases h
   exact ⟨_, rfl, rfl, rfl⟩
  refine Wp.skip ?_
  cases h
  exact ⟨_, rfl, rfl, rfl⟩
 intro j1 h E hE
 refine nt_wp hE ?_
 change Wp _ _ _ (s_UnpackText_H1 xT j1) _
 refine wr (lO 38 (Y j1) (LWp.cl h 39 (fun v3 => (.tup [(Y v3.1), (B v3.2)])) rfl (l := [.sv (.one (.str j1))]) rfl (fun v hv => s_PackText_t j1 v hv) (.inl rfl) ?_))
 intro v3 gv3 h
 refine LWp.mt 39 37 (.tup [(Y v3.1), (B v3.2)]) (LWp.e 37 0 40 (Y v3.1) (LWp.e 37 1 41 (B v3.2) (lO 9 (Y v3.1) (lO 10 (B v3.2) (lZ (Wp.seq (Wp.seq (Wp.j1 h [4, 48] [] (fun a => (s_UnpackText_H2 j1 a)) ?_ ?_))))))))
 ·intro a h
  refine Wp.region (lO 42 (B v3.2) (lO 43 (B (!v3.2)) (lO 44 (B (!v3.2)) (LWp.sp h 44 (fun h => ?_) (fun h => ?_)))))
  ·refine lH 45 ?_
   refine lH 46 (lH 47 (lO 48 (B true) (lZ ?_)))
   cases h
   exact ⟨_, rfl, rfl, rfl⟩
  refine lO 45 (Y v3.1) (lO 46 (Y xT) (lO 47 (B (!(seq v3.1 xT))) (lO 48 (B (!(seq v3.1 xT))) (lZ ?_))))
  cases h
  exact ⟨_, rfl, rfl, rfl⟩
 intro j2 h E hE
 refine nt_wp hE ?_
 change Wp _ _ _ (s_UnpackText_H2 j1 j2) _
 refine Wp.c h (fun h => ?_) (fun h => ?_)
 ·refine wr ?_
  refine lO 2 (Y (bs [])) (lO 3 (B false) (lZ ?_))
  cases h
  exact Wp.ret ⟨.inr rfl, _, _, rfl, rfl⟩
 refine Wp.skip (wr (lO 49 (Y j1) (lO 2 (Y j1) (lO 3 (B true) (lZ ?_)))))
 cases h
 exact Wp.ret ⟨.inr rfl, _, _, rfl, rfl⟩
theorem s_l13Text_t (xList : List Found) (xChunk : Int) (r : ByteArray × Bool) (h : s_l13Text xList xChunk = some r) : Gives Tryz.prog 104 [.sv (.one (.sl false 158 8 (encs c158 xList))), .sv (I xChunk)] (.tup [(Y r.1), (B r.2)]) (List.replicate 2 .gone) := by
 unfold s_l13Text at h
 refine gives_of Tryz.func104 rfl ?_
 rw [Tryz.ntmps104]
 refine wr (lO 4 (Y (bs [])) (lO 5 (B false) (lZ (wr (lO 9 (.one (.sl false 158 8 (encs c158 xList))) (lO 10 (I xChunk) (LWp.cl h 11 (fun v1 => (.tup [(.agg [.int .i64 v1.1.Block, .int .i64 v1.1.Leaf, .int .i64 v1.1.Page.Kind, .int .i64 v1.1.Page.Seq, .int .i64 v1.1.Page.Tx, .int .i64 v1.1.Page.Part, .int .i64 v1.1.Page.Count, .str v1.1.Page.Text]), (B v1.2)])) rfl (l := [.sv (.one (.sl false 158 8 (encs c158 xList))), .sv (.one (.int .i64 xChunk))]) rfl (fun v hv => s_l13Newest_t xList xChunk v hv) (.inl rfl) ?_)))))))
 intro v1 gv1 h
 refine LWp.mt 11 8 (.tup [(.agg [.int .i64 v1.1.Block, .int .i64 v1.1.Leaf, .int .i64 v1.1.Page.Kind, .int .i64 v1.1.Page.Seq, .int .i64 v1.1.Page.Tx, .int .i64 v1.1.Page.Part, .int .i64 v1.1.Page.Count, .str v1.1.Page.Text]), (B v1.2)]) (LWp.e 8 0 12 (.agg [.int .i64 v1.1.Block, .int .i64 v1.1.Leaf, .int .i64 v1.1.Page.Kind, .int .i64 v1.1.Page.Seq, .int .i64 v1.1.Page.Tx, .int .i64 v1.1.Page.Part, .int .i64 v1.1.Page.Count, .str v1.1.Page.Text]) (LWp.e 8 1 13 (B v1.2) (LWp.b [] 6 [.int .i64 0, .int .i64 0, .int .i64 0, .int .i64 0, .int .i64 0, .int .i64 0, .int .i64 0, .str (bs [])] (LWp.s [] (.box 6) [.int .i64 v1.1.Block, .int .i64 v1.1.Leaf, .int .i64 v1.1.Page.Kind, .int .i64 v1.1.Page.Seq, .int .i64 v1.1.Page.Tx, .int .i64 v1.1.Page.Part, .int .i64 v1.1.Page.Count, .str v1.1.Page.Text] (lO 7 (B v1.2) (lZ (Wp.seq (wr (lO 14 (B v1.2) ?_)))))))))
 refine lO 15 (B (!v1.2)) (lZ (Wp.c h (fun h => ?_) (fun h => ?_)))
 ·refine wr ?_
  refine lO 4 (Y (bs [])) (lO 5 (B false) (lZ ?_))
  cases h
  exact Wp.ret ⟨.inr rfl, _, _, rfl, rfl⟩
 refine Wp.skip (wr (lO 16 (.one (.ptr (.box 6) 1 [] 2)) (lO 17 (.one (.ptr (.box 6) 1 [] 7)) (lO 18 (Y v1.1.Page.Text) (LWp.cl h 19 (fun v2 => (.tup [(Y v2.1), (B v2.2)])) rfl (l := [.sv (.one (.str v1.1.Page.Text))]) rfl (fun v hv => s_UnpackText_t v1.1.Page.Text v hv) (.inl rfl) ?_)))))
 intro v2 gv2 h
 refine LWp.e 19 0 20 (Y v2.1) (LWp.e 19 1 21 (B v2.2) (lO 4 (Y v2.1) (lO 5 (B v2.2) (lZ ?_))))
 cases h
 exact Wp.ret ⟨.inr rfl, _, _, rfl, rfl⟩
def s_l13Same_H1 (xList : List Found) (xLive : List Int) (xText : ByteArray) (z1 : Int) : St := mkSt [(0, (.one (.sl false 158 8 (encs c158 xList)))), (1, (.one (.sl false 3 1 (encs c3 xLive)))), (2, (Y xText)), (7, (I z1))] []
def s_l13Same_H2  : St := mkSt [] []
def s_l13Same_H3 (xList : List Found) (xLive : List Int) (xText : ByteArray) (yI1 : Int) (z2 : Bool) : St := mkSt [(0, (.one (.sl false 158 8 (encs c158 xList)))), (1, (.one (.sl false 3 1 (encs c3 xLive)))), (2, (Y xText)), (7, (I yI1)), (30, (B z2))] []
theorem s_l13Same_t (xList : List Found) (xLive : List Int) (xText : ByteArray) (r : Int) (h : s_l13Same xList xLive xText = some r) : Gives Tryz.prog 112 [.sv (.one (.sl false 158 8 (encs c158 xList))), .sv (.one (.sl false 3 1 (encs c3 xLive))), .sv (Y xText)] (I r) (List.replicate 3 .gone) := by
 unfold s_l13Same at h
 refine gives_of Tryz.func112 rfl ?_
 rw [Tryz.ntmps112]
 refine wr (lO 6 (I 0) (lZ (Wp.seq (wr (lO 7 (I 0) (lZ (Wp.l2 h [0, 1, 2, 7] [] (fun s => (s_l13Same_H1 xList xLive xText s)) [] [] (fun _ => s_l13Same_H2) ⟨rfl, rfl⟩ ?_ ?_)))))))
 ·rintro yI1 o (h : s_l13Same_b1 xList xLive xText yI1 = some o) hk1
  unfold s_l13Same_b1 at h
  change Wp _ _ _ (s_l13Same_H1 xList xLive xText yI1) _
  refine Wp.seq (wr (lO 10 (I yI1) (lO 11 (.one (.sl false 3 1 (encs c3 xLive))) (lO 12 (I (ln xLive)) (lO 13 (B (decide (yI1 < (ln xLive)))) (lZ (Wp.c h (fun h => ?_) (fun h => ?_)))) (st_pure (p_ln k3 xLive))))))
  ·refine Wp.skip ?_
   refine Wp.seq (Wp.block (wr (lO 17 (.one (.sl false 158 8 (encs c158 xList))) (lO 18 (.one (.sl false 3 1 (encs c3 xLive))) (lO 19 (I yI1) (LWp.p h 20 (fun _ => (.one (.ptr (.slot 18) 1 [0] (Int.toNat yI1 * 1 + 0)))) ?_ (fun x1 gx1 => st_pure (p_ix k3 (.slot 18) [] 0 gx1))))))))
   intro x1 gx1 h
   refine lO 21 (I x1) (LWp.cl h 22 (fun v1 => (.tup [(Y v1.1), (B v1.2)])) rfl (l := [.sv (.one (.sl false 158 8 (encs c158 xList))), .sv (.one (.int .i64 x1))]) rfl (fun v hv => s_l13Text_t xList x1 v hv) (.inl rfl) ?_) (st_pure (p_lc k3 (.slot 18) [0] 0 (.int .i64 x1) gx1))
   intro v1 gv1 h
   refine LWp.mt 22 16 (.tup [(Y v1.1), (B v1.2)]) (LWp.e 16 0 23 (Y v1.1) (LWp.e 16 1 24 (B v1.2) (lO 8 (Y v1.1) (lO 9 (B v1.2) (lZ (Wp.seq (Wp.j1 h [0, 1, 2, 7, 30] [] (fun a => (s_l13Same_H3 xList xLive xText yI1 a)) ?_ ?_)))))))
   ·intro a h
    refine Wp.region (lO 25 (B v1.2) (lO 26 (B v1.2) (LWp.sp h 26 (fun h => ?_) (fun h => ?_))))
    ·refine lO 27 (Y v1.1) ?_
     refine lO 28 (Y xText) (lO 29 (B (seq v1.1 xText)) (lO 30 (B (seq v1.1 xText)) (lZ ?_)))
     cases h
     exact ⟨_, rfl, rfl, rfl⟩
    refine lH 27 (lH 28 (lH 29 (lO 30 (B false) (lZ ?_))))
    cases h
    exact ⟨_, rfl, rfl, rfl⟩
   intro j1 h E hE
   refine nt_wp hE ?_
   change Wp _ _ _ (s_l13Same_H3 xList xLive xText yI1 j1) _
   refine Wp.c h (fun h => ?_) (fun h => ?_)
   ·refine wr ?_
    refine lO 31 (.one (.sl false 3 1 (encs c3 xLive))) (lO 32 (I yI1) (LWp.p h 33 (fun _ => (.one (.ptr (.slot 31) 1 [0] (Int.toNat yI1 * 1 + 0)))) ?_ (fun x2 gx2 => st_pure (p_ix k3 (.slot 31) [] 0 gx2))))
    intro x2 gx2 h
    refine lO 34 (I x2) (lO 6 (I x2) (lZ ?_)) (st_pure (p_lc k3 (.slot 31) [0] 0 (.int .i64 x2) gx2))
    cases h
    replace h : some _ = some _ := hk1 _ rfl
    cases h
    exact Wp.ret ⟨.inr rfl, _, _, rfl, rfl⟩
   refine Wp.skip (Wp.region (lO 14 (I yI1) (lO 15 (I (ad yI1 1)) (lO 7 (I (ad yI1 1)) (lZ ?_)))))
   cases h
   exact ⟨_, rfl, rfl, rfl⟩
  refine Wp.exit ?_
  cases h
  exact ⟨_, rfl, rfl, rfl⟩
 intro v2 h E hE
 refine nt_wp hE ?_
 change Wp _ _ _ s_l13Same_H2 _
 refine wr (lO 6 (I 0) (lZ ?_))
 cases h
 exact Wp.ret ⟨.inr rfl, _, _, rfl, rfl⟩
theorem s_FindSame_t (xF : Flash) (xLive : List Int) (xText : ByteArray) (r : Int) (h : s_FindSame xF xLive xText = some r) : Gives Tryz.prog 70 [.sv (.agg [.sl false 124 3 (encs (c124 false) xF.Blocks)]), .sv (.one (.sl false 3 1 (encs c3 xLive))), .sv (Y xText)] (I r) (List.replicate 3 .gone) := by
 unfold s_FindSame at h
 refine gives_of Tryz.func70 rfl ?_
 rw [Tryz.ntmps70]
 refine wr (LWp.b [] 3 [.sl false 124 3 (encs (c124 false) xF.Blocks)] (lO 6 (I 0) (lZ (wr (lO 7 (.agg [.sl false 124 3 (encs (c124 false) xF.Blocks)]) (LWp.cl h 8 (fun v1 => (.one (.sl true 158 8 (encs c158 v1)))) rfl (l := [.sv (.agg [.sl false 124 3 (encs (c124 false) xF.Blocks)])]) rfl (fun v hv => s_ScanAll_t xF v hv) (.inl rfl) ?_))))))
 intro v1 gv1 h
 refine lO 9 (.one (.sl false 3 1 (encs c3 xLive))) (lO 10 (Y xText) (LWp.cl h 11 (fun v2 => (I v2)) rfl (l := [.sv (.one (.sl false 158 8 (shares (encs c158 v1)))), .sv (.one (.sl false 3 1 (encs c3 xLive))), .sv (.one (.str xText))]) rfl (fun v hv => cg (l := [.sv (.one (.sl false 158 8 (shares (encs c158 v1)))), .sv (.one (.sl false 3 1 (encs c3 xLive))), .sv (.one (.str xText))]) (by simp only [sh158]) (s_l13Same_t v1 xLive xText v hv)) (.inr (fun v => rfl)) ?_))
 intro v2 gv2 h
 refine lO 6 (I v2) (lZ ?_)
 cases h
 exact Wp.ret ⟨.inr rfl, _, _, rfl, rfl⟩
def c83 (x : Rec) : List TV := [.int .i64 x.Kind, .int .i64 x.Vol, .int .i64 x.Arg, .int .i64 x.Chunk]
theorem k83 : ∀ x, (c83 x).length = 4 := fun _ => rfl
theorem sh83 : ∀ l, shares (encs c83 l) = encs c83 l := shares_encs (fun _ => rfl)
theorem ns83 : ∀ l, hasShareds (encs c83 l) = false := ns_encs (fun _ => rfl)
def s_PlanOf_H1 (xD : Device) (xQ : Ask) (v2 : Int) (z1 : Bool) : St := mkSt [(2, (.one (.ptr (.box 2) 0 [] 0))), (3, (.one (.ptr (.box 3) 0 [] 0))), (7, (.one (.sl true 83 4 (encs c83 [])))), (8, (B (decide (v2 ≥ 0)))), (29, (B z1))] [(.box 2, [.sl false 124 3 (encs (c124 false) xD.Flash.Blocks), .sl false 110 2 (encs c110 xD.Store.Vols), .sl false 218 2 (encs (c218 false) xD.Store.Arena.Knots), .int .i64 xD.Store.Next, .int .i64 xD.Seq, .int .i64 xD.Tx, .int .i64 xD.Base]), (.box 3, [.int .i64 xQ.Kind, .int .i64 xQ.Vol, .int .i64 xQ.Sector, .int .i64 xQ.Of, .str xQ.Text])]
def s_PlanOf_H2 (xD : Device) (xQ : Ask) (z2 : Bool) : St := mkSt [(2, (.one (.ptr (.box 2) 0 [] 0))), (3, (.one (.ptr (.box 3) 0 [] 0))), (7, (.one (.sl true 83 4 (encs c83 [])))), (42, (B z2))] [(.box 2, [.sl false 124 3 (encs (c124 false) xD.Flash.Blocks), .sl false 110 2 (encs c110 xD.Store.Vols), .sl false 218 2 (encs (c218 false) xD.Store.Arena.Knots), .int .i64 xD.Store.Next, .int .i64 xD.Seq, .int .i64 xD.Tx, .int .i64 xD.Base]), (.box 3, [.int .i64 xQ.Kind, .int .i64 xQ.Vol, .int .i64 xQ.Sector, .int .i64 xQ.Of, .str xQ.Text])]
def s_PlanOf_H3 (xQ : Ask) (z3 : Int) (z4 : ByteArray) : St := mkSt [(3, (.one (.ptr (.box 3) 0 [] 0))), (9, (I z3)), (10, (Y z4))] [(.box 3, [.int .i64 xQ.Kind, .int .i64 xQ.Vol, .int .i64 xQ.Sector, .int .i64 xQ.Of, .str xQ.Text])]
set_option maxHeartbeats 4000000 in
theorem s_PlanOf_t (xD : Device) (xQ : Ask) (r : List Rec × ByteArray × Int) (h : s_PlanOf xD xQ = some r) : Gives Tryz.prog 34 [.sv (.agg [.sl false 124 3 (encs (c124 false) xD.Flash.Blocks), .sl false 110 2 (encs c110 xD.Store.Vols), .sl false 218 2 (encs (c218 false) xD.Store.Arena.Knots), .int .i64 xD.Store.Next, .int .i64 xD.Seq, .int .i64 xD.Tx, .int .i64 xD.Base]), .sv (.agg [.int .i64 xQ.Kind, .int .i64 xQ.Vol, .int .i64 xQ.Sector, .int .i64 xQ.Of, .str xQ.Text])] (.tup [(.one (.sl true 83 4 (encs c83 r.1))), (Y r.2.1), (I r.2.2)]) (List.replicate 2 .gone) := by
 unfold s_PlanOf at h
 refine gives_of Tryz.func34 rfl ?_
 rw [Tryz.ntmps34]
 refine wr (LWp.b [] 2 [.sl false 124 3 (encs (c124 false) xD.Flash.Blocks), .sl false 110 2 (encs c110 xD.Store.Vols), .sl false 218 2 (encs (c218 false) xD.Store.Arena.Knots), .int .i64 xD.Store.Next, .int .i64 xD.Seq, .int .i64 xD.Tx, .int .i64 xD.Base] (LWp.b [] 3 [.int .i64 xQ.Kind, .int .i64 xQ.Vol, .int .i64 xQ.Sector, .int .i64 xQ.Of, .str xQ.Text] (lO 4 (.one (.sl true 83 4 (encs c83 []))) (lO 5 (Y (bs [])) (lO 6 (I 0) (lZ (wr (LWp.m false [] 11 (.one (.sl true 83 4 (encs c83 []))) (LWp.m true [(.slot 11, [.junk])] 7 (.one (.sl true 83 4 (encs c83 []))) ?_)))))))))
 refine lZ (Wp.seq (wr (lO 12 (.agg [.int .i64 xQ.Kind, .int .i64 xQ.Vol, .int .i64 xQ.Sector, .int .i64 xQ.Of, .str xQ.Text]) (LWp.cl h 13 (fun v1 => (B v1)) rfl (l := [.sv (.agg [.int .i64 xQ.Kind, .int .i64 xQ.Vol, .int .i64 xQ.Sector, .int .i64 xQ.Of, .str xQ.Text])]) rfl (fun v hv => s_AskOk_t xQ v hv) (.inl rfl) ?_))))
 intro v1 gv1 h
 refine lO 14 (B (!v1)) (lZ (Wp.c h (fun h => ?_) (fun h => ?_)))
 ·refine wr ?_
  refine lO 15 (.one (.view (.slot 7) 1 [] 0)) (LWp.m true [(.slot 7, [.junk])] 4 (.one (.sl true 83 4 (encs c83 []))) (lO 5 (Y (bs [])) (lO 6 (I 3) (lZ ?_))))
  cases h
  exact Wp.ret ⟨.inr rfl, _, _, rfl, rfl⟩
 refine Wp.skip (wr (lO 16 (.one (.ptr (.box 2) 1 [] 1)) (lO 17 (.agg [.sl false 110 2 (encs c110 xD.Store.Vols), .sl false 218 2 (encs (c218 false) xD.Store.Arena.Knots), .int .i64 xD.Store.Next]) (lO 18 (.one (.ptr (.box 3) 1 [] 1)) (lO 19 (I xQ.Vol) (LWp.cl h 20 (fun v2 => (I v2)) rfl (l := [.sv (.agg [.sl false 110 2 (encs c110 xD.Store.Vols), .sl false 218 2 (encs (c218 false) xD.Store.Arena.Knots), .int .i64 xD.Store.Next]), .sv (.one (.int .i64 xQ.Vol))]) rfl (fun v hv => s_l12At_t xD.Store xQ.Vol v hv) (.inl rfl) ?_))))))
 intro v2 gv2 h
 refine lO 21 (B (decide (v2 ≥ 0))) (lO 8 (B (decide (v2 ≥ 0))) (lZ (Wp.seq (Wp.seq (Wp.j1 h [2, 3, 7, 8, 29] [.box 2, .box 3] (fun a => (s_PlanOf_H1 xD xQ v2 a)) ?_ ?_)))))
 ·intro a h
  refine Wp.region (lO 22 (.one (.ptr (.box 3) 1 [] 0)) (lO 23 (I xQ.Kind) (lO 24 (B (xQ.Kind == 3)) (lO 25 (B (xQ.Kind == 3)) (LWp.sp h 25 (fun h => ?_) (fun h => ?_))))))
  ·refine lH 26 ?_
   refine lH 27 (lH 28 (lO 29 (B true) (lZ ?_)))
   cases h
   exact ⟨_, rfl, rfl, rfl⟩
  refine lO 26 (.one (.ptr (.box 3) 1 [] 0)) (lO 27 (I xQ.Kind) (lO 28 (B (xQ.Kind == 4)) (lO 29 (B (xQ.Kind == 4)) (lZ ?_))))
  cases h
  exact ⟨_, rfl, rfl, rfl⟩
 intro j1 h E hE
 refine nt_wp hE ?_
 change Wp _ _ _ (s_PlanOf_H1 xD xQ v2 j1) _
 refine Wp.c h (fun h => ?_) (fun h => ?_)
 ·refine Wp.seq ?_
  refine wr (lO 30 (B (decide (v2 ≥ 0))) (lZ (Wp.c h (fun h => ?_) (fun h => ?_))))
  ·refine wr ?_
   refine lO 31 (.one (.view (.slot 7) 0 [] 0)) (LWp.m true [(.slot 7, [.junk])] 4 (.one (.sl true 83 4 (encs c83 []))) (lO 5 (Y (bs [])) (lO 6 (I 2) (lZ ?_))))
   cases h
   exact Wp.ret ⟨.inr rfl, _, _, rfl, rfl⟩
  refine Wp.skip (Wp.seq (Wp.seq (Wp.j1 h [2, 3, 7, 42] [.box 2, .box 3] (fun a => (s_PlanOf_H2 xD xQ a)) ?_ ?_)))
  ·intro a h
   refine Wp.region (lO 32 (.one (.ptr (.box 3) 0 [] 0)) (lO 33 (I xQ.Kind) (lO 34 (B (xQ.Kind == 4)) (lO 35 (B (xQ.Kind == 4)) (LWp.sp h 35 (fun h => ?_) (fun h => ?_))))))
   ·refine lO 36 (.one (.ptr (.box 2) 0 [] 1)) ?_
    refine lO 37 (.agg [.sl false 110 2 (encs c110 xD.Store.Vols), .sl false 218 2 (encs (c218 false) xD.Store.Arena.Knots), .int .i64 xD.Store.Next]) (lO 38 (.one (.ptr (.box 3) 0 [] 3)) (lO 39 (I xQ.Of) (LWp.cl h 40 (fun v3 => (I v3)) rfl (l := [.sv (.agg [.sl false 110 2 (encs c110 xD.Store.Vols), .sl false 218 2 (encs (c218 false) xD.Store.Arena.Knots), .int .i64 xD.Store.Next]), .sv (.one (.int .i64 xQ.Of))]) rfl (fun v hv => s_l12At_t xD.Store xQ.Of v hv) (.inl rfl) ?_)))
    intro v3 gv3 h
    refine lO 41 (B (decide (v3 < 0))) (lO 42 (B (decide (v3 < 0))) (lZ ?_))
    cases h
    exact ⟨_, rfl, rfl, rfl⟩
   refine lH 36 (lH 37 (lH 38 (lH 39 (lH 40 (lH 41 (lO 42 (B false) (lZ ?_)))))))
   cases h
   exact ⟨_, rfl, rfl, rfl⟩
  intro j2 h E hE
  refine nt_wp hE ?_
  change Wp _ _ _ (s_PlanOf_H2 xD xQ j2) _
  refine Wp.c h (fun h => ?_) (fun h => ?_)
  ·refine wr ?_
   refine lO 43 (.one (.view (.slot 7) 0 [] 0)) (LWp.m true [(.slot 7, [.junk])] 4 (.one (.sl true 83 4 (encs c83 []))) (lO 5 (Y (bs [])) (lO 6 (I 1) (lZ ?_))))
   cases h
   exact Wp.ret ⟨.inr rfl, _, _, rfl, rfl⟩
  refine Wp.skip (Wp.seq (wr (lO 44 (.one (.ptr (.box 2) 0 [] 1)) (lO 45 (.one (.ptr (.box 2) 0 [] 1)) (lO 46 (.one (.sl false 110 2 (encs c110 xD.Store.Vols))) (lO 47 (I (ln xD.Store.Vols)) (lO 48 (B (decide ((ln xD.Store.Vols) ≥ 3))) (lZ (Wp.c h (fun h => ?_) (fun h => ?_)))) (st_pure (p_ln k110 xD.Store.Vols))))))))
  ·refine wr ?_
   refine lO 49 (.one (.view (.slot 7) 0 [] 0)) (LWp.m true [(.slot 7, [.junk])] 4 (.one (.sl true 83 4 (encs c83 []))) (lO 5 (Y (bs [])) (lO 6 (I 4) (lZ ?_))))
   cases h
   exact Wp.ret ⟨.inr rfl, _, _, rfl, rfl⟩
  refine Wp.skip (wr (lO 50 (.one (.ptr (.box 3) 0 [] 1)) (lO 51 (I xQ.Vol) (lO 52 (.one (.ptr (.box 3) 0 [] 3)) (lO 53 (I xQ.Of) (lO 54 (.agg [.int .i64 2, .int .i64 xQ.Vol, .int .i64 xQ.Of, .int .i64 0]) (LWp.m false [] 55 (.one (.sl true 83 4 (encs c83 [(Rec.mk 2 xQ.Vol xQ.Of 0)]))) (LWp.m true [(.slot 55, [.junk])] 4 (.one (.sl true 83 4 (encs c83 [(Rec.mk 2 xQ.Vol xQ.Of 0)]))) (lO 5 (Y (bs [])) ?_)))))))))
  refine lO 6 (I 0) (lZ ?_)
  cases h
  exact Wp.ret ⟨.inr rfl, _, _, rfl, rfl⟩
 refine Wp.skip (Wp.seq (wr (lO 56 (B (decide (v2 ≥ 0))) (lO 57 (B (!(decide (v2 ≥ 0)))) (lZ (Wp.c h (fun h => ?_) (fun h => ?_)))))))
 ·refine wr ?_
  refine lO 58 (.one (.view (.slot 7) 0 [] 0)) (LWp.m true [(.slot 7, [.junk])] 4 (.one (.sl true 83 4 (encs c83 []))) (lO 5 (Y (bs [])) (lO 6 (I 1) (lZ ?_))))
  cases h
  exact Wp.ret ⟨.inr rfl, _, _, rfl, rfl⟩
 refine Wp.skip (Wp.seq (wr (lO 59 (.one (.ptr (.box 3) 0 [] 0)) (lO 60 (I xQ.Kind) (lZ (Wp.block (wr (lO 62 (B (xQ.Kind == 1)) (lO 61 (B (xQ.Kind == 1)) ?_)))))))))
 refine lZ (Wp.c h (fun h => ?_) (fun h => ?_))
 ·refine Wp.seq ?_
  refine Wp.regionK 9 [] mixed (fun c E h => by rcases h with ⟨h | h, _⟩ <;> cases h) (KWp.o 9 0 63 (.one (.ptr (.box 2) 0 [] 0)) (KWp.o 9 1 64 (.agg [.sl false 124 3 (encs (c124 false) xD.Flash.Blocks)]) (KWp.o 9 2 65 (.one (.ptr (.box 2) 0 [] 1)) (KWp.o 9 3 66 (.agg [.sl false 110 2 (encs c110 xD.Store.Vols), .sl false 218 2 (encs (c218 false) xD.Store.Arena.Knots), .int .i64 xD.Store.Next]) (KWp.o 9 5 68 (.one (.ptr (.box 3) 0 [] 4)) (KWp.o 9 6 69 (Y xQ.Text) (KWp.w1 4 (KOp.cl h 4 67 (fun v4 => (.one (.sl true 3 1 (encs c3 v4)))) rfl rfl (l := [.sv (.agg [.sl false 110 2 (encs c110 xD.Store.Vols), .sl false 218 2 (encs (c218 false) xD.Store.Arena.Knots), .int .i64 xD.Store.Next])]) rfl (fun v hv => s_LiveOf_t xD.Store v hv) (.inl rfl) ?_))))))))
  intro v4 gv4 h
  refine KWp.w1 7 (KOp.cl h 7 70 (fun v5 => (I v5)) rfl rfl (l := [.sv (.agg [.sl false 124 3 (encs (c124 false) xD.Flash.Blocks)]), .sv (.one (.sl false 3 1 (shares (encs c3 v4)))), .sv (.one (.str xQ.Text))]) rfl (fun v hv => cg (l := [.sv (.agg [.sl false 124 3 (encs (c124 false) xD.Flash.Blocks)]), .sv (.one (.sl false 3 1 (shares (encs c3 v4)))), .sv (.one (.str xQ.Text))]) (by simp only [sh3]) (s_FindSame_t xD.Flash v4 xQ.Text v hv)) (.inr (fun v => rfl)) ?_)
  intro v5 gv5 h
  refine KWp.o 9 8 9 (I v5) (KWp.done (wr (lO 10 (Y (bs [])) (lZ (Wp.seq (wr (lO 71 (I v5) (lO 72 (B (v5 == 0)) (lZ ?_)))))))))
  refine Wp.j1 h [3, 9, 10] [.box 3] (fun a => (s_PlanOf_H3 xQ a.1 a.2)) ?_ ?_
  ·intro a h
   refine Wp.c h (fun h => ?_) (fun h => ?_)
   ·refine wr ?_
    refine lO 73 (.one (.ptr (.box 2) 0 [] 1)) (lO 74 (.one (.ptr (.box 2) 0 [] 3)) (lO 75 (I xD.Store.Next) (lO 9 (I xD.Store.Next) (lZ (Wp.region (lO 77 (.one (.ptr (.box 3) 0 [] 4)) (lO 78 (Y xQ.Text) (LWp.cl h 79 (fun v6 => (.tup [(Y v6.1), (B v6.2)])) rfl (l := [.sv (.one (.str xQ.Text))]) rfl (fun v hv => s_PackText_t xQ.Text v hv) (.inl rfl) ?_))))))))
    intro v6 gv6 h
    refine LWp.mt 79 76 (.tup [(Y v6.1), (B v6.2)]) (LWp.e 76 0 80 (Y v6.1) (LWp.e 76 1 81 (B v6.2) (lO 10 (Y v6.1) (lZ ?_))))
    cases h
    exact ⟨_, rfl, rfl, rfl⟩
   refine Wp.skip ?_
   cases h
   exact ⟨_, rfl, rfl, rfl⟩
  intro j3 h E hE
  refine nt_wp hE ?_
  change Wp _ _ _ (s_PlanOf_H3 xQ j3.1 j3.2) _
  refine wr (lO 82 (.one (.ptr (.box 3) 0 [] 1)) (lO 83 (I xQ.Vol) (lO 84 (.one (.ptr (.box 3) 0 [] 2)) (lO 85 (I xQ.Sector) (lO 86 (I j3.1) (lO 87 (.agg [.int .i64 4, .int .i64 xQ.Vol, .int .i64 xQ.Sector, .int .i64 j3.1]) (LWp.m false [] 88 (.one (.sl true 83 4 (encs c83 [(Rec.mk 4 xQ.Vol xQ.Sector j3.1)]))) (lO 89 (Y j3.2) (LWp.m true [(.slot 88, [.junk])] 4 (.one (.sl true 83 4 (encs c83 [(Rec.mk 4 xQ.Vol xQ.Sector j3.1)]))) ?_)))))))))
  refine lO 5 (Y j3.2) (lO 6 (I 0) (lZ ?_))
  cases h
  exact Wp.ret ⟨.inr rfl, _, _, rfl, rfl⟩
 refine wr (lO 91 (B (xQ.Kind == 2)) (lO 90 (B (xQ.Kind == 2)) (lZ (Wp.c h (fun h => ?_) (fun h => ?_)))))
 ·refine wr ?_
  refine lO 92 (.one (.ptr (.box 3) 0 [] 1)) (lO 93 (I xQ.Vol) (lO 94 (.one (.ptr (.box 3) 0 [] 2)) (lO 95 (I xQ.Sector) (lO 96 (.agg [.int .i64 5, .int .i64 xQ.Vol, .int .i64 xQ.Sector, .int .i64 0]) (LWp.m false [] 97 (.one (.sl true 83 4 (encs c83 [(Rec.mk 5 xQ.Vol xQ.Sector 0)]))) (LWp.m true [(.slot 97, [.junk])] 4 (.one (.sl true 83 4 (encs c83 [(Rec.mk 5 xQ.Vol xQ.Sector 0)]))) (lO 5 (Y (bs [])) (lO 6 (I 0) (lZ ?_)))))))))
  cases h
  exact Wp.ret ⟨.inr rfl, _, _, rfl, rfl⟩
 refine wr (lO 99 (B (xQ.Kind == 5)) (lO 98 (B (xQ.Kind == 5)) (lZ (Wp.c h (fun h => ?_) (fun h => ?_)))))
 ·refine wr ?_
  refine lO 100 (.one (.ptr (.box 3) 0 [] 1)) (lO 101 (I xQ.Vol) (lO 102 (.agg [.int .i64 3, .int .i64 xQ.Vol, .int .i64 0, .int .i64 0]) (LWp.m false [] 103 (.one (.sl true 83 4 (encs c83 [(Rec.mk 3 xQ.Vol 0 0)]))) (LWp.m true [(.slot 103, [.junk])] 4 (.one (.sl true 83 4 (encs c83 [(Rec.mk 3 xQ.Vol 0 0)]))) (lO 5 (Y (bs [])) (lO 6 (I 0) (lZ ?_)))))))
  cases h
  exact Wp.ret ⟨.inr rfl, _, _, rfl, rfl⟩
 refine Wp.skip (wr (lO 104 (.one (.view (.slot 7) 0 [] 0)) (LWp.m true [(.slot 7, [.junk])] 4 (.one (.sl true 83 4 (encs c83 []))) (lO 5 (Y (bs [])) (lO 6 (I 0) (lZ ?_))))))
 cases h
 exact Wp.ret ⟨.inr rfl, _, _, rfl, rfl⟩
theorem i_in_t (xN : Int) (xLow : Int) (xHigh : Int) (r : Bool) (h : i_in xN xLow xHigh = some r) : Gives Tryz.prog 92 [.sv (I xN), .sv (I xLow), .sv (I xHigh)] (B r) (List.replicate 3 .gone) := by
 unfold i_in at h
 refine gives_of Tryz.func92 rfl ?_
 rw [Tryz.ntmps92]
 refine wr (lO 6 (B false) (lZ (wr (lO 7 (I xN) (lO 8 (I xLow) (lO 9 (B (decide (xN ≥ xLow))) (lO 10 (B (decide (xN ≥ xLow))) (LWp.sp h 10 (fun h => ?_) (fun h => ?_)))))))))
 ·refine lO 11 (I xN) ?_
  refine lO 12 (I xHigh) (lO 13 (B (decide (xN ≤ xHigh))) (lO 14 (B (decide (xN ≤ xHigh))) (lO 6 (B (decide (xN ≤ xHigh))) (lZ ?_))))
  cases h
  exact Wp.ret ⟨.inr rfl, _, _, rfl, rfl⟩
 refine lH 11 (lH 12 (lH 13 (lO 14 (B false) (lO 6 (B false) (lZ ?_)))))
 cases h
 exact Wp.ret ⟨.inr rfl, _, _, rfl, rfl⟩
def i_AskOk_H1 (xQ : Ask) (z1 : Bool) : St := mkSt [(1, (.one (.ptr (.box 1) 0 [] 0))), (15, (B z1))] [(.box 1, [.int .i64 xQ.Kind, .int .i64 xQ.Vol, .int .i64 xQ.Sector, .int .i64 xQ.Of, .str xQ.Text])]
def i_AskOk_H2 (xQ : Ask) (z2 : Int) (z3 : Int) (z4 : Int) : St := mkSt [(1, (.one (.ptr (.box 1) 0 [] 0))), (3, (I z2)), (4, (I z3)), (5, (I z4))] [(.box 1, [.int .i64 xQ.Kind, .int .i64 xQ.Vol, .int .i64 xQ.Sector, .int .i64 xQ.Of, .str xQ.Text])]
theorem i_AskOk_t (xQ : Ask) (r : Bool) (h : i_AskOk xQ = some r) : Gives Tryz.prog 72 [.sv (.agg [.int .i64 xQ.Kind, .int .i64 xQ.Vol, .int .i64 xQ.Sector, .int .i64 xQ.Of, .str xQ.Text])] (B r) (List.replicate 1 .gone) := by
 unfold i_AskOk at h
 refine gives_of Tryz.func72 rfl ?_
 rw [Tryz.ntmps72]
 refine wr (LWp.b [] 1 [.int .i64 xQ.Kind, .int .i64 xQ.Vol, .int .i64 xQ.Sector, .int .i64 xQ.Of, .str xQ.Text] (lO 2 (B false) (lZ (Wp.seq (Wp.seq (Wp.j1 h [1, 15] [.box 1] (fun a => (i_AskOk_H1 xQ a)) ?_ ?_))))))
 ·intro a h
  refine Wp.region (lO 6 (.one (.ptr (.box 1) 1 [] 0)) (lO 7 (I xQ.Kind) (LWp.cl h 8 (fun v1 => (B v1)) rfl (l := [.sv (.one (.int .i64 xQ.Kind)), .sv (.one (.int .i64 1)), .sv (.one (.int .i64 6))]) rfl (fun v hv => i_in_t xQ.Kind 1 6 v hv) (.inl rfl) ?_)))
  intro v1 gv1 h
  refine lO 9 (B (!v1)) (lO 10 (B (!v1)) (LWp.sp h 10 (fun h => ?_) (fun h => ?_)))
  ·refine lH 11 ?_
   refine lH 12 (lH 13 (lH 14 (lO 15 (B true) (lZ ?_))))
   cases h
   exact ⟨_, rfl, rfl, rfl⟩
  refine lO 11 (.one (.ptr (.box 1) 1 [] 1)) (lO 12 (I xQ.Vol) (LWp.cl h 13 (fun v2 => (B v2)) rfl (l := [.sv (.one (.int .i64 xQ.Vol)), .sv (.one (.int .i64 1)), .sv (.one (.int .i64 9))]) rfl (fun v hv => i_in_t xQ.Vol 1 9 v hv) (.inl rfl) ?_))
  intro v2 gv2 h
  refine lO 14 (B (!v2)) (lO 15 (B (!v2)) (lZ ?_))
  cases h
  exact ⟨_, rfl, rfl, rfl⟩
 intro j1 h E hE
 refine nt_wp hE ?_
 change Wp _ _ _ (i_AskOk_H1 xQ j1) _
 refine Wp.c h (fun h => ?_) (fun h => ?_)
 ·refine wr ?_
  refine lO 2 (B false) (lZ ?_)
  cases h
  exact Wp.ret ⟨.inr rfl, _, _, rfl, rfl⟩
 refine Wp.skip (wr (lO 3 (I 0) (lO 4 (I 0) (lO 5 (I 0) (lZ (Wp.seq (wr (lO 16 (.one (.ptr (.box 1) 0 [] 0)) (lO 17 (I xQ.Kind) ?_)))))))))
 refine lZ (Wp.block (wr (lO 19 (B (xQ.Kind == 1)) (lO 18 (B (xQ.Kind == 1)) (lZ (Wp.j1 h [1, 3, 4, 5] [.box 1] (fun a => (i_AskOk_H2 xQ a.1 a.2.1 a.2.2)) ?_ ?_))))))
 ·intro a h
  refine Wp.c h (fun h => ?_) (fun h => ?_)
  ·refine Wp.region ?_
   refine lO 3 (I 15) (lO 5 (I 64) (lZ ?_))
   cases h
   exact ⟨_, rfl, rfl, rfl⟩
  refine Wp.seq (wr (lO 21 (B (xQ.Kind == 2)) (lO 20 (B (xQ.Kind == 2)) (lZ (Wp.c h (fun h => ?_) (fun h => ?_))))))
  ·refine Wp.skip ?_
   refine Wp.c h (fun h => ?_) (fun h => ?_)
   ·refine Wp.region ?_
    refine lO 3 (I 15) (lZ ?_)
    cases h
    exact ⟨_, rfl, rfl, rfl⟩
   refine wr (lO 24 (B (xQ.Kind == 4)) (lO 23 (B (xQ.Kind == 4)) (lZ (Wp.c h (fun h => ?_) (fun h => ?_)))))
   ·refine Wp.region ?_
    refine lO 4 (I 9) (lZ ?_)
    cases h
    exact ⟨_, rfl, rfl, rfl⟩
   refine Wp.skip ?_
   cases h
   exact ⟨_, rfl, rfl, rfl⟩
  refine Wp.region (lO 22 (B (xQ.Kind == 6)) (lO 20 (B (xQ.Kind == 6)) (lZ (Wp.c h (fun h => ?_) (fun h => ?_)))))
  ·refine Wp.region ?_
   refine lO 3 (I 15) (lZ ?_)
   cases h
   exact ⟨_, rfl, rfl, rfl⟩
  refine wr (lO 24 (B (xQ.Kind == 4)) (lO 23 (B (xQ.Kind == 4)) (lZ (Wp.c h (fun h => ?_) (fun h => ?_)))))
  ·refine Wp.region ?_
   refine lO 4 (I 9) (lZ ?_)
   cases h
   exact ⟨_, rfl, rfl, rfl⟩
  refine Wp.skip ?_
  cases h
  exact ⟨_, rfl, rfl, rfl⟩
 intro j2 h E hE
 refine nt_wp hE ?_
 change Wp _ _ _ (i_AskOk_H2 xQ j2.1 j2.2.1 j2.2.2) _
 refine wr (lO 25 (.one (.ptr (.box 1) 0 [] 2)) (lO 26 (I xQ.Sector) (lO 27 (I j2.1) (LWp.cl h 28 (fun v3 => (B v3)) rfl (l := [.sv (.one (.int .i64 xQ.Sector)), .sv (.one (.int .i64 0)), .sv (.one (.int .i64 j2.1))]) rfl (fun v hv => i_in_t xQ.Sector 0 j2.1 v hv) (.inl rfl) ?_))))
 intro v3 gv3 h
 refine lO 29 (B v3) (LWp.sp h 29 (fun h => ?_) (fun h => ?_))
 ·refine lO 30 (.one (.ptr (.box 1) 0 [] 3)) ?_
  refine lO 31 (I xQ.Of) (lO 32 (I j2.2.1) (lO 33 (I (if 1 < j2.2.1 then 1 else j2.2.1)) (lO 34 (I j2.2.1) (LWp.cl h 35 (fun v4 => (B v4)) rfl (l := [.sv (.one (.int .i64 xQ.Of)), .sv (.one (.int .i64 (if 1 < j2.2.1 then 1 else j2.2.1))), .sv (.one (.int .i64 j2.2.1))]) rfl (fun v hv => i_in_t xQ.Of (if 1 < j2.2.1 then 1 else j2.2.1) j2.2.1 v hv) (.inl rfl) ?_))))
  intro v4 gv4 h
  refine lO 36 (B v4) (lO 37 (B v4) (LWp.sp h 37 (fun h => ?_) (fun h => ?_)))
  ·refine lO 38 (.one (.ptr (.box 1) 0 [] 4)) ?_
   refine lO 39 (Y xQ.Text) (lO 40 (I (sln xQ.Text)) (lO 41 (I j2.2.2) (lO 42 (B (decide ((sln xQ.Text) ≤ j2.2.2))) (lO 43 (B (decide ((sln xQ.Text) ≤ j2.2.2))) (lO 2 (B (decide ((sln xQ.Text) ≤ j2.2.2))) (lZ ?_))))))
   cases h
   exact Wp.ret ⟨.inr rfl, _, _, rfl, rfl⟩
  refine lH 38 (lH 39 (lH 40 (lH 41 (lH 42 (lO 43 (B false) (lO 2 (B false) (lZ ?_)))))))
  cases h
  exact Wp.ret ⟨.inr rfl, _, _, rfl, rfl⟩
 refine lH 30 (lH 31 (lH 32 (lH 33 (lH 34 (lH 35 (lO 36 (B false) (lO 37 (B false) (lH 38 (lH 39 ?_)))))))))
 refine lH 40 (lH 41 (lH 42 (lO 43 (B false) (lO 2 (B false) (lZ ?_)))))
 cases h
 exact Wp.ret ⟨.inr rfl, _, _, rfl, rfl⟩
def i_volAt_H1 (xS : Store) (xId : Int) (z1 : Int) : St := mkSt [(1, (I xId)), (8, (.one (.sl false 110 2 (encs c110 xS.Vols)))), (9, (I (ln xS.Vols))), (10, (I z1))] []
def i_volAt_H2  : St := mkSt [] []
theorem i_volAt_t (xS : Store) (xId : Int) (r : Int) (h : i_volAt xS xId = some r) : Gives Tryz.prog 105 [.sv (.agg [.sl false 110 2 (encs c110 xS.Vols), .sl false 218 2 (encs (c218 false) xS.Arena.Knots), .int .i64 xS.Next]), .sv (I xId)] (I r) (List.replicate 2 .gone) := by
 unfold i_volAt at h
 refine gives_of Tryz.func105 rfl ?_
 rw [Tryz.ntmps105]
 refine wr (LWp.b [] 2 [.sl false 110 2 (encs c110 xS.Vols), .sl false 218 2 (encs (c218 false) xS.Arena.Knots), .int .i64 xS.Next] (lO 4 (I 0) (lZ (Wp.seq (wr (lO 7 (.one (.ptr (.box 2) 1 [] 0)) (lO 8 (.one (.sl false 110 2 (encs c110 xS.Vols))) (lO 9 (I (ln xS.Vols)) (lO 10 (I 0) ?_) (st_pure (p_ln k110 xS.Vols))))))))))
 refine lZ (Wp.l2 h [1, 8, 9, 10] [] (fun s => (i_volAt_H1 xS xId s)) [] [] (fun _ => i_volAt_H2) ⟨rfl, rfl⟩ ?_ ?_)
 ·rintro y1 o (h : i_volAt_b1 xS xId y1 = some o) hk1
  unfold i_volAt_b1 at h
  change Wp _ _ _ (i_volAt_H1 xS xId y1) _
  refine wr (lO 11 (B (decide (y1 < (ln xS.Vols)))) (lZ (Wp.seq (Wp.c h (fun h => ?_) (fun h => ?_)))))
  ·refine Wp.skip ?_
   refine Wp.seq (Wp.block (wr (lO 12 (I y1) (LWp.p h 13 (fun _ => (.one (.ptr (.slot 8) 0 [0] (Int.toNat y1 * 2 + 0)))) ?_ (fun x1 gx1 => st_pure (p_ix k110 (.slot 8) [] 0 gx1))))))
   intro x1 gx1 h
   refine lO 14 (.agg [.int .i64 x1.Id, .int .i64 x1.Root]) (LWp.b [] 6 [.int .i64 0, .int .i64 0] (lO 5 (I y1) (LWp.s [] (.box 6) [.int .i64 x1.Id, .int .i64 x1.Root] (lZ (wr (lO 15 (.one (.ptr (.box 6) 1 [] 0)) (lO 16 (I x1.Id) (lO 17 (I xId) (lO 18 (B (x1.Id == xId)) ?_))))))))) (st_pure (p_le k110 (.slot 8) [0] gx1))
   refine lZ (Wp.c h (fun h => ?_) (fun h => ?_))
   ·refine wr ?_
    refine lO 19 (I y1) (lO 4 (I y1) (lZ ?_))
    cases h
    replace h : some _ = some _ := hk1 _ rfl
    cases h
    exact Wp.ret ⟨.inr rfl, _, _, rfl, rfl⟩
   refine Wp.skip (Wp.region (lO 20 (I (ad y1 1)) (lO 10 (I (ad y1 1)) (lZ ?_))))
   cases h
   exact ⟨_, rfl, rfl, rfl⟩
  refine Wp.exit ?_
  cases h
  exact ⟨_, rfl, rfl, rfl⟩
 intro v1 h E hE
 refine nt_wp hE ?_
 change Wp _ _ _ i_volAt_H2 _
 refine wr (lO 4 (I (-1)) (lZ ?_))
 cases h
 exact Wp.ret ⟨.inr rfl, _, _, rfl, rfl⟩
end Go.TI
