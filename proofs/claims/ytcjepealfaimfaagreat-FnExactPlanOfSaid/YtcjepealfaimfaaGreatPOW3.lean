/- That they compute it. No condition. -/
import Derived.Test.YtcjepealfaimfaaGreatPOW2
namespace Go.TI
set_option maxRecDepth 100000
open Go Go.Proofs
set_option linter.unusedVariables false
set_option linter.unusedSimpArgs false
def i_PackText_H1 (xS : ByteArray) (v1 : List Token) (z1 : List Int) (z2 : Int) : St := mkSt [(0, (Y xS)), (4, (.one (.sl true 5 1 (encs c5 z1)))), (12, (.one (.sl true 171 3 (encs c171 v1)))), (13, (I (ln v1))), (14, (I z2))] []
def i_PackText_H2 (xS : ByteArray) (z3 : List Int) : St := mkSt [(0, (Y xS)), (4, (.one (.sl true 5 1 (encs c5 z3))))] []
def i_PackText_H3 (xS : ByteArray) (v1 : List Token) (y1 : Int) (z4 : List Int) : St := mkSt [(0, (Y xS)), (4, (.one (.sl true 5 1 (encs c5 z4)))), (12, (.one (.sl true 171 3 (encs c171 v1)))), (13, (I (ln v1))), (14, (I y1))] []
theorem i_PackText_t (xS : ByteArray) (r : ByteArray × Bool) (h : i_PackText xS = some r) : Gives Tryz.prog 76 [.sv (Y xS)] (.tup [(Y r.1), (B r.2)]) (List.replicate 1 .gone) := by
 unfold i_PackText at h
 refine gives_of Tryz.func76 rfl ?_
 rw [Tryz.ntmps76]
 refine wr (lO 2 (Y (bs [])) (lO 3 (B false) (lZ (Wp.seq (wr (lO 7 (Y xS) (lO 8 (I (sln xS)) (lO 9 (B (decide ((sln xS) > 64))) (lZ ?_)))))))))
 refine Wp.c h (fun h => ?_) (fun h => ?_)
 ·refine wr ?_
  refine lO 2 (Y (bs [])) (lO 3 (B false) (lZ ?_))
  cases h
  exact Wp.ret ⟨.inr rfl, _, _, rfl, rfl⟩
 refine Wp.skip (wr (LWp.m false [] 10 (.one (.sl true 5 1 (encs c5 [122]))) (LWp.m true [(.slot 10, [.junk])] 4 (.one (.sl true 5 1 (encs c5 [122]))) (lZ (Wp.seq (wr (lO 11 (Y xS) (LWp.cl h 12 (fun v1 => (.one (.sl true 171 3 (encs c171 v1)))) rfl (l := [.sv (.one (.str xS))]) rfl (fun v hv => i_TokensOf_t xS v hv) (.inl rfl) ?_))))))))
 intro v1 gv1 h
 refine lO 13 (I (ln v1)) (lO 14 (I 0) (lZ (Wp.l1 h [0, 4, 12, 13, 14] [] (fun s => (i_PackText_H1 xS v1 s.1 s.2)) [0, 4] [] (fun s => (i_PackText_H2 xS s)) ⟨rfl, rfl⟩ ?_ ?_))) (st_pure (p_ln k171 v1))
 ·rintro ⟨yOut1, y1⟩ o (h : i_PackText_b1 v1 yOut1 y1 = some o)
  unfold i_PackText_b1 at h
  change Wp _ _ _ (i_PackText_H1 xS v1 yOut1 y1) _
  refine wr (lO 15 (B (decide (y1 < (ln v1)))) (lZ (Wp.seq (Wp.c h (fun h => ?_) (fun h => ?_)))))
  ·refine Wp.skip ?_
   refine Wp.seq (Wp.block (wr (LWp.p h 16 (fun _ => (.one (.ptr (.slot 12) 0 [0] (Int.toNat y1 * 3 + 0)))) ?_ (fun x1 gx1 => st_pure (p_ix k171 (.slot 12) [] 0 gx1)))))
   intro x1 gx1 h
   refine lO 17 (.agg [.int .i64 x1.Back, .int .i64 x1.Size, .str x1.Text]) (LWp.b [] 6 [.int .i64 0, .int .i64 0, .str (bs [])] (LWp.s [] (.box 6) [.int .i64 x1.Back, .int .i64 x1.Size, .str x1.Text] (lZ (wr (lO 18 (.one (.ptr (.box 6) 1 [] 0)) (lO 19 (I x1.Back) (lO 20 (B (decide (x1.Back > 0))) (lZ (Wp.j1 h [0, 4, 12, 13, 14] [] (fun a => (i_PackText_H3 xS v1 y1 a)) ?_ ?_))))))))) (st_pure (p_le k171 (.slot 12) [0] gx1))
   ·intro a h
    refine Wp.c h (fun h => ?_) (fun h => ?_)
    ·refine Wp.region ?_
     refine lO 21 (.one (.view (.slot 4) 0 [] 0)) (lO 22 (.one (.ptr (.box 6) 1 [] 1)) (lO 23 (I x1.Size) (lO 24 (I (ad 128 x1.Size)) (lO 25 (.one (.int .u8 (IntKind.u8.wrap (ad 128 x1.Size)))) (lO 26 (.one (.ptr (.box 6) 1 [] 0)) (lO 27 (I x1.Back) (lO 28 (.one (.int .u8 (IntKind.u8.wrap x1.Back))) (LWp.m false [] 29 (.one (.sl true 5 1 (encs c5 [(IntKind.u8.wrap (ad 128 x1.Size)), (IntKind.u8.wrap x1.Back)]))) (LWp.pm h [(.slot 4, [.junk])] 30 (fun q1 => (.one (.sl true 5 1 (encs c5 q1)))) ?_ (fun q1 gq1 => s_apl k5 (fun _ => rfl) [(.slot 4, [.junk])] yOut1 gq1))))))))))
     intro q1 gq1 h
     refine LWp.m true [(.slot 30, [.junk])] 4 (.one (.sl true 5 1 (encs c5 q1))) (lZ ?_)
     cases h
     exact ⟨_, rfl, rfl, rfl⟩
    refine Wp.regionK 11 [6, 9] mixed (fun c E h => by rcases h with ⟨h | h, _⟩ <;> cases h) (KWp.o 11 0 31 (.one (.view (.slot 4) 0 [] 0)) (KWp.o 11 1 32 (.one (.ptr (.box 6) 1 [] 2)) (KWp.o 11 2 33 (Y x1.Text) (KWp.o 11 3 34 (I (sln x1.Text)) (KWp.o 11 4 35 (.one (.int .u8 (IntKind.u8.wrap (sln x1.Text)))) (KWp.w2 5 7 ?_ ?_))))))
    ·refine KOp.m 5 false [] 36 (.one (.sl true 5 1 (encs c5 [(IntKind.u8.wrap (sln x1.Text))]))) ?_
     refine KWp.w2 6 7 ?_ ?_
     ·refine KOp.pm h 6 [(.slot 4, [.junk])] 37 (fun q2 => (.one (.sl true 5 1 (encs c5 q2)))) ?_ rfl (fun q2 gq2 => s_apl k5 (fun _ => rfl) [(.slot 4, [.junk])] yOut1 gq2)
      intro q2 gq2 h
      refine KWp.w1 7 (KOp.o 7 38 (.one (.ptr (.box 6) 1 [] 2)) (KWp.w1 8 (KOp.o 8 39 (Y x1.Text) (KWp.w1 9 (KOp.pm h 9 [(.slot 37, [.junk])] 40 (fun q3 => (.one (.sl true 5 1 (encs c5 q3)))) ?_ rfl (fun q3 gq3 => s_aps (fun _ => rfl) [(.slot 37, [.junk])] q2 gq3))))))
      intro q3 gq3 h
      refine KWp.w1 10 (KOp.m 10 true [(.slot 40, [.junk])] 4 (.one (.sl true 5 1 (encs c5 q3))) (KWp.done ?_))
      cases h
      exact ⟨_, rfl, rfl, rfl⟩
     refine KOp.o 7 38 (.one (.ptr (.box 6) 1 [] 2)) (KWp.w2 6 8 ?_ ?_)
     ·refine KOp.pm h 6 [(.slot 4, [.junk])] 37 (fun q4 => (.one (.sl true 5 1 (encs c5 q4)))) ?_ rfl (fun q4 gq4 => s_apl k5 (fun _ => rfl) [(.slot 4, [.junk])] yOut1 gq4)
      intro q4 gq4 h
      refine KWp.w1 8 (KOp.o 8 39 (Y x1.Text) (KWp.w1 9 (KOp.pm h 9 [(.slot 37, [.junk])] 40 (fun q5 => (.one (.sl true 5 1 (encs c5 q5)))) ?_ rfl (fun q5 gq5 => s_aps (fun _ => rfl) [(.slot 37, [.junk])] q4 gq5))))
      intro q5 gq5 h
      refine KWp.w1 10 (KOp.m 10 true [(.slot 40, [.junk])] 4 (.one (.sl true 5 1 (encs c5 q5))) (KWp.done ?_))
      cases h
      exact ⟨_, rfl, rfl, rfl⟩
     refine KOp.o 8 39 (Y x1.Text) (KWp.w1 6 (KOp.pm h 6 [(.slot 4, [.junk])] 37 (fun q6 => (.one (.sl true 5 1 (encs c5 q6)))) ?_ rfl (fun q6 gq6 => s_apl k5 (fun _ => rfl) [(.slot 4, [.junk])] yOut1 gq6)))
     intro q6 gq6 h
     refine KWp.w1 9 (KOp.pm h 9 [(.slot 37, [.junk])] 40 (fun q7 => (.one (.sl true 5 1 (encs c5 q7)))) ?_ rfl (fun q7 gq7 => s_aps (fun _ => rfl) [(.slot 37, [.junk])] q6 gq7))
     intro q7 gq7 h
     refine KWp.w1 10 (KOp.m 10 true [(.slot 40, [.junk])] 4 (.one (.sl true 5 1 (encs c5 q7))) (KWp.done ?_))
     cases h
     exact ⟨_, rfl, rfl, rfl⟩
    refine KOp.o 7 38 (.one (.ptr (.box 6) 1 [] 2)) (KWp.w2 5 8 ?_ ?_)
    ·refine KOp.m 5 false [] 36 (.one (.sl true 5 1 (encs c5 [(IntKind.u8.wrap (sln x1.Text))]))) ?_
     refine KWp.w2 6 8 ?_ ?_
     ·refine KOp.pm h 6 [(.slot 4, [.junk])] 37 (fun q8 => (.one (.sl true 5 1 (encs c5 q8)))) ?_ rfl (fun q8 gq8 => s_apl k5 (fun _ => rfl) [(.slot 4, [.junk])] yOut1 gq8)
      intro q8 gq8 h
      refine KWp.w1 8 (KOp.o 8 39 (Y x1.Text) (KWp.w1 9 (KOp.pm h 9 [(.slot 37, [.junk])] 40 (fun q9 => (.one (.sl true 5 1 (encs c5 q9)))) ?_ rfl (fun q9 gq9 => s_aps (fun _ => rfl) [(.slot 37, [.junk])] q8 gq9))))
      intro q9 gq9 h
      refine KWp.w1 10 (KOp.m 10 true [(.slot 40, [.junk])] 4 (.one (.sl true 5 1 (encs c5 q9))) (KWp.done ?_))
      cases h
      exact ⟨_, rfl, rfl, rfl⟩
     refine KOp.o 8 39 (Y x1.Text) (KWp.w1 6 (KOp.pm h 6 [(.slot 4, [.junk])] 37 (fun q10 => (.one (.sl true 5 1 (encs c5 q10)))) ?_ rfl (fun q10 gq10 => s_apl k5 (fun _ => rfl) [(.slot 4, [.junk])] yOut1 gq10)))
     intro q10 gq10 h
     refine KWp.w1 9 (KOp.pm h 9 [(.slot 37, [.junk])] 40 (fun q11 => (.one (.sl true 5 1 (encs c5 q11)))) ?_ rfl (fun q11 gq11 => s_aps (fun _ => rfl) [(.slot 37, [.junk])] q10 gq11))
     intro q11 gq11 h
     refine KWp.w1 10 (KOp.m 10 true [(.slot 40, [.junk])] 4 (.one (.sl true 5 1 (encs c5 q11))) (KWp.done ?_))
     cases h
     exact ⟨_, rfl, rfl, rfl⟩
    refine KOp.o 8 39 (Y x1.Text) (KWp.w1 5 (KOp.m 5 false [] 36 (.one (.sl true 5 1 (encs c5 [(IntKind.u8.wrap (sln x1.Text))]))) (KWp.w1 6 (KOp.pm h 6 [(.slot 4, [.junk])] 37 (fun q12 => (.one (.sl true 5 1 (encs c5 q12)))) ?_ rfl (fun q12 gq12 => s_apl k5 (fun _ => rfl) [(.slot 4, [.junk])] yOut1 gq12)))))
    intro q12 gq12 h
    refine KWp.w1 9 (KOp.pm h 9 [(.slot 37, [.junk])] 40 (fun q13 => (.one (.sl true 5 1 (encs c5 q13)))) ?_ rfl (fun q13 gq13 => s_aps (fun _ => rfl) [(.slot 37, [.junk])] q12 gq13))
    intro q13 gq13 h
    refine KWp.w1 10 (KOp.m 10 true [(.slot 40, [.junk])] 4 (.one (.sl true 5 1 (encs c5 q13))) (KWp.done ?_))
    cases h
    exact ⟨_, rfl, rfl, rfl⟩
   intro j1 h E hE
   refine nt_wp hE ?_
   change Wp _ _ _ (i_PackText_H3 xS v1 y1 j1) _
   refine Wp.region (lO 41 (I (ad y1 1)) (lO 14 (I (ad y1 1)) (lZ ?_)))
   cases h
   exact ⟨_, rfl, rfl, rfl⟩
  refine Wp.exit ?_
  cases h
  exact ⟨_, rfl, rfl, rfl⟩
 intro v2 h E hE
 refine nt_wp hE ?_
 change Wp _ _ _ (i_PackText_H2 xS v2) _
 refine Wp.seq (wr (lO 42 (Y xS) (lO 43 (I (sln xS)) (lO 44 (I (ad (sln xS) 1)) (lO 45 (.one (.view (.slot 4) 0 [] 0)) (lO 46 (I (ln v2)) (lO 47 (B (decide ((ad (sln xS) 1) ≤ (ln v2)))) (lZ (Wp.c h (fun h => ?_) (fun h => ?_)))) (st_pure (p_ln k5 v2))))))))
 ·refine wr ?_
  refine lO 48 (Y xS) (LWp.p h 49 (fun x2 => (Y x2)) ?_ (fun x2 gx2 => st_pure (p_cat gx2)))
  intro x2 gx2 h
  refine lO 2 (Y x2) (lO 3 (B true) (lZ ?_))
  cases h
  exact Wp.ret ⟨.inr rfl, _, _, rfl, rfl⟩
 refine Wp.skip (wr (lO 50 (.one (.view (.slot 4) 0 [] 0)) (lO 51 (Y (strB v2)) (lO 2 (Y (strB v2)) (lO 3 (B true) (lZ ?_))) (st_pure (p_cv (fun _ => rfl) v2)))))
 cases h
 exact Wp.ret ⟨.inr rfl, _, _, rfl, rfl⟩
def i_UnpackText_H1 (xT : ByteArray) (z1 : ByteArray) : St := mkSt [(0, (Y xT)), (4, (Y z1))] []
def i_UnpackText_H2 (j1 : ByteArray) (z2 : Bool) : St := mkSt [(4, (Y j1)), (46, (B z2))] []
theorem i_UnpackText_t (xT : ByteArray) (r : ByteArray × Bool) (h : i_UnpackText xT = some r) : Gives Tryz.prog 157 [.sv (Y xT)] (.tup [(Y r.1), (B r.2)]) (List.replicate 1 .gone) := by
 unfold i_UnpackText at h
 refine gives_of Tryz.func157 rfl ?_
 rw [Tryz.ntmps157]
 refine wr (lO 2 (Y (bs [])) (lO 3 (B false) (lZ (Wp.seq (wr (lO 11 (Y xT) (lO 12 (B (seq xT (bs []))) (lZ (Wp.c h (fun h => ?_) (fun h => ?_))))))))))
 ·refine wr ?_
  refine lO 2 (Y (bs [])) (lO 3 (B false) (lZ ?_))
  cases h
  exact Wp.ret ⟨.inr rfl, _, _, rfl, rfl⟩
 refine Wp.skip (wr (lO 13 (Y xT) (LWp.p h 14 (fun x1 => (Y x1)) ?_ (fun x1 gx1 => st_pure (p_sub gx1)))))
 intro x1 gx1 h
 refine lO 4 (Y x1) (lZ (Wp.seq (wr (lO 15 (Y xT) (LWp.p h 16 (fun x2 => (.one (.int .u8 x2))) ?_ (fun x2 gx2 => st_pure (p_sx gx2)))))))
 intro x2 gx2 h
 refine lO 17 (B (x2 != 114)) (lZ (Wp.j2 h [0, 4] [] (fun a => (i_UnpackText_H1 xT a)) ?_ ?_))
 ·intro a h hk1
  refine Wp.c h (fun h => ?_) (fun h => ?_)
  ·refine wr ?_
   refine lO 19 (Y x1) (LWp.cl h 20 (fun v1 => (.tup [(.one (.sl true 171 3 (encs c171 v1.1))), (B v1.2)])) rfl (l := [.sv (.one (.str x1))]) rfl (fun v hv => i_tokensIn_t x1 v hv) (.inl rfl) ?_)
   intro v1 gv1 h
   refine LWp.mt 20 18 (.tup [(.one (.sl true 171 3 (encs c171 v1.1))), (B v1.2)]) (LWp.e 18 0 21 (.one (.sl true 171 3 (encs c171 v1.1))) (LWp.e 18 1 22 (B v1.2) (LWp.m true [(.slot 21, [.junk])] 5 (.one (.sl true 171 3 (encs c171 v1.1))) (lO 6 (B v1.2) (lZ (wr (lO 24 (.one (.view (.slot 5) 1 [] 0)) (LWp.cl h 25 (fun v2 => (.tup [(Y v2.1), (B v2.2)])) rfl (l := [.sv (.one (.sl false 171 3 (shares (encs c171 v1.1))))]) rfl (fun v hv => cg (l := [.sv (.one (.sl false 171 3 (shares (encs c171 v1.1))))]) (by simp only [sh171]) (i_PlainOf_t v1.1 v hv)) (.inr (fun v => rfl)) ?_))))))))
   intro v2 gv2 h
   refine LWp.mt 25 23 (.tup [(Y v2.1), (B v2.2)]) (LWp.e 23 0 26 (Y v2.1) (LWp.e 23 1 27 (B v2.2) (lO 7 (Y v2.1) (lO 8 (B v2.2) (lZ (Wp.seq (wr (lO 28 (B v1.2) (lO 29 (B (!v1.2)) ?_)))))))))
   refine lO 30 (B (!v1.2)) (LWp.sp h 30 (fun h => ?_) (fun h => ?_))
   ·refine lH 31 ?_
    refine lH 32 (lO 33 (B true) (lZ (Wp.ct (wr (lO 2 (Y (bs [])) (lO 3 (B false) (lZ ?_)))))))
    cases h
    replace h : some _ = some _ := hk1
    cases h
    exact Wp.ret ⟨.inr rfl, _, _, rfl, rfl⟩
   refine lO 31 (B v2.2) (lO 32 (B (!v2.2)) (lO 33 (B (!v2.2)) (lZ (Wp.c h (fun h => ?_) (fun h => ?_)))))
   ·refine wr ?_
    refine lO 2 (Y (bs [])) (lO 3 (B false) (lZ ?_))
    cases h
    replace h : some _ = some _ := hk1
    cases h
    exact Wp.ret ⟨.inr rfl, _, _, rfl, rfl⟩
   refine Wp.skip (Wp.region (lO 34 (Y v2.1) (lO 4 (Y v2.1) (lZ ?_))))
   cases h
   exact ⟨_, rfl, rfl, rfl⟩
  refine Wp.skip ?_
  cases h
  exact ⟨_, rfl, rfl, rfl⟩
 intro j1 h E hE
 refine nt_wp hE ?_
 change Wp _ _ _ (i_UnpackText_H1 xT j1) _
 refine wr (lO 36 (Y j1) (LWp.cl h 37 (fun v3 => (.tup [(Y v3.1), (B v3.2)])) rfl (l := [.sv (.one (.str j1))]) rfl (fun v hv => i_PackText_t j1 v hv) (.inl rfl) ?_))
 intro v3 gv3 h
 refine LWp.mt 37 35 (.tup [(Y v3.1), (B v3.2)]) (LWp.e 35 0 38 (Y v3.1) (LWp.e 35 1 39 (B v3.2) (lO 9 (Y v3.1) (lO 10 (B v3.2) (lZ (Wp.seq (Wp.seq (Wp.j1 h [4, 46] [] (fun a => (i_UnpackText_H2 j1 a)) ?_ ?_))))))))
 ·intro a h
  refine Wp.region (lO 40 (B v3.2) (lO 41 (B (!v3.2)) (lO 42 (B (!v3.2)) (LWp.sp h 42 (fun h => ?_) (fun h => ?_)))))
  ·refine lH 43 ?_
   refine lH 44 (lH 45 (lO 46 (B true) (lZ ?_)))
   cases h
   exact ⟨_, rfl, rfl, rfl⟩
  refine lO 43 (Y v3.1) (lO 44 (Y xT) (lO 45 (B (!(seq v3.1 xT))) (lO 46 (B (!(seq v3.1 xT))) (lZ ?_))))
  cases h
  exact ⟨_, rfl, rfl, rfl⟩
 intro j2 h E hE
 refine nt_wp hE ?_
 change Wp _ _ _ (i_UnpackText_H2 j1 j2) _
 refine Wp.c h (fun h => ?_) (fun h => ?_)
 ·refine wr ?_
  refine lO 2 (Y (bs [])) (lO 3 (B false) (lZ ?_))
  cases h
  exact Wp.ret ⟨.inr rfl, _, _, rfl, rfl⟩
 refine Wp.skip (wr (lO 47 (Y j1) (lO 2 (Y j1) (lO 3 (B true) (lZ ?_)))))
 cases h
 exact Wp.ret ⟨.inr rfl, _, _, rfl, rfl⟩
theorem i_ChunkText_t (xF : Flash) (xChunk : Int) (r : ByteArray × Bool) (h : i_ChunkText xF xChunk = some r) : Gives Tryz.prog 107 [.sv (.agg [.sl false 124 3 (encs (c124 false) xF.Blocks)]), .sv (I xChunk)] (.tup [(Y r.1), (B r.2)]) (List.replicate 2 .gone) := by
 unfold i_ChunkText at h
 refine gives_of Tryz.func107 rfl ?_
 rw [Tryz.ntmps107]
 refine wr (LWp.b [] 2 [.sl false 124 3 (encs (c124 false) xF.Blocks)] (lO 4 (Y (bs [])) (lO 5 (B false) (lZ (wr (lO 9 (.agg [.sl false 124 3 (encs (c124 false) xF.Blocks)]) (lO 10 (I xChunk) (LWp.cl h 11 (fun v1 => (.tup [(.agg [.int .i64 v1.1.Block, .int .i64 v1.1.Leaf, .int .i64 v1.1.Page.Kind, .int .i64 v1.1.Page.Seq, .int .i64 v1.1.Page.Tx, .int .i64 v1.1.Page.Part, .int .i64 v1.1.Page.Count, .str v1.1.Page.Text]), (B v1.2)])) rfl (l := [.sv (.agg [.sl false 124 3 (encs (c124 false) xF.Blocks)]), .sv (.one (.int .i64 xChunk))]) rfl (fun v hv => i_dataOf_t xF xChunk v hv) (.inl rfl) ?_))))))))
 intro v1 gv1 h
 refine LWp.mt 11 8 (.tup [(.agg [.int .i64 v1.1.Block, .int .i64 v1.1.Leaf, .int .i64 v1.1.Page.Kind, .int .i64 v1.1.Page.Seq, .int .i64 v1.1.Page.Tx, .int .i64 v1.1.Page.Part, .int .i64 v1.1.Page.Count, .str v1.1.Page.Text]), (B v1.2)]) (LWp.e 8 0 12 (.agg [.int .i64 v1.1.Block, .int .i64 v1.1.Leaf, .int .i64 v1.1.Page.Kind, .int .i64 v1.1.Page.Seq, .int .i64 v1.1.Page.Tx, .int .i64 v1.1.Page.Part, .int .i64 v1.1.Page.Count, .str v1.1.Page.Text]) (LWp.e 8 1 13 (B v1.2) (LWp.b [] 6 [.int .i64 0, .int .i64 0, .int .i64 0, .int .i64 0, .int .i64 0, .int .i64 0, .int .i64 0, .str (bs [])] (LWp.s [] (.box 6) [.int .i64 v1.1.Block, .int .i64 v1.1.Leaf, .int .i64 v1.1.Page.Kind, .int .i64 v1.1.Page.Seq, .int .i64 v1.1.Page.Tx, .int .i64 v1.1.Page.Part, .int .i64 v1.1.Page.Count, .str v1.1.Page.Text] (lO 7 (B v1.2) (lZ (Wp.seq (wr (lO 14 (B v1.2) ?_)))))))))
 refine lO 15 (B (!v1.2)) (lZ (Wp.c h (fun h => ?_) (fun h => ?_)))
 ·refine wr ?_
  refine lO 4 (Y (bs [])) (lO 5 (B false) (lZ ?_))
  cases h
  exact Wp.ret ⟨.inr rfl, _, _, rfl, rfl⟩
 refine Wp.skip (wr (lO 16 (.one (.ptr (.box 6) 1 [] 2)) (lO 17 (.one (.ptr (.box 6) 1 [] 7)) (lO 18 (Y v1.1.Page.Text) (LWp.cl h 19 (fun v2 => (.tup [(Y v2.1), (B v2.2)])) rfl (l := [.sv (.one (.str v1.1.Page.Text))]) rfl (fun v hv => i_UnpackText_t v1.1.Page.Text v hv) (.inl rfl) ?_)))))
 intro v2 gv2 h
 refine LWp.e 19 0 20 (Y v2.1) (LWp.e 19 1 21 (B v2.2) (lO 4 (Y v2.1) (lO 5 (B v2.2) (lZ ?_))))
 cases h
 exact Wp.ret ⟨.inr rfl, _, _, rfl, rfl⟩
def i_FindSame_H1 (xF : Flash) (xLive : List Int) (xText : ByteArray) (z1 : Int) : St := mkSt [(2, (Y xText)), (3, (.one (.ptr (.box 3) 0 [] 0))), (11, (.one (.sl false 3 1 (encs c3 xLive)))), (12, (I (ln xLive))), (13, (I z1))] [(.box 3, [.sl false 124 3 (encs (c124 false) xF.Blocks)])]
def i_FindSame_H2  : St := mkSt [] []
theorem i_FindSame_t (xF : Flash) (xLive : List Int) (xText : ByteArray) (r : Int) (h : i_FindSame xF xLive xText = some r) : Gives Tryz.prog 74 [.sv (.agg [.sl false 124 3 (encs (c124 false) xF.Blocks)]), .sv (.one (.sl false 3 1 (encs c3 xLive))), .sv (Y xText)] (I r) (List.replicate 3 .gone) := by
 unfold i_FindSame at h
 refine gives_of Tryz.func74 rfl ?_
 rw [Tryz.ntmps74]
 refine wr (LWp.b [] 3 [.sl false 124 3 (encs (c124 false) xF.Blocks)] (lO 6 (I 0) (lZ (Wp.seq (wr (lO 11 (.one (.sl false 3 1 (encs c3 xLive))) (lO 12 (I (ln xLive)) (lO 13 (I 0) (lZ ?_)) (st_pure (p_ln k3 xLive)))))))))
 refine Wp.l2 h [2, 3, 11, 12, 13] [.box 3] (fun s => (i_FindSame_H1 xF xLive xText s)) [] [] (fun _ => i_FindSame_H2) ⟨rfl, rfl⟩ ?_ ?_
 ·rintro y1 o (h : i_FindSame_b1 xF xLive xText y1 = some o) hk1
  unfold i_FindSame_b1 at h
  change Wp _ _ _ (i_FindSame_H1 xF xLive xText y1) _
  refine wr (lO 14 (B (decide (y1 < (ln xLive)))) (lZ (Wp.seq (Wp.c h (fun h => ?_) (fun h => ?_)))))
  ·refine Wp.skip ?_
   refine Wp.seq (Wp.block (wr (LWp.p h 15 (fun _ => (.one (.ptr (.slot 11) 0 [0] (Int.toNat y1 * 1 + 0)))) ?_ (fun x1 gx1 => st_pure (p_ix k3 (.slot 11) [] 0 gx1)))))
   intro x1 gx1 h
   refine lO 16 (I x1) (lO 8 (I x1) (lZ (wr (lO 18 (.agg [.sl false 124 3 (encs (c124 false) xF.Blocks)]) (lO 19 (I x1) (LWp.cl h 20 (fun v1 => (.tup [(Y v1.1), (B v1.2)])) rfl (l := [.sv (.agg [.sl false 124 3 (encs (c124 false) xF.Blocks)]), .sv (.one (.int .i64 x1))]) rfl (fun v hv => i_ChunkText_t xF x1 v hv) (.inl rfl) ?_)))))) (st_pure (p_lc k3 (.slot 11) [0] 0 (.int .i64 x1) gx1))
   intro v1 gv1 h
   refine LWp.mt 20 17 (.tup [(Y v1.1), (B v1.2)]) (LWp.e 17 0 21 (Y v1.1) (LWp.e 17 1 22 (B v1.2) (lO 9 (Y v1.1) (lO 10 (B v1.2) (lZ (wr (lO 23 (B v1.2) (lO 24 (B v1.2) (LWp.sp h 24 (fun h => ?_) (fun h => ?_))))))))))
   ·refine lO 25 (Y v1.1) ?_
    refine lO 26 (Y xText) (lO 27 (B (seq v1.1 xText)) (lO 28 (B (seq v1.1 xText)) (lZ (Wp.c h (fun h => ?_) (fun h => ?_)))))
    ·refine wr ?_
     refine lO 29 (I x1) (lO 6 (I x1) (lZ ?_))
     cases h
     replace h : some _ = some _ := hk1 _ rfl
     cases h
     exact Wp.ret ⟨.inr rfl, _, _, rfl, rfl⟩
    refine Wp.skip (Wp.region (lO 30 (I (ad y1 1)) (lO 13 (I (ad y1 1)) (lZ ?_))))
    cases h
    exact ⟨_, rfl, rfl, rfl⟩
   refine lH 25 (lH 26 (lH 27 (lO 28 (B false) (lZ (Wp.cf (Wp.skip (Wp.region (lO 30 (I (ad y1 1)) (lO 13 (I (ad y1 1)) ?_)))))))))
   refine lZ ?_
   cases h
   exact ⟨_, rfl, rfl, rfl⟩
  refine Wp.exit ?_
  cases h
  exact ⟨_, rfl, rfl, rfl⟩
 intro v2 h E hE
 refine nt_wp hE ?_
 change Wp _ _ _ i_FindSame_H2 _
 refine wr (lO 6 (I 0) (lZ ?_))
 cases h
 exact Wp.ret ⟨.inr rfl, _, _, rfl, rfl⟩
def i_PlanOf_H1 (xQ : Ask) (z1 : Int) (z2 : ByteArray) : St := mkSt [(3, (.one (.ptr (.box 3) 0 [] 0))), (8, (I z1)), (9, (Y z2))] [(.box 3, [.int .i64 xQ.Kind, .int .i64 xQ.Vol, .int .i64 xQ.Sector, .int .i64 xQ.Of, .str xQ.Text])]
set_option maxHeartbeats 4000000 in
theorem i_PlanOf_t (xD : Device) (xQ : Ask) (r : List Rec × ByteArray × Int) (h : i_PlanOf xD xQ = some r) : Gives Tryz.prog 36 [.sv (.agg [.sl false 124 3 (encs (c124 false) xD.Flash.Blocks), .sl false 110 2 (encs c110 xD.Store.Vols), .sl false 218 2 (encs (c218 false) xD.Store.Arena.Knots), .int .i64 xD.Store.Next, .int .i64 xD.Seq, .int .i64 xD.Tx, .int .i64 xD.Base]), .sv (.agg [.int .i64 xQ.Kind, .int .i64 xQ.Vol, .int .i64 xQ.Sector, .int .i64 xQ.Of, .str xQ.Text])] (.tup [(.one (.sl true 83 4 (encs c83 r.1))), (Y r.2.1), (I r.2.2)]) (List.replicate 2 .gone) := by
 unfold i_PlanOf at h
 refine gives_of Tryz.func36 rfl ?_
 rw [Tryz.ntmps36]
 refine wr (LWp.b [] 2 [.sl false 124 3 (encs (c124 false) xD.Flash.Blocks), .sl false 110 2 (encs c110 xD.Store.Vols), .sl false 218 2 (encs (c218 false) xD.Store.Arena.Knots), .int .i64 xD.Store.Next, .int .i64 xD.Seq, .int .i64 xD.Tx, .int .i64 xD.Base] (LWp.b [] 3 [.int .i64 xQ.Kind, .int .i64 xQ.Vol, .int .i64 xQ.Sector, .int .i64 xQ.Of, .str xQ.Text] (lO 4 (.one (.sl true 83 4 (encs c83 []))) (lO 5 (Y (bs [])) (lO 6 (I 0) (lZ (Wp.seq (wr (lO 10 (.agg [.int .i64 xQ.Kind, .int .i64 xQ.Vol, .int .i64 xQ.Sector, .int .i64 xQ.Of, .str xQ.Text]) ?_)))))))))
 refine LWp.cl h 11 (fun v1 => (B v1)) rfl (l := [.sv (.agg [.int .i64 xQ.Kind, .int .i64 xQ.Vol, .int .i64 xQ.Sector, .int .i64 xQ.Of, .str xQ.Text])]) rfl (fun v hv => i_AskOk_t xQ v hv) (.inl rfl) ?_
 intro v1 gv1 h
 refine lO 12 (B (!v1)) (lZ (Wp.c h (fun h => ?_) (fun h => ?_)))
 ·refine wr ?_
  refine lO 4 (.one (.sl true 83 4 (encs c83 []))) (lO 5 (Y (bs [])) (lO 6 (I 3) (lZ ?_)))
  cases h
  exact Wp.ret ⟨.inr rfl, _, _, rfl, rfl⟩
 refine Wp.skip (Wp.seq (wr (lO 13 (.one (.ptr (.box 2) 1 [] 1)) (lO 14 (.agg [.sl false 110 2 (encs c110 xD.Store.Vols), .sl false 218 2 (encs (c218 false) xD.Store.Arena.Knots), .int .i64 xD.Store.Next]) (lO 15 (.agg [.int .i64 xQ.Kind, .int .i64 xQ.Vol, .int .i64 xQ.Sector, .int .i64 xQ.Of, .str xQ.Text]) (LWp.cl h 16 (fun v2 => (I v2)) rfl (l := [.sv (.agg [.sl false 110 2 (encs c110 xD.Store.Vols), .sl false 218 2 (encs (c218 false) xD.Store.Arena.Knots), .int .i64 xD.Store.Next]), .sv (.agg [.int .i64 xQ.Kind, .int .i64 xQ.Vol, .int .i64 xQ.Sector, .int .i64 xQ.Of, .str xQ.Text])]) rfl (fun v hv => i_refusal_t xD.Store xQ v hv) (.inl rfl) ?_))))))
 intro v2 gv2 h
 refine lO 7 (I v2) (lZ (wr (lO 17 (I v2) (lO 18 (B (v2 != 0)) (lZ (Wp.c h (fun h => ?_) (fun h => ?_)))))))
 ·refine wr ?_
  refine lO 19 (I v2) (lO 4 (.one (.sl true 83 4 (encs c83 []))) (lO 5 (Y (bs [])) (lO 6 (I v2) (lZ ?_))))
  cases h
  exact Wp.ret ⟨.inr rfl, _, _, rfl, rfl⟩
 refine Wp.skip (Wp.seq (wr (lO 20 (.one (.ptr (.box 3) 1 [] 0)) (lO 21 (I xQ.Kind) (lZ (Wp.block (wr (lO 23 (B (xQ.Kind == 1)) (lO 22 (B (xQ.Kind == 1)) ?_)))))))))
 refine lZ (Wp.c h (fun h => ?_) (fun h => ?_))
 ·refine Wp.seq ?_
  refine Wp.regionK 9 [] mixed (fun c E h => by rcases h with ⟨h | h, _⟩ <;> cases h) (KWp.o 9 0 24 (.one (.ptr (.box 2) 1 [] 0)) (KWp.o 9 1 25 (.agg [.sl false 124 3 (encs (c124 false) xD.Flash.Blocks)]) (KWp.o 9 2 26 (.one (.ptr (.box 2) 1 [] 1)) (KWp.o 9 3 27 (.agg [.sl false 110 2 (encs c110 xD.Store.Vols), .sl false 218 2 (encs (c218 false) xD.Store.Arena.Knots), .int .i64 xD.Store.Next]) (KWp.o 9 5 29 (.one (.ptr (.box 3) 1 [] 4)) (KWp.o 9 6 30 (Y xQ.Text) (KWp.w1 4 (KOp.cl h 4 28 (fun v3 => (.one (.sl true 3 1 (encs c3 v3)))) rfl rfl (l := [.sv (.agg [.sl false 110 2 (encs c110 xD.Store.Vols), .sl false 218 2 (encs (c218 false) xD.Store.Arena.Knots), .int .i64 xD.Store.Next])]) rfl (fun v hv => i_LiveOf_t xD.Store v hv) (.inl rfl) ?_))))))))
  intro v3 gv3 h
  refine KWp.w1 7 (KOp.cl h 7 31 (fun v4 => (I v4)) rfl rfl (l := [.sv (.agg [.sl false 124 3 (encs (c124 false) xD.Flash.Blocks)]), .sv (.one (.sl false 3 1 (shares (encs c3 v3)))), .sv (.one (.str xQ.Text))]) rfl (fun v hv => cg (l := [.sv (.agg [.sl false 124 3 (encs (c124 false) xD.Flash.Blocks)]), .sv (.one (.sl false 3 1 (shares (encs c3 v3)))), .sv (.one (.str xQ.Text))]) (by simp only [sh3]) (i_FindSame_t xD.Flash v3 xQ.Text v hv)) (.inr (fun v => rfl)) ?_)
  intro v4 gv4 h
  refine KWp.o 9 8 8 (I v4) (KWp.done (wr (lO 9 (Y (bs [])) (lZ (Wp.seq (wr (lO 32 (I v4) (lO 33 (B (v4 == 0)) (lZ ?_)))))))))
  refine Wp.j1 h [3, 8, 9] [.box 3] (fun a => (i_PlanOf_H1 xQ a.1 a.2)) ?_ ?_
  ·intro a h
   refine Wp.c h (fun h => ?_) (fun h => ?_)
   ·refine wr ?_
    refine lO 34 (.one (.ptr (.box 2) 1 [] 1)) (lO 35 (.one (.ptr (.box 2) 1 [] 3)) (lO 36 (I xD.Store.Next) (lO 8 (I xD.Store.Next) (lZ (Wp.region (lO 38 (.one (.ptr (.box 3) 1 [] 4)) (lO 39 (Y xQ.Text) (LWp.cl h 40 (fun v5 => (.tup [(Y v5.1), (B v5.2)])) rfl (l := [.sv (.one (.str xQ.Text))]) rfl (fun v hv => i_PackText_t xQ.Text v hv) (.inl rfl) ?_))))))))
    intro v5 gv5 h
    refine LWp.mt 40 37 (.tup [(Y v5.1), (B v5.2)]) (LWp.e 37 0 41 (Y v5.1) (LWp.e 37 1 42 (B v5.2) (lO 9 (Y v5.1) (lZ ?_))))
    cases h
    exact ⟨_, rfl, rfl, rfl⟩
   refine Wp.skip ?_
   cases h
   exact ⟨_, rfl, rfl, rfl⟩
  intro j1 h E hE
  refine nt_wp hE ?_
  change Wp _ _ _ (i_PlanOf_H1 xQ j1.1 j1.2) _
  refine wr (lO 43 (.one (.ptr (.box 3) 0 [] 1)) (lO 44 (I xQ.Vol) (lO 45 (.one (.ptr (.box 3) 0 [] 2)) (lO 46 (I xQ.Sector) (lO 47 (I j1.1) (lO 48 (.agg [.int .i64 4, .int .i64 xQ.Vol, .int .i64 xQ.Sector, .int .i64 j1.1]) (LWp.m false [] 49 (.one (.sl true 83 4 (encs c83 [(Rec.mk 4 xQ.Vol xQ.Sector j1.1)]))) (lO 50 (Y j1.2) (LWp.m true [(.slot 49, [.junk])] 4 (.one (.sl true 83 4 (encs c83 [(Rec.mk 4 xQ.Vol xQ.Sector j1.1)]))) ?_)))))))))
  refine lO 5 (Y j1.2) (lO 6 (I 0) (lZ ?_))
  cases h
  exact Wp.ret ⟨.inr rfl, _, _, rfl, rfl⟩
 refine wr (lO 52 (B (xQ.Kind == 2)) (lO 51 (B (xQ.Kind == 2)) (lZ (Wp.c h (fun h => ?_) (fun h => ?_)))))
 ·refine wr ?_
  refine lO 53 (.one (.ptr (.box 3) 1 [] 1)) (lO 54 (I xQ.Vol) (lO 55 (.one (.ptr (.box 3) 1 [] 2)) (lO 56 (I xQ.Sector) (lO 57 (.agg [.int .i64 5, .int .i64 xQ.Vol, .int .i64 xQ.Sector, .int .i64 0]) (LWp.m false [] 58 (.one (.sl true 83 4 (encs c83 [(Rec.mk 5 xQ.Vol xQ.Sector 0)]))) (LWp.m true [(.slot 58, [.junk])] 4 (.one (.sl true 83 4 (encs c83 [(Rec.mk 5 xQ.Vol xQ.Sector 0)]))) (lO 5 (Y (bs [])) (lO 6 (I 0) (lZ ?_)))))))))
  cases h
  exact Wp.ret ⟨.inr rfl, _, _, rfl, rfl⟩
 refine wr (lO 60 (B (xQ.Kind == 3)) (lO 59 (B (xQ.Kind == 3)) (lZ (Wp.c h (fun h => ?_) (fun h => ?_)))))
 ·refine wr ?_
  refine lO 61 (.one (.ptr (.box 3) 1 [] 1)) (lO 62 (I xQ.Vol) (lO 63 (.agg [.int .i64 2, .int .i64 xQ.Vol, .int .i64 0, .int .i64 0]) (LWp.m false [] 64 (.one (.sl true 83 4 (encs c83 [(Rec.mk 2 xQ.Vol 0 0)]))) (LWp.m true [(.slot 64, [.junk])] 4 (.one (.sl true 83 4 (encs c83 [(Rec.mk 2 xQ.Vol 0 0)]))) (lO 5 (Y (bs [])) (lO 6 (I 0) (lZ ?_)))))))
  cases h
  exact Wp.ret ⟨.inr rfl, _, _, rfl, rfl⟩
 refine wr (lO 66 (B (xQ.Kind == 4)) (lO 65 (B (xQ.Kind == 4)) (lZ (Wp.c h (fun h => ?_) (fun h => ?_)))))
 ·refine wr ?_
  refine lO 67 (.one (.ptr (.box 3) 1 [] 1)) (lO 68 (I xQ.Vol) (lO 69 (.one (.ptr (.box 3) 1 [] 3)) (lO 70 (I xQ.Of) (lO 71 (.agg [.int .i64 2, .int .i64 xQ.Vol, .int .i64 xQ.Of, .int .i64 0]) (LWp.m false [] 72 (.one (.sl true 83 4 (encs c83 [(Rec.mk 2 xQ.Vol xQ.Of 0)]))) (LWp.m true [(.slot 72, [.junk])] 4 (.one (.sl true 83 4 (encs c83 [(Rec.mk 2 xQ.Vol xQ.Of 0)]))) (lO 5 (Y (bs [])) (lO 6 (I 0) (lZ ?_)))))))))
  cases h
  exact Wp.ret ⟨.inr rfl, _, _, rfl, rfl⟩
 refine wr (lO 74 (B (xQ.Kind == 5)) (lO 73 (B (xQ.Kind == 5)) (lZ (Wp.c h (fun h => ?_) (fun h => ?_)))))
 ·refine wr ?_
  refine lO 75 (.one (.ptr (.box 3) 1 [] 1)) (lO 76 (I xQ.Vol) (lO 77 (.agg [.int .i64 3, .int .i64 xQ.Vol, .int .i64 0, .int .i64 0]) (LWp.m false [] 78 (.one (.sl true 83 4 (encs c83 [(Rec.mk 3 xQ.Vol 0 0)]))) (LWp.m true [(.slot 78, [.junk])] 4 (.one (.sl true 83 4 (encs c83 [(Rec.mk 3 xQ.Vol 0 0)]))) (lO 5 (Y (bs [])) (lO 6 (I 0) (lZ ?_)))))))
  cases h
  exact Wp.ret ⟨.inr rfl, _, _, rfl, rfl⟩
 refine Wp.skip (wr (lO 4 (.one (.sl true 83 4 (encs c83 []))) (lO 5 (Y (bs [])) (lO 6 (I 0) (lZ ?_)))))
 cases h
 exact Wp.ret ⟨.inr rfl, _, _, rfl, rfl⟩
theorem w_eqRec_t (xA : Rec) (xB : Rec) (r : Bool) (h : w_eqRec xA xB = some r) : Gives Tryz.prog 50 [.sv (.agg [.int .i64 xA.Kind, .int .i64 xA.Vol, .int .i64 xA.Arg, .int .i64 xA.Chunk]), .sv (.agg [.int .i64 xB.Kind, .int .i64 xB.Vol, .int .i64 xB.Arg, .int .i64 xB.Chunk])] (B r) (List.replicate 2 .gone) := by
 unfold w_eqRec at h
 refine gives_of Tryz.func50 rfl ?_
 rw [Tryz.ntmps50]
 refine wr (LWp.b [] 2 [.int .i64 xA.Kind, .int .i64 xA.Vol, .int .i64 xA.Arg, .int .i64 xA.Chunk] (LWp.b [] 3 [.int .i64 xB.Kind, .int .i64 xB.Vol, .int .i64 xB.Arg, .int .i64 xB.Chunk] (lO 4 (B false) (lZ (Wp.seq (wr (lO 5 (.one (.ptr (.box 2) 1 [] 0)) (lO 6 (I xA.Kind) (lO 7 (.one (.ptr (.box 3) 1 [] 0)) ?_)))))))))
 refine lO 8 (I xB.Kind) (lO 9 (B (xA.Kind != xB.Kind)) (lZ (Wp.c h (fun h => ?_) (fun h => ?_))))
 ·refine wr ?_
  refine lO 4 (B false) (lZ ?_)
  cases h
  exact Wp.ret ⟨.inr rfl, _, _, rfl, rfl⟩
 refine Wp.skip (Wp.seq (wr (lO 10 (.one (.ptr (.box 2) 1 [] 1)) (lO 11 (I xA.Vol) (lO 12 (.one (.ptr (.box 3) 1 [] 1)) (lO 13 (I xB.Vol) (lO 14 (B (xA.Vol != xB.Vol)) (lZ (Wp.c h (fun h => ?_) (fun h => ?_))))))))))
 ·refine wr ?_
  refine lO 4 (B false) (lZ ?_)
  cases h
  exact Wp.ret ⟨.inr rfl, _, _, rfl, rfl⟩
 refine Wp.skip (Wp.seq (wr (lO 15 (.one (.ptr (.box 2) 1 [] 2)) (lO 16 (I xA.Arg) (lO 17 (.one (.ptr (.box 3) 1 [] 2)) (lO 18 (I xB.Arg) (lO 19 (B (xA.Arg != xB.Arg)) (lZ (Wp.c h (fun h => ?_) (fun h => ?_))))))))))
 ·refine wr ?_
  refine lO 4 (B false) (lZ ?_)
  cases h
  exact Wp.ret ⟨.inr rfl, _, _, rfl, rfl⟩
 refine Wp.skip (Wp.seq (wr (lO 20 (.one (.ptr (.box 2) 1 [] 3)) (lO 21 (I xA.Chunk) (lO 22 (.one (.ptr (.box 3) 1 [] 3)) (lO 23 (I xB.Chunk) (lO 24 (B (xA.Chunk != xB.Chunk)) (lZ (Wp.c h (fun h => ?_) (fun h => ?_))))))))))
 ·refine wr ?_
  refine lO 4 (B false) (lZ ?_)
  cases h
  exact Wp.ret ⟨.inr rfl, _, _, rfl, rfl⟩
 refine Wp.skip (wr (lO 4 (B true) (lZ ?_)))
 cases h
 exact Wp.ret ⟨.inr rfl, _, _, rfl, rfl⟩
def w_eqRecS_H1 (xA : List Rec) (xB : List Rec) (z1 : Int) : St := mkSt [(0, (.one (.sl false 83 4 (encs c83 xA)))), (1, (.one (.sl false 83 4 (encs c83 xB)))), (5, (I z1))] []
def w_eqRecS_H2  : St := mkSt [] []
theorem w_eqRecS_t (xA : List Rec) (xB : List Rec) (r : Bool) (h : w_eqRecS xA xB = some r) : Gives Tryz.prog 16 [.sv (.one (.sl false 83 4 (encs c83 xA))), .sv (.one (.sl false 83 4 (encs c83 xB)))] (B r) (List.replicate 2 .gone) := by
 unfold w_eqRecS at h
 refine gives_of Tryz.func16 rfl ?_
 rw [Tryz.ntmps16]
 refine wr (lO 4 (B false) (lZ (Wp.seq (wr (lO 6 (.one (.sl false 83 4 (encs c83 xA))) (lO 7 (I (ln xA)) (lO 8 (.one (.sl false 83 4 (encs c83 xB))) (lO 9 (I (ln xB)) (lO 10 (B ((ln xA) != (ln xB))) ?_) (st_pure (p_ln k83 xB)))) (st_pure (p_ln k83 xA))))))))
 refine lZ (Wp.c h (fun h => ?_) (fun h => ?_))
 ·refine wr ?_
  refine lO 4 (B false) (lZ ?_)
  cases h
  exact Wp.ret ⟨.inr rfl, _, _, rfl, rfl⟩
 refine Wp.skip (Wp.seq (wr (lO 5 (I 0) (lZ (Wp.l2 h [0, 1, 5] [] (fun s => (w_eqRecS_H1 xA xB s)) [] [] (fun _ => w_eqRecS_H2) ⟨rfl, rfl⟩ ?_ ?_)))))
 ·rintro yI1 o (h : w_eqRecS_b1 xA xB yI1 = some o) hk1
  unfold w_eqRecS_b1 at h
  change Wp _ _ _ (w_eqRecS_H1 xA xB yI1) _
  refine Wp.seq (wr (lO 11 (I yI1) (lO 12 (.one (.sl false 83 4 (encs c83 xA))) (lO 13 (I (ln xA)) (lO 14 (B (decide (yI1 < (ln xA)))) (lZ (Wp.c h (fun h => ?_) (fun h => ?_)))) (st_pure (p_ln k83 xA))))))
  ·refine Wp.skip ?_
   refine Wp.seq (Wp.block (Wp.seq (Wp.regionT 8 mixed (by decide +kernel) (SWp.o 17 (.one (.sl false 83 4 (encs c83 xA))) (SWp.o 18 (I yI1) (SWp.p h 19 (fun _ => (.one (.ptr (.slot 17) 1 [0] (Int.toNat yI1 * 4 + 0)))) ?_ (fun x1 gx1 => sl_pure (p_ix k83 (.slot 17) [] 0 gx1))))))))
   intro x1 gx1 h
   refine SWp.o 20 (.agg [.int .i64 x1.Kind, .int .i64 x1.Vol, .int .i64 x1.Arg, .int .i64 x1.Chunk]) (SWp.o 21 (.one (.sl false 83 4 (encs c83 xB))) (SWp.o 22 (I yI1) (SWp.p h 23 (fun _ => (.one (.ptr (.slot 21) 1 [0] (Int.toNat yI1 * 4 + 0)))) ?_ (fun x2 gx2 => sl_pure (p_ix k83 (.slot 21) [] 0 gx2))))) (sl_pure (p_le k83 (.slot 17) [0] gx1))
   intro x2 gx2 h
   refine SWp.o 24 (.agg [.int .i64 x2.Kind, .int .i64 x2.Vol, .int .i64 x2.Arg, .int .i64 x2.Chunk]) (SWp.nil (LWp.cl h 25 (fun v1 => (B v1)) rfl (l := [.sv (.agg [.int .i64 x1.Kind, .int .i64 x1.Vol, .int .i64 x1.Arg, .int .i64 x1.Chunk]), .sv (.agg [.int .i64 x2.Kind, .int .i64 x2.Vol, .int .i64 x2.Arg, .int .i64 x2.Chunk])]) rfl (fun v hv => w_eqRec_t x1 x2 v hv) (.inl rfl) ?_)) (sl_pure (p_le k83 (.slot 21) [0] gx2))
   intro v1 gv1 h
   refine lO 26 (B (!v1)) (lZ (Wp.c h (fun h => ?_) (fun h => ?_)))
   ·refine wr ?_
    refine lO 4 (B false) (lZ ?_)
    cases h
    replace h : some _ = some _ := hk1 _ rfl
    cases h
    exact Wp.ret ⟨.inr rfl, _, _, rfl, rfl⟩
   refine Wp.skip (Wp.region (lO 15 (I yI1) (lO 16 (I (ad yI1 1)) (lO 5 (I (ad yI1 1)) (lZ ?_)))))
   cases h
   exact ⟨_, rfl, rfl, rfl⟩
  refine Wp.exit ?_
  cases h
  exact ⟨_, rfl, rfl, rfl⟩
 intro v2 h E hE
 refine nt_wp hE ?_
 change Wp _ _ _ w_eqRecS_H2 _
 refine wr (lO 4 (B true) (lZ ?_))
 cases h
 exact Wp.ret ⟨.inr rfl, _, _, rfl, rfl⟩
theorem w_eqLeaf_t (xA : Leaf) (xB : Leaf) (r : Bool) (h : w_eqLeaf xA xB = some r) : Gives Tryz.prog 204 [.sv (.agg [.int .i64 xA.Is, .str xA.Text]), .sv (.agg [.int .i64 xB.Is, .str xB.Text])] (B r) (List.replicate 2 .gone) := by
 unfold w_eqLeaf at h
 refine gives_of Tryz.func204 rfl ?_
 rw [Tryz.ntmps204]
 refine wr (LWp.b [] 2 [.int .i64 xA.Is, .str xA.Text] (LWp.b [] 3 [.int .i64 xB.Is, .str xB.Text] (lO 4 (B false) (lZ (Wp.seq (wr (lO 5 (.one (.ptr (.box 2) 1 [] 0)) (lO 6 (I xA.Is) (lO 7 (.one (.ptr (.box 3) 1 [] 0)) ?_)))))))))
 refine lO 8 (I xB.Is) (lO 9 (B (xA.Is != xB.Is)) (lZ (Wp.c h (fun h => ?_) (fun h => ?_))))
 ·refine wr ?_
  refine lO 4 (B false) (lZ ?_)
  cases h
  exact Wp.ret ⟨.inr rfl, _, _, rfl, rfl⟩
 refine Wp.skip (Wp.seq (wr (lO 10 (.one (.ptr (.box 2) 1 [] 1)) (lO 11 (Y xA.Text) (lO 12 (.one (.ptr (.box 3) 1 [] 1)) (lO 13 (Y xB.Text) (lO 14 (B (!(seq xA.Text xB.Text))) (lZ (Wp.c h (fun h => ?_) (fun h => ?_))))))))))
 ·refine wr ?_
  refine lO 4 (B false) (lZ ?_)
  cases h
  exact Wp.ret ⟨.inr rfl, _, _, rfl, rfl⟩
 refine Wp.skip (wr (lO 4 (B true) (lZ ?_)))
 cases h
 exact Wp.ret ⟨.inr rfl, _, _, rfl, rfl⟩
def w_eqLeafS_H1 (xA : List Leaf) (xB : List Leaf) (z1 : Int) : St := mkSt [(0, (.one (.sl false 165 2 (encs c165 xA)))), (1, (.one (.sl false 165 2 (encs c165 xB)))), (5, (I z1))] []
def w_eqLeafS_H2  : St := mkSt [] []
theorem w_eqLeafS_t (xA : List Leaf) (xB : List Leaf) (r : Bool) (h : w_eqLeafS xA xB = some r) : Gives Tryz.prog 177 [.sv (.one (.sl false 165 2 (encs c165 xA))), .sv (.one (.sl false 165 2 (encs c165 xB)))] (B r) (List.replicate 2 .gone) := by
 unfold w_eqLeafS at h
 refine gives_of Tryz.func177 rfl ?_
 rw [Tryz.ntmps177]
 refine wr (lO 4 (B false) (lZ (Wp.seq (wr (lO 6 (.one (.sl false 165 2 (encs c165 xA))) (lO 7 (I (ln xA)) (lO 8 (.one (.sl false 165 2 (encs c165 xB))) (lO 9 (I (ln xB)) (lO 10 (B ((ln xA) != (ln xB))) ?_) (st_pure (p_ln k165 xB)))) (st_pure (p_ln k165 xA))))))))
 refine lZ (Wp.c h (fun h => ?_) (fun h => ?_))
 ·refine wr ?_
  refine lO 4 (B false) (lZ ?_)
  cases h
  exact Wp.ret ⟨.inr rfl, _, _, rfl, rfl⟩
 refine Wp.skip (Wp.seq (wr (lO 5 (I 0) (lZ (Wp.l2 h [0, 1, 5] [] (fun s => (w_eqLeafS_H1 xA xB s)) [] [] (fun _ => w_eqLeafS_H2) ⟨rfl, rfl⟩ ?_ ?_)))))
 ·rintro yI1 o (h : w_eqLeafS_b1 xA xB yI1 = some o) hk1
  unfold w_eqLeafS_b1 at h
  change Wp _ _ _ (w_eqLeafS_H1 xA xB yI1) _
  refine Wp.seq (wr (lO 11 (I yI1) (lO 12 (.one (.sl false 165 2 (encs c165 xA))) (lO 13 (I (ln xA)) (lO 14 (B (decide (yI1 < (ln xA)))) (lZ (Wp.c h (fun h => ?_) (fun h => ?_)))) (st_pure (p_ln k165 xA))))))
  ·refine Wp.skip ?_
   refine Wp.seq (Wp.block (Wp.seq (Wp.regionT 8 mixed (by decide +kernel) (SWp.o 17 (.one (.sl false 165 2 (encs c165 xA))) (SWp.o 18 (I yI1) (SWp.p h 19 (fun _ => (.one (.ptr (.slot 17) 1 [0] (Int.toNat yI1 * 2 + 0)))) ?_ (fun x1 gx1 => sl_pure (p_ix k165 (.slot 17) [] 0 gx1))))))))
   intro x1 gx1 h
   refine SWp.o 20 (.agg [.int .i64 x1.Is, .str x1.Text]) (SWp.o 21 (.one (.sl false 165 2 (encs c165 xB))) (SWp.o 22 (I yI1) (SWp.p h 23 (fun _ => (.one (.ptr (.slot 21) 1 [0] (Int.toNat yI1 * 2 + 0)))) ?_ (fun x2 gx2 => sl_pure (p_ix k165 (.slot 21) [] 0 gx2))))) (sl_pure (p_le k165 (.slot 17) [0] gx1))
   intro x2 gx2 h
   refine SWp.o 24 (.agg [.int .i64 x2.Is, .str x2.Text]) (SWp.nil (LWp.cl h 25 (fun v1 => (B v1)) rfl (l := [.sv (.agg [.int .i64 x1.Is, .str x1.Text]), .sv (.agg [.int .i64 x2.Is, .str x2.Text])]) rfl (fun v hv => w_eqLeaf_t x1 x2 v hv) (.inl rfl) ?_)) (sl_pure (p_le k165 (.slot 21) [0] gx2))
   intro v1 gv1 h
   refine lO 26 (B (!v1)) (lZ (Wp.c h (fun h => ?_) (fun h => ?_)))
   ·refine wr ?_
    refine lO 4 (B false) (lZ ?_)
    cases h
    replace h : some _ = some _ := hk1 _ rfl
    cases h
    exact Wp.ret ⟨.inr rfl, _, _, rfl, rfl⟩
   refine Wp.skip (Wp.region (lO 15 (I yI1) (lO 16 (I (ad yI1 1)) (lO 5 (I (ad yI1 1)) (lZ ?_)))))
   cases h
   exact ⟨_, rfl, rfl, rfl⟩
  refine Wp.exit ?_
  cases h
  exact ⟨_, rfl, rfl, rfl⟩
 intro v2 h E hE
 refine nt_wp hE ?_
 change Wp _ _ _ w_eqLeafS_H2 _
 refine wr (lO 4 (B true) (lZ ?_))
 cases h
 exact Wp.ret ⟨.inr rfl, _, _, rfl, rfl⟩
theorem w_eqBlock_t (xA : Block) (xB : Block) (r : Bool) (h : w_eqBlock xA xB = some r) : Gives Tryz.prog 145 [.sv (.agg [.bool xA.Bad, .int .i64 xA.Wear, .sl false 165 2 (encs c165 xA.Leaves)]), .sv (.agg [.bool xB.Bad, .int .i64 xB.Wear, .sl false 165 2 (encs c165 xB.Leaves)])] (B r) (List.replicate 2 .gone) := by
 unfold w_eqBlock at h
 refine gives_of Tryz.func145 rfl ?_
 rw [Tryz.ntmps145]
 refine wr (LWp.b [] 2 [.bool xA.Bad, .int .i64 xA.Wear, .sl false 165 2 (encs c165 xA.Leaves)] (LWp.b [] 3 [.bool xB.Bad, .int .i64 xB.Wear, .sl false 165 2 (encs c165 xB.Leaves)] (lO 4 (B false) (lZ (Wp.seq (wr (lO 5 (.one (.ptr (.box 2) 1 [] 0)) (lO 6 (B xA.Bad) (lO 7 (.one (.ptr (.box 3) 1 [] 0)) ?_)))))))))
 refine lO 8 (B xB.Bad) (lO 9 (B (!(xA.Bad == xB.Bad))) (lZ (Wp.c h (fun h => ?_) (fun h => ?_))))
 ·refine wr ?_
  refine lO 4 (B false) (lZ ?_)
  cases h
  exact Wp.ret ⟨.inr rfl, _, _, rfl, rfl⟩
 refine Wp.skip (Wp.seq (wr (lO 10 (.one (.ptr (.box 2) 1 [] 1)) (lO 11 (I xA.Wear) (lO 12 (.one (.ptr (.box 3) 1 [] 1)) (lO 13 (I xB.Wear) (lO 14 (B (xA.Wear != xB.Wear)) (lZ (Wp.c h (fun h => ?_) (fun h => ?_))))))))))
 ·refine wr ?_
  refine lO 4 (B false) (lZ ?_)
  cases h
  exact Wp.ret ⟨.inr rfl, _, _, rfl, rfl⟩
 refine Wp.skip (Wp.seq (wr (lO 15 (.one (.ptr (.box 2) 1 [] 2)) (lO 16 (.one (.sl false 165 2 (encs c165 xA.Leaves))) (lO 17 (.one (.ptr (.box 3) 1 [] 2)) (lO 18 (.one (.sl false 165 2 (encs c165 xB.Leaves))) (LWp.cl h 19 (fun v1 => (B v1)) rfl (l := [.sv (.one (.sl false 165 2 (encs c165 xA.Leaves))), .sv (.one (.sl false 165 2 (encs c165 xB.Leaves)))]) rfl (fun v hv => w_eqLeafS_t xA.Leaves xB.Leaves v hv) (.inl rfl) ?_)))))))
 intro v1 gv1 h
 refine lO 20 (B (!v1)) (lZ (Wp.c h (fun h => ?_) (fun h => ?_)))
 ·refine wr ?_
  refine lO 4 (B false) (lZ ?_)
  cases h
  exact Wp.ret ⟨.inr rfl, _, _, rfl, rfl⟩
 refine Wp.skip (wr (lO 4 (B true) (lZ ?_)))
 cases h
 exact Wp.ret ⟨.inr rfl, _, _, rfl, rfl⟩
def w_eqBlockS_H1 (xA : List Block) (xB : List Block) (z1 : Int) : St := mkSt [(0, (.one (.sl false 124 3 (encs (c124 false) xA)))), (1, (.one (.sl false 124 3 (encs (c124 false) xB)))), (5, (I z1))] []
def w_eqBlockS_H2  : St := mkSt [] []
theorem w_eqBlockS_t (xA : List Block) (xB : List Block) (r : Bool) (h : w_eqBlockS xA xB = some r) : Gives Tryz.prog 93 [.sv (.one (.sl false 124 3 (encs (c124 false) xA))), .sv (.one (.sl false 124 3 (encs (c124 false) xB)))] (B r) (List.replicate 2 .gone) := by
 unfold w_eqBlockS at h
 refine gives_of Tryz.func93 rfl ?_
 rw [Tryz.ntmps93]
 refine wr (lO 4 (B false) (lZ (Wp.seq (wr (lO 6 (.one (.sl false 124 3 (encs (c124 false) xA))) (lO 7 (I (ln xA)) (lO 8 (.one (.sl false 124 3 (encs (c124 false) xB))) (lO 9 (I (ln xB)) (lO 10 (B ((ln xA) != (ln xB))) ?_) (st_pure (p_ln (k124 false) xB)))) (st_pure (p_ln (k124 false) xA))))))))
 refine lZ (Wp.c h (fun h => ?_) (fun h => ?_))
 ·refine wr ?_
  refine lO 4 (B false) (lZ ?_)
  cases h
  exact Wp.ret ⟨.inr rfl, _, _, rfl, rfl⟩
 refine Wp.skip (Wp.seq (wr (lO 5 (I 0) (lZ (Wp.l2 h [0, 1, 5] [] (fun s => (w_eqBlockS_H1 xA xB s)) [] [] (fun _ => w_eqBlockS_H2) ⟨rfl, rfl⟩ ?_ ?_)))))
 ·rintro yI1 o (h : w_eqBlockS_b1 xA xB yI1 = some o) hk1
  unfold w_eqBlockS_b1 at h
  change Wp _ _ _ (w_eqBlockS_H1 xA xB yI1) _
  refine Wp.seq (wr (lO 11 (I yI1) (lO 12 (.one (.sl false 124 3 (encs (c124 false) xA))) (lO 13 (I (ln xA)) (lO 14 (B (decide (yI1 < (ln xA)))) (lZ (Wp.c h (fun h => ?_) (fun h => ?_)))) (st_pure (p_ln (k124 false) xA))))))
  ·refine Wp.skip ?_
   refine Wp.seq (Wp.block (Wp.seq (Wp.regionT 8 mixed (by decide +kernel) (SWp.o 17 (.one (.sl false 124 3 (encs (c124 false) xA))) (SWp.o 18 (I yI1) (SWp.p h 19 (fun _ => (.one (.ptr (.slot 17) 1 [0] (Int.toNat yI1 * 3 + 0)))) ?_ (fun x1 gx1 => sl_pure (p_ix (k124 false) (.slot 17) [] 0 gx1))))))))
   intro x1 gx1 h
   refine SWp.o 20 (.agg [.bool x1.Bad, .int .i64 x1.Wear, .sl false 165 2 (encs c165 x1.Leaves)]) (SWp.o 21 (.one (.sl false 124 3 (encs (c124 false) xB))) (SWp.o 22 (I yI1) (SWp.p h 23 (fun _ => (.one (.ptr (.slot 21) 1 [0] (Int.toNat yI1 * 3 + 0)))) ?_ (fun x2 gx2 => sl_pure (p_ix (k124 false) (.slot 21) [] 0 gx2))))) (sl_pure (p_le (k124 false) (.slot 17) [0] gx1))
   intro x2 gx2 h
   refine SWp.o 24 (.agg [.bool x2.Bad, .int .i64 x2.Wear, .sl false 165 2 (encs c165 x2.Leaves)]) (SWp.nil (LWp.cl h 25 (fun v1 => (B v1)) rfl (l := [.sv (.agg [.bool x1.Bad, .int .i64 x1.Wear, .sl false 165 2 (encs c165 x1.Leaves)]), .sv (.agg [.bool x2.Bad, .int .i64 x2.Wear, .sl false 165 2 (encs c165 x2.Leaves)])]) rfl (fun v hv => w_eqBlock_t x1 x2 v hv) (.inl rfl) ?_)) (sl_pure (p_le (k124 false) (.slot 21) [0] gx2))
   intro v1 gv1 h
   refine lO 26 (B (!v1)) (lZ (Wp.c h (fun h => ?_) (fun h => ?_)))
   ·refine wr ?_
    refine lO 4 (B false) (lZ ?_)
    cases h
    replace h : some _ = some _ := hk1 _ rfl
    cases h
    exact Wp.ret ⟨.inr rfl, _, _, rfl, rfl⟩
   refine Wp.skip (Wp.region (lO 15 (I yI1) (lO 16 (I (ad yI1 1)) (lO 5 (I (ad yI1 1)) (lZ ?_)))))
   cases h
   exact ⟨_, rfl, rfl, rfl⟩
  refine Wp.exit ?_
  cases h
  exact ⟨_, rfl, rfl, rfl⟩
 intro v2 h E hE
 refine nt_wp hE ?_
 change Wp _ _ _ w_eqBlockS_H2 _
 refine wr (lO 4 (B true) (lZ ?_))
 cases h
 exact Wp.ret ⟨.inr rfl, _, _, rfl, rfl⟩
theorem w_eqFlash_t (xA : Flash) (xB : Flash) (r : Bool) (h : w_eqFlash xA xB = some r) : Gives Tryz.prog 48 [.sv (.agg [.sl false 124 3 (encs (c124 false) xA.Blocks)]), .sv (.agg [.sl false 124 3 (encs (c124 false) xB.Blocks)])] (B r) (List.replicate 2 .gone) := by
 unfold w_eqFlash at h
 refine gives_of Tryz.func48 rfl ?_
 rw [Tryz.ntmps48]
 refine wr (LWp.b [] 2 [.sl false 124 3 (encs (c124 false) xA.Blocks)] (LWp.b [] 3 [.sl false 124 3 (encs (c124 false) xB.Blocks)] (lO 4 (B false) (lZ (Wp.seq (wr (lO 5 (.one (.ptr (.box 2) 1 [] 0)) (lO 6 (.one (.sl false 124 3 (encs (c124 false) xA.Blocks))) (lO 7 (.one (.ptr (.box 3) 1 [] 0)) ?_)))))))))
 refine lO 8 (.one (.sl false 124 3 (encs (c124 false) xB.Blocks))) (LWp.cl h 9 (fun v1 => (B v1)) rfl (l := [.sv (.one (.sl false 124 3 (encs (c124 false) xA.Blocks))), .sv (.one (.sl false 124 3 (encs (c124 false) xB.Blocks)))]) rfl (fun v hv => w_eqBlockS_t xA.Blocks xB.Blocks v hv) (.inl rfl) ?_)
 intro v1 gv1 h
 refine lO 10 (B (!v1)) (lZ (Wp.c h (fun h => ?_) (fun h => ?_)))
 ·refine wr ?_
  refine lO 4 (B false) (lZ ?_)
  cases h
  exact Wp.ret ⟨.inr rfl, _, _, rfl, rfl⟩
 refine Wp.skip (wr (lO 4 (B true) (lZ ?_)))
 cases h
 exact Wp.ret ⟨.inr rfl, _, _, rfl, rfl⟩
theorem w_eqVol_t (xA : Vol) (xB : Vol) (r : Bool) (h : w_eqVol xA xB = some r) : Gives Tryz.prog 146 [.sv (.agg [.int .i64 xA.Id, .int .i64 xA.Root]), .sv (.agg [.int .i64 xB.Id, .int .i64 xB.Root])] (B r) (List.replicate 2 .gone) := by
 unfold w_eqVol at h
 refine gives_of Tryz.func146 rfl ?_
 rw [Tryz.ntmps146]
 refine wr (LWp.b [] 2 [.int .i64 xA.Id, .int .i64 xA.Root] (LWp.b [] 3 [.int .i64 xB.Id, .int .i64 xB.Root] (lO 4 (B false) (lZ (Wp.seq (wr (lO 5 (.one (.ptr (.box 2) 1 [] 0)) (lO 6 (I xA.Id) (lO 7 (.one (.ptr (.box 3) 1 [] 0)) ?_)))))))))
 refine lO 8 (I xB.Id) (lO 9 (B (xA.Id != xB.Id)) (lZ (Wp.c h (fun h => ?_) (fun h => ?_))))
 ·refine wr ?_
  refine lO 4 (B false) (lZ ?_)
  cases h
  exact Wp.ret ⟨.inr rfl, _, _, rfl, rfl⟩
 refine Wp.skip (Wp.seq (wr (lO 10 (.one (.ptr (.box 2) 1 [] 1)) (lO 11 (I xA.Root) (lO 12 (.one (.ptr (.box 3) 1 [] 1)) (lO 13 (I xB.Root) (lO 14 (B (xA.Root != xB.Root)) (lZ (Wp.c h (fun h => ?_) (fun h => ?_))))))))))
 ·refine wr ?_
  refine lO 4 (B false) (lZ ?_)
  cases h
  exact Wp.ret ⟨.inr rfl, _, _, rfl, rfl⟩
 refine Wp.skip (wr (lO 4 (B true) (lZ ?_)))
 cases h
 exact Wp.ret ⟨.inr rfl, _, _, rfl, rfl⟩
def w_eqVolS_H1 (xA : List Vol) (xB : List Vol) (z1 : Int) : St := mkSt [(0, (.one (.sl false 110 2 (encs c110 xA)))), (1, (.one (.sl false 110 2 (encs c110 xB)))), (5, (I z1))] []
def w_eqVolS_H2  : St := mkSt [] []
theorem w_eqVolS_t (xA : List Vol) (xB : List Vol) (r : Bool) (h : w_eqVolS xA xB = some r) : Gives Tryz.prog 94 [.sv (.one (.sl false 110 2 (encs c110 xA))), .sv (.one (.sl false 110 2 (encs c110 xB)))] (B r) (List.replicate 2 .gone) := by
 unfold w_eqVolS at h
 refine gives_of Tryz.func94 rfl ?_
 rw [Tryz.ntmps94]
 refine wr (lO 4 (B false) (lZ (Wp.seq (wr (lO 6 (.one (.sl false 110 2 (encs c110 xA))) (lO 7 (I (ln xA)) (lO 8 (.one (.sl false 110 2 (encs c110 xB))) (lO 9 (I (ln xB)) (lO 10 (B ((ln xA) != (ln xB))) ?_) (st_pure (p_ln k110 xB)))) (st_pure (p_ln k110 xA))))))))
 refine lZ (Wp.c h (fun h => ?_) (fun h => ?_))
 ·refine wr ?_
  refine lO 4 (B false) (lZ ?_)
  cases h
  exact Wp.ret ⟨.inr rfl, _, _, rfl, rfl⟩
 refine Wp.skip (Wp.seq (wr (lO 5 (I 0) (lZ (Wp.l2 h [0, 1, 5] [] (fun s => (w_eqVolS_H1 xA xB s)) [] [] (fun _ => w_eqVolS_H2) ⟨rfl, rfl⟩ ?_ ?_)))))
 ·rintro yI1 o (h : w_eqVolS_b1 xA xB yI1 = some o) hk1
  unfold w_eqVolS_b1 at h
  change Wp _ _ _ (w_eqVolS_H1 xA xB yI1) _
  refine Wp.seq (wr (lO 11 (I yI1) (lO 12 (.one (.sl false 110 2 (encs c110 xA))) (lO 13 (I (ln xA)) (lO 14 (B (decide (yI1 < (ln xA)))) (lZ (Wp.c h (fun h => ?_) (fun h => ?_)))) (st_pure (p_ln k110 xA))))))
  ·refine Wp.skip ?_
   refine Wp.seq (Wp.block (Wp.seq (Wp.regionT 8 mixed (by decide +kernel) (SWp.o 17 (.one (.sl false 110 2 (encs c110 xA))) (SWp.o 18 (I yI1) (SWp.p h 19 (fun _ => (.one (.ptr (.slot 17) 1 [0] (Int.toNat yI1 * 2 + 0)))) ?_ (fun x1 gx1 => sl_pure (p_ix k110 (.slot 17) [] 0 gx1))))))))
   intro x1 gx1 h
   refine SWp.o 20 (.agg [.int .i64 x1.Id, .int .i64 x1.Root]) (SWp.o 21 (.one (.sl false 110 2 (encs c110 xB))) (SWp.o 22 (I yI1) (SWp.p h 23 (fun _ => (.one (.ptr (.slot 21) 1 [0] (Int.toNat yI1 * 2 + 0)))) ?_ (fun x2 gx2 => sl_pure (p_ix k110 (.slot 21) [] 0 gx2))))) (sl_pure (p_le k110 (.slot 17) [0] gx1))
   intro x2 gx2 h
   refine SWp.o 24 (.agg [.int .i64 x2.Id, .int .i64 x2.Root]) (SWp.nil (LWp.cl h 25 (fun v1 => (B v1)) rfl (l := [.sv (.agg [.int .i64 x1.Id, .int .i64 x1.Root]), .sv (.agg [.int .i64 x2.Id, .int .i64 x2.Root])]) rfl (fun v hv => w_eqVol_t x1 x2 v hv) (.inl rfl) ?_)) (sl_pure (p_le k110 (.slot 21) [0] gx2))
   intro v1 gv1 h
   refine lO 26 (B (!v1)) (lZ (Wp.c h (fun h => ?_) (fun h => ?_)))
   ·refine wr ?_
    refine lO 4 (B false) (lZ ?_)
    cases h
    replace h : some _ = some _ := hk1 _ rfl
    cases h
    exact Wp.ret ⟨.inr rfl, _, _, rfl, rfl⟩
   refine Wp.skip (Wp.region (lO 15 (I yI1) (lO 16 (I (ad yI1 1)) (lO 5 (I (ad yI1 1)) (lZ ?_)))))
   cases h
   exact ⟨_, rfl, rfl, rfl⟩
  refine Wp.exit ?_
  cases h
  exact ⟨_, rfl, rfl, rfl⟩
 intro v2 h E hE
 refine nt_wp hE ?_
 change Wp _ _ _ w_eqVolS_H2 _
 refine wr (lO 4 (B true) (lZ ?_))
 cases h
 exact Wp.ret ⟨.inr rfl, _, _, rfl, rfl⟩
def w_eqIntS_H1 (xA : List Int) (xB : List Int) (z1 : Int) : St := mkSt [(0, (.one (.sl false 3 1 (encs c3 xA)))), (1, (.one (.sl false 3 1 (encs c3 xB)))), (5, (I z1))] []
def w_eqIntS_H2  : St := mkSt [] []
theorem w_eqIntS_t (xA : List Int) (xB : List Int) (r : Bool) (h : w_eqIntS xA xB = some r) : Gives Tryz.prog 30 [.sv (.one (.sl false 3 1 (encs c3 xA))), .sv (.one (.sl false 3 1 (encs c3 xB)))] (B r) (List.replicate 2 .gone) := by
 unfold w_eqIntS at h
 refine gives_of Tryz.func30 rfl ?_
 rw [Tryz.ntmps30]
 refine wr (lO 4 (B false) (lZ (Wp.seq (wr (lO 6 (.one (.sl false 3 1 (encs c3 xA))) (lO 7 (I (ln xA)) (lO 8 (.one (.sl false 3 1 (encs c3 xB))) (lO 9 (I (ln xB)) (lO 10 (B ((ln xA) != (ln xB))) ?_) (st_pure (p_ln k3 xB)))) (st_pure (p_ln k3 xA))))))))
 refine lZ (Wp.c h (fun h => ?_) (fun h => ?_))
 ·refine wr ?_
  refine lO 4 (B false) (lZ ?_)
  cases h
  exact Wp.ret ⟨.inr rfl, _, _, rfl, rfl⟩
 refine Wp.skip (Wp.seq (wr (lO 5 (I 0) (lZ (Wp.l2 h [0, 1, 5] [] (fun s => (w_eqIntS_H1 xA xB s)) [] [] (fun _ => w_eqIntS_H2) ⟨rfl, rfl⟩ ?_ ?_)))))
 ·rintro yI1 o (h : w_eqIntS_b1 xA xB yI1 = some o) hk1
  unfold w_eqIntS_b1 at h
  change Wp _ _ _ (w_eqIntS_H1 xA xB yI1) _
  refine Wp.seq (wr (lO 11 (I yI1) (lO 12 (.one (.sl false 3 1 (encs c3 xA))) (lO 13 (I (ln xA)) (lO 14 (B (decide (yI1 < (ln xA)))) (lZ (Wp.c h (fun h => ?_) (fun h => ?_)))) (st_pure (p_ln k3 xA))))))
  ·refine Wp.skip ?_
   refine Wp.seq (Wp.block (Wp.seq (Wp.regionS mixed (by decide +kernel) (SWp.o 17 (.one (.sl false 3 1 (encs c3 xA))) (SWp.o 18 (I yI1) (SWp.p h 19 (fun _ => (.one (.ptr (.slot 17) 1 [0] (Int.toNat yI1 * 1 + 0)))) ?_ (fun x1 gx1 => sl_pure (p_ix k3 (.slot 17) [] 0 gx1))))))))
   intro x1 gx1 h
   refine SWp.o 20 (I x1) (SWp.o 21 (.one (.sl false 3 1 (encs c3 xB))) (SWp.o 22 (I yI1) (SWp.p h 23 (fun _ => (.one (.ptr (.slot 21) 1 [0] (Int.toNat yI1 * 1 + 0)))) ?_ (fun x2 gx2 => sl_pure (p_ix k3 (.slot 21) [] 0 gx2))))) (sl_pure (p_lc k3 (.slot 17) [0] 0 (.int .i64 x1) gx1))
   intro x2 gx2 h
   refine SWp.o 24 (I x2) (SWp.o 25 (B (x1 != x2)) (SWp.nil (Wp.c h (fun h => ?_) (fun h => ?_)))) (sl_pure (p_lc k3 (.slot 21) [0] 0 (.int .i64 x2) gx2))
   ·refine wr ?_
    refine lO 4 (B false) (lZ ?_)
    cases h
    replace h : some _ = some _ := hk1 _ rfl
    cases h
    exact Wp.ret ⟨.inr rfl, _, _, rfl, rfl⟩
   refine Wp.skip (Wp.region (lO 15 (I yI1) (lO 16 (I (ad yI1 1)) (lO 5 (I (ad yI1 1)) (lZ ?_)))))
   cases h
   exact ⟨_, rfl, rfl, rfl⟩
  refine Wp.exit ?_
  cases h
  exact ⟨_, rfl, rfl, rfl⟩
 intro v1 h E hE
 refine nt_wp hE ?_
 change Wp _ _ _ w_eqIntS_H2 _
 refine wr (lO 4 (B true) (lZ ?_))
 cases h
 exact Wp.ret ⟨.inr rfl, _, _, rfl, rfl⟩
theorem w_eqKnot_t (xA : Knot) (xB : Knot) (r : Bool) (h : w_eqKnot xA xB = some r) : Gives Tryz.prog 178 [.sv (.agg [.bool xA.Leaf, .sl false 3 1 (encs c3 xA.Kids)]), .sv (.agg [.bool xB.Leaf, .sl false 3 1 (encs c3 xB.Kids)])] (B r) (List.replicate 2 .gone) := by
 unfold w_eqKnot at h
 refine gives_of Tryz.func178 rfl ?_
 rw [Tryz.ntmps178]
 refine wr (LWp.b [] 2 [.bool xA.Leaf, .sl false 3 1 (encs c3 xA.Kids)] (LWp.b [] 3 [.bool xB.Leaf, .sl false 3 1 (encs c3 xB.Kids)] (lO 4 (B false) (lZ (Wp.seq (wr (lO 5 (.one (.ptr (.box 2) 1 [] 0)) (lO 6 (B xA.Leaf) (lO 7 (.one (.ptr (.box 3) 1 [] 0)) ?_)))))))))
 refine lO 8 (B xB.Leaf) (lO 9 (B (!(xA.Leaf == xB.Leaf))) (lZ (Wp.c h (fun h => ?_) (fun h => ?_))))
 ·refine wr ?_
  refine lO 4 (B false) (lZ ?_)
  cases h
  exact Wp.ret ⟨.inr rfl, _, _, rfl, rfl⟩
 refine Wp.skip (Wp.seq (wr (lO 10 (.one (.ptr (.box 2) 1 [] 1)) (lO 11 (.one (.sl false 3 1 (encs c3 xA.Kids))) (lO 12 (.one (.ptr (.box 3) 1 [] 1)) (lO 13 (.one (.sl false 3 1 (encs c3 xB.Kids))) (LWp.cl h 14 (fun v1 => (B v1)) rfl (l := [.sv (.one (.sl false 3 1 (encs c3 xA.Kids))), .sv (.one (.sl false 3 1 (encs c3 xB.Kids)))]) rfl (fun v hv => w_eqIntS_t xA.Kids xB.Kids v hv) (.inl rfl) ?_)))))))
 intro v1 gv1 h
 refine lO 15 (B (!v1)) (lZ (Wp.c h (fun h => ?_) (fun h => ?_)))
 ·refine wr ?_
  refine lO 4 (B false) (lZ ?_)
  cases h
  exact Wp.ret ⟨.inr rfl, _, _, rfl, rfl⟩
 refine Wp.skip (wr (lO 4 (B true) (lZ ?_)))
 cases h
 exact Wp.ret ⟨.inr rfl, _, _, rfl, rfl⟩
def w_eqKnotS_H1 (xA : List Knot) (xB : List Knot) (z1 : Int) : St := mkSt [(0, (.one (.sl false 218 2 (encs (c218 false) xA)))), (1, (.one (.sl false 218 2 (encs (c218 false) xB)))), (5, (I z1))] []
def w_eqKnotS_H2  : St := mkSt [] []
theorem w_eqKnotS_t (xA : List Knot) (xB : List Knot) (r : Bool) (h : w_eqKnotS xA xB = some r) : Gives Tryz.prog 147 [.sv (.one (.sl false 218 2 (encs (c218 false) xA))), .sv (.one (.sl false 218 2 (encs (c218 false) xB)))] (B r) (List.replicate 2 .gone) := by
 unfold w_eqKnotS at h
 refine gives_of Tryz.func147 rfl ?_
 rw [Tryz.ntmps147]
 refine wr (lO 4 (B false) (lZ (Wp.seq (wr (lO 6 (.one (.sl false 218 2 (encs (c218 false) xA))) (lO 7 (I (ln xA)) (lO 8 (.one (.sl false 218 2 (encs (c218 false) xB))) (lO 9 (I (ln xB)) (lO 10 (B ((ln xA) != (ln xB))) ?_) (st_pure (p_ln (k218 false) xB)))) (st_pure (p_ln (k218 false) xA))))))))
 refine lZ (Wp.c h (fun h => ?_) (fun h => ?_))
 ·refine wr ?_
  refine lO 4 (B false) (lZ ?_)
  cases h
  exact Wp.ret ⟨.inr rfl, _, _, rfl, rfl⟩
 refine Wp.skip (Wp.seq (wr (lO 5 (I 0) (lZ (Wp.l2 h [0, 1, 5] [] (fun s => (w_eqKnotS_H1 xA xB s)) [] [] (fun _ => w_eqKnotS_H2) ⟨rfl, rfl⟩ ?_ ?_)))))
 ·rintro yI1 o (h : w_eqKnotS_b1 xA xB yI1 = some o) hk1
  unfold w_eqKnotS_b1 at h
  change Wp _ _ _ (w_eqKnotS_H1 xA xB yI1) _
  refine Wp.seq (wr (lO 11 (I yI1) (lO 12 (.one (.sl false 218 2 (encs (c218 false) xA))) (lO 13 (I (ln xA)) (lO 14 (B (decide (yI1 < (ln xA)))) (lZ (Wp.c h (fun h => ?_) (fun h => ?_)))) (st_pure (p_ln (k218 false) xA))))))
  ·refine Wp.skip ?_
   refine Wp.seq (Wp.block (Wp.seq (Wp.regionT 8 mixed (by decide +kernel) (SWp.o 17 (.one (.sl false 218 2 (encs (c218 false) xA))) (SWp.o 18 (I yI1) (SWp.p h 19 (fun _ => (.one (.ptr (.slot 17) 1 [0] (Int.toNat yI1 * 2 + 0)))) ?_ (fun x1 gx1 => sl_pure (p_ix (k218 false) (.slot 17) [] 0 gx1))))))))
   intro x1 gx1 h
   refine SWp.o 20 (.agg [.bool x1.Leaf, .sl false 3 1 (encs c3 x1.Kids)]) (SWp.o 21 (.one (.sl false 218 2 (encs (c218 false) xB))) (SWp.o 22 (I yI1) (SWp.p h 23 (fun _ => (.one (.ptr (.slot 21) 1 [0] (Int.toNat yI1 * 2 + 0)))) ?_ (fun x2 gx2 => sl_pure (p_ix (k218 false) (.slot 21) [] 0 gx2))))) (sl_pure (p_le (k218 false) (.slot 17) [0] gx1))
   intro x2 gx2 h
   refine SWp.o 24 (.agg [.bool x2.Leaf, .sl false 3 1 (encs c3 x2.Kids)]) (SWp.nil (LWp.cl h 25 (fun v1 => (B v1)) rfl (l := [.sv (.agg [.bool x1.Leaf, .sl false 3 1 (encs c3 x1.Kids)]), .sv (.agg [.bool x2.Leaf, .sl false 3 1 (encs c3 x2.Kids)])]) rfl (fun v hv => w_eqKnot_t x1 x2 v hv) (.inl rfl) ?_)) (sl_pure (p_le (k218 false) (.slot 21) [0] gx2))
   intro v1 gv1 h
   refine lO 26 (B (!v1)) (lZ (Wp.c h (fun h => ?_) (fun h => ?_)))
   ·refine wr ?_
    refine lO 4 (B false) (lZ ?_)
    cases h
    replace h : some _ = some _ := hk1 _ rfl
    cases h
    exact Wp.ret ⟨.inr rfl, _, _, rfl, rfl⟩
   refine Wp.skip (Wp.region (lO 15 (I yI1) (lO 16 (I (ad yI1 1)) (lO 5 (I (ad yI1 1)) (lZ ?_)))))
   cases h
   exact ⟨_, rfl, rfl, rfl⟩
  refine Wp.exit ?_
  cases h
  exact ⟨_, rfl, rfl, rfl⟩
 intro v2 h E hE
 refine nt_wp hE ?_
 change Wp _ _ _ w_eqKnotS_H2 _
 refine wr (lO 4 (B true) (lZ ?_))
 cases h
 exact Wp.ret ⟨.inr rfl, _, _, rfl, rfl⟩
theorem w_eqArena_t (xA : Arena) (xB : Arena) (r : Bool) (h : w_eqArena xA xB = some r) : Gives Tryz.prog 95 [.sv (.agg [.sl false 218 2 (encs (c218 false) xA.Knots)]), .sv (.agg [.sl false 218 2 (encs (c218 false) xB.Knots)])] (B r) (List.replicate 2 .gone) := by
 unfold w_eqArena at h
 refine gives_of Tryz.func95 rfl ?_
 rw [Tryz.ntmps95]
 refine wr (LWp.b [] 2 [.sl false 218 2 (encs (c218 false) xA.Knots)] (LWp.b [] 3 [.sl false 218 2 (encs (c218 false) xB.Knots)] (lO 4 (B false) (lZ (Wp.seq (wr (lO 5 (.one (.ptr (.box 2) 1 [] 0)) (lO 6 (.one (.sl false 218 2 (encs (c218 false) xA.Knots))) (lO 7 (.one (.ptr (.box 3) 1 [] 0)) ?_)))))))))
 refine lO 8 (.one (.sl false 218 2 (encs (c218 false) xB.Knots))) (LWp.cl h 9 (fun v1 => (B v1)) rfl (l := [.sv (.one (.sl false 218 2 (encs (c218 false) xA.Knots))), .sv (.one (.sl false 218 2 (encs (c218 false) xB.Knots)))]) rfl (fun v hv => w_eqKnotS_t xA.Knots xB.Knots v hv) (.inl rfl) ?_)
 intro v1 gv1 h
 refine lO 10 (B (!v1)) (lZ (Wp.c h (fun h => ?_) (fun h => ?_)))
 ·refine wr ?_
  refine lO 4 (B false) (lZ ?_)
  cases h
  exact Wp.ret ⟨.inr rfl, _, _, rfl, rfl⟩
 refine Wp.skip (wr (lO 4 (B true) (lZ ?_)))
 cases h
 exact Wp.ret ⟨.inr rfl, _, _, rfl, rfl⟩
theorem w_eqStore_t (xA : Store) (xB : Store) (r : Bool) (h : w_eqStore xA xB = some r) : Gives Tryz.prog 49 [.sv (.agg [.sl false 110 2 (encs c110 xA.Vols), .sl false 218 2 (encs (c218 false) xA.Arena.Knots), .int .i64 xA.Next]), .sv (.agg [.sl false 110 2 (encs c110 xB.Vols), .sl false 218 2 (encs (c218 false) xB.Arena.Knots), .int .i64 xB.Next])] (B r) (List.replicate 2 .gone) := by
 unfold w_eqStore at h
 refine gives_of Tryz.func49 rfl ?_
 rw [Tryz.ntmps49]
 refine wr (LWp.b [] 2 [.sl false 110 2 (encs c110 xA.Vols), .sl false 218 2 (encs (c218 false) xA.Arena.Knots), .int .i64 xA.Next] (LWp.b [] 3 [.sl false 110 2 (encs c110 xB.Vols), .sl false 218 2 (encs (c218 false) xB.Arena.Knots), .int .i64 xB.Next] (lO 4 (B false) (lZ (Wp.seq (wr (lO 5 (.one (.ptr (.box 2) 1 [] 0)) (lO 6 (.one (.sl false 110 2 (encs c110 xA.Vols))) (lO 7 (.one (.ptr (.box 3) 1 [] 0)) ?_)))))))))
 refine lO 8 (.one (.sl false 110 2 (encs c110 xB.Vols))) (LWp.cl h 9 (fun v1 => (B v1)) rfl (l := [.sv (.one (.sl false 110 2 (encs c110 xA.Vols))), .sv (.one (.sl false 110 2 (encs c110 xB.Vols)))]) rfl (fun v hv => w_eqVolS_t xA.Vols xB.Vols v hv) (.inl rfl) ?_)
 intro v1 gv1 h
 refine lO 10 (B (!v1)) (lZ (Wp.c h (fun h => ?_) (fun h => ?_)))
 ·refine wr ?_
  refine lO 4 (B false) (lZ ?_)
  cases h
  exact Wp.ret ⟨.inr rfl, _, _, rfl, rfl⟩
 refine Wp.skip (Wp.seq (wr (lO 11 (.one (.ptr (.box 2) 1 [] 1)) (lO 12 (.agg [.sl false 218 2 (encs (c218 false) xA.Arena.Knots)]) (lO 13 (.one (.ptr (.box 3) 1 [] 1)) (lO 14 (.agg [.sl false 218 2 (encs (c218 false) xB.Arena.Knots)]) (LWp.cl h 15 (fun v2 => (B v2)) rfl (l := [.sv (.agg [.sl false 218 2 (encs (c218 false) xA.Arena.Knots)]), .sv (.agg [.sl false 218 2 (encs (c218 false) xB.Arena.Knots)])]) rfl (fun v hv => w_eqArena_t xA.Arena xB.Arena v hv) (.inl rfl) ?_)))))))
 intro v2 gv2 h
 refine lO 16 (B (!v2)) (lZ (Wp.c h (fun h => ?_) (fun h => ?_)))
 ·refine wr ?_
  refine lO 4 (B false) (lZ ?_)
  cases h
  exact Wp.ret ⟨.inr rfl, _, _, rfl, rfl⟩
 refine Wp.skip (Wp.seq (wr (lO 17 (.one (.ptr (.box 2) 1 [] 2)) (lO 18 (I xA.Next) (lO 19 (.one (.ptr (.box 3) 1 [] 2)) (lO 20 (I xB.Next) (lO 21 (B (xA.Next != xB.Next)) (lZ (Wp.c h (fun h => ?_) (fun h => ?_))))))))))
 ·refine wr ?_
  refine lO 4 (B false) (lZ ?_)
  cases h
  exact Wp.ret ⟨.inr rfl, _, _, rfl, rfl⟩
 refine Wp.skip (wr (lO 4 (B true) (lZ ?_)))
 cases h
 exact Wp.ret ⟨.inr rfl, _, _, rfl, rfl⟩
set_option maxHeartbeats 4000000 in
theorem w_eqDevice_t (xA : Device) (xB : Device) (r : Bool) (h : w_eqDevice xA xB = some r) : Gives Tryz.prog 15 [.sv (.agg [.sl false 124 3 (encs (c124 false) xA.Flash.Blocks), .sl false 110 2 (encs c110 xA.Store.Vols), .sl false 218 2 (encs (c218 false) xA.Store.Arena.Knots), .int .i64 xA.Store.Next, .int .i64 xA.Seq, .int .i64 xA.Tx, .int .i64 xA.Base]), .sv (.agg [.sl false 124 3 (encs (c124 false) xB.Flash.Blocks), .sl false 110 2 (encs c110 xB.Store.Vols), .sl false 218 2 (encs (c218 false) xB.Store.Arena.Knots), .int .i64 xB.Store.Next, .int .i64 xB.Seq, .int .i64 xB.Tx, .int .i64 xB.Base])] (B r) (List.replicate 2 .gone) := by
 unfold w_eqDevice at h
 refine gives_of Tryz.func15 rfl ?_
 rw [Tryz.ntmps15]
 refine wr (LWp.b [] 2 [.sl false 124 3 (encs (c124 false) xA.Flash.Blocks), .sl false 110 2 (encs c110 xA.Store.Vols), .sl false 218 2 (encs (c218 false) xA.Store.Arena.Knots), .int .i64 xA.Store.Next, .int .i64 xA.Seq, .int .i64 xA.Tx, .int .i64 xA.Base] (LWp.b [] 3 [.sl false 124 3 (encs (c124 false) xB.Flash.Blocks), .sl false 110 2 (encs c110 xB.Store.Vols), .sl false 218 2 (encs (c218 false) xB.Store.Arena.Knots), .int .i64 xB.Store.Next, .int .i64 xB.Seq, .int .i64 xB.Tx, .int .i64 xB.Base] (lO 4 (B false) (lZ (Wp.seq (wr (lO 5 (.one (.ptr (.box 2) 1 [] 0)) (lO 6 (.agg [.sl false 124 3 (encs (c124 false) xA.Flash.Blocks)]) (lO 7 (.one (.ptr (.box 3) 1 [] 0)) ?_)))))))))
 refine lO 8 (.agg [.sl false 124 3 (encs (c124 false) xB.Flash.Blocks)]) (LWp.cl h 9 (fun v1 => (B v1)) rfl (l := [.sv (.agg [.sl false 124 3 (encs (c124 false) xA.Flash.Blocks)]), .sv (.agg [.sl false 124 3 (encs (c124 false) xB.Flash.Blocks)])]) rfl (fun v hv => w_eqFlash_t xA.Flash xB.Flash v hv) (.inl rfl) ?_)
 intro v1 gv1 h
 refine lO 10 (B (!v1)) (lZ (Wp.c h (fun h => ?_) (fun h => ?_)))
 ·refine wr ?_
  refine lO 4 (B false) (lZ ?_)
  cases h
  exact Wp.ret ⟨.inr rfl, _, _, rfl, rfl⟩
 refine Wp.skip (Wp.seq (wr (lO 11 (.one (.ptr (.box 2) 1 [] 1)) (lO 12 (.agg [.sl false 110 2 (encs c110 xA.Store.Vols), .sl false 218 2 (encs (c218 false) xA.Store.Arena.Knots), .int .i64 xA.Store.Next]) (lO 13 (.one (.ptr (.box 3) 1 [] 1)) (lO 14 (.agg [.sl false 110 2 (encs c110 xB.Store.Vols), .sl false 218 2 (encs (c218 false) xB.Store.Arena.Knots), .int .i64 xB.Store.Next]) (LWp.cl h 15 (fun v2 => (B v2)) rfl (l := [.sv (.agg [.sl false 110 2 (encs c110 xA.Store.Vols), .sl false 218 2 (encs (c218 false) xA.Store.Arena.Knots), .int .i64 xA.Store.Next]), .sv (.agg [.sl false 110 2 (encs c110 xB.Store.Vols), .sl false 218 2 (encs (c218 false) xB.Store.Arena.Knots), .int .i64 xB.Store.Next])]) rfl (fun v hv => w_eqStore_t xA.Store xB.Store v hv) (.inl rfl) ?_)))))))
 intro v2 gv2 h
 refine lO 16 (B (!v2)) (lZ (Wp.c h (fun h => ?_) (fun h => ?_)))
 ·refine wr ?_
  refine lO 4 (B false) (lZ ?_)
  cases h
  exact Wp.ret ⟨.inr rfl, _, _, rfl, rfl⟩
 refine Wp.skip (Wp.seq (wr (lO 17 (.one (.ptr (.box 2) 1 [] 4)) (lO 18 (I xA.Seq) (lO 19 (.one (.ptr (.box 3) 1 [] 4)) (lO 20 (I xB.Seq) (lO 21 (B (xA.Seq != xB.Seq)) (lZ (Wp.c h (fun h => ?_) (fun h => ?_))))))))))
 ·refine wr ?_
  refine lO 4 (B false) (lZ ?_)
  cases h
  exact Wp.ret ⟨.inr rfl, _, _, rfl, rfl⟩
 refine Wp.skip (Wp.seq (wr (lO 22 (.one (.ptr (.box 2) 1 [] 5)) (lO 23 (I xA.Tx) (lO 24 (.one (.ptr (.box 3) 1 [] 5)) (lO 25 (I xB.Tx) (lO 26 (B (xA.Tx != xB.Tx)) (lZ (Wp.c h (fun h => ?_) (fun h => ?_))))))))))
 ·refine wr ?_
  refine lO 4 (B false) (lZ ?_)
  cases h
  exact Wp.ret ⟨.inr rfl, _, _, rfl, rfl⟩
 refine Wp.skip (Wp.seq (wr (lO 27 (.one (.ptr (.box 2) 1 [] 6)) (lO 28 (I xA.Base) (lO 29 (.one (.ptr (.box 3) 1 [] 6)) (lO 30 (I xB.Base) (lO 31 (B (xA.Base != xB.Base)) (lZ (Wp.c h (fun h => ?_) (fun h => ?_))))))))))
 ·refine wr ?_
  refine lO 4 (B false) (lZ ?_)
  cases h
  exact Wp.ret ⟨.inr rfl, _, _, rfl, rfl⟩
 refine Wp.skip (wr (lO 4 (B true) (lZ ?_)))
 cases h
 exact Wp.ret ⟨.inr rfl, _, _, rfl, rfl⟩
def w_markText_H1 (z1 : Int) (z2 : ByteArray) : St := mkSt [(0, (I z1)), (3, (Y z2))] []
def w_markText_H2 (z3 : ByteArray) : St := mkSt [(3, (Y z3))] []
theorem w_markText_t (xK : Int) (r : ByteArray) (h : w_markText xK = some r) : Gives Tryz.prog 53 [.sv (I xK)] (Y r) (List.replicate 1 .gone) := by
 unfold w_markText at h
 refine gives_of Tryz.func53 rfl ?_
 rw [Tryz.ntmps53]
 refine wr (lO 2 (Y (bs [])) (lZ (Wp.seq (wr (lO 4 (I xK) (lO 5 (B (decide (xK ≤ 0))) (lZ (Wp.c h (fun h => ?_) (fun h => ?_)))))))))
 ·refine wr ?_
  refine lO 2 (Y (bs [109, 48])) (lZ ?_)
  cases h
  exact Wp.ret ⟨.inr rfl, _, _, rfl, rfl⟩
 refine Wp.skip (wr (lO 3 (Y (bs [])) (lZ (Wp.seq (Wp.l1 h [0, 3] [] (fun s => (w_markText_H1 s.1 s.2)) [3] [] (fun s => (w_markText_H2 s)) ⟨rfl, rfl⟩ ?_ ?_)))))
 ·rintro ⟨yK1, yOut1⟩ o (h : w_markText_b1 yK1 yOut1 = some o)
  unfold w_markText_b1 at h
  change Wp _ _ _ (w_markText_H1 yK1 yOut1) _
  refine Wp.seq (wr (lO 6 (I yK1) (lO 7 (B (decide (yK1 > 0))) (lZ (Wp.c h (fun h => ?_) (fun h => ?_))))))
  ·refine Wp.skip ?_
   refine Wp.block (wr (lO 8 (I yK1) (lO 9 (I (Int.tmod yK1 10)) (lO 10 (I (ad 48 (Int.tmod yK1 10))) (lO 11 (.one (.int .u8 (IntKind.u8.wrap (ad 48 (Int.tmod yK1 10))))) (LWp.m false [] 12 (.one (.sl true 5 1 (encs c5 [(IntKind.u8.wrap (ad 48 (Int.tmod yK1 10)))]))) (lO 13 (Y (strB [(IntKind.u8.wrap (ad 48 (Int.tmod yK1 10)))])) (lO 14 (Y yOut1) (LWp.p h 15 (fun x1 => (Y x1)) ?_ (fun x1 gx1 => st_pure (p_cat gx1)))) (st_pure (p_cv (fun _ => rfl) [(IntKind.u8.wrap (ad 48 (Int.tmod yK1 10)))])))))))))
   intro x1 gx1 h
   refine lO 3 (Y x1) (lZ (Wp.region (lO 16 (I yK1) (lO 17 (I (qu yK1 10)) (lO 0 (I (qu yK1 10)) (lZ ?_))))))
   cases h
   exact ⟨_, rfl, rfl, rfl⟩
  refine Wp.exit ?_
  cases h
  exact ⟨_, rfl, rfl, rfl⟩
 intro v1 h E hE
 refine nt_wp hE ?_
 change Wp _ _ _ (w_markText_H2 v1) _
 refine wr (lO 18 (Y v1) (LWp.p h 19 (fun x2 => (Y x2)) ?_ (fun x2 gx2 => st_pure (p_cat gx2))))
 intro x2 gx2 h
 refine lO 2 (Y x2) (lZ ?_)
 cases h
 exact Wp.ret ⟨.inr rfl, _, _, rfl, rfl⟩
def w_markLeafS_H1 (z1 : List Leaf) (z2 : Int) (z3 : Int) : St := mkStF [(0, (.one (.sl true 165 2 (encs c165 z1)))), (1, (I z2)), (5, (I z3))] []
def w_markLeafS_H2 (z4 : List Leaf) (z5 : Int) : St := mkStF [(0, (.one (.sl true 165 2 (encs c165 z4)))), (1, (I z5))] []
theorem w_markLeafS_t (xA : List Leaf) (xK : Int) (r : Int × List Leaf) (h : w_markLeafS xA xK = some r) : Gives Tryz.prog 148 [.sv (.one (.sl true 165 2 (encs c165 xA))), .sv (I xK)] (I r.1) (.sv (.one (.sl true 165 2 (encs c165 r.2))) :: List.replicate 1 .gone) := by
 unfold w_markLeafS at h
 refine gives_lent Tryz.func148 rfl ?_
 rw [Tryz.ntmps148]
 refine wr (lO 4 (I 0) (lZ (Wp.seq (wr (lO 5 (I 0) (lZ (Wp.l1 h [0, 1, 5] [] (fun s => (w_markLeafS_H1 s.1 s.2.1 s.2.2)) [0, 1] [] (fun s => (w_markLeafS_H2 s.1 s.2)) ⟨rfl, rfl⟩ ?_ ?_)))))))
 ·rintro ⟨yA1, yK1, yI1⟩ o (h : w_markLeafS_b1 yA1 yK1 yI1 = some o)
  unfold w_markLeafS_b1 at h
  change Wp _ _ _ (w_markLeafS_H1 yA1 yK1 yI1) _
  refine Wp.seq (wr (lO 6 (I yI1) (lO 7 (.one (.view (.slot 0) 0 [] 0)) (lO 8 (I (ln yA1)) (lO 9 (B (decide (yI1 < (ln yA1)))) (lZ (Wp.c h (fun h => ?_) (fun h => ?_)))) (st_pure (p_ln k165 yA1))))))
  ·refine Wp.skip ?_
   refine Wp.seq (Wp.block (wr (lO 12 (.one (.view (.slot 0) 0 [] 0)) (lO 13 (I yI1) (lO 14 (I yK1) (LWp.p h 15 (fun _ => (.one (.ptr (.slot 0) 0 [0] (Int.toNat yI1 * 2 + 0)))) ?_ (fun x1 gx1 => st_pure (p_ix k165 (.slot 0) [] 0 gx1))))))))
   intro x1 gx1 h
   refine lO 16 (.one (.ptr (.slot 0) 0 [0] (Int.toNat yI1 * 2 + 0))) (LWp.sb [] (.slot 0) [.sl true 165 2 (encs c165 (si yA1 yI1 (Leaf.mk yK1 x1.Text)))] (lZ (wr (lO 17 (I yK1) (lO 18 (I (ad yK1 1)) (lO 1 (I (ad yK1 1)) (lZ (wr (lO 19 (.one (.view (.slot 0) 1 [] 0)) ?_)))))))) (s_st [] (q := [0]) (cs := [.sl true 165 2 (encs c165 yA1)]) (xs := [.int .i64 yK1]) (At.one (setRow_gi k165 (k := 0) (z := (Leaf.mk yK1 x1.Text)) gx1 rfl rfl)) (fit_gi k165 (k := 0) gx1 rfl))) (st_pure (p_fa k165 (.slot 0) [0] 0 gx1))
   refine lO 20 (I yI1) (lO 21 (I (ad yK1 1)) (LWp.cl h 22 (fun v1 => (Y v1)) rfl (l := [.sv (.one (.int .i64 (ad yK1 1)))]) rfl (fun v hv => w_markText_t (ad yK1 1) v hv) (.inl rfl) ?_))
   intro v1 gv1 h
   refine LWp.p h 23 (fun _ => (.one (.ptr (.slot 0) 1 [0] (Int.toNat yI1 * 2 + 0)))) ?_ (fun x2 gx2 => st_pure (p_ix k165 (.slot 0) [] 0 gx2))
   intro x2 gx2 h
   refine lO 24 (.one (.ptr (.slot 0) 1 [0] (Int.toNat yI1 * 2 + 1))) (LWp.sb [] (.slot 0) [.sl true 165 2 (encs c165 (si (si yA1 yI1 (Leaf.mk yK1 x1.Text)) yI1 (Leaf.mk x2.Is v1)))] (lZ (Wp.region (lO 25 (I (ad yK1 1)) (lO 26 (I (ad (ad yK1 1) 1)) (lO 1 (I (ad (ad yK1 1) 1)) (lZ (Wp.region (lO 10 (I yI1) ?_)))))))) (s_st [] (q := [0]) (cs := [.sl true 165 2 (encs c165 (si yA1 yI1 (Leaf.mk yK1 x1.Text)))]) (xs := [.str v1]) (At.one (setRow_gi k165 (k := 1) (z := (Leaf.mk x2.Is v1)) gx2 rfl rfl)) (fit_gi k165 (k := 1) gx2 rfl))) (st_pure (p_fa k165 (.slot 0) [0] 0 gx2))
   refine lO 11 (I (ad yI1 1)) (lO 5 (I (ad yI1 1)) (lZ ?_))
   cases h
   exact ⟨_, rfl, rfl, rfl⟩
  refine Wp.exit ?_
  cases h
  exact ⟨_, rfl, rfl, rfl⟩
 intro v2 h E hE
 refine nt_wp hE ?_
 change Wp _ _ _ (w_markLeafS_H2 v2.1 v2.2) _
 refine wr (lO 27 (I v2.2) (lO 4 (I v2.2) (lZ ?_)))
 cases h
 exact Wp.ret ⟨.inr rfl, _, _, rfl, rfl, rfl, rfl⟩
def w_markBlockS_H1 (z1 : List Block) (z2 : Int) (z3 : Int) : St := mkStF [(0, (.one (.sl true 124 3 (encs (c124 true) z1)))), (1, (I z2)), (5, (I z3))] []
def w_markBlockS_H2 (z4 : List Block) (z5 : Int) : St := mkStF [(0, (.one (.sl true 124 3 (encs (c124 true) z4)))), (1, (I z5))] []
theorem w_markBlockS_t (xA : List Block) (xK : Int) (r : Int × List Block) (h : w_markBlockS xA xK = some r) : Gives Tryz.prog 96 [.sv (.one (.sl true 124 3 (encs (c124 true) xA))), .sv (I xK)] (I r.1) (.sv (.one (.sl true 124 3 (encs (c124 true) r.2))) :: List.replicate 1 .gone) := by
 unfold w_markBlockS at h
 refine gives_lent Tryz.func96 rfl ?_
 rw [Tryz.ntmps96]
 refine wr (lO 4 (I 0) (lZ (Wp.seq (wr (lO 5 (I 0) (lZ (Wp.l1 h [0, 1, 5] [] (fun s => (w_markBlockS_H1 s.1 s.2.1 s.2.2)) [0, 1] [] (fun s => (w_markBlockS_H2 s.1 s.2)) ⟨rfl, rfl⟩ ?_ ?_)))))))
 ·rintro ⟨yA1, yK1, yI1⟩ o (h : w_markBlockS_b1 yA1 yK1 yI1 = some o)
  unfold w_markBlockS_b1 at h
  change Wp _ _ _ (w_markBlockS_H1 yA1 yK1 yI1) _
  refine Wp.seq (wr (lO 6 (I yI1) (lO 7 (.one (.view (.slot 0) 0 [] 0)) (lO 8 (I (ln yA1)) (lO 9 (B (decide (yI1 < (ln yA1)))) (lZ (Wp.c h (fun h => ?_) (fun h => ?_)))) (st_pure (p_ln (k124 true) yA1))))))
  ·refine Wp.skip ?_
   refine Wp.seq (Wp.block (wr (lO 12 (.one (.view (.slot 0) 0 [] 0)) (lO 13 (I yI1) (lO 14 (I yK1) (lO 15 (I (Int.tmod yK1 3)) (lO 16 (B ((Int.tmod yK1 3) == 0)) (LWp.p h 17 (fun _ => (.one (.ptr (.slot 0) 0 [0] (Int.toNat yI1 * 3 + 0)))) ?_ (fun x1 gx1 => st_pure (p_ix (k124 true) (.slot 0) [] 0 gx1))))))))))
   intro x1 gx1 h
   refine lO 18 (.one (.ptr (.slot 0) 0 [0] (Int.toNat yI1 * 3 + 0))) (LWp.sb [] (.slot 0) [.sl true 124 3 (encs (c124 true) (si yA1 yI1 (Block.mk ((Int.tmod yK1 3) == 0) x1.Wear x1.Leaves)))] (lZ (wr (lO 19 (I yK1) (lO 20 (I (ad yK1 1)) (lO 1 (I (ad yK1 1)) (lZ (wr (lO 21 (.one (.view (.slot 0) 1 [] 0)) ?_)))))))) (s_st [] (q := [0]) (cs := [.sl true 124 3 (encs (c124 true) yA1)]) (xs := [.bool ((Int.tmod yK1 3) == 0)]) (At.one (setRow_gi (k124 true) (k := 0) (z := (Block.mk ((Int.tmod yK1 3) == 0) x1.Wear x1.Leaves)) gx1 rfl rfl)) (fit_gi (k124 true) (k := 0) gx1 rfl))) (st_pure (p_fa (k124 true) (.slot 0) [0] 0 gx1))
   refine lO 22 (I yI1) (lO 23 (I (ad yK1 1)) (LWp.p h 24 (fun _ => (.one (.ptr (.slot 0) 1 [0] (Int.toNat yI1 * 3 + 0)))) ?_ (fun x2 gx2 => st_pure (p_ix (k124 true) (.slot 0) [] 0 gx2))))
   intro x2 gx2 h
   refine lO 25 (.one (.ptr (.slot 0) 1 [0] (Int.toNat yI1 * 3 + 1))) (LWp.sb [] (.slot 0) [.sl true 124 3 (encs (c124 true) (si (si yA1 yI1 (Block.mk ((Int.tmod yK1 3) == 0) x1.Wear x1.Leaves)) yI1 (Block.mk x2.Bad (ad yK1 1) x2.Leaves)))] (lZ (wr (lO 26 (I (ad yK1 1)) (lO 27 (I (ad (ad yK1 1) 1)) (lO 1 (I (ad (ad yK1 1) 1)) (lZ (Wp.region (lO 28 (.one (.view (.slot 0) 2 [] 0)) ?_)))))))) (s_st [] (q := [0]) (cs := [.sl true 124 3 (encs (c124 true) (si yA1 yI1 (Block.mk ((Int.tmod yK1 3) == 0) x1.Wear x1.Leaves)))]) (xs := [.int .i64 (ad yK1 1)]) (At.one (setRow_gi (k124 true) (k := 1) (z := (Block.mk x2.Bad (ad yK1 1) x2.Leaves)) gx2 rfl rfl)) (fit_gi (k124 true) (k := 1) gx2 rfl))) (st_pure (p_fa (k124 true) (.slot 0) [0] 0 gx2))
   refine lO 29 (I yI1) (LWp.p h 30 (fun _ => (.one (.ptr (.slot 0) 2 [0] (Int.toNat yI1 * 3 + 0)))) ?_ (fun x3 gx3 => st_pure (p_ix (k124 true) (.slot 0) [] 0 gx3)))
   intro x3 gx3 h
   refine lO 31 (.one (.ptr (.slot 0) 2 [0] (Int.toNat yI1 * 3 + 2))) (lO 32 (.one (.view (.slot 0) 2 [0] (Int.toNat yI1 * 3 + 2))) (lO 33 (I (ad (ad yK1 1) 1)) (LWp.leb h (.slot 0) [0] (Int.toNat yI1 * 3 + 2) [.sl true 124 3 (encs (c124 true) (si (si yA1 yI1 (Block.mk ((Int.tmod yK1 3) == 0) x1.Wear x1.Leaves)) yI1 (Block.mk x2.Bad (ad yK1 1) x2.Leaves)))] 34 (e := 165) (sz := 2) (encs c165 x3.Leaves) (ad (ad yK1 1) 1) (fun v => v.1) (fun v1 => (encs c165 v1.2)) (fun v1 => [.sl true 124 3 (encs (c124 true) (si (si (si yA1 yI1 (Block.mk ((Int.tmod yK1 3) == 0) x1.Wear x1.Leaves)) yI1 (Block.mk x2.Bad (ad yK1 1) x2.Leaves)) yI1 (Block.mk x3.Bad x3.Wear v1.2)))]) rfl (fun v1 => At.one (set_gi (k124 true) (k := 2) (z := (Block.mk x3.Bad x3.Wear v1.2)) gx3 rfl rfl)) ((gi_cellb (k124 true) (k := 2) gx3).trans rfl) (fun v hv => w_markLeafS_t x3.Leaves (ad (ad yK1 1) 1) v hv) (ns165 _) (fun _ => ns165 _) ?_ (.inl ⟨0, _, rfl, rfl, rfl, rfl, fun _ _ _ _ _ _ _ h => h⟩))) (st_pure (p_lc (k124 true) (.slot 0) [0] 2 (.sl true 165 2 (encs c165 x3.Leaves)) gx3))) (st_pure (p_fa (k124 true) (.slot 0) [0] 0 gx3))
   intro v1 gv1 h
   refine lO 1 (I v1.1) (lZ (Wp.region (lO 10 (I yI1) (lO 11 (I (ad yI1 1)) (lO 5 (I (ad yI1 1)) (lZ ?_))))))
   cases h
   exact ⟨_, rfl, rfl, rfl⟩
  refine Wp.exit ?_
  cases h
  exact ⟨_, rfl, rfl, rfl⟩
 intro v2 h E hE
 refine nt_wp hE ?_
 change Wp _ _ _ (w_markBlockS_H2 v2.1 v2.2) _
 refine wr (lO 35 (I v2.2) (lO 4 (I v2.2) (lZ ?_)))
 cases h
 exact Wp.ret ⟨.inr rfl, _, _, rfl, rfl, rfl, rfl⟩
theorem w_markFlash_t (xA : Flash) (xK : Int) (r : Int) (h : w_markFlash xA xK = some r) : Gives Tryz.prog 51 [.sv (.agg [.sl true 124 3 (encs (c124 true) xA.Blocks)]), .sv (I xK)] (I r) (List.replicate 2 .gone) := by
 unfold w_markFlash at h
 refine gives_of Tryz.func51 rfl ?_
 rw [Tryz.ntmps51]
 refine wr (LWp.b [(.slot 0, [.junk])] 2 [.sl true 124 3 (encs (c124 true) xA.Blocks)] (lO 4 (I 0) (lZ (wr (lO 5 (.one (.ptr (.box 2) 1 [] 0)) (lO 6 (.one (.view (.box 2) 1 [] 0)) (lO 7 (I xK) (LWp.leb h (.box 2) [] 0 [.sl true 124 3 (encs (c124 true) xA.Blocks)] 8 (e := 124) (sz := 3) (encs (c124 true) xA.Blocks) xK (fun v => v.1) (fun v1 => (encs (c124 true) v1.2)) (fun v1 => [.sl true 124 3 (encs (c124 true) v1.2)]) rfl (fun v1 => At.nl rfl) rfl (fun v hv => w_markBlockS_t xA.Blocks xK v hv) (ns124 _) (fun _ => ns124 _) ?_ (.inr ⟨rfl, rfl⟩)))))))))
 intro v1 gv1 h
 refine lO 1 (I v1.1) (lZ (wr (lO 9 (I v1.1) (lO 4 (I v1.1) (lZ ?_)))))
 cases h
 exact Wp.ret ⟨.inr rfl, _, _, rfl, rfl⟩
def w_markVolS_H1 (z1 : List Vol) (z2 : Int) (z3 : Int) : St := mkStF [(0, (.one (.sl true 110 2 (encs c110 z1)))), (1, (I z2)), (5, (I z3))] []
def w_markVolS_H2 (z4 : List Vol) (z5 : Int) : St := mkStF [(0, (.one (.sl true 110 2 (encs c110 z4)))), (1, (I z5))] []
theorem w_markVolS_t (xA : List Vol) (xK : Int) (r : Int × List Vol) (h : w_markVolS xA xK = some r) : Gives Tryz.prog 97 [.sv (.one (.sl true 110 2 (encs c110 xA))), .sv (I xK)] (I r.1) (.sv (.one (.sl true 110 2 (encs c110 r.2))) :: List.replicate 1 .gone) := by
 unfold w_markVolS at h
 refine gives_lent Tryz.func97 rfl ?_
 rw [Tryz.ntmps97]
 refine wr (lO 4 (I 0) (lZ (Wp.seq (wr (lO 5 (I 0) (lZ (Wp.l1 h [0, 1, 5] [] (fun s => (w_markVolS_H1 s.1 s.2.1 s.2.2)) [0, 1] [] (fun s => (w_markVolS_H2 s.1 s.2)) ⟨rfl, rfl⟩ ?_ ?_)))))))
 ·rintro ⟨yA1, yK1, yI1⟩ o (h : w_markVolS_b1 yA1 yK1 yI1 = some o)
  unfold w_markVolS_b1 at h
  change Wp _ _ _ (w_markVolS_H1 yA1 yK1 yI1) _
  refine Wp.seq (wr (lO 6 (I yI1) (lO 7 (.one (.view (.slot 0) 0 [] 0)) (lO 8 (I (ln yA1)) (lO 9 (B (decide (yI1 < (ln yA1)))) (lZ (Wp.c h (fun h => ?_) (fun h => ?_)))) (st_pure (p_ln k110 yA1))))))
  ·refine Wp.skip ?_
   refine Wp.seq (Wp.block (wr (lO 12 (.one (.view (.slot 0) 0 [] 0)) (lO 13 (I yI1) (lO 14 (I yK1) (LWp.p h 15 (fun _ => (.one (.ptr (.slot 0) 0 [0] (Int.toNat yI1 * 2 + 0)))) ?_ (fun x1 gx1 => st_pure (p_ix k110 (.slot 0) [] 0 gx1))))))))
   intro x1 gx1 h
   refine lO 16 (.one (.ptr (.slot 0) 0 [0] (Int.toNat yI1 * 2 + 0))) (LWp.sb [] (.slot 0) [.sl true 110 2 (encs c110 (si yA1 yI1 (Vol.mk yK1 x1.Root)))] (lZ (wr (lO 17 (I yK1) (lO 18 (I (ad yK1 1)) (lO 1 (I (ad yK1 1)) (lZ (wr (lO 19 (.one (.view (.slot 0) 1 [] 0)) ?_)))))))) (s_st [] (q := [0]) (cs := [.sl true 110 2 (encs c110 yA1)]) (xs := [.int .i64 yK1]) (At.one (setRow_gi k110 (k := 0) (z := (Vol.mk yK1 x1.Root)) gx1 rfl rfl)) (fit_gi k110 (k := 0) gx1 rfl))) (st_pure (p_fa k110 (.slot 0) [0] 0 gx1))
   refine lO 20 (I yI1) (lO 21 (I (ad yK1 1)) (LWp.p h 22 (fun _ => (.one (.ptr (.slot 0) 1 [0] (Int.toNat yI1 * 2 + 0)))) ?_ (fun x2 gx2 => st_pure (p_ix k110 (.slot 0) [] 0 gx2))))
   intro x2 gx2 h
   refine lO 23 (.one (.ptr (.slot 0) 1 [0] (Int.toNat yI1 * 2 + 1))) (LWp.sb [] (.slot 0) [.sl true 110 2 (encs c110 (si (si yA1 yI1 (Vol.mk yK1 x1.Root)) yI1 (Vol.mk x2.Id (ad yK1 1))))] (lZ (Wp.region (lO 24 (I (ad yK1 1)) (lO 25 (I (ad (ad yK1 1) 1)) (lO 1 (I (ad (ad yK1 1) 1)) (lZ (Wp.region (lO 10 (I yI1) ?_)))))))) (s_st [] (q := [0]) (cs := [.sl true 110 2 (encs c110 (si yA1 yI1 (Vol.mk yK1 x1.Root)))]) (xs := [.int .i64 (ad yK1 1)]) (At.one (setRow_gi k110 (k := 1) (z := (Vol.mk x2.Id (ad yK1 1))) gx2 rfl rfl)) (fit_gi k110 (k := 1) gx2 rfl))) (st_pure (p_fa k110 (.slot 0) [0] 0 gx2))
   refine lO 11 (I (ad yI1 1)) (lO 5 (I (ad yI1 1)) (lZ ?_))
   cases h
   exact ⟨_, rfl, rfl, rfl⟩
  refine Wp.exit ?_
  cases h
  exact ⟨_, rfl, rfl, rfl⟩
 intro v1 h E hE
 refine nt_wp hE ?_
 change Wp _ _ _ (w_markVolS_H2 v1.1 v1.2) _
 refine wr (lO 26 (I v1.2) (lO 4 (I v1.2) (lZ ?_)))
 cases h
 exact Wp.ret ⟨.inr rfl, _, _, rfl, rfl, rfl, rfl⟩
def w_markIntS_H1 (z1 : List Int) (z2 : Int) (z3 : Int) : St := mkStF [(0, (.one (.sl true 3 1 (encs c3 z1)))), (1, (I z2)), (5, (I z3))] []
def w_markIntS_H2 (z4 : List Int) (z5 : Int) : St := mkStF [(0, (.one (.sl true 3 1 (encs c3 z4)))), (1, (I z5))] []
theorem w_markIntS_t (xA : List Int) (xK : Int) (r : Int × List Int) (h : w_markIntS xA xK = some r) : Gives Tryz.prog 31 [.sv (.one (.sl true 3 1 (encs c3 xA))), .sv (I xK)] (I r.1) (.sv (.one (.sl true 3 1 (encs c3 r.2))) :: List.replicate 1 .gone) := by
 unfold w_markIntS at h
 refine gives_lent Tryz.func31 rfl ?_
 rw [Tryz.ntmps31]
 refine wr (lO 4 (I 0) (lZ (Wp.seq (wr (lO 5 (I 0) (lZ (Wp.l1 h [0, 1, 5] [] (fun s => (w_markIntS_H1 s.1 s.2.1 s.2.2)) [0, 1] [] (fun s => (w_markIntS_H2 s.1 s.2)) ⟨rfl, rfl⟩ ?_ ?_)))))))
 ·rintro ⟨yA1, yK1, yI1⟩ o (h : w_markIntS_b1 yA1 yK1 yI1 = some o)
  unfold w_markIntS_b1 at h
  change Wp _ _ _ (w_markIntS_H1 yA1 yK1 yI1) _
  refine Wp.seq (wr (lO 6 (I yI1) (lO 7 (.one (.view (.slot 0) 0 [] 0)) (lO 8 (I (ln yA1)) (lO 9 (B (decide (yI1 < (ln yA1)))) (lZ (Wp.c h (fun h => ?_) (fun h => ?_)))) (st_pure (p_ln k3 yA1))))))
  ·refine Wp.skip ?_
   refine Wp.seq (Wp.block (wr (lO 12 (.one (.view (.slot 0) 0 [] 0)) (lO 13 (I yI1) (lO 14 (I yK1) (LWp.p h 15 (fun _ => (.one (.ptr (.slot 0) 0 [0] (Int.toNat yI1 * 1 + 0)))) ?_ (fun x1 gx1 => st_pure (p_ix k3 (.slot 0) [] 0 gx1))))))))
   intro x1 gx1 h
   refine LWp.sb [] (.slot 0) [.sl true 3 1 (encs c3 (si yA1 yI1 yK1))] (lZ (Wp.region (lO 16 (I yK1) (lO 17 (I (ad yK1 1)) (lO 1 (I (ad yK1 1)) (lZ (Wp.region (lO 10 (I yI1) (lO 11 (I (ad yI1 1)) ?_))))))))) (s_st [] (q := [0]) (cs := [.sl true 3 1 (encs c3 yA1)]) (xs := [.int .i64 yK1]) (At.one (setRow_gi k3 (k := 0) (z := yK1) gx1 rfl rfl)) (fit_gi k3 (k := 0) gx1 rfl))
   refine lO 5 (I (ad yI1 1)) (lZ ?_)
   cases h
   exact ⟨_, rfl, rfl, rfl⟩
  refine Wp.exit ?_
  cases h
  exact ⟨_, rfl, rfl, rfl⟩
 intro v1 h E hE
 refine nt_wp hE ?_
 change Wp _ _ _ (w_markIntS_H2 v1.1 v1.2) _
 refine wr (lO 18 (I v1.2) (lO 4 (I v1.2) (lZ ?_)))
 cases h
 exact Wp.ret ⟨.inr rfl, _, _, rfl, rfl, rfl, rfl⟩
def w_markKnotS_H1 (z1 : List Knot) (z2 : Int) (z3 : Int) : St := mkStF [(0, (.one (.sl true 218 2 (encs (c218 true) z1)))), (1, (I z2)), (5, (I z3))] []
def w_markKnotS_H2 (z4 : List Knot) (z5 : Int) : St := mkStF [(0, (.one (.sl true 218 2 (encs (c218 true) z4)))), (1, (I z5))] []
theorem w_markKnotS_t (xA : List Knot) (xK : Int) (r : Int × List Knot) (h : w_markKnotS xA xK = some r) : Gives Tryz.prog 149 [.sv (.one (.sl true 218 2 (encs (c218 true) xA))), .sv (I xK)] (I r.1) (.sv (.one (.sl true 218 2 (encs (c218 true) r.2))) :: List.replicate 1 .gone) := by
 unfold w_markKnotS at h
 refine gives_lent Tryz.func149 rfl ?_
 rw [Tryz.ntmps149]
 refine wr (lO 4 (I 0) (lZ (Wp.seq (wr (lO 5 (I 0) (lZ (Wp.l1 h [0, 1, 5] [] (fun s => (w_markKnotS_H1 s.1 s.2.1 s.2.2)) [0, 1] [] (fun s => (w_markKnotS_H2 s.1 s.2)) ⟨rfl, rfl⟩ ?_ ?_)))))))
 ·rintro ⟨yA1, yK1, yI1⟩ o (h : w_markKnotS_b1 yA1 yK1 yI1 = some o)
  unfold w_markKnotS_b1 at h
  change Wp _ _ _ (w_markKnotS_H1 yA1 yK1 yI1) _
  refine Wp.seq (wr (lO 6 (I yI1) (lO 7 (.one (.view (.slot 0) 0 [] 0)) (lO 8 (I (ln yA1)) (lO 9 (B (decide (yI1 < (ln yA1)))) (lZ (Wp.c h (fun h => ?_) (fun h => ?_)))) (st_pure (p_ln (k218 true) yA1))))))
  ·refine Wp.skip ?_
   refine Wp.seq (Wp.block (wr (lO 12 (.one (.view (.slot 0) 0 [] 0)) (lO 13 (I yI1) (lO 14 (I yK1) (lO 15 (I (Int.tmod yK1 3)) (lO 16 (B ((Int.tmod yK1 3) == 0)) (LWp.p h 17 (fun _ => (.one (.ptr (.slot 0) 0 [0] (Int.toNat yI1 * 2 + 0)))) ?_ (fun x1 gx1 => st_pure (p_ix (k218 true) (.slot 0) [] 0 gx1))))))))))
   intro x1 gx1 h
   refine lO 18 (.one (.ptr (.slot 0) 0 [0] (Int.toNat yI1 * 2 + 0))) (LWp.sb [] (.slot 0) [.sl true 218 2 (encs (c218 true) (si yA1 yI1 (Knot.mk ((Int.tmod yK1 3) == 0) x1.Kids)))] (lZ (wr (lO 19 (I yK1) (lO 20 (I (ad yK1 1)) (lO 1 (I (ad yK1 1)) (lZ (Wp.region (lO 21 (.one (.view (.slot 0) 1 [] 0)) ?_)))))))) (s_st [] (q := [0]) (cs := [.sl true 218 2 (encs (c218 true) yA1)]) (xs := [.bool ((Int.tmod yK1 3) == 0)]) (At.one (setRow_gi (k218 true) (k := 0) (z := (Knot.mk ((Int.tmod yK1 3) == 0) x1.Kids)) gx1 rfl rfl)) (fit_gi (k218 true) (k := 0) gx1 rfl))) (st_pure (p_fa (k218 true) (.slot 0) [0] 0 gx1))
   refine lO 22 (I yI1) (LWp.p h 23 (fun _ => (.one (.ptr (.slot 0) 1 [0] (Int.toNat yI1 * 2 + 0)))) ?_ (fun x2 gx2 => st_pure (p_ix (k218 true) (.slot 0) [] 0 gx2)))
   intro x2 gx2 h
   refine lO 24 (.one (.ptr (.slot 0) 1 [0] (Int.toNat yI1 * 2 + 1))) (lO 25 (.one (.view (.slot 0) 1 [0] (Int.toNat yI1 * 2 + 1))) (lO 26 (I (ad yK1 1)) (LWp.leb h (.slot 0) [0] (Int.toNat yI1 * 2 + 1) [.sl true 218 2 (encs (c218 true) (si yA1 yI1 (Knot.mk ((Int.tmod yK1 3) == 0) x1.Kids)))] 27 (e := 3) (sz := 1) (encs c3 x2.Kids) (ad yK1 1) (fun v => v.1) (fun v1 => (encs c3 v1.2)) (fun v1 => [.sl true 218 2 (encs (c218 true) (si (si yA1 yI1 (Knot.mk ((Int.tmod yK1 3) == 0) x1.Kids)) yI1 (Knot.mk x2.Leaf v1.2)))]) rfl (fun v1 => At.one (set_gi (k218 true) (k := 1) (z := (Knot.mk x2.Leaf v1.2)) gx2 rfl rfl)) ((gi_cellb (k218 true) (k := 1) gx2).trans rfl) (fun v hv => w_markIntS_t x2.Kids (ad yK1 1) v hv) (ns3 _) (fun _ => ns3 _) ?_ (.inl ⟨0, _, rfl, rfl, rfl, rfl, fun _ _ _ _ _ _ _ h => h⟩))) (st_pure (p_lc (k218 true) (.slot 0) [0] 1 (.sl true 3 1 (encs c3 x2.Kids)) gx2))) (st_pure (p_fa (k218 true) (.slot 0) [0] 0 gx2))
   intro v1 gv1 h
   refine lO 1 (I v1.1) (lZ (Wp.region (lO 10 (I yI1) (lO 11 (I (ad yI1 1)) (lO 5 (I (ad yI1 1)) (lZ ?_))))))
   cases h
   exact ⟨_, rfl, rfl, rfl⟩
  refine Wp.exit ?_
  cases h
  exact ⟨_, rfl, rfl, rfl⟩
 intro v2 h E hE
 refine nt_wp hE ?_
 change Wp _ _ _ (w_markKnotS_H2 v2.1 v2.2) _
 refine wr (lO 28 (I v2.2) (lO 4 (I v2.2) (lZ ?_)))
 cases h
 exact Wp.ret ⟨.inr rfl, _, _, rfl, rfl, rfl, rfl⟩
theorem w_markArena_t (xA : Arena) (xK : Int) (r : Int) (h : w_markArena xA xK = some r) : Gives Tryz.prog 98 [.sv (.agg [.sl true 218 2 (encs (c218 true) xA.Knots)]), .sv (I xK)] (I r) (List.replicate 2 .gone) := by
 unfold w_markArena at h
 refine gives_of Tryz.func98 rfl ?_
 rw [Tryz.ntmps98]
 refine wr (LWp.b [(.slot 0, [.junk])] 2 [.sl true 218 2 (encs (c218 true) xA.Knots)] (lO 4 (I 0) (lZ (wr (lO 5 (.one (.ptr (.box 2) 1 [] 0)) (lO 6 (.one (.view (.box 2) 1 [] 0)) (lO 7 (I xK) (LWp.leb h (.box 2) [] 0 [.sl true 218 2 (encs (c218 true) xA.Knots)] 8 (e := 218) (sz := 2) (encs (c218 true) xA.Knots) xK (fun v => v.1) (fun v1 => (encs (c218 true) v1.2)) (fun v1 => [.sl true 218 2 (encs (c218 true) v1.2)]) rfl (fun v1 => At.nl rfl) rfl (fun v hv => w_markKnotS_t xA.Knots xK v hv) (ns218 _) (fun _ => ns218 _) ?_ (.inr ⟨rfl, rfl⟩)))))))))
 intro v1 gv1 h
 refine lO 1 (I v1.1) (lZ (wr (lO 9 (I v1.1) (lO 4 (I v1.1) (lZ ?_)))))
 cases h
 exact Wp.ret ⟨.inr rfl, _, _, rfl, rfl⟩
theorem w_markStore_t (xA : Store) (xK : Int) (r : Int) (h : w_markStore xA xK = some r) : Gives Tryz.prog 52 [.sv (.agg [.sl true 110 2 (encs c110 xA.Vols), .sl true 218 2 (encs (c218 true) xA.Arena.Knots), .int .i64 xA.Next]), .sv (I xK)] (I r) (List.replicate 2 .gone) := by
 unfold w_markStore at h
 refine gives_of Tryz.func52 rfl ?_
 rw [Tryz.ntmps52]
 refine wr (LWp.b [(.slot 0, [.junk, .sl true 218 2 (encs (c218 true) xA.Arena.Knots), .int .i64 xA.Next]), (.slot 0, [.junk, .junk, .int .i64 xA.Next])] 2 [.sl true 110 2 (encs c110 xA.Vols), .sl true 218 2 (encs (c218 true) xA.Arena.Knots), .int .i64 xA.Next] (lO 4 (I 0) (lZ (wr (lO 5 (.one (.ptr (.box 2) 1 [] 0)) (lO 6 (.one (.view (.box 2) 1 [] 0)) (lO 7 (I xK) (LWp.leb h (.box 2) [] 0 [.sl true 110 2 (encs c110 xA.Vols), .sl true 218 2 (encs (c218 true) xA.Arena.Knots), .int .i64 xA.Next] 8 (e := 110) (sz := 2) (encs c110 xA.Vols) xK (fun v => v.1) (fun v1 => (encs c110 v1.2)) (fun v1 => [.sl true 110 2 (encs c110 v1.2), .sl true 218 2 (encs (c218 true) xA.Arena.Knots), .int .i64 xA.Next]) rfl (fun v1 => At.nl rfl) rfl (fun v hv => w_markVolS_t xA.Vols xK v hv) (ns110 _) (fun _ => ns110 _) ?_ (.inr ⟨rfl, rfl⟩)))))))))
 intro v1 gv1 h
 refine lO 1 (I v1.1) (lZ (wr (lO 9 (.one (.ptr (.box 2) 1 [] 1)) (lO 10 (.agg [.view (.box 2) 2 [] 1]) (lO 11 (I v1.1) (LWp.cv h [(true, 45, .tmp 10), (false, 3, .tmp 11)] [(.box 2, [.sl true 110 2 (encs c110 v1.2), .junk, .int .i64 xA.Next])] 12 (fun v2 => (I v2)) rfl rfl rfl (avl := [.sv (.agg [.sl true 218 2 (encs (c218 true) xA.Arena.Knots)]), .sv (.one (.int .i64 v1.1))]) rfl (fun v hv => w_markArena_t xA.Arena v1.1 v hv) (.inl rfl) ?_))))))
 intro v2 gv2 h
 refine lO 1 (I v2) (lZ (wr (lO 13 (I v2) (lO 4 (I v2) (lZ ?_)))))
 cases h
 exact Wp.ret ⟨.inr rfl, _, _, rfl, rfl⟩
theorem w_markDevice_t (xA : Device) (xK : Int) (r : Int) (h : w_markDevice xA xK = some r) : Gives Tryz.prog 17 [.sv (.agg [.sl true 124 3 (encs (c124 true) xA.Flash.Blocks), .sl true 110 2 (encs c110 xA.Store.Vols), .sl true 218 2 (encs (c218 true) xA.Store.Arena.Knots), .int .i64 xA.Store.Next, .int .i64 xA.Seq, .int .i64 xA.Tx, .int .i64 xA.Base]), .sv (I xK)] (I r) (List.replicate 2 .gone) := by
 unfold w_markDevice at h
 refine gives_of Tryz.func17 rfl ?_
 rw [Tryz.ntmps17]
 refine wr (LWp.b [(.slot 0, [.junk, .sl true 110 2 (encs c110 xA.Store.Vols), .sl true 218 2 (encs (c218 true) xA.Store.Arena.Knots), .int .i64 xA.Store.Next, .int .i64 xA.Seq, .int .i64 xA.Tx, .int .i64 xA.Base]), (.slot 0, [.junk, .junk, .sl true 218 2 (encs (c218 true) xA.Store.Arena.Knots), .int .i64 xA.Store.Next, .int .i64 xA.Seq, .int .i64 xA.Tx, .int .i64 xA.Base]), (.slot 0, [.junk, .junk, .junk, .int .i64 xA.Store.Next, .int .i64 xA.Seq, .int .i64 xA.Tx, .int .i64 xA.Base])] 2 [.sl true 124 3 (encs (c124 true) xA.Flash.Blocks), .sl true 110 2 (encs c110 xA.Store.Vols), .sl true 218 2 (encs (c218 true) xA.Store.Arena.Knots), .int .i64 xA.Store.Next, .int .i64 xA.Seq, .int .i64 xA.Tx, .int .i64 xA.Base] (lO 4 (I 0) (lZ (wr (lO 5 (.one (.ptr (.box 2) 1 [] 0)) (lO 6 (.agg [.view (.box 2) 1 [] 0]) (lO 7 (I xK) (LWp.cv h [(true, 41, .tmp 6), (false, 3, .tmp 7)] [(.box 2, [.junk, .sl true 110 2 (encs c110 xA.Store.Vols), .sl true 218 2 (encs (c218 true) xA.Store.Arena.Knots), .int .i64 xA.Store.Next, .int .i64 xA.Seq, .int .i64 xA.Tx, .int .i64 xA.Base])] 8 (fun v1 => (I v1)) rfl rfl rfl (avl := [.sv (.agg [.sl true 124 3 (encs (c124 true) xA.Flash.Blocks)]), .sv (.one (.int .i64 xK))]) rfl (fun v hv => w_markFlash_t xA.Flash xK v hv) (.inl rfl) ?_))))))))
 intro v1 gv1 h
 refine lO 1 (I v1) (lZ (wr (lO 9 (.one (.ptr (.box 2) 1 [] 1)) (lO 10 (.agg [.view (.box 2) 2 [] 1, .view (.box 2) 2 [] 2, .int .i64 xA.Store.Next]) (lO 11 (I v1) (LWp.cv h [(true, 47, .tmp 10), (false, 3, .tmp 11)] [(.box 2, [.junk, .junk, .sl true 218 2 (encs (c218 true) xA.Store.Arena.Knots), .int .i64 xA.Store.Next, .int .i64 xA.Seq, .int .i64 xA.Tx, .int .i64 xA.Base]), (.box 2, [.junk, .junk, .junk, .int .i64 xA.Store.Next, .int .i64 xA.Seq, .int .i64 xA.Tx, .int .i64 xA.Base])] 12 (fun v2 => (I v2)) rfl rfl rfl (avl := [.sv (.agg [.sl true 110 2 (encs c110 xA.Store.Vols), .sl true 218 2 (encs (c218 true) xA.Store.Arena.Knots), .int .i64 xA.Store.Next]), .sv (.one (.int .i64 v1))]) rfl (fun v hv => w_markStore_t xA.Store v1 v hv) (.inl rfl) ?_))))))
 intro v2 gv2 h
 refine lO 1 (I v2) (lZ (wr (lO 13 (I v2) (lO 4 (I v2) (lZ ?_)))))
 cases h
 exact Wp.ret ⟨.inr rfl, _, _, rfl, rfl⟩
def w_markRecS_H1 (z1 : List Rec) (z2 : Int) (z3 : Int) : St := mkStF [(0, (.one (.sl true 83 4 (encs c83 z1)))), (1, (I z2)), (5, (I z3))] []
def w_markRecS_H2 (z4 : List Rec) (z5 : Int) : St := mkStF [(0, (.one (.sl true 83 4 (encs c83 z4)))), (1, (I z5))] []
theorem w_markRecS_t (xA : List Rec) (xK : Int) (r : Int × List Rec) (h : w_markRecS xA xK = some r) : Gives Tryz.prog 18 [.sv (.one (.sl true 83 4 (encs c83 xA))), .sv (I xK)] (I r.1) (.sv (.one (.sl true 83 4 (encs c83 r.2))) :: List.replicate 1 .gone) := by
 unfold w_markRecS at h
 refine gives_lent Tryz.func18 rfl ?_
 rw [Tryz.ntmps18]
 refine wr (lO 4 (I 0) (lZ (Wp.seq (wr (lO 5 (I 0) (lZ (Wp.l1 h [0, 1, 5] [] (fun s => (w_markRecS_H1 s.1 s.2.1 s.2.2)) [0, 1] [] (fun s => (w_markRecS_H2 s.1 s.2)) ⟨rfl, rfl⟩ ?_ ?_)))))))
 ·rintro ⟨yA1, yK1, yI1⟩ o (h : w_markRecS_b1 yA1 yK1 yI1 = some o)
  unfold w_markRecS_b1 at h
  change Wp _ _ _ (w_markRecS_H1 yA1 yK1 yI1) _
  refine Wp.seq (wr (lO 6 (I yI1) (lO 7 (.one (.view (.slot 0) 0 [] 0)) (lO 8 (I (ln yA1)) (lO 9 (B (decide (yI1 < (ln yA1)))) (lZ (Wp.c h (fun h => ?_) (fun h => ?_)))) (st_pure (p_ln k83 yA1))))))
  ·refine Wp.skip ?_
   refine Wp.seq (Wp.block (wr (lO 12 (.one (.view (.slot 0) 0 [] 0)) (lO 13 (I yI1) (lO 14 (I yK1) (LWp.p h 15 (fun _ => (.one (.ptr (.slot 0) 0 [0] (Int.toNat yI1 * 4 + 0)))) ?_ (fun x1 gx1 => st_pure (p_ix k83 (.slot 0) [] 0 gx1))))))))
   intro x1 gx1 h
   refine lO 16 (.one (.ptr (.slot 0) 0 [0] (Int.toNat yI1 * 4 + 0))) (LWp.sb [] (.slot 0) [.sl true 83 4 (encs c83 (si yA1 yI1 (Rec.mk yK1 x1.Vol x1.Arg x1.Chunk)))] (lZ (wr (lO 17 (I yK1) (lO 18 (I (ad yK1 1)) (lO 1 (I (ad yK1 1)) (lZ (wr (lO 19 (.one (.view (.slot 0) 1 [] 0)) ?_)))))))) (s_st [] (q := [0]) (cs := [.sl true 83 4 (encs c83 yA1)]) (xs := [.int .i64 yK1]) (At.one (setRow_gi k83 (k := 0) (z := (Rec.mk yK1 x1.Vol x1.Arg x1.Chunk)) gx1 rfl rfl)) (fit_gi k83 (k := 0) gx1 rfl))) (st_pure (p_fa k83 (.slot 0) [0] 0 gx1))
   refine lO 20 (I yI1) (lO 21 (I (ad yK1 1)) (LWp.p h 22 (fun _ => (.one (.ptr (.slot 0) 1 [0] (Int.toNat yI1 * 4 + 0)))) ?_ (fun x2 gx2 => st_pure (p_ix k83 (.slot 0) [] 0 gx2))))
   intro x2 gx2 h
   refine lO 23 (.one (.ptr (.slot 0) 1 [0] (Int.toNat yI1 * 4 + 1))) (LWp.sb [] (.slot 0) [.sl true 83 4 (encs c83 (si (si yA1 yI1 (Rec.mk yK1 x1.Vol x1.Arg x1.Chunk)) yI1 (Rec.mk x2.Kind (ad yK1 1) x2.Arg x2.Chunk)))] (lZ (wr (lO 24 (I (ad yK1 1)) (lO 25 (I (ad (ad yK1 1) 1)) (lO 1 (I (ad (ad yK1 1) 1)) (lZ (wr (lO 26 (.one (.view (.slot 0) 2 [] 0)) ?_)))))))) (s_st [] (q := [0]) (cs := [.sl true 83 4 (encs c83 (si yA1 yI1 (Rec.mk yK1 x1.Vol x1.Arg x1.Chunk)))]) (xs := [.int .i64 (ad yK1 1)]) (At.one (setRow_gi k83 (k := 1) (z := (Rec.mk x2.Kind (ad yK1 1) x2.Arg x2.Chunk)) gx2 rfl rfl)) (fit_gi k83 (k := 1) gx2 rfl))) (st_pure (p_fa k83 (.slot 0) [0] 0 gx2))
   refine lO 27 (I yI1) (lO 28 (I (ad (ad yK1 1) 1)) (LWp.p h 29 (fun _ => (.one (.ptr (.slot 0) 2 [0] (Int.toNat yI1 * 4 + 0)))) ?_ (fun x3 gx3 => st_pure (p_ix k83 (.slot 0) [] 0 gx3))))
   intro x3 gx3 h
   refine lO 30 (.one (.ptr (.slot 0) 2 [0] (Int.toNat yI1 * 4 + 2))) (LWp.sb [] (.slot 0) [.sl true 83 4 (encs c83 (si (si (si yA1 yI1 (Rec.mk yK1 x1.Vol x1.Arg x1.Chunk)) yI1 (Rec.mk x2.Kind (ad yK1 1) x2.Arg x2.Chunk)) yI1 (Rec.mk x3.Kind x3.Vol (ad (ad yK1 1) 1) x3.Chunk)))] (lZ (wr (lO 31 (I (ad (ad yK1 1) 1)) (lO 32 (I (ad (ad (ad yK1 1) 1) 1)) (lO 1 (I (ad (ad (ad yK1 1) 1) 1)) (lZ (wr (lO 33 (.one (.view (.slot 0) 3 [] 0)) ?_)))))))) (s_st [] (q := [0]) (cs := [.sl true 83 4 (encs c83 (si (si yA1 yI1 (Rec.mk yK1 x1.Vol x1.Arg x1.Chunk)) yI1 (Rec.mk x2.Kind (ad yK1 1) x2.Arg x2.Chunk)))]) (xs := [.int .i64 (ad (ad yK1 1) 1)]) (At.one (setRow_gi k83 (k := 2) (z := (Rec.mk x3.Kind x3.Vol (ad (ad yK1 1) 1) x3.Chunk)) gx3 rfl rfl)) (fit_gi k83 (k := 2) gx3 rfl))) (st_pure (p_fa k83 (.slot 0) [0] 0 gx3))
   refine lO 34 (I yI1) (lO 35 (I (ad (ad (ad yK1 1) 1) 1)) (LWp.p h 36 (fun _ => (.one (.ptr (.slot 0) 3 [0] (Int.toNat yI1 * 4 + 0)))) ?_ (fun x4 gx4 => st_pure (p_ix k83 (.slot 0) [] 0 gx4))))
   intro x4 gx4 h
   refine lO 37 (.one (.ptr (.slot 0) 3 [0] (Int.toNat yI1 * 4 + 3))) (LWp.sb [] (.slot 0) [.sl true 83 4 (encs c83 (si (si (si (si yA1 yI1 (Rec.mk yK1 x1.Vol x1.Arg x1.Chunk)) yI1 (Rec.mk x2.Kind (ad yK1 1) x2.Arg x2.Chunk)) yI1 (Rec.mk x3.Kind x3.Vol (ad (ad yK1 1) 1) x3.Chunk)) yI1 (Rec.mk x4.Kind x4.Vol x4.Arg (ad (ad (ad yK1 1) 1) 1))))] (lZ (Wp.region (lO 38 (I (ad (ad (ad yK1 1) 1) 1)) (lO 39 (I (ad (ad (ad (ad yK1 1) 1) 1) 1)) (lO 1 (I (ad (ad (ad (ad yK1 1) 1) 1) 1)) (lZ (Wp.region (lO 10 (I yI1) ?_)))))))) (s_st [] (q := [0]) (cs := [.sl true 83 4 (encs c83 (si (si (si yA1 yI1 (Rec.mk yK1 x1.Vol x1.Arg x1.Chunk)) yI1 (Rec.mk x2.Kind (ad yK1 1) x2.Arg x2.Chunk)) yI1 (Rec.mk x3.Kind x3.Vol (ad (ad yK1 1) 1) x3.Chunk)))]) (xs := [.int .i64 (ad (ad (ad yK1 1) 1) 1)]) (At.one (setRow_gi k83 (k := 3) (z := (Rec.mk x4.Kind x4.Vol x4.Arg (ad (ad (ad yK1 1) 1) 1))) gx4 rfl rfl)) (fit_gi k83 (k := 3) gx4 rfl))) (st_pure (p_fa k83 (.slot 0) [0] 0 gx4))
   refine lO 11 (I (ad yI1 1)) (lO 5 (I (ad yI1 1)) (lZ ?_))
   cases h
   exact ⟨_, rfl, rfl, rfl⟩
  refine Wp.exit ?_
  cases h
  exact ⟨_, rfl, rfl, rfl⟩
 intro v1 h E hE
 refine nt_wp hE ?_
 change Wp _ _ _ (w_markRecS_H2 v1.1 v1.2) _
 refine wr (lO 40 (I v1.2) (lO 4 (I v1.2) (lZ ?_)))
 cases h
 exact Wp.ret ⟨.inr rfl, _, _, rfl, rfl, rfl, rfl⟩
def w_heldRecS_H1 (xA : List Rec) (z1 : Int) (z2 : Int) : St := mkSt [(0, (.one (.sl false 83 4 (encs c83 xA)))), (1, (I z1)), (5, (I z2))] []
def w_heldRecS_H2 (z3 : Int) : St := mkSt [(1, (I z3))] []
theorem w_heldRecS_t (xA : List Rec) (xK : Int) (r : Int) (h : w_heldRecS xA xK = some r) : Gives Tryz.prog 37 [.sv (.one (.sl false 83 4 (encs c83 xA))), .sv (I xK)] (I r) (List.replicate 2 .gone) := by
 unfold w_heldRecS at h
 refine gives_of Tryz.func37 rfl ?_
 rw [Tryz.ntmps37]
 refine wr (lO 4 (I 0) (lZ (Wp.seq (wr (lO 5 (I 0) (lZ (Wp.l2 h [0, 1, 5] [] (fun s => (w_heldRecS_H1 xA s.1 s.2)) [1] [] (fun s => (w_heldRecS_H2 s)) ⟨rfl, rfl⟩ ?_ ?_)))))))
 ·rintro ⟨yK1, yI1⟩ o (h : w_heldRecS_b1 xA yK1 yI1 = some o) hk1
  unfold w_heldRecS_b1 at h
  change Wp _ _ _ (w_heldRecS_H1 xA yK1 yI1) _
  refine Wp.seq (wr (lO 6 (I yI1) (lO 7 (.one (.sl false 83 4 (encs c83 xA))) (lO 8 (I (ln xA)) (lO 9 (B (decide (yI1 < (ln xA)))) (lZ (Wp.c h (fun h => ?_) (fun h => ?_)))) (st_pure (p_ln k83 xA))))))
  ·refine Wp.skip ?_
   refine Wp.seq (Wp.block (Wp.seq (wr (lO 12 (.one (.sl false 83 4 (encs c83 xA))) (lO 13 (I yI1) (LWp.p h 14 (fun _ => (.one (.ptr (.slot 12) 1 [0] (Int.toNat yI1 * 4 + 0)))) ?_ (fun x1 gx1 => st_pure (p_ix k83 (.slot 12) [] 0 gx1))))))))
   intro x1 gx1 h
   refine lO 15 (.one (.ptr (.slot 12) 1 [0] (Int.toNat yI1 * 4 + 0))) (lO 16 (I x1.Kind) (lO 17 (I yK1) (lO 18 (B (x1.Kind != yK1)) (lZ (Wp.c h (fun h => ?_) (fun h => ?_))))) (st_pure (p_lc k83 (.slot 12) [0] 0 (.int .i64 x1.Kind) gx1))) (st_pure (p_fa k83 (.slot 12) [0] 0 gx1))
   ·refine wr ?_
    refine lO 4 (I (-1)) (lZ ?_)
    cases h
    replace h : some _ = some _ := hk1 _ rfl
    cases h
    exact Wp.ret ⟨.inr rfl, _, _, rfl, rfl⟩
   refine Wp.skip (wr (lO 19 (I yK1) (lO 20 (I (ad yK1 1)) (lO 1 (I (ad yK1 1)) (lZ (Wp.seq (wr (lO 21 (.one (.sl false 83 4 (encs c83 xA))) (lO 22 (I yI1) ?_)))))))))
   refine LWp.p h 23 (fun _ => (.one (.ptr (.slot 21) 1 [0] (Int.toNat yI1 * 4 + 0)))) ?_ (fun x2 gx2 => st_pure (p_ix k83 (.slot 21) [] 0 gx2))
   intro x2 gx2 h
   refine lO 24 (.one (.ptr (.slot 21) 1 [0] (Int.toNat yI1 * 4 + 1))) (lO 25 (I x2.Vol) (lO 26 (I (ad yK1 1)) (lO 27 (B (x2.Vol != (ad yK1 1))) (lZ (Wp.c h (fun h => ?_) (fun h => ?_))))) (st_pure (p_lc k83 (.slot 21) [0] 1 (.int .i64 x2.Vol) gx2))) (st_pure (p_fa k83 (.slot 21) [0] 0 gx2))
   ·refine wr ?_
    refine lO 4 (I (-1)) (lZ ?_)
    cases h
    replace h : some _ = some _ := hk1 _ rfl
    cases h
    exact Wp.ret ⟨.inr rfl, _, _, rfl, rfl⟩
   refine Wp.skip (wr (lO 28 (I (ad yK1 1)) (lO 29 (I (ad (ad yK1 1) 1)) (lO 1 (I (ad (ad yK1 1) 1)) (lZ (Wp.seq (wr (lO 30 (.one (.sl false 83 4 (encs c83 xA))) (lO 31 (I yI1) ?_)))))))))
   refine LWp.p h 32 (fun _ => (.one (.ptr (.slot 30) 1 [0] (Int.toNat yI1 * 4 + 0)))) ?_ (fun x3 gx3 => st_pure (p_ix k83 (.slot 30) [] 0 gx3))
   intro x3 gx3 h
   refine lO 33 (.one (.ptr (.slot 30) 1 [0] (Int.toNat yI1 * 4 + 2))) (lO 34 (I x3.Arg) (lO 35 (I (ad (ad yK1 1) 1)) (lO 36 (B (x3.Arg != (ad (ad yK1 1) 1))) (lZ (Wp.c h (fun h => ?_) (fun h => ?_))))) (st_pure (p_lc k83 (.slot 30) [0] 2 (.int .i64 x3.Arg) gx3))) (st_pure (p_fa k83 (.slot 30) [0] 0 gx3))
   ·refine wr ?_
    refine lO 4 (I (-1)) (lZ ?_)
    cases h
    replace h : some _ = some _ := hk1 _ rfl
    cases h
    exact Wp.ret ⟨.inr rfl, _, _, rfl, rfl⟩
   refine Wp.skip (wr (lO 37 (I (ad (ad yK1 1) 1)) (lO 38 (I (ad (ad (ad yK1 1) 1) 1)) (lO 1 (I (ad (ad (ad yK1 1) 1) 1)) (lZ (Wp.seq (wr (lO 39 (.one (.sl false 83 4 (encs c83 xA))) (lO 40 (I yI1) ?_)))))))))
   refine LWp.p h 41 (fun _ => (.one (.ptr (.slot 39) 1 [0] (Int.toNat yI1 * 4 + 0)))) ?_ (fun x4 gx4 => st_pure (p_ix k83 (.slot 39) [] 0 gx4))
   intro x4 gx4 h
   refine lO 42 (.one (.ptr (.slot 39) 1 [0] (Int.toNat yI1 * 4 + 3))) (lO 43 (I x4.Chunk) (lO 44 (I (ad (ad (ad yK1 1) 1) 1)) (lO 45 (B (x4.Chunk != (ad (ad (ad yK1 1) 1) 1))) (lZ (Wp.c h (fun h => ?_) (fun h => ?_))))) (st_pure (p_lc k83 (.slot 39) [0] 3 (.int .i64 x4.Chunk) gx4))) (st_pure (p_fa k83 (.slot 39) [0] 0 gx4))
   ·refine wr ?_
    refine lO 4 (I (-1)) (lZ ?_)
    cases h
    replace h : some _ = some _ := hk1 _ rfl
    cases h
    exact Wp.ret ⟨.inr rfl, _, _, rfl, rfl⟩
   refine Wp.skip (Wp.region (lO 46 (I (ad (ad (ad yK1 1) 1) 1)) (lO 47 (I (ad (ad (ad (ad yK1 1) 1) 1) 1)) (lO 1 (I (ad (ad (ad (ad yK1 1) 1) 1) 1)) (lZ (Wp.region (lO 10 (I yI1) (lO 11 (I (ad yI1 1)) (lO 5 (I (ad yI1 1)) ?_)))))))))
   refine lZ ?_
   cases h
   exact ⟨_, rfl, rfl, rfl⟩
  refine Wp.exit ?_
  cases h
  exact ⟨_, rfl, rfl, rfl⟩
 intro v1 h E hE
 refine nt_wp hE ?_
 change Wp _ _ _ (w_heldRecS_H2 v1) _
 refine wr (lO 48 (I v1) (lO 4 (I v1) (lZ ?_)))
 cases h
 exact Wp.ret ⟨.inr rfl, _, _, rfl, rfl⟩
end Go.TI
