/- That they compute it. No condition. -/
import Derived.Test.YtcjepealfaimfaaGreatWRW1
namespace Go.TI
set_option maxRecDepth 100000
open Go Go.Proofs
set_option linter.unusedVariables false
set_option linter.unusedSimpArgs false

def i_OpenBlock_H1 (xF : Flash) (z1 : Int) : St := mkSt [(7, (.one (.sl false 124 3 (encs (c124 false) xF.Blocks)))), (8, (I (ln xF.Blocks))), (9, (I z1))] []
def i_OpenBlock_H2  : St := mkSt [] []
def i_OpenBlock_H3 (xF : Flash) (y1 : Int) (z2 : Bool) : St := mkSt [(3, (I y1)), (7, (.one (.sl false 124 3 (encs (c124 false) xF.Blocks)))), (8, (I (ln xF.Blocks))), (9, (I y1)), (29, (B z2))] []
theorem i_OpenBlock_t (xF : Flash) (r : Int) (h : i_OpenBlock xF = some r) : Gives Tryz.prog 138 [.sv (.agg [.sl false 124 3 (encs (c124 false) xF.Blocks)])] (I r) (List.replicate 1 .gone) := by
 unfold i_OpenBlock at h
 refine gives_of Tryz.func138 rfl ?_
 rw [Tryz.ntmps138]
 refine Wp.seq (Wp.region ?_)
 refine LWp.b [] 1 [.sl false 124 3 (encs (c124 false) xF.Blocks)] ?_
 refine LWp.o 2 (I 0) ?_
 refine LWp.nil ?_
 refine Wp.seq ?_
 refine Wp.seq (Wp.region ?_)
 refine LWp.o 6 (.one (.ptr (.box 1) 1 [] 0)) ?_
 refine LWp.o 7 (.one (.sl false 124 3 (encs (c124 false) xF.Blocks))) ?_
 refine LWp.o 8 (I (ln xF.Blocks)) ?_ (st_pure (p_ln (k124 false) xF.Blocks))
 refine LWp.o 9 (I 0) ?_
 refine LWp.nil ?_
 refine Wp.l2 h [7, 8, 9] [] (fun s => (i_OpenBlock_H1 xF s)) [] [] (fun _ => i_OpenBlock_H2) ⟨rfl, rfl⟩ ?_ ?_
 · rintro y1 o (h : i_OpenBlock_b1 xF y1 = some o) hk1
   unfold i_OpenBlock_b1 at h
   change Wp _ _ _ (i_OpenBlock_H1 xF y1) _
   refine Wp.seq (Wp.region ?_)
   refine LWp.o 10 (B (decide (y1 < (ln xF.Blocks)))) ?_
   refine LWp.nil ?_
   refine Wp.seq ?_
   refine Wp.c h (fun h => ?_) (fun h => ?_)
   · refine Wp.skip ?_
     refine Wp.seq ?_
     refine Wp.block ?_
     refine Wp.seq (Wp.region ?_)
     refine LWp.o 11 (I y1) ?_
     refine LWp.p h 12 (fun _ => (.one (.ptr (.slot 7) 0 [0] (Int.toNat y1 * 3 + 0)))) ?_ (fun x1 gx1 => st_pure (p_ix (k124 false) (.slot 7) [] 0 gx1))
     intro x1 gx1 h
     refine LWp.o 13 (.agg [.bool x1.Bad, .int .i64 x1.Wear, .sl false 165 2 (encs c165 x1.Leaves)]) ?_ (st_pure (p_le (k124 false) (.slot 7) [0] gx1))
     refine LWp.b [] 4 [.bool false, .int .i64 0, .sl true 165 2 (encs c165 [])] ?_
     refine LWp.o 3 (I y1) ?_
     refine LWp.sb [] (.box 4) [.bool x1.Bad, .int .i64 x1.Wear, .sl false 165 2 (encs c165 x1.Leaves)] ?_
     refine LWp.nil ?_
     refine Wp.seq (Wp.region ?_)
     refine LWp.o 14 (.agg [.bool x1.Bad, .int .i64 x1.Wear, .sl false 165 2 (encs c165 x1.Leaves)]) ?_
     refine LWp.cl h 15 (fun v1 => (I v1)) rfl (l := [.sv (.agg [.bool x1.Bad, .int .i64 x1.Wear, .sl false 165 2 (encs c165 x1.Leaves)])]) rfl (fun v hv => i_blanks_t x1 v hv) (.inl rfl) ?_
     intro v1 gv1 h
     refine LWp.o 5 (I v1) ?_
     refine LWp.nil ?_
     refine Wp.seq ?_
     refine Wp.j1 h [3, 7, 8, 9, 29] [] (fun a => (i_OpenBlock_H3 xF y1 a)) ?_ ?_
     · intro a h
       refine Wp.region ?_
       refine LWp.o 16 (.one (.ptr (.box 4) 1 [] 0)) ?_
       refine LWp.o 17 (B x1.Bad) ?_
       refine LWp.o 18 (B (!x1.Bad)) ?_
       refine LWp.o 19 (B (!x1.Bad)) ?_
       refine LWp.sp h 19 (fun h => ?_) (fun h => ?_)
       · refine LWp.o 20 (I v1) ?_
         refine LWp.o 21 (B (decide (v1 > 0))) ?_
         refine LWp.o 22 (B (decide (v1 > 0))) ?_
         refine LWp.o 23 (B (decide (v1 > 0))) ?_
         refine LWp.sp h 23 (fun h => ?_) (fun h => ?_)
         · refine LWp.o 24 (I v1) ?_
           refine LWp.o 25 (.one (.ptr (.box 4) 1 [] 2)) ?_
           refine LWp.o 26 (.one (.sl false 165 2 (encs c165 x1.Leaves))) ?_
           refine LWp.o 27 (I (ln x1.Leaves)) ?_ (st_pure (p_ln k165 x1.Leaves))
           refine LWp.o 28 (B (decide (v1 < (ln x1.Leaves)))) ?_
           refine LWp.o 29 (B (decide (v1 < (ln x1.Leaves)))) ?_
           refine LWp.nil ?_
           cases h
           exact ⟨_, rfl, rfl, rfl⟩
         refine LWp.sh 24 ?_
         refine LWp.sh 25 ?_
         refine LWp.sh 26 ?_
         refine LWp.sh 27 ?_
         refine LWp.sh 28 ?_
         refine LWp.o 29 (B false) ?_
         refine LWp.nil ?_
         cases h
         exact ⟨_, rfl, rfl, rfl⟩
       refine LWp.sh 20 ?_
       refine LWp.sh 21 ?_
       refine LWp.o 22 (B false) ?_
       refine LWp.o 23 (B false) ?_
       refine LWp.sh 24 ?_
       refine LWp.sh 25 ?_
       refine LWp.sh 26 ?_
       refine LWp.sh 27 ?_
       refine LWp.sh 28 ?_
       refine LWp.o 29 (B false) ?_
       refine LWp.nil ?_
       cases h
       exact ⟨_, rfl, rfl, rfl⟩
     intro j1 h E hE
     refine nt_wp hE ?_
     change Wp _ _ _ (i_OpenBlock_H3 xF y1 j1) _
     refine Wp.c h (fun h => ?_) (fun h => ?_)
     · refine Wp.seq (Wp.region ?_)
       refine LWp.o 30 (I y1) ?_
       refine LWp.o 2 (I y1) ?_
       refine LWp.nil ?_
       cases h
       replace h : some _ = some _ := hk1 _ rfl
       cases h
       exact Wp.ret ⟨.inr rfl, _, _, rfl, rfl⟩
     refine Wp.skip ?_
     refine Wp.region ?_
     refine LWp.o 31 (I (ad y1 1)) ?_
     refine LWp.o 9 (I (ad y1 1)) ?_
     refine LWp.nil ?_
     cases h
     exact ⟨_, rfl, rfl, rfl⟩
   refine Wp.exit ?_
   cases h
   exact ⟨_, rfl, rfl, rfl⟩
 intro v2 h E hE
 refine nt_wp hE ?_
 change Wp _ _ _ i_OpenBlock_H2 _
 refine Wp.seq (Wp.region ?_)
 refine LWp.o 2 (I (-1)) ?_
 refine LWp.nil ?_
 cases h
 exact Wp.ret ⟨.inr rfl, _, _, rfl, rfl⟩
def i_NextBlank_H1 (xB : Block) (z1 : Int) : St := mkSt [(6, (.one (.sl false 165 2 (encs c165 xB.Leaves)))), (7, (I (ln xB.Leaves))), (8, (I z1))] []
def i_NextBlank_H2  : St := mkSt [] []
theorem i_NextBlank_t (xB : Block) (r : Int) (h : i_NextBlank xB = some r) : Gives Tryz.prog 139 [.sv (.agg [.bool xB.Bad, .int .i64 xB.Wear, .sl false 165 2 (encs c165 xB.Leaves)])] (I r) (List.replicate 1 .gone) := by
 unfold i_NextBlank at h
 refine gives_of Tryz.func139 rfl ?_
 rw [Tryz.ntmps139]
 refine Wp.seq (Wp.region ?_)
 refine LWp.b [] 1 [.bool xB.Bad, .int .i64 xB.Wear, .sl false 165 2 (encs c165 xB.Leaves)] ?_
 refine LWp.o 2 (I 0) ?_
 refine LWp.nil ?_
 refine Wp.seq ?_
 refine Wp.seq (Wp.region ?_)
 refine LWp.o 5 (.one (.ptr (.box 1) 1 [] 2)) ?_
 refine LWp.o 6 (.one (.sl false 165 2 (encs c165 xB.Leaves))) ?_
 refine LWp.o 7 (I (ln xB.Leaves)) ?_ (st_pure (p_ln k165 xB.Leaves))
 refine LWp.o 8 (I 0) ?_
 refine LWp.nil ?_
 refine Wp.l2 h [6, 7, 8] [] (fun s => (i_NextBlank_H1 xB s)) [] [] (fun _ => i_NextBlank_H2) ⟨rfl, rfl⟩ ?_ ?_
 · rintro y1 o (h : i_NextBlank_b1 xB y1 = some o) hk1
   unfold i_NextBlank_b1 at h
   change Wp _ _ _ (i_NextBlank_H1 xB y1) _
   refine Wp.seq (Wp.region ?_)
   refine LWp.o 9 (B (decide (y1 < (ln xB.Leaves)))) ?_
   refine LWp.nil ?_
   refine Wp.seq ?_
   refine Wp.c h (fun h => ?_) (fun h => ?_)
   · refine Wp.skip ?_
     refine Wp.seq ?_
     refine Wp.block ?_
     refine Wp.seq (Wp.region ?_)
     refine LWp.o 10 (I y1) ?_
     refine LWp.p h 11 (fun _ => (.one (.ptr (.slot 6) 0 [0] (Int.toNat y1 * 2 + 0)))) ?_ (fun x1 gx1 => st_pure (p_ix k165 (.slot 6) [] 0 gx1))
     intro x1 gx1 h
     refine LWp.o 12 (.agg [.int .i64 x1.Is, .str x1.Text]) ?_ (st_pure (p_le k165 (.slot 6) [0] gx1))
     refine LWp.b [] 4 [.int .i64 0, .str (bs [])] ?_
     refine LWp.o 3 (I y1) ?_
     refine LWp.s [] (.box 4) [.int .i64 x1.Is, .str x1.Text] ?_
     refine LWp.nil ?_
     refine Wp.seq (Wp.region ?_)
     refine LWp.o 13 (.one (.ptr (.box 4) 1 [] 0)) ?_
     refine LWp.o 14 (I x1.Is) ?_
     refine LWp.o 15 (B (x1.Is == 0)) ?_
     refine LWp.nil ?_
     refine Wp.c h (fun h => ?_) (fun h => ?_)
     · refine Wp.seq (Wp.region ?_)
       refine LWp.o 16 (I y1) ?_
       refine LWp.o 2 (I y1) ?_
       refine LWp.nil ?_
       cases h
       replace h : some _ = some _ := hk1 _ rfl
       cases h
       exact Wp.ret ⟨.inr rfl, _, _, rfl, rfl⟩
     refine Wp.skip ?_
     refine Wp.region ?_
     refine LWp.o 17 (I (ad y1 1)) ?_
     refine LWp.o 8 (I (ad y1 1)) ?_
     refine LWp.nil ?_
     cases h
     exact ⟨_, rfl, rfl, rfl⟩
   refine Wp.exit ?_
   cases h
   exact ⟨_, rfl, rfl, rfl⟩
 intro v1 h E hE
 refine nt_wp hE ?_
 change Wp _ _ _ i_NextBlank_H2 _
 refine Wp.seq (Wp.region ?_)
 refine LWp.o 2 (I 4) ?_
 refine LWp.nil ?_
 cases h
 exact Wp.ret ⟨.inr rfl, _, _, rfl, rfl⟩
def i_FreeBlocks_H1 (xF : Flash) (z1 : List Int) (z2 : Int) : St := mkSt [(3, (.one (.sl true 3 1 (encs c3 z1)))), (7, (.one (.sl false 124 3 (encs (c124 false) xF.Blocks)))), (8, (I (ln xF.Blocks))), (9, (I z2))] []
def i_FreeBlocks_H2 (z3 : List Int) : St := mkSt [(3, (.one (.sl true 3 1 (encs c3 z3))))] []
def i_FreeBlocks_H3 (xF : Flash) (yOut1 : List Int) (y1 : Int) (z4 : Bool) : St := mkSt [(3, (.one (.sl true 3 1 (encs c3 yOut1)))), (4, (I y1)), (7, (.one (.sl false 124 3 (encs (c124 false) xF.Blocks)))), (8, (I (ln xF.Blocks))), (9, (I y1)), (24, (B z4))] []
theorem i_FreeBlocks_t (xF : Flash) (r : List Int) (h : i_FreeBlocks xF = some r) : Gives Tryz.prog 140 [.sv (.agg [.sl false 124 3 (encs (c124 false) xF.Blocks)])] (.one (.sl true 3 1 (encs c3 r))) (List.replicate 1 .gone) := by
 unfold i_FreeBlocks at h
 refine gives_of Tryz.func140 rfl ?_
 rw [Tryz.ntmps140]
 refine Wp.seq (Wp.region ?_)
 refine LWp.b [] 1 [.sl false 124 3 (encs (c124 false) xF.Blocks)] ?_
 refine LWp.o 2 (.one (.sl true 3 1 (encs c3 []))) ?_
 refine LWp.nil ?_
 refine Wp.seq (Wp.region ?_)
 refine LWp.o 3 (.one (.sl true 3 1 (encs c3 []))) ?_
 refine LWp.nil ?_
 refine Wp.seq ?_
 refine Wp.seq (Wp.region ?_)
 refine LWp.o 6 (.one (.ptr (.box 1) 1 [] 0)) ?_
 refine LWp.o 7 (.one (.sl false 124 3 (encs (c124 false) xF.Blocks))) ?_
 refine LWp.o 8 (I (ln xF.Blocks)) ?_ (st_pure (p_ln (k124 false) xF.Blocks))
 refine LWp.o 9 (I 0) ?_
 refine LWp.nil ?_
 refine Wp.l1 h [3, 7, 8, 9] [] (fun s => (i_FreeBlocks_H1 xF s.1 s.2)) [3] [] (fun s => (i_FreeBlocks_H2 s)) ⟨rfl, rfl⟩ ?_ ?_
 · rintro ⟨yOut1, y1⟩ o (h : i_FreeBlocks_b1 xF yOut1 y1 = some o)
   unfold i_FreeBlocks_b1 at h
   change Wp _ _ _ (i_FreeBlocks_H1 xF yOut1 y1) _
   refine Wp.seq (Wp.region ?_)
   refine LWp.o 10 (B (decide (y1 < (ln xF.Blocks)))) ?_
   refine LWp.nil ?_
   refine Wp.seq ?_
   refine Wp.c h (fun h => ?_) (fun h => ?_)
   · refine Wp.skip ?_
     refine Wp.seq ?_
     refine Wp.block ?_
     refine Wp.seq (Wp.region ?_)
     refine LWp.o 11 (I y1) ?_
     refine LWp.p h 12 (fun _ => (.one (.ptr (.slot 7) 0 [0] (Int.toNat y1 * 3 + 0)))) ?_ (fun x1 gx1 => st_pure (p_ix (k124 false) (.slot 7) [] 0 gx1))
     intro x1 gx1 h
     refine LWp.o 13 (.agg [.bool x1.Bad, .int .i64 x1.Wear, .sl false 165 2 (encs c165 x1.Leaves)]) ?_ (st_pure (p_le (k124 false) (.slot 7) [0] gx1))
     refine LWp.b [] 5 [.bool false, .int .i64 0, .sl true 165 2 (encs c165 [])] ?_
     refine LWp.o 4 (I y1) ?_
     refine LWp.sb [] (.box 5) [.bool x1.Bad, .int .i64 x1.Wear, .sl false 165 2 (encs c165 x1.Leaves)] ?_
     refine LWp.nil ?_
     refine Wp.seq ?_
     refine Wp.j1 h [3, 4, 7, 8, 9, 24] [] (fun a => (i_FreeBlocks_H3 xF yOut1 y1 a)) ?_ ?_
     · intro a h
       refine Wp.regionK 11 [] mixed (fun c E h => by rcases h with ⟨h | h, _⟩ <;> cases h) ?_
       refine KWp.o 11 0 14 (.one (.ptr (.box 5) 1 [] 0)) ?_
       refine KWp.o 11 1 15 (B x1.Bad) ?_
       refine KWp.o 11 2 16 (B (!x1.Bad)) ?_
       refine KWp.o 11 3 17 (B (!x1.Bad)) ?_
       refine KWp.sp h 17 (fun h => ?_) (fun h => ?_)
       · refine KWp.o 11 4 18 (.agg [.bool x1.Bad, .int .i64 x1.Wear, .sl false 165 2 (encs c165 x1.Leaves)]) ?_
         refine KWp.o 11 6 20 (.one (.ptr (.box 5) 1 [] 2)) ?_
         refine KWp.o 11 7 21 (.one (.sl false 165 2 (encs c165 x1.Leaves))) ?_
         refine KWp.o 11 8 22 (I (ln x1.Leaves)) ?_ rfl (sl_pure (p_ln k165 x1.Leaves))
         refine KWp.w1 5 ?_
         refine KOp.cl h 5 19 (fun v1 => (I v1)) rfl rfl (l := [.sv (.agg [.bool x1.Bad, .int .i64 x1.Wear, .sl false 165 2 (encs c165 x1.Leaves)])]) rfl (fun v hv => i_blanks_t x1 v hv) (.inl rfl) ?_
         intro v1 gv1 h
         refine KWp.o 11 9 23 (B (v1 == (ln x1.Leaves))) ?_
         refine KWp.o 11 10 24 (B (v1 == (ln x1.Leaves))) ?_
         refine KWp.done ?_
         cases h
         exact ⟨_, rfl, rfl, rfl⟩
       refine KWp.sh 11 4 18 ?_
       refine KWp.sh 11 6 20 ?_
       refine KWp.sh 11 7 21 ?_
       refine KWp.sh 11 8 22 ?_
       refine KWp.sh 11 5 19 ?_
       refine KWp.sh 11 9 23 ?_
       refine KWp.o 11 10 24 (B false) ?_
       refine KWp.done ?_
       cases h
       exact ⟨_, rfl, rfl, rfl⟩
     intro j1 h E hE
     refine nt_wp hE ?_
     change Wp _ _ _ (i_FreeBlocks_H3 xF yOut1 y1 j1) _
     refine Wp.c h (fun h => ?_) (fun h => ?_)
     · refine Wp.region ?_
       refine LWp.o 25 (.one (.view (.slot 3) 0 [] 0)) ?_
       refine LWp.o 26 (I y1) ?_
       refine LWp.m false [] 27 (.one (.sl true 3 1 (encs c3 [y1]))) ?_
       refine LWp.pm h [(.slot 3, [.junk])] 28 (fun q1 => (.one (.sl true 3 1 (encs c3 q1)))) ?_ (fun q1 gq1 => s_apl k3 (fun _ => rfl) [(.slot 3, [.junk])] yOut1 gq1)
       intro q1 gq1 h
       refine LWp.m true [(.slot 28, [.junk])] 3 (.one (.sl true 3 1 (encs c3 q1))) ?_
       refine LWp.nil ?_
       refine Wp.region ?_
       refine LWp.o 29 (I (ad y1 1)) ?_
       refine LWp.o 9 (I (ad y1 1)) ?_
       refine LWp.nil ?_
       cases h
       exact ⟨_, rfl, rfl, rfl⟩
     refine Wp.skip ?_
     refine Wp.region ?_
     refine LWp.o 29 (I (ad y1 1)) ?_
     refine LWp.o 9 (I (ad y1 1)) ?_
     refine LWp.nil ?_
     cases h
     exact ⟨_, rfl, rfl, rfl⟩
   refine Wp.exit ?_
   cases h
   exact ⟨_, rfl, rfl, rfl⟩
 intro v2 h E hE
 refine nt_wp hE ?_
 change Wp _ _ _ (i_FreeBlocks_H2 v2) _
 refine Wp.seq (Wp.region ?_)
 refine LWp.o 30 (.one (.view (.slot 3) 0 [] 0)) ?_
 refine LWp.m true [(.slot 3, [.junk])] 2 (.one (.sl true 3 1 (encs c3 v2))) ?_
 refine LWp.nil ?_
 cases h
 exact Wp.ret ⟨.inr rfl, _, _, rfl, rfl⟩
def i_PlaceOf_H1 (xF : Flash) (v4 : List Int) (z1 : Int) (z2 : Int) : St := mkSt [(1, (.one (.ptr (.box 1) 0 [] 0))), (6, (I z1)), (24, (.one (.sl true 3 1 (encs c3 v4)))), (25, (I (ln v4))), (26, (I z2))] [(.box 1, [.sl false 124 3 (encs (c124 false) xF.Blocks)])]
def i_PlaceOf_H2 (z3 : Int) : St := mkSt [(6, (I z3))] []
theorem i_PlaceOf_t (xF : Flash) (r : Int × Int × Bool) (h : i_PlaceOf xF = some r) : Gives Tryz.prog 89 [.sv (.agg [.sl false 124 3 (encs (c124 false) xF.Blocks)])] (.tup [(I r.1), (I r.2.1), (B r.2.2)]) (List.replicate 1 .gone) := by
 unfold i_PlaceOf at h
 refine gives_of Tryz.func89 rfl ?_
 rw [Tryz.ntmps89]
 refine Wp.seq (Wp.region ?_)
 refine LWp.b [] 1 [.sl false 124 3 (encs (c124 false) xF.Blocks)] ?_
 refine LWp.o 2 (I 0) ?_
 refine LWp.o 3 (I 0) ?_
 refine LWp.o 4 (B false) ?_
 refine LWp.nil ?_
 refine Wp.seq ?_
 refine Wp.seq (Wp.region ?_)
 refine LWp.o 9 (.agg [.sl false 124 3 (encs (c124 false) xF.Blocks)]) ?_
 refine LWp.cl h 10 (fun v1 => (B v1)) rfl (l := [.sv (.agg [.sl false 124 3 (encs (c124 false) xF.Blocks)])]) rfl (fun v hv => i_FlashOk_t xF v hv) (.inl rfl) ?_
 intro v1 gv1 h
 refine LWp.o 11 (B (!v1)) ?_
 refine LWp.nil ?_
 refine Wp.c h (fun h => ?_) (fun h => ?_)
 · refine Wp.seq (Wp.region ?_)
   refine LWp.o 2 (I 0) ?_
   refine LWp.o 3 (I 0) ?_
   refine LWp.o 4 (B false) ?_
   refine LWp.nil ?_
   cases h
   exact Wp.ret ⟨.inr rfl, _, _, rfl, rfl⟩
 refine Wp.skip ?_
 refine Wp.seq ?_
 refine Wp.seq (Wp.region ?_)
 refine LWp.o 12 (.agg [.sl false 124 3 (encs (c124 false) xF.Blocks)]) ?_
 refine LWp.cl h 13 (fun v2 => (I v2)) rfl (l := [.sv (.agg [.sl false 124 3 (encs (c124 false) xF.Blocks)])]) rfl (fun v hv => i_OpenBlock_t xF v hv) (.inl rfl) ?_
 intro v2 gv2 h
 refine LWp.o 5 (I v2) ?_
 refine LWp.nil ?_
 refine Wp.seq (Wp.region ?_)
 refine LWp.o 14 (I v2) ?_
 refine LWp.o 15 (B (decide (v2 ≥ 0))) ?_
 refine LWp.nil ?_
 refine Wp.c h (fun h => ?_) (fun h => ?_)
 · refine Wp.seq (Wp.region ?_)
   refine LWp.o 16 (I v2) ?_
   refine LWp.o 17 (.one (.ptr (.box 1) 1 [] 0)) ?_
   refine LWp.o 18 (.one (.sl false 124 3 (encs (c124 false) xF.Blocks))) ?_
   refine LWp.o 19 (I v2) ?_
   refine LWp.p h 20 (fun _ => (.one (.ptr (.slot 18) 1 [0] (Int.toNat v2 * 3 + 0)))) ?_ (fun x1 gx1 => st_pure (p_ix (k124 false) (.slot 18) [] 0 gx1))
   intro x1 gx1 h
   refine LWp.o 21 (.agg [.bool x1.Bad, .int .i64 x1.Wear, .sl false 165 2 (encs c165 x1.Leaves)]) ?_ (st_pure (p_le (k124 false) (.slot 18) [0] gx1))
   refine LWp.cl h 22 (fun v3 => (I v3)) rfl (l := [.sv (.agg [.bool x1.Bad, .int .i64 x1.Wear, .sl false 165 2 (encs c165 x1.Leaves)])]) rfl (fun v hv => i_NextBlank_t x1 v hv) (.inl rfl) ?_
   intro v3 gv3 h
   refine LWp.o 2 (I v2) ?_
   refine LWp.o 3 (I v3) ?_
   refine LWp.o 4 (B true) ?_
   refine LWp.nil ?_
   cases h
   exact Wp.ret ⟨.inr rfl, _, _, rfl, rfl⟩
 refine Wp.skip ?_
 refine Wp.seq (Wp.region ?_)
 refine LWp.o 6 (I (-1)) ?_
 refine LWp.nil ?_
 refine Wp.seq ?_
 refine Wp.seq (Wp.region ?_)
 refine LWp.o 23 (.agg [.sl false 124 3 (encs (c124 false) xF.Blocks)]) ?_
 refine LWp.cl h 24 (fun v4 => (.one (.sl true 3 1 (encs c3 v4)))) rfl (l := [.sv (.agg [.sl false 124 3 (encs (c124 false) xF.Blocks)])]) rfl (fun v hv => i_FreeBlocks_t xF v hv) (.inl rfl) ?_
 intro v4 gv4 h
 refine LWp.o 25 (I (ln v4)) ?_ (st_pure (p_ln k3 v4))
 refine LWp.o 26 (I 0) ?_
 refine LWp.nil ?_
 refine Wp.l1 h [1, 6, 24, 25, 26] [.box 1] (fun s => (i_PlaceOf_H1 xF v4 s.1 s.2)) [6] [] (fun s => (i_PlaceOf_H2 s)) ⟨rfl, rfl⟩ ?_ ?_
 · rintro ⟨yBest1, y1⟩ o (h : i_PlaceOf_b1 xF v4 yBest1 y1 = some o)
   unfold i_PlaceOf_b1 at h
   change Wp _ _ _ (i_PlaceOf_H1 xF v4 yBest1 y1) _
   refine Wp.seq (Wp.region ?_)
   refine LWp.o 27 (B (decide (y1 < (ln v4)))) ?_
   refine LWp.nil ?_
   refine Wp.seq ?_
   refine Wp.c h (fun h => ?_) (fun h => ?_)
   · refine Wp.skip ?_
     refine Wp.seq ?_
     refine Wp.block ?_
     refine Wp.seq (Wp.region ?_)
     refine LWp.p h 28 (fun _ => (.one (.ptr (.slot 24) 0 [0] (Int.toNat y1 * 1 + 0)))) ?_ (fun x2 gx2 => st_pure (p_ix k3 (.slot 24) [] 0 gx2))
     intro x2 gx2 h
     refine LWp.o 29 (I x2) ?_ (st_pure (p_lc k3 (.slot 24) [0] 0 (.int .i64 x2) gx2))
     refine LWp.o 8 (I x2) ?_
     refine LWp.nil ?_
     refine Wp.seq ?_
     refine Wp.regionS mixed (by decide +kernel) ?_
     refine SWp.o 30 (I yBest1) ?_
     refine SWp.o 31 (B (decide (yBest1 < 0))) ?_
     refine SWp.o 32 (B (decide (yBest1 < 0))) ?_
     refine SWp.sp h 32 (fun h => ?_) (fun h => ?_)
     · refine SWp.sh 33 ?_
       refine SWp.sh 34 ?_
       refine SWp.sh 35 ?_
       refine SWp.sh 36 ?_
       refine SWp.sh 37 ?_
       refine SWp.sh 38 ?_
       refine SWp.sh 39 ?_
       refine SWp.sh 40 ?_
       refine SWp.sh 41 ?_
       refine SWp.sh 42 ?_
       refine SWp.sh 43 ?_
       refine SWp.sh 44 ?_
       refine SWp.sh 45 ?_
       refine SWp.o 46 (B true) ?_
       refine SWp.nil ?_
       refine Wp.ct ?_
       refine Wp.region ?_
       refine LWp.o 47 (I x2) ?_
       refine LWp.o 6 (I x2) ?_
       refine LWp.nil ?_
       refine Wp.region ?_
       refine LWp.o 48 (I (ad y1 1)) ?_
       refine LWp.o 26 (I (ad y1 1)) ?_
       refine LWp.nil ?_
       cases h
       exact ⟨_, rfl, rfl, rfl⟩
     refine SWp.o 33 (.one (.ptr (.box 1) 0 [] 0)) ?_
     refine SWp.o 34 (.one (.sl false 124 3 (encs (c124 false) xF.Blocks))) ?_
     refine SWp.o 35 (I x2) ?_
     refine SWp.p h 36 (fun _ => (.one (.ptr (.slot 34) 1 [0] (Int.toNat x2 * 3 + 0)))) ?_ (fun x3 gx3 => sl_pure (p_ix (k124 false) (.slot 34) [] 0 gx3))
     intro x3 gx3 h
     refine SWp.o 37 (.one (.ptr (.slot 34) 1 [0] (Int.toNat x2 * 3 + 1))) ?_ (sl_pure (p_fa (k124 false) (.slot 34) [0] 0 gx3))
     refine SWp.o 38 (I x3.Wear) ?_ (sl_pure (p_lc (k124 false) (.slot 34) [0] 1 (.int .i64 x3.Wear) gx3))
     refine SWp.o 39 (.one (.ptr (.box 1) 0 [] 0)) ?_
     refine SWp.o 40 (.one (.sl false 124 3 (encs (c124 false) xF.Blocks))) ?_
     refine SWp.o 41 (I yBest1) ?_
     refine SWp.p h 42 (fun _ => (.one (.ptr (.slot 40) 1 [0] (Int.toNat yBest1 * 3 + 0)))) ?_ (fun x4 gx4 => sl_pure (p_ix (k124 false) (.slot 40) [] 0 gx4))
     intro x4 gx4 h
     refine SWp.o 43 (.one (.ptr (.slot 40) 1 [0] (Int.toNat yBest1 * 3 + 1))) ?_ (sl_pure (p_fa (k124 false) (.slot 40) [0] 0 gx4))
     refine SWp.o 44 (I x4.Wear) ?_ (sl_pure (p_lc (k124 false) (.slot 40) [0] 1 (.int .i64 x4.Wear) gx4))
     refine SWp.o 45 (B (decide (x3.Wear < x4.Wear))) ?_
     refine SWp.o 46 (B (decide (x3.Wear < x4.Wear))) ?_
     refine SWp.nil ?_
     refine Wp.c h (fun h => ?_) (fun h => ?_)
     · refine Wp.region ?_
       refine LWp.o 47 (I x2) ?_
       refine LWp.o 6 (I x2) ?_
       refine LWp.nil ?_
       refine Wp.region ?_
       refine LWp.o 48 (I (ad y1 1)) ?_
       refine LWp.o 26 (I (ad y1 1)) ?_
       refine LWp.nil ?_
       cases h
       exact ⟨_, rfl, rfl, rfl⟩
     refine Wp.skip ?_
     refine Wp.region ?_
     refine LWp.o 48 (I (ad y1 1)) ?_
     refine LWp.o 26 (I (ad y1 1)) ?_
     refine LWp.nil ?_
     cases h
     exact ⟨_, rfl, rfl, rfl⟩
   refine Wp.exit ?_
   cases h
   exact ⟨_, rfl, rfl, rfl⟩
 intro v5 h E hE
 refine nt_wp hE ?_
 change Wp _ _ _ (i_PlaceOf_H2 v5) _
 refine Wp.seq ?_
 refine Wp.seq (Wp.region ?_)
 refine LWp.o 49 (I v5) ?_
 refine LWp.o 50 (B (decide (v5 < 0))) ?_
 refine LWp.nil ?_
 refine Wp.c h (fun h => ?_) (fun h => ?_)
 · refine Wp.seq (Wp.region ?_)
   refine LWp.o 2 (I 0) ?_
   refine LWp.o 3 (I 0) ?_
   refine LWp.o 4 (B false) ?_
   refine LWp.nil ?_
   cases h
   exact Wp.ret ⟨.inr rfl, _, _, rfl, rfl⟩
 refine Wp.skip ?_
 refine Wp.seq (Wp.region ?_)
 refine LWp.o 51 (I v5) ?_
 refine LWp.o 2 (I v5) ?_
 refine LWp.o 3 (I 0) ?_
 refine LWp.o 4 (B true) ?_
 refine LWp.nil ?_
 cases h
 exact Wp.ret ⟨.inr rfl, _, _, rfl, rfl⟩
def i_copyFlash_H1 (xF : Flash) (z1 : Int) (z2 : List Block) : St := mkSt [(2, (.one (.ptr (.box 2) 0 [] 0))), (3, (.one (.ptr (.box 3) 0 [] 0))), (7, (.one (.sl false 124 3 (encs (c124 false) xF.Blocks)))), (8, (I (ln xF.Blocks))), (9, (I z1))] [(.box 2, [.sl true 124 3 (encs (c124 true) [])]), (.box 3, [.sl true 124 3 (encs (c124 true) z2)])]
def i_copyFlash_H2 (z3 : List Block) : St := mkSt [(2, (.one (.ptr (.box 2) 0 [] 0))), (3, (.one (.ptr (.box 3) 0 [] 0)))] [(.box 2, [.sl true 124 3 (encs (c124 true) [])]), (.box 3, [.sl true 124 3 (encs (c124 true) z3)])]
theorem i_copyFlash_t (xF : Flash) (r : Flash) (h : i_copyFlash xF = some r) : Gives Tryz.prog 143 [.sv (.agg [.sl false 124 3 (encs (c124 false) xF.Blocks)])] (.agg [.sl true 124 3 (encs (c124 true) r.Blocks)]) (List.replicate 1 .gone) := by
 unfold i_copyFlash at h
 refine gives_of Tryz.func143 rfl ?_
 rw [Tryz.ntmps143]
 refine Wp.seq (Wp.region ?_)
 refine LWp.b [] 1 [.sl false 124 3 (encs (c124 false) xF.Blocks)] ?_
 refine LWp.b [] 2 [.sl true 124 3 (encs (c124 true) [])] ?_
 refine LWp.nil ?_
 refine Wp.seq (Wp.region ?_)
 refine LWp.b [] 3 [.sl true 124 3 (encs (c124 true) [])] ?_
 refine LWp.nil ?_
 refine Wp.seq ?_
 refine Wp.seq (Wp.region ?_)
 refine LWp.o 6 (.one (.ptr (.box 1) 1 [] 0)) ?_
 refine LWp.o 7 (.one (.sl false 124 3 (encs (c124 false) xF.Blocks))) ?_
 refine LWp.o 8 (I (ln xF.Blocks)) ?_ (st_pure (p_ln (k124 false) xF.Blocks))
 refine LWp.o 9 (I 0) ?_
 refine LWp.nil ?_
 refine Wp.l1 h [2, 3, 7, 8, 9] [.box 2, .box 3] (fun s => (i_copyFlash_H1 xF s.1 s.2)) [2, 3] [.box 2, .box 3] (fun s => (i_copyFlash_H2 s)) ⟨rfl, rfl⟩ ?_ ?_
 · rintro ⟨y1, yOut01⟩ o (h : i_copyFlash_b1 xF y1 yOut01 = some o)
   unfold i_copyFlash_b1 at h
   change Wp _ _ _ (i_copyFlash_H1 xF y1 yOut01) _
   refine Wp.seq (Wp.region ?_)
   refine LWp.o 10 (B (decide (y1 < (ln xF.Blocks)))) ?_
   refine LWp.nil ?_
   refine Wp.seq ?_
   refine Wp.c h (fun h => ?_) (fun h => ?_)
   · refine Wp.skip ?_
     refine Wp.seq ?_
     refine Wp.block ?_
     refine Wp.seq (Wp.region ?_)
     refine LWp.p h 11 (fun _ => (.one (.ptr (.slot 7) 0 [0] (Int.toNat y1 * 3 + 0)))) ?_ (fun x1 gx1 => st_pure (p_ix (k124 false) (.slot 7) [] 0 gx1))
     intro x1 gx1 h
     refine LWp.o 12 (.agg [.bool x1.Bad, .int .i64 x1.Wear, .sl false 165 2 (encs c165 x1.Leaves)]) ?_ (st_pure (p_le (k124 false) (.slot 7) [0] gx1))
     refine LWp.b [] 5 [.bool false, .int .i64 0, .sl true 165 2 (encs c165 [])] ?_
     refine LWp.sb [] (.box 5) [.bool x1.Bad, .int .i64 x1.Wear, .sl false 165 2 (encs c165 x1.Leaves)] ?_
     refine LWp.nil ?_
     refine Wp.seq (Wp.region ?_)
     refine LWp.o 13 (.one (.ptr (.box 5) 1 [] 2)) ?_
     refine LWp.o 14 (.one (.sl false 165 2 (encs c165 x1.Leaves))) ?_
     refine LWp.pm h [] 15 (fun q1 => (.one (.sl true 165 2 (encs c165 q1)))) ?_ (fun q1 gq1 => s_apl k165 (fun _ => rfl) [] [] gq1)
     intro q1 gq1 h
     refine LWp.o 16 (.one (.ptr (.box 5) 1 [] 2)) ?_
     refine LWp.sb [(.slot 15, [.junk])] (.box 5) [.bool x1.Bad, .int .i64 x1.Wear, .sl true 165 2 (encs c165 q1)] ?_
     refine LWp.nil ?_
     refine Wp.region ?_
     refine LWp.o 17 (.one (.ptr (.box 3) 0 [] 0)) ?_
     refine LWp.o 18 (.one (.view (.box 3) 0 [] 0)) ?_
     refine LWp.o 19 (.agg [.bool x1.Bad, .int .i64 x1.Wear, .view (.box 5) 3 [] 2]) ?_
     refine LWp.m false [(.box 5, [.bool x1.Bad, .int .i64 x1.Wear, .junk])] 20 (.one (.sl true 124 3 (encs (c124 true) [(Block.mk x1.Bad x1.Wear q1)]))) ?_
     refine LWp.pm h [(.box 3, [.junk]), (.slot 20, [.sl true 124 3 [.bool ((Block.mk x1.Bad x1.Wear q1).Bad), .int .i64 ((Block.mk x1.Bad x1.Wear q1).Wear), .junk]])] 21 (fun q2 => (.one (.sl true 124 3 (encs (c124 true) q2)))) ?_ (fun q2 gq2 => s_ap1 (k124 true) [(.box 3, [.junk]), (.slot 20, [.sl true 124 3 [.bool ((Block.mk x1.Bad x1.Wear q1).Bad), .int .i64 ((Block.mk x1.Bad x1.Wear q1).Wear), .junk]])] yOut01 [(Block.mk x1.Bad x1.Wear q1)] gq2)
     intro q2 gq2 h
     refine LWp.o 22 (.one (.ptr (.box 3) 0 [] 0)) ?_
     refine LWp.s [(.slot 21, [.junk])] (.box 3) [.sl true 124 3 (encs (c124 true) q2)] ?_
     refine LWp.nil ?_
     refine Wp.region ?_
     refine LWp.o 23 (I (ad y1 1)) ?_
     refine LWp.o 9 (I (ad y1 1)) ?_
     refine LWp.nil ?_
     cases h
     exact ⟨_, rfl, rfl, rfl⟩
   refine Wp.exit ?_
   cases h
   exact ⟨_, rfl, rfl, rfl⟩
 intro v1 h E hE
 refine nt_wp hE ?_
 change Wp _ _ _ (i_copyFlash_H2 v1) _
 refine Wp.seq (Wp.region ?_)
 refine LWp.o 24 (.agg [.view (.box 3) 0 [] 0]) ?_
 refine LWp.sb [(.box 3, [.junk])] (.box 2) [.sl true 124 3 (encs (c124 true) v1)] ?_
 refine LWp.nil ?_
 cases h
 exact Wp.ret ⟨.inr rfl, _, _, rfl, rfl⟩
theorem i_usable_t (xF : Flash) (xB : Int) (r : Bool) (h : i_usable xF xB = some r) : Gives Tryz.prog 175 [.sv (.agg [.sl false 124 3 (encs (c124 false) xF.Blocks)]), .sv (I xB)] (B r) (List.replicate 2 .gone) := by
 unfold i_usable at h
 refine gives_of Tryz.func175 rfl ?_
 rw [Tryz.ntmps175]
 refine Wp.seq (Wp.region ?_)
 refine LWp.b [] 2 [.sl false 124 3 (encs (c124 false) xF.Blocks)] ?_
 refine LWp.o 4 (B false) ?_
 refine LWp.nil ?_
 refine Wp.seq (Wp.region ?_)
 refine LWp.o 5 (.agg [.sl false 124 3 (encs (c124 false) xF.Blocks)]) ?_
 refine LWp.cl h 6 (fun v1 => (B v1)) rfl (l := [.sv (.agg [.sl false 124 3 (encs (c124 false) xF.Blocks)])]) rfl (fun v hv => i_FlashOk_t xF v hv) (.inl rfl) ?_
 intro v1 gv1 h
 refine LWp.o 7 (B v1) ?_
 refine LWp.sp h 7 (fun h => ?_) (fun h => ?_)
 · refine LWp.o 8 (I xB) ?_
   refine LWp.o 9 (.one (.ptr (.box 2) 1 [] 0)) ?_
   refine LWp.o 10 (.one (.sl false 124 3 (encs (c124 false) xF.Blocks))) ?_
   refine LWp.o 11 (I (ln xF.Blocks)) ?_ (st_pure (p_ln (k124 false) xF.Blocks))
   refine LWp.o 12 (I (sb (ln xF.Blocks) 1)) ?_
   refine LWp.cl h 13 (fun v2 => (B v2)) rfl (l := [.sv (.one (.int .i64 xB)), .sv (.one (.int .i64 0)), .sv (.one (.int .i64 (sb (ln xF.Blocks) 1)))]) rfl (fun v hv => i_in_t xB 0 (sb (ln xF.Blocks) 1) v hv) (.inl rfl) ?_
   intro v2 gv2 h
   refine LWp.o 14 (B v2) ?_
   refine LWp.o 15 (B v2) ?_
   refine LWp.sp h 15 (fun h => ?_) (fun h => ?_)
   · refine LWp.o 16 (.one (.ptr (.box 2) 1 [] 0)) ?_
     refine LWp.o 17 (.one (.sl false 124 3 (encs (c124 false) xF.Blocks))) ?_
     refine LWp.o 18 (I xB) ?_
     refine LWp.p h 19 (fun _ => (.one (.ptr (.slot 17) 1 [0] (Int.toNat xB * 3 + 0)))) ?_ (fun x1 gx1 => st_pure (p_ix (k124 false) (.slot 17) [] 0 gx1))
     intro x1 gx1 h
     refine LWp.o 20 (.one (.ptr (.slot 17) 1 [0] (Int.toNat xB * 3 + 0))) ?_ (st_pure (p_fa (k124 false) (.slot 17) [0] 0 gx1))
     refine LWp.o 21 (B x1.Bad) ?_ (st_pure (p_lc (k124 false) (.slot 17) [0] 0 (.bool x1.Bad) gx1))
     refine LWp.o 22 (B (!x1.Bad)) ?_
     refine LWp.o 23 (B (!x1.Bad)) ?_
     refine LWp.o 4 (B (!x1.Bad)) ?_
     refine LWp.nil ?_
     cases h
     exact Wp.ret ⟨.inr rfl, _, _, rfl, rfl⟩
   refine LWp.sh 16 ?_
   refine LWp.sh 17 ?_
   refine LWp.sh 18 ?_
   refine LWp.sh 19 ?_
   refine LWp.sh 20 ?_
   refine LWp.sh 21 ?_
   refine LWp.sh 22 ?_
   refine LWp.o 23 (B false) ?_
   refine LWp.o 4 (B false) ?_
   refine LWp.nil ?_
   cases h
   exact Wp.ret ⟨.inr rfl, _, _, rfl, rfl⟩
 refine LWp.sh 8 ?_
 refine LWp.sh 9 ?_
 refine LWp.sh 10 ?_
 refine LWp.sh 11 ?_
 refine LWp.sh 12 ?_
 refine LWp.sh 13 ?_
 refine LWp.o 14 (B false) ?_
 refine LWp.o 15 (B false) ?_
 refine LWp.sh 16 ?_
 refine LWp.sh 17 ?_
 refine LWp.sh 18 ?_
 refine LWp.sh 19 ?_
 refine LWp.sh 20 ?_
 refine LWp.sh 21 ?_
 refine LWp.sh 22 ?_
 refine LWp.o 23 (B false) ?_
 refine LWp.o 4 (B false) ?_
 refine LWp.nil ?_
 cases h
 exact Wp.ret ⟨.inr rfl, _, _, rfl, rfl⟩
def i_Program_H1 (xB : Int) (xLeaf : Int) (xText : ByteArray) (v1 : Flash) (z1 : Bool) : St := mkSt [(1, (I xB)), (2, (I xLeaf)), (3, (Y xText)), (8, (.one (.ptr (.box 8) 0 [] 0))), (10, (.one (.ptr (.box 10) 0 [] 0))), (37, (B z1))] [(.box 8, [.sl true 124 3 (encs (c124 true) [])]), (.box 10, [.sl true 124 3 (encs (c124 true) v1.Blocks)])]
theorem i_Program_t (xF : Flash) (xB : Int) (xLeaf : Int) (xText : ByteArray) (r : Flash × Bool) (h : i_Program xF xB xLeaf xText = some r) : Gives Tryz.prog 141 [.sv (.agg [.sl false 124 3 (encs (c124 false) xF.Blocks)]), .sv (I xB), .sv (I xLeaf), .sv (Y xText)] (.tup [(.agg [.sl true 124 3 (encs (c124 true) r.1.Blocks)]), (B r.2)]) (List.replicate 4 .gone) := by
 unfold i_Program at h
 refine gives_of Tryz.func141 rfl ?_
 rw [Tryz.ntmps141]
 refine Wp.seq (Wp.region ?_)
 refine LWp.b [] 4 [.sl false 124 3 (encs (c124 false) xF.Blocks)] ?_
 refine LWp.b [] 8 [.sl true 124 3 (encs (c124 true) [])] ?_
 refine LWp.o 9 (B false) ?_
 refine LWp.nil ?_
 refine Wp.seq (Wp.region ?_)
 refine LWp.o 11 (.agg [.sl false 124 3 (encs (c124 false) xF.Blocks)]) ?_
 refine LWp.cl h 12 (fun v1 => (.agg [.sl true 124 3 (encs (c124 true) v1.Blocks)])) rfl (l := [.sv (.agg [.sl false 124 3 (encs (c124 false) xF.Blocks)])]) rfl (fun v hv => i_copyFlash_t xF v hv) (.inl rfl) ?_
 intro v1 gv1 h
 refine LWp.b [] 10 [.sl true 124 3 (encs (c124 true) [])] ?_
 refine LWp.sb [(.slot 12, [.junk])] (.box 10) [.sl true 124 3 (encs (c124 true) v1.Blocks)] ?_
 refine LWp.nil ?_
 refine Wp.seq ?_
 refine Wp.seq ?_
 refine Wp.j1 h [1, 2, 3, 8, 10, 37] [.box 8, .box 10] (fun a => (i_Program_H1 xB xLeaf xText v1 a)) ?_ ?_
 · intro a h
   refine Wp.region ?_
   refine LWp.o 13 (.agg [.sl false 124 3 (encs (c124 false) xF.Blocks)]) ?_
   refine LWp.o 14 (I xB) ?_
   refine LWp.cl h 15 (fun v2 => (B v2)) rfl (l := [.sv (.agg [.sl false 124 3 (encs (c124 false) xF.Blocks)]), .sv (.one (.int .i64 xB))]) rfl (fun v hv => i_usable_t xF xB v hv) (.inl rfl) ?_
   intro v2 gv2 h
   refine LWp.o 16 (B (!v2)) ?_
   refine LWp.o 17 (B (!v2)) ?_
   refine LWp.sp h 17 (fun h => ?_) (fun h => ?_)
   · refine LWp.sh 18 ?_
     refine LWp.sh 19 ?_
     refine LWp.sh 20 ?_
     refine LWp.o 21 (B true) ?_
     refine LWp.o 22 (B true) ?_
     refine LWp.sh 23 ?_
     refine LWp.sh 24 ?_
     refine LWp.sh 25 ?_
     refine LWp.sh 26 ?_
     refine LWp.sh 27 ?_
     refine LWp.sh 28 ?_
     refine LWp.sh 29 ?_
     refine LWp.sh 30 ?_
     refine LWp.o 31 (B true) ?_
     refine LWp.o 32 (B true) ?_
     refine LWp.sh 33 ?_
     refine LWp.sh 34 ?_
     refine LWp.sh 35 ?_
     refine LWp.sh 36 ?_
     refine LWp.o 37 (B true) ?_
     refine LWp.nil ?_
     cases h
     exact ⟨_, rfl, rfl, rfl⟩
   refine LWp.o 18 (I xLeaf) ?_
   refine LWp.cl h 19 (fun v3 => (B v3)) rfl (l := [.sv (.one (.int .i64 xLeaf)), .sv (.one (.int .i64 0)), .sv (.one (.int .i64 3))]) rfl (fun v hv => i_in_t xLeaf 0 3 v hv) (.inl rfl) ?_
   intro v3 gv3 h
   refine LWp.o 20 (B (!v3)) ?_
   refine LWp.o 21 (B (!v3)) ?_
   refine LWp.o 22 (B (!v3)) ?_
   refine LWp.sp h 22 (fun h => ?_) (fun h => ?_)
   · refine LWp.sh 23 ?_
     refine LWp.sh 24 ?_
     refine LWp.sh 25 ?_
     refine LWp.sh 26 ?_
     refine LWp.sh 27 ?_
     refine LWp.sh 28 ?_
     refine LWp.sh 29 ?_
     refine LWp.sh 30 ?_
     refine LWp.o 31 (B true) ?_
     refine LWp.o 32 (B true) ?_
     refine LWp.sh 33 ?_
     refine LWp.sh 34 ?_
     refine LWp.sh 35 ?_
     refine LWp.sh 36 ?_
     refine LWp.o 37 (B true) ?_
     refine LWp.nil ?_
     cases h
     exact ⟨_, rfl, rfl, rfl⟩
   refine LWp.o 23 (I xLeaf) ?_
   refine LWp.o 24 (.one (.ptr (.box 4) 1 [] 0)) ?_
   refine LWp.o 25 (.one (.sl false 124 3 (encs (c124 false) xF.Blocks))) ?_
   refine LWp.o 26 (I xB) ?_
   refine LWp.p h 27 (fun _ => (.one (.ptr (.slot 25) 1 [0] (Int.toNat xB * 3 + 0)))) ?_ (fun x1 gx1 => st_pure (p_ix (k124 false) (.slot 25) [] 0 gx1))
   intro x1 gx1 h
   refine LWp.o 28 (.agg [.bool x1.Bad, .int .i64 x1.Wear, .sl false 165 2 (encs c165 x1.Leaves)]) ?_ (st_pure (p_le (k124 false) (.slot 25) [0] gx1))
   refine LWp.cl h 29 (fun v4 => (I v4)) rfl (l := [.sv (.agg [.bool x1.Bad, .int .i64 x1.Wear, .sl false 165 2 (encs c165 x1.Leaves)])]) rfl (fun v hv => i_NextBlank_t x1 v hv) (.inl rfl) ?_
   intro v4 gv4 h
   refine LWp.o 30 (B (xLeaf != v4)) ?_
   refine LWp.o 31 (B (xLeaf != v4)) ?_
   refine LWp.o 32 (B (xLeaf != v4)) ?_
   refine LWp.sp h 32 (fun h => ?_) (fun h => ?_)
   · refine LWp.sh 33 ?_
     refine LWp.sh 34 ?_
     refine LWp.sh 35 ?_
     refine LWp.sh 36 ?_
     refine LWp.o 37 (B true) ?_
     refine LWp.nil ?_
     cases h
     exact ⟨_, rfl, rfl, rfl⟩
   refine LWp.o 33 (Y xText) ?_
   refine LWp.o 34 (I (sln xText)) ?_
   refine LWp.cl h 35 (fun v5 => (B v5)) rfl (l := [.sv (.one (.int .i64 (sln xText))), .sv (.one (.int .i64 1)), .sv (.one (.int .i64 120))]) rfl (fun v hv => i_in_t (sln xText) 1 120 v hv) (.inl rfl) ?_
   intro v5 gv5 h
   refine LWp.o 36 (B (!v5)) ?_
   refine LWp.o 37 (B (!v5)) ?_
   refine LWp.nil ?_
   cases h
   exact ⟨_, rfl, rfl, rfl⟩
 intro j1 h E hE
 refine nt_wp hE ?_
 change Wp _ _ _ (i_Program_H1 xB xLeaf xText v1 j1) _
 refine Wp.c h (fun h => ?_) (fun h => ?_)
 · refine Wp.seq (Wp.region ?_)
   refine LWp.o 38 (.agg [.view (.box 10) 0 [] 0]) ?_
   refine LWp.sb [(.box 10, [.junk])] (.box 8) [.sl true 124 3 (encs (c124 true) v1.Blocks)] ?_
   refine LWp.o 9 (B false) ?_
   refine LWp.nil ?_
   cases h
   exact Wp.ret ⟨.inr rfl, _, _, rfl, rfl⟩
 refine Wp.skip ?_
 refine Wp.seq (Wp.region ?_)
 refine LWp.o 39 (.one (.ptr (.box 10) 0 [] 0)) ?_
 refine LWp.o 40 (.one (.view (.box 10) 0 [] 0)) ?_
 refine LWp.o 41 (I xB) ?_
 refine LWp.p h 42 (fun _ => (.one (.ptr (.box 10) 0 [0] (Int.toNat xB * 3 + 0)))) ?_ (fun x2 gx2 => st_pure (p_ix (k124 true) (.box 10) [] 0 gx2))
 intro x2 gx2 h
 refine LWp.o 43 (.one (.ptr (.box 10) 0 [0] (Int.toNat xB * 3 + 2))) ?_ (st_pure (p_fa (k124 true) (.box 10) [0] 0 gx2))
 refine LWp.o 44 (.one (.view (.box 10) 0 [0] (Int.toNat xB * 3 + 2))) ?_ (st_pure (p_lc (k124 true) (.box 10) [0] 2 (.sl true 165 2 (encs c165 x2.Leaves)) gx2))
 refine LWp.o 45 (I xLeaf) ?_
 refine LWp.o 46 (Y xText) ?_
 refine LWp.o 47 (.agg [.int .i64 1, .str xText]) ?_
 refine LWp.p h 48 (fun _ => (.one (.ptr (.box 10) 0 [0, (Int.toNat xB * 3 + 2)] (Int.toNat xLeaf * 2 + 0)))) ?_ (fun x3 gx3 => st_pure (p_ix k165 (.box 10) [0] (Int.toNat xB * 3 + 2) gx3 (hp := gi_cellb (k124 true) gx2)))
 intro x3 gx3 h
 refine LWp.sb [] (.box 10) [.sl true 124 3 (encs (c124 true) (si v1.Blocks xB (Block.mk x2.Bad x2.Wear (si x2.Leaves xLeaf (Leaf.mk 1 xText)))))] ?_ (s_st [] (q := [0, (Int.toNat xB * 3 + 2)]) (cs := [.sl true 124 3 (encs (c124 true) v1.Blocks)]) (xs := [.int .i64 1, .str xText]) (At.el (k124 true) (k := 2) (z := (Block.mk x2.Bad x2.Wear (si x2.Leaves xLeaf (Leaf.mk 1 xText)))) gx2 (At.one (setRow_gi k165 (k := 0) (z := (Leaf.mk 1 xText)) gx3 rfl rfl))) (fit_gi k165 (k := 0) gx3 rfl))
 refine LWp.nil ?_
 refine Wp.seq (Wp.region ?_)
 refine LWp.o 49 (.agg [.view (.box 10) 1 [] 0]) ?_
 refine LWp.sb [(.box 10, [.junk])] (.box 8) [.sl true 124 3 (encs (c124 true) (si v1.Blocks xB (Block.mk x2.Bad x2.Wear (si x2.Leaves xLeaf (Leaf.mk 1 xText)))))] ?_
 refine LWp.o 9 (B true) ?_
 refine LWp.nil ?_
 cases h
 exact Wp.ret ⟨.inr rfl, _, _, rfl, rfl⟩
theorem i_blankLeaves_t  (r : List Leaf) (h : i_blankLeaves = some r) : Gives Tryz.prog 176 [] (.one (.sl true 165 2 (encs c165 r))) (List.replicate 0 .gone) := by
 unfold i_blankLeaves at h
 refine gives_of Tryz.func176 rfl ?_
 rw [Tryz.ntmps176]
 refine Wp.seq (Wp.region ?_)
 refine LWp.o 0 (.one (.sl true 165 2 (encs c165 []))) ?_
 refine LWp.nil ?_
 refine Wp.seq (Wp.region ?_)
 refine LWp.p h 1 (fun q1 => (.one (.sl true 165 2 (encs c165 q1)))) ?_ (fun q1 gq1 => s_mk (f := c165) (Leaf.mk 0 (bs [])) gq1)
 intro q1 gq1 h
 refine LWp.m true [(.slot 1, [.junk])] 0 (.one (.sl true 165 2 (encs c165 q1))) ?_
 refine LWp.nil ?_
 cases h
 exact Wp.ret ⟨.inr rfl, _, _, rfl, rfl⟩
def i_Wipe_H1 (xB : Int) (v1 : Flash) (z1 : Bool) : St := mkSt [(1, (I xB)), (4, (.one (.ptr (.box 4) 0 [] 0))), (6, (.one (.ptr (.box 6) 0 [] 0))), (21, (B z1))] [(.box 4, [.sl true 124 3 (encs (c124 true) [])]), (.box 6, [.sl true 124 3 (encs (c124 true) v1.Blocks)])]
theorem i_Wipe_t (xF : Flash) (xB : Int) (r : Flash × Bool) (h : i_Wipe xF xB = some r) : Gives Tryz.prog 142 [.sv (.agg [.sl false 124 3 (encs (c124 false) xF.Blocks)]), .sv (I xB)] (.tup [(.agg [.sl true 124 3 (encs (c124 true) r.1.Blocks)]), (B r.2)]) (List.replicate 2 .gone) := by
 unfold i_Wipe at h
 refine gives_of Tryz.func142 rfl ?_
 rw [Tryz.ntmps142]
 refine Wp.seq (Wp.region ?_)
 refine LWp.b [] 2 [.sl false 124 3 (encs (c124 false) xF.Blocks)] ?_
 refine LWp.b [] 4 [.sl true 124 3 (encs (c124 true) [])] ?_
 refine LWp.o 5 (B false) ?_
 refine LWp.nil ?_
 refine Wp.seq (Wp.region ?_)
 refine LWp.o 7 (.agg [.sl false 124 3 (encs (c124 false) xF.Blocks)]) ?_
 refine LWp.cl h 8 (fun v1 => (.agg [.sl true 124 3 (encs (c124 true) v1.Blocks)])) rfl (l := [.sv (.agg [.sl false 124 3 (encs (c124 false) xF.Blocks)])]) rfl (fun v hv => i_copyFlash_t xF v hv) (.inl rfl) ?_
 intro v1 gv1 h
 refine LWp.b [] 6 [.sl true 124 3 (encs (c124 true) [])] ?_
 refine LWp.sb [(.slot 8, [.junk])] (.box 6) [.sl true 124 3 (encs (c124 true) v1.Blocks)] ?_
 refine LWp.nil ?_
 refine Wp.seq ?_
 refine Wp.seq ?_
 refine Wp.j1 h [1, 4, 6, 21] [.box 4, .box 6] (fun a => (i_Wipe_H1 xB v1 a)) ?_ ?_
 · intro a h
   refine Wp.region ?_
   refine LWp.o 9 (.agg [.sl false 124 3 (encs (c124 false) xF.Blocks)]) ?_
   refine LWp.o 10 (I xB) ?_
   refine LWp.cl h 11 (fun v2 => (B v2)) rfl (l := [.sv (.agg [.sl false 124 3 (encs (c124 false) xF.Blocks)]), .sv (.one (.int .i64 xB))]) rfl (fun v hv => i_usable_t xF xB v hv) (.inl rfl) ?_
   intro v2 gv2 h
   refine LWp.o 12 (B (!v2)) ?_
   refine LWp.o 13 (B (!v2)) ?_
   refine LWp.sp h 13 (fun h => ?_) (fun h => ?_)
   · refine LWp.sh 14 ?_
     refine LWp.sh 15 ?_
     refine LWp.sh 16 ?_
     refine LWp.sh 17 ?_
     refine LWp.sh 18 ?_
     refine LWp.sh 19 ?_
     refine LWp.sh 20 ?_
     refine LWp.o 21 (B true) ?_
     refine LWp.nil ?_
     cases h
     exact ⟨_, rfl, rfl, rfl⟩
   refine LWp.o 14 (.one (.ptr (.box 2) 1 [] 0)) ?_
   refine LWp.o 15 (.one (.sl false 124 3 (encs (c124 false) xF.Blocks))) ?_
   refine LWp.o 16 (I xB) ?_
   refine LWp.p h 17 (fun _ => (.one (.ptr (.slot 15) 1 [0] (Int.toNat xB * 3 + 0)))) ?_ (fun x1 gx1 => st_pure (p_ix (k124 false) (.slot 15) [] 0 gx1))
   intro x1 gx1 h
   refine LWp.o 18 (.one (.ptr (.slot 15) 1 [0] (Int.toNat xB * 3 + 1))) ?_ (st_pure (p_fa (k124 false) (.slot 15) [0] 0 gx1))
   refine LWp.o 19 (I x1.Wear) ?_ (st_pure (p_lc (k124 false) (.slot 15) [0] 1 (.int .i64 x1.Wear) gx1))
   refine LWp.o 20 (B (x1.Wear == 1000000000)) ?_
   refine LWp.o 21 (B (x1.Wear == 1000000000)) ?_
   refine LWp.nil ?_
   cases h
   exact ⟨_, rfl, rfl, rfl⟩
 intro j1 h E hE
 refine nt_wp hE ?_
 change Wp _ _ _ (i_Wipe_H1 xB v1 j1) _
 refine Wp.c h (fun h => ?_) (fun h => ?_)
 · refine Wp.seq (Wp.region ?_)
   refine LWp.o 22 (.agg [.view (.box 6) 0 [] 0]) ?_
   refine LWp.sb [(.box 6, [.junk])] (.box 4) [.sl true 124 3 (encs (c124 true) v1.Blocks)] ?_
   refine LWp.o 5 (B false) ?_
   refine LWp.nil ?_
   cases h
   exact Wp.ret ⟨.inr rfl, _, _, rfl, rfl⟩
 refine Wp.skip ?_
 refine Wp.seq ?_
 refine Wp.regionK 7 [6] mixed (fun c E h => by rcases h with ⟨h | h, _⟩ <;> cases h) ?_
 refine KWp.o 7 0 23 (.one (.ptr (.box 6) 0 [] 0)) ?_
 refine KWp.o 7 1 24 (.one (.view (.box 6) 0 [] 0)) ?_
 refine KWp.o 7 2 25 (I xB) ?_
 refine KWp.w1 3 ?_
 refine KOp.cl h 3 26 (fun v3 => (.one (.sl true 165 2 (encs c165 v3)))) rfl rfl (l := []) rfl (fun v hv => i_blankLeaves_t v hv) (.inl rfl) ?_
 intro v3 gv3 h
 refine KWp.p h 7 4 27 (fun _ => (.one (.ptr (.box 6) 0 [0] (Int.toNat xB * 3 + 0)))) ?_ rfl (fun x2 gx2 => sl_pure (p_ix (k124 true) (.box 6) [] 0 gx2))
 intro x2 gx2 h
 refine KWp.o 7 5 28 (.one (.ptr (.box 6) 0 [0] (Int.toNat xB * 3 + 2))) ?_ rfl (sl_pure (p_fa (k124 true) (.box 6) [0] 0 gx2))
 refine KWp.w1 6 ?_
 refine KOp.sb 6 [(.slot 26, [.junk])] (.box 6) [.sl true 124 3 (encs (c124 true) (si v1.Blocks xB (Block.mk x2.Bad x2.Wear v3)))] ?_ rfl (s_st [(.slot 26, [.junk])] (q := [0]) (cs := [.sl true 124 3 (encs (c124 true) v1.Blocks)]) (xs := [.sl true 165 2 (encs c165 v3)]) (At.one (setRow_gi (k124 true) (k := 2) (z := (Block.mk x2.Bad x2.Wear v3)) gx2 rfl rfl)) (fit_gi (k124 true) (k := 2) gx2 rfl))
 refine KWp.done ?_
 refine Wp.seq (Wp.region ?_)
 refine LWp.o 29 (.one (.ptr (.box 6) 0 [] 0)) ?_
 refine LWp.o 30 (.one (.view (.box 6) 1 [] 0)) ?_
 refine LWp.o 31 (I xB) ?_
 refine LWp.p h 32 (fun _ => (.one (.ptr (.box 6) 1 [0] (Int.toNat xB * 3 + 0)))) ?_ (fun x3 gx3 => st_pure (p_ix (k124 true) (.box 6) [] 0 gx3))
 intro x3 gx3 h
 refine LWp.o 33 (.one (.ptr (.box 6) 1 [0] (Int.toNat xB * 3 + 1))) ?_ (st_pure (p_fa (k124 true) (.box 6) [0] 0 gx3))
 refine LWp.o 34 (I x3.Wear) ?_ (st_pure (p_lc (k124 true) (.box 6) [0] 1 (.int .i64 x3.Wear) gx3))
 refine LWp.o 35 (I (ad x3.Wear 1)) ?_
 refine LWp.p h 36 (fun _ => (.one (.ptr (.box 6) 1 [0] (Int.toNat xB * 3 + 0)))) ?_ (fun x4 gx4 => st_pure (p_ix (k124 true) (.box 6) [] 0 gx4))
 intro x4 gx4 h
 refine LWp.o 37 (.one (.ptr (.box 6) 1 [0] (Int.toNat xB * 3 + 1))) ?_ (st_pure (p_fa (k124 true) (.box 6) [0] 0 gx4))
 refine LWp.sb [] (.box 6) [.sl true 124 3 (encs (c124 true) (si (si v1.Blocks xB (Block.mk x2.Bad x2.Wear v3)) xB (Block.mk x4.Bad (ad x3.Wear 1) x4.Leaves)))] ?_ (s_st [] (q := [0]) (cs := [.sl true 124 3 (encs (c124 true) (si v1.Blocks xB (Block.mk x2.Bad x2.Wear v3)))]) (xs := [.int .i64 (ad x3.Wear 1)]) (At.one (setRow_gi (k124 true) (k := 1) (z := (Block.mk x4.Bad (ad x3.Wear 1) x4.Leaves)) gx4 rfl rfl)) (fit_gi (k124 true) (k := 1) gx4 rfl))
 refine LWp.nil ?_
 refine Wp.seq (Wp.region ?_)
 refine LWp.o 38 (.agg [.view (.box 6) 2 [] 0]) ?_
 refine LWp.sb [(.box 6, [.junk])] (.box 4) [.sl true 124 3 (encs (c124 true) (si (si v1.Blocks xB (Block.mk x2.Bad x2.Wear v3)) xB (Block.mk x4.Bad (ad x3.Wear 1) x4.Leaves)))] ?_
 refine LWp.o 5 (B true) ?_
 refine LWp.nil ?_
 cases h
 exact Wp.ret ⟨.inr rfl, _, _, rfl, rfl⟩
theorem i_DoStep_t (xF : Flash) (xS : Step) (r : Flash × Bool) (h : i_DoStep xF xS = some r) : Gives Tryz.prog 90 [.sv (.agg [.sl false 124 3 (encs (c124 false) xF.Blocks)]), .sv (.agg [.int .i64 xS.Kind, .int .i64 xS.Block, .int .i64 xS.Leaf, .str xS.Text])] (.tup [(.agg [.sl true 124 3 (encs (c124 true) r.1.Blocks)]), (B r.2)]) (List.replicate 2 .gone) := by
 unfold i_DoStep at h
 refine gives_of Tryz.func90 rfl ?_
 rw [Tryz.ntmps90]
 refine Wp.seq (Wp.region ?_)
 refine LWp.b [] 2 [.sl false 124 3 (encs (c124 false) xF.Blocks)] ?_
 refine LWp.b [] 3 [.int .i64 xS.Kind, .int .i64 xS.Block, .int .i64 xS.Leaf, .str xS.Text] ?_
 refine LWp.b [] 4 [.sl true 124 3 (encs (c124 true) [])] ?_
 refine LWp.o 5 (B false) ?_
 refine LWp.nil ?_
 refine Wp.seq ?_
 refine Wp.seq (Wp.region ?_)
 refine LWp.o 6 (.one (.ptr (.box 3) 1 [] 0)) ?_
 refine LWp.o 7 (I xS.Kind) ?_
 refine LWp.nil ?_
 refine Wp.block ?_
 refine Wp.seq (Wp.region ?_)
 refine LWp.o 9 (B (xS.Kind == 1)) ?_
 refine LWp.o 8 (B (xS.Kind == 1)) ?_
 refine LWp.nil ?_
 refine Wp.c h (fun h => ?_) (fun h => ?_)
 · refine Wp.seq (Wp.region ?_)
   refine LWp.o 10 (.agg [.sl false 124 3 (encs (c124 false) xF.Blocks)]) ?_
   refine LWp.o 11 (.one (.ptr (.box 3) 1 [] 1)) ?_
   refine LWp.o 12 (I xS.Block) ?_
   refine LWp.o 13 (.one (.ptr (.box 3) 1 [] 2)) ?_
   refine LWp.o 14 (I xS.Leaf) ?_
   refine LWp.o 15 (.one (.ptr (.box 3) 1 [] 3)) ?_
   refine LWp.o 16 (Y xS.Text) ?_
   refine LWp.cl h 17 (fun v1 => (.tup [(.agg [.sl true 124 3 (encs (c124 true) v1.1.Blocks)]), (B v1.2)])) rfl (l := [.sv (.agg [.sl false 124 3 (encs (c124 false) xF.Blocks)]), .sv (.one (.int .i64 xS.Block)), .sv (.one (.int .i64 xS.Leaf)), .sv (.one (.str xS.Text))]) rfl (fun v hv => i_Program_t xF xS.Block xS.Leaf xS.Text v hv) (.inl rfl) ?_
   intro v1 gv1 h
   refine LWp.e 17 0 18 (.agg [.sl true 124 3 (encs (c124 true) v1.1.Blocks)]) ?_
   refine LWp.e 17 1 19 (B v1.2) ?_
   refine LWp.sb [(.slot 18, [.junk])] (.box 4) [.sl true 124 3 (encs (c124 true) v1.1.Blocks)] ?_
   refine LWp.o 5 (B v1.2) ?_
   refine LWp.nil ?_
   cases h
   exact Wp.ret ⟨.inr rfl, _, _, rfl, rfl⟩
 refine Wp.seq (Wp.region ?_)
 refine LWp.o 21 (B (xS.Kind == 2)) ?_
 refine LWp.o 20 (B (xS.Kind == 2)) ?_
 refine LWp.nil ?_
 refine Wp.c h (fun h => ?_) (fun h => ?_)
 · refine Wp.seq (Wp.region ?_)
   refine LWp.o 22 (.agg [.sl false 124 3 (encs (c124 false) xF.Blocks)]) ?_
   refine LWp.o 23 (.one (.ptr (.box 3) 1 [] 1)) ?_
   refine LWp.o 24 (I xS.Block) ?_
   refine LWp.cl h 25 (fun v2 => (.tup [(.agg [.sl true 124 3 (encs (c124 true) v2.1.Blocks)]), (B v2.2)])) rfl (l := [.sv (.agg [.sl false 124 3 (encs (c124 false) xF.Blocks)]), .sv (.one (.int .i64 xS.Block))]) rfl (fun v hv => i_Wipe_t xF xS.Block v hv) (.inl rfl) ?_
   intro v2 gv2 h
   refine LWp.e 25 0 26 (.agg [.sl true 124 3 (encs (c124 true) v2.1.Blocks)]) ?_
   refine LWp.e 25 1 27 (B v2.2) ?_
   refine LWp.sb [(.slot 26, [.junk])] (.box 4) [.sl true 124 3 (encs (c124 true) v2.1.Blocks)] ?_
   refine LWp.o 5 (B v2.2) ?_
   refine LWp.nil ?_
   cases h
   exact Wp.ret ⟨.inr rfl, _, _, rfl, rfl⟩
 refine Wp.skip ?_
 refine Wp.seq (Wp.region ?_)
 refine LWp.o 28 (.agg [.sl false 124 3 (encs (c124 false) xF.Blocks)]) ?_
 refine LWp.cl h 29 (fun v3 => (.agg [.sl true 124 3 (encs (c124 true) v3.Blocks)])) rfl (l := [.sv (.agg [.sl false 124 3 (encs (c124 false) xF.Blocks)])]) rfl (fun v hv => i_copyFlash_t xF v hv) (.inl rfl) ?_
 intro v3 gv3 h
 refine LWp.sb [(.slot 29, [.junk])] (.box 4) [.sl true 124 3 (encs (c124 true) v3.Blocks)] ?_
 refine LWp.o 5 (B false) ?_
 refine LWp.nil ?_
 cases h
 exact Wp.ret ⟨.inr rfl, _, _, rfl, rfl⟩
def i_stepper_write_H1 (xW : stepper) (v1 : ByteArray × Bool) (v2 : Int × Int × Bool) (z1 : Bool) : St := mkSt [(0, (.one (.ptr (.ext 0) 0 [] 0))), (7, (Y v1.1)), (9, (I v2.1)), (10, (I v2.2.1)), (39, (B z1))] [(.ext 0, [.sl false 124 3 (encs (c124 false) xW.f_.Blocks), .sl true 99 4 (encs c99 xW.steps_)])]
def i_stepper_write_H2 (xW : stepper) (v1 : ByteArray × Bool) (v2 : Int × Int × Bool) (z2 : Bool) (z3 : List Block) : St := mkSt [(0, (.one (.ptr (.ext 0) 0 [] 0))), (12, (.one (.ptr (.box 12) 0 [] 0))), (13, (.one (.ptr (.box 13) 0 [] 0))), (14, (B z2))] [(.box 12, [.int .i64 1, .int .i64 v2.1, .int .i64 v2.2.1, .str v1.1]), (.box 13, [.sl true 124 3 (encs (c124 true) z3)]), (.ext 0, [.sl false 124 3 (encs (c124 false) xW.f_.Blocks), .sl true 99 4 (encs c99 xW.steps_)])]
set_option maxHeartbeats 4000000 in
theorem i_stepper_write_t (xW : stepper) (xP : Page) (xBut : Int) (r : Bool × stepper) (h : i_stepper_write xW xP xBut = some r) : Gives Tryz.prog 45 [.ext [.sl false 124 3 (encs (c124 false) xW.f_.Blocks), .sl true 99 4 (encs c99 xW.steps_)], .sv (.agg [.int .i64 xP.Kind, .int .i64 xP.Seq, .int .i64 xP.Tx, .int .i64 xP.Part, .int .i64 xP.Count, .str xP.Text]), .sv (I xBut)] (B r.1) (.ext [.sl false 124 3 (encs (c124 false) r.2.f_.Blocks), .sl true 99 4 (encs c99 r.2.steps_)] :: List.replicate 2 .gone) := by
 unfold i_stepper_write at h
 refine gives_extL Tryz.func45 rfl ?_ rfl
 rw [Tryz.ntmps45]
 refine Wp.seq (Wp.region ?_)
 refine LWp.b [] 4 [.int .i64 xP.Kind, .int .i64 xP.Seq, .int .i64 xP.Tx, .int .i64 xP.Part, .int .i64 xP.Count, .str xP.Text] ?_
 refine LWp.o 6 (B false) ?_
 refine LWp.nil ?_
 refine Wp.seq (Wp.region ?_)
 refine LWp.o 16 (.agg [.int .i64 xP.Kind, .int .i64 xP.Seq, .int .i64 xP.Tx, .int .i64 xP.Part, .int .i64 xP.Count, .str xP.Text]) ?_
 refine LWp.cl h 17 (fun v1 => (.tup [(Y v1.1), (B v1.2)])) rfl (l := [.sv (.agg [.int .i64 xP.Kind, .int .i64 xP.Seq, .int .i64 xP.Tx, .int .i64 xP.Part, .int .i64 xP.Count, .str xP.Text])]) rfl (fun v hv => i_PageText_t xP v hv) (.inl rfl) ?_
 intro v1 gv1 h
 refine LWp.mt 17 15 (.tup [(Y v1.1), (B v1.2)]) ?_
 refine LWp.e 15 0 18 (Y v1.1) ?_
 refine LWp.e 15 1 19 (B v1.2) ?_
 refine LWp.o 7 (Y v1.1) ?_
 refine LWp.o 8 (B v1.2) ?_
 refine LWp.nil ?_
 refine Wp.seq (Wp.region ?_)
 refine LWp.o 21 (.one (.ptr (.ext 0) 0 [] 0)) ?_
 refine LWp.o 22 (.one (.ptr (.ext 0) 0 [] 0)) ?_
 refine LWp.o 23 (.one (.ptr (.ext 0) 0 [] 0)) ?_
 refine LWp.o 24 (.agg [.sl false 124 3 (encs (c124 false) xW.f_.Blocks)]) ?_
 refine LWp.cl h 25 (fun v2 => (.tup [(I v2.1), (I v2.2.1), (B v2.2.2)])) rfl (l := [.sv (.agg [.sl false 124 3 (encs (c124 false) xW.f_.Blocks)])]) rfl (fun v hv => i_PlaceOf_t xW.f_ v hv) (.inl rfl) ?_
 intro v2 gv2 h
 refine LWp.mt 25 20 (.tup [(I v2.1), (I v2.2.1), (B v2.2.2)]) ?_
 refine LWp.e 20 0 26 (I v2.1) ?_
 refine LWp.e 20 1 27 (I v2.2.1) ?_
 refine LWp.e 20 2 28 (B v2.2.2) ?_
 refine LWp.o 9 (I v2.1) ?_
 refine LWp.o 10 (I v2.2.1) ?_
 refine LWp.o 11 (B v2.2.2) ?_
 refine LWp.nil ?_
 refine Wp.seq ?_
 refine Wp.seq ?_
 refine Wp.j1 h [0, 7, 9, 10, 39] [.ext 0] (fun a => (i_stepper_write_H1 xW v1 v2 a)) ?_ ?_
 · intro a h
   refine Wp.region ?_
   refine LWp.o 29 (B v1.2) ?_
   refine LWp.o 30 (B (!v1.2)) ?_
   refine LWp.o 31 (B (!v1.2)) ?_
   refine LWp.sp h 31 (fun h => ?_) (fun h => ?_)
   · refine LWp.sh 32 ?_
     refine LWp.sh 33 ?_
     refine LWp.o 34 (B true) ?_
     refine LWp.o 35 (B true) ?_
     refine LWp.sh 36 ?_
     refine LWp.sh 37 ?_
     refine LWp.sh 38 ?_
     refine LWp.o 39 (B true) ?_
     refine LWp.nil ?_
     cases h
     exact ⟨_, rfl, rfl, rfl⟩
   refine LWp.o 32 (B v2.2.2) ?_
   refine LWp.o 33 (B (!v2.2.2)) ?_
   refine LWp.o 34 (B (!v2.2.2)) ?_
   refine LWp.o 35 (B (!v2.2.2)) ?_
   refine LWp.sp h 35 (fun h => ?_) (fun h => ?_)
   · refine LWp.sh 36 ?_
     refine LWp.sh 37 ?_
     refine LWp.sh 38 ?_
     refine LWp.o 39 (B true) ?_
     refine LWp.nil ?_
     cases h
     exact ⟨_, rfl, rfl, rfl⟩
   refine LWp.o 36 (I v2.1) ?_
   refine LWp.o 37 (I xBut) ?_
   refine LWp.o 38 (B (v2.1 == xBut)) ?_
   refine LWp.o 39 (B (v2.1 == xBut)) ?_
   refine LWp.nil ?_
   cases h
   exact ⟨_, rfl, rfl, rfl⟩
 intro j1 h E hE
 refine nt_wp hE ?_
 change Wp _ _ _ (i_stepper_write_H1 xW v1 v2 j1) _
 refine Wp.c h (fun h => ?_) (fun h => ?_)
 · refine Wp.seq (Wp.region ?_)
   refine LWp.o 6 (B false) ?_
   refine LWp.nil ?_
   cases h
   exact Wp.ret ⟨.inr rfl, _, _, _, rfl, SVle.r, rfl, les.r⟩
 refine Wp.skip ?_
 refine Wp.seq (Wp.region ?_)
 refine LWp.o 40 (I v2.1) ?_
 refine LWp.o 41 (I v2.2.1) ?_
 refine LWp.o 42 (Y v1.1) ?_
 refine LWp.o 43 (.agg [.int .i64 1, .int .i64 v2.1, .int .i64 v2.2.1, .str v1.1]) ?_
 refine LWp.b [] 12 [.int .i64 0, .int .i64 0, .int .i64 0, .str (bs [])] ?_
 refine LWp.s [] (.box 12) [.int .i64 1, .int .i64 v2.1, .int .i64 v2.2.1, .str v1.1] ?_
 refine LWp.nil ?_
 refine Wp.seq ?_
 refine Wp.j1 h [0, 12, 13, 14] [.box 12, .box 13, .ext 0] (fun a => (i_stepper_write_H2 xW v1 v2 a.1 a.2)) ?_ ?_
 · intro a h
   refine Wp.regionK 12 [10] mixed (fun c E h => by rcases h with ⟨h | h, _⟩ <;> cases h) ?_
   refine KWp.o 12 0 45 (.one (.ptr (.ext 0) 0 [] 0)) ?_
   refine KWp.o 12 1 46 (.one (.ptr (.ext 0) 0 [] 0)) ?_
   refine KWp.o 12 2 47 (.one (.ptr (.ext 0) 0 [] 0)) ?_
   refine KWp.o 12 3 48 (.agg [.sl false 124 3 (encs (c124 false) xW.f_.Blocks)]) ?_
   refine KWp.o 12 4 49 (.agg [.int .i64 1, .int .i64 v2.1, .int .i64 v2.2.1, .str v1.1]) ?_
   refine KWp.w2 5 9 ?_ ?_
   · refine KOp.cl h 5 50 (fun v3 => (.tup [(.agg [.sl true 124 3 (encs (c124 true) v3.1.Blocks)]), (B v3.2)])) rfl rfl (l := [.sv (.agg [.sl false 124 3 (encs (c124 false) xW.f_.Blocks)]), .sv (.agg [.int .i64 1, .int .i64 v2.1, .int .i64 v2.2.1, .str v1.1])]) rfl (fun v hv => i_DoStep_t xW.f_ (Step.mk 1 v2.1 v2.2.1 v1.1) v hv) (.inl rfl) ?_
     intro v3 gv3 h
     refine KWp.w2 6 9 ?_ ?_
     · refine KOp.mt 6 50 44 (.tup [(.agg [.sl true 124 3 (encs (c124 true) v3.1.Blocks)]), (B v3.2)]) ?_
       refine KWp.w3 7 8 9 ?_ ?_ ?_
       · refine KOp.e 7 44 0 51 (.agg [.sl true 124 3 (encs (c124 true) v3.1.Blocks)]) ?_
         refine KWp.w2 8 9 ?_ ?_
         · refine KOp.e 8 44 1 52 (B v3.2) ?_
           refine KWp.w1 9 ?_
           refine KOp.b 9 [] 13 [.sl true 124 3 (encs (c124 true) [])] ?_
           refine KWp.w1 10 ?_
           refine KOp.sb 10 [(.slot 51, [.junk])] (.box 13) [.sl true 124 3 (encs (c124 true) v3.1.Blocks)] ?_
           refine KWp.w1 11 ?_
           refine KOp.o 11 14 (B v3.2) ?_
           refine KWp.done ?_
           cases h
           exact ⟨_, rfl, rfl, rfl⟩
         refine KOp.b 9 [] 13 [.sl true 124 3 (encs (c124 true) [])] ?_
         refine KWp.w2 8 10 ?_ ?_
         · refine KOp.e 8 44 1 52 (B v3.2) ?_
           refine KWp.w1 10 ?_
           refine KOp.sb 10 [(.slot 51, [.junk])] (.box 13) [.sl true 124 3 (encs (c124 true) v3.1.Blocks)] ?_
           refine KWp.w1 11 ?_
           refine KOp.o 11 14 (B v3.2) ?_
           refine KWp.done ?_
           cases h
           exact ⟨_, rfl, rfl, rfl⟩
         refine KOp.sb 10 [(.slot 51, [.junk])] (.box 13) [.sl true 124 3 (encs (c124 true) v3.1.Blocks)] ?_
         refine KWp.w1 8 ?_
         refine KOp.e 8 44 1 52 (B v3.2) ?_
         refine KWp.w1 11 ?_
         refine KOp.o 11 14 (B v3.2) ?_
         refine KWp.done ?_
         cases h
         exact ⟨_, rfl, rfl, rfl⟩
       · refine KOp.e 8 44 1 52 (B v3.2) ?_
         refine KWp.w2 7 9 ?_ ?_
         · refine KOp.e 7 44 0 51 (.agg [.sl true 124 3 (encs (c124 true) v3.1.Blocks)]) ?_
           refine KWp.w1 9 ?_
           refine KOp.b 9 [] 13 [.sl true 124 3 (encs (c124 true) [])] ?_
           refine KWp.w1 10 ?_
           refine KOp.sb 10 [(.slot 51, [.junk])] (.box 13) [.sl true 124 3 (encs (c124 true) v3.1.Blocks)] ?_
           refine KWp.w1 11 ?_
           refine KOp.o 11 14 (B v3.2) ?_
           refine KWp.done ?_
           cases h
           exact ⟨_, rfl, rfl, rfl⟩
         refine KOp.b 9 [] 13 [.sl true 124 3 (encs (c124 true) [])] ?_
         refine KWp.w1 7 ?_
         refine KOp.e 7 44 0 51 (.agg [.sl true 124 3 (encs (c124 true) v3.1.Blocks)]) ?_
         refine KWp.w1 10 ?_
         refine KOp.sb 10 [(.slot 51, [.junk])] (.box 13) [.sl true 124 3 (encs (c124 true) v3.1.Blocks)] ?_
         refine KWp.w1 11 ?_
         refine KOp.o 11 14 (B v3.2) ?_
         refine KWp.done ?_
         cases h
         exact ⟨_, rfl, rfl, rfl⟩
       refine KOp.b 9 [] 13 [.sl true 124 3 (encs (c124 true) [])] ?_
       refine KWp.w2 7 8 ?_ ?_
       · refine KOp.e 7 44 0 51 (.agg [.sl true 124 3 (encs (c124 true) v3.1.Blocks)]) ?_
         refine KWp.w2 8 10 ?_ ?_
         · refine KOp.e 8 44 1 52 (B v3.2) ?_
           refine KWp.w1 10 ?_
           refine KOp.sb 10 [(.slot 51, [.junk])] (.box 13) [.sl true 124 3 (encs (c124 true) v3.1.Blocks)] ?_
           refine KWp.w1 11 ?_
           refine KOp.o 11 14 (B v3.2) ?_
           refine KWp.done ?_
           cases h
           exact ⟨_, rfl, rfl, rfl⟩
         refine KOp.sb 10 [(.slot 51, [.junk])] (.box 13) [.sl true 124 3 (encs (c124 true) v3.1.Blocks)] ?_
         refine KWp.w1 8 ?_
         refine KOp.e 8 44 1 52 (B v3.2) ?_
         refine KWp.w1 11 ?_
         refine KOp.o 11 14 (B v3.2) ?_
         refine KWp.done ?_
         cases h
         exact ⟨_, rfl, rfl, rfl⟩
       refine KOp.e 8 44 1 52 (B v3.2) ?_
       refine KWp.w1 7 ?_
       refine KOp.e 7 44 0 51 (.agg [.sl true 124 3 (encs (c124 true) v3.1.Blocks)]) ?_
       refine KWp.w1 10 ?_
       refine KOp.sb 10 [(.slot 51, [.junk])] (.box 13) [.sl true 124 3 (encs (c124 true) v3.1.Blocks)] ?_
       refine KWp.w1 11 ?_
       refine KOp.o 11 14 (B v3.2) ?_
       refine KWp.done ?_
       cases h
       exact ⟨_, rfl, rfl, rfl⟩
     refine KOp.b 9 [] 13 [.sl true 124 3 (encs (c124 true) [])] ?_
     refine KWp.w1 6 ?_
     refine KOp.mt 6 50 44 (.tup [(.agg [.sl true 124 3 (encs (c124 true) v3.1.Blocks)]), (B v3.2)]) ?_
     refine KWp.w2 7 8 ?_ ?_
     · refine KOp.e 7 44 0 51 (.agg [.sl true 124 3 (encs (c124 true) v3.1.Blocks)]) ?_
       refine KWp.w2 8 10 ?_ ?_
       · refine KOp.e 8 44 1 52 (B v3.2) ?_
         refine KWp.w1 10 ?_
         refine KOp.sb 10 [(.slot 51, [.junk])] (.box 13) [.sl true 124 3 (encs (c124 true) v3.1.Blocks)] ?_
         refine KWp.w1 11 ?_
         refine KOp.o 11 14 (B v3.2) ?_
         refine KWp.done ?_
         cases h
         exact ⟨_, rfl, rfl, rfl⟩
       refine KOp.sb 10 [(.slot 51, [.junk])] (.box 13) [.sl true 124 3 (encs (c124 true) v3.1.Blocks)] ?_
       refine KWp.w1 8 ?_
       refine KOp.e 8 44 1 52 (B v3.2) ?_
       refine KWp.w1 11 ?_
       refine KOp.o 11 14 (B v3.2) ?_
       refine KWp.done ?_
       cases h
       exact ⟨_, rfl, rfl, rfl⟩
     refine KOp.e 8 44 1 52 (B v3.2) ?_
     refine KWp.w1 7 ?_
     refine KOp.e 7 44 0 51 (.agg [.sl true 124 3 (encs (c124 true) v3.1.Blocks)]) ?_
     refine KWp.w1 10 ?_
     refine KOp.sb 10 [(.slot 51, [.junk])] (.box 13) [.sl true 124 3 (encs (c124 true) v3.1.Blocks)] ?_
     refine KWp.w1 11 ?_
     refine KOp.o 11 14 (B v3.2) ?_
     refine KWp.done ?_
     cases h
     exact ⟨_, rfl, rfl, rfl⟩
   refine KOp.b 9 [] 13 [.sl true 124 3 (encs (c124 true) [])] ?_
   refine KWp.w1 5 ?_
   refine KOp.cl h 5 50 (fun v4 => (.tup [(.agg [.sl true 124 3 (encs (c124 true) v4.1.Blocks)]), (B v4.2)])) rfl rfl (l := [.sv (.agg [.sl false 124 3 (encs (c124 false) xW.f_.Blocks)]), .sv (.agg [.int .i64 1, .int .i64 v2.1, .int .i64 v2.2.1, .str v1.1])]) rfl (fun v hv => i_DoStep_t xW.f_ (Step.mk 1 v2.1 v2.2.1 v1.1) v hv) (.inl rfl) ?_
   intro v4 gv4 h
   refine KWp.w1 6 ?_
   refine KOp.mt 6 50 44 (.tup [(.agg [.sl true 124 3 (encs (c124 true) v4.1.Blocks)]), (B v4.2)]) ?_
   refine KWp.w2 7 8 ?_ ?_
   · refine KOp.e 7 44 0 51 (.agg [.sl true 124 3 (encs (c124 true) v4.1.Blocks)]) ?_
     refine KWp.w2 8 10 ?_ ?_
     · refine KOp.e 8 44 1 52 (B v4.2) ?_
       refine KWp.w1 10 ?_
       refine KOp.sb 10 [(.slot 51, [.junk])] (.box 13) [.sl true 124 3 (encs (c124 true) v4.1.Blocks)] ?_
       refine KWp.w1 11 ?_
       refine KOp.o 11 14 (B v4.2) ?_
       refine KWp.done ?_
       cases h
       exact ⟨_, rfl, rfl, rfl⟩
     refine KOp.sb 10 [(.slot 51, [.junk])] (.box 13) [.sl true 124 3 (encs (c124 true) v4.1.Blocks)] ?_
     refine KWp.w1 8 ?_
     refine KOp.e 8 44 1 52 (B v4.2) ?_
     refine KWp.w1 11 ?_
     refine KOp.o 11 14 (B v4.2) ?_
     refine KWp.done ?_
     cases h
     exact ⟨_, rfl, rfl, rfl⟩
   refine KOp.e 8 44 1 52 (B v4.2) ?_
   refine KWp.w1 7 ?_
   refine KOp.e 7 44 0 51 (.agg [.sl true 124 3 (encs (c124 true) v4.1.Blocks)]) ?_
   refine KWp.w1 10 ?_
   refine KOp.sb 10 [(.slot 51, [.junk])] (.box 13) [.sl true 124 3 (encs (c124 true) v4.1.Blocks)] ?_
   refine KWp.w1 11 ?_
   refine KOp.o 11 14 (B v4.2) ?_
   refine KWp.done ?_
   cases h
   exact ⟨_, rfl, rfl, rfl⟩
 intro j2 h E hE
 refine nt_wp hE ?_
 change Wp _ _ _ (i_stepper_write_H2 xW v1 v2 j2.1 j2.2) _
 refine Wp.seq (Wp.region ?_)
 refine LWp.o 53 (.one (.ptr (.ext 0) 0 [] 0)) ?_
 refine LWp.o 54 (.agg [.view (.box 13) 0 [] 0]) ?_
 refine LWp.o 55 (.one (.ptr (.ext 0) 0 [] 0)) ?_
 refine LWp.o 56 (.one (.ptr (.ext 0) 0 [] 0)) ?_
 refine LWp.sb [(.box 13, [.junk])] (.ext 0) [.sl true 124 3 (encs (c124 true) j2.2), .sl true 99 4 (encs c99 xW.steps_)] ?_
 refine LWp.nil ?_
 refine Wp.seq ?_
 refine Wp.regionK 11 [7, 10] mixed (fun c E h => by rcases h with ⟨h | h, _⟩ <;> cases h) ?_
 refine KWp.o 11 1 58 (.one (.ptr (.ext 0) 0 [] 0)) ?_
 refine KWp.o 11 2 59 (.one (.ptr (.ext 0) 0 [] 0)) ?_
 refine KWp.o 11 3 60 (.one (.ptr (.ext 0) 0 [] 1)) ?_
 refine KWp.o 11 4 61 (.one (.view (.ext 0) 1 [] 1)) ?_
 refine KWp.o 11 5 62 (.agg [.int .i64 1, .int .i64 v2.1, .int .i64 v2.2.1, .str v1.1]) ?_
 refine KWp.w2 0 6 ?_ ?_
 · refine KOp.o 0 57 (.one (.ptr (.ext 0) 0 [] 0)) ?_
   refine KWp.w1 6 ?_
   refine KOp.m 6 false [] 63 (.one (.sl true 99 4 (encs c99 [(Step.mk 1 v2.1 v2.2.1 v1.1)]))) ?_
   refine KWp.w1 7 ?_
   refine KOp.pm h 7 [(.ext 0, [.sl true 124 3 (encs (c124 true) j2.2), .junk])] 64 (fun q1 => (.one (.sl true 99 4 (encs c99 q1)))) ?_ rfl (fun q1 gq1 => s_apl k99 (fun _ => rfl) [(.ext 0, [.sl true 124 3 (encs (c124 true) j2.2), .junk])] xW.steps_ gq1)
   intro q1 gq1 h
   refine KWp.w1 8 ?_
   refine KOp.o 8 65 (.one (.ptr (.ext 0) 0 [] 0)) ?_
   refine KWp.w1 9 ?_
   refine KOp.o 9 66 (.one (.ptr (.ext 0) 0 [] 1)) ?_
   refine KWp.w1 10 ?_
   refine KOp.s 10 [(.slot 64, [.junk])] (.ext 0) [.sl true 124 3 (encs (c124 true) j2.2), .sl true 99 4 (encs c99 q1)] ?_
   refine KWp.done ?_
   refine Wp.seq (Wp.region ?_)
   refine LWp.o 67 (B j2.1) ?_
   refine LWp.o 6 (B j2.1) ?_
   refine LWp.nil ?_
   cases h
   exact Wp.ret ⟨.inr rfl, _, _, _, rfl, SVle.r, rfl, (les.c (le1.s (sh124 _)) (les.c le1.r les.r))⟩
 refine KOp.m 6 false [] 63 (.one (.sl true 99 4 (encs c99 [(Step.mk 1 v2.1 v2.2.1 v1.1)]))) ?_
 refine KWp.w2 0 7 ?_ ?_
 · refine KOp.o 0 57 (.one (.ptr (.ext 0) 0 [] 0)) ?_
   refine KWp.w1 7 ?_
   refine KOp.pm h 7 [(.ext 0, [.sl true 124 3 (encs (c124 true) j2.2), .junk])] 64 (fun q2 => (.one (.sl true 99 4 (encs c99 q2)))) ?_ rfl (fun q2 gq2 => s_apl k99 (fun _ => rfl) [(.ext 0, [.sl true 124 3 (encs (c124 true) j2.2), .junk])] xW.steps_ gq2)
   intro q2 gq2 h
   refine KWp.w1 8 ?_
   refine KOp.o 8 65 (.one (.ptr (.ext 0) 0 [] 0)) ?_
   refine KWp.w1 9 ?_
   refine KOp.o 9 66 (.one (.ptr (.ext 0) 0 [] 1)) ?_
   refine KWp.w1 10 ?_
   refine KOp.s 10 [(.slot 64, [.junk])] (.ext 0) [.sl true 124 3 (encs (c124 true) j2.2), .sl true 99 4 (encs c99 q2)] ?_
   refine KWp.done ?_
   refine Wp.seq (Wp.region ?_)
   refine LWp.o 67 (B j2.1) ?_
   refine LWp.o 6 (B j2.1) ?_
   refine LWp.nil ?_
   cases h
   exact Wp.ret ⟨.inr rfl, _, _, _, rfl, SVle.r, rfl, (les.c (le1.s (sh124 _)) (les.c le1.r les.r))⟩
 refine KOp.pm h 7 [(.ext 0, [.sl true 124 3 (encs (c124 true) j2.2), .junk])] 64 (fun q3 => (.one (.sl true 99 4 (encs c99 q3)))) ?_ rfl (fun q3 gq3 => s_apl k99 (fun _ => rfl) [(.ext 0, [.sl true 124 3 (encs (c124 true) j2.2), .junk])] xW.steps_ gq3)
 intro q3 gq3 h
 refine KWp.w1 0 ?_
 refine KOp.o 0 57 (.one (.ptr (.ext 0) 0 [] 0)) ?_
 refine KWp.w1 8 ?_
 refine KOp.o 8 65 (.one (.ptr (.ext 0) 0 [] 0)) ?_
 refine KWp.w1 9 ?_
 refine KOp.o 9 66 (.one (.ptr (.ext 0) 0 [] 1)) ?_
 refine KWp.w1 10 ?_
 refine KOp.s 10 [(.slot 64, [.junk])] (.ext 0) [.sl true 124 3 (encs (c124 true) j2.2), .sl true 99 4 (encs c99 q3)] ?_
 refine KWp.done ?_
 refine Wp.seq (Wp.region ?_)
 refine LWp.o 67 (B j2.1) ?_
 refine LWp.o 6 (B j2.1) ?_
 refine LWp.nil ?_
 cases h
 exact Wp.ret ⟨.inr rfl, _, _, _, rfl, SVle.r, rfl, (les.c (le1.s (sh124 _)) (les.c le1.r les.r))⟩
def i_RecOk_H1 (z1 : Bool) : St := mkSt [(2, (B z1))] []
def i_RecOk_H2 (xR : Rec) (z2 : Bool) : St := mkSt [(1, (.one (.ptr (.box 1) 0 [] 0))), (32, (B z2))] [(.box 1, [.int .i64 xR.Kind, .int .i64 xR.Vol, .int .i64 xR.Arg, .int .i64 xR.Chunk])]
theorem i_RecOk_t (xR : Rec) (r : Bool) (h : i_RecOk xR = some r) : Gives Tryz.prog 144 [.sv (.agg [.int .i64 xR.Kind, .int .i64 xR.Vol, .int .i64 xR.Arg, .int .i64 xR.Chunk])] (B r) (List.replicate 1 .gone) := by
 unfold i_RecOk at h
 refine gives_of Tryz.func144 rfl ?_
 rw [Tryz.ntmps144]
 refine Wp.seq (Wp.region ?_)
 refine LWp.b [] 1 [.int .i64 xR.Kind, .int .i64 xR.Vol, .int .i64 xR.Arg, .int .i64 xR.Chunk] ?_
 refine LWp.o 2 (B false) ?_
 refine LWp.nil ?_
 refine Wp.seq ?_
 refine Wp.seq (Wp.region ?_)
 refine LWp.o 3 (.one (.ptr (.box 1) 1 [] 0)) ?_
 refine LWp.o 4 (I xR.Kind) ?_
 refine LWp.o 5 (B (xR.Kind == 1)) ?_
 refine LWp.nil ?_
 refine Wp.c h (fun h => ?_) (fun h => ?_)
 · refine Wp.seq ?_
   refine Wp.j1 h [2] [] (fun a => (i_RecOk_H1 a)) ?_ ?_
   · intro a h
     refine Wp.region ?_
     refine LWp.o 6 (.one (.ptr (.box 1) 1 [] 1)) ?_
     refine LWp.o 7 (I xR.Vol) ?_
     refine LWp.o 8 (B (xR.Vol == 0)) ?_
     refine LWp.o 9 (B (xR.Vol == 0)) ?_
     refine LWp.sp h 9 (fun h => ?_) (fun h => ?_)
     · refine LWp.o 10 (.one (.ptr (.box 1) 1 [] 2)) ?_
       refine LWp.o 11 (I xR.Arg) ?_
       refine LWp.cl h 12 (fun v1 => (B v1)) rfl (l := [.sv (.one (.int .i64 xR.Arg)), .sv (.one (.int .i64 0)), .sv (.one (.int .i64 1000000000))]) rfl (fun v hv => i_in_t xR.Arg 0 1000000000 v hv) (.inl rfl) ?_
       intro v1 gv1 h
       refine LWp.o 13 (B v1) ?_
       refine LWp.o 14 (B v1) ?_
       refine LWp.sp h 14 (fun h => ?_) (fun h => ?_)
       · refine LWp.o 15 (.one (.ptr (.box 1) 1 [] 3)) ?_
         refine LWp.o 16 (I xR.Chunk) ?_
         refine LWp.o 17 (B (xR.Chunk == 0)) ?_
         refine LWp.o 18 (B (xR.Chunk == 0)) ?_
         refine LWp.o 2 (B (xR.Chunk == 0)) ?_
         refine LWp.nil ?_
         cases h
         exact ⟨_, rfl, rfl, rfl⟩
       refine LWp.sh 15 ?_
       refine LWp.sh 16 ?_
       refine LWp.sh 17 ?_
       refine LWp.o 18 (B false) ?_
       refine LWp.o 2 (B false) ?_
       refine LWp.nil ?_
       cases h
       exact ⟨_, rfl, rfl, rfl⟩
     refine LWp.sh 10 ?_
     refine LWp.sh 11 ?_
     refine LWp.sh 12 ?_
     refine LWp.o 13 (B false) ?_
     refine LWp.o 14 (B false) ?_
     refine LWp.sh 15 ?_
     refine LWp.sh 16 ?_
     refine LWp.sh 17 ?_
     refine LWp.o 18 (B false) ?_
     refine LWp.o 2 (B false) ?_
     refine LWp.nil ?_
     cases h
     exact ⟨_, rfl, rfl, rfl⟩
   intro j1 h E hE
   refine nt_wp hE ?_
   change Wp _ _ _ (i_RecOk_H1 j1) _
   cases h
   exact Wp.ret ⟨.inr rfl, _, _, rfl, rfl⟩
 refine Wp.skip ?_
 refine Wp.seq ?_
 refine Wp.seq ?_
 refine Wp.j1 h [1, 32] [.box 1] (fun a => (i_RecOk_H2 xR a)) ?_ ?_
 · intro a h
   refine Wp.region ?_
   refine LWp.o 19 (.one (.ptr (.box 1) 1 [] 1)) ?_
   refine LWp.o 20 (I xR.Vol) ?_
   refine LWp.cl h 21 (fun v2 => (B v2)) rfl (l := [.sv (.one (.int .i64 xR.Vol)), .sv (.one (.int .i64 1)), .sv (.one (.int .i64 9))]) rfl (fun v hv => i_in_t xR.Vol 1 9 v hv) (.inl rfl) ?_
   intro v2 gv2 h
   refine LWp.o 22 (B (!v2)) ?_
   refine LWp.o 23 (B (!v2)) ?_
   refine LWp.sp h 23 (fun h => ?_) (fun h => ?_)
   · refine LWp.sh 24 ?_
     refine LWp.sh 25 ?_
     refine LWp.sh 26 ?_
     refine LWp.sh 27 ?_
     refine LWp.sh 28 ?_
     refine LWp.sh 29 ?_
     refine LWp.sh 30 ?_
     refine LWp.sh 31 ?_
     refine LWp.o 32 (B true) ?_
     refine LWp.nil ?_
     cases h
     exact ⟨_, rfl, rfl, rfl⟩
   refine LWp.o 24 (.one (.ptr (.box 1) 1 [] 0)) ?_
   refine LWp.o 25 (I xR.Kind) ?_
   refine LWp.o 26 (B (xR.Kind != 4)) ?_
   refine LWp.o 27 (B (xR.Kind != 4)) ?_
   refine LWp.sp h 27 (fun h => ?_) (fun h => ?_)
   · refine LWp.o 28 (.one (.ptr (.box 1) 1 [] 3)) ?_
     refine LWp.o 29 (I xR.Chunk) ?_
     refine LWp.o 30 (B (xR.Chunk != 0)) ?_
     refine LWp.o 31 (B (xR.Chunk != 0)) ?_
     refine LWp.o 32 (B (xR.Chunk != 0)) ?_
     refine LWp.nil ?_
     cases h
     exact ⟨_, rfl, rfl, rfl⟩
   refine LWp.sh 28 ?_
   refine LWp.sh 29 ?_
   refine LWp.sh 30 ?_
   refine LWp.o 31 (B false) ?_
   refine LWp.o 32 (B false) ?_
   refine LWp.nil ?_
   cases h
   exact ⟨_, rfl, rfl, rfl⟩
 intro j2 h E hE
 refine nt_wp hE ?_
 change Wp _ _ _ (i_RecOk_H2 xR j2) _
 refine Wp.c h (fun h => ?_) (fun h => ?_)
 · refine Wp.seq (Wp.region ?_)
   refine LWp.o 2 (B false) ?_
   refine LWp.nil ?_
   cases h
   exact Wp.ret ⟨.inr rfl, _, _, rfl, rfl⟩
 refine Wp.skip ?_
 refine Wp.seq ?_
 refine Wp.seq (Wp.region ?_)
 refine LWp.o 33 (.one (.ptr (.box 1) 0 [] 0)) ?_
 refine LWp.o 34 (I xR.Kind) ?_
 refine LWp.nil ?_
 refine Wp.block ?_
 refine Wp.seq (Wp.region ?_)
 refine LWp.o 36 (B (xR.Kind == 2)) ?_
 refine LWp.o 35 (B (xR.Kind == 2)) ?_
 refine LWp.nil ?_
 refine Wp.c h (fun h => ?_) (fun h => ?_)
 · refine Wp.seq (Wp.region ?_)
   refine LWp.o 37 (.one (.ptr (.box 1) 0 [] 2)) ?_
   refine LWp.o 38 (I xR.Arg) ?_
   refine LWp.cl h 39 (fun v3 => (B v3)) rfl (l := [.sv (.one (.int .i64 xR.Arg)), .sv (.one (.int .i64 0)), .sv (.one (.int .i64 9))]) rfl (fun v hv => i_in_t xR.Arg 0 9 v hv) (.inl rfl) ?_
   intro v3 gv3 h
   refine LWp.o 2 (B v3) ?_
   refine LWp.nil ?_
   cases h
   exact Wp.ret ⟨.inr rfl, _, _, rfl, rfl⟩
 refine Wp.seq (Wp.region ?_)
 refine LWp.o 41 (B (xR.Kind == 3)) ?_
 refine LWp.o 40 (B (xR.Kind == 3)) ?_
 refine LWp.nil ?_
 refine Wp.c h (fun h => ?_) (fun h => ?_)
 · refine Wp.seq (Wp.region ?_)
   refine LWp.o 42 (.one (.ptr (.box 1) 0 [] 2)) ?_
   refine LWp.o 43 (I xR.Arg) ?_
   refine LWp.o 44 (B (xR.Arg == 0)) ?_
   refine LWp.o 2 (B (xR.Arg == 0)) ?_
   refine LWp.nil ?_
   cases h
   exact Wp.ret ⟨.inr rfl, _, _, rfl, rfl⟩
 refine Wp.seq (Wp.region ?_)
 refine LWp.o 46 (B (xR.Kind == 4)) ?_
 refine LWp.o 45 (B (xR.Kind == 4)) ?_
 refine LWp.nil ?_
 refine Wp.c h (fun h => ?_) (fun h => ?_)
 · refine Wp.seq (Wp.region ?_)
   refine LWp.o 47 (.one (.ptr (.box 1) 0 [] 2)) ?_
   refine LWp.o 48 (I xR.Arg) ?_
   refine LWp.cl h 49 (fun v4 => (B v4)) rfl (l := [.sv (.one (.int .i64 xR.Arg)), .sv (.one (.int .i64 0)), .sv (.one (.int .i64 15))]) rfl (fun v hv => i_in_t xR.Arg 0 15 v hv) (.inl rfl) ?_
   intro v4 gv4 h
   refine LWp.o 50 (B v4) ?_
   refine LWp.sp h 50 (fun h => ?_) (fun h => ?_)
   · refine LWp.o 51 (.one (.ptr (.box 1) 0 [] 3)) ?_
     refine LWp.o 52 (I xR.Chunk) ?_
     refine LWp.cl h 53 (fun v5 => (B v5)) rfl (l := [.sv (.one (.int .i64 xR.Chunk)), .sv (.one (.int .i64 1)), .sv (.one (.int .i64 1000000000))]) rfl (fun v hv => i_in_t xR.Chunk 1 1000000000 v hv) (.inl rfl) ?_
     intro v5 gv5 h
     refine LWp.o 54 (B v5) ?_
     refine LWp.o 2 (B v5) ?_
     refine LWp.nil ?_
     cases h
     exact Wp.ret ⟨.inr rfl, _, _, rfl, rfl⟩
   refine LWp.sh 51 ?_
   refine LWp.sh 52 ?_
   refine LWp.sh 53 ?_
   refine LWp.o 54 (B false) ?_
   refine LWp.o 2 (B false) ?_
   refine LWp.nil ?_
   cases h
   exact Wp.ret ⟨.inr rfl, _, _, rfl, rfl⟩
 refine Wp.seq (Wp.region ?_)
 refine LWp.o 56 (B (xR.Kind == 5)) ?_
 refine LWp.o 55 (B (xR.Kind == 5)) ?_
 refine LWp.nil ?_
 refine Wp.c h (fun h => ?_) (fun h => ?_)
 · refine Wp.seq (Wp.region ?_)
   refine LWp.o 57 (.one (.ptr (.box 1) 0 [] 2)) ?_
   refine LWp.o 58 (I xR.Arg) ?_
   refine LWp.cl h 59 (fun v6 => (B v6)) rfl (l := [.sv (.one (.int .i64 xR.Arg)), .sv (.one (.int .i64 0)), .sv (.one (.int .i64 15))]) rfl (fun v hv => i_in_t xR.Arg 0 15 v hv) (.inl rfl) ?_
   intro v6 gv6 h
   refine LWp.o 2 (B v6) ?_
   refine LWp.nil ?_
   cases h
   exact Wp.ret ⟨.inr rfl, _, _, rfl, rfl⟩
 refine Wp.skip ?_
 refine Wp.seq (Wp.region ?_)
 refine LWp.o 2 (B false) ?_
 refine LWp.nil ?_
 cases h
 exact Wp.ret ⟨.inr rfl, _, _, rfl, rfl⟩
theorem i_RecText_t (xR : Rec) (r : ByteArray × Bool) (h : i_RecText xR = some r) : Gives Tryz.prog 91 [.sv (.agg [.int .i64 xR.Kind, .int .i64 xR.Vol, .int .i64 xR.Arg, .int .i64 xR.Chunk])] (.tup [(Y r.1), (B r.2)]) (List.replicate 1 .gone) := by
 unfold i_RecText at h
 refine gives_of Tryz.func91 rfl ?_
 rw [Tryz.ntmps91]
 refine Wp.seq (Wp.region ?_)
 refine LWp.b [] 1 [.int .i64 xR.Kind, .int .i64 xR.Vol, .int .i64 xR.Arg, .int .i64 xR.Chunk] ?_
 refine LWp.o 2 (Y (bs [])) ?_
 refine LWp.o 3 (B false) ?_
 refine LWp.nil ?_
 refine Wp.seq ?_
 refine Wp.seq (Wp.region ?_)
 refine LWp.o 4 (.agg [.int .i64 xR.Kind, .int .i64 xR.Vol, .int .i64 xR.Arg, .int .i64 xR.Chunk]) ?_
 refine LWp.cl h 5 (fun v1 => (B v1)) rfl (l := [.sv (.agg [.int .i64 xR.Kind, .int .i64 xR.Vol, .int .i64 xR.Arg, .int .i64 xR.Chunk])]) rfl (fun v hv => i_RecOk_t xR v hv) (.inl rfl) ?_
 intro v1 gv1 h
 refine LWp.o 6 (B (!v1)) ?_
 refine LWp.nil ?_
 refine Wp.c h (fun h => ?_) (fun h => ?_)
 · refine Wp.seq (Wp.region ?_)
   refine LWp.o 2 (Y (bs [])) ?_
   refine LWp.o 3 (B false) ?_
   refine LWp.nil ?_
   cases h
   exact Wp.ret ⟨.inr rfl, _, _, rfl, rfl⟩
 refine Wp.skip ?_
 refine Wp.seq ?_
 refine Wp.regionK 19 [] mixed (fun c E h => by rcases h with ⟨h | h, _⟩ <;> cases h) ?_
 refine KWp.o 19 0 7 (.one (.ptr (.box 1) 1 [] 0)) ?_
 refine KWp.o 19 1 8 (I xR.Kind) ?_
 refine KWp.o 19 2 9 (I (ml 16 xR.Kind)) ?_
 refine KWp.o 19 3 10 (.one (.ptr (.box 1) 1 [] 1)) ?_
 refine KWp.o 19 4 11 (I xR.Vol) ?_
 refine KWp.o 19 5 12 (I (ad (ml 16 xR.Kind) xR.Vol)) ?_
 refine KWp.o 19 6 13 (.one (.int .u8 (IntKind.u8.wrap (ad (ml 16 xR.Kind) xR.Vol)))) ?_
 refine KWp.o 19 9 16 (.one (.ptr (.box 1) 1 [] 2)) ?_
 refine KWp.o 19 10 17 (I xR.Arg) ?_
 refine KWp.o 19 13 20 (.one (.ptr (.box 1) 1 [] 3)) ?_
 refine KWp.o 19 14 21 (I xR.Chunk) ?_
 refine KWp.w2 7 11 ?_ ?_
 · refine KOp.m 7 false [] 14 (.one (.sl true 5 1 (encs c5 [(IntKind.u8.wrap (ad (ml 16 xR.Kind) xR.Vol))]))) ?_
   refine KWp.o 19 8 15 (Y (strB [(IntKind.u8.wrap (ad (ml 16 xR.Kind) xR.Vol))])) ?_ rfl (sl_pure (p_cv (fun _ => rfl) [(IntKind.u8.wrap (ad (ml 16 xR.Kind) xR.Vol))]))
   refine KWp.w1 11 ?_
   refine KOp.cl h 11 18 (fun v2 => (Y v2)) rfl rfl (l := [.sv (.one (.int .i64 xR.Arg))]) rfl (fun v hv => i_varOf_t xR.Arg v hv) (.inl rfl) ?_
   intro v2 gv2 h
   refine KWp.p h 19 12 19 (fun x1 => (Y x1)) ?_ rfl (fun x1 gx1 => sl_pure (p_cat gx1))
   intro x1 gx1 h
   refine KWp.w1 15 ?_
   refine KOp.cl h 15 22 (fun v3 => (Y v3)) rfl rfl (l := [.sv (.one (.int .i64 xR.Chunk))]) rfl (fun v hv => i_varOf_t xR.Chunk v hv) (.inl rfl) ?_
   intro v3 gv3 h
   refine KWp.p h 19 16 23 (fun x2 => (Y x2)) ?_ rfl (fun x2 gx2 => sl_pure (p_cat gx2))
   intro x2 gx2 h
   refine KWp.o 19 17 2 (Y x2) ?_
   refine KWp.o 19 18 3 (B true) ?_
   refine KWp.done ?_
   cases h
   exact Wp.ret ⟨.inr rfl, _, _, rfl, rfl⟩
 refine KOp.cl h 11 18 (fun v4 => (Y v4)) rfl rfl (l := [.sv (.one (.int .i64 xR.Arg))]) rfl (fun v hv => i_varOf_t xR.Arg v hv) (.inl rfl) ?_
 intro v4 gv4 h
 refine KWp.w2 7 15 ?_ ?_
 · refine KOp.m 7 false [] 14 (.one (.sl true 5 1 (encs c5 [(IntKind.u8.wrap (ad (ml 16 xR.Kind) xR.Vol))]))) ?_
   refine KWp.o 19 8 15 (Y (strB [(IntKind.u8.wrap (ad (ml 16 xR.Kind) xR.Vol))])) ?_ rfl (sl_pure (p_cv (fun _ => rfl) [(IntKind.u8.wrap (ad (ml 16 xR.Kind) xR.Vol))]))
   refine KWp.p h 19 12 19 (fun x3 => (Y x3)) ?_ rfl (fun x3 gx3 => sl_pure (p_cat gx3))
   intro x3 gx3 h
   refine KWp.w1 15 ?_
   refine KOp.cl h 15 22 (fun v5 => (Y v5)) rfl rfl (l := [.sv (.one (.int .i64 xR.Chunk))]) rfl (fun v hv => i_varOf_t xR.Chunk v hv) (.inl rfl) ?_
   intro v5 gv5 h
   refine KWp.p h 19 16 23 (fun x4 => (Y x4)) ?_ rfl (fun x4 gx4 => sl_pure (p_cat gx4))
   intro x4 gx4 h
   refine KWp.o 19 17 2 (Y x4) ?_
   refine KWp.o 19 18 3 (B true) ?_
   refine KWp.done ?_
   cases h
   exact Wp.ret ⟨.inr rfl, _, _, rfl, rfl⟩
 replace h := Eq.trans (show ((i_varOf xR.Chunk).bind fun v6 => (cat (strB [(IntKind.u8.wrap (ad (ml 16 xR.Kind) xR.Vol))]) v4).bind fun x5 => (cat x5 v6).bind fun x6 => some (x6, true)) = ((cat (strB [(IntKind.u8.wrap (ad (ml 16 xR.Kind) xR.Vol))]) v4).bind fun x3 => (i_varOf xR.Chunk).bind fun v5 => (cat x3 v5).bind fun x4 => some (x4, true)) from Option.ext fun z => by simp only [Option.bind_eq_some_iff]; exact ⟨fun ⟨v6, k0, x5, k1, x6, k2, z⟩ => ⟨_, k1, _, k0, _, k2, z⟩, fun ⟨x3, k0, v5, k1, x4, k2, z⟩ => ⟨_, k1, _, k0, _, k2, z⟩⟩) h
 refine KOp.cl h 15 22 (fun v6 => (Y v6)) rfl rfl (l := [.sv (.one (.int .i64 xR.Chunk))]) rfl (fun v hv => i_varOf_t xR.Chunk v hv) (.inl rfl) ?_
 intro v6 gv6 h
 refine KWp.w1 7 ?_
 refine KOp.m 7 false [] 14 (.one (.sl true 5 1 (encs c5 [(IntKind.u8.wrap (ad (ml 16 xR.Kind) xR.Vol))]))) ?_
 refine KWp.o 19 8 15 (Y (strB [(IntKind.u8.wrap (ad (ml 16 xR.Kind) xR.Vol))])) ?_ rfl (sl_pure (p_cv (fun _ => rfl) [(IntKind.u8.wrap (ad (ml 16 xR.Kind) xR.Vol))]))
 refine KWp.p h 19 12 19 (fun x5 => (Y x5)) ?_ rfl (fun x5 gx5 => sl_pure (p_cat gx5))
 intro x5 gx5 h
 refine KWp.p h 19 16 23 (fun x6 => (Y x6)) ?_ rfl (fun x6 gx6 => sl_pure (p_cat gx6))
 intro x6 gx6 h
 refine KWp.o 19 17 2 (Y x6) ?_
 refine KWp.o 19 18 3 (B true) ?_
 refine KWp.done ?_
 cases h
 exact Wp.ret ⟨.inr rfl, _, _, rfl, rfl⟩
def i_TxPages_H1 (xSeq : Int) (xTx : Int) (xRecs : List Rec) (z1 : List ByteArray) (z2 : Int) : St := mkSt [(0, (I xSeq)), (1, (I xTx)), (8, (.one (.sl true 9 1 (encs c9 z1)))), (19, (.one (.sl false 83 4 (encs c83 xRecs)))), (20, (I (ln xRecs))), (21, (I z2))] []
def i_TxPages_H2 (xSeq : Int) (xTx : Int) (z3 : List ByteArray) : St := mkSt [(0, (I xSeq)), (1, (I xTx)), (8, (.one (.sl true 9 1 (encs c9 z3))))] []
def i_TxPages_H3 (xSeq : Int) (xTx : Int) (xRecs : List Rec) (y1 : Int) (v1 : ByteArray × Bool) (z4 : List ByteArray) (z5 : Int) : St := mkSt [(0, (I xSeq)), (1, (I xTx)), (8, (.one (.sl true 9 1 (encs c9 z4)))), (11, (Y v1.1)), (13, (I z5)), (19, (.one (.sl false 83 4 (encs c83 xRecs)))), (20, (I (ln xRecs))), (21, (I y1))] []
def i_TxPages_H4 (xSeq : Int) (xTx : Int) (v2 : List ByteArray) (z6 : Bool) : St := mkSt [(0, (I xSeq)), (1, (I xTx)), (8, (.one (.sl true 9 1 (encs c9 v2)))), (14, (I (ln v2))), (73, (B z6))] []
def i_TxPages_H5 (xSeq : Int) (xTx : Int) (v2 : List ByteArray) (z7 : List Page) (z8 : Int) : St := mkSt [(0, (I xSeq)), (1, (I xTx)), (8, (.one (.sl true 9 1 (encs c9 v2)))), (14, (I (ln v2))), (15, (.one (.sl true 85 6 (encs c85 z7)))), (74, (.one (.view (.slot 8) 0 [] 0))), (75, (I (ln v2))), (76, (I z8))] []
def i_TxPages_H6 (z9 : List Page) : St := mkSt [(15, (.one (.sl true 85 6 (encs c85 z9))))] []
theorem i_TxPages_t (xSeq : Int) (xTx : Int) (xRecs : List Rec) (r : List Page × Bool) (h : i_TxPages xSeq xTx xRecs = some r) : Gives Tryz.prog 46 [.sv (I xSeq), .sv (I xTx), .sv (.one (.sl false 83 4 (encs c83 xRecs)))] (.tup [(.one (.sl true 85 6 (encs c85 r.1))), (B r.2)]) (List.replicate 3 .gone) := by
 unfold i_TxPages at h
 refine gives_of Tryz.func46 rfl ?_
 rw [Tryz.ntmps46]
 refine Wp.seq (Wp.region ?_)
 refine LWp.o 6 (.one (.sl true 85 6 (encs c85 []))) ?_
 refine LWp.o 7 (B false) ?_
 refine LWp.nil ?_
 refine Wp.seq (Wp.region ?_)
 refine LWp.m false [] 18 (.one (.sl true 9 1 (encs c9 [(bs [])]))) ?_
 refine LWp.m true [(.slot 18, [.junk])] 8 (.one (.sl true 9 1 (encs c9 [(bs [])]))) ?_
 refine LWp.nil ?_
 refine Wp.seq ?_
 refine Wp.seq (Wp.region ?_)
 refine LWp.o 19 (.one (.sl false 83 4 (encs c83 xRecs))) ?_
 refine LWp.o 20 (I (ln xRecs)) ?_ (st_pure (p_ln k83 xRecs))
 refine LWp.o 21 (I 0) ?_
 refine LWp.nil ?_
 refine Wp.l2 h [0, 1, 8, 19, 20, 21] [] (fun s => (i_TxPages_H1 xSeq xTx xRecs s.1 s.2)) [0, 1, 8] [] (fun s => (i_TxPages_H2 xSeq xTx s)) ⟨rfl, rfl⟩ ?_ ?_
 · rintro ⟨yTexts1, y1⟩ o (h : i_TxPages_b1 xRecs yTexts1 y1 = some o) hk1
   unfold i_TxPages_b1 at h
   change Wp _ _ _ (i_TxPages_H1 xSeq xTx xRecs yTexts1 y1) _
   refine Wp.seq (Wp.region ?_)
   refine LWp.o 22 (B (decide (y1 < (ln xRecs)))) ?_
   refine LWp.nil ?_
   refine Wp.seq ?_
   refine Wp.c h (fun h => ?_) (fun h => ?_)
   · refine Wp.skip ?_
     refine Wp.seq ?_
     refine Wp.block ?_
     refine Wp.seq (Wp.region ?_)
     refine LWp.p h 23 (fun _ => (.one (.ptr (.slot 19) 0 [0] (Int.toNat y1 * 4 + 0)))) ?_ (fun x1 gx1 => st_pure (p_ix k83 (.slot 19) [] 0 gx1))
     intro x1 gx1 h
     refine LWp.o 24 (.agg [.int .i64 x1.Kind, .int .i64 x1.Vol, .int .i64 x1.Arg, .int .i64 x1.Chunk]) ?_ (st_pure (p_le k83 (.slot 19) [0] gx1))
     refine LWp.b [] 10 [.int .i64 0, .int .i64 0, .int .i64 0, .int .i64 0] ?_
     refine LWp.s [] (.box 10) [.int .i64 x1.Kind, .int .i64 x1.Vol, .int .i64 x1.Arg, .int .i64 x1.Chunk] ?_
     refine LWp.nil ?_
     refine Wp.seq (Wp.region ?_)
     refine LWp.o 26 (.agg [.int .i64 x1.Kind, .int .i64 x1.Vol, .int .i64 x1.Arg, .int .i64 x1.Chunk]) ?_
     refine LWp.cl h 27 (fun v1 => (.tup [(Y v1.1), (B v1.2)])) rfl (l := [.sv (.agg [.int .i64 x1.Kind, .int .i64 x1.Vol, .int .i64 x1.Arg, .int .i64 x1.Chunk])]) rfl (fun v hv => i_RecText_t x1 v hv) (.inl rfl) ?_
     intro v1 gv1 h
     refine LWp.mt 27 25 (.tup [(Y v1.1), (B v1.2)]) ?_
     refine LWp.e 25 0 28 (Y v1.1) ?_
     refine LWp.e 25 1 29 (B v1.2) ?_
     refine LWp.o 11 (Y v1.1) ?_
     refine LWp.o 12 (B v1.2) ?_
     refine LWp.nil ?_
     refine Wp.seq ?_
     refine Wp.seq (Wp.region ?_)
     refine LWp.o 30 (B v1.2) ?_
     refine LWp.o 31 (B (!v1.2)) ?_
     refine LWp.nil ?_
     refine Wp.c h (fun h => ?_) (fun h => ?_)
     · refine Wp.seq (Wp.region ?_)
       refine LWp.o 6 (.one (.sl true 85 6 (encs c85 []))) ?_
       refine LWp.o 7 (B false) ?_
       refine LWp.nil ?_
       cases h
       replace h : some _ = some _ := hk1 _ rfl
       cases h
       exact Wp.ret ⟨.inr rfl, _, _, rfl, rfl⟩
     refine Wp.skip ?_
     refine Wp.seq (Wp.region ?_)
     refine LWp.o 32 (.one (.view (.slot 8) 0 [] 0)) ?_
     refine LWp.o 33 (I (ln yTexts1)) ?_ (st_pure (p_ln k9 yTexts1))
     refine LWp.o 34 (I (sb (ln yTexts1) 1)) ?_
     refine LWp.o 13 (I (sb (ln yTexts1) 1)) ?_
     refine LWp.nil ?_
     refine Wp.seq ?_
     refine Wp.seq (Wp.region ?_)
     refine LWp.o 35 (.one (.view (.slot 8) 0 [] 0)) ?_
     refine LWp.o 36 (I (sb (ln yTexts1) 1)) ?_
     refine LWp.p h 37 (fun _ => (.one (.ptr (.slot 8) 0 [0] (Int.toNat (sb (ln yTexts1) 1) * 1 + 0)))) ?_ (fun x2 gx2 => st_pure (p_ix k9 (.slot 8) [] 0 gx2))
     intro x2 gx2 h
     refine LWp.o 38 (Y x2) ?_ (st_pure (p_lc k9 (.slot 8) [0] 0 (.str x2) gx2))
     refine LWp.o 39 (I (sln x2)) ?_
     refine LWp.o 40 (Y v1.1) ?_
     refine LWp.o 41 (I (sln v1.1)) ?_
     refine LWp.o 42 (I (ad (sln x2) (sln v1.1))) ?_
     refine LWp.o 43 (B (decide ((ad (sln x2) (sln v1.1)) > 90))) ?_
     refine LWp.nil ?_
     refine Wp.j1 h [0, 1, 8, 11, 13, 19, 20, 21] [] (fun a => (i_TxPages_H3 xSeq xTx xRecs y1 v1 a.1 a.2)) ?_ ?_
     · intro a h
       refine Wp.c h (fun h => ?_) (fun h => ?_)
       · refine Wp.seq (Wp.region ?_)
         refine LWp.o 44 (.one (.view (.slot 8) 0 [] 0)) ?_
         refine LWp.m false [] 45 (.one (.sl true 9 1 (encs c9 [(bs [])]))) ?_
         refine LWp.pm h [(.slot 8, [.junk])] 46 (fun q1 => (.one (.sl true 9 1 (encs c9 q1)))) ?_ (fun q1 gq1 => s_apl k9 (fun _ => rfl) [(.slot 8, [.junk])] yTexts1 gq1)
         intro q1 gq1 h
         refine LWp.m true [(.slot 46, [.junk])] 8 (.one (.sl true 9 1 (encs c9 q1))) ?_
         refine LWp.nil ?_
         refine Wp.region ?_
         refine LWp.o 47 (I (sb (ln yTexts1) 1)) ?_
         refine LWp.o 48 (I (ad (sb (ln yTexts1) 1) 1)) ?_
         refine LWp.o 13 (I (ad (sb (ln yTexts1) 1) 1)) ?_
         refine LWp.nil ?_
         cases h
         exact ⟨_, rfl, rfl, rfl⟩
       refine Wp.skip ?_
       cases h
       exact ⟨_, rfl, rfl, rfl⟩
     intro j1 h E hE
     refine nt_wp hE ?_
     change Wp _ _ _ (i_TxPages_H3 xSeq xTx xRecs y1 v1 j1.1 j1.2) _
     refine Wp.region ?_
     refine LWp.o 49 (.one (.view (.slot 8) 0 [] 0)) ?_
     refine LWp.o 50 (I j1.2) ?_
     refine LWp.p h 51 (fun _ => (.one (.ptr (.slot 8) 0 [0] (Int.toNat j1.2 * 1 + 0)))) ?_ (fun x3 gx3 => st_pure (p_ix k9 (.slot 8) [] 0 gx3))
     intro x3 gx3 h
     refine LWp.o 52 (Y x3) ?_ (st_pure (p_lc k9 (.slot 8) [0] 0 (.str x3) gx3))
     refine LWp.o 53 (Y v1.1) ?_
     refine LWp.p h 54 (fun x4 => (Y x4)) ?_ (fun x4 gx4 => st_pure (p_cat gx4))
     intro x4 gx4 h
     refine LWp.p h 55 (fun _ => (.one (.ptr (.slot 8) 0 [0] (Int.toNat j1.2 * 1 + 0)))) ?_ (fun x5 gx5 => st_pure (p_ix k9 (.slot 8) [] 0 gx5))
     intro x5 gx5 h
     refine LWp.sb [] (.slot 8) [.sl true 9 1 (encs c9 (si j1.1 j1.2 x4))] ?_ (s_st [] (q := [0]) (cs := [.sl true 9 1 (encs c9 j1.1)]) (xs := [.str x4]) (At.one (setRow_gi k9 (k := 0) (z := x4) gx5 rfl rfl)) (fit_gi k9 (k := 0) gx5 rfl))
     refine LWp.nil ?_
     refine Wp.region ?_
     refine LWp.o 56 (I (ad y1 1)) ?_
     refine LWp.o 21 (I (ad y1 1)) ?_
     refine LWp.nil ?_
     cases h
     exact ⟨_, rfl, rfl, rfl⟩
   refine Wp.exit ?_
   cases h
   exact ⟨_, rfl, rfl, rfl⟩
 intro v2 h E hE
 refine nt_wp hE ?_
 change Wp _ _ _ (i_TxPages_H2 xSeq xTx v2) _
 refine Wp.seq (Wp.region ?_)
 refine LWp.o 57 (.one (.view (.slot 8) 0 [] 0)) ?_
 refine LWp.o 58 (I (ln v2)) ?_ (st_pure (p_ln k9 v2))
 refine LWp.o 14 (I (ln v2)) ?_
 refine LWp.nil ?_
 refine Wp.seq ?_
 refine Wp.seq ?_
 refine Wp.j1 h [0, 1, 8, 14, 73] [] (fun a => (i_TxPages_H4 xSeq xTx v2 a)) ?_ ?_
 · intro a h
   refine Wp.region ?_
   refine LWp.o 59 (I (ln v2)) ?_
   refine LWp.o 60 (B (decide ((ln v2) > 9))) ?_
   refine LWp.o 61 (B (decide ((ln v2) > 9))) ?_
   refine LWp.sp h 61 (fun h => ?_) (fun h => ?_)
   · refine LWp.sh 62 ?_
     refine LWp.sh 63 ?_
     refine LWp.sh 64 ?_
     refine LWp.sh 65 ?_
     refine LWp.sh 66 ?_
     refine LWp.sh 67 ?_
     refine LWp.o 68 (B true) ?_
     refine LWp.o 69 (B true) ?_
     refine LWp.sh 70 ?_
     refine LWp.sh 71 ?_
     refine LWp.sh 72 ?_
     refine LWp.o 73 (B true) ?_
     refine LWp.nil ?_
     cases h
     exact ⟨_, rfl, rfl, rfl⟩
   refine LWp.o 62 (I xSeq) ?_
   refine LWp.o 63 (I (ln v2)) ?_
   refine LWp.o 64 (I (sb 1000000000 (ln v2))) ?_
   refine LWp.o 65 (I (ad (sb 1000000000 (ln v2)) 1)) ?_
   refine LWp.cl h 66 (fun v3 => (B v3)) rfl (l := [.sv (.one (.int .i64 xSeq)), .sv (.one (.int .i64 1)), .sv (.one (.int .i64 (ad (sb 1000000000 (ln v2)) 1)))]) rfl (fun v hv => i_in_t xSeq 1 (ad (sb 1000000000 (ln v2)) 1) v hv) (.inl rfl) ?_
   intro v3 gv3 h
   refine LWp.o 67 (B (!v3)) ?_
   refine LWp.o 68 (B (!v3)) ?_
   refine LWp.o 69 (B (!v3)) ?_
   refine LWp.sp h 69 (fun h => ?_) (fun h => ?_)
   · refine LWp.sh 70 ?_
     refine LWp.sh 71 ?_
     refine LWp.sh 72 ?_
     refine LWp.o 73 (B true) ?_
     refine LWp.nil ?_
     cases h
     exact ⟨_, rfl, rfl, rfl⟩
   refine LWp.o 70 (I xTx) ?_
   refine LWp.cl h 71 (fun v4 => (B v4)) rfl (l := [.sv (.one (.int .i64 xTx)), .sv (.one (.int .i64 1)), .sv (.one (.int .i64 1000000000))]) rfl (fun v hv => i_in_t xTx 1 1000000000 v hv) (.inl rfl) ?_
   intro v4 gv4 h
   refine LWp.o 72 (B (!v4)) ?_
   refine LWp.o 73 (B (!v4)) ?_
   refine LWp.nil ?_
   cases h
   exact ⟨_, rfl, rfl, rfl⟩
 intro j2 h E hE
 refine nt_wp hE ?_
 change Wp _ _ _ (i_TxPages_H4 xSeq xTx v2 j2) _
 refine Wp.c h (fun h => ?_) (fun h => ?_)
 · refine Wp.seq (Wp.region ?_)
   refine LWp.o 6 (.one (.sl true 85 6 (encs c85 []))) ?_
   refine LWp.o 7 (B false) ?_
   refine LWp.nil ?_
   cases h
   exact Wp.ret ⟨.inr rfl, _, _, rfl, rfl⟩
 refine Wp.skip ?_
 refine Wp.seq (Wp.region ?_)
 refine LWp.o 15 (.one (.sl true 85 6 (encs c85 []))) ?_
 refine LWp.nil ?_
 refine Wp.seq ?_
 refine Wp.seq (Wp.region ?_)
 refine LWp.o 74 (.one (.view (.slot 8) 0 [] 0)) ?_
 refine LWp.o 75 (I (ln v2)) ?_ (st_pure (p_ln k9 v2))
 refine LWp.o 76 (I 0) ?_
 refine LWp.nil ?_
 refine Wp.l1 h [0, 1, 8, 14, 15, 74, 75, 76] [] (fun s => (i_TxPages_H5 xSeq xTx v2 s.1 s.2)) [15] [] (fun s => (i_TxPages_H6 s)) ⟨rfl, rfl⟩ ?_ ?_
 · rintro ⟨yOut1, y2⟩ o (h : i_TxPages_b2 xSeq xTx v2 yOut1 y2 = some o)
   unfold i_TxPages_b2 at h
   change Wp _ _ _ (i_TxPages_H5 xSeq xTx v2 yOut1 y2) _
   refine Wp.seq (Wp.region ?_)
   refine LWp.o 77 (B (decide (y2 < (ln v2)))) ?_
   refine LWp.nil ?_
   refine Wp.seq ?_
   refine Wp.c h (fun h => ?_) (fun h => ?_)
   · refine Wp.skip ?_
     refine Wp.seq ?_
     refine Wp.block ?_
     refine Wp.seq (Wp.region ?_)
     refine LWp.o 78 (I y2) ?_
     refine LWp.p h 79 (fun _ => (.one (.ptr (.slot 8) 0 [0] (Int.toNat y2 * 1 + 0)))) ?_ (fun x6 gx6 => st_pure (p_ix k9 (.slot 8) [] 0 gx6))
     intro x6 gx6 h
     refine LWp.o 80 (Y x6) ?_ (st_pure (p_lc k9 (.slot 8) [0] 0 (.str x6) gx6))
     refine LWp.o 16 (I y2) ?_
     refine LWp.o 17 (Y x6) ?_
     refine LWp.nil ?_
     refine Wp.region ?_
     refine LWp.o 81 (.one (.view (.slot 15) 0 [] 0)) ?_
     refine LWp.o 82 (I xSeq) ?_
     refine LWp.o 83 (I y2) ?_
     refine LWp.o 84 (I (ad xSeq y2)) ?_
     refine LWp.o 85 (I xTx) ?_
     refine LWp.o 86 (I y2) ?_
     refine LWp.o 87 (I (ln v2)) ?_
     refine LWp.o 88 (Y x6) ?_
     refine LWp.o 89 (.agg [.int .i64 2, .int .i64 (ad xSeq y2), .int .i64 xTx, .int .i64 y2, .int .i64 (ln v2), .str x6]) ?_
     refine LWp.m false [] 90 (.one (.sl true 85 6 (encs c85 [(Page.mk 2 (ad xSeq y2) xTx y2 (ln v2) x6)]))) ?_
     refine LWp.pm h [(.slot 15, [.junk])] 91 (fun q2 => (.one (.sl true 85 6 (encs c85 q2)))) ?_ (fun q2 gq2 => s_apl k85 (fun _ => rfl) [(.slot 15, [.junk])] yOut1 gq2)
     intro q2 gq2 h
     refine LWp.m true [(.slot 91, [.junk])] 15 (.one (.sl true 85 6 (encs c85 q2))) ?_
     refine LWp.nil ?_
     refine Wp.region ?_
     refine LWp.o 92 (I (ad y2 1)) ?_
     refine LWp.o 76 (I (ad y2 1)) ?_
     refine LWp.nil ?_
     cases h
     exact ⟨_, rfl, rfl, rfl⟩
   refine Wp.exit ?_
   cases h
   exact ⟨_, rfl, rfl, rfl⟩
 intro v5 h E hE
 refine nt_wp hE ?_
 change Wp _ _ _ (i_TxPages_H6 v5) _
 refine Wp.seq (Wp.region ?_)
 refine LWp.o 93 (.one (.view (.slot 15) 0 [] 0)) ?_
 refine LWp.m true [(.slot 15, [.junk])] 6 (.one (.sl true 85 6 (encs c85 v5))) ?_
 refine LWp.o 7 (B true) ?_
 refine LWp.nil ?_
 cases h
 exact Wp.ret ⟨.inr rfl, _, _, rfl, rfl⟩
def i_WriteSteps_H1 (xD : Device) (xRecs : List Rec) (z1 : Int) (z2 : List Block) (z3 : List Step) : St := mkSt [(1, (.one (.sl false 83 4 (encs c83 xRecs)))), (3, (.one (.ptr (.box 3) 0 [] 0))), (8, (.one (.ptr (.box 21) 0 [] 0))), (9, (I z1))] [(.box 3, [.sl false 124 3 (encs (c124 false) xD.Flash.Blocks), .sl false 110 2 (encs c110 xD.Store.Vols), .sl false 218 2 (encs (c218 false) xD.Store.Arena.Knots), .int .i64 xD.Store.Next, .int .i64 xD.Seq, .int .i64 xD.Tx, .int .i64 xD.Base]), (.box 21, [.sl false 124 3 (encs (c124 false) z2), .sl true 99 4 (encs c99 z3)])]
def i_WriteSteps_H2 (v2 : List Page × Bool) (z4 : Bool) (z5 : Int) (z6 : List Block) (z7 : List Step) : St := mkSt [(8, (.one (.ptr (.box 21) 0 [] 0))), (11, (.one (.sl true 85 6 (encs c85 v2.1)))), (12, (B z4)), (50, (.one (.view (.slot 11) 0 [] 0))), (51, (I (ln v2.1))), (52, (I z5))] [(.box 21, [.sl false 124 3 (encs (c124 false) z6), .sl true 99 4 (encs c99 z7)])]
def i_WriteSteps_H3 (z8 : Bool) (z9 : List Block) (z10 : List Step) : St := mkSt [(8, (.one (.ptr (.box 21) 0 [] 0))), (12, (B z8))] [(.box 21, [.sl false 124 3 (encs (c124 false) z9), .sl true 99 4 (encs c99 z10)])]
set_option maxHeartbeats 4000000 in
theorem i_WriteSteps_t (xD : Device) (xRecs : List Rec) (xText : ByteArray) (r : List Step × Bool) (h : i_WriteSteps xD xRecs xText = some r) : Gives Tryz.prog 13 [.sv (.agg [.sl false 124 3 (encs (c124 false) xD.Flash.Blocks), .sl false 110 2 (encs c110 xD.Store.Vols), .sl false 218 2 (encs (c218 false) xD.Store.Arena.Knots), .int .i64 xD.Store.Next, .int .i64 xD.Seq, .int .i64 xD.Tx, .int .i64 xD.Base]), .sv (.one (.sl false 83 4 (encs c83 xRecs))), .sv (Y xText)] (.tup [(.one (.sl true 99 4 (encs c99 r.1))), (B r.2)]) (List.replicate 3 .gone) := by
 unfold i_WriteSteps at h
 refine gives_of Tryz.func13 rfl ?_
 rw [Tryz.ntmps13]
 refine Wp.seq (Wp.region ?_)
 refine LWp.b [] 3 [.sl false 124 3 (encs (c124 false) xD.Flash.Blocks), .sl false 110 2 (encs c110 xD.Store.Vols), .sl false 218 2 (encs (c218 false) xD.Store.Arena.Knots), .int .i64 xD.Store.Next, .int .i64 xD.Seq, .int .i64 xD.Tx, .int .i64 xD.Base] ?_
 refine LWp.o 6 (.one (.sl true 99 4 (encs c99 []))) ?_
 refine LWp.o 7 (B false) ?_
 refine LWp.nil ?_
 refine Wp.seq ?_
 refine Wp.seq (Wp.region ?_)
 refine LWp.o 15 (.one (.sl false 83 4 (encs c83 xRecs))) ?_
 refine LWp.o 16 (I (ln xRecs)) ?_ (st_pure (p_ln k83 xRecs))
 refine LWp.o 17 (B ((ln xRecs) == 0)) ?_
 refine LWp.nil ?_
 refine Wp.c h (fun h => ?_) (fun h => ?_)
 · refine Wp.seq (Wp.region ?_)
   refine LWp.o 6 (.one (.sl true 99 4 (encs c99 []))) ?_
   refine LWp.o 7 (B true) ?_
   refine LWp.nil ?_
   cases h
   exact Wp.ret ⟨.inr rfl, _, _, rfl, rfl⟩
 refine Wp.skip ?_
 refine Wp.seq (Wp.region ?_)
 refine LWp.o 18 (.one (.ptr (.box 3) 1 [] 0)) ?_
 refine LWp.o 19 (.agg [.sl false 124 3 (encs (c124 false) xD.Flash.Blocks)]) ?_
 refine LWp.o 20 (.agg [.sl false 124 3 (encs (c124 false) xD.Flash.Blocks), .sl true 99 4 (encs c99 [])]) ?_
 refine LWp.b [(.slot 20, [.sl false 124 3 (encs (c124 false) xD.Flash.Blocks), .junk])] 21 [.sl false 124 3 (encs (c124 false) xD.Flash.Blocks), .sl true 99 4 (encs c99 [])] ?_
 refine LWp.o 8 (.one (.ptr (.box 21) 1 [] 0)) ?_
 refine LWp.nil ?_
 refine Wp.seq (Wp.region ?_)
 refine LWp.o 22 (.one (.ptr (.box 3) 1 [] 4)) ?_
 refine LWp.o 23 (I xD.Seq) ?_
 refine LWp.o 9 (I xD.Seq) ?_
 refine LWp.nil ?_
 refine Wp.seq ?_
 refine Wp.seq (Wp.region ?_)
 refine LWp.o 24 (Y xText) ?_
 refine LWp.o 25 (B (!(seq xText (bs [])))) ?_
 refine LWp.nil ?_
 refine Wp.j2 h [1, 3, 8, 9] [.box 3, .box 21] (fun a => (i_WriteSteps_H1 xD xRecs a.1 a.2.1 a.2.2)) ?_ ?_
 · intro a h hk1
   refine Wp.c h (fun h => ?_) (fun h => ?_)
   · refine Wp.seq (Wp.region ?_)
     refine LWp.o 26 (I xD.Seq) ?_
     refine LWp.o 27 (.one (.sl false 83 4 (encs c83 xRecs))) ?_
     refine LWp.o 28 (.one (.sl false 83 4 (encs c83 xRecs))) ?_
     refine LWp.o 29 (I (ln xRecs)) ?_ (st_pure (p_ln k83 xRecs))
     refine LWp.o 30 (I (sb (ln xRecs) 1)) ?_
     refine LWp.p h 31 (fun _ => (.one (.ptr (.slot 27) 1 [0] (Int.toNat (sb (ln xRecs) 1) * 4 + 0)))) ?_ (fun x1 gx1 => st_pure (p_ix k83 (.slot 27) [] 0 gx1))
     intro x1 gx1 h
     refine LWp.o 32 (.one (.ptr (.slot 27) 1 [0] (Int.toNat (sb (ln xRecs) 1) * 4 + 3))) ?_ (st_pure (p_fa k83 (.slot 27) [0] 0 gx1))
     refine LWp.o 33 (I x1.Chunk) ?_ (st_pure (p_lc k83 (.slot 27) [0] 3 (.int .i64 x1.Chunk) gx1))
     refine LWp.o 34 (Y xText) ?_
     refine LWp.o 35 (.agg [.int .i64 1, .int .i64 xD.Seq, .int .i64 x1.Chunk, .int .i64 0, .int .i64 1, .str xText]) ?_
     refine LWp.b [] 10 [.int .i64 0, .int .i64 0, .int .i64 0, .int .i64 0, .int .i64 0, .str (bs [])] ?_
     refine LWp.s [] (.box 10) [.int .i64 1, .int .i64 xD.Seq, .int .i64 x1.Chunk, .int .i64 0, .int .i64 1, .str xText] ?_
     refine LWp.nil ?_
     refine Wp.seq ?_
     refine Wp.seq (Wp.region ?_)
     refine LWp.o 36 (.one (.ptr (.box 21) 1 [] 0)) ?_
     refine LWp.o 37 (.agg [.int .i64 1, .int .i64 xD.Seq, .int .i64 x1.Chunk, .int .i64 0, .int .i64 1, .str xText]) ?_
     refine LWp.cx h (.box 21) [.sl false 124 3 (encs (c124 false) xD.Flash.Blocks), .sl true 99 4 (encs c99 [])] (some 38) (fun v1 => (B v1.1)) (fun v1 => [.sl false 124 3 (encs (c124 false) v1.2.f_.Blocks), .sl true 99 4 (encs c99 v1.2.steps_)]) rfl rfl (l := [.sv (.agg [.int .i64 1, .int .i64 xD.Seq, .int .i64 x1.Chunk, .int .i64 0, .int .i64 1, .str xText]), .sv (.one (.int .i64 (-1)))]) rfl (fun v hv => i_stepper_write_t (stepper.mk xD.Flash []) (Page.mk 1 xD.Seq x1.Chunk 0 1 xText) (-1) v hv) (.inl rfl) (fun _ => rfl) ?_
     intro v1 gv1 h
     refine LWp.o 39 (B (!v1.1)) ?_
     refine LWp.nil ?_
     refine Wp.c h (fun h => ?_) (fun h => ?_)
     · refine Wp.seq (Wp.region ?_)
       refine LWp.o 6 (.one (.sl true 99 4 (encs c99 []))) ?_
       refine LWp.o 7 (B false) ?_
       refine LWp.nil ?_
       cases h
       replace h : some _ = some _ := hk1
       cases h
       exact Wp.ret ⟨.inr rfl, _, _, rfl, rfl⟩
     refine Wp.skip ?_
     refine Wp.region ?_
     refine LWp.o 40 (I xD.Seq) ?_
     refine LWp.o 41 (I (ad xD.Seq 1)) ?_
     refine LWp.o 9 (I (ad xD.Seq 1)) ?_
     refine LWp.nil ?_
     cases h
     exact ⟨_, rfl, rfl, rfl⟩
   refine Wp.skip ?_
   cases h
   exact ⟨_, rfl, rfl, rfl⟩
 intro j1 h E hE
 refine nt_wp hE ?_
 change Wp _ _ _ (i_WriteSteps_H1 xD xRecs j1.1 j1.2.1 j1.2.2) _
 refine Wp.seq (Wp.region ?_)
 refine LWp.o 43 (I j1.1) ?_
 refine LWp.o 44 (.one (.ptr (.box 3) 0 [] 5)) ?_
 refine LWp.o 45 (I xD.Tx) ?_
 refine LWp.o 46 (.one (.sl false 83 4 (encs c83 xRecs))) ?_
 refine LWp.cl h 47 (fun v2 => (.tup [(.one (.sl true 85 6 (encs c85 v2.1))), (B v2.2)])) rfl (l := [.sv (.one (.int .i64 j1.1)), .sv (.one (.int .i64 xD.Tx)), .sv (.one (.sl false 83 4 (encs c83 xRecs)))]) rfl (fun v hv => i_TxPages_t j1.1 xD.Tx xRecs v hv) (.inl rfl) ?_
 intro v2 gv2 h
 refine LWp.mt 47 42 (.tup [(.one (.sl true 85 6 (encs c85 v2.1))), (B v2.2)]) ?_
 refine LWp.e 42 0 48 (.one (.sl true 85 6 (encs c85 v2.1))) ?_
 refine LWp.e 42 1 49 (B v2.2) ?_
 refine LWp.m true [(.slot 48, [.junk])] 11 (.one (.sl true 85 6 (encs c85 v2.1))) ?_
 refine LWp.o 12 (B v2.2) ?_
 refine LWp.nil ?_
 refine Wp.seq ?_
 refine Wp.seq (Wp.region ?_)
 refine LWp.o 50 (.one (.view (.slot 11) 1 [] 0)) ?_
 refine LWp.o 51 (I (ln v2.1)) ?_ (st_pure (p_ln k85 v2.1))
 refine LWp.o 52 (I 0) ?_
 refine LWp.nil ?_
 refine Wp.l1 h [8, 11, 12, 50, 51, 52] [.box 21] (fun s => (i_WriteSteps_H2 v2 s.1 s.2.1 s.2.2.1 s.2.2.2)) [8, 12] [.box 21] (fun s => (i_WriteSteps_H3 s.1 s.2.1 s.2.2)) ⟨rfl, rfl⟩ ?_ ?_
 · rintro ⟨yOk1, y1, y01, y11⟩ o (h : i_WriteSteps_b1 v2 yOk1 y1 y01 y11 = some o)
   unfold i_WriteSteps_b1 at h
   change Wp _ _ _ (i_WriteSteps_H2 v2 yOk1 y1 y01 y11) _
   refine Wp.seq (Wp.region ?_)
   refine LWp.o 53 (B (decide (y1 < (ln v2.1)))) ?_
   refine LWp.nil ?_
   refine Wp.seq ?_
   refine Wp.c h (fun h => ?_) (fun h => ?_)
   · refine Wp.skip ?_
     refine Wp.seq ?_
     refine Wp.block ?_
     refine Wp.seq (Wp.region ?_)
     refine LWp.p h 54 (fun _ => (.one (.ptr (.slot 11) 0 [0] (Int.toNat y1 * 6 + 0)))) ?_ (fun x2 gx2 => st_pure (p_ix k85 (.slot 11) [] 0 gx2))
     intro x2 gx2 h
     refine LWp.o 55 (.agg [.int .i64 x2.Kind, .int .i64 x2.Seq, .int .i64 x2.Tx, .int .i64 x2.Part, .int .i64 x2.Count, .str x2.Text]) ?_ (st_pure (p_le k85 (.slot 11) [0] gx2))
     refine LWp.b [] 14 [.int .i64 0, .int .i64 0, .int .i64 0, .int .i64 0, .int .i64 0, .str (bs [])] ?_
     refine LWp.s [] (.box 14) [.int .i64 x2.Kind, .int .i64 x2.Seq, .int .i64 x2.Tx, .int .i64 x2.Part, .int .i64 x2.Count, .str x2.Text] ?_
     refine LWp.nil ?_
     refine Wp.region ?_
     refine LWp.o 56 (B yOk1) ?_
     refine LWp.o 57 (B yOk1) ?_
     refine LWp.sp h 57 (fun h => ?_) (fun h => ?_)
     · refine LWp.o 58 (.one (.ptr (.box 21) 0 [] 0)) ?_
       refine LWp.o 59 (.agg [.int .i64 x2.Kind, .int .i64 x2.Seq, .int .i64 x2.Tx, .int .i64 x2.Part, .int .i64 x2.Count, .str x2.Text]) ?_
       refine LWp.cx h (.box 21) [.sl false 124 3 (encs (c124 false) y01), .sl true 99 4 (encs c99 y11)] (some 60) (fun v3 => (B v3.1)) (fun v3 => [.sl false 124 3 (encs (c124 false) v3.2.f_.Blocks), .sl true 99 4 (encs c99 v3.2.steps_)]) rfl rfl (l := [.sv (.agg [.int .i64 x2.Kind, .int .i64 x2.Seq, .int .i64 x2.Tx, .int .i64 x2.Part, .int .i64 x2.Count, .str x2.Text]), .sv (.one (.int .i64 (-1)))]) rfl (fun v hv => i_stepper_write_t (stepper.mk (Flash.mk y01) y11) x2 (-1) v hv) (.inl rfl) (fun _ => rfl) ?_
       intro v3 gv3 h
       refine LWp.o 61 (B v3.1) ?_
       refine LWp.o 12 (B v3.1) ?_
       refine LWp.nil ?_
       refine Wp.region ?_
       refine LWp.o 62 (I (ad y1 1)) ?_
       refine LWp.o 52 (I (ad y1 1)) ?_
       refine LWp.nil ?_
       cases h
       exact ⟨_, rfl, rfl, rfl⟩
     refine LWp.sh 58 ?_
     refine LWp.sh 59 ?_
     refine LWp.sh 60 ?_
     refine LWp.o 61 (B false) ?_
     refine LWp.o 12 (B false) ?_
     refine LWp.nil ?_
     refine Wp.region ?_
     refine LWp.o 62 (I (ad y1 1)) ?_
     refine LWp.o 52 (I (ad y1 1)) ?_
     refine LWp.nil ?_
     cases h
     exact ⟨_, rfl, rfl, rfl⟩
   refine Wp.exit ?_
   cases h
   exact ⟨_, rfl, rfl, rfl⟩
 intro v4 h E hE
 refine nt_wp hE ?_
 change Wp _ _ _ (i_WriteSteps_H3 v4.1 v4.2.1 v4.2.2) _
 refine Wp.seq ?_
 refine Wp.seq (Wp.region ?_)
 refine LWp.o 63 (B v4.1) ?_
 refine LWp.o 64 (B (!v4.1)) ?_
 refine LWp.nil ?_
 refine Wp.c h (fun h => ?_) (fun h => ?_)
 · refine Wp.seq (Wp.region ?_)
   refine LWp.o 6 (.one (.sl true 99 4 (encs c99 []))) ?_
   refine LWp.o 7 (B false) ?_
   refine LWp.nil ?_
   cases h
   exact Wp.ret ⟨.inr rfl, _, _, rfl, rfl⟩
 refine Wp.skip ?_
 refine Wp.seq (Wp.region ?_)
 refine LWp.o 65 (.one (.ptr (.box 21) 0 [] 0)) ?_
 refine LWp.o 66 (.one (.ptr (.box 21) 0 [] 0)) ?_
 refine LWp.o 67 (.one (.ptr (.box 21) 0 [] 1)) ?_
 refine LWp.o 68 (.one (.view (.box 21) 0 [] 1)) ?_
 refine LWp.m true [(.box 21, [.sl false 124 3 (encs (c124 false) v4.2.1), .junk])] 6 (.one (.sl true 99 4 (encs c99 v4.2.2))) ?_
 refine LWp.o 7 (B true) ?_
 refine LWp.nil ?_
 cases h
 exact Wp.ret ⟨.inr rfl, _, _, rfl, rfl⟩
theorem w_eqStep_t (xA : Step) (xB : Step) (r : Bool) (h : w_eqStep xA xB = some r) : Gives Tryz.prog 47 [.sv (.agg [.int .i64 xA.Kind, .int .i64 xA.Block, .int .i64 xA.Leaf, .str xA.Text]), .sv (.agg [.int .i64 xB.Kind, .int .i64 xB.Block, .int .i64 xB.Leaf, .str xB.Text])] (B r) (List.replicate 2 .gone) := by
 unfold w_eqStep at h
 refine gives_of Tryz.func47 rfl ?_
 rw [Tryz.ntmps47]
 refine Wp.seq (Wp.region ?_)
 refine LWp.b [] 2 [.int .i64 xA.Kind, .int .i64 xA.Block, .int .i64 xA.Leaf, .str xA.Text] ?_
 refine LWp.b [] 3 [.int .i64 xB.Kind, .int .i64 xB.Block, .int .i64 xB.Leaf, .str xB.Text] ?_
 refine LWp.o 4 (B false) ?_
 refine LWp.nil ?_
 refine Wp.seq ?_
 refine Wp.seq (Wp.region ?_)
 refine LWp.o 5 (.one (.ptr (.box 2) 1 [] 0)) ?_
 refine LWp.o 6 (I xA.Kind) ?_
 refine LWp.o 7 (.one (.ptr (.box 3) 1 [] 0)) ?_
 refine LWp.o 8 (I xB.Kind) ?_
 refine LWp.o 9 (B (xA.Kind != xB.Kind)) ?_
 refine LWp.nil ?_
 refine Wp.c h (fun h => ?_) (fun h => ?_)
 · refine Wp.seq (Wp.region ?_)
   refine LWp.o 4 (B false) ?_
   refine LWp.nil ?_
   cases h
   exact Wp.ret ⟨.inr rfl, _, _, rfl, rfl⟩
 refine Wp.skip ?_
 refine Wp.seq ?_
 refine Wp.seq (Wp.region ?_)
 refine LWp.o 10 (.one (.ptr (.box 2) 1 [] 1)) ?_
 refine LWp.o 11 (I xA.Block) ?_
 refine LWp.o 12 (.one (.ptr (.box 3) 1 [] 1)) ?_
 refine LWp.o 13 (I xB.Block) ?_
 refine LWp.o 14 (B (xA.Block != xB.Block)) ?_
 refine LWp.nil ?_
 refine Wp.c h (fun h => ?_) (fun h => ?_)
 · refine Wp.seq (Wp.region ?_)
   refine LWp.o 4 (B false) ?_
   refine LWp.nil ?_
   cases h
   exact Wp.ret ⟨.inr rfl, _, _, rfl, rfl⟩
 refine Wp.skip ?_
 refine Wp.seq ?_
 refine Wp.seq (Wp.region ?_)
 refine LWp.o 15 (.one (.ptr (.box 2) 1 [] 2)) ?_
 refine LWp.o 16 (I xA.Leaf) ?_
 refine LWp.o 17 (.one (.ptr (.box 3) 1 [] 2)) ?_
 refine LWp.o 18 (I xB.Leaf) ?_
 refine LWp.o 19 (B (xA.Leaf != xB.Leaf)) ?_
 refine LWp.nil ?_
 refine Wp.c h (fun h => ?_) (fun h => ?_)
 · refine Wp.seq (Wp.region ?_)
   refine LWp.o 4 (B false) ?_
   refine LWp.nil ?_
   cases h
   exact Wp.ret ⟨.inr rfl, _, _, rfl, rfl⟩
 refine Wp.skip ?_
 refine Wp.seq ?_
 refine Wp.seq (Wp.region ?_)
 refine LWp.o 20 (.one (.ptr (.box 2) 1 [] 3)) ?_
 refine LWp.o 21 (Y xA.Text) ?_
 refine LWp.o 22 (.one (.ptr (.box 3) 1 [] 3)) ?_
 refine LWp.o 23 (Y xB.Text) ?_
 refine LWp.o 24 (B (!(seq xA.Text xB.Text))) ?_
 refine LWp.nil ?_
 refine Wp.c h (fun h => ?_) (fun h => ?_)
 · refine Wp.seq (Wp.region ?_)
   refine LWp.o 4 (B false) ?_
   refine LWp.nil ?_
   cases h
   exact Wp.ret ⟨.inr rfl, _, _, rfl, rfl⟩
 refine Wp.skip ?_
 refine Wp.seq (Wp.region ?_)
 refine LWp.o 4 (B true) ?_
 refine LWp.nil ?_
 cases h
 exact Wp.ret ⟨.inr rfl, _, _, rfl, rfl⟩
def w_eqStepS_H1 (xA : List Step) (xB : List Step) (z1 : Int) : St := mkSt [(0, (.one (.sl false 99 4 (encs c99 xA)))), (1, (.one (.sl false 99 4 (encs c99 xB)))), (5, (I z1))] []
def w_eqStepS_H2  : St := mkSt [] []
theorem w_eqStepS_t (xA : List Step) (xB : List Step) (r : Bool) (h : w_eqStepS xA xB = some r) : Gives Tryz.prog 14 [.sv (.one (.sl false 99 4 (encs c99 xA))), .sv (.one (.sl false 99 4 (encs c99 xB)))] (B r) (List.replicate 2 .gone) := by
 unfold w_eqStepS at h
 refine gives_of Tryz.func14 rfl ?_
 rw [Tryz.ntmps14]
 refine Wp.seq (Wp.region ?_)
 refine LWp.o 4 (B false) ?_
 refine LWp.nil ?_
 refine Wp.seq ?_
 refine Wp.seq (Wp.region ?_)
 refine LWp.o 6 (.one (.sl false 99 4 (encs c99 xA))) ?_
 refine LWp.o 7 (I (ln xA)) ?_ (st_pure (p_ln k99 xA))
 refine LWp.o 8 (.one (.sl false 99 4 (encs c99 xB))) ?_
 refine LWp.o 9 (I (ln xB)) ?_ (st_pure (p_ln k99 xB))
 refine LWp.o 10 (B ((ln xA) != (ln xB))) ?_
 refine LWp.nil ?_
 refine Wp.c h (fun h => ?_) (fun h => ?_)
 · refine Wp.seq (Wp.region ?_)
   refine LWp.o 4 (B false) ?_
   refine LWp.nil ?_
   cases h
   exact Wp.ret ⟨.inr rfl, _, _, rfl, rfl⟩
 refine Wp.skip ?_
 refine Wp.seq ?_
 refine Wp.seq (Wp.region ?_)
 refine LWp.o 5 (I 0) ?_
 refine LWp.nil ?_
 refine Wp.l2 h [0, 1, 5] [] (fun s => (w_eqStepS_H1 xA xB s)) [] [] (fun _ => w_eqStepS_H2) ⟨rfl, rfl⟩ ?_ ?_
 · rintro yI1 o (h : w_eqStepS_b1 xA xB yI1 = some o) hk1
   unfold w_eqStepS_b1 at h
   change Wp _ _ _ (w_eqStepS_H1 xA xB yI1) _
   refine Wp.seq ?_
   refine Wp.seq (Wp.region ?_)
   refine LWp.o 11 (I yI1) ?_
   refine LWp.o 12 (.one (.sl false 99 4 (encs c99 xA))) ?_
   refine LWp.o 13 (I (ln xA)) ?_ (st_pure (p_ln k99 xA))
   refine LWp.o 14 (B (decide (yI1 < (ln xA)))) ?_
   refine LWp.nil ?_
   refine Wp.c h (fun h => ?_) (fun h => ?_)
   · refine Wp.skip ?_
     refine Wp.seq ?_
     refine Wp.block ?_
     refine Wp.seq ?_
     refine Wp.regionT 8 mixed (by decide +kernel) ?_
     refine SWp.o 17 (.one (.sl false 99 4 (encs c99 xA))) ?_
     refine SWp.o 18 (I yI1) ?_
     refine SWp.p h 19 (fun _ => (.one (.ptr (.slot 17) 1 [0] (Int.toNat yI1 * 4 + 0)))) ?_ (fun x1 gx1 => sl_pure (p_ix k99 (.slot 17) [] 0 gx1))
     intro x1 gx1 h
     refine SWp.o 20 (.agg [.int .i64 x1.Kind, .int .i64 x1.Block, .int .i64 x1.Leaf, .str x1.Text]) ?_ (sl_pure (p_le k99 (.slot 17) [0] gx1))
     refine SWp.o 21 (.one (.sl false 99 4 (encs c99 xB))) ?_
     refine SWp.o 22 (I yI1) ?_
     refine SWp.p h 23 (fun _ => (.one (.ptr (.slot 21) 1 [0] (Int.toNat yI1 * 4 + 0)))) ?_ (fun x2 gx2 => sl_pure (p_ix k99 (.slot 21) [] 0 gx2))
     intro x2 gx2 h
     refine SWp.o 24 (.agg [.int .i64 x2.Kind, .int .i64 x2.Block, .int .i64 x2.Leaf, .str x2.Text]) ?_ (sl_pure (p_le k99 (.slot 21) [0] gx2))
     refine SWp.nil ?_
     refine LWp.cl h 25 (fun v1 => (B v1)) rfl (l := [.sv (.agg [.int .i64 x1.Kind, .int .i64 x1.Block, .int .i64 x1.Leaf, .str x1.Text]), .sv (.agg [.int .i64 x2.Kind, .int .i64 x2.Block, .int .i64 x2.Leaf, .str x2.Text])]) rfl (fun v hv => w_eqStep_t x1 x2 v hv) (.inl rfl) ?_
     intro v1 gv1 h
     refine LWp.o 26 (B (!v1)) ?_
     refine LWp.nil ?_
     refine Wp.c h (fun h => ?_) (fun h => ?_)
     · refine Wp.seq (Wp.region ?_)
       refine LWp.o 4 (B false) ?_
       refine LWp.nil ?_
       cases h
       replace h : some _ = some _ := hk1 _ rfl
       cases h
       exact Wp.ret ⟨.inr rfl, _, _, rfl, rfl⟩
     refine Wp.skip ?_
     refine Wp.region ?_
     refine LWp.o 15 (I yI1) ?_
     refine LWp.o 16 (I (ad yI1 1)) ?_
     refine LWp.o 5 (I (ad yI1 1)) ?_
     refine LWp.nil ?_
     cases h
     exact ⟨_, rfl, rfl, rfl⟩
   refine Wp.exit ?_
   cases h
   exact ⟨_, rfl, rfl, rfl⟩
 intro v2 h E hE
 refine nt_wp hE ?_
 change Wp _ _ _ w_eqStepS_H2 _
 refine Wp.seq (Wp.region ?_)
 refine LWp.o 4 (B true) ?_
 refine LWp.nil ?_
 cases h
 exact Wp.ret ⟨.inr rfl, _, _, rfl, rfl⟩
theorem w_eqLeaf_t (xA : Leaf) (xB : Leaf) (r : Bool) (h : w_eqLeaf xA xB = some r) : Gives Tryz.prog 204 [.sv (.agg [.int .i64 xA.Is, .str xA.Text]), .sv (.agg [.int .i64 xB.Is, .str xB.Text])] (B r) (List.replicate 2 .gone) := by
 unfold w_eqLeaf at h
 refine gives_of Tryz.func204 rfl ?_
 rw [Tryz.ntmps204]
 refine Wp.seq (Wp.region ?_)
 refine LWp.b [] 2 [.int .i64 xA.Is, .str xA.Text] ?_
 refine LWp.b [] 3 [.int .i64 xB.Is, .str xB.Text] ?_
 refine LWp.o 4 (B false) ?_
 refine LWp.nil ?_
 refine Wp.seq ?_
 refine Wp.seq (Wp.region ?_)
 refine LWp.o 5 (.one (.ptr (.box 2) 1 [] 0)) ?_
 refine LWp.o 6 (I xA.Is) ?_
 refine LWp.o 7 (.one (.ptr (.box 3) 1 [] 0)) ?_
 refine LWp.o 8 (I xB.Is) ?_
 refine LWp.o 9 (B (xA.Is != xB.Is)) ?_
 refine LWp.nil ?_
 refine Wp.c h (fun h => ?_) (fun h => ?_)
 · refine Wp.seq (Wp.region ?_)
   refine LWp.o 4 (B false) ?_
   refine LWp.nil ?_
   cases h
   exact Wp.ret ⟨.inr rfl, _, _, rfl, rfl⟩
 refine Wp.skip ?_
 refine Wp.seq ?_
 refine Wp.seq (Wp.region ?_)
 refine LWp.o 10 (.one (.ptr (.box 2) 1 [] 1)) ?_
 refine LWp.o 11 (Y xA.Text) ?_
 refine LWp.o 12 (.one (.ptr (.box 3) 1 [] 1)) ?_
 refine LWp.o 13 (Y xB.Text) ?_
 refine LWp.o 14 (B (!(seq xA.Text xB.Text))) ?_
 refine LWp.nil ?_
 refine Wp.c h (fun h => ?_) (fun h => ?_)
 · refine Wp.seq (Wp.region ?_)
   refine LWp.o 4 (B false) ?_
   refine LWp.nil ?_
   cases h
   exact Wp.ret ⟨.inr rfl, _, _, rfl, rfl⟩
 refine Wp.skip ?_
 refine Wp.seq (Wp.region ?_)
 refine LWp.o 4 (B true) ?_
 refine LWp.nil ?_
 cases h
 exact Wp.ret ⟨.inr rfl, _, _, rfl, rfl⟩
def w_eqLeafS_H1 (xA : List Leaf) (xB : List Leaf) (z1 : Int) : St := mkSt [(0, (.one (.sl false 165 2 (encs c165 xA)))), (1, (.one (.sl false 165 2 (encs c165 xB)))), (5, (I z1))] []
def w_eqLeafS_H2  : St := mkSt [] []
theorem w_eqLeafS_t (xA : List Leaf) (xB : List Leaf) (r : Bool) (h : w_eqLeafS xA xB = some r) : Gives Tryz.prog 177 [.sv (.one (.sl false 165 2 (encs c165 xA))), .sv (.one (.sl false 165 2 (encs c165 xB)))] (B r) (List.replicate 2 .gone) := by
 unfold w_eqLeafS at h
 refine gives_of Tryz.func177 rfl ?_
 rw [Tryz.ntmps177]
 refine Wp.seq (Wp.region ?_)
 refine LWp.o 4 (B false) ?_
 refine LWp.nil ?_
 refine Wp.seq ?_
 refine Wp.seq (Wp.region ?_)
 refine LWp.o 6 (.one (.sl false 165 2 (encs c165 xA))) ?_
 refine LWp.o 7 (I (ln xA)) ?_ (st_pure (p_ln k165 xA))
 refine LWp.o 8 (.one (.sl false 165 2 (encs c165 xB))) ?_
 refine LWp.o 9 (I (ln xB)) ?_ (st_pure (p_ln k165 xB))
 refine LWp.o 10 (B ((ln xA) != (ln xB))) ?_
 refine LWp.nil ?_
 refine Wp.c h (fun h => ?_) (fun h => ?_)
 · refine Wp.seq (Wp.region ?_)
   refine LWp.o 4 (B false) ?_
   refine LWp.nil ?_
   cases h
   exact Wp.ret ⟨.inr rfl, _, _, rfl, rfl⟩
 refine Wp.skip ?_
 refine Wp.seq ?_
 refine Wp.seq (Wp.region ?_)
 refine LWp.o 5 (I 0) ?_
 refine LWp.nil ?_
 refine Wp.l2 h [0, 1, 5] [] (fun s => (w_eqLeafS_H1 xA xB s)) [] [] (fun _ => w_eqLeafS_H2) ⟨rfl, rfl⟩ ?_ ?_
 · rintro yI1 o (h : w_eqLeafS_b1 xA xB yI1 = some o) hk1
   unfold w_eqLeafS_b1 at h
   change Wp _ _ _ (w_eqLeafS_H1 xA xB yI1) _
   refine Wp.seq ?_
   refine Wp.seq (Wp.region ?_)
   refine LWp.o 11 (I yI1) ?_
   refine LWp.o 12 (.one (.sl false 165 2 (encs c165 xA))) ?_
   refine LWp.o 13 (I (ln xA)) ?_ (st_pure (p_ln k165 xA))
   refine LWp.o 14 (B (decide (yI1 < (ln xA)))) ?_
   refine LWp.nil ?_
   refine Wp.c h (fun h => ?_) (fun h => ?_)
   · refine Wp.skip ?_
     refine Wp.seq ?_
     refine Wp.block ?_
     refine Wp.seq ?_
     refine Wp.regionT 8 mixed (by decide +kernel) ?_
     refine SWp.o 17 (.one (.sl false 165 2 (encs c165 xA))) ?_
     refine SWp.o 18 (I yI1) ?_
     refine SWp.p h 19 (fun _ => (.one (.ptr (.slot 17) 1 [0] (Int.toNat yI1 * 2 + 0)))) ?_ (fun x1 gx1 => sl_pure (p_ix k165 (.slot 17) [] 0 gx1))
     intro x1 gx1 h
     refine SWp.o 20 (.agg [.int .i64 x1.Is, .str x1.Text]) ?_ (sl_pure (p_le k165 (.slot 17) [0] gx1))
     refine SWp.o 21 (.one (.sl false 165 2 (encs c165 xB))) ?_
     refine SWp.o 22 (I yI1) ?_
     refine SWp.p h 23 (fun _ => (.one (.ptr (.slot 21) 1 [0] (Int.toNat yI1 * 2 + 0)))) ?_ (fun x2 gx2 => sl_pure (p_ix k165 (.slot 21) [] 0 gx2))
     intro x2 gx2 h
     refine SWp.o 24 (.agg [.int .i64 x2.Is, .str x2.Text]) ?_ (sl_pure (p_le k165 (.slot 21) [0] gx2))
     refine SWp.nil ?_
     refine LWp.cl h 25 (fun v1 => (B v1)) rfl (l := [.sv (.agg [.int .i64 x1.Is, .str x1.Text]), .sv (.agg [.int .i64 x2.Is, .str x2.Text])]) rfl (fun v hv => w_eqLeaf_t x1 x2 v hv) (.inl rfl) ?_
     intro v1 gv1 h
     refine LWp.o 26 (B (!v1)) ?_
     refine LWp.nil ?_
     refine Wp.c h (fun h => ?_) (fun h => ?_)
     · refine Wp.seq (Wp.region ?_)
       refine LWp.o 4 (B false) ?_
       refine LWp.nil ?_
       cases h
       replace h : some _ = some _ := hk1 _ rfl
       cases h
       exact Wp.ret ⟨.inr rfl, _, _, rfl, rfl⟩
     refine Wp.skip ?_
     refine Wp.region ?_
     refine LWp.o 15 (I yI1) ?_
     refine LWp.o 16 (I (ad yI1 1)) ?_
     refine LWp.o 5 (I (ad yI1 1)) ?_
     refine LWp.nil ?_
     cases h
     exact ⟨_, rfl, rfl, rfl⟩
   refine Wp.exit ?_
   cases h
   exact ⟨_, rfl, rfl, rfl⟩
 intro v2 h E hE
 refine nt_wp hE ?_
 change Wp _ _ _ w_eqLeafS_H2 _
 refine Wp.seq (Wp.region ?_)
 refine LWp.o 4 (B true) ?_
 refine LWp.nil ?_
 cases h
 exact Wp.ret ⟨.inr rfl, _, _, rfl, rfl⟩
theorem w_eqBlock_t (xA : Block) (xB : Block) (r : Bool) (h : w_eqBlock xA xB = some r) : Gives Tryz.prog 145 [.sv (.agg [.bool xA.Bad, .int .i64 xA.Wear, .sl false 165 2 (encs c165 xA.Leaves)]), .sv (.agg [.bool xB.Bad, .int .i64 xB.Wear, .sl false 165 2 (encs c165 xB.Leaves)])] (B r) (List.replicate 2 .gone) := by
 unfold w_eqBlock at h
 refine gives_of Tryz.func145 rfl ?_
 rw [Tryz.ntmps145]
 refine Wp.seq (Wp.region ?_)
 refine LWp.b [] 2 [.bool xA.Bad, .int .i64 xA.Wear, .sl false 165 2 (encs c165 xA.Leaves)] ?_
 refine LWp.b [] 3 [.bool xB.Bad, .int .i64 xB.Wear, .sl false 165 2 (encs c165 xB.Leaves)] ?_
 refine LWp.o 4 (B false) ?_
 refine LWp.nil ?_
 refine Wp.seq ?_
 refine Wp.seq (Wp.region ?_)
 refine LWp.o 5 (.one (.ptr (.box 2) 1 [] 0)) ?_
 refine LWp.o 6 (B xA.Bad) ?_
 refine LWp.o 7 (.one (.ptr (.box 3) 1 [] 0)) ?_
 refine LWp.o 8 (B xB.Bad) ?_
 refine LWp.o 9 (B (!(xA.Bad == xB.Bad))) ?_
 refine LWp.nil ?_
 refine Wp.c h (fun h => ?_) (fun h => ?_)
 · refine Wp.seq (Wp.region ?_)
   refine LWp.o 4 (B false) ?_
   refine LWp.nil ?_
   cases h
   exact Wp.ret ⟨.inr rfl, _, _, rfl, rfl⟩
 refine Wp.skip ?_
 refine Wp.seq ?_
 refine Wp.seq (Wp.region ?_)
 refine LWp.o 10 (.one (.ptr (.box 2) 1 [] 1)) ?_
 refine LWp.o 11 (I xA.Wear) ?_
 refine LWp.o 12 (.one (.ptr (.box 3) 1 [] 1)) ?_
 refine LWp.o 13 (I xB.Wear) ?_
 refine LWp.o 14 (B (xA.Wear != xB.Wear)) ?_
 refine LWp.nil ?_
 refine Wp.c h (fun h => ?_) (fun h => ?_)
 · refine Wp.seq (Wp.region ?_)
   refine LWp.o 4 (B false) ?_
   refine LWp.nil ?_
   cases h
   exact Wp.ret ⟨.inr rfl, _, _, rfl, rfl⟩
 refine Wp.skip ?_
 refine Wp.seq ?_
 refine Wp.seq (Wp.region ?_)
 refine LWp.o 15 (.one (.ptr (.box 2) 1 [] 2)) ?_
 refine LWp.o 16 (.one (.sl false 165 2 (encs c165 xA.Leaves))) ?_
 refine LWp.o 17 (.one (.ptr (.box 3) 1 [] 2)) ?_
 refine LWp.o 18 (.one (.sl false 165 2 (encs c165 xB.Leaves))) ?_
 refine LWp.cl h 19 (fun v1 => (B v1)) rfl (l := [.sv (.one (.sl false 165 2 (encs c165 xA.Leaves))), .sv (.one (.sl false 165 2 (encs c165 xB.Leaves)))]) rfl (fun v hv => w_eqLeafS_t xA.Leaves xB.Leaves v hv) (.inl rfl) ?_
 intro v1 gv1 h
 refine LWp.o 20 (B (!v1)) ?_
 refine LWp.nil ?_
 refine Wp.c h (fun h => ?_) (fun h => ?_)
 · refine Wp.seq (Wp.region ?_)
   refine LWp.o 4 (B false) ?_
   refine LWp.nil ?_
   cases h
   exact Wp.ret ⟨.inr rfl, _, _, rfl, rfl⟩
 refine Wp.skip ?_
 refine Wp.seq (Wp.region ?_)
 refine LWp.o 4 (B true) ?_
 refine LWp.nil ?_
 cases h
 exact Wp.ret ⟨.inr rfl, _, _, rfl, rfl⟩
def w_eqBlockS_H1 (xA : List Block) (xB : List Block) (z1 : Int) : St := mkSt [(0, (.one (.sl false 124 3 (encs (c124 false) xA)))), (1, (.one (.sl false 124 3 (encs (c124 false) xB)))), (5, (I z1))] []
def w_eqBlockS_H2  : St := mkSt [] []
theorem w_eqBlockS_t (xA : List Block) (xB : List Block) (r : Bool) (h : w_eqBlockS xA xB = some r) : Gives Tryz.prog 93 [.sv (.one (.sl false 124 3 (encs (c124 false) xA))), .sv (.one (.sl false 124 3 (encs (c124 false) xB)))] (B r) (List.replicate 2 .gone) := by
 unfold w_eqBlockS at h
 refine gives_of Tryz.func93 rfl ?_
 rw [Tryz.ntmps93]
 refine Wp.seq (Wp.region ?_)
 refine LWp.o 4 (B false) ?_
 refine LWp.nil ?_
 refine Wp.seq ?_
 refine Wp.seq (Wp.region ?_)
 refine LWp.o 6 (.one (.sl false 124 3 (encs (c124 false) xA))) ?_
 refine LWp.o 7 (I (ln xA)) ?_ (st_pure (p_ln (k124 false) xA))
 refine LWp.o 8 (.one (.sl false 124 3 (encs (c124 false) xB))) ?_
 refine LWp.o 9 (I (ln xB)) ?_ (st_pure (p_ln (k124 false) xB))
 refine LWp.o 10 (B ((ln xA) != (ln xB))) ?_
 refine LWp.nil ?_
 refine Wp.c h (fun h => ?_) (fun h => ?_)
 · refine Wp.seq (Wp.region ?_)
   refine LWp.o 4 (B false) ?_
   refine LWp.nil ?_
   cases h
   exact Wp.ret ⟨.inr rfl, _, _, rfl, rfl⟩
 refine Wp.skip ?_
 refine Wp.seq ?_
 refine Wp.seq (Wp.region ?_)
 refine LWp.o 5 (I 0) ?_
 refine LWp.nil ?_
 refine Wp.l2 h [0, 1, 5] [] (fun s => (w_eqBlockS_H1 xA xB s)) [] [] (fun _ => w_eqBlockS_H2) ⟨rfl, rfl⟩ ?_ ?_
 · rintro yI1 o (h : w_eqBlockS_b1 xA xB yI1 = some o) hk1
   unfold w_eqBlockS_b1 at h
   change Wp _ _ _ (w_eqBlockS_H1 xA xB yI1) _
   refine Wp.seq ?_
   refine Wp.seq (Wp.region ?_)
   refine LWp.o 11 (I yI1) ?_
   refine LWp.o 12 (.one (.sl false 124 3 (encs (c124 false) xA))) ?_
   refine LWp.o 13 (I (ln xA)) ?_ (st_pure (p_ln (k124 false) xA))
   refine LWp.o 14 (B (decide (yI1 < (ln xA)))) ?_
   refine LWp.nil ?_
   refine Wp.c h (fun h => ?_) (fun h => ?_)
   · refine Wp.skip ?_
     refine Wp.seq ?_
     refine Wp.block ?_
     refine Wp.seq ?_
     refine Wp.regionT 8 mixed (by decide +kernel) ?_
     refine SWp.o 17 (.one (.sl false 124 3 (encs (c124 false) xA))) ?_
     refine SWp.o 18 (I yI1) ?_
     refine SWp.p h 19 (fun _ => (.one (.ptr (.slot 17) 1 [0] (Int.toNat yI1 * 3 + 0)))) ?_ (fun x1 gx1 => sl_pure (p_ix (k124 false) (.slot 17) [] 0 gx1))
     intro x1 gx1 h
     refine SWp.o 20 (.agg [.bool x1.Bad, .int .i64 x1.Wear, .sl false 165 2 (encs c165 x1.Leaves)]) ?_ (sl_pure (p_le (k124 false) (.slot 17) [0] gx1))
     refine SWp.o 21 (.one (.sl false 124 3 (encs (c124 false) xB))) ?_
     refine SWp.o 22 (I yI1) ?_
     refine SWp.p h 23 (fun _ => (.one (.ptr (.slot 21) 1 [0] (Int.toNat yI1 * 3 + 0)))) ?_ (fun x2 gx2 => sl_pure (p_ix (k124 false) (.slot 21) [] 0 gx2))
     intro x2 gx2 h
     refine SWp.o 24 (.agg [.bool x2.Bad, .int .i64 x2.Wear, .sl false 165 2 (encs c165 x2.Leaves)]) ?_ (sl_pure (p_le (k124 false) (.slot 21) [0] gx2))
     refine SWp.nil ?_
     refine LWp.cl h 25 (fun v1 => (B v1)) rfl (l := [.sv (.agg [.bool x1.Bad, .int .i64 x1.Wear, .sl false 165 2 (encs c165 x1.Leaves)]), .sv (.agg [.bool x2.Bad, .int .i64 x2.Wear, .sl false 165 2 (encs c165 x2.Leaves)])]) rfl (fun v hv => w_eqBlock_t x1 x2 v hv) (.inl rfl) ?_
     intro v1 gv1 h
     refine LWp.o 26 (B (!v1)) ?_
     refine LWp.nil ?_
     refine Wp.c h (fun h => ?_) (fun h => ?_)
     · refine Wp.seq (Wp.region ?_)
       refine LWp.o 4 (B false) ?_
       refine LWp.nil ?_
       cases h
       replace h : some _ = some _ := hk1 _ rfl
       cases h
       exact Wp.ret ⟨.inr rfl, _, _, rfl, rfl⟩
     refine Wp.skip ?_
     refine Wp.region ?_
     refine LWp.o 15 (I yI1) ?_
     refine LWp.o 16 (I (ad yI1 1)) ?_
     refine LWp.o 5 (I (ad yI1 1)) ?_
     refine LWp.nil ?_
     cases h
     exact ⟨_, rfl, rfl, rfl⟩
   refine Wp.exit ?_
   cases h
   exact ⟨_, rfl, rfl, rfl⟩
 intro v2 h E hE
 refine nt_wp hE ?_
 change Wp _ _ _ w_eqBlockS_H2 _
 refine Wp.seq (Wp.region ?_)
 refine LWp.o 4 (B true) ?_
 refine LWp.nil ?_
 cases h
 exact Wp.ret ⟨.inr rfl, _, _, rfl, rfl⟩
theorem w_eqFlash_t (xA : Flash) (xB : Flash) (r : Bool) (h : w_eqFlash xA xB = some r) : Gives Tryz.prog 48 [.sv (.agg [.sl false 124 3 (encs (c124 false) xA.Blocks)]), .sv (.agg [.sl false 124 3 (encs (c124 false) xB.Blocks)])] (B r) (List.replicate 2 .gone) := by
 unfold w_eqFlash at h
 refine gives_of Tryz.func48 rfl ?_
 rw [Tryz.ntmps48]
 refine Wp.seq (Wp.region ?_)
 refine LWp.b [] 2 [.sl false 124 3 (encs (c124 false) xA.Blocks)] ?_
 refine LWp.b [] 3 [.sl false 124 3 (encs (c124 false) xB.Blocks)] ?_
 refine LWp.o 4 (B false) ?_
 refine LWp.nil ?_
 refine Wp.seq ?_
 refine Wp.seq (Wp.region ?_)
 refine LWp.o 5 (.one (.ptr (.box 2) 1 [] 0)) ?_
 refine LWp.o 6 (.one (.sl false 124 3 (encs (c124 false) xA.Blocks))) ?_
 refine LWp.o 7 (.one (.ptr (.box 3) 1 [] 0)) ?_
 refine LWp.o 8 (.one (.sl false 124 3 (encs (c124 false) xB.Blocks))) ?_
 refine LWp.cl h 9 (fun v1 => (B v1)) rfl (l := [.sv (.one (.sl false 124 3 (encs (c124 false) xA.Blocks))), .sv (.one (.sl false 124 3 (encs (c124 false) xB.Blocks)))]) rfl (fun v hv => w_eqBlockS_t xA.Blocks xB.Blocks v hv) (.inl rfl) ?_
 intro v1 gv1 h
 refine LWp.o 10 (B (!v1)) ?_
 refine LWp.nil ?_
 refine Wp.c h (fun h => ?_) (fun h => ?_)
 · refine Wp.seq (Wp.region ?_)
   refine LWp.o 4 (B false) ?_
   refine LWp.nil ?_
   cases h
   exact Wp.ret ⟨.inr rfl, _, _, rfl, rfl⟩
 refine Wp.skip ?_
 refine Wp.seq (Wp.region ?_)
 refine LWp.o 4 (B true) ?_
 refine LWp.nil ?_
 cases h
 exact Wp.ret ⟨.inr rfl, _, _, rfl, rfl⟩
theorem w_eqVol_t (xA : Vol) (xB : Vol) (r : Bool) (h : w_eqVol xA xB = some r) : Gives Tryz.prog 146 [.sv (.agg [.int .i64 xA.Id, .int .i64 xA.Root]), .sv (.agg [.int .i64 xB.Id, .int .i64 xB.Root])] (B r) (List.replicate 2 .gone) := by
 unfold w_eqVol at h
 refine gives_of Tryz.func146 rfl ?_
 rw [Tryz.ntmps146]
 refine Wp.seq (Wp.region ?_)
 refine LWp.b [] 2 [.int .i64 xA.Id, .int .i64 xA.Root] ?_
 refine LWp.b [] 3 [.int .i64 xB.Id, .int .i64 xB.Root] ?_
 refine LWp.o 4 (B false) ?_
 refine LWp.nil ?_
 refine Wp.seq ?_
 refine Wp.seq (Wp.region ?_)
 refine LWp.o 5 (.one (.ptr (.box 2) 1 [] 0)) ?_
 refine LWp.o 6 (I xA.Id) ?_
 refine LWp.o 7 (.one (.ptr (.box 3) 1 [] 0)) ?_
 refine LWp.o 8 (I xB.Id) ?_
 refine LWp.o 9 (B (xA.Id != xB.Id)) ?_
 refine LWp.nil ?_
 refine Wp.c h (fun h => ?_) (fun h => ?_)
 · refine Wp.seq (Wp.region ?_)
   refine LWp.o 4 (B false) ?_
   refine LWp.nil ?_
   cases h
   exact Wp.ret ⟨.inr rfl, _, _, rfl, rfl⟩
 refine Wp.skip ?_
 refine Wp.seq ?_
 refine Wp.seq (Wp.region ?_)
 refine LWp.o 10 (.one (.ptr (.box 2) 1 [] 1)) ?_
 refine LWp.o 11 (I xA.Root) ?_
 refine LWp.o 12 (.one (.ptr (.box 3) 1 [] 1)) ?_
 refine LWp.o 13 (I xB.Root) ?_
 refine LWp.o 14 (B (xA.Root != xB.Root)) ?_
 refine LWp.nil ?_
 refine Wp.c h (fun h => ?_) (fun h => ?_)
 · refine Wp.seq (Wp.region ?_)
   refine LWp.o 4 (B false) ?_
   refine LWp.nil ?_
   cases h
   exact Wp.ret ⟨.inr rfl, _, _, rfl, rfl⟩
 refine Wp.skip ?_
 refine Wp.seq (Wp.region ?_)
 refine LWp.o 4 (B true) ?_
 refine LWp.nil ?_
 cases h
 exact Wp.ret ⟨.inr rfl, _, _, rfl, rfl⟩
def w_eqVolS_H1 (xA : List Vol) (xB : List Vol) (z1 : Int) : St := mkSt [(0, (.one (.sl false 110 2 (encs c110 xA)))), (1, (.one (.sl false 110 2 (encs c110 xB)))), (5, (I z1))] []
def w_eqVolS_H2  : St := mkSt [] []
theorem w_eqVolS_t (xA : List Vol) (xB : List Vol) (r : Bool) (h : w_eqVolS xA xB = some r) : Gives Tryz.prog 94 [.sv (.one (.sl false 110 2 (encs c110 xA))), .sv (.one (.sl false 110 2 (encs c110 xB)))] (B r) (List.replicate 2 .gone) := by
 unfold w_eqVolS at h
 refine gives_of Tryz.func94 rfl ?_
 rw [Tryz.ntmps94]
 refine Wp.seq (Wp.region ?_)
 refine LWp.o 4 (B false) ?_
 refine LWp.nil ?_
 refine Wp.seq ?_
 refine Wp.seq (Wp.region ?_)
 refine LWp.o 6 (.one (.sl false 110 2 (encs c110 xA))) ?_
 refine LWp.o 7 (I (ln xA)) ?_ (st_pure (p_ln k110 xA))
 refine LWp.o 8 (.one (.sl false 110 2 (encs c110 xB))) ?_
 refine LWp.o 9 (I (ln xB)) ?_ (st_pure (p_ln k110 xB))
 refine LWp.o 10 (B ((ln xA) != (ln xB))) ?_
 refine LWp.nil ?_
 refine Wp.c h (fun h => ?_) (fun h => ?_)
 · refine Wp.seq (Wp.region ?_)
   refine LWp.o 4 (B false) ?_
   refine LWp.nil ?_
   cases h
   exact Wp.ret ⟨.inr rfl, _, _, rfl, rfl⟩
 refine Wp.skip ?_
 refine Wp.seq ?_
 refine Wp.seq (Wp.region ?_)
 refine LWp.o 5 (I 0) ?_
 refine LWp.nil ?_
 refine Wp.l2 h [0, 1, 5] [] (fun s => (w_eqVolS_H1 xA xB s)) [] [] (fun _ => w_eqVolS_H2) ⟨rfl, rfl⟩ ?_ ?_
 · rintro yI1 o (h : w_eqVolS_b1 xA xB yI1 = some o) hk1
   unfold w_eqVolS_b1 at h
   change Wp _ _ _ (w_eqVolS_H1 xA xB yI1) _
   refine Wp.seq ?_
   refine Wp.seq (Wp.region ?_)
   refine LWp.o 11 (I yI1) ?_
   refine LWp.o 12 (.one (.sl false 110 2 (encs c110 xA))) ?_
   refine LWp.o 13 (I (ln xA)) ?_ (st_pure (p_ln k110 xA))
   refine LWp.o 14 (B (decide (yI1 < (ln xA)))) ?_
   refine LWp.nil ?_
   refine Wp.c h (fun h => ?_) (fun h => ?_)
   · refine Wp.skip ?_
     refine Wp.seq ?_
     refine Wp.block ?_
     refine Wp.seq ?_
     refine Wp.regionT 8 mixed (by decide +kernel) ?_
     refine SWp.o 17 (.one (.sl false 110 2 (encs c110 xA))) ?_
     refine SWp.o 18 (I yI1) ?_
     refine SWp.p h 19 (fun _ => (.one (.ptr (.slot 17) 1 [0] (Int.toNat yI1 * 2 + 0)))) ?_ (fun x1 gx1 => sl_pure (p_ix k110 (.slot 17) [] 0 gx1))
     intro x1 gx1 h
     refine SWp.o 20 (.agg [.int .i64 x1.Id, .int .i64 x1.Root]) ?_ (sl_pure (p_le k110 (.slot 17) [0] gx1))
     refine SWp.o 21 (.one (.sl false 110 2 (encs c110 xB))) ?_
     refine SWp.o 22 (I yI1) ?_
     refine SWp.p h 23 (fun _ => (.one (.ptr (.slot 21) 1 [0] (Int.toNat yI1 * 2 + 0)))) ?_ (fun x2 gx2 => sl_pure (p_ix k110 (.slot 21) [] 0 gx2))
     intro x2 gx2 h
     refine SWp.o 24 (.agg [.int .i64 x2.Id, .int .i64 x2.Root]) ?_ (sl_pure (p_le k110 (.slot 21) [0] gx2))
     refine SWp.nil ?_
     refine LWp.cl h 25 (fun v1 => (B v1)) rfl (l := [.sv (.agg [.int .i64 x1.Id, .int .i64 x1.Root]), .sv (.agg [.int .i64 x2.Id, .int .i64 x2.Root])]) rfl (fun v hv => w_eqVol_t x1 x2 v hv) (.inl rfl) ?_
     intro v1 gv1 h
     refine LWp.o 26 (B (!v1)) ?_
     refine LWp.nil ?_
     refine Wp.c h (fun h => ?_) (fun h => ?_)
     · refine Wp.seq (Wp.region ?_)
       refine LWp.o 4 (B false) ?_
       refine LWp.nil ?_
       cases h
       replace h : some _ = some _ := hk1 _ rfl
       cases h
       exact Wp.ret ⟨.inr rfl, _, _, rfl, rfl⟩
     refine Wp.skip ?_
     refine Wp.region ?_
     refine LWp.o 15 (I yI1) ?_
     refine LWp.o 16 (I (ad yI1 1)) ?_
     refine LWp.o 5 (I (ad yI1 1)) ?_
     refine LWp.nil ?_
     cases h
     exact ⟨_, rfl, rfl, rfl⟩
   refine Wp.exit ?_
   cases h
   exact ⟨_, rfl, rfl, rfl⟩
 intro v2 h E hE
 refine nt_wp hE ?_
 change Wp _ _ _ w_eqVolS_H2 _
 refine Wp.seq (Wp.region ?_)
 refine LWp.o 4 (B true) ?_
 refine LWp.nil ?_
 cases h
 exact Wp.ret ⟨.inr rfl, _, _, rfl, rfl⟩
def w_eqIntS_H1 (xA : List Int) (xB : List Int) (z1 : Int) : St := mkSt [(0, (.one (.sl false 3 1 (encs c3 xA)))), (1, (.one (.sl false 3 1 (encs c3 xB)))), (5, (I z1))] []
def w_eqIntS_H2  : St := mkSt [] []
theorem w_eqIntS_t (xA : List Int) (xB : List Int) (r : Bool) (h : w_eqIntS xA xB = some r) : Gives Tryz.prog 30 [.sv (.one (.sl false 3 1 (encs c3 xA))), .sv (.one (.sl false 3 1 (encs c3 xB)))] (B r) (List.replicate 2 .gone) := by
 unfold w_eqIntS at h
 refine gives_of Tryz.func30 rfl ?_
 rw [Tryz.ntmps30]
 refine Wp.seq (Wp.region ?_)
 refine LWp.o 4 (B false) ?_
 refine LWp.nil ?_
 refine Wp.seq ?_
 refine Wp.seq (Wp.region ?_)
 refine LWp.o 6 (.one (.sl false 3 1 (encs c3 xA))) ?_
 refine LWp.o 7 (I (ln xA)) ?_ (st_pure (p_ln k3 xA))
 refine LWp.o 8 (.one (.sl false 3 1 (encs c3 xB))) ?_
 refine LWp.o 9 (I (ln xB)) ?_ (st_pure (p_ln k3 xB))
 refine LWp.o 10 (B ((ln xA) != (ln xB))) ?_
 refine LWp.nil ?_
 refine Wp.c h (fun h => ?_) (fun h => ?_)
 · refine Wp.seq (Wp.region ?_)
   refine LWp.o 4 (B false) ?_
   refine LWp.nil ?_
   cases h
   exact Wp.ret ⟨.inr rfl, _, _, rfl, rfl⟩
 refine Wp.skip ?_
 refine Wp.seq ?_
 refine Wp.seq (Wp.region ?_)
 refine LWp.o 5 (I 0) ?_
 refine LWp.nil ?_
 refine Wp.l2 h [0, 1, 5] [] (fun s => (w_eqIntS_H1 xA xB s)) [] [] (fun _ => w_eqIntS_H2) ⟨rfl, rfl⟩ ?_ ?_
 · rintro yI1 o (h : w_eqIntS_b1 xA xB yI1 = some o) hk1
   unfold w_eqIntS_b1 at h
   change Wp _ _ _ (w_eqIntS_H1 xA xB yI1) _
   refine Wp.seq ?_
   refine Wp.seq (Wp.region ?_)
   refine LWp.o 11 (I yI1) ?_
   refine LWp.o 12 (.one (.sl false 3 1 (encs c3 xA))) ?_
   refine LWp.o 13 (I (ln xA)) ?_ (st_pure (p_ln k3 xA))
   refine LWp.o 14 (B (decide (yI1 < (ln xA)))) ?_
   refine LWp.nil ?_
   refine Wp.c h (fun h => ?_) (fun h => ?_)
   · refine Wp.skip ?_
     refine Wp.seq ?_
     refine Wp.block ?_
     refine Wp.seq ?_
     refine Wp.regionS mixed (by decide +kernel) ?_
     refine SWp.o 17 (.one (.sl false 3 1 (encs c3 xA))) ?_
     refine SWp.o 18 (I yI1) ?_
     refine SWp.p h 19 (fun _ => (.one (.ptr (.slot 17) 1 [0] (Int.toNat yI1 * 1 + 0)))) ?_ (fun x1 gx1 => sl_pure (p_ix k3 (.slot 17) [] 0 gx1))
     intro x1 gx1 h
     refine SWp.o 20 (I x1) ?_ (sl_pure (p_lc k3 (.slot 17) [0] 0 (.int .i64 x1) gx1))
     refine SWp.o 21 (.one (.sl false 3 1 (encs c3 xB))) ?_
     refine SWp.o 22 (I yI1) ?_
     refine SWp.p h 23 (fun _ => (.one (.ptr (.slot 21) 1 [0] (Int.toNat yI1 * 1 + 0)))) ?_ (fun x2 gx2 => sl_pure (p_ix k3 (.slot 21) [] 0 gx2))
     intro x2 gx2 h
     refine SWp.o 24 (I x2) ?_ (sl_pure (p_lc k3 (.slot 21) [0] 0 (.int .i64 x2) gx2))
     refine SWp.o 25 (B (x1 != x2)) ?_
     refine SWp.nil ?_
     refine Wp.c h (fun h => ?_) (fun h => ?_)
     · refine Wp.seq (Wp.region ?_)
       refine LWp.o 4 (B false) ?_
       refine LWp.nil ?_
       cases h
       replace h : some _ = some _ := hk1 _ rfl
       cases h
       exact Wp.ret ⟨.inr rfl, _, _, rfl, rfl⟩
     refine Wp.skip ?_
     refine Wp.region ?_
     refine LWp.o 15 (I yI1) ?_
     refine LWp.o 16 (I (ad yI1 1)) ?_
     refine LWp.o 5 (I (ad yI1 1)) ?_
     refine LWp.nil ?_
     cases h
     exact ⟨_, rfl, rfl, rfl⟩
   refine Wp.exit ?_
   cases h
   exact ⟨_, rfl, rfl, rfl⟩
 intro v1 h E hE
 refine nt_wp hE ?_
 change Wp _ _ _ w_eqIntS_H2 _
 refine Wp.seq (Wp.region ?_)
 refine LWp.o 4 (B true) ?_
 refine LWp.nil ?_
 cases h
 exact Wp.ret ⟨.inr rfl, _, _, rfl, rfl⟩
theorem w_eqKnot_t (xA : Knot) (xB : Knot) (r : Bool) (h : w_eqKnot xA xB = some r) : Gives Tryz.prog 178 [.sv (.agg [.bool xA.Leaf, .sl false 3 1 (encs c3 xA.Kids)]), .sv (.agg [.bool xB.Leaf, .sl false 3 1 (encs c3 xB.Kids)])] (B r) (List.replicate 2 .gone) := by
 unfold w_eqKnot at h
 refine gives_of Tryz.func178 rfl ?_
 rw [Tryz.ntmps178]
 refine Wp.seq (Wp.region ?_)
 refine LWp.b [] 2 [.bool xA.Leaf, .sl false 3 1 (encs c3 xA.Kids)] ?_
 refine LWp.b [] 3 [.bool xB.Leaf, .sl false 3 1 (encs c3 xB.Kids)] ?_
 refine LWp.o 4 (B false) ?_
 refine LWp.nil ?_
 refine Wp.seq ?_
 refine Wp.seq (Wp.region ?_)
 refine LWp.o 5 (.one (.ptr (.box 2) 1 [] 0)) ?_
 refine LWp.o 6 (B xA.Leaf) ?_
 refine LWp.o 7 (.one (.ptr (.box 3) 1 [] 0)) ?_
 refine LWp.o 8 (B xB.Leaf) ?_
 refine LWp.o 9 (B (!(xA.Leaf == xB.Leaf))) ?_
 refine LWp.nil ?_
 refine Wp.c h (fun h => ?_) (fun h => ?_)
 · refine Wp.seq (Wp.region ?_)
   refine LWp.o 4 (B false) ?_
   refine LWp.nil ?_
   cases h
   exact Wp.ret ⟨.inr rfl, _, _, rfl, rfl⟩
 refine Wp.skip ?_
 refine Wp.seq ?_
 refine Wp.seq (Wp.region ?_)
 refine LWp.o 10 (.one (.ptr (.box 2) 1 [] 1)) ?_
 refine LWp.o 11 (.one (.sl false 3 1 (encs c3 xA.Kids))) ?_
 refine LWp.o 12 (.one (.ptr (.box 3) 1 [] 1)) ?_
 refine LWp.o 13 (.one (.sl false 3 1 (encs c3 xB.Kids))) ?_
 refine LWp.cl h 14 (fun v1 => (B v1)) rfl (l := [.sv (.one (.sl false 3 1 (encs c3 xA.Kids))), .sv (.one (.sl false 3 1 (encs c3 xB.Kids)))]) rfl (fun v hv => w_eqIntS_t xA.Kids xB.Kids v hv) (.inl rfl) ?_
 intro v1 gv1 h
 refine LWp.o 15 (B (!v1)) ?_
 refine LWp.nil ?_
 refine Wp.c h (fun h => ?_) (fun h => ?_)
 · refine Wp.seq (Wp.region ?_)
   refine LWp.o 4 (B false) ?_
   refine LWp.nil ?_
   cases h
   exact Wp.ret ⟨.inr rfl, _, _, rfl, rfl⟩
 refine Wp.skip ?_
 refine Wp.seq (Wp.region ?_)
 refine LWp.o 4 (B true) ?_
 refine LWp.nil ?_
 cases h
 exact Wp.ret ⟨.inr rfl, _, _, rfl, rfl⟩
def w_eqKnotS_H1 (xA : List Knot) (xB : List Knot) (z1 : Int) : St := mkSt [(0, (.one (.sl false 218 2 (encs (c218 false) xA)))), (1, (.one (.sl false 218 2 (encs (c218 false) xB)))), (5, (I z1))] []
def w_eqKnotS_H2  : St := mkSt [] []
theorem w_eqKnotS_t (xA : List Knot) (xB : List Knot) (r : Bool) (h : w_eqKnotS xA xB = some r) : Gives Tryz.prog 147 [.sv (.one (.sl false 218 2 (encs (c218 false) xA))), .sv (.one (.sl false 218 2 (encs (c218 false) xB)))] (B r) (List.replicate 2 .gone) := by
 unfold w_eqKnotS at h
 refine gives_of Tryz.func147 rfl ?_
 rw [Tryz.ntmps147]
 refine Wp.seq (Wp.region ?_)
 refine LWp.o 4 (B false) ?_
 refine LWp.nil ?_
 refine Wp.seq ?_
 refine Wp.seq (Wp.region ?_)
 refine LWp.o 6 (.one (.sl false 218 2 (encs (c218 false) xA))) ?_
 refine LWp.o 7 (I (ln xA)) ?_ (st_pure (p_ln (k218 false) xA))
 refine LWp.o 8 (.one (.sl false 218 2 (encs (c218 false) xB))) ?_
 refine LWp.o 9 (I (ln xB)) ?_ (st_pure (p_ln (k218 false) xB))
 refine LWp.o 10 (B ((ln xA) != (ln xB))) ?_
 refine LWp.nil ?_
 refine Wp.c h (fun h => ?_) (fun h => ?_)
 · refine Wp.seq (Wp.region ?_)
   refine LWp.o 4 (B false) ?_
   refine LWp.nil ?_
   cases h
   exact Wp.ret ⟨.inr rfl, _, _, rfl, rfl⟩
 refine Wp.skip ?_
 refine Wp.seq ?_
 refine Wp.seq (Wp.region ?_)
 refine LWp.o 5 (I 0) ?_
 refine LWp.nil ?_
 refine Wp.l2 h [0, 1, 5] [] (fun s => (w_eqKnotS_H1 xA xB s)) [] [] (fun _ => w_eqKnotS_H2) ⟨rfl, rfl⟩ ?_ ?_
 · rintro yI1 o (h : w_eqKnotS_b1 xA xB yI1 = some o) hk1
   unfold w_eqKnotS_b1 at h
   change Wp _ _ _ (w_eqKnotS_H1 xA xB yI1) _
   refine Wp.seq ?_
   refine Wp.seq (Wp.region ?_)
   refine LWp.o 11 (I yI1) ?_
   refine LWp.o 12 (.one (.sl false 218 2 (encs (c218 false) xA))) ?_
   refine LWp.o 13 (I (ln xA)) ?_ (st_pure (p_ln (k218 false) xA))
   refine LWp.o 14 (B (decide (yI1 < (ln xA)))) ?_
   refine LWp.nil ?_
   refine Wp.c h (fun h => ?_) (fun h => ?_)
   · refine Wp.skip ?_
     refine Wp.seq ?_
     refine Wp.block ?_
     refine Wp.seq ?_
     refine Wp.regionT 8 mixed (by decide +kernel) ?_
     refine SWp.o 17 (.one (.sl false 218 2 (encs (c218 false) xA))) ?_
     refine SWp.o 18 (I yI1) ?_
     refine SWp.p h 19 (fun _ => (.one (.ptr (.slot 17) 1 [0] (Int.toNat yI1 * 2 + 0)))) ?_ (fun x1 gx1 => sl_pure (p_ix (k218 false) (.slot 17) [] 0 gx1))
     intro x1 gx1 h
     refine SWp.o 20 (.agg [.bool x1.Leaf, .sl false 3 1 (encs c3 x1.Kids)]) ?_ (sl_pure (p_le (k218 false) (.slot 17) [0] gx1))
     refine SWp.o 21 (.one (.sl false 218 2 (encs (c218 false) xB))) ?_
     refine SWp.o 22 (I yI1) ?_
     refine SWp.p h 23 (fun _ => (.one (.ptr (.slot 21) 1 [0] (Int.toNat yI1 * 2 + 0)))) ?_ (fun x2 gx2 => sl_pure (p_ix (k218 false) (.slot 21) [] 0 gx2))
     intro x2 gx2 h
     refine SWp.o 24 (.agg [.bool x2.Leaf, .sl false 3 1 (encs c3 x2.Kids)]) ?_ (sl_pure (p_le (k218 false) (.slot 21) [0] gx2))
     refine SWp.nil ?_
     refine LWp.cl h 25 (fun v1 => (B v1)) rfl (l := [.sv (.agg [.bool x1.Leaf, .sl false 3 1 (encs c3 x1.Kids)]), .sv (.agg [.bool x2.Leaf, .sl false 3 1 (encs c3 x2.Kids)])]) rfl (fun v hv => w_eqKnot_t x1 x2 v hv) (.inl rfl) ?_
     intro v1 gv1 h
     refine LWp.o 26 (B (!v1)) ?_
     refine LWp.nil ?_
     refine Wp.c h (fun h => ?_) (fun h => ?_)
     · refine Wp.seq (Wp.region ?_)
       refine LWp.o 4 (B false) ?_
       refine LWp.nil ?_
       cases h
       replace h : some _ = some _ := hk1 _ rfl
       cases h
       exact Wp.ret ⟨.inr rfl, _, _, rfl, rfl⟩
     refine Wp.skip ?_
     refine Wp.region ?_
     refine LWp.o 15 (I yI1) ?_
     refine LWp.o 16 (I (ad yI1 1)) ?_
     refine LWp.o 5 (I (ad yI1 1)) ?_
     refine LWp.nil ?_
     cases h
     exact ⟨_, rfl, rfl, rfl⟩
   refine Wp.exit ?_
   cases h
   exact ⟨_, rfl, rfl, rfl⟩
 intro v2 h E hE
 refine nt_wp hE ?_
 change Wp _ _ _ w_eqKnotS_H2 _
 refine Wp.seq (Wp.region ?_)
 refine LWp.o 4 (B true) ?_
 refine LWp.nil ?_
 cases h
 exact Wp.ret ⟨.inr rfl, _, _, rfl, rfl⟩
theorem w_eqArena_t (xA : Arena) (xB : Arena) (r : Bool) (h : w_eqArena xA xB = some r) : Gives Tryz.prog 95 [.sv (.agg [.sl false 218 2 (encs (c218 false) xA.Knots)]), .sv (.agg [.sl false 218 2 (encs (c218 false) xB.Knots)])] (B r) (List.replicate 2 .gone) := by
 unfold w_eqArena at h
 refine gives_of Tryz.func95 rfl ?_
 rw [Tryz.ntmps95]
 refine Wp.seq (Wp.region ?_)
 refine LWp.b [] 2 [.sl false 218 2 (encs (c218 false) xA.Knots)] ?_
 refine LWp.b [] 3 [.sl false 218 2 (encs (c218 false) xB.Knots)] ?_
 refine LWp.o 4 (B false) ?_
 refine LWp.nil ?_
 refine Wp.seq ?_
 refine Wp.seq (Wp.region ?_)
 refine LWp.o 5 (.one (.ptr (.box 2) 1 [] 0)) ?_
 refine LWp.o 6 (.one (.sl false 218 2 (encs (c218 false) xA.Knots))) ?_
 refine LWp.o 7 (.one (.ptr (.box 3) 1 [] 0)) ?_
 refine LWp.o 8 (.one (.sl false 218 2 (encs (c218 false) xB.Knots))) ?_
 refine LWp.cl h 9 (fun v1 => (B v1)) rfl (l := [.sv (.one (.sl false 218 2 (encs (c218 false) xA.Knots))), .sv (.one (.sl false 218 2 (encs (c218 false) xB.Knots)))]) rfl (fun v hv => w_eqKnotS_t xA.Knots xB.Knots v hv) (.inl rfl) ?_
 intro v1 gv1 h
 refine LWp.o 10 (B (!v1)) ?_
 refine LWp.nil ?_
 refine Wp.c h (fun h => ?_) (fun h => ?_)
 · refine Wp.seq (Wp.region ?_)
   refine LWp.o 4 (B false) ?_
   refine LWp.nil ?_
   cases h
   exact Wp.ret ⟨.inr rfl, _, _, rfl, rfl⟩
 refine Wp.skip ?_
 refine Wp.seq (Wp.region ?_)
 refine LWp.o 4 (B true) ?_
 refine LWp.nil ?_
 cases h
 exact Wp.ret ⟨.inr rfl, _, _, rfl, rfl⟩
theorem w_eqStore_t (xA : Store) (xB : Store) (r : Bool) (h : w_eqStore xA xB = some r) : Gives Tryz.prog 49 [.sv (.agg [.sl false 110 2 (encs c110 xA.Vols), .sl false 218 2 (encs (c218 false) xA.Arena.Knots), .int .i64 xA.Next]), .sv (.agg [.sl false 110 2 (encs c110 xB.Vols), .sl false 218 2 (encs (c218 false) xB.Arena.Knots), .int .i64 xB.Next])] (B r) (List.replicate 2 .gone) := by
 unfold w_eqStore at h
 refine gives_of Tryz.func49 rfl ?_
 rw [Tryz.ntmps49]
 refine Wp.seq (Wp.region ?_)
 refine LWp.b [] 2 [.sl false 110 2 (encs c110 xA.Vols), .sl false 218 2 (encs (c218 false) xA.Arena.Knots), .int .i64 xA.Next] ?_
 refine LWp.b [] 3 [.sl false 110 2 (encs c110 xB.Vols), .sl false 218 2 (encs (c218 false) xB.Arena.Knots), .int .i64 xB.Next] ?_
 refine LWp.o 4 (B false) ?_
 refine LWp.nil ?_
 refine Wp.seq ?_
 refine Wp.seq (Wp.region ?_)
 refine LWp.o 5 (.one (.ptr (.box 2) 1 [] 0)) ?_
 refine LWp.o 6 (.one (.sl false 110 2 (encs c110 xA.Vols))) ?_
 refine LWp.o 7 (.one (.ptr (.box 3) 1 [] 0)) ?_
 refine LWp.o 8 (.one (.sl false 110 2 (encs c110 xB.Vols))) ?_
 refine LWp.cl h 9 (fun v1 => (B v1)) rfl (l := [.sv (.one (.sl false 110 2 (encs c110 xA.Vols))), .sv (.one (.sl false 110 2 (encs c110 xB.Vols)))]) rfl (fun v hv => w_eqVolS_t xA.Vols xB.Vols v hv) (.inl rfl) ?_
 intro v1 gv1 h
 refine LWp.o 10 (B (!v1)) ?_
 refine LWp.nil ?_
 refine Wp.c h (fun h => ?_) (fun h => ?_)
 · refine Wp.seq (Wp.region ?_)
   refine LWp.o 4 (B false) ?_
   refine LWp.nil ?_
   cases h
   exact Wp.ret ⟨.inr rfl, _, _, rfl, rfl⟩
 refine Wp.skip ?_
 refine Wp.seq ?_
 refine Wp.seq (Wp.region ?_)
 refine LWp.o 11 (.one (.ptr (.box 2) 1 [] 1)) ?_
 refine LWp.o 12 (.agg [.sl false 218 2 (encs (c218 false) xA.Arena.Knots)]) ?_
 refine LWp.o 13 (.one (.ptr (.box 3) 1 [] 1)) ?_
 refine LWp.o 14 (.agg [.sl false 218 2 (encs (c218 false) xB.Arena.Knots)]) ?_
 refine LWp.cl h 15 (fun v2 => (B v2)) rfl (l := [.sv (.agg [.sl false 218 2 (encs (c218 false) xA.Arena.Knots)]), .sv (.agg [.sl false 218 2 (encs (c218 false) xB.Arena.Knots)])]) rfl (fun v hv => w_eqArena_t xA.Arena xB.Arena v hv) (.inl rfl) ?_
 intro v2 gv2 h
 refine LWp.o 16 (B (!v2)) ?_
 refine LWp.nil ?_
 refine Wp.c h (fun h => ?_) (fun h => ?_)
 · refine Wp.seq (Wp.region ?_)
   refine LWp.o 4 (B false) ?_
   refine LWp.nil ?_
   cases h
   exact Wp.ret ⟨.inr rfl, _, _, rfl, rfl⟩
 refine Wp.skip ?_
 refine Wp.seq ?_
 refine Wp.seq (Wp.region ?_)
 refine LWp.o 17 (.one (.ptr (.box 2) 1 [] 2)) ?_
 refine LWp.o 18 (I xA.Next) ?_
 refine LWp.o 19 (.one (.ptr (.box 3) 1 [] 2)) ?_
 refine LWp.o 20 (I xB.Next) ?_
 refine LWp.o 21 (B (xA.Next != xB.Next)) ?_
 refine LWp.nil ?_
 refine Wp.c h (fun h => ?_) (fun h => ?_)
 · refine Wp.seq (Wp.region ?_)
   refine LWp.o 4 (B false) ?_
   refine LWp.nil ?_
   cases h
   exact Wp.ret ⟨.inr rfl, _, _, rfl, rfl⟩
 refine Wp.skip ?_
 refine Wp.seq (Wp.region ?_)
 refine LWp.o 4 (B true) ?_
 refine LWp.nil ?_
 cases h
 exact Wp.ret ⟨.inr rfl, _, _, rfl, rfl⟩
set_option maxHeartbeats 4000000 in
theorem w_eqDevice_t (xA : Device) (xB : Device) (r : Bool) (h : w_eqDevice xA xB = some r) : Gives Tryz.prog 15 [.sv (.agg [.sl false 124 3 (encs (c124 false) xA.Flash.Blocks), .sl false 110 2 (encs c110 xA.Store.Vols), .sl false 218 2 (encs (c218 false) xA.Store.Arena.Knots), .int .i64 xA.Store.Next, .int .i64 xA.Seq, .int .i64 xA.Tx, .int .i64 xA.Base]), .sv (.agg [.sl false 124 3 (encs (c124 false) xB.Flash.Blocks), .sl false 110 2 (encs c110 xB.Store.Vols), .sl false 218 2 (encs (c218 false) xB.Store.Arena.Knots), .int .i64 xB.Store.Next, .int .i64 xB.Seq, .int .i64 xB.Tx, .int .i64 xB.Base])] (B r) (List.replicate 2 .gone) := by
 unfold w_eqDevice at h
 refine gives_of Tryz.func15 rfl ?_
 rw [Tryz.ntmps15]
 refine Wp.seq (Wp.region ?_)
 refine LWp.b [] 2 [.sl false 124 3 (encs (c124 false) xA.Flash.Blocks), .sl false 110 2 (encs c110 xA.Store.Vols), .sl false 218 2 (encs (c218 false) xA.Store.Arena.Knots), .int .i64 xA.Store.Next, .int .i64 xA.Seq, .int .i64 xA.Tx, .int .i64 xA.Base] ?_
 refine LWp.b [] 3 [.sl false 124 3 (encs (c124 false) xB.Flash.Blocks), .sl false 110 2 (encs c110 xB.Store.Vols), .sl false 218 2 (encs (c218 false) xB.Store.Arena.Knots), .int .i64 xB.Store.Next, .int .i64 xB.Seq, .int .i64 xB.Tx, .int .i64 xB.Base] ?_
 refine LWp.o 4 (B false) ?_
 refine LWp.nil ?_
 refine Wp.seq ?_
 refine Wp.seq (Wp.region ?_)
 refine LWp.o 5 (.one (.ptr (.box 2) 1 [] 0)) ?_
 refine LWp.o 6 (.agg [.sl false 124 3 (encs (c124 false) xA.Flash.Blocks)]) ?_
 refine LWp.o 7 (.one (.ptr (.box 3) 1 [] 0)) ?_
 refine LWp.o 8 (.agg [.sl false 124 3 (encs (c124 false) xB.Flash.Blocks)]) ?_
 refine LWp.cl h 9 (fun v1 => (B v1)) rfl (l := [.sv (.agg [.sl false 124 3 (encs (c124 false) xA.Flash.Blocks)]), .sv (.agg [.sl false 124 3 (encs (c124 false) xB.Flash.Blocks)])]) rfl (fun v hv => w_eqFlash_t xA.Flash xB.Flash v hv) (.inl rfl) ?_
 intro v1 gv1 h
 refine LWp.o 10 (B (!v1)) ?_
 refine LWp.nil ?_
 refine Wp.c h (fun h => ?_) (fun h => ?_)
 · refine Wp.seq (Wp.region ?_)
   refine LWp.o 4 (B false) ?_
   refine LWp.nil ?_
   cases h
   exact Wp.ret ⟨.inr rfl, _, _, rfl, rfl⟩
 refine Wp.skip ?_
 refine Wp.seq ?_
 refine Wp.seq (Wp.region ?_)
 refine LWp.o 11 (.one (.ptr (.box 2) 1 [] 1)) ?_
 refine LWp.o 12 (.agg [.sl false 110 2 (encs c110 xA.Store.Vols), .sl false 218 2 (encs (c218 false) xA.Store.Arena.Knots), .int .i64 xA.Store.Next]) ?_
 refine LWp.o 13 (.one (.ptr (.box 3) 1 [] 1)) ?_
 refine LWp.o 14 (.agg [.sl false 110 2 (encs c110 xB.Store.Vols), .sl false 218 2 (encs (c218 false) xB.Store.Arena.Knots), .int .i64 xB.Store.Next]) ?_
 refine LWp.cl h 15 (fun v2 => (B v2)) rfl (l := [.sv (.agg [.sl false 110 2 (encs c110 xA.Store.Vols), .sl false 218 2 (encs (c218 false) xA.Store.Arena.Knots), .int .i64 xA.Store.Next]), .sv (.agg [.sl false 110 2 (encs c110 xB.Store.Vols), .sl false 218 2 (encs (c218 false) xB.Store.Arena.Knots), .int .i64 xB.Store.Next])]) rfl (fun v hv => w_eqStore_t xA.Store xB.Store v hv) (.inl rfl) ?_
 intro v2 gv2 h
 refine LWp.o 16 (B (!v2)) ?_
 refine LWp.nil ?_
 refine Wp.c h (fun h => ?_) (fun h => ?_)
 · refine Wp.seq (Wp.region ?_)
   refine LWp.o 4 (B false) ?_
   refine LWp.nil ?_
   cases h
   exact Wp.ret ⟨.inr rfl, _, _, rfl, rfl⟩
 refine Wp.skip ?_
 refine Wp.seq ?_
 refine Wp.seq (Wp.region ?_)
 refine LWp.o 17 (.one (.ptr (.box 2) 1 [] 4)) ?_
 refine LWp.o 18 (I xA.Seq) ?_
 refine LWp.o 19 (.one (.ptr (.box 3) 1 [] 4)) ?_
 refine LWp.o 20 (I xB.Seq) ?_
 refine LWp.o 21 (B (xA.Seq != xB.Seq)) ?_
 refine LWp.nil ?_
 refine Wp.c h (fun h => ?_) (fun h => ?_)
 · refine Wp.seq (Wp.region ?_)
   refine LWp.o 4 (B false) ?_
   refine LWp.nil ?_
   cases h
   exact Wp.ret ⟨.inr rfl, _, _, rfl, rfl⟩
 refine Wp.skip ?_
 refine Wp.seq ?_
 refine Wp.seq (Wp.region ?_)
 refine LWp.o 22 (.one (.ptr (.box 2) 1 [] 5)) ?_
 refine LWp.o 23 (I xA.Tx) ?_
 refine LWp.o 24 (.one (.ptr (.box 3) 1 [] 5)) ?_
 refine LWp.o 25 (I xB.Tx) ?_
 refine LWp.o 26 (B (xA.Tx != xB.Tx)) ?_
 refine LWp.nil ?_
 refine Wp.c h (fun h => ?_) (fun h => ?_)
 · refine Wp.seq (Wp.region ?_)
   refine LWp.o 4 (B false) ?_
   refine LWp.nil ?_
   cases h
   exact Wp.ret ⟨.inr rfl, _, _, rfl, rfl⟩
 refine Wp.skip ?_
 refine Wp.seq ?_
 refine Wp.seq (Wp.region ?_)
 refine LWp.o 27 (.one (.ptr (.box 2) 1 [] 6)) ?_
 refine LWp.o 28 (I xA.Base) ?_
 refine LWp.o 29 (.one (.ptr (.box 3) 1 [] 6)) ?_
 refine LWp.o 30 (I xB.Base) ?_
 refine LWp.o 31 (B (xA.Base != xB.Base)) ?_
 refine LWp.nil ?_
 refine Wp.c h (fun h => ?_) (fun h => ?_)
 · refine Wp.seq (Wp.region ?_)
   refine LWp.o 4 (B false) ?_
   refine LWp.nil ?_
   cases h
   exact Wp.ret ⟨.inr rfl, _, _, rfl, rfl⟩
 refine Wp.skip ?_
 refine Wp.seq (Wp.region ?_)
 refine LWp.o 4 (B true) ?_
 refine LWp.nil ?_
 cases h
 exact Wp.ret ⟨.inr rfl, _, _, rfl, rfl⟩
theorem w_eqRec_t (xA : Rec) (xB : Rec) (r : Bool) (h : w_eqRec xA xB = some r) : Gives Tryz.prog 50 [.sv (.agg [.int .i64 xA.Kind, .int .i64 xA.Vol, .int .i64 xA.Arg, .int .i64 xA.Chunk]), .sv (.agg [.int .i64 xB.Kind, .int .i64 xB.Vol, .int .i64 xB.Arg, .int .i64 xB.Chunk])] (B r) (List.replicate 2 .gone) := by
 unfold w_eqRec at h
 refine gives_of Tryz.func50 rfl ?_
 rw [Tryz.ntmps50]
 refine Wp.seq (Wp.region ?_)
 refine LWp.b [] 2 [.int .i64 xA.Kind, .int .i64 xA.Vol, .int .i64 xA.Arg, .int .i64 xA.Chunk] ?_
 refine LWp.b [] 3 [.int .i64 xB.Kind, .int .i64 xB.Vol, .int .i64 xB.Arg, .int .i64 xB.Chunk] ?_
 refine LWp.o 4 (B false) ?_
 refine LWp.nil ?_
 refine Wp.seq ?_
 refine Wp.seq (Wp.region ?_)
 refine LWp.o 5 (.one (.ptr (.box 2) 1 [] 0)) ?_
 refine LWp.o 6 (I xA.Kind) ?_
 refine LWp.o 7 (.one (.ptr (.box 3) 1 [] 0)) ?_
 refine LWp.o 8 (I xB.Kind) ?_
 refine LWp.o 9 (B (xA.Kind != xB.Kind)) ?_
 refine LWp.nil ?_
 refine Wp.c h (fun h => ?_) (fun h => ?_)
 · refine Wp.seq (Wp.region ?_)
   refine LWp.o 4 (B false) ?_
   refine LWp.nil ?_
   cases h
   exact Wp.ret ⟨.inr rfl, _, _, rfl, rfl⟩
 refine Wp.skip ?_
 refine Wp.seq ?_
 refine Wp.seq (Wp.region ?_)
 refine LWp.o 10 (.one (.ptr (.box 2) 1 [] 1)) ?_
 refine LWp.o 11 (I xA.Vol) ?_
 refine LWp.o 12 (.one (.ptr (.box 3) 1 [] 1)) ?_
 refine LWp.o 13 (I xB.Vol) ?_
 refine LWp.o 14 (B (xA.Vol != xB.Vol)) ?_
 refine LWp.nil ?_
 refine Wp.c h (fun h => ?_) (fun h => ?_)
 · refine Wp.seq (Wp.region ?_)
   refine LWp.o 4 (B false) ?_
   refine LWp.nil ?_
   cases h
   exact Wp.ret ⟨.inr rfl, _, _, rfl, rfl⟩
 refine Wp.skip ?_
 refine Wp.seq ?_
 refine Wp.seq (Wp.region ?_)
 refine LWp.o 15 (.one (.ptr (.box 2) 1 [] 2)) ?_
 refine LWp.o 16 (I xA.Arg) ?_
 refine LWp.o 17 (.one (.ptr (.box 3) 1 [] 2)) ?_
 refine LWp.o 18 (I xB.Arg) ?_
 refine LWp.o 19 (B (xA.Arg != xB.Arg)) ?_
 refine LWp.nil ?_
 refine Wp.c h (fun h => ?_) (fun h => ?_)
 · refine Wp.seq (Wp.region ?_)
   refine LWp.o 4 (B false) ?_
   refine LWp.nil ?_
   cases h
   exact Wp.ret ⟨.inr rfl, _, _, rfl, rfl⟩
 refine Wp.skip ?_
 refine Wp.seq ?_
 refine Wp.seq (Wp.region ?_)
 refine LWp.o 20 (.one (.ptr (.box 2) 1 [] 3)) ?_
 refine LWp.o 21 (I xA.Chunk) ?_
 refine LWp.o 22 (.one (.ptr (.box 3) 1 [] 3)) ?_
 refine LWp.o 23 (I xB.Chunk) ?_
 refine LWp.o 24 (B (xA.Chunk != xB.Chunk)) ?_
 refine LWp.nil ?_
 refine Wp.c h (fun h => ?_) (fun h => ?_)
 · refine Wp.seq (Wp.region ?_)
   refine LWp.o 4 (B false) ?_
   refine LWp.nil ?_
   cases h
   exact Wp.ret ⟨.inr rfl, _, _, rfl, rfl⟩
 refine Wp.skip ?_
 refine Wp.seq (Wp.region ?_)
 refine LWp.o 4 (B true) ?_
 refine LWp.nil ?_
 cases h
 exact Wp.ret ⟨.inr rfl, _, _, rfl, rfl⟩
end Go.TI
