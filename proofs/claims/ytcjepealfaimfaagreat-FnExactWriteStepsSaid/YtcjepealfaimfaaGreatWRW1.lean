/- That they compute it. No condition. -/
import Derived.Test.YtcjepealfaimfaaGreatWRW0
namespace Go.TI
set_option maxRecDepth 100000
open Go Go.Proofs
set_option linter.unusedVariables false
set_option linter.unusedSimpArgs false

theorem s_l05May_t (xF : Flash) (xB : Int) (xLeaf : Int) (xText : ByteArray) (r : Bool) (h : s_l05May xF xB xLeaf xText = some r) : Gives Tryz.prog 169 [.sv (.agg [.sl false 124 3 (encs (c124 false) xF.Blocks)]), .sv (I xB), .sv (I xLeaf), .sv (Y xText)] (B r) (List.replicate 4 .gone) := by
 unfold s_l05May at h
 refine gives_of Tryz.func169 rfl ?_
 rw [Tryz.ntmps169]
 refine Wp.seq (Wp.region ?_)
 refine LWp.b [] 4 [.sl false 124 3 (encs (c124 false) xF.Blocks)] ?_
 refine LWp.o 8 (B false) ?_
 refine LWp.nil ?_
 refine Wp.seq (Wp.region ?_)
 refine LWp.o 9 (I xB) ?_
 refine LWp.o 10 (.one (.ptr (.box 4) 1 [] 0)) ?_
 refine LWp.o 11 (.one (.sl false 124 3 (encs (c124 false) xF.Blocks))) ?_
 refine LWp.o 12 (I (ln xF.Blocks)) ?_ (st_pure (p_ln (k124 false) xF.Blocks))
 refine LWp.o 13 (I (sb (ln xF.Blocks) 1)) ?_
 refine LWp.cl h 14 (fun v1 => (B v1)) rfl (l := [.sv (.one (.int .i64 xB)), .sv (.one (.int .i64 0)), .sv (.one (.int .i64 (sb (ln xF.Blocks) 1)))]) rfl (fun v hv => s_l01In_t xB 0 (sb (ln xF.Blocks) 1) v hv) (.inl rfl) ?_
 intro v1 gv1 h
 refine LWp.o 15 (B v1) ?_
 refine LWp.sp h 15 (fun h => ?_) (fun h => ?_)
 · refine LWp.o 16 (.one (.ptr (.box 4) 1 [] 0)) ?_
   refine LWp.o 17 (.one (.sl false 124 3 (encs (c124 false) xF.Blocks))) ?_
   refine LWp.o 18 (I xB) ?_
   refine LWp.p h 19 (fun _ => (.one (.ptr (.slot 17) 1 [0] (Int.toNat xB * 3 + 0)))) ?_ (fun x1 gx1 => st_pure (p_ix (k124 false) (.slot 17) [] 0 gx1))
   intro x1 gx1 h
   refine LWp.o 20 (.one (.ptr (.slot 17) 1 [0] (Int.toNat xB * 3 + 0))) ?_ (st_pure (p_fa (k124 false) (.slot 17) [0] 0 gx1))
   refine LWp.o 21 (B x1.Bad) ?_ (st_pure (p_lc (k124 false) (.slot 17) [0] 0 (.bool x1.Bad) gx1))
   refine LWp.o 22 (B (!x1.Bad)) ?_
   refine LWp.o 23 (B (!x1.Bad)) ?_
   refine LWp.o 24 (B (!x1.Bad)) ?_
   refine LWp.sp h 24 (fun h => ?_) (fun h => ?_)
   · refine LWp.o 25 (I xLeaf) ?_
     refine LWp.o 26 (B (decide (xLeaf < 4))) ?_
     refine LWp.o 27 (B (decide (xLeaf < 4))) ?_
     refine LWp.o 28 (B (decide (xLeaf < 4))) ?_
     refine LWp.sp h 28 (fun h => ?_) (fun h => ?_)
     · refine LWp.o 29 (I xLeaf) ?_
       refine LWp.o 30 (.one (.ptr (.box 4) 1 [] 0)) ?_
       refine LWp.o 31 (.one (.sl false 124 3 (encs (c124 false) xF.Blocks))) ?_
       refine LWp.o 32 (I xB) ?_
       refine LWp.p h 33 (fun _ => (.one (.ptr (.slot 31) 1 [0] (Int.toNat xB * 3 + 0)))) ?_ (fun x2 gx2 => st_pure (p_ix (k124 false) (.slot 31) [] 0 gx2))
       intro x2 gx2 h
       refine LWp.o 34 (.agg [.bool x2.Bad, .int .i64 x2.Wear, .sl false 165 2 (encs c165 x2.Leaves)]) ?_ (st_pure (p_le (k124 false) (.slot 31) [0] gx2))
       refine LWp.cl h 35 (fun v2 => (I v2)) rfl (l := [.sv (.agg [.bool x2.Bad, .int .i64 x2.Wear, .sl false 165 2 (encs c165 x2.Leaves)])]) rfl (fun v hv => s_NextBlank_t x2 v hv) (.inl rfl) ?_
       intro v2 gv2 h
       refine LWp.o 36 (B (xLeaf == v2)) ?_
       refine LWp.o 37 (B (xLeaf == v2)) ?_
       refine LWp.o 38 (B (xLeaf == v2)) ?_
       refine LWp.sp h 38 (fun h => ?_) (fun h => ?_)
       · refine LWp.o 39 (Y xText) ?_
         refine LWp.o 40 (I (sln xText)) ?_
         refine LWp.cl h 41 (fun v3 => (B v3)) rfl (l := [.sv (.one (.int .i64 (sln xText))), .sv (.one (.int .i64 1)), .sv (.one (.int .i64 120))]) rfl (fun v hv => s_l01In_t (sln xText) 1 120 v hv) (.inl rfl) ?_
         intro v3 gv3 h
         refine LWp.o 42 (B v3) ?_
         refine LWp.o 8 (B v3) ?_
         refine LWp.nil ?_
         cases h
         exact Wp.ret ⟨.inr rfl, _, _, rfl, rfl⟩
       refine LWp.sh 39 ?_
       refine LWp.sh 40 ?_
       refine LWp.sh 41 ?_
       refine LWp.o 42 (B false) ?_
       refine LWp.o 8 (B false) ?_
       refine LWp.nil ?_
       cases h
       exact Wp.ret ⟨.inr rfl, _, _, rfl, rfl⟩
     refine LWp.sh 29 ?_
     refine LWp.sh 30 ?_
     refine LWp.sh 31 ?_
     refine LWp.sh 32 ?_
     refine LWp.sh 33 ?_
     refine LWp.sh 34 ?_
     refine LWp.sh 35 ?_
     refine LWp.sh 36 ?_
     refine LWp.o 37 (B false) ?_
     refine LWp.o 38 (B false) ?_
     refine LWp.sh 39 ?_
     refine LWp.sh 40 ?_
     refine LWp.sh 41 ?_
     refine LWp.o 42 (B false) ?_
     refine LWp.o 8 (B false) ?_
     refine LWp.nil ?_
     cases h
     exact Wp.ret ⟨.inr rfl, _, _, rfl, rfl⟩
   refine LWp.sh 25 ?_
   refine LWp.sh 26 ?_
   refine LWp.o 27 (B false) ?_
   refine LWp.o 28 (B false) ?_
   refine LWp.sh 29 ?_
   refine LWp.sh 30 ?_
   refine LWp.sh 31 ?_
   refine LWp.sh 32 ?_
   refine LWp.sh 33 ?_
   refine LWp.sh 34 ?_
   refine LWp.sh 35 ?_
   refine LWp.sh 36 ?_
   refine LWp.o 37 (B false) ?_
   refine LWp.o 38 (B false) ?_
   refine LWp.sh 39 ?_
   refine LWp.sh 40 ?_
   refine LWp.sh 41 ?_
   refine LWp.o 42 (B false) ?_
   refine LWp.o 8 (B false) ?_
   refine LWp.nil ?_
   cases h
   exact Wp.ret ⟨.inr rfl, _, _, rfl, rfl⟩
 refine LWp.sh 16 ?_
 refine LWp.sh 17 ?_
 refine LWp.sh 18 ?_
 refine LWp.sh 19 ?_
 refine LWp.sh 20 ?_
 refine LWp.sh 21 ?_
 refine LWp.sh 22 ?_
 refine LWp.o 23 (B false) ?_
 refine LWp.o 24 (B false) ?_
 refine LWp.sh 25 ?_
 refine LWp.sh 26 ?_
 refine LWp.o 27 (B false) ?_
 refine LWp.o 28 (B false) ?_
 refine LWp.sh 29 ?_
 refine LWp.sh 30 ?_
 refine LWp.sh 31 ?_
 refine LWp.sh 32 ?_
 refine LWp.sh 33 ?_
 refine LWp.sh 34 ?_
 refine LWp.sh 35 ?_
 refine LWp.sh 36 ?_
 refine LWp.o 37 (B false) ?_
 refine LWp.o 38 (B false) ?_
 refine LWp.sh 39 ?_
 refine LWp.sh 40 ?_
 refine LWp.sh 41 ?_
 refine LWp.o 42 (B false) ?_
 refine LWp.o 8 (B false) ?_
 refine LWp.nil ?_
 cases h
 exact Wp.ret ⟨.inr rfl, _, _, rfl, rfl⟩
def s_Program_H1 (xB : Int) (xLeaf : Int) (xText : ByteArray) (v1 : Flash) (z1 : Bool) : St := mkSt [(1, (I xB)), (2, (I xLeaf)), (3, (Y xText)), (8, (.one (.ptr (.box 8) 0 [] 0))), (10, (.one (.ptr (.box 10) 0 [] 0))), (23, (B z1))] [(.box 8, [.sl true 124 3 (encs (c124 true) [])]), (.box 10, [.sl true 124 3 (encs (c124 true) v1.Blocks)])]
theorem s_Program_t (xF : Flash) (xB : Int) (xLeaf : Int) (xText : ByteArray) (r : Flash × Bool) (h : s_Program xF xB xLeaf xText = some r) : Gives Tryz.prog 127 [.sv (.agg [.sl false 124 3 (encs (c124 false) xF.Blocks)]), .sv (I xB), .sv (I xLeaf), .sv (Y xText)] (.tup [(.agg [.sl true 124 3 (encs (c124 true) r.1.Blocks)]), (B r.2)]) (List.replicate 4 .gone) := by
 unfold s_Program at h
 refine gives_of Tryz.func127 rfl ?_
 rw [Tryz.ntmps127]
 refine Wp.seq (Wp.region ?_)
 refine LWp.b [] 4 [.sl false 124 3 (encs (c124 false) xF.Blocks)] ?_
 refine LWp.b [] 8 [.sl true 124 3 (encs (c124 true) [])] ?_
 refine LWp.o 9 (B false) ?_
 refine LWp.nil ?_
 refine Wp.seq (Wp.region ?_)
 refine LWp.o 11 (.agg [.sl false 124 3 (encs (c124 false) xF.Blocks)]) ?_
 refine LWp.cl h 12 (fun v1 => (.agg [.sl true 124 3 (encs (c124 true) v1.Blocks)])) rfl (l := [.sv (.agg [.sl false 124 3 (encs (c124 false) xF.Blocks)])]) rfl (fun v hv => s_l05Copy_t xF v hv) (.inl rfl) ?_
 intro v1 gv1 h
 refine LWp.b [] 10 [.sl true 124 3 (encs (c124 true) [])] ?_
 refine LWp.sb [(.slot 12, [.junk])] (.box 10) [.sl true 124 3 (encs (c124 true) v1.Blocks)] ?_
 refine LWp.nil ?_
 refine Wp.seq ?_
 refine Wp.seq ?_
 refine Wp.j1 h [1, 2, 3, 8, 10, 23] [.box 8, .box 10] (fun a => (s_Program_H1 xB xLeaf xText v1 a)) ?_ ?_
 · intro a h
   refine Wp.region ?_
   refine LWp.o 13 (.agg [.sl false 124 3 (encs (c124 false) xF.Blocks)]) ?_
   refine LWp.cl h 14 (fun v2 => (B v2)) rfl (l := [.sv (.agg [.sl false 124 3 (encs (c124 false) xF.Blocks)])]) rfl (fun v hv => s_FlashOk_t xF v hv) (.inl rfl) ?_
   intro v2 gv2 h
   refine LWp.o 15 (B (!v2)) ?_
   refine LWp.o 16 (B (!v2)) ?_
   refine LWp.sp h 16 (fun h => ?_) (fun h => ?_)
   · refine LWp.sh 17 ?_
     refine LWp.sh 18 ?_
     refine LWp.sh 19 ?_
     refine LWp.sh 20 ?_
     refine LWp.sh 21 ?_
     refine LWp.sh 22 ?_
     refine LWp.o 23 (B true) ?_
     refine LWp.nil ?_
     cases h
     exact ⟨_, rfl, rfl, rfl⟩
   refine LWp.o 17 (.agg [.sl false 124 3 (encs (c124 false) xF.Blocks)]) ?_
   refine LWp.o 18 (I xB) ?_
   refine LWp.o 19 (I xLeaf) ?_
   refine LWp.o 20 (Y xText) ?_
   refine LWp.cl h 21 (fun v3 => (B v3)) rfl (l := [.sv (.agg [.sl false 124 3 (encs (c124 false) xF.Blocks)]), .sv (.one (.int .i64 xB)), .sv (.one (.int .i64 xLeaf)), .sv (.one (.str xText))]) rfl (fun v hv => s_l05May_t xF xB xLeaf xText v hv) (.inl rfl) ?_
   intro v3 gv3 h
   refine LWp.o 22 (B (!v3)) ?_
   refine LWp.o 23 (B (!v3)) ?_
   refine LWp.nil ?_
   cases h
   exact ⟨_, rfl, rfl, rfl⟩
 intro j1 h E hE
 refine nt_wp hE ?_
 change Wp _ _ _ (s_Program_H1 xB xLeaf xText v1 j1) _
 refine Wp.c h (fun h => ?_) (fun h => ?_)
 · refine Wp.seq (Wp.region ?_)
   refine LWp.o 24 (.agg [.view (.box 10) 0 [] 0]) ?_
   refine LWp.sb [(.box 10, [.junk])] (.box 8) [.sl true 124 3 (encs (c124 true) v1.Blocks)] ?_
   refine LWp.o 9 (B false) ?_
   refine LWp.nil ?_
   cases h
   exact Wp.ret ⟨.inr rfl, _, _, rfl, rfl⟩
 refine Wp.skip ?_
 refine Wp.seq (Wp.region ?_)
 refine LWp.o 25 (.one (.ptr (.box 10) 0 [] 0)) ?_
 refine LWp.o 26 (.one (.view (.box 10) 0 [] 0)) ?_
 refine LWp.o 27 (I xB) ?_
 refine LWp.p h 28 (fun _ => (.one (.ptr (.box 10) 0 [0] (Int.toNat xB * 3 + 0)))) ?_ (fun x1 gx1 => st_pure (p_ix (k124 true) (.box 10) [] 0 gx1))
 intro x1 gx1 h
 refine LWp.o 29 (.one (.ptr (.box 10) 0 [0] (Int.toNat xB * 3 + 2))) ?_ (st_pure (p_fa (k124 true) (.box 10) [0] 0 gx1))
 refine LWp.o 30 (.one (.view (.box 10) 0 [0] (Int.toNat xB * 3 + 2))) ?_ (st_pure (p_lc (k124 true) (.box 10) [0] 2 (.sl true 165 2 (encs c165 x1.Leaves)) gx1))
 refine LWp.o 31 (I xLeaf) ?_
 refine LWp.o 32 (Y xText) ?_
 refine LWp.o 33 (.agg [.int .i64 1, .str xText]) ?_
 refine LWp.p h 34 (fun _ => (.one (.ptr (.box 10) 0 [0, (Int.toNat xB * 3 + 2)] (Int.toNat xLeaf * 2 + 0)))) ?_ (fun x2 gx2 => st_pure (p_ix k165 (.box 10) [0] (Int.toNat xB * 3 + 2) gx2 (hp := gi_cellb (k124 true) gx1)))
 intro x2 gx2 h
 refine LWp.sb [] (.box 10) [.sl true 124 3 (encs (c124 true) (si v1.Blocks xB (Block.mk x1.Bad x1.Wear (si x1.Leaves xLeaf (Leaf.mk 1 xText)))))] ?_ (s_st [] (q := [0, (Int.toNat xB * 3 + 2)]) (cs := [.sl true 124 3 (encs (c124 true) v1.Blocks)]) (xs := [.int .i64 1, .str xText]) (At.el (k124 true) (k := 2) (z := (Block.mk x1.Bad x1.Wear (si x1.Leaves xLeaf (Leaf.mk 1 xText)))) gx1 (At.one (setRow_gi k165 (k := 0) (z := (Leaf.mk 1 xText)) gx2 rfl rfl))) (fit_gi k165 (k := 0) gx2 rfl))
 refine LWp.nil ?_
 refine Wp.seq (Wp.region ?_)
 refine LWp.o 35 (.agg [.view (.box 10) 1 [] 0]) ?_
 refine LWp.sb [(.box 10, [.junk])] (.box 8) [.sl true 124 3 (encs (c124 true) (si v1.Blocks xB (Block.mk x1.Bad x1.Wear (si x1.Leaves xLeaf (Leaf.mk 1 xText)))))] ?_
 refine LWp.o 9 (B true) ?_
 refine LWp.nil ?_
 cases h
 exact Wp.ret ⟨.inr rfl, _, _, rfl, rfl⟩
def s_Wipe_H1 (xF : Flash) (xB : Int) (v1 : Flash) (z1 : Bool) : St := mkSt [(1, (I xB)), (2, (.one (.ptr (.box 2) 0 [] 0))), (4, (.one (.ptr (.box 4) 0 [] 0))), (6, (.one (.ptr (.box 6) 0 [] 0))), (37, (B z1))] [(.box 2, [.sl false 124 3 (encs (c124 false) xF.Blocks)]), (.box 4, [.sl true 124 3 (encs (c124 true) [])]), (.box 6, [.sl true 124 3 (encs (c124 true) v1.Blocks)])]
theorem s_Wipe_t (xF : Flash) (xB : Int) (r : Flash × Bool) (h : s_Wipe xF xB = some r) : Gives Tryz.prog 128 [.sv (.agg [.sl false 124 3 (encs (c124 false) xF.Blocks)]), .sv (I xB)] (.tup [(.agg [.sl true 124 3 (encs (c124 true) r.1.Blocks)]), (B r.2)]) (List.replicate 2 .gone) := by
 unfold s_Wipe at h
 refine gives_of Tryz.func128 rfl ?_
 rw [Tryz.ntmps128]
 refine Wp.seq (Wp.region ?_)
 refine LWp.b [] 2 [.sl false 124 3 (encs (c124 false) xF.Blocks)] ?_
 refine LWp.b [] 4 [.sl true 124 3 (encs (c124 true) [])] ?_
 refine LWp.o 5 (B false) ?_
 refine LWp.nil ?_
 refine Wp.seq (Wp.region ?_)
 refine LWp.o 7 (.agg [.sl false 124 3 (encs (c124 false) xF.Blocks)]) ?_
 refine LWp.cl h 8 (fun v1 => (.agg [.sl true 124 3 (encs (c124 true) v1.Blocks)])) rfl (l := [.sv (.agg [.sl false 124 3 (encs (c124 false) xF.Blocks)])]) rfl (fun v hv => s_l05Copy_t xF v hv) (.inl rfl) ?_
 intro v1 gv1 h
 refine LWp.b [] 6 [.sl true 124 3 (encs (c124 true) [])] ?_
 refine LWp.sb [(.slot 8, [.junk])] (.box 6) [.sl true 124 3 (encs (c124 true) v1.Blocks)] ?_
 refine LWp.nil ?_
 refine Wp.seq ?_
 refine Wp.seq ?_
 refine Wp.j1 h [1, 2, 4, 6, 37] [.box 2, .box 4, .box 6] (fun a => (s_Wipe_H1 xF xB v1 a)) ?_ ?_
 · intro a h
   refine Wp.region ?_
   refine LWp.o 9 (.agg [.sl false 124 3 (encs (c124 false) xF.Blocks)]) ?_
   refine LWp.cl h 10 (fun v2 => (B v2)) rfl (l := [.sv (.agg [.sl false 124 3 (encs (c124 false) xF.Blocks)])]) rfl (fun v hv => s_FlashOk_t xF v hv) (.inl rfl) ?_
   intro v2 gv2 h
   refine LWp.o 11 (B (!v2)) ?_
   refine LWp.o 12 (B (!v2)) ?_
   refine LWp.sp h 12 (fun h => ?_) (fun h => ?_)
   · refine LWp.sh 13 ?_
     refine LWp.sh 14 ?_
     refine LWp.sh 15 ?_
     refine LWp.sh 16 ?_
     refine LWp.sh 17 ?_
     refine LWp.sh 18 ?_
     refine LWp.sh 19 ?_
     refine LWp.o 20 (B true) ?_
     refine LWp.o 21 (B true) ?_
     refine LWp.sh 22 ?_
     refine LWp.sh 23 ?_
     refine LWp.sh 24 ?_
     refine LWp.sh 25 ?_
     refine LWp.sh 26 ?_
     refine LWp.sh 27 ?_
     refine LWp.o 28 (B true) ?_
     refine LWp.o 29 (B true) ?_
     refine LWp.sh 30 ?_
     refine LWp.sh 31 ?_
     refine LWp.sh 32 ?_
     refine LWp.sh 33 ?_
     refine LWp.sh 34 ?_
     refine LWp.sh 35 ?_
     refine LWp.sh 36 ?_
     refine LWp.o 37 (B true) ?_
     refine LWp.nil ?_
     cases h
     exact ⟨_, rfl, rfl, rfl⟩
   refine LWp.o 13 (I xB) ?_
   refine LWp.o 14 (.one (.ptr (.box 2) 1 [] 0)) ?_
   refine LWp.o 15 (.one (.sl false 124 3 (encs (c124 false) xF.Blocks))) ?_
   refine LWp.o 16 (I (ln xF.Blocks)) ?_ (st_pure (p_ln (k124 false) xF.Blocks))
   refine LWp.o 17 (I (sb (ln xF.Blocks) 1)) ?_
   refine LWp.cl h 18 (fun v3 => (B v3)) rfl (l := [.sv (.one (.int .i64 xB)), .sv (.one (.int .i64 0)), .sv (.one (.int .i64 (sb (ln xF.Blocks) 1)))]) rfl (fun v hv => s_l01In_t xB 0 (sb (ln xF.Blocks) 1) v hv) (.inl rfl) ?_
   intro v3 gv3 h
   refine LWp.o 19 (B (!v3)) ?_
   refine LWp.o 20 (B (!v3)) ?_
   refine LWp.o 21 (B (!v3)) ?_
   refine LWp.sp h 21 (fun h => ?_) (fun h => ?_)
   · refine LWp.sh 22 ?_
     refine LWp.sh 23 ?_
     refine LWp.sh 24 ?_
     refine LWp.sh 25 ?_
     refine LWp.sh 26 ?_
     refine LWp.sh 27 ?_
     refine LWp.o 28 (B true) ?_
     refine LWp.o 29 (B true) ?_
     refine LWp.sh 30 ?_
     refine LWp.sh 31 ?_
     refine LWp.sh 32 ?_
     refine LWp.sh 33 ?_
     refine LWp.sh 34 ?_
     refine LWp.sh 35 ?_
     refine LWp.sh 36 ?_
     refine LWp.o 37 (B true) ?_
     refine LWp.nil ?_
     cases h
     exact ⟨_, rfl, rfl, rfl⟩
   refine LWp.o 22 (.one (.ptr (.box 2) 1 [] 0)) ?_
   refine LWp.o 23 (.one (.sl false 124 3 (encs (c124 false) xF.Blocks))) ?_
   refine LWp.o 24 (I xB) ?_
   refine LWp.p h 25 (fun _ => (.one (.ptr (.slot 23) 1 [0] (Int.toNat xB * 3 + 0)))) ?_ (fun x1 gx1 => st_pure (p_ix (k124 false) (.slot 23) [] 0 gx1))
   intro x1 gx1 h
   refine LWp.o 26 (.one (.ptr (.slot 23) 1 [0] (Int.toNat xB * 3 + 0))) ?_ (st_pure (p_fa (k124 false) (.slot 23) [0] 0 gx1))
   refine LWp.o 27 (B x1.Bad) ?_ (st_pure (p_lc (k124 false) (.slot 23) [0] 0 (.bool x1.Bad) gx1))
   refine LWp.o 28 (B x1.Bad) ?_
   refine LWp.o 29 (B x1.Bad) ?_
   refine LWp.sp h 29 (fun h => ?_) (fun h => ?_)
   · refine LWp.sh 30 ?_
     refine LWp.sh 31 ?_
     refine LWp.sh 32 ?_
     refine LWp.sh 33 ?_
     refine LWp.sh 34 ?_
     refine LWp.sh 35 ?_
     refine LWp.sh 36 ?_
     refine LWp.o 37 (B true) ?_
     refine LWp.nil ?_
     cases h
     exact ⟨_, rfl, rfl, rfl⟩
   refine LWp.o 30 (.one (.ptr (.box 2) 1 [] 0)) ?_
   refine LWp.o 31 (.one (.sl false 124 3 (encs (c124 false) xF.Blocks))) ?_
   refine LWp.o 32 (I xB) ?_
   refine LWp.p h 33 (fun _ => (.one (.ptr (.slot 31) 1 [0] (Int.toNat xB * 3 + 0)))) ?_ (fun x2 gx2 => st_pure (p_ix (k124 false) (.slot 31) [] 0 gx2))
   intro x2 gx2 h
   refine LWp.o 34 (.one (.ptr (.slot 31) 1 [0] (Int.toNat xB * 3 + 1))) ?_ (st_pure (p_fa (k124 false) (.slot 31) [0] 0 gx2))
   refine LWp.o 35 (I x2.Wear) ?_ (st_pure (p_lc (k124 false) (.slot 31) [0] 1 (.int .i64 x2.Wear) gx2))
   refine LWp.o 36 (B (x2.Wear == 1000000000)) ?_
   refine LWp.o 37 (B (x2.Wear == 1000000000)) ?_
   refine LWp.nil ?_
   cases h
   exact ⟨_, rfl, rfl, rfl⟩
 intro j1 h E hE
 refine nt_wp hE ?_
 change Wp _ _ _ (s_Wipe_H1 xF xB v1 j1) _
 refine Wp.c h (fun h => ?_) (fun h => ?_)
 · refine Wp.seq (Wp.region ?_)
   refine LWp.o 38 (.agg [.view (.box 6) 0 [] 0]) ?_
   refine LWp.sb [(.box 6, [.junk])] (.box 4) [.sl true 124 3 (encs (c124 true) v1.Blocks)] ?_
   refine LWp.o 5 (B false) ?_
   refine LWp.nil ?_
   cases h
   exact Wp.ret ⟨.inr rfl, _, _, rfl, rfl⟩
 refine Wp.skip ?_
 refine Wp.seq ?_
 refine Wp.regionK 14 [13] mixed (fun c E h => by rcases h with ⟨h | h, _⟩ <;> cases h) ?_
 refine KWp.o 14 0 39 (.one (.ptr (.box 6) 0 [] 0)) ?_
 refine KWp.o 14 1 40 (.one (.view (.box 6) 0 [] 0)) ?_
 refine KWp.o 14 2 41 (I xB) ?_
 refine KWp.o 14 3 42 (.one (.ptr (.box 2) 0 [] 0)) ?_
 refine KWp.o 14 4 43 (.one (.sl false 124 3 (encs (c124 false) xF.Blocks))) ?_
 refine KWp.o 14 5 44 (I xB) ?_
 refine KWp.p h 14 6 45 (fun _ => (.one (.ptr (.slot 43) 1 [0] (Int.toNat xB * 3 + 0)))) ?_ rfl (fun x3 gx3 => sl_pure (p_ix (k124 false) (.slot 43) [] 0 gx3))
 intro x3 gx3 h
 refine KWp.o 14 7 46 (.one (.ptr (.slot 43) 1 [0] (Int.toNat xB * 3 + 1))) ?_ rfl (sl_pure (p_fa (k124 false) (.slot 43) [0] 0 gx3))
 refine KWp.o 14 8 47 (I x3.Wear) ?_ rfl (sl_pure (p_lc (k124 false) (.slot 43) [0] 1 (.int .i64 x3.Wear) gx3))
 refine KWp.o 14 9 48 (I (ad x3.Wear 1)) ?_
 refine KWp.w1 10 ?_
 refine KOp.p h 10 49 (fun q1 => (.one (.sl true 165 2 (encs c165 q1)))) ?_ rfl (fun q1 gq1 => s_mk (f := c165) (Leaf.mk 0 (bs [])) gq1)
 intro q1 gq1 h
 refine KWp.o 14 11 50 (.agg [.bool false, .int .i64 (ad x3.Wear 1), .view (.slot 49) 1 [] 0]) ?_
 refine KWp.p h 14 12 51 (fun _ => (.one (.ptr (.box 6) 0 [0] (Int.toNat xB * 3 + 0)))) ?_ rfl (fun x4 gx4 => sl_pure (p_ix (k124 true) (.box 6) [] 0 gx4))
 intro x4 gx4 h
 refine KWp.w1 13 ?_
 refine KOp.sb 13 [(.slot 49, [.junk])] (.box 6) [.sl true 124 3 (encs (c124 true) (si v1.Blocks xB (Block.mk false (ad x3.Wear 1) q1)))] ?_ rfl (s_st [(.slot 49, [.junk])] (q := [0]) (cs := [.sl true 124 3 (encs (c124 true) v1.Blocks)]) (xs := [.bool false, .int .i64 (ad x3.Wear 1), .sl true 165 2 (encs c165 q1)]) (At.one (setRow_gi (k124 true) (k := 0) (z := (Block.mk false (ad x3.Wear 1) q1)) gx4 rfl rfl)) (fit_gi (k124 true) (k := 0) gx4 rfl))
 refine KWp.done ?_
 refine Wp.seq (Wp.region ?_)
 refine LWp.o 52 (.agg [.view (.box 6) 1 [] 0]) ?_
 refine LWp.sb [(.box 6, [.junk])] (.box 4) [.sl true 124 3 (encs (c124 true) (si v1.Blocks xB (Block.mk false (ad x3.Wear 1) q1)))] ?_
 refine LWp.o 5 (B true) ?_
 refine LWp.nil ?_
 cases h
 exact Wp.ret ⟨.inr rfl, _, _, rfl, rfl⟩
theorem s_DoStep_t (xF : Flash) (xS : Step) (r : Flash × Bool) (h : s_DoStep xF xS = some r) : Gives Tryz.prog 82 [.sv (.agg [.sl false 124 3 (encs (c124 false) xF.Blocks)]), .sv (.agg [.int .i64 xS.Kind, .int .i64 xS.Block, .int .i64 xS.Leaf, .str xS.Text])] (.tup [(.agg [.sl true 124 3 (encs (c124 true) r.1.Blocks)]), (B r.2)]) (List.replicate 2 .gone) := by
 unfold s_DoStep at h
 refine gives_of Tryz.func82 rfl ?_
 rw [Tryz.ntmps82]
 refine Wp.seq (Wp.region ?_)
 refine LWp.b [] 2 [.sl false 124 3 (encs (c124 false) xF.Blocks)] ?_
 refine LWp.b [] 3 [.int .i64 xS.Kind, .int .i64 xS.Block, .int .i64 xS.Leaf, .str xS.Text] ?_
 refine LWp.b [] 4 [.sl true 124 3 (encs (c124 true) [])] ?_
 refine LWp.o 5 (B false) ?_
 refine LWp.nil ?_
 refine Wp.seq ?_
 refine Wp.seq (Wp.region ?_)
 refine LWp.o 6 (.one (.ptr (.box 3) 1 [] 0)) ?_
 refine LWp.o 7 (I xS.Kind) ?_
 refine LWp.nil ?_
 refine Wp.block ?_
 refine Wp.seq (Wp.region ?_)
 refine LWp.o 9 (B (xS.Kind == 1)) ?_
 refine LWp.o 8 (B (xS.Kind == 1)) ?_
 refine LWp.nil ?_
 refine Wp.c h (fun h => ?_) (fun h => ?_)
 · refine Wp.seq (Wp.region ?_)
   refine LWp.o 10 (.agg [.sl false 124 3 (encs (c124 false) xF.Blocks)]) ?_
   refine LWp.o 11 (.one (.ptr (.box 3) 1 [] 1)) ?_
   refine LWp.o 12 (I xS.Block) ?_
   refine LWp.o 13 (.one (.ptr (.box 3) 1 [] 2)) ?_
   refine LWp.o 14 (I xS.Leaf) ?_
   refine LWp.o 15 (.one (.ptr (.box 3) 1 [] 3)) ?_
   refine LWp.o 16 (Y xS.Text) ?_
   refine LWp.cl h 17 (fun v1 => (.tup [(.agg [.sl true 124 3 (encs (c124 true) v1.1.Blocks)]), (B v1.2)])) rfl (l := [.sv (.agg [.sl false 124 3 (encs (c124 false) xF.Blocks)]), .sv (.one (.int .i64 xS.Block)), .sv (.one (.int .i64 xS.Leaf)), .sv (.one (.str xS.Text))]) rfl (fun v hv => s_Program_t xF xS.Block xS.Leaf xS.Text v hv) (.inl rfl) ?_
   intro v1 gv1 h
   refine LWp.e 17 0 18 (.agg [.sl true 124 3 (encs (c124 true) v1.1.Blocks)]) ?_
   refine LWp.e 17 1 19 (B v1.2) ?_
   refine LWp.sb [(.slot 18, [.junk])] (.box 4) [.sl true 124 3 (encs (c124 true) v1.1.Blocks)] ?_
   refine LWp.o 5 (B v1.2) ?_
   refine LWp.nil ?_
   cases h
   exact Wp.ret ⟨.inr rfl, _, _, rfl, rfl⟩
 refine Wp.seq (Wp.region ?_)
 refine LWp.o 21 (B (xS.Kind == 2)) ?_
 refine LWp.o 20 (B (xS.Kind == 2)) ?_
 refine LWp.nil ?_
 refine Wp.c h (fun h => ?_) (fun h => ?_)
 · refine Wp.seq (Wp.region ?_)
   refine LWp.o 22 (.agg [.sl false 124 3 (encs (c124 false) xF.Blocks)]) ?_
   refine LWp.o 23 (.one (.ptr (.box 3) 1 [] 1)) ?_
   refine LWp.o 24 (I xS.Block) ?_
   refine LWp.cl h 25 (fun v2 => (.tup [(.agg [.sl true 124 3 (encs (c124 true) v2.1.Blocks)]), (B v2.2)])) rfl (l := [.sv (.agg [.sl false 124 3 (encs (c124 false) xF.Blocks)]), .sv (.one (.int .i64 xS.Block))]) rfl (fun v hv => s_Wipe_t xF xS.Block v hv) (.inl rfl) ?_
   intro v2 gv2 h
   refine LWp.e 25 0 26 (.agg [.sl true 124 3 (encs (c124 true) v2.1.Blocks)]) ?_
   refine LWp.e 25 1 27 (B v2.2) ?_
   refine LWp.sb [(.slot 26, [.junk])] (.box 4) [.sl true 124 3 (encs (c124 true) v2.1.Blocks)] ?_
   refine LWp.o 5 (B v2.2) ?_
   refine LWp.nil ?_
   cases h
   exact Wp.ret ⟨.inr rfl, _, _, rfl, rfl⟩
 refine Wp.skip ?_
 refine Wp.seq (Wp.region ?_)
 refine LWp.o 28 (.agg [.sl false 124 3 (encs (c124 false) xF.Blocks)]) ?_
 refine LWp.cl h 29 (fun v3 => (.agg [.sl true 124 3 (encs (c124 true) v3.Blocks)])) rfl (l := [.sv (.agg [.sl false 124 3 (encs (c124 false) xF.Blocks)])]) rfl (fun v hv => s_l05Copy_t xF v hv) (.inl rfl) ?_
 intro v3 gv3 h
 refine LWp.sb [(.slot 29, [.junk])] (.box 4) [.sl true 124 3 (encs (c124 true) v3.Blocks)] ?_
 refine LWp.o 5 (B false) ?_
 refine LWp.nil ?_
 cases h
 exact Wp.ret ⟨.inr rfl, _, _, rfl, rfl⟩
def c99 (x : Step) : List TV := [.int .i64 x.Kind, .int .i64 x.Block, .int .i64 x.Leaf, .str x.Text]
theorem k99 : ∀ x, (c99 x).length = 4 := fun _ => rfl
theorem sh99 : ∀ l, shares (encs c99 l) = encs c99 l := shares_encs (fun _ => rfl)
theorem ns99 : ∀ l, hasShareds (encs c99 l) = false := ns_encs (fun _ => rfl)
def s_l16Put_H1 (xF : Flash) (xSteps : List Step) (v1 : ByteArray × Bool) (v2 : Int × Int × Bool) (z1 : Bool) : St := mkSt [(1, (.one (.sl true 99 4 (encs c99 xSteps)))), (3, (.one (.ptr (.box 3) 0 [] 0))), (6, (.one (.ptr (.box 6) 0 [] 0))), (9, (Y v1.1)), (11, (I v2.1)), (12, (I v2.2.1)), (33, (B z1))] [(.box 3, [.sl false 124 3 (encs (c124 false) xF.Blocks)]), (.box 6, [.sl true 124 3 (encs (c124 true) [])])]
def s_l16Put_H2 (v3 : Flash × Bool) (z2 : List Step) : St := mkSt [(6, (.one (.ptr (.box 6) 0 [] 0))), (7, (.one (.sl true 99 4 (encs c99 z2)))), (8, (B v3.2))] [(.box 6, [.sl true 124 3 (encs (c124 true) v3.1.Blocks)])]
theorem s_l16Put_t (xF : Flash) (xSteps : List Step) (xP : Page) (r : Flash × List Step × Bool) (h : s_l16Put xF xSteps xP = some r) : Gives Tryz.prog 40 [.sv (.agg [.sl false 124 3 (encs (c124 false) xF.Blocks)]), .sv (.one (.sl true 99 4 (encs c99 xSteps))), .sv (.agg [.int .i64 xP.Kind, .int .i64 xP.Seq, .int .i64 xP.Tx, .int .i64 xP.Part, .int .i64 xP.Count, .str xP.Text])] (.tup [(.agg [.sl false 124 3 (encs (c124 false) r.1.Blocks)]), (.one (.sl true 99 4 (encs c99 r.2.1))), (B r.2.2)]) (List.replicate 3 .gone) := by
 unfold s_l16Put at h
 refine gives_ofL Tryz.func40 rfl ?_
 rw [Tryz.ntmps40]
 refine Wp.seq (Wp.region ?_)
 refine LWp.b [] 3 [.sl false 124 3 (encs (c124 false) xF.Blocks)] ?_
 refine LWp.b [] 5 [.int .i64 xP.Kind, .int .i64 xP.Seq, .int .i64 xP.Tx, .int .i64 xP.Part, .int .i64 xP.Count, .str xP.Text] ?_
 refine LWp.b [] 6 [.sl true 124 3 (encs (c124 true) [])] ?_
 refine LWp.o 7 (.one (.sl true 99 4 (encs c99 []))) ?_
 refine LWp.o 8 (B false) ?_
 refine LWp.nil ?_
 refine Wp.seq (Wp.region ?_)
 refine LWp.o 18 (.agg [.int .i64 xP.Kind, .int .i64 xP.Seq, .int .i64 xP.Tx, .int .i64 xP.Part, .int .i64 xP.Count, .str xP.Text]) ?_
 refine LWp.cl h 19 (fun v1 => (.tup [(Y v1.1), (B v1.2)])) rfl (l := [.sv (.agg [.int .i64 xP.Kind, .int .i64 xP.Seq, .int .i64 xP.Tx, .int .i64 xP.Part, .int .i64 xP.Count, .str xP.Text])]) rfl (fun v hv => s_PageText_t xP v hv) (.inl rfl) ?_
 intro v1 gv1 h
 refine LWp.mt 19 17 (.tup [(Y v1.1), (B v1.2)]) ?_
 refine LWp.e 17 0 20 (Y v1.1) ?_
 refine LWp.e 17 1 21 (B v1.2) ?_
 refine LWp.o 9 (Y v1.1) ?_
 refine LWp.o 10 (B v1.2) ?_
 refine LWp.nil ?_
 refine Wp.seq (Wp.region ?_)
 refine LWp.o 23 (.agg [.sl false 124 3 (encs (c124 false) xF.Blocks)]) ?_
 refine LWp.cl h 24 (fun v2 => (.tup [(I v2.1), (I v2.2.1), (B v2.2.2)])) rfl (l := [.sv (.agg [.sl false 124 3 (encs (c124 false) xF.Blocks)])]) rfl (fun v hv => s_PlaceOf_t xF v hv) (.inl rfl) ?_
 intro v2 gv2 h
 refine LWp.mt 24 22 (.tup [(I v2.1), (I v2.2.1), (B v2.2.2)]) ?_
 refine LWp.e 22 0 25 (I v2.1) ?_
 refine LWp.e 22 1 26 (I v2.2.1) ?_
 refine LWp.e 22 2 27 (B v2.2.2) ?_
 refine LWp.o 11 (I v2.1) ?_
 refine LWp.o 12 (I v2.2.1) ?_
 refine LWp.o 13 (B v2.2.2) ?_
 refine LWp.nil ?_
 refine Wp.seq ?_
 refine Wp.seq ?_
 refine Wp.j1 h [1, 3, 6, 9, 11, 12, 33] [.box 3, .box 6] (fun a => (s_l16Put_H1 xF xSteps v1 v2 a)) ?_ ?_
 · intro a h
   refine Wp.region ?_
   refine LWp.o 28 (B v1.2) ?_
   refine LWp.o 29 (B (!v1.2)) ?_
   refine LWp.o 30 (B (!v1.2)) ?_
   refine LWp.sp h 30 (fun h => ?_) (fun h => ?_)
   · refine LWp.sh 31 ?_
     refine LWp.sh 32 ?_
     refine LWp.o 33 (B true) ?_
     refine LWp.nil ?_
     cases h
     exact ⟨_, rfl, rfl, rfl⟩
   refine LWp.o 31 (B v2.2.2) ?_
   refine LWp.o 32 (B (!v2.2.2)) ?_
   refine LWp.o 33 (B (!v2.2.2)) ?_
   refine LWp.nil ?_
   cases h
   exact ⟨_, rfl, rfl, rfl⟩
 intro j1 h E hE
 refine nt_wp hE ?_
 change Wp _ _ _ (s_l16Put_H1 xF xSteps v1 v2 j1) _
 refine Wp.c h (fun h => ?_) (fun h => ?_)
 · refine Wp.seq (Wp.region ?_)
   refine LWp.o 34 (.agg [.sl false 124 3 (encs (c124 false) xF.Blocks)]) ?_
   refine LWp.o 35 (.one (.view (.slot 1) 0 [] 0)) ?_
   refine LWp.sb [] (.box 6) [.sl false 124 3 (encs (c124 false) xF.Blocks)] ?_
   refine LWp.m true [(.slot 1, [.junk])] 7 (.one (.sl true 99 4 (encs c99 xSteps))) ?_
   refine LWp.o 8 (B false) ?_
   refine LWp.nil ?_
   cases h
   exact Wp.ret ⟨.inr rfl, _, _, rfl, SVle.r⟩
 refine Wp.skip ?_
 refine Wp.seq (Wp.region ?_)
 refine LWp.o 36 (I v2.1) ?_
 refine LWp.o 37 (I v2.2.1) ?_
 refine LWp.o 38 (Y v1.1) ?_
 refine LWp.o 39 (.agg [.int .i64 1, .int .i64 v2.1, .int .i64 v2.2.1, .str v1.1]) ?_
 refine LWp.b [] 14 [.int .i64 0, .int .i64 0, .int .i64 0, .str (bs [])] ?_
 refine LWp.s [] (.box 14) [.int .i64 1, .int .i64 v2.1, .int .i64 v2.2.1, .str v1.1] ?_
 refine LWp.nil ?_
 refine Wp.seq (Wp.region ?_)
 refine LWp.o 41 (.agg [.sl false 124 3 (encs (c124 false) xF.Blocks)]) ?_
 refine LWp.o 42 (.agg [.int .i64 1, .int .i64 v2.1, .int .i64 v2.2.1, .str v1.1]) ?_
 refine LWp.cl h 43 (fun v3 => (.tup [(.agg [.sl true 124 3 (encs (c124 true) v3.1.Blocks)]), (B v3.2)])) rfl (l := [.sv (.agg [.sl false 124 3 (encs (c124 false) xF.Blocks)]), .sv (.agg [.int .i64 1, .int .i64 v2.1, .int .i64 v2.2.1, .str v1.1])]) rfl (fun v hv => s_DoStep_t xF (Step.mk 1 v2.1 v2.2.1 v1.1) v hv) (.inl rfl) ?_
 intro v3 gv3 h
 refine LWp.mt 43 40 (.tup [(.agg [.sl true 124 3 (encs (c124 true) v3.1.Blocks)]), (B v3.2)]) ?_
 refine LWp.e 40 0 44 (.agg [.sl true 124 3 (encs (c124 true) v3.1.Blocks)]) ?_
 refine LWp.e 40 1 45 (B v3.2) ?_
 refine LWp.b [] 15 [.sl true 124 3 (encs (c124 true) [])] ?_
 refine LWp.sb [(.slot 44, [.junk])] (.box 15) [.sl true 124 3 (encs (c124 true) v3.1.Blocks)] ?_
 refine LWp.o 16 (B v3.2) ?_
 refine LWp.nil ?_
 refine Wp.seq ?_
 refine Wp.j1 h [6, 7, 8] [.box 6] (fun a => (s_l16Put_H2 v3 a)) ?_ ?_
 · intro a h
   refine Wp.regionK 9 [4, 6] mixed (fun c E h => by rcases h with ⟨h | h, _⟩ <;> cases h) ?_
   refine KWp.o 9 1 47 (.one (.view (.slot 1) 0 [] 0)) ?_
   refine KWp.o 9 2 48 (.agg [.int .i64 1, .int .i64 v2.1, .int .i64 v2.2.1, .str v1.1]) ?_
   refine KWp.w3 0 3 5 ?_ ?_ ?_
   · refine KOp.o 0 46 (.agg [.view (.box 15) 2 [] 0]) ?_
     refine KWp.w2 3 5 ?_ ?_
     · refine KOp.m 3 false [] 49 (.one (.sl true 99 4 (encs c99 [(Step.mk 1 v2.1 v2.2.1 v1.1)]))) ?_
       refine KWp.w2 4 5 ?_ ?_
       · refine KOp.pm h 4 [(.slot 1, [.junk])] 50 (fun q1 => (.one (.sl true 99 4 (encs c99 q1)))) ?_ rfl (fun q1 gq1 => s_apl k99 (fun _ => rfl) [(.slot 1, [.junk])] xSteps gq1)
         intro q1 gq1 h
         refine KWp.w2 5 6 ?_ ?_
         · refine KOp.o 5 51 (B v3.2) ?_
           refine KWp.w1 6 ?_
           refine KOp.sb 6 [(.box 15, [.junk])] (.box 6) [.sl true 124 3 (encs (c124 true) v3.1.Blocks)] ?_
           refine KWp.w1 7 ?_
           refine KOp.m 7 true [(.slot 50, [.junk])] 7 (.one (.sl true 99 4 (encs c99 q1))) ?_
           refine KWp.w1 8 ?_
           refine KOp.o 8 8 (B v3.2) ?_
           refine KWp.done ?_
           cases h
           exact ⟨_, rfl, rfl, rfl⟩
         refine KOp.sb 6 [(.box 15, [.junk])] (.box 6) [.sl true 124 3 (encs (c124 true) v3.1.Blocks)] ?_
         refine KWp.w2 5 7 ?_ ?_
         · refine KOp.o 5 51 (B v3.2) ?_
           refine KWp.w1 7 ?_
           refine KOp.m 7 true [(.slot 50, [.junk])] 7 (.one (.sl true 99 4 (encs c99 q1))) ?_
           refine KWp.w1 8 ?_
           refine KOp.o 8 8 (B v3.2) ?_
           refine KWp.done ?_
           cases h
           exact ⟨_, rfl, rfl, rfl⟩
         refine KOp.m 7 true [(.slot 50, [.junk])] 7 (.one (.sl true 99 4 (encs c99 q1))) ?_
         refine KWp.w1 5 ?_
         refine KOp.o 5 51 (B v3.2) ?_
         refine KWp.w1 8 ?_
         refine KOp.o 8 8 (B v3.2) ?_
         refine KWp.done ?_
         cases h
         exact ⟨_, rfl, rfl, rfl⟩
       refine KOp.o 5 51 (B v3.2) ?_
       refine KWp.w1 4 ?_
       refine KOp.pm h 4 [(.slot 1, [.junk])] 50 (fun q2 => (.one (.sl true 99 4 (encs c99 q2)))) ?_ rfl (fun q2 gq2 => s_apl k99 (fun _ => rfl) [(.slot 1, [.junk])] xSteps gq2)
       intro q2 gq2 h
       refine KWp.w1 6 ?_
       refine KOp.sb 6 [(.box 15, [.junk])] (.box 6) [.sl true 124 3 (encs (c124 true) v3.1.Blocks)] ?_
       refine KWp.w1 7 ?_
       refine KOp.m 7 true [(.slot 50, [.junk])] 7 (.one (.sl true 99 4 (encs c99 q2))) ?_
       refine KWp.w1 8 ?_
       refine KOp.o 8 8 (B v3.2) ?_
       refine KWp.done ?_
       cases h
       exact ⟨_, rfl, rfl, rfl⟩
     refine KOp.o 5 51 (B v3.2) ?_
     refine KWp.w1 3 ?_
     refine KOp.m 3 false [] 49 (.one (.sl true 99 4 (encs c99 [(Step.mk 1 v2.1 v2.2.1 v1.1)]))) ?_
     refine KWp.w1 4 ?_
     refine KOp.pm h 4 [(.slot 1, [.junk])] 50 (fun q3 => (.one (.sl true 99 4 (encs c99 q3)))) ?_ rfl (fun q3 gq3 => s_apl k99 (fun _ => rfl) [(.slot 1, [.junk])] xSteps gq3)
     intro q3 gq3 h
     refine KWp.w1 6 ?_
     refine KOp.sb 6 [(.box 15, [.junk])] (.box 6) [.sl true 124 3 (encs (c124 true) v3.1.Blocks)] ?_
     refine KWp.w1 7 ?_
     refine KOp.m 7 true [(.slot 50, [.junk])] 7 (.one (.sl true 99 4 (encs c99 q3))) ?_
     refine KWp.w1 8 ?_
     refine KOp.o 8 8 (B v3.2) ?_
     refine KWp.done ?_
     cases h
     exact ⟨_, rfl, rfl, rfl⟩
   · refine KOp.m 3 false [] 49 (.one (.sl true 99 4 (encs c99 [(Step.mk 1 v2.1 v2.2.1 v1.1)]))) ?_
     refine KWp.w3 0 4 5 ?_ ?_ ?_
     · refine KOp.o 0 46 (.agg [.view (.box 15) 2 [] 0]) ?_
       refine KWp.w2 4 5 ?_ ?_
       · refine KOp.pm h 4 [(.slot 1, [.junk])] 50 (fun q4 => (.one (.sl true 99 4 (encs c99 q4)))) ?_ rfl (fun q4 gq4 => s_apl k99 (fun _ => rfl) [(.slot 1, [.junk])] xSteps gq4)
         intro q4 gq4 h
         refine KWp.w2 5 6 ?_ ?_
         · refine KOp.o 5 51 (B v3.2) ?_
           refine KWp.w1 6 ?_
           refine KOp.sb 6 [(.box 15, [.junk])] (.box 6) [.sl true 124 3 (encs (c124 true) v3.1.Blocks)] ?_
           refine KWp.w1 7 ?_
           refine KOp.m 7 true [(.slot 50, [.junk])] 7 (.one (.sl true 99 4 (encs c99 q4))) ?_
           refine KWp.w1 8 ?_
           refine KOp.o 8 8 (B v3.2) ?_
           refine KWp.done ?_
           cases h
           exact ⟨_, rfl, rfl, rfl⟩
         refine KOp.sb 6 [(.box 15, [.junk])] (.box 6) [.sl true 124 3 (encs (c124 true) v3.1.Blocks)] ?_
         refine KWp.w2 5 7 ?_ ?_
         · refine KOp.o 5 51 (B v3.2) ?_
           refine KWp.w1 7 ?_
           refine KOp.m 7 true [(.slot 50, [.junk])] 7 (.one (.sl true 99 4 (encs c99 q4))) ?_
           refine KWp.w1 8 ?_
           refine KOp.o 8 8 (B v3.2) ?_
           refine KWp.done ?_
           cases h
           exact ⟨_, rfl, rfl, rfl⟩
         refine KOp.m 7 true [(.slot 50, [.junk])] 7 (.one (.sl true 99 4 (encs c99 q4))) ?_
         refine KWp.w1 5 ?_
         refine KOp.o 5 51 (B v3.2) ?_
         refine KWp.w1 8 ?_
         refine KOp.o 8 8 (B v3.2) ?_
         refine KWp.done ?_
         cases h
         exact ⟨_, rfl, rfl, rfl⟩
       refine KOp.o 5 51 (B v3.2) ?_
       refine KWp.w1 4 ?_
       refine KOp.pm h 4 [(.slot 1, [.junk])] 50 (fun q5 => (.one (.sl true 99 4 (encs c99 q5)))) ?_ rfl (fun q5 gq5 => s_apl k99 (fun _ => rfl) [(.slot 1, [.junk])] xSteps gq5)
       intro q5 gq5 h
       refine KWp.w1 6 ?_
       refine KOp.sb 6 [(.box 15, [.junk])] (.box 6) [.sl true 124 3 (encs (c124 true) v3.1.Blocks)] ?_
       refine KWp.w1 7 ?_
       refine KOp.m 7 true [(.slot 50, [.junk])] 7 (.one (.sl true 99 4 (encs c99 q5))) ?_
       refine KWp.w1 8 ?_
       refine KOp.o 8 8 (B v3.2) ?_
       refine KWp.done ?_
       cases h
       exact ⟨_, rfl, rfl, rfl⟩
     · refine KOp.pm h 4 [(.slot 1, [.junk])] 50 (fun q6 => (.one (.sl true 99 4 (encs c99 q6)))) ?_ rfl (fun q6 gq6 => s_apl k99 (fun _ => rfl) [(.slot 1, [.junk])] xSteps gq6)
       intro q6 gq6 h
       refine KWp.w2 0 5 ?_ ?_
       · refine KOp.o 0 46 (.agg [.view (.box 15) 2 [] 0]) ?_
         refine KWp.w2 5 6 ?_ ?_
         · refine KOp.o 5 51 (B v3.2) ?_
           refine KWp.w1 6 ?_
           refine KOp.sb 6 [(.box 15, [.junk])] (.box 6) [.sl true 124 3 (encs (c124 true) v3.1.Blocks)] ?_
           refine KWp.w1 7 ?_
           refine KOp.m 7 true [(.slot 50, [.junk])] 7 (.one (.sl true 99 4 (encs c99 q6))) ?_
           refine KWp.w1 8 ?_
           refine KOp.o 8 8 (B v3.2) ?_
           refine KWp.done ?_
           cases h
           exact ⟨_, rfl, rfl, rfl⟩
         refine KOp.sb 6 [(.box 15, [.junk])] (.box 6) [.sl true 124 3 (encs (c124 true) v3.1.Blocks)] ?_
         refine KWp.w2 5 7 ?_ ?_
         · refine KOp.o 5 51 (B v3.2) ?_
           refine KWp.w1 7 ?_
           refine KOp.m 7 true [(.slot 50, [.junk])] 7 (.one (.sl true 99 4 (encs c99 q6))) ?_
           refine KWp.w1 8 ?_
           refine KOp.o 8 8 (B v3.2) ?_
           refine KWp.done ?_
           cases h
           exact ⟨_, rfl, rfl, rfl⟩
         refine KOp.m 7 true [(.slot 50, [.junk])] 7 (.one (.sl true 99 4 (encs c99 q6))) ?_
         refine KWp.w1 5 ?_
         refine KOp.o 5 51 (B v3.2) ?_
         refine KWp.w1 8 ?_
         refine KOp.o 8 8 (B v3.2) ?_
         refine KWp.done ?_
         cases h
         exact ⟨_, rfl, rfl, rfl⟩
       refine KOp.o 5 51 (B v3.2) ?_
       refine KWp.w1 0 ?_
       refine KOp.o 0 46 (.agg [.view (.box 15) 2 [] 0]) ?_
       refine KWp.w1 6 ?_
       refine KOp.sb 6 [(.box 15, [.junk])] (.box 6) [.sl true 124 3 (encs (c124 true) v3.1.Blocks)] ?_
       refine KWp.w1 7 ?_
       refine KOp.m 7 true [(.slot 50, [.junk])] 7 (.one (.sl true 99 4 (encs c99 q6))) ?_
       refine KWp.w1 8 ?_
       refine KOp.o 8 8 (B v3.2) ?_
       refine KWp.done ?_
       cases h
       exact ⟨_, rfl, rfl, rfl⟩
     refine KOp.o 5 51 (B v3.2) ?_
     refine KWp.w2 0 4 ?_ ?_
     · refine KOp.o 0 46 (.agg [.view (.box 15) 2 [] 0]) ?_
       refine KWp.w1 4 ?_
       refine KOp.pm h 4 [(.slot 1, [.junk])] 50 (fun q7 => (.one (.sl true 99 4 (encs c99 q7)))) ?_ rfl (fun q7 gq7 => s_apl k99 (fun _ => rfl) [(.slot 1, [.junk])] xSteps gq7)
       intro q7 gq7 h
       refine KWp.w1 6 ?_
       refine KOp.sb 6 [(.box 15, [.junk])] (.box 6) [.sl true 124 3 (encs (c124 true) v3.1.Blocks)] ?_
       refine KWp.w1 7 ?_
       refine KOp.m 7 true [(.slot 50, [.junk])] 7 (.one (.sl true 99 4 (encs c99 q7))) ?_
       refine KWp.w1 8 ?_
       refine KOp.o 8 8 (B v3.2) ?_
       refine KWp.done ?_
       cases h
       exact ⟨_, rfl, rfl, rfl⟩
     refine KOp.pm h 4 [(.slot 1, [.junk])] 50 (fun q8 => (.one (.sl true 99 4 (encs c99 q8)))) ?_ rfl (fun q8 gq8 => s_apl k99 (fun _ => rfl) [(.slot 1, [.junk])] xSteps gq8)
     intro q8 gq8 h
     refine KWp.w1 0 ?_
     refine KOp.o 0 46 (.agg [.view (.box 15) 2 [] 0]) ?_
     refine KWp.w1 6 ?_
     refine KOp.sb 6 [(.box 15, [.junk])] (.box 6) [.sl true 124 3 (encs (c124 true) v3.1.Blocks)] ?_
     refine KWp.w1 7 ?_
     refine KOp.m 7 true [(.slot 50, [.junk])] 7 (.one (.sl true 99 4 (encs c99 q8))) ?_
     refine KWp.w1 8 ?_
     refine KOp.o 8 8 (B v3.2) ?_
     refine KWp.done ?_
     cases h
     exact ⟨_, rfl, rfl, rfl⟩
   refine KOp.o 5 51 (B v3.2) ?_
   refine KWp.w2 0 3 ?_ ?_
   · refine KOp.o 0 46 (.agg [.view (.box 15) 2 [] 0]) ?_
     refine KWp.w1 3 ?_
     refine KOp.m 3 false [] 49 (.one (.sl true 99 4 (encs c99 [(Step.mk 1 v2.1 v2.2.1 v1.1)]))) ?_
     refine KWp.w1 4 ?_
     refine KOp.pm h 4 [(.slot 1, [.junk])] 50 (fun q9 => (.one (.sl true 99 4 (encs c99 q9)))) ?_ rfl (fun q9 gq9 => s_apl k99 (fun _ => rfl) [(.slot 1, [.junk])] xSteps gq9)
     intro q9 gq9 h
     refine KWp.w1 6 ?_
     refine KOp.sb 6 [(.box 15, [.junk])] (.box 6) [.sl true 124 3 (encs (c124 true) v3.1.Blocks)] ?_
     refine KWp.w1 7 ?_
     refine KOp.m 7 true [(.slot 50, [.junk])] 7 (.one (.sl true 99 4 (encs c99 q9))) ?_
     refine KWp.w1 8 ?_
     refine KOp.o 8 8 (B v3.2) ?_
     refine KWp.done ?_
     cases h
     exact ⟨_, rfl, rfl, rfl⟩
   refine KOp.m 3 false [] 49 (.one (.sl true 99 4 (encs c99 [(Step.mk 1 v2.1 v2.2.1 v1.1)]))) ?_
   refine KWp.w2 0 4 ?_ ?_
   · refine KOp.o 0 46 (.agg [.view (.box 15) 2 [] 0]) ?_
     refine KWp.w1 4 ?_
     refine KOp.pm h 4 [(.slot 1, [.junk])] 50 (fun q10 => (.one (.sl true 99 4 (encs c99 q10)))) ?_ rfl (fun q10 gq10 => s_apl k99 (fun _ => rfl) [(.slot 1, [.junk])] xSteps gq10)
     intro q10 gq10 h
     refine KWp.w1 6 ?_
     refine KOp.sb 6 [(.box 15, [.junk])] (.box 6) [.sl true 124 3 (encs (c124 true) v3.1.Blocks)] ?_
     refine KWp.w1 7 ?_
     refine KOp.m 7 true [(.slot 50, [.junk])] 7 (.one (.sl true 99 4 (encs c99 q10))) ?_
     refine KWp.w1 8 ?_
     refine KOp.o 8 8 (B v3.2) ?_
     refine KWp.done ?_
     cases h
     exact ⟨_, rfl, rfl, rfl⟩
   refine KOp.pm h 4 [(.slot 1, [.junk])] 50 (fun q11 => (.one (.sl true 99 4 (encs c99 q11)))) ?_ rfl (fun q11 gq11 => s_apl k99 (fun _ => rfl) [(.slot 1, [.junk])] xSteps gq11)
   intro q11 gq11 h
   refine KWp.w1 0 ?_
   refine KOp.o 0 46 (.agg [.view (.box 15) 2 [] 0]) ?_
   refine KWp.w1 6 ?_
   refine KOp.sb 6 [(.box 15, [.junk])] (.box 6) [.sl true 124 3 (encs (c124 true) v3.1.Blocks)] ?_
   refine KWp.w1 7 ?_
   refine KOp.m 7 true [(.slot 50, [.junk])] 7 (.one (.sl true 99 4 (encs c99 q11))) ?_
   refine KWp.w1 8 ?_
   refine KOp.o 8 8 (B v3.2) ?_
   refine KWp.done ?_
   cases h
   exact ⟨_, rfl, rfl, rfl⟩
 intro j2 h E hE
 refine nt_wp hE ?_
 change Wp _ _ _ (s_l16Put_H2 v3 j2) _
 cases h
 exact Wp.ret ⟨.inr rfl, _, _, rfl, (SVle.t (SVles.c (SVle.a (les.c (le1.s (sh124 _)) les.r)) (SVles.c SVle.r (SVles.c SVle.r SVles.r))))⟩
def s_RecOk_H1 (z1 : Bool) : St := mkSt [(2, (B z1))] []
def s_RecOk_H2 (xR : Rec) (z2 : Bool) : St := mkSt [(1, (.one (.ptr (.box 1) 0 [] 0))), (37, (B z2))] [(.box 1, [.int .i64 xR.Kind, .int .i64 xR.Vol, .int .i64 xR.Arg, .int .i64 xR.Chunk])]
theorem s_RecOk_t (xR : Rec) (r : Bool) (h : s_RecOk xR = some r) : Gives Tryz.prog 130 [.sv (.agg [.int .i64 xR.Kind, .int .i64 xR.Vol, .int .i64 xR.Arg, .int .i64 xR.Chunk])] (B r) (List.replicate 1 .gone) := by
 unfold s_RecOk at h
 refine gives_of Tryz.func130 rfl ?_
 rw [Tryz.ntmps130]
 refine Wp.seq (Wp.region ?_)
 refine LWp.b [] 1 [.int .i64 xR.Kind, .int .i64 xR.Vol, .int .i64 xR.Arg, .int .i64 xR.Chunk] ?_
 refine LWp.o 2 (B false) ?_
 refine LWp.nil ?_
 refine Wp.seq ?_
 refine Wp.seq (Wp.region ?_)
 refine LWp.o 3 (.one (.ptr (.box 1) 1 [] 2)) ?_
 refine LWp.o 4 (I xR.Arg) ?_
 refine LWp.cl h 5 (fun v1 => (B v1)) rfl (l := [.sv (.one (.int .i64 xR.Arg)), .sv (.one (.int .i64 0)), .sv (.one (.int .i64 1000000000))]) rfl (fun v hv => s_l01In_t xR.Arg 0 1000000000 v hv) (.inl rfl) ?_
 intro v1 gv1 h
 refine LWp.o 6 (B (!v1)) ?_
 refine LWp.nil ?_
 refine Wp.c h (fun h => ?_) (fun h => ?_)
 · refine Wp.seq (Wp.region ?_)
   refine LWp.o 2 (B false) ?_
   refine LWp.nil ?_
   cases h
   exact Wp.ret ⟨.inr rfl, _, _, rfl, rfl⟩
 refine Wp.skip ?_
 refine Wp.seq ?_
 refine Wp.seq (Wp.region ?_)
 refine LWp.o 7 (.one (.ptr (.box 1) 1 [] 0)) ?_
 refine LWp.o 8 (I xR.Kind) ?_
 refine LWp.o 9 (B (xR.Kind == 1)) ?_
 refine LWp.nil ?_
 refine Wp.c h (fun h => ?_) (fun h => ?_)
 · refine Wp.seq ?_
   refine Wp.j1 h [2] [] (fun a => (s_RecOk_H1 a)) ?_ ?_
   · intro a h
     refine Wp.region ?_
     refine LWp.o 10 (.one (.ptr (.box 1) 1 [] 1)) ?_
     refine LWp.o 11 (I xR.Vol) ?_
     refine LWp.o 12 (B (xR.Vol == 0)) ?_
     refine LWp.o 13 (B (xR.Vol == 0)) ?_
     refine LWp.sp h 13 (fun h => ?_) (fun h => ?_)
     · refine LWp.o 14 (.one (.ptr (.box 1) 1 [] 3)) ?_
       refine LWp.o 15 (I xR.Chunk) ?_
       refine LWp.o 16 (B (xR.Chunk == 0)) ?_
       refine LWp.o 17 (B (xR.Chunk == 0)) ?_
       refine LWp.o 2 (B (xR.Chunk == 0)) ?_
       refine LWp.nil ?_
       cases h
       exact ⟨_, rfl, rfl, rfl⟩
     refine LWp.sh 14 ?_
     refine LWp.sh 15 ?_
     refine LWp.sh 16 ?_
     refine LWp.o 17 (B false) ?_
     refine LWp.o 2 (B false) ?_
     refine LWp.nil ?_
     cases h
     exact ⟨_, rfl, rfl, rfl⟩
   intro j1 h E hE
   refine nt_wp hE ?_
   change Wp _ _ _ (s_RecOk_H1 j1) _
   cases h
   exact Wp.ret ⟨.inr rfl, _, _, rfl, rfl⟩
 refine Wp.skip ?_
 refine Wp.seq ?_
 refine Wp.seq ?_
 refine Wp.j1 h [1, 37] [.box 1] (fun a => (s_RecOk_H2 xR a)) ?_ ?_
 · intro a h
   refine Wp.region ?_
   refine LWp.o 18 (.one (.ptr (.box 1) 1 [] 0)) ?_
   refine LWp.o 19 (I xR.Kind) ?_
   refine LWp.cl h 20 (fun v2 => (B v2)) rfl (l := [.sv (.one (.int .i64 xR.Kind)), .sv (.one (.int .i64 2)), .sv (.one (.int .i64 5))]) rfl (fun v hv => s_l01In_t xR.Kind 2 5 v hv) (.inl rfl) ?_
   intro v2 gv2 h
   refine LWp.o 21 (B (!v2)) ?_
   refine LWp.o 22 (B (!v2)) ?_
   refine LWp.sp h 22 (fun h => ?_) (fun h => ?_)
   · refine LWp.sh 23 ?_
     refine LWp.sh 24 ?_
     refine LWp.sh 25 ?_
     refine LWp.sh 26 ?_
     refine LWp.o 27 (B true) ?_
     refine LWp.o 28 (B true) ?_
     refine LWp.sh 29 ?_
     refine LWp.sh 30 ?_
     refine LWp.sh 31 ?_
     refine LWp.sh 32 ?_
     refine LWp.sh 33 ?_
     refine LWp.sh 34 ?_
     refine LWp.sh 35 ?_
     refine LWp.sh 36 ?_
     refine LWp.o 37 (B true) ?_
     refine LWp.nil ?_
     cases h
     exact ⟨_, rfl, rfl, rfl⟩
   refine LWp.o 23 (.one (.ptr (.box 1) 1 [] 1)) ?_
   refine LWp.o 24 (I xR.Vol) ?_
   refine LWp.cl h 25 (fun v3 => (B v3)) rfl (l := [.sv (.one (.int .i64 xR.Vol)), .sv (.one (.int .i64 1)), .sv (.one (.int .i64 9))]) rfl (fun v hv => s_l01In_t xR.Vol 1 9 v hv) (.inl rfl) ?_
   intro v3 gv3 h
   refine LWp.o 26 (B (!v3)) ?_
   refine LWp.o 27 (B (!v3)) ?_
   refine LWp.o 28 (B (!v3)) ?_
   refine LWp.sp h 28 (fun h => ?_) (fun h => ?_)
   · refine LWp.sh 29 ?_
     refine LWp.sh 30 ?_
     refine LWp.sh 31 ?_
     refine LWp.sh 32 ?_
     refine LWp.sh 33 ?_
     refine LWp.sh 34 ?_
     refine LWp.sh 35 ?_
     refine LWp.sh 36 ?_
     refine LWp.o 37 (B true) ?_
     refine LWp.nil ?_
     cases h
     exact ⟨_, rfl, rfl, rfl⟩
   refine LWp.o 29 (.one (.ptr (.box 1) 1 [] 0)) ?_
   refine LWp.o 30 (I xR.Kind) ?_
   refine LWp.o 31 (B (xR.Kind != 4)) ?_
   refine LWp.o 32 (B (xR.Kind != 4)) ?_
   refine LWp.sp h 32 (fun h => ?_) (fun h => ?_)
   · refine LWp.o 33 (.one (.ptr (.box 1) 1 [] 3)) ?_
     refine LWp.o 34 (I xR.Chunk) ?_
     refine LWp.o 35 (B (xR.Chunk != 0)) ?_
     refine LWp.o 36 (B (xR.Chunk != 0)) ?_
     refine LWp.o 37 (B (xR.Chunk != 0)) ?_
     refine LWp.nil ?_
     cases h
     exact ⟨_, rfl, rfl, rfl⟩
   refine LWp.sh 33 ?_
   refine LWp.sh 34 ?_
   refine LWp.sh 35 ?_
   refine LWp.o 36 (B false) ?_
   refine LWp.o 37 (B false) ?_
   refine LWp.nil ?_
   cases h
   exact ⟨_, rfl, rfl, rfl⟩
 intro j2 h E hE
 refine nt_wp hE ?_
 change Wp _ _ _ (s_RecOk_H2 xR j2) _
 refine Wp.c h (fun h => ?_) (fun h => ?_)
 · refine Wp.seq (Wp.region ?_)
   refine LWp.o 2 (B false) ?_
   refine LWp.nil ?_
   cases h
   exact Wp.ret ⟨.inr rfl, _, _, rfl, rfl⟩
 refine Wp.skip ?_
 refine Wp.seq ?_
 refine Wp.seq (Wp.region ?_)
 refine LWp.o 38 (.one (.ptr (.box 1) 0 [] 0)) ?_
 refine LWp.o 39 (I xR.Kind) ?_
 refine LWp.nil ?_
 refine Wp.block ?_
 refine Wp.seq (Wp.region ?_)
 refine LWp.o 41 (B (xR.Kind == 2)) ?_
 refine LWp.o 40 (B (xR.Kind == 2)) ?_
 refine LWp.nil ?_
 refine Wp.c h (fun h => ?_) (fun h => ?_)
 · refine Wp.seq (Wp.region ?_)
   refine LWp.o 42 (.one (.ptr (.box 1) 0 [] 2)) ?_
   refine LWp.o 43 (I xR.Arg) ?_
   refine LWp.o 44 (B (decide (xR.Arg ≤ 9))) ?_
   refine LWp.o 2 (B (decide (xR.Arg ≤ 9))) ?_
   refine LWp.nil ?_
   cases h
   exact Wp.ret ⟨.inr rfl, _, _, rfl, rfl⟩
 refine Wp.seq (Wp.region ?_)
 refine LWp.o 46 (B (xR.Kind == 3)) ?_
 refine LWp.o 45 (B (xR.Kind == 3)) ?_
 refine LWp.nil ?_
 refine Wp.c h (fun h => ?_) (fun h => ?_)
 · refine Wp.seq (Wp.region ?_)
   refine LWp.o 47 (.one (.ptr (.box 1) 0 [] 2)) ?_
   refine LWp.o 48 (I xR.Arg) ?_
   refine LWp.o 49 (B (xR.Arg == 0)) ?_
   refine LWp.o 2 (B (xR.Arg == 0)) ?_
   refine LWp.nil ?_
   cases h
   exact Wp.ret ⟨.inr rfl, _, _, rfl, rfl⟩
 refine Wp.seq (Wp.region ?_)
 refine LWp.o 51 (B (xR.Kind == 4)) ?_
 refine LWp.o 50 (B (xR.Kind == 4)) ?_
 refine LWp.nil ?_
 refine Wp.c h (fun h => ?_) (fun h => ?_)
 · refine Wp.seq (Wp.region ?_)
   refine LWp.o 52 (.one (.ptr (.box 1) 0 [] 2)) ?_
   refine LWp.o 53 (I xR.Arg) ?_
   refine LWp.o 54 (B (decide (xR.Arg < 16))) ?_
   refine LWp.o 55 (B (decide (xR.Arg < 16))) ?_
   refine LWp.sp h 55 (fun h => ?_) (fun h => ?_)
   · refine LWp.o 56 (.one (.ptr (.box 1) 0 [] 3)) ?_
     refine LWp.o 57 (I xR.Chunk) ?_
     refine LWp.cl h 58 (fun v4 => (B v4)) rfl (l := [.sv (.one (.int .i64 xR.Chunk)), .sv (.one (.int .i64 1)), .sv (.one (.int .i64 1000000000))]) rfl (fun v hv => s_l01In_t xR.Chunk 1 1000000000 v hv) (.inl rfl) ?_
     intro v4 gv4 h
     refine LWp.o 59 (B v4) ?_
     refine LWp.o 2 (B v4) ?_
     refine LWp.nil ?_
     cases h
     exact Wp.ret ⟨.inr rfl, _, _, rfl, rfl⟩
   refine LWp.sh 56 ?_
   refine LWp.sh 57 ?_
   refine LWp.sh 58 ?_
   refine LWp.o 59 (B false) ?_
   refine LWp.o 2 (B false) ?_
   refine LWp.nil ?_
   cases h
   exact Wp.ret ⟨.inr rfl, _, _, rfl, rfl⟩
 refine Wp.skip ?_
 refine Wp.seq (Wp.region ?_)
 refine LWp.o 60 (.one (.ptr (.box 1) 0 [] 2)) ?_
 refine LWp.o 61 (I xR.Arg) ?_
 refine LWp.o 62 (B (decide (xR.Arg < 16))) ?_
 refine LWp.o 2 (B (decide (xR.Arg < 16))) ?_
 refine LWp.nil ?_
 cases h
 exact Wp.ret ⟨.inr rfl, _, _, rfl, rfl⟩
theorem s_RecText_t (xR : Rec) (r : ByteArray × Bool) (h : s_RecText xR = some r) : Gives Tryz.prog 83 [.sv (.agg [.int .i64 xR.Kind, .int .i64 xR.Vol, .int .i64 xR.Arg, .int .i64 xR.Chunk])] (.tup [(Y r.1), (B r.2)]) (List.replicate 1 .gone) := by
 unfold s_RecText at h
 refine gives_of Tryz.func83 rfl ?_
 rw [Tryz.ntmps83]
 refine Wp.seq (Wp.region ?_)
 refine LWp.b [] 1 [.int .i64 xR.Kind, .int .i64 xR.Vol, .int .i64 xR.Arg, .int .i64 xR.Chunk] ?_
 refine LWp.o 2 (Y (bs [])) ?_
 refine LWp.o 3 (B false) ?_
 refine LWp.nil ?_
 refine Wp.seq ?_
 refine Wp.seq (Wp.region ?_)
 refine LWp.o 4 (.agg [.int .i64 xR.Kind, .int .i64 xR.Vol, .int .i64 xR.Arg, .int .i64 xR.Chunk]) ?_
 refine LWp.cl h 5 (fun v1 => (B v1)) rfl (l := [.sv (.agg [.int .i64 xR.Kind, .int .i64 xR.Vol, .int .i64 xR.Arg, .int .i64 xR.Chunk])]) rfl (fun v hv => s_RecOk_t xR v hv) (.inl rfl) ?_
 intro v1 gv1 h
 refine LWp.o 6 (B (!v1)) ?_
 refine LWp.nil ?_
 refine Wp.c h (fun h => ?_) (fun h => ?_)
 · refine Wp.seq (Wp.region ?_)
   refine LWp.o 2 (Y (bs [])) ?_
   refine LWp.o 3 (B false) ?_
   refine LWp.nil ?_
   cases h
   exact Wp.ret ⟨.inr rfl, _, _, rfl, rfl⟩
 refine Wp.skip ?_
 refine Wp.seq ?_
 refine Wp.regionK 17 [] mixed (fun c E h => by rcases h with ⟨h | h, _⟩ <;> cases h) ?_
 refine KWp.o 17 0 7 (.one (.ptr (.box 1) 1 [] 0)) ?_
 refine KWp.o 17 1 8 (I xR.Kind) ?_
 refine KWp.o 17 2 9 (I (ml 16 xR.Kind)) ?_
 refine KWp.o 17 3 10 (.one (.ptr (.box 1) 1 [] 1)) ?_
 refine KWp.o 17 4 11 (I xR.Vol) ?_
 refine KWp.o 17 5 12 (I (ad (ml 16 xR.Kind) xR.Vol)) ?_
 refine KWp.o 17 7 14 (.one (.ptr (.box 1) 1 [] 2)) ?_
 refine KWp.o 17 8 15 (I xR.Arg) ?_
 refine KWp.o 17 11 18 (.one (.ptr (.box 1) 1 [] 3)) ?_
 refine KWp.o 17 12 19 (I xR.Chunk) ?_
 refine KWp.w1 6 ?_
 refine KOp.cl h 6 13 (fun v2 => (Y v2)) rfl rfl (l := [.sv (.one (.int .i64 (ad (ml 16 xR.Kind) xR.Vol)))]) rfl (fun v hv => s_l06Byte_t (ad (ml 16 xR.Kind) xR.Vol) v hv) (.inl rfl) ?_
 intro v2 gv2 h
 refine KWp.w1 9 ?_
 refine KOp.cl h 9 16 (fun v3 => (Y v3)) rfl rfl (l := [.sv (.one (.int .i64 xR.Arg))]) rfl (fun v hv => s_l01Var_t xR.Arg v hv) (.inl rfl) ?_
 intro v3 gv3 h
 refine KWp.p h 17 10 17 (fun x1 => (Y x1)) ?_ rfl (fun x1 gx1 => sl_pure (p_cat gx1))
 intro x1 gx1 h
 refine KWp.w1 13 ?_
 refine KOp.cl h 13 20 (fun v4 => (Y v4)) rfl rfl (l := [.sv (.one (.int .i64 xR.Chunk))]) rfl (fun v hv => s_l01Var_t xR.Chunk v hv) (.inl rfl) ?_
 intro v4 gv4 h
 refine KWp.p h 17 14 21 (fun x2 => (Y x2)) ?_ rfl (fun x2 gx2 => sl_pure (p_cat gx2))
 intro x2 gx2 h
 refine KWp.o 17 15 2 (Y x2) ?_
 refine KWp.o 17 16 3 (B true) ?_
 refine KWp.done ?_
 cases h
 exact Wp.ret ⟨.inr rfl, _, _, rfl, rfl⟩
def c85 (x : Page) : List TV := [.int .i64 x.Kind, .int .i64 x.Seq, .int .i64 x.Tx, .int .i64 x.Part, .int .i64 x.Count, .str x.Text]
theorem k85 : ∀ x, (c85 x).length = 6 := fun _ => rfl
theorem sh85 : ∀ l, shares (encs c85 l) = encs c85 l := shares_encs (fun _ => rfl)
theorem ns85 : ∀ l, hasShareds (encs c85 l) = false := ns_encs (fun _ => rfl)
def c9 (x : ByteArray) : List TV := [.str x]
theorem k9 : ∀ x, (c9 x).length = 1 := fun _ => rfl
theorem sh9 : ∀ l, shares (encs c9 l) = encs c9 l := shares_encs (fun _ => rfl)
theorem ns9 : ∀ l, hasShareds (encs c9 l) = false := ns_encs (fun _ => rfl)
def s_TxPages_H1 (xSeq : Int) (xTx : Int) (xRecs : List Rec) (z1 : List ByteArray) (z2 : Int) : St := mkSt [(0, (I xSeq)), (1, (I xTx)), (2, (.one (.sl false 83 4 (encs c83 xRecs)))), (8, (.one (.sl true 85 6 (encs c85 [])))), (9, (.one (.sl true 9 1 (encs c9 z1)))), (10, (I z2))] []
def s_TxPages_H2 (xSeq : Int) (xTx : Int) (z3 : List ByteArray) : St := mkSt [(0, (I xSeq)), (1, (I xTx)), (8, (.one (.sl true 85 6 (encs c85 [])))), (9, (.one (.sl true 9 1 (encs c9 z3))))] []
def s_TxPages_H3 (xSeq : Int) (xTx : Int) (v2 : List ByteArray) (z4 : Bool) : St := mkSt [(0, (I xSeq)), (1, (I xTx)), (8, (.one (.sl true 85 6 (encs c85 [])))), (9, (.one (.sl true 9 1 (encs c9 v2)))), (76, (B z4))] []
def s_TxPages_H4 (xSeq : Int) (xTx : Int) (v2 : List ByteArray) (z5 : List Page) (z6 : Int) : St := mkSt [(0, (I xSeq)), (1, (I xTx)), (9, (.one (.sl true 9 1 (encs c9 v2)))), (14, (.one (.sl true 85 6 (encs c85 z5)))), (15, (I z6))] []
def s_TxPages_H5 (z7 : List Page) : St := mkSt [(14, (.one (.sl true 85 6 (encs c85 z7))))] []
theorem s_TxPages_t (xSeq : Int) (xTx : Int) (xRecs : List Rec) (r : List Page × Bool) (h : s_TxPages xSeq xTx xRecs = some r) : Gives Tryz.prog 41 [.sv (I xSeq), .sv (I xTx), .sv (.one (.sl false 83 4 (encs c83 xRecs)))] (.tup [(.one (.sl true 85 6 (encs c85 r.1))), (B r.2)]) (List.replicate 3 .gone) := by
 unfold s_TxPages at h
 refine gives_of Tryz.func41 rfl ?_
 rw [Tryz.ntmps41]
 refine Wp.seq (Wp.region ?_)
 refine LWp.o 6 (.one (.sl true 85 6 (encs c85 []))) ?_
 refine LWp.o 7 (B false) ?_
 refine LWp.nil ?_
 refine Wp.seq (Wp.region ?_)
 refine LWp.m false [] 16 (.one (.sl true 85 6 (encs c85 []))) ?_
 refine LWp.m true [(.slot 16, [.junk])] 8 (.one (.sl true 85 6 (encs c85 []))) ?_
 refine LWp.nil ?_
 refine Wp.seq (Wp.region ?_)
 refine LWp.m false [] 17 (.one (.sl true 9 1 (encs c9 [(bs [])]))) ?_
 refine LWp.m true [(.slot 17, [.junk])] 9 (.one (.sl true 9 1 (encs c9 [(bs [])]))) ?_
 refine LWp.nil ?_
 refine Wp.seq ?_
 refine Wp.seq (Wp.region ?_)
 refine LWp.o 10 (I 0) ?_
 refine LWp.nil ?_
 refine Wp.l2 h [0, 1, 2, 8, 9, 10] [] (fun s => (s_TxPages_H1 xSeq xTx xRecs s.1 s.2)) [0, 1, 8, 9] [] (fun s => (s_TxPages_H2 xSeq xTx s)) ⟨rfl, rfl⟩ ?_ ?_
 · rintro ⟨yTexts1, yI1⟩ o (h : s_TxPages_b1 xRecs yTexts1 yI1 = some o) hk1
   unfold s_TxPages_b1 at h
   change Wp _ _ _ (s_TxPages_H1 xSeq xTx xRecs yTexts1 yI1) _
   refine Wp.seq ?_
   refine Wp.seq (Wp.region ?_)
   refine LWp.o 18 (I yI1) ?_
   refine LWp.o 19 (.one (.sl false 83 4 (encs c83 xRecs))) ?_
   refine LWp.o 20 (I (ln xRecs)) ?_ (st_pure (p_ln k83 xRecs))
   refine LWp.o 21 (B (decide (yI1 < (ln xRecs)))) ?_
   refine LWp.nil ?_
   refine Wp.c h (fun h => ?_) (fun h => ?_)
   · refine Wp.skip ?_
     refine Wp.seq ?_
     refine Wp.block ?_
     refine Wp.seq (Wp.region ?_)
     refine LWp.o 25 (.one (.sl false 83 4 (encs c83 xRecs))) ?_
     refine LWp.o 26 (I yI1) ?_
     refine LWp.p h 27 (fun _ => (.one (.ptr (.slot 25) 1 [0] (Int.toNat yI1 * 4 + 0)))) ?_ (fun x1 gx1 => st_pure (p_ix k83 (.slot 25) [] 0 gx1))
     intro x1 gx1 h
     refine LWp.o 28 (.agg [.int .i64 x1.Kind, .int .i64 x1.Vol, .int .i64 x1.Arg, .int .i64 x1.Chunk]) ?_ (st_pure (p_le k83 (.slot 25) [0] gx1))
     refine LWp.cl h 29 (fun v1 => (.tup [(Y v1.1), (B v1.2)])) rfl (l := [.sv (.agg [.int .i64 x1.Kind, .int .i64 x1.Vol, .int .i64 x1.Arg, .int .i64 x1.Chunk])]) rfl (fun v hv => s_RecText_t x1 v hv) (.inl rfl) ?_
     intro v1 gv1 h
     refine LWp.mt 29 24 (.tup [(Y v1.1), (B v1.2)]) ?_
     refine LWp.e 24 0 30 (Y v1.1) ?_
     refine LWp.e 24 1 31 (B v1.2) ?_
     refine LWp.o 11 (Y v1.1) ?_
     refine LWp.o 12 (B v1.2) ?_
     refine LWp.nil ?_
     refine Wp.seq ?_
     refine Wp.seq (Wp.region ?_)
     refine LWp.o 32 (B v1.2) ?_
     refine LWp.o 33 (B (!v1.2)) ?_
     refine LWp.nil ?_
     refine Wp.c h (fun h => ?_) (fun h => ?_)
     · refine Wp.seq (Wp.region ?_)
       refine LWp.o 34 (.one (.view (.slot 8) 0 [] 0)) ?_
       refine LWp.m true [(.slot 8, [.junk])] 6 (.one (.sl true 85 6 (encs c85 []))) ?_
       refine LWp.o 7 (B false) ?_
       refine LWp.nil ?_
       cases h
       replace h : some _ = some _ := hk1 _ rfl
       cases h
       exact Wp.ret ⟨.inr rfl, _, _, rfl, rfl⟩
     refine Wp.skip ?_
     refine Wp.seq (Wp.region ?_)
     refine LWp.o 35 (.one (.view (.slot 9) 0 [] 0)) ?_
     refine LWp.o 36 (I (ln yTexts1)) ?_ (st_pure (p_ln k9 yTexts1))
     refine LWp.o 37 (I (sb (ln yTexts1) 1)) ?_
     refine LWp.o 13 (I (sb (ln yTexts1) 1)) ?_
     refine LWp.nil ?_
     refine Wp.seq (Wp.region ?_)
     refine LWp.o 38 (.one (.view (.slot 9) 0 [] 0)) ?_
     refine LWp.o 39 (I (sb (ln yTexts1) 1)) ?_
     refine LWp.p h 40 (fun _ => (.one (.ptr (.slot 9) 0 [0] (Int.toNat (sb (ln yTexts1) 1) * 1 + 0)))) ?_ (fun x2 gx2 => st_pure (p_ix k9 (.slot 9) [] 0 gx2))
     intro x2 gx2 h
     refine LWp.o 41 (Y x2) ?_ (st_pure (p_lc k9 (.slot 9) [0] 0 (.str x2) gx2))
     refine LWp.o 42 (I (sln x2)) ?_
     refine LWp.o 43 (Y v1.1) ?_
     refine LWp.o 44 (I (sln v1.1)) ?_
     refine LWp.o 45 (I (ad (sln x2) (sln v1.1))) ?_
     refine LWp.o 46 (B (decide ((ad (sln x2) (sln v1.1)) > 90))) ?_
     refine LWp.nil ?_
     refine Wp.c h (fun h => ?_) (fun h => ?_)
     · refine Wp.region ?_
       refine LWp.o 47 (.one (.view (.slot 9) 0 [] 0)) ?_
       refine LWp.o 48 (Y v1.1) ?_
       refine LWp.m false [] 49 (.one (.sl true 9 1 (encs c9 [v1.1]))) ?_
       refine LWp.pm h [(.slot 9, [.junk])] 50 (fun q1 => (.one (.sl true 9 1 (encs c9 q1)))) ?_ (fun q1 gq1 => s_apl k9 (fun _ => rfl) [(.slot 9, [.junk])] yTexts1 gq1)
       intro q1 gq1 h
       refine LWp.m true [(.slot 50, [.junk])] 9 (.one (.sl true 9 1 (encs c9 q1))) ?_
       refine LWp.nil ?_
       refine Wp.region ?_
       refine LWp.o 22 (I yI1) ?_
       refine LWp.o 23 (I (ad yI1 1)) ?_
       refine LWp.o 10 (I (ad yI1 1)) ?_
       refine LWp.nil ?_
       cases h
       exact ⟨_, rfl, rfl, rfl⟩
     refine Wp.region ?_
     refine LWp.o 51 (.one (.view (.slot 9) 0 [] 0)) ?_
     refine LWp.o 52 (I (sb (ln yTexts1) 1)) ?_
     refine LWp.o 53 (.one (.view (.slot 9) 0 [] 0)) ?_
     refine LWp.o 54 (I (sb (ln yTexts1) 1)) ?_
     refine LWp.p h 55 (fun _ => (.one (.ptr (.slot 9) 0 [0] (Int.toNat (sb (ln yTexts1) 1) * 1 + 0)))) ?_ (fun x3 gx3 => st_pure (p_ix k9 (.slot 9) [] 0 gx3))
     intro x3 gx3 h
     refine LWp.o 56 (Y x3) ?_ (st_pure (p_lc k9 (.slot 9) [0] 0 (.str x3) gx3))
     refine LWp.o 57 (Y v1.1) ?_
     refine LWp.p h 58 (fun x4 => (Y x4)) ?_ (fun x4 gx4 => st_pure (p_cat gx4))
     intro x4 gx4 h
     refine LWp.p h 59 (fun _ => (.one (.ptr (.slot 9) 0 [0] (Int.toNat (sb (ln yTexts1) 1) * 1 + 0)))) ?_ (fun x5 gx5 => st_pure (p_ix k9 (.slot 9) [] 0 gx5))
     intro x5 gx5 h
     refine LWp.sb [] (.slot 9) [.sl true 9 1 (encs c9 (si yTexts1 (sb (ln yTexts1) 1) x4))] ?_ (s_st [] (q := [0]) (cs := [.sl true 9 1 (encs c9 yTexts1)]) (xs := [.str x4]) (At.one (setRow_gi k9 (k := 0) (z := x4) gx5 rfl rfl)) (fit_gi k9 (k := 0) gx5 rfl))
     refine LWp.nil ?_
     refine Wp.region ?_
     refine LWp.o 22 (I yI1) ?_
     refine LWp.o 23 (I (ad yI1 1)) ?_
     refine LWp.o 10 (I (ad yI1 1)) ?_
     refine LWp.nil ?_
     cases h
     exact ⟨_, rfl, rfl, rfl⟩
   refine Wp.exit ?_
   cases h
   exact ⟨_, rfl, rfl, rfl⟩
 intro v2 h E hE
 refine nt_wp hE ?_
 change Wp _ _ _ (s_TxPages_H2 xSeq xTx v2) _
 refine Wp.seq ?_
 refine Wp.seq ?_
 refine Wp.j1 h [0, 1, 8, 9, 76] [] (fun a => (s_TxPages_H3 xSeq xTx v2 a)) ?_ ?_
 · intro a h
   refine Wp.region ?_
   refine LWp.o 60 (.one (.view (.slot 9) 0 [] 0)) ?_
   refine LWp.o 61 (I (ln v2)) ?_ (st_pure (p_ln k9 v2))
   refine LWp.o 62 (B (decide ((ln v2) > 9))) ?_
   refine LWp.o 63 (B (decide ((ln v2) > 9))) ?_
   refine LWp.sp h 63 (fun h => ?_) (fun h => ?_)
   · refine LWp.sh 64 ?_
     refine LWp.sh 65 ?_
     refine LWp.sh 66 ?_
     refine LWp.sh 67 ?_
     refine LWp.sh 68 ?_
     refine LWp.sh 69 ?_
     refine LWp.sh 70 ?_
     refine LWp.o 71 (B true) ?_
     refine LWp.o 72 (B true) ?_
     refine LWp.sh 73 ?_
     refine LWp.sh 74 ?_
     refine LWp.sh 75 ?_
     refine LWp.o 76 (B true) ?_
     refine LWp.nil ?_
     cases h
     exact ⟨_, rfl, rfl, rfl⟩
   refine LWp.o 64 (I xSeq) ?_
   refine LWp.o 65 (.one (.view (.slot 9) 0 [] 0)) ?_
   refine LWp.o 66 (I (ln v2)) ?_ (st_pure (p_ln k9 v2))
   refine LWp.o 67 (I (sb 1000000000 (ln v2))) ?_
   refine LWp.o 68 (I (ad (sb 1000000000 (ln v2)) 1)) ?_
   refine LWp.cl h 69 (fun v3 => (B v3)) rfl (l := [.sv (.one (.int .i64 xSeq)), .sv (.one (.int .i64 1)), .sv (.one (.int .i64 (ad (sb 1000000000 (ln v2)) 1)))]) rfl (fun v hv => s_l01In_t xSeq 1 (ad (sb 1000000000 (ln v2)) 1) v hv) (.inl rfl) ?_
   intro v3 gv3 h
   refine LWp.o 70 (B (!v3)) ?_
   refine LWp.o 71 (B (!v3)) ?_
   refine LWp.o 72 (B (!v3)) ?_
   refine LWp.sp h 72 (fun h => ?_) (fun h => ?_)
   · refine LWp.sh 73 ?_
     refine LWp.sh 74 ?_
     refine LWp.sh 75 ?_
     refine LWp.o 76 (B true) ?_
     refine LWp.nil ?_
     cases h
     exact ⟨_, rfl, rfl, rfl⟩
   refine LWp.o 73 (I xTx) ?_
   refine LWp.cl h 74 (fun v4 => (B v4)) rfl (l := [.sv (.one (.int .i64 xTx)), .sv (.one (.int .i64 1)), .sv (.one (.int .i64 1000000000))]) rfl (fun v hv => s_l01In_t xTx 1 1000000000 v hv) (.inl rfl) ?_
   intro v4 gv4 h
   refine LWp.o 75 (B (!v4)) ?_
   refine LWp.o 76 (B (!v4)) ?_
   refine LWp.nil ?_
   cases h
   exact ⟨_, rfl, rfl, rfl⟩
 intro j1 h E hE
 refine nt_wp hE ?_
 change Wp _ _ _ (s_TxPages_H3 xSeq xTx v2 j1) _
 refine Wp.c h (fun h => ?_) (fun h => ?_)
 · refine Wp.seq (Wp.region ?_)
   refine LWp.o 77 (.one (.view (.slot 8) 0 [] 0)) ?_
   refine LWp.m true [(.slot 8, [.junk])] 6 (.one (.sl true 85 6 (encs c85 []))) ?_
   refine LWp.o 7 (B false) ?_
   refine LWp.nil ?_
   cases h
   exact Wp.ret ⟨.inr rfl, _, _, rfl, rfl⟩
 refine Wp.skip ?_
 refine Wp.seq (Wp.region ?_)
 refine LWp.m false [] 78 (.one (.sl true 85 6 (encs c85 []))) ?_
 refine LWp.m true [(.slot 78, [.junk])] 14 (.one (.sl true 85 6 (encs c85 []))) ?_
 refine LWp.nil ?_
 refine Wp.seq ?_
 refine Wp.seq (Wp.region ?_)
 refine LWp.o 15 (I 0) ?_
 refine LWp.nil ?_
 refine Wp.l1 h [0, 1, 9, 14, 15] [] (fun s => (s_TxPages_H4 xSeq xTx v2 s.1 s.2)) [14] [] (fun s => (s_TxPages_H5 s)) ⟨rfl, rfl⟩ ?_ ?_
 · rintro ⟨yOut1, yI2⟩ o (h : s_TxPages_b2 xSeq xTx v2 yOut1 yI2 = some o)
   unfold s_TxPages_b2 at h
   change Wp _ _ _ (s_TxPages_H4 xSeq xTx v2 yOut1 yI2) _
   refine Wp.seq ?_
   refine Wp.seq (Wp.region ?_)
   refine LWp.o 79 (I yI2) ?_
   refine LWp.o 80 (.one (.view (.slot 9) 0 [] 0)) ?_
   refine LWp.o 81 (I (ln v2)) ?_ (st_pure (p_ln k9 v2))
   refine LWp.o 82 (B (decide (yI2 < (ln v2)))) ?_
   refine LWp.nil ?_
   refine Wp.c h (fun h => ?_) (fun h => ?_)
   · refine Wp.skip ?_
     refine Wp.seq ?_
     refine Wp.block ?_
     refine Wp.region ?_
     refine LWp.o 85 (.one (.view (.slot 14) 0 [] 0)) ?_
     refine LWp.o 86 (I xSeq) ?_
     refine LWp.o 87 (I yI2) ?_
     refine LWp.o 88 (I (ad xSeq yI2)) ?_
     refine LWp.o 89 (I xTx) ?_
     refine LWp.o 90 (I yI2) ?_
     refine LWp.o 91 (.one (.view (.slot 9) 0 [] 0)) ?_
     refine LWp.o 92 (I (ln v2)) ?_ (st_pure (p_ln k9 v2))
     refine LWp.o 93 (.one (.view (.slot 9) 0 [] 0)) ?_
     refine LWp.o 94 (I yI2) ?_
     refine LWp.p h 95 (fun _ => (.one (.ptr (.slot 9) 0 [0] (Int.toNat yI2 * 1 + 0)))) ?_ (fun x6 gx6 => st_pure (p_ix k9 (.slot 9) [] 0 gx6))
     intro x6 gx6 h
     refine LWp.o 96 (Y x6) ?_ (st_pure (p_lc k9 (.slot 9) [0] 0 (.str x6) gx6))
     refine LWp.o 97 (.agg [.int .i64 2, .int .i64 (ad xSeq yI2), .int .i64 xTx, .int .i64 yI2, .int .i64 (ln v2), .str x6]) ?_
     refine LWp.m false [] 98 (.one (.sl true 85 6 (encs c85 [(Page.mk 2 (ad xSeq yI2) xTx yI2 (ln v2) x6)]))) ?_
     refine LWp.pm h [(.slot 14, [.junk])] 99 (fun q2 => (.one (.sl true 85 6 (encs c85 q2)))) ?_ (fun q2 gq2 => s_apl k85 (fun _ => rfl) [(.slot 14, [.junk])] yOut1 gq2)
     intro q2 gq2 h
     refine LWp.m true [(.slot 99, [.junk])] 14 (.one (.sl true 85 6 (encs c85 q2))) ?_
     refine LWp.nil ?_
     refine Wp.region ?_
     refine LWp.o 83 (I yI2) ?_
     refine LWp.o 84 (I (ad yI2 1)) ?_
     refine LWp.o 15 (I (ad yI2 1)) ?_
     refine LWp.nil ?_
     cases h
     exact ⟨_, rfl, rfl, rfl⟩
   refine Wp.exit ?_
   cases h
   exact ⟨_, rfl, rfl, rfl⟩
 intro v5 h E hE
 refine nt_wp hE ?_
 change Wp _ _ _ (s_TxPages_H5 v5) _
 refine Wp.seq (Wp.region ?_)
 refine LWp.o 100 (.one (.view (.slot 14) 0 [] 0)) ?_
 refine LWp.m true [(.slot 14, [.junk])] 6 (.one (.sl true 85 6 (encs c85 v5))) ?_
 refine LWp.o 7 (B true) ?_
 refine LWp.nil ?_
 cases h
 exact Wp.ret ⟨.inr rfl, _, _, rfl, rfl⟩
def s_WriteSteps_H1 (xD : Device) (xRecs : List Rec) (z1 : List Step) (z2 : Int) (z3 : Bool) (z4 : List Block) : St := mkSt [(1, (.one (.sl false 83 4 (encs c83 xRecs)))), (3, (.one (.ptr (.box 3) 0 [] 0))), (8, (.one (.sl true 99 4 (encs c99 z1)))), (9, (.one (.ptr (.box 9) 0 [] 0))), (10, (I z2)), (11, (B z3))] [(.box 3, [.sl false 124 3 (encs (c124 false) xD.Flash.Blocks), .sl false 110 2 (encs c110 xD.Store.Vols), .sl false 218 2 (encs (c218 false) xD.Store.Arena.Knots), .int .i64 xD.Store.Next, .int .i64 xD.Seq, .int .i64 xD.Tx, .int .i64 xD.Base]), (.box 9, [.sl false 124 3 (encs (c124 false) z4)])]
def s_WriteSteps_H2 (xD : Device) (xRecs : List Rec) (z5 : List Step) (z6 : Bool) (z7 : List Block) : St := mkSt [(1, (.one (.sl false 83 4 (encs c83 xRecs)))), (3, (.one (.ptr (.box 3) 0 [] 0))), (8, (.one (.sl true 99 4 (encs c99 z5)))), (9, (.one (.ptr (.box 9) 0 [] 0))), (10, (I xD.Seq)), (11, (B z6))] [(.box 3, [.sl false 124 3 (encs (c124 false) xD.Flash.Blocks), .sl false 110 2 (encs c110 xD.Store.Vols), .sl false 218 2 (encs (c218 false) xD.Store.Arena.Knots), .int .i64 xD.Store.Next, .int .i64 xD.Seq, .int .i64 xD.Tx, .int .i64 xD.Base]), (.box 9, [.sl false 124 3 (encs (c124 false) z7)])]
def s_WriteSteps_H3 (v2 : List Page × Bool) (z8 : List Step) (z9 : Bool) (z10 : Int) (z11 : List Block) : St := mkSt [(8, (.one (.sl true 99 4 (encs c99 z8)))), (9, (.one (.ptr (.box 9) 0 [] 0))), (11, (B z9)), (12, (.one (.sl true 85 6 (encs c85 v2.1)))), (13, (B v2.2)), (14, (I z10))] [(.box 9, [.sl false 124 3 (encs (c124 false) z11)])]
def s_WriteSteps_H4 (v2 : List Page × Bool) (z12 : List Step) (z13 : Bool) : St := mkSt [(8, (.one (.sl true 99 4 (encs c99 z12)))), (11, (B z13)), (13, (B v2.2))] []
def s_WriteSteps_H5 (v2 : List Page × Bool) (ySteps1 : List Step) (yOk1 : Bool) (yI1 : Int) (yF01 : List Block) (z14 : Bool) : St := mkSt [(8, (.one (.sl true 99 4 (encs c99 ySteps1)))), (9, (.one (.ptr (.box 9) 0 [] 0))), (11, (B yOk1)), (12, (.one (.sl true 85 6 (encs c85 v2.1)))), (13, (B v2.2)), (14, (I yI1)), (59, (B z14))] [(.box 9, [.sl false 124 3 (encs (c124 false) yF01)])]
def s_WriteSteps_H6 (v2 : List Page × Bool) (yI1 : Int) (z15 : List Step) (z16 : Bool) (z17 : List Block) : St := mkSt [(8, (.one (.sl true 99 4 (encs c99 z15)))), (9, (.one (.ptr (.box 9) 0 [] 0))), (11, (B z16)), (12, (.one (.sl true 85 6 (encs c85 v2.1)))), (13, (B v2.2)), (14, (I yI1))] [(.box 9, [.sl false 124 3 (encs (c124 false) z17)])]
def s_WriteSteps_H7 (v4 : List Step × Bool) (z18 : Bool) : St := mkSt [(8, (.one (.sl true 99 4 (encs c99 v4.1)))), (78, (B z18))] []
set_option maxHeartbeats 4000000 in
theorem s_WriteSteps_t (xD : Device) (xRecs : List Rec) (xText : ByteArray) (r : List Step × Bool) (h : s_WriteSteps xD xRecs xText = some r) : Gives Tryz.prog 10 [.sv (.agg [.sl false 124 3 (encs (c124 false) xD.Flash.Blocks), .sl false 110 2 (encs c110 xD.Store.Vols), .sl false 218 2 (encs (c218 false) xD.Store.Arena.Knots), .int .i64 xD.Store.Next, .int .i64 xD.Seq, .int .i64 xD.Tx, .int .i64 xD.Base]), .sv (.one (.sl false 83 4 (encs c83 xRecs))), .sv (Y xText)] (.tup [(.one (.sl true 99 4 (encs c99 r.1))), (B r.2)]) (List.replicate 3 .gone) := by
 unfold s_WriteSteps at h
 refine gives_of Tryz.func10 rfl ?_
 rw [Tryz.ntmps10]
 refine Wp.seq (Wp.region ?_)
 refine LWp.b [] 3 [.sl false 124 3 (encs (c124 false) xD.Flash.Blocks), .sl false 110 2 (encs c110 xD.Store.Vols), .sl false 218 2 (encs (c218 false) xD.Store.Arena.Knots), .int .i64 xD.Store.Next, .int .i64 xD.Seq, .int .i64 xD.Tx, .int .i64 xD.Base] ?_
 refine LWp.o 6 (.one (.sl true 99 4 (encs c99 []))) ?_
 refine LWp.o 7 (B false) ?_
 refine LWp.nil ?_
 refine Wp.seq (Wp.region ?_)
 refine LWp.m false [] 15 (.one (.sl true 99 4 (encs c99 []))) ?_
 refine LWp.m true [(.slot 15, [.junk])] 8 (.one (.sl true 99 4 (encs c99 []))) ?_
 refine LWp.nil ?_
 refine Wp.seq ?_
 refine Wp.seq (Wp.region ?_)
 refine LWp.o 16 (.one (.sl false 83 4 (encs c83 xRecs))) ?_
 refine LWp.o 17 (I (ln xRecs)) ?_ (st_pure (p_ln k83 xRecs))
 refine LWp.o 18 (B ((ln xRecs) == 0)) ?_
 refine LWp.nil ?_
 refine Wp.c h (fun h => ?_) (fun h => ?_)
 · refine Wp.seq (Wp.region ?_)
   refine LWp.o 19 (.one (.view (.slot 8) 1 [] 0)) ?_
   refine LWp.m true [(.slot 8, [.junk])] 6 (.one (.sl true 99 4 (encs c99 []))) ?_
   refine LWp.o 7 (B true) ?_
   refine LWp.nil ?_
   cases h
   exact Wp.ret ⟨.inr rfl, _, _, rfl, rfl⟩
 refine Wp.skip ?_
 refine Wp.seq (Wp.region ?_)
 refine LWp.o 20 (.one (.ptr (.box 3) 1 [] 0)) ?_
 refine LWp.o 21 (.agg [.sl false 124 3 (encs (c124 false) xD.Flash.Blocks)]) ?_
 refine LWp.b [] 9 [.sl true 124 3 (encs (c124 true) [])] ?_
 refine LWp.sb [] (.box 9) [.sl false 124 3 (encs (c124 false) xD.Flash.Blocks)] ?_
 refine LWp.nil ?_
 refine Wp.seq (Wp.region ?_)
 refine LWp.o 22 (.one (.ptr (.box 3) 1 [] 4)) ?_
 refine LWp.o 23 (I xD.Seq) ?_
 refine LWp.o 10 (I xD.Seq) ?_
 refine LWp.nil ?_
 refine Wp.seq (Wp.region ?_)
 refine LWp.o 11 (B true) ?_
 refine LWp.nil ?_
 refine Wp.seq ?_
 refine Wp.seq (Wp.region ?_)
 refine LWp.o 24 (Y xText) ?_
 refine LWp.o 25 (B (!(seq xText (bs [])))) ?_
 refine LWp.nil ?_
 refine Wp.j1 h [1, 3, 8, 9, 10, 11] [.box 3, .box 9] (fun a => (s_WriteSteps_H1 xD xRecs a.1 a.2.1 a.2.2.1 a.2.2.2)) ?_ ?_
 · intro a h
   refine Wp.c h (fun h => ?_) (fun h => ?_)
   · refine Wp.seq ?_
     refine Wp.j1 h [1, 3, 8, 9, 10, 11] [.box 3, .box 9] (fun a => (s_WriteSteps_H2 xD xRecs a.1 a.2.1 a.2.2)) ?_ ?_
     · intro a h
       refine Wp.regionK 20 [12, 17] mixed (fun c E h => by rcases h with ⟨h | h, _⟩ <;> cases h) ?_
       refine KWp.o 20 0 27 (.agg [.sl false 124 3 (encs (c124 false) xD.Flash.Blocks)]) ?_
       refine KWp.o 20 1 28 (.one (.view (.slot 8) 1 [] 0)) ?_
       refine KWp.o 20 2 29 (I xD.Seq) ?_
       refine KWp.o 20 3 30 (.one (.sl false 83 4 (encs c83 xRecs))) ?_
       refine KWp.o 20 4 31 (.one (.sl false 83 4 (encs c83 xRecs))) ?_
       refine KWp.o 20 5 32 (I (ln xRecs)) ?_ rfl (sl_pure (p_ln k83 xRecs))
       refine KWp.o 20 6 33 (I (sb (ln xRecs) 1)) ?_
       refine KWp.p h 20 7 34 (fun _ => (.one (.ptr (.slot 30) 1 [0] (Int.toNat (sb (ln xRecs) 1) * 4 + 0)))) ?_ rfl (fun x1 gx1 => sl_pure (p_ix k83 (.slot 30) [] 0 gx1))
       intro x1 gx1 h
       refine KWp.o 20 8 35 (.one (.ptr (.slot 30) 1 [0] (Int.toNat (sb (ln xRecs) 1) * 4 + 3))) ?_ rfl (sl_pure (p_fa k83 (.slot 30) [0] 0 gx1))
       refine KWp.o 20 9 36 (I x1.Chunk) ?_ rfl (sl_pure (p_lc k83 (.slot 30) [0] 3 (.int .i64 x1.Chunk) gx1))
       refine KWp.o 20 10 37 (Y xText) ?_
       refine KWp.o 20 11 38 (.agg [.int .i64 1, .int .i64 xD.Seq, .int .i64 x1.Chunk, .int .i64 0, .int .i64 1, .str xText]) ?_
       refine KWp.w1 12 ?_
       refine KOp.cv h 12 [(false, 41, .tmp 27), (true, 36, .tmp 28), (false, 85, .tmp 38)] [(.slot 8, [.junk])] 39 (fun v1 => (.tup [(.agg [.sl false 124 3 (encs (c124 false) v1.1.Blocks)]), (.one (.sl true 99 4 (encs c99 v1.2.1))), (B v1.2.2)])) rfl rfl rfl rfl (avl := [.sv (.agg [.sl false 124 3 (encs (c124 false) xD.Flash.Blocks)]), .sv (.one (.sl true 99 4 (encs c99 []))), .sv (.agg [.int .i64 1, .int .i64 xD.Seq, .int .i64 x1.Chunk, .int .i64 0, .int .i64 1, .str xText])]) rfl (fun v hv => s_l16Put_t xD.Flash [] (Page.mk 1 xD.Seq x1.Chunk 0 1 xText) v hv) (.inl rfl) ?_
       intro v1 gv1 h
       refine KWp.w1 13 ?_
       refine KOp.mt 13 39 26 (.tup [(.agg [.sl false 124 3 (encs (c124 false) v1.1.Blocks)]), (.one (.sl true 99 4 (encs c99 v1.2.1))), (B v1.2.2)]) ?_
       refine KWp.w3 14 15 16 ?_ ?_ ?_
       · refine KOp.e 14 26 0 40 (.agg [.sl false 124 3 (encs (c124 false) v1.1.Blocks)]) ?_
         refine KWp.w3 15 16 17 ?_ ?_ ?_
         · refine KOp.e 15 26 1 41 (.one (.sl true 99 4 (encs c99 v1.2.1))) ?_
           refine KWp.w2 16 17 ?_ ?_
           · refine KOp.e 16 26 2 42 (B v1.2.2) ?_
             refine KWp.w1 17 ?_
             refine KOp.sb 17 [] (.box 9) [.sl false 124 3 (encs (c124 false) v1.1.Blocks)] ?_
             refine KWp.w1 18 ?_
             refine KOp.m 18 true [(.slot 41, [.junk])] 8 (.one (.sl true 99 4 (encs c99 v1.2.1))) ?_
             refine KWp.w1 19 ?_
             refine KOp.o 19 11 (B v1.2.2) ?_
             refine KWp.done ?_
             cases h
             exact ⟨_, rfl, rfl, rfl⟩
           refine KOp.sb 17 [] (.box 9) [.sl false 124 3 (encs (c124 false) v1.1.Blocks)] ?_
           refine KWp.w2 16 18 ?_ ?_
           · refine KOp.e 16 26 2 42 (B v1.2.2) ?_
             refine KWp.w1 18 ?_
             refine KOp.m 18 true [(.slot 41, [.junk])] 8 (.one (.sl true 99 4 (encs c99 v1.2.1))) ?_
             refine KWp.w1 19 ?_
             refine KOp.o 19 11 (B v1.2.2) ?_
             refine KWp.done ?_
             cases h
             exact ⟨_, rfl, rfl, rfl⟩
           refine KOp.m 18 true [(.slot 41, [.junk])] 8 (.one (.sl true 99 4 (encs c99 v1.2.1))) ?_
           refine KWp.w1 16 ?_
           refine KOp.e 16 26 2 42 (B v1.2.2) ?_
           refine KWp.w1 19 ?_
           refine KOp.o 19 11 (B v1.2.2) ?_
           refine KWp.done ?_
           cases h
           exact ⟨_, rfl, rfl, rfl⟩
         · refine KOp.e 16 26 2 42 (B v1.2.2) ?_
           refine KWp.w2 15 17 ?_ ?_
           · refine KOp.e 15 26 1 41 (.one (.sl true 99 4 (encs c99 v1.2.1))) ?_
             refine KWp.w1 17 ?_
             refine KOp.sb 17 [] (.box 9) [.sl false 124 3 (encs (c124 false) v1.1.Blocks)] ?_
             refine KWp.w1 18 ?_
             refine KOp.m 18 true [(.slot 41, [.junk])] 8 (.one (.sl true 99 4 (encs c99 v1.2.1))) ?_
             refine KWp.w1 19 ?_
             refine KOp.o 19 11 (B v1.2.2) ?_
             refine KWp.done ?_
             cases h
             exact ⟨_, rfl, rfl, rfl⟩
           refine KOp.sb 17 [] (.box 9) [.sl false 124 3 (encs (c124 false) v1.1.Blocks)] ?_
           refine KWp.w1 15 ?_
           refine KOp.e 15 26 1 41 (.one (.sl true 99 4 (encs c99 v1.2.1))) ?_
           refine KWp.w1 18 ?_
           refine KOp.m 18 true [(.slot 41, [.junk])] 8 (.one (.sl true 99 4 (encs c99 v1.2.1))) ?_
           refine KWp.w1 19 ?_
           refine KOp.o 19 11 (B v1.2.2) ?_
           refine KWp.done ?_
           cases h
           exact ⟨_, rfl, rfl, rfl⟩
         refine KOp.sb 17 [] (.box 9) [.sl false 124 3 (encs (c124 false) v1.1.Blocks)] ?_
         refine KWp.w2 15 16 ?_ ?_
         · refine KOp.e 15 26 1 41 (.one (.sl true 99 4 (encs c99 v1.2.1))) ?_
           refine KWp.w2 16 18 ?_ ?_
           · refine KOp.e 16 26 2 42 (B v1.2.2) ?_
             refine KWp.w1 18 ?_
             refine KOp.m 18 true [(.slot 41, [.junk])] 8 (.one (.sl true 99 4 (encs c99 v1.2.1))) ?_
             refine KWp.w1 19 ?_
             refine KOp.o 19 11 (B v1.2.2) ?_
             refine KWp.done ?_
             cases h
             exact ⟨_, rfl, rfl, rfl⟩
           refine KOp.m 18 true [(.slot 41, [.junk])] 8 (.one (.sl true 99 4 (encs c99 v1.2.1))) ?_
           refine KWp.w1 16 ?_
           refine KOp.e 16 26 2 42 (B v1.2.2) ?_
           refine KWp.w1 19 ?_
           refine KOp.o 19 11 (B v1.2.2) ?_
           refine KWp.done ?_
           cases h
           exact ⟨_, rfl, rfl, rfl⟩
         refine KOp.e 16 26 2 42 (B v1.2.2) ?_
         refine KWp.w1 15 ?_
         refine KOp.e 15 26 1 41 (.one (.sl true 99 4 (encs c99 v1.2.1))) ?_
         refine KWp.w1 18 ?_
         refine KOp.m 18 true [(.slot 41, [.junk])] 8 (.one (.sl true 99 4 (encs c99 v1.2.1))) ?_
         refine KWp.w1 19 ?_
         refine KOp.o 19 11 (B v1.2.2) ?_
         refine KWp.done ?_
         cases h
         exact ⟨_, rfl, rfl, rfl⟩
       · refine KOp.e 15 26 1 41 (.one (.sl true 99 4 (encs c99 v1.2.1))) ?_
         refine KWp.w2 14 16 ?_ ?_
         · refine KOp.e 14 26 0 40 (.agg [.sl false 124 3 (encs (c124 false) v1.1.Blocks)]) ?_
           refine KWp.w2 16 17 ?_ ?_
           · refine KOp.e 16 26 2 42 (B v1.2.2) ?_
             refine KWp.w1 17 ?_
             refine KOp.sb 17 [] (.box 9) [.sl false 124 3 (encs (c124 false) v1.1.Blocks)] ?_
             refine KWp.w1 18 ?_
             refine KOp.m 18 true [(.slot 41, [.junk])] 8 (.one (.sl true 99 4 (encs c99 v1.2.1))) ?_
             refine KWp.w1 19 ?_
             refine KOp.o 19 11 (B v1.2.2) ?_
             refine KWp.done ?_
             cases h
             exact ⟨_, rfl, rfl, rfl⟩
           refine KOp.sb 17 [] (.box 9) [.sl false 124 3 (encs (c124 false) v1.1.Blocks)] ?_
           refine KWp.w2 16 18 ?_ ?_
           · refine KOp.e 16 26 2 42 (B v1.2.2) ?_
             refine KWp.w1 18 ?_
             refine KOp.m 18 true [(.slot 41, [.junk])] 8 (.one (.sl true 99 4 (encs c99 v1.2.1))) ?_
             refine KWp.w1 19 ?_
             refine KOp.o 19 11 (B v1.2.2) ?_
             refine KWp.done ?_
             cases h
             exact ⟨_, rfl, rfl, rfl⟩
           refine KOp.m 18 true [(.slot 41, [.junk])] 8 (.one (.sl true 99 4 (encs c99 v1.2.1))) ?_
           refine KWp.w1 16 ?_
           refine KOp.e 16 26 2 42 (B v1.2.2) ?_
           refine KWp.w1 19 ?_
           refine KOp.o 19 11 (B v1.2.2) ?_
           refine KWp.done ?_
           cases h
           exact ⟨_, rfl, rfl, rfl⟩
         refine KOp.e 16 26 2 42 (B v1.2.2) ?_
         refine KWp.w1 14 ?_
         refine KOp.e 14 26 0 40 (.agg [.sl false 124 3 (encs (c124 false) v1.1.Blocks)]) ?_
         refine KWp.w1 17 ?_
         refine KOp.sb 17 [] (.box 9) [.sl false 124 3 (encs (c124 false) v1.1.Blocks)] ?_
         refine KWp.w1 18 ?_
         refine KOp.m 18 true [(.slot 41, [.junk])] 8 (.one (.sl true 99 4 (encs c99 v1.2.1))) ?_
         refine KWp.w1 19 ?_
         refine KOp.o 19 11 (B v1.2.2) ?_
         refine KWp.done ?_
         cases h
         exact ⟨_, rfl, rfl, rfl⟩
       refine KOp.e 16 26 2 42 (B v1.2.2) ?_
       refine KWp.w2 14 15 ?_ ?_
       · refine KOp.e 14 26 0 40 (.agg [.sl false 124 3 (encs (c124 false) v1.1.Blocks)]) ?_
         refine KWp.w2 15 17 ?_ ?_
         · refine KOp.e 15 26 1 41 (.one (.sl true 99 4 (encs c99 v1.2.1))) ?_
           refine KWp.w1 17 ?_
           refine KOp.sb 17 [] (.box 9) [.sl false 124 3 (encs (c124 false) v1.1.Blocks)] ?_
           refine KWp.w1 18 ?_
           refine KOp.m 18 true [(.slot 41, [.junk])] 8 (.one (.sl true 99 4 (encs c99 v1.2.1))) ?_
           refine KWp.w1 19 ?_
           refine KOp.o 19 11 (B v1.2.2) ?_
           refine KWp.done ?_
           cases h
           exact ⟨_, rfl, rfl, rfl⟩
         refine KOp.sb 17 [] (.box 9) [.sl false 124 3 (encs (c124 false) v1.1.Blocks)] ?_
         refine KWp.w1 15 ?_
         refine KOp.e 15 26 1 41 (.one (.sl true 99 4 (encs c99 v1.2.1))) ?_
         refine KWp.w1 18 ?_
         refine KOp.m 18 true [(.slot 41, [.junk])] 8 (.one (.sl true 99 4 (encs c99 v1.2.1))) ?_
         refine KWp.w1 19 ?_
         refine KOp.o 19 11 (B v1.2.2) ?_
         refine KWp.done ?_
         cases h
         exact ⟨_, rfl, rfl, rfl⟩
       refine KOp.e 15 26 1 41 (.one (.sl true 99 4 (encs c99 v1.2.1))) ?_
       refine KWp.w1 14 ?_
       refine KOp.e 14 26 0 40 (.agg [.sl false 124 3 (encs (c124 false) v1.1.Blocks)]) ?_
       refine KWp.w1 17 ?_
       refine KOp.sb 17 [] (.box 9) [.sl false 124 3 (encs (c124 false) v1.1.Blocks)] ?_
       refine KWp.w1 18 ?_
       refine KOp.m 18 true [(.slot 41, [.junk])] 8 (.one (.sl true 99 4 (encs c99 v1.2.1))) ?_
       refine KWp.w1 19 ?_
       refine KOp.o 19 11 (B v1.2.2) ?_
       refine KWp.done ?_
       cases h
       exact ⟨_, rfl, rfl, rfl⟩
     intro j2 h E hE
     refine nt_wp hE ?_
     change Wp _ _ _ (s_WriteSteps_H2 xD xRecs j2.1 j2.2.1 j2.2.2) _
     refine Wp.region ?_
     refine LWp.o 43 (I xD.Seq) ?_
     refine LWp.o 44 (I (ad xD.Seq 1)) ?_
     refine LWp.o 10 (I (ad xD.Seq 1)) ?_
     refine LWp.nil ?_
     cases h
     exact ⟨_, rfl, rfl, rfl⟩
   refine Wp.skip ?_
   cases h
   exact ⟨_, rfl, rfl, rfl⟩
 intro j1 h E hE
 refine nt_wp hE ?_
 change Wp _ _ _ (s_WriteSteps_H1 xD xRecs j1.1 j1.2.1 j1.2.2.1 j1.2.2.2) _
 refine Wp.seq (Wp.region ?_)
 refine LWp.o 46 (I j1.2.1) ?_
 refine LWp.o 47 (.one (.ptr (.box 3) 0 [] 5)) ?_
 refine LWp.o 48 (I xD.Tx) ?_
 refine LWp.o 49 (.one (.sl false 83 4 (encs c83 xRecs))) ?_
 refine LWp.cl h 50 (fun v2 => (.tup [(.one (.sl true 85 6 (encs c85 v2.1))), (B v2.2)])) rfl (l := [.sv (.one (.int .i64 j1.2.1)), .sv (.one (.int .i64 xD.Tx)), .sv (.one (.sl false 83 4 (encs c83 xRecs)))]) rfl (fun v hv => s_TxPages_t j1.2.1 xD.Tx xRecs v hv) (.inl rfl) ?_
 intro v2 gv2 h
 refine LWp.mt 50 45 (.tup [(.one (.sl true 85 6 (encs c85 v2.1))), (B v2.2)]) ?_
 refine LWp.e 45 0 51 (.one (.sl true 85 6 (encs c85 v2.1))) ?_
 refine LWp.e 45 1 52 (B v2.2) ?_
 refine LWp.m true [(.slot 51, [.junk])] 12 (.one (.sl true 85 6 (encs c85 v2.1))) ?_
 refine LWp.o 13 (B v2.2) ?_
 refine LWp.nil ?_
 refine Wp.seq ?_
 refine Wp.seq (Wp.region ?_)
 refine LWp.o 14 (I 0) ?_
 refine LWp.nil ?_
 refine Wp.l1 h [8, 9, 11, 12, 13, 14] [.box 9] (fun s => (s_WriteSteps_H3 v2 s.1 s.2.1 s.2.2.1 s.2.2.2)) [8, 11, 13] [] (fun s => (s_WriteSteps_H4 v2 s.1 s.2)) ⟨rfl, rfl⟩ ?_ ?_
 · rintro ⟨ySteps1, yOk1, yI1, yF01⟩ o (h : s_WriteSteps_b1 v2 ySteps1 yOk1 yI1 yF01 = some o)
   unfold s_WriteSteps_b1 at h
   change Wp _ _ _ (s_WriteSteps_H3 v2 ySteps1 yOk1 yI1 yF01) _
   refine Wp.seq ?_
   refine Wp.seq ?_
   refine Wp.j1 h [8, 9, 11, 12, 13, 14, 59] [.box 9] (fun a => (s_WriteSteps_H5 v2 ySteps1 yOk1 yI1 yF01 a)) ?_ ?_
   · intro a h
     refine Wp.region ?_
     refine LWp.o 53 (I yI1) ?_
     refine LWp.o 54 (.one (.view (.slot 12) 0 [] 0)) ?_
     refine LWp.o 55 (I (ln v2.1)) ?_ (st_pure (p_ln k85 v2.1))
     refine LWp.o 56 (B (decide (yI1 < (ln v2.1)))) ?_
     refine LWp.o 57 (B (decide (yI1 < (ln v2.1)))) ?_
     refine LWp.sp h 57 (fun h => ?_) (fun h => ?_)
     · refine LWp.o 58 (B yOk1) ?_
       refine LWp.o 59 (B yOk1) ?_
       refine LWp.nil ?_
       cases h
       exact ⟨_, rfl, rfl, rfl⟩
     refine LWp.sh 58 ?_
     refine LWp.o 59 (B false) ?_
     refine LWp.nil ?_
     cases h
     exact ⟨_, rfl, rfl, rfl⟩
   intro j3 h E hE
   refine nt_wp hE ?_
   change Wp _ _ _ (s_WriteSteps_H5 v2 ySteps1 yOk1 yI1 yF01 j3) _
   refine Wp.c h (fun h => ?_) (fun h => ?_)
   · refine Wp.skip ?_
     refine Wp.seq ?_
     refine Wp.block ?_
     refine Wp.j1 h [8, 9, 11, 12, 13, 14] [.box 9] (fun a => (s_WriteSteps_H6 v2 yI1 a.1 a.2.1 a.2.2)) ?_ ?_
     · intro a h
       refine Wp.regionK 14 [6, 11] mixed (fun c E h => by rcases h with ⟨h | h, _⟩ <;> cases h) ?_
       refine KWp.o 14 0 63 (.agg [.sl false 124 3 (encs (c124 false) yF01)]) ?_
       refine KWp.o 14 1 64 (.one (.view (.slot 8) 0 [] 0)) ?_
       refine KWp.o 14 2 65 (.one (.view (.slot 12) 0 [] 0)) ?_
       refine KWp.o 14 3 66 (I yI1) ?_
       refine KWp.p h 14 4 67 (fun _ => (.one (.ptr (.slot 12) 0 [0] (Int.toNat yI1 * 6 + 0)))) ?_ rfl (fun x2 gx2 => sl_pure (p_ix k85 (.slot 12) [] 0 gx2))
       intro x2 gx2 h
       refine KWp.o 14 5 68 (.agg [.int .i64 x2.Kind, .int .i64 x2.Seq, .int .i64 x2.Tx, .int .i64 x2.Part, .int .i64 x2.Count, .str x2.Text]) ?_ rfl (sl_pure (p_le k85 (.slot 12) [0] gx2))
       refine KWp.w1 6 ?_
       refine KOp.cv h 6 [(false, 41, .tmp 63), (true, 36, .tmp 64), (false, 85, .tmp 68)] [(.slot 8, [.junk])] 69 (fun v3 => (.tup [(.agg [.sl false 124 3 (encs (c124 false) v3.1.Blocks)]), (.one (.sl true 99 4 (encs c99 v3.2.1))), (B v3.2.2)])) rfl rfl rfl rfl (avl := [.sv (.agg [.sl false 124 3 (encs (c124 false) yF01)]), .sv (.one (.sl true 99 4 (encs c99 ySteps1))), .sv (.agg [.int .i64 x2.Kind, .int .i64 x2.Seq, .int .i64 x2.Tx, .int .i64 x2.Part, .int .i64 x2.Count, .str x2.Text])]) rfl (fun v hv => s_l16Put_t (Flash.mk yF01) ySteps1 x2 v hv) (.inl rfl) ?_
       intro v3 gv3 h
       refine KWp.w1 7 ?_
       refine KOp.mt 7 69 62 (.tup [(.agg [.sl false 124 3 (encs (c124 false) v3.1.Blocks)]), (.one (.sl true 99 4 (encs c99 v3.2.1))), (B v3.2.2)]) ?_
       refine KWp.w3 8 9 10 ?_ ?_ ?_
       · refine KOp.e 8 62 0 70 (.agg [.sl false 124 3 (encs (c124 false) v3.1.Blocks)]) ?_
         refine KWp.w3 9 10 11 ?_ ?_ ?_
         · refine KOp.e 9 62 1 71 (.one (.sl true 99 4 (encs c99 v3.2.1))) ?_
           refine KWp.w2 10 11 ?_ ?_
           · refine KOp.e 10 62 2 72 (B v3.2.2) ?_
             refine KWp.w1 11 ?_
             refine KOp.sb 11 [] (.box 9) [.sl false 124 3 (encs (c124 false) v3.1.Blocks)] ?_
             refine KWp.w1 12 ?_
             refine KOp.m 12 true [(.slot 71, [.junk])] 8 (.one (.sl true 99 4 (encs c99 v3.2.1))) ?_
             refine KWp.w1 13 ?_
             refine KOp.o 13 11 (B v3.2.2) ?_
             refine KWp.done ?_
             cases h
             exact ⟨_, rfl, rfl, rfl⟩
           refine KOp.sb 11 [] (.box 9) [.sl false 124 3 (encs (c124 false) v3.1.Blocks)] ?_
           refine KWp.w2 10 12 ?_ ?_
           · refine KOp.e 10 62 2 72 (B v3.2.2) ?_
             refine KWp.w1 12 ?_
             refine KOp.m 12 true [(.slot 71, [.junk])] 8 (.one (.sl true 99 4 (encs c99 v3.2.1))) ?_
             refine KWp.w1 13 ?_
             refine KOp.o 13 11 (B v3.2.2) ?_
             refine KWp.done ?_
             cases h
             exact ⟨_, rfl, rfl, rfl⟩
           refine KOp.m 12 true [(.slot 71, [.junk])] 8 (.one (.sl true 99 4 (encs c99 v3.2.1))) ?_
           refine KWp.w1 10 ?_
           refine KOp.e 10 62 2 72 (B v3.2.2) ?_
           refine KWp.w1 13 ?_
           refine KOp.o 13 11 (B v3.2.2) ?_
           refine KWp.done ?_
           cases h
           exact ⟨_, rfl, rfl, rfl⟩
         · refine KOp.e 10 62 2 72 (B v3.2.2) ?_
           refine KWp.w2 9 11 ?_ ?_
           · refine KOp.e 9 62 1 71 (.one (.sl true 99 4 (encs c99 v3.2.1))) ?_
             refine KWp.w1 11 ?_
             refine KOp.sb 11 [] (.box 9) [.sl false 124 3 (encs (c124 false) v3.1.Blocks)] ?_
             refine KWp.w1 12 ?_
             refine KOp.m 12 true [(.slot 71, [.junk])] 8 (.one (.sl true 99 4 (encs c99 v3.2.1))) ?_
             refine KWp.w1 13 ?_
             refine KOp.o 13 11 (B v3.2.2) ?_
             refine KWp.done ?_
             cases h
             exact ⟨_, rfl, rfl, rfl⟩
           refine KOp.sb 11 [] (.box 9) [.sl false 124 3 (encs (c124 false) v3.1.Blocks)] ?_
           refine KWp.w1 9 ?_
           refine KOp.e 9 62 1 71 (.one (.sl true 99 4 (encs c99 v3.2.1))) ?_
           refine KWp.w1 12 ?_
           refine KOp.m 12 true [(.slot 71, [.junk])] 8 (.one (.sl true 99 4 (encs c99 v3.2.1))) ?_
           refine KWp.w1 13 ?_
           refine KOp.o 13 11 (B v3.2.2) ?_
           refine KWp.done ?_
           cases h
           exact ⟨_, rfl, rfl, rfl⟩
         refine KOp.sb 11 [] (.box 9) [.sl false 124 3 (encs (c124 false) v3.1.Blocks)] ?_
         refine KWp.w2 9 10 ?_ ?_
         · refine KOp.e 9 62 1 71 (.one (.sl true 99 4 (encs c99 v3.2.1))) ?_
           refine KWp.w2 10 12 ?_ ?_
           · refine KOp.e 10 62 2 72 (B v3.2.2) ?_
             refine KWp.w1 12 ?_
             refine KOp.m 12 true [(.slot 71, [.junk])] 8 (.one (.sl true 99 4 (encs c99 v3.2.1))) ?_
             refine KWp.w1 13 ?_
             refine KOp.o 13 11 (B v3.2.2) ?_
             refine KWp.done ?_
             cases h
             exact ⟨_, rfl, rfl, rfl⟩
           refine KOp.m 12 true [(.slot 71, [.junk])] 8 (.one (.sl true 99 4 (encs c99 v3.2.1))) ?_
           refine KWp.w1 10 ?_
           refine KOp.e 10 62 2 72 (B v3.2.2) ?_
           refine KWp.w1 13 ?_
           refine KOp.o 13 11 (B v3.2.2) ?_
           refine KWp.done ?_
           cases h
           exact ⟨_, rfl, rfl, rfl⟩
         refine KOp.e 10 62 2 72 (B v3.2.2) ?_
         refine KWp.w1 9 ?_
         refine KOp.e 9 62 1 71 (.one (.sl true 99 4 (encs c99 v3.2.1))) ?_
         refine KWp.w1 12 ?_
         refine KOp.m 12 true [(.slot 71, [.junk])] 8 (.one (.sl true 99 4 (encs c99 v3.2.1))) ?_
         refine KWp.w1 13 ?_
         refine KOp.o 13 11 (B v3.2.2) ?_
         refine KWp.done ?_
         cases h
         exact ⟨_, rfl, rfl, rfl⟩
       · refine KOp.e 9 62 1 71 (.one (.sl true 99 4 (encs c99 v3.2.1))) ?_
         refine KWp.w2 8 10 ?_ ?_
         · refine KOp.e 8 62 0 70 (.agg [.sl false 124 3 (encs (c124 false) v3.1.Blocks)]) ?_
           refine KWp.w2 10 11 ?_ ?_
           · refine KOp.e 10 62 2 72 (B v3.2.2) ?_
             refine KWp.w1 11 ?_
             refine KOp.sb 11 [] (.box 9) [.sl false 124 3 (encs (c124 false) v3.1.Blocks)] ?_
             refine KWp.w1 12 ?_
             refine KOp.m 12 true [(.slot 71, [.junk])] 8 (.one (.sl true 99 4 (encs c99 v3.2.1))) ?_
             refine KWp.w1 13 ?_
             refine KOp.o 13 11 (B v3.2.2) ?_
             refine KWp.done ?_
             cases h
             exact ⟨_, rfl, rfl, rfl⟩
           refine KOp.sb 11 [] (.box 9) [.sl false 124 3 (encs (c124 false) v3.1.Blocks)] ?_
           refine KWp.w2 10 12 ?_ ?_
           · refine KOp.e 10 62 2 72 (B v3.2.2) ?_
             refine KWp.w1 12 ?_
             refine KOp.m 12 true [(.slot 71, [.junk])] 8 (.one (.sl true 99 4 (encs c99 v3.2.1))) ?_
             refine KWp.w1 13 ?_
             refine KOp.o 13 11 (B v3.2.2) ?_
             refine KWp.done ?_
             cases h
             exact ⟨_, rfl, rfl, rfl⟩
           refine KOp.m 12 true [(.slot 71, [.junk])] 8 (.one (.sl true 99 4 (encs c99 v3.2.1))) ?_
           refine KWp.w1 10 ?_
           refine KOp.e 10 62 2 72 (B v3.2.2) ?_
           refine KWp.w1 13 ?_
           refine KOp.o 13 11 (B v3.2.2) ?_
           refine KWp.done ?_
           cases h
           exact ⟨_, rfl, rfl, rfl⟩
         refine KOp.e 10 62 2 72 (B v3.2.2) ?_
         refine KWp.w1 8 ?_
         refine KOp.e 8 62 0 70 (.agg [.sl false 124 3 (encs (c124 false) v3.1.Blocks)]) ?_
         refine KWp.w1 11 ?_
         refine KOp.sb 11 [] (.box 9) [.sl false 124 3 (encs (c124 false) v3.1.Blocks)] ?_
         refine KWp.w1 12 ?_
         refine KOp.m 12 true [(.slot 71, [.junk])] 8 (.one (.sl true 99 4 (encs c99 v3.2.1))) ?_
         refine KWp.w1 13 ?_
         refine KOp.o 13 11 (B v3.2.2) ?_
         refine KWp.done ?_
         cases h
         exact ⟨_, rfl, rfl, rfl⟩
       refine KOp.e 10 62 2 72 (B v3.2.2) ?_
       refine KWp.w2 8 9 ?_ ?_
       · refine KOp.e 8 62 0 70 (.agg [.sl false 124 3 (encs (c124 false) v3.1.Blocks)]) ?_
         refine KWp.w2 9 11 ?_ ?_
         · refine KOp.e 9 62 1 71 (.one (.sl true 99 4 (encs c99 v3.2.1))) ?_
           refine KWp.w1 11 ?_
           refine KOp.sb 11 [] (.box 9) [.sl false 124 3 (encs (c124 false) v3.1.Blocks)] ?_
           refine KWp.w1 12 ?_
           refine KOp.m 12 true [(.slot 71, [.junk])] 8 (.one (.sl true 99 4 (encs c99 v3.2.1))) ?_
           refine KWp.w1 13 ?_
           refine KOp.o 13 11 (B v3.2.2) ?_
           refine KWp.done ?_
           cases h
           exact ⟨_, rfl, rfl, rfl⟩
         refine KOp.sb 11 [] (.box 9) [.sl false 124 3 (encs (c124 false) v3.1.Blocks)] ?_
         refine KWp.w1 9 ?_
         refine KOp.e 9 62 1 71 (.one (.sl true 99 4 (encs c99 v3.2.1))) ?_
         refine KWp.w1 12 ?_
         refine KOp.m 12 true [(.slot 71, [.junk])] 8 (.one (.sl true 99 4 (encs c99 v3.2.1))) ?_
         refine KWp.w1 13 ?_
         refine KOp.o 13 11 (B v3.2.2) ?_
         refine KWp.done ?_
         cases h
         exact ⟨_, rfl, rfl, rfl⟩
       refine KOp.e 9 62 1 71 (.one (.sl true 99 4 (encs c99 v3.2.1))) ?_
       refine KWp.w1 8 ?_
       refine KOp.e 8 62 0 70 (.agg [.sl false 124 3 (encs (c124 false) v3.1.Blocks)]) ?_
       refine KWp.w1 11 ?_
       refine KOp.sb 11 [] (.box 9) [.sl false 124 3 (encs (c124 false) v3.1.Blocks)] ?_
       refine KWp.w1 12 ?_
       refine KOp.m 12 true [(.slot 71, [.junk])] 8 (.one (.sl true 99 4 (encs c99 v3.2.1))) ?_
       refine KWp.w1 13 ?_
       refine KOp.o 13 11 (B v3.2.2) ?_
       refine KWp.done ?_
       cases h
       exact ⟨_, rfl, rfl, rfl⟩
     intro j4 h E hE
     refine nt_wp hE ?_
     change Wp _ _ _ (s_WriteSteps_H6 v2 yI1 j4.1 j4.2.1 j4.2.2) _
     refine Wp.region ?_
     refine LWp.o 60 (I yI1) ?_
     refine LWp.o 61 (I (ad yI1 1)) ?_
     refine LWp.o 14 (I (ad yI1 1)) ?_
     refine LWp.nil ?_
     cases h
     exact ⟨_, rfl, rfl, rfl⟩
   refine Wp.exit ?_
   cases h
   exact ⟨_, rfl, rfl, rfl⟩
 intro v4 h E hE
 refine nt_wp hE ?_
 change Wp _ _ _ (s_WriteSteps_H4 v2 v4.1 v4.2) _
 refine Wp.seq ?_
 refine Wp.seq ?_
 refine Wp.j1 h [8, 78] [] (fun a => (s_WriteSteps_H7 v4 a)) ?_ ?_
 · intro a h
   refine Wp.region ?_
   refine LWp.o 73 (B v4.2) ?_
   refine LWp.o 74 (B (!v4.2)) ?_
   refine LWp.o 75 (B (!v4.2)) ?_
   refine LWp.sp h 75 (fun h => ?_) (fun h => ?_)
   · refine LWp.sh 76 ?_
     refine LWp.sh 77 ?_
     refine LWp.o 78 (B true) ?_
     refine LWp.nil ?_
     cases h
     exact ⟨_, rfl, rfl, rfl⟩
   refine LWp.o 76 (B v2.2) ?_
   refine LWp.o 77 (B (!v2.2)) ?_
   refine LWp.o 78 (B (!v2.2)) ?_
   refine LWp.nil ?_
   cases h
   exact ⟨_, rfl, rfl, rfl⟩
 intro j5 h E hE
 refine nt_wp hE ?_
 change Wp _ _ _ (s_WriteSteps_H7 v4 j5) _
 refine Wp.c h (fun h => ?_) (fun h => ?_)
 · refine Wp.seq (Wp.region ?_)
   refine LWp.m false [] 79 (.one (.sl true 99 4 (encs c99 []))) ?_
   refine LWp.m true [(.slot 79, [.junk])] 6 (.one (.sl true 99 4 (encs c99 []))) ?_
   refine LWp.o 7 (B false) ?_
   refine LWp.nil ?_
   cases h
   exact Wp.ret ⟨.inr rfl, _, _, rfl, rfl⟩
 refine Wp.skip ?_
 refine Wp.seq (Wp.region ?_)
 refine LWp.o 80 (.one (.view (.slot 8) 0 [] 0)) ?_
 refine LWp.m true [(.slot 8, [.junk])] 6 (.one (.sl true 99 4 (encs c99 v4.1))) ?_
 refine LWp.o 7 (B true) ?_
 refine LWp.nil ?_
 cases h
 exact Wp.ret ⟨.inr rfl, _, _, rfl, rfl⟩
theorem i_in_t (xN : Int) (xLow : Int) (xHigh : Int) (r : Bool) (h : i_in xN xLow xHigh = some r) : Gives Tryz.prog 92 [.sv (I xN), .sv (I xLow), .sv (I xHigh)] (B r) (List.replicate 3 .gone) := by
 unfold i_in at h
 refine gives_of Tryz.func92 rfl ?_
 rw [Tryz.ntmps92]
 refine Wp.seq (Wp.region ?_)
 refine LWp.o 6 (B false) ?_
 refine LWp.nil ?_
 refine Wp.seq (Wp.region ?_)
 refine LWp.o 7 (I xN) ?_
 refine LWp.o 8 (I xLow) ?_
 refine LWp.o 9 (B (decide (xN ≥ xLow))) ?_
 refine LWp.o 10 (B (decide (xN ≥ xLow))) ?_
 refine LWp.sp h 10 (fun h => ?_) (fun h => ?_)
 · refine LWp.o 11 (I xN) ?_
   refine LWp.o 12 (I xHigh) ?_
   refine LWp.o 13 (B (decide (xN ≤ xHigh))) ?_
   refine LWp.o 14 (B (decide (xN ≤ xHigh))) ?_
   refine LWp.o 6 (B (decide (xN ≤ xHigh))) ?_
   refine LWp.nil ?_
   cases h
   exact Wp.ret ⟨.inr rfl, _, _, rfl, rfl⟩
 refine LWp.sh 11 ?_
 refine LWp.sh 12 ?_
 refine LWp.sh 13 ?_
 refine LWp.o 14 (B false) ?_
 refine LWp.o 6 (B false) ?_
 refine LWp.nil ?_
 cases h
 exact Wp.ret ⟨.inr rfl, _, _, rfl, rfl⟩
def i_PageOk_H1 (xP : Page) (z1 : Bool) : St := mkSt [(1, (.one (.ptr (.box 1) 0 [] 0))), (33, (B z1))] [(.box 1, [.int .i64 xP.Kind, .int .i64 xP.Seq, .int .i64 xP.Tx, .int .i64 xP.Part, .int .i64 xP.Count, .str xP.Text])]
theorem i_PageOk_t (xP : Page) (r : Bool) (h : i_PageOk xP = some r) : Gives Tryz.prog 134 [.sv (.agg [.int .i64 xP.Kind, .int .i64 xP.Seq, .int .i64 xP.Tx, .int .i64 xP.Part, .int .i64 xP.Count, .str xP.Text])] (B r) (List.replicate 1 .gone) := by
 unfold i_PageOk at h
 refine gives_of Tryz.func134 rfl ?_
 rw [Tryz.ntmps134]
 refine Wp.seq (Wp.region ?_)
 refine LWp.b [] 1 [.int .i64 xP.Kind, .int .i64 xP.Seq, .int .i64 xP.Tx, .int .i64 xP.Part, .int .i64 xP.Count, .str xP.Text] ?_
 refine LWp.o 2 (B false) ?_
 refine LWp.nil ?_
 refine Wp.seq ?_
 refine Wp.seq ?_
 refine Wp.j1 h [1, 33] [.box 1] (fun a => (i_PageOk_H1 xP a)) ?_ ?_
 · intro a h
   refine Wp.region ?_
   refine LWp.o 3 (.one (.ptr (.box 1) 1 [] 1)) ?_
   refine LWp.o 4 (I xP.Seq) ?_
   refine LWp.cl h 5 (fun v1 => (B v1)) rfl (l := [.sv (.one (.int .i64 xP.Seq)), .sv (.one (.int .i64 1)), .sv (.one (.int .i64 1000000000))]) rfl (fun v hv => i_in_t xP.Seq 1 1000000000 v hv) (.inl rfl) ?_
   intro v1 gv1 h
   refine LWp.o 6 (B (!v1)) ?_
   refine LWp.o 7 (B (!v1)) ?_
   refine LWp.sp h 7 (fun h => ?_) (fun h => ?_)
   · refine LWp.sh 8 ?_
     refine LWp.sh 9 ?_
     refine LWp.sh 10 ?_
     refine LWp.sh 11 ?_
     refine LWp.o 12 (B true) ?_
     refine LWp.o 13 (B true) ?_
     refine LWp.sh 14 ?_
     refine LWp.sh 15 ?_
     refine LWp.sh 16 ?_
     refine LWp.sh 17 ?_
     refine LWp.o 18 (B true) ?_
     refine LWp.o 19 (B true) ?_
     refine LWp.sh 20 ?_
     refine LWp.sh 21 ?_
     refine LWp.sh 22 ?_
     refine LWp.sh 23 ?_
     refine LWp.sh 24 ?_
     refine LWp.sh 25 ?_
     refine LWp.sh 26 ?_
     refine LWp.o 27 (B true) ?_
     refine LWp.o 28 (B true) ?_
     refine LWp.sh 29 ?_
     refine LWp.sh 30 ?_
     refine LWp.sh 31 ?_
     refine LWp.sh 32 ?_
     refine LWp.o 33 (B true) ?_
     refine LWp.nil ?_
     cases h
     exact ⟨_, rfl, rfl, rfl⟩
   refine LWp.o 8 (.one (.ptr (.box 1) 1 [] 2)) ?_
   refine LWp.o 9 (I xP.Tx) ?_
   refine LWp.cl h 10 (fun v2 => (B v2)) rfl (l := [.sv (.one (.int .i64 xP.Tx)), .sv (.one (.int .i64 1)), .sv (.one (.int .i64 1000000000))]) rfl (fun v hv => i_in_t xP.Tx 1 1000000000 v hv) (.inl rfl) ?_
   intro v2 gv2 h
   refine LWp.o 11 (B (!v2)) ?_
   refine LWp.o 12 (B (!v2)) ?_
   refine LWp.o 13 (B (!v2)) ?_
   refine LWp.sp h 13 (fun h => ?_) (fun h => ?_)
   · refine LWp.sh 14 ?_
     refine LWp.sh 15 ?_
     refine LWp.sh 16 ?_
     refine LWp.sh 17 ?_
     refine LWp.o 18 (B true) ?_
     refine LWp.o 19 (B true) ?_
     refine LWp.sh 20 ?_
     refine LWp.sh 21 ?_
     refine LWp.sh 22 ?_
     refine LWp.sh 23 ?_
     refine LWp.sh 24 ?_
     refine LWp.sh 25 ?_
     refine LWp.sh 26 ?_
     refine LWp.o 27 (B true) ?_
     refine LWp.o 28 (B true) ?_
     refine LWp.sh 29 ?_
     refine LWp.sh 30 ?_
     refine LWp.sh 31 ?_
     refine LWp.sh 32 ?_
     refine LWp.o 33 (B true) ?_
     refine LWp.nil ?_
     cases h
     exact ⟨_, rfl, rfl, rfl⟩
   refine LWp.o 14 (.one (.ptr (.box 1) 1 [] 4)) ?_
   refine LWp.o 15 (I xP.Count) ?_
   refine LWp.cl h 16 (fun v3 => (B v3)) rfl (l := [.sv (.one (.int .i64 xP.Count)), .sv (.one (.int .i64 1)), .sv (.one (.int .i64 9))]) rfl (fun v hv => i_in_t xP.Count 1 9 v hv) (.inl rfl) ?_
   intro v3 gv3 h
   refine LWp.o 17 (B (!v3)) ?_
   refine LWp.o 18 (B (!v3)) ?_
   refine LWp.o 19 (B (!v3)) ?_
   refine LWp.sp h 19 (fun h => ?_) (fun h => ?_)
   · refine LWp.sh 20 ?_
     refine LWp.sh 21 ?_
     refine LWp.sh 22 ?_
     refine LWp.sh 23 ?_
     refine LWp.sh 24 ?_
     refine LWp.sh 25 ?_
     refine LWp.sh 26 ?_
     refine LWp.o 27 (B true) ?_
     refine LWp.o 28 (B true) ?_
     refine LWp.sh 29 ?_
     refine LWp.sh 30 ?_
     refine LWp.sh 31 ?_
     refine LWp.sh 32 ?_
     refine LWp.o 33 (B true) ?_
     refine LWp.nil ?_
     cases h
     exact ⟨_, rfl, rfl, rfl⟩
   refine LWp.o 20 (.one (.ptr (.box 1) 1 [] 3)) ?_
   refine LWp.o 21 (I xP.Part) ?_
   refine LWp.o 22 (.one (.ptr (.box 1) 1 [] 4)) ?_
   refine LWp.o 23 (I xP.Count) ?_
   refine LWp.o 24 (I (sb xP.Count 1)) ?_
   refine LWp.cl h 25 (fun v4 => (B v4)) rfl (l := [.sv (.one (.int .i64 xP.Part)), .sv (.one (.int .i64 0)), .sv (.one (.int .i64 (sb xP.Count 1)))]) rfl (fun v hv => i_in_t xP.Part 0 (sb xP.Count 1) v hv) (.inl rfl) ?_
   intro v4 gv4 h
   refine LWp.o 26 (B (!v4)) ?_
   refine LWp.o 27 (B (!v4)) ?_
   refine LWp.o 28 (B (!v4)) ?_
   refine LWp.sp h 28 (fun h => ?_) (fun h => ?_)
   · refine LWp.sh 29 ?_
     refine LWp.sh 30 ?_
     refine LWp.sh 31 ?_
     refine LWp.sh 32 ?_
     refine LWp.o 33 (B true) ?_
     refine LWp.nil ?_
     cases h
     exact ⟨_, rfl, rfl, rfl⟩
   refine LWp.o 29 (.one (.ptr (.box 1) 1 [] 5)) ?_
   refine LWp.o 30 (Y xP.Text) ?_
   refine LWp.o 31 (I (sln xP.Text)) ?_
   refine LWp.o 32 (B (decide ((sln xP.Text) > 90))) ?_
   refine LWp.o 33 (B (decide ((sln xP.Text) > 90))) ?_
   refine LWp.nil ?_
   cases h
   exact ⟨_, rfl, rfl, rfl⟩
 intro j1 h E hE
 refine nt_wp hE ?_
 change Wp _ _ _ (i_PageOk_H1 xP j1) _
 refine Wp.c h (fun h => ?_) (fun h => ?_)
 · refine Wp.seq (Wp.region ?_)
   refine LWp.o 2 (B false) ?_
   refine LWp.nil ?_
   cases h
   exact Wp.ret ⟨.inr rfl, _, _, rfl, rfl⟩
 refine Wp.skip ?_
 refine Wp.seq (Wp.region ?_)
 refine LWp.o 34 (.one (.ptr (.box 1) 0 [] 0)) ?_
 refine LWp.o 35 (I xP.Kind) ?_
 refine LWp.o 36 (B (xP.Kind == 2)) ?_
 refine LWp.o 37 (B (xP.Kind == 2)) ?_
 refine LWp.sp h 37 (fun h => ?_) (fun h => ?_)
 · refine LWp.sh 38 ?_
   refine LWp.sh 39 ?_
   refine LWp.sh 40 ?_
   refine LWp.sh 41 ?_
   refine LWp.sh 42 ?_
   refine LWp.sh 43 ?_
   refine LWp.sh 44 ?_
   refine LWp.sh 45 ?_
   refine LWp.o 46 (B true) ?_
   refine LWp.o 2 (B true) ?_
   refine LWp.nil ?_
   cases h
   exact Wp.ret ⟨.inr rfl, _, _, rfl, rfl⟩
 refine LWp.o 38 (.one (.ptr (.box 1) 0 [] 0)) ?_
 refine LWp.o 39 (I xP.Kind) ?_
 refine LWp.o 40 (B (xP.Kind == 1)) ?_
 refine LWp.o 41 (B (xP.Kind == 1)) ?_
 refine LWp.sp h 41 (fun h => ?_) (fun h => ?_)
 · refine LWp.o 42 (.one (.ptr (.box 1) 0 [] 4)) ?_
   refine LWp.o 43 (I xP.Count) ?_
   refine LWp.o 44 (B (xP.Count == 1)) ?_
   refine LWp.o 45 (B (xP.Count == 1)) ?_
   refine LWp.o 46 (B (xP.Count == 1)) ?_
   refine LWp.o 2 (B (xP.Count == 1)) ?_
   refine LWp.nil ?_
   cases h
   exact Wp.ret ⟨.inr rfl, _, _, rfl, rfl⟩
 refine LWp.sh 42 ?_
 refine LWp.sh 43 ?_
 refine LWp.sh 44 ?_
 refine LWp.o 45 (B false) ?_
 refine LWp.o 46 (B false) ?_
 refine LWp.o 2 (B false) ?_
 refine LWp.nil ?_
 cases h
 exact Wp.ret ⟨.inr rfl, _, _, rfl, rfl⟩
def i_VarText_H1 (z1 : Int) (z2 : List Int) : St := mkSt [(0, (I z1)), (4, (.one (.sl true 5 1 (encs c5 z2))))] []
def i_VarText_H2 (z3 : Int) (z4 : List Int) : St := mkSt [(0, (I z3)), (4, (.one (.sl true 5 1 (encs c5 z4))))] []
theorem i_VarText_t (xN : Int) (r : ByteArray × Bool) (h : i_VarText xN = some r) : Gives Tryz.prog 173 [.sv (I xN)] (.tup [(Y r.1), (B r.2)]) (List.replicate 1 .gone) := by
 unfold i_VarText at h
 refine gives_of Tryz.func173 rfl ?_
 rw [Tryz.ntmps173]
 refine Wp.seq (Wp.region ?_)
 refine LWp.o 2 (Y (bs [])) ?_
 refine LWp.o 3 (B false) ?_
 refine LWp.nil ?_
 refine Wp.seq ?_
 refine Wp.seq (Wp.region ?_)
 refine LWp.o 5 (I xN) ?_
 refine LWp.cl h 6 (fun v1 => (B v1)) rfl (l := [.sv (.one (.int .i64 xN)), .sv (.one (.int .i64 0)), .sv (.one (.int .i64 1000000000))]) rfl (fun v hv => i_in_t xN 0 1000000000 v hv) (.inl rfl) ?_
 intro v1 gv1 h
 refine LWp.o 7 (B (!v1)) ?_
 refine LWp.nil ?_
 refine Wp.c h (fun h => ?_) (fun h => ?_)
 · refine Wp.seq (Wp.region ?_)
   refine LWp.o 2 (Y (bs [])) ?_
   refine LWp.o 3 (B false) ?_
   refine LWp.nil ?_
   cases h
   exact Wp.ret ⟨.inr rfl, _, _, rfl, rfl⟩
 refine Wp.skip ?_
 refine Wp.seq (Wp.region ?_)
 refine LWp.o 4 (.one (.sl true 5 1 (encs c5 []))) ?_
 refine LWp.nil ?_
 refine Wp.seq ?_
 refine Wp.l1 h [0, 4] [] (fun s => (i_VarText_H1 s.1 s.2)) [0, 4] [] (fun s => (i_VarText_H2 s.1 s.2)) ⟨rfl, rfl⟩ ?_ ?_
 · rintro ⟨yN1, yOut1⟩ o (h : i_VarText_b1 yN1 yOut1 = some o)
   unfold i_VarText_b1 at h
   change Wp _ _ _ (i_VarText_H1 yN1 yOut1) _
   refine Wp.seq ?_
   refine Wp.seq (Wp.region ?_)
   refine LWp.o 8 (I yN1) ?_
   refine LWp.o 9 (B (decide (yN1 > 127))) ?_
   refine LWp.nil ?_
   refine Wp.c h (fun h => ?_) (fun h => ?_)
   · refine Wp.skip ?_
     refine Wp.block ?_
     refine Wp.seq (Wp.region ?_)
     refine LWp.o 10 (.one (.view (.slot 4) 0 [] 0)) ?_
     refine LWp.o 11 (I yN1) ?_
     refine LWp.o 12 (I (Int.tmod yN1 128)) ?_
     refine LWp.o 13 (I (ad (Int.tmod yN1 128) 128)) ?_
     refine LWp.o 14 (.one (.int .u8 (IntKind.u8.wrap (ad (Int.tmod yN1 128) 128)))) ?_
     refine LWp.m false [] 15 (.one (.sl true 5 1 (encs c5 [(IntKind.u8.wrap (ad (Int.tmod yN1 128) 128))]))) ?_
     refine LWp.pm h [(.slot 4, [.junk])] 16 (fun q1 => (.one (.sl true 5 1 (encs c5 q1)))) ?_ (fun q1 gq1 => s_apl k5 (fun _ => rfl) [(.slot 4, [.junk])] yOut1 gq1)
     intro q1 gq1 h
     refine LWp.m true [(.slot 16, [.junk])] 4 (.one (.sl true 5 1 (encs c5 q1))) ?_
     refine LWp.nil ?_
     refine Wp.region ?_
     refine LWp.o 17 (I yN1) ?_
     refine LWp.o 18 (I (qu yN1 128)) ?_
     refine LWp.o 0 (I (qu yN1 128)) ?_
     refine LWp.nil ?_
     cases h
     exact ⟨_, rfl, rfl, rfl⟩
   refine Wp.exit ?_
   cases h
   exact ⟨_, rfl, rfl, rfl⟩
 intro v2 h E hE
 refine nt_wp hE ?_
 change Wp _ _ _ (i_VarText_H2 v2.1 v2.2) _
 refine Wp.seq (Wp.region ?_)
 refine LWp.o 19 (.one (.view (.slot 4) 0 [] 0)) ?_
 refine LWp.o 20 (I v2.1) ?_
 refine LWp.o 21 (.one (.int .u8 (IntKind.u8.wrap v2.1))) ?_
 refine LWp.m false [] 22 (.one (.sl true 5 1 (encs c5 [(IntKind.u8.wrap v2.1)]))) ?_
 refine LWp.pm h [(.slot 4, [.junk])] 23 (fun q2 => (.one (.sl true 5 1 (encs c5 q2)))) ?_ (fun q2 gq2 => s_apl k5 (fun _ => rfl) [(.slot 4, [.junk])] v2.2 gq2)
 intro q2 gq2 h
 refine LWp.o 24 (Y (strB q2)) ?_ (st_pure (p_cv (fun _ => rfl) q2))
 refine LWp.o 2 (Y (strB q2)) ?_
 refine LWp.o 3 (B true) ?_
 refine LWp.nil ?_
 cases h
 exact Wp.ret ⟨.inr rfl, _, _, rfl, rfl⟩
theorem i_varOf_t (xN : Int) (r : ByteArray) (h : i_varOf xN = some r) : Gives Tryz.prog 136 [.sv (I xN)] (Y r) (List.replicate 1 .gone) := by
 unfold i_varOf at h
 refine gives_of Tryz.func136 rfl ?_
 rw [Tryz.ntmps136]
 refine Wp.seq (Wp.region ?_)
 refine LWp.o 2 (Y (bs [])) ?_
 refine LWp.nil ?_
 refine Wp.seq (Wp.region ?_)
 refine LWp.o 6 (I xN) ?_
 refine LWp.cl h 7 (fun v1 => (.tup [(Y v1.1), (B v1.2)])) rfl (l := [.sv (.one (.int .i64 xN))]) rfl (fun v hv => i_VarText_t xN v hv) (.inl rfl) ?_
 intro v1 gv1 h
 refine LWp.mt 7 5 (.tup [(Y v1.1), (B v1.2)]) ?_
 refine LWp.e 5 0 8 (Y v1.1) ?_
 refine LWp.e 5 1 9 (B v1.2) ?_
 refine LWp.o 3 (Y v1.1) ?_
 refine LWp.o 4 (B v1.2) ?_
 refine LWp.nil ?_
 refine Wp.seq (Wp.region ?_)
 refine LWp.o 10 (Y v1.1) ?_
 refine LWp.o 2 (Y v1.1) ?_
 refine LWp.nil ?_
 cases h
 exact Wp.ret ⟨.inr rfl, _, _, rfl, rfl⟩
def i_SumMore_H1 (xText : ByteArray) (z1 : Int) (z2 : Int) : St := mkSt [(0, (.one (.int .u32 z1))), (1, (Y xText)), (5, (I z2))] []
def i_SumMore_H2 (z3 : Int) : St := mkSt [(0, (.one (.int .u32 z3)))] []
def i_SumMore_H3 (xText : ByteArray) (yI1 : Int) (z4 : Int) (z5 : Int) : St := mkSt [(0, (.one (.int .u32 z4))), (1, (Y xText)), (5, (I yI1)), (19, (I z5))] []
def i_SumMore_H4 (xText : ByteArray) (yI1 : Int) (z6 : Int) : St := mkSt [(0, (.one (.int .u32 z6))), (1, (Y xText)), (5, (I yI1))] []
theorem i_SumMore_t (xSum : Int) (xText : ByteArray) (r : Int) (h : i_SumMore xSum xText = some r) : Gives Tryz.prog 203 [.sv (.one (.int .u32 xSum)), .sv (Y xText)] (.one (.int .u32 r)) (List.replicate 2 .gone) := by
 unfold i_SumMore at h
 refine gives_of Tryz.func203 rfl ?_
 rw [Tryz.ntmps203]
 refine Wp.seq (Wp.region ?_)
 refine LWp.o 4 (.one (.int .u32 0)) ?_
 refine LWp.nil ?_
 refine Wp.seq ?_
 refine Wp.seq (Wp.region ?_)
 refine LWp.o 5 (I 0) ?_
 refine LWp.nil ?_
 refine Wp.l1 h [0, 1, 5] [] (fun s => (i_SumMore_H1 xText s.1 s.2)) [0] [] (fun s => (i_SumMore_H2 s)) ⟨rfl, rfl⟩ ?_ ?_
 · rintro ⟨ySum1, yI1⟩ o (h : i_SumMore_b1 xText ySum1 yI1 = some o)
   unfold i_SumMore_b1 at h
   change Wp _ _ _ (i_SumMore_H1 xText ySum1 yI1) _
   refine Wp.seq ?_
   refine Wp.seq (Wp.region ?_)
   refine LWp.o 7 (I yI1) ?_
   refine LWp.o 8 (Y xText) ?_
   refine LWp.o 9 (I (sln xText)) ?_
   refine LWp.o 10 (B (decide (yI1 < (sln xText)))) ?_
   refine LWp.nil ?_
   refine Wp.c h (fun h => ?_) (fun h => ?_)
   · refine Wp.skip ?_
     refine Wp.seq ?_
     refine Wp.block ?_
     refine Wp.seq (Wp.region ?_)
     refine LWp.o 13 (.one (.int .u32 ySum1)) ?_
     refine LWp.o 14 (Y xText) ?_
     refine LWp.o 15 (I yI1) ?_
     refine LWp.p h 16 (fun x1 => (.one (.int .u8 x1))) ?_ (fun x1 gx1 => st_pure (p_sx gx1))
     intro x1 gx1 h
     refine LWp.o 17 (.one (.int .u32 (IntKind.u32.wrap x1))) ?_
     refine LWp.o 18 (.one (.int .u32 (xr ySum1 (IntKind.u32.wrap x1)))) ?_
     refine LWp.o 0 (.one (.int .u32 (xr ySum1 (IntKind.u32.wrap x1)))) ?_
     refine LWp.nil ?_
     refine Wp.seq (Wp.region ?_)
     refine LWp.o 19 (I 0) ?_
     refine LWp.nil ?_
     refine Wp.l1 h [0, 1, 5, 19] [] (fun s => (i_SumMore_H3 xText yI1 s.1 s.2)) [0, 1, 5] [] (fun s => (i_SumMore_H4 xText yI1 s)) ⟨rfl, rfl⟩ ?_ ?_
     · rintro ⟨ySum2, y1⟩ o (h : i_SumMore_b2 ySum2 y1 = some o)
       unfold i_SumMore_b2 at h
       change Wp _ _ _ (i_SumMore_H3 xText yI1 ySum2 y1) _
       refine Wp.seq (Wp.region ?_)
       refine LWp.o 20 (B (decide (y1 < 8))) ?_
       refine LWp.nil ?_
       refine Wp.seq ?_
       refine Wp.c h (fun h => ?_) (fun h => ?_)
       · refine Wp.skip ?_
         refine Wp.seq ?_
         refine Wp.block ?_
         refine Wp.seq (Wp.region ?_)
         refine LWp.o 21 (.one (.int .u32 ySum2)) ?_
         refine LWp.o 22 (.one (.int .u32 (an ySum2 1))) ?_
         refine LWp.o 6 (.one (.int .u32 (an ySum2 1))) ?_
         refine LWp.nil ?_
         refine Wp.seq (Wp.region ?_)
         refine LWp.o 23 (.one (.int .u32 ySum2)) ?_
         refine LWp.o 24 (.one (.int .u32 (Int.fdiv ySum2 (2 ^ (min (1 : Int).toNat IntKind.u32.bits))))) ?_
         refine LWp.o 0 (.one (.int .u32 (Int.fdiv ySum2 (2 ^ (min (1 : Int).toNat IntKind.u32.bits))))) ?_
         refine LWp.nil ?_
         refine Wp.seq (Wp.region ?_)
         refine LWp.o 25 (.one (.int .u32 (an ySum2 1))) ?_
         refine LWp.o 26 (B ((an ySum2 1) == 1)) ?_
         refine LWp.nil ?_
         refine Wp.c h (fun h => ?_) (fun h => ?_)
         · refine Wp.region ?_
           refine LWp.o 27 (.one (.int .u32 (Int.fdiv ySum2 (2 ^ (min (1 : Int).toNat IntKind.u32.bits))))) ?_
           refine LWp.o 28 (.one (.int .u32 (xr (Int.fdiv ySum2 (2 ^ (min (1 : Int).toNat IntKind.u32.bits))) 3558460437))) ?_
           refine LWp.o 0 (.one (.int .u32 (xr (Int.fdiv ySum2 (2 ^ (min (1 : Int).toNat IntKind.u32.bits))) 3558460437))) ?_
           refine LWp.nil ?_
           refine Wp.region ?_
           refine LWp.o 29 (I (ad y1 1)) ?_
           refine LWp.o 19 (I (ad y1 1)) ?_
           refine LWp.nil ?_
           cases h
           exact ⟨_, rfl, rfl, rfl⟩
         refine Wp.skip ?_
         refine Wp.region ?_
         refine LWp.o 29 (I (ad y1 1)) ?_
         refine LWp.o 19 (I (ad y1 1)) ?_
         refine LWp.nil ?_
         cases h
         exact ⟨_, rfl, rfl, rfl⟩
       refine Wp.exit ?_
       cases h
       exact ⟨_, rfl, rfl, rfl⟩
     intro v1 h E hE
     refine nt_wp hE ?_
     change Wp _ _ _ (i_SumMore_H4 xText yI1 v1) _
     refine Wp.region ?_
     refine LWp.o 11 (I yI1) ?_
     refine LWp.o 12 (I (ad yI1 1)) ?_
     refine LWp.o 5 (I (ad yI1 1)) ?_
     refine LWp.nil ?_
     cases h
     exact ⟨_, rfl, rfl, rfl⟩
   refine Wp.exit ?_
   cases h
   exact ⟨_, rfl, rfl, rfl⟩
 intro v2 h E hE
 refine nt_wp hE ?_
 change Wp _ _ _ (i_SumMore_H2 v2) _
 refine Wp.seq (Wp.region ?_)
 refine LWp.o 30 (.one (.int .u32 v2)) ?_
 refine LWp.o 4 (.one (.int .u32 v2)) ?_
 refine LWp.nil ?_
 cases h
 exact Wp.ret ⟨.inr rfl, _, _, rfl, rfl⟩
theorem i_SumOf_t (xText : ByteArray) (r : Int) (h : i_SumOf xText = some r) : Gives Tryz.prog 172 [.sv (Y xText)] (.one (.int .u32 r)) (List.replicate 1 .gone) := by
 unfold i_SumOf at h
 refine gives_of Tryz.func172 rfl ?_
 rw [Tryz.ntmps172]
 refine Wp.seq (Wp.region ?_)
 refine LWp.o 2 (.one (.int .u32 0)) ?_
 refine LWp.nil ?_
 refine Wp.seq (Wp.region ?_)
 refine LWp.o 3 (Y xText) ?_
 refine LWp.cl h 4 (fun v1 => (.one (.int .u32 v1))) rfl (l := [.sv (.one (.int .u32 4294967295)), .sv (.one (.str xText))]) rfl (fun v hv => i_SumMore_t 4294967295 xText v hv) (.inl rfl) ?_
 intro v1 gv1 h
 refine LWp.o 2 (.one (.int .u32 v1)) ?_
 refine LWp.nil ?_
 cases h
 exact Wp.ret ⟨.inr rfl, _, _, rfl, rfl⟩
theorem i_Sealed_t (xText : ByteArray) (r : ByteArray × Bool) (h : i_Sealed xText = some r) : Gives Tryz.prog 135 [.sv (Y xText)] (.tup [(Y r.1), (B r.2)]) (List.replicate 1 .gone) := by
 unfold i_Sealed at h
 refine gives_of Tryz.func135 rfl ?_
 rw [Tryz.ntmps135]
 refine Wp.seq (Wp.region ?_)
 refine LWp.o 2 (Y (bs [])) ?_
 refine LWp.o 3 (B false) ?_
 refine LWp.nil ?_
 refine Wp.seq ?_
 refine Wp.seq (Wp.region ?_)
 refine LWp.o 5 (Y xText) ?_
 refine LWp.o 6 (I (sln xText)) ?_
 refine LWp.o 7 (B (decide ((sln xText) > 20000))) ?_
 refine LWp.nil ?_
 refine Wp.c h (fun h => ?_) (fun h => ?_)
 · refine Wp.seq (Wp.region ?_)
   refine LWp.o 2 (Y (bs [])) ?_
   refine LWp.o 3 (B false) ?_
   refine LWp.nil ?_
   cases h
   exact Wp.ret ⟨.inr rfl, _, _, rfl, rfl⟩
 refine Wp.skip ?_
 refine Wp.seq (Wp.region ?_)
 refine LWp.o 8 (Y xText) ?_
 refine LWp.cl h 9 (fun v1 => (.one (.int .u32 v1))) rfl (l := [.sv (.one (.str xText))]) rfl (fun v hv => i_SumOf_t xText v hv) (.inl rfl) ?_
 intro v1 gv1 h
 refine LWp.o 4 (.one (.int .u32 v1)) ?_
 refine LWp.nil ?_
 refine Wp.seq (Wp.region ?_)
 refine LWp.o 10 (Y xText) ?_
 refine LWp.o 11 (.one (.int .u32 v1)) ?_
 refine LWp.o 12 (.one (.int .u32 (Int.fdiv v1 (2 ^ (min (24 : Int).toNat IntKind.u32.bits))))) ?_
 refine LWp.o 13 (.one (.int .u8 (IntKind.u8.wrap (Int.fdiv v1 (2 ^ (min (24 : Int).toNat IntKind.u32.bits)))))) ?_
 refine LWp.o 14 (.one (.int .u32 v1)) ?_
 refine LWp.o 15 (.one (.int .u32 (Int.fdiv v1 (2 ^ (min (16 : Int).toNat IntKind.u32.bits))))) ?_
 refine LWp.o 16 (.one (.int .u8 (IntKind.u8.wrap (Int.fdiv v1 (2 ^ (min (16 : Int).toNat IntKind.u32.bits)))))) ?_
 refine LWp.o 17 (.one (.int .u32 v1)) ?_
 refine LWp.o 18 (.one (.int .u32 (Int.fdiv v1 (2 ^ (min (8 : Int).toNat IntKind.u32.bits))))) ?_
 refine LWp.o 19 (.one (.int .u8 (IntKind.u8.wrap (Int.fdiv v1 (2 ^ (min (8 : Int).toNat IntKind.u32.bits)))))) ?_
 refine LWp.o 20 (.one (.int .u32 v1)) ?_
 refine LWp.o 21 (.one (.int .u8 (IntKind.u8.wrap v1))) ?_
 refine LWp.m false [] 22 (.one (.sl true 5 1 (encs c5 [(IntKind.u8.wrap (Int.fdiv v1 (2 ^ (min (24 : Int).toNat IntKind.u32.bits)))), (IntKind.u8.wrap (Int.fdiv v1 (2 ^ (min (16 : Int).toNat IntKind.u32.bits)))), (IntKind.u8.wrap (Int.fdiv v1 (2 ^ (min (8 : Int).toNat IntKind.u32.bits)))), (IntKind.u8.wrap v1)]))) ?_
 refine LWp.o 23 (Y (strB [(IntKind.u8.wrap (Int.fdiv v1 (2 ^ (min (24 : Int).toNat IntKind.u32.bits)))), (IntKind.u8.wrap (Int.fdiv v1 (2 ^ (min (16 : Int).toNat IntKind.u32.bits)))), (IntKind.u8.wrap (Int.fdiv v1 (2 ^ (min (8 : Int).toNat IntKind.u32.bits)))), (IntKind.u8.wrap v1)])) ?_ (st_pure (p_cv (fun _ => rfl) [(IntKind.u8.wrap (Int.fdiv v1 (2 ^ (min (24 : Int).toNat IntKind.u32.bits)))), (IntKind.u8.wrap (Int.fdiv v1 (2 ^ (min (16 : Int).toNat IntKind.u32.bits)))), (IntKind.u8.wrap (Int.fdiv v1 (2 ^ (min (8 : Int).toNat IntKind.u32.bits)))), (IntKind.u8.wrap v1)]))
 refine LWp.p h 24 (fun x1 => (Y x1)) ?_ (fun x1 gx1 => st_pure (p_cat gx1))
 intro x1 gx1 h
 refine LWp.o 2 (Y x1) ?_
 refine LWp.o 3 (B true) ?_
 refine LWp.nil ?_
 cases h
 exact Wp.ret ⟨.inr rfl, _, _, rfl, rfl⟩
def i_PageText_H1 (z1 : ByteArray) (z2 : Bool) : St := mkSt [(2, (Y z1)), (3, (B z2))] []
theorem i_PageText_t (xP : Page) (r : ByteArray × Bool) (h : i_PageText xP = some r) : Gives Tryz.prog 88 [.sv (.agg [.int .i64 xP.Kind, .int .i64 xP.Seq, .int .i64 xP.Tx, .int .i64 xP.Part, .int .i64 xP.Count, .str xP.Text])] (.tup [(Y r.1), (B r.2)]) (List.replicate 1 .gone) := by
 unfold i_PageText at h
 refine gives_of Tryz.func88 rfl ?_
 rw [Tryz.ntmps88]
 refine Wp.seq (Wp.region ?_)
 refine LWp.b [] 1 [.int .i64 xP.Kind, .int .i64 xP.Seq, .int .i64 xP.Tx, .int .i64 xP.Part, .int .i64 xP.Count, .str xP.Text] ?_
 refine LWp.o 2 (Y (bs [])) ?_
 refine LWp.o 3 (B false) ?_
 refine LWp.nil ?_
 refine Wp.seq ?_
 refine Wp.seq (Wp.region ?_)
 refine LWp.o 4 (.agg [.int .i64 xP.Kind, .int .i64 xP.Seq, .int .i64 xP.Tx, .int .i64 xP.Part, .int .i64 xP.Count, .str xP.Text]) ?_
 refine LWp.cl h 5 (fun v1 => (B v1)) rfl (l := [.sv (.agg [.int .i64 xP.Kind, .int .i64 xP.Seq, .int .i64 xP.Tx, .int .i64 xP.Part, .int .i64 xP.Count, .str xP.Text])]) rfl (fun v hv => i_PageOk_t xP v hv) (.inl rfl) ?_
 intro v1 gv1 h
 refine LWp.o 6 (B (!v1)) ?_
 refine LWp.nil ?_
 refine Wp.c h (fun h => ?_) (fun h => ?_)
 · refine Wp.seq (Wp.region ?_)
   refine LWp.o 2 (Y (bs [])) ?_
   refine LWp.o 3 (B false) ?_
   refine LWp.nil ?_
   cases h
   exact Wp.ret ⟨.inr rfl, _, _, rfl, rfl⟩
 refine Wp.skip ?_
 refine Wp.seq ?_
 refine Wp.j1 h [2, 3] [] (fun a => (i_PageText_H1 a.1 a.2)) ?_ ?_
 · intro a h
   refine Wp.regionK 29 [] mixed (fun c E h => by rcases h with ⟨h | h, _⟩ <;> cases h) ?_
   refine KWp.o 29 0 7 (.one (.ptr (.box 1) 1 [] 0)) ?_
   refine KWp.o 29 1 8 (I xP.Kind) ?_
   refine KWp.o 29 2 9 (.one (.int .u8 (IntKind.u8.wrap xP.Kind))) ?_
   refine KWp.o 29 5 12 (.one (.ptr (.box 1) 1 [] 1)) ?_
   refine KWp.o 29 6 13 (I xP.Seq) ?_
   refine KWp.o 29 9 16 (.one (.ptr (.box 1) 1 [] 2)) ?_
   refine KWp.o 29 10 17 (I xP.Tx) ?_
   refine KWp.o 29 13 20 (.one (.ptr (.box 1) 1 [] 3)) ?_
   refine KWp.o 29 14 21 (I xP.Part) ?_
   refine KWp.o 29 17 24 (.one (.ptr (.box 1) 1 [] 4)) ?_
   refine KWp.o 29 18 25 (I xP.Count) ?_
   refine KWp.o 29 21 28 (.one (.ptr (.box 1) 1 [] 5)) ?_
   refine KWp.o 29 22 29 (Y xP.Text) ?_
   refine KWp.w2 3 7 ?_ ?_
   · refine KOp.m 3 false [] 10 (.one (.sl true 5 1 (encs c5 [(IntKind.u8.wrap xP.Kind)]))) ?_
     refine KWp.o 29 4 11 (Y (strB [(IntKind.u8.wrap xP.Kind)])) ?_ rfl (sl_pure (p_cv (fun _ => rfl) [(IntKind.u8.wrap xP.Kind)]))
     refine KWp.w1 7 ?_
     refine KOp.cl h 7 14 (fun v2 => (Y v2)) rfl rfl (l := [.sv (.one (.int .i64 xP.Seq))]) rfl (fun v hv => i_varOf_t xP.Seq v hv) (.inl rfl) ?_
     intro v2 gv2 h
     refine KWp.p h 29 8 15 (fun x1 => (Y x1)) ?_ rfl (fun x1 gx1 => sl_pure (p_cat gx1))
     intro x1 gx1 h
     refine KWp.w1 11 ?_
     refine KOp.cl h 11 18 (fun v3 => (Y v3)) rfl rfl (l := [.sv (.one (.int .i64 xP.Tx))]) rfl (fun v hv => i_varOf_t xP.Tx v hv) (.inl rfl) ?_
     intro v3 gv3 h
     refine KWp.p h 29 12 19 (fun x2 => (Y x2)) ?_ rfl (fun x2 gx2 => sl_pure (p_cat gx2))
     intro x2 gx2 h
     refine KWp.w1 15 ?_
     refine KOp.cl h 15 22 (fun v4 => (Y v4)) rfl rfl (l := [.sv (.one (.int .i64 xP.Part))]) rfl (fun v hv => i_varOf_t xP.Part v hv) (.inl rfl) ?_
     intro v4 gv4 h
     refine KWp.p h 29 16 23 (fun x3 => (Y x3)) ?_ rfl (fun x3 gx3 => sl_pure (p_cat gx3))
     intro x3 gx3 h
     refine KWp.w1 19 ?_
     refine KOp.cl h 19 26 (fun v5 => (Y v5)) rfl rfl (l := [.sv (.one (.int .i64 xP.Count))]) rfl (fun v hv => i_varOf_t xP.Count v hv) (.inl rfl) ?_
     intro v5 gv5 h
     refine KWp.p h 29 20 27 (fun x4 => (Y x4)) ?_ rfl (fun x4 gx4 => sl_pure (p_cat gx4))
     intro x4 gx4 h
     refine KWp.p h 29 23 30 (fun x5 => (Y x5)) ?_ rfl (fun x5 gx5 => sl_pure (p_cat gx5))
     intro x5 gx5 h
     refine KWp.w1 24 ?_
     refine KOp.cl h 24 31 (fun v6 => (.tup [(Y v6.1), (B v6.2)])) rfl rfl (l := [.sv (.one (.str x5))]) rfl (fun v hv => i_Sealed_t x5 v hv) (.inl rfl) ?_
     intro v6 gv6 h
     refine KWp.w2 25 26 ?_ ?_
     · refine KOp.e 25 31 0 32 (Y v6.1) ?_
       refine KWp.w1 26 ?_
       refine KOp.e 26 31 1 33 (B v6.2) ?_
       refine KWp.o 29 27 2 (Y v6.1) ?_
       refine KWp.o 29 28 3 (B v6.2) ?_
       refine KWp.done ?_
       cases h
       exact ⟨_, rfl, rfl, rfl⟩
     refine KOp.e 26 31 1 33 (B v6.2) ?_
     refine KWp.w1 25 ?_
     refine KOp.e 25 31 0 32 (Y v6.1) ?_
     refine KWp.o 29 27 2 (Y v6.1) ?_
     refine KWp.o 29 28 3 (B v6.2) ?_
     refine KWp.done ?_
     cases h
     exact ⟨_, rfl, rfl, rfl⟩
   refine KOp.cl h 7 14 (fun v7 => (Y v7)) rfl rfl (l := [.sv (.one (.int .i64 xP.Seq))]) rfl (fun v hv => i_varOf_t xP.Seq v hv) (.inl rfl) ?_
   intro v7 gv7 h
   refine KWp.w2 3 11 ?_ ?_
   · refine KOp.m 3 false [] 10 (.one (.sl true 5 1 (encs c5 [(IntKind.u8.wrap xP.Kind)]))) ?_
     refine KWp.o 29 4 11 (Y (strB [(IntKind.u8.wrap xP.Kind)])) ?_ rfl (sl_pure (p_cv (fun _ => rfl) [(IntKind.u8.wrap xP.Kind)]))
     refine KWp.p h 29 8 15 (fun x6 => (Y x6)) ?_ rfl (fun x6 gx6 => sl_pure (p_cat gx6))
     intro x6 gx6 h
     refine KWp.w1 11 ?_
     refine KOp.cl h 11 18 (fun v8 => (Y v8)) rfl rfl (l := [.sv (.one (.int .i64 xP.Tx))]) rfl (fun v hv => i_varOf_t xP.Tx v hv) (.inl rfl) ?_
     intro v8 gv8 h
     refine KWp.p h 29 12 19 (fun x7 => (Y x7)) ?_ rfl (fun x7 gx7 => sl_pure (p_cat gx7))
     intro x7 gx7 h
     refine KWp.w1 15 ?_
     refine KOp.cl h 15 22 (fun v9 => (Y v9)) rfl rfl (l := [.sv (.one (.int .i64 xP.Part))]) rfl (fun v hv => i_varOf_t xP.Part v hv) (.inl rfl) ?_
     intro v9 gv9 h
     refine KWp.p h 29 16 23 (fun x8 => (Y x8)) ?_ rfl (fun x8 gx8 => sl_pure (p_cat gx8))
     intro x8 gx8 h
     refine KWp.w1 19 ?_
     refine KOp.cl h 19 26 (fun v10 => (Y v10)) rfl rfl (l := [.sv (.one (.int .i64 xP.Count))]) rfl (fun v hv => i_varOf_t xP.Count v hv) (.inl rfl) ?_
     intro v10 gv10 h
     refine KWp.p h 29 20 27 (fun x9 => (Y x9)) ?_ rfl (fun x9 gx9 => sl_pure (p_cat gx9))
     intro x9 gx9 h
     refine KWp.p h 29 23 30 (fun x10 => (Y x10)) ?_ rfl (fun x10 gx10 => sl_pure (p_cat gx10))
     intro x10 gx10 h
     refine KWp.w1 24 ?_
     refine KOp.cl h 24 31 (fun v11 => (.tup [(Y v11.1), (B v11.2)])) rfl rfl (l := [.sv (.one (.str x10))]) rfl (fun v hv => i_Sealed_t x10 v hv) (.inl rfl) ?_
     intro v11 gv11 h
     refine KWp.w2 25 26 ?_ ?_
     · refine KOp.e 25 31 0 32 (Y v11.1) ?_
       refine KWp.w1 26 ?_
       refine KOp.e 26 31 1 33 (B v11.2) ?_
       refine KWp.o 29 27 2 (Y v11.1) ?_
       refine KWp.o 29 28 3 (B v11.2) ?_
       refine KWp.done ?_
       cases h
       exact ⟨_, rfl, rfl, rfl⟩
     refine KOp.e 26 31 1 33 (B v11.2) ?_
     refine KWp.w1 25 ?_
     refine KOp.e 25 31 0 32 (Y v11.1) ?_
     refine KWp.o 29 27 2 (Y v11.1) ?_
     refine KWp.o 29 28 3 (B v11.2) ?_
     refine KWp.done ?_
     cases h
     exact ⟨_, rfl, rfl, rfl⟩
   replace h := Eq.trans (show ((i_varOf xP.Tx).bind fun v12 => (cat (strB [(IntKind.u8.wrap xP.Kind)]) v7).bind fun x11 => (cat x11 v12).bind fun x12 => (i_varOf xP.Part).bind fun v13 => (cat x12 v13).bind fun x13 => (i_varOf xP.Count).bind fun v14 => (cat x13 v14).bind fun x14 => (cat x14 xP.Text).bind fun x15 => (i_Sealed x15).bind fun v15 => some (v15.1, v15.2)) = ((cat (strB [(IntKind.u8.wrap xP.Kind)]) v7).bind fun x6 => (i_varOf xP.Tx).bind fun v8 => (cat x6 v8).bind fun x7 => (i_varOf xP.Part).bind fun v9 => (cat x7 v9).bind fun x8 => (i_varOf xP.Count).bind fun v10 => (cat x8 v10).bind fun x9 => (cat x9 xP.Text).bind fun x10 => (i_Sealed x10).bind fun v11 => some (v11.1, v11.2)) from Option.ext fun z => by simp only [Option.bind_eq_some_iff]; exact ⟨fun ⟨v12, k0, x11, k1, x12, k2, v13, k3, x13, k4, v14, k5, x14, k6, x15, k7, v15, k8, z⟩ => ⟨_, k1, _, k0, _, k2, _, k3, _, k4, _, k5, _, k6, _, k7, _, k8, z⟩, fun ⟨x6, k0, v8, k1, x7, k2, v9, k3, x8, k4, v10, k5, x9, k6, x10, k7, v11, k8, z⟩ => ⟨_, k1, _, k0, _, k2, _, k3, _, k4, _, k5, _, k6, _, k7, _, k8, z⟩⟩) h
   refine KOp.cl h 11 18 (fun v12 => (Y v12)) rfl rfl (l := [.sv (.one (.int .i64 xP.Tx))]) rfl (fun v hv => i_varOf_t xP.Tx v hv) (.inl rfl) ?_
   intro v12 gv12 h
   refine KWp.w2 3 15 ?_ ?_
   · refine KOp.m 3 false [] 10 (.one (.sl true 5 1 (encs c5 [(IntKind.u8.wrap xP.Kind)]))) ?_
     refine KWp.o 29 4 11 (Y (strB [(IntKind.u8.wrap xP.Kind)])) ?_ rfl (sl_pure (p_cv (fun _ => rfl) [(IntKind.u8.wrap xP.Kind)]))
     refine KWp.p h 29 8 15 (fun x11 => (Y x11)) ?_ rfl (fun x11 gx11 => sl_pure (p_cat gx11))
     intro x11 gx11 h
     refine KWp.p h 29 12 19 (fun x12 => (Y x12)) ?_ rfl (fun x12 gx12 => sl_pure (p_cat gx12))
     intro x12 gx12 h
     refine KWp.w1 15 ?_
     refine KOp.cl h 15 22 (fun v13 => (Y v13)) rfl rfl (l := [.sv (.one (.int .i64 xP.Part))]) rfl (fun v hv => i_varOf_t xP.Part v hv) (.inl rfl) ?_
     intro v13 gv13 h
     refine KWp.p h 29 16 23 (fun x13 => (Y x13)) ?_ rfl (fun x13 gx13 => sl_pure (p_cat gx13))
     intro x13 gx13 h
     refine KWp.w1 19 ?_
     refine KOp.cl h 19 26 (fun v14 => (Y v14)) rfl rfl (l := [.sv (.one (.int .i64 xP.Count))]) rfl (fun v hv => i_varOf_t xP.Count v hv) (.inl rfl) ?_
     intro v14 gv14 h
     refine KWp.p h 29 20 27 (fun x14 => (Y x14)) ?_ rfl (fun x14 gx14 => sl_pure (p_cat gx14))
     intro x14 gx14 h
     refine KWp.p h 29 23 30 (fun x15 => (Y x15)) ?_ rfl (fun x15 gx15 => sl_pure (p_cat gx15))
     intro x15 gx15 h
     refine KWp.w1 24 ?_
     refine KOp.cl h 24 31 (fun v15 => (.tup [(Y v15.1), (B v15.2)])) rfl rfl (l := [.sv (.one (.str x15))]) rfl (fun v hv => i_Sealed_t x15 v hv) (.inl rfl) ?_
     intro v15 gv15 h
     refine KWp.w2 25 26 ?_ ?_
     · refine KOp.e 25 31 0 32 (Y v15.1) ?_
       refine KWp.w1 26 ?_
       refine KOp.e 26 31 1 33 (B v15.2) ?_
       refine KWp.o 29 27 2 (Y v15.1) ?_
       refine KWp.o 29 28 3 (B v15.2) ?_
       refine KWp.done ?_
       cases h
       exact ⟨_, rfl, rfl, rfl⟩
     refine KOp.e 26 31 1 33 (B v15.2) ?_
     refine KWp.w1 25 ?_
     refine KOp.e 25 31 0 32 (Y v15.1) ?_
     refine KWp.o 29 27 2 (Y v15.1) ?_
     refine KWp.o 29 28 3 (B v15.2) ?_
     refine KWp.done ?_
     cases h
     exact ⟨_, rfl, rfl, rfl⟩
   replace h := Eq.trans (show ((i_varOf xP.Part).bind fun v16 => (cat (strB [(IntKind.u8.wrap xP.Kind)]) v7).bind fun x16 => (cat x16 v12).bind fun x17 => (cat x17 v16).bind fun x18 => (i_varOf xP.Count).bind fun v17 => (cat x18 v17).bind fun x19 => (cat x19 xP.Text).bind fun x20 => (i_Sealed x20).bind fun v18 => some (v18.1, v18.2)) = ((cat (strB [(IntKind.u8.wrap xP.Kind)]) v7).bind fun x11 => (cat x11 v12).bind fun x12 => (i_varOf xP.Part).bind fun v13 => (cat x12 v13).bind fun x13 => (i_varOf xP.Count).bind fun v14 => (cat x13 v14).bind fun x14 => (cat x14 xP.Text).bind fun x15 => (i_Sealed x15).bind fun v15 => some (v15.1, v15.2)) from Option.ext fun z => by simp only [Option.bind_eq_some_iff]; exact ⟨fun ⟨v16, k0, x16, k1, x17, k2, x18, k3, v17, k4, x19, k5, x20, k6, v18, k7, z⟩ => ⟨_, k1, _, k2, _, k0, _, k3, _, k4, _, k5, _, k6, _, k7, z⟩, fun ⟨x11, k0, x12, k1, v13, k2, x13, k3, v14, k4, x14, k5, x15, k6, v15, k7, z⟩ => ⟨_, k2, _, k0, _, k1, _, k3, _, k4, _, k5, _, k6, _, k7, z⟩⟩) h
   refine KOp.cl h 15 22 (fun v16 => (Y v16)) rfl rfl (l := [.sv (.one (.int .i64 xP.Part))]) rfl (fun v hv => i_varOf_t xP.Part v hv) (.inl rfl) ?_
   intro v16 gv16 h
   refine KWp.w2 3 19 ?_ ?_
   · refine KOp.m 3 false [] 10 (.one (.sl true 5 1 (encs c5 [(IntKind.u8.wrap xP.Kind)]))) ?_
     refine KWp.o 29 4 11 (Y (strB [(IntKind.u8.wrap xP.Kind)])) ?_ rfl (sl_pure (p_cv (fun _ => rfl) [(IntKind.u8.wrap xP.Kind)]))
     refine KWp.p h 29 8 15 (fun x16 => (Y x16)) ?_ rfl (fun x16 gx16 => sl_pure (p_cat gx16))
     intro x16 gx16 h
     refine KWp.p h 29 12 19 (fun x17 => (Y x17)) ?_ rfl (fun x17 gx17 => sl_pure (p_cat gx17))
     intro x17 gx17 h
     refine KWp.p h 29 16 23 (fun x18 => (Y x18)) ?_ rfl (fun x18 gx18 => sl_pure (p_cat gx18))
     intro x18 gx18 h
     refine KWp.w1 19 ?_
     refine KOp.cl h 19 26 (fun v17 => (Y v17)) rfl rfl (l := [.sv (.one (.int .i64 xP.Count))]) rfl (fun v hv => i_varOf_t xP.Count v hv) (.inl rfl) ?_
     intro v17 gv17 h
     refine KWp.p h 29 20 27 (fun x19 => (Y x19)) ?_ rfl (fun x19 gx19 => sl_pure (p_cat gx19))
     intro x19 gx19 h
     refine KWp.p h 29 23 30 (fun x20 => (Y x20)) ?_ rfl (fun x20 gx20 => sl_pure (p_cat gx20))
     intro x20 gx20 h
     refine KWp.w1 24 ?_
     refine KOp.cl h 24 31 (fun v18 => (.tup [(Y v18.1), (B v18.2)])) rfl rfl (l := [.sv (.one (.str x20))]) rfl (fun v hv => i_Sealed_t x20 v hv) (.inl rfl) ?_
     intro v18 gv18 h
     refine KWp.w2 25 26 ?_ ?_
     · refine KOp.e 25 31 0 32 (Y v18.1) ?_
       refine KWp.w1 26 ?_
       refine KOp.e 26 31 1 33 (B v18.2) ?_
       refine KWp.o 29 27 2 (Y v18.1) ?_
       refine KWp.o 29 28 3 (B v18.2) ?_
       refine KWp.done ?_
       cases h
       exact ⟨_, rfl, rfl, rfl⟩
     refine KOp.e 26 31 1 33 (B v18.2) ?_
     refine KWp.w1 25 ?_
     refine KOp.e 25 31 0 32 (Y v18.1) ?_
     refine KWp.o 29 27 2 (Y v18.1) ?_
     refine KWp.o 29 28 3 (B v18.2) ?_
     refine KWp.done ?_
     cases h
     exact ⟨_, rfl, rfl, rfl⟩
   replace h := Eq.trans (show ((i_varOf xP.Count).bind fun v19 => (cat (strB [(IntKind.u8.wrap xP.Kind)]) v7).bind fun x21 => (cat x21 v12).bind fun x22 => (cat x22 v16).bind fun x23 => (cat x23 v19).bind fun x24 => (cat x24 xP.Text).bind fun x25 => (i_Sealed x25).bind fun v20 => some (v20.1, v20.2)) = ((cat (strB [(IntKind.u8.wrap xP.Kind)]) v7).bind fun x16 => (cat x16 v12).bind fun x17 => (cat x17 v16).bind fun x18 => (i_varOf xP.Count).bind fun v17 => (cat x18 v17).bind fun x19 => (cat x19 xP.Text).bind fun x20 => (i_Sealed x20).bind fun v18 => some (v18.1, v18.2)) from Option.ext fun z => by simp only [Option.bind_eq_some_iff]; exact ⟨fun ⟨v19, k0, x21, k1, x22, k2, x23, k3, x24, k4, x25, k5, v20, k6, z⟩ => ⟨_, k1, _, k2, _, k3, _, k0, _, k4, _, k5, _, k6, z⟩, fun ⟨x16, k0, x17, k1, x18, k2, v17, k3, x19, k4, x20, k5, v18, k6, z⟩ => ⟨_, k3, _, k0, _, k1, _, k2, _, k4, _, k5, _, k6, z⟩⟩) h
   refine KOp.cl h 19 26 (fun v19 => (Y v19)) rfl rfl (l := [.sv (.one (.int .i64 xP.Count))]) rfl (fun v hv => i_varOf_t xP.Count v hv) (.inl rfl) ?_
   intro v19 gv19 h
   refine KWp.w1 3 ?_
   refine KOp.m 3 false [] 10 (.one (.sl true 5 1 (encs c5 [(IntKind.u8.wrap xP.Kind)]))) ?_
   refine KWp.o 29 4 11 (Y (strB [(IntKind.u8.wrap xP.Kind)])) ?_ rfl (sl_pure (p_cv (fun _ => rfl) [(IntKind.u8.wrap xP.Kind)]))
   refine KWp.p h 29 8 15 (fun x21 => (Y x21)) ?_ rfl (fun x21 gx21 => sl_pure (p_cat gx21))
   intro x21 gx21 h
   refine KWp.p h 29 12 19 (fun x22 => (Y x22)) ?_ rfl (fun x22 gx22 => sl_pure (p_cat gx22))
   intro x22 gx22 h
   refine KWp.p h 29 16 23 (fun x23 => (Y x23)) ?_ rfl (fun x23 gx23 => sl_pure (p_cat gx23))
   intro x23 gx23 h
   refine KWp.p h 29 20 27 (fun x24 => (Y x24)) ?_ rfl (fun x24 gx24 => sl_pure (p_cat gx24))
   intro x24 gx24 h
   refine KWp.p h 29 23 30 (fun x25 => (Y x25)) ?_ rfl (fun x25 gx25 => sl_pure (p_cat gx25))
   intro x25 gx25 h
   refine KWp.w1 24 ?_
   refine KOp.cl h 24 31 (fun v20 => (.tup [(Y v20.1), (B v20.2)])) rfl rfl (l := [.sv (.one (.str x25))]) rfl (fun v hv => i_Sealed_t x25 v hv) (.inl rfl) ?_
   intro v20 gv20 h
   refine KWp.w2 25 26 ?_ ?_
   · refine KOp.e 25 31 0 32 (Y v20.1) ?_
     refine KWp.w1 26 ?_
     refine KOp.e 26 31 1 33 (B v20.2) ?_
     refine KWp.o 29 27 2 (Y v20.1) ?_
     refine KWp.o 29 28 3 (B v20.2) ?_
     refine KWp.done ?_
     cases h
     exact ⟨_, rfl, rfl, rfl⟩
   refine KOp.e 26 31 1 33 (B v20.2) ?_
   refine KWp.w1 25 ?_
   refine KOp.e 25 31 0 32 (Y v20.1) ?_
   refine KWp.o 29 27 2 (Y v20.1) ?_
   refine KWp.o 29 28 3 (B v20.2) ?_
   refine KWp.done ?_
   cases h
   exact ⟨_, rfl, rfl, rfl⟩
 intro j1 h E hE
 refine nt_wp hE ?_
 change Wp _ _ _ (i_PageText_H1 j1.1 j1.2) _
 cases h
 exact Wp.ret ⟨.inr rfl, _, _, rfl, rfl⟩
theorem i_leafOk_t (xX : Leaf) (r : Bool) (h : i_leafOk xX = some r) : Gives Tryz.prog 174 [.sv (.agg [.int .i64 xX.Is, .str xX.Text])] (B r) (List.replicate 1 .gone) := by
 unfold i_leafOk at h
 refine gives_of Tryz.func174 rfl ?_
 rw [Tryz.ntmps174]
 refine Wp.seq (Wp.region ?_)
 refine LWp.b [] 1 [.int .i64 xX.Is, .str xX.Text] ?_
 refine LWp.o 2 (B false) ?_
 refine LWp.nil ?_
 refine Wp.seq ?_
 refine Wp.seq (Wp.region ?_)
 refine LWp.o 3 (.one (.ptr (.box 1) 1 [] 0)) ?_
 refine LWp.o 4 (I xX.Is) ?_
 refine LWp.nil ?_
 refine Wp.block ?_
 refine Wp.seq (Wp.region ?_)
 refine LWp.o 6 (B (xX.Is == 0)) ?_
 refine LWp.o 5 (B (xX.Is == 0)) ?_
 refine LWp.nil ?_
 refine Wp.c h (fun h => ?_) (fun h => ?_)
 · refine Wp.seq (Wp.region ?_)
   refine LWp.o 7 (.one (.ptr (.box 1) 1 [] 1)) ?_
   refine LWp.o 8 (Y xX.Text) ?_
   refine LWp.o 9 (B (seq xX.Text (bs []))) ?_
   refine LWp.o 2 (B (seq xX.Text (bs []))) ?_
   refine LWp.nil ?_
   cases h
   exact Wp.ret ⟨.inr rfl, _, _, rfl, rfl⟩
 refine Wp.seq (Wp.region ?_)
 refine LWp.o 11 (B (xX.Is == 1)) ?_
 refine LWp.o 10 (B (xX.Is == 1)) ?_
 refine LWp.nil ?_
 refine Wp.c h (fun h => ?_) (fun h => ?_)
 · refine Wp.seq (Wp.region ?_)
   refine LWp.o 12 (.one (.ptr (.box 1) 1 [] 1)) ?_
   refine LWp.o 13 (Y xX.Text) ?_
   refine LWp.o 14 (I (sln xX.Text)) ?_
   refine LWp.cl h 15 (fun v1 => (B v1)) rfl (l := [.sv (.one (.int .i64 (sln xX.Text))), .sv (.one (.int .i64 1)), .sv (.one (.int .i64 120))]) rfl (fun v hv => i_in_t (sln xX.Text) 1 120 v hv) (.inl rfl) ?_
   intro v1 gv1 h
   refine LWp.o 2 (B v1) ?_
   refine LWp.nil ?_
   cases h
   exact Wp.ret ⟨.inr rfl, _, _, rfl, rfl⟩
 refine Wp.skip ?_
 refine Wp.seq (Wp.region ?_)
 refine LWp.o 16 (.one (.ptr (.box 1) 1 [] 0)) ?_
 refine LWp.o 17 (I xX.Is) ?_
 refine LWp.o 18 (B (xX.Is == 2)) ?_
 refine LWp.o 19 (B (xX.Is == 2)) ?_
 refine LWp.sp h 19 (fun h => ?_) (fun h => ?_)
 · refine LWp.o 20 (.one (.ptr (.box 1) 1 [] 1)) ?_
   refine LWp.o 21 (Y xX.Text) ?_
   refine LWp.o 22 (I (sln xX.Text)) ?_
   refine LWp.o 23 (B (decide ((sln xX.Text) ≤ 120))) ?_
   refine LWp.o 24 (B (decide ((sln xX.Text) ≤ 120))) ?_
   refine LWp.o 2 (B (decide ((sln xX.Text) ≤ 120))) ?_
   refine LWp.nil ?_
   cases h
   exact Wp.ret ⟨.inr rfl, _, _, rfl, rfl⟩
 refine LWp.sh 20 ?_
 refine LWp.sh 21 ?_
 refine LWp.sh 22 ?_
 refine LWp.sh 23 ?_
 refine LWp.o 24 (B false) ?_
 refine LWp.o 2 (B false) ?_
 refine LWp.nil ?_
 cases h
 exact Wp.ret ⟨.inr rfl, _, _, rfl, rfl⟩
def i_FlashOk_H1 (xF : Flash) (z1 : Int) : St := mkSt [(1, (.one (.ptr (.box 1) 0 [] 0))), (8, (.one (.sl false 124 3 (encs (c124 false) xF.Blocks)))), (9, (I (ln xF.Blocks))), (10, (I z1))] [(.box 1, [.sl false 124 3 (encs (c124 false) xF.Blocks)])]
def i_FlashOk_H2 (xF : Flash) : St := mkSt [(1, (.one (.ptr (.box 1) 0 [] 0)))] [(.box 1, [.sl false 124 3 (encs (c124 false) xF.Blocks)])]
def i_FlashOk_H3 (xF : Flash) (y1 : Int) (x1 : Block) (z2 : Bool) : St := mkSt [(1, (.one (.ptr (.box 1) 0 [] 0))), (4, (.one (.ptr (.box 4) 0 [] 0))), (8, (.one (.sl false 124 3 (encs (c124 false) xF.Blocks)))), (9, (I (ln xF.Blocks))), (10, (I y1)), (23, (B z2))] [(.box 1, [.sl false 124 3 (encs (c124 false) xF.Blocks)]), (.box 4, [.bool x1.Bad, .int .i64 x1.Wear, .sl false 165 2 (encs c165 x1.Leaves)])]
def i_FlashOk_H4 (xF : Flash) (y1 : Int) (x1 : Block) (z3 : Int) : St := mkSt [(1, (.one (.ptr (.box 1) 0 [] 0))), (4, (.one (.ptr (.box 4) 0 [] 0))), (8, (.one (.sl false 124 3 (encs (c124 false) xF.Blocks)))), (9, (I (ln xF.Blocks))), (10, (I y1)), (25, (.one (.sl false 165 2 (encs c165 x1.Leaves)))), (26, (I (ln x1.Leaves))), (27, (I z3))] [(.box 1, [.sl false 124 3 (encs (c124 false) xF.Blocks)]), (.box 4, [.bool x1.Bad, .int .i64 x1.Wear, .sl false 165 2 (encs c165 x1.Leaves)])]
def i_FlashOk_H5 (xF : Flash) (y1 : Int) : St := mkSt [(1, (.one (.ptr (.box 1) 0 [] 0))), (8, (.one (.sl false 124 3 (encs (c124 false) xF.Blocks)))), (9, (I (ln xF.Blocks))), (10, (I y1))] [(.box 1, [.sl false 124 3 (encs (c124 false) xF.Blocks)])]
def i_FlashOk_H6 (xF : Flash) (y1 : Int) (x1 : Block) (y2 : Int) (z4 : Bool) : St := mkSt [(1, (.one (.ptr (.box 1) 0 [] 0))), (4, (.one (.ptr (.box 4) 0 [] 0))), (8, (.one (.sl false 124 3 (encs (c124 false) xF.Blocks)))), (9, (I (ln xF.Blocks))), (10, (I y1)), (25, (.one (.sl false 165 2 (encs c165 x1.Leaves)))), (26, (I (ln x1.Leaves))), (27, (I y2)), (53, (B z4))] [(.box 1, [.sl false 124 3 (encs (c124 false) xF.Blocks)]), (.box 4, [.bool x1.Bad, .int .i64 x1.Wear, .sl false 165 2 (encs c165 x1.Leaves)])]
theorem i_FlashOk_t (xF : Flash) (r : Bool) (h : i_FlashOk xF = some r) : Gives Tryz.prog 137 [.sv (.agg [.sl false 124 3 (encs (c124 false) xF.Blocks)])] (B r) (List.replicate 1 .gone) := by
 unfold i_FlashOk at h
 refine gives_of Tryz.func137 rfl ?_
 rw [Tryz.ntmps137]
 refine Wp.seq (Wp.region ?_)
 refine LWp.b [] 1 [.sl false 124 3 (encs (c124 false) xF.Blocks)] ?_
 refine LWp.o 2 (B false) ?_
 refine LWp.nil ?_
 refine Wp.seq ?_
 refine Wp.seq (Wp.region ?_)
 refine LWp.o 7 (.one (.ptr (.box 1) 1 [] 0)) ?_
 refine LWp.o 8 (.one (.sl false 124 3 (encs (c124 false) xF.Blocks))) ?_
 refine LWp.o 9 (I (ln xF.Blocks)) ?_ (st_pure (p_ln (k124 false) xF.Blocks))
 refine LWp.o 10 (I 0) ?_
 refine LWp.nil ?_
 refine Wp.l2 h [1, 8, 9, 10] [.box 1] (fun s => (i_FlashOk_H1 xF s)) [1] [.box 1] (fun _ => (i_FlashOk_H2 xF)) ⟨rfl, rfl⟩ ?_ ?_
 · rintro y1 o (h : i_FlashOk_b1 xF y1 = some o) hk1
   unfold i_FlashOk_b1 at h
   change Wp _ _ _ (i_FlashOk_H1 xF y1) _
   refine Wp.seq (Wp.region ?_)
   refine LWp.o 11 (B (decide (y1 < (ln xF.Blocks)))) ?_
   refine LWp.nil ?_
   refine Wp.seq ?_
   refine Wp.c h (fun h => ?_) (fun h => ?_)
   · refine Wp.skip ?_
     refine Wp.seq ?_
     refine Wp.block ?_
     refine Wp.seq (Wp.region ?_)
     refine LWp.p h 12 (fun _ => (.one (.ptr (.slot 8) 0 [0] (Int.toNat y1 * 3 + 0)))) ?_ (fun x1 gx1 => st_pure (p_ix (k124 false) (.slot 8) [] 0 gx1))
     intro x1 gx1 h
     refine LWp.o 13 (.agg [.bool x1.Bad, .int .i64 x1.Wear, .sl false 165 2 (encs c165 x1.Leaves)]) ?_ (st_pure (p_le (k124 false) (.slot 8) [0] gx1))
     refine LWp.b [] 4 [.bool false, .int .i64 0, .sl true 165 2 (encs c165 [])] ?_
     refine LWp.sb [] (.box 4) [.bool x1.Bad, .int .i64 x1.Wear, .sl false 165 2 (encs c165 x1.Leaves)] ?_
     refine LWp.nil ?_
     refine Wp.seq ?_
     refine Wp.seq ?_
     refine Wp.j1 h [1, 4, 8, 9, 10, 23] [.box 1, .box 4] (fun a => (i_FlashOk_H3 xF y1 x1 a)) ?_ ?_
     · intro a h
       refine Wp.region ?_
       refine LWp.o 14 (.one (.ptr (.box 4) 1 [] 2)) ?_
       refine LWp.o 15 (.one (.sl false 165 2 (encs c165 x1.Leaves))) ?_
       refine LWp.o 16 (I (ln x1.Leaves)) ?_ (st_pure (p_ln k165 x1.Leaves))
       refine LWp.o 17 (B ((ln x1.Leaves) != 4)) ?_
       refine LWp.o 18 (B ((ln x1.Leaves) != 4)) ?_
       refine LWp.sp h 18 (fun h => ?_) (fun h => ?_)
       · refine LWp.sh 19 ?_
         refine LWp.sh 20 ?_
         refine LWp.sh 21 ?_
         refine LWp.sh 22 ?_
         refine LWp.o 23 (B true) ?_
         refine LWp.nil ?_
         cases h
         exact ⟨_, rfl, rfl, rfl⟩
       refine LWp.o 19 (.one (.ptr (.box 4) 1 [] 1)) ?_
       refine LWp.o 20 (I x1.Wear) ?_
       refine LWp.cl h 21 (fun v1 => (B v1)) rfl (l := [.sv (.one (.int .i64 x1.Wear)), .sv (.one (.int .i64 0)), .sv (.one (.int .i64 1000000000))]) rfl (fun v hv => i_in_t x1.Wear 0 1000000000 v hv) (.inl rfl) ?_
       intro v1 gv1 h
       refine LWp.o 22 (B (!v1)) ?_
       refine LWp.o 23 (B (!v1)) ?_
       refine LWp.nil ?_
       cases h
       exact ⟨_, rfl, rfl, rfl⟩
     intro j1 h E hE
     refine nt_wp hE ?_
     change Wp _ _ _ (i_FlashOk_H3 xF y1 x1 j1) _
     refine Wp.c h (fun h => ?_) (fun h => ?_)
     · refine Wp.seq (Wp.region ?_)
       refine LWp.o 2 (B false) ?_
       refine LWp.nil ?_
       cases h
       replace h : some _ = some _ := hk1 _ rfl
       cases h
       exact Wp.ret ⟨.inr rfl, _, _, rfl, rfl⟩
     refine Wp.skip ?_
     refine Wp.seq (Wp.region ?_)
     refine LWp.o 24 (.one (.ptr (.box 4) 0 [] 2)) ?_
     refine LWp.o 25 (.one (.sl false 165 2 (encs c165 x1.Leaves))) ?_
     refine LWp.o 26 (I (ln x1.Leaves)) ?_ (st_pure (p_ln k165 x1.Leaves))
     refine LWp.o 27 (I 0) ?_
     refine LWp.nil ?_
     refine Wp.l2 h [1, 4, 8, 9, 10, 25, 26, 27] [.box 1, .box 4] (fun s => (i_FlashOk_H4 xF y1 x1 s)) [1, 8, 9, 10] [.box 1] (fun _ => (i_FlashOk_H5 xF y1)) ⟨rfl, rfl⟩ ?_ ?_
     · rintro y2 o (h : i_FlashOk_b2 x1 y2 = some o) hk2
       unfold i_FlashOk_b2 at h
       change Wp _ _ _ (i_FlashOk_H4 xF y1 x1 y2) _
       refine Wp.seq (Wp.region ?_)
       refine LWp.o 28 (B (decide (y2 < (ln x1.Leaves)))) ?_
       refine LWp.nil ?_
       refine Wp.seq ?_
       refine Wp.c h (fun h => ?_) (fun h => ?_)
       · refine Wp.skip ?_
         refine Wp.seq ?_
         refine Wp.block ?_
         refine Wp.seq (Wp.region ?_)
         refine LWp.o 29 (I y2) ?_
         refine LWp.p h 30 (fun _ => (.one (.ptr (.slot 25) 0 [0] (Int.toNat y2 * 2 + 0)))) ?_ (fun x2 gx2 => st_pure (p_ix k165 (.slot 25) [] 0 gx2))
         intro x2 gx2 h
         refine LWp.o 31 (.agg [.int .i64 x2.Is, .str x2.Text]) ?_ (st_pure (p_le k165 (.slot 25) [0] gx2))
         refine LWp.b [] 6 [.int .i64 0, .str (bs [])] ?_
         refine LWp.o 5 (I y2) ?_
         refine LWp.s [] (.box 6) [.int .i64 x2.Is, .str x2.Text] ?_
         refine LWp.nil ?_
         refine Wp.seq ?_
         refine Wp.j1 h [1, 4, 8, 9, 10, 25, 26, 27, 53] [.box 1, .box 4] (fun a => (i_FlashOk_H6 xF y1 x1 y2 a)) ?_ ?_
         · intro a h
           refine Wp.region ?_
           refine LWp.o 32 (.agg [.int .i64 x2.Is, .str x2.Text]) ?_
           refine LWp.cl h 33 (fun v2 => (B v2)) rfl (l := [.sv (.agg [.int .i64 x2.Is, .str x2.Text])]) rfl (fun v hv => i_leafOk_t x2 v hv) (.inl rfl) ?_
           intro v2 gv2 h
           refine LWp.o 34 (B (!v2)) ?_
           refine LWp.o 35 (B (!v2)) ?_
           refine LWp.sp h 35 (fun h => ?_) (fun h => ?_)
           · refine LWp.sh 36 ?_
             refine LWp.sh 37 ?_
             refine LWp.sh 38 ?_
             refine LWp.sh 39 ?_
             refine LWp.sh 40 ?_
             refine LWp.sh 41 ?_
             refine LWp.sh 42 ?_
             refine LWp.sh 43 ?_
             refine LWp.sh 44 ?_
             refine LWp.sh 45 ?_
             refine LWp.sh 46 ?_
             refine LWp.sh 47 ?_
             refine LWp.sh 48 ?_
             refine LWp.sh 49 ?_
             refine LWp.sh 50 ?_
             refine LWp.sh 51 ?_
             refine LWp.sh 52 ?_
             refine LWp.o 53 (B true) ?_
             refine LWp.nil ?_
             cases h
             exact ⟨_, rfl, rfl, rfl⟩
           refine LWp.o 36 (I y2) ?_
           refine LWp.o 37 (B (decide (y2 > 0))) ?_
           refine LWp.o 38 (B (decide (y2 > 0))) ?_
           refine LWp.sp h 38 (fun h => ?_) (fun h => ?_)
           · refine LWp.o 39 (.one (.ptr (.box 4) 0 [] 2)) ?_
             refine LWp.o 40 (.one (.sl false 165 2 (encs c165 x1.Leaves))) ?_
             refine LWp.o 41 (I y2) ?_
             refine LWp.o 42 (I (sb y2 1)) ?_
             refine LWp.p h 43 (fun _ => (.one (.ptr (.slot 40) 1 [0] (Int.toNat (sb y2 1) * 2 + 0)))) ?_ (fun x3 gx3 => st_pure (p_ix k165 (.slot 40) [] 0 gx3))
             intro x3 gx3 h
             refine LWp.o 44 (.one (.ptr (.slot 40) 1 [0] (Int.toNat (sb y2 1) * 2 + 0))) ?_ (st_pure (p_fa k165 (.slot 40) [0] 0 gx3))
             refine LWp.o 45 (I x3.Is) ?_ (st_pure (p_lc k165 (.slot 40) [0] 0 (.int .i64 x3.Is) gx3))
             refine LWp.o 46 (B (x3.Is == 0)) ?_
             refine LWp.o 47 (B (x3.Is == 0)) ?_
             refine LWp.o 48 (B (x3.Is == 0)) ?_
             refine LWp.sp h 48 (fun h => ?_) (fun h => ?_)
             · refine LWp.o 49 (.one (.ptr (.box 6) 1 [] 0)) ?_
               refine LWp.o 50 (I x2.Is) ?_
               refine LWp.o 51 (B (x2.Is != 0)) ?_
               refine LWp.o 52 (B (x2.Is != 0)) ?_
               refine LWp.o 53 (B (x2.Is != 0)) ?_
               refine LWp.nil ?_
               cases h
               exact ⟨_, rfl, rfl, rfl⟩
             refine LWp.sh 49 ?_
             refine LWp.sh 50 ?_
             refine LWp.sh 51 ?_
             refine LWp.o 52 (B false) ?_
             refine LWp.o 53 (B false) ?_
             refine LWp.nil ?_
             cases h
             exact ⟨_, rfl, rfl, rfl⟩
           refine LWp.sh 39 ?_
           refine LWp.sh 40 ?_
           refine LWp.sh 41 ?_
           refine LWp.sh 42 ?_
           refine LWp.sh 43 ?_
           refine LWp.sh 44 ?_
           refine LWp.sh 45 ?_
           refine LWp.sh 46 ?_
           refine LWp.o 47 (B false) ?_
           refine LWp.o 48 (B false) ?_
           refine LWp.sh 49 ?_
           refine LWp.sh 50 ?_
           refine LWp.sh 51 ?_
           refine LWp.o 52 (B false) ?_
           refine LWp.o 53 (B false) ?_
           refine LWp.nil ?_
           cases h
           exact ⟨_, rfl, rfl, rfl⟩
         intro j2 h E hE
         refine nt_wp hE ?_
         change Wp _ _ _ (i_FlashOk_H6 xF y1 x1 y2 j2) _
         refine Wp.c h (fun h => ?_) (fun h => ?_)
         · refine Wp.seq (Wp.region ?_)
           refine LWp.o 2 (B false) ?_
           refine LWp.nil ?_
           cases h
           replace h : some _ = some _ := hk2 _ rfl
           cases h
           replace h : some _ = some _ := hk1 _ rfl
           cases h
           exact Wp.ret ⟨.inr rfl, _, _, rfl, rfl⟩
         refine Wp.skip ?_
         refine Wp.region ?_
         refine LWp.o 54 (I (ad y2 1)) ?_
         refine LWp.o 27 (I (ad y2 1)) ?_
         refine LWp.nil ?_
         cases h
         exact ⟨_, rfl, rfl, rfl⟩
       refine Wp.exit ?_
       cases h
       exact ⟨_, rfl, rfl, rfl⟩
     intro v3 h E hE
     refine nt_wp hE ?_
     change Wp _ _ _ (i_FlashOk_H5 xF y1) _
     refine Wp.region ?_
     refine LWp.o 55 (I (ad y1 1)) ?_
     refine LWp.o 10 (I (ad y1 1)) ?_
     refine LWp.nil ?_
     cases h
     exact ⟨_, rfl, rfl, rfl⟩
   refine Wp.exit ?_
   cases h
   exact ⟨_, rfl, rfl, rfl⟩
 intro v4 h E hE
 refine nt_wp hE ?_
 change Wp _ _ _ (i_FlashOk_H2 xF) _
 refine Wp.seq (Wp.region ?_)
 refine LWp.o 56 (.one (.ptr (.box 1) 0 [] 0)) ?_
 refine LWp.o 57 (.one (.sl false 124 3 (encs (c124 false) xF.Blocks))) ?_
 refine LWp.o 58 (I (ln xF.Blocks)) ?_ (st_pure (p_ln (k124 false) xF.Blocks))
 refine LWp.cl h 59 (fun v5 => (B v5)) rfl (l := [.sv (.one (.int .i64 (ln xF.Blocks))), .sv (.one (.int .i64 3)), .sv (.one (.int .i64 10))]) rfl (fun v hv => i_in_t (ln xF.Blocks) 3 10 v hv) (.inl rfl) ?_
 intro v5 gv5 h
 refine LWp.o 2 (B v5) ?_
 refine LWp.nil ?_
 cases h
 exact Wp.ret ⟨.inr rfl, _, _, rfl, rfl⟩
def i_blanks_H1 (xB : Block) (z1 : Int) (z2 : Int) : St := mkSt [(3, (I z1)), (7, (.one (.sl false 165 2 (encs c165 xB.Leaves)))), (8, (I (ln xB.Leaves))), (9, (I z2))] []
def i_blanks_H2 (z3 : Int) : St := mkSt [(3, (I z3))] []
theorem i_blanks_t (xB : Block) (r : Int) (h : i_blanks xB = some r) : Gives Tryz.prog 66 [.sv (.agg [.bool xB.Bad, .int .i64 xB.Wear, .sl false 165 2 (encs c165 xB.Leaves)])] (I r) (List.replicate 1 .gone) := by
 unfold i_blanks at h
 refine gives_of Tryz.func66 rfl ?_
 rw [Tryz.ntmps66]
 refine Wp.seq (Wp.region ?_)
 refine LWp.b [] 1 [.bool xB.Bad, .int .i64 xB.Wear, .sl false 165 2 (encs c165 xB.Leaves)] ?_
 refine LWp.o 2 (I 0) ?_
 refine LWp.nil ?_
 refine Wp.seq (Wp.region ?_)
 refine LWp.o 3 (I 0) ?_
 refine LWp.nil ?_
 refine Wp.seq ?_
 refine Wp.seq (Wp.region ?_)
 refine LWp.o 6 (.one (.ptr (.box 1) 1 [] 2)) ?_
 refine LWp.o 7 (.one (.sl false 165 2 (encs c165 xB.Leaves))) ?_
 refine LWp.o 8 (I (ln xB.Leaves)) ?_ (st_pure (p_ln k165 xB.Leaves))
 refine LWp.o 9 (I 0) ?_
 refine LWp.nil ?_
 refine Wp.l1 h [3, 7, 8, 9] [] (fun s => (i_blanks_H1 xB s.1 s.2)) [3] [] (fun s => (i_blanks_H2 s)) ⟨rfl, rfl⟩ ?_ ?_
 · rintro ⟨yN1, y1⟩ o (h : i_blanks_b1 xB yN1 y1 = some o)
   unfold i_blanks_b1 at h
   change Wp _ _ _ (i_blanks_H1 xB yN1 y1) _
   refine Wp.seq (Wp.region ?_)
   refine LWp.o 10 (B (decide (y1 < (ln xB.Leaves)))) ?_
   refine LWp.nil ?_
   refine Wp.seq ?_
   refine Wp.c h (fun h => ?_) (fun h => ?_)
   · refine Wp.skip ?_
     refine Wp.seq ?_
     refine Wp.block ?_
     refine Wp.seq (Wp.region ?_)
     refine LWp.p h 11 (fun _ => (.one (.ptr (.slot 7) 0 [0] (Int.toNat y1 * 2 + 0)))) ?_ (fun x1 gx1 => st_pure (p_ix k165 (.slot 7) [] 0 gx1))
     intro x1 gx1 h
     refine LWp.o 12 (.agg [.int .i64 x1.Is, .str x1.Text]) ?_ (st_pure (p_le k165 (.slot 7) [0] gx1))
     refine LWp.b [] 5 [.int .i64 0, .str (bs [])] ?_
     refine LWp.s [] (.box 5) [.int .i64 x1.Is, .str x1.Text] ?_
     refine LWp.nil ?_
     refine Wp.seq (Wp.region ?_)
     refine LWp.o 13 (.one (.ptr (.box 5) 1 [] 0)) ?_
     refine LWp.o 14 (I x1.Is) ?_
     refine LWp.o 15 (B (x1.Is == 0)) ?_
     refine LWp.nil ?_
     refine Wp.c h (fun h => ?_) (fun h => ?_)
     · refine Wp.region ?_
       refine LWp.o 16 (I yN1) ?_
       refine LWp.o 17 (I (ad yN1 1)) ?_
       refine LWp.o 3 (I (ad yN1 1)) ?_
       refine LWp.nil ?_
       refine Wp.region ?_
       refine LWp.o 18 (I (ad y1 1)) ?_
       refine LWp.o 9 (I (ad y1 1)) ?_
       refine LWp.nil ?_
       cases h
       exact ⟨_, rfl, rfl, rfl⟩
     refine Wp.skip ?_
     refine Wp.region ?_
     refine LWp.o 18 (I (ad y1 1)) ?_
     refine LWp.o 9 (I (ad y1 1)) ?_
     refine LWp.nil ?_
     cases h
     exact ⟨_, rfl, rfl, rfl⟩
   refine Wp.exit ?_
   cases h
   exact ⟨_, rfl, rfl, rfl⟩
 intro v1 h E hE
 refine nt_wp hE ?_
 change Wp _ _ _ (i_blanks_H2 v1) _
 refine Wp.seq (Wp.region ?_)
 refine LWp.o 19 (I v1) ?_
 refine LWp.o 2 (I v1) ?_
 refine LWp.nil ?_
 cases h
 exact Wp.ret ⟨.inr rfl, _, _, rfl, rfl⟩
end Go.TI
