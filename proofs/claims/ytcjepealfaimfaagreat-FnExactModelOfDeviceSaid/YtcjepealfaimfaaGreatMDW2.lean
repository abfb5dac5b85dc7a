/- That they compute it. No condition. -/
import Derived.Test.YtcjepealfaimfaaGreatMDW1
namespace Go.TI
set_option maxRecDepth 100000
open Go Go.Proofs
set_option linter.unusedVariables false
set_option linter.unusedSimpArgs false

def i_ReadVar_H1 (xText : ByteArray) (xAt : Int) (z1 : Int) (z2 : Int) : St := mkSt [(0, (Y xText)), (1, (I xAt)), (7, (I z1)), (8, (I z2))] []
def i_ReadVar_H2  : St := mkSt [] []
def i_ReadVar_H3 (xText : ByteArray) (xAt : Int) (yN1 : Int) (yK1 : Int) (z3 : Bool) : St := mkSt [(0, (Y xText)), (1, (I xAt)), (7, (I yN1)), (8, (I yK1)), (23, (B z3))] []
def i_ReadVar_H4 (xAt : Int) (yN1 : Int) (yK1 : Int) (x2 : Int) (z4 : Bool) : St := mkSt [(1, (I xAt)), (7, (I (ad yN1 x2))), (8, (I yK1)), (50, (B z4))] []
theorem i_ReadVar_t (xText : ByteArray) (xAt : Int) (r : Int × Int × Bool) (h : i_ReadVar xText xAt = some r) : Gives Tryz.prog 191 [.sv (Y xText), .sv (I xAt)] (.tup [(I r.1), (I r.2.1), (B r.2.2)]) (List.replicate 2 .gone) := by
 unfold i_ReadVar at h
 refine gives_of Tryz.func191 rfl ?_
 rw [Tryz.ntmps191]
 refine Wp.seq (Wp.region ?_)
 refine LWp.o 4 (I 0) ?_
 refine LWp.o 5 (I 0) ?_
 refine LWp.o 6 (B false) ?_
 refine LWp.nil ?_
 refine Wp.seq (Wp.region ?_)
 refine LWp.o 7 (I 0) ?_
 refine LWp.nil ?_
 refine Wp.seq ?_
 refine Wp.seq (Wp.region ?_)
 refine LWp.o 8 (I 0) ?_
 refine LWp.nil ?_
 refine Wp.l2 h [0, 1, 7, 8] [] (fun s => (i_ReadVar_H1 xText xAt s.1 s.2)) [] [] (fun _ => i_ReadVar_H2) ⟨rfl, rfl⟩ ?_ ?_
 · rintro ⟨yN1, yK1⟩ o (h : i_ReadVar_b1 xText xAt yN1 yK1 = some o) hk1
   unfold i_ReadVar_b1 at h
   change Wp _ _ _ (i_ReadVar_H1 xText xAt yN1 yK1) _
   refine Wp.seq ?_
   refine Wp.seq ?_
   refine Wp.j1 h [0, 1, 7, 8, 23] [] (fun a => (i_ReadVar_H3 xText xAt yN1 yK1 a)) ?_ ?_
   · intro a h
     refine Wp.region ?_
     refine LWp.o 10 (I yK1) ?_
     refine LWp.o 11 (B (decide (yK1 < 5))) ?_
     refine LWp.o 12 (B (decide (yK1 < 5))) ?_
     refine LWp.sp h 12 (fun h => ?_) (fun h => ?_)
     · refine LWp.o 13 (I xAt) ?_
       refine LWp.o 14 (B (decide (xAt ≥ 0))) ?_
       refine LWp.o 15 (B (decide (xAt ≥ 0))) ?_
       refine LWp.o 16 (B (decide (xAt ≥ 0))) ?_
       refine LWp.sp h 16 (fun h => ?_) (fun h => ?_)
       · refine LWp.o 17 (I xAt) ?_
         refine LWp.o 18 (Y xText) ?_
         refine LWp.o 19 (I (sln xText)) ?_
         refine LWp.o 20 (I yK1) ?_
         refine LWp.o 21 (I (sb (sln xText) yK1)) ?_
         refine LWp.o 22 (B (decide (xAt < (sb (sln xText) yK1)))) ?_
         refine LWp.o 23 (B (decide (xAt < (sb (sln xText) yK1)))) ?_
         refine LWp.nil ?_
         cases h
         exact ⟨_, rfl, rfl, rfl⟩
       refine LWp.sh 17 ?_
       refine LWp.sh 18 ?_
       refine LWp.sh 19 ?_
       refine LWp.sh 20 ?_
       refine LWp.sh 21 ?_
       refine LWp.sh 22 ?_
       refine LWp.o 23 (B false) ?_
       refine LWp.nil ?_
       cases h
       exact ⟨_, rfl, rfl, rfl⟩
     refine LWp.sh 13 ?_
     refine LWp.sh 14 ?_
     refine LWp.o 15 (B false) ?_
     refine LWp.o 16 (B false) ?_
     refine LWp.sh 17 ?_
     refine LWp.sh 18 ?_
     refine LWp.sh 19 ?_
     refine LWp.sh 20 ?_
     refine LWp.sh 21 ?_
     refine LWp.sh 22 ?_
     refine LWp.o 23 (B false) ?_
     refine LWp.nil ?_
     cases h
     exact ⟨_, rfl, rfl, rfl⟩
   intro j1 h E hE
   refine nt_wp hE ?_
   change Wp _ _ _ (i_ReadVar_H3 xText xAt yN1 yK1 j1) _
   refine Wp.c h (fun h => ?_) (fun h => ?_)
   · refine Wp.skip ?_
     refine Wp.seq ?_
     refine Wp.block ?_
     refine Wp.seq (Wp.region ?_)
     refine LWp.o 26 (Y xText) ?_
     refine LWp.o 27 (I xAt) ?_
     refine LWp.o 28 (I yK1) ?_
     refine LWp.o 29 (I (ad xAt yK1)) ?_
     refine LWp.p h 30 (fun x1 => (.one (.int .u8 x1))) ?_ (fun x1 gx1 => st_pure (p_sx gx1))
     intro x1 gx1 h
     refine LWp.o 31 (I (IntKind.i64.wrap x1)) ?_
     refine LWp.o 9 (I (IntKind.i64.wrap x1)) ?_
     refine LWp.nil ?_
     refine Wp.seq (Wp.region ?_)
     refine LWp.o 32 (I yN1) ?_
     refine LWp.o 33 (I (IntKind.i64.wrap x1)) ?_
     refine LWp.o 34 (I (Int.tmod (IntKind.i64.wrap x1) 128)) ?_
     refine LWp.o 35 (I yK1) ?_
     refine LWp.o 36 (I (ml 7 yK1)) ?_
     refine LWp.p h 37 (fun x2 => (I x2)) ?_ (fun x2 gx2 => st_pure (p_shl gx2))
     intro x2 gx2 h
     refine LWp.o 38 (I (ad yN1 x2)) ?_
     refine LWp.o 7 (I (ad yN1 x2)) ?_
     refine LWp.nil ?_
     refine Wp.seq ?_
     refine Wp.seq (Wp.region ?_)
     refine LWp.o 39 (I (IntKind.i64.wrap x1)) ?_
     refine LWp.o 40 (B (decide ((IntKind.i64.wrap x1) ≥ 128))) ?_
     refine LWp.nil ?_
     refine Wp.c h (fun h => ?_) (fun h => ?_)
     · refine Wp.exit ?_
       refine Wp.region ?_
       refine LWp.o 24 (I yK1) ?_
       refine LWp.o 25 (I (ad yK1 1)) ?_
       refine LWp.o 8 (I (ad yK1 1)) ?_
       refine LWp.nil ?_
       cases h
       exact ⟨_, rfl, rfl, rfl⟩
     refine Wp.skip ?_
     refine Wp.seq ?_
     refine Wp.seq ?_
     refine Wp.j1 h [1, 7, 8, 50] [] (fun a => (i_ReadVar_H4 xAt yN1 yK1 x2 a)) ?_ ?_
     · intro a h
       refine Wp.region ?_
       refine LWp.o 41 (I (IntKind.i64.wrap x1)) ?_
       refine LWp.o 42 (B ((IntKind.i64.wrap x1) == 0)) ?_
       refine LWp.o 43 (B ((IntKind.i64.wrap x1) == 0)) ?_
       refine LWp.sp h 43 (fun h => ?_) (fun h => ?_)
       · refine LWp.o 44 (I yK1) ?_
         refine LWp.o 45 (B (decide (yK1 > 0))) ?_
         refine LWp.o 46 (B (decide (yK1 > 0))) ?_
         refine LWp.o 47 (B (decide (yK1 > 0))) ?_
         refine LWp.sp h 47 (fun h => ?_) (fun h => ?_)
         · refine LWp.sh 48 ?_
           refine LWp.sh 49 ?_
           refine LWp.o 50 (B true) ?_
           refine LWp.nil ?_
           cases h
           exact ⟨_, rfl, rfl, rfl⟩
         refine LWp.o 48 (I (ad yN1 x2)) ?_
         refine LWp.o 49 (B (decide ((ad yN1 x2) > 1000000000))) ?_
         refine LWp.o 50 (B (decide ((ad yN1 x2) > 1000000000))) ?_
         refine LWp.nil ?_
         cases h
         exact ⟨_, rfl, rfl, rfl⟩
       refine LWp.sh 44 ?_
       refine LWp.sh 45 ?_
       refine LWp.o 46 (B false) ?_
       refine LWp.o 47 (B false) ?_
       refine LWp.o 48 (I (ad yN1 x2)) ?_
       refine LWp.o 49 (B (decide ((ad yN1 x2) > 1000000000))) ?_
       refine LWp.o 50 (B (decide ((ad yN1 x2) > 1000000000))) ?_
       refine LWp.nil ?_
       cases h
       exact ⟨_, rfl, rfl, rfl⟩
     intro j2 h E hE
     refine nt_wp hE ?_
     change Wp _ _ _ (i_ReadVar_H4 xAt yN1 yK1 x2 j2) _
     refine Wp.c h (fun h => ?_) (fun h => ?_)
     · refine Wp.seq (Wp.region ?_)
       refine LWp.o 4 (I 0) ?_
       refine LWp.o 5 (I 0) ?_
       refine LWp.o 6 (B false) ?_
       refine LWp.nil ?_
       cases h
       replace h : some _ = some _ := hk1 _ rfl
       cases h
       exact Wp.ret ⟨.inr rfl, _, _, rfl, rfl⟩
     refine Wp.skip ?_
     refine Wp.seq (Wp.region ?_)
     refine LWp.o 51 (I (ad yN1 x2)) ?_
     refine LWp.o 52 (I xAt) ?_
     refine LWp.o 53 (I yK1) ?_
     refine LWp.o 54 (I (ad xAt yK1)) ?_
     refine LWp.o 55 (I (ad (ad xAt yK1) 1)) ?_
     refine LWp.o 4 (I (ad yN1 x2)) ?_
     refine LWp.o 5 (I (ad (ad xAt yK1) 1)) ?_
     refine LWp.o 6 (B true) ?_
     refine LWp.nil ?_
     cases h
     replace h : some _ = some _ := hk1 _ rfl
     cases h
     exact Wp.ret ⟨.inr rfl, _, _, rfl, rfl⟩
   refine Wp.exit ?_
   cases h
   exact ⟨_, rfl, rfl, rfl⟩
 intro v1 h E hE
 refine nt_wp hE ?_
 change Wp _ _ _ i_ReadVar_H2 _
 refine Wp.seq (Wp.region ?_)
 refine LWp.o 4 (I 0) ?_
 refine LWp.o 5 (I 0) ?_
 refine LWp.o 6 (B false) ?_
 refine LWp.nil ?_
 cases h
 exact Wp.ret ⟨.inr rfl, _, _, rfl, rfl⟩
def i_PageOk_H1 (xP : Page) (z1 : Bool) : St := mkSt [(1, (.one (.ptr (.box 1) 0 [] 0))), (33, (B z1))] [(.box 1, [.int .i64 xP.Kind, .int .i64 xP.Seq, .int .i64 xP.Tx, .int .i64 xP.Part, .int .i64 xP.Count, .str xP.Text])]
theorem i_PageOk_t (xP : Page) (r : Bool) (h : i_PageOk xP = some r) : Gives Tryz.prog 134 [.sv (.agg [.int .i64 xP.Kind, .int .i64 xP.Seq, .int .i64 xP.Tx, .int .i64 xP.Part, .int .i64 xP.Count, .str xP.Text])] (B r) (List.replicate 1 .gone) := by
 unfold i_PageOk at h
 refine gives_of Tryz.func134 rfl ?_
 rw [Tryz.ntmps134]
 refine Wp.seq (Wp.region ?_)
 refine LWp.b [] 1 [.int .i64 xP.Kind, .int .i64 xP.Seq, .int .i64 xP.Tx, .int .i64 xP.Part, .int .i64 xP.Count, .str xP.Text] ?_
 refine LWp.o 2 (B false) ?_
 refine LWp.nil ?_
 refine Wp.seq ?_
 refine Wp.seq ?_
 refine Wp.j1 h [1, 33] [.box 1] (fun a => (i_PageOk_H1 xP a)) ?_ ?_
 · intro a h
   refine Wp.region ?_
   refine LWp.o 3 (.one (.ptr (.box 1) 1 [] 1)) ?_
   refine LWp.o 4 (I xP.Seq) ?_
   refine LWp.cl h 5 (fun v1 => (B v1)) rfl (l := [.sv (.one (.int .i64 xP.Seq)), .sv (.one (.int .i64 1)), .sv (.one (.int .i64 1000000000))]) rfl (fun v hv => i_in_t xP.Seq 1 1000000000 v hv) (.inl rfl) ?_
   intro v1 gv1 h
   refine LWp.o 6 (B (!v1)) ?_
   refine LWp.o 7 (B (!v1)) ?_
   refine LWp.sp h 7 (fun h => ?_) (fun h => ?_)
   · refine LWp.sh 8 ?_
     refine LWp.sh 9 ?_
     refine LWp.sh 10 ?_
     refine LWp.sh 11 ?_
     refine LWp.o 12 (B true) ?_
     refine LWp.o 13 (B true) ?_
     refine LWp.sh 14 ?_
     refine LWp.sh 15 ?_
     refine LWp.sh 16 ?_
     refine LWp.sh 17 ?_
     refine LWp.o 18 (B true) ?_
     refine LWp.o 19 (B true) ?_
     refine LWp.sh 20 ?_
     refine LWp.sh 21 ?_
     refine LWp.sh 22 ?_
     refine LWp.sh 23 ?_
     refine LWp.sh 24 ?_
     refine LWp.sh 25 ?_
     refine LWp.sh 26 ?_
     refine LWp.o 27 (B true) ?_
     refine LWp.o 28 (B true) ?_
     refine LWp.sh 29 ?_
     refine LWp.sh 30 ?_
     refine LWp.sh 31 ?_
     refine LWp.sh 32 ?_
     refine LWp.o 33 (B true) ?_
     refine LWp.nil ?_
     cases h
     exact ⟨_, rfl, rfl, rfl⟩
   refine LWp.o 8 (.one (.ptr (.box 1) 1 [] 2)) ?_
   refine LWp.o 9 (I xP.Tx) ?_
   refine LWp.cl h 10 (fun v2 => (B v2)) rfl (l := [.sv (.one (.int .i64 xP.Tx)), .sv (.one (.int .i64 1)), .sv (.one (.int .i64 1000000000))]) rfl (fun v hv => i_in_t xP.Tx 1 1000000000 v hv) (.inl rfl) ?_
   intro v2 gv2 h
   refine LWp.o 11 (B (!v2)) ?_
   refine LWp.o 12 (B (!v2)) ?_
   refine LWp.o 13 (B (!v2)) ?_
   refine LWp.sp h 13 (fun h => ?_) (fun h => ?_)
   · refine LWp.sh 14 ?_
     refine LWp.sh 15 ?_
     refine LWp.sh 16 ?_
     refine LWp.sh 17 ?_
     refine LWp.o 18 (B true) ?_
     refine LWp.o 19 (B true) ?_
     refine LWp.sh 20 ?_
     refine LWp.sh 21 ?_
     refine LWp.sh 22 ?_
     refine LWp.sh 23 ?_
     refine LWp.sh 24 ?_
     refine LWp.sh 25 ?_
     refine LWp.sh 26 ?_
     refine LWp.o 27 (B true) ?_
     refine LWp.o 28 (B true) ?_
     refine LWp.sh 29 ?_
     refine LWp.sh 30 ?_
     refine LWp.sh 31 ?_
     refine LWp.sh 32 ?_
     refine LWp.o 33 (B true) ?_
     refine LWp.nil ?_
     cases h
     exact ⟨_, rfl, rfl, rfl⟩
   refine LWp.o 14 (.one (.ptr (.box 1) 1 [] 4)) ?_
   refine LWp.o 15 (I xP.Count) ?_
   refine LWp.cl h 16 (fun v3 => (B v3)) rfl (l := [.sv (.one (.int .i64 xP.Count)), .sv (.one (.int .i64 1)), .sv (.one (.int .i64 9))]) rfl (fun v hv => i_in_t xP.Count 1 9 v hv) (.inl rfl) ?_
   intro v3 gv3 h
   refine LWp.o 17 (B (!v3)) ?_
   refine LWp.o 18 (B (!v3)) ?_
   refine LWp.o 19 (B (!v3)) ?_
   refine LWp.sp h 19 (fun h => ?_) (fun h => ?_)
   · refine LWp.sh 20 ?_
     refine LWp.sh 21 ?_
     refine LWp.sh 22 ?_
     refine LWp.sh 23 ?_
     refine LWp.sh 24 ?_
     refine LWp.sh 25 ?_
     refine LWp.sh 26 ?_
     refine LWp.o 27 (B true) ?_
     refine LWp.o 28 (B true) ?_
     refine LWp.sh 29 ?_
     refine LWp.sh 30 ?_
     refine LWp.sh 31 ?_
     refine LWp.sh 32 ?_
     refine LWp.o 33 (B true) ?_
     refine LWp.nil ?_
     cases h
     exact ⟨_, rfl, rfl, rfl⟩
   refine LWp.o 20 (.one (.ptr (.box 1) 1 [] 3)) ?_
   refine LWp.o 21 (I xP.Part) ?_
   refine LWp.o 22 (.one (.ptr (.box 1) 1 [] 4)) ?_
   refine LWp.o 23 (I xP.Count) ?_
   refine LWp.o 24 (I (sb xP.Count 1)) ?_
   refine LWp.cl h 25 (fun v4 => (B v4)) rfl (l := [.sv (.one (.int .i64 xP.Part)), .sv (.one (.int .i64 0)), .sv (.one (.int .i64 (sb xP.Count 1)))]) rfl (fun v hv => i_in_t xP.Part 0 (sb xP.Count 1) v hv) (.inl rfl) ?_
   intro v4 gv4 h
   refine LWp.o 26 (B (!v4)) ?_
   refine LWp.o 27 (B (!v4)) ?_
   refine LWp.o 28 (B (!v4)) ?_
   refine LWp.sp h 28 (fun h => ?_) (fun h => ?_)
   · refine LWp.sh 29 ?_
     refine LWp.sh 30 ?_
     refine LWp.sh 31 ?_
     refine LWp.sh 32 ?_
     refine LWp.o 33 (B true) ?_
     refine LWp.nil ?_
     cases h
     exact ⟨_, rfl, rfl, rfl⟩
   refine LWp.o 29 (.one (.ptr (.box 1) 1 [] 5)) ?_
   refine LWp.o 30 (Y xP.Text) ?_
   refine LWp.o 31 (I (sln xP.Text)) ?_
   refine LWp.o 32 (B (decide ((sln xP.Text) > 90))) ?_
   refine LWp.o 33 (B (decide ((sln xP.Text) > 90))) ?_
   refine LWp.nil ?_
   cases h
   exact ⟨_, rfl, rfl, rfl⟩
 intro j1 h E hE
 refine nt_wp hE ?_
 change Wp _ _ _ (i_PageOk_H1 xP j1) _
 refine Wp.c h (fun h => ?_) (fun h => ?_)
 · refine Wp.seq (Wp.region ?_)
   refine LWp.o 2 (B false) ?_
   refine LWp.nil ?_
   cases h
   exact Wp.ret ⟨.inr rfl, _, _, rfl, rfl⟩
 refine Wp.skip ?_
 refine Wp.seq (Wp.region ?_)
 refine LWp.o 34 (.one (.ptr (.box 1) 0 [] 0)) ?_
 refine LWp.o 35 (I xP.Kind) ?_
 refine LWp.o 36 (B (xP.Kind == 2)) ?_
 refine LWp.o 37 (B (xP.Kind == 2)) ?_
 refine LWp.sp h 37 (fun h => ?_) (fun h => ?_)
 · refine LWp.sh 38 ?_
   refine LWp.sh 39 ?_
   refine LWp.sh 40 ?_
   refine LWp.sh 41 ?_
   refine LWp.sh 42 ?_
   refine LWp.sh 43 ?_
   refine LWp.sh 44 ?_
   refine LWp.sh 45 ?_
   refine LWp.o 46 (B true) ?_
   refine LWp.o 2 (B true) ?_
   refine LWp.nil ?_
   cases h
   exact Wp.ret ⟨.inr rfl, _, _, rfl, rfl⟩
 refine LWp.o 38 (.one (.ptr (.box 1) 0 [] 0)) ?_
 refine LWp.o 39 (I xP.Kind) ?_
 refine LWp.o 40 (B (xP.Kind == 1)) ?_
 refine LWp.o 41 (B (xP.Kind == 1)) ?_
 refine LWp.sp h 41 (fun h => ?_) (fun h => ?_)
 · refine LWp.o 42 (.one (.ptr (.box 1) 0 [] 4)) ?_
   refine LWp.o 43 (I xP.Count) ?_
   refine LWp.o 44 (B (xP.Count == 1)) ?_
   refine LWp.o 45 (B (xP.Count == 1)) ?_
   refine LWp.o 46 (B (xP.Count == 1)) ?_
   refine LWp.o 2 (B (xP.Count == 1)) ?_
   refine LWp.nil ?_
   cases h
   exact Wp.ret ⟨.inr rfl, _, _, rfl, rfl⟩
 refine LWp.sh 42 ?_
 refine LWp.sh 43 ?_
 refine LWp.sh 44 ?_
 refine LWp.o 45 (B false) ?_
 refine LWp.o 46 (B false) ?_
 refine LWp.o 2 (B false) ?_
 refine LWp.nil ?_
 cases h
 exact Wp.ret ⟨.inr rfl, _, _, rfl, rfl⟩
def i_ReadPage_H1 (v1 : ByteArray × Bool) (z1 : Bool) : St := mkSt [(2, (.one (.ptr (.box 2) 0 [] 0))), (4, (Y v1.1)), (23, (B z1))] [(.box 2, [.int .i64 0, .int .i64 0, .int .i64 0, .int .i64 0, .int .i64 0, .str (bs [])])]
def i_ReadPage_H2 (v1 : ByteArray × Bool) (z2 : Int) (z3 : Int) (z4 : Int) (z5 : Int) (z6 : Int) (z7 : Int) : St := mkSt [(2, (.one (.ptr (.box 2) 0 [] 0))), (4, (Y v1.1)), (6, (.one (.ptr (.box 6) 0 [] 0))), (7, (I z2)), (25, (I z3))] [(.box 2, [.int .i64 0, .int .i64 0, .int .i64 0, .int .i64 0, .int .i64 0, .str (bs [])]), (.box 6, [.int .i64 z4, .int .i64 z5, .int .i64 z6, .int .i64 z7])]
def i_ReadPage_H3 (v1 : ByteArray × Bool) (z8 : Int) (z9 : Int) (z10 : Int) (z11 : Int) (z12 : Int) : St := mkSt [(2, (.one (.ptr (.box 2) 0 [] 0))), (4, (Y v1.1)), (6, (.one (.ptr (.box 6) 0 [] 0))), (7, (I z8))] [(.box 2, [.int .i64 0, .int .i64 0, .int .i64 0, .int .i64 0, .int .i64 0, .str (bs [])]), (.box 6, [.int .i64 z9, .int .i64 z10, .int .i64 z11, .int .i64 z12])]
theorem i_ReadPage_t (xT : ByteArray) (r : Page × Bool) (h : i_ReadPage xT = some r) : Gives Tryz.prog 158 [.sv (Y xT)] (.tup [(.agg [.int .i64 r.1.Kind, .int .i64 r.1.Seq, .int .i64 r.1.Tx, .int .i64 r.1.Part, .int .i64 r.1.Count, .str r.1.Text]), (B r.2)]) (List.replicate 1 .gone) := by
 unfold i_ReadPage at h
 refine gives_of Tryz.func158 rfl ?_
 rw [Tryz.ntmps158]
 refine Wp.seq (Wp.region ?_)
 refine LWp.b [] 2 [.int .i64 0, .int .i64 0, .int .i64 0, .int .i64 0, .int .i64 0, .str (bs [])] ?_
 refine LWp.o 3 (B false) ?_
 refine LWp.nil ?_
 refine Wp.seq (Wp.region ?_)
 refine LWp.o 14 (Y xT) ?_
 refine LWp.cl h 15 (fun v1 => (.tup [(Y v1.1), (B v1.2)])) rfl (l := [.sv (.one (.str xT))]) rfl (fun v hv => i_Unsealed_t xT v hv) (.inl rfl) ?_
 intro v1 gv1 h
 refine LWp.mt 15 13 (.tup [(Y v1.1), (B v1.2)]) ?_
 refine LWp.e 13 0 16 (Y v1.1) ?_
 refine LWp.e 13 1 17 (B v1.2) ?_
 refine LWp.o 4 (Y v1.1) ?_
 refine LWp.o 5 (B v1.2) ?_
 refine LWp.nil ?_
 refine Wp.seq ?_
 refine Wp.seq ?_
 refine Wp.j1 h [2, 4, 23] [.box 2] (fun a => (i_ReadPage_H1 v1 a)) ?_ ?_
 · intro a h
   refine Wp.region ?_
   refine LWp.o 18 (B v1.2) ?_
   refine LWp.o 19 (B (!v1.2)) ?_
   refine LWp.o 20 (B (!v1.2)) ?_
   refine LWp.sp h 20 (fun h => ?_) (fun h => ?_)
   · refine LWp.sh 21 ?_
     refine LWp.sh 22 ?_
     refine LWp.o 23 (B true) ?_
     refine LWp.nil ?_
     cases h
     exact ⟨_, rfl, rfl, rfl⟩
   refine LWp.o 21 (Y v1.1) ?_
   refine LWp.o 22 (B (seq v1.1 (bs []))) ?_
   refine LWp.o 23 (B (seq v1.1 (bs []))) ?_
   refine LWp.nil ?_
   cases h
   exact ⟨_, rfl, rfl, rfl⟩
 intro j1 h E hE
 refine nt_wp hE ?_
 change Wp _ _ _ (i_ReadPage_H1 v1 j1) _
 refine Wp.c h (fun h => ?_) (fun h => ?_)
 · refine Wp.seq (Wp.region ?_)
   refine LWp.o 24 (.agg [.int .i64 0, .int .i64 0, .int .i64 0, .int .i64 0, .int .i64 0, .str (bs [])]) ?_
   refine LWp.s [] (.box 2) [.int .i64 0, .int .i64 0, .int .i64 0, .int .i64 0, .int .i64 0, .str (bs [])] ?_
   refine LWp.o 3 (B false) ?_
   refine LWp.nil ?_
   cases h
   exact Wp.ret ⟨.inr rfl, _, _, rfl, rfl⟩
 refine Wp.skip ?_
 refine Wp.seq (Wp.region ?_)
 refine LWp.b [] 6 [.int .i64 0, .int .i64 0, .int .i64 0, .int .i64 0] ?_
 refine LWp.nil ?_
 refine Wp.seq (Wp.region ?_)
 refine LWp.o 7 (I 1) ?_
 refine LWp.nil ?_
 refine Wp.seq ?_
 refine Wp.seq (Wp.region ?_)
 refine LWp.o 25 (I 0) ?_
 refine LWp.nil ?_
 refine Wp.l2 h [2, 4, 6, 7, 25] [.box 2, .box 6] (fun s => (i_ReadPage_H2 v1 s.1 s.2.1 s.2.2.1 s.2.2.2.1 s.2.2.2.2.1 s.2.2.2.2.2)) [2, 4, 6, 7] [.box 2, .box 6] (fun s => (i_ReadPage_H3 v1 s.1 s.2.1 s.2.2.1 s.2.2.2.1 s.2.2.2.2)) ⟨rfl, rfl⟩ ?_ ?_
 · rintro ⟨yAt1, y1, yL01, yL11, yL21, yL31⟩ o (h : i_ReadPage_b1 v1 yAt1 y1 yL01 yL11 yL21 yL31 = some o) hk1
   unfold i_ReadPage_b1 at h
   change Wp _ _ _ (i_ReadPage_H2 v1 yAt1 y1 yL01 yL11 yL21 yL31) _
   refine Wp.seq (Wp.region ?_)
   refine LWp.o 26 (B (decide (y1 < 4))) ?_
   refine LWp.nil ?_
   refine Wp.seq ?_
   refine Wp.c h (fun h => ?_) (fun h => ?_)
   · refine Wp.skip ?_
     refine Wp.seq ?_
     refine Wp.block ?_
     refine Wp.seq (Wp.region ?_)
     refine LWp.o 27 (I y1) ?_
     refine LWp.o 8 (I y1) ?_
     refine LWp.nil ?_
     refine Wp.seq (Wp.region ?_)
     refine LWp.o 29 (Y v1.1) ?_
     refine LWp.o 30 (I yAt1) ?_
     refine LWp.cl h 31 (fun v2 => (.tup [(I v2.1), (I v2.2.1), (B v2.2.2)])) rfl (l := [.sv (.one (.str v1.1)), .sv (.one (.int .i64 yAt1))]) rfl (fun v hv => i_ReadVar_t v1.1 yAt1 v hv) (.inl rfl) ?_
     intro v2 gv2 h
     refine LWp.mt 31 28 (.tup [(I v2.1), (I v2.2.1), (B v2.2.2)]) ?_
     refine LWp.e 28 0 32 (I v2.1) ?_
     refine LWp.e 28 1 33 (I v2.2.1) ?_
     refine LWp.e 28 2 34 (B v2.2.2) ?_
     refine LWp.o 9 (I v2.1) ?_
     refine LWp.o 10 (I v2.2.1) ?_
     refine LWp.o 11 (B v2.2.2) ?_
     refine LWp.nil ?_
     refine Wp.seq ?_
     refine Wp.seq (Wp.region ?_)
     refine LWp.o 35 (B v2.2.2) ?_
     refine LWp.o 36 (B (!v2.2.2)) ?_
     refine LWp.nil ?_
     refine Wp.c h (fun h => ?_) (fun h => ?_)
     · refine Wp.seq (Wp.region ?_)
       refine LWp.o 37 (.agg [.int .i64 0, .int .i64 0, .int .i64 0, .int .i64 0, .int .i64 0, .str (bs [])]) ?_
       refine LWp.s [] (.box 2) [.int .i64 0, .int .i64 0, .int .i64 0, .int .i64 0, .int .i64 0, .str (bs [])] ?_
       refine LWp.o 3 (B false) ?_
       refine LWp.nil ?_
       cases h
       replace h : some _ = some _ := hk1 _ rfl
       cases h
       exact Wp.ret ⟨.inr rfl, _, _, rfl, rfl⟩
     refine Wp.skip ?_
     refine Wp.region ?_
     refine LWp.o 38 (I y1) ?_
     refine LWp.o 39 (I v2.1) ?_
     refine LWp.o 40 (I v2.2.1) ?_
     refine bsplit h (fun hb h => ?_) (fun h => ?_)
     · refine LWp.o 41 (.one (.ptr (.box 6) 0 [] 0)) ?_ (st_pure (p_xa (m := 0) (.box 6) [] 0 (eq_of_beq hb)))
       refine LWp.s [] (.box 6) [.int .i64 v2.1, .int .i64 yL11, .int .i64 yL21, .int .i64 yL31] ?_
       refine LWp.o 7 (I v2.2.1) ?_
       refine LWp.nil ?_
       refine Wp.region ?_
       refine LWp.o 42 (I (ad y1 1)) ?_
       refine LWp.o 25 (I (ad y1 1)) ?_
       refine LWp.nil ?_
       cases h
       exact ⟨_, rfl, rfl, rfl⟩
     refine bsplit h (fun hb h => ?_) (fun h => ?_)
     · refine LWp.o 41 (.one (.ptr (.box 6) 0 [] 1)) ?_ (st_pure (p_xa (m := 1) (.box 6) [] 0 (eq_of_beq hb)))
       refine LWp.s [] (.box 6) [.int .i64 yL01, .int .i64 v2.1, .int .i64 yL21, .int .i64 yL31] ?_
       refine LWp.o 7 (I v2.2.1) ?_
       refine LWp.nil ?_
       refine Wp.region ?_
       refine LWp.o 42 (I (ad y1 1)) ?_
       refine LWp.o 25 (I (ad y1 1)) ?_
       refine LWp.nil ?_
       cases h
       exact ⟨_, rfl, rfl, rfl⟩
     refine bsplit h (fun hb h => ?_) (fun h => ?_)
     · refine LWp.o 41 (.one (.ptr (.box 6) 0 [] 2)) ?_ (st_pure (p_xa (m := 2) (.box 6) [] 0 (eq_of_beq hb)))
       refine LWp.s [] (.box 6) [.int .i64 yL01, .int .i64 yL11, .int .i64 v2.1, .int .i64 yL31] ?_
       refine LWp.o 7 (I v2.2.1) ?_
       refine LWp.nil ?_
       refine Wp.region ?_
       refine LWp.o 42 (I (ad y1 1)) ?_
       refine LWp.o 25 (I (ad y1 1)) ?_
       refine LWp.nil ?_
       cases h
       exact ⟨_, rfl, rfl, rfl⟩
     refine bsplit h (fun hb h => ?_) (fun h => ?_)
     · refine LWp.o 41 (.one (.ptr (.box 6) 0 [] 3)) ?_ (st_pure (p_xa (m := 3) (.box 6) [] 0 (eq_of_beq hb)))
       refine LWp.s [] (.box 6) [.int .i64 yL01, .int .i64 yL11, .int .i64 yL21, .int .i64 v2.1] ?_
       refine LWp.o 7 (I v2.2.1) ?_
       refine LWp.nil ?_
       refine Wp.region ?_
       refine LWp.o 42 (I (ad y1 1)) ?_
       refine LWp.o 25 (I (ad y1 1)) ?_
       refine LWp.nil ?_
       cases h
       exact ⟨_, rfl, rfl, rfl⟩
     cases h
   refine Wp.exit ?_
   cases h
   exact ⟨_, rfl, rfl, rfl⟩
 intro v3 h E hE
 refine nt_wp hE ?_
 change Wp _ _ _ (i_ReadPage_H3 v1 v3.1 v3.2.1 v3.2.2.1 v3.2.2.2.1 v3.2.2.2.2) _
 refine Wp.seq ?_
 refine Wp.regionK 17 [16] mixed (fun c E h => by rcases h with ⟨h | h, _⟩ <;> cases h) ?_
 refine KWp.o 17 0 43 (Y v1.1) ?_
 refine KWp.p h 17 1 44 (fun x1 => (.one (.int .u8 x1))) ?_ rfl (fun x1 gx1 => sl_pure (p_sx gx1))
 intro x1 gx1 h
 refine KWp.o 17 2 45 (I (IntKind.i64.wrap x1)) ?_
 refine KWp.o 17 3 46 (.one (.ptr (.box 6) 0 [] 0)) ?_ rfl (sl_pure (p_xa (m := 0) (.box 6) [] 0 rfl))
 refine KWp.o 17 4 47 (I v3.2.1) ?_
 refine KWp.o 17 5 48 (.one (.ptr (.box 6) 0 [] 1)) ?_ rfl (sl_pure (p_xa (m := 1) (.box 6) [] 0 rfl))
 refine KWp.o 17 6 49 (I v3.2.2.1) ?_
 refine KWp.o 17 7 50 (.one (.ptr (.box 6) 0 [] 2)) ?_ rfl (sl_pure (p_xa (m := 2) (.box 6) [] 0 rfl))
 refine KWp.o 17 8 51 (I v3.2.2.2.1) ?_
 refine KWp.o 17 9 52 (.one (.ptr (.box 6) 0 [] 3)) ?_ rfl (sl_pure (p_xa (m := 3) (.box 6) [] 0 rfl))
 refine KWp.o 17 10 53 (I v3.2.2.2.2) ?_
 refine KWp.o 17 11 54 (Y v1.1) ?_
 refine KWp.o 17 12 55 (I v3.1) ?_
 refine KWp.p h 17 13 56 (fun x2 => (Y x2)) ?_ rfl (fun x2 gx2 => sl_pure (p_sub gx2))
 intro x2 gx2 h
 refine KWp.o 17 14 57 (.agg [.int .i64 (IntKind.i64.wrap x1), .int .i64 v3.2.1, .int .i64 v3.2.2.1, .int .i64 v3.2.2.2.1, .int .i64 v3.2.2.2.2, .str x2]) ?_
 refine KWp.w1 15 ?_
 refine KOp.b 15 [] 12 [.int .i64 0, .int .i64 0, .int .i64 0, .int .i64 0, .int .i64 0, .str (bs [])] ?_
 refine KWp.w1 16 ?_
 refine KOp.s 16 [] (.box 12) [.int .i64 (IntKind.i64.wrap x1), .int .i64 v3.2.1, .int .i64 v3.2.2.1, .int .i64 v3.2.2.2.1, .int .i64 v3.2.2.2.2, .str x2] ?_
 refine KWp.done ?_
 refine Wp.seq ?_
 refine Wp.seq (Wp.region ?_)
 refine LWp.o 58 (.agg [.int .i64 (IntKind.i64.wrap x1), .int .i64 v3.2.1, .int .i64 v3.2.2.1, .int .i64 v3.2.2.2.1, .int .i64 v3.2.2.2.2, .str x2]) ?_
 refine LWp.cl h 59 (fun v4 => (B v4)) rfl (l := [.sv (.agg [.int .i64 (IntKind.i64.wrap x1), .int .i64 v3.2.1, .int .i64 v3.2.2.1, .int .i64 v3.2.2.2.1, .int .i64 v3.2.2.2.2, .str x2])]) rfl (fun v hv => i_PageOk_t (Page.mk (IntKind.i64.wrap x1) v3.2.1 v3.2.2.1 v3.2.2.2.1 v3.2.2.2.2 x2) v hv) (.inl rfl) ?_
 intro v4 gv4 h
 refine LWp.o 60 (B (!v4)) ?_
 refine LWp.nil ?_
 refine Wp.c h (fun h => ?_) (fun h => ?_)
 · refine Wp.seq (Wp.region ?_)
   refine LWp.o 61 (.agg [.int .i64 0, .int .i64 0, .int .i64 0, .int .i64 0, .int .i64 0, .str (bs [])]) ?_
   refine LWp.s [] (.box 2) [.int .i64 0, .int .i64 0, .int .i64 0, .int .i64 0, .int .i64 0, .str (bs [])] ?_
   refine LWp.o 3 (B false) ?_
   refine LWp.nil ?_
   cases h
   exact Wp.ret ⟨.inr rfl, _, _, rfl, rfl⟩
 refine Wp.skip ?_
 refine Wp.seq (Wp.region ?_)
 refine LWp.o 62 (.agg [.int .i64 (IntKind.i64.wrap x1), .int .i64 v3.2.1, .int .i64 v3.2.2.1, .int .i64 v3.2.2.2.1, .int .i64 v3.2.2.2.2, .str x2]) ?_
 refine LWp.s [] (.box 2) [.int .i64 (IntKind.i64.wrap x1), .int .i64 v3.2.1, .int .i64 v3.2.2.1, .int .i64 v3.2.2.2.1, .int .i64 v3.2.2.2.2, .str x2] ?_
 refine LWp.o 3 (B true) ?_
 refine LWp.nil ?_
 cases h
 exact Wp.ret ⟨.inr rfl, _, _, rfl, rfl⟩
theorem fl158 : ∀ x, (c158 x).all TV.flat = true := fun _ => rfl
theorem i_ScanAll_1_t (n b g cap : Nat) (T : TypeId) (hb : b ≠ g) : LessOk Tryz.prog (rowAmb n b g cap 158 T 8 c158) (ltk i_ScanAll_1) 160 #[.pointer (some ⟨b, 0, none⟩)] := by
 refine lessOk_of Tryz.func160 rfl rfl ?_
 rintro l i j x y hx hy ⟨w, hI⟩
 have hn : l.length = n := hI.len
 have hi := gi_lt hx
 have hj := gi_lt hy
 refine gives_rd Tryz.func160 rfl rfl ?_
 rw [Tryz.ntmps160]
 refine Wp.seq (Wp.region ?_)
 refine LWp.o 5 (B false) ?_
 refine LWp.nil ?_
 refine Wp.seq ?_
 refine Wp.regionS mixed (by decide +kernel) ?_
 refine SWp.ld 6 (.hdr ⟨g, 0, none⟩ n cap) (.slice (some ⟨g, 0, none⟩) n cap) ?_ rfl rd_box (fun w => by simp [rep]) rfl rfl rfl
 refine SWp.o 7 (I i) ?_
 refine SWp.ix (n := n) 8 (m := i) ?_ rfl Tryz.underlying107 rfl hi.1 (by omega) (by decide)
 refine SWp.fa (f := 2) 9 ?_ rfl Tryz.underlying158 rfl (by decide)
 refine SWp.fa (f := 1) 10 ?_ rfl Tryz.underlying85 rfl (by decide)
 refine SWp.ld (x := 10) 11 (.int .i64 (i_ScanAll_1 x)) (.int .i64 (i_ScanAll_1 x)) ?_ rfl (rd_row (k := 3) (t := .int .i64 (i_ScanAll_1 x)) k158 hx rfl hb (by rw [addr0]; rfl)) (fun w => by simp [rep]) rfl rfl rfl
 refine SWp.ld 12 (.hdr ⟨g, 0, none⟩ n cap) (.slice (some ⟨g, 0, none⟩) n cap) ?_ rfl rd_box (fun w => by simp [rep]) rfl rfl rfl
 refine SWp.o 13 (I j) ?_
 refine SWp.ix (n := n) 14 (m := j) ?_ rfl Tryz.underlying107 rfl hj.1 (by omega) (by decide)
 refine SWp.fa (f := 2) 15 ?_ rfl Tryz.underlying158 rfl (by decide)
 refine SWp.fa (f := 1) 16 ?_ rfl Tryz.underlying85 rfl (by decide)
 refine SWp.ld (x := 16) 17 (.int .i64 (i_ScanAll_1 y)) (.int .i64 (i_ScanAll_1 y)) ?_ rfl (rd_row (k := 3) (t := .int .i64 (i_ScanAll_1 y)) k158 hy rfl hb (by rw [addr0]; rfl)) (fun w => by simp [rep]) rfl rfl rfl
 refine SWp.o 18 (B (decide ((i_ScanAll_1 x) < (i_ScanAll_1 y)))) ?_
 refine SWp.o 5 (B (decide ((i_ScanAll_1 x) < (i_ScanAll_1 y)))) ?_
 refine SWp.nil ?_
 exact Wp.ret ⟨.inr rfl, rfl, _, rfl⟩
theorem i_ScanAll_1_s {l r : List Found} (h : sort_stable_func (ltk i_ScanAll_1) l (ln l) = some r) : SortsAt Tryz.prog 159 107 158 8 c158 160 l r := by
 refine sort_SliceStable_at k158 h Tryz.t107 Tryz.t158 rfl rfl (by kernel_rfl) rfl 25 (fun w => rfl) rfl Tryz.isAgg158 (enters_of Tryz.func160 rfl rfl) ?_ (fun n b g cap T hb => i_ScanAll_1_t n b g cap T hb)
 intro n
 match n with
 | 0 => exact ⟨205, by kernel_rfl, fun h => absurd h (by decide)⟩
 | 1 => exact ⟨206, by kernel_rfl, fun h => absurd h (by decide)⟩
 | n + 2 =>
  have hk : Go.Lib.swapperK (n + 2) Tryz.t158 25 = 9 := rfl
  rw [hk]
  exact ⟨213, by kernel_rfl, fun _ => ⟨by decide, false, fun args W => run_callFunc_extern Tryz.func213 (by kernel_rfl) (by kernel_rfl) (by kernel_rfl) (e := Extern.ReflectliteSwapper.swap false) (by kernel_rfl) args W⟩⟩
def i_ScanAll_H1 (xF : Flash) (z1 : Int) (z2 : List Found) : St := mkSt [(3, (.one (.ptr (.box 3) 0 [] 0))), (11, (.one (.sl false 124 3 (encs (c124 false) xF.Blocks)))), (12, (I (ln xF.Blocks))), (13, (I z1))] [(.box 3, [.sl true 158 8 (encs c158 z2)])]
def i_ScanAll_H2 (z3 : List Found) : St := mkSt [(3, (.one (.ptr (.box 3) 0 [] 0)))] [(.box 3, [.sl true 158 8 (encs c158 z3)])]
def i_ScanAll_H3 (xF : Flash) (y1 : Int) (x1 : Block) (z4 : Int) (z5 : List Found) : St := mkSt [(3, (.one (.ptr (.box 3) 0 [] 0))), (4, (I y1)), (11, (.one (.sl false 124 3 (encs (c124 false) xF.Blocks)))), (12, (I (ln xF.Blocks))), (13, (I y1)), (19, (.one (.sl false 165 2 (encs c165 x1.Leaves)))), (20, (I (ln x1.Leaves))), (21, (I z4))] [(.box 3, [.sl true 158 8 (encs c158 z5)])]
def i_ScanAll_H4 (xF : Flash) (y1 : Int) (z6 : List Found) : St := mkSt [(3, (.one (.ptr (.box 3) 0 [] 0))), (11, (.one (.sl false 124 3 (encs (c124 false) xF.Blocks)))), (12, (I (ln xF.Blocks))), (13, (I y1))] [(.box 3, [.sl true 158 8 (encs c158 z6)])]
def i_ScanAll_H5 (xF : Flash) (y1 : Int) (x1 : Block) (y2 : Int) (yOut02 : List Found) (v1 : Page × Bool) (z7 : Bool) : St := mkSt [(3, (.one (.ptr (.box 3) 0 [] 0))), (4, (I y1)), (6, (I y2)), (8, (.one (.ptr (.box 8) 0 [] 0))), (11, (.one (.sl false 124 3 (encs (c124 false) xF.Blocks)))), (12, (I (ln xF.Blocks))), (13, (I y1)), (19, (.one (.sl false 165 2 (encs c165 x1.Leaves)))), (20, (I (ln x1.Leaves))), (21, (I y2)), (37, (B z7))] [(.box 3, [.sl true 158 8 (encs c158 yOut02)]), (.box 8, [.int .i64 v1.1.Kind, .int .i64 v1.1.Seq, .int .i64 v1.1.Tx, .int .i64 v1.1.Part, .int .i64 v1.1.Count, .str v1.1.Text])]
theorem i_ScanAll_t (xF : Flash) (r : List Found) (h : i_ScanAll xF = some r) : Gives Tryz.prog 111 [.sv (.agg [.sl false 124 3 (encs (c124 false) xF.Blocks)])] (.one (.sl true 158 8 (encs c158 r))) (List.replicate 1 .gone) := by
 unfold i_ScanAll at h
 refine gives_of Tryz.func111 rfl ?_
 rw [Tryz.ntmps111]
 refine Wp.seq (Wp.region ?_)
 refine LWp.b [] 1 [.sl false 124 3 (encs (c124 false) xF.Blocks)] ?_
 refine LWp.o 2 (.one (.sl true 158 8 (encs c158 []))) ?_
 refine LWp.nil ?_
 refine Wp.seq (Wp.region ?_)
 refine LWp.b [] 3 [.sl true 158 8 (encs c158 [])] ?_
 refine LWp.nil ?_
 refine Wp.seq ?_
 refine Wp.seq (Wp.region ?_)
 refine LWp.o 10 (.one (.ptr (.box 1) 1 [] 0)) ?_
 refine LWp.o 11 (.one (.sl false 124 3 (encs (c124 false) xF.Blocks))) ?_
 refine LWp.o 12 (I (ln xF.Blocks)) ?_ (st_pure (p_ln (k124 false) xF.Blocks))
 refine LWp.o 13 (I 0) ?_
 refine LWp.nil ?_
 refine Wp.l1 h [3, 11, 12, 13] [.box 3] (fun s => (i_ScanAll_H1 xF s.1 s.2)) [3] [.box 3] (fun s => (i_ScanAll_H2 s)) ⟨rfl, rfl⟩ ?_ ?_
 · rintro ⟨y1, yOut01⟩ o (h : i_ScanAll_b1 xF y1 yOut01 = some o)
   unfold i_ScanAll_b1 at h
   change Wp _ _ _ (i_ScanAll_H1 xF y1 yOut01) _
   refine Wp.seq (Wp.region ?_)
   refine LWp.o 14 (B (decide (y1 < (ln xF.Blocks)))) ?_
   refine LWp.nil ?_
   refine Wp.seq ?_
   refine Wp.c h (fun h => ?_) (fun h => ?_)
   · refine Wp.skip ?_
     refine Wp.seq ?_
     refine Wp.block ?_
     refine Wp.seq (Wp.region ?_)
     refine LWp.o 15 (I y1) ?_
     refine LWp.p h 16 (fun _ => (.one (.ptr (.slot 11) 0 [0] (Int.toNat y1 * 3 + 0)))) ?_ (fun x1 gx1 => st_pure (p_ix (k124 false) (.slot 11) [] 0 gx1))
     intro x1 gx1 h
     refine LWp.o 17 (.agg [.bool x1.Bad, .int .i64 x1.Wear, .sl false 165 2 (encs c165 x1.Leaves)]) ?_ (st_pure (p_le (k124 false) (.slot 11) [0] gx1))
     refine LWp.b [] 5 [.bool false, .int .i64 0, .sl true 165 2 (encs c165 [])] ?_
     refine LWp.o 4 (I y1) ?_
     refine LWp.sb [] (.box 5) [.bool x1.Bad, .int .i64 x1.Wear, .sl false 165 2 (encs c165 x1.Leaves)] ?_
     refine LWp.nil ?_
     refine Wp.seq (Wp.region ?_)
     refine LWp.o 18 (.one (.ptr (.box 5) 1 [] 2)) ?_
     refine LWp.o 19 (.one (.sl false 165 2 (encs c165 x1.Leaves))) ?_
     refine LWp.o 20 (I (ln x1.Leaves)) ?_ (st_pure (p_ln k165 x1.Leaves))
     refine LWp.o 21 (I 0) ?_
     refine LWp.nil ?_
     refine Wp.l1 h [3, 4, 11, 12, 13, 19, 20, 21] [.box 3] (fun s => (i_ScanAll_H3 xF y1 x1 s.1 s.2)) [3, 11, 12, 13] [.box 3] (fun s => (i_ScanAll_H4 xF y1 s)) ⟨rfl, rfl⟩ ?_ ?_
     · rintro ⟨y2, yOut02⟩ o (h : i_ScanAll_b2 y1 x1 y2 yOut02 = some o)
       unfold i_ScanAll_b2 at h
       change Wp _ _ _ (i_ScanAll_H3 xF y1 x1 y2 yOut02) _
       refine Wp.seq (Wp.region ?_)
       refine LWp.o 22 (B (decide (y2 < (ln x1.Leaves)))) ?_
       refine LWp.nil ?_
       refine Wp.seq ?_
       refine Wp.c h (fun h => ?_) (fun h => ?_)
       · refine Wp.skip ?_
         refine Wp.seq ?_
         refine Wp.block ?_
         refine Wp.seq (Wp.region ?_)
         refine LWp.o 23 (I y2) ?_
         refine LWp.p h 24 (fun _ => (.one (.ptr (.slot 19) 0 [0] (Int.toNat y2 * 2 + 0)))) ?_ (fun x2 gx2 => st_pure (p_ix k165 (.slot 19) [] 0 gx2))
         intro x2 gx2 h
         refine LWp.o 25 (.agg [.int .i64 x2.Is, .str x2.Text]) ?_ (st_pure (p_le k165 (.slot 19) [0] gx2))
         refine LWp.b [] 7 [.int .i64 0, .str (bs [])] ?_
         refine LWp.o 6 (I y2) ?_
         refine LWp.s [] (.box 7) [.int .i64 x2.Is, .str x2.Text] ?_
         refine LWp.nil ?_
         refine Wp.seq (Wp.region ?_)
         refine LWp.o 27 (.one (.ptr (.box 7) 1 [] 1)) ?_
         refine LWp.o 28 (Y x2.Text) ?_
         refine LWp.cl h 29 (fun v1 => (.tup [(.agg [.int .i64 v1.1.Kind, .int .i64 v1.1.Seq, .int .i64 v1.1.Tx, .int .i64 v1.1.Part, .int .i64 v1.1.Count, .str v1.1.Text]), (B v1.2)])) rfl (l := [.sv (.one (.str x2.Text))]) rfl (fun v hv => i_ReadPage_t x2.Text v hv) (.inl rfl) ?_
         intro v1 gv1 h
         refine LWp.mt 29 26 (.tup [(.agg [.int .i64 v1.1.Kind, .int .i64 v1.1.Seq, .int .i64 v1.1.Tx, .int .i64 v1.1.Part, .int .i64 v1.1.Count, .str v1.1.Text]), (B v1.2)]) ?_
         refine LWp.e 26 0 30 (.agg [.int .i64 v1.1.Kind, .int .i64 v1.1.Seq, .int .i64 v1.1.Tx, .int .i64 v1.1.Part, .int .i64 v1.1.Count, .str v1.1.Text]) ?_
         refine LWp.e 26 1 31 (B v1.2) ?_
         refine LWp.b [] 8 [.int .i64 0, .int .i64 0, .int .i64 0, .int .i64 0, .int .i64 0, .str (bs [])] ?_
         refine LWp.s [] (.box 8) [.int .i64 v1.1.Kind, .int .i64 v1.1.Seq, .int .i64 v1.1.Tx, .int .i64 v1.1.Part, .int .i64 v1.1.Count, .str v1.1.Text] ?_
         refine LWp.o 9 (B v1.2) ?_
         refine LWp.nil ?_
         refine Wp.seq ?_
         refine Wp.j1 h [3, 4, 6, 8, 11, 12, 13, 19, 20, 21, 37] [.box 3, .box 8] (fun a => (i_ScanAll_H5 xF y1 x1 y2 yOut02 v1 a)) ?_ ?_
         · intro a h
           refine Wp.region ?_
           refine LWp.o 32 (B v1.2) ?_
           refine LWp.o 33 (B v1.2) ?_
           refine LWp.sp h 33 (fun h => ?_) (fun h => ?_)
           · refine LWp.o 34 (.one (.ptr (.box 7) 1 [] 0)) ?_
             refine LWp.o 35 (I x2.Is) ?_
             refine LWp.o 36 (B (x2.Is == 1)) ?_
             refine LWp.o 37 (B (x2.Is == 1)) ?_
             refine LWp.nil ?_
             cases h
             exact ⟨_, rfl, rfl, rfl⟩
           refine LWp.sh 34 ?_
           refine LWp.sh 35 ?_
           refine LWp.sh 36 ?_
           refine LWp.o 37 (B false) ?_
           refine LWp.nil ?_
           cases h
           exact ⟨_, rfl, rfl, rfl⟩
         intro j1 h E hE
         refine nt_wp hE ?_
         change Wp _ _ _ (i_ScanAll_H5 xF y1 x1 y2 yOut02 v1 j1) _
         refine Wp.c h (fun h => ?_) (fun h => ?_)
         · refine Wp.region ?_
           refine LWp.o 38 (.one (.view (.box 3) 0 [] 0)) ?_
           refine LWp.o 39 (I y1) ?_
           refine LWp.o 40 (I y2) ?_
           refine LWp.o 41 (.agg [.int .i64 v1.1.Kind, .int .i64 v1.1.Seq, .int .i64 v1.1.Tx, .int .i64 v1.1.Part, .int .i64 v1.1.Count, .str v1.1.Text]) ?_
           refine LWp.o 42 (.agg [.int .i64 y1, .int .i64 y2, .int .i64 v1.1.Kind, .int .i64 v1.1.Seq, .int .i64 v1.1.Tx, .int .i64 v1.1.Part, .int .i64 v1.1.Count, .str v1.1.Text]) ?_
           refine LWp.m false [] 43 (.one (.sl true 158 8 (encs c158 [(Found.mk y1 y2 v1.1)]))) ?_
           refine LWp.pm h [(.box 3, [.junk])] 44 (fun q1 => (.one (.sl true 158 8 (encs c158 q1)))) ?_ (fun q1 gq1 => s_apl k158 (fun _ => rfl) [(.box 3, [.junk])] yOut02 gq1)
           intro q1 gq1 h
           refine LWp.s [(.slot 44, [.junk])] (.box 3) [.sl true 158 8 (encs c158 q1)] ?_
           refine LWp.nil ?_
           refine Wp.region ?_
           refine LWp.o 45 (I (ad y2 1)) ?_
           refine LWp.o 21 (I (ad y2 1)) ?_
           refine LWp.nil ?_
           cases h
           exact ⟨_, rfl, rfl, rfl⟩
         refine Wp.skip ?_
         refine Wp.region ?_
         refine LWp.o 45 (I (ad y2 1)) ?_
         refine LWp.o 21 (I (ad y2 1)) ?_
         refine LWp.nil ?_
         cases h
         exact ⟨_, rfl, rfl, rfl⟩
       refine Wp.exit ?_
       cases h
       exact ⟨_, rfl, rfl, rfl⟩
     intro v2 h E hE
     refine nt_wp hE ?_
     change Wp _ _ _ (i_ScanAll_H4 xF y1 v2) _
     refine Wp.region ?_
     refine LWp.o 46 (I (ad y1 1)) ?_
     refine LWp.o 13 (I (ad y1 1)) ?_
     refine LWp.nil ?_
     cases h
     exact ⟨_, rfl, rfl, rfl⟩
   refine Wp.exit ?_
   cases h
   exact ⟨_, rfl, rfl, rfl⟩
 intro v3 h E hE
 refine nt_wp hE ?_
 change Wp _ _ _ (i_ScanAll_H2 v3) _
 refine Wp.seq (Wp.region ?_)
 refine LWp.o 47 (.one (.view (.box 3) 0 [] 0)) ?_
 refine LWp.bd h ?_
 intro v4 gv4 h
 refine LWp.srt (x := 47) (p := 3) (d1 := 48) (d2 := 49) (d3 := 50) (r := .box 3) (i_ScanAll_1_s gv4) ?_ k158 fl158 (hf := ⟨_, Tryz.func159, by decide, rfl⟩)
 refine LWp.nil ?_
 refine Wp.seq (Wp.region ?_)
 refine LWp.o 51 (.one (.view (.box 3) 1 [] 0)) ?_
 refine LWp.m true [(.box 3, [.junk])] 2 (.one (.sl true 158 8 (encs c158 v4))) ?_
 refine LWp.nil ?_
 cases h
 exact Wp.ret ⟨.inr rfl, _, _, rfl, rfl⟩
def i_dataOf_H1 (xChunk : Int) (v1 : List Found) (z1 : Bool) (z2 : Int) (z3 : Int) (z4 : Int) (z5 : Int) (z6 : Int) (z7 : Int) (z8 : Int) (z9 : Int) (z10 : ByteArray) : St := mkSt [(1, (I xChunk)), (4, (.one (.ptr (.box 4) 0 [] 0))), (6, (.one (.ptr (.box 6) 0 [] 0))), (7, (B z1)), (11, (.one (.sl true 158 8 (encs c158 v1)))), (12, (I (ln v1))), (13, (I z2))] [(.box 4, [.int .i64 0, .int .i64 0, .int .i64 0, .int .i64 0, .int .i64 0, .int .i64 0, .int .i64 0, .str (bs [])]), (.box 6, [.int .i64 z3, .int .i64 z4, .int .i64 z5, .int .i64 z6, .int .i64 z7, .int .i64 z8, .int .i64 z9, .str z10])]
def i_dataOf_H2 (z11 : Bool) (z12 : Int) (z13 : Int) (z14 : Int) (z15 : Int) (z16 : Int) (z17 : Int) (z18 : Int) (z19 : ByteArray) : St := mkSt [(4, (.one (.ptr (.box 4) 0 [] 0))), (6, (.one (.ptr (.box 6) 0 [] 0))), (7, (B z11))] [(.box 4, [.int .i64 0, .int .i64 0, .int .i64 0, .int .i64 0, .int .i64 0, .int .i64 0, .int .i64 0, .str (bs [])]), (.box 6, [.int .i64 z12, .int .i64 z13, .int .i64 z14, .int .i64 z15, .int .i64 z16, .int .i64 z17, .int .i64 z18, .str z19])]
def i_dataOf_H3 (xChunk : Int) (v1 : List Found) (yOk1 : Bool) (y1 : Int) (yBest01 : Int) (yBest11 : Int) (yBest21 : Int) (yBest31 : Int) (yBest41 : Int) (yBest51 : Int) (yBest61 : Int) (yBest71 : ByteArray) (x1 : Found) (z20 : Bool) : St := mkSt [(1, (I xChunk)), (4, (.one (.ptr (.box 4) 0 [] 0))), (6, (.one (.ptr (.box 6) 0 [] 0))), (7, (B yOk1)), (9, (.one (.ptr (.box 9) 0 [] 0))), (11, (.one (.sl true 158 8 (encs c158 v1)))), (12, (I (ln v1))), (13, (I y1)), (40, (B z20))] [(.box 4, [.int .i64 0, .int .i64 0, .int .i64 0, .int .i64 0, .int .i64 0, .int .i64 0, .int .i64 0, .str (bs [])]), (.box 6, [.int .i64 yBest01, .int .i64 yBest11, .int .i64 yBest21, .int .i64 yBest31, .int .i64 yBest41, .int .i64 yBest51, .int .i64 yBest61, .str yBest71]), (.box 9, [.int .i64 x1.Block, .int .i64 x1.Leaf, .int .i64 x1.Page.Kind, .int .i64 x1.Page.Seq, .int .i64 x1.Page.Tx, .int .i64 x1.Page.Part, .int .i64 x1.Page.Count, .str x1.Page.Text])]
theorem i_dataOf_t (xF : Flash) (xChunk : Int) (r : Found × Bool) (h : i_dataOf xF xChunk = some r) : Gives Tryz.prog 156 [.sv (.agg [.sl false 124 3 (encs (c124 false) xF.Blocks)]), .sv (I xChunk)] (.tup [(.agg [.int .i64 r.1.Block, .int .i64 r.1.Leaf, .int .i64 r.1.Page.Kind, .int .i64 r.1.Page.Seq, .int .i64 r.1.Page.Tx, .int .i64 r.1.Page.Part, .int .i64 r.1.Page.Count, .str r.1.Page.Text]), (B r.2)]) (List.replicate 2 .gone) := by
 unfold i_dataOf at h
 refine gives_of Tryz.func156 rfl ?_
 rw [Tryz.ntmps156]
 refine Wp.seq (Wp.region ?_)
 refine LWp.b [] 2 [.sl false 124 3 (encs (c124 false) xF.Blocks)] ?_
 refine LWp.b [] 4 [.int .i64 0, .int .i64 0, .int .i64 0, .int .i64 0, .int .i64 0, .int .i64 0, .int .i64 0, .str (bs [])] ?_
 refine LWp.o 5 (B false) ?_
 refine LWp.nil ?_
 refine Wp.seq (Wp.region ?_)
 refine LWp.b [] 6 [.int .i64 0, .int .i64 0, .int .i64 0, .int .i64 0, .int .i64 0, .int .i64 0, .int .i64 0, .str (bs [])] ?_
 refine LWp.nil ?_
 refine Wp.seq (Wp.region ?_)
 refine LWp.o 7 (B false) ?_
 refine LWp.nil ?_
 refine Wp.seq ?_
 refine Wp.seq (Wp.region ?_)
 refine LWp.o 10 (.agg [.sl false 124 3 (encs (c124 false) xF.Blocks)]) ?_
 refine LWp.cl h 11 (fun v1 => (.one (.sl true 158 8 (encs c158 v1)))) rfl (l := [.sv (.agg [.sl false 124 3 (encs (c124 false) xF.Blocks)])]) rfl (fun v hv => i_ScanAll_t xF v hv) (.inl rfl) ?_
 intro v1 gv1 h
 refine LWp.o 12 (I (ln v1)) ?_ (st_pure (p_ln k158 v1))
 refine LWp.o 13 (I 0) ?_
 refine LWp.nil ?_
 refine Wp.l1 h [1, 4, 6, 7, 11, 12, 13] [.box 4, .box 6] (fun s => (i_dataOf_H1 xChunk v1 s.1 s.2.1 s.2.2.1 s.2.2.2.1 s.2.2.2.2.1 s.2.2.2.2.2.1 s.2.2.2.2.2.2.1 s.2.2.2.2.2.2.2.1 s.2.2.2.2.2.2.2.2.1 s.2.2.2.2.2.2.2.2.2)) [4, 6, 7] [.box 4, .box 6] (fun s => (i_dataOf_H2 s.1 s.2.1 s.2.2.1 s.2.2.2.1 s.2.2.2.2.1 s.2.2.2.2.2.1 s.2.2.2.2.2.2.1 s.2.2.2.2.2.2.2.1 s.2.2.2.2.2.2.2.2)) ⟨rfl, rfl⟩ ?_ ?_
 · rintro ⟨yOk1, y1, yBest01, yBest11, yBest21, yBest31, yBest41, yBest51, yBest61, yBest71⟩ o (h : i_dataOf_b1 xChunk v1 yOk1 y1 yBest01 yBest11 yBest21 yBest31 yBest41 yBest51 yBest61 yBest71 = some o)
   unfold i_dataOf_b1 at h
   change Wp _ _ _ (i_dataOf_H1 xChunk v1 yOk1 y1 yBest01 yBest11 yBest21 yBest31 yBest41 yBest51 yBest61 yBest71) _
   refine Wp.seq (Wp.region ?_)
   refine LWp.o 14 (B (decide (y1 < (ln v1)))) ?_
   refine LWp.nil ?_
   refine Wp.seq ?_
   refine Wp.c h (fun h => ?_) (fun h => ?_)
   · refine Wp.skip ?_
     refine Wp.seq ?_
     refine Wp.block ?_
     refine Wp.seq (Wp.region ?_)
     refine LWp.p h 15 (fun _ => (.one (.ptr (.slot 11) 0 [0] (Int.toNat y1 * 8 + 0)))) ?_ (fun x1 gx1 => st_pure (p_ix k158 (.slot 11) [] 0 gx1))
     intro x1 gx1 h
     refine LWp.o 16 (.agg [.int .i64 x1.Block, .int .i64 x1.Leaf, .int .i64 x1.Page.Kind, .int .i64 x1.Page.Seq, .int .i64 x1.Page.Tx, .int .i64 x1.Page.Part, .int .i64 x1.Page.Count, .str x1.Page.Text]) ?_ (st_pure (p_le k158 (.slot 11) [0] gx1))
     refine LWp.b [] 9 [.int .i64 0, .int .i64 0, .int .i64 0, .int .i64 0, .int .i64 0, .int .i64 0, .int .i64 0, .str (bs [])] ?_
     refine LWp.s [] (.box 9) [.int .i64 x1.Block, .int .i64 x1.Leaf, .int .i64 x1.Page.Kind, .int .i64 x1.Page.Seq, .int .i64 x1.Page.Tx, .int .i64 x1.Page.Part, .int .i64 x1.Page.Count, .str x1.Page.Text] ?_
     refine LWp.nil ?_
     refine Wp.seq ?_
     refine Wp.j1 h [1, 4, 6, 7, 9, 11, 12, 13, 40] [.box 4, .box 6, .box 9] (fun a => (i_dataOf_H3 xChunk v1 yOk1 y1 yBest01 yBest11 yBest21 yBest31 yBest41 yBest51 yBest61 yBest71 x1 a)) ?_ ?_
     · intro a h
       refine Wp.region ?_
       refine LWp.o 17 (.one (.ptr (.box 9) 1 [] 2)) ?_
       refine LWp.o 18 (.one (.ptr (.box 9) 1 [] 2)) ?_
       refine LWp.o 19 (I x1.Page.Kind) ?_
       refine LWp.o 20 (B (x1.Page.Kind == 1)) ?_
       refine LWp.o 21 (B (x1.Page.Kind == 1)) ?_
       refine LWp.sp h 21 (fun h => ?_) (fun h => ?_)
       · refine LWp.o 22 (.one (.ptr (.box 9) 1 [] 2)) ?_
         refine LWp.o 23 (.one (.ptr (.box 9) 1 [] 4)) ?_
         refine LWp.o 24 (I x1.Page.Tx) ?_
         refine LWp.o 25 (I xChunk) ?_
         refine LWp.o 26 (B (x1.Page.Tx == xChunk)) ?_
         refine LWp.o 27 (B (x1.Page.Tx == xChunk)) ?_
         refine LWp.o 28 (B (x1.Page.Tx == xChunk)) ?_
         refine LWp.sp h 28 (fun h => ?_) (fun h => ?_)
         · refine LWp.o 29 (B yOk1) ?_
           refine LWp.o 30 (B (!yOk1)) ?_
           refine LWp.o 31 (B (!yOk1)) ?_
           refine LWp.sp h 31 (fun h => ?_) (fun h => ?_)
           · refine LWp.sh 32 ?_
             refine LWp.sh 33 ?_
             refine LWp.sh 34 ?_
             refine LWp.sh 35 ?_
             refine LWp.sh 36 ?_
             refine LWp.sh 37 ?_
             refine LWp.sh 38 ?_
             refine LWp.o 39 (B true) ?_
             refine LWp.o 40 (B true) ?_
             refine LWp.nil ?_
             cases h
             exact ⟨_, rfl, rfl, rfl⟩
           refine LWp.o 32 (.one (.ptr (.box 9) 1 [] 2)) ?_
           refine LWp.o 33 (.one (.ptr (.box 9) 1 [] 3)) ?_
           refine LWp.o 34 (I x1.Page.Seq) ?_
           refine LWp.o 35 (.one (.ptr (.box 6) 0 [] 2)) ?_
           refine LWp.o 36 (.one (.ptr (.box 6) 0 [] 3)) ?_
           refine LWp.o 37 (I yBest31) ?_
           refine LWp.o 38 (B (decide (x1.Page.Seq ≥ yBest31))) ?_
           refine LWp.o 39 (B (decide (x1.Page.Seq ≥ yBest31))) ?_
           refine LWp.o 40 (B (decide (x1.Page.Seq ≥ yBest31))) ?_
           refine LWp.nil ?_
           cases h
           exact ⟨_, rfl, rfl, rfl⟩
         refine LWp.sh 29 ?_
         refine LWp.sh 30 ?_
         refine LWp.sh 31 ?_
         refine LWp.sh 32 ?_
         refine LWp.sh 33 ?_
         refine LWp.sh 34 ?_
         refine LWp.sh 35 ?_
         refine LWp.sh 36 ?_
         refine LWp.sh 37 ?_
         refine LWp.sh 38 ?_
         refine LWp.sh 39 ?_
         refine LWp.o 40 (B false) ?_
         refine LWp.nil ?_
         cases h
         exact ⟨_, rfl, rfl, rfl⟩
       refine LWp.sh 22 ?_
       refine LWp.sh 23 ?_
       refine LWp.sh 24 ?_
       refine LWp.sh 25 ?_
       refine LWp.sh 26 ?_
       refine LWp.o 27 (B false) ?_
       refine LWp.o 28 (B false) ?_
       refine LWp.sh 29 ?_
       refine LWp.sh 30 ?_
       refine LWp.sh 31 ?_
       refine LWp.sh 32 ?_
       refine LWp.sh 33 ?_
       refine LWp.sh 34 ?_
       refine LWp.sh 35 ?_
       refine LWp.sh 36 ?_
       refine LWp.sh 37 ?_
       refine LWp.sh 38 ?_
       refine LWp.sh 39 ?_
       refine LWp.o 40 (B false) ?_
       refine LWp.nil ?_
       cases h
       exact ⟨_, rfl, rfl, rfl⟩
     intro j1 h E hE
     refine nt_wp hE ?_
     change Wp _ _ _ (i_dataOf_H3 xChunk v1 yOk1 y1 yBest01 yBest11 yBest21 yBest31 yBest41 yBest51 yBest61 yBest71 x1 j1) _
     refine Wp.c h (fun h => ?_) (fun h => ?_)
     · refine Wp.region ?_
       refine LWp.o 41 (.agg [.int .i64 x1.Block, .int .i64 x1.Leaf, .int .i64 x1.Page.Kind, .int .i64 x1.Page.Seq, .int .i64 x1.Page.Tx, .int .i64 x1.Page.Part, .int .i64 x1.Page.Count, .str x1.Page.Text]) ?_
       refine LWp.s [] (.box 6) [.int .i64 x1.Block, .int .i64 x1.Leaf, .int .i64 x1.Page.Kind, .int .i64 x1.Page.Seq, .int .i64 x1.Page.Tx, .int .i64 x1.Page.Part, .int .i64 x1.Page.Count, .str x1.Page.Text] ?_
       refine LWp.o 7 (B true) ?_
       refine LWp.nil ?_
       refine Wp.region ?_
       refine LWp.o 42 (I (ad y1 1)) ?_
       refine LWp.o 13 (I (ad y1 1)) ?_
       refine LWp.nil ?_
       cases h
       exact ⟨_, rfl, rfl, rfl⟩
     refine Wp.skip ?_
     refine Wp.region ?_
     refine LWp.o 42 (I (ad y1 1)) ?_
     refine LWp.o 13 (I (ad y1 1)) ?_
     refine LWp.nil ?_
     cases h
     exact ⟨_, rfl, rfl, rfl⟩
   refine Wp.exit ?_
   cases h
   exact ⟨_, rfl, rfl, rfl⟩
 intro v2 h E hE
 refine nt_wp hE ?_
 change Wp _ _ _ (i_dataOf_H2 v2.1 v2.2.1 v2.2.2.1 v2.2.2.2.1 v2.2.2.2.2.1 v2.2.2.2.2.2.1 v2.2.2.2.2.2.2.1 v2.2.2.2.2.2.2.2.1 v2.2.2.2.2.2.2.2.2) _
 refine Wp.seq (Wp.region ?_)
 refine LWp.o 43 (.agg [.int .i64 v2.2.1, .int .i64 v2.2.2.1, .int .i64 v2.2.2.2.1, .int .i64 v2.2.2.2.2.1, .int .i64 v2.2.2.2.2.2.1, .int .i64 v2.2.2.2.2.2.2.1, .int .i64 v2.2.2.2.2.2.2.2.1, .str v2.2.2.2.2.2.2.2.2]) ?_
 refine LWp.o 44 (B v2.1) ?_
 refine LWp.s [] (.box 4) [.int .i64 v2.2.1, .int .i64 v2.2.2.1, .int .i64 v2.2.2.2.1, .int .i64 v2.2.2.2.2.1, .int .i64 v2.2.2.2.2.2.1, .int .i64 v2.2.2.2.2.2.2.1, .int .i64 v2.2.2.2.2.2.2.2.1, .str v2.2.2.2.2.2.2.2.2] ?_
 refine LWp.o 5 (B v2.1) ?_
 refine LWp.nil ?_
 cases h
 exact Wp.ret ⟨.inr rfl, _, _, rfl, rfl⟩
def i_tokensIn_H1 (z1 : ByteArray) (z2 : List Token) : St := mkSt [(0, (Y z1)), (4, (.one (.sl true 171 3 (encs c171 z2))))] []
def i_tokensIn_H2 (z3 : List Token) : St := mkSt [(4, (.one (.sl true 171 3 (encs c171 z3))))] []
def i_tokensIn_H3 (yT1 : ByteArray) (yOut1 : List Token) (x1 : Int) (z4 : Bool) : St := mkSt [(0, (Y yT1)), (4, (.one (.sl true 171 3 (encs c171 yOut1)))), (5, (I (IntKind.i64.wrap x1))), (11, (B z4))] []
def i_tokensIn_H4 (yT1 : ByteArray) (yOut1 : List Token) (x1 : Int) (z5 : Bool) : St := mkSt [(0, (Y yT1)), (4, (.one (.sl true 171 3 (encs c171 yOut1)))), (5, (I (IntKind.i64.wrap x1))), (30, (B z5))] []
theorem i_tokensIn_t (xT : ByteArray) (r : List Token × Bool) (h : i_tokensIn xT = some r) : Gives Tryz.prog 188 [.sv (Y xT)] (.tup [(.one (.sl true 171 3 (encs c171 r.1))), (B r.2)]) (List.replicate 1 .gone) := by
 unfold i_tokensIn at h
 refine gives_of Tryz.func188 rfl ?_
 rw [Tryz.ntmps188]
 refine Wp.seq (Wp.region ?_)
 refine LWp.o 2 (.one (.sl true 171 3 (encs c171 []))) ?_
 refine LWp.o 3 (B false) ?_
 refine LWp.nil ?_
 refine Wp.seq (Wp.region ?_)
 refine LWp.o 4 (.one (.sl true 171 3 (encs c171 []))) ?_
 refine LWp.nil ?_
 refine Wp.seq ?_
 refine Wp.l2 h [0, 4] [] (fun s => (i_tokensIn_H1 s.1 s.2)) [4] [] (fun s => (i_tokensIn_H2 s)) ⟨rfl, rfl⟩ ?_ ?_
 · rintro ⟨yT1, yOut1⟩ o (h : i_tokensIn_b1 yT1 yOut1 = some o) hk1
   unfold i_tokensIn_b1 at h
   change Wp _ _ _ (i_tokensIn_H1 yT1 yOut1) _
   refine Wp.seq ?_
   refine Wp.seq (Wp.region ?_)
   refine LWp.o 6 (Y yT1) ?_
   refine LWp.o 7 (B (!(seq yT1 (bs [])))) ?_
   refine LWp.nil ?_
   refine Wp.c h (fun h => ?_) (fun h => ?_)
   · refine Wp.skip ?_
     refine Wp.block ?_
     refine Wp.seq (Wp.region ?_)
     refine LWp.o 8 (Y yT1) ?_
     refine LWp.p h 9 (fun x1 => (.one (.int .u8 x1))) ?_ (fun x1 gx1 => st_pure (p_sx gx1))
     intro x1 gx1 h
     refine LWp.o 10 (I (IntKind.i64.wrap x1)) ?_
     refine LWp.o 5 (I (IntKind.i64.wrap x1)) ?_
     refine LWp.nil ?_
     refine Wp.block ?_
     refine Wp.seq ?_
     refine Wp.j1 h [0, 4, 5, 11] [] (fun a => (i_tokensIn_H3 yT1 yOut1 x1 a)) ?_ ?_
     · intro a h
       refine Wp.region ?_
       refine LWp.o 12 (I (IntKind.i64.wrap x1)) ?_
       refine LWp.o 13 (B (decide ((IntKind.i64.wrap x1) ≥ 128))) ?_
       refine LWp.o 14 (B (decide ((IntKind.i64.wrap x1) ≥ 128))) ?_
       refine LWp.sp h 14 (fun h => ?_) (fun h => ?_)
       · refine LWp.o 15 (Y yT1) ?_
         refine LWp.o 16 (I (sln yT1)) ?_
         refine LWp.o 17 (B (decide ((sln yT1) ≥ 2))) ?_
         refine LWp.o 18 (B (decide ((sln yT1) ≥ 2))) ?_
         refine LWp.o 11 (B (decide ((sln yT1) ≥ 2))) ?_
         refine LWp.nil ?_
         cases h
         exact ⟨_, rfl, rfl, rfl⟩
       refine LWp.sh 15 ?_
       refine LWp.sh 16 ?_
       refine LWp.sh 17 ?_
       refine LWp.o 18 (B false) ?_
       refine LWp.o 11 (B false) ?_
       refine LWp.nil ?_
       cases h
       exact ⟨_, rfl, rfl, rfl⟩
     intro j1 h E hE
     refine nt_wp hE ?_
     change Wp _ _ _ (i_tokensIn_H3 yT1 yOut1 x1 j1) _
     refine Wp.c h (fun h => ?_) (fun h => ?_)
     · refine Wp.seq (Wp.region ?_)
       refine LWp.o 19 (.one (.view (.slot 4) 0 [] 0)) ?_
       refine LWp.o 20 (Y yT1) ?_
       refine LWp.p h 21 (fun x2 => (.one (.int .u8 x2))) ?_ (fun x2 gx2 => st_pure (p_sx gx2))
       intro x2 gx2 h
       refine LWp.o 22 (I (IntKind.i64.wrap x2)) ?_
       refine LWp.o 23 (I (IntKind.i64.wrap x1)) ?_
       refine LWp.o 24 (I (sb (IntKind.i64.wrap x1) 128)) ?_
       refine LWp.o 25 (.agg [.int .i64 (IntKind.i64.wrap x2), .int .i64 (sb (IntKind.i64.wrap x1) 128), .str (bs [])]) ?_
       refine LWp.m false [] 26 (.one (.sl true 171 3 (encs c171 [(Token.mk (IntKind.i64.wrap x2) (sb (IntKind.i64.wrap x1) 128) (bs []))]))) ?_
       refine LWp.pm h [(.slot 4, [.junk])] 27 (fun q1 => (.one (.sl true 171 3 (encs c171 q1)))) ?_ (fun q1 gq1 => s_apl k171 (fun _ => rfl) [(.slot 4, [.junk])] yOut1 gq1)
       intro q1 gq1 h
       refine LWp.m true [(.slot 27, [.junk])] 4 (.one (.sl true 171 3 (encs c171 q1))) ?_
       refine LWp.nil ?_
       refine Wp.region ?_
       refine LWp.o 28 (Y yT1) ?_
       refine LWp.p h 29 (fun x3 => (Y x3)) ?_ (fun x3 gx3 => st_pure (p_sub gx3))
       intro x3 gx3 h
       refine LWp.o 0 (Y x3) ?_
       refine LWp.nil ?_
       cases h
       exact ⟨_, rfl, rfl, rfl⟩
     refine Wp.seq ?_
     refine Wp.j1 h [0, 4, 5, 30] [] (fun a => (i_tokensIn_H4 yT1 yOut1 x1 a)) ?_ ?_
     · intro a h
       refine Wp.region ?_
       refine LWp.o 31 (I (IntKind.i64.wrap x1)) ?_
       refine LWp.o 32 (B (decide ((IntKind.i64.wrap x1) < 128))) ?_
       refine LWp.o 33 (B (decide ((IntKind.i64.wrap x1) < 128))) ?_
       refine LWp.sp h 33 (fun h => ?_) (fun h => ?_)
       · refine LWp.o 34 (I (IntKind.i64.wrap x1)) ?_
         refine LWp.o 35 (Y yT1) ?_
         refine LWp.o 36 (I (sln yT1)) ?_
         refine LWp.o 37 (B (decide ((IntKind.i64.wrap x1) < (sln yT1)))) ?_
         refine LWp.o 38 (B (decide ((IntKind.i64.wrap x1) < (sln yT1)))) ?_
         refine LWp.o 30 (B (decide ((IntKind.i64.wrap x1) < (sln yT1)))) ?_
         refine LWp.nil ?_
         cases h
         exact ⟨_, rfl, rfl, rfl⟩
       refine LWp.sh 34 ?_
       refine LWp.sh 35 ?_
       refine LWp.sh 36 ?_
       refine LWp.sh 37 ?_
       refine LWp.o 38 (B false) ?_
       refine LWp.o 30 (B false) ?_
       refine LWp.nil ?_
       cases h
       exact ⟨_, rfl, rfl, rfl⟩
     intro j2 h E hE
     refine nt_wp hE ?_
     change Wp _ _ _ (i_tokensIn_H4 yT1 yOut1 x1 j2) _
     refine Wp.c h (fun h => ?_) (fun h => ?_)
     · refine Wp.seq (Wp.region ?_)
       refine LWp.o 39 (.one (.view (.slot 4) 0 [] 0)) ?_
       refine LWp.o 40 (Y yT1) ?_
       refine LWp.o 41 (I (IntKind.i64.wrap x1)) ?_
       refine LWp.o 42 (I (ad 1 (IntKind.i64.wrap x1))) ?_
       refine LWp.p h 43 (fun x4 => (Y x4)) ?_ (fun x4 gx4 => st_pure (p_sub gx4))
       intro x4 gx4 h
       refine LWp.o 44 (.agg [.int .i64 0, .int .i64 0, .str x4]) ?_
       refine LWp.m false [] 45 (.one (.sl true 171 3 (encs c171 [(Token.mk 0 0 x4)]))) ?_
       refine LWp.pm h [(.slot 4, [.junk])] 46 (fun q2 => (.one (.sl true 171 3 (encs c171 q2)))) ?_ (fun q2 gq2 => s_apl k171 (fun _ => rfl) [(.slot 4, [.junk])] yOut1 gq2)
       intro q2 gq2 h
       refine LWp.m true [(.slot 46, [.junk])] 4 (.one (.sl true 171 3 (encs c171 q2))) ?_
       refine LWp.nil ?_
       refine Wp.region ?_
       refine LWp.o 47 (Y yT1) ?_
       refine LWp.o 48 (I (IntKind.i64.wrap x1)) ?_
       refine LWp.o 49 (I (ad 1 (IntKind.i64.wrap x1))) ?_
       refine LWp.p h 50 (fun x5 => (Y x5)) ?_ (fun x5 gx5 => st_pure (p_sub gx5))
       intro x5 gx5 h
       refine LWp.o 0 (Y x5) ?_
       refine LWp.nil ?_
       cases h
       exact ⟨_, rfl, rfl, rfl⟩
     refine Wp.seq (Wp.region ?_)
     refine LWp.o 2 (.one (.sl true 171 3 (encs c171 []))) ?_
     refine LWp.o 3 (B false) ?_
     refine LWp.nil ?_
     cases h
     replace h : some _ = some _ := hk1 _ rfl
     cases h
     exact Wp.ret ⟨.inr rfl, _, _, rfl, rfl⟩
   refine Wp.exit ?_
   cases h
   exact ⟨_, rfl, rfl, rfl⟩
 intro v1 h E hE
 refine nt_wp hE ?_
 change Wp _ _ _ (i_tokensIn_H2 v1) _
 refine Wp.seq (Wp.region ?_)
 refine LWp.o 51 (.one (.view (.slot 4) 0 [] 0)) ?_
 refine LWp.m true [(.slot 4, [.junk])] 2 (.one (.sl true 171 3 (encs c171 v1))) ?_
 refine LWp.o 3 (B true) ?_
 refine LWp.nil ?_
 cases h
 exact Wp.ret ⟨.inr rfl, _, _, rfl, rfl⟩
def i_PlainOf_H1 (xList : List Token) (z1 : List Int) (z2 : Int) : St := mkSt [(4, (.one (.sl true 5 1 (encs c5 z1)))), (7, (.one (.sl false 171 3 (encs c171 xList)))), (8, (I (ln xList))), (9, (I z2))] []
def i_PlainOf_H2 (z3 : List Int) : St := mkSt [(4, (.one (.sl true 5 1 (encs c5 z3))))] []
def i_PlainOf_H3 (xList : List Token) (y1 : Int) (z4 : List Int) : St := mkSt [(4, (.one (.sl true 5 1 (encs c5 z4)))), (7, (.one (.sl false 171 3 (encs c171 xList)))), (8, (I (ln xList))), (9, (I y1))] []
def i_PlainOf_H4 (xList : List Token) (yOut1 : List Int) (y1 : Int) (x1 : Token) (z5 : Bool) : St := mkSt [(4, (.one (.sl true 5 1 (encs c5 yOut1)))), (6, (.one (.ptr (.box 6) 0 [] 0))), (7, (.one (.sl false 171 3 (encs c171 xList)))), (8, (I (ln xList))), (9, (I y1)), (25, (B z5))] [(.box 6, [.int .i64 x1.Back, .int .i64 x1.Size, .str x1.Text])]
def i_PlainOf_H5 (xList : List Token) (yOut1 : List Int) (y1 : Int) (x1 : Token) (z6 : Bool) : St := mkSt [(4, (.one (.sl true 5 1 (encs c5 yOut1)))), (6, (.one (.ptr (.box 6) 0 [] 0))), (7, (.one (.sl false 171 3 (encs c171 xList)))), (8, (I (ln xList))), (9, (I y1)), (46, (B z6))] [(.box 6, [.int .i64 x1.Back, .int .i64 x1.Size, .str x1.Text])]
def i_PlainOf_H6 (xList : List Token) (y1 : Int) (x1 : Token) (z7 : List Int) (z8 : Int) : St := mkSt [(4, (.one (.sl true 5 1 (encs c5 z7)))), (6, (.one (.ptr (.box 6) 0 [] 0))), (7, (.one (.sl false 171 3 (encs c171 xList)))), (8, (I (ln xList))), (9, (I y1)), (48, (I x1.Size)), (49, (I z8))] [(.box 6, [.int .i64 x1.Back, .int .i64 x1.Size, .str x1.Text])]
def i_PlainOf_H7 (xList : List Token) (y1 : Int) (z9 : List Int) : St := mkSt [(4, (.one (.sl true 5 1 (encs c5 z9)))), (7, (.one (.sl false 171 3 (encs c171 xList)))), (8, (I (ln xList))), (9, (I y1))] []
theorem i_PlainOf_t (xList : List Token) (r : ByteArray × Bool) (h : i_PlainOf xList = some r) : Gives Tryz.prog 189 [.sv (.one (.sl false 171 3 (encs c171 xList)))] (.tup [(Y r.1), (B r.2)]) (List.replicate 1 .gone) := by
 unfold i_PlainOf at h
 refine gives_of Tryz.func189 rfl ?_
 rw [Tryz.ntmps189]
 refine Wp.seq (Wp.region ?_)
 refine LWp.o 2 (Y (bs [])) ?_
 refine LWp.o 3 (B false) ?_
 refine LWp.nil ?_
 refine Wp.seq (Wp.region ?_)
 refine LWp.o 4 (.one (.sl true 5 1 (encs c5 []))) ?_
 refine LWp.nil ?_
 refine Wp.seq ?_
 refine Wp.seq (Wp.region ?_)
 refine LWp.o 7 (.one (.sl false 171 3 (encs c171 xList))) ?_
 refine LWp.o 8 (I (ln xList)) ?_ (st_pure (p_ln k171 xList))
 refine LWp.o 9 (I 0) ?_
 refine LWp.nil ?_
 refine Wp.l2 h [4, 7, 8, 9] [] (fun s => (i_PlainOf_H1 xList s.1 s.2)) [4] [] (fun s => (i_PlainOf_H2 s)) ⟨rfl, rfl⟩ ?_ ?_
 · rintro ⟨yOut1, y1⟩ o (h : i_PlainOf_b1 xList yOut1 y1 = some o) hk1
   unfold i_PlainOf_b1 at h
   change Wp _ _ _ (i_PlainOf_H1 xList yOut1 y1) _
   refine Wp.seq (Wp.region ?_)
   refine LWp.o 10 (B (decide (y1 < (ln xList)))) ?_
   refine LWp.nil ?_
   refine Wp.seq ?_
   refine Wp.c h (fun h => ?_) (fun h => ?_)
   · refine Wp.skip ?_
     refine Wp.seq ?_
     refine Wp.block ?_
     refine Wp.seq (Wp.region ?_)
     refine LWp.p h 11 (fun _ => (.one (.ptr (.slot 7) 0 [0] (Int.toNat y1 * 3 + 0)))) ?_ (fun x1 gx1 => st_pure (p_ix k171 (.slot 7) [] 0 gx1))
     intro x1 gx1 h
     refine LWp.o 12 (.agg [.int .i64 x1.Back, .int .i64 x1.Size, .str x1.Text]) ?_ (st_pure (p_le k171 (.slot 7) [0] gx1))
     refine LWp.b [] 6 [.int .i64 0, .int .i64 0, .str (bs [])] ?_
     refine LWp.s [] (.box 6) [.int .i64 x1.Back, .int .i64 x1.Size, .str x1.Text] ?_
     refine LWp.nil ?_
     refine Wp.seq ?_
     refine Wp.seq (Wp.region ?_)
     refine LWp.o 13 (.one (.ptr (.box 6) 1 [] 0)) ?_
     refine LWp.o 14 (I x1.Back) ?_
     refine LWp.o 15 (B (x1.Back == 0)) ?_
     refine LWp.nil ?_
     refine Wp.j2 h [4, 7, 8, 9] [] (fun a => (i_PlainOf_H3 xList y1 a)) ?_ ?_
     · intro a h hk2
       refine Wp.c h (fun h => ?_) (fun h => ?_)
       · refine Wp.seq ?_
         refine Wp.seq ?_
         refine Wp.j1 h [4, 6, 7, 8, 9, 25] [.box 6] (fun a => (i_PlainOf_H4 xList yOut1 y1 x1 a)) ?_ ?_
         · intro a h
           refine Wp.region ?_
           refine LWp.o 16 (.one (.ptr (.box 6) 1 [] 1)) ?_
           refine LWp.o 17 (I x1.Size) ?_
           refine LWp.o 18 (B (x1.Size != 0)) ?_
           refine LWp.o 19 (B (x1.Size != 0)) ?_
           refine LWp.sp h 19 (fun h => ?_) (fun h => ?_)
           · refine LWp.sh 20 ?_
             refine LWp.sh 21 ?_
             refine LWp.sh 22 ?_
             refine LWp.sh 23 ?_
             refine LWp.sh 24 ?_
             refine LWp.o 25 (B true) ?_
             refine LWp.nil ?_
             cases h
             exact ⟨_, rfl, rfl, rfl⟩
           refine LWp.o 20 (.one (.ptr (.box 6) 1 [] 2)) ?_
           refine LWp.o 21 (Y x1.Text) ?_
           refine LWp.o 22 (I (sln x1.Text)) ?_
           refine LWp.cl h 23 (fun v1 => (B v1)) rfl (l := [.sv (.one (.int .i64 (sln x1.Text))), .sv (.one (.int .i64 1)), .sv (.one (.int .i64 31))]) rfl (fun v hv => i_in_t (sln x1.Text) 1 31 v hv) (.inl rfl) ?_
           intro v1 gv1 h
           refine LWp.o 24 (B (!v1)) ?_
           refine LWp.o 25 (B (!v1)) ?_
           refine LWp.nil ?_
           cases h
           exact ⟨_, rfl, rfl, rfl⟩
         intro j2 h E hE
         refine nt_wp hE ?_
         change Wp _ _ _ (i_PlainOf_H4 xList yOut1 y1 x1 j2) _
         refine Wp.c h (fun h => ?_) (fun h => ?_)
         · refine Wp.seq (Wp.region ?_)
           refine LWp.o 2 (Y (bs [])) ?_
           refine LWp.o 3 (B false) ?_
           refine LWp.nil ?_
           cases h
           replace h : some _ = some _ := hk2
           cases h
           replace h : some _ = some _ := hk1 _ rfl
           cases h
           exact Wp.ret ⟨.inr rfl, _, _, rfl, rfl⟩
         refine Wp.skip ?_
         refine Wp.region ?_
         refine LWp.o 26 (.one (.view (.slot 4) 0 [] 0)) ?_
         refine LWp.o 27 (.one (.ptr (.box 6) 0 [] 2)) ?_
         refine LWp.o 28 (Y x1.Text) ?_
         refine LWp.pm h [(.slot 4, [.junk])] 29 (fun q1 => (.one (.sl true 5 1 (encs c5 q1)))) ?_ (fun q1 gq1 => s_aps (fun _ => rfl) [(.slot 4, [.junk])] yOut1 gq1)
         intro q1 gq1 h
         refine LWp.m true [(.slot 29, [.junk])] 4 (.one (.sl true 5 1 (encs c5 q1))) ?_
         refine LWp.nil ?_
         cases h
         exact ⟨_, rfl, rfl, rfl⟩
       refine Wp.seq ?_
       refine Wp.seq ?_
       refine Wp.j1 h [4, 6, 7, 8, 9, 46] [.box 6] (fun a => (i_PlainOf_H5 xList yOut1 y1 x1 a)) ?_ ?_
       · intro a h
         refine Wp.region ?_
         refine LWp.o 30 (.one (.ptr (.box 6) 1 [] 0)) ?_
         refine LWp.o 31 (I x1.Back) ?_
         refine LWp.o 32 (.one (.view (.slot 4) 0 [] 0)) ?_
         refine LWp.o 33 (I (ln yOut1)) ?_ (st_pure (p_ln k5 yOut1))
         refine LWp.cl h 34 (fun v2 => (B v2)) rfl (l := [.sv (.one (.int .i64 x1.Back)), .sv (.one (.int .i64 1)), .sv (.one (.int .i64 (ln yOut1)))]) rfl (fun v hv => i_in_t x1.Back 1 (ln yOut1) v hv) (.inl rfl) ?_
         intro v2 gv2 h
         refine LWp.o 35 (B (!v2)) ?_
         refine LWp.o 36 (B (!v2)) ?_
         refine LWp.sp h 36 (fun h => ?_) (fun h => ?_)
         · refine LWp.sh 37 ?_
           refine LWp.sh 38 ?_
           refine LWp.sh 39 ?_
           refine LWp.sh 40 ?_
           refine LWp.o 41 (B true) ?_
           refine LWp.o 42 (B true) ?_
           refine LWp.sh 43 ?_
           refine LWp.sh 44 ?_
           refine LWp.sh 45 ?_
           refine LWp.o 46 (B true) ?_
           refine LWp.nil ?_
           cases h
           exact ⟨_, rfl, rfl, rfl⟩
         refine LWp.o 37 (.one (.ptr (.box 6) 1 [] 1)) ?_
         refine LWp.o 38 (I x1.Size) ?_
         refine LWp.cl h 39 (fun v3 => (B v3)) rfl (l := [.sv (.one (.int .i64 x1.Size)), .sv (.one (.int .i64 1)), .sv (.one (.int .i64 31))]) rfl (fun v hv => i_in_t x1.Size 1 31 v hv) (.inl rfl) ?_
         intro v3 gv3 h
         refine LWp.o 40 (B (!v3)) ?_
         refine LWp.o 41 (B (!v3)) ?_
         refine LWp.o 42 (B (!v3)) ?_
         refine LWp.sp h 42 (fun h => ?_) (fun h => ?_)
         · refine LWp.sh 43 ?_
           refine LWp.sh 44 ?_
           refine LWp.sh 45 ?_
           refine LWp.o 46 (B true) ?_
           refine LWp.nil ?_
           cases h
           exact ⟨_, rfl, rfl, rfl⟩
         refine LWp.o 43 (.one (.ptr (.box 6) 1 [] 2)) ?_
         refine LWp.o 44 (Y x1.Text) ?_
         refine LWp.o 45 (B (!(seq x1.Text (bs [])))) ?_
         refine LWp.o 46 (B (!(seq x1.Text (bs [])))) ?_
         refine LWp.nil ?_
         cases h
         exact ⟨_, rfl, rfl, rfl⟩
       intro j3 h E hE
       refine nt_wp hE ?_
       change Wp _ _ _ (i_PlainOf_H5 xList yOut1 y1 x1 j3) _
       refine Wp.c h (fun h => ?_) (fun h => ?_)
       · refine Wp.seq (Wp.region ?_)
         refine LWp.o 2 (Y (bs [])) ?_
         refine LWp.o 3 (B false) ?_
         refine LWp.nil ?_
         cases h
         replace h : some _ = some _ := hk2
         cases h
         replace h : some _ = some _ := hk1 _ rfl
         cases h
         exact Wp.ret ⟨.inr rfl, _, _, rfl, rfl⟩
       refine Wp.skip ?_
       refine Wp.seq (Wp.region ?_)
       refine LWp.o 47 (.one (.ptr (.box 6) 0 [] 1)) ?_
       refine LWp.o 48 (I x1.Size) ?_
       refine LWp.o 49 (I 0) ?_
       refine LWp.nil ?_
       refine Wp.l1 h [4, 6, 7, 8, 9, 48, 49] [.box 6] (fun s => (i_PlainOf_H6 xList y1 x1 s.1 s.2)) [4, 7, 8, 9] [] (fun s => (i_PlainOf_H7 xList y1 s)) ⟨rfl, rfl⟩ ?_ ?_
       · rintro ⟨yOut2, y2⟩ o (h : i_PlainOf_b2 x1 yOut2 y2 = some o)
         unfold i_PlainOf_b2 at h
         change Wp _ _ _ (i_PlainOf_H6 xList y1 x1 yOut2 y2) _
         refine Wp.seq (Wp.region ?_)
         refine LWp.o 50 (B (decide (y2 < x1.Size))) ?_
         refine LWp.nil ?_
         refine Wp.seq ?_
         refine Wp.c h (fun h => ?_) (fun h => ?_)
         · refine Wp.skip ?_
           refine Wp.seq ?_
           refine Wp.block ?_
           refine Wp.region ?_
           refine LWp.o 51 (.one (.view (.slot 4) 0 [] 0)) ?_
           refine LWp.o 52 (.one (.view (.slot 4) 0 [] 0)) ?_
           refine LWp.o 53 (.one (.view (.slot 4) 0 [] 0)) ?_
           refine LWp.o 54 (I (ln yOut2)) ?_ (st_pure (p_ln k5 yOut2))
           refine LWp.o 55 (.one (.ptr (.box 6) 0 [] 0)) ?_
           refine LWp.o 56 (I x1.Back) ?_
           refine LWp.o 57 (I (sb (ln yOut2) x1.Back)) ?_
           refine LWp.p h 58 (fun _ => (.one (.ptr (.slot 4) 0 [0] (Int.toNat (sb (ln yOut2) x1.Back) * 1 + 0)))) ?_ (fun x2 gx2 => st_pure (p_ix k5 (.slot 4) [] 0 gx2))
           intro x2 gx2 h
           refine LWp.o 59 (.one (.int .u8 x2)) ?_ (st_pure (p_lc k5 (.slot 4) [0] 0 (.int .u8 x2) gx2))
           refine LWp.m false [] 60 (.one (.sl true 5 1 (encs c5 [x2]))) ?_
           refine LWp.pm h [(.slot 4, [.junk])] 61 (fun q2 => (.one (.sl true 5 1 (encs c5 q2)))) ?_ (fun q2 gq2 => s_apl k5 (fun _ => rfl) [(.slot 4, [.junk])] yOut2 gq2)
           intro q2 gq2 h
           refine LWp.m true [(.slot 61, [.junk])] 4 (.one (.sl true 5 1 (encs c5 q2))) ?_
           refine LWp.nil ?_
           refine Wp.region ?_
           refine LWp.o 62 (I (ad y2 1)) ?_
           refine LWp.o 49 (I (ad y2 1)) ?_
           refine LWp.nil ?_
           cases h
           exact ⟨_, rfl, rfl, rfl⟩
         refine Wp.exit ?_
         cases h
         exact ⟨_, rfl, rfl, rfl⟩
       intro v4 h E hE
       cases h
       exact ⟨_, rfl, hE⟩
     intro j1 h E hE
     refine nt_wp hE ?_
     change Wp _ _ _ (i_PlainOf_H3 xList y1 j1) _
     refine Wp.seq (Wp.region ?_)
     refine LWp.o 63 (.one (.view (.slot 4) 0 [] 0)) ?_
     refine LWp.o 64 (I (ln j1)) ?_ (st_pure (p_ln k5 j1))
     refine LWp.o 65 (B (decide ((ln j1) > 64))) ?_
     refine LWp.nil ?_
     refine Wp.c h (fun h => ?_) (fun h => ?_)
     · refine Wp.seq (Wp.region ?_)
       refine LWp.o 2 (Y (bs [])) ?_
       refine LWp.o 3 (B false) ?_
       refine LWp.nil ?_
       cases h
       replace h : some _ = some _ := hk1 _ rfl
       cases h
       exact Wp.ret ⟨.inr rfl, _, _, rfl, rfl⟩
     refine Wp.skip ?_
     refine Wp.region ?_
     refine LWp.o 66 (I (ad y1 1)) ?_
     refine LWp.o 9 (I (ad y1 1)) ?_
     refine LWp.nil ?_
     cases h
     exact ⟨_, rfl, rfl, rfl⟩
   refine Wp.exit ?_
   cases h
   exact ⟨_, rfl, rfl, rfl⟩
 intro v5 h E hE
 refine nt_wp hE ?_
 change Wp _ _ _ (i_PlainOf_H2 v5) _
 refine Wp.seq (Wp.region ?_)
 refine LWp.o 67 (.one (.view (.slot 4) 0 [] 0)) ?_
 refine LWp.o 68 (Y (strB v5)) ?_ (st_pure (p_cv (fun _ => rfl) v5))
 refine LWp.o 2 (Y (strB v5)) ?_
 refine LWp.o 3 (B true) ?_
 refine LWp.nil ?_
 cases h
 exact Wp.ret ⟨.inr rfl, _, _, rfl, rfl⟩
def i_matchAt_H1 (xS : ByteArray) (xAt : Int) (z1 : Int) (z2 : Int) (z3 : Int) : St := mkSt [(0, (Y xS)), (1, (I xAt)), (6, (I z1)), (7, (I z2)), (8, (I z3))] []
def i_matchAt_H2 (z4 : Int) (z5 : Int) : St := mkSt [(6, (I z4)), (7, (I z5))] []
def i_matchAt_H3 (xS : ByteArray) (xAt : Int) (ySize1 : Int) (yBack1 : Int) (yFrom1 : Int) (z6 : Int) : St := mkSt [(0, (Y xS)), (1, (I xAt)), (6, (I ySize1)), (7, (I yBack1)), (8, (I yFrom1)), (9, (I z6))] []
def i_matchAt_H4 (xS : ByteArray) (xAt : Int) (ySize1 : Int) (yBack1 : Int) (yFrom1 : Int) (z7 : Int) : St := mkSt [(0, (Y xS)), (1, (I xAt)), (6, (I ySize1)), (7, (I yBack1)), (8, (I yFrom1)), (9, (I z7))] []
def i_matchAt_H5 (xS : ByteArray) (xAt : Int) (ySize1 : Int) (yBack1 : Int) (yFrom1 : Int) (yN1 : Int) (z8 : Bool) : St := mkSt [(0, (Y xS)), (1, (I xAt)), (6, (I ySize1)), (7, (I yBack1)), (8, (I yFrom1)), (9, (I yN1)), (38, (B z8))] []
def i_matchAt_H6 (xS : ByteArray) (xAt : Int) (ySize1 : Int) (yBack1 : Int) (yFrom1 : Int) (v1 : Int) (z9 : Bool) : St := mkSt [(0, (Y xS)), (1, (I xAt)), (6, (I ySize1)), (7, (I yBack1)), (8, (I yFrom1)), (9, (I v1)), (47, (B z9))] []
theorem i_matchAt_t (xS : ByteArray) (xAt : Int) (r : Int × Int) (h : i_matchAt xS xAt = some r) : Gives Tryz.prog 163 [.sv (Y xS), .sv (I xAt)] (.tup [(I r.1), (I r.2)]) (List.replicate 2 .gone) := by
 unfold i_matchAt at h
 refine gives_of Tryz.func163 rfl ?_
 rw [Tryz.ntmps163]
 refine Wp.seq (Wp.region ?_)
 refine LWp.o 4 (I 0) ?_
 refine LWp.o 5 (I 0) ?_
 refine LWp.nil ?_
 refine Wp.seq (Wp.region ?_)
 refine LWp.o 6 (I 0) ?_
 refine LWp.o 7 (I 0) ?_
 refine LWp.nil ?_
 refine Wp.seq ?_
 refine Wp.seq (Wp.region ?_)
 refine LWp.o 10 (I xAt) ?_
 refine LWp.o 11 (I (sb xAt 1)) ?_
 refine LWp.o 8 (I (sb xAt 1)) ?_
 refine LWp.nil ?_
 refine Wp.l1 h [0, 1, 6, 7, 8] [] (fun s => (i_matchAt_H1 xS xAt s.1 s.2.1 s.2.2)) [6, 7] [] (fun s => (i_matchAt_H2 s.1 s.2)) ⟨rfl, rfl⟩ ?_ ?_
 · rintro ⟨ySize1, yBack1, yFrom1⟩ o (h : i_matchAt_b1 xS xAt ySize1 yBack1 yFrom1 = some o)
   unfold i_matchAt_b1 at h
   change Wp _ _ _ (i_matchAt_H1 xS xAt ySize1 yBack1 yFrom1) _
   refine Wp.seq ?_
   refine Wp.seq (Wp.region ?_)
   refine LWp.o 12 (I yFrom1) ?_
   refine LWp.o 13 (B (decide (yFrom1 ≥ 0))) ?_
   refine LWp.nil ?_
   refine Wp.c h (fun h => ?_) (fun h => ?_)
   · refine Wp.skip ?_
     refine Wp.seq ?_
     refine Wp.block ?_
     refine Wp.seq (Wp.region ?_)
     refine LWp.o 9 (I 0) ?_
     refine LWp.nil ?_
     refine Wp.seq ?_
     refine Wp.l1 h [0, 1, 6, 7, 8, 9] [] (fun s => (i_matchAt_H3 xS xAt ySize1 yBack1 yFrom1 s)) [0, 1, 6, 7, 8, 9] [] (fun s => (i_matchAt_H4 xS xAt ySize1 yBack1 yFrom1 s)) ⟨rfl, rfl⟩ ?_ ?_
     · rintro yN1 o (h : i_matchAt_b2 xS xAt yFrom1 yN1 = some o)
       unfold i_matchAt_b2 at h
       change Wp _ _ _ (i_matchAt_H3 xS xAt ySize1 yBack1 yFrom1 yN1) _
       refine Wp.seq ?_
       refine Wp.seq ?_
       refine Wp.j1 h [0, 1, 6, 7, 8, 9, 38] [] (fun a => (i_matchAt_H5 xS xAt ySize1 yBack1 yFrom1 yN1 a)) ?_ ?_
       · intro a h
         refine Wp.regionS mixed (by decide +kernel) ?_
         refine SWp.o 16 (I yN1) ?_
         refine SWp.o 17 (B (decide (yN1 < 31))) ?_
         refine SWp.o 18 (B (decide (yN1 < 31))) ?_
         refine SWp.sp h 18 (fun h => ?_) (fun h => ?_)
         · refine SWp.o 19 (I xAt) ?_
           refine SWp.o 20 (I yN1) ?_
           refine SWp.o 21 (I (ad xAt yN1)) ?_
           refine SWp.o 22 (Y xS) ?_
           refine SWp.o 23 (I (sln xS)) ?_
           refine SWp.o 24 (B (decide ((ad xAt yN1) < (sln xS)))) ?_
           refine SWp.o 25 (B (decide ((ad xAt yN1) < (sln xS)))) ?_
           refine SWp.o 26 (B (decide ((ad xAt yN1) < (sln xS)))) ?_
           refine SWp.sp h 26 (fun h => ?_) (fun h => ?_)
           · refine SWp.o 27 (Y xS) ?_
             refine SWp.o 28 (I yFrom1) ?_
             refine SWp.o 29 (I yN1) ?_
             refine SWp.o 30 (I (ad yFrom1 yN1)) ?_
             refine SWp.p h 31 (fun x1 => (.one (.int .u8 x1))) ?_ (fun x1 gx1 => sl_pure (p_sx gx1))
             intro x1 gx1 h
             refine SWp.o 32 (Y xS) ?_
             refine SWp.o 33 (I xAt) ?_
             refine SWp.o 34 (I yN1) ?_
             refine SWp.o 35 (I (ad xAt yN1)) ?_
             refine SWp.p h 36 (fun x2 => (.one (.int .u8 x2))) ?_ (fun x2 gx2 => sl_pure (p_sx gx2))
             intro x2 gx2 h
             refine SWp.o 37 (B (x1 == x2)) ?_
             refine SWp.o 38 (B (x1 == x2)) ?_
             refine SWp.nil ?_
             cases h
             exact ⟨_, rfl, rfl, rfl⟩
           refine SWp.sh 27 ?_
           refine SWp.sh 28 ?_
           refine SWp.sh 29 ?_
           refine SWp.sh 30 ?_
           refine SWp.sh 31 ?_
           refine SWp.sh 32 ?_
           refine SWp.sh 33 ?_
           refine SWp.sh 34 ?_
           refine SWp.sh 35 ?_
           refine SWp.sh 36 ?_
           refine SWp.sh 37 ?_
           refine SWp.o 38 (B false) ?_
           refine SWp.nil ?_
           cases h
           exact ⟨_, rfl, rfl, rfl⟩
         refine SWp.sh 19 ?_
         refine SWp.sh 20 ?_
         refine SWp.sh 21 ?_
         refine SWp.sh 22 ?_
         refine SWp.sh 23 ?_
         refine SWp.sh 24 ?_
         refine SWp.o 25 (B false) ?_
         refine SWp.o 26 (B false) ?_
         refine SWp.sh 27 ?_
         refine SWp.sh 28 ?_
         refine SWp.sh 29 ?_
         refine SWp.sh 30 ?_
         refine SWp.sh 31 ?_
         refine SWp.sh 32 ?_
         refine SWp.sh 33 ?_
         refine SWp.sh 34 ?_
         refine SWp.sh 35 ?_
         refine SWp.sh 36 ?_
         refine SWp.sh 37 ?_
         refine SWp.o 38 (B false) ?_
         refine SWp.nil ?_
         cases h
         exact ⟨_, rfl, rfl, rfl⟩
       intro j1 h E hE
       refine nt_wp hE ?_
       change Wp _ _ _ (i_matchAt_H5 xS xAt ySize1 yBack1 yFrom1 yN1 j1) _
       refine Wp.c h (fun h => ?_) (fun h => ?_)
       · refine Wp.skip ?_
         refine Wp.block ?_
         refine Wp.region ?_
         refine LWp.o 39 (I yN1) ?_
         refine LWp.o 40 (I (ad yN1 1)) ?_
         refine LWp.o 9 (I (ad yN1 1)) ?_
         refine LWp.nil ?_
         cases h
         exact ⟨_, rfl, rfl, rfl⟩
       refine Wp.exit ?_
       cases h
       exact ⟨_, rfl, rfl, rfl⟩
     intro v1 h E hE
     refine nt_wp hE ?_
     change Wp _ _ _ (i_matchAt_H4 xS xAt ySize1 yBack1 yFrom1 v1) _
     refine Wp.seq ?_
     refine Wp.j1 h [0, 1, 6, 7, 8, 9, 47] [] (fun a => (i_matchAt_H6 xS xAt ySize1 yBack1 yFrom1 v1 a)) ?_ ?_
     · intro a h
       refine Wp.region ?_
       refine LWp.o 41 (I v1) ?_
       refine LWp.o 42 (B (decide (v1 ≥ 4))) ?_
       refine LWp.o 43 (B (decide (v1 ≥ 4))) ?_
       refine LWp.sp h 43 (fun h => ?_) (fun h => ?_)
       · refine LWp.o 44 (I v1) ?_
         refine LWp.o 45 (I ySize1) ?_
         refine LWp.o 46 (B (decide (v1 > ySize1))) ?_
         refine LWp.o 47 (B (decide (v1 > ySize1))) ?_
         refine LWp.nil ?_
         cases h
         exact ⟨_, rfl, rfl, rfl⟩
       refine LWp.sh 44 ?_
       refine LWp.sh 45 ?_
       refine LWp.sh 46 ?_
       refine LWp.o 47 (B false) ?_
       refine LWp.nil ?_
       cases h
       exact ⟨_, rfl, rfl, rfl⟩
     intro j2 h E hE
     refine nt_wp hE ?_
     change Wp _ _ _ (i_matchAt_H6 xS xAt ySize1 yBack1 yFrom1 v1 j2) _
     refine Wp.c h (fun h => ?_) (fun h => ?_)
     · refine Wp.region ?_
       refine LWp.o 48 (I v1) ?_
       refine LWp.o 49 (I xAt) ?_
       refine LWp.o 50 (I yFrom1) ?_
       refine LWp.o 51 (I (sb xAt yFrom1)) ?_
       refine LWp.o 6 (I v1) ?_
       refine LWp.o 7 (I (sb xAt yFrom1)) ?_
       refine LWp.nil ?_
       refine Wp.region ?_
       refine LWp.o 14 (I yFrom1) ?_
       refine LWp.o 15 (I (sb yFrom1 1)) ?_
       refine LWp.o 8 (I (sb yFrom1 1)) ?_
       refine LWp.nil ?_
       cases h
       exact ⟨_, rfl, rfl, rfl⟩
     refine Wp.skip ?_
     refine Wp.region ?_
     refine LWp.o 14 (I yFrom1) ?_
     refine LWp.o 15 (I (sb yFrom1 1)) ?_
     refine LWp.o 8 (I (sb yFrom1 1)) ?_
     refine LWp.nil ?_
     cases h
     exact ⟨_, rfl, rfl, rfl⟩
   refine Wp.exit ?_
   cases h
   exact ⟨_, rfl, rfl, rfl⟩
 intro v2 h E hE
 refine nt_wp hE ?_
 change Wp _ _ _ (i_matchAt_H2 v2.1 v2.2) _
 refine Wp.seq (Wp.region ?_)
 refine LWp.o 52 (I v2.1) ?_
 refine LWp.o 53 (I v2.2) ?_
 refine LWp.o 4 (I v2.1) ?_
 refine LWp.o 5 (I v2.2) ?_
 refine LWp.nil ?_
 cases h
 exact Wp.ret ⟨.inr rfl, _, _, rfl, rfl⟩
def i_TokensOf_H1 (xS : ByteArray) (z1 : List Token) (z2 : Int) : St := mkSt [(0, (Y xS)), (3, (.one (.sl true 171 3 (encs c171 z1)))), (4, (I z2))] []
def i_TokensOf_H2 (z3 : List Token) : St := mkSt [(3, (.one (.sl true 171 3 (encs c171 z3))))] []
def i_TokensOf_H3 (xS : ByteArray) (yOut1 : List Token) (yAt1 : Int) (z4 : Bool) : St := mkSt [(0, (Y xS)), (3, (.one (.sl true 171 3 (encs c171 yOut1)))), (4, (I yAt1)), (7, (I (sb (ln yOut1) 1))), (53, (B z4))] []
def i_TokensOf_H4 (xS : ByteArray) (yAt1 : Int) (z5 : List Token) (z6 : Int) : St := mkSt [(0, (Y xS)), (3, (.one (.sl true 171 3 (encs c171 z5)))), (4, (I yAt1)), (7, (I z6))] []
theorem i_TokensOf_t (xS : ByteArray) (r : List Token) (h : i_TokensOf xS = some r) : Gives Tryz.prog 116 [.sv (Y xS)] (.one (.sl true 171 3 (encs c171 r))) (List.replicate 1 .gone) := by
 unfold i_TokensOf at h
 refine gives_of Tryz.func116 rfl ?_
 rw [Tryz.ntmps116]
 refine Wp.seq (Wp.region ?_)
 refine LWp.o 2 (.one (.sl true 171 3 (encs c171 []))) ?_
 refine LWp.nil ?_
 refine Wp.seq ?_
 refine Wp.seq (Wp.region ?_)
 refine LWp.o 8 (Y xS) ?_
 refine LWp.o 9 (I (sln xS)) ?_
 refine LWp.o 10 (B (decide ((sln xS) > 64))) ?_
 refine LWp.nil ?_
 refine Wp.c h (fun h => ?_) (fun h => ?_)
 · refine Wp.seq (Wp.region ?_)
   refine LWp.o 2 (.one (.sl true 171 3 (encs c171 []))) ?_
   refine LWp.nil ?_
   cases h
   exact Wp.ret ⟨.inr rfl, _, _, rfl, rfl⟩
 refine Wp.skip ?_
 refine Wp.seq (Wp.region ?_)
 refine LWp.o 3 (.one (.sl true 171 3 (encs c171 []))) ?_
 refine LWp.nil ?_
 refine Wp.seq ?_
 refine Wp.seq (Wp.region ?_)
 refine LWp.o 4 (I 0) ?_
 refine LWp.nil ?_
 refine Wp.l1 h [0, 3, 4] [] (fun s => (i_TokensOf_H1 xS s.1 s.2)) [3] [] (fun s => (i_TokensOf_H2 s)) ⟨rfl, rfl⟩ ?_ ?_
 · rintro ⟨yOut1, yAt1⟩ o (h : i_TokensOf_b1 xS yOut1 yAt1 = some o)
   unfold i_TokensOf_b1 at h
   change Wp _ _ _ (i_TokensOf_H1 xS yOut1 yAt1) _
   refine Wp.seq ?_
   refine Wp.seq (Wp.region ?_)
   refine LWp.o 11 (I yAt1) ?_
   refine LWp.o 12 (Y xS) ?_
   refine LWp.o 13 (I (sln xS)) ?_
   refine LWp.o 14 (B (decide (yAt1 < (sln xS)))) ?_
   refine LWp.nil ?_
   refine Wp.c h (fun h => ?_) (fun h => ?_)
   · refine Wp.skip ?_
     refine Wp.block ?_
     refine Wp.seq (Wp.region ?_)
     refine LWp.o 16 (Y xS) ?_
     refine LWp.o 17 (I yAt1) ?_
     refine LWp.cl h 18 (fun v1 => (.tup [(I v1.1), (I v1.2)])) rfl (l := [.sv (.one (.str xS)), .sv (.one (.int .i64 yAt1))]) rfl (fun v hv => i_matchAt_t xS yAt1 v hv) (.inl rfl) ?_
     intro v1 gv1 h
     refine LWp.mt 18 15 (.tup [(I v1.1), (I v1.2)]) ?_
     refine LWp.e 15 0 19 (I v1.1) ?_
     refine LWp.e 15 1 20 (I v1.2) ?_
     refine LWp.o 5 (I v1.1) ?_
     refine LWp.o 6 (I v1.2) ?_
     refine LWp.nil ?_
     refine Wp.seq ?_
     refine Wp.seq (Wp.region ?_)
     refine LWp.o 21 (I v1.1) ?_
     refine LWp.o 22 (B (decide (v1.1 > 0))) ?_
     refine LWp.nil ?_
     refine Wp.c h (fun h => ?_) (fun h => ?_)
     · refine Wp.seq (Wp.region ?_)
       refine LWp.o 23 (.one (.view (.slot 3) 0 [] 0)) ?_
       refine LWp.o 24 (I v1.2) ?_
       refine LWp.o 25 (I v1.1) ?_
       refine LWp.o 26 (.agg [.int .i64 v1.2, .int .i64 v1.1, .str (bs [])]) ?_
       refine LWp.m false [] 27 (.one (.sl true 171 3 (encs c171 [(Token.mk v1.2 v1.1 (bs []))]))) ?_
       refine LWp.pm h [(.slot 3, [.junk])] 28 (fun q1 => (.one (.sl true 171 3 (encs c171 q1)))) ?_ (fun q1 gq1 => s_apl k171 (fun _ => rfl) [(.slot 3, [.junk])] yOut1 gq1)
       intro q1 gq1 h
       refine LWp.m true [(.slot 28, [.junk])] 3 (.one (.sl true 171 3 (encs c171 q1))) ?_
       refine LWp.nil ?_
       refine Wp.seq (Wp.region ?_)
       refine LWp.o 29 (I yAt1) ?_
       refine LWp.o 30 (I v1.1) ?_
       refine LWp.o 31 (I (ad yAt1 v1.1)) ?_
       refine LWp.o 4 (I (ad yAt1 v1.1)) ?_
       refine LWp.nil ?_
       refine Wp.exit ?_
       cases h
       exact ⟨_, rfl, rfl, rfl⟩
     refine Wp.skip ?_
     refine Wp.seq (Wp.region ?_)
     refine LWp.o 32 (.one (.view (.slot 3) 0 [] 0)) ?_
     refine LWp.o 33 (I (ln yOut1)) ?_ (st_pure (p_ln k171 yOut1))
     refine LWp.o 34 (I (sb (ln yOut1) 1)) ?_
     refine LWp.o 7 (I (sb (ln yOut1) 1)) ?_
     refine LWp.nil ?_
     refine Wp.seq ?_
     refine Wp.seq ?_
     refine Wp.j1 h [0, 3, 4, 7, 53] [] (fun a => (i_TokensOf_H3 xS yOut1 yAt1 a)) ?_ ?_
     · intro a h
       refine Wp.region ?_
       refine LWp.o 35 (I (sb (ln yOut1) 1)) ?_
       refine LWp.o 36 (B (decide ((sb (ln yOut1) 1) < 0))) ?_
       refine LWp.o 37 (B (decide ((sb (ln yOut1) 1) < 0))) ?_
       refine LWp.sp h 37 (fun h => ?_) (fun h => ?_)
       · refine LWp.sh 38 ?_
         refine LWp.sh 39 ?_
         refine LWp.sh 40 ?_
         refine LWp.sh 41 ?_
         refine LWp.sh 42 ?_
         refine LWp.sh 43 ?_
         refine LWp.o 44 (B true) ?_
         refine LWp.o 45 (B true) ?_
         refine LWp.sh 46 ?_
         refine LWp.sh 47 ?_
         refine LWp.sh 48 ?_
         refine LWp.sh 49 ?_
         refine LWp.sh 50 ?_
         refine LWp.sh 51 ?_
         refine LWp.sh 52 ?_
         refine LWp.o 53 (B true) ?_
         refine LWp.nil ?_
         cases h
         exact ⟨_, rfl, rfl, rfl⟩
       refine LWp.o 38 (.one (.view (.slot 3) 0 [] 0)) ?_
       refine LWp.o 39 (I (sb (ln yOut1) 1)) ?_
       refine LWp.p h 40 (fun _ => (.one (.ptr (.slot 3) 0 [0] (Int.toNat (sb (ln yOut1) 1) * 3 + 0)))) ?_ (fun x1 gx1 => st_pure (p_ix k171 (.slot 3) [] 0 gx1))
       intro x1 gx1 h
       refine LWp.o 41 (.one (.ptr (.slot 3) 0 [0] (Int.toNat (sb (ln yOut1) 1) * 3 + 0))) ?_ (st_pure (p_fa k171 (.slot 3) [0] 0 gx1))
       refine LWp.o 42 (I x1.Back) ?_ (st_pure (p_lc k171 (.slot 3) [0] 0 (.int .i64 x1.Back) gx1))
       refine LWp.o 43 (B (decide (x1.Back > 0))) ?_
       refine LWp.o 44 (B (decide (x1.Back > 0))) ?_
       refine LWp.o 45 (B (decide (x1.Back > 0))) ?_
       refine LWp.sp h 45 (fun h => ?_) (fun h => ?_)
       · refine LWp.sh 46 ?_
         refine LWp.sh 47 ?_
         refine LWp.sh 48 ?_
         refine LWp.sh 49 ?_
         refine LWp.sh 50 ?_
         refine LWp.sh 51 ?_
         refine LWp.sh 52 ?_
         refine LWp.o 53 (B true) ?_
         refine LWp.nil ?_
         cases h
         exact ⟨_, rfl, rfl, rfl⟩
       refine LWp.o 46 (.one (.view (.slot 3) 0 [] 0)) ?_
       refine LWp.o 47 (I (sb (ln yOut1) 1)) ?_
       refine LWp.p h 48 (fun _ => (.one (.ptr (.slot 3) 0 [0] (Int.toNat (sb (ln yOut1) 1) * 3 + 0)))) ?_ (fun x2 gx2 => st_pure (p_ix k171 (.slot 3) [] 0 gx2))
       intro x2 gx2 h
       refine LWp.o 49 (.one (.ptr (.slot 3) 0 [0] (Int.toNat (sb (ln yOut1) 1) * 3 + 2))) ?_ (st_pure (p_fa k171 (.slot 3) [0] 0 gx2))
       refine LWp.o 50 (Y x2.Text) ?_ (st_pure (p_lc k171 (.slot 3) [0] 2 (.str x2.Text) gx2))
       refine LWp.o 51 (I (sln x2.Text)) ?_
       refine LWp.o 52 (B (decide ((sln x2.Text) ≥ 31))) ?_
       refine LWp.o 53 (B (decide ((sln x2.Text) ≥ 31))) ?_
       refine LWp.nil ?_
       cases h
       exact ⟨_, rfl, rfl, rfl⟩
     intro j1 h E hE
     refine nt_wp hE ?_
     change Wp _ _ _ (i_TokensOf_H3 xS yOut1 yAt1 j1) _
     refine Wp.j1 h [0, 3, 4, 7] [] (fun a => (i_TokensOf_H4 xS yAt1 a.1 a.2)) ?_ ?_
     · intro a h
       refine Wp.c h (fun h => ?_) (fun h => ?_)
       · refine Wp.seq (Wp.region ?_)
         refine LWp.o 54 (.one (.view (.slot 3) 0 [] 0)) ?_
         refine LWp.o 55 (.agg [.int .i64 0, .int .i64 0, .str (bs [])]) ?_
         refine LWp.m false [] 56 (.one (.sl true 171 3 (encs c171 [(Token.mk 0 0 (bs []))]))) ?_
         refine LWp.pm h [(.slot 3, [.junk])] 57 (fun q2 => (.one (.sl true 171 3 (encs c171 q2)))) ?_ (fun q2 gq2 => s_apl k171 (fun _ => rfl) [(.slot 3, [.junk])] yOut1 gq2)
         intro q2 gq2 h
         refine LWp.m true [(.slot 57, [.junk])] 3 (.one (.sl true 171 3 (encs c171 q2))) ?_
         refine LWp.nil ?_
         refine Wp.region ?_
         refine LWp.o 58 (I (sb (ln yOut1) 1)) ?_
         refine LWp.o 59 (I (ad (sb (ln yOut1) 1) 1)) ?_
         refine LWp.o 7 (I (ad (sb (ln yOut1) 1) 1)) ?_
         refine LWp.nil ?_
         cases h
         exact ⟨_, rfl, rfl, rfl⟩
       refine Wp.skip ?_
       cases h
       exact ⟨_, rfl, rfl, rfl⟩
     intro j2 h E hE
     refine nt_wp hE ?_
     change Wp _ _ _ (i_TokensOf_H4 xS yAt1 j2.1 j2.2) _
     refine Wp.seq ?_
     refine Wp.regionT 13 mixed (by decide +kernel) ?_
     refine SWp.o 60 (.one (.view (.slot 3) 0 [] 0)) ?_
     refine SWp.o 61 (I j2.2) ?_
     refine SWp.p h 62 (fun _ => (.one (.ptr (.slot 3) 0 [0] (Int.toNat j2.2 * 3 + 0)))) ?_ (fun x3 gx3 => sl_pure (p_ix k171 (.slot 3) [] 0 gx3))
     intro x3 gx3 h
     refine SWp.o 63 (.one (.ptr (.slot 3) 0 [0] (Int.toNat j2.2 * 3 + 2))) ?_ (sl_pure (p_fa k171 (.slot 3) [0] 0 gx3))
     refine SWp.o 64 (Y x3.Text) ?_ (sl_pure (p_lc k171 (.slot 3) [0] 2 (.str x3.Text) gx3))
     refine SWp.o 65 (Y xS) ?_
     refine SWp.o 66 (I yAt1) ?_
     refine SWp.o 67 (I yAt1) ?_
     refine SWp.o 68 (I (ad yAt1 1)) ?_
     refine SWp.p h 69 (fun x4 => (Y x4)) ?_ (fun x4 gx4 => sl_pure (p_sub gx4))
     intro x4 gx4 h
     refine SWp.p h 70 (fun x5 => (Y x5)) ?_ (fun x5 gx5 => sl_pure (p_cat gx5))
     intro x5 gx5 h
     refine SWp.p h 71 (fun _ => (.one (.ptr (.slot 3) 0 [0] (Int.toNat j2.2 * 3 + 0)))) ?_ (fun x6 gx6 => sl_pure (p_ix k171 (.slot 3) [] 0 gx6))
     intro x6 gx6 h
     refine SWp.o 72 (.one (.ptr (.slot 3) 0 [0] (Int.toNat j2.2 * 3 + 2))) ?_ (sl_pure (p_fa k171 (.slot 3) [0] 0 gx6))
     refine SWp.nil ?_
     refine LWp.sb [] (.slot 3) [.sl true 171 3 (encs c171 (si j2.1 j2.2 (Token.mk x6.Back x6.Size x5)))] ?_ (s_st [] (q := [0]) (cs := [.sl true 171 3 (encs c171 j2.1)]) (xs := [.str x5]) (At.one (setRow_gi k171 (k := 2) (z := (Token.mk x6.Back x6.Size x5)) gx6 rfl rfl)) (fit_gi k171 (k := 2) gx6 rfl))
     refine LWp.nil ?_
     refine Wp.region ?_
     refine LWp.o 73 (I yAt1) ?_
     refine LWp.o 74 (I (ad yAt1 1)) ?_
     refine LWp.o 4 (I (ad yAt1 1)) ?_
     refine LWp.nil ?_
     cases h
     exact ⟨_, rfl, rfl, rfl⟩
   refine Wp.exit ?_
   cases h
   exact ⟨_, rfl, rfl, rfl⟩
 intro v2 h E hE
 refine nt_wp hE ?_
 change Wp _ _ _ (i_TokensOf_H2 v2) _
 refine Wp.seq (Wp.region ?_)
 refine LWp.o 75 (.one (.view (.slot 3) 0 [] 0)) ?_
 refine LWp.m true [(.slot 3, [.junk])] 2 (.one (.sl true 171 3 (encs c171 v2))) ?_
 refine LWp.nil ?_
 cases h
 exact Wp.ret ⟨.inr rfl, _, _, rfl, rfl⟩
def i_PackText_H1 (xS : ByteArray) (v1 : List Token) (z1 : List Int) (z2 : Int) : St := mkSt [(0, (Y xS)), (4, (.one (.sl true 5 1 (encs c5 z1)))), (12, (.one (.sl true 171 3 (encs c171 v1)))), (13, (I (ln v1))), (14, (I z2))] []
def i_PackText_H2 (xS : ByteArray) (z3 : List Int) : St := mkSt [(0, (Y xS)), (4, (.one (.sl true 5 1 (encs c5 z3))))] []
def i_PackText_H3 (xS : ByteArray) (v1 : List Token) (y1 : Int) (z4 : List Int) : St := mkSt [(0, (Y xS)), (4, (.one (.sl true 5 1 (encs c5 z4)))), (12, (.one (.sl true 171 3 (encs c171 v1)))), (13, (I (ln v1))), (14, (I y1))] []
theorem i_PackText_t (xS : ByteArray) (r : ByteArray × Bool) (h : i_PackText xS = some r) : Gives Tryz.prog 76 [.sv (Y xS)] (.tup [(Y r.1), (B r.2)]) (List.replicate 1 .gone) := by
 unfold i_PackText at h
 refine gives_of Tryz.func76 rfl ?_
 rw [Tryz.ntmps76]
 refine Wp.seq (Wp.region ?_)
 refine LWp.o 2 (Y (bs [])) ?_
 refine LWp.o 3 (B false) ?_
 refine LWp.nil ?_
 refine Wp.seq ?_
 refine Wp.seq (Wp.region ?_)
 refine LWp.o 7 (Y xS) ?_
 refine LWp.o 8 (I (sln xS)) ?_
 refine LWp.o 9 (B (decide ((sln xS) > 64))) ?_
 refine LWp.nil ?_
 refine Wp.c h (fun h => ?_) (fun h => ?_)
 · refine Wp.seq (Wp.region ?_)
   refine LWp.o 2 (Y (bs [])) ?_
   refine LWp.o 3 (B false) ?_
   refine LWp.nil ?_
   cases h
   exact Wp.ret ⟨.inr rfl, _, _, rfl, rfl⟩
 refine Wp.skip ?_
 refine Wp.seq (Wp.region ?_)
 refine LWp.m false [] 10 (.one (.sl true 5 1 (encs c5 [122]))) ?_
 refine LWp.m true [(.slot 10, [.junk])] 4 (.one (.sl true 5 1 (encs c5 [122]))) ?_
 refine LWp.nil ?_
 refine Wp.seq ?_
 refine Wp.seq (Wp.region ?_)
 refine LWp.o 11 (Y xS) ?_
 refine LWp.cl h 12 (fun v1 => (.one (.sl true 171 3 (encs c171 v1)))) rfl (l := [.sv (.one (.str xS))]) rfl (fun v hv => i_TokensOf_t xS v hv) (.inl rfl) ?_
 intro v1 gv1 h
 refine LWp.o 13 (I (ln v1)) ?_ (st_pure (p_ln k171 v1))
 refine LWp.o 14 (I 0) ?_
 refine LWp.nil ?_
 refine Wp.l1 h [0, 4, 12, 13, 14] [] (fun s => (i_PackText_H1 xS v1 s.1 s.2)) [0, 4] [] (fun s => (i_PackText_H2 xS s)) ⟨rfl, rfl⟩ ?_ ?_
 · rintro ⟨yOut1, y1⟩ o (h : i_PackText_b1 v1 yOut1 y1 = some o)
   unfold i_PackText_b1 at h
   change Wp _ _ _ (i_PackText_H1 xS v1 yOut1 y1) _
   refine Wp.seq (Wp.region ?_)
   refine LWp.o 15 (B (decide (y1 < (ln v1)))) ?_
   refine LWp.nil ?_
   refine Wp.seq ?_
   refine Wp.c h (fun h => ?_) (fun h => ?_)
   · refine Wp.skip ?_
     refine Wp.seq ?_
     refine Wp.block ?_
     refine Wp.seq (Wp.region ?_)
     refine LWp.p h 16 (fun _ => (.one (.ptr (.slot 12) 0 [0] (Int.toNat y1 * 3 + 0)))) ?_ (fun x1 gx1 => st_pure (p_ix k171 (.slot 12) [] 0 gx1))
     intro x1 gx1 h
     refine LWp.o 17 (.agg [.int .i64 x1.Back, .int .i64 x1.Size, .str x1.Text]) ?_ (st_pure (p_le k171 (.slot 12) [0] gx1))
     refine LWp.b [] 6 [.int .i64 0, .int .i64 0, .str (bs [])] ?_
     refine LWp.s [] (.box 6) [.int .i64 x1.Back, .int .i64 x1.Size, .str x1.Text] ?_
     refine LWp.nil ?_
     refine Wp.seq (Wp.region ?_)
     refine LWp.o 18 (.one (.ptr (.box 6) 1 [] 0)) ?_
     refine LWp.o 19 (I x1.Back) ?_
     refine LWp.o 20 (B (decide (x1.Back > 0))) ?_
     refine LWp.nil ?_
     refine Wp.j1 h [0, 4, 12, 13, 14] [] (fun a => (i_PackText_H3 xS v1 y1 a)) ?_ ?_
     · intro a h
       refine Wp.c h (fun h => ?_) (fun h => ?_)
       · refine Wp.region ?_
         refine LWp.o 21 (.one (.view (.slot 4) 0 [] 0)) ?_
         refine LWp.o 22 (.one (.ptr (.box 6) 1 [] 1)) ?_
         refine LWp.o 23 (I x1.Size) ?_
         refine LWp.o 24 (I (ad 128 x1.Size)) ?_
         refine LWp.o 25 (.one (.int .u8 (IntKind.u8.wrap (ad 128 x1.Size)))) ?_
         refine LWp.o 26 (.one (.ptr (.box 6) 1 [] 0)) ?_
         refine LWp.o 27 (I x1.Back) ?_
         refine LWp.o 28 (.one (.int .u8 (IntKind.u8.wrap x1.Back))) ?_
         refine LWp.m false [] 29 (.one (.sl true 5 1 (encs c5 [(IntKind.u8.wrap (ad 128 x1.Size)), (IntKind.u8.wrap x1.Back)]))) ?_
         refine LWp.pm h [(.slot 4, [.junk])] 30 (fun q1 => (.one (.sl true 5 1 (encs c5 q1)))) ?_ (fun q1 gq1 => s_apl k5 (fun _ => rfl) [(.slot 4, [.junk])] yOut1 gq1)
         intro q1 gq1 h
         refine LWp.m true [(.slot 30, [.junk])] 4 (.one (.sl true 5 1 (encs c5 q1))) ?_
         refine LWp.nil ?_
         cases h
         exact ⟨_, rfl, rfl, rfl⟩
       refine Wp.regionK 11 [6, 9] mixed (fun c E h => by rcases h with ⟨h | h, _⟩ <;> cases h) ?_
       refine KWp.o 11 0 31 (.one (.view (.slot 4) 0 [] 0)) ?_
       refine KWp.o 11 1 32 (.one (.ptr (.box 6) 1 [] 2)) ?_
       refine KWp.o 11 2 33 (Y x1.Text) ?_
       refine KWp.o 11 3 34 (I (sln x1.Text)) ?_
       refine KWp.o 11 4 35 (.one (.int .u8 (IntKind.u8.wrap (sln x1.Text)))) ?_
       refine KWp.w2 5 7 ?_ ?_
       · refine KOp.m 5 false [] 36 (.one (.sl true 5 1 (encs c5 [(IntKind.u8.wrap (sln x1.Text))]))) ?_
         refine KWp.w2 6 7 ?_ ?_
         · refine KOp.pm h 6 [(.slot 4, [.junk])] 37 (fun q2 => (.one (.sl true 5 1 (encs c5 q2)))) ?_ rfl (fun q2 gq2 => s_apl k5 (fun _ => rfl) [(.slot 4, [.junk])] yOut1 gq2)
           intro q2 gq2 h
           refine KWp.w1 7 ?_
           refine KOp.o 7 38 (.one (.ptr (.box 6) 1 [] 2)) ?_
           refine KWp.w1 8 ?_
           refine KOp.o 8 39 (Y x1.Text) ?_
           refine KWp.w1 9 ?_
           refine KOp.pm h 9 [(.slot 37, [.junk])] 40 (fun q3 => (.one (.sl true 5 1 (encs c5 q3)))) ?_ rfl (fun q3 gq3 => s_aps (fun _ => rfl) [(.slot 37, [.junk])] q2 gq3)
           intro q3 gq3 h
           refine KWp.w1 10 ?_
           refine KOp.m 10 true [(.slot 40, [.junk])] 4 (.one (.sl true 5 1 (encs c5 q3))) ?_
           refine KWp.done ?_
           cases h
           exact ⟨_, rfl, rfl, rfl⟩
         refine KOp.o 7 38 (.one (.ptr (.box 6) 1 [] 2)) ?_
         refine KWp.w2 6 8 ?_ ?_
         · refine KOp.pm h 6 [(.slot 4, [.junk])] 37 (fun q4 => (.one (.sl true 5 1 (encs c5 q4)))) ?_ rfl (fun q4 gq4 => s_apl k5 (fun _ => rfl) [(.slot 4, [.junk])] yOut1 gq4)
           intro q4 gq4 h
           refine KWp.w1 8 ?_
           refine KOp.o 8 39 (Y x1.Text) ?_
           refine KWp.w1 9 ?_
           refine KOp.pm h 9 [(.slot 37, [.junk])] 40 (fun q5 => (.one (.sl true 5 1 (encs c5 q5)))) ?_ rfl (fun q5 gq5 => s_aps (fun _ => rfl) [(.slot 37, [.junk])] q4 gq5)
           intro q5 gq5 h
           refine KWp.w1 10 ?_
           refine KOp.m 10 true [(.slot 40, [.junk])] 4 (.one (.sl true 5 1 (encs c5 q5))) ?_
           refine KWp.done ?_
           cases h
           exact ⟨_, rfl, rfl, rfl⟩
         refine KOp.o 8 39 (Y x1.Text) ?_
         refine KWp.w1 6 ?_
         refine KOp.pm h 6 [(.slot 4, [.junk])] 37 (fun q6 => (.one (.sl true 5 1 (encs c5 q6)))) ?_ rfl (fun q6 gq6 => s_apl k5 (fun _ => rfl) [(.slot 4, [.junk])] yOut1 gq6)
         intro q6 gq6 h
         refine KWp.w1 9 ?_
         refine KOp.pm h 9 [(.slot 37, [.junk])] 40 (fun q7 => (.one (.sl true 5 1 (encs c5 q7)))) ?_ rfl (fun q7 gq7 => s_aps (fun _ => rfl) [(.slot 37, [.junk])] q6 gq7)
         intro q7 gq7 h
         refine KWp.w1 10 ?_
         refine KOp.m 10 true [(.slot 40, [.junk])] 4 (.one (.sl true 5 1 (encs c5 q7))) ?_
         refine KWp.done ?_
         cases h
         exact ⟨_, rfl, rfl, rfl⟩
       refine KOp.o 7 38 (.one (.ptr (.box 6) 1 [] 2)) ?_
       refine KWp.w2 5 8 ?_ ?_
       · refine KOp.m 5 false [] 36 (.one (.sl true 5 1 (encs c5 [(IntKind.u8.wrap (sln x1.Text))]))) ?_
         refine KWp.w2 6 8 ?_ ?_
         · refine KOp.pm h 6 [(.slot 4, [.junk])] 37 (fun q8 => (.one (.sl true 5 1 (encs c5 q8)))) ?_ rfl (fun q8 gq8 => s_apl k5 (fun _ => rfl) [(.slot 4, [.junk])] yOut1 gq8)
           intro q8 gq8 h
           refine KWp.w1 8 ?_
           refine KOp.o 8 39 (Y x1.Text) ?_
           refine KWp.w1 9 ?_
           refine KOp.pm h 9 [(.slot 37, [.junk])] 40 (fun q9 => (.one (.sl true 5 1 (encs c5 q9)))) ?_ rfl (fun q9 gq9 => s_aps (fun _ => rfl) [(.slot 37, [.junk])] q8 gq9)
           intro q9 gq9 h
           refine KWp.w1 10 ?_
           refine KOp.m 10 true [(.slot 40, [.junk])] 4 (.one (.sl true 5 1 (encs c5 q9))) ?_
           refine KWp.done ?_
           cases h
           exact ⟨_, rfl, rfl, rfl⟩
         refine KOp.o 8 39 (Y x1.Text) ?_
         refine KWp.w1 6 ?_
         refine KOp.pm h 6 [(.slot 4, [.junk])] 37 (fun q10 => (.one (.sl true 5 1 (encs c5 q10)))) ?_ rfl (fun q10 gq10 => s_apl k5 (fun _ => rfl) [(.slot 4, [.junk])] yOut1 gq10)
         intro q10 gq10 h
         refine KWp.w1 9 ?_
         refine KOp.pm h 9 [(.slot 37, [.junk])] 40 (fun q11 => (.one (.sl true 5 1 (encs c5 q11)))) ?_ rfl (fun q11 gq11 => s_aps (fun _ => rfl) [(.slot 37, [.junk])] q10 gq11)
         intro q11 gq11 h
         refine KWp.w1 10 ?_
         refine KOp.m 10 true [(.slot 40, [.junk])] 4 (.one (.sl true 5 1 (encs c5 q11))) ?_
         refine KWp.done ?_
         cases h
         exact ⟨_, rfl, rfl, rfl⟩
       refine KOp.o 8 39 (Y x1.Text) ?_
       refine KWp.w1 5 ?_
       refine KOp.m 5 false [] 36 (.one (.sl true 5 1 (encs c5 [(IntKind.u8.wrap (sln x1.Text))]))) ?_
       refine KWp.w1 6 ?_
       refine KOp.pm h 6 [(.slot 4, [.junk])] 37 (fun q12 => (.one (.sl true 5 1 (encs c5 q12)))) ?_ rfl (fun q12 gq12 => s_apl k5 (fun _ => rfl) [(.slot 4, [.junk])] yOut1 gq12)
       intro q12 gq12 h
       refine KWp.w1 9 ?_
       refine KOp.pm h 9 [(.slot 37, [.junk])] 40 (fun q13 => (.one (.sl true 5 1 (encs c5 q13)))) ?_ rfl (fun q13 gq13 => s_aps (fun _ => rfl) [(.slot 37, [.junk])] q12 gq13)
       intro q13 gq13 h
       refine KWp.w1 10 ?_
       refine KOp.m 10 true [(.slot 40, [.junk])] 4 (.one (.sl true 5 1 (encs c5 q13))) ?_
       refine KWp.done ?_
       cases h
       exact ⟨_, rfl, rfl, rfl⟩
     intro j1 h E hE
     refine nt_wp hE ?_
     change Wp _ _ _ (i_PackText_H3 xS v1 y1 j1) _
     refine Wp.region ?_
     refine LWp.o 41 (I (ad y1 1)) ?_
     refine LWp.o 14 (I (ad y1 1)) ?_
     refine LWp.nil ?_
     cases h
     exact ⟨_, rfl, rfl, rfl⟩
   refine Wp.exit ?_
   cases h
   exact ⟨_, rfl, rfl, rfl⟩
 intro v2 h E hE
 refine nt_wp hE ?_
 change Wp _ _ _ (i_PackText_H2 xS v2) _
 refine Wp.seq ?_
 refine Wp.seq (Wp.region ?_)
 refine LWp.o 42 (Y xS) ?_
 refine LWp.o 43 (I (sln xS)) ?_
 refine LWp.o 44 (I (ad (sln xS) 1)) ?_
 refine LWp.o 45 (.one (.view (.slot 4) 0 [] 0)) ?_
 refine LWp.o 46 (I (ln v2)) ?_ (st_pure (p_ln k5 v2))
 refine LWp.o 47 (B (decide ((ad (sln xS) 1) ≤ (ln v2)))) ?_
 refine LWp.nil ?_
 refine Wp.c h (fun h => ?_) (fun h => ?_)
 · refine Wp.seq (Wp.region ?_)
   refine LWp.o 48 (Y xS) ?_
   refine LWp.p h 49 (fun x2 => (Y x2)) ?_ (fun x2 gx2 => st_pure (p_cat gx2))
   intro x2 gx2 h
   refine LWp.o 2 (Y x2) ?_
   refine LWp.o 3 (B true) ?_
   refine LWp.nil ?_
   cases h
   exact Wp.ret ⟨.inr rfl, _, _, rfl, rfl⟩
 refine Wp.skip ?_
 refine Wp.seq (Wp.region ?_)
 refine LWp.o 50 (.one (.view (.slot 4) 0 [] 0)) ?_
 refine LWp.o 51 (Y (strB v2)) ?_ (st_pure (p_cv (fun _ => rfl) v2))
 refine LWp.o 2 (Y (strB v2)) ?_
 refine LWp.o 3 (B true) ?_
 refine LWp.nil ?_
 cases h
 exact Wp.ret ⟨.inr rfl, _, _, rfl, rfl⟩
def i_UnpackText_H1 (xT : ByteArray) (z1 : ByteArray) : St := mkSt [(0, (Y xT)), (4, (Y z1))] []
def i_UnpackText_H2 (j1 : ByteArray) (z2 : Bool) : St := mkSt [(4, (Y j1)), (46, (B z2))] []
theorem i_UnpackText_t (xT : ByteArray) (r : ByteArray × Bool) (h : i_UnpackText xT = some r) : Gives Tryz.prog 157 [.sv (Y xT)] (.tup [(Y r.1), (B r.2)]) (List.replicate 1 .gone) := by
 unfold i_UnpackText at h
 refine gives_of Tryz.func157 rfl ?_
 rw [Tryz.ntmps157]
 refine Wp.seq (Wp.region ?_)
 refine LWp.o 2 (Y (bs [])) ?_
 refine LWp.o 3 (B false) ?_
 refine LWp.nil ?_
 refine Wp.seq ?_
 refine Wp.seq (Wp.region ?_)
 refine LWp.o 11 (Y xT) ?_
 refine LWp.o 12 (B (seq xT (bs []))) ?_
 refine LWp.nil ?_
 refine Wp.c h (fun h => ?_) (fun h => ?_)
 · refine Wp.seq (Wp.region ?_)
   refine LWp.o 2 (Y (bs [])) ?_
   refine LWp.o 3 (B false) ?_
   refine LWp.nil ?_
   cases h
   exact Wp.ret ⟨.inr rfl, _, _, rfl, rfl⟩
 refine Wp.skip ?_
 refine Wp.seq (Wp.region ?_)
 refine LWp.o 13 (Y xT) ?_
 refine LWp.p h 14 (fun x1 => (Y x1)) ?_ (fun x1 gx1 => st_pure (p_sub gx1))
 intro x1 gx1 h
 refine LWp.o 4 (Y x1) ?_
 refine LWp.nil ?_
 refine Wp.seq ?_
 refine Wp.seq (Wp.region ?_)
 refine LWp.o 15 (Y xT) ?_
 refine LWp.p h 16 (fun x2 => (.one (.int .u8 x2))) ?_ (fun x2 gx2 => st_pure (p_sx gx2))
 intro x2 gx2 h
 refine LWp.o 17 (B (x2 != 114)) ?_
 refine LWp.nil ?_
 refine Wp.j2 h [0, 4] [] (fun a => (i_UnpackText_H1 xT a)) ?_ ?_
 · intro a h hk1
   refine Wp.c h (fun h => ?_) (fun h => ?_)
   · refine Wp.seq (Wp.region ?_)
     refine LWp.o 19 (Y x1) ?_
     refine LWp.cl h 20 (fun v1 => (.tup [(.one (.sl true 171 3 (encs c171 v1.1))), (B v1.2)])) rfl (l := [.sv (.one (.str x1))]) rfl (fun v hv => i_tokensIn_t x1 v hv) (.inl rfl) ?_
     intro v1 gv1 h
     refine LWp.mt 20 18 (.tup [(.one (.sl true 171 3 (encs c171 v1.1))), (B v1.2)]) ?_
     refine LWp.e 18 0 21 (.one (.sl true 171 3 (encs c171 v1.1))) ?_
     refine LWp.e 18 1 22 (B v1.2) ?_
     refine LWp.m true [(.slot 21, [.junk])] 5 (.one (.sl true 171 3 (encs c171 v1.1))) ?_
     refine LWp.o 6 (B v1.2) ?_
     refine LWp.nil ?_
     refine Wp.seq (Wp.region ?_)
     refine LWp.o 24 (.one (.view (.slot 5) 1 [] 0)) ?_
     refine LWp.cl h 25 (fun v2 => (.tup [(Y v2.1), (B v2.2)])) rfl (l := [.sv (.one (.sl false 171 3 (shares (encs c171 v1.1))))]) rfl (fun v hv => cg (l := [.sv (.one (.sl false 171 3 (shares (encs c171 v1.1))))]) (by simp only [sh171]) (i_PlainOf_t v1.1 v hv)) (.inr (fun v => rfl)) ?_
     intro v2 gv2 h
     refine LWp.mt 25 23 (.tup [(Y v2.1), (B v2.2)]) ?_
     refine LWp.e 23 0 26 (Y v2.1) ?_
     refine LWp.e 23 1 27 (B v2.2) ?_
     refine LWp.o 7 (Y v2.1) ?_
     refine LWp.o 8 (B v2.2) ?_
     refine LWp.nil ?_
     refine Wp.seq ?_
     refine Wp.seq (Wp.region ?_)
     refine LWp.o 28 (B v1.2) ?_
     refine LWp.o 29 (B (!v1.2)) ?_
     refine LWp.o 30 (B (!v1.2)) ?_
     refine LWp.sp h 30 (fun h => ?_) (fun h => ?_)
     · refine LWp.sh 31 ?_
       refine LWp.sh 32 ?_
       refine LWp.o 33 (B true) ?_
       refine LWp.nil ?_
       refine Wp.ct ?_
       refine Wp.seq (Wp.region ?_)
       refine LWp.o 2 (Y (bs [])) ?_
       refine LWp.o 3 (B false) ?_
       refine LWp.nil ?_
       cases h
       replace h : some _ = some _ := hk1
       cases h
       exact Wp.ret ⟨.inr rfl, _, _, rfl, rfl⟩
     refine LWp.o 31 (B v2.2) ?_
     refine LWp.o 32 (B (!v2.2)) ?_
     refine LWp.o 33 (B (!v2.2)) ?_
     refine LWp.nil ?_
     refine Wp.c h (fun h => ?_) (fun h => ?_)
     · refine Wp.seq (Wp.region ?_)
       refine LWp.o 2 (Y (bs [])) ?_
       refine LWp.o 3 (B false) ?_
       refine LWp.nil ?_
       cases h
       replace h : some _ = some _ := hk1
       cases h
       exact Wp.ret ⟨.inr rfl, _, _, rfl, rfl⟩
     refine Wp.skip ?_
     refine Wp.region ?_
     refine LWp.o 34 (Y v2.1) ?_
     refine LWp.o 4 (Y v2.1) ?_
     refine LWp.nil ?_
     cases h
     exact ⟨_, rfl, rfl, rfl⟩
   refine Wp.skip ?_
   cases h
   exact ⟨_, rfl, rfl, rfl⟩
 intro j1 h E hE
 refine nt_wp hE ?_
 change Wp _ _ _ (i_UnpackText_H1 xT j1) _
 refine Wp.seq (Wp.region ?_)
 refine LWp.o 36 (Y j1) ?_
 refine LWp.cl h 37 (fun v3 => (.tup [(Y v3.1), (B v3.2)])) rfl (l := [.sv (.one (.str j1))]) rfl (fun v hv => i_PackText_t j1 v hv) (.inl rfl) ?_
 intro v3 gv3 h
 refine LWp.mt 37 35 (.tup [(Y v3.1), (B v3.2)]) ?_
 refine LWp.e 35 0 38 (Y v3.1) ?_
 refine LWp.e 35 1 39 (B v3.2) ?_
 refine LWp.o 9 (Y v3.1) ?_
 refine LWp.o 10 (B v3.2) ?_
 refine LWp.nil ?_
 refine Wp.seq ?_
 refine Wp.seq ?_
 refine Wp.j1 h [4, 46] [] (fun a => (i_UnpackText_H2 j1 a)) ?_ ?_
 · intro a h
   refine Wp.region ?_
   refine LWp.o 40 (B v3.2) ?_
   refine LWp.o 41 (B (!v3.2)) ?_
   refine LWp.o 42 (B (!v3.2)) ?_
   refine LWp.sp h 42 (fun h => ?_) (fun h => ?_)
   · refine LWp.sh 43 ?_
     refine LWp.sh 44 ?_
     refine LWp.sh 45 ?_
     refine LWp.o 46 (B true) ?_
     refine LWp.nil ?_
     cases h
     exact ⟨_, rfl, rfl, rfl⟩
   refine LWp.o 43 (Y v3.1) ?_
   refine LWp.o 44 (Y xT) ?_
   refine LWp.o 45 (B (!(seq v3.1 xT))) ?_
   refine LWp.o 46 (B (!(seq v3.1 xT))) ?_
   refine LWp.nil ?_
   cases h
   exact ⟨_, rfl, rfl, rfl⟩
 intro j2 h E hE
 refine nt_wp hE ?_
 change Wp _ _ _ (i_UnpackText_H2 j1 j2) _
 refine Wp.c h (fun h => ?_) (fun h => ?_)
 · refine Wp.seq (Wp.region ?_)
   refine LWp.o 2 (Y (bs [])) ?_
   refine LWp.o 3 (B false) ?_
   refine LWp.nil ?_
   cases h
   exact Wp.ret ⟨.inr rfl, _, _, rfl, rfl⟩
 refine Wp.skip ?_
 refine Wp.seq (Wp.region ?_)
 refine LWp.o 47 (Y j1) ?_
 refine LWp.o 2 (Y j1) ?_
 refine LWp.o 3 (B true) ?_
 refine LWp.nil ?_
 cases h
 exact Wp.ret ⟨.inr rfl, _, _, rfl, rfl⟩
theorem i_ChunkText_t (xF : Flash) (xChunk : Int) (r : ByteArray × Bool) (h : i_ChunkText xF xChunk = some r) : Gives Tryz.prog 107 [.sv (.agg [.sl false 124 3 (encs (c124 false) xF.Blocks)]), .sv (I xChunk)] (.tup [(Y r.1), (B r.2)]) (List.replicate 2 .gone) := by
 unfold i_ChunkText at h
 refine gives_of Tryz.func107 rfl ?_
 rw [Tryz.ntmps107]
 refine Wp.seq (Wp.region ?_)
 refine LWp.b [] 2 [.sl false 124 3 (encs (c124 false) xF.Blocks)] ?_
 refine LWp.o 4 (Y (bs [])) ?_
 refine LWp.o 5 (B false) ?_
 refine LWp.nil ?_
 refine Wp.seq (Wp.region ?_)
 refine LWp.o 9 (.agg [.sl false 124 3 (encs (c124 false) xF.Blocks)]) ?_
 refine LWp.o 10 (I xChunk) ?_
 refine LWp.cl h 11 (fun v1 => (.tup [(.agg [.int .i64 v1.1.Block, .int .i64 v1.1.Leaf, .int .i64 v1.1.Page.Kind, .int .i64 v1.1.Page.Seq, .int .i64 v1.1.Page.Tx, .int .i64 v1.1.Page.Part, .int .i64 v1.1.Page.Count, .str v1.1.Page.Text]), (B v1.2)])) rfl (l := [.sv (.agg [.sl false 124 3 (encs (c124 false) xF.Blocks)]), .sv (.one (.int .i64 xChunk))]) rfl (fun v hv => i_dataOf_t xF xChunk v hv) (.inl rfl) ?_
 intro v1 gv1 h
 refine LWp.mt 11 8 (.tup [(.agg [.int .i64 v1.1.Block, .int .i64 v1.1.Leaf, .int .i64 v1.1.Page.Kind, .int .i64 v1.1.Page.Seq, .int .i64 v1.1.Page.Tx, .int .i64 v1.1.Page.Part, .int .i64 v1.1.Page.Count, .str v1.1.Page.Text]), (B v1.2)]) ?_
 refine LWp.e 8 0 12 (.agg [.int .i64 v1.1.Block, .int .i64 v1.1.Leaf, .int .i64 v1.1.Page.Kind, .int .i64 v1.1.Page.Seq, .int .i64 v1.1.Page.Tx, .int .i64 v1.1.Page.Part, .int .i64 v1.1.Page.Count, .str v1.1.Page.Text]) ?_
 refine LWp.e 8 1 13 (B v1.2) ?_
 refine LWp.b [] 6 [.int .i64 0, .int .i64 0, .int .i64 0, .int .i64 0, .int .i64 0, .int .i64 0, .int .i64 0, .str (bs [])] ?_
 refine LWp.s [] (.box 6) [.int .i64 v1.1.Block, .int .i64 v1.1.Leaf, .int .i64 v1.1.Page.Kind, .int .i64 v1.1.Page.Seq, .int .i64 v1.1.Page.Tx, .int .i64 v1.1.Page.Part, .int .i64 v1.1.Page.Count, .str v1.1.Page.Text] ?_
 refine LWp.o 7 (B v1.2) ?_
 refine LWp.nil ?_
 refine Wp.seq ?_
 refine Wp.seq (Wp.region ?_)
 refine LWp.o 14 (B v1.2) ?_
 refine LWp.o 15 (B (!v1.2)) ?_
 refine LWp.nil ?_
 refine Wp.c h (fun h => ?_) (fun h => ?_)
 · refine Wp.seq (Wp.region ?_)
   refine LWp.o 4 (Y (bs [])) ?_
   refine LWp.o 5 (B false) ?_
   refine LWp.nil ?_
   cases h
   exact Wp.ret ⟨.inr rfl, _, _, rfl, rfl⟩
 refine Wp.skip ?_
 refine Wp.seq (Wp.region ?_)
 refine LWp.o 16 (.one (.ptr (.box 6) 1 [] 2)) ?_
 refine LWp.o 17 (.one (.ptr (.box 6) 1 [] 7)) ?_
 refine LWp.o 18 (Y v1.1.Page.Text) ?_
 refine LWp.cl h 19 (fun v2 => (.tup [(Y v2.1), (B v2.2)])) rfl (l := [.sv (.one (.str v1.1.Page.Text))]) rfl (fun v hv => i_UnpackText_t v1.1.Page.Text v hv) (.inl rfl) ?_
 intro v2 gv2 h
 refine LWp.e 19 0 20 (Y v2.1) ?_
 refine LWp.e 19 1 21 (B v2.2) ?_
 refine LWp.o 4 (Y v2.1) ?_
 refine LWp.o 5 (B v2.2) ?_
 refine LWp.nil ?_
 cases h
 exact Wp.ret ⟨.inr rfl, _, _, rfl, rfl⟩
set_option maxHeartbeats 4000000 in
theorem i_ReadOf_t (xD : Device) (xVol : Int) (xSector : Int) (r : ByteArray × Bool) (h : i_ReadOf xD xVol xSector = some r) : Gives Tryz.prog 58 [.sv (.agg [.sl false 124 3 (encs (c124 false) xD.Flash.Blocks), .sl false 110 2 (encs c110 xD.Store.Vols), .sl false 218 2 (encs (c218 false) xD.Store.Arena.Knots), .int .i64 xD.Store.Next, .int .i64 xD.Seq, .int .i64 xD.Tx, .int .i64 xD.Base]), .sv (I xVol), .sv (I xSector)] (.tup [(Y r.1), (B r.2)]) (List.replicate 3 .gone) := by
 unfold i_ReadOf at h
 refine gives_of Tryz.func58 rfl ?_
 rw [Tryz.ntmps58]
 refine Wp.seq (Wp.region ?_)
 refine LWp.b [] 3 [.sl false 124 3 (encs (c124 false) xD.Flash.Blocks), .sl false 110 2 (encs c110 xD.Store.Vols), .sl false 218 2 (encs (c218 false) xD.Store.Arena.Knots), .int .i64 xD.Store.Next, .int .i64 xD.Seq, .int .i64 xD.Tx, .int .i64 xD.Base] ?_
 refine LWp.o 6 (Y (bs [])) ?_
 refine LWp.o 7 (B false) ?_
 refine LWp.nil ?_
 refine Wp.seq ?_
 refine Wp.seq (Wp.region ?_)
 refine LWp.o 9 (.one (.ptr (.box 3) 1 [] 1)) ?_
 refine LWp.o 10 (.agg [.sl false 110 2 (encs c110 xD.Store.Vols), .sl false 218 2 (encs (c218 false) xD.Store.Arena.Knots), .int .i64 xD.Store.Next]) ?_
 refine LWp.o 11 (I xVol) ?_
 refine LWp.cl h 12 (fun v1 => (I v1)) rfl (l := [.sv (.agg [.sl false 110 2 (encs c110 xD.Store.Vols), .sl false 218 2 (encs (c218 false) xD.Store.Arena.Knots), .int .i64 xD.Store.Next]), .sv (.one (.int .i64 xVol))]) rfl (fun v hv => i_volAt_t xD.Store xVol v hv) (.inl rfl) ?_
 intro v1 gv1 h
 refine LWp.o 13 (B (decide (v1 < 0))) ?_
 refine LWp.nil ?_
 refine Wp.c h (fun h => ?_) (fun h => ?_)
 · refine Wp.seq (Wp.region ?_)
   refine LWp.o 6 (Y (bs [])) ?_
   refine LWp.o 7 (B false) ?_
   refine LWp.nil ?_
   cases h
   exact Wp.ret ⟨.inr rfl, _, _, rfl, rfl⟩
 refine Wp.skip ?_
 refine Wp.seq (Wp.region ?_)
 refine LWp.o 14 (.one (.ptr (.box 3) 1 [] 1)) ?_
 refine LWp.o 15 (.agg [.sl false 110 2 (encs c110 xD.Store.Vols), .sl false 218 2 (encs (c218 false) xD.Store.Arena.Knots), .int .i64 xD.Store.Next]) ?_
 refine LWp.o 16 (I xVol) ?_
 refine LWp.o 17 (I xSector) ?_
 refine LWp.cl h 18 (fun v2 => (I v2)) rfl (l := [.sv (.agg [.sl false 110 2 (encs c110 xD.Store.Vols), .sl false 218 2 (encs (c218 false) xD.Store.Arena.Knots), .int .i64 xD.Store.Next]), .sv (.one (.int .i64 xVol)), .sv (.one (.int .i64 xSector))]) rfl (fun v hv => i_ChunkOf_t xD.Store xVol xSector v hv) (.inl rfl) ?_
 intro v2 gv2 h
 refine LWp.o 8 (I v2) ?_
 refine LWp.nil ?_
 refine Wp.seq ?_
 refine Wp.seq (Wp.region ?_)
 refine LWp.o 19 (I v2) ?_
 refine LWp.o 20 (B (v2 == 0)) ?_
 refine LWp.nil ?_
 refine Wp.c h (fun h => ?_) (fun h => ?_)
 · refine Wp.seq (Wp.region ?_)
   refine LWp.o 6 (Y (bs [])) ?_
   refine LWp.o 7 (B true) ?_
   refine LWp.nil ?_
   cases h
   exact Wp.ret ⟨.inr rfl, _, _, rfl, rfl⟩
 refine Wp.skip ?_
 refine Wp.seq (Wp.region ?_)
 refine LWp.o 21 (.one (.ptr (.box 3) 1 [] 0)) ?_
 refine LWp.o 22 (.agg [.sl false 124 3 (encs (c124 false) xD.Flash.Blocks)]) ?_
 refine LWp.o 23 (I v2) ?_
 refine LWp.cl h 24 (fun v3 => (.tup [(Y v3.1), (B v3.2)])) rfl (l := [.sv (.agg [.sl false 124 3 (encs (c124 false) xD.Flash.Blocks)]), .sv (.one (.int .i64 v2))]) rfl (fun v hv => i_ChunkText_t xD.Flash v2 v hv) (.inl rfl) ?_
 intro v3 gv3 h
 refine LWp.e 24 0 25 (Y v3.1) ?_
 refine LWp.e 24 1 26 (B v3.2) ?_
 refine LWp.o 6 (Y v3.1) ?_
 refine LWp.o 7 (B v3.2) ?_
 refine LWp.nil ?_
 cases h
 exact Wp.ret ⟨.inr rfl, _, _, rfl, rfl⟩
def i_ModelOfDevice_H1 (xD : Device) (z1 : List Shelf) (z2 : Int) : St := mkSt [(1, (.one (.ptr (.box 1) 0 [] 0))), (3, (.one (.sl true 113 2 (encs (c113 true) z1)))), (12, (.one (.sl false 110 2 (encs c110 xD.Store.Vols)))), (13, (I (ln xD.Store.Vols))), (14, (I z2))] [(.box 1, [.sl false 124 3 (encs (c124 false) xD.Flash.Blocks), .sl false 110 2 (encs c110 xD.Store.Vols), .sl false 218 2 (encs (c218 false) xD.Store.Arena.Knots), .int .i64 xD.Store.Next, .int .i64 xD.Seq, .int .i64 xD.Tx, .int .i64 xD.Base])]
def i_ModelOfDevice_H2 (z3 : List Shelf) : St := mkSt [(3, (.one (.sl true 113 2 (encs (c113 true) z3))))] []
def i_ModelOfDevice_H3 (xD : Device) (yOut1 : List Shelf) (y1 : Int) (x1 : Vol) (z4 : Int) (z5 : List ByteArray) : St := mkSt [(1, (.one (.ptr (.box 1) 0 [] 0))), (3, (.one (.sl true 113 2 (encs (c113 true) yOut1)))), (5, (.one (.ptr (.box 5) 0 [] 0))), (6, (.one (.ptr (.box 6) 0 [] 0))), (12, (.one (.sl false 110 2 (encs c110 xD.Store.Vols)))), (13, (I (ln xD.Store.Vols))), (14, (I y1)), (21, (I z4))] [(.box 1, [.sl false 124 3 (encs (c124 false) xD.Flash.Blocks), .sl false 110 2 (encs c110 xD.Store.Vols), .sl false 218 2 (encs (c218 false) xD.Store.Arena.Knots), .int .i64 xD.Store.Next, .int .i64 xD.Seq, .int .i64 xD.Tx, .int .i64 xD.Base]), (.box 5, [.int .i64 x1.Id, .int .i64 x1.Root]), (.box 6, [.int .i64 x1.Id, .sl true 9 1 (encs c9 z5)])]
def i_ModelOfDevice_H4 (xD : Device) (yOut1 : List Shelf) (y1 : Int) (x1 : Vol) (z6 : List ByteArray) : St := mkSt [(1, (.one (.ptr (.box 1) 0 [] 0))), (3, (.one (.sl true 113 2 (encs (c113 true) yOut1)))), (6, (.one (.ptr (.box 6) 0 [] 0))), (12, (.one (.sl false 110 2 (encs c110 xD.Store.Vols)))), (13, (I (ln xD.Store.Vols))), (14, (I y1))] [(.box 1, [.sl false 124 3 (encs (c124 false) xD.Flash.Blocks), .sl false 110 2 (encs c110 xD.Store.Vols), .sl false 218 2 (encs (c218 false) xD.Store.Arena.Knots), .int .i64 xD.Store.Next, .int .i64 xD.Seq, .int .i64 xD.Tx, .int .i64 xD.Base]), (.box 6, [.int .i64 x1.Id, .sl true 9 1 (encs c9 z6)])]
theorem i_ModelOfDevice_t (xD : Device) (r : List Shelf) (h : i_ModelOfDevice xD = some r) : Gives Tryz.prog 24 [.sv (.agg [.sl false 124 3 (encs (c124 false) xD.Flash.Blocks), .sl false 110 2 (encs c110 xD.Store.Vols), .sl false 218 2 (encs (c218 false) xD.Store.Arena.Knots), .int .i64 xD.Store.Next, .int .i64 xD.Seq, .int .i64 xD.Tx, .int .i64 xD.Base])] (.one (.sl true 113 2 (encs (c113 true) r))) (List.replicate 1 .gone) := by
 unfold i_ModelOfDevice at h
 refine gives_of Tryz.func24 rfl ?_
 rw [Tryz.ntmps24]
 refine Wp.seq (Wp.region ?_)
 refine LWp.b [] 1 [.sl false 124 3 (encs (c124 false) xD.Flash.Blocks), .sl false 110 2 (encs c110 xD.Store.Vols), .sl false 218 2 (encs (c218 false) xD.Store.Arena.Knots), .int .i64 xD.Store.Next, .int .i64 xD.Seq, .int .i64 xD.Tx, .int .i64 xD.Base] ?_
 refine LWp.o 2 (.one (.sl true 113 2 (encs (c113 true) []))) ?_
 refine LWp.nil ?_
 refine Wp.seq (Wp.region ?_)
 refine LWp.o 3 (.one (.sl true 113 2 (encs (c113 true) []))) ?_
 refine LWp.nil ?_
 refine Wp.seq ?_
 refine Wp.seq (Wp.region ?_)
 refine LWp.o 10 (.one (.ptr (.box 1) 1 [] 1)) ?_
 refine LWp.o 11 (.one (.ptr (.box 1) 1 [] 1)) ?_
 refine LWp.o 12 (.one (.sl false 110 2 (encs c110 xD.Store.Vols))) ?_
 refine LWp.o 13 (I (ln xD.Store.Vols)) ?_ (st_pure (p_ln k110 xD.Store.Vols))
 refine LWp.o 14 (I 0) ?_
 refine LWp.nil ?_
 refine Wp.l1 h [1, 3, 12, 13, 14] [.box 1] (fun s => (i_ModelOfDevice_H1 xD s.1 s.2)) [3] [] (fun s => (i_ModelOfDevice_H2 s)) ⟨rfl, rfl⟩ ?_ ?_
 · rintro ⟨yOut1, y1⟩ o (h : i_ModelOfDevice_b1 xD yOut1 y1 = some o)
   unfold i_ModelOfDevice_b1 at h
   change Wp _ _ _ (i_ModelOfDevice_H1 xD yOut1 y1) _
   refine Wp.seq (Wp.region ?_)
   refine LWp.o 15 (B (decide (y1 < (ln xD.Store.Vols)))) ?_
   refine LWp.nil ?_
   refine Wp.seq ?_
   refine Wp.c h (fun h => ?_) (fun h => ?_)
   · refine Wp.skip ?_
     refine Wp.seq ?_
     refine Wp.block ?_
     refine Wp.seq (Wp.region ?_)
     refine LWp.p h 16 (fun _ => (.one (.ptr (.slot 12) 0 [0] (Int.toNat y1 * 2 + 0)))) ?_ (fun x1 gx1 => st_pure (p_ix k110 (.slot 12) [] 0 gx1))
     intro x1 gx1 h
     refine LWp.o 17 (.agg [.int .i64 x1.Id, .int .i64 x1.Root]) ?_ (st_pure (p_le k110 (.slot 12) [0] gx1))
     refine LWp.b [] 5 [.int .i64 0, .int .i64 0] ?_
     refine LWp.s [] (.box 5) [.int .i64 x1.Id, .int .i64 x1.Root] ?_
     refine LWp.nil ?_
     refine Wp.seq (Wp.region ?_)
     refine LWp.o 18 (.one (.ptr (.box 5) 1 [] 0)) ?_
     refine LWp.o 19 (I x1.Id) ?_
     refine LWp.o 20 (.agg [.int .i64 x1.Id, .sl true 9 1 (encs c9 [])]) ?_
     refine LWp.b [] 6 [.int .i64 0, .sl true 9 1 (encs c9 [])] ?_
     refine LWp.sb [(.slot 20, [.int .i64 x1.Id, .junk])] (.box 6) [.int .i64 x1.Id, .sl true 9 1 (encs c9 [])] ?_
     refine LWp.nil ?_
     refine Wp.seq ?_
     refine Wp.seq (Wp.region ?_)
     refine LWp.o 21 (I 0) ?_
     refine LWp.nil ?_
     refine Wp.l1 h [1, 3, 5, 6, 12, 13, 14, 21] [.box 1, .box 5, .box 6] (fun s => (i_ModelOfDevice_H3 xD yOut1 y1 x1 s.1 s.2)) [1, 3, 6, 12, 13, 14] [.box 1, .box 6] (fun s => (i_ModelOfDevice_H4 xD yOut1 y1 x1 s)) ⟨rfl, rfl⟩ ?_ ?_
     · rintro ⟨y2, yS11⟩ o (h : i_ModelOfDevice_b2 xD x1 y2 yS11 = some o)
       unfold i_ModelOfDevice_b2 at h
       change Wp _ _ _ (i_ModelOfDevice_H3 xD yOut1 y1 x1 y2 yS11) _
       refine Wp.seq (Wp.region ?_)
       refine LWp.o 22 (B (decide (y2 < 16))) ?_
       refine LWp.nil ?_
       refine Wp.seq ?_
       refine Wp.c h (fun h => ?_) (fun h => ?_)
       · refine Wp.skip ?_
         refine Wp.seq ?_
         refine Wp.block ?_
         refine Wp.seq (Wp.region ?_)
         refine LWp.o 23 (I y2) ?_
         refine LWp.o 7 (I y2) ?_
         refine LWp.nil ?_
         refine Wp.seq (Wp.region ?_)
         refine LWp.o 25 (.agg [.sl false 124 3 (encs (c124 false) xD.Flash.Blocks), .sl false 110 2 (encs c110 xD.Store.Vols), .sl false 218 2 (encs (c218 false) xD.Store.Arena.Knots), .int .i64 xD.Store.Next, .int .i64 xD.Seq, .int .i64 xD.Tx, .int .i64 xD.Base]) ?_
         refine LWp.o 26 (.one (.ptr (.box 5) 0 [] 0)) ?_
         refine LWp.o 27 (I x1.Id) ?_
         refine LWp.o 28 (I y2) ?_
         refine LWp.cl h 29 (fun v1 => (.tup [(Y v1.1), (B v1.2)])) rfl (l := [.sv (.agg [.sl false 124 3 (encs (c124 false) xD.Flash.Blocks), .sl false 110 2 (encs c110 xD.Store.Vols), .sl false 218 2 (encs (c218 false) xD.Store.Arena.Knots), .int .i64 xD.Store.Next, .int .i64 xD.Seq, .int .i64 xD.Tx, .int .i64 xD.Base]), .sv (.one (.int .i64 x1.Id)), .sv (.one (.int .i64 y2))]) rfl (fun v hv => i_ReadOf_t xD x1.Id y2 v hv) (.inl rfl) ?_
         intro v1 gv1 h
         refine LWp.mt 29 24 (.tup [(Y v1.1), (B v1.2)]) ?_
         refine LWp.e 24 0 30 (Y v1.1) ?_
         refine LWp.e 24 1 31 (B v1.2) ?_
         refine LWp.o 8 (Y v1.1) ?_
         refine LWp.o 9 (B v1.2) ?_
         refine LWp.nil ?_
         refine Wp.region ?_
         refine LWp.o 32 (.one (.ptr (.box 6) 0 [] 1)) ?_
         refine LWp.o 33 (.one (.view (.box 6) 0 [] 1)) ?_
         refine LWp.o 34 (Y v1.1) ?_
         refine LWp.m false [] 35 (.one (.sl true 9 1 (encs c9 [v1.1]))) ?_
         refine LWp.pm h [(.box 6, [.int .i64 x1.Id, .junk])] 36 (fun q1 => (.one (.sl true 9 1 (encs c9 q1)))) ?_ (fun q1 gq1 => s_apl k9 (fun _ => rfl) [(.box 6, [.int .i64 x1.Id, .junk])] yS11 gq1)
         intro q1 gq1 h
         refine LWp.o 37 (.one (.ptr (.box 6) 0 [] 1)) ?_
         refine LWp.s [(.slot 36, [.junk])] (.box 6) [.int .i64 x1.Id, .sl true 9 1 (encs c9 q1)] ?_
         refine LWp.nil ?_
         refine Wp.region ?_
         refine LWp.o 38 (I (ad y2 1)) ?_
         refine LWp.o 21 (I (ad y2 1)) ?_
         refine LWp.nil ?_
         cases h
         exact ⟨_, rfl, rfl, rfl⟩
       refine Wp.exit ?_
       cases h
       exact ⟨_, rfl, rfl, rfl⟩
     intro v2 h E hE
     refine nt_wp hE ?_
     change Wp _ _ _ (i_ModelOfDevice_H4 xD yOut1 y1 x1 v2) _
     refine Wp.region ?_
     refine LWp.o 39 (.one (.view (.slot 3) 0 [] 0)) ?_
     refine LWp.o 40 (.agg [.int .i64 x1.Id, .view (.box 6) 0 [] 1]) ?_
     refine LWp.m false [(.box 6, [.int .i64 x1.Id, .junk])] 41 (.one (.sl true 113 2 (encs (c113 true) [(Shelf.mk x1.Id v2)]))) ?_
     refine LWp.pm h [(.slot 3, [.junk]), (.slot 41, [.sl true 113 2 [.int .i64 ((Shelf.mk x1.Id v2).Vol), .junk]])] 42 (fun q2 => (.one (.sl true 113 2 (encs (c113 true) q2)))) ?_ (fun q2 gq2 => s_ap1 (k113 true) [(.slot 3, [.junk]), (.slot 41, [.sl true 113 2 [.int .i64 ((Shelf.mk x1.Id v2).Vol), .junk]])] yOut1 [(Shelf.mk x1.Id v2)] gq2)
     intro q2 gq2 h
     refine LWp.m true [(.slot 42, [.junk])] 3 (.one (.sl true 113 2 (encs (c113 true) q2))) ?_
     refine LWp.nil ?_
     refine Wp.region ?_
     refine LWp.o 43 (I (ad y1 1)) ?_
     refine LWp.o 14 (I (ad y1 1)) ?_
     refine LWp.nil ?_
     cases h
     exact ⟨_, rfl, rfl, rfl⟩
   refine Wp.exit ?_
   cases h
   exact ⟨_, rfl, rfl, rfl⟩
 intro v3 h E hE
 refine nt_wp hE ?_
 change Wp _ _ _ (i_ModelOfDevice_H2 v3) _
 refine Wp.seq (Wp.region ?_)
 refine LWp.o 44 (.one (.view (.slot 3) 0 [] 0)) ?_
 refine LWp.m true [(.slot 3, [.junk])] 2 (.one (.sl true 113 2 (encs (c113 true) v3))) ?_
 refine LWp.nil ?_
 cases h
 exact Wp.ret ⟨.inr rfl, _, _, rfl, rfl⟩
def w_eqStringS_H1 (xA : List ByteArray) (xB : List ByteArray) (z1 : Int) : St := mkSt [(0, (.one (.sl false 9 1 (encs c9 xA)))), (1, (.one (.sl false 9 1 (encs c9 xB)))), (5, (I z1))] []
def w_eqStringS_H2  : St := mkSt [] []
theorem w_eqStringS_t (xA : List ByteArray) (xB : List ByteArray) (r : Bool) (h : w_eqStringS xA xB = some r) : Gives Tryz.prog 108 [.sv (.one (.sl false 9 1 (encs c9 xA))), .sv (.one (.sl false 9 1 (encs c9 xB)))] (B r) (List.replicate 2 .gone) := by
 unfold w_eqStringS at h
 refine gives_of Tryz.func108 rfl ?_
 rw [Tryz.ntmps108]
 refine Wp.seq (Wp.region ?_)
 refine LWp.o 4 (B false) ?_
 refine LWp.nil ?_
 refine Wp.seq ?_
 refine Wp.seq (Wp.region ?_)
 refine LWp.o 6 (.one (.sl false 9 1 (encs c9 xA))) ?_
 refine LWp.o 7 (I (ln xA)) ?_ (st_pure (p_ln k9 xA))
 refine LWp.o 8 (.one (.sl false 9 1 (encs c9 xB))) ?_
 refine LWp.o 9 (I (ln xB)) ?_ (st_pure (p_ln k9 xB))
 refine LWp.o 10 (B ((ln xA) != (ln xB))) ?_
 refine LWp.nil ?_
 refine Wp.c h (fun h => ?_) (fun h => ?_)
 · refine Wp.seq (Wp.region ?_)
   refine LWp.o 4 (B false) ?_
   refine LWp.nil ?_
   cases h
   exact Wp.ret ⟨.inr rfl, _, _, rfl, rfl⟩
 refine Wp.skip ?_
 refine Wp.seq ?_
 refine Wp.seq (Wp.region ?_)
 refine LWp.o 5 (I 0) ?_
 refine LWp.nil ?_
 refine Wp.l2 h [0, 1, 5] [] (fun s => (w_eqStringS_H1 xA xB s)) [] [] (fun _ => w_eqStringS_H2) ⟨rfl, rfl⟩ ?_ ?_
 · rintro yI1 o (h : w_eqStringS_b1 xA xB yI1 = some o) hk1
   unfold w_eqStringS_b1 at h
   change Wp _ _ _ (w_eqStringS_H1 xA xB yI1) _
   refine Wp.seq ?_
   refine Wp.seq (Wp.region ?_)
   refine LWp.o 11 (I yI1) ?_
   refine LWp.o 12 (.one (.sl false 9 1 (encs c9 xA))) ?_
   refine LWp.o 13 (I (ln xA)) ?_ (st_pure (p_ln k9 xA))
   refine LWp.o 14 (B (decide (yI1 < (ln xA)))) ?_
   refine LWp.nil ?_
   refine Wp.c h (fun h => ?_) (fun h => ?_)
   · refine Wp.skip ?_
     refine Wp.seq ?_
     refine Wp.block ?_
     refine Wp.seq ?_
     refine Wp.regionS mixed (by decide +kernel) ?_
     refine SWp.o 17 (.one (.sl false 9 1 (encs c9 xA))) ?_
     refine SWp.o 18 (I yI1) ?_
     refine SWp.p h 19 (fun _ => (.one (.ptr (.slot 17) 1 [0] (Int.toNat yI1 * 1 + 0)))) ?_ (fun x1 gx1 => sl_pure (p_ix k9 (.slot 17) [] 0 gx1))
     intro x1 gx1 h
     refine SWp.o 20 (Y x1) ?_ (sl_pure (p_lc k9 (.slot 17) [0] 0 (.str x1) gx1))
     refine SWp.o 21 (.one (.sl false 9 1 (encs c9 xB))) ?_
     refine SWp.o 22 (I yI1) ?_
     refine SWp.p h 23 (fun _ => (.one (.ptr (.slot 21) 1 [0] (Int.toNat yI1 * 1 + 0)))) ?_ (fun x2 gx2 => sl_pure (p_ix k9 (.slot 21) [] 0 gx2))
     intro x2 gx2 h
     refine SWp.o 24 (Y x2) ?_ (sl_pure (p_lc k9 (.slot 21) [0] 0 (.str x2) gx2))
     refine SWp.o 25 (B (!(seq x1 x2))) ?_
     refine SWp.nil ?_
     refine Wp.c h (fun h => ?_) (fun h => ?_)
     · refine Wp.seq (Wp.region ?_)
       refine LWp.o 4 (B false) ?_
       refine LWp.nil ?_
       cases h
       replace h : some _ = some _ := hk1 _ rfl
       cases h
       exact Wp.ret ⟨.inr rfl, _, _, rfl, rfl⟩
     refine Wp.skip ?_
     refine Wp.region ?_
     refine LWp.o 15 (I yI1) ?_
     refine LWp.o 16 (I (ad yI1 1)) ?_
     refine LWp.o 5 (I (ad yI1 1)) ?_
     refine LWp.nil ?_
     cases h
     exact ⟨_, rfl, rfl, rfl⟩
   refine Wp.exit ?_
   cases h
   exact ⟨_, rfl, rfl, rfl⟩
 intro v1 h E hE
 refine nt_wp hE ?_
 change Wp _ _ _ w_eqStringS_H2 _
 refine Wp.seq (Wp.region ?_)
 refine LWp.o 4 (B true) ?_
 refine LWp.nil ?_
 cases h
 exact Wp.ret ⟨.inr rfl, _, _, rfl, rfl⟩
theorem w_eqShelf_t (xA : Shelf) (xB : Shelf) (r : Bool) (h : w_eqShelf xA xB = some r) : Gives Tryz.prog 59 [.sv (.agg [.int .i64 xA.Vol, .sl false 9 1 (encs c9 xA.Texts)]), .sv (.agg [.int .i64 xB.Vol, .sl false 9 1 (encs c9 xB.Texts)])] (B r) (List.replicate 2 .gone) := by
 unfold w_eqShelf at h
 refine gives_of Tryz.func59 rfl ?_
 rw [Tryz.ntmps59]
 refine Wp.seq (Wp.region ?_)
 refine LWp.b [] 2 [.int .i64 xA.Vol, .sl false 9 1 (encs c9 xA.Texts)] ?_
 refine LWp.b [] 3 [.int .i64 xB.Vol, .sl false 9 1 (encs c9 xB.Texts)] ?_
 refine LWp.o 4 (B false) ?_
 refine LWp.nil ?_
 refine Wp.seq ?_
 refine Wp.seq (Wp.region ?_)
 refine LWp.o 5 (.one (.ptr (.box 2) 1 [] 0)) ?_
 refine LWp.o 6 (I xA.Vol) ?_
 refine LWp.o 7 (.one (.ptr (.box 3) 1 [] 0)) ?_
 refine LWp.o 8 (I xB.Vol) ?_
 refine LWp.o 9 (B (xA.Vol != xB.Vol)) ?_
 refine LWp.nil ?_
 refine Wp.c h (fun h => ?_) (fun h => ?_)
 · refine Wp.seq (Wp.region ?_)
   refine LWp.o 4 (B false) ?_
   refine LWp.nil ?_
   cases h
   exact Wp.ret ⟨.inr rfl, _, _, rfl, rfl⟩
 refine Wp.skip ?_
 refine Wp.seq ?_
 refine Wp.seq (Wp.region ?_)
 refine LWp.o 10 (.one (.ptr (.box 2) 1 [] 1)) ?_
 refine LWp.o 11 (.one (.sl false 9 1 (encs c9 xA.Texts))) ?_
 refine LWp.o 12 (.one (.ptr (.box 3) 1 [] 1)) ?_
 refine LWp.o 13 (.one (.sl false 9 1 (encs c9 xB.Texts))) ?_
 refine LWp.cl h 14 (fun v1 => (B v1)) rfl (l := [.sv (.one (.sl false 9 1 (encs c9 xA.Texts))), .sv (.one (.sl false 9 1 (encs c9 xB.Texts)))]) rfl (fun v hv => w_eqStringS_t xA.Texts xB.Texts v hv) (.inl rfl) ?_
 intro v1 gv1 h
 refine LWp.o 15 (B (!v1)) ?_
 refine LWp.nil ?_
 refine Wp.c h (fun h => ?_) (fun h => ?_)
 · refine Wp.seq (Wp.region ?_)
   refine LWp.o 4 (B false) ?_
   refine LWp.nil ?_
   cases h
   exact Wp.ret ⟨.inr rfl, _, _, rfl, rfl⟩
 refine Wp.skip ?_
 refine Wp.seq (Wp.region ?_)
 refine LWp.o 4 (B true) ?_
 refine LWp.nil ?_
 cases h
 exact Wp.ret ⟨.inr rfl, _, _, rfl, rfl⟩
def w_eqShelfS_H1 (xA : List Shelf) (xB : List Shelf) (z1 : Int) : St := mkSt [(0, (.one (.sl false 113 2 (encs (c113 false) xA)))), (1, (.one (.sl false 113 2 (encs (c113 false) xB)))), (5, (I z1))] []
def w_eqShelfS_H2  : St := mkSt [] []
theorem w_eqShelfS_t (xA : List Shelf) (xB : List Shelf) (r : Bool) (h : w_eqShelfS xA xB = some r) : Gives Tryz.prog 25 [.sv (.one (.sl false 113 2 (encs (c113 false) xA))), .sv (.one (.sl false 113 2 (encs (c113 false) xB)))] (B r) (List.replicate 2 .gone) := by
 unfold w_eqShelfS at h
 refine gives_of Tryz.func25 rfl ?_
 rw [Tryz.ntmps25]
 refine Wp.seq (Wp.region ?_)
 refine LWp.o 4 (B false) ?_
 refine LWp.nil ?_
 refine Wp.seq ?_
 refine Wp.seq (Wp.region ?_)
 refine LWp.o 6 (.one (.sl false 113 2 (encs (c113 false) xA))) ?_
 refine LWp.o 7 (I (ln xA)) ?_ (st_pure (p_ln (k113 false) xA))
 refine LWp.o 8 (.one (.sl false 113 2 (encs (c113 false) xB))) ?_
 refine LWp.o 9 (I (ln xB)) ?_ (st_pure (p_ln (k113 false) xB))
 refine LWp.o 10 (B ((ln xA) != (ln xB))) ?_
 refine LWp.nil ?_
 refine Wp.c h (fun h => ?_) (fun h => ?_)
 · refine Wp.seq (Wp.region ?_)
   refine LWp.o 4 (B false) ?_
   refine LWp.nil ?_
   cases h
   exact Wp.ret ⟨.inr rfl, _, _, rfl, rfl⟩
 refine Wp.skip ?_
 refine Wp.seq ?_
 refine Wp.seq (Wp.region ?_)
 refine LWp.o 5 (I 0) ?_
 refine LWp.nil ?_
 refine Wp.l2 h [0, 1, 5] [] (fun s => (w_eqShelfS_H1 xA xB s)) [] [] (fun _ => w_eqShelfS_H2) ⟨rfl, rfl⟩ ?_ ?_
 · rintro yI1 o (h : w_eqShelfS_b1 xA xB yI1 = some o) hk1
   unfold w_eqShelfS_b1 at h
   change Wp _ _ _ (w_eqShelfS_H1 xA xB yI1) _
   refine Wp.seq ?_
   refine Wp.seq (Wp.region ?_)
   refine LWp.o 11 (I yI1) ?_
   refine LWp.o 12 (.one (.sl false 113 2 (encs (c113 false) xA))) ?_
   refine LWp.o 13 (I (ln xA)) ?_ (st_pure (p_ln (k113 false) xA))
   refine LWp.o 14 (B (decide (yI1 < (ln xA)))) ?_
   refine LWp.nil ?_
   refine Wp.c h (fun h => ?_) (fun h => ?_)
   · refine Wp.skip ?_
     refine Wp.seq ?_
     refine Wp.block ?_
     refine Wp.seq ?_
     refine Wp.regionT 8 mixed (by decide +kernel) ?_
     refine SWp.o 17 (.one (.sl false 113 2 (encs (c113 false) xA))) ?_
     refine SWp.o 18 (I yI1) ?_
     refine SWp.p h 19 (fun _ => (.one (.ptr (.slot 17) 1 [0] (Int.toNat yI1 * 2 + 0)))) ?_ (fun x1 gx1 => sl_pure (p_ix (k113 false) (.slot 17) [] 0 gx1))
     intro x1 gx1 h
     refine SWp.o 20 (.agg [.int .i64 x1.Vol, .sl false 9 1 (encs c9 x1.Texts)]) ?_ (sl_pure (p_le (k113 false) (.slot 17) [0] gx1))
     refine SWp.o 21 (.one (.sl false 113 2 (encs (c113 false) xB))) ?_
     refine SWp.o 22 (I yI1) ?_
     refine SWp.p h 23 (fun _ => (.one (.ptr (.slot 21) 1 [0] (Int.toNat yI1 * 2 + 0)))) ?_ (fun x2 gx2 => sl_pure (p_ix (k113 false) (.slot 21) [] 0 gx2))
     intro x2 gx2 h
     refine SWp.o 24 (.agg [.int .i64 x2.Vol, .sl false 9 1 (encs c9 x2.Texts)]) ?_ (sl_pure (p_le (k113 false) (.slot 21) [0] gx2))
     refine SWp.nil ?_
     refine LWp.cl h 25 (fun v1 => (B v1)) rfl (l := [.sv (.agg [.int .i64 x1.Vol, .sl false 9 1 (encs c9 x1.Texts)]), .sv (.agg [.int .i64 x2.Vol, .sl false 9 1 (encs c9 x2.Texts)])]) rfl (fun v hv => w_eqShelf_t x1 x2 v hv) (.inl rfl) ?_
     intro v1 gv1 h
     refine LWp.o 26 (B (!v1)) ?_
     refine LWp.nil ?_
     refine Wp.c h (fun h => ?_) (fun h => ?_)
     · refine Wp.seq (Wp.region ?_)
       refine LWp.o 4 (B false) ?_
       refine LWp.nil ?_
       cases h
       replace h : some _ = some _ := hk1 _ rfl
       cases h
       exact Wp.ret ⟨.inr rfl, _, _, rfl, rfl⟩
     refine Wp.skip ?_
     refine Wp.region ?_
     refine LWp.o 15 (I yI1) ?_
     refine LWp.o 16 (I (ad yI1 1)) ?_
     refine LWp.o 5 (I (ad yI1 1)) ?_
     refine LWp.nil ?_
     cases h
     exact ⟨_, rfl, rfl, rfl⟩
   refine Wp.exit ?_
   cases h
   exact ⟨_, rfl, rfl, rfl⟩
 intro v2 h E hE
 refine nt_wp hE ?_
 change Wp _ _ _ w_eqShelfS_H2 _
 refine Wp.seq (Wp.region ?_)
 refine LWp.o 4 (B true) ?_
 refine LWp.nil ?_
 cases h
 exact Wp.ret ⟨.inr rfl, _, _, rfl, rfl⟩
theorem w_eqLeaf_t (xA : Leaf) (xB : Leaf) (r : Bool) (h : w_eqLeaf xA xB = some r) : Gives Tryz.prog 204 [.sv (.agg [.int .i64 xA.Is, .str xA.Text]), .sv (.agg [.int .i64 xB.Is, .str xB.Text])] (B r) (List.replicate 2 .gone) := by
 unfold w_eqLeaf at h
 refine gives_of Tryz.func204 rfl ?_
 rw [Tryz.ntmps204]
 refine Wp.seq (Wp.region ?_)
 refine LWp.b [] 2 [.int .i64 xA.Is, .str xA.Text] ?_
 refine LWp.b [] 3 [.int .i64 xB.Is, .str xB.Text] ?_
 refine LWp.o 4 (B false) ?_
 refine LWp.nil ?_
 refine Wp.seq ?_
 refine Wp.seq (Wp.region ?_)
 refine LWp.o 5 (.one (.ptr (.box 2) 1 [] 0)) ?_
 refine LWp.o 6 (I xA.Is) ?_
 refine LWp.o 7 (.one (.ptr (.box 3) 1 [] 0)) ?_
 refine LWp.o 8 (I xB.Is) ?_
 refine LWp.o 9 (B (xA.Is != xB.Is)) ?_
 refine LWp.nil ?_
 refine Wp.c h (fun h => ?_) (fun h => ?_)
 · refine Wp.seq (Wp.region ?_)
   refine LWp.o 4 (B false) ?_
   refine LWp.nil ?_
   cases h
   exact Wp.ret ⟨.inr rfl, _, _, rfl, rfl⟩
 refine Wp.skip ?_
 refine Wp.seq ?_
 refine Wp.seq (Wp.region ?_)
 refine LWp.o 10 (.one (.ptr (.box 2) 1 [] 1)) ?_
 refine LWp.o 11 (Y xA.Text) ?_
 refine LWp.o 12 (.one (.ptr (.box 3) 1 [] 1)) ?_
 refine LWp.o 13 (Y xB.Text) ?_
 refine LWp.o 14 (B (!(seq xA.Text xB.Text))) ?_
 refine LWp.nil ?_
 refine Wp.c h (fun h => ?_) (fun h => ?_)
 · refine Wp.seq (Wp.region ?_)
   refine LWp.o 4 (B false) ?_
   refine LWp.nil ?_
   cases h
   exact Wp.ret ⟨.inr rfl, _, _, rfl, rfl⟩
 refine Wp.skip ?_
 refine Wp.seq (Wp.region ?_)
 refine LWp.o 4 (B true) ?_
 refine LWp.nil ?_
 cases h
 exact Wp.ret ⟨.inr rfl, _, _, rfl, rfl⟩
def w_eqLeafS_H1 (xA : List Leaf) (xB : List Leaf) (z1 : Int) : St := mkSt [(0, (.one (.sl false 165 2 (encs c165 xA)))), (1, (.one (.sl false 165 2 (encs c165 xB)))), (5, (I z1))] []
def w_eqLeafS_H2  : St := mkSt [] []
theorem w_eqLeafS_t (xA : List Leaf) (xB : List Leaf) (r : Bool) (h : w_eqLeafS xA xB = some r) : Gives Tryz.prog 177 [.sv (.one (.sl false 165 2 (encs c165 xA))), .sv (.one (.sl false 165 2 (encs c165 xB)))] (B r) (List.replicate 2 .gone) := by
 unfold w_eqLeafS at h
 refine gives_of Tryz.func177 rfl ?_
 rw [Tryz.ntmps177]
 refine Wp.seq (Wp.region ?_)
 refine LWp.o 4 (B false) ?_
 refine LWp.nil ?_
 refine Wp.seq ?_
 refine Wp.seq (Wp.region ?_)
 refine LWp.o 6 (.one (.sl false 165 2 (encs c165 xA))) ?_
 refine LWp.o 7 (I (ln xA)) ?_ (st_pure (p_ln k165 xA))
 refine LWp.o 8 (.one (.sl false 165 2 (encs c165 xB))) ?_
 refine LWp.o 9 (I (ln xB)) ?_ (st_pure (p_ln k165 xB))
 refine LWp.o 10 (B ((ln xA) != (ln xB))) ?_
 refine LWp.nil ?_
 refine Wp.c h (fun h => ?_) (fun h => ?_)
 · refine Wp.seq (Wp.region ?_)
   refine LWp.o 4 (B false) ?_
   refine LWp.nil ?_
   cases h
   exact Wp.ret ⟨.inr rfl, _, _, rfl, rfl⟩
 refine Wp.skip ?_
 refine Wp.seq ?_
 refine Wp.seq (Wp.region ?_)
 refine LWp.o 5 (I 0) ?_
 refine LWp.nil ?_
 refine Wp.l2 h [0, 1, 5] [] (fun s => (w_eqLeafS_H1 xA xB s)) [] [] (fun _ => w_eqLeafS_H2) ⟨rfl, rfl⟩ ?_ ?_
 · rintro yI1 o (h : w_eqLeafS_b1 xA xB yI1 = some o) hk1
   unfold w_eqLeafS_b1 at h
   change Wp _ _ _ (w_eqLeafS_H1 xA xB yI1) _
   refine Wp.seq ?_
   refine Wp.seq (Wp.region ?_)
   refine LWp.o 11 (I yI1) ?_
   refine LWp.o 12 (.one (.sl false 165 2 (encs c165 xA))) ?_
   refine LWp.o 13 (I (ln xA)) ?_ (st_pure (p_ln k165 xA))
   refine LWp.o 14 (B (decide (yI1 < (ln xA)))) ?_
   refine LWp.nil ?_
   refine Wp.c h (fun h => ?_) (fun h => ?_)
   · refine Wp.skip ?_
     refine Wp.seq ?_
     refine Wp.block ?_
     refine Wp.seq ?_
     refine Wp.regionT 8 mixed (by decide +kernel) ?_
     refine SWp.o 17 (.one (.sl false 165 2 (encs c165 xA))) ?_
     refine SWp.o 18 (I yI1) ?_
     refine SWp.p h 19 (fun _ => (.one (.ptr (.slot 17) 1 [0] (Int.toNat yI1 * 2 + 0)))) ?_ (fun x1 gx1 => sl_pure (p_ix k165 (.slot 17) [] 0 gx1))
     intro x1 gx1 h
     refine SWp.o 20 (.agg [.int .i64 x1.Is, .str x1.Text]) ?_ (sl_pure (p_le k165 (.slot 17) [0] gx1))
     refine SWp.o 21 (.one (.sl false 165 2 (encs c165 xB))) ?_
     refine SWp.o 22 (I yI1) ?_
     refine SWp.p h 23 (fun _ => (.one (.ptr (.slot 21) 1 [0] (Int.toNat yI1 * 2 + 0)))) ?_ (fun x2 gx2 => sl_pure (p_ix k165 (.slot 21) [] 0 gx2))
     intro x2 gx2 h
     refine SWp.o 24 (.agg [.int .i64 x2.Is, .str x2.Text]) ?_ (sl_pure (p_le k165 (.slot 21) [0] gx2))
     refine SWp.nil ?_
     refine LWp.cl h 25 (fun v1 => (B v1)) rfl (l := [.sv (.agg [.int .i64 x1.Is, .str x1.Text]), .sv (.agg [.int .i64 x2.Is, .str x2.Text])]) rfl (fun v hv => w_eqLeaf_t x1 x2 v hv) (.inl rfl) ?_
     intro v1 gv1 h
     refine LWp.o 26 (B (!v1)) ?_
     refine LWp.nil ?_
     refine Wp.c h (fun h => ?_) (fun h => ?_)
     · refine Wp.seq (Wp.region ?_)
       refine LWp.o 4 (B false) ?_
       refine LWp.nil ?_
       cases h
       replace h : some _ = some _ := hk1 _ rfl
       cases h
       exact Wp.ret ⟨.inr rfl, _, _, rfl, rfl⟩
     refine Wp.skip ?_
     refine Wp.region ?_
     refine LWp.o 15 (I yI1) ?_
     refine LWp.o 16 (I (ad yI1 1)) ?_
     refine LWp.o 5 (I (ad yI1 1)) ?_
     refine LWp.nil ?_
     cases h
     exact ⟨_, rfl, rfl, rfl⟩
   refine Wp.exit ?_
   cases h
   exact ⟨_, rfl, rfl, rfl⟩
 intro v2 h E hE
 refine nt_wp hE ?_
 change Wp _ _ _ w_eqLeafS_H2 _
 refine Wp.seq (Wp.region ?_)
 refine LWp.o 4 (B true) ?_
 refine LWp.nil ?_
 cases h
 exact Wp.ret ⟨.inr rfl, _, _, rfl, rfl⟩
theorem w_eqBlock_t (xA : Block) (xB : Block) (r : Bool) (h : w_eqBlock xA xB = some r) : Gives Tryz.prog 145 [.sv (.agg [.bool xA.Bad, .int .i64 xA.Wear, .sl false 165 2 (encs c165 xA.Leaves)]), .sv (.agg [.bool xB.Bad, .int .i64 xB.Wear, .sl false 165 2 (encs c165 xB.Leaves)])] (B r) (List.replicate 2 .gone) := by
 unfold w_eqBlock at h
 refine gives_of Tryz.func145 rfl ?_
 rw [Tryz.ntmps145]
 refine Wp.seq (Wp.region ?_)
 refine LWp.b [] 2 [.bool xA.Bad, .int .i64 xA.Wear, .sl false 165 2 (encs c165 xA.Leaves)] ?_
 refine LWp.b [] 3 [.bool xB.Bad, .int .i64 xB.Wear, .sl false 165 2 (encs c165 xB.Leaves)] ?_
 refine LWp.o 4 (B false) ?_
 refine LWp.nil ?_
 refine Wp.seq ?_
 refine Wp.seq (Wp.region ?_)
 refine LWp.o 5 (.one (.ptr (.box 2) 1 [] 0)) ?_
 refine LWp.o 6 (B xA.Bad) ?_
 refine LWp.o 7 (.one (.ptr (.box 3) 1 [] 0)) ?_
 refine LWp.o 8 (B xB.Bad) ?_
 refine LWp.o 9 (B (!(xA.Bad == xB.Bad))) ?_
 refine LWp.nil ?_
 refine Wp.c h (fun h => ?_) (fun h => ?_)
 · refine Wp.seq (Wp.region ?_)
   refine LWp.o 4 (B false) ?_
   refine LWp.nil ?_
   cases h
   exact Wp.ret ⟨.inr rfl, _, _, rfl, rfl⟩
 refine Wp.skip ?_
 refine Wp.seq ?_
 refine Wp.seq (Wp.region ?_)
 refine LWp.o 10 (.one (.ptr (.box 2) 1 [] 1)) ?_
 refine LWp.o 11 (I xA.Wear) ?_
 refine LWp.o 12 (.one (.ptr (.box 3) 1 [] 1)) ?_
 refine LWp.o 13 (I xB.Wear) ?_
 refine LWp.o 14 (B (xA.Wear != xB.Wear)) ?_
 refine LWp.nil ?_
 refine Wp.c h (fun h => ?_) (fun h => ?_)
 · refine Wp.seq (Wp.region ?_)
   refine LWp.o 4 (B false) ?_
   refine LWp.nil ?_
   cases h
   exact Wp.ret ⟨.inr rfl, _, _, rfl, rfl⟩
 refine Wp.skip ?_
 refine Wp.seq ?_
 refine Wp.seq (Wp.region ?_)
 refine LWp.o 15 (.one (.ptr (.box 2) 1 [] 2)) ?_
 refine LWp.o 16 (.one (.sl false 165 2 (encs c165 xA.Leaves))) ?_
 refine LWp.o 17 (.one (.ptr (.box 3) 1 [] 2)) ?_
 refine LWp.o 18 (.one (.sl false 165 2 (encs c165 xB.Leaves))) ?_
 refine LWp.cl h 19 (fun v1 => (B v1)) rfl (l := [.sv (.one (.sl false 165 2 (encs c165 xA.Leaves))), .sv (.one (.sl false 165 2 (encs c165 xB.Leaves)))]) rfl (fun v hv => w_eqLeafS_t xA.Leaves xB.Leaves v hv) (.inl rfl) ?_
 intro v1 gv1 h
 refine LWp.o 20 (B (!v1)) ?_
 refine LWp.nil ?_
 refine Wp.c h (fun h => ?_) (fun h => ?_)
 · refine Wp.seq (Wp.region ?_)
   refine LWp.o 4 (B false) ?_
   refine LWp.nil ?_
   cases h
   exact Wp.ret ⟨.inr rfl, _, _, rfl, rfl⟩
 refine Wp.skip ?_
 refine Wp.seq (Wp.region ?_)
 refine LWp.o 4 (B true) ?_
 refine LWp.nil ?_
 cases h
 exact Wp.ret ⟨.inr rfl, _, _, rfl, rfl⟩
def w_eqBlockS_H1 (xA : List Block) (xB : List Block) (z1 : Int) : St := mkSt [(0, (.one (.sl false 124 3 (encs (c124 false) xA)))), (1, (.one (.sl false 124 3 (encs (c124 false) xB)))), (5, (I z1))] []
def w_eqBlockS_H2  : St := mkSt [] []
theorem w_eqBlockS_t (xA : List Block) (xB : List Block) (r : Bool) (h : w_eqBlockS xA xB = some r) : Gives Tryz.prog 93 [.sv (.one (.sl false 124 3 (encs (c124 false) xA))), .sv (.one (.sl false 124 3 (encs (c124 false) xB)))] (B r) (List.replicate 2 .gone) := by
 unfold w_eqBlockS at h
 refine gives_of Tryz.func93 rfl ?_
 rw [Tryz.ntmps93]
 refine Wp.seq (Wp.region ?_)
 refine LWp.o 4 (B false) ?_
 refine LWp.nil ?_
 refine Wp.seq ?_
 refine Wp.seq (Wp.region ?_)
 refine LWp.o 6 (.one (.sl false 124 3 (encs (c124 false) xA))) ?_
 refine LWp.o 7 (I (ln xA)) ?_ (st_pure (p_ln (k124 false) xA))
 refine LWp.o 8 (.one (.sl false 124 3 (encs (c124 false) xB))) ?_
 refine LWp.o 9 (I (ln xB)) ?_ (st_pure (p_ln (k124 false) xB))
 refine LWp.o 10 (B ((ln xA) != (ln xB))) ?_
 refine LWp.nil ?_
 refine Wp.c h (fun h => ?_) (fun h => ?_)
 · refine Wp.seq (Wp.region ?_)
   refine LWp.o 4 (B false) ?_
   refine LWp.nil ?_
   cases h
   exact Wp.ret ⟨.inr rfl, _, _, rfl, rfl⟩
 refine Wp.skip ?_
 refine Wp.seq ?_
 refine Wp.seq (Wp.region ?_)
 refine LWp.o 5 (I 0) ?_
 refine LWp.nil ?_
 refine Wp.l2 h [0, 1, 5] [] (fun s => (w_eqBlockS_H1 xA xB s)) [] [] (fun _ => w_eqBlockS_H2) ⟨rfl, rfl⟩ ?_ ?_
 · rintro yI1 o (h : w_eqBlockS_b1 xA xB yI1 = some o) hk1
   unfold w_eqBlockS_b1 at h
   change Wp _ _ _ (w_eqBlockS_H1 xA xB yI1) _
   refine Wp.seq ?_
   refine Wp.seq (Wp.region ?_)
   refine LWp.o 11 (I yI1) ?_
   refine LWp.o 12 (.one (.sl false 124 3 (encs (c124 false) xA))) ?_
   refine LWp.o 13 (I (ln xA)) ?_ (st_pure (p_ln (k124 false) xA))
   refine LWp.o 14 (B (decide (yI1 < (ln xA)))) ?_
   refine LWp.nil ?_
   refine Wp.c h (fun h => ?_) (fun h => ?_)
   · refine Wp.skip ?_
     refine Wp.seq ?_
     refine Wp.block ?_
     refine Wp.seq ?_
     refine Wp.regionT 8 mixed (by decide +kernel) ?_
     refine SWp.o 17 (.one (.sl false 124 3 (encs (c124 false) xA))) ?_
     refine SWp.o 18 (I yI1) ?_
     refine SWp.p h 19 (fun _ => (.one (.ptr (.slot 17) 1 [0] (Int.toNat yI1 * 3 + 0)))) ?_ (fun x1 gx1 => sl_pure (p_ix (k124 false) (.slot 17) [] 0 gx1))
     intro x1 gx1 h
     refine SWp.o 20 (.agg [.bool x1.Bad, .int .i64 x1.Wear, .sl false 165 2 (encs c165 x1.Leaves)]) ?_ (sl_pure (p_le (k124 false) (.slot 17) [0] gx1))
     refine SWp.o 21 (.one (.sl false 124 3 (encs (c124 false) xB))) ?_
     refine SWp.o 22 (I yI1) ?_
     refine SWp.p h 23 (fun _ => (.one (.ptr (.slot 21) 1 [0] (Int.toNat yI1 * 3 + 0)))) ?_ (fun x2 gx2 => sl_pure (p_ix (k124 false) (.slot 21) [] 0 gx2))
     intro x2 gx2 h
     refine SWp.o 24 (.agg [.bool x2.Bad, .int .i64 x2.Wear, .sl false 165 2 (encs c165 x2.Leaves)]) ?_ (sl_pure (p_le (k124 false) (.slot 21) [0] gx2))
     refine SWp.nil ?_
     refine LWp.cl h 25 (fun v1 => (B v1)) rfl (l := [.sv (.agg [.bool x1.Bad, .int .i64 x1.Wear, .sl false 165 2 (encs c165 x1.Leaves)]), .sv (.agg [.bool x2.Bad, .int .i64 x2.Wear, .sl false 165 2 (encs c165 x2.Leaves)])]) rfl (fun v hv => w_eqBlock_t x1 x2 v hv) (.inl rfl) ?_
     intro v1 gv1 h
     refine LWp.o 26 (B (!v1)) ?_
     refine LWp.nil ?_
     refine Wp.c h (fun h => ?_) (fun h => ?_)
     · refine Wp.seq (Wp.region ?_)
       refine LWp.o 4 (B false) ?_
       refine LWp.nil ?_
       cases h
       replace h : some _ = some _ := hk1 _ rfl
       cases h
       exact Wp.ret ⟨.inr rfl, _, _, rfl, rfl⟩
     refine Wp.skip ?_
     refine Wp.region ?_
     refine LWp.o 15 (I yI1) ?_
     refine LWp.o 16 (I (ad yI1 1)) ?_
     refine LWp.o 5 (I (ad yI1 1)) ?_
     refine LWp.nil ?_
     cases h
     exact ⟨_, rfl, rfl, rfl⟩
   refine Wp.exit ?_
   cases h
   exact ⟨_, rfl, rfl, rfl⟩
 intro v2 h E hE
 refine nt_wp hE ?_
 change Wp _ _ _ w_eqBlockS_H2 _
 refine Wp.seq (Wp.region ?_)
 refine LWp.o 4 (B true) ?_
 refine LWp.nil ?_
 cases h
 exact Wp.ret ⟨.inr rfl, _, _, rfl, rfl⟩
theorem w_eqFlash_t (xA : Flash) (xB : Flash) (r : Bool) (h : w_eqFlash xA xB = some r) : Gives Tryz.prog 48 [.sv (.agg [.sl false 124 3 (encs (c124 false) xA.Blocks)]), .sv (.agg [.sl false 124 3 (encs (c124 false) xB.Blocks)])] (B r) (List.replicate 2 .gone) := by
 unfold w_eqFlash at h
 refine gives_of Tryz.func48 rfl ?_
 rw [Tryz.ntmps48]
 refine Wp.seq (Wp.region ?_)
 refine LWp.b [] 2 [.sl false 124 3 (encs (c124 false) xA.Blocks)] ?_
 refine LWp.b [] 3 [.sl false 124 3 (encs (c124 false) xB.Blocks)] ?_
 refine LWp.o 4 (B false) ?_
 refine LWp.nil ?_
 refine Wp.seq ?_
 refine Wp.seq (Wp.region ?_)
 refine LWp.o 5 (.one (.ptr (.box 2) 1 [] 0)) ?_
 refine LWp.o 6 (.one (.sl false 124 3 (encs (c124 false) xA.Blocks))) ?_
 refine LWp.o 7 (.one (.ptr (.box 3) 1 [] 0)) ?_
 refine LWp.o 8 (.one (.sl false 124 3 (encs (c124 false) xB.Blocks))) ?_
 refine LWp.cl h 9 (fun v1 => (B v1)) rfl (l := [.sv (.one (.sl false 124 3 (encs (c124 false) xA.Blocks))), .sv (.one (.sl false 124 3 (encs (c124 false) xB.Blocks)))]) rfl (fun v hv => w_eqBlockS_t xA.Blocks xB.Blocks v hv) (.inl rfl) ?_
 intro v1 gv1 h
 refine LWp.o 10 (B (!v1)) ?_
 refine LWp.nil ?_
 refine Wp.c h (fun h => ?_) (fun h => ?_)
 · refine Wp.seq (Wp.region ?_)
   refine LWp.o 4 (B false) ?_
   refine LWp.nil ?_
   cases h
   exact Wp.ret ⟨.inr rfl, _, _, rfl, rfl⟩
 refine Wp.skip ?_
 refine Wp.seq (Wp.region ?_)
 refine LWp.o 4 (B true) ?_
 refine LWp.nil ?_
 cases h
 exact Wp.ret ⟨.inr rfl, _, _, rfl, rfl⟩
theorem w_eqVol_t (xA : Vol) (xB : Vol) (r : Bool) (h : w_eqVol xA xB = some r) : Gives Tryz.prog 146 [.sv (.agg [.int .i64 xA.Id, .int .i64 xA.Root]), .sv (.agg [.int .i64 xB.Id, .int .i64 xB.Root])] (B r) (List.replicate 2 .gone) := by
 unfold w_eqVol at h
 refine gives_of Tryz.func146 rfl ?_
 rw [Tryz.ntmps146]
 refine Wp.seq (Wp.region ?_)
 refine LWp.b [] 2 [.int .i64 xA.Id, .int .i64 xA.Root] ?_
 refine LWp.b [] 3 [.int .i64 xB.Id, .int .i64 xB.Root] ?_
 refine LWp.o 4 (B false) ?_
 refine LWp.nil ?_
 refine Wp.seq ?_
 refine Wp.seq (Wp.region ?_)
 refine LWp.o 5 (.one (.ptr (.box 2) 1 [] 0)) ?_
 refine LWp.o 6 (I xA.Id) ?_
 refine LWp.o 7 (.one (.ptr (.box 3) 1 [] 0)) ?_
 refine LWp.o 8 (I xB.Id) ?_
 refine LWp.o 9 (B (xA.Id != xB.Id)) ?_
 refine LWp.nil ?_
 refine Wp.c h (fun h => ?_) (fun h => ?_)
 · refine Wp.seq (Wp.region ?_)
   refine LWp.o 4 (B false) ?_
   refine LWp.nil ?_
   cases h
   exact Wp.ret ⟨.inr rfl, _, _, rfl, rfl⟩
 refine Wp.skip ?_
 refine Wp.seq ?_
 refine Wp.seq (Wp.region ?_)
 refine LWp.o 10 (.one (.ptr (.box 2) 1 [] 1)) ?_
 refine LWp.o 11 (I xA.Root) ?_
 refine LWp.o 12 (.one (.ptr (.box 3) 1 [] 1)) ?_
 refine LWp.o 13 (I xB.Root) ?_
 refine LWp.o 14 (B (xA.Root != xB.Root)) ?_
 refine LWp.nil ?_
 refine Wp.c h (fun h => ?_) (fun h => ?_)
 · refine Wp.seq (Wp.region ?_)
   refine LWp.o 4 (B false) ?_
   refine LWp.nil ?_
   cases h
   exact Wp.ret ⟨.inr rfl, _, _, rfl, rfl⟩
 refine Wp.skip ?_
 refine Wp.seq (Wp.region ?_)
 refine LWp.o 4 (B true) ?_
 refine LWp.nil ?_
 cases h
 exact Wp.ret ⟨.inr rfl, _, _, rfl, rfl⟩
def w_eqVolS_H1 (xA : List Vol) (xB : List Vol) (z1 : Int) : St := mkSt [(0, (.one (.sl false 110 2 (encs c110 xA)))), (1, (.one (.sl false 110 2 (encs c110 xB)))), (5, (I z1))] []
def w_eqVolS_H2  : St := mkSt [] []
theorem w_eqVolS_t (xA : List Vol) (xB : List Vol) (r : Bool) (h : w_eqVolS xA xB = some r) : Gives Tryz.prog 94 [.sv (.one (.sl false 110 2 (encs c110 xA))), .sv (.one (.sl false 110 2 (encs c110 xB)))] (B r) (List.replicate 2 .gone) := by
 unfold w_eqVolS at h
 refine gives_of Tryz.func94 rfl ?_
 rw [Tryz.ntmps94]
 refine Wp.seq (Wp.region ?_)
 refine LWp.o 4 (B false) ?_
 refine LWp.nil ?_
 refine Wp.seq ?_
 refine Wp.seq (Wp.region ?_)
 refine LWp.o 6 (.one (.sl false 110 2 (encs c110 xA))) ?_
 refine LWp.o 7 (I (ln xA)) ?_ (st_pure (p_ln k110 xA))
 refine LWp.o 8 (.one (.sl false 110 2 (encs c110 xB))) ?_
 refine LWp.o 9 (I (ln xB)) ?_ (st_pure (p_ln k110 xB))
 refine LWp.o 10 (B ((ln xA) != (ln xB))) ?_
 refine LWp.nil ?_
 refine Wp.c h (fun h => ?_) (fun h => ?_)
 · refine Wp.seq (Wp.region ?_)
   refine LWp.o 4 (B false) ?_
   refine LWp.nil ?_
   cases h
   exact Wp.ret ⟨.inr rfl, _, _, rfl, rfl⟩
 refine Wp.skip ?_
 refine Wp.seq ?_
 refine Wp.seq (Wp.region ?_)
 refine LWp.o 5 (I 0) ?_
 refine LWp.nil ?_
 refine Wp.l2 h [0, 1, 5] [] (fun s => (w_eqVolS_H1 xA xB s)) [] [] (fun _ => w_eqVolS_H2) ⟨rfl, rfl⟩ ?_ ?_
 · rintro yI1 o (h : w_eqVolS_b1 xA xB yI1 = some o) hk1
   unfold w_eqVolS_b1 at h
   change Wp _ _ _ (w_eqVolS_H1 xA xB yI1) _
   refine Wp.seq ?_
   refine Wp.seq (Wp.region ?_)
   refine LWp.o 11 (I yI1) ?_
   refine LWp.o 12 (.one (.sl false 110 2 (encs c110 xA))) ?_
   refine LWp.o 13 (I (ln xA)) ?_ (st_pure (p_ln k110 xA))
   refine LWp.o 14 (B (decide (yI1 < (ln xA)))) ?_
   refine LWp.nil ?_
   refine Wp.c h (fun h => ?_) (fun h => ?_)
   · refine Wp.skip ?_
     refine Wp.seq ?_
     refine Wp.block ?_
     refine Wp.seq ?_
     refine Wp.regionT 8 mixed (by decide +kernel) ?_
     refine SWp.o 17 (.one (.sl false 110 2 (encs c110 xA))) ?_
     refine SWp.o 18 (I yI1) ?_
     refine SWp.p h 19 (fun _ => (.one (.ptr (.slot 17) 1 [0] (Int.toNat yI1 * 2 + 0)))) ?_ (fun x1 gx1 => sl_pure (p_ix k110 (.slot 17) [] 0 gx1))
     intro x1 gx1 h
     refine SWp.o 20 (.agg [.int .i64 x1.Id, .int .i64 x1.Root]) ?_ (sl_pure (p_le k110 (.slot 17) [0] gx1))
     refine SWp.o 21 (.one (.sl false 110 2 (encs c110 xB))) ?_
     refine SWp.o 22 (I yI1) ?_
     refine SWp.p h 23 (fun _ => (.one (.ptr (.slot 21) 1 [0] (Int.toNat yI1 * 2 + 0)))) ?_ (fun x2 gx2 => sl_pure (p_ix k110 (.slot 21) [] 0 gx2))
     intro x2 gx2 h
     refine SWp.o 24 (.agg [.int .i64 x2.Id, .int .i64 x2.Root]) ?_ (sl_pure (p_le k110 (.slot 21) [0] gx2))
     refine SWp.nil ?_
     refine LWp.cl h 25 (fun v1 => (B v1)) rfl (l := [.sv (.agg [.int .i64 x1.Id, .int .i64 x1.Root]), .sv (.agg [.int .i64 x2.Id, .int .i64 x2.Root])]) rfl (fun v hv => w_eqVol_t x1 x2 v hv) (.inl rfl) ?_
     intro v1 gv1 h
     refine LWp.o 26 (B (!v1)) ?_
     refine LWp.nil ?_
     refine Wp.c h (fun h => ?_) (fun h => ?_)
     · refine Wp.seq (Wp.region ?_)
       refine LWp.o 4 (B false) ?_
       refine LWp.nil ?_
       cases h
       replace h : some _ = some _ := hk1 _ rfl
       cases h
       exact Wp.ret ⟨.inr rfl, _, _, rfl, rfl⟩
     refine Wp.skip ?_
     refine Wp.region ?_
     refine LWp.o 15 (I yI1) ?_
     refine LWp.o 16 (I (ad yI1 1)) ?_
     refine LWp.o 5 (I (ad yI1 1)) ?_
     refine LWp.nil ?_
     cases h
     exact ⟨_, rfl, rfl, rfl⟩
   refine Wp.exit ?_
   cases h
   exact ⟨_, rfl, rfl, rfl⟩
 intro v2 h E hE
 refine nt_wp hE ?_
 change Wp _ _ _ w_eqVolS_H2 _
 refine Wp.seq (Wp.region ?_)
 refine LWp.o 4 (B true) ?_
 refine LWp.nil ?_
 cases h
 exact Wp.ret ⟨.inr rfl, _, _, rfl, rfl⟩
def w_eqIntS_H1 (xA : List Int) (xB : List Int) (z1 : Int) : St := mkSt [(0, (.one (.sl false 3 1 (encs c3 xA)))), (1, (.one (.sl false 3 1 (encs c3 xB)))), (5, (I z1))] []
def w_eqIntS_H2  : St := mkSt [] []
theorem w_eqIntS_t (xA : List Int) (xB : List Int) (r : Bool) (h : w_eqIntS xA xB = some r) : Gives Tryz.prog 30 [.sv (.one (.sl false 3 1 (encs c3 xA))), .sv (.one (.sl false 3 1 (encs c3 xB)))] (B r) (List.replicate 2 .gone) := by
 unfold w_eqIntS at h
 refine gives_of Tryz.func30 rfl ?_
 rw [Tryz.ntmps30]
 refine Wp.seq (Wp.region ?_)
 refine LWp.o 4 (B false) ?_
 refine LWp.nil ?_
 refine Wp.seq ?_
 refine Wp.seq (Wp.region ?_)
 refine LWp.o 6 (.one (.sl false 3 1 (encs c3 xA))) ?_
 refine LWp.o 7 (I (ln xA)) ?_ (st_pure (p_ln k3 xA))
 refine LWp.o 8 (.one (.sl false 3 1 (encs c3 xB))) ?_
 refine LWp.o 9 (I (ln xB)) ?_ (st_pure (p_ln k3 xB))
 refine LWp.o 10 (B ((ln xA) != (ln xB))) ?_
 refine LWp.nil ?_
 refine Wp.c h (fun h => ?_) (fun h => ?_)
 · refine Wp.seq (Wp.region ?_)
   refine LWp.o 4 (B false) ?_
   refine LWp.nil ?_
   cases h
   exact Wp.ret ⟨.inr rfl, _, _, rfl, rfl⟩
 refine Wp.skip ?_
 refine Wp.seq ?_
 refine Wp.seq (Wp.region ?_)
 refine LWp.o 5 (I 0) ?_
 refine LWp.nil ?_
 refine Wp.l2 h [0, 1, 5] [] (fun s => (w_eqIntS_H1 xA xB s)) [] [] (fun _ => w_eqIntS_H2) ⟨rfl, rfl⟩ ?_ ?_
 · rintro yI1 o (h : w_eqIntS_b1 xA xB yI1 = some o) hk1
   unfold w_eqIntS_b1 at h
   change Wp _ _ _ (w_eqIntS_H1 xA xB yI1) _
   refine Wp.seq ?_
   refine Wp.seq (Wp.region ?_)
   refine LWp.o 11 (I yI1) ?_
   refine LWp.o 12 (.one (.sl false 3 1 (encs c3 xA))) ?_
   refine LWp.o 13 (I (ln xA)) ?_ (st_pure (p_ln k3 xA))
   refine LWp.o 14 (B (decide (yI1 < (ln xA)))) ?_
   refine LWp.nil ?_
   refine Wp.c h (fun h => ?_) (fun h => ?_)
   · refine Wp.skip ?_
     refine Wp.seq ?_
     refine Wp.block ?_
     refine Wp.seq ?_
     refine Wp.regionS mixed (by decide +kernel) ?_
     refine SWp.o 17 (.one (.sl false 3 1 (encs c3 xA))) ?_
     refine SWp.o 18 (I yI1) ?_
     refine SWp.p h 19 (fun _ => (.one (.ptr (.slot 17) 1 [0] (Int.toNat yI1 * 1 + 0)))) ?_ (fun x1 gx1 => sl_pure (p_ix k3 (.slot 17) [] 0 gx1))
     intro x1 gx1 h
     refine SWp.o 20 (I x1) ?_ (sl_pure (p_lc k3 (.slot 17) [0] 0 (.int .i64 x1) gx1))
     refine SWp.o 21 (.one (.sl false 3 1 (encs c3 xB))) ?_
     refine SWp.o 22 (I yI1) ?_
     refine SWp.p h 23 (fun _ => (.one (.ptr (.slot 21) 1 [0] (Int.toNat yI1 * 1 + 0)))) ?_ (fun x2 gx2 => sl_pure (p_ix k3 (.slot 21) [] 0 gx2))
     intro x2 gx2 h
     refine SWp.o 24 (I x2) ?_ (sl_pure (p_lc k3 (.slot 21) [0] 0 (.int .i64 x2) gx2))
     refine SWp.o 25 (B (x1 != x2)) ?_
     refine SWp.nil ?_
     refine Wp.c h (fun h => ?_) (fun h => ?_)
     · refine Wp.seq (Wp.region ?_)
       refine LWp.o 4 (B false) ?_
       refine LWp.nil ?_
       cases h
       replace h : some _ = some _ := hk1 _ rfl
       cases h
       exact Wp.ret ⟨.inr rfl, _, _, rfl, rfl⟩
     refine Wp.skip ?_
     refine Wp.region ?_
     refine LWp.o 15 (I yI1) ?_
     refine LWp.o 16 (I (ad yI1 1)) ?_
     refine LWp.o 5 (I (ad yI1 1)) ?_
     refine LWp.nil ?_
     cases h
     exact ⟨_, rfl, rfl, rfl⟩
   refine Wp.exit ?_
   cases h
   exact ⟨_, rfl, rfl, rfl⟩
 intro v1 h E hE
 refine nt_wp hE ?_
 change Wp _ _ _ w_eqIntS_H2 _
 refine Wp.seq (Wp.region ?_)
 refine LWp.o 4 (B true) ?_
 refine LWp.nil ?_
 cases h
 exact Wp.ret ⟨.inr rfl, _, _, rfl, rfl⟩
end Go.TI
