/- That they compute it. No condition. -/
import Derived.Test.YtcjepealfaimfaaGreatWRW2
namespace Go.TI
set_option maxRecDepth 100000
open Go Go.Proofs
set_option linter.unusedVariables false
set_option linter.unusedSimpArgs false

def w_eqRecS_H1 (xA : List Rec) (xB : List Rec) (z1 : Int) : St := mkSt [(0, (.one (.sl false 83 4 (encs c83 xA)))), (1, (.one (.sl false 83 4 (encs c83 xB)))), (5, (I z1))] []
def w_eqRecS_H2  : St := mkSt [] []
theorem w_eqRecS_t (xA : List Rec) (xB : List Rec) (r : Bool) (h : w_eqRecS xA xB = some r) : Gives Tryz.prog 16 [.sv (.one (.sl false 83 4 (encs c83 xA))), .sv (.one (.sl false 83 4 (encs c83 xB)))] (B r) (List.replicate 2 .gone) := by
 unfold w_eqRecS at h
 refine gives_of Tryz.func16 rfl ?_
 rw [Tryz.ntmps16]
 refine Wp.seq (Wp.region ?_)
 refine LWp.o 4 (B false) ?_
 refine LWp.nil ?_
 refine Wp.seq ?_
 refine Wp.seq (Wp.region ?_)
 refine LWp.o 6 (.one (.sl false 83 4 (encs c83 xA))) ?_
 refine LWp.o 7 (I (ln xA)) ?_ (st_pure (p_ln k83 xA))
 refine LWp.o 8 (.one (.sl false 83 4 (encs c83 xB))) ?_
 refine LWp.o 9 (I (ln xB)) ?_ (st_pure (p_ln k83 xB))
 refine LWp.o 10 (B ((ln xA) != (ln xB))) ?_
 refine LWp.nil ?_
 refine Wp.c h (fun h => ?_) (fun h => ?_)
 · refine Wp.seq (Wp.region ?_)
   refine LWp.o 4 (B false) ?_
   refine LWp.nil ?_
   cases h
   exact Wp.ret ⟨.inr rfl, _, _, rfl, rfl⟩
 refine Wp.skip ?_
 refine Wp.seq ?_
 refine Wp.seq (Wp.region ?_)
 refine LWp.o 5 (I 0) ?_
 refine LWp.nil ?_
 refine Wp.l2 h [0, 1, 5] [] (fun s => (w_eqRecS_H1 xA xB s)) [] [] (fun _ => w_eqRecS_H2) ⟨rfl, rfl⟩ ?_ ?_
 · rintro yI1 o (h : w_eqRecS_b1 xA xB yI1 = some o) hk1
   unfold w_eqRecS_b1 at h
   change Wp _ _ _ (w_eqRecS_H1 xA xB yI1) _
   refine Wp.seq ?_
   refine Wp.seq (Wp.region ?_)
   refine LWp.o 11 (I yI1) ?_
   refine LWp.o 12 (.one (.sl false 83 4 (encs c83 xA))) ?_
   refine LWp.o 13 (I (ln xA)) ?_ (st_pure (p_ln k83 xA))
   refine LWp.o 14 (B (decide (yI1 < (ln xA)))) ?_
   refine LWp.nil ?_
   refine Wp.c h (fun h => ?_) (fun h => ?_)
   · refine Wp.skip ?_
     refine Wp.seq ?_
     refine Wp.block ?_
     refine Wp.seq ?_
     refine Wp.regionT 8 mixed (by decide +kernel) ?_
     refine SWp.o 17 (.one (.sl false 83 4 (encs c83 xA))) ?_
     refine SWp.o 18 (I yI1) ?_
     refine SWp.p h 19 (fun _ => (.one (.ptr (.slot 17) 1 [0] (Int.toNat yI1 * 4 + 0)))) ?_ (fun x1 gx1 => sl_pure (p_ix k83 (.slot 17) [] 0 gx1))
     intro x1 gx1 h
     refine SWp.o 20 (.agg [.int .i64 x1.Kind, .int .i64 x1.Vol, .int .i64 x1.Arg, .int .i64 x1.Chunk]) ?_ (sl_pure (p_le k83 (.slot 17) [0] gx1))
     refine SWp.o 21 (.one (.sl false 83 4 (encs c83 xB))) ?_
     refine SWp.o 22 (I yI1) ?_
     refine SWp.p h 23 (fun _ => (.one (.ptr (.slot 21) 1 [0] (Int.toNat yI1 * 4 + 0)))) ?_ (fun x2 gx2 => sl_pure (p_ix k83 (.slot 21) [] 0 gx2))
     intro x2 gx2 h
     refine SWp.o 24 (.agg [.int .i64 x2.Kind, .int .i64 x2.Vol, .int .i64 x2.Arg, .int .i64 x2.Chunk]) ?_ (sl_pure (p_le k83 (.slot 21) [0] gx2))
     refine SWp.nil ?_
     refine LWp.cl h 25 (fun v1 => (B v1)) rfl (l := [.sv (.agg [.int .i64 x1.Kind, .int .i64 x1.Vol, .int .i64 x1.Arg, .int .i64 x1.Chunk]), .sv (.agg [.int .i64 x2.Kind, .int .i64 x2.Vol, .int .i64 x2.Arg, .int .i64 x2.Chunk])]) rfl (fun v hv => w_eqRec_t x1 x2 v hv) (.inl rfl) ?_
     intro v1 gv1 h
     refine LWp.o 26 (B (!v1)) ?_
     refine LWp.nil ?_
     refine Wp.c h (fun h => ?_) (fun h => ?_)
     · refine Wp.seq (Wp.region ?_)
       refine LWp.o 4 (B false) ?_
       refine LWp.nil ?_
       cases h
       replace h : some _ = some _ := hk1 _ rfl
       cases h
       exact Wp.ret ⟨.inr rfl, _, _, rfl, rfl⟩
     refine Wp.skip ?_
     refine Wp.region ?_
     refine LWp.o 15 (I yI1) ?_
     refine LWp.o 16 (I (ad yI1 1)) ?_
     refine LWp.o 5 (I (ad yI1 1)) ?_
     refine LWp.nil ?_
     cases h
     exact ⟨_, rfl, rfl, rfl⟩
   refine Wp.exit ?_
   cases h
   exact ⟨_, rfl, rfl, rfl⟩
 intro v2 h E hE
 refine nt_wp hE ?_
 change Wp _ _ _ w_eqRecS_H2 _
 refine Wp.seq (Wp.region ?_)
 refine LWp.o 4 (B true) ?_
 refine LWp.nil ?_
 cases h
 exact Wp.ret ⟨.inr rfl, _, _, rfl, rfl⟩
def w_markText_H1 (z1 : Int) (z2 : ByteArray) : St := mkSt [(0, (I z1)), (3, (Y z2))] []
def w_markText_H2 (z3 : ByteArray) : St := mkSt [(3, (Y z3))] []
theorem w_markText_t (xK : Int) (r : ByteArray) (h : w_markText xK = some r) : Gives Tryz.prog 53 [.sv (I xK)] (Y r) (List.replicate 1 .gone) := by
 unfold w_markText at h
 refine gives_of Tryz.func53 rfl ?_
 rw [Tryz.ntmps53]
 refine Wp.seq (Wp.region ?_)
 refine LWp.o 2 (Y (bs [])) ?_
 refine LWp.nil ?_
 refine Wp.seq ?_
 refine Wp.seq (Wp.region ?_)
 refine LWp.o 4 (I xK) ?_
 refine LWp.o 5 (B (decide (xK ≤ 0))) ?_
 refine LWp.nil ?_
 refine Wp.c h (fun h => ?_) (fun h => ?_)
 · refine Wp.seq (Wp.region ?_)
   refine LWp.o 2 (Y (bs [109, 48])) ?_
   refine LWp.nil ?_
   cases h
   exact Wp.ret ⟨.inr rfl, _, _, rfl, rfl⟩
 refine Wp.skip ?_
 refine Wp.seq (Wp.region ?_)
 refine LWp.o 3 (Y (bs [])) ?_
 refine LWp.nil ?_
 refine Wp.seq ?_
 refine Wp.l1 h [0, 3] [] (fun s => (w_markText_H1 s.1 s.2)) [3] [] (fun s => (w_markText_H2 s)) ⟨rfl, rfl⟩ ?_ ?_
 · rintro ⟨yK1, yOut1⟩ o (h : w_markText_b1 yK1 yOut1 = some o)
   unfold w_markText_b1 at h
   change Wp _ _ _ (w_markText_H1 yK1 yOut1) _
   refine Wp.seq ?_
   refine Wp.seq (Wp.region ?_)
   refine LWp.o 6 (I yK1) ?_
   refine LWp.o 7 (B (decide (yK1 > 0))) ?_
   refine LWp.nil ?_
   refine Wp.c h (fun h => ?_) (fun h => ?_)
   · refine Wp.skip ?_
     refine Wp.block ?_
     refine Wp.seq (Wp.region ?_)
     refine LWp.o 8 (I yK1) ?_
     refine LWp.o 9 (I (Int.tmod yK1 10)) ?_
     refine LWp.o 10 (I (ad 48 (Int.tmod yK1 10))) ?_
     refine LWp.o 11 (.one (.int .u8 (IntKind.u8.wrap (ad 48 (Int.tmod yK1 10))))) ?_
     refine LWp.m false [] 12 (.one (.sl true 5 1 (encs c5 [(IntKind.u8.wrap (ad 48 (Int.tmod yK1 10)))]))) ?_
     refine LWp.o 13 (Y (strB [(IntKind.u8.wrap (ad 48 (Int.tmod yK1 10)))])) ?_ (st_pure (p_cv (fun _ => rfl) [(IntKind.u8.wrap (ad 48 (Int.tmod yK1 10)))]))
     refine LWp.o 14 (Y yOut1) ?_
     refine LWp.p h 15 (fun x1 => (Y x1)) ?_ (fun x1 gx1 => st_pure (p_cat gx1))
     intro x1 gx1 h
     refine LWp.o 3 (Y x1) ?_
     refine LWp.nil ?_
     refine Wp.region ?_
     refine LWp.o 16 (I yK1) ?_
     refine LWp.o 17 (I (qu yK1 10)) ?_
     refine LWp.o 0 (I (qu yK1 10)) ?_
     refine LWp.nil ?_
     cases h
     exact ⟨_, rfl, rfl, rfl⟩
   refine Wp.exit ?_
   cases h
   exact ⟨_, rfl, rfl, rfl⟩
 intro v1 h E hE
 refine nt_wp hE ?_
 change Wp _ _ _ (w_markText_H2 v1) _
 refine Wp.seq (Wp.region ?_)
 refine LWp.o 18 (Y v1) ?_
 refine LWp.p h 19 (fun x2 => (Y x2)) ?_ (fun x2 gx2 => st_pure (p_cat gx2))
 intro x2 gx2 h
 refine LWp.o 2 (Y x2) ?_
 refine LWp.nil ?_
 cases h
 exact Wp.ret ⟨.inr rfl, _, _, rfl, rfl⟩
def w_markLeafS_H1 (z1 : List Leaf) (z2 : Int) (z3 : Int) : St := mkStF [(0, (.one (.sl true 165 2 (encs c165 z1)))), (1, (I z2)), (5, (I z3))] []
def w_markLeafS_H2 (z4 : List Leaf) (z5 : Int) : St := mkStF [(0, (.one (.sl true 165 2 (encs c165 z4)))), (1, (I z5))] []
theorem w_markLeafS_t (xA : List Leaf) (xK : Int) (r : Int × List Leaf) (h : w_markLeafS xA xK = some r) : Gives Tryz.prog 148 [.sv (.one (.sl true 165 2 (encs c165 xA))), .sv (I xK)] (I r.1) (.sv (.one (.sl true 165 2 (encs c165 r.2))) :: List.replicate 1 .gone) := by
 unfold w_markLeafS at h
 refine gives_lent Tryz.func148 rfl ?_
 rw [Tryz.ntmps148]
 refine Wp.seq (Wp.region ?_)
 refine LWp.o 4 (I 0) ?_
 refine LWp.nil ?_
 refine Wp.seq ?_
 refine Wp.seq (Wp.region ?_)
 refine LWp.o 5 (I 0) ?_
 refine LWp.nil ?_
 refine Wp.l1 h [0, 1, 5] [] (fun s => (w_markLeafS_H1 s.1 s.2.1 s.2.2)) [0, 1] [] (fun s => (w_markLeafS_H2 s.1 s.2)) ⟨rfl, rfl⟩ ?_ ?_
 · rintro ⟨yA1, yK1, yI1⟩ o (h : w_markLeafS_b1 yA1 yK1 yI1 = some o)
   unfold w_markLeafS_b1 at h
   change Wp _ _ _ (w_markLeafS_H1 yA1 yK1 yI1) _
   refine Wp.seq ?_
   refine Wp.seq (Wp.region ?_)
   refine LWp.o 6 (I yI1) ?_
   refine LWp.o 7 (.one (.view (.slot 0) 0 [] 0)) ?_
   refine LWp.o 8 (I (ln yA1)) ?_ (st_pure (p_ln k165 yA1))
   refine LWp.o 9 (B (decide (yI1 < (ln yA1)))) ?_
   refine LWp.nil ?_
   refine Wp.c h (fun h => ?_) (fun h => ?_)
   · refine Wp.skip ?_
     refine Wp.seq ?_
     refine Wp.block ?_
     refine Wp.seq (Wp.region ?_)
     refine LWp.o 12 (.one (.view (.slot 0) 0 [] 0)) ?_
     refine LWp.o 13 (I yI1) ?_
     refine LWp.o 14 (I yK1) ?_
     refine LWp.p h 15 (fun _ => (.one (.ptr (.slot 0) 0 [0] (Int.toNat yI1 * 2 + 0)))) ?_ (fun x1 gx1 => st_pure (p_ix k165 (.slot 0) [] 0 gx1))
     intro x1 gx1 h
     refine LWp.o 16 (.one (.ptr (.slot 0) 0 [0] (Int.toNat yI1 * 2 + 0))) ?_ (st_pure (p_fa k165 (.slot 0) [0] 0 gx1))
     refine LWp.sb [] (.slot 0) [.sl true 165 2 (encs c165 (si yA1 yI1 (Leaf.mk yK1 x1.Text)))] ?_ (s_st [] (q := [0]) (cs := [.sl true 165 2 (encs c165 yA1)]) (xs := [.int .i64 yK1]) (At.one (setRow_gi k165 (k := 0) (z := (Leaf.mk yK1 x1.Text)) gx1 rfl rfl)) (fit_gi k165 (k := 0) gx1 rfl))
     refine LWp.nil ?_
     refine Wp.seq (Wp.region ?_)
     refine LWp.o 17 (I yK1) ?_
     refine LWp.o 18 (I (ad yK1 1)) ?_
     refine LWp.o 1 (I (ad yK1 1)) ?_
     refine LWp.nil ?_
     refine Wp.seq (Wp.region ?_)
     refine LWp.o 19 (.one (.view (.slot 0) 1 [] 0)) ?_
     refine LWp.o 20 (I yI1) ?_
     refine LWp.o 21 (I (ad yK1 1)) ?_
     refine LWp.cl h 22 (fun v1 => (Y v1)) rfl (l := [.sv (.one (.int .i64 (ad yK1 1)))]) rfl (fun v hv => w_markText_t (ad yK1 1) v hv) (.inl rfl) ?_
     intro v1 gv1 h
     refine LWp.p h 23 (fun _ => (.one (.ptr (.slot 0) 1 [0] (Int.toNat yI1 * 2 + 0)))) ?_ (fun x2 gx2 => st_pure (p_ix k165 (.slot 0) [] 0 gx2))
     intro x2 gx2 h
     refine LWp.o 24 (.one (.ptr (.slot 0) 1 [0] (Int.toNat yI1 * 2 + 1))) ?_ (st_pure (p_fa k165 (.slot 0) [0] 0 gx2))
     refine LWp.sb [] (.slot 0) [.sl true 165 2 (encs c165 (si (si yA1 yI1 (Leaf.mk yK1 x1.Text)) yI1 (Leaf.mk x2.Is v1)))] ?_ (s_st [] (q := [0]) (cs := [.sl true 165 2 (encs c165 (si yA1 yI1 (Leaf.mk yK1 x1.Text)))]) (xs := [.str v1]) (At.one (setRow_gi k165 (k := 1) (z := (Leaf.mk x2.Is v1)) gx2 rfl rfl)) (fit_gi k165 (k := 1) gx2 rfl))
     refine LWp.nil ?_
     refine Wp.region ?_
     refine LWp.o 25 (I (ad yK1 1)) ?_
     refine LWp.o 26 (I (ad (ad yK1 1) 1)) ?_
     refine LWp.o 1 (I (ad (ad yK1 1) 1)) ?_
     refine LWp.nil ?_
     refine Wp.region ?_
     refine LWp.o 10 (I yI1) ?_
     refine LWp.o 11 (I (ad yI1 1)) ?_
     refine LWp.o 5 (I (ad yI1 1)) ?_
     refine LWp.nil ?_
     cases h
     exact ⟨_, rfl, rfl, rfl⟩
   refine Wp.exit ?_
   cases h
   exact ⟨_, rfl, rfl, rfl⟩
 intro v2 h E hE
 refine nt_wp hE ?_
 change Wp _ _ _ (w_markLeafS_H2 v2.1 v2.2) _
 refine Wp.seq (Wp.region ?_)
 refine LWp.o 27 (I v2.2) ?_
 refine LWp.o 4 (I v2.2) ?_
 refine LWp.nil ?_
 cases h
 exact Wp.ret ⟨.inr rfl, _, _, rfl, rfl, rfl, rfl⟩
def w_markBlockS_H1 (z1 : List Block) (z2 : Int) (z3 : Int) : St := mkStF [(0, (.one (.sl true 124 3 (encs (c124 true) z1)))), (1, (I z2)), (5, (I z3))] []
def w_markBlockS_H2 (z4 : List Block) (z5 : Int) : St := mkStF [(0, (.one (.sl true 124 3 (encs (c124 true) z4)))), (1, (I z5))] []
theorem w_markBlockS_t (xA : List Block) (xK : Int) (r : Int × List Block) (h : w_markBlockS xA xK = some r) : Gives Tryz.prog 96 [.sv (.one (.sl true 124 3 (encs (c124 true) xA))), .sv (I xK)] (I r.1) (.sv (.one (.sl true 124 3 (encs (c124 true) r.2))) :: List.replicate 1 .gone) := by
 unfold w_markBlockS at h
 refine gives_lent Tryz.func96 rfl ?_
 rw [Tryz.ntmps96]
 refine Wp.seq (Wp.region ?_)
 refine LWp.o 4 (I 0) ?_
 refine LWp.nil ?_
 refine Wp.seq ?_
 refine Wp.seq (Wp.region ?_)
 refine LWp.o 5 (I 0) ?_
 refine LWp.nil ?_
 refine Wp.l1 h [0, 1, 5] [] (fun s => (w_markBlockS_H1 s.1 s.2.1 s.2.2)) [0, 1] [] (fun s => (w_markBlockS_H2 s.1 s.2)) ⟨rfl, rfl⟩ ?_ ?_
 · rintro ⟨yA1, yK1, yI1⟩ o (h : w_markBlockS_b1 yA1 yK1 yI1 = some o)
   unfold w_markBlockS_b1 at h
   change Wp _ _ _ (w_markBlockS_H1 yA1 yK1 yI1) _
   refine Wp.seq ?_
   refine Wp.seq (Wp.region ?_)
   refine LWp.o 6 (I yI1) ?_
   refine LWp.o 7 (.one (.view (.slot 0) 0 [] 0)) ?_
   refine LWp.o 8 (I (ln yA1)) ?_ (st_pure (p_ln (k124 true) yA1))
   refine LWp.o 9 (B (decide (yI1 < (ln yA1)))) ?_
   refine LWp.nil ?_
   refine Wp.c h (fun h => ?_) (fun h => ?_)
   · refine Wp.skip ?_
     refine Wp.seq ?_
     refine Wp.block ?_
     refine Wp.seq (Wp.region ?_)
     refine LWp.o 12 (.one (.view (.slot 0) 0 [] 0)) ?_
     refine LWp.o 13 (I yI1) ?_
     refine LWp.o 14 (I yK1) ?_
     refine LWp.o 15 (I (Int.tmod yK1 3)) ?_
     refine LWp.o 16 (B ((Int.tmod yK1 3) == 0)) ?_
     refine LWp.p h 17 (fun _ => (.one (.ptr (.slot 0) 0 [0] (Int.toNat yI1 * 3 + 0)))) ?_ (fun x1 gx1 => st_pure (p_ix (k124 true) (.slot 0) [] 0 gx1))
     intro x1 gx1 h
     refine LWp.o 18 (.one (.ptr (.slot 0) 0 [0] (Int.toNat yI1 * 3 + 0))) ?_ (st_pure (p_fa (k124 true) (.slot 0) [0] 0 gx1))
     refine LWp.sb [] (.slot 0) [.sl true 124 3 (encs (c124 true) (si yA1 yI1 (Block.mk ((Int.tmod yK1 3) == 0) x1.Wear x1.Leaves)))] ?_ (s_st [] (q := [0]) (cs := [.sl true 124 3 (encs (c124 true) yA1)]) (xs := [.bool ((Int.tmod yK1 3) == 0)]) (At.one (setRow_gi (k124 true) (k := 0) (z := (Block.mk ((Int.tmod yK1 3) == 0) x1.Wear x1.Leaves)) gx1 rfl rfl)) (fit_gi (k124 true) (k := 0) gx1 rfl))
     refine LWp.nil ?_
     refine Wp.seq (Wp.region ?_)
     refine LWp.o 19 (I yK1) ?_
     refine LWp.o 20 (I (ad yK1 1)) ?_
     refine LWp.o 1 (I (ad yK1 1)) ?_
     refine LWp.nil ?_
     refine Wp.seq (Wp.region ?_)
     refine LWp.o 21 (.one (.view (.slot 0) 1 [] 0)) ?_
     refine LWp.o 22 (I yI1) ?_
     refine LWp.o 23 (I (ad yK1 1)) ?_
     refine LWp.p h 24 (fun _ => (.one (.ptr (.slot 0) 1 [0] (Int.toNat yI1 * 3 + 0)))) ?_ (fun x2 gx2 => st_pure (p_ix (k124 true) (.slot 0) [] 0 gx2))
     intro x2 gx2 h
     refine LWp.o 25 (.one (.ptr (.slot 0) 1 [0] (Int.toNat yI1 * 3 + 1))) ?_ (st_pure (p_fa (k124 true) (.slot 0) [0] 0 gx2))
     refine LWp.sb [] (.slot 0) [.sl true 124 3 (encs (c124 true) (si (si yA1 yI1 (Block.mk ((Int.tmod yK1 3) == 0) x1.Wear x1.Leaves)) yI1 (Block.mk x2.Bad (ad yK1 1) x2.Leaves)))] ?_ (s_st [] (q := [0]) (cs := [.sl true 124 3 (encs (c124 true) (si yA1 yI1 (Block.mk ((Int.tmod yK1 3) == 0) x1.Wear x1.Leaves)))]) (xs := [.int .i64 (ad yK1 1)]) (At.one (setRow_gi (k124 true) (k := 1) (z := (Block.mk x2.Bad (ad yK1 1) x2.Leaves)) gx2 rfl rfl)) (fit_gi (k124 true) (k := 1) gx2 rfl))
     refine LWp.nil ?_
     refine Wp.seq (Wp.region ?_)
     refine LWp.o 26 (I (ad yK1 1)) ?_
     refine LWp.o 27 (I (ad (ad yK1 1) 1)) ?_
     refine LWp.o 1 (I (ad (ad yK1 1) 1)) ?_
     refine LWp.nil ?_
     refine Wp.region ?_
     refine LWp.o 28 (.one (.view (.slot 0) 2 [] 0)) ?_
     refine LWp.o 29 (I yI1) ?_
     refine LWp.p h 30 (fun _ => (.one (.ptr (.slot 0) 2 [0] (Int.toNat yI1 * 3 + 0)))) ?_ (fun x3 gx3 => st_pure (p_ix (k124 true) (.slot 0) [] 0 gx3))
     intro x3 gx3 h
     refine LWp.o 31 (.one (.ptr (.slot 0) 2 [0] (Int.toNat yI1 * 3 + 2))) ?_ (st_pure (p_fa (k124 true) (.slot 0) [0] 0 gx3))
     refine LWp.o 32 (.one (.view (.slot 0) 2 [0] (Int.toNat yI1 * 3 + 2))) ?_ (st_pure (p_lc (k124 true) (.slot 0) [0] 2 (.sl true 165 2 (encs c165 x3.Leaves)) gx3))
     refine LWp.o 33 (I (ad (ad yK1 1) 1)) ?_
     refine LWp.leb h (.slot 0) [0] (Int.toNat yI1 * 3 + 2) [.sl true 124 3 (encs (c124 true) (si (si yA1 yI1 (Block.mk ((Int.tmod yK1 3) == 0) x1.Wear x1.Leaves)) yI1 (Block.mk x2.Bad (ad yK1 1) x2.Leaves)))] 34 (e := 165) (sz := 2) (encs c165 x3.Leaves) (ad (ad yK1 1) 1) (fun v => v.1) (fun v1 => (encs c165 v1.2)) (fun v1 => [.sl true 124 3 (encs (c124 true) (si (si (si yA1 yI1 (Block.mk ((Int.tmod yK1 3) == 0) x1.Wear x1.Leaves)) yI1 (Block.mk x2.Bad (ad yK1 1) x2.Leaves)) yI1 (Block.mk x3.Bad x3.Wear v1.2)))]) rfl (fun v1 => At.one (set_gi (k124 true) (k := 2) (z := (Block.mk x3.Bad x3.Wear v1.2)) gx3 rfl rfl)) ((gi_cellb (k124 true) (k := 2) gx3).trans rfl) (fun v hv => w_markLeafS_t x3.Leaves (ad (ad yK1 1) 1) v hv) (ns165 _) (fun _ => ns165 _) ?_ (.inl ⟨0, _, rfl, rfl, rfl, rfl, fun _ _ _ _ _ _ _ h => h⟩)
     intro v1 gv1 h
     refine LWp.o 1 (I v1.1) ?_
     refine LWp.nil ?_
     refine Wp.region ?_
     refine LWp.o 10 (I yI1) ?_
     refine LWp.o 11 (I (ad yI1 1)) ?_
     refine LWp.o 5 (I (ad yI1 1)) ?_
     refine LWp.nil ?_
     cases h
     exact ⟨_, rfl, rfl, rfl⟩
   refine Wp.exit ?_
   cases h
   exact ⟨_, rfl, rfl, rfl⟩
 intro v2 h E hE
 refine nt_wp hE ?_
 change Wp _ _ _ (w_markBlockS_H2 v2.1 v2.2) _
 refine Wp.seq (Wp.region ?_)
 refine LWp.o 35 (I v2.2) ?_
 refine LWp.o 4 (I v2.2) ?_
 refine LWp.nil ?_
 cases h
 exact Wp.ret ⟨.inr rfl, _, _, rfl, rfl, rfl, rfl⟩
theorem w_markFlash_t (xA : Flash) (xK : Int) (r : Int) (h : w_markFlash xA xK = some r) : Gives Tryz.prog 51 [.sv (.agg [.sl true 124 3 (encs (c124 true) xA.Blocks)]), .sv (I xK)] (I r) (List.replicate 2 .gone) := by
 unfold w_markFlash at h
 refine gives_of Tryz.func51 rfl ?_
 rw [Tryz.ntmps51]
 refine Wp.seq (Wp.region ?_)
 refine LWp.b [(.slot 0, [.junk])] 2 [.sl true 124 3 (encs (c124 true) xA.Blocks)] ?_
 refine LWp.o 4 (I 0) ?_
 refine LWp.nil ?_
 refine Wp.seq (Wp.region ?_)
 refine LWp.o 5 (.one (.ptr (.box 2) 1 [] 0)) ?_
 refine LWp.o 6 (.one (.view (.box 2) 1 [] 0)) ?_
 refine LWp.o 7 (I xK) ?_
 refine LWp.leb h (.box 2) [] 0 [.sl true 124 3 (encs (c124 true) xA.Blocks)] 8 (e := 124) (sz := 3) (encs (c124 true) xA.Blocks) xK (fun v => v.1) (fun v1 => (encs (c124 true) v1.2)) (fun v1 => [.sl true 124 3 (encs (c124 true) v1.2)]) rfl (fun v1 => At.nl rfl) rfl (fun v hv => w_markBlockS_t xA.Blocks xK v hv) (ns124 _) (fun _ => ns124 _) ?_ (.inr ⟨rfl, rfl⟩)
 intro v1 gv1 h
 refine LWp.o 1 (I v1.1) ?_
 refine LWp.nil ?_
 refine Wp.seq (Wp.region ?_)
 refine LWp.o 9 (I v1.1) ?_
 refine LWp.o 4 (I v1.1) ?_
 refine LWp.nil ?_
 cases h
 exact Wp.ret ⟨.inr rfl, _, _, rfl, rfl⟩
def w_markVolS_H1 (z1 : List Vol) (z2 : Int) (z3 : Int) : St := mkStF [(0, (.one (.sl true 110 2 (encs c110 z1)))), (1, (I z2)), (5, (I z3))] []
def w_markVolS_H2 (z4 : List Vol) (z5 : Int) : St := mkStF [(0, (.one (.sl true 110 2 (encs c110 z4)))), (1, (I z5))] []
theorem w_markVolS_t (xA : List Vol) (xK : Int) (r : Int × List Vol) (h : w_markVolS xA xK = some r) : Gives Tryz.prog 97 [.sv (.one (.sl true 110 2 (encs c110 xA))), .sv (I xK)] (I r.1) (.sv (.one (.sl true 110 2 (encs c110 r.2))) :: List.replicate 1 .gone) := by
 unfold w_markVolS at h
 refine gives_lent Tryz.func97 rfl ?_
 rw [Tryz.ntmps97]
 refine Wp.seq (Wp.region ?_)
 refine LWp.o 4 (I 0) ?_
 refine LWp.nil ?_
 refine Wp.seq ?_
 refine Wp.seq (Wp.region ?_)
 refine LWp.o 5 (I 0) ?_
 refine LWp.nil ?_
 refine Wp.l1 h [0, 1, 5] [] (fun s => (w_markVolS_H1 s.1 s.2.1 s.2.2)) [0, 1] [] (fun s => (w_markVolS_H2 s.1 s.2)) ⟨rfl, rfl⟩ ?_ ?_
 · rintro ⟨yA1, yK1, yI1⟩ o (h : w_markVolS_b1 yA1 yK1 yI1 = some o)
   unfold w_markVolS_b1 at h
   change Wp _ _ _ (w_markVolS_H1 yA1 yK1 yI1) _
   refine Wp.seq ?_
   refine Wp.seq (Wp.region ?_)
   refine LWp.o 6 (I yI1) ?_
   refine LWp.o 7 (.one (.view (.slot 0) 0 [] 0)) ?_
   refine LWp.o 8 (I (ln yA1)) ?_ (st_pure (p_ln k110 yA1))
   refine LWp.o 9 (B (decide (yI1 < (ln yA1)))) ?_
   refine LWp.nil ?_
   refine Wp.c h (fun h => ?_) (fun h => ?_)
   · refine Wp.skip ?_
     refine Wp.seq ?_
     refine Wp.block ?_
     refine Wp.seq (Wp.region ?_)
     refine LWp.o 12 (.one (.view (.slot 0) 0 [] 0)) ?_
     refine LWp.o 13 (I yI1) ?_
     refine LWp.o 14 (I yK1) ?_
     refine LWp.p h 15 (fun _ => (.one (.ptr (.slot 0) 0 [0] (Int.toNat yI1 * 2 + 0)))) ?_ (fun x1 gx1 => st_pure (p_ix k110 (.slot 0) [] 0 gx1))
     intro x1 gx1 h
     refine LWp.o 16 (.one (.ptr (.slot 0) 0 [0] (Int.toNat yI1 * 2 + 0))) ?_ (st_pure (p_fa k110 (.slot 0) [0] 0 gx1))
     refine LWp.sb [] (.slot 0) [.sl true 110 2 (encs c110 (si yA1 yI1 (Vol.mk yK1 x1.Root)))] ?_ (s_st [] (q := [0]) (cs := [.sl true 110 2 (encs c110 yA1)]) (xs := [.int .i64 yK1]) (At.one (setRow_gi k110 (k := 0) (z := (Vol.mk yK1 x1.Root)) gx1 rfl rfl)) (fit_gi k110 (k := 0) gx1 rfl))
     refine LWp.nil ?_
     refine Wp.seq (Wp.region ?_)
     refine LWp.o 17 (I yK1) ?_
     refine LWp.o 18 (I (ad yK1 1)) ?_
     refine LWp.o 1 (I (ad yK1 1)) ?_
     refine LWp.nil ?_
     refine Wp.seq (Wp.region ?_)
     refine LWp.o 19 (.one (.view (.slot 0) 1 [] 0)) ?_
     refine LWp.o 20 (I yI1) ?_
     refine LWp.o 21 (I (ad yK1 1)) ?_
     refine LWp.p h 22 (fun _ => (.one (.ptr (.slot 0) 1 [0] (Int.toNat yI1 * 2 + 0)))) ?_ (fun x2 gx2 => st_pure (p_ix k110 (.slot 0) [] 0 gx2))
     intro x2 gx2 h
     refine LWp.o 23 (.one (.ptr (.slot 0) 1 [0] (Int.toNat yI1 * 2 + 1))) ?_ (st_pure (p_fa k110 (.slot 0) [0] 0 gx2))
     refine LWp.sb [] (.slot 0) [.sl true 110 2 (encs c110 (si (si yA1 yI1 (Vol.mk yK1 x1.Root)) yI1 (Vol.mk x2.Id (ad yK1 1))))] ?_ (s_st [] (q := [0]) (cs := [.sl true 110 2 (encs c110 (si yA1 yI1 (Vol.mk yK1 x1.Root)))]) (xs := [.int .i64 (ad yK1 1)]) (At.one (setRow_gi k110 (k := 1) (z := (Vol.mk x2.Id (ad yK1 1))) gx2 rfl rfl)) (fit_gi k110 (k := 1) gx2 rfl))
     refine LWp.nil ?_
     refine Wp.region ?_
     refine LWp.o 24 (I (ad yK1 1)) ?_
     refine LWp.o 25 (I (ad (ad yK1 1) 1)) ?_
     refine LWp.o 1 (I (ad (ad yK1 1) 1)) ?_
     refine LWp.nil ?_
     refine Wp.region ?_
     refine LWp.o 10 (I yI1) ?_
     refine LWp.o 11 (I (ad yI1 1)) ?_
     refine LWp.o 5 (I (ad yI1 1)) ?_
     refine LWp.nil ?_
     cases h
     exact ⟨_, rfl, rfl, rfl⟩
   refine Wp.exit ?_
   cases h
   exact ⟨_, rfl, rfl, rfl⟩
 intro v1 h E hE
 refine nt_wp hE ?_
 change Wp _ _ _ (w_markVolS_H2 v1.1 v1.2) _
 refine Wp.seq (Wp.region ?_)
 refine LWp.o 26 (I v1.2) ?_
 refine LWp.o 4 (I v1.2) ?_
 refine LWp.nil ?_
 cases h
 exact Wp.ret ⟨.inr rfl, _, _, rfl, rfl, rfl, rfl⟩
def w_markIntS_H1 (z1 : List Int) (z2 : Int) (z3 : Int) : St := mkStF [(0, (.one (.sl true 3 1 (encs c3 z1)))), (1, (I z2)), (5, (I z3))] []
def w_markIntS_H2 (z4 : List Int) (z5 : Int) : St := mkStF [(0, (.one (.sl true 3 1 (encs c3 z4)))), (1, (I z5))] []
theorem w_markIntS_t (xA : List Int) (xK : Int) (r : Int × List Int) (h : w_markIntS xA xK = some r) : Gives Tryz.prog 31 [.sv (.one (.sl true 3 1 (encs c3 xA))), .sv (I xK)] (I r.1) (.sv (.one (.sl true 3 1 (encs c3 r.2))) :: List.replicate 1 .gone) := by
 unfold w_markIntS at h
 refine gives_lent Tryz.func31 rfl ?_
 rw [Tryz.ntmps31]
 refine Wp.seq (Wp.region ?_)
 refine LWp.o 4 (I 0) ?_
 refine LWp.nil ?_
 refine Wp.seq ?_
 refine Wp.seq (Wp.region ?_)
 refine LWp.o 5 (I 0) ?_
 refine LWp.nil ?_
 refine Wp.l1 h [0, 1, 5] [] (fun s => (w_markIntS_H1 s.1 s.2.1 s.2.2)) [0, 1] [] (fun s => (w_markIntS_H2 s.1 s.2)) ⟨rfl, rfl⟩ ?_ ?_
 · rintro ⟨yA1, yK1, yI1⟩ o (h : w_markIntS_b1 yA1 yK1 yI1 = some o)
   unfold w_markIntS_b1 at h
   change Wp _ _ _ (w_markIntS_H1 yA1 yK1 yI1) _
   refine Wp.seq ?_
   refine Wp.seq (Wp.region ?_)
   refine LWp.o 6 (I yI1) ?_
   refine LWp.o 7 (.one (.view (.slot 0) 0 [] 0)) ?_
   refine LWp.o 8 (I (ln yA1)) ?_ (st_pure (p_ln k3 yA1))
   refine LWp.o 9 (B (decide (yI1 < (ln yA1)))) ?_
   refine LWp.nil ?_
   refine Wp.c h (fun h => ?_) (fun h => ?_)
   · refine Wp.skip ?_
     refine Wp.seq ?_
     refine Wp.block ?_
     refine Wp.seq (Wp.region ?_)
     refine LWp.o 12 (.one (.view (.slot 0) 0 [] 0)) ?_
     refine LWp.o 13 (I yI1) ?_
     refine LWp.o 14 (I yK1) ?_
     refine LWp.p h 15 (fun _ => (.one (.ptr (.slot 0) 0 [0] (Int.toNat yI1 * 1 + 0)))) ?_ (fun x1 gx1 => st_pure (p_ix k3 (.slot 0) [] 0 gx1))
     intro x1 gx1 h
     refine LWp.sb [] (.slot 0) [.sl true 3 1 (encs c3 (si yA1 yI1 yK1))] ?_ (s_st [] (q := [0]) (cs := [.sl true 3 1 (encs c3 yA1)]) (xs := [.int .i64 yK1]) (At.one (setRow_gi k3 (k := 0) (z := yK1) gx1 rfl rfl)) (fit_gi k3 (k := 0) gx1 rfl))
     refine LWp.nil ?_
     refine Wp.region ?_
     refine LWp.o 16 (I yK1) ?_
     refine LWp.o 17 (I (ad yK1 1)) ?_
     refine LWp.o 1 (I (ad yK1 1)) ?_
     refine LWp.nil ?_
     refine Wp.region ?_
     refine LWp.o 10 (I yI1) ?_
     refine LWp.o 11 (I (ad yI1 1)) ?_
     refine LWp.o 5 (I (ad yI1 1)) ?_
     refine LWp.nil ?_
     cases h
     exact ⟨_, rfl, rfl, rfl⟩
   refine Wp.exit ?_
   cases h
   exact ⟨_, rfl, rfl, rfl⟩
 intro v1 h E hE
 refine nt_wp hE ?_
 change Wp _ _ _ (w_markIntS_H2 v1.1 v1.2) _
 refine Wp.seq (Wp.region ?_)
 refine LWp.o 18 (I v1.2) ?_
 refine LWp.o 4 (I v1.2) ?_
 refine LWp.nil ?_
 cases h
 exact Wp.ret ⟨.inr rfl, _, _, rfl, rfl, rfl, rfl⟩
def w_markKnotS_H1 (z1 : List Knot) (z2 : Int) (z3 : Int) : St := mkStF [(0, (.one (.sl true 218 2 (encs (c218 true) z1)))), (1, (I z2)), (5, (I z3))] []
def w_markKnotS_H2 (z4 : List Knot) (z5 : Int) : St := mkStF [(0, (.one (.sl true 218 2 (encs (c218 true) z4)))), (1, (I z5))] []
theorem w_markKnotS_t (xA : List Knot) (xK : Int) (r : Int × List Knot) (h : w_markKnotS xA xK = some r) : Gives Tryz.prog 149 [.sv (.one (.sl true 218 2 (encs (c218 true) xA))), .sv (I xK)] (I r.1) (.sv (.one (.sl true 218 2 (encs (c218 true) r.2))) :: List.replicate 1 .gone) := by
 unfold w_markKnotS at h
 refine gives_lent Tryz.func149 rfl ?_
 rw [Tryz.ntmps149]
 refine Wp.seq (Wp.region ?_)
 refine LWp.o 4 (I 0) ?_
 refine LWp.nil ?_
 refine Wp.seq ?_
 refine Wp.seq (Wp.region ?_)
 refine LWp.o 5 (I 0) ?_
 refine LWp.nil ?_
 refine Wp.l1 h [0, 1, 5] [] (fun s => (w_markKnotS_H1 s.1 s.2.1 s.2.2)) [0, 1] [] (fun s => (w_markKnotS_H2 s.1 s.2)) ⟨rfl, rfl⟩ ?_ ?_
 · rintro ⟨yA1, yK1, yI1⟩ o (h : w_markKnotS_b1 yA1 yK1 yI1 = some o)
   unfold w_markKnotS_b1 at h
   change Wp _ _ _ (w_markKnotS_H1 yA1 yK1 yI1) _
   refine Wp.seq ?_
   refine Wp.seq (Wp.region ?_)
   refine LWp.o 6 (I yI1) ?_
   refine LWp.o 7 (.one (.view (.slot 0) 0 [] 0)) ?_
   refine LWp.o 8 (I (ln yA1)) ?_ (st_pure (p_ln (k218 true) yA1))
   refine LWp.o 9 (B (decide (yI1 < (ln yA1)))) ?_
   refine LWp.nil ?_
   refine Wp.c h (fun h => ?_) (fun h => ?_)
   · refine Wp.skip ?_
     refine Wp.seq ?_
     refine Wp.block ?_
     refine Wp.seq (Wp.region ?_)
     refine LWp.o 12 (.one (.view (.slot 0) 0 [] 0)) ?_
     refine LWp.o 13 (I yI1) ?_
     refine LWp.o 14 (I yK1) ?_
     refine LWp.o 15 (I (Int.tmod yK1 3)) ?_
     refine LWp.o 16 (B ((Int.tmod yK1 3) == 0)) ?_
     refine LWp.p h 17 (fun _ => (.one (.ptr (.slot 0) 0 [0] (Int.toNat yI1 * 2 + 0)))) ?_ (fun x1 gx1 => st_pure (p_ix (k218 true) (.slot 0) [] 0 gx1))
     intro x1 gx1 h
     refine LWp.o 18 (.one (.ptr (.slot 0) 0 [0] (Int.toNat yI1 * 2 + 0))) ?_ (st_pure (p_fa (k218 true) (.slot 0) [0] 0 gx1))
     refine LWp.sb [] (.slot 0) [.sl true 218 2 (encs (c218 true) (si yA1 yI1 (Knot.mk ((Int.tmod yK1 3) == 0) x1.Kids)))] ?_ (s_st [] (q := [0]) (cs := [.sl true 218 2 (encs (c218 true) yA1)]) (xs := [.bool ((Int.tmod yK1 3) == 0)]) (At.one (setRow_gi (k218 true) (k := 0) (z := (Knot.mk ((Int.tmod yK1 3) == 0) x1.Kids)) gx1 rfl rfl)) (fit_gi (k218 true) (k := 0) gx1 rfl))
     refine LWp.nil ?_
     refine Wp.seq (Wp.region ?_)
     refine LWp.o 19 (I yK1) ?_
     refine LWp.o 20 (I (ad yK1 1)) ?_
     refine LWp.o 1 (I (ad yK1 1)) ?_
     refine LWp.nil ?_
     refine Wp.region ?_
     refine LWp.o 21 (.one (.view (.slot 0) 1 [] 0)) ?_
     refine LWp.o 22 (I yI1) ?_
     refine LWp.p h 23 (fun _ => (.one (.ptr (.slot 0) 1 [0] (Int.toNat yI1 * 2 + 0)))) ?_ (fun x2 gx2 => st_pure (p_ix (k218 true) (.slot 0) [] 0 gx2))
     intro x2 gx2 h
     refine LWp.o 24 (.one (.ptr (.slot 0) 1 [0] (Int.toNat yI1 * 2 + 1))) ?_ (st_pure (p_fa (k218 true) (.slot 0) [0] 0 gx2))
     refine LWp.o 25 (.one (.view (.slot 0) 1 [0] (Int.toNat yI1 * 2 + 1))) ?_ (st_pure (p_lc (k218 true) (.slot 0) [0] 1 (.sl true 3 1 (encs c3 x2.Kids)) gx2))
     refine LWp.o 26 (I (ad yK1 1)) ?_
     refine LWp.leb h (.slot 0) [0] (Int.toNat yI1 * 2 + 1) [.sl true 218 2 (encs (c218 true) (si yA1 yI1 (Knot.mk ((Int.tmod yK1 3) == 0) x1.Kids)))] 27 (e := 3) (sz := 1) (encs c3 x2.Kids) (ad yK1 1) (fun v => v.1) (fun v1 => (encs c3 v1.2)) (fun v1 => [.sl true 218 2 (encs (c218 true) (si (si yA1 yI1 (Knot.mk ((Int.tmod yK1 3) == 0) x1.Kids)) yI1 (Knot.mk x2.Leaf v1.2)))]) rfl (fun v1 => At.one (set_gi (k218 true) (k := 1) (z := (Knot.mk x2.Leaf v1.2)) gx2 rfl rfl)) ((gi_cellb (k218 true) (k := 1) gx2).trans rfl) (fun v hv => w_markIntS_t x2.Kids (ad yK1 1) v hv) (ns3 _) (fun _ => ns3 _) ?_ (.inl ⟨0, _, rfl, rfl, rfl, rfl, fun _ _ _ _ _ _ _ h => h⟩)
     intro v1 gv1 h
     refine LWp.o 1 (I v1.1) ?_
     refine LWp.nil ?_
     refine Wp.region ?_
     refine LWp.o 10 (I yI1) ?_
     refine LWp.o 11 (I (ad yI1 1)) ?_
     refine LWp.o 5 (I (ad yI1 1)) ?_
     refine LWp.nil ?_
     cases h
     exact ⟨_, rfl, rfl, rfl⟩
   refine Wp.exit ?_
   cases h
   exact ⟨_, rfl, rfl, rfl⟩
 intro v2 h E hE
 refine nt_wp hE ?_
 change Wp _ _ _ (w_markKnotS_H2 v2.1 v2.2) _
 refine Wp.seq (Wp.region ?_)
 refine LWp.o 28 (I v2.2) ?_
 refine LWp.o 4 (I v2.2) ?_
 refine LWp.nil ?_
 cases h
 exact Wp.ret ⟨.inr rfl, _, _, rfl, rfl, rfl, rfl⟩
theorem w_markArena_t (xA : Arena) (xK : Int) (r : Int) (h : w_markArena xA xK = some r) : Gives Tryz.prog 98 [.sv (.agg [.sl true 218 2 (encs (c218 true) xA.Knots)]), .sv (I xK)] (I r) (List.replicate 2 .gone) := by
 unfold w_markArena at h
 refine gives_of Tryz.func98 rfl ?_
 rw [Tryz.ntmps98]
 refine Wp.seq (Wp.region ?_)
 refine LWp.b [(.slot 0, [.junk])] 2 [.sl true 218 2 (encs (c218 true) xA.Knots)] ?_
 refine LWp.o 4 (I 0) ?_
 refine LWp.nil ?_
 refine Wp.seq (Wp.region ?_)
 refine LWp.o 5 (.one (.ptr (.box 2) 1 [] 0)) ?_
 refine LWp.o 6 (.one (.view (.box 2) 1 [] 0)) ?_
 refine LWp.o 7 (I xK) ?_
 refine LWp.leb h (.box 2) [] 0 [.sl true 218 2 (encs (c218 true) xA.Knots)] 8 (e := 218) (sz := 2) (encs (c218 true) xA.Knots) xK (fun v => v.1) (fun v1 => (encs (c218 true) v1.2)) (fun v1 => [.sl true 218 2 (encs (c218 true) v1.2)]) rfl (fun v1 => At.nl rfl) rfl (fun v hv => w_markKnotS_t xA.Knots xK v hv) (ns218 _) (fun _ => ns218 _) ?_ (.inr ⟨rfl, rfl⟩)
 intro v1 gv1 h
 refine LWp.o 1 (I v1.1) ?_
 refine LWp.nil ?_
 refine Wp.seq (Wp.region ?_)
 refine LWp.o 9 (I v1.1) ?_
 refine LWp.o 4 (I v1.1) ?_
 refine LWp.nil ?_
 cases h
 exact Wp.ret ⟨.inr rfl, _, _, rfl, rfl⟩
theorem w_markStore_t (xA : Store) (xK : Int) (r : Int) (h : w_markStore xA xK = some r) : Gives Tryz.prog 52 [.sv (.agg [.sl true 110 2 (encs c110 xA.Vols), .sl true 218 2 (encs (c218 true) xA.Arena.Knots), .int .i64 xA.Next]), .sv (I xK)] (I r) (List.replicate 2 .gone) := by
 unfold w_markStore at h
 refine gives_of Tryz.func52 rfl ?_
 rw [Tryz.ntmps52]
 refine Wp.seq (Wp.region ?_)
 refine LWp.b [(.slot 0, [.junk, .sl true 218 2 (encs (c218 true) xA.Arena.Knots), .int .i64 xA.Next]), (.slot 0, [.junk, .junk, .int .i64 xA.Next])] 2 [.sl true 110 2 (encs c110 xA.Vols), .sl true 218 2 (encs (c218 true) xA.Arena.Knots), .int .i64 xA.Next] ?_
 refine LWp.o 4 (I 0) ?_
 refine LWp.nil ?_
 refine Wp.seq (Wp.region ?_)
 refine LWp.o 5 (.one (.ptr (.box 2) 1 [] 0)) ?_
 refine LWp.o 6 (.one (.view (.box 2) 1 [] 0)) ?_
 refine LWp.o 7 (I xK) ?_
 refine LWp.leb h (.box 2) [] 0 [.sl true 110 2 (encs c110 xA.Vols), .sl true 218 2 (encs (c218 true) xA.Arena.Knots), .int .i64 xA.Next] 8 (e := 110) (sz := 2) (encs c110 xA.Vols) xK (fun v => v.1) (fun v1 => (encs c110 v1.2)) (fun v1 => [.sl true 110 2 (encs c110 v1.2), .sl true 218 2 (encs (c218 true) xA.Arena.Knots), .int .i64 xA.Next]) rfl (fun v1 => At.nl rfl) rfl (fun v hv => w_markVolS_t xA.Vols xK v hv) (ns110 _) (fun _ => ns110 _) ?_ (.inr ⟨rfl, rfl⟩)
 intro v1 gv1 h
 refine LWp.o 1 (I v1.1) ?_
 refine LWp.nil ?_
 refine Wp.seq (Wp.region ?_)
 refine LWp.o 9 (.one (.ptr (.box 2) 1 [] 1)) ?_
 refine LWp.o 10 (.agg [.view (.box 2) 2 [] 1]) ?_
 refine LWp.o 11 (I v1.1) ?_
 refine LWp.cv h [(true, 45, .tmp 10), (false, 3, .tmp 11)] [(.box 2, [.sl true 110 2 (encs c110 v1.2), .junk, .int .i64 xA.Next])] 12 (fun v2 => (I v2)) rfl rfl rfl (avl := [.sv (.agg [.sl true 218 2 (encs (c218 true) xA.Arena.Knots)]), .sv (.one (.int .i64 v1.1))]) rfl (fun v hv => w_markArena_t xA.Arena v1.1 v hv) (.inl rfl) ?_
 intro v2 gv2 h
 refine LWp.o 1 (I v2) ?_
 refine LWp.nil ?_
 refine Wp.seq (Wp.region ?_)
 refine LWp.o 13 (I v2) ?_
 refine LWp.o 4 (I v2) ?_
 refine LWp.nil ?_
 cases h
 exact Wp.ret ⟨.inr rfl, _, _, rfl, rfl⟩
theorem w_markDevice_t (xA : Device) (xK : Int) (r : Int) (h : w_markDevice xA xK = some r) : Gives Tryz.prog 17 [.sv (.agg [.sl true 124 3 (encs (c124 true) xA.Flash.Blocks), .sl true 110 2 (encs c110 xA.Store.Vols), .sl true 218 2 (encs (c218 true) xA.Store.Arena.Knots), .int .i64 xA.Store.Next, .int .i64 xA.Seq, .int .i64 xA.Tx, .int .i64 xA.Base]), .sv (I xK)] (I r) (List.replicate 2 .gone) := by
 unfold w_markDevice at h
 refine gives_of Tryz.func17 rfl ?_
 rw [Tryz.ntmps17]
 refine Wp.seq (Wp.region ?_)
 refine LWp.b [(.slot 0, [.junk, .sl true 110 2 (encs c110 xA.Store.Vols), .sl true 218 2 (encs (c218 true) xA.Store.Arena.Knots), .int .i64 xA.Store.Next, .int .i64 xA.Seq, .int .i64 xA.Tx, .int .i64 xA.Base]), (.slot 0, [.junk, .junk, .sl true 218 2 (encs (c218 true) xA.Store.Arena.Knots), .int .i64 xA.Store.Next, .int .i64 xA.Seq, .int .i64 xA.Tx, .int .i64 xA.Base]), (.slot 0, [.junk, .junk, .junk, .int .i64 xA.Store.Next, .int .i64 xA.Seq, .int .i64 xA.Tx, .int .i64 xA.Base])] 2 [.sl true 124 3 (encs (c124 true) xA.Flash.Blocks), .sl true 110 2 (encs c110 xA.Store.Vols), .sl true 218 2 (encs (c218 true) xA.Store.Arena.Knots), .int .i64 xA.Store.Next, .int .i64 xA.Seq, .int .i64 xA.Tx, .int .i64 xA.Base] ?_
 refine LWp.o 4 (I 0) ?_
 refine LWp.nil ?_
 refine Wp.seq (Wp.region ?_)
 refine LWp.o 5 (.one (.ptr (.box 2) 1 [] 0)) ?_
 refine LWp.o 6 (.agg [.view (.box 2) 1 [] 0]) ?_
 refine LWp.o 7 (I xK) ?_
 refine LWp.cv h [(true, 41, .tmp 6), (false, 3, .tmp 7)] [(.box 2, [.junk, .sl true 110 2 (encs c110 xA.Store.Vols), .sl true 218 2 (encs (c218 true) xA.Store.Arena.Knots), .int .i64 xA.Store.Next, .int .i64 xA.Seq, .int .i64 xA.Tx, .int .i64 xA.Base])] 8 (fun v1 => (I v1)) rfl rfl rfl (avl := [.sv (.agg [.sl true 124 3 (encs (c124 true) xA.Flash.Blocks)]), .sv (.one (.int .i64 xK))]) rfl (fun v hv => w_markFlash_t xA.Flash xK v hv) (.inl rfl) ?_
 intro v1 gv1 h
 refine LWp.o 1 (I v1) ?_
 refine LWp.nil ?_
 refine Wp.seq (Wp.region ?_)
 refine LWp.o 9 (.one (.ptr (.box 2) 1 [] 1)) ?_
 refine LWp.o 10 (.agg [.view (.box 2) 2 [] 1, .view (.box 2) 2 [] 2, .int .i64 xA.Store.Next]) ?_
 refine LWp.o 11 (I v1) ?_
 refine LWp.cv h [(true, 47, .tmp 10), (false, 3, .tmp 11)] [(.box 2, [.junk, .junk, .sl true 218 2 (encs (c218 true) xA.Store.Arena.Knots), .int .i64 xA.Store.Next, .int .i64 xA.Seq, .int .i64 xA.Tx, .int .i64 xA.Base]), (.box 2, [.junk, .junk, .junk, .int .i64 xA.Store.Next, .int .i64 xA.Seq, .int .i64 xA.Tx, .int .i64 xA.Base])] 12 (fun v2 => (I v2)) rfl rfl rfl (avl := [.sv (.agg [.sl true 110 2 (encs c110 xA.Store.Vols), .sl true 218 2 (encs (c218 true) xA.Store.Arena.Knots), .int .i64 xA.Store.Next]), .sv (.one (.int .i64 v1))]) rfl (fun v hv => w_markStore_t xA.Store v1 v hv) (.inl rfl) ?_
 intro v2 gv2 h
 refine LWp.o 1 (I v2) ?_
 refine LWp.nil ?_
 refine Wp.seq (Wp.region ?_)
 refine LWp.o 13 (I v2) ?_
 refine LWp.o 4 (I v2) ?_
 refine LWp.nil ?_
 cases h
 exact Wp.ret ⟨.inr rfl, _, _, rfl, rfl⟩
def w_markRecS_H1 (z1 : List Rec) (z2 : Int) (z3 : Int) : St := mkStF [(0, (.one (.sl true 83 4 (encs c83 z1)))), (1, (I z2)), (5, (I z3))] []
def w_markRecS_H2 (z4 : List Rec) (z5 : Int) : St := mkStF [(0, (.one (.sl true 83 4 (encs c83 z4)))), (1, (I z5))] []
theorem w_markRecS_t (xA : List Rec) (xK : Int) (r : Int × List Rec) (h : w_markRecS xA xK = some r) : Gives Tryz.prog 18 [.sv (.one (.sl true 83 4 (encs c83 xA))), .sv (I xK)] (I r.1) (.sv (.one (.sl true 83 4 (encs c83 r.2))) :: List.replicate 1 .gone) := by
 unfold w_markRecS at h
 refine gives_lent Tryz.func18 rfl ?_
 rw [Tryz.ntmps18]
 refine Wp.seq (Wp.region ?_)
 refine LWp.o 4 (I 0) ?_
 refine LWp.nil ?_
 refine Wp.seq ?_
 refine Wp.seq (Wp.region ?_)
 refine LWp.o 5 (I 0) ?_
 refine LWp.nil ?_
 refine Wp.l1 h [0, 1, 5] [] (fun s => (w_markRecS_H1 s.1 s.2.1 s.2.2)) [0, 1] [] (fun s => (w_markRecS_H2 s.1 s.2)) ⟨rfl, rfl⟩ ?_ ?_
 · rintro ⟨yA1, yK1, yI1⟩ o (h : w_markRecS_b1 yA1 yK1 yI1 = some o)
   unfold w_markRecS_b1 at h
   change Wp _ _ _ (w_markRecS_H1 yA1 yK1 yI1) _
   refine Wp.seq ?_
   refine Wp.seq (Wp.region ?_)
   refine LWp.o 6 (I yI1) ?_
   refine LWp.o 7 (.one (.view (.slot 0) 0 [] 0)) ?_
   refine LWp.o 8 (I (ln yA1)) ?_ (st_pure (p_ln k83 yA1))
   refine LWp.o 9 (B (decide (yI1 < (ln yA1)))) ?_
   refine LWp.nil ?_
   refine Wp.c h (fun h => ?_) (fun h => ?_)
   · refine Wp.skip ?_
     refine Wp.seq ?_
     refine Wp.block ?_
     refine Wp.seq (Wp.region ?_)
     refine LWp.o 12 (.one (.view (.slot 0) 0 [] 0)) ?_
     refine LWp.o 13 (I yI1) ?_
     refine LWp.o 14 (I yK1) ?_
     refine LWp.p h 15 (fun _ => (.one (.ptr (.slot 0) 0 [0] (Int.toNat yI1 * 4 + 0)))) ?_ (fun x1 gx1 => st_pure (p_ix k83 (.slot 0) [] 0 gx1))
     intro x1 gx1 h
     refine LWp.o 16 (.one (.ptr (.slot 0) 0 [0] (Int.toNat yI1 * 4 + 0))) ?_ (st_pure (p_fa k83 (.slot 0) [0] 0 gx1))
     refine LWp.sb [] (.slot 0) [.sl true 83 4 (encs c83 (si yA1 yI1 (Rec.mk yK1 x1.Vol x1.Arg x1.Chunk)))] ?_ (s_st [] (q := [0]) (cs := [.sl true 83 4 (encs c83 yA1)]) (xs := [.int .i64 yK1]) (At.one (setRow_gi k83 (k := 0) (z := (Rec.mk yK1 x1.Vol x1.Arg x1.Chunk)) gx1 rfl rfl)) (fit_gi k83 (k := 0) gx1 rfl))
     refine LWp.nil ?_
     refine Wp.seq (Wp.region ?_)
     refine LWp.o 17 (I yK1) ?_
     refine LWp.o 18 (I (ad yK1 1)) ?_
     refine LWp.o 1 (I (ad yK1 1)) ?_
     refine LWp.nil ?_
     refine Wp.seq (Wp.region ?_)
     refine LWp.o 19 (.one (.view (.slot 0) 1 [] 0)) ?_
     refine LWp.o 20 (I yI1) ?_
     refine LWp.o 21 (I (ad yK1 1)) ?_
     refine LWp.p h 22 (fun _ => (.one (.ptr (.slot 0) 1 [0] (Int.toNat yI1 * 4 + 0)))) ?_ (fun x2 gx2 => st_pure (p_ix k83 (.slot 0) [] 0 gx2))
     intro x2 gx2 h
     refine LWp.o 23 (.one (.ptr (.slot 0) 1 [0] (Int.toNat yI1 * 4 + 1))) ?_ (st_pure (p_fa k83 (.slot 0) [0] 0 gx2))
     refine LWp.sb [] (.slot 0) [.sl true 83 4 (encs c83 (si (si yA1 yI1 (Rec.mk yK1 x1.Vol x1.Arg x1.Chunk)) yI1 (Rec.mk x2.Kind (ad yK1 1) x2.Arg x2.Chunk)))] ?_ (s_st [] (q := [0]) (cs := [.sl true 83 4 (encs c83 (si yA1 yI1 (Rec.mk yK1 x1.Vol x1.Arg x1.Chunk)))]) (xs := [.int .i64 (ad yK1 1)]) (At.one (setRow_gi k83 (k := 1) (z := (Rec.mk x2.Kind (ad yK1 1) x2.Arg x2.Chunk)) gx2 rfl rfl)) (fit_gi k83 (k := 1) gx2 rfl))
     refine LWp.nil ?_
     refine Wp.seq (Wp.region ?_)
     refine LWp.o 24 (I (ad yK1 1)) ?_
     refine LWp.o 25 (I (ad (ad yK1 1) 1)) ?_
     refine LWp.o 1 (I (ad (ad yK1 1) 1)) ?_
     refine LWp.nil ?_
     refine Wp.seq (Wp.region ?_)
     refine LWp.o 26 (.one (.view (.slot 0) 2 [] 0)) ?_
     refine LWp.o 27 (I yI1) ?_
     refine LWp.o 28 (I (ad (ad yK1 1) 1)) ?_
     refine LWp.p h 29 (fun _ => (.one (.ptr (.slot 0) 2 [0] (Int.toNat yI1 * 4 + 0)))) ?_ (fun x3 gx3 => st_pure (p_ix k83 (.slot 0) [] 0 gx3))
     intro x3 gx3 h
     refine LWp.o 30 (.one (.ptr (.slot 0) 2 [0] (Int.toNat yI1 * 4 + 2))) ?_ (st_pure (p_fa k83 (.slot 0) [0] 0 gx3))
     refine LWp.sb [] (.slot 0) [.sl true 83 4 (encs c83 (si (si (si yA1 yI1 (Rec.mk yK1 x1.Vol x1.Arg x1.Chunk)) yI1 (Rec.mk x2.Kind (ad yK1 1) x2.Arg x2.Chunk)) yI1 (Rec.mk x3.Kind x3.Vol (ad (ad yK1 1) 1) x3.Chunk)))] ?_ (s_st [] (q := [0]) (cs := [.sl true 83 4 (encs c83 (si (si yA1 yI1 (Rec.mk yK1 x1.Vol x1.Arg x1.Chunk)) yI1 (Rec.mk x2.Kind (ad yK1 1) x2.Arg x2.Chunk)))]) (xs := [.int .i64 (ad (ad yK1 1) 1)]) (At.one (setRow_gi k83 (k := 2) (z := (Rec.mk x3.Kind x3.Vol (ad (ad yK1 1) 1) x3.Chunk)) gx3 rfl rfl)) (fit_gi k83 (k := 2) gx3 rfl))
     refine LWp.nil ?_
     refine Wp.seq (Wp.region ?_)
     refine LWp.o 31 (I (ad (ad yK1 1) 1)) ?_
     refine LWp.o 32 (I (ad (ad (ad yK1 1) 1) 1)) ?_
     refine LWp.o 1 (I (ad (ad (ad yK1 1) 1) 1)) ?_
     refine LWp.nil ?_
     refine Wp.seq (Wp.region ?_)
     refine LWp.o 33 (.one (.view (.slot 0) 3 [] 0)) ?_
     refine LWp.o 34 (I yI1) ?_
     refine LWp.o 35 (I (ad (ad (ad yK1 1) 1) 1)) ?_
     refine LWp.p h 36 (fun _ => (.one (.ptr (.slot 0) 3 [0] (Int.toNat yI1 * 4 + 0)))) ?_ (fun x4 gx4 => st_pure (p_ix k83 (.slot 0) [] 0 gx4))
     intro x4 gx4 h
     refine LWp.o 37 (.one (.ptr (.slot 0) 3 [0] (Int.toNat yI1 * 4 + 3))) ?_ (st_pure (p_fa k83 (.slot 0) [0] 0 gx4))
     refine LWp.sb [] (.slot 0) [.sl true 83 4 (encs c83 (si (si (si (si yA1 yI1 (Rec.mk yK1 x1.Vol x1.Arg x1.Chunk)) yI1 (Rec.mk x2.Kind (ad yK1 1) x2.Arg x2.Chunk)) yI1 (Rec.mk x3.Kind x3.Vol (ad (ad yK1 1) 1) x3.Chunk)) yI1 (Rec.mk x4.Kind x4.Vol x4.Arg (ad (ad (ad yK1 1) 1) 1))))] ?_ (s_st [] (q := [0]) (cs := [.sl true 83 4 (encs c83 (si (si (si yA1 yI1 (Rec.mk yK1 x1.Vol x1.Arg x1.Chunk)) yI1 (Rec.mk x2.Kind (ad yK1 1) x2.Arg x2.Chunk)) yI1 (Rec.mk x3.Kind x3.Vol (ad (ad yK1 1) 1) x3.Chunk)))]) (xs := [.int .i64 (ad (ad (ad yK1 1) 1) 1)]) (At.one (setRow_gi k83 (k := 3) (z := (Rec.mk x4.Kind x4.Vol x4.Arg (ad (ad (ad yK1 1) 1) 1))) gx4 rfl rfl)) (fit_gi k83 (k := 3) gx4 rfl))
     refine LWp.nil ?_
     refine Wp.region ?_
     refine LWp.o 38 (I (ad (ad (ad yK1 1) 1) 1)) ?_
     refine LWp.o 39 (I (ad (ad (ad (ad yK1 1) 1) 1) 1)) ?_
     refine LWp.o 1 (I (ad (ad (ad (ad yK1 1) 1) 1) 1)) ?_
     refine LWp.nil ?_
     refine Wp.region ?_
     refine LWp.o 10 (I yI1) ?_
     refine LWp.o 11 (I (ad yI1 1)) ?_
     refine LWp.o 5 (I (ad yI1 1)) ?_
     refine LWp.nil ?_
     cases h
     exact ⟨_, rfl, rfl, rfl⟩
   refine Wp.exit ?_
   cases h
   exact ⟨_, rfl, rfl, rfl⟩
 intro v1 h E hE
 refine nt_wp hE ?_
 change Wp _ _ _ (w_markRecS_H2 v1.1 v1.2) _
 refine Wp.seq (Wp.region ?_)
 refine LWp.o 40 (I v1.2) ?_
 refine LWp.o 4 (I v1.2) ?_
 refine LWp.nil ?_
 cases h
 exact Wp.ret ⟨.inr rfl, _, _, rfl, rfl, rfl, rfl⟩
def w_markStepS_H1 (z1 : List Step) (z2 : Int) (z3 : Int) : St := mkStF [(0, (.one (.sl true 99 4 (encs c99 z1)))), (1, (I z2)), (5, (I z3))] []
def w_markStepS_H2 (z4 : List Step) (z5 : Int) : St := mkStF [(0, (.one (.sl true 99 4 (encs c99 z4)))), (1, (I z5))] []
theorem w_markStepS_t (xA : List Step) (xK : Int) (r : Int × List Step) (h : w_markStepS xA xK = some r) : Gives Tryz.prog 19 [.sv (.one (.sl true 99 4 (encs c99 xA))), .sv (I xK)] (I r.1) (.sv (.one (.sl true 99 4 (encs c99 r.2))) :: List.replicate 1 .gone) := by
 unfold w_markStepS at h
 refine gives_lent Tryz.func19 rfl ?_
 rw [Tryz.ntmps19]
 refine Wp.seq (Wp.region ?_)
 refine LWp.o 4 (I 0) ?_
 refine LWp.nil ?_
 refine Wp.seq ?_
 refine Wp.seq (Wp.region ?_)
 refine LWp.o 5 (I 0) ?_
 refine LWp.nil ?_
 refine Wp.l1 h [0, 1, 5] [] (fun s => (w_markStepS_H1 s.1 s.2.1 s.2.2)) [0, 1] [] (fun s => (w_markStepS_H2 s.1 s.2)) ⟨rfl, rfl⟩ ?_ ?_
 · rintro ⟨yA1, yK1, yI1⟩ o (h : w_markStepS_b1 yA1 yK1 yI1 = some o)
   unfold w_markStepS_b1 at h
   change Wp _ _ _ (w_markStepS_H1 yA1 yK1 yI1) _
   refine Wp.seq ?_
   refine Wp.seq (Wp.region ?_)
   refine LWp.o 6 (I yI1) ?_
   refine LWp.o 7 (.one (.view (.slot 0) 0 [] 0)) ?_
   refine LWp.o 8 (I (ln yA1)) ?_ (st_pure (p_ln k99 yA1))
   refine LWp.o 9 (B (decide (yI1 < (ln yA1)))) ?_
   refine LWp.nil ?_
   refine Wp.c h (fun h => ?_) (fun h => ?_)
   · refine Wp.skip ?_
     refine Wp.seq ?_
     refine Wp.block ?_
     refine Wp.seq (Wp.region ?_)
     refine LWp.o 12 (.one (.view (.slot 0) 0 [] 0)) ?_
     refine LWp.o 13 (I yI1) ?_
     refine LWp.o 14 (I yK1) ?_
     refine LWp.p h 15 (fun _ => (.one (.ptr (.slot 0) 0 [0] (Int.toNat yI1 * 4 + 0)))) ?_ (fun x1 gx1 => st_pure (p_ix k99 (.slot 0) [] 0 gx1))
     intro x1 gx1 h
     refine LWp.o 16 (.one (.ptr (.slot 0) 0 [0] (Int.toNat yI1 * 4 + 0))) ?_ (st_pure (p_fa k99 (.slot 0) [0] 0 gx1))
     refine LWp.sb [] (.slot 0) [.sl true 99 4 (encs c99 (si yA1 yI1 (Step.mk yK1 x1.Block x1.Leaf x1.Text)))] ?_ (s_st [] (q := [0]) (cs := [.sl true 99 4 (encs c99 yA1)]) (xs := [.int .i64 yK1]) (At.one (setRow_gi k99 (k := 0) (z := (Step.mk yK1 x1.Block x1.Leaf x1.Text)) gx1 rfl rfl)) (fit_gi k99 (k := 0) gx1 rfl))
     refine LWp.nil ?_
     refine Wp.seq (Wp.region ?_)
     refine LWp.o 17 (I yK1) ?_
     refine LWp.o 18 (I (ad yK1 1)) ?_
     refine LWp.o 1 (I (ad yK1 1)) ?_
     refine LWp.nil ?_
     refine Wp.seq (Wp.region ?_)
     refine LWp.o 19 (.one (.view (.slot 0) 1 [] 0)) ?_
     refine LWp.o 20 (I yI1) ?_
     refine LWp.o 21 (I (ad yK1 1)) ?_
     refine LWp.p h 22 (fun _ => (.one (.ptr (.slot 0) 1 [0] (Int.toNat yI1 * 4 + 0)))) ?_ (fun x2 gx2 => st_pure (p_ix k99 (.slot 0) [] 0 gx2))
     intro x2 gx2 h
     refine LWp.o 23 (.one (.ptr (.slot 0) 1 [0] (Int.toNat yI1 * 4 + 1))) ?_ (st_pure (p_fa k99 (.slot 0) [0] 0 gx2))
     refine LWp.sb [] (.slot 0) [.sl true 99 4 (encs c99 (si (si yA1 yI1 (Step.mk yK1 x1.Block x1.Leaf x1.Text)) yI1 (Step.mk x2.Kind (ad yK1 1) x2.Leaf x2.Text)))] ?_ (s_st [] (q := [0]) (cs := [.sl true 99 4 (encs c99 (si yA1 yI1 (Step.mk yK1 x1.Block x1.Leaf x1.Text)))]) (xs := [.int .i64 (ad yK1 1)]) (At.one (setRow_gi k99 (k := 1) (z := (Step.mk x2.Kind (ad yK1 1) x2.Leaf x2.Text)) gx2 rfl rfl)) (fit_gi k99 (k := 1) gx2 rfl))
     refine LWp.nil ?_
     refine Wp.seq (Wp.region ?_)
     refine LWp.o 24 (I (ad yK1 1)) ?_
     refine LWp.o 25 (I (ad (ad yK1 1) 1)) ?_
     refine LWp.o 1 (I (ad (ad yK1 1) 1)) ?_
     refine LWp.nil ?_
     refine Wp.seq (Wp.region ?_)
     refine LWp.o 26 (.one (.view (.slot 0) 2 [] 0)) ?_
     refine LWp.o 27 (I yI1) ?_
     refine LWp.o 28 (I (ad (ad yK1 1) 1)) ?_
     refine LWp.p h 29 (fun _ => (.one (.ptr (.slot 0) 2 [0] (Int.toNat yI1 * 4 + 0)))) ?_ (fun x3 gx3 => st_pure (p_ix k99 (.slot 0) [] 0 gx3))
     intro x3 gx3 h
     refine LWp.o 30 (.one (.ptr (.slot 0) 2 [0] (Int.toNat yI1 * 4 + 2))) ?_ (st_pure (p_fa k99 (.slot 0) [0] 0 gx3))
     refine LWp.sb [] (.slot 0) [.sl true 99 4 (encs c99 (si (si (si yA1 yI1 (Step.mk yK1 x1.Block x1.Leaf x1.Text)) yI1 (Step.mk x2.Kind (ad yK1 1) x2.Leaf x2.Text)) yI1 (Step.mk x3.Kind x3.Block (ad (ad yK1 1) 1) x3.Text)))] ?_ (s_st [] (q := [0]) (cs := [.sl true 99 4 (encs c99 (si (si yA1 yI1 (Step.mk yK1 x1.Block x1.Leaf x1.Text)) yI1 (Step.mk x2.Kind (ad yK1 1) x2.Leaf x2.Text)))]) (xs := [.int .i64 (ad (ad yK1 1) 1)]) (At.one (setRow_gi k99 (k := 2) (z := (Step.mk x3.Kind x3.Block (ad (ad yK1 1) 1) x3.Text)) gx3 rfl rfl)) (fit_gi k99 (k := 2) gx3 rfl))
     refine LWp.nil ?_
     refine Wp.seq (Wp.region ?_)
     refine LWp.o 31 (I (ad (ad yK1 1) 1)) ?_
     refine LWp.o 32 (I (ad (ad (ad yK1 1) 1) 1)) ?_
     refine LWp.o 1 (I (ad (ad (ad yK1 1) 1) 1)) ?_
     refine LWp.nil ?_
     refine Wp.seq (Wp.region ?_)
     refine LWp.o 33 (.one (.view (.slot 0) 3 [] 0)) ?_
     refine LWp.o 34 (I yI1) ?_
     refine LWp.o 35 (I (ad (ad (ad yK1 1) 1) 1)) ?_
     refine LWp.cl h 36 (fun v1 => (Y v1)) rfl (l := [.sv (.one (.int .i64 (ad (ad (ad yK1 1) 1) 1)))]) rfl (fun v hv => w_markText_t (ad (ad (ad yK1 1) 1) 1) v hv) (.inl rfl) ?_
     intro v1 gv1 h
     refine LWp.p h 37 (fun _ => (.one (.ptr (.slot 0) 3 [0] (Int.toNat yI1 * 4 + 0)))) ?_ (fun x4 gx4 => st_pure (p_ix k99 (.slot 0) [] 0 gx4))
     intro x4 gx4 h
     refine LWp.o 38 (.one (.ptr (.slot 0) 3 [0] (Int.toNat yI1 * 4 + 3))) ?_ (st_pure (p_fa k99 (.slot 0) [0] 0 gx4))
     refine LWp.sb [] (.slot 0) [.sl true 99 4 (encs c99 (si (si (si (si yA1 yI1 (Step.mk yK1 x1.Block x1.Leaf x1.Text)) yI1 (Step.mk x2.Kind (ad yK1 1) x2.Leaf x2.Text)) yI1 (Step.mk x3.Kind x3.Block (ad (ad yK1 1) 1) x3.Text)) yI1 (Step.mk x4.Kind x4.Block x4.Leaf v1)))] ?_ (s_st [] (q := [0]) (cs := [.sl true 99 4 (encs c99 (si (si (si yA1 yI1 (Step.mk yK1 x1.Block x1.Leaf x1.Text)) yI1 (Step.mk x2.Kind (ad yK1 1) x2.Leaf x2.Text)) yI1 (Step.mk x3.Kind x3.Block (ad (ad yK1 1) 1) x3.Text)))]) (xs := [.str v1]) (At.one (setRow_gi k99 (k := 3) (z := (Step.mk x4.Kind x4.Block x4.Leaf v1)) gx4 rfl rfl)) (fit_gi k99 (k := 3) gx4 rfl))
     refine LWp.nil ?_
     refine Wp.region ?_
     refine LWp.o 39 (I (ad (ad (ad yK1 1) 1) 1)) ?_
     refine LWp.o 40 (I (ad (ad (ad (ad yK1 1) 1) 1) 1)) ?_
     refine LWp.o 1 (I (ad (ad (ad (ad yK1 1) 1) 1) 1)) ?_
     refine LWp.nil ?_
     refine Wp.region ?_
     refine LWp.o 10 (I yI1) ?_
     refine LWp.o 11 (I (ad yI1 1)) ?_
     refine LWp.o 5 (I (ad yI1 1)) ?_
     refine LWp.nil ?_
     cases h
     exact ⟨_, rfl, rfl, rfl⟩
   refine Wp.exit ?_
   cases h
   exact ⟨_, rfl, rfl, rfl⟩
 intro v2 h E hE
 refine nt_wp hE ?_
 change Wp _ _ _ (w_markStepS_H2 v2.1 v2.2) _
 refine Wp.seq (Wp.region ?_)
 refine LWp.o 41 (I v2.2) ?_
 refine LWp.o 4 (I v2.2) ?_
 refine LWp.nil ?_
 cases h
 exact Wp.ret ⟨.inr rfl, _, _, rfl, rfl, rfl, rfl⟩
def w_heldStepS_H1 (xA : List Step) (z1 : Int) (z2 : Int) : St := mkSt [(0, (.one (.sl false 99 4 (encs c99 xA)))), (1, (I z1)), (5, (I z2))] []
def w_heldStepS_H2 (z3 : Int) : St := mkSt [(1, (I z3))] []
theorem w_heldStepS_t (xA : List Step) (xK : Int) (r : Int) (h : w_heldStepS xA xK = some r) : Gives Tryz.prog 20 [.sv (.one (.sl false 99 4 (encs c99 xA))), .sv (I xK)] (I r) (List.replicate 2 .gone) := by
 unfold w_heldStepS at h
 refine gives_of Tryz.func20 rfl ?_
 rw [Tryz.ntmps20]
 refine Wp.seq (Wp.region ?_)
 refine LWp.o 4 (I 0) ?_
 refine LWp.nil ?_
 refine Wp.seq ?_
 refine Wp.seq (Wp.region ?_)
 refine LWp.o 5 (I 0) ?_
 refine LWp.nil ?_
 refine Wp.l2 h [0, 1, 5] [] (fun s => (w_heldStepS_H1 xA s.1 s.2)) [1] [] (fun s => (w_heldStepS_H2 s)) ⟨rfl, rfl⟩ ?_ ?_
 · rintro ⟨yK1, yI1⟩ o (h : w_heldStepS_b1 xA yK1 yI1 = some o) hk1
   unfold w_heldStepS_b1 at h
   change Wp _ _ _ (w_heldStepS_H1 xA yK1 yI1) _
   refine Wp.seq ?_
   refine Wp.seq (Wp.region ?_)
   refine LWp.o 6 (I yI1) ?_
   refine LWp.o 7 (.one (.sl false 99 4 (encs c99 xA))) ?_
   refine LWp.o 8 (I (ln xA)) ?_ (st_pure (p_ln k99 xA))
   refine LWp.o 9 (B (decide (yI1 < (ln xA)))) ?_
   refine LWp.nil ?_
   refine Wp.c h (fun h => ?_) (fun h => ?_)
   · refine Wp.skip ?_
     refine Wp.seq ?_
     refine Wp.block ?_
     refine Wp.seq ?_
     refine Wp.seq (Wp.region ?_)
     refine LWp.o 12 (.one (.sl false 99 4 (encs c99 xA))) ?_
     refine LWp.o 13 (I yI1) ?_
     refine LWp.p h 14 (fun _ => (.one (.ptr (.slot 12) 1 [0] (Int.toNat yI1 * 4 + 0)))) ?_ (fun x1 gx1 => st_pure (p_ix k99 (.slot 12) [] 0 gx1))
     intro x1 gx1 h
     refine LWp.o 15 (.one (.ptr (.slot 12) 1 [0] (Int.toNat yI1 * 4 + 0))) ?_ (st_pure (p_fa k99 (.slot 12) [0] 0 gx1))
     refine LWp.o 16 (I x1.Kind) ?_ (st_pure (p_lc k99 (.slot 12) [0] 0 (.int .i64 x1.Kind) gx1))
     refine LWp.o 17 (I yK1) ?_
     refine LWp.o 18 (B (x1.Kind != yK1)) ?_
     refine LWp.nil ?_
     refine Wp.c h (fun h => ?_) (fun h => ?_)
     · refine Wp.seq (Wp.region ?_)
       refine LWp.o 4 (I (-1)) ?_
       refine LWp.nil ?_
       cases h
       replace h : some _ = some _ := hk1 _ rfl
       cases h
       exact Wp.ret ⟨.inr rfl, _, _, rfl, rfl⟩
     refine Wp.skip ?_
     refine Wp.seq (Wp.region ?_)
     refine LWp.o 19 (I yK1) ?_
     refine LWp.o 20 (I (ad yK1 1)) ?_
     refine LWp.o 1 (I (ad yK1 1)) ?_
     refine LWp.nil ?_
     refine Wp.seq ?_
     refine Wp.seq (Wp.region ?_)
     refine LWp.o 21 (.one (.sl false 99 4 (encs c99 xA))) ?_
     refine LWp.o 22 (I yI1) ?_
     refine LWp.p h 23 (fun _ => (.one (.ptr (.slot 21) 1 [0] (Int.toNat yI1 * 4 + 0)))) ?_ (fun x2 gx2 => st_pure (p_ix k99 (.slot 21) [] 0 gx2))
     intro x2 gx2 h
     refine LWp.o 24 (.one (.ptr (.slot 21) 1 [0] (Int.toNat yI1 * 4 + 1))) ?_ (st_pure (p_fa k99 (.slot 21) [0] 0 gx2))
     refine LWp.o 25 (I x2.Block) ?_ (st_pure (p_lc k99 (.slot 21) [0] 1 (.int .i64 x2.Block) gx2))
     refine LWp.o 26 (I (ad yK1 1)) ?_
     refine LWp.o 27 (B (x2.Block != (ad yK1 1))) ?_
     refine LWp.nil ?_
     refine Wp.c h (fun h => ?_) (fun h => ?_)
     · refine Wp.seq (Wp.region ?_)
       refine LWp.o 4 (I (-1)) ?_
       refine LWp.nil ?_
       cases h
       replace h : some _ = some _ := hk1 _ rfl
       cases h
       exact Wp.ret ⟨.inr rfl, _, _, rfl, rfl⟩
     refine Wp.skip ?_
     refine Wp.seq (Wp.region ?_)
     refine LWp.o 28 (I (ad yK1 1)) ?_
     refine LWp.o 29 (I (ad (ad yK1 1) 1)) ?_
     refine LWp.o 1 (I (ad (ad yK1 1) 1)) ?_
     refine LWp.nil ?_
     refine Wp.seq ?_
     refine Wp.seq (Wp.region ?_)
     refine LWp.o 30 (.one (.sl false 99 4 (encs c99 xA))) ?_
     refine LWp.o 31 (I yI1) ?_
     refine LWp.p h 32 (fun _ => (.one (.ptr (.slot 30) 1 [0] (Int.toNat yI1 * 4 + 0)))) ?_ (fun x3 gx3 => st_pure (p_ix k99 (.slot 30) [] 0 gx3))
     intro x3 gx3 h
     refine LWp.o 33 (.one (.ptr (.slot 30) 1 [0] (Int.toNat yI1 * 4 + 2))) ?_ (st_pure (p_fa k99 (.slot 30) [0] 0 gx3))
     refine LWp.o 34 (I x3.Leaf) ?_ (st_pure (p_lc k99 (.slot 30) [0] 2 (.int .i64 x3.Leaf) gx3))
     refine LWp.o 35 (I (ad (ad yK1 1) 1)) ?_
     refine LWp.o 36 (B (x3.Leaf != (ad (ad yK1 1) 1))) ?_
     refine LWp.nil ?_
     refine Wp.c h (fun h => ?_) (fun h => ?_)
     · refine Wp.seq (Wp.region ?_)
       refine LWp.o 4 (I (-1)) ?_
       refine LWp.nil ?_
       cases h
       replace h : some _ = some _ := hk1 _ rfl
       cases h
       exact Wp.ret ⟨.inr rfl, _, _, rfl, rfl⟩
     refine Wp.skip ?_
     refine Wp.seq (Wp.region ?_)
     refine LWp.o 37 (I (ad (ad yK1 1) 1)) ?_
     refine LWp.o 38 (I (ad (ad (ad yK1 1) 1) 1)) ?_
     refine LWp.o 1 (I (ad (ad (ad yK1 1) 1) 1)) ?_
     refine LWp.nil ?_
     refine Wp.seq ?_
     refine Wp.seq ?_
     refine Wp.regionK 8 [] mixed (fun c E h => by rcases h with ⟨h | h, _⟩ <;> cases h) ?_
     refine KWp.o 8 0 39 (.one (.sl false 99 4 (encs c99 xA))) ?_
     refine KWp.o 8 1 40 (I yI1) ?_
     refine KWp.p h 8 2 41 (fun _ => (.one (.ptr (.slot 39) 1 [0] (Int.toNat yI1 * 4 + 0)))) ?_ rfl (fun x4 gx4 => sl_pure (p_ix k99 (.slot 39) [] 0 gx4))
     intro x4 gx4 h
     refine KWp.o 8 3 42 (.one (.ptr (.slot 39) 1 [0] (Int.toNat yI1 * 4 + 3))) ?_ rfl (sl_pure (p_fa k99 (.slot 39) [0] 0 gx4))
     refine KWp.o 8 4 43 (Y x4.Text) ?_ rfl (sl_pure (p_lc k99 (.slot 39) [0] 3 (.str x4.Text) gx4))
     refine KWp.o 8 5 44 (I (ad (ad (ad yK1 1) 1) 1)) ?_
     refine KWp.w1 6 ?_
     refine KOp.cl h 6 45 (fun v1 => (Y v1)) rfl rfl (l := [.sv (.one (.int .i64 (ad (ad (ad yK1 1) 1) 1)))]) rfl (fun v hv => w_markText_t (ad (ad (ad yK1 1) 1) 1) v hv) (.inl rfl) ?_
     intro v1 gv1 h
     refine KWp.o 8 7 46 (B (!(seq x4.Text v1))) ?_
     refine KWp.done ?_
     refine Wp.c h (fun h => ?_) (fun h => ?_)
     · refine Wp.seq (Wp.region ?_)
       refine LWp.o 4 (I (-1)) ?_
       refine LWp.nil ?_
       cases h
       replace h : some _ = some _ := hk1 _ rfl
       cases h
       exact Wp.ret ⟨.inr rfl, _, _, rfl, rfl⟩
     refine Wp.skip ?_
     refine Wp.region ?_
     refine LWp.o 47 (I (ad (ad (ad yK1 1) 1) 1)) ?_
     refine LWp.o 48 (I (ad (ad (ad (ad yK1 1) 1) 1) 1)) ?_
     refine LWp.o 1 (I (ad (ad (ad (ad yK1 1) 1) 1) 1)) ?_
     refine LWp.nil ?_
     refine Wp.region ?_
     refine LWp.o 10 (I yI1) ?_
     refine LWp.o 11 (I (ad yI1 1)) ?_
     refine LWp.o 5 (I (ad yI1 1)) ?_
     refine LWp.nil ?_
     cases h
     exact ⟨_, rfl, rfl, rfl⟩
   refine Wp.exit ?_
   cases h
   exact ⟨_, rfl, rfl, rfl⟩
 intro v2 h E hE
 refine nt_wp hE ?_
 change Wp _ _ _ (w_heldStepS_H2 v2) _
 refine Wp.seq (Wp.region ?_)
 refine LWp.o 49 (I v2) ?_
 refine LWp.o 4 (I v2) ?_
 refine LWp.nil ?_
 cases h
 exact Wp.ret ⟨.inr rfl, _, _, rfl, rfl⟩
def w_FnExactWriteSteps_H1 (xAD : Device) (xARecs : List Rec) (xAText : ByteArray) (v5 : List Step × Bool) (v6 : Device) (v7 : List Rec) (v8 : List Step × Bool) (z1 : Bool) : St := mkSt [(1, (.one (.sl false 92 4 (encs c92 xARecs)))), (2, (Y xAText)), (3, (.one (.ptr (.box 3) 0 [] 0))), (8, (.one (.sl true 99 4 (encs c99 v5.1)))), (9, (B v5.2)), (10, (.one (.ptr (.box 10) 0 [] 0))), (11, (.one (.sl true 83 4 (encs c83 v7)))), (12, (.one (.sl true 99 4 (encs c99 v8.1)))), (13, (B v8.2)), (60, (B z1))] [(.box 3, [.sl false 176 3 (encs (c176 false) xAD.Flash.Blocks), .sl false 188 2 (encs c188 xAD.Store.Vols), .sl false 211 2 (encs (c211 false) xAD.Store.Arena.Knots), .int .i64 xAD.Store.Next, .int .i64 xAD.Seq, .int .i64 xAD.Tx, .int .i64 xAD.Base]), (.box 10, [.sl true 124 3 (encs (c124 true) v6.Flash.Blocks), .sl true 110 2 (encs c110 v6.Store.Vols), .sl true 218 2 (encs (c218 true) v6.Store.Arena.Knots), .int .i64 v6.Store.Next, .int .i64 v6.Seq, .int .i64 v6.Tx, .int .i64 v6.Base])]
def w_FnExactWriteSteps_H2 (xAD : Device) (xARecs : List Rec) (xAText : ByteArray) (v5 : List Step × Bool) (v8 : List Step × Bool) (z2 : Bool) : St := mkSt [(1, (.one (.sl false 92 4 (encs c92 xARecs)))), (2, (Y xAText)), (3, (.one (.ptr (.box 3) 0 [] 0))), (8, (.one (.sl true 99 4 (encs c99 v5.1)))), (9, (B v5.2)), (12, (.one (.sl true 99 4 (encs c99 v8.1)))), (89, (B z2))] [(.box 3, [.sl false 176 3 (encs (c176 false) xAD.Flash.Blocks), .sl false 188 2 (encs c188 xAD.Store.Vols), .sl false 211 2 (encs (c211 false) xAD.Store.Arena.Knots), .int .i64 xAD.Store.Next, .int .i64 xAD.Seq, .int .i64 xAD.Tx, .int .i64 xAD.Base])]
def w_FnExactWriteSteps_H3 (v17 : Int × List Step) (z3 : Bool) : St := mkSt [(12, (.one (.sl true 99 4 (encs c99 v17.2)))), (15, (I v17.1)), (118, (B z3))] []
set_option maxHeartbeats 4000000 in
theorem w_FnExactWriteSteps_t (xAD : Device) (xARecs : List Rec) (xAText : ByteArray) (r : Bool) (h : w_FnExactWriteSteps xAD xARecs xAText = some r) : Gives Tryz.prog 3 [.sv (.agg [.sl false 176 3 (encs (c176 false) xAD.Flash.Blocks), .sl false 188 2 (encs c188 xAD.Store.Vols), .sl false 211 2 (encs (c211 false) xAD.Store.Arena.Knots), .int .i64 xAD.Store.Next, .int .i64 xAD.Seq, .int .i64 xAD.Tx, .int .i64 xAD.Base]), .sv (.one (.sl false 92 4 (encs c92 xARecs))), .sv (Y xAText)] (B r) (List.replicate 3 .gone) := by
 unfold w_FnExactWriteSteps at h
 refine gives_of Tryz.func3 rfl ?_
 rw [Tryz.ntmps3]
 refine Wp.seq (Wp.region ?_)
 refine LWp.b [] 3 [.sl false 176 3 (encs (c176 false) xAD.Flash.Blocks), .sl false 188 2 (encs c188 xAD.Store.Vols), .sl false 211 2 (encs (c211 false) xAD.Store.Arena.Knots), .int .i64 xAD.Store.Next, .int .i64 xAD.Seq, .int .i64 xAD.Tx, .int .i64 xAD.Base] ?_
 refine LWp.o 6 (B false) ?_
 refine LWp.nil ?_
 refine Wp.seq ?_
 refine Wp.seq (Wp.region ?_)
 refine LWp.o 19 (Y xAText) ?_
 refine LWp.o 20 (I (sln xAText)) ?_
 refine LWp.o 21 (B (decide ((sln xAText) > 1048576))) ?_
 refine LWp.nil ?_
 refine Wp.c h (fun h => ?_) (fun h => ?_)
 · refine Wp.seq (Wp.region ?_)
   refine LWp.o 6 (B true) ?_
   refine LWp.nil ?_
   cases h
   exact Wp.ret ⟨.inr rfl, _, _, rfl, rfl⟩
 refine Wp.skip ?_
 refine Wp.seq (Wp.region ?_)
 refine LWp.o 7 (I 1048576) ?_
 refine LWp.nil ?_
 refine Wp.seq (Wp.region ?_)
 refine LWp.o 22 (.agg [.sl false 176 3 (encs (c176 false) xAD.Flash.Blocks), .sl false 188 2 (encs c188 xAD.Store.Vols), .sl false 211 2 (encs (c211 false) xAD.Store.Arena.Knots), .int .i64 xAD.Store.Next, .int .i64 xAD.Seq, .int .i64 xAD.Tx, .int .i64 xAD.Base]) ?_
 refine LWp.o 23 (I 1048576) ?_
 refine LWp.cl h 24 (fun v1 => (I v1)) rfl (l := [.sv (.agg [.sl false 176 3 (encs (c176 false) xAD.Flash.Blocks), .sl false 188 2 (encs c188 xAD.Store.Vols), .sl false 211 2 (encs (c211 false) xAD.Store.Arena.Knots), .int .i64 xAD.Store.Next, .int .i64 xAD.Seq, .int .i64 xAD.Tx, .int .i64 xAD.Base]), .sv (.one (.int .i64 1048576))]) rfl (fun v hv => w_szDevice_t xAD 1048576 v hv) (.inl rfl) ?_
 intro v1 gv1 h
 refine LWp.o 7 (I v1) ?_
 refine LWp.nil ?_
 refine Wp.seq ?_
 refine Wp.seq (Wp.region ?_)
 refine LWp.o 25 (I v1) ?_
 refine LWp.o 26 (B (decide (v1 < 0))) ?_
 refine LWp.nil ?_
 refine Wp.c h (fun h => ?_) (fun h => ?_)
 · refine Wp.seq (Wp.region ?_)
   refine LWp.o 6 (B true) ?_
   refine LWp.nil ?_
   cases h
   exact Wp.ret ⟨.inr rfl, _, _, rfl, rfl⟩
 refine Wp.skip ?_
 refine Wp.seq (Wp.region ?_)
 refine LWp.o 27 (.one (.sl false 92 4 (encs c92 xARecs))) ?_
 refine LWp.o 28 (I v1) ?_
 refine LWp.cl h 29 (fun v2 => (I v2)) rfl (l := [.sv (.one (.sl false 92 4 (encs c92 xARecs))), .sv (.one (.int .i64 v1))]) rfl (fun v hv => w_szRecS_t xARecs v1 v hv) (.inl rfl) ?_
 intro v2 gv2 h
 refine LWp.o 7 (I v2) ?_
 refine LWp.nil ?_
 refine Wp.seq ?_
 refine Wp.seq (Wp.region ?_)
 refine LWp.o 30 (I v2) ?_
 refine LWp.o 31 (B (decide (v2 < 0))) ?_
 refine LWp.nil ?_
 refine Wp.c h (fun h => ?_) (fun h => ?_)
 · refine Wp.seq (Wp.region ?_)
   refine LWp.o 6 (B true) ?_
   refine LWp.nil ?_
   cases h
   exact Wp.ret ⟨.inr rfl, _, _, rfl, rfl⟩
 refine Wp.skip ?_
 refine Wp.seq (Wp.region ?_)
 refine LWp.o 33 (.agg [.sl false 176 3 (encs (c176 false) xAD.Flash.Blocks), .sl false 188 2 (encs c188 xAD.Store.Vols), .sl false 211 2 (encs (c211 false) xAD.Store.Arena.Knots), .int .i64 xAD.Store.Next, .int .i64 xAD.Seq, .int .i64 xAD.Tx, .int .i64 xAD.Base]) ?_
 refine LWp.cl h 34 (fun v3 => (.agg [.sl true 124 3 (encs (c124 true) v3.Flash.Blocks), .sl true 110 2 (encs c110 v3.Store.Vols), .sl true 218 2 (encs (c218 true) v3.Store.Arena.Knots), .int .i64 v3.Store.Next, .int .i64 v3.Seq, .int .i64 v3.Tx, .int .i64 v3.Base])) rfl (l := [.sv (.agg [.sl false 176 3 (encs (c176 false) xAD.Flash.Blocks), .sl false 188 2 (encs c188 xAD.Store.Vols), .sl false 211 2 (encs (c211 false) xAD.Store.Arena.Knots), .int .i64 xAD.Store.Next, .int .i64 xAD.Seq, .int .i64 xAD.Tx, .int .i64 xAD.Base])]) rfl (fun v hv => w_toDevice_t xAD v hv) (.inl rfl) ?_
 intro v3 gv3 h
 refine LWp.o 35 (.one (.sl false 92 4 (encs c92 xARecs))) ?_
 refine LWp.cl h 36 (fun v4 => (.one (.sl true 83 4 (encs c83 v4)))) rfl (l := [.sv (.one (.sl false 92 4 (encs c92 xARecs)))]) rfl (fun v hv => w_toRecS_t xARecs v hv) (.inl rfl) ?_
 intro v4 gv4 h
 refine LWp.o 37 (Y xAText) ?_
 refine LWp.cl h 38 (fun v5 => (.tup [(.one (.sl true 99 4 (encs c99 v5.1))), (B v5.2)])) rfl (l := [.sv (.agg [.sl false 124 3 (shares (encs (c124 true) v3.Flash.Blocks)), .sl false 110 2 (shares (encs c110 v3.Store.Vols)), .sl false 218 2 (shares (encs (c218 true) v3.Store.Arena.Knots)), .int .i64 v3.Store.Next, .int .i64 v3.Seq, .int .i64 v3.Tx, .int .i64 v3.Base]), .sv (.one (.sl false 83 4 (shares (encs c83 v4)))), .sv (.one (.str xAText))]) rfl (fun v hv => cg (l := [.sv (.agg [.sl false 124 3 (shares (encs (c124 true) v3.Flash.Blocks)), .sl false 110 2 (shares (encs c110 v3.Store.Vols)), .sl false 218 2 (shares (encs (c218 true) v3.Store.Arena.Knots)), .int .i64 v3.Store.Next, .int .i64 v3.Seq, .int .i64 v3.Tx, .int .i64 v3.Base]), .sv (.one (.sl false 83 4 (shares (encs c83 v4)))), .sv (.one (.str xAText))]) (by simp only [sh83, sh110, sh124, sh218]) (s_WriteSteps_t v3 v4 xAText v hv)) (.inr (fun v => by simp [svShared, svShareds, hasShareds, hasShared, ns99])) ?_
 intro v5 gv5 h
 refine LWp.mt 38 32 (.tup [(.one (.sl true 99 4 (encs c99 v5.1))), (B v5.2)]) ?_
 refine LWp.e 32 0 39 (.one (.sl true 99 4 (encs c99 v5.1))) ?_
 refine LWp.e 32 1 40 (B v5.2) ?_
 refine LWp.m true [(.slot 39, [.junk])] 8 (.one (.sl true 99 4 (encs c99 v5.1))) ?_
 refine LWp.o 9 (B v5.2) ?_
 refine LWp.nil ?_
 refine Wp.seq (Wp.region ?_)
 refine LWp.o 41 (.agg [.sl false 176 3 (encs (c176 false) xAD.Flash.Blocks), .sl false 188 2 (encs c188 xAD.Store.Vols), .sl false 211 2 (encs (c211 false) xAD.Store.Arena.Knots), .int .i64 xAD.Store.Next, .int .i64 xAD.Seq, .int .i64 xAD.Tx, .int .i64 xAD.Base]) ?_
 refine LWp.cl h 42 (fun v6 => (.agg [.sl true 124 3 (encs (c124 true) v6.Flash.Blocks), .sl true 110 2 (encs c110 v6.Store.Vols), .sl true 218 2 (encs (c218 true) v6.Store.Arena.Knots), .int .i64 v6.Store.Next, .int .i64 v6.Seq, .int .i64 v6.Tx, .int .i64 v6.Base])) rfl (l := [.sv (.agg [.sl false 176 3 (encs (c176 false) xAD.Flash.Blocks), .sl false 188 2 (encs c188 xAD.Store.Vols), .sl false 211 2 (encs (c211 false) xAD.Store.Arena.Knots), .int .i64 xAD.Store.Next, .int .i64 xAD.Seq, .int .i64 xAD.Tx, .int .i64 xAD.Base])]) rfl (fun v hv => w_toDevice_t xAD v hv) (.inl rfl) ?_
 intro v6 gv6 h
 refine LWp.b [] 10 [.sl true 124 3 (encs (c124 true) []), .sl true 110 2 (encs c110 []), .sl true 218 2 (encs (c218 true) []), .int .i64 0, .int .i64 0, .int .i64 0, .int .i64 0] ?_
 refine LWp.sb [(.slot 42, [.junk, .sl true 110 2 (encs c110 v6.Store.Vols), .sl true 218 2 (encs (c218 true) v6.Store.Arena.Knots), .int .i64 v6.Store.Next, .int .i64 v6.Seq, .int .i64 v6.Tx, .int .i64 v6.Base]), (.slot 42, [.junk, .junk, .sl true 218 2 (encs (c218 true) v6.Store.Arena.Knots), .int .i64 v6.Store.Next, .int .i64 v6.Seq, .int .i64 v6.Tx, .int .i64 v6.Base]), (.slot 42, [.junk, .junk, .junk, .int .i64 v6.Store.Next, .int .i64 v6.Seq, .int .i64 v6.Tx, .int .i64 v6.Base])] (.box 10) [.sl true 124 3 (encs (c124 true) v6.Flash.Blocks), .sl true 110 2 (encs c110 v6.Store.Vols), .sl true 218 2 (encs (c218 true) v6.Store.Arena.Knots), .int .i64 v6.Store.Next, .int .i64 v6.Seq, .int .i64 v6.Tx, .int .i64 v6.Base] ?_
 refine LWp.nil ?_
 refine Wp.seq (Wp.region ?_)
 refine LWp.o 43 (.one (.sl false 92 4 (encs c92 xARecs))) ?_
 refine LWp.cl h 44 (fun v7 => (.one (.sl true 83 4 (encs c83 v7)))) rfl (l := [.sv (.one (.sl false 92 4 (encs c92 xARecs)))]) rfl (fun v hv => w_toRecS_t xARecs v hv) (.inl rfl) ?_
 intro v7 gv7 h
 refine LWp.m true [(.slot 44, [.junk])] 11 (.one (.sl true 83 4 (encs c83 v7))) ?_
 refine LWp.nil ?_
 refine Wp.seq (Wp.region ?_)
 refine LWp.o 46 (.agg [.view (.box 10) 2 [] 0, .view (.box 10) 2 [] 1, .view (.box 10) 2 [] 2, .int .i64 v6.Store.Next, .int .i64 v6.Seq, .int .i64 v6.Tx, .int .i64 v6.Base]) ?_
 refine LWp.o 47 (.one (.view (.slot 11) 1 [] 0)) ?_
 refine LWp.o 48 (Y xAText) ?_
 refine LWp.cl h 49 (fun v8 => (.tup [(.one (.sl true 99 4 (encs c99 v8.1))), (B v8.2)])) rfl (l := [.sv (.agg [.sl false 124 3 (shares (encs (c124 true) v6.Flash.Blocks)), .sl false 110 2 (shares (encs c110 v6.Store.Vols)), .sl false 218 2 (shares (encs (c218 true) v6.Store.Arena.Knots)), .int .i64 v6.Store.Next, .int .i64 v6.Seq, .int .i64 v6.Tx, .int .i64 v6.Base]), .sv (.one (.sl false 83 4 (shares (encs c83 v7)))), .sv (.one (.str xAText))]) rfl (fun v hv => cg (l := [.sv (.agg [.sl false 124 3 (shares (encs (c124 true) v6.Flash.Blocks)), .sl false 110 2 (shares (encs c110 v6.Store.Vols)), .sl false 218 2 (shares (encs (c218 true) v6.Store.Arena.Knots)), .int .i64 v6.Store.Next, .int .i64 v6.Seq, .int .i64 v6.Tx, .int .i64 v6.Base]), .sv (.one (.sl false 83 4 (shares (encs c83 v7)))), .sv (.one (.str xAText))]) (by simp only [sh83, sh110, sh124, sh218]) (i_WriteSteps_t v6 v7 xAText v hv)) (.inr (fun v => by simp [svShared, svShareds, hasShareds, hasShared, ns99])) ?_
 intro v8 gv8 h
 refine LWp.mt 49 45 (.tup [(.one (.sl true 99 4 (encs c99 v8.1))), (B v8.2)]) ?_
 refine LWp.e 45 0 50 (.one (.sl true 99 4 (encs c99 v8.1))) ?_
 refine LWp.e 45 1 51 (B v8.2) ?_
 refine LWp.m true [(.slot 50, [.junk])] 12 (.one (.sl true 99 4 (encs c99 v8.1))) ?_
 refine LWp.o 13 (B v8.2) ?_
 refine LWp.nil ?_
 refine Wp.seq ?_
 refine Wp.seq ?_
 refine Wp.j1 h [1, 2, 3, 8, 9, 10, 11, 12, 13, 60] [.box 3, .box 10] (fun a => (w_FnExactWriteSteps_H1 xAD xARecs xAText v5 v6 v7 v8 a)) ?_ ?_
 · intro a h
   refine Wp.region ?_
   refine LWp.o 52 (.one (.view (.slot 12) 1 [] 0)) ?_
   refine LWp.o 53 (.one (.view (.slot 8) 1 [] 0)) ?_
   refine LWp.cl h 54 (fun v9 => (B v9)) rfl (l := [.sv (.one (.sl false 99 4 (shares (encs c99 v8.1)))), .sv (.one (.sl false 99 4 (shares (encs c99 v5.1))))]) rfl (fun v hv => cg (l := [.sv (.one (.sl false 99 4 (shares (encs c99 v8.1)))), .sv (.one (.sl false 99 4 (shares (encs c99 v5.1))))]) (by simp only [sh99]) (w_eqStepS_t v8.1 v5.1 v hv)) (.inr (fun v => rfl)) ?_
   intro v9 gv9 h
   refine LWp.o 55 (B (!v9)) ?_
   refine LWp.o 56 (B (!v9)) ?_
   refine LWp.sp h 56 (fun h => ?_) (fun h => ?_)
   · refine LWp.sh 57 ?_
     refine LWp.sh 58 ?_
     refine LWp.sh 59 ?_
     refine LWp.o 60 (B true) ?_
     refine LWp.nil ?_
     cases h
     exact ⟨_, rfl, rfl, rfl⟩
   refine LWp.o 57 (B v8.2) ?_
   refine LWp.o 58 (B v5.2) ?_
   refine LWp.o 59 (B (!(v8.2 == v5.2))) ?_
   refine LWp.o 60 (B (!(v8.2 == v5.2))) ?_
   refine LWp.nil ?_
   cases h
   exact ⟨_, rfl, rfl, rfl⟩
 intro j1 h E hE
 refine nt_wp hE ?_
 change Wp _ _ _ (w_FnExactWriteSteps_H1 xAD xARecs xAText v5 v6 v7 v8 j1) _
 refine Wp.c h (fun h => ?_) (fun h => ?_)
 · refine Wp.seq (Wp.region ?_)
   refine LWp.o 6 (B false) ?_
   refine LWp.nil ?_
   cases h
   exact Wp.ret ⟨.inr rfl, _, _, rfl, rfl⟩
 refine Wp.skip ?_
 refine Wp.seq ?_
 refine Wp.seq ?_
 refine Wp.regionK 5 [] mixed (fun c E h => by rcases h with ⟨h | h, _⟩ <;> cases h) ?_
 refine KWp.o 5 0 61 (.agg [.view (.box 10) 0 [] 0, .view (.box 10) 0 [] 1, .view (.box 10) 0 [] 2, .int .i64 v6.Store.Next, .int .i64 v6.Seq, .int .i64 v6.Tx, .int .i64 v6.Base]) ?_
 refine KWp.o 5 1 62 (.agg [.sl false 176 3 (encs (c176 false) xAD.Flash.Blocks), .sl false 188 2 (encs c188 xAD.Store.Vols), .sl false 211 2 (encs (c211 false) xAD.Store.Arena.Knots), .int .i64 xAD.Store.Next, .int .i64 xAD.Seq, .int .i64 xAD.Tx, .int .i64 xAD.Base]) ?_
 refine KWp.w1 2 ?_
 refine KOp.cl h 2 63 (fun v10 => (.agg [.sl true 124 3 (encs (c124 true) v10.Flash.Blocks), .sl true 110 2 (encs c110 v10.Store.Vols), .sl true 218 2 (encs (c218 true) v10.Store.Arena.Knots), .int .i64 v10.Store.Next, .int .i64 v10.Seq, .int .i64 v10.Tx, .int .i64 v10.Base])) rfl rfl (l := [.sv (.agg [.sl false 176 3 (encs (c176 false) xAD.Flash.Blocks), .sl false 188 2 (encs c188 xAD.Store.Vols), .sl false 211 2 (encs (c211 false) xAD.Store.Arena.Knots), .int .i64 xAD.Store.Next, .int .i64 xAD.Seq, .int .i64 xAD.Tx, .int .i64 xAD.Base])]) rfl (fun v hv => w_toDevice_t xAD v hv) (.inl rfl) ?_
 intro v10 gv10 h
 refine KWp.w1 3 ?_
 refine KOp.cl h 3 64 (fun v11 => (B v11)) rfl rfl (l := [.sv (.agg [.sl false 124 3 (shares (encs (c124 true) v6.Flash.Blocks)), .sl false 110 2 (shares (encs c110 v6.Store.Vols)), .sl false 218 2 (shares (encs (c218 true) v6.Store.Arena.Knots)), .int .i64 v6.Store.Next, .int .i64 v6.Seq, .int .i64 v6.Tx, .int .i64 v6.Base]), .sv (.agg [.sl false 124 3 (shares (encs (c124 true) v10.Flash.Blocks)), .sl false 110 2 (shares (encs c110 v10.Store.Vols)), .sl false 218 2 (shares (encs (c218 true) v10.Store.Arena.Knots)), .int .i64 v10.Store.Next, .int .i64 v10.Seq, .int .i64 v10.Tx, .int .i64 v10.Base])]) rfl (fun v hv => cg (l := [.sv (.agg [.sl false 124 3 (shares (encs (c124 true) v6.Flash.Blocks)), .sl false 110 2 (shares (encs c110 v6.Store.Vols)), .sl false 218 2 (shares (encs (c218 true) v6.Store.Arena.Knots)), .int .i64 v6.Store.Next, .int .i64 v6.Seq, .int .i64 v6.Tx, .int .i64 v6.Base]), .sv (.agg [.sl false 124 3 (shares (encs (c124 true) v10.Flash.Blocks)), .sl false 110 2 (shares (encs c110 v10.Store.Vols)), .sl false 218 2 (shares (encs (c218 true) v10.Store.Arena.Knots)), .int .i64 v10.Store.Next, .int .i64 v10.Seq, .int .i64 v10.Tx, .int .i64 v10.Base])]) (by simp only [sh110, sh124, sh218]) (w_eqDevice_t v6 v10 v hv)) (.inr (fun v => rfl)) ?_
 intro v11 gv11 h
 refine KWp.o 5 4 65 (B (!v11)) ?_
 refine KWp.done ?_
 refine Wp.c h (fun h => ?_) (fun h => ?_)
 · refine Wp.seq (Wp.region ?_)
   refine LWp.o 6 (B false) ?_
   refine LWp.nil ?_
   cases h
   exact Wp.ret ⟨.inr rfl, _, _, rfl, rfl⟩
 refine Wp.skip ?_
 refine Wp.seq ?_
 refine Wp.seq (Wp.region ?_)
 refine LWp.o 66 (.one (.view (.slot 11) 0 [] 0)) ?_
 refine LWp.o 67 (.one (.sl false 92 4 (encs c92 xARecs))) ?_
 refine LWp.cl h 68 (fun v12 => (.one (.sl true 83 4 (encs c83 v12)))) rfl (l := [.sv (.one (.sl false 92 4 (encs c92 xARecs)))]) rfl (fun v hv => w_toRecS_t xARecs v hv) (.inl rfl) ?_
 intro v12 gv12 h
 refine LWp.cl h 69 (fun v13 => (B v13)) rfl (l := [.sv (.one (.sl false 83 4 (shares (encs c83 v7)))), .sv (.one (.sl false 83 4 (shares (encs c83 v12))))]) rfl (fun v hv => cg (l := [.sv (.one (.sl false 83 4 (shares (encs c83 v7)))), .sv (.one (.sl false 83 4 (shares (encs c83 v12))))]) (by simp only [sh83]) (w_eqRecS_t v7 v12 v hv)) (.inr (fun v => rfl)) ?_
 intro v13 gv13 h
 refine LWp.o 70 (B (!v13)) ?_
 refine LWp.nil ?_
 refine Wp.c h (fun h => ?_) (fun h => ?_)
 · refine Wp.seq (Wp.region ?_)
   refine LWp.o 6 (B false) ?_
   refine LWp.nil ?_
   cases h
   exact Wp.ret ⟨.inr rfl, _, _, rfl, rfl⟩
 refine Wp.skip ?_
 refine Wp.seq (Wp.region ?_)
 refine LWp.o 14 (I 1) ?_
 refine LWp.nil ?_
 refine Wp.seq (Wp.region ?_)
 refine LWp.o 71 (.agg [.view (.box 10) 0 [] 0, .view (.box 10) 0 [] 1, .view (.box 10) 0 [] 2, .int .i64 v6.Store.Next, .int .i64 v6.Seq, .int .i64 v6.Tx, .int .i64 v6.Base]) ?_
 refine LWp.o 72 (I 1) ?_
 refine LWp.cv h [(true, 49, .tmp 71), (false, 3, .tmp 72)] [(.box 10, [.junk, .sl true 110 2 (encs c110 v6.Store.Vols), .sl true 218 2 (encs (c218 true) v6.Store.Arena.Knots), .int .i64 v6.Store.Next, .int .i64 v6.Seq, .int .i64 v6.Tx, .int .i64 v6.Base]), (.box 10, [.junk, .junk, .sl true 218 2 (encs (c218 true) v6.Store.Arena.Knots), .int .i64 v6.Store.Next, .int .i64 v6.Seq, .int .i64 v6.Tx, .int .i64 v6.Base]), (.box 10, [.junk, .junk, .junk, .int .i64 v6.Store.Next, .int .i64 v6.Seq, .int .i64 v6.Tx, .int .i64 v6.Base])] 73 (fun v14 => (I v14)) rfl rfl rfl (avl := [.sv (.agg [.sl true 124 3 (encs (c124 true) v6.Flash.Blocks), .sl true 110 2 (encs c110 v6.Store.Vols), .sl true 218 2 (encs (c218 true) v6.Store.Arena.Knots), .int .i64 v6.Store.Next, .int .i64 v6.Seq, .int .i64 v6.Tx, .int .i64 v6.Base]), .sv (.one (.int .i64 1))]) rfl (fun v hv => w_markDevice_t v6 1 v hv) (.inl rfl) ?_
 intro v14 gv14 h
 refine LWp.o 14 (I v14) ?_
 refine LWp.nil ?_
 refine Wp.seq (Wp.region ?_)
 refine LWp.o 74 (.one (.view (.slot 11) 0 [] 0)) ?_
 refine LWp.o 75 (I v14) ?_
 refine LWp.leb h (.slot 11) [] 0 [.sl true 83 4 (encs c83 v7)] 76 (e := 83) (sz := 4) (encs c83 v7) v14 (fun v => v.1) (fun v15 => (encs c83 v15.2)) (fun v15 => [.sl true 83 4 (encs c83 v15.2)]) rfl (fun v15 => At.nl rfl) rfl (fun v hv => w_markRecS_t v7 v14 v hv) (ns83 _) (fun _ => ns83 _) ?_ (.inl ⟨11, _, rfl, rfl, rfl, rfl, fun _ _ _ _ _ _ _ h => h⟩)
 intro v15 gv15 h
 refine LWp.o 14 (I v15.1) ?_
 refine LWp.nil ?_
 refine Wp.seq ?_
 refine Wp.seq ?_
 refine Wp.j1 h [1, 2, 3, 8, 9, 12, 89] [.box 3] (fun a => (w_FnExactWriteSteps_H2 xAD xARecs xAText v5 v8 a)) ?_ ?_
 · intro a h
   refine Wp.region ?_
   refine LWp.o 77 (I v15.1) ?_
   refine LWp.o 78 (B (decide (v15.1 < 0))) ?_
   refine LWp.o 79 (B (decide (v15.1 < 0))) ?_
   refine LWp.sp h 79 (fun h => ?_) (fun h => ?_)
   · refine LWp.sh 80 ?_
     refine LWp.sh 81 ?_
     refine LWp.sh 82 ?_
     refine LWp.sh 83 ?_
     refine LWp.o 84 (B true) ?_
     refine LWp.o 85 (B true) ?_
     refine LWp.sh 86 ?_
     refine LWp.sh 87 ?_
     refine LWp.sh 88 ?_
     refine LWp.o 89 (B true) ?_
     refine LWp.nil ?_
     cases h
     exact ⟨_, rfl, rfl, rfl⟩
   refine LWp.o 80 (.one (.view (.slot 12) 0 [] 0)) ?_
   refine LWp.o 81 (.one (.view (.slot 8) 0 [] 0)) ?_
   refine LWp.cl h 82 (fun v16 => (B v16)) rfl (l := [.sv (.one (.sl false 99 4 (shares (encs c99 v8.1)))), .sv (.one (.sl false 99 4 (shares (encs c99 v5.1))))]) rfl (fun v hv => cg (l := [.sv (.one (.sl false 99 4 (shares (encs c99 v8.1)))), .sv (.one (.sl false 99 4 (shares (encs c99 v5.1))))]) (by simp only [sh99]) (w_eqStepS_t v8.1 v5.1 v hv)) (.inr (fun v => rfl)) ?_
   intro v16 gv16 h
   refine LWp.o 83 (B (!v16)) ?_
   refine LWp.o 84 (B (!v16)) ?_
   refine LWp.o 85 (B (!v16)) ?_
   refine LWp.sp h 85 (fun h => ?_) (fun h => ?_)
   · refine LWp.sh 86 ?_
     refine LWp.sh 87 ?_
     refine LWp.sh 88 ?_
     refine LWp.o 89 (B true) ?_
     refine LWp.nil ?_
     cases h
     exact ⟨_, rfl, rfl, rfl⟩
   refine LWp.o 86 (B v8.2) ?_
   refine LWp.o 87 (B v5.2) ?_
   refine LWp.o 88 (B (!(v8.2 == v5.2))) ?_
   refine LWp.o 89 (B (!(v8.2 == v5.2))) ?_
   refine LWp.nil ?_
   cases h
   exact ⟨_, rfl, rfl, rfl⟩
 intro j2 h E hE
 refine nt_wp hE ?_
 change Wp _ _ _ (w_FnExactWriteSteps_H2 xAD xARecs xAText v5 v8 j2) _
 refine Wp.c h (fun h => ?_) (fun h => ?_)
 · refine Wp.seq (Wp.region ?_)
   refine LWp.o 6 (B false) ?_
   refine LWp.nil ?_
   cases h
   exact Wp.ret ⟨.inr rfl, _, _, rfl, rfl⟩
 refine Wp.skip ?_
 refine Wp.seq (Wp.region ?_)
 refine LWp.o 15 (I 1) ?_
 refine LWp.nil ?_
 refine Wp.seq (Wp.region ?_)
 refine LWp.o 90 (.one (.view (.slot 12) 0 [] 0)) ?_
 refine LWp.o 91 (I 1) ?_
 refine LWp.leb h (.slot 12) [] 0 [.sl true 99 4 (encs c99 v8.1)] 92 (e := 99) (sz := 4) (encs c99 v8.1) 1 (fun v => v.1) (fun v17 => (encs c99 v17.2)) (fun v17 => [.sl true 99 4 (encs c99 v17.2)]) rfl (fun v17 => At.nl rfl) rfl (fun v hv => w_markStepS_t v8.1 1 v hv) (ns99 _) (fun _ => ns99 _) ?_ (.inl ⟨12, _, rfl, rfl, rfl, rfl, fun _ _ _ _ _ _ _ h => h⟩)
 intro v17 gv17 h
 refine LWp.o 15 (I v17.1) ?_
 refine LWp.nil ?_
 refine Wp.seq (Wp.region ?_)
 refine LWp.o 16 (I 1) ?_
 refine LWp.nil ?_
 refine Wp.seq (Wp.region ?_)
 refine LWp.o 93 (.one (.view (.slot 12) 1 [] 0)) ?_
 refine LWp.o 94 (I 1) ?_
 refine LWp.cl h 95 (fun v18 => (I v18)) rfl (l := [.sv (.one (.sl false 99 4 (shares (encs c99 v17.2)))), .sv (.one (.int .i64 1))]) rfl (fun v hv => cg (l := [.sv (.one (.sl false 99 4 (shares (encs c99 v17.2)))), .sv (.one (.int .i64 1))]) (by simp only [sh99]) (w_heldStepS_t v17.2 1 v hv)) (.inr (fun v => rfl)) ?_
 intro v18 gv18 h
 refine LWp.o 16 (I v18) ?_
 refine LWp.nil ?_
 refine Wp.seq ?_
 refine Wp.seq (Wp.region ?_)
 refine LWp.o 96 (I v18) ?_
 refine LWp.o 97 (B (decide (v18 < 0))) ?_
 refine LWp.nil ?_
 refine Wp.c h (fun h => ?_) (fun h => ?_)
 · refine Wp.seq (Wp.region ?_)
   refine LWp.o 6 (B false) ?_
   refine LWp.nil ?_
   cases h
   exact Wp.ret ⟨.inr rfl, _, _, rfl, rfl⟩
 refine Wp.skip ?_
 refine Wp.seq ?_
 refine Wp.seq (Wp.region ?_)
 refine LWp.o 98 (I v18) ?_
 refine LWp.o 99 (I v17.1) ?_
 refine LWp.o 100 (B (v18 != v17.1)) ?_
 refine LWp.nil ?_
 refine Wp.c h (fun h => ?_) (fun h => ?_)
 · refine Wp.seq (Wp.region ?_)
   refine LWp.o 6 (B false) ?_
   refine LWp.nil ?_
   cases h
   exact Wp.ret ⟨.inr rfl, _, _, rfl, rfl⟩
 refine Wp.skip ?_
 refine Wp.seq (Wp.region ?_)
 refine LWp.o 102 (.agg [.sl false 176 3 (encs (c176 false) xAD.Flash.Blocks), .sl false 188 2 (encs c188 xAD.Store.Vols), .sl false 211 2 (encs (c211 false) xAD.Store.Arena.Knots), .int .i64 xAD.Store.Next, .int .i64 xAD.Seq, .int .i64 xAD.Tx, .int .i64 xAD.Base]) ?_
 refine LWp.cl h 103 (fun v19 => (.agg [.sl true 124 3 (encs (c124 true) v19.Flash.Blocks), .sl true 110 2 (encs c110 v19.Store.Vols), .sl true 218 2 (encs (c218 true) v19.Store.Arena.Knots), .int .i64 v19.Store.Next, .int .i64 v19.Seq, .int .i64 v19.Tx, .int .i64 v19.Base])) rfl (l := [.sv (.agg [.sl false 176 3 (encs (c176 false) xAD.Flash.Blocks), .sl false 188 2 (encs c188 xAD.Store.Vols), .sl false 211 2 (encs (c211 false) xAD.Store.Arena.Knots), .int .i64 xAD.Store.Next, .int .i64 xAD.Seq, .int .i64 xAD.Tx, .int .i64 xAD.Base])]) rfl (fun v hv => w_toDevice_t xAD v hv) (.inl rfl) ?_
 intro v19 gv19 h
 refine LWp.o 104 (.one (.sl false 92 4 (encs c92 xARecs))) ?_
 refine LWp.cl h 105 (fun v20 => (.one (.sl true 83 4 (encs c83 v20)))) rfl (l := [.sv (.one (.sl false 92 4 (encs c92 xARecs)))]) rfl (fun v hv => w_toRecS_t xARecs v hv) (.inl rfl) ?_
 intro v20 gv20 h
 refine LWp.o 106 (Y xAText) ?_
 refine LWp.cl h 107 (fun v21 => (.tup [(.one (.sl true 99 4 (encs c99 v21.1))), (B v21.2)])) rfl (l := [.sv (.agg [.sl false 124 3 (shares (encs (c124 true) v19.Flash.Blocks)), .sl false 110 2 (shares (encs c110 v19.Store.Vols)), .sl false 218 2 (shares (encs (c218 true) v19.Store.Arena.Knots)), .int .i64 v19.Store.Next, .int .i64 v19.Seq, .int .i64 v19.Tx, .int .i64 v19.Base]), .sv (.one (.sl false 83 4 (shares (encs c83 v20)))), .sv (.one (.str xAText))]) rfl (fun v hv => cg (l := [.sv (.agg [.sl false 124 3 (shares (encs (c124 true) v19.Flash.Blocks)), .sl false 110 2 (shares (encs c110 v19.Store.Vols)), .sl false 218 2 (shares (encs (c218 true) v19.Store.Arena.Knots)), .int .i64 v19.Store.Next, .int .i64 v19.Seq, .int .i64 v19.Tx, .int .i64 v19.Base]), .sv (.one (.sl false 83 4 (shares (encs c83 v20)))), .sv (.one (.str xAText))]) (by simp only [sh83, sh110, sh124, sh218]) (i_WriteSteps_t v19 v20 xAText v hv)) (.inr (fun v => by simp [svShared, svShareds, hasShareds, hasShared, ns99])) ?_
 intro v21 gv21 h
 refine LWp.mt 107 101 (.tup [(.one (.sl true 99 4 (encs c99 v21.1))), (B v21.2)]) ?_
 refine LWp.e 101 0 108 (.one (.sl true 99 4 (encs c99 v21.1))) ?_
 refine LWp.e 101 1 109 (B v21.2) ?_
 refine LWp.m true [(.slot 108, [.junk])] 17 (.one (.sl true 99 4 (encs c99 v21.1))) ?_
 refine LWp.o 18 (B v21.2) ?_
 refine LWp.nil ?_
 refine Wp.seq ?_
 refine Wp.seq ?_
 refine Wp.j1 h [12, 15, 118] [] (fun a => (w_FnExactWriteSteps_H3 v17 a)) ?_ ?_
 · intro a h
   refine Wp.region ?_
   refine LWp.o 110 (.one (.view (.slot 17) 1 [] 0)) ?_
   refine LWp.o 111 (.one (.view (.slot 8) 0 [] 0)) ?_
   refine LWp.cl h 112 (fun v22 => (B v22)) rfl (l := [.sv (.one (.sl false 99 4 (shares (encs c99 v21.1)))), .sv (.one (.sl false 99 4 (shares (encs c99 v5.1))))]) rfl (fun v hv => cg (l := [.sv (.one (.sl false 99 4 (shares (encs c99 v21.1)))), .sv (.one (.sl false 99 4 (shares (encs c99 v5.1))))]) (by simp only [sh99]) (w_eqStepS_t v21.1 v5.1 v hv)) (.inr (fun v => rfl)) ?_
   intro v22 gv22 h
   refine LWp.o 113 (B (!v22)) ?_
   refine LWp.o 114 (B (!v22)) ?_
   refine LWp.sp h 114 (fun h => ?_) (fun h => ?_)
   · refine LWp.sh 115 ?_
     refine LWp.sh 116 ?_
     refine LWp.sh 117 ?_
     refine LWp.o 118 (B true) ?_
     refine LWp.nil ?_
     cases h
     exact ⟨_, rfl, rfl, rfl⟩
   refine LWp.o 115 (B v21.2) ?_
   refine LWp.o 116 (B v5.2) ?_
   refine LWp.o 117 (B (!(v21.2 == v5.2))) ?_
   refine LWp.o 118 (B (!(v21.2 == v5.2))) ?_
   refine LWp.nil ?_
   cases h
   exact ⟨_, rfl, rfl, rfl⟩
 intro j3 h E hE
 refine nt_wp hE ?_
 change Wp _ _ _ (w_FnExactWriteSteps_H3 v17 j3) _
 refine Wp.c h (fun h => ?_) (fun h => ?_)
 · refine Wp.seq (Wp.region ?_)
   refine LWp.o 6 (B false) ?_
   refine LWp.nil ?_
   cases h
   exact Wp.ret ⟨.inr rfl, _, _, rfl, rfl⟩
 refine Wp.skip ?_
 refine Wp.seq (Wp.region ?_)
 refine LWp.o 16 (I 1) ?_
 refine LWp.nil ?_
 refine Wp.seq (Wp.region ?_)
 refine LWp.o 119 (.one (.view (.slot 12) 0 [] 0)) ?_
 refine LWp.o 120 (I 1) ?_
 refine LWp.cl h 121 (fun v23 => (I v23)) rfl (l := [.sv (.one (.sl false 99 4 (shares (encs c99 v17.2)))), .sv (.one (.int .i64 1))]) rfl (fun v hv => cg (l := [.sv (.one (.sl false 99 4 (shares (encs c99 v17.2)))), .sv (.one (.int .i64 1))]) (by simp only [sh99]) (w_heldStepS_t v17.2 1 v hv)) (.inr (fun v => rfl)) ?_
 intro v23 gv23 h
 refine LWp.o 16 (I v23) ?_
 refine LWp.nil ?_
 refine Wp.seq ?_
 refine Wp.seq (Wp.region ?_)
 refine LWp.o 122 (I v23) ?_
 refine LWp.o 123 (B (decide (v23 < 0))) ?_
 refine LWp.nil ?_
 refine Wp.c h (fun h => ?_) (fun h => ?_)
 · refine Wp.seq (Wp.region ?_)
   refine LWp.o 6 (B false) ?_
   refine LWp.nil ?_
   cases h
   exact Wp.ret ⟨.inr rfl, _, _, rfl, rfl⟩
 refine Wp.skip ?_
 refine Wp.seq ?_
 refine Wp.seq (Wp.region ?_)
 refine LWp.o 124 (I v23) ?_
 refine LWp.o 125 (I v17.1) ?_
 refine LWp.o 126 (B (v23 != v17.1)) ?_
 refine LWp.nil ?_
 refine Wp.c h (fun h => ?_) (fun h => ?_)
 · refine Wp.seq (Wp.region ?_)
   refine LWp.o 6 (B false) ?_
   refine LWp.nil ?_
   cases h
   exact Wp.ret ⟨.inr rfl, _, _, rfl, rfl⟩
 refine Wp.skip ?_
 refine Wp.seq (Wp.region ?_)
 refine LWp.o 6 (B true) ?_
 refine LWp.nil ?_
 cases h
 exact Wp.ret ⟨.inr rfl, _, _, rfl, rfl⟩
end Go.TI
