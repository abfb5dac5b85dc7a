/- That they compute it. No condition. -/
import Derived.Test.YtcjepealfaimfaaGreatMDW0
namespace Go.TI
set_option maxRecDepth 100000
open Go Go.Proofs
set_option linter.unusedVariables false
set_option linter.unusedSimpArgs false

def s_ArenaOk_H1 (xA : Arena) (z1 : Int) : St := mkSt [(1, (.one (.ptr (.box 1) 0 [] 0))), (3, (I z1))] [(.box 1, [.sl false 218 2 (encs (c218 false) xA.Knots)])]
def s_ArenaOk_H2  : St := mkSt [] []
def s_ArenaOk_H3 (xA : Arena) (yI1 : Int) (x1 : Knot) (z2 : Int) : St := mkSt [(1, (.one (.ptr (.box 1) 0 [] 0))), (3, (I yI1)), (4, (.one (.ptr (.box 4) 0 [] 0))), (5, (I z2))] [(.box 1, [.sl false 218 2 (encs (c218 false) xA.Knots)]), (.box 4, [.bool x1.Leaf, .sl false 3 1 (encs c3 x1.Kids)])]
def s_ArenaOk_H4 (xA : Arena) (yI1 : Int) : St := mkSt [(1, (.one (.ptr (.box 1) 0 [] 0))), (3, (I yI1))] [(.box 1, [.sl false 218 2 (encs (c218 false) xA.Knots)])]
def s_ArenaOk_H5 (xA : Arena) (yI1 : Int) (x1 : Knot) (yK1 : Int) (z3 : Bool) : St := mkSt [(1, (.one (.ptr (.box 1) 0 [] 0))), (3, (I yI1)), (4, (.one (.ptr (.box 4) 0 [] 0))), (5, (I yK1)), (62, (B z3))] [(.box 1, [.sl false 218 2 (encs (c218 false) xA.Knots)]), (.box 4, [.bool x1.Leaf, .sl false 3 1 (encs c3 x1.Kids)])]
theorem s_ArenaOk_t (xA : Arena) (r : Bool) (h : s_ArenaOk xA = some r) : Gives Tryz.prog 179 [.sv (.agg [.sl false 218 2 (encs (c218 false) xA.Knots)])] (B r) (List.replicate 1 .gone) := by
 unfold s_ArenaOk at h
 refine gives_of Tryz.func179 rfl ?_
 rw [Tryz.ntmps179]
 refine Wp.seq (Wp.region ?_)
 refine LWp.b [] 1 [.sl false 218 2 (encs (c218 false) xA.Knots)] ?_
 refine LWp.o 2 (B false) ?_
 refine LWp.nil ?_
 refine Wp.seq ?_
 refine Wp.seq (Wp.region ?_)
 refine LWp.o 3 (I 0) ?_
 refine LWp.nil ?_
 refine Wp.l2 h [1, 3] [.box 1] (fun s => (s_ArenaOk_H1 xA s)) [] [] (fun _ => s_ArenaOk_H2) ⟨rfl, rfl⟩ ?_ ?_
 · rintro yI1 o (h : s_ArenaOk_b1 xA yI1 = some o) hk1
   unfold s_ArenaOk_b1 at h
   change Wp _ _ _ (s_ArenaOk_H1 xA yI1) _
   refine Wp.seq ?_
   refine Wp.seq (Wp.region ?_)
   refine LWp.o 7 (I yI1) ?_
   refine LWp.o 8 (.one (.ptr (.box 1) 0 [] 0)) ?_
   refine LWp.o 9 (.one (.sl false 218 2 (encs (c218 false) xA.Knots))) ?_
   refine LWp.o 10 (I (ln xA.Knots)) ?_ (st_pure (p_ln (k218 false) xA.Knots))
   refine LWp.o 11 (B (decide (yI1 < (ln xA.Knots)))) ?_
   refine LWp.nil ?_
   refine Wp.c h (fun h => ?_) (fun h => ?_)
   · refine Wp.skip ?_
     refine Wp.seq ?_
     refine Wp.block ?_
     refine Wp.seq (Wp.region ?_)
     refine LWp.o 14 (.one (.ptr (.box 1) 0 [] 0)) ?_
     refine LWp.o 15 (.one (.sl false 218 2 (encs (c218 false) xA.Knots))) ?_
     refine LWp.o 16 (I yI1) ?_
     refine LWp.p h 17 (fun _ => (.one (.ptr (.slot 15) 1 [0] (Int.toNat yI1 * 2 + 0)))) ?_ (fun x1 gx1 => st_pure (p_ix (k218 false) (.slot 15) [] 0 gx1))
     intro x1 gx1 h
     refine LWp.o 18 (.agg [.bool x1.Leaf, .sl false 3 1 (encs c3 x1.Kids)]) ?_ (st_pure (p_le (k218 false) (.slot 15) [0] gx1))
     refine LWp.b [] 4 [.bool false, .sl true 3 1 (encs c3 [])] ?_
     refine LWp.sb [] (.box 4) [.bool x1.Leaf, .sl false 3 1 (encs c3 x1.Kids)] ?_
     refine LWp.nil ?_
     refine Wp.seq ?_
     refine Wp.seq (Wp.region ?_)
     refine LWp.o 19 (.one (.ptr (.box 4) 1 [] 1)) ?_
     refine LWp.o 20 (.one (.sl false 3 1 (encs c3 x1.Kids))) ?_
     refine LWp.o 21 (I (ln x1.Kids)) ?_ (st_pure (p_ln k3 x1.Kids))
     refine LWp.o 22 (B ((ln x1.Kids) != 4)) ?_
     refine LWp.nil ?_
     refine Wp.c h (fun h => ?_) (fun h => ?_)
     · refine Wp.seq (Wp.region ?_)
       refine LWp.o 2 (B false) ?_
       refine LWp.nil ?_
       cases h
       replace h : some _ = some _ := hk1 _ rfl
       cases h
       exact Wp.ret ⟨.inr rfl, _, _, rfl, rfl⟩
     refine Wp.skip ?_
     refine Wp.seq (Wp.region ?_)
     refine LWp.o 5 (I 0) ?_
     refine LWp.nil ?_
     refine Wp.l2 h [1, 3, 4, 5] [.box 1, .box 4] (fun s => (s_ArenaOk_H3 xA yI1 x1 s)) [1, 3] [.box 1] (fun _ => (s_ArenaOk_H4 xA yI1)) ⟨rfl, rfl⟩ ?_ ?_
     · rintro yK1 o (h : s_ArenaOk_b2 xA yI1 x1 yK1 = some o) hk2
       unfold s_ArenaOk_b2 at h
       change Wp _ _ _ (s_ArenaOk_H3 xA yI1 x1 yK1) _
       refine Wp.seq ?_
       refine Wp.seq (Wp.region ?_)
       refine LWp.o 23 (I yK1) ?_
       refine LWp.o 24 (B (decide (yK1 < 4))) ?_
       refine LWp.nil ?_
       refine Wp.c h (fun h => ?_) (fun h => ?_)
       · refine Wp.skip ?_
         refine Wp.seq ?_
         refine Wp.block ?_
         refine Wp.seq (Wp.region ?_)
         refine LWp.o 27 (.one (.ptr (.box 4) 0 [] 1)) ?_
         refine LWp.o 28 (.one (.sl false 3 1 (encs c3 x1.Kids))) ?_
         refine LWp.o 29 (I yK1) ?_
         refine LWp.p h 30 (fun _ => (.one (.ptr (.slot 28) 1 [0] (Int.toNat yK1 * 1 + 0)))) ?_ (fun x2 gx2 => st_pure (p_ix k3 (.slot 28) [] 0 gx2))
         intro x2 gx2 h
         refine LWp.o 31 (I x2) ?_ (st_pure (p_lc k3 (.slot 28) [0] 0 (.int .i64 x2) gx2))
         refine LWp.o 6 (I x2) ?_
         refine LWp.nil ?_
         refine Wp.seq ?_
         refine Wp.j1 h [1, 3, 4, 5, 62] [.box 1, .box 4] (fun a => (s_ArenaOk_H5 xA yI1 x1 yK1 a)) ?_ ?_
         · intro a h
           refine Wp.region ?_
           refine LWp.o 32 (.one (.ptr (.box 4) 0 [] 0)) ?_
           refine LWp.o 33 (B x1.Leaf) ?_
           refine LWp.o 34 (B x1.Leaf) ?_
           refine LWp.sp h 34 (fun h => ?_) (fun h => ?_)
           · refine LWp.o 35 (I x2) ?_
             refine LWp.o 36 (B (decide (x2 < 0))) ?_
             refine LWp.o 37 (B (decide (x2 < 0))) ?_
             refine LWp.o 38 (B (decide (x2 < 0))) ?_
             refine LWp.sp h 38 (fun h => ?_) (fun h => ?_)
             · refine LWp.sh 39 ?_
               refine LWp.sh 40 ?_
               refine LWp.sh 41 ?_
               refine LWp.sh 42 ?_
               refine LWp.sh 43 ?_
               refine LWp.sh 44 ?_
               refine LWp.sh 45 ?_
               refine LWp.sh 46 ?_
               refine LWp.sh 47 ?_
               refine LWp.sh 48 ?_
               refine LWp.sh 49 ?_
               refine LWp.sh 50 ?_
               refine LWp.sh 51 ?_
               refine LWp.sh 52 ?_
               refine LWp.sh 53 ?_
               refine LWp.sh 54 ?_
               refine LWp.sh 55 ?_
               refine LWp.sh 56 ?_
               refine LWp.sh 57 ?_
               refine LWp.sh 58 ?_
               refine LWp.sh 59 ?_
               refine LWp.sh 60 ?_
               refine LWp.sh 61 ?_
               refine LWp.o 62 (B true) ?_
               refine LWp.nil ?_
               cases h
               exact ⟨_, rfl, rfl, rfl⟩
             refine LWp.o 39 (.one (.ptr (.box 4) 0 [] 0)) ?_
             refine LWp.o 40 (B x1.Leaf) ?_
             refine LWp.o 41 (B (!x1.Leaf)) ?_
             refine LWp.o 42 (B (!x1.Leaf)) ?_
             refine LWp.sp h 42 (fun h => ?_) (fun h => ?_)
             · refine LWp.o 43 (I x2) ?_
               refine LWp.o 44 (B (x2 != (-1))) ?_
               refine LWp.o 45 (B (x2 != (-1))) ?_
               refine LWp.o 46 (B (x2 != (-1))) ?_
               refine LWp.sp h 46 (fun h => ?_) (fun h => ?_)
               · refine LWp.o 47 (I x2) ?_
                 refine LWp.o 48 (I yI1) ?_
                 refine LWp.o 49 (I (sb yI1 1)) ?_
                 refine LWp.cl h 50 (fun v1 => (B v1)) rfl (l := [.sv (.one (.int .i64 x2)), .sv (.one (.int .i64 0)), .sv (.one (.int .i64 (sb yI1 1)))]) rfl (fun v hv => s_l01In_t x2 0 (sb yI1 1) v hv) (.inl rfl) ?_
                 intro v1 gv1 h
                 refine LWp.o 51 (B (!v1)) ?_
                 refine LWp.o 52 (B (!v1)) ?_
                 refine LWp.sp h 52 (fun h => ?_) (fun h => ?_)
                 · refine LWp.sh 53 ?_
                   refine LWp.sh 54 ?_
                   refine LWp.sh 55 ?_
                   refine LWp.sh 56 ?_
                   refine LWp.sh 57 ?_
                   refine LWp.sh 58 ?_
                   refine LWp.sh 59 ?_
                   refine LWp.o 60 (B true) ?_
                   refine LWp.o 61 (B true) ?_
                   refine LWp.o 62 (B true) ?_
                   refine LWp.nil ?_
                   cases h
                   exact ⟨_, rfl, rfl, rfl⟩
                 refine LWp.o 53 (.one (.ptr (.box 1) 0 [] 0)) ?_
                 refine LWp.o 54 (.one (.sl false 218 2 (encs (c218 false) xA.Knots))) ?_
                 refine LWp.o 55 (I x2) ?_
                 refine LWp.p h 56 (fun _ => (.one (.ptr (.slot 54) 1 [0] (Int.toNat x2 * 2 + 0)))) ?_ (fun x3 gx3 => st_pure (p_ix (k218 false) (.slot 54) [] 0 gx3))
                 intro x3 gx3 h
                 refine LWp.o 57 (.one (.ptr (.slot 54) 1 [0] (Int.toNat x2 * 2 + 0))) ?_ (st_pure (p_fa (k218 false) (.slot 54) [0] 0 gx3))
                 refine LWp.o 58 (B x3.Leaf) ?_ (st_pure (p_lc (k218 false) (.slot 54) [0] 0 (.bool x3.Leaf) gx3))
                 refine LWp.o 59 (B (!x3.Leaf)) ?_
                 refine LWp.o 60 (B (!x3.Leaf)) ?_
                 refine LWp.o 61 (B (!x3.Leaf)) ?_
                 refine LWp.o 62 (B (!x3.Leaf)) ?_
                 refine LWp.nil ?_
                 cases h
                 exact ⟨_, rfl, rfl, rfl⟩
               refine LWp.sh 47 ?_
               refine LWp.sh 48 ?_
               refine LWp.sh 49 ?_
               refine LWp.sh 50 ?_
               refine LWp.sh 51 ?_
               refine LWp.sh 52 ?_
               refine LWp.sh 53 ?_
               refine LWp.sh 54 ?_
               refine LWp.sh 55 ?_
               refine LWp.sh 56 ?_
               refine LWp.sh 57 ?_
               refine LWp.sh 58 ?_
               refine LWp.sh 59 ?_
               refine LWp.sh 60 ?_
               refine LWp.o 61 (B false) ?_
               refine LWp.o 62 (B false) ?_
               refine LWp.nil ?_
               cases h
               exact ⟨_, rfl, rfl, rfl⟩
             refine LWp.sh 43 ?_
             refine LWp.sh 44 ?_
             refine LWp.o 45 (B false) ?_
             refine LWp.o 46 (B false) ?_
             refine LWp.sh 47 ?_
             refine LWp.sh 48 ?_
             refine LWp.sh 49 ?_
             refine LWp.sh 50 ?_
             refine LWp.sh 51 ?_
             refine LWp.sh 52 ?_
             refine LWp.sh 53 ?_
             refine LWp.sh 54 ?_
             refine LWp.sh 55 ?_
             refine LWp.sh 56 ?_
             refine LWp.sh 57 ?_
             refine LWp.sh 58 ?_
             refine LWp.sh 59 ?_
             refine LWp.sh 60 ?_
             refine LWp.o 61 (B false) ?_
             refine LWp.o 62 (B false) ?_
             refine LWp.nil ?_
             cases h
             exact ⟨_, rfl, rfl, rfl⟩
           refine LWp.sh 35 ?_
           refine LWp.sh 36 ?_
           refine LWp.o 37 (B false) ?_
           refine LWp.o 38 (B false) ?_
           refine LWp.o 39 (.one (.ptr (.box 4) 0 [] 0)) ?_
           refine LWp.o 40 (B x1.Leaf) ?_
           refine LWp.o 41 (B (!x1.Leaf)) ?_
           refine LWp.o 42 (B (!x1.Leaf)) ?_
           refine LWp.sp h 42 (fun h => ?_) (fun h => ?_)
           · refine LWp.o 43 (I x2) ?_
             refine LWp.o 44 (B (x2 != (-1))) ?_
             refine LWp.o 45 (B (x2 != (-1))) ?_
             refine LWp.o 46 (B (x2 != (-1))) ?_
             refine LWp.sp h 46 (fun h => ?_) (fun h => ?_)
             · refine LWp.o 47 (I x2) ?_
               refine LWp.o 48 (I yI1) ?_
               refine LWp.o 49 (I (sb yI1 1)) ?_
               refine LWp.cl h 50 (fun v2 => (B v2)) rfl (l := [.sv (.one (.int .i64 x2)), .sv (.one (.int .i64 0)), .sv (.one (.int .i64 (sb yI1 1)))]) rfl (fun v hv => s_l01In_t x2 0 (sb yI1 1) v hv) (.inl rfl) ?_
               intro v2 gv2 h
               refine LWp.o 51 (B (!v2)) ?_
               refine LWp.o 52 (B (!v2)) ?_
               refine LWp.sp h 52 (fun h => ?_) (fun h => ?_)
               · refine LWp.sh 53 ?_
                 refine LWp.sh 54 ?_
                 refine LWp.sh 55 ?_
                 refine LWp.sh 56 ?_
                 refine LWp.sh 57 ?_
                 refine LWp.sh 58 ?_
                 refine LWp.sh 59 ?_
                 refine LWp.o 60 (B true) ?_
                 refine LWp.o 61 (B true) ?_
                 refine LWp.o 62 (B true) ?_
                 refine LWp.nil ?_
                 cases h
                 exact ⟨_, rfl, rfl, rfl⟩
               refine LWp.o 53 (.one (.ptr (.box 1) 0 [] 0)) ?_
               refine LWp.o 54 (.one (.sl false 218 2 (encs (c218 false) xA.Knots))) ?_
               refine LWp.o 55 (I x2) ?_
               refine LWp.p h 56 (fun _ => (.one (.ptr (.slot 54) 1 [0] (Int.toNat x2 * 2 + 0)))) ?_ (fun x4 gx4 => st_pure (p_ix (k218 false) (.slot 54) [] 0 gx4))
               intro x4 gx4 h
               refine LWp.o 57 (.one (.ptr (.slot 54) 1 [0] (Int.toNat x2 * 2 + 0))) ?_ (st_pure (p_fa (k218 false) (.slot 54) [0] 0 gx4))
               refine LWp.o 58 (B x4.Leaf) ?_ (st_pure (p_lc (k218 false) (.slot 54) [0] 0 (.bool x4.Leaf) gx4))
               refine LWp.o 59 (B (!x4.Leaf)) ?_
               refine LWp.o 60 (B (!x4.Leaf)) ?_
               refine LWp.o 61 (B (!x4.Leaf)) ?_
               refine LWp.o 62 (B (!x4.Leaf)) ?_
               refine LWp.nil ?_
               cases h
               exact ⟨_, rfl, rfl, rfl⟩
             refine LWp.sh 47 ?_
             refine LWp.sh 48 ?_
             refine LWp.sh 49 ?_
             refine LWp.sh 50 ?_
             refine LWp.sh 51 ?_
             refine LWp.sh 52 ?_
             refine LWp.sh 53 ?_
             refine LWp.sh 54 ?_
             refine LWp.sh 55 ?_
             refine LWp.sh 56 ?_
             refine LWp.sh 57 ?_
             refine LWp.sh 58 ?_
             refine LWp.sh 59 ?_
             refine LWp.sh 60 ?_
             refine LWp.o 61 (B false) ?_
             refine LWp.o 62 (B false) ?_
             refine LWp.nil ?_
             cases h
             exact ⟨_, rfl, rfl, rfl⟩
           refine LWp.sh 43 ?_
           refine LWp.sh 44 ?_
           refine LWp.o 45 (B false) ?_
           refine LWp.o 46 (B false) ?_
           refine LWp.sh 47 ?_
           refine LWp.sh 48 ?_
           refine LWp.sh 49 ?_
           refine LWp.sh 50 ?_
           refine LWp.sh 51 ?_
           refine LWp.sh 52 ?_
           refine LWp.sh 53 ?_
           refine LWp.sh 54 ?_
           refine LWp.sh 55 ?_
           refine LWp.sh 56 ?_
           refine LWp.sh 57 ?_
           refine LWp.sh 58 ?_
           refine LWp.sh 59 ?_
           refine LWp.sh 60 ?_
           refine LWp.o 61 (B false) ?_
           refine LWp.o 62 (B false) ?_
           refine LWp.nil ?_
           cases h
           exact ⟨_, rfl, rfl, rfl⟩
         intro j1 h E hE
         refine nt_wp hE ?_
         change Wp _ _ _ (s_ArenaOk_H5 xA yI1 x1 yK1 j1) _
         refine Wp.c h (fun h => ?_) (fun h => ?_)
         · refine Wp.seq (Wp.region ?_)
           refine LWp.o 2 (B false) ?_
           refine LWp.nil ?_
           cases h
           replace h : some _ = some _ := hk2 _ rfl
           cases h
           replace h : some _ = some _ := hk1 _ rfl
           cases h
           exact Wp.ret ⟨.inr rfl, _, _, rfl, rfl⟩
         refine Wp.skip ?_
         refine Wp.region ?_
         refine LWp.o 25 (I yK1) ?_
         refine LWp.o 26 (I (ad yK1 1)) ?_
         refine LWp.o 5 (I (ad yK1 1)) ?_
         refine LWp.nil ?_
         cases h
         exact ⟨_, rfl, rfl, rfl⟩
       refine Wp.exit ?_
       cases h
       exact ⟨_, rfl, rfl, rfl⟩
     intro v3 h E hE
     refine nt_wp hE ?_
     change Wp _ _ _ (s_ArenaOk_H4 xA yI1) _
     refine Wp.region ?_
     refine LWp.o 12 (I yI1) ?_
     refine LWp.o 13 (I (ad yI1 1)) ?_
     refine LWp.o 3 (I (ad yI1 1)) ?_
     refine LWp.nil ?_
     cases h
     exact ⟨_, rfl, rfl, rfl⟩
   refine Wp.exit ?_
   cases h
   exact ⟨_, rfl, rfl, rfl⟩
 intro v4 h E hE
 refine nt_wp hE ?_
 change Wp _ _ _ s_ArenaOk_H2 _
 refine Wp.seq (Wp.region ?_)
 refine LWp.o 2 (B true) ?_
 refine LWp.nil ?_
 cases h
 exact Wp.ret ⟨.inr rfl, _, _, rfl, rfl⟩
theorem s_l11Root_t (xA : Arena) (xRoot : Int) (r : Bool) (h : s_l11Root xA xRoot = some r) : Gives Tryz.prog 180 [.sv (.agg [.sl false 218 2 (encs (c218 false) xA.Knots)]), .sv (I xRoot)] (B r) (List.replicate 2 .gone) := by
 unfold s_l11Root at h
 refine gives_of Tryz.func180 rfl ?_
 rw [Tryz.ntmps180]
 refine Wp.seq (Wp.region ?_)
 refine LWp.b [] 2 [.sl false 218 2 (encs (c218 false) xA.Knots)] ?_
 refine LWp.o 4 (B false) ?_
 refine LWp.nil ?_
 refine Wp.seq (Wp.region ?_)
 refine LWp.o 5 (I xRoot) ?_
 refine LWp.o 6 (B (xRoot == (-1))) ?_
 refine LWp.o 7 (B (xRoot == (-1))) ?_
 refine LWp.sp h 7 (fun h => ?_) (fun h => ?_)
 · refine LWp.sh 8 ?_
   refine LWp.sh 9 ?_
   refine LWp.sh 10 ?_
   refine LWp.sh 11 ?_
   refine LWp.sh 12 ?_
   refine LWp.sh 13 ?_
   refine LWp.sh 14 ?_
   refine LWp.sh 15 ?_
   refine LWp.sh 16 ?_
   refine LWp.sh 17 ?_
   refine LWp.sh 18 ?_
   refine LWp.sh 19 ?_
   refine LWp.sh 20 ?_
   refine LWp.sh 21 ?_
   refine LWp.sh 22 ?_
   refine LWp.o 23 (B true) ?_
   refine LWp.o 4 (B true) ?_
   refine LWp.nil ?_
   cases h
   exact Wp.ret ⟨.inr rfl, _, _, rfl, rfl⟩
 refine LWp.o 8 (I xRoot) ?_
 refine LWp.o 9 (.one (.ptr (.box 2) 1 [] 0)) ?_
 refine LWp.o 10 (.one (.sl false 218 2 (encs (c218 false) xA.Knots))) ?_
 refine LWp.o 11 (I (ln xA.Knots)) ?_ (st_pure (p_ln (k218 false) xA.Knots))
 refine LWp.o 12 (I (sb (ln xA.Knots) 1)) ?_
 refine LWp.cl h 13 (fun v1 => (B v1)) rfl (l := [.sv (.one (.int .i64 xRoot)), .sv (.one (.int .i64 0)), .sv (.one (.int .i64 (sb (ln xA.Knots) 1)))]) rfl (fun v hv => s_l01In_t xRoot 0 (sb (ln xA.Knots) 1) v hv) (.inl rfl) ?_
 intro v1 gv1 h
 refine LWp.o 14 (B v1) ?_
 refine LWp.sp h 14 (fun h => ?_) (fun h => ?_)
 · refine LWp.o 15 (.one (.ptr (.box 2) 1 [] 0)) ?_
   refine LWp.o 16 (.one (.sl false 218 2 (encs (c218 false) xA.Knots))) ?_
   refine LWp.o 17 (I xRoot) ?_
   refine LWp.p h 18 (fun _ => (.one (.ptr (.slot 16) 1 [0] (Int.toNat xRoot * 2 + 0)))) ?_ (fun x1 gx1 => st_pure (p_ix (k218 false) (.slot 16) [] 0 gx1))
   intro x1 gx1 h
   refine LWp.o 19 (.one (.ptr (.slot 16) 1 [0] (Int.toNat xRoot * 2 + 0))) ?_ (st_pure (p_fa (k218 false) (.slot 16) [0] 0 gx1))
   refine LWp.o 20 (B x1.Leaf) ?_ (st_pure (p_lc (k218 false) (.slot 16) [0] 0 (.bool x1.Leaf) gx1))
   refine LWp.o 21 (B (!x1.Leaf)) ?_
   refine LWp.o 22 (B (!x1.Leaf)) ?_
   refine LWp.o 23 (B (!x1.Leaf)) ?_
   refine LWp.o 4 (B (!x1.Leaf)) ?_
   refine LWp.nil ?_
   cases h
   exact Wp.ret ⟨.inr rfl, _, _, rfl, rfl⟩
 refine LWp.sh 15 ?_
 refine LWp.sh 16 ?_
 refine LWp.sh 17 ?_
 refine LWp.sh 18 ?_
 refine LWp.sh 19 ?_
 refine LWp.sh 20 ?_
 refine LWp.sh 21 ?_
 refine LWp.o 22 (B false) ?_
 refine LWp.o 23 (B false) ?_
 refine LWp.o 4 (B false) ?_
 refine LWp.nil ?_
 cases h
 exact Wp.ret ⟨.inr rfl, _, _, rfl, rfl⟩
theorem s_l11Get_t (xA : Arena) (xRoot : Int) (xSector : Int) (r : Int) (h : s_l11Get xA xRoot xSector = some r) : Gives Tryz.prog 181 [.sv (.agg [.sl false 218 2 (encs (c218 false) xA.Knots)]), .sv (I xRoot), .sv (I xSector)] (I r) (List.replicate 3 .gone) := by
 unfold s_l11Get at h
 refine gives_of Tryz.func181 rfl ?_
 rw [Tryz.ntmps181]
 refine Wp.seq (Wp.region ?_)
 refine LWp.b [] 3 [.sl false 218 2 (encs (c218 false) xA.Knots)] ?_
 refine LWp.o 6 (I 0) ?_
 refine LWp.nil ?_
 refine Wp.seq ?_
 refine Wp.seq (Wp.region ?_)
 refine LWp.o 8 (I xRoot) ?_
 refine LWp.o 9 (B (decide (xRoot < 0))) ?_
 refine LWp.nil ?_
 refine Wp.c h (fun h => ?_) (fun h => ?_)
 · refine Wp.seq (Wp.region ?_)
   refine LWp.o 6 (I 0) ?_
   refine LWp.nil ?_
   cases h
   exact Wp.ret ⟨.inr rfl, _, _, rfl, rfl⟩
 refine Wp.skip ?_
 refine Wp.seq (Wp.region ?_)
 refine LWp.o 10 (.one (.ptr (.box 3) 1 [] 0)) ?_
 refine LWp.o 11 (.one (.sl false 218 2 (encs (c218 false) xA.Knots))) ?_
 refine LWp.o 12 (I xRoot) ?_
 refine LWp.p h 13 (fun _ => (.one (.ptr (.slot 11) 1 [0] (Int.toNat xRoot * 2 + 0)))) ?_ (fun x1 gx1 => st_pure (p_ix (k218 false) (.slot 11) [] 0 gx1))
 intro x1 gx1 h
 refine LWp.o 14 (.one (.ptr (.slot 11) 1 [0] (Int.toNat xRoot * 2 + 1))) ?_ (st_pure (p_fa (k218 false) (.slot 11) [0] 0 gx1))
 refine LWp.o 15 (.one (.sl false 3 1 (encs c3 x1.Kids))) ?_ (st_pure (p_lc (k218 false) (.slot 11) [0] 1 (.sl false 3 1 (encs c3 x1.Kids)) gx1))
 refine LWp.o 16 (I xSector) ?_
 refine LWp.o 17 (I (qu xSector 4)) ?_
 refine LWp.p h 18 (fun _ => (.one (.ptr (.slot 15) 1 [0] (Int.toNat (qu xSector 4) * 1 + 0)))) ?_ (fun x2 gx2 => st_pure (p_ix k3 (.slot 15) [] 0 gx2))
 intro x2 gx2 h
 refine LWp.o 19 (I x2) ?_ (st_pure (p_lc k3 (.slot 15) [0] 0 (.int .i64 x2) gx2))
 refine LWp.o 7 (I x2) ?_
 refine LWp.nil ?_
 refine Wp.seq ?_
 refine Wp.seq (Wp.region ?_)
 refine LWp.o 20 (I x2) ?_
 refine LWp.o 21 (B (decide (x2 < 0))) ?_
 refine LWp.nil ?_
 refine Wp.c h (fun h => ?_) (fun h => ?_)
 · refine Wp.seq (Wp.region ?_)
   refine LWp.o 6 (I 0) ?_
   refine LWp.nil ?_
   cases h
   exact Wp.ret ⟨.inr rfl, _, _, rfl, rfl⟩
 refine Wp.skip ?_
 refine Wp.seq (Wp.region ?_)
 refine LWp.o 22 (.one (.ptr (.box 3) 1 [] 0)) ?_
 refine LWp.o 23 (.one (.sl false 218 2 (encs (c218 false) xA.Knots))) ?_
 refine LWp.o 24 (I x2) ?_
 refine LWp.p h 25 (fun _ => (.one (.ptr (.slot 23) 1 [0] (Int.toNat x2 * 2 + 0)))) ?_ (fun x3 gx3 => st_pure (p_ix (k218 false) (.slot 23) [] 0 gx3))
 intro x3 gx3 h
 refine LWp.o 26 (.one (.ptr (.slot 23) 1 [0] (Int.toNat x2 * 2 + 1))) ?_ (st_pure (p_fa (k218 false) (.slot 23) [0] 0 gx3))
 refine LWp.o 27 (.one (.sl false 3 1 (encs c3 x3.Kids))) ?_ (st_pure (p_lc (k218 false) (.slot 23) [0] 1 (.sl false 3 1 (encs c3 x3.Kids)) gx3))
 refine LWp.o 28 (I xSector) ?_
 refine LWp.o 29 (I (Int.tmod xSector 4)) ?_
 refine LWp.p h 30 (fun _ => (.one (.ptr (.slot 27) 1 [0] (Int.toNat (Int.tmod xSector 4) * 1 + 0)))) ?_ (fun x4 gx4 => st_pure (p_ix k3 (.slot 27) [] 0 gx4))
 intro x4 gx4 h
 refine LWp.o 31 (I x4) ?_ (st_pure (p_lc k3 (.slot 27) [0] 0 (.int .i64 x4) gx4))
 refine LWp.o 6 (I x4) ?_
 refine LWp.nil ?_
 cases h
 exact Wp.ret ⟨.inr rfl, _, _, rfl, rfl⟩
def s_GetAt_H1 (xA : Arena) (xRoot : Int) (xSector : Int) (z1 : Bool) : St := mkSt [(1, (I xRoot)), (2, (I xSector)), (3, (.one (.ptr (.box 3) 0 [] 0))), (20, (B z1))] [(.box 3, [.sl false 218 2 (encs (c218 false) xA.Knots)])]
theorem s_GetAt_t (xA : Arena) (xRoot : Int) (xSector : Int) (r : Int) (h : s_GetAt xA xRoot xSector = some r) : Gives Tryz.prog 150 [.sv (.agg [.sl false 218 2 (encs (c218 false) xA.Knots)]), .sv (I xRoot), .sv (I xSector)] (I r) (List.replicate 3 .gone) := by
 unfold s_GetAt at h
 refine gives_of Tryz.func150 rfl ?_
 rw [Tryz.ntmps150]
 refine Wp.seq (Wp.region ?_)
 refine LWp.b [] 3 [.sl false 218 2 (encs (c218 false) xA.Knots)] ?_
 refine LWp.o 6 (I 0) ?_
 refine LWp.nil ?_
 refine Wp.seq ?_
 refine Wp.seq ?_
 refine Wp.j1 h [1, 2, 3, 20] [.box 3] (fun a => (s_GetAt_H1 xA xRoot xSector a)) ?_ ?_
 · intro a h
   refine Wp.region ?_
   refine LWp.o 7 (.agg [.sl false 218 2 (encs (c218 false) xA.Knots)]) ?_
   refine LWp.cl h 8 (fun v1 => (B v1)) rfl (l := [.sv (.agg [.sl false 218 2 (encs (c218 false) xA.Knots)])]) rfl (fun v hv => s_ArenaOk_t xA v hv) (.inl rfl) ?_
   intro v1 gv1 h
   refine LWp.o 9 (B (!v1)) ?_
   refine LWp.o 10 (B (!v1)) ?_
   refine LWp.sp h 10 (fun h => ?_) (fun h => ?_)
   · refine LWp.sh 11 ?_
     refine LWp.sh 12 ?_
     refine LWp.sh 13 ?_
     refine LWp.sh 14 ?_
     refine LWp.o 15 (B true) ?_
     refine LWp.o 16 (B true) ?_
     refine LWp.sh 17 ?_
     refine LWp.sh 18 ?_
     refine LWp.sh 19 ?_
     refine LWp.o 20 (B true) ?_
     refine LWp.nil ?_
     cases h
     exact ⟨_, rfl, rfl, rfl⟩
   refine LWp.o 11 (.agg [.sl false 218 2 (encs (c218 false) xA.Knots)]) ?_
   refine LWp.o 12 (I xRoot) ?_
   refine LWp.cl h 13 (fun v2 => (B v2)) rfl (l := [.sv (.agg [.sl false 218 2 (encs (c218 false) xA.Knots)]), .sv (.one (.int .i64 xRoot))]) rfl (fun v hv => s_l11Root_t xA xRoot v hv) (.inl rfl) ?_
   intro v2 gv2 h
   refine LWp.o 14 (B (!v2)) ?_
   refine LWp.o 15 (B (!v2)) ?_
   refine LWp.o 16 (B (!v2)) ?_
   refine LWp.sp h 16 (fun h => ?_) (fun h => ?_)
   · refine LWp.sh 17 ?_
     refine LWp.sh 18 ?_
     refine LWp.sh 19 ?_
     refine LWp.o 20 (B true) ?_
     refine LWp.nil ?_
     cases h
     exact ⟨_, rfl, rfl, rfl⟩
   refine LWp.o 17 (I xSector) ?_
   refine LWp.cl h 18 (fun v3 => (B v3)) rfl (l := [.sv (.one (.int .i64 xSector)), .sv (.one (.int .i64 0)), .sv (.one (.int .i64 15))]) rfl (fun v hv => s_l01In_t xSector 0 15 v hv) (.inl rfl) ?_
   intro v3 gv3 h
   refine LWp.o 19 (B (!v3)) ?_
   refine LWp.o 20 (B (!v3)) ?_
   refine LWp.nil ?_
   cases h
   exact ⟨_, rfl, rfl, rfl⟩
 intro j1 h E hE
 refine nt_wp hE ?_
 change Wp _ _ _ (s_GetAt_H1 xA xRoot xSector j1) _
 refine Wp.c h (fun h => ?_) (fun h => ?_)
 · refine Wp.seq (Wp.region ?_)
   refine LWp.o 6 (I 0) ?_
   refine LWp.nil ?_
   cases h
   exact Wp.ret ⟨.inr rfl, _, _, rfl, rfl⟩
 refine Wp.skip ?_
 refine Wp.seq (Wp.region ?_)
 refine LWp.o 21 (.agg [.sl false 218 2 (encs (c218 false) xA.Knots)]) ?_
 refine LWp.o 22 (I xRoot) ?_
 refine LWp.o 23 (I xSector) ?_
 refine LWp.cl h 24 (fun v4 => (I v4)) rfl (l := [.sv (.agg [.sl false 218 2 (encs (c218 false) xA.Knots)]), .sv (.one (.int .i64 xRoot)), .sv (.one (.int .i64 xSector))]) rfl (fun v hv => s_l11Get_t xA xRoot xSector v hv) (.inl rfl) ?_
 intro v4 gv4 h
 refine LWp.o 6 (I v4) ?_
 refine LWp.nil ?_
 cases h
 exact Wp.ret ⟨.inr rfl, _, _, rfl, rfl⟩
theorem s_ChunkOf_t (xS : Store) (xVol : Int) (xSector : Int) (r : Int) (h : s_ChunkOf xS xVol xSector = some r) : Gives Tryz.prog 103 [.sv (.agg [.sl false 110 2 (encs c110 xS.Vols), .sl false 218 2 (encs (c218 false) xS.Arena.Knots), .int .i64 xS.Next]), .sv (I xVol), .sv (I xSector)] (I r) (List.replicate 3 .gone) := by
 unfold s_ChunkOf at h
 refine gives_of Tryz.func103 rfl ?_
 rw [Tryz.ntmps103]
 refine Wp.seq (Wp.region ?_)
 refine LWp.b [] 3 [.sl false 110 2 (encs c110 xS.Vols), .sl false 218 2 (encs (c218 false) xS.Arena.Knots), .int .i64 xS.Next] ?_
 refine LWp.o 6 (I 0) ?_
 refine LWp.nil ?_
 refine Wp.seq (Wp.region ?_)
 refine LWp.o 8 (.agg [.sl false 110 2 (encs c110 xS.Vols), .sl false 218 2 (encs (c218 false) xS.Arena.Knots), .int .i64 xS.Next]) ?_
 refine LWp.o 9 (I xVol) ?_
 refine LWp.cl h 10 (fun v1 => (I v1)) rfl (l := [.sv (.agg [.sl false 110 2 (encs c110 xS.Vols), .sl false 218 2 (encs (c218 false) xS.Arena.Knots), .int .i64 xS.Next]), .sv (.one (.int .i64 xVol))]) rfl (fun v hv => s_l12At_t xS xVol v hv) (.inl rfl) ?_
 intro v1 gv1 h
 refine LWp.o 7 (I v1) ?_
 refine LWp.nil ?_
 refine Wp.seq ?_
 refine Wp.seq (Wp.region ?_)
 refine LWp.o 11 (I v1) ?_
 refine LWp.o 12 (B (decide (v1 < 0))) ?_
 refine LWp.nil ?_
 refine Wp.c h (fun h => ?_) (fun h => ?_)
 · refine Wp.seq (Wp.region ?_)
   refine LWp.o 6 (I 0) ?_
   refine LWp.nil ?_
   cases h
   exact Wp.ret ⟨.inr rfl, _, _, rfl, rfl⟩
 refine Wp.skip ?_
 refine Wp.seq ?_
 refine Wp.regionT 9 mixed (by decide +kernel) ?_
 refine SWp.o 13 (.one (.ptr (.box 3) 1 [] 1)) ?_
 refine SWp.o 14 (.agg [.sl false 218 2 (encs (c218 false) xS.Arena.Knots)]) ?_
 refine SWp.o 15 (.one (.ptr (.box 3) 1 [] 0)) ?_
 refine SWp.o 16 (.one (.sl false 110 2 (encs c110 xS.Vols))) ?_
 refine SWp.o 17 (I v1) ?_
 refine SWp.p h 18 (fun _ => (.one (.ptr (.slot 16) 1 [0] (Int.toNat v1 * 2 + 0)))) ?_ (fun x1 gx1 => sl_pure (p_ix k110 (.slot 16) [] 0 gx1))
 intro x1 gx1 h
 refine SWp.o 19 (.one (.ptr (.slot 16) 1 [0] (Int.toNat v1 * 2 + 1))) ?_ (sl_pure (p_fa k110 (.slot 16) [0] 0 gx1))
 refine SWp.o 20 (I x1.Root) ?_ (sl_pure (p_lc k110 (.slot 16) [0] 1 (.int .i64 x1.Root) gx1))
 refine SWp.o 21 (I xSector) ?_
 refine SWp.nil ?_
 refine LWp.cl h 22 (fun v2 => (I v2)) rfl (l := [.sv (.agg [.sl false 218 2 (encs (c218 false) xS.Arena.Knots)]), .sv (.one (.int .i64 x1.Root)), .sv (.one (.int .i64 xSector))]) rfl (fun v hv => s_GetAt_t xS.Arena x1.Root xSector v hv) (.inl rfl) ?_
 intro v2 gv2 h
 refine LWp.o 6 (I v2) ?_
 refine LWp.nil ?_
 cases h
 exact Wp.ret ⟨.inr rfl, _, _, rfl, rfl⟩
def s_l13Newest_H1 (xList : List Found) (xChunk : Int) (z1 : Int) : St := mkSt [(0, (.one (.sl false 158 8 (encs c158 xList)))), (1, (I xChunk)), (4, (.one (.ptr (.box 4) 0 [] 0))), (6, (I z1))] [(.box 4, [.int .i64 0, .int .i64 0, .int .i64 0, .int .i64 0, .int .i64 0, .int .i64 0, .int .i64 0, .str (bs [])])]
def s_l13Newest_H2  : St := mkSt [(4, (.one (.ptr (.box 4) 0 [] 0)))] [(.box 4, [.int .i64 0, .int .i64 0, .int .i64 0, .int .i64 0, .int .i64 0, .int .i64 0, .int .i64 0, .str (bs [])])]
def s_l13Newest_H3 (xList : List Found) (xChunk : Int) (yI1 : Int) (z2 : Bool) : St := mkSt [(0, (.one (.sl false 158 8 (encs c158 xList)))), (1, (I xChunk)), (4, (.one (.ptr (.box 4) 0 [] 0))), (6, (I yI1)), (30, (B z2))] [(.box 4, [.int .i64 0, .int .i64 0, .int .i64 0, .int .i64 0, .int .i64 0, .int .i64 0, .int .i64 0, .str (bs [])])]
theorem s_l13Newest_t (xList : List Found) (xChunk : Int) (r : Found × Bool) (h : s_l13Newest xList xChunk = some r) : Gives Tryz.prog 154 [.sv (.one (.sl false 158 8 (encs c158 xList))), .sv (I xChunk)] (.tup [(.agg [.int .i64 r.1.Block, .int .i64 r.1.Leaf, .int .i64 r.1.Page.Kind, .int .i64 r.1.Page.Seq, .int .i64 r.1.Page.Tx, .int .i64 r.1.Page.Part, .int .i64 r.1.Page.Count, .str r.1.Page.Text]), (B r.2)]) (List.replicate 2 .gone) := by
 unfold s_l13Newest at h
 refine gives_of Tryz.func154 rfl ?_
 rw [Tryz.ntmps154]
 refine Wp.seq (Wp.region ?_)
 refine LWp.b [] 4 [.int .i64 0, .int .i64 0, .int .i64 0, .int .i64 0, .int .i64 0, .int .i64 0, .int .i64 0, .str (bs [])] ?_
 refine LWp.o 5 (B false) ?_
 refine LWp.nil ?_
 refine Wp.seq ?_
 refine Wp.seq (Wp.region ?_)
 refine LWp.o 7 (.one (.sl false 158 8 (encs c158 xList))) ?_
 refine LWp.o 8 (I (ln xList)) ?_ (st_pure (p_ln k158 xList))
 refine LWp.o 9 (I (sb (ln xList) 1)) ?_
 refine LWp.o 6 (I (sb (ln xList) 1)) ?_
 refine LWp.nil ?_
 refine Wp.l2 h [0, 1, 4, 6] [.box 4] (fun s => (s_l13Newest_H1 xList xChunk s)) [4] [.box 4] (fun _ => s_l13Newest_H2) ⟨rfl, rfl⟩ ?_ ?_
 · rintro yI1 o (h : s_l13Newest_b1 xList xChunk yI1 = some o) hk1
   unfold s_l13Newest_b1 at h
   change Wp _ _ _ (s_l13Newest_H1 xList xChunk yI1) _
   refine Wp.seq ?_
   refine Wp.seq (Wp.region ?_)
   refine LWp.o 10 (I yI1) ?_
   refine LWp.o 11 (B (decide (yI1 ≥ 0))) ?_
   refine LWp.nil ?_
   refine Wp.c h (fun h => ?_) (fun h => ?_)
   · refine Wp.skip ?_
     refine Wp.seq ?_
     refine Wp.block ?_
     refine Wp.seq ?_
     refine Wp.j1 h [0, 1, 4, 6, 30] [.box 4] (fun a => (s_l13Newest_H3 xList xChunk yI1 a)) ?_ ?_
     · intro a h
       refine Wp.region ?_
       refine LWp.o 14 (.one (.sl false 158 8 (encs c158 xList))) ?_
       refine LWp.o 15 (I yI1) ?_
       refine LWp.p h 16 (fun _ => (.one (.ptr (.slot 14) 1 [0] (Int.toNat yI1 * 8 + 0)))) ?_ (fun x1 gx1 => st_pure (p_ix k158 (.slot 14) [] 0 gx1))
       intro x1 gx1 h
       refine LWp.o 17 (.one (.ptr (.slot 14) 1 [0] (Int.toNat yI1 * 8 + 2))) ?_ (st_pure (p_fa k158 (.slot 14) [0] 0 gx1))
       refine LWp.o 18 (.one (.ptr (.slot 14) 1 [0] (Int.toNat yI1 * 8 + 2))) ?_ (st_pure (p_fa k158 (.slot 14) [0] 2 gx1))
       refine LWp.o 19 (I x1.Page.Kind) ?_ (st_pure (p_lc k158 (.slot 14) [0] 2 (.int .i64 x1.Page.Kind) gx1))
       refine LWp.o 20 (B (x1.Page.Kind == 1)) ?_
       refine LWp.o 21 (B (x1.Page.Kind == 1)) ?_
       refine LWp.sp h 21 (fun h => ?_) (fun h => ?_)
       · refine LWp.o 22 (.one (.sl false 158 8 (encs c158 xList))) ?_
         refine LWp.o 23 (I yI1) ?_
         refine LWp.p h 24 (fun _ => (.one (.ptr (.slot 22) 1 [0] (Int.toNat yI1 * 8 + 0)))) ?_ (fun x2 gx2 => st_pure (p_ix k158 (.slot 22) [] 0 gx2))
         intro x2 gx2 h
         refine LWp.o 25 (.one (.ptr (.slot 22) 1 [0] (Int.toNat yI1 * 8 + 2))) ?_ (st_pure (p_fa k158 (.slot 22) [0] 0 gx2))
         refine LWp.o 26 (.one (.ptr (.slot 22) 1 [0] (Int.toNat yI1 * 8 + 4))) ?_ (st_pure (p_fa k158 (.slot 22) [0] 2 gx2))
         refine LWp.o 27 (I x2.Page.Tx) ?_ (st_pure (p_lc k158 (.slot 22) [0] 4 (.int .i64 x2.Page.Tx) gx2))
         refine LWp.o 28 (I xChunk) ?_
         refine LWp.o 29 (B (x2.Page.Tx == xChunk)) ?_
         refine LWp.o 30 (B (x2.Page.Tx == xChunk)) ?_
         refine LWp.nil ?_
         cases h
         exact ⟨_, rfl, rfl, rfl⟩
       refine LWp.sh 22 ?_
       refine LWp.sh 23 ?_
       refine LWp.sh 24 ?_
       refine LWp.sh 25 ?_
       refine LWp.sh 26 ?_
       refine LWp.sh 27 ?_
       refine LWp.sh 28 ?_
       refine LWp.sh 29 ?_
       refine LWp.o 30 (B false) ?_
       refine LWp.nil ?_
       cases h
       exact ⟨_, rfl, rfl, rfl⟩
     intro j1 h E hE
     refine nt_wp hE ?_
     change Wp _ _ _ (s_l13Newest_H3 xList xChunk yI1 j1) _
     refine Wp.c h (fun h => ?_) (fun h => ?_)
     · refine Wp.seq (Wp.region ?_)
       refine LWp.o 31 (.one (.sl false 158 8 (encs c158 xList))) ?_
       refine LWp.o 32 (I yI1) ?_
       refine LWp.p h 33 (fun _ => (.one (.ptr (.slot 31) 1 [0] (Int.toNat yI1 * 8 + 0)))) ?_ (fun x3 gx3 => st_pure (p_ix k158 (.slot 31) [] 0 gx3))
       intro x3 gx3 h
       refine LWp.o 34 (.agg [.int .i64 x3.Block, .int .i64 x3.Leaf, .int .i64 x3.Page.Kind, .int .i64 x3.Page.Seq, .int .i64 x3.Page.Tx, .int .i64 x3.Page.Part, .int .i64 x3.Page.Count, .str x3.Page.Text]) ?_ (st_pure (p_le k158 (.slot 31) [0] gx3))
       refine LWp.s [] (.box 4) [.int .i64 x3.Block, .int .i64 x3.Leaf, .int .i64 x3.Page.Kind, .int .i64 x3.Page.Seq, .int .i64 x3.Page.Tx, .int .i64 x3.Page.Part, .int .i64 x3.Page.Count, .str x3.Page.Text] ?_
       refine LWp.o 5 (B true) ?_
       refine LWp.nil ?_
       cases h
       replace h : some _ = some _ := hk1 _ rfl
       cases h
       exact Wp.ret ⟨.inr rfl, _, _, rfl, rfl⟩
     refine Wp.skip ?_
     refine Wp.region ?_
     refine LWp.o 12 (I yI1) ?_
     refine LWp.o 13 (I (sb yI1 1)) ?_
     refine LWp.o 6 (I (sb yI1 1)) ?_
     refine LWp.nil ?_
     cases h
     exact ⟨_, rfl, rfl, rfl⟩
   refine Wp.exit ?_
   cases h
   exact ⟨_, rfl, rfl, rfl⟩
 intro v1 h E hE
 refine nt_wp hE ?_
 change Wp _ _ _ s_l13Newest_H2 _
 refine Wp.seq (Wp.region ?_)
 refine LWp.o 35 (.agg [.int .i64 0, .int .i64 0, .int .i64 0, .int .i64 0, .int .i64 0, .int .i64 0, .int .i64 0, .str (bs [])]) ?_
 refine LWp.s [] (.box 4) [.int .i64 0, .int .i64 0, .int .i64 0, .int .i64 0, .int .i64 0, .int .i64 0, .int .i64 0, .str (bs [])] ?_
 refine LWp.o 5 (B false) ?_
 refine LWp.nil ?_
 cases h
 exact Wp.ret ⟨.inr rfl, _, _, rfl, rfl⟩
def c171 (x : Token) : List TV := [.int .i64 x.Back, .int .i64 x.Size, .str x.Text]
theorem k171 : ∀ x, (c171 x).length = 3 := fun _ => rfl
theorem sh171 : ∀ l, shares (encs c171 l) = encs c171 l := shares_encs (fun _ => rfl)
theorem ns171 : ∀ l, hasShareds (encs c171 l) = false := ns_encs (fun _ => rfl)
def s_l04Tokens_H1 (xT : ByteArray) (z1 : List Token) (z2 : Int) : St := mkSt [(0, (Y xT)), (4, (.one (.sl true 171 3 (encs c171 z1)))), (5, (I z2))] []
def s_l04Tokens_H2 (z3 : List Token) : St := mkSt [(4, (.one (.sl true 171 3 (encs c171 z3))))] []
theorem s_l04Tokens_t (xT : ByteArray) (r : List Token × Bool) (h : s_l04Tokens xT = some r) : Gives Tryz.prog 186 [.sv (Y xT)] (.tup [(.one (.sl true 171 3 (encs c171 r.1))), (B r.2)]) (List.replicate 1 .gone) := by
 unfold s_l04Tokens at h
 refine gives_of Tryz.func186 rfl ?_
 rw [Tryz.ntmps186]
 refine Wp.seq (Wp.region ?_)
 refine LWp.o 2 (.one (.sl true 171 3 (encs c171 []))) ?_
 refine LWp.o 3 (B false) ?_
 refine LWp.nil ?_
 refine Wp.seq (Wp.region ?_)
 refine LWp.m false [] 7 (.one (.sl true 171 3 (encs c171 []))) ?_
 refine LWp.m true [(.slot 7, [.junk])] 4 (.one (.sl true 171 3 (encs c171 []))) ?_
 refine LWp.nil ?_
 refine Wp.seq (Wp.region ?_)
 refine LWp.o 5 (I 0) ?_
 refine LWp.nil ?_
 refine Wp.seq ?_
 refine Wp.l2 h [0, 4, 5] [] (fun s => (s_l04Tokens_H1 xT s.1 s.2)) [4] [] (fun s => (s_l04Tokens_H2 s)) ⟨rfl, rfl⟩ ?_ ?_
 · rintro ⟨yOut1, yAt1⟩ o (h : s_l04Tokens_b1 xT yOut1 yAt1 = some o) hk1
   unfold s_l04Tokens_b1 at h
   change Wp _ _ _ (s_l04Tokens_H1 xT yOut1 yAt1) _
   refine Wp.seq ?_
   refine Wp.seq (Wp.region ?_)
   refine LWp.o 8 (I yAt1) ?_
   refine LWp.o 9 (Y xT) ?_
   refine LWp.o 10 (I (sln xT)) ?_
   refine LWp.o 11 (B (decide (yAt1 < (sln xT)))) ?_
   refine LWp.nil ?_
   refine Wp.c h (fun h => ?_) (fun h => ?_)
   · refine Wp.skip ?_
     refine Wp.block ?_
     refine Wp.seq (Wp.region ?_)
     refine LWp.o 12 (Y xT) ?_
     refine LWp.o 13 (I yAt1) ?_
     refine LWp.p h 14 (fun x1 => (.one (.int .u8 x1))) ?_ (fun x1 gx1 => st_pure (p_sx gx1))
     intro x1 gx1 h
     refine LWp.o 15 (I (IntKind.i64.wrap x1)) ?_
     refine LWp.o 6 (I (IntKind.i64.wrap x1)) ?_
     refine LWp.nil ?_
     refine Wp.seq ?_
     refine Wp.seq (Wp.region ?_)
     refine LWp.o 16 (I (IntKind.i64.wrap x1)) ?_
     refine LWp.o 17 (B (decide ((IntKind.i64.wrap x1) > 128))) ?_
     refine LWp.nil ?_
     refine Wp.c h (fun h => ?_) (fun h => ?_)
     · refine Wp.seq ?_
       refine Wp.seq (Wp.region ?_)
       refine LWp.o 18 (I yAt1) ?_
       refine LWp.o 19 (I (ad yAt1 2)) ?_
       refine LWp.o 20 (Y xT) ?_
       refine LWp.o 21 (I (sln xT)) ?_
       refine LWp.o 22 (B (decide ((ad yAt1 2) > (sln xT)))) ?_
       refine LWp.nil ?_
       refine Wp.c h (fun h => ?_) (fun h => ?_)
       · refine Wp.seq (Wp.region ?_)
         refine LWp.o 23 (.one (.view (.slot 4) 0 [] 0)) ?_
         refine LWp.m true [(.slot 4, [.junk])] 2 (.one (.sl true 171 3 (encs c171 yOut1))) ?_
         refine LWp.o 3 (B false) ?_
         refine LWp.nil ?_
         cases h
         replace h : some _ = some _ := hk1 _ rfl
         cases h
         exact Wp.ret ⟨.inr rfl, _, _, rfl, rfl⟩
       refine Wp.skip ?_
       refine Wp.seq (Wp.region ?_)
       refine LWp.o 24 (.one (.view (.slot 4) 0 [] 0)) ?_
       refine LWp.o 25 (Y xT) ?_
       refine LWp.o 26 (I yAt1) ?_
       refine LWp.o 27 (I (ad yAt1 1)) ?_
       refine LWp.p h 28 (fun x2 => (.one (.int .u8 x2))) ?_ (fun x2 gx2 => st_pure (p_sx gx2))
       intro x2 gx2 h
       refine LWp.o 29 (I (IntKind.i64.wrap x2)) ?_
       refine LWp.o 30 (I (IntKind.i64.wrap x1)) ?_
       refine LWp.o 31 (I (sb (IntKind.i64.wrap x1) 128)) ?_
       refine LWp.o 32 (.agg [.int .i64 (IntKind.i64.wrap x2), .int .i64 (sb (IntKind.i64.wrap x1) 128), .str (bs [])]) ?_
       refine LWp.m false [] 33 (.one (.sl true 171 3 (encs c171 [(Token.mk (IntKind.i64.wrap x2) (sb (IntKind.i64.wrap x1) 128) (bs []))]))) ?_
       refine LWp.pm h [(.slot 4, [.junk])] 34 (fun q1 => (.one (.sl true 171 3 (encs c171 q1)))) ?_ (fun q1 gq1 => s_apl k171 (fun _ => rfl) [(.slot 4, [.junk])] yOut1 gq1)
       intro q1 gq1 h
       refine LWp.m true [(.slot 34, [.junk])] 4 (.one (.sl true 171 3 (encs c171 q1))) ?_
       refine LWp.nil ?_
       refine Wp.seq (Wp.region ?_)
       refine LWp.o 35 (I yAt1) ?_
       refine LWp.o 36 (I (ad yAt1 2)) ?_
       refine LWp.o 5 (I (ad yAt1 2)) ?_
       refine LWp.nil ?_
       refine Wp.exit ?_
       cases h
       exact ⟨_, rfl, rfl, rfl⟩
     refine Wp.skip ?_
     refine Wp.seq ?_
     refine Wp.seq (Wp.region ?_)
     refine LWp.o 37 (I yAt1) ?_
     refine LWp.o 38 (I (ad yAt1 1)) ?_
     refine LWp.o 39 (I (IntKind.i64.wrap x1)) ?_
     refine LWp.o 40 (I (ad (ad yAt1 1) (IntKind.i64.wrap x1))) ?_
     refine LWp.o 41 (Y xT) ?_
     refine LWp.o 42 (I (sln xT)) ?_
     refine LWp.o 43 (B (decide ((ad (ad yAt1 1) (IntKind.i64.wrap x1)) > (sln xT)))) ?_
     refine LWp.nil ?_
     refine Wp.c h (fun h => ?_) (fun h => ?_)
     · refine Wp.seq (Wp.region ?_)
       refine LWp.o 44 (.one (.view (.slot 4) 0 [] 0)) ?_
       refine LWp.m true [(.slot 4, [.junk])] 2 (.one (.sl true 171 3 (encs c171 yOut1))) ?_
       refine LWp.o 3 (B false) ?_
       refine LWp.nil ?_
       cases h
       replace h : some _ = some _ := hk1 _ rfl
       cases h
       exact Wp.ret ⟨.inr rfl, _, _, rfl, rfl⟩
     refine Wp.skip ?_
     refine Wp.seq (Wp.region ?_)
     refine LWp.o 45 (.one (.view (.slot 4) 0 [] 0)) ?_
     refine LWp.o 46 (Y xT) ?_
     refine LWp.o 47 (I yAt1) ?_
     refine LWp.o 48 (I (ad yAt1 1)) ?_
     refine LWp.o 49 (I yAt1) ?_
     refine LWp.o 50 (I (ad yAt1 1)) ?_
     refine LWp.o 51 (I (IntKind.i64.wrap x1)) ?_
     refine LWp.o 52 (I (ad (ad yAt1 1) (IntKind.i64.wrap x1))) ?_
     refine LWp.p h 53 (fun x3 => (Y x3)) ?_ (fun x3 gx3 => st_pure (p_sub gx3))
     intro x3 gx3 h
     refine LWp.o 54 (.agg [.int .i64 0, .int .i64 0, .str x3]) ?_
     refine LWp.m false [] 55 (.one (.sl true 171 3 (encs c171 [(Token.mk 0 0 x3)]))) ?_
     refine LWp.pm h [(.slot 4, [.junk])] 56 (fun q2 => (.one (.sl true 171 3 (encs c171 q2)))) ?_ (fun q2 gq2 => s_apl k171 (fun _ => rfl) [(.slot 4, [.junk])] yOut1 gq2)
     intro q2 gq2 h
     refine LWp.m true [(.slot 56, [.junk])] 4 (.one (.sl true 171 3 (encs c171 q2))) ?_
     refine LWp.nil ?_
     refine Wp.region ?_
     refine LWp.o 57 (I yAt1) ?_
     refine LWp.o 58 (I (ad yAt1 1)) ?_
     refine LWp.o 59 (I (IntKind.i64.wrap x1)) ?_
     refine LWp.o 60 (I (ad (ad yAt1 1) (IntKind.i64.wrap x1))) ?_
     refine LWp.o 5 (I (ad (ad yAt1 1) (IntKind.i64.wrap x1))) ?_
     refine LWp.nil ?_
     cases h
     exact ⟨_, rfl, rfl, rfl⟩
   refine Wp.exit ?_
   cases h
   exact ⟨_, rfl, rfl, rfl⟩
 intro v1 h E hE
 refine nt_wp hE ?_
 change Wp _ _ _ (s_l04Tokens_H2 v1) _
 refine Wp.seq (Wp.region ?_)
 refine LWp.o 61 (.one (.view (.slot 4) 0 [] 0)) ?_
 refine LWp.m true [(.slot 4, [.junk])] 2 (.one (.sl true 171 3 (encs c171 v1))) ?_
 refine LWp.o 3 (B true) ?_
 refine LWp.nil ?_
 cases h
 exact Wp.ret ⟨.inr rfl, _, _, rfl, rfl⟩
def s_PlainOf_H1 (xList : List Token) (z1 : List Int) (z2 : Int) : St := mkSt [(0, (.one (.sl false 171 3 (encs c171 xList)))), (4, (.one (.sl true 5 1 (encs c5 z1)))), (5, (I z2))] []
def s_PlainOf_H2 (z3 : List Int) : St := mkSt [(4, (.one (.sl true 5 1 (encs c5 z3))))] []
def s_PlainOf_H3 (xList : List Token) (yI1 : Int) (z4 : List Int) : St := mkSt [(0, (.one (.sl false 171 3 (encs c171 xList)))), (4, (.one (.sl true 5 1 (encs c5 z4)))), (5, (I yI1))] []
def s_PlainOf_H4 (xList : List Token) (yOut1 : List Int) (yI1 : Int) (x1 : Token) (z5 : Bool) : St := mkSt [(0, (.one (.sl false 171 3 (encs c171 xList)))), (4, (.one (.sl true 5 1 (encs c5 yOut1)))), (5, (I yI1)), (6, (.one (.ptr (.box 6) 0 [] 0))), (32, (B z5))] [(.box 6, [.int .i64 x1.Back, .int .i64 x1.Size, .str x1.Text])]
def s_PlainOf_H5 (xList : List Token) (yOut1 : List Int) (yI1 : Int) (x1 : Token) (z6 : Bool) : St := mkSt [(0, (.one (.sl false 171 3 (encs c171 xList)))), (4, (.one (.sl true 5 1 (encs c5 yOut1)))), (5, (I yI1)), (6, (.one (.ptr (.box 6) 0 [] 0))), (54, (B z6))] [(.box 6, [.int .i64 x1.Back, .int .i64 x1.Size, .str x1.Text])]
def s_PlainOf_H6 (xList : List Token) (yI1 : Int) (x1 : Token) (z7 : List Int) (z8 : Int) : St := mkSt [(0, (.one (.sl false 171 3 (encs c171 xList)))), (4, (.one (.sl true 5 1 (encs c5 z7)))), (5, (I yI1)), (6, (.one (.ptr (.box 6) 0 [] 0))), (7, (I z8))] [(.box 6, [.int .i64 x1.Back, .int .i64 x1.Size, .str x1.Text])]
def s_PlainOf_H7 (xList : List Token) (yI1 : Int) (z9 : List Int) : St := mkSt [(0, (.one (.sl false 171 3 (encs c171 xList)))), (4, (.one (.sl true 5 1 (encs c5 z9)))), (5, (I yI1))] []
theorem s_PlainOf_t (xList : List Token) (r : ByteArray × Bool) (h : s_PlainOf xList = some r) : Gives Tryz.prog 187 [.sv (.one (.sl false 171 3 (encs c171 xList)))] (.tup [(Y r.1), (B r.2)]) (List.replicate 1 .gone) := by
 unfold s_PlainOf at h
 refine gives_of Tryz.func187 rfl ?_
 rw [Tryz.ntmps187]
 refine Wp.seq (Wp.region ?_)
 refine LWp.o 2 (Y (bs [])) ?_
 refine LWp.o 3 (B false) ?_
 refine LWp.nil ?_
 refine Wp.seq (Wp.region ?_)
 refine LWp.m false [] 9 (.one (.sl true 5 1 (encs c5 []))) ?_
 refine LWp.m true [(.slot 9, [.junk])] 4 (.one (.sl true 5 1 (encs c5 []))) ?_
 refine LWp.nil ?_
 refine Wp.seq ?_
 refine Wp.seq (Wp.region ?_)
 refine LWp.o 5 (I 0) ?_
 refine LWp.nil ?_
 refine Wp.l2 h [0, 4, 5] [] (fun s => (s_PlainOf_H1 xList s.1 s.2)) [4] [] (fun s => (s_PlainOf_H2 s)) ⟨rfl, rfl⟩ ?_ ?_
 · rintro ⟨yOut1, yI1⟩ o (h : s_PlainOf_b1 xList yOut1 yI1 = some o) hk1
   unfold s_PlainOf_b1 at h
   change Wp _ _ _ (s_PlainOf_H1 xList yOut1 yI1) _
   refine Wp.seq ?_
   refine Wp.seq (Wp.region ?_)
   refine LWp.o 10 (I yI1) ?_
   refine LWp.o 11 (.one (.sl false 171 3 (encs c171 xList))) ?_
   refine LWp.o 12 (I (ln xList)) ?_ (st_pure (p_ln k171 xList))
   refine LWp.o 13 (B (decide (yI1 < (ln xList)))) ?_
   refine LWp.nil ?_
   refine Wp.c h (fun h => ?_) (fun h => ?_)
   · refine Wp.skip ?_
     refine Wp.seq ?_
     refine Wp.block ?_
     refine Wp.seq (Wp.region ?_)
     refine LWp.o 16 (.one (.sl false 171 3 (encs c171 xList))) ?_
     refine LWp.o 17 (I yI1) ?_
     refine LWp.p h 18 (fun _ => (.one (.ptr (.slot 16) 1 [0] (Int.toNat yI1 * 3 + 0)))) ?_ (fun x1 gx1 => st_pure (p_ix k171 (.slot 16) [] 0 gx1))
     intro x1 gx1 h
     refine LWp.o 19 (.agg [.int .i64 x1.Back, .int .i64 x1.Size, .str x1.Text]) ?_ (st_pure (p_le k171 (.slot 16) [0] gx1))
     refine LWp.b [] 6 [.int .i64 0, .int .i64 0, .str (bs [])] ?_
     refine LWp.s [] (.box 6) [.int .i64 x1.Back, .int .i64 x1.Size, .str x1.Text] ?_
     refine LWp.nil ?_
     refine Wp.seq ?_
     refine Wp.seq (Wp.region ?_)
     refine LWp.o 20 (.one (.ptr (.box 6) 1 [] 0)) ?_
     refine LWp.o 21 (I x1.Back) ?_
     refine LWp.o 22 (B (x1.Back == 0)) ?_
     refine LWp.nil ?_
     refine Wp.j2 h [0, 4, 5] [] (fun a => (s_PlainOf_H3 xList yI1 a)) ?_ ?_
     · intro a h hk2
       refine Wp.c h (fun h => ?_) (fun h => ?_)
       · refine Wp.seq ?_
         refine Wp.seq ?_
         refine Wp.j1 h [0, 4, 5, 6, 32] [.box 6] (fun a => (s_PlainOf_H4 xList yOut1 yI1 x1 a)) ?_ ?_
         · intro a h
           refine Wp.region ?_
           refine LWp.o 23 (.one (.ptr (.box 6) 1 [] 2)) ?_
           refine LWp.o 24 (Y x1.Text) ?_
           refine LWp.o 25 (I (sln x1.Text)) ?_
           refine LWp.cl h 26 (fun v1 => (B v1)) rfl (l := [.sv (.one (.int .i64 (sln x1.Text))), .sv (.one (.int .i64 1)), .sv (.one (.int .i64 31))]) rfl (fun v hv => s_l01In_t (sln x1.Text) 1 31 v hv) (.inl rfl) ?_
           intro v1 gv1 h
           refine LWp.o 27 (B (!v1)) ?_
           refine LWp.o 28 (B (!v1)) ?_
           refine LWp.sp h 28 (fun h => ?_) (fun h => ?_)
           · refine LWp.sh 29 ?_
             refine LWp.sh 30 ?_
             refine LWp.sh 31 ?_
             refine LWp.o 32 (B true) ?_
             refine LWp.nil ?_
             cases h
             exact ⟨_, rfl, rfl, rfl⟩
           refine LWp.o 29 (.one (.ptr (.box 6) 1 [] 1)) ?_
           refine LWp.o 30 (I x1.Size) ?_
           refine LWp.o 31 (B (x1.Size != 0)) ?_
           refine LWp.o 32 (B (x1.Size != 0)) ?_
           refine LWp.nil ?_
           cases h
           exact ⟨_, rfl, rfl, rfl⟩
         intro j2 h E hE
         refine nt_wp hE ?_
         change Wp _ _ _ (s_PlainOf_H4 xList yOut1 yI1 x1 j2) _
         refine Wp.c h (fun h => ?_) (fun h => ?_)
         · refine Wp.seq (Wp.region ?_)
           refine LWp.o 2 (Y (bs [])) ?_
           refine LWp.o 3 (B false) ?_
           refine LWp.nil ?_
           cases h
           replace h : some _ = some _ := hk2
           cases h
           replace h : some _ = some _ := hk1 _ rfl
           cases h
           exact Wp.ret ⟨.inr rfl, _, _, rfl, rfl⟩
         refine Wp.skip ?_
         refine Wp.region ?_
         refine LWp.o 33 (.one (.view (.slot 4) 0 [] 0)) ?_
         refine LWp.o 34 (.one (.ptr (.box 6) 0 [] 2)) ?_
         refine LWp.o 35 (Y x1.Text) ?_
         refine LWp.o 36 (.one (.sl false 5 1 (encs c5 (sby x1.Text)))) ?_ (s_sb (fun _ => rfl))
         refine LWp.pm h [(.slot 4, [.junk])] 37 (fun q1 => (.one (.sl true 5 1 (encs c5 q1)))) ?_ (fun q1 gq1 => s_apl k5 (fun _ => rfl) [(.slot 4, [.junk])] yOut1 gq1)
         intro q1 gq1 h
         refine LWp.m true [(.slot 37, [.junk])] 4 (.one (.sl true 5 1 (encs c5 q1))) ?_
         refine LWp.nil ?_
         cases h
         exact ⟨_, rfl, rfl, rfl⟩
       refine Wp.seq ?_
       refine Wp.seq ?_
       refine Wp.j1 h [0, 4, 5, 6, 54] [.box 6] (fun a => (s_PlainOf_H5 xList yOut1 yI1 x1 a)) ?_ ?_
       · intro a h
         refine Wp.region ?_
         refine LWp.o 38 (.one (.ptr (.box 6) 1 [] 0)) ?_
         refine LWp.o 39 (I x1.Back) ?_
         refine LWp.o 40 (.one (.view (.slot 4) 0 [] 0)) ?_
         refine LWp.o 41 (I (ln yOut1)) ?_ (st_pure (p_ln k5 yOut1))
         refine LWp.cl h 42 (fun v2 => (B v2)) rfl (l := [.sv (.one (.int .i64 x1.Back)), .sv (.one (.int .i64 1)), .sv (.one (.int .i64 (ln yOut1)))]) rfl (fun v hv => s_l01In_t x1.Back 1 (ln yOut1) v hv) (.inl rfl) ?_
         intro v2 gv2 h
         refine LWp.o 43 (B (!v2)) ?_
         refine LWp.o 44 (B (!v2)) ?_
         refine LWp.sp h 44 (fun h => ?_) (fun h => ?_)
         · refine LWp.sh 45 ?_
           refine LWp.sh 46 ?_
           refine LWp.sh 47 ?_
           refine LWp.sh 48 ?_
           refine LWp.o 49 (B true) ?_
           refine LWp.o 50 (B true) ?_
           refine LWp.sh 51 ?_
           refine LWp.sh 52 ?_
           refine LWp.sh 53 ?_
           refine LWp.o 54 (B true) ?_
           refine LWp.nil ?_
           cases h
           exact ⟨_, rfl, rfl, rfl⟩
         refine LWp.o 45 (.one (.ptr (.box 6) 1 [] 1)) ?_
         refine LWp.o 46 (I x1.Size) ?_
         refine LWp.cl h 47 (fun v3 => (B v3)) rfl (l := [.sv (.one (.int .i64 x1.Size)), .sv (.one (.int .i64 1)), .sv (.one (.int .i64 31))]) rfl (fun v hv => s_l01In_t x1.Size 1 31 v hv) (.inl rfl) ?_
         intro v3 gv3 h
         refine LWp.o 48 (B (!v3)) ?_
         refine LWp.o 49 (B (!v3)) ?_
         refine LWp.o 50 (B (!v3)) ?_
         refine LWp.sp h 50 (fun h => ?_) (fun h => ?_)
         · refine LWp.sh 51 ?_
           refine LWp.sh 52 ?_
           refine LWp.sh 53 ?_
           refine LWp.o 54 (B true) ?_
           refine LWp.nil ?_
           cases h
           exact ⟨_, rfl, rfl, rfl⟩
         refine LWp.o 51 (.one (.ptr (.box 6) 1 [] 2)) ?_
         refine LWp.o 52 (Y x1.Text) ?_
         refine LWp.o 53 (B (!(seq x1.Text (bs [])))) ?_
         refine LWp.o 54 (B (!(seq x1.Text (bs [])))) ?_
         refine LWp.nil ?_
         cases h
         exact ⟨_, rfl, rfl, rfl⟩
       intro j3 h E hE
       refine nt_wp hE ?_
       change Wp _ _ _ (s_PlainOf_H5 xList yOut1 yI1 x1 j3) _
       refine Wp.c h (fun h => ?_) (fun h => ?_)
       · refine Wp.seq (Wp.region ?_)
         refine LWp.o 2 (Y (bs [])) ?_
         refine LWp.o 3 (B false) ?_
         refine LWp.nil ?_
         cases h
         replace h : some _ = some _ := hk2
         cases h
         replace h : some _ = some _ := hk1 _ rfl
         cases h
         exact Wp.ret ⟨.inr rfl, _, _, rfl, rfl⟩
       refine Wp.skip ?_
       refine Wp.seq (Wp.region ?_)
       refine LWp.o 7 (I 0) ?_
       refine LWp.nil ?_
       refine Wp.l1 h [0, 4, 5, 6, 7] [.box 6] (fun s => (s_PlainOf_H6 xList yI1 x1 s.1 s.2)) [0, 4, 5] [] (fun s => (s_PlainOf_H7 xList yI1 s)) ⟨rfl, rfl⟩ ?_ ?_
       · rintro ⟨yOut2, yK1⟩ o (h : s_PlainOf_b2 x1 yOut2 yK1 = some o)
         unfold s_PlainOf_b2 at h
         change Wp _ _ _ (s_PlainOf_H6 xList yI1 x1 yOut2 yK1) _
         refine Wp.seq ?_
         refine Wp.seq (Wp.region ?_)
         refine LWp.o 55 (I yK1) ?_
         refine LWp.o 56 (.one (.ptr (.box 6) 0 [] 1)) ?_
         refine LWp.o 57 (I x1.Size) ?_
         refine LWp.o 58 (B (decide (yK1 < x1.Size))) ?_
         refine LWp.nil ?_
         refine Wp.c h (fun h => ?_) (fun h => ?_)
         · refine Wp.skip ?_
           refine Wp.seq ?_
           refine Wp.block ?_
           refine Wp.seq (Wp.region ?_)
           refine LWp.o 61 (.one (.view (.slot 4) 0 [] 0)) ?_
           refine LWp.o 62 (.one (.view (.slot 4) 0 [] 0)) ?_
           refine LWp.o 63 (I (ln yOut2)) ?_ (st_pure (p_ln k5 yOut2))
           refine LWp.o 64 (.one (.ptr (.box 6) 0 [] 0)) ?_
           refine LWp.o 65 (I x1.Back) ?_
           refine LWp.o 66 (I (sb (ln yOut2) x1.Back)) ?_
           refine LWp.p h 67 (fun _ => (.one (.ptr (.slot 4) 0 [0] (Int.toNat (sb (ln yOut2) x1.Back) * 1 + 0)))) ?_ (fun x2 gx2 => st_pure (p_ix k5 (.slot 4) [] 0 gx2))
           intro x2 gx2 h
           refine LWp.o 68 (.one (.int .u8 x2)) ?_ (st_pure (p_lc k5 (.slot 4) [0] 0 (.int .u8 x2) gx2))
           refine LWp.o 8 (.one (.int .u8 x2)) ?_
           refine LWp.nil ?_
           refine Wp.region ?_
           refine LWp.o 69 (.one (.view (.slot 4) 0 [] 0)) ?_
           refine LWp.o 70 (.one (.int .u8 x2)) ?_
           refine LWp.m false [] 71 (.one (.sl true 5 1 (encs c5 [x2]))) ?_
           refine LWp.pm h [(.slot 4, [.junk])] 72 (fun q2 => (.one (.sl true 5 1 (encs c5 q2)))) ?_ (fun q2 gq2 => s_apl k5 (fun _ => rfl) [(.slot 4, [.junk])] yOut2 gq2)
           intro q2 gq2 h
           refine LWp.m true [(.slot 72, [.junk])] 4 (.one (.sl true 5 1 (encs c5 q2))) ?_
           refine LWp.nil ?_
           refine Wp.region ?_
           refine LWp.o 59 (I yK1) ?_
           refine LWp.o 60 (I (ad yK1 1)) ?_
           refine LWp.o 7 (I (ad yK1 1)) ?_
           refine LWp.nil ?_
           cases h
           exact ⟨_, rfl, rfl, rfl⟩
         refine Wp.exit ?_
         cases h
         exact ⟨_, rfl, rfl, rfl⟩
       intro v4 h E hE
       cases h
       exact ⟨_, rfl, hE⟩
     intro j1 h E hE
     refine nt_wp hE ?_
     change Wp _ _ _ (s_PlainOf_H3 xList yI1 j1) _
     refine Wp.seq (Wp.region ?_)
     refine LWp.o 73 (.one (.view (.slot 4) 0 [] 0)) ?_
     refine LWp.o 74 (I (ln j1)) ?_ (st_pure (p_ln k5 j1))
     refine LWp.o 75 (B (decide ((ln j1) > 64))) ?_
     refine LWp.nil ?_
     refine Wp.c h (fun h => ?_) (fun h => ?_)
     · refine Wp.seq (Wp.region ?_)
       refine LWp.o 2 (Y (bs [])) ?_
       refine LWp.o 3 (B false) ?_
       refine LWp.nil ?_
       cases h
       replace h : some _ = some _ := hk1 _ rfl
       cases h
       exact Wp.ret ⟨.inr rfl, _, _, rfl, rfl⟩
     refine Wp.skip ?_
     refine Wp.region ?_
     refine LWp.o 14 (I yI1) ?_
     refine LWp.o 15 (I (ad yI1 1)) ?_
     refine LWp.o 5 (I (ad yI1 1)) ?_
     refine LWp.nil ?_
     cases h
     exact ⟨_, rfl, rfl, rfl⟩
   refine Wp.exit ?_
   cases h
   exact ⟨_, rfl, rfl, rfl⟩
 intro v5 h E hE
 refine nt_wp hE ?_
 change Wp _ _ _ (s_PlainOf_H2 v5) _
 refine Wp.seq (Wp.region ?_)
 refine LWp.o 76 (.one (.view (.slot 4) 0 [] 0)) ?_
 refine LWp.o 77 (Y (strB v5)) ?_ (st_pure (p_cv (fun _ => rfl) v5))
 refine LWp.o 2 (Y (strB v5)) ?_
 refine LWp.o 3 (B true) ?_
 refine LWp.nil ?_
 cases h
 exact Wp.ret ⟨.inr rfl, _, _, rfl, rfl⟩
def s_l04Match_H1 (xS : ByteArray) (xFrom : Int) (xAt : Int) (z1 : Int) : St := mkSt [(0, (Y xS)), (1, (I xFrom)), (2, (I xAt)), (7, (I z1))] []
def s_l04Match_H2 (z2 : Int) : St := mkSt [(7, (I z2))] []
def s_l04Match_H3 (xS : ByteArray) (xFrom : Int) (xAt : Int) (yN1 : Int) (z3 : Bool) : St := mkSt [(0, (Y xS)), (1, (I xFrom)), (2, (I xAt)), (7, (I yN1)), (30, (B z3))] []
theorem s_l04Match_t (xS : ByteArray) (xFrom : Int) (xAt : Int) (r : Int) (h : s_l04Match xS xFrom xAt = some r) : Gives Tryz.prog 161 [.sv (Y xS), .sv (I xFrom), .sv (I xAt)] (I r) (List.replicate 3 .gone) := by
 unfold s_l04Match at h
 refine gives_of Tryz.func161 rfl ?_
 rw [Tryz.ntmps161]
 refine Wp.seq (Wp.region ?_)
 refine LWp.o 6 (I 0) ?_
 refine LWp.nil ?_
 refine Wp.seq (Wp.region ?_)
 refine LWp.o 7 (I 0) ?_
 refine LWp.nil ?_
 refine Wp.seq ?_
 refine Wp.l1 h [0, 1, 2, 7] [] (fun s => (s_l04Match_H1 xS xFrom xAt s)) [7] [] (fun s => (s_l04Match_H2 s)) ⟨rfl, rfl⟩ ?_ ?_
 · rintro yN1 o (h : s_l04Match_b1 xS xFrom xAt yN1 = some o)
   unfold s_l04Match_b1 at h
   change Wp _ _ _ (s_l04Match_H1 xS xFrom xAt yN1) _
   refine Wp.seq ?_
   refine Wp.seq ?_
   refine Wp.j1 h [0, 1, 2, 7, 30] [] (fun a => (s_l04Match_H3 xS xFrom xAt yN1 a)) ?_ ?_
   · intro a h
     refine Wp.regionS mixed (by decide +kernel) ?_
     refine SWp.o 8 (I yN1) ?_
     refine SWp.o 9 (B (decide (yN1 < 31))) ?_
     refine SWp.o 10 (B (decide (yN1 < 31))) ?_
     refine SWp.sp h 10 (fun h => ?_) (fun h => ?_)
     · refine SWp.o 11 (I xAt) ?_
       refine SWp.o 12 (I yN1) ?_
       refine SWp.o 13 (I (ad xAt yN1)) ?_
       refine SWp.o 14 (Y xS) ?_
       refine SWp.o 15 (I (sln xS)) ?_
       refine SWp.o 16 (B (decide ((ad xAt yN1) < (sln xS)))) ?_
       refine SWp.o 17 (B (decide ((ad xAt yN1) < (sln xS)))) ?_
       refine SWp.o 18 (B (decide ((ad xAt yN1) < (sln xS)))) ?_
       refine SWp.sp h 18 (fun h => ?_) (fun h => ?_)
       · refine SWp.o 19 (Y xS) ?_
         refine SWp.o 20 (I xFrom) ?_
         refine SWp.o 21 (I yN1) ?_
         refine SWp.o 22 (I (ad xFrom yN1)) ?_
         refine SWp.p h 23 (fun x1 => (.one (.int .u8 x1))) ?_ (fun x1 gx1 => sl_pure (p_sx gx1))
         intro x1 gx1 h
         refine SWp.o 24 (Y xS) ?_
         refine SWp.o 25 (I xAt) ?_
         refine SWp.o 26 (I yN1) ?_
         refine SWp.o 27 (I (ad xAt yN1)) ?_
         refine SWp.p h 28 (fun x2 => (.one (.int .u8 x2))) ?_ (fun x2 gx2 => sl_pure (p_sx gx2))
         intro x2 gx2 h
         refine SWp.o 29 (B (x1 == x2)) ?_
         refine SWp.o 30 (B (x1 == x2)) ?_
         refine SWp.nil ?_
         cases h
         exact ⟨_, rfl, rfl, rfl⟩
       refine SWp.sh 19 ?_
       refine SWp.sh 20 ?_
       refine SWp.sh 21 ?_
       refine SWp.sh 22 ?_
       refine SWp.sh 23 ?_
       refine SWp.sh 24 ?_
       refine SWp.sh 25 ?_
       refine SWp.sh 26 ?_
       refine SWp.sh 27 ?_
       refine SWp.sh 28 ?_
       refine SWp.sh 29 ?_
       refine SWp.o 30 (B false) ?_
       refine SWp.nil ?_
       cases h
       exact ⟨_, rfl, rfl, rfl⟩
     refine SWp.sh 11 ?_
     refine SWp.sh 12 ?_
     refine SWp.sh 13 ?_
     refine SWp.sh 14 ?_
     refine SWp.sh 15 ?_
     refine SWp.sh 16 ?_
     refine SWp.o 17 (B false) ?_
     refine SWp.o 18 (B false) ?_
     refine SWp.sh 19 ?_
     refine SWp.sh 20 ?_
     refine SWp.sh 21 ?_
     refine SWp.sh 22 ?_
     refine SWp.sh 23 ?_
     refine SWp.sh 24 ?_
     refine SWp.sh 25 ?_
     refine SWp.sh 26 ?_
     refine SWp.sh 27 ?_
     refine SWp.sh 28 ?_
     refine SWp.sh 29 ?_
     refine SWp.o 30 (B false) ?_
     refine SWp.nil ?_
     cases h
     exact ⟨_, rfl, rfl, rfl⟩
   intro j1 h E hE
   refine nt_wp hE ?_
   change Wp _ _ _ (s_l04Match_H3 xS xFrom xAt yN1 j1) _
   refine Wp.c h (fun h => ?_) (fun h => ?_)
   · refine Wp.skip ?_
     refine Wp.block ?_
     refine Wp.region ?_
     refine LWp.o 31 (I yN1) ?_
     refine LWp.o 32 (I (ad yN1 1)) ?_
     refine LWp.o 7 (I (ad yN1 1)) ?_
     refine LWp.nil ?_
     cases h
     exact ⟨_, rfl, rfl, rfl⟩
   refine Wp.exit ?_
   cases h
   exact ⟨_, rfl, rfl, rfl⟩
 intro v1 h E hE
 refine nt_wp hE ?_
 change Wp _ _ _ (s_l04Match_H2 v1) _
 refine Wp.seq (Wp.region ?_)
 refine LWp.o 33 (I v1) ?_
 refine LWp.o 6 (I v1) ?_
 refine LWp.nil ?_
 cases h
 exact Wp.ret ⟨.inr rfl, _, _, rfl, rfl⟩
def s_TokensOf_H1 (xS : ByteArray) (z1 : List Token) (z2 : Int) : St := mkSt [(0, (Y xS)), (3, (.one (.sl true 171 3 (encs c171 z1)))), (4, (I z2))] []
def s_TokensOf_H2 (z3 : List Token) : St := mkSt [(3, (.one (.sl true 171 3 (encs c171 z3))))] []
def s_TokensOf_H3 (xS : ByteArray) (yOut1 : List Token) (yAt1 : Int) (z4 : Int) (z5 : Int) (z6 : Int) : St := mkSt [(0, (Y xS)), (3, (.one (.sl true 171 3 (encs c171 yOut1)))), (4, (I yAt1)), (5, (I z4)), (6, (I z5)), (7, (I z6))] []
def s_TokensOf_H4 (xS : ByteArray) (yOut1 : List Token) (yAt1 : Int) (z7 : Int) (z8 : Int) : St := mkSt [(0, (Y xS)), (3, (.one (.sl true 171 3 (encs c171 yOut1)))), (4, (I yAt1)), (5, (I z7)), (6, (I z8))] []
def s_TokensOf_H5 (xS : ByteArray) (yOut1 : List Token) (yAt1 : Int) (yBest1 : Int) (yBack1 : Int) (yFrom1 : Int) (v1 : Int) (z9 : Bool) : St := mkSt [(0, (Y xS)), (3, (.one (.sl true 171 3 (encs c171 yOut1)))), (4, (I yAt1)), (5, (I yBest1)), (6, (I yBack1)), (7, (I yFrom1)), (8, (I v1)), (35, (B z9))] []
def s_TokensOf_H6 (xS : ByteArray) (yOut1 : List Token) (yAt1 : Int) (z10 : Bool) : St := mkSt [(0, (Y xS)), (3, (.one (.sl true 171 3 (encs c171 yOut1)))), (4, (I yAt1)), (9, (I (sb (ln yOut1) 1))), (72, (B z10))] []
theorem s_TokensOf_t (xS : ByteArray) (r : List Token) (h : s_TokensOf xS = some r) : Gives Tryz.prog 113 [.sv (Y xS)] (.one (.sl true 171 3 (encs c171 r))) (List.replicate 1 .gone) := by
 unfold s_TokensOf at h
 refine gives_of Tryz.func113 rfl ?_
 rw [Tryz.ntmps113]
 refine Wp.seq (Wp.region ?_)
 refine LWp.o 2 (.one (.sl true 171 3 (encs c171 []))) ?_
 refine LWp.nil ?_
 refine Wp.seq (Wp.region ?_)
 refine LWp.m false [] 10 (.one (.sl true 171 3 (encs c171 []))) ?_
 refine LWp.m true [(.slot 10, [.junk])] 3 (.one (.sl true 171 3 (encs c171 []))) ?_
 refine LWp.nil ?_
 refine Wp.seq ?_
 refine Wp.seq (Wp.region ?_)
 refine LWp.o 11 (Y xS) ?_
 refine LWp.o 12 (I (sln xS)) ?_
 refine LWp.o 13 (B (decide ((sln xS) > 64))) ?_
 refine LWp.nil ?_
 refine Wp.c h (fun h => ?_) (fun h => ?_)
 · refine Wp.seq (Wp.region ?_)
   refine LWp.o 14 (.one (.view (.slot 3) 1 [] 0)) ?_
   refine LWp.m true [(.slot 3, [.junk])] 2 (.one (.sl true 171 3 (encs c171 []))) ?_
   refine LWp.nil ?_
   cases h
   exact Wp.ret ⟨.inr rfl, _, _, rfl, rfl⟩
 refine Wp.skip ?_
 refine Wp.seq (Wp.region ?_)
 refine LWp.o 4 (I 0) ?_
 refine LWp.nil ?_
 refine Wp.seq ?_
 refine Wp.l1 h [0, 3, 4] [] (fun s => (s_TokensOf_H1 xS s.1 s.2)) [3] [] (fun s => (s_TokensOf_H2 s)) ⟨rfl, rfl⟩ ?_ ?_
 · rintro ⟨yOut1, yAt1⟩ o (h : s_TokensOf_b1 xS yOut1 yAt1 = some o)
   unfold s_TokensOf_b1 at h
   change Wp _ _ _ (s_TokensOf_H1 xS yOut1 yAt1) _
   refine Wp.seq ?_
   refine Wp.seq (Wp.region ?_)
   refine LWp.o 15 (I yAt1) ?_
   refine LWp.o 16 (Y xS) ?_
   refine LWp.o 17 (I (sln xS)) ?_
   refine LWp.o 18 (B (decide (yAt1 < (sln xS)))) ?_
   refine LWp.nil ?_
   refine Wp.c h (fun h => ?_) (fun h => ?_)
   · refine Wp.skip ?_
     refine Wp.block ?_
     refine Wp.seq (Wp.region ?_)
     refine LWp.o 5 (I 0) ?_
     refine LWp.nil ?_
     refine Wp.seq (Wp.region ?_)
     refine LWp.o 6 (I 0) ?_
     refine LWp.nil ?_
     refine Wp.seq ?_
     refine Wp.seq (Wp.region ?_)
     refine LWp.o 19 (I yAt1) ?_
     refine LWp.o 20 (I (sb yAt1 1)) ?_
     refine LWp.o 7 (I (sb yAt1 1)) ?_
     refine LWp.nil ?_
     refine Wp.l1 h [0, 3, 4, 5, 6, 7] [] (fun s => (s_TokensOf_H3 xS yOut1 yAt1 s.1 s.2.1 s.2.2)) [0, 3, 4, 5, 6] [] (fun s => (s_TokensOf_H4 xS yOut1 yAt1 s.1 s.2)) ⟨rfl, rfl⟩ ?_ ?_
     · rintro ⟨yBest1, yBack1, yFrom1⟩ o (h : s_TokensOf_b2 xS yAt1 yBest1 yBack1 yFrom1 = some o)
       unfold s_TokensOf_b2 at h
       change Wp _ _ _ (s_TokensOf_H3 xS yOut1 yAt1 yBest1 yBack1 yFrom1) _
       refine Wp.seq ?_
       refine Wp.seq (Wp.region ?_)
       refine LWp.o 21 (I yFrom1) ?_
       refine LWp.o 22 (B (decide (yFrom1 ≥ 0))) ?_
       refine LWp.nil ?_
       refine Wp.c h (fun h => ?_) (fun h => ?_)
       · refine Wp.skip ?_
         refine Wp.seq ?_
         refine Wp.block ?_
         refine Wp.seq (Wp.region ?_)
         refine LWp.o 25 (Y xS) ?_
         refine LWp.o 26 (I yFrom1) ?_
         refine LWp.o 27 (I yAt1) ?_
         refine LWp.cl h 28 (fun v1 => (I v1)) rfl (l := [.sv (.one (.str xS)), .sv (.one (.int .i64 yFrom1)), .sv (.one (.int .i64 yAt1))]) rfl (fun v hv => s_l04Match_t xS yFrom1 yAt1 v hv) (.inl rfl) ?_
         intro v1 gv1 h
         refine LWp.o 8 (I v1) ?_
         refine LWp.nil ?_
         refine Wp.seq ?_
         refine Wp.j1 h [0, 3, 4, 5, 6, 7, 8, 35] [] (fun a => (s_TokensOf_H5 xS yOut1 yAt1 yBest1 yBack1 yFrom1 v1 a)) ?_ ?_
         · intro a h
           refine Wp.region ?_
           refine LWp.o 29 (I v1) ?_
           refine LWp.o 30 (B (decide (v1 ≥ 4))) ?_
           refine LWp.o 31 (B (decide (v1 ≥ 4))) ?_
           refine LWp.sp h 31 (fun h => ?_) (fun h => ?_)
           · refine LWp.o 32 (I v1) ?_
             refine LWp.o 33 (I yBest1) ?_
             refine LWp.o 34 (B (decide (v1 > yBest1))) ?_
             refine LWp.o 35 (B (decide (v1 > yBest1))) ?_
             refine LWp.nil ?_
             cases h
             exact ⟨_, rfl, rfl, rfl⟩
           refine LWp.sh 32 ?_
           refine LWp.sh 33 ?_
           refine LWp.sh 34 ?_
           refine LWp.o 35 (B false) ?_
           refine LWp.nil ?_
           cases h
           exact ⟨_, rfl, rfl, rfl⟩
         intro j1 h E hE
         refine nt_wp hE ?_
         change Wp _ _ _ (s_TokensOf_H5 xS yOut1 yAt1 yBest1 yBack1 yFrom1 v1 j1) _
         refine Wp.c h (fun h => ?_) (fun h => ?_)
         · refine Wp.seq (Wp.region ?_)
           refine LWp.o 36 (I v1) ?_
           refine LWp.o 5 (I v1) ?_
           refine LWp.nil ?_
           refine Wp.region ?_
           refine LWp.o 37 (I yAt1) ?_
           refine LWp.o 38 (I yFrom1) ?_
           refine LWp.o 39 (I (sb yAt1 yFrom1)) ?_
           refine LWp.o 6 (I (sb yAt1 yFrom1)) ?_
           refine LWp.nil ?_
           refine Wp.region ?_
           refine LWp.o 23 (I yFrom1) ?_
           refine LWp.o 24 (I (sb yFrom1 1)) ?_
           refine LWp.o 7 (I (sb yFrom1 1)) ?_
           refine LWp.nil ?_
           cases h
           exact ⟨_, rfl, rfl, rfl⟩
         refine Wp.skip ?_
         refine Wp.region ?_
         refine LWp.o 23 (I yFrom1) ?_
         refine LWp.o 24 (I (sb yFrom1 1)) ?_
         refine LWp.o 7 (I (sb yFrom1 1)) ?_
         refine LWp.nil ?_
         cases h
         exact ⟨_, rfl, rfl, rfl⟩
       refine Wp.exit ?_
       cases h
       exact ⟨_, rfl, rfl, rfl⟩
     intro v2 h E hE
     refine nt_wp hE ?_
     change Wp _ _ _ (s_TokensOf_H4 xS yOut1 yAt1 v2.1 v2.2) _
     refine Wp.seq ?_
     refine Wp.seq (Wp.region ?_)
     refine LWp.o 40 (I v2.1) ?_
     refine LWp.o 41 (B (decide (v2.1 > 0))) ?_
     refine LWp.nil ?_
     refine Wp.c h (fun h => ?_) (fun h => ?_)
     · refine Wp.seq (Wp.region ?_)
       refine LWp.o 42 (.one (.view (.slot 3) 0 [] 0)) ?_
       refine LWp.o 43 (I v2.2) ?_
       refine LWp.o 44 (I v2.1) ?_
       refine LWp.o 45 (.agg [.int .i64 v2.2, .int .i64 v2.1, .str (bs [])]) ?_
       refine LWp.m false [] 46 (.one (.sl true 171 3 (encs c171 [(Token.mk v2.2 v2.1 (bs []))]))) ?_
       refine LWp.pm h [(.slot 3, [.junk])] 47 (fun q1 => (.one (.sl true 171 3 (encs c171 q1)))) ?_ (fun q1 gq1 => s_apl k171 (fun _ => rfl) [(.slot 3, [.junk])] yOut1 gq1)
       intro q1 gq1 h
       refine LWp.m true [(.slot 47, [.junk])] 3 (.one (.sl true 171 3 (encs c171 q1))) ?_
       refine LWp.nil ?_
       refine Wp.seq (Wp.region ?_)
       refine LWp.o 48 (I yAt1) ?_
       refine LWp.o 49 (I v2.1) ?_
       refine LWp.o 50 (I (ad yAt1 v2.1)) ?_
       refine LWp.o 4 (I (ad yAt1 v2.1)) ?_
       refine LWp.nil ?_
       refine Wp.exit ?_
       cases h
       exact ⟨_, rfl, rfl, rfl⟩
     refine Wp.skip ?_
     refine Wp.seq (Wp.region ?_)
     refine LWp.o 51 (.one (.view (.slot 3) 0 [] 0)) ?_
     refine LWp.o 52 (I (ln yOut1)) ?_ (st_pure (p_ln k171 yOut1))
     refine LWp.o 53 (I (sb (ln yOut1) 1)) ?_
     refine LWp.o 9 (I (sb (ln yOut1) 1)) ?_
     refine LWp.nil ?_
     refine Wp.seq ?_
     refine Wp.seq ?_
     refine Wp.j1 h [0, 3, 4, 9, 72] [] (fun a => (s_TokensOf_H6 xS yOut1 yAt1 a)) ?_ ?_
     · intro a h
       refine Wp.region ?_
       refine LWp.o 54 (I (sb (ln yOut1) 1)) ?_
       refine LWp.o 55 (B (decide ((sb (ln yOut1) 1) ≥ 0))) ?_
       refine LWp.o 56 (B (decide ((sb (ln yOut1) 1) ≥ 0))) ?_
       refine LWp.sp h 56 (fun h => ?_) (fun h => ?_)
       · refine LWp.o 57 (.one (.view (.slot 3) 0 [] 0)) ?_
         refine LWp.o 58 (I (sb (ln yOut1) 1)) ?_
         refine LWp.p h 59 (fun _ => (.one (.ptr (.slot 3) 0 [0] (Int.toNat (sb (ln yOut1) 1) * 3 + 0)))) ?_ (fun x1 gx1 => st_pure (p_ix k171 (.slot 3) [] 0 gx1))
         intro x1 gx1 h
         refine LWp.o 60 (.one (.ptr (.slot 3) 0 [0] (Int.toNat (sb (ln yOut1) 1) * 3 + 0))) ?_ (st_pure (p_fa k171 (.slot 3) [0] 0 gx1))
         refine LWp.o 61 (I x1.Back) ?_ (st_pure (p_lc k171 (.slot 3) [0] 0 (.int .i64 x1.Back) gx1))
         refine LWp.o 62 (B (x1.Back == 0)) ?_
         refine LWp.o 63 (B (x1.Back == 0)) ?_
         refine LWp.o 64 (B (x1.Back == 0)) ?_
         refine LWp.sp h 64 (fun h => ?_) (fun h => ?_)
         · refine LWp.o 65 (.one (.view (.slot 3) 0 [] 0)) ?_
           refine LWp.o 66 (I (sb (ln yOut1) 1)) ?_
           refine LWp.p h 67 (fun _ => (.one (.ptr (.slot 3) 0 [0] (Int.toNat (sb (ln yOut1) 1) * 3 + 0)))) ?_ (fun x2 gx2 => st_pure (p_ix k171 (.slot 3) [] 0 gx2))
           intro x2 gx2 h
           refine LWp.o 68 (.one (.ptr (.slot 3) 0 [0] (Int.toNat (sb (ln yOut1) 1) * 3 + 2))) ?_ (st_pure (p_fa k171 (.slot 3) [0] 0 gx2))
           refine LWp.o 69 (Y x2.Text) ?_ (st_pure (p_lc k171 (.slot 3) [0] 2 (.str x2.Text) gx2))
           refine LWp.o 70 (I (sln x2.Text)) ?_
           refine LWp.o 71 (B (decide ((sln x2.Text) < 31))) ?_
           refine LWp.o 72 (B (decide ((sln x2.Text) < 31))) ?_
           refine LWp.nil ?_
           cases h
           exact ⟨_, rfl, rfl, rfl⟩
         refine LWp.sh 65 ?_
         refine LWp.sh 66 ?_
         refine LWp.sh 67 ?_
         refine LWp.sh 68 ?_
         refine LWp.sh 69 ?_
         refine LWp.sh 70 ?_
         refine LWp.sh 71 ?_
         refine LWp.o 72 (B false) ?_
         refine LWp.nil ?_
         cases h
         exact ⟨_, rfl, rfl, rfl⟩
       refine LWp.sh 57 ?_
       refine LWp.sh 58 ?_
       refine LWp.sh 59 ?_
       refine LWp.sh 60 ?_
       refine LWp.sh 61 ?_
       refine LWp.sh 62 ?_
       refine LWp.o 63 (B false) ?_
       refine LWp.o 64 (B false) ?_
       refine LWp.sh 65 ?_
       refine LWp.sh 66 ?_
       refine LWp.sh 67 ?_
       refine LWp.sh 68 ?_
       refine LWp.sh 69 ?_
       refine LWp.sh 70 ?_
       refine LWp.sh 71 ?_
       refine LWp.o 72 (B false) ?_
       refine LWp.nil ?_
       cases h
       exact ⟨_, rfl, rfl, rfl⟩
     intro j2 h E hE
     refine nt_wp hE ?_
     change Wp _ _ _ (s_TokensOf_H6 xS yOut1 yAt1 j2) _
     refine Wp.c h (fun h => ?_) (fun h => ?_)
     · refine Wp.regionT 15 mixed (by decide +kernel) ?_
       refine SWp.o 73 (.one (.view (.slot 3) 0 [] 0)) ?_
       refine SWp.o 74 (I (sb (ln yOut1) 1)) ?_
       refine SWp.o 75 (.one (.view (.slot 3) 0 [] 0)) ?_
       refine SWp.o 76 (I (sb (ln yOut1) 1)) ?_
       refine SWp.p h 77 (fun _ => (.one (.ptr (.slot 3) 0 [0] (Int.toNat (sb (ln yOut1) 1) * 3 + 0)))) ?_ (fun x3 gx3 => sl_pure (p_ix k171 (.slot 3) [] 0 gx3))
       intro x3 gx3 h
       refine SWp.o 78 (.one (.ptr (.slot 3) 0 [0] (Int.toNat (sb (ln yOut1) 1) * 3 + 2))) ?_ (sl_pure (p_fa k171 (.slot 3) [0] 0 gx3))
       refine SWp.o 79 (Y x3.Text) ?_ (sl_pure (p_lc k171 (.slot 3) [0] 2 (.str x3.Text) gx3))
       refine SWp.o 80 (Y xS) ?_
       refine SWp.o 81 (I yAt1) ?_
       refine SWp.o 82 (I yAt1) ?_
       refine SWp.o 83 (I (ad yAt1 1)) ?_
       refine SWp.p h 84 (fun x4 => (Y x4)) ?_ (fun x4 gx4 => sl_pure (p_sub gx4))
       intro x4 gx4 h
       refine SWp.p h 85 (fun x5 => (Y x5)) ?_ (fun x5 gx5 => sl_pure (p_cat gx5))
       intro x5 gx5 h
       refine SWp.p h 86 (fun _ => (.one (.ptr (.slot 3) 0 [0] (Int.toNat (sb (ln yOut1) 1) * 3 + 0)))) ?_ (fun x6 gx6 => sl_pure (p_ix k171 (.slot 3) [] 0 gx6))
       intro x6 gx6 h
       refine SWp.o 87 (.one (.ptr (.slot 3) 0 [0] (Int.toNat (sb (ln yOut1) 1) * 3 + 2))) ?_ (sl_pure (p_fa k171 (.slot 3) [0] 0 gx6))
       refine SWp.nil ?_
       refine LWp.sb [] (.slot 3) [.sl true 171 3 (encs c171 (si yOut1 (sb (ln yOut1) 1) (Token.mk x6.Back x6.Size x5)))] ?_ (s_st [] (q := [0]) (cs := [.sl true 171 3 (encs c171 yOut1)]) (xs := [.str x5]) (At.one (setRow_gi k171 (k := 2) (z := (Token.mk x6.Back x6.Size x5)) gx6 rfl rfl)) (fit_gi k171 (k := 2) gx6 rfl))
       refine LWp.nil ?_
       refine Wp.region ?_
       refine LWp.o 97 (I yAt1) ?_
       refine LWp.o 98 (I (ad yAt1 1)) ?_
       refine LWp.o 4 (I (ad yAt1 1)) ?_
       refine LWp.nil ?_
       cases h
       exact ⟨_, rfl, rfl, rfl⟩
     refine Wp.region ?_
     refine LWp.o 88 (.one (.view (.slot 3) 0 [] 0)) ?_
     refine LWp.o 89 (Y xS) ?_
     refine LWp.o 90 (I yAt1) ?_
     refine LWp.o 91 (I yAt1) ?_
     refine LWp.o 92 (I (ad yAt1 1)) ?_
     refine LWp.p h 93 (fun x7 => (Y x7)) ?_ (fun x7 gx7 => st_pure (p_sub gx7))
     intro x7 gx7 h
     refine LWp.o 94 (.agg [.int .i64 0, .int .i64 0, .str x7]) ?_
     refine LWp.m false [] 95 (.one (.sl true 171 3 (encs c171 [(Token.mk 0 0 x7)]))) ?_
     refine LWp.pm h [(.slot 3, [.junk])] 96 (fun q2 => (.one (.sl true 171 3 (encs c171 q2)))) ?_ (fun q2 gq2 => s_apl k171 (fun _ => rfl) [(.slot 3, [.junk])] yOut1 gq2)
     intro q2 gq2 h
     refine LWp.m true [(.slot 96, [.junk])] 3 (.one (.sl true 171 3 (encs c171 q2))) ?_
     refine LWp.nil ?_
     refine Wp.region ?_
     refine LWp.o 97 (I yAt1) ?_
     refine LWp.o 98 (I (ad yAt1 1)) ?_
     refine LWp.o 4 (I (ad yAt1 1)) ?_
     refine LWp.nil ?_
     cases h
     exact ⟨_, rfl, rfl, rfl⟩
   refine Wp.exit ?_
   cases h
   exact ⟨_, rfl, rfl, rfl⟩
 intro v3 h E hE
 refine nt_wp hE ?_
 change Wp _ _ _ (s_TokensOf_H2 v3) _
 refine Wp.seq (Wp.region ?_)
 refine LWp.o 99 (.one (.view (.slot 3) 0 [] 0)) ?_
 refine LWp.m true [(.slot 3, [.junk])] 2 (.one (.sl true 171 3 (encs c171 v3))) ?_
 refine LWp.nil ?_
 cases h
 exact Wp.ret ⟨.inr rfl, _, _, rfl, rfl⟩
def s_PackText_H1 (xS : ByteArray) (v1 : List Token) (z1 : ByteArray) (z2 : Int) : St := mkSt [(0, (Y xS)), (4, (.one (.sl true 171 3 (encs c171 v1)))), (5, (Y z1)), (6, (I z2))] []
def s_PackText_H2 (xS : ByteArray) (z3 : ByteArray) : St := mkSt [(0, (Y xS)), (5, (Y z3))] []
theorem s_PackText_t (xS : ByteArray) (r : ByteArray × Bool) (h : s_PackText xS = some r) : Gives Tryz.prog 71 [.sv (Y xS)] (.tup [(Y r.1), (B r.2)]) (List.replicate 1 .gone) := by
 unfold s_PackText at h
 refine gives_of Tryz.func71 rfl ?_
 rw [Tryz.ntmps71]
 refine Wp.seq (Wp.region ?_)
 refine LWp.o 2 (Y (bs [])) ?_
 refine LWp.o 3 (B false) ?_
 refine LWp.nil ?_
 refine Wp.seq ?_
 refine Wp.seq (Wp.region ?_)
 refine LWp.o 8 (Y xS) ?_
 refine LWp.o 9 (I (sln xS)) ?_
 refine LWp.o 10 (B (decide ((sln xS) > 64))) ?_
 refine LWp.nil ?_
 refine Wp.c h (fun h => ?_) (fun h => ?_)
 · refine Wp.seq (Wp.region ?_)
   refine LWp.o 2 (Y (bs [])) ?_
   refine LWp.o 3 (B false) ?_
   refine LWp.nil ?_
   cases h
   exact Wp.ret ⟨.inr rfl, _, _, rfl, rfl⟩
 refine Wp.skip ?_
 refine Wp.seq (Wp.region ?_)
 refine LWp.o 11 (Y xS) ?_
 refine LWp.cl h 12 (fun v1 => (.one (.sl true 171 3 (encs c171 v1)))) rfl (l := [.sv (.one (.str xS))]) rfl (fun v hv => s_TokensOf_t xS v hv) (.inl rfl) ?_
 intro v1 gv1 h
 refine LWp.m true [(.slot 12, [.junk])] 4 (.one (.sl true 171 3 (encs c171 v1))) ?_
 refine LWp.nil ?_
 refine Wp.seq (Wp.region ?_)
 refine LWp.o 5 (Y (bs [122])) ?_
 refine LWp.nil ?_
 refine Wp.seq ?_
 refine Wp.seq (Wp.region ?_)
 refine LWp.o 6 (I 0) ?_
 refine LWp.nil ?_
 refine Wp.l1 h [0, 4, 5, 6] [] (fun s => (s_PackText_H1 xS v1 s.1 s.2)) [0, 5] [] (fun s => (s_PackText_H2 xS s)) ⟨rfl, rfl⟩ ?_ ?_
 · rintro ⟨yZ1, yI1⟩ o (h : s_PackText_b1 v1 yZ1 yI1 = some o)
   unfold s_PackText_b1 at h
   change Wp _ _ _ (s_PackText_H1 xS v1 yZ1 yI1) _
   refine Wp.seq ?_
   refine Wp.seq (Wp.region ?_)
   refine LWp.o 13 (I yI1) ?_
   refine LWp.o 14 (.one (.view (.slot 4) 0 [] 0)) ?_
   refine LWp.o 15 (I (ln v1)) ?_ (st_pure (p_ln k171 v1))
   refine LWp.o 16 (B (decide (yI1 < (ln v1)))) ?_
   refine LWp.nil ?_
   refine Wp.c h (fun h => ?_) (fun h => ?_)
   · refine Wp.skip ?_
     refine Wp.seq ?_
     refine Wp.block ?_
     refine Wp.seq (Wp.region ?_)
     refine LWp.o 19 (.one (.view (.slot 4) 0 [] 0)) ?_
     refine LWp.o 20 (I yI1) ?_
     refine LWp.p h 21 (fun _ => (.one (.ptr (.slot 4) 0 [0] (Int.toNat yI1 * 3 + 0)))) ?_ (fun x1 gx1 => st_pure (p_ix k171 (.slot 4) [] 0 gx1))
     intro x1 gx1 h
     refine LWp.o 22 (.agg [.int .i64 x1.Back, .int .i64 x1.Size, .str x1.Text]) ?_ (st_pure (p_le k171 (.slot 4) [0] gx1))
     refine LWp.b [] 7 [.int .i64 0, .int .i64 0, .str (bs [])] ?_
     refine LWp.s [] (.box 7) [.int .i64 x1.Back, .int .i64 x1.Size, .str x1.Text] ?_
     refine LWp.nil ?_
     refine Wp.seq (Wp.region ?_)
     refine LWp.o 23 (.one (.ptr (.box 7) 1 [] 0)) ?_
     refine LWp.o 24 (I x1.Back) ?_
     refine LWp.o 25 (B (x1.Back == 0)) ?_
     refine LWp.nil ?_
     refine Wp.c h (fun h => ?_) (fun h => ?_)
     · refine Wp.region ?_
       refine LWp.o 26 (Y yZ1) ?_
       refine LWp.o 27 (.one (.ptr (.box 7) 1 [] 2)) ?_
       refine LWp.o 28 (Y x1.Text) ?_
       refine LWp.o 29 (I (sln x1.Text)) ?_
       refine LWp.o 30 (.one (.int .u8 (IntKind.u8.wrap (sln x1.Text)))) ?_
       refine LWp.m false [] 31 (.one (.sl true 5 1 (encs c5 [(IntKind.u8.wrap (sln x1.Text))]))) ?_
       refine LWp.o 32 (Y (strB [(IntKind.u8.wrap (sln x1.Text))])) ?_ (st_pure (p_cv (fun _ => rfl) [(IntKind.u8.wrap (sln x1.Text))]))
       refine LWp.p h 33 (fun x2 => (Y x2)) ?_ (fun x2 gx2 => st_pure (p_cat gx2))
       intro x2 gx2 h
       refine LWp.o 34 (.one (.ptr (.box 7) 1 [] 2)) ?_
       refine LWp.o 35 (Y x1.Text) ?_
       refine LWp.p h 36 (fun x3 => (Y x3)) ?_ (fun x3 gx3 => st_pure (p_cat gx3))
       intro x3 gx3 h
       refine LWp.o 5 (Y x3) ?_
       refine LWp.nil ?_
       refine Wp.region ?_
       refine LWp.o 17 (I yI1) ?_
       refine LWp.o 18 (I (ad yI1 1)) ?_
       refine LWp.o 6 (I (ad yI1 1)) ?_
       refine LWp.nil ?_
       cases h
       exact ⟨_, rfl, rfl, rfl⟩
     refine Wp.region ?_
     refine LWp.o 37 (Y yZ1) ?_
     refine LWp.o 38 (.one (.ptr (.box 7) 1 [] 1)) ?_
     refine LWp.o 39 (I x1.Size) ?_
     refine LWp.o 40 (I (ad 128 x1.Size)) ?_
     refine LWp.o 41 (.one (.int .u8 (IntKind.u8.wrap (ad 128 x1.Size)))) ?_
     refine LWp.o 42 (.one (.ptr (.box 7) 1 [] 0)) ?_
     refine LWp.o 43 (I x1.Back) ?_
     refine LWp.o 44 (.one (.int .u8 (IntKind.u8.wrap x1.Back))) ?_
     refine LWp.m false [] 45 (.one (.sl true 5 1 (encs c5 [(IntKind.u8.wrap (ad 128 x1.Size)), (IntKind.u8.wrap x1.Back)]))) ?_
     refine LWp.o 46 (Y (strB [(IntKind.u8.wrap (ad 128 x1.Size)), (IntKind.u8.wrap x1.Back)])) ?_ (st_pure (p_cv (fun _ => rfl) [(IntKind.u8.wrap (ad 128 x1.Size)), (IntKind.u8.wrap x1.Back)]))
     refine LWp.p h 47 (fun x4 => (Y x4)) ?_ (fun x4 gx4 => st_pure (p_cat gx4))
     intro x4 gx4 h
     refine LWp.o 5 (Y x4) ?_
     refine LWp.nil ?_
     refine Wp.region ?_
     refine LWp.o 17 (I yI1) ?_
     refine LWp.o 18 (I (ad yI1 1)) ?_
     refine LWp.o 6 (I (ad yI1 1)) ?_
     refine LWp.nil ?_
     cases h
     exact ⟨_, rfl, rfl, rfl⟩
   refine Wp.exit ?_
   cases h
   exact ⟨_, rfl, rfl, rfl⟩
 intro v2 h E hE
 refine nt_wp hE ?_
 change Wp _ _ _ (s_PackText_H2 xS v2) _
 refine Wp.seq ?_
 refine Wp.seq (Wp.region ?_)
 refine LWp.o 48 (Y xS) ?_
 refine LWp.o 49 (I (sln xS)) ?_
 refine LWp.o 50 (I (ad (sln xS) 1)) ?_
 refine LWp.o 51 (Y v2) ?_
 refine LWp.o 52 (I (sln v2)) ?_
 refine LWp.o 53 (B (decide ((ad (sln xS) 1) ≤ (sln v2)))) ?_
 refine LWp.nil ?_
 refine Wp.c h (fun h => ?_) (fun h => ?_)
 · refine Wp.seq (Wp.region ?_)
   refine LWp.o 54 (Y xS) ?_
   refine LWp.p h 55 (fun x5 => (Y x5)) ?_ (fun x5 gx5 => st_pure (p_cat gx5))
   intro x5 gx5 h
   refine LWp.o 2 (Y x5) ?_
   refine LWp.o 3 (B true) ?_
   refine LWp.nil ?_
   cases h
   exact Wp.ret ⟨.inr rfl, _, _, rfl, rfl⟩
 refine Wp.skip ?_
 refine Wp.seq (Wp.region ?_)
 refine LWp.o 56 (Y v2) ?_
 refine LWp.o 2 (Y v2) ?_
 refine LWp.o 3 (B true) ?_
 refine LWp.nil ?_
 cases h
 exact Wp.ret ⟨.inr rfl, _, _, rfl, rfl⟩
def s_UnpackText_H1 (xT : ByteArray) (z1 : ByteArray) : St := mkSt [(0, (Y xT)), (4, (Y z1))] []
def s_UnpackText_H2 (j1 : ByteArray) (z2 : Bool) : St := mkSt [(4, (Y j1)), (48, (B z2))] []
theorem s_UnpackText_t (xT : ByteArray) (r : ByteArray × Bool) (h : s_UnpackText xT = some r) : Gives Tryz.prog 155 [.sv (Y xT)] (.tup [(Y r.1), (B r.2)]) (List.replicate 1 .gone) := by
 unfold s_UnpackText at h
 refine gives_of Tryz.func155 rfl ?_
 rw [Tryz.ntmps155]
 refine Wp.seq (Wp.region ?_)
 refine LWp.o 2 (Y (bs [])) ?_
 refine LWp.o 3 (B false) ?_
 refine LWp.nil ?_
 refine Wp.seq ?_
 refine Wp.seq (Wp.region ?_)
 refine LWp.o 11 (Y xT) ?_
 refine LWp.o 12 (I (sln xT)) ?_
 refine LWp.o 13 (B ((sln xT) == 0)) ?_
 refine LWp.nil ?_
 refine Wp.c h (fun h => ?_) (fun h => ?_)
 · refine Wp.seq (Wp.region ?_)
   refine LWp.o 2 (Y (bs [])) ?_
   refine LWp.o 3 (B false) ?_
   refine LWp.nil ?_
   cases h
   exact Wp.ret ⟨.inr rfl, _, _, rfl, rfl⟩
 refine Wp.skip ?_
 refine Wp.seq (Wp.region ?_)
 refine LWp.o 14 (Y xT) ?_
 refine LWp.p h 15 (fun x1 => (Y x1)) ?_ (fun x1 gx1 => st_pure (p_sub gx1))
 intro x1 gx1 h
 refine LWp.o 4 (Y x1) ?_
 refine LWp.nil ?_
 refine Wp.seq ?_
 refine Wp.seq (Wp.region ?_)
 refine LWp.o 16 (Y xT) ?_
 refine LWp.p h 17 (fun x2 => (.one (.int .u8 x2))) ?_ (fun x2 gx2 => st_pure (p_sx gx2))
 intro x2 gx2 h
 refine LWp.o 18 (B (x2 == 122)) ?_
 refine LWp.nil ?_
 refine Wp.j2 h [0, 4] [] (fun a => (s_UnpackText_H1 xT a)) ?_ ?_
 · intro a h hk1
   refine Wp.c h (fun h => ?_) (fun h => ?_)
   · refine Wp.seq (Wp.region ?_)
     refine LWp.o 20 (Y xT) ?_
     refine LWp.p h 21 (fun x3 => (Y x3)) ?_ (fun x3 gx3 => st_pure (p_sub gx3))
     intro x3 gx3 h
     refine LWp.cl h 22 (fun v1 => (.tup [(.one (.sl true 171 3 (encs c171 v1.1))), (B v1.2)])) rfl (l := [.sv (.one (.str x3))]) rfl (fun v hv => s_l04Tokens_t x3 v hv) (.inl rfl) ?_
     intro v1 gv1 h
     refine LWp.mt 22 19 (.tup [(.one (.sl true 171 3 (encs c171 v1.1))), (B v1.2)]) ?_
     refine LWp.e 19 0 23 (.one (.sl true 171 3 (encs c171 v1.1))) ?_
     refine LWp.e 19 1 24 (B v1.2) ?_
     refine LWp.m true [(.slot 23, [.junk])] 5 (.one (.sl true 171 3 (encs c171 v1.1))) ?_
     refine LWp.o 6 (B v1.2) ?_
     refine LWp.nil ?_
     refine Wp.seq (Wp.region ?_)
     refine LWp.o 26 (.one (.view (.slot 5) 1 [] 0)) ?_
     refine LWp.cl h 27 (fun v2 => (.tup [(Y v2.1), (B v2.2)])) rfl (l := [.sv (.one (.sl false 171 3 (shares (encs c171 v1.1))))]) rfl (fun v hv => cg (l := [.sv (.one (.sl false 171 3 (shares (encs c171 v1.1))))]) (by simp only [sh171]) (s_PlainOf_t v1.1 v hv)) (.inr (fun v => rfl)) ?_
     intro v2 gv2 h
     refine LWp.mt 27 25 (.tup [(Y v2.1), (B v2.2)]) ?_
     refine LWp.e 25 0 28 (Y v2.1) ?_
     refine LWp.e 25 1 29 (B v2.2) ?_
     refine LWp.o 7 (Y v2.1) ?_
     refine LWp.o 8 (B v2.2) ?_
     refine LWp.nil ?_
     refine Wp.seq ?_
     refine Wp.seq (Wp.region ?_)
     refine LWp.o 30 (B v1.2) ?_
     refine LWp.o 31 (B (!v1.2)) ?_
     refine LWp.o 32 (B (!v1.2)) ?_
     refine LWp.sp h 32 (fun h => ?_) (fun h => ?_)
     · refine LWp.sh 33 ?_
       refine LWp.sh 34 ?_
       refine LWp.o 35 (B true) ?_
       refine LWp.nil ?_
       refine Wp.ct ?_
       refine Wp.seq (Wp.region ?_)
       refine LWp.o 2 (Y (bs [])) ?_
       refine LWp.o 3 (B false) ?_
       refine LWp.nil ?_
       cases h
       replace h : some _ = some _ := hk1
       cases h
       exact Wp.ret ⟨.inr rfl, _, _, rfl, rfl⟩
     refine LWp.o 33 (B v2.2) ?_
     refine LWp.o 34 (B (!v2.2)) ?_
     refine LWp.o 35 (B (!v2.2)) ?_
     refine LWp.nil ?_
     refine Wp.c h (fun h => ?_) (fun h => ?_)
     · refine Wp.seq (Wp.region ?_)
       refine LWp.o 2 (Y (bs [])) ?_
       refine LWp.o 3 (B false) ?_
       refine LWp.nil ?_
       cases h
       replace h : some _ = some _ := hk1
       cases h
       exact Wp.ret ⟨.inr rfl, _, _, rfl, rfl⟩
     refine Wp.skip ?_
     refine Wp.region ?_
     refine LWp.o 36 (Y v2.1) ?_
     refine LWp.o 4 (Y v2.1) ?_
     refine LWp.nil ?_
     cases h
     exact ⟨_, rfl, rfl, rfl⟩
   refine Wp.skip ?_
   cases h
   exact ⟨_, rfl, rfl, rfl⟩
 intro j1 h E hE
 refine nt_wp hE ?_
 change Wp _ _ _ (s_UnpackText_H1 xT j1) _
 refine Wp.seq (Wp.region ?_)
 refine LWp.o 38 (Y j1) ?_
 refine LWp.cl h 39 (fun v3 => (.tup [(Y v3.1), (B v3.2)])) rfl (l := [.sv (.one (.str j1))]) rfl (fun v hv => s_PackText_t j1 v hv) (.inl rfl) ?_
 intro v3 gv3 h
 refine LWp.mt 39 37 (.tup [(Y v3.1), (B v3.2)]) ?_
 refine LWp.e 37 0 40 (Y v3.1) ?_
 refine LWp.e 37 1 41 (B v3.2) ?_
 refine LWp.o 9 (Y v3.1) ?_
 refine LWp.o 10 (B v3.2) ?_
 refine LWp.nil ?_
 refine Wp.seq ?_
 refine Wp.seq ?_
 refine Wp.j1 h [4, 48] [] (fun a => (s_UnpackText_H2 j1 a)) ?_ ?_
 · intro a h
   refine Wp.region ?_
   refine LWp.o 42 (B v3.2) ?_
   refine LWp.o 43 (B (!v3.2)) ?_
   refine LWp.o 44 (B (!v3.2)) ?_
   refine LWp.sp h 44 (fun h => ?_) (fun h => ?_)
   · refine LWp.sh 45 ?_
     refine LWp.sh 46 ?_
     refine LWp.sh 47 ?_
     refine LWp.o 48 (B true) ?_
     refine LWp.nil ?_
     cases h
     exact ⟨_, rfl, rfl, rfl⟩
   refine LWp.o 45 (Y v3.1) ?_
   refine LWp.o 46 (Y xT) ?_
   refine LWp.o 47 (B (!(seq v3.1 xT))) ?_
   refine LWp.o 48 (B (!(seq v3.1 xT))) ?_
   refine LWp.nil ?_
   cases h
   exact ⟨_, rfl, rfl, rfl⟩
 intro j2 h E hE
 refine nt_wp hE ?_
 change Wp _ _ _ (s_UnpackText_H2 j1 j2) _
 refine Wp.c h (fun h => ?_) (fun h => ?_)
 · refine Wp.seq (Wp.region ?_)
   refine LWp.o 2 (Y (bs [])) ?_
   refine LWp.o 3 (B false) ?_
   refine LWp.nil ?_
   cases h
   exact Wp.ret ⟨.inr rfl, _, _, rfl, rfl⟩
 refine Wp.skip ?_
 refine Wp.seq (Wp.region ?_)
 refine LWp.o 49 (Y j1) ?_
 refine LWp.o 2 (Y j1) ?_
 refine LWp.o 3 (B true) ?_
 refine LWp.nil ?_
 cases h
 exact Wp.ret ⟨.inr rfl, _, _, rfl, rfl⟩
theorem s_l13Text_t (xList : List Found) (xChunk : Int) (r : ByteArray × Bool) (h : s_l13Text xList xChunk = some r) : Gives Tryz.prog 104 [.sv (.one (.sl false 158 8 (encs c158 xList))), .sv (I xChunk)] (.tup [(Y r.1), (B r.2)]) (List.replicate 2 .gone) := by
 unfold s_l13Text at h
 refine gives_of Tryz.func104 rfl ?_
 rw [Tryz.ntmps104]
 refine Wp.seq (Wp.region ?_)
 refine LWp.o 4 (Y (bs [])) ?_
 refine LWp.o 5 (B false) ?_
 refine LWp.nil ?_
 refine Wp.seq (Wp.region ?_)
 refine LWp.o 9 (.one (.sl false 158 8 (encs c158 xList))) ?_
 refine LWp.o 10 (I xChunk) ?_
 refine LWp.cl h 11 (fun v1 => (.tup [(.agg [.int .i64 v1.1.Block, .int .i64 v1.1.Leaf, .int .i64 v1.1.Page.Kind, .int .i64 v1.1.Page.Seq, .int .i64 v1.1.Page.Tx, .int .i64 v1.1.Page.Part, .int .i64 v1.1.Page.Count, .str v1.1.Page.Text]), (B v1.2)])) rfl (l := [.sv (.one (.sl false 158 8 (encs c158 xList))), .sv (.one (.int .i64 xChunk))]) rfl (fun v hv => s_l13Newest_t xList xChunk v hv) (.inl rfl) ?_
 intro v1 gv1 h
 refine LWp.mt 11 8 (.tup [(.agg [.int .i64 v1.1.Block, .int .i64 v1.1.Leaf, .int .i64 v1.1.Page.Kind, .int .i64 v1.1.Page.Seq, .int .i64 v1.1.Page.Tx, .int .i64 v1.1.Page.Part, .int .i64 v1.1.Page.Count, .str v1.1.Page.Text]), (B v1.2)]) ?_
 refine LWp.e 8 0 12 (.agg [.int .i64 v1.1.Block, .int .i64 v1.1.Leaf, .int .i64 v1.1.Page.Kind, .int .i64 v1.1.Page.Seq, .int .i64 v1.1.Page.Tx, .int .i64 v1.1.Page.Part, .int .i64 v1.1.Page.Count, .str v1.1.Page.Text]) ?_
 refine LWp.e 8 1 13 (B v1.2) ?_
 refine LWp.b [] 6 [.int .i64 0, .int .i64 0, .int .i64 0, .int .i64 0, .int .i64 0, .int .i64 0, .int .i64 0, .str (bs [])] ?_
 refine LWp.s [] (.box 6) [.int .i64 v1.1.Block, .int .i64 v1.1.Leaf, .int .i64 v1.1.Page.Kind, .int .i64 v1.1.Page.Seq, .int .i64 v1.1.Page.Tx, .int .i64 v1.1.Page.Part, .int .i64 v1.1.Page.Count, .str v1.1.Page.Text] ?_
 refine LWp.o 7 (B v1.2) ?_
 refine LWp.nil ?_
 refine Wp.seq ?_
 refine Wp.seq (Wp.region ?_)
 refine LWp.o 14 (B v1.2) ?_
 refine LWp.o 15 (B (!v1.2)) ?_
 refine LWp.nil ?_
 refine Wp.c h (fun h => ?_) (fun h => ?_)
 · refine Wp.seq (Wp.region ?_)
   refine LWp.o 4 (Y (bs [])) ?_
   refine LWp.o 5 (B false) ?_
   refine LWp.nil ?_
   cases h
   exact Wp.ret ⟨.inr rfl, _, _, rfl, rfl⟩
 refine Wp.skip ?_
 refine Wp.seq (Wp.region ?_)
 refine LWp.o 16 (.one (.ptr (.box 6) 1 [] 2)) ?_
 refine LWp.o 17 (.one (.ptr (.box 6) 1 [] 7)) ?_
 refine LWp.o 18 (Y v1.1.Page.Text) ?_
 refine LWp.cl h 19 (fun v2 => (.tup [(Y v2.1), (B v2.2)])) rfl (l := [.sv (.one (.str v1.1.Page.Text))]) rfl (fun v hv => s_UnpackText_t v1.1.Page.Text v hv) (.inl rfl) ?_
 intro v2 gv2 h
 refine LWp.e 19 0 20 (Y v2.1) ?_
 refine LWp.e 19 1 21 (B v2.2) ?_
 refine LWp.o 4 (Y v2.1) ?_
 refine LWp.o 5 (B v2.2) ?_
 refine LWp.nil ?_
 cases h
 exact Wp.ret ⟨.inr rfl, _, _, rfl, rfl⟩
theorem s_l15Read_t (xList : List Found) (xS : Store) (xVol : Int) (xSector : Int) (r : ByteArray × Bool) (h : s_l15Read xList xS xVol xSector = some r) : Gives Tryz.prog 57 [.sv (.one (.sl false 158 8 (encs c158 xList))), .sv (.agg [.sl false 110 2 (encs c110 xS.Vols), .sl false 218 2 (encs (c218 false) xS.Arena.Knots), .int .i64 xS.Next]), .sv (I xVol), .sv (I xSector)] (.tup [(Y r.1), (B r.2)]) (List.replicate 4 .gone) := by
 unfold s_l15Read at h
 refine gives_of Tryz.func57 rfl ?_
 rw [Tryz.ntmps57]
 refine Wp.seq (Wp.region ?_)
 refine LWp.b [] 5 [.sl false 110 2 (encs c110 xS.Vols), .sl false 218 2 (encs (c218 false) xS.Arena.Knots), .int .i64 xS.Next] ?_
 refine LWp.o 8 (Y (bs [])) ?_
 refine LWp.o 9 (B false) ?_
 refine LWp.nil ?_
 refine Wp.seq ?_
 refine Wp.seq (Wp.region ?_)
 refine LWp.o 11 (.agg [.sl false 110 2 (encs c110 xS.Vols), .sl false 218 2 (encs (c218 false) xS.Arena.Knots), .int .i64 xS.Next]) ?_
 refine LWp.o 12 (I xVol) ?_
 refine LWp.cl h 13 (fun v1 => (I v1)) rfl (l := [.sv (.agg [.sl false 110 2 (encs c110 xS.Vols), .sl false 218 2 (encs (c218 false) xS.Arena.Knots), .int .i64 xS.Next]), .sv (.one (.int .i64 xVol))]) rfl (fun v hv => s_l12At_t xS xVol v hv) (.inl rfl) ?_
 intro v1 gv1 h
 refine LWp.o 14 (B (decide (v1 < 0))) ?_
 refine LWp.nil ?_
 refine Wp.c h (fun h => ?_) (fun h => ?_)
 · refine Wp.seq (Wp.region ?_)
   refine LWp.o 8 (Y (bs [])) ?_
   refine LWp.o 9 (B false) ?_
   refine LWp.nil ?_
   cases h
   exact Wp.ret ⟨.inr rfl, _, _, rfl, rfl⟩
 refine Wp.skip ?_
 refine Wp.seq (Wp.region ?_)
 refine LWp.o 15 (.agg [.sl false 110 2 (encs c110 xS.Vols), .sl false 218 2 (encs (c218 false) xS.Arena.Knots), .int .i64 xS.Next]) ?_
 refine LWp.o 16 (I xVol) ?_
 refine LWp.o 17 (I xSector) ?_
 refine LWp.cl h 18 (fun v2 => (I v2)) rfl (l := [.sv (.agg [.sl false 110 2 (encs c110 xS.Vols), .sl false 218 2 (encs (c218 false) xS.Arena.Knots), .int .i64 xS.Next]), .sv (.one (.int .i64 xVol)), .sv (.one (.int .i64 xSector))]) rfl (fun v hv => s_ChunkOf_t xS xVol xSector v hv) (.inl rfl) ?_
 intro v2 gv2 h
 refine LWp.o 10 (I v2) ?_
 refine LWp.nil ?_
 refine Wp.seq ?_
 refine Wp.seq (Wp.region ?_)
 refine LWp.o 19 (I v2) ?_
 refine LWp.o 20 (B (v2 == 0)) ?_
 refine LWp.nil ?_
 refine Wp.c h (fun h => ?_) (fun h => ?_)
 · refine Wp.seq (Wp.region ?_)
   refine LWp.o 8 (Y (bs [])) ?_
   refine LWp.o 9 (B true) ?_
   refine LWp.nil ?_
   cases h
   exact Wp.ret ⟨.inr rfl, _, _, rfl, rfl⟩
 refine Wp.skip ?_
 refine Wp.seq (Wp.region ?_)
 refine LWp.o 21 (.one (.sl false 158 8 (encs c158 xList))) ?_
 refine LWp.o 22 (I v2) ?_
 refine LWp.cl h 23 (fun v3 => (.tup [(Y v3.1), (B v3.2)])) rfl (l := [.sv (.one (.sl false 158 8 (encs c158 xList))), .sv (.one (.int .i64 v2))]) rfl (fun v hv => s_l13Text_t xList v2 v hv) (.inl rfl) ?_
 intro v3 gv3 h
 refine LWp.e 23 0 24 (Y v3.1) ?_
 refine LWp.e 23 1 25 (B v3.2) ?_
 refine LWp.o 8 (Y v3.1) ?_
 refine LWp.o 9 (B v3.2) ?_
 refine LWp.nil ?_
 cases h
 exact Wp.ret ⟨.inr rfl, _, _, rfl, rfl⟩
def c9 (x : ByteArray) : List TV := [.str x]
theorem k9 : ∀ x, (c9 x).length = 1 := fun _ => rfl
theorem sh9 : ∀ l, shares (encs c9 l) = encs c9 l := shares_encs (fun _ => rfl)
theorem ns9 : ∀ l, hasShareds (encs c9 l) = false := ns_encs (fun _ => rfl)
def c113 (o : Bool) (x : Shelf) : List TV := [.int .i64 x.Vol, .sl o 9 1 (encs c9 x.Texts)]
theorem k113 (o : Bool) : ∀ x, (c113 o x).length = 2 := fun _ => rfl
theorem sh113 : ∀ l, shares (encs (c113 true) l) = encs (c113 false) l := shares_encs (fun x => by simp only [c113, shares, share, sh9])
theorem ns113 : ∀ l, hasShareds (encs (c113 true) l) = false := ns_encs (fun x => by simp [c113, hasShareds, hasShared, ns9])
def s_ModelOfDevice_H1 (xD : Device) (v1 : List Found) (z1 : List Shelf) (z2 : Int) : St := mkSt [(1, (.one (.ptr (.box 1) 0 [] 0))), (3, (.one (.sl true 158 8 (encs c158 v1)))), (4, (.one (.sl true 113 2 (encs (c113 true) z1)))), (5, (I z2))] [(.box 1, [.sl false 124 3 (encs (c124 false) xD.Flash.Blocks), .sl false 110 2 (encs c110 xD.Store.Vols), .sl false 218 2 (encs (c218 false) xD.Store.Arena.Knots), .int .i64 xD.Store.Next, .int .i64 xD.Seq, .int .i64 xD.Tx, .int .i64 xD.Base])]
def s_ModelOfDevice_H2 (z3 : List Shelf) : St := mkSt [(4, (.one (.sl true 113 2 (encs (c113 true) z3))))] []
def s_ModelOfDevice_H3 (xD : Device) (v1 : List Found) (yOut1 : List Shelf) (yI1 : Int) (x1 : Vol) (z4 : Int) (z5 : List ByteArray) : St := mkSt [(1, (.one (.ptr (.box 1) 0 [] 0))), (3, (.one (.sl true 158 8 (encs c158 v1)))), (4, (.one (.sl true 113 2 (encs (c113 true) yOut1)))), (5, (I yI1)), (6, (.one (.ptr (.box 6) 0 [] 0))), (7, (I z4))] [(.box 1, [.sl false 124 3 (encs (c124 false) xD.Flash.Blocks), .sl false 110 2 (encs c110 xD.Store.Vols), .sl false 218 2 (encs (c218 false) xD.Store.Arena.Knots), .int .i64 xD.Store.Next, .int .i64 xD.Seq, .int .i64 xD.Tx, .int .i64 xD.Base]), (.box 6, [.int .i64 x1.Id, .sl true 9 1 (encs c9 z5)])]
def s_ModelOfDevice_H4 (xD : Device) (v1 : List Found) (yOut1 : List Shelf) (yI1 : Int) (x1 : Vol) (z6 : List ByteArray) : St := mkSt [(1, (.one (.ptr (.box 1) 0 [] 0))), (3, (.one (.sl true 158 8 (encs c158 v1)))), (4, (.one (.sl true 113 2 (encs (c113 true) yOut1)))), (5, (I yI1)), (6, (.one (.ptr (.box 6) 0 [] 0)))] [(.box 1, [.sl false 124 3 (encs (c124 false) xD.Flash.Blocks), .sl false 110 2 (encs c110 xD.Store.Vols), .sl false 218 2 (encs (c218 false) xD.Store.Arena.Knots), .int .i64 xD.Store.Next, .int .i64 xD.Seq, .int .i64 xD.Tx, .int .i64 xD.Base]), (.box 6, [.int .i64 x1.Id, .sl true 9 1 (encs c9 z6)])]
theorem s_ModelOfDevice_t (xD : Device) (r : List Shelf) (h : s_ModelOfDevice xD = some r) : Gives Tryz.prog 23 [.sv (.agg [.sl false 124 3 (encs (c124 false) xD.Flash.Blocks), .sl false 110 2 (encs c110 xD.Store.Vols), .sl false 218 2 (encs (c218 false) xD.Store.Arena.Knots), .int .i64 xD.Store.Next, .int .i64 xD.Seq, .int .i64 xD.Tx, .int .i64 xD.Base])] (.one (.sl true 113 2 (encs (c113 true) r))) (List.replicate 1 .gone) := by
 unfold s_ModelOfDevice at h
 refine gives_of Tryz.func23 rfl ?_
 rw [Tryz.ntmps23]
 refine Wp.seq (Wp.region ?_)
 refine LWp.b [] 1 [.sl false 124 3 (encs (c124 false) xD.Flash.Blocks), .sl false 110 2 (encs c110 xD.Store.Vols), .sl false 218 2 (encs (c218 false) xD.Store.Arena.Knots), .int .i64 xD.Store.Next, .int .i64 xD.Seq, .int .i64 xD.Tx, .int .i64 xD.Base] ?_
 refine LWp.o 2 (.one (.sl true 113 2 (encs (c113 true) []))) ?_
 refine LWp.nil ?_
 refine Wp.seq (Wp.region ?_)
 refine LWp.o 10 (.one (.ptr (.box 1) 1 [] 0)) ?_
 refine LWp.o 11 (.agg [.sl false 124 3 (encs (c124 false) xD.Flash.Blocks)]) ?_
 refine LWp.cl h 12 (fun v1 => (.one (.sl true 158 8 (encs c158 v1)))) rfl (l := [.sv (.agg [.sl false 124 3 (encs (c124 false) xD.Flash.Blocks)])]) rfl (fun v hv => s_ScanAll_t xD.Flash v hv) (.inl rfl) ?_
 intro v1 gv1 h
 refine LWp.m true [(.slot 12, [.junk])] 3 (.one (.sl true 158 8 (encs c158 v1))) ?_
 refine LWp.nil ?_
 refine Wp.seq (Wp.region ?_)
 refine LWp.m false [] 13 (.one (.sl true 113 2 (encs (c113 true) []))) ?_
 refine LWp.m true [(.slot 13, [.junk])] 4 (.one (.sl true 113 2 (encs (c113 true) []))) ?_
 refine LWp.nil ?_
 refine Wp.seq ?_
 refine Wp.seq (Wp.region ?_)
 refine LWp.o 5 (I 0) ?_
 refine LWp.nil ?_
 refine Wp.l1 h [1, 3, 4, 5] [.box 1] (fun s => (s_ModelOfDevice_H1 xD v1 s.1 s.2)) [4] [] (fun s => (s_ModelOfDevice_H2 s)) ⟨rfl, rfl⟩ ?_ ?_
 · rintro ⟨yOut1, yI1⟩ o (h : s_ModelOfDevice_b1 xD v1 yOut1 yI1 = some o)
   unfold s_ModelOfDevice_b1 at h
   change Wp _ _ _ (s_ModelOfDevice_H1 xD v1 yOut1 yI1) _
   refine Wp.seq ?_
   refine Wp.seq (Wp.region ?_)
   refine LWp.o 14 (I yI1) ?_
   refine LWp.o 15 (.one (.ptr (.box 1) 0 [] 1)) ?_
   refine LWp.o 16 (.one (.ptr (.box 1) 0 [] 1)) ?_
   refine LWp.o 17 (.one (.sl false 110 2 (encs c110 xD.Store.Vols))) ?_
   refine LWp.o 18 (I (ln xD.Store.Vols)) ?_ (st_pure (p_ln k110 xD.Store.Vols))
   refine LWp.o 19 (B (decide (yI1 < (ln xD.Store.Vols)))) ?_
   refine LWp.nil ?_
   refine Wp.c h (fun h => ?_) (fun h => ?_)
   · refine Wp.skip ?_
     refine Wp.seq ?_
     refine Wp.block ?_
     refine Wp.seq (Wp.region ?_)
     refine LWp.o 22 (.one (.ptr (.box 1) 0 [] 1)) ?_
     refine LWp.o 23 (.one (.ptr (.box 1) 0 [] 1)) ?_
     refine LWp.o 24 (.one (.sl false 110 2 (encs c110 xD.Store.Vols))) ?_
     refine LWp.o 25 (I yI1) ?_
     refine LWp.p h 26 (fun _ => (.one (.ptr (.slot 24) 1 [0] (Int.toNat yI1 * 2 + 0)))) ?_ (fun x1 gx1 => st_pure (p_ix k110 (.slot 24) [] 0 gx1))
     intro x1 gx1 h
     refine LWp.o 27 (.one (.ptr (.slot 24) 1 [0] (Int.toNat yI1 * 2 + 0))) ?_ (st_pure (p_fa k110 (.slot 24) [0] 0 gx1))
     refine LWp.o 28 (I x1.Id) ?_ (st_pure (p_lc k110 (.slot 24) [0] 0 (.int .i64 x1.Id) gx1))
     refine LWp.o 29 (.agg [.int .i64 x1.Id, .sl true 9 1 (encs c9 [])]) ?_
     refine LWp.b [] 6 [.int .i64 0, .sl true 9 1 (encs c9 [])] ?_
     refine LWp.sb [(.slot 29, [.int .i64 x1.Id, .junk])] (.box 6) [.int .i64 x1.Id, .sl true 9 1 (encs c9 [])] ?_
     refine LWp.nil ?_
     refine Wp.seq ?_
     refine Wp.seq (Wp.region ?_)
     refine LWp.o 7 (I 0) ?_
     refine LWp.nil ?_
     refine Wp.l1 h [1, 3, 4, 5, 6, 7] [.box 1, .box 6] (fun s => (s_ModelOfDevice_H3 xD v1 yOut1 yI1 x1 s.1 s.2)) [1, 3, 4, 5, 6] [.box 1, .box 6] (fun s => (s_ModelOfDevice_H4 xD v1 yOut1 yI1 x1 s)) ⟨rfl, rfl⟩ ?_ ?_
     · rintro ⟨yK1, yX11⟩ o (h : s_ModelOfDevice_b2 xD v1 x1 yK1 yX11 = some o)
       unfold s_ModelOfDevice_b2 at h
       change Wp _ _ _ (s_ModelOfDevice_H3 xD v1 yOut1 yI1 x1 yK1 yX11) _
       refine Wp.seq ?_
       refine Wp.seq (Wp.region ?_)
       refine LWp.o 30 (I yK1) ?_
       refine LWp.o 31 (B (decide (yK1 < 16))) ?_
       refine LWp.nil ?_
       refine Wp.c h (fun h => ?_) (fun h => ?_)
       · refine Wp.skip ?_
         refine Wp.seq ?_
         refine Wp.block ?_
         refine Wp.seq (Wp.region ?_)
         refine LWp.o 35 (.one (.view (.slot 3) 0 [] 0)) ?_
         refine LWp.o 36 (.one (.ptr (.box 1) 0 [] 1)) ?_
         refine LWp.o 37 (.agg [.sl false 110 2 (encs c110 xD.Store.Vols), .sl false 218 2 (encs (c218 false) xD.Store.Arena.Knots), .int .i64 xD.Store.Next]) ?_
         refine LWp.o 38 (.one (.ptr (.box 6) 0 [] 0)) ?_
         refine LWp.o 39 (I x1.Id) ?_
         refine LWp.o 40 (I yK1) ?_
         refine LWp.cl h 41 (fun v2 => (.tup [(Y v2.1), (B v2.2)])) rfl (l := [.sv (.one (.sl false 158 8 (shares (encs c158 v1)))), .sv (.agg [.sl false 110 2 (encs c110 xD.Store.Vols), .sl false 218 2 (encs (c218 false) xD.Store.Arena.Knots), .int .i64 xD.Store.Next]), .sv (.one (.int .i64 x1.Id)), .sv (.one (.int .i64 yK1))]) rfl (fun v hv => cg (l := [.sv (.one (.sl false 158 8 (shares (encs c158 v1)))), .sv (.agg [.sl false 110 2 (encs c110 xD.Store.Vols), .sl false 218 2 (encs (c218 false) xD.Store.Arena.Knots), .int .i64 xD.Store.Next]), .sv (.one (.int .i64 x1.Id)), .sv (.one (.int .i64 yK1))]) (by simp only [sh158]) (s_l15Read_t v1 xD.Store x1.Id yK1 v hv)) (.inr (fun v => rfl)) ?_
         intro v2 gv2 h
         refine LWp.mt 41 34 (.tup [(Y v2.1), (B v2.2)]) ?_
         refine LWp.e 34 0 42 (Y v2.1) ?_
         refine LWp.e 34 1 43 (B v2.2) ?_
         refine LWp.o 8 (Y v2.1) ?_
         refine LWp.o 9 (B v2.2) ?_
         refine LWp.nil ?_
         refine Wp.region ?_
         refine LWp.o 44 (.one (.ptr (.box 6) 0 [] 1)) ?_
         refine LWp.o 45 (.one (.view (.box 6) 0 [] 1)) ?_
         refine LWp.o 46 (Y v2.1) ?_
         refine LWp.m false [] 47 (.one (.sl true 9 1 (encs c9 [v2.1]))) ?_
         refine LWp.pm h [(.box 6, [.int .i64 x1.Id, .junk])] 48 (fun q1 => (.one (.sl true 9 1 (encs c9 q1)))) ?_ (fun q1 gq1 => s_apl k9 (fun _ => rfl) [(.box 6, [.int .i64 x1.Id, .junk])] yX11 gq1)
         intro q1 gq1 h
         refine LWp.o 49 (.one (.ptr (.box 6) 0 [] 1)) ?_
         refine LWp.s [(.slot 48, [.junk])] (.box 6) [.int .i64 x1.Id, .sl true 9 1 (encs c9 q1)] ?_
         refine LWp.nil ?_
         refine Wp.region ?_
         refine LWp.o 32 (I yK1) ?_
         refine LWp.o 33 (I (ad yK1 1)) ?_
         refine LWp.o 7 (I (ad yK1 1)) ?_
         refine LWp.nil ?_
         cases h
         exact ⟨_, rfl, rfl, rfl⟩
       refine Wp.exit ?_
       cases h
       exact ⟨_, rfl, rfl, rfl⟩
     intro v3 h E hE
     refine nt_wp hE ?_
     change Wp _ _ _ (s_ModelOfDevice_H4 xD v1 yOut1 yI1 x1 v3) _
     refine Wp.region ?_
     refine LWp.o 50 (.one (.view (.slot 4) 0 [] 0)) ?_
     refine LWp.o 51 (.agg [.int .i64 x1.Id, .view (.box 6) 0 [] 1]) ?_
     refine LWp.m false [(.box 6, [.int .i64 x1.Id, .junk])] 52 (.one (.sl true 113 2 (encs (c113 true) [(Shelf.mk x1.Id v3)]))) ?_
     refine LWp.pm h [(.slot 4, [.junk]), (.slot 52, [.sl true 113 2 [.int .i64 ((Shelf.mk x1.Id v3).Vol), .junk]])] 53 (fun q2 => (.one (.sl true 113 2 (encs (c113 true) q2)))) ?_ (fun q2 gq2 => s_ap1 (k113 true) [(.slot 4, [.junk]), (.slot 52, [.sl true 113 2 [.int .i64 ((Shelf.mk x1.Id v3).Vol), .junk]])] yOut1 [(Shelf.mk x1.Id v3)] gq2)
     intro q2 gq2 h
     refine LWp.m true [(.slot 53, [.junk])] 4 (.one (.sl true 113 2 (encs (c113 true) q2))) ?_
     refine LWp.nil ?_
     refine Wp.region ?_
     refine LWp.o 20 (I yI1) ?_
     refine LWp.o 21 (I (ad yI1 1)) ?_
     refine LWp.o 5 (I (ad yI1 1)) ?_
     refine LWp.nil ?_
     cases h
     exact ⟨_, rfl, rfl, rfl⟩
   refine Wp.exit ?_
   cases h
   exact ⟨_, rfl, rfl, rfl⟩
 intro v4 h E hE
 refine nt_wp hE ?_
 change Wp _ _ _ (s_ModelOfDevice_H2 v4) _
 refine Wp.seq (Wp.region ?_)
 refine LWp.o 54 (.one (.view (.slot 4) 0 [] 0)) ?_
 refine LWp.m true [(.slot 4, [.junk])] 2 (.one (.sl true 113 2 (encs (c113 true) v4))) ?_
 refine LWp.nil ?_
 cases h
 exact Wp.ret ⟨.inr rfl, _, _, rfl, rfl⟩
def i_volAt_H1 (xS : Store) (xId : Int) (z1 : Int) : St := mkSt [(1, (I xId)), (8, (.one (.sl false 110 2 (encs c110 xS.Vols)))), (9, (I (ln xS.Vols))), (10, (I z1))] []
def i_volAt_H2  : St := mkSt [] []
theorem i_volAt_t (xS : Store) (xId : Int) (r : Int) (h : i_volAt xS xId = some r) : Gives Tryz.prog 105 [.sv (.agg [.sl false 110 2 (encs c110 xS.Vols), .sl false 218 2 (encs (c218 false) xS.Arena.Knots), .int .i64 xS.Next]), .sv (I xId)] (I r) (List.replicate 2 .gone) := by
 unfold i_volAt at h
 refine gives_of Tryz.func105 rfl ?_
 rw [Tryz.ntmps105]
 refine Wp.seq (Wp.region ?_)
 refine LWp.b [] 2 [.sl false 110 2 (encs c110 xS.Vols), .sl false 218 2 (encs (c218 false) xS.Arena.Knots), .int .i64 xS.Next] ?_
 refine LWp.o 4 (I 0) ?_
 refine LWp.nil ?_
 refine Wp.seq ?_
 refine Wp.seq (Wp.region ?_)
 refine LWp.o 7 (.one (.ptr (.box 2) 1 [] 0)) ?_
 refine LWp.o 8 (.one (.sl false 110 2 (encs c110 xS.Vols))) ?_
 refine LWp.o 9 (I (ln xS.Vols)) ?_ (st_pure (p_ln k110 xS.Vols))
 refine LWp.o 10 (I 0) ?_
 refine LWp.nil ?_
 refine Wp.l2 h [1, 8, 9, 10] [] (fun s => (i_volAt_H1 xS xId s)) [] [] (fun _ => i_volAt_H2) ⟨rfl, rfl⟩ ?_ ?_
 · rintro y1 o (h : i_volAt_b1 xS xId y1 = some o) hk1
   unfold i_volAt_b1 at h
   change Wp _ _ _ (i_volAt_H1 xS xId y1) _
   refine Wp.seq (Wp.region ?_)
   refine LWp.o 11 (B (decide (y1 < (ln xS.Vols)))) ?_
   refine LWp.nil ?_
   refine Wp.seq ?_
   refine Wp.c h (fun h => ?_) (fun h => ?_)
   · refine Wp.skip ?_
     refine Wp.seq ?_
     refine Wp.block ?_
     refine Wp.seq (Wp.region ?_)
     refine LWp.o 12 (I y1) ?_
     refine LWp.p h 13 (fun _ => (.one (.ptr (.slot 8) 0 [0] (Int.toNat y1 * 2 + 0)))) ?_ (fun x1 gx1 => st_pure (p_ix k110 (.slot 8) [] 0 gx1))
     intro x1 gx1 h
     refine LWp.o 14 (.agg [.int .i64 x1.Id, .int .i64 x1.Root]) ?_ (st_pure (p_le k110 (.slot 8) [0] gx1))
     refine LWp.b [] 6 [.int .i64 0, .int .i64 0] ?_
     refine LWp.o 5 (I y1) ?_
     refine LWp.s [] (.box 6) [.int .i64 x1.Id, .int .i64 x1.Root] ?_
     refine LWp.nil ?_
     refine Wp.seq (Wp.region ?_)
     refine LWp.o 15 (.one (.ptr (.box 6) 1 [] 0)) ?_
     refine LWp.o 16 (I x1.Id) ?_
     refine LWp.o 17 (I xId) ?_
     refine LWp.o 18 (B (x1.Id == xId)) ?_
     refine LWp.nil ?_
     refine Wp.c h (fun h => ?_) (fun h => ?_)
     · refine Wp.seq (Wp.region ?_)
       refine LWp.o 19 (I y1) ?_
       refine LWp.o 4 (I y1) ?_
       refine LWp.nil ?_
       cases h
       replace h : some _ = some _ := hk1 _ rfl
       cases h
       exact Wp.ret ⟨.inr rfl, _, _, rfl, rfl⟩
     refine Wp.skip ?_
     refine Wp.region ?_
     refine LWp.o 20 (I (ad y1 1)) ?_
     refine LWp.o 10 (I (ad y1 1)) ?_
     refine LWp.nil ?_
     cases h
     exact ⟨_, rfl, rfl, rfl⟩
   refine Wp.exit ?_
   cases h
   exact ⟨_, rfl, rfl, rfl⟩
 intro v1 h E hE
 refine nt_wp hE ?_
 change Wp _ _ _ i_volAt_H2 _
 refine Wp.seq (Wp.region ?_)
 refine LWp.o 4 (I (-1)) ?_
 refine LWp.nil ?_
 cases h
 exact Wp.ret ⟨.inr rfl, _, _, rfl, rfl⟩
theorem i_in_t (xN : Int) (xLow : Int) (xHigh : Int) (r : Bool) (h : i_in xN xLow xHigh = some r) : Gives Tryz.prog 92 [.sv (I xN), .sv (I xLow), .sv (I xHigh)] (B r) (List.replicate 3 .gone) := by
 unfold i_in at h
 refine gives_of Tryz.func92 rfl ?_
 rw [Tryz.ntmps92]
 refine Wp.seq (Wp.region ?_)
 refine LWp.o 6 (B false) ?_
 refine LWp.nil ?_
 refine Wp.seq (Wp.region ?_)
 refine LWp.o 7 (I xN) ?_
 refine LWp.o 8 (I xLow) ?_
 refine LWp.o 9 (B (decide (xN ≥ xLow))) ?_
 refine LWp.o 10 (B (decide (xN ≥ xLow))) ?_
 refine LWp.sp h 10 (fun h => ?_) (fun h => ?_)
 · refine LWp.o 11 (I xN) ?_
   refine LWp.o 12 (I xHigh) ?_
   refine LWp.o 13 (B (decide (xN ≤ xHigh))) ?_
   refine LWp.o 14 (B (decide (xN ≤ xHigh))) ?_
   refine LWp.o 6 (B (decide (xN ≤ xHigh))) ?_
   refine LWp.nil ?_
   cases h
   exact Wp.ret ⟨.inr rfl, _, _, rfl, rfl⟩
 refine LWp.sh 11 ?_
 refine LWp.sh 12 ?_
 refine LWp.sh 13 ?_
 refine LWp.o 14 (B false) ?_
 refine LWp.o 6 (B false) ?_
 refine LWp.nil ?_
 cases h
 exact Wp.ret ⟨.inr rfl, _, _, rfl, rfl⟩
theorem i_isRoot_t (xA : Arena) (xRoot : Int) (r : Bool) (h : i_isRoot xA xRoot = some r) : Gives Tryz.prog 182 [.sv (.agg [.sl false 218 2 (encs (c218 false) xA.Knots)]), .sv (I xRoot)] (B r) (List.replicate 2 .gone) := by
 unfold i_isRoot at h
 refine gives_of Tryz.func182 rfl ?_
 rw [Tryz.ntmps182]
 refine Wp.seq (Wp.region ?_)
 refine LWp.b [] 2 [.sl false 218 2 (encs (c218 false) xA.Knots)] ?_
 refine LWp.o 4 (B false) ?_
 refine LWp.nil ?_
 refine Wp.seq (Wp.region ?_)
 refine LWp.o 5 (I xRoot) ?_
 refine LWp.o 6 (.one (.ptr (.box 2) 1 [] 0)) ?_
 refine LWp.o 7 (.one (.sl false 218 2 (encs (c218 false) xA.Knots))) ?_
 refine LWp.o 8 (I (ln xA.Knots)) ?_ (st_pure (p_ln (k218 false) xA.Knots))
 refine LWp.o 9 (I (sb (ln xA.Knots) 1)) ?_
 refine LWp.cl h 10 (fun v1 => (B v1)) rfl (l := [.sv (.one (.int .i64 xRoot)), .sv (.one (.int .i64 0)), .sv (.one (.int .i64 (sb (ln xA.Knots) 1)))]) rfl (fun v hv => i_in_t xRoot 0 (sb (ln xA.Knots) 1) v hv) (.inl rfl) ?_
 intro v1 gv1 h
 refine LWp.o 11 (B v1) ?_
 refine LWp.sp h 11 (fun h => ?_) (fun h => ?_)
 · refine LWp.o 12 (.one (.ptr (.box 2) 1 [] 0)) ?_
   refine LWp.o 13 (.one (.sl false 218 2 (encs (c218 false) xA.Knots))) ?_
   refine LWp.o 14 (I xRoot) ?_
   refine LWp.p h 15 (fun _ => (.one (.ptr (.slot 13) 1 [0] (Int.toNat xRoot * 2 + 0)))) ?_ (fun x1 gx1 => st_pure (p_ix (k218 false) (.slot 13) [] 0 gx1))
   intro x1 gx1 h
   refine LWp.o 16 (.one (.ptr (.slot 13) 1 [0] (Int.toNat xRoot * 2 + 0))) ?_ (st_pure (p_fa (k218 false) (.slot 13) [0] 0 gx1))
   refine LWp.o 17 (B x1.Leaf) ?_ (st_pure (p_lc (k218 false) (.slot 13) [0] 0 (.bool x1.Leaf) gx1))
   refine LWp.o 18 (B (!x1.Leaf)) ?_
   refine LWp.o 19 (B (!x1.Leaf)) ?_
   refine LWp.o 4 (B (!x1.Leaf)) ?_
   refine LWp.nil ?_
   cases h
   exact Wp.ret ⟨.inr rfl, _, _, rfl, rfl⟩
 refine LWp.sh 12 ?_
 refine LWp.sh 13 ?_
 refine LWp.sh 14 ?_
 refine LWp.sh 15 ?_
 refine LWp.sh 16 ?_
 refine LWp.sh 17 ?_
 refine LWp.sh 18 ?_
 refine LWp.o 19 (B false) ?_
 refine LWp.o 4 (B false) ?_
 refine LWp.nil ?_
 cases h
 exact Wp.ret ⟨.inr rfl, _, _, rfl, rfl⟩
def i_ArenaOk_H1 (xA : Arena) (z1 : Int) : St := mkSt [(1, (.one (.ptr (.box 1) 0 [] 0))), (8, (.one (.sl false 218 2 (encs (c218 false) xA.Knots)))), (9, (I (ln xA.Knots))), (10, (I z1))] [(.box 1, [.sl false 218 2 (encs (c218 false) xA.Knots)])]
def i_ArenaOk_H2  : St := mkSt [] []
def i_ArenaOk_H3 (xA : Arena) (y1 : Int) (x1 : Knot) (z2 : Int) : St := mkSt [(1, (.one (.ptr (.box 1) 0 [] 0))), (3, (I y1)), (4, (.one (.ptr (.box 4) 0 [] 0))), (8, (.one (.sl false 218 2 (encs (c218 false) xA.Knots)))), (9, (I (ln xA.Knots))), (10, (I y1)), (20, (.one (.sl false 3 1 (encs c3 x1.Kids)))), (21, (I (ln x1.Kids))), (22, (I z2))] [(.box 1, [.sl false 218 2 (encs (c218 false) xA.Knots)]), (.box 4, [.bool x1.Leaf, .sl false 3 1 (encs c3 x1.Kids)])]
def i_ArenaOk_H4 (xA : Arena) (y1 : Int) : St := mkSt [(1, (.one (.ptr (.box 1) 0 [] 0))), (8, (.one (.sl false 218 2 (encs (c218 false) xA.Knots)))), (9, (I (ln xA.Knots))), (10, (I y1))] [(.box 1, [.sl false 218 2 (encs (c218 false) xA.Knots)])]
def i_ArenaOk_H5 (xA : Arena) (y1 : Int) (x1 : Knot) (y2 : Int) (z3 : Bool) : St := mkSt [(1, (.one (.ptr (.box 1) 0 [] 0))), (3, (I y1)), (4, (.one (.ptr (.box 4) 0 [] 0))), (8, (.one (.sl false 218 2 (encs (c218 false) xA.Knots)))), (9, (I (ln xA.Knots))), (10, (I y1)), (20, (.one (.sl false 3 1 (encs c3 x1.Kids)))), (21, (I (ln x1.Kids))), (22, (I y2)), (56, (B z3))] [(.box 1, [.sl false 218 2 (encs (c218 false) xA.Knots)]), (.box 4, [.bool x1.Leaf, .sl false 3 1 (encs c3 x1.Kids)])]
theorem i_ArenaOk_t (xA : Arena) (r : Bool) (h : i_ArenaOk xA = some r) : Gives Tryz.prog 183 [.sv (.agg [.sl false 218 2 (encs (c218 false) xA.Knots)])] (B r) (List.replicate 1 .gone) := by
 unfold i_ArenaOk at h
 refine gives_of Tryz.func183 rfl ?_
 rw [Tryz.ntmps183]
 refine Wp.seq (Wp.region ?_)
 refine LWp.b [] 1 [.sl false 218 2 (encs (c218 false) xA.Knots)] ?_
 refine LWp.o 2 (B false) ?_
 refine LWp.nil ?_
 refine Wp.seq ?_
 refine Wp.seq (Wp.region ?_)
 refine LWp.o 7 (.one (.ptr (.box 1) 1 [] 0)) ?_
 refine LWp.o 8 (.one (.sl false 218 2 (encs (c218 false) xA.Knots))) ?_
 refine LWp.o 9 (I (ln xA.Knots)) ?_ (st_pure (p_ln (k218 false) xA.Knots))
 refine LWp.o 10 (I 0) ?_
 refine LWp.nil ?_
 refine Wp.l2 h [1, 8, 9, 10] [.box 1] (fun s => (i_ArenaOk_H1 xA s)) [] [] (fun _ => i_ArenaOk_H2) ⟨rfl, rfl⟩ ?_ ?_
 · rintro y1 o (h : i_ArenaOk_b1 xA y1 = some o) hk1
   unfold i_ArenaOk_b1 at h
   change Wp _ _ _ (i_ArenaOk_H1 xA y1) _
   refine Wp.seq (Wp.region ?_)
   refine LWp.o 11 (B (decide (y1 < (ln xA.Knots)))) ?_
   refine LWp.nil ?_
   refine Wp.seq ?_
   refine Wp.c h (fun h => ?_) (fun h => ?_)
   · refine Wp.skip ?_
     refine Wp.seq ?_
     refine Wp.block ?_
     refine Wp.seq (Wp.region ?_)
     refine LWp.o 12 (I y1) ?_
     refine LWp.p h 13 (fun _ => (.one (.ptr (.slot 8) 0 [0] (Int.toNat y1 * 2 + 0)))) ?_ (fun x1 gx1 => st_pure (p_ix (k218 false) (.slot 8) [] 0 gx1))
     intro x1 gx1 h
     refine LWp.o 14 (.agg [.bool x1.Leaf, .sl false 3 1 (encs c3 x1.Kids)]) ?_ (st_pure (p_le (k218 false) (.slot 8) [0] gx1))
     refine LWp.b [] 4 [.bool false, .sl true 3 1 (encs c3 [])] ?_
     refine LWp.o 3 (I y1) ?_
     refine LWp.sb [] (.box 4) [.bool x1.Leaf, .sl false 3 1 (encs c3 x1.Kids)] ?_
     refine LWp.nil ?_
     refine Wp.seq ?_
     refine Wp.seq (Wp.region ?_)
     refine LWp.o 15 (.one (.ptr (.box 4) 1 [] 1)) ?_
     refine LWp.o 16 (.one (.sl false 3 1 (encs c3 x1.Kids))) ?_
     refine LWp.o 17 (I (ln x1.Kids)) ?_ (st_pure (p_ln k3 x1.Kids))
     refine LWp.o 18 (B ((ln x1.Kids) != 4)) ?_
     refine LWp.nil ?_
     refine Wp.c h (fun h => ?_) (fun h => ?_)
     · refine Wp.seq (Wp.region ?_)
       refine LWp.o 2 (B false) ?_
       refine LWp.nil ?_
       cases h
       replace h : some _ = some _ := hk1 _ rfl
       cases h
       exact Wp.ret ⟨.inr rfl, _, _, rfl, rfl⟩
     refine Wp.skip ?_
     refine Wp.seq (Wp.region ?_)
     refine LWp.o 19 (.one (.ptr (.box 4) 1 [] 1)) ?_
     refine LWp.o 20 (.one (.sl false 3 1 (encs c3 x1.Kids))) ?_
     refine LWp.o 21 (I (ln x1.Kids)) ?_ (st_pure (p_ln k3 x1.Kids))
     refine LWp.o 22 (I 0) ?_
     refine LWp.nil ?_
     refine Wp.l2 h [1, 3, 4, 8, 9, 10, 20, 21, 22] [.box 1, .box 4] (fun s => (i_ArenaOk_H3 xA y1 x1 s)) [1, 8, 9, 10] [.box 1] (fun _ => (i_ArenaOk_H4 xA y1)) ⟨rfl, rfl⟩ ?_ ?_
     · rintro y2 o (h : i_ArenaOk_b2 xA y1 x1 y2 = some o) hk2
       unfold i_ArenaOk_b2 at h
       change Wp _ _ _ (i_ArenaOk_H3 xA y1 x1 y2) _
       refine Wp.seq (Wp.region ?_)
       refine LWp.o 23 (B (decide (y2 < (ln x1.Kids)))) ?_
       refine LWp.nil ?_
       refine Wp.seq ?_
       refine Wp.c h (fun h => ?_) (fun h => ?_)
       · refine Wp.skip ?_
         refine Wp.seq ?_
         refine Wp.block ?_
         refine Wp.seq (Wp.region ?_)
         refine LWp.p h 24 (fun _ => (.one (.ptr (.slot 20) 0 [0] (Int.toNat y2 * 1 + 0)))) ?_ (fun x2 gx2 => st_pure (p_ix k3 (.slot 20) [] 0 gx2))
         intro x2 gx2 h
         refine LWp.o 25 (I x2) ?_ (st_pure (p_lc k3 (.slot 20) [0] 0 (.int .i64 x2) gx2))
         refine LWp.o 6 (I x2) ?_
         refine LWp.nil ?_
         refine Wp.seq ?_
         refine Wp.j1 h [1, 3, 4, 8, 9, 10, 20, 21, 22, 56] [.box 1, .box 4] (fun a => (i_ArenaOk_H5 xA y1 x1 y2 a)) ?_ ?_
         · intro a h
           refine Wp.region ?_
           refine LWp.o 26 (.one (.ptr (.box 4) 0 [] 0)) ?_
           refine LWp.o 27 (B x1.Leaf) ?_
           refine LWp.o 28 (B x1.Leaf) ?_
           refine LWp.sp h 28 (fun h => ?_) (fun h => ?_)
           · refine LWp.o 29 (I x2) ?_
             refine LWp.o 30 (B (decide (x2 < 0))) ?_
             refine LWp.o 31 (B (decide (x2 < 0))) ?_
             refine LWp.o 32 (B (decide (x2 < 0))) ?_
             refine LWp.sp h 32 (fun h => ?_) (fun h => ?_)
             · refine LWp.sh 33 ?_
               refine LWp.sh 34 ?_
               refine LWp.sh 35 ?_
               refine LWp.sh 36 ?_
               refine LWp.sh 37 ?_
               refine LWp.sh 38 ?_
               refine LWp.sh 39 ?_
               refine LWp.sh 40 ?_
               refine LWp.sh 41 ?_
               refine LWp.sh 42 ?_
               refine LWp.sh 43 ?_
               refine LWp.sh 44 ?_
               refine LWp.sh 45 ?_
               refine LWp.sh 46 ?_
               refine LWp.sh 47 ?_
               refine LWp.sh 48 ?_
               refine LWp.sh 49 ?_
               refine LWp.sh 50 ?_
               refine LWp.sh 51 ?_
               refine LWp.sh 52 ?_
               refine LWp.sh 53 ?_
               refine LWp.sh 54 ?_
               refine LWp.sh 55 ?_
               refine LWp.o 56 (B true) ?_
               refine LWp.nil ?_
               cases h
               exact ⟨_, rfl, rfl, rfl⟩
             refine LWp.o 33 (.one (.ptr (.box 4) 0 [] 0)) ?_
             refine LWp.o 34 (B x1.Leaf) ?_
             refine LWp.o 35 (B (!x1.Leaf)) ?_
             refine LWp.o 36 (B (!x1.Leaf)) ?_
             refine LWp.sp h 36 (fun h => ?_) (fun h => ?_)
             · refine LWp.o 37 (I x2) ?_
               refine LWp.o 38 (B (x2 != (-1))) ?_
               refine LWp.o 39 (B (x2 != (-1))) ?_
               refine LWp.o 40 (B (x2 != (-1))) ?_
               refine LWp.sp h 40 (fun h => ?_) (fun h => ?_)
               · refine LWp.o 41 (I x2) ?_
                 refine LWp.o 42 (I y1) ?_
                 refine LWp.o 43 (I (sb y1 1)) ?_
                 refine LWp.cl h 44 (fun v1 => (B v1)) rfl (l := [.sv (.one (.int .i64 x2)), .sv (.one (.int .i64 0)), .sv (.one (.int .i64 (sb y1 1)))]) rfl (fun v hv => i_in_t x2 0 (sb y1 1) v hv) (.inl rfl) ?_
                 intro v1 gv1 h
                 refine LWp.o 45 (B (!v1)) ?_
                 refine LWp.o 46 (B (!v1)) ?_
                 refine LWp.sp h 46 (fun h => ?_) (fun h => ?_)
                 · refine LWp.sh 47 ?_
                   refine LWp.sh 48 ?_
                   refine LWp.sh 49 ?_
                   refine LWp.sh 50 ?_
                   refine LWp.sh 51 ?_
                   refine LWp.sh 52 ?_
                   refine LWp.sh 53 ?_
                   refine LWp.o 54 (B true) ?_
                   refine LWp.o 55 (B true) ?_
                   refine LWp.o 56 (B true) ?_
                   refine LWp.nil ?_
                   cases h
                   exact ⟨_, rfl, rfl, rfl⟩
                 refine LWp.o 47 (.one (.ptr (.box 1) 0 [] 0)) ?_
                 refine LWp.o 48 (.one (.sl false 218 2 (encs (c218 false) xA.Knots))) ?_
                 refine LWp.o 49 (I x2) ?_
                 refine LWp.p h 50 (fun _ => (.one (.ptr (.slot 48) 1 [0] (Int.toNat x2 * 2 + 0)))) ?_ (fun x3 gx3 => st_pure (p_ix (k218 false) (.slot 48) [] 0 gx3))
                 intro x3 gx3 h
                 refine LWp.o 51 (.one (.ptr (.slot 48) 1 [0] (Int.toNat x2 * 2 + 0))) ?_ (st_pure (p_fa (k218 false) (.slot 48) [0] 0 gx3))
                 refine LWp.o 52 (B x3.Leaf) ?_ (st_pure (p_lc (k218 false) (.slot 48) [0] 0 (.bool x3.Leaf) gx3))
                 refine LWp.o 53 (B (!x3.Leaf)) ?_
                 refine LWp.o 54 (B (!x3.Leaf)) ?_
                 refine LWp.o 55 (B (!x3.Leaf)) ?_
                 refine LWp.o 56 (B (!x3.Leaf)) ?_
                 refine LWp.nil ?_
                 cases h
                 exact ⟨_, rfl, rfl, rfl⟩
               refine LWp.sh 41 ?_
               refine LWp.sh 42 ?_
               refine LWp.sh 43 ?_
               refine LWp.sh 44 ?_
               refine LWp.sh 45 ?_
               refine LWp.sh 46 ?_
               refine LWp.sh 47 ?_
               refine LWp.sh 48 ?_
               refine LWp.sh 49 ?_
               refine LWp.sh 50 ?_
               refine LWp.sh 51 ?_
               refine LWp.sh 52 ?_
               refine LWp.sh 53 ?_
               refine LWp.sh 54 ?_
               refine LWp.o 55 (B false) ?_
               refine LWp.o 56 (B false) ?_
               refine LWp.nil ?_
               cases h
               exact ⟨_, rfl, rfl, rfl⟩
             refine LWp.sh 37 ?_
             refine LWp.sh 38 ?_
             refine LWp.o 39 (B false) ?_
             refine LWp.o 40 (B false) ?_
             refine LWp.sh 41 ?_
             refine LWp.sh 42 ?_
             refine LWp.sh 43 ?_
             refine LWp.sh 44 ?_
             refine LWp.sh 45 ?_
             refine LWp.sh 46 ?_
             refine LWp.sh 47 ?_
             refine LWp.sh 48 ?_
             refine LWp.sh 49 ?_
             refine LWp.sh 50 ?_
             refine LWp.sh 51 ?_
             refine LWp.sh 52 ?_
             refine LWp.sh 53 ?_
             refine LWp.sh 54 ?_
             refine LWp.o 55 (B false) ?_
             refine LWp.o 56 (B false) ?_
             refine LWp.nil ?_
             cases h
             exact ⟨_, rfl, rfl, rfl⟩
           refine LWp.sh 29 ?_
           refine LWp.sh 30 ?_
           refine LWp.o 31 (B false) ?_
           refine LWp.o 32 (B false) ?_
           refine LWp.o 33 (.one (.ptr (.box 4) 0 [] 0)) ?_
           refine LWp.o 34 (B x1.Leaf) ?_
           refine LWp.o 35 (B (!x1.Leaf)) ?_
           refine LWp.o 36 (B (!x1.Leaf)) ?_
           refine LWp.sp h 36 (fun h => ?_) (fun h => ?_)
           · refine LWp.o 37 (I x2) ?_
             refine LWp.o 38 (B (x2 != (-1))) ?_
             refine LWp.o 39 (B (x2 != (-1))) ?_
             refine LWp.o 40 (B (x2 != (-1))) ?_
             refine LWp.sp h 40 (fun h => ?_) (fun h => ?_)
             · refine LWp.o 41 (I x2) ?_
               refine LWp.o 42 (I y1) ?_
               refine LWp.o 43 (I (sb y1 1)) ?_
               refine LWp.cl h 44 (fun v2 => (B v2)) rfl (l := [.sv (.one (.int .i64 x2)), .sv (.one (.int .i64 0)), .sv (.one (.int .i64 (sb y1 1)))]) rfl (fun v hv => i_in_t x2 0 (sb y1 1) v hv) (.inl rfl) ?_
               intro v2 gv2 h
               refine LWp.o 45 (B (!v2)) ?_
               refine LWp.o 46 (B (!v2)) ?_
               refine LWp.sp h 46 (fun h => ?_) (fun h => ?_)
               · refine LWp.sh 47 ?_
                 refine LWp.sh 48 ?_
                 refine LWp.sh 49 ?_
                 refine LWp.sh 50 ?_
                 refine LWp.sh 51 ?_
                 refine LWp.sh 52 ?_
                 refine LWp.sh 53 ?_
                 refine LWp.o 54 (B true) ?_
                 refine LWp.o 55 (B true) ?_
                 refine LWp.o 56 (B true) ?_
                 refine LWp.nil ?_
                 cases h
                 exact ⟨_, rfl, rfl, rfl⟩
               refine LWp.o 47 (.one (.ptr (.box 1) 0 [] 0)) ?_
               refine LWp.o 48 (.one (.sl false 218 2 (encs (c218 false) xA.Knots))) ?_
               refine LWp.o 49 (I x2) ?_
               refine LWp.p h 50 (fun _ => (.one (.ptr (.slot 48) 1 [0] (Int.toNat x2 * 2 + 0)))) ?_ (fun x4 gx4 => st_pure (p_ix (k218 false) (.slot 48) [] 0 gx4))
               intro x4 gx4 h
               refine LWp.o 51 (.one (.ptr (.slot 48) 1 [0] (Int.toNat x2 * 2 + 0))) ?_ (st_pure (p_fa (k218 false) (.slot 48) [0] 0 gx4))
               refine LWp.o 52 (B x4.Leaf) ?_ (st_pure (p_lc (k218 false) (.slot 48) [0] 0 (.bool x4.Leaf) gx4))
               refine LWp.o 53 (B (!x4.Leaf)) ?_
               refine LWp.o 54 (B (!x4.Leaf)) ?_
               refine LWp.o 55 (B (!x4.Leaf)) ?_
               refine LWp.o 56 (B (!x4.Leaf)) ?_
               refine LWp.nil ?_
               cases h
               exact ⟨_, rfl, rfl, rfl⟩
             refine LWp.sh 41 ?_
             refine LWp.sh 42 ?_
             refine LWp.sh 43 ?_
             refine LWp.sh 44 ?_
             refine LWp.sh 45 ?_
             refine LWp.sh 46 ?_
             refine LWp.sh 47 ?_
             refine LWp.sh 48 ?_
             refine LWp.sh 49 ?_
             refine LWp.sh 50 ?_
             refine LWp.sh 51 ?_
             refine LWp.sh 52 ?_
             refine LWp.sh 53 ?_
             refine LWp.sh 54 ?_
             refine LWp.o 55 (B false) ?_
             refine LWp.o 56 (B false) ?_
             refine LWp.nil ?_
             cases h
             exact ⟨_, rfl, rfl, rfl⟩
           refine LWp.sh 37 ?_
           refine LWp.sh 38 ?_
           refine LWp.o 39 (B false) ?_
           refine LWp.o 40 (B false) ?_
           refine LWp.sh 41 ?_
           refine LWp.sh 42 ?_
           refine LWp.sh 43 ?_
           refine LWp.sh 44 ?_
           refine LWp.sh 45 ?_
           refine LWp.sh 46 ?_
           refine LWp.sh 47 ?_
           refine LWp.sh 48 ?_
           refine LWp.sh 49 ?_
           refine LWp.sh 50 ?_
           refine LWp.sh 51 ?_
           refine LWp.sh 52 ?_
           refine LWp.sh 53 ?_
           refine LWp.sh 54 ?_
           refine LWp.o 55 (B false) ?_
           refine LWp.o 56 (B false) ?_
           refine LWp.nil ?_
           cases h
           exact ⟨_, rfl, rfl, rfl⟩
         intro j1 h E hE
         refine nt_wp hE ?_
         change Wp _ _ _ (i_ArenaOk_H5 xA y1 x1 y2 j1) _
         refine Wp.c h (fun h => ?_) (fun h => ?_)
         · refine Wp.seq (Wp.region ?_)
           refine LWp.o 2 (B false) ?_
           refine LWp.nil ?_
           cases h
           replace h : some _ = some _ := hk2 _ rfl
           cases h
           replace h : some _ = some _ := hk1 _ rfl
           cases h
           exact Wp.ret ⟨.inr rfl, _, _, rfl, rfl⟩
         refine Wp.skip ?_
         refine Wp.region ?_
         refine LWp.o 57 (I (ad y2 1)) ?_
         refine LWp.o 22 (I (ad y2 1)) ?_
         refine LWp.nil ?_
         cases h
         exact ⟨_, rfl, rfl, rfl⟩
       refine Wp.exit ?_
       cases h
       exact ⟨_, rfl, rfl, rfl⟩
     intro v3 h E hE
     refine nt_wp hE ?_
     change Wp _ _ _ (i_ArenaOk_H4 xA y1) _
     refine Wp.region ?_
     refine LWp.o 58 (I (ad y1 1)) ?_
     refine LWp.o 10 (I (ad y1 1)) ?_
     refine LWp.nil ?_
     cases h
     exact ⟨_, rfl, rfl, rfl⟩
   refine Wp.exit ?_
   cases h
   exact ⟨_, rfl, rfl, rfl⟩
 intro v4 h E hE
 refine nt_wp hE ?_
 change Wp _ _ _ i_ArenaOk_H2 _
 refine Wp.seq (Wp.region ?_)
 refine LWp.o 2 (B true) ?_
 refine LWp.nil ?_
 cases h
 exact Wp.ret ⟨.inr rfl, _, _, rfl, rfl⟩
theorem i_numberAt_t (xA : Arena) (xRoot : Int) (xSector : Int) (r : Int) (h : i_numberAt xA xRoot xSector = some r) : Gives Tryz.prog 184 [.sv (.agg [.sl false 218 2 (encs (c218 false) xA.Knots)]), .sv (I xRoot), .sv (I xSector)] (I r) (List.replicate 3 .gone) := by
 unfold i_numberAt at h
 refine gives_of Tryz.func184 rfl ?_
 rw [Tryz.ntmps184]
 refine Wp.seq (Wp.region ?_)
 refine LWp.b [] 3 [.sl false 218 2 (encs (c218 false) xA.Knots)] ?_
 refine LWp.o 6 (I 0) ?_
 refine LWp.nil ?_
 refine Wp.seq (Wp.region ?_)
 refine LWp.o 8 (.one (.ptr (.box 3) 1 [] 0)) ?_
 refine LWp.o 9 (.one (.sl false 218 2 (encs (c218 false) xA.Knots))) ?_
 refine LWp.o 10 (I xRoot) ?_
 refine LWp.p h 11 (fun _ => (.one (.ptr (.slot 9) 1 [0] (Int.toNat xRoot * 2 + 0)))) ?_ (fun x1 gx1 => st_pure (p_ix (k218 false) (.slot 9) [] 0 gx1))
 intro x1 gx1 h
 refine LWp.o 12 (.one (.ptr (.slot 9) 1 [0] (Int.toNat xRoot * 2 + 1))) ?_ (st_pure (p_fa (k218 false) (.slot 9) [0] 0 gx1))
 refine LWp.o 13 (.one (.sl false 3 1 (encs c3 x1.Kids))) ?_ (st_pure (p_lc (k218 false) (.slot 9) [0] 1 (.sl false 3 1 (encs c3 x1.Kids)) gx1))
 refine LWp.o 14 (I xSector) ?_
 refine LWp.o 15 (I (qu xSector 4)) ?_
 refine LWp.p h 16 (fun _ => (.one (.ptr (.slot 13) 1 [0] (Int.toNat (qu xSector 4) * 1 + 0)))) ?_ (fun x2 gx2 => st_pure (p_ix k3 (.slot 13) [] 0 gx2))
 intro x2 gx2 h
 refine LWp.o 17 (I x2) ?_ (st_pure (p_lc k3 (.slot 13) [0] 0 (.int .i64 x2) gx2))
 refine LWp.o 7 (I x2) ?_
 refine LWp.nil ?_
 refine Wp.seq ?_
 refine Wp.seq (Wp.region ?_)
 refine LWp.o 18 (I x2) ?_
 refine LWp.o 19 (B (decide (x2 < 0))) ?_
 refine LWp.nil ?_
 refine Wp.c h (fun h => ?_) (fun h => ?_)
 · refine Wp.seq (Wp.region ?_)
   refine LWp.o 6 (I 0) ?_
   refine LWp.nil ?_
   cases h
   exact Wp.ret ⟨.inr rfl, _, _, rfl, rfl⟩
 refine Wp.skip ?_
 refine Wp.seq (Wp.region ?_)
 refine LWp.o 20 (.one (.ptr (.box 3) 1 [] 0)) ?_
 refine LWp.o 21 (.one (.sl false 218 2 (encs (c218 false) xA.Knots))) ?_
 refine LWp.o 22 (I x2) ?_
 refine LWp.p h 23 (fun _ => (.one (.ptr (.slot 21) 1 [0] (Int.toNat x2 * 2 + 0)))) ?_ (fun x3 gx3 => st_pure (p_ix (k218 false) (.slot 21) [] 0 gx3))
 intro x3 gx3 h
 refine LWp.o 24 (.one (.ptr (.slot 21) 1 [0] (Int.toNat x2 * 2 + 1))) ?_ (st_pure (p_fa (k218 false) (.slot 21) [0] 0 gx3))
 refine LWp.o 25 (.one (.sl false 3 1 (encs c3 x3.Kids))) ?_ (st_pure (p_lc (k218 false) (.slot 21) [0] 1 (.sl false 3 1 (encs c3 x3.Kids)) gx3))
 refine LWp.o 26 (I xSector) ?_
 refine LWp.o 27 (I (Int.tmod xSector 4)) ?_
 refine LWp.p h 28 (fun _ => (.one (.ptr (.slot 25) 1 [0] (Int.toNat (Int.tmod xSector 4) * 1 + 0)))) ?_ (fun x4 gx4 => st_pure (p_ix k3 (.slot 25) [] 0 gx4))
 intro x4 gx4 h
 refine LWp.o 29 (I x4) ?_ (st_pure (p_lc k3 (.slot 25) [0] 0 (.int .i64 x4) gx4))
 refine LWp.o 6 (I x4) ?_
 refine LWp.nil ?_
 cases h
 exact Wp.ret ⟨.inr rfl, _, _, rfl, rfl⟩
def i_GetAt_H1 (xA : Arena) (xRoot : Int) (xSector : Int) (z1 : Bool) : St := mkSt [(1, (I xRoot)), (2, (I xSector)), (3, (.one (.ptr (.box 3) 0 [] 0))), (20, (B z1))] [(.box 3, [.sl false 218 2 (encs (c218 false) xA.Knots)])]
theorem i_GetAt_t (xA : Arena) (xRoot : Int) (xSector : Int) (r : Int) (h : i_GetAt xA xRoot xSector = some r) : Gives Tryz.prog 151 [.sv (.agg [.sl false 218 2 (encs (c218 false) xA.Knots)]), .sv (I xRoot), .sv (I xSector)] (I r) (List.replicate 3 .gone) := by
 unfold i_GetAt at h
 refine gives_of Tryz.func151 rfl ?_
 rw [Tryz.ntmps151]
 refine Wp.seq (Wp.region ?_)
 refine LWp.b [] 3 [.sl false 218 2 (encs (c218 false) xA.Knots)] ?_
 refine LWp.o 6 (I 0) ?_
 refine LWp.nil ?_
 refine Wp.seq ?_
 refine Wp.seq ?_
 refine Wp.j1 h [1, 2, 3, 20] [.box 3] (fun a => (i_GetAt_H1 xA xRoot xSector a)) ?_ ?_
 · intro a h
   refine Wp.region ?_
   refine LWp.o 7 (I xSector) ?_
   refine LWp.cl h 8 (fun v1 => (B v1)) rfl (l := [.sv (.one (.int .i64 xSector)), .sv (.one (.int .i64 0)), .sv (.one (.int .i64 15))]) rfl (fun v hv => i_in_t xSector 0 15 v hv) (.inl rfl) ?_
   intro v1 gv1 h
   refine LWp.o 9 (B (!v1)) ?_
   refine LWp.o 10 (B (!v1)) ?_
   refine LWp.sp h 10 (fun h => ?_) (fun h => ?_)
   · refine LWp.sh 11 ?_
     refine LWp.sh 12 ?_
     refine LWp.sh 13 ?_
     refine LWp.sh 14 ?_
     refine LWp.o 15 (B true) ?_
     refine LWp.o 16 (B true) ?_
     refine LWp.sh 17 ?_
     refine LWp.sh 18 ?_
     refine LWp.sh 19 ?_
     refine LWp.o 20 (B true) ?_
     refine LWp.nil ?_
     cases h
     exact ⟨_, rfl, rfl, rfl⟩
   refine LWp.o 11 (.agg [.sl false 218 2 (encs (c218 false) xA.Knots)]) ?_
   refine LWp.o 12 (I xRoot) ?_
   refine LWp.cl h 13 (fun v2 => (B v2)) rfl (l := [.sv (.agg [.sl false 218 2 (encs (c218 false) xA.Knots)]), .sv (.one (.int .i64 xRoot))]) rfl (fun v hv => i_isRoot_t xA xRoot v hv) (.inl rfl) ?_
   intro v2 gv2 h
   refine LWp.o 14 (B (!v2)) ?_
   refine LWp.o 15 (B (!v2)) ?_
   refine LWp.o 16 (B (!v2)) ?_
   refine LWp.sp h 16 (fun h => ?_) (fun h => ?_)
   · refine LWp.sh 17 ?_
     refine LWp.sh 18 ?_
     refine LWp.sh 19 ?_
     refine LWp.o 20 (B true) ?_
     refine LWp.nil ?_
     cases h
     exact ⟨_, rfl, rfl, rfl⟩
   refine LWp.o 17 (.agg [.sl false 218 2 (encs (c218 false) xA.Knots)]) ?_
   refine LWp.cl h 18 (fun v3 => (B v3)) rfl (l := [.sv (.agg [.sl false 218 2 (encs (c218 false) xA.Knots)])]) rfl (fun v hv => i_ArenaOk_t xA v hv) (.inl rfl) ?_
   intro v3 gv3 h
   refine LWp.o 19 (B (!v3)) ?_
   refine LWp.o 20 (B (!v3)) ?_
   refine LWp.nil ?_
   cases h
   exact ⟨_, rfl, rfl, rfl⟩
 intro j1 h E hE
 refine nt_wp hE ?_
 change Wp _ _ _ (i_GetAt_H1 xA xRoot xSector j1) _
 refine Wp.c h (fun h => ?_) (fun h => ?_)
 · refine Wp.seq (Wp.region ?_)
   refine LWp.o 6 (I 0) ?_
   refine LWp.nil ?_
   cases h
   exact Wp.ret ⟨.inr rfl, _, _, rfl, rfl⟩
 refine Wp.skip ?_
 refine Wp.seq (Wp.region ?_)
 refine LWp.o 21 (.agg [.sl false 218 2 (encs (c218 false) xA.Knots)]) ?_
 refine LWp.o 22 (I xRoot) ?_
 refine LWp.o 23 (I xSector) ?_
 refine LWp.cl h 24 (fun v4 => (I v4)) rfl (l := [.sv (.agg [.sl false 218 2 (encs (c218 false) xA.Knots)]), .sv (.one (.int .i64 xRoot)), .sv (.one (.int .i64 xSector))]) rfl (fun v hv => i_numberAt_t xA xRoot xSector v hv) (.inl rfl) ?_
 intro v4 gv4 h
 refine LWp.o 6 (I v4) ?_
 refine LWp.nil ?_
 cases h
 exact Wp.ret ⟨.inr rfl, _, _, rfl, rfl⟩
theorem i_ChunkOf_t (xS : Store) (xVol : Int) (xSector : Int) (r : Int) (h : i_ChunkOf xS xVol xSector = some r) : Gives Tryz.prog 106 [.sv (.agg [.sl false 110 2 (encs c110 xS.Vols), .sl false 218 2 (encs (c218 false) xS.Arena.Knots), .int .i64 xS.Next]), .sv (I xVol), .sv (I xSector)] (I r) (List.replicate 3 .gone) := by
 unfold i_ChunkOf at h
 refine gives_of Tryz.func106 rfl ?_
 rw [Tryz.ntmps106]
 refine Wp.seq (Wp.region ?_)
 refine LWp.b [] 3 [.sl false 110 2 (encs c110 xS.Vols), .sl false 218 2 (encs (c218 false) xS.Arena.Knots), .int .i64 xS.Next] ?_
 refine LWp.o 6 (I 0) ?_
 refine LWp.nil ?_
 refine Wp.seq (Wp.region ?_)
 refine LWp.o 8 (.agg [.sl false 110 2 (encs c110 xS.Vols), .sl false 218 2 (encs (c218 false) xS.Arena.Knots), .int .i64 xS.Next]) ?_
 refine LWp.o 9 (I xVol) ?_
 refine LWp.cl h 10 (fun v1 => (I v1)) rfl (l := [.sv (.agg [.sl false 110 2 (encs c110 xS.Vols), .sl false 218 2 (encs (c218 false) xS.Arena.Knots), .int .i64 xS.Next]), .sv (.one (.int .i64 xVol))]) rfl (fun v hv => i_volAt_t xS xVol v hv) (.inl rfl) ?_
 intro v1 gv1 h
 refine LWp.o 7 (I v1) ?_
 refine LWp.nil ?_
 refine Wp.seq ?_
 refine Wp.seq (Wp.region ?_)
 refine LWp.o 11 (I v1) ?_
 refine LWp.o 12 (B (decide (v1 < 0))) ?_
 refine LWp.nil ?_
 refine Wp.c h (fun h => ?_) (fun h => ?_)
 · refine Wp.seq (Wp.region ?_)
   refine LWp.o 6 (I 0) ?_
   refine LWp.nil ?_
   cases h
   exact Wp.ret ⟨.inr rfl, _, _, rfl, rfl⟩
 refine Wp.skip ?_
 refine Wp.seq ?_
 refine Wp.regionT 9 mixed (by decide +kernel) ?_
 refine SWp.o 13 (.one (.ptr (.box 3) 1 [] 1)) ?_
 refine SWp.o 14 (.agg [.sl false 218 2 (encs (c218 false) xS.Arena.Knots)]) ?_
 refine SWp.o 15 (.one (.ptr (.box 3) 1 [] 0)) ?_
 refine SWp.o 16 (.one (.sl false 110 2 (encs c110 xS.Vols))) ?_
 refine SWp.o 17 (I v1) ?_
 refine SWp.p h 18 (fun _ => (.one (.ptr (.slot 16) 1 [0] (Int.toNat v1 * 2 + 0)))) ?_ (fun x1 gx1 => sl_pure (p_ix k110 (.slot 16) [] 0 gx1))
 intro x1 gx1 h
 refine SWp.o 19 (.one (.ptr (.slot 16) 1 [0] (Int.toNat v1 * 2 + 1))) ?_ (sl_pure (p_fa k110 (.slot 16) [0] 0 gx1))
 refine SWp.o 20 (I x1.Root) ?_ (sl_pure (p_lc k110 (.slot 16) [0] 1 (.int .i64 x1.Root) gx1))
 refine SWp.o 21 (I xSector) ?_
 refine SWp.nil ?_
 refine LWp.cl h 22 (fun v2 => (I v2)) rfl (l := [.sv (.agg [.sl false 218 2 (encs (c218 false) xS.Arena.Knots)]), .sv (.one (.int .i64 x1.Root)), .sv (.one (.int .i64 xSector))]) rfl (fun v hv => i_GetAt_t xS.Arena x1.Root xSector v hv) (.inl rfl) ?_
 intro v2 gv2 h
 refine LWp.o 6 (I v2) ?_
 refine LWp.nil ?_
 cases h
 exact Wp.ret ⟨.inr rfl, _, _, rfl, rfl⟩
def i_SumMore_H1 (xText : ByteArray) (z1 : Int) (z2 : Int) : St := mkSt [(0, (.one (.int .u32 z1))), (1, (Y xText)), (5, (I z2))] []
def i_SumMore_H2 (z3 : Int) : St := mkSt [(0, (.one (.int .u32 z3)))] []
def i_SumMore_H3 (xText : ByteArray) (yI1 : Int) (z4 : Int) (z5 : Int) : St := mkSt [(0, (.one (.int .u32 z4))), (1, (Y xText)), (5, (I yI1)), (19, (I z5))] []
def i_SumMore_H4 (xText : ByteArray) (yI1 : Int) (z6 : Int) : St := mkSt [(0, (.one (.int .u32 z6))), (1, (Y xText)), (5, (I yI1))] []
theorem i_SumMore_t (xSum : Int) (xText : ByteArray) (r : Int) (h : i_SumMore xSum xText = some r) : Gives Tryz.prog 203 [.sv (.one (.int .u32 xSum)), .sv (Y xText)] (.one (.int .u32 r)) (List.replicate 2 .gone) := by
 unfold i_SumMore at h
 refine gives_of Tryz.func203 rfl ?_
 rw [Tryz.ntmps203]
 refine Wp.seq (Wp.region ?_)
 refine LWp.o 4 (.one (.int .u32 0)) ?_
 refine LWp.nil ?_
 refine Wp.seq ?_
 refine Wp.seq (Wp.region ?_)
 refine LWp.o 5 (I 0) ?_
 refine LWp.nil ?_
 refine Wp.l1 h [0, 1, 5] [] (fun s => (i_SumMore_H1 xText s.1 s.2)) [0] [] (fun s => (i_SumMore_H2 s)) ⟨rfl, rfl⟩ ?_ ?_
 · rintro ⟨ySum1, yI1⟩ o (h : i_SumMore_b1 xText ySum1 yI1 = some o)
   unfold i_SumMore_b1 at h
   change Wp _ _ _ (i_SumMore_H1 xText ySum1 yI1) _
   refine Wp.seq ?_
   refine Wp.seq (Wp.region ?_)
   refine LWp.o 7 (I yI1) ?_
   refine LWp.o 8 (Y xText) ?_
   refine LWp.o 9 (I (sln xText)) ?_
   refine LWp.o 10 (B (decide (yI1 < (sln xText)))) ?_
   refine LWp.nil ?_
   refine Wp.c h (fun h => ?_) (fun h => ?_)
   · refine Wp.skip ?_
     refine Wp.seq ?_
     refine Wp.block ?_
     refine Wp.seq (Wp.region ?_)
     refine LWp.o 13 (.one (.int .u32 ySum1)) ?_
     refine LWp.o 14 (Y xText) ?_
     refine LWp.o 15 (I yI1) ?_
     refine LWp.p h 16 (fun x1 => (.one (.int .u8 x1))) ?_ (fun x1 gx1 => st_pure (p_sx gx1))
     intro x1 gx1 h
     refine LWp.o 17 (.one (.int .u32 (IntKind.u32.wrap x1))) ?_
     refine LWp.o 18 (.one (.int .u32 (xr ySum1 (IntKind.u32.wrap x1)))) ?_
     refine LWp.o 0 (.one (.int .u32 (xr ySum1 (IntKind.u32.wrap x1)))) ?_
     refine LWp.nil ?_
     refine Wp.seq (Wp.region ?_)
     refine LWp.o 19 (I 0) ?_
     refine LWp.nil ?_
     refine Wp.l1 h [0, 1, 5, 19] [] (fun s => (i_SumMore_H3 xText yI1 s.1 s.2)) [0, 1, 5] [] (fun s => (i_SumMore_H4 xText yI1 s)) ⟨rfl, rfl⟩ ?_ ?_
     · rintro ⟨ySum2, y1⟩ o (h : i_SumMore_b2 ySum2 y1 = some o)
       unfold i_SumMore_b2 at h
       change Wp _ _ _ (i_SumMore_H3 xText yI1 ySum2 y1) _
       refine Wp.seq (Wp.region ?_)
       refine LWp.o 20 (B (decide (y1 < 8))) ?_
       refine LWp.nil ?_
       refine Wp.seq ?_
       refine Wp.c h (fun h => ?_) (fun h => ?_)
       · refine Wp.skip ?_
         refine Wp.seq ?_
         refine Wp.block ?_
         refine Wp.seq (Wp.region ?_)
         refine LWp.o 21 (.one (.int .u32 ySum2)) ?_
         refine LWp.o 22 (.one (.int .u32 (an ySum2 1))) ?_
         refine LWp.o 6 (.one (.int .u32 (an ySum2 1))) ?_
         refine LWp.nil ?_
         refine Wp.seq (Wp.region ?_)
         refine LWp.o 23 (.one (.int .u32 ySum2)) ?_
         refine LWp.o 24 (.one (.int .u32 (Int.fdiv ySum2 (2 ^ (min (1 : Int).toNat IntKind.u32.bits))))) ?_
         refine LWp.o 0 (.one (.int .u32 (Int.fdiv ySum2 (2 ^ (min (1 : Int).toNat IntKind.u32.bits))))) ?_
         refine LWp.nil ?_
         refine Wp.seq (Wp.region ?_)
         refine LWp.o 25 (.one (.int .u32 (an ySum2 1))) ?_
         refine LWp.o 26 (B ((an ySum2 1) == 1)) ?_
         refine LWp.nil ?_
         refine Wp.c h (fun h => ?_) (fun h => ?_)
         · refine Wp.region ?_
           refine LWp.o 27 (.one (.int .u32 (Int.fdiv ySum2 (2 ^ (min (1 : Int).toNat IntKind.u32.bits))))) ?_
           refine LWp.o 28 (.one (.int .u32 (xr (Int.fdiv ySum2 (2 ^ (min (1 : Int).toNat IntKind.u32.bits))) 3558460437))) ?_
           refine LWp.o 0 (.one (.int .u32 (xr (Int.fdiv ySum2 (2 ^ (min (1 : Int).toNat IntKind.u32.bits))) 3558460437))) ?_
           refine LWp.nil ?_
           refine Wp.region ?_
           refine LWp.o 29 (I (ad y1 1)) ?_
           refine LWp.o 19 (I (ad y1 1)) ?_
           refine LWp.nil ?_
           cases h
           exact ⟨_, rfl, rfl, rfl⟩
         refine Wp.skip ?_
         refine Wp.region ?_
         refine LWp.o 29 (I (ad y1 1)) ?_
         refine LWp.o 19 (I (ad y1 1)) ?_
         refine LWp.nil ?_
         cases h
         exact ⟨_, rfl, rfl, rfl⟩
       refine Wp.exit ?_
       cases h
       exact ⟨_, rfl, rfl, rfl⟩
     intro v1 h E hE
     refine nt_wp hE ?_
     change Wp _ _ _ (i_SumMore_H4 xText yI1 v1) _
     refine Wp.region ?_
     refine LWp.o 11 (I yI1) ?_
     refine LWp.o 12 (I (ad yI1 1)) ?_
     refine LWp.o 5 (I (ad yI1 1)) ?_
     refine LWp.nil ?_
     cases h
     exact ⟨_, rfl, rfl, rfl⟩
   refine Wp.exit ?_
   cases h
   exact ⟨_, rfl, rfl, rfl⟩
 intro v2 h E hE
 refine nt_wp hE ?_
 change Wp _ _ _ (i_SumMore_H2 v2) _
 refine Wp.seq (Wp.region ?_)
 refine LWp.o 30 (.one (.int .u32 v2)) ?_
 refine LWp.o 4 (.one (.int .u32 v2)) ?_
 refine LWp.nil ?_
 cases h
 exact Wp.ret ⟨.inr rfl, _, _, rfl, rfl⟩
theorem i_SumOf_t (xText : ByteArray) (r : Int) (h : i_SumOf xText = some r) : Gives Tryz.prog 172 [.sv (Y xText)] (.one (.int .u32 r)) (List.replicate 1 .gone) := by
 unfold i_SumOf at h
 refine gives_of Tryz.func172 rfl ?_
 rw [Tryz.ntmps172]
 refine Wp.seq (Wp.region ?_)
 refine LWp.o 2 (.one (.int .u32 0)) ?_
 refine LWp.nil ?_
 refine Wp.seq (Wp.region ?_)
 refine LWp.o 3 (Y xText) ?_
 refine LWp.cl h 4 (fun v1 => (.one (.int .u32 v1))) rfl (l := [.sv (.one (.int .u32 4294967295)), .sv (.one (.str xText))]) rfl (fun v hv => i_SumMore_t 4294967295 xText v hv) (.inl rfl) ?_
 intro v1 gv1 h
 refine LWp.o 2 (.one (.int .u32 v1)) ?_
 refine LWp.nil ?_
 cases h
 exact Wp.ret ⟨.inr rfl, _, _, rfl, rfl⟩
theorem i_Sealed_t (xText : ByteArray) (r : ByteArray × Bool) (h : i_Sealed xText = some r) : Gives Tryz.prog 135 [.sv (Y xText)] (.tup [(Y r.1), (B r.2)]) (List.replicate 1 .gone) := by
 unfold i_Sealed at h
 refine gives_of Tryz.func135 rfl ?_
 rw [Tryz.ntmps135]
 refine Wp.seq (Wp.region ?_)
 refine LWp.o 2 (Y (bs [])) ?_
 refine LWp.o 3 (B false) ?_
 refine LWp.nil ?_
 refine Wp.seq ?_
 refine Wp.seq (Wp.region ?_)
 refine LWp.o 5 (Y xText) ?_
 refine LWp.o 6 (I (sln xText)) ?_
 refine LWp.o 7 (B (decide ((sln xText) > 20000))) ?_
 refine LWp.nil ?_
 refine Wp.c h (fun h => ?_) (fun h => ?_)
 · refine Wp.seq (Wp.region ?_)
   refine LWp.o 2 (Y (bs [])) ?_
   refine LWp.o 3 (B false) ?_
   refine LWp.nil ?_
   cases h
   exact Wp.ret ⟨.inr rfl, _, _, rfl, rfl⟩
 refine Wp.skip ?_
 refine Wp.seq (Wp.region ?_)
 refine LWp.o 8 (Y xText) ?_
 refine LWp.cl h 9 (fun v1 => (.one (.int .u32 v1))) rfl (l := [.sv (.one (.str xText))]) rfl (fun v hv => i_SumOf_t xText v hv) (.inl rfl) ?_
 intro v1 gv1 h
 refine LWp.o 4 (.one (.int .u32 v1)) ?_
 refine LWp.nil ?_
 refine Wp.seq (Wp.region ?_)
 refine LWp.o 10 (Y xText) ?_
 refine LWp.o 11 (.one (.int .u32 v1)) ?_
 refine LWp.o 12 (.one (.int .u32 (Int.fdiv v1 (2 ^ (min (24 : Int).toNat IntKind.u32.bits))))) ?_
 refine LWp.o 13 (.one (.int .u8 (IntKind.u8.wrap (Int.fdiv v1 (2 ^ (min (24 : Int).toNat IntKind.u32.bits)))))) ?_
 refine LWp.o 14 (.one (.int .u32 v1)) ?_
 refine LWp.o 15 (.one (.int .u32 (Int.fdiv v1 (2 ^ (min (16 : Int).toNat IntKind.u32.bits))))) ?_
 refine LWp.o 16 (.one (.int .u8 (IntKind.u8.wrap (Int.fdiv v1 (2 ^ (min (16 : Int).toNat IntKind.u32.bits)))))) ?_
 refine LWp.o 17 (.one (.int .u32 v1)) ?_
 refine LWp.o 18 (.one (.int .u32 (Int.fdiv v1 (2 ^ (min (8 : Int).toNat IntKind.u32.bits))))) ?_
 refine LWp.o 19 (.one (.int .u8 (IntKind.u8.wrap (Int.fdiv v1 (2 ^ (min (8 : Int).toNat IntKind.u32.bits)))))) ?_
 refine LWp.o 20 (.one (.int .u32 v1)) ?_
 refine LWp.o 21 (.one (.int .u8 (IntKind.u8.wrap v1))) ?_
 refine LWp.m false [] 22 (.one (.sl true 5 1 (encs c5 [(IntKind.u8.wrap (Int.fdiv v1 (2 ^ (min (24 : Int).toNat IntKind.u32.bits)))), (IntKind.u8.wrap (Int.fdiv v1 (2 ^ (min (16 : Int).toNat IntKind.u32.bits)))), (IntKind.u8.wrap (Int.fdiv v1 (2 ^ (min (8 : Int).toNat IntKind.u32.bits)))), (IntKind.u8.wrap v1)]))) ?_
 refine LWp.o 23 (Y (strB [(IntKind.u8.wrap (Int.fdiv v1 (2 ^ (min (24 : Int).toNat IntKind.u32.bits)))), (IntKind.u8.wrap (Int.fdiv v1 (2 ^ (min (16 : Int).toNat IntKind.u32.bits)))), (IntKind.u8.wrap (Int.fdiv v1 (2 ^ (min (8 : Int).toNat IntKind.u32.bits)))), (IntKind.u8.wrap v1)])) ?_ (st_pure (p_cv (fun _ => rfl) [(IntKind.u8.wrap (Int.fdiv v1 (2 ^ (min (24 : Int).toNat IntKind.u32.bits)))), (IntKind.u8.wrap (Int.fdiv v1 (2 ^ (min (16 : Int).toNat IntKind.u32.bits)))), (IntKind.u8.wrap (Int.fdiv v1 (2 ^ (min (8 : Int).toNat IntKind.u32.bits)))), (IntKind.u8.wrap v1)]))
 refine LWp.p h 24 (fun x1 => (Y x1)) ?_ (fun x1 gx1 => st_pure (p_cat gx1))
 intro x1 gx1 h
 refine LWp.o 2 (Y x1) ?_
 refine LWp.o 3 (B true) ?_
 refine LWp.nil ?_
 cases h
 exact Wp.ret ⟨.inr rfl, _, _, rfl, rfl⟩
def i_Unsealed_H1 (x1 : ByteArray) (z1 : Bool) : St := mkSt [(4, (Y x1)), (26, (B z1))] []
theorem i_Unsealed_t (xText : ByteArray) (r : ByteArray × Bool) (h : i_Unsealed xText = some r) : Gives Tryz.prog 190 [.sv (Y xText)] (.tup [(Y r.1), (B r.2)]) (List.replicate 1 .gone) := by
 unfold i_Unsealed at h
 refine gives_of Tryz.func190 rfl ?_
 rw [Tryz.ntmps190]
 refine Wp.seq (Wp.region ?_)
 refine LWp.o 2 (Y (bs [])) ?_
 refine LWp.o 3 (B false) ?_
 refine LWp.nil ?_
 refine Wp.seq ?_
 refine Wp.seq (Wp.region ?_)
 refine LWp.o 7 (Y xText) ?_
 refine LWp.o 8 (I (sln xText)) ?_
 refine LWp.o 9 (B (decide ((sln xText) < 4))) ?_
 refine LWp.nil ?_
 refine Wp.c h (fun h => ?_) (fun h => ?_)
 · refine Wp.seq (Wp.region ?_)
   refine LWp.o 2 (Y (bs [])) ?_
   refine LWp.o 3 (B false) ?_
   refine LWp.nil ?_
   cases h
   exact Wp.ret ⟨.inr rfl, _, _, rfl, rfl⟩
 refine Wp.skip ?_
 refine Wp.seq (Wp.region ?_)
 refine LWp.o 10 (Y xText) ?_
 refine LWp.o 11 (Y xText) ?_
 refine LWp.o 12 (I (sln xText)) ?_
 refine LWp.o 13 (I (sb (sln xText) 4)) ?_
 refine LWp.p h 14 (fun x1 => (Y x1)) ?_ (fun x1 gx1 => st_pure (p_sub gx1))
 intro x1 gx1 h
 refine LWp.o 4 (Y x1) ?_
 refine LWp.nil ?_
 refine Wp.seq (Wp.region ?_)
 refine LWp.o 16 (Y x1) ?_
 refine LWp.cl h 17 (fun v1 => (.tup [(Y v1.1), (B v1.2)])) rfl (l := [.sv (.one (.str x1))]) rfl (fun v hv => i_Sealed_t x1 v hv) (.inl rfl) ?_
 intro v1 gv1 h
 refine LWp.mt 17 15 (.tup [(Y v1.1), (B v1.2)]) ?_
 refine LWp.e 15 0 18 (Y v1.1) ?_
 refine LWp.e 15 1 19 (B v1.2) ?_
 refine LWp.o 5 (Y v1.1) ?_
 refine LWp.o 6 (B v1.2) ?_
 refine LWp.nil ?_
 refine Wp.seq ?_
 refine Wp.seq ?_
 refine Wp.j1 h [4, 26] [] (fun a => (i_Unsealed_H1 x1 a)) ?_ ?_
 · intro a h
   refine Wp.region ?_
   refine LWp.o 20 (B v1.2) ?_
   refine LWp.o 21 (B (!v1.2)) ?_
   refine LWp.o 22 (B (!v1.2)) ?_
   refine LWp.sp h 22 (fun h => ?_) (fun h => ?_)
   · refine LWp.sh 23 ?_
     refine LWp.sh 24 ?_
     refine LWp.sh 25 ?_
     refine LWp.o 26 (B true) ?_
     refine LWp.nil ?_
     cases h
     exact ⟨_, rfl, rfl, rfl⟩
   refine LWp.o 23 (Y v1.1) ?_
   refine LWp.o 24 (Y xText) ?_
   refine LWp.o 25 (B (!(seq v1.1 xText))) ?_
   refine LWp.o 26 (B (!(seq v1.1 xText))) ?_
   refine LWp.nil ?_
   cases h
   exact ⟨_, rfl, rfl, rfl⟩
 intro j1 h E hE
 refine nt_wp hE ?_
 change Wp _ _ _ (i_Unsealed_H1 x1 j1) _
 refine Wp.c h (fun h => ?_) (fun h => ?_)
 · refine Wp.seq (Wp.region ?_)
   refine LWp.o 2 (Y (bs [])) ?_
   refine LWp.o 3 (B false) ?_
   refine LWp.nil ?_
   cases h
   exact Wp.ret ⟨.inr rfl, _, _, rfl, rfl⟩
 refine Wp.skip ?_
 refine Wp.seq (Wp.region ?_)
 refine LWp.o 27 (Y x1) ?_
 refine LWp.o 2 (Y x1) ?_
 refine LWp.o 3 (B true) ?_
 refine LWp.nil ?_
 cases h
 exact Wp.ret ⟨.inr rfl, _, _, rfl, rfl⟩
end Go.TI
