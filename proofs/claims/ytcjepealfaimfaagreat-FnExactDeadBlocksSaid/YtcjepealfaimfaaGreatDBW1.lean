/- That they compute it. No condition. -/
import Derived.Test.YtcjepealfaimfaaGreatDBW0
namespace Go.TI
set_option maxRecDepth 100000
open Go Go.Proofs
set_option linter.unusedVariables false
set_option linter.unusedSimpArgs false

def s_ArenaOk_H1 (xA : Arena) (z1 : Int) : St := mkSt [(1, (.one (.ptr (.box 1) 0 [] 0))), (3, (I z1))] [(.box 1, [.sl false 218 2 (encs (c218 false) xA.Knots)])]
def s_ArenaOk_H2  : St := mkSt [] []
def s_ArenaOk_H3 (xA : Arena) (yI1 : Int) (x1 : Knot) (z2 : Int) : St := mkSt [(1, (.one (.ptr (.box 1) 0 [] 0))), (3, (I yI1)), (4, (.one (.ptr (.box 4) 0 [] 0))), (5, (I z2))] [(.box 1, [.sl false 218 2 (encs (c218 false) xA.Knots)]), (.box 4, [.bool x1.Leaf, .sl false 3 1 (encs c3 x1.Kids)])]
def s_ArenaOk_H4 (xA : Arena) (yI1 : Int) : St := mkSt [(1, (.one (.ptr (.box 1) 0 [] 0))), (3, (I yI1))] [(.box 1, [.sl false 218 2 (encs (c218 false) xA.Knots)])]
def s_ArenaOk_H5 (xA : Arena) (yI1 : Int) (x1 : Knot) (yK1 : Int) (z3 : Bool) : St := mkSt [(1, (.one (.ptr (.box 1) 0 [] 0))), (3, (I yI1)), (4, (.one (.ptr (.box 4) 0 [] 0))), (5, (I yK1)), (62, (B z3))] [(.box 1, [.sl false 218 2 (encs (c218 false) xA.Knots)]), (.box 4, [.bool x1.Leaf, .sl false 3 1 (encs c3 x1.Kids)])]
theorem s_ArenaOk_t (xA : Arena) (r : Bool) (h : s_ArenaOk xA = some r) : Gives Tryz.prog 179 [.sv (.agg [.sl false 218 2 (encs (c218 false) xA.Knots)])] (B r) (List.replicate 1 .gone) := by
 unfold s_ArenaOk at h
 refine gives_of Tryz.func179 rfl ?_
 rw [Tryz.ntmps179]
 refine Wp.seq (Wp.region ?_)
 refine LWp.b [] 1 [.sl false 218 2 (encs (c218 false) xA.Knots)] ?_
 refine LWp.o 2 (B false) ?_
 refine LWp.nil ?_
 refine Wp.seq ?_
 refine Wp.seq (Wp.region ?_)
 refine LWp.o 3 (I 0) ?_
 refine LWp.nil ?_
 refine Wp.l2 h [1, 3] [.box 1] (fun s => (s_ArenaOk_H1 xA s)) [] [] (fun _ => s_ArenaOk_H2) ⟨rfl, rfl⟩ ?_ ?_
 · rintro yI1 o (h : s_ArenaOk_b1 xA yI1 = some o) hk1
   unfold s_ArenaOk_b1 at h
   change Wp _ _ _ (s_ArenaOk_H1 xA yI1) _
   refine Wp.seq ?_
   refine Wp.seq (Wp.region ?_)
   refine LWp.o 7 (I yI1) ?_
   refine LWp.o 8 (.one (.ptr (.box 1) 0 [] 0)) ?_
   refine LWp.o 9 (.one (.sl false 218 2 (encs (c218 false) xA.Knots))) ?_
   refine LWp.o 10 (I (ln xA.Knots)) ?_ (st_pure (p_ln (k218 false) xA.Knots))
   refine LWp.o 11 (B (decide (yI1 < (ln xA.Knots)))) ?_
   refine LWp.nil ?_
   refine Wp.c h (fun h => ?_) (fun h => ?_)
   · refine Wp.skip ?_
     refine Wp.seq ?_
     refine Wp.block ?_
     refine Wp.seq (Wp.region ?_)
     refine LWp.o 14 (.one (.ptr (.box 1) 0 [] 0)) ?_
     refine LWp.o 15 (.one (.sl false 218 2 (encs (c218 false) xA.Knots))) ?_
     refine LWp.o 16 (I yI1) ?_
     refine LWp.p h 17 (fun _ => (.one (.ptr (.slot 15) 1 [0] (Int.toNat yI1 * 2 + 0)))) ?_ (fun x1 gx1 => st_pure (p_ix (k218 false) (.slot 15) [] 0 gx1))
     intro x1 gx1 h
     refine LWp.o 18 (.agg [.bool x1.Leaf, .sl false 3 1 (encs c3 x1.Kids)]) ?_ (st_pure (p_le (k218 false) (.slot 15) [0] gx1))
     refine LWp.b [] 4 [.bool false, .sl true 3 1 (encs c3 [])] ?_
     refine LWp.sb [] (.box 4) [.bool x1.Leaf, .sl false 3 1 (encs c3 x1.Kids)] ?_
     refine LWp.nil ?_
     refine Wp.seq ?_
     refine Wp.seq (Wp.region ?_)
     refine LWp.o 19 (.one (.ptr (.box 4) 1 [] 1)) ?_
     refine LWp.o 20 (.one (.sl false 3 1 (encs c3 x1.Kids))) ?_
     refine LWp.o 21 (I (ln x1.Kids)) ?_ (st_pure (p_ln k3 x1.Kids))
     refine LWp.o 22 (B ((ln x1.Kids) != 4)) ?_
     refine LWp.nil ?_
     refine Wp.c h (fun h => ?_) (fun h => ?_)
     · refine Wp.seq (Wp.region ?_)
       refine LWp.o 2 (B false) ?_
       refine LWp.nil ?_
       cases h
       replace h : some _ = some _ := hk1 _ rfl
       cases h
       exact Wp.ret ⟨.inr rfl, _, _, rfl, rfl⟩
     refine Wp.skip ?_
     refine Wp.seq (Wp.region ?_)
     refine LWp.o 5 (I 0) ?_
     refine LWp.nil ?_
     refine Wp.l2 h [1, 3, 4, 5] [.box 1, .box 4] (fun s => (s_ArenaOk_H3 xA yI1 x1 s)) [1, 3] [.box 1] (fun _ => (s_ArenaOk_H4 xA yI1)) ⟨rfl, rfl⟩ ?_ ?_
     · rintro yK1 o (h : s_ArenaOk_b2 xA yI1 x1 yK1 = some o) hk2
       unfold s_ArenaOk_b2 at h
       change Wp _ _ _ (s_ArenaOk_H3 xA yI1 x1 yK1) _
       refine Wp.seq ?_
       refine Wp.seq (Wp.region ?_)
       refine LWp.o 23 (I yK1) ?_
       refine LWp.o 24 (B (decide (yK1 < 4))) ?_
       refine LWp.nil ?_
       refine Wp.c h (fun h => ?_) (fun h => ?_)
       · refine Wp.skip ?_
         refine Wp.seq ?_
         refine Wp.block ?_
         refine Wp.seq (Wp.region ?_)
         refine LWp.o 27 (.one (.ptr (.box 4) 0 [] 1)) ?_
         refine LWp.o 28 (.one (.sl false 3 1 (encs c3 x1.Kids))) ?_
         refine LWp.o 29 (I yK1) ?_
         refine LWp.p h 30 (fun _ => (.one (.ptr (.slot 28) 1 [0] (Int.toNat yK1 * 1 + 0)))) ?_ (fun x2 gx2 => st_pure (p_ix k3 (.slot 28) [] 0 gx2))
         intro x2 gx2 h
         refine LWp.o 31 (I x2) ?_ (st_pure (p_lc k3 (.slot 28) [0] 0 (.int .i64 x2) gx2))
         refine LWp.o 6 (I x2) ?_
         refine LWp.nil ?_
         refine Wp.seq ?_
         refine Wp.j1 h [1, 3, 4, 5, 62] [.box 1, .box 4] (fun a => (s_ArenaOk_H5 xA yI1 x1 yK1 a)) ?_ ?_
         · intro a h
           refine Wp.region ?_
           refine LWp.o 32 (.one (.ptr (.box 4) 0 [] 0)) ?_
           refine LWp.o 33 (B x1.Leaf) ?_
           refine LWp.o 34 (B x1.Leaf) ?_
           refine LWp.sp h 34 (fun h => ?_) (fun h => ?_)
           · refine LWp.o 35 (I x2) ?_
             refine LWp.o 36 (B (decide (x2 < 0))) ?_
             refine LWp.o 37 (B (decide (x2 < 0))) ?_
             refine LWp.o 38 (B (decide (x2 < 0))) ?_
             refine LWp.sp h 38 (fun h => ?_) (fun h => ?_)
             · refine LWp.sh 39 ?_
               refine LWp.sh 40 ?_
               refine LWp.sh 41 ?_
               refine LWp.sh 42 ?_
               refine LWp.sh 43 ?_
               refine LWp.sh 44 ?_
               refine LWp.sh 45 ?_
               refine LWp.sh 46 ?_
               refine LWp.sh 47 ?_
               refine LWp.sh 48 ?_
               refine LWp.sh 49 ?_
               refine LWp.sh 50 ?_
               refine LWp.sh 51 ?_
               refine LWp.sh 52 ?_
               refine LWp.sh 53 ?_
               refine LWp.sh 54 ?_
               refine LWp.sh 55 ?_
               refine LWp.sh 56 ?_
               refine LWp.sh 57 ?_
               refine LWp.sh 58 ?_
               refine LWp.sh 59 ?_
               refine LWp.sh 60 ?_
               refine LWp.sh 61 ?_
               refine LWp.o 62 (B true) ?_
               refine LWp.nil ?_
               cases h
               exact ⟨_, rfl, rfl, rfl⟩
             refine LWp.o 39 (.one (.ptr (.box 4) 0 [] 0)) ?_
             refine LWp.o 40 (B x1.Leaf) ?_
             refine LWp.o 41 (B (!x1.Leaf)) ?_
             refine LWp.o 42 (B (!x1.Leaf)) ?_
             refine LWp.sp h 42 (fun h => ?_) (fun h => ?_)
             · refine LWp.o 43 (I x2) ?_
               refine LWp.o 44 (B (x2 != (-1))) ?_
               refine LWp.o 45 (B (x2 != (-1))) ?_
               refine LWp.o 46 (B (x2 != (-1))) ?_
               refine LWp.sp h 46 (fun h => ?_) (fun h => ?_)
               · refine LWp.o 47 (I x2) ?_
                 refine LWp.o 48 (I yI1) ?_
                 refine LWp.o 49 (I (sb yI1 1)) ?_
                 refine LWp.cl h 50 (fun v1 => (B v1)) rfl (l := [.sv (.one (.int .i64 x2)), .sv (.one (.int .i64 0)), .sv (.one (.int .i64 (sb yI1 1)))]) rfl (fun v hv => s_l01In_t x2 0 (sb yI1 1) v hv) (.inl rfl) ?_
                 intro v1 gv1 h
                 refine LWp.o 51 (B (!v1)) ?_
                 refine LWp.o 52 (B (!v1)) ?_
                 refine LWp.sp h 52 (fun h => ?_) (fun h => ?_)
                 · refine LWp.sh 53 ?_
                   refine LWp.sh 54 ?_
                   refine LWp.sh 55 ?_
                   refine LWp.sh 56 ?_
                   refine LWp.sh 57 ?_
                   refine LWp.sh 58 ?_
                   refine LWp.sh 59 ?_
                   refine LWp.o 60 (B true) ?_
                   refine LWp.o 61 (B true) ?_
                   refine LWp.o 62 (B true) ?_
                   refine LWp.nil ?_
                   cases h
                   exact ⟨_, rfl, rfl, rfl⟩
                 refine LWp.o 53 (.one (.ptr (.box 1) 0 [] 0)) ?_
                 refine LWp.o 54 (.one (.sl false 218 2 (encs (c218 false) xA.Knots))) ?_
                 refine LWp.o 55 (I x2) ?_
                 refine LWp.p h 56 (fun _ => (.one (.ptr (.slot 54) 1 [0] (Int.toNat x2 * 2 + 0)))) ?_ (fun x3 gx3 => st_pure (p_ix (k218 false) (.slot 54) [] 0 gx3))
                 intro x3 gx3 h
                 refine LWp.o 57 (.one (.ptr (.slot 54) 1 [0] (Int.toNat x2 * 2 + 0))) ?_ (st_pure (p_fa (k218 false) (.slot 54) [0] 0 gx3))
                 refine LWp.o 58 (B x3.Leaf) ?_ (st_pure (p_lc (k218 false) (.slot 54) [0] 0 (.bool x3.Leaf) gx3))
                 refine LWp.o 59 (B (!x3.Leaf)) ?_
                 refine LWp.o 60 (B (!x3.Leaf)) ?_
                 refine LWp.o 61 (B (!x3.Leaf)) ?_
                 refine LWp.o 62 (B (!x3.Leaf)) ?_
                 refine LWp.nil ?_
                 cases h
                 exact ⟨_, rfl, rfl, rfl⟩
               refine LWp.sh 47 ?_
               refine LWp.sh 48 ?_
               refine LWp.sh 49 ?_
               refine LWp.sh 50 ?_
               refine LWp.sh 51 ?_
               refine LWp.sh 52 ?_
               refine LWp.sh 53 ?_
               refine LWp.sh 54 ?_
               refine LWp.sh 55 ?_
               refine LWp.sh 56 ?_
               refine LWp.sh 57 ?_
               refine LWp.sh 58 ?_
               refine LWp.sh 59 ?_
               refine LWp.sh 60 ?_
               refine LWp.o 61 (B false) ?_
               refine LWp.o 62 (B false) ?_
               refine LWp.nil ?_
               cases h
               exact ⟨_, rfl, rfl, rfl⟩
             refine LWp.sh 43 ?_
             refine LWp.sh 44 ?_
             refine LWp.o 45 (B false) ?_
             refine LWp.o 46 (B false) ?_
             refine LWp.sh 47 ?_
             refine LWp.sh 48 ?_
             refine LWp.sh 49 ?_
             refine LWp.sh 50 ?_
             refine LWp.sh 51 ?_
             refine LWp.sh 52 ?_
             refine LWp.sh 53 ?_
             refine LWp.sh 54 ?_
             refine LWp.sh 55 ?_
             refine LWp.sh 56 ?_
             refine LWp.sh 57 ?_
             refine LWp.sh 58 ?_
             refine LWp.sh 59 ?_
             refine LWp.sh 60 ?_
             refine LWp.o 61 (B false) ?_
             refine LWp.o 62 (B false) ?_
             refine LWp.nil ?_
             cases h
             exact ⟨_, rfl, rfl, rfl⟩
           refine LWp.sh 35 ?_
           refine LWp.sh 36 ?_
           refine LWp.o 37 (B false) ?_
           refine LWp.o 38 (B false) ?_
           refine LWp.o 39 (.one (.ptr (.box 4) 0 [] 0)) ?_
           refine LWp.o 40 (B x1.Leaf) ?_
           refine LWp.o 41 (B (!x1.Leaf)) ?_
           refine LWp.o 42 (B (!x1.Leaf)) ?_
           refine LWp.sp h 42 (fun h => ?_) (fun h => ?_)
           · refine LWp.o 43 (I x2) ?_
             refine LWp.o 44 (B (x2 != (-1))) ?_
             refine LWp.o 45 (B (x2 != (-1))) ?_
             refine LWp.o 46 (B (x2 != (-1))) ?_
             refine LWp.sp h 46 (fun h => ?_) (fun h => ?_)
             · refine LWp.o 47 (I x2) ?_
               refine LWp.o 48 (I yI1) ?_
               refine LWp.o 49 (I (sb yI1 1)) ?_
               refine LWp.cl h 50 (fun v2 => (B v2)) rfl (l := [.sv (.one (.int .i64 x2)), .sv (.one (.int .i64 0)), .sv (.one (.int .i64 (sb yI1 1)))]) rfl (fun v hv => s_l01In_t x2 0 (sb yI1 1) v hv) (.inl rfl) ?_
               intro v2 gv2 h
               refine LWp.o 51 (B (!v2)) ?_
               refine LWp.o 52 (B (!v2)) ?_
               refine LWp.sp h 52 (fun h => ?_) (fun h => ?_)
               · refine LWp.sh 53 ?_
                 refine LWp.sh 54 ?_
                 refine LWp.sh 55 ?_
                 refine LWp.sh 56 ?_
                 refine LWp.sh 57 ?_
                 refine LWp.sh 58 ?_
                 refine LWp.sh 59 ?_
                 refine LWp.o 60 (B true) ?_
                 refine LWp.o 61 (B true) ?_
                 refine LWp.o 62 (B true) ?_
                 refine LWp.nil ?_
                 cases h
                 exact ⟨_, rfl, rfl, rfl⟩
               refine LWp.o 53 (.one (.ptr (.box 1) 0 [] 0)) ?_
               refine LWp.o 54 (.one (.sl false 218 2 (encs (c218 false) xA.Knots))) ?_
               refine LWp.o 55 (I x2) ?_
               refine LWp.p h 56 (fun _ => (.one (.ptr (.slot 54) 1 [0] (Int.toNat x2 * 2 + 0)))) ?_ (fun x4 gx4 => st_pure (p_ix (k218 false) (.slot 54) [] 0 gx4))
               intro x4 gx4 h
               refine LWp.o 57 (.one (.ptr (.slot 54) 1 [0] (Int.toNat x2 * 2 + 0))) ?_ (st_pure (p_fa (k218 false) (.slot 54) [0] 0 gx4))
               refine LWp.o 58 (B x4.Leaf) ?_ (st_pure (p_lc (k218 false) (.slot 54) [0] 0 (.bool x4.Leaf) gx4))
               refine LWp.o 59 (B (!x4.Leaf)) ?_
               refine LWp.o 60 (B (!x4.Leaf)) ?_
               refine LWp.o 61 (B (!x4.Leaf)) ?_
               refine LWp.o 62 (B (!x4.Leaf)) ?_
               refine LWp.nil ?_
               cases h
               exact ⟨_, rfl, rfl, rfl⟩
             refine LWp.sh 47 ?_
             refine LWp.sh 48 ?_
             refine LWp.sh 49 ?_
             refine LWp.sh 50 ?_
             refine LWp.sh 51 ?_
             refine LWp.sh 52 ?_
             refine LWp.sh 53 ?_
             refine LWp.sh 54 ?_
             refine LWp.sh 55 ?_
             refine LWp.sh 56 ?_
             refine LWp.sh 57 ?_
             refine LWp.sh 58 ?_
             refine LWp.sh 59 ?_
             refine LWp.sh 60 ?_
             refine LWp.o 61 (B false) ?_
             refine LWp.o 62 (B false) ?_
             refine LWp.nil ?_
             cases h
             exact ⟨_, rfl, rfl, rfl⟩
           refine LWp.sh 43 ?_
           refine LWp.sh 44 ?_
           refine LWp.o 45 (B false) ?_
           refine LWp.o 46 (B false) ?_
           refine LWp.sh 47 ?_
           refine LWp.sh 48 ?_
           refine LWp.sh 49 ?_
           refine LWp.sh 50 ?_
           refine LWp.sh 51 ?_
           refine LWp.sh 52 ?_
           refine LWp.sh 53 ?_
           refine LWp.sh 54 ?_
           refine LWp.sh 55 ?_
           refine LWp.sh 56 ?_
           refine LWp.sh 57 ?_
           refine LWp.sh 58 ?_
           refine LWp.sh 59 ?_
           refine LWp.sh 60 ?_
           refine LWp.o 61 (B false) ?_
           refine LWp.o 62 (B false) ?_
           refine LWp.nil ?_
           cases h
           exact ⟨_, rfl, rfl, rfl⟩
         intro j1 h E hE
         refine nt_wp hE ?_
         change Wp _ _ _ (s_ArenaOk_H5 xA yI1 x1 yK1 j1) _
         refine Wp.c h (fun h => ?_) (fun h => ?_)
         · refine Wp.seq (Wp.region ?_)
           refine LWp.o 2 (B false) ?_
           refine LWp.nil ?_
           cases h
           replace h : some _ = some _ := hk2 _ rfl
           cases h
           replace h : some _ = some _ := hk1 _ rfl
           cases h
           exact Wp.ret ⟨.inr rfl, _, _, rfl, rfl⟩
         refine Wp.skip ?_
         refine Wp.region ?_
         refine LWp.o 25 (I yK1) ?_
         refine LWp.o 26 (I (ad yK1 1)) ?_
         refine LWp.o 5 (I (ad yK1 1)) ?_
         refine LWp.nil ?_
         cases h
         exact ⟨_, rfl, rfl, rfl⟩
       refine Wp.exit ?_
       cases h
       exact ⟨_, rfl, rfl, rfl⟩
     intro v3 h E hE
     refine nt_wp hE ?_
     change Wp _ _ _ (s_ArenaOk_H4 xA yI1) _
     refine Wp.region ?_
     refine LWp.o 12 (I yI1) ?_
     refine LWp.o 13 (I (ad yI1 1)) ?_
     refine LWp.o 3 (I (ad yI1 1)) ?_
     refine LWp.nil ?_
     cases h
     exact ⟨_, rfl, rfl, rfl⟩
   refine Wp.exit ?_
   cases h
   exact ⟨_, rfl, rfl, rfl⟩
 intro v4 h E hE
 refine nt_wp hE ?_
 change Wp _ _ _ s_ArenaOk_H2 _
 refine Wp.seq (Wp.region ?_)
 refine LWp.o 2 (B true) ?_
 refine LWp.nil ?_
 cases h
 exact Wp.ret ⟨.inr rfl, _, _, rfl, rfl⟩
theorem s_l11Root_t (xA : Arena) (xRoot : Int) (r : Bool) (h : s_l11Root xA xRoot = some r) : Gives Tryz.prog 180 [.sv (.agg [.sl false 218 2 (encs (c218 false) xA.Knots)]), .sv (I xRoot)] (B r) (List.replicate 2 .gone) := by
 unfold s_l11Root at h
 refine gives_of Tryz.func180 rfl ?_
 rw [Tryz.ntmps180]
 refine Wp.seq (Wp.region ?_)
 refine LWp.b [] 2 [.sl false 218 2 (encs (c218 false) xA.Knots)] ?_
 refine LWp.o 4 (B false) ?_
 refine LWp.nil ?_
 refine Wp.seq (Wp.region ?_)
 refine LWp.o 5 (I xRoot) ?_
 refine LWp.o 6 (B (xRoot == (-1))) ?_
 refine LWp.o 7 (B (xRoot == (-1))) ?_
 refine LWp.sp h 7 (fun h => ?_) (fun h => ?_)
 · refine LWp.sh 8 ?_
   refine LWp.sh 9 ?_
   refine LWp.sh 10 ?_
   refine LWp.sh 11 ?_
   refine LWp.sh 12 ?_
   refine LWp.sh 13 ?_
   refine LWp.sh 14 ?_
   refine LWp.sh 15 ?_
   refine LWp.sh 16 ?_
   refine LWp.sh 17 ?_
   refine LWp.sh 18 ?_
   refine LWp.sh 19 ?_
   refine LWp.sh 20 ?_
   refine LWp.sh 21 ?_
   refine LWp.sh 22 ?_
   refine LWp.o 23 (B true) ?_
   refine LWp.o 4 (B true) ?_
   refine LWp.nil ?_
   cases h
   exact Wp.ret ⟨.inr rfl, _, _, rfl, rfl⟩
 refine LWp.o 8 (I xRoot) ?_
 refine LWp.o 9 (.one (.ptr (.box 2) 1 [] 0)) ?_
 refine LWp.o 10 (.one (.sl false 218 2 (encs (c218 false) xA.Knots))) ?_
 refine LWp.o 11 (I (ln xA.Knots)) ?_ (st_pure (p_ln (k218 false) xA.Knots))
 refine LWp.o 12 (I (sb (ln xA.Knots) 1)) ?_
 refine LWp.cl h 13 (fun v1 => (B v1)) rfl (l := [.sv (.one (.int .i64 xRoot)), .sv (.one (.int .i64 0)), .sv (.one (.int .i64 (sb (ln xA.Knots) 1)))]) rfl (fun v hv => s_l01In_t xRoot 0 (sb (ln xA.Knots) 1) v hv) (.inl rfl) ?_
 intro v1 gv1 h
 refine LWp.o 14 (B v1) ?_
 refine LWp.sp h 14 (fun h => ?_) (fun h => ?_)
 · refine LWp.o 15 (.one (.ptr (.box 2) 1 [] 0)) ?_
   refine LWp.o 16 (.one (.sl false 218 2 (encs (c218 false) xA.Knots))) ?_
   refine LWp.o 17 (I xRoot) ?_
   refine LWp.p h 18 (fun _ => (.one (.ptr (.slot 16) 1 [0] (Int.toNat xRoot * 2 + 0)))) ?_ (fun x1 gx1 => st_pure (p_ix (k218 false) (.slot 16) [] 0 gx1))
   intro x1 gx1 h
   refine LWp.o 19 (.one (.ptr (.slot 16) 1 [0] (Int.toNat xRoot * 2 + 0))) ?_ (st_pure (p_fa (k218 false) (.slot 16) [0] 0 gx1))
   refine LWp.o 20 (B x1.Leaf) ?_ (st_pure (p_lc (k218 false) (.slot 16) [0] 0 (.bool x1.Leaf) gx1))
   refine LWp.o 21 (B (!x1.Leaf)) ?_
   refine LWp.o 22 (B (!x1.Leaf)) ?_
   refine LWp.o 23 (B (!x1.Leaf)) ?_
   refine LWp.o 4 (B (!x1.Leaf)) ?_
   refine LWp.nil ?_
   cases h
   exact Wp.ret ⟨.inr rfl, _, _, rfl, rfl⟩
 refine LWp.sh 15 ?_
 refine LWp.sh 16 ?_
 refine LWp.sh 17 ?_
 refine LWp.sh 18 ?_
 refine LWp.sh 19 ?_
 refine LWp.sh 20 ?_
 refine LWp.sh 21 ?_
 refine LWp.o 22 (B false) ?_
 refine LWp.o 23 (B false) ?_
 refine LWp.o 4 (B false) ?_
 refine LWp.nil ?_
 cases h
 exact Wp.ret ⟨.inr rfl, _, _, rfl, rfl⟩
theorem s_l11Get_t (xA : Arena) (xRoot : Int) (xSector : Int) (r : Int) (h : s_l11Get xA xRoot xSector = some r) : Gives Tryz.prog 181 [.sv (.agg [.sl false 218 2 (encs (c218 false) xA.Knots)]), .sv (I xRoot), .sv (I xSector)] (I r) (List.replicate 3 .gone) := by
 unfold s_l11Get at h
 refine gives_of Tryz.func181 rfl ?_
 rw [Tryz.ntmps181]
 refine Wp.seq (Wp.region ?_)
 refine LWp.b [] 3 [.sl false 218 2 (encs (c218 false) xA.Knots)] ?_
 refine LWp.o 6 (I 0) ?_
 refine LWp.nil ?_
 refine Wp.seq ?_
 refine Wp.seq (Wp.region ?_)
 refine LWp.o 8 (I xRoot) ?_
 refine LWp.o 9 (B (decide (xRoot < 0))) ?_
 refine LWp.nil ?_
 refine Wp.c h (fun h => ?_) (fun h => ?_)
 · refine Wp.seq (Wp.region ?_)
   refine LWp.o 6 (I 0) ?_
   refine LWp.nil ?_
   cases h
   exact Wp.ret ⟨.inr rfl, _, _, rfl, rfl⟩
 refine Wp.skip ?_
 refine Wp.seq (Wp.region ?_)
 refine LWp.o 10 (.one (.ptr (.box 3) 1 [] 0)) ?_
 refine LWp.o 11 (.one (.sl false 218 2 (encs (c218 false) xA.Knots))) ?_
 refine LWp.o 12 (I xRoot) ?_
 refine LWp.p h 13 (fun _ => (.one (.ptr (.slot 11) 1 [0] (Int.toNat xRoot * 2 + 0)))) ?_ (fun x1 gx1 => st_pure (p_ix (k218 false) (.slot 11) [] 0 gx1))
 intro x1 gx1 h
 refine LWp.o 14 (.one (.ptr (.slot 11) 1 [0] (Int.toNat xRoot * 2 + 1))) ?_ (st_pure (p_fa (k218 false) (.slot 11) [0] 0 gx1))
 refine LWp.o 15 (.one (.sl false 3 1 (encs c3 x1.Kids))) ?_ (st_pure (p_lc (k218 false) (.slot 11) [0] 1 (.sl false 3 1 (encs c3 x1.Kids)) gx1))
 refine LWp.o 16 (I xSector) ?_
 refine LWp.o 17 (I (qu xSector 4)) ?_
 refine LWp.p h 18 (fun _ => (.one (.ptr (.slot 15) 1 [0] (Int.toNat (qu xSector 4) * 1 + 0)))) ?_ (fun x2 gx2 => st_pure (p_ix k3 (.slot 15) [] 0 gx2))
 intro x2 gx2 h
 refine LWp.o 19 (I x2) ?_ (st_pure (p_lc k3 (.slot 15) [0] 0 (.int .i64 x2) gx2))
 refine LWp.o 7 (I x2) ?_
 refine LWp.nil ?_
 refine Wp.seq ?_
 refine Wp.seq (Wp.region ?_)
 refine LWp.o 20 (I x2) ?_
 refine LWp.o 21 (B (decide (x2 < 0))) ?_
 refine LWp.nil ?_
 refine Wp.c h (fun h => ?_) (fun h => ?_)
 · refine Wp.seq (Wp.region ?_)
   refine LWp.o 6 (I 0) ?_
   refine LWp.nil ?_
   cases h
   exact Wp.ret ⟨.inr rfl, _, _, rfl, rfl⟩
 refine Wp.skip ?_
 refine Wp.seq (Wp.region ?_)
 refine LWp.o 22 (.one (.ptr (.box 3) 1 [] 0)) ?_
 refine LWp.o 23 (.one (.sl false 218 2 (encs (c218 false) xA.Knots))) ?_
 refine LWp.o 24 (I x2) ?_
 refine LWp.p h 25 (fun _ => (.one (.ptr (.slot 23) 1 [0] (Int.toNat x2 * 2 + 0)))) ?_ (fun x3 gx3 => st_pure (p_ix (k218 false) (.slot 23) [] 0 gx3))
 intro x3 gx3 h
 refine LWp.o 26 (.one (.ptr (.slot 23) 1 [0] (Int.toNat x2 * 2 + 1))) ?_ (st_pure (p_fa (k218 false) (.slot 23) [0] 0 gx3))
 refine LWp.o 27 (.one (.sl false 3 1 (encs c3 x3.Kids))) ?_ (st_pure (p_lc (k218 false) (.slot 23) [0] 1 (.sl false 3 1 (encs c3 x3.Kids)) gx3))
 refine LWp.o 28 (I xSector) ?_
 refine LWp.o 29 (I (Int.tmod xSector 4)) ?_
 refine LWp.p h 30 (fun _ => (.one (.ptr (.slot 27) 1 [0] (Int.toNat (Int.tmod xSector 4) * 1 + 0)))) ?_ (fun x4 gx4 => st_pure (p_ix k3 (.slot 27) [] 0 gx4))
 intro x4 gx4 h
 refine LWp.o 31 (I x4) ?_ (st_pure (p_lc k3 (.slot 27) [0] 0 (.int .i64 x4) gx4))
 refine LWp.o 6 (I x4) ?_
 refine LWp.nil ?_
 cases h
 exact Wp.ret ⟨.inr rfl, _, _, rfl, rfl⟩
def s_GetAt_H1 (xA : Arena) (xRoot : Int) (xSector : Int) (z1 : Bool) : St := mkSt [(1, (I xRoot)), (2, (I xSector)), (3, (.one (.ptr (.box 3) 0 [] 0))), (20, (B z1))] [(.box 3, [.sl false 218 2 (encs (c218 false) xA.Knots)])]
theorem s_GetAt_t (xA : Arena) (xRoot : Int) (xSector : Int) (r : Int) (h : s_GetAt xA xRoot xSector = some r) : Gives Tryz.prog 150 [.sv (.agg [.sl false 218 2 (encs (c218 false) xA.Knots)]), .sv (I xRoot), .sv (I xSector)] (I r) (List.replicate 3 .gone) := by
 unfold s_GetAt at h
 refine gives_of Tryz.func150 rfl ?_
 rw [Tryz.ntmps150]
 refine Wp.seq (Wp.region ?_)
 refine LWp.b [] 3 [.sl false 218 2 (encs (c218 false) xA.Knots)] ?_
 refine LWp.o 6 (I 0) ?_
 refine LWp.nil ?_
 refine Wp.seq ?_
 refine Wp.seq ?_
 refine Wp.j1 h [1, 2, 3, 20] [.box 3] (fun a => (s_GetAt_H1 xA xRoot xSector a)) ?_ ?_
 · intro a h
   refine Wp.region ?_
   refine LWp.o 7 (.agg [.sl false 218 2 (encs (c218 false) xA.Knots)]) ?_
   refine LWp.cl h 8 (fun v1 => (B v1)) rfl (l := [.sv (.agg [.sl false 218 2 (encs (c218 false) xA.Knots)])]) rfl (fun v hv => s_ArenaOk_t xA v hv) (.inl rfl) ?_
   intro v1 gv1 h
   refine LWp.o 9 (B (!v1)) ?_
   refine LWp.o 10 (B (!v1)) ?_
   refine LWp.sp h 10 (fun h => ?_) (fun h => ?_)
   · refine LWp.sh 11 ?_
     refine LWp.sh 12 ?_
     refine LWp.sh 13 ?_
     refine LWp.sh 14 ?_
     refine LWp.o 15 (B true) ?_
     refine LWp.o 16 (B true) ?_
     refine LWp.sh 17 ?_
     refine LWp.sh 18 ?_
     refine LWp.sh 19 ?_
     refine LWp.o 20 (B true) ?_
     refine LWp.nil ?_
     cases h
     exact ⟨_, rfl, rfl, rfl⟩
   refine LWp.o 11 (.agg [.sl false 218 2 (encs (c218 false) xA.Knots)]) ?_
   refine LWp.o 12 (I xRoot) ?_
   refine LWp.cl h 13 (fun v2 => (B v2)) rfl (l := [.sv (.agg [.sl false 218 2 (encs (c218 false) xA.Knots)]), .sv (.one (.int .i64 xRoot))]) rfl (fun v hv => s_l11Root_t xA xRoot v hv) (.inl rfl) ?_
   intro v2 gv2 h
   refine LWp.o 14 (B (!v2)) ?_
   refine LWp.o 15 (B (!v2)) ?_
   refine LWp.o 16 (B (!v2)) ?_
   refine LWp.sp h 16 (fun h => ?_) (fun h => ?_)
   · refine LWp.sh 17 ?_
     refine LWp.sh 18 ?_
     refine LWp.sh 19 ?_
     refine LWp.o 20 (B true) ?_
     refine LWp.nil ?_
     cases h
     exact ⟨_, rfl, rfl, rfl⟩
   refine LWp.o 17 (I xSector) ?_
   refine LWp.cl h 18 (fun v3 => (B v3)) rfl (l := [.sv (.one (.int .i64 xSector)), .sv (.one (.int .i64 0)), .sv (.one (.int .i64 15))]) rfl (fun v hv => s_l01In_t xSector 0 15 v hv) (.inl rfl) ?_
   intro v3 gv3 h
   refine LWp.o 19 (B (!v3)) ?_
   refine LWp.o 20 (B (!v3)) ?_
   refine LWp.nil ?_
   cases h
   exact ⟨_, rfl, rfl, rfl⟩
 intro j1 h E hE
 refine nt_wp hE ?_
 change Wp _ _ _ (s_GetAt_H1 xA xRoot xSector j1) _
 refine Wp.c h (fun h => ?_) (fun h => ?_)
 · refine Wp.seq (Wp.region ?_)
   refine LWp.o 6 (I 0) ?_
   refine LWp.nil ?_
   cases h
   exact Wp.ret ⟨.inr rfl, _, _, rfl, rfl⟩
 refine Wp.skip ?_
 refine Wp.seq (Wp.region ?_)
 refine LWp.o 21 (.agg [.sl false 218 2 (encs (c218 false) xA.Knots)]) ?_
 refine LWp.o 22 (I xRoot) ?_
 refine LWp.o 23 (I xSector) ?_
 refine LWp.cl h 24 (fun v4 => (I v4)) rfl (l := [.sv (.agg [.sl false 218 2 (encs (c218 false) xA.Knots)]), .sv (.one (.int .i64 xRoot)), .sv (.one (.int .i64 xSector))]) rfl (fun v hv => s_l11Get_t xA xRoot xSector v hv) (.inl rfl) ?_
 intro v4 gv4 h
 refine LWp.o 6 (I v4) ?_
 refine LWp.nil ?_
 cases h
 exact Wp.ret ⟨.inr rfl, _, _, rfl, rfl⟩
def s_AllAt_H1 (xA : Arena) (xRoot : Int) (z1 : List Int) (z2 : Int) : St := mkSt [(1, (I xRoot)), (2, (.one (.ptr (.box 2) 0 [] 0))), (5, (.one (.sl true 3 1 (encs c3 z1)))), (6, (I z2))] [(.box 2, [.sl false 218 2 (encs (c218 false) xA.Knots)])]
def s_AllAt_H2 (z3 : List Int) : St := mkSt [(5, (.one (.sl true 3 1 (encs c3 z3))))] []
theorem s_AllAt_t (xA : Arena) (xRoot : Int) (r : List Int) (h : s_AllAt xA xRoot = some r) : Gives Tryz.prog 99 [.sv (.agg [.sl false 218 2 (encs (c218 false) xA.Knots)]), .sv (I xRoot)] (.one (.sl true 3 1 (encs c3 r))) (List.replicate 2 .gone) := by
 unfold s_AllAt at h
 refine gives_of Tryz.func99 rfl ?_
 rw [Tryz.ntmps99]
 refine Wp.seq (Wp.region ?_)
 refine LWp.b [] 2 [.sl false 218 2 (encs (c218 false) xA.Knots)] ?_
 refine LWp.o 4 (.one (.sl true 3 1 (encs c3 []))) ?_
 refine LWp.nil ?_
 refine Wp.seq (Wp.region ?_)
 refine LWp.m false [] 7 (.one (.sl true 3 1 (encs c3 []))) ?_
 refine LWp.m true [(.slot 7, [.junk])] 5 (.one (.sl true 3 1 (encs c3 []))) ?_
 refine LWp.nil ?_
 refine Wp.seq ?_
 refine Wp.seq (Wp.region ?_)
 refine LWp.o 6 (I 0) ?_
 refine LWp.nil ?_
 refine Wp.l1 h [1, 2, 5, 6] [.box 2] (fun s => (s_AllAt_H1 xA xRoot s.1 s.2)) [5] [] (fun s => (s_AllAt_H2 s)) ⟨rfl, rfl⟩ ?_ ?_
 · rintro ⟨yOut1, yS1⟩ o (h : s_AllAt_b1 xA xRoot yOut1 yS1 = some o)
   unfold s_AllAt_b1 at h
   change Wp _ _ _ (s_AllAt_H1 xA xRoot yOut1 yS1) _
   refine Wp.seq ?_
   refine Wp.seq (Wp.region ?_)
   refine LWp.o 8 (I yS1) ?_
   refine LWp.o 9 (B (decide (yS1 < 16))) ?_
   refine LWp.nil ?_
   refine Wp.c h (fun h => ?_) (fun h => ?_)
   · refine Wp.skip ?_
     refine Wp.seq ?_
     refine Wp.block ?_
     refine Wp.region ?_
     refine LWp.o 12 (.one (.view (.slot 5) 0 [] 0)) ?_
     refine LWp.o 13 (.agg [.sl false 218 2 (encs (c218 false) xA.Knots)]) ?_
     refine LWp.o 14 (I xRoot) ?_
     refine LWp.o 15 (I yS1) ?_
     refine LWp.cl h 16 (fun v1 => (I v1)) rfl (l := [.sv (.agg [.sl false 218 2 (encs (c218 false) xA.Knots)]), .sv (.one (.int .i64 xRoot)), .sv (.one (.int .i64 yS1))]) rfl (fun v hv => s_GetAt_t xA xRoot yS1 v hv) (.inl rfl) ?_
     intro v1 gv1 h
     refine LWp.m false [] 17 (.one (.sl true 3 1 (encs c3 [v1]))) ?_
     refine LWp.pm h [(.slot 5, [.junk])] 18 (fun q1 => (.one (.sl true 3 1 (encs c3 q1)))) ?_ (fun q1 gq1 => s_apl k3 (fun _ => rfl) [(.slot 5, [.junk])] yOut1 gq1)
     intro q1 gq1 h
     refine LWp.m true [(.slot 18, [.junk])] 5 (.one (.sl true 3 1 (encs c3 q1))) ?_
     refine LWp.nil ?_
     refine Wp.region ?_
     refine LWp.o 10 (I yS1) ?_
     refine LWp.o 11 (I (ad yS1 1)) ?_
     refine LWp.o 6 (I (ad yS1 1)) ?_
     refine LWp.nil ?_
     cases h
     exact ⟨_, rfl, rfl, rfl⟩
   refine Wp.exit ?_
   cases h
   exact ⟨_, rfl, rfl, rfl⟩
 intro v2 h E hE
 refine nt_wp hE ?_
 change Wp _ _ _ (s_AllAt_H2 v2) _
 refine Wp.seq (Wp.region ?_)
 refine LWp.o 19 (.one (.view (.slot 5) 0 [] 0)) ?_
 refine LWp.m true [(.slot 5, [.junk])] 4 (.one (.sl true 3 1 (encs c3 v2))) ?_
 refine LWp.nil ?_
 cases h
 exact Wp.ret ⟨.inr rfl, _, _, rfl, rfl⟩
def s_l12Insert_H1 (xList : List Int) (xX : Int) (z1 : List Int) (z2 : Int) : St := mkSt [(0, (.one (.sl false 3 1 (encs c3 xList)))), (1, (I xX)), (5, (.one (.sl true 3 1 (encs c3 z1)))), (6, (I z2))] []
def s_l12Insert_H2 (xList : List Int) (xX : Int) (z3 : List Int) : St := mkSt [(0, (.one (.sl false 3 1 (encs c3 xList)))), (1, (I xX)), (5, (.one (.sl true 3 1 (encs c3 z3))))] []
def s_l12Insert_H3 (xList : List Int) (xX : Int) (z4 : List Int) : St := mkSt [(0, (.one (.sl false 3 1 (encs c3 xList)))), (1, (I xX)), (5, (.one (.sl true 3 1 (encs c3 z4))))] []
def s_l12Insert_H4 (xList : List Int) (xX : Int) (z5 : List Int) (z6 : Int) : St := mkSt [(0, (.one (.sl false 3 1 (encs c3 xList)))), (1, (I xX)), (5, (.one (.sl true 3 1 (encs c3 z5)))), (7, (I z6))] []
def s_l12Insert_H5 (z7 : List Int) : St := mkSt [(5, (.one (.sl true 3 1 (encs c3 z7))))] []
theorem s_l12Insert_t (xList : List Int) (xX : Int) (r : List Int) (h : s_l12Insert xList xX = some r) : Gives Tryz.prog 109 [.sv (.one (.sl false 3 1 (encs c3 xList))), .sv (I xX)] (.one (.sl true 3 1 (encs c3 r))) (List.replicate 2 .gone) := by
 unfold s_l12Insert at h
 refine gives_of Tryz.func109 rfl ?_
 rw [Tryz.ntmps109]
 refine Wp.seq (Wp.region ?_)
 refine LWp.o 4 (.one (.sl true 3 1 (encs c3 []))) ?_
 refine LWp.nil ?_
 refine Wp.seq (Wp.region ?_)
 refine LWp.m false [] 8 (.one (.sl true 3 1 (encs c3 []))) ?_
 refine LWp.m true [(.slot 8, [.junk])] 5 (.one (.sl true 3 1 (encs c3 []))) ?_
 refine LWp.nil ?_
 refine Wp.seq ?_
 refine Wp.seq (Wp.region ?_)
 refine LWp.o 6 (I 0) ?_
 refine LWp.nil ?_
 refine Wp.l1 h [0, 1, 5, 6] [] (fun s => (s_l12Insert_H1 xList xX s.1 s.2)) [0, 1, 5] [] (fun s => (s_l12Insert_H2 xList xX s)) ⟨rfl, rfl⟩ ?_ ?_
 · rintro ⟨yOut1, yI1⟩ o (h : s_l12Insert_b1 xList xX yOut1 yI1 = some o)
   unfold s_l12Insert_b1 at h
   change Wp _ _ _ (s_l12Insert_H1 xList xX yOut1 yI1) _
   refine Wp.seq ?_
   refine Wp.seq (Wp.region ?_)
   refine LWp.o 9 (I yI1) ?_
   refine LWp.o 10 (.one (.sl false 3 1 (encs c3 xList))) ?_
   refine LWp.o 11 (I (ln xList)) ?_ (st_pure (p_ln k3 xList))
   refine LWp.o 12 (B (decide (yI1 < (ln xList)))) ?_
   refine LWp.nil ?_
   refine Wp.c h (fun h => ?_) (fun h => ?_)
   · refine Wp.skip ?_
     refine Wp.seq ?_
     refine Wp.block ?_
     refine Wp.seq (Wp.region ?_)
     refine LWp.o 15 (.one (.sl false 3 1 (encs c3 xList))) ?_
     refine LWp.o 16 (I yI1) ?_
     refine LWp.p h 17 (fun _ => (.one (.ptr (.slot 15) 1 [0] (Int.toNat yI1 * 1 + 0)))) ?_ (fun x1 gx1 => st_pure (p_ix k3 (.slot 15) [] 0 gx1))
     intro x1 gx1 h
     refine LWp.o 18 (I x1) ?_ (st_pure (p_lc k3 (.slot 15) [0] 0 (.int .i64 x1) gx1))
     refine LWp.o 19 (I xX) ?_
     refine LWp.o 20 (B (decide (x1 < xX))) ?_
     refine LWp.nil ?_
     refine Wp.c h (fun h => ?_) (fun h => ?_)
     · refine Wp.region ?_
       refine LWp.o 21 (.one (.view (.slot 5) 0 [] 0)) ?_
       refine LWp.o 22 (.one (.sl false 3 1 (encs c3 xList))) ?_
       refine LWp.o 23 (I yI1) ?_
       refine LWp.p h 24 (fun _ => (.one (.ptr (.slot 22) 1 [0] (Int.toNat yI1 * 1 + 0)))) ?_ (fun x2 gx2 => st_pure (p_ix k3 (.slot 22) [] 0 gx2))
       intro x2 gx2 h
       refine LWp.o 25 (I x2) ?_ (st_pure (p_lc k3 (.slot 22) [0] 0 (.int .i64 x2) gx2))
       refine LWp.m false [] 26 (.one (.sl true 3 1 (encs c3 [x2]))) ?_
       refine LWp.pm h [(.slot 5, [.junk])] 27 (fun q1 => (.one (.sl true 3 1 (encs c3 q1)))) ?_ (fun q1 gq1 => s_apl k3 (fun _ => rfl) [(.slot 5, [.junk])] yOut1 gq1)
       intro q1 gq1 h
       refine LWp.m true [(.slot 27, [.junk])] 5 (.one (.sl true 3 1 (encs c3 q1))) ?_
       refine LWp.nil ?_
       refine Wp.region ?_
       refine LWp.o 13 (I yI1) ?_
       refine LWp.o 14 (I (ad yI1 1)) ?_
       refine LWp.o 6 (I (ad yI1 1)) ?_
       refine LWp.nil ?_
       cases h
       exact ⟨_, rfl, rfl, rfl⟩
     refine Wp.skip ?_
     refine Wp.region ?_
     refine LWp.o 13 (I yI1) ?_
     refine LWp.o 14 (I (ad yI1 1)) ?_
     refine LWp.o 6 (I (ad yI1 1)) ?_
     refine LWp.nil ?_
     cases h
     exact ⟨_, rfl, rfl, rfl⟩
   refine Wp.exit ?_
   cases h
   exact ⟨_, rfl, rfl, rfl⟩
 intro v1 h E hE
 refine nt_wp hE ?_
 change Wp _ _ _ (s_l12Insert_H2 xList xX v1) _
 refine Wp.seq ?_
 refine Wp.seq (Wp.region ?_)
 refine LWp.o 28 (I xX) ?_
 refine LWp.o 29 (B (decide (xX > 0))) ?_
 refine LWp.nil ?_
 refine Wp.j1 h [0, 1, 5] [] (fun a => (s_l12Insert_H3 xList xX a)) ?_ ?_
 · intro a h
   refine Wp.c h (fun h => ?_) (fun h => ?_)
   · refine Wp.region ?_
     refine LWp.o 30 (.one (.view (.slot 5) 0 [] 0)) ?_
     refine LWp.o 31 (I xX) ?_
     refine LWp.m false [] 32 (.one (.sl true 3 1 (encs c3 [xX]))) ?_
     refine LWp.pm h [(.slot 5, [.junk])] 33 (fun q2 => (.one (.sl true 3 1 (encs c3 q2)))) ?_ (fun q2 gq2 => s_apl k3 (fun _ => rfl) [(.slot 5, [.junk])] v1 gq2)
     intro q2 gq2 h
     refine LWp.m true [(.slot 33, [.junk])] 5 (.one (.sl true 3 1 (encs c3 q2))) ?_
     refine LWp.nil ?_
     cases h
     exact ⟨_, rfl, rfl, rfl⟩
   refine Wp.skip ?_
   cases h
   exact ⟨_, rfl, rfl, rfl⟩
 intro j1 h E hE
 refine nt_wp hE ?_
 change Wp _ _ _ (s_l12Insert_H3 xList xX j1) _
 refine Wp.seq ?_
 refine Wp.seq (Wp.region ?_)
 refine LWp.o 7 (I 0) ?_
 refine LWp.nil ?_
 refine Wp.l1 h [0, 1, 5, 7] [] (fun s => (s_l12Insert_H4 xList xX s.1 s.2)) [5] [] (fun s => (s_l12Insert_H5 s)) ⟨rfl, rfl⟩ ?_ ?_
 · rintro ⟨yOut2, yI2⟩ o (h : s_l12Insert_b2 xList xX yOut2 yI2 = some o)
   unfold s_l12Insert_b2 at h
   change Wp _ _ _ (s_l12Insert_H4 xList xX yOut2 yI2) _
   refine Wp.seq ?_
   refine Wp.seq (Wp.region ?_)
   refine LWp.o 34 (I yI2) ?_
   refine LWp.o 35 (.one (.sl false 3 1 (encs c3 xList))) ?_
   refine LWp.o 36 (I (ln xList)) ?_ (st_pure (p_ln k3 xList))
   refine LWp.o 37 (B (decide (yI2 < (ln xList)))) ?_
   refine LWp.nil ?_
   refine Wp.c h (fun h => ?_) (fun h => ?_)
   · refine Wp.skip ?_
     refine Wp.seq ?_
     refine Wp.block ?_
     refine Wp.seq (Wp.region ?_)
     refine LWp.o 40 (.one (.sl false 3 1 (encs c3 xList))) ?_
     refine LWp.o 41 (I yI2) ?_
     refine LWp.p h 42 (fun _ => (.one (.ptr (.slot 40) 1 [0] (Int.toNat yI2 * 1 + 0)))) ?_ (fun x3 gx3 => st_pure (p_ix k3 (.slot 40) [] 0 gx3))
     intro x3 gx3 h
     refine LWp.o 43 (I x3) ?_ (st_pure (p_lc k3 (.slot 40) [0] 0 (.int .i64 x3) gx3))
     refine LWp.o 44 (I xX) ?_
     refine LWp.o 45 (B (decide (x3 > xX))) ?_
     refine LWp.nil ?_
     refine Wp.c h (fun h => ?_) (fun h => ?_)
     · refine Wp.region ?_
       refine LWp.o 46 (.one (.view (.slot 5) 0 [] 0)) ?_
       refine LWp.o 47 (.one (.sl false 3 1 (encs c3 xList))) ?_
       refine LWp.o 48 (I yI2) ?_
       refine LWp.p h 49 (fun _ => (.one (.ptr (.slot 47) 1 [0] (Int.toNat yI2 * 1 + 0)))) ?_ (fun x4 gx4 => st_pure (p_ix k3 (.slot 47) [] 0 gx4))
       intro x4 gx4 h
       refine LWp.o 50 (I x4) ?_ (st_pure (p_lc k3 (.slot 47) [0] 0 (.int .i64 x4) gx4))
       refine LWp.m false [] 51 (.one (.sl true 3 1 (encs c3 [x4]))) ?_
       refine LWp.pm h [(.slot 5, [.junk])] 52 (fun q3 => (.one (.sl true 3 1 (encs c3 q3)))) ?_ (fun q3 gq3 => s_apl k3 (fun _ => rfl) [(.slot 5, [.junk])] yOut2 gq3)
       intro q3 gq3 h
       refine LWp.m true [(.slot 52, [.junk])] 5 (.one (.sl true 3 1 (encs c3 q3))) ?_
       refine LWp.nil ?_
       refine Wp.region ?_
       refine LWp.o 38 (I yI2) ?_
       refine LWp.o 39 (I (ad yI2 1)) ?_
       refine LWp.o 7 (I (ad yI2 1)) ?_
       refine LWp.nil ?_
       cases h
       exact ⟨_, rfl, rfl, rfl⟩
     refine Wp.skip ?_
     refine Wp.region ?_
     refine LWp.o 38 (I yI2) ?_
     refine LWp.o 39 (I (ad yI2 1)) ?_
     refine LWp.o 7 (I (ad yI2 1)) ?_
     refine LWp.nil ?_
     cases h
     exact ⟨_, rfl, rfl, rfl⟩
   refine Wp.exit ?_
   cases h
   exact ⟨_, rfl, rfl, rfl⟩
 intro v2 h E hE
 refine nt_wp hE ?_
 change Wp _ _ _ (s_l12Insert_H5 v2) _
 refine Wp.seq (Wp.region ?_)
 refine LWp.o 53 (.one (.view (.slot 5) 0 [] 0)) ?_
 refine LWp.m true [(.slot 5, [.junk])] 4 (.one (.sl true 3 1 (encs c3 v2))) ?_
 refine LWp.nil ?_
 cases h
 exact Wp.ret ⟨.inr rfl, _, _, rfl, rfl⟩
def s_LiveOf_H1 (xS : Store) (z1 : List Int) (z2 : Int) : St := mkSt [(1, (.one (.ptr (.box 1) 0 [] 0))), (3, (.one (.sl true 3 1 (encs c3 z1)))), (4, (I z2))] [(.box 1, [.sl false 110 2 (encs c110 xS.Vols), .sl false 218 2 (encs (c218 false) xS.Arena.Knots), .int .i64 xS.Next])]
def s_LiveOf_H2 (z3 : List Int) : St := mkSt [(3, (.one (.sl true 3 1 (encs c3 z3))))] []
def s_LiveOf_H3 (xS : Store) (yI1 : Int) (v1 : List Int) (z4 : List Int) (z5 : Int) : St := mkSt [(1, (.one (.ptr (.box 1) 0 [] 0))), (3, (.one (.sl true 3 1 (encs c3 z4)))), (4, (I yI1)), (5, (.one (.sl true 3 1 (encs c3 v1)))), (6, (I z5))] [(.box 1, [.sl false 110 2 (encs c110 xS.Vols), .sl false 218 2 (encs (c218 false) xS.Arena.Knots), .int .i64 xS.Next])]
def s_LiveOf_H4 (xS : Store) (yI1 : Int) (z6 : List Int) : St := mkSt [(1, (.one (.ptr (.box 1) 0 [] 0))), (3, (.one (.sl true 3 1 (encs c3 z6)))), (4, (I yI1))] [(.box 1, [.sl false 110 2 (encs c110 xS.Vols), .sl false 218 2 (encs (c218 false) xS.Arena.Knots), .int .i64 xS.Next])]
theorem s_LiveOf_t (xS : Store) (r : List Int) (h : s_LiveOf xS = some r) : Gives Tryz.prog 63 [.sv (.agg [.sl false 110 2 (encs c110 xS.Vols), .sl false 218 2 (encs (c218 false) xS.Arena.Knots), .int .i64 xS.Next])] (.one (.sl true 3 1 (encs c3 r))) (List.replicate 1 .gone) := by
 unfold s_LiveOf at h
 refine gives_of Tryz.func63 rfl ?_
 rw [Tryz.ntmps63]
 refine Wp.seq (Wp.region ?_)
 refine LWp.b [] 1 [.sl false 110 2 (encs c110 xS.Vols), .sl false 218 2 (encs (c218 false) xS.Arena.Knots), .int .i64 xS.Next] ?_
 refine LWp.o 2 (.one (.sl true 3 1 (encs c3 []))) ?_
 refine LWp.nil ?_
 refine Wp.seq (Wp.region ?_)
 refine LWp.m false [] 7 (.one (.sl true 3 1 (encs c3 []))) ?_
 refine LWp.m true [(.slot 7, [.junk])] 3 (.one (.sl true 3 1 (encs c3 []))) ?_
 refine LWp.nil ?_
 refine Wp.seq ?_
 refine Wp.seq (Wp.region ?_)
 refine LWp.o 4 (I 0) ?_
 refine LWp.nil ?_
 refine Wp.l1 h [1, 3, 4] [.box 1] (fun s => (s_LiveOf_H1 xS s.1 s.2)) [3] [] (fun s => (s_LiveOf_H2 s)) ⟨rfl, rfl⟩ ?_ ?_
 · rintro ⟨yOut1, yI1⟩ o (h : s_LiveOf_b1 xS yOut1 yI1 = some o)
   unfold s_LiveOf_b1 at h
   change Wp _ _ _ (s_LiveOf_H1 xS yOut1 yI1) _
   refine Wp.seq ?_
   refine Wp.seq (Wp.region ?_)
   refine LWp.o 8 (I yI1) ?_
   refine LWp.o 9 (.one (.ptr (.box 1) 0 [] 0)) ?_
   refine LWp.o 10 (.one (.sl false 110 2 (encs c110 xS.Vols))) ?_
   refine LWp.o 11 (I (ln xS.Vols)) ?_ (st_pure (p_ln k110 xS.Vols))
   refine LWp.o 12 (B (decide (yI1 < (ln xS.Vols)))) ?_
   refine LWp.nil ?_
   refine Wp.c h (fun h => ?_) (fun h => ?_)
   · refine Wp.skip ?_
     refine Wp.seq ?_
     refine Wp.block ?_
     refine Wp.seq ?_
     refine Wp.regionT 8 mixed (by decide +kernel) ?_
     refine SWp.o 15 (.one (.ptr (.box 1) 0 [] 1)) ?_
     refine SWp.o 16 (.agg [.sl false 218 2 (encs (c218 false) xS.Arena.Knots)]) ?_
     refine SWp.o 17 (.one (.ptr (.box 1) 0 [] 0)) ?_
     refine SWp.o 18 (.one (.sl false 110 2 (encs c110 xS.Vols))) ?_
     refine SWp.o 19 (I yI1) ?_
     refine SWp.p h 20 (fun _ => (.one (.ptr (.slot 18) 1 [0] (Int.toNat yI1 * 2 + 0)))) ?_ (fun x1 gx1 => sl_pure (p_ix k110 (.slot 18) [] 0 gx1))
     intro x1 gx1 h
     refine SWp.o 21 (.one (.ptr (.slot 18) 1 [0] (Int.toNat yI1 * 2 + 1))) ?_ (sl_pure (p_fa k110 (.slot 18) [0] 0 gx1))
     refine SWp.o 22 (I x1.Root) ?_ (sl_pure (p_lc k110 (.slot 18) [0] 1 (.int .i64 x1.Root) gx1))
     refine SWp.nil ?_
     refine LWp.cl h 23 (fun v1 => (.one (.sl true 3 1 (encs c3 v1)))) rfl (l := [.sv (.agg [.sl false 218 2 (encs (c218 false) xS.Arena.Knots)]), .sv (.one (.int .i64 x1.Root))]) rfl (fun v hv => s_AllAt_t xS.Arena x1.Root v hv) (.inl rfl) ?_
     intro v1 gv1 h
     refine LWp.m true [(.slot 23, [.junk])] 5 (.one (.sl true 3 1 (encs c3 v1))) ?_
     refine LWp.nil ?_
     refine Wp.seq (Wp.region ?_)
     refine LWp.o 6 (I 0) ?_
     refine LWp.nil ?_
     refine Wp.l1 h [1, 3, 4, 5, 6] [.box 1] (fun s => (s_LiveOf_H3 xS yI1 v1 s.1 s.2)) [1, 3, 4] [.box 1] (fun s => (s_LiveOf_H4 xS yI1 s)) ⟨rfl, rfl⟩ ?_ ?_
     · rintro ⟨yOut2, yK1⟩ o (h : s_LiveOf_b2 v1 yOut2 yK1 = some o)
       unfold s_LiveOf_b2 at h
       change Wp _ _ _ (s_LiveOf_H3 xS yI1 v1 yOut2 yK1) _
       refine Wp.seq ?_
       refine Wp.seq (Wp.region ?_)
       refine LWp.o 24 (I yK1) ?_
       refine LWp.o 25 (.one (.view (.slot 5) 0 [] 0)) ?_
       refine LWp.o 26 (I (ln v1)) ?_ (st_pure (p_ln k3 v1))
       refine LWp.o 27 (B (decide (yK1 < (ln v1)))) ?_
       refine LWp.nil ?_
       refine Wp.c h (fun h => ?_) (fun h => ?_)
       · refine Wp.skip ?_
         refine Wp.seq ?_
         refine Wp.block ?_
         refine Wp.region ?_
         refine LWp.o 30 (.one (.view (.slot 3) 0 [] 0)) ?_
         refine LWp.o 31 (.one (.view (.slot 5) 0 [] 0)) ?_
         refine LWp.o 32 (I yK1) ?_
         refine LWp.p h 33 (fun _ => (.one (.ptr (.slot 5) 0 [0] (Int.toNat yK1 * 1 + 0)))) ?_ (fun x2 gx2 => st_pure (p_ix k3 (.slot 5) [] 0 gx2))
         intro x2 gx2 h
         refine LWp.o 34 (I x2) ?_ (st_pure (p_lc k3 (.slot 5) [0] 0 (.int .i64 x2) gx2))
         refine LWp.cl h 35 (fun v2 => (.one (.sl true 3 1 (encs c3 v2)))) rfl (l := [.sv (.one (.sl false 3 1 (shares (encs c3 yOut2)))), .sv (.one (.int .i64 x2))]) rfl (fun v hv => cg (l := [.sv (.one (.sl false 3 1 (shares (encs c3 yOut2)))), .sv (.one (.int .i64 x2))]) (by simp only [sh3]) (s_l12Insert_t yOut2 x2 v hv)) (.inr (fun v => by simp [svShared, svShareds, hasShareds, hasShared, ns3])) ?_
         intro v2 gv2 h
         refine LWp.m true [(.slot 35, [.junk])] 3 (.one (.sl true 3 1 (encs c3 v2))) ?_
         refine LWp.nil ?_
         refine Wp.region ?_
         refine LWp.o 28 (I yK1) ?_
         refine LWp.o 29 (I (ad yK1 1)) ?_
         refine LWp.o 6 (I (ad yK1 1)) ?_
         refine LWp.nil ?_
         cases h
         exact ⟨_, rfl, rfl, rfl⟩
       refine Wp.exit ?_
       cases h
       exact ⟨_, rfl, rfl, rfl⟩
     intro v3 h E hE
     refine nt_wp hE ?_
     change Wp _ _ _ (s_LiveOf_H4 xS yI1 v3) _
     refine Wp.region ?_
     refine LWp.o 13 (I yI1) ?_
     refine LWp.o 14 (I (ad yI1 1)) ?_
     refine LWp.o 4 (I (ad yI1 1)) ?_
     refine LWp.nil ?_
     cases h
     exact ⟨_, rfl, rfl, rfl⟩
   refine Wp.exit ?_
   cases h
   exact ⟨_, rfl, rfl, rfl⟩
 intro v4 h E hE
 refine nt_wp hE ?_
 change Wp _ _ _ (s_LiveOf_H2 v4) _
 refine Wp.seq (Wp.region ?_)
 refine LWp.o 36 (.one (.view (.slot 3) 0 [] 0)) ?_
 refine LWp.m true [(.slot 3, [.junk])] 2 (.one (.sl true 3 1 (encs c3 v4))) ?_
 refine LWp.nil ?_
 cases h
 exact Wp.ret ⟨.inr rfl, _, _, rfl, rfl⟩
def c4 (x : Bool) : List TV := [.bool x]
theorem k4 : ∀ x, (c4 x).length = 1 := fun _ => rfl
theorem sh4 : ∀ l, shares (encs c4 l) = encs c4 l := shares_encs (fun _ => rfl)
theorem ns4 : ∀ l, hasShareds (encs c4 l) = false := ns_encs (fun _ => rfl)
def s_l13Needed_H1 (xList : List Found) (xLive : List Int) (xBase : Int) (z1 : List Bool) (z2 : Int) : St := mkSt [(0, (.one (.sl false 158 8 (encs c158 xList)))), (1, (.one (.sl false 3 1 (encs c3 xLive)))), (2, (I xBase)), (7, (.one (.sl true 4 1 (encs c4 z1)))), (8, (I z2))] []
def s_l13Needed_H2 (xList : List Found) (xLive : List Int) (z3 : List Bool) : St := mkSt [(0, (.one (.sl false 158 8 (encs c158 xList)))), (1, (.one (.sl false 3 1 (encs c3 xLive)))), (7, (.one (.sl true 4 1 (encs c4 z3))))] []
def s_l13Needed_H3 (xList : List Found) (xLive : List Int) (z4 : List Bool) (z5 : Int) : St := mkSt [(0, (.one (.sl false 158 8 (encs c158 xList)))), (1, (.one (.sl false 3 1 (encs c3 xLive)))), (7, (.one (.sl true 4 1 (encs c4 z4)))), (9, (I z5))] []
def s_l13Needed_H4 (z6 : List Bool) : St := mkSt [(7, (.one (.sl true 4 1 (encs c4 z6))))] []
def s_l13Needed_H5 (xList : List Found) (xLive : List Int) (yK1 : Int) (z7 : List Bool) (z8 : Int) : St := mkSt [(0, (.one (.sl false 158 8 (encs c158 xList)))), (1, (.one (.sl false 3 1 (encs c3 xLive)))), (7, (.one (.sl true 4 1 (encs c4 z7)))), (9, (I yK1)), (10, (I z8))] []
def s_l13Needed_H6 (xList : List Found) (xLive : List Int) (yK1 : Int) (z9 : List Bool) : St := mkSt [(0, (.one (.sl false 158 8 (encs c158 xList)))), (1, (.one (.sl false 3 1 (encs c3 xLive)))), (7, (.one (.sl true 4 1 (encs c4 z9)))), (9, (I yK1))] []
def s_l13Needed_H7 (xList : List Found) (xLive : List Int) (yK1 : Int) (yOut3 : List Bool) (yI2 : Int) (z10 : Bool) : St := mkSt [(0, (.one (.sl false 158 8 (encs c158 xList)))), (1, (.one (.sl false 3 1 (encs c3 xLive)))), (7, (.one (.sl true 4 1 (encs c4 yOut3)))), (9, (I yK1)), (10, (I yI2)), (72, (B z10))] []
theorem s_l13Needed_t (xList : List Found) (xLive : List Int) (xBase : Int) (r : List Bool) (h : s_l13Needed xList xLive xBase = some r) : Gives Tryz.prog 62 [.sv (.one (.sl false 158 8 (encs c158 xList))), .sv (.one (.sl false 3 1 (encs c3 xLive))), .sv (I xBase)] (.one (.sl true 4 1 (encs c4 r))) (List.replicate 3 .gone) := by
 unfold s_l13Needed at h
 refine gives_of Tryz.func62 rfl ?_
 rw [Tryz.ntmps62]
 refine Wp.seq (Wp.region ?_)
 refine LWp.o 6 (.one (.sl true 4 1 (encs c4 []))) ?_
 refine LWp.nil ?_
 refine Wp.seq (Wp.region ?_)
 refine LWp.o 11 (.one (.sl false 158 8 (encs c158 xList))) ?_
 refine LWp.o 12 (I (ln xList)) ?_ (st_pure (p_ln k158 xList))
 refine LWp.p h 13 (fun q1 => (.one (.sl true 4 1 (encs c4 q1)))) ?_ (fun q1 gq1 => s_mk (f := c4) false gq1)
 intro q1 gq1 h
 refine LWp.m true [(.slot 13, [.junk])] 7 (.one (.sl true 4 1 (encs c4 q1))) ?_
 refine LWp.nil ?_
 refine Wp.seq ?_
 refine Wp.seq (Wp.region ?_)
 refine LWp.o 8 (I 0) ?_
 refine LWp.nil ?_
 refine Wp.l1 h [0, 1, 2, 7, 8] [] (fun s => (s_l13Needed_H1 xList xLive xBase s.1 s.2)) [0, 1, 7] [] (fun s => (s_l13Needed_H2 xList xLive s)) ⟨rfl, rfl⟩ ?_ ?_
 · rintro ⟨yOut1, yI1⟩ o (h : s_l13Needed_b1 xList xBase yOut1 yI1 = some o)
   unfold s_l13Needed_b1 at h
   change Wp _ _ _ (s_l13Needed_H1 xList xLive xBase yOut1 yI1) _
   refine Wp.seq ?_
   refine Wp.seq (Wp.region ?_)
   refine LWp.o 14 (I yI1) ?_
   refine LWp.o 15 (.one (.sl false 158 8 (encs c158 xList))) ?_
   refine LWp.o 16 (I (ln xList)) ?_ (st_pure (p_ln k158 xList))
   refine LWp.o 17 (B (decide (yI1 < (ln xList)))) ?_
   refine LWp.nil ?_
   refine Wp.c h (fun h => ?_) (fun h => ?_)
   · refine Wp.skip ?_
     refine Wp.seq ?_
     refine Wp.block ?_
     refine Wp.region ?_
     refine LWp.o 20 (.one (.view (.slot 7) 0 [] 0)) ?_
     refine LWp.o 21 (I yI1) ?_
     refine LWp.o 22 (.one (.sl false 158 8 (encs c158 xList))) ?_
     refine LWp.o 23 (I yI1) ?_
     refine LWp.p h 24 (fun _ => (.one (.ptr (.slot 22) 1 [0] (Int.toNat yI1 * 8 + 0)))) ?_ (fun x1 gx1 => st_pure (p_ix k158 (.slot 22) [] 0 gx1))
     intro x1 gx1 h
     refine LWp.o 25 (.one (.ptr (.slot 22) 1 [0] (Int.toNat yI1 * 8 + 2))) ?_ (st_pure (p_fa k158 (.slot 22) [0] 0 gx1))
     refine LWp.o 26 (.one (.ptr (.slot 22) 1 [0] (Int.toNat yI1 * 8 + 2))) ?_ (st_pure (p_fa k158 (.slot 22) [0] 2 gx1))
     refine LWp.o 27 (I x1.Page.Kind) ?_ (st_pure (p_lc k158 (.slot 22) [0] 2 (.int .i64 x1.Page.Kind) gx1))
     refine LWp.o 28 (B (x1.Page.Kind == 2)) ?_
     refine LWp.o 29 (B (x1.Page.Kind == 2)) ?_
     refine LWp.sp h 29 (fun h => ?_) (fun h => ?_)
     · refine LWp.o 30 (.one (.sl false 158 8 (encs c158 xList))) ?_
       refine LWp.o 31 (I yI1) ?_
       refine LWp.p h 32 (fun _ => (.one (.ptr (.slot 30) 1 [0] (Int.toNat yI1 * 8 + 0)))) ?_ (fun x2 gx2 => st_pure (p_ix k158 (.slot 30) [] 0 gx2))
       intro x2 gx2 h
       refine LWp.o 33 (.one (.ptr (.slot 30) 1 [0] (Int.toNat yI1 * 8 + 2))) ?_ (st_pure (p_fa k158 (.slot 30) [0] 0 gx2))
       refine LWp.o 34 (.one (.ptr (.slot 30) 1 [0] (Int.toNat yI1 * 8 + 4))) ?_ (st_pure (p_fa k158 (.slot 30) [0] 2 gx2))
       refine LWp.o 35 (I x2.Page.Tx) ?_ (st_pure (p_lc k158 (.slot 30) [0] 4 (.int .i64 x2.Page.Tx) gx2))
       refine LWp.o 36 (I xBase) ?_
       refine LWp.o 37 (B (decide (x2.Page.Tx ≥ xBase))) ?_
       refine LWp.o 38 (B (decide (x2.Page.Tx ≥ xBase))) ?_
       refine LWp.p h 39 (fun _ => (.one (.ptr (.slot 7) 0 [0] (Int.toNat yI1 * 1 + 0)))) ?_ (fun x3 gx3 => st_pure (p_ix k4 (.slot 7) [] 0 gx3))
       intro x3 gx3 h
       refine LWp.sb [] (.slot 7) [.sl true 4 1 (encs c4 (si yOut1 yI1 (decide (x2.Page.Tx ≥ xBase))))] ?_ (s_st [] (q := [0]) (cs := [.sl true 4 1 (encs c4 yOut1)]) (xs := [.bool (decide (x2.Page.Tx ≥ xBase))]) (At.one (setRow_gi k4 (k := 0) (z := (decide (x2.Page.Tx ≥ xBase))) gx3 rfl rfl)) (fit_gi k4 (k := 0) gx3 rfl))
       refine LWp.nil ?_
       refine Wp.region ?_
       refine LWp.o 18 (I yI1) ?_
       refine LWp.o 19 (I (ad yI1 1)) ?_
       refine LWp.o 8 (I (ad yI1 1)) ?_
       refine LWp.nil ?_
       cases h
       exact ⟨_, rfl, rfl, rfl⟩
     refine LWp.sh 30 ?_
     refine LWp.sh 31 ?_
     refine LWp.sh 32 ?_
     refine LWp.sh 33 ?_
     refine LWp.sh 34 ?_
     refine LWp.sh 35 ?_
     refine LWp.sh 36 ?_
     refine LWp.sh 37 ?_
     refine LWp.o 38 (B false) ?_
     refine LWp.p h 39 (fun _ => (.one (.ptr (.slot 7) 0 [0] (Int.toNat yI1 * 1 + 0)))) ?_ (fun x4 gx4 => st_pure (p_ix k4 (.slot 7) [] 0 gx4))
     intro x4 gx4 h
     refine LWp.sb [] (.slot 7) [.sl true 4 1 (encs c4 (si yOut1 yI1 false))] ?_ (s_st [] (q := [0]) (cs := [.sl true 4 1 (encs c4 yOut1)]) (xs := [.bool false]) (At.one (setRow_gi k4 (k := 0) (z := false) gx4 rfl rfl)) (fit_gi k4 (k := 0) gx4 rfl))
     refine LWp.nil ?_
     refine Wp.region ?_
     refine LWp.o 18 (I yI1) ?_
     refine LWp.o 19 (I (ad yI1 1)) ?_
     refine LWp.o 8 (I (ad yI1 1)) ?_
     refine LWp.nil ?_
     cases h
     exact ⟨_, rfl, rfl, rfl⟩
   refine Wp.exit ?_
   cases h
   exact ⟨_, rfl, rfl, rfl⟩
 intro v1 h E hE
 refine nt_wp hE ?_
 change Wp _ _ _ (s_l13Needed_H2 xList xLive v1) _
 refine Wp.seq ?_
 refine Wp.seq (Wp.region ?_)
 refine LWp.o 9 (I 0) ?_
 refine LWp.nil ?_
 refine Wp.l1 h [0, 1, 7, 9] [] (fun s => (s_l13Needed_H3 xList xLive s.1 s.2)) [7] [] (fun s => (s_l13Needed_H4 s)) ⟨rfl, rfl⟩ ?_ ?_
 · rintro ⟨yOut2, yK1⟩ o (h : s_l13Needed_b2 xList xLive yOut2 yK1 = some o)
   unfold s_l13Needed_b2 at h
   change Wp _ _ _ (s_l13Needed_H3 xList xLive yOut2 yK1) _
   refine Wp.seq ?_
   refine Wp.seq (Wp.region ?_)
   refine LWp.o 40 (I yK1) ?_
   refine LWp.o 41 (.one (.sl false 3 1 (encs c3 xLive))) ?_
   refine LWp.o 42 (I (ln xLive)) ?_ (st_pure (p_ln k3 xLive))
   refine LWp.o 43 (B (decide (yK1 < (ln xLive)))) ?_
   refine LWp.nil ?_
   refine Wp.c h (fun h => ?_) (fun h => ?_)
   · refine Wp.skip ?_
     refine Wp.seq ?_
     refine Wp.block ?_
     refine Wp.seq (Wp.region ?_)
     refine LWp.o 46 (.one (.sl false 158 8 (encs c158 xList))) ?_
     refine LWp.o 47 (I (ln xList)) ?_ (st_pure (p_ln k158 xList))
     refine LWp.o 48 (I (sb (ln xList) 1)) ?_
     refine LWp.o 10 (I (sb (ln xList) 1)) ?_
     refine LWp.nil ?_
     refine Wp.l1 h [0, 1, 7, 9, 10] [] (fun s => (s_l13Needed_H5 xList xLive yK1 s.1 s.2)) [0, 1, 7, 9] [] (fun s => (s_l13Needed_H6 xList xLive yK1 s)) ⟨rfl, rfl⟩ ?_ ?_
     · rintro ⟨yOut3, yI2⟩ o (h : s_l13Needed_b3 xList xLive yK1 yOut3 yI2 = some o)
       unfold s_l13Needed_b3 at h
       change Wp _ _ _ (s_l13Needed_H5 xList xLive yK1 yOut3 yI2) _
       refine Wp.seq ?_
       refine Wp.seq (Wp.region ?_)
       refine LWp.o 49 (I yI2) ?_
       refine LWp.o 50 (B (decide (yI2 ≥ 0))) ?_
       refine LWp.nil ?_
       refine Wp.c h (fun h => ?_) (fun h => ?_)
       · refine Wp.skip ?_
         refine Wp.seq ?_
         refine Wp.block ?_
         refine Wp.seq ?_
         refine Wp.j1 h [0, 1, 7, 9, 10, 72] [] (fun a => (s_l13Needed_H7 xList xLive yK1 yOut3 yI2 a)) ?_ ?_
         · intro a h
           refine Wp.regionS mixed (by decide +kernel) ?_
           refine SWp.o 53 (.one (.sl false 158 8 (encs c158 xList))) ?_
           refine SWp.o 54 (I yI2) ?_
           refine SWp.p h 55 (fun _ => (.one (.ptr (.slot 53) 1 [0] (Int.toNat yI2 * 8 + 0)))) ?_ (fun x5 gx5 => sl_pure (p_ix k158 (.slot 53) [] 0 gx5))
           intro x5 gx5 h
           refine SWp.o 56 (.one (.ptr (.slot 53) 1 [0] (Int.toNat yI2 * 8 + 2))) ?_ (sl_pure (p_fa k158 (.slot 53) [0] 0 gx5))
           refine SWp.o 57 (.one (.ptr (.slot 53) 1 [0] (Int.toNat yI2 * 8 + 2))) ?_ (sl_pure (p_fa k158 (.slot 53) [0] 2 gx5))
           refine SWp.o 58 (I x5.Page.Kind) ?_ (sl_pure (p_lc k158 (.slot 53) [0] 2 (.int .i64 x5.Page.Kind) gx5))
           refine SWp.o 59 (B (x5.Page.Kind == 1)) ?_
           refine SWp.o 60 (B (x5.Page.Kind == 1)) ?_
           refine SWp.sp h 60 (fun h => ?_) (fun h => ?_)
           · refine SWp.o 61 (.one (.sl false 158 8 (encs c158 xList))) ?_
             refine SWp.o 62 (I yI2) ?_
             refine SWp.p h 63 (fun _ => (.one (.ptr (.slot 61) 1 [0] (Int.toNat yI2 * 8 + 0)))) ?_ (fun x6 gx6 => sl_pure (p_ix k158 (.slot 61) [] 0 gx6))
             intro x6 gx6 h
             refine SWp.o 64 (.one (.ptr (.slot 61) 1 [0] (Int.toNat yI2 * 8 + 2))) ?_ (sl_pure (p_fa k158 (.slot 61) [0] 0 gx6))
             refine SWp.o 65 (.one (.ptr (.slot 61) 1 [0] (Int.toNat yI2 * 8 + 4))) ?_ (sl_pure (p_fa k158 (.slot 61) [0] 2 gx6))
             refine SWp.o 66 (I x6.Page.Tx) ?_ (sl_pure (p_lc k158 (.slot 61) [0] 4 (.int .i64 x6.Page.Tx) gx6))
             refine SWp.o 67 (.one (.sl false 3 1 (encs c3 xLive))) ?_
             refine SWp.o 68 (I yK1) ?_
             refine SWp.p h 69 (fun _ => (.one (.ptr (.slot 67) 1 [0] (Int.toNat yK1 * 1 + 0)))) ?_ (fun x7 gx7 => sl_pure (p_ix k3 (.slot 67) [] 0 gx7))
             intro x7 gx7 h
             refine SWp.o 70 (I x7) ?_ (sl_pure (p_lc k3 (.slot 67) [0] 0 (.int .i64 x7) gx7))
             refine SWp.o 71 (B (x6.Page.Tx == x7)) ?_
             refine SWp.o 72 (B (x6.Page.Tx == x7)) ?_
             refine SWp.nil ?_
             cases h
             exact ⟨_, rfl, rfl, rfl⟩
           refine SWp.sh 61 ?_
           refine SWp.sh 62 ?_
           refine SWp.sh 63 ?_
           refine SWp.sh 64 ?_
           refine SWp.sh 65 ?_
           refine SWp.sh 66 ?_
           refine SWp.sh 67 ?_
           refine SWp.sh 68 ?_
           refine SWp.sh 69 ?_
           refine SWp.sh 70 ?_
           refine SWp.sh 71 ?_
           refine SWp.o 72 (B false) ?_
           refine SWp.nil ?_
           cases h
           exact ⟨_, rfl, rfl, rfl⟩
         intro j1 h E hE
         refine nt_wp hE ?_
         change Wp _ _ _ (s_l13Needed_H7 xList xLive yK1 yOut3 yI2 j1) _
         refine Wp.c h (fun h => ?_) (fun h => ?_)
         · refine Wp.seq (Wp.region ?_)
           refine LWp.o 73 (.one (.view (.slot 7) 0 [] 0)) ?_
           refine LWp.o 74 (I yI2) ?_
           refine LWp.p h 75 (fun _ => (.one (.ptr (.slot 7) 0 [0] (Int.toNat yI2 * 1 + 0)))) ?_ (fun x8 gx8 => st_pure (p_ix k4 (.slot 7) [] 0 gx8))
           intro x8 gx8 h
           refine LWp.sb [] (.slot 7) [.sl true 4 1 (encs c4 (si yOut3 yI2 true))] ?_ (s_st [] (q := [0]) (cs := [.sl true 4 1 (encs c4 yOut3)]) (xs := [.bool true]) (At.one (setRow_gi k4 (k := 0) (z := true) gx8 rfl rfl)) (fit_gi k4 (k := 0) gx8 rfl))
           refine LWp.nil ?_
           refine Wp.region ?_
           refine LWp.o 10 (I (-1)) ?_
           refine LWp.nil ?_
           refine Wp.region ?_
           refine LWp.o 51 (I (-1)) ?_
           refine LWp.o 52 (I (sb (-1) 1)) ?_
           refine LWp.o 10 (I (sb (-1) 1)) ?_
           refine LWp.nil ?_
           cases h
           exact ⟨_, rfl, rfl, rfl⟩
         refine Wp.skip ?_
         refine Wp.region ?_
         refine LWp.o 51 (I yI2) ?_
         refine LWp.o 52 (I (sb yI2 1)) ?_
         refine LWp.o 10 (I (sb yI2 1)) ?_
         refine LWp.nil ?_
         cases h
         exact ⟨_, rfl, rfl, rfl⟩
       refine Wp.exit ?_
       cases h
       exact ⟨_, rfl, rfl, rfl⟩
     intro v2 h E hE
     refine nt_wp hE ?_
     change Wp _ _ _ (s_l13Needed_H6 xList xLive yK1 v2) _
     refine Wp.region ?_
     refine LWp.o 44 (I yK1) ?_
     refine LWp.o 45 (I (ad yK1 1)) ?_
     refine LWp.o 9 (I (ad yK1 1)) ?_
     refine LWp.nil ?_
     cases h
     exact ⟨_, rfl, rfl, rfl⟩
   refine Wp.exit ?_
   cases h
   exact ⟨_, rfl, rfl, rfl⟩
 intro v3 h E hE
 refine nt_wp hE ?_
 change Wp _ _ _ (s_l13Needed_H4 v3) _
 refine Wp.seq (Wp.region ?_)
 refine LWp.o 76 (.one (.view (.slot 7) 0 [] 0)) ?_
 refine LWp.m true [(.slot 7, [.junk])] 6 (.one (.sl true 4 1 (encs c4 v3))) ?_
 refine LWp.nil ?_
 cases h
 exact Wp.ret ⟨.inr rfl, _, _, rfl, rfl⟩
def s_l17Blank_H1 (xB : Block) (z1 : Int) : St := mkSt [(1, (.one (.ptr (.box 1) 0 [] 0))), (3, (I z1))] [(.box 1, [.bool xB.Bad, .int .i64 xB.Wear, .sl false 165 2 (encs c165 xB.Leaves)])]
def s_l17Blank_H2  : St := mkSt [] []
theorem s_l17Blank_t (xB : Block) (r : Bool) (h : s_l17Blank xB = some r) : Gives Tryz.prog 64 [.sv (.agg [.bool xB.Bad, .int .i64 xB.Wear, .sl false 165 2 (encs c165 xB.Leaves)])] (B r) (List.replicate 1 .gone) := by
 unfold s_l17Blank at h
 refine gives_of Tryz.func64 rfl ?_
 rw [Tryz.ntmps64]
 refine Wp.seq (Wp.region ?_)
 refine LWp.b [] 1 [.bool xB.Bad, .int .i64 xB.Wear, .sl false 165 2 (encs c165 xB.Leaves)] ?_
 refine LWp.o 2 (B false) ?_
 refine LWp.nil ?_
 refine Wp.seq ?_
 refine Wp.seq (Wp.region ?_)
 refine LWp.o 3 (I 0) ?_
 refine LWp.nil ?_
 refine Wp.l2 h [1, 3] [.box 1] (fun s => (s_l17Blank_H1 xB s)) [] [] (fun _ => s_l17Blank_H2) ⟨rfl, rfl⟩ ?_ ?_
 · rintro yK1 o (h : s_l17Blank_b1 xB yK1 = some o) hk1
   unfold s_l17Blank_b1 at h
   change Wp _ _ _ (s_l17Blank_H1 xB yK1) _
   refine Wp.seq ?_
   refine Wp.seq (Wp.region ?_)
   refine LWp.o 4 (I yK1) ?_
   refine LWp.o 5 (.one (.ptr (.box 1) 0 [] 2)) ?_
   refine LWp.o 6 (.one (.sl false 165 2 (encs c165 xB.Leaves))) ?_
   refine LWp.o 7 (I (ln xB.Leaves)) ?_ (st_pure (p_ln k165 xB.Leaves))
   refine LWp.o 8 (B (decide (yK1 < (ln xB.Leaves)))) ?_
   refine LWp.nil ?_
   refine Wp.c h (fun h => ?_) (fun h => ?_)
   · refine Wp.skip ?_
     refine Wp.seq ?_
     refine Wp.block ?_
     refine Wp.seq (Wp.region ?_)
     refine LWp.o 11 (.one (.ptr (.box 1) 0 [] 2)) ?_
     refine LWp.o 12 (.one (.sl false 165 2 (encs c165 xB.Leaves))) ?_
     refine LWp.o 13 (I yK1) ?_
     refine LWp.p h 14 (fun _ => (.one (.ptr (.slot 12) 1 [0] (Int.toNat yK1 * 2 + 0)))) ?_ (fun x1 gx1 => st_pure (p_ix k165 (.slot 12) [] 0 gx1))
     intro x1 gx1 h
     refine LWp.o 15 (.one (.ptr (.slot 12) 1 [0] (Int.toNat yK1 * 2 + 0))) ?_ (st_pure (p_fa k165 (.slot 12) [0] 0 gx1))
     refine LWp.o 16 (I x1.Is) ?_ (st_pure (p_lc k165 (.slot 12) [0] 0 (.int .i64 x1.Is) gx1))
     refine LWp.o 17 (B (x1.Is != 0)) ?_
     refine LWp.nil ?_
     refine Wp.c h (fun h => ?_) (fun h => ?_)
     · refine Wp.seq (Wp.region ?_)
       refine LWp.o 2 (B false) ?_
       refine LWp.nil ?_
       cases h
       replace h : some _ = some _ := hk1 _ rfl
       cases h
       exact Wp.ret ⟨.inr rfl, _, _, rfl, rfl⟩
     refine Wp.skip ?_
     refine Wp.region ?_
     refine LWp.o 9 (I yK1) ?_
     refine LWp.o 10 (I (ad yK1 1)) ?_
     refine LWp.o 3 (I (ad yK1 1)) ?_
     refine LWp.nil ?_
     cases h
     exact ⟨_, rfl, rfl, rfl⟩
   refine Wp.exit ?_
   cases h
   exact ⟨_, rfl, rfl, rfl⟩
 intro v1 h E hE
 refine nt_wp hE ?_
 change Wp _ _ _ s_l17Blank_H2 _
 refine Wp.seq (Wp.region ?_)
 refine LWp.o 2 (B true) ?_
 refine LWp.nil ?_
 cases h
 exact Wp.ret ⟨.inr rfl, _, _, rfl, rfl⟩
def s_l13On_H1 (xList : List Found) (xNeeded : List Bool) (xB : Int) (z1 : Int) (z2 : Int) : St := mkSt [(0, (.one (.sl false 158 8 (encs c158 xList)))), (1, (.one (.sl false 4 1 (encs c4 xNeeded)))), (2, (I xB)), (7, (I z1)), (8, (I z2))] []
def s_l13On_H2 (z3 : Int) : St := mkSt [(7, (I z3))] []
theorem s_l13On_t (xList : List Found) (xNeeded : List Bool) (xB : Int) (r : Int) (h : s_l13On xList xNeeded xB = some r) : Gives Tryz.prog 65 [.sv (.one (.sl false 158 8 (encs c158 xList))), .sv (.one (.sl false 4 1 (encs c4 xNeeded))), .sv (I xB)] (I r) (List.replicate 3 .gone) := by
 unfold s_l13On at h
 refine gives_of Tryz.func65 rfl ?_
 rw [Tryz.ntmps65]
 refine Wp.seq (Wp.region ?_)
 refine LWp.o 6 (I 0) ?_
 refine LWp.nil ?_
 refine Wp.seq (Wp.region ?_)
 refine LWp.o 7 (I 0) ?_
 refine LWp.nil ?_
 refine Wp.seq ?_
 refine Wp.seq (Wp.region ?_)
 refine LWp.o 8 (I 0) ?_
 refine LWp.nil ?_
 refine Wp.l1 h [0, 1, 2, 7, 8] [] (fun s => (s_l13On_H1 xList xNeeded xB s.1 s.2)) [7] [] (fun s => (s_l13On_H2 s)) ⟨rfl, rfl⟩ ?_ ?_
 · rintro ⟨yN1, yI1⟩ o (h : s_l13On_b1 xList xNeeded xB yN1 yI1 = some o)
   unfold s_l13On_b1 at h
   change Wp _ _ _ (s_l13On_H1 xList xNeeded xB yN1 yI1) _
   refine Wp.seq ?_
   refine Wp.seq (Wp.region ?_)
   refine LWp.o 9 (I yI1) ?_
   refine LWp.o 10 (.one (.sl false 158 8 (encs c158 xList))) ?_
   refine LWp.o 11 (I (ln xList)) ?_ (st_pure (p_ln k158 xList))
   refine LWp.o 12 (B (decide (yI1 < (ln xList)))) ?_
   refine LWp.nil ?_
   refine Wp.c h (fun h => ?_) (fun h => ?_)
   · refine Wp.skip ?_
     refine Wp.seq ?_
     refine Wp.block ?_
     refine Wp.seq (Wp.region ?_)
     refine LWp.o 15 (.one (.sl false 4 1 (encs c4 xNeeded))) ?_
     refine LWp.o 16 (I yI1) ?_
     refine LWp.p h 17 (fun _ => (.one (.ptr (.slot 15) 1 [0] (Int.toNat yI1 * 1 + 0)))) ?_ (fun x1 gx1 => st_pure (p_ix k4 (.slot 15) [] 0 gx1))
     intro x1 gx1 h
     refine LWp.o 18 (B x1) ?_ (st_pure (p_lc k4 (.slot 15) [0] 0 (.bool x1) gx1))
     refine LWp.o 19 (B x1) ?_
     refine LWp.sp h 19 (fun h => ?_) (fun h => ?_)
     · refine LWp.o 20 (.one (.sl false 158 8 (encs c158 xList))) ?_
       refine LWp.o 21 (I yI1) ?_
       refine LWp.p h 22 (fun _ => (.one (.ptr (.slot 20) 1 [0] (Int.toNat yI1 * 8 + 0)))) ?_ (fun x2 gx2 => st_pure (p_ix k158 (.slot 20) [] 0 gx2))
       intro x2 gx2 h
       refine LWp.o 23 (.one (.ptr (.slot 20) 1 [0] (Int.toNat yI1 * 8 + 0))) ?_ (st_pure (p_fa k158 (.slot 20) [0] 0 gx2))
       refine LWp.o 24 (I x2.Block) ?_ (st_pure (p_lc k158 (.slot 20) [0] 0 (.int .i64 x2.Block) gx2))
       refine LWp.o 25 (I xB) ?_
       refine LWp.o 26 (B (x2.Block == xB)) ?_
       refine LWp.o 27 (B (x2.Block == xB)) ?_
       refine LWp.nil ?_
       refine Wp.c h (fun h => ?_) (fun h => ?_)
       · refine Wp.region ?_
         refine LWp.o 28 (I yN1) ?_
         refine LWp.o 29 (I (ad yN1 1)) ?_
         refine LWp.o 7 (I (ad yN1 1)) ?_
         refine LWp.nil ?_
         refine Wp.region ?_
         refine LWp.o 13 (I yI1) ?_
         refine LWp.o 14 (I (ad yI1 1)) ?_
         refine LWp.o 8 (I (ad yI1 1)) ?_
         refine LWp.nil ?_
         cases h
         exact ⟨_, rfl, rfl, rfl⟩
       refine Wp.skip ?_
       refine Wp.region ?_
       refine LWp.o 13 (I yI1) ?_
       refine LWp.o 14 (I (ad yI1 1)) ?_
       refine LWp.o 8 (I (ad yI1 1)) ?_
       refine LWp.nil ?_
       cases h
       exact ⟨_, rfl, rfl, rfl⟩
     refine LWp.sh 20 ?_
     refine LWp.sh 21 ?_
     refine LWp.sh 22 ?_
     refine LWp.sh 23 ?_
     refine LWp.sh 24 ?_
     refine LWp.sh 25 ?_
     refine LWp.sh 26 ?_
     refine LWp.o 27 (B false) ?_
     refine LWp.nil ?_
     refine Wp.cf ?_
     refine Wp.skip ?_
     refine Wp.region ?_
     refine LWp.o 13 (I yI1) ?_
     refine LWp.o 14 (I (ad yI1 1)) ?_
     refine LWp.o 8 (I (ad yI1 1)) ?_
     refine LWp.nil ?_
     cases h
     exact ⟨_, rfl, rfl, rfl⟩
   refine Wp.exit ?_
   cases h
   exact ⟨_, rfl, rfl, rfl⟩
 intro v1 h E hE
 refine nt_wp hE ?_
 change Wp _ _ _ (s_l13On_H2 v1) _
 refine Wp.seq (Wp.region ?_)
 refine LWp.o 30 (I v1) ?_
 refine LWp.o 6 (I v1) ?_
 refine LWp.nil ?_
 cases h
 exact Wp.ret ⟨.inr rfl, _, _, rfl, rfl⟩
def s_DeadBlocks_H1 (xD : Device) (v1 : List Found) (v3 : List Bool) (z1 : List Int) (z2 : Int) : St := mkSt [(1, (.one (.ptr (.box 1) 0 [] 0))), (3, (.one (.sl true 158 8 (encs c158 v1)))), (4, (.one (.view (.slot 17) 0 [] 0))), (5, (.one (.sl true 3 1 (encs c3 z1)))), (6, (I z2)), (17, (.one (.sl true 4 1 (encs c4 v3))))] [(.box 1, [.sl false 124 3 (encs (c124 false) xD.Flash.Blocks), .sl false 110 2 (encs c110 xD.Store.Vols), .sl false 218 2 (encs (c218 false) xD.Store.Arena.Knots), .int .i64 xD.Store.Next, .int .i64 xD.Seq, .int .i64 xD.Tx, .int .i64 xD.Base])]
def s_DeadBlocks_H2 (z3 : List Int) : St := mkSt [(5, (.one (.sl true 3 1 (encs c3 z3))))] []
def s_DeadBlocks_H3 (xD : Device) (v1 : List Found) (v3 : List Bool) (yOut1 : List Int) (yB1 : Int) (z4 : Bool) : St := mkSt [(1, (.one (.ptr (.box 1) 0 [] 0))), (3, (.one (.sl true 158 8 (encs c158 v1)))), (4, (.one (.view (.slot 17) 0 [] 0))), (5, (.one (.sl true 3 1 (encs c3 yOut1)))), (6, (I yB1)), (17, (.one (.sl true 4 1 (encs c4 v3)))), (47, (B z4))] [(.box 1, [.sl false 124 3 (encs (c124 false) xD.Flash.Blocks), .sl false 110 2 (encs c110 xD.Store.Vols), .sl false 218 2 (encs (c218 false) xD.Store.Arena.Knots), .int .i64 xD.Store.Next, .int .i64 xD.Seq, .int .i64 xD.Tx, .int .i64 xD.Base])]
theorem s_DeadBlocks_t (xD : Device) (r : List Int) (h : s_DeadBlocks xD = some r) : Gives Tryz.prog 28 [.sv (.agg [.sl false 124 3 (encs (c124 false) xD.Flash.Blocks), .sl false 110 2 (encs c110 xD.Store.Vols), .sl false 218 2 (encs (c218 false) xD.Store.Arena.Knots), .int .i64 xD.Store.Next, .int .i64 xD.Seq, .int .i64 xD.Tx, .int .i64 xD.Base])] (.one (.sl true 3 1 (encs c3 r))) (List.replicate 1 .gone) := by
 unfold s_DeadBlocks at h
 refine gives_of Tryz.func28 rfl ?_
 rw [Tryz.ntmps28]
 refine Wp.seq (Wp.region ?_)
 refine LWp.b [] 1 [.sl false 124 3 (encs (c124 false) xD.Flash.Blocks), .sl false 110 2 (encs c110 xD.Store.Vols), .sl false 218 2 (encs (c218 false) xD.Store.Arena.Knots), .int .i64 xD.Store.Next, .int .i64 xD.Seq, .int .i64 xD.Tx, .int .i64 xD.Base] ?_
 refine LWp.o 2 (.one (.sl true 3 1 (encs c3 []))) ?_
 refine LWp.nil ?_
 refine Wp.seq (Wp.region ?_)
 refine LWp.o 8 (.one (.ptr (.box 1) 1 [] 0)) ?_
 refine LWp.o 9 (.agg [.sl false 124 3 (encs (c124 false) xD.Flash.Blocks)]) ?_
 refine LWp.cl h 10 (fun v1 => (.one (.sl true 158 8 (encs c158 v1)))) rfl (l := [.sv (.agg [.sl false 124 3 (encs (c124 false) xD.Flash.Blocks)])]) rfl (fun v hv => s_ScanAll_t xD.Flash v hv) (.inl rfl) ?_
 intro v1 gv1 h
 refine LWp.m true [(.slot 10, [.junk])] 3 (.one (.sl true 158 8 (encs c158 v1))) ?_
 refine LWp.nil ?_
 refine Wp.seq ?_
 refine Wp.regionK 8 [] mixed (fun c E h => by rcases h with ⟨h | h, _⟩ <;> cases h) ?_
 refine KWp.o 8 0 11 (.one (.view (.slot 3) 1 [] 0)) ?_
 refine KWp.o 8 1 12 (.one (.ptr (.box 1) 1 [] 1)) ?_
 refine KWp.o 8 2 13 (.agg [.sl false 110 2 (encs c110 xD.Store.Vols), .sl false 218 2 (encs (c218 false) xD.Store.Arena.Knots), .int .i64 xD.Store.Next]) ?_
 refine KWp.o 8 4 15 (.one (.ptr (.box 1) 1 [] 6)) ?_
 refine KWp.o 8 5 16 (I xD.Base) ?_
 refine KWp.w1 3 ?_
 refine KOp.cl h 3 14 (fun v2 => (.one (.sl true 3 1 (encs c3 v2)))) rfl rfl (l := [.sv (.agg [.sl false 110 2 (encs c110 xD.Store.Vols), .sl false 218 2 (encs (c218 false) xD.Store.Arena.Knots), .int .i64 xD.Store.Next])]) rfl (fun v hv => s_LiveOf_t xD.Store v hv) (.inl rfl) ?_
 intro v2 gv2 h
 refine KWp.w1 6 ?_
 refine KOp.cl h 6 17 (fun v3 => (.one (.sl true 4 1 (encs c4 v3)))) rfl rfl (l := [.sv (.one (.sl false 158 8 (shares (encs c158 v1)))), .sv (.one (.sl false 3 1 (shares (encs c3 v2)))), .sv (.one (.int .i64 xD.Base))]) rfl (fun v hv => cg (l := [.sv (.one (.sl false 158 8 (shares (encs c158 v1)))), .sv (.one (.sl false 3 1 (shares (encs c3 v2)))), .sv (.one (.int .i64 xD.Base))]) (by simp only [sh3, sh158]) (s_l13Needed_t v1 v2 xD.Base v hv)) (.inr (fun v => by simp [svShared, svShareds, hasShareds, hasShared, ns4])) ?_
 intro v3 gv3 h
 refine KWp.o 8 7 4 (.one (.view (.slot 17) 1 [] 0)) ?_
 refine KWp.done ?_
 refine Wp.seq (Wp.region ?_)
 refine LWp.m false [] 18 (.one (.sl true 3 1 (encs c3 []))) ?_
 refine LWp.m true [(.slot 18, [.junk])] 5 (.one (.sl true 3 1 (encs c3 []))) ?_
 refine LWp.nil ?_
 refine Wp.seq ?_
 refine Wp.seq (Wp.region ?_)
 refine LWp.o 6 (I 0) ?_
 refine LWp.nil ?_
 refine Wp.l1 h [1, 3, 4, 5, 6, 17] [.box 1] (fun s => (s_DeadBlocks_H1 xD v1 v3 s.1 s.2)) [5] [] (fun s => (s_DeadBlocks_H2 s)) ⟨rfl, rfl⟩ ?_ ?_
 · rintro ⟨yOut1, yB1⟩ o (h : s_DeadBlocks_b1 xD v1 v3 yOut1 yB1 = some o)
   unfold s_DeadBlocks_b1 at h
   change Wp _ _ _ (s_DeadBlocks_H1 xD v1 v3 yOut1 yB1) _
   refine Wp.seq ?_
   refine Wp.seq (Wp.region ?_)
   refine LWp.o 19 (I yB1) ?_
   refine LWp.o 20 (.one (.ptr (.box 1) 0 [] 0)) ?_
   refine LWp.o 21 (.one (.ptr (.box 1) 0 [] 0)) ?_
   refine LWp.o 22 (.one (.sl false 124 3 (encs (c124 false) xD.Flash.Blocks))) ?_
   refine LWp.o 23 (I (ln xD.Flash.Blocks)) ?_ (st_pure (p_ln (k124 false) xD.Flash.Blocks))
   refine LWp.o 24 (B (decide (yB1 < (ln xD.Flash.Blocks)))) ?_
   refine LWp.nil ?_
   refine Wp.c h (fun h => ?_) (fun h => ?_)
   · refine Wp.skip ?_
     refine Wp.seq ?_
     refine Wp.block ?_
     refine Wp.seq (Wp.region ?_)
     refine LWp.o 27 (.one (.ptr (.box 1) 0 [] 0)) ?_
     refine LWp.o 28 (.one (.ptr (.box 1) 0 [] 0)) ?_
     refine LWp.o 29 (.one (.sl false 124 3 (encs (c124 false) xD.Flash.Blocks))) ?_
     refine LWp.o 30 (I yB1) ?_
     refine LWp.p h 31 (fun _ => (.one (.ptr (.slot 29) 1 [0] (Int.toNat yB1 * 3 + 0)))) ?_ (fun x1 gx1 => st_pure (p_ix (k124 false) (.slot 29) [] 0 gx1))
     intro x1 gx1 h
     refine LWp.o 32 (.agg [.bool x1.Bad, .int .i64 x1.Wear, .sl false 165 2 (encs c165 x1.Leaves)]) ?_ (st_pure (p_le (k124 false) (.slot 29) [0] gx1))
     refine LWp.b [] 7 [.bool false, .int .i64 0, .sl true 165 2 (encs c165 [])] ?_
     refine LWp.sb [] (.box 7) [.bool x1.Bad, .int .i64 x1.Wear, .sl false 165 2 (encs c165 x1.Leaves)] ?_
     refine LWp.nil ?_
     refine Wp.seq ?_
     refine Wp.j1 h [1, 3, 4, 5, 6, 17, 47] [.box 1] (fun a => (s_DeadBlocks_H3 xD v1 v3 yOut1 yB1 a)) ?_ ?_
     · intro a h
       refine Wp.region ?_
       refine LWp.o 33 (.one (.ptr (.box 7) 1 [] 0)) ?_
       refine LWp.o 34 (B x1.Bad) ?_
       refine LWp.o 35 (B (!x1.Bad)) ?_
       refine LWp.o 36 (B (!x1.Bad)) ?_
       refine LWp.sp h 36 (fun h => ?_) (fun h => ?_)
       · refine LWp.o 37 (.agg [.bool x1.Bad, .int .i64 x1.Wear, .sl false 165 2 (encs c165 x1.Leaves)]) ?_
         refine LWp.cl h 38 (fun v4 => (B v4)) rfl (l := [.sv (.agg [.bool x1.Bad, .int .i64 x1.Wear, .sl false 165 2 (encs c165 x1.Leaves)])]) rfl (fun v hv => s_l17Blank_t x1 v hv) (.inl rfl) ?_
         intro v4 gv4 h
         refine LWp.o 39 (B (!v4)) ?_
         refine LWp.o 40 (B (!v4)) ?_
         refine LWp.o 41 (B (!v4)) ?_
         refine LWp.sp h 41 (fun h => ?_) (fun h => ?_)
         · refine LWp.o 42 (.one (.view (.slot 3) 0 [] 0)) ?_
           refine LWp.o 43 (.one (.view (.slot 17) 0 [] 0)) ?_
           refine LWp.o 44 (I yB1) ?_
           refine LWp.cl h 45 (fun v5 => (I v5)) rfl (l := [.sv (.one (.sl false 158 8 (shares (encs c158 v1)))), .sv (.one (.sl false 4 1 (shares (encs c4 v3)))), .sv (.one (.int .i64 yB1))]) rfl (fun v hv => cg (l := [.sv (.one (.sl false 158 8 (shares (encs c158 v1)))), .sv (.one (.sl false 4 1 (shares (encs c4 v3)))), .sv (.one (.int .i64 yB1))]) (by simp only [sh4, sh158]) (s_l13On_t v1 v3 yB1 v hv)) (.inr (fun v => rfl)) ?_
           intro v5 gv5 h
           refine LWp.o 46 (B (v5 == 0)) ?_
           refine LWp.o 47 (B (v5 == 0)) ?_
           refine LWp.nil ?_
           cases h
           exact ⟨_, rfl, rfl, rfl⟩
         refine LWp.sh 42 ?_
         refine LWp.sh 43 ?_
         refine LWp.sh 44 ?_
         refine LWp.sh 45 ?_
         refine LWp.sh 46 ?_
         refine LWp.o 47 (B false) ?_
         refine LWp.nil ?_
         cases h
         exact ⟨_, rfl, rfl, rfl⟩
       refine LWp.sh 37 ?_
       refine LWp.sh 38 ?_
       refine LWp.sh 39 ?_
       refine LWp.o 40 (B false) ?_
       refine LWp.o 41 (B false) ?_
       refine LWp.sh 42 ?_
       refine LWp.sh 43 ?_
       refine LWp.sh 44 ?_
       refine LWp.sh 45 ?_
       refine LWp.sh 46 ?_
       refine LWp.o 47 (B false) ?_
       refine LWp.nil ?_
       cases h
       exact ⟨_, rfl, rfl, rfl⟩
     intro j1 h E hE
     refine nt_wp hE ?_
     change Wp _ _ _ (s_DeadBlocks_H3 xD v1 v3 yOut1 yB1 j1) _
     refine Wp.c h (fun h => ?_) (fun h => ?_)
     · refine Wp.region ?_
       refine LWp.o 48 (.one (.view (.slot 5) 0 [] 0)) ?_
       refine LWp.o 49 (I yB1) ?_
       refine LWp.m false [] 50 (.one (.sl true 3 1 (encs c3 [yB1]))) ?_
       refine LWp.pm h [(.slot 5, [.junk])] 51 (fun q1 => (.one (.sl true 3 1 (encs c3 q1)))) ?_ (fun q1 gq1 => s_apl k3 (fun _ => rfl) [(.slot 5, [.junk])] yOut1 gq1)
       intro q1 gq1 h
       refine LWp.m true [(.slot 51, [.junk])] 5 (.one (.sl true 3 1 (encs c3 q1))) ?_
       refine LWp.nil ?_
       refine Wp.region ?_
       refine LWp.o 25 (I yB1) ?_
       refine LWp.o 26 (I (ad yB1 1)) ?_
       refine LWp.o 6 (I (ad yB1 1)) ?_
       refine LWp.nil ?_
       cases h
       exact ⟨_, rfl, rfl, rfl⟩
     refine Wp.skip ?_
     refine Wp.region ?_
     refine LWp.o 25 (I yB1) ?_
     refine LWp.o 26 (I (ad yB1 1)) ?_
     refine LWp.o 6 (I (ad yB1 1)) ?_
     refine LWp.nil ?_
     cases h
     exact ⟨_, rfl, rfl, rfl⟩
   refine Wp.exit ?_
   cases h
   exact ⟨_, rfl, rfl, rfl⟩
 intro v6 h E hE
 refine nt_wp hE ?_
 change Wp _ _ _ (s_DeadBlocks_H2 v6) _
 refine Wp.seq (Wp.region ?_)
 refine LWp.o 52 (.one (.view (.slot 5) 0 [] 0)) ?_
 refine LWp.m true [(.slot 5, [.junk])] 2 (.one (.sl true 3 1 (encs c3 v6))) ?_
 refine LWp.nil ?_
 cases h
 exact Wp.ret ⟨.inr rfl, _, _, rfl, rfl⟩
def i_blanks_H1 (xB : Block) (z1 : Int) (z2 : Int) : St := mkSt [(3, (I z1)), (7, (.one (.sl false 165 2 (encs c165 xB.Leaves)))), (8, (I (ln xB.Leaves))), (9, (I z2))] []
def i_blanks_H2 (z3 : Int) : St := mkSt [(3, (I z3))] []
theorem i_blanks_t (xB : Block) (r : Int) (h : i_blanks xB = some r) : Gives Tryz.prog 66 [.sv (.agg [.bool xB.Bad, .int .i64 xB.Wear, .sl false 165 2 (encs c165 xB.Leaves)])] (I r) (List.replicate 1 .gone) := by
 unfold i_blanks at h
 refine gives_of Tryz.func66 rfl ?_
 rw [Tryz.ntmps66]
 refine Wp.seq (Wp.region ?_)
 refine LWp.b [] 1 [.bool xB.Bad, .int .i64 xB.Wear, .sl false 165 2 (encs c165 xB.Leaves)] ?_
 refine LWp.o 2 (I 0) ?_
 refine LWp.nil ?_
 refine Wp.seq (Wp.region ?_)
 refine LWp.o 3 (I 0) ?_
 refine LWp.nil ?_
 refine Wp.seq ?_
 refine Wp.seq (Wp.region ?_)
 refine LWp.o 6 (.one (.ptr (.box 1) 1 [] 2)) ?_
 refine LWp.o 7 (.one (.sl false 165 2 (encs c165 xB.Leaves))) ?_
 refine LWp.o 8 (I (ln xB.Leaves)) ?_ (st_pure (p_ln k165 xB.Leaves))
 refine LWp.o 9 (I 0) ?_
 refine LWp.nil ?_
 refine Wp.l1 h [3, 7, 8, 9] [] (fun s => (i_blanks_H1 xB s.1 s.2)) [3] [] (fun s => (i_blanks_H2 s)) ⟨rfl, rfl⟩ ?_ ?_
 · rintro ⟨yN1, y1⟩ o (h : i_blanks_b1 xB yN1 y1 = some o)
   unfold i_blanks_b1 at h
   change Wp _ _ _ (i_blanks_H1 xB yN1 y1) _
   refine Wp.seq (Wp.region ?_)
   refine LWp.o 10 (B (decide (y1 < (ln xB.Leaves)))) ?_
   refine LWp.nil ?_
   refine Wp.seq ?_
   refine Wp.c h (fun h => ?_) (fun h => ?_)
   · refine Wp.skip ?_
     refine Wp.seq ?_
     refine Wp.block ?_
     refine Wp.seq (Wp.region ?_)
     refine LWp.p h 11 (fun _ => (.one (.ptr (.slot 7) 0 [0] (Int.toNat y1 * 2 + 0)))) ?_ (fun x1 gx1 => st_pure (p_ix k165 (.slot 7) [] 0 gx1))
     intro x1 gx1 h
     refine LWp.o 12 (.agg [.int .i64 x1.Is, .str x1.Text]) ?_ (st_pure (p_le k165 (.slot 7) [0] gx1))
     refine LWp.b [] 5 [.int .i64 0, .str (bs [])] ?_
     refine LWp.s [] (.box 5) [.int .i64 x1.Is, .str x1.Text] ?_
     refine LWp.nil ?_
     refine Wp.seq (Wp.region ?_)
     refine LWp.o 13 (.one (.ptr (.box 5) 1 [] 0)) ?_
     refine LWp.o 14 (I x1.Is) ?_
     refine LWp.o 15 (B (x1.Is == 0)) ?_
     refine LWp.nil ?_
     refine Wp.c h (fun h => ?_) (fun h => ?_)
     · refine Wp.region ?_
       refine LWp.o 16 (I yN1) ?_
       refine LWp.o 17 (I (ad yN1 1)) ?_
       refine LWp.o 3 (I (ad yN1 1)) ?_
       refine LWp.nil ?_
       refine Wp.region ?_
       refine LWp.o 18 (I (ad y1 1)) ?_
       refine LWp.o 9 (I (ad y1 1)) ?_
       refine LWp.nil ?_
       cases h
       exact ⟨_, rfl, rfl, rfl⟩
     refine Wp.skip ?_
     refine Wp.region ?_
     refine LWp.o 18 (I (ad y1 1)) ?_
     refine LWp.o 9 (I (ad y1 1)) ?_
     refine LWp.nil ?_
     cases h
     exact ⟨_, rfl, rfl, rfl⟩
   refine Wp.exit ?_
   cases h
   exact ⟨_, rfl, rfl, rfl⟩
 intro v1 h E hE
 refine nt_wp hE ?_
 change Wp _ _ _ (i_blanks_H2 v1) _
 refine Wp.seq (Wp.region ?_)
 refine LWp.o 19 (I v1) ?_
 refine LWp.o 2 (I v1) ?_
 refine LWp.nil ?_
 cases h
 exact Wp.ret ⟨.inr rfl, _, _, rfl, rfl⟩
theorem i_in_t (xN : Int) (xLow : Int) (xHigh : Int) (r : Bool) (h : i_in xN xLow xHigh = some r) : Gives Tryz.prog 92 [.sv (I xN), .sv (I xLow), .sv (I xHigh)] (B r) (List.replicate 3 .gone) := by
 unfold i_in at h
 refine gives_of Tryz.func92 rfl ?_
 rw [Tryz.ntmps92]
 refine Wp.seq (Wp.region ?_)
 refine LWp.o 6 (B false) ?_
 refine LWp.nil ?_
 refine Wp.seq (Wp.region ?_)
 refine LWp.o 7 (I xN) ?_
 refine LWp.o 8 (I xLow) ?_
 refine LWp.o 9 (B (decide (xN ≥ xLow))) ?_
 refine LWp.o 10 (B (decide (xN ≥ xLow))) ?_
 refine LWp.sp h 10 (fun h => ?_) (fun h => ?_)
 · refine LWp.o 11 (I xN) ?_
   refine LWp.o 12 (I xHigh) ?_
   refine LWp.o 13 (B (decide (xN ≤ xHigh))) ?_
   refine LWp.o 14 (B (decide (xN ≤ xHigh))) ?_
   refine LWp.o 6 (B (decide (xN ≤ xHigh))) ?_
   refine LWp.nil ?_
   cases h
   exact Wp.ret ⟨.inr rfl, _, _, rfl, rfl⟩
 refine LWp.sh 11 ?_
 refine LWp.sh 12 ?_
 refine LWp.sh 13 ?_
 refine LWp.o 14 (B false) ?_
 refine LWp.o 6 (B false) ?_
 refine LWp.nil ?_
 cases h
 exact Wp.ret ⟨.inr rfl, _, _, rfl, rfl⟩
theorem i_isRoot_t (xA : Arena) (xRoot : Int) (r : Bool) (h : i_isRoot xA xRoot = some r) : Gives Tryz.prog 182 [.sv (.agg [.sl false 218 2 (encs (c218 false) xA.Knots)]), .sv (I xRoot)] (B r) (List.replicate 2 .gone) := by
 unfold i_isRoot at h
 refine gives_of Tryz.func182 rfl ?_
 rw [Tryz.ntmps182]
 refine Wp.seq (Wp.region ?_)
 refine LWp.b [] 2 [.sl false 218 2 (encs (c218 false) xA.Knots)] ?_
 refine LWp.o 4 (B false) ?_
 refine LWp.nil ?_
 refine Wp.seq (Wp.region ?_)
 refine LWp.o 5 (I xRoot) ?_
 refine LWp.o 6 (.one (.ptr (.box 2) 1 [] 0)) ?_
 refine LWp.o 7 (.one (.sl false 218 2 (encs (c218 false) xA.Knots))) ?_
 refine LWp.o 8 (I (ln xA.Knots)) ?_ (st_pure (p_ln (k218 false) xA.Knots))
 refine LWp.o 9 (I (sb (ln xA.Knots) 1)) ?_
 refine LWp.cl h 10 (fun v1 => (B v1)) rfl (l := [.sv (.one (.int .i64 xRoot)), .sv (.one (.int .i64 0)), .sv (.one (.int .i64 (sb (ln xA.Knots) 1)))]) rfl (fun v hv => i_in_t xRoot 0 (sb (ln xA.Knots) 1) v hv) (.inl rfl) ?_
 intro v1 gv1 h
 refine LWp.o 11 (B v1) ?_
 refine LWp.sp h 11 (fun h => ?_) (fun h => ?_)
 · refine LWp.o 12 (.one (.ptr (.box 2) 1 [] 0)) ?_
   refine LWp.o 13 (.one (.sl false 218 2 (encs (c218 false) xA.Knots))) ?_
   refine LWp.o 14 (I xRoot) ?_
   refine LWp.p h 15 (fun _ => (.one (.ptr (.slot 13) 1 [0] (Int.toNat xRoot * 2 + 0)))) ?_ (fun x1 gx1 => st_pure (p_ix (k218 false) (.slot 13) [] 0 gx1))
   intro x1 gx1 h
   refine LWp.o 16 (.one (.ptr (.slot 13) 1 [0] (Int.toNat xRoot * 2 + 0))) ?_ (st_pure (p_fa (k218 false) (.slot 13) [0] 0 gx1))
   refine LWp.o 17 (B x1.Leaf) ?_ (st_pure (p_lc (k218 false) (.slot 13) [0] 0 (.bool x1.Leaf) gx1))
   refine LWp.o 18 (B (!x1.Leaf)) ?_
   refine LWp.o 19 (B (!x1.Leaf)) ?_
   refine LWp.o 4 (B (!x1.Leaf)) ?_
   refine LWp.nil ?_
   cases h
   exact Wp.ret ⟨.inr rfl, _, _, rfl, rfl⟩
 refine LWp.sh 12 ?_
 refine LWp.sh 13 ?_
 refine LWp.sh 14 ?_
 refine LWp.sh 15 ?_
 refine LWp.sh 16 ?_
 refine LWp.sh 17 ?_
 refine LWp.sh 18 ?_
 refine LWp.o 19 (B false) ?_
 refine LWp.o 4 (B false) ?_
 refine LWp.nil ?_
 cases h
 exact Wp.ret ⟨.inr rfl, _, _, rfl, rfl⟩
def i_ArenaOk_H1 (xA : Arena) (z1 : Int) : St := mkSt [(1, (.one (.ptr (.box 1) 0 [] 0))), (8, (.one (.sl false 218 2 (encs (c218 false) xA.Knots)))), (9, (I (ln xA.Knots))), (10, (I z1))] [(.box 1, [.sl false 218 2 (encs (c218 false) xA.Knots)])]
def i_ArenaOk_H2  : St := mkSt [] []
def i_ArenaOk_H3 (xA : Arena) (y1 : Int) (x1 : Knot) (z2 : Int) : St := mkSt [(1, (.one (.ptr (.box 1) 0 [] 0))), (3, (I y1)), (4, (.one (.ptr (.box 4) 0 [] 0))), (8, (.one (.sl false 218 2 (encs (c218 false) xA.Knots)))), (9, (I (ln xA.Knots))), (10, (I y1)), (20, (.one (.sl false 3 1 (encs c3 x1.Kids)))), (21, (I (ln x1.Kids))), (22, (I z2))] [(.box 1, [.sl false 218 2 (encs (c218 false) xA.Knots)]), (.box 4, [.bool x1.Leaf, .sl false 3 1 (encs c3 x1.Kids)])]
def i_ArenaOk_H4 (xA : Arena) (y1 : Int) : St := mkSt [(1, (.one (.ptr (.box 1) 0 [] 0))), (8, (.one (.sl false 218 2 (encs (c218 false) xA.Knots)))), (9, (I (ln xA.Knots))), (10, (I y1))] [(.box 1, [.sl false 218 2 (encs (c218 false) xA.Knots)])]
def i_ArenaOk_H5 (xA : Arena) (y1 : Int) (x1 : Knot) (y2 : Int) (z3 : Bool) : St := mkSt [(1, (.one (.ptr (.box 1) 0 [] 0))), (3, (I y1)), (4, (.one (.ptr (.box 4) 0 [] 0))), (8, (.one (.sl false 218 2 (encs (c218 false) xA.Knots)))), (9, (I (ln xA.Knots))), (10, (I y1)), (20, (.one (.sl false 3 1 (encs c3 x1.Kids)))), (21, (I (ln x1.Kids))), (22, (I y2)), (56, (B z3))] [(.box 1, [.sl false 218 2 (encs (c218 false) xA.Knots)]), (.box 4, [.bool x1.Leaf, .sl false 3 1 (encs c3 x1.Kids)])]
theorem i_ArenaOk_t (xA : Arena) (r : Bool) (h : i_ArenaOk xA = some r) : Gives Tryz.prog 183 [.sv (.agg [.sl false 218 2 (encs (c218 false) xA.Knots)])] (B r) (List.replicate 1 .gone) := by
 unfold i_ArenaOk at h
 refine gives_of Tryz.func183 rfl ?_
 rw [Tryz.ntmps183]
 refine Wp.seq (Wp.region ?_)
 refine LWp.b [] 1 [.sl false 218 2 (encs (c218 false) xA.Knots)] ?_
 refine LWp.o 2 (B false) ?_
 refine LWp.nil ?_
 refine Wp.seq ?_
 refine Wp.seq (Wp.region ?_)
 refine LWp.o 7 (.one (.ptr (.box 1) 1 [] 0)) ?_
 refine LWp.o 8 (.one (.sl false 218 2 (encs (c218 false) xA.Knots))) ?_
 refine LWp.o 9 (I (ln xA.Knots)) ?_ (st_pure (p_ln (k218 false) xA.Knots))
 refine LWp.o 10 (I 0) ?_
 refine LWp.nil ?_
 refine Wp.l2 h [1, 8, 9, 10] [.box 1] (fun s => (i_ArenaOk_H1 xA s)) [] [] (fun _ => i_ArenaOk_H2) ⟨rfl, rfl⟩ ?_ ?_
 · rintro y1 o (h : i_ArenaOk_b1 xA y1 = some o) hk1
   unfold i_ArenaOk_b1 at h
   change Wp _ _ _ (i_ArenaOk_H1 xA y1) _
   refine Wp.seq (Wp.region ?_)
   refine LWp.o 11 (B (decide (y1 < (ln xA.Knots)))) ?_
   refine LWp.nil ?_
   refine Wp.seq ?_
   refine Wp.c h (fun h => ?_) (fun h => ?_)
   · refine Wp.skip ?_
     refine Wp.seq ?_
     refine Wp.block ?_
     refine Wp.seq (Wp.region ?_)
     refine LWp.o 12 (I y1) ?_
     refine LWp.p h 13 (fun _ => (.one (.ptr (.slot 8) 0 [0] (Int.toNat y1 * 2 + 0)))) ?_ (fun x1 gx1 => st_pure (p_ix (k218 false) (.slot 8) [] 0 gx1))
     intro x1 gx1 h
     refine LWp.o 14 (.agg [.bool x1.Leaf, .sl false 3 1 (encs c3 x1.Kids)]) ?_ (st_pure (p_le (k218 false) (.slot 8) [0] gx1))
     refine LWp.b [] 4 [.bool false, .sl true 3 1 (encs c3 [])] ?_
     refine LWp.o 3 (I y1) ?_
     refine LWp.sb [] (.box 4) [.bool x1.Leaf, .sl false 3 1 (encs c3 x1.Kids)] ?_
     refine LWp.nil ?_
     refine Wp.seq ?_
     refine Wp.seq (Wp.region ?_)
     refine LWp.o 15 (.one (.ptr (.box 4) 1 [] 1)) ?_
     refine LWp.o 16 (.one (.sl false 3 1 (encs c3 x1.Kids))) ?_
     refine LWp.o 17 (I (ln x1.Kids)) ?_ (st_pure (p_ln k3 x1.Kids))
     refine LWp.o 18 (B ((ln x1.Kids) != 4)) ?_
     refine LWp.nil ?_
     refine Wp.c h (fun h => ?_) (fun h => ?_)
     · refine Wp.seq (Wp.region ?_)
       refine LWp.o 2 (B false) ?_
       refine LWp.nil ?_
       cases h
       replace h : some _ = some _ := hk1 _ rfl
       cases h
       exact Wp.ret ⟨.inr rfl, _, _, rfl, rfl⟩
     refine Wp.skip ?_
     refine Wp.seq (Wp.region ?_)
     refine LWp.o 19 (.one (.ptr (.box 4) 1 [] 1)) ?_
     refine LWp.o 20 (.one (.sl false 3 1 (encs c3 x1.Kids))) ?_
     refine LWp.o 21 (I (ln x1.Kids)) ?_ (st_pure (p_ln k3 x1.Kids))
     refine LWp.o 22 (I 0) ?_
     refine LWp.nil ?_
     refine Wp.l2 h [1, 3, 4, 8, 9, 10, 20, 21, 22] [.box 1, .box 4] (fun s => (i_ArenaOk_H3 xA y1 x1 s)) [1, 8, 9, 10] [.box 1] (fun _ => (i_ArenaOk_H4 xA y1)) ⟨rfl, rfl⟩ ?_ ?_
     · rintro y2 o (h : i_ArenaOk_b2 xA y1 x1 y2 = some o) hk2
       unfold i_ArenaOk_b2 at h
       change Wp _ _ _ (i_ArenaOk_H3 xA y1 x1 y2) _
       refine Wp.seq (Wp.region ?_)
       refine LWp.o 23 (B (decide (y2 < (ln x1.Kids)))) ?_
       refine LWp.nil ?_
       refine Wp.seq ?_
       refine Wp.c h (fun h => ?_) (fun h => ?_)
       · refine Wp.skip ?_
         refine Wp.seq ?_
         refine Wp.block ?_
         refine Wp.seq (Wp.region ?_)
         refine LWp.p h 24 (fun _ => (.one (.ptr (.slot 20) 0 [0] (Int.toNat y2 * 1 + 0)))) ?_ (fun x2 gx2 => st_pure (p_ix k3 (.slot 20) [] 0 gx2))
         intro x2 gx2 h
         refine LWp.o 25 (I x2) ?_ (st_pure (p_lc k3 (.slot 20) [0] 0 (.int .i64 x2) gx2))
         refine LWp.o 6 (I x2) ?_
         refine LWp.nil ?_
         refine Wp.seq ?_
         refine Wp.j1 h [1, 3, 4, 8, 9, 10, 20, 21, 22, 56] [.box 1, .box 4] (fun a => (i_ArenaOk_H5 xA y1 x1 y2 a)) ?_ ?_
         · intro a h
           refine Wp.region ?_
           refine LWp.o 26 (.one (.ptr (.box 4) 0 [] 0)) ?_
           refine LWp.o 27 (B x1.Leaf) ?_
           refine LWp.o 28 (B x1.Leaf) ?_
           refine LWp.sp h 28 (fun h => ?_) (fun h => ?_)
           · refine LWp.o 29 (I x2) ?_
             refine LWp.o 30 (B (decide (x2 < 0))) ?_
             refine LWp.o 31 (B (decide (x2 < 0))) ?_
             refine LWp.o 32 (B (decide (x2 < 0))) ?_
             refine LWp.sp h 32 (fun h => ?_) (fun h => ?_)
             · refine LWp.sh 33 ?_
               refine LWp.sh 34 ?_
               refine LWp.sh 35 ?_
               refine LWp.sh 36 ?_
               refine LWp.sh 37 ?_
               refine LWp.sh 38 ?_
               refine LWp.sh 39 ?_
               refine LWp.sh 40 ?_
               refine LWp.sh 41 ?_
               refine LWp.sh 42 ?_
               refine LWp.sh 43 ?_
               refine LWp.sh 44 ?_
               refine LWp.sh 45 ?_
               refine LWp.sh 46 ?_
               refine LWp.sh 47 ?_
               refine LWp.sh 48 ?_
               refine LWp.sh 49 ?_
               refine LWp.sh 50 ?_
               refine LWp.sh 51 ?_
               refine LWp.sh 52 ?_
               refine LWp.sh 53 ?_
               refine LWp.sh 54 ?_
               refine LWp.sh 55 ?_
               refine LWp.o 56 (B true) ?_
               refine LWp.nil ?_
               cases h
               exact ⟨_, rfl, rfl, rfl⟩
             refine LWp.o 33 (.one (.ptr (.box 4) 0 [] 0)) ?_
             refine LWp.o 34 (B x1.Leaf) ?_
             refine LWp.o 35 (B (!x1.Leaf)) ?_
             refine LWp.o 36 (B (!x1.Leaf)) ?_
             refine LWp.sp h 36 (fun h => ?_) (fun h => ?_)
             · refine LWp.o 37 (I x2) ?_
               refine LWp.o 38 (B (x2 != (-1))) ?_
               refine LWp.o 39 (B (x2 != (-1))) ?_
               refine LWp.o 40 (B (x2 != (-1))) ?_
               refine LWp.sp h 40 (fun h => ?_) (fun h => ?_)
               · refine LWp.o 41 (I x2) ?_
                 refine LWp.o 42 (I y1) ?_
                 refine LWp.o 43 (I (sb y1 1)) ?_
                 refine LWp.cl h 44 (fun v1 => (B v1)) rfl (l := [.sv (.one (.int .i64 x2)), .sv (.one (.int .i64 0)), .sv (.one (.int .i64 (sb y1 1)))]) rfl (fun v hv => i_in_t x2 0 (sb y1 1) v hv) (.inl rfl) ?_
                 intro v1 gv1 h
                 refine LWp.o 45 (B (!v1)) ?_
                 refine LWp.o 46 (B (!v1)) ?_
                 refine LWp.sp h 46 (fun h => ?_) (fun h => ?_)
                 · refine LWp.sh 47 ?_
                   refine LWp.sh 48 ?_
                   refine LWp.sh 49 ?_
                   refine LWp.sh 50 ?_
                   refine LWp.sh 51 ?_
                   refine LWp.sh 52 ?_
                   refine LWp.sh 53 ?_
                   refine LWp.o 54 (B true) ?_
                   refine LWp.o 55 (B true) ?_
                   refine LWp.o 56 (B true) ?_
                   refine LWp.nil ?_
                   cases h
                   exact ⟨_, rfl, rfl, rfl⟩
                 refine LWp.o 47 (.one (.ptr (.box 1) 0 [] 0)) ?_
                 refine LWp.o 48 (.one (.sl false 218 2 (encs (c218 false) xA.Knots))) ?_
                 refine LWp.o 49 (I x2) ?_
                 refine LWp.p h 50 (fun _ => (.one (.ptr (.slot 48) 1 [0] (Int.toNat x2 * 2 + 0)))) ?_ (fun x3 gx3 => st_pure (p_ix (k218 false) (.slot 48) [] 0 gx3))
                 intro x3 gx3 h
                 refine LWp.o 51 (.one (.ptr (.slot 48) 1 [0] (Int.toNat x2 * 2 + 0))) ?_ (st_pure (p_fa (k218 false) (.slot 48) [0] 0 gx3))
                 refine LWp.o 52 (B x3.Leaf) ?_ (st_pure (p_lc (k218 false) (.slot 48) [0] 0 (.bool x3.Leaf) gx3))
                 refine LWp.o 53 (B (!x3.Leaf)) ?_
                 refine LWp.o 54 (B (!x3.Leaf)) ?_
                 refine LWp.o 55 (B (!x3.Leaf)) ?_
                 refine LWp.o 56 (B (!x3.Leaf)) ?_
                 refine LWp.nil ?_
                 cases h
                 exact ⟨_, rfl, rfl, rfl⟩
               refine LWp.sh 41 ?_
               refine LWp.sh 42 ?_
               refine LWp.sh 43 ?_
               refine LWp.sh 44 ?_
               refine LWp.sh 45 ?_
               refine LWp.sh 46 ?_
               refine LWp.sh 47 ?_
               refine LWp.sh 48 ?_
               refine LWp.sh 49 ?_
               refine LWp.sh 50 ?_
               refine LWp.sh 51 ?_
               refine LWp.sh 52 ?_
               refine LWp.sh 53 ?_
               refine LWp.sh 54 ?_
               refine LWp.o 55 (B false) ?_
               refine LWp.o 56 (B false) ?_
               refine LWp.nil ?_
               cases h
               exact ⟨_, rfl, rfl, rfl⟩
             refine LWp.sh 37 ?_
             refine LWp.sh 38 ?_
             refine LWp.o 39 (B false) ?_
             refine LWp.o 40 (B false) ?_
             refine LWp.sh 41 ?_
             refine LWp.sh 42 ?_
             refine LWp.sh 43 ?_
             refine LWp.sh 44 ?_
             refine LWp.sh 45 ?_
             refine LWp.sh 46 ?_
             refine LWp.sh 47 ?_
             refine LWp.sh 48 ?_
             refine LWp.sh 49 ?_
             refine LWp.sh 50 ?_
             refine LWp.sh 51 ?_
             refine LWp.sh 52 ?_
             refine LWp.sh 53 ?_
             refine LWp.sh 54 ?_
             refine LWp.o 55 (B false) ?_
             refine LWp.o 56 (B false) ?_
             refine LWp.nil ?_
             cases h
             exact ⟨_, rfl, rfl, rfl⟩
           refine LWp.sh 29 ?_
           refine LWp.sh 30 ?_
           refine LWp.o 31 (B false) ?_
           refine LWp.o 32 (B false) ?_
           refine LWp.o 33 (.one (.ptr (.box 4) 0 [] 0)) ?_
           refine LWp.o 34 (B x1.Leaf) ?_
           refine LWp.o 35 (B (!x1.Leaf)) ?_
           refine LWp.o 36 (B (!x1.Leaf)) ?_
           refine LWp.sp h 36 (fun h => ?_) (fun h => ?_)
           · refine LWp.o 37 (I x2) ?_
             refine LWp.o 38 (B (x2 != (-1))) ?_
             refine LWp.o 39 (B (x2 != (-1))) ?_
             refine LWp.o 40 (B (x2 != (-1))) ?_
             refine LWp.sp h 40 (fun h => ?_) (fun h => ?_)
             · refine LWp.o 41 (I x2) ?_
               refine LWp.o 42 (I y1) ?_
               refine LWp.o 43 (I (sb y1 1)) ?_
               refine LWp.cl h 44 (fun v2 => (B v2)) rfl (l := [.sv (.one (.int .i64 x2)), .sv (.one (.int .i64 0)), .sv (.one (.int .i64 (sb y1 1)))]) rfl (fun v hv => i_in_t x2 0 (sb y1 1) v hv) (.inl rfl) ?_
               intro v2 gv2 h
               refine LWp.o 45 (B (!v2)) ?_
               refine LWp.o 46 (B (!v2)) ?_
               refine LWp.sp h 46 (fun h => ?_) (fun h => ?_)
               · refine LWp.sh 47 ?_
                 refine LWp.sh 48 ?_
                 refine LWp.sh 49 ?_
                 refine LWp.sh 50 ?_
                 refine LWp.sh 51 ?_
                 refine LWp.sh 52 ?_
                 refine LWp.sh 53 ?_
                 refine LWp.o 54 (B true) ?_
                 refine LWp.o 55 (B true) ?_
                 refine LWp.o 56 (B true) ?_
                 refine LWp.nil ?_
                 cases h
                 exact ⟨_, rfl, rfl, rfl⟩
               refine LWp.o 47 (.one (.ptr (.box 1) 0 [] 0)) ?_
               refine LWp.o 48 (.one (.sl false 218 2 (encs (c218 false) xA.Knots))) ?_
               refine LWp.o 49 (I x2) ?_
               refine LWp.p h 50 (fun _ => (.one (.ptr (.slot 48) 1 [0] (Int.toNat x2 * 2 + 0)))) ?_ (fun x4 gx4 => st_pure (p_ix (k218 false) (.slot 48) [] 0 gx4))
               intro x4 gx4 h
               refine LWp.o 51 (.one (.ptr (.slot 48) 1 [0] (Int.toNat x2 * 2 + 0))) ?_ (st_pure (p_fa (k218 false) (.slot 48) [0] 0 gx4))
               refine LWp.o 52 (B x4.Leaf) ?_ (st_pure (p_lc (k218 false) (.slot 48) [0] 0 (.bool x4.Leaf) gx4))
               refine LWp.o 53 (B (!x4.Leaf)) ?_
               refine LWp.o 54 (B (!x4.Leaf)) ?_
               refine LWp.o 55 (B (!x4.Leaf)) ?_
               refine LWp.o 56 (B (!x4.Leaf)) ?_
               refine LWp.nil ?_
               cases h
               exact ⟨_, rfl, rfl, rfl⟩
             refine LWp.sh 41 ?_
             refine LWp.sh 42 ?_
             refine LWp.sh 43 ?_
             refine LWp.sh 44 ?_
             refine LWp.sh 45 ?_
             refine LWp.sh 46 ?_
             refine LWp.sh 47 ?_
             refine LWp.sh 48 ?_
             refine LWp.sh 49 ?_
             refine LWp.sh 50 ?_
             refine LWp.sh 51 ?_
             refine LWp.sh 52 ?_
             refine LWp.sh 53 ?_
             refine LWp.sh 54 ?_
             refine LWp.o 55 (B false) ?_
             refine LWp.o 56 (B false) ?_
             refine LWp.nil ?_
             cases h
             exact ⟨_, rfl, rfl, rfl⟩
           refine LWp.sh 37 ?_
           refine LWp.sh 38 ?_
           refine LWp.o 39 (B false) ?_
           refine LWp.o 40 (B false) ?_
           refine LWp.sh 41 ?_
           refine LWp.sh 42 ?_
           refine LWp.sh 43 ?_
           refine LWp.sh 44 ?_
           refine LWp.sh 45 ?_
           refine LWp.sh 46 ?_
           refine LWp.sh 47 ?_
           refine LWp.sh 48 ?_
           refine LWp.sh 49 ?_
           refine LWp.sh 50 ?_
           refine LWp.sh 51 ?_
           refine LWp.sh 52 ?_
           refine LWp.sh 53 ?_
           refine LWp.sh 54 ?_
           refine LWp.o 55 (B false) ?_
           refine LWp.o 56 (B false) ?_
           refine LWp.nil ?_
           cases h
           exact ⟨_, rfl, rfl, rfl⟩
         intro j1 h E hE
         refine nt_wp hE ?_
         change Wp _ _ _ (i_ArenaOk_H5 xA y1 x1 y2 j1) _
         refine Wp.c h (fun h => ?_) (fun h => ?_)
         · refine Wp.seq (Wp.region ?_)
           refine LWp.o 2 (B false) ?_
           refine LWp.nil ?_
           cases h
           replace h : some _ = some _ := hk2 _ rfl
           cases h
           replace h : some _ = some _ := hk1 _ rfl
           cases h
           exact Wp.ret ⟨.inr rfl, _, _, rfl, rfl⟩
         refine Wp.skip ?_
         refine Wp.region ?_
         refine LWp.o 57 (I (ad y2 1)) ?_
         refine LWp.o 22 (I (ad y2 1)) ?_
         refine LWp.nil ?_
         cases h
         exact ⟨_, rfl, rfl, rfl⟩
       refine Wp.exit ?_
       cases h
       exact ⟨_, rfl, rfl, rfl⟩
     intro v3 h E hE
     refine nt_wp hE ?_
     change Wp _ _ _ (i_ArenaOk_H4 xA y1) _
     refine Wp.region ?_
     refine LWp.o 58 (I (ad y1 1)) ?_
     refine LWp.o 10 (I (ad y1 1)) ?_
     refine LWp.nil ?_
     cases h
     exact ⟨_, rfl, rfl, rfl⟩
   refine Wp.exit ?_
   cases h
   exact ⟨_, rfl, rfl, rfl⟩
 intro v4 h E hE
 refine nt_wp hE ?_
 change Wp _ _ _ i_ArenaOk_H2 _
 refine Wp.seq (Wp.region ?_)
 refine LWp.o 2 (B true) ?_
 refine LWp.nil ?_
 cases h
 exact Wp.ret ⟨.inr rfl, _, _, rfl, rfl⟩
theorem i_numberAt_t (xA : Arena) (xRoot : Int) (xSector : Int) (r : Int) (h : i_numberAt xA xRoot xSector = some r) : Gives Tryz.prog 184 [.sv (.agg [.sl false 218 2 (encs (c218 false) xA.Knots)]), .sv (I xRoot), .sv (I xSector)] (I r) (List.replicate 3 .gone) := by
 unfold i_numberAt at h
 refine gives_of Tryz.func184 rfl ?_
 rw [Tryz.ntmps184]
 refine Wp.seq (Wp.region ?_)
 refine LWp.b [] 3 [.sl false 218 2 (encs (c218 false) xA.Knots)] ?_
 refine LWp.o 6 (I 0) ?_
 refine LWp.nil ?_
 refine Wp.seq (Wp.region ?_)
 refine LWp.o 8 (.one (.ptr (.box 3) 1 [] 0)) ?_
 refine LWp.o 9 (.one (.sl false 218 2 (encs (c218 false) xA.Knots))) ?_
 refine LWp.o 10 (I xRoot) ?_
 refine LWp.p h 11 (fun _ => (.one (.ptr (.slot 9) 1 [0] (Int.toNat xRoot * 2 + 0)))) ?_ (fun x1 gx1 => st_pure (p_ix (k218 false) (.slot 9) [] 0 gx1))
 intro x1 gx1 h
 refine LWp.o 12 (.one (.ptr (.slot 9) 1 [0] (Int.toNat xRoot * 2 + 1))) ?_ (st_pure (p_fa (k218 false) (.slot 9) [0] 0 gx1))
 refine LWp.o 13 (.one (.sl false 3 1 (encs c3 x1.Kids))) ?_ (st_pure (p_lc (k218 false) (.slot 9) [0] 1 (.sl false 3 1 (encs c3 x1.Kids)) gx1))
 refine LWp.o 14 (I xSector) ?_
 refine LWp.o 15 (I (qu xSector 4)) ?_
 refine LWp.p h 16 (fun _ => (.one (.ptr (.slot 13) 1 [0] (Int.toNat (qu xSector 4) * 1 + 0)))) ?_ (fun x2 gx2 => st_pure (p_ix k3 (.slot 13) [] 0 gx2))
 intro x2 gx2 h
 refine LWp.o 17 (I x2) ?_ (st_pure (p_lc k3 (.slot 13) [0] 0 (.int .i64 x2) gx2))
 refine LWp.o 7 (I x2) ?_
 refine LWp.nil ?_
 refine Wp.seq ?_
 refine Wp.seq (Wp.region ?_)
 refine LWp.o 18 (I x2) ?_
 refine LWp.o 19 (B (decide (x2 < 0))) ?_
 refine LWp.nil ?_
 refine Wp.c h (fun h => ?_) (fun h => ?_)
 · refine Wp.seq (Wp.region ?_)
   refine LWp.o 6 (I 0) ?_
   refine LWp.nil ?_
   cases h
   exact Wp.ret ⟨.inr rfl, _, _, rfl, rfl⟩
 refine Wp.skip ?_
 refine Wp.seq (Wp.region ?_)
 refine LWp.o 20 (.one (.ptr (.box 3) 1 [] 0)) ?_
 refine LWp.o 21 (.one (.sl false 218 2 (encs (c218 false) xA.Knots))) ?_
 refine LWp.o 22 (I x2) ?_
 refine LWp.p h 23 (fun _ => (.one (.ptr (.slot 21) 1 [0] (Int.toNat x2 * 2 + 0)))) ?_ (fun x3 gx3 => st_pure (p_ix (k218 false) (.slot 21) [] 0 gx3))
 intro x3 gx3 h
 refine LWp.o 24 (.one (.ptr (.slot 21) 1 [0] (Int.toNat x2 * 2 + 1))) ?_ (st_pure (p_fa (k218 false) (.slot 21) [0] 0 gx3))
 refine LWp.o 25 (.one (.sl false 3 1 (encs c3 x3.Kids))) ?_ (st_pure (p_lc (k218 false) (.slot 21) [0] 1 (.sl false 3 1 (encs c3 x3.Kids)) gx3))
 refine LWp.o 26 (I xSector) ?_
 refine LWp.o 27 (I (Int.tmod xSector 4)) ?_
 refine LWp.p h 28 (fun _ => (.one (.ptr (.slot 25) 1 [0] (Int.toNat (Int.tmod xSector 4) * 1 + 0)))) ?_ (fun x4 gx4 => st_pure (p_ix k3 (.slot 25) [] 0 gx4))
 intro x4 gx4 h
 refine LWp.o 29 (I x4) ?_ (st_pure (p_lc k3 (.slot 25) [0] 0 (.int .i64 x4) gx4))
 refine LWp.o 6 (I x4) ?_
 refine LWp.nil ?_
 cases h
 exact Wp.ret ⟨.inr rfl, _, _, rfl, rfl⟩
def i_GetAt_H1 (xA : Arena) (xRoot : Int) (xSector : Int) (z1 : Bool) : St := mkSt [(1, (I xRoot)), (2, (I xSector)), (3, (.one (.ptr (.box 3) 0 [] 0))), (20, (B z1))] [(.box 3, [.sl false 218 2 (encs (c218 false) xA.Knots)])]
theorem i_GetAt_t (xA : Arena) (xRoot : Int) (xSector : Int) (r : Int) (h : i_GetAt xA xRoot xSector = some r) : Gives Tryz.prog 151 [.sv (.agg [.sl false 218 2 (encs (c218 false) xA.Knots)]), .sv (I xRoot), .sv (I xSector)] (I r) (List.replicate 3 .gone) := by
 unfold i_GetAt at h
 refine gives_of Tryz.func151 rfl ?_
 rw [Tryz.ntmps151]
 refine Wp.seq (Wp.region ?_)
 refine LWp.b [] 3 [.sl false 218 2 (encs (c218 false) xA.Knots)] ?_
 refine LWp.o 6 (I 0) ?_
 refine LWp.nil ?_
 refine Wp.seq ?_
 refine Wp.seq ?_
 refine Wp.j1 h [1, 2, 3, 20] [.box 3] (fun a => (i_GetAt_H1 xA xRoot xSector a)) ?_ ?_
 · intro a h
   refine Wp.region ?_
   refine LWp.o 7 (I xSector) ?_
   refine LWp.cl h 8 (fun v1 => (B v1)) rfl (l := [.sv (.one (.int .i64 xSector)), .sv (.one (.int .i64 0)), .sv (.one (.int .i64 15))]) rfl (fun v hv => i_in_t xSector 0 15 v hv) (.inl rfl) ?_
   intro v1 gv1 h
   refine LWp.o 9 (B (!v1)) ?_
   refine LWp.o 10 (B (!v1)) ?_
   refine LWp.sp h 10 (fun h => ?_) (fun h => ?_)
   · refine LWp.sh 11 ?_
     refine LWp.sh 12 ?_
     refine LWp.sh 13 ?_
     refine LWp.sh 14 ?_
     refine LWp.o 15 (B true) ?_
     refine LWp.o 16 (B true) ?_
     refine LWp.sh 17 ?_
     refine LWp.sh 18 ?_
     refine LWp.sh 19 ?_
     refine LWp.o 20 (B true) ?_
     refine LWp.nil ?_
     cases h
     exact ⟨_, rfl, rfl, rfl⟩
   refine LWp.o 11 (.agg [.sl false 218 2 (encs (c218 false) xA.Knots)]) ?_
   refine LWp.o 12 (I xRoot) ?_
   refine LWp.cl h 13 (fun v2 => (B v2)) rfl (l := [.sv (.agg [.sl false 218 2 (encs (c218 false) xA.Knots)]), .sv (.one (.int .i64 xRoot))]) rfl (fun v hv => i_isRoot_t xA xRoot v hv) (.inl rfl) ?_
   intro v2 gv2 h
   refine LWp.o 14 (B (!v2)) ?_
   refine LWp.o 15 (B (!v2)) ?_
   refine LWp.o 16 (B (!v2)) ?_
   refine LWp.sp h 16 (fun h => ?_) (fun h => ?_)
   · refine LWp.sh 17 ?_
     refine LWp.sh 18 ?_
     refine LWp.sh 19 ?_
     refine LWp.o 20 (B true) ?_
     refine LWp.nil ?_
     cases h
     exact ⟨_, rfl, rfl, rfl⟩
   refine LWp.o 17 (.agg [.sl false 218 2 (encs (c218 false) xA.Knots)]) ?_
   refine LWp.cl h 18 (fun v3 => (B v3)) rfl (l := [.sv (.agg [.sl false 218 2 (encs (c218 false) xA.Knots)])]) rfl (fun v hv => i_ArenaOk_t xA v hv) (.inl rfl) ?_
   intro v3 gv3 h
   refine LWp.o 19 (B (!v3)) ?_
   refine LWp.o 20 (B (!v3)) ?_
   refine LWp.nil ?_
   cases h
   exact ⟨_, rfl, rfl, rfl⟩
 intro j1 h E hE
 refine nt_wp hE ?_
 change Wp _ _ _ (i_GetAt_H1 xA xRoot xSector j1) _
 refine Wp.c h (fun h => ?_) (fun h => ?_)
 · refine Wp.seq (Wp.region ?_)
   refine LWp.o 6 (I 0) ?_
   refine LWp.nil ?_
   cases h
   exact Wp.ret ⟨.inr rfl, _, _, rfl, rfl⟩
 refine Wp.skip ?_
 refine Wp.seq (Wp.region ?_)
 refine LWp.o 21 (.agg [.sl false 218 2 (encs (c218 false) xA.Knots)]) ?_
 refine LWp.o 22 (I xRoot) ?_
 refine LWp.o 23 (I xSector) ?_
 refine LWp.cl h 24 (fun v4 => (I v4)) rfl (l := [.sv (.agg [.sl false 218 2 (encs (c218 false) xA.Knots)]), .sv (.one (.int .i64 xRoot)), .sv (.one (.int .i64 xSector))]) rfl (fun v hv => i_numberAt_t xA xRoot xSector v hv) (.inl rfl) ?_
 intro v4 gv4 h
 refine LWp.o 6 (I v4) ?_
 refine LWp.nil ?_
 cases h
 exact Wp.ret ⟨.inr rfl, _, _, rfl, rfl⟩
def i_AllAt_H1 (xA : Arena) (xRoot : Int) (z1 : List Int) (z2 : Int) : St := mkSt [(1, (I xRoot)), (2, (.one (.ptr (.box 2) 0 [] 0))), (5, (.one (.sl true 3 1 (encs c3 z1)))), (7, (I z2))] [(.box 2, [.sl false 218 2 (encs (c218 false) xA.Knots)])]
def i_AllAt_H2 (z3 : List Int) : St := mkSt [(5, (.one (.sl true 3 1 (encs c3 z3))))] []
theorem i_AllAt_t (xA : Arena) (xRoot : Int) (r : List Int) (h : i_AllAt xA xRoot = some r) : Gives Tryz.prog 100 [.sv (.agg [.sl false 218 2 (encs (c218 false) xA.Knots)]), .sv (I xRoot)] (.one (.sl true 3 1 (encs c3 r))) (List.replicate 2 .gone) := by
 unfold i_AllAt at h
 refine gives_of Tryz.func100 rfl ?_
 rw [Tryz.ntmps100]
 refine Wp.seq (Wp.region ?_)
 refine LWp.b [] 2 [.sl false 218 2 (encs (c218 false) xA.Knots)] ?_
 refine LWp.o 4 (.one (.sl true 3 1 (encs c3 []))) ?_
 refine LWp.nil ?_
 refine Wp.seq (Wp.region ?_)
 refine LWp.o 5 (.one (.sl true 3 1 (encs c3 []))) ?_
 refine LWp.nil ?_
 refine Wp.seq ?_
 refine Wp.seq (Wp.region ?_)
 refine LWp.o 7 (I 0) ?_
 refine LWp.nil ?_
 refine Wp.l1 h [1, 2, 5, 7] [.box 2] (fun s => (i_AllAt_H1 xA xRoot s.1 s.2)) [5] [] (fun s => (i_AllAt_H2 s)) ⟨rfl, rfl⟩ ?_ ?_
 · rintro ⟨yOut1, y1⟩ o (h : i_AllAt_b1 xA xRoot yOut1 y1 = some o)
   unfold i_AllAt_b1 at h
   change Wp _ _ _ (i_AllAt_H1 xA xRoot yOut1 y1) _
   refine Wp.seq (Wp.region ?_)
   refine LWp.o 8 (B (decide (y1 < 16))) ?_
   refine LWp.nil ?_
   refine Wp.seq ?_
   refine Wp.c h (fun h => ?_) (fun h => ?_)
   · refine Wp.skip ?_
     refine Wp.seq ?_
     refine Wp.block ?_
     refine Wp.seq (Wp.region ?_)
     refine LWp.o 9 (I y1) ?_
     refine LWp.o 6 (I y1) ?_
     refine LWp.nil ?_
     refine Wp.region ?_
     refine LWp.o 10 (.one (.view (.slot 5) 0 [] 0)) ?_
     refine LWp.o 11 (.agg [.sl false 218 2 (encs (c218 false) xA.Knots)]) ?_
     refine LWp.o 12 (I xRoot) ?_
     refine LWp.o 13 (I y1) ?_
     refine LWp.cl h 14 (fun v1 => (I v1)) rfl (l := [.sv (.agg [.sl false 218 2 (encs (c218 false) xA.Knots)]), .sv (.one (.int .i64 xRoot)), .sv (.one (.int .i64 y1))]) rfl (fun v hv => i_GetAt_t xA xRoot y1 v hv) (.inl rfl) ?_
     intro v1 gv1 h
     refine LWp.m false [] 15 (.one (.sl true 3 1 (encs c3 [v1]))) ?_
     refine LWp.pm h [(.slot 5, [.junk])] 16 (fun q1 => (.one (.sl true 3 1 (encs c3 q1)))) ?_ (fun q1 gq1 => s_apl k3 (fun _ => rfl) [(.slot 5, [.junk])] yOut1 gq1)
     intro q1 gq1 h
     refine LWp.m true [(.slot 16, [.junk])] 5 (.one (.sl true 3 1 (encs c3 q1))) ?_
     refine LWp.nil ?_
     refine Wp.region ?_
     refine LWp.o 17 (I (ad y1 1)) ?_
     refine LWp.o 7 (I (ad y1 1)) ?_
     refine LWp.nil ?_
     cases h
     exact ⟨_, rfl, rfl, rfl⟩
   refine Wp.exit ?_
   cases h
   exact ⟨_, rfl, rfl, rfl⟩
 intro v2 h E hE
 refine nt_wp hE ?_
 change Wp _ _ _ (i_AllAt_H2 v2) _
 refine Wp.seq (Wp.region ?_)
 refine LWp.o 18 (.one (.view (.slot 5) 0 [] 0)) ?_
 refine LWp.m true [(.slot 5, [.junk])] 4 (.one (.sl true 3 1 (encs c3 v2))) ?_
 refine LWp.nil ?_
 cases h
 exact Wp.ret ⟨.inr rfl, _, _, rfl, rfl⟩
def i_chunksOf_H1 (xS : Store) (z1 : List Int) (z2 : Int) : St := mkSt [(1, (.one (.ptr (.box 1) 0 [] 0))), (3, (.one (.sl true 3 1 (encs c3 z1)))), (9, (.one (.sl false 110 2 (encs c110 xS.Vols)))), (10, (I (ln xS.Vols))), (11, (I z2))] [(.box 1, [.sl false 110 2 (encs c110 xS.Vols), .sl false 218 2 (encs (c218 false) xS.Arena.Knots), .int .i64 xS.Next])]
def i_chunksOf_H2 (z3 : List Int) : St := mkSt [(3, (.one (.sl true 3 1 (encs c3 z3))))] []
def i_chunksOf_H3 (xS : Store) (y1 : Int) (v1 : List Int) (z4 : List Int) (z5 : Int) : St := mkSt [(1, (.one (.ptr (.box 1) 0 [] 0))), (3, (.one (.sl true 3 1 (encs c3 z4)))), (9, (.one (.sl false 110 2 (encs c110 xS.Vols)))), (10, (I (ln xS.Vols))), (11, (I y1)), (19, (.one (.sl true 3 1 (encs c3 v1)))), (20, (I (ln v1))), (21, (I z5))] [(.box 1, [.sl false 110 2 (encs c110 xS.Vols), .sl false 218 2 (encs (c218 false) xS.Arena.Knots), .int .i64 xS.Next])]
def i_chunksOf_H4 (xS : Store) (y1 : Int) (z6 : List Int) : St := mkSt [(1, (.one (.ptr (.box 1) 0 [] 0))), (3, (.one (.sl true 3 1 (encs c3 z6)))), (9, (.one (.sl false 110 2 (encs c110 xS.Vols)))), (10, (I (ln xS.Vols))), (11, (I y1))] [(.box 1, [.sl false 110 2 (encs c110 xS.Vols), .sl false 218 2 (encs (c218 false) xS.Arena.Knots), .int .i64 xS.Next])]
theorem i_chunksOf_t (xS : Store) (r : List Int) (h : i_chunksOf xS = some r) : Gives Tryz.prog 114 [.sv (.agg [.sl false 110 2 (encs c110 xS.Vols), .sl false 218 2 (encs (c218 false) xS.Arena.Knots), .int .i64 xS.Next])] (.one (.sl true 3 1 (encs c3 r))) (List.replicate 1 .gone) := by
 unfold i_chunksOf at h
 refine gives_of Tryz.func114 rfl ?_
 rw [Tryz.ntmps114]
 refine Wp.seq (Wp.region ?_)
 refine LWp.b [] 1 [.sl false 110 2 (encs c110 xS.Vols), .sl false 218 2 (encs (c218 false) xS.Arena.Knots), .int .i64 xS.Next] ?_
 refine LWp.o 2 (.one (.sl true 3 1 (encs c3 []))) ?_
 refine LWp.nil ?_
 refine Wp.seq (Wp.region ?_)
 refine LWp.o 3 (.one (.sl true 3 1 (encs c3 []))) ?_
 refine LWp.nil ?_
 refine Wp.seq ?_
 refine Wp.seq (Wp.region ?_)
 refine LWp.o 8 (.one (.ptr (.box 1) 1 [] 0)) ?_
 refine LWp.o 9 (.one (.sl false 110 2 (encs c110 xS.Vols))) ?_
 refine LWp.o 10 (I (ln xS.Vols)) ?_ (st_pure (p_ln k110 xS.Vols))
 refine LWp.o 11 (I 0) ?_
 refine LWp.nil ?_
 refine Wp.l1 h [1, 3, 9, 10, 11] [.box 1] (fun s => (i_chunksOf_H1 xS s.1 s.2)) [3] [] (fun s => (i_chunksOf_H2 s)) ⟨rfl, rfl⟩ ?_ ?_
 · rintro ⟨yOut1, y1⟩ o (h : i_chunksOf_b1 xS yOut1 y1 = some o)
   unfold i_chunksOf_b1 at h
   change Wp _ _ _ (i_chunksOf_H1 xS yOut1 y1) _
   refine Wp.seq (Wp.region ?_)
   refine LWp.o 12 (B (decide (y1 < (ln xS.Vols)))) ?_
   refine LWp.nil ?_
   refine Wp.seq ?_
   refine Wp.c h (fun h => ?_) (fun h => ?_)
   · refine Wp.skip ?_
     refine Wp.seq ?_
     refine Wp.block ?_
     refine Wp.seq (Wp.region ?_)
     refine LWp.p h 13 (fun _ => (.one (.ptr (.slot 9) 0 [0] (Int.toNat y1 * 2 + 0)))) ?_ (fun x1 gx1 => st_pure (p_ix k110 (.slot 9) [] 0 gx1))
     intro x1 gx1 h
     refine LWp.o 14 (.agg [.int .i64 x1.Id, .int .i64 x1.Root]) ?_ (st_pure (p_le k110 (.slot 9) [0] gx1))
     refine LWp.b [] 5 [.int .i64 0, .int .i64 0] ?_
     refine LWp.s [] (.box 5) [.int .i64 x1.Id, .int .i64 x1.Root] ?_
     refine LWp.nil ?_
     refine Wp.seq (Wp.region ?_)
     refine LWp.o 15 (.one (.ptr (.box 1) 0 [] 1)) ?_
     refine LWp.o 16 (.agg [.sl false 218 2 (encs (c218 false) xS.Arena.Knots)]) ?_
     refine LWp.o 17 (.one (.ptr (.box 5) 1 [] 1)) ?_
     refine LWp.o 18 (I x1.Root) ?_
     refine LWp.cl h 19 (fun v1 => (.one (.sl true 3 1 (encs c3 v1)))) rfl (l := [.sv (.agg [.sl false 218 2 (encs (c218 false) xS.Arena.Knots)]), .sv (.one (.int .i64 x1.Root))]) rfl (fun v hv => i_AllAt_t xS.Arena x1.Root v hv) (.inl rfl) ?_
     intro v1 gv1 h
     refine LWp.o 20 (I (ln v1)) ?_ (st_pure (p_ln k3 v1))
     refine LWp.o 21 (I 0) ?_
     refine LWp.nil ?_
     refine Wp.l1 h [1, 3, 9, 10, 11, 19, 20, 21] [.box 1] (fun s => (i_chunksOf_H3 xS y1 v1 s.1 s.2)) [1, 3, 9, 10, 11] [.box 1] (fun s => (i_chunksOf_H4 xS y1 s)) ⟨rfl, rfl⟩ ?_ ?_
     · rintro ⟨yOut2, y2⟩ o (h : i_chunksOf_b2 v1 yOut2 y2 = some o)
       unfold i_chunksOf_b2 at h
       change Wp _ _ _ (i_chunksOf_H3 xS y1 v1 yOut2 y2) _
       refine Wp.seq (Wp.region ?_)
       refine LWp.o 22 (B (decide (y2 < (ln v1)))) ?_
       refine LWp.nil ?_
       refine Wp.seq ?_
       refine Wp.c h (fun h => ?_) (fun h => ?_)
       · refine Wp.skip ?_
         refine Wp.seq ?_
         refine Wp.block ?_
         refine Wp.seq (Wp.region ?_)
         refine LWp.p h 23 (fun _ => (.one (.ptr (.slot 19) 0 [0] (Int.toNat y2 * 1 + 0)))) ?_ (fun x2 gx2 => st_pure (p_ix k3 (.slot 19) [] 0 gx2))
         intro x2 gx2 h
         refine LWp.o 24 (I x2) ?_ (st_pure (p_lc k3 (.slot 19) [0] 0 (.int .i64 x2) gx2))
         refine LWp.o 7 (I x2) ?_
         refine LWp.nil ?_
         refine Wp.seq (Wp.region ?_)
         refine LWp.o 25 (I x2) ?_
         refine LWp.o 26 (B (decide (x2 > 0))) ?_
         refine LWp.nil ?_
         refine Wp.c h (fun h => ?_) (fun h => ?_)
         · refine Wp.region ?_
           refine LWp.o 27 (.one (.view (.slot 3) 0 [] 0)) ?_
           refine LWp.o 28 (I x2) ?_
           refine LWp.m false [] 29 (.one (.sl true 3 1 (encs c3 [x2]))) ?_
           refine LWp.pm h [(.slot 3, [.junk])] 30 (fun q1 => (.one (.sl true 3 1 (encs c3 q1)))) ?_ (fun q1 gq1 => s_apl k3 (fun _ => rfl) [(.slot 3, [.junk])] yOut2 gq1)
           intro q1 gq1 h
           refine LWp.m true [(.slot 30, [.junk])] 3 (.one (.sl true 3 1 (encs c3 q1))) ?_
           refine LWp.nil ?_
           refine Wp.region ?_
           refine LWp.o 31 (I (ad y2 1)) ?_
           refine LWp.o 21 (I (ad y2 1)) ?_
           refine LWp.nil ?_
           cases h
           exact ⟨_, rfl, rfl, rfl⟩
         refine Wp.skip ?_
         refine Wp.region ?_
         refine LWp.o 31 (I (ad y2 1)) ?_
         refine LWp.o 21 (I (ad y2 1)) ?_
         refine LWp.nil ?_
         cases h
         exact ⟨_, rfl, rfl, rfl⟩
       refine Wp.exit ?_
       cases h
       exact ⟨_, rfl, rfl, rfl⟩
     intro v2 h E hE
     refine nt_wp hE ?_
     change Wp _ _ _ (i_chunksOf_H4 xS y1 v2) _
     refine Wp.region ?_
     refine LWp.o 32 (I (ad y1 1)) ?_
     refine LWp.o 11 (I (ad y1 1)) ?_
     refine LWp.nil ?_
     cases h
     exact ⟨_, rfl, rfl, rfl⟩
   refine Wp.exit ?_
   cases h
   exact ⟨_, rfl, rfl, rfl⟩
 intro v3 h E hE
 refine nt_wp hE ?_
 change Wp _ _ _ (i_chunksOf_H2 v3) _
 refine Wp.seq (Wp.region ?_)
 refine LWp.o 33 (.one (.view (.slot 3) 0 [] 0)) ?_
 refine LWp.m true [(.slot 3, [.junk])] 2 (.one (.sl true 3 1 (encs c3 v3))) ?_
 refine LWp.nil ?_
 cases h
 exact Wp.ret ⟨.inr rfl, _, _, rfl, rfl⟩
def i_LiveOf_H1 (v2 : List Int) (z1 : List Int) (z2 : Int) : St := mkSt [(3, (.one (.sl true 3 1 (encs c3 v2)))), (4, (.one (.sl true 3 1 (encs c3 z1)))), (11, (.one (.view (.slot 3) 0 [] 0))), (12, (I (ln v2))), (13, (I z2))] []
def i_LiveOf_H2 (z3 : List Int) : St := mkSt [(4, (.one (.sl true 3 1 (encs c3 z3))))] []
def i_LiveOf_H3 (v2 : List Int) (yOut1 : List Int) (y1 : Int) (x1 : Int) (z4 : Bool) : St := mkSt [(3, (.one (.sl true 3 1 (encs c3 v2)))), (4, (.one (.sl true 3 1 (encs c3 yOut1)))), (6, (I x1)), (11, (.one (.view (.slot 3) 0 [] 0))), (12, (I (ln v2))), (13, (I y1)), (28, (B z4))] []
theorem i_LiveOf_t (xS : Store) (r : List Int) (h : i_LiveOf xS = some r) : Gives Tryz.prog 75 [.sv (.agg [.sl false 110 2 (encs c110 xS.Vols), .sl false 218 2 (encs (c218 false) xS.Arena.Knots), .int .i64 xS.Next])] (.one (.sl true 3 1 (encs c3 r))) (List.replicate 1 .gone) := by
 unfold i_LiveOf at h
 refine gives_of Tryz.func75 rfl ?_
 rw [Tryz.ntmps75]
 refine Wp.seq (Wp.region ?_)
 refine LWp.b [] 1 [.sl false 110 2 (encs c110 xS.Vols), .sl false 218 2 (encs (c218 false) xS.Arena.Knots), .int .i64 xS.Next] ?_
 refine LWp.o 2 (.one (.sl true 3 1 (encs c3 []))) ?_
 refine LWp.nil ?_
 refine Wp.seq (Wp.region ?_)
 refine LWp.o 7 (.agg [.sl false 110 2 (encs c110 xS.Vols), .sl false 218 2 (encs (c218 false) xS.Arena.Knots), .int .i64 xS.Next]) ?_
 refine LWp.cl h 8 (fun v1 => (.one (.sl true 3 1 (encs c3 v1)))) rfl (l := [.sv (.agg [.sl false 110 2 (encs c110 xS.Vols), .sl false 218 2 (encs (c218 false) xS.Arena.Knots), .int .i64 xS.Next])]) rfl (fun v hv => i_chunksOf_t xS v hv) (.inl rfl) ?_
 intro v1 gv1 h
 refine LWp.m true [(.slot 8, [.junk])] 3 (.one (.sl true 3 1 (encs c3 v1))) ?_
 refine LWp.nil ?_
 refine Wp.seq (Wp.region ?_)
 refine LWp.o 9 (.one (.view (.slot 3) 1 [] 0)) ?_
 refine LWp.sI (n := 3) (x := 9) (d := 10) (enc := c3) h ints ?_ (fun _ => rfl) (hf := ⟨_, Tryz.func115, by decide, rfl⟩)
 intro v2 gv2 h
 refine LWp.nil ?_
 refine Wp.seq (Wp.region ?_)
 refine LWp.o 4 (.one (.sl true 3 1 (encs c3 []))) ?_
 refine LWp.nil ?_
 refine Wp.seq ?_
 refine Wp.seq (Wp.region ?_)
 refine LWp.o 11 (.one (.view (.slot 3) 2 [] 0)) ?_
 refine LWp.o 12 (I (ln v2)) ?_ (st_pure (p_ln k3 v2))
 refine LWp.o 13 (I 0) ?_
 refine LWp.nil ?_
 refine Wp.l1 h [3, 4, 11, 12, 13] [] (fun s => (i_LiveOf_H1 v2 s.1 s.2)) [4] [] (fun s => (i_LiveOf_H2 s)) ⟨rfl, rfl⟩ ?_ ?_
 · rintro ⟨yOut1, y1⟩ o (h : i_LiveOf_b1 v2 yOut1 y1 = some o)
   unfold i_LiveOf_b1 at h
   change Wp _ _ _ (i_LiveOf_H1 v2 yOut1 y1) _
   refine Wp.seq (Wp.region ?_)
   refine LWp.o 14 (B (decide (y1 < (ln v2)))) ?_
   refine LWp.nil ?_
   refine Wp.seq ?_
   refine Wp.c h (fun h => ?_) (fun h => ?_)
   · refine Wp.skip ?_
     refine Wp.seq ?_
     refine Wp.block ?_
     refine Wp.seq (Wp.region ?_)
     refine LWp.o 15 (I y1) ?_
     refine LWp.p h 16 (fun _ => (.one (.ptr (.slot 3) 0 [0] (Int.toNat y1 * 1 + 0)))) ?_ (fun x1 gx1 => st_pure (p_ix k3 (.slot 3) [] 0 gx1))
     intro x1 gx1 h
     refine LWp.o 17 (I x1) ?_ (st_pure (p_lc k3 (.slot 3) [0] 0 (.int .i64 x1) gx1))
     refine LWp.o 5 (I y1) ?_
     refine LWp.o 6 (I x1) ?_
     refine LWp.nil ?_
     refine Wp.seq ?_
     refine Wp.j1 h [3, 4, 6, 11, 12, 13, 28] [] (fun a => (i_LiveOf_H3 v2 yOut1 y1 x1 a)) ?_ ?_
     · intro a h
       refine Wp.region ?_
       refine LWp.o 18 (I y1) ?_
       refine LWp.o 19 (B (y1 == 0)) ?_
       refine LWp.o 20 (B (y1 == 0)) ?_
       refine LWp.sp h 20 (fun h => ?_) (fun h => ?_)
       · refine LWp.sh 21 ?_
         refine LWp.sh 22 ?_
         refine LWp.sh 23 ?_
         refine LWp.sh 24 ?_
         refine LWp.sh 25 ?_
         refine LWp.sh 26 ?_
         refine LWp.sh 27 ?_
         refine LWp.o 28 (B true) ?_
         refine LWp.nil ?_
         cases h
         exact ⟨_, rfl, rfl, rfl⟩
       refine LWp.o 21 (.one (.view (.slot 3) 0 [] 0)) ?_
       refine LWp.o 22 (I y1) ?_
       refine LWp.o 23 (I (sb y1 1)) ?_
       refine LWp.p h 24 (fun _ => (.one (.ptr (.slot 3) 0 [0] (Int.toNat (sb y1 1) * 1 + 0)))) ?_ (fun x2 gx2 => st_pure (p_ix k3 (.slot 3) [] 0 gx2))
       intro x2 gx2 h
       refine LWp.o 25 (I x2) ?_ (st_pure (p_lc k3 (.slot 3) [0] 0 (.int .i64 x2) gx2))
       refine LWp.o 26 (I x1) ?_
       refine LWp.o 27 (B (x2 != x1)) ?_
       refine LWp.o 28 (B (x2 != x1)) ?_
       refine LWp.nil ?_
       cases h
       exact ⟨_, rfl, rfl, rfl⟩
     intro j1 h E hE
     refine nt_wp hE ?_
     change Wp _ _ _ (i_LiveOf_H3 v2 yOut1 y1 x1 j1) _
     refine Wp.c h (fun h => ?_) (fun h => ?_)
     · refine Wp.region ?_
       refine LWp.o 29 (.one (.view (.slot 4) 0 [] 0)) ?_
       refine LWp.o 30 (I x1) ?_
       refine LWp.m false [] 31 (.one (.sl true 3 1 (encs c3 [x1]))) ?_
       refine LWp.pm h [(.slot 4, [.junk])] 32 (fun q1 => (.one (.sl true 3 1 (encs c3 q1)))) ?_ (fun q1 gq1 => s_apl k3 (fun _ => rfl) [(.slot 4, [.junk])] yOut1 gq1)
       intro q1 gq1 h
       refine LWp.m true [(.slot 32, [.junk])] 4 (.one (.sl true 3 1 (encs c3 q1))) ?_
       refine LWp.nil ?_
       refine Wp.region ?_
       refine LWp.o 33 (I (ad y1 1)) ?_
       refine LWp.o 13 (I (ad y1 1)) ?_
       refine LWp.nil ?_
       cases h
       exact ⟨_, rfl, rfl, rfl⟩
     refine Wp.skip ?_
     refine Wp.region ?_
     refine LWp.o 33 (I (ad y1 1)) ?_
     refine LWp.o 13 (I (ad y1 1)) ?_
     refine LWp.nil ?_
     cases h
     exact ⟨_, rfl, rfl, rfl⟩
   refine Wp.exit ?_
   cases h
   exact ⟨_, rfl, rfl, rfl⟩
 intro v3 h E hE
 refine nt_wp hE ?_
 change Wp _ _ _ (i_LiveOf_H2 v3) _
 refine Wp.seq (Wp.region ?_)
 refine LWp.o 34 (.one (.view (.slot 4) 0 [] 0)) ?_
 refine LWp.m true [(.slot 4, [.junk])] 2 (.one (.sl true 3 1 (encs c3 v3))) ?_
 refine LWp.nil ?_
 cases h
 exact Wp.ret ⟨.inr rfl, _, _, rfl, rfl⟩
def i_SumMore_H1 (xText : ByteArray) (z1 : Int) (z2 : Int) : St := mkSt [(0, (.one (.int .u32 z1))), (1, (Y xText)), (5, (I z2))] []
def i_SumMore_H2 (z3 : Int) : St := mkSt [(0, (.one (.int .u32 z3)))] []
def i_SumMore_H3 (xText : ByteArray) (yI1 : Int) (z4 : Int) (z5 : Int) : St := mkSt [(0, (.one (.int .u32 z4))), (1, (Y xText)), (5, (I yI1)), (19, (I z5))] []
def i_SumMore_H4 (xText : ByteArray) (yI1 : Int) (z6 : Int) : St := mkSt [(0, (.one (.int .u32 z6))), (1, (Y xText)), (5, (I yI1))] []
theorem i_SumMore_t (xSum : Int) (xText : ByteArray) (r : Int) (h : i_SumMore xSum xText = some r) : Gives Tryz.prog 203 [.sv (.one (.int .u32 xSum)), .sv (Y xText)] (.one (.int .u32 r)) (List.replicate 2 .gone) := by
 unfold i_SumMore at h
 refine gives_of Tryz.func203 rfl ?_
 rw [Tryz.ntmps203]
 refine Wp.seq (Wp.region ?_)
 refine LWp.o 4 (.one (.int .u32 0)) ?_
 refine LWp.nil ?_
 refine Wp.seq ?_
 refine Wp.seq (Wp.region ?_)
 refine LWp.o 5 (I 0) ?_
 refine LWp.nil ?_
 refine Wp.l1 h [0, 1, 5] [] (fun s => (i_SumMore_H1 xText s.1 s.2)) [0] [] (fun s => (i_SumMore_H2 s)) ⟨rfl, rfl⟩ ?_ ?_
 · rintro ⟨ySum1, yI1⟩ o (h : i_SumMore_b1 xText ySum1 yI1 = some o)
   unfold i_SumMore_b1 at h
   change Wp _ _ _ (i_SumMore_H1 xText ySum1 yI1) _
   refine Wp.seq ?_
   refine Wp.seq (Wp.region ?_)
   refine LWp.o 7 (I yI1) ?_
   refine LWp.o 8 (Y xText) ?_
   refine LWp.o 9 (I (sln xText)) ?_
   refine LWp.o 10 (B (decide (yI1 < (sln xText)))) ?_
   refine LWp.nil ?_
   refine Wp.c h (fun h => ?_) (fun h => ?_)
   · refine Wp.skip ?_
     refine Wp.seq ?_
     refine Wp.block ?_
     refine Wp.seq (Wp.region ?_)
     refine LWp.o 13 (.one (.int .u32 ySum1)) ?_
     refine LWp.o 14 (Y xText) ?_
     refine LWp.o 15 (I yI1) ?_
     refine LWp.p h 16 (fun x1 => (.one (.int .u8 x1))) ?_ (fun x1 gx1 => st_pure (p_sx gx1))
     intro x1 gx1 h
     refine LWp.o 17 (.one (.int .u32 (IntKind.u32.wrap x1))) ?_
     refine LWp.o 18 (.one (.int .u32 (xr ySum1 (IntKind.u32.wrap x1)))) ?_
     refine LWp.o 0 (.one (.int .u32 (xr ySum1 (IntKind.u32.wrap x1)))) ?_
     refine LWp.nil ?_
     refine Wp.seq (Wp.region ?_)
     refine LWp.o 19 (I 0) ?_
     refine LWp.nil ?_
     refine Wp.l1 h [0, 1, 5, 19] [] (fun s => (i_SumMore_H3 xText yI1 s.1 s.2)) [0, 1, 5] [] (fun s => (i_SumMore_H4 xText yI1 s)) ⟨rfl, rfl⟩ ?_ ?_
     · rintro ⟨ySum2, y1⟩ o (h : i_SumMore_b2 ySum2 y1 = some o)
       unfold i_SumMore_b2 at h
       change Wp _ _ _ (i_SumMore_H3 xText yI1 ySum2 y1) _
       refine Wp.seq (Wp.region ?_)
       refine LWp.o 20 (B (decide (y1 < 8))) ?_
       refine LWp.nil ?_
       refine Wp.seq ?_
       refine Wp.c h (fun h => ?_) (fun h => ?_)
       · refine Wp.skip ?_
         refine Wp.seq ?_
         refine Wp.block ?_
         refine Wp.seq (Wp.region ?_)
         refine LWp.o 21 (.one (.int .u32 ySum2)) ?_
         refine LWp.o 22 (.one (.int .u32 (an ySum2 1))) ?_
         refine LWp.o 6 (.one (.int .u32 (an ySum2 1))) ?_
         refine LWp.nil ?_
         refine Wp.seq (Wp.region ?_)
         refine LWp.o 23 (.one (.int .u32 ySum2)) ?_
         refine LWp.o 24 (.one (.int .u32 (Int.fdiv ySum2 (2 ^ (min (1 : Int).toNat IntKind.u32.bits))))) ?_
         refine LWp.o 0 (.one (.int .u32 (Int.fdiv ySum2 (2 ^ (min (1 : Int).toNat IntKind.u32.bits))))) ?_
         refine LWp.nil ?_
         refine Wp.seq (Wp.region ?_)
         refine LWp.o 25 (.one (.int .u32 (an ySum2 1))) ?_
         refine LWp.o 26 (B ((an ySum2 1) == 1)) ?_
         refine LWp.nil ?_
         refine Wp.c h (fun h => ?_) (fun h => ?_)
         · refine Wp.region ?_
           refine LWp.o 27 (.one (.int .u32 (Int.fdiv ySum2 (2 ^ (min (1 : Int).toNat IntKind.u32.bits))))) ?_
           refine LWp.o 28 (.one (.int .u32 (xr (Int.fdiv ySum2 (2 ^ (min (1 : Int).toNat IntKind.u32.bits))) 3558460437))) ?_
           refine LWp.o 0 (.one (.int .u32 (xr (Int.fdiv ySum2 (2 ^ (min (1 : Int).toNat IntKind.u32.bits))) 3558460437))) ?_
           refine LWp.nil ?_
           refine Wp.region ?_
           refine LWp.o 29 (I (ad y1 1)) ?_
           refine LWp.o 19 (I (ad y1 1)) ?_
           refine LWp.nil ?_
           cases h
           exact ⟨_, rfl, rfl, rfl⟩
         refine Wp.skip ?_
         refine Wp.region ?_
         refine LWp.o 29 (I (ad y1 1)) ?_
         refine LWp.o 19 (I (ad y1 1)) ?_
         refine LWp.nil ?_
         cases h
         exact ⟨_, rfl, rfl, rfl⟩
       refine Wp.exit ?_
       cases h
       exact ⟨_, rfl, rfl, rfl⟩
     intro v1 h E hE
     refine nt_wp hE ?_
     change Wp _ _ _ (i_SumMore_H4 xText yI1 v1) _
     refine Wp.region ?_
     refine LWp.o 11 (I yI1) ?_
     refine LWp.o 12 (I (ad yI1 1)) ?_
     refine LWp.o 5 (I (ad yI1 1)) ?_
     refine LWp.nil ?_
     cases h
     exact ⟨_, rfl, rfl, rfl⟩
   refine Wp.exit ?_
   cases h
   exact ⟨_, rfl, rfl, rfl⟩
 intro v2 h E hE
 refine nt_wp hE ?_
 change Wp _ _ _ (i_SumMore_H2 v2) _
 refine Wp.seq (Wp.region ?_)
 refine LWp.o 30 (.one (.int .u32 v2)) ?_
 refine LWp.o 4 (.one (.int .u32 v2)) ?_
 refine LWp.nil ?_
 cases h
 exact Wp.ret ⟨.inr rfl, _, _, rfl, rfl⟩
theorem i_SumOf_t (xText : ByteArray) (r : Int) (h : i_SumOf xText = some r) : Gives Tryz.prog 172 [.sv (Y xText)] (.one (.int .u32 r)) (List.replicate 1 .gone) := by
 unfold i_SumOf at h
 refine gives_of Tryz.func172 rfl ?_
 rw [Tryz.ntmps172]
 refine Wp.seq (Wp.region ?_)
 refine LWp.o 2 (.one (.int .u32 0)) ?_
 refine LWp.nil ?_
 refine Wp.seq (Wp.region ?_)
 refine LWp.o 3 (Y xText) ?_
 refine LWp.cl h 4 (fun v1 => (.one (.int .u32 v1))) rfl (l := [.sv (.one (.int .u32 4294967295)), .sv (.one (.str xText))]) rfl (fun v hv => i_SumMore_t 4294967295 xText v hv) (.inl rfl) ?_
 intro v1 gv1 h
 refine LWp.o 2 (.one (.int .u32 v1)) ?_
 refine LWp.nil ?_
 cases h
 exact Wp.ret ⟨.inr rfl, _, _, rfl, rfl⟩
theorem i_Sealed_t (xText : ByteArray) (r : ByteArray × Bool) (h : i_Sealed xText = some r) : Gives Tryz.prog 135 [.sv (Y xText)] (.tup [(Y r.1), (B r.2)]) (List.replicate 1 .gone) := by
 unfold i_Sealed at h
 refine gives_of Tryz.func135 rfl ?_
 rw [Tryz.ntmps135]
 refine Wp.seq (Wp.region ?_)
 refine LWp.o 2 (Y (bs [])) ?_
 refine LWp.o 3 (B false) ?_
 refine LWp.nil ?_
 refine Wp.seq ?_
 refine Wp.seq (Wp.region ?_)
 refine LWp.o 5 (Y xText) ?_
 refine LWp.o 6 (I (sln xText)) ?_
 refine LWp.o 7 (B (decide ((sln xText) > 20000))) ?_
 refine LWp.nil ?_
 refine Wp.c h (fun h => ?_) (fun h => ?_)
 · refine Wp.seq (Wp.region ?_)
   refine LWp.o 2 (Y (bs [])) ?_
   refine LWp.o 3 (B false) ?_
   refine LWp.nil ?_
   cases h
   exact Wp.ret ⟨.inr rfl, _, _, rfl, rfl⟩
 refine Wp.skip ?_
 refine Wp.seq (Wp.region ?_)
 refine LWp.o 8 (Y xText) ?_
 refine LWp.cl h 9 (fun v1 => (.one (.int .u32 v1))) rfl (l := [.sv (.one (.str xText))]) rfl (fun v hv => i_SumOf_t xText v hv) (.inl rfl) ?_
 intro v1 gv1 h
 refine LWp.o 4 (.one (.int .u32 v1)) ?_
 refine LWp.nil ?_
 refine Wp.seq (Wp.region ?_)
 refine LWp.o 10 (Y xText) ?_
 refine LWp.o 11 (.one (.int .u32 v1)) ?_
 refine LWp.o 12 (.one (.int .u32 (Int.fdiv v1 (2 ^ (min (24 : Int).toNat IntKind.u32.bits))))) ?_
 refine LWp.o 13 (.one (.int .u8 (IntKind.u8.wrap (Int.fdiv v1 (2 ^ (min (24 : Int).toNat IntKind.u32.bits)))))) ?_
 refine LWp.o 14 (.one (.int .u32 v1)) ?_
 refine LWp.o 15 (.one (.int .u32 (Int.fdiv v1 (2 ^ (min (16 : Int).toNat IntKind.u32.bits))))) ?_
 refine LWp.o 16 (.one (.int .u8 (IntKind.u8.wrap (Int.fdiv v1 (2 ^ (min (16 : Int).toNat IntKind.u32.bits)))))) ?_
 refine LWp.o 17 (.one (.int .u32 v1)) ?_
 refine LWp.o 18 (.one (.int .u32 (Int.fdiv v1 (2 ^ (min (8 : Int).toNat IntKind.u32.bits))))) ?_
 refine LWp.o 19 (.one (.int .u8 (IntKind.u8.wrap (Int.fdiv v1 (2 ^ (min (8 : Int).toNat IntKind.u32.bits)))))) ?_
 refine LWp.o 20 (.one (.int .u32 v1)) ?_
 refine LWp.o 21 (.one (.int .u8 (IntKind.u8.wrap v1))) ?_
 refine LWp.m false [] 22 (.one (.sl true 5 1 (encs c5 [(IntKind.u8.wrap (Int.fdiv v1 (2 ^ (min (24 : Int).toNat IntKind.u32.bits)))), (IntKind.u8.wrap (Int.fdiv v1 (2 ^ (min (16 : Int).toNat IntKind.u32.bits)))), (IntKind.u8.wrap (Int.fdiv v1 (2 ^ (min (8 : Int).toNat IntKind.u32.bits)))), (IntKind.u8.wrap v1)]))) ?_
 refine LWp.o 23 (Y (strB [(IntKind.u8.wrap (Int.fdiv v1 (2 ^ (min (24 : Int).toNat IntKind.u32.bits)))), (IntKind.u8.wrap (Int.fdiv v1 (2 ^ (min (16 : Int).toNat IntKind.u32.bits)))), (IntKind.u8.wrap (Int.fdiv v1 (2 ^ (min (8 : Int).toNat IntKind.u32.bits)))), (IntKind.u8.wrap v1)])) ?_ (st_pure (p_cv (fun _ => rfl) [(IntKind.u8.wrap (Int.fdiv v1 (2 ^ (min (24 : Int).toNat IntKind.u32.bits)))), (IntKind.u8.wrap (Int.fdiv v1 (2 ^ (min (16 : Int).toNat IntKind.u32.bits)))), (IntKind.u8.wrap (Int.fdiv v1 (2 ^ (min (8 : Int).toNat IntKind.u32.bits)))), (IntKind.u8.wrap v1)]))
 refine LWp.p h 24 (fun x1 => (Y x1)) ?_ (fun x1 gx1 => st_pure (p_cat gx1))
 intro x1 gx1 h
 refine LWp.o 2 (Y x1) ?_
 refine LWp.o 3 (B true) ?_
 refine LWp.nil ?_
 cases h
 exact Wp.ret ⟨.inr rfl, _, _, rfl, rfl⟩
def i_Unsealed_H1 (x1 : ByteArray) (z1 : Bool) : St := mkSt [(4, (Y x1)), (26, (B z1))] []
theorem i_Unsealed_t (xText : ByteArray) (r : ByteArray × Bool) (h : i_Unsealed xText = some r) : Gives Tryz.prog 190 [.sv (Y xText)] (.tup [(Y r.1), (B r.2)]) (List.replicate 1 .gone) := by
 unfold i_Unsealed at h
 refine gives_of Tryz.func190 rfl ?_
 rw [Tryz.ntmps190]
 refine Wp.seq (Wp.region ?_)
 refine LWp.o 2 (Y (bs [])) ?_
 refine LWp.o 3 (B false) ?_
 refine LWp.nil ?_
 refine Wp.seq ?_
 refine Wp.seq (Wp.region ?_)
 refine LWp.o 7 (Y xText) ?_
 refine LWp.o 8 (I (sln xText)) ?_
 refine LWp.o 9 (B (decide ((sln xText) < 4))) ?_
 refine LWp.nil ?_
 refine Wp.c h (fun h => ?_) (fun h => ?_)
 · refine Wp.seq (Wp.region ?_)
   refine LWp.o 2 (Y (bs [])) ?_
   refine LWp.o 3 (B false) ?_
   refine LWp.nil ?_
   cases h
   exact Wp.ret ⟨.inr rfl, _, _, rfl, rfl⟩
 refine Wp.skip ?_
 refine Wp.seq (Wp.region ?_)
 refine LWp.o 10 (Y xText) ?_
 refine LWp.o 11 (Y xText) ?_
 refine LWp.o 12 (I (sln xText)) ?_
 refine LWp.o 13 (I (sb (sln xText) 4)) ?_
 refine LWp.p h 14 (fun x1 => (Y x1)) ?_ (fun x1 gx1 => st_pure (p_sub gx1))
 intro x1 gx1 h
 refine LWp.o 4 (Y x1) ?_
 refine LWp.nil ?_
 refine Wp.seq (Wp.region ?_)
 refine LWp.o 16 (Y x1) ?_
 refine LWp.cl h 17 (fun v1 => (.tup [(Y v1.1), (B v1.2)])) rfl (l := [.sv (.one (.str x1))]) rfl (fun v hv => i_Sealed_t x1 v hv) (.inl rfl) ?_
 intro v1 gv1 h
 refine LWp.mt 17 15 (.tup [(Y v1.1), (B v1.2)]) ?_
 refine LWp.e 15 0 18 (Y v1.1) ?_
 refine LWp.e 15 1 19 (B v1.2) ?_
 refine LWp.o 5 (Y v1.1) ?_
 refine LWp.o 6 (B v1.2) ?_
 refine LWp.nil ?_
 refine Wp.seq ?_
 refine Wp.seq ?_
 refine Wp.j1 h [4, 26] [] (fun a => (i_Unsealed_H1 x1 a)) ?_ ?_
 · intro a h
   refine Wp.region ?_
   refine LWp.o 20 (B v1.2) ?_
   refine LWp.o 21 (B (!v1.2)) ?_
   refine LWp.o 22 (B (!v1.2)) ?_
   refine LWp.sp h 22 (fun h => ?_) (fun h => ?_)
   · refine LWp.sh 23 ?_
     refine LWp.sh 24 ?_
     refine LWp.sh 25 ?_
     refine LWp.o 26 (B true) ?_
     refine LWp.nil ?_
     cases h
     exact ⟨_, rfl, rfl, rfl⟩
   refine LWp.o 23 (Y v1.1) ?_
   refine LWp.o 24 (Y xText) ?_
   refine LWp.o 25 (B (!(seq v1.1 xText))) ?_
   refine LWp.o 26 (B (!(seq v1.1 xText))) ?_
   refine LWp.nil ?_
   cases h
   exact ⟨_, rfl, rfl, rfl⟩
 intro j1 h E hE
 refine nt_wp hE ?_
 change Wp _ _ _ (i_Unsealed_H1 x1 j1) _
 refine Wp.c h (fun h => ?_) (fun h => ?_)
 · refine Wp.seq (Wp.region ?_)
   refine LWp.o 2 (Y (bs [])) ?_
   refine LWp.o 3 (B false) ?_
   refine LWp.nil ?_
   cases h
   exact Wp.ret ⟨.inr rfl, _, _, rfl, rfl⟩
 refine Wp.skip ?_
 refine Wp.seq (Wp.region ?_)
 refine LWp.o 27 (Y x1) ?_
 refine LWp.o 2 (Y x1) ?_
 refine LWp.o 3 (B true) ?_
 refine LWp.nil ?_
 cases h
 exact Wp.ret ⟨.inr rfl, _, _, rfl, rfl⟩
def i_ReadVar_H1 (xText : ByteArray) (xAt : Int) (z1 : Int) (z2 : Int) : St := mkSt [(0, (Y xText)), (1, (I xAt)), (7, (I z1)), (8, (I z2))] []
def i_ReadVar_H2  : St := mkSt [] []
def i_ReadVar_H3 (xText : ByteArray) (xAt : Int) (yN1 : Int) (yK1 : Int) (z3 : Bool) : St := mkSt [(0, (Y xText)), (1, (I xAt)), (7, (I yN1)), (8, (I yK1)), (23, (B z3))] []
def i_ReadVar_H4 (xAt : Int) (yN1 : Int) (yK1 : Int) (x2 : Int) (z4 : Bool) : St := mkSt [(1, (I xAt)), (7, (I (ad yN1 x2))), (8, (I yK1)), (50, (B z4))] []
theorem i_ReadVar_t (xText : ByteArray) (xAt : Int) (r : Int × Int × Bool) (h : i_ReadVar xText xAt = some r) : Gives Tryz.prog 191 [.sv (Y xText), .sv (I xAt)] (.tup [(I r.1), (I r.2.1), (B r.2.2)]) (List.replicate 2 .gone) := by
 unfold i_ReadVar at h
 refine gives_of Tryz.func191 rfl ?_
 rw [Tryz.ntmps191]
 refine Wp.seq (Wp.region ?_)
 refine LWp.o 4 (I 0) ?_
 refine LWp.o 5 (I 0) ?_
 refine LWp.o 6 (B false) ?_
 refine LWp.nil ?_
 refine Wp.seq (Wp.region ?_)
 refine LWp.o 7 (I 0) ?_
 refine LWp.nil ?_
 refine Wp.seq ?_
 refine Wp.seq (Wp.region ?_)
 refine LWp.o 8 (I 0) ?_
 refine LWp.nil ?_
 refine Wp.l2 h [0, 1, 7, 8] [] (fun s => (i_ReadVar_H1 xText xAt s.1 s.2)) [] [] (fun _ => i_ReadVar_H2) ⟨rfl, rfl⟩ ?_ ?_
 · rintro ⟨yN1, yK1⟩ o (h : i_ReadVar_b1 xText xAt yN1 yK1 = some o) hk1
   unfold i_ReadVar_b1 at h
   change Wp _ _ _ (i_ReadVar_H1 xText xAt yN1 yK1) _
   refine Wp.seq ?_
   refine Wp.seq ?_
   refine Wp.j1 h [0, 1, 7, 8, 23] [] (fun a => (i_ReadVar_H3 xText xAt yN1 yK1 a)) ?_ ?_
   · intro a h
     refine Wp.region ?_
     refine LWp.o 10 (I yK1) ?_
     refine LWp.o 11 (B (decide (yK1 < 5))) ?_
     refine LWp.o 12 (B (decide (yK1 < 5))) ?_
     refine LWp.sp h 12 (fun h => ?_) (fun h => ?_)
     · refine LWp.o 13 (I xAt) ?_
       refine LWp.o 14 (B (decide (xAt ≥ 0))) ?_
       refine LWp.o 15 (B (decide (xAt ≥ 0))) ?_
       refine LWp.o 16 (B (decide (xAt ≥ 0))) ?_
       refine LWp.sp h 16 (fun h => ?_) (fun h => ?_)
       · refine LWp.o 17 (I xAt) ?_
         refine LWp.o 18 (Y xText) ?_
         refine LWp.o 19 (I (sln xText)) ?_
         refine LWp.o 20 (I yK1) ?_
         refine LWp.o 21 (I (sb (sln xText) yK1)) ?_
         refine LWp.o 22 (B (decide (xAt < (sb (sln xText) yK1)))) ?_
         refine LWp.o 23 (B (decide (xAt < (sb (sln xText) yK1)))) ?_
         refine LWp.nil ?_
         cases h
         exact ⟨_, rfl, rfl, rfl⟩
       refine LWp.sh 17 ?_
       refine LWp.sh 18 ?_
       refine LWp.sh 19 ?_
       refine LWp.sh 20 ?_
       refine LWp.sh 21 ?_
       refine LWp.sh 22 ?_
       refine LWp.o 23 (B false) ?_
       refine LWp.nil ?_
       cases h
       exact ⟨_, rfl, rfl, rfl⟩
     refine LWp.sh 13 ?_
     refine LWp.sh 14 ?_
     refine LWp.o 15 (B false) ?_
     refine LWp.o 16 (B false) ?_
     refine LWp.sh 17 ?_
     refine LWp.sh 18 ?_
     refine LWp.sh 19 ?_
     refine LWp.sh 20 ?_
     refine LWp.sh 21 ?_
     refine LWp.sh 22 ?_
     refine LWp.o 23 (B false) ?_
     refine LWp.nil ?_
     cases h
     exact ⟨_, rfl, rfl, rfl⟩
   intro j1 h E hE
   refine nt_wp hE ?_
   change Wp _ _ _ (i_ReadVar_H3 xText xAt yN1 yK1 j1) _
   refine Wp.c h (fun h => ?_) (fun h => ?_)
   · refine Wp.skip ?_
     refine Wp.seq ?_
     refine Wp.block ?_
     refine Wp.seq (Wp.region ?_)
     refine LWp.o 26 (Y xText) ?_
     refine LWp.o 27 (I xAt) ?_
     refine LWp.o 28 (I yK1) ?_
     refine LWp.o 29 (I (ad xAt yK1)) ?_
     refine LWp.p h 30 (fun x1 => (.one (.int .u8 x1))) ?_ (fun x1 gx1 => st_pure (p_sx gx1))
     intro x1 gx1 h
     refine LWp.o 31 (I (IntKind.i64.wrap x1)) ?_
     refine LWp.o 9 (I (IntKind.i64.wrap x1)) ?_
     refine LWp.nil ?_
     refine Wp.seq (Wp.region ?_)
     refine LWp.o 32 (I yN1) ?_
     refine LWp.o 33 (I (IntKind.i64.wrap x1)) ?_
     refine LWp.o 34 (I (Int.tmod (IntKind.i64.wrap x1) 128)) ?_
     refine LWp.o 35 (I yK1) ?_
     refine LWp.o 36 (I (ml 7 yK1)) ?_
     refine LWp.p h 37 (fun x2 => (I x2)) ?_ (fun x2 gx2 => st_pure (p_shl gx2))
     intro x2 gx2 h
     refine LWp.o 38 (I (ad yN1 x2)) ?_
     refine LWp.o 7 (I (ad yN1 x2)) ?_
     refine LWp.nil ?_
     refine Wp.seq ?_
     refine Wp.seq (Wp.region ?_)
     refine LWp.o 39 (I (IntKind.i64.wrap x1)) ?_
     refine LWp.o 40 (B (decide ((IntKind.i64.wrap x1) ≥ 128))) ?_
     refine LWp.nil ?_
     refine Wp.c h (fun h => ?_) (fun h => ?_)
     · refine Wp.exit ?_
       refine Wp.region ?_
       refine LWp.o 24 (I yK1) ?_
       refine LWp.o 25 (I (ad yK1 1)) ?_
       refine LWp.o 8 (I (ad yK1 1)) ?_
       refine LWp.nil ?_
       cases h
       exact ⟨_, rfl, rfl, rfl⟩
     refine Wp.skip ?_
     refine Wp.seq ?_
     refine Wp.seq ?_
     refine Wp.j1 h [1, 7, 8, 50] [] (fun a => (i_ReadVar_H4 xAt yN1 yK1 x2 a)) ?_ ?_
     · intro a h
       refine Wp.region ?_
       refine LWp.o 41 (I (IntKind.i64.wrap x1)) ?_
       refine LWp.o 42 (B ((IntKind.i64.wrap x1) == 0)) ?_
       refine LWp.o 43 (B ((IntKind.i64.wrap x1) == 0)) ?_
       refine LWp.sp h 43 (fun h => ?_) (fun h => ?_)
       · refine LWp.o 44 (I yK1) ?_
         refine LWp.o 45 (B (decide (yK1 > 0))) ?_
         refine LWp.o 46 (B (decide (yK1 > 0))) ?_
         refine LWp.o 47 (B (decide (yK1 > 0))) ?_
         refine LWp.sp h 47 (fun h => ?_) (fun h => ?_)
         · refine LWp.sh 48 ?_
           refine LWp.sh 49 ?_
           refine LWp.o 50 (B true) ?_
           refine LWp.nil ?_
           cases h
           exact ⟨_, rfl, rfl, rfl⟩
         refine LWp.o 48 (I (ad yN1 x2)) ?_
         refine LWp.o 49 (B (decide ((ad yN1 x2) > 1000000000))) ?_
         refine LWp.o 50 (B (decide ((ad yN1 x2) > 1000000000))) ?_
         refine LWp.nil ?_
         cases h
         exact ⟨_, rfl, rfl, rfl⟩
       refine LWp.sh 44 ?_
       refine LWp.sh 45 ?_
       refine LWp.o 46 (B false) ?_
       refine LWp.o 47 (B false) ?_
       refine LWp.o 48 (I (ad yN1 x2)) ?_
       refine LWp.o 49 (B (decide ((ad yN1 x2) > 1000000000))) ?_
       refine LWp.o 50 (B (decide ((ad yN1 x2) > 1000000000))) ?_
       refine LWp.nil ?_
       cases h
       exact ⟨_, rfl, rfl, rfl⟩
     intro j2 h E hE
     refine nt_wp hE ?_
     change Wp _ _ _ (i_ReadVar_H4 xAt yN1 yK1 x2 j2) _
     refine Wp.c h (fun h => ?_) (fun h => ?_)
     · refine Wp.seq (Wp.region ?_)
       refine LWp.o 4 (I 0) ?_
       refine LWp.o 5 (I 0) ?_
       refine LWp.o 6 (B false) ?_
       refine LWp.nil ?_
       cases h
       replace h : some _ = some _ := hk1 _ rfl
       cases h
       exact Wp.ret ⟨.inr rfl, _, _, rfl, rfl⟩
     refine Wp.skip ?_
     refine Wp.seq (Wp.region ?_)
     refine LWp.o 51 (I (ad yN1 x2)) ?_
     refine LWp.o 52 (I xAt) ?_
     refine LWp.o 53 (I yK1) ?_
     refine LWp.o 54 (I (ad xAt yK1)) ?_
     refine LWp.o 55 (I (ad (ad xAt yK1) 1)) ?_
     refine LWp.o 4 (I (ad yN1 x2)) ?_
     refine LWp.o 5 (I (ad (ad xAt yK1) 1)) ?_
     refine LWp.o 6 (B true) ?_
     refine LWp.nil ?_
     cases h
     replace h : some _ = some _ := hk1 _ rfl
     cases h
     exact Wp.ret ⟨.inr rfl, _, _, rfl, rfl⟩
   refine Wp.exit ?_
   cases h
   exact ⟨_, rfl, rfl, rfl⟩
 intro v1 h E hE
 refine nt_wp hE ?_
 change Wp _ _ _ i_ReadVar_H2 _
 refine Wp.seq (Wp.region ?_)
 refine LWp.o 4 (I 0) ?_
 refine LWp.o 5 (I 0) ?_
 refine LWp.o 6 (B false) ?_
 refine LWp.nil ?_
 cases h
 exact Wp.ret ⟨.inr rfl, _, _, rfl, rfl⟩
def i_PageOk_H1 (xP : Page) (z1 : Bool) : St := mkSt [(1, (.one (.ptr (.box 1) 0 [] 0))), (33, (B z1))] [(.box 1, [.int .i64 xP.Kind, .int .i64 xP.Seq, .int .i64 xP.Tx, .int .i64 xP.Part, .int .i64 xP.Count, .str xP.Text])]
theorem i_PageOk_t (xP : Page) (r : Bool) (h : i_PageOk xP = some r) : Gives Tryz.prog 134 [.sv (.agg [.int .i64 xP.Kind, .int .i64 xP.Seq, .int .i64 xP.Tx, .int .i64 xP.Part, .int .i64 xP.Count, .str xP.Text])] (B r) (List.replicate 1 .gone) := by
 unfold i_PageOk at h
 refine gives_of Tryz.func134 rfl ?_
 rw [Tryz.ntmps134]
 refine Wp.seq (Wp.region ?_)
 refine LWp.b [] 1 [.int .i64 xP.Kind, .int .i64 xP.Seq, .int .i64 xP.Tx, .int .i64 xP.Part, .int .i64 xP.Count, .str xP.Text] ?_
 refine LWp.o 2 (B false) ?_
 refine LWp.nil ?_
 refine Wp.seq ?_
 refine Wp.seq ?_
 refine Wp.j1 h [1, 33] [.box 1] (fun a => (i_PageOk_H1 xP a)) ?_ ?_
 · intro a h
   refine Wp.region ?_
   refine LWp.o 3 (.one (.ptr (.box 1) 1 [] 1)) ?_
   refine LWp.o 4 (I xP.Seq) ?_
   refine LWp.cl h 5 (fun v1 => (B v1)) rfl (l := [.sv (.one (.int .i64 xP.Seq)), .sv (.one (.int .i64 1)), .sv (.one (.int .i64 1000000000))]) rfl (fun v hv => i_in_t xP.Seq 1 1000000000 v hv) (.inl rfl) ?_
   intro v1 gv1 h
   refine LWp.o 6 (B (!v1)) ?_
   refine LWp.o 7 (B (!v1)) ?_
   refine LWp.sp h 7 (fun h => ?_) (fun h => ?_)
   · refine LWp.sh 8 ?_
     refine LWp.sh 9 ?_
     refine LWp.sh 10 ?_
     refine LWp.sh 11 ?_
     refine LWp.o 12 (B true) ?_
     refine LWp.o 13 (B true) ?_
     refine LWp.sh 14 ?_
     refine LWp.sh 15 ?_
     refine LWp.sh 16 ?_
     refine LWp.sh 17 ?_
     refine LWp.o 18 (B true) ?_
     refine LWp.o 19 (B true) ?_
     refine LWp.sh 20 ?_
     refine LWp.sh 21 ?_
     refine LWp.sh 22 ?_
     refine LWp.sh 23 ?_
     refine LWp.sh 24 ?_
     refine LWp.sh 25 ?_
     refine LWp.sh 26 ?_
     refine LWp.o 27 (B true) ?_
     refine LWp.o 28 (B true) ?_
     refine LWp.sh 29 ?_
     refine LWp.sh 30 ?_
     refine LWp.sh 31 ?_
     refine LWp.sh 32 ?_
     refine LWp.o 33 (B true) ?_
     refine LWp.nil ?_
     cases h
     exact ⟨_, rfl, rfl, rfl⟩
   refine LWp.o 8 (.one (.ptr (.box 1) 1 [] 2)) ?_
   refine LWp.o 9 (I xP.Tx) ?_
   refine LWp.cl h 10 (fun v2 => (B v2)) rfl (l := [.sv (.one (.int .i64 xP.Tx)), .sv (.one (.int .i64 1)), .sv (.one (.int .i64 1000000000))]) rfl (fun v hv => i_in_t xP.Tx 1 1000000000 v hv) (.inl rfl) ?_
   intro v2 gv2 h
   refine LWp.o 11 (B (!v2)) ?_
   refine LWp.o 12 (B (!v2)) ?_
   refine LWp.o 13 (B (!v2)) ?_
   refine LWp.sp h 13 (fun h => ?_) (fun h => ?_)
   · refine LWp.sh 14 ?_
     refine LWp.sh 15 ?_
     refine LWp.sh 16 ?_
     refine LWp.sh 17 ?_
     refine LWp.o 18 (B true) ?_
     refine LWp.o 19 (B true) ?_
     refine LWp.sh 20 ?_
     refine LWp.sh 21 ?_
     refine LWp.sh 22 ?_
     refine LWp.sh 23 ?_
     refine LWp.sh 24 ?_
     refine LWp.sh 25 ?_
     refine LWp.sh 26 ?_
     refine LWp.o 27 (B true) ?_
     refine LWp.o 28 (B true) ?_
     refine LWp.sh 29 ?_
     refine LWp.sh 30 ?_
     refine LWp.sh 31 ?_
     refine LWp.sh 32 ?_
     refine LWp.o 33 (B true) ?_
     refine LWp.nil ?_
     cases h
     exact ⟨_, rfl, rfl, rfl⟩
   refine LWp.o 14 (.one (.ptr (.box 1) 1 [] 4)) ?_
   refine LWp.o 15 (I xP.Count) ?_
   refine LWp.cl h 16 (fun v3 => (B v3)) rfl (l := [.sv (.one (.int .i64 xP.Count)), .sv (.one (.int .i64 1)), .sv (.one (.int .i64 9))]) rfl (fun v hv => i_in_t xP.Count 1 9 v hv) (.inl rfl) ?_
   intro v3 gv3 h
   refine LWp.o 17 (B (!v3)) ?_
   refine LWp.o 18 (B (!v3)) ?_
   refine LWp.o 19 (B (!v3)) ?_
   refine LWp.sp h 19 (fun h => ?_) (fun h => ?_)
   · refine LWp.sh 20 ?_
     refine LWp.sh 21 ?_
     refine LWp.sh 22 ?_
     refine LWp.sh 23 ?_
     refine LWp.sh 24 ?_
     refine LWp.sh 25 ?_
     refine LWp.sh 26 ?_
     refine LWp.o 27 (B true) ?_
     refine LWp.o 28 (B true) ?_
     refine LWp.sh 29 ?_
     refine LWp.sh 30 ?_
     refine LWp.sh 31 ?_
     refine LWp.sh 32 ?_
     refine LWp.o 33 (B true) ?_
     refine LWp.nil ?_
     cases h
     exact ⟨_, rfl, rfl, rfl⟩
   refine LWp.o 20 (.one (.ptr (.box 1) 1 [] 3)) ?_
   refine LWp.o 21 (I xP.Part) ?_
   refine LWp.o 22 (.one (.ptr (.box 1) 1 [] 4)) ?_
   refine LWp.o 23 (I xP.Count) ?_
   refine LWp.o 24 (I (sb xP.Count 1)) ?_
   refine LWp.cl h 25 (fun v4 => (B v4)) rfl (l := [.sv (.one (.int .i64 xP.Part)), .sv (.one (.int .i64 0)), .sv (.one (.int .i64 (sb xP.Count 1)))]) rfl (fun v hv => i_in_t xP.Part 0 (sb xP.Count 1) v hv) (.inl rfl) ?_
   intro v4 gv4 h
   refine LWp.o 26 (B (!v4)) ?_
   refine LWp.o 27 (B (!v4)) ?_
   refine LWp.o 28 (B (!v4)) ?_
   refine LWp.sp h 28 (fun h => ?_) (fun h => ?_)
   · refine LWp.sh 29 ?_
     refine LWp.sh 30 ?_
     refine LWp.sh 31 ?_
     refine LWp.sh 32 ?_
     refine LWp.o 33 (B true) ?_
     refine LWp.nil ?_
     cases h
     exact ⟨_, rfl, rfl, rfl⟩
   refine LWp.o 29 (.one (.ptr (.box 1) 1 [] 5)) ?_
   refine LWp.o 30 (Y xP.Text) ?_
   refine LWp.o 31 (I (sln xP.Text)) ?_
   refine LWp.o 32 (B (decide ((sln xP.Text) > 90))) ?_
   refine LWp.o 33 (B (decide ((sln xP.Text) > 90))) ?_
   refine LWp.nil ?_
   cases h
   exact ⟨_, rfl, rfl, rfl⟩
 intro j1 h E hE
 refine nt_wp hE ?_
 change Wp _ _ _ (i_PageOk_H1 xP j1) _
 refine Wp.c h (fun h => ?_) (fun h => ?_)
 · refine Wp.seq (Wp.region ?_)
   refine LWp.o 2 (B false) ?_
   refine LWp.nil ?_
   cases h
   exact Wp.ret ⟨.inr rfl, _, _, rfl, rfl⟩
 refine Wp.skip ?_
 refine Wp.seq (Wp.region ?_)
 refine LWp.o 34 (.one (.ptr (.box 1) 0 [] 0)) ?_
 refine LWp.o 35 (I xP.Kind) ?_
 refine LWp.o 36 (B (xP.Kind == 2)) ?_
 refine LWp.o 37 (B (xP.Kind == 2)) ?_
 refine LWp.sp h 37 (fun h => ?_) (fun h => ?_)
 · refine LWp.sh 38 ?_
   refine LWp.sh 39 ?_
   refine LWp.sh 40 ?_
   refine LWp.sh 41 ?_
   refine LWp.sh 42 ?_
   refine LWp.sh 43 ?_
   refine LWp.sh 44 ?_
   refine LWp.sh 45 ?_
   refine LWp.o 46 (B true) ?_
   refine LWp.o 2 (B true) ?_
   refine LWp.nil ?_
   cases h
   exact Wp.ret ⟨.inr rfl, _, _, rfl, rfl⟩
 refine LWp.o 38 (.one (.ptr (.box 1) 0 [] 0)) ?_
 refine LWp.o 39 (I xP.Kind) ?_
 refine LWp.o 40 (B (xP.Kind == 1)) ?_
 refine LWp.o 41 (B (xP.Kind == 1)) ?_
 refine LWp.sp h 41 (fun h => ?_) (fun h => ?_)
 · refine LWp.o 42 (.one (.ptr (.box 1) 0 [] 4)) ?_
   refine LWp.o 43 (I xP.Count) ?_
   refine LWp.o 44 (B (xP.Count == 1)) ?_
   refine LWp.o 45 (B (xP.Count == 1)) ?_
   refine LWp.o 46 (B (xP.Count == 1)) ?_
   refine LWp.o 2 (B (xP.Count == 1)) ?_
   refine LWp.nil ?_
   cases h
   exact Wp.ret ⟨.inr rfl, _, _, rfl, rfl⟩
 refine LWp.sh 42 ?_
 refine LWp.sh 43 ?_
 refine LWp.sh 44 ?_
 refine LWp.o 45 (B false) ?_
 refine LWp.o 46 (B false) ?_
 refine LWp.o 2 (B false) ?_
 refine LWp.nil ?_
 cases h
 exact Wp.ret ⟨.inr rfl, _, _, rfl, rfl⟩
end Go.TI
