/- That they compute it. No condition. -/
import Derived.Test.YtngfcadblnecpaaLWD
import Derived.Test.YtngfcadblnecpaaProg
namespace Go.TI
open Go Go.Proofs
set_option linter.unusedVariables false
set_option linter.unusedSimpArgs false
theorem mixed : Try.prog.follows .mixedOrders = true := rfl

set_option maxRecDepth 100000 in
theorem w_szStep_t (xA : Step) (xLeft : Int) (r : Int) (h : w_szStep xA xLeft = some r) : Gives Try.prog 36 [.sv (.agg [.int .i64 xA.Kind, .int .i64 xA.Block, .int .i64 xA.Leaf, .str xA.Text]), .sv (I xLeft)] (I r) (List.replicate 2 .gone) := by
 unfold w_szStep at h
 refine gives_of Try.func36 rfl ?_
 rw [Try.ntmps36]
 refine Wp.seq ?_
 refine Wp.region ?_
 refine LWp.b [] 2 [.int .i64 xA.Kind, .int .i64 xA.Block, .int .i64 xA.Leaf, .str xA.Text] ?_
 refine LWp.o 4 (I 0) ?_
 refine LWp.nil ?_
 refine Wp.seq ?_
 refine Wp.region ?_
 refine LWp.o 5 (I xLeft) ?_
 refine LWp.o 6 (.one (.ptr (.box 2) 1 [] 3)) ?_
 refine LWp.o 7 (Y xA.Text) ?_
 refine LWp.o 8 (I (sln xA.Text)) ?_
 refine LWp.o 9 (I (sb xLeft (sln xA.Text))) ?_
 refine LWp.o 1 (I (sb xLeft (sln xA.Text))) ?_
 refine LWp.nil ?_
 refine Wp.seq ?_
 refine Wp.seq ?_
 refine Wp.region ?_
 refine LWp.o 10 (I (sb xLeft (sln xA.Text))) ?_
 refine LWp.o 11 (B (decide ((sb xLeft (sln xA.Text)) < 0))) ?_
 refine LWp.nil ?_
 refine Wp.c h (fun h => ?_) (fun h => ?_)
 · refine Wp.seq ?_
   refine Wp.region ?_
   refine LWp.o 4 (I (-1)) ?_
   refine LWp.nil ?_
   cases h
   exact Wp.ret ⟨.inr rfl, _, _, rfl, rfl⟩
 refine Wp.skip ?_
 refine Wp.seq ?_
 refine Wp.region ?_
 refine LWp.o 12 (I (sb xLeft (sln xA.Text))) ?_
 refine LWp.o 4 (I (sb xLeft (sln xA.Text))) ?_
 refine LWp.nil ?_
 cases h
 exact Wp.ret ⟨.inr rfl, _, _, rfl, rfl⟩
def c64 (x : Step) : List TV := [.int .i64 x.Kind, .int .i64 x.Block, .int .i64 x.Leaf, .str x.Text]
theorem k64 : ∀ x, (c64 x).length = 4 := fun _ => rfl
theorem sh64 : ∀ l, shares (encs c64 l) = encs c64 l := shares_encs (fun _ => rfl)
theorem ns64 : ∀ l, hasShareds (encs c64 l) = false := ns_encs (fun _ => rfl)
def w_szStepS_H1 (xA : List Step) (z1 : Int) (z2 : Int) : St := mkSt [(0, (.one (.sl false 64 4 (encs c64 xA)))), (1, (I z1)), (5, (I z2))] []
def w_szStepS_H2 (z3 : Int) : St := mkSt [(1, (I z3))] []
set_option maxRecDepth 100000 in
theorem w_szStepS_t (xA : List Step) (xLeft : Int) (r : Int) (h : w_szStepS xA xLeft = some r) : Gives Try.prog 19 [.sv (.one (.sl false 64 4 (encs c64 xA))), .sv (I xLeft)] (I r) (List.replicate 2 .gone) := by
 unfold w_szStepS at h
 refine gives_of Try.func19 rfl ?_
 rw [Try.ntmps19]
 refine Wp.seq ?_
 refine Wp.region ?_
 refine LWp.o 4 (I 0) ?_
 refine LWp.nil ?_
 refine Wp.seq ?_
 refine Wp.region ?_
 refine LWp.o 6 (I xLeft) ?_
 refine LWp.o 7 (.one (.sl false 64 4 (encs c64 xA))) ?_
 refine LWp.o 8 (I (ln xA)) ?_ (st_pure (p_ln k64 xA))
 refine LWp.o 9 (I (sb xLeft (ln xA))) ?_
 refine LWp.o 1 (I (sb xLeft (ln xA))) ?_
 refine LWp.nil ?_
 refine Wp.seq ?_
 refine Wp.seq ?_
 refine Wp.region ?_
 refine LWp.o 10 (I (sb xLeft (ln xA))) ?_
 refine LWp.o 11 (B (decide ((sb xLeft (ln xA)) < 0))) ?_
 refine LWp.nil ?_
 refine Wp.c h (fun h => ?_) (fun h => ?_)
 · refine Wp.seq ?_
   refine Wp.region ?_
   refine LWp.o 4 (I (-1)) ?_
   refine LWp.nil ?_
   cases h
   exact Wp.ret ⟨.inr rfl, _, _, rfl, rfl⟩
 refine Wp.skip ?_
 refine Wp.seq ?_
 refine Wp.seq ?_
 refine Wp.region ?_
 refine LWp.o 5 (I 0) ?_
 refine LWp.nil ?_
 refine Wp.l2 h [0, 1, 5] [] (fun s => (w_szStepS_H1 xA s.1 s.2)) [1] [] (fun s => (w_szStepS_H2 s)) ⟨rfl, rfl⟩ ?_ ?_
 · rintro ⟨yLeft1, yI1⟩ o (h : w_szStepS_b1 xA yLeft1 yI1 = some o) hk1
   unfold w_szStepS_b1 at h
   change Wp _ _ _ (w_szStepS_H1 xA yLeft1 yI1) _
   refine Wp.seq ?_
   refine Wp.seq ?_
   refine Wp.region ?_
   refine LWp.o 12 (I yI1) ?_
   refine LWp.o 13 (.one (.sl false 64 4 (encs c64 xA))) ?_
   refine LWp.o 14 (I (ln xA)) ?_ (st_pure (p_ln k64 xA))
   refine LWp.o 15 (B (decide (yI1 < (ln xA)))) ?_
   refine LWp.nil ?_
   refine Wp.c h (fun h => ?_) (fun h => ?_)
   · refine Wp.skip ?_
     refine Wp.seq ?_
     refine Wp.block ?_
     refine Wp.seq ?_
     refine Wp.region ?_
     refine LWp.o 18 (.one (.sl false 64 4 (encs c64 xA))) ?_
     refine LWp.o 19 (I yI1) ?_
     refine LWp.p h 20 (fun _ => (.one (.ptr (.slot 18) 1 [0] (Int.toNat yI1 * 4 + 0)))) ?_ (fun x1 gx1 => st_pure (p_ix k64 (.slot 18) [] 0 gx1))
     intro x1 gx1 h
     refine LWp.o 21 (.agg [.int .i64 x1.Kind, .int .i64 x1.Block, .int .i64 x1.Leaf, .str x1.Text]) ?_ (st_pure (p_le k64 (.slot 18) [0] gx1))
     refine LWp.o 22 (I yLeft1) ?_
     refine LWp.cl h 23 (fun v1 => (I v1)) rfl (l := [.sv (.agg [.int .i64 x1.Kind, .int .i64 x1.Block, .int .i64 x1.Leaf, .str x1.Text]), .sv (.one (.int .i64 yLeft1))]) rfl (fun v hv => w_szStep_t x1 yLeft1 v hv) (.inl rfl) ?_
     intro v1 gv1 h
     refine LWp.o 1 (I v1) ?_
     refine LWp.nil ?_
     refine Wp.seq ?_
     refine Wp.region ?_
     refine LWp.o 24 (I v1) ?_
     refine LWp.o 25 (B (decide (v1 < 0))) ?_
     refine LWp.nil ?_
     refine Wp.c h (fun h => ?_) (fun h => ?_)
     · refine Wp.seq ?_
       refine Wp.region ?_
       refine LWp.o 4 (I (-1)) ?_
       refine LWp.nil ?_
       cases h
       replace h : some _ = some _ := hk1 _ rfl
       cases h
       exact Wp.ret ⟨.inr rfl, _, _, rfl, rfl⟩
     refine Wp.skip ?_
     refine Wp.region ?_
     refine LWp.o 16 (I yI1) ?_
     refine LWp.o 17 (I (ad yI1 1)) ?_
     refine LWp.o 5 (I (ad yI1 1)) ?_
     refine LWp.nil ?_
     cases h
     exact ⟨_, rfl, rfl, rfl⟩
   refine Wp.exit ?_
   cases h
   exact ⟨_, rfl, rfl, rfl⟩
 intro v2 h E hE
 refine nt_wp hE ?_
 change Wp _ _ _ (w_szStepS_H2 v2) _
 refine Wp.seq ?_
 refine Wp.region ?_
 refine LWp.o 26 (I v2) ?_
 refine LWp.o 4 (I v2) ?_
 refine LWp.nil ?_
 cases h
 exact Wp.ret ⟨.inr rfl, _, _, rfl, rfl⟩
set_option maxRecDepth 100000 in
theorem w_toStep_t (xA : Step) (r : Step) (h : w_toStep xA = some r) : Gives Try.prog 39 [.sv (.agg [.int .i64 xA.Kind, .int .i64 xA.Block, .int .i64 xA.Leaf, .str xA.Text])] (.agg [.int .i64 r.Kind, .int .i64 r.Block, .int .i64 r.Leaf, .str r.Text]) (List.replicate 1 .gone) := by
 unfold w_toStep at h
 refine gives_of Try.func39 rfl ?_
 rw [Try.ntmps39]
 refine Wp.seq ?_
 refine Wp.region ?_
 refine LWp.b [] 1 [.int .i64 xA.Kind, .int .i64 xA.Block, .int .i64 xA.Leaf, .str xA.Text] ?_
 refine LWp.b [] 2 [.int .i64 0, .int .i64 0, .int .i64 0, .str (bs [])] ?_
 refine LWp.nil ?_
 refine Wp.seq ?_
 refine Wp.region ?_
 refine LWp.b [] 3 [.int .i64 0, .int .i64 0, .int .i64 0, .str (bs [])] ?_
 refine LWp.nil ?_
 refine Wp.seq ?_
 refine Wp.region ?_
 refine LWp.o 4 (.one (.ptr (.box 1) 1 [] 0)) ?_
 refine LWp.o 5 (I xA.Kind) ?_
 refine LWp.o 6 (.one (.ptr (.box 3) 1 [] 0)) ?_
 refine LWp.s [] (.box 3) [.int .i64 xA.Kind, .int .i64 0, .int .i64 0, .str (bs [])] ?_
 refine LWp.nil ?_
 refine Wp.seq ?_
 refine Wp.region ?_
 refine LWp.o 7 (.one (.ptr (.box 1) 1 [] 1)) ?_
 refine LWp.o 8 (I xA.Block) ?_
 refine LWp.o 9 (.one (.ptr (.box 3) 1 [] 1)) ?_
 refine LWp.s [] (.box 3) [.int .i64 xA.Kind, .int .i64 xA.Block, .int .i64 0, .str (bs [])] ?_
 refine LWp.nil ?_
 refine Wp.seq ?_
 refine Wp.region ?_
 refine LWp.o 10 (.one (.ptr (.box 1) 1 [] 2)) ?_
 refine LWp.o 11 (I xA.Leaf) ?_
 refine LWp.o 12 (.one (.ptr (.box 3) 1 [] 2)) ?_
 refine LWp.s [] (.box 3) [.int .i64 xA.Kind, .int .i64 xA.Block, .int .i64 xA.Leaf, .str (bs [])] ?_
 refine LWp.nil ?_
 refine Wp.seq ?_
 refine Wp.region ?_
 refine LWp.o 13 (.one (.ptr (.box 1) 1 [] 3)) ?_
 refine LWp.o 14 (Y xA.Text) ?_
 refine LWp.o 15 (.one (.ptr (.box 3) 1 [] 3)) ?_
 refine LWp.s [] (.box 3) [.int .i64 xA.Kind, .int .i64 xA.Block, .int .i64 xA.Leaf, .str xA.Text] ?_
 refine LWp.nil ?_
 refine Wp.seq ?_
 refine Wp.region ?_
 refine LWp.o 16 (.agg [.int .i64 xA.Kind, .int .i64 xA.Block, .int .i64 xA.Leaf, .str xA.Text]) ?_
 refine LWp.s [] (.box 2) [.int .i64 xA.Kind, .int .i64 xA.Block, .int .i64 xA.Leaf, .str xA.Text] ?_
 refine LWp.nil ?_
 cases h
 exact Wp.ret ⟨.inr rfl, _, _, rfl, rfl⟩
def c72 (x : Step) : List TV := [.int .i64 x.Kind, .int .i64 x.Block, .int .i64 x.Leaf, .str x.Text]
theorem k72 : ∀ x, (c72 x).length = 4 := fun _ => rfl
theorem sh72 : ∀ l, shares (encs c72 l) = encs c72 l := shares_encs (fun _ => rfl)
theorem ns72 : ∀ l, hasShareds (encs c72 l) = false := ns_encs (fun _ => rfl)
def w_toStepS_H1 (xA : List Step) (z1 : List Step) (z2 : Int) : St := mkSt [(0, (.one (.sl false 64 4 (encs c64 xA)))), (3, (.one (.sl true 72 4 (encs c72 z1)))), (4, (I z2))] []
def w_toStepS_H2 (z3 : List Step) : St := mkSt [(3, (.one (.sl true 72 4 (encs c72 z3))))] []
set_option maxRecDepth 100000 in
theorem w_toStepS_t (xA : List Step) (r : List Step) (h : w_toStepS xA = some r) : Gives Try.prog 21 [.sv (.one (.sl false 64 4 (encs c64 xA)))] (.one (.sl true 72 4 (encs c72 r))) (List.replicate 1 .gone) := by
 unfold w_toStepS at h
 refine gives_of Try.func21 rfl ?_
 rw [Try.ntmps21]
 refine Wp.seq ?_
 refine Wp.region ?_
 refine LWp.o 2 (.one (.sl true 72 4 (encs c72 []))) ?_
 refine LWp.nil ?_
 refine Wp.seq ?_
 refine Wp.region ?_
 refine LWp.o 5 (.one (.sl false 64 4 (encs c64 xA))) ?_
 refine LWp.o 6 (I (ln xA)) ?_ (st_pure (p_ln k64 xA))
 refine LWp.p h 7 (fun c1 => (.one (.sl true 72 4 (encs c72 c1)))) ?_ (fun c1 gc1 => s_mk (f := c72) (Step.mk 0 0 0 (bs [])) gc1)
 intro c1 gc1 h
 refine LWp.m true [(.slot 7, [.junk])] 3 (.one (.sl true 72 4 (encs c72 c1))) ?_
 refine LWp.nil ?_
 refine Wp.seq ?_
 refine Wp.seq ?_
 refine Wp.region ?_
 refine LWp.o 4 (I 0) ?_
 refine LWp.nil ?_
 refine Wp.l1 h [0, 3, 4] [] (fun s => (w_toStepS_H1 xA s.1 s.2)) [3] [] (fun s => (w_toStepS_H2 s)) ⟨rfl, rfl⟩ ?_ ?_
 · rintro ⟨yOut1, yI1⟩ o (h : w_toStepS_b1 xA yOut1 yI1 = some o)
   unfold w_toStepS_b1 at h
   change Wp _ _ _ (w_toStepS_H1 xA yOut1 yI1) _
   refine Wp.seq ?_
   refine Wp.seq ?_
   refine Wp.region ?_
   refine LWp.o 8 (I yI1) ?_
   refine LWp.o 9 (.one (.sl false 64 4 (encs c64 xA))) ?_
   refine LWp.o 10 (I (ln xA)) ?_ (st_pure (p_ln k64 xA))
   refine LWp.o 11 (B (decide (yI1 < (ln xA)))) ?_
   refine LWp.nil ?_
   refine Wp.c h (fun h => ?_) (fun h => ?_)
   · refine Wp.skip ?_
     refine Wp.seq ?_
     refine Wp.block ?_
     refine Wp.region ?_
     refine LWp.o 14 (.one (.view (.slot 3) 0 [] 0)) ?_
     refine LWp.o 15 (I yI1) ?_
     refine LWp.o 16 (.one (.sl false 64 4 (encs c64 xA))) ?_
     refine LWp.o 17 (I yI1) ?_
     refine LWp.p h 18 (fun _ => (.one (.ptr (.slot 16) 1 [0] (Int.toNat yI1 * 4 + 0)))) ?_ (fun x1 gx1 => st_pure (p_ix k64 (.slot 16) [] 0 gx1))
     intro x1 gx1 h
     refine LWp.o 19 (.agg [.int .i64 x1.Kind, .int .i64 x1.Block, .int .i64 x1.Leaf, .str x1.Text]) ?_ (st_pure (p_le k64 (.slot 16) [0] gx1))
     refine LWp.cl h 20 (fun v1 => (.agg [.int .i64 v1.Kind, .int .i64 v1.Block, .int .i64 v1.Leaf, .str v1.Text])) rfl (l := [.sv (.agg [.int .i64 x1.Kind, .int .i64 x1.Block, .int .i64 x1.Leaf, .str x1.Text])]) rfl (fun v hv => w_toStep_t x1 v hv) (.inl rfl) ?_
     intro v1 gv1 h
     refine LWp.p h 21 (fun _ => (.one (.ptr (.slot 3) 0 [0] (Int.toNat yI1 * 4 + 0)))) ?_ (fun x2 gx2 => st_pure (p_ix k72 (.slot 3) [] 0 gx2))
     intro x2 gx2 h
     refine LWp.sb [] (.slot 3) [.sl true 72 4 (encs c72 (si yOut1 yI1 v1))] ?_ (s_st [] (q := [0]) (cs := [.sl true 72 4 (encs c72 yOut1)]) (xs := [.int .i64 v1.Kind, .int .i64 v1.Block, .int .i64 v1.Leaf, .str v1.Text]) (At.one (setRow_gi k72 (k := 0) (z := v1) gx2 rfl rfl)) (fit_gi k72 (k := 0) gx2 rfl))
     refine LWp.nil ?_
     refine Wp.region ?_
     refine LWp.o 12 (I yI1) ?_
     refine LWp.o 13 (I (ad yI1 1)) ?_
     refine LWp.o 4 (I (ad yI1 1)) ?_
     refine LWp.nil ?_
     cases h
     exact ⟨_, rfl, rfl, rfl⟩
   refine Wp.exit ?_
   cases h
   exact ⟨_, rfl, rfl, rfl⟩
 intro v2 h E hE
 refine nt_wp hE ?_
 change Wp _ _ _ (w_toStepS_H2 v2) _
 refine Wp.seq ?_
 refine Wp.region ?_
 refine LWp.o 22 (.one (.view (.slot 3) 0 [] 0)) ?_
 refine LWp.m true [(.slot 3, [.junk])] 2 (.one (.sl true 72 4 (encs c72 v2))) ?_
 refine LWp.nil ?_
 cases h
 exact Wp.ret ⟨.inr rfl, _, _, rfl, rfl⟩
set_option maxRecDepth 100000 in
theorem s_l01In_t (xX : Int) (xLeast : Int) (xMost : Int) (r : Bool) (h : s_l01In xX xLeast xMost = some r) : Gives Try.prog 51 [.sv (I xX), .sv (I xLeast), .sv (I xMost)] (B r) (List.replicate 3 .gone) := by
 unfold s_l01In at h
 refine gives_of Try.func51 rfl ?_
 rw [Try.ntmps51]
 refine Wp.seq ?_
 refine Wp.region ?_
 refine LWp.o 6 (B false) ?_
 refine LWp.nil ?_
 refine Wp.seq ?_
 refine Wp.region ?_
 refine LWp.o 7 (I xX) ?_
 refine LWp.o 8 (I xLeast) ?_
 refine LWp.o 9 (B (decide (xX ≥ xLeast))) ?_
 refine LWp.o 10 (B (decide (xX ≥ xLeast))) ?_
 refine LWp.sp h 10 (fun h => ?_) (fun h => ?_)
 · refine LWp.o 11 (I xX) ?_
   refine LWp.o 12 (I xMost) ?_
   refine LWp.o 13 (B (decide (xX ≤ xMost))) ?_
   refine LWp.o 14 (B (decide (xX ≤ xMost))) ?_
   refine LWp.o 6 (B (decide (xX ≤ xMost))) ?_
   refine LWp.nil ?_
   cases h
   exact Wp.ret ⟨.inr rfl, _, _, rfl, rfl⟩
 refine LWp.sh 11 ?_
 refine LWp.sh 12 ?_
 refine LWp.sh 13 ?_
 refine LWp.o 14 (B false) ?_
 refine LWp.o 6 (B false) ?_
 refine LWp.nil ?_
 cases h
 exact Wp.ret ⟨.inr rfl, _, _, rfl, rfl⟩
def c93 (x : Leaf) : List TV := [.int .i64 x.Is, .str x.Text]
theorem k93 : ∀ x, (c93 x).length = 2 := fun _ => rfl
theorem sh93 : ∀ l, shares (encs c93 l) = encs c93 l := shares_encs (fun _ => rfl)
theorem ns93 : ∀ l, hasShareds (encs c93 l) = false := ns_encs (fun _ => rfl)
def c82 (o : Bool) (x : Block) : List TV := [.bool x.Bad, .int .i64 x.Wear, .sl o 93 2 (encs c93 x.Leaves)]
theorem k82 (o : Bool) : ∀ x, (c82 o x).length = 3 := fun _ => rfl
theorem sh82 : ∀ l, shares (encs (c82 true) l) = encs (c82 false) l := shares_encs (fun x => by simp only [c82, shares, share, sh93])
theorem ns82 : ∀ l, hasShareds (encs (c82 true) l) = false := ns_encs (fun x => by simp [c82, hasShareds, hasShared, ns93])
def s_FlashNew_H1 (xN : Int) (z1 : Int) (z2 : List Block) : St := mkSt [(0, (I xN)), (2, (.one (.ptr (.box 2) 0 [] 0))), (4, (.one (.ptr (.box 4) 0 [] 0))), (5, (I z1))] [(.box 2, [.sl true 82 3 (encs (c82 true) [])]), (.box 4, [.sl true 82 3 (encs (c82 true) z2)])]
def s_FlashNew_H2 (z3 : List Block) : St := mkSt [(2, (.one (.ptr (.box 2) 0 [] 0))), (4, (.one (.ptr (.box 4) 0 [] 0)))] [(.box 2, [.sl true 82 3 (encs (c82 true) [])]), (.box 4, [.sl true 82 3 (encs (c82 true) z3)])]
set_option maxRecDepth 100000 in
theorem s_FlashNew_t (xN : Int) (r : Flash × Bool) (h : s_FlashNew xN = some r) : Gives Try.prog 37 [.sv (I xN)] (.tup [(.agg [.sl true 82 3 (encs (c82 true) r.1.Blocks)]), (B r.2)]) (List.replicate 1 .gone) := by
 unfold s_FlashNew at h
 refine gives_of Try.func37 rfl ?_
 rw [Try.ntmps37]
 refine Wp.seq ?_
 refine Wp.region ?_
 refine LWp.b [] 2 [.sl true 82 3 (encs (c82 true) [])] ?_
 refine LWp.o 3 (B false) ?_
 refine LWp.nil ?_
 refine Wp.seq ?_
 refine Wp.seq ?_
 refine Wp.region ?_
 refine LWp.o 6 (I xN) ?_
 refine LWp.cl h 7 (fun v1 => (B v1)) rfl (l := [.sv (.one (.int .i64 xN)), .sv (.one (.int .i64 3)), .sv (.one (.int .i64 10))]) rfl (fun v hv => s_l01In_t xN 3 10 v hv) (.inl rfl) ?_
 intro v1 gv1 h
 refine LWp.o 8 (B (!v1)) ?_
 refine LWp.nil ?_
 refine Wp.c h (fun h => ?_) (fun h => ?_)
 · refine Wp.seq ?_
   refine Wp.region ?_
   refine LWp.o 9 (.agg [.sl true 82 3 (encs (c82 true) [])]) ?_
   refine LWp.sb [(.slot 9, [.junk])] (.box 2) [.sl true 82 3 (encs (c82 true) [])] ?_
   refine LWp.o 3 (B false) ?_
   refine LWp.nil ?_
   cases h
   exact Wp.ret ⟨.inr rfl, _, _, rfl, rfl⟩
 refine Wp.skip ?_
 refine Wp.seq ?_
 refine Wp.region ?_
 refine LWp.o 10 (.agg [.sl true 82 3 (encs (c82 true) [])]) ?_
 refine LWp.b [] 4 [.sl true 82 3 (encs (c82 true) [])] ?_
 refine LWp.sb [(.slot 10, [.junk])] (.box 4) [.sl true 82 3 (encs (c82 true) [])] ?_
 refine LWp.nil ?_
 refine Wp.seq ?_
 refine Wp.seq ?_
 refine Wp.region ?_
 refine LWp.o 5 (I 0) ?_
 refine LWp.nil ?_
 refine Wp.l1 h [0, 2, 4, 5] [.box 2, .box 4] (fun s => (s_FlashNew_H1 xN s.1 s.2)) [2, 4] [.box 2, .box 4] (fun s => (s_FlashNew_H2 s)) ⟨rfl, rfl⟩ ?_ ?_
 · rintro ⟨yI1, yF01⟩ o (h : s_FlashNew_b1 xN yI1 yF01 = some o)
   unfold s_FlashNew_b1 at h
   change Wp _ _ _ (s_FlashNew_H1 xN yI1 yF01) _
   refine Wp.seq ?_
   refine Wp.seq ?_
   refine Wp.region ?_
   refine LWp.o 11 (I yI1) ?_
   refine LWp.o 12 (I xN) ?_
   refine LWp.o 13 (B (decide (yI1 < xN))) ?_
   refine LWp.nil ?_
   refine Wp.c h (fun h => ?_) (fun h => ?_)
   · refine Wp.skip ?_
     refine Wp.seq ?_
     refine Wp.block ?_
     refine Wp.regionK 8 [5, 7] mixed (fun c E h => by rcases h with ⟨h | h, _⟩ <;> cases h) ?_
     refine KWp.o 8 0 16 (.one (.ptr (.box 4) 0 [] 0)) ?_
     refine KWp.o 8 1 17 (.one (.view (.box 4) 0 [] 0)) ?_
     refine KWp.w1 2 ?_
     refine KOp.p h 2 18 (fun c1 => (.one (.sl true 93 2 (encs c93 c1)))) ?_ rfl (fun c1 gc1 => s_mk (f := c93) (Leaf.mk 0 (bs [])) gc1)
     intro c1 gc1 h
     refine KWp.o 8 3 19 (.agg [.bool false, .int .i64 0, .view (.slot 18) 1 [] 0]) ?_
     refine KWp.w1 4 ?_
     refine KOp.m 4 false [(.slot 18, [.junk])] 20 (.one (.sl true 82 3 (encs (c82 true) [(Block.mk false 0 c1)]))) ?_
     refine KWp.w1 5 ?_
     refine KOp.pm h 5 [(.box 4, [.junk]), (.slot 20, [.sl true 82 3 [.bool ((Block.mk false 0 c1).Bad), .int .i64 ((Block.mk false 0 c1).Wear), .junk]])] 21 (fun c2 => (.one (.sl true 82 3 (encs (c82 true) c2)))) ?_ rfl (fun c2 gc2 => s_ap1 (k82 true) [(.box 4, [.junk]), (.slot 20, [.sl true 82 3 [.bool ((Block.mk false 0 c1).Bad), .int .i64 ((Block.mk false 0 c1).Wear), .junk]])] yF01 [(Block.mk false 0 c1)] gc2)
     intro c2 gc2 h
     refine KWp.w1 6 ?_
     refine KOp.o 6 22 (.one (.ptr (.box 4) 0 [] 0)) ?_
     refine KWp.w1 7 ?_
     refine KOp.s 7 [(.slot 21, [.junk])] (.box 4) [.sl true 82 3 (encs (c82 true) c2)] ?_
     refine KWp.done ?_
     refine Wp.region ?_
     refine LWp.o 14 (I yI1) ?_
     refine LWp.o 15 (I (ad yI1 1)) ?_
     refine LWp.o 5 (I (ad yI1 1)) ?_
     refine LWp.nil ?_
     cases h
     exact ⟨_, rfl, rfl, rfl⟩
   refine Wp.exit ?_
   cases h
   exact ⟨_, rfl, rfl, rfl⟩
 intro v2 h E hE
 refine nt_wp hE ?_
 change Wp _ _ _ (s_FlashNew_H2 v2) _
 refine Wp.seq ?_
 refine Wp.region ?_
 refine LWp.o 23 (.agg [.view (.box 4) 0 [] 0]) ?_
 refine LWp.sb [(.box 4, [.junk])] (.box 2) [.sl true 82 3 (encs (c82 true) v2)] ?_
 refine LWp.o 3 (B true) ?_
 refine LWp.nil ?_
 cases h
 exact Wp.ret ⟨.inr rfl, _, _, rfl, rfl⟩
def s_l05Copy_H1 (xF : Flash) (z1 : Int) (z2 : List Block) : St := mkSt [(1, (.one (.ptr (.box 1) 0 [] 0))), (2, (.one (.ptr (.box 2) 0 [] 0))), (3, (.one (.ptr (.box 3) 0 [] 0))), (4, (I z1))] [(.box 1, [.sl false 82 3 (encs (c82 false) xF.Blocks)]), (.box 2, [.sl true 82 3 (encs (c82 true) [])]), (.box 3, [.sl true 82 3 (encs (c82 true) z2)])]
def s_l05Copy_H2 (z3 : List Block) : St := mkSt [(2, (.one (.ptr (.box 2) 0 [] 0))), (3, (.one (.ptr (.box 3) 0 [] 0)))] [(.box 2, [.sl true 82 3 (encs (c82 true) [])]), (.box 3, [.sl true 82 3 (encs (c82 true) z3)])]
set_option maxRecDepth 100000 in
theorem s_l05Copy_t (xF : Flash) (r : Flash) (h : s_l05Copy xF = some r) : Gives Try.prog 56 [.sv (.agg [.sl false 82 3 (encs (c82 false) xF.Blocks)])] (.agg [.sl true 82 3 (encs (c82 true) r.Blocks)]) (List.replicate 1 .gone) := by
 unfold s_l05Copy at h
 refine gives_of Try.func56 rfl ?_
 rw [Try.ntmps56]
 refine Wp.seq ?_
 refine Wp.region ?_
 refine LWp.b [] 1 [.sl false 82 3 (encs (c82 false) xF.Blocks)] ?_
 refine LWp.b [] 2 [.sl true 82 3 (encs (c82 true) [])] ?_
 refine LWp.nil ?_
 refine Wp.seq ?_
 refine Wp.region ?_
 refine LWp.o 6 (.agg [.sl true 82 3 (encs (c82 true) [])]) ?_
 refine LWp.b [] 3 [.sl true 82 3 (encs (c82 true) [])] ?_
 refine LWp.sb [(.slot 6, [.junk])] (.box 3) [.sl true 82 3 (encs (c82 true) [])] ?_
 refine LWp.nil ?_
 refine Wp.seq ?_
 refine Wp.seq ?_
 refine Wp.region ?_
 refine LWp.o 4 (I 0) ?_
 refine LWp.nil ?_
 refine Wp.l1 h [1, 2, 3, 4] [.box 1, .box 2, .box 3] (fun s => (s_l05Copy_H1 xF s.1 s.2)) [2, 3] [.box 2, .box 3] (fun s => (s_l05Copy_H2 s)) ⟨rfl, rfl⟩ ?_ ?_
 · rintro ⟨yI1, yOut01⟩ o (h : s_l05Copy_b1 xF yI1 yOut01 = some o)
   unfold s_l05Copy_b1 at h
   change Wp _ _ _ (s_l05Copy_H1 xF yI1 yOut01) _
   refine Wp.seq ?_
   refine Wp.seq ?_
   refine Wp.region ?_
   refine LWp.o 7 (I yI1) ?_
   refine LWp.o 8 (.one (.ptr (.box 1) 0 [] 0)) ?_
   refine LWp.o 9 (.one (.sl false 82 3 (encs (c82 false) xF.Blocks))) ?_
   refine LWp.o 10 (I (ln xF.Blocks)) ?_ (st_pure (p_ln (k82 false) xF.Blocks))
   refine LWp.o 11 (B (decide (yI1 < (ln xF.Blocks)))) ?_
   refine LWp.nil ?_
   refine Wp.c h (fun h => ?_) (fun h => ?_)
   · refine Wp.skip ?_
     refine Wp.seq ?_
     refine Wp.block ?_
     refine Wp.seq ?_
     refine Wp.region ?_
     refine LWp.o 14 (.one (.ptr (.box 1) 0 [] 0)) ?_
     refine LWp.o 15 (.one (.sl false 82 3 (encs (c82 false) xF.Blocks))) ?_
     refine LWp.o 16 (I yI1) ?_
     refine LWp.p h 17 (fun _ => (.one (.ptr (.slot 15) 1 [0] (Int.toNat yI1 * 3 + 0)))) ?_ (fun x1 gx1 => st_pure (p_ix (k82 false) (.slot 15) [] 0 gx1))
     intro x1 gx1 h
     refine LWp.o 18 (.agg [.bool x1.Bad, .int .i64 x1.Wear, .sl false 93 2 (encs c93 x1.Leaves)]) ?_ (st_pure (p_le (k82 false) (.slot 15) [0] gx1))
     refine LWp.b [] 5 [.bool false, .int .i64 0, .sl true 93 2 (encs c93 [])] ?_
     refine LWp.sb [] (.box 5) [.bool x1.Bad, .int .i64 x1.Wear, .sl false 93 2 (encs c93 x1.Leaves)] ?_
     refine LWp.nil ?_
     refine Wp.seq ?_
     refine Wp.region ?_
     refine LWp.m false [] 19 (.one (.sl true 93 2 (encs c93 []))) ?_
     refine LWp.o 20 (.one (.ptr (.box 5) 1 [] 2)) ?_
     refine LWp.o 21 (.one (.sl false 93 2 (encs c93 x1.Leaves))) ?_
     refine LWp.pm h [(.slot 19, [.junk])] 22 (fun c1 => (.one (.sl true 93 2 (encs c93 c1)))) ?_ (fun c1 gc1 => s_apl k93 (fun _ => rfl) [(.slot 19, [.junk])] [] gc1)
     intro c1 gc1 h
     refine LWp.o 23 (.one (.ptr (.box 5) 1 [] 2)) ?_
     refine LWp.sb [(.slot 22, [.junk])] (.box 5) [.bool x1.Bad, .int .i64 x1.Wear, .sl true 93 2 (encs c93 c1)] ?_
     refine LWp.nil ?_
     refine Wp.region ?_
     refine LWp.o 24 (.one (.ptr (.box 3) 0 [] 0)) ?_
     refine LWp.o 25 (.one (.view (.box 3) 0 [] 0)) ?_
     refine LWp.o 26 (.agg [.bool x1.Bad, .int .i64 x1.Wear, .view (.box 5) 3 [] 2]) ?_
     refine LWp.m false [(.box 5, [.bool x1.Bad, .int .i64 x1.Wear, .junk])] 27 (.one (.sl true 82 3 (encs (c82 true) [(Block.mk x1.Bad x1.Wear c1)]))) ?_
     refine LWp.pm h [(.box 3, [.junk]), (.slot 27, [.sl true 82 3 [.bool ((Block.mk x1.Bad x1.Wear c1).Bad), .int .i64 ((Block.mk x1.Bad x1.Wear c1).Wear), .junk]])] 28 (fun c2 => (.one (.sl true 82 3 (encs (c82 true) c2)))) ?_ (fun c2 gc2 => s_ap1 (k82 true) [(.box 3, [.junk]), (.slot 27, [.sl true 82 3 [.bool ((Block.mk x1.Bad x1.Wear c1).Bad), .int .i64 ((Block.mk x1.Bad x1.Wear c1).Wear), .junk]])] yOut01 [(Block.mk x1.Bad x1.Wear c1)] gc2)
     intro c2 gc2 h
     refine LWp.o 29 (.one (.ptr (.box 3) 0 [] 0)) ?_
     refine LWp.s [(.slot 28, [.junk])] (.box 3) [.sl true 82 3 (encs (c82 true) c2)] ?_
     refine LWp.nil ?_
     refine Wp.region ?_
     refine LWp.o 12 (I yI1) ?_
     refine LWp.o 13 (I (ad yI1 1)) ?_
     refine LWp.o 4 (I (ad yI1 1)) ?_
     refine LWp.nil ?_
     cases h
     exact ⟨_, rfl, rfl, rfl⟩
   refine Wp.exit ?_
   cases h
   exact ⟨_, rfl, rfl, rfl⟩
 intro v1 h E hE
 refine nt_wp hE ?_
 change Wp _ _ _ (s_l05Copy_H2 v1) _
 refine Wp.seq ?_
 refine Wp.region ?_
 refine LWp.o 30 (.agg [.view (.box 3) 0 [] 0]) ?_
 refine LWp.sb [(.box 3, [.junk])] (.box 2) [.sl true 82 3 (encs (c82 true) v1)] ?_
 refine LWp.nil ?_
 cases h
 exact Wp.ret ⟨.inr rfl, _, _, rfl, rfl⟩
set_option maxRecDepth 100000 in
theorem s_l05Leaf_t (xX : Leaf) (r : Bool) (h : s_l05Leaf xX = some r) : Gives Try.prog 70 [.sv (.agg [.int .i64 xX.Is, .str xX.Text])] (B r) (List.replicate 1 .gone) := by
 unfold s_l05Leaf at h
 refine gives_of Try.func70 rfl ?_
 rw [Try.ntmps70]
 refine Wp.seq ?_
 refine Wp.region ?_
 refine LWp.b [] 1 [.int .i64 xX.Is, .str xX.Text] ?_
 refine LWp.o 2 (B false) ?_
 refine LWp.nil ?_
 refine Wp.seq ?_
 refine Wp.seq ?_
 refine Wp.region ?_
 refine LWp.o 3 (.one (.ptr (.box 1) 1 [] 0)) ?_
 refine LWp.o 4 (I xX.Is) ?_
 refine LWp.nil ?_
 refine Wp.block ?_
 refine Wp.seq ?_
 refine Wp.region ?_
 refine LWp.o 6 (B (xX.Is == 0)) ?_
 refine LWp.o 5 (B (xX.Is == 0)) ?_
 refine LWp.nil ?_
 refine Wp.c h (fun h => ?_) (fun h => ?_)
 · refine Wp.seq ?_
   refine Wp.region ?_
   refine LWp.o 7 (.one (.ptr (.box 1) 1 [] 1)) ?_
   refine LWp.o 8 (Y xX.Text) ?_
   refine LWp.o 9 (B (seq xX.Text (bs []))) ?_
   refine LWp.o 2 (B (seq xX.Text (bs []))) ?_
   refine LWp.nil ?_
   cases h
   exact Wp.ret ⟨.inr rfl, _, _, rfl, rfl⟩
 refine Wp.seq ?_
 refine Wp.region ?_
 refine LWp.o 11 (B (xX.Is == 1)) ?_
 refine LWp.o 10 (B (xX.Is == 1)) ?_
 refine LWp.nil ?_
 refine Wp.c h (fun h => ?_) (fun h => ?_)
 · refine Wp.seq ?_
   refine Wp.region ?_
   refine LWp.o 12 (.one (.ptr (.box 1) 1 [] 1)) ?_
   refine LWp.o 13 (Y xX.Text) ?_
   refine LWp.o 14 (I (sln xX.Text)) ?_
   refine LWp.cl h 15 (fun v1 => (B v1)) rfl (l := [.sv (.one (.int .i64 (sln xX.Text))), .sv (.one (.int .i64 1)), .sv (.one (.int .i64 120))]) rfl (fun v hv => s_l01In_t (sln xX.Text) 1 120 v hv) (.inl rfl) ?_
   intro v1 gv1 h
   refine LWp.o 2 (B v1) ?_
   refine LWp.nil ?_
   cases h
   exact Wp.ret ⟨.inr rfl, _, _, rfl, rfl⟩
 refine Wp.seq ?_
 refine Wp.region ?_
 refine LWp.o 17 (B (xX.Is == 2)) ?_
 refine LWp.o 16 (B (xX.Is == 2)) ?_
 refine LWp.nil ?_
 refine Wp.c h (fun h => ?_) (fun h => ?_)
 · refine Wp.seq ?_
   refine Wp.region ?_
   refine LWp.o 18 (.one (.ptr (.box 1) 1 [] 1)) ?_
   refine LWp.o 19 (Y xX.Text) ?_
   refine LWp.o 20 (I (sln xX.Text)) ?_
   refine LWp.o 21 (B (decide ((sln xX.Text) ≤ 120))) ?_
   refine LWp.o 2 (B (decide ((sln xX.Text) ≤ 120))) ?_
   refine LWp.nil ?_
   cases h
   exact Wp.ret ⟨.inr rfl, _, _, rfl, rfl⟩
 refine Wp.skip ?_
 refine Wp.seq ?_
 refine Wp.region ?_
 refine LWp.o 2 (B false) ?_
 refine LWp.nil ?_
 cases h
 exact Wp.ret ⟨.inr rfl, _, _, rfl, rfl⟩
def s_FlashOk_H1 (xF : Flash) (z1 : Int) : St := mkSt [(1, (.one (.ptr (.box 1) 0 [] 0))), (3, (I z1))] [(.box 1, [.sl false 82 3 (encs (c82 false) xF.Blocks)])]
def s_FlashOk_H2 (xF : Flash) : St := mkSt [(1, (.one (.ptr (.box 1) 0 [] 0)))] [(.box 1, [.sl false 82 3 (encs (c82 false) xF.Blocks)])]
def s_FlashOk_H3 (xF : Flash) (yI1 : Int) (x1 : Block) (z2 : Bool) : St := mkSt [(1, (.one (.ptr (.box 1) 0 [] 0))), (3, (I yI1)), (4, (.one (.ptr (.box 4) 0 [] 0))), (27, (B z2))] [(.box 1, [.sl false 82 3 (encs (c82 false) xF.Blocks)]), (.box 4, [.bool x1.Bad, .int .i64 x1.Wear, .sl false 93 2 (encs c93 x1.Leaves)])]
def s_FlashOk_H4 (xF : Flash) (yI1 : Int) (x1 : Block) (z3 : Int) : St := mkSt [(1, (.one (.ptr (.box 1) 0 [] 0))), (3, (I yI1)), (4, (.one (.ptr (.box 4) 0 [] 0))), (5, (I z3))] [(.box 1, [.sl false 82 3 (encs (c82 false) xF.Blocks)]), (.box 4, [.bool x1.Bad, .int .i64 x1.Wear, .sl false 93 2 (encs c93 x1.Leaves)])]
def s_FlashOk_H5 (xF : Flash) (yI1 : Int) : St := mkSt [(1, (.one (.ptr (.box 1) 0 [] 0))), (3, (I yI1))] [(.box 1, [.sl false 82 3 (encs (c82 false) xF.Blocks)])]
def s_FlashOk_H6 (xF : Flash) (yI1 : Int) (x1 : Block) (yK1 : Int) (z4 : Bool) : St := mkSt [(1, (.one (.ptr (.box 1) 0 [] 0))), (3, (I yI1)), (4, (.one (.ptr (.box 4) 0 [] 0))), (5, (I yK1)), (64, (B z4))] [(.box 1, [.sl false 82 3 (encs (c82 false) xF.Blocks)]), (.box 4, [.bool x1.Bad, .int .i64 x1.Wear, .sl false 93 2 (encs c93 x1.Leaves)])]
set_option maxRecDepth 100000 in
theorem s_FlashOk_t (xF : Flash) (r : Bool) (h : s_FlashOk xF = some r) : Gives Try.prog 66 [.sv (.agg [.sl false 82 3 (encs (c82 false) xF.Blocks)])] (B r) (List.replicate 1 .gone) := by
 unfold s_FlashOk at h
 refine gives_of Try.func66 rfl ?_
 rw [Try.ntmps66]
 refine Wp.seq ?_
 refine Wp.region ?_
 refine LWp.b [] 1 [.sl false 82 3 (encs (c82 false) xF.Blocks)] ?_
 refine LWp.o 2 (B false) ?_
 refine LWp.nil ?_
 refine Wp.seq ?_
 refine Wp.seq ?_
 refine Wp.region ?_
 refine LWp.o 3 (I 0) ?_
 refine LWp.nil ?_
 refine Wp.l2 h [1, 3] [.box 1] (fun s => (s_FlashOk_H1 xF s)) [1] [.box 1] (fun _ => (s_FlashOk_H2 xF)) ⟨rfl, rfl⟩ ?_ ?_
 · rintro yI1 o (h : s_FlashOk_b1 xF yI1 = some o) hk1
   unfold s_FlashOk_b1 at h
   change Wp _ _ _ (s_FlashOk_H1 xF yI1) _
   refine Wp.seq ?_
   refine Wp.seq ?_
   refine Wp.region ?_
   refine LWp.o 6 (I yI1) ?_
   refine LWp.o 7 (.one (.ptr (.box 1) 0 [] 0)) ?_
   refine LWp.o 8 (.one (.sl false 82 3 (encs (c82 false) xF.Blocks))) ?_
   refine LWp.o 9 (I (ln xF.Blocks)) ?_ (st_pure (p_ln (k82 false) xF.Blocks))
   refine LWp.o 10 (B (decide (yI1 < (ln xF.Blocks)))) ?_
   refine LWp.nil ?_
   refine Wp.c h (fun h => ?_) (fun h => ?_)
   · refine Wp.skip ?_
     refine Wp.seq ?_
     refine Wp.block ?_
     refine Wp.seq ?_
     refine Wp.region ?_
     refine LWp.o 13 (.one (.ptr (.box 1) 0 [] 0)) ?_
     refine LWp.o 14 (.one (.sl false 82 3 (encs (c82 false) xF.Blocks))) ?_
     refine LWp.o 15 (I yI1) ?_
     refine LWp.p h 16 (fun _ => (.one (.ptr (.slot 14) 1 [0] (Int.toNat yI1 * 3 + 0)))) ?_ (fun x1 gx1 => st_pure (p_ix (k82 false) (.slot 14) [] 0 gx1))
     intro x1 gx1 h
     refine LWp.o 17 (.agg [.bool x1.Bad, .int .i64 x1.Wear, .sl false 93 2 (encs c93 x1.Leaves)]) ?_ (st_pure (p_le (k82 false) (.slot 14) [0] gx1))
     refine LWp.b [] 4 [.bool false, .int .i64 0, .sl true 93 2 (encs c93 [])] ?_
     refine LWp.sb [] (.box 4) [.bool x1.Bad, .int .i64 x1.Wear, .sl false 93 2 (encs c93 x1.Leaves)] ?_
     refine LWp.nil ?_
     refine Wp.seq ?_
     refine Wp.seq ?_
     refine Wp.j1 h [1, 3, 4, 27] [.box 1, .box 4] (fun a => (s_FlashOk_H3 xF yI1 x1 a)) ?_ ?_
     · intro a h
       refine Wp.region ?_
       refine LWp.o 18 (.one (.ptr (.box 4) 1 [] 2)) ?_
       refine LWp.o 19 (.one (.sl false 93 2 (encs c93 x1.Leaves))) ?_
       refine LWp.o 20 (I (ln x1.Leaves)) ?_ (st_pure (p_ln k93 x1.Leaves))
       refine LWp.o 21 (B ((ln x1.Leaves) != 4)) ?_
       refine LWp.o 22 (B ((ln x1.Leaves) != 4)) ?_
       refine LWp.sp h 22 (fun h => ?_) (fun h => ?_)
       · refine LWp.sh 23 ?_
         refine LWp.sh 24 ?_
         refine LWp.sh 25 ?_
         refine LWp.sh 26 ?_
         refine LWp.o 27 (B true) ?_
         refine LWp.nil ?_
         cases h
         exact ⟨_, rfl, rfl, rfl⟩
       refine LWp.o 23 (.one (.ptr (.box 4) 1 [] 1)) ?_
       refine LWp.o 24 (I x1.Wear) ?_
       refine LWp.cl h 25 (fun v1 => (B v1)) rfl (l := [.sv (.one (.int .i64 x1.Wear)), .sv (.one (.int .i64 0)), .sv (.one (.int .i64 1000000000))]) rfl (fun v hv => s_l01In_t x1.Wear 0 1000000000 v hv) (.inl rfl) ?_
       intro v1 gv1 h
       refine LWp.o 26 (B (!v1)) ?_
       refine LWp.o 27 (B (!v1)) ?_
       refine LWp.nil ?_
       cases h
       exact ⟨_, rfl, rfl, rfl⟩
     intro j1 h E hE
     refine nt_wp hE ?_
     change Wp _ _ _ (s_FlashOk_H3 xF yI1 x1 j1) _
     refine Wp.c h (fun h => ?_) (fun h => ?_)
     · refine Wp.seq ?_
       refine Wp.region ?_
       refine LWp.o 2 (B false) ?_
       refine LWp.nil ?_
       cases h
       replace h : some _ = some _ := hk1 _ rfl
       cases h
       exact Wp.ret ⟨.inr rfl, _, _, rfl, rfl⟩
     refine Wp.skip ?_
     refine Wp.seq ?_
     refine Wp.region ?_
     refine LWp.o 5 (I 0) ?_
     refine LWp.nil ?_
     refine Wp.l2 h [1, 3, 4, 5] [.box 1, .box 4] (fun s => (s_FlashOk_H4 xF yI1 x1 s)) [1, 3] [.box 1] (fun _ => (s_FlashOk_H5 xF yI1)) ⟨rfl, rfl⟩ ?_ ?_
     · rintro yK1 o (h : s_FlashOk_b2 x1 yK1 = some o) hk2
       unfold s_FlashOk_b2 at h
       change Wp _ _ _ (s_FlashOk_H4 xF yI1 x1 yK1) _
       refine Wp.seq ?_
       refine Wp.seq ?_
       refine Wp.region ?_
       refine LWp.o 28 (I yK1) ?_
       refine LWp.o 29 (.one (.ptr (.box 4) 0 [] 2)) ?_
       refine LWp.o 30 (.one (.sl false 93 2 (encs c93 x1.Leaves))) ?_
       refine LWp.o 31 (I (ln x1.Leaves)) ?_ (st_pure (p_ln k93 x1.Leaves))
       refine LWp.o 32 (B (decide (yK1 < (ln x1.Leaves)))) ?_
       refine LWp.nil ?_
       refine Wp.c h (fun h => ?_) (fun h => ?_)
       · refine Wp.skip ?_
         refine Wp.seq ?_
         refine Wp.block ?_
         refine Wp.seq ?_
         refine Wp.j1 h [1, 3, 4, 5, 64] [.box 1, .box 4] (fun a => (s_FlashOk_H6 xF yI1 x1 yK1 a)) ?_ ?_
         · intro a h
           refine Wp.region ?_
           refine LWp.o 35 (.one (.ptr (.box 4) 0 [] 2)) ?_
           refine LWp.o 36 (.one (.sl false 93 2 (encs c93 x1.Leaves))) ?_
           refine LWp.o 37 (I yK1) ?_
           refine LWp.p h 38 (fun _ => (.one (.ptr (.slot 36) 1 [0] (Int.toNat yK1 * 2 + 0)))) ?_ (fun x2 gx2 => st_pure (p_ix k93 (.slot 36) [] 0 gx2))
           intro x2 gx2 h
           refine LWp.o 39 (.agg [.int .i64 x2.Is, .str x2.Text]) ?_ (st_pure (p_le k93 (.slot 36) [0] gx2))
           refine LWp.cl h 40 (fun v2 => (B v2)) rfl (l := [.sv (.agg [.int .i64 x2.Is, .str x2.Text])]) rfl (fun v hv => s_l05Leaf_t x2 v hv) (.inl rfl) ?_
           intro v2 gv2 h
           refine LWp.o 41 (B (!v2)) ?_
           refine LWp.o 42 (B (!v2)) ?_
           refine LWp.sp h 42 (fun h => ?_) (fun h => ?_)
           · refine LWp.sh 43 ?_
             refine LWp.sh 44 ?_
             refine LWp.sh 45 ?_
             refine LWp.sh 46 ?_
             refine LWp.sh 47 ?_
             refine LWp.sh 48 ?_
             refine LWp.sh 49 ?_
             refine LWp.sh 50 ?_
             refine LWp.sh 51 ?_
             refine LWp.sh 52 ?_
             refine LWp.sh 53 ?_
             refine LWp.sh 54 ?_
             refine LWp.sh 55 ?_
             refine LWp.sh 56 ?_
             refine LWp.sh 57 ?_
             refine LWp.sh 58 ?_
             refine LWp.sh 59 ?_
             refine LWp.sh 60 ?_
             refine LWp.sh 61 ?_
             refine LWp.sh 62 ?_
             refine LWp.sh 63 ?_
             refine LWp.o 64 (B true) ?_
             refine LWp.nil ?_
             cases h
             exact ⟨_, rfl, rfl, rfl⟩
           refine LWp.o 43 (I yK1) ?_
           refine LWp.o 44 (B (decide (yK1 > 0))) ?_
           refine LWp.o 45 (B (decide (yK1 > 0))) ?_
           refine LWp.sp h 45 (fun h => ?_) (fun h => ?_)
           · refine LWp.o 46 (.one (.ptr (.box 4) 0 [] 2)) ?_
             refine LWp.o 47 (.one (.sl false 93 2 (encs c93 x1.Leaves))) ?_
             refine LWp.o 48 (I yK1) ?_
             refine LWp.o 49 (I (sb yK1 1)) ?_
             refine LWp.p h 50 (fun _ => (.one (.ptr (.slot 47) 1 [0] (Int.toNat (sb yK1 1) * 2 + 0)))) ?_ (fun x3 gx3 => st_pure (p_ix k93 (.slot 47) [] 0 gx3))
             intro x3 gx3 h
             refine LWp.o 51 (.one (.ptr (.slot 47) 1 [0] (Int.toNat (sb yK1 1) * 2 + 0))) ?_ (st_pure (p_fa k93 (.slot 47) [0] 0 gx3))
             refine LWp.o 52 (I x3.Is) ?_ (st_pure (p_lc k93 (.slot 47) [0] 0 (.int .i64 x3.Is) gx3))
             refine LWp.o 53 (B (x3.Is == 0)) ?_
             refine LWp.o 54 (B (x3.Is == 0)) ?_
             refine LWp.o 55 (B (x3.Is == 0)) ?_
             refine LWp.sp h 55 (fun h => ?_) (fun h => ?_)
             · refine LWp.o 56 (.one (.ptr (.box 4) 0 [] 2)) ?_
               refine LWp.o 57 (.one (.sl false 93 2 (encs c93 x1.Leaves))) ?_
               refine LWp.o 58 (I yK1) ?_
               refine LWp.p h 59 (fun _ => (.one (.ptr (.slot 57) 1 [0] (Int.toNat yK1 * 2 + 0)))) ?_ (fun x4 gx4 => st_pure (p_ix k93 (.slot 57) [] 0 gx4))
               intro x4 gx4 h
               refine LWp.o 60 (.one (.ptr (.slot 57) 1 [0] (Int.toNat yK1 * 2 + 0))) ?_ (st_pure (p_fa k93 (.slot 57) [0] 0 gx4))
               refine LWp.o 61 (I x4.Is) ?_ (st_pure (p_lc k93 (.slot 57) [0] 0 (.int .i64 x4.Is) gx4))
               refine LWp.o 62 (B (x4.Is != 0)) ?_
               refine LWp.o 63 (B (x4.Is != 0)) ?_
               refine LWp.o 64 (B (x4.Is != 0)) ?_
               refine LWp.nil ?_
               cases h
               exact ⟨_, rfl, rfl, rfl⟩
             refine LWp.sh 56 ?_
             refine LWp.sh 57 ?_
             refine LWp.sh 58 ?_
             refine LWp.sh 59 ?_
             refine LWp.sh 60 ?_
             refine LWp.sh 61 ?_
             refine LWp.sh 62 ?_
             refine LWp.o 63 (B false) ?_
             refine LWp.o 64 (B false) ?_
             refine LWp.nil ?_
             cases h
             exact ⟨_, rfl, rfl, rfl⟩
           refine LWp.sh 46 ?_
           refine LWp.sh 47 ?_
           refine LWp.sh 48 ?_
           refine LWp.sh 49 ?_
           refine LWp.sh 50 ?_
           refine LWp.sh 51 ?_
           refine LWp.sh 52 ?_
           refine LWp.sh 53 ?_
           refine LWp.o 54 (B false) ?_
           refine LWp.o 55 (B false) ?_
           refine LWp.sh 56 ?_
           refine LWp.sh 57 ?_
           refine LWp.sh 58 ?_
           refine LWp.sh 59 ?_
           refine LWp.sh 60 ?_
           refine LWp.sh 61 ?_
           refine LWp.sh 62 ?_
           refine LWp.o 63 (B false) ?_
           refine LWp.o 64 (B false) ?_
           refine LWp.nil ?_
           cases h
           exact ⟨_, rfl, rfl, rfl⟩
         intro j2 h E hE
         refine nt_wp hE ?_
         change Wp _ _ _ (s_FlashOk_H6 xF yI1 x1 yK1 j2) _
         refine Wp.c h (fun h => ?_) (fun h => ?_)
         · refine Wp.seq ?_
           refine Wp.region ?_
           refine LWp.o 2 (B false) ?_
           refine LWp.nil ?_
           cases h
           replace h : some _ = some _ := hk2 _ rfl
           cases h
           replace h : some _ = some _ := hk1 _ rfl
           cases h
           exact Wp.ret ⟨.inr rfl, _, _, rfl, rfl⟩
         refine Wp.skip ?_
         refine Wp.region ?_
         refine LWp.o 33 (I yK1) ?_
         refine LWp.o 34 (I (ad yK1 1)) ?_
         refine LWp.o 5 (I (ad yK1 1)) ?_
         refine LWp.nil ?_
         cases h
         exact ⟨_, rfl, rfl, rfl⟩
       refine Wp.exit ?_
       cases h
       exact ⟨_, rfl, rfl, rfl⟩
     intro v3 h E hE
     refine nt_wp hE ?_
     change Wp _ _ _ (s_FlashOk_H5 xF yI1) _
     refine Wp.region ?_
     refine LWp.o 11 (I yI1) ?_
     refine LWp.o 12 (I (ad yI1 1)) ?_
     refine LWp.o 3 (I (ad yI1 1)) ?_
     refine LWp.nil ?_
     cases h
     exact ⟨_, rfl, rfl, rfl⟩
   refine Wp.exit ?_
   cases h
   exact ⟨_, rfl, rfl, rfl⟩
 intro v4 h E hE
 refine nt_wp hE ?_
 change Wp _ _ _ (s_FlashOk_H2 xF) _
 refine Wp.seq ?_
 refine Wp.region ?_
 refine LWp.o 65 (.one (.ptr (.box 1) 0 [] 0)) ?_
 refine LWp.o 66 (.one (.sl false 82 3 (encs (c82 false) xF.Blocks))) ?_
 refine LWp.o 67 (I (ln xF.Blocks)) ?_ (st_pure (p_ln (k82 false) xF.Blocks))
 refine LWp.cl h 68 (fun v5 => (B v5)) rfl (l := [.sv (.one (.int .i64 (ln xF.Blocks))), .sv (.one (.int .i64 3)), .sv (.one (.int .i64 10))]) rfl (fun v hv => s_l01In_t (ln xF.Blocks) 3 10 v hv) (.inl rfl) ?_
 intro v5 gv5 h
 refine LWp.o 2 (B v5) ?_
 refine LWp.nil ?_
 cases h
 exact Wp.ret ⟨.inr rfl, _, _, rfl, rfl⟩
def s_NextBlank_H1 (xB : Block) (z1 : Int) : St := mkSt [(1, (.one (.ptr (.box 1) 0 [] 0))), (3, (I z1))] [(.box 1, [.bool xB.Bad, .int .i64 xB.Wear, .sl false 93 2 (encs c93 xB.Leaves)])]
def s_NextBlank_H2  : St := mkSt [] []
set_option maxRecDepth 100000 in
theorem s_NextBlank_t (xB : Block) (r : Int) (h : s_NextBlank xB = some r) : Gives Try.prog 71 [.sv (.agg [.bool xB.Bad, .int .i64 xB.Wear, .sl false 93 2 (encs c93 xB.Leaves)])] (I r) (List.replicate 1 .gone) := by
 unfold s_NextBlank at h
 refine gives_of Try.func71 rfl ?_
 rw [Try.ntmps71]
 refine Wp.seq ?_
 refine Wp.region ?_
 refine LWp.b [] 1 [.bool xB.Bad, .int .i64 xB.Wear, .sl false 93 2 (encs c93 xB.Leaves)] ?_
 refine LWp.o 2 (I 0) ?_
 refine LWp.nil ?_
 refine Wp.seq ?_
 refine Wp.seq ?_
 refine Wp.region ?_
 refine LWp.o 3 (I 0) ?_
 refine LWp.nil ?_
 refine Wp.l2 h [1, 3] [.box 1] (fun s => (s_NextBlank_H1 xB s)) [] [] (fun _ => s_NextBlank_H2) ⟨rfl, rfl⟩ ?_ ?_
 · rintro yK1 o (h : s_NextBlank_b1 xB yK1 = some o) hk1
   unfold s_NextBlank_b1 at h
   change Wp _ _ _ (s_NextBlank_H1 xB yK1) _
   refine Wp.seq ?_
   refine Wp.seq ?_
   refine Wp.region ?_
   refine LWp.o 4 (I yK1) ?_
   refine LWp.o 5 (.one (.ptr (.box 1) 0 [] 2)) ?_
   refine LWp.o 6 (.one (.sl false 93 2 (encs c93 xB.Leaves))) ?_
   refine LWp.o 7 (I (ln xB.Leaves)) ?_ (st_pure (p_ln k93 xB.Leaves))
   refine LWp.o 8 (B (decide (yK1 < (ln xB.Leaves)))) ?_
   refine LWp.nil ?_
   refine Wp.c h (fun h => ?_) (fun h => ?_)
   · refine Wp.skip ?_
     refine Wp.seq ?_
     refine Wp.block ?_
     refine Wp.seq ?_
     refine Wp.region ?_
     refine LWp.o 11 (.one (.ptr (.box 1) 0 [] 2)) ?_
     refine LWp.o 12 (.one (.sl false 93 2 (encs c93 xB.Leaves))) ?_
     refine LWp.o 13 (I yK1) ?_
     refine LWp.p h 14 (fun _ => (.one (.ptr (.slot 12) 1 [0] (Int.toNat yK1 * 2 + 0)))) ?_ (fun x1 gx1 => st_pure (p_ix k93 (.slot 12) [] 0 gx1))
     intro x1 gx1 h
     refine LWp.o 15 (.one (.ptr (.slot 12) 1 [0] (Int.toNat yK1 * 2 + 0))) ?_ (st_pure (p_fa k93 (.slot 12) [0] 0 gx1))
     refine LWp.o 16 (I x1.Is) ?_ (st_pure (p_lc k93 (.slot 12) [0] 0 (.int .i64 x1.Is) gx1))
     refine LWp.o 17 (B (x1.Is == 0)) ?_
     refine LWp.nil ?_
     refine Wp.c h (fun h => ?_) (fun h => ?_)
     · refine Wp.seq ?_
       refine Wp.region ?_
       refine LWp.o 18 (I yK1) ?_
       refine LWp.o 2 (I yK1) ?_
       refine LWp.nil ?_
       cases h
       replace h : some _ = some _ := hk1 _ rfl
       cases h
       exact Wp.ret ⟨.inr rfl, _, _, rfl, rfl⟩
     refine Wp.skip ?_
     refine Wp.region ?_
     refine LWp.o 9 (I yK1) ?_
     refine LWp.o 10 (I (ad yK1 1)) ?_
     refine LWp.o 3 (I (ad yK1 1)) ?_
     refine LWp.nil ?_
     cases h
     exact ⟨_, rfl, rfl, rfl⟩
   refine Wp.exit ?_
   cases h
   exact ⟨_, rfl, rfl, rfl⟩
 intro v1 h E hE
 refine nt_wp hE ?_
 change Wp _ _ _ s_NextBlank_H2 _
 refine Wp.seq ?_
 refine Wp.region ?_
 refine LWp.o 2 (I 4) ?_
 refine LWp.nil ?_
 cases h
 exact Wp.ret ⟨.inr rfl, _, _, rfl, rfl⟩
set_option maxRecDepth 100000 in
theorem s_l05May_t (xF : Flash) (xB : Int) (xLeaf : Int) (xText : ByteArray) (r : Bool) (h : s_l05May xF xB xLeaf xText = some r) : Gives Try.prog 67 [.sv (.agg [.sl false 82 3 (encs (c82 false) xF.Blocks)]), .sv (I xB), .sv (I xLeaf), .sv (Y xText)] (B r) (List.replicate 4 .gone) := by
 unfold s_l05May at h
 refine gives_of Try.func67 rfl ?_
 rw [Try.ntmps67]
 refine Wp.seq ?_
 refine Wp.region ?_
 refine LWp.b [] 4 [.sl false 82 3 (encs (c82 false) xF.Blocks)] ?_
 refine LWp.o 8 (B false) ?_
 refine LWp.nil ?_
 refine Wp.seq ?_
 refine Wp.region ?_
 refine LWp.o 9 (I xB) ?_
 refine LWp.o 10 (.one (.ptr (.box 4) 1 [] 0)) ?_
 refine LWp.o 11 (.one (.sl false 82 3 (encs (c82 false) xF.Blocks))) ?_
 refine LWp.o 12 (I (ln xF.Blocks)) ?_ (st_pure (p_ln (k82 false) xF.Blocks))
 refine LWp.o 13 (I (sb (ln xF.Blocks) 1)) ?_
 refine LWp.cl h 14 (fun v1 => (B v1)) rfl (l := [.sv (.one (.int .i64 xB)), .sv (.one (.int .i64 0)), .sv (.one (.int .i64 (sb (ln xF.Blocks) 1)))]) rfl (fun v hv => s_l01In_t xB 0 (sb (ln xF.Blocks) 1) v hv) (.inl rfl) ?_
 intro v1 gv1 h
 refine LWp.o 15 (B v1) ?_
 refine LWp.sp h 15 (fun h => ?_) (fun h => ?_)
 · refine LWp.o 16 (.one (.ptr (.box 4) 1 [] 0)) ?_
   refine LWp.o 17 (.one (.sl false 82 3 (encs (c82 false) xF.Blocks))) ?_
   refine LWp.o 18 (I xB) ?_
   refine LWp.p h 19 (fun _ => (.one (.ptr (.slot 17) 1 [0] (Int.toNat xB * 3 + 0)))) ?_ (fun x1 gx1 => st_pure (p_ix (k82 false) (.slot 17) [] 0 gx1))
   intro x1 gx1 h
   refine LWp.o 20 (.one (.ptr (.slot 17) 1 [0] (Int.toNat xB * 3 + 0))) ?_ (st_pure (p_fa (k82 false) (.slot 17) [0] 0 gx1))
   refine LWp.o 21 (B x1.Bad) ?_ (st_pure (p_lc (k82 false) (.slot 17) [0] 0 (.bool x1.Bad) gx1))
   refine LWp.o 22 (B (!x1.Bad)) ?_
   refine LWp.o 23 (B (!x1.Bad)) ?_
   refine LWp.o 24 (B (!x1.Bad)) ?_
   refine LWp.sp h 24 (fun h => ?_) (fun h => ?_)
   · refine LWp.o 25 (I xLeaf) ?_
     refine LWp.o 26 (B (decide (xLeaf < 4))) ?_
     refine LWp.o 27 (B (decide (xLeaf < 4))) ?_
     refine LWp.o 28 (B (decide (xLeaf < 4))) ?_
     refine LWp.sp h 28 (fun h => ?_) (fun h => ?_)
     · refine LWp.o 29 (I xLeaf) ?_
       refine LWp.o 30 (.one (.ptr (.box 4) 1 [] 0)) ?_
       refine LWp.o 31 (.one (.sl false 82 3 (encs (c82 false) xF.Blocks))) ?_
       refine LWp.o 32 (I xB) ?_
       refine LWp.p h 33 (fun _ => (.one (.ptr (.slot 31) 1 [0] (Int.toNat xB * 3 + 0)))) ?_ (fun x2 gx2 => st_pure (p_ix (k82 false) (.slot 31) [] 0 gx2))
       intro x2 gx2 h
       refine LWp.o 34 (.agg [.bool x2.Bad, .int .i64 x2.Wear, .sl false 93 2 (encs c93 x2.Leaves)]) ?_ (st_pure (p_le (k82 false) (.slot 31) [0] gx2))
       refine LWp.cl h 35 (fun v2 => (I v2)) rfl (l := [.sv (.agg [.bool x2.Bad, .int .i64 x2.Wear, .sl false 93 2 (encs c93 x2.Leaves)])]) rfl (fun v hv => s_NextBlank_t x2 v hv) (.inl rfl) ?_
       intro v2 gv2 h
       refine LWp.o 36 (B (xLeaf == v2)) ?_
       refine LWp.o 37 (B (xLeaf == v2)) ?_
       refine LWp.o 38 (B (xLeaf == v2)) ?_
       refine LWp.sp h 38 (fun h => ?_) (fun h => ?_)
       · refine LWp.o 39 (Y xText) ?_
         refine LWp.o 40 (I (sln xText)) ?_
         refine LWp.cl h 41 (fun v3 => (B v3)) rfl (l := [.sv (.one (.int .i64 (sln xText))), .sv (.one (.int .i64 1)), .sv (.one (.int .i64 120))]) rfl (fun v hv => s_l01In_t (sln xText) 1 120 v hv) (.inl rfl) ?_
         intro v3 gv3 h
         refine LWp.o 42 (B v3) ?_
         refine LWp.o 8 (B v3) ?_
         refine LWp.nil ?_
         cases h
         exact Wp.ret ⟨.inr rfl, _, _, rfl, rfl⟩
       refine LWp.sh 39 ?_
       refine LWp.sh 40 ?_
       refine LWp.sh 41 ?_
       refine LWp.o 42 (B false) ?_
       refine LWp.o 8 (B false) ?_
       refine LWp.nil ?_
       cases h
       exact Wp.ret ⟨.inr rfl, _, _, rfl, rfl⟩
     refine LWp.sh 29 ?_
     refine LWp.sh 30 ?_
     refine LWp.sh 31 ?_
     refine LWp.sh 32 ?_
     refine LWp.sh 33 ?_
     refine LWp.sh 34 ?_
     refine LWp.sh 35 ?_
     refine LWp.sh 36 ?_
     refine LWp.o 37 (B false) ?_
     refine LWp.o 38 (B false) ?_
     refine LWp.sh 39 ?_
     refine LWp.sh 40 ?_
     refine LWp.sh 41 ?_
     refine LWp.o 42 (B false) ?_
     refine LWp.o 8 (B false) ?_
     refine LWp.nil ?_
     cases h
     exact Wp.ret ⟨.inr rfl, _, _, rfl, rfl⟩
   refine LWp.sh 25 ?_
   refine LWp.sh 26 ?_
   refine LWp.o 27 (B false) ?_
   refine LWp.o 28 (B false) ?_
   refine LWp.sh 29 ?_
   refine LWp.sh 30 ?_
   refine LWp.sh 31 ?_
   refine LWp.sh 32 ?_
   refine LWp.sh 33 ?_
   refine LWp.sh 34 ?_
   refine LWp.sh 35 ?_
   refine LWp.sh 36 ?_
   refine LWp.o 37 (B false) ?_
   refine LWp.o 38 (B false) ?_
   refine LWp.sh 39 ?_
   refine LWp.sh 40 ?_
   refine LWp.sh 41 ?_
   refine LWp.o 42 (B false) ?_
   refine LWp.o 8 (B false) ?_
   refine LWp.nil ?_
   cases h
   exact Wp.ret ⟨.inr rfl, _, _, rfl, rfl⟩
 refine LWp.sh 16 ?_
 refine LWp.sh 17 ?_
 refine LWp.sh 18 ?_
 refine LWp.sh 19 ?_
 refine LWp.sh 20 ?_
 refine LWp.sh 21 ?_
 refine LWp.sh 22 ?_
 refine LWp.o 23 (B false) ?_
 refine LWp.o 24 (B false) ?_
 refine LWp.sh 25 ?_
 refine LWp.sh 26 ?_
 refine LWp.o 27 (B false) ?_
 refine LWp.o 28 (B false) ?_
 refine LWp.sh 29 ?_
 refine LWp.sh 30 ?_
 refine LWp.sh 31 ?_
 refine LWp.sh 32 ?_
 refine LWp.sh 33 ?_
 refine LWp.sh 34 ?_
 refine LWp.sh 35 ?_
 refine LWp.sh 36 ?_
 refine LWp.o 37 (B false) ?_
 refine LWp.o 38 (B false) ?_
 refine LWp.sh 39 ?_
 refine LWp.sh 40 ?_
 refine LWp.sh 41 ?_
 refine LWp.o 42 (B false) ?_
 refine LWp.o 8 (B false) ?_
 refine LWp.nil ?_
 cases h
 exact Wp.ret ⟨.inr rfl, _, _, rfl, rfl⟩
def s_Program_H1 (xB : Int) (xLeaf : Int) (xText : ByteArray) (v1 : Flash) (z1 : Bool) : St := mkSt [(1, (I xB)), (2, (I xLeaf)), (3, (Y xText)), (8, (.one (.ptr (.box 8) 0 [] 0))), (10, (.one (.ptr (.box 10) 0 [] 0))), (23, (B z1))] [(.box 8, [.sl true 82 3 (encs (c82 true) [])]), (.box 10, [.sl true 82 3 (encs (c82 true) v1.Blocks)])]
set_option maxRecDepth 100000 in
theorem s_Program_t (xF : Flash) (xB : Int) (xLeaf : Int) (xText : ByteArray) (r : Flash × Bool) (h : s_Program xF xB xLeaf xText = some r) : Gives Try.prog 62 [.sv (.agg [.sl false 82 3 (encs (c82 false) xF.Blocks)]), .sv (I xB), .sv (I xLeaf), .sv (Y xText)] (.tup [(.agg [.sl true 82 3 (encs (c82 true) r.1.Blocks)]), (B r.2)]) (List.replicate 4 .gone) := by
 unfold s_Program at h
 refine gives_of Try.func62 rfl ?_
 rw [Try.ntmps62]
 refine Wp.seq ?_
 refine Wp.region ?_
 refine LWp.b [] 4 [.sl false 82 3 (encs (c82 false) xF.Blocks)] ?_
 refine LWp.b [] 8 [.sl true 82 3 (encs (c82 true) [])] ?_
 refine LWp.o 9 (B false) ?_
 refine LWp.nil ?_
 refine Wp.seq ?_
 refine Wp.region ?_
 refine LWp.o 11 (.agg [.sl false 82 3 (encs (c82 false) xF.Blocks)]) ?_
 refine LWp.cl h 12 (fun v1 => (.agg [.sl true 82 3 (encs (c82 true) v1.Blocks)])) rfl (l := [.sv (.agg [.sl false 82 3 (encs (c82 false) xF.Blocks)])]) rfl (fun v hv => s_l05Copy_t xF v hv) (.inl rfl) ?_
 intro v1 gv1 h
 refine LWp.b [] 10 [.sl true 82 3 (encs (c82 true) [])] ?_
 refine LWp.sb [(.slot 12, [.junk])] (.box 10) [.sl true 82 3 (encs (c82 true) v1.Blocks)] ?_
 refine LWp.nil ?_
 refine Wp.seq ?_
 refine Wp.seq ?_
 refine Wp.j1 h [1, 2, 3, 8, 10, 23] [.box 8, .box 10] (fun a => (s_Program_H1 xB xLeaf xText v1 a)) ?_ ?_
 · intro a h
   refine Wp.region ?_
   refine LWp.o 13 (.agg [.sl false 82 3 (encs (c82 false) xF.Blocks)]) ?_
   refine LWp.cl h 14 (fun v2 => (B v2)) rfl (l := [.sv (.agg [.sl false 82 3 (encs (c82 false) xF.Blocks)])]) rfl (fun v hv => s_FlashOk_t xF v hv) (.inl rfl) ?_
   intro v2 gv2 h
   refine LWp.o 15 (B (!v2)) ?_
   refine LWp.o 16 (B (!v2)) ?_
   refine LWp.sp h 16 (fun h => ?_) (fun h => ?_)
   · refine LWp.sh 17 ?_
     refine LWp.sh 18 ?_
     refine LWp.sh 19 ?_
     refine LWp.sh 20 ?_
     refine LWp.sh 21 ?_
     refine LWp.sh 22 ?_
     refine LWp.o 23 (B true) ?_
     refine LWp.nil ?_
     cases h
     exact ⟨_, rfl, rfl, rfl⟩
   refine LWp.o 17 (.agg [.sl false 82 3 (encs (c82 false) xF.Blocks)]) ?_
   refine LWp.o 18 (I xB) ?_
   refine LWp.o 19 (I xLeaf) ?_
   refine LWp.o 20 (Y xText) ?_
   refine LWp.cl h 21 (fun v3 => (B v3)) rfl (l := [.sv (.agg [.sl false 82 3 (encs (c82 false) xF.Blocks)]), .sv (.one (.int .i64 xB)), .sv (.one (.int .i64 xLeaf)), .sv (.one (.str xText))]) rfl (fun v hv => s_l05May_t xF xB xLeaf xText v hv) (.inl rfl) ?_
   intro v3 gv3 h
   refine LWp.o 22 (B (!v3)) ?_
   refine LWp.o 23 (B (!v3)) ?_
   refine LWp.nil ?_
   cases h
   exact ⟨_, rfl, rfl, rfl⟩
 intro j1 h E hE
 refine nt_wp hE ?_
 change Wp _ _ _ (s_Program_H1 xB xLeaf xText v1 j1) _
 refine Wp.c h (fun h => ?_) (fun h => ?_)
 · refine Wp.seq ?_
   refine Wp.region ?_
   refine LWp.o 24 (.agg [.view (.box 10) 0 [] 0]) ?_
   refine LWp.sb [(.box 10, [.junk])] (.box 8) [.sl true 82 3 (encs (c82 true) v1.Blocks)] ?_
   refine LWp.o 9 (B false) ?_
   refine LWp.nil ?_
   cases h
   exact Wp.ret ⟨.inr rfl, _, _, rfl, rfl⟩
 refine Wp.skip ?_
 refine Wp.seq ?_
 refine Wp.region ?_
 refine LWp.o 25 (.one (.ptr (.box 10) 0 [] 0)) ?_
 refine LWp.o 26 (.one (.view (.box 10) 0 [] 0)) ?_
 refine LWp.o 27 (I xB) ?_
 refine LWp.p h 28 (fun _ => (.one (.ptr (.box 10) 0 [0] (Int.toNat xB * 3 + 0)))) ?_ (fun x1 gx1 => st_pure (p_ix (k82 true) (.box 10) [] 0 gx1))
 intro x1 gx1 h
 refine LWp.o 29 (.one (.ptr (.box 10) 0 [0] (Int.toNat xB * 3 + 2))) ?_ (st_pure (p_fa (k82 true) (.box 10) [0] 0 gx1))
 refine LWp.o 30 (.one (.view (.box 10) 0 [0] (Int.toNat xB * 3 + 2))) ?_ (st_pure (p_lc (k82 true) (.box 10) [0] 2 (.sl true 93 2 (encs c93 x1.Leaves)) gx1))
 refine LWp.o 31 (I xLeaf) ?_
 refine LWp.o 32 (Y xText) ?_
 refine LWp.o 33 (.agg [.int .i64 1, .str xText]) ?_
 refine LWp.p h 34 (fun _ => (.one (.ptr (.box 10) 0 [0, (Int.toNat xB * 3 + 2)] (Int.toNat xLeaf * 2 + 0)))) ?_ (fun x2 gx2 => st_pure (p_ix k93 (.box 10) [0] (Int.toNat xB * 3 + 2) gx2 (hp := gi_cellb (k82 true) gx1)))
 intro x2 gx2 h
 refine LWp.sb [] (.box 10) [.sl true 82 3 (encs (c82 true) (si v1.Blocks xB (Block.mk x1.Bad x1.Wear (si x1.Leaves xLeaf (Leaf.mk 1 xText)))))] ?_ (s_st [] (q := [0, (Int.toNat xB * 3 + 2)]) (cs := [.sl true 82 3 (encs (c82 true) v1.Blocks)]) (xs := [.int .i64 1, .str xText]) (At.el (k82 true) (k := 2) (z := (Block.mk x1.Bad x1.Wear (si x1.Leaves xLeaf (Leaf.mk 1 xText)))) gx1 (At.one (setRow_gi k93 (k := 0) (z := (Leaf.mk 1 xText)) gx2 rfl rfl))) (fit_gi k93 (k := 0) gx2 rfl))
 refine LWp.nil ?_
 refine Wp.seq ?_
 refine Wp.region ?_
 refine LWp.o 35 (.agg [.view (.box 10) 1 [] 0]) ?_
 refine LWp.sb [(.box 10, [.junk])] (.box 8) [.sl true 82 3 (encs (c82 true) (si v1.Blocks xB (Block.mk x1.Bad x1.Wear (si x1.Leaves xLeaf (Leaf.mk 1 xText)))))] ?_
 refine LWp.o 9 (B true) ?_
 refine LWp.nil ?_
 cases h
 exact Wp.ret ⟨.inr rfl, _, _, rfl, rfl⟩
def s_Wipe_H1 (xF : Flash) (xB : Int) (v1 : Flash) (z1 : Bool) : St := mkSt [(1, (I xB)), (2, (.one (.ptr (.box 2) 0 [] 0))), (4, (.one (.ptr (.box 4) 0 [] 0))), (6, (.one (.ptr (.box 6) 0 [] 0))), (37, (B z1))] [(.box 2, [.sl false 82 3 (encs (c82 false) xF.Blocks)]), (.box 4, [.sl true 82 3 (encs (c82 true) [])]), (.box 6, [.sl true 82 3 (encs (c82 true) v1.Blocks)])]
set_option maxRecDepth 100000 in
theorem s_Wipe_t (xF : Flash) (xB : Int) (r : Flash × Bool) (h : s_Wipe xF xB = some r) : Gives Try.prog 63 [.sv (.agg [.sl false 82 3 (encs (c82 false) xF.Blocks)]), .sv (I xB)] (.tup [(.agg [.sl true 82 3 (encs (c82 true) r.1.Blocks)]), (B r.2)]) (List.replicate 2 .gone) := by
 unfold s_Wipe at h
 refine gives_of Try.func63 rfl ?_
 rw [Try.ntmps63]
 refine Wp.seq ?_
 refine Wp.region ?_
 refine LWp.b [] 2 [.sl false 82 3 (encs (c82 false) xF.Blocks)] ?_
 refine LWp.b [] 4 [.sl true 82 3 (encs (c82 true) [])] ?_
 refine LWp.o 5 (B false) ?_
 refine LWp.nil ?_
 refine Wp.seq ?_
 refine Wp.region ?_
 refine LWp.o 7 (.agg [.sl false 82 3 (encs (c82 false) xF.Blocks)]) ?_
 refine LWp.cl h 8 (fun v1 => (.agg [.sl true 82 3 (encs (c82 true) v1.Blocks)])) rfl (l := [.sv (.agg [.sl false 82 3 (encs (c82 false) xF.Blocks)])]) rfl (fun v hv => s_l05Copy_t xF v hv) (.inl rfl) ?_
 intro v1 gv1 h
 refine LWp.b [] 6 [.sl true 82 3 (encs (c82 true) [])] ?_
 refine LWp.sb [(.slot 8, [.junk])] (.box 6) [.sl true 82 3 (encs (c82 true) v1.Blocks)] ?_
 refine LWp.nil ?_
 refine Wp.seq ?_
 refine Wp.seq ?_
 refine Wp.j1 h [1, 2, 4, 6, 37] [.box 2, .box 4, .box 6] (fun a => (s_Wipe_H1 xF xB v1 a)) ?_ ?_
 · intro a h
   refine Wp.region ?_
   refine LWp.o 9 (.agg [.sl false 82 3 (encs (c82 false) xF.Blocks)]) ?_
   refine LWp.cl h 10 (fun v2 => (B v2)) rfl (l := [.sv (.agg [.sl false 82 3 (encs (c82 false) xF.Blocks)])]) rfl (fun v hv => s_FlashOk_t xF v hv) (.inl rfl) ?_
   intro v2 gv2 h
   refine LWp.o 11 (B (!v2)) ?_
   refine LWp.o 12 (B (!v2)) ?_
   refine LWp.sp h 12 (fun h => ?_) (fun h => ?_)
   · refine LWp.sh 13 ?_
     refine LWp.sh 14 ?_
     refine LWp.sh 15 ?_
     refine LWp.sh 16 ?_
     refine LWp.sh 17 ?_
     refine LWp.sh 18 ?_
     refine LWp.sh 19 ?_
     refine LWp.o 20 (B true) ?_
     refine LWp.o 21 (B true) ?_
     refine LWp.sh 22 ?_
     refine LWp.sh 23 ?_
     refine LWp.sh 24 ?_
     refine LWp.sh 25 ?_
     refine LWp.sh 26 ?_
     refine LWp.sh 27 ?_
     refine LWp.o 28 (B true) ?_
     refine LWp.o 29 (B true) ?_
     refine LWp.sh 30 ?_
     refine LWp.sh 31 ?_
     refine LWp.sh 32 ?_
     refine LWp.sh 33 ?_
     refine LWp.sh 34 ?_
     refine LWp.sh 35 ?_
     refine LWp.sh 36 ?_
     refine LWp.o 37 (B true) ?_
     refine LWp.nil ?_
     cases h
     exact ⟨_, rfl, rfl, rfl⟩
   refine LWp.o 13 (I xB) ?_
   refine LWp.o 14 (.one (.ptr (.box 2) 1 [] 0)) ?_
   refine LWp.o 15 (.one (.sl false 82 3 (encs (c82 false) xF.Blocks))) ?_
   refine LWp.o 16 (I (ln xF.Blocks)) ?_ (st_pure (p_ln (k82 false) xF.Blocks))
   refine LWp.o 17 (I (sb (ln xF.Blocks) 1)) ?_
   refine LWp.cl h 18 (fun v3 => (B v3)) rfl (l := [.sv (.one (.int .i64 xB)), .sv (.one (.int .i64 0)), .sv (.one (.int .i64 (sb (ln xF.Blocks) 1)))]) rfl (fun v hv => s_l01In_t xB 0 (sb (ln xF.Blocks) 1) v hv) (.inl rfl) ?_
   intro v3 gv3 h
   refine LWp.o 19 (B (!v3)) ?_
   refine LWp.o 20 (B (!v3)) ?_
   refine LWp.o 21 (B (!v3)) ?_
   refine LWp.sp h 21 (fun h => ?_) (fun h => ?_)
   · refine LWp.sh 22 ?_
     refine LWp.sh 23 ?_
     refine LWp.sh 24 ?_
     refine LWp.sh 25 ?_
     refine LWp.sh 26 ?_
     refine LWp.sh 27 ?_
     refine LWp.o 28 (B true) ?_
     refine LWp.o 29 (B true) ?_
     refine LWp.sh 30 ?_
     refine LWp.sh 31 ?_
     refine LWp.sh 32 ?_
     refine LWp.sh 33 ?_
     refine LWp.sh 34 ?_
     refine LWp.sh 35 ?_
     refine LWp.sh 36 ?_
     refine LWp.o 37 (B true) ?_
     refine LWp.nil ?_
     cases h
     exact ⟨_, rfl, rfl, rfl⟩
   refine LWp.o 22 (.one (.ptr (.box 2) 1 [] 0)) ?_
   refine LWp.o 23 (.one (.sl false 82 3 (encs (c82 false) xF.Blocks))) ?_
   refine LWp.o 24 (I xB) ?_
   refine LWp.p h 25 (fun _ => (.one (.ptr (.slot 23) 1 [0] (Int.toNat xB * 3 + 0)))) ?_ (fun x1 gx1 => st_pure (p_ix (k82 false) (.slot 23) [] 0 gx1))
   intro x1 gx1 h
   refine LWp.o 26 (.one (.ptr (.slot 23) 1 [0] (Int.toNat xB * 3 + 0))) ?_ (st_pure (p_fa (k82 false) (.slot 23) [0] 0 gx1))
   refine LWp.o 27 (B x1.Bad) ?_ (st_pure (p_lc (k82 false) (.slot 23) [0] 0 (.bool x1.Bad) gx1))
   refine LWp.o 28 (B x1.Bad) ?_
   refine LWp.o 29 (B x1.Bad) ?_
   refine LWp.sp h 29 (fun h => ?_) (fun h => ?_)
   · refine LWp.sh 30 ?_
     refine LWp.sh 31 ?_
     refine LWp.sh 32 ?_
     refine LWp.sh 33 ?_
     refine LWp.sh 34 ?_
     refine LWp.sh 35 ?_
     refine LWp.sh 36 ?_
     refine LWp.o 37 (B true) ?_
     refine LWp.nil ?_
     cases h
     exact ⟨_, rfl, rfl, rfl⟩
   refine LWp.o 30 (.one (.ptr (.box 2) 1 [] 0)) ?_
   refine LWp.o 31 (.one (.sl false 82 3 (encs (c82 false) xF.Blocks))) ?_
   refine LWp.o 32 (I xB) ?_
   refine LWp.p h 33 (fun _ => (.one (.ptr (.slot 31) 1 [0] (Int.toNat xB * 3 + 0)))) ?_ (fun x2 gx2 => st_pure (p_ix (k82 false) (.slot 31) [] 0 gx2))
   intro x2 gx2 h
   refine LWp.o 34 (.one (.ptr (.slot 31) 1 [0] (Int.toNat xB * 3 + 1))) ?_ (st_pure (p_fa (k82 false) (.slot 31) [0] 0 gx2))
   refine LWp.o 35 (I x2.Wear) ?_ (st_pure (p_lc (k82 false) (.slot 31) [0] 1 (.int .i64 x2.Wear) gx2))
   refine LWp.o 36 (B (x2.Wear == 1000000000)) ?_
   refine LWp.o 37 (B (x2.Wear == 1000000000)) ?_
   refine LWp.nil ?_
   cases h
   exact ⟨_, rfl, rfl, rfl⟩
 intro j1 h E hE
 refine nt_wp hE ?_
 change Wp _ _ _ (s_Wipe_H1 xF xB v1 j1) _
 refine Wp.c h (fun h => ?_) (fun h => ?_)
 · refine Wp.seq ?_
   refine Wp.region ?_
   refine LWp.o 38 (.agg [.view (.box 6) 0 [] 0]) ?_
   refine LWp.sb [(.box 6, [.junk])] (.box 4) [.sl true 82 3 (encs (c82 true) v1.Blocks)] ?_
   refine LWp.o 5 (B false) ?_
   refine LWp.nil ?_
   cases h
   exact Wp.ret ⟨.inr rfl, _, _, rfl, rfl⟩
 refine Wp.skip ?_
 refine Wp.seq ?_
 refine Wp.regionK 14 [13] mixed (fun c E h => by rcases h with ⟨h | h, _⟩ <;> cases h) ?_
 refine KWp.o 14 0 39 (.one (.ptr (.box 6) 0 [] 0)) ?_
 refine KWp.o 14 1 40 (.one (.view (.box 6) 0 [] 0)) ?_
 refine KWp.o 14 2 41 (I xB) ?_
 refine KWp.o 14 3 42 (.one (.ptr (.box 2) 0 [] 0)) ?_
 refine KWp.o 14 4 43 (.one (.sl false 82 3 (encs (c82 false) xF.Blocks))) ?_
 refine KWp.o 14 5 44 (I xB) ?_
 refine KWp.p h 14 6 45 (fun _ => (.one (.ptr (.slot 43) 1 [0] (Int.toNat xB * 3 + 0)))) ?_ rfl (fun x3 gx3 => sl_pure (p_ix (k82 false) (.slot 43) [] 0 gx3))
 intro x3 gx3 h
 refine KWp.o 14 7 46 (.one (.ptr (.slot 43) 1 [0] (Int.toNat xB * 3 + 1))) ?_ rfl (sl_pure (p_fa (k82 false) (.slot 43) [0] 0 gx3))
 refine KWp.o 14 8 47 (I x3.Wear) ?_ rfl (sl_pure (p_lc (k82 false) (.slot 43) [0] 1 (.int .i64 x3.Wear) gx3))
 refine KWp.o 14 9 48 (I (ad x3.Wear 1)) ?_
 refine KWp.w1 10 ?_
 refine KOp.p h 10 49 (fun c1 => (.one (.sl true 93 2 (encs c93 c1)))) ?_ rfl (fun c1 gc1 => s_mk (f := c93) (Leaf.mk 0 (bs [])) gc1)
 intro c1 gc1 h
 refine KWp.o 14 11 50 (.agg [.bool false, .int .i64 (ad x3.Wear 1), .view (.slot 49) 1 [] 0]) ?_
 refine KWp.p h 14 12 51 (fun _ => (.one (.ptr (.box 6) 0 [0] (Int.toNat xB * 3 + 0)))) ?_ rfl (fun x4 gx4 => sl_pure (p_ix (k82 true) (.box 6) [] 0 gx4))
 intro x4 gx4 h
 refine KWp.w1 13 ?_
 refine KOp.sb 13 [(.slot 49, [.junk])] (.box 6) [.sl true 82 3 (encs (c82 true) (si v1.Blocks xB (Block.mk false (ad x3.Wear 1) c1)))] ?_ rfl (s_st [(.slot 49, [.junk])] (q := [0]) (cs := [.sl true 82 3 (encs (c82 true) v1.Blocks)]) (xs := [.bool false, .int .i64 (ad x3.Wear 1), .sl true 93 2 (encs c93 c1)]) (At.one (setRow_gi (k82 true) (k := 0) (z := (Block.mk false (ad x3.Wear 1) c1)) gx4 rfl rfl)) (fit_gi (k82 true) (k := 0) gx4 rfl))
 refine KWp.done ?_
 refine Wp.seq ?_
 refine Wp.region ?_
 refine LWp.o 52 (.agg [.view (.box 6) 1 [] 0]) ?_
 refine LWp.sb [(.box 6, [.junk])] (.box 4) [.sl true 82 3 (encs (c82 true) (si v1.Blocks xB (Block.mk false (ad x3.Wear 1) c1)))] ?_
 refine LWp.o 5 (B true) ?_
 refine LWp.nil ?_
 cases h
 exact Wp.ret ⟨.inr rfl, _, _, rfl, rfl⟩
set_option maxRecDepth 100000 in
theorem s_DoStep_t (xF : Flash) (xS : Step) (r : Flash × Bool) (h : s_DoStep xF xS = some r) : Gives Try.prog 57 [.sv (.agg [.sl false 82 3 (encs (c82 false) xF.Blocks)]), .sv (.agg [.int .i64 xS.Kind, .int .i64 xS.Block, .int .i64 xS.Leaf, .str xS.Text])] (.tup [(.agg [.sl true 82 3 (encs (c82 true) r.1.Blocks)]), (B r.2)]) (List.replicate 2 .gone) := by
 unfold s_DoStep at h
 refine gives_of Try.func57 rfl ?_
 rw [Try.ntmps57]
 refine Wp.seq ?_
 refine Wp.region ?_
 refine LWp.b [] 2 [.sl false 82 3 (encs (c82 false) xF.Blocks)] ?_
 refine LWp.b [] 3 [.int .i64 xS.Kind, .int .i64 xS.Block, .int .i64 xS.Leaf, .str xS.Text] ?_
 refine LWp.b [] 4 [.sl true 82 3 (encs (c82 true) [])] ?_
 refine LWp.o 5 (B false) ?_
 refine LWp.nil ?_
 refine Wp.seq ?_
 refine Wp.seq ?_
 refine Wp.region ?_
 refine LWp.o 6 (.one (.ptr (.box 3) 1 [] 0)) ?_
 refine LWp.o 7 (I xS.Kind) ?_
 refine LWp.nil ?_
 refine Wp.block ?_
 refine Wp.seq ?_
 refine Wp.region ?_
 refine LWp.o 9 (B (xS.Kind == 1)) ?_
 refine LWp.o 8 (B (xS.Kind == 1)) ?_
 refine LWp.nil ?_
 refine Wp.c h (fun h => ?_) (fun h => ?_)
 · refine Wp.seq ?_
   refine Wp.region ?_
   refine LWp.o 10 (.agg [.sl false 82 3 (encs (c82 false) xF.Blocks)]) ?_
   refine LWp.o 11 (.one (.ptr (.box 3) 1 [] 1)) ?_
   refine LWp.o 12 (I xS.Block) ?_
   refine LWp.o 13 (.one (.ptr (.box 3) 1 [] 2)) ?_
   refine LWp.o 14 (I xS.Leaf) ?_
   refine LWp.o 15 (.one (.ptr (.box 3) 1 [] 3)) ?_
   refine LWp.o 16 (Y xS.Text) ?_
   refine LWp.cl h 17 (fun v1 => (.tup [(.agg [.sl true 82 3 (encs (c82 true) v1.1.Blocks)]), (B v1.2)])) rfl (l := [.sv (.agg [.sl false 82 3 (encs (c82 false) xF.Blocks)]), .sv (.one (.int .i64 xS.Block)), .sv (.one (.int .i64 xS.Leaf)), .sv (.one (.str xS.Text))]) rfl (fun v hv => s_Program_t xF xS.Block xS.Leaf xS.Text v hv) (.inl rfl) ?_
   intro v1 gv1 h
   refine LWp.e 17 0 18 (.agg [.sl true 82 3 (encs (c82 true) v1.1.Blocks)]) ?_
   refine LWp.e 17 1 19 (B v1.2) ?_
   refine LWp.sb [(.slot 18, [.junk])] (.box 4) [.sl true 82 3 (encs (c82 true) v1.1.Blocks)] ?_
   refine LWp.o 5 (B v1.2) ?_
   refine LWp.nil ?_
   cases h
   exact Wp.ret ⟨.inr rfl, _, _, rfl, rfl⟩
 refine Wp.seq ?_
 refine Wp.region ?_
 refine LWp.o 21 (B (xS.Kind == 2)) ?_
 refine LWp.o 20 (B (xS.Kind == 2)) ?_
 refine LWp.nil ?_
 refine Wp.c h (fun h => ?_) (fun h => ?_)
 · refine Wp.seq ?_
   refine Wp.region ?_
   refine LWp.o 22 (.agg [.sl false 82 3 (encs (c82 false) xF.Blocks)]) ?_
   refine LWp.o 23 (.one (.ptr (.box 3) 1 [] 1)) ?_
   refine LWp.o 24 (I xS.Block) ?_
   refine LWp.cl h 25 (fun v2 => (.tup [(.agg [.sl true 82 3 (encs (c82 true) v2.1.Blocks)]), (B v2.2)])) rfl (l := [.sv (.agg [.sl false 82 3 (encs (c82 false) xF.Blocks)]), .sv (.one (.int .i64 xS.Block))]) rfl (fun v hv => s_Wipe_t xF xS.Block v hv) (.inl rfl) ?_
   intro v2 gv2 h
   refine LWp.e 25 0 26 (.agg [.sl true 82 3 (encs (c82 true) v2.1.Blocks)]) ?_
   refine LWp.e 25 1 27 (B v2.2) ?_
   refine LWp.sb [(.slot 26, [.junk])] (.box 4) [.sl true 82 3 (encs (c82 true) v2.1.Blocks)] ?_
   refine LWp.o 5 (B v2.2) ?_
   refine LWp.nil ?_
   cases h
   exact Wp.ret ⟨.inr rfl, _, _, rfl, rfl⟩
 refine Wp.skip ?_
 refine Wp.seq ?_
 refine Wp.region ?_
 refine LWp.o 28 (.agg [.sl false 82 3 (encs (c82 false) xF.Blocks)]) ?_
 refine LWp.cl h 29 (fun v3 => (.agg [.sl true 82 3 (encs (c82 true) v3.Blocks)])) rfl (l := [.sv (.agg [.sl false 82 3 (encs (c82 false) xF.Blocks)])]) rfl (fun v hv => s_l05Copy_t xF v hv) (.inl rfl) ?_
 intro v3 gv3 h
 refine LWp.sb [(.slot 29, [.junk])] (.box 4) [.sl true 82 3 (encs (c82 true) v3.Blocks)] ?_
 refine LWp.o 5 (B false) ?_
 refine LWp.nil ?_
 cases h
 exact Wp.ret ⟨.inr rfl, _, _, rfl, rfl⟩
def s_DoSteps_H1 (xList : List Step) (z1 : Int) (z2 : List Block) : St := mkSt [(1, (.one (.sl false 72 4 (encs c72 xList)))), (4, (.one (.ptr (.box 4) 0 [] 0))), (6, (.one (.ptr (.box 6) 0 [] 0))), (7, (I z1))] [(.box 4, [.sl true 82 3 (encs (c82 true) [])]), (.box 6, [.sl true 82 3 (encs (c82 true) z2)])]
def s_DoSteps_H2 (xList : List Step) (z3 : List Block) : St := mkSt [(1, (.one (.sl false 72 4 (encs c72 xList)))), (4, (.one (.ptr (.box 4) 0 [] 0))), (6, (.one (.ptr (.box 6) 0 [] 0)))] [(.box 4, [.sl true 82 3 (encs (c82 true) [])]), (.box 6, [.sl true 82 3 (encs (c82 true) z3)])]
def s_DoSteps_H3 (xList : List Step) (yI1 : Int) (yOut01 : List Block) (z4 : Bool) (z5 : List Block) : St := mkSt [(1, (.one (.sl false 72 4 (encs c72 xList)))), (4, (.one (.ptr (.box 4) 0 [] 0))), (6, (.one (.ptr (.box 6) 0 [] 0))), (7, (I yI1)), (8, (.one (.ptr (.box 8) 0 [] 0))), (9, (B z4))] [(.box 4, [.sl true 82 3 (encs (c82 true) [])]), (.box 6, [.sl true 82 3 (encs (c82 true) yOut01)]), (.box 8, [.sl true 82 3 (encs (c82 true) z5)])]
set_option maxRecDepth 100000 in
theorem s_DoSteps_t (xF : Flash) (xList : List Step) (r : Flash × Int) (h : s_DoSteps xF xList = some r) : Gives Try.prog 38 [.sv (.agg [.sl false 82 3 (encs (c82 false) xF.Blocks)]), .sv (.one (.sl false 72 4 (encs c72 xList)))] (.tup [(.agg [.sl true 82 3 (encs (c82 true) r.1.Blocks)]), (I r.2)]) (List.replicate 2 .gone) := by
 unfold s_DoSteps at h
 refine gives_of Try.func38 rfl ?_
 rw [Try.ntmps38]
 refine Wp.seq ?_
 refine Wp.region ?_
 refine LWp.b [] 2 [.sl false 82 3 (encs (c82 false) xF.Blocks)] ?_
 refine LWp.b [] 4 [.sl true 82 3 (encs (c82 true) [])] ?_
 refine LWp.o 5 (I 0) ?_
 refine LWp.nil ?_
 refine Wp.seq ?_
 refine Wp.region ?_
 refine LWp.o 10 (.agg [.sl false 82 3 (encs (c82 false) xF.Blocks)]) ?_
 refine LWp.cl h 11 (fun v1 => (.agg [.sl true 82 3 (encs (c82 true) v1.Blocks)])) rfl (l := [.sv (.agg [.sl false 82 3 (encs (c82 false) xF.Blocks)])]) rfl (fun v hv => s_l05Copy_t xF v hv) (.inl rfl) ?_
 intro v1 gv1 h
 refine LWp.b [] 6 [.sl true 82 3 (encs (c82 true) [])] ?_
 refine LWp.sb [(.slot 11, [.junk])] (.box 6) [.sl true 82 3 (encs (c82 true) v1.Blocks)] ?_
 refine LWp.nil ?_
 refine Wp.seq ?_
 refine Wp.seq ?_
 refine Wp.region ?_
 refine LWp.o 7 (I 0) ?_
 refine LWp.nil ?_
 refine Wp.l2 h [1, 4, 6, 7] [.box 4, .box 6] (fun s => (s_DoSteps_H1 xList s.1 s.2)) [1, 4, 6] [.box 4, .box 6] (fun s => (s_DoSteps_H2 xList s)) ⟨rfl, rfl⟩ ?_ ?_
 · rintro ⟨yI1, yOut01⟩ o (h : s_DoSteps_b1 xList yI1 yOut01 = some o) hk1
   unfold s_DoSteps_b1 at h
   change Wp _ _ _ (s_DoSteps_H1 xList yI1 yOut01) _
   refine Wp.seq ?_
   refine Wp.seq ?_
   refine Wp.region ?_
   refine LWp.o 12 (I yI1) ?_
   refine LWp.o 13 (.one (.sl false 72 4 (encs c72 xList))) ?_
   refine LWp.o 14 (I (ln xList)) ?_ (st_pure (p_ln k72 xList))
   refine LWp.o 15 (B (decide (yI1 < (ln xList)))) ?_
   refine LWp.nil ?_
   refine Wp.c h (fun h => ?_) (fun h => ?_)
   · refine Wp.skip ?_
     refine Wp.seq ?_
     refine Wp.block ?_
     refine Wp.seq ?_
     refine Wp.j1 h [1, 4, 6, 7, 8, 9] [.box 4, .box 6, .box 8] (fun a => (s_DoSteps_H3 xList yI1 yOut01 a.1 a.2)) ?_ ?_
     · intro a h
       refine Wp.regionK 12 [10] mixed (fun c E h => by rcases h with ⟨h | h, _⟩ <;> cases h) ?_
       refine KWp.o 12 0 19 (.agg [.view (.box 6) 0 [] 0]) ?_
       refine KWp.o 12 1 20 (.one (.sl false 72 4 (encs c72 xList))) ?_
       refine KWp.o 12 2 21 (I yI1) ?_
       refine KWp.p h 12 3 22 (fun _ => (.one (.ptr (.slot 20) 1 [0] (Int.toNat yI1 * 4 + 0)))) ?_ rfl (fun x1 gx1 => sl_pure (p_ix k72 (.slot 20) [] 0 gx1))
       intro x1 gx1 h
       refine KWp.o 12 4 23 (.agg [.int .i64 x1.Kind, .int .i64 x1.Block, .int .i64 x1.Leaf, .str x1.Text]) ?_ rfl (sl_pure (p_le k72 (.slot 20) [0] gx1))
       refine KWp.w2 5 9 ?_ ?_
       · refine KOp.cl h 5 24 (fun v2 => (.tup [(.agg [.sl true 82 3 (encs (c82 true) v2.1.Blocks)]), (B v2.2)])) rfl rfl (l := [.sv (.agg [.sl false 82 3 (shares (encs (c82 true) yOut01))]), .sv (.agg [.int .i64 x1.Kind, .int .i64 x1.Block, .int .i64 x1.Leaf, .str x1.Text])]) rfl (fun v hv => cg (l := [.sv (.agg [.sl false 82 3 (shares (encs (c82 true) yOut01))]), .sv (.agg [.int .i64 x1.Kind, .int .i64 x1.Block, .int .i64 x1.Leaf, .str x1.Text])]) (by simp only [sh82]) (s_DoStep_t (Flash.mk yOut01) x1 v hv)) (.inr (fun v => by simp [svShared, svShareds, hasShareds, hasShared, ns82])) ?_
         intro v2 gv2 h
         refine KWp.w2 6 9 ?_ ?_
         · refine KOp.mt 6 24 18 (.tup [(.agg [.sl true 82 3 (encs (c82 true) v2.1.Blocks)]), (B v2.2)]) ?_
           refine KWp.w3 7 8 9 ?_ ?_ ?_
           · refine KOp.e 7 18 0 25 (.agg [.sl true 82 3 (encs (c82 true) v2.1.Blocks)]) ?_
             refine KWp.w2 8 9 ?_ ?_
             · refine KOp.e 8 18 1 26 (B v2.2) ?_
               refine KWp.w1 9 ?_
               refine KOp.b 9 [] 8 [.sl true 82 3 (encs (c82 true) [])] ?_
               refine KWp.w1 10 ?_
               refine KOp.sb 10 [(.slot 25, [.junk])] (.box 8) [.sl true 82 3 (encs (c82 true) v2.1.Blocks)] ?_
               refine KWp.w1 11 ?_
               refine KOp.o 11 9 (B v2.2) ?_
               refine KWp.done ?_
               cases h
               exact ⟨_, rfl, rfl, rfl⟩
             refine KOp.b 9 [] 8 [.sl true 82 3 (encs (c82 true) [])] ?_
             refine KWp.w2 8 10 ?_ ?_
             · refine KOp.e 8 18 1 26 (B v2.2) ?_
               refine KWp.w1 10 ?_
               refine KOp.sb 10 [(.slot 25, [.junk])] (.box 8) [.sl true 82 3 (encs (c82 true) v2.1.Blocks)] ?_
               refine KWp.w1 11 ?_
               refine KOp.o 11 9 (B v2.2) ?_
               refine KWp.done ?_
               cases h
               exact ⟨_, rfl, rfl, rfl⟩
             refine KOp.sb 10 [(.slot 25, [.junk])] (.box 8) [.sl true 82 3 (encs (c82 true) v2.1.Blocks)] ?_
             refine KWp.w1 8 ?_
             refine KOp.e 8 18 1 26 (B v2.2) ?_
             refine KWp.w1 11 ?_
             refine KOp.o 11 9 (B v2.2) ?_
             refine KWp.done ?_
             cases h
             exact ⟨_, rfl, rfl, rfl⟩
           · refine KOp.e 8 18 1 26 (B v2.2) ?_
             refine KWp.w2 7 9 ?_ ?_
             · refine KOp.e 7 18 0 25 (.agg [.sl true 82 3 (encs (c82 true) v2.1.Blocks)]) ?_
               refine KWp.w1 9 ?_
               refine KOp.b 9 [] 8 [.sl true 82 3 (encs (c82 true) [])] ?_
               refine KWp.w1 10 ?_
               refine KOp.sb 10 [(.slot 25, [.junk])] (.box 8) [.sl true 82 3 (encs (c82 true) v2.1.Blocks)] ?_
               refine KWp.w1 11 ?_
               refine KOp.o 11 9 (B v2.2) ?_
               refine KWp.done ?_
               cases h
               exact ⟨_, rfl, rfl, rfl⟩
             refine KOp.b 9 [] 8 [.sl true 82 3 (encs (c82 true) [])] ?_
             refine KWp.w1 7 ?_
             refine KOp.e 7 18 0 25 (.agg [.sl true 82 3 (encs (c82 true) v2.1.Blocks)]) ?_
             refine KWp.w1 10 ?_
             refine KOp.sb 10 [(.slot 25, [.junk])] (.box 8) [.sl true 82 3 (encs (c82 true) v2.1.Blocks)] ?_
             refine KWp.w1 11 ?_
             refine KOp.o 11 9 (B v2.2) ?_
             refine KWp.done ?_
             cases h
             exact ⟨_, rfl, rfl, rfl⟩
           refine KOp.b 9 [] 8 [.sl true 82 3 (encs (c82 true) [])] ?_
           refine KWp.w2 7 8 ?_ ?_
           · refine KOp.e 7 18 0 25 (.agg [.sl true 82 3 (encs (c82 true) v2.1.Blocks)]) ?_
             refine KWp.w2 8 10 ?_ ?_
             · refine KOp.e 8 18 1 26 (B v2.2) ?_
               refine KWp.w1 10 ?_
               refine KOp.sb 10 [(.slot 25, [.junk])] (.box 8) [.sl true 82 3 (encs (c82 true) v2.1.Blocks)] ?_
               refine KWp.w1 11 ?_
               refine KOp.o 11 9 (B v2.2) ?_
               refine KWp.done ?_
               cases h
               exact ⟨_, rfl, rfl, rfl⟩
             refine KOp.sb 10 [(.slot 25, [.junk])] (.box 8) [.sl true 82 3 (encs (c82 true) v2.1.Blocks)] ?_
             refine KWp.w1 8 ?_
             refine KOp.e 8 18 1 26 (B v2.2) ?_
             refine KWp.w1 11 ?_
             refine KOp.o 11 9 (B v2.2) ?_
             refine KWp.done ?_
             cases h
             exact ⟨_, rfl, rfl, rfl⟩
           refine KOp.e 8 18 1 26 (B v2.2) ?_
           refine KWp.w1 7 ?_
           refine KOp.e 7 18 0 25 (.agg [.sl true 82 3 (encs (c82 true) v2.1.Blocks)]) ?_
           refine KWp.w1 10 ?_
           refine KOp.sb 10 [(.slot 25, [.junk])] (.box 8) [.sl true 82 3 (encs (c82 true) v2.1.Blocks)] ?_
           refine KWp.w1 11 ?_
           refine KOp.o 11 9 (B v2.2) ?_
           refine KWp.done ?_
           cases h
           exact ⟨_, rfl, rfl, rfl⟩
         refine KOp.b 9 [] 8 [.sl true 82 3 (encs (c82 true) [])] ?_
         refine KWp.w1 6 ?_
         refine KOp.mt 6 24 18 (.tup [(.agg [.sl true 82 3 (encs (c82 true) v2.1.Blocks)]), (B v2.2)]) ?_
         refine KWp.w2 7 8 ?_ ?_
         · refine KOp.e 7 18 0 25 (.agg [.sl true 82 3 (encs (c82 true) v2.1.Blocks)]) ?_
           refine KWp.w2 8 10 ?_ ?_
           · refine KOp.e 8 18 1 26 (B v2.2) ?_
             refine KWp.w1 10 ?_
             refine KOp.sb 10 [(.slot 25, [.junk])] (.box 8) [.sl true 82 3 (encs (c82 true) v2.1.Blocks)] ?_
             refine KWp.w1 11 ?_
             refine KOp.o 11 9 (B v2.2) ?_
             refine KWp.done ?_
             cases h
             exact ⟨_, rfl, rfl, rfl⟩
           refine KOp.sb 10 [(.slot 25, [.junk])] (.box 8) [.sl true 82 3 (encs (c82 true) v2.1.Blocks)] ?_
           refine KWp.w1 8 ?_
           refine KOp.e 8 18 1 26 (B v2.2) ?_
           refine KWp.w1 11 ?_
           refine KOp.o 11 9 (B v2.2) ?_
           refine KWp.done ?_
           cases h
           exact ⟨_, rfl, rfl, rfl⟩
         refine KOp.e 8 18 1 26 (B v2.2) ?_
         refine KWp.w1 7 ?_
         refine KOp.e 7 18 0 25 (.agg [.sl true 82 3 (encs (c82 true) v2.1.Blocks)]) ?_
         refine KWp.w1 10 ?_
         refine KOp.sb 10 [(.slot 25, [.junk])] (.box 8) [.sl true 82 3 (encs (c82 true) v2.1.Blocks)] ?_
         refine KWp.w1 11 ?_
         refine KOp.o 11 9 (B v2.2) ?_
         refine KWp.done ?_
         cases h
         exact ⟨_, rfl, rfl, rfl⟩
       refine KOp.b 9 [] 8 [.sl true 82 3 (encs (c82 true) [])] ?_
       refine KWp.w1 5 ?_
       refine KOp.cl h 5 24 (fun v3 => (.tup [(.agg [.sl true 82 3 (encs (c82 true) v3.1.Blocks)]), (B v3.2)])) rfl rfl (l := [.sv (.agg [.sl false 82 3 (shares (encs (c82 true) yOut01))]), .sv (.agg [.int .i64 x1.Kind, .int .i64 x1.Block, .int .i64 x1.Leaf, .str x1.Text])]) rfl (fun v hv => cg (l := [.sv (.agg [.sl false 82 3 (shares (encs (c82 true) yOut01))]), .sv (.agg [.int .i64 x1.Kind, .int .i64 x1.Block, .int .i64 x1.Leaf, .str x1.Text])]) (by simp only [sh82]) (s_DoStep_t (Flash.mk yOut01) x1 v hv)) (.inr (fun v => by simp [svShared, svShareds, hasShareds, hasShared, ns82])) ?_
       intro v3 gv3 h
       refine KWp.w1 6 ?_
       refine KOp.mt 6 24 18 (.tup [(.agg [.sl true 82 3 (encs (c82 true) v3.1.Blocks)]), (B v3.2)]) ?_
       refine KWp.w2 7 8 ?_ ?_
       · refine KOp.e 7 18 0 25 (.agg [.sl true 82 3 (encs (c82 true) v3.1.Blocks)]) ?_
         refine KWp.w2 8 10 ?_ ?_
         · refine KOp.e 8 18 1 26 (B v3.2) ?_
           refine KWp.w1 10 ?_
           refine KOp.sb 10 [(.slot 25, [.junk])] (.box 8) [.sl true 82 3 (encs (c82 true) v3.1.Blocks)] ?_
           refine KWp.w1 11 ?_
           refine KOp.o 11 9 (B v3.2) ?_
           refine KWp.done ?_
           cases h
           exact ⟨_, rfl, rfl, rfl⟩
         refine KOp.sb 10 [(.slot 25, [.junk])] (.box 8) [.sl true 82 3 (encs (c82 true) v3.1.Blocks)] ?_
         refine KWp.w1 8 ?_
         refine KOp.e 8 18 1 26 (B v3.2) ?_
         refine KWp.w1 11 ?_
         refine KOp.o 11 9 (B v3.2) ?_
         refine KWp.done ?_
         cases h
         exact ⟨_, rfl, rfl, rfl⟩
       refine KOp.e 8 18 1 26 (B v3.2) ?_
       refine KWp.w1 7 ?_
       refine KOp.e 7 18 0 25 (.agg [.sl true 82 3 (encs (c82 true) v3.1.Blocks)]) ?_
       refine KWp.w1 10 ?_
       refine KOp.sb 10 [(.slot 25, [.junk])] (.box 8) [.sl true 82 3 (encs (c82 true) v3.1.Blocks)] ?_
       refine KWp.w1 11 ?_
       refine KOp.o 11 9 (B v3.2) ?_
       refine KWp.done ?_
       cases h
       exact ⟨_, rfl, rfl, rfl⟩
     intro j1 h E hE
     refine nt_wp hE ?_
     change Wp _ _ _ (s_DoSteps_H3 xList yI1 yOut01 j1.1 j1.2) _
     refine Wp.seq ?_
     refine Wp.seq ?_
     refine Wp.region ?_
     refine LWp.o 27 (B j1.1) ?_
     refine LWp.o 28 (B (!j1.1)) ?_
     refine LWp.nil ?_
     refine Wp.c h (fun h => ?_) (fun h => ?_)
     · refine Wp.seq ?_
       refine Wp.region ?_
       refine LWp.o 29 (.agg [.view (.box 6) 0 [] 0]) ?_
       refine LWp.o 30 (I yI1) ?_
       refine LWp.sb [(.box 6, [.junk])] (.box 4) [.sl true 82 3 (encs (c82 true) yOut01)] ?_
       refine LWp.o 5 (I yI1) ?_
       refine LWp.nil ?_
       cases h
       replace h : some _ = some _ := hk1 _ rfl
       cases h
       exact Wp.ret ⟨.inr rfl, _, _, rfl, rfl⟩
     refine Wp.skip ?_
     refine Wp.region ?_
     refine LWp.o 31 (.agg [.view (.box 8) 0 [] 0]) ?_
     refine LWp.sb [(.box 8, [.junk])] (.box 6) [.sl true 82 3 (encs (c82 true) j1.2)] ?_
     refine LWp.nil ?_
     refine Wp.region ?_
     refine LWp.o 16 (I yI1) ?_
     refine LWp.o 17 (I (ad yI1 1)) ?_
     refine LWp.o 7 (I (ad yI1 1)) ?_
     refine LWp.nil ?_
     cases h
     exact ⟨_, rfl, rfl, rfl⟩
   refine Wp.exit ?_
   cases h
   exact ⟨_, rfl, rfl, rfl⟩
 intro v4 h E hE
 refine nt_wp hE ?_
 change Wp _ _ _ (s_DoSteps_H2 xList v4) _
 refine Wp.seq ?_
 refine Wp.region ?_
 refine LWp.o 32 (.agg [.view (.box 6) 0 [] 0]) ?_
 refine LWp.o 33 (.one (.sl false 72 4 (encs c72 xList))) ?_
 refine LWp.o 34 (I (ln xList)) ?_ (st_pure (p_ln k72 xList))
 refine LWp.sb [(.box 6, [.junk])] (.box 4) [.sl true 82 3 (encs (c82 true) v4)] ?_
 refine LWp.o 5 (I (ln xList)) ?_
 refine LWp.nil ?_
 cases h
 exact Wp.ret ⟨.inr rfl, _, _, rfl, rfl⟩
set_option maxRecDepth 100000 in
theorem s_Lawful_t (xBlocks : Int) (xSteps : List Step) (r : Bool) (h : s_Lawful xBlocks xSteps = some r) : Gives Try.prog 20 [.sv (I xBlocks), .sv (.one (.sl false 72 4 (encs c72 xSteps)))] (B r) (List.replicate 2 .gone) := by
 unfold s_Lawful at h
 refine gives_of Try.func20 rfl ?_
 rw [Try.ntmps20]
 refine Wp.seq ?_
 refine Wp.region ?_
 refine LWp.o 4 (B false) ?_
 refine LWp.nil ?_
 refine Wp.seq ?_
 refine Wp.region ?_
 refine LWp.o 10 (I xBlocks) ?_
 refine LWp.cl h 11 (fun v1 => (.tup [(.agg [.sl true 82 3 (encs (c82 true) v1.1.Blocks)]), (B v1.2)])) rfl (l := [.sv (.one (.int .i64 xBlocks))]) rfl (fun v hv => s_FlashNew_t xBlocks v hv) (.inl rfl) ?_
 intro v1 gv1 h
 refine LWp.mt 11 9 (.tup [(.agg [.sl true 82 3 (encs (c82 true) v1.1.Blocks)]), (B v1.2)]) ?_
 refine LWp.e 9 0 12 (.agg [.sl true 82 3 (encs (c82 true) v1.1.Blocks)]) ?_
 refine LWp.e 9 1 13 (B v1.2) ?_
 refine LWp.b [] 5 [.sl true 82 3 (encs (c82 true) [])] ?_
 refine LWp.sb [(.slot 12, [.junk])] (.box 5) [.sl true 82 3 (encs (c82 true) v1.1.Blocks)] ?_
 refine LWp.o 6 (B v1.2) ?_
 refine LWp.nil ?_
 refine Wp.seq ?_
 refine Wp.region ?_
 refine LWp.o 15 (.agg [.view (.box 5) 2 [] 0]) ?_
 refine LWp.o 16 (.one (.sl false 72 4 (encs c72 xSteps))) ?_
 refine LWp.cl h 17 (fun v2 => (.tup [(.agg [.sl true 82 3 (encs (c82 true) v2.1.Blocks)]), (I v2.2)])) rfl (l := [.sv (.agg [.sl false 82 3 (shares (encs (c82 true) v1.1.Blocks))]), .sv (.one (.sl false 72 4 (encs c72 xSteps)))]) rfl (fun v hv => cg (l := [.sv (.agg [.sl false 82 3 (shares (encs (c82 true) v1.1.Blocks))]), .sv (.one (.sl false 72 4 (encs c72 xSteps)))]) (by simp only [sh82]) (s_DoSteps_t v1.1 xSteps v hv)) (.inr (fun v => by simp [svShared, svShareds, hasShareds, hasShared, ns82])) ?_
 intro v2 gv2 h
 refine LWp.mt 17 14 (.tup [(.agg [.sl true 82 3 (encs (c82 true) v2.1.Blocks)]), (I v2.2)]) ?_
 refine LWp.e 14 0 18 (.agg [.sl true 82 3 (encs (c82 true) v2.1.Blocks)]) ?_
 refine LWp.e 14 1 19 (I v2.2) ?_
 refine LWp.b [] 7 [.sl true 82 3 (encs (c82 true) [])] ?_
 refine LWp.sb [(.slot 18, [.junk])] (.box 7) [.sl true 82 3 (encs (c82 true) v2.1.Blocks)] ?_
 refine LWp.o 8 (I v2.2) ?_
 refine LWp.nil ?_
 refine Wp.seq ?_
 refine Wp.region ?_
 refine LWp.o 20 (B v1.2) ?_
 refine LWp.o 21 (B v1.2) ?_
 refine LWp.sp h 21 (fun h => ?_) (fun h => ?_)
 · refine LWp.o 22 (I v2.2) ?_
   refine LWp.o 23 (.one (.sl false 72 4 (encs c72 xSteps))) ?_
   refine LWp.o 24 (I (ln xSteps)) ?_ (st_pure (p_ln k72 xSteps))
   refine LWp.o 25 (B (v2.2 == (ln xSteps))) ?_
   refine LWp.o 26 (B (v2.2 == (ln xSteps))) ?_
   refine LWp.o 4 (B (v2.2 == (ln xSteps))) ?_
   refine LWp.nil ?_
   cases h
   exact Wp.ret ⟨.inr rfl, _, _, rfl, rfl⟩
 refine LWp.sh 22 ?_
 refine LWp.sh 23 ?_
 refine LWp.sh 24 ?_
 refine LWp.sh 25 ?_
 refine LWp.o 26 (B false) ?_
 refine LWp.o 4 (B false) ?_
 refine LWp.nil ?_
 cases h
 exact Wp.ret ⟨.inr rfl, _, _, rfl, rfl⟩
set_option maxRecDepth 100000 in
theorem i_in_t (xN : Int) (xLow : Int) (xHigh : Int) (r : Bool) (h : i_in xN xLow xHigh = some r) : Gives Try.prog 52 [.sv (I xN), .sv (I xLow), .sv (I xHigh)] (B r) (List.replicate 3 .gone) := by
 unfold i_in at h
 refine gives_of Try.func52 rfl ?_
 rw [Try.ntmps52]
 refine Wp.seq ?_
 refine Wp.region ?_
 refine LWp.o 6 (B false) ?_
 refine LWp.nil ?_
 refine Wp.seq ?_
 refine Wp.region ?_
 refine LWp.o 7 (I xN) ?_
 refine LWp.o 8 (I xLow) ?_
 refine LWp.o 9 (B (decide (xN ≥ xLow))) ?_
 refine LWp.o 10 (B (decide (xN ≥ xLow))) ?_
 refine LWp.sp h 10 (fun h => ?_) (fun h => ?_)
 · refine LWp.o 11 (I xN) ?_
   refine LWp.o 12 (I xHigh) ?_
   refine LWp.o 13 (B (decide (xN ≤ xHigh))) ?_
   refine LWp.o 14 (B (decide (xN ≤ xHigh))) ?_
   refine LWp.o 6 (B (decide (xN ≤ xHigh))) ?_
   refine LWp.nil ?_
   cases h
   exact Wp.ret ⟨.inr rfl, _, _, rfl, rfl⟩
 refine LWp.sh 11 ?_
 refine LWp.sh 12 ?_
 refine LWp.sh 13 ?_
 refine LWp.o 14 (B false) ?_
 refine LWp.o 6 (B false) ?_
 refine LWp.nil ?_
 cases h
 exact Wp.ret ⟨.inr rfl, _, _, rfl, rfl⟩
set_option maxRecDepth 100000 in
theorem i_blankLeaves_t  (r : List Leaf) (h : i_blankLeaves = some r) : Gives Try.prog 58 [] (.one (.sl true 93 2 (encs c93 r))) (List.replicate 0 .gone) := by
 unfold i_blankLeaves at h
 refine gives_of Try.func58 rfl ?_
 rw [Try.ntmps58]
 refine Wp.seq ?_
 refine Wp.region ?_
 refine LWp.o 0 (.one (.sl true 93 2 (encs c93 []))) ?_
 refine LWp.nil ?_
 refine Wp.seq ?_
 refine Wp.region ?_
 refine LWp.p h 1 (fun c1 => (.one (.sl true 93 2 (encs c93 c1)))) ?_ (fun c1 gc1 => s_mk (f := c93) (Leaf.mk 0 (bs [])) gc1)
 intro c1 gc1 h
 refine LWp.m true [(.slot 1, [.junk])] 0 (.one (.sl true 93 2 (encs c93 c1))) ?_
 refine LWp.nil ?_
 cases h
 exact Wp.ret ⟨.inr rfl, _, _, rfl, rfl⟩
def i_FlashNew_H1 (xN : Int) (z1 : Int) (z2 : List Block) : St := mkSt [(2, (.one (.ptr (.box 2) 0 [] 0))), (4, (.one (.ptr (.box 4) 0 [] 0))), (9, (I xN)), (10, (I z1))] [(.box 2, [.sl true 82 3 (encs (c82 true) [])]), (.box 4, [.sl true 82 3 (encs (c82 true) z2)])]
def i_FlashNew_H2 (z3 : List Block) : St := mkSt [(2, (.one (.ptr (.box 2) 0 [] 0))), (4, (.one (.ptr (.box 4) 0 [] 0)))] [(.box 2, [.sl true 82 3 (encs (c82 true) [])]), (.box 4, [.sl true 82 3 (encs (c82 true) z3)])]
set_option maxRecDepth 100000 in
theorem i_FlashNew_t (xN : Int) (r : Flash × Bool) (h : i_FlashNew xN = some r) : Gives Try.prog 40 [.sv (I xN)] (.tup [(.agg [.sl true 82 3 (encs (c82 true) r.1.Blocks)]), (B r.2)]) (List.replicate 1 .gone) := by
 unfold i_FlashNew at h
 refine gives_of Try.func40 rfl ?_
 rw [Try.ntmps40]
 refine Wp.seq ?_
 refine Wp.region ?_
 refine LWp.b [] 2 [.sl true 82 3 (encs (c82 true) [])] ?_
 refine LWp.o 3 (B false) ?_
 refine LWp.nil ?_
 refine Wp.seq ?_
 refine Wp.seq ?_
 refine Wp.region ?_
 refine LWp.o 5 (I xN) ?_
 refine LWp.cl h 6 (fun v1 => (B v1)) rfl (l := [.sv (.one (.int .i64 xN)), .sv (.one (.int .i64 3)), .sv (.one (.int .i64 10))]) rfl (fun v hv => i_in_t xN 3 10 v hv) (.inl rfl) ?_
 intro v1 gv1 h
 refine LWp.o 7 (B (!v1)) ?_
 refine LWp.nil ?_
 refine Wp.c h (fun h => ?_) (fun h => ?_)
 · refine Wp.seq ?_
   refine Wp.region ?_
   refine LWp.o 8 (.agg [.sl true 82 3 (encs (c82 true) [])]) ?_
   refine LWp.sb [(.slot 8, [.junk])] (.box 2) [.sl true 82 3 (encs (c82 true) [])] ?_
   refine LWp.o 3 (B false) ?_
   refine LWp.nil ?_
   cases h
   exact Wp.ret ⟨.inr rfl, _, _, rfl, rfl⟩
 refine Wp.skip ?_
 refine Wp.seq ?_
 refine Wp.region ?_
 refine LWp.b [] 4 [.sl true 82 3 (encs (c82 true) [])] ?_
 refine LWp.nil ?_
 refine Wp.seq ?_
 refine Wp.seq ?_
 refine Wp.region ?_
 refine LWp.o 9 (I xN) ?_
 refine LWp.o 10 (I 0) ?_
 refine LWp.nil ?_
 refine Wp.l1 h [2, 4, 9, 10] [.box 2, .box 4] (fun s => (i_FlashNew_H1 xN s.1 s.2)) [2, 4] [.box 2, .box 4] (fun s => (i_FlashNew_H2 s)) ⟨rfl, rfl⟩ ?_ ?_
 · rintro ⟨y1, yF01⟩ o (h : i_FlashNew_b1 xN y1 yF01 = some o)
   unfold i_FlashNew_b1 at h
   change Wp _ _ _ (i_FlashNew_H1 xN y1 yF01) _
   refine Wp.seq ?_
   refine Wp.region ?_
   refine LWp.o 11 (B (decide (y1 < xN))) ?_
   refine LWp.nil ?_
   refine Wp.seq ?_
   refine Wp.c h (fun h => ?_) (fun h => ?_)
   · refine Wp.skip ?_
     refine Wp.seq ?_
     refine Wp.block ?_
     refine Wp.regionK 8 [5, 7] mixed (fun c E h => by rcases h with ⟨h | h, _⟩ <;> cases h) ?_
     refine KWp.o 8 0 12 (.one (.ptr (.box 4) 0 [] 0)) ?_
     refine KWp.o 8 1 13 (.one (.view (.box 4) 0 [] 0)) ?_
     refine KWp.w1 2 ?_
     refine KOp.cl h 2 14 (fun v2 => (.one (.sl true 93 2 (encs c93 v2)))) rfl rfl (l := []) rfl (fun v hv => i_blankLeaves_t v hv) (.inl rfl) ?_
     intro v2 gv2 h
     refine KWp.o 8 3 15 (.agg [.bool false, .int .i64 0, .view (.slot 14) 1 [] 0]) ?_
     refine KWp.w1 4 ?_
     refine KOp.m 4 false [(.slot 14, [.junk])] 16 (.one (.sl true 82 3 (encs (c82 true) [(Block.mk false 0 v2)]))) ?_
     refine KWp.w1 5 ?_
     refine KOp.pm h 5 [(.box 4, [.junk]), (.slot 16, [.sl true 82 3 [.bool ((Block.mk false 0 v2).Bad), .int .i64 ((Block.mk false 0 v2).Wear), .junk]])] 17 (fun c1 => (.one (.sl true 82 3 (encs (c82 true) c1)))) ?_ rfl (fun c1 gc1 => s_ap1 (k82 true) [(.box 4, [.junk]), (.slot 16, [.sl true 82 3 [.bool ((Block.mk false 0 v2).Bad), .int .i64 ((Block.mk false 0 v2).Wear), .junk]])] yF01 [(Block.mk false 0 v2)] gc1)
     intro c1 gc1 h
     refine KWp.w1 6 ?_
     refine KOp.o 6 18 (.one (.ptr (.box 4) 0 [] 0)) ?_
     refine KWp.w1 7 ?_
     refine KOp.s 7 [(.slot 17, [.junk])] (.box 4) [.sl true 82 3 (encs (c82 true) c1)] ?_
     refine KWp.done ?_
     refine Wp.region ?_
     refine LWp.o 19 (I (ad y1 1)) ?_
     refine LWp.o 10 (I (ad y1 1)) ?_
     refine LWp.nil ?_
     cases h
     exact ⟨_, rfl, rfl, rfl⟩
   refine Wp.exit ?_
   cases h
   exact ⟨_, rfl, rfl, rfl⟩
 intro v3 h E hE
 refine nt_wp hE ?_
 change Wp _ _ _ (i_FlashNew_H2 v3) _
 refine Wp.seq ?_
 refine Wp.region ?_
 refine LWp.o 20 (.agg [.view (.box 4) 0 [] 0]) ?_
 refine LWp.sb [(.box 4, [.junk])] (.box 2) [.sl true 82 3 (encs (c82 true) v3)] ?_
 refine LWp.o 3 (B true) ?_
 refine LWp.nil ?_
 cases h
 exact Wp.ret ⟨.inr rfl, _, _, rfl, rfl⟩
def i_copyFlash_H1 (xF : Flash) (z1 : Int) (z2 : List Block) : St := mkSt [(2, (.one (.ptr (.box 2) 0 [] 0))), (3, (.one (.ptr (.box 3) 0 [] 0))), (7, (.one (.sl false 82 3 (encs (c82 false) xF.Blocks)))), (8, (I (ln xF.Blocks))), (9, (I z1))] [(.box 2, [.sl true 82 3 (encs (c82 true) [])]), (.box 3, [.sl true 82 3 (encs (c82 true) z2)])]
def i_copyFlash_H2 (z3 : List Block) : St := mkSt [(2, (.one (.ptr (.box 2) 0 [] 0))), (3, (.one (.ptr (.box 3) 0 [] 0)))] [(.box 2, [.sl true 82 3 (encs (c82 true) [])]), (.box 3, [.sl true 82 3 (encs (c82 true) z3)])]
set_option maxRecDepth 100000 in
theorem i_copyFlash_t (xF : Flash) (r : Flash) (h : i_copyFlash xF = some r) : Gives Try.prog 59 [.sv (.agg [.sl false 82 3 (encs (c82 false) xF.Blocks)])] (.agg [.sl true 82 3 (encs (c82 true) r.Blocks)]) (List.replicate 1 .gone) := by
 unfold i_copyFlash at h
 refine gives_of Try.func59 rfl ?_
 rw [Try.ntmps59]
 refine Wp.seq ?_
 refine Wp.region ?_
 refine LWp.b [] 1 [.sl false 82 3 (encs (c82 false) xF.Blocks)] ?_
 refine LWp.b [] 2 [.sl true 82 3 (encs (c82 true) [])] ?_
 refine LWp.nil ?_
 refine Wp.seq ?_
 refine Wp.region ?_
 refine LWp.b [] 3 [.sl true 82 3 (encs (c82 true) [])] ?_
 refine LWp.nil ?_
 refine Wp.seq ?_
 refine Wp.seq ?_
 refine Wp.region ?_
 refine LWp.o 6 (.one (.ptr (.box 1) 1 [] 0)) ?_
 refine LWp.o 7 (.one (.sl false 82 3 (encs (c82 false) xF.Blocks))) ?_
 refine LWp.o 8 (I (ln xF.Blocks)) ?_ (st_pure (p_ln (k82 false) xF.Blocks))
 refine LWp.o 9 (I 0) ?_
 refine LWp.nil ?_
 refine Wp.l1 h [2, 3, 7, 8, 9] [.box 2, .box 3] (fun s => (i_copyFlash_H1 xF s.1 s.2)) [2, 3] [.box 2, .box 3] (fun s => (i_copyFlash_H2 s)) ⟨rfl, rfl⟩ ?_ ?_
 · rintro ⟨y1, yOut01⟩ o (h : i_copyFlash_b1 xF y1 yOut01 = some o)
   unfold i_copyFlash_b1 at h
   change Wp _ _ _ (i_copyFlash_H1 xF y1 yOut01) _
   refine Wp.seq ?_
   refine Wp.region ?_
   refine LWp.o 10 (B (decide (y1 < (ln xF.Blocks)))) ?_
   refine LWp.nil ?_
   refine Wp.seq ?_
   refine Wp.c h (fun h => ?_) (fun h => ?_)
   · refine Wp.skip ?_
     refine Wp.seq ?_
     refine Wp.block ?_
     refine Wp.seq ?_
     refine Wp.region ?_
     refine LWp.p h 11 (fun _ => (.one (.ptr (.slot 7) 0 [0] (Int.toNat y1 * 3 + 0)))) ?_ (fun x1 gx1 => st_pure (p_ix (k82 false) (.slot 7) [] 0 gx1))
     intro x1 gx1 h
     refine LWp.o 12 (.agg [.bool x1.Bad, .int .i64 x1.Wear, .sl false 93 2 (encs c93 x1.Leaves)]) ?_ (st_pure (p_le (k82 false) (.slot 7) [0] gx1))
     refine LWp.b [] 5 [.bool false, .int .i64 0, .sl true 93 2 (encs c93 [])] ?_
     refine LWp.sb [] (.box 5) [.bool x1.Bad, .int .i64 x1.Wear, .sl false 93 2 (encs c93 x1.Leaves)] ?_
     refine LWp.nil ?_
     refine Wp.seq ?_
     refine Wp.region ?_
     refine LWp.o 13 (.one (.ptr (.box 5) 1 [] 2)) ?_
     refine LWp.o 14 (.one (.sl false 93 2 (encs c93 x1.Leaves))) ?_
     refine LWp.pm h [] 15 (fun c1 => (.one (.sl true 93 2 (encs c93 c1)))) ?_ (fun c1 gc1 => s_apl k93 (fun _ => rfl) [] [] gc1)
     intro c1 gc1 h
     refine LWp.o 16 (.one (.ptr (.box 5) 1 [] 2)) ?_
     refine LWp.sb [(.slot 15, [.junk])] (.box 5) [.bool x1.Bad, .int .i64 x1.Wear, .sl true 93 2 (encs c93 c1)] ?_
     refine LWp.nil ?_
     refine Wp.region ?_
     refine LWp.o 17 (.one (.ptr (.box 3) 0 [] 0)) ?_
     refine LWp.o 18 (.one (.view (.box 3) 0 [] 0)) ?_
     refine LWp.o 19 (.agg [.bool x1.Bad, .int .i64 x1.Wear, .view (.box 5) 3 [] 2]) ?_
     refine LWp.m false [(.box 5, [.bool x1.Bad, .int .i64 x1.Wear, .junk])] 20 (.one (.sl true 82 3 (encs (c82 true) [(Block.mk x1.Bad x1.Wear c1)]))) ?_
     refine LWp.pm h [(.box 3, [.junk]), (.slot 20, [.sl true 82 3 [.bool ((Block.mk x1.Bad x1.Wear c1).Bad), .int .i64 ((Block.mk x1.Bad x1.Wear c1).Wear), .junk]])] 21 (fun c2 => (.one (.sl true 82 3 (encs (c82 true) c2)))) ?_ (fun c2 gc2 => s_ap1 (k82 true) [(.box 3, [.junk]), (.slot 20, [.sl true 82 3 [.bool ((Block.mk x1.Bad x1.Wear c1).Bad), .int .i64 ((Block.mk x1.Bad x1.Wear c1).Wear), .junk]])] yOut01 [(Block.mk x1.Bad x1.Wear c1)] gc2)
     intro c2 gc2 h
     refine LWp.o 22 (.one (.ptr (.box 3) 0 [] 0)) ?_
     refine LWp.s [(.slot 21, [.junk])] (.box 3) [.sl true 82 3 (encs (c82 true) c2)] ?_
     refine LWp.nil ?_
     refine Wp.region ?_
     refine LWp.o 23 (I (ad y1 1)) ?_
     refine LWp.o 9 (I (ad y1 1)) ?_
     refine LWp.nil ?_
     cases h
     exact ⟨_, rfl, rfl, rfl⟩
   refine Wp.exit ?_
   cases h
   exact ⟨_, rfl, rfl, rfl⟩
 intro v1 h E hE
 refine nt_wp hE ?_
 change Wp _ _ _ (i_copyFlash_H2 v1) _
 refine Wp.seq ?_
 refine Wp.region ?_
 refine LWp.o 24 (.agg [.view (.box 3) 0 [] 0]) ?_
 refine LWp.sb [(.box 3, [.junk])] (.box 2) [.sl true 82 3 (encs (c82 true) v1)] ?_
 refine LWp.nil ?_
 cases h
 exact Wp.ret ⟨.inr rfl, _, _, rfl, rfl⟩
set_option maxRecDepth 100000 in
theorem i_leafOk_t (xX : Leaf) (r : Bool) (h : i_leafOk xX = some r) : Gives Try.prog 73 [.sv (.agg [.int .i64 xX.Is, .str xX.Text])] (B r) (List.replicate 1 .gone) := by
 unfold i_leafOk at h
 refine gives_of Try.func73 rfl ?_
 rw [Try.ntmps73]
 refine Wp.seq ?_
 refine Wp.region ?_
 refine LWp.b [] 1 [.int .i64 xX.Is, .str xX.Text] ?_
 refine LWp.o 2 (B false) ?_
 refine LWp.nil ?_
 refine Wp.seq ?_
 refine Wp.seq ?_
 refine Wp.region ?_
 refine LWp.o 3 (.one (.ptr (.box 1) 1 [] 0)) ?_
 refine LWp.o 4 (I xX.Is) ?_
 refine LWp.nil ?_
 refine Wp.block ?_
 refine Wp.seq ?_
 refine Wp.region ?_
 refine LWp.o 6 (B (xX.Is == 0)) ?_
 refine LWp.o 5 (B (xX.Is == 0)) ?_
 refine LWp.nil ?_
 refine Wp.c h (fun h => ?_) (fun h => ?_)
 · refine Wp.seq ?_
   refine Wp.region ?_
   refine LWp.o 7 (.one (.ptr (.box 1) 1 [] 1)) ?_
   refine LWp.o 8 (Y xX.Text) ?_
   refine LWp.o 9 (B (seq xX.Text (bs []))) ?_
   refine LWp.o 2 (B (seq xX.Text (bs []))) ?_
   refine LWp.nil ?_
   cases h
   exact Wp.ret ⟨.inr rfl, _, _, rfl, rfl⟩
 refine Wp.seq ?_
 refine Wp.region ?_
 refine LWp.o 11 (B (xX.Is == 1)) ?_
 refine LWp.o 10 (B (xX.Is == 1)) ?_
 refine LWp.nil ?_
 refine Wp.c h (fun h => ?_) (fun h => ?_)
 · refine Wp.seq ?_
   refine Wp.region ?_
   refine LWp.o 12 (.one (.ptr (.box 1) 1 [] 1)) ?_
   refine LWp.o 13 (Y xX.Text) ?_
   refine LWp.o 14 (I (sln xX.Text)) ?_
   refine LWp.cl h 15 (fun v1 => (B v1)) rfl (l := [.sv (.one (.int .i64 (sln xX.Text))), .sv (.one (.int .i64 1)), .sv (.one (.int .i64 120))]) rfl (fun v hv => i_in_t (sln xX.Text) 1 120 v hv) (.inl rfl) ?_
   intro v1 gv1 h
   refine LWp.o 2 (B v1) ?_
   refine LWp.nil ?_
   cases h
   exact Wp.ret ⟨.inr rfl, _, _, rfl, rfl⟩
 refine Wp.skip ?_
 refine Wp.seq ?_
 refine Wp.region ?_
 refine LWp.o 16 (.one (.ptr (.box 1) 1 [] 0)) ?_
 refine LWp.o 17 (I xX.Is) ?_
 refine LWp.o 18 (B (xX.Is == 2)) ?_
 refine LWp.o 19 (B (xX.Is == 2)) ?_
 refine LWp.sp h 19 (fun h => ?_) (fun h => ?_)
 · refine LWp.o 20 (.one (.ptr (.box 1) 1 [] 1)) ?_
   refine LWp.o 21 (Y xX.Text) ?_
   refine LWp.o 22 (I (sln xX.Text)) ?_
   refine LWp.o 23 (B (decide ((sln xX.Text) ≤ 120))) ?_
   refine LWp.o 24 (B (decide ((sln xX.Text) ≤ 120))) ?_
   refine LWp.o 2 (B (decide ((sln xX.Text) ≤ 120))) ?_
   refine LWp.nil ?_
   cases h
   exact Wp.ret ⟨.inr rfl, _, _, rfl, rfl⟩
 refine LWp.sh 20 ?_
 refine LWp.sh 21 ?_
 refine LWp.sh 22 ?_
 refine LWp.sh 23 ?_
 refine LWp.o 24 (B false) ?_
 refine LWp.o 2 (B false) ?_
 refine LWp.nil ?_
 cases h
 exact Wp.ret ⟨.inr rfl, _, _, rfl, rfl⟩
def i_FlashOk_H1 (xF : Flash) (z1 : Int) : St := mkSt [(1, (.one (.ptr (.box 1) 0 [] 0))), (8, (.one (.sl false 82 3 (encs (c82 false) xF.Blocks)))), (9, (I (ln xF.Blocks))), (10, (I z1))] [(.box 1, [.sl false 82 3 (encs (c82 false) xF.Blocks)])]
def i_FlashOk_H2 (xF : Flash) : St := mkSt [(1, (.one (.ptr (.box 1) 0 [] 0)))] [(.box 1, [.sl false 82 3 (encs (c82 false) xF.Blocks)])]
def i_FlashOk_H3 (xF : Flash) (y1 : Int) (x1 : Block) (z2 : Bool) : St := mkSt [(1, (.one (.ptr (.box 1) 0 [] 0))), (4, (.one (.ptr (.box 4) 0 [] 0))), (8, (.one (.sl false 82 3 (encs (c82 false) xF.Blocks)))), (9, (I (ln xF.Blocks))), (10, (I y1)), (23, (B z2))] [(.box 1, [.sl false 82 3 (encs (c82 false) xF.Blocks)]), (.box 4, [.bool x1.Bad, .int .i64 x1.Wear, .sl false 93 2 (encs c93 x1.Leaves)])]
def i_FlashOk_H4 (xF : Flash) (y1 : Int) (x1 : Block) (z3 : Int) : St := mkSt [(1, (.one (.ptr (.box 1) 0 [] 0))), (4, (.one (.ptr (.box 4) 0 [] 0))), (8, (.one (.sl false 82 3 (encs (c82 false) xF.Blocks)))), (9, (I (ln xF.Blocks))), (10, (I y1)), (25, (.one (.sl false 93 2 (encs c93 x1.Leaves)))), (26, (I (ln x1.Leaves))), (27, (I z3))] [(.box 1, [.sl false 82 3 (encs (c82 false) xF.Blocks)]), (.box 4, [.bool x1.Bad, .int .i64 x1.Wear, .sl false 93 2 (encs c93 x1.Leaves)])]
def i_FlashOk_H5 (xF : Flash) (y1 : Int) : St := mkSt [(1, (.one (.ptr (.box 1) 0 [] 0))), (8, (.one (.sl false 82 3 (encs (c82 false) xF.Blocks)))), (9, (I (ln xF.Blocks))), (10, (I y1))] [(.box 1, [.sl false 82 3 (encs (c82 false) xF.Blocks)])]
def i_FlashOk_H6 (xF : Flash) (y1 : Int) (x1 : Block) (y2 : Int) (z4 : Bool) : St := mkSt [(1, (.one (.ptr (.box 1) 0 [] 0))), (4, (.one (.ptr (.box 4) 0 [] 0))), (8, (.one (.sl false 82 3 (encs (c82 false) xF.Blocks)))), (9, (I (ln xF.Blocks))), (10, (I y1)), (25, (.one (.sl false 93 2 (encs c93 x1.Leaves)))), (26, (I (ln x1.Leaves))), (27, (I y2)), (53, (B z4))] [(.box 1, [.sl false 82 3 (encs (c82 false) xF.Blocks)]), (.box 4, [.bool x1.Bad, .int .i64 x1.Wear, .sl false 93 2 (encs c93 x1.Leaves)])]
set_option maxRecDepth 100000 in
theorem i_FlashOk_t (xF : Flash) (r : Bool) (h : i_FlashOk xF = some r) : Gives Try.prog 72 [.sv (.agg [.sl false 82 3 (encs (c82 false) xF.Blocks)])] (B r) (List.replicate 1 .gone) := by
 unfold i_FlashOk at h
 refine gives_of Try.func72 rfl ?_
 rw [Try.ntmps72]
 refine Wp.seq ?_
 refine Wp.region ?_
 refine LWp.b [] 1 [.sl false 82 3 (encs (c82 false) xF.Blocks)] ?_
 refine LWp.o 2 (B false) ?_
 refine LWp.nil ?_
 refine Wp.seq ?_
 refine Wp.seq ?_
 refine Wp.region ?_
 refine LWp.o 7 (.one (.ptr (.box 1) 1 [] 0)) ?_
 refine LWp.o 8 (.one (.sl false 82 3 (encs (c82 false) xF.Blocks))) ?_
 refine LWp.o 9 (I (ln xF.Blocks)) ?_ (st_pure (p_ln (k82 false) xF.Blocks))
 refine LWp.o 10 (I 0) ?_
 refine LWp.nil ?_
 refine Wp.l2 h [1, 8, 9, 10] [.box 1] (fun s => (i_FlashOk_H1 xF s)) [1] [.box 1] (fun _ => (i_FlashOk_H2 xF)) ⟨rfl, rfl⟩ ?_ ?_
 · rintro y1 o (h : i_FlashOk_b1 xF y1 = some o) hk1
   unfold i_FlashOk_b1 at h
   change Wp _ _ _ (i_FlashOk_H1 xF y1) _
   refine Wp.seq ?_
   refine Wp.region ?_
   refine LWp.o 11 (B (decide (y1 < (ln xF.Blocks)))) ?_
   refine LWp.nil ?_
   refine Wp.seq ?_
   refine Wp.c h (fun h => ?_) (fun h => ?_)
   · refine Wp.skip ?_
     refine Wp.seq ?_
     refine Wp.block ?_
     refine Wp.seq ?_
     refine Wp.region ?_
     refine LWp.p h 12 (fun _ => (.one (.ptr (.slot 8) 0 [0] (Int.toNat y1 * 3 + 0)))) ?_ (fun x1 gx1 => st_pure (p_ix (k82 false) (.slot 8) [] 0 gx1))
     intro x1 gx1 h
     refine LWp.o 13 (.agg [.bool x1.Bad, .int .i64 x1.Wear, .sl false 93 2 (encs c93 x1.Leaves)]) ?_ (st_pure (p_le (k82 false) (.slot 8) [0] gx1))
     refine LWp.b [] 4 [.bool false, .int .i64 0, .sl true 93 2 (encs c93 [])] ?_
     refine LWp.sb [] (.box 4) [.bool x1.Bad, .int .i64 x1.Wear, .sl false 93 2 (encs c93 x1.Leaves)] ?_
     refine LWp.nil ?_
     refine Wp.seq ?_
     refine Wp.seq ?_
     refine Wp.j1 h [1, 4, 8, 9, 10, 23] [.box 1, .box 4] (fun a => (i_FlashOk_H3 xF y1 x1 a)) ?_ ?_
     · intro a h
       refine Wp.region ?_
       refine LWp.o 14 (.one (.ptr (.box 4) 1 [] 2)) ?_
       refine LWp.o 15 (.one (.sl false 93 2 (encs c93 x1.Leaves))) ?_
       refine LWp.o 16 (I (ln x1.Leaves)) ?_ (st_pure (p_ln k93 x1.Leaves))
       refine LWp.o 17 (B ((ln x1.Leaves) != 4)) ?_
       refine LWp.o 18 (B ((ln x1.Leaves) != 4)) ?_
       refine LWp.sp h 18 (fun h => ?_) (fun h => ?_)
       · refine LWp.sh 19 ?_
         refine LWp.sh 20 ?_
         refine LWp.sh 21 ?_
         refine LWp.sh 22 ?_
         refine LWp.o 23 (B true) ?_
         refine LWp.nil ?_
         cases h
         exact ⟨_, rfl, rfl, rfl⟩
       refine LWp.o 19 (.one (.ptr (.box 4) 1 [] 1)) ?_
       refine LWp.o 20 (I x1.Wear) ?_
       refine LWp.cl h 21 (fun v1 => (B v1)) rfl (l := [.sv (.one (.int .i64 x1.Wear)), .sv (.one (.int .i64 0)), .sv (.one (.int .i64 1000000000))]) rfl (fun v hv => i_in_t x1.Wear 0 1000000000 v hv) (.inl rfl) ?_
       intro v1 gv1 h
       refine LWp.o 22 (B (!v1)) ?_
       refine LWp.o 23 (B (!v1)) ?_
       refine LWp.nil ?_
       cases h
       exact ⟨_, rfl, rfl, rfl⟩
     intro j1 h E hE
     refine nt_wp hE ?_
     change Wp _ _ _ (i_FlashOk_H3 xF y1 x1 j1) _
     refine Wp.c h (fun h => ?_) (fun h => ?_)
     · refine Wp.seq ?_
       refine Wp.region ?_
       refine LWp.o 2 (B false) ?_
       refine LWp.nil ?_
       cases h
       replace h : some _ = some _ := hk1 _ rfl
       cases h
       exact Wp.ret ⟨.inr rfl, _, _, rfl, rfl⟩
     refine Wp.skip ?_
     refine Wp.seq ?_
     refine Wp.region ?_
     refine LWp.o 24 (.one (.ptr (.box 4) 0 [] 2)) ?_
     refine LWp.o 25 (.one (.sl false 93 2 (encs c93 x1.Leaves))) ?_
     refine LWp.o 26 (I (ln x1.Leaves)) ?_ (st_pure (p_ln k93 x1.Leaves))
     refine LWp.o 27 (I 0) ?_
     refine LWp.nil ?_
     refine Wp.l2 h [1, 4, 8, 9, 10, 25, 26, 27] [.box 1, .box 4] (fun s => (i_FlashOk_H4 xF y1 x1 s)) [1, 8, 9, 10] [.box 1] (fun _ => (i_FlashOk_H5 xF y1)) ⟨rfl, rfl⟩ ?_ ?_
     · rintro y2 o (h : i_FlashOk_b2 x1 y2 = some o) hk2
       unfold i_FlashOk_b2 at h
       change Wp _ _ _ (i_FlashOk_H4 xF y1 x1 y2) _
       refine Wp.seq ?_
       refine Wp.region ?_
       refine LWp.o 28 (B (decide (y2 < (ln x1.Leaves)))) ?_
       refine LWp.nil ?_
       refine Wp.seq ?_
       refine Wp.c h (fun h => ?_) (fun h => ?_)
       · refine Wp.skip ?_
         refine Wp.seq ?_
         refine Wp.block ?_
         refine Wp.seq ?_
         refine Wp.region ?_
         refine LWp.o 29 (I y2) ?_
         refine LWp.p h 30 (fun _ => (.one (.ptr (.slot 25) 0 [0] (Int.toNat y2 * 2 + 0)))) ?_ (fun x2 gx2 => st_pure (p_ix k93 (.slot 25) [] 0 gx2))
         intro x2 gx2 h
         refine LWp.o 31 (.agg [.int .i64 x2.Is, .str x2.Text]) ?_ (st_pure (p_le k93 (.slot 25) [0] gx2))
         refine LWp.b [] 6 [.int .i64 0, .str (bs [])] ?_
         refine LWp.o 5 (I y2) ?_
         refine LWp.s [] (.box 6) [.int .i64 x2.Is, .str x2.Text] ?_
         refine LWp.nil ?_
         refine Wp.seq ?_
         refine Wp.j1 h [1, 4, 8, 9, 10, 25, 26, 27, 53] [.box 1, .box 4] (fun a => (i_FlashOk_H6 xF y1 x1 y2 a)) ?_ ?_
         · intro a h
           refine Wp.region ?_
           refine LWp.o 32 (.agg [.int .i64 x2.Is, .str x2.Text]) ?_
           refine LWp.cl h 33 (fun v2 => (B v2)) rfl (l := [.sv (.agg [.int .i64 x2.Is, .str x2.Text])]) rfl (fun v hv => i_leafOk_t x2 v hv) (.inl rfl) ?_
           intro v2 gv2 h
           refine LWp.o 34 (B (!v2)) ?_
           refine LWp.o 35 (B (!v2)) ?_
           refine LWp.sp h 35 (fun h => ?_) (fun h => ?_)
           · refine LWp.sh 36 ?_
             refine LWp.sh 37 ?_
             refine LWp.sh 38 ?_
             refine LWp.sh 39 ?_
             refine LWp.sh 40 ?_
             refine LWp.sh 41 ?_
             refine LWp.sh 42 ?_
             refine LWp.sh 43 ?_
             refine LWp.sh 44 ?_
             refine LWp.sh 45 ?_
             refine LWp.sh 46 ?_
             refine LWp.sh 47 ?_
             refine LWp.sh 48 ?_
             refine LWp.sh 49 ?_
             refine LWp.sh 50 ?_
             refine LWp.sh 51 ?_
             refine LWp.sh 52 ?_
             refine LWp.o 53 (B true) ?_
             refine LWp.nil ?_
             cases h
             exact ⟨_, rfl, rfl, rfl⟩
           refine LWp.o 36 (I y2) ?_
           refine LWp.o 37 (B (decide (y2 > 0))) ?_
           refine LWp.o 38 (B (decide (y2 > 0))) ?_
           refine LWp.sp h 38 (fun h => ?_) (fun h => ?_)
           · refine LWp.o 39 (.one (.ptr (.box 4) 0 [] 2)) ?_
             refine LWp.o 40 (.one (.sl false 93 2 (encs c93 x1.Leaves))) ?_
             refine LWp.o 41 (I y2) ?_
             refine LWp.o 42 (I (sb y2 1)) ?_
             refine LWp.p h 43 (fun _ => (.one (.ptr (.slot 40) 1 [0] (Int.toNat (sb y2 1) * 2 + 0)))) ?_ (fun x3 gx3 => st_pure (p_ix k93 (.slot 40) [] 0 gx3))
             intro x3 gx3 h
             refine LWp.o 44 (.one (.ptr (.slot 40) 1 [0] (Int.toNat (sb y2 1) * 2 + 0))) ?_ (st_pure (p_fa k93 (.slot 40) [0] 0 gx3))
             refine LWp.o 45 (I x3.Is) ?_ (st_pure (p_lc k93 (.slot 40) [0] 0 (.int .i64 x3.Is) gx3))
             refine LWp.o 46 (B (x3.Is == 0)) ?_
             refine LWp.o 47 (B (x3.Is == 0)) ?_
             refine LWp.o 48 (B (x3.Is == 0)) ?_
             refine LWp.sp h 48 (fun h => ?_) (fun h => ?_)
             · refine LWp.o 49 (.one (.ptr (.box 6) 1 [] 0)) ?_
               refine LWp.o 50 (I x2.Is) ?_
               refine LWp.o 51 (B (x2.Is != 0)) ?_
               refine LWp.o 52 (B (x2.Is != 0)) ?_
               refine LWp.o 53 (B (x2.Is != 0)) ?_
               refine LWp.nil ?_
               cases h
               exact ⟨_, rfl, rfl, rfl⟩
             refine LWp.sh 49 ?_
             refine LWp.sh 50 ?_
             refine LWp.sh 51 ?_
             refine LWp.o 52 (B false) ?_
             refine LWp.o 53 (B false) ?_
             refine LWp.nil ?_
             cases h
             exact ⟨_, rfl, rfl, rfl⟩
           refine LWp.sh 39 ?_
           refine LWp.sh 40 ?_
           refine LWp.sh 41 ?_
           refine LWp.sh 42 ?_
           refine LWp.sh 43 ?_
           refine LWp.sh 44 ?_
           refine LWp.sh 45 ?_
           refine LWp.sh 46 ?_
           refine LWp.o 47 (B false) ?_
           refine LWp.o 48 (B false) ?_
           refine LWp.sh 49 ?_
           refine LWp.sh 50 ?_
           refine LWp.sh 51 ?_
           refine LWp.o 52 (B false) ?_
           refine LWp.o 53 (B false) ?_
           refine LWp.nil ?_
           cases h
           exact ⟨_, rfl, rfl, rfl⟩
         intro j2 h E hE
         refine nt_wp hE ?_
         change Wp _ _ _ (i_FlashOk_H6 xF y1 x1 y2 j2) _
         refine Wp.c h (fun h => ?_) (fun h => ?_)
         · refine Wp.seq ?_
           refine Wp.region ?_
           refine LWp.o 2 (B false) ?_
           refine LWp.nil ?_
           cases h
           replace h : some _ = some _ := hk2 _ rfl
           cases h
           replace h : some _ = some _ := hk1 _ rfl
           cases h
           exact Wp.ret ⟨.inr rfl, _, _, rfl, rfl⟩
         refine Wp.skip ?_
         refine Wp.region ?_
         refine LWp.o 54 (I (ad y2 1)) ?_
         refine LWp.o 27 (I (ad y2 1)) ?_
         refine LWp.nil ?_
         cases h
         exact ⟨_, rfl, rfl, rfl⟩
       refine Wp.exit ?_
       cases h
       exact ⟨_, rfl, rfl, rfl⟩
     intro v3 h E hE
     refine nt_wp hE ?_
     change Wp _ _ _ (i_FlashOk_H5 xF y1) _
     refine Wp.region ?_
     refine LWp.o 55 (I (ad y1 1)) ?_
     refine LWp.o 10 (I (ad y1 1)) ?_
     refine LWp.nil ?_
     cases h
     exact ⟨_, rfl, rfl, rfl⟩
   refine Wp.exit ?_
   cases h
   exact ⟨_, rfl, rfl, rfl⟩
 intro v4 h E hE
 refine nt_wp hE ?_
 change Wp _ _ _ (i_FlashOk_H2 xF) _
 refine Wp.seq ?_
 refine Wp.region ?_
 refine LWp.o 56 (.one (.ptr (.box 1) 0 [] 0)) ?_
 refine LWp.o 57 (.one (.sl false 82 3 (encs (c82 false) xF.Blocks))) ?_
 refine LWp.o 58 (I (ln xF.Blocks)) ?_ (st_pure (p_ln (k82 false) xF.Blocks))
 refine LWp.cl h 59 (fun v5 => (B v5)) rfl (l := [.sv (.one (.int .i64 (ln xF.Blocks))), .sv (.one (.int .i64 3)), .sv (.one (.int .i64 10))]) rfl (fun v hv => i_in_t (ln xF.Blocks) 3 10 v hv) (.inl rfl) ?_
 intro v5 gv5 h
 refine LWp.o 2 (B v5) ?_
 refine LWp.nil ?_
 cases h
 exact Wp.ret ⟨.inr rfl, _, _, rfl, rfl⟩
set_option maxRecDepth 100000 in
theorem i_usable_t (xF : Flash) (xB : Int) (r : Bool) (h : i_usable xF xB = some r) : Gives Try.prog 68 [.sv (.agg [.sl false 82 3 (encs (c82 false) xF.Blocks)]), .sv (I xB)] (B r) (List.replicate 2 .gone) := by
 unfold i_usable at h
 refine gives_of Try.func68 rfl ?_
 rw [Try.ntmps68]
 refine Wp.seq ?_
 refine Wp.region ?_
 refine LWp.b [] 2 [.sl false 82 3 (encs (c82 false) xF.Blocks)] ?_
 refine LWp.o 4 (B false) ?_
 refine LWp.nil ?_
 refine Wp.seq ?_
 refine Wp.region ?_
 refine LWp.o 5 (.agg [.sl false 82 3 (encs (c82 false) xF.Blocks)]) ?_
 refine LWp.cl h 6 (fun v1 => (B v1)) rfl (l := [.sv (.agg [.sl false 82 3 (encs (c82 false) xF.Blocks)])]) rfl (fun v hv => i_FlashOk_t xF v hv) (.inl rfl) ?_
 intro v1 gv1 h
 refine LWp.o 7 (B v1) ?_
 refine LWp.sp h 7 (fun h => ?_) (fun h => ?_)
 · refine LWp.o 8 (I xB) ?_
   refine LWp.o 9 (.one (.ptr (.box 2) 1 [] 0)) ?_
   refine LWp.o 10 (.one (.sl false 82 3 (encs (c82 false) xF.Blocks))) ?_
   refine LWp.o 11 (I (ln xF.Blocks)) ?_ (st_pure (p_ln (k82 false) xF.Blocks))
   refine LWp.o 12 (I (sb (ln xF.Blocks) 1)) ?_
   refine LWp.cl h 13 (fun v2 => (B v2)) rfl (l := [.sv (.one (.int .i64 xB)), .sv (.one (.int .i64 0)), .sv (.one (.int .i64 (sb (ln xF.Blocks) 1)))]) rfl (fun v hv => i_in_t xB 0 (sb (ln xF.Blocks) 1) v hv) (.inl rfl) ?_
   intro v2 gv2 h
   refine LWp.o 14 (B v2) ?_
   refine LWp.o 15 (B v2) ?_
   refine LWp.sp h 15 (fun h => ?_) (fun h => ?_)
   · refine LWp.o 16 (.one (.ptr (.box 2) 1 [] 0)) ?_
     refine LWp.o 17 (.one (.sl false 82 3 (encs (c82 false) xF.Blocks))) ?_
     refine LWp.o 18 (I xB) ?_
     refine LWp.p h 19 (fun _ => (.one (.ptr (.slot 17) 1 [0] (Int.toNat xB * 3 + 0)))) ?_ (fun x1 gx1 => st_pure (p_ix (k82 false) (.slot 17) [] 0 gx1))
     intro x1 gx1 h
     refine LWp.o 20 (.one (.ptr (.slot 17) 1 [0] (Int.toNat xB * 3 + 0))) ?_ (st_pure (p_fa (k82 false) (.slot 17) [0] 0 gx1))
     refine LWp.o 21 (B x1.Bad) ?_ (st_pure (p_lc (k82 false) (.slot 17) [0] 0 (.bool x1.Bad) gx1))
     refine LWp.o 22 (B (!x1.Bad)) ?_
     refine LWp.o 23 (B (!x1.Bad)) ?_
     refine LWp.o 4 (B (!x1.Bad)) ?_
     refine LWp.nil ?_
     cases h
     exact Wp.ret ⟨.inr rfl, _, _, rfl, rfl⟩
   refine LWp.sh 16 ?_
   refine LWp.sh 17 ?_
   refine LWp.sh 18 ?_
   refine LWp.sh 19 ?_
   refine LWp.sh 20 ?_
   refine LWp.sh 21 ?_
   refine LWp.sh 22 ?_
   refine LWp.o 23 (B false) ?_
   refine LWp.o 4 (B false) ?_
   refine LWp.nil ?_
   cases h
   exact Wp.ret ⟨.inr rfl, _, _, rfl, rfl⟩
 refine LWp.sh 8 ?_
 refine LWp.sh 9 ?_
 refine LWp.sh 10 ?_
 refine LWp.sh 11 ?_
 refine LWp.sh 12 ?_
 refine LWp.sh 13 ?_
 refine LWp.o 14 (B false) ?_
 refine LWp.o 15 (B false) ?_
 refine LWp.sh 16 ?_
 refine LWp.sh 17 ?_
 refine LWp.sh 18 ?_
 refine LWp.sh 19 ?_
 refine LWp.sh 20 ?_
 refine LWp.sh 21 ?_
 refine LWp.sh 22 ?_
 refine LWp.o 23 (B false) ?_
 refine LWp.o 4 (B false) ?_
 refine LWp.nil ?_
 cases h
 exact Wp.ret ⟨.inr rfl, _, _, rfl, rfl⟩
def i_NextBlank_H1 (xB : Block) (z1 : Int) : St := mkSt [(6, (.one (.sl false 93 2 (encs c93 xB.Leaves)))), (7, (I (ln xB.Leaves))), (8, (I z1))] []
def i_NextBlank_H2  : St := mkSt [] []
set_option maxRecDepth 100000 in
theorem i_NextBlank_t (xB : Block) (r : Int) (h : i_NextBlank xB = some r) : Gives Try.prog 69 [.sv (.agg [.bool xB.Bad, .int .i64 xB.Wear, .sl false 93 2 (encs c93 xB.Leaves)])] (I r) (List.replicate 1 .gone) := by
 unfold i_NextBlank at h
 refine gives_of Try.func69 rfl ?_
 rw [Try.ntmps69]
 refine Wp.seq ?_
 refine Wp.region ?_
 refine LWp.b [] 1 [.bool xB.Bad, .int .i64 xB.Wear, .sl false 93 2 (encs c93 xB.Leaves)] ?_
 refine LWp.o 2 (I 0) ?_
 refine LWp.nil ?_
 refine Wp.seq ?_
 refine Wp.seq ?_
 refine Wp.region ?_
 refine LWp.o 5 (.one (.ptr (.box 1) 1 [] 2)) ?_
 refine LWp.o 6 (.one (.sl false 93 2 (encs c93 xB.Leaves))) ?_
 refine LWp.o 7 (I (ln xB.Leaves)) ?_ (st_pure (p_ln k93 xB.Leaves))
 refine LWp.o 8 (I 0) ?_
 refine LWp.nil ?_
 refine Wp.l2 h [6, 7, 8] [] (fun s => (i_NextBlank_H1 xB s)) [] [] (fun _ => i_NextBlank_H2) ⟨rfl, rfl⟩ ?_ ?_
 · rintro y1 o (h : i_NextBlank_b1 xB y1 = some o) hk1
   unfold i_NextBlank_b1 at h
   change Wp _ _ _ (i_NextBlank_H1 xB y1) _
   refine Wp.seq ?_
   refine Wp.region ?_
   refine LWp.o 9 (B (decide (y1 < (ln xB.Leaves)))) ?_
   refine LWp.nil ?_
   refine Wp.seq ?_
   refine Wp.c h (fun h => ?_) (fun h => ?_)
   · refine Wp.skip ?_
     refine Wp.seq ?_
     refine Wp.block ?_
     refine Wp.seq ?_
     refine Wp.region ?_
     refine LWp.o 10 (I y1) ?_
     refine LWp.p h 11 (fun _ => (.one (.ptr (.slot 6) 0 [0] (Int.toNat y1 * 2 + 0)))) ?_ (fun x1 gx1 => st_pure (p_ix k93 (.slot 6) [] 0 gx1))
     intro x1 gx1 h
     refine LWp.o 12 (.agg [.int .i64 x1.Is, .str x1.Text]) ?_ (st_pure (p_le k93 (.slot 6) [0] gx1))
     refine LWp.b [] 4 [.int .i64 0, .str (bs [])] ?_
     refine LWp.o 3 (I y1) ?_
     refine LWp.s [] (.box 4) [.int .i64 x1.Is, .str x1.Text] ?_
     refine LWp.nil ?_
     refine Wp.seq ?_
     refine Wp.region ?_
     refine LWp.o 13 (.one (.ptr (.box 4) 1 [] 0)) ?_
     refine LWp.o 14 (I x1.Is) ?_
     refine LWp.o 15 (B (x1.Is == 0)) ?_
     refine LWp.nil ?_
     refine Wp.c h (fun h => ?_) (fun h => ?_)
     · refine Wp.seq ?_
       refine Wp.region ?_
       refine LWp.o 16 (I y1) ?_
       refine LWp.o 2 (I y1) ?_
       refine LWp.nil ?_
       cases h
       replace h : some _ = some _ := hk1 _ rfl
       cases h
       exact Wp.ret ⟨.inr rfl, _, _, rfl, rfl⟩
     refine Wp.skip ?_
     refine Wp.region ?_
     refine LWp.o 17 (I (ad y1 1)) ?_
     refine LWp.o 8 (I (ad y1 1)) ?_
     refine LWp.nil ?_
     cases h
     exact ⟨_, rfl, rfl, rfl⟩
   refine Wp.exit ?_
   cases h
   exact ⟨_, rfl, rfl, rfl⟩
 intro v1 h E hE
 refine nt_wp hE ?_
 change Wp _ _ _ i_NextBlank_H2 _
 refine Wp.seq ?_
 refine Wp.region ?_
 refine LWp.o 2 (I 4) ?_
 refine LWp.nil ?_
 cases h
 exact Wp.ret ⟨.inr rfl, _, _, rfl, rfl⟩
def i_Program_H1 (xB : Int) (xLeaf : Int) (xText : ByteArray) (v1 : Flash) (z1 : Bool) : St := mkSt [(1, (I xB)), (2, (I xLeaf)), (3, (Y xText)), (8, (.one (.ptr (.box 8) 0 [] 0))), (10, (.one (.ptr (.box 10) 0 [] 0))), (37, (B z1))] [(.box 8, [.sl true 82 3 (encs (c82 true) [])]), (.box 10, [.sl true 82 3 (encs (c82 true) v1.Blocks)])]
set_option maxRecDepth 100000 in
theorem i_Program_t (xF : Flash) (xB : Int) (xLeaf : Int) (xText : ByteArray) (r : Flash × Bool) (h : i_Program xF xB xLeaf xText = some r) : Gives Try.prog 64 [.sv (.agg [.sl false 82 3 (encs (c82 false) xF.Blocks)]), .sv (I xB), .sv (I xLeaf), .sv (Y xText)] (.tup [(.agg [.sl true 82 3 (encs (c82 true) r.1.Blocks)]), (B r.2)]) (List.replicate 4 .gone) := by
 unfold i_Program at h
 refine gives_of Try.func64 rfl ?_
 rw [Try.ntmps64]
 refine Wp.seq ?_
 refine Wp.region ?_
 refine LWp.b [] 4 [.sl false 82 3 (encs (c82 false) xF.Blocks)] ?_
 refine LWp.b [] 8 [.sl true 82 3 (encs (c82 true) [])] ?_
 refine LWp.o 9 (B false) ?_
 refine LWp.nil ?_
 refine Wp.seq ?_
 refine Wp.region ?_
 refine LWp.o 11 (.agg [.sl false 82 3 (encs (c82 false) xF.Blocks)]) ?_
 refine LWp.cl h 12 (fun v1 => (.agg [.sl true 82 3 (encs (c82 true) v1.Blocks)])) rfl (l := [.sv (.agg [.sl false 82 3 (encs (c82 false) xF.Blocks)])]) rfl (fun v hv => i_copyFlash_t xF v hv) (.inl rfl) ?_
 intro v1 gv1 h
 refine LWp.b [] 10 [.sl true 82 3 (encs (c82 true) [])] ?_
 refine LWp.sb [(.slot 12, [.junk])] (.box 10) [.sl true 82 3 (encs (c82 true) v1.Blocks)] ?_
 refine LWp.nil ?_
 refine Wp.seq ?_
 refine Wp.seq ?_
 refine Wp.j1 h [1, 2, 3, 8, 10, 37] [.box 8, .box 10] (fun a => (i_Program_H1 xB xLeaf xText v1 a)) ?_ ?_
 · intro a h
   refine Wp.region ?_
   refine LWp.o 13 (.agg [.sl false 82 3 (encs (c82 false) xF.Blocks)]) ?_
   refine LWp.o 14 (I xB) ?_
   refine LWp.cl h 15 (fun v2 => (B v2)) rfl (l := [.sv (.agg [.sl false 82 3 (encs (c82 false) xF.Blocks)]), .sv (.one (.int .i64 xB))]) rfl (fun v hv => i_usable_t xF xB v hv) (.inl rfl) ?_
   intro v2 gv2 h
   refine LWp.o 16 (B (!v2)) ?_
   refine LWp.o 17 (B (!v2)) ?_
   refine LWp.sp h 17 (fun h => ?_) (fun h => ?_)
   · refine LWp.sh 18 ?_
     refine LWp.sh 19 ?_
     refine LWp.sh 20 ?_
     refine LWp.o 21 (B true) ?_
     refine LWp.o 22 (B true) ?_
     refine LWp.sh 23 ?_
     refine LWp.sh 24 ?_
     refine LWp.sh 25 ?_
     refine LWp.sh 26 ?_
     refine LWp.sh 27 ?_
     refine LWp.sh 28 ?_
     refine LWp.sh 29 ?_
     refine LWp.sh 30 ?_
     refine LWp.o 31 (B true) ?_
     refine LWp.o 32 (B true) ?_
     refine LWp.sh 33 ?_
     refine LWp.sh 34 ?_
     refine LWp.sh 35 ?_
     refine LWp.sh 36 ?_
     refine LWp.o 37 (B true) ?_
     refine LWp.nil ?_
     cases h
     exact ⟨_, rfl, rfl, rfl⟩
   refine LWp.o 18 (I xLeaf) ?_
   refine LWp.cl h 19 (fun v3 => (B v3)) rfl (l := [.sv (.one (.int .i64 xLeaf)), .sv (.one (.int .i64 0)), .sv (.one (.int .i64 3))]) rfl (fun v hv => i_in_t xLeaf 0 3 v hv) (.inl rfl) ?_
   intro v3 gv3 h
   refine LWp.o 20 (B (!v3)) ?_
   refine LWp.o 21 (B (!v3)) ?_
   refine LWp.o 22 (B (!v3)) ?_
   refine LWp.sp h 22 (fun h => ?_) (fun h => ?_)
   · refine LWp.sh 23 ?_
     refine LWp.sh 24 ?_
     refine LWp.sh 25 ?_
     refine LWp.sh 26 ?_
     refine LWp.sh 27 ?_
     refine LWp.sh 28 ?_
     refine LWp.sh 29 ?_
     refine LWp.sh 30 ?_
     refine LWp.o 31 (B true) ?_
     refine LWp.o 32 (B true) ?_
     refine LWp.sh 33 ?_
     refine LWp.sh 34 ?_
     refine LWp.sh 35 ?_
     refine LWp.sh 36 ?_
     refine LWp.o 37 (B true) ?_
     refine LWp.nil ?_
     cases h
     exact ⟨_, rfl, rfl, rfl⟩
   refine LWp.o 23 (I xLeaf) ?_
   refine LWp.o 24 (.one (.ptr (.box 4) 1 [] 0)) ?_
   refine LWp.o 25 (.one (.sl false 82 3 (encs (c82 false) xF.Blocks))) ?_
   refine LWp.o 26 (I xB) ?_
   refine LWp.p h 27 (fun _ => (.one (.ptr (.slot 25) 1 [0] (Int.toNat xB * 3 + 0)))) ?_ (fun x1 gx1 => st_pure (p_ix (k82 false) (.slot 25) [] 0 gx1))
   intro x1 gx1 h
   refine LWp.o 28 (.agg [.bool x1.Bad, .int .i64 x1.Wear, .sl false 93 2 (encs c93 x1.Leaves)]) ?_ (st_pure (p_le (k82 false) (.slot 25) [0] gx1))
   refine LWp.cl h 29 (fun v4 => (I v4)) rfl (l := [.sv (.agg [.bool x1.Bad, .int .i64 x1.Wear, .sl false 93 2 (encs c93 x1.Leaves)])]) rfl (fun v hv => i_NextBlank_t x1 v hv) (.inl rfl) ?_
   intro v4 gv4 h
   refine LWp.o 30 (B (xLeaf != v4)) ?_
   refine LWp.o 31 (B (xLeaf != v4)) ?_
   refine LWp.o 32 (B (xLeaf != v4)) ?_
   refine LWp.sp h 32 (fun h => ?_) (fun h => ?_)
   · refine LWp.sh 33 ?_
     refine LWp.sh 34 ?_
     refine LWp.sh 35 ?_
     refine LWp.sh 36 ?_
     refine LWp.o 37 (B true) ?_
     refine LWp.nil ?_
     cases h
     exact ⟨_, rfl, rfl, rfl⟩
   refine LWp.o 33 (Y xText) ?_
   refine LWp.o 34 (I (sln xText)) ?_
   refine LWp.cl h 35 (fun v5 => (B v5)) rfl (l := [.sv (.one (.int .i64 (sln xText))), .sv (.one (.int .i64 1)), .sv (.one (.int .i64 120))]) rfl (fun v hv => i_in_t (sln xText) 1 120 v hv) (.inl rfl) ?_
   intro v5 gv5 h
   refine LWp.o 36 (B (!v5)) ?_
   refine LWp.o 37 (B (!v5)) ?_
   refine LWp.nil ?_
   cases h
   exact ⟨_, rfl, rfl, rfl⟩
 intro j1 h E hE
 refine nt_wp hE ?_
 change Wp _ _ _ (i_Program_H1 xB xLeaf xText v1 j1) _
 refine Wp.c h (fun h => ?_) (fun h => ?_)
 · refine Wp.seq ?_
   refine Wp.region ?_
   refine LWp.o 38 (.agg [.view (.box 10) 0 [] 0]) ?_
   refine LWp.sb [(.box 10, [.junk])] (.box 8) [.sl true 82 3 (encs (c82 true) v1.Blocks)] ?_
   refine LWp.o 9 (B false) ?_
   refine LWp.nil ?_
   cases h
   exact Wp.ret ⟨.inr rfl, _, _, rfl, rfl⟩
 refine Wp.skip ?_
 refine Wp.seq ?_
 refine Wp.region ?_
 refine LWp.o 39 (.one (.ptr (.box 10) 0 [] 0)) ?_
 refine LWp.o 40 (.one (.view (.box 10) 0 [] 0)) ?_
 refine LWp.o 41 (I xB) ?_
 refine LWp.p h 42 (fun _ => (.one (.ptr (.box 10) 0 [0] (Int.toNat xB * 3 + 0)))) ?_ (fun x2 gx2 => st_pure (p_ix (k82 true) (.box 10) [] 0 gx2))
 intro x2 gx2 h
 refine LWp.o 43 (.one (.ptr (.box 10) 0 [0] (Int.toNat xB * 3 + 2))) ?_ (st_pure (p_fa (k82 true) (.box 10) [0] 0 gx2))
 refine LWp.o 44 (.one (.view (.box 10) 0 [0] (Int.toNat xB * 3 + 2))) ?_ (st_pure (p_lc (k82 true) (.box 10) [0] 2 (.sl true 93 2 (encs c93 x2.Leaves)) gx2))
 refine LWp.o 45 (I xLeaf) ?_
 refine LWp.o 46 (Y xText) ?_
 refine LWp.o 47 (.agg [.int .i64 1, .str xText]) ?_
 refine LWp.p h 48 (fun _ => (.one (.ptr (.box 10) 0 [0, (Int.toNat xB * 3 + 2)] (Int.toNat xLeaf * 2 + 0)))) ?_ (fun x3 gx3 => st_pure (p_ix k93 (.box 10) [0] (Int.toNat xB * 3 + 2) gx3 (hp := gi_cellb (k82 true) gx2)))
 intro x3 gx3 h
 refine LWp.sb [] (.box 10) [.sl true 82 3 (encs (c82 true) (si v1.Blocks xB (Block.mk x2.Bad x2.Wear (si x2.Leaves xLeaf (Leaf.mk 1 xText)))))] ?_ (s_st [] (q := [0, (Int.toNat xB * 3 + 2)]) (cs := [.sl true 82 3 (encs (c82 true) v1.Blocks)]) (xs := [.int .i64 1, .str xText]) (At.el (k82 true) (k := 2) (z := (Block.mk x2.Bad x2.Wear (si x2.Leaves xLeaf (Leaf.mk 1 xText)))) gx2 (At.one (setRow_gi k93 (k := 0) (z := (Leaf.mk 1 xText)) gx3 rfl rfl))) (fit_gi k93 (k := 0) gx3 rfl))
 refine LWp.nil ?_
 refine Wp.seq ?_
 refine Wp.region ?_
 refine LWp.o 49 (.agg [.view (.box 10) 1 [] 0]) ?_
 refine LWp.sb [(.box 10, [.junk])] (.box 8) [.sl true 82 3 (encs (c82 true) (si v1.Blocks xB (Block.mk x2.Bad x2.Wear (si x2.Leaves xLeaf (Leaf.mk 1 xText)))))] ?_
 refine LWp.o 9 (B true) ?_
 refine LWp.nil ?_
 cases h
 exact Wp.ret ⟨.inr rfl, _, _, rfl, rfl⟩
def i_Wipe_H1 (xB : Int) (v1 : Flash) (z1 : Bool) : St := mkSt [(1, (I xB)), (4, (.one (.ptr (.box 4) 0 [] 0))), (6, (.one (.ptr (.box 6) 0 [] 0))), (21, (B z1))] [(.box 4, [.sl true 82 3 (encs (c82 true) [])]), (.box 6, [.sl true 82 3 (encs (c82 true) v1.Blocks)])]
set_option maxRecDepth 100000 in
theorem i_Wipe_t (xF : Flash) (xB : Int) (r : Flash × Bool) (h : i_Wipe xF xB = some r) : Gives Try.prog 65 [.sv (.agg [.sl false 82 3 (encs (c82 false) xF.Blocks)]), .sv (I xB)] (.tup [(.agg [.sl true 82 3 (encs (c82 true) r.1.Blocks)]), (B r.2)]) (List.replicate 2 .gone) := by
 unfold i_Wipe at h
 refine gives_of Try.func65 rfl ?_
 rw [Try.ntmps65]
 refine Wp.seq ?_
 refine Wp.region ?_
 refine LWp.b [] 2 [.sl false 82 3 (encs (c82 false) xF.Blocks)] ?_
 refine LWp.b [] 4 [.sl true 82 3 (encs (c82 true) [])] ?_
 refine LWp.o 5 (B false) ?_
 refine LWp.nil ?_
 refine Wp.seq ?_
 refine Wp.region ?_
 refine LWp.o 7 (.agg [.sl false 82 3 (encs (c82 false) xF.Blocks)]) ?_
 refine LWp.cl h 8 (fun v1 => (.agg [.sl true 82 3 (encs (c82 true) v1.Blocks)])) rfl (l := [.sv (.agg [.sl false 82 3 (encs (c82 false) xF.Blocks)])]) rfl (fun v hv => i_copyFlash_t xF v hv) (.inl rfl) ?_
 intro v1 gv1 h
 refine LWp.b [] 6 [.sl true 82 3 (encs (c82 true) [])] ?_
 refine LWp.sb [(.slot 8, [.junk])] (.box 6) [.sl true 82 3 (encs (c82 true) v1.Blocks)] ?_
 refine LWp.nil ?_
 refine Wp.seq ?_
 refine Wp.seq ?_
 refine Wp.j1 h [1, 4, 6, 21] [.box 4, .box 6] (fun a => (i_Wipe_H1 xB v1 a)) ?_ ?_
 · intro a h
   refine Wp.region ?_
   refine LWp.o 9 (.agg [.sl false 82 3 (encs (c82 false) xF.Blocks)]) ?_
   refine LWp.o 10 (I xB) ?_
   refine LWp.cl h 11 (fun v2 => (B v2)) rfl (l := [.sv (.agg [.sl false 82 3 (encs (c82 false) xF.Blocks)]), .sv (.one (.int .i64 xB))]) rfl (fun v hv => i_usable_t xF xB v hv) (.inl rfl) ?_
   intro v2 gv2 h
   refine LWp.o 12 (B (!v2)) ?_
   refine LWp.o 13 (B (!v2)) ?_
   refine LWp.sp h 13 (fun h => ?_) (fun h => ?_)
   · refine LWp.sh 14 ?_
     refine LWp.sh 15 ?_
     refine LWp.sh 16 ?_
     refine LWp.sh 17 ?_
     refine LWp.sh 18 ?_
     refine LWp.sh 19 ?_
     refine LWp.sh 20 ?_
     refine LWp.o 21 (B true) ?_
     refine LWp.nil ?_
     cases h
     exact ⟨_, rfl, rfl, rfl⟩
   refine LWp.o 14 (.one (.ptr (.box 2) 1 [] 0)) ?_
   refine LWp.o 15 (.one (.sl false 82 3 (encs (c82 false) xF.Blocks))) ?_
   refine LWp.o 16 (I xB) ?_
   refine LWp.p h 17 (fun _ => (.one (.ptr (.slot 15) 1 [0] (Int.toNat xB * 3 + 0)))) ?_ (fun x1 gx1 => st_pure (p_ix (k82 false) (.slot 15) [] 0 gx1))
   intro x1 gx1 h
   refine LWp.o 18 (.one (.ptr (.slot 15) 1 [0] (Int.toNat xB * 3 + 1))) ?_ (st_pure (p_fa (k82 false) (.slot 15) [0] 0 gx1))
   refine LWp.o 19 (I x1.Wear) ?_ (st_pure (p_lc (k82 false) (.slot 15) [0] 1 (.int .i64 x1.Wear) gx1))
   refine LWp.o 20 (B (x1.Wear == 1000000000)) ?_
   refine LWp.o 21 (B (x1.Wear == 1000000000)) ?_
   refine LWp.nil ?_
   cases h
   exact ⟨_, rfl, rfl, rfl⟩
 intro j1 h E hE
 refine nt_wp hE ?_
 change Wp _ _ _ (i_Wipe_H1 xB v1 j1) _
 refine Wp.c h (fun h => ?_) (fun h => ?_)
 · refine Wp.seq ?_
   refine Wp.region ?_
   refine LWp.o 22 (.agg [.view (.box 6) 0 [] 0]) ?_
   refine LWp.sb [(.box 6, [.junk])] (.box 4) [.sl true 82 3 (encs (c82 true) v1.Blocks)] ?_
   refine LWp.o 5 (B false) ?_
   refine LWp.nil ?_
   cases h
   exact Wp.ret ⟨.inr rfl, _, _, rfl, rfl⟩
 refine Wp.skip ?_
 refine Wp.seq ?_
 refine Wp.regionK 7 [6] mixed (fun c E h => by rcases h with ⟨h | h, _⟩ <;> cases h) ?_
 refine KWp.o 7 0 23 (.one (.ptr (.box 6) 0 [] 0)) ?_
 refine KWp.o 7 1 24 (.one (.view (.box 6) 0 [] 0)) ?_
 refine KWp.o 7 2 25 (I xB) ?_
 refine KWp.w1 3 ?_
 refine KOp.cl h 3 26 (fun v3 => (.one (.sl true 93 2 (encs c93 v3)))) rfl rfl (l := []) rfl (fun v hv => i_blankLeaves_t v hv) (.inl rfl) ?_
 intro v3 gv3 h
 refine KWp.p h 7 4 27 (fun _ => (.one (.ptr (.box 6) 0 [0] (Int.toNat xB * 3 + 0)))) ?_ rfl (fun x2 gx2 => sl_pure (p_ix (k82 true) (.box 6) [] 0 gx2))
 intro x2 gx2 h
 refine KWp.o 7 5 28 (.one (.ptr (.box 6) 0 [0] (Int.toNat xB * 3 + 2))) ?_ rfl (sl_pure (p_fa (k82 true) (.box 6) [0] 0 gx2))
 refine KWp.w1 6 ?_
 refine KOp.sb 6 [(.slot 26, [.junk])] (.box 6) [.sl true 82 3 (encs (c82 true) (si v1.Blocks xB (Block.mk x2.Bad x2.Wear v3)))] ?_ rfl (s_st [(.slot 26, [.junk])] (q := [0]) (cs := [.sl true 82 3 (encs (c82 true) v1.Blocks)]) (xs := [.sl true 93 2 (encs c93 v3)]) (At.one (setRow_gi (k82 true) (k := 2) (z := (Block.mk x2.Bad x2.Wear v3)) gx2 rfl rfl)) (fit_gi (k82 true) (k := 2) gx2 rfl))
 refine KWp.done ?_
 refine Wp.seq ?_
 refine Wp.region ?_
 refine LWp.o 29 (.one (.ptr (.box 6) 0 [] 0)) ?_
 refine LWp.o 30 (.one (.view (.box 6) 1 [] 0)) ?_
 refine LWp.o 31 (I xB) ?_
 refine LWp.p h 32 (fun _ => (.one (.ptr (.box 6) 1 [0] (Int.toNat xB * 3 + 0)))) ?_ (fun x3 gx3 => st_pure (p_ix (k82 true) (.box 6) [] 0 gx3))
 intro x3 gx3 h
 refine LWp.o 33 (.one (.ptr (.box 6) 1 [0] (Int.toNat xB * 3 + 1))) ?_ (st_pure (p_fa (k82 true) (.box 6) [0] 0 gx3))
 refine LWp.o 34 (I x3.Wear) ?_ (st_pure (p_lc (k82 true) (.box 6) [0] 1 (.int .i64 x3.Wear) gx3))
 refine LWp.o 35 (I (ad x3.Wear 1)) ?_
 refine LWp.p h 36 (fun _ => (.one (.ptr (.box 6) 1 [0] (Int.toNat xB * 3 + 0)))) ?_ (fun x4 gx4 => st_pure (p_ix (k82 true) (.box 6) [] 0 gx4))
 intro x4 gx4 h
 refine LWp.o 37 (.one (.ptr (.box 6) 1 [0] (Int.toNat xB * 3 + 1))) ?_ (st_pure (p_fa (k82 true) (.box 6) [0] 0 gx4))
 refine LWp.sb [] (.box 6) [.sl true 82 3 (encs (c82 true) (si (si v1.Blocks xB (Block.mk x2.Bad x2.Wear v3)) xB (Block.mk x4.Bad (ad x3.Wear 1) x4.Leaves)))] ?_ (s_st [] (q := [0]) (cs := [.sl true 82 3 (encs (c82 true) (si v1.Blocks xB (Block.mk x2.Bad x2.Wear v3)))]) (xs := [.int .i64 (ad x3.Wear 1)]) (At.one (setRow_gi (k82 true) (k := 1) (z := (Block.mk x4.Bad (ad x3.Wear 1) x4.Leaves)) gx4 rfl rfl)) (fit_gi (k82 true) (k := 1) gx4 rfl))
 refine LWp.nil ?_
 refine Wp.seq ?_
 refine Wp.region ?_
 refine LWp.o 38 (.agg [.view (.box 6) 2 [] 0]) ?_
 refine LWp.sb [(.box 6, [.junk])] (.box 4) [.sl true 82 3 (encs (c82 true) (si (si v1.Blocks xB (Block.mk x2.Bad x2.Wear v3)) xB (Block.mk x4.Bad (ad x3.Wear 1) x4.Leaves)))] ?_
 refine LWp.o 5 (B true) ?_
 refine LWp.nil ?_
 cases h
 exact Wp.ret ⟨.inr rfl, _, _, rfl, rfl⟩
set_option maxRecDepth 100000 in
theorem i_DoStep_t (xF : Flash) (xS : Step) (r : Flash × Bool) (h : i_DoStep xF xS = some r) : Gives Try.prog 60 [.sv (.agg [.sl false 82 3 (encs (c82 false) xF.Blocks)]), .sv (.agg [.int .i64 xS.Kind, .int .i64 xS.Block, .int .i64 xS.Leaf, .str xS.Text])] (.tup [(.agg [.sl true 82 3 (encs (c82 true) r.1.Blocks)]), (B r.2)]) (List.replicate 2 .gone) := by
 unfold i_DoStep at h
 refine gives_of Try.func60 rfl ?_
 rw [Try.ntmps60]
 refine Wp.seq ?_
 refine Wp.region ?_
 refine LWp.b [] 2 [.sl false 82 3 (encs (c82 false) xF.Blocks)] ?_
 refine LWp.b [] 3 [.int .i64 xS.Kind, .int .i64 xS.Block, .int .i64 xS.Leaf, .str xS.Text] ?_
 refine LWp.b [] 4 [.sl true 82 3 (encs (c82 true) [])] ?_
 refine LWp.o 5 (B false) ?_
 refine LWp.nil ?_
 refine Wp.seq ?_
 refine Wp.seq ?_
 refine Wp.region ?_
 refine LWp.o 6 (.one (.ptr (.box 3) 1 [] 0)) ?_
 refine LWp.o 7 (I xS.Kind) ?_
 refine LWp.nil ?_
 refine Wp.block ?_
 refine Wp.seq ?_
 refine Wp.region ?_
 refine LWp.o 9 (B (xS.Kind == 1)) ?_
 refine LWp.o 8 (B (xS.Kind == 1)) ?_
 refine LWp.nil ?_
 refine Wp.c h (fun h => ?_) (fun h => ?_)
 · refine Wp.seq ?_
   refine Wp.region ?_
   refine LWp.o 10 (.agg [.sl false 82 3 (encs (c82 false) xF.Blocks)]) ?_
   refine LWp.o 11 (.one (.ptr (.box 3) 1 [] 1)) ?_
   refine LWp.o 12 (I xS.Block) ?_
   refine LWp.o 13 (.one (.ptr (.box 3) 1 [] 2)) ?_
   refine LWp.o 14 (I xS.Leaf) ?_
   refine LWp.o 15 (.one (.ptr (.box 3) 1 [] 3)) ?_
   refine LWp.o 16 (Y xS.Text) ?_
   refine LWp.cl h 17 (fun v1 => (.tup [(.agg [.sl true 82 3 (encs (c82 true) v1.1.Blocks)]), (B v1.2)])) rfl (l := [.sv (.agg [.sl false 82 3 (encs (c82 false) xF.Blocks)]), .sv (.one (.int .i64 xS.Block)), .sv (.one (.int .i64 xS.Leaf)), .sv (.one (.str xS.Text))]) rfl (fun v hv => i_Program_t xF xS.Block xS.Leaf xS.Text v hv) (.inl rfl) ?_
   intro v1 gv1 h
   refine LWp.e 17 0 18 (.agg [.sl true 82 3 (encs (c82 true) v1.1.Blocks)]) ?_
   refine LWp.e 17 1 19 (B v1.2) ?_
   refine LWp.sb [(.slot 18, [.junk])] (.box 4) [.sl true 82 3 (encs (c82 true) v1.1.Blocks)] ?_
   refine LWp.o 5 (B v1.2) ?_
   refine LWp.nil ?_
   cases h
   exact Wp.ret ⟨.inr rfl, _, _, rfl, rfl⟩
 refine Wp.seq ?_
 refine Wp.region ?_
 refine LWp.o 21 (B (xS.Kind == 2)) ?_
 refine LWp.o 20 (B (xS.Kind == 2)) ?_
 refine LWp.nil ?_
 refine Wp.c h (fun h => ?_) (fun h => ?_)
 · refine Wp.seq ?_
   refine Wp.region ?_
   refine LWp.o 22 (.agg [.sl false 82 3 (encs (c82 false) xF.Blocks)]) ?_
   refine LWp.o 23 (.one (.ptr (.box 3) 1 [] 1)) ?_
   refine LWp.o 24 (I xS.Block) ?_
   refine LWp.cl h 25 (fun v2 => (.tup [(.agg [.sl true 82 3 (encs (c82 true) v2.1.Blocks)]), (B v2.2)])) rfl (l := [.sv (.agg [.sl false 82 3 (encs (c82 false) xF.Blocks)]), .sv (.one (.int .i64 xS.Block))]) rfl (fun v hv => i_Wipe_t xF xS.Block v hv) (.inl rfl) ?_
   intro v2 gv2 h
   refine LWp.e 25 0 26 (.agg [.sl true 82 3 (encs (c82 true) v2.1.Blocks)]) ?_
   refine LWp.e 25 1 27 (B v2.2) ?_
   refine LWp.sb [(.slot 26, [.junk])] (.box 4) [.sl true 82 3 (encs (c82 true) v2.1.Blocks)] ?_
   refine LWp.o 5 (B v2.2) ?_
   refine LWp.nil ?_
   cases h
   exact Wp.ret ⟨.inr rfl, _, _, rfl, rfl⟩
 refine Wp.skip ?_
 refine Wp.seq ?_
 refine Wp.region ?_
 refine LWp.o 28 (.agg [.sl false 82 3 (encs (c82 false) xF.Blocks)]) ?_
 refine LWp.cl h 29 (fun v3 => (.agg [.sl true 82 3 (encs (c82 true) v3.Blocks)])) rfl (l := [.sv (.agg [.sl false 82 3 (encs (c82 false) xF.Blocks)])]) rfl (fun v hv => i_copyFlash_t xF v hv) (.inl rfl) ?_
 intro v3 gv3 h
 refine LWp.sb [(.slot 29, [.junk])] (.box 4) [.sl true 82 3 (encs (c82 true) v3.Blocks)] ?_
 refine LWp.o 5 (B false) ?_
 refine LWp.nil ?_
 cases h
 exact Wp.ret ⟨.inr rfl, _, _, rfl, rfl⟩
def i_DoSteps_H1 (xList : List Step) (z1 : Int) (z2 : List Block) : St := mkSt [(1, (.one (.sl false 72 4 (encs c72 xList)))), (4, (.one (.ptr (.box 4) 0 [] 0))), (6, (.one (.ptr (.box 6) 0 [] 0))), (13, (.one (.sl false 72 4 (encs c72 xList)))), (14, (I (ln xList))), (15, (I z1))] [(.box 4, [.sl true 82 3 (encs (c82 true) [])]), (.box 6, [.sl true 82 3 (encs (c82 true) z2)])]
def i_DoSteps_H2 (xList : List Step) (z3 : List Block) : St := mkSt [(1, (.one (.sl false 72 4 (encs c72 xList)))), (4, (.one (.ptr (.box 4) 0 [] 0))), (6, (.one (.ptr (.box 6) 0 [] 0)))] [(.box 4, [.sl true 82 3 (encs (c82 true) [])]), (.box 6, [.sl true 82 3 (encs (c82 true) z3)])]
set_option maxRecDepth 100000 in
theorem i_DoSteps_t (xF : Flash) (xList : List Step) (r : Flash × Int) (h : i_DoSteps xF xList = some r) : Gives Try.prog 41 [.sv (.agg [.sl false 82 3 (encs (c82 false) xF.Blocks)]), .sv (.one (.sl false 72 4 (encs c72 xList)))] (.tup [(.agg [.sl true 82 3 (encs (c82 true) r.1.Blocks)]), (I r.2)]) (List.replicate 2 .gone) := by
 unfold i_DoSteps at h
 refine gives_of Try.func41 rfl ?_
 rw [Try.ntmps41]
 refine Wp.seq ?_
 refine Wp.region ?_
 refine LWp.b [] 2 [.sl false 82 3 (encs (c82 false) xF.Blocks)] ?_
 refine LWp.b [] 4 [.sl true 82 3 (encs (c82 true) [])] ?_
 refine LWp.o 5 (I 0) ?_
 refine LWp.nil ?_
 refine Wp.seq ?_
 refine Wp.region ?_
 refine LWp.o 11 (.agg [.sl false 82 3 (encs (c82 false) xF.Blocks)]) ?_
 refine LWp.cl h 12 (fun v1 => (.agg [.sl true 82 3 (encs (c82 true) v1.Blocks)])) rfl (l := [.sv (.agg [.sl false 82 3 (encs (c82 false) xF.Blocks)])]) rfl (fun v hv => i_copyFlash_t xF v hv) (.inl rfl) ?_
 intro v1 gv1 h
 refine LWp.b [] 6 [.sl true 82 3 (encs (c82 true) [])] ?_
 refine LWp.sb [(.slot 12, [.junk])] (.box 6) [.sl true 82 3 (encs (c82 true) v1.Blocks)] ?_
 refine LWp.nil ?_
 refine Wp.seq ?_
 refine Wp.seq ?_
 refine Wp.region ?_
 refine LWp.o 13 (.one (.sl false 72 4 (encs c72 xList))) ?_
 refine LWp.o 14 (I (ln xList)) ?_ (st_pure (p_ln k72 xList))
 refine LWp.o 15 (I 0) ?_
 refine LWp.nil ?_
 refine Wp.l2 h [1, 4, 6, 13, 14, 15] [.box 4, .box 6] (fun s => (i_DoSteps_H1 xList s.1 s.2)) [1, 4, 6] [.box 4, .box 6] (fun s => (i_DoSteps_H2 xList s)) ⟨rfl, rfl⟩ ?_ ?_
 · rintro ⟨y1, yOut01⟩ o (h : i_DoSteps_b1 xList y1 yOut01 = some o) hk1
   unfold i_DoSteps_b1 at h
   change Wp _ _ _ (i_DoSteps_H1 xList y1 yOut01) _
   refine Wp.seq ?_
   refine Wp.region ?_
   refine LWp.o 16 (B (decide (y1 < (ln xList)))) ?_
   refine LWp.nil ?_
   refine Wp.seq ?_
   refine Wp.c h (fun h => ?_) (fun h => ?_)
   · refine Wp.skip ?_
     refine Wp.seq ?_
     refine Wp.block ?_
     refine Wp.seq ?_
     refine Wp.region ?_
     refine LWp.o 17 (I y1) ?_
     refine LWp.p h 18 (fun _ => (.one (.ptr (.slot 13) 0 [0] (Int.toNat y1 * 4 + 0)))) ?_ (fun x1 gx1 => st_pure (p_ix k72 (.slot 13) [] 0 gx1))
     intro x1 gx1 h
     refine LWp.o 19 (.agg [.int .i64 x1.Kind, .int .i64 x1.Block, .int .i64 x1.Leaf, .str x1.Text]) ?_ (st_pure (p_le k72 (.slot 13) [0] gx1))
     refine LWp.b [] 8 [.int .i64 0, .int .i64 0, .int .i64 0, .str (bs [])] ?_
     refine LWp.o 7 (I y1) ?_
     refine LWp.s [] (.box 8) [.int .i64 x1.Kind, .int .i64 x1.Block, .int .i64 x1.Leaf, .str x1.Text] ?_
     refine LWp.nil ?_
     refine Wp.seq ?_
     refine Wp.region ?_
     refine LWp.o 21 (.agg [.view (.box 6) 0 [] 0]) ?_
     refine LWp.o 22 (.agg [.int .i64 x1.Kind, .int .i64 x1.Block, .int .i64 x1.Leaf, .str x1.Text]) ?_
     refine LWp.cl h 23 (fun v2 => (.tup [(.agg [.sl true 82 3 (encs (c82 true) v2.1.Blocks)]), (B v2.2)])) rfl (l := [.sv (.agg [.sl false 82 3 (shares (encs (c82 true) yOut01))]), .sv (.agg [.int .i64 x1.Kind, .int .i64 x1.Block, .int .i64 x1.Leaf, .str x1.Text])]) rfl (fun v hv => cg (l := [.sv (.agg [.sl false 82 3 (shares (encs (c82 true) yOut01))]), .sv (.agg [.int .i64 x1.Kind, .int .i64 x1.Block, .int .i64 x1.Leaf, .str x1.Text])]) (by simp only [sh82]) (i_DoStep_t (Flash.mk yOut01) x1 v hv)) (.inr (fun v => by simp [svShared, svShareds, hasShareds, hasShared, ns82])) ?_
     intro v2 gv2 h
     refine LWp.mt 23 20 (.tup [(.agg [.sl true 82 3 (encs (c82 true) v2.1.Blocks)]), (B v2.2)]) ?_
     refine LWp.e 20 0 24 (.agg [.sl true 82 3 (encs (c82 true) v2.1.Blocks)]) ?_
     refine LWp.e 20 1 25 (B v2.2) ?_
     refine LWp.b [] 9 [.sl true 82 3 (encs (c82 true) [])] ?_
     refine LWp.sb [(.slot 24, [.junk])] (.box 9) [.sl true 82 3 (encs (c82 true) v2.1.Blocks)] ?_
     refine LWp.o 10 (B v2.2) ?_
     refine LWp.nil ?_
     refine Wp.seq ?_
     refine Wp.seq ?_
     refine Wp.region ?_
     refine LWp.o 26 (B v2.2) ?_
     refine LWp.o 27 (B (!v2.2)) ?_
     refine LWp.nil ?_
     refine Wp.c h (fun h => ?_) (fun h => ?_)
     · refine Wp.seq ?_
       refine Wp.region ?_
       refine LWp.o 28 (.agg [.view (.box 6) 0 [] 0]) ?_
       refine LWp.o 29 (I y1) ?_
       refine LWp.sb [(.box 6, [.junk])] (.box 4) [.sl true 82 3 (encs (c82 true) yOut01)] ?_
       refine LWp.o 5 (I y1) ?_
       refine LWp.nil ?_
       cases h
       replace h : some _ = some _ := hk1 _ rfl
       cases h
       exact Wp.ret ⟨.inr rfl, _, _, rfl, rfl⟩
     refine Wp.skip ?_
     refine Wp.region ?_
     refine LWp.o 30 (.agg [.view (.box 9) 2 [] 0]) ?_
     refine LWp.sb [(.box 9, [.junk])] (.box 6) [.sl true 82 3 (encs (c82 true) v2.1.Blocks)] ?_
     refine LWp.nil ?_
     refine Wp.region ?_
     refine LWp.o 31 (I (ad y1 1)) ?_
     refine LWp.o 15 (I (ad y1 1)) ?_
     refine LWp.nil ?_
     cases h
     exact ⟨_, rfl, rfl, rfl⟩
   refine Wp.exit ?_
   cases h
   exact ⟨_, rfl, rfl, rfl⟩
 intro v3 h E hE
 refine nt_wp hE ?_
 change Wp _ _ _ (i_DoSteps_H2 xList v3) _
 refine Wp.seq ?_
 refine Wp.region ?_
 refine LWp.o 32 (.agg [.view (.box 6) 0 [] 0]) ?_
 refine LWp.o 33 (.one (.sl false 72 4 (encs c72 xList))) ?_
 refine LWp.o 34 (I (ln xList)) ?_ (st_pure (p_ln k72 xList))
 refine LWp.sb [(.box 6, [.junk])] (.box 4) [.sl true 82 3 (encs (c82 true) v3)] ?_
 refine LWp.o 5 (I (ln xList)) ?_
 refine LWp.nil ?_
 cases h
 exact Wp.ret ⟨.inr rfl, _, _, rfl, rfl⟩
set_option maxRecDepth 100000 in
theorem i_Lawful_t (xBlocks : Int) (xSteps : List Step) (r : Bool) (h : i_Lawful xBlocks xSteps = some r) : Gives Try.prog 22 [.sv (I xBlocks), .sv (.one (.sl false 72 4 (encs c72 xSteps)))] (B r) (List.replicate 2 .gone) := by
 unfold i_Lawful at h
 refine gives_of Try.func22 rfl ?_
 rw [Try.ntmps22]
 refine Wp.seq ?_
 refine Wp.region ?_
 refine LWp.o 4 (B false) ?_
 refine LWp.nil ?_
 refine Wp.seq ?_
 refine Wp.region ?_
 refine LWp.o 10 (I xBlocks) ?_
 refine LWp.cl h 11 (fun v1 => (.tup [(.agg [.sl true 82 3 (encs (c82 true) v1.1.Blocks)]), (B v1.2)])) rfl (l := [.sv (.one (.int .i64 xBlocks))]) rfl (fun v hv => i_FlashNew_t xBlocks v hv) (.inl rfl) ?_
 intro v1 gv1 h
 refine LWp.mt 11 9 (.tup [(.agg [.sl true 82 3 (encs (c82 true) v1.1.Blocks)]), (B v1.2)]) ?_
 refine LWp.e 9 0 12 (.agg [.sl true 82 3 (encs (c82 true) v1.1.Blocks)]) ?_
 refine LWp.e 9 1 13 (B v1.2) ?_
 refine LWp.b [] 5 [.sl true 82 3 (encs (c82 true) [])] ?_
 refine LWp.sb [(.slot 12, [.junk])] (.box 5) [.sl true 82 3 (encs (c82 true) v1.1.Blocks)] ?_
 refine LWp.o 6 (B v1.2) ?_
 refine LWp.nil ?_
 refine Wp.seq ?_
 refine Wp.seq ?_
 refine Wp.region ?_
 refine LWp.o 14 (B v1.2) ?_
 refine LWp.o 15 (B (!v1.2)) ?_
 refine LWp.nil ?_
 refine Wp.c h (fun h => ?_) (fun h => ?_)
 · refine Wp.seq ?_
   refine Wp.region ?_
   refine LWp.o 4 (B false) ?_
   refine LWp.nil ?_
   cases h
   exact Wp.ret ⟨.inr rfl, _, _, rfl, rfl⟩
 refine Wp.skip ?_
 refine Wp.seq ?_
 refine Wp.region ?_
 refine LWp.o 17 (.agg [.view (.box 5) 2 [] 0]) ?_
 refine LWp.o 18 (.one (.sl false 72 4 (encs c72 xSteps))) ?_
 refine LWp.cl h 19 (fun v2 => (.tup [(.agg [.sl true 82 3 (encs (c82 true) v2.1.Blocks)]), (I v2.2)])) rfl (l := [.sv (.agg [.sl false 82 3 (shares (encs (c82 true) v1.1.Blocks))]), .sv (.one (.sl false 72 4 (encs c72 xSteps)))]) rfl (fun v hv => cg (l := [.sv (.agg [.sl false 82 3 (shares (encs (c82 true) v1.1.Blocks))]), .sv (.one (.sl false 72 4 (encs c72 xSteps)))]) (by simp only [sh82]) (i_DoSteps_t v1.1 xSteps v hv)) (.inr (fun v => by simp [svShared, svShareds, hasShareds, hasShared, ns82])) ?_
 intro v2 gv2 h
 refine LWp.mt 19 16 (.tup [(.agg [.sl true 82 3 (encs (c82 true) v2.1.Blocks)]), (I v2.2)]) ?_
 refine LWp.e 16 0 20 (.agg [.sl true 82 3 (encs (c82 true) v2.1.Blocks)]) ?_
 refine LWp.e 16 1 21 (I v2.2) ?_
 refine LWp.b [] 7 [.sl true 82 3 (encs (c82 true) [])] ?_
 refine LWp.sb [(.slot 20, [.junk])] (.box 7) [.sl true 82 3 (encs (c82 true) v2.1.Blocks)] ?_
 refine LWp.o 8 (I v2.2) ?_
 refine LWp.nil ?_
 refine Wp.seq ?_
 refine Wp.region ?_
 refine LWp.o 22 (I v2.2) ?_
 refine LWp.o 23 (.one (.sl false 72 4 (encs c72 xSteps))) ?_
 refine LWp.o 24 (I (ln xSteps)) ?_ (st_pure (p_ln k72 xSteps))
 refine LWp.o 25 (B (v2.2 == (ln xSteps))) ?_
 refine LWp.o 4 (B (v2.2 == (ln xSteps))) ?_
 refine LWp.nil ?_
 cases h
 exact Wp.ret ⟨.inr rfl, _, _, rfl, rfl⟩
set_option maxRecDepth 100000 in
theorem w_eqStep_t (xA : Step) (xB : Step) (r : Bool) (h : w_eqStep xA xB = some r) : Gives Try.prog 42 [.sv (.agg [.int .i64 xA.Kind, .int .i64 xA.Block, .int .i64 xA.Leaf, .str xA.Text]), .sv (.agg [.int .i64 xB.Kind, .int .i64 xB.Block, .int .i64 xB.Leaf, .str xB.Text])] (B r) (List.replicate 2 .gone) := by
 unfold w_eqStep at h
 refine gives_of Try.func42 rfl ?_
 rw [Try.ntmps42]
 refine Wp.seq ?_
 refine Wp.region ?_
 refine LWp.b [] 2 [.int .i64 xA.Kind, .int .i64 xA.Block, .int .i64 xA.Leaf, .str xA.Text] ?_
 refine LWp.b [] 3 [.int .i64 xB.Kind, .int .i64 xB.Block, .int .i64 xB.Leaf, .str xB.Text] ?_
 refine LWp.o 4 (B false) ?_
 refine LWp.nil ?_
 refine Wp.seq ?_
 refine Wp.seq ?_
 refine Wp.region ?_
 refine LWp.o 5 (.one (.ptr (.box 2) 1 [] 0)) ?_
 refine LWp.o 6 (I xA.Kind) ?_
 refine LWp.o 7 (.one (.ptr (.box 3) 1 [] 0)) ?_
 refine LWp.o 8 (I xB.Kind) ?_
 refine LWp.o 9 (B (xA.Kind != xB.Kind)) ?_
 refine LWp.nil ?_
 refine Wp.c h (fun h => ?_) (fun h => ?_)
 · refine Wp.seq ?_
   refine Wp.region ?_
   refine LWp.o 4 (B false) ?_
   refine LWp.nil ?_
   cases h
   exact Wp.ret ⟨.inr rfl, _, _, rfl, rfl⟩
 refine Wp.skip ?_
 refine Wp.seq ?_
 refine Wp.seq ?_
 refine Wp.region ?_
 refine LWp.o 10 (.one (.ptr (.box 2) 1 [] 1)) ?_
 refine LWp.o 11 (I xA.Block) ?_
 refine LWp.o 12 (.one (.ptr (.box 3) 1 [] 1)) ?_
 refine LWp.o 13 (I xB.Block) ?_
 refine LWp.o 14 (B (xA.Block != xB.Block)) ?_
 refine LWp.nil ?_
 refine Wp.c h (fun h => ?_) (fun h => ?_)
 · refine Wp.seq ?_
   refine Wp.region ?_
   refine LWp.o 4 (B false) ?_
   refine LWp.nil ?_
   cases h
   exact Wp.ret ⟨.inr rfl, _, _, rfl, rfl⟩
 refine Wp.skip ?_
 refine Wp.seq ?_
 refine Wp.seq ?_
 refine Wp.region ?_
 refine LWp.o 15 (.one (.ptr (.box 2) 1 [] 2)) ?_
 refine LWp.o 16 (I xA.Leaf) ?_
 refine LWp.o 17 (.one (.ptr (.box 3) 1 [] 2)) ?_
 refine LWp.o 18 (I xB.Leaf) ?_
 refine LWp.o 19 (B (xA.Leaf != xB.Leaf)) ?_
 refine LWp.nil ?_
 refine Wp.c h (fun h => ?_) (fun h => ?_)
 · refine Wp.seq ?_
   refine Wp.region ?_
   refine LWp.o 4 (B false) ?_
   refine LWp.nil ?_
   cases h
   exact Wp.ret ⟨.inr rfl, _, _, rfl, rfl⟩
 refine Wp.skip ?_
 refine Wp.seq ?_
 refine Wp.seq ?_
 refine Wp.region ?_
 refine LWp.o 20 (.one (.ptr (.box 2) 1 [] 3)) ?_
 refine LWp.o 21 (Y xA.Text) ?_
 refine LWp.o 22 (.one (.ptr (.box 3) 1 [] 3)) ?_
 refine LWp.o 23 (Y xB.Text) ?_
 refine LWp.o 24 (B (!(seq xA.Text xB.Text))) ?_
 refine LWp.nil ?_
 refine Wp.c h (fun h => ?_) (fun h => ?_)
 · refine Wp.seq ?_
   refine Wp.region ?_
   refine LWp.o 4 (B false) ?_
   refine LWp.nil ?_
   cases h
   exact Wp.ret ⟨.inr rfl, _, _, rfl, rfl⟩
 refine Wp.skip ?_
 refine Wp.seq ?_
 refine Wp.region ?_
 refine LWp.o 4 (B true) ?_
 refine LWp.nil ?_
 cases h
 exact Wp.ret ⟨.inr rfl, _, _, rfl, rfl⟩
def w_eqStepS_H1 (xA : List Step) (xB : List Step) (z1 : Int) : St := mkSt [(0, (.one (.sl false 72 4 (encs c72 xA)))), (1, (.one (.sl false 72 4 (encs c72 xB)))), (5, (I z1))] []
def w_eqStepS_H2  : St := mkSt [] []
set_option maxRecDepth 100000 in
theorem w_eqStepS_t (xA : List Step) (xB : List Step) (r : Bool) (h : w_eqStepS xA xB = some r) : Gives Try.prog 23 [.sv (.one (.sl false 72 4 (encs c72 xA))), .sv (.one (.sl false 72 4 (encs c72 xB)))] (B r) (List.replicate 2 .gone) := by
 unfold w_eqStepS at h
 refine gives_of Try.func23 rfl ?_
 rw [Try.ntmps23]
 refine Wp.seq ?_
 refine Wp.region ?_
 refine LWp.o 4 (B false) ?_
 refine LWp.nil ?_
 refine Wp.seq ?_
 refine Wp.seq ?_
 refine Wp.region ?_
 refine LWp.o 6 (.one (.sl false 72 4 (encs c72 xA))) ?_
 refine LWp.o 7 (I (ln xA)) ?_ (st_pure (p_ln k72 xA))
 refine LWp.o 8 (.one (.sl false 72 4 (encs c72 xB))) ?_
 refine LWp.o 9 (I (ln xB)) ?_ (st_pure (p_ln k72 xB))
 refine LWp.o 10 (B ((ln xA) != (ln xB))) ?_
 refine LWp.nil ?_
 refine Wp.c h (fun h => ?_) (fun h => ?_)
 · refine Wp.seq ?_
   refine Wp.region ?_
   refine LWp.o 4 (B false) ?_
   refine LWp.nil ?_
   cases h
   exact Wp.ret ⟨.inr rfl, _, _, rfl, rfl⟩
 refine Wp.skip ?_
 refine Wp.seq ?_
 refine Wp.seq ?_
 refine Wp.region ?_
 refine LWp.o 5 (I 0) ?_
 refine LWp.nil ?_
 refine Wp.l2 h [0, 1, 5] [] (fun s => (w_eqStepS_H1 xA xB s)) [] [] (fun _ => w_eqStepS_H2) ⟨rfl, rfl⟩ ?_ ?_
 · rintro yI1 o (h : w_eqStepS_b1 xA xB yI1 = some o) hk1
   unfold w_eqStepS_b1 at h
   change Wp _ _ _ (w_eqStepS_H1 xA xB yI1) _
   refine Wp.seq ?_
   refine Wp.seq ?_
   refine Wp.region ?_
   refine LWp.o 11 (I yI1) ?_
   refine LWp.o 12 (.one (.sl false 72 4 (encs c72 xA))) ?_
   refine LWp.o 13 (I (ln xA)) ?_ (st_pure (p_ln k72 xA))
   refine LWp.o 14 (B (decide (yI1 < (ln xA)))) ?_
   refine LWp.nil ?_
   refine Wp.c h (fun h => ?_) (fun h => ?_)
   · refine Wp.skip ?_
     refine Wp.seq ?_
     refine Wp.block ?_
     refine Wp.seq ?_
     refine Wp.regionT 8 mixed (by decide +kernel) ?_
     refine SWp.o 17 (.one (.sl false 72 4 (encs c72 xA))) ?_
     refine SWp.o 18 (I yI1) ?_
     refine SWp.p h 19 (fun _ => (.one (.ptr (.slot 17) 1 [0] (Int.toNat yI1 * 4 + 0)))) ?_ (fun x1 gx1 => sl_pure (p_ix k72 (.slot 17) [] 0 gx1))
     intro x1 gx1 h
     refine SWp.o 20 (.agg [.int .i64 x1.Kind, .int .i64 x1.Block, .int .i64 x1.Leaf, .str x1.Text]) ?_ (sl_pure (p_le k72 (.slot 17) [0] gx1))
     refine SWp.o 21 (.one (.sl false 72 4 (encs c72 xB))) ?_
     refine SWp.o 22 (I yI1) ?_
     refine SWp.p h 23 (fun _ => (.one (.ptr (.slot 21) 1 [0] (Int.toNat yI1 * 4 + 0)))) ?_ (fun x2 gx2 => sl_pure (p_ix k72 (.slot 21) [] 0 gx2))
     intro x2 gx2 h
     refine SWp.o 24 (.agg [.int .i64 x2.Kind, .int .i64 x2.Block, .int .i64 x2.Leaf, .str x2.Text]) ?_ (sl_pure (p_le k72 (.slot 21) [0] gx2))
     refine SWp.nil ?_
     refine LWp.cl h 25 (fun v1 => (B v1)) rfl (l := [.sv (.agg [.int .i64 x1.Kind, .int .i64 x1.Block, .int .i64 x1.Leaf, .str x1.Text]), .sv (.agg [.int .i64 x2.Kind, .int .i64 x2.Block, .int .i64 x2.Leaf, .str x2.Text])]) rfl (fun v hv => w_eqStep_t x1 x2 v hv) (.inl rfl) ?_
     intro v1 gv1 h
     refine LWp.o 26 (B (!v1)) ?_
     refine LWp.nil ?_
     refine Wp.c h (fun h => ?_) (fun h => ?_)
     · refine Wp.seq ?_
       refine Wp.region ?_
       refine LWp.o 4 (B false) ?_
       refine LWp.nil ?_
       cases h
       replace h : some _ = some _ := hk1 _ rfl
       cases h
       exact Wp.ret ⟨.inr rfl, _, _, rfl, rfl⟩
     refine Wp.skip ?_
     refine Wp.region ?_
     refine LWp.o 15 (I yI1) ?_
     refine LWp.o 16 (I (ad yI1 1)) ?_
     refine LWp.o 5 (I (ad yI1 1)) ?_
     refine LWp.nil ?_
     cases h
     exact ⟨_, rfl, rfl, rfl⟩
   refine Wp.exit ?_
   cases h
   exact ⟨_, rfl, rfl, rfl⟩
 intro v2 h E hE
 refine nt_wp hE ?_
 change Wp _ _ _ w_eqStepS_H2 _
 refine Wp.seq ?_
 refine Wp.region ?_
 refine LWp.o 4 (B true) ?_
 refine LWp.nil ?_
 cases h
 exact Wp.ret ⟨.inr rfl, _, _, rfl, rfl⟩
set_option maxRecDepth 100000 in
theorem w_FnExactLawful_t (xABlocks : Int) (xASteps : List Step) (r : Bool) (h : w_FnExactLawful xABlocks xASteps = some r) : Gives Try.prog 6 [.sv (I xABlocks), .sv (.one (.sl false 64 4 (encs c64 xASteps)))] (B r) (List.replicate 2 .gone) := by
 unfold w_FnExactLawful at h
 refine gives_of Try.func6 rfl ?_
 rw [Try.ntmps6]
 refine Wp.seq ?_
 refine Wp.region ?_
 refine LWp.o 4 (B false) ?_
 refine LWp.nil ?_
 refine Wp.seq ?_
 refine Wp.region ?_
 refine LWp.o 5 (I 1048576) ?_
 refine LWp.nil ?_
 refine Wp.seq ?_
 refine Wp.region ?_
 refine LWp.o 9 (.one (.sl false 64 4 (encs c64 xASteps))) ?_
 refine LWp.o 10 (I 1048576) ?_
 refine LWp.cl h 11 (fun v1 => (I v1)) rfl (l := [.sv (.one (.sl false 64 4 (encs c64 xASteps))), .sv (.one (.int .i64 1048576))]) rfl (fun v hv => w_szStepS_t xASteps 1048576 v hv) (.inl rfl) ?_
 intro v1 gv1 h
 refine LWp.o 5 (I v1) ?_
 refine LWp.nil ?_
 refine Wp.seq ?_
 refine Wp.seq ?_
 refine Wp.region ?_
 refine LWp.o 12 (I v1) ?_
 refine LWp.o 13 (B (decide (v1 < 0))) ?_
 refine LWp.nil ?_
 refine Wp.c h (fun h => ?_) (fun h => ?_)
 · refine Wp.seq ?_
   refine Wp.region ?_
   refine LWp.o 4 (B true) ?_
   refine LWp.nil ?_
   cases h
   exact Wp.ret ⟨.inr rfl, _, _, rfl, rfl⟩
 refine Wp.skip ?_
 refine Wp.seq ?_
 refine Wp.region ?_
 refine LWp.o 14 (I xABlocks) ?_
 refine LWp.o 15 (.one (.sl false 64 4 (encs c64 xASteps))) ?_
 refine LWp.cl h 16 (fun v2 => (.one (.sl true 72 4 (encs c72 v2)))) rfl (l := [.sv (.one (.sl false 64 4 (encs c64 xASteps)))]) rfl (fun v hv => w_toStepS_t xASteps v hv) (.inl rfl) ?_
 intro v2 gv2 h
 refine LWp.cl h 17 (fun v3 => (B v3)) rfl (l := [.sv (.one (.int .i64 xABlocks)), .sv (.one (.sl false 72 4 (shares (encs c72 v2))))]) rfl (fun v hv => cg (l := [.sv (.one (.int .i64 xABlocks)), .sv (.one (.sl false 72 4 (shares (encs c72 v2))))]) (by simp only [sh72]) (s_Lawful_t xABlocks v2 v hv)) (.inr (fun v => rfl)) ?_
 intro v3 gv3 h
 refine LWp.o 6 (B v3) ?_
 refine LWp.nil ?_
 refine Wp.seq ?_
 refine Wp.region ?_
 refine LWp.o 18 (.one (.sl false 64 4 (encs c64 xASteps))) ?_
 refine LWp.cl h 19 (fun v4 => (.one (.sl true 72 4 (encs c72 v4)))) rfl (l := [.sv (.one (.sl false 64 4 (encs c64 xASteps)))]) rfl (fun v hv => w_toStepS_t xASteps v hv) (.inl rfl) ?_
 intro v4 gv4 h
 refine LWp.m true [(.slot 19, [.junk])] 7 (.one (.sl true 72 4 (encs c72 v4))) ?_
 refine LWp.nil ?_
 refine Wp.seq ?_
 refine Wp.region ?_
 refine LWp.o 20 (I xABlocks) ?_
 refine LWp.o 21 (.one (.view (.slot 7) 1 [] 0)) ?_
 refine LWp.cl h 22 (fun v5 => (B v5)) rfl (l := [.sv (.one (.int .i64 xABlocks)), .sv (.one (.sl false 72 4 (shares (encs c72 v4))))]) rfl (fun v hv => cg (l := [.sv (.one (.int .i64 xABlocks)), .sv (.one (.sl false 72 4 (shares (encs c72 v4))))]) (by simp only [sh72]) (i_Lawful_t xABlocks v4 v hv)) (.inr (fun v => rfl)) ?_
 intro v5 gv5 h
 refine LWp.o 8 (B v5) ?_
 refine LWp.nil ?_
 refine Wp.seq ?_
 refine Wp.seq ?_
 refine Wp.region ?_
 refine LWp.o 23 (B v5) ?_
 refine LWp.o 24 (B v3) ?_
 refine LWp.o 25 (B (!(v5 == v3))) ?_
 refine LWp.nil ?_
 refine Wp.c h (fun h => ?_) (fun h => ?_)
 · refine Wp.seq ?_
   refine Wp.region ?_
   refine LWp.o 4 (B false) ?_
   refine LWp.nil ?_
   cases h
   exact Wp.ret ⟨.inr rfl, _, _, rfl, rfl⟩
 refine Wp.skip ?_
 refine Wp.seq ?_
 refine Wp.seq ?_
 refine Wp.region ?_
 refine LWp.o 26 (.one (.view (.slot 7) 1 [] 0)) ?_
 refine LWp.o 27 (.one (.sl false 64 4 (encs c64 xASteps))) ?_
 refine LWp.cl h 28 (fun v6 => (.one (.sl true 72 4 (encs c72 v6)))) rfl (l := [.sv (.one (.sl false 64 4 (encs c64 xASteps)))]) rfl (fun v hv => w_toStepS_t xASteps v hv) (.inl rfl) ?_
 intro v6 gv6 h
 refine LWp.cl h 29 (fun v7 => (B v7)) rfl (l := [.sv (.one (.sl false 72 4 (shares (encs c72 v4)))), .sv (.one (.sl false 72 4 (shares (encs c72 v6))))]) rfl (fun v hv => cg (l := [.sv (.one (.sl false 72 4 (shares (encs c72 v4)))), .sv (.one (.sl false 72 4 (shares (encs c72 v6))))]) (by simp only [sh72]) (w_eqStepS_t v4 v6 v hv)) (.inr (fun v => rfl)) ?_
 intro v7 gv7 h
 refine LWp.o 30 (B (!v7)) ?_
 refine LWp.nil ?_
 refine Wp.c h (fun h => ?_) (fun h => ?_)
 · refine Wp.seq ?_
   refine Wp.region ?_
   refine LWp.o 4 (B false) ?_
   refine LWp.nil ?_
   cases h
   exact Wp.ret ⟨.inr rfl, _, _, rfl, rfl⟩
 refine Wp.skip ?_
 refine Wp.seq ?_
 refine Wp.region ?_
 refine LWp.o 4 (B true) ?_
 refine LWp.nil ?_
 cases h
 exact Wp.ret ⟨.inr rfl, _, _, rfl, rfl⟩
end Go.TI
