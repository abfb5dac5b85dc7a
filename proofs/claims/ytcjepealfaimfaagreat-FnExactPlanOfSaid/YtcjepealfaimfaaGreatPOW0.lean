/- That they compute it. No condition. -/
import Derived.Test.YtcjepealfaimfaaGreatPOD
import Derived.Test.YtcjepealfaimfaaGreatProg
import Derived.Test.YtcjepealfaimfaaGreatPOSOY
import Derived.Shelf.Abstract
import Derived.KernelRfl
import Derived.Test.YtcjepealfaimfaaGreatPOLY
import Derived.Test.YtcjepealfaimfaaGreatPOTIH
namespace Go.TI
set_option maxRecDepth 100000
open Go Go.Proofs
set_option linter.unusedVariables false
set_option linter.unusedSimpArgs false
theorem mixed : Tryz.prog.follows .mixedOrders = true := rfl
theorem ints : IntsAt Tryz.prog 115 3 := intsAt_of Tryz.lays191 3
theorem w_szLeaf_t (xA : Leaf) (xLeft : Int) (r : Int) (h : w_szLeaf xA xLeft = some r) : Gives Tryz.prog 198 [.sv (.agg [.int .i64 xA.Is, .str xA.Text]), .sv (I xLeft)] (I r) (List.replicate 2 .gone) := by
 unfold w_szLeaf at h
 refine gives_of Tryz.func198 rfl ?_
 rw [Tryz.ntmps198]
 refine wr (LWp.b [] 2 [.int .i64 xA.Is, .str xA.Text] (lO 4 (I 0) (lZ (wr (lO 5 (I xLeft) (lO 6 (.one (.ptr (.box 2) 1 [] 1)) (lO 7 (Y xA.Text) (lO 8 (I (sln xA.Text)) (lO 9 (I (sb xLeft (sln xA.Text))) ?_)))))))))
 refine lO 1 (I (sb xLeft (sln xA.Text))) (lZ (Wp.seq (wr (lO 10 (I (sb xLeft (sln xA.Text))) (lO 11 (B (decide ((sb xLeft (sln xA.Text)) < 0))) (lZ (Wp.c h (fun h => ?_) (fun h => ?_))))))))
 ·refine wr ?_
  refine lO 4 (I (-1)) (lZ ?_)
  cases h
  exact Wp.ret ⟨.inr rfl, _, _, rfl, rfl⟩
 refine Wp.skip (wr (lO 12 (I (sb xLeft (sln xA.Text))) (lO 4 (I (sb xLeft (sln xA.Text))) (lZ ?_))))
 cases h
 exact Wp.ret ⟨.inr rfl, _, _, rfl, rfl⟩
def c247 (x : Leaf) : List TV := [.int .i64 x.Is, .str x.Text]
theorem k247 : ∀ x, (c247 x).length = 2 := fun _ => rfl
theorem sh247 : ∀ l, shares (encs c247 l) = encs c247 l := shares_encs (fun _ => rfl)
theorem ns247 : ∀ l, hasShareds (encs c247 l) = false := ns_encs (fun _ => rfl)
def w_szLeafS_H1 (xA : List Leaf) (z1 : Int) (z2 : Int) : St := mkSt [(0, (.one (.sl false 247 2 (encs c247 xA)))), (1, (I z1)), (5, (I z2))] []
def w_szLeafS_H2 (z3 : Int) : St := mkSt [(1, (I z3))] []
theorem w_szLeafS_t (xA : List Leaf) (xLeft : Int) (r : Int) (h : w_szLeafS xA xLeft = some r) : Gives Tryz.prog 164 [.sv (.one (.sl false 247 2 (encs c247 xA))), .sv (I xLeft)] (I r) (List.replicate 2 .gone) := by
 unfold w_szLeafS at h
 refine gives_of Tryz.func164 rfl ?_
 rw [Tryz.ntmps164]
 refine wr (lO 4 (I 0) (lZ (wr (lO 6 (I xLeft) (lO 7 (.one (.sl false 247 2 (encs c247 xA))) (lO 8 (I (ln xA)) (lO 9 (I (sb xLeft (ln xA))) (lO 1 (I (sb xLeft (ln xA))) (lZ ?_))) (st_pure (p_ln k247 xA))))))))
 refine Wp.seq (wr (lO 10 (I (sb xLeft (ln xA))) (lO 11 (B (decide ((sb xLeft (ln xA)) < 0))) (lZ (Wp.c h (fun h => ?_) (fun h => ?_))))))
 ·refine wr ?_
  refine lO 4 (I (-1)) (lZ ?_)
  cases h
  exact Wp.ret ⟨.inr rfl, _, _, rfl, rfl⟩
 refine Wp.skip (Wp.seq (wr (lO 5 (I 0) (lZ (Wp.l2 h [0, 1, 5] [] (fun s => (w_szLeafS_H1 xA s.1 s.2)) [1] [] (fun s => (w_szLeafS_H2 s)) ⟨rfl, rfl⟩ ?_ ?_)))))
 ·rintro ⟨yLeft1, yI1⟩ o (h : w_szLeafS_b1 xA yLeft1 yI1 = some o) hk1
  unfold w_szLeafS_b1 at h
  change Wp _ _ _ (w_szLeafS_H1 xA yLeft1 yI1) _
  refine Wp.seq (wr (lO 12 (I yI1) (lO 13 (.one (.sl false 247 2 (encs c247 xA))) (lO 14 (I (ln xA)) (lO 15 (B (decide (yI1 < (ln xA)))) (lZ (Wp.c h (fun h => ?_) (fun h => ?_)))) (st_pure (p_ln k247 xA))))))
  ·refine Wp.skip ?_
   refine Wp.seq (Wp.block (wr (lO 18 (.one (.sl false 247 2 (encs c247 xA))) (lO 19 (I yI1) (LWp.p h 20 (fun _ => (.one (.ptr (.slot 18) 1 [0] (Int.toNat yI1 * 2 + 0)))) ?_ (fun x1 gx1 => st_pure (p_ix k247 (.slot 18) [] 0 gx1)))))))
   intro x1 gx1 h
   refine lO 21 (.agg [.int .i64 x1.Is, .str x1.Text]) (lO 22 (I yLeft1) (LWp.cl h 23 (fun v1 => (I v1)) rfl (l := [.sv (.agg [.int .i64 x1.Is, .str x1.Text]), .sv (.one (.int .i64 yLeft1))]) rfl (fun v hv => w_szLeaf_t x1 yLeft1 v hv) (.inl rfl) ?_)) (st_pure (p_le k247 (.slot 18) [0] gx1))
   intro v1 gv1 h
   refine lO 1 (I v1) (lZ (wr (lO 24 (I v1) (lO 25 (B (decide (v1 < 0))) (lZ (Wp.c h (fun h => ?_) (fun h => ?_)))))))
   ·refine wr ?_
    refine lO 4 (I (-1)) (lZ ?_)
    cases h
    replace h : some _ = some _ := hk1 _ rfl
    cases h
    exact Wp.ret ⟨.inr rfl, _, _, rfl, rfl⟩
   refine Wp.skip (Wp.region (lO 16 (I yI1) (lO 17 (I (ad yI1 1)) (lO 5 (I (ad yI1 1)) (lZ ?_)))))
   cases h
   exact ⟨_, rfl, rfl, rfl⟩
  refine Wp.exit ?_
  cases h
  exact ⟨_, rfl, rfl, rfl⟩
 intro v2 h E hE
 refine nt_wp hE ?_
 change Wp _ _ _ (w_szLeafS_H2 v2) _
 refine wr (lO 26 (I v2) (lO 4 (I v2) (lZ ?_)))
 cases h
 exact Wp.ret ⟨.inr rfl, _, _, rfl, rfl⟩
theorem w_szBlock_t (xA : Block) (xLeft : Int) (r : Int) (h : w_szBlock xA xLeft = some r) : Gives Tryz.prog 117 [.sv (.agg [.bool xA.Bad, .int .i64 xA.Wear, .sl false 247 2 (encs c247 xA.Leaves)]), .sv (I xLeft)] (I r) (List.replicate 2 .gone) := by
 unfold w_szBlock at h
 refine gives_of Tryz.func117 rfl ?_
 rw [Tryz.ntmps117]
 refine wr (LWp.b [] 2 [.bool xA.Bad, .int .i64 xA.Wear, .sl false 247 2 (encs c247 xA.Leaves)] (lO 4 (I 0) (lZ (wr (lO 5 (.one (.ptr (.box 2) 1 [] 2)) (lO 6 (.one (.sl false 247 2 (encs c247 xA.Leaves))) (lO 7 (I xLeft) (LWp.cl h 8 (fun v1 => (I v1)) rfl (l := [.sv (.one (.sl false 247 2 (encs c247 xA.Leaves))), .sv (.one (.int .i64 xLeft))]) rfl (fun v hv => w_szLeafS_t xA.Leaves xLeft v hv) (.inl rfl) ?_))))))))
 intro v1 gv1 h
 refine lO 1 (I v1) (lZ (Wp.seq (wr (lO 9 (I v1) (lO 10 (B (decide (v1 < 0))) (lZ (Wp.c h (fun h => ?_) (fun h => ?_))))))))
 ·refine wr ?_
  refine lO 4 (I (-1)) (lZ ?_)
  cases h
  exact Wp.ret ⟨.inr rfl, _, _, rfl, rfl⟩
 refine Wp.skip (wr (lO 11 (I v1) (lO 4 (I v1) (lZ ?_))))
 cases h
 exact Wp.ret ⟨.inr rfl, _, _, rfl, rfl⟩
def c176 (o : Bool) (x : Block) : List TV := [.bool x.Bad, .int .i64 x.Wear, .sl o 247 2 (encs c247 x.Leaves)]
theorem k176 (o : Bool) : ∀ x, (c176 o x).length = 3 := fun _ => rfl
theorem sh176 : ∀ l, shares (encs (c176 true) l) = encs (c176 false) l := shares_encs (fun x => by simp only [c176, shares, share, sh247])
theorem ns176 : ∀ l, hasShareds (encs (c176 true) l) = false := ns_encs (fun x => by simp [c176, hasShareds, hasShared, ns247])
def w_szBlockS_H1 (xA : List Block) (z1 : Int) (z2 : Int) : St := mkSt [(0, (.one (.sl false 176 3 (encs (c176 false) xA)))), (1, (I z1)), (5, (I z2))] []
def w_szBlockS_H2 (z3 : Int) : St := mkSt [(1, (I z3))] []
theorem w_szBlockS_t (xA : List Block) (xLeft : Int) (r : Int) (h : w_szBlockS xA xLeft = some r) : Gives Tryz.prog 77 [.sv (.one (.sl false 176 3 (encs (c176 false) xA))), .sv (I xLeft)] (I r) (List.replicate 2 .gone) := by
 unfold w_szBlockS at h
 refine gives_of Tryz.func77 rfl ?_
 rw [Tryz.ntmps77]
 refine wr (lO 4 (I 0) (lZ (wr (lO 6 (I xLeft) (lO 7 (.one (.sl false 176 3 (encs (c176 false) xA))) (lO 8 (I (ln xA)) (lO 9 (I (sb xLeft (ln xA))) (lO 1 (I (sb xLeft (ln xA))) (lZ ?_))) (st_pure (p_ln (k176 false) xA))))))))
 refine Wp.seq (wr (lO 10 (I (sb xLeft (ln xA))) (lO 11 (B (decide ((sb xLeft (ln xA)) < 0))) (lZ (Wp.c h (fun h => ?_) (fun h => ?_))))))
 ·refine wr ?_
  refine lO 4 (I (-1)) (lZ ?_)
  cases h
  exact Wp.ret ⟨.inr rfl, _, _, rfl, rfl⟩
 refine Wp.skip (Wp.seq (wr (lO 5 (I 0) (lZ (Wp.l2 h [0, 1, 5] [] (fun s => (w_szBlockS_H1 xA s.1 s.2)) [1] [] (fun s => (w_szBlockS_H2 s)) ⟨rfl, rfl⟩ ?_ ?_)))))
 ·rintro ⟨yLeft1, yI1⟩ o (h : w_szBlockS_b1 xA yLeft1 yI1 = some o) hk1
  unfold w_szBlockS_b1 at h
  change Wp _ _ _ (w_szBlockS_H1 xA yLeft1 yI1) _
  refine Wp.seq (wr (lO 12 (I yI1) (lO 13 (.one (.sl false 176 3 (encs (c176 false) xA))) (lO 14 (I (ln xA)) (lO 15 (B (decide (yI1 < (ln xA)))) (lZ (Wp.c h (fun h => ?_) (fun h => ?_)))) (st_pure (p_ln (k176 false) xA))))))
  ·refine Wp.skip ?_
   refine Wp.seq (Wp.block (wr (lO 18 (.one (.sl false 176 3 (encs (c176 false) xA))) (lO 19 (I yI1) (LWp.p h 20 (fun _ => (.one (.ptr (.slot 18) 1 [0] (Int.toNat yI1 * 3 + 0)))) ?_ (fun x1 gx1 => st_pure (p_ix (k176 false) (.slot 18) [] 0 gx1)))))))
   intro x1 gx1 h
   refine lO 21 (.agg [.bool x1.Bad, .int .i64 x1.Wear, .sl false 247 2 (encs c247 x1.Leaves)]) (lO 22 (I yLeft1) (LWp.cl h 23 (fun v1 => (I v1)) rfl (l := [.sv (.agg [.bool x1.Bad, .int .i64 x1.Wear, .sl false 247 2 (encs c247 x1.Leaves)]), .sv (.one (.int .i64 yLeft1))]) rfl (fun v hv => w_szBlock_t x1 yLeft1 v hv) (.inl rfl) ?_)) (st_pure (p_le (k176 false) (.slot 18) [0] gx1))
   intro v1 gv1 h
   refine lO 1 (I v1) (lZ (wr (lO 24 (I v1) (lO 25 (B (decide (v1 < 0))) (lZ (Wp.c h (fun h => ?_) (fun h => ?_)))))))
   ·refine wr ?_
    refine lO 4 (I (-1)) (lZ ?_)
    cases h
    replace h : some _ = some _ := hk1 _ rfl
    cases h
    exact Wp.ret ⟨.inr rfl, _, _, rfl, rfl⟩
   refine Wp.skip (Wp.region (lO 16 (I yI1) (lO 17 (I (ad yI1 1)) (lO 5 (I (ad yI1 1)) (lZ ?_)))))
   cases h
   exact ⟨_, rfl, rfl, rfl⟩
  refine Wp.exit ?_
  cases h
  exact ⟨_, rfl, rfl, rfl⟩
 intro v2 h E hE
 refine nt_wp hE ?_
 change Wp _ _ _ (w_szBlockS_H2 v2) _
 refine wr (lO 26 (I v2) (lO 4 (I v2) (lZ ?_)))
 cases h
 exact Wp.ret ⟨.inr rfl, _, _, rfl, rfl⟩
theorem w_szFlash_t (xA : Flash) (xLeft : Int) (r : Int) (h : w_szFlash xA xLeft = some r) : Gives Tryz.prog 38 [.sv (.agg [.sl false 176 3 (encs (c176 false) xA.Blocks)]), .sv (I xLeft)] (I r) (List.replicate 2 .gone) := by
 unfold w_szFlash at h
 refine gives_of Tryz.func38 rfl ?_
 rw [Tryz.ntmps38]
 refine wr (LWp.b [] 2 [.sl false 176 3 (encs (c176 false) xA.Blocks)] (lO 4 (I 0) (lZ (wr (lO 5 (.one (.ptr (.box 2) 1 [] 0)) (lO 6 (.one (.sl false 176 3 (encs (c176 false) xA.Blocks))) (lO 7 (I xLeft) (LWp.cl h 8 (fun v1 => (I v1)) rfl (l := [.sv (.one (.sl false 176 3 (encs (c176 false) xA.Blocks))), .sv (.one (.int .i64 xLeft))]) rfl (fun v hv => w_szBlockS_t xA.Blocks xLeft v hv) (.inl rfl) ?_))))))))
 intro v1 gv1 h
 refine lO 1 (I v1) (lZ (Wp.seq (wr (lO 9 (I v1) (lO 10 (B (decide (v1 < 0))) (lZ (Wp.c h (fun h => ?_) (fun h => ?_))))))))
 ·refine wr ?_
  refine lO 4 (I (-1)) (lZ ?_)
  cases h
  exact Wp.ret ⟨.inr rfl, _, _, rfl, rfl⟩
 refine Wp.skip (wr (lO 11 (I v1) (lO 4 (I v1) (lZ ?_))))
 cases h
 exact Wp.ret ⟨.inr rfl, _, _, rfl, rfl⟩
def c188 (x : Vol) : List TV := [.int .i64 x.Id, .int .i64 x.Root]
theorem k188 : ∀ x, (c188 x).length = 2 := fun _ => rfl
theorem sh188 : ∀ l, shares (encs c188 l) = encs c188 l := shares_encs (fun _ => rfl)
theorem ns188 : ∀ l, hasShareds (encs c188 l) = false := ns_encs (fun _ => rfl)
theorem w_szVolS_t (xA : List Vol) (xLeft : Int) (r : Int) (h : w_szVolS xA xLeft = some r) : Gives Tryz.prog 78 [.sv (.one (.sl false 188 2 (encs c188 xA))), .sv (I xLeft)] (I r) (List.replicate 2 .gone) := by
 unfold w_szVolS at h
 refine gives_of Tryz.func78 rfl ?_
 rw [Tryz.ntmps78]
 refine wr (lO 4 (I 0) (lZ (wr (lO 5 (I xLeft) (lO 6 (.one (.sl false 188 2 (encs c188 xA))) (lO 7 (I (ln xA)) (lO 8 (I (sb xLeft (ln xA))) (lO 1 (I (sb xLeft (ln xA))) (lZ ?_))) (st_pure (p_ln k188 xA))))))))
 refine Wp.seq (wr (lO 9 (I (sb xLeft (ln xA))) (lO 10 (B (decide ((sb xLeft (ln xA)) < 0))) (lZ (Wp.c h (fun h => ?_) (fun h => ?_))))))
 ·refine wr ?_
  refine lO 4 (I (-1)) (lZ ?_)
  cases h
  exact Wp.ret ⟨.inr rfl, _, _, rfl, rfl⟩
 refine Wp.skip (wr (lO 11 (I (sb xLeft (ln xA))) (lO 4 (I (sb xLeft (ln xA))) (lZ ?_))))
 cases h
 exact Wp.ret ⟨.inr rfl, _, _, rfl, rfl⟩
def c3 (x : Int) : List TV := [.int .i64 x]
theorem k3 : ∀ x, (c3 x).length = 1 := fun _ => rfl
theorem sh3 : ∀ l, shares (encs c3 l) = encs c3 l := shares_encs (fun _ => rfl)
theorem ns3 : ∀ l, hasShareds (encs c3 l) = false := ns_encs (fun _ => rfl)
theorem w_szIntS_t (xA : List Int) (xLeft : Int) (r : Int) (h : w_szIntS xA xLeft = some r) : Gives Tryz.prog 199 [.sv (.one (.sl false 3 1 (encs c3 xA))), .sv (I xLeft)] (I r) (List.replicate 2 .gone) := by
 unfold w_szIntS at h
 refine gives_of Tryz.func199 rfl ?_
 rw [Tryz.ntmps199]
 refine wr (lO 4 (I 0) (lZ (wr (lO 5 (I xLeft) (lO 6 (.one (.sl false 3 1 (encs c3 xA))) (lO 7 (I (ln xA)) (lO 8 (I (sb xLeft (ln xA))) (lO 1 (I (sb xLeft (ln xA))) (lZ ?_))) (st_pure (p_ln k3 xA))))))))
 refine Wp.seq (wr (lO 9 (I (sb xLeft (ln xA))) (lO 10 (B (decide ((sb xLeft (ln xA)) < 0))) (lZ (Wp.c h (fun h => ?_) (fun h => ?_))))))
 ·refine wr ?_
  refine lO 4 (I (-1)) (lZ ?_)
  cases h
  exact Wp.ret ⟨.inr rfl, _, _, rfl, rfl⟩
 refine Wp.skip (wr (lO 11 (I (sb xLeft (ln xA))) (lO 4 (I (sb xLeft (ln xA))) (lZ ?_))))
 cases h
 exact Wp.ret ⟨.inr rfl, _, _, rfl, rfl⟩
theorem w_szKnot_t (xA : Knot) (xLeft : Int) (r : Int) (h : w_szKnot xA xLeft = some r) : Gives Tryz.prog 165 [.sv (.agg [.bool xA.Leaf, .sl false 3 1 (encs c3 xA.Kids)]), .sv (I xLeft)] (I r) (List.replicate 2 .gone) := by
 unfold w_szKnot at h
 refine gives_of Tryz.func165 rfl ?_
 rw [Tryz.ntmps165]
 refine wr (LWp.b [] 2 [.bool xA.Leaf, .sl false 3 1 (encs c3 xA.Kids)] (lO 4 (I 0) (lZ (wr (lO 5 (.one (.ptr (.box 2) 1 [] 1)) (lO 6 (.one (.sl false 3 1 (encs c3 xA.Kids))) (lO 7 (I xLeft) (LWp.cl h 8 (fun v1 => (I v1)) rfl (l := [.sv (.one (.sl false 3 1 (encs c3 xA.Kids))), .sv (.one (.int .i64 xLeft))]) rfl (fun v hv => w_szIntS_t xA.Kids xLeft v hv) (.inl rfl) ?_))))))))
 intro v1 gv1 h
 refine lO 1 (I v1) (lZ (Wp.seq (wr (lO 9 (I v1) (lO 10 (B (decide (v1 < 0))) (lZ (Wp.c h (fun h => ?_) (fun h => ?_))))))))
 ·refine wr ?_
  refine lO 4 (I (-1)) (lZ ?_)
  cases h
  exact Wp.ret ⟨.inr rfl, _, _, rfl, rfl⟩
 refine Wp.skip (wr (lO 11 (I v1) (lO 4 (I v1) (lZ ?_))))
 cases h
 exact Wp.ret ⟨.inr rfl, _, _, rfl, rfl⟩
def c211 (o : Bool) (x : Knot) : List TV := [.bool x.Leaf, .sl o 3 1 (encs c3 x.Kids)]
theorem k211 (o : Bool) : ∀ x, (c211 o x).length = 2 := fun _ => rfl
theorem sh211 : ∀ l, shares (encs (c211 true) l) = encs (c211 false) l := shares_encs (fun x => by simp only [c211, shares, share, sh3])
theorem ns211 : ∀ l, hasShareds (encs (c211 true) l) = false := ns_encs (fun x => by simp [c211, hasShareds, hasShared, ns3])
def w_szKnotS_H1 (xA : List Knot) (z1 : Int) (z2 : Int) : St := mkSt [(0, (.one (.sl false 211 2 (encs (c211 false) xA)))), (1, (I z1)), (5, (I z2))] []
def w_szKnotS_H2 (z3 : Int) : St := mkSt [(1, (I z3))] []
theorem w_szKnotS_t (xA : List Knot) (xLeft : Int) (r : Int) (h : w_szKnotS xA xLeft = some r) : Gives Tryz.prog 118 [.sv (.one (.sl false 211 2 (encs (c211 false) xA))), .sv (I xLeft)] (I r) (List.replicate 2 .gone) := by
 unfold w_szKnotS at h
 refine gives_of Tryz.func118 rfl ?_
 rw [Tryz.ntmps118]
 refine wr (lO 4 (I 0) (lZ (wr (lO 6 (I xLeft) (lO 7 (.one (.sl false 211 2 (encs (c211 false) xA))) (lO 8 (I (ln xA)) (lO 9 (I (sb xLeft (ln xA))) (lO 1 (I (sb xLeft (ln xA))) (lZ ?_))) (st_pure (p_ln (k211 false) xA))))))))
 refine Wp.seq (wr (lO 10 (I (sb xLeft (ln xA))) (lO 11 (B (decide ((sb xLeft (ln xA)) < 0))) (lZ (Wp.c h (fun h => ?_) (fun h => ?_))))))
 ·refine wr ?_
  refine lO 4 (I (-1)) (lZ ?_)
  cases h
  exact Wp.ret ⟨.inr rfl, _, _, rfl, rfl⟩
 refine Wp.skip (Wp.seq (wr (lO 5 (I 0) (lZ (Wp.l2 h [0, 1, 5] [] (fun s => (w_szKnotS_H1 xA s.1 s.2)) [1] [] (fun s => (w_szKnotS_H2 s)) ⟨rfl, rfl⟩ ?_ ?_)))))
 ·rintro ⟨yLeft1, yI1⟩ o (h : w_szKnotS_b1 xA yLeft1 yI1 = some o) hk1
  unfold w_szKnotS_b1 at h
  change Wp _ _ _ (w_szKnotS_H1 xA yLeft1 yI1) _
  refine Wp.seq (wr (lO 12 (I yI1) (lO 13 (.one (.sl false 211 2 (encs (c211 false) xA))) (lO 14 (I (ln xA)) (lO 15 (B (decide (yI1 < (ln xA)))) (lZ (Wp.c h (fun h => ?_) (fun h => ?_)))) (st_pure (p_ln (k211 false) xA))))))
  ·refine Wp.skip ?_
   refine Wp.seq (Wp.block (wr (lO 18 (.one (.sl false 211 2 (encs (c211 false) xA))) (lO 19 (I yI1) (LWp.p h 20 (fun _ => (.one (.ptr (.slot 18) 1 [0] (Int.toNat yI1 * 2 + 0)))) ?_ (fun x1 gx1 => st_pure (p_ix (k211 false) (.slot 18) [] 0 gx1)))))))
   intro x1 gx1 h
   refine lO 21 (.agg [.bool x1.Leaf, .sl false 3 1 (encs c3 x1.Kids)]) (lO 22 (I yLeft1) (LWp.cl h 23 (fun v1 => (I v1)) rfl (l := [.sv (.agg [.bool x1.Leaf, .sl false 3 1 (encs c3 x1.Kids)]), .sv (.one (.int .i64 yLeft1))]) rfl (fun v hv => w_szKnot_t x1 yLeft1 v hv) (.inl rfl) ?_)) (st_pure (p_le (k211 false) (.slot 18) [0] gx1))
   intro v1 gv1 h
   refine lO 1 (I v1) (lZ (wr (lO 24 (I v1) (lO 25 (B (decide (v1 < 0))) (lZ (Wp.c h (fun h => ?_) (fun h => ?_)))))))
   ·refine wr ?_
    refine lO 4 (I (-1)) (lZ ?_)
    cases h
    replace h : some _ = some _ := hk1 _ rfl
    cases h
    exact Wp.ret ⟨.inr rfl, _, _, rfl, rfl⟩
   refine Wp.skip (Wp.region (lO 16 (I yI1) (lO 17 (I (ad yI1 1)) (lO 5 (I (ad yI1 1)) (lZ ?_)))))
   cases h
   exact ⟨_, rfl, rfl, rfl⟩
  refine Wp.exit ?_
  cases h
  exact ⟨_, rfl, rfl, rfl⟩
 intro v2 h E hE
 refine nt_wp hE ?_
 change Wp _ _ _ (w_szKnotS_H2 v2) _
 refine wr (lO 26 (I v2) (lO 4 (I v2) (lZ ?_)))
 cases h
 exact Wp.ret ⟨.inr rfl, _, _, rfl, rfl⟩
theorem w_szArena_t (xA : Arena) (xLeft : Int) (r : Int) (h : w_szArena xA xLeft = some r) : Gives Tryz.prog 79 [.sv (.agg [.sl false 211 2 (encs (c211 false) xA.Knots)]), .sv (I xLeft)] (I r) (List.replicate 2 .gone) := by
 unfold w_szArena at h
 refine gives_of Tryz.func79 rfl ?_
 rw [Tryz.ntmps79]
 refine wr (LWp.b [] 2 [.sl false 211 2 (encs (c211 false) xA.Knots)] (lO 4 (I 0) (lZ (wr (lO 5 (.one (.ptr (.box 2) 1 [] 0)) (lO 6 (.one (.sl false 211 2 (encs (c211 false) xA.Knots))) (lO 7 (I xLeft) (LWp.cl h 8 (fun v1 => (I v1)) rfl (l := [.sv (.one (.sl false 211 2 (encs (c211 false) xA.Knots))), .sv (.one (.int .i64 xLeft))]) rfl (fun v hv => w_szKnotS_t xA.Knots xLeft v hv) (.inl rfl) ?_))))))))
 intro v1 gv1 h
 refine lO 1 (I v1) (lZ (Wp.seq (wr (lO 9 (I v1) (lO 10 (B (decide (v1 < 0))) (lZ (Wp.c h (fun h => ?_) (fun h => ?_))))))))
 ·refine wr ?_
  refine lO 4 (I (-1)) (lZ ?_)
  cases h
  exact Wp.ret ⟨.inr rfl, _, _, rfl, rfl⟩
 refine Wp.skip (wr (lO 11 (I v1) (lO 4 (I v1) (lZ ?_))))
 cases h
 exact Wp.ret ⟨.inr rfl, _, _, rfl, rfl⟩
theorem w_szStore_t (xA : Store) (xLeft : Int) (r : Int) (h : w_szStore xA xLeft = some r) : Gives Tryz.prog 39 [.sv (.agg [.sl false 188 2 (encs c188 xA.Vols), .sl false 211 2 (encs (c211 false) xA.Arena.Knots), .int .i64 xA.Next]), .sv (I xLeft)] (I r) (List.replicate 2 .gone) := by
 unfold w_szStore at h
 refine gives_of Tryz.func39 rfl ?_
 rw [Tryz.ntmps39]
 refine wr (LWp.b [] 2 [.sl false 188 2 (encs c188 xA.Vols), .sl false 211 2 (encs (c211 false) xA.Arena.Knots), .int .i64 xA.Next] (lO 4 (I 0) (lZ (wr (lO 5 (.one (.ptr (.box 2) 1 [] 0)) (lO 6 (.one (.sl false 188 2 (encs c188 xA.Vols))) (lO 7 (I xLeft) (LWp.cl h 8 (fun v1 => (I v1)) rfl (l := [.sv (.one (.sl false 188 2 (encs c188 xA.Vols))), .sv (.one (.int .i64 xLeft))]) rfl (fun v hv => w_szVolS_t xA.Vols xLeft v hv) (.inl rfl) ?_))))))))
 intro v1 gv1 h
 refine lO 1 (I v1) (lZ (Wp.seq (wr (lO 9 (I v1) (lO 10 (B (decide (v1 < 0))) (lZ (Wp.c h (fun h => ?_) (fun h => ?_))))))))
 ·refine wr ?_
  refine lO 4 (I (-1)) (lZ ?_)
  cases h
  exact Wp.ret ⟨.inr rfl, _, _, rfl, rfl⟩
 refine Wp.skip (wr (lO 11 (.one (.ptr (.box 2) 1 [] 1)) (lO 12 (.agg [.sl false 211 2 (encs (c211 false) xA.Arena.Knots)]) (lO 13 (I v1) (LWp.cl h 14 (fun v2 => (I v2)) rfl (l := [.sv (.agg [.sl false 211 2 (encs (c211 false) xA.Arena.Knots)]), .sv (.one (.int .i64 v1))]) rfl (fun v hv => w_szArena_t xA.Arena v1 v hv) (.inl rfl) ?_)))))
 intro v2 gv2 h
 refine lO 1 (I v2) (lZ (Wp.seq (wr (lO 15 (I v2) (lO 16 (B (decide (v2 < 0))) (lZ (Wp.c h (fun h => ?_) (fun h => ?_))))))))
 ·refine wr ?_
  refine lO 4 (I (-1)) (lZ ?_)
  cases h
  exact Wp.ret ⟨.inr rfl, _, _, rfl, rfl⟩
 refine Wp.skip (wr (lO 17 (I v2) (lO 4 (I v2) (lZ ?_))))
 cases h
 exact Wp.ret ⟨.inr rfl, _, _, rfl, rfl⟩
theorem w_szDevice_t (xA : Device) (xLeft : Int) (r : Int) (h : w_szDevice xA xLeft = some r) : Gives Tryz.prog 8 [.sv (.agg [.sl false 176 3 (encs (c176 false) xA.Flash.Blocks), .sl false 188 2 (encs c188 xA.Store.Vols), .sl false 211 2 (encs (c211 false) xA.Store.Arena.Knots), .int .i64 xA.Store.Next, .int .i64 xA.Seq, .int .i64 xA.Tx, .int .i64 xA.Base]), .sv (I xLeft)] (I r) (List.replicate 2 .gone) := by
 unfold w_szDevice at h
 refine gives_of Tryz.func8 rfl ?_
 rw [Tryz.ntmps8]
 refine wr (LWp.b [] 2 [.sl false 176 3 (encs (c176 false) xA.Flash.Blocks), .sl false 188 2 (encs c188 xA.Store.Vols), .sl false 211 2 (encs (c211 false) xA.Store.Arena.Knots), .int .i64 xA.Store.Next, .int .i64 xA.Seq, .int .i64 xA.Tx, .int .i64 xA.Base] (lO 4 (I 0) (lZ (wr (lO 5 (.one (.ptr (.box 2) 1 [] 0)) (lO 6 (.agg [.sl false 176 3 (encs (c176 false) xA.Flash.Blocks)]) (lO 7 (I xLeft) (LWp.cl h 8 (fun v1 => (I v1)) rfl (l := [.sv (.agg [.sl false 176 3 (encs (c176 false) xA.Flash.Blocks)]), .sv (.one (.int .i64 xLeft))]) rfl (fun v hv => w_szFlash_t xA.Flash xLeft v hv) (.inl rfl) ?_))))))))
 intro v1 gv1 h
 refine lO 1 (I v1) (lZ (Wp.seq (wr (lO 9 (I v1) (lO 10 (B (decide (v1 < 0))) (lZ (Wp.c h (fun h => ?_) (fun h => ?_))))))))
 ·refine wr ?_
  refine lO 4 (I (-1)) (lZ ?_)
  cases h
  exact Wp.ret ⟨.inr rfl, _, _, rfl, rfl⟩
 refine Wp.skip (wr (lO 11 (.one (.ptr (.box 2) 1 [] 1)) (lO 12 (.agg [.sl false 188 2 (encs c188 xA.Store.Vols), .sl false 211 2 (encs (c211 false) xA.Store.Arena.Knots), .int .i64 xA.Store.Next]) (lO 13 (I v1) (LWp.cl h 14 (fun v2 => (I v2)) rfl (l := [.sv (.agg [.sl false 188 2 (encs c188 xA.Store.Vols), .sl false 211 2 (encs (c211 false) xA.Store.Arena.Knots), .int .i64 xA.Store.Next]), .sv (.one (.int .i64 v1))]) rfl (fun v hv => w_szStore_t xA.Store v1 v hv) (.inl rfl) ?_)))))
 intro v2 gv2 h
 refine lO 1 (I v2) (lZ (Wp.seq (wr (lO 15 (I v2) (lO 16 (B (decide (v2 < 0))) (lZ (Wp.c h (fun h => ?_) (fun h => ?_))))))))
 ·refine wr ?_
  refine lO 4 (I (-1)) (lZ ?_)
  cases h
  exact Wp.ret ⟨.inr rfl, _, _, rfl, rfl⟩
 refine Wp.skip (wr (lO 17 (I v2) (lO 4 (I v2) (lZ ?_))))
 cases h
 exact Wp.ret ⟨.inr rfl, _, _, rfl, rfl⟩
theorem w_szAsk_t (xA : Ask) (xLeft : Int) (r : Int) (h : w_szAsk xA xLeft = some r) : Gives Tryz.prog 33 [.sv (.agg [.int .i64 xA.Kind, .int .i64 xA.Vol, .int .i64 xA.Sector, .int .i64 xA.Of, .str xA.Text]), .sv (I xLeft)] (I r) (List.replicate 2 .gone) := by
 unfold w_szAsk at h
 refine gives_of Tryz.func33 rfl ?_
 rw [Tryz.ntmps33]
 refine wr (LWp.b [] 2 [.int .i64 xA.Kind, .int .i64 xA.Vol, .int .i64 xA.Sector, .int .i64 xA.Of, .str xA.Text] (lO 4 (I 0) (lZ (wr (lO 5 (I xLeft) (lO 6 (.one (.ptr (.box 2) 1 [] 4)) (lO 7 (Y xA.Text) (lO 8 (I (sln xA.Text)) (lO 9 (I (sb xLeft (sln xA.Text))) ?_)))))))))
 refine lO 1 (I (sb xLeft (sln xA.Text))) (lZ (Wp.seq (wr (lO 10 (I (sb xLeft (sln xA.Text))) (lO 11 (B (decide ((sb xLeft (sln xA.Text)) < 0))) (lZ (Wp.c h (fun h => ?_) (fun h => ?_))))))))
 ·refine wr ?_
  refine lO 4 (I (-1)) (lZ ?_)
  cases h
  exact Wp.ret ⟨.inr rfl, _, _, rfl, rfl⟩
 refine Wp.skip (wr (lO 12 (I (sb xLeft (sln xA.Text))) (lO 4 (I (sb xLeft (sln xA.Text))) (lZ ?_))))
 cases h
 exact Wp.ret ⟨.inr rfl, _, _, rfl, rfl⟩
theorem w_toLeaf_t (xA : Leaf) (r : Leaf) (h : w_toLeaf xA = some r) : Gives Tryz.prog 201 [.sv (.agg [.int .i64 xA.Is, .str xA.Text])] (.agg [.int .i64 r.Is, .str r.Text]) (List.replicate 1 .gone) := by
 unfold w_toLeaf at h
 refine gives_of Tryz.func201 rfl ?_
 rw [Tryz.ntmps201]
 refine wr (LWp.b [] 1 [.int .i64 xA.Is, .str xA.Text] (LWp.b [] 2 [.int .i64 0, .str (bs [])] (lZ (wr (LWp.b [] 3 [.int .i64 0, .str (bs [])] (lZ (wr (lO 4 (.one (.ptr (.box 1) 1 [] 0)) (lO 5 (I xA.Is) ?_)))))))))
 refine lO 6 (.one (.ptr (.box 3) 1 [] 0)) (LWp.s [] (.box 3) [.int .i64 xA.Is, .str (bs [])] (lZ (wr (lO 7 (.one (.ptr (.box 1) 1 [] 1)) (lO 8 (Y xA.Text) (lO 9 (.one (.ptr (.box 3) 1 [] 1)) (LWp.s [] (.box 3) [.int .i64 xA.Is, .str xA.Text] (lZ (wr ?_)))))))))
 refine lO 10 (.agg [.int .i64 xA.Is, .str xA.Text]) (LWp.s [] (.box 2) [.int .i64 xA.Is, .str xA.Text] (lZ ?_))
 cases h
 exact Wp.ret ⟨.inr rfl, _, _, rfl, rfl⟩
def c165 (x : Leaf) : List TV := [.int .i64 x.Is, .str x.Text]
theorem k165 : ∀ x, (c165 x).length = 2 := fun _ => rfl
theorem sh165 : ∀ l, shares (encs c165 l) = encs c165 l := shares_encs (fun _ => rfl)
theorem ns165 : ∀ l, hasShareds (encs c165 l) = false := ns_encs (fun _ => rfl)
def w_toLeafS_H1 (xA : List Leaf) (z1 : List Leaf) (z2 : Int) : St := mkSt [(0, (.one (.sl false 247 2 (encs c247 xA)))), (3, (.one (.sl true 165 2 (encs c165 z1)))), (4, (I z2))] []
def w_toLeafS_H2 (z3 : List Leaf) : St := mkSt [(3, (.one (.sl true 165 2 (encs c165 z3))))] []
theorem w_toLeafS_t (xA : List Leaf) (r : List Leaf) (h : w_toLeafS xA = some r) : Gives Tryz.prog 170 [.sv (.one (.sl false 247 2 (encs c247 xA)))] (.one (.sl true 165 2 (encs c165 r))) (List.replicate 1 .gone) := by
 unfold w_toLeafS at h
 refine gives_of Tryz.func170 rfl ?_
 rw [Tryz.ntmps170]
 refine wr (lO 2 (.one (.sl true 165 2 (encs c165 []))) (lZ (wr (lO 5 (.one (.sl false 247 2 (encs c247 xA))) (lO 6 (I (ln xA)) (LWp.p h 7 (fun q1 => (.one (.sl true 165 2 (encs c165 q1)))) ?_ (fun q1 gq1 => s_mk (f := c165) (Leaf.mk 0 (bs [])) gq1)) (st_pure (p_ln k247 xA)))))))
 intro q1 gq1 h
 refine LWp.m true [(.slot 7, [.junk])] 3 (.one (.sl true 165 2 (encs c165 q1))) (lZ (Wp.seq (wr (lO 4 (I 0) (lZ (Wp.l1 h [0, 3, 4] [] (fun s => (w_toLeafS_H1 xA s.1 s.2)) [3] [] (fun s => (w_toLeafS_H2 s)) ⟨rfl, rfl⟩ ?_ ?_))))))
 ·rintro ⟨yOut1, yI1⟩ o (h : w_toLeafS_b1 xA yOut1 yI1 = some o)
  unfold w_toLeafS_b1 at h
  change Wp _ _ _ (w_toLeafS_H1 xA yOut1 yI1) _
  refine Wp.seq (wr (lO 8 (I yI1) (lO 9 (.one (.sl false 247 2 (encs c247 xA))) (lO 10 (I (ln xA)) (lO 11 (B (decide (yI1 < (ln xA)))) (lZ (Wp.c h (fun h => ?_) (fun h => ?_)))) (st_pure (p_ln k247 xA))))))
  ·refine Wp.skip ?_
   refine Wp.seq (Wp.block (Wp.region (lO 14 (.one (.view (.slot 3) 0 [] 0)) (lO 15 (I yI1) (lO 16 (.one (.sl false 247 2 (encs c247 xA))) (lO 17 (I yI1) (LWp.p h 18 (fun _ => (.one (.ptr (.slot 16) 1 [0] (Int.toNat yI1 * 2 + 0)))) ?_ (fun x1 gx1 => st_pure (p_ix k247 (.slot 16) [] 0 gx1)))))))))
   intro x1 gx1 h
   refine lO 19 (.agg [.int .i64 x1.Is, .str x1.Text]) (LWp.cl h 20 (fun v1 => (.agg [.int .i64 v1.Is, .str v1.Text])) rfl (l := [.sv (.agg [.int .i64 x1.Is, .str x1.Text])]) rfl (fun v hv => w_toLeaf_t x1 v hv) (.inl rfl) ?_) (st_pure (p_le k247 (.slot 16) [0] gx1))
   intro v1 gv1 h
   refine LWp.p h 21 (fun _ => (.one (.ptr (.slot 3) 0 [0] (Int.toNat yI1 * 2 + 0)))) ?_ (fun x2 gx2 => st_pure (p_ix k165 (.slot 3) [] 0 gx2))
   intro x2 gx2 h
   refine LWp.sb [] (.slot 3) [.sl true 165 2 (encs c165 (si yOut1 yI1 v1))] (lZ (Wp.region (lO 12 (I yI1) (lO 13 (I (ad yI1 1)) (lO 4 (I (ad yI1 1)) (lZ ?_)))))) (s_st [] (q := [0]) (cs := [.sl true 165 2 (encs c165 yOut1)]) (xs := [.int .i64 v1.Is, .str v1.Text]) (At.one (setRow_gi k165 (k := 0) (z := v1) gx2 rfl rfl)) (fit_gi k165 (k := 0) gx2 rfl))
   cases h
   exact ⟨_, rfl, rfl, rfl⟩
  refine Wp.exit ?_
  cases h
  exact ⟨_, rfl, rfl, rfl⟩
 intro v2 h E hE
 refine nt_wp hE ?_
 change Wp _ _ _ (w_toLeafS_H2 v2) _
 refine wr (lO 22 (.one (.view (.slot 3) 0 [] 0)) (LWp.m true [(.slot 3, [.junk])] 2 (.one (.sl true 165 2 (encs c165 v2))) (lZ ?_)))
 cases h
 exact Wp.ret ⟨.inr rfl, _, _, rfl, rfl⟩
theorem w_toBlock_t (xA : Block) (r : Block) (h : w_toBlock xA = some r) : Gives Tryz.prog 131 [.sv (.agg [.bool xA.Bad, .int .i64 xA.Wear, .sl false 247 2 (encs c247 xA.Leaves)])] (.agg [.bool r.Bad, .int .i64 r.Wear, .sl true 165 2 (encs c165 r.Leaves)]) (List.replicate 1 .gone) := by
 unfold w_toBlock at h
 refine gives_of Tryz.func131 rfl ?_
 rw [Tryz.ntmps131]
 refine wr (LWp.b [] 1 [.bool xA.Bad, .int .i64 xA.Wear, .sl false 247 2 (encs c247 xA.Leaves)] (LWp.b [] 2 [.bool false, .int .i64 0, .sl true 165 2 (encs c165 [])] (lZ (wr (LWp.b [] 3 [.bool false, .int .i64 0, .sl true 165 2 (encs c165 [])] (lZ (wr (lO 4 (.one (.ptr (.box 1) 1 [] 0)) (lO 5 (B xA.Bad) ?_)))))))))
 refine lO 6 (.one (.ptr (.box 3) 1 [] 0)) (LWp.s [] (.box 3) [.bool xA.Bad, .int .i64 0, .sl true 165 2 (encs c165 [])] (lZ (wr (lO 7 (.one (.ptr (.box 1) 1 [] 1)) (lO 8 (I xA.Wear) (lO 9 (.one (.ptr (.box 3) 1 [] 1)) (LWp.s [] (.box 3) [.bool xA.Bad, .int .i64 xA.Wear, .sl true 165 2 (encs c165 [])] (lZ (wr ?_)))))))))
 refine lO 10 (.one (.ptr (.box 1) 1 [] 2)) (lO 11 (.one (.sl false 247 2 (encs c247 xA.Leaves))) (LWp.cl h 12 (fun v1 => (.one (.sl true 165 2 (encs c165 v1)))) rfl (l := [.sv (.one (.sl false 247 2 (encs c247 xA.Leaves)))]) rfl (fun v hv => w_toLeafS_t xA.Leaves v hv) (.inl rfl) ?_))
 intro v1 gv1 h
 refine lO 13 (.one (.ptr (.box 3) 1 [] 2)) (LWp.sb [(.slot 12, [.junk])] (.box 3) [.bool xA.Bad, .int .i64 xA.Wear, .sl true 165 2 (encs c165 v1)] (lZ (wr (lO 14 (.agg [.bool xA.Bad, .int .i64 xA.Wear, .view (.box 3) 2 [] 2]) (LWp.sb [(.box 3, [.bool xA.Bad, .int .i64 xA.Wear, .junk])] (.box 2) [.bool xA.Bad, .int .i64 xA.Wear, .sl true 165 2 (encs c165 v1)] (lZ ?_))))))
 cases h
 exact Wp.ret ⟨.inr rfl, _, _, rfl, rfl⟩
def c124 (o : Bool) (x : Block) : List TV := [.bool x.Bad, .int .i64 x.Wear, .sl o 165 2 (encs c165 x.Leaves)]
theorem k124 (o : Bool) : ∀ x, (c124 o x).length = 3 := fun _ => rfl
theorem sh124 : ∀ l, shares (encs (c124 true) l) = encs (c124 false) l := shares_encs (fun x => by simp only [c124, shares, share, sh165])
theorem ns124 : ∀ l, hasShareds (encs (c124 true) l) = false := ns_encs (fun x => by simp [c124, hasShareds, hasShared, ns165])
def w_toBlockS_H1 (xA : List Block) (z1 : List Block) (z2 : Int) : St := mkSt [(0, (.one (.sl false 176 3 (encs (c176 false) xA)))), (3, (.one (.sl true 124 3 (encs (c124 true) z1)))), (4, (I z2))] []
def w_toBlockS_H2 (z3 : List Block) : St := mkSt [(3, (.one (.sl true 124 3 (encs (c124 true) z3))))] []
theorem w_toBlockS_t (xA : List Block) (r : List Block) (h : w_toBlockS xA = some r) : Gives Tryz.prog 85 [.sv (.one (.sl false 176 3 (encs (c176 false) xA)))] (.one (.sl true 124 3 (encs (c124 true) r))) (List.replicate 1 .gone) := by
 unfold w_toBlockS at h
 refine gives_of Tryz.func85 rfl ?_
 rw [Tryz.ntmps85]
 refine wr (lO 2 (.one (.sl true 124 3 (encs (c124 true) []))) (lZ (wr (lO 5 (.one (.sl false 176 3 (encs (c176 false) xA))) (lO 6 (I (ln xA)) (LWp.p h 7 (fun q1 => (.one (.sl true 124 3 (encs (c124 true) q1)))) ?_ (fun q1 gq1 => s_mk (f := (c124 true)) (Block.mk false 0 []) gq1)) (st_pure (p_ln (k176 false) xA)))))))
 intro q1 gq1 h
 refine LWp.m true [(.slot 7, [.junk])] 3 (.one (.sl true 124 3 (encs (c124 true) q1))) (lZ (Wp.seq (wr (lO 4 (I 0) (lZ (Wp.l1 h [0, 3, 4] [] (fun s => (w_toBlockS_H1 xA s.1 s.2)) [3] [] (fun s => (w_toBlockS_H2 s)) ⟨rfl, rfl⟩ ?_ ?_))))))
 ·rintro ⟨yOut1, yI1⟩ o (h : w_toBlockS_b1 xA yOut1 yI1 = some o)
  unfold w_toBlockS_b1 at h
  change Wp _ _ _ (w_toBlockS_H1 xA yOut1 yI1) _
  refine Wp.seq (wr (lO 8 (I yI1) (lO 9 (.one (.sl false 176 3 (encs (c176 false) xA))) (lO 10 (I (ln xA)) (lO 11 (B (decide (yI1 < (ln xA)))) (lZ (Wp.c h (fun h => ?_) (fun h => ?_)))) (st_pure (p_ln (k176 false) xA))))))
  ·refine Wp.skip ?_
   refine Wp.seq (Wp.block (Wp.region (lO 14 (.one (.view (.slot 3) 0 [] 0)) (lO 15 (I yI1) (lO 16 (.one (.sl false 176 3 (encs (c176 false) xA))) (lO 17 (I yI1) (LWp.p h 18 (fun _ => (.one (.ptr (.slot 16) 1 [0] (Int.toNat yI1 * 3 + 0)))) ?_ (fun x1 gx1 => st_pure (p_ix (k176 false) (.slot 16) [] 0 gx1)))))))))
   intro x1 gx1 h
   refine lO 19 (.agg [.bool x1.Bad, .int .i64 x1.Wear, .sl false 247 2 (encs c247 x1.Leaves)]) (LWp.cl h 20 (fun v1 => (.agg [.bool v1.Bad, .int .i64 v1.Wear, .sl true 165 2 (encs c165 v1.Leaves)])) rfl (l := [.sv (.agg [.bool x1.Bad, .int .i64 x1.Wear, .sl false 247 2 (encs c247 x1.Leaves)])]) rfl (fun v hv => w_toBlock_t x1 v hv) (.inl rfl) ?_) (st_pure (p_le (k176 false) (.slot 16) [0] gx1))
   intro v1 gv1 h
   refine LWp.p h 21 (fun _ => (.one (.ptr (.slot 3) 0 [0] (Int.toNat yI1 * 3 + 0)))) ?_ (fun x2 gx2 => st_pure (p_ix (k124 true) (.slot 3) [] 0 gx2))
   intro x2 gx2 h
   refine LWp.sb [(.slot 20, [.bool v1.Bad, .int .i64 v1.Wear, .junk])] (.slot 3) [.sl true 124 3 (encs (c124 true) (si yOut1 yI1 v1))] (lZ (Wp.region (lO 12 (I yI1) (lO 13 (I (ad yI1 1)) (lO 4 (I (ad yI1 1)) (lZ ?_)))))) (s_st [(.slot 20, [.bool v1.Bad, .int .i64 v1.Wear, .junk])] (q := [0]) (cs := [.sl true 124 3 (encs (c124 true) yOut1)]) (xs := [.bool v1.Bad, .int .i64 v1.Wear, .sl true 165 2 (encs c165 v1.Leaves)]) (At.one (setRow_gi (k124 true) (k := 0) (z := v1) gx2 rfl rfl)) (fit_gi (k124 true) (k := 0) gx2 rfl))
   cases h
   exact ⟨_, rfl, rfl, rfl⟩
  refine Wp.exit ?_
  cases h
  exact ⟨_, rfl, rfl, rfl⟩
 intro v2 h E hE
 refine nt_wp hE ?_
 change Wp _ _ _ (w_toBlockS_H2 v2) _
 refine wr (lO 22 (.one (.view (.slot 3) 0 [] 0)) (LWp.m true [(.slot 3, [.junk])] 2 (.one (.sl true 124 3 (encs (c124 true) v2))) (lZ ?_)))
 cases h
 exact Wp.ret ⟨.inr rfl, _, _, rfl, rfl⟩
theorem w_toFlash_t (xA : Flash) (r : Flash) (h : w_toFlash xA = some r) : Gives Tryz.prog 42 [.sv (.agg [.sl false 176 3 (encs (c176 false) xA.Blocks)])] (.agg [.sl true 124 3 (encs (c124 true) r.Blocks)]) (List.replicate 1 .gone) := by
 unfold w_toFlash at h
 refine gives_of Tryz.func42 rfl ?_
 rw [Tryz.ntmps42]
 refine wr (LWp.b [] 1 [.sl false 176 3 (encs (c176 false) xA.Blocks)] (LWp.b [] 2 [.sl true 124 3 (encs (c124 true) [])] (lZ (wr (LWp.b [] 3 [.sl true 124 3 (encs (c124 true) [])] (lZ (wr (lO 4 (.one (.ptr (.box 1) 1 [] 0)) (lO 5 (.one (.sl false 176 3 (encs (c176 false) xA.Blocks))) ?_)))))))))
 refine LWp.cl h 6 (fun v1 => (.one (.sl true 124 3 (encs (c124 true) v1)))) rfl (l := [.sv (.one (.sl false 176 3 (encs (c176 false) xA.Blocks)))]) rfl (fun v hv => w_toBlockS_t xA.Blocks v hv) (.inl rfl) ?_
 intro v1 gv1 h
 refine lO 7 (.one (.ptr (.box 3) 1 [] 0)) (LWp.sb [(.slot 6, [.junk])] (.box 3) [.sl true 124 3 (encs (c124 true) v1)] (lZ (wr (lO 8 (.agg [.view (.box 3) 2 [] 0]) (LWp.sb [(.box 3, [.junk])] (.box 2) [.sl true 124 3 (encs (c124 true) v1)] (lZ ?_))))))
 cases h
 exact Wp.ret ⟨.inr rfl, _, _, rfl, rfl⟩
theorem w_toVol_t (xA : Vol) (r : Vol) (h : w_toVol xA = some r) : Gives Tryz.prog 132 [.sv (.agg [.int .i64 xA.Id, .int .i64 xA.Root])] (.agg [.int .i64 r.Id, .int .i64 r.Root]) (List.replicate 1 .gone) := by
 unfold w_toVol at h
 refine gives_of Tryz.func132 rfl ?_
 rw [Tryz.ntmps132]
 refine wr (LWp.b [] 1 [.int .i64 xA.Id, .int .i64 xA.Root] (LWp.b [] 2 [.int .i64 0, .int .i64 0] (lZ (wr (LWp.b [] 3 [.int .i64 0, .int .i64 0] (lZ (wr (lO 4 (.one (.ptr (.box 1) 1 [] 0)) (lO 5 (I xA.Id) ?_)))))))))
 refine lO 6 (.one (.ptr (.box 3) 1 [] 0)) (LWp.s [] (.box 3) [.int .i64 xA.Id, .int .i64 0] (lZ (wr (lO 7 (.one (.ptr (.box 1) 1 [] 1)) (lO 8 (I xA.Root) (lO 9 (.one (.ptr (.box 3) 1 [] 1)) (LWp.s [] (.box 3) [.int .i64 xA.Id, .int .i64 xA.Root] (lZ (wr ?_)))))))))
 refine lO 10 (.agg [.int .i64 xA.Id, .int .i64 xA.Root]) (LWp.s [] (.box 2) [.int .i64 xA.Id, .int .i64 xA.Root] (lZ ?_))
 cases h
 exact Wp.ret ⟨.inr rfl, _, _, rfl, rfl⟩
def c110 (x : Vol) : List TV := [.int .i64 x.Id, .int .i64 x.Root]
theorem k110 : ∀ x, (c110 x).length = 2 := fun _ => rfl
theorem sh110 : ∀ l, shares (encs c110 l) = encs c110 l := shares_encs (fun _ => rfl)
theorem ns110 : ∀ l, hasShareds (encs c110 l) = false := ns_encs (fun _ => rfl)
def w_toVolS_H1 (xA : List Vol) (z1 : List Vol) (z2 : Int) : St := mkSt [(0, (.one (.sl false 188 2 (encs c188 xA)))), (3, (.one (.sl true 110 2 (encs c110 z1)))), (4, (I z2))] []
def w_toVolS_H2 (z3 : List Vol) : St := mkSt [(3, (.one (.sl true 110 2 (encs c110 z3))))] []
theorem w_toVolS_t (xA : List Vol) (r : List Vol) (h : w_toVolS xA = some r) : Gives Tryz.prog 86 [.sv (.one (.sl false 188 2 (encs c188 xA)))] (.one (.sl true 110 2 (encs c110 r))) (List.replicate 1 .gone) := by
 unfold w_toVolS at h
 refine gives_of Tryz.func86 rfl ?_
 rw [Tryz.ntmps86]
 refine wr (lO 2 (.one (.sl true 110 2 (encs c110 []))) (lZ (wr (lO 5 (.one (.sl false 188 2 (encs c188 xA))) (lO 6 (I (ln xA)) (LWp.p h 7 (fun q1 => (.one (.sl true 110 2 (encs c110 q1)))) ?_ (fun q1 gq1 => s_mk (f := c110) (Vol.mk 0 0) gq1)) (st_pure (p_ln k188 xA)))))))
 intro q1 gq1 h
 refine LWp.m true [(.slot 7, [.junk])] 3 (.one (.sl true 110 2 (encs c110 q1))) (lZ (Wp.seq (wr (lO 4 (I 0) (lZ (Wp.l1 h [0, 3, 4] [] (fun s => (w_toVolS_H1 xA s.1 s.2)) [3] [] (fun s => (w_toVolS_H2 s)) ⟨rfl, rfl⟩ ?_ ?_))))))
 ·rintro ⟨yOut1, yI1⟩ o (h : w_toVolS_b1 xA yOut1 yI1 = some o)
  unfold w_toVolS_b1 at h
  change Wp _ _ _ (w_toVolS_H1 xA yOut1 yI1) _
  refine Wp.seq (wr (lO 8 (I yI1) (lO 9 (.one (.sl false 188 2 (encs c188 xA))) (lO 10 (I (ln xA)) (lO 11 (B (decide (yI1 < (ln xA)))) (lZ (Wp.c h (fun h => ?_) (fun h => ?_)))) (st_pure (p_ln k188 xA))))))
  ·refine Wp.skip ?_
   refine Wp.seq (Wp.block (Wp.region (lO 14 (.one (.view (.slot 3) 0 [] 0)) (lO 15 (I yI1) (lO 16 (.one (.sl false 188 2 (encs c188 xA))) (lO 17 (I yI1) (LWp.p h 18 (fun _ => (.one (.ptr (.slot 16) 1 [0] (Int.toNat yI1 * 2 + 0)))) ?_ (fun x1 gx1 => st_pure (p_ix k188 (.slot 16) [] 0 gx1)))))))))
   intro x1 gx1 h
   refine lO 19 (.agg [.int .i64 x1.Id, .int .i64 x1.Root]) (LWp.cl h 20 (fun v1 => (.agg [.int .i64 v1.Id, .int .i64 v1.Root])) rfl (l := [.sv (.agg [.int .i64 x1.Id, .int .i64 x1.Root])]) rfl (fun v hv => w_toVol_t x1 v hv) (.inl rfl) ?_) (st_pure (p_le k188 (.slot 16) [0] gx1))
   intro v1 gv1 h
   refine LWp.p h 21 (fun _ => (.one (.ptr (.slot 3) 0 [0] (Int.toNat yI1 * 2 + 0)))) ?_ (fun x2 gx2 => st_pure (p_ix k110 (.slot 3) [] 0 gx2))
   intro x2 gx2 h
   refine LWp.sb [] (.slot 3) [.sl true 110 2 (encs c110 (si yOut1 yI1 v1))] (lZ (Wp.region (lO 12 (I yI1) (lO 13 (I (ad yI1 1)) (lO 4 (I (ad yI1 1)) (lZ ?_)))))) (s_st [] (q := [0]) (cs := [.sl true 110 2 (encs c110 yOut1)]) (xs := [.int .i64 v1.Id, .int .i64 v1.Root]) (At.one (setRow_gi k110 (k := 0) (z := v1) gx2 rfl rfl)) (fit_gi k110 (k := 0) gx2 rfl))
   cases h
   exact ⟨_, rfl, rfl, rfl⟩
  refine Wp.exit ?_
  cases h
  exact ⟨_, rfl, rfl, rfl⟩
 intro v2 h E hE
 refine nt_wp hE ?_
 change Wp _ _ _ (w_toVolS_H2 v2) _
 refine wr (lO 22 (.one (.view (.slot 3) 0 [] 0)) (LWp.m true [(.slot 3, [.junk])] 2 (.one (.sl true 110 2 (encs c110 v2))) (lZ ?_)))
 cases h
 exact Wp.ret ⟨.inr rfl, _, _, rfl, rfl⟩
def w_toIntS_H1 (xA : List Int) (z1 : List Int) (z2 : Int) : St := mkSt [(0, (.one (.sl false 3 1 (encs c3 xA)))), (3, (.one (.sl true 3 1 (encs c3 z1)))), (4, (I z2))] []
def w_toIntS_H2 (z3 : List Int) : St := mkSt [(3, (.one (.sl true 3 1 (encs c3 z3))))] []
theorem w_toIntS_t (xA : List Int) (r : List Int) (h : w_toIntS xA = some r) : Gives Tryz.prog 202 [.sv (.one (.sl false 3 1 (encs c3 xA)))] (.one (.sl true 3 1 (encs c3 r))) (List.replicate 1 .gone) := by
 unfold w_toIntS at h
 refine gives_of Tryz.func202 rfl ?_
 rw [Tryz.ntmps202]
 refine wr (lO 2 (.one (.sl true 3 1 (encs c3 []))) (lZ (wr (lO 5 (.one (.sl false 3 1 (encs c3 xA))) (lO 6 (I (ln xA)) (LWp.p h 7 (fun q1 => (.one (.sl true 3 1 (encs c3 q1)))) ?_ (fun q1 gq1 => s_mk (f := c3) 0 gq1)) (st_pure (p_ln k3 xA)))))))
 intro q1 gq1 h
 refine LWp.m true [(.slot 7, [.junk])] 3 (.one (.sl true 3 1 (encs c3 q1))) (lZ (Wp.seq (wr (lO 4 (I 0) (lZ (Wp.l1 h [0, 3, 4] [] (fun s => (w_toIntS_H1 xA s.1 s.2)) [3] [] (fun s => (w_toIntS_H2 s)) ⟨rfl, rfl⟩ ?_ ?_))))))
 ·rintro ⟨yOut1, yI1⟩ o (h : w_toIntS_b1 xA yOut1 yI1 = some o)
  unfold w_toIntS_b1 at h
  change Wp _ _ _ (w_toIntS_H1 xA yOut1 yI1) _
  refine Wp.seq (wr (lO 8 (I yI1) (lO 9 (.one (.sl false 3 1 (encs c3 xA))) (lO 10 (I (ln xA)) (lO 11 (B (decide (yI1 < (ln xA)))) (lZ (Wp.c h (fun h => ?_) (fun h => ?_)))) (st_pure (p_ln k3 xA))))))
  ·refine Wp.skip ?_
   refine Wp.seq (Wp.block (Wp.region (lO 14 (.one (.view (.slot 3) 0 [] 0)) (lO 15 (I yI1) (lO 16 (.one (.sl false 3 1 (encs c3 xA))) (lO 17 (I yI1) (LWp.p h 18 (fun _ => (.one (.ptr (.slot 16) 1 [0] (Int.toNat yI1 * 1 + 0)))) ?_ (fun x1 gx1 => st_pure (p_ix k3 (.slot 16) [] 0 gx1)))))))))
   intro x1 gx1 h
   refine lO 19 (I x1) (LWp.p h 20 (fun _ => (.one (.ptr (.slot 3) 0 [0] (Int.toNat yI1 * 1 + 0)))) ?_ (fun x2 gx2 => st_pure (p_ix k3 (.slot 3) [] 0 gx2))) (st_pure (p_lc k3 (.slot 16) [0] 0 (.int .i64 x1) gx1))
   intro x2 gx2 h
   refine LWp.sb [] (.slot 3) [.sl true 3 1 (encs c3 (si yOut1 yI1 x1))] (lZ (Wp.region (lO 12 (I yI1) (lO 13 (I (ad yI1 1)) (lO 4 (I (ad yI1 1)) (lZ ?_)))))) (s_st [] (q := [0]) (cs := [.sl true 3 1 (encs c3 yOut1)]) (xs := [.int .i64 x1]) (At.one (setRow_gi k3 (k := 0) (z := x1) gx2 rfl rfl)) (fit_gi k3 (k := 0) gx2 rfl))
   cases h
   exact ⟨_, rfl, rfl, rfl⟩
  refine Wp.exit ?_
  cases h
  exact ⟨_, rfl, rfl, rfl⟩
 intro v1 h E hE
 refine nt_wp hE ?_
 change Wp _ _ _ (w_toIntS_H2 v1) _
 refine wr (lO 21 (.one (.view (.slot 3) 0 [] 0)) (LWp.m true [(.slot 3, [.junk])] 2 (.one (.sl true 3 1 (encs c3 v1))) (lZ ?_)))
 cases h
 exact Wp.ret ⟨.inr rfl, _, _, rfl, rfl⟩
theorem w_toKnot_t (xA : Knot) (r : Knot) (h : w_toKnot xA = some r) : Gives Tryz.prog 171 [.sv (.agg [.bool xA.Leaf, .sl false 3 1 (encs c3 xA.Kids)])] (.agg [.bool r.Leaf, .sl true 3 1 (encs c3 r.Kids)]) (List.replicate 1 .gone) := by
 unfold w_toKnot at h
 refine gives_of Tryz.func171 rfl ?_
 rw [Tryz.ntmps171]
 refine wr (LWp.b [] 1 [.bool xA.Leaf, .sl false 3 1 (encs c3 xA.Kids)] (LWp.b [] 2 [.bool false, .sl true 3 1 (encs c3 [])] (lZ (wr (LWp.b [] 3 [.bool false, .sl true 3 1 (encs c3 [])] (lZ (wr (lO 4 (.one (.ptr (.box 1) 1 [] 0)) (lO 5 (B xA.Leaf) ?_)))))))))
 refine lO 6 (.one (.ptr (.box 3) 1 [] 0)) (LWp.s [] (.box 3) [.bool xA.Leaf, .sl true 3 1 (encs c3 [])] (lZ (wr (lO 7 (.one (.ptr (.box 1) 1 [] 1)) (lO 8 (.one (.sl false 3 1 (encs c3 xA.Kids))) (LWp.cl h 9 (fun v1 => (.one (.sl true 3 1 (encs c3 v1)))) rfl (l := [.sv (.one (.sl false 3 1 (encs c3 xA.Kids)))]) rfl (fun v hv => w_toIntS_t xA.Kids v hv) (.inl rfl) ?_))))))
 intro v1 gv1 h
 refine lO 10 (.one (.ptr (.box 3) 1 [] 1)) (LWp.sb [(.slot 9, [.junk])] (.box 3) [.bool xA.Leaf, .sl true 3 1 (encs c3 v1)] (lZ (wr (lO 11 (.agg [.bool xA.Leaf, .view (.box 3) 2 [] 1]) (LWp.sb [(.box 3, [.bool xA.Leaf, .junk])] (.box 2) [.bool xA.Leaf, .sl true 3 1 (encs c3 v1)] (lZ ?_))))))
 cases h
 exact Wp.ret ⟨.inr rfl, _, _, rfl, rfl⟩
def c218 (o : Bool) (x : Knot) : List TV := [.bool x.Leaf, .sl o 3 1 (encs c3 x.Kids)]
theorem k218 (o : Bool) : ∀ x, (c218 o x).length = 2 := fun _ => rfl
theorem sh218 : ∀ l, shares (encs (c218 true) l) = encs (c218 false) l := shares_encs (fun x => by simp only [c218, shares, share, sh3])
theorem ns218 : ∀ l, hasShareds (encs (c218 true) l) = false := ns_encs (fun x => by simp [c218, hasShareds, hasShared, ns3])
def w_toKnotS_H1 (xA : List Knot) (z1 : List Knot) (z2 : Int) : St := mkSt [(0, (.one (.sl false 211 2 (encs (c211 false) xA)))), (3, (.one (.sl true 218 2 (encs (c218 true) z1)))), (4, (I z2))] []
def w_toKnotS_H2 (z3 : List Knot) : St := mkSt [(3, (.one (.sl true 218 2 (encs (c218 true) z3))))] []
theorem w_toKnotS_t (xA : List Knot) (r : List Knot) (h : w_toKnotS xA = some r) : Gives Tryz.prog 133 [.sv (.one (.sl false 211 2 (encs (c211 false) xA)))] (.one (.sl true 218 2 (encs (c218 true) r))) (List.replicate 1 .gone) := by
 unfold w_toKnotS at h
 refine gives_of Tryz.func133 rfl ?_
 rw [Tryz.ntmps133]
 refine wr (lO 2 (.one (.sl true 218 2 (encs (c218 true) []))) (lZ (wr (lO 5 (.one (.sl false 211 2 (encs (c211 false) xA))) (lO 6 (I (ln xA)) (LWp.p h 7 (fun q1 => (.one (.sl true 218 2 (encs (c218 true) q1)))) ?_ (fun q1 gq1 => s_mk (f := (c218 true)) (Knot.mk false []) gq1)) (st_pure (p_ln (k211 false) xA)))))))
 intro q1 gq1 h
 refine LWp.m true [(.slot 7, [.junk])] 3 (.one (.sl true 218 2 (encs (c218 true) q1))) (lZ (Wp.seq (wr (lO 4 (I 0) (lZ (Wp.l1 h [0, 3, 4] [] (fun s => (w_toKnotS_H1 xA s.1 s.2)) [3] [] (fun s => (w_toKnotS_H2 s)) ⟨rfl, rfl⟩ ?_ ?_))))))
 ·rintro ⟨yOut1, yI1⟩ o (h : w_toKnotS_b1 xA yOut1 yI1 = some o)
  unfold w_toKnotS_b1 at h
  change Wp _ _ _ (w_toKnotS_H1 xA yOut1 yI1) _
  refine Wp.seq (wr (lO 8 (I yI1) (lO 9 (.one (.sl false 211 2 (encs (c211 false) xA))) (lO 10 (I (ln xA)) (lO 11 (B (decide (yI1 < (ln xA)))) (lZ (Wp.c h (fun h => ?_) (fun h => ?_)))) (st_pure (p_ln (k211 false) xA))))))
  ·refine Wp.skip ?_
   refine Wp.seq (Wp.block (Wp.region (lO 14 (.one (.view (.slot 3) 0 [] 0)) (lO 15 (I yI1) (lO 16 (.one (.sl false 211 2 (encs (c211 false) xA))) (lO 17 (I yI1) (LWp.p h 18 (fun _ => (.one (.ptr (.slot 16) 1 [0] (Int.toNat yI1 * 2 + 0)))) ?_ (fun x1 gx1 => st_pure (p_ix (k211 false) (.slot 16) [] 0 gx1)))))))))
   intro x1 gx1 h
   refine lO 19 (.agg [.bool x1.Leaf, .sl false 3 1 (encs c3 x1.Kids)]) (LWp.cl h 20 (fun v1 => (.agg [.bool v1.Leaf, .sl true 3 1 (encs c3 v1.Kids)])) rfl (l := [.sv (.agg [.bool x1.Leaf, .sl false 3 1 (encs c3 x1.Kids)])]) rfl (fun v hv => w_toKnot_t x1 v hv) (.inl rfl) ?_) (st_pure (p_le (k211 false) (.slot 16) [0] gx1))
   intro v1 gv1 h
   refine LWp.p h 21 (fun _ => (.one (.ptr (.slot 3) 0 [0] (Int.toNat yI1 * 2 + 0)))) ?_ (fun x2 gx2 => st_pure (p_ix (k218 true) (.slot 3) [] 0 gx2))
   intro x2 gx2 h
   refine LWp.sb [(.slot 20, [.bool v1.Leaf, .junk])] (.slot 3) [.sl true 218 2 (encs (c218 true) (si yOut1 yI1 v1))] (lZ (Wp.region (lO 12 (I yI1) (lO 13 (I (ad yI1 1)) (lO 4 (I (ad yI1 1)) (lZ ?_)))))) (s_st [(.slot 20, [.bool v1.Leaf, .junk])] (q := [0]) (cs := [.sl true 218 2 (encs (c218 true) yOut1)]) (xs := [.bool v1.Leaf, .sl true 3 1 (encs c3 v1.Kids)]) (At.one (setRow_gi (k218 true) (k := 0) (z := v1) gx2 rfl rfl)) (fit_gi (k218 true) (k := 0) gx2 rfl))
   cases h
   exact ⟨_, rfl, rfl, rfl⟩
  refine Wp.exit ?_
  cases h
  exact ⟨_, rfl, rfl, rfl⟩
 intro v2 h E hE
 refine nt_wp hE ?_
 change Wp _ _ _ (w_toKnotS_H2 v2) _
 refine wr (lO 22 (.one (.view (.slot 3) 0 [] 0)) (LWp.m true [(.slot 3, [.junk])] 2 (.one (.sl true 218 2 (encs (c218 true) v2))) (lZ ?_)))
 cases h
 exact Wp.ret ⟨.inr rfl, _, _, rfl, rfl⟩
theorem w_toArena_t (xA : Arena) (r : Arena) (h : w_toArena xA = some r) : Gives Tryz.prog 87 [.sv (.agg [.sl false 211 2 (encs (c211 false) xA.Knots)])] (.agg [.sl true 218 2 (encs (c218 true) r.Knots)]) (List.replicate 1 .gone) := by
 unfold w_toArena at h
 refine gives_of Tryz.func87 rfl ?_
 rw [Tryz.ntmps87]
 refine wr (LWp.b [] 1 [.sl false 211 2 (encs (c211 false) xA.Knots)] (LWp.b [] 2 [.sl true 218 2 (encs (c218 true) [])] (lZ (wr (LWp.b [] 3 [.sl true 218 2 (encs (c218 true) [])] (lZ (wr (lO 4 (.one (.ptr (.box 1) 1 [] 0)) (lO 5 (.one (.sl false 211 2 (encs (c211 false) xA.Knots))) ?_)))))))))
 refine LWp.cl h 6 (fun v1 => (.one (.sl true 218 2 (encs (c218 true) v1)))) rfl (l := [.sv (.one (.sl false 211 2 (encs (c211 false) xA.Knots)))]) rfl (fun v hv => w_toKnotS_t xA.Knots v hv) (.inl rfl) ?_
 intro v1 gv1 h
 refine lO 7 (.one (.ptr (.box 3) 1 [] 0)) (LWp.sb [(.slot 6, [.junk])] (.box 3) [.sl true 218 2 (encs (c218 true) v1)] (lZ (wr (lO 8 (.agg [.view (.box 3) 2 [] 0]) (LWp.sb [(.box 3, [.junk])] (.box 2) [.sl true 218 2 (encs (c218 true) v1)] (lZ ?_))))))
 cases h
 exact Wp.ret ⟨.inr rfl, _, _, rfl, rfl⟩
theorem w_toStore_t (xA : Store) (r : Store) (h : w_toStore xA = some r) : Gives Tryz.prog 43 [.sv (.agg [.sl false 188 2 (encs c188 xA.Vols), .sl false 211 2 (encs (c211 false) xA.Arena.Knots), .int .i64 xA.Next])] (.agg [.sl true 110 2 (encs c110 r.Vols), .sl true 218 2 (encs (c218 true) r.Arena.Knots), .int .i64 r.Next]) (List.replicate 1 .gone) := by
 unfold w_toStore at h
 refine gives_of Tryz.func43 rfl ?_
 rw [Tryz.ntmps43]
 refine wr (LWp.b [] 1 [.sl false 188 2 (encs c188 xA.Vols), .sl false 211 2 (encs (c211 false) xA.Arena.Knots), .int .i64 xA.Next] (LWp.b [] 2 [.sl true 110 2 (encs c110 []), .sl true 218 2 (encs (c218 true) []), .int .i64 0] (lZ (wr (LWp.b [] 3 [.sl true 110 2 (encs c110 []), .sl true 218 2 (encs (c218 true) []), .int .i64 0] (lZ (wr (lO 4 (.one (.ptr (.box 1) 1 [] 0)) (lO 5 (.one (.sl false 188 2 (encs c188 xA.Vols))) ?_)))))))))
 refine LWp.cl h 6 (fun v1 => (.one (.sl true 110 2 (encs c110 v1)))) rfl (l := [.sv (.one (.sl false 188 2 (encs c188 xA.Vols)))]) rfl (fun v hv => w_toVolS_t xA.Vols v hv) (.inl rfl) ?_
 intro v1 gv1 h
 refine lO 7 (.one (.ptr (.box 3) 1 [] 0)) (LWp.sb [(.slot 6, [.junk])] (.box 3) [.sl true 110 2 (encs c110 v1), .sl true 218 2 (encs (c218 true) []), .int .i64 0] (lZ (wr (lO 8 (.one (.ptr (.box 1) 1 [] 1)) (lO 9 (.agg [.sl false 211 2 (encs (c211 false) xA.Arena.Knots)]) (LWp.cl h 10 (fun v2 => (.agg [.sl true 218 2 (encs (c218 true) v2.Knots)])) rfl (l := [.sv (.agg [.sl false 211 2 (encs (c211 false) xA.Arena.Knots)])]) rfl (fun v hv => w_toArena_t xA.Arena v hv) (.inl rfl) ?_))))))
 intro v2 gv2 h
 refine lO 11 (.one (.ptr (.box 3) 1 [] 1)) (LWp.sb [(.slot 10, [.junk])] (.box 3) [.sl true 110 2 (encs c110 v1), .sl true 218 2 (encs (c218 true) v2.Knots), .int .i64 0] (lZ (wr (lO 12 (.one (.ptr (.box 1) 1 [] 2)) (lO 13 (I xA.Next) (lO 14 (.one (.ptr (.box 3) 1 [] 2)) (LWp.s [] (.box 3) [.sl true 110 2 (encs c110 v1), .sl true 218 2 (encs (c218 true) v2.Knots), .int .i64 xA.Next] (lZ (wr ?_)))))))))
 refine lO 15 (.agg [.view (.box 3) 3 [] 0, .view (.box 3) 3 [] 1, .int .i64 xA.Next]) (LWp.sb [(.box 3, [.junk, .sl true 218 2 (encs (c218 true) v2.Knots), .int .i64 xA.Next]), (.box 3, [.junk, .junk, .int .i64 xA.Next])] (.box 2) [.sl true 110 2 (encs c110 v1), .sl true 218 2 (encs (c218 true) v2.Knots), .int .i64 xA.Next] (lZ ?_))
 cases h
 exact Wp.ret ⟨.inr rfl, _, _, rfl, rfl⟩
theorem w_toDevice_t (xA : Device) (r : Device) (h : w_toDevice xA = some r) : Gives Tryz.prog 11 [.sv (.agg [.sl false 176 3 (encs (c176 false) xA.Flash.Blocks), .sl false 188 2 (encs c188 xA.Store.Vols), .sl false 211 2 (encs (c211 false) xA.Store.Arena.Knots), .int .i64 xA.Store.Next, .int .i64 xA.Seq, .int .i64 xA.Tx, .int .i64 xA.Base])] (.agg [.sl true 124 3 (encs (c124 true) r.Flash.Blocks), .sl true 110 2 (encs c110 r.Store.Vols), .sl true 218 2 (encs (c218 true) r.Store.Arena.Knots), .int .i64 r.Store.Next, .int .i64 r.Seq, .int .i64 r.Tx, .int .i64 r.Base]) (List.replicate 1 .gone) := by
 unfold w_toDevice at h
 refine gives_of Tryz.func11 rfl ?_
 rw [Tryz.ntmps11]
 refine wr (LWp.b [] 1 [.sl false 176 3 (encs (c176 false) xA.Flash.Blocks), .sl false 188 2 (encs c188 xA.Store.Vols), .sl false 211 2 (encs (c211 false) xA.Store.Arena.Knots), .int .i64 xA.Store.Next, .int .i64 xA.Seq, .int .i64 xA.Tx, .int .i64 xA.Base] (LWp.b [] 2 [.sl true 124 3 (encs (c124 true) []), .sl true 110 2 (encs c110 []), .sl true 218 2 (encs (c218 true) []), .int .i64 0, .int .i64 0, .int .i64 0, .int .i64 0] (lZ (wr (LWp.b [] 3 [.sl true 124 3 (encs (c124 true) []), .sl true 110 2 (encs c110 []), .sl true 218 2 (encs (c218 true) []), .int .i64 0, .int .i64 0, .int .i64 0, .int .i64 0] (lZ (wr (lO 4 (.one (.ptr (.box 1) 1 [] 0)) (lO 5 (.agg [.sl false 176 3 (encs (c176 false) xA.Flash.Blocks)]) ?_)))))))))
 refine LWp.cl h 6 (fun v1 => (.agg [.sl true 124 3 (encs (c124 true) v1.Blocks)])) rfl (l := [.sv (.agg [.sl false 176 3 (encs (c176 false) xA.Flash.Blocks)])]) rfl (fun v hv => w_toFlash_t xA.Flash v hv) (.inl rfl) ?_
 intro v1 gv1 h
 refine lO 7 (.one (.ptr (.box 3) 1 [] 0)) (LWp.sb [(.slot 6, [.junk])] (.box 3) [.sl true 124 3 (encs (c124 true) v1.Blocks), .sl true 110 2 (encs c110 []), .sl true 218 2 (encs (c218 true) []), .int .i64 0, .int .i64 0, .int .i64 0, .int .i64 0] (lZ (wr (lO 8 (.one (.ptr (.box 1) 1 [] 1)) (lO 9 (.agg [.sl false 188 2 (encs c188 xA.Store.Vols), .sl false 211 2 (encs (c211 false) xA.Store.Arena.Knots), .int .i64 xA.Store.Next]) (LWp.cl h 10 (fun v2 => (.agg [.sl true 110 2 (encs c110 v2.Vols), .sl true 218 2 (encs (c218 true) v2.Arena.Knots), .int .i64 v2.Next])) rfl (l := [.sv (.agg [.sl false 188 2 (encs c188 xA.Store.Vols), .sl false 211 2 (encs (c211 false) xA.Store.Arena.Knots), .int .i64 xA.Store.Next])]) rfl (fun v hv => w_toStore_t xA.Store v hv) (.inl rfl) ?_))))))
 intro v2 gv2 h
 refine lO 11 (.one (.ptr (.box 3) 1 [] 1)) (LWp.sb [(.slot 10, [.junk, .sl true 218 2 (encs (c218 true) v2.Arena.Knots), .int .i64 v2.Next]), (.slot 10, [.junk, .junk, .int .i64 v2.Next])] (.box 3) [.sl true 124 3 (encs (c124 true) v1.Blocks), .sl true 110 2 (encs c110 v2.Vols), .sl true 218 2 (encs (c218 true) v2.Arena.Knots), .int .i64 v2.Next, .int .i64 0, .int .i64 0, .int .i64 0] (lZ (wr (lO 12 (.one (.ptr (.box 1) 1 [] 4)) (lO 13 (I xA.Seq) (lO 14 (.one (.ptr (.box 3) 1 [] 4)) (LWp.s [] (.box 3) [.sl true 124 3 (encs (c124 true) v1.Blocks), .sl true 110 2 (encs c110 v2.Vols), .sl true 218 2 (encs (c218 true) v2.Arena.Knots), .int .i64 v2.Next, .int .i64 xA.Seq, .int .i64 0, .int .i64 0] (lZ (wr ?_)))))))))
 refine lO 15 (.one (.ptr (.box 1) 1 [] 5)) (lO 16 (I xA.Tx) (lO 17 (.one (.ptr (.box 3) 1 [] 5)) (LWp.s [] (.box 3) [.sl true 124 3 (encs (c124 true) v1.Blocks), .sl true 110 2 (encs c110 v2.Vols), .sl true 218 2 (encs (c218 true) v2.Arena.Knots), .int .i64 v2.Next, .int .i64 xA.Seq, .int .i64 xA.Tx, .int .i64 0] (lZ (wr (lO 18 (.one (.ptr (.box 1) 1 [] 6)) (lO 19 (I xA.Base) (lO 20 (.one (.ptr (.box 3) 1 [] 6)) (LWp.s [] (.box 3) [.sl true 124 3 (encs (c124 true) v1.Blocks), .sl true 110 2 (encs c110 v2.Vols), .sl true 218 2 (encs (c218 true) v2.Arena.Knots), .int .i64 v2.Next, .int .i64 xA.Seq, .int .i64 xA.Tx, .int .i64 xA.Base] ?_)))))))))
 refine lZ (wr (lO 21 (.agg [.view (.box 3) 3 [] 0, .view (.box 3) 3 [] 1, .view (.box 3) 3 [] 2, .int .i64 v2.Next, .int .i64 xA.Seq, .int .i64 xA.Tx, .int .i64 xA.Base]) (LWp.sb [(.box 3, [.junk, .sl true 110 2 (encs c110 v2.Vols), .sl true 218 2 (encs (c218 true) v2.Arena.Knots), .int .i64 v2.Next, .int .i64 xA.Seq, .int .i64 xA.Tx, .int .i64 xA.Base]), (.box 3, [.junk, .junk, .sl true 218 2 (encs (c218 true) v2.Arena.Knots), .int .i64 v2.Next, .int .i64 xA.Seq, .int .i64 xA.Tx, .int .i64 xA.Base]), (.box 3, [.junk, .junk, .junk, .int .i64 v2.Next, .int .i64 xA.Seq, .int .i64 xA.Tx, .int .i64 xA.Base])] (.box 2) [.sl true 124 3 (encs (c124 true) v1.Blocks), .sl true 110 2 (encs c110 v2.Vols), .sl true 218 2 (encs (c218 true) v2.Arena.Knots), .int .i64 v2.Next, .int .i64 xA.Seq, .int .i64 xA.Tx, .int .i64 xA.Base] (lZ ?_))))
 cases h
 exact Wp.ret ⟨.inr rfl, _, _, rfl, rfl⟩
theorem w_toAsk_t (xA : Ask) (r : Ask) (h : w_toAsk xA = some r) : Gives Tryz.prog 35 [.sv (.agg [.int .i64 xA.Kind, .int .i64 xA.Vol, .int .i64 xA.Sector, .int .i64 xA.Of, .str xA.Text])] (.agg [.int .i64 r.Kind, .int .i64 r.Vol, .int .i64 r.Sector, .int .i64 r.Of, .str r.Text]) (List.replicate 1 .gone) := by
 unfold w_toAsk at h
 refine gives_of Tryz.func35 rfl ?_
 rw [Tryz.ntmps35]
 refine wr (LWp.b [] 1 [.int .i64 xA.Kind, .int .i64 xA.Vol, .int .i64 xA.Sector, .int .i64 xA.Of, .str xA.Text] (LWp.b [] 2 [.int .i64 0, .int .i64 0, .int .i64 0, .int .i64 0, .str (bs [])] (lZ (wr (LWp.b [] 3 [.int .i64 0, .int .i64 0, .int .i64 0, .int .i64 0, .str (bs [])] (lZ (wr (lO 4 (.one (.ptr (.box 1) 1 [] 0)) (lO 5 (I xA.Kind) ?_)))))))))
 refine lO 6 (.one (.ptr (.box 3) 1 [] 0)) (LWp.s [] (.box 3) [.int .i64 xA.Kind, .int .i64 0, .int .i64 0, .int .i64 0, .str (bs [])] (lZ (wr (lO 7 (.one (.ptr (.box 1) 1 [] 1)) (lO 8 (I xA.Vol) (lO 9 (.one (.ptr (.box 3) 1 [] 1)) (LWp.s [] (.box 3) [.int .i64 xA.Kind, .int .i64 xA.Vol, .int .i64 0, .int .i64 0, .str (bs [])] (lZ (wr ?_)))))))))
 refine lO 10 (.one (.ptr (.box 1) 1 [] 2)) (lO 11 (I xA.Sector) (lO 12 (.one (.ptr (.box 3) 1 [] 2)) (LWp.s [] (.box 3) [.int .i64 xA.Kind, .int .i64 xA.Vol, .int .i64 xA.Sector, .int .i64 0, .str (bs [])] (lZ (wr (lO 13 (.one (.ptr (.box 1) 1 [] 3)) (lO 14 (I xA.Of) (lO 15 (.one (.ptr (.box 3) 1 [] 3)) (LWp.s [] (.box 3) [.int .i64 xA.Kind, .int .i64 xA.Vol, .int .i64 xA.Sector, .int .i64 xA.Of, .str (bs [])] ?_)))))))))
 refine lZ (wr (lO 16 (.one (.ptr (.box 1) 1 [] 4)) (lO 17 (Y xA.Text) (lO 18 (.one (.ptr (.box 3) 1 [] 4)) (LWp.s [] (.box 3) [.int .i64 xA.Kind, .int .i64 xA.Vol, .int .i64 xA.Sector, .int .i64 xA.Of, .str xA.Text] (lZ (wr (lO 19 (.agg [.int .i64 xA.Kind, .int .i64 xA.Vol, .int .i64 xA.Sector, .int .i64 xA.Of, .str xA.Text]) (LWp.s [] (.box 2) [.int .i64 xA.Kind, .int .i64 xA.Vol, .int .i64 xA.Sector, .int .i64 xA.Of, .str xA.Text] ?_)))))))))
 refine lZ ?_
 cases h
 exact Wp.ret ⟨.inr rfl, _, _, rfl, rfl⟩
theorem s_l01In_t (xX : Int) (xLeast : Int) (xMost : Int) (r : Bool) (h : s_l01In xX xLeast xMost = some r) : Gives Tryz.prog 84 [.sv (I xX), .sv (I xLeast), .sv (I xMost)] (B r) (List.replicate 3 .gone) := by
 unfold s_l01In at h
 refine gives_of Tryz.func84 rfl ?_
 rw [Tryz.ntmps84]
 refine wr (lO 6 (B false) (lZ (wr (lO 7 (I xX) (lO 8 (I xLeast) (lO 9 (B (decide (xX ≥ xLeast))) (lO 10 (B (decide (xX ≥ xLeast))) (LWp.sp h 10 (fun h => ?_) (fun h => ?_)))))))))
 ·refine lO 11 (I xX) ?_
  refine lO 12 (I xMost) (lO 13 (B (decide (xX ≤ xMost))) (lO 14 (B (decide (xX ≤ xMost))) (lO 6 (B (decide (xX ≤ xMost))) (lZ ?_))))
  cases h
  exact Wp.ret ⟨.inr rfl, _, _, rfl, rfl⟩
 refine lH 11 (lH 12 (lH 13 (lO 14 (B false) (lO 6 (B false) (lZ ?_)))))
 cases h
 exact Wp.ret ⟨.inr rfl, _, _, rfl, rfl⟩
def s_AskOk_H1 (xQ : Ask) (z1 : Bool) : St := mkSt [(1, (.one (.ptr (.box 1) 0 [] 0))), (28, (B z1))] [(.box 1, [.int .i64 xQ.Kind, .int .i64 xQ.Vol, .int .i64 xQ.Sector, .int .i64 xQ.Of, .str xQ.Text])]
def s_AskOk_H2 (z2 : Bool) : St := mkSt [(2, (B z2))] []
def s_AskOk_H3 (xQ : Ask) (z3 : Bool) : St := mkSt [(1, (.one (.ptr (.box 1) 0 [] 0))), (50, (B z3))] [(.box 1, [.int .i64 xQ.Kind, .int .i64 xQ.Vol, .int .i64 xQ.Sector, .int .i64 xQ.Of, .str xQ.Text])]
theorem s_AskOk_t (xQ : Ask) (r : Bool) (h : s_AskOk xQ = some r) : Gives Tryz.prog 68 [.sv (.agg [.int .i64 xQ.Kind, .int .i64 xQ.Vol, .int .i64 xQ.Sector, .int .i64 xQ.Of, .str xQ.Text])] (B r) (List.replicate 1 .gone) := by
 unfold s_AskOk at h
 refine gives_of Tryz.func68 rfl ?_
 rw [Tryz.ntmps68]
 refine wr (LWp.b [] 1 [.int .i64 xQ.Kind, .int .i64 xQ.Vol, .int .i64 xQ.Sector, .int .i64 xQ.Of, .str xQ.Text] (lO 2 (B false) (lZ (Wp.seq (Wp.seq (Wp.j1 h [1, 28] [.box 1] (fun a => (s_AskOk_H1 xQ a)) ?_ ?_))))))
 ·intro a h
  refine Wp.region (lO 3 (.one (.ptr (.box 1) 1 [] 0)) (lO 4 (I xQ.Kind) (LWp.cl h 5 (fun v1 => (B v1)) rfl (l := [.sv (.one (.int .i64 xQ.Kind)), .sv (.one (.int .i64 1)), .sv (.one (.int .i64 6))]) rfl (fun v hv => s_l01In_t xQ.Kind 1 6 v hv) (.inl rfl) ?_)))
  intro v1 gv1 h
  refine lO 6 (B (!v1)) (lO 7 (B (!v1)) (LWp.sp h 7 (fun h => ?_) (fun h => ?_)))
  ·refine lH 8 ?_
   refine lH 9 (lH 10 (lH 11 (lO 12 (B true) (lO 13 (B true) (lH 14 (lH 15 (lH 16 (lH 17 (lO 18 (B true) ?_)))))))))
   refine lO 19 (B true) (lH 20 (lH 21 (lH 22 (lH 23 (lH 24 (lH 25 (lH 26 (lH 27 (lO 28 (B true) ?_)))))))))
   refine lZ ?_
   cases h
   exact ⟨_, rfl, rfl, rfl⟩
  refine lO 8 (.one (.ptr (.box 1) 1 [] 1)) (lO 9 (I xQ.Vol) (LWp.cl h 10 (fun v2 => (B v2)) rfl (l := [.sv (.one (.int .i64 xQ.Vol)), .sv (.one (.int .i64 1)), .sv (.one (.int .i64 9))]) rfl (fun v hv => s_l01In_t xQ.Vol 1 9 v hv) (.inl rfl) ?_))
  intro v2 gv2 h
  refine lO 11 (B (!v2)) (lO 12 (B (!v2)) (lO 13 (B (!v2)) (LWp.sp h 13 (fun h => ?_) (fun h => ?_))))
  ·refine lH 14 ?_
   refine lH 15 (lH 16 (lH 17 (lO 18 (B true) (lO 19 (B true) (lH 20 (lH 21 (lH 22 (lH 23 (lH 24 ?_)))))))))
   refine lH 25 (lH 26 (lH 27 (lO 28 (B true) (lZ ?_))))
   cases h
   exact ⟨_, rfl, rfl, rfl⟩
  refine lO 14 (.one (.ptr (.box 1) 1 [] 4)) (lO 15 (Y xQ.Text) (lO 16 (I (sln xQ.Text)) (lO 17 (B (decide ((sln xQ.Text) > 64))) (lO 18 (B (decide ((sln xQ.Text) > 64))) (lO 19 (B (decide ((sln xQ.Text) > 64))) (LWp.sp h 19 (fun h => ?_) (fun h => ?_)))))))
  ·refine lH 20 ?_
   refine lH 21 (lH 22 (lH 23 (lH 24 (lH 25 (lH 26 (lH 27 (lO 28 (B true) (lZ ?_))))))))
   cases h
   exact ⟨_, rfl, rfl, rfl⟩
  refine lO 20 (.one (.ptr (.box 1) 1 [] 0)) (lO 21 (I xQ.Kind) (lO 22 (B (xQ.Kind != 1)) (lO 23 (B (xQ.Kind != 1)) (LWp.sp h 23 (fun h => ?_) (fun h => ?_)))))
  ·refine lO 24 (.one (.ptr (.box 1) 1 [] 4)) ?_
   refine lO 25 (Y xQ.Text) (lO 26 (B (!(seq xQ.Text (bs [])))) (lO 27 (B (!(seq xQ.Text (bs [])))) (lO 28 (B (!(seq xQ.Text (bs [])))) (lZ ?_))))
   cases h
   exact ⟨_, rfl, rfl, rfl⟩
  refine lH 24 (lH 25 (lH 26 (lO 27 (B false) (lO 28 (B false) (lZ ?_)))))
  cases h
  exact ⟨_, rfl, rfl, rfl⟩
 intro j1 h E hE
 refine nt_wp hE ?_
 change Wp _ _ _ (s_AskOk_H1 xQ j1) _
 refine Wp.c h (fun h => ?_) (fun h => ?_)
 ·refine wr ?_
  refine lO 2 (B false) (lZ ?_)
  cases h
  exact Wp.ret ⟨.inr rfl, _, _, rfl, rfl⟩
 refine Wp.skip (Wp.seq (wr (lO 29 (.one (.ptr (.box 1) 0 [] 0)) (lO 30 (I xQ.Kind) (lO 31 (B (xQ.Kind == 4)) (lZ (Wp.c h (fun h => ?_) (fun h => ?_))))))))
 ·refine Wp.seq ?_
  refine Wp.j1 h [2] [] (fun a => (s_AskOk_H2 a)) ?_ ?_
  ·intro a h
   refine Wp.region (lO 32 (.one (.ptr (.box 1) 0 [] 2)) (lO 33 (I xQ.Sector) (lO 34 (B (xQ.Sector == 0)) (lO 35 (B (xQ.Sector == 0)) (LWp.sp h 35 (fun h => ?_) (fun h => ?_))))))
   ·refine lO 36 (.one (.ptr (.box 1) 0 [] 3)) ?_
    refine lO 37 (I xQ.Of) (LWp.cl h 38 (fun v3 => (B v3)) rfl (l := [.sv (.one (.int .i64 xQ.Of)), .sv (.one (.int .i64 1)), .sv (.one (.int .i64 9))]) rfl (fun v hv => s_l01In_t xQ.Of 1 9 v hv) (.inl rfl) ?_)
    intro v3 gv3 h
    refine lO 39 (B v3) (lO 2 (B v3) (lZ ?_))
    cases h
    exact ⟨_, rfl, rfl, rfl⟩
   refine lH 36 (lH 37 (lH 38 (lO 39 (B false) (lO 2 (B false) (lZ ?_)))))
   cases h
   exact ⟨_, rfl, rfl, rfl⟩
  intro j2 h E hE
  refine nt_wp hE ?_
  change Wp _ _ _ (s_AskOk_H2 j2) _
  cases h
  exact Wp.ret ⟨.inr rfl, _, _, rfl, rfl⟩
 refine Wp.skip (Wp.seq (wr (lO 40 (.one (.ptr (.box 1) 0 [] 3)) (lO 41 (I xQ.Of) (lO 42 (B (xQ.Of != 0)) (lZ (Wp.c h (fun h => ?_) (fun h => ?_))))))))
 ·refine wr ?_
  refine lO 2 (B false) (lZ ?_)
  cases h
  exact Wp.ret ⟨.inr rfl, _, _, rfl, rfl⟩
 refine Wp.skip (Wp.seq (Wp.seq (Wp.j1 h [1, 50] [.box 1] (fun a => (s_AskOk_H3 xQ a)) ?_ ?_)))
 ·intro a h
  refine Wp.region (lO 43 (.one (.ptr (.box 1) 0 [] 0)) (lO 44 (I xQ.Kind) (lO 45 (B (xQ.Kind == 3)) (lO 46 (B (xQ.Kind == 3)) (LWp.sp h 46 (fun h => ?_) (fun h => ?_))))))
  ·refine lH 47 ?_
   refine lH 48 (lH 49 (lO 50 (B true) (lZ ?_)))
   cases h
   exact ⟨_, rfl, rfl, rfl⟩
  refine lO 47 (.one (.ptr (.box 1) 0 [] 0)) (lO 48 (I xQ.Kind) (lO 49 (B (xQ.Kind == 5)) (lO 50 (B (xQ.Kind == 5)) (lZ ?_))))
  cases h
  exact ⟨_, rfl, rfl, rfl⟩
 intro j3 h E hE
 refine nt_wp hE ?_
 change Wp _ _ _ (s_AskOk_H3 xQ j3) _
 refine Wp.c h (fun h => ?_) (fun h => ?_)
 ·refine wr ?_
  refine lO 51 (.one (.ptr (.box 1) 0 [] 2)) (lO 52 (I xQ.Sector) (lO 53 (B (xQ.Sector == 0)) (lO 2 (B (xQ.Sector == 0)) (lZ ?_))))
  cases h
  exact Wp.ret ⟨.inr rfl, _, _, rfl, rfl⟩
 refine Wp.skip (wr (lO 54 (.one (.ptr (.box 1) 0 [] 2)) (lO 55 (I xQ.Sector) (LWp.cl h 56 (fun v4 => (B v4)) rfl (l := [.sv (.one (.int .i64 xQ.Sector)), .sv (.one (.int .i64 0)), .sv (.one (.int .i64 15))]) rfl (fun v hv => s_l01In_t xQ.Sector 0 15 v hv) (.inl rfl) ?_))))
 intro v4 gv4 h
 refine lO 2 (B v4) (lZ ?_)
 cases h
 exact Wp.ret ⟨.inr rfl, _, _, rfl, rfl⟩
def s_l12At_H1 (xS : Store) (xId : Int) (z1 : Int) : St := mkSt [(1, (I xId)), (2, (.one (.ptr (.box 2) 0 [] 0))), (5, (I z1))] [(.box 2, [.sl false 110 2 (encs c110 xS.Vols), .sl false 218 2 (encs (c218 false) xS.Arena.Knots), .int .i64 xS.Next])]
def s_l12At_H2  : St := mkSt [] []
theorem s_l12At_t (xS : Store) (xId : Int) (r : Int) (h : s_l12At xS xId = some r) : Gives Tryz.prog 69 [.sv (.agg [.sl false 110 2 (encs c110 xS.Vols), .sl false 218 2 (encs (c218 false) xS.Arena.Knots), .int .i64 xS.Next]), .sv (I xId)] (I r) (List.replicate 2 .gone) := by
 unfold s_l12At at h
 refine gives_of Tryz.func69 rfl ?_
 rw [Tryz.ntmps69]
 refine wr (LWp.b [] 2 [.sl false 110 2 (encs c110 xS.Vols), .sl false 218 2 (encs (c218 false) xS.Arena.Knots), .int .i64 xS.Next] (lO 4 (I 0) (lZ (Wp.seq (wr (lO 5 (I 0) (lZ (Wp.l2 h [1, 2, 5] [.box 2] (fun s => (s_l12At_H1 xS xId s)) [] [] (fun _ => s_l12At_H2) ⟨rfl, rfl⟩ ?_ ?_))))))))
 ·rintro yI1 o (h : s_l12At_b1 xS xId yI1 = some o) hk1
  unfold s_l12At_b1 at h
  change Wp _ _ _ (s_l12At_H1 xS xId yI1) _
  refine Wp.seq (wr (lO 6 (I yI1) (lO 7 (.one (.ptr (.box 2) 0 [] 0)) (lO 8 (.one (.sl false 110 2 (encs c110 xS.Vols))) (lO 9 (I (ln xS.Vols)) (lO 10 (B (decide (yI1 < (ln xS.Vols)))) (lZ (Wp.c h (fun h => ?_) (fun h => ?_)))) (st_pure (p_ln k110 xS.Vols)))))))
  ·refine Wp.skip ?_
   refine Wp.seq (Wp.block (wr (lO 13 (.one (.ptr (.box 2) 0 [] 0)) (lO 14 (.one (.sl false 110 2 (encs c110 xS.Vols))) (lO 15 (I yI1) (LWp.p h 16 (fun _ => (.one (.ptr (.slot 14) 1 [0] (Int.toNat yI1 * 2 + 0)))) ?_ (fun x1 gx1 => st_pure (p_ix k110 (.slot 14) [] 0 gx1))))))))
   intro x1 gx1 h
   refine lO 17 (.one (.ptr (.slot 14) 1 [0] (Int.toNat yI1 * 2 + 0))) (lO 18 (I x1.Id) (lO 19 (I xId) (lO 20 (B (x1.Id == xId)) (lZ (Wp.c h (fun h => ?_) (fun h => ?_))))) (st_pure (p_lc k110 (.slot 14) [0] 0 (.int .i64 x1.Id) gx1))) (st_pure (p_fa k110 (.slot 14) [0] 0 gx1))
   ·refine wr ?_
    refine lO 21 (I yI1) (lO 4 (I yI1) (lZ ?_))
    cases h
    replace h : some _ = some _ := hk1 _ rfl
    cases h
    exact Wp.ret ⟨.inr rfl, _, _, rfl, rfl⟩
   refine Wp.skip (Wp.region (lO 11 (I yI1) (lO 12 (I (ad yI1 1)) (lO 5 (I (ad yI1 1)) (lZ ?_)))))
   cases h
   exact ⟨_, rfl, rfl, rfl⟩
  refine Wp.exit ?_
  cases h
  exact ⟨_, rfl, rfl, rfl⟩
 intro v1 h E hE
 refine nt_wp hE ?_
 change Wp _ _ _ s_l12At_H2 _
 refine wr (lO 4 (I (-1)) (lZ ?_))
 cases h
 exact Wp.ret ⟨.inr rfl, _, _, rfl, rfl⟩
def s_ArenaOk_H1 (xA : Arena) (z1 : Int) : St := mkSt [(1, (.one (.ptr (.box 1) 0 [] 0))), (3, (I z1))] [(.box 1, [.sl false 218 2 (encs (c218 false) xA.Knots)])]
def s_ArenaOk_H2  : St := mkSt [] []
def s_ArenaOk_H3 (xA : Arena) (yI1 : Int) (x1 : Knot) (z2 : Int) : St := mkSt [(1, (.one (.ptr (.box 1) 0 [] 0))), (3, (I yI1)), (4, (.one (.ptr (.box 4) 0 [] 0))), (5, (I z2))] [(.box 1, [.sl false 218 2 (encs (c218 false) xA.Knots)]), (.box 4, [.bool x1.Leaf, .sl false 3 1 (encs c3 x1.Kids)])]
def s_ArenaOk_H4 (xA : Arena) (yI1 : Int) : St := mkSt [(1, (.one (.ptr (.box 1) 0 [] 0))), (3, (I yI1))] [(.box 1, [.sl false 218 2 (encs (c218 false) xA.Knots)])]
def s_ArenaOk_H5 (xA : Arena) (yI1 : Int) (x1 : Knot) (yK1 : Int) (z3 : Bool) : St := mkSt [(1, (.one (.ptr (.box 1) 0 [] 0))), (3, (I yI1)), (4, (.one (.ptr (.box 4) 0 [] 0))), (5, (I yK1)), (62, (B z3))] [(.box 1, [.sl false 218 2 (encs (c218 false) xA.Knots)]), (.box 4, [.bool x1.Leaf, .sl false 3 1 (encs c3 x1.Kids)])]
theorem s_ArenaOk_t (xA : Arena) (r : Bool) (h : s_ArenaOk xA = some r) : Gives Tryz.prog 179 [.sv (.agg [.sl false 218 2 (encs (c218 false) xA.Knots)])] (B r) (List.replicate 1 .gone) := by
 unfold s_ArenaOk at h
 refine gives_of Tryz.func179 rfl ?_
 rw [Tryz.ntmps179]
 refine wr (LWp.b [] 1 [.sl false 218 2 (encs (c218 false) xA.Knots)] (lO 2 (B false) (lZ (Wp.seq (wr (lO 3 (I 0) (lZ (Wp.l2 h [1, 3] [.box 1] (fun s => (s_ArenaOk_H1 xA s)) [] [] (fun _ => s_ArenaOk_H2) ⟨rfl, rfl⟩ ?_ ?_))))))))
 ·rintro yI1 o (h : s_ArenaOk_b1 xA yI1 = some o) hk1
  unfold s_ArenaOk_b1 at h
  change Wp _ _ _ (s_ArenaOk_H1 xA yI1) _
  refine Wp.seq (wr (lO 7 (I yI1) (lO 8 (.one (.ptr (.box 1) 0 [] 0)) (lO 9 (.one (.sl false 218 2 (encs (c218 false) xA.Knots))) (lO 10 (I (ln xA.Knots)) (lO 11 (B (decide (yI1 < (ln xA.Knots)))) (lZ (Wp.c h (fun h => ?_) (fun h => ?_)))) (st_pure (p_ln (k218 false) xA.Knots)))))))
  ·refine Wp.skip ?_
   refine Wp.seq (Wp.block (wr (lO 14 (.one (.ptr (.box 1) 0 [] 0)) (lO 15 (.one (.sl false 218 2 (encs (c218 false) xA.Knots))) (lO 16 (I yI1) (LWp.p h 17 (fun _ => (.one (.ptr (.slot 15) 1 [0] (Int.toNat yI1 * 2 + 0)))) ?_ (fun x1 gx1 => st_pure (p_ix (k218 false) (.slot 15) [] 0 gx1))))))))
   intro x1 gx1 h
   refine lO 18 (.agg [.bool x1.Leaf, .sl false 3 1 (encs c3 x1.Kids)]) (LWp.b [] 4 [.bool false, .sl true 3 1 (encs c3 [])] (LWp.sb [] (.box 4) [.bool x1.Leaf, .sl false 3 1 (encs c3 x1.Kids)] (lZ (Wp.seq (wr (lO 19 (.one (.ptr (.box 4) 1 [] 1)) (lO 20 (.one (.sl false 3 1 (encs c3 x1.Kids))) (lO 21 (I (ln x1.Kids)) (lO 22 (B ((ln x1.Kids) != 4)) ?_) (st_pure (p_ln k3 x1.Kids)))))))))) (st_pure (p_le (k218 false) (.slot 15) [0] gx1))
   refine lZ (Wp.c h (fun h => ?_) (fun h => ?_))
   ·refine wr ?_
    refine lO 2 (B false) (lZ ?_)
    cases h
    replace h : some _ = some _ := hk1 _ rfl
    cases h
    exact Wp.ret ⟨.inr rfl, _, _, rfl, rfl⟩
   refine Wp.skip (wr (lO 5 (I 0) (lZ (Wp.l2 h [1, 3, 4, 5] [.box 1, .box 4] (fun s => (s_ArenaOk_H3 xA yI1 x1 s)) [1, 3] [.box 1] (fun _ => (s_ArenaOk_H4 xA yI1)) ⟨rfl, rfl⟩ ?_ ?_))))
   ·rintro yK1 o (h : s_ArenaOk_b2 xA yI1 x1 yK1 = some o) hk2
    unfold s_ArenaOk_b2 at h
    change Wp _ _ _ (s_ArenaOk_H3 xA yI1 x1 yK1) _
    refine Wp.seq (wr (lO 23 (I yK1) (lO 24 (B (decide (yK1 < 4))) (lZ (Wp.c h (fun h => ?_) (fun h => ?_))))))
    ·refine Wp.skip ?_
     refine Wp.seq (Wp.block (wr (lO 27 (.one (.ptr (.box 4) 0 [] 1)) (lO 28 (.one (.sl false 3 1 (encs c3 x1.Kids))) (lO 29 (I yK1) (LWp.p h 30 (fun _ => (.one (.ptr (.slot 28) 1 [0] (Int.toNat yK1 * 1 + 0)))) ?_ (fun x2 gx2 => st_pure (p_ix k3 (.slot 28) [] 0 gx2))))))))
     intro x2 gx2 h
     refine lO 31 (I x2) (lO 6 (I x2) (lZ (Wp.seq (Wp.j1 h [1, 3, 4, 5, 62] [.box 1, .box 4] (fun a => (s_ArenaOk_H5 xA yI1 x1 yK1 a)) ?_ ?_)))) (st_pure (p_lc k3 (.slot 28) [0] 0 (.int .i64 x2) gx2))
     ·intro a h
      refine Wp.region (lO 32 (.one (.ptr (.box 4) 0 [] 0)) (lO 33 (B x1.Leaf) (lO 34 (B x1.Leaf) (LWp.sp h 34 (fun h => ?_) (fun h => ?_)))))
      ·refine lO 35 (I x2) ?_
       refine lO 36 (B (decide (x2 < 0))) (lO 37 (B (decide (x2 < 0))) (lO 38 (B (decide (x2 < 0))) (LWp.sp h 38 (fun h => ?_) (fun h => ?_))))
       ·refine lH 39 ?_
        refine lH 40 (lH 41 (lH 42 (lH 43 (lH 44 (lH 45 (lH 46 (lH 47 (lH 48 (lH 49 ?_)))))))))
        refine lH 50 (lH 51 (lH 52 (lH 53 (lH 54 (lH 55 (lH 56 (lH 57 (lH 58 (lH 59 ?_)))))))))
        refine lH 60 (lH 61 (lO 62 (B true) (lZ ?_)))
        cases h
        exact ⟨_, rfl, rfl, rfl⟩
       refine lO 39 (.one (.ptr (.box 4) 0 [] 0)) (lO 40 (B x1.Leaf) (lO 41 (B (!x1.Leaf)) (lO 42 (B (!x1.Leaf)) (LWp.sp h 42 (fun h => ?_) (fun h => ?_)))))
       ·refine lO 43 (I x2) ?_
        refine lO 44 (B (x2 != (-1))) (lO 45 (B (x2 != (-1))) (lO 46 (B (x2 != (-1))) (LWp.sp h 46 (fun h => ?_) (fun h => ?_))))
        ·refine lO 47 (I x2) ?_
         refine lO 48 (I yI1) (lO 49 (I (sb yI1 1)) (LWp.cl h 50 (fun v1 => (B v1)) rfl (l := [.sv (.one (.int .i64 x2)), .sv (.one (.int .i64 0)), .sv (.one (.int .i64 (sb yI1 1)))]) rfl (fun v hv => s_l01In_t x2 0 (sb yI1 1) v hv) (.inl rfl) ?_))
         intro v1 gv1 h
         refine lO 51 (B (!v1)) (lO 52 (B (!v1)) (LWp.sp h 52 (fun h => ?_) (fun h => ?_)))
         ·refine lH 53 ?_
          refine lH 54 (lH 55 (lH 56 (lH 57 (lH 58 (lH 59 (lO 60 (B true) (lO 61 (B true) (lO 62 (B true) (lZ ?_)))))))))
          cases h
          exact ⟨_, rfl, rfl, rfl⟩
         refine lO 53 (.one (.ptr (.box 1) 0 [] 0)) (lO 54 (.one (.sl false 218 2 (encs (c218 false) xA.Knots))) (lO 55 (I x2) (LWp.p h 56 (fun _ => (.one (.ptr (.slot 54) 1 [0] (Int.toNat x2 * 2 + 0)))) ?_ (fun x3 gx3 => st_pure (p_ix (k218 false) (.slot 54) [] 0 gx3)))))
         intro x3 gx3 h
         refine lO 57 (.one (.ptr (.slot 54) 1 [0] (Int.toNat x2 * 2 + 0))) (lO 58 (B x3.Leaf) (lO 59 (B (!x3.Leaf)) (lO 60 (B (!x3.Leaf)) (lO 61 (B (!x3.Leaf)) (lO 62 (B (!x3.Leaf)) (lZ ?_))))) (st_pure (p_lc (k218 false) (.slot 54) [0] 0 (.bool x3.Leaf) gx3))) (st_pure (p_fa (k218 false) (.slot 54) [0] 0 gx3))
         cases h
         exact ⟨_, rfl, rfl, rfl⟩
        refine lH 47 (lH 48 (lH 49 (lH 50 (lH 51 (lH 52 (lH 53 (lH 54 (lH 55 (lH 56 ?_)))))))))
        refine lH 57 (lH 58 (lH 59 (lH 60 (lO 61 (B false) (lO 62 (B false) (lZ ?_))))))
        cases h
        exact ⟨_, rfl, rfl, rfl⟩
       refine lH 43 (lH 44 (lO 45 (B false) (lO 46 (B false) (lH 47 (lH 48 (lH 49 (lH 50 (lH 51 (lH 52 ?_)))))))))
       refine lH 53 (lH 54 (lH 55 (lH 56 (lH 57 (lH 58 (lH 59 (lH 60 (lO 61 (B false) (lO 62 (B false) ?_)))))))))
       refine lZ ?_
       cases h
       exact ⟨_, rfl, rfl, rfl⟩
      refine lH 35 (lH 36 (lO 37 (B false) (lO 38 (B false) (lO 39 (.one (.ptr (.box 4) 0 [] 0)) (lO 40 (B x1.Leaf) (lO 41 (B (!x1.Leaf)) (lO 42 (B (!x1.Leaf)) (LWp.sp h 42 (fun h => ?_) (fun h => ?_)))))))))
      ·refine lO 43 (I x2) ?_
       refine lO 44 (B (x2 != (-1))) (lO 45 (B (x2 != (-1))) (lO 46 (B (x2 != (-1))) (LWp.sp h 46 (fun h => ?_) (fun h => ?_))))
       ·refine lO 47 (I x2) ?_
        refine lO 48 (I yI1) (lO 49 (I (sb yI1 1)) (LWp.cl h 50 (fun v2 => (B v2)) rfl (l := [.sv (.one (.int .i64 x2)), .sv (.one (.int .i64 0)), .sv (.one (.int .i64 (sb yI1 1)))]) rfl (fun v hv => s_l01In_t x2 0 (sb yI1 1) v hv) (.inl rfl) ?_))
        intro v2 gv2 h
        refine lO 51 (B (!v2)) (lO 52 (B (!v2)) (LWp.sp h 52 (fun h => ?_) (fun h => ?_)))
        ·refine lH 53 ?_
         refine lH 54 (lH 55 (lH 56 (lH 57 (lH 58 (lH 59 (lO 60 (B true) (lO 61 (B true) (lO 62 (B true) (lZ ?_)))))))))
         cases h
         exact ⟨_, rfl, rfl, rfl⟩
        refine lO 53 (.one (.ptr (.box 1) 0 [] 0)) (lO 54 (.one (.sl false 218 2 (encs (c218 false) xA.Knots))) (lO 55 (I x2) (LWp.p h 56 (fun _ => (.one (.ptr (.slot 54) 1 [0] (Int.toNat x2 * 2 + 0)))) ?_ (fun x4 gx4 => st_pure (p_ix (k218 false) (.slot 54) [] 0 gx4)))))
        intro x4 gx4 h
        refine lO 57 (.one (.ptr (.slot 54) 1 [0] (Int.toNat x2 * 2 + 0))) (lO 58 (B x4.Leaf) (lO 59 (B (!x4.Leaf)) (lO 60 (B (!x4.Leaf)) (lO 61 (B (!x4.Leaf)) (lO 62 (B (!x4.Leaf)) (lZ ?_))))) (st_pure (p_lc (k218 false) (.slot 54) [0] 0 (.bool x4.Leaf) gx4))) (st_pure (p_fa (k218 false) (.slot 54) [0] 0 gx4))
        cases h
        exact ⟨_, rfl, rfl, rfl⟩
       refine lH 47 (lH 48 (lH 49 (lH 50 (lH 51 (lH 52 (lH 53 (lH 54 (lH 55 (lH 56 ?_)))))))))
       refine lH 57 (lH 58 (lH 59 (lH 60 (lO 61 (B false) (lO 62 (B false) (lZ ?_))))))
       cases h
       exact ⟨_, rfl, rfl, rfl⟩
      refine lH 43 (lH 44 (lO 45 (B false) (lO 46 (B false) (lH 47 (lH 48 (lH 49 (lH 50 (lH 51 (lH 52 ?_)))))))))
      refine lH 53 (lH 54 (lH 55 (lH 56 (lH 57 (lH 58 (lH 59 (lH 60 (lO 61 (B false) (lO 62 (B false) ?_)))))))))
      refine lZ ?_
      cases h
      exact ⟨_, rfl, rfl, rfl⟩
     intro j1 h E hE
     refine nt_wp hE ?_
     change Wp _ _ _ (s_ArenaOk_H5 xA yI1 x1 yK1 j1) _
     refine Wp.c h (fun h => ?_) (fun h => ?_)
     ·refine wr ?_
      refine lO 2 (B false) (lZ ?_)
      cases h
      replace h : some _ = some _ := hk2 _ rfl
      cases h
      replace h : some _ = some _ := hk1 _ rfl
      cases h
      exact Wp.ret ⟨.inr rfl, _, _, rfl, rfl⟩
     refine Wp.skip (Wp.region (lO 25 (I yK1) (lO 26 (I (ad yK1 1)) (lO 5 (I (ad yK1 1)) (lZ ?_)))))
     cases h
     exact ⟨_, rfl, rfl, rfl⟩
    refine Wp.exit ?_
    cases h
    exact ⟨_, rfl, rfl, rfl⟩
   intro v3 h E hE
   refine nt_wp hE ?_
   change Wp _ _ _ (s_ArenaOk_H4 xA yI1) _
   refine Wp.region (lO 12 (I yI1) (lO 13 (I (ad yI1 1)) (lO 3 (I (ad yI1 1)) (lZ ?_))))
   cases h
   exact ⟨_, rfl, rfl, rfl⟩
  refine Wp.exit ?_
  cases h
  exact ⟨_, rfl, rfl, rfl⟩
 intro v4 h E hE
 refine nt_wp hE ?_
 change Wp _ _ _ s_ArenaOk_H2 _
 refine wr (lO 2 (B true) (lZ ?_))
 cases h
 exact Wp.ret ⟨.inr rfl, _, _, rfl, rfl⟩
theorem s_l11Root_t (xA : Arena) (xRoot : Int) (r : Bool) (h : s_l11Root xA xRoot = some r) : Gives Tryz.prog 180 [.sv (.agg [.sl false 218 2 (encs (c218 false) xA.Knots)]), .sv (I xRoot)] (B r) (List.replicate 2 .gone) := by
 unfold s_l11Root at h
 refine gives_of Tryz.func180 rfl ?_
 rw [Tryz.ntmps180]
 refine wr (LWp.b [] 2 [.sl false 218 2 (encs (c218 false) xA.Knots)] (lO 4 (B false) (lZ (wr (lO 5 (I xRoot) (lO 6 (B (xRoot == (-1))) (lO 7 (B (xRoot == (-1))) (LWp.sp h 7 (fun h => ?_) (fun h => ?_)))))))))
 ·refine lH 8 ?_
  refine lH 9 (lH 10 (lH 11 (lH 12 (lH 13 (lH 14 (lH 15 (lH 16 (lH 17 (lH 18 ?_)))))))))
  refine lH 19 (lH 20 (lH 21 (lH 22 (lO 23 (B true) (lO 4 (B true) (lZ ?_))))))
  cases h
  exact Wp.ret ⟨.inr rfl, _, _, rfl, rfl⟩
 refine lO 8 (I xRoot) (lO 9 (.one (.ptr (.box 2) 1 [] 0)) (lO 10 (.one (.sl false 218 2 (encs (c218 false) xA.Knots))) (lO 11 (I (ln xA.Knots)) (lO 12 (I (sb (ln xA.Knots) 1)) (LWp.cl h 13 (fun v1 => (B v1)) rfl (l := [.sv (.one (.int .i64 xRoot)), .sv (.one (.int .i64 0)), .sv (.one (.int .i64 (sb (ln xA.Knots) 1)))]) rfl (fun v hv => s_l01In_t xRoot 0 (sb (ln xA.Knots) 1) v hv) (.inl rfl) ?_)) (st_pure (p_ln (k218 false) xA.Knots)))))
 intro v1 gv1 h
 refine lO 14 (B v1) (LWp.sp h 14 (fun h => ?_) (fun h => ?_))
 ·refine lO 15 (.one (.ptr (.box 2) 1 [] 0)) ?_
  refine lO 16 (.one (.sl false 218 2 (encs (c218 false) xA.Knots))) (lO 17 (I xRoot) (LWp.p h 18 (fun _ => (.one (.ptr (.slot 16) 1 [0] (Int.toNat xRoot * 2 + 0)))) ?_ (fun x1 gx1 => st_pure (p_ix (k218 false) (.slot 16) [] 0 gx1))))
  intro x1 gx1 h
  refine lO 19 (.one (.ptr (.slot 16) 1 [0] (Int.toNat xRoot * 2 + 0))) (lO 20 (B x1.Leaf) (lO 21 (B (!x1.Leaf)) (lO 22 (B (!x1.Leaf)) (lO 23 (B (!x1.Leaf)) (lO 4 (B (!x1.Leaf)) (lZ ?_))))) (st_pure (p_lc (k218 false) (.slot 16) [0] 0 (.bool x1.Leaf) gx1))) (st_pure (p_fa (k218 false) (.slot 16) [0] 0 gx1))
  cases h
  exact Wp.ret ⟨.inr rfl, _, _, rfl, rfl⟩
 refine lH 15 (lH 16 (lH 17 (lH 18 (lH 19 (lH 20 (lH 21 (lO 22 (B false) (lO 23 (B false) (lO 4 (B false) ?_)))))))))
 refine lZ ?_
 cases h
 exact Wp.ret ⟨.inr rfl, _, _, rfl, rfl⟩
theorem s_l11Get_t (xA : Arena) (xRoot : Int) (xSector : Int) (r : Int) (h : s_l11Get xA xRoot xSector = some r) : Gives Tryz.prog 181 [.sv (.agg [.sl false 218 2 (encs (c218 false) xA.Knots)]), .sv (I xRoot), .sv (I xSector)] (I r) (List.replicate 3 .gone) := by
 unfold s_l11Get at h
 refine gives_of Tryz.func181 rfl ?_
 rw [Tryz.ntmps181]
 refine wr (LWp.b [] 3 [.sl false 218 2 (encs (c218 false) xA.Knots)] (lO 6 (I 0) (lZ (Wp.seq (wr (lO 8 (I xRoot) (lO 9 (B (decide (xRoot < 0))) (lZ (Wp.c h (fun h => ?_) (fun h => ?_))))))))))
 ·refine wr ?_
  refine lO 6 (I 0) (lZ ?_)
  cases h
  exact Wp.ret ⟨.inr rfl, _, _, rfl, rfl⟩
 refine Wp.skip (wr (lO 10 (.one (.ptr (.box 3) 1 [] 0)) (lO 11 (.one (.sl false 218 2 (encs (c218 false) xA.Knots))) (lO 12 (I xRoot) (LWp.p h 13 (fun _ => (.one (.ptr (.slot 11) 1 [0] (Int.toNat xRoot * 2 + 0)))) ?_ (fun x1 gx1 => st_pure (p_ix (k218 false) (.slot 11) [] 0 gx1)))))))
 intro x1 gx1 h
 refine lO 14 (.one (.ptr (.slot 11) 1 [0] (Int.toNat xRoot * 2 + 1))) (lO 15 (.one (.sl false 3 1 (encs c3 x1.Kids))) (lO 16 (I xSector) (lO 17 (I (qu xSector 4)) (LWp.p h 18 (fun _ => (.one (.ptr (.slot 15) 1 [0] (Int.toNat (qu xSector 4) * 1 + 0)))) ?_ (fun x2 gx2 => st_pure (p_ix k3 (.slot 15) [] 0 gx2))))) (st_pure (p_lc (k218 false) (.slot 11) [0] 1 (.sl false 3 1 (encs c3 x1.Kids)) gx1))) (st_pure (p_fa (k218 false) (.slot 11) [0] 0 gx1))
 intro x2 gx2 h
 refine lO 19 (I x2) (lO 7 (I x2) (lZ (Wp.seq (wr (lO 20 (I x2) (lO 21 (B (decide (x2 < 0))) (lZ (Wp.c h (fun h => ?_) (fun h => ?_))))))))) (st_pure (p_lc k3 (.slot 15) [0] 0 (.int .i64 x2) gx2))
 ·refine wr ?_
  refine lO 6 (I 0) (lZ ?_)
  cases h
  exact Wp.ret ⟨.inr rfl, _, _, rfl, rfl⟩
 refine Wp.skip (wr (lO 22 (.one (.ptr (.box 3) 1 [] 0)) (lO 23 (.one (.sl false 218 2 (encs (c218 false) xA.Knots))) (lO 24 (I x2) (LWp.p h 25 (fun _ => (.one (.ptr (.slot 23) 1 [0] (Int.toNat x2 * 2 + 0)))) ?_ (fun x3 gx3 => st_pure (p_ix (k218 false) (.slot 23) [] 0 gx3)))))))
 intro x3 gx3 h
 refine lO 26 (.one (.ptr (.slot 23) 1 [0] (Int.toNat x2 * 2 + 1))) (lO 27 (.one (.sl false 3 1 (encs c3 x3.Kids))) (lO 28 (I xSector) (lO 29 (I (Int.tmod xSector 4)) (LWp.p h 30 (fun _ => (.one (.ptr (.slot 27) 1 [0] (Int.toNat (Int.tmod xSector 4) * 1 + 0)))) ?_ (fun x4 gx4 => st_pure (p_ix k3 (.slot 27) [] 0 gx4))))) (st_pure (p_lc (k218 false) (.slot 23) [0] 1 (.sl false 3 1 (encs c3 x3.Kids)) gx3))) (st_pure (p_fa (k218 false) (.slot 23) [0] 0 gx3))
 intro x4 gx4 h
 refine lO 31 (I x4) (lO 6 (I x4) (lZ ?_)) (st_pure (p_lc k3 (.slot 27) [0] 0 (.int .i64 x4) gx4))
 cases h
 exact Wp.ret ⟨.inr rfl, _, _, rfl, rfl⟩
def s_GetAt_H1 (xA : Arena) (xRoot : Int) (xSector : Int) (z1 : Bool) : St := mkSt [(1, (I xRoot)), (2, (I xSector)), (3, (.one (.ptr (.box 3) 0 [] 0))), (20, (B z1))] [(.box 3, [.sl false 218 2 (encs (c218 false) xA.Knots)])]
theorem s_GetAt_t (xA : Arena) (xRoot : Int) (xSector : Int) (r : Int) (h : s_GetAt xA xRoot xSector = some r) : Gives Tryz.prog 150 [.sv (.agg [.sl false 218 2 (encs (c218 false) xA.Knots)]), .sv (I xRoot), .sv (I xSector)] (I r) (List.replicate 3 .gone) := by
 unfold s_GetAt at h
 refine gives_of Tryz.func150 rfl ?_
 rw [Tryz.ntmps150]
 refine wr (LWp.b [] 3 [.sl false 218 2 (encs (c218 false) xA.Knots)] (lO 6 (I 0) (lZ (Wp.seq (Wp.seq (Wp.j1 h [1, 2, 3, 20] [.box 3] (fun a => (s_GetAt_H1 xA xRoot xSector a)) ?_ ?_))))))
 ·intro a h
  refine Wp.region (lO 7 (.agg [.sl false 218 2 (encs (c218 false) xA.Knots)]) (LWp.cl h 8 (fun v1 => (B v1)) rfl (l := [.sv (.agg [.sl false 218 2 (encs (c218 false) xA.Knots)])]) rfl (fun v hv => s_ArenaOk_t xA v hv) (.inl rfl) ?_))
  intro v1 gv1 h
  refine lO 9 (B (!v1)) (lO 10 (B (!v1)) (LWp.sp h 10 (fun h => ?_) (fun h => ?_)))
  ·refine lH 11 ?_
   refine lH 12 (lH 13 (lH 14 (lO 15 (B true) (lO 16 (B true) (lH 17 (lH 18 (lH 19 (lO 20 (B true) (lZ ?_)))))))))
   cases h
   exact ⟨_, rfl, rfl, rfl⟩
  refine lO 11 (.agg [.sl false 218 2 (encs (c218 false) xA.Knots)]) (lO 12 (I xRoot) (LWp.cl h 13 (fun v2 => (B v2)) rfl (l := [.sv (.agg [.sl false 218 2 (encs (c218 false) xA.Knots)]), .sv (.one (.int .i64 xRoot))]) rfl (fun v hv => s_l11Root_t xA xRoot v hv) (.inl rfl) ?_))
  intro v2 gv2 h
  refine lO 14 (B (!v2)) (lO 15 (B (!v2)) (lO 16 (B (!v2)) (LWp.sp h 16 (fun h => ?_) (fun h => ?_))))
  ·refine lH 17 ?_
   refine lH 18 (lH 19 (lO 20 (B true) (lZ ?_)))
   cases h
   exact ⟨_, rfl, rfl, rfl⟩
  refine lO 17 (I xSector) (LWp.cl h 18 (fun v3 => (B v3)) rfl (l := [.sv (.one (.int .i64 xSector)), .sv (.one (.int .i64 0)), .sv (.one (.int .i64 15))]) rfl (fun v hv => s_l01In_t xSector 0 15 v hv) (.inl rfl) ?_)
  intro v3 gv3 h
  refine lO 19 (B (!v3)) (lO 20 (B (!v3)) (lZ ?_))
  cases h
  exact ⟨_, rfl, rfl, rfl⟩
 intro j1 h E hE
 refine nt_wp hE ?_
 change Wp _ _ _ (s_GetAt_H1 xA xRoot xSector j1) _
 refine Wp.c h (fun h => ?_) (fun h => ?_)
 ·refine wr ?_
  refine lO 6 (I 0) (lZ ?_)
  cases h
  exact Wp.ret ⟨.inr rfl, _, _, rfl, rfl⟩
 refine Wp.skip (wr (lO 21 (.agg [.sl false 218 2 (encs (c218 false) xA.Knots)]) (lO 22 (I xRoot) (lO 23 (I xSector) (LWp.cl h 24 (fun v4 => (I v4)) rfl (l := [.sv (.agg [.sl false 218 2 (encs (c218 false) xA.Knots)]), .sv (.one (.int .i64 xRoot)), .sv (.one (.int .i64 xSector))]) rfl (fun v hv => s_l11Get_t xA xRoot xSector v hv) (.inl rfl) ?_)))))
 intro v4 gv4 h
 refine lO 6 (I v4) (lZ ?_)
 cases h
 exact Wp.ret ⟨.inr rfl, _, _, rfl, rfl⟩
def s_AllAt_H1 (xA : Arena) (xRoot : Int) (z1 : List Int) (z2 : Int) : St := mkSt [(1, (I xRoot)), (2, (.one (.ptr (.box 2) 0 [] 0))), (5, (.one (.sl true 3 1 (encs c3 z1)))), (6, (I z2))] [(.box 2, [.sl false 218 2 (encs (c218 false) xA.Knots)])]
def s_AllAt_H2 (z3 : List Int) : St := mkSt [(5, (.one (.sl true 3 1 (encs c3 z3))))] []
theorem s_AllAt_t (xA : Arena) (xRoot : Int) (r : List Int) (h : s_AllAt xA xRoot = some r) : Gives Tryz.prog 99 [.sv (.agg [.sl false 218 2 (encs (c218 false) xA.Knots)]), .sv (I xRoot)] (.one (.sl true 3 1 (encs c3 r))) (List.replicate 2 .gone) := by
 unfold s_AllAt at h
 refine gives_of Tryz.func99 rfl ?_
 rw [Tryz.ntmps99]
 refine wr (LWp.b [] 2 [.sl false 218 2 (encs (c218 false) xA.Knots)] (lO 4 (.one (.sl true 3 1 (encs c3 []))) (lZ (wr (LWp.m false [] 7 (.one (.sl true 3 1 (encs c3 []))) (LWp.m true [(.slot 7, [.junk])] 5 (.one (.sl true 3 1 (encs c3 []))) (lZ (Wp.seq (wr ?_)))))))))
 refine lO 6 (I 0) (lZ (Wp.l1 h [1, 2, 5, 6] [.box 2] (fun s => (s_AllAt_H1 xA xRoot s.1 s.2)) [5] [] (fun s => (s_AllAt_H2 s)) ⟨rfl, rfl⟩ ?_ ?_))
 ·rintro ⟨yOut1, yS1⟩ o (h : s_AllAt_b1 xA xRoot yOut1 yS1 = some o)
  unfold s_AllAt_b1 at h
  change Wp _ _ _ (s_AllAt_H1 xA xRoot yOut1 yS1) _
  refine Wp.seq (wr (lO 8 (I yS1) (lO 9 (B (decide (yS1 < 16))) (lZ (Wp.c h (fun h => ?_) (fun h => ?_))))))
  ·refine Wp.skip ?_
   refine Wp.seq (Wp.block (Wp.region (lO 12 (.one (.view (.slot 5) 0 [] 0)) (lO 13 (.agg [.sl false 218 2 (encs (c218 false) xA.Knots)]) (lO 14 (I xRoot) (lO 15 (I yS1) (LWp.cl h 16 (fun v1 => (I v1)) rfl (l := [.sv (.agg [.sl false 218 2 (encs (c218 false) xA.Knots)]), .sv (.one (.int .i64 xRoot)), .sv (.one (.int .i64 yS1))]) rfl (fun v hv => s_GetAt_t xA xRoot yS1 v hv) (.inl rfl) ?_)))))))
   intro v1 gv1 h
   refine LWp.m false [] 17 (.one (.sl true 3 1 (encs c3 [v1]))) (LWp.pm h [(.slot 5, [.junk])] 18 (fun q1 => (.one (.sl true 3 1 (encs c3 q1)))) ?_ (fun q1 gq1 => s_apl k3 (fun _ => rfl) [(.slot 5, [.junk])] yOut1 gq1))
   intro q1 gq1 h
   refine LWp.m true [(.slot 18, [.junk])] 5 (.one (.sl true 3 1 (encs c3 q1))) (lZ (Wp.region (lO 10 (I yS1) (lO 11 (I (ad yS1 1)) (lO 6 (I (ad yS1 1)) (lZ ?_))))))
   cases h
   exact ⟨_, rfl, rfl, rfl⟩
  refine Wp.exit ?_
  cases h
  exact ⟨_, rfl, rfl, rfl⟩
 intro v2 h E hE
 refine nt_wp hE ?_
 change Wp _ _ _ (s_AllAt_H2 v2) _
 refine wr (lO 19 (.one (.view (.slot 5) 0 [] 0)) (LWp.m true [(.slot 5, [.junk])] 4 (.one (.sl true 3 1 (encs c3 v2))) (lZ ?_)))
 cases h
 exact Wp.ret ⟨.inr rfl, _, _, rfl, rfl⟩
def s_l12Insert_H1 (xList : List Int) (xX : Int) (z1 : List Int) (z2 : Int) : St := mkSt [(0, (.one (.sl false 3 1 (encs c3 xList)))), (1, (I xX)), (5, (.one (.sl true 3 1 (encs c3 z1)))), (6, (I z2))] []
def s_l12Insert_H2 (xList : List Int) (xX : Int) (z3 : List Int) : St := mkSt [(0, (.one (.sl false 3 1 (encs c3 xList)))), (1, (I xX)), (5, (.one (.sl true 3 1 (encs c3 z3))))] []
def s_l12Insert_H3 (xList : List Int) (xX : Int) (z4 : List Int) : St := mkSt [(0, (.one (.sl false 3 1 (encs c3 xList)))), (1, (I xX)), (5, (.one (.sl true 3 1 (encs c3 z4))))] []
def s_l12Insert_H4 (xList : List Int) (xX : Int) (z5 : List Int) (z6 : Int) : St := mkSt [(0, (.one (.sl false 3 1 (encs c3 xList)))), (1, (I xX)), (5, (.one (.sl true 3 1 (encs c3 z5)))), (7, (I z6))] []
def s_l12Insert_H5 (z7 : List Int) : St := mkSt [(5, (.one (.sl true 3 1 (encs c3 z7))))] []
theorem s_l12Insert_t (xList : List Int) (xX : Int) (r : List Int) (h : s_l12Insert xList xX = some r) : Gives Tryz.prog 109 [.sv (.one (.sl false 3 1 (encs c3 xList))), .sv (I xX)] (.one (.sl true 3 1 (encs c3 r))) (List.replicate 2 .gone) := by
 unfold s_l12Insert at h
 refine gives_of Tryz.func109 rfl ?_
 rw [Tryz.ntmps109]
 refine wr (lO 4 (.one (.sl true 3 1 (encs c3 []))) (lZ (wr (LWp.m false [] 8 (.one (.sl true 3 1 (encs c3 []))) (LWp.m true [(.slot 8, [.junk])] 5 (.one (.sl true 3 1 (encs c3 []))) (lZ (Wp.seq (wr (lO 6 (I 0) ?_)))))))))
 refine lZ (Wp.l1 h [0, 1, 5, 6] [] (fun s => (s_l12Insert_H1 xList xX s.1 s.2)) [0, 1, 5] [] (fun s => (s_l12Insert_H2 xList xX s)) ⟨rfl, rfl⟩ ?_ ?_)
 ·rintro ⟨yOut1, yI1⟩ o (h : s_l12Insert_b1 xList xX yOut1 yI1 = some o)
  unfold s_l12Insert_b1 at h
  change Wp _ _ _ (s_l12Insert_H1 xList xX yOut1 yI1) _
  refine Wp.seq (wr (lO 9 (I yI1) (lO 10 (.one (.sl false 3 1 (encs c3 xList))) (lO 11 (I (ln xList)) (lO 12 (B (decide (yI1 < (ln xList)))) (lZ (Wp.c h (fun h => ?_) (fun h => ?_)))) (st_pure (p_ln k3 xList))))))
  ·refine Wp.skip ?_
   refine Wp.seq (Wp.block (wr (lO 15 (.one (.sl false 3 1 (encs c3 xList))) (lO 16 (I yI1) (LWp.p h 17 (fun _ => (.one (.ptr (.slot 15) 1 [0] (Int.toNat yI1 * 1 + 0)))) ?_ (fun x1 gx1 => st_pure (p_ix k3 (.slot 15) [] 0 gx1)))))))
   intro x1 gx1 h
   refine lO 18 (I x1) (lO 19 (I xX) (lO 20 (B (decide (x1 < xX))) (lZ (Wp.c h (fun h => ?_) (fun h => ?_))))) (st_pure (p_lc k3 (.slot 15) [0] 0 (.int .i64 x1) gx1))
   ·refine Wp.region ?_
    refine lO 21 (.one (.view (.slot 5) 0 [] 0)) (lO 22 (.one (.sl false 3 1 (encs c3 xList))) (lO 23 (I yI1) (LWp.p h 24 (fun _ => (.one (.ptr (.slot 22) 1 [0] (Int.toNat yI1 * 1 + 0)))) ?_ (fun x2 gx2 => st_pure (p_ix k3 (.slot 22) [] 0 gx2)))))
    intro x2 gx2 h
    refine lO 25 (I x2) (LWp.m false [] 26 (.one (.sl true 3 1 (encs c3 [x2]))) (LWp.pm h [(.slot 5, [.junk])] 27 (fun q1 => (.one (.sl true 3 1 (encs c3 q1)))) ?_ (fun q1 gq1 => s_apl k3 (fun _ => rfl) [(.slot 5, [.junk])] yOut1 gq1))) (st_pure (p_lc k3 (.slot 22) [0] 0 (.int .i64 x2) gx2))
    intro q1 gq1 h
    refine LWp.m true [(.slot 27, [.junk])] 5 (.one (.sl true 3 1 (encs c3 q1))) (lZ (Wp.region (lO 13 (I yI1) (lO 14 (I (ad yI1 1)) (lO 6 (I (ad yI1 1)) (lZ ?_))))))
    cases h
    exact ⟨_, rfl, rfl, rfl⟩
   refine Wp.skip (Wp.region (lO 13 (I yI1) (lO 14 (I (ad yI1 1)) (lO 6 (I (ad yI1 1)) (lZ ?_)))))
   cases h
   exact ⟨_, rfl, rfl, rfl⟩
  refine Wp.exit ?_
  cases h
  exact ⟨_, rfl, rfl, rfl⟩
 intro v1 h E hE
 refine nt_wp hE ?_
 change Wp _ _ _ (s_l12Insert_H2 xList xX v1) _
 refine Wp.seq (wr (lO 28 (I xX) (lO 29 (B (decide (xX > 0))) (lZ (Wp.j1 h [0, 1, 5] [] (fun a => (s_l12Insert_H3 xList xX a)) ?_ ?_)))))
 ·intro a h
  refine Wp.c h (fun h => ?_) (fun h => ?_)
  ·refine Wp.region ?_
   refine lO 30 (.one (.view (.slot 5) 0 [] 0)) (lO 31 (I xX) (LWp.m false [] 32 (.one (.sl true 3 1 (encs c3 [xX]))) (LWp.pm h [(.slot 5, [.junk])] 33 (fun q2 => (.one (.sl true 3 1 (encs c3 q2)))) ?_ (fun q2 gq2 => s_apl k3 (fun _ => rfl) [(.slot 5, [.junk])] v1 gq2))))
   intro q2 gq2 h
   refine LWp.m true [(.slot 33, [.junk])] 5 (.one (.sl true 3 1 (encs c3 q2))) (lZ ?_)
   cases h
   exact ⟨_, rfl, rfl, rfl⟩
  refine Wp.skip ?_
  cases h
  exact ⟨_, rfl, rfl, rfl⟩
 intro j1 h E hE
 refine nt_wp hE ?_
 change Wp _ _ _ (s_l12Insert_H3 xList xX j1) _
 refine Wp.seq (wr (lO 7 (I 0) (lZ (Wp.l1 h [0, 1, 5, 7] [] (fun s => (s_l12Insert_H4 xList xX s.1 s.2)) [5] [] (fun s => (s_l12Insert_H5 s)) ⟨rfl, rfl⟩ ?_ ?_))))
 ·rintro ⟨yOut2, yI2⟩ o (h : s_l12Insert_b2 xList xX yOut2 yI2 = some o)
  unfold s_l12Insert_b2 at h
  change Wp _ _ _ (s_l12Insert_H4 xList xX yOut2 yI2) _
  refine Wp.seq (wr (lO 34 (I yI2) (lO 35 (.one (.sl false 3 1 (encs c3 xList))) (lO 36 (I (ln xList)) (lO 37 (B (decide (yI2 < (ln xList)))) (lZ (Wp.c h (fun h => ?_) (fun h => ?_)))) (st_pure (p_ln k3 xList))))))
  ·refine Wp.skip ?_
   refine Wp.seq (Wp.block (wr (lO 40 (.one (.sl false 3 1 (encs c3 xList))) (lO 41 (I yI2) (LWp.p h 42 (fun _ => (.one (.ptr (.slot 40) 1 [0] (Int.toNat yI2 * 1 + 0)))) ?_ (fun x3 gx3 => st_pure (p_ix k3 (.slot 40) [] 0 gx3)))))))
   intro x3 gx3 h
   refine lO 43 (I x3) (lO 44 (I xX) (lO 45 (B (decide (x3 > xX))) (lZ (Wp.c h (fun h => ?_) (fun h => ?_))))) (st_pure (p_lc k3 (.slot 40) [0] 0 (.int .i64 x3) gx3))
   ·refine Wp.region ?_
    refine lO 46 (.one (.view (.slot 5) 0 [] 0)) (lO 47 (.one (.sl false 3 1 (encs c3 xList))) (lO 48 (I yI2) (LWp.p h 49 (fun _ => (.one (.ptr (.slot 47) 1 [0] (Int.toNat yI2 * 1 + 0)))) ?_ (fun x4 gx4 => st_pure (p_ix k3 (.slot 47) [] 0 gx4)))))
    intro x4 gx4 h
    refine lO 50 (I x4) (LWp.m false [] 51 (.one (.sl true 3 1 (encs c3 [x4]))) (LWp.pm h [(.slot 5, [.junk])] 52 (fun q3 => (.one (.sl true 3 1 (encs c3 q3)))) ?_ (fun q3 gq3 => s_apl k3 (fun _ => rfl) [(.slot 5, [.junk])] yOut2 gq3))) (st_pure (p_lc k3 (.slot 47) [0] 0 (.int .i64 x4) gx4))
    intro q3 gq3 h
    refine LWp.m true [(.slot 52, [.junk])] 5 (.one (.sl true 3 1 (encs c3 q3))) (lZ (Wp.region (lO 38 (I yI2) (lO 39 (I (ad yI2 1)) (lO 7 (I (ad yI2 1)) (lZ ?_))))))
    cases h
    exact ⟨_, rfl, rfl, rfl⟩
   refine Wp.skip (Wp.region (lO 38 (I yI2) (lO 39 (I (ad yI2 1)) (lO 7 (I (ad yI2 1)) (lZ ?_)))))
   cases h
   exact ⟨_, rfl, rfl, rfl⟩
  refine Wp.exit ?_
  cases h
  exact ⟨_, rfl, rfl, rfl⟩
 intro v2 h E hE
 refine nt_wp hE ?_
 change Wp _ _ _ (s_l12Insert_H5 v2) _
 refine wr (lO 53 (.one (.view (.slot 5) 0 [] 0)) (LWp.m true [(.slot 5, [.junk])] 4 (.one (.sl true 3 1 (encs c3 v2))) (lZ ?_)))
 cases h
 exact Wp.ret ⟨.inr rfl, _, _, rfl, rfl⟩
def s_LiveOf_H1 (xS : Store) (z1 : List Int) (z2 : Int) : St := mkSt [(1, (.one (.ptr (.box 1) 0 [] 0))), (3, (.one (.sl true 3 1 (encs c3 z1)))), (4, (I z2))] [(.box 1, [.sl false 110 2 (encs c110 xS.Vols), .sl false 218 2 (encs (c218 false) xS.Arena.Knots), .int .i64 xS.Next])]
def s_LiveOf_H2 (z3 : List Int) : St := mkSt [(3, (.one (.sl true 3 1 (encs c3 z3))))] []
def s_LiveOf_H3 (xS : Store) (yI1 : Int) (v1 : List Int) (z4 : List Int) (z5 : Int) : St := mkSt [(1, (.one (.ptr (.box 1) 0 [] 0))), (3, (.one (.sl true 3 1 (encs c3 z4)))), (4, (I yI1)), (5, (.one (.sl true 3 1 (encs c3 v1)))), (6, (I z5))] [(.box 1, [.sl false 110 2 (encs c110 xS.Vols), .sl false 218 2 (encs (c218 false) xS.Arena.Knots), .int .i64 xS.Next])]
def s_LiveOf_H4 (xS : Store) (yI1 : Int) (z6 : List Int) : St := mkSt [(1, (.one (.ptr (.box 1) 0 [] 0))), (3, (.one (.sl true 3 1 (encs c3 z6)))), (4, (I yI1))] [(.box 1, [.sl false 110 2 (encs c110 xS.Vols), .sl false 218 2 (encs (c218 false) xS.Arena.Knots), .int .i64 xS.Next])]
theorem s_LiveOf_t (xS : Store) (r : List Int) (h : s_LiveOf xS = some r) : Gives Tryz.prog 63 [.sv (.agg [.sl false 110 2 (encs c110 xS.Vols), .sl false 218 2 (encs (c218 false) xS.Arena.Knots), .int .i64 xS.Next])] (.one (.sl true 3 1 (encs c3 r))) (List.replicate 1 .gone) := by
 unfold s_LiveOf at h
 refine gives_of Tryz.func63 rfl ?_
 rw [Tryz.ntmps63]
 refine wr (LWp.b [] 1 [.sl false 110 2 (encs c110 xS.Vols), .sl false 218 2 (encs (c218 false) xS.Arena.Knots), .int .i64 xS.Next] (lO 2 (.one (.sl true 3 1 (encs c3 []))) (lZ (wr (LWp.m false [] 7 (.one (.sl true 3 1 (encs c3 []))) (LWp.m true [(.slot 7, [.junk])] 3 (.one (.sl true 3 1 (encs c3 []))) (lZ (Wp.seq (wr ?_)))))))))
 refine lO 4 (I 0) (lZ (Wp.l1 h [1, 3, 4] [.box 1] (fun s => (s_LiveOf_H1 xS s.1 s.2)) [3] [] (fun s => (s_LiveOf_H2 s)) ⟨rfl, rfl⟩ ?_ ?_))
 ·rintro ⟨yOut1, yI1⟩ o (h : s_LiveOf_b1 xS yOut1 yI1 = some o)
  unfold s_LiveOf_b1 at h
  change Wp _ _ _ (s_LiveOf_H1 xS yOut1 yI1) _
  refine Wp.seq (wr (lO 8 (I yI1) (lO 9 (.one (.ptr (.box 1) 0 [] 0)) (lO 10 (.one (.sl false 110 2 (encs c110 xS.Vols))) (lO 11 (I (ln xS.Vols)) (lO 12 (B (decide (yI1 < (ln xS.Vols)))) (lZ (Wp.c h (fun h => ?_) (fun h => ?_)))) (st_pure (p_ln k110 xS.Vols)))))))
  ·refine Wp.skip ?_
   refine Wp.seq (Wp.block (Wp.seq (Wp.regionT 8 mixed (by decide +kernel) (SWp.o 15 (.one (.ptr (.box 1) 0 [] 1)) (SWp.o 16 (.agg [.sl false 218 2 (encs (c218 false) xS.Arena.Knots)]) (SWp.o 17 (.one (.ptr (.box 1) 0 [] 0)) (SWp.o 18 (.one (.sl false 110 2 (encs c110 xS.Vols))) (SWp.o 19 (I yI1) (SWp.p h 20 (fun _ => (.one (.ptr (.slot 18) 1 [0] (Int.toNat yI1 * 2 + 0)))) ?_ (fun x1 gx1 => sl_pure (p_ix k110 (.slot 18) [] 0 gx1)))))))))))
   intro x1 gx1 h
   refine SWp.o 21 (.one (.ptr (.slot 18) 1 [0] (Int.toNat yI1 * 2 + 1))) (SWp.o 22 (I x1.Root) (SWp.nil (LWp.cl h 23 (fun v1 => (.one (.sl true 3 1 (encs c3 v1)))) rfl (l := [.sv (.agg [.sl false 218 2 (encs (c218 false) xS.Arena.Knots)]), .sv (.one (.int .i64 x1.Root))]) rfl (fun v hv => s_AllAt_t xS.Arena x1.Root v hv) (.inl rfl) ?_)) (sl_pure (p_lc k110 (.slot 18) [0] 1 (.int .i64 x1.Root) gx1))) (sl_pure (p_fa k110 (.slot 18) [0] 0 gx1))
   intro v1 gv1 h
   refine LWp.m true [(.slot 23, [.junk])] 5 (.one (.sl true 3 1 (encs c3 v1))) (lZ (wr (lO 6 (I 0) (lZ (Wp.l1 h [1, 3, 4, 5, 6] [.box 1] (fun s => (s_LiveOf_H3 xS yI1 v1 s.1 s.2)) [1, 3, 4] [.box 1] (fun s => (s_LiveOf_H4 xS yI1 s)) ⟨rfl, rfl⟩ ?_ ?_)))))
   ·rintro ⟨yOut2, yK1⟩ o (h : s_LiveOf_b2 v1 yOut2 yK1 = some o)
    unfold s_LiveOf_b2 at h
    change Wp _ _ _ (s_LiveOf_H3 xS yI1 v1 yOut2 yK1) _
    refine Wp.seq (wr (lO 24 (I yK1) (lO 25 (.one (.view (.slot 5) 0 [] 0)) (lO 26 (I (ln v1)) (lO 27 (B (decide (yK1 < (ln v1)))) (lZ (Wp.c h (fun h => ?_) (fun h => ?_)))) (st_pure (p_ln k3 v1))))))
    ·refine Wp.skip ?_
     refine Wp.seq (Wp.block (Wp.region (lO 30 (.one (.view (.slot 3) 0 [] 0)) (lO 31 (.one (.view (.slot 5) 0 [] 0)) (lO 32 (I yK1) (LWp.p h 33 (fun _ => (.one (.ptr (.slot 5) 0 [0] (Int.toNat yK1 * 1 + 0)))) ?_ (fun x2 gx2 => st_pure (p_ix k3 (.slot 5) [] 0 gx2))))))))
     intro x2 gx2 h
     refine lO 34 (I x2) (LWp.cl h 35 (fun v2 => (.one (.sl true 3 1 (encs c3 v2)))) rfl (l := [.sv (.one (.sl false 3 1 (shares (encs c3 yOut2)))), .sv (.one (.int .i64 x2))]) rfl (fun v hv => cg (l := [.sv (.one (.sl false 3 1 (shares (encs c3 yOut2)))), .sv (.one (.int .i64 x2))]) (by simp only [sh3]) (s_l12Insert_t yOut2 x2 v hv)) (.inr (fun v => by simp [svShared, svShareds, hasShareds, hasShared, ns3])) ?_) (st_pure (p_lc k3 (.slot 5) [0] 0 (.int .i64 x2) gx2))
     intro v2 gv2 h
     refine LWp.m true [(.slot 35, [.junk])] 3 (.one (.sl true 3 1 (encs c3 v2))) (lZ (Wp.region (lO 28 (I yK1) (lO 29 (I (ad yK1 1)) (lO 6 (I (ad yK1 1)) (lZ ?_))))))
     cases h
     exact ⟨_, rfl, rfl, rfl⟩
    refine Wp.exit ?_
    cases h
    exact ⟨_, rfl, rfl, rfl⟩
   intro v3 h E hE
   refine nt_wp hE ?_
   change Wp _ _ _ (s_LiveOf_H4 xS yI1 v3) _
   refine Wp.region (lO 13 (I yI1) (lO 14 (I (ad yI1 1)) (lO 4 (I (ad yI1 1)) (lZ ?_))))
   cases h
   exact ⟨_, rfl, rfl, rfl⟩
  refine Wp.exit ?_
  cases h
  exact ⟨_, rfl, rfl, rfl⟩
 intro v4 h E hE
 refine nt_wp hE ?_
 change Wp _ _ _ (s_LiveOf_H2 v4) _
 refine wr (lO 36 (.one (.view (.slot 3) 0 [] 0)) (LWp.m true [(.slot 3, [.junk])] 2 (.one (.sl true 3 1 (encs c3 v4))) (lZ ?_)))
 cases h
 exact Wp.ret ⟨.inr rfl, _, _, rfl, rfl⟩
def s_ReadLeaf_H1 (xF : Flash) (xB : Int) (xLeaf : Int) (z1 : Bool) : St := mkSt [(1, (I xB)), (2, (I xLeaf)), (3, (.one (.ptr (.box 3) 0 [] 0))), (40, (B z1))] [(.box 3, [.sl false 124 3 (encs (c124 false) xF.Blocks)])]
theorem s_ReadLeaf_t (xF : Flash) (xB : Int) (xLeaf : Int) (r : ByteArray × Bool) (h : s_ReadLeaf xF xB xLeaf = some r) : Gives Tryz.prog 101 [.sv (.agg [.sl false 124 3 (encs (c124 false) xF.Blocks)]), .sv (I xB), .sv (I xLeaf)] (.tup [(Y r.1), (B r.2)]) (List.replicate 3 .gone) := by
 unfold s_ReadLeaf at h
 refine gives_of Tryz.func101 rfl ?_
 rw [Tryz.ntmps101]
 refine wr (LWp.b [] 3 [.sl false 124 3 (encs (c124 false) xF.Blocks)] (lO 6 (Y (bs [])) (lO 7 (B false) (lZ (Wp.seq (Wp.seq (Wp.j1 h [1, 2, 3, 40] [.box 3] (fun a => (s_ReadLeaf_H1 xF xB xLeaf a)) ?_ ?_)))))))
 ·intro a h
  refine Wp.region (lO 8 (I xB) (lO 9 (.one (.ptr (.box 3) 1 [] 0)) (lO 10 (.one (.sl false 124 3 (encs (c124 false) xF.Blocks))) (lO 11 (I (ln xF.Blocks)) (lO 12 (I (sb (ln xF.Blocks) 1)) (LWp.cl h 13 (fun v1 => (B v1)) rfl (l := [.sv (.one (.int .i64 xB)), .sv (.one (.int .i64 0)), .sv (.one (.int .i64 (sb (ln xF.Blocks) 1)))]) rfl (fun v hv => s_l01In_t xB 0 (sb (ln xF.Blocks) 1) v hv) (.inl rfl) ?_)) (st_pure (p_ln (k124 false) xF.Blocks))))))
  intro v1 gv1 h
  refine lO 14 (B (!v1)) (lO 15 (B (!v1)) (LWp.sp h 15 (fun h => ?_) (fun h => ?_)))
  ·refine lH 16 ?_
   refine lH 17 (lH 18 (lH 19 (lH 20 (lH 21 (lH 22 (lH 23 (lH 24 (lH 25 (lH 26 ?_)))))))))
   refine lO 27 (B true) (lO 28 (B true) (lH 29 (lH 30 (lH 31 (lH 32 (lH 33 (lH 34 (lH 35 (lH 36 ?_)))))))))
   refine lH 37 (lH 38 (lH 39 (lO 40 (B true) (lZ ?_))))
   cases h
   exact ⟨_, rfl, rfl, rfl⟩
  refine lO 16 (I xLeaf) (lO 17 (.one (.ptr (.box 3) 1 [] 0)) (lO 18 (.one (.sl false 124 3 (encs (c124 false) xF.Blocks))) (lO 19 (I xB) (LWp.p h 20 (fun _ => (.one (.ptr (.slot 18) 1 [0] (Int.toNat xB * 3 + 0)))) ?_ (fun x1 gx1 => st_pure (p_ix (k124 false) (.slot 18) [] 0 gx1))))))
  intro x1 gx1 h
  refine lO 21 (.one (.ptr (.slot 18) 1 [0] (Int.toNat xB * 3 + 2))) (lO 22 (.one (.sl false 165 2 (encs c165 x1.Leaves))) (lO 23 (I (ln x1.Leaves)) (lO 24 (I (sb (ln x1.Leaves) 1)) (LWp.cl h 25 (fun v2 => (B v2)) rfl (l := [.sv (.one (.int .i64 xLeaf)), .sv (.one (.int .i64 0)), .sv (.one (.int .i64 (sb (ln x1.Leaves) 1)))]) rfl (fun v hv => s_l01In_t xLeaf 0 (sb (ln x1.Leaves) 1) v hv) (.inl rfl) ?_)) (st_pure (p_ln k165 x1.Leaves))) (st_pure (p_lc (k124 false) (.slot 18) [0] 2 (.sl false 165 2 (encs c165 x1.Leaves)) gx1))) (st_pure (p_fa (k124 false) (.slot 18) [0] 0 gx1))
  intro v2 gv2 h
  refine lO 26 (B (!v2)) (lO 27 (B (!v2)) (lO 28 (B (!v2)) (LWp.sp h 28 (fun h => ?_) (fun h => ?_))))
  ·refine lH 29 ?_
   refine lH 30 (lH 31 (lH 32 (lH 33 (lH 34 (lH 35 (lH 36 (lH 37 (lH 38 (lH 39 ?_)))))))))
   refine lO 40 (B true) (lZ ?_)
   cases h
   exact ⟨_, rfl, rfl, rfl⟩
  refine lO 29 (.one (.ptr (.box 3) 1 [] 0)) (lO 30 (.one (.sl false 124 3 (encs (c124 false) xF.Blocks))) (lO 31 (I xB) (LWp.p h 32 (fun _ => (.one (.ptr (.slot 30) 1 [0] (Int.toNat xB * 3 + 0)))) ?_ (fun x2 gx2 => st_pure (p_ix (k124 false) (.slot 30) [] 0 gx2)))))
  intro x2 gx2 h
  refine lO 33 (.one (.ptr (.slot 30) 1 [0] (Int.toNat xB * 3 + 2))) (lO 34 (.one (.sl false 165 2 (encs c165 x2.Leaves))) (lO 35 (I xLeaf) (LWp.p h 36 (fun _ => (.one (.ptr (.slot 34) 1 [0] (Int.toNat xLeaf * 2 + 0)))) ?_ (fun x3 gx3 => st_pure (p_ix k165 (.slot 34) [] 0 gx3)))) (st_pure (p_lc (k124 false) (.slot 30) [0] 2 (.sl false 165 2 (encs c165 x2.Leaves)) gx2))) (st_pure (p_fa (k124 false) (.slot 30) [0] 0 gx2))
  intro x3 gx3 h
  refine lO 37 (.one (.ptr (.slot 34) 1 [0] (Int.toNat xLeaf * 2 + 0))) (lO 38 (I x3.Is) (lO 39 (B (x3.Is != 1)) (lO 40 (B (x3.Is != 1)) (lZ ?_))) (st_pure (p_lc k165 (.slot 34) [0] 0 (.int .i64 x3.Is) gx3))) (st_pure (p_fa k165 (.slot 34) [0] 0 gx3))
  cases h
  exact ⟨_, rfl, rfl, rfl⟩
 intro j1 h E hE
 refine nt_wp hE ?_
 change Wp _ _ _ (s_ReadLeaf_H1 xF xB xLeaf j1) _
 refine Wp.c h (fun h => ?_) (fun h => ?_)
 ·refine wr ?_
  refine lO 6 (Y (bs [])) (lO 7 (B false) (lZ ?_))
  cases h
  exact Wp.ret ⟨.inr rfl, _, _, rfl, rfl⟩
 refine Wp.skip (wr (lO 41 (.one (.ptr (.box 3) 0 [] 0)) (lO 42 (.one (.sl false 124 3 (encs (c124 false) xF.Blocks))) (lO 43 (I xB) (LWp.p h 44 (fun _ => (.one (.ptr (.slot 42) 1 [0] (Int.toNat xB * 3 + 0)))) ?_ (fun x4 gx4 => st_pure (p_ix (k124 false) (.slot 42) [] 0 gx4)))))))
 intro x4 gx4 h
 refine lO 45 (.one (.ptr (.slot 42) 1 [0] (Int.toNat xB * 3 + 2))) (lO 46 (.one (.sl false 165 2 (encs c165 x4.Leaves))) (lO 47 (I xLeaf) (LWp.p h 48 (fun _ => (.one (.ptr (.slot 46) 1 [0] (Int.toNat xLeaf * 2 + 0)))) ?_ (fun x5 gx5 => st_pure (p_ix k165 (.slot 46) [] 0 gx5)))) (st_pure (p_lc (k124 false) (.slot 42) [0] 2 (.sl false 165 2 (encs c165 x4.Leaves)) gx4))) (st_pure (p_fa (k124 false) (.slot 42) [0] 0 gx4))
 intro x5 gx5 h
 refine lO 49 (.one (.ptr (.slot 46) 1 [0] (Int.toNat xLeaf * 2 + 1))) (lO 50 (Y x5.Text) (lO 6 (Y x5.Text) (lO 7 (B true) (lZ ?_))) (st_pure (p_lc k165 (.slot 46) [0] 1 (.str x5.Text) gx5))) (st_pure (p_fa k165 (.slot 46) [0] 0 gx5))
 cases h
 exact Wp.ret ⟨.inr rfl, _, _, rfl, rfl⟩
def s_SumMore_H1 (xText : ByteArray) (z1 : Int) (z2 : Int) : St := mkSt [(0, (.one (.int .u32 z1))), (1, (Y xText)), (5, (I z2))] []
def s_SumMore_H2 (z3 : Int) : St := mkSt [(0, (.one (.int .u32 z3)))] []
def s_SumMore_H3 (xText : ByteArray) (yI1 : Int) (z4 : Int) (z5 : Int) : St := mkSt [(0, (.one (.int .u32 z4))), (1, (Y xText)), (5, (I yI1)), (6, (I z5))] []
def s_SumMore_H4 (xText : ByteArray) (yI1 : Int) (z6 : Int) : St := mkSt [(0, (.one (.int .u32 z6))), (1, (Y xText)), (5, (I yI1))] []
theorem s_SumMore_t (xSum : Int) (xText : ByteArray) (r : Int) (h : s_SumMore xSum xText = some r) : Gives Tryz.prog 200 [.sv (.one (.int .u32 xSum)), .sv (Y xText)] (.one (.int .u32 r)) (List.replicate 2 .gone) := by
 unfold s_SumMore at h
 refine gives_of Tryz.func200 rfl ?_
 rw [Tryz.ntmps200]
 refine wr (lO 4 (.one (.int .u32 0)) (lZ (Wp.seq (wr (lO 5 (I 0) (lZ (Wp.l1 h [0, 1, 5] [] (fun s => (s_SumMore_H1 xText s.1 s.2)) [0] [] (fun s => (s_SumMore_H2 s)) ⟨rfl, rfl⟩ ?_ ?_)))))))
 ·rintro ⟨ySum1, yI1⟩ o (h : s_SumMore_b1 xText ySum1 yI1 = some o)
  unfold s_SumMore_b1 at h
  change Wp _ _ _ (s_SumMore_H1 xText ySum1 yI1) _
  refine Wp.seq (wr (lO 8 (I yI1) (lO 9 (Y xText) (lO 10 (I (sln xText)) (lO 11 (B (decide (yI1 < (sln xText)))) (lZ (Wp.c h (fun h => ?_) (fun h => ?_))))))))
  ·refine Wp.skip ?_
   refine Wp.seq (Wp.block (wr (lO 14 (.one (.int .u32 ySum1)) (lO 15 (Y xText) (lO 16 (I yI1) (LWp.p h 17 (fun x1 => (.one (.int .u8 x1))) ?_ (fun x1 gx1 => st_pure (p_sx gx1))))))))
   intro x1 gx1 h
   refine lO 18 (.one (.int .u32 (IntKind.u32.wrap x1))) (lO 19 (.one (.int .u32 (xr ySum1 (IntKind.u32.wrap x1)))) (lO 0 (.one (.int .u32 (xr ySum1 (IntKind.u32.wrap x1)))) (lZ (wr (lO 6 (I 0) (lZ (Wp.l1 h [0, 1, 5, 6] [] (fun s => (s_SumMore_H3 xText yI1 s.1 s.2)) [0, 1, 5] [] (fun s => (s_SumMore_H4 xText yI1 s)) ⟨rfl, rfl⟩ ?_ ?_)))))))
   ·rintro ⟨ySum2, yK1⟩ o (h : s_SumMore_b2 ySum2 yK1 = some o)
    unfold s_SumMore_b2 at h
    change Wp _ _ _ (s_SumMore_H3 xText yI1 ySum2 yK1) _
    refine Wp.seq (wr (lO 20 (I yK1) (lO 21 (B (decide (yK1 < 8))) (lZ (Wp.c h (fun h => ?_) (fun h => ?_))))))
    ·refine Wp.skip ?_
     refine Wp.seq (Wp.block (wr (lO 24 (.one (.int .u32 ySum2)) (lO 25 (.one (.int .u32 (Int.tmod ySum2 2))) (lO 26 (B ((Int.tmod ySum2 2) == 1)) (lO 7 (B ((Int.tmod ySum2 2) == 1)) (lZ (wr (lO 27 (.one (.int .u32 ySum2)) ?_)))))))))
     refine lO 28 (.one (.int .u32 (IntKind.u32.wrap (Int.tdiv ySum2 2)))) (lO 0 (.one (.int .u32 (IntKind.u32.wrap (Int.tdiv ySum2 2)))) (lZ (wr (lO 29 (B ((Int.tmod ySum2 2) == 1)) (lZ (Wp.c h (fun h => ?_) (fun h => ?_)))))))
     ·refine Wp.region ?_
      refine lO 30 (.one (.int .u32 (IntKind.u32.wrap (Int.tdiv ySum2 2)))) (lO 31 (.one (.int .u32 (xr (IntKind.u32.wrap (Int.tdiv ySum2 2)) 3558460437))) (lO 0 (.one (.int .u32 (xr (IntKind.u32.wrap (Int.tdiv ySum2 2)) 3558460437))) (lZ (Wp.region (lO 22 (I yK1) (lO 23 (I (ad yK1 1)) (lO 6 (I (ad yK1 1)) (lZ ?_))))))))
      cases h
      exact ⟨_, rfl, rfl, rfl⟩
     refine Wp.skip (Wp.region (lO 22 (I yK1) (lO 23 (I (ad yK1 1)) (lO 6 (I (ad yK1 1)) (lZ ?_)))))
     cases h
     exact ⟨_, rfl, rfl, rfl⟩
    refine Wp.exit ?_
    cases h
    exact ⟨_, rfl, rfl, rfl⟩
   intro v1 h E hE
   refine nt_wp hE ?_
   change Wp _ _ _ (s_SumMore_H4 xText yI1 v1) _
   refine Wp.region (lO 12 (I yI1) (lO 13 (I (ad yI1 1)) (lO 5 (I (ad yI1 1)) (lZ ?_))))
   cases h
   exact ⟨_, rfl, rfl, rfl⟩
  refine Wp.exit ?_
  cases h
  exact ⟨_, rfl, rfl, rfl⟩
 intro v2 h E hE
 refine nt_wp hE ?_
 change Wp _ _ _ (s_SumMore_H2 v2) _
 refine wr (lO 32 (.one (.int .u32 v2)) (lO 4 (.one (.int .u32 v2)) (lZ ?_)))
 cases h
 exact Wp.ret ⟨.inr rfl, _, _, rfl, rfl⟩
theorem s_SumOf_t (xText : ByteArray) (r : Int) (h : s_SumOf xText = some r) : Gives Tryz.prog 167 [.sv (Y xText)] (.one (.int .u32 r)) (List.replicate 1 .gone) := by
 unfold s_SumOf at h
 refine gives_of Tryz.func167 rfl ?_
 rw [Tryz.ntmps167]
 refine wr (lO 2 (.one (.int .u32 0)) (lZ (wr (lO 3 (Y xText) (LWp.cl h 4 (fun v1 => (.one (.int .u32 v1))) rfl (l := [.sv (.one (.int .u32 4294967295)), .sv (.one (.str xText))]) rfl (fun v hv => s_SumMore_t 4294967295 xText v hv) (.inl rfl) ?_)))))
 intro v1 gv1 h
 refine lO 2 (.one (.int .u32 v1)) (lZ ?_)
 cases h
 exact Wp.ret ⟨.inr rfl, _, _, rfl, rfl⟩
def c5 (x : Int) : List TV := [.int .u8 x]
theorem k5 : ∀ x, (c5 x).length = 1 := fun _ => rfl
theorem sh5 : ∀ l, shares (encs c5 l) = encs c5 l := shares_encs (fun _ => rfl)
theorem ns5 : ∀ l, hasShareds (encs c5 l) = false := ns_encs (fun _ => rfl)
theorem s_l02Four_t (xX : Int) (r : ByteArray) (h : s_l02Four xX = some r) : Gives Tryz.prog 166 [.sv (.one (.int .u32 xX))] (Y r) (List.replicate 1 .gone) := by
 unfold s_l02Four at h
 refine gives_of Tryz.func166 rfl ?_
 rw [Tryz.ntmps166]
 refine wr (lO 2 (Y (bs [])) (lZ (wr (lO 3 (.one (.int .u32 xX)) (lO 4 (.one (.int .u32 (Int.fdiv xX (2 ^ (min (24 : Int).toNat IntKind.u32.bits))))) (lO 5 (.one (.int .u8 (IntKind.u8.wrap (Int.fdiv xX (2 ^ (min (24 : Int).toNat IntKind.u32.bits)))))) (lO 6 (.one (.int .u32 xX)) (lO 7 (.one (.int .u32 (Int.fdiv xX (2 ^ (min (16 : Int).toNat IntKind.u32.bits))))) (lO 8 (.one (.int .u8 (IntKind.u8.wrap (Int.fdiv xX (2 ^ (min (16 : Int).toNat IntKind.u32.bits)))))) ?_)))))))))
 refine lO 9 (.one (.int .u32 xX)) (lO 10 (.one (.int .u32 (Int.fdiv xX (2 ^ (min (8 : Int).toNat IntKind.u32.bits))))) (lO 11 (.one (.int .u8 (IntKind.u8.wrap (Int.fdiv xX (2 ^ (min (8 : Int).toNat IntKind.u32.bits)))))) (lO 12 (.one (.int .u32 xX)) (lO 13 (.one (.int .u8 (IntKind.u8.wrap xX))) (LWp.m false [] 14 (.one (.sl true 5 1 (encs c5 [(IntKind.u8.wrap (Int.fdiv xX (2 ^ (min (24 : Int).toNat IntKind.u32.bits)))), (IntKind.u8.wrap (Int.fdiv xX (2 ^ (min (16 : Int).toNat IntKind.u32.bits)))), (IntKind.u8.wrap (Int.fdiv xX (2 ^ (min (8 : Int).toNat IntKind.u32.bits)))), (IntKind.u8.wrap xX)]))) (lO 15 (Y (strB [(IntKind.u8.wrap (Int.fdiv xX (2 ^ (min (24 : Int).toNat IntKind.u32.bits)))), (IntKind.u8.wrap (Int.fdiv xX (2 ^ (min (16 : Int).toNat IntKind.u32.bits)))), (IntKind.u8.wrap (Int.fdiv xX (2 ^ (min (8 : Int).toNat IntKind.u32.bits)))), (IntKind.u8.wrap xX)])) (lO 2 (Y (strB [(IntKind.u8.wrap (Int.fdiv xX (2 ^ (min (24 : Int).toNat IntKind.u32.bits)))), (IntKind.u8.wrap (Int.fdiv xX (2 ^ (min (16 : Int).toNat IntKind.u32.bits)))), (IntKind.u8.wrap (Int.fdiv xX (2 ^ (min (8 : Int).toNat IntKind.u32.bits)))), (IntKind.u8.wrap xX)])) (lZ ?_)) (st_pure (p_cv (fun _ => rfl) [(IntKind.u8.wrap (Int.fdiv xX (2 ^ (min (24 : Int).toNat IntKind.u32.bits)))), (IntKind.u8.wrap (Int.fdiv xX (2 ^ (min (16 : Int).toNat IntKind.u32.bits)))), (IntKind.u8.wrap (Int.fdiv xX (2 ^ (min (8 : Int).toNat IntKind.u32.bits)))), (IntKind.u8.wrap xX)]))))))))
 cases h
 exact Wp.ret ⟨.inr rfl, _, _, rfl, rfl⟩
def s_Unsealed_H1 (xText : ByteArray) (z1 : Bool) : St := mkSt [(0, (Y xText)), (4, (I (sb (sln xText) 4))), (24, (B z1))] []
theorem s_Unsealed_t (xText : ByteArray) (r : ByteArray × Bool) (h : s_Unsealed xText = some r) : Gives Tryz.prog 152 [.sv (Y xText)] (.tup [(Y r.1), (B r.2)]) (List.replicate 1 .gone) := by
 unfold s_Unsealed at h
 refine gives_of Tryz.func152 rfl ?_
 rw [Tryz.ntmps152]
 refine wr (lO 2 (Y (bs [])) (lO 3 (B false) (lZ (wr (lO 5 (Y xText) (lO 6 (I (sln xText)) (lO 7 (I (sb (sln xText) 4)) (lO 4 (I (sb (sln xText) 4)) (lZ ?_)))))))))
 refine Wp.seq (Wp.seq (Wp.j1 h [0, 4, 24] [] (fun a => (s_Unsealed_H1 xText a)) ?_ ?_))
 ·intro a h
  refine Wp.regionK 17 [] mixed (fun c E h => by rcases h with ⟨h | h, _⟩ <;> cases h) (KWp.o 17 0 8 (I (sb (sln xText) 4)) (KWp.o 17 1 9 (B (decide ((sb (sln xText) 4) < 0))) (KWp.o 17 2 10 (B (decide ((sb (sln xText) 4) < 0))) (KWp.sp h 10 (fun h => ?_) (fun h => ?_)))))
  ·refine KWp.sh 17 3 11 ?_
   refine KWp.sh 17 4 12 (KWp.o 17 5 13 (B true) (KWp.o 17 6 14 (B true) (KWp.sh 17 7 15 (KWp.sh 17 8 16 (KWp.sh 17 9 17 (KWp.sh 17 10 18 (KWp.sh 17 11 19 (KWp.sh 17 12 20 (KWp.sh 17 13 21 ?_)))))))))
   refine KWp.sh 17 14 22 (KWp.sh 17 15 23 (KWp.o 17 16 24 (B true) (KWp.done ?_)))
   cases h
   exact ⟨_, rfl, rfl, rfl⟩
  refine KWp.o 17 3 11 (I (sb (sln xText) 4)) (KWp.o 17 4 12 (B (decide ((sb (sln xText) 4) > 20000))) (KWp.o 17 5 13 (B (decide ((sb (sln xText) 4) > 20000))) (KWp.o 17 6 14 (B (decide ((sb (sln xText) 4) > 20000))) (KWp.sp h 14 (fun h => ?_) (fun h => ?_)))))
  ·refine KWp.sh 17 7 15 ?_
   refine KWp.sh 17 8 16 (KWp.sh 17 9 17 (KWp.sh 17 10 18 (KWp.sh 17 11 19 (KWp.sh 17 12 20 (KWp.sh 17 13 21 (KWp.sh 17 14 22 (KWp.sh 17 15 23 (KWp.o 17 16 24 (B true) (KWp.done ?_)))))))))
   cases h
   exact ⟨_, rfl, rfl, rfl⟩
  refine KWp.o 17 7 15 (Y xText) (KWp.o 17 8 16 (I (sb (sln xText) 4)) (KWp.p h 17 9 17 (fun x1 => (Y x1)) ?_ rfl (fun x1 gx1 => sl_pure (p_sub gx1))))
  intro x1 gx1 h
  refine KWp.o 17 10 18 (Y xText) (KWp.o 17 11 19 (I (sb (sln xText) 4)) (KWp.p h 17 12 20 (fun x2 => (Y x2)) ?_ rfl (fun x2 gx2 => sl_pure (p_sub gx2))))
  intro x2 gx2 h
  refine KWp.w1 13 (KOp.cl h 13 21 (fun v1 => (.one (.int .u32 v1))) rfl rfl (l := [.sv (.one (.str x2))]) rfl (fun v hv => s_SumOf_t x2 v hv) (.inl rfl) ?_)
  intro v1 gv1 h
  refine KWp.w1 14 (KOp.cl h 14 22 (fun v2 => (Y v2)) rfl rfl (l := [.sv (.one (.int .u32 v1))]) rfl (fun v hv => s_l02Four_t v1 v hv) (.inl rfl) ?_)
  intro v2 gv2 h
  refine KWp.o 17 15 23 (B (!(seq x1 v2))) (KWp.o 17 16 24 (B (!(seq x1 v2))) (KWp.done ?_))
  cases h
  exact ⟨_, rfl, rfl, rfl⟩
 intro j1 h E hE
 refine nt_wp hE ?_
 change Wp _ _ _ (s_Unsealed_H1 xText j1) _
 refine Wp.c h (fun h => ?_) (fun h => ?_)
 ·refine wr ?_
  refine lO 2 (Y (bs [])) (lO 3 (B false) (lZ ?_))
  cases h
  exact Wp.ret ⟨.inr rfl, _, _, rfl, rfl⟩
 refine Wp.skip (wr (lO 25 (Y xText) (lO 26 (I (sb (sln xText) 4)) (LWp.p h 27 (fun x3 => (Y x3)) ?_ (fun x3 gx3 => st_pure (p_sub gx3))))))
 intro x3 gx3 h
 refine lO 2 (Y x3) (lO 3 (B true) (lZ ?_))
 cases h
 exact Wp.ret ⟨.inr rfl, _, _, rfl, rfl⟩
def s_l01Var_H1 (z1 : Int) (z2 : List Int) : St := mkSt [(0, (I z1)), (3, (.one (.sl true 5 1 (encs c5 z2))))] []
def s_l01Var_H2 (z3 : Int) (z4 : List Int) : St := mkSt [(0, (I z3)), (3, (.one (.sl true 5 1 (encs c5 z4))))] []
theorem s_l01Var_t (xN : Int) (r : ByteArray) (h : s_l01Var xN = some r) : Gives Tryz.prog 122 [.sv (I xN)] (Y r) (List.replicate 1 .gone) := by
 unfold s_l01Var at h
 refine gives_of Tryz.func122 rfl ?_
 rw [Tryz.ntmps122]
 refine wr (lO 2 (Y (bs [])) (lZ (wr (LWp.m false [] 4 (.one (.sl true 5 1 (encs c5 []))) (LWp.m true [(.slot 4, [.junk])] 3 (.one (.sl true 5 1 (encs c5 []))) (lZ (Wp.seq (Wp.l1 h [0, 3] [] (fun s => (s_l01Var_H1 s.1 s.2)) [0, 3] [] (fun s => (s_l01Var_H2 s.1 s.2)) ⟨rfl, rfl⟩ ?_ ?_))))))))
 ·rintro ⟨yN1, yOut1⟩ o (h : s_l01Var_b1 yN1 yOut1 = some o)
  unfold s_l01Var_b1 at h
  change Wp _ _ _ (s_l01Var_H1 yN1 yOut1) _
  refine Wp.seq (wr (lO 5 (I yN1) (lO 6 (B (decide (yN1 > 127))) (lZ (Wp.c h (fun h => ?_) (fun h => ?_))))))
  ·refine Wp.skip ?_
   refine Wp.block (wr (lO 7 (.one (.view (.slot 3) 0 [] 0)) (lO 8 (I yN1) (lO 9 (I (Int.tmod yN1 128)) (lO 10 (I (ad (Int.tmod yN1 128) 128)) (lO 11 (.one (.int .u8 (IntKind.u8.wrap (ad (Int.tmod yN1 128) 128)))) (LWp.m false [] 12 (.one (.sl true 5 1 (encs c5 [(IntKind.u8.wrap (ad (Int.tmod yN1 128) 128))]))) (LWp.pm h [(.slot 3, [.junk])] 13 (fun q1 => (.one (.sl true 5 1 (encs c5 q1)))) ?_ (fun q1 gq1 => s_apl k5 (fun _ => rfl) [(.slot 3, [.junk])] yOut1 gq1)))))))))
   intro q1 gq1 h
   refine LWp.m true [(.slot 13, [.junk])] 3 (.one (.sl true 5 1 (encs c5 q1))) (lZ (Wp.region (lO 14 (I yN1) (lO 15 (I (qu yN1 128)) (lO 0 (I (qu yN1 128)) (lZ ?_))))))
   cases h
   exact ⟨_, rfl, rfl, rfl⟩
  refine Wp.exit ?_
  cases h
  exact ⟨_, rfl, rfl, rfl⟩
 intro v1 h E hE
 refine nt_wp hE ?_
 change Wp _ _ _ (s_l01Var_H2 v1.1 v1.2) _
 refine wr (lO 16 (.one (.view (.slot 3) 0 [] 0)) (lO 17 (I v1.1) (lO 18 (.one (.int .u8 (IntKind.u8.wrap v1.1))) (LWp.m false [] 19 (.one (.sl true 5 1 (encs c5 [(IntKind.u8.wrap v1.1)]))) (LWp.pm h [(.slot 3, [.junk])] 20 (fun q2 => (.one (.sl true 5 1 (encs c5 q2)))) ?_ (fun q2 gq2 => s_apl k5 (fun _ => rfl) [(.slot 3, [.junk])] v1.2 gq2))))))
 intro q2 gq2 h
 refine lO 21 (Y (strB q2)) (lO 2 (Y (strB q2)) (lZ ?_)) (st_pure (p_cv (fun _ => rfl) q2))
 cases h
 exact Wp.ret ⟨.inr rfl, _, _, rfl, rfl⟩
end Go.TI
