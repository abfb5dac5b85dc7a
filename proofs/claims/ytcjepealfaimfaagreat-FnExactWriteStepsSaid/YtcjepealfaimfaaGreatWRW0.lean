/- That they compute it. No condition. -/
import Derived.Test.YtcjepealfaimfaaGreatWRD
import Derived.Test.YtcjepealfaimfaaGreatProg
import Derived.Test.YtcjepealfaimfaaGreatWRTIH
namespace Go.TI
set_option maxRecDepth 100000
open Go Go.Proofs
set_option linter.unusedVariables false
set_option linter.unusedSimpArgs false
theorem mixed : Tryz.prog.follows .mixedOrders = true := rfl

theorem w_szLeaf_t (xA : Leaf) (xLeft : Int) (r : Int) (h : w_szLeaf xA xLeft = some r) : Gives Tryz.prog 198 [.sv (.agg [.int .i64 xA.Is, .str xA.Text]), .sv (I xLeft)] (I r) (List.replicate 2 .gone) := by
 unfold w_szLeaf at h
 refine gives_of Tryz.func198 rfl ?_
 rw [Tryz.ntmps198]
 refine Wp.seq (Wp.region ?_)
 refine LWp.b [] 2 [.int .i64 xA.Is, .str xA.Text] ?_
 refine LWp.o 4 (I 0) ?_
 refine LWp.nil ?_
 refine Wp.seq (Wp.region ?_)
 refine LWp.o 5 (I xLeft) ?_
 refine LWp.o 6 (.one (.ptr (.box 2) 1 [] 1)) ?_
 refine LWp.o 7 (Y xA.Text) ?_
 refine LWp.o 8 (I (sln xA.Text)) ?_
 refine LWp.o 9 (I (sb xLeft (sln xA.Text))) ?_
 refine LWp.o 1 (I (sb xLeft (sln xA.Text))) ?_
 refine LWp.nil ?_
 refine Wp.seq ?_
 refine Wp.seq (Wp.region ?_)
 refine LWp.o 10 (I (sb xLeft (sln xA.Text))) ?_
 refine LWp.o 11 (B (decide ((sb xLeft (sln xA.Text)) < 0))) ?_
 refine LWp.nil ?_
 refine Wp.c h (fun h => ?_) (fun h => ?_)
 · refine Wp.seq (Wp.region ?_)
   refine LWp.o 4 (I (-1)) ?_
   refine LWp.nil ?_
   cases h
   exact Wp.ret ⟨.inr rfl, _, _, rfl, rfl⟩
 refine Wp.skip ?_
 refine Wp.seq (Wp.region ?_)
 refine LWp.o 12 (I (sb xLeft (sln xA.Text))) ?_
 refine LWp.o 4 (I (sb xLeft (sln xA.Text))) ?_
 refine LWp.nil ?_
 cases h
 exact Wp.ret ⟨.inr rfl, _, _, rfl, rfl⟩
def c247 (x : Leaf) : List TV := [.int .i64 x.Is, .str x.Text]
theorem k247 : ∀ x, (c247 x).length = 2 := fun _ => rfl
theorem sh247 : ∀ l, shares (encs c247 l) = encs c247 l := shares_encs (fun _ => rfl)
theorem ns247 : ∀ l, hasShareds (encs c247 l) = false := ns_encs (fun _ => rfl)
def w_szLeafS_H1 (xA : List Leaf) (z1 : Int) (z2 : Int) : St := mkSt [(0, (.one (.sl false 247 2 (encs c247 xA)))), (1, (I z1)), (5, (I z2))] []
def w_szLeafS_H2 (z3 : Int) : St := mkSt [(1, (I z3))] []
theorem w_szLeafS_t (xA : List Leaf) (xLeft : Int) (r : Int) (h : w_szLeafS xA xLeft = some r) : Gives Tryz.prog 164 [.sv (.one (.sl false 247 2 (encs c247 xA))), .sv (I xLeft)] (I r) (List.replicate 2 .gone) := by
 unfold w_szLeafS at h
 refine gives_of Tryz.func164 rfl ?_
 rw [Tryz.ntmps164]
 refine Wp.seq (Wp.region ?_)
 refine LWp.o 4 (I 0) ?_
 refine LWp.nil ?_
 refine Wp.seq (Wp.region ?_)
 refine LWp.o 6 (I xLeft) ?_
 refine LWp.o 7 (.one (.sl false 247 2 (encs c247 xA))) ?_
 refine LWp.o 8 (I (ln xA)) ?_ (st_pure (p_ln k247 xA))
 refine LWp.o 9 (I (sb xLeft (ln xA))) ?_
 refine LWp.o 1 (I (sb xLeft (ln xA))) ?_
 refine LWp.nil ?_
 refine Wp.seq ?_
 refine Wp.seq (Wp.region ?_)
 refine LWp.o 10 (I (sb xLeft (ln xA))) ?_
 refine LWp.o 11 (B (decide ((sb xLeft (ln xA)) < 0))) ?_
 refine LWp.nil ?_
 refine Wp.c h (fun h => ?_) (fun h => ?_)
 · refine Wp.seq (Wp.region ?_)
   refine LWp.o 4 (I (-1)) ?_
   refine LWp.nil ?_
   cases h
   exact Wp.ret ⟨.inr rfl, _, _, rfl, rfl⟩
 refine Wp.skip ?_
 refine Wp.seq ?_
 refine Wp.seq (Wp.region ?_)
 refine LWp.o 5 (I 0) ?_
 refine LWp.nil ?_
 refine Wp.l2 h [0, 1, 5] [] (fun s => (w_szLeafS_H1 xA s.1 s.2)) [1] [] (fun s => (w_szLeafS_H2 s)) ⟨rfl, rfl⟩ ?_ ?_
 · rintro ⟨yLeft1, yI1⟩ o (h : w_szLeafS_b1 xA yLeft1 yI1 = some o) hk1
   unfold w_szLeafS_b1 at h
   change Wp _ _ _ (w_szLeafS_H1 xA yLeft1 yI1) _
   refine Wp.seq ?_
   refine Wp.seq (Wp.region ?_)
   refine LWp.o 12 (I yI1) ?_
   refine LWp.o 13 (.one (.sl false 247 2 (encs c247 xA))) ?_
   refine LWp.o 14 (I (ln xA)) ?_ (st_pure (p_ln k247 xA))
   refine LWp.o 15 (B (decide (yI1 < (ln xA)))) ?_
   refine LWp.nil ?_
   refine Wp.c h (fun h => ?_) (fun h => ?_)
   · refine Wp.skip ?_
     refine Wp.seq ?_
     refine Wp.block ?_
     refine Wp.seq (Wp.region ?_)
     refine LWp.o 18 (.one (.sl false 247 2 (encs c247 xA))) ?_
     refine LWp.o 19 (I yI1) ?_
     refine LWp.p h 20 (fun _ => (.one (.ptr (.slot 18) 1 [0] (Int.toNat yI1 * 2 + 0)))) ?_ (fun x1 gx1 => st_pure (p_ix k247 (.slot 18) [] 0 gx1))
     intro x1 gx1 h
     refine LWp.o 21 (.agg [.int .i64 x1.Is, .str x1.Text]) ?_ (st_pure (p_le k247 (.slot 18) [0] gx1))
     refine LWp.o 22 (I yLeft1) ?_
     refine LWp.cl h 23 (fun v1 => (I v1)) rfl (l := [.sv (.agg [.int .i64 x1.Is, .str x1.Text]), .sv (.one (.int .i64 yLeft1))]) rfl (fun v hv => w_szLeaf_t x1 yLeft1 v hv) (.inl rfl) ?_
     intro v1 gv1 h
     refine LWp.o 1 (I v1) ?_
     refine LWp.nil ?_
     refine Wp.seq (Wp.region ?_)
     refine LWp.o 24 (I v1) ?_
     refine LWp.o 25 (B (decide (v1 < 0))) ?_
     refine LWp.nil ?_
     refine Wp.c h (fun h => ?_) (fun h => ?_)
     · refine Wp.seq (Wp.region ?_)
       refine LWp.o 4 (I (-1)) ?_
       refine LWp.nil ?_
       cases h
       replace h : some _ = some _ := hk1 _ rfl
       cases h
       exact Wp.ret ⟨.inr rfl, _, _, rfl, rfl⟩
     refine Wp.skip ?_
     refine Wp.region ?_
     refine LWp.o 16 (I yI1) ?_
     refine LWp.o 17 (I (ad yI1 1)) ?_
     refine LWp.o 5 (I (ad yI1 1)) ?_
     refine LWp.nil ?_
     cases h
     exact ⟨_, rfl, rfl, rfl⟩
   refine Wp.exit ?_
   cases h
   exact ⟨_, rfl, rfl, rfl⟩
 intro v2 h E hE
 refine nt_wp hE ?_
 change Wp _ _ _ (w_szLeafS_H2 v2) _
 refine Wp.seq (Wp.region ?_)
 refine LWp.o 26 (I v2) ?_
 refine LWp.o 4 (I v2) ?_
 refine LWp.nil ?_
 cases h
 exact Wp.ret ⟨.inr rfl, _, _, rfl, rfl⟩
theorem w_szBlock_t (xA : Block) (xLeft : Int) (r : Int) (h : w_szBlock xA xLeft = some r) : Gives Tryz.prog 117 [.sv (.agg [.bool xA.Bad, .int .i64 xA.Wear, .sl false 247 2 (encs c247 xA.Leaves)]), .sv (I xLeft)] (I r) (List.replicate 2 .gone) := by
 unfold w_szBlock at h
 refine gives_of Tryz.func117 rfl ?_
 rw [Tryz.ntmps117]
 refine Wp.seq (Wp.region ?_)
 refine LWp.b [] 2 [.bool xA.Bad, .int .i64 xA.Wear, .sl false 247 2 (encs c247 xA.Leaves)] ?_
 refine LWp.o 4 (I 0) ?_
 refine LWp.nil ?_
 refine Wp.seq (Wp.region ?_)
 refine LWp.o 5 (.one (.ptr (.box 2) 1 [] 2)) ?_
 refine LWp.o 6 (.one (.sl false 247 2 (encs c247 xA.Leaves))) ?_
 refine LWp.o 7 (I xLeft) ?_
 refine LWp.cl h 8 (fun v1 => (I v1)) rfl (l := [.sv (.one (.sl false 247 2 (encs c247 xA.Leaves))), .sv (.one (.int .i64 xLeft))]) rfl (fun v hv => w_szLeafS_t xA.Leaves xLeft v hv) (.inl rfl) ?_
 intro v1 gv1 h
 refine LWp.o 1 (I v1) ?_
 refine LWp.nil ?_
 refine Wp.seq ?_
 refine Wp.seq (Wp.region ?_)
 refine LWp.o 9 (I v1) ?_
 refine LWp.o 10 (B (decide (v1 < 0))) ?_
 refine LWp.nil ?_
 refine Wp.c h (fun h => ?_) (fun h => ?_)
 · refine Wp.seq (Wp.region ?_)
   refine LWp.o 4 (I (-1)) ?_
   refine LWp.nil ?_
   cases h
   exact Wp.ret ⟨.inr rfl, _, _, rfl, rfl⟩
 refine Wp.skip ?_
 refine Wp.seq (Wp.region ?_)
 refine LWp.o 11 (I v1) ?_
 refine LWp.o 4 (I v1) ?_
 refine LWp.nil ?_
 cases h
 exact Wp.ret ⟨.inr rfl, _, _, rfl, rfl⟩
def c176 (o : Bool) (x : Block) : List TV := [.bool x.Bad, .int .i64 x.Wear, .sl o 247 2 (encs c247 x.Leaves)]
theorem k176 (o : Bool) : ∀ x, (c176 o x).length = 3 := fun _ => rfl
theorem sh176 : ∀ l, shares (encs (c176 true) l) = encs (c176 false) l := shares_encs (fun x => by simp only [c176, shares, share, sh247])
theorem ns176 : ∀ l, hasShareds (encs (c176 true) l) = false := ns_encs (fun x => by simp [c176, hasShareds, hasShared, ns247])
def w_szBlockS_H1 (xA : List Block) (z1 : Int) (z2 : Int) : St := mkSt [(0, (.one (.sl false 176 3 (encs (c176 false) xA)))), (1, (I z1)), (5, (I z2))] []
def w_szBlockS_H2 (z3 : Int) : St := mkSt [(1, (I z3))] []
theorem w_szBlockS_t (xA : List Block) (xLeft : Int) (r : Int) (h : w_szBlockS xA xLeft = some r) : Gives Tryz.prog 77 [.sv (.one (.sl false 176 3 (encs (c176 false) xA))), .sv (I xLeft)] (I r) (List.replicate 2 .gone) := by
 unfold w_szBlockS at h
 refine gives_of Tryz.func77 rfl ?_
 rw [Tryz.ntmps77]
 refine Wp.seq (Wp.region ?_)
 refine LWp.o 4 (I 0) ?_
 refine LWp.nil ?_
 refine Wp.seq (Wp.region ?_)
 refine LWp.o 6 (I xLeft) ?_
 refine LWp.o 7 (.one (.sl false 176 3 (encs (c176 false) xA))) ?_
 refine LWp.o 8 (I (ln xA)) ?_ (st_pure (p_ln (k176 false) xA))
 refine LWp.o 9 (I (sb xLeft (ln xA))) ?_
 refine LWp.o 1 (I (sb xLeft (ln xA))) ?_
 refine LWp.nil ?_
 refine Wp.seq ?_
 refine Wp.seq (Wp.region ?_)
 refine LWp.o 10 (I (sb xLeft (ln xA))) ?_
 refine LWp.o 11 (B (decide ((sb xLeft (ln xA)) < 0))) ?_
 refine LWp.nil ?_
 refine Wp.c h (fun h => ?_) (fun h => ?_)
 · refine Wp.seq (Wp.region ?_)
   refine LWp.o 4 (I (-1)) ?_
   refine LWp.nil ?_
   cases h
   exact Wp.ret ⟨.inr rfl, _, _, rfl, rfl⟩
 refine Wp.skip ?_
 refine Wp.seq ?_
 refine Wp.seq (Wp.region ?_)
 refine LWp.o 5 (I 0) ?_
 refine LWp.nil ?_
 refine Wp.l2 h [0, 1, 5] [] (fun s => (w_szBlockS_H1 xA s.1 s.2)) [1] [] (fun s => (w_szBlockS_H2 s)) ⟨rfl, rfl⟩ ?_ ?_
 · rintro ⟨yLeft1, yI1⟩ o (h : w_szBlockS_b1 xA yLeft1 yI1 = some o) hk1
   unfold w_szBlockS_b1 at h
   change Wp _ _ _ (w_szBlockS_H1 xA yLeft1 yI1) _
   refine Wp.seq ?_
   refine Wp.seq (Wp.region ?_)
   refine LWp.o 12 (I yI1) ?_
   refine LWp.o 13 (.one (.sl false 176 3 (encs (c176 false) xA))) ?_
   refine LWp.o 14 (I (ln xA)) ?_ (st_pure (p_ln (k176 false) xA))
   refine LWp.o 15 (B (decide (yI1 < (ln xA)))) ?_
   refine LWp.nil ?_
   refine Wp.c h (fun h => ?_) (fun h => ?_)
   · refine Wp.skip ?_
     refine Wp.seq ?_
     refine Wp.block ?_
     refine Wp.seq (Wp.region ?_)
     refine LWp.o 18 (.one (.sl false 176 3 (encs (c176 false) xA))) ?_
     refine LWp.o 19 (I yI1) ?_
     refine LWp.p h 20 (fun _ => (.one (.ptr (.slot 18) 1 [0] (Int.toNat yI1 * 3 + 0)))) ?_ (fun x1 gx1 => st_pure (p_ix (k176 false) (.slot 18) [] 0 gx1))
     intro x1 gx1 h
     refine LWp.o 21 (.agg [.bool x1.Bad, .int .i64 x1.Wear, .sl false 247 2 (encs c247 x1.Leaves)]) ?_ (st_pure (p_le (k176 false) (.slot 18) [0] gx1))
     refine LWp.o 22 (I yLeft1) ?_
     refine LWp.cl h 23 (fun v1 => (I v1)) rfl (l := [.sv (.agg [.bool x1.Bad, .int .i64 x1.Wear, .sl false 247 2 (encs c247 x1.Leaves)]), .sv (.one (.int .i64 yLeft1))]) rfl (fun v hv => w_szBlock_t x1 yLeft1 v hv) (.inl rfl) ?_
     intro v1 gv1 h
     refine LWp.o 1 (I v1) ?_
     refine LWp.nil ?_
     refine Wp.seq (Wp.region ?_)
     refine LWp.o 24 (I v1) ?_
     refine LWp.o 25 (B (decide (v1 < 0))) ?_
     refine LWp.nil ?_
     refine Wp.c h (fun h => ?_) (fun h => ?_)
     · refine Wp.seq (Wp.region ?_)
       refine LWp.o 4 (I (-1)) ?_
       refine LWp.nil ?_
       cases h
       replace h : some _ = some _ := hk1 _ rfl
       cases h
       exact Wp.ret ⟨.inr rfl, _, _, rfl, rfl⟩
     refine Wp.skip ?_
     refine Wp.region ?_
     refine LWp.o 16 (I yI1) ?_
     refine LWp.o 17 (I (ad yI1 1)) ?_
     refine LWp.o 5 (I (ad yI1 1)) ?_
     refine LWp.nil ?_
     cases h
     exact ⟨_, rfl, rfl, rfl⟩
   refine Wp.exit ?_
   cases h
   exact ⟨_, rfl, rfl, rfl⟩
 intro v2 h E hE
 refine nt_wp hE ?_
 change Wp _ _ _ (w_szBlockS_H2 v2) _
 refine Wp.seq (Wp.region ?_)
 refine LWp.o 26 (I v2) ?_
 refine LWp.o 4 (I v2) ?_
 refine LWp.nil ?_
 cases h
 exact Wp.ret ⟨.inr rfl, _, _, rfl, rfl⟩
theorem w_szFlash_t (xA : Flash) (xLeft : Int) (r : Int) (h : w_szFlash xA xLeft = some r) : Gives Tryz.prog 38 [.sv (.agg [.sl false 176 3 (encs (c176 false) xA.Blocks)]), .sv (I xLeft)] (I r) (List.replicate 2 .gone) := by
 unfold w_szFlash at h
 refine gives_of Tryz.func38 rfl ?_
 rw [Tryz.ntmps38]
 refine Wp.seq (Wp.region ?_)
 refine LWp.b [] 2 [.sl false 176 3 (encs (c176 false) xA.Blocks)] ?_
 refine LWp.o 4 (I 0) ?_
 refine LWp.nil ?_
 refine Wp.seq (Wp.region ?_)
 refine LWp.o 5 (.one (.ptr (.box 2) 1 [] 0)) ?_
 refine LWp.o 6 (.one (.sl false 176 3 (encs (c176 false) xA.Blocks))) ?_
 refine LWp.o 7 (I xLeft) ?_
 refine LWp.cl h 8 (fun v1 => (I v1)) rfl (l := [.sv (.one (.sl false 176 3 (encs (c176 false) xA.Blocks))), .sv (.one (.int .i64 xLeft))]) rfl (fun v hv => w_szBlockS_t xA.Blocks xLeft v hv) (.inl rfl) ?_
 intro v1 gv1 h
 refine LWp.o 1 (I v1) ?_
 refine LWp.nil ?_
 refine Wp.seq ?_
 refine Wp.seq (Wp.region ?_)
 refine LWp.o 9 (I v1) ?_
 refine LWp.o 10 (B (decide (v1 < 0))) ?_
 refine LWp.nil ?_
 refine Wp.c h (fun h => ?_) (fun h => ?_)
 · refine Wp.seq (Wp.region ?_)
   refine LWp.o 4 (I (-1)) ?_
   refine LWp.nil ?_
   cases h
   exact Wp.ret ⟨.inr rfl, _, _, rfl, rfl⟩
 refine Wp.skip ?_
 refine Wp.seq (Wp.region ?_)
 refine LWp.o 11 (I v1) ?_
 refine LWp.o 4 (I v1) ?_
 refine LWp.nil ?_
 cases h
 exact Wp.ret ⟨.inr rfl, _, _, rfl, rfl⟩
def c188 (x : Vol) : List TV := [.int .i64 x.Id, .int .i64 x.Root]
theorem k188 : ∀ x, (c188 x).length = 2 := fun _ => rfl
theorem sh188 : ∀ l, shares (encs c188 l) = encs c188 l := shares_encs (fun _ => rfl)
theorem ns188 : ∀ l, hasShareds (encs c188 l) = false := ns_encs (fun _ => rfl)
theorem w_szVolS_t (xA : List Vol) (xLeft : Int) (r : Int) (h : w_szVolS xA xLeft = some r) : Gives Tryz.prog 78 [.sv (.one (.sl false 188 2 (encs c188 xA))), .sv (I xLeft)] (I r) (List.replicate 2 .gone) := by
 unfold w_szVolS at h
 refine gives_of Tryz.func78 rfl ?_
 rw [Tryz.ntmps78]
 refine Wp.seq (Wp.region ?_)
 refine LWp.o 4 (I 0) ?_
 refine LWp.nil ?_
 refine Wp.seq (Wp.region ?_)
 refine LWp.o 5 (I xLeft) ?_
 refine LWp.o 6 (.one (.sl false 188 2 (encs c188 xA))) ?_
 refine LWp.o 7 (I (ln xA)) ?_ (st_pure (p_ln k188 xA))
 refine LWp.o 8 (I (sb xLeft (ln xA))) ?_
 refine LWp.o 1 (I (sb xLeft (ln xA))) ?_
 refine LWp.nil ?_
 refine Wp.seq ?_
 refine Wp.seq (Wp.region ?_)
 refine LWp.o 9 (I (sb xLeft (ln xA))) ?_
 refine LWp.o 10 (B (decide ((sb xLeft (ln xA)) < 0))) ?_
 refine LWp.nil ?_
 refine Wp.c h (fun h => ?_) (fun h => ?_)
 · refine Wp.seq (Wp.region ?_)
   refine LWp.o 4 (I (-1)) ?_
   refine LWp.nil ?_
   cases h
   exact Wp.ret ⟨.inr rfl, _, _, rfl, rfl⟩
 refine Wp.skip ?_
 refine Wp.seq (Wp.region ?_)
 refine LWp.o 11 (I (sb xLeft (ln xA))) ?_
 refine LWp.o 4 (I (sb xLeft (ln xA))) ?_
 refine LWp.nil ?_
 cases h
 exact Wp.ret ⟨.inr rfl, _, _, rfl, rfl⟩
def c3 (x : Int) : List TV := [.int .i64 x]
theorem k3 : ∀ x, (c3 x).length = 1 := fun _ => rfl
theorem sh3 : ∀ l, shares (encs c3 l) = encs c3 l := shares_encs (fun _ => rfl)
theorem ns3 : ∀ l, hasShareds (encs c3 l) = false := ns_encs (fun _ => rfl)
theorem w_szIntS_t (xA : List Int) (xLeft : Int) (r : Int) (h : w_szIntS xA xLeft = some r) : Gives Tryz.prog 199 [.sv (.one (.sl false 3 1 (encs c3 xA))), .sv (I xLeft)] (I r) (List.replicate 2 .gone) := by
 unfold w_szIntS at h
 refine gives_of Tryz.func199 rfl ?_
 rw [Tryz.ntmps199]
 refine Wp.seq (Wp.region ?_)
 refine LWp.o 4 (I 0) ?_
 refine LWp.nil ?_
 refine Wp.seq (Wp.region ?_)
 refine LWp.o 5 (I xLeft) ?_
 refine LWp.o 6 (.one (.sl false 3 1 (encs c3 xA))) ?_
 refine LWp.o 7 (I (ln xA)) ?_ (st_pure (p_ln k3 xA))
 refine LWp.o 8 (I (sb xLeft (ln xA))) ?_
 refine LWp.o 1 (I (sb xLeft (ln xA))) ?_
 refine LWp.nil ?_
 refine Wp.seq ?_
 refine Wp.seq (Wp.region ?_)
 refine LWp.o 9 (I (sb xLeft (ln xA))) ?_
 refine LWp.o 10 (B (decide ((sb xLeft (ln xA)) < 0))) ?_
 refine LWp.nil ?_
 refine Wp.c h (fun h => ?_) (fun h => ?_)
 · refine Wp.seq (Wp.region ?_)
   refine LWp.o 4 (I (-1)) ?_
   refine LWp.nil ?_
   cases h
   exact Wp.ret ⟨.inr rfl, _, _, rfl, rfl⟩
 refine Wp.skip ?_
 refine Wp.seq (Wp.region ?_)
 refine LWp.o 11 (I (sb xLeft (ln xA))) ?_
 refine LWp.o 4 (I (sb xLeft (ln xA))) ?_
 refine LWp.nil ?_
 cases h
 exact Wp.ret ⟨.inr rfl, _, _, rfl, rfl⟩
theorem w_szKnot_t (xA : Knot) (xLeft : Int) (r : Int) (h : w_szKnot xA xLeft = some r) : Gives Tryz.prog 165 [.sv (.agg [.bool xA.Leaf, .sl false 3 1 (encs c3 xA.Kids)]), .sv (I xLeft)] (I r) (List.replicate 2 .gone) := by
 unfold w_szKnot at h
 refine gives_of Tryz.func165 rfl ?_
 rw [Tryz.ntmps165]
 refine Wp.seq (Wp.region ?_)
 refine LWp.b [] 2 [.bool xA.Leaf, .sl false 3 1 (encs c3 xA.Kids)] ?_
 refine LWp.o 4 (I 0) ?_
 refine LWp.nil ?_
 refine Wp.seq (Wp.region ?_)
 refine LWp.o 5 (.one (.ptr (.box 2) 1 [] 1)) ?_
 refine LWp.o 6 (.one (.sl false 3 1 (encs c3 xA.Kids))) ?_
 refine LWp.o 7 (I xLeft) ?_
 refine LWp.cl h 8 (fun v1 => (I v1)) rfl (l := [.sv (.one (.sl false 3 1 (encs c3 xA.Kids))), .sv (.one (.int .i64 xLeft))]) rfl (fun v hv => w_szIntS_t xA.Kids xLeft v hv) (.inl rfl) ?_
 intro v1 gv1 h
 refine LWp.o 1 (I v1) ?_
 refine LWp.nil ?_
 refine Wp.seq ?_
 refine Wp.seq (Wp.region ?_)
 refine LWp.o 9 (I v1) ?_
 refine LWp.o 10 (B (decide (v1 < 0))) ?_
 refine LWp.nil ?_
 refine Wp.c h (fun h => ?_) (fun h => ?_)
 · refine Wp.seq (Wp.region ?_)
   refine LWp.o 4 (I (-1)) ?_
   refine LWp.nil ?_
   cases h
   exact Wp.ret ⟨.inr rfl, _, _, rfl, rfl⟩
 refine Wp.skip ?_
 refine Wp.seq (Wp.region ?_)
 refine LWp.o 11 (I v1) ?_
 refine LWp.o 4 (I v1) ?_
 refine LWp.nil ?_
 cases h
 exact Wp.ret ⟨.inr rfl, _, _, rfl, rfl⟩
def c211 (o : Bool) (x : Knot) : List TV := [.bool x.Leaf, .sl o 3 1 (encs c3 x.Kids)]
theorem k211 (o : Bool) : ∀ x, (c211 o x).length = 2 := fun _ => rfl
theorem sh211 : ∀ l, shares (encs (c211 true) l) = encs (c211 false) l := shares_encs (fun x => by simp only [c211, shares, share, sh3])
theorem ns211 : ∀ l, hasShareds (encs (c211 true) l) = false := ns_encs (fun x => by simp [c211, hasShareds, hasShared, ns3])
def w_szKnotS_H1 (xA : List Knot) (z1 : Int) (z2 : Int) : St := mkSt [(0, (.one (.sl false 211 2 (encs (c211 false) xA)))), (1, (I z1)), (5, (I z2))] []
def w_szKnotS_H2 (z3 : Int) : St := mkSt [(1, (I z3))] []
theorem w_szKnotS_t (xA : List Knot) (xLeft : Int) (r : Int) (h : w_szKnotS xA xLeft = some r) : Gives Tryz.prog 118 [.sv (.one (.sl false 211 2 (encs (c211 false) xA))), .sv (I xLeft)] (I r) (List.replicate 2 .gone) := by
 unfold w_szKnotS at h
 refine gives_of Tryz.func118 rfl ?_
 rw [Tryz.ntmps118]
 refine Wp.seq (Wp.region ?_)
 refine LWp.o 4 (I 0) ?_
 refine LWp.nil ?_
 refine Wp.seq (Wp.region ?_)
 refine LWp.o 6 (I xLeft) ?_
 refine LWp.o 7 (.one (.sl false 211 2 (encs (c211 false) xA))) ?_
 refine LWp.o 8 (I (ln xA)) ?_ (st_pure (p_ln (k211 false) xA))
 refine LWp.o 9 (I (sb xLeft (ln xA))) ?_
 refine LWp.o 1 (I (sb xLeft (ln xA))) ?_
 refine LWp.nil ?_
 refine Wp.seq ?_
 refine Wp.seq (Wp.region ?_)
 refine LWp.o 10 (I (sb xLeft (ln xA))) ?_
 refine LWp.o 11 (B (decide ((sb xLeft (ln xA)) < 0))) ?_
 refine LWp.nil ?_
 refine Wp.c h (fun h => ?_) (fun h => ?_)
 · refine Wp.seq (Wp.region ?_)
   refine LWp.o 4 (I (-1)) ?_
   refine LWp.nil ?_
   cases h
   exact Wp.ret ⟨.inr rfl, _, _, rfl, rfl⟩
 refine Wp.skip ?_
 refine Wp.seq ?_
 refine Wp.seq (Wp.region ?_)
 refine LWp.o 5 (I 0) ?_
 refine LWp.nil ?_
 refine Wp.l2 h [0, 1, 5] [] (fun s => (w_szKnotS_H1 xA s.1 s.2)) [1] [] (fun s => (w_szKnotS_H2 s)) ⟨rfl, rfl⟩ ?_ ?_
 · rintro ⟨yLeft1, yI1⟩ o (h : w_szKnotS_b1 xA yLeft1 yI1 = some o) hk1
   unfold w_szKnotS_b1 at h
   change Wp _ _ _ (w_szKnotS_H1 xA yLeft1 yI1) _
   refine Wp.seq ?_
   refine Wp.seq (Wp.region ?_)
   refine LWp.o 12 (I yI1) ?_
   refine LWp.o 13 (.one (.sl false 211 2 (encs (c211 false) xA))) ?_
   refine LWp.o 14 (I (ln xA)) ?_ (st_pure (p_ln (k211 false) xA))
   refine LWp.o 15 (B (decide (yI1 < (ln xA)))) ?_
   refine LWp.nil ?_
   refine Wp.c h (fun h => ?_) (fun h => ?_)
   · refine Wp.skip ?_
     refine Wp.seq ?_
     refine Wp.block ?_
     refine Wp.seq (Wp.region ?_)
     refine LWp.o 18 (.one (.sl false 211 2 (encs (c211 false) xA))) ?_
     refine LWp.o 19 (I yI1) ?_
     refine LWp.p h 20 (fun _ => (.one (.ptr (.slot 18) 1 [0] (Int.toNat yI1 * 2 + 0)))) ?_ (fun x1 gx1 => st_pure (p_ix (k211 false) (.slot 18) [] 0 gx1))
     intro x1 gx1 h
     refine LWp.o 21 (.agg [.bool x1.Leaf, .sl false 3 1 (encs c3 x1.Kids)]) ?_ (st_pure (p_le (k211 false) (.slot 18) [0] gx1))
     refine LWp.o 22 (I yLeft1) ?_
     refine LWp.cl h 23 (fun v1 => (I v1)) rfl (l := [.sv (.agg [.bool x1.Leaf, .sl false 3 1 (encs c3 x1.Kids)]), .sv (.one (.int .i64 yLeft1))]) rfl (fun v hv => w_szKnot_t x1 yLeft1 v hv) (.inl rfl) ?_
     intro v1 gv1 h
     refine LWp.o 1 (I v1) ?_
     refine LWp.nil ?_
     refine Wp.seq (Wp.region ?_)
     refine LWp.o 24 (I v1) ?_
     refine LWp.o 25 (B (decide (v1 < 0))) ?_
     refine LWp.nil ?_
     refine Wp.c h (fun h => ?_) (fun h => ?_)
     · refine Wp.seq (Wp.region ?_)
       refine LWp.o 4 (I (-1)) ?_
       refine LWp.nil ?_
       cases h
       replace h : some _ = some _ := hk1 _ rfl
       cases h
       exact Wp.ret ⟨.inr rfl, _, _, rfl, rfl⟩
     refine Wp.skip ?_
     refine Wp.region ?_
     refine LWp.o 16 (I yI1) ?_
     refine LWp.o 17 (I (ad yI1 1)) ?_
     refine LWp.o 5 (I (ad yI1 1)) ?_
     refine LWp.nil ?_
     cases h
     exact ⟨_, rfl, rfl, rfl⟩
   refine Wp.exit ?_
   cases h
   exact ⟨_, rfl, rfl, rfl⟩
 intro v2 h E hE
 refine nt_wp hE ?_
 change Wp _ _ _ (w_szKnotS_H2 v2) _
 refine Wp.seq (Wp.region ?_)
 refine LWp.o 26 (I v2) ?_
 refine LWp.o 4 (I v2) ?_
 refine LWp.nil ?_
 cases h
 exact Wp.ret ⟨.inr rfl, _, _, rfl, rfl⟩
theorem w_szArena_t (xA : Arena) (xLeft : Int) (r : Int) (h : w_szArena xA xLeft = some r) : Gives Tryz.prog 79 [.sv (.agg [.sl false 211 2 (encs (c211 false) xA.Knots)]), .sv (I xLeft)] (I r) (List.replicate 2 .gone) := by
 unfold w_szArena at h
 refine gives_of Tryz.func79 rfl ?_
 rw [Tryz.ntmps79]
 refine Wp.seq (Wp.region ?_)
 refine LWp.b [] 2 [.sl false 211 2 (encs (c211 false) xA.Knots)] ?_
 refine LWp.o 4 (I 0) ?_
 refine LWp.nil ?_
 refine Wp.seq (Wp.region ?_)
 refine LWp.o 5 (.one (.ptr (.box 2) 1 [] 0)) ?_
 refine LWp.o 6 (.one (.sl false 211 2 (encs (c211 false) xA.Knots))) ?_
 refine LWp.o 7 (I xLeft) ?_
 refine LWp.cl h 8 (fun v1 => (I v1)) rfl (l := [.sv (.one (.sl false 211 2 (encs (c211 false) xA.Knots))), .sv (.one (.int .i64 xLeft))]) rfl (fun v hv => w_szKnotS_t xA.Knots xLeft v hv) (.inl rfl) ?_
 intro v1 gv1 h
 refine LWp.o 1 (I v1) ?_
 refine LWp.nil ?_
 refine Wp.seq ?_
 refine Wp.seq (Wp.region ?_)
 refine LWp.o 9 (I v1) ?_
 refine LWp.o 10 (B (decide (v1 < 0))) ?_
 refine LWp.nil ?_
 refine Wp.c h (fun h => ?_) (fun h => ?_)
 · refine Wp.seq (Wp.region ?_)
   refine LWp.o 4 (I (-1)) ?_
   refine LWp.nil ?_
   cases h
   exact Wp.ret ⟨.inr rfl, _, _, rfl, rfl⟩
 refine Wp.skip ?_
 refine Wp.seq (Wp.region ?_)
 refine LWp.o 11 (I v1) ?_
 refine LWp.o 4 (I v1) ?_
 refine LWp.nil ?_
 cases h
 exact Wp.ret ⟨.inr rfl, _, _, rfl, rfl⟩
theorem w_szStore_t (xA : Store) (xLeft : Int) (r : Int) (h : w_szStore xA xLeft = some r) : Gives Tryz.prog 39 [.sv (.agg [.sl false 188 2 (encs c188 xA.Vols), .sl false 211 2 (encs (c211 false) xA.Arena.Knots), .int .i64 xA.Next]), .sv (I xLeft)] (I r) (List.replicate 2 .gone) := by
 unfold w_szStore at h
 refine gives_of Tryz.func39 rfl ?_
 rw [Tryz.ntmps39]
 refine Wp.seq (Wp.region ?_)
 refine LWp.b [] 2 [.sl false 188 2 (encs c188 xA.Vols), .sl false 211 2 (encs (c211 false) xA.Arena.Knots), .int .i64 xA.Next] ?_
 refine LWp.o 4 (I 0) ?_
 refine LWp.nil ?_
 refine Wp.seq (Wp.region ?_)
 refine LWp.o 5 (.one (.ptr (.box 2) 1 [] 0)) ?_
 refine LWp.o 6 (.one (.sl false 188 2 (encs c188 xA.Vols))) ?_
 refine LWp.o 7 (I xLeft) ?_
 refine LWp.cl h 8 (fun v1 => (I v1)) rfl (l := [.sv (.one (.sl false 188 2 (encs c188 xA.Vols))), .sv (.one (.int .i64 xLeft))]) rfl (fun v hv => w_szVolS_t xA.Vols xLeft v hv) (.inl rfl) ?_
 intro v1 gv1 h
 refine LWp.o 1 (I v1) ?_
 refine LWp.nil ?_
 refine Wp.seq ?_
 refine Wp.seq (Wp.region ?_)
 refine LWp.o 9 (I v1) ?_
 refine LWp.o 10 (B (decide (v1 < 0))) ?_
 refine LWp.nil ?_
 refine Wp.c h (fun h => ?_) (fun h => ?_)
 · refine Wp.seq (Wp.region ?_)
   refine LWp.o 4 (I (-1)) ?_
   refine LWp.nil ?_
   cases h
   exact Wp.ret ⟨.inr rfl, _, _, rfl, rfl⟩
 refine Wp.skip ?_
 refine Wp.seq (Wp.region ?_)
 refine LWp.o 11 (.one (.ptr (.box 2) 1 [] 1)) ?_
 refine LWp.o 12 (.agg [.sl false 211 2 (encs (c211 false) xA.Arena.Knots)]) ?_
 refine LWp.o 13 (I v1) ?_
 refine LWp.cl h 14 (fun v2 => (I v2)) rfl (l := [.sv (.agg [.sl false 211 2 (encs (c211 false) xA.Arena.Knots)]), .sv (.one (.int .i64 v1))]) rfl (fun v hv => w_szArena_t xA.Arena v1 v hv) (.inl rfl) ?_
 intro v2 gv2 h
 refine LWp.o 1 (I v2) ?_
 refine LWp.nil ?_
 refine Wp.seq ?_
 refine Wp.seq (Wp.region ?_)
 refine LWp.o 15 (I v2) ?_
 refine LWp.o 16 (B (decide (v2 < 0))) ?_
 refine LWp.nil ?_
 refine Wp.c h (fun h => ?_) (fun h => ?_)
 · refine Wp.seq (Wp.region ?_)
   refine LWp.o 4 (I (-1)) ?_
   refine LWp.nil ?_
   cases h
   exact Wp.ret ⟨.inr rfl, _, _, rfl, rfl⟩
 refine Wp.skip ?_
 refine Wp.seq (Wp.region ?_)
 refine LWp.o 17 (I v2) ?_
 refine LWp.o 4 (I v2) ?_
 refine LWp.nil ?_
 cases h
 exact Wp.ret ⟨.inr rfl, _, _, rfl, rfl⟩
theorem w_szDevice_t (xA : Device) (xLeft : Int) (r : Int) (h : w_szDevice xA xLeft = some r) : Gives Tryz.prog 8 [.sv (.agg [.sl false 176 3 (encs (c176 false) xA.Flash.Blocks), .sl false 188 2 (encs c188 xA.Store.Vols), .sl false 211 2 (encs (c211 false) xA.Store.Arena.Knots), .int .i64 xA.Store.Next, .int .i64 xA.Seq, .int .i64 xA.Tx, .int .i64 xA.Base]), .sv (I xLeft)] (I r) (List.replicate 2 .gone) := by
 unfold w_szDevice at h
 refine gives_of Tryz.func8 rfl ?_
 rw [Tryz.ntmps8]
 refine Wp.seq (Wp.region ?_)
 refine LWp.b [] 2 [.sl false 176 3 (encs (c176 false) xA.Flash.Blocks), .sl false 188 2 (encs c188 xA.Store.Vols), .sl false 211 2 (encs (c211 false) xA.Store.Arena.Knots), .int .i64 xA.Store.Next, .int .i64 xA.Seq, .int .i64 xA.Tx, .int .i64 xA.Base] ?_
 refine LWp.o 4 (I 0) ?_
 refine LWp.nil ?_
 refine Wp.seq (Wp.region ?_)
 refine LWp.o 5 (.one (.ptr (.box 2) 1 [] 0)) ?_
 refine LWp.o 6 (.agg [.sl false 176 3 (encs (c176 false) xA.Flash.Blocks)]) ?_
 refine LWp.o 7 (I xLeft) ?_
 refine LWp.cl h 8 (fun v1 => (I v1)) rfl (l := [.sv (.agg [.sl false 176 3 (encs (c176 false) xA.Flash.Blocks)]), .sv (.one (.int .i64 xLeft))]) rfl (fun v hv => w_szFlash_t xA.Flash xLeft v hv) (.inl rfl) ?_
 intro v1 gv1 h
 refine LWp.o 1 (I v1) ?_
 refine LWp.nil ?_
 refine Wp.seq ?_
 refine Wp.seq (Wp.region ?_)
 refine LWp.o 9 (I v1) ?_
 refine LWp.o 10 (B (decide (v1 < 0))) ?_
 refine LWp.nil ?_
 refine Wp.c h (fun h => ?_) (fun h => ?_)
 · refine Wp.seq (Wp.region ?_)
   refine LWp.o 4 (I (-1)) ?_
   refine LWp.nil ?_
   cases h
   exact Wp.ret ⟨.inr rfl, _, _, rfl, rfl⟩
 refine Wp.skip ?_
 refine Wp.seq (Wp.region ?_)
 refine LWp.o 11 (.one (.ptr (.box 2) 1 [] 1)) ?_
 refine LWp.o 12 (.agg [.sl false 188 2 (encs c188 xA.Store.Vols), .sl false 211 2 (encs (c211 false) xA.Store.Arena.Knots), .int .i64 xA.Store.Next]) ?_
 refine LWp.o 13 (I v1) ?_
 refine LWp.cl h 14 (fun v2 => (I v2)) rfl (l := [.sv (.agg [.sl false 188 2 (encs c188 xA.Store.Vols), .sl false 211 2 (encs (c211 false) xA.Store.Arena.Knots), .int .i64 xA.Store.Next]), .sv (.one (.int .i64 v1))]) rfl (fun v hv => w_szStore_t xA.Store v1 v hv) (.inl rfl) ?_
 intro v2 gv2 h
 refine LWp.o 1 (I v2) ?_
 refine LWp.nil ?_
 refine Wp.seq ?_
 refine Wp.seq (Wp.region ?_)
 refine LWp.o 15 (I v2) ?_
 refine LWp.o 16 (B (decide (v2 < 0))) ?_
 refine LWp.nil ?_
 refine Wp.c h (fun h => ?_) (fun h => ?_)
 · refine Wp.seq (Wp.region ?_)
   refine LWp.o 4 (I (-1)) ?_
   refine LWp.nil ?_
   cases h
   exact Wp.ret ⟨.inr rfl, _, _, rfl, rfl⟩
 refine Wp.skip ?_
 refine Wp.seq (Wp.region ?_)
 refine LWp.o 17 (I v2) ?_
 refine LWp.o 4 (I v2) ?_
 refine LWp.nil ?_
 cases h
 exact Wp.ret ⟨.inr rfl, _, _, rfl, rfl⟩
def c92 (x : Rec) : List TV := [.int .i64 x.Kind, .int .i64 x.Vol, .int .i64 x.Arg, .int .i64 x.Chunk]
theorem k92 : ∀ x, (c92 x).length = 4 := fun _ => rfl
theorem sh92 : ∀ l, shares (encs c92 l) = encs c92 l := shares_encs (fun _ => rfl)
theorem ns92 : ∀ l, hasShareds (encs c92 l) = false := ns_encs (fun _ => rfl)
theorem w_szRecS_t (xA : List Rec) (xLeft : Int) (r : Int) (h : w_szRecS xA xLeft = some r) : Gives Tryz.prog 9 [.sv (.one (.sl false 92 4 (encs c92 xA))), .sv (I xLeft)] (I r) (List.replicate 2 .gone) := by
 unfold w_szRecS at h
 refine gives_of Tryz.func9 rfl ?_
 rw [Tryz.ntmps9]
 refine Wp.seq (Wp.region ?_)
 refine LWp.o 4 (I 0) ?_
 refine LWp.nil ?_
 refine Wp.seq (Wp.region ?_)
 refine LWp.o 5 (I xLeft) ?_
 refine LWp.o 6 (.one (.sl false 92 4 (encs c92 xA))) ?_
 refine LWp.o 7 (I (ln xA)) ?_ (st_pure (p_ln k92 xA))
 refine LWp.o 8 (I (sb xLeft (ln xA))) ?_
 refine LWp.o 1 (I (sb xLeft (ln xA))) ?_
 refine LWp.nil ?_
 refine Wp.seq ?_
 refine Wp.seq (Wp.region ?_)
 refine LWp.o 9 (I (sb xLeft (ln xA))) ?_
 refine LWp.o 10 (B (decide ((sb xLeft (ln xA)) < 0))) ?_
 refine LWp.nil ?_
 refine Wp.c h (fun h => ?_) (fun h => ?_)
 · refine Wp.seq (Wp.region ?_)
   refine LWp.o 4 (I (-1)) ?_
   refine LWp.nil ?_
   cases h
   exact Wp.ret ⟨.inr rfl, _, _, rfl, rfl⟩
 refine Wp.skip ?_
 refine Wp.seq (Wp.region ?_)
 refine LWp.o 11 (I (sb xLeft (ln xA))) ?_
 refine LWp.o 4 (I (sb xLeft (ln xA))) ?_
 refine LWp.nil ?_
 cases h
 exact Wp.ret ⟨.inr rfl, _, _, rfl, rfl⟩
theorem w_toLeaf_t (xA : Leaf) (r : Leaf) (h : w_toLeaf xA = some r) : Gives Tryz.prog 201 [.sv (.agg [.int .i64 xA.Is, .str xA.Text])] (.agg [.int .i64 r.Is, .str r.Text]) (List.replicate 1 .gone) := by
 unfold w_toLeaf at h
 refine gives_of Tryz.func201 rfl ?_
 rw [Tryz.ntmps201]
 refine Wp.seq (Wp.region ?_)
 refine LWp.b [] 1 [.int .i64 xA.Is, .str xA.Text] ?_
 refine LWp.b [] 2 [.int .i64 0, .str (bs [])] ?_
 refine LWp.nil ?_
 refine Wp.seq (Wp.region ?_)
 refine LWp.b [] 3 [.int .i64 0, .str (bs [])] ?_
 refine LWp.nil ?_
 refine Wp.seq (Wp.region ?_)
 refine LWp.o 4 (.one (.ptr (.box 1) 1 [] 0)) ?_
 refine LWp.o 5 (I xA.Is) ?_
 refine LWp.o 6 (.one (.ptr (.box 3) 1 [] 0)) ?_
 refine LWp.s [] (.box 3) [.int .i64 xA.Is, .str (bs [])] ?_
 refine LWp.nil ?_
 refine Wp.seq (Wp.region ?_)
 refine LWp.o 7 (.one (.ptr (.box 1) 1 [] 1)) ?_
 refine LWp.o 8 (Y xA.Text) ?_
 refine LWp.o 9 (.one (.ptr (.box 3) 1 [] 1)) ?_
 refine LWp.s [] (.box 3) [.int .i64 xA.Is, .str xA.Text] ?_
 refine LWp.nil ?_
 refine Wp.seq (Wp.region ?_)
 refine LWp.o 10 (.agg [.int .i64 xA.Is, .str xA.Text]) ?_
 refine LWp.s [] (.box 2) [.int .i64 xA.Is, .str xA.Text] ?_
 refine LWp.nil ?_
 cases h
 exact Wp.ret ⟨.inr rfl, _, _, rfl, rfl⟩
def c165 (x : Leaf) : List TV := [.int .i64 x.Is, .str x.Text]
theorem k165 : ∀ x, (c165 x).length = 2 := fun _ => rfl
theorem sh165 : ∀ l, shares (encs c165 l) = encs c165 l := shares_encs (fun _ => rfl)
theorem ns165 : ∀ l, hasShareds (encs c165 l) = false := ns_encs (fun _ => rfl)
def w_toLeafS_H1 (xA : List Leaf) (z1 : List Leaf) (z2 : Int) : St := mkSt [(0, (.one (.sl false 247 2 (encs c247 xA)))), (3, (.one (.sl true 165 2 (encs c165 z1)))), (4, (I z2))] []
def w_toLeafS_H2 (z3 : List Leaf) : St := mkSt [(3, (.one (.sl true 165 2 (encs c165 z3))))] []
theorem w_toLeafS_t (xA : List Leaf) (r : List Leaf) (h : w_toLeafS xA = some r) : Gives Tryz.prog 170 [.sv (.one (.sl false 247 2 (encs c247 xA)))] (.one (.sl true 165 2 (encs c165 r))) (List.replicate 1 .gone) := by
 unfold w_toLeafS at h
 refine gives_of Tryz.func170 rfl ?_
 rw [Tryz.ntmps170]
 refine Wp.seq (Wp.region ?_)
 refine LWp.o 2 (.one (.sl true 165 2 (encs c165 []))) ?_
 refine LWp.nil ?_
 refine Wp.seq (Wp.region ?_)
 refine LWp.o 5 (.one (.sl false 247 2 (encs c247 xA))) ?_
 refine LWp.o 6 (I (ln xA)) ?_ (st_pure (p_ln k247 xA))
 refine LWp.p h 7 (fun q1 => (.one (.sl true 165 2 (encs c165 q1)))) ?_ (fun q1 gq1 => s_mk (f := c165) (Leaf.mk 0 (bs [])) gq1)
 intro q1 gq1 h
 refine LWp.m true [(.slot 7, [.junk])] 3 (.one (.sl true 165 2 (encs c165 q1))) ?_
 refine LWp.nil ?_
 refine Wp.seq ?_
 refine Wp.seq (Wp.region ?_)
 refine LWp.o 4 (I 0) ?_
 refine LWp.nil ?_
 refine Wp.l1 h [0, 3, 4] [] (fun s => (w_toLeafS_H1 xA s.1 s.2)) [3] [] (fun s => (w_toLeafS_H2 s)) ⟨rfl, rfl⟩ ?_ ?_
 · rintro ⟨yOut1, yI1⟩ o (h : w_toLeafS_b1 xA yOut1 yI1 = some o)
   unfold w_toLeafS_b1 at h
   change Wp _ _ _ (w_toLeafS_H1 xA yOut1 yI1) _
   refine Wp.seq ?_
   refine Wp.seq (Wp.region ?_)
   refine LWp.o 8 (I yI1) ?_
   refine LWp.o 9 (.one (.sl false 247 2 (encs c247 xA))) ?_
   refine LWp.o 10 (I (ln xA)) ?_ (st_pure (p_ln k247 xA))
   refine LWp.o 11 (B (decide (yI1 < (ln xA)))) ?_
   refine LWp.nil ?_
   refine Wp.c h (fun h => ?_) (fun h => ?_)
   · refine Wp.skip ?_
     refine Wp.seq ?_
     refine Wp.block ?_
     refine Wp.region ?_
     refine LWp.o 14 (.one (.view (.slot 3) 0 [] 0)) ?_
     refine LWp.o 15 (I yI1) ?_
     refine LWp.o 16 (.one (.sl false 247 2 (encs c247 xA))) ?_
     refine LWp.o 17 (I yI1) ?_
     refine LWp.p h 18 (fun _ => (.one (.ptr (.slot 16) 1 [0] (Int.toNat yI1 * 2 + 0)))) ?_ (fun x1 gx1 => st_pure (p_ix k247 (.slot 16) [] 0 gx1))
     intro x1 gx1 h
     refine LWp.o 19 (.agg [.int .i64 x1.Is, .str x1.Text]) ?_ (st_pure (p_le k247 (.slot 16) [0] gx1))
     refine LWp.cl h 20 (fun v1 => (.agg [.int .i64 v1.Is, .str v1.Text])) rfl (l := [.sv (.agg [.int .i64 x1.Is, .str x1.Text])]) rfl (fun v hv => w_toLeaf_t x1 v hv) (.inl rfl) ?_
     intro v1 gv1 h
     refine LWp.p h 21 (fun _ => (.one (.ptr (.slot 3) 0 [0] (Int.toNat yI1 * 2 + 0)))) ?_ (fun x2 gx2 => st_pure (p_ix k165 (.slot 3) [] 0 gx2))
     intro x2 gx2 h
     refine LWp.sb [] (.slot 3) [.sl true 165 2 (encs c165 (si yOut1 yI1 v1))] ?_ (s_st [] (q := [0]) (cs := [.sl true 165 2 (encs c165 yOut1)]) (xs := [.int .i64 v1.Is, .str v1.Text]) (At.one (setRow_gi k165 (k := 0) (z := v1) gx2 rfl rfl)) (fit_gi k165 (k := 0) gx2 rfl))
     refine LWp.nil ?_
     refine Wp.region ?_
     refine LWp.o 12 (I yI1) ?_
     refine LWp.o 13 (I (ad yI1 1)) ?_
     refine LWp.o 4 (I (ad yI1 1)) ?_
     refine LWp.nil ?_
     cases h
     exact ⟨_, rfl, rfl, rfl⟩
   refine Wp.exit ?_
   cases h
   exact ⟨_, rfl, rfl, rfl⟩
 intro v2 h E hE
 refine nt_wp hE ?_
 change Wp _ _ _ (w_toLeafS_H2 v2) _
 refine Wp.seq (Wp.region ?_)
 refine LWp.o 22 (.one (.view (.slot 3) 0 [] 0)) ?_
 refine LWp.m true [(.slot 3, [.junk])] 2 (.one (.sl true 165 2 (encs c165 v2))) ?_
 refine LWp.nil ?_
 cases h
 exact Wp.ret ⟨.inr rfl, _, _, rfl, rfl⟩
theorem w_toBlock_t (xA : Block) (r : Block) (h : w_toBlock xA = some r) : Gives Tryz.prog 131 [.sv (.agg [.bool xA.Bad, .int .i64 xA.Wear, .sl false 247 2 (encs c247 xA.Leaves)])] (.agg [.bool r.Bad, .int .i64 r.Wear, .sl true 165 2 (encs c165 r.Leaves)]) (List.replicate 1 .gone) := by
 unfold w_toBlock at h
 refine gives_of Tryz.func131 rfl ?_
 rw [Tryz.ntmps131]
 refine Wp.seq (Wp.region ?_)
 refine LWp.b [] 1 [.bool xA.Bad, .int .i64 xA.Wear, .sl false 247 2 (encs c247 xA.Leaves)] ?_
 refine LWp.b [] 2 [.bool false, .int .i64 0, .sl true 165 2 (encs c165 [])] ?_
 refine LWp.nil ?_
 refine Wp.seq (Wp.region ?_)
 refine LWp.b [] 3 [.bool false, .int .i64 0, .sl true 165 2 (encs c165 [])] ?_
 refine LWp.nil ?_
 refine Wp.seq (Wp.region ?_)
 refine LWp.o 4 (.one (.ptr (.box 1) 1 [] 0)) ?_
 refine LWp.o 5 (B xA.Bad) ?_
 refine LWp.o 6 (.one (.ptr (.box 3) 1 [] 0)) ?_
 refine LWp.s [] (.box 3) [.bool xA.Bad, .int .i64 0, .sl true 165 2 (encs c165 [])] ?_
 refine LWp.nil ?_
 refine Wp.seq (Wp.region ?_)
 refine LWp.o 7 (.one (.ptr (.box 1) 1 [] 1)) ?_
 refine LWp.o 8 (I xA.Wear) ?_
 refine LWp.o 9 (.one (.ptr (.box 3) 1 [] 1)) ?_
 refine LWp.s [] (.box 3) [.bool xA.Bad, .int .i64 xA.Wear, .sl true 165 2 (encs c165 [])] ?_
 refine LWp.nil ?_
 refine Wp.seq (Wp.region ?_)
 refine LWp.o 10 (.one (.ptr (.box 1) 1 [] 2)) ?_
 refine LWp.o 11 (.one (.sl false 247 2 (encs c247 xA.Leaves))) ?_
 refine LWp.cl h 12 (fun v1 => (.one (.sl true 165 2 (encs c165 v1)))) rfl (l := [.sv (.one (.sl false 247 2 (encs c247 xA.Leaves)))]) rfl (fun v hv => w_toLeafS_t xA.Leaves v hv) (.inl rfl) ?_
 intro v1 gv1 h
 refine LWp.o 13 (.one (.ptr (.box 3) 1 [] 2)) ?_
 refine LWp.sb [(.slot 12, [.junk])] (.box 3) [.bool xA.Bad, .int .i64 xA.Wear, .sl true 165 2 (encs c165 v1)] ?_
 refine LWp.nil ?_
 refine Wp.seq (Wp.region ?_)
 refine LWp.o 14 (.agg [.bool xA.Bad, .int .i64 xA.Wear, .view (.box 3) 2 [] 2]) ?_
 refine LWp.sb [(.box 3, [.bool xA.Bad, .int .i64 xA.Wear, .junk])] (.box 2) [.bool xA.Bad, .int .i64 xA.Wear, .sl true 165 2 (encs c165 v1)] ?_
 refine LWp.nil ?_
 cases h
 exact Wp.ret ⟨.inr rfl, _, _, rfl, rfl⟩
def c124 (o : Bool) (x : Block) : List TV := [.bool x.Bad, .int .i64 x.Wear, .sl o 165 2 (encs c165 x.Leaves)]
theorem k124 (o : Bool) : ∀ x, (c124 o x).length = 3 := fun _ => rfl
theorem sh124 : ∀ l, shares (encs (c124 true) l) = encs (c124 false) l := shares_encs (fun x => by simp only [c124, shares, share, sh165])
theorem ns124 : ∀ l, hasShareds (encs (c124 true) l) = false := ns_encs (fun x => by simp [c124, hasShareds, hasShared, ns165])
def w_toBlockS_H1 (xA : List Block) (z1 : List Block) (z2 : Int) : St := mkSt [(0, (.one (.sl false 176 3 (encs (c176 false) xA)))), (3, (.one (.sl true 124 3 (encs (c124 true) z1)))), (4, (I z2))] []
def w_toBlockS_H2 (z3 : List Block) : St := mkSt [(3, (.one (.sl true 124 3 (encs (c124 true) z3))))] []
theorem w_toBlockS_t (xA : List Block) (r : List Block) (h : w_toBlockS xA = some r) : Gives Tryz.prog 85 [.sv (.one (.sl false 176 3 (encs (c176 false) xA)))] (.one (.sl true 124 3 (encs (c124 true) r))) (List.replicate 1 .gone) := by
 unfold w_toBlockS at h
 refine gives_of Tryz.func85 rfl ?_
 rw [Tryz.ntmps85]
 refine Wp.seq (Wp.region ?_)
 refine LWp.o 2 (.one (.sl true 124 3 (encs (c124 true) []))) ?_
 refine LWp.nil ?_
 refine Wp.seq (Wp.region ?_)
 refine LWp.o 5 (.one (.sl false 176 3 (encs (c176 false) xA))) ?_
 refine LWp.o 6 (I (ln xA)) ?_ (st_pure (p_ln (k176 false) xA))
 refine LWp.p h 7 (fun q1 => (.one (.sl true 124 3 (encs (c124 true) q1)))) ?_ (fun q1 gq1 => s_mk (f := (c124 true)) (Block.mk false 0 []) gq1)
 intro q1 gq1 h
 refine LWp.m true [(.slot 7, [.junk])] 3 (.one (.sl true 124 3 (encs (c124 true) q1))) ?_
 refine LWp.nil ?_
 refine Wp.seq ?_
 refine Wp.seq (Wp.region ?_)
 refine LWp.o 4 (I 0) ?_
 refine LWp.nil ?_
 refine Wp.l1 h [0, 3, 4] [] (fun s => (w_toBlockS_H1 xA s.1 s.2)) [3] [] (fun s => (w_toBlockS_H2 s)) ⟨rfl, rfl⟩ ?_ ?_
 · rintro ⟨yOut1, yI1⟩ o (h : w_toBlockS_b1 xA yOut1 yI1 = some o)
   unfold w_toBlockS_b1 at h
   change Wp _ _ _ (w_toBlockS_H1 xA yOut1 yI1) _
   refine Wp.seq ?_
   refine Wp.seq (Wp.region ?_)
   refine LWp.o 8 (I yI1) ?_
   refine LWp.o 9 (.one (.sl false 176 3 (encs (c176 false) xA))) ?_
   refine LWp.o 10 (I (ln xA)) ?_ (st_pure (p_ln (k176 false) xA))
   refine LWp.o 11 (B (decide (yI1 < (ln xA)))) ?_
   refine LWp.nil ?_
   refine Wp.c h (fun h => ?_) (fun h => ?_)
   · refine Wp.skip ?_
     refine Wp.seq ?_
     refine Wp.block ?_
     refine Wp.region ?_
     refine LWp.o 14 (.one (.view (.slot 3) 0 [] 0)) ?_
     refine LWp.o 15 (I yI1) ?_
     refine LWp.o 16 (.one (.sl false 176 3 (encs (c176 false) xA))) ?_
     refine LWp.o 17 (I yI1) ?_
     refine LWp.p h 18 (fun _ => (.one (.ptr (.slot 16) 1 [0] (Int.toNat yI1 * 3 + 0)))) ?_ (fun x1 gx1 => st_pure (p_ix (k176 false) (.slot 16) [] 0 gx1))
     intro x1 gx1 h
     refine LWp.o 19 (.agg [.bool x1.Bad, .int .i64 x1.Wear, .sl false 247 2 (encs c247 x1.Leaves)]) ?_ (st_pure (p_le (k176 false) (.slot 16) [0] gx1))
     refine LWp.cl h 20 (fun v1 => (.agg [.bool v1.Bad, .int .i64 v1.Wear, .sl true 165 2 (encs c165 v1.Leaves)])) rfl (l := [.sv (.agg [.bool x1.Bad, .int .i64 x1.Wear, .sl false 247 2 (encs c247 x1.Leaves)])]) rfl (fun v hv => w_toBlock_t x1 v hv) (.inl rfl) ?_
     intro v1 gv1 h
     refine LWp.p h 21 (fun _ => (.one (.ptr (.slot 3) 0 [0] (Int.toNat yI1 * 3 + 0)))) ?_ (fun x2 gx2 => st_pure (p_ix (k124 true) (.slot 3) [] 0 gx2))
     intro x2 gx2 h
     refine LWp.sb [(.slot 20, [.bool v1.Bad, .int .i64 v1.Wear, .junk])] (.slot 3) [.sl true 124 3 (encs (c124 true) (si yOut1 yI1 v1))] ?_ (s_st [(.slot 20, [.bool v1.Bad, .int .i64 v1.Wear, .junk])] (q := [0]) (cs := [.sl true 124 3 (encs (c124 true) yOut1)]) (xs := [.bool v1.Bad, .int .i64 v1.Wear, .sl true 165 2 (encs c165 v1.Leaves)]) (At.one (setRow_gi (k124 true) (k := 0) (z := v1) gx2 rfl rfl)) (fit_gi (k124 true) (k := 0) gx2 rfl))
     refine LWp.nil ?_
     refine Wp.region ?_
     refine LWp.o 12 (I yI1) ?_
     refine LWp.o 13 (I (ad yI1 1)) ?_
     refine LWp.o 4 (I (ad yI1 1)) ?_
     refine LWp.nil ?_
     cases h
     exact ⟨_, rfl, rfl, rfl⟩
   refine Wp.exit ?_
   cases h
   exact ⟨_, rfl, rfl, rfl⟩
 intro v2 h E hE
 refine nt_wp hE ?_
 change Wp _ _ _ (w_toBlockS_H2 v2) _
 refine Wp.seq (Wp.region ?_)
 refine LWp.o 22 (.one (.view (.slot 3) 0 [] 0)) ?_
 refine LWp.m true [(.slot 3, [.junk])] 2 (.one (.sl true 124 3 (encs (c124 true) v2))) ?_
 refine LWp.nil ?_
 cases h
 exact Wp.ret ⟨.inr rfl, _, _, rfl, rfl⟩
theorem w_toFlash_t (xA : Flash) (r : Flash) (h : w_toFlash xA = some r) : Gives Tryz.prog 42 [.sv (.agg [.sl false 176 3 (encs (c176 false) xA.Blocks)])] (.agg [.sl true 124 3 (encs (c124 true) r.Blocks)]) (List.replicate 1 .gone) := by
 unfold w_toFlash at h
 refine gives_of Tryz.func42 rfl ?_
 rw [Tryz.ntmps42]
 refine Wp.seq (Wp.region ?_)
 refine LWp.b [] 1 [.sl false 176 3 (encs (c176 false) xA.Blocks)] ?_
 refine LWp.b [] 2 [.sl true 124 3 (encs (c124 true) [])] ?_
 refine LWp.nil ?_
 refine Wp.seq (Wp.region ?_)
 refine LWp.b [] 3 [.sl true 124 3 (encs (c124 true) [])] ?_
 refine LWp.nil ?_
 refine Wp.seq (Wp.region ?_)
 refine LWp.o 4 (.one (.ptr (.box 1) 1 [] 0)) ?_
 refine LWp.o 5 (.one (.sl false 176 3 (encs (c176 false) xA.Blocks))) ?_
 refine LWp.cl h 6 (fun v1 => (.one (.sl true 124 3 (encs (c124 true) v1)))) rfl (l := [.sv (.one (.sl false 176 3 (encs (c176 false) xA.Blocks)))]) rfl (fun v hv => w_toBlockS_t xA.Blocks v hv) (.inl rfl) ?_
 intro v1 gv1 h
 refine LWp.o 7 (.one (.ptr (.box 3) 1 [] 0)) ?_
 refine LWp.sb [(.slot 6, [.junk])] (.box 3) [.sl true 124 3 (encs (c124 true) v1)] ?_
 refine LWp.nil ?_
 refine Wp.seq (Wp.region ?_)
 refine LWp.o 8 (.agg [.view (.box 3) 2 [] 0]) ?_
 refine LWp.sb [(.box 3, [.junk])] (.box 2) [.sl true 124 3 (encs (c124 true) v1)] ?_
 refine LWp.nil ?_
 cases h
 exact Wp.ret ⟨.inr rfl, _, _, rfl, rfl⟩
theorem w_toVol_t (xA : Vol) (r : Vol) (h : w_toVol xA = some r) : Gives Tryz.prog 132 [.sv (.agg [.int .i64 xA.Id, .int .i64 xA.Root])] (.agg [.int .i64 r.Id, .int .i64 r.Root]) (List.replicate 1 .gone) := by
 unfold w_toVol at h
 refine gives_of Tryz.func132 rfl ?_
 rw [Tryz.ntmps132]
 refine Wp.seq (Wp.region ?_)
 refine LWp.b [] 1 [.int .i64 xA.Id, .int .i64 xA.Root] ?_
 refine LWp.b [] 2 [.int .i64 0, .int .i64 0] ?_
 refine LWp.nil ?_
 refine Wp.seq (Wp.region ?_)
 refine LWp.b [] 3 [.int .i64 0, .int .i64 0] ?_
 refine LWp.nil ?_
 refine Wp.seq (Wp.region ?_)
 refine LWp.o 4 (.one (.ptr (.box 1) 1 [] 0)) ?_
 refine LWp.o 5 (I xA.Id) ?_
 refine LWp.o 6 (.one (.ptr (.box 3) 1 [] 0)) ?_
 refine LWp.s [] (.box 3) [.int .i64 xA.Id, .int .i64 0] ?_
 refine LWp.nil ?_
 refine Wp.seq (Wp.region ?_)
 refine LWp.o 7 (.one (.ptr (.box 1) 1 [] 1)) ?_
 refine LWp.o 8 (I xA.Root) ?_
 refine LWp.o 9 (.one (.ptr (.box 3) 1 [] 1)) ?_
 refine LWp.s [] (.box 3) [.int .i64 xA.Id, .int .i64 xA.Root] ?_
 refine LWp.nil ?_
 refine Wp.seq (Wp.region ?_)
 refine LWp.o 10 (.agg [.int .i64 xA.Id, .int .i64 xA.Root]) ?_
 refine LWp.s [] (.box 2) [.int .i64 xA.Id, .int .i64 xA.Root] ?_
 refine LWp.nil ?_
 cases h
 exact Wp.ret ⟨.inr rfl, _, _, rfl, rfl⟩
def c110 (x : Vol) : List TV := [.int .i64 x.Id, .int .i64 x.Root]
theorem k110 : ∀ x, (c110 x).length = 2 := fun _ => rfl
theorem sh110 : ∀ l, shares (encs c110 l) = encs c110 l := shares_encs (fun _ => rfl)
theorem ns110 : ∀ l, hasShareds (encs c110 l) = false := ns_encs (fun _ => rfl)
def w_toVolS_H1 (xA : List Vol) (z1 : List Vol) (z2 : Int) : St := mkSt [(0, (.one (.sl false 188 2 (encs c188 xA)))), (3, (.one (.sl true 110 2 (encs c110 z1)))), (4, (I z2))] []
def w_toVolS_H2 (z3 : List Vol) : St := mkSt [(3, (.one (.sl true 110 2 (encs c110 z3))))] []
theorem w_toVolS_t (xA : List Vol) (r : List Vol) (h : w_toVolS xA = some r) : Gives Tryz.prog 86 [.sv (.one (.sl false 188 2 (encs c188 xA)))] (.one (.sl true 110 2 (encs c110 r))) (List.replicate 1 .gone) := by
 unfold w_toVolS at h
 refine gives_of Tryz.func86 rfl ?_
 rw [Tryz.ntmps86]
 refine Wp.seq (Wp.region ?_)
 refine LWp.o 2 (.one (.sl true 110 2 (encs c110 []))) ?_
 refine LWp.nil ?_
 refine Wp.seq (Wp.region ?_)
 refine LWp.o 5 (.one (.sl false 188 2 (encs c188 xA))) ?_
 refine LWp.o 6 (I (ln xA)) ?_ (st_pure (p_ln k188 xA))
 refine LWp.p h 7 (fun q1 => (.one (.sl true 110 2 (encs c110 q1)))) ?_ (fun q1 gq1 => s_mk (f := c110) (Vol.mk 0 0) gq1)
 intro q1 gq1 h
 refine LWp.m true [(.slot 7, [.junk])] 3 (.one (.sl true 110 2 (encs c110 q1))) ?_
 refine LWp.nil ?_
 refine Wp.seq ?_
 refine Wp.seq (Wp.region ?_)
 refine LWp.o 4 (I 0) ?_
 refine LWp.nil ?_
 refine Wp.l1 h [0, 3, 4] [] (fun s => (w_toVolS_H1 xA s.1 s.2)) [3] [] (fun s => (w_toVolS_H2 s)) ⟨rfl, rfl⟩ ?_ ?_
 · rintro ⟨yOut1, yI1⟩ o (h : w_toVolS_b1 xA yOut1 yI1 = some o)
   unfold w_toVolS_b1 at h
   change Wp _ _ _ (w_toVolS_H1 xA yOut1 yI1) _
   refine Wp.seq ?_
   refine Wp.seq (Wp.region ?_)
   refine LWp.o 8 (I yI1) ?_
   refine LWp.o 9 (.one (.sl false 188 2 (encs c188 xA))) ?_
   refine LWp.o 10 (I (ln xA)) ?_ (st_pure (p_ln k188 xA))
   refine LWp.o 11 (B (decide (yI1 < (ln xA)))) ?_
   refine LWp.nil ?_
   refine Wp.c h (fun h => ?_) (fun h => ?_)
   · refine Wp.skip ?_
     refine Wp.seq ?_
     refine Wp.block ?_
     refine Wp.region ?_
     refine LWp.o 14 (.one (.view (.slot 3) 0 [] 0)) ?_
     refine LWp.o 15 (I yI1) ?_
     refine LWp.o 16 (.one (.sl false 188 2 (encs c188 xA))) ?_
     refine LWp.o 17 (I yI1) ?_
     refine LWp.p h 18 (fun _ => (.one (.ptr (.slot 16) 1 [0] (Int.toNat yI1 * 2 + 0)))) ?_ (fun x1 gx1 => st_pure (p_ix k188 (.slot 16) [] 0 gx1))
     intro x1 gx1 h
     refine LWp.o 19 (.agg [.int .i64 x1.Id, .int .i64 x1.Root]) ?_ (st_pure (p_le k188 (.slot 16) [0] gx1))
     refine LWp.cl h 20 (fun v1 => (.agg [.int .i64 v1.Id, .int .i64 v1.Root])) rfl (l := [.sv (.agg [.int .i64 x1.Id, .int .i64 x1.Root])]) rfl (fun v hv => w_toVol_t x1 v hv) (.inl rfl) ?_
     intro v1 gv1 h
     refine LWp.p h 21 (fun _ => (.one (.ptr (.slot 3) 0 [0] (Int.toNat yI1 * 2 + 0)))) ?_ (fun x2 gx2 => st_pure (p_ix k110 (.slot 3) [] 0 gx2))
     intro x2 gx2 h
     refine LWp.sb [] (.slot 3) [.sl true 110 2 (encs c110 (si yOut1 yI1 v1))] ?_ (s_st [] (q := [0]) (cs := [.sl true 110 2 (encs c110 yOut1)]) (xs := [.int .i64 v1.Id, .int .i64 v1.Root]) (At.one (setRow_gi k110 (k := 0) (z := v1) gx2 rfl rfl)) (fit_gi k110 (k := 0) gx2 rfl))
     refine LWp.nil ?_
     refine Wp.region ?_
     refine LWp.o 12 (I yI1) ?_
     refine LWp.o 13 (I (ad yI1 1)) ?_
     refine LWp.o 4 (I (ad yI1 1)) ?_
     refine LWp.nil ?_
     cases h
     exact ⟨_, rfl, rfl, rfl⟩
   refine Wp.exit ?_
   cases h
   exact ⟨_, rfl, rfl, rfl⟩
 intro v2 h E hE
 refine nt_wp hE ?_
 change Wp _ _ _ (w_toVolS_H2 v2) _
 refine Wp.seq (Wp.region ?_)
 refine LWp.o 22 (.one (.view (.slot 3) 0 [] 0)) ?_
 refine LWp.m true [(.slot 3, [.junk])] 2 (.one (.sl true 110 2 (encs c110 v2))) ?_
 refine LWp.nil ?_
 cases h
 exact Wp.ret ⟨.inr rfl, _, _, rfl, rfl⟩
def w_toIntS_H1 (xA : List Int) (z1 : List Int) (z2 : Int) : St := mkSt [(0, (.one (.sl false 3 1 (encs c3 xA)))), (3, (.one (.sl true 3 1 (encs c3 z1)))), (4, (I z2))] []
def w_toIntS_H2 (z3 : List Int) : St := mkSt [(3, (.one (.sl true 3 1 (encs c3 z3))))] []
theorem w_toIntS_t (xA : List Int) (r : List Int) (h : w_toIntS xA = some r) : Gives Tryz.prog 202 [.sv (.one (.sl false 3 1 (encs c3 xA)))] (.one (.sl true 3 1 (encs c3 r))) (List.replicate 1 .gone) := by
 unfold w_toIntS at h
 refine gives_of Tryz.func202 rfl ?_
 rw [Tryz.ntmps202]
 refine Wp.seq (Wp.region ?_)
 refine LWp.o 2 (.one (.sl true 3 1 (encs c3 []))) ?_
 refine LWp.nil ?_
 refine Wp.seq (Wp.region ?_)
 refine LWp.o 5 (.one (.sl false 3 1 (encs c3 xA))) ?_
 refine LWp.o 6 (I (ln xA)) ?_ (st_pure (p_ln k3 xA))
 refine LWp.p h 7 (fun q1 => (.one (.sl true 3 1 (encs c3 q1)))) ?_ (fun q1 gq1 => s_mk (f := c3) 0 gq1)
 intro q1 gq1 h
 refine LWp.m true [(.slot 7, [.junk])] 3 (.one (.sl true 3 1 (encs c3 q1))) ?_
 refine LWp.nil ?_
 refine Wp.seq ?_
 refine Wp.seq (Wp.region ?_)
 refine LWp.o 4 (I 0) ?_
 refine LWp.nil ?_
 refine Wp.l1 h [0, 3, 4] [] (fun s => (w_toIntS_H1 xA s.1 s.2)) [3] [] (fun s => (w_toIntS_H2 s)) ⟨rfl, rfl⟩ ?_ ?_
 · rintro ⟨yOut1, yI1⟩ o (h : w_toIntS_b1 xA yOut1 yI1 = some o)
   unfold w_toIntS_b1 at h
   change Wp _ _ _ (w_toIntS_H1 xA yOut1 yI1) _
   refine Wp.seq ?_
   refine Wp.seq (Wp.region ?_)
   refine LWp.o 8 (I yI1) ?_
   refine LWp.o 9 (.one (.sl false 3 1 (encs c3 xA))) ?_
   refine LWp.o 10 (I (ln xA)) ?_ (st_pure (p_ln k3 xA))
   refine LWp.o 11 (B (decide (yI1 < (ln xA)))) ?_
   refine LWp.nil ?_
   refine Wp.c h (fun h => ?_) (fun h => ?_)
   · refine Wp.skip ?_
     refine Wp.seq ?_
     refine Wp.block ?_
     refine Wp.region ?_
     refine LWp.o 14 (.one (.view (.slot 3) 0 [] 0)) ?_
     refine LWp.o 15 (I yI1) ?_
     refine LWp.o 16 (.one (.sl false 3 1 (encs c3 xA))) ?_
     refine LWp.o 17 (I yI1) ?_
     refine LWp.p h 18 (fun _ => (.one (.ptr (.slot 16) 1 [0] (Int.toNat yI1 * 1 + 0)))) ?_ (fun x1 gx1 => st_pure (p_ix k3 (.slot 16) [] 0 gx1))
     intro x1 gx1 h
     refine LWp.o 19 (I x1) ?_ (st_pure (p_lc k3 (.slot 16) [0] 0 (.int .i64 x1) gx1))
     refine LWp.p h 20 (fun _ => (.one (.ptr (.slot 3) 0 [0] (Int.toNat yI1 * 1 + 0)))) ?_ (fun x2 gx2 => st_pure (p_ix k3 (.slot 3) [] 0 gx2))
     intro x2 gx2 h
     refine LWp.sb [] (.slot 3) [.sl true 3 1 (encs c3 (si yOut1 yI1 x1))] ?_ (s_st [] (q := [0]) (cs := [.sl true 3 1 (encs c3 yOut1)]) (xs := [.int .i64 x1]) (At.one (setRow_gi k3 (k := 0) (z := x1) gx2 rfl rfl)) (fit_gi k3 (k := 0) gx2 rfl))
     refine LWp.nil ?_
     refine Wp.region ?_
     refine LWp.o 12 (I yI1) ?_
     refine LWp.o 13 (I (ad yI1 1)) ?_
     refine LWp.o 4 (I (ad yI1 1)) ?_
     refine LWp.nil ?_
     cases h
     exact ⟨_, rfl, rfl, rfl⟩
   refine Wp.exit ?_
   cases h
   exact ⟨_, rfl, rfl, rfl⟩
 intro v1 h E hE
 refine nt_wp hE ?_
 change Wp _ _ _ (w_toIntS_H2 v1) _
 refine Wp.seq (Wp.region ?_)
 refine LWp.o 21 (.one (.view (.slot 3) 0 [] 0)) ?_
 refine LWp.m true [(.slot 3, [.junk])] 2 (.one (.sl true 3 1 (encs c3 v1))) ?_
 refine LWp.nil ?_
 cases h
 exact Wp.ret ⟨.inr rfl, _, _, rfl, rfl⟩
theorem w_toKnot_t (xA : Knot) (r : Knot) (h : w_toKnot xA = some r) : Gives Tryz.prog 171 [.sv (.agg [.bool xA.Leaf, .sl false 3 1 (encs c3 xA.Kids)])] (.agg [.bool r.Leaf, .sl true 3 1 (encs c3 r.Kids)]) (List.replicate 1 .gone) := by
 unfold w_toKnot at h
 refine gives_of Tryz.func171 rfl ?_
 rw [Tryz.ntmps171]
 refine Wp.seq (Wp.region ?_)
 refine LWp.b [] 1 [.bool xA.Leaf, .sl false 3 1 (encs c3 xA.Kids)] ?_
 refine LWp.b [] 2 [.bool false, .sl true 3 1 (encs c3 [])] ?_
 refine LWp.nil ?_
 refine Wp.seq (Wp.region ?_)
 refine LWp.b [] 3 [.bool false, .sl true 3 1 (encs c3 [])] ?_
 refine LWp.nil ?_
 refine Wp.seq (Wp.region ?_)
 refine LWp.o 4 (.one (.ptr (.box 1) 1 [] 0)) ?_
 refine LWp.o 5 (B xA.Leaf) ?_
 refine LWp.o 6 (.one (.ptr (.box 3) 1 [] 0)) ?_
 refine LWp.s [] (.box 3) [.bool xA.Leaf, .sl true 3 1 (encs c3 [])] ?_
 refine LWp.nil ?_
 refine Wp.seq (Wp.region ?_)
 refine LWp.o 7 (.one (.ptr (.box 1) 1 [] 1)) ?_
 refine LWp.o 8 (.one (.sl false 3 1 (encs c3 xA.Kids))) ?_
 refine LWp.cl h 9 (fun v1 => (.one (.sl true 3 1 (encs c3 v1)))) rfl (l := [.sv (.one (.sl false 3 1 (encs c3 xA.Kids)))]) rfl (fun v hv => w_toIntS_t xA.Kids v hv) (.inl rfl) ?_
 intro v1 gv1 h
 refine LWp.o 10 (.one (.ptr (.box 3) 1 [] 1)) ?_
 refine LWp.sb [(.slot 9, [.junk])] (.box 3) [.bool xA.Leaf, .sl true 3 1 (encs c3 v1)] ?_
 refine LWp.nil ?_
 refine Wp.seq (Wp.region ?_)
 refine LWp.o 11 (.agg [.bool xA.Leaf, .view (.box 3) 2 [] 1]) ?_
 refine LWp.sb [(.box 3, [.bool xA.Leaf, .junk])] (.box 2) [.bool xA.Leaf, .sl true 3 1 (encs c3 v1)] ?_
 refine LWp.nil ?_
 cases h
 exact Wp.ret ⟨.inr rfl, _, _, rfl, rfl⟩
def c218 (o : Bool) (x : Knot) : List TV := [.bool x.Leaf, .sl o 3 1 (encs c3 x.Kids)]
theorem k218 (o : Bool) : ∀ x, (c218 o x).length = 2 := fun _ => rfl
theorem sh218 : ∀ l, shares (encs (c218 true) l) = encs (c218 false) l := shares_encs (fun x => by simp only [c218, shares, share, sh3])
theorem ns218 : ∀ l, hasShareds (encs (c218 true) l) = false := ns_encs (fun x => by simp [c218, hasShareds, hasShared, ns3])
def w_toKnotS_H1 (xA : List Knot) (z1 : List Knot) (z2 : Int) : St := mkSt [(0, (.one (.sl false 211 2 (encs (c211 false) xA)))), (3, (.one (.sl true 218 2 (encs (c218 true) z1)))), (4, (I z2))] []
def w_toKnotS_H2 (z3 : List Knot) : St := mkSt [(3, (.one (.sl true 218 2 (encs (c218 true) z3))))] []
theorem w_toKnotS_t (xA : List Knot) (r : List Knot) (h : w_toKnotS xA = some r) : Gives Tryz.prog 133 [.sv (.one (.sl false 211 2 (encs (c211 false) xA)))] (.one (.sl true 218 2 (encs (c218 true) r))) (List.replicate 1 .gone) := by
 unfold w_toKnotS at h
 refine gives_of Tryz.func133 rfl ?_
 rw [Tryz.ntmps133]
 refine Wp.seq (Wp.region ?_)
 refine LWp.o 2 (.one (.sl true 218 2 (encs (c218 true) []))) ?_
 refine LWp.nil ?_
 refine Wp.seq (Wp.region ?_)
 refine LWp.o 5 (.one (.sl false 211 2 (encs (c211 false) xA))) ?_
 refine LWp.o 6 (I (ln xA)) ?_ (st_pure (p_ln (k211 false) xA))
 refine LWp.p h 7 (fun q1 => (.one (.sl true 218 2 (encs (c218 true) q1)))) ?_ (fun q1 gq1 => s_mk (f := (c218 true)) (Knot.mk false []) gq1)
 intro q1 gq1 h
 refine LWp.m true [(.slot 7, [.junk])] 3 (.one (.sl true 218 2 (encs (c218 true) q1))) ?_
 refine LWp.nil ?_
 refine Wp.seq ?_
 refine Wp.seq (Wp.region ?_)
 refine LWp.o 4 (I 0) ?_
 refine LWp.nil ?_
 refine Wp.l1 h [0, 3, 4] [] (fun s => (w_toKnotS_H1 xA s.1 s.2)) [3] [] (fun s => (w_toKnotS_H2 s)) ⟨rfl, rfl⟩ ?_ ?_
 · rintro ⟨yOut1, yI1⟩ o (h : w_toKnotS_b1 xA yOut1 yI1 = some o)
   unfold w_toKnotS_b1 at h
   change Wp _ _ _ (w_toKnotS_H1 xA yOut1 yI1) _
   refine Wp.seq ?_
   refine Wp.seq (Wp.region ?_)
   refine LWp.o 8 (I yI1) ?_
   refine LWp.o 9 (.one (.sl false 211 2 (encs (c211 false) xA))) ?_
   refine LWp.o 10 (I (ln xA)) ?_ (st_pure (p_ln (k211 false) xA))
   refine LWp.o 11 (B (decide (yI1 < (ln xA)))) ?_
   refine LWp.nil ?_
   refine Wp.c h (fun h => ?_) (fun h => ?_)
   · refine Wp.skip ?_
     refine Wp.seq ?_
     refine Wp.block ?_
     refine Wp.region ?_
     refine LWp.o 14 (.one (.view (.slot 3) 0 [] 0)) ?_
     refine LWp.o 15 (I yI1) ?_
     refine LWp.o 16 (.one (.sl false 211 2 (encs (c211 false) xA))) ?_
     refine LWp.o 17 (I yI1) ?_
     refine LWp.p h 18 (fun _ => (.one (.ptr (.slot 16) 1 [0] (Int.toNat yI1 * 2 + 0)))) ?_ (fun x1 gx1 => st_pure (p_ix (k211 false) (.slot 16) [] 0 gx1))
     intro x1 gx1 h
     refine LWp.o 19 (.agg [.bool x1.Leaf, .sl false 3 1 (encs c3 x1.Kids)]) ?_ (st_pure (p_le (k211 false) (.slot 16) [0] gx1))
     refine LWp.cl h 20 (fun v1 => (.agg [.bool v1.Leaf, .sl true 3 1 (encs c3 v1.Kids)])) rfl (l := [.sv (.agg [.bool x1.Leaf, .sl false 3 1 (encs c3 x1.Kids)])]) rfl (fun v hv => w_toKnot_t x1 v hv) (.inl rfl) ?_
     intro v1 gv1 h
     refine LWp.p h 21 (fun _ => (.one (.ptr (.slot 3) 0 [0] (Int.toNat yI1 * 2 + 0)))) ?_ (fun x2 gx2 => st_pure (p_ix (k218 true) (.slot 3) [] 0 gx2))
     intro x2 gx2 h
     refine LWp.sb [(.slot 20, [.bool v1.Leaf, .junk])] (.slot 3) [.sl true 218 2 (encs (c218 true) (si yOut1 yI1 v1))] ?_ (s_st [(.slot 20, [.bool v1.Leaf, .junk])] (q := [0]) (cs := [.sl true 218 2 (encs (c218 true) yOut1)]) (xs := [.bool v1.Leaf, .sl true 3 1 (encs c3 v1.Kids)]) (At.one (setRow_gi (k218 true) (k := 0) (z := v1) gx2 rfl rfl)) (fit_gi (k218 true) (k := 0) gx2 rfl))
     refine LWp.nil ?_
     refine Wp.region ?_
     refine LWp.o 12 (I yI1) ?_
     refine LWp.o 13 (I (ad yI1 1)) ?_
     refine LWp.o 4 (I (ad yI1 1)) ?_
     refine LWp.nil ?_
     cases h
     exact ⟨_, rfl, rfl, rfl⟩
   refine Wp.exit ?_
   cases h
   exact ⟨_, rfl, rfl, rfl⟩
 intro v2 h E hE
 refine nt_wp hE ?_
 change Wp _ _ _ (w_toKnotS_H2 v2) _
 refine Wp.seq (Wp.region ?_)
 refine LWp.o 22 (.one (.view (.slot 3) 0 [] 0)) ?_
 refine LWp.m true [(.slot 3, [.junk])] 2 (.one (.sl true 218 2 (encs (c218 true) v2))) ?_
 refine LWp.nil ?_
 cases h
 exact Wp.ret ⟨.inr rfl, _, _, rfl, rfl⟩
theorem w_toArena_t (xA : Arena) (r : Arena) (h : w_toArena xA = some r) : Gives Tryz.prog 87 [.sv (.agg [.sl false 211 2 (encs (c211 false) xA.Knots)])] (.agg [.sl true 218 2 (encs (c218 true) r.Knots)]) (List.replicate 1 .gone) := by
 unfold w_toArena at h
 refine gives_of Tryz.func87 rfl ?_
 rw [Tryz.ntmps87]
 refine Wp.seq (Wp.region ?_)
 refine LWp.b [] 1 [.sl false 211 2 (encs (c211 false) xA.Knots)] ?_
 refine LWp.b [] 2 [.sl true 218 2 (encs (c218 true) [])] ?_
 refine LWp.nil ?_
 refine Wp.seq (Wp.region ?_)
 refine LWp.b [] 3 [.sl true 218 2 (encs (c218 true) [])] ?_
 refine LWp.nil ?_
 refine Wp.seq (Wp.region ?_)
 refine LWp.o 4 (.one (.ptr (.box 1) 1 [] 0)) ?_
 refine LWp.o 5 (.one (.sl false 211 2 (encs (c211 false) xA.Knots))) ?_
 refine LWp.cl h 6 (fun v1 => (.one (.sl true 218 2 (encs (c218 true) v1)))) rfl (l := [.sv (.one (.sl false 211 2 (encs (c211 false) xA.Knots)))]) rfl (fun v hv => w_toKnotS_t xA.Knots v hv) (.inl rfl) ?_
 intro v1 gv1 h
 refine LWp.o 7 (.one (.ptr (.box 3) 1 [] 0)) ?_
 refine LWp.sb [(.slot 6, [.junk])] (.box 3) [.sl true 218 2 (encs (c218 true) v1)] ?_
 refine LWp.nil ?_
 refine Wp.seq (Wp.region ?_)
 refine LWp.o 8 (.agg [.view (.box 3) 2 [] 0]) ?_
 refine LWp.sb [(.box 3, [.junk])] (.box 2) [.sl true 218 2 (encs (c218 true) v1)] ?_
 refine LWp.nil ?_
 cases h
 exact Wp.ret ⟨.inr rfl, _, _, rfl, rfl⟩
theorem w_toStore_t (xA : Store) (r : Store) (h : w_toStore xA = some r) : Gives Tryz.prog 43 [.sv (.agg [.sl false 188 2 (encs c188 xA.Vols), .sl false 211 2 (encs (c211 false) xA.Arena.Knots), .int .i64 xA.Next])] (.agg [.sl true 110 2 (encs c110 r.Vols), .sl true 218 2 (encs (c218 true) r.Arena.Knots), .int .i64 r.Next]) (List.replicate 1 .gone) := by
 unfold w_toStore at h
 refine gives_of Tryz.func43 rfl ?_
 rw [Tryz.ntmps43]
 refine Wp.seq (Wp.region ?_)
 refine LWp.b [] 1 [.sl false 188 2 (encs c188 xA.Vols), .sl false 211 2 (encs (c211 false) xA.Arena.Knots), .int .i64 xA.Next] ?_
 refine LWp.b [] 2 [.sl true 110 2 (encs c110 []), .sl true 218 2 (encs (c218 true) []), .int .i64 0] ?_
 refine LWp.nil ?_
 refine Wp.seq (Wp.region ?_)
 refine LWp.b [] 3 [.sl true 110 2 (encs c110 []), .sl true 218 2 (encs (c218 true) []), .int .i64 0] ?_
 refine LWp.nil ?_
 refine Wp.seq (Wp.region ?_)
 refine LWp.o 4 (.one (.ptr (.box 1) 1 [] 0)) ?_
 refine LWp.o 5 (.one (.sl false 188 2 (encs c188 xA.Vols))) ?_
 refine LWp.cl h 6 (fun v1 => (.one (.sl true 110 2 (encs c110 v1)))) rfl (l := [.sv (.one (.sl false 188 2 (encs c188 xA.Vols)))]) rfl (fun v hv => w_toVolS_t xA.Vols v hv) (.inl rfl) ?_
 intro v1 gv1 h
 refine LWp.o 7 (.one (.ptr (.box 3) 1 [] 0)) ?_
 refine LWp.sb [(.slot 6, [.junk])] (.box 3) [.sl true 110 2 (encs c110 v1), .sl true 218 2 (encs (c218 true) []), .int .i64 0] ?_
 refine LWp.nil ?_
 refine Wp.seq (Wp.region ?_)
 refine LWp.o 8 (.one (.ptr (.box 1) 1 [] 1)) ?_
 refine LWp.o 9 (.agg [.sl false 211 2 (encs (c211 false) xA.Arena.Knots)]) ?_
 refine LWp.cl h 10 (fun v2 => (.agg [.sl true 218 2 (encs (c218 true) v2.Knots)])) rfl (l := [.sv (.agg [.sl false 211 2 (encs (c211 false) xA.Arena.Knots)])]) rfl (fun v hv => w_toArena_t xA.Arena v hv) (.inl rfl) ?_
 intro v2 gv2 h
 refine LWp.o 11 (.one (.ptr (.box 3) 1 [] 1)) ?_
 refine LWp.sb [(.slot 10, [.junk])] (.box 3) [.sl true 110 2 (encs c110 v1), .sl true 218 2 (encs (c218 true) v2.Knots), .int .i64 0] ?_
 refine LWp.nil ?_
 refine Wp.seq (Wp.region ?_)
 refine LWp.o 12 (.one (.ptr (.box 1) 1 [] 2)) ?_
 refine LWp.o 13 (I xA.Next) ?_
 refine LWp.o 14 (.one (.ptr (.box 3) 1 [] 2)) ?_
 refine LWp.s [] (.box 3) [.sl true 110 2 (encs c110 v1), .sl true 218 2 (encs (c218 true) v2.Knots), .int .i64 xA.Next] ?_
 refine LWp.nil ?_
 refine Wp.seq (Wp.region ?_)
 refine LWp.o 15 (.agg [.view (.box 3) 3 [] 0, .view (.box 3) 3 [] 1, .int .i64 xA.Next]) ?_
 refine LWp.sb [(.box 3, [.junk, .sl true 218 2 (encs (c218 true) v2.Knots), .int .i64 xA.Next]), (.box 3, [.junk, .junk, .int .i64 xA.Next])] (.box 2) [.sl true 110 2 (encs c110 v1), .sl true 218 2 (encs (c218 true) v2.Knots), .int .i64 xA.Next] ?_
 refine LWp.nil ?_
 cases h
 exact Wp.ret ⟨.inr rfl, _, _, rfl, rfl⟩
theorem w_toDevice_t (xA : Device) (r : Device) (h : w_toDevice xA = some r) : Gives Tryz.prog 11 [.sv (.agg [.sl false 176 3 (encs (c176 false) xA.Flash.Blocks), .sl false 188 2 (encs c188 xA.Store.Vols), .sl false 211 2 (encs (c211 false) xA.Store.Arena.Knots), .int .i64 xA.Store.Next, .int .i64 xA.Seq, .int .i64 xA.Tx, .int .i64 xA.Base])] (.agg [.sl true 124 3 (encs (c124 true) r.Flash.Blocks), .sl true 110 2 (encs c110 r.Store.Vols), .sl true 218 2 (encs (c218 true) r.Store.Arena.Knots), .int .i64 r.Store.Next, .int .i64 r.Seq, .int .i64 r.Tx, .int .i64 r.Base]) (List.replicate 1 .gone) := by
 unfold w_toDevice at h
 refine gives_of Tryz.func11 rfl ?_
 rw [Tryz.ntmps11]
 refine Wp.seq (Wp.region ?_)
 refine LWp.b [] 1 [.sl false 176 3 (encs (c176 false) xA.Flash.Blocks), .sl false 188 2 (encs c188 xA.Store.Vols), .sl false 211 2 (encs (c211 false) xA.Store.Arena.Knots), .int .i64 xA.Store.Next, .int .i64 xA.Seq, .int .i64 xA.Tx, .int .i64 xA.Base] ?_
 refine LWp.b [] 2 [.sl true 124 3 (encs (c124 true) []), .sl true 110 2 (encs c110 []), .sl true 218 2 (encs (c218 true) []), .int .i64 0, .int .i64 0, .int .i64 0, .int .i64 0] ?_
 refine LWp.nil ?_
 refine Wp.seq (Wp.region ?_)
 refine LWp.b [] 3 [.sl true 124 3 (encs (c124 true) []), .sl true 110 2 (encs c110 []), .sl true 218 2 (encs (c218 true) []), .int .i64 0, .int .i64 0, .int .i64 0, .int .i64 0] ?_
 refine LWp.nil ?_
 refine Wp.seq (Wp.region ?_)
 refine LWp.o 4 (.one (.ptr (.box 1) 1 [] 0)) ?_
 refine LWp.o 5 (.agg [.sl false 176 3 (encs (c176 false) xA.Flash.Blocks)]) ?_
 refine LWp.cl h 6 (fun v1 => (.agg [.sl true 124 3 (encs (c124 true) v1.Blocks)])) rfl (l := [.sv (.agg [.sl false 176 3 (encs (c176 false) xA.Flash.Blocks)])]) rfl (fun v hv => w_toFlash_t xA.Flash v hv) (.inl rfl) ?_
 intro v1 gv1 h
 refine LWp.o 7 (.one (.ptr (.box 3) 1 [] 0)) ?_
 refine LWp.sb [(.slot 6, [.junk])] (.box 3) [.sl true 124 3 (encs (c124 true) v1.Blocks), .sl true 110 2 (encs c110 []), .sl true 218 2 (encs (c218 true) []), .int .i64 0, .int .i64 0, .int .i64 0, .int .i64 0] ?_
 refine LWp.nil ?_
 refine Wp.seq (Wp.region ?_)
 refine LWp.o 8 (.one (.ptr (.box 1) 1 [] 1)) ?_
 refine LWp.o 9 (.agg [.sl false 188 2 (encs c188 xA.Store.Vols), .sl false 211 2 (encs (c211 false) xA.Store.Arena.Knots), .int .i64 xA.Store.Next]) ?_
 refine LWp.cl h 10 (fun v2 => (.agg [.sl true 110 2 (encs c110 v2.Vols), .sl true 218 2 (encs (c218 true) v2.Arena.Knots), .int .i64 v2.Next])) rfl (l := [.sv (.agg [.sl false 188 2 (encs c188 xA.Store.Vols), .sl false 211 2 (encs (c211 false) xA.Store.Arena.Knots), .int .i64 xA.Store.Next])]) rfl (fun v hv => w_toStore_t xA.Store v hv) (.inl rfl) ?_
 intro v2 gv2 h
 refine LWp.o 11 (.one (.ptr (.box 3) 1 [] 1)) ?_
 refine LWp.sb [(.slot 10, [.junk, .sl true 218 2 (encs (c218 true) v2.Arena.Knots), .int .i64 v2.Next]), (.slot 10, [.junk, .junk, .int .i64 v2.Next])] (.box 3) [.sl true 124 3 (encs (c124 true) v1.Blocks), .sl true 110 2 (encs c110 v2.Vols), .sl true 218 2 (encs (c218 true) v2.Arena.Knots), .int .i64 v2.Next, .int .i64 0, .int .i64 0, .int .i64 0] ?_
 refine LWp.nil ?_
 refine Wp.seq (Wp.region ?_)
 refine LWp.o 12 (.one (.ptr (.box 1) 1 [] 4)) ?_
 refine LWp.o 13 (I xA.Seq) ?_
 refine LWp.o 14 (.one (.ptr (.box 3) 1 [] 4)) ?_
 refine LWp.s [] (.box 3) [.sl true 124 3 (encs (c124 true) v1.Blocks), .sl true 110 2 (encs c110 v2.Vols), .sl true 218 2 (encs (c218 true) v2.Arena.Knots), .int .i64 v2.Next, .int .i64 xA.Seq, .int .i64 0, .int .i64 0] ?_
 refine LWp.nil ?_
 refine Wp.seq (Wp.region ?_)
 refine LWp.o 15 (.one (.ptr (.box 1) 1 [] 5)) ?_
 refine LWp.o 16 (I xA.Tx) ?_
 refine LWp.o 17 (.one (.ptr (.box 3) 1 [] 5)) ?_
 refine LWp.s [] (.box 3) [.sl true 124 3 (encs (c124 true) v1.Blocks), .sl true 110 2 (encs c110 v2.Vols), .sl true 218 2 (encs (c218 true) v2.Arena.Knots), .int .i64 v2.Next, .int .i64 xA.Seq, .int .i64 xA.Tx, .int .i64 0] ?_
 refine LWp.nil ?_
 refine Wp.seq (Wp.region ?_)
 refine LWp.o 18 (.one (.ptr (.box 1) 1 [] 6)) ?_
 refine LWp.o 19 (I xA.Base) ?_
 refine LWp.o 20 (.one (.ptr (.box 3) 1 [] 6)) ?_
 refine LWp.s [] (.box 3) [.sl true 124 3 (encs (c124 true) v1.Blocks), .sl true 110 2 (encs c110 v2.Vols), .sl true 218 2 (encs (c218 true) v2.Arena.Knots), .int .i64 v2.Next, .int .i64 xA.Seq, .int .i64 xA.Tx, .int .i64 xA.Base] ?_
 refine LWp.nil ?_
 refine Wp.seq (Wp.region ?_)
 refine LWp.o 21 (.agg [.view (.box 3) 3 [] 0, .view (.box 3) 3 [] 1, .view (.box 3) 3 [] 2, .int .i64 v2.Next, .int .i64 xA.Seq, .int .i64 xA.Tx, .int .i64 xA.Base]) ?_
 refine LWp.sb [(.box 3, [.junk, .sl true 110 2 (encs c110 v2.Vols), .sl true 218 2 (encs (c218 true) v2.Arena.Knots), .int .i64 v2.Next, .int .i64 xA.Seq, .int .i64 xA.Tx, .int .i64 xA.Base]), (.box 3, [.junk, .junk, .sl true 218 2 (encs (c218 true) v2.Arena.Knots), .int .i64 v2.Next, .int .i64 xA.Seq, .int .i64 xA.Tx, .int .i64 xA.Base]), (.box 3, [.junk, .junk, .junk, .int .i64 v2.Next, .int .i64 xA.Seq, .int .i64 xA.Tx, .int .i64 xA.Base])] (.box 2) [.sl true 124 3 (encs (c124 true) v1.Blocks), .sl true 110 2 (encs c110 v2.Vols), .sl true 218 2 (encs (c218 true) v2.Arena.Knots), .int .i64 v2.Next, .int .i64 xA.Seq, .int .i64 xA.Tx, .int .i64 xA.Base] ?_
 refine LWp.nil ?_
 cases h
 exact Wp.ret ⟨.inr rfl, _, _, rfl, rfl⟩
theorem w_toRec_t (xA : Rec) (r : Rec) (h : w_toRec xA = some r) : Gives Tryz.prog 44 [.sv (.agg [.int .i64 xA.Kind, .int .i64 xA.Vol, .int .i64 xA.Arg, .int .i64 xA.Chunk])] (.agg [.int .i64 r.Kind, .int .i64 r.Vol, .int .i64 r.Arg, .int .i64 r.Chunk]) (List.replicate 1 .gone) := by
 unfold w_toRec at h
 refine gives_of Tryz.func44 rfl ?_
 rw [Tryz.ntmps44]
 refine Wp.seq (Wp.region ?_)
 refine LWp.b [] 1 [.int .i64 xA.Kind, .int .i64 xA.Vol, .int .i64 xA.Arg, .int .i64 xA.Chunk] ?_
 refine LWp.b [] 2 [.int .i64 0, .int .i64 0, .int .i64 0, .int .i64 0] ?_
 refine LWp.nil ?_
 refine Wp.seq (Wp.region ?_)
 refine LWp.b [] 3 [.int .i64 0, .int .i64 0, .int .i64 0, .int .i64 0] ?_
 refine LWp.nil ?_
 refine Wp.seq (Wp.region ?_)
 refine LWp.o 4 (.one (.ptr (.box 1) 1 [] 0)) ?_
 refine LWp.o 5 (I xA.Kind) ?_
 refine LWp.o 6 (.one (.ptr (.box 3) 1 [] 0)) ?_
 refine LWp.s [] (.box 3) [.int .i64 xA.Kind, .int .i64 0, .int .i64 0, .int .i64 0] ?_
 refine LWp.nil ?_
 refine Wp.seq (Wp.region ?_)
 refine LWp.o 7 (.one (.ptr (.box 1) 1 [] 1)) ?_
 refine LWp.o 8 (I xA.Vol) ?_
 refine LWp.o 9 (.one (.ptr (.box 3) 1 [] 1)) ?_
 refine LWp.s [] (.box 3) [.int .i64 xA.Kind, .int .i64 xA.Vol, .int .i64 0, .int .i64 0] ?_
 refine LWp.nil ?_
 refine Wp.seq (Wp.region ?_)
 refine LWp.o 10 (.one (.ptr (.box 1) 1 [] 2)) ?_
 refine LWp.o 11 (I xA.Arg) ?_
 refine LWp.o 12 (.one (.ptr (.box 3) 1 [] 2)) ?_
 refine LWp.s [] (.box 3) [.int .i64 xA.Kind, .int .i64 xA.Vol, .int .i64 xA.Arg, .int .i64 0] ?_
 refine LWp.nil ?_
 refine Wp.seq (Wp.region ?_)
 refine LWp.o 13 (.one (.ptr (.box 1) 1 [] 3)) ?_
 refine LWp.o 14 (I xA.Chunk) ?_
 refine LWp.o 15 (.one (.ptr (.box 3) 1 [] 3)) ?_
 refine LWp.s [] (.box 3) [.int .i64 xA.Kind, .int .i64 xA.Vol, .int .i64 xA.Arg, .int .i64 xA.Chunk] ?_
 refine LWp.nil ?_
 refine Wp.seq (Wp.region ?_)
 refine LWp.o 16 (.agg [.int .i64 xA.Kind, .int .i64 xA.Vol, .int .i64 xA.Arg, .int .i64 xA.Chunk]) ?_
 refine LWp.s [] (.box 2) [.int .i64 xA.Kind, .int .i64 xA.Vol, .int .i64 xA.Arg, .int .i64 xA.Chunk] ?_
 refine LWp.nil ?_
 cases h
 exact Wp.ret ⟨.inr rfl, _, _, rfl, rfl⟩
def c83 (x : Rec) : List TV := [.int .i64 x.Kind, .int .i64 x.Vol, .int .i64 x.Arg, .int .i64 x.Chunk]
theorem k83 : ∀ x, (c83 x).length = 4 := fun _ => rfl
theorem sh83 : ∀ l, shares (encs c83 l) = encs c83 l := shares_encs (fun _ => rfl)
theorem ns83 : ∀ l, hasShareds (encs c83 l) = false := ns_encs (fun _ => rfl)
def w_toRecS_H1 (xA : List Rec) (z1 : List Rec) (z2 : Int) : St := mkSt [(0, (.one (.sl false 92 4 (encs c92 xA)))), (3, (.one (.sl true 83 4 (encs c83 z1)))), (4, (I z2))] []
def w_toRecS_H2 (z3 : List Rec) : St := mkSt [(3, (.one (.sl true 83 4 (encs c83 z3))))] []
theorem w_toRecS_t (xA : List Rec) (r : List Rec) (h : w_toRecS xA = some r) : Gives Tryz.prog 12 [.sv (.one (.sl false 92 4 (encs c92 xA)))] (.one (.sl true 83 4 (encs c83 r))) (List.replicate 1 .gone) := by
 unfold w_toRecS at h
 refine gives_of Tryz.func12 rfl ?_
 rw [Tryz.ntmps12]
 refine Wp.seq (Wp.region ?_)
 refine LWp.o 2 (.one (.sl true 83 4 (encs c83 []))) ?_
 refine LWp.nil ?_
 refine Wp.seq (Wp.region ?_)
 refine LWp.o 5 (.one (.sl false 92 4 (encs c92 xA))) ?_
 refine LWp.o 6 (I (ln xA)) ?_ (st_pure (p_ln k92 xA))
 refine LWp.p h 7 (fun q1 => (.one (.sl true 83 4 (encs c83 q1)))) ?_ (fun q1 gq1 => s_mk (f := c83) (Rec.mk 0 0 0 0) gq1)
 intro q1 gq1 h
 refine LWp.m true [(.slot 7, [.junk])] 3 (.one (.sl true 83 4 (encs c83 q1))) ?_
 refine LWp.nil ?_
 refine Wp.seq ?_
 refine Wp.seq (Wp.region ?_)
 refine LWp.o 4 (I 0) ?_
 refine LWp.nil ?_
 refine Wp.l1 h [0, 3, 4] [] (fun s => (w_toRecS_H1 xA s.1 s.2)) [3] [] (fun s => (w_toRecS_H2 s)) ⟨rfl, rfl⟩ ?_ ?_
 · rintro ⟨yOut1, yI1⟩ o (h : w_toRecS_b1 xA yOut1 yI1 = some o)
   unfold w_toRecS_b1 at h
   change Wp _ _ _ (w_toRecS_H1 xA yOut1 yI1) _
   refine Wp.seq ?_
   refine Wp.seq (Wp.region ?_)
   refine LWp.o 8 (I yI1) ?_
   refine LWp.o 9 (.one (.sl false 92 4 (encs c92 xA))) ?_
   refine LWp.o 10 (I (ln xA)) ?_ (st_pure (p_ln k92 xA))
   refine LWp.o 11 (B (decide (yI1 < (ln xA)))) ?_
   refine LWp.nil ?_
   refine Wp.c h (fun h => ?_) (fun h => ?_)
   · refine Wp.skip ?_
     refine Wp.seq ?_
     refine Wp.block ?_
     refine Wp.region ?_
     refine LWp.o 14 (.one (.view (.slot 3) 0 [] 0)) ?_
     refine LWp.o 15 (I yI1) ?_
     refine LWp.o 16 (.one (.sl false 92 4 (encs c92 xA))) ?_
     refine LWp.o 17 (I yI1) ?_
     refine LWp.p h 18 (fun _ => (.one (.ptr (.slot 16) 1 [0] (Int.toNat yI1 * 4 + 0)))) ?_ (fun x1 gx1 => st_pure (p_ix k92 (.slot 16) [] 0 gx1))
     intro x1 gx1 h
     refine LWp.o 19 (.agg [.int .i64 x1.Kind, .int .i64 x1.Vol, .int .i64 x1.Arg, .int .i64 x1.Chunk]) ?_ (st_pure (p_le k92 (.slot 16) [0] gx1))
     refine LWp.cl h 20 (fun v1 => (.agg [.int .i64 v1.Kind, .int .i64 v1.Vol, .int .i64 v1.Arg, .int .i64 v1.Chunk])) rfl (l := [.sv (.agg [.int .i64 x1.Kind, .int .i64 x1.Vol, .int .i64 x1.Arg, .int .i64 x1.Chunk])]) rfl (fun v hv => w_toRec_t x1 v hv) (.inl rfl) ?_
     intro v1 gv1 h
     refine LWp.p h 21 (fun _ => (.one (.ptr (.slot 3) 0 [0] (Int.toNat yI1 * 4 + 0)))) ?_ (fun x2 gx2 => st_pure (p_ix k83 (.slot 3) [] 0 gx2))
     intro x2 gx2 h
     refine LWp.sb [] (.slot 3) [.sl true 83 4 (encs c83 (si yOut1 yI1 v1))] ?_ (s_st [] (q := [0]) (cs := [.sl true 83 4 (encs c83 yOut1)]) (xs := [.int .i64 v1.Kind, .int .i64 v1.Vol, .int .i64 v1.Arg, .int .i64 v1.Chunk]) (At.one (setRow_gi k83 (k := 0) (z := v1) gx2 rfl rfl)) (fit_gi k83 (k := 0) gx2 rfl))
     refine LWp.nil ?_
     refine Wp.region ?_
     refine LWp.o 12 (I yI1) ?_
     refine LWp.o 13 (I (ad yI1 1)) ?_
     refine LWp.o 4 (I (ad yI1 1)) ?_
     refine LWp.nil ?_
     cases h
     exact ⟨_, rfl, rfl, rfl⟩
   refine Wp.exit ?_
   cases h
   exact ⟨_, rfl, rfl, rfl⟩
 intro v2 h E hE
 refine nt_wp hE ?_
 change Wp _ _ _ (w_toRecS_H2 v2) _
 refine Wp.seq (Wp.region ?_)
 refine LWp.o 22 (.one (.view (.slot 3) 0 [] 0)) ?_
 refine LWp.m true [(.slot 3, [.junk])] 2 (.one (.sl true 83 4 (encs c83 v2))) ?_
 refine LWp.nil ?_
 cases h
 exact Wp.ret ⟨.inr rfl, _, _, rfl, rfl⟩
theorem s_l01In_t (xX : Int) (xLeast : Int) (xMost : Int) (r : Bool) (h : s_l01In xX xLeast xMost = some r) : Gives Tryz.prog 84 [.sv (I xX), .sv (I xLeast), .sv (I xMost)] (B r) (List.replicate 3 .gone) := by
 unfold s_l01In at h
 refine gives_of Tryz.func84 rfl ?_
 rw [Tryz.ntmps84]
 refine Wp.seq (Wp.region ?_)
 refine LWp.o 6 (B false) ?_
 refine LWp.nil ?_
 refine Wp.seq (Wp.region ?_)
 refine LWp.o 7 (I xX) ?_
 refine LWp.o 8 (I xLeast) ?_
 refine LWp.o 9 (B (decide (xX ≥ xLeast))) ?_
 refine LWp.o 10 (B (decide (xX ≥ xLeast))) ?_
 refine LWp.sp h 10 (fun h => ?_) (fun h => ?_)
 · refine LWp.o 11 (I xX) ?_
   refine LWp.o 12 (I xMost) ?_
   refine LWp.o 13 (B (decide (xX ≤ xMost))) ?_
   refine LWp.o 14 (B (decide (xX ≤ xMost))) ?_
   refine LWp.o 6 (B (decide (xX ≤ xMost))) ?_
   refine LWp.nil ?_
   cases h
   exact Wp.ret ⟨.inr rfl, _, _, rfl, rfl⟩
 refine LWp.sh 11 ?_
 refine LWp.sh 12 ?_
 refine LWp.sh 13 ?_
 refine LWp.o 14 (B false) ?_
 refine LWp.o 6 (B false) ?_
 refine LWp.nil ?_
 cases h
 exact Wp.ret ⟨.inr rfl, _, _, rfl, rfl⟩
def s_PageOk_H1 (xP : Page) (z1 : Bool) : St := mkSt [(1, (.one (.ptr (.box 1) 0 [] 0))), (39, (B z1))] [(.box 1, [.int .i64 xP.Kind, .int .i64 xP.Seq, .int .i64 xP.Tx, .int .i64 xP.Part, .int .i64 xP.Count, .str xP.Text])]
theorem s_PageOk_t (xP : Page) (r : Bool) (h : s_PageOk xP = some r) : Gives Tryz.prog 119 [.sv (.agg [.int .i64 xP.Kind, .int .i64 xP.Seq, .int .i64 xP.Tx, .int .i64 xP.Part, .int .i64 xP.Count, .str xP.Text])] (B r) (List.replicate 1 .gone) := by
 unfold s_PageOk at h
 refine gives_of Tryz.func119 rfl ?_
 rw [Tryz.ntmps119]
 refine Wp.seq (Wp.region ?_)
 refine LWp.b [] 1 [.int .i64 xP.Kind, .int .i64 xP.Seq, .int .i64 xP.Tx, .int .i64 xP.Part, .int .i64 xP.Count, .str xP.Text] ?_
 refine LWp.o 2 (B false) ?_
 refine LWp.nil ?_
 refine Wp.seq ?_
 refine Wp.seq ?_
 refine Wp.j1 h [1, 39] [.box 1] (fun a => (s_PageOk_H1 xP a)) ?_ ?_
 · intro a h
   refine Wp.region ?_
   refine LWp.o 3 (.one (.ptr (.box 1) 1 [] 0)) ?_
   refine LWp.o 4 (I xP.Kind) ?_
   refine LWp.cl h 5 (fun v1 => (B v1)) rfl (l := [.sv (.one (.int .i64 xP.Kind)), .sv (.one (.int .i64 1)), .sv (.one (.int .i64 2))]) rfl (fun v hv => s_l01In_t xP.Kind 1 2 v hv) (.inl rfl) ?_
   intro v1 gv1 h
   refine LWp.o 6 (B (!v1)) ?_
   refine LWp.o 7 (B (!v1)) ?_
   refine LWp.sp h 7 (fun h => ?_) (fun h => ?_)
   · refine LWp.sh 8 ?_
     refine LWp.sh 9 ?_
     refine LWp.sh 10 ?_
     refine LWp.sh 11 ?_
     refine LWp.o 12 (B true) ?_
     refine LWp.o 13 (B true) ?_
     refine LWp.sh 14 ?_
     refine LWp.sh 15 ?_
     refine LWp.sh 16 ?_
     refine LWp.sh 17 ?_
     refine LWp.o 18 (B true) ?_
     refine LWp.o 19 (B true) ?_
     refine LWp.sh 20 ?_
     refine LWp.sh 21 ?_
     refine LWp.sh 22 ?_
     refine LWp.sh 23 ?_
     refine LWp.o 24 (B true) ?_
     refine LWp.o 25 (B true) ?_
     refine LWp.sh 26 ?_
     refine LWp.sh 27 ?_
     refine LWp.sh 28 ?_
     refine LWp.sh 29 ?_
     refine LWp.sh 30 ?_
     refine LWp.sh 31 ?_
     refine LWp.sh 32 ?_
     refine LWp.o 33 (B true) ?_
     refine LWp.o 34 (B true) ?_
     refine LWp.sh 35 ?_
     refine LWp.sh 36 ?_
     refine LWp.sh 37 ?_
     refine LWp.sh 38 ?_
     refine LWp.o 39 (B true) ?_
     refine LWp.nil ?_
     cases h
     exact ⟨_, rfl, rfl, rfl⟩
   refine LWp.o 8 (.one (.ptr (.box 1) 1 [] 1)) ?_
   refine LWp.o 9 (I xP.Seq) ?_
   refine LWp.cl h 10 (fun v2 => (B v2)) rfl (l := [.sv (.one (.int .i64 xP.Seq)), .sv (.one (.int .i64 1)), .sv (.one (.int .i64 1000000000))]) rfl (fun v hv => s_l01In_t xP.Seq 1 1000000000 v hv) (.inl rfl) ?_
   intro v2 gv2 h
   refine LWp.o 11 (B (!v2)) ?_
   refine LWp.o 12 (B (!v2)) ?_
   refine LWp.o 13 (B (!v2)) ?_
   refine LWp.sp h 13 (fun h => ?_) (fun h => ?_)
   · refine LWp.sh 14 ?_
     refine LWp.sh 15 ?_
     refine LWp.sh 16 ?_
     refine LWp.sh 17 ?_
     refine LWp.o 18 (B true) ?_
     refine LWp.o 19 (B true) ?_
     refine LWp.sh 20 ?_
     refine LWp.sh 21 ?_
     refine LWp.sh 22 ?_
     refine LWp.sh 23 ?_
     refine LWp.o 24 (B true) ?_
     refine LWp.o 25 (B true) ?_
     refine LWp.sh 26 ?_
     refine LWp.sh 27 ?_
     refine LWp.sh 28 ?_
     refine LWp.sh 29 ?_
     refine LWp.sh 30 ?_
     refine LWp.sh 31 ?_
     refine LWp.sh 32 ?_
     refine LWp.o 33 (B true) ?_
     refine LWp.o 34 (B true) ?_
     refine LWp.sh 35 ?_
     refine LWp.sh 36 ?_
     refine LWp.sh 37 ?_
     refine LWp.sh 38 ?_
     refine LWp.o 39 (B true) ?_
     refine LWp.nil ?_
     cases h
     exact ⟨_, rfl, rfl, rfl⟩
   refine LWp.o 14 (.one (.ptr (.box 1) 1 [] 2)) ?_
   refine LWp.o 15 (I xP.Tx) ?_
   refine LWp.cl h 16 (fun v3 => (B v3)) rfl (l := [.sv (.one (.int .i64 xP.Tx)), .sv (.one (.int .i64 1)), .sv (.one (.int .i64 1000000000))]) rfl (fun v hv => s_l01In_t xP.Tx 1 1000000000 v hv) (.inl rfl) ?_
   intro v3 gv3 h
   refine LWp.o 17 (B (!v3)) ?_
   refine LWp.o 18 (B (!v3)) ?_
   refine LWp.o 19 (B (!v3)) ?_
   refine LWp.sp h 19 (fun h => ?_) (fun h => ?_)
   · refine LWp.sh 20 ?_
     refine LWp.sh 21 ?_
     refine LWp.sh 22 ?_
     refine LWp.sh 23 ?_
     refine LWp.o 24 (B true) ?_
     refine LWp.o 25 (B true) ?_
     refine LWp.sh 26 ?_
     refine LWp.sh 27 ?_
     refine LWp.sh 28 ?_
     refine LWp.sh 29 ?_
     refine LWp.sh 30 ?_
     refine LWp.sh 31 ?_
     refine LWp.sh 32 ?_
     refine LWp.o 33 (B true) ?_
     refine LWp.o 34 (B true) ?_
     refine LWp.sh 35 ?_
     refine LWp.sh 36 ?_
     refine LWp.sh 37 ?_
     refine LWp.sh 38 ?_
     refine LWp.o 39 (B true) ?_
     refine LWp.nil ?_
     cases h
     exact ⟨_, rfl, rfl, rfl⟩
   refine LWp.o 20 (.one (.ptr (.box 1) 1 [] 4)) ?_
   refine LWp.o 21 (I xP.Count) ?_
   refine LWp.cl h 22 (fun v4 => (B v4)) rfl (l := [.sv (.one (.int .i64 xP.Count)), .sv (.one (.int .i64 1)), .sv (.one (.int .i64 9))]) rfl (fun v hv => s_l01In_t xP.Count 1 9 v hv) (.inl rfl) ?_
   intro v4 gv4 h
   refine LWp.o 23 (B (!v4)) ?_
   refine LWp.o 24 (B (!v4)) ?_
   refine LWp.o 25 (B (!v4)) ?_
   refine LWp.sp h 25 (fun h => ?_) (fun h => ?_)
   · refine LWp.sh 26 ?_
     refine LWp.sh 27 ?_
     refine LWp.sh 28 ?_
     refine LWp.sh 29 ?_
     refine LWp.sh 30 ?_
     refine LWp.sh 31 ?_
     refine LWp.sh 32 ?_
     refine LWp.o 33 (B true) ?_
     refine LWp.o 34 (B true) ?_
     refine LWp.sh 35 ?_
     refine LWp.sh 36 ?_
     refine LWp.sh 37 ?_
     refine LWp.sh 38 ?_
     refine LWp.o 39 (B true) ?_
     refine LWp.nil ?_
     cases h
     exact ⟨_, rfl, rfl, rfl⟩
   refine LWp.o 26 (.one (.ptr (.box 1) 1 [] 3)) ?_
   refine LWp.o 27 (I xP.Part) ?_
   refine LWp.o 28 (.one (.ptr (.box 1) 1 [] 4)) ?_
   refine LWp.o 29 (I xP.Count) ?_
   refine LWp.o 30 (I (sb xP.Count 1)) ?_
   refine LWp.cl h 31 (fun v5 => (B v5)) rfl (l := [.sv (.one (.int .i64 xP.Part)), .sv (.one (.int .i64 0)), .sv (.one (.int .i64 (sb xP.Count 1)))]) rfl (fun v hv => s_l01In_t xP.Part 0 (sb xP.Count 1) v hv) (.inl rfl) ?_
   intro v5 gv5 h
   refine LWp.o 32 (B (!v5)) ?_
   refine LWp.o 33 (B (!v5)) ?_
   refine LWp.o 34 (B (!v5)) ?_
   refine LWp.sp h 34 (fun h => ?_) (fun h => ?_)
   · refine LWp.sh 35 ?_
     refine LWp.sh 36 ?_
     refine LWp.sh 37 ?_
     refine LWp.sh 38 ?_
     refine LWp.o 39 (B true) ?_
     refine LWp.nil ?_
     cases h
     exact ⟨_, rfl, rfl, rfl⟩
   refine LWp.o 35 (.one (.ptr (.box 1) 1 [] 5)) ?_
   refine LWp.o 36 (Y xP.Text) ?_
   refine LWp.o 37 (I (sln xP.Text)) ?_
   refine LWp.o 38 (B (decide ((sln xP.Text) > 90))) ?_
   refine LWp.o 39 (B (decide ((sln xP.Text) > 90))) ?_
   refine LWp.nil ?_
   cases h
   exact ⟨_, rfl, rfl, rfl⟩
 intro j1 h E hE
 refine nt_wp hE ?_
 change Wp _ _ _ (s_PageOk_H1 xP j1) _
 refine Wp.c h (fun h => ?_) (fun h => ?_)
 · refine Wp.seq (Wp.region ?_)
   refine LWp.o 2 (B false) ?_
   refine LWp.nil ?_
   cases h
   exact Wp.ret ⟨.inr rfl, _, _, rfl, rfl⟩
 refine Wp.skip ?_
 refine Wp.seq (Wp.region ?_)
 refine LWp.o 40 (.one (.ptr (.box 1) 0 [] 0)) ?_
 refine LWp.o 41 (I xP.Kind) ?_
 refine LWp.o 42 (B (xP.Kind == 2)) ?_
 refine LWp.o 43 (B (xP.Kind == 2)) ?_
 refine LWp.sp h 43 (fun h => ?_) (fun h => ?_)
 · refine LWp.sh 44 ?_
   refine LWp.sh 45 ?_
   refine LWp.sh 46 ?_
   refine LWp.o 47 (B true) ?_
   refine LWp.o 2 (B true) ?_
   refine LWp.nil ?_
   cases h
   exact Wp.ret ⟨.inr rfl, _, _, rfl, rfl⟩
 refine LWp.o 44 (.one (.ptr (.box 1) 0 [] 4)) ?_
 refine LWp.o 45 (I xP.Count) ?_
 refine LWp.o 46 (B (xP.Count == 1)) ?_
 refine LWp.o 47 (B (xP.Count == 1)) ?_
 refine LWp.o 2 (B (xP.Count == 1)) ?_
 refine LWp.nil ?_
 cases h
 exact Wp.ret ⟨.inr rfl, _, _, rfl, rfl⟩
def c5 (x : Int) : List TV := [.int .u8 x]
theorem k5 : ∀ x, (c5 x).length = 1 := fun _ => rfl
theorem sh5 : ∀ l, shares (encs c5 l) = encs c5 l := shares_encs (fun _ => rfl)
theorem ns5 : ∀ l, hasShareds (encs c5 l) = false := ns_encs (fun _ => rfl)
theorem s_l06Byte_t (xN : Int) (r : ByteArray) (h : s_l06Byte xN = some r) : Gives Tryz.prog 121 [.sv (I xN)] (Y r) (List.replicate 1 .gone) := by
 unfold s_l06Byte at h
 refine gives_of Tryz.func121 rfl ?_
 rw [Tryz.ntmps121]
 refine Wp.seq (Wp.region ?_)
 refine LWp.o 2 (Y (bs [])) ?_
 refine LWp.nil ?_
 refine Wp.seq (Wp.region ?_)
 refine LWp.o 3 (I xN) ?_
 refine LWp.o 4 (.one (.int .u8 (IntKind.u8.wrap xN))) ?_
 refine LWp.m false [] 5 (.one (.sl true 5 1 (encs c5 [(IntKind.u8.wrap xN)]))) ?_
 refine LWp.o 6 (Y (strB [(IntKind.u8.wrap xN)])) ?_ (st_pure (p_cv (fun _ => rfl) [(IntKind.u8.wrap xN)]))
 refine LWp.o 2 (Y (strB [(IntKind.u8.wrap xN)])) ?_
 refine LWp.nil ?_
 cases h
 exact Wp.ret ⟨.inr rfl, _, _, rfl, rfl⟩
def s_l01Var_H1 (z1 : Int) (z2 : List Int) : St := mkSt [(0, (I z1)), (3, (.one (.sl true 5 1 (encs c5 z2))))] []
def s_l01Var_H2 (z3 : Int) (z4 : List Int) : St := mkSt [(0, (I z3)), (3, (.one (.sl true 5 1 (encs c5 z4))))] []
theorem s_l01Var_t (xN : Int) (r : ByteArray) (h : s_l01Var xN = some r) : Gives Tryz.prog 122 [.sv (I xN)] (Y r) (List.replicate 1 .gone) := by
 unfold s_l01Var at h
 refine gives_of Tryz.func122 rfl ?_
 rw [Tryz.ntmps122]
 refine Wp.seq (Wp.region ?_)
 refine LWp.o 2 (Y (bs [])) ?_
 refine LWp.nil ?_
 refine Wp.seq (Wp.region ?_)
 refine LWp.m false [] 4 (.one (.sl true 5 1 (encs c5 []))) ?_
 refine LWp.m true [(.slot 4, [.junk])] 3 (.one (.sl true 5 1 (encs c5 []))) ?_
 refine LWp.nil ?_
 refine Wp.seq ?_
 refine Wp.l1 h [0, 3] [] (fun s => (s_l01Var_H1 s.1 s.2)) [0, 3] [] (fun s => (s_l01Var_H2 s.1 s.2)) ⟨rfl, rfl⟩ ?_ ?_
 · rintro ⟨yN1, yOut1⟩ o (h : s_l01Var_b1 yN1 yOut1 = some o)
   unfold s_l01Var_b1 at h
   change Wp _ _ _ (s_l01Var_H1 yN1 yOut1) _
   refine Wp.seq ?_
   refine Wp.seq (Wp.region ?_)
   refine LWp.o 5 (I yN1) ?_
   refine LWp.o 6 (B (decide (yN1 > 127))) ?_
   refine LWp.nil ?_
   refine Wp.c h (fun h => ?_) (fun h => ?_)
   · refine Wp.skip ?_
     refine Wp.block ?_
     refine Wp.seq (Wp.region ?_)
     refine LWp.o 7 (.one (.view (.slot 3) 0 [] 0)) ?_
     refine LWp.o 8 (I yN1) ?_
     refine LWp.o 9 (I (Int.tmod yN1 128)) ?_
     refine LWp.o 10 (I (ad (Int.tmod yN1 128) 128)) ?_
     refine LWp.o 11 (.one (.int .u8 (IntKind.u8.wrap (ad (Int.tmod yN1 128) 128)))) ?_
     refine LWp.m false [] 12 (.one (.sl true 5 1 (encs c5 [(IntKind.u8.wrap (ad (Int.tmod yN1 128) 128))]))) ?_
     refine LWp.pm h [(.slot 3, [.junk])] 13 (fun q1 => (.one (.sl true 5 1 (encs c5 q1)))) ?_ (fun q1 gq1 => s_apl k5 (fun _ => rfl) [(.slot 3, [.junk])] yOut1 gq1)
     intro q1 gq1 h
     refine LWp.m true [(.slot 13, [.junk])] 3 (.one (.sl true 5 1 (encs c5 q1))) ?_
     refine LWp.nil ?_
     refine Wp.region ?_
     refine LWp.o 14 (I yN1) ?_
     refine LWp.o 15 (I (qu yN1 128)) ?_
     refine LWp.o 0 (I (qu yN1 128)) ?_
     refine LWp.nil ?_
     cases h
     exact ⟨_, rfl, rfl, rfl⟩
   refine Wp.exit ?_
   cases h
   exact ⟨_, rfl, rfl, rfl⟩
 intro v1 h E hE
 refine nt_wp hE ?_
 change Wp _ _ _ (s_l01Var_H2 v1.1 v1.2) _
 refine Wp.seq (Wp.region ?_)
 refine LWp.o 16 (.one (.view (.slot 3) 0 [] 0)) ?_
 refine LWp.o 17 (I v1.1) ?_
 refine LWp.o 18 (.one (.int .u8 (IntKind.u8.wrap v1.1))) ?_
 refine LWp.m false [] 19 (.one (.sl true 5 1 (encs c5 [(IntKind.u8.wrap v1.1)]))) ?_
 refine LWp.pm h [(.slot 3, [.junk])] 20 (fun q2 => (.one (.sl true 5 1 (encs c5 q2)))) ?_ (fun q2 gq2 => s_apl k5 (fun _ => rfl) [(.slot 3, [.junk])] v1.2 gq2)
 intro q2 gq2 h
 refine LWp.o 21 (Y (strB q2)) ?_ (st_pure (p_cv (fun _ => rfl) q2))
 refine LWp.o 2 (Y (strB q2)) ?_
 refine LWp.nil ?_
 cases h
 exact Wp.ret ⟨.inr rfl, _, _, rfl, rfl⟩
def s_SumMore_H1 (xText : ByteArray) (z1 : Int) (z2 : Int) : St := mkSt [(0, (.one (.int .u32 z1))), (1, (Y xText)), (5, (I z2))] []
def s_SumMore_H2 (z3 : Int) : St := mkSt [(0, (.one (.int .u32 z3)))] []
def s_SumMore_H3 (xText : ByteArray) (yI1 : Int) (z4 : Int) (z5 : Int) : St := mkSt [(0, (.one (.int .u32 z4))), (1, (Y xText)), (5, (I yI1)), (6, (I z5))] []
def s_SumMore_H4 (xText : ByteArray) (yI1 : Int) (z6 : Int) : St := mkSt [(0, (.one (.int .u32 z6))), (1, (Y xText)), (5, (I yI1))] []
theorem s_SumMore_t (xSum : Int) (xText : ByteArray) (r : Int) (h : s_SumMore xSum xText = some r) : Gives Tryz.prog 200 [.sv (.one (.int .u32 xSum)), .sv (Y xText)] (.one (.int .u32 r)) (List.replicate 2 .gone) := by
 unfold s_SumMore at h
 refine gives_of Tryz.func200 rfl ?_
 rw [Tryz.ntmps200]
 refine Wp.seq (Wp.region ?_)
 refine LWp.o 4 (.one (.int .u32 0)) ?_
 refine LWp.nil ?_
 refine Wp.seq ?_
 refine Wp.seq (Wp.region ?_)
 refine LWp.o 5 (I 0) ?_
 refine LWp.nil ?_
 refine Wp.l1 h [0, 1, 5] [] (fun s => (s_SumMore_H1 xText s.1 s.2)) [0] [] (fun s => (s_SumMore_H2 s)) ⟨rfl, rfl⟩ ?_ ?_
 · rintro ⟨ySum1, yI1⟩ o (h : s_SumMore_b1 xText ySum1 yI1 = some o)
   unfold s_SumMore_b1 at h
   change Wp _ _ _ (s_SumMore_H1 xText ySum1 yI1) _
   refine Wp.seq ?_
   refine Wp.seq (Wp.region ?_)
   refine LWp.o 8 (I yI1) ?_
   refine LWp.o 9 (Y xText) ?_
   refine LWp.o 10 (I (sln xText)) ?_
   refine LWp.o 11 (B (decide (yI1 < (sln xText)))) ?_
   refine LWp.nil ?_
   refine Wp.c h (fun h => ?_) (fun h => ?_)
   · refine Wp.skip ?_
     refine Wp.seq ?_
     refine Wp.block ?_
     refine Wp.seq (Wp.region ?_)
     refine LWp.o 14 (.one (.int .u32 ySum1)) ?_
     refine LWp.o 15 (Y xText) ?_
     refine LWp.o 16 (I yI1) ?_
     refine LWp.p h 17 (fun x1 => (.one (.int .u8 x1))) ?_ (fun x1 gx1 => st_pure (p_sx gx1))
     intro x1 gx1 h
     refine LWp.o 18 (.one (.int .u32 (IntKind.u32.wrap x1))) ?_
     refine LWp.o 19 (.one (.int .u32 (xr ySum1 (IntKind.u32.wrap x1)))) ?_
     refine LWp.o 0 (.one (.int .u32 (xr ySum1 (IntKind.u32.wrap x1)))) ?_
     refine LWp.nil ?_
     refine Wp.seq (Wp.region ?_)
     refine LWp.o 6 (I 0) ?_
     refine LWp.nil ?_
     refine Wp.l1 h [0, 1, 5, 6] [] (fun s => (s_SumMore_H3 xText yI1 s.1 s.2)) [0, 1, 5] [] (fun s => (s_SumMore_H4 xText yI1 s)) ⟨rfl, rfl⟩ ?_ ?_
     · rintro ⟨ySum2, yK1⟩ o (h : s_SumMore_b2 ySum2 yK1 = some o)
       unfold s_SumMore_b2 at h
       change Wp _ _ _ (s_SumMore_H3 xText yI1 ySum2 yK1) _
       refine Wp.seq ?_
       refine Wp.seq (Wp.region ?_)
       refine LWp.o 20 (I yK1) ?_
       refine LWp.o 21 (B (decide (yK1 < 8))) ?_
       refine LWp.nil ?_
       refine Wp.c h (fun h => ?_) (fun h => ?_)
       · refine Wp.skip ?_
         refine Wp.seq ?_
         refine Wp.block ?_
         refine Wp.seq (Wp.region ?_)
         refine LWp.o 24 (.one (.int .u32 ySum2)) ?_
         refine LWp.o 25 (.one (.int .u32 (Int.tmod ySum2 2))) ?_
         refine LWp.o 26 (B ((Int.tmod ySum2 2) == 1)) ?_
         refine LWp.o 7 (B ((Int.tmod ySum2 2) == 1)) ?_
         refine LWp.nil ?_
         refine Wp.seq (Wp.region ?_)
         refine LWp.o 27 (.one (.int .u32 ySum2)) ?_
         refine LWp.o 28 (.one (.int .u32 (IntKind.u32.wrap (Int.tdiv ySum2 2)))) ?_
         refine LWp.o 0 (.one (.int .u32 (IntKind.u32.wrap (Int.tdiv ySum2 2)))) ?_
         refine LWp.nil ?_
         refine Wp.seq (Wp.region ?_)
         refine LWp.o 29 (B ((Int.tmod ySum2 2) == 1)) ?_
         refine LWp.nil ?_
         refine Wp.c h (fun h => ?_) (fun h => ?_)
         · refine Wp.region ?_
           refine LWp.o 30 (.one (.int .u32 (IntKind.u32.wrap (Int.tdiv ySum2 2)))) ?_
           refine LWp.o 31 (.one (.int .u32 (xr (IntKind.u32.wrap (Int.tdiv ySum2 2)) 3558460437))) ?_
           refine LWp.o 0 (.one (.int .u32 (xr (IntKind.u32.wrap (Int.tdiv ySum2 2)) 3558460437))) ?_
           refine LWp.nil ?_
           refine Wp.region ?_
           refine LWp.o 22 (I yK1) ?_
           refine LWp.o 23 (I (ad yK1 1)) ?_
           refine LWp.o 6 (I (ad yK1 1)) ?_
           refine LWp.nil ?_
           cases h
           exact ⟨_, rfl, rfl, rfl⟩
         refine Wp.skip ?_
         refine Wp.region ?_
         refine LWp.o 22 (I yK1) ?_
         refine LWp.o 23 (I (ad yK1 1)) ?_
         refine LWp.o 6 (I (ad yK1 1)) ?_
         refine LWp.nil ?_
         cases h
         exact ⟨_, rfl, rfl, rfl⟩
       refine Wp.exit ?_
       cases h
       exact ⟨_, rfl, rfl, rfl⟩
     intro v1 h E hE
     refine nt_wp hE ?_
     change Wp _ _ _ (s_SumMore_H4 xText yI1 v1) _
     refine Wp.region ?_
     refine LWp.o 12 (I yI1) ?_
     refine LWp.o 13 (I (ad yI1 1)) ?_
     refine LWp.o 5 (I (ad yI1 1)) ?_
     refine LWp.nil ?_
     cases h
     exact ⟨_, rfl, rfl, rfl⟩
   refine Wp.exit ?_
   cases h
   exact ⟨_, rfl, rfl, rfl⟩
 intro v2 h E hE
 refine nt_wp hE ?_
 change Wp _ _ _ (s_SumMore_H2 v2) _
 refine Wp.seq (Wp.region ?_)
 refine LWp.o 32 (.one (.int .u32 v2)) ?_
 refine LWp.o 4 (.one (.int .u32 v2)) ?_
 refine LWp.nil ?_
 cases h
 exact Wp.ret ⟨.inr rfl, _, _, rfl, rfl⟩
theorem s_SumOf_t (xText : ByteArray) (r : Int) (h : s_SumOf xText = some r) : Gives Tryz.prog 167 [.sv (Y xText)] (.one (.int .u32 r)) (List.replicate 1 .gone) := by
 unfold s_SumOf at h
 refine gives_of Tryz.func167 rfl ?_
 rw [Tryz.ntmps167]
 refine Wp.seq (Wp.region ?_)
 refine LWp.o 2 (.one (.int .u32 0)) ?_
 refine LWp.nil ?_
 refine Wp.seq (Wp.region ?_)
 refine LWp.o 3 (Y xText) ?_
 refine LWp.cl h 4 (fun v1 => (.one (.int .u32 v1))) rfl (l := [.sv (.one (.int .u32 4294967295)), .sv (.one (.str xText))]) rfl (fun v hv => s_SumMore_t 4294967295 xText v hv) (.inl rfl) ?_
 intro v1 gv1 h
 refine LWp.o 2 (.one (.int .u32 v1)) ?_
 refine LWp.nil ?_
 cases h
 exact Wp.ret ⟨.inr rfl, _, _, rfl, rfl⟩
theorem s_l02Four_t (xX : Int) (r : ByteArray) (h : s_l02Four xX = some r) : Gives Tryz.prog 166 [.sv (.one (.int .u32 xX))] (Y r) (List.replicate 1 .gone) := by
 unfold s_l02Four at h
 refine gives_of Tryz.func166 rfl ?_
 rw [Tryz.ntmps166]
 refine Wp.seq (Wp.region ?_)
 refine LWp.o 2 (Y (bs [])) ?_
 refine LWp.nil ?_
 refine Wp.seq (Wp.region ?_)
 refine LWp.o 3 (.one (.int .u32 xX)) ?_
 refine LWp.o 4 (.one (.int .u32 (Int.fdiv xX (2 ^ (min (24 : Int).toNat IntKind.u32.bits))))) ?_
 refine LWp.o 5 (.one (.int .u8 (IntKind.u8.wrap (Int.fdiv xX (2 ^ (min (24 : Int).toNat IntKind.u32.bits)))))) ?_
 refine LWp.o 6 (.one (.int .u32 xX)) ?_
 refine LWp.o 7 (.one (.int .u32 (Int.fdiv xX (2 ^ (min (16 : Int).toNat IntKind.u32.bits))))) ?_
 refine LWp.o 8 (.one (.int .u8 (IntKind.u8.wrap (Int.fdiv xX (2 ^ (min (16 : Int).toNat IntKind.u32.bits)))))) ?_
 refine LWp.o 9 (.one (.int .u32 xX)) ?_
 refine LWp.o 10 (.one (.int .u32 (Int.fdiv xX (2 ^ (min (8 : Int).toNat IntKind.u32.bits))))) ?_
 refine LWp.o 11 (.one (.int .u8 (IntKind.u8.wrap (Int.fdiv xX (2 ^ (min (8 : Int).toNat IntKind.u32.bits)))))) ?_
 refine LWp.o 12 (.one (.int .u32 xX)) ?_
 refine LWp.o 13 (.one (.int .u8 (IntKind.u8.wrap xX))) ?_
 refine LWp.m false [] 14 (.one (.sl true 5 1 (encs c5 [(IntKind.u8.wrap (Int.fdiv xX (2 ^ (min (24 : Int).toNat IntKind.u32.bits)))), (IntKind.u8.wrap (Int.fdiv xX (2 ^ (min (16 : Int).toNat IntKind.u32.bits)))), (IntKind.u8.wrap (Int.fdiv xX (2 ^ (min (8 : Int).toNat IntKind.u32.bits)))), (IntKind.u8.wrap xX)]))) ?_
 refine LWp.o 15 (Y (strB [(IntKind.u8.wrap (Int.fdiv xX (2 ^ (min (24 : Int).toNat IntKind.u32.bits)))), (IntKind.u8.wrap (Int.fdiv xX (2 ^ (min (16 : Int).toNat IntKind.u32.bits)))), (IntKind.u8.wrap (Int.fdiv xX (2 ^ (min (8 : Int).toNat IntKind.u32.bits)))), (IntKind.u8.wrap xX)])) ?_ (st_pure (p_cv (fun _ => rfl) [(IntKind.u8.wrap (Int.fdiv xX (2 ^ (min (24 : Int).toNat IntKind.u32.bits)))), (IntKind.u8.wrap (Int.fdiv xX (2 ^ (min (16 : Int).toNat IntKind.u32.bits)))), (IntKind.u8.wrap (Int.fdiv xX (2 ^ (min (8 : Int).toNat IntKind.u32.bits)))), (IntKind.u8.wrap xX)]))
 refine LWp.o 2 (Y (strB [(IntKind.u8.wrap (Int.fdiv xX (2 ^ (min (24 : Int).toNat IntKind.u32.bits)))), (IntKind.u8.wrap (Int.fdiv xX (2 ^ (min (16 : Int).toNat IntKind.u32.bits)))), (IntKind.u8.wrap (Int.fdiv xX (2 ^ (min (8 : Int).toNat IntKind.u32.bits)))), (IntKind.u8.wrap xX)])) ?_
 refine LWp.nil ?_
 cases h
 exact Wp.ret ⟨.inr rfl, _, _, rfl, rfl⟩
theorem s_Sealed_t (xText : ByteArray) (r : ByteArray × Bool) (h : s_Sealed xText = some r) : Gives Tryz.prog 120 [.sv (Y xText)] (.tup [(Y r.1), (B r.2)]) (List.replicate 1 .gone) := by
 unfold s_Sealed at h
 refine gives_of Tryz.func120 rfl ?_
 rw [Tryz.ntmps120]
 refine Wp.seq (Wp.region ?_)
 refine LWp.o 2 (Y (bs [])) ?_
 refine LWp.o 3 (B false) ?_
 refine LWp.nil ?_
 refine Wp.seq ?_
 refine Wp.seq (Wp.region ?_)
 refine LWp.o 4 (Y xText) ?_
 refine LWp.o 5 (I (sln xText)) ?_
 refine LWp.o 6 (B (decide ((sln xText) > 20000))) ?_
 refine LWp.nil ?_
 refine Wp.c h (fun h => ?_) (fun h => ?_)
 · refine Wp.seq (Wp.region ?_)
   refine LWp.o 2 (Y (bs [])) ?_
   refine LWp.o 3 (B false) ?_
   refine LWp.nil ?_
   cases h
   exact Wp.ret ⟨.inr rfl, _, _, rfl, rfl⟩
 refine Wp.skip ?_
 refine Wp.seq (Wp.region ?_)
 refine LWp.o 7 (Y xText) ?_
 refine LWp.o 8 (Y xText) ?_
 refine LWp.cl h 9 (fun v1 => (.one (.int .u32 v1))) rfl (l := [.sv (.one (.str xText))]) rfl (fun v hv => s_SumOf_t xText v hv) (.inl rfl) ?_
 intro v1 gv1 h
 refine LWp.cl h 10 (fun v2 => (Y v2)) rfl (l := [.sv (.one (.int .u32 v1))]) rfl (fun v hv => s_l02Four_t v1 v hv) (.inl rfl) ?_
 intro v2 gv2 h
 refine LWp.p h 11 (fun x1 => (Y x1)) ?_ (fun x1 gx1 => st_pure (p_cat gx1))
 intro x1 gx1 h
 refine LWp.o 2 (Y x1) ?_
 refine LWp.o 3 (B true) ?_
 refine LWp.nil ?_
 cases h
 exact Wp.ret ⟨.inr rfl, _, _, rfl, rfl⟩
theorem s_PageText_t (xP : Page) (r : ByteArray × Bool) (h : s_PageText xP = some r) : Gives Tryz.prog 80 [.sv (.agg [.int .i64 xP.Kind, .int .i64 xP.Seq, .int .i64 xP.Tx, .int .i64 xP.Part, .int .i64 xP.Count, .str xP.Text])] (.tup [(Y r.1), (B r.2)]) (List.replicate 1 .gone) := by
 unfold s_PageText at h
 refine gives_of Tryz.func80 rfl ?_
 rw [Tryz.ntmps80]
 refine Wp.seq (Wp.region ?_)
 refine LWp.b [] 1 [.int .i64 xP.Kind, .int .i64 xP.Seq, .int .i64 xP.Tx, .int .i64 xP.Part, .int .i64 xP.Count, .str xP.Text] ?_
 refine LWp.o 2 (Y (bs [])) ?_
 refine LWp.o 3 (B false) ?_
 refine LWp.nil ?_
 refine Wp.seq ?_
 refine Wp.seq (Wp.region ?_)
 refine LWp.o 4 (.agg [.int .i64 xP.Kind, .int .i64 xP.Seq, .int .i64 xP.Tx, .int .i64 xP.Part, .int .i64 xP.Count, .str xP.Text]) ?_
 refine LWp.cl h 5 (fun v1 => (B v1)) rfl (l := [.sv (.agg [.int .i64 xP.Kind, .int .i64 xP.Seq, .int .i64 xP.Tx, .int .i64 xP.Part, .int .i64 xP.Count, .str xP.Text])]) rfl (fun v hv => s_PageOk_t xP v hv) (.inl rfl) ?_
 intro v1 gv1 h
 refine LWp.o 6 (B (!v1)) ?_
 refine LWp.nil ?_
 refine Wp.c h (fun h => ?_) (fun h => ?_)
 · refine Wp.seq (Wp.region ?_)
   refine LWp.o 2 (Y (bs [])) ?_
   refine LWp.o 3 (B false) ?_
   refine LWp.nil ?_
   cases h
   exact Wp.ret ⟨.inr rfl, _, _, rfl, rfl⟩
 refine Wp.skip ?_
 refine Wp.seq ?_
 refine Wp.regionK 27 [] mixed (fun c E h => by rcases h with ⟨h | h, _⟩ <;> cases h) ?_
 refine KWp.o 27 0 7 (.one (.ptr (.box 1) 1 [] 0)) ?_
 refine KWp.o 27 1 8 (I xP.Kind) ?_
 refine KWp.o 27 3 10 (.one (.ptr (.box 1) 1 [] 1)) ?_
 refine KWp.o 27 4 11 (I xP.Seq) ?_
 refine KWp.o 27 7 14 (.one (.ptr (.box 1) 1 [] 2)) ?_
 refine KWp.o 27 8 15 (I xP.Tx) ?_
 refine KWp.o 27 11 18 (.one (.ptr (.box 1) 1 [] 3)) ?_
 refine KWp.o 27 12 19 (I xP.Part) ?_
 refine KWp.o 27 15 22 (.one (.ptr (.box 1) 1 [] 4)) ?_
 refine KWp.o 27 16 23 (I xP.Count) ?_
 refine KWp.o 27 19 26 (.one (.ptr (.box 1) 1 [] 5)) ?_
 refine KWp.o 27 20 27 (Y xP.Text) ?_
 refine KWp.w1 2 ?_
 refine KOp.cl h 2 9 (fun v2 => (Y v2)) rfl rfl (l := [.sv (.one (.int .i64 xP.Kind))]) rfl (fun v hv => s_l06Byte_t xP.Kind v hv) (.inl rfl) ?_
 intro v2 gv2 h
 refine KWp.w1 5 ?_
 refine KOp.cl h 5 12 (fun v3 => (Y v3)) rfl rfl (l := [.sv (.one (.int .i64 xP.Seq))]) rfl (fun v hv => s_l01Var_t xP.Seq v hv) (.inl rfl) ?_
 intro v3 gv3 h
 refine KWp.p h 27 6 13 (fun x1 => (Y x1)) ?_ rfl (fun x1 gx1 => sl_pure (p_cat gx1))
 intro x1 gx1 h
 refine KWp.w1 9 ?_
 refine KOp.cl h 9 16 (fun v4 => (Y v4)) rfl rfl (l := [.sv (.one (.int .i64 xP.Tx))]) rfl (fun v hv => s_l01Var_t xP.Tx v hv) (.inl rfl) ?_
 intro v4 gv4 h
 refine KWp.p h 27 10 17 (fun x2 => (Y x2)) ?_ rfl (fun x2 gx2 => sl_pure (p_cat gx2))
 intro x2 gx2 h
 refine KWp.w1 13 ?_
 refine KOp.cl h 13 20 (fun v5 => (Y v5)) rfl rfl (l := [.sv (.one (.int .i64 xP.Part))]) rfl (fun v hv => s_l01Var_t xP.Part v hv) (.inl rfl) ?_
 intro v5 gv5 h
 refine KWp.p h 27 14 21 (fun x3 => (Y x3)) ?_ rfl (fun x3 gx3 => sl_pure (p_cat gx3))
 intro x3 gx3 h
 refine KWp.w1 17 ?_
 refine KOp.cl h 17 24 (fun v6 => (Y v6)) rfl rfl (l := [.sv (.one (.int .i64 xP.Count))]) rfl (fun v hv => s_l01Var_t xP.Count v hv) (.inl rfl) ?_
 intro v6 gv6 h
 refine KWp.p h 27 18 25 (fun x4 => (Y x4)) ?_ rfl (fun x4 gx4 => sl_pure (p_cat gx4))
 intro x4 gx4 h
 refine KWp.p h 27 21 28 (fun x5 => (Y x5)) ?_ rfl (fun x5 gx5 => sl_pure (p_cat gx5))
 intro x5 gx5 h
 refine KWp.w1 22 ?_
 refine KOp.cl h 22 29 (fun v7 => (.tup [(Y v7.1), (B v7.2)])) rfl rfl (l := [.sv (.one (.str x5))]) rfl (fun v hv => s_Sealed_t x5 v hv) (.inl rfl) ?_
 intro v7 gv7 h
 refine KWp.w2 23 24 ?_ ?_
 · refine KOp.e 23 29 0 30 (Y v7.1) ?_
   refine KWp.w1 24 ?_
   refine KOp.e 24 29 1 31 (B v7.2) ?_
   refine KWp.o 27 25 2 (Y v7.1) ?_
   refine KWp.o 27 26 3 (B v7.2) ?_
   refine KWp.done ?_
   cases h
   exact Wp.ret ⟨.inr rfl, _, _, rfl, rfl⟩
 refine KOp.e 24 29 1 31 (B v7.2) ?_
 refine KWp.w1 23 ?_
 refine KOp.e 23 29 0 30 (Y v7.1) ?_
 refine KWp.o 27 25 2 (Y v7.1) ?_
 refine KWp.o 27 26 3 (B v7.2) ?_
 refine KWp.done ?_
 cases h
 exact Wp.ret ⟨.inr rfl, _, _, rfl, rfl⟩
theorem s_l05Leaf_t (xX : Leaf) (r : Bool) (h : s_l05Leaf xX = some r) : Gives Tryz.prog 168 [.sv (.agg [.int .i64 xX.Is, .str xX.Text])] (B r) (List.replicate 1 .gone) := by
 unfold s_l05Leaf at h
 refine gives_of Tryz.func168 rfl ?_
 rw [Tryz.ntmps168]
 refine Wp.seq (Wp.region ?_)
 refine LWp.b [] 1 [.int .i64 xX.Is, .str xX.Text] ?_
 refine LWp.o 2 (B false) ?_
 refine LWp.nil ?_
 refine Wp.seq ?_
 refine Wp.seq (Wp.region ?_)
 refine LWp.o 3 (.one (.ptr (.box 1) 1 [] 0)) ?_
 refine LWp.o 4 (I xX.Is) ?_
 refine LWp.nil ?_
 refine Wp.block ?_
 refine Wp.seq (Wp.region ?_)
 refine LWp.o 6 (B (xX.Is == 0)) ?_
 refine LWp.o 5 (B (xX.Is == 0)) ?_
 refine LWp.nil ?_
 refine Wp.c h (fun h => ?_) (fun h => ?_)
 · refine Wp.seq (Wp.region ?_)
   refine LWp.o 7 (.one (.ptr (.box 1) 1 [] 1)) ?_
   refine LWp.o 8 (Y xX.Text) ?_
   refine LWp.o 9 (B (seq xX.Text (bs []))) ?_
   refine LWp.o 2 (B (seq xX.Text (bs []))) ?_
   refine LWp.nil ?_
   cases h
   exact Wp.ret ⟨.inr rfl, _, _, rfl, rfl⟩
 refine Wp.seq (Wp.region ?_)
 refine LWp.o 11 (B (xX.Is == 1)) ?_
 refine LWp.o 10 (B (xX.Is == 1)) ?_
 refine LWp.nil ?_
 refine Wp.c h (fun h => ?_) (fun h => ?_)
 · refine Wp.seq (Wp.region ?_)
   refine LWp.o 12 (.one (.ptr (.box 1) 1 [] 1)) ?_
   refine LWp.o 13 (Y xX.Text) ?_
   refine LWp.o 14 (I (sln xX.Text)) ?_
   refine LWp.cl h 15 (fun v1 => (B v1)) rfl (l := [.sv (.one (.int .i64 (sln xX.Text))), .sv (.one (.int .i64 1)), .sv (.one (.int .i64 120))]) rfl (fun v hv => s_l01In_t (sln xX.Text) 1 120 v hv) (.inl rfl) ?_
   intro v1 gv1 h
   refine LWp.o 2 (B v1) ?_
   refine LWp.nil ?_
   cases h
   exact Wp.ret ⟨.inr rfl, _, _, rfl, rfl⟩
 refine Wp.seq (Wp.region ?_)
 refine LWp.o 17 (B (xX.Is == 2)) ?_
 refine LWp.o 16 (B (xX.Is == 2)) ?_
 refine LWp.nil ?_
 refine Wp.c h (fun h => ?_) (fun h => ?_)
 · refine Wp.seq (Wp.region ?_)
   refine LWp.o 18 (.one (.ptr (.box 1) 1 [] 1)) ?_
   refine LWp.o 19 (Y xX.Text) ?_
   refine LWp.o 20 (I (sln xX.Text)) ?_
   refine LWp.o 21 (B (decide ((sln xX.Text) ≤ 120))) ?_
   refine LWp.o 2 (B (decide ((sln xX.Text) ≤ 120))) ?_
   refine LWp.nil ?_
   cases h
   exact Wp.ret ⟨.inr rfl, _, _, rfl, rfl⟩
 refine Wp.skip ?_
 refine Wp.seq (Wp.region ?_)
 refine LWp.o 2 (B false) ?_
 refine LWp.nil ?_
 cases h
 exact Wp.ret ⟨.inr rfl, _, _, rfl, rfl⟩
def s_FlashOk_H1 (xF : Flash) (z1 : Int) : St := mkSt [(1, (.one (.ptr (.box 1) 0 [] 0))), (3, (I z1))] [(.box 1, [.sl false 124 3 (encs (c124 false) xF.Blocks)])]
def s_FlashOk_H2 (xF : Flash) : St := mkSt [(1, (.one (.ptr (.box 1) 0 [] 0)))] [(.box 1, [.sl false 124 3 (encs (c124 false) xF.Blocks)])]
def s_FlashOk_H3 (xF : Flash) (yI1 : Int) (x1 : Block) (z2 : Bool) : St := mkSt [(1, (.one (.ptr (.box 1) 0 [] 0))), (3, (I yI1)), (4, (.one (.ptr (.box 4) 0 [] 0))), (27, (B z2))] [(.box 1, [.sl false 124 3 (encs (c124 false) xF.Blocks)]), (.box 4, [.bool x1.Bad, .int .i64 x1.Wear, .sl false 165 2 (encs c165 x1.Leaves)])]
def s_FlashOk_H4 (xF : Flash) (yI1 : Int) (x1 : Block) (z3 : Int) : St := mkSt [(1, (.one (.ptr (.box 1) 0 [] 0))), (3, (I yI1)), (4, (.one (.ptr (.box 4) 0 [] 0))), (5, (I z3))] [(.box 1, [.sl false 124 3 (encs (c124 false) xF.Blocks)]), (.box 4, [.bool x1.Bad, .int .i64 x1.Wear, .sl false 165 2 (encs c165 x1.Leaves)])]
def s_FlashOk_H5 (xF : Flash) (yI1 : Int) : St := mkSt [(1, (.one (.ptr (.box 1) 0 [] 0))), (3, (I yI1))] [(.box 1, [.sl false 124 3 (encs (c124 false) xF.Blocks)])]
def s_FlashOk_H6 (xF : Flash) (yI1 : Int) (x1 : Block) (yK1 : Int) (z4 : Bool) : St := mkSt [(1, (.one (.ptr (.box 1) 0 [] 0))), (3, (I yI1)), (4, (.one (.ptr (.box 4) 0 [] 0))), (5, (I yK1)), (64, (B z4))] [(.box 1, [.sl false 124 3 (encs (c124 false) xF.Blocks)]), (.box 4, [.bool x1.Bad, .int .i64 x1.Wear, .sl false 165 2 (encs c165 x1.Leaves)])]
theorem s_FlashOk_t (xF : Flash) (r : Bool) (h : s_FlashOk xF = some r) : Gives Tryz.prog 123 [.sv (.agg [.sl false 124 3 (encs (c124 false) xF.Blocks)])] (B r) (List.replicate 1 .gone) := by
 unfold s_FlashOk at h
 refine gives_of Tryz.func123 rfl ?_
 rw [Tryz.ntmps123]
 refine Wp.seq (Wp.region ?_)
 refine LWp.b [] 1 [.sl false 124 3 (encs (c124 false) xF.Blocks)] ?_
 refine LWp.o 2 (B false) ?_
 refine LWp.nil ?_
 refine Wp.seq ?_
 refine Wp.seq (Wp.region ?_)
 refine LWp.o 3 (I 0) ?_
 refine LWp.nil ?_
 refine Wp.l2 h [1, 3] [.box 1] (fun s => (s_FlashOk_H1 xF s)) [1] [.box 1] (fun _ => (s_FlashOk_H2 xF)) ⟨rfl, rfl⟩ ?_ ?_
 · rintro yI1 o (h : s_FlashOk_b1 xF yI1 = some o) hk1
   unfold s_FlashOk_b1 at h
   change Wp _ _ _ (s_FlashOk_H1 xF yI1) _
   refine Wp.seq ?_
   refine Wp.seq (Wp.region ?_)
   refine LWp.o 6 (I yI1) ?_
   refine LWp.o 7 (.one (.ptr (.box 1) 0 [] 0)) ?_
   refine LWp.o 8 (.one (.sl false 124 3 (encs (c124 false) xF.Blocks))) ?_
   refine LWp.o 9 (I (ln xF.Blocks)) ?_ (st_pure (p_ln (k124 false) xF.Blocks))
   refine LWp.o 10 (B (decide (yI1 < (ln xF.Blocks)))) ?_
   refine LWp.nil ?_
   refine Wp.c h (fun h => ?_) (fun h => ?_)
   · refine Wp.skip ?_
     refine Wp.seq ?_
     refine Wp.block ?_
     refine Wp.seq (Wp.region ?_)
     refine LWp.o 13 (.one (.ptr (.box 1) 0 [] 0)) ?_
     refine LWp.o 14 (.one (.sl false 124 3 (encs (c124 false) xF.Blocks))) ?_
     refine LWp.o 15 (I yI1) ?_
     refine LWp.p h 16 (fun _ => (.one (.ptr (.slot 14) 1 [0] (Int.toNat yI1 * 3 + 0)))) ?_ (fun x1 gx1 => st_pure (p_ix (k124 false) (.slot 14) [] 0 gx1))
     intro x1 gx1 h
     refine LWp.o 17 (.agg [.bool x1.Bad, .int .i64 x1.Wear, .sl false 165 2 (encs c165 x1.Leaves)]) ?_ (st_pure (p_le (k124 false) (.slot 14) [0] gx1))
     refine LWp.b [] 4 [.bool false, .int .i64 0, .sl true 165 2 (encs c165 [])] ?_
     refine LWp.sb [] (.box 4) [.bool x1.Bad, .int .i64 x1.Wear, .sl false 165 2 (encs c165 x1.Leaves)] ?_
     refine LWp.nil ?_
     refine Wp.seq ?_
     refine Wp.seq ?_
     refine Wp.j1 h [1, 3, 4, 27] [.box 1, .box 4] (fun a => (s_FlashOk_H3 xF yI1 x1 a)) ?_ ?_
     · intro a h
       refine Wp.region ?_
       refine LWp.o 18 (.one (.ptr (.box 4) 1 [] 2)) ?_
       refine LWp.o 19 (.one (.sl false 165 2 (encs c165 x1.Leaves))) ?_
       refine LWp.o 20 (I (ln x1.Leaves)) ?_ (st_pure (p_ln k165 x1.Leaves))
       refine LWp.o 21 (B ((ln x1.Leaves) != 4)) ?_
       refine LWp.o 22 (B ((ln x1.Leaves) != 4)) ?_
       refine LWp.sp h 22 (fun h => ?_) (fun h => ?_)
       · refine LWp.sh 23 ?_
         refine LWp.sh 24 ?_
         refine LWp.sh 25 ?_
         refine LWp.sh 26 ?_
         refine LWp.o 27 (B true) ?_
         refine LWp.nil ?_
         cases h
         exact ⟨_, rfl, rfl, rfl⟩
       refine LWp.o 23 (.one (.ptr (.box 4) 1 [] 1)) ?_
       refine LWp.o 24 (I x1.Wear) ?_
       refine LWp.cl h 25 (fun v1 => (B v1)) rfl (l := [.sv (.one (.int .i64 x1.Wear)), .sv (.one (.int .i64 0)), .sv (.one (.int .i64 1000000000))]) rfl (fun v hv => s_l01In_t x1.Wear 0 1000000000 v hv) (.inl rfl) ?_
       intro v1 gv1 h
       refine LWp.o 26 (B (!v1)) ?_
       refine LWp.o 27 (B (!v1)) ?_
       refine LWp.nil ?_
       cases h
       exact ⟨_, rfl, rfl, rfl⟩
     intro j1 h E hE
     refine nt_wp hE ?_
     change Wp _ _ _ (s_FlashOk_H3 xF yI1 x1 j1) _
     refine Wp.c h (fun h => ?_) (fun h => ?_)
     · refine Wp.seq (Wp.region ?_)
       refine LWp.o 2 (B false) ?_
       refine LWp.nil ?_
       cases h
       replace h : some _ = some _ := hk1 _ rfl
       cases h
       exact Wp.ret ⟨.inr rfl, _, _, rfl, rfl⟩
     refine Wp.skip ?_
     refine Wp.seq (Wp.region ?_)
     refine LWp.o 5 (I 0) ?_
     refine LWp.nil ?_
     refine Wp.l2 h [1, 3, 4, 5] [.box 1, .box 4] (fun s => (s_FlashOk_H4 xF yI1 x1 s)) [1, 3] [.box 1] (fun _ => (s_FlashOk_H5 xF yI1)) ⟨rfl, rfl⟩ ?_ ?_
     · rintro yK1 o (h : s_FlashOk_b2 x1 yK1 = some o) hk2
       unfold s_FlashOk_b2 at h
       change Wp _ _ _ (s_FlashOk_H4 xF yI1 x1 yK1) _
       refine Wp.seq ?_
       refine Wp.seq (Wp.region ?_)
       refine LWp.o 28 (I yK1) ?_
       refine LWp.o 29 (.one (.ptr (.box 4) 0 [] 2)) ?_
       refine LWp.o 30 (.one (.sl false 165 2 (encs c165 x1.Leaves))) ?_
       refine LWp.o 31 (I (ln x1.Leaves)) ?_ (st_pure (p_ln k165 x1.Leaves))
       refine LWp.o 32 (B (decide (yK1 < (ln x1.Leaves)))) ?_
       refine LWp.nil ?_
       refine Wp.c h (fun h => ?_) (fun h => ?_)
       · refine Wp.skip ?_
         refine Wp.seq ?_
         refine Wp.block ?_
         refine Wp.seq ?_
         refine Wp.j1 h [1, 3, 4, 5, 64] [.box 1, .box 4] (fun a => (s_FlashOk_H6 xF yI1 x1 yK1 a)) ?_ ?_
         · intro a h
           refine Wp.region ?_
           refine LWp.o 35 (.one (.ptr (.box 4) 0 [] 2)) ?_
           refine LWp.o 36 (.one (.sl false 165 2 (encs c165 x1.Leaves))) ?_
           refine LWp.o 37 (I yK1) ?_
           refine LWp.p h 38 (fun _ => (.one (.ptr (.slot 36) 1 [0] (Int.toNat yK1 * 2 + 0)))) ?_ (fun x2 gx2 => st_pure (p_ix k165 (.slot 36) [] 0 gx2))
           intro x2 gx2 h
           refine LWp.o 39 (.agg [.int .i64 x2.Is, .str x2.Text]) ?_ (st_pure (p_le k165 (.slot 36) [0] gx2))
           refine LWp.cl h 40 (fun v2 => (B v2)) rfl (l := [.sv (.agg [.int .i64 x2.Is, .str x2.Text])]) rfl (fun v hv => s_l05Leaf_t x2 v hv) (.inl rfl) ?_
           intro v2 gv2 h
           refine LWp.o 41 (B (!v2)) ?_
           refine LWp.o 42 (B (!v2)) ?_
           refine LWp.sp h 42 (fun h => ?_) (fun h => ?_)
           · refine LWp.sh 43 ?_
             refine LWp.sh 44 ?_
             refine LWp.sh 45 ?_
             refine LWp.sh 46 ?_
             refine LWp.sh 47 ?_
             refine LWp.sh 48 ?_
             refine LWp.sh 49 ?_
             refine LWp.sh 50 ?_
             refine LWp.sh 51 ?_
             refine LWp.sh 52 ?_
             refine LWp.sh 53 ?_
             refine LWp.sh 54 ?_
             refine LWp.sh 55 ?_
             refine LWp.sh 56 ?_
             refine LWp.sh 57 ?_
             refine LWp.sh 58 ?_
             refine LWp.sh 59 ?_
             refine LWp.sh 60 ?_
             refine LWp.sh 61 ?_
             refine LWp.sh 62 ?_
             refine LWp.sh 63 ?_
             refine LWp.o 64 (B true) ?_
             refine LWp.nil ?_
             cases h
             exact ⟨_, rfl, rfl, rfl⟩
           refine LWp.o 43 (I yK1) ?_
           refine LWp.o 44 (B (decide (yK1 > 0))) ?_
           refine LWp.o 45 (B (decide (yK1 > 0))) ?_
           refine LWp.sp h 45 (fun h => ?_) (fun h => ?_)
           · refine LWp.o 46 (.one (.ptr (.box 4) 0 [] 2)) ?_
             refine LWp.o 47 (.one (.sl false 165 2 (encs c165 x1.Leaves))) ?_
             refine LWp.o 48 (I yK1) ?_
             refine LWp.o 49 (I (sb yK1 1)) ?_
             refine LWp.p h 50 (fun _ => (.one (.ptr (.slot 47) 1 [0] (Int.toNat (sb yK1 1) * 2 + 0)))) ?_ (fun x3 gx3 => st_pure (p_ix k165 (.slot 47) [] 0 gx3))
             intro x3 gx3 h
             refine LWp.o 51 (.one (.ptr (.slot 47) 1 [0] (Int.toNat (sb yK1 1) * 2 + 0))) ?_ (st_pure (p_fa k165 (.slot 47) [0] 0 gx3))
             refine LWp.o 52 (I x3.Is) ?_ (st_pure (p_lc k165 (.slot 47) [0] 0 (.int .i64 x3.Is) gx3))
             refine LWp.o 53 (B (x3.Is == 0)) ?_
             refine LWp.o 54 (B (x3.Is == 0)) ?_
             refine LWp.o 55 (B (x3.Is == 0)) ?_
             refine LWp.sp h 55 (fun h => ?_) (fun h => ?_)
             · refine LWp.o 56 (.one (.ptr (.box 4) 0 [] 2)) ?_
               refine LWp.o 57 (.one (.sl false 165 2 (encs c165 x1.Leaves))) ?_
               refine LWp.o 58 (I yK1) ?_
               refine LWp.p h 59 (fun _ => (.one (.ptr (.slot 57) 1 [0] (Int.toNat yK1 * 2 + 0)))) ?_ (fun x4 gx4 => st_pure (p_ix k165 (.slot 57) [] 0 gx4))
               intro x4 gx4 h
               refine LWp.o 60 (.one (.ptr (.slot 57) 1 [0] (Int.toNat yK1 * 2 + 0))) ?_ (st_pure (p_fa k165 (.slot 57) [0] 0 gx4))
               refine LWp.o 61 (I x4.Is) ?_ (st_pure (p_lc k165 (.slot 57) [0] 0 (.int .i64 x4.Is) gx4))
               refine LWp.o 62 (B (x4.Is != 0)) ?_
               refine LWp.o 63 (B (x4.Is != 0)) ?_
               refine LWp.o 64 (B (x4.Is != 0)) ?_
               refine LWp.nil ?_
               cases h
               exact ⟨_, rfl, rfl, rfl⟩
             refine LWp.sh 56 ?_
             refine LWp.sh 57 ?_
             refine LWp.sh 58 ?_
             refine LWp.sh 59 ?_
             refine LWp.sh 60 ?_
             refine LWp.sh 61 ?_
             refine LWp.sh 62 ?_
             refine LWp.o 63 (B false) ?_
             refine LWp.o 64 (B false) ?_
             refine LWp.nil ?_
             cases h
             exact ⟨_, rfl, rfl, rfl⟩
           refine LWp.sh 46 ?_
           refine LWp.sh 47 ?_
           refine LWp.sh 48 ?_
           refine LWp.sh 49 ?_
           refine LWp.sh 50 ?_
           refine LWp.sh 51 ?_
           refine LWp.sh 52 ?_
           refine LWp.sh 53 ?_
           refine LWp.o 54 (B false) ?_
           refine LWp.o 55 (B false) ?_
           refine LWp.sh 56 ?_
           refine LWp.sh 57 ?_
           refine LWp.sh 58 ?_
           refine LWp.sh 59 ?_
           refine LWp.sh 60 ?_
           refine LWp.sh 61 ?_
           refine LWp.sh 62 ?_
           refine LWp.o 63 (B false) ?_
           refine LWp.o 64 (B false) ?_
           refine LWp.nil ?_
           cases h
           exact ⟨_, rfl, rfl, rfl⟩
         intro j2 h E hE
         refine nt_wp hE ?_
         change Wp _ _ _ (s_FlashOk_H6 xF yI1 x1 yK1 j2) _
         refine Wp.c h (fun h => ?_) (fun h => ?_)
         · refine Wp.seq (Wp.region ?_)
           refine LWp.o 2 (B false) ?_
           refine LWp.nil ?_
           cases h
           replace h : some _ = some _ := hk2 _ rfl
           cases h
           replace h : some _ = some _ := hk1 _ rfl
           cases h
           exact Wp.ret ⟨.inr rfl, _, _, rfl, rfl⟩
         refine Wp.skip ?_
         refine Wp.region ?_
         refine LWp.o 33 (I yK1) ?_
         refine LWp.o 34 (I (ad yK1 1)) ?_
         refine LWp.o 5 (I (ad yK1 1)) ?_
         refine LWp.nil ?_
         cases h
         exact ⟨_, rfl, rfl, rfl⟩
       refine Wp.exit ?_
       cases h
       exact ⟨_, rfl, rfl, rfl⟩
     intro v3 h E hE
     refine nt_wp hE ?_
     change Wp _ _ _ (s_FlashOk_H5 xF yI1) _
     refine Wp.region ?_
     refine LWp.o 11 (I yI1) ?_
     refine LWp.o 12 (I (ad yI1 1)) ?_
     refine LWp.o 3 (I (ad yI1 1)) ?_
     refine LWp.nil ?_
     cases h
     exact ⟨_, rfl, rfl, rfl⟩
   refine Wp.exit ?_
   cases h
   exact ⟨_, rfl, rfl, rfl⟩
 intro v4 h E hE
 refine nt_wp hE ?_
 change Wp _ _ _ (s_FlashOk_H2 xF) _
 refine Wp.seq (Wp.region ?_)
 refine LWp.o 65 (.one (.ptr (.box 1) 0 [] 0)) ?_
 refine LWp.o 66 (.one (.sl false 124 3 (encs (c124 false) xF.Blocks))) ?_
 refine LWp.o 67 (I (ln xF.Blocks)) ?_ (st_pure (p_ln (k124 false) xF.Blocks))
 refine LWp.cl h 68 (fun v5 => (B v5)) rfl (l := [.sv (.one (.int .i64 (ln xF.Blocks))), .sv (.one (.int .i64 3)), .sv (.one (.int .i64 10))]) rfl (fun v hv => s_l01In_t (ln xF.Blocks) 3 10 v hv) (.inl rfl) ?_
 intro v5 gv5 h
 refine LWp.o 2 (B v5) ?_
 refine LWp.nil ?_
 cases h
 exact Wp.ret ⟨.inr rfl, _, _, rfl, rfl⟩
def s_OpenBlock_H1 (xF : Flash) (z1 : Int) : St := mkSt [(1, (.one (.ptr (.box 1) 0 [] 0))), (3, (I z1))] [(.box 1, [.sl false 124 3 (encs (c124 false) xF.Blocks)])]
def s_OpenBlock_H2  : St := mkSt [] []
def s_OpenBlock_H3 (xF : Flash) (yB1 : Int) (z2 : Int) (z3 : Int) (z4 : Int) : St := mkSt [(1, (.one (.ptr (.box 1) 0 [] 0))), (3, (I yB1)), (4, (I z2)), (5, (I z3)), (6, (I z4))] [(.box 1, [.sl false 124 3 (encs (c124 false) xF.Blocks)])]
def s_OpenBlock_H4 (xF : Flash) (yB1 : Int) (z5 : Int) (z6 : Int) : St := mkSt [(1, (.one (.ptr (.box 1) 0 [] 0))), (3, (I yB1)), (4, (I z5)), (5, (I z6))] [(.box 1, [.sl false 124 3 (encs (c124 false) xF.Blocks)])]
def s_OpenBlock_H5 (xF : Flash) (yB1 : Int) (z7 : Bool) : St := mkSt [(1, (.one (.ptr (.box 1) 0 [] 0))), (3, (I yB1)), (54, (B z7))] [(.box 1, [.sl false 124 3 (encs (c124 false) xF.Blocks)])]
theorem s_OpenBlock_t (xF : Flash) (r : Int) (h : s_OpenBlock xF = some r) : Gives Tryz.prog 124 [.sv (.agg [.sl false 124 3 (encs (c124 false) xF.Blocks)])] (I r) (List.replicate 1 .gone) := by
 unfold s_OpenBlock at h
 refine gives_of Tryz.func124 rfl ?_
 rw [Tryz.ntmps124]
 refine Wp.seq (Wp.region ?_)
 refine LWp.b [] 1 [.sl false 124 3 (encs (c124 false) xF.Blocks)] ?_
 refine LWp.o 2 (I 0) ?_
 refine LWp.nil ?_
 refine Wp.seq ?_
 refine Wp.seq (Wp.region ?_)
 refine LWp.o 3 (I 0) ?_
 refine LWp.nil ?_
 refine Wp.l2 h [1, 3] [.box 1] (fun s => (s_OpenBlock_H1 xF s)) [] [] (fun _ => s_OpenBlock_H2) ⟨rfl, rfl⟩ ?_ ?_
 · rintro yB1 o (h : s_OpenBlock_b1 xF yB1 = some o) hk1
   unfold s_OpenBlock_b1 at h
   change Wp _ _ _ (s_OpenBlock_H1 xF yB1) _
   refine Wp.seq ?_
   refine Wp.seq (Wp.region ?_)
   refine LWp.o 7 (I yB1) ?_
   refine LWp.o 8 (.one (.ptr (.box 1) 0 [] 0)) ?_
   refine LWp.o 9 (.one (.sl false 124 3 (encs (c124 false) xF.Blocks))) ?_
   refine LWp.o 10 (I (ln xF.Blocks)) ?_ (st_pure (p_ln (k124 false) xF.Blocks))
   refine LWp.o 11 (B (decide (yB1 < (ln xF.Blocks)))) ?_
   refine LWp.nil ?_
   refine Wp.c h (fun h => ?_) (fun h => ?_)
   · refine Wp.skip ?_
     refine Wp.seq ?_
     refine Wp.block ?_
     refine Wp.seq (Wp.region ?_)
     refine LWp.o 4 (I 0) ?_
     refine LWp.nil ?_
     refine Wp.seq (Wp.region ?_)
     refine LWp.o 5 (I 0) ?_
     refine LWp.nil ?_
     refine Wp.seq ?_
     refine Wp.seq (Wp.region ?_)
     refine LWp.o 6 (I 0) ?_
     refine LWp.nil ?_
     refine Wp.l1 h [1, 3, 4, 5, 6] [.box 1] (fun s => (s_OpenBlock_H3 xF yB1 s.1 s.2.1 s.2.2)) [1, 3, 4, 5] [.box 1] (fun s => (s_OpenBlock_H4 xF yB1 s.1 s.2)) ⟨rfl, rfl⟩ ?_ ?_
     · rintro ⟨yN1, yM1, yK1⟩ o (h : s_OpenBlock_b2 xF yB1 yN1 yM1 yK1 = some o)
       unfold s_OpenBlock_b2 at h
       change Wp _ _ _ (s_OpenBlock_H3 xF yB1 yN1 yM1 yK1) _
       refine Wp.seq ?_
       refine Wp.seq (Wp.region ?_)
       refine LWp.o 14 (I yK1) ?_
       refine LWp.o 15 (.one (.ptr (.box 1) 0 [] 0)) ?_
       refine LWp.o 16 (.one (.sl false 124 3 (encs (c124 false) xF.Blocks))) ?_
       refine LWp.o 17 (I yB1) ?_
       refine LWp.p h 18 (fun _ => (.one (.ptr (.slot 16) 1 [0] (Int.toNat yB1 * 3 + 0)))) ?_ (fun x1 gx1 => st_pure (p_ix (k124 false) (.slot 16) [] 0 gx1))
       intro x1 gx1 h
       refine LWp.o 19 (.one (.ptr (.slot 16) 1 [0] (Int.toNat yB1 * 3 + 2))) ?_ (st_pure (p_fa (k124 false) (.slot 16) [0] 0 gx1))
       refine LWp.o 20 (.one (.sl false 165 2 (encs c165 x1.Leaves))) ?_ (st_pure (p_lc (k124 false) (.slot 16) [0] 2 (.sl false 165 2 (encs c165 x1.Leaves)) gx1))
       refine LWp.o 21 (I (ln x1.Leaves)) ?_ (st_pure (p_ln k165 x1.Leaves))
       refine LWp.o 22 (B (decide (yK1 < (ln x1.Leaves)))) ?_
       refine LWp.nil ?_
       refine Wp.c h (fun h => ?_) (fun h => ?_)
       · refine Wp.skip ?_
         refine Wp.seq ?_
         refine Wp.block ?_
         refine Wp.seq (Wp.region ?_)
         refine LWp.o 25 (.one (.ptr (.box 1) 0 [] 0)) ?_
         refine LWp.o 26 (.one (.sl false 124 3 (encs (c124 false) xF.Blocks))) ?_
         refine LWp.o 27 (I yB1) ?_
         refine LWp.p h 28 (fun _ => (.one (.ptr (.slot 26) 1 [0] (Int.toNat yB1 * 3 + 0)))) ?_ (fun x2 gx2 => st_pure (p_ix (k124 false) (.slot 26) [] 0 gx2))
         intro x2 gx2 h
         refine LWp.o 29 (.one (.ptr (.slot 26) 1 [0] (Int.toNat yB1 * 3 + 2))) ?_ (st_pure (p_fa (k124 false) (.slot 26) [0] 0 gx2))
         refine LWp.o 30 (.one (.sl false 165 2 (encs c165 x2.Leaves))) ?_ (st_pure (p_lc (k124 false) (.slot 26) [0] 2 (.sl false 165 2 (encs c165 x2.Leaves)) gx2))
         refine LWp.o 31 (I yK1) ?_
         refine LWp.p h 32 (fun _ => (.one (.ptr (.slot 30) 1 [0] (Int.toNat yK1 * 2 + 0)))) ?_ (fun x3 gx3 => st_pure (p_ix k165 (.slot 30) [] 0 gx3))
         intro x3 gx3 h
         refine LWp.o 33 (.one (.ptr (.slot 30) 1 [0] (Int.toNat yK1 * 2 + 0))) ?_ (st_pure (p_fa k165 (.slot 30) [0] 0 gx3))
         refine LWp.o 34 (I x3.Is) ?_ (st_pure (p_lc k165 (.slot 30) [0] 0 (.int .i64 x3.Is) gx3))
         refine LWp.o 35 (B (x3.Is == 0)) ?_
         refine LWp.nil ?_
         refine Wp.c h (fun h => ?_) (fun h => ?_)
         · refine Wp.region ?_
           refine LWp.o 36 (I yN1) ?_
           refine LWp.o 37 (I (ad yN1 1)) ?_
           refine LWp.o 4 (I (ad yN1 1)) ?_
           refine LWp.nil ?_
           refine Wp.region ?_
           refine LWp.o 23 (I yK1) ?_
           refine LWp.o 24 (I (ad yK1 1)) ?_
           refine LWp.o 6 (I (ad yK1 1)) ?_
           refine LWp.nil ?_
           cases h
           exact ⟨_, rfl, rfl, rfl⟩
         refine Wp.region ?_
         refine LWp.o 38 (I yM1) ?_
         refine LWp.o 39 (I (ad yM1 1)) ?_
         refine LWp.o 5 (I (ad yM1 1)) ?_
         refine LWp.nil ?_
         refine Wp.region ?_
         refine LWp.o 23 (I yK1) ?_
         refine LWp.o 24 (I (ad yK1 1)) ?_
         refine LWp.o 6 (I (ad yK1 1)) ?_
         refine LWp.nil ?_
         cases h
         exact ⟨_, rfl, rfl, rfl⟩
       refine Wp.exit ?_
       cases h
       exact ⟨_, rfl, rfl, rfl⟩
     intro v1 h E hE
     refine nt_wp hE ?_
     change Wp _ _ _ (s_OpenBlock_H4 xF yB1 v1.1 v1.2) _
     refine Wp.seq ?_
     refine Wp.j1 h [1, 3, 54] [.box 1] (fun a => (s_OpenBlock_H5 xF yB1 a)) ?_ ?_
     · intro a h
       refine Wp.region ?_
       refine LWp.o 40 (.one (.ptr (.box 1) 0 [] 0)) ?_
       refine LWp.o 41 (.one (.sl false 124 3 (encs (c124 false) xF.Blocks))) ?_
       refine LWp.o 42 (I yB1) ?_
       refine LWp.p h 43 (fun _ => (.one (.ptr (.slot 41) 1 [0] (Int.toNat yB1 * 3 + 0)))) ?_ (fun x4 gx4 => st_pure (p_ix (k124 false) (.slot 41) [] 0 gx4))
       intro x4 gx4 h
       refine LWp.o 44 (.one (.ptr (.slot 41) 1 [0] (Int.toNat yB1 * 3 + 0))) ?_ (st_pure (p_fa (k124 false) (.slot 41) [0] 0 gx4))
       refine LWp.o 45 (B x4.Bad) ?_ (st_pure (p_lc (k124 false) (.slot 41) [0] 0 (.bool x4.Bad) gx4))
       refine LWp.o 46 (B (!x4.Bad)) ?_
       refine LWp.o 47 (B (!x4.Bad)) ?_
       refine LWp.sp h 47 (fun h => ?_) (fun h => ?_)
       · refine LWp.o 48 (I v1.1) ?_
         refine LWp.o 49 (B (decide (v1.1 > 0))) ?_
         refine LWp.o 50 (B (decide (v1.1 > 0))) ?_
         refine LWp.o 51 (B (decide (v1.1 > 0))) ?_
         refine LWp.sp h 51 (fun h => ?_) (fun h => ?_)
         · refine LWp.o 52 (I v1.2) ?_
           refine LWp.o 53 (B (decide (v1.2 > 0))) ?_
           refine LWp.o 54 (B (decide (v1.2 > 0))) ?_
           refine LWp.nil ?_
           cases h
           exact ⟨_, rfl, rfl, rfl⟩
         refine LWp.sh 52 ?_
         refine LWp.sh 53 ?_
         refine LWp.o 54 (B false) ?_
         refine LWp.nil ?_
         cases h
         exact ⟨_, rfl, rfl, rfl⟩
       refine LWp.sh 48 ?_
       refine LWp.sh 49 ?_
       refine LWp.o 50 (B false) ?_
       refine LWp.o 51 (B false) ?_
       refine LWp.sh 52 ?_
       refine LWp.sh 53 ?_
       refine LWp.o 54 (B false) ?_
       refine LWp.nil ?_
       cases h
       exact ⟨_, rfl, rfl, rfl⟩
     intro j1 h E hE
     refine nt_wp hE ?_
     change Wp _ _ _ (s_OpenBlock_H5 xF yB1 j1) _
     refine Wp.c h (fun h => ?_) (fun h => ?_)
     · refine Wp.seq (Wp.region ?_)
       refine LWp.o 55 (I yB1) ?_
       refine LWp.o 2 (I yB1) ?_
       refine LWp.nil ?_
       cases h
       replace h : some _ = some _ := hk1 _ rfl
       cases h
       exact Wp.ret ⟨.inr rfl, _, _, rfl, rfl⟩
     refine Wp.skip ?_
     refine Wp.region ?_
     refine LWp.o 12 (I yB1) ?_
     refine LWp.o 13 (I (ad yB1 1)) ?_
     refine LWp.o 3 (I (ad yB1 1)) ?_
     refine LWp.nil ?_
     cases h
     exact ⟨_, rfl, rfl, rfl⟩
   refine Wp.exit ?_
   cases h
   exact ⟨_, rfl, rfl, rfl⟩
 intro v2 h E hE
 refine nt_wp hE ?_
 change Wp _ _ _ s_OpenBlock_H2 _
 refine Wp.seq (Wp.region ?_)
 refine LWp.o 2 (I (-1)) ?_
 refine LWp.nil ?_
 cases h
 exact Wp.ret ⟨.inr rfl, _, _, rfl, rfl⟩
def s_NextBlank_H1 (xB : Block) (z1 : Int) : St := mkSt [(1, (.one (.ptr (.box 1) 0 [] 0))), (3, (I z1))] [(.box 1, [.bool xB.Bad, .int .i64 xB.Wear, .sl false 165 2 (encs c165 xB.Leaves)])]
def s_NextBlank_H2  : St := mkSt [] []
theorem s_NextBlank_t (xB : Block) (r : Int) (h : s_NextBlank xB = some r) : Gives Tryz.prog 125 [.sv (.agg [.bool xB.Bad, .int .i64 xB.Wear, .sl false 165 2 (encs c165 xB.Leaves)])] (I r) (List.replicate 1 .gone) := by
 unfold s_NextBlank at h
 refine gives_of Tryz.func125 rfl ?_
 rw [Tryz.ntmps125]
 refine Wp.seq (Wp.region ?_)
 refine LWp.b [] 1 [.bool xB.Bad, .int .i64 xB.Wear, .sl false 165 2 (encs c165 xB.Leaves)] ?_
 refine LWp.o 2 (I 0) ?_
 refine LWp.nil ?_
 refine Wp.seq ?_
 refine Wp.seq (Wp.region ?_)
 refine LWp.o 3 (I 0) ?_
 refine LWp.nil ?_
 refine Wp.l2 h [1, 3] [.box 1] (fun s => (s_NextBlank_H1 xB s)) [] [] (fun _ => s_NextBlank_H2) ⟨rfl, rfl⟩ ?_ ?_
 · rintro yK1 o (h : s_NextBlank_b1 xB yK1 = some o) hk1
   unfold s_NextBlank_b1 at h
   change Wp _ _ _ (s_NextBlank_H1 xB yK1) _
   refine Wp.seq ?_
   refine Wp.seq (Wp.region ?_)
   refine LWp.o 4 (I yK1) ?_
   refine LWp.o 5 (.one (.ptr (.box 1) 0 [] 2)) ?_
   refine LWp.o 6 (.one (.sl false 165 2 (encs c165 xB.Leaves))) ?_
   refine LWp.o 7 (I (ln xB.Leaves)) ?_ (st_pure (p_ln k165 xB.Leaves))
   refine LWp.o 8 (B (decide (yK1 < (ln xB.Leaves)))) ?_
   refine LWp.nil ?_
   refine Wp.c h (fun h => ?_) (fun h => ?_)
   · refine Wp.skip ?_
     refine Wp.seq ?_
     refine Wp.block ?_
     refine Wp.seq (Wp.region ?_)
     refine LWp.o 11 (.one (.ptr (.box 1) 0 [] 2)) ?_
     refine LWp.o 12 (.one (.sl false 165 2 (encs c165 xB.Leaves))) ?_
     refine LWp.o 13 (I yK1) ?_
     refine LWp.p h 14 (fun _ => (.one (.ptr (.slot 12) 1 [0] (Int.toNat yK1 * 2 + 0)))) ?_ (fun x1 gx1 => st_pure (p_ix k165 (.slot 12) [] 0 gx1))
     intro x1 gx1 h
     refine LWp.o 15 (.one (.ptr (.slot 12) 1 [0] (Int.toNat yK1 * 2 + 0))) ?_ (st_pure (p_fa k165 (.slot 12) [0] 0 gx1))
     refine LWp.o 16 (I x1.Is) ?_ (st_pure (p_lc k165 (.slot 12) [0] 0 (.int .i64 x1.Is) gx1))
     refine LWp.o 17 (B (x1.Is == 0)) ?_
     refine LWp.nil ?_
     refine Wp.c h (fun h => ?_) (fun h => ?_)
     · refine Wp.seq (Wp.region ?_)
       refine LWp.o 18 (I yK1) ?_
       refine LWp.o 2 (I yK1) ?_
       refine LWp.nil ?_
       cases h
       replace h : some _ = some _ := hk1 _ rfl
       cases h
       exact Wp.ret ⟨.inr rfl, _, _, rfl, rfl⟩
     refine Wp.skip ?_
     refine Wp.region ?_
     refine LWp.o 9 (I yK1) ?_
     refine LWp.o 10 (I (ad yK1 1)) ?_
     refine LWp.o 3 (I (ad yK1 1)) ?_
     refine LWp.nil ?_
     cases h
     exact ⟨_, rfl, rfl, rfl⟩
   refine Wp.exit ?_
   cases h
   exact ⟨_, rfl, rfl, rfl⟩
 intro v1 h E hE
 refine nt_wp hE ?_
 change Wp _ _ _ s_NextBlank_H2 _
 refine Wp.seq (Wp.region ?_)
 refine LWp.o 2 (I 4) ?_
 refine LWp.nil ?_
 cases h
 exact Wp.ret ⟨.inr rfl, _, _, rfl, rfl⟩
def s_FreeBlocks_H1 (xF : Flash) (z1 : List Int) (z2 : Int) : St := mkSt [(1, (.one (.ptr (.box 1) 0 [] 0))), (3, (.one (.sl true 3 1 (encs c3 z1)))), (4, (I z2))] [(.box 1, [.sl false 124 3 (encs (c124 false) xF.Blocks)])]
def s_FreeBlocks_H2 (z3 : List Int) : St := mkSt [(3, (.one (.sl true 3 1 (encs c3 z3))))] []
def s_FreeBlocks_H3 (xF : Flash) (yOut1 : List Int) (yB1 : Int) (z4 : Bool) (z5 : Int) : St := mkSt [(1, (.one (.ptr (.box 1) 0 [] 0))), (3, (.one (.sl true 3 1 (encs c3 yOut1)))), (4, (I yB1)), (5, (B z4)), (6, (I z5))] [(.box 1, [.sl false 124 3 (encs (c124 false) xF.Blocks)])]
def s_FreeBlocks_H4 (xF : Flash) (yOut1 : List Int) (yB1 : Int) (z6 : Bool) : St := mkSt [(1, (.one (.ptr (.box 1) 0 [] 0))), (3, (.one (.sl true 3 1 (encs c3 yOut1)))), (4, (I yB1)), (5, (B z6))] [(.box 1, [.sl false 124 3 (encs (c124 false) xF.Blocks)])]
theorem s_FreeBlocks_t (xF : Flash) (r : List Int) (h : s_FreeBlocks xF = some r) : Gives Tryz.prog 126 [.sv (.agg [.sl false 124 3 (encs (c124 false) xF.Blocks)])] (.one (.sl true 3 1 (encs c3 r))) (List.replicate 1 .gone) := by
 unfold s_FreeBlocks at h
 refine gives_of Tryz.func126 rfl ?_
 rw [Tryz.ntmps126]
 refine Wp.seq (Wp.region ?_)
 refine LWp.b [] 1 [.sl false 124 3 (encs (c124 false) xF.Blocks)] ?_
 refine LWp.o 2 (.one (.sl true 3 1 (encs c3 []))) ?_
 refine LWp.nil ?_
 refine Wp.seq (Wp.region ?_)
 refine LWp.m false [] 7 (.one (.sl true 3 1 (encs c3 []))) ?_
 refine LWp.m true [(.slot 7, [.junk])] 3 (.one (.sl true 3 1 (encs c3 []))) ?_
 refine LWp.nil ?_
 refine Wp.seq ?_
 refine Wp.seq (Wp.region ?_)
 refine LWp.o 4 (I 0) ?_
 refine LWp.nil ?_
 refine Wp.l1 h [1, 3, 4] [.box 1] (fun s => (s_FreeBlocks_H1 xF s.1 s.2)) [3] [] (fun s => (s_FreeBlocks_H2 s)) ⟨rfl, rfl⟩ ?_ ?_
 · rintro ⟨yOut1, yB1⟩ o (h : s_FreeBlocks_b1 xF yOut1 yB1 = some o)
   unfold s_FreeBlocks_b1 at h
   change Wp _ _ _ (s_FreeBlocks_H1 xF yOut1 yB1) _
   refine Wp.seq ?_
   refine Wp.seq (Wp.region ?_)
   refine LWp.o 8 (I yB1) ?_
   refine LWp.o 9 (.one (.ptr (.box 1) 0 [] 0)) ?_
   refine LWp.o 10 (.one (.sl false 124 3 (encs (c124 false) xF.Blocks))) ?_
   refine LWp.o 11 (I (ln xF.Blocks)) ?_ (st_pure (p_ln (k124 false) xF.Blocks))
   refine LWp.o 12 (B (decide (yB1 < (ln xF.Blocks)))) ?_
   refine LWp.nil ?_
   refine Wp.c h (fun h => ?_) (fun h => ?_)
   · refine Wp.skip ?_
     refine Wp.seq ?_
     refine Wp.block ?_
     refine Wp.seq (Wp.region ?_)
     refine LWp.o 15 (.one (.ptr (.box 1) 0 [] 0)) ?_
     refine LWp.o 16 (.one (.sl false 124 3 (encs (c124 false) xF.Blocks))) ?_
     refine LWp.o 17 (I yB1) ?_
     refine LWp.p h 18 (fun _ => (.one (.ptr (.slot 16) 1 [0] (Int.toNat yB1 * 3 + 0)))) ?_ (fun x1 gx1 => st_pure (p_ix (k124 false) (.slot 16) [] 0 gx1))
     intro x1 gx1 h
     refine LWp.o 19 (.one (.ptr (.slot 16) 1 [0] (Int.toNat yB1 * 3 + 0))) ?_ (st_pure (p_fa (k124 false) (.slot 16) [0] 0 gx1))
     refine LWp.o 20 (B x1.Bad) ?_ (st_pure (p_lc (k124 false) (.slot 16) [0] 0 (.bool x1.Bad) gx1))
     refine LWp.o 21 (B (!x1.Bad)) ?_
     refine LWp.o 5 (B (!x1.Bad)) ?_
     refine LWp.nil ?_
     refine Wp.seq ?_
     refine Wp.seq (Wp.region ?_)
     refine LWp.o 6 (I 0) ?_
     refine LWp.nil ?_
     refine Wp.l1 h [1, 3, 4, 5, 6] [.box 1] (fun s => (s_FreeBlocks_H3 xF yOut1 yB1 s.1 s.2)) [1, 3, 4, 5] [.box 1] (fun s => (s_FreeBlocks_H4 xF yOut1 yB1 s)) ⟨rfl, rfl⟩ ?_ ?_
     · rintro ⟨yBlank1, yK1⟩ o (h : s_FreeBlocks_b2 xF yB1 yBlank1 yK1 = some o)
       unfold s_FreeBlocks_b2 at h
       change Wp _ _ _ (s_FreeBlocks_H3 xF yOut1 yB1 yBlank1 yK1) _
       refine Wp.seq ?_
       refine Wp.seq (Wp.region ?_)
       refine LWp.o 22 (I yK1) ?_
       refine LWp.o 23 (.one (.ptr (.box 1) 0 [] 0)) ?_
       refine LWp.o 24 (.one (.sl false 124 3 (encs (c124 false) xF.Blocks))) ?_
       refine LWp.o 25 (I yB1) ?_
       refine LWp.p h 26 (fun _ => (.one (.ptr (.slot 24) 1 [0] (Int.toNat yB1 * 3 + 0)))) ?_ (fun x2 gx2 => st_pure (p_ix (k124 false) (.slot 24) [] 0 gx2))
       intro x2 gx2 h
       refine LWp.o 27 (.one (.ptr (.slot 24) 1 [0] (Int.toNat yB1 * 3 + 2))) ?_ (st_pure (p_fa (k124 false) (.slot 24) [0] 0 gx2))
       refine LWp.o 28 (.one (.sl false 165 2 (encs c165 x2.Leaves))) ?_ (st_pure (p_lc (k124 false) (.slot 24) [0] 2 (.sl false 165 2 (encs c165 x2.Leaves)) gx2))
       refine LWp.o 29 (I (ln x2.Leaves)) ?_ (st_pure (p_ln k165 x2.Leaves))
       refine LWp.o 30 (B (decide (yK1 < (ln x2.Leaves)))) ?_
       refine LWp.nil ?_
       refine Wp.c h (fun h => ?_) (fun h => ?_)
       · refine Wp.skip ?_
         refine Wp.seq ?_
         refine Wp.block ?_
         refine Wp.region ?_
         refine LWp.o 33 (B yBlank1) ?_
         refine LWp.o 34 (B yBlank1) ?_
         refine LWp.sp h 34 (fun h => ?_) (fun h => ?_)
         · refine LWp.o 35 (.one (.ptr (.box 1) 0 [] 0)) ?_
           refine LWp.o 36 (.one (.sl false 124 3 (encs (c124 false) xF.Blocks))) ?_
           refine LWp.o 37 (I yB1) ?_
           refine LWp.p h 38 (fun _ => (.one (.ptr (.slot 36) 1 [0] (Int.toNat yB1 * 3 + 0)))) ?_ (fun x3 gx3 => st_pure (p_ix (k124 false) (.slot 36) [] 0 gx3))
           intro x3 gx3 h
           refine LWp.o 39 (.one (.ptr (.slot 36) 1 [0] (Int.toNat yB1 * 3 + 2))) ?_ (st_pure (p_fa (k124 false) (.slot 36) [0] 0 gx3))
           refine LWp.o 40 (.one (.sl false 165 2 (encs c165 x3.Leaves))) ?_ (st_pure (p_lc (k124 false) (.slot 36) [0] 2 (.sl false 165 2 (encs c165 x3.Leaves)) gx3))
           refine LWp.o 41 (I yK1) ?_
           refine LWp.p h 42 (fun _ => (.one (.ptr (.slot 40) 1 [0] (Int.toNat yK1 * 2 + 0)))) ?_ (fun x4 gx4 => st_pure (p_ix k165 (.slot 40) [] 0 gx4))
           intro x4 gx4 h
           refine LWp.o 43 (.one (.ptr (.slot 40) 1 [0] (Int.toNat yK1 * 2 + 0))) ?_ (st_pure (p_fa k165 (.slot 40) [0] 0 gx4))
           refine LWp.o 44 (I x4.Is) ?_ (st_pure (p_lc k165 (.slot 40) [0] 0 (.int .i64 x4.Is) gx4))
           refine LWp.o 45 (B (x4.Is == 0)) ?_
           refine LWp.o 46 (B (x4.Is == 0)) ?_
           refine LWp.o 5 (B (x4.Is == 0)) ?_
           refine LWp.nil ?_
           refine Wp.region ?_
           refine LWp.o 31 (I yK1) ?_
           refine LWp.o 32 (I (ad yK1 1)) ?_
           refine LWp.o 6 (I (ad yK1 1)) ?_
           refine LWp.nil ?_
           cases h
           exact ⟨_, rfl, rfl, rfl⟩
         refine LWp.sh 35 ?_
         refine LWp.sh 36 ?_
         refine LWp.sh 37 ?_
         refine LWp.sh 38 ?_
         refine LWp.sh 39 ?_
         refine LWp.sh 40 ?_
         refine LWp.sh 41 ?_
         refine LWp.sh 42 ?_
         refine LWp.sh 43 ?_
         refine LWp.sh 44 ?_
         refine LWp.sh 45 ?_
         refine LWp.o 46 (B false) ?_
         refine LWp.o 5 (B false) ?_
         refine LWp.nil ?_
         refine Wp.region ?_
         refine LWp.o 31 (I yK1) ?_
         refine LWp.o 32 (I (ad yK1 1)) ?_
         refine LWp.o 6 (I (ad yK1 1)) ?_
         refine LWp.nil ?_
         cases h
         exact ⟨_, rfl, rfl, rfl⟩
       refine Wp.exit ?_
       cases h
       exact ⟨_, rfl, rfl, rfl⟩
     intro v1 h E hE
     refine nt_wp hE ?_
     change Wp _ _ _ (s_FreeBlocks_H4 xF yOut1 yB1 v1) _
     refine Wp.seq (Wp.region ?_)
     refine LWp.o 47 (B v1) ?_
     refine LWp.nil ?_
     refine Wp.c h (fun h => ?_) (fun h => ?_)
     · refine Wp.region ?_
       refine LWp.o 48 (.one (.view (.slot 3) 0 [] 0)) ?_
       refine LWp.o 49 (I yB1) ?_
       refine LWp.m false [] 50 (.one (.sl true 3 1 (encs c3 [yB1]))) ?_
       refine LWp.pm h [(.slot 3, [.junk])] 51 (fun q1 => (.one (.sl true 3 1 (encs c3 q1)))) ?_ (fun q1 gq1 => s_apl k3 (fun _ => rfl) [(.slot 3, [.junk])] yOut1 gq1)
       intro q1 gq1 h
       refine LWp.m true [(.slot 51, [.junk])] 3 (.one (.sl true 3 1 (encs c3 q1))) ?_
       refine LWp.nil ?_
       refine Wp.region ?_
       refine LWp.o 13 (I yB1) ?_
       refine LWp.o 14 (I (ad yB1 1)) ?_
       refine LWp.o 4 (I (ad yB1 1)) ?_
       refine LWp.nil ?_
       cases h
       exact ⟨_, rfl, rfl, rfl⟩
     refine Wp.skip ?_
     refine Wp.region ?_
     refine LWp.o 13 (I yB1) ?_
     refine LWp.o 14 (I (ad yB1 1)) ?_
     refine LWp.o 4 (I (ad yB1 1)) ?_
     refine LWp.nil ?_
     cases h
     exact ⟨_, rfl, rfl, rfl⟩
   refine Wp.exit ?_
   cases h
   exact ⟨_, rfl, rfl, rfl⟩
 intro v2 h E hE
 refine nt_wp hE ?_
 change Wp _ _ _ (s_FreeBlocks_H2 v2) _
 refine Wp.seq (Wp.region ?_)
 refine LWp.o 52 (.one (.view (.slot 3) 0 [] 0)) ?_
 refine LWp.m true [(.slot 3, [.junk])] 2 (.one (.sl true 3 1 (encs c3 v2))) ?_
 refine LWp.nil ?_
 cases h
 exact Wp.ret ⟨.inr rfl, _, _, rfl, rfl⟩
def s_PlaceOf_H1 (xF : Flash) (v4 : List Int) (z1 : Int) (z2 : Int) : St := mkSt [(1, (.one (.ptr (.box 1) 0 [] 0))), (6, (.one (.sl true 3 1 (encs c3 v4)))), (7, (I z1)), (8, (I z2))] [(.box 1, [.sl false 124 3 (encs (c124 false) xF.Blocks)])]
def s_PlaceOf_H2 (z3 : Int) : St := mkSt [(7, (I z3))] []
theorem s_PlaceOf_t (xF : Flash) (r : Int × Int × Bool) (h : s_PlaceOf xF = some r) : Gives Tryz.prog 81 [.sv (.agg [.sl false 124 3 (encs (c124 false) xF.Blocks)])] (.tup [(I r.1), (I r.2.1), (B r.2.2)]) (List.replicate 1 .gone) := by
 unfold s_PlaceOf at h
 refine gives_of Tryz.func81 rfl ?_
 rw [Tryz.ntmps81]
 refine Wp.seq (Wp.region ?_)
 refine LWp.b [] 1 [.sl false 124 3 (encs (c124 false) xF.Blocks)] ?_
 refine LWp.o 2 (I 0) ?_
 refine LWp.o 3 (I 0) ?_
 refine LWp.o 4 (B false) ?_
 refine LWp.nil ?_
 refine Wp.seq ?_
 refine Wp.seq (Wp.region ?_)
 refine LWp.o 9 (.agg [.sl false 124 3 (encs (c124 false) xF.Blocks)]) ?_
 refine LWp.cl h 10 (fun v1 => (B v1)) rfl (l := [.sv (.agg [.sl false 124 3 (encs (c124 false) xF.Blocks)])]) rfl (fun v hv => s_FlashOk_t xF v hv) (.inl rfl) ?_
 intro v1 gv1 h
 refine LWp.o 11 (B (!v1)) ?_
 refine LWp.nil ?_
 refine Wp.c h (fun h => ?_) (fun h => ?_)
 · refine Wp.seq (Wp.region ?_)
   refine LWp.o 2 (I 0) ?_
   refine LWp.o 3 (I 0) ?_
   refine LWp.o 4 (B false) ?_
   refine LWp.nil ?_
   cases h
   exact Wp.ret ⟨.inr rfl, _, _, rfl, rfl⟩
 refine Wp.skip ?_
 refine Wp.seq (Wp.region ?_)
 refine LWp.o 12 (.agg [.sl false 124 3 (encs (c124 false) xF.Blocks)]) ?_
 refine LWp.cl h 13 (fun v2 => (I v2)) rfl (l := [.sv (.agg [.sl false 124 3 (encs (c124 false) xF.Blocks)])]) rfl (fun v hv => s_OpenBlock_t xF v hv) (.inl rfl) ?_
 intro v2 gv2 h
 refine LWp.o 5 (I v2) ?_
 refine LWp.nil ?_
 refine Wp.seq ?_
 refine Wp.seq (Wp.region ?_)
 refine LWp.o 14 (I v2) ?_
 refine LWp.o 15 (B (decide (v2 ≥ 0))) ?_
 refine LWp.nil ?_
 refine Wp.c h (fun h => ?_) (fun h => ?_)
 · refine Wp.seq (Wp.region ?_)
   refine LWp.o 16 (I v2) ?_
   refine LWp.o 17 (.one (.ptr (.box 1) 1 [] 0)) ?_
   refine LWp.o 18 (.one (.sl false 124 3 (encs (c124 false) xF.Blocks))) ?_
   refine LWp.o 19 (I v2) ?_
   refine LWp.p h 20 (fun _ => (.one (.ptr (.slot 18) 1 [0] (Int.toNat v2 * 3 + 0)))) ?_ (fun x1 gx1 => st_pure (p_ix (k124 false) (.slot 18) [] 0 gx1))
   intro x1 gx1 h
   refine LWp.o 21 (.agg [.bool x1.Bad, .int .i64 x1.Wear, .sl false 165 2 (encs c165 x1.Leaves)]) ?_ (st_pure (p_le (k124 false) (.slot 18) [0] gx1))
   refine LWp.cl h 22 (fun v3 => (I v3)) rfl (l := [.sv (.agg [.bool x1.Bad, .int .i64 x1.Wear, .sl false 165 2 (encs c165 x1.Leaves)])]) rfl (fun v hv => s_NextBlank_t x1 v hv) (.inl rfl) ?_
   intro v3 gv3 h
   refine LWp.o 2 (I v2) ?_
   refine LWp.o 3 (I v3) ?_
   refine LWp.o 4 (B true) ?_
   refine LWp.nil ?_
   cases h
   exact Wp.ret ⟨.inr rfl, _, _, rfl, rfl⟩
 refine Wp.skip ?_
 refine Wp.seq (Wp.region ?_)
 refine LWp.o 23 (.agg [.sl false 124 3 (encs (c124 false) xF.Blocks)]) ?_
 refine LWp.cl h 24 (fun v4 => (.one (.sl true 3 1 (encs c3 v4)))) rfl (l := [.sv (.agg [.sl false 124 3 (encs (c124 false) xF.Blocks)])]) rfl (fun v hv => s_FreeBlocks_t xF v hv) (.inl rfl) ?_
 intro v4 gv4 h
 refine LWp.m true [(.slot 24, [.junk])] 6 (.one (.sl true 3 1 (encs c3 v4))) ?_
 refine LWp.nil ?_
 refine Wp.seq ?_
 refine Wp.seq (Wp.region ?_)
 refine LWp.o 25 (.one (.view (.slot 6) 1 [] 0)) ?_
 refine LWp.o 26 (I (ln v4)) ?_ (st_pure (p_ln k3 v4))
 refine LWp.o 27 (B ((ln v4) == 0)) ?_
 refine LWp.nil ?_
 refine Wp.c h (fun h => ?_) (fun h => ?_)
 · refine Wp.seq (Wp.region ?_)
   refine LWp.o 2 (I 0) ?_
   refine LWp.o 3 (I 0) ?_
   refine LWp.o 4 (B false) ?_
   refine LWp.nil ?_
   cases h
   exact Wp.ret ⟨.inr rfl, _, _, rfl, rfl⟩
 refine Wp.skip ?_
 refine Wp.seq (Wp.region ?_)
 refine LWp.o 28 (.one (.view (.slot 6) 1 [] 0)) ?_
 refine LWp.p h 29 (fun _ => (.one (.ptr (.slot 6) 1 [0] (Int.toNat 0 * 1 + 0)))) ?_ (fun x2 gx2 => st_pure (p_ix k3 (.slot 6) [] 0 gx2))
 intro x2 gx2 h
 refine LWp.o 30 (I x2) ?_ (st_pure (p_lc k3 (.slot 6) [0] 0 (.int .i64 x2) gx2))
 refine LWp.o 7 (I x2) ?_
 refine LWp.nil ?_
 refine Wp.seq ?_
 refine Wp.seq (Wp.region ?_)
 refine LWp.o 8 (I 1) ?_
 refine LWp.nil ?_
 refine Wp.l1 h [1, 6, 7, 8] [.box 1] (fun s => (s_PlaceOf_H1 xF v4 s.1 s.2)) [7] [] (fun s => (s_PlaceOf_H2 s)) ⟨rfl, rfl⟩ ?_ ?_
 · rintro ⟨yBest1, yI1⟩ o (h : s_PlaceOf_b1 xF v4 yBest1 yI1 = some o)
   unfold s_PlaceOf_b1 at h
   change Wp _ _ _ (s_PlaceOf_H1 xF v4 yBest1 yI1) _
   refine Wp.seq ?_
   refine Wp.seq (Wp.region ?_)
   refine LWp.o 31 (I yI1) ?_
   refine LWp.o 32 (.one (.view (.slot 6) 0 [] 0)) ?_
   refine LWp.o 33 (I (ln v4)) ?_ (st_pure (p_ln k3 v4))
   refine LWp.o 34 (B (decide (yI1 < (ln v4)))) ?_
   refine LWp.nil ?_
   refine Wp.c h (fun h => ?_) (fun h => ?_)
   · refine Wp.skip ?_
     refine Wp.seq ?_
     refine Wp.block ?_
     refine Wp.seq ?_
     refine Wp.regionS mixed (by decide +kernel) ?_
     refine SWp.o 37 (.one (.ptr (.box 1) 0 [] 0)) ?_
     refine SWp.o 38 (.one (.sl false 124 3 (encs (c124 false) xF.Blocks))) ?_
     refine SWp.o 39 (.one (.view (.slot 6) 0 [] 0)) ?_
     refine SWp.o 40 (I yI1) ?_
     refine SWp.p h 41 (fun _ => (.one (.ptr (.slot 6) 0 [0] (Int.toNat yI1 * 1 + 0)))) ?_ (fun x3 gx3 => sl_pure (p_ix k3 (.slot 6) [] 0 gx3))
     intro x3 gx3 h
     refine SWp.o 42 (I x3) ?_ (sl_pure (p_lc k3 (.slot 6) [0] 0 (.int .i64 x3) gx3))
     refine SWp.p h 43 (fun _ => (.one (.ptr (.slot 38) 1 [0] (Int.toNat x3 * 3 + 0)))) ?_ (fun x4 gx4 => sl_pure (p_ix (k124 false) (.slot 38) [] 0 gx4))
     intro x4 gx4 h
     refine SWp.o 44 (.one (.ptr (.slot 38) 1 [0] (Int.toNat x3 * 3 + 1))) ?_ (sl_pure (p_fa (k124 false) (.slot 38) [0] 0 gx4))
     refine SWp.o 45 (I x4.Wear) ?_ (sl_pure (p_lc (k124 false) (.slot 38) [0] 1 (.int .i64 x4.Wear) gx4))
     refine SWp.o 46 (.one (.ptr (.box 1) 0 [] 0)) ?_
     refine SWp.o 47 (.one (.sl false 124 3 (encs (c124 false) xF.Blocks))) ?_
     refine SWp.o 48 (I yBest1) ?_
     refine SWp.p h 49 (fun _ => (.one (.ptr (.slot 47) 1 [0] (Int.toNat yBest1 * 3 + 0)))) ?_ (fun x5 gx5 => sl_pure (p_ix (k124 false) (.slot 47) [] 0 gx5))
     intro x5 gx5 h
     refine SWp.o 50 (.one (.ptr (.slot 47) 1 [0] (Int.toNat yBest1 * 3 + 1))) ?_ (sl_pure (p_fa (k124 false) (.slot 47) [0] 0 gx5))
     refine SWp.o 51 (I x5.Wear) ?_ (sl_pure (p_lc (k124 false) (.slot 47) [0] 1 (.int .i64 x5.Wear) gx5))
     refine SWp.o 52 (B (decide (x4.Wear < x5.Wear))) ?_
     refine SWp.nil ?_
     refine Wp.c h (fun h => ?_) (fun h => ?_)
     · refine Wp.region ?_
       refine LWp.o 53 (.one (.view (.slot 6) 0 [] 0)) ?_
       refine LWp.o 54 (I yI1) ?_
       refine LWp.p h 55 (fun _ => (.one (.ptr (.slot 6) 0 [0] (Int.toNat yI1 * 1 + 0)))) ?_ (fun x6 gx6 => st_pure (p_ix k3 (.slot 6) [] 0 gx6))
       intro x6 gx6 h
       refine LWp.o 56 (I x6) ?_ (st_pure (p_lc k3 (.slot 6) [0] 0 (.int .i64 x6) gx6))
       refine LWp.o 7 (I x6) ?_
       refine LWp.nil ?_
       refine Wp.region ?_
       refine LWp.o 35 (I yI1) ?_
       refine LWp.o 36 (I (ad yI1 1)) ?_
       refine LWp.o 8 (I (ad yI1 1)) ?_
       refine LWp.nil ?_
       cases h
       exact ⟨_, rfl, rfl, rfl⟩
     refine Wp.skip ?_
     refine Wp.region ?_
     refine LWp.o 35 (I yI1) ?_
     refine LWp.o 36 (I (ad yI1 1)) ?_
     refine LWp.o 8 (I (ad yI1 1)) ?_
     refine LWp.nil ?_
     cases h
     exact ⟨_, rfl, rfl, rfl⟩
   refine Wp.exit ?_
   cases h
   exact ⟨_, rfl, rfl, rfl⟩
 intro v5 h E hE
 refine nt_wp hE ?_
 change Wp _ _ _ (s_PlaceOf_H2 v5) _
 refine Wp.seq (Wp.region ?_)
 refine LWp.o 57 (I v5) ?_
 refine LWp.o 2 (I v5) ?_
 refine LWp.o 3 (I 0) ?_
 refine LWp.o 4 (B true) ?_
 refine LWp.nil ?_
 cases h
 exact Wp.ret ⟨.inr rfl, _, _, rfl, rfl⟩
def s_l05Copy_H1 (xF : Flash) (z1 : Int) (z2 : List Block) : St := mkSt [(1, (.one (.ptr (.box 1) 0 [] 0))), (2, (.one (.ptr (.box 2) 0 [] 0))), (3, (.one (.ptr (.box 3) 0 [] 0))), (4, (I z1))] [(.box 1, [.sl false 124 3 (encs (c124 false) xF.Blocks)]), (.box 2, [.sl true 124 3 (encs (c124 true) [])]), (.box 3, [.sl true 124 3 (encs (c124 true) z2)])]
def s_l05Copy_H2 (z3 : List Block) : St := mkSt [(2, (.one (.ptr (.box 2) 0 [] 0))), (3, (.one (.ptr (.box 3) 0 [] 0)))] [(.box 2, [.sl true 124 3 (encs (c124 true) [])]), (.box 3, [.sl true 124 3 (encs (c124 true) z3)])]
theorem s_l05Copy_t (xF : Flash) (r : Flash) (h : s_l05Copy xF = some r) : Gives Tryz.prog 129 [.sv (.agg [.sl false 124 3 (encs (c124 false) xF.Blocks)])] (.agg [.sl true 124 3 (encs (c124 true) r.Blocks)]) (List.replicate 1 .gone) := by
 unfold s_l05Copy at h
 refine gives_of Tryz.func129 rfl ?_
 rw [Tryz.ntmps129]
 refine Wp.seq (Wp.region ?_)
 refine LWp.b [] 1 [.sl false 124 3 (encs (c124 false) xF.Blocks)] ?_
 refine LWp.b [] 2 [.sl true 124 3 (encs (c124 true) [])] ?_
 refine LWp.nil ?_
 refine Wp.seq (Wp.region ?_)
 refine LWp.o 6 (.agg [.sl true 124 3 (encs (c124 true) [])]) ?_
 refine LWp.b [] 3 [.sl true 124 3 (encs (c124 true) [])] ?_
 refine LWp.sb [(.slot 6, [.junk])] (.box 3) [.sl true 124 3 (encs (c124 true) [])] ?_
 refine LWp.nil ?_
 refine Wp.seq ?_
 refine Wp.seq (Wp.region ?_)
 refine LWp.o 4 (I 0) ?_
 refine LWp.nil ?_
 refine Wp.l1 h [1, 2, 3, 4] [.box 1, .box 2, .box 3] (fun s => (s_l05Copy_H1 xF s.1 s.2)) [2, 3] [.box 2, .box 3] (fun s => (s_l05Copy_H2 s)) ⟨rfl, rfl⟩ ?_ ?_
 · rintro ⟨yI1, yOut01⟩ o (h : s_l05Copy_b1 xF yI1 yOut01 = some o)
   unfold s_l05Copy_b1 at h
   change Wp _ _ _ (s_l05Copy_H1 xF yI1 yOut01) _
   refine Wp.seq ?_
   refine Wp.seq (Wp.region ?_)
   refine LWp.o 7 (I yI1) ?_
   refine LWp.o 8 (.one (.ptr (.box 1) 0 [] 0)) ?_
   refine LWp.o 9 (.one (.sl false 124 3 (encs (c124 false) xF.Blocks))) ?_
   refine LWp.o 10 (I (ln xF.Blocks)) ?_ (st_pure (p_ln (k124 false) xF.Blocks))
   refine LWp.o 11 (B (decide (yI1 < (ln xF.Blocks)))) ?_
   refine LWp.nil ?_
   refine Wp.c h (fun h => ?_) (fun h => ?_)
   · refine Wp.skip ?_
     refine Wp.seq ?_
     refine Wp.block ?_
     refine Wp.seq (Wp.region ?_)
     refine LWp.o 14 (.one (.ptr (.box 1) 0 [] 0)) ?_
     refine LWp.o 15 (.one (.sl false 124 3 (encs (c124 false) xF.Blocks))) ?_
     refine LWp.o 16 (I yI1) ?_
     refine LWp.p h 17 (fun _ => (.one (.ptr (.slot 15) 1 [0] (Int.toNat yI1 * 3 + 0)))) ?_ (fun x1 gx1 => st_pure (p_ix (k124 false) (.slot 15) [] 0 gx1))
     intro x1 gx1 h
     refine LWp.o 18 (.agg [.bool x1.Bad, .int .i64 x1.Wear, .sl false 165 2 (encs c165 x1.Leaves)]) ?_ (st_pure (p_le (k124 false) (.slot 15) [0] gx1))
     refine LWp.b [] 5 [.bool false, .int .i64 0, .sl true 165 2 (encs c165 [])] ?_
     refine LWp.sb [] (.box 5) [.bool x1.Bad, .int .i64 x1.Wear, .sl false 165 2 (encs c165 x1.Leaves)] ?_
     refine LWp.nil ?_
     refine Wp.seq (Wp.region ?_)
     refine LWp.m false [] 19 (.one (.sl true 165 2 (encs c165 []))) ?_
     refine LWp.o 20 (.one (.ptr (.box 5) 1 [] 2)) ?_
     refine LWp.o 21 (.one (.sl false 165 2 (encs c165 x1.Leaves))) ?_
     refine LWp.pm h [(.slot 19, [.junk])] 22 (fun q1 => (.one (.sl true 165 2 (encs c165 q1)))) ?_ (fun q1 gq1 => s_apl k165 (fun _ => rfl) [(.slot 19, [.junk])] [] gq1)
     intro q1 gq1 h
     refine LWp.o 23 (.one (.ptr (.box 5) 1 [] 2)) ?_
     refine LWp.sb [(.slot 22, [.junk])] (.box 5) [.bool x1.Bad, .int .i64 x1.Wear, .sl true 165 2 (encs c165 q1)] ?_
     refine LWp.nil ?_
     refine Wp.region ?_
     refine LWp.o 24 (.one (.ptr (.box 3) 0 [] 0)) ?_
     refine LWp.o 25 (.one (.view (.box 3) 0 [] 0)) ?_
     refine LWp.o 26 (.agg [.bool x1.Bad, .int .i64 x1.Wear, .view (.box 5) 3 [] 2]) ?_
     refine LWp.m false [(.box 5, [.bool x1.Bad, .int .i64 x1.Wear, .junk])] 27 (.one (.sl true 124 3 (encs (c124 true) [(Block.mk x1.Bad x1.Wear q1)]))) ?_
     refine LWp.pm h [(.box 3, [.junk]), (.slot 27, [.sl true 124 3 [.bool ((Block.mk x1.Bad x1.Wear q1).Bad), .int .i64 ((Block.mk x1.Bad x1.Wear q1).Wear), .junk]])] 28 (fun q2 => (.one (.sl true 124 3 (encs (c124 true) q2)))) ?_ (fun q2 gq2 => s_ap1 (k124 true) [(.box 3, [.junk]), (.slot 27, [.sl true 124 3 [.bool ((Block.mk x1.Bad x1.Wear q1).Bad), .int .i64 ((Block.mk x1.Bad x1.Wear q1).Wear), .junk]])] yOut01 [(Block.mk x1.Bad x1.Wear q1)] gq2)
     intro q2 gq2 h
     refine LWp.o 29 (.one (.ptr (.box 3) 0 [] 0)) ?_
     refine LWp.s [(.slot 28, [.junk])] (.box 3) [.sl true 124 3 (encs (c124 true) q2)] ?_
     refine LWp.nil ?_
     refine Wp.region ?_
     refine LWp.o 12 (I yI1) ?_
     refine LWp.o 13 (I (ad yI1 1)) ?_
     refine LWp.o 4 (I (ad yI1 1)) ?_
     refine LWp.nil ?_
     cases h
     exact ⟨_, rfl, rfl, rfl⟩
   refine Wp.exit ?_
   cases h
   exact ⟨_, rfl, rfl, rfl⟩
 intro v1 h E hE
 refine nt_wp hE ?_
 change Wp _ _ _ (s_l05Copy_H2 v1) _
 refine Wp.seq (Wp.region ?_)
 refine LWp.o 30 (.agg [.view (.box 3) 0 [] 0]) ?_
 refine LWp.sb [(.box 3, [.junk])] (.box 2) [.sl true 124 3 (encs (c124 true) v1)] ?_
 refine LWp.nil ?_
 cases h
 exact Wp.ret ⟨.inr rfl, _, _, rfl, rfl⟩
end Go.TI
