/- That they compute it. No condition. -/
import Derived.Test.YtdppikmniniaiaaBOD
import Derived.Test.YtdppikmniniaiaaProg
import Derived.Test.YtdppikmniniaiaaSOY
import Derived.Shelf.Abstract
import Derived.KernelRfl
namespace Go.TI
open Go Go.Proofs
set_option linter.unusedVariables false
set_option linter.unusedSimpArgs false
theorem mixed : Try.prog.follows .mixedOrders = true := rfl

set_option maxRecDepth 100000 in
theorem w_szLeaf_t (xA : Leaf) (xLeft : Int) (r : Int) (h : w_szLeaf xA xLeft = some r) : Gives Try.prog 72 [.sv (.agg [.int .i64 xA.Is, .str xA.Text]), .sv (I xLeft)] (I r) (List.replicate 2 .gone) := by
 unfold w_szLeaf at h
 refine gives_of Try.func72 rfl ?_
 rw [Try.ntmps72]
 refine Wp.seq ?_
 refine Wp.region ?_
 refine LWp.b [] 2 [.int .i64 xA.Is, .str xA.Text] ?_
 refine LWp.o 4 (I 0) ?_
 refine LWp.nil ?_
 refine Wp.seq ?_
 refine Wp.region ?_
 refine LWp.o 5 (I xLeft) ?_
 refine LWp.o 6 (.one (.ptr (.box 2) 1 [] 1)) ?_
 refine LWp.o 7 (Y xA.Text) ?_
 refine LWp.o 8 (I (sln xA.Text)) ?_
 refine LWp.o 9 (I (sb xLeft (sln xA.Text))) ?_
 refine LWp.o 1 (I (sb xLeft (sln xA.Text))) ?_
 refine LWp.nil ?_
 refine Wp.seq ?_
 refine Wp.seq ?_
 refine Wp.region ?_
 refine LWp.o 10 (I (sb xLeft (sln xA.Text))) ?_
 refine LWp.o 11 (B (decide ((sb xLeft (sln xA.Text)) < 0))) ?_
 refine LWp.nil ?_
 refine Wp.c h (fun h => ?_) (fun h => ?_)
 · refine Wp.seq ?_
   refine Wp.region ?_
   refine LWp.o 4 (I (-1)) ?_
   refine LWp.nil ?_
   cases h
   exact Wp.ret ⟨.inr rfl, _, _, rfl, rfl⟩
 refine Wp.skip ?_
 refine Wp.seq ?_
 refine Wp.region ?_
 refine LWp.o 12 (I (sb xLeft (sln xA.Text))) ?_
 refine LWp.o 4 (I (sb xLeft (sln xA.Text))) ?_
 refine LWp.nil ?_
 cases h
 exact Wp.ret ⟨.inr rfl, _, _, rfl, rfl⟩
def c132 (x : Leaf) : List TV := [.int .i64 x.Is, .str x.Text]
theorem k132 : ∀ x, (c132 x).length = 2 := fun _ => rfl
theorem sh132 : ∀ l, shares (encs c132 l) = encs c132 l := shares_encs (fun _ => rfl)
theorem ns132 : ∀ l, hasShareds (encs c132 l) = false := ns_encs (fun _ => rfl)
def w_szLeafS_H1 (xA : List Leaf) (z1 : Int) (z2 : Int) : St := mkSt [(0, (.one (.sl false 132 2 (encs c132 xA)))), (1, (I z1)), (5, (I z2))] []
def w_szLeafS_H2 (z3 : Int) : St := mkSt [(1, (I z3))] []
set_option maxRecDepth 100000 in
theorem w_szLeafS_t (xA : List Leaf) (xLeft : Int) (r : Int) (h : w_szLeafS xA xLeft = some r) : Gives Try.prog 50 [.sv (.one (.sl false 132 2 (encs c132 xA))), .sv (I xLeft)] (I r) (List.replicate 2 .gone) := by
 unfold w_szLeafS at h
 refine gives_of Try.func50 rfl ?_
 rw [Try.ntmps50]
 refine Wp.seq ?_
 refine Wp.region ?_
 refine LWp.o 4 (I 0) ?_
 refine LWp.nil ?_
 refine Wp.seq ?_
 refine Wp.region ?_
 refine LWp.o 6 (I xLeft) ?_
 refine LWp.o 7 (.one (.sl false 132 2 (encs c132 xA))) ?_
 refine LWp.o 8 (I (ln xA)) ?_ (st_pure (p_ln k132 xA))
 refine LWp.o 9 (I (sb xLeft (ln xA))) ?_
 refine LWp.o 1 (I (sb xLeft (ln xA))) ?_
 refine LWp.nil ?_
 refine Wp.seq ?_
 refine Wp.seq ?_
 refine Wp.region ?_
 refine LWp.o 10 (I (sb xLeft (ln xA))) ?_
 refine LWp.o 11 (B (decide ((sb xLeft (ln xA)) < 0))) ?_
 refine LWp.nil ?_
 refine Wp.c h (fun h => ?_) (fun h => ?_)
 · refine Wp.seq ?_
   refine Wp.region ?_
   refine LWp.o 4 (I (-1)) ?_
   refine LWp.nil ?_
   cases h
   exact Wp.ret ⟨.inr rfl, _, _, rfl, rfl⟩
 refine Wp.skip ?_
 refine Wp.seq ?_
 refine Wp.seq ?_
 refine Wp.region ?_
 refine LWp.o 5 (I 0) ?_
 refine LWp.nil ?_
 refine Wp.l2 h [0, 1, 5] [] (fun s => (w_szLeafS_H1 xA s.1 s.2)) [1] [] (fun s => (w_szLeafS_H2 s)) ⟨rfl, rfl⟩ ?_ ?_
 · rintro ⟨yLeft1, yI1⟩ o (h : w_szLeafS_b1 xA yLeft1 yI1 = some o) hk1
   unfold w_szLeafS_b1 at h
   change Wp _ _ _ (w_szLeafS_H1 xA yLeft1 yI1) _
   refine Wp.seq ?_
   refine Wp.seq ?_
   refine Wp.region ?_
   refine LWp.o 12 (I yI1) ?_
   refine LWp.o 13 (.one (.sl false 132 2 (encs c132 xA))) ?_
   refine LWp.o 14 (I (ln xA)) ?_ (st_pure (p_ln k132 xA))
   refine LWp.o 15 (B (decide (yI1 < (ln xA)))) ?_
   refine LWp.nil ?_
   refine Wp.c h (fun h => ?_) (fun h => ?_)
   · refine Wp.skip ?_
     refine Wp.seq ?_
     refine Wp.block ?_
     refine Wp.seq ?_
     refine Wp.region ?_
     refine LWp.o 18 (.one (.sl false 132 2 (encs c132 xA))) ?_
     refine LWp.o 19 (I yI1) ?_
     refine LWp.p h 20 (fun _ => (.one (.ptr (.slot 18) 1 [0] (Int.toNat yI1 * 2 + 0)))) ?_ (fun x1 gx1 => st_pure (p_ix k132 (.slot 18) [] 0 gx1))
     intro x1 gx1 h
     refine LWp.o 21 (.agg [.int .i64 x1.Is, .str x1.Text]) ?_ (st_pure (p_le k132 (.slot 18) [0] gx1))
     refine LWp.o 22 (I yLeft1) ?_
     refine LWp.cl h 23 (fun v1 => (I v1)) rfl (l := [.sv (.agg [.int .i64 x1.Is, .str x1.Text]), .sv (.one (.int .i64 yLeft1))]) rfl (fun v hv => w_szLeaf_t x1 yLeft1 v hv) (.inl rfl) ?_
     intro v1 gv1 h
     refine LWp.o 1 (I v1) ?_
     refine LWp.nil ?_
     refine Wp.seq ?_
     refine Wp.region ?_
     refine LWp.o 24 (I v1) ?_
     refine LWp.o 25 (B (decide (v1 < 0))) ?_
     refine LWp.nil ?_
     refine Wp.c h (fun h => ?_) (fun h => ?_)
     · refine Wp.seq ?_
       refine Wp.region ?_
       refine LWp.o 4 (I (-1)) ?_
       refine LWp.nil ?_
       cases h
       replace h : some _ = some _ := hk1 _ rfl
       cases h
       exact Wp.ret ⟨.inr rfl, _, _, rfl, rfl⟩
     refine Wp.skip ?_
     refine Wp.region ?_
     refine LWp.o 16 (I yI1) ?_
     refine LWp.o 17 (I (ad yI1 1)) ?_
     refine LWp.o 5 (I (ad yI1 1)) ?_
     refine LWp.nil ?_
     cases h
     exact ⟨_, rfl, rfl, rfl⟩
   refine Wp.exit ?_
   cases h
   exact ⟨_, rfl, rfl, rfl⟩
 intro v2 h E hE
 refine nt_wp hE ?_
 change Wp _ _ _ (w_szLeafS_H2 v2) _
 refine Wp.seq ?_
 refine Wp.region ?_
 refine LWp.o 26 (I v2) ?_
 refine LWp.o 4 (I v2) ?_
 refine LWp.nil ?_
 cases h
 exact Wp.ret ⟨.inr rfl, _, _, rfl, rfl⟩
set_option maxRecDepth 100000 in
theorem w_szBlock_t (xA : Block) (xLeft : Int) (r : Int) (h : w_szBlock xA xLeft = some r) : Gives Try.prog 31 [.sv (.agg [.bool xA.Bad, .int .i64 xA.Wear, .sl false 132 2 (encs c132 xA.Leaves)]), .sv (I xLeft)] (I r) (List.replicate 2 .gone) := by
 unfold w_szBlock at h
 refine gives_of Try.func31 rfl ?_
 rw [Try.ntmps31]
 refine Wp.seq ?_
 refine Wp.region ?_
 refine LWp.b [] 2 [.bool xA.Bad, .int .i64 xA.Wear, .sl false 132 2 (encs c132 xA.Leaves)] ?_
 refine LWp.o 4 (I 0) ?_
 refine LWp.nil ?_
 refine Wp.seq ?_
 refine Wp.region ?_
 refine LWp.o 5 (.one (.ptr (.box 2) 1 [] 2)) ?_
 refine LWp.o 6 (.one (.sl false 132 2 (encs c132 xA.Leaves))) ?_
 refine LWp.o 7 (I xLeft) ?_
 refine LWp.cl h 8 (fun v1 => (I v1)) rfl (l := [.sv (.one (.sl false 132 2 (encs c132 xA.Leaves))), .sv (.one (.int .i64 xLeft))]) rfl (fun v hv => w_szLeafS_t xA.Leaves xLeft v hv) (.inl rfl) ?_
 intro v1 gv1 h
 refine LWp.o 1 (I v1) ?_
 refine LWp.nil ?_
 refine Wp.seq ?_
 refine Wp.seq ?_
 refine Wp.region ?_
 refine LWp.o 9 (I v1) ?_
 refine LWp.o 10 (B (decide (v1 < 0))) ?_
 refine LWp.nil ?_
 refine Wp.c h (fun h => ?_) (fun h => ?_)
 · refine Wp.seq ?_
   refine Wp.region ?_
   refine LWp.o 4 (I (-1)) ?_
   refine LWp.nil ?_
   cases h
   exact Wp.ret ⟨.inr rfl, _, _, rfl, rfl⟩
 refine Wp.skip ?_
 refine Wp.seq ?_
 refine Wp.region ?_
 refine LWp.o 11 (I v1) ?_
 refine LWp.o 4 (I v1) ?_
 refine LWp.nil ?_
 cases h
 exact Wp.ret ⟨.inr rfl, _, _, rfl, rfl⟩
def c78 (o : Bool) (x : Block) : List TV := [.bool x.Bad, .int .i64 x.Wear, .sl o 132 2 (encs c132 x.Leaves)]
theorem k78 (o : Bool) : ∀ x, (c78 o x).length = 3 := fun _ => rfl
theorem sh78 : ∀ l, shares (encs (c78 true) l) = encs (c78 false) l := shares_encs (fun x => by simp only [c78, shares, share, sh132])
theorem ns78 : ∀ l, hasShareds (encs (c78 true) l) = false := ns_encs (fun x => by simp [c78, hasShareds, hasShared, ns132])
def w_szBlockS_H1 (xA : List Block) (z1 : Int) (z2 : Int) : St := mkSt [(0, (.one (.sl false 78 3 (encs (c78 false) xA)))), (1, (I z1)), (5, (I z2))] []
def w_szBlockS_H2 (z3 : Int) : St := mkSt [(1, (I z3))] []
set_option maxRecDepth 100000 in
theorem w_szBlockS_t (xA : List Block) (xLeft : Int) (r : Int) (h : w_szBlockS xA xLeft = some r) : Gives Try.prog 15 [.sv (.one (.sl false 78 3 (encs (c78 false) xA))), .sv (I xLeft)] (I r) (List.replicate 2 .gone) := by
 unfold w_szBlockS at h
 refine gives_of Try.func15 rfl ?_
 rw [Try.ntmps15]
 refine Wp.seq ?_
 refine Wp.region ?_
 refine LWp.o 4 (I 0) ?_
 refine LWp.nil ?_
 refine Wp.seq ?_
 refine Wp.region ?_
 refine LWp.o 6 (I xLeft) ?_
 refine LWp.o 7 (.one (.sl false 78 3 (encs (c78 false) xA))) ?_
 refine LWp.o 8 (I (ln xA)) ?_ (st_pure (p_ln (k78 false) xA))
 refine LWp.o 9 (I (sb xLeft (ln xA))) ?_
 refine LWp.o 1 (I (sb xLeft (ln xA))) ?_
 refine LWp.nil ?_
 refine Wp.seq ?_
 refine Wp.seq ?_
 refine Wp.region ?_
 refine LWp.o 10 (I (sb xLeft (ln xA))) ?_
 refine LWp.o 11 (B (decide ((sb xLeft (ln xA)) < 0))) ?_
 refine LWp.nil ?_
 refine Wp.c h (fun h => ?_) (fun h => ?_)
 · refine Wp.seq ?_
   refine Wp.region ?_
   refine LWp.o 4 (I (-1)) ?_
   refine LWp.nil ?_
   cases h
   exact Wp.ret ⟨.inr rfl, _, _, rfl, rfl⟩
 refine Wp.skip ?_
 refine Wp.seq ?_
 refine Wp.seq ?_
 refine Wp.region ?_
 refine LWp.o 5 (I 0) ?_
 refine LWp.nil ?_
 refine Wp.l2 h [0, 1, 5] [] (fun s => (w_szBlockS_H1 xA s.1 s.2)) [1] [] (fun s => (w_szBlockS_H2 s)) ⟨rfl, rfl⟩ ?_ ?_
 · rintro ⟨yLeft1, yI1⟩ o (h : w_szBlockS_b1 xA yLeft1 yI1 = some o) hk1
   unfold w_szBlockS_b1 at h
   change Wp _ _ _ (w_szBlockS_H1 xA yLeft1 yI1) _
   refine Wp.seq ?_
   refine Wp.seq ?_
   refine Wp.region ?_
   refine LWp.o 12 (I yI1) ?_
   refine LWp.o 13 (.one (.sl false 78 3 (encs (c78 false) xA))) ?_
   refine LWp.o 14 (I (ln xA)) ?_ (st_pure (p_ln (k78 false) xA))
   refine LWp.o 15 (B (decide (yI1 < (ln xA)))) ?_
   refine LWp.nil ?_
   refine Wp.c h (fun h => ?_) (fun h => ?_)
   · refine Wp.skip ?_
     refine Wp.seq ?_
     refine Wp.block ?_
     refine Wp.seq ?_
     refine Wp.region ?_
     refine LWp.o 18 (.one (.sl false 78 3 (encs (c78 false) xA))) ?_
     refine LWp.o 19 (I yI1) ?_
     refine LWp.p h 20 (fun _ => (.one (.ptr (.slot 18) 1 [0] (Int.toNat yI1 * 3 + 0)))) ?_ (fun x1 gx1 => st_pure (p_ix (k78 false) (.slot 18) [] 0 gx1))
     intro x1 gx1 h
     refine LWp.o 21 (.agg [.bool x1.Bad, .int .i64 x1.Wear, .sl false 132 2 (encs c132 x1.Leaves)]) ?_ (st_pure (p_le (k78 false) (.slot 18) [0] gx1))
     refine LWp.o 22 (I yLeft1) ?_
     refine LWp.cl h 23 (fun v1 => (I v1)) rfl (l := [.sv (.agg [.bool x1.Bad, .int .i64 x1.Wear, .sl false 132 2 (encs c132 x1.Leaves)]), .sv (.one (.int .i64 yLeft1))]) rfl (fun v hv => w_szBlock_t x1 yLeft1 v hv) (.inl rfl) ?_
     intro v1 gv1 h
     refine LWp.o 1 (I v1) ?_
     refine LWp.nil ?_
     refine Wp.seq ?_
     refine Wp.region ?_
     refine LWp.o 24 (I v1) ?_
     refine LWp.o 25 (B (decide (v1 < 0))) ?_
     refine LWp.nil ?_
     refine Wp.c h (fun h => ?_) (fun h => ?_)
     · refine Wp.seq ?_
       refine Wp.region ?_
       refine LWp.o 4 (I (-1)) ?_
       refine LWp.nil ?_
       cases h
       replace h : some _ = some _ := hk1 _ rfl
       cases h
       exact Wp.ret ⟨.inr rfl, _, _, rfl, rfl⟩
     refine Wp.skip ?_
     refine Wp.region ?_
     refine LWp.o 16 (I yI1) ?_
     refine LWp.o 17 (I (ad yI1 1)) ?_
     refine LWp.o 5 (I (ad yI1 1)) ?_
     refine LWp.nil ?_
     cases h
     exact ⟨_, rfl, rfl, rfl⟩
   refine Wp.exit ?_
   cases h
   exact ⟨_, rfl, rfl, rfl⟩
 intro v2 h E hE
 refine nt_wp hE ?_
 change Wp _ _ _ (w_szBlockS_H2 v2) _
 refine Wp.seq ?_
 refine Wp.region ?_
 refine LWp.o 26 (I v2) ?_
 refine LWp.o 4 (I v2) ?_
 refine LWp.nil ?_
 cases h
 exact Wp.ret ⟨.inr rfl, _, _, rfl, rfl⟩
set_option maxRecDepth 100000 in
theorem w_szFlash_t (xA : Flash) (xLeft : Int) (r : Int) (h : w_szFlash xA xLeft = some r) : Gives Try.prog 5 [.sv (.agg [.sl false 78 3 (encs (c78 false) xA.Blocks)]), .sv (I xLeft)] (I r) (List.replicate 2 .gone) := by
 unfold w_szFlash at h
 refine gives_of Try.func5 rfl ?_
 rw [Try.ntmps5]
 refine Wp.seq ?_
 refine Wp.region ?_
 refine LWp.b [] 2 [.sl false 78 3 (encs (c78 false) xA.Blocks)] ?_
 refine LWp.o 4 (I 0) ?_
 refine LWp.nil ?_
 refine Wp.seq ?_
 refine Wp.region ?_
 refine LWp.o 5 (.one (.ptr (.box 2) 1 [] 0)) ?_
 refine LWp.o 6 (.one (.sl false 78 3 (encs (c78 false) xA.Blocks))) ?_
 refine LWp.o 7 (I xLeft) ?_
 refine LWp.cl h 8 (fun v1 => (I v1)) rfl (l := [.sv (.one (.sl false 78 3 (encs (c78 false) xA.Blocks))), .sv (.one (.int .i64 xLeft))]) rfl (fun v hv => w_szBlockS_t xA.Blocks xLeft v hv) (.inl rfl) ?_
 intro v1 gv1 h
 refine LWp.o 1 (I v1) ?_
 refine LWp.nil ?_
 refine Wp.seq ?_
 refine Wp.seq ?_
 refine Wp.region ?_
 refine LWp.o 9 (I v1) ?_
 refine LWp.o 10 (B (decide (v1 < 0))) ?_
 refine LWp.nil ?_
 refine Wp.c h (fun h => ?_) (fun h => ?_)
 · refine Wp.seq ?_
   refine Wp.region ?_
   refine LWp.o 4 (I (-1)) ?_
   refine LWp.nil ?_
   cases h
   exact Wp.ret ⟨.inr rfl, _, _, rfl, rfl⟩
 refine Wp.skip ?_
 refine Wp.seq ?_
 refine Wp.region ?_
 refine LWp.o 11 (I v1) ?_
 refine LWp.o 4 (I v1) ?_
 refine LWp.nil ?_
 cases h
 exact Wp.ret ⟨.inr rfl, _, _, rfl, rfl⟩
def c116 (x : Vol) : List TV := [.int .i64 x.Id, .int .i64 x.Root]
theorem k116 : ∀ x, (c116 x).length = 2 := fun _ => rfl
theorem sh116 : ∀ l, shares (encs c116 l) = encs c116 l := shares_encs (fun _ => rfl)
theorem ns116 : ∀ l, hasShareds (encs c116 l) = false := ns_encs (fun _ => rfl)
set_option maxRecDepth 100000 in
theorem w_szVolS_t (xA : List Vol) (xLeft : Int) (r : Int) (h : w_szVolS xA xLeft = some r) : Gives Try.prog 40 [.sv (.one (.sl false 116 2 (encs c116 xA))), .sv (I xLeft)] (I r) (List.replicate 2 .gone) := by
 unfold w_szVolS at h
 refine gives_of Try.func40 rfl ?_
 rw [Try.ntmps40]
 refine Wp.seq ?_
 refine Wp.region ?_
 refine LWp.o 4 (I 0) ?_
 refine LWp.nil ?_
 refine Wp.seq ?_
 refine Wp.region ?_
 refine LWp.o 5 (I xLeft) ?_
 refine LWp.o 6 (.one (.sl false 116 2 (encs c116 xA))) ?_
 refine LWp.o 7 (I (ln xA)) ?_ (st_pure (p_ln k116 xA))
 refine LWp.o 8 (I (sb xLeft (ln xA))) ?_
 refine LWp.o 1 (I (sb xLeft (ln xA))) ?_
 refine LWp.nil ?_
 refine Wp.seq ?_
 refine Wp.seq ?_
 refine Wp.region ?_
 refine LWp.o 9 (I (sb xLeft (ln xA))) ?_
 refine LWp.o 10 (B (decide ((sb xLeft (ln xA)) < 0))) ?_
 refine LWp.nil ?_
 refine Wp.c h (fun h => ?_) (fun h => ?_)
 · refine Wp.seq ?_
   refine Wp.region ?_
   refine LWp.o 4 (I (-1)) ?_
   refine LWp.nil ?_
   cases h
   exact Wp.ret ⟨.inr rfl, _, _, rfl, rfl⟩
 refine Wp.skip ?_
 refine Wp.seq ?_
 refine Wp.region ?_
 refine LWp.o 11 (I (sb xLeft (ln xA))) ?_
 refine LWp.o 4 (I (sb xLeft (ln xA))) ?_
 refine LWp.nil ?_
 cases h
 exact Wp.ret ⟨.inr rfl, _, _, rfl, rfl⟩
def c3 (x : Int) : List TV := [.int .i64 x]
theorem k3 : ∀ x, (c3 x).length = 1 := fun _ => rfl
theorem sh3 : ∀ l, shares (encs c3 l) = encs c3 l := shares_encs (fun _ => rfl)
theorem ns3 : ∀ l, hasShareds (encs c3 l) = false := ns_encs (fun _ => rfl)
set_option maxRecDepth 100000 in
theorem w_szIntS_t (xA : List Int) (xLeft : Int) (r : Int) (h : w_szIntS xA xLeft = some r) : Gives Try.prog 92 [.sv (.one (.sl false 3 1 (encs c3 xA))), .sv (I xLeft)] (I r) (List.replicate 2 .gone) := by
 unfold w_szIntS at h
 refine gives_of Try.func92 rfl ?_
 rw [Try.ntmps92]
 refine Wp.seq ?_
 refine Wp.region ?_
 refine LWp.o 4 (I 0) ?_
 refine LWp.nil ?_
 refine Wp.seq ?_
 refine Wp.region ?_
 refine LWp.o 5 (I xLeft) ?_
 refine LWp.o 6 (.one (.sl false 3 1 (encs c3 xA))) ?_
 refine LWp.o 7 (I (ln xA)) ?_ (st_pure (p_ln k3 xA))
 refine LWp.o 8 (I (sb xLeft (ln xA))) ?_
 refine LWp.o 1 (I (sb xLeft (ln xA))) ?_
 refine LWp.nil ?_
 refine Wp.seq ?_
 refine Wp.seq ?_
 refine Wp.region ?_
 refine LWp.o 9 (I (sb xLeft (ln xA))) ?_
 refine LWp.o 10 (B (decide ((sb xLeft (ln xA)) < 0))) ?_
 refine LWp.nil ?_
 refine Wp.c h (fun h => ?_) (fun h => ?_)
 · refine Wp.seq ?_
   refine Wp.region ?_
   refine LWp.o 4 (I (-1)) ?_
   refine LWp.nil ?_
   cases h
   exact Wp.ret ⟨.inr rfl, _, _, rfl, rfl⟩
 refine Wp.skip ?_
 refine Wp.seq ?_
 refine Wp.region ?_
 refine LWp.o 11 (I (sb xLeft (ln xA))) ?_
 refine LWp.o 4 (I (sb xLeft (ln xA))) ?_
 refine LWp.nil ?_
 cases h
 exact Wp.ret ⟨.inr rfl, _, _, rfl, rfl⟩
set_option maxRecDepth 100000 in
theorem w_szKnot_t (xA : Knot) (xLeft : Int) (r : Int) (h : w_szKnot xA xLeft = some r) : Gives Try.prog 77 [.sv (.agg [.bool xA.Leaf, .sl false 3 1 (encs c3 xA.Kids)]), .sv (I xLeft)] (I r) (List.replicate 2 .gone) := by
 unfold w_szKnot at h
 refine gives_of Try.func77 rfl ?_
 rw [Try.ntmps77]
 refine Wp.seq ?_
 refine Wp.region ?_
 refine LWp.b [] 2 [.bool xA.Leaf, .sl false 3 1 (encs c3 xA.Kids)] ?_
 refine LWp.o 4 (I 0) ?_
 refine LWp.nil ?_
 refine Wp.seq ?_
 refine Wp.region ?_
 refine LWp.o 5 (.one (.ptr (.box 2) 1 [] 1)) ?_
 refine LWp.o 6 (.one (.sl false 3 1 (encs c3 xA.Kids))) ?_
 refine LWp.o 7 (I xLeft) ?_
 refine LWp.cl h 8 (fun v1 => (I v1)) rfl (l := [.sv (.one (.sl false 3 1 (encs c3 xA.Kids))), .sv (.one (.int .i64 xLeft))]) rfl (fun v hv => w_szIntS_t xA.Kids xLeft v hv) (.inl rfl) ?_
 intro v1 gv1 h
 refine LWp.o 1 (I v1) ?_
 refine LWp.nil ?_
 refine Wp.seq ?_
 refine Wp.seq ?_
 refine Wp.region ?_
 refine LWp.o 9 (I v1) ?_
 refine LWp.o 10 (B (decide (v1 < 0))) ?_
 refine LWp.nil ?_
 refine Wp.c h (fun h => ?_) (fun h => ?_)
 · refine Wp.seq ?_
   refine Wp.region ?_
   refine LWp.o 4 (I (-1)) ?_
   refine LWp.nil ?_
   cases h
   exact Wp.ret ⟨.inr rfl, _, _, rfl, rfl⟩
 refine Wp.skip ?_
 refine Wp.seq ?_
 refine Wp.region ?_
 refine LWp.o 11 (I v1) ?_
 refine LWp.o 4 (I v1) ?_
 refine LWp.nil ?_
 cases h
 exact Wp.ret ⟨.inr rfl, _, _, rfl, rfl⟩
def c141 (o : Bool) (x : Knot) : List TV := [.bool x.Leaf, .sl o 3 1 (encs c3 x.Kids)]
theorem k141 (o : Bool) : ∀ x, (c141 o x).length = 2 := fun _ => rfl
theorem sh141 : ∀ l, shares (encs (c141 true) l) = encs (c141 false) l := shares_encs (fun x => by simp only [c141, shares, share, sh3])
theorem ns141 : ∀ l, hasShareds (encs (c141 true) l) = false := ns_encs (fun x => by simp [c141, hasShareds, hasShared, ns3])
def w_szKnotS_H1 (xA : List Knot) (z1 : Int) (z2 : Int) : St := mkSt [(0, (.one (.sl false 141 2 (encs (c141 false) xA)))), (1, (I z1)), (5, (I z2))] []
def w_szKnotS_H2 (z3 : Int) : St := mkSt [(1, (I z3))] []
set_option maxRecDepth 100000 in
theorem w_szKnotS_t (xA : List Knot) (xLeft : Int) (r : Int) (h : w_szKnotS xA xLeft = some r) : Gives Try.prog 63 [.sv (.one (.sl false 141 2 (encs (c141 false) xA))), .sv (I xLeft)] (I r) (List.replicate 2 .gone) := by
 unfold w_szKnotS at h
 refine gives_of Try.func63 rfl ?_
 rw [Try.ntmps63]
 refine Wp.seq ?_
 refine Wp.region ?_
 refine LWp.o 4 (I 0) ?_
 refine LWp.nil ?_
 refine Wp.seq ?_
 refine Wp.region ?_
 refine LWp.o 6 (I xLeft) ?_
 refine LWp.o 7 (.one (.sl false 141 2 (encs (c141 false) xA))) ?_
 refine LWp.o 8 (I (ln xA)) ?_ (st_pure (p_ln (k141 false) xA))
 refine LWp.o 9 (I (sb xLeft (ln xA))) ?_
 refine LWp.o 1 (I (sb xLeft (ln xA))) ?_
 refine LWp.nil ?_
 refine Wp.seq ?_
 refine Wp.seq ?_
 refine Wp.region ?_
 refine LWp.o 10 (I (sb xLeft (ln xA))) ?_
 refine LWp.o 11 (B (decide ((sb xLeft (ln xA)) < 0))) ?_
 refine LWp.nil ?_
 refine Wp.c h (fun h => ?_) (fun h => ?_)
 · refine Wp.seq ?_
   refine Wp.region ?_
   refine LWp.o 4 (I (-1)) ?_
   refine LWp.nil ?_
   cases h
   exact Wp.ret ⟨.inr rfl, _, _, rfl, rfl⟩
 refine Wp.skip ?_
 refine Wp.seq ?_
 refine Wp.seq ?_
 refine Wp.region ?_
 refine LWp.o 5 (I 0) ?_
 refine LWp.nil ?_
 refine Wp.l2 h [0, 1, 5] [] (fun s => (w_szKnotS_H1 xA s.1 s.2)) [1] [] (fun s => (w_szKnotS_H2 s)) ⟨rfl, rfl⟩ ?_ ?_
 · rintro ⟨yLeft1, yI1⟩ o (h : w_szKnotS_b1 xA yLeft1 yI1 = some o) hk1
   unfold w_szKnotS_b1 at h
   change Wp _ _ _ (w_szKnotS_H1 xA yLeft1 yI1) _
   refine Wp.seq ?_
   refine Wp.seq ?_
   refine Wp.region ?_
   refine LWp.o 12 (I yI1) ?_
   refine LWp.o 13 (.one (.sl false 141 2 (encs (c141 false) xA))) ?_
   refine LWp.o 14 (I (ln xA)) ?_ (st_pure (p_ln (k141 false) xA))
   refine LWp.o 15 (B (decide (yI1 < (ln xA)))) ?_
   refine LWp.nil ?_
   refine Wp.c h (fun h => ?_) (fun h => ?_)
   · refine Wp.skip ?_
     refine Wp.seq ?_
     refine Wp.block ?_
     refine Wp.seq ?_
     refine Wp.region ?_
     refine LWp.o 18 (.one (.sl false 141 2 (encs (c141 false) xA))) ?_
     refine LWp.o 19 (I yI1) ?_
     refine LWp.p h 20 (fun _ => (.one (.ptr (.slot 18) 1 [0] (Int.toNat yI1 * 2 + 0)))) ?_ (fun x1 gx1 => st_pure (p_ix (k141 false) (.slot 18) [] 0 gx1))
     intro x1 gx1 h
     refine LWp.o 21 (.agg [.bool x1.Leaf, .sl false 3 1 (encs c3 x1.Kids)]) ?_ (st_pure (p_le (k141 false) (.slot 18) [0] gx1))
     refine LWp.o 22 (I yLeft1) ?_
     refine LWp.cl h 23 (fun v1 => (I v1)) rfl (l := [.sv (.agg [.bool x1.Leaf, .sl false 3 1 (encs c3 x1.Kids)]), .sv (.one (.int .i64 yLeft1))]) rfl (fun v hv => w_szKnot_t x1 yLeft1 v hv) (.inl rfl) ?_
     intro v1 gv1 h
     refine LWp.o 1 (I v1) ?_
     refine LWp.nil ?_
     refine Wp.seq ?_
     refine Wp.region ?_
     refine LWp.o 24 (I v1) ?_
     refine LWp.o 25 (B (decide (v1 < 0))) ?_
     refine LWp.nil ?_
     refine Wp.c h (fun h => ?_) (fun h => ?_)
     · refine Wp.seq ?_
       refine Wp.region ?_
       refine LWp.o 4 (I (-1)) ?_
       refine LWp.nil ?_
       cases h
       replace h : some _ = some _ := hk1 _ rfl
       cases h
       exact Wp.ret ⟨.inr rfl, _, _, rfl, rfl⟩
     refine Wp.skip ?_
     refine Wp.region ?_
     refine LWp.o 16 (I yI1) ?_
     refine LWp.o 17 (I (ad yI1 1)) ?_
     refine LWp.o 5 (I (ad yI1 1)) ?_
     refine LWp.nil ?_
     cases h
     exact ⟨_, rfl, rfl, rfl⟩
   refine Wp.exit ?_
   cases h
   exact ⟨_, rfl, rfl, rfl⟩
 intro v2 h E hE
 refine nt_wp hE ?_
 change Wp _ _ _ (w_szKnotS_H2 v2) _
 refine Wp.seq ?_
 refine Wp.region ?_
 refine LWp.o 26 (I v2) ?_
 refine LWp.o 4 (I v2) ?_
 refine LWp.nil ?_
 cases h
 exact Wp.ret ⟨.inr rfl, _, _, rfl, rfl⟩
set_option maxRecDepth 100000 in
theorem w_szArena_t (xA : Arena) (xLeft : Int) (r : Int) (h : w_szArena xA xLeft = some r) : Gives Try.prog 41 [.sv (.agg [.sl false 141 2 (encs (c141 false) xA.Knots)]), .sv (I xLeft)] (I r) (List.replicate 2 .gone) := by
 unfold w_szArena at h
 refine gives_of Try.func41 rfl ?_
 rw [Try.ntmps41]
 refine Wp.seq ?_
 refine Wp.region ?_
 refine LWp.b [] 2 [.sl false 141 2 (encs (c141 false) xA.Knots)] ?_
 refine LWp.o 4 (I 0) ?_
 refine LWp.nil ?_
 refine Wp.seq ?_
 refine Wp.region ?_
 refine LWp.o 5 (.one (.ptr (.box 2) 1 [] 0)) ?_
 refine LWp.o 6 (.one (.sl false 141 2 (encs (c141 false) xA.Knots))) ?_
 refine LWp.o 7 (I xLeft) ?_
 refine LWp.cl h 8 (fun v1 => (I v1)) rfl (l := [.sv (.one (.sl false 141 2 (encs (c141 false) xA.Knots))), .sv (.one (.int .i64 xLeft))]) rfl (fun v hv => w_szKnotS_t xA.Knots xLeft v hv) (.inl rfl) ?_
 intro v1 gv1 h
 refine LWp.o 1 (I v1) ?_
 refine LWp.nil ?_
 refine Wp.seq ?_
 refine Wp.seq ?_
 refine Wp.region ?_
 refine LWp.o 9 (I v1) ?_
 refine LWp.o 10 (B (decide (v1 < 0))) ?_
 refine LWp.nil ?_
 refine Wp.c h (fun h => ?_) (fun h => ?_)
 · refine Wp.seq ?_
   refine Wp.region ?_
   refine LWp.o 4 (I (-1)) ?_
   refine LWp.nil ?_
   cases h
   exact Wp.ret ⟨.inr rfl, _, _, rfl, rfl⟩
 refine Wp.skip ?_
 refine Wp.seq ?_
 refine Wp.region ?_
 refine LWp.o 11 (I v1) ?_
 refine LWp.o 4 (I v1) ?_
 refine LWp.nil ?_
 cases h
 exact Wp.ret ⟨.inr rfl, _, _, rfl, rfl⟩
set_option maxRecDepth 100000 in
theorem w_szStore_t (xA : Store) (xLeft : Int) (r : Int) (h : w_szStore xA xLeft = some r) : Gives Try.prog 22 [.sv (.agg [.sl false 116 2 (encs c116 xA.Vols), .sl false 141 2 (encs (c141 false) xA.Arena.Knots), .int .i64 xA.Next]), .sv (I xLeft)] (I r) (List.replicate 2 .gone) := by
 unfold w_szStore at h
 refine gives_of Try.func22 rfl ?_
 rw [Try.ntmps22]
 refine Wp.seq ?_
 refine Wp.region ?_
 refine LWp.b [] 2 [.sl false 116 2 (encs c116 xA.Vols), .sl false 141 2 (encs (c141 false) xA.Arena.Knots), .int .i64 xA.Next] ?_
 refine LWp.o 4 (I 0) ?_
 refine LWp.nil ?_
 refine Wp.seq ?_
 refine Wp.region ?_
 refine LWp.o 5 (.one (.ptr (.box 2) 1 [] 0)) ?_
 refine LWp.o 6 (.one (.sl false 116 2 (encs c116 xA.Vols))) ?_
 refine LWp.o 7 (I xLeft) ?_
 refine LWp.cl h 8 (fun v1 => (I v1)) rfl (l := [.sv (.one (.sl false 116 2 (encs c116 xA.Vols))), .sv (.one (.int .i64 xLeft))]) rfl (fun v hv => w_szVolS_t xA.Vols xLeft v hv) (.inl rfl) ?_
 intro v1 gv1 h
 refine LWp.o 1 (I v1) ?_
 refine LWp.nil ?_
 refine Wp.seq ?_
 refine Wp.seq ?_
 refine Wp.region ?_
 refine LWp.o 9 (I v1) ?_
 refine LWp.o 10 (B (decide (v1 < 0))) ?_
 refine LWp.nil ?_
 refine Wp.c h (fun h => ?_) (fun h => ?_)
 · refine Wp.seq ?_
   refine Wp.region ?_
   refine LWp.o 4 (I (-1)) ?_
   refine LWp.nil ?_
   cases h
   exact Wp.ret ⟨.inr rfl, _, _, rfl, rfl⟩
 refine Wp.skip ?_
 refine Wp.seq ?_
 refine Wp.region ?_
 refine LWp.o 11 (.one (.ptr (.box 2) 1 [] 1)) ?_
 refine LWp.o 12 (.agg [.sl false 141 2 (encs (c141 false) xA.Arena.Knots)]) ?_
 refine LWp.o 13 (I v1) ?_
 refine LWp.cl h 14 (fun v2 => (I v2)) rfl (l := [.sv (.agg [.sl false 141 2 (encs (c141 false) xA.Arena.Knots)]), .sv (.one (.int .i64 v1))]) rfl (fun v hv => w_szArena_t xA.Arena v1 v hv) (.inl rfl) ?_
 intro v2 gv2 h
 refine LWp.o 1 (I v2) ?_
 refine LWp.nil ?_
 refine Wp.seq ?_
 refine Wp.seq ?_
 refine Wp.region ?_
 refine LWp.o 15 (I v2) ?_
 refine LWp.o 16 (B (decide (v2 < 0))) ?_
 refine LWp.nil ?_
 refine Wp.c h (fun h => ?_) (fun h => ?_)
 · refine Wp.seq ?_
   refine Wp.region ?_
   refine LWp.o 4 (I (-1)) ?_
   refine LWp.nil ?_
   cases h
   exact Wp.ret ⟨.inr rfl, _, _, rfl, rfl⟩
 refine Wp.skip ?_
 refine Wp.seq ?_
 refine Wp.region ?_
 refine LWp.o 17 (I v2) ?_
 refine LWp.o 4 (I v2) ?_
 refine LWp.nil ?_
 cases h
 exact Wp.ret ⟨.inr rfl, _, _, rfl, rfl⟩
set_option maxRecDepth 100000 in
theorem w_szDevice_t (xA : Device) (xLeft : Int) (r : Int) (h : w_szDevice xA xLeft = some r) : Gives Try.prog 10 [.sv (.agg [.sl false 78 3 (encs (c78 false) xA.Flash.Blocks), .sl false 116 2 (encs c116 xA.Store.Vols), .sl false 141 2 (encs (c141 false) xA.Store.Arena.Knots), .int .i64 xA.Store.Next, .int .i64 xA.Seq, .int .i64 xA.Tx, .int .i64 xA.Base]), .sv (I xLeft)] (I r) (List.replicate 2 .gone) := by
 unfold w_szDevice at h
 refine gives_of Try.func10 rfl ?_
 rw [Try.ntmps10]
 refine Wp.seq ?_
 refine Wp.region ?_
 refine LWp.b [] 2 [.sl false 78 3 (encs (c78 false) xA.Flash.Blocks), .sl false 116 2 (encs c116 xA.Store.Vols), .sl false 141 2 (encs (c141 false) xA.Store.Arena.Knots), .int .i64 xA.Store.Next, .int .i64 xA.Seq, .int .i64 xA.Tx, .int .i64 xA.Base] ?_
 refine LWp.o 4 (I 0) ?_
 refine LWp.nil ?_
 refine Wp.seq ?_
 refine Wp.region ?_
 refine LWp.o 5 (.one (.ptr (.box 2) 1 [] 0)) ?_
 refine LWp.o 6 (.agg [.sl false 78 3 (encs (c78 false) xA.Flash.Blocks)]) ?_
 refine LWp.o 7 (I xLeft) ?_
 refine LWp.cl h 8 (fun v1 => (I v1)) rfl (l := [.sv (.agg [.sl false 78 3 (encs (c78 false) xA.Flash.Blocks)]), .sv (.one (.int .i64 xLeft))]) rfl (fun v hv => w_szFlash_t xA.Flash xLeft v hv) (.inl rfl) ?_
 intro v1 gv1 h
 refine LWp.o 1 (I v1) ?_
 refine LWp.nil ?_
 refine Wp.seq ?_
 refine Wp.seq ?_
 refine Wp.region ?_
 refine LWp.o 9 (I v1) ?_
 refine LWp.o 10 (B (decide (v1 < 0))) ?_
 refine LWp.nil ?_
 refine Wp.c h (fun h => ?_) (fun h => ?_)
 · refine Wp.seq ?_
   refine Wp.region ?_
   refine LWp.o 4 (I (-1)) ?_
   refine LWp.nil ?_
   cases h
   exact Wp.ret ⟨.inr rfl, _, _, rfl, rfl⟩
 refine Wp.skip ?_
 refine Wp.seq ?_
 refine Wp.region ?_
 refine LWp.o 11 (.one (.ptr (.box 2) 1 [] 1)) ?_
 refine LWp.o 12 (.agg [.sl false 116 2 (encs c116 xA.Store.Vols), .sl false 141 2 (encs (c141 false) xA.Store.Arena.Knots), .int .i64 xA.Store.Next]) ?_
 refine LWp.o 13 (I v1) ?_
 refine LWp.cl h 14 (fun v2 => (I v2)) rfl (l := [.sv (.agg [.sl false 116 2 (encs c116 xA.Store.Vols), .sl false 141 2 (encs (c141 false) xA.Store.Arena.Knots), .int .i64 xA.Store.Next]), .sv (.one (.int .i64 v1))]) rfl (fun v hv => w_szStore_t xA.Store v1 v hv) (.inl rfl) ?_
 intro v2 gv2 h
 refine LWp.o 1 (I v2) ?_
 refine LWp.nil ?_
 refine Wp.seq ?_
 refine Wp.seq ?_
 refine Wp.region ?_
 refine LWp.o 15 (I v2) ?_
 refine LWp.o 16 (B (decide (v2 < 0))) ?_
 refine LWp.nil ?_
 refine Wp.c h (fun h => ?_) (fun h => ?_)
 · refine Wp.seq ?_
   refine Wp.region ?_
   refine LWp.o 4 (I (-1)) ?_
   refine LWp.nil ?_
   cases h
   exact Wp.ret ⟨.inr rfl, _, _, rfl, rfl⟩
 refine Wp.skip ?_
 refine Wp.seq ?_
 refine Wp.region ?_
 refine LWp.o 17 (I v2) ?_
 refine LWp.o 4 (I v2) ?_
 refine LWp.nil ?_
 cases h
 exact Wp.ret ⟨.inr rfl, _, _, rfl, rfl⟩
set_option maxRecDepth 100000 in
theorem w_toLeaf_t (xA : Leaf) (r : Leaf) (h : w_toLeaf xA = some r) : Gives Try.prog 74 [.sv (.agg [.int .i64 xA.Is, .str xA.Text])] (.agg [.int .i64 r.Is, .str r.Text]) (List.replicate 1 .gone) := by
 unfold w_toLeaf at h
 refine gives_of Try.func74 rfl ?_
 rw [Try.ntmps74]
 refine Wp.seq ?_
 refine Wp.region ?_
 refine LWp.b [] 1 [.int .i64 xA.Is, .str xA.Text] ?_
 refine LWp.b [] 2 [.int .i64 0, .str (bs [])] ?_
 refine LWp.nil ?_
 refine Wp.seq ?_
 refine Wp.region ?_
 refine LWp.b [] 3 [.int .i64 0, .str (bs [])] ?_
 refine LWp.nil ?_
 refine Wp.seq ?_
 refine Wp.region ?_
 refine LWp.o 4 (.one (.ptr (.box 1) 1 [] 0)) ?_
 refine LWp.o 5 (I xA.Is) ?_
 refine LWp.o 6 (.one (.ptr (.box 3) 1 [] 0)) ?_
 refine LWp.s [] (.box 3) [.int .i64 xA.Is, .str (bs [])] ?_
 refine LWp.nil ?_
 refine Wp.seq ?_
 refine Wp.region ?_
 refine LWp.o 7 (.one (.ptr (.box 1) 1 [] 1)) ?_
 refine LWp.o 8 (Y xA.Text) ?_
 refine LWp.o 9 (.one (.ptr (.box 3) 1 [] 1)) ?_
 refine LWp.s [] (.box 3) [.int .i64 xA.Is, .str xA.Text] ?_
 refine LWp.nil ?_
 refine Wp.seq ?_
 refine Wp.region ?_
 refine LWp.o 10 (.agg [.int .i64 xA.Is, .str xA.Text]) ?_
 refine LWp.s [] (.box 2) [.int .i64 xA.Is, .str xA.Text] ?_
 refine LWp.nil ?_
 cases h
 exact Wp.ret ⟨.inr rfl, _, _, rfl, rfl⟩
def c57 (x : Leaf) : List TV := [.int .i64 x.Is, .str x.Text]
theorem k57 : ∀ x, (c57 x).length = 2 := fun _ => rfl
theorem sh57 : ∀ l, shares (encs c57 l) = encs c57 l := shares_encs (fun _ => rfl)
theorem ns57 : ∀ l, hasShareds (encs c57 l) = false := ns_encs (fun _ => rfl)
def w_toLeafS_H1 (xA : List Leaf) (z1 : List Leaf) (z2 : Int) : St := mkSt [(0, (.one (.sl false 132 2 (encs c132 xA)))), (3, (.one (.sl true 57 2 (encs c57 z1)))), (4, (I z2))] []
def w_toLeafS_H2 (z3 : List Leaf) : St := mkSt [(3, (.one (.sl true 57 2 (encs c57 z3))))] []
set_option maxRecDepth 100000 in
theorem w_toLeafS_t (xA : List Leaf) (r : List Leaf) (h : w_toLeafS xA = some r) : Gives Try.prog 58 [.sv (.one (.sl false 132 2 (encs c132 xA)))] (.one (.sl true 57 2 (encs c57 r))) (List.replicate 1 .gone) := by
 unfold w_toLeafS at h
 refine gives_of Try.func58 rfl ?_
 rw [Try.ntmps58]
 refine Wp.seq ?_
 refine Wp.region ?_
 refine LWp.o 2 (.one (.sl true 57 2 (encs c57 []))) ?_
 refine LWp.nil ?_
 refine Wp.seq ?_
 refine Wp.region ?_
 refine LWp.o 5 (.one (.sl false 132 2 (encs c132 xA))) ?_
 refine LWp.o 6 (I (ln xA)) ?_ (st_pure (p_ln k132 xA))
 refine LWp.p h 7 (fun c1 => (.one (.sl true 57 2 (encs c57 c1)))) ?_ (fun c1 gc1 => s_mk (f := c57) (Leaf.mk 0 (bs [])) gc1)
 intro c1 gc1 h
 refine LWp.m true [(.slot 7, [.junk])] 3 (.one (.sl true 57 2 (encs c57 c1))) ?_
 refine LWp.nil ?_
 refine Wp.seq ?_
 refine Wp.seq ?_
 refine Wp.region ?_
 refine LWp.o 4 (I 0) ?_
 refine LWp.nil ?_
 refine Wp.l1 h [0, 3, 4] [] (fun s => (w_toLeafS_H1 xA s.1 s.2)) [3] [] (fun s => (w_toLeafS_H2 s)) ⟨rfl, rfl⟩ ?_ ?_
 · rintro ⟨yOut1, yI1⟩ o (h : w_toLeafS_b1 xA yOut1 yI1 = some o)
   unfold w_toLeafS_b1 at h
   change Wp _ _ _ (w_toLeafS_H1 xA yOut1 yI1) _
   refine Wp.seq ?_
   refine Wp.seq ?_
   refine Wp.region ?_
   refine LWp.o 8 (I yI1) ?_
   refine LWp.o 9 (.one (.sl false 132 2 (encs c132 xA))) ?_
   refine LWp.o 10 (I (ln xA)) ?_ (st_pure (p_ln k132 xA))
   refine LWp.o 11 (B (decide (yI1 < (ln xA)))) ?_
   refine LWp.nil ?_
   refine Wp.c h (fun h => ?_) (fun h => ?_)
   · refine Wp.skip ?_
     refine Wp.seq ?_
     refine Wp.block ?_
     refine Wp.region ?_
     refine LWp.o 14 (.one (.view (.slot 3) 0 [] 0)) ?_
     refine LWp.o 15 (I yI1) ?_
     refine LWp.o 16 (.one (.sl false 132 2 (encs c132 xA))) ?_
     refine LWp.o 17 (I yI1) ?_
     refine LWp.p h 18 (fun _ => (.one (.ptr (.slot 16) 1 [0] (Int.toNat yI1 * 2 + 0)))) ?_ (fun x1 gx1 => st_pure (p_ix k132 (.slot 16) [] 0 gx1))
     intro x1 gx1 h
     refine LWp.o 19 (.agg [.int .i64 x1.Is, .str x1.Text]) ?_ (st_pure (p_le k132 (.slot 16) [0] gx1))
     refine LWp.cl h 20 (fun v1 => (.agg [.int .i64 v1.Is, .str v1.Text])) rfl (l := [.sv (.agg [.int .i64 x1.Is, .str x1.Text])]) rfl (fun v hv => w_toLeaf_t x1 v hv) (.inl rfl) ?_
     intro v1 gv1 h
     refine LWp.p h 21 (fun _ => (.one (.ptr (.slot 3) 0 [0] (Int.toNat yI1 * 2 + 0)))) ?_ (fun x2 gx2 => st_pure (p_ix k57 (.slot 3) [] 0 gx2))
     intro x2 gx2 h
     refine LWp.sb [] (.slot 3) [.sl true 57 2 (encs c57 (si yOut1 yI1 v1))] ?_ (s_st [] (q := [0]) (cs := [.sl true 57 2 (encs c57 yOut1)]) (xs := [.int .i64 v1.Is, .str v1.Text]) (At.one (setRow_gi k57 (k := 0) (z := v1) gx2 rfl rfl)) (fit_gi k57 (k := 0) gx2 rfl))
     refine LWp.nil ?_
     refine Wp.region ?_
     refine LWp.o 12 (I yI1) ?_
     refine LWp.o 13 (I (ad yI1 1)) ?_
     refine LWp.o 4 (I (ad yI1 1)) ?_
     refine LWp.nil ?_
     cases h
     exact ⟨_, rfl, rfl, rfl⟩
   refine Wp.exit ?_
   cases h
   exact ⟨_, rfl, rfl, rfl⟩
 intro v2 h E hE
 refine nt_wp hE ?_
 change Wp _ _ _ (w_toLeafS_H2 v2) _
 refine Wp.seq ?_
 refine Wp.region ?_
 refine LWp.o 22 (.one (.view (.slot 3) 0 [] 0)) ?_
 refine LWp.m true [(.slot 3, [.junk])] 2 (.one (.sl true 57 2 (encs c57 v2))) ?_
 refine LWp.nil ?_
 cases h
 exact Wp.ret ⟨.inr rfl, _, _, rfl, rfl⟩
set_option maxRecDepth 100000 in
theorem w_toBlock_t (xA : Block) (r : Block) (h : w_toBlock xA = some r) : Gives Try.prog 36 [.sv (.agg [.bool xA.Bad, .int .i64 xA.Wear, .sl false 132 2 (encs c132 xA.Leaves)])] (.agg [.bool r.Bad, .int .i64 r.Wear, .sl true 57 2 (encs c57 r.Leaves)]) (List.replicate 1 .gone) := by
 unfold w_toBlock at h
 refine gives_of Try.func36 rfl ?_
 rw [Try.ntmps36]
 refine Wp.seq ?_
 refine Wp.region ?_
 refine LWp.b [] 1 [.bool xA.Bad, .int .i64 xA.Wear, .sl false 132 2 (encs c132 xA.Leaves)] ?_
 refine LWp.b [] 2 [.bool false, .int .i64 0, .sl true 57 2 (encs c57 [])] ?_
 refine LWp.nil ?_
 refine Wp.seq ?_
 refine Wp.region ?_
 refine LWp.b [] 3 [.bool false, .int .i64 0, .sl true 57 2 (encs c57 [])] ?_
 refine LWp.nil ?_
 refine Wp.seq ?_
 refine Wp.region ?_
 refine LWp.o 4 (.one (.ptr (.box 1) 1 [] 0)) ?_
 refine LWp.o 5 (B xA.Bad) ?_
 refine LWp.o 6 (.one (.ptr (.box 3) 1 [] 0)) ?_
 refine LWp.s [] (.box 3) [.bool xA.Bad, .int .i64 0, .sl true 57 2 (encs c57 [])] ?_
 refine LWp.nil ?_
 refine Wp.seq ?_
 refine Wp.region ?_
 refine LWp.o 7 (.one (.ptr (.box 1) 1 [] 1)) ?_
 refine LWp.o 8 (I xA.Wear) ?_
 refine LWp.o 9 (.one (.ptr (.box 3) 1 [] 1)) ?_
 refine LWp.s [] (.box 3) [.bool xA.Bad, .int .i64 xA.Wear, .sl true 57 2 (encs c57 [])] ?_
 refine LWp.nil ?_
 refine Wp.seq ?_
 refine Wp.region ?_
 refine LWp.o 10 (.one (.ptr (.box 1) 1 [] 2)) ?_
 refine LWp.o 11 (.one (.sl false 132 2 (encs c132 xA.Leaves))) ?_
 refine LWp.cl h 12 (fun v1 => (.one (.sl true 57 2 (encs c57 v1)))) rfl (l := [.sv (.one (.sl false 132 2 (encs c132 xA.Leaves)))]) rfl (fun v hv => w_toLeafS_t xA.Leaves v hv) (.inl rfl) ?_
 intro v1 gv1 h
 refine LWp.o 13 (.one (.ptr (.box 3) 1 [] 2)) ?_
 refine LWp.sb [(.slot 12, [.junk])] (.box 3) [.bool xA.Bad, .int .i64 xA.Wear, .sl true 57 2 (encs c57 v1)] ?_
 refine LWp.nil ?_
 refine Wp.seq ?_
 refine Wp.region ?_
 refine LWp.o 14 (.agg [.bool xA.Bad, .int .i64 xA.Wear, .view (.box 3) 2 [] 2]) ?_
 refine LWp.sb [(.box 3, [.bool xA.Bad, .int .i64 xA.Wear, .junk])] (.box 2) [.bool xA.Bad, .int .i64 xA.Wear, .sl true 57 2 (encs c57 v1)] ?_
 refine LWp.nil ?_
 cases h
 exact Wp.ret ⟨.inr rfl, _, _, rfl, rfl⟩
def c60 (o : Bool) (x : Block) : List TV := [.bool x.Bad, .int .i64 x.Wear, .sl o 57 2 (encs c57 x.Leaves)]
theorem k60 (o : Bool) : ∀ x, (c60 o x).length = 3 := fun _ => rfl
theorem sh60 : ∀ l, shares (encs (c60 true) l) = encs (c60 false) l := shares_encs (fun x => by simp only [c60, shares, share, sh57])
theorem ns60 : ∀ l, hasShareds (encs (c60 true) l) = false := ns_encs (fun x => by simp [c60, hasShareds, hasShared, ns57])
def w_toBlockS_H1 (xA : List Block) (z1 : List Block) (z2 : Int) : St := mkSt [(0, (.one (.sl false 78 3 (encs (c78 false) xA)))), (3, (.one (.sl true 60 3 (encs (c60 true) z1)))), (4, (I z2))] []
def w_toBlockS_H2 (z3 : List Block) : St := mkSt [(3, (.one (.sl true 60 3 (encs (c60 true) z3))))] []
set_option maxRecDepth 100000 in
theorem w_toBlockS_t (xA : List Block) (r : List Block) (h : w_toBlockS xA = some r) : Gives Try.prog 18 [.sv (.one (.sl false 78 3 (encs (c78 false) xA)))] (.one (.sl true 60 3 (encs (c60 true) r))) (List.replicate 1 .gone) := by
 unfold w_toBlockS at h
 refine gives_of Try.func18 rfl ?_
 rw [Try.ntmps18]
 refine Wp.seq ?_
 refine Wp.region ?_
 refine LWp.o 2 (.one (.sl true 60 3 (encs (c60 true) []))) ?_
 refine LWp.nil ?_
 refine Wp.seq ?_
 refine Wp.region ?_
 refine LWp.o 5 (.one (.sl false 78 3 (encs (c78 false) xA))) ?_
 refine LWp.o 6 (I (ln xA)) ?_ (st_pure (p_ln (k78 false) xA))
 refine LWp.p h 7 (fun c1 => (.one (.sl true 60 3 (encs (c60 true) c1)))) ?_ (fun c1 gc1 => s_mk (f := (c60 true)) (Block.mk false 0 []) gc1)
 intro c1 gc1 h
 refine LWp.m true [(.slot 7, [.junk])] 3 (.one (.sl true 60 3 (encs (c60 true) c1))) ?_
 refine LWp.nil ?_
 refine Wp.seq ?_
 refine Wp.seq ?_
 refine Wp.region ?_
 refine LWp.o 4 (I 0) ?_
 refine LWp.nil ?_
 refine Wp.l1 h [0, 3, 4] [] (fun s => (w_toBlockS_H1 xA s.1 s.2)) [3] [] (fun s => (w_toBlockS_H2 s)) ⟨rfl, rfl⟩ ?_ ?_
 · rintro ⟨yOut1, yI1⟩ o (h : w_toBlockS_b1 xA yOut1 yI1 = some o)
   unfold w_toBlockS_b1 at h
   change Wp _ _ _ (w_toBlockS_H1 xA yOut1 yI1) _
   refine Wp.seq ?_
   refine Wp.seq ?_
   refine Wp.region ?_
   refine LWp.o 8 (I yI1) ?_
   refine LWp.o 9 (.one (.sl false 78 3 (encs (c78 false) xA))) ?_
   refine LWp.o 10 (I (ln xA)) ?_ (st_pure (p_ln (k78 false) xA))
   refine LWp.o 11 (B (decide (yI1 < (ln xA)))) ?_
   refine LWp.nil ?_
   refine Wp.c h (fun h => ?_) (fun h => ?_)
   · refine Wp.skip ?_
     refine Wp.seq ?_
     refine Wp.block ?_
     refine Wp.region ?_
     refine LWp.o 14 (.one (.view (.slot 3) 0 [] 0)) ?_
     refine LWp.o 15 (I yI1) ?_
     refine LWp.o 16 (.one (.sl false 78 3 (encs (c78 false) xA))) ?_
     refine LWp.o 17 (I yI1) ?_
     refine LWp.p h 18 (fun _ => (.one (.ptr (.slot 16) 1 [0] (Int.toNat yI1 * 3 + 0)))) ?_ (fun x1 gx1 => st_pure (p_ix (k78 false) (.slot 16) [] 0 gx1))
     intro x1 gx1 h
     refine LWp.o 19 (.agg [.bool x1.Bad, .int .i64 x1.Wear, .sl false 132 2 (encs c132 x1.Leaves)]) ?_ (st_pure (p_le (k78 false) (.slot 16) [0] gx1))
     refine LWp.cl h 20 (fun v1 => (.agg [.bool v1.Bad, .int .i64 v1.Wear, .sl true 57 2 (encs c57 v1.Leaves)])) rfl (l := [.sv (.agg [.bool x1.Bad, .int .i64 x1.Wear, .sl false 132 2 (encs c132 x1.Leaves)])]) rfl (fun v hv => w_toBlock_t x1 v hv) (.inl rfl) ?_
     intro v1 gv1 h
     refine LWp.p h 21 (fun _ => (.one (.ptr (.slot 3) 0 [0] (Int.toNat yI1 * 3 + 0)))) ?_ (fun x2 gx2 => st_pure (p_ix (k60 true) (.slot 3) [] 0 gx2))
     intro x2 gx2 h
     refine LWp.sb [(.slot 20, [.bool v1.Bad, .int .i64 v1.Wear, .junk])] (.slot 3) [.sl true 60 3 (encs (c60 true) (si yOut1 yI1 v1))] ?_ (s_st [(.slot 20, [.bool v1.Bad, .int .i64 v1.Wear, .junk])] (q := [0]) (cs := [.sl true 60 3 (encs (c60 true) yOut1)]) (xs := [.bool v1.Bad, .int .i64 v1.Wear, .sl true 57 2 (encs c57 v1.Leaves)]) (At.one (setRow_gi (k60 true) (k := 0) (z := v1) gx2 rfl rfl)) (fit_gi (k60 true) (k := 0) gx2 rfl))
     refine LWp.nil ?_
     refine Wp.region ?_
     refine LWp.o 12 (I yI1) ?_
     refine LWp.o 13 (I (ad yI1 1)) ?_
     refine LWp.o 4 (I (ad yI1 1)) ?_
     refine LWp.nil ?_
     cases h
     exact ⟨_, rfl, rfl, rfl⟩
   refine Wp.exit ?_
   cases h
   exact ⟨_, rfl, rfl, rfl⟩
 intro v2 h E hE
 refine nt_wp hE ?_
 change Wp _ _ _ (w_toBlockS_H2 v2) _
 refine Wp.seq ?_
 refine Wp.region ?_
 refine LWp.o 22 (.one (.view (.slot 3) 0 [] 0)) ?_
 refine LWp.m true [(.slot 3, [.junk])] 2 (.one (.sl true 60 3 (encs (c60 true) v2))) ?_
 refine LWp.nil ?_
 cases h
 exact Wp.ret ⟨.inr rfl, _, _, rfl, rfl⟩
set_option maxRecDepth 100000 in
theorem w_toFlash_t (xA : Flash) (r : Flash) (h : w_toFlash xA = some r) : Gives Try.prog 7 [.sv (.agg [.sl false 78 3 (encs (c78 false) xA.Blocks)])] (.agg [.sl true 60 3 (encs (c60 true) r.Blocks)]) (List.replicate 1 .gone) := by
 unfold w_toFlash at h
 refine gives_of Try.func7 rfl ?_
 rw [Try.ntmps7]
 refine Wp.seq ?_
 refine Wp.region ?_
 refine LWp.b [] 1 [.sl false 78 3 (encs (c78 false) xA.Blocks)] ?_
 refine LWp.b [] 2 [.sl true 60 3 (encs (c60 true) [])] ?_
 refine LWp.nil ?_
 refine Wp.seq ?_
 refine Wp.region ?_
 refine LWp.b [] 3 [.sl true 60 3 (encs (c60 true) [])] ?_
 refine LWp.nil ?_
 refine Wp.seq ?_
 refine Wp.region ?_
 refine LWp.o 4 (.one (.ptr (.box 1) 1 [] 0)) ?_
 refine LWp.o 5 (.one (.sl false 78 3 (encs (c78 false) xA.Blocks))) ?_
 refine LWp.cl h 6 (fun v1 => (.one (.sl true 60 3 (encs (c60 true) v1)))) rfl (l := [.sv (.one (.sl false 78 3 (encs (c78 false) xA.Blocks)))]) rfl (fun v hv => w_toBlockS_t xA.Blocks v hv) (.inl rfl) ?_
 intro v1 gv1 h
 refine LWp.o 7 (.one (.ptr (.box 3) 1 [] 0)) ?_
 refine LWp.sb [(.slot 6, [.junk])] (.box 3) [.sl true 60 3 (encs (c60 true) v1)] ?_
 refine LWp.nil ?_
 refine Wp.seq ?_
 refine Wp.region ?_
 refine LWp.o 8 (.agg [.view (.box 3) 2 [] 0]) ?_
 refine LWp.sb [(.box 3, [.junk])] (.box 2) [.sl true 60 3 (encs (c60 true) v1)] ?_
 refine LWp.nil ?_
 cases h
 exact Wp.ret ⟨.inr rfl, _, _, rfl, rfl⟩
set_option maxRecDepth 100000 in
theorem w_toVol_t (xA : Vol) (r : Vol) (h : w_toVol xA = some r) : Gives Try.prog 64 [.sv (.agg [.int .i64 xA.Id, .int .i64 xA.Root])] (.agg [.int .i64 r.Id, .int .i64 r.Root]) (List.replicate 1 .gone) := by
 unfold w_toVol at h
 refine gives_of Try.func64 rfl ?_
 rw [Try.ntmps64]
 refine Wp.seq ?_
 refine Wp.region ?_
 refine LWp.b [] 1 [.int .i64 xA.Id, .int .i64 xA.Root] ?_
 refine LWp.b [] 2 [.int .i64 0, .int .i64 0] ?_
 refine LWp.nil ?_
 refine Wp.seq ?_
 refine Wp.region ?_
 refine LWp.b [] 3 [.int .i64 0, .int .i64 0] ?_
 refine LWp.nil ?_
 refine Wp.seq ?_
 refine Wp.region ?_
 refine LWp.o 4 (.one (.ptr (.box 1) 1 [] 0)) ?_
 refine LWp.o 5 (I xA.Id) ?_
 refine LWp.o 6 (.one (.ptr (.box 3) 1 [] 0)) ?_
 refine LWp.s [] (.box 3) [.int .i64 xA.Id, .int .i64 0] ?_
 refine LWp.nil ?_
 refine Wp.seq ?_
 refine Wp.region ?_
 refine LWp.o 7 (.one (.ptr (.box 1) 1 [] 1)) ?_
 refine LWp.o 8 (I xA.Root) ?_
 refine LWp.o 9 (.one (.ptr (.box 3) 1 [] 1)) ?_
 refine LWp.s [] (.box 3) [.int .i64 xA.Id, .int .i64 xA.Root] ?_
 refine LWp.nil ?_
 refine Wp.seq ?_
 refine Wp.region ?_
 refine LWp.o 10 (.agg [.int .i64 xA.Id, .int .i64 xA.Root]) ?_
 refine LWp.s [] (.box 2) [.int .i64 xA.Id, .int .i64 xA.Root] ?_
 refine LWp.nil ?_
 cases h
 exact Wp.ret ⟨.inr rfl, _, _, rfl, rfl⟩
def c114 (x : Vol) : List TV := [.int .i64 x.Id, .int .i64 x.Root]
theorem k114 : ∀ x, (c114 x).length = 2 := fun _ => rfl
theorem sh114 : ∀ l, shares (encs c114 l) = encs c114 l := shares_encs (fun _ => rfl)
theorem ns114 : ∀ l, hasShareds (encs c114 l) = false := ns_encs (fun _ => rfl)
def w_toVolS_H1 (xA : List Vol) (z1 : List Vol) (z2 : Int) : St := mkSt [(0, (.one (.sl false 116 2 (encs c116 xA)))), (3, (.one (.sl true 114 2 (encs c114 z1)))), (4, (I z2))] []
def w_toVolS_H2 (z3 : List Vol) : St := mkSt [(3, (.one (.sl true 114 2 (encs c114 z3))))] []
set_option maxRecDepth 100000 in
theorem w_toVolS_t (xA : List Vol) (r : List Vol) (h : w_toVolS xA = some r) : Gives Try.prog 43 [.sv (.one (.sl false 116 2 (encs c116 xA)))] (.one (.sl true 114 2 (encs c114 r))) (List.replicate 1 .gone) := by
 unfold w_toVolS at h
 refine gives_of Try.func43 rfl ?_
 rw [Try.ntmps43]
 refine Wp.seq ?_
 refine Wp.region ?_
 refine LWp.o 2 (.one (.sl true 114 2 (encs c114 []))) ?_
 refine LWp.nil ?_
 refine Wp.seq ?_
 refine Wp.region ?_
 refine LWp.o 5 (.one (.sl false 116 2 (encs c116 xA))) ?_
 refine LWp.o 6 (I (ln xA)) ?_ (st_pure (p_ln k116 xA))
 refine LWp.p h 7 (fun c1 => (.one (.sl true 114 2 (encs c114 c1)))) ?_ (fun c1 gc1 => s_mk (f := c114) (Vol.mk 0 0) gc1)
 intro c1 gc1 h
 refine LWp.m true [(.slot 7, [.junk])] 3 (.one (.sl true 114 2 (encs c114 c1))) ?_
 refine LWp.nil ?_
 refine Wp.seq ?_
 refine Wp.seq ?_
 refine Wp.region ?_
 refine LWp.o 4 (I 0) ?_
 refine LWp.nil ?_
 refine Wp.l1 h [0, 3, 4] [] (fun s => (w_toVolS_H1 xA s.1 s.2)) [3] [] (fun s => (w_toVolS_H2 s)) ⟨rfl, rfl⟩ ?_ ?_
 · rintro ⟨yOut1, yI1⟩ o (h : w_toVolS_b1 xA yOut1 yI1 = some o)
   unfold w_toVolS_b1 at h
   change Wp _ _ _ (w_toVolS_H1 xA yOut1 yI1) _
   refine Wp.seq ?_
   refine Wp.seq ?_
   refine Wp.region ?_
   refine LWp.o 8 (I yI1) ?_
   refine LWp.o 9 (.one (.sl false 116 2 (encs c116 xA))) ?_
   refine LWp.o 10 (I (ln xA)) ?_ (st_pure (p_ln k116 xA))
   refine LWp.o 11 (B (decide (yI1 < (ln xA)))) ?_
   refine LWp.nil ?_
   refine Wp.c h (fun h => ?_) (fun h => ?_)
   · refine Wp.skip ?_
     refine Wp.seq ?_
     refine Wp.block ?_
     refine Wp.region ?_
     refine LWp.o 14 (.one (.view (.slot 3) 0 [] 0)) ?_
     refine LWp.o 15 (I yI1) ?_
     refine LWp.o 16 (.one (.sl false 116 2 (encs c116 xA))) ?_
     refine LWp.o 17 (I yI1) ?_
     refine LWp.p h 18 (fun _ => (.one (.ptr (.slot 16) 1 [0] (Int.toNat yI1 * 2 + 0)))) ?_ (fun x1 gx1 => st_pure (p_ix k116 (.slot 16) [] 0 gx1))
     intro x1 gx1 h
     refine LWp.o 19 (.agg [.int .i64 x1.Id, .int .i64 x1.Root]) ?_ (st_pure (p_le k116 (.slot 16) [0] gx1))
     refine LWp.cl h 20 (fun v1 => (.agg [.int .i64 v1.Id, .int .i64 v1.Root])) rfl (l := [.sv (.agg [.int .i64 x1.Id, .int .i64 x1.Root])]) rfl (fun v hv => w_toVol_t x1 v hv) (.inl rfl) ?_
     intro v1 gv1 h
     refine LWp.p h 21 (fun _ => (.one (.ptr (.slot 3) 0 [0] (Int.toNat yI1 * 2 + 0)))) ?_ (fun x2 gx2 => st_pure (p_ix k114 (.slot 3) [] 0 gx2))
     intro x2 gx2 h
     refine LWp.sb [] (.slot 3) [.sl true 114 2 (encs c114 (si yOut1 yI1 v1))] ?_ (s_st [] (q := [0]) (cs := [.sl true 114 2 (encs c114 yOut1)]) (xs := [.int .i64 v1.Id, .int .i64 v1.Root]) (At.one (setRow_gi k114 (k := 0) (z := v1) gx2 rfl rfl)) (fit_gi k114 (k := 0) gx2 rfl))
     refine LWp.nil ?_
     refine Wp.region ?_
     refine LWp.o 12 (I yI1) ?_
     refine LWp.o 13 (I (ad yI1 1)) ?_
     refine LWp.o 4 (I (ad yI1 1)) ?_
     refine LWp.nil ?_
     cases h
     exact ⟨_, rfl, rfl, rfl⟩
   refine Wp.exit ?_
   cases h
   exact ⟨_, rfl, rfl, rfl⟩
 intro v2 h E hE
 refine nt_wp hE ?_
 change Wp _ _ _ (w_toVolS_H2 v2) _
 refine Wp.seq ?_
 refine Wp.region ?_
 refine LWp.o 22 (.one (.view (.slot 3) 0 [] 0)) ?_
 refine LWp.m true [(.slot 3, [.junk])] 2 (.one (.sl true 114 2 (encs c114 v2))) ?_
 refine LWp.nil ?_
 cases h
 exact Wp.ret ⟨.inr rfl, _, _, rfl, rfl⟩
def w_toIntS_H1 (xA : List Int) (z1 : List Int) (z2 : Int) : St := mkSt [(0, (.one (.sl false 3 1 (encs c3 xA)))), (3, (.one (.sl true 3 1 (encs c3 z1)))), (4, (I z2))] []
def w_toIntS_H2 (z3 : List Int) : St := mkSt [(3, (.one (.sl true 3 1 (encs c3 z3))))] []
set_option maxRecDepth 100000 in
theorem w_toIntS_t (xA : List Int) (r : List Int) (h : w_toIntS xA = some r) : Gives Try.prog 93 [.sv (.one (.sl false 3 1 (encs c3 xA)))] (.one (.sl true 3 1 (encs c3 r))) (List.replicate 1 .gone) := by
 unfold w_toIntS at h
 refine gives_of Try.func93 rfl ?_
 rw [Try.ntmps93]
 refine Wp.seq ?_
 refine Wp.region ?_
 refine LWp.o 2 (.one (.sl true 3 1 (encs c3 []))) ?_
 refine LWp.nil ?_
 refine Wp.seq ?_
 refine Wp.region ?_
 refine LWp.o 5 (.one (.sl false 3 1 (encs c3 xA))) ?_
 refine LWp.o 6 (I (ln xA)) ?_ (st_pure (p_ln k3 xA))
 refine LWp.p h 7 (fun c1 => (.one (.sl true 3 1 (encs c3 c1)))) ?_ (fun c1 gc1 => s_mk (f := c3) 0 gc1)
 intro c1 gc1 h
 refine LWp.m true [(.slot 7, [.junk])] 3 (.one (.sl true 3 1 (encs c3 c1))) ?_
 refine LWp.nil ?_
 refine Wp.seq ?_
 refine Wp.seq ?_
 refine Wp.region ?_
 refine LWp.o 4 (I 0) ?_
 refine LWp.nil ?_
 refine Wp.l1 h [0, 3, 4] [] (fun s => (w_toIntS_H1 xA s.1 s.2)) [3] [] (fun s => (w_toIntS_H2 s)) ⟨rfl, rfl⟩ ?_ ?_
 · rintro ⟨yOut1, yI1⟩ o (h : w_toIntS_b1 xA yOut1 yI1 = some o)
   unfold w_toIntS_b1 at h
   change Wp _ _ _ (w_toIntS_H1 xA yOut1 yI1) _
   refine Wp.seq ?_
   refine Wp.seq ?_
   refine Wp.region ?_
   refine LWp.o 8 (I yI1) ?_
   refine LWp.o 9 (.one (.sl false 3 1 (encs c3 xA))) ?_
   refine LWp.o 10 (I (ln xA)) ?_ (st_pure (p_ln k3 xA))
   refine LWp.o 11 (B (decide (yI1 < (ln xA)))) ?_
   refine LWp.nil ?_
   refine Wp.c h (fun h => ?_) (fun h => ?_)
   · refine Wp.skip ?_
     refine Wp.seq ?_
     refine Wp.block ?_
     refine Wp.region ?_
     refine LWp.o 14 (.one (.view (.slot 3) 0 [] 0)) ?_
     refine LWp.o 15 (I yI1) ?_
     refine LWp.o 16 (.one (.sl false 3 1 (encs c3 xA))) ?_
     refine LWp.o 17 (I yI1) ?_
     refine LWp.p h 18 (fun _ => (.one (.ptr (.slot 16) 1 [0] (Int.toNat yI1 * 1 + 0)))) ?_ (fun x1 gx1 => st_pure (p_ix k3 (.slot 16) [] 0 gx1))
     intro x1 gx1 h
     refine LWp.o 19 (I x1) ?_ (st_pure (p_lc k3 (.slot 16) [0] 0 (.int .i64 x1) gx1))
     refine LWp.p h 20 (fun _ => (.one (.ptr (.slot 3) 0 [0] (Int.toNat yI1 * 1 + 0)))) ?_ (fun x2 gx2 => st_pure (p_ix k3 (.slot 3) [] 0 gx2))
     intro x2 gx2 h
     refine LWp.sb [] (.slot 3) [.sl true 3 1 (encs c3 (si yOut1 yI1 x1))] ?_ (s_st [] (q := [0]) (cs := [.sl true 3 1 (encs c3 yOut1)]) (xs := [.int .i64 x1]) (At.one (setRow_gi k3 (k := 0) (z := x1) gx2 rfl rfl)) (fit_gi k3 (k := 0) gx2 rfl))
     refine LWp.nil ?_
     refine Wp.region ?_
     refine LWp.o 12 (I yI1) ?_
     refine LWp.o 13 (I (ad yI1 1)) ?_
     refine LWp.o 4 (I (ad yI1 1)) ?_
     refine LWp.nil ?_
     cases h
     exact ⟨_, rfl, rfl, rfl⟩
   refine Wp.exit ?_
   cases h
   exact ⟨_, rfl, rfl, rfl⟩
 intro v1 h E hE
 refine nt_wp hE ?_
 change Wp _ _ _ (w_toIntS_H2 v1) _
 refine Wp.seq ?_
 refine Wp.region ?_
 refine LWp.o 21 (.one (.view (.slot 3) 0 [] 0)) ?_
 refine LWp.m true [(.slot 3, [.junk])] 2 (.one (.sl true 3 1 (encs c3 v1))) ?_
 refine LWp.nil ?_
 cases h
 exact Wp.ret ⟨.inr rfl, _, _, rfl, rfl⟩
set_option maxRecDepth 100000 in
theorem w_toKnot_t (xA : Knot) (r : Knot) (h : w_toKnot xA = some r) : Gives Try.prog 78 [.sv (.agg [.bool xA.Leaf, .sl false 3 1 (encs c3 xA.Kids)])] (.agg [.bool r.Leaf, .sl true 3 1 (encs c3 r.Kids)]) (List.replicate 1 .gone) := by
 unfold w_toKnot at h
 refine gives_of Try.func78 rfl ?_
 rw [Try.ntmps78]
 refine Wp.seq ?_
 refine Wp.region ?_
 refine LWp.b [] 1 [.bool xA.Leaf, .sl false 3 1 (encs c3 xA.Kids)] ?_
 refine LWp.b [] 2 [.bool false, .sl true 3 1 (encs c3 [])] ?_
 refine LWp.nil ?_
 refine Wp.seq ?_
 refine Wp.region ?_
 refine LWp.b [] 3 [.bool false, .sl true 3 1 (encs c3 [])] ?_
 refine LWp.nil ?_
 refine Wp.seq ?_
 refine Wp.region ?_
 refine LWp.o 4 (.one (.ptr (.box 1) 1 [] 0)) ?_
 refine LWp.o 5 (B xA.Leaf) ?_
 refine LWp.o 6 (.one (.ptr (.box 3) 1 [] 0)) ?_
 refine LWp.s [] (.box 3) [.bool xA.Leaf, .sl true 3 1 (encs c3 [])] ?_
 refine LWp.nil ?_
 refine Wp.seq ?_
 refine Wp.region ?_
 refine LWp.o 7 (.one (.ptr (.box 1) 1 [] 1)) ?_
 refine LWp.o 8 (.one (.sl false 3 1 (encs c3 xA.Kids))) ?_
 refine LWp.cl h 9 (fun v1 => (.one (.sl true 3 1 (encs c3 v1)))) rfl (l := [.sv (.one (.sl false 3 1 (encs c3 xA.Kids)))]) rfl (fun v hv => w_toIntS_t xA.Kids v hv) (.inl rfl) ?_
 intro v1 gv1 h
 refine LWp.o 10 (.one (.ptr (.box 3) 1 [] 1)) ?_
 refine LWp.sb [(.slot 9, [.junk])] (.box 3) [.bool xA.Leaf, .sl true 3 1 (encs c3 v1)] ?_
 refine LWp.nil ?_
 refine Wp.seq ?_
 refine Wp.region ?_
 refine LWp.o 11 (.agg [.bool xA.Leaf, .view (.box 3) 2 [] 1]) ?_
 refine LWp.sb [(.box 3, [.bool xA.Leaf, .junk])] (.box 2) [.bool xA.Leaf, .sl true 3 1 (encs c3 v1)] ?_
 refine LWp.nil ?_
 cases h
 exact Wp.ret ⟨.inr rfl, _, _, rfl, rfl⟩
def c142 (o : Bool) (x : Knot) : List TV := [.bool x.Leaf, .sl o 3 1 (encs c3 x.Kids)]
theorem k142 (o : Bool) : ∀ x, (c142 o x).length = 2 := fun _ => rfl
theorem sh142 : ∀ l, shares (encs (c142 true) l) = encs (c142 false) l := shares_encs (fun x => by simp only [c142, shares, share, sh3])
theorem ns142 : ∀ l, hasShareds (encs (c142 true) l) = false := ns_encs (fun x => by simp [c142, hasShareds, hasShared, ns3])
def w_toKnotS_H1 (xA : List Knot) (z1 : List Knot) (z2 : Int) : St := mkSt [(0, (.one (.sl false 141 2 (encs (c141 false) xA)))), (3, (.one (.sl true 142 2 (encs (c142 true) z1)))), (4, (I z2))] []
def w_toKnotS_H2 (z3 : List Knot) : St := mkSt [(3, (.one (.sl true 142 2 (encs (c142 true) z3))))] []
set_option maxRecDepth 100000 in
theorem w_toKnotS_t (xA : List Knot) (r : List Knot) (h : w_toKnotS xA = some r) : Gives Try.prog 65 [.sv (.one (.sl false 141 2 (encs (c141 false) xA)))] (.one (.sl true 142 2 (encs (c142 true) r))) (List.replicate 1 .gone) := by
 unfold w_toKnotS at h
 refine gives_of Try.func65 rfl ?_
 rw [Try.ntmps65]
 refine Wp.seq ?_
 refine Wp.region ?_
 refine LWp.o 2 (.one (.sl true 142 2 (encs (c142 true) []))) ?_
 refine LWp.nil ?_
 refine Wp.seq ?_
 refine Wp.region ?_
 refine LWp.o 5 (.one (.sl false 141 2 (encs (c141 false) xA))) ?_
 refine LWp.o 6 (I (ln xA)) ?_ (st_pure (p_ln (k141 false) xA))
 refine LWp.p h 7 (fun c1 => (.one (.sl true 142 2 (encs (c142 true) c1)))) ?_ (fun c1 gc1 => s_mk (f := (c142 true)) (Knot.mk false []) gc1)
 intro c1 gc1 h
 refine LWp.m true [(.slot 7, [.junk])] 3 (.one (.sl true 142 2 (encs (c142 true) c1))) ?_
 refine LWp.nil ?_
 refine Wp.seq ?_
 refine Wp.seq ?_
 refine Wp.region ?_
 refine LWp.o 4 (I 0) ?_
 refine LWp.nil ?_
 refine Wp.l1 h [0, 3, 4] [] (fun s => (w_toKnotS_H1 xA s.1 s.2)) [3] [] (fun s => (w_toKnotS_H2 s)) ⟨rfl, rfl⟩ ?_ ?_
 · rintro ⟨yOut1, yI1⟩ o (h : w_toKnotS_b1 xA yOut1 yI1 = some o)
   unfold w_toKnotS_b1 at h
   change Wp _ _ _ (w_toKnotS_H1 xA yOut1 yI1) _
   refine Wp.seq ?_
   refine Wp.seq ?_
   refine Wp.region ?_
   refine LWp.o 8 (I yI1) ?_
   refine LWp.o 9 (.one (.sl false 141 2 (encs (c141 false) xA))) ?_
   refine LWp.o 10 (I (ln xA)) ?_ (st_pure (p_ln (k141 false) xA))
   refine LWp.o 11 (B (decide (yI1 < (ln xA)))) ?_
   refine LWp.nil ?_
   refine Wp.c h (fun h => ?_) (fun h => ?_)
   · refine Wp.skip ?_
     refine Wp.seq ?_
     refine Wp.block ?_
     refine Wp.region ?_
     refine LWp.o 14 (.one (.view (.slot 3) 0 [] 0)) ?_
     refine LWp.o 15 (I yI1) ?_
     refine LWp.o 16 (.one (.sl false 141 2 (encs (c141 false) xA))) ?_
     refine LWp.o 17 (I yI1) ?_
     refine LWp.p h 18 (fun _ => (.one (.ptr (.slot 16) 1 [0] (Int.toNat yI1 * 2 + 0)))) ?_ (fun x1 gx1 => st_pure (p_ix (k141 false) (.slot 16) [] 0 gx1))
     intro x1 gx1 h
     refine LWp.o 19 (.agg [.bool x1.Leaf, .sl false 3 1 (encs c3 x1.Kids)]) ?_ (st_pure (p_le (k141 false) (.slot 16) [0] gx1))
     refine LWp.cl h 20 (fun v1 => (.agg [.bool v1.Leaf, .sl true 3 1 (encs c3 v1.Kids)])) rfl (l := [.sv (.agg [.bool x1.Leaf, .sl false 3 1 (encs c3 x1.Kids)])]) rfl (fun v hv => w_toKnot_t x1 v hv) (.inl rfl) ?_
     intro v1 gv1 h
     refine LWp.p h 21 (fun _ => (.one (.ptr (.slot 3) 0 [0] (Int.toNat yI1 * 2 + 0)))) ?_ (fun x2 gx2 => st_pure (p_ix (k142 true) (.slot 3) [] 0 gx2))
     intro x2 gx2 h
     refine LWp.sb [(.slot 20, [.bool v1.Leaf, .junk])] (.slot 3) [.sl true 142 2 (encs (c142 true) (si yOut1 yI1 v1))] ?_ (s_st [(.slot 20, [.bool v1.Leaf, .junk])] (q := [0]) (cs := [.sl true 142 2 (encs (c142 true) yOut1)]) (xs := [.bool v1.Leaf, .sl true 3 1 (encs c3 v1.Kids)]) (At.one (setRow_gi (k142 true) (k := 0) (z := v1) gx2 rfl rfl)) (fit_gi (k142 true) (k := 0) gx2 rfl))
     refine LWp.nil ?_
     refine Wp.region ?_
     refine LWp.o 12 (I yI1) ?_
     refine LWp.o 13 (I (ad yI1 1)) ?_
     refine LWp.o 4 (I (ad yI1 1)) ?_
     refine LWp.nil ?_
     cases h
     exact ⟨_, rfl, rfl, rfl⟩
   refine Wp.exit ?_
   cases h
   exact ⟨_, rfl, rfl, rfl⟩
 intro v2 h E hE
 refine nt_wp hE ?_
 change Wp _ _ _ (w_toKnotS_H2 v2) _
 refine Wp.seq ?_
 refine Wp.region ?_
 refine LWp.o 22 (.one (.view (.slot 3) 0 [] 0)) ?_
 refine LWp.m true [(.slot 3, [.junk])] 2 (.one (.sl true 142 2 (encs (c142 true) v2))) ?_
 refine LWp.nil ?_
 cases h
 exact Wp.ret ⟨.inr rfl, _, _, rfl, rfl⟩
set_option maxRecDepth 100000 in
theorem w_toArena_t (xA : Arena) (r : Arena) (h : w_toArena xA = some r) : Gives Try.prog 44 [.sv (.agg [.sl false 141 2 (encs (c141 false) xA.Knots)])] (.agg [.sl true 142 2 (encs (c142 true) r.Knots)]) (List.replicate 1 .gone) := by
 unfold w_toArena at h
 refine gives_of Try.func44 rfl ?_
 rw [Try.ntmps44]
 refine Wp.seq ?_
 refine Wp.region ?_
 refine LWp.b [] 1 [.sl false 141 2 (encs (c141 false) xA.Knots)] ?_
 refine LWp.b [] 2 [.sl true 142 2 (encs (c142 true) [])] ?_
 refine LWp.nil ?_
 refine Wp.seq ?_
 refine Wp.region ?_
 refine LWp.b [] 3 [.sl true 142 2 (encs (c142 true) [])] ?_
 refine LWp.nil ?_
 refine Wp.seq ?_
 refine Wp.region ?_
 refine LWp.o 4 (.one (.ptr (.box 1) 1 [] 0)) ?_
 refine LWp.o 5 (.one (.sl false 141 2 (encs (c141 false) xA.Knots))) ?_
 refine LWp.cl h 6 (fun v1 => (.one (.sl true 142 2 (encs (c142 true) v1)))) rfl (l := [.sv (.one (.sl false 141 2 (encs (c141 false) xA.Knots)))]) rfl (fun v hv => w_toKnotS_t xA.Knots v hv) (.inl rfl) ?_
 intro v1 gv1 h
 refine LWp.o 7 (.one (.ptr (.box 3) 1 [] 0)) ?_
 refine LWp.sb [(.slot 6, [.junk])] (.box 3) [.sl true 142 2 (encs (c142 true) v1)] ?_
 refine LWp.nil ?_
 refine Wp.seq ?_
 refine Wp.region ?_
 refine LWp.o 8 (.agg [.view (.box 3) 2 [] 0]) ?_
 refine LWp.sb [(.box 3, [.junk])] (.box 2) [.sl true 142 2 (encs (c142 true) v1)] ?_
 refine LWp.nil ?_
 cases h
 exact Wp.ret ⟨.inr rfl, _, _, rfl, rfl⟩
set_option maxRecDepth 100000 in
theorem w_toStore_t (xA : Store) (r : Store) (h : w_toStore xA = some r) : Gives Try.prog 26 [.sv (.agg [.sl false 116 2 (encs c116 xA.Vols), .sl false 141 2 (encs (c141 false) xA.Arena.Knots), .int .i64 xA.Next])] (.agg [.sl true 114 2 (encs c114 r.Vols), .sl true 142 2 (encs (c142 true) r.Arena.Knots), .int .i64 r.Next]) (List.replicate 1 .gone) := by
 unfold w_toStore at h
 refine gives_of Try.func26 rfl ?_
 rw [Try.ntmps26]
 refine Wp.seq ?_
 refine Wp.region ?_
 refine LWp.b [] 1 [.sl false 116 2 (encs c116 xA.Vols), .sl false 141 2 (encs (c141 false) xA.Arena.Knots), .int .i64 xA.Next] ?_
 refine LWp.b [] 2 [.sl true 114 2 (encs c114 []), .sl true 142 2 (encs (c142 true) []), .int .i64 0] ?_
 refine LWp.nil ?_
 refine Wp.seq ?_
 refine Wp.region ?_
 refine LWp.b [] 3 [.sl true 114 2 (encs c114 []), .sl true 142 2 (encs (c142 true) []), .int .i64 0] ?_
 refine LWp.nil ?_
 refine Wp.seq ?_
 refine Wp.region ?_
 refine LWp.o 4 (.one (.ptr (.box 1) 1 [] 0)) ?_
 refine LWp.o 5 (.one (.sl false 116 2 (encs c116 xA.Vols))) ?_
 refine LWp.cl h 6 (fun v1 => (.one (.sl true 114 2 (encs c114 v1)))) rfl (l := [.sv (.one (.sl false 116 2 (encs c116 xA.Vols)))]) rfl (fun v hv => w_toVolS_t xA.Vols v hv) (.inl rfl) ?_
 intro v1 gv1 h
 refine LWp.o 7 (.one (.ptr (.box 3) 1 [] 0)) ?_
 refine LWp.sb [(.slot 6, [.junk])] (.box 3) [.sl true 114 2 (encs c114 v1), .sl true 142 2 (encs (c142 true) []), .int .i64 0] ?_
 refine LWp.nil ?_
 refine Wp.seq ?_
 refine Wp.region ?_
 refine LWp.o 8 (.one (.ptr (.box 1) 1 [] 1)) ?_
 refine LWp.o 9 (.agg [.sl false 141 2 (encs (c141 false) xA.Arena.Knots)]) ?_
 refine LWp.cl h 10 (fun v2 => (.agg [.sl true 142 2 (encs (c142 true) v2.Knots)])) rfl (l := [.sv (.agg [.sl false 141 2 (encs (c141 false) xA.Arena.Knots)])]) rfl (fun v hv => w_toArena_t xA.Arena v hv) (.inl rfl) ?_
 intro v2 gv2 h
 refine LWp.o 11 (.one (.ptr (.box 3) 1 [] 1)) ?_
 refine LWp.sb [(.slot 10, [.junk])] (.box 3) [.sl true 114 2 (encs c114 v1), .sl true 142 2 (encs (c142 true) v2.Knots), .int .i64 0] ?_
 refine LWp.nil ?_
 refine Wp.seq ?_
 refine Wp.region ?_
 refine LWp.o 12 (.one (.ptr (.box 1) 1 [] 2)) ?_
 refine LWp.o 13 (I xA.Next) ?_
 refine LWp.o 14 (.one (.ptr (.box 3) 1 [] 2)) ?_
 refine LWp.s [] (.box 3) [.sl true 114 2 (encs c114 v1), .sl true 142 2 (encs (c142 true) v2.Knots), .int .i64 xA.Next] ?_
 refine LWp.nil ?_
 refine Wp.seq ?_
 refine Wp.region ?_
 refine LWp.o 15 (.agg [.view (.box 3) 3 [] 0, .view (.box 3) 3 [] 1, .int .i64 xA.Next]) ?_
 refine LWp.sb [(.box 3, [.junk, .sl true 142 2 (encs (c142 true) v2.Knots), .int .i64 xA.Next]), (.box 3, [.junk, .junk, .int .i64 xA.Next])] (.box 2) [.sl true 114 2 (encs c114 v1), .sl true 142 2 (encs (c142 true) v2.Knots), .int .i64 xA.Next] ?_
 refine LWp.nil ?_
 cases h
 exact Wp.ret ⟨.inr rfl, _, _, rfl, rfl⟩
set_option maxRecDepth 100000 in
theorem w_toDevice_t (xA : Device) (r : Device) (h : w_toDevice xA = some r) : Gives Try.prog 12 [.sv (.agg [.sl false 78 3 (encs (c78 false) xA.Flash.Blocks), .sl false 116 2 (encs c116 xA.Store.Vols), .sl false 141 2 (encs (c141 false) xA.Store.Arena.Knots), .int .i64 xA.Store.Next, .int .i64 xA.Seq, .int .i64 xA.Tx, .int .i64 xA.Base])] (.agg [.sl true 60 3 (encs (c60 true) r.Flash.Blocks), .sl true 114 2 (encs c114 r.Store.Vols), .sl true 142 2 (encs (c142 true) r.Store.Arena.Knots), .int .i64 r.Store.Next, .int .i64 r.Seq, .int .i64 r.Tx, .int .i64 r.Base]) (List.replicate 1 .gone) := by
 unfold w_toDevice at h
 refine gives_of Try.func12 rfl ?_
 rw [Try.ntmps12]
 refine Wp.seq ?_
 refine Wp.region ?_
 refine LWp.b [] 1 [.sl false 78 3 (encs (c78 false) xA.Flash.Blocks), .sl false 116 2 (encs c116 xA.Store.Vols), .sl false 141 2 (encs (c141 false) xA.Store.Arena.Knots), .int .i64 xA.Store.Next, .int .i64 xA.Seq, .int .i64 xA.Tx, .int .i64 xA.Base] ?_
 refine LWp.b [] 2 [.sl true 60 3 (encs (c60 true) []), .sl true 114 2 (encs c114 []), .sl true 142 2 (encs (c142 true) []), .int .i64 0, .int .i64 0, .int .i64 0, .int .i64 0] ?_
 refine LWp.nil ?_
 refine Wp.seq ?_
 refine Wp.region ?_
 refine LWp.b [] 3 [.sl true 60 3 (encs (c60 true) []), .sl true 114 2 (encs c114 []), .sl true 142 2 (encs (c142 true) []), .int .i64 0, .int .i64 0, .int .i64 0, .int .i64 0] ?_
 refine LWp.nil ?_
 refine Wp.seq ?_
 refine Wp.region ?_
 refine LWp.o 4 (.one (.ptr (.box 1) 1 [] 0)) ?_
 refine LWp.o 5 (.agg [.sl false 78 3 (encs (c78 false) xA.Flash.Blocks)]) ?_
 refine LWp.cl h 6 (fun v1 => (.agg [.sl true 60 3 (encs (c60 true) v1.Blocks)])) rfl (l := [.sv (.agg [.sl false 78 3 (encs (c78 false) xA.Flash.Blocks)])]) rfl (fun v hv => w_toFlash_t xA.Flash v hv) (.inl rfl) ?_
 intro v1 gv1 h
 refine LWp.o 7 (.one (.ptr (.box 3) 1 [] 0)) ?_
 refine LWp.sb [(.slot 6, [.junk])] (.box 3) [.sl true 60 3 (encs (c60 true) v1.Blocks), .sl true 114 2 (encs c114 []), .sl true 142 2 (encs (c142 true) []), .int .i64 0, .int .i64 0, .int .i64 0, .int .i64 0] ?_
 refine LWp.nil ?_
 refine Wp.seq ?_
 refine Wp.region ?_
 refine LWp.o 8 (.one (.ptr (.box 1) 1 [] 1)) ?_
 refine LWp.o 9 (.agg [.sl false 116 2 (encs c116 xA.Store.Vols), .sl false 141 2 (encs (c141 false) xA.Store.Arena.Knots), .int .i64 xA.Store.Next]) ?_
 refine LWp.cl h 10 (fun v2 => (.agg [.sl true 114 2 (encs c114 v2.Vols), .sl true 142 2 (encs (c142 true) v2.Arena.Knots), .int .i64 v2.Next])) rfl (l := [.sv (.agg [.sl false 116 2 (encs c116 xA.Store.Vols), .sl false 141 2 (encs (c141 false) xA.Store.Arena.Knots), .int .i64 xA.Store.Next])]) rfl (fun v hv => w_toStore_t xA.Store v hv) (.inl rfl) ?_
 intro v2 gv2 h
 refine LWp.o 11 (.one (.ptr (.box 3) 1 [] 1)) ?_
 refine LWp.sb [(.slot 10, [.junk, .sl true 142 2 (encs (c142 true) v2.Arena.Knots), .int .i64 v2.Next]), (.slot 10, [.junk, .junk, .int .i64 v2.Next])] (.box 3) [.sl true 60 3 (encs (c60 true) v1.Blocks), .sl true 114 2 (encs c114 v2.Vols), .sl true 142 2 (encs (c142 true) v2.Arena.Knots), .int .i64 v2.Next, .int .i64 0, .int .i64 0, .int .i64 0] ?_
 refine LWp.nil ?_
 refine Wp.seq ?_
 refine Wp.region ?_
 refine LWp.o 12 (.one (.ptr (.box 1) 1 [] 4)) ?_
 refine LWp.o 13 (I xA.Seq) ?_
 refine LWp.o 14 (.one (.ptr (.box 3) 1 [] 4)) ?_
 refine LWp.s [] (.box 3) [.sl true 60 3 (encs (c60 true) v1.Blocks), .sl true 114 2 (encs c114 v2.Vols), .sl true 142 2 (encs (c142 true) v2.Arena.Knots), .int .i64 v2.Next, .int .i64 xA.Seq, .int .i64 0, .int .i64 0] ?_
 refine LWp.nil ?_
 refine Wp.seq ?_
 refine Wp.region ?_
 refine LWp.o 15 (.one (.ptr (.box 1) 1 [] 5)) ?_
 refine LWp.o 16 (I xA.Tx) ?_
 refine LWp.o 17 (.one (.ptr (.box 3) 1 [] 5)) ?_
 refine LWp.s [] (.box 3) [.sl true 60 3 (encs (c60 true) v1.Blocks), .sl true 114 2 (encs c114 v2.Vols), .sl true 142 2 (encs (c142 true) v2.Arena.Knots), .int .i64 v2.Next, .int .i64 xA.Seq, .int .i64 xA.Tx, .int .i64 0] ?_
 refine LWp.nil ?_
 refine Wp.seq ?_
 refine Wp.region ?_
 refine LWp.o 18 (.one (.ptr (.box 1) 1 [] 6)) ?_
 refine LWp.o 19 (I xA.Base) ?_
 refine LWp.o 20 (.one (.ptr (.box 3) 1 [] 6)) ?_
 refine LWp.s [] (.box 3) [.sl true 60 3 (encs (c60 true) v1.Blocks), .sl true 114 2 (encs c114 v2.Vols), .sl true 142 2 (encs (c142 true) v2.Arena.Knots), .int .i64 v2.Next, .int .i64 xA.Seq, .int .i64 xA.Tx, .int .i64 xA.Base] ?_
 refine LWp.nil ?_
 refine Wp.seq ?_
 refine Wp.region ?_
 refine LWp.o 21 (.agg [.view (.box 3) 3 [] 0, .view (.box 3) 3 [] 1, .view (.box 3) 3 [] 2, .int .i64 v2.Next, .int .i64 xA.Seq, .int .i64 xA.Tx, .int .i64 xA.Base]) ?_
 refine LWp.sb [(.box 3, [.junk, .sl true 114 2 (encs c114 v2.Vols), .sl true 142 2 (encs (c142 true) v2.Arena.Knots), .int .i64 v2.Next, .int .i64 xA.Seq, .int .i64 xA.Tx, .int .i64 xA.Base]), (.box 3, [.junk, .junk, .sl true 142 2 (encs (c142 true) v2.Arena.Knots), .int .i64 v2.Next, .int .i64 xA.Seq, .int .i64 xA.Tx, .int .i64 xA.Base]), (.box 3, [.junk, .junk, .junk, .int .i64 v2.Next, .int .i64 xA.Seq, .int .i64 xA.Tx, .int .i64 xA.Base])] (.box 2) [.sl true 60 3 (encs (c60 true) v1.Blocks), .sl true 114 2 (encs c114 v2.Vols), .sl true 142 2 (encs (c142 true) v2.Arena.Knots), .int .i64 v2.Next, .int .i64 xA.Seq, .int .i64 xA.Tx, .int .i64 xA.Base] ?_
 refine LWp.nil ?_
 cases h
 exact Wp.ret ⟨.inr rfl, _, _, rfl, rfl⟩
set_option maxRecDepth 100000 in
theorem s_l01In_t (xX : Int) (xLeast : Int) (xMost : Int) (r : Bool) (h : s_l01In xX xLeast xMost = some r) : Gives Try.prog 23 [.sv (I xX), .sv (I xLeast), .sv (I xMost)] (B r) (List.replicate 3 .gone) := by
 unfold s_l01In at h
 refine gives_of Try.func23 rfl ?_
 rw [Try.ntmps23]
 refine Wp.seq ?_
 refine Wp.region ?_
 refine LWp.o 6 (B false) ?_
 refine LWp.nil ?_
 refine Wp.seq ?_
 refine Wp.region ?_
 refine LWp.o 7 (I xX) ?_
 refine LWp.o 8 (I xLeast) ?_
 refine LWp.o 9 (B (decide (xX ≥ xLeast))) ?_
 refine LWp.o 10 (B (decide (xX ≥ xLeast))) ?_
 refine LWp.sp h 10 (fun h => ?_) (fun h => ?_)
 · refine LWp.o 11 (I xX) ?_
   refine LWp.o 12 (I xMost) ?_
   refine LWp.o 13 (B (decide (xX ≤ xMost))) ?_
   refine LWp.o 14 (B (decide (xX ≤ xMost))) ?_
   refine LWp.o 6 (B (decide (xX ≤ xMost))) ?_
   refine LWp.nil ?_
   cases h
   exact Wp.ret ⟨.inr rfl, _, _, rfl, rfl⟩
 refine LWp.sh 11 ?_
 refine LWp.sh 12 ?_
 refine LWp.sh 13 ?_
 refine LWp.o 14 (B false) ?_
 refine LWp.o 6 (B false) ?_
 refine LWp.nil ?_
 cases h
 exact Wp.ret ⟨.inr rfl, _, _, rfl, rfl⟩
def s_RoomOf_H1 (xF : Flash) (z1 : Int) (z2 : Int) : St := mkSt [(1, (.one (.ptr (.box 1) 0 [] 0))), (3, (I z1)), (4, (I z2))] [(.box 1, [.sl false 60 3 (encs (c60 false) xF.Blocks)])]
def s_RoomOf_H2 (z3 : Int) : St := mkSt [(3, (I z3))] []
def s_RoomOf_H3 (xF : Flash) (yB1 : Int) (z4 : Int) (z5 : Int) : St := mkSt [(1, (.one (.ptr (.box 1) 0 [] 0))), (3, (I z4)), (4, (I yB1)), (5, (I z5))] [(.box 1, [.sl false 60 3 (encs (c60 false) xF.Blocks)])]
def s_RoomOf_H4 (xF : Flash) (yB1 : Int) (z6 : Int) : St := mkSt [(1, (.one (.ptr (.box 1) 0 [] 0))), (3, (I z6)), (4, (I yB1))] [(.box 1, [.sl false 60 3 (encs (c60 false) xF.Blocks)])]
set_option maxRecDepth 100000 in
theorem s_RoomOf_t (xF : Flash) (r : Int) (h : s_RoomOf xF = some r) : Gives Try.prog 24 [.sv (.agg [.sl false 60 3 (encs (c60 false) xF.Blocks)])] (I r) (List.replicate 1 .gone) := by
 unfold s_RoomOf at h
 refine gives_of Try.func24 rfl ?_
 rw [Try.ntmps24]
 refine Wp.seq ?_
 refine Wp.region ?_
 refine LWp.b [] 1 [.sl false 60 3 (encs (c60 false) xF.Blocks)] ?_
 refine LWp.o 2 (I 0) ?_
 refine LWp.nil ?_
 refine Wp.seq ?_
 refine Wp.region ?_
 refine LWp.o 3 (I 0) ?_
 refine LWp.nil ?_
 refine Wp.seq ?_
 refine Wp.seq ?_
 refine Wp.region ?_
 refine LWp.o 4 (I 0) ?_
 refine LWp.nil ?_
 refine Wp.l1 h [1, 3, 4] [.box 1] (fun s => (s_RoomOf_H1 xF s.1 s.2)) [3] [] (fun s => (s_RoomOf_H2 s)) ⟨rfl, rfl⟩ ?_ ?_
 · rintro ⟨yN1, yB1⟩ o (h : s_RoomOf_b1 xF yN1 yB1 = some o)
   unfold s_RoomOf_b1 at h
   change Wp _ _ _ (s_RoomOf_H1 xF yN1 yB1) _
   refine Wp.seq ?_
   refine Wp.seq ?_
   refine Wp.region ?_
   refine LWp.o 6 (I yB1) ?_
   refine LWp.o 7 (.one (.ptr (.box 1) 0 [] 0)) ?_
   refine LWp.o 8 (.one (.sl false 60 3 (encs (c60 false) xF.Blocks))) ?_
   refine LWp.o 9 (I (ln xF.Blocks)) ?_ (st_pure (p_ln (k60 false) xF.Blocks))
   refine LWp.o 10 (B (decide (yB1 < (ln xF.Blocks)))) ?_
   refine LWp.nil ?_
   refine Wp.c h (fun h => ?_) (fun h => ?_)
   · refine Wp.skip ?_
     refine Wp.seq ?_
     refine Wp.block ?_
     refine Wp.seq ?_
     refine Wp.region ?_
     refine LWp.o 5 (I 0) ?_
     refine LWp.nil ?_
     refine Wp.l1 h [1, 3, 4, 5] [.box 1] (fun s => (s_RoomOf_H3 xF yB1 s.1 s.2)) [1, 3, 4] [.box 1] (fun s => (s_RoomOf_H4 xF yB1 s)) ⟨rfl, rfl⟩ ?_ ?_
     · rintro ⟨yN2, yK1⟩ o (h : s_RoomOf_b2 xF yB1 yN2 yK1 = some o)
       unfold s_RoomOf_b2 at h
       change Wp _ _ _ (s_RoomOf_H3 xF yB1 yN2 yK1) _
       refine Wp.seq ?_
       refine Wp.seq ?_
       refine Wp.region ?_
       refine LWp.o 13 (I yK1) ?_
       refine LWp.o 14 (.one (.ptr (.box 1) 0 [] 0)) ?_
       refine LWp.o 15 (.one (.sl false 60 3 (encs (c60 false) xF.Blocks))) ?_
       refine LWp.o 16 (I yB1) ?_
       refine LWp.p h 17 (fun _ => (.one (.ptr (.slot 15) 1 [0] (Int.toNat yB1 * 3 + 0)))) ?_ (fun x1 gx1 => st_pure (p_ix (k60 false) (.slot 15) [] 0 gx1))
       intro x1 gx1 h
       refine LWp.o 18 (.one (.ptr (.slot 15) 1 [0] (Int.toNat yB1 * 3 + 2))) ?_ (st_pure (p_fa (k60 false) (.slot 15) [0] 0 gx1))
       refine LWp.o 19 (.one (.sl false 57 2 (encs c57 x1.Leaves))) ?_ (st_pure (p_lc (k60 false) (.slot 15) [0] 2 (.sl false 57 2 (encs c57 x1.Leaves)) gx1))
       refine LWp.o 20 (I (ln x1.Leaves)) ?_ (st_pure (p_ln k57 x1.Leaves))
       refine LWp.o 21 (B (decide (yK1 < (ln x1.Leaves)))) ?_
       refine LWp.nil ?_
       refine Wp.c h (fun h => ?_) (fun h => ?_)
       · refine Wp.skip ?_
         refine Wp.seq ?_
         refine Wp.block ?_
         refine Wp.seq ?_
         refine Wp.region ?_
         refine LWp.o 24 (.one (.ptr (.box 1) 0 [] 0)) ?_
         refine LWp.o 25 (.one (.sl false 60 3 (encs (c60 false) xF.Blocks))) ?_
         refine LWp.o 26 (I yB1) ?_
         refine LWp.p h 27 (fun _ => (.one (.ptr (.slot 25) 1 [0] (Int.toNat yB1 * 3 + 0)))) ?_ (fun x2 gx2 => st_pure (p_ix (k60 false) (.slot 25) [] 0 gx2))
         intro x2 gx2 h
         refine LWp.o 28 (.one (.ptr (.slot 25) 1 [0] (Int.toNat yB1 * 3 + 0))) ?_ (st_pure (p_fa (k60 false) (.slot 25) [0] 0 gx2))
         refine LWp.o 29 (B x2.Bad) ?_ (st_pure (p_lc (k60 false) (.slot 25) [0] 0 (.bool x2.Bad) gx2))
         refine LWp.o 30 (B (!x2.Bad)) ?_
         refine LWp.o 31 (B (!x2.Bad)) ?_
         refine LWp.sp h 31 (fun h => ?_) (fun h => ?_)
         · refine LWp.o 32 (.one (.ptr (.box 1) 0 [] 0)) ?_
           refine LWp.o 33 (.one (.sl false 60 3 (encs (c60 false) xF.Blocks))) ?_
           refine LWp.o 34 (I yB1) ?_
           refine LWp.p h 35 (fun _ => (.one (.ptr (.slot 33) 1 [0] (Int.toNat yB1 * 3 + 0)))) ?_ (fun x3 gx3 => st_pure (p_ix (k60 false) (.slot 33) [] 0 gx3))
           intro x3 gx3 h
           refine LWp.o 36 (.one (.ptr (.slot 33) 1 [0] (Int.toNat yB1 * 3 + 2))) ?_ (st_pure (p_fa (k60 false) (.slot 33) [0] 0 gx3))
           refine LWp.o 37 (.one (.sl false 57 2 (encs c57 x3.Leaves))) ?_ (st_pure (p_lc (k60 false) (.slot 33) [0] 2 (.sl false 57 2 (encs c57 x3.Leaves)) gx3))
           refine LWp.o 38 (I yK1) ?_
           refine LWp.p h 39 (fun _ => (.one (.ptr (.slot 37) 1 [0] (Int.toNat yK1 * 2 + 0)))) ?_ (fun x4 gx4 => st_pure (p_ix k57 (.slot 37) [] 0 gx4))
           intro x4 gx4 h
           refine LWp.o 40 (.one (.ptr (.slot 37) 1 [0] (Int.toNat yK1 * 2 + 0))) ?_ (st_pure (p_fa k57 (.slot 37) [0] 0 gx4))
           refine LWp.o 41 (I x4.Is) ?_ (st_pure (p_lc k57 (.slot 37) [0] 0 (.int .i64 x4.Is) gx4))
           refine LWp.o 42 (B (x4.Is == 0)) ?_
           refine LWp.o 43 (B (x4.Is == 0)) ?_
           refine LWp.nil ?_
           refine Wp.c h (fun h => ?_) (fun h => ?_)
           · refine Wp.region ?_
             refine LWp.o 44 (I yN2) ?_
             refine LWp.o 45 (I (ad yN2 1)) ?_
             refine LWp.o 3 (I (ad yN2 1)) ?_
             refine LWp.nil ?_
             refine Wp.region ?_
             refine LWp.o 22 (I yK1) ?_
             refine LWp.o 23 (I (ad yK1 1)) ?_
             refine LWp.o 5 (I (ad yK1 1)) ?_
             refine LWp.nil ?_
             cases h
             exact ⟨_, rfl, rfl, rfl⟩
           refine Wp.skip ?_
           refine Wp.region ?_
           refine LWp.o 22 (I yK1) ?_
           refine LWp.o 23 (I (ad yK1 1)) ?_
           refine LWp.o 5 (I (ad yK1 1)) ?_
           refine LWp.nil ?_
           cases h
           exact ⟨_, rfl, rfl, rfl⟩
         refine LWp.sh 32 ?_
         refine LWp.sh 33 ?_
         refine LWp.sh 34 ?_
         refine LWp.sh 35 ?_
         refine LWp.sh 36 ?_
         refine LWp.sh 37 ?_
         refine LWp.sh 38 ?_
         refine LWp.sh 39 ?_
         refine LWp.sh 40 ?_
         refine LWp.sh 41 ?_
         refine LWp.sh 42 ?_
         refine LWp.o 43 (B false) ?_
         refine LWp.nil ?_
         refine Wp.cf ?_
         refine Wp.skip ?_
         refine Wp.region ?_
         refine LWp.o 22 (I yK1) ?_
         refine LWp.o 23 (I (ad yK1 1)) ?_
         refine LWp.o 5 (I (ad yK1 1)) ?_
         refine LWp.nil ?_
         cases h
         exact ⟨_, rfl, rfl, rfl⟩
       refine Wp.exit ?_
       cases h
       exact ⟨_, rfl, rfl, rfl⟩
     intro v1 h E hE
     refine nt_wp hE ?_
     change Wp _ _ _ (s_RoomOf_H4 xF yB1 v1) _
     refine Wp.region ?_
     refine LWp.o 11 (I yB1) ?_
     refine LWp.o 12 (I (ad yB1 1)) ?_
     refine LWp.o 4 (I (ad yB1 1)) ?_
     refine LWp.nil ?_
     cases h
     exact ⟨_, rfl, rfl, rfl⟩
   refine Wp.exit ?_
   cases h
   exact ⟨_, rfl, rfl, rfl⟩
 intro v2 h E hE
 refine nt_wp hE ?_
 change Wp _ _ _ (s_RoomOf_H2 v2) _
 refine Wp.seq ?_
 refine Wp.region ?_
 refine LWp.o 46 (I v2) ?_
 refine LWp.o 2 (I v2) ?_
 refine LWp.nil ?_
 cases h
 exact Wp.ret ⟨.inr rfl, _, _, rfl, rfl⟩
def s_ReadLeaf_H1 (xF : Flash) (xB : Int) (xLeaf : Int) (z1 : Bool) : St := mkSt [(1, (I xB)), (2, (I xLeaf)), (3, (.one (.ptr (.box 3) 0 [] 0))), (40, (B z1))] [(.box 3, [.sl false 60 3 (encs (c60 false) xF.Blocks)])]
set_option maxRecDepth 100000 in
theorem s_ReadLeaf_t (xF : Flash) (xB : Int) (xLeaf : Int) (r : ByteArray × Bool) (h : s_ReadLeaf xF xB xLeaf = some r) : Gives Try.prog 42 [.sv (.agg [.sl false 60 3 (encs (c60 false) xF.Blocks)]), .sv (I xB), .sv (I xLeaf)] (.tup [(Y r.1), (B r.2)]) (List.replicate 3 .gone) := by
 unfold s_ReadLeaf at h
 refine gives_of Try.func42 rfl ?_
 rw [Try.ntmps42]
 refine Wp.seq ?_
 refine Wp.region ?_
 refine LWp.b [] 3 [.sl false 60 3 (encs (c60 false) xF.Blocks)] ?_
 refine LWp.o 6 (Y (bs [])) ?_
 refine LWp.o 7 (B false) ?_
 refine LWp.nil ?_
 refine Wp.seq ?_
 refine Wp.seq ?_
 refine Wp.j1 h [1, 2, 3, 40] [.box 3] (fun a => (s_ReadLeaf_H1 xF xB xLeaf a)) ?_ ?_
 · intro a h
   refine Wp.region ?_
   refine LWp.o 8 (I xB) ?_
   refine LWp.o 9 (.one (.ptr (.box 3) 1 [] 0)) ?_
   refine LWp.o 10 (.one (.sl false 60 3 (encs (c60 false) xF.Blocks))) ?_
   refine LWp.o 11 (I (ln xF.Blocks)) ?_ (st_pure (p_ln (k60 false) xF.Blocks))
   refine LWp.o 12 (I (sb (ln xF.Blocks) 1)) ?_
   refine LWp.cl h 13 (fun v1 => (B v1)) rfl (l := [.sv (.one (.int .i64 xB)), .sv (.one (.int .i64 0)), .sv (.one (.int .i64 (sb (ln xF.Blocks) 1)))]) rfl (fun v hv => s_l01In_t xB 0 (sb (ln xF.Blocks) 1) v hv) (.inl rfl) ?_
   intro v1 gv1 h
   refine LWp.o 14 (B (!v1)) ?_
   refine LWp.o 15 (B (!v1)) ?_
   refine LWp.sp h 15 (fun h => ?_) (fun h => ?_)
   · refine LWp.sh 16 ?_
     refine LWp.sh 17 ?_
     refine LWp.sh 18 ?_
     refine LWp.sh 19 ?_
     refine LWp.sh 20 ?_
     refine LWp.sh 21 ?_
     refine LWp.sh 22 ?_
     refine LWp.sh 23 ?_
     refine LWp.sh 24 ?_
     refine LWp.sh 25 ?_
     refine LWp.sh 26 ?_
     refine LWp.o 27 (B true) ?_
     refine LWp.o 28 (B true) ?_
     refine LWp.sh 29 ?_
     refine LWp.sh 30 ?_
     refine LWp.sh 31 ?_
     refine LWp.sh 32 ?_
     refine LWp.sh 33 ?_
     refine LWp.sh 34 ?_
     refine LWp.sh 35 ?_
     refine LWp.sh 36 ?_
     refine LWp.sh 37 ?_
     refine LWp.sh 38 ?_
     refine LWp.sh 39 ?_
     refine LWp.o 40 (B true) ?_
     refine LWp.nil ?_
     cases h
     exact ⟨_, rfl, rfl, rfl⟩
   refine LWp.o 16 (I xLeaf) ?_
   refine LWp.o 17 (.one (.ptr (.box 3) 1 [] 0)) ?_
   refine LWp.o 18 (.one (.sl false 60 3 (encs (c60 false) xF.Blocks))) ?_
   refine LWp.o 19 (I xB) ?_
   refine LWp.p h 20 (fun _ => (.one (.ptr (.slot 18) 1 [0] (Int.toNat xB * 3 + 0)))) ?_ (fun x1 gx1 => st_pure (p_ix (k60 false) (.slot 18) [] 0 gx1))
   intro x1 gx1 h
   refine LWp.o 21 (.one (.ptr (.slot 18) 1 [0] (Int.toNat xB * 3 + 2))) ?_ (st_pure (p_fa (k60 false) (.slot 18) [0] 0 gx1))
   refine LWp.o 22 (.one (.sl false 57 2 (encs c57 x1.Leaves))) ?_ (st_pure (p_lc (k60 false) (.slot 18) [0] 2 (.sl false 57 2 (encs c57 x1.Leaves)) gx1))
   refine LWp.o 23 (I (ln x1.Leaves)) ?_ (st_pure (p_ln k57 x1.Leaves))
   refine LWp.o 24 (I (sb (ln x1.Leaves) 1)) ?_
   refine LWp.cl h 25 (fun v2 => (B v2)) rfl (l := [.sv (.one (.int .i64 xLeaf)), .sv (.one (.int .i64 0)), .sv (.one (.int .i64 (sb (ln x1.Leaves) 1)))]) rfl (fun v hv => s_l01In_t xLeaf 0 (sb (ln x1.Leaves) 1) v hv) (.inl rfl) ?_
   intro v2 gv2 h
   refine LWp.o 26 (B (!v2)) ?_
   refine LWp.o 27 (B (!v2)) ?_
   refine LWp.o 28 (B (!v2)) ?_
   refine LWp.sp h 28 (fun h => ?_) (fun h => ?_)
   · refine LWp.sh 29 ?_
     refine LWp.sh 30 ?_
     refine LWp.sh 31 ?_
     refine LWp.sh 32 ?_
     refine LWp.sh 33 ?_
     refine LWp.sh 34 ?_
     refine LWp.sh 35 ?_
     refine LWp.sh 36 ?_
     refine LWp.sh 37 ?_
     refine LWp.sh 38 ?_
     refine LWp.sh 39 ?_
     refine LWp.o 40 (B true) ?_
     refine LWp.nil ?_
     cases h
     exact ⟨_, rfl, rfl, rfl⟩
   refine LWp.o 29 (.one (.ptr (.box 3) 1 [] 0)) ?_
   refine LWp.o 30 (.one (.sl false 60 3 (encs (c60 false) xF.Blocks))) ?_
   refine LWp.o 31 (I xB) ?_
   refine LWp.p h 32 (fun _ => (.one (.ptr (.slot 30) 1 [0] (Int.toNat xB * 3 + 0)))) ?_ (fun x2 gx2 => st_pure (p_ix (k60 false) (.slot 30) [] 0 gx2))
   intro x2 gx2 h
   refine LWp.o 33 (.one (.ptr (.slot 30) 1 [0] (Int.toNat xB * 3 + 2))) ?_ (st_pure (p_fa (k60 false) (.slot 30) [0] 0 gx2))
   refine LWp.o 34 (.one (.sl false 57 2 (encs c57 x2.Leaves))) ?_ (st_pure (p_lc (k60 false) (.slot 30) [0] 2 (.sl false 57 2 (encs c57 x2.Leaves)) gx2))
   refine LWp.o 35 (I xLeaf) ?_
   refine LWp.p h 36 (fun _ => (.one (.ptr (.slot 34) 1 [0] (Int.toNat xLeaf * 2 + 0)))) ?_ (fun x3 gx3 => st_pure (p_ix k57 (.slot 34) [] 0 gx3))
   intro x3 gx3 h
   refine LWp.o 37 (.one (.ptr (.slot 34) 1 [0] (Int.toNat xLeaf * 2 + 0))) ?_ (st_pure (p_fa k57 (.slot 34) [0] 0 gx3))
   refine LWp.o 38 (I x3.Is) ?_ (st_pure (p_lc k57 (.slot 34) [0] 0 (.int .i64 x3.Is) gx3))
   refine LWp.o 39 (B (x3.Is != 1)) ?_
   refine LWp.o 40 (B (x3.Is != 1)) ?_
   refine LWp.nil ?_
   cases h
   exact ⟨_, rfl, rfl, rfl⟩
 intro j1 h E hE
 refine nt_wp hE ?_
 change Wp _ _ _ (s_ReadLeaf_H1 xF xB xLeaf j1) _
 refine Wp.c h (fun h => ?_) (fun h => ?_)
 · refine Wp.seq ?_
   refine Wp.region ?_
   refine LWp.o 6 (Y (bs [])) ?_
   refine LWp.o 7 (B false) ?_
   refine LWp.nil ?_
   cases h
   exact Wp.ret ⟨.inr rfl, _, _, rfl, rfl⟩
 refine Wp.skip ?_
 refine Wp.seq ?_
 refine Wp.region ?_
 refine LWp.o 41 (.one (.ptr (.box 3) 0 [] 0)) ?_
 refine LWp.o 42 (.one (.sl false 60 3 (encs (c60 false) xF.Blocks))) ?_
 refine LWp.o 43 (I xB) ?_
 refine LWp.p h 44 (fun _ => (.one (.ptr (.slot 42) 1 [0] (Int.toNat xB * 3 + 0)))) ?_ (fun x4 gx4 => st_pure (p_ix (k60 false) (.slot 42) [] 0 gx4))
 intro x4 gx4 h
 refine LWp.o 45 (.one (.ptr (.slot 42) 1 [0] (Int.toNat xB * 3 + 2))) ?_ (st_pure (p_fa (k60 false) (.slot 42) [0] 0 gx4))
 refine LWp.o 46 (.one (.sl false 57 2 (encs c57 x4.Leaves))) ?_ (st_pure (p_lc (k60 false) (.slot 42) [0] 2 (.sl false 57 2 (encs c57 x4.Leaves)) gx4))
 refine LWp.o 47 (I xLeaf) ?_
 refine LWp.p h 48 (fun _ => (.one (.ptr (.slot 46) 1 [0] (Int.toNat xLeaf * 2 + 0)))) ?_ (fun x5 gx5 => st_pure (p_ix k57 (.slot 46) [] 0 gx5))
 intro x5 gx5 h
 refine LWp.o 49 (.one (.ptr (.slot 46) 1 [0] (Int.toNat xLeaf * 2 + 1))) ?_ (st_pure (p_fa k57 (.slot 46) [0] 0 gx5))
 refine LWp.o 50 (Y x5.Text) ?_ (st_pure (p_lc k57 (.slot 46) [0] 1 (.str x5.Text) gx5))
 refine LWp.o 6 (Y x5.Text) ?_
 refine LWp.o 7 (B true) ?_
 refine LWp.nil ?_
 cases h
 exact Wp.ret ⟨.inr rfl, _, _, rfl, rfl⟩
def s_SumMore_H1 (xText : ByteArray) (z1 : Int) (z2 : Int) : St := mkSt [(0, (.one (.int .u32 z1))), (1, (Y xText)), (5, (I z2))] []
def s_SumMore_H2 (z3 : Int) : St := mkSt [(0, (.one (.int .u32 z3)))] []
def s_SumMore_H3 (xText : ByteArray) (yI1 : Int) (z4 : Int) (z5 : Int) : St := mkSt [(0, (.one (.int .u32 z4))), (1, (Y xText)), (5, (I yI1)), (6, (I z5))] []
def s_SumMore_H4 (xText : ByteArray) (yI1 : Int) (z6 : Int) : St := mkSt [(0, (.one (.int .u32 z6))), (1, (Y xText)), (5, (I yI1))] []
set_option maxRecDepth 100000 in
theorem s_SumMore_t (xSum : Int) (xText : ByteArray) (r : Int) (h : s_SumMore xSum xText = some r) : Gives Try.prog 73 [.sv (.one (.int .u32 xSum)), .sv (Y xText)] (.one (.int .u32 r)) (List.replicate 2 .gone) := by
 unfold s_SumMore at h
 refine gives_of Try.func73 rfl ?_
 rw [Try.ntmps73]
 refine Wp.seq ?_
 refine Wp.region ?_
 refine LWp.o 4 (.one (.int .u32 0)) ?_
 refine LWp.nil ?_
 refine Wp.seq ?_
 refine Wp.seq ?_
 refine Wp.region ?_
 refine LWp.o 5 (I 0) ?_
 refine LWp.nil ?_
 refine Wp.l1 h [0, 1, 5] [] (fun s => (s_SumMore_H1 xText s.1 s.2)) [0] [] (fun s => (s_SumMore_H2 s)) ⟨rfl, rfl⟩ ?_ ?_
 · rintro ⟨ySum1, yI1⟩ o (h : s_SumMore_b1 xText ySum1 yI1 = some o)
   unfold s_SumMore_b1 at h
   change Wp _ _ _ (s_SumMore_H1 xText ySum1 yI1) _
   refine Wp.seq ?_
   refine Wp.seq ?_
   refine Wp.region ?_
   refine LWp.o 8 (I yI1) ?_
   refine LWp.o 9 (Y xText) ?_
   refine LWp.o 10 (I (sln xText)) ?_
   refine LWp.o 11 (B (decide (yI1 < (sln xText)))) ?_
   refine LWp.nil ?_
   refine Wp.c h (fun h => ?_) (fun h => ?_)
   · refine Wp.skip ?_
     refine Wp.seq ?_
     refine Wp.block ?_
     refine Wp.seq ?_
     refine Wp.region ?_
     refine LWp.o 14 (.one (.int .u32 ySum1)) ?_
     refine LWp.o 15 (Y xText) ?_
     refine LWp.o 16 (I yI1) ?_
     refine LWp.p h 17 (fun x1 => (.one (.int .u8 x1))) ?_ (fun x1 gx1 => st_pure (p_sx gx1))
     intro x1 gx1 h
     refine LWp.o 18 (.one (.int .u32 (IntKind.u32.wrap x1))) ?_
     refine LWp.o 19 (.one (.int .u32 (xr ySum1 (IntKind.u32.wrap x1)))) ?_
     refine LWp.o 0 (.one (.int .u32 (xr ySum1 (IntKind.u32.wrap x1)))) ?_
     refine LWp.nil ?_
     refine Wp.seq ?_
     refine Wp.region ?_
     refine LWp.o 6 (I 0) ?_
     refine LWp.nil ?_
     refine Wp.l1 h [0, 1, 5, 6] [] (fun s => (s_SumMore_H3 xText yI1 s.1 s.2)) [0, 1, 5] [] (fun s => (s_SumMore_H4 xText yI1 s)) ⟨rfl, rfl⟩ ?_ ?_
     · rintro ⟨ySum2, yK1⟩ o (h : s_SumMore_b2 ySum2 yK1 = some o)
       unfold s_SumMore_b2 at h
       change Wp _ _ _ (s_SumMore_H3 xText yI1 ySum2 yK1) _
       refine Wp.seq ?_
       refine Wp.seq ?_
       refine Wp.region ?_
       refine LWp.o 20 (I yK1) ?_
       refine LWp.o 21 (B (decide (yK1 < 8))) ?_
       refine LWp.nil ?_
       refine Wp.c h (fun h => ?_) (fun h => ?_)
       · refine Wp.skip ?_
         refine Wp.seq ?_
         refine Wp.block ?_
         refine Wp.seq ?_
         refine Wp.region ?_
         refine LWp.o 24 (.one (.int .u32 ySum2)) ?_
         refine LWp.o 25 (.one (.int .u32 (Int.tmod ySum2 2))) ?_
         refine LWp.o 26 (B ((Int.tmod ySum2 2) == 1)) ?_
         refine LWp.o 7 (B ((Int.tmod ySum2 2) == 1)) ?_
         refine LWp.nil ?_
         refine Wp.seq ?_
         refine Wp.region ?_
         refine LWp.o 27 (.one (.int .u32 ySum2)) ?_
         refine LWp.o 28 (.one (.int .u32 (IntKind.u32.wrap (Int.tdiv ySum2 2)))) ?_
         refine LWp.o 0 (.one (.int .u32 (IntKind.u32.wrap (Int.tdiv ySum2 2)))) ?_
         refine LWp.nil ?_
         refine Wp.seq ?_
         refine Wp.region ?_
         refine LWp.o 29 (B ((Int.tmod ySum2 2) == 1)) ?_
         refine LWp.nil ?_
         refine Wp.c h (fun h => ?_) (fun h => ?_)
         · refine Wp.region ?_
           refine LWp.o 30 (.one (.int .u32 (IntKind.u32.wrap (Int.tdiv ySum2 2)))) ?_
           refine LWp.o 31 (.one (.int .u32 (xr (IntKind.u32.wrap (Int.tdiv ySum2 2)) 3558460437))) ?_
           refine LWp.o 0 (.one (.int .u32 (xr (IntKind.u32.wrap (Int.tdiv ySum2 2)) 3558460437))) ?_
           refine LWp.nil ?_
           refine Wp.region ?_
           refine LWp.o 22 (I yK1) ?_
           refine LWp.o 23 (I (ad yK1 1)) ?_
           refine LWp.o 6 (I (ad yK1 1)) ?_
           refine LWp.nil ?_
           cases h
           exact ⟨_, rfl, rfl, rfl⟩
         refine Wp.skip ?_
         refine Wp.region ?_
         refine LWp.o 22 (I yK1) ?_
         refine LWp.o 23 (I (ad yK1 1)) ?_
         refine LWp.o 6 (I (ad yK1 1)) ?_
         refine LWp.nil ?_
         cases h
         exact ⟨_, rfl, rfl, rfl⟩
       refine Wp.exit ?_
       cases h
       exact ⟨_, rfl, rfl, rfl⟩
     intro v1 h E hE
     refine nt_wp hE ?_
     change Wp _ _ _ (s_SumMore_H4 xText yI1 v1) _
     refine Wp.region ?_
     refine LWp.o 12 (I yI1) ?_
     refine LWp.o 13 (I (ad yI1 1)) ?_
     refine LWp.o 5 (I (ad yI1 1)) ?_
     refine LWp.nil ?_
     cases h
     exact ⟨_, rfl, rfl, rfl⟩
   refine Wp.exit ?_
   cases h
   exact ⟨_, rfl, rfl, rfl⟩
 intro v2 h E hE
 refine nt_wp hE ?_
 change Wp _ _ _ (s_SumMore_H2 v2) _
 refine Wp.seq ?_
 refine Wp.region ?_
 refine LWp.o 32 (.one (.int .u32 v2)) ?_
 refine LWp.o 4 (.one (.int .u32 v2)) ?_
 refine LWp.nil ?_
 cases h
 exact Wp.ret ⟨.inr rfl, _, _, rfl, rfl⟩
set_option maxRecDepth 100000 in
theorem s_SumOf_t (xText : ByteArray) (r : Int) (h : s_SumOf xText = some r) : Gives Try.prog 52 [.sv (Y xText)] (.one (.int .u32 r)) (List.replicate 1 .gone) := by
 unfold s_SumOf at h
 refine gives_of Try.func52 rfl ?_
 rw [Try.ntmps52]
 refine Wp.seq ?_
 refine Wp.region ?_
 refine LWp.o 2 (.one (.int .u32 0)) ?_
 refine LWp.nil ?_
 refine Wp.seq ?_
 refine Wp.region ?_
 refine LWp.o 3 (Y xText) ?_
 refine LWp.cl h 4 (fun v1 => (.one (.int .u32 v1))) rfl (l := [.sv (.one (.int .u32 4294967295)), .sv (.one (.str xText))]) rfl (fun v hv => s_SumMore_t 4294967295 xText v hv) (.inl rfl) ?_
 intro v1 gv1 h
 refine LWp.o 2 (.one (.int .u32 v1)) ?_
 refine LWp.nil ?_
 cases h
 exact Wp.ret ⟨.inr rfl, _, _, rfl, rfl⟩
def c5 (x : Int) : List TV := [.int .u8 x]
theorem k5 : ∀ x, (c5 x).length = 1 := fun _ => rfl
theorem sh5 : ∀ l, shares (encs c5 l) = encs c5 l := shares_encs (fun _ => rfl)
theorem ns5 : ∀ l, hasShareds (encs c5 l) = false := ns_encs (fun _ => rfl)
set_option maxRecDepth 100000 in
theorem s_l02Four_t (xX : Int) (r : ByteArray) (h : s_l02Four xX = some r) : Gives Try.prog 51 [.sv (.one (.int .u32 xX))] (Y r) (List.replicate 1 .gone) := by
 unfold s_l02Four at h
 refine gives_of Try.func51 rfl ?_
 rw [Try.ntmps51]
 refine Wp.seq ?_
 refine Wp.region ?_
 refine LWp.o 2 (Y (bs [])) ?_
 refine LWp.nil ?_
 refine Wp.seq ?_
 refine Wp.region ?_
 refine LWp.o 3 (.one (.int .u32 xX)) ?_
 refine LWp.o 4 (.one (.int .u32 (Int.fdiv xX (2 ^ (min (24 : Int).toNat IntKind.u32.bits))))) ?_
 refine LWp.o 5 (.one (.int .u8 (IntKind.u8.wrap (Int.fdiv xX (2 ^ (min (24 : Int).toNat IntKind.u32.bits)))))) ?_
 refine LWp.o 6 (.one (.int .u32 xX)) ?_
 refine LWp.o 7 (.one (.int .u32 (Int.fdiv xX (2 ^ (min (16 : Int).toNat IntKind.u32.bits))))) ?_
 refine LWp.o 8 (.one (.int .u8 (IntKind.u8.wrap (Int.fdiv xX (2 ^ (min (16 : Int).toNat IntKind.u32.bits)))))) ?_
 refine LWp.o 9 (.one (.int .u32 xX)) ?_
 refine LWp.o 10 (.one (.int .u32 (Int.fdiv xX (2 ^ (min (8 : Int).toNat IntKind.u32.bits))))) ?_
 refine LWp.o 11 (.one (.int .u8 (IntKind.u8.wrap (Int.fdiv xX (2 ^ (min (8 : Int).toNat IntKind.u32.bits)))))) ?_
 refine LWp.o 12 (.one (.int .u32 xX)) ?_
 refine LWp.o 13 (.one (.int .u8 (IntKind.u8.wrap xX))) ?_
 refine LWp.m false [] 14 (.one (.sl true 5 1 (encs c5 [(IntKind.u8.wrap (Int.fdiv xX (2 ^ (min (24 : Int).toNat IntKind.u32.bits)))), (IntKind.u8.wrap (Int.fdiv xX (2 ^ (min (16 : Int).toNat IntKind.u32.bits)))), (IntKind.u8.wrap (Int.fdiv xX (2 ^ (min (8 : Int).toNat IntKind.u32.bits)))), (IntKind.u8.wrap xX)]))) ?_
 refine LWp.o 15 (Y (strB [(IntKind.u8.wrap (Int.fdiv xX (2 ^ (min (24 : Int).toNat IntKind.u32.bits)))), (IntKind.u8.wrap (Int.fdiv xX (2 ^ (min (16 : Int).toNat IntKind.u32.bits)))), (IntKind.u8.wrap (Int.fdiv xX (2 ^ (min (8 : Int).toNat IntKind.u32.bits)))), (IntKind.u8.wrap xX)])) ?_ (st_pure (p_cv (fun _ => rfl) [(IntKind.u8.wrap (Int.fdiv xX (2 ^ (min (24 : Int).toNat IntKind.u32.bits)))), (IntKind.u8.wrap (Int.fdiv xX (2 ^ (min (16 : Int).toNat IntKind.u32.bits)))), (IntKind.u8.wrap (Int.fdiv xX (2 ^ (min (8 : Int).toNat IntKind.u32.bits)))), (IntKind.u8.wrap xX)]))
 refine LWp.o 2 (Y (strB [(IntKind.u8.wrap (Int.fdiv xX (2 ^ (min (24 : Int).toNat IntKind.u32.bits)))), (IntKind.u8.wrap (Int.fdiv xX (2 ^ (min (16 : Int).toNat IntKind.u32.bits)))), (IntKind.u8.wrap (Int.fdiv xX (2 ^ (min (8 : Int).toNat IntKind.u32.bits)))), (IntKind.u8.wrap xX)])) ?_
 refine LWp.nil ?_
 cases h
 exact Wp.ret ⟨.inr rfl, _, _, rfl, rfl⟩
def s_Unsealed_H1 (xText : ByteArray) (z1 : Bool) : St := mkSt [(0, (Y xText)), (4, (I (sb (sln xText) 4))), (24, (B z1))] []
set_option maxRecDepth 100000 in
theorem s_Unsealed_t (xText : ByteArray) (r : ByteArray × Bool) (h : s_Unsealed xText = some r) : Gives Try.prog 33 [.sv (Y xText)] (.tup [(Y r.1), (B r.2)]) (List.replicate 1 .gone) := by
 unfold s_Unsealed at h
 refine gives_of Try.func33 rfl ?_
 rw [Try.ntmps33]
 refine Wp.seq ?_
 refine Wp.region ?_
 refine LWp.o 2 (Y (bs [])) ?_
 refine LWp.o 3 (B false) ?_
 refine LWp.nil ?_
 refine Wp.seq ?_
 refine Wp.region ?_
 refine LWp.o 5 (Y xText) ?_
 refine LWp.o 6 (I (sln xText)) ?_
 refine LWp.o 7 (I (sb (sln xText) 4)) ?_
 refine LWp.o 4 (I (sb (sln xText) 4)) ?_
 refine LWp.nil ?_
 refine Wp.seq ?_
 refine Wp.seq ?_
 refine Wp.j1 h [0, 4, 24] [] (fun a => (s_Unsealed_H1 xText a)) ?_ ?_
 · intro a h
   refine Wp.regionK 17 [] mixed (fun c E h => by rcases h with ⟨h | h, _⟩ <;> cases h) ?_
   refine KWp.o 17 0 8 (I (sb (sln xText) 4)) ?_
   refine KWp.o 17 1 9 (B (decide ((sb (sln xText) 4) < 0))) ?_
   refine KWp.o 17 2 10 (B (decide ((sb (sln xText) 4) < 0))) ?_
   refine KWp.sp h 10 (fun h => ?_) (fun h => ?_)
   · refine KWp.sh 17 3 11 ?_
     refine KWp.sh 17 4 12 ?_
     refine KWp.o 17 5 13 (B true) ?_
     refine KWp.o 17 6 14 (B true) ?_
     refine KWp.sh 17 7 15 ?_
     refine KWp.sh 17 8 16 ?_
     refine KWp.sh 17 9 17 ?_
     refine KWp.sh 17 10 18 ?_
     refine KWp.sh 17 11 19 ?_
     refine KWp.sh 17 12 20 ?_
     refine KWp.sh 17 13 21 ?_
     refine KWp.sh 17 14 22 ?_
     refine KWp.sh 17 15 23 ?_
     refine KWp.o 17 16 24 (B true) ?_
     refine KWp.done ?_
     cases h
     exact ⟨_, rfl, rfl, rfl⟩
   refine KWp.o 17 3 11 (I (sb (sln xText) 4)) ?_
   refine KWp.o 17 4 12 (B (decide ((sb (sln xText) 4) > 20000))) ?_
   refine KWp.o 17 5 13 (B (decide ((sb (sln xText) 4) > 20000))) ?_
   refine KWp.o 17 6 14 (B (decide ((sb (sln xText) 4) > 20000))) ?_
   refine KWp.sp h 14 (fun h => ?_) (fun h => ?_)
   · refine KWp.sh 17 7 15 ?_
     refine KWp.sh 17 8 16 ?_
     refine KWp.sh 17 9 17 ?_
     refine KWp.sh 17 10 18 ?_
     refine KWp.sh 17 11 19 ?_
     refine KWp.sh 17 12 20 ?_
     refine KWp.sh 17 13 21 ?_
     refine KWp.sh 17 14 22 ?_
     refine KWp.sh 17 15 23 ?_
     refine KWp.o 17 16 24 (B true) ?_
     refine KWp.done ?_
     cases h
     exact ⟨_, rfl, rfl, rfl⟩
   refine KWp.o 17 7 15 (Y xText) ?_
   refine KWp.o 17 8 16 (I (sb (sln xText) 4)) ?_
   refine KWp.p h 17 9 17 (fun x1 => (Y x1)) ?_ rfl (fun x1 gx1 => sl_pure (p_sub gx1))
   intro x1 gx1 h
   refine KWp.o 17 10 18 (Y xText) ?_
   refine KWp.o 17 11 19 (I (sb (sln xText) 4)) ?_
   refine KWp.p h 17 12 20 (fun x2 => (Y x2)) ?_ rfl (fun x2 gx2 => sl_pure (p_sub gx2))
   intro x2 gx2 h
   refine KWp.w1 13 ?_
   refine KOp.cl h 13 21 (fun v1 => (.one (.int .u32 v1))) rfl rfl (l := [.sv (.one (.str x2))]) rfl (fun v hv => s_SumOf_t x2 v hv) (.inl rfl) ?_
   intro v1 gv1 h
   refine KWp.w1 14 ?_
   refine KOp.cl h 14 22 (fun v2 => (Y v2)) rfl rfl (l := [.sv (.one (.int .u32 v1))]) rfl (fun v hv => s_l02Four_t v1 v hv) (.inl rfl) ?_
   intro v2 gv2 h
   refine KWp.o 17 15 23 (B (!(seq x1 v2))) ?_
   refine KWp.o 17 16 24 (B (!(seq x1 v2))) ?_
   refine KWp.done ?_
   cases h
   exact ⟨_, rfl, rfl, rfl⟩
 intro j1 h E hE
 refine nt_wp hE ?_
 change Wp _ _ _ (s_Unsealed_H1 xText j1) _
 refine Wp.c h (fun h => ?_) (fun h => ?_)
 · refine Wp.seq ?_
   refine Wp.region ?_
   refine LWp.o 2 (Y (bs [])) ?_
   refine LWp.o 3 (B false) ?_
   refine LWp.nil ?_
   cases h
   exact Wp.ret ⟨.inr rfl, _, _, rfl, rfl⟩
 refine Wp.skip ?_
 refine Wp.seq ?_
 refine Wp.region ?_
 refine LWp.o 25 (Y xText) ?_
 refine LWp.o 26 (I (sb (sln xText) 4)) ?_
 refine LWp.p h 27 (fun x3 => (Y x3)) ?_ (fun x3 gx3 => st_pure (p_sub gx3))
 intro x3 gx3 h
 refine LWp.o 2 (Y x3) ?_
 refine LWp.o 3 (B true) ?_
 refine LWp.nil ?_
 cases h
 exact Wp.ret ⟨.inr rfl, _, _, rfl, rfl⟩
def s_l01Var_H1 (z1 : Int) (z2 : List Int) : St := mkSt [(0, (I z1)), (3, (.one (.sl true 5 1 (encs c5 z2))))] []
def s_l01Var_H2 (z3 : Int) (z4 : List Int) : St := mkSt [(0, (I z3)), (3, (.one (.sl true 5 1 (encs c5 z4))))] []
set_option maxRecDepth 100000 in
theorem s_l01Var_t (xN : Int) (r : ByteArray) (h : s_l01Var xN = some r) : Gives Try.prog 57 [.sv (I xN)] (Y r) (List.replicate 1 .gone) := by
 unfold s_l01Var at h
 refine gives_of Try.func57 rfl ?_
 rw [Try.ntmps57]
 refine Wp.seq ?_
 refine Wp.region ?_
 refine LWp.o 2 (Y (bs [])) ?_
 refine LWp.nil ?_
 refine Wp.seq ?_
 refine Wp.region ?_
 refine LWp.m false [] 4 (.one (.sl true 5 1 (encs c5 []))) ?_
 refine LWp.m true [(.slot 4, [.junk])] 3 (.one (.sl true 5 1 (encs c5 []))) ?_
 refine LWp.nil ?_
 refine Wp.seq ?_
 refine Wp.l1 h [0, 3] [] (fun s => (s_l01Var_H1 s.1 s.2)) [0, 3] [] (fun s => (s_l01Var_H2 s.1 s.2)) ⟨rfl, rfl⟩ ?_ ?_
 · rintro ⟨yN1, yOut1⟩ o (h : s_l01Var_b1 yN1 yOut1 = some o)
   unfold s_l01Var_b1 at h
   change Wp _ _ _ (s_l01Var_H1 yN1 yOut1) _
   refine Wp.seq ?_
   refine Wp.seq ?_
   refine Wp.region ?_
   refine LWp.o 5 (I yN1) ?_
   refine LWp.o 6 (B (decide (yN1 > 127))) ?_
   refine LWp.nil ?_
   refine Wp.c h (fun h => ?_) (fun h => ?_)
   · refine Wp.skip ?_
     refine Wp.block ?_
     refine Wp.seq ?_
     refine Wp.region ?_
     refine LWp.o 7 (.one (.view (.slot 3) 0 [] 0)) ?_
     refine LWp.o 8 (I yN1) ?_
     refine LWp.o 9 (I (Int.tmod yN1 128)) ?_
     refine LWp.o 10 (I (ad (Int.tmod yN1 128) 128)) ?_
     refine LWp.o 11 (.one (.int .u8 (IntKind.u8.wrap (ad (Int.tmod yN1 128) 128)))) ?_
     refine LWp.m false [] 12 (.one (.sl true 5 1 (encs c5 [(IntKind.u8.wrap (ad (Int.tmod yN1 128) 128))]))) ?_
     refine LWp.pm h [(.slot 3, [.junk])] 13 (fun c1 => (.one (.sl true 5 1 (encs c5 c1)))) ?_ (fun c1 gc1 => s_apl k5 (fun _ => rfl) [(.slot 3, [.junk])] yOut1 gc1)
     intro c1 gc1 h
     refine LWp.m true [(.slot 13, [.junk])] 3 (.one (.sl true 5 1 (encs c5 c1))) ?_
     refine LWp.nil ?_
     refine Wp.region ?_
     refine LWp.o 14 (I yN1) ?_
     refine LWp.o 15 (I (qu yN1 128)) ?_
     refine LWp.o 0 (I (qu yN1 128)) ?_
     refine LWp.nil ?_
     cases h
     exact ⟨_, rfl, rfl, rfl⟩
   refine Wp.exit ?_
   cases h
   exact ⟨_, rfl, rfl, rfl⟩
 intro v1 h E hE
 refine nt_wp hE ?_
 change Wp _ _ _ (s_l01Var_H2 v1.1 v1.2) _
 refine Wp.seq ?_
 refine Wp.region ?_
 refine LWp.o 16 (.one (.view (.slot 3) 0 [] 0)) ?_
 refine LWp.o 17 (I v1.1) ?_
 refine LWp.o 18 (.one (.int .u8 (IntKind.u8.wrap v1.1))) ?_
 refine LWp.m false [] 19 (.one (.sl true 5 1 (encs c5 [(IntKind.u8.wrap v1.1)]))) ?_
 refine LWp.pm h [(.slot 3, [.junk])] 20 (fun c2 => (.one (.sl true 5 1 (encs c5 c2)))) ?_ (fun c2 gc2 => s_apl k5 (fun _ => rfl) [(.slot 3, [.junk])] v1.2 gc2)
 intro c2 gc2 h
 refine LWp.o 21 (Y (strB c2)) ?_ (st_pure (p_cv (fun _ => rfl) c2))
 refine LWp.o 2 (Y (strB c2)) ?_
 refine LWp.nil ?_
 cases h
 exact Wp.ret ⟨.inr rfl, _, _, rfl, rfl⟩
def s_ReadVar_H1 (xText : ByteArray) (xAt : Int) (z1 : Int) (z2 : Int) (z3 : Int) : St := mkSt [(0, (Y xText)), (1, (I xAt)), (7, (I z1)), (8, (I z2)), (9, (I z3))] []
def s_ReadVar_H2  : St := mkSt [] []
def s_ReadVar_H3 (xText : ByteArray) (xAt : Int) (yN1 : Int) (yScale1 : Int) (yI1 : Int) (z4 : Bool) : St := mkSt [(0, (Y xText)), (1, (I xAt)), (7, (I yN1)), (8, (I yScale1)), (9, (I yI1)), (25, (B z4))] []
def s_ReadVar_H4 (yN1 : Int) (yScale1 : Int) (yI1 : Int) (x1 : Int) (z5 : Bool) : St := mkSt [(7, (I (ad yN1 (ml (Int.tmod (IntKind.i64.wrap x1) 128) yScale1)))), (9, (I yI1)), (54, (B z5))] []
set_option maxRecDepth 100000 in
theorem s_ReadVar_t (xText : ByteArray) (xAt : Int) (r : Int × Int × Bool) (h : s_ReadVar xText xAt = some r) : Gives Try.prog 53 [.sv (Y xText), .sv (I xAt)] (.tup [(I r.1), (I r.2.1), (B r.2.2)]) (List.replicate 2 .gone) := by
 unfold s_ReadVar at h
 refine gives_of Try.func53 rfl ?_
 rw [Try.ntmps53]
 refine Wp.seq ?_
 refine Wp.region ?_
 refine LWp.o 4 (I 0) ?_
 refine LWp.o 5 (I 0) ?_
 refine LWp.o 6 (B false) ?_
 refine LWp.nil ?_
 refine Wp.seq ?_
 refine Wp.seq ?_
 refine Wp.region ?_
 refine LWp.o 10 (I xAt) ?_
 refine LWp.o 11 (Y xText) ?_
 refine LWp.o 12 (I (sln xText)) ?_
 refine LWp.cl h 13 (fun v1 => (B v1)) rfl (l := [.sv (.one (.int .i64 xAt)), .sv (.one (.int .i64 0)), .sv (.one (.int .i64 (sln xText)))]) rfl (fun v hv => s_l01In_t xAt 0 (sln xText) v hv) (.inl rfl) ?_
 intro v1 gv1 h
 refine LWp.o 14 (B (!v1)) ?_
 refine LWp.nil ?_
 refine Wp.c h (fun h => ?_) (fun h => ?_)
 · refine Wp.seq ?_
   refine Wp.region ?_
   refine LWp.o 4 (I 0) ?_
   refine LWp.o 5 (I 0) ?_
   refine LWp.o 6 (B false) ?_
   refine LWp.nil ?_
   cases h
   exact Wp.ret ⟨.inr rfl, _, _, rfl, rfl⟩
 refine Wp.skip ?_
 refine Wp.seq ?_
 refine Wp.region ?_
 refine LWp.o 7 (I 0) ?_
 refine LWp.nil ?_
 refine Wp.seq ?_
 refine Wp.region ?_
 refine LWp.o 8 (I 1) ?_
 refine LWp.nil ?_
 refine Wp.seq ?_
 refine Wp.seq ?_
 refine Wp.region ?_
 refine LWp.o 15 (I xAt) ?_
 refine LWp.o 9 (I xAt) ?_
 refine LWp.nil ?_
 refine Wp.l2 h [0, 1, 7, 8, 9] [] (fun s => (s_ReadVar_H1 xText xAt s.1 s.2.1 s.2.2)) [] [] (fun _ => s_ReadVar_H2) ⟨rfl, rfl⟩ ?_ ?_
 · rintro ⟨yN1, yScale1, yI1⟩ o (h : s_ReadVar_b1 xText xAt yN1 yScale1 yI1 = some o) hk1
   unfold s_ReadVar_b1 at h
   change Wp _ _ _ (s_ReadVar_H1 xText xAt yN1 yScale1 yI1) _
   refine Wp.seq ?_
   refine Wp.seq ?_
   refine Wp.j1 h [0, 1, 7, 8, 9, 25] [] (fun a => (s_ReadVar_H3 xText xAt yN1 yScale1 yI1 a)) ?_ ?_
   · intro a h
     refine Wp.region ?_
     refine LWp.o 16 (I yI1) ?_
     refine LWp.o 17 (Y xText) ?_
     refine LWp.o 18 (I (sln xText)) ?_
     refine LWp.o 19 (B (decide (yI1 < (sln xText)))) ?_
     refine LWp.o 20 (B (decide (yI1 < (sln xText)))) ?_
     refine LWp.sp h 20 (fun h => ?_) (fun h => ?_)
     · refine LWp.o 21 (I yI1) ?_
       refine LWp.o 22 (I xAt) ?_
       refine LWp.o 23 (I (ad xAt 5)) ?_
       refine LWp.o 24 (B (decide (yI1 < (ad xAt 5)))) ?_
       refine LWp.o 25 (B (decide (yI1 < (ad xAt 5)))) ?_
       refine LWp.nil ?_
       cases h
       exact ⟨_, rfl, rfl, rfl⟩
     refine LWp.sh 21 ?_
     refine LWp.sh 22 ?_
     refine LWp.sh 23 ?_
     refine LWp.sh 24 ?_
     refine LWp.o 25 (B false) ?_
     refine LWp.nil ?_
     cases h
     exact ⟨_, rfl, rfl, rfl⟩
   intro j1 h E hE
   refine nt_wp hE ?_
   change Wp _ _ _ (s_ReadVar_H3 xText xAt yN1 yScale1 yI1 j1) _
   refine Wp.c h (fun h => ?_) (fun h => ?_)
   · refine Wp.skip ?_
     refine Wp.seq ?_
     refine Wp.block ?_
     refine Wp.seq ?_
     refine Wp.region ?_
     refine LWp.o 28 (I yN1) ?_
     refine LWp.o 29 (Y xText) ?_
     refine LWp.o 30 (I yI1) ?_
     refine LWp.p h 31 (fun x1 => (.one (.int .u8 x1))) ?_ (fun x1 gx1 => st_pure (p_sx gx1))
     intro x1 gx1 h
     refine LWp.o 32 (I (IntKind.i64.wrap x1)) ?_
     refine LWp.o 33 (I (Int.tmod (IntKind.i64.wrap x1) 128)) ?_
     refine LWp.o 34 (I yScale1) ?_
     refine LWp.o 35 (I (ml (Int.tmod (IntKind.i64.wrap x1) 128) yScale1)) ?_
     refine LWp.o 36 (I (ad yN1 (ml (Int.tmod (IntKind.i64.wrap x1) 128) yScale1))) ?_
     refine LWp.o 7 (I (ad yN1 (ml (Int.tmod (IntKind.i64.wrap x1) 128) yScale1))) ?_
     refine LWp.nil ?_
     refine Wp.seq ?_
     refine Wp.region ?_
     refine LWp.o 37 (I yScale1) ?_
     refine LWp.o 38 (I (ml yScale1 128)) ?_
     refine LWp.o 8 (I (ml yScale1 128)) ?_
     refine LWp.nil ?_
     refine Wp.seq ?_
     refine Wp.region ?_
     refine LWp.o 39 (Y xText) ?_
     refine LWp.o 40 (I yI1) ?_
     refine LWp.p h 41 (fun x2 => (.one (.int .u8 x2))) ?_ (fun x2 gx2 => st_pure (p_sx gx2))
     intro x2 gx2 h
     refine LWp.o 42 (B (decide (x2 < 128))) ?_
     refine LWp.nil ?_
     refine Wp.c h (fun h => ?_) (fun h => ?_)
     · refine Wp.seq ?_
       refine Wp.seq ?_
       refine Wp.j1 h [7, 9, 54] [] (fun a => (s_ReadVar_H4 yN1 yScale1 yI1 x1 a)) ?_ ?_
       · intro a h
         refine Wp.regionK 12 [] mixed (fun c E h => by rcases h with ⟨h | h, _⟩ <;> cases h) ?_
         refine KWp.o 12 0 43 (I (ad yN1 (ml (Int.tmod (IntKind.i64.wrap x1) 128) yScale1))) ?_
         refine KWp.o 12 1 44 (B (decide ((ad yN1 (ml (Int.tmod (IntKind.i64.wrap x1) 128) yScale1)) > 1000000000))) ?_
         refine KWp.o 12 2 45 (B (decide ((ad yN1 (ml (Int.tmod (IntKind.i64.wrap x1) 128) yScale1)) > 1000000000))) ?_
         refine KWp.sp h 45 (fun h => ?_) (fun h => ?_)
         · refine KWp.sh 12 3 46 ?_
           refine KWp.sh 12 5 48 ?_
           refine KWp.sh 12 6 49 ?_
           refine KWp.sh 12 7 50 ?_
           refine KWp.sh 12 8 51 ?_
           refine KWp.sh 12 9 52 ?_
           refine KWp.sh 12 4 47 ?_
           refine KWp.sh 12 10 53 ?_
           refine KWp.o 12 11 54 (B true) ?_
           refine KWp.done ?_
           cases h
           exact ⟨_, rfl, rfl, rfl⟩
         refine KWp.o 12 3 46 (I (ad yN1 (ml (Int.tmod (IntKind.i64.wrap x1) 128) yScale1))) ?_
         refine KWp.o 12 5 48 (Y xText) ?_
         refine KWp.o 12 6 49 (I xAt) ?_
         refine KWp.o 12 7 50 (I yI1) ?_
         refine KWp.o 12 8 51 (I (ad yI1 1)) ?_
         refine KWp.p h 12 9 52 (fun x3 => (Y x3)) ?_ rfl (fun x3 gx3 => sl_pure (p_sub gx3))
         intro x3 gx3 h
         refine KWp.w1 4 ?_
         refine KOp.cl h 4 47 (fun v2 => (Y v2)) rfl rfl (l := [.sv (.one (.int .i64 (ad yN1 (ml (Int.tmod (IntKind.i64.wrap x1) 128) yScale1))))]) rfl (fun v hv => s_l01Var_t (ad yN1 (ml (Int.tmod (IntKind.i64.wrap x1) 128) yScale1)) v hv) (.inl rfl) ?_
         intro v2 gv2 h
         refine KWp.o 12 10 53 (B (!(seq v2 x3))) ?_
         refine KWp.o 12 11 54 (B (!(seq v2 x3))) ?_
         refine KWp.done ?_
         cases h
         exact ⟨_, rfl, rfl, rfl⟩
       intro j2 h E hE
       refine nt_wp hE ?_
       change Wp _ _ _ (s_ReadVar_H4 yN1 yScale1 yI1 x1 j2) _
       refine Wp.c h (fun h => ?_) (fun h => ?_)
       · refine Wp.seq ?_
         refine Wp.region ?_
         refine LWp.o 4 (I 0) ?_
         refine LWp.o 5 (I 0) ?_
         refine LWp.o 6 (B false) ?_
         refine LWp.nil ?_
         cases h
         replace h : some _ = some _ := hk1 _ rfl
         cases h
         exact Wp.ret ⟨.inr rfl, _, _, rfl, rfl⟩
       refine Wp.skip ?_
       refine Wp.seq ?_
       refine Wp.region ?_
       refine LWp.o 55 (I (ad yN1 (ml (Int.tmod (IntKind.i64.wrap x1) 128) yScale1))) ?_
       refine LWp.o 56 (I yI1) ?_
       refine LWp.o 57 (I (ad yI1 1)) ?_
       refine LWp.o 4 (I (ad yN1 (ml (Int.tmod (IntKind.i64.wrap x1) 128) yScale1))) ?_
       refine LWp.o 5 (I (ad yI1 1)) ?_
       refine LWp.o 6 (B true) ?_
       refine LWp.nil ?_
       cases h
       replace h : some _ = some _ := hk1 _ rfl
       cases h
       exact Wp.ret ⟨.inr rfl, _, _, rfl, rfl⟩
     refine Wp.skip ?_
     refine Wp.region ?_
     refine LWp.o 26 (I yI1) ?_
     refine LWp.o 27 (I (ad yI1 1)) ?_
     refine LWp.o 9 (I (ad yI1 1)) ?_
     refine LWp.nil ?_
     cases h
     exact ⟨_, rfl, rfl, rfl⟩
   refine Wp.exit ?_
   cases h
   exact ⟨_, rfl, rfl, rfl⟩
 intro v3 h E hE
 refine nt_wp hE ?_
 change Wp _ _ _ s_ReadVar_H2 _
 refine Wp.seq ?_
 refine Wp.region ?_
 refine LWp.o 4 (I 0) ?_
 refine LWp.o 5 (I 0) ?_
 refine LWp.o 6 (B false) ?_
 refine LWp.nil ?_
 cases h
 exact Wp.ret ⟨.inr rfl, _, _, rfl, rfl⟩
def s_l06Var_H1 (xC : l06Cur) (z1 : Int) (z2 : Int) (z3 : Bool) : St := mkSt [(0, (.one (.ptr (.ext 0) 0 [] 0))), (3, (I z1)), (4, (I z2)), (5, (B z3))] [(.ext 0, [.str xC.text_, .int .i64 xC.at_, .bool xC.bad_])]
def s_l06Var_H2 (xC : l06Cur) (j1 : Int × Int × Bool) (z4 : Bool) : St := mkSt [(0, (.one (.ptr (.ext 0) 0 [] 0))), (3, (I j1.1)), (4, (I j1.2.1)), (26, (B z4))] [(.ext 0, [.str xC.text_, .int .i64 xC.at_, .bool xC.bad_])]
set_option maxRecDepth 100000 in
theorem s_l06Var_t (xC : l06Cur) (r : Int × l06Cur) (h : s_l06Var xC = some r) : Gives Try.prog 34 [.ext [.str xC.text_, .int .i64 xC.at_, .bool xC.bad_]] (I r.1) (.ext [.str r.2.text_, .int .i64 r.2.at_, .bool r.2.bad_] :: List.replicate 0 .gone) := by
 unfold s_l06Var at h
 refine gives_ext Try.func34 rfl ?_ rfl
 rw [Try.ntmps34]
 refine Wp.seq ?_
 refine Wp.region ?_
 refine LWp.o 2 (I 0) ?_
 refine LWp.nil ?_
 refine Wp.seq ?_
 refine Wp.j1 h [0, 3, 4, 5] [.ext 0] (fun a => (s_l06Var_H1 xC a.1 a.2.1 a.2.2)) ?_ ?_
 · intro a h
   refine Wp.regionK 16 [] mixed (fun c E h => by rcases h with ⟨h | h, _⟩ <;> cases h) ?_
   refine KWp.o 16 0 7 (.one (.ptr (.ext 0) 0 [] 0)) ?_
   refine KWp.o 16 1 8 (.one (.ptr (.ext 0) 0 [] 0)) ?_
   refine KWp.o 16 2 9 (.one (.ptr (.ext 0) 0 [] 0)) ?_
   refine KWp.o 16 3 10 (Y xC.text_) ?_
   refine KWp.o 16 4 11 (.one (.ptr (.ext 0) 0 [] 0)) ?_
   refine KWp.o 16 5 12 (.one (.ptr (.ext 0) 0 [] 0)) ?_
   refine KWp.o 16 6 13 (.one (.ptr (.ext 0) 0 [] 1)) ?_
   refine KWp.o 16 7 14 (I xC.at_) ?_
   refine KWp.w1 8 ?_
   refine KOp.cl h 8 15 (fun v1 => (.tup [(I v1.1), (I v1.2.1), (B v1.2.2)])) rfl rfl (l := [.sv (.one (.str xC.text_)), .sv (.one (.int .i64 xC.at_))]) rfl (fun v hv => s_ReadVar_t xC.text_ xC.at_ v hv) (.inl rfl) ?_
   intro v1 gv1 h
   refine KWp.w1 9 ?_
   refine KOp.mt 9 15 6 (.tup [(I v1.1), (I v1.2.1), (B v1.2.2)]) ?_
   refine KWp.w3 10 11 12 ?_ ?_ ?_
   · refine KOp.e 10 6 0 16 (I v1.1) ?_
     refine KWp.o 16 13 3 (I v1.1) ?_
     refine KWp.w2 11 12 ?_ ?_
     · refine KOp.e 11 6 1 17 (I v1.2.1) ?_
       refine KWp.o 16 14 4 (I v1.2.1) ?_
       refine KWp.w1 12 ?_
       refine KOp.e 12 6 2 18 (B v1.2.2) ?_
       refine KWp.o 16 15 5 (B v1.2.2) ?_
       refine KWp.done ?_
       cases h
       exact ⟨_, rfl, rfl, rfl⟩
     refine KOp.e 12 6 2 18 (B v1.2.2) ?_
     refine KWp.w1 11 ?_
     refine KOp.e 11 6 1 17 (I v1.2.1) ?_
     refine KWp.o 16 14 4 (I v1.2.1) ?_
     refine KWp.o 16 15 5 (B v1.2.2) ?_
     refine KWp.done ?_
     cases h
     exact ⟨_, rfl, rfl, rfl⟩
   · refine KOp.e 11 6 1 17 (I v1.2.1) ?_
     refine KWp.w2 10 12 ?_ ?_
     · refine KOp.e 10 6 0 16 (I v1.1) ?_
       refine KWp.o 16 13 3 (I v1.1) ?_
       refine KWp.o 16 14 4 (I v1.2.1) ?_
       refine KWp.w1 12 ?_
       refine KOp.e 12 6 2 18 (B v1.2.2) ?_
       refine KWp.o 16 15 5 (B v1.2.2) ?_
       refine KWp.done ?_
       cases h
       exact ⟨_, rfl, rfl, rfl⟩
     refine KOp.e 12 6 2 18 (B v1.2.2) ?_
     refine KWp.w1 10 ?_
     refine KOp.e 10 6 0 16 (I v1.1) ?_
     refine KWp.o 16 13 3 (I v1.1) ?_
     refine KWp.o 16 14 4 (I v1.2.1) ?_
     refine KWp.o 16 15 5 (B v1.2.2) ?_
     refine KWp.done ?_
     cases h
     exact ⟨_, rfl, rfl, rfl⟩
   refine KOp.e 12 6 2 18 (B v1.2.2) ?_
   refine KWp.w2 10 11 ?_ ?_
   · refine KOp.e 10 6 0 16 (I v1.1) ?_
     refine KWp.o 16 13 3 (I v1.1) ?_
     refine KWp.w1 11 ?_
     refine KOp.e 11 6 1 17 (I v1.2.1) ?_
     refine KWp.o 16 14 4 (I v1.2.1) ?_
     refine KWp.o 16 15 5 (B v1.2.2) ?_
     refine KWp.done ?_
     cases h
     exact ⟨_, rfl, rfl, rfl⟩
   refine KOp.e 11 6 1 17 (I v1.2.1) ?_
   refine KWp.w1 10 ?_
   refine KOp.e 10 6 0 16 (I v1.1) ?_
   refine KWp.o 16 13 3 (I v1.1) ?_
   refine KWp.o 16 14 4 (I v1.2.1) ?_
   refine KWp.o 16 15 5 (B v1.2.2) ?_
   refine KWp.done ?_
   cases h
   exact ⟨_, rfl, rfl, rfl⟩
 intro j1 h E hE
 refine nt_wp hE ?_
 change Wp _ _ _ (s_l06Var_H1 xC j1.1 j1.2.1 j1.2.2) _
 refine Wp.seq ?_
 refine Wp.seq ?_
 refine Wp.j1 h [0, 3, 4, 26] [.ext 0] (fun a => (s_l06Var_H2 xC j1 a)) ?_ ?_
 · intro a h
   refine Wp.region ?_
   refine LWp.o 19 (.one (.ptr (.ext 0) 0 [] 0)) ?_
   refine LWp.o 20 (.one (.ptr (.ext 0) 0 [] 0)) ?_
   refine LWp.o 21 (.one (.ptr (.ext 0) 0 [] 2)) ?_
   refine LWp.o 22 (B xC.bad_) ?_
   refine LWp.o 23 (B xC.bad_) ?_
   refine LWp.sp h 23 (fun h => ?_) (fun h => ?_)
   · refine LWp.sh 24 ?_
     refine LWp.sh 25 ?_
     refine LWp.o 26 (B true) ?_
     refine LWp.nil ?_
     cases h
     exact ⟨_, rfl, rfl, rfl⟩
   refine LWp.o 24 (B j1.2.2) ?_
   refine LWp.o 25 (B (!j1.2.2)) ?_
   refine LWp.o 26 (B (!j1.2.2)) ?_
   refine LWp.nil ?_
   cases h
   exact ⟨_, rfl, rfl, rfl⟩
 intro j2 h E hE
 refine nt_wp hE ?_
 change Wp _ _ _ (s_l06Var_H2 xC j1 j2) _
 refine Wp.c h (fun h => ?_) (fun h => ?_)
 · refine Wp.seq ?_
   refine Wp.region ?_
   refine LWp.o 27 (.one (.ptr (.ext 0) 0 [] 0)) ?_
   refine LWp.o 28 (.one (.ptr (.ext 0) 0 [] 0)) ?_
   refine LWp.o 29 (.one (.ptr (.ext 0) 0 [] 2)) ?_
   refine LWp.s [] (.ext 0) [.str xC.text_, .int .i64 xC.at_, .bool true] ?_
   refine LWp.nil ?_
   refine Wp.seq ?_
   refine Wp.region ?_
   refine LWp.o 2 (I 0) ?_
   refine LWp.nil ?_
   cases h
   exact Wp.ret ⟨.inr rfl, _, _, rfl, rfl, rfl⟩
 refine Wp.skip ?_
 refine Wp.seq ?_
 refine Wp.region ?_
 refine LWp.o 30 (.one (.ptr (.ext 0) 0 [] 0)) ?_
 refine LWp.o 31 (I j1.2.1) ?_
 refine LWp.o 32 (.one (.ptr (.ext 0) 0 [] 0)) ?_
 refine LWp.o 33 (.one (.ptr (.ext 0) 0 [] 1)) ?_
 refine LWp.s [] (.ext 0) [.str xC.text_, .int .i64 j1.2.1, .bool xC.bad_] ?_
 refine LWp.nil ?_
 refine Wp.seq ?_
 refine Wp.region ?_
 refine LWp.o 34 (I j1.1) ?_
 refine LWp.o 2 (I j1.1) ?_
 refine LWp.nil ?_
 cases h
 exact Wp.ret ⟨.inr rfl, _, _, rfl, rfl, rfl⟩
def s_PageOk_H1 (xP : Page) (z1 : Bool) : St := mkSt [(1, (.one (.ptr (.box 1) 0 [] 0))), (39, (B z1))] [(.box 1, [.int .i64 xP.Kind, .int .i64 xP.Seq, .int .i64 xP.Tx, .int .i64 xP.Part, .int .i64 xP.Count, .str xP.Text])]
set_option maxRecDepth 100000 in
theorem s_PageOk_t (xP : Page) (r : Bool) (h : s_PageOk xP = some r) : Gives Try.prog 54 [.sv (.agg [.int .i64 xP.Kind, .int .i64 xP.Seq, .int .i64 xP.Tx, .int .i64 xP.Part, .int .i64 xP.Count, .str xP.Text])] (B r) (List.replicate 1 .gone) := by
 unfold s_PageOk at h
 refine gives_of Try.func54 rfl ?_
 rw [Try.ntmps54]
 refine Wp.seq ?_
 refine Wp.region ?_
 refine LWp.b [] 1 [.int .i64 xP.Kind, .int .i64 xP.Seq, .int .i64 xP.Tx, .int .i64 xP.Part, .int .i64 xP.Count, .str xP.Text] ?_
 refine LWp.o 2 (B false) ?_
 refine LWp.nil ?_
 refine Wp.seq ?_
 refine Wp.seq ?_
 refine Wp.j1 h [1, 39] [.box 1] (fun a => (s_PageOk_H1 xP a)) ?_ ?_
 · intro a h
   refine Wp.region ?_
   refine LWp.o 3 (.one (.ptr (.box 1) 1 [] 0)) ?_
   refine LWp.o 4 (I xP.Kind) ?_
   refine LWp.cl h 5 (fun v1 => (B v1)) rfl (l := [.sv (.one (.int .i64 xP.Kind)), .sv (.one (.int .i64 1)), .sv (.one (.int .i64 2))]) rfl (fun v hv => s_l01In_t xP.Kind 1 2 v hv) (.inl rfl) ?_
   intro v1 gv1 h
   refine LWp.o 6 (B (!v1)) ?_
   refine LWp.o 7 (B (!v1)) ?_
   refine LWp.sp h 7 (fun h => ?_) (fun h => ?_)
   · refine LWp.sh 8 ?_
     refine LWp.sh 9 ?_
     refine LWp.sh 10 ?_
     refine LWp.sh 11 ?_
     refine LWp.o 12 (B true) ?_
     refine LWp.o 13 (B true) ?_
     refine LWp.sh 14 ?_
     refine LWp.sh 15 ?_
     refine LWp.sh 16 ?_
     refine LWp.sh 17 ?_
     refine LWp.o 18 (B true) ?_
     refine LWp.o 19 (B true) ?_
     refine LWp.sh 20 ?_
     refine LWp.sh 21 ?_
     refine LWp.sh 22 ?_
     refine LWp.sh 23 ?_
     refine LWp.o 24 (B true) ?_
     refine LWp.o 25 (B true) ?_
     refine LWp.sh 26 ?_
     refine LWp.sh 27 ?_
     refine LWp.sh 28 ?_
     refine LWp.sh 29 ?_
     refine LWp.sh 30 ?_
     refine LWp.sh 31 ?_
     refine LWp.sh 32 ?_
     refine LWp.o 33 (B true) ?_
     refine LWp.o 34 (B true) ?_
     refine LWp.sh 35 ?_
     refine LWp.sh 36 ?_
     refine LWp.sh 37 ?_
     refine LWp.sh 38 ?_
     refine LWp.o 39 (B true) ?_
     refine LWp.nil ?_
     cases h
     exact ⟨_, rfl, rfl, rfl⟩
   refine LWp.o 8 (.one (.ptr (.box 1) 1 [] 1)) ?_
   refine LWp.o 9 (I xP.Seq) ?_
   refine LWp.cl h 10 (fun v2 => (B v2)) rfl (l := [.sv (.one (.int .i64 xP.Seq)), .sv (.one (.int .i64 1)), .sv (.one (.int .i64 1000000000))]) rfl (fun v hv => s_l01In_t xP.Seq 1 1000000000 v hv) (.inl rfl) ?_
   intro v2 gv2 h
   refine LWp.o 11 (B (!v2)) ?_
   refine LWp.o 12 (B (!v2)) ?_
   refine LWp.o 13 (B (!v2)) ?_
   refine LWp.sp h 13 (fun h => ?_) (fun h => ?_)
   · refine LWp.sh 14 ?_
     refine LWp.sh 15 ?_
     refine LWp.sh 16 ?_
     refine LWp.sh 17 ?_
     refine LWp.o 18 (B true) ?_
     refine LWp.o 19 (B true) ?_
     refine LWp.sh 20 ?_
     refine LWp.sh 21 ?_
     refine LWp.sh 22 ?_
     refine LWp.sh 23 ?_
     refine LWp.o 24 (B true) ?_
     refine LWp.o 25 (B true) ?_
     refine LWp.sh 26 ?_
     refine LWp.sh 27 ?_
     refine LWp.sh 28 ?_
     refine LWp.sh 29 ?_
     refine LWp.sh 30 ?_
     refine LWp.sh 31 ?_
     refine LWp.sh 32 ?_
     refine LWp.o 33 (B true) ?_
     refine LWp.o 34 (B true) ?_
     refine LWp.sh 35 ?_
     refine LWp.sh 36 ?_
     refine LWp.sh 37 ?_
     refine LWp.sh 38 ?_
     refine LWp.o 39 (B true) ?_
     refine LWp.nil ?_
     cases h
     exact ⟨_, rfl, rfl, rfl⟩
   refine LWp.o 14 (.one (.ptr (.box 1) 1 [] 2)) ?_
   refine LWp.o 15 (I xP.Tx) ?_
   refine LWp.cl h 16 (fun v3 => (B v3)) rfl (l := [.sv (.one (.int .i64 xP.Tx)), .sv (.one (.int .i64 1)), .sv (.one (.int .i64 1000000000))]) rfl (fun v hv => s_l01In_t xP.Tx 1 1000000000 v hv) (.inl rfl) ?_
   intro v3 gv3 h
   refine LWp.o 17 (B (!v3)) ?_
   refine LWp.o 18 (B (!v3)) ?_
   refine LWp.o 19 (B (!v3)) ?_
   refine LWp.sp h 19 (fun h => ?_) (fun h => ?_)
   · refine LWp.sh 20 ?_
     refine LWp.sh 21 ?_
     refine LWp.sh 22 ?_
     refine LWp.sh 23 ?_
     refine LWp.o 24 (B true) ?_
     refine LWp.o 25 (B true) ?_
     refine LWp.sh 26 ?_
     refine LWp.sh 27 ?_
     refine LWp.sh 28 ?_
     refine LWp.sh 29 ?_
     refine LWp.sh 30 ?_
     refine LWp.sh 31 ?_
     refine LWp.sh 32 ?_
     refine LWp.o 33 (B true) ?_
     refine LWp.o 34 (B true) ?_
     refine LWp.sh 35 ?_
     refine LWp.sh 36 ?_
     refine LWp.sh 37 ?_
     refine LWp.sh 38 ?_
     refine LWp.o 39 (B true) ?_
     refine LWp.nil ?_
     cases h
     exact ⟨_, rfl, rfl, rfl⟩
   refine LWp.o 20 (.one (.ptr (.box 1) 1 [] 4)) ?_
   refine LWp.o 21 (I xP.Count) ?_
   refine LWp.cl h 22 (fun v4 => (B v4)) rfl (l := [.sv (.one (.int .i64 xP.Count)), .sv (.one (.int .i64 1)), .sv (.one (.int .i64 9))]) rfl (fun v hv => s_l01In_t xP.Count 1 9 v hv) (.inl rfl) ?_
   intro v4 gv4 h
   refine LWp.o 23 (B (!v4)) ?_
   refine LWp.o 24 (B (!v4)) ?_
   refine LWp.o 25 (B (!v4)) ?_
   refine LWp.sp h 25 (fun h => ?_) (fun h => ?_)
   · refine LWp.sh 26 ?_
     refine LWp.sh 27 ?_
     refine LWp.sh 28 ?_
     refine LWp.sh 29 ?_
     refine LWp.sh 30 ?_
     refine LWp.sh 31 ?_
     refine LWp.sh 32 ?_
     refine LWp.o 33 (B true) ?_
     refine LWp.o 34 (B true) ?_
     refine LWp.sh 35 ?_
     refine LWp.sh 36 ?_
     refine LWp.sh 37 ?_
     refine LWp.sh 38 ?_
     refine LWp.o 39 (B true) ?_
     refine LWp.nil ?_
     cases h
     exact ⟨_, rfl, rfl, rfl⟩
   refine LWp.o 26 (.one (.ptr (.box 1) 1 [] 3)) ?_
   refine LWp.o 27 (I xP.Part) ?_
   refine LWp.o 28 (.one (.ptr (.box 1) 1 [] 4)) ?_
   refine LWp.o 29 (I xP.Count) ?_
   refine LWp.o 30 (I (sb xP.Count 1)) ?_
   refine LWp.cl h 31 (fun v5 => (B v5)) rfl (l := [.sv (.one (.int .i64 xP.Part)), .sv (.one (.int .i64 0)), .sv (.one (.int .i64 (sb xP.Count 1)))]) rfl (fun v hv => s_l01In_t xP.Part 0 (sb xP.Count 1) v hv) (.inl rfl) ?_
   intro v5 gv5 h
   refine LWp.o 32 (B (!v5)) ?_
   refine LWp.o 33 (B (!v5)) ?_
   refine LWp.o 34 (B (!v5)) ?_
   refine LWp.sp h 34 (fun h => ?_) (fun h => ?_)
   · refine LWp.sh 35 ?_
     refine LWp.sh 36 ?_
     refine LWp.sh 37 ?_
     refine LWp.sh 38 ?_
     refine LWp.o 39 (B true) ?_
     refine LWp.nil ?_
     cases h
     exact ⟨_, rfl, rfl, rfl⟩
   refine LWp.o 35 (.one (.ptr (.box 1) 1 [] 5)) ?_
   refine LWp.o 36 (Y xP.Text) ?_
   refine LWp.o 37 (I (sln xP.Text)) ?_
   refine LWp.o 38 (B (decide ((sln xP.Text) > 90))) ?_
   refine LWp.o 39 (B (decide ((sln xP.Text) > 90))) ?_
   refine LWp.nil ?_
   cases h
   exact ⟨_, rfl, rfl, rfl⟩
 intro j1 h E hE
 refine nt_wp hE ?_
 change Wp _ _ _ (s_PageOk_H1 xP j1) _
 refine Wp.c h (fun h => ?_) (fun h => ?_)
 · refine Wp.seq ?_
   refine Wp.region ?_
   refine LWp.o 2 (B false) ?_
   refine LWp.nil ?_
   cases h
   exact Wp.ret ⟨.inr rfl, _, _, rfl, rfl⟩
 refine Wp.skip ?_
 refine Wp.seq ?_
 refine Wp.region ?_
 refine LWp.o 40 (.one (.ptr (.box 1) 0 [] 0)) ?_
 refine LWp.o 41 (I xP.Kind) ?_
 refine LWp.o 42 (B (xP.Kind == 2)) ?_
 refine LWp.o 43 (B (xP.Kind == 2)) ?_
 refine LWp.sp h 43 (fun h => ?_) (fun h => ?_)
 · refine LWp.sh 44 ?_
   refine LWp.sh 45 ?_
   refine LWp.sh 46 ?_
   refine LWp.o 47 (B true) ?_
   refine LWp.o 2 (B true) ?_
   refine LWp.nil ?_
   cases h
   exact Wp.ret ⟨.inr rfl, _, _, rfl, rfl⟩
 refine LWp.o 44 (.one (.ptr (.box 1) 0 [] 4)) ?_
 refine LWp.o 45 (I xP.Count) ?_
 refine LWp.o 46 (B (xP.Count == 1)) ?_
 refine LWp.o 47 (B (xP.Count == 1)) ?_
 refine LWp.o 2 (B (xP.Count == 1)) ?_
 refine LWp.nil ?_
 cases h
 exact Wp.ret ⟨.inr rfl, _, _, rfl, rfl⟩
set_option maxRecDepth 100000 in
theorem s_l06Byte_t (xN : Int) (r : ByteArray) (h : s_l06Byte xN = some r) : Gives Try.prog 56 [.sv (I xN)] (Y r) (List.replicate 1 .gone) := by
 unfold s_l06Byte at h
 refine gives_of Try.func56 rfl ?_
 rw [Try.ntmps56]
 refine Wp.seq ?_
 refine Wp.region ?_
 refine LWp.o 2 (Y (bs [])) ?_
 refine LWp.nil ?_
 refine Wp.seq ?_
 refine Wp.region ?_
 refine LWp.o 3 (I xN) ?_
 refine LWp.o 4 (.one (.int .u8 (IntKind.u8.wrap xN))) ?_
 refine LWp.m false [] 5 (.one (.sl true 5 1 (encs c5 [(IntKind.u8.wrap xN)]))) ?_
 refine LWp.o 6 (Y (strB [(IntKind.u8.wrap xN)])) ?_ (st_pure (p_cv (fun _ => rfl) [(IntKind.u8.wrap xN)]))
 refine LWp.o 2 (Y (strB [(IntKind.u8.wrap xN)])) ?_
 refine LWp.nil ?_
 cases h
 exact Wp.ret ⟨.inr rfl, _, _, rfl, rfl⟩
set_option maxRecDepth 100000 in
theorem s_Sealed_t (xText : ByteArray) (r : ByteArray × Bool) (h : s_Sealed xText = some r) : Gives Try.prog 55 [.sv (Y xText)] (.tup [(Y r.1), (B r.2)]) (List.replicate 1 .gone) := by
 unfold s_Sealed at h
 refine gives_of Try.func55 rfl ?_
 rw [Try.ntmps55]
 refine Wp.seq ?_
 refine Wp.region ?_
 refine LWp.o 2 (Y (bs [])) ?_
 refine LWp.o 3 (B false) ?_
 refine LWp.nil ?_
 refine Wp.seq ?_
 refine Wp.seq ?_
 refine Wp.region ?_
 refine LWp.o 4 (Y xText) ?_
 refine LWp.o 5 (I (sln xText)) ?_
 refine LWp.o 6 (B (decide ((sln xText) > 20000))) ?_
 refine LWp.nil ?_
 refine Wp.c h (fun h => ?_) (fun h => ?_)
 · refine Wp.seq ?_
   refine Wp.region ?_
   refine LWp.o 2 (Y (bs [])) ?_
   refine LWp.o 3 (B false) ?_
   refine LWp.nil ?_
   cases h
   exact Wp.ret ⟨.inr rfl, _, _, rfl, rfl⟩
 refine Wp.skip ?_
 refine Wp.seq ?_
 refine Wp.region ?_
 refine LWp.o 7 (Y xText) ?_
 refine LWp.o 8 (Y xText) ?_
 refine LWp.cl h 9 (fun v1 => (.one (.int .u32 v1))) rfl (l := [.sv (.one (.str xText))]) rfl (fun v hv => s_SumOf_t xText v hv) (.inl rfl) ?_
 intro v1 gv1 h
 refine LWp.cl h 10 (fun v2 => (Y v2)) rfl (l := [.sv (.one (.int .u32 v1))]) rfl (fun v hv => s_l02Four_t v1 v hv) (.inl rfl) ?_
 intro v2 gv2 h
 refine LWp.p h 11 (fun x1 => (Y x1)) ?_ (fun x1 gx1 => st_pure (p_cat gx1))
 intro x1 gx1 h
 refine LWp.o 2 (Y x1) ?_
 refine LWp.o 3 (B true) ?_
 refine LWp.nil ?_
 cases h
 exact Wp.ret ⟨.inr rfl, _, _, rfl, rfl⟩
set_option maxRecDepth 100000 in
theorem s_PageText_t (xP : Page) (r : ByteArray × Bool) (h : s_PageText xP = some r) : Gives Try.prog 35 [.sv (.agg [.int .i64 xP.Kind, .int .i64 xP.Seq, .int .i64 xP.Tx, .int .i64 xP.Part, .int .i64 xP.Count, .str xP.Text])] (.tup [(Y r.1), (B r.2)]) (List.replicate 1 .gone) := by
 unfold s_PageText at h
 refine gives_of Try.func35 rfl ?_
 rw [Try.ntmps35]
 refine Wp.seq ?_
 refine Wp.region ?_
 refine LWp.b [] 1 [.int .i64 xP.Kind, .int .i64 xP.Seq, .int .i64 xP.Tx, .int .i64 xP.Part, .int .i64 xP.Count, .str xP.Text] ?_
 refine LWp.o 2 (Y (bs [])) ?_
 refine LWp.o 3 (B false) ?_
 refine LWp.nil ?_
 refine Wp.seq ?_
 refine Wp.seq ?_
 refine Wp.region ?_
 refine LWp.o 4 (.agg [.int .i64 xP.Kind, .int .i64 xP.Seq, .int .i64 xP.Tx, .int .i64 xP.Part, .int .i64 xP.Count, .str xP.Text]) ?_
 refine LWp.cl h 5 (fun v1 => (B v1)) rfl (l := [.sv (.agg [.int .i64 xP.Kind, .int .i64 xP.Seq, .int .i64 xP.Tx, .int .i64 xP.Part, .int .i64 xP.Count, .str xP.Text])]) rfl (fun v hv => s_PageOk_t xP v hv) (.inl rfl) ?_
 intro v1 gv1 h
 refine LWp.o 6 (B (!v1)) ?_
 refine LWp.nil ?_
 refine Wp.c h (fun h => ?_) (fun h => ?_)
 · refine Wp.seq ?_
   refine Wp.region ?_
   refine LWp.o 2 (Y (bs [])) ?_
   refine LWp.o 3 (B false) ?_
   refine LWp.nil ?_
   cases h
   exact Wp.ret ⟨.inr rfl, _, _, rfl, rfl⟩
 refine Wp.skip ?_
 refine Wp.seq ?_
 refine Wp.regionK 27 [] mixed (fun c E h => by rcases h with ⟨h | h, _⟩ <;> cases h) ?_
 refine KWp.o 27 0 7 (.one (.ptr (.box 1) 1 [] 0)) ?_
 refine KWp.o 27 1 8 (I xP.Kind) ?_
 refine KWp.o 27 3 10 (.one (.ptr (.box 1) 1 [] 1)) ?_
 refine KWp.o 27 4 11 (I xP.Seq) ?_
 refine KWp.o 27 7 14 (.one (.ptr (.box 1) 1 [] 2)) ?_
 refine KWp.o 27 8 15 (I xP.Tx) ?_
 refine KWp.o 27 11 18 (.one (.ptr (.box 1) 1 [] 3)) ?_
 refine KWp.o 27 12 19 (I xP.Part) ?_
 refine KWp.o 27 15 22 (.one (.ptr (.box 1) 1 [] 4)) ?_
 refine KWp.o 27 16 23 (I xP.Count) ?_
 refine KWp.o 27 19 26 (.one (.ptr (.box 1) 1 [] 5)) ?_
 refine KWp.o 27 20 27 (Y xP.Text) ?_
 refine KWp.w1 2 ?_
 refine KOp.cl h 2 9 (fun v2 => (Y v2)) rfl rfl (l := [.sv (.one (.int .i64 xP.Kind))]) rfl (fun v hv => s_l06Byte_t xP.Kind v hv) (.inl rfl) ?_
 intro v2 gv2 h
 refine KWp.w1 5 ?_
 refine KOp.cl h 5 12 (fun v3 => (Y v3)) rfl rfl (l := [.sv (.one (.int .i64 xP.Seq))]) rfl (fun v hv => s_l01Var_t xP.Seq v hv) (.inl rfl) ?_
 intro v3 gv3 h
 refine KWp.p h 27 6 13 (fun x1 => (Y x1)) ?_ rfl (fun x1 gx1 => sl_pure (p_cat gx1))
 intro x1 gx1 h
 refine KWp.w1 9 ?_
 refine KOp.cl h 9 16 (fun v4 => (Y v4)) rfl rfl (l := [.sv (.one (.int .i64 xP.Tx))]) rfl (fun v hv => s_l01Var_t xP.Tx v hv) (.inl rfl) ?_
 intro v4 gv4 h
 refine KWp.p h 27 10 17 (fun x2 => (Y x2)) ?_ rfl (fun x2 gx2 => sl_pure (p_cat gx2))
 intro x2 gx2 h
 refine KWp.w1 13 ?_
 refine KOp.cl h 13 20 (fun v5 => (Y v5)) rfl rfl (l := [.sv (.one (.int .i64 xP.Part))]) rfl (fun v hv => s_l01Var_t xP.Part v hv) (.inl rfl) ?_
 intro v5 gv5 h
 refine KWp.p h 27 14 21 (fun x3 => (Y x3)) ?_ rfl (fun x3 gx3 => sl_pure (p_cat gx3))
 intro x3 gx3 h
 refine KWp.w1 17 ?_
 refine KOp.cl h 17 24 (fun v6 => (Y v6)) rfl rfl (l := [.sv (.one (.int .i64 xP.Count))]) rfl (fun v hv => s_l01Var_t xP.Count v hv) (.inl rfl) ?_
 intro v6 gv6 h
 refine KWp.p h 27 18 25 (fun x4 => (Y x4)) ?_ rfl (fun x4 gx4 => sl_pure (p_cat gx4))
 intro x4 gx4 h
 refine KWp.p h 27 21 28 (fun x5 => (Y x5)) ?_ rfl (fun x5 gx5 => sl_pure (p_cat gx5))
 intro x5 gx5 h
 refine KWp.w1 22 ?_
 refine KOp.cl h 22 29 (fun v7 => (.tup [(Y v7.1), (B v7.2)])) rfl rfl (l := [.sv (.one (.str x5))]) rfl (fun v hv => s_Sealed_t x5 v hv) (.inl rfl) ?_
 intro v7 gv7 h
 refine KWp.w2 23 24 ?_ ?_
 · refine KOp.e 23 29 0 30 (Y v7.1) ?_
   refine KWp.w1 24 ?_
   refine KOp.e 24 29 1 31 (B v7.2) ?_
   refine KWp.o 27 25 2 (Y v7.1) ?_
   refine KWp.o 27 26 3 (B v7.2) ?_
   refine KWp.done ?_
   cases h
   exact Wp.ret ⟨.inr rfl, _, _, rfl, rfl⟩
 refine KOp.e 24 29 1 31 (B v7.2) ?_
 refine KWp.w1 23 ?_
 refine KOp.e 23 29 0 30 (Y v7.1) ?_
 refine KWp.o 27 25 2 (Y v7.1) ?_
 refine KWp.o 27 26 3 (B v7.2) ?_
 refine KWp.done ?_
 cases h
 exact Wp.ret ⟨.inr rfl, _, _, rfl, rfl⟩
def s_ReadPage_H1 (xT : ByteArray) (v1 : ByteArray × Bool) (z1 : Bool) : St := mkSt [(0, (Y xT)), (2, (.one (.ptr (.box 2) 0 [] 0))), (4, (Y v1.1)), (6, (.one (.ptr (.box 24) 0 [] 0)))] [(.box 2, [.int .i64 0, .int .i64 0, .int .i64 0, .int .i64 0, .int .i64 0, .str (bs [])]), (.box 24, [.str v1.1, .int .i64 1, .bool z1])]
def s_ReadPage_H2 (v2 : Int × l06Cur) (v3 : Int × l06Cur) (v4 : Int × l06Cur) (v5 : Int × l06Cur) (x1 : Int) (x2 : ByteArray) (z2 : Bool) : St := mkSt [(2, (.one (.ptr (.box 2) 0 [] 0))), (7, (.one (.ptr (.box 7) 0 [] 0))), (64, (B z2))] [(.box 2, [.int .i64 0, .int .i64 0, .int .i64 0, .int .i64 0, .int .i64 0, .str (bs [])]), (.box 7, [.int .i64 (IntKind.i64.wrap x1), .int .i64 v2.1, .int .i64 v3.1, .int .i64 v4.1, .int .i64 v5.1, .str x2])]
set_option maxRecDepth 100000 in
theorem s_ReadPage_t (xT : ByteArray) (r : Page × Bool) (h : s_ReadPage xT = some r) : Gives Try.prog 17 [.sv (Y xT)] (.tup [(.agg [.int .i64 r.1.Kind, .int .i64 r.1.Seq, .int .i64 r.1.Tx, .int .i64 r.1.Part, .int .i64 r.1.Count, .str r.1.Text]), (B r.2)]) (List.replicate 1 .gone) := by
 unfold s_ReadPage at h
 refine gives_of Try.func17 rfl ?_
 rw [Try.ntmps17]
 refine Wp.seq ?_
 refine Wp.region ?_
 refine LWp.b [] 2 [.int .i64 0, .int .i64 0, .int .i64 0, .int .i64 0, .int .i64 0, .str (bs [])] ?_
 refine LWp.o 3 (B false) ?_
 refine LWp.nil ?_
 refine Wp.seq ?_
 refine Wp.region ?_
 refine LWp.o 11 (Y xT) ?_
 refine LWp.cl h 12 (fun v1 => (.tup [(Y v1.1), (B v1.2)])) rfl (l := [.sv (.one (.str xT))]) rfl (fun v hv => s_Unsealed_t xT v hv) (.inl rfl) ?_
 intro v1 gv1 h
 refine LWp.mt 12 10 (.tup [(Y v1.1), (B v1.2)]) ?_
 refine LWp.e 10 0 13 (Y v1.1) ?_
 refine LWp.e 10 1 14 (B v1.2) ?_
 refine LWp.o 4 (Y v1.1) ?_
 refine LWp.o 5 (B v1.2) ?_
 refine LWp.nil ?_
 refine Wp.seq ?_
 refine Wp.j1 h [0, 2, 4, 6] [.box 2, .box 24] (fun a => (s_ReadPage_H1 xT v1 a)) ?_ ?_
 · intro a h
   refine Wp.region ?_
   refine LWp.o 15 (Y v1.1) ?_
   refine LWp.o 16 (B v1.2) ?_
   refine LWp.o 17 (B (!v1.2)) ?_
   refine LWp.o 18 (B (!v1.2)) ?_
   refine LWp.sp h 18 (fun h => ?_) (fun h => ?_)
   · refine LWp.sh 19 ?_
     refine LWp.sh 20 ?_
     refine LWp.sh 21 ?_
     refine LWp.o 22 (B true) ?_
     refine LWp.o 23 (.agg [.str v1.1, .int .i64 1, .bool true]) ?_
     refine LWp.b [] 24 [.str v1.1, .int .i64 1, .bool true] ?_
     refine LWp.o 6 (.one (.ptr (.box 24) 1 [] 0)) ?_
     refine LWp.nil ?_
     cases h
     exact ⟨_, rfl, rfl, rfl⟩
   refine LWp.o 19 (Y v1.1) ?_
   refine LWp.o 20 (I (sln v1.1)) ?_
   refine LWp.o 21 (B (decide ((sln v1.1) < 1))) ?_
   refine LWp.o 22 (B (decide ((sln v1.1) < 1))) ?_
   refine LWp.o 23 (.agg [.str v1.1, .int .i64 1, .bool (decide ((sln v1.1) < 1))]) ?_
   refine LWp.b [] 24 [.str v1.1, .int .i64 1, .bool (decide ((sln v1.1) < 1))] ?_
   refine LWp.o 6 (.one (.ptr (.box 24) 1 [] 0)) ?_
   refine LWp.nil ?_
   cases h
   exact ⟨_, rfl, rfl, rfl⟩
 intro j1 h E hE
 refine nt_wp hE ?_
 change Wp _ _ _ (s_ReadPage_H1 xT v1 j1) _
 refine Wp.seq ?_
 refine Wp.region ?_
 refine LWp.o 25 (.one (.ptr (.box 24) 0 [] 0)) ?_
 refine LWp.cx h (.box 24) [.str v1.1, .int .i64 1, .bool j1] (some 26) (fun v2 => (I v2.1)) (fun v2 => [.str v2.2.text_, .int .i64 v2.2.at_, .bool v2.2.bad_]) rfl rfl (l := []) rfl (fun v hv => s_l06Var_t (l06Cur.mk v1.1 1 j1) v hv) (.inl rfl) (fun _ => rfl) ?_
 intro v2 gv2 h
 refine LWp.o 27 (.agg [.int .i64 0, .int .i64 v2.1, .int .i64 0, .int .i64 0, .int .i64 0, .str (bs [])]) ?_
 refine LWp.b [] 7 [.int .i64 0, .int .i64 0, .int .i64 0, .int .i64 0, .int .i64 0, .str (bs [])] ?_
 refine LWp.s [] (.box 7) [.int .i64 0, .int .i64 v2.1, .int .i64 0, .int .i64 0, .int .i64 0, .str (bs [])] ?_
 refine LWp.nil ?_
 refine Wp.seq ?_
 refine Wp.region ?_
 refine LWp.o 28 (.one (.ptr (.box 24) 0 [] 0)) ?_
 refine LWp.cx h (.box 24) [.str v2.2.text_, .int .i64 v2.2.at_, .bool v2.2.bad_] (some 29) (fun v3 => (I v3.1)) (fun v3 => [.str v3.2.text_, .int .i64 v3.2.at_, .bool v3.2.bad_]) rfl rfl (l := []) rfl (fun v hv => s_l06Var_t v2.2 v hv) (.inl rfl) (fun _ => rfl) ?_
 intro v3 gv3 h
 refine LWp.o 30 (.one (.ptr (.box 7) 1 [] 2)) ?_
 refine LWp.s [] (.box 7) [.int .i64 0, .int .i64 v2.1, .int .i64 v3.1, .int .i64 0, .int .i64 0, .str (bs [])] ?_
 refine LWp.nil ?_
 refine Wp.seq ?_
 refine Wp.region ?_
 refine LWp.o 31 (.one (.ptr (.box 24) 0 [] 0)) ?_
 refine LWp.cx h (.box 24) [.str v3.2.text_, .int .i64 v3.2.at_, .bool v3.2.bad_] (some 32) (fun v4 => (I v4.1)) (fun v4 => [.str v4.2.text_, .int .i64 v4.2.at_, .bool v4.2.bad_]) rfl rfl (l := []) rfl (fun v hv => s_l06Var_t v3.2 v hv) (.inl rfl) (fun _ => rfl) ?_
 intro v4 gv4 h
 refine LWp.o 33 (.one (.ptr (.box 7) 1 [] 3)) ?_
 refine LWp.s [] (.box 7) [.int .i64 0, .int .i64 v2.1, .int .i64 v3.1, .int .i64 v4.1, .int .i64 0, .str (bs [])] ?_
 refine LWp.nil ?_
 refine Wp.seq ?_
 refine Wp.region ?_
 refine LWp.o 34 (.one (.ptr (.box 24) 0 [] 0)) ?_
 refine LWp.cx h (.box 24) [.str v4.2.text_, .int .i64 v4.2.at_, .bool v4.2.bad_] (some 35) (fun v5 => (I v5.1)) (fun v5 => [.str v5.2.text_, .int .i64 v5.2.at_, .bool v5.2.bad_]) rfl rfl (l := []) rfl (fun v hv => s_l06Var_t v4.2 v hv) (.inl rfl) (fun _ => rfl) ?_
 intro v5 gv5 h
 refine LWp.o 36 (.one (.ptr (.box 7) 1 [] 4)) ?_
 refine LWp.s [] (.box 7) [.int .i64 0, .int .i64 v2.1, .int .i64 v3.1, .int .i64 v4.1, .int .i64 v5.1, .str (bs [])] ?_
 refine LWp.nil ?_
 refine Wp.seq ?_
 refine Wp.seq ?_
 refine Wp.region ?_
 refine LWp.o 37 (.one (.ptr (.box 24) 0 [] 0)) ?_
 refine LWp.o 38 (.one (.ptr (.box 24) 0 [] 0)) ?_
 refine LWp.o 39 (.one (.ptr (.box 24) 0 [] 2)) ?_
 refine LWp.o 40 (B v5.2.bad_) ?_
 refine LWp.nil ?_
 refine Wp.c h (fun h => ?_) (fun h => ?_)
 · refine Wp.seq ?_
   refine Wp.region ?_
   refine LWp.o 41 (.agg [.int .i64 0, .int .i64 0, .int .i64 0, .int .i64 0, .int .i64 0, .str (bs [])]) ?_
   refine LWp.s [] (.box 2) [.int .i64 0, .int .i64 0, .int .i64 0, .int .i64 0, .int .i64 0, .str (bs [])] ?_
   refine LWp.o 3 (B false) ?_
   refine LWp.nil ?_
   cases h
   exact Wp.ret ⟨.inr rfl, _, _, rfl, rfl⟩
 refine Wp.skip ?_
 refine Wp.seq ?_
 refine Wp.region ?_
 refine LWp.o 42 (Y v1.1) ?_
 refine LWp.p h 43 (fun x1 => (.one (.int .u8 x1))) ?_ (fun x1 gx1 => st_pure (p_sx gx1))
 intro x1 gx1 h
 refine LWp.o 44 (I (IntKind.i64.wrap x1)) ?_
 refine LWp.o 45 (.one (.ptr (.box 7) 1 [] 0)) ?_
 refine LWp.s [] (.box 7) [.int .i64 (IntKind.i64.wrap x1), .int .i64 v2.1, .int .i64 v3.1, .int .i64 v4.1, .int .i64 v5.1, .str (bs [])] ?_
 refine LWp.nil ?_
 refine Wp.seq ?_
 refine Wp.region ?_
 refine LWp.o 46 (Y v1.1) ?_
 refine LWp.o 47 (.one (.ptr (.box 24) 0 [] 0)) ?_
 refine LWp.o 48 (.one (.ptr (.box 24) 0 [] 0)) ?_
 refine LWp.o 49 (.one (.ptr (.box 24) 0 [] 1)) ?_
 refine LWp.o 50 (I v5.2.at_) ?_
 refine LWp.p h 51 (fun x2 => (Y x2)) ?_ (fun x2 gx2 => st_pure (p_sub gx2))
 intro x2 gx2 h
 refine LWp.o 52 (.one (.ptr (.box 7) 1 [] 5)) ?_
 refine LWp.s [] (.box 7) [.int .i64 (IntKind.i64.wrap x1), .int .i64 v2.1, .int .i64 v3.1, .int .i64 v4.1, .int .i64 v5.1, .str x2] ?_
 refine LWp.nil ?_
 refine Wp.seq ?_
 refine Wp.region ?_
 refine LWp.o 54 (.agg [.int .i64 (IntKind.i64.wrap x1), .int .i64 v2.1, .int .i64 v3.1, .int .i64 v4.1, .int .i64 v5.1, .str x2]) ?_
 refine LWp.cl h 55 (fun v6 => (.tup [(Y v6.1), (B v6.2)])) rfl (l := [.sv (.agg [.int .i64 (IntKind.i64.wrap x1), .int .i64 v2.1, .int .i64 v3.1, .int .i64 v4.1, .int .i64 v5.1, .str x2])]) rfl (fun v hv => s_PageText_t (Page.mk (IntKind.i64.wrap x1) v2.1 v3.1 v4.1 v5.1 x2) v hv) (.inl rfl) ?_
 intro v6 gv6 h
 refine LWp.mt 55 53 (.tup [(Y v6.1), (B v6.2)]) ?_
 refine LWp.e 53 0 56 (Y v6.1) ?_
 refine LWp.e 53 1 57 (B v6.2) ?_
 refine LWp.o 8 (Y v6.1) ?_
 refine LWp.o 9 (B v6.2) ?_
 refine LWp.nil ?_
 refine Wp.seq ?_
 refine Wp.seq ?_
 refine Wp.j1 h [2, 7, 64] [.box 2, .box 7] (fun a => (s_ReadPage_H2 v2 v3 v4 v5 x1 x2 a)) ?_ ?_
 · intro a h
   refine Wp.region ?_
   refine LWp.o 58 (B v6.2) ?_
   refine LWp.o 59 (B (!v6.2)) ?_
   refine LWp.o 60 (B (!v6.2)) ?_
   refine LWp.sp h 60 (fun h => ?_) (fun h => ?_)
   · refine LWp.sh 61 ?_
     refine LWp.sh 62 ?_
     refine LWp.sh 63 ?_
     refine LWp.o 64 (B true) ?_
     refine LWp.nil ?_
     cases h
     exact ⟨_, rfl, rfl, rfl⟩
   refine LWp.o 61 (Y v6.1) ?_
   refine LWp.o 62 (Y xT) ?_
   refine LWp.o 63 (B (!(seq v6.1 xT))) ?_
   refine LWp.o 64 (B (!(seq v6.1 xT))) ?_
   refine LWp.nil ?_
   cases h
   exact ⟨_, rfl, rfl, rfl⟩
 intro j2 h E hE
 refine nt_wp hE ?_
 change Wp _ _ _ (s_ReadPage_H2 v2 v3 v4 v5 x1 x2 j2) _
 refine Wp.c h (fun h => ?_) (fun h => ?_)
 · refine Wp.seq ?_
   refine Wp.region ?_
   refine LWp.o 65 (.agg [.int .i64 0, .int .i64 0, .int .i64 0, .int .i64 0, .int .i64 0, .str (bs [])]) ?_
   refine LWp.s [] (.box 2) [.int .i64 0, .int .i64 0, .int .i64 0, .int .i64 0, .int .i64 0, .str (bs [])] ?_
   refine LWp.o 3 (B false) ?_
   refine LWp.nil ?_
   cases h
   exact Wp.ret ⟨.inr rfl, _, _, rfl, rfl⟩
 refine Wp.skip ?_
 refine Wp.seq ?_
 refine Wp.region ?_
 refine LWp.o 66 (.agg [.int .i64 (IntKind.i64.wrap x1), .int .i64 v2.1, .int .i64 v3.1, .int .i64 v4.1, .int .i64 v5.1, .str x2]) ?_
 refine LWp.s [] (.box 2) [.int .i64 (IntKind.i64.wrap x1), .int .i64 v2.1, .int .i64 v3.1, .int .i64 v4.1, .int .i64 v5.1, .str x2] ?_
 refine LWp.o 3 (B true) ?_
 refine LWp.nil ?_
 cases h
 exact Wp.ret ⟨.inr rfl, _, _, rfl, rfl⟩
def c93 (x : Found) : List TV := [.int .i64 x.Block, .int .i64 x.Leaf, .int .i64 x.Page.Kind, .int .i64 x.Page.Seq, .int .i64 x.Page.Tx, .int .i64 x.Page.Part, .int .i64 x.Page.Count, .str x.Page.Text]
theorem k93 : ∀ x, (c93 x).length = 8 := fun _ => rfl
theorem sh93 : ∀ l, shares (encs c93 l) = encs c93 l := shares_encs (fun _ => rfl)
theorem ns93 : ∀ l, hasShareds (encs c93 l) = false := ns_encs (fun _ => rfl)
def s_ScanAll_H1 (xF : Flash) (z1 : List Found) (z2 : Int) : St := mkSt [(1, (.one (.ptr (.box 1) 0 [] 0))), (3, (.one (.sl true 93 8 (encs c93 z1)))), (4, (I z2))] [(.box 1, [.sl false 60 3 (encs (c60 false) xF.Blocks)])]
def s_ScanAll_H2 (z3 : List Found) : St := mkSt [(3, (.one (.sl true 93 8 (encs c93 z3))))] []
def s_ScanAll_H3 (xF : Flash) (yB1 : Int) (z4 : List Found) (z5 : Int) : St := mkSt [(1, (.one (.ptr (.box 1) 0 [] 0))), (3, (.one (.sl true 93 8 (encs c93 z4)))), (4, (I yB1)), (5, (I z5))] [(.box 1, [.sl false 60 3 (encs (c60 false) xF.Blocks)])]
def s_ScanAll_H4 (xF : Flash) (yB1 : Int) (z6 : List Found) : St := mkSt [(1, (.one (.ptr (.box 1) 0 [] 0))), (3, (.one (.sl true 93 8 (encs c93 z6)))), (4, (I yB1))] [(.box 1, [.sl false 60 3 (encs (c60 false) xF.Blocks)])]
def s_ScanAll_H5 (xF : Flash) (yB1 : Int) (yOut2 : List Found) (yK1 : Int) (v2 : Page × Bool) (z7 : Bool) : St := mkSt [(1, (.one (.ptr (.box 1) 0 [] 0))), (3, (.one (.sl true 93 8 (encs c93 yOut2)))), (4, (I yB1)), (5, (I yK1)), (8, (.one (.ptr (.box 8) 0 [] 0))), (47, (B z7))] [(.box 1, [.sl false 60 3 (encs (c60 false) xF.Blocks)]), (.box 8, [.int .i64 v2.1.Kind, .int .i64 v2.1.Seq, .int .i64 v2.1.Tx, .int .i64 v2.1.Part, .int .i64 v2.1.Count, .str v2.1.Text])]
def s_ScanAll_H6 (z8 : List Found) (z9 : Int) : St := mkSt [(3, (.one (.sl true 93 8 (encs c93 z8)))), (10, (I z9))] []
def s_ScanAll_H7 (z10 : List Found) : St := mkSt [(3, (.one (.sl true 93 8 (encs c93 z10))))] []
def s_ScanAll_H8 (yI1 : Int) (z11 : List Found) (z12 : Int) : St := mkSt [(3, (.one (.sl true 93 8 (encs c93 z11)))), (10, (I yI1)), (11, (I z12))] []
def s_ScanAll_H9 (yI1 : Int) (z13 : List Found) : St := mkSt [(3, (.one (.sl true 93 8 (encs c93 z13)))), (10, (I yI1))] []
def s_ScanAll_H10 (yI1 : Int) (yOut4 : List Found) (yK2 : Int) (z14 : Bool) : St := mkSt [(3, (.one (.sl true 93 8 (encs c93 yOut4)))), (10, (I yI1)), (11, (I yK2)), (79, (B z14))] []
set_option maxRecDepth 100000 in
theorem s_ScanAll_t (xF : Flash) (r : List Found) (h : s_ScanAll xF = some r) : Gives Try.prog 25 [.sv (.agg [.sl false 60 3 (encs (c60 false) xF.Blocks)])] (.one (.sl true 93 8 (encs c93 r))) (List.replicate 1 .gone) := by
 unfold s_ScanAll at h
 refine gives_of Try.func25 rfl ?_
 rw [Try.ntmps25]
 refine Wp.seq ?_
 refine Wp.region ?_
 refine LWp.b [] 1 [.sl false 60 3 (encs (c60 false) xF.Blocks)] ?_
 refine LWp.o 2 (.one (.sl true 93 8 (encs c93 []))) ?_
 refine LWp.nil ?_
 refine Wp.seq ?_
 refine Wp.region ?_
 refine LWp.m false [] 13 (.one (.sl true 93 8 (encs c93 []))) ?_
 refine LWp.m true [(.slot 13, [.junk])] 3 (.one (.sl true 93 8 (encs c93 []))) ?_
 refine LWp.nil ?_
 refine Wp.seq ?_
 refine Wp.seq ?_
 refine Wp.region ?_
 refine LWp.o 4 (I 0) ?_
 refine LWp.nil ?_
 refine Wp.l1 h [1, 3, 4] [.box 1] (fun s => (s_ScanAll_H1 xF s.1 s.2)) [3] [] (fun s => (s_ScanAll_H2 s)) ⟨rfl, rfl⟩ ?_ ?_
 · rintro ⟨yOut1, yB1⟩ o (h : s_ScanAll_b1 xF yOut1 yB1 = some o)
   unfold s_ScanAll_b1 at h
   change Wp _ _ _ (s_ScanAll_H1 xF yOut1 yB1) _
   refine Wp.seq ?_
   refine Wp.seq ?_
   refine Wp.region ?_
   refine LWp.o 14 (I yB1) ?_
   refine LWp.o 15 (.one (.ptr (.box 1) 0 [] 0)) ?_
   refine LWp.o 16 (.one (.sl false 60 3 (encs (c60 false) xF.Blocks))) ?_
   refine LWp.o 17 (I (ln xF.Blocks)) ?_ (st_pure (p_ln (k60 false) xF.Blocks))
   refine LWp.o 18 (B (decide (yB1 < (ln xF.Blocks)))) ?_
   refine LWp.nil ?_
   refine Wp.c h (fun h => ?_) (fun h => ?_)
   · refine Wp.skip ?_
     refine Wp.seq ?_
     refine Wp.block ?_
     refine Wp.seq ?_
     refine Wp.region ?_
     refine LWp.o 5 (I 0) ?_
     refine LWp.nil ?_
     refine Wp.l1 h [1, 3, 4, 5] [.box 1] (fun s => (s_ScanAll_H3 xF yB1 s.1 s.2)) [1, 3, 4] [.box 1] (fun s => (s_ScanAll_H4 xF yB1 s)) ⟨rfl, rfl⟩ ?_ ?_
     · rintro ⟨yOut2, yK1⟩ o (h : s_ScanAll_b2 xF yB1 yOut2 yK1 = some o)
       unfold s_ScanAll_b2 at h
       change Wp _ _ _ (s_ScanAll_H3 xF yB1 yOut2 yK1) _
       refine Wp.seq ?_
       refine Wp.seq ?_
       refine Wp.region ?_
       refine LWp.o 21 (I yK1) ?_
       refine LWp.o 22 (.one (.ptr (.box 1) 0 [] 0)) ?_
       refine LWp.o 23 (.one (.sl false 60 3 (encs (c60 false) xF.Blocks))) ?_
       refine LWp.o 24 (I yB1) ?_
       refine LWp.p h 25 (fun _ => (.one (.ptr (.slot 23) 1 [0] (Int.toNat yB1 * 3 + 0)))) ?_ (fun x1 gx1 => st_pure (p_ix (k60 false) (.slot 23) [] 0 gx1))
       intro x1 gx1 h
       refine LWp.o 26 (.one (.ptr (.slot 23) 1 [0] (Int.toNat yB1 * 3 + 2))) ?_ (st_pure (p_fa (k60 false) (.slot 23) [0] 0 gx1))
       refine LWp.o 27 (.one (.sl false 57 2 (encs c57 x1.Leaves))) ?_ (st_pure (p_lc (k60 false) (.slot 23) [0] 2 (.sl false 57 2 (encs c57 x1.Leaves)) gx1))
       refine LWp.o 28 (I (ln x1.Leaves)) ?_ (st_pure (p_ln k57 x1.Leaves))
       refine LWp.o 29 (B (decide (yK1 < (ln x1.Leaves)))) ?_
       refine LWp.nil ?_
       refine Wp.c h (fun h => ?_) (fun h => ?_)
       · refine Wp.skip ?_
         refine Wp.seq ?_
         refine Wp.block ?_
         refine Wp.seq ?_
         refine Wp.region ?_
         refine LWp.o 33 (.agg [.sl false 60 3 (encs (c60 false) xF.Blocks)]) ?_
         refine LWp.o 34 (I yB1) ?_
         refine LWp.o 35 (I yK1) ?_
         refine LWp.cl h 36 (fun v1 => (.tup [(Y v1.1), (B v1.2)])) rfl (l := [.sv (.agg [.sl false 60 3 (encs (c60 false) xF.Blocks)]), .sv (.one (.int .i64 yB1)), .sv (.one (.int .i64 yK1))]) rfl (fun v hv => s_ReadLeaf_t xF yB1 yK1 v hv) (.inl rfl) ?_
         intro v1 gv1 h
         refine LWp.mt 36 32 (.tup [(Y v1.1), (B v1.2)]) ?_
         refine LWp.e 32 0 37 (Y v1.1) ?_
         refine LWp.e 32 1 38 (B v1.2) ?_
         refine LWp.o 6 (Y v1.1) ?_
         refine LWp.o 7 (B v1.2) ?_
         refine LWp.nil ?_
         refine Wp.seq ?_
         refine Wp.region ?_
         refine LWp.o 40 (Y v1.1) ?_
         refine LWp.cl h 41 (fun v2 => (.tup [(.agg [.int .i64 v2.1.Kind, .int .i64 v2.1.Seq, .int .i64 v2.1.Tx, .int .i64 v2.1.Part, .int .i64 v2.1.Count, .str v2.1.Text]), (B v2.2)])) rfl (l := [.sv (.one (.str v1.1))]) rfl (fun v hv => s_ReadPage_t v1.1 v hv) (.inl rfl) ?_
         intro v2 gv2 h
         refine LWp.mt 41 39 (.tup [(.agg [.int .i64 v2.1.Kind, .int .i64 v2.1.Seq, .int .i64 v2.1.Tx, .int .i64 v2.1.Part, .int .i64 v2.1.Count, .str v2.1.Text]), (B v2.2)]) ?_
         refine LWp.e 39 0 42 (.agg [.int .i64 v2.1.Kind, .int .i64 v2.1.Seq, .int .i64 v2.1.Tx, .int .i64 v2.1.Part, .int .i64 v2.1.Count, .str v2.1.Text]) ?_
         refine LWp.e 39 1 43 (B v2.2) ?_
         refine LWp.b [] 8 [.int .i64 0, .int .i64 0, .int .i64 0, .int .i64 0, .int .i64 0, .str (bs [])] ?_
         refine LWp.s [] (.box 8) [.int .i64 v2.1.Kind, .int .i64 v2.1.Seq, .int .i64 v2.1.Tx, .int .i64 v2.1.Part, .int .i64 v2.1.Count, .str v2.1.Text] ?_
         refine LWp.o 9 (B v2.2) ?_
         refine LWp.nil ?_
         refine Wp.seq ?_
         refine Wp.j1 h [1, 3, 4, 5, 8, 47] [.box 1, .box 8] (fun a => (s_ScanAll_H5 xF yB1 yOut2 yK1 v2 a)) ?_ ?_
         · intro a h
           refine Wp.region ?_
           refine LWp.o 44 (B v1.2) ?_
           refine LWp.o 45 (B v1.2) ?_
           refine LWp.sp h 45 (fun h => ?_) (fun h => ?_)
           · refine LWp.o 46 (B v2.2) ?_
             refine LWp.o 47 (B v2.2) ?_
             refine LWp.nil ?_
             cases h
             exact ⟨_, rfl, rfl, rfl⟩
           refine LWp.sh 46 ?_
           refine LWp.o 47 (B false) ?_
           refine LWp.nil ?_
           cases h
           exact ⟨_, rfl, rfl, rfl⟩
         intro j1 h E hE
         refine nt_wp hE ?_
         change Wp _ _ _ (s_ScanAll_H5 xF yB1 yOut2 yK1 v2 j1) _
         refine Wp.c h (fun h => ?_) (fun h => ?_)
         · refine Wp.region ?_
           refine LWp.o 48 (.one (.view (.slot 3) 0 [] 0)) ?_
           refine LWp.o 49 (I yB1) ?_
           refine LWp.o 50 (I yK1) ?_
           refine LWp.o 51 (.agg [.int .i64 v2.1.Kind, .int .i64 v2.1.Seq, .int .i64 v2.1.Tx, .int .i64 v2.1.Part, .int .i64 v2.1.Count, .str v2.1.Text]) ?_
           refine LWp.o 52 (.agg [.int .i64 yB1, .int .i64 yK1, .int .i64 v2.1.Kind, .int .i64 v2.1.Seq, .int .i64 v2.1.Tx, .int .i64 v2.1.Part, .int .i64 v2.1.Count, .str v2.1.Text]) ?_
           refine LWp.m false [] 53 (.one (.sl true 93 8 (encs c93 [(Found.mk yB1 yK1 v2.1)]))) ?_
           refine LWp.pm h [(.slot 3, [.junk])] 54 (fun c1 => (.one (.sl true 93 8 (encs c93 c1)))) ?_ (fun c1 gc1 => s_apl k93 (fun _ => rfl) [(.slot 3, [.junk])] yOut2 gc1)
           intro c1 gc1 h
           refine LWp.m true [(.slot 54, [.junk])] 3 (.one (.sl true 93 8 (encs c93 c1))) ?_
           refine LWp.nil ?_
           refine Wp.region ?_
           refine LWp.o 30 (I yK1) ?_
           refine LWp.o 31 (I (ad yK1 1)) ?_
           refine LWp.o 5 (I (ad yK1 1)) ?_
           refine LWp.nil ?_
           cases h
           exact ⟨_, rfl, rfl, rfl⟩
         refine Wp.skip ?_
         refine Wp.region ?_
         refine LWp.o 30 (I yK1) ?_
         refine LWp.o 31 (I (ad yK1 1)) ?_
         refine LWp.o 5 (I (ad yK1 1)) ?_
         refine LWp.nil ?_
         cases h
         exact ⟨_, rfl, rfl, rfl⟩
       refine Wp.exit ?_
       cases h
       exact ⟨_, rfl, rfl, rfl⟩
     intro v3 h E hE
     refine nt_wp hE ?_
     change Wp _ _ _ (s_ScanAll_H4 xF yB1 v3) _
     refine Wp.region ?_
     refine LWp.o 19 (I yB1) ?_
     refine LWp.o 20 (I (ad yB1 1)) ?_
     refine LWp.o 4 (I (ad yB1 1)) ?_
     refine LWp.nil ?_
     cases h
     exact ⟨_, rfl, rfl, rfl⟩
   refine Wp.exit ?_
   cases h
   exact ⟨_, rfl, rfl, rfl⟩
 intro v4 h E hE
 refine nt_wp hE ?_
 change Wp _ _ _ (s_ScanAll_H2 v4) _
 refine Wp.seq ?_
 refine Wp.seq ?_
 refine Wp.region ?_
 refine LWp.o 10 (I 1) ?_
 refine LWp.nil ?_
 refine Wp.l1 h [3, 10] [] (fun s => (s_ScanAll_H6 s.1 s.2)) [3] [] (fun s => (s_ScanAll_H7 s)) ⟨rfl, rfl⟩ ?_ ?_
 · rintro ⟨yOut3, yI1⟩ o (h : s_ScanAll_b3 yOut3 yI1 = some o)
   unfold s_ScanAll_b3 at h
   change Wp _ _ _ (s_ScanAll_H6 yOut3 yI1) _
   refine Wp.seq ?_
   refine Wp.seq ?_
   refine Wp.region ?_
   refine LWp.o 55 (I yI1) ?_
   refine LWp.o 56 (.one (.view (.slot 3) 0 [] 0)) ?_
   refine LWp.o 57 (I (ln yOut3)) ?_ (st_pure (p_ln k93 yOut3))
   refine LWp.o 58 (B (decide (yI1 < (ln yOut3)))) ?_
   refine LWp.nil ?_
   refine Wp.c h (fun h => ?_) (fun h => ?_)
   · refine Wp.skip ?_
     refine Wp.seq ?_
     refine Wp.block ?_
     refine Wp.seq ?_
     refine Wp.region ?_
     refine LWp.o 61 (I yI1) ?_
     refine LWp.o 11 (I yI1) ?_
     refine LWp.nil ?_
     refine Wp.l1 h [3, 10, 11] [] (fun s => (s_ScanAll_H8 yI1 s.1 s.2)) [3, 10] [] (fun s => (s_ScanAll_H9 yI1 s)) ⟨rfl, rfl⟩ ?_ ?_
     · rintro ⟨yOut4, yK2⟩ o (h : s_ScanAll_b4 yOut4 yK2 = some o)
       unfold s_ScanAll_b4 at h
       change Wp _ _ _ (s_ScanAll_H8 yI1 yOut4 yK2) _
       refine Wp.seq ?_
       refine Wp.seq ?_
       refine Wp.j1 h [3, 10, 11, 79] [] (fun a => (s_ScanAll_H10 yI1 yOut4 yK2 a)) ?_ ?_
       · intro a h
         refine Wp.regionS mixed (by decide +kernel) ?_
         refine SWp.o 62 (I yK2) ?_
         refine SWp.o 63 (B (decide (yK2 > 0))) ?_
         refine SWp.o 64 (B (decide (yK2 > 0))) ?_
         refine SWp.sp h 64 (fun h => ?_) (fun h => ?_)
         · refine SWp.o 65 (.one (.view (.slot 3) 0 [] 0)) ?_
           refine SWp.o 66 (I yK2) ?_
           refine SWp.o 67 (I (sb yK2 1)) ?_
           refine SWp.p h 68 (fun _ => (.one (.ptr (.slot 3) 0 [0] (Int.toNat (sb yK2 1) * 8 + 0)))) ?_ (fun x2 gx2 => sl_pure (p_ix k93 (.slot 3) [] 0 gx2))
           intro x2 gx2 h
           refine SWp.o 69 (.one (.ptr (.slot 3) 0 [0] (Int.toNat (sb yK2 1) * 8 + 2))) ?_ (sl_pure (p_fa k93 (.slot 3) [0] 0 gx2))
           refine SWp.o 70 (.one (.ptr (.slot 3) 0 [0] (Int.toNat (sb yK2 1) * 8 + 3))) ?_ (sl_pure (p_fa k93 (.slot 3) [0] 2 gx2))
           refine SWp.o 71 (I x2.Page.Seq) ?_ (sl_pure (p_lc k93 (.slot 3) [0] 3 (.int .i64 x2.Page.Seq) gx2))
           refine SWp.o 72 (.one (.view (.slot 3) 0 [] 0)) ?_
           refine SWp.o 73 (I yK2) ?_
           refine SWp.p h 74 (fun _ => (.one (.ptr (.slot 3) 0 [0] (Int.toNat yK2 * 8 + 0)))) ?_ (fun x3 gx3 => sl_pure (p_ix k93 (.slot 3) [] 0 gx3))
           intro x3 gx3 h
           refine SWp.o 75 (.one (.ptr (.slot 3) 0 [0] (Int.toNat yK2 * 8 + 2))) ?_ (sl_pure (p_fa k93 (.slot 3) [0] 0 gx3))
           refine SWp.o 76 (.one (.ptr (.slot 3) 0 [0] (Int.toNat yK2 * 8 + 3))) ?_ (sl_pure (p_fa k93 (.slot 3) [0] 2 gx3))
           refine SWp.o 77 (I x3.Page.Seq) ?_ (sl_pure (p_lc k93 (.slot 3) [0] 3 (.int .i64 x3.Page.Seq) gx3))
           refine SWp.o 78 (B (decide (x2.Page.Seq > x3.Page.Seq))) ?_
           refine SWp.o 79 (B (decide (x2.Page.Seq > x3.Page.Seq))) ?_
           refine SWp.nil ?_
           cases h
           exact ⟨_, rfl, rfl, rfl⟩
         refine SWp.sh 65 ?_
         refine SWp.sh 66 ?_
         refine SWp.sh 67 ?_
         refine SWp.sh 68 ?_
         refine SWp.sh 69 ?_
         refine SWp.sh 70 ?_
         refine SWp.sh 71 ?_
         refine SWp.sh 72 ?_
         refine SWp.sh 73 ?_
         refine SWp.sh 74 ?_
         refine SWp.sh 75 ?_
         refine SWp.sh 76 ?_
         refine SWp.sh 77 ?_
         refine SWp.sh 78 ?_
         refine SWp.o 79 (B false) ?_
         refine SWp.nil ?_
         cases h
         exact ⟨_, rfl, rfl, rfl⟩
       intro j2 h E hE
       refine nt_wp hE ?_
       change Wp _ _ _ (s_ScanAll_H10 yI1 yOut4 yK2 j2) _
       refine Wp.c h (fun h => ?_) (fun h => ?_)
       · refine Wp.skip ?_
         refine Wp.seq ?_
         refine Wp.block ?_
         refine Wp.seq ?_
         refine Wp.region ?_
         refine LWp.o 82 (.one (.view (.slot 3) 0 [] 0)) ?_
         refine LWp.o 83 (I yK2) ?_
         refine LWp.p h 84 (fun _ => (.one (.ptr (.slot 3) 0 [0] (Int.toNat yK2 * 8 + 0)))) ?_ (fun x4 gx4 => st_pure (p_ix k93 (.slot 3) [] 0 gx4))
         intro x4 gx4 h
         refine LWp.o 85 (.agg [.int .i64 x4.Block, .int .i64 x4.Leaf, .int .i64 x4.Page.Kind, .int .i64 x4.Page.Seq, .int .i64 x4.Page.Tx, .int .i64 x4.Page.Part, .int .i64 x4.Page.Count, .str x4.Page.Text]) ?_ (st_pure (p_le k93 (.slot 3) [0] gx4))
         refine LWp.b [] 12 [.int .i64 0, .int .i64 0, .int .i64 0, .int .i64 0, .int .i64 0, .int .i64 0, .int .i64 0, .str (bs [])] ?_
         refine LWp.s [] (.box 12) [.int .i64 x4.Block, .int .i64 x4.Leaf, .int .i64 x4.Page.Kind, .int .i64 x4.Page.Seq, .int .i64 x4.Page.Tx, .int .i64 x4.Page.Part, .int .i64 x4.Page.Count, .str x4.Page.Text] ?_
         refine LWp.nil ?_
         refine Wp.seq ?_
         refine Wp.region ?_
         refine LWp.o 86 (.one (.view (.slot 3) 0 [] 0)) ?_
         refine LWp.o 87 (I yK2) ?_
         refine LWp.o 88 (.one (.view (.slot 3) 0 [] 0)) ?_
         refine LWp.o 89 (I yK2) ?_
         refine LWp.o 90 (I (sb yK2 1)) ?_
         refine LWp.p h 91 (fun _ => (.one (.ptr (.slot 3) 0 [0] (Int.toNat (sb yK2 1) * 8 + 0)))) ?_ (fun x5 gx5 => st_pure (p_ix k93 (.slot 3) [] 0 gx5))
         intro x5 gx5 h
         refine LWp.o 92 (.agg [.int .i64 x5.Block, .int .i64 x5.Leaf, .int .i64 x5.Page.Kind, .int .i64 x5.Page.Seq, .int .i64 x5.Page.Tx, .int .i64 x5.Page.Part, .int .i64 x5.Page.Count, .str x5.Page.Text]) ?_ (st_pure (p_le k93 (.slot 3) [0] gx5))
         refine LWp.p h 93 (fun _ => (.one (.ptr (.slot 3) 0 [0] (Int.toNat yK2 * 8 + 0)))) ?_ (fun x6 gx6 => st_pure (p_ix k93 (.slot 3) [] 0 gx6))
         intro x6 gx6 h
         refine LWp.sb [] (.slot 3) [.sl true 93 8 (encs c93 (si yOut4 yK2 x5))] ?_ (s_st [] (q := [0]) (cs := [.sl true 93 8 (encs c93 yOut4)]) (xs := [.int .i64 x5.Block, .int .i64 x5.Leaf, .int .i64 x5.Page.Kind, .int .i64 x5.Page.Seq, .int .i64 x5.Page.Tx, .int .i64 x5.Page.Part, .int .i64 x5.Page.Count, .str x5.Page.Text]) (At.one (setRow_gi k93 (k := 0) (z := x5) gx6 rfl rfl)) (fit_gi k93 (k := 0) gx6 rfl))
         refine LWp.nil ?_
         refine Wp.region ?_
         refine LWp.o 94 (.one (.view (.slot 3) 1 [] 0)) ?_
         refine LWp.o 95 (I yK2) ?_
         refine LWp.o 96 (I (sb yK2 1)) ?_
         refine LWp.o 97 (.agg [.int .i64 x4.Block, .int .i64 x4.Leaf, .int .i64 x4.Page.Kind, .int .i64 x4.Page.Seq, .int .i64 x4.Page.Tx, .int .i64 x4.Page.Part, .int .i64 x4.Page.Count, .str x4.Page.Text]) ?_
         refine LWp.p h 98 (fun _ => (.one (.ptr (.slot 3) 1 [0] (Int.toNat (sb yK2 1) * 8 + 0)))) ?_ (fun x7 gx7 => st_pure (p_ix k93 (.slot 3) [] 0 gx7))
         intro x7 gx7 h
         refine LWp.sb [] (.slot 3) [.sl true 93 8 (encs c93 (si (si yOut4 yK2 x5) (sb yK2 1) x4))] ?_ (s_st [] (q := [0]) (cs := [.sl true 93 8 (encs c93 (si yOut4 yK2 x5))]) (xs := [.int .i64 x4.Block, .int .i64 x4.Leaf, .int .i64 x4.Page.Kind, .int .i64 x4.Page.Seq, .int .i64 x4.Page.Tx, .int .i64 x4.Page.Part, .int .i64 x4.Page.Count, .str x4.Page.Text]) (At.one (setRow_gi k93 (k := 0) (z := x4) gx7 rfl rfl)) (fit_gi k93 (k := 0) gx7 rfl))
         refine LWp.nil ?_
         refine Wp.region ?_
         refine LWp.o 80 (I yK2) ?_
         refine LWp.o 81 (I (sb yK2 1)) ?_
         refine LWp.o 11 (I (sb yK2 1)) ?_
         refine LWp.nil ?_
         cases h
         exact ⟨_, rfl, rfl, rfl⟩
       refine Wp.exit ?_
       cases h
       exact ⟨_, rfl, rfl, rfl⟩
     intro v5 h E hE
     refine nt_wp hE ?_
     change Wp _ _ _ (s_ScanAll_H9 yI1 v5) _
     refine Wp.region ?_
     refine LWp.o 59 (I yI1) ?_
     refine LWp.o 60 (I (ad yI1 1)) ?_
     refine LWp.o 10 (I (ad yI1 1)) ?_
     refine LWp.nil ?_
     cases h
     exact ⟨_, rfl, rfl, rfl⟩
   refine Wp.exit ?_
   cases h
   exact ⟨_, rfl, rfl, rfl⟩
 intro v6 h E hE
 refine nt_wp hE ?_
 change Wp _ _ _ (s_ScanAll_H7 v6) _
 refine Wp.seq ?_
 refine Wp.region ?_
 refine LWp.o 99 (.one (.view (.slot 3) 0 [] 0)) ?_
 refine LWp.m true [(.slot 3, [.junk])] 2 (.one (.sl true 93 8 (encs c93 v6))) ?_
 refine LWp.nil ?_
 cases h
 exact Wp.ret ⟨.inr rfl, _, _, rfl, rfl⟩
end Go.TI
