/- That they compute it. No condition. -/
import Derived.Test.YtpbgcipjfejjhaaSFD
import Derived.Test.YtpbgcipjfejjhaaProg
namespace Go.TI
open Go Go.Proofs
set_option linter.unusedVariables false
set_option linter.unusedSimpArgs false
theorem mixed : Try.prog.follows .mixedOrders = true := rfl

set_option maxRecDepth 100000 in
theorem w_szLeaf_t (xA : Leaf) (xLeft : Int) (r : Int) (h : w_szLeaf xA xLeft = some r) : Gives Try.prog 72 [.sv (.agg [.int .i64 xA.Is, .str xA.Text]), .sv (I xLeft)] (I r) (List.replicate 2 .gone) := by
 unfold w_szLeaf at h
 refine gives_of Try.func72 rfl ?_
 rw [Try.ntmps72]
 refine Wp.seq ?_
 refine Wp.region ?_
 refine LWp.b [] 2 [.int .i64 xA.Is, .str xA.Text] ?_
 refine LWp.o 4 (I 0) ?_
 refine LWp.nil ?_
 refine Wp.seq ?_
 refine Wp.region ?_
 refine LWp.o 5 (I xLeft) ?_
 refine LWp.o 6 (.one (.ptr (.box 2) 1 [] 1)) ?_
 refine LWp.o 7 (Y xA.Text) ?_
 refine LWp.o 8 (I (sln xA.Text)) ?_
 refine LWp.o 9 (I (sb xLeft (sln xA.Text))) ?_
 refine LWp.o 1 (I (sb xLeft (sln xA.Text))) ?_
 refine LWp.nil ?_
 refine Wp.seq ?_
 refine Wp.seq ?_
 refine Wp.region ?_
 refine LWp.o 10 (I (sb xLeft (sln xA.Text))) ?_
 refine LWp.o 11 (B (decide ((sb xLeft (sln xA.Text)) < 0))) ?_
 refine LWp.nil ?_
 refine Wp.c h (fun h => ?_) (fun h => ?_)
 · refine Wp.seq ?_
   refine Wp.region ?_
   refine LWp.o 4 (I (-1)) ?_
   refine LWp.nil ?_
   cases h
   exact Wp.ret ⟨.inr rfl, _, _, rfl, rfl⟩
 refine Wp.skip ?_
 refine Wp.seq ?_
 refine Wp.region ?_
 refine LWp.o 12 (I (sb xLeft (sln xA.Text))) ?_
 refine LWp.o 4 (I (sb xLeft (sln xA.Text))) ?_
 refine LWp.nil ?_
 cases h
 exact Wp.ret ⟨.inr rfl, _, _, rfl, rfl⟩
def c132 (x : Leaf) : List TV := [.int .i64 x.Is, .str x.Text]
theorem k132 : ∀ x, (c132 x).length = 2 := fun _ => rfl
theorem sh132 : ∀ l, shares (encs c132 l) = encs c132 l := shares_encs (fun _ => rfl)
theorem ns132 : ∀ l, hasShareds (encs c132 l) = false := ns_encs (fun _ => rfl)
def w_szLeafS_H1 (xA : List Leaf) (z1 : Int) (z2 : Int) : St := mkSt [(0, (.one (.sl false 132 2 (encs c132 xA)))), (1, (I z1)), (5, (I z2))] []
def w_szLeafS_H2 (z3 : Int) : St := mkSt [(1, (I z3))] []
set_option maxRecDepth 100000 in
theorem w_szLeafS_t (xA : List Leaf) (xLeft : Int) (r : Int) (h : w_szLeafS xA xLeft = some r) : Gives Try.prog 50 [.sv (.one (.sl false 132 2 (encs c132 xA))), .sv (I xLeft)] (I r) (List.replicate 2 .gone) := by
 unfold w_szLeafS at h
 refine gives_of Try.func50 rfl ?_
 rw [Try.ntmps50]
 refine Wp.seq ?_
 refine Wp.region ?_
 refine LWp.o 4 (I 0) ?_
 refine LWp.nil ?_
 refine Wp.seq ?_
 refine Wp.region ?_
 refine LWp.o 6 (I xLeft) ?_
 refine LWp.o 7 (.one (.sl false 132 2 (encs c132 xA))) ?_
 refine LWp.o 8 (I (ln xA)) ?_ (st_pure (p_ln k132 xA))
 refine LWp.o 9 (I (sb xLeft (ln xA))) ?_
 refine LWp.o 1 (I (sb xLeft (ln xA))) ?_
 refine LWp.nil ?_
 refine Wp.seq ?_
 refine Wp.seq ?_
 refine Wp.region ?_
 refine LWp.o 10 (I (sb xLeft (ln xA))) ?_
 refine LWp.o 11 (B (decide ((sb xLeft (ln xA)) < 0))) ?_
 refine LWp.nil ?_
 refine Wp.c h (fun h => ?_) (fun h => ?_)
 · refine Wp.seq ?_
   refine Wp.region ?_
   refine LWp.o 4 (I (-1)) ?_
   refine LWp.nil ?_
   cases h
   exact Wp.ret ⟨.inr rfl, _, _, rfl, rfl⟩
 refine Wp.skip ?_
 refine Wp.seq ?_
 refine Wp.seq ?_
 refine Wp.region ?_
 refine LWp.o 5 (I 0) ?_
 refine LWp.nil ?_
 refine Wp.l2 h [0, 1, 5] [] (fun s => (w_szLeafS_H1 xA s.1 s.2)) [1] [] (fun s => (w_szLeafS_H2 s)) ⟨rfl, rfl⟩ ?_ ?_
 · rintro ⟨yLeft1, yI1⟩ o (h : w_szLeafS_b1 xA yLeft1 yI1 = some o) hk1
   unfold w_szLeafS_b1 at h
   change Wp _ _ _ (w_szLeafS_H1 xA yLeft1 yI1) _
   refine Wp.seq ?_
   refine Wp.seq ?_
   refine Wp.region ?_
   refine LWp.o 12 (I yI1) ?_
   refine LWp.o 13 (.one (.sl false 132 2 (encs c132 xA))) ?_
   refine LWp.o 14 (I (ln xA)) ?_ (st_pure (p_ln k132 xA))
   refine LWp.o 15 (B (decide (yI1 < (ln xA)))) ?_
   refine LWp.nil ?_
   refine Wp.c h (fun h => ?_) (fun h => ?_)
   · refine Wp.skip ?_
     refine Wp.seq ?_
     refine Wp.block ?_
     refine Wp.seq ?_
     refine Wp.region ?_
     refine LWp.o 18 (.one (.sl false 132 2 (encs c132 xA))) ?_
     refine LWp.o 19 (I yI1) ?_
     refine LWp.p h 20 (fun _ => (.one (.ptr (.slot 18) 1 [0] (Int.toNat yI1 * 2 + 0)))) ?_ (fun x1 gx1 => st_pure (p_ix k132 (.slot 18) [] 0 gx1))
     intro x1 gx1 h
     refine LWp.o 21 (.agg [.int .i64 x1.Is, .str x1.Text]) ?_ (st_pure (p_le k132 (.slot 18) [0] gx1))
     refine LWp.o 22 (I yLeft1) ?_
     refine LWp.cl h 23 (fun v1 => (I v1)) rfl (l := [.sv (.agg [.int .i64 x1.Is, .str x1.Text]), .sv (.one (.int .i64 yLeft1))]) rfl (fun v hv => w_szLeaf_t x1 yLeft1 v hv) (.inl rfl) ?_
     intro v1 gv1 h
     refine LWp.o 1 (I v1) ?_
     refine LWp.nil ?_
     refine Wp.seq ?_
     refine Wp.region ?_
     refine LWp.o 24 (I v1) ?_
     refine LWp.o 25 (B (decide (v1 < 0))) ?_
     refine LWp.nil ?_
     refine Wp.c h (fun h => ?_) (fun h => ?_)
     · refine Wp.seq ?_
       refine Wp.region ?_
       refine LWp.o 4 (I (-1)) ?_
       refine LWp.nil ?_
       cases h
       replace h : some _ = some _ := hk1 _ rfl
       cases h
       exact Wp.ret ⟨.inr rfl, _, _, rfl, rfl⟩
     refine Wp.skip ?_
     refine Wp.region ?_
     refine LWp.o 16 (I yI1) ?_
     refine LWp.o 17 (I (ad yI1 1)) ?_
     refine LWp.o 5 (I (ad yI1 1)) ?_
     refine LWp.nil ?_
     cases h
     exact ⟨_, rfl, rfl, rfl⟩
   refine Wp.exit ?_
   cases h
   exact ⟨_, rfl, rfl, rfl⟩
 intro v2 h E hE
 refine nt_wp hE ?_
 change Wp _ _ _ (w_szLeafS_H2 v2) _
 refine Wp.seq ?_
 refine Wp.region ?_
 refine LWp.o 26 (I v2) ?_
 refine LWp.o 4 (I v2) ?_
 refine LWp.nil ?_
 cases h
 exact Wp.ret ⟨.inr rfl, _, _, rfl, rfl⟩
set_option maxRecDepth 100000 in
theorem w_szBlock_t (xA : Block) (xLeft : Int) (r : Int) (h : w_szBlock xA xLeft = some r) : Gives Try.prog 31 [.sv (.agg [.bool xA.Bad, .int .i64 xA.Wear, .sl false 132 2 (encs c132 xA.Leaves)]), .sv (I xLeft)] (I r) (List.replicate 2 .gone) := by
 unfold w_szBlock at h
 refine gives_of Try.func31 rfl ?_
 rw [Try.ntmps31]
 refine Wp.seq ?_
 refine Wp.region ?_
 refine LWp.b [] 2 [.bool xA.Bad, .int .i64 xA.Wear, .sl false 132 2 (encs c132 xA.Leaves)] ?_
 refine LWp.o 4 (I 0) ?_
 refine LWp.nil ?_
 refine Wp.seq ?_
 refine Wp.region ?_
 refine LWp.o 5 (.one (.ptr (.box 2) 1 [] 2)) ?_
 refine LWp.o 6 (.one (.sl false 132 2 (encs c132 xA.Leaves))) ?_
 refine LWp.o 7 (I xLeft) ?_
 refine LWp.cl h 8 (fun v1 => (I v1)) rfl (l := [.sv (.one (.sl false 132 2 (encs c132 xA.Leaves))), .sv (.one (.int .i64 xLeft))]) rfl (fun v hv => w_szLeafS_t xA.Leaves xLeft v hv) (.inl rfl) ?_
 intro v1 gv1 h
 refine LWp.o 1 (I v1) ?_
 refine LWp.nil ?_
 refine Wp.seq ?_
 refine Wp.seq ?_
 refine Wp.region ?_
 refine LWp.o 9 (I v1) ?_
 refine LWp.o 10 (B (decide (v1 < 0))) ?_
 refine LWp.nil ?_
 refine Wp.c h (fun h => ?_) (fun h => ?_)
 · refine Wp.seq ?_
   refine Wp.region ?_
   refine LWp.o 4 (I (-1)) ?_
   refine LWp.nil ?_
   cases h
   exact Wp.ret ⟨.inr rfl, _, _, rfl, rfl⟩
 refine Wp.skip ?_
 refine Wp.seq ?_
 refine Wp.region ?_
 refine LWp.o 11 (I v1) ?_
 refine LWp.o 4 (I v1) ?_
 refine LWp.nil ?_
 cases h
 exact Wp.ret ⟨.inr rfl, _, _, rfl, rfl⟩
def c78 (o : Bool) (x : Block) : List TV := [.bool x.Bad, .int .i64 x.Wear, .sl o 132 2 (encs c132 x.Leaves)]
theorem k78 (o : Bool) : ∀ x, (c78 o x).length = 3 := fun _ => rfl
theorem sh78 : ∀ l, shares (encs (c78 true) l) = encs (c78 false) l := shares_encs (fun x => by simp only [c78, shares, share, sh132])
theorem ns78 : ∀ l, hasShareds (encs (c78 true) l) = false := ns_encs (fun x => by simp [c78, hasShareds, hasShared, ns132])
def w_szBlockS_H1 (xA : List Block) (z1 : Int) (z2 : Int) : St := mkSt [(0, (.one (.sl false 78 3 (encs (c78 false) xA)))), (1, (I z1)), (5, (I z2))] []
def w_szBlockS_H2 (z3 : Int) : St := mkSt [(1, (I z3))] []
set_option maxRecDepth 100000 in
theorem w_szBlockS_t (xA : List Block) (xLeft : Int) (r : Int) (h : w_szBlockS xA xLeft = some r) : Gives Try.prog 15 [.sv (.one (.sl false 78 3 (encs (c78 false) xA))), .sv (I xLeft)] (I r) (List.replicate 2 .gone) := by
 unfold w_szBlockS at h
 refine gives_of Try.func15 rfl ?_
 rw [Try.ntmps15]
 refine Wp.seq ?_
 refine Wp.region ?_
 refine LWp.o 4 (I 0) ?_
 refine LWp.nil ?_
 refine Wp.seq ?_
 refine Wp.region ?_
 refine LWp.o 6 (I xLeft) ?_
 refine LWp.o 7 (.one (.sl false 78 3 (encs (c78 false) xA))) ?_
 refine LWp.o 8 (I (ln xA)) ?_ (st_pure (p_ln (k78 false) xA))
 refine LWp.o 9 (I (sb xLeft (ln xA))) ?_
 refine LWp.o 1 (I (sb xLeft (ln xA))) ?_
 refine LWp.nil ?_
 refine Wp.seq ?_
 refine Wp.seq ?_
 refine Wp.region ?_
 refine LWp.o 10 (I (sb xLeft (ln xA))) ?_
 refine LWp.o 11 (B (decide ((sb xLeft (ln xA)) < 0))) ?_
 refine LWp.nil ?_
 refine Wp.c h (fun h => ?_) (fun h => ?_)
 · refine Wp.seq ?_
   refine Wp.region ?_
   refine LWp.o 4 (I (-1)) ?_
   refine LWp.nil ?_
   cases h
   exact Wp.ret ⟨.inr rfl, _, _, rfl, rfl⟩
 refine Wp.skip ?_
 refine Wp.seq ?_
 refine Wp.seq ?_
 refine Wp.region ?_
 refine LWp.o 5 (I 0) ?_
 refine LWp.nil ?_
 refine Wp.l2 h [0, 1, 5] [] (fun s => (w_szBlockS_H1 xA s.1 s.2)) [1] [] (fun s => (w_szBlockS_H2 s)) ⟨rfl, rfl⟩ ?_ ?_
 · rintro ⟨yLeft1, yI1⟩ o (h : w_szBlockS_b1 xA yLeft1 yI1 = some o) hk1
   unfold w_szBlockS_b1 at h
   change Wp _ _ _ (w_szBlockS_H1 xA yLeft1 yI1) _
   refine Wp.seq ?_
   refine Wp.seq ?_
   refine Wp.region ?_
   refine LWp.o 12 (I yI1) ?_
   refine LWp.o 13 (.one (.sl false 78 3 (encs (c78 false) xA))) ?_
   refine LWp.o 14 (I (ln xA)) ?_ (st_pure (p_ln (k78 false) xA))
   refine LWp.o 15 (B (decide (yI1 < (ln xA)))) ?_
   refine LWp.nil ?_
   refine Wp.c h (fun h => ?_) (fun h => ?_)
   · refine Wp.skip ?_
     refine Wp.seq ?_
     refine Wp.block ?_
     refine Wp.seq ?_
     refine Wp.region ?_
     refine LWp.o 18 (.one (.sl false 78 3 (encs (c78 false) xA))) ?_
     refine LWp.o 19 (I yI1) ?_
     refine LWp.p h 20 (fun _ => (.one (.ptr (.slot 18) 1 [0] (Int.toNat yI1 * 3 + 0)))) ?_ (fun x1 gx1 => st_pure (p_ix (k78 false) (.slot 18) [] 0 gx1))
     intro x1 gx1 h
     refine LWp.o 21 (.agg [.bool x1.Bad, .int .i64 x1.Wear, .sl false 132 2 (encs c132 x1.Leaves)]) ?_ (st_pure (p_le (k78 false) (.slot 18) [0] gx1))
     refine LWp.o 22 (I yLeft1) ?_
     refine LWp.cl h 23 (fun v1 => (I v1)) rfl (l := [.sv (.agg [.bool x1.Bad, .int .i64 x1.Wear, .sl false 132 2 (encs c132 x1.Leaves)]), .sv (.one (.int .i64 yLeft1))]) rfl (fun v hv => w_szBlock_t x1 yLeft1 v hv) (.inl rfl) ?_
     intro v1 gv1 h
     refine LWp.o 1 (I v1) ?_
     refine LWp.nil ?_
     refine Wp.seq ?_
     refine Wp.region ?_
     refine LWp.o 24 (I v1) ?_
     refine LWp.o 25 (B (decide (v1 < 0))) ?_
     refine LWp.nil ?_
     refine Wp.c h (fun h => ?_) (fun h => ?_)
     · refine Wp.seq ?_
       refine Wp.region ?_
       refine LWp.o 4 (I (-1)) ?_
       refine LWp.nil ?_
       cases h
       replace h : some _ = some _ := hk1 _ rfl
       cases h
       exact Wp.ret ⟨.inr rfl, _, _, rfl, rfl⟩
     refine Wp.skip ?_
     refine Wp.region ?_
     refine LWp.o 16 (I yI1) ?_
     refine LWp.o 17 (I (ad yI1 1)) ?_
     refine LWp.o 5 (I (ad yI1 1)) ?_
     refine LWp.nil ?_
     cases h
     exact ⟨_, rfl, rfl, rfl⟩
   refine Wp.exit ?_
   cases h
   exact ⟨_, rfl, rfl, rfl⟩
 intro v2 h E hE
 refine nt_wp hE ?_
 change Wp _ _ _ (w_szBlockS_H2 v2) _
 refine Wp.seq ?_
 refine Wp.region ?_
 refine LWp.o 26 (I v2) ?_
 refine LWp.o 4 (I v2) ?_
 refine LWp.nil ?_
 cases h
 exact Wp.ret ⟨.inr rfl, _, _, rfl, rfl⟩
set_option maxRecDepth 100000 in
theorem w_szFlash_t (xA : Flash) (xLeft : Int) (r : Int) (h : w_szFlash xA xLeft = some r) : Gives Try.prog 5 [.sv (.agg [.sl false 78 3 (encs (c78 false) xA.Blocks)]), .sv (I xLeft)] (I r) (List.replicate 2 .gone) := by
 unfold w_szFlash at h
 refine gives_of Try.func5 rfl ?_
 rw [Try.ntmps5]
 refine Wp.seq ?_
 refine Wp.region ?_
 refine LWp.b [] 2 [.sl false 78 3 (encs (c78 false) xA.Blocks)] ?_
 refine LWp.o 4 (I 0) ?_
 refine LWp.nil ?_
 refine Wp.seq ?_
 refine Wp.region ?_
 refine LWp.o 5 (.one (.ptr (.box 2) 1 [] 0)) ?_
 refine LWp.o 6 (.one (.sl false 78 3 (encs (c78 false) xA.Blocks))) ?_
 refine LWp.o 7 (I xLeft) ?_
 refine LWp.cl h 8 (fun v1 => (I v1)) rfl (l := [.sv (.one (.sl false 78 3 (encs (c78 false) xA.Blocks))), .sv (.one (.int .i64 xLeft))]) rfl (fun v hv => w_szBlockS_t xA.Blocks xLeft v hv) (.inl rfl) ?_
 intro v1 gv1 h
 refine LWp.o 1 (I v1) ?_
 refine LWp.nil ?_
 refine Wp.seq ?_
 refine Wp.seq ?_
 refine Wp.region ?_
 refine LWp.o 9 (I v1) ?_
 refine LWp.o 10 (B (decide (v1 < 0))) ?_
 refine LWp.nil ?_
 refine Wp.c h (fun h => ?_) (fun h => ?_)
 · refine Wp.seq ?_
   refine Wp.region ?_
   refine LWp.o 4 (I (-1)) ?_
   refine LWp.nil ?_
   cases h
   exact Wp.ret ⟨.inr rfl, _, _, rfl, rfl⟩
 refine Wp.skip ?_
 refine Wp.seq ?_
 refine Wp.region ?_
 refine LWp.o 11 (I v1) ?_
 refine LWp.o 4 (I v1) ?_
 refine LWp.nil ?_
 cases h
 exact Wp.ret ⟨.inr rfl, _, _, rfl, rfl⟩
set_option maxRecDepth 100000 in
theorem w_toLeaf_t (xA : Leaf) (r : Leaf) (h : w_toLeaf xA = some r) : Gives Try.prog 74 [.sv (.agg [.int .i64 xA.Is, .str xA.Text])] (.agg [.int .i64 r.Is, .str r.Text]) (List.replicate 1 .gone) := by
 unfold w_toLeaf at h
 refine gives_of Try.func74 rfl ?_
 rw [Try.ntmps74]
 refine Wp.seq ?_
 refine Wp.region ?_
 refine LWp.b [] 1 [.int .i64 xA.Is, .str xA.Text] ?_
 refine LWp.b [] 2 [.int .i64 0, .str (bs [])] ?_
 refine LWp.nil ?_
 refine Wp.seq ?_
 refine Wp.region ?_
 refine LWp.b [] 3 [.int .i64 0, .str (bs [])] ?_
 refine LWp.nil ?_
 refine Wp.seq ?_
 refine Wp.region ?_
 refine LWp.o 4 (.one (.ptr (.box 1) 1 [] 0)) ?_
 refine LWp.o 5 (I xA.Is) ?_
 refine LWp.o 6 (.one (.ptr (.box 3) 1 [] 0)) ?_
 refine LWp.s [] (.box 3) [.int .i64 xA.Is, .str (bs [])] ?_
 refine LWp.nil ?_
 refine Wp.seq ?_
 refine Wp.region ?_
 refine LWp.o 7 (.one (.ptr (.box 1) 1 [] 1)) ?_
 refine LWp.o 8 (Y xA.Text) ?_
 refine LWp.o 9 (.one (.ptr (.box 3) 1 [] 1)) ?_
 refine LWp.s [] (.box 3) [.int .i64 xA.Is, .str xA.Text] ?_
 refine LWp.nil ?_
 refine Wp.seq ?_
 refine Wp.region ?_
 refine LWp.o 10 (.agg [.int .i64 xA.Is, .str xA.Text]) ?_
 refine LWp.s [] (.box 2) [.int .i64 xA.Is, .str xA.Text] ?_
 refine LWp.nil ?_
 cases h
 exact Wp.ret ⟨.inr rfl, _, _, rfl, rfl⟩
def c57 (x : Leaf) : List TV := [.int .i64 x.Is, .str x.Text]
theorem k57 : ∀ x, (c57 x).length = 2 := fun _ => rfl
theorem sh57 : ∀ l, shares (encs c57 l) = encs c57 l := shares_encs (fun _ => rfl)
theorem ns57 : ∀ l, hasShareds (encs c57 l) = false := ns_encs (fun _ => rfl)
def w_toLeafS_H1 (xA : List Leaf) (z1 : List Leaf) (z2 : Int) : St := mkSt [(0, (.one (.sl false 132 2 (encs c132 xA)))), (3, (.one (.sl true 57 2 (encs c57 z1)))), (4, (I z2))] []
def w_toLeafS_H2 (z3 : List Leaf) : St := mkSt [(3, (.one (.sl true 57 2 (encs c57 z3))))] []
set_option maxRecDepth 100000 in
theorem w_toLeafS_t (xA : List Leaf) (r : List Leaf) (h : w_toLeafS xA = some r) : Gives Try.prog 58 [.sv (.one (.sl false 132 2 (encs c132 xA)))] (.one (.sl true 57 2 (encs c57 r))) (List.replicate 1 .gone) := by
 unfold w_toLeafS at h
 refine gives_of Try.func58 rfl ?_
 rw [Try.ntmps58]
 refine Wp.seq ?_
 refine Wp.region ?_
 refine LWp.o 2 (.one (.sl true 57 2 (encs c57 []))) ?_
 refine LWp.nil ?_
 refine Wp.seq ?_
 refine Wp.region ?_
 refine LWp.o 5 (.one (.sl false 132 2 (encs c132 xA))) ?_
 refine LWp.o 6 (I (ln xA)) ?_ (st_pure (p_ln k132 xA))
 refine LWp.p h 7 (fun c1 => (.one (.sl true 57 2 (encs c57 c1)))) ?_ (fun c1 gc1 => s_mk (f := c57) (Leaf.mk 0 (bs [])) gc1)
 intro c1 gc1 h
 refine LWp.m true [(.slot 7, [.junk])] 3 (.one (.sl true 57 2 (encs c57 c1))) ?_
 refine LWp.nil ?_
 refine Wp.seq ?_
 refine Wp.seq ?_
 refine Wp.region ?_
 refine LWp.o 4 (I 0) ?_
 refine LWp.nil ?_
 refine Wp.l1 h [0, 3, 4] [] (fun s => (w_toLeafS_H1 xA s.1 s.2)) [3] [] (fun s => (w_toLeafS_H2 s)) ⟨rfl, rfl⟩ ?_ ?_
 · rintro ⟨yOut1, yI1⟩ o (h : w_toLeafS_b1 xA yOut1 yI1 = some o)
   unfold w_toLeafS_b1 at h
   change Wp _ _ _ (w_toLeafS_H1 xA yOut1 yI1) _
   refine Wp.seq ?_
   refine Wp.seq ?_
   refine Wp.region ?_
   refine LWp.o 8 (I yI1) ?_
   refine LWp.o 9 (.one (.sl false 132 2 (encs c132 xA))) ?_
   refine LWp.o 10 (I (ln xA)) ?_ (st_pure (p_ln k132 xA))
   refine LWp.o 11 (B (decide (yI1 < (ln xA)))) ?_
   refine LWp.nil ?_
   refine Wp.c h (fun h => ?_) (fun h => ?_)
   · refine Wp.skip ?_
     refine Wp.seq ?_
     refine Wp.block ?_
     refine Wp.region ?_
     refine LWp.o 14 (.one (.view (.slot 3) 0 [] 0)) ?_
     refine LWp.o 15 (I yI1) ?_
     refine LWp.o 16 (.one (.sl false 132 2 (encs c132 xA))) ?_
     refine LWp.o 17 (I yI1) ?_
     refine LWp.p h 18 (fun _ => (.one (.ptr (.slot 16) 1 [0] (Int.toNat yI1 * 2 + 0)))) ?_ (fun x1 gx1 => st_pure (p_ix k132 (.slot 16) [] 0 gx1))
     intro x1 gx1 h
     refine LWp.o 19 (.agg [.int .i64 x1.Is, .str x1.Text]) ?_ (st_pure (p_le k132 (.slot 16) [0] gx1))
     refine LWp.cl h 20 (fun v1 => (.agg [.int .i64 v1.Is, .str v1.Text])) rfl (l := [.sv (.agg [.int .i64 x1.Is, .str x1.Text])]) rfl (fun v hv => w_toLeaf_t x1 v hv) (.inl rfl) ?_
     intro v1 gv1 h
     refine LWp.p h 21 (fun _ => (.one (.ptr (.slot 3) 0 [0] (Int.toNat yI1 * 2 + 0)))) ?_ (fun x2 gx2 => st_pure (p_ix k57 (.slot 3) [] 0 gx2))
     intro x2 gx2 h
     refine LWp.sb [] (.slot 3) [.sl true 57 2 (encs c57 (si yOut1 yI1 v1))] ?_ (s_st [] (q := [0]) (cs := [.sl true 57 2 (encs c57 yOut1)]) (xs := [.int .i64 v1.Is, .str v1.Text]) (At.one (setRow_gi k57 (k := 0) (z := v1) gx2 rfl rfl)) (fit_gi k57 (k := 0) gx2 rfl))
     refine LWp.nil ?_
     refine Wp.region ?_
     refine LWp.o 12 (I yI1) ?_
     refine LWp.o 13 (I (ad yI1 1)) ?_
     refine LWp.o 4 (I (ad yI1 1)) ?_
     refine LWp.nil ?_
     cases h
     exact ⟨_, rfl, rfl, rfl⟩
   refine Wp.exit ?_
   cases h
   exact ⟨_, rfl, rfl, rfl⟩
 intro v2 h E hE
 refine nt_wp hE ?_
 change Wp _ _ _ (w_toLeafS_H2 v2) _
 refine Wp.seq ?_
 refine Wp.region ?_
 refine LWp.o 22 (.one (.view (.slot 3) 0 [] 0)) ?_
 refine LWp.m true [(.slot 3, [.junk])] 2 (.one (.sl true 57 2 (encs c57 v2))) ?_
 refine LWp.nil ?_
 cases h
 exact Wp.ret ⟨.inr rfl, _, _, rfl, rfl⟩
set_option maxRecDepth 100000 in
theorem w_toBlock_t (xA : Block) (r : Block) (h : w_toBlock xA = some r) : Gives Try.prog 36 [.sv (.agg [.bool xA.Bad, .int .i64 xA.Wear, .sl false 132 2 (encs c132 xA.Leaves)])] (.agg [.bool r.Bad, .int .i64 r.Wear, .sl true 57 2 (encs c57 r.Leaves)]) (List.replicate 1 .gone) := by
 unfold w_toBlock at h
 refine gives_of Try.func36 rfl ?_
 rw [Try.ntmps36]
 refine Wp.seq ?_
 refine Wp.region ?_
 refine LWp.b [] 1 [.bool xA.Bad, .int .i64 xA.Wear, .sl false 132 2 (encs c132 xA.Leaves)] ?_
 refine LWp.b [] 2 [.bool false, .int .i64 0, .sl true 57 2 (encs c57 [])] ?_
 refine LWp.nil ?_
 refine Wp.seq ?_
 refine Wp.region ?_
 refine LWp.b [] 3 [.bool false, .int .i64 0, .sl true 57 2 (encs c57 [])] ?_
 refine LWp.nil ?_
 refine Wp.seq ?_
 refine Wp.region ?_
 refine LWp.o 4 (.one (.ptr (.box 1) 1 [] 0)) ?_
 refine LWp.o 5 (B xA.Bad) ?_
 refine LWp.o 6 (.one (.ptr (.box 3) 1 [] 0)) ?_
 refine LWp.s [] (.box 3) [.bool xA.Bad, .int .i64 0, .sl true 57 2 (encs c57 [])] ?_
 refine LWp.nil ?_
 refine Wp.seq ?_
 refine Wp.region ?_
 refine LWp.o 7 (.one (.ptr (.box 1) 1 [] 1)) ?_
 refine LWp.o 8 (I xA.Wear) ?_
 refine LWp.o 9 (.one (.ptr (.box 3) 1 [] 1)) ?_
 refine LWp.s [] (.box 3) [.bool xA.Bad, .int .i64 xA.Wear, .sl true 57 2 (encs c57 [])] ?_
 refine LWp.nil ?_
 refine Wp.seq ?_
 refine Wp.region ?_
 refine LWp.o 10 (.one (.ptr (.box 1) 1 [] 2)) ?_
 refine LWp.o 11 (.one (.sl false 132 2 (encs c132 xA.Leaves))) ?_
 refine LWp.cl h 12 (fun v1 => (.one (.sl true 57 2 (encs c57 v1)))) rfl (l := [.sv (.one (.sl false 132 2 (encs c132 xA.Leaves)))]) rfl (fun v hv => w_toLeafS_t xA.Leaves v hv) (.inl rfl) ?_
 intro v1 gv1 h
 refine LWp.o 13 (.one (.ptr (.box 3) 1 [] 2)) ?_
 refine LWp.sb [(.slot 12, [.junk])] (.box 3) [.bool xA.Bad, .int .i64 xA.Wear, .sl true 57 2 (encs c57 v1)] ?_
 refine LWp.nil ?_
 refine Wp.seq ?_
 refine Wp.region ?_
 refine LWp.o 14 (.agg [.bool xA.Bad, .int .i64 xA.Wear, .view (.box 3) 2 [] 2]) ?_
 refine LWp.sb [(.box 3, [.bool xA.Bad, .int .i64 xA.Wear, .junk])] (.box 2) [.bool xA.Bad, .int .i64 xA.Wear, .sl true 57 2 (encs c57 v1)] ?_
 refine LWp.nil ?_
 cases h
 exact Wp.ret ⟨.inr rfl, _, _, rfl, rfl⟩
def c60 (o : Bool) (x : Block) : List TV := [.bool x.Bad, .int .i64 x.Wear, .sl o 57 2 (encs c57 x.Leaves)]
theorem k60 (o : Bool) : ∀ x, (c60 o x).length = 3 := fun _ => rfl
theorem sh60 : ∀ l, shares (encs (c60 true) l) = encs (c60 false) l := shares_encs (fun x => by simp only [c60, shares, share, sh57])
theorem ns60 : ∀ l, hasShareds (encs (c60 true) l) = false := ns_encs (fun x => by simp [c60, hasShareds, hasShared, ns57])
def w_toBlockS_H1 (xA : List Block) (z1 : List Block) (z2 : Int) : St := mkSt [(0, (.one (.sl false 78 3 (encs (c78 false) xA)))), (3, (.one (.sl true 60 3 (encs (c60 true) z1)))), (4, (I z2))] []
def w_toBlockS_H2 (z3 : List Block) : St := mkSt [(3, (.one (.sl true 60 3 (encs (c60 true) z3))))] []
set_option maxRecDepth 100000 in
theorem w_toBlockS_t (xA : List Block) (r : List Block) (h : w_toBlockS xA = some r) : Gives Try.prog 18 [.sv (.one (.sl false 78 3 (encs (c78 false) xA)))] (.one (.sl true 60 3 (encs (c60 true) r))) (List.replicate 1 .gone) := by
 unfold w_toBlockS at h
 refine gives_of Try.func18 rfl ?_
 rw [Try.ntmps18]
 refine Wp.seq ?_
 refine Wp.region ?_
 refine LWp.o 2 (.one (.sl true 60 3 (encs (c60 true) []))) ?_
 refine LWp.nil ?_
 refine Wp.seq ?_
 refine Wp.region ?_
 refine LWp.o 5 (.one (.sl false 78 3 (encs (c78 false) xA))) ?_
 refine LWp.o 6 (I (ln xA)) ?_ (st_pure (p_ln (k78 false) xA))
 refine LWp.p h 7 (fun c1 => (.one (.sl true 60 3 (encs (c60 true) c1)))) ?_ (fun c1 gc1 => s_mk (f := (c60 true)) (Block.mk false 0 []) gc1)
 intro c1 gc1 h
 refine LWp.m true [(.slot 7, [.junk])] 3 (.one (.sl true 60 3 (encs (c60 true) c1))) ?_
 refine LWp.nil ?_
 refine Wp.seq ?_
 refine Wp.seq ?_
 refine Wp.region ?_
 refine LWp.o 4 (I 0) ?_
 refine LWp.nil ?_
 refine Wp.l1 h [0, 3, 4] [] (fun s => (w_toBlockS_H1 xA s.1 s.2)) [3] [] (fun s => (w_toBlockS_H2 s)) ⟨rfl, rfl⟩ ?_ ?_
 · rintro ⟨yOut1, yI1⟩ o (h : w_toBlockS_b1 xA yOut1 yI1 = some o)
   unfold w_toBlockS_b1 at h
   change Wp _ _ _ (w_toBlockS_H1 xA yOut1 yI1) _
   refine Wp.seq ?_
   refine Wp.seq ?_
   refine Wp.region ?_
   refine LWp.o 8 (I yI1) ?_
   refine LWp.o 9 (.one (.sl false 78 3 (encs (c78 false) xA))) ?_
   refine LWp.o 10 (I (ln xA)) ?_ (st_pure (p_ln (k78 false) xA))
   refine LWp.o 11 (B (decide (yI1 < (ln xA)))) ?_
   refine LWp.nil ?_
   refine Wp.c h (fun h => ?_) (fun h => ?_)
   · refine Wp.skip ?_
     refine Wp.seq ?_
     refine Wp.block ?_
     refine Wp.region ?_
     refine LWp.o 14 (.one (.view (.slot 3) 0 [] 0)) ?_
     refine LWp.o 15 (I yI1) ?_
     refine LWp.o 16 (.one (.sl false 78 3 (encs (c78 false) xA))) ?_
     refine LWp.o 17 (I yI1) ?_
     refine LWp.p h 18 (fun _ => (.one (.ptr (.slot 16) 1 [0] (Int.toNat yI1 * 3 + 0)))) ?_ (fun x1 gx1 => st_pure (p_ix (k78 false) (.slot 16) [] 0 gx1))
     intro x1 gx1 h
     refine LWp.o 19 (.agg [.bool x1.Bad, .int .i64 x1.Wear, .sl false 132 2 (encs c132 x1.Leaves)]) ?_ (st_pure (p_le (k78 false) (.slot 16) [0] gx1))
     refine LWp.cl h 20 (fun v1 => (.agg [.bool v1.Bad, .int .i64 v1.Wear, .sl true 57 2 (encs c57 v1.Leaves)])) rfl (l := [.sv (.agg [.bool x1.Bad, .int .i64 x1.Wear, .sl false 132 2 (encs c132 x1.Leaves)])]) rfl (fun v hv => w_toBlock_t x1 v hv) (.inl rfl) ?_
     intro v1 gv1 h
     refine LWp.p h 21 (fun _ => (.one (.ptr (.slot 3) 0 [0] (Int.toNat yI1 * 3 + 0)))) ?_ (fun x2 gx2 => st_pure (p_ix (k60 true) (.slot 3) [] 0 gx2))
     intro x2 gx2 h
     refine LWp.sb [(.slot 20, [.bool v1.Bad, .int .i64 v1.Wear, .junk])] (.slot 3) [.sl true 60 3 (encs (c60 true) (si yOut1 yI1 v1))] ?_ (s_st [(.slot 20, [.bool v1.Bad, .int .i64 v1.Wear, .junk])] (q := [0]) (cs := [.sl true 60 3 (encs (c60 true) yOut1)]) (xs := [.bool v1.Bad, .int .i64 v1.Wear, .sl true 57 2 (encs c57 v1.Leaves)]) (At.one (setRow_gi (k60 true) (k := 0) (z := v1) gx2 rfl rfl)) (fit_gi (k60 true) (k := 0) gx2 rfl))
     refine LWp.nil ?_
     refine Wp.region ?_
     refine LWp.o 12 (I yI1) ?_
     refine LWp.o 13 (I (ad yI1 1)) ?_
     refine LWp.o 4 (I (ad yI1 1)) ?_
     refine LWp.nil ?_
     cases h
     exact ⟨_, rfl, rfl, rfl⟩
   refine Wp.exit ?_
   cases h
   exact ⟨_, rfl, rfl, rfl⟩
 intro v2 h E hE
 refine nt_wp hE ?_
 change Wp _ _ _ (w_toBlockS_H2 v2) _
 refine Wp.seq ?_
 refine Wp.region ?_
 refine LWp.o 22 (.one (.view (.slot 3) 0 [] 0)) ?_
 refine LWp.m true [(.slot 3, [.junk])] 2 (.one (.sl true 60 3 (encs (c60 true) v2))) ?_
 refine LWp.nil ?_
 cases h
 exact Wp.ret ⟨.inr rfl, _, _, rfl, rfl⟩
set_option maxRecDepth 100000 in
theorem w_toFlash_t (xA : Flash) (r : Flash) (h : w_toFlash xA = some r) : Gives Try.prog 7 [.sv (.agg [.sl false 78 3 (encs (c78 false) xA.Blocks)])] (.agg [.sl true 60 3 (encs (c60 true) r.Blocks)]) (List.replicate 1 .gone) := by
 unfold w_toFlash at h
 refine gives_of Try.func7 rfl ?_
 rw [Try.ntmps7]
 refine Wp.seq ?_
 refine Wp.region ?_
 refine LWp.b [] 1 [.sl false 78 3 (encs (c78 false) xA.Blocks)] ?_
 refine LWp.b [] 2 [.sl true 60 3 (encs (c60 true) [])] ?_
 refine LWp.nil ?_
 refine Wp.seq ?_
 refine Wp.region ?_
 refine LWp.b [] 3 [.sl true 60 3 (encs (c60 true) [])] ?_
 refine LWp.nil ?_
 refine Wp.seq ?_
 refine Wp.region ?_
 refine LWp.o 4 (.one (.ptr (.box 1) 1 [] 0)) ?_
 refine LWp.o 5 (.one (.sl false 78 3 (encs (c78 false) xA.Blocks))) ?_
 refine LWp.cl h 6 (fun v1 => (.one (.sl true 60 3 (encs (c60 true) v1)))) rfl (l := [.sv (.one (.sl false 78 3 (encs (c78 false) xA.Blocks)))]) rfl (fun v hv => w_toBlockS_t xA.Blocks v hv) (.inl rfl) ?_
 intro v1 gv1 h
 refine LWp.o 7 (.one (.ptr (.box 3) 1 [] 0)) ?_
 refine LWp.sb [(.slot 6, [.junk])] (.box 3) [.sl true 60 3 (encs (c60 true) v1)] ?_
 refine LWp.nil ?_
 refine Wp.seq ?_
 refine Wp.region ?_
 refine LWp.o 8 (.agg [.view (.box 3) 2 [] 0]) ?_
 refine LWp.sb [(.box 3, [.junk])] (.box 2) [.sl true 60 3 (encs (c60 true) v1)] ?_
 refine LWp.nil ?_
 cases h
 exact Wp.ret ⟨.inr rfl, _, _, rfl, rfl⟩
set_option maxRecDepth 100000 in
theorem s_l01In_t (xX : Int) (xLeast : Int) (xMost : Int) (r : Bool) (h : s_l01In xX xLeast xMost = some r) : Gives Try.prog 23 [.sv (I xX), .sv (I xLeast), .sv (I xMost)] (B r) (List.replicate 3 .gone) := by
 unfold s_l01In at h
 refine gives_of Try.func23 rfl ?_
 rw [Try.ntmps23]
 refine Wp.seq ?_
 refine Wp.region ?_
 refine LWp.o 6 (B false) ?_
 refine LWp.nil ?_
 refine Wp.seq ?_
 refine Wp.region ?_
 refine LWp.o 7 (I xX) ?_
 refine LWp.o 8 (I xLeast) ?_
 refine LWp.o 9 (B (decide (xX ≥ xLeast))) ?_
 refine LWp.o 10 (B (decide (xX ≥ xLeast))) ?_
 refine LWp.sp h 10 (fun h => ?_) (fun h => ?_)
 · refine LWp.o 11 (I xX) ?_
   refine LWp.o 12 (I xMost) ?_
   refine LWp.o 13 (B (decide (xX ≤ xMost))) ?_
   refine LWp.o 14 (B (decide (xX ≤ xMost))) ?_
   refine LWp.o 6 (B (decide (xX ≤ xMost))) ?_
   refine LWp.nil ?_
   cases h
   exact Wp.ret ⟨.inr rfl, _, _, rfl, rfl⟩
 refine LWp.sh 11 ?_
 refine LWp.sh 12 ?_
 refine LWp.sh 13 ?_
 refine LWp.o 14 (B false) ?_
 refine LWp.o 6 (B false) ?_
 refine LWp.nil ?_
 cases h
 exact Wp.ret ⟨.inr rfl, _, _, rfl, rfl⟩
set_option maxRecDepth 100000 in
theorem s_l05Leaf_t (xX : Leaf) (r : Bool) (h : s_l05Leaf xX = some r) : Gives Try.prog 32 [.sv (.agg [.int .i64 xX.Is, .str xX.Text])] (B r) (List.replicate 1 .gone) := by
 unfold s_l05Leaf at h
 refine gives_of Try.func32 rfl ?_
 rw [Try.ntmps32]
 refine Wp.seq ?_
 refine Wp.region ?_
 refine LWp.b [] 1 [.int .i64 xX.Is, .str xX.Text] ?_
 refine LWp.o 2 (B false) ?_
 refine LWp.nil ?_
 refine Wp.seq ?_
 refine Wp.seq ?_
 refine Wp.region ?_
 refine LWp.o 3 (.one (.ptr (.box 1) 1 [] 0)) ?_
 refine LWp.o 4 (I xX.Is) ?_
 refine LWp.nil ?_
 refine Wp.block ?_
 refine Wp.seq ?_
 refine Wp.region ?_
 refine LWp.o 6 (B (xX.Is == 0)) ?_
 refine LWp.o 5 (B (xX.Is == 0)) ?_
 refine LWp.nil ?_
 refine Wp.c h (fun h => ?_) (fun h => ?_)
 · refine Wp.seq ?_
   refine Wp.region ?_
   refine LWp.o 7 (.one (.ptr (.box 1) 1 [] 1)) ?_
   refine LWp.o 8 (Y xX.Text) ?_
   refine LWp.o 9 (B (seq xX.Text (bs []))) ?_
   refine LWp.o 2 (B (seq xX.Text (bs []))) ?_
   refine LWp.nil ?_
   cases h
   exact Wp.ret ⟨.inr rfl, _, _, rfl, rfl⟩
 refine Wp.seq ?_
 refine Wp.region ?_
 refine LWp.o 11 (B (xX.Is == 1)) ?_
 refine LWp.o 10 (B (xX.Is == 1)) ?_
 refine LWp.nil ?_
 refine Wp.c h (fun h => ?_) (fun h => ?_)
 · refine Wp.seq ?_
   refine Wp.region ?_
   refine LWp.o 12 (.one (.ptr (.box 1) 1 [] 1)) ?_
   refine LWp.o 13 (Y xX.Text) ?_
   refine LWp.o 14 (I (sln xX.Text)) ?_
   refine LWp.cl h 15 (fun v1 => (B v1)) rfl (l := [.sv (.one (.int .i64 (sln xX.Text))), .sv (.one (.int .i64 1)), .sv (.one (.int .i64 120))]) rfl (fun v hv => s_l01In_t (sln xX.Text) 1 120 v hv) (.inl rfl) ?_
   intro v1 gv1 h
   refine LWp.o 2 (B v1) ?_
   refine LWp.nil ?_
   cases h
   exact Wp.ret ⟨.inr rfl, _, _, rfl, rfl⟩
 refine Wp.seq ?_
 refine Wp.region ?_
 refine LWp.o 17 (B (xX.Is == 2)) ?_
 refine LWp.o 16 (B (xX.Is == 2)) ?_
 refine LWp.nil ?_
 refine Wp.c h (fun h => ?_) (fun h => ?_)
 · refine Wp.seq ?_
   refine Wp.region ?_
   refine LWp.o 18 (.one (.ptr (.box 1) 1 [] 1)) ?_
   refine LWp.o 19 (Y xX.Text) ?_
   refine LWp.o 20 (I (sln xX.Text)) ?_
   refine LWp.o 21 (B (decide ((sln xX.Text) ≤ 120))) ?_
   refine LWp.o 2 (B (decide ((sln xX.Text) ≤ 120))) ?_
   refine LWp.nil ?_
   cases h
   exact Wp.ret ⟨.inr rfl, _, _, rfl, rfl⟩
 refine Wp.skip ?_
 refine Wp.seq ?_
 refine Wp.region ?_
 refine LWp.o 2 (B false) ?_
 refine LWp.nil ?_
 cases h
 exact Wp.ret ⟨.inr rfl, _, _, rfl, rfl⟩
def s_FlashOk_H1 (xF : Flash) (z1 : Int) : St := mkSt [(1, (.one (.ptr (.box 1) 0 [] 0))), (3, (I z1))] [(.box 1, [.sl false 60 3 (encs (c60 false) xF.Blocks)])]
def s_FlashOk_H2 (xF : Flash) : St := mkSt [(1, (.one (.ptr (.box 1) 0 [] 0)))] [(.box 1, [.sl false 60 3 (encs (c60 false) xF.Blocks)])]
def s_FlashOk_H3 (xF : Flash) (yI1 : Int) (x1 : Block) (z2 : Bool) : St := mkSt [(1, (.one (.ptr (.box 1) 0 [] 0))), (3, (I yI1)), (4, (.one (.ptr (.box 4) 0 [] 0))), (27, (B z2))] [(.box 1, [.sl false 60 3 (encs (c60 false) xF.Blocks)]), (.box 4, [.bool x1.Bad, .int .i64 x1.Wear, .sl false 57 2 (encs c57 x1.Leaves)])]
def s_FlashOk_H4 (xF : Flash) (yI1 : Int) (x1 : Block) (z3 : Int) : St := mkSt [(1, (.one (.ptr (.box 1) 0 [] 0))), (3, (I yI1)), (4, (.one (.ptr (.box 4) 0 [] 0))), (5, (I z3))] [(.box 1, [.sl false 60 3 (encs (c60 false) xF.Blocks)]), (.box 4, [.bool x1.Bad, .int .i64 x1.Wear, .sl false 57 2 (encs c57 x1.Leaves)])]
def s_FlashOk_H5 (xF : Flash) (yI1 : Int) : St := mkSt [(1, (.one (.ptr (.box 1) 0 [] 0))), (3, (I yI1))] [(.box 1, [.sl false 60 3 (encs (c60 false) xF.Blocks)])]
def s_FlashOk_H6 (xF : Flash) (yI1 : Int) (x1 : Block) (yK1 : Int) (z4 : Bool) : St := mkSt [(1, (.one (.ptr (.box 1) 0 [] 0))), (3, (I yI1)), (4, (.one (.ptr (.box 4) 0 [] 0))), (5, (I yK1)), (64, (B z4))] [(.box 1, [.sl false 60 3 (encs (c60 false) xF.Blocks)]), (.box 4, [.bool x1.Bad, .int .i64 x1.Wear, .sl false 57 2 (encs c57 x1.Leaves)])]
set_option maxRecDepth 100000 in
theorem s_FlashOk_t (xF : Flash) (r : Bool) (h : s_FlashOk xF = some r) : Gives Try.prog 16 [.sv (.agg [.sl false 60 3 (encs (c60 false) xF.Blocks)])] (B r) (List.replicate 1 .gone) := by
 unfold s_FlashOk at h
 refine gives_of Try.func16 rfl ?_
 rw [Try.ntmps16]
 refine Wp.seq ?_
 refine Wp.region ?_
 refine LWp.b [] 1 [.sl false 60 3 (encs (c60 false) xF.Blocks)] ?_
 refine LWp.o 2 (B false) ?_
 refine LWp.nil ?_
 refine Wp.seq ?_
 refine Wp.seq ?_
 refine Wp.region ?_
 refine LWp.o 3 (I 0) ?_
 refine LWp.nil ?_
 refine Wp.l2 h [1, 3] [.box 1] (fun s => (s_FlashOk_H1 xF s)) [1] [.box 1] (fun _ => (s_FlashOk_H2 xF)) ⟨rfl, rfl⟩ ?_ ?_
 · rintro yI1 o (h : s_FlashOk_b1 xF yI1 = some o) hk1
   unfold s_FlashOk_b1 at h
   change Wp _ _ _ (s_FlashOk_H1 xF yI1) _
   refine Wp.seq ?_
   refine Wp.seq ?_
   refine Wp.region ?_
   refine LWp.o 6 (I yI1) ?_
   refine LWp.o 7 (.one (.ptr (.box 1) 0 [] 0)) ?_
   refine LWp.o 8 (.one (.sl false 60 3 (encs (c60 false) xF.Blocks))) ?_
   refine LWp.o 9 (I (ln xF.Blocks)) ?_ (st_pure (p_ln (k60 false) xF.Blocks))
   refine LWp.o 10 (B (decide (yI1 < (ln xF.Blocks)))) ?_
   refine LWp.nil ?_
   refine Wp.c h (fun h => ?_) (fun h => ?_)
   · refine Wp.skip ?_
     refine Wp.seq ?_
     refine Wp.block ?_
     refine Wp.seq ?_
     refine Wp.region ?_
     refine LWp.o 13 (.one (.ptr (.box 1) 0 [] 0)) ?_
     refine LWp.o 14 (.one (.sl false 60 3 (encs (c60 false) xF.Blocks))) ?_
     refine LWp.o 15 (I yI1) ?_
     refine LWp.p h 16 (fun _ => (.one (.ptr (.slot 14) 1 [0] (Int.toNat yI1 * 3 + 0)))) ?_ (fun x1 gx1 => st_pure (p_ix (k60 false) (.slot 14) [] 0 gx1))
     intro x1 gx1 h
     refine LWp.o 17 (.agg [.bool x1.Bad, .int .i64 x1.Wear, .sl false 57 2 (encs c57 x1.Leaves)]) ?_ (st_pure (p_le (k60 false) (.slot 14) [0] gx1))
     refine LWp.b [] 4 [.bool false, .int .i64 0, .sl true 57 2 (encs c57 [])] ?_
     refine LWp.sb [] (.box 4) [.bool x1.Bad, .int .i64 x1.Wear, .sl false 57 2 (encs c57 x1.Leaves)] ?_
     refine LWp.nil ?_
     refine Wp.seq ?_
     refine Wp.seq ?_
     refine Wp.j1 h [1, 3, 4, 27] [.box 1, .box 4] (fun a => (s_FlashOk_H3 xF yI1 x1 a)) ?_ ?_
     · intro a h
       refine Wp.region ?_
       refine LWp.o 18 (.one (.ptr (.box 4) 1 [] 2)) ?_
       refine LWp.o 19 (.one (.sl false 57 2 (encs c57 x1.Leaves))) ?_
       refine LWp.o 20 (I (ln x1.Leaves)) ?_ (st_pure (p_ln k57 x1.Leaves))
       refine LWp.o 21 (B ((ln x1.Leaves) != 4)) ?_
       refine LWp.o 22 (B ((ln x1.Leaves) != 4)) ?_
       refine LWp.sp h 22 (fun h => ?_) (fun h => ?_)
       · refine LWp.sh 23 ?_
         refine LWp.sh 24 ?_
         refine LWp.sh 25 ?_
         refine LWp.sh 26 ?_
         refine LWp.o 27 (B true) ?_
         refine LWp.nil ?_
         cases h
         exact ⟨_, rfl, rfl, rfl⟩
       refine LWp.o 23 (.one (.ptr (.box 4) 1 [] 1)) ?_
       refine LWp.o 24 (I x1.Wear) ?_
       refine LWp.cl h 25 (fun v1 => (B v1)) rfl (l := [.sv (.one (.int .i64 x1.Wear)), .sv (.one (.int .i64 0)), .sv (.one (.int .i64 1000000000))]) rfl (fun v hv => s_l01In_t x1.Wear 0 1000000000 v hv) (.inl rfl) ?_
       intro v1 gv1 h
       refine LWp.o 26 (B (!v1)) ?_
       refine LWp.o 27 (B (!v1)) ?_
       refine LWp.nil ?_
       cases h
       exact ⟨_, rfl, rfl, rfl⟩
     intro j1 h E hE
     refine nt_wp hE ?_
     change Wp _ _ _ (s_FlashOk_H3 xF yI1 x1 j1) _
     refine Wp.c h (fun h => ?_) (fun h => ?_)
     · refine Wp.seq ?_
       refine Wp.region ?_
       refine LWp.o 2 (B false) ?_
       refine LWp.nil ?_
       cases h
       replace h : some _ = some _ := hk1 _ rfl
       cases h
       exact Wp.ret ⟨.inr rfl, _, _, rfl, rfl⟩
     refine Wp.skip ?_
     refine Wp.seq ?_
     refine Wp.region ?_
     refine LWp.o 5 (I 0) ?_
     refine LWp.nil ?_
     refine Wp.l2 h [1, 3, 4, 5] [.box 1, .box 4] (fun s => (s_FlashOk_H4 xF yI1 x1 s)) [1, 3] [.box 1] (fun _ => (s_FlashOk_H5 xF yI1)) ⟨rfl, rfl⟩ ?_ ?_
     · rintro yK1 o (h : s_FlashOk_b2 x1 yK1 = some o) hk2
       unfold s_FlashOk_b2 at h
       change Wp _ _ _ (s_FlashOk_H4 xF yI1 x1 yK1) _
       refine Wp.seq ?_
       refine Wp.seq ?_
       refine Wp.region ?_
       refine LWp.o 28 (I yK1) ?_
       refine LWp.o 29 (.one (.ptr (.box 4) 0 [] 2)) ?_
       refine LWp.o 30 (.one (.sl false 57 2 (encs c57 x1.Leaves))) ?_
       refine LWp.o 31 (I (ln x1.Leaves)) ?_ (st_pure (p_ln k57 x1.Leaves))
       refine LWp.o 32 (B (decide (yK1 < (ln x1.Leaves)))) ?_
       refine LWp.nil ?_
       refine Wp.c h (fun h => ?_) (fun h => ?_)
       · refine Wp.skip ?_
         refine Wp.seq ?_
         refine Wp.block ?_
         refine Wp.seq ?_
         refine Wp.j1 h [1, 3, 4, 5, 64] [.box 1, .box 4] (fun a => (s_FlashOk_H6 xF yI1 x1 yK1 a)) ?_ ?_
         · intro a h
           refine Wp.region ?_
           refine LWp.o 35 (.one (.ptr (.box 4) 0 [] 2)) ?_
           refine LWp.o 36 (.one (.sl false 57 2 (encs c57 x1.Leaves))) ?_
           refine LWp.o 37 (I yK1) ?_
           refine LWp.p h 38 (fun _ => (.one (.ptr (.slot 36) 1 [0] (Int.toNat yK1 * 2 + 0)))) ?_ (fun x2 gx2 => st_pure (p_ix k57 (.slot 36) [] 0 gx2))
           intro x2 gx2 h
           refine LWp.o 39 (.agg [.int .i64 x2.Is, .str x2.Text]) ?_ (st_pure (p_le k57 (.slot 36) [0] gx2))
           refine LWp.cl h 40 (fun v2 => (B v2)) rfl (l := [.sv (.agg [.int .i64 x2.Is, .str x2.Text])]) rfl (fun v hv => s_l05Leaf_t x2 v hv) (.inl rfl) ?_
           intro v2 gv2 h
           refine LWp.o 41 (B (!v2)) ?_
           refine LWp.o 42 (B (!v2)) ?_
           refine LWp.sp h 42 (fun h => ?_) (fun h => ?_)
           · refine LWp.sh 43 ?_
             refine LWp.sh 44 ?_
             refine LWp.sh 45 ?_
             refine LWp.sh 46 ?_
             refine LWp.sh 47 ?_
             refine LWp.sh 48 ?_
             refine LWp.sh 49 ?_
             refine LWp.sh 50 ?_
             refine LWp.sh 51 ?_
             refine LWp.sh 52 ?_
             refine LWp.sh 53 ?_
             refine LWp.sh 54 ?_
             refine LWp.sh 55 ?_
             refine LWp.sh 56 ?_
             refine LWp.sh 57 ?_
             refine LWp.sh 58 ?_
             refine LWp.sh 59 ?_
             refine LWp.sh 60 ?_
             refine LWp.sh 61 ?_
             refine LWp.sh 62 ?_
             refine LWp.sh 63 ?_
             refine LWp.o 64 (B true) ?_
             refine LWp.nil ?_
             cases h
             exact ⟨_, rfl, rfl, rfl⟩
           refine LWp.o 43 (I yK1) ?_
           refine LWp.o 44 (B (decide (yK1 > 0))) ?_
           refine LWp.o 45 (B (decide (yK1 > 0))) ?_
           refine LWp.sp h 45 (fun h => ?_) (fun h => ?_)
           · refine LWp.o 46 (.one (.ptr (.box 4) 0 [] 2)) ?_
             refine LWp.o 47 (.one (.sl false 57 2 (encs c57 x1.Leaves))) ?_
             refine LWp.o 48 (I yK1) ?_
             refine LWp.o 49 (I (sb yK1 1)) ?_
             refine LWp.p h 50 (fun _ => (.one (.ptr (.slot 47) 1 [0] (Int.toNat (sb yK1 1) * 2 + 0)))) ?_ (fun x3 gx3 => st_pure (p_ix k57 (.slot 47) [] 0 gx3))
             intro x3 gx3 h
             refine LWp.o 51 (.one (.ptr (.slot 47) 1 [0] (Int.toNat (sb yK1 1) * 2 + 0))) ?_ (st_pure (p_fa k57 (.slot 47) [0] 0 gx3))
             refine LWp.o 52 (I x3.Is) ?_ (st_pure (p_lc k57 (.slot 47) [0] 0 (.int .i64 x3.Is) gx3))
             refine LWp.o 53 (B (x3.Is == 0)) ?_
             refine LWp.o 54 (B (x3.Is == 0)) ?_
             refine LWp.o 55 (B (x3.Is == 0)) ?_
             refine LWp.sp h 55 (fun h => ?_) (fun h => ?_)
             · refine LWp.o 56 (.one (.ptr (.box 4) 0 [] 2)) ?_
               refine LWp.o 57 (.one (.sl false 57 2 (encs c57 x1.Leaves))) ?_
               refine LWp.o 58 (I yK1) ?_
               refine LWp.p h 59 (fun _ => (.one (.ptr (.slot 57) 1 [0] (Int.toNat yK1 * 2 + 0)))) ?_ (fun x4 gx4 => st_pure (p_ix k57 (.slot 57) [] 0 gx4))
               intro x4 gx4 h
               refine LWp.o 60 (.one (.ptr (.slot 57) 1 [0] (Int.toNat yK1 * 2 + 0))) ?_ (st_pure (p_fa k57 (.slot 57) [0] 0 gx4))
               refine LWp.o 61 (I x4.Is) ?_ (st_pure (p_lc k57 (.slot 57) [0] 0 (.int .i64 x4.Is) gx4))
               refine LWp.o 62 (B (x4.Is != 0)) ?_
               refine LWp.o 63 (B (x4.Is != 0)) ?_
               refine LWp.o 64 (B (x4.Is != 0)) ?_
               refine LWp.nil ?_
               cases h
               exact ⟨_, rfl, rfl, rfl⟩
             refine LWp.sh 56 ?_
             refine LWp.sh 57 ?_
             refine LWp.sh 58 ?_
             refine LWp.sh 59 ?_
             refine LWp.sh 60 ?_
             refine LWp.sh 61 ?_
             refine LWp.sh 62 ?_
             refine LWp.o 63 (B false) ?_
             refine LWp.o 64 (B false) ?_
             refine LWp.nil ?_
             cases h
             exact ⟨_, rfl, rfl, rfl⟩
           refine LWp.sh 46 ?_
           refine LWp.sh 47 ?_
           refine LWp.sh 48 ?_
           refine LWp.sh 49 ?_
           refine LWp.sh 50 ?_
           refine LWp.sh 51 ?_
           refine LWp.sh 52 ?_
           refine LWp.sh 53 ?_
           refine LWp.o 54 (B false) ?_
           refine LWp.o 55 (B false) ?_
           refine LWp.sh 56 ?_
           refine LWp.sh 57 ?_
           refine LWp.sh 58 ?_
           refine LWp.sh 59 ?_
           refine LWp.sh 60 ?_
           refine LWp.sh 61 ?_
           refine LWp.sh 62 ?_
           refine LWp.o 63 (B false) ?_
           refine LWp.o 64 (B false) ?_
           refine LWp.nil ?_
           cases h
           exact ⟨_, rfl, rfl, rfl⟩
         intro j2 h E hE
         refine nt_wp hE ?_
         change Wp _ _ _ (s_FlashOk_H6 xF yI1 x1 yK1 j2) _
         refine Wp.c h (fun h => ?_) (fun h => ?_)
         · refine Wp.seq ?_
           refine Wp.region ?_
           refine LWp.o 2 (B false) ?_
           refine LWp.nil ?_
           cases h
           replace h : some _ = some _ := hk2 _ rfl
           cases h
           replace h : some _ = some _ := hk1 _ rfl
           cases h
           exact Wp.ret ⟨.inr rfl, _, _, rfl, rfl⟩
         refine Wp.skip ?_
         refine Wp.region ?_
         refine LWp.o 33 (I yK1) ?_
         refine LWp.o 34 (I (ad yK1 1)) ?_
         refine LWp.o 5 (I (ad yK1 1)) ?_
         refine LWp.nil ?_
         cases h
         exact ⟨_, rfl, rfl, rfl⟩
       refine Wp.exit ?_
       cases h
       exact ⟨_, rfl, rfl, rfl⟩
     intro v3 h E hE
     refine nt_wp hE ?_
     change Wp _ _ _ (s_FlashOk_H5 xF yI1) _
     refine Wp.region ?_
     refine LWp.o 11 (I yI1) ?_
     refine LWp.o 12 (I (ad yI1 1)) ?_
     refine LWp.o 3 (I (ad yI1 1)) ?_
     refine LWp.nil ?_
     cases h
     exact ⟨_, rfl, rfl, rfl⟩
   refine Wp.exit ?_
   cases h
   exact ⟨_, rfl, rfl, rfl⟩
 intro v4 h E hE
 refine nt_wp hE ?_
 change Wp _ _ _ (s_FlashOk_H2 xF) _
 refine Wp.seq ?_
 refine Wp.region ?_
 refine LWp.o 65 (.one (.ptr (.box 1) 0 [] 0)) ?_
 refine LWp.o 66 (.one (.sl false 60 3 (encs (c60 false) xF.Blocks))) ?_
 refine LWp.o 67 (I (ln xF.Blocks)) ?_ (st_pure (p_ln (k60 false) xF.Blocks))
 refine LWp.cl h 68 (fun v5 => (B v5)) rfl (l := [.sv (.one (.int .i64 (ln xF.Blocks))), .sv (.one (.int .i64 3)), .sv (.one (.int .i64 10))]) rfl (fun v hv => s_l01In_t (ln xF.Blocks) 3 10 v hv) (.inl rfl) ?_
 intro v5 gv5 h
 refine LWp.o 2 (B v5) ?_
 refine LWp.nil ?_
 cases h
 exact Wp.ret ⟨.inr rfl, _, _, rfl, rfl⟩
def s_SumMore_H1 (xText : ByteArray) (z1 : Int) (z2 : Int) : St := mkSt [(0, (.one (.int .u32 z1))), (1, (Y xText)), (5, (I z2))] []
def s_SumMore_H2 (z3 : Int) : St := mkSt [(0, (.one (.int .u32 z3)))] []
def s_SumMore_H3 (xText : ByteArray) (yI1 : Int) (z4 : Int) (z5 : Int) : St := mkSt [(0, (.one (.int .u32 z4))), (1, (Y xText)), (5, (I yI1)), (6, (I z5))] []
def s_SumMore_H4 (xText : ByteArray) (yI1 : Int) (z6 : Int) : St := mkSt [(0, (.one (.int .u32 z6))), (1, (Y xText)), (5, (I yI1))] []
set_option maxRecDepth 100000 in
theorem s_SumMore_t (xSum : Int) (xText : ByteArray) (r : Int) (h : s_SumMore xSum xText = some r) : Gives Try.prog 73 [.sv (.one (.int .u32 xSum)), .sv (Y xText)] (.one (.int .u32 r)) (List.replicate 2 .gone) := by
 unfold s_SumMore at h
 refine gives_of Try.func73 rfl ?_
 rw [Try.ntmps73]
 refine Wp.seq ?_
 refine Wp.region ?_
 refine LWp.o 4 (.one (.int .u32 0)) ?_
 refine LWp.nil ?_
 refine Wp.seq ?_
 refine Wp.seq ?_
 refine Wp.region ?_
 refine LWp.o 5 (I 0) ?_
 refine LWp.nil ?_
 refine Wp.l1 h [0, 1, 5] [] (fun s => (s_SumMore_H1 xText s.1 s.2)) [0] [] (fun s => (s_SumMore_H2 s)) ⟨rfl, rfl⟩ ?_ ?_
 · rintro ⟨ySum1, yI1⟩ o (h : s_SumMore_b1 xText ySum1 yI1 = some o)
   unfold s_SumMore_b1 at h
   change Wp _ _ _ (s_SumMore_H1 xText ySum1 yI1) _
   refine Wp.seq ?_
   refine Wp.seq ?_
   refine Wp.region ?_
   refine LWp.o 8 (I yI1) ?_
   refine LWp.o 9 (Y xText) ?_
   refine LWp.o 10 (I (sln xText)) ?_
   refine LWp.o 11 (B (decide (yI1 < (sln xText)))) ?_
   refine LWp.nil ?_
   refine Wp.c h (fun h => ?_) (fun h => ?_)
   · refine Wp.skip ?_
     refine Wp.seq ?_
     refine Wp.block ?_
     refine Wp.seq ?_
     refine Wp.region ?_
     refine LWp.o 14 (.one (.int .u32 ySum1)) ?_
     refine LWp.o 15 (Y xText) ?_
     refine LWp.o 16 (I yI1) ?_
     refine LWp.p h 17 (fun x1 => (.one (.int .u8 x1))) ?_ (fun x1 gx1 => st_pure (p_sx gx1))
     intro x1 gx1 h
     refine LWp.o 18 (.one (.int .u32 (IntKind.u32.wrap x1))) ?_
     refine LWp.o 19 (.one (.int .u32 (xr ySum1 (IntKind.u32.wrap x1)))) ?_
     refine LWp.o 0 (.one (.int .u32 (xr ySum1 (IntKind.u32.wrap x1)))) ?_
     refine LWp.nil ?_
     refine Wp.seq ?_
     refine Wp.region ?_
     refine LWp.o 6 (I 0) ?_
     refine LWp.nil ?_
     refine Wp.l1 h [0, 1, 5, 6] [] (fun s => (s_SumMore_H3 xText yI1 s.1 s.2)) [0, 1, 5] [] (fun s => (s_SumMore_H4 xText yI1 s)) ⟨rfl, rfl⟩ ?_ ?_
     · rintro ⟨ySum2, yK1⟩ o (h : s_SumMore_b2 ySum2 yK1 = some o)
       unfold s_SumMore_b2 at h
       change Wp _ _ _ (s_SumMore_H3 xText yI1 ySum2 yK1) _
       refine Wp.seq ?_
       refine Wp.seq ?_
       refine Wp.region ?_
       refine LWp.o 20 (I yK1) ?_
       refine LWp.o 21 (B (decide (yK1 < 8))) ?_
       refine LWp.nil ?_
       refine Wp.c h (fun h => ?_) (fun h => ?_)
       · refine Wp.skip ?_
         refine Wp.seq ?_
         refine Wp.block ?_
         refine Wp.seq ?_
         refine Wp.region ?_
         refine LWp.o 24 (.one (.int .u32 ySum2)) ?_
         refine LWp.o 25 (.one (.int .u32 (Int.tmod ySum2 2))) ?_
         refine LWp.o 26 (B ((Int.tmod ySum2 2) == 1)) ?_
         refine LWp.o 7 (B ((Int.tmod ySum2 2) == 1)) ?_
         refine LWp.nil ?_
         refine Wp.seq ?_
         refine Wp.region ?_
         refine LWp.o 27 (.one (.int .u32 ySum2)) ?_
         refine LWp.o 28 (.one (.int .u32 (IntKind.u32.wrap (Int.tdiv ySum2 2)))) ?_
         refine LWp.o 0 (.one (.int .u32 (IntKind.u32.wrap (Int.tdiv ySum2 2)))) ?_
         refine LWp.nil ?_
         refine Wp.seq ?_
         refine Wp.region ?_
         refine LWp.o 29 (B ((Int.tmod ySum2 2) == 1)) ?_
         refine LWp.nil ?_
         refine Wp.c h (fun h => ?_) (fun h => ?_)
         · refine Wp.region ?_
           refine LWp.o 30 (.one (.int .u32 (IntKind.u32.wrap (Int.tdiv ySum2 2)))) ?_
           refine LWp.o 31 (.one (.int .u32 (xr (IntKind.u32.wrap (Int.tdiv ySum2 2)) 3558460437))) ?_
           refine LWp.o 0 (.one (.int .u32 (xr (IntKind.u32.wrap (Int.tdiv ySum2 2)) 3558460437))) ?_
           refine LWp.nil ?_
           refine Wp.region ?_
           refine LWp.o 22 (I yK1) ?_
           refine LWp.o 23 (I (ad yK1 1)) ?_
           refine LWp.o 6 (I (ad yK1 1)) ?_
           refine LWp.nil ?_
           cases h
           exact ⟨_, rfl, rfl, rfl⟩
         refine Wp.skip ?_
         refine Wp.region ?_
         refine LWp.o 22 (I yK1) ?_
         refine LWp.o 23 (I (ad yK1 1)) ?_
         refine LWp.o 6 (I (ad yK1 1)) ?_
         refine LWp.nil ?_
         cases h
         exact ⟨_, rfl, rfl, rfl⟩
       refine Wp.exit ?_
       cases h
       exact ⟨_, rfl, rfl, rfl⟩
     intro v1 h E hE
     refine nt_wp hE ?_
     change Wp _ _ _ (s_SumMore_H4 xText yI1 v1) _
     refine Wp.region ?_
     refine LWp.o 12 (I yI1) ?_
     refine LWp.o 13 (I (ad yI1 1)) ?_
     refine LWp.o 5 (I (ad yI1 1)) ?_
     refine LWp.nil ?_
     cases h
     exact ⟨_, rfl, rfl, rfl⟩
   refine Wp.exit ?_
   cases h
   exact ⟨_, rfl, rfl, rfl⟩
 intro v2 h E hE
 refine nt_wp hE ?_
 change Wp _ _ _ (s_SumMore_H2 v2) _
 refine Wp.seq ?_
 refine Wp.region ?_
 refine LWp.o 32 (.one (.int .u32 v2)) ?_
 refine LWp.o 4 (.one (.int .u32 v2)) ?_
 refine LWp.nil ?_
 cases h
 exact Wp.ret ⟨.inr rfl, _, _, rfl, rfl⟩
set_option maxRecDepth 100000 in
theorem s_SumOf_t (xText : ByteArray) (r : Int) (h : s_SumOf xText = some r) : Gives Try.prog 52 [.sv (Y xText)] (.one (.int .u32 r)) (List.replicate 1 .gone) := by
 unfold s_SumOf at h
 refine gives_of Try.func52 rfl ?_
 rw [Try.ntmps52]
 refine Wp.seq ?_
 refine Wp.region ?_
 refine LWp.o 2 (.one (.int .u32 0)) ?_
 refine LWp.nil ?_
 refine Wp.seq ?_
 refine Wp.region ?_
 refine LWp.o 3 (Y xText) ?_
 refine LWp.cl h 4 (fun v1 => (.one (.int .u32 v1))) rfl (l := [.sv (.one (.int .u32 4294967295)), .sv (.one (.str xText))]) rfl (fun v hv => s_SumMore_t 4294967295 xText v hv) (.inl rfl) ?_
 intro v1 gv1 h
 refine LWp.o 2 (.one (.int .u32 v1)) ?_
 refine LWp.nil ?_
 cases h
 exact Wp.ret ⟨.inr rfl, _, _, rfl, rfl⟩
def c5 (x : Int) : List TV := [.int .u8 x]
theorem k5 : ∀ x, (c5 x).length = 1 := fun _ => rfl
theorem sh5 : ∀ l, shares (encs c5 l) = encs c5 l := shares_encs (fun _ => rfl)
theorem ns5 : ∀ l, hasShareds (encs c5 l) = false := ns_encs (fun _ => rfl)
set_option maxRecDepth 100000 in
theorem s_l02Four_t (xX : Int) (r : ByteArray) (h : s_l02Four xX = some r) : Gives Try.prog 51 [.sv (.one (.int .u32 xX))] (Y r) (List.replicate 1 .gone) := by
 unfold s_l02Four at h
 refine gives_of Try.func51 rfl ?_
 rw [Try.ntmps51]
 refine Wp.seq ?_
 refine Wp.region ?_
 refine LWp.o 2 (Y (bs [])) ?_
 refine LWp.nil ?_
 refine Wp.seq ?_
 refine Wp.region ?_
 refine LWp.o 3 (.one (.int .u32 xX)) ?_
 refine LWp.o 4 (.one (.int .u32 (Int.fdiv xX (2 ^ (min (24 : Int).toNat IntKind.u32.bits))))) ?_
 refine LWp.o 5 (.one (.int .u8 (IntKind.u8.wrap (Int.fdiv xX (2 ^ (min (24 : Int).toNat IntKind.u32.bits)))))) ?_
 refine LWp.o 6 (.one (.int .u32 xX)) ?_
 refine LWp.o 7 (.one (.int .u32 (Int.fdiv xX (2 ^ (min (16 : Int).toNat IntKind.u32.bits))))) ?_
 refine LWp.o 8 (.one (.int .u8 (IntKind.u8.wrap (Int.fdiv xX (2 ^ (min (16 : Int).toNat IntKind.u32.bits)))))) ?_
 refine LWp.o 9 (.one (.int .u32 xX)) ?_
 refine LWp.o 10 (.one (.int .u32 (Int.fdiv xX (2 ^ (min (8 : Int).toNat IntKind.u32.bits))))) ?_
 refine LWp.o 11 (.one (.int .u8 (IntKind.u8.wrap (Int.fdiv xX (2 ^ (min (8 : Int).toNat IntKind.u32.bits)))))) ?_
 refine LWp.o 12 (.one (.int .u32 xX)) ?_
 refine LWp.o 13 (.one (.int .u8 (IntKind.u8.wrap xX))) ?_
 refine LWp.m false [] 14 (.one (.sl true 5 1 (encs c5 [(IntKind.u8.wrap (Int.fdiv xX (2 ^ (min (24 : Int).toNat IntKind.u32.bits)))), (IntKind.u8.wrap (Int.fdiv xX (2 ^ (min (16 : Int).toNat IntKind.u32.bits)))), (IntKind.u8.wrap (Int.fdiv xX (2 ^ (min (8 : Int).toNat IntKind.u32.bits)))), (IntKind.u8.wrap xX)]))) ?_
 refine LWp.o 15 (Y (strB [(IntKind.u8.wrap (Int.fdiv xX (2 ^ (min (24 : Int).toNat IntKind.u32.bits)))), (IntKind.u8.wrap (Int.fdiv xX (2 ^ (min (16 : Int).toNat IntKind.u32.bits)))), (IntKind.u8.wrap (Int.fdiv xX (2 ^ (min (8 : Int).toNat IntKind.u32.bits)))), (IntKind.u8.wrap xX)])) ?_ (st_pure (p_cv (fun _ => rfl) [(IntKind.u8.wrap (Int.fdiv xX (2 ^ (min (24 : Int).toNat IntKind.u32.bits)))), (IntKind.u8.wrap (Int.fdiv xX (2 ^ (min (16 : Int).toNat IntKind.u32.bits)))), (IntKind.u8.wrap (Int.fdiv xX (2 ^ (min (8 : Int).toNat IntKind.u32.bits)))), (IntKind.u8.wrap xX)]))
 refine LWp.o 2 (Y (strB [(IntKind.u8.wrap (Int.fdiv xX (2 ^ (min (24 : Int).toNat IntKind.u32.bits)))), (IntKind.u8.wrap (Int.fdiv xX (2 ^ (min (16 : Int).toNat IntKind.u32.bits)))), (IntKind.u8.wrap (Int.fdiv xX (2 ^ (min (8 : Int).toNat IntKind.u32.bits)))), (IntKind.u8.wrap xX)])) ?_
 refine LWp.nil ?_
 cases h
 exact Wp.ret ⟨.inr rfl, _, _, rfl, rfl⟩
def s_Unsealed_H1 (xText : ByteArray) (z1 : Bool) : St := mkSt [(0, (Y xText)), (4, (I (sb (sln xText) 4))), (24, (B z1))] []
set_option maxRecDepth 100000 in
theorem s_Unsealed_t (xText : ByteArray) (r : ByteArray × Bool) (h : s_Unsealed xText = some r) : Gives Try.prog 33 [.sv (Y xText)] (.tup [(Y r.1), (B r.2)]) (List.replicate 1 .gone) := by
 unfold s_Unsealed at h
 refine gives_of Try.func33 rfl ?_
 rw [Try.ntmps33]
 refine Wp.seq ?_
 refine Wp.region ?_
 refine LWp.o 2 (Y (bs [])) ?_
 refine LWp.o 3 (B false) ?_
 refine LWp.nil ?_
 refine Wp.seq ?_
 refine Wp.region ?_
 refine LWp.o 5 (Y xText) ?_
 refine LWp.o 6 (I (sln xText)) ?_
 refine LWp.o 7 (I (sb (sln xText) 4)) ?_
 refine LWp.o 4 (I (sb (sln xText) 4)) ?_
 refine LWp.nil ?_
 refine Wp.seq ?_
 refine Wp.seq ?_
 refine Wp.j1 h [0, 4, 24] [] (fun a => (s_Unsealed_H1 xText a)) ?_ ?_
 · intro a h
   refine Wp.regionK 17 [] mixed (fun c E h => by rcases h with ⟨h | h, _⟩ <;> cases h) ?_
   refine KWp.o 17 0 8 (I (sb (sln xText) 4)) ?_
   refine KWp.o 17 1 9 (B (decide ((sb (sln xText) 4) < 0))) ?_
   refine KWp.o 17 2 10 (B (decide ((sb (sln xText) 4) < 0))) ?_
   refine KWp.sp h 10 (fun h => ?_) (fun h => ?_)
   · refine KWp.sh 17 3 11 ?_
     refine KWp.sh 17 4 12 ?_
     refine KWp.o 17 5 13 (B true) ?_
     refine KWp.o 17 6 14 (B true) ?_
     refine KWp.sh 17 7 15 ?_
     refine KWp.sh 17 8 16 ?_
     refine KWp.sh 17 9 17 ?_
     refine KWp.sh 17 10 18 ?_
     refine KWp.sh 17 11 19 ?_
     refine KWp.sh 17 12 20 ?_
     refine KWp.sh 17 13 21 ?_
     refine KWp.sh 17 14 22 ?_
     refine KWp.sh 17 15 23 ?_
     refine KWp.o 17 16 24 (B true) ?_
     refine KWp.done ?_
     cases h
     exact ⟨_, rfl, rfl, rfl⟩
   refine KWp.o 17 3 11 (I (sb (sln xText) 4)) ?_
   refine KWp.o 17 4 12 (B (decide ((sb (sln xText) 4) > 20000))) ?_
   refine KWp.o 17 5 13 (B (decide ((sb (sln xText) 4) > 20000))) ?_
   refine KWp.o 17 6 14 (B (decide ((sb (sln xText) 4) > 20000))) ?_
   refine KWp.sp h 14 (fun h => ?_) (fun h => ?_)
   · refine KWp.sh 17 7 15 ?_
     refine KWp.sh 17 8 16 ?_
     refine KWp.sh 17 9 17 ?_
     refine KWp.sh 17 10 18 ?_
     refine KWp.sh 17 11 19 ?_
     refine KWp.sh 17 12 20 ?_
     refine KWp.sh 17 13 21 ?_
     refine KWp.sh 17 14 22 ?_
     refine KWp.sh 17 15 23 ?_
     refine KWp.o 17 16 24 (B true) ?_
     refine KWp.done ?_
     cases h
     exact ⟨_, rfl, rfl, rfl⟩
   refine KWp.o 17 7 15 (Y xText) ?_
   refine KWp.o 17 8 16 (I (sb (sln xText) 4)) ?_
   refine KWp.p h 17 9 17 (fun x1 => (Y x1)) ?_ rfl (fun x1 gx1 => sl_pure (p_sub gx1))
   intro x1 gx1 h
   refine KWp.o 17 10 18 (Y xText) ?_
   refine KWp.o 17 11 19 (I (sb (sln xText) 4)) ?_
   refine KWp.p h 17 12 20 (fun x2 => (Y x2)) ?_ rfl (fun x2 gx2 => sl_pure (p_sub gx2))
   intro x2 gx2 h
   refine KWp.w1 13 ?_
   refine KOp.cl h 13 21 (fun v1 => (.one (.int .u32 v1))) rfl rfl (l := [.sv (.one (.str x2))]) rfl (fun v hv => s_SumOf_t x2 v hv) (.inl rfl) ?_
   intro v1 gv1 h
   refine KWp.w1 14 ?_
   refine KOp.cl h 14 22 (fun v2 => (Y v2)) rfl rfl (l := [.sv (.one (.int .u32 v1))]) rfl (fun v hv => s_l02Four_t v1 v hv) (.inl rfl) ?_
   intro v2 gv2 h
   refine KWp.o 17 15 23 (B (!(seq x1 v2))) ?_
   refine KWp.o 17 16 24 (B (!(seq x1 v2))) ?_
   refine KWp.done ?_
   cases h
   exact ⟨_, rfl, rfl, rfl⟩
 intro j1 h E hE
 refine nt_wp hE ?_
 change Wp _ _ _ (s_Unsealed_H1 xText j1) _
 refine Wp.c h (fun h => ?_) (fun h => ?_)
 · refine Wp.seq ?_
   refine Wp.region ?_
   refine LWp.o 2 (Y (bs [])) ?_
   refine LWp.o 3 (B false) ?_
   refine LWp.nil ?_
   cases h
   exact Wp.ret ⟨.inr rfl, _, _, rfl, rfl⟩
 refine Wp.skip ?_
 refine Wp.seq ?_
 refine Wp.region ?_
 refine LWp.o 25 (Y xText) ?_
 refine LWp.o 26 (I (sb (sln xText) 4)) ?_
 refine LWp.p h 27 (fun x3 => (Y x3)) ?_ (fun x3 gx3 => st_pure (p_sub gx3))
 intro x3 gx3 h
 refine LWp.o 2 (Y x3) ?_
 refine LWp.o 3 (B true) ?_
 refine LWp.nil ?_
 cases h
 exact Wp.ret ⟨.inr rfl, _, _, rfl, rfl⟩
def s_l01Var_H1 (z1 : Int) (z2 : List Int) : St := mkSt [(0, (I z1)), (3, (.one (.sl true 5 1 (encs c5 z2))))] []
def s_l01Var_H2 (z3 : Int) (z4 : List Int) : St := mkSt [(0, (I z3)), (3, (.one (.sl true 5 1 (encs c5 z4))))] []
set_option maxRecDepth 100000 in
theorem s_l01Var_t (xN : Int) (r : ByteArray) (h : s_l01Var xN = some r) : Gives Try.prog 57 [.sv (I xN)] (Y r) (List.replicate 1 .gone) := by
 unfold s_l01Var at h
 refine gives_of Try.func57 rfl ?_
 rw [Try.ntmps57]
 refine Wp.seq ?_
 refine Wp.region ?_
 refine LWp.o 2 (Y (bs [])) ?_
 refine LWp.nil ?_
 refine Wp.seq ?_
 refine Wp.region ?_
 refine LWp.m false [] 4 (.one (.sl true 5 1 (encs c5 []))) ?_
 refine LWp.m true [(.slot 4, [.junk])] 3 (.one (.sl true 5 1 (encs c5 []))) ?_
 refine LWp.nil ?_
 refine Wp.seq ?_
 refine Wp.l1 h [0, 3] [] (fun s => (s_l01Var_H1 s.1 s.2)) [0, 3] [] (fun s => (s_l01Var_H2 s.1 s.2)) ⟨rfl, rfl⟩ ?_ ?_
 · rintro ⟨yN1, yOut1⟩ o (h : s_l01Var_b1 yN1 yOut1 = some o)
   unfold s_l01Var_b1 at h
   change Wp _ _ _ (s_l01Var_H1 yN1 yOut1) _
   refine Wp.seq ?_
   refine Wp.seq ?_
   refine Wp.region ?_
   refine LWp.o 5 (I yN1) ?_
   refine LWp.o 6 (B (decide (yN1 > 127))) ?_
   refine LWp.nil ?_
   refine Wp.c h (fun h => ?_) (fun h => ?_)
   · refine Wp.skip ?_
     refine Wp.block ?_
     refine Wp.seq ?_
     refine Wp.region ?_
     refine LWp.o 7 (.one (.view (.slot 3) 0 [] 0)) ?_
     refine LWp.o 8 (I yN1) ?_
     refine LWp.o 9 (I (Int.tmod yN1 128)) ?_
     refine LWp.o 10 (I (ad (Int.tmod yN1 128) 128)) ?_
     refine LWp.o 11 (.one (.int .u8 (IntKind.u8.wrap (ad (Int.tmod yN1 128) 128)))) ?_
     refine LWp.m false [] 12 (.one (.sl true 5 1 (encs c5 [(IntKind.u8.wrap (ad (Int.tmod yN1 128) 128))]))) ?_
     refine LWp.pm h [(.slot 3, [.junk])] 13 (fun c1 => (.one (.sl true 5 1 (encs c5 c1)))) ?_ (fun c1 gc1 => s_apl k5 (fun _ => rfl) [(.slot 3, [.junk])] yOut1 gc1)
     intro c1 gc1 h
     refine LWp.m true [(.slot 13, [.junk])] 3 (.one (.sl true 5 1 (encs c5 c1))) ?_
     refine LWp.nil ?_
     refine Wp.region ?_
     refine LWp.o 14 (I yN1) ?_
     refine LWp.o 15 (I (qu yN1 128)) ?_
     refine LWp.o 0 (I (qu yN1 128)) ?_
     refine LWp.nil ?_
     cases h
     exact ⟨_, rfl, rfl, rfl⟩
   refine Wp.exit ?_
   cases h
   exact ⟨_, rfl, rfl, rfl⟩
 intro v1 h E hE
 refine nt_wp hE ?_
 change Wp _ _ _ (s_l01Var_H2 v1.1 v1.2) _
 refine Wp.seq ?_
 refine Wp.region ?_
 refine LWp.o 16 (.one (.view (.slot 3) 0 [] 0)) ?_
 refine LWp.o 17 (I v1.1) ?_
 refine LWp.o 18 (.one (.int .u8 (IntKind.u8.wrap v1.1))) ?_
 refine LWp.m false [] 19 (.one (.sl true 5 1 (encs c5 [(IntKind.u8.wrap v1.1)]))) ?_
 refine LWp.pm h [(.slot 3, [.junk])] 20 (fun c2 => (.one (.sl true 5 1 (encs c5 c2)))) ?_ (fun c2 gc2 => s_apl k5 (fun _ => rfl) [(.slot 3, [.junk])] v1.2 gc2)
 intro c2 gc2 h
 refine LWp.o 21 (Y (strB c2)) ?_ (st_pure (p_cv (fun _ => rfl) c2))
 refine LWp.o 2 (Y (strB c2)) ?_
 refine LWp.nil ?_
 cases h
 exact Wp.ret ⟨.inr rfl, _, _, rfl, rfl⟩
def s_ReadVar_H1 (xText : ByteArray) (xAt : Int) (z1 : Int) (z2 : Int) (z3 : Int) : St := mkSt [(0, (Y xText)), (1, (I xAt)), (7, (I z1)), (8, (I z2)), (9, (I z3))] []
def s_ReadVar_H2  : St := mkSt [] []
def s_ReadVar_H3 (xText : ByteArray) (xAt : Int) (yN1 : Int) (yScale1 : Int) (yI1 : Int) (z4 : Bool) : St := mkSt [(0, (Y xText)), (1, (I xAt)), (7, (I yN1)), (8, (I yScale1)), (9, (I yI1)), (25, (B z4))] []
def s_ReadVar_H4 (yN1 : Int) (yScale1 : Int) (yI1 : Int) (x1 : Int) (z5 : Bool) : St := mkSt [(7, (I (ad yN1 (ml (Int.tmod (IntKind.i64.wrap x1) 128) yScale1)))), (9, (I yI1)), (54, (B z5))] []
set_option maxRecDepth 100000 in
theorem s_ReadVar_t (xText : ByteArray) (xAt : Int) (r : Int × Int × Bool) (h : s_ReadVar xText xAt = some r) : Gives Try.prog 53 [.sv (Y xText), .sv (I xAt)] (.tup [(I r.1), (I r.2.1), (B r.2.2)]) (List.replicate 2 .gone) := by
 unfold s_ReadVar at h
 refine gives_of Try.func53 rfl ?_
 rw [Try.ntmps53]
 refine Wp.seq ?_
 refine Wp.region ?_
 refine LWp.o 4 (I 0) ?_
 refine LWp.o 5 (I 0) ?_
 refine LWp.o 6 (B false) ?_
 refine LWp.nil ?_
 refine Wp.seq ?_
 refine Wp.seq ?_
 refine Wp.region ?_
 refine LWp.o 10 (I xAt) ?_
 refine LWp.o 11 (Y xText) ?_
 refine LWp.o 12 (I (sln xText)) ?_
 refine LWp.cl h 13 (fun v1 => (B v1)) rfl (l := [.sv (.one (.int .i64 xAt)), .sv (.one (.int .i64 0)), .sv (.one (.int .i64 (sln xText)))]) rfl (fun v hv => s_l01In_t xAt 0 (sln xText) v hv) (.inl rfl) ?_
 intro v1 gv1 h
 refine LWp.o 14 (B (!v1)) ?_
 refine LWp.nil ?_
 refine Wp.c h (fun h => ?_) (fun h => ?_)
 · refine Wp.seq ?_
   refine Wp.region ?_
   refine LWp.o 4 (I 0) ?_
   refine LWp.o 5 (I 0) ?_
   refine LWp.o 6 (B false) ?_
   refine LWp.nil ?_
   cases h
   exact Wp.ret ⟨.inr rfl, _, _, rfl, rfl⟩
 refine Wp.skip ?_
 refine Wp.seq ?_
 refine Wp.region ?_
 refine LWp.o 7 (I 0) ?_
 refine LWp.nil ?_
 refine Wp.seq ?_
 refine Wp.region ?_
 refine LWp.o 8 (I 1) ?_
 refine LWp.nil ?_
 refine Wp.seq ?_
 refine Wp.seq ?_
 refine Wp.region ?_
 refine LWp.o 15 (I xAt) ?_
 refine LWp.o 9 (I xAt) ?_
 refine LWp.nil ?_
 refine Wp.l2 h [0, 1, 7, 8, 9] [] (fun s => (s_ReadVar_H1 xText xAt s.1 s.2.1 s.2.2)) [] [] (fun _ => s_ReadVar_H2) ⟨rfl, rfl⟩ ?_ ?_
 · rintro ⟨yN1, yScale1, yI1⟩ o (h : s_ReadVar_b1 xText xAt yN1 yScale1 yI1 = some o) hk1
   unfold s_ReadVar_b1 at h
   change Wp _ _ _ (s_ReadVar_H1 xText xAt yN1 yScale1 yI1) _
   refine Wp.seq ?_
   refine Wp.seq ?_
   refine Wp.j1 h [0, 1, 7, 8, 9, 25] [] (fun a => (s_ReadVar_H3 xText xAt yN1 yScale1 yI1 a)) ?_ ?_
   · intro a h
     refine Wp.region ?_
     refine LWp.o 16 (I yI1) ?_
     refine LWp.o 17 (Y xText) ?_
     refine LWp.o 18 (I (sln xText)) ?_
     refine LWp.o 19 (B (decide (yI1 < (sln xText)))) ?_
     refine LWp.o 20 (B (decide (yI1 < (sln xText)))) ?_
     refine LWp.sp h 20 (fun h => ?_) (fun h => ?_)
     · refine LWp.o 21 (I yI1) ?_
       refine LWp.o 22 (I xAt) ?_
       refine LWp.o 23 (I (ad xAt 5)) ?_
       refine LWp.o 24 (B (decide (yI1 < (ad xAt 5)))) ?_
       refine LWp.o 25 (B (decide (yI1 < (ad xAt 5)))) ?_
       refine LWp.nil ?_
       cases h
       exact ⟨_, rfl, rfl, rfl⟩
     refine LWp.sh 21 ?_
     refine LWp.sh 22 ?_
     refine LWp.sh 23 ?_
     refine LWp.sh 24 ?_
     refine LWp.o 25 (B false) ?_
     refine LWp.nil ?_
     cases h
     exact ⟨_, rfl, rfl, rfl⟩
   intro j1 h E hE
   refine nt_wp hE ?_
   change Wp _ _ _ (s_ReadVar_H3 xText xAt yN1 yScale1 yI1 j1) _
   refine Wp.c h (fun h => ?_) (fun h => ?_)
   · refine Wp.skip ?_
     refine Wp.seq ?_
     refine Wp.block ?_
     refine Wp.seq ?_
     refine Wp.region ?_
     refine LWp.o 28 (I yN1) ?_
     refine LWp.o 29 (Y xText) ?_
     refine LWp.o 30 (I yI1) ?_
     refine LWp.p h 31 (fun x1 => (.one (.int .u8 x1))) ?_ (fun x1 gx1 => st_pure (p_sx gx1))
     intro x1 gx1 h
     refine LWp.o 32 (I (IntKind.i64.wrap x1)) ?_
     refine LWp.o 33 (I (Int.tmod (IntKind.i64.wrap x1) 128)) ?_
     refine LWp.o 34 (I yScale1) ?_
     refine LWp.o 35 (I (ml (Int.tmod (IntKind.i64.wrap x1) 128) yScale1)) ?_
     refine LWp.o 36 (I (ad yN1 (ml (Int.tmod (IntKind.i64.wrap x1) 128) yScale1))) ?_
     refine LWp.o 7 (I (ad yN1 (ml (Int.tmod (IntKind.i64.wrap x1) 128) yScale1))) ?_
     refine LWp.nil ?_
     refine Wp.seq ?_
     refine Wp.region ?_
     refine LWp.o 37 (I yScale1) ?_
     refine LWp.o 38 (I (ml yScale1 128)) ?_
     refine LWp.o 8 (I (ml yScale1 128)) ?_
     refine LWp.nil ?_
     refine Wp.seq ?_
     refine Wp.region ?_
     refine LWp.o 39 (Y xText) ?_
     refine LWp.o 40 (I yI1) ?_
     refine LWp.p h 41 (fun x2 => (.one (.int .u8 x2))) ?_ (fun x2 gx2 => st_pure (p_sx gx2))
     intro x2 gx2 h
     refine LWp.o 42 (B (decide (x2 < 128))) ?_
     refine LWp.nil ?_
     refine Wp.c h (fun h => ?_) (fun h => ?_)
     · refine Wp.seq ?_
       refine Wp.seq ?_
       refine Wp.j1 h [7, 9, 54] [] (fun a => (s_ReadVar_H4 yN1 yScale1 yI1 x1 a)) ?_ ?_
       · intro a h
         refine Wp.regionK 12 [] mixed (fun c E h => by rcases h with ⟨h | h, _⟩ <;> cases h) ?_
         refine KWp.o 12 0 43 (I (ad yN1 (ml (Int.tmod (IntKind.i64.wrap x1) 128) yScale1))) ?_
         refine KWp.o 12 1 44 (B (decide ((ad yN1 (ml (Int.tmod (IntKind.i64.wrap x1) 128) yScale1)) > 1000000000))) ?_
         refine KWp.o 12 2 45 (B (decide ((ad yN1 (ml (Int.tmod (IntKind.i64.wrap x1) 128) yScale1)) > 1000000000))) ?_
         refine KWp.sp h 45 (fun h => ?_) (fun h => ?_)
         · refine KWp.sh 12 3 46 ?_
           refine KWp.sh 12 5 48 ?_
           refine KWp.sh 12 6 49 ?_
           refine KWp.sh 12 7 50 ?_
           refine KWp.sh 12 8 51 ?_
           refine KWp.sh 12 9 52 ?_
           refine KWp.sh 12 4 47 ?_
           refine KWp.sh 12 10 53 ?_
           refine KWp.o 12 11 54 (B true) ?_
           refine KWp.done ?_
           cases h
           exact ⟨_, rfl, rfl, rfl⟩
         refine KWp.o 12 3 46 (I (ad yN1 (ml (Int.tmod (IntKind.i64.wrap x1) 128) yScale1))) ?_
         refine KWp.o 12 5 48 (Y xText) ?_
         refine KWp.o 12 6 49 (I xAt) ?_
         refine KWp.o 12 7 50 (I yI1) ?_
         refine KWp.o 12 8 51 (I (ad yI1 1)) ?_
         refine KWp.p h 12 9 52 (fun x3 => (Y x3)) ?_ rfl (fun x3 gx3 => sl_pure (p_sub gx3))
         intro x3 gx3 h
         refine KWp.w1 4 ?_
         refine KOp.cl h 4 47 (fun v2 => (Y v2)) rfl rfl (l := [.sv (.one (.int .i64 (ad yN1 (ml (Int.tmod (IntKind.i64.wrap x1) 128) yScale1))))]) rfl (fun v hv => s_l01Var_t (ad yN1 (ml (Int.tmod (IntKind.i64.wrap x1) 128) yScale1)) v hv) (.inl rfl) ?_
         intro v2 gv2 h
         refine KWp.o 12 10 53 (B (!(seq v2 x3))) ?_
         refine KWp.o 12 11 54 (B (!(seq v2 x3))) ?_
         refine KWp.done ?_
         cases h
         exact ⟨_, rfl, rfl, rfl⟩
       intro j2 h E hE
       refine nt_wp hE ?_
       change Wp _ _ _ (s_ReadVar_H4 yN1 yScale1 yI1 x1 j2) _
       refine Wp.c h (fun h => ?_) (fun h => ?_)
       · refine Wp.seq ?_
         refine Wp.region ?_
         refine LWp.o 4 (I 0) ?_
         refine LWp.o 5 (I 0) ?_
         refine LWp.o 6 (B false) ?_
         refine LWp.nil ?_
         cases h
         replace h : some _ = some _ := hk1 _ rfl
         cases h
         exact Wp.ret ⟨.inr rfl, _, _, rfl, rfl⟩
       refine Wp.skip ?_
       refine Wp.seq ?_
       refine Wp.region ?_
       refine LWp.o 55 (I (ad yN1 (ml (Int.tmod (IntKind.i64.wrap x1) 128) yScale1))) ?_
       refine LWp.o 56 (I yI1) ?_
       refine LWp.o 57 (I (ad yI1 1)) ?_
       refine LWp.o 4 (I (ad yN1 (ml (Int.tmod (IntKind.i64.wrap x1) 128) yScale1))) ?_
       refine LWp.o 5 (I (ad yI1 1)) ?_
       refine LWp.o 6 (B true) ?_
       refine LWp.nil ?_
       cases h
       replace h : some _ = some _ := hk1 _ rfl
       cases h
       exact Wp.ret ⟨.inr rfl, _, _, rfl, rfl⟩
     refine Wp.skip ?_
     refine Wp.region ?_
     refine LWp.o 26 (I yI1) ?_
     refine LWp.o 27 (I (ad yI1 1)) ?_
     refine LWp.o 9 (I (ad yI1 1)) ?_
     refine LWp.nil ?_
     cases h
     exact ⟨_, rfl, rfl, rfl⟩
   refine Wp.exit ?_
   cases h
   exact ⟨_, rfl, rfl, rfl⟩
 intro v3 h E hE
 refine nt_wp hE ?_
 change Wp _ _ _ s_ReadVar_H2 _
 refine Wp.seq ?_
 refine Wp.region ?_
 refine LWp.o 4 (I 0) ?_
 refine LWp.o 5 (I 0) ?_
 refine LWp.o 6 (B false) ?_
 refine LWp.nil ?_
 cases h
 exact Wp.ret ⟨.inr rfl, _, _, rfl, rfl⟩
def s_l06Var_H1 (xC : l06Cur) (z1 : Int) (z2 : Int) (z3 : Bool) : St := mkSt [(0, (.one (.ptr (.ext 0) 0 [] 0))), (3, (I z1)), (4, (I z2)), (5, (B z3))] [(.ext 0, [.str xC.text_, .int .i64 xC.at_, .bool xC.bad_])]
def s_l06Var_H2 (xC : l06Cur) (j1 : Int × Int × Bool) (z4 : Bool) : St := mkSt [(0, (.one (.ptr (.ext 0) 0 [] 0))), (3, (I j1.1)), (4, (I j1.2.1)), (26, (B z4))] [(.ext 0, [.str xC.text_, .int .i64 xC.at_, .bool xC.bad_])]
set_option maxRecDepth 100000 in
theorem s_l06Var_t (xC : l06Cur) (r : Int × l06Cur) (h : s_l06Var xC = some r) : Gives Try.prog 34 [.ext [.str xC.text_, .int .i64 xC.at_, .bool xC.bad_]] (I r.1) (.ext [.str r.2.text_, .int .i64 r.2.at_, .bool r.2.bad_] :: List.replicate 0 .gone) := by
 unfold s_l06Var at h
 refine gives_ext Try.func34 rfl ?_ rfl
 rw [Try.ntmps34]
 refine Wp.seq ?_
 refine Wp.region ?_
 refine LWp.o 2 (I 0) ?_
 refine LWp.nil ?_
 refine Wp.seq ?_
 refine Wp.j1 h [0, 3, 4, 5] [.ext 0] (fun a => (s_l06Var_H1 xC a.1 a.2.1 a.2.2)) ?_ ?_
 · intro a h
   refine Wp.regionK 16 [] mixed (fun c E h => by rcases h with ⟨h | h, _⟩ <;> cases h) ?_
   refine KWp.o 16 0 7 (.one (.ptr (.ext 0) 0 [] 0)) ?_
   refine KWp.o 16 1 8 (.one (.ptr (.ext 0) 0 [] 0)) ?_
   refine KWp.o 16 2 9 (.one (.ptr (.ext 0) 0 [] 0)) ?_
   refine KWp.o 16 3 10 (Y xC.text_) ?_
   refine KWp.o 16 4 11 (.one (.ptr (.ext 0) 0 [] 0)) ?_
   refine KWp.o 16 5 12 (.one (.ptr (.ext 0) 0 [] 0)) ?_
   refine KWp.o 16 6 13 (.one (.ptr (.ext 0) 0 [] 1)) ?_
   refine KWp.o 16 7 14 (I xC.at_) ?_
   refine KWp.w1 8 ?_
   refine KOp.cl h 8 15 (fun v1 => (.tup [(I v1.1), (I v1.2.1), (B v1.2.2)])) rfl rfl (l := [.sv (.one (.str xC.text_)), .sv (.one (.int .i64 xC.at_))]) rfl (fun v hv => s_ReadVar_t xC.text_ xC.at_ v hv) (.inl rfl) ?_
   intro v1 gv1 h
   refine KWp.w1 9 ?_
   refine KOp.mt 9 15 6 (.tup [(I v1.1), (I v1.2.1), (B v1.2.2)]) ?_
   refine KWp.w3 10 11 12 ?_ ?_ ?_
   · refine KOp.e 10 6 0 16 (I v1.1) ?_
     refine KWp.o 16 13 3 (I v1.1) ?_
     refine KWp.w2 11 12 ?_ ?_
     · refine KOp.e 11 6 1 17 (I v1.2.1) ?_
       refine KWp.o 16 14 4 (I v1.2.1) ?_
       refine KWp.w1 12 ?_
       refine KOp.e 12 6 2 18 (B v1.2.2) ?_
       refine KWp.o 16 15 5 (B v1.2.2) ?_
       refine KWp.done ?_
       cases h
       exact ⟨_, rfl, rfl, rfl⟩
     refine KOp.e 12 6 2 18 (B v1.2.2) ?_
     refine KWp.w1 11 ?_
     refine KOp.e 11 6 1 17 (I v1.2.1) ?_
     refine KWp.o 16 14 4 (I v1.2.1) ?_
     refine KWp.o 16 15 5 (B v1.2.2) ?_
     refine KWp.done ?_
     cases h
     exact ⟨_, rfl, rfl, rfl⟩
   · refine KOp.e 11 6 1 17 (I v1.2.1) ?_
     refine KWp.w2 10 12 ?_ ?_
     · refine KOp.e 10 6 0 16 (I v1.1) ?_
       refine KWp.o 16 13 3 (I v1.1) ?_
       refine KWp.o 16 14 4 (I v1.2.1) ?_
       refine KWp.w1 12 ?_
       refine KOp.e 12 6 2 18 (B v1.2.2) ?_
       refine KWp.o 16 15 5 (B v1.2.2) ?_
       refine KWp.done ?_
       cases h
       exact ⟨_, rfl, rfl, rfl⟩
     refine KOp.e 12 6 2 18 (B v1.2.2) ?_
     refine KWp.w1 10 ?_
     refine KOp.e 10 6 0 16 (I v1.1) ?_
     refine KWp.o 16 13 3 (I v1.1) ?_
     refine KWp.o 16 14 4 (I v1.2.1) ?_
     refine KWp.o 16 15 5 (B v1.2.2) ?_
     refine KWp.done ?_
     cases h
     exact ⟨_, rfl, rfl, rfl⟩
   refine KOp.e 12 6 2 18 (B v1.2.2) ?_
   refine KWp.w2 10 11 ?_ ?_
   · refine KOp.e 10 6 0 16 (I v1.1) ?_
     refine KWp.o 16 13 3 (I v1.1) ?_
     refine KWp.w1 11 ?_
     refine KOp.e 11 6 1 17 (I v1.2.1) ?_
     refine KWp.o 16 14 4 (I v1.2.1) ?_
     refine KWp.o 16 15 5 (B v1.2.2) ?_
     refine KWp.done ?_
     cases h
     exact ⟨_, rfl, rfl, rfl⟩
   refine KOp.e 11 6 1 17 (I v1.2.1) ?_
   refine KWp.w1 10 ?_
   refine KOp.e 10 6 0 16 (I v1.1) ?_
   refine KWp.o 16 13 3 (I v1.1) ?_
   refine KWp.o 16 14 4 (I v1.2.1) ?_
   refine KWp.o 16 15 5 (B v1.2.2) ?_
   refine KWp.done ?_
   cases h
   exact ⟨_, rfl, rfl, rfl⟩
 intro j1 h E hE
 refine nt_wp hE ?_
 change Wp _ _ _ (s_l06Var_H1 xC j1.1 j1.2.1 j1.2.2) _
 refine Wp.seq ?_
 refine Wp.seq ?_
 refine Wp.j1 h [0, 3, 4, 26] [.ext 0] (fun a => (s_l06Var_H2 xC j1 a)) ?_ ?_
 · intro a h
   refine Wp.region ?_
   refine LWp.o 19 (.one (.ptr (.ext 0) 0 [] 0)) ?_
   refine LWp.o 20 (.one (.ptr (.ext 0) 0 [] 0)) ?_
   refine LWp.o 21 (.one (.ptr (.ext 0) 0 [] 2)) ?_
   refine LWp.o 22 (B xC.bad_) ?_
   refine LWp.o 23 (B xC.bad_) ?_
   refine LWp.sp h 23 (fun h => ?_) (fun h => ?_)
   · refine LWp.sh 24 ?_
     refine LWp.sh 25 ?_
     refine LWp.o 26 (B true) ?_
     refine LWp.nil ?_
     cases h
     exact ⟨_, rfl, rfl, rfl⟩
   refine LWp.o 24 (B j1.2.2) ?_
   refine LWp.o 25 (B (!j1.2.2)) ?_
   refine LWp.o 26 (B (!j1.2.2)) ?_
   refine LWp.nil ?_
   cases h
   exact ⟨_, rfl, rfl, rfl⟩
 intro j2 h E hE
 refine nt_wp hE ?_
 change Wp _ _ _ (s_l06Var_H2 xC j1 j2) _
 refine Wp.c h (fun h => ?_) (fun h => ?_)
 · refine Wp.seq ?_
   refine Wp.region ?_
   refine LWp.o 27 (.one (.ptr (.ext 0) 0 [] 0)) ?_
   refine LWp.o 28 (.one (.ptr (.ext 0) 0 [] 0)) ?_
   refine LWp.o 29 (.one (.ptr (.ext 0) 0 [] 2)) ?_
   refine LWp.s [] (.ext 0) [.str xC.text_, .int .i64 xC.at_, .bool true] ?_
   refine LWp.nil ?_
   refine Wp.seq ?_
   refine Wp.region ?_
   refine LWp.o 2 (I 0) ?_
   refine LWp.nil ?_
   cases h
   exact Wp.ret ⟨.inr rfl, _, _, rfl, rfl, rfl⟩
 refine Wp.skip ?_
 refine Wp.seq ?_
 refine Wp.region ?_
 refine LWp.o 30 (.one (.ptr (.ext 0) 0 [] 0)) ?_
 refine LWp.o 31 (I j1.2.1) ?_
 refine LWp.o 32 (.one (.ptr (.ext 0) 0 [] 0)) ?_
 refine LWp.o 33 (.one (.ptr (.ext 0) 0 [] 1)) ?_
 refine LWp.s [] (.ext 0) [.str xC.text_, .int .i64 j1.2.1, .bool xC.bad_] ?_
 refine LWp.nil ?_
 refine Wp.seq ?_
 refine Wp.region ?_
 refine LWp.o 34 (I j1.1) ?_
 refine LWp.o 2 (I j1.1) ?_
 refine LWp.nil ?_
 cases h
 exact Wp.ret ⟨.inr rfl, _, _, rfl, rfl, rfl⟩
def s_PageOk_H1 (xP : Page) (z1 : Bool) : St := mkSt [(1, (.one (.ptr (.box 1) 0 [] 0))), (39, (B z1))] [(.box 1, [.int .i64 xP.Kind, .int .i64 xP.Seq, .int .i64 xP.Tx, .int .i64 xP.Part, .int .i64 xP.Count, .str xP.Text])]
set_option maxRecDepth 100000 in
theorem s_PageOk_t (xP : Page) (r : Bool) (h : s_PageOk xP = some r) : Gives Try.prog 54 [.sv (.agg [.int .i64 xP.Kind, .int .i64 xP.Seq, .int .i64 xP.Tx, .int .i64 xP.Part, .int .i64 xP.Count, .str xP.Text])] (B r) (List.replicate 1 .gone) := by
 unfold s_PageOk at h
 refine gives_of Try.func54 rfl ?_
 rw [Try.ntmps54]
 refine Wp.seq ?_
 refine Wp.region ?_
 refine LWp.b [] 1 [.int .i64 xP.Kind, .int .i64 xP.Seq, .int .i64 xP.Tx, .int .i64 xP.Part, .int .i64 xP.Count, .str xP.Text] ?_
 refine LWp.o 2 (B false) ?_
 refine LWp.nil ?_
 refine Wp.seq ?_
 refine Wp.seq ?_
 refine Wp.j1 h [1, 39] [.box 1] (fun a => (s_PageOk_H1 xP a)) ?_ ?_
 · intro a h
   refine Wp.region ?_
   refine LWp.o 3 (.one (.ptr (.box 1) 1 [] 0)) ?_
   refine LWp.o 4 (I xP.Kind) ?_
   refine LWp.cl h 5 (fun v1 => (B v1)) rfl (l := [.sv (.one (.int .i64 xP.Kind)), .sv (.one (.int .i64 1)), .sv (.one (.int .i64 2))]) rfl (fun v hv => s_l01In_t xP.Kind 1 2 v hv) (.inl rfl) ?_
   intro v1 gv1 h
   refine LWp.o 6 (B (!v1)) ?_
   refine LWp.o 7 (B (!v1)) ?_
   refine LWp.sp h 7 (fun h => ?_) (fun h => ?_)
   · refine LWp.sh 8 ?_
     refine LWp.sh 9 ?_
     refine LWp.sh 10 ?_
     refine LWp.sh 11 ?_
     refine LWp.o 12 (B true) ?_
     refine LWp.o 13 (B true) ?_
     refine LWp.sh 14 ?_
     refine LWp.sh 15 ?_
     refine LWp.sh 16 ?_
     refine LWp.sh 17 ?_
     refine LWp.o 18 (B true) ?_
     refine LWp.o 19 (B true) ?_
     refine LWp.sh 20 ?_
     refine LWp.sh 21 ?_
     refine LWp.sh 22 ?_
     refine LWp.sh 23 ?_
     refine LWp.o 24 (B true) ?_
     refine LWp.o 25 (B true) ?_
     refine LWp.sh 26 ?_
     refine LWp.sh 27 ?_
     refine LWp.sh 28 ?_
     refine LWp.sh 29 ?_
     refine LWp.sh 30 ?_
     refine LWp.sh 31 ?_
     refine LWp.sh 32 ?_
     refine LWp.o 33 (B true) ?_
     refine LWp.o 34 (B true) ?_
     refine LWp.sh 35 ?_
     refine LWp.sh 36 ?_
     refine LWp.sh 37 ?_
     refine LWp.sh 38 ?_
     refine LWp.o 39 (B true) ?_
     refine LWp.nil ?_
     cases h
     exact ⟨_, rfl, rfl, rfl⟩
   refine LWp.o 8 (.one (.ptr (.box 1) 1 [] 1)) ?_
   refine LWp.o 9 (I xP.Seq) ?_
   refine LWp.cl h 10 (fun v2 => (B v2)) rfl (l := [.sv (.one (.int .i64 xP.Seq)), .sv (.one (.int .i64 1)), .sv (.one (.int .i64 1000000000))]) rfl (fun v hv => s_l01In_t xP.Seq 1 1000000000 v hv) (.inl rfl) ?_
   intro v2 gv2 h
   refine LWp.o 11 (B (!v2)) ?_
   refine LWp.o 12 (B (!v2)) ?_
   refine LWp.o 13 (B (!v2)) ?_
   refine LWp.sp h 13 (fun h => ?_) (fun h => ?_)
   · refine LWp.sh 14 ?_
     refine LWp.sh 15 ?_
     refine LWp.sh 16 ?_
     refine LWp.sh 17 ?_
     refine LWp.o 18 (B true) ?_
     refine LWp.o 19 (B true) ?_
     refine LWp.sh 20 ?_
     refine LWp.sh 21 ?_
     refine LWp.sh 22 ?_
     refine LWp.sh 23 ?_
     refine LWp.o 24 (B true) ?_
     refine LWp.o 25 (B true) ?_
     refine LWp.sh 26 ?_
     refine LWp.sh 27 ?_
     refine LWp.sh 28 ?_
     refine LWp.sh 29 ?_
     refine LWp.sh 30 ?_
     refine LWp.sh 31 ?_
     refine LWp.sh 32 ?_
     refine LWp.o 33 (B true) ?_
     refine LWp.o 34 (B true) ?_
     refine LWp.sh 35 ?_
     refine LWp.sh 36 ?_
     refine LWp.sh 37 ?_
     refine LWp.sh 38 ?_
     refine LWp.o 39 (B true) ?_
     refine LWp.nil ?_
     cases h
     exact ⟨_, rfl, rfl, rfl⟩
   refine LWp.o 14 (.one (.ptr (.box 1) 1 [] 2)) ?_
   refine LWp.o 15 (I xP.Tx) ?_
   refine LWp.cl h 16 (fun v3 => (B v3)) rfl (l := [.sv (.one (.int .i64 xP.Tx)), .sv (.one (.int .i64 1)), .sv (.one (.int .i64 1000000000))]) rfl (fun v hv => s_l01In_t xP.Tx 1 1000000000 v hv) (.inl rfl) ?_
   intro v3 gv3 h
   refine LWp.o 17 (B (!v3)) ?_
   refine LWp.o 18 (B (!v3)) ?_
   refine LWp.o 19 (B (!v3)) ?_
   refine LWp.sp h 19 (fun h => ?_) (fun h => ?_)
   · refine LWp.sh 20 ?_
     refine LWp.sh 21 ?_
     refine LWp.sh 22 ?_
     refine LWp.sh 23 ?_
     refine LWp.o 24 (B true) ?_
     refine LWp.o 25 (B true) ?_
     refine LWp.sh 26 ?_
     refine LWp.sh 27 ?_
     refine LWp.sh 28 ?_
     refine LWp.sh 29 ?_
     refine LWp.sh 30 ?_
     refine LWp.sh 31 ?_
     refine LWp.sh 32 ?_
     refine LWp.o 33 (B true) ?_
     refine LWp.o 34 (B true) ?_
     refine LWp.sh 35 ?_
     refine LWp.sh 36 ?_
     refine LWp.sh 37 ?_
     refine LWp.sh 38 ?_
     refine LWp.o 39 (B true) ?_
     refine LWp.nil ?_
     cases h
     exact ⟨_, rfl, rfl, rfl⟩
   refine LWp.o 20 (.one (.ptr (.box 1) 1 [] 4)) ?_
   refine LWp.o 21 (I xP.Count) ?_
   refine LWp.cl h 22 (fun v4 => (B v4)) rfl (l := [.sv (.one (.int .i64 xP.Count)), .sv (.one (.int .i64 1)), .sv (.one (.int .i64 9))]) rfl (fun v hv => s_l01In_t xP.Count 1 9 v hv) (.inl rfl) ?_
   intro v4 gv4 h
   refine LWp.o 23 (B (!v4)) ?_
   refine LWp.o 24 (B (!v4)) ?_
   refine LWp.o 25 (B (!v4)) ?_
   refine LWp.sp h 25 (fun h => ?_) (fun h => ?_)
   · refine LWp.sh 26 ?_
     refine LWp.sh 27 ?_
     refine LWp.sh 28 ?_
     refine LWp.sh 29 ?_
     refine LWp.sh 30 ?_
     refine LWp.sh 31 ?_
     refine LWp.sh 32 ?_
     refine LWp.o 33 (B true) ?_
     refine LWp.o 34 (B true) ?_
     refine LWp.sh 35 ?_
     refine LWp.sh 36 ?_
     refine LWp.sh 37 ?_
     refine LWp.sh 38 ?_
     refine LWp.o 39 (B true) ?_
     refine LWp.nil ?_
     cases h
     exact ⟨_, rfl, rfl, rfl⟩
   refine LWp.o 26 (.one (.ptr (.box 1) 1 [] 3)) ?_
   refine LWp.o 27 (I xP.Part) ?_
   refine LWp.o 28 (.one (.ptr (.box 1) 1 [] 4)) ?_
   refine LWp.o 29 (I xP.Count) ?_
   refine LWp.o 30 (I (sb xP.Count 1)) ?_
   refine LWp.cl h 31 (fun v5 => (B v5)) rfl (l := [.sv (.one (.int .i64 xP.Part)), .sv (.one (.int .i64 0)), .sv (.one (.int .i64 (sb xP.Count 1)))]) rfl (fun v hv => s_l01In_t xP.Part 0 (sb xP.Count 1) v hv) (.inl rfl) ?_
   intro v5 gv5 h
   refine LWp.o 32 (B (!v5)) ?_
   refine LWp.o 33 (B (!v5)) ?_
   refine LWp.o 34 (B (!v5)) ?_
   refine LWp.sp h 34 (fun h => ?_) (fun h => ?_)
   · refine LWp.sh 35 ?_
     refine LWp.sh 36 ?_
     refine LWp.sh 37 ?_
     refine LWp.sh 38 ?_
     refine LWp.o 39 (B true) ?_
     refine LWp.nil ?_
     cases h
     exact ⟨_, rfl, rfl, rfl⟩
   refine LWp.o 35 (.one (.ptr (.box 1) 1 [] 5)) ?_
   refine LWp.o 36 (Y xP.Text) ?_
   refine LWp.o 37 (I (sln xP.Text)) ?_
   refine LWp.o 38 (B (decide ((sln xP.Text) > 90))) ?_
   refine LWp.o 39 (B (decide ((sln xP.Text) > 90))) ?_
   refine LWp.nil ?_
   cases h
   exact ⟨_, rfl, rfl, rfl⟩
 intro j1 h E hE
 refine nt_wp hE ?_
 change Wp _ _ _ (s_PageOk_H1 xP j1) _
 refine Wp.c h (fun h => ?_) (fun h => ?_)
 · refine Wp.seq ?_
   refine Wp.region ?_
   refine LWp.o 2 (B false) ?_
   refine LWp.nil ?_
   cases h
   exact Wp.ret ⟨.inr rfl, _, _, rfl, rfl⟩
 refine Wp.skip ?_
 refine Wp.seq ?_
 refine Wp.region ?_
 refine LWp.o 40 (.one (.ptr (.box 1) 0 [] 0)) ?_
 refine LWp.o 41 (I xP.Kind) ?_
 refine LWp.o 42 (B (xP.Kind == 2)) ?_
 refine LWp.o 43 (B (xP.Kind == 2)) ?_
 refine LWp.sp h 43 (fun h => ?_) (fun h => ?_)
 · refine LWp.sh 44 ?_
   refine LWp.sh 45 ?_
   refine LWp.sh 46 ?_
   refine LWp.o 47 (B true) ?_
   refine LWp.o 2 (B true) ?_
   refine LWp.nil ?_
   cases h
   exact Wp.ret ⟨.inr rfl, _, _, rfl, rfl⟩
 refine LWp.o 44 (.one (.ptr (.box 1) 0 [] 4)) ?_
 refine LWp.o 45 (I xP.Count) ?_
 refine LWp.o 46 (B (xP.Count == 1)) ?_
 refine LWp.o 47 (B (xP.Count == 1)) ?_
 refine LWp.o 2 (B (xP.Count == 1)) ?_
 refine LWp.nil ?_
 cases h
 exact Wp.ret ⟨.inr rfl, _, _, rfl, rfl⟩
set_option maxRecDepth 100000 in
theorem s_l06Byte_t (xN : Int) (r : ByteArray) (h : s_l06Byte xN = some r) : Gives Try.prog 56 [.sv (I xN)] (Y r) (List.replicate 1 .gone) := by
 unfold s_l06Byte at h
 refine gives_of Try.func56 rfl ?_
 rw [Try.ntmps56]
 refine Wp.seq ?_
 refine Wp.region ?_
 refine LWp.o 2 (Y (bs [])) ?_
 refine LWp.nil ?_
 refine Wp.seq ?_
 refine Wp.region ?_
 refine LWp.o 3 (I xN) ?_
 refine LWp.o 4 (.one (.int .u8 (IntKind.u8.wrap xN))) ?_
 refine LWp.m false [] 5 (.one (.sl true 5 1 (encs c5 [(IntKind.u8.wrap xN)]))) ?_
 refine LWp.o 6 (Y (strB [(IntKind.u8.wrap xN)])) ?_ (st_pure (p_cv (fun _ => rfl) [(IntKind.u8.wrap xN)]))
 refine LWp.o 2 (Y (strB [(IntKind.u8.wrap xN)])) ?_
 refine LWp.nil ?_
 cases h
 exact Wp.ret ⟨.inr rfl, _, _, rfl, rfl⟩
set_option maxRecDepth 100000 in
theorem s_Sealed_t (xText : ByteArray) (r : ByteArray × Bool) (h : s_Sealed xText = some r) : Gives Try.prog 55 [.sv (Y xText)] (.tup [(Y r.1), (B r.2)]) (List.replicate 1 .gone) := by
 unfold s_Sealed at h
 refine gives_of Try.func55 rfl ?_
 rw [Try.ntmps55]
 refine Wp.seq ?_
 refine Wp.region ?_
 refine LWp.o 2 (Y (bs [])) ?_
 refine LWp.o 3 (B false) ?_
 refine LWp.nil ?_
 refine Wp.seq ?_
 refine Wp.seq ?_
 refine Wp.region ?_
 refine LWp.o 4 (Y xText) ?_
 refine LWp.o 5 (I (sln xText)) ?_
 refine LWp.o 6 (B (decide ((sln xText) > 20000))) ?_
 refine LWp.nil ?_
 refine Wp.c h (fun h => ?_) (fun h => ?_)
 · refine Wp.seq ?_
   refine Wp.region ?_
   refine LWp.o 2 (Y (bs [])) ?_
   refine LWp.o 3 (B false) ?_
   refine LWp.nil ?_
   cases h
   exact Wp.ret ⟨.inr rfl, _, _, rfl, rfl⟩
 refine Wp.skip ?_
 refine Wp.seq ?_
 refine Wp.region ?_
 refine LWp.o 7 (Y xText) ?_
 refine LWp.o 8 (Y xText) ?_
 refine LWp.cl h 9 (fun v1 => (.one (.int .u32 v1))) rfl (l := [.sv (.one (.str xText))]) rfl (fun v hv => s_SumOf_t xText v hv) (.inl rfl) ?_
 intro v1 gv1 h
 refine LWp.cl h 10 (fun v2 => (Y v2)) rfl (l := [.sv (.one (.int .u32 v1))]) rfl (fun v hv => s_l02Four_t v1 v hv) (.inl rfl) ?_
 intro v2 gv2 h
 refine LWp.p h 11 (fun x1 => (Y x1)) ?_ (fun x1 gx1 => st_pure (p_cat gx1))
 intro x1 gx1 h
 refine LWp.o 2 (Y x1) ?_
 refine LWp.o 3 (B true) ?_
 refine LWp.nil ?_
 cases h
 exact Wp.ret ⟨.inr rfl, _, _, rfl, rfl⟩
set_option maxRecDepth 100000 in
theorem s_PageText_t (xP : Page) (r : ByteArray × Bool) (h : s_PageText xP = some r) : Gives Try.prog 35 [.sv (.agg [.int .i64 xP.Kind, .int .i64 xP.Seq, .int .i64 xP.Tx, .int .i64 xP.Part, .int .i64 xP.Count, .str xP.Text])] (.tup [(Y r.1), (B r.2)]) (List.replicate 1 .gone) := by
 unfold s_PageText at h
 refine gives_of Try.func35 rfl ?_
 rw [Try.ntmps35]
 refine Wp.seq ?_
 refine Wp.region ?_
 refine LWp.b [] 1 [.int .i64 xP.Kind, .int .i64 xP.Seq, .int .i64 xP.Tx, .int .i64 xP.Part, .int .i64 xP.Count, .str xP.Text] ?_
 refine LWp.o 2 (Y (bs [])) ?_
 refine LWp.o 3 (B false) ?_
 refine LWp.nil ?_
 refine Wp.seq ?_
 refine Wp.seq ?_
 refine Wp.region ?_
 refine LWp.o 4 (.agg [.int .i64 xP.Kind, .int .i64 xP.Seq, .int .i64 xP.Tx, .int .i64 xP.Part, .int .i64 xP.Count, .str xP.Text]) ?_
 refine LWp.cl h 5 (fun v1 => (B v1)) rfl (l := [.sv (.agg [.int .i64 xP.Kind, .int .i64 xP.Seq, .int .i64 xP.Tx, .int .i64 xP.Part, .int .i64 xP.Count, .str xP.Text])]) rfl (fun v hv => s_PageOk_t xP v hv) (.inl rfl) ?_
 intro v1 gv1 h
 refine LWp.o 6 (B (!v1)) ?_
 refine LWp.nil ?_
 refine Wp.c h (fun h => ?_) (fun h => ?_)
 · refine Wp.seq ?_
   refine Wp.region ?_
   refine LWp.o 2 (Y (bs [])) ?_
   refine LWp.o 3 (B false) ?_
   refine LWp.nil ?_
   cases h
   exact Wp.ret ⟨.inr rfl, _, _, rfl, rfl⟩
 refine Wp.skip ?_
 refine Wp.seq ?_
 refine Wp.regionK 27 [] mixed (fun c E h => by rcases h with ⟨h | h, _⟩ <;> cases h) ?_
 refine KWp.o 27 0 7 (.one (.ptr (.box 1) 1 [] 0)) ?_
 refine KWp.o 27 1 8 (I xP.Kind) ?_
 refine KWp.o 27 3 10 (.one (.ptr (.box 1) 1 [] 1)) ?_
 refine KWp.o 27 4 11 (I xP.Seq) ?_
 refine KWp.o 27 7 14 (.one (.ptr (.box 1) 1 [] 2)) ?_
 refine KWp.o 27 8 15 (I xP.Tx) ?_
 refine KWp.o 27 11 18 (.one (.ptr (.box 1) 1 [] 3)) ?_
 refine KWp.o 27 12 19 (I xP.Part) ?_
 refine KWp.o 27 15 22 (.one (.ptr (.box 1) 1 [] 4)) ?_
 refine KWp.o 27 16 23 (I xP.Count) ?_
 refine KWp.o 27 19 26 (.one (.ptr (.box 1) 1 [] 5)) ?_
 refine KWp.o 27 20 27 (Y xP.Text) ?_
 refine KWp.w1 2 ?_
 refine KOp.cl h 2 9 (fun v2 => (Y v2)) rfl rfl (l := [.sv (.one (.int .i64 xP.Kind))]) rfl (fun v hv => s_l06Byte_t xP.Kind v hv) (.inl rfl) ?_
 intro v2 gv2 h
 refine KWp.w1 5 ?_
 refine KOp.cl h 5 12 (fun v3 => (Y v3)) rfl rfl (l := [.sv (.one (.int .i64 xP.Seq))]) rfl (fun v hv => s_l01Var_t xP.Seq v hv) (.inl rfl) ?_
 intro v3 gv3 h
 refine KWp.p h 27 6 13 (fun x1 => (Y x1)) ?_ rfl (fun x1 gx1 => sl_pure (p_cat gx1))
 intro x1 gx1 h
 refine KWp.w1 9 ?_
 refine KOp.cl h 9 16 (fun v4 => (Y v4)) rfl rfl (l := [.sv (.one (.int .i64 xP.Tx))]) rfl (fun v hv => s_l01Var_t xP.Tx v hv) (.inl rfl) ?_
 intro v4 gv4 h
 refine KWp.p h 27 10 17 (fun x2 => (Y x2)) ?_ rfl (fun x2 gx2 => sl_pure (p_cat gx2))
 intro x2 gx2 h
 refine KWp.w1 13 ?_
 refine KOp.cl h 13 20 (fun v5 => (Y v5)) rfl rfl (l := [.sv (.one (.int .i64 xP.Part))]) rfl (fun v hv => s_l01Var_t xP.Part v hv) (.inl rfl) ?_
 intro v5 gv5 h
 refine KWp.p h 27 14 21 (fun x3 => (Y x3)) ?_ rfl (fun x3 gx3 => sl_pure (p_cat gx3))
 intro x3 gx3 h
 refine KWp.w1 17 ?_
 refine KOp.cl h 17 24 (fun v6 => (Y v6)) rfl rfl (l := [.sv (.one (.int .i64 xP.Count))]) rfl (fun v hv => s_l01Var_t xP.Count v hv) (.inl rfl) ?_
 intro v6 gv6 h
 refine KWp.p h 27 18 25 (fun x4 => (Y x4)) ?_ rfl (fun x4 gx4 => sl_pure (p_cat gx4))
 intro x4 gx4 h
 refine KWp.p h 27 21 28 (fun x5 => (Y x5)) ?_ rfl (fun x5 gx5 => sl_pure (p_cat gx5))
 intro x5 gx5 h
 refine KWp.w1 22 ?_
 refine KOp.cl h 22 29 (fun v7 => (.tup [(Y v7.1), (B v7.2)])) rfl rfl (l := [.sv (.one (.str x5))]) rfl (fun v hv => s_Sealed_t x5 v hv) (.inl rfl) ?_
 intro v7 gv7 h
 refine KWp.w2 23 24 ?_ ?_
 · refine KOp.e 23 29 0 30 (Y v7.1) ?_
   refine KWp.w1 24 ?_
   refine KOp.e 24 29 1 31 (B v7.2) ?_
   refine KWp.o 27 25 2 (Y v7.1) ?_
   refine KWp.o 27 26 3 (B v7.2) ?_
   refine KWp.done ?_
   cases h
   exact Wp.ret ⟨.inr rfl, _, _, rfl, rfl⟩
 refine KOp.e 24 29 1 31 (B v7.2) ?_
 refine KWp.w1 23 ?_
 refine KOp.e 23 29 0 30 (Y v7.1) ?_
 refine KWp.o 27 25 2 (Y v7.1) ?_
 refine KWp.o 27 26 3 (B v7.2) ?_
 refine KWp.done ?_
 cases h
 exact Wp.ret ⟨.inr rfl, _, _, rfl, rfl⟩
def s_ReadPage_H1 (xT : ByteArray) (v1 : ByteArray × Bool) (z1 : Bool) : St := mkSt [(0, (Y xT)), (2, (.one (.ptr (.box 2) 0 [] 0))), (4, (Y v1.1)), (6, (.one (.ptr (.box 24) 0 [] 0)))] [(.box 2, [.int .i64 0, .int .i64 0, .int .i64 0, .int .i64 0, .int .i64 0, .str (bs [])]), (.box 24, [.str v1.1, .int .i64 1, .bool z1])]
def s_ReadPage_H2 (v2 : Int × l06Cur) (v3 : Int × l06Cur) (v4 : Int × l06Cur) (v5 : Int × l06Cur) (x1 : Int) (x2 : ByteArray) (z2 : Bool) : St := mkSt [(2, (.one (.ptr (.box 2) 0 [] 0))), (7, (.one (.ptr (.box 7) 0 [] 0))), (64, (B z2))] [(.box 2, [.int .i64 0, .int .i64 0, .int .i64 0, .int .i64 0, .int .i64 0, .str (bs [])]), (.box 7, [.int .i64 (IntKind.i64.wrap x1), .int .i64 v2.1, .int .i64 v3.1, .int .i64 v4.1, .int .i64 v5.1, .str x2])]
set_option maxRecDepth 100000 in
theorem s_ReadPage_t (xT : ByteArray) (r : Page × Bool) (h : s_ReadPage xT = some r) : Gives Try.prog 17 [.sv (Y xT)] (.tup [(.agg [.int .i64 r.1.Kind, .int .i64 r.1.Seq, .int .i64 r.1.Tx, .int .i64 r.1.Part, .int .i64 r.1.Count, .str r.1.Text]), (B r.2)]) (List.replicate 1 .gone) := by
 unfold s_ReadPage at h
 refine gives_of Try.func17 rfl ?_
 rw [Try.ntmps17]
 refine Wp.seq ?_
 refine Wp.region ?_
 refine LWp.b [] 2 [.int .i64 0, .int .i64 0, .int .i64 0, .int .i64 0, .int .i64 0, .str (bs [])] ?_
 refine LWp.o 3 (B false) ?_
 refine LWp.nil ?_
 refine Wp.seq ?_
 refine Wp.region ?_
 refine LWp.o 11 (Y xT) ?_
 refine LWp.cl h 12 (fun v1 => (.tup [(Y v1.1), (B v1.2)])) rfl (l := [.sv (.one (.str xT))]) rfl (fun v hv => s_Unsealed_t xT v hv) (.inl rfl) ?_
 intro v1 gv1 h
 refine LWp.mt 12 10 (.tup [(Y v1.1), (B v1.2)]) ?_
 refine LWp.e 10 0 13 (Y v1.1) ?_
 refine LWp.e 10 1 14 (B v1.2) ?_
 refine LWp.o 4 (Y v1.1) ?_
 refine LWp.o 5 (B v1.2) ?_
 refine LWp.nil ?_
 refine Wp.seq ?_
 refine Wp.j1 h [0, 2, 4, 6] [.box 2, .box 24] (fun a => (s_ReadPage_H1 xT v1 a)) ?_ ?_
 · intro a h
   refine Wp.region ?_
   refine LWp.o 15 (Y v1.1) ?_
   refine LWp.o 16 (B v1.2) ?_
   refine LWp.o 17 (B (!v1.2)) ?_
   refine LWp.o 18 (B (!v1.2)) ?_
   refine LWp.sp h 18 (fun h => ?_) (fun h => ?_)
   · refine LWp.sh 19 ?_
     refine LWp.sh 20 ?_
     refine LWp.sh 21 ?_
     refine LWp.o 22 (B true) ?_
     refine LWp.o 23 (.agg [.str v1.1, .int .i64 1, .bool true]) ?_
     refine LWp.b [] 24 [.str v1.1, .int .i64 1, .bool true] ?_
     refine LWp.o 6 (.one (.ptr (.box 24) 1 [] 0)) ?_
     refine LWp.nil ?_
     cases h
     exact ⟨_, rfl, rfl, rfl⟩
   refine LWp.o 19 (Y v1.1) ?_
   refine LWp.o 20 (I (sln v1.1)) ?_
   refine LWp.o 21 (B (decide ((sln v1.1) < 1))) ?_
   refine LWp.o 22 (B (decide ((sln v1.1) < 1))) ?_
   refine LWp.o 23 (.agg [.str v1.1, .int .i64 1, .bool (decide ((sln v1.1) < 1))]) ?_
   refine LWp.b [] 24 [.str v1.1, .int .i64 1, .bool (decide ((sln v1.1) < 1))] ?_
   refine LWp.o 6 (.one (.ptr (.box 24) 1 [] 0)) ?_
   refine LWp.nil ?_
   cases h
   exact ⟨_, rfl, rfl, rfl⟩
 intro j1 h E hE
 refine nt_wp hE ?_
 change Wp _ _ _ (s_ReadPage_H1 xT v1 j1) _
 refine Wp.seq ?_
 refine Wp.region ?_
 refine LWp.o 25 (.one (.ptr (.box 24) 0 [] 0)) ?_
 refine LWp.cx h (.box 24) [.str v1.1, .int .i64 1, .bool j1] (some 26) (fun v2 => (I v2.1)) (fun v2 => [.str v2.2.text_, .int .i64 v2.2.at_, .bool v2.2.bad_]) rfl rfl (l := []) rfl (fun v hv => s_l06Var_t (l06Cur.mk v1.1 1 j1) v hv) (.inl rfl) (fun _ => rfl) ?_
 intro v2 gv2 h
 refine LWp.o 27 (.agg [.int .i64 0, .int .i64 v2.1, .int .i64 0, .int .i64 0, .int .i64 0, .str (bs [])]) ?_
 refine LWp.b [] 7 [.int .i64 0, .int .i64 0, .int .i64 0, .int .i64 0, .int .i64 0, .str (bs [])] ?_
 refine LWp.s [] (.box 7) [.int .i64 0, .int .i64 v2.1, .int .i64 0, .int .i64 0, .int .i64 0, .str (bs [])] ?_
 refine LWp.nil ?_
 refine Wp.seq ?_
 refine Wp.region ?_
 refine LWp.o 28 (.one (.ptr (.box 24) 0 [] 0)) ?_
 refine LWp.cx h (.box 24) [.str v2.2.text_, .int .i64 v2.2.at_, .bool v2.2.bad_] (some 29) (fun v3 => (I v3.1)) (fun v3 => [.str v3.2.text_, .int .i64 v3.2.at_, .bool v3.2.bad_]) rfl rfl (l := []) rfl (fun v hv => s_l06Var_t v2.2 v hv) (.inl rfl) (fun _ => rfl) ?_
 intro v3 gv3 h
 refine LWp.o 30 (.one (.ptr (.box 7) 1 [] 2)) ?_
 refine LWp.s [] (.box 7) [.int .i64 0, .int .i64 v2.1, .int .i64 v3.1, .int .i64 0, .int .i64 0, .str (bs [])] ?_
 refine LWp.nil ?_
 refine Wp.seq ?_
 refine Wp.region ?_
 refine LWp.o 31 (.one (.ptr (.box 24) 0 [] 0)) ?_
 refine LWp.cx h (.box 24) [.str v3.2.text_, .int .i64 v3.2.at_, .bool v3.2.bad_] (some 32) (fun v4 => (I v4.1)) (fun v4 => [.str v4.2.text_, .int .i64 v4.2.at_, .bool v4.2.bad_]) rfl rfl (l := []) rfl (fun v hv => s_l06Var_t v3.2 v hv) (.inl rfl) (fun _ => rfl) ?_
 intro v4 gv4 h
 refine LWp.o 33 (.one (.ptr (.box 7) 1 [] 3)) ?_
 refine LWp.s [] (.box 7) [.int .i64 0, .int .i64 v2.1, .int .i64 v3.1, .int .i64 v4.1, .int .i64 0, .str (bs [])] ?_
 refine LWp.nil ?_
 refine Wp.seq ?_
 refine Wp.region ?_
 refine LWp.o 34 (.one (.ptr (.box 24) 0 [] 0)) ?_
 refine LWp.cx h (.box 24) [.str v4.2.text_, .int .i64 v4.2.at_, .bool v4.2.bad_] (some 35) (fun v5 => (I v5.1)) (fun v5 => [.str v5.2.text_, .int .i64 v5.2.at_, .bool v5.2.bad_]) rfl rfl (l := []) rfl (fun v hv => s_l06Var_t v4.2 v hv) (.inl rfl) (fun _ => rfl) ?_
 intro v5 gv5 h
 refine LWp.o 36 (.one (.ptr (.box 7) 1 [] 4)) ?_
 refine LWp.s [] (.box 7) [.int .i64 0, .int .i64 v2.1, .int .i64 v3.1, .int .i64 v4.1, .int .i64 v5.1, .str (bs [])] ?_
 refine LWp.nil ?_
 refine Wp.seq ?_
 refine Wp.seq ?_
 refine Wp.region ?_
 refine LWp.o 37 (.one (.ptr (.box 24) 0 [] 0)) ?_
 refine LWp.o 38 (.one (.ptr (.box 24) 0 [] 0)) ?_
 refine LWp.o 39 (.one (.ptr (.box 24) 0 [] 2)) ?_
 refine LWp.o 40 (B v5.2.bad_) ?_
 refine LWp.nil ?_
 refine Wp.c h (fun h => ?_) (fun h => ?_)
 · refine Wp.seq ?_
   refine Wp.region ?_
   refine LWp.o 41 (.agg [.int .i64 0, .int .i64 0, .int .i64 0, .int .i64 0, .int .i64 0, .str (bs [])]) ?_
   refine LWp.s [] (.box 2) [.int .i64 0, .int .i64 0, .int .i64 0, .int .i64 0, .int .i64 0, .str (bs [])] ?_
   refine LWp.o 3 (B false) ?_
   refine LWp.nil ?_
   cases h
   exact Wp.ret ⟨.inr rfl, _, _, rfl, rfl⟩
 refine Wp.skip ?_
 refine Wp.seq ?_
 refine Wp.region ?_
 refine LWp.o 42 (Y v1.1) ?_
 refine LWp.p h 43 (fun x1 => (.one (.int .u8 x1))) ?_ (fun x1 gx1 => st_pure (p_sx gx1))
 intro x1 gx1 h
 refine LWp.o 44 (I (IntKind.i64.wrap x1)) ?_
 refine LWp.o 45 (.one (.ptr (.box 7) 1 [] 0)) ?_
 refine LWp.s [] (.box 7) [.int .i64 (IntKind.i64.wrap x1), .int .i64 v2.1, .int .i64 v3.1, .int .i64 v4.1, .int .i64 v5.1, .str (bs [])] ?_
 refine LWp.nil ?_
 refine Wp.seq ?_
 refine Wp.region ?_
 refine LWp.o 46 (Y v1.1) ?_
 refine LWp.o 47 (.one (.ptr (.box 24) 0 [] 0)) ?_
 refine LWp.o 48 (.one (.ptr (.box 24) 0 [] 0)) ?_
 refine LWp.o 49 (.one (.ptr (.box 24) 0 [] 1)) ?_
 refine LWp.o 50 (I v5.2.at_) ?_
 refine LWp.p h 51 (fun x2 => (Y x2)) ?_ (fun x2 gx2 => st_pure (p_sub gx2))
 intro x2 gx2 h
 refine LWp.o 52 (.one (.ptr (.box 7) 1 [] 5)) ?_
 refine LWp.s [] (.box 7) [.int .i64 (IntKind.i64.wrap x1), .int .i64 v2.1, .int .i64 v3.1, .int .i64 v4.1, .int .i64 v5.1, .str x2] ?_
 refine LWp.nil ?_
 refine Wp.seq ?_
 refine Wp.region ?_
 refine LWp.o 54 (.agg [.int .i64 (IntKind.i64.wrap x1), .int .i64 v2.1, .int .i64 v3.1, .int .i64 v4.1, .int .i64 v5.1, .str x2]) ?_
 refine LWp.cl h 55 (fun v6 => (.tup [(Y v6.1), (B v6.2)])) rfl (l := [.sv (.agg [.int .i64 (IntKind.i64.wrap x1), .int .i64 v2.1, .int .i64 v3.1, .int .i64 v4.1, .int .i64 v5.1, .str x2])]) rfl (fun v hv => s_PageText_t (Page.mk (IntKind.i64.wrap x1) v2.1 v3.1 v4.1 v5.1 x2) v hv) (.inl rfl) ?_
 intro v6 gv6 h
 refine LWp.mt 55 53 (.tup [(Y v6.1), (B v6.2)]) ?_
 refine LWp.e 53 0 56 (Y v6.1) ?_
 refine LWp.e 53 1 57 (B v6.2) ?_
 refine LWp.o 8 (Y v6.1) ?_
 refine LWp.o 9 (B v6.2) ?_
 refine LWp.nil ?_
 refine Wp.seq ?_
 refine Wp.seq ?_
 refine Wp.j1 h [2, 7, 64] [.box 2, .box 7] (fun a => (s_ReadPage_H2 v2 v3 v4 v5 x1 x2 a)) ?_ ?_
 · intro a h
   refine Wp.region ?_
   refine LWp.o 58 (B v6.2) ?_
   refine LWp.o 59 (B (!v6.2)) ?_
   refine LWp.o 60 (B (!v6.2)) ?_
   refine LWp.sp h 60 (fun h => ?_) (fun h => ?_)
   · refine LWp.sh 61 ?_
     refine LWp.sh 62 ?_
     refine LWp.sh 63 ?_
     refine LWp.o 64 (B true) ?_
     refine LWp.nil ?_
     cases h
     exact ⟨_, rfl, rfl, rfl⟩
   refine LWp.o 61 (Y v6.1) ?_
   refine LWp.o 62 (Y xT) ?_
   refine LWp.o 63 (B (!(seq v6.1 xT))) ?_
   refine LWp.o 64 (B (!(seq v6.1 xT))) ?_
   refine LWp.nil ?_
   cases h
   exact ⟨_, rfl, rfl, rfl⟩
 intro j2 h E hE
 refine nt_wp hE ?_
 change Wp _ _ _ (s_ReadPage_H2 v2 v3 v4 v5 x1 x2 j2) _
 refine Wp.c h (fun h => ?_) (fun h => ?_)
 · refine Wp.seq ?_
   refine Wp.region ?_
   refine LWp.o 65 (.agg [.int .i64 0, .int .i64 0, .int .i64 0, .int .i64 0, .int .i64 0, .str (bs [])]) ?_
   refine LWp.s [] (.box 2) [.int .i64 0, .int .i64 0, .int .i64 0, .int .i64 0, .int .i64 0, .str (bs [])] ?_
   refine LWp.o 3 (B false) ?_
   refine LWp.nil ?_
   cases h
   exact Wp.ret ⟨.inr rfl, _, _, rfl, rfl⟩
 refine Wp.skip ?_
 refine Wp.seq ?_
 refine Wp.region ?_
 refine LWp.o 66 (.agg [.int .i64 (IntKind.i64.wrap x1), .int .i64 v2.1, .int .i64 v3.1, .int .i64 v4.1, .int .i64 v5.1, .str x2]) ?_
 refine LWp.s [] (.box 2) [.int .i64 (IntKind.i64.wrap x1), .int .i64 v2.1, .int .i64 v3.1, .int .i64 v4.1, .int .i64 v5.1, .str x2] ?_
 refine LWp.o 3 (B true) ?_
 refine LWp.nil ?_
 cases h
 exact Wp.ret ⟨.inr rfl, _, _, rfl, rfl⟩
def s_ShowFlash_H1 (xF : Flash) (z1 : ByteArray) (z2 : Int) : St := mkSt [(1, (.one (.ptr (.box 1) 0 [] 0))), (3, (Y z1)), (4, (I z2))] [(.box 1, [.sl false 60 3 (encs (c60 false) xF.Blocks)])]
def s_ShowFlash_H2 (z3 : ByteArray) : St := mkSt [(3, (Y z3))] []
def s_ShowFlash_H3 (xF : Flash) (yB1 : Int) (z4 : ByteArray) (z5 : Int) : St := mkSt [(1, (.one (.ptr (.box 1) 0 [] 0))), (3, (Y z4)), (4, (I yB1)), (5, (I z5))] [(.box 1, [.sl false 60 3 (encs (c60 false) xF.Blocks)])]
def s_ShowFlash_H4 (xF : Flash) (yB1 : Int) (z6 : ByteArray) : St := mkSt [(1, (.one (.ptr (.box 1) 0 [] 0))), (3, (Y z6)), (4, (I yB1))] [(.box 1, [.sl false 60 3 (encs (c60 false) xF.Blocks)])]
def s_ShowFlash_H5 (xF : Flash) (yB1 : Int) (yK1 : Int) (z7 : ByteArray) : St := mkSt [(1, (.one (.ptr (.box 1) 0 [] 0))), (3, (Y z7)), (4, (I yB1)), (5, (I yK1))] [(.box 1, [.sl false 60 3 (encs (c60 false) xF.Blocks)])]
def s_ShowFlash_H6 (xF : Flash) (yB1 : Int) (yS2 : ByteArray) (yK1 : Int) (v2 : Page × Bool) (z8 : Bool) : St := mkSt [(1, (.one (.ptr (.box 1) 0 [] 0))), (3, (Y yS2)), (4, (I yB1)), (5, (I yK1)), (8, (B v2.2)), (52, (B z8))] [(.box 1, [.sl false 60 3 (encs (c60 false) xF.Blocks)])]
set_option maxRecDepth 100000 in
theorem s_ShowFlash_t (xF : Flash) (r : ByteArray) (h : s_ShowFlash xF = some r) : Gives Try.prog 6 [.sv (.agg [.sl false 60 3 (encs (c60 false) xF.Blocks)])] (Y r) (List.replicate 1 .gone) := by
 unfold s_ShowFlash at h
 refine gives_of Try.func6 rfl ?_
 rw [Try.ntmps6]
 refine Wp.seq ?_
 refine Wp.region ?_
 refine LWp.b [] 1 [.sl false 60 3 (encs (c60 false) xF.Blocks)] ?_
 refine LWp.o 2 (Y (bs [])) ?_
 refine LWp.nil ?_
 refine Wp.seq ?_
 refine Wp.seq ?_
 refine Wp.region ?_
 refine LWp.o 9 (.agg [.sl false 60 3 (encs (c60 false) xF.Blocks)]) ?_
 refine LWp.cl h 10 (fun v1 => (B v1)) rfl (l := [.sv (.agg [.sl false 60 3 (encs (c60 false) xF.Blocks)])]) rfl (fun v hv => s_FlashOk_t xF v hv) (.inl rfl) ?_
 intro v1 gv1 h
 refine LWp.o 11 (B (!v1)) ?_
 refine LWp.nil ?_
 refine Wp.c h (fun h => ?_) (fun h => ?_)
 · refine Wp.seq ?_
   refine Wp.region ?_
   refine LWp.o 2 (Y (bs [])) ?_
   refine LWp.nil ?_
   cases h
   exact Wp.ret ⟨.inr rfl, _, _, rfl, rfl⟩
 refine Wp.skip ?_
 refine Wp.seq ?_
 refine Wp.region ?_
 refine LWp.o 3 (Y (bs [])) ?_
 refine LWp.nil ?_
 refine Wp.seq ?_
 refine Wp.seq ?_
 refine Wp.region ?_
 refine LWp.o 4 (I 0) ?_
 refine LWp.nil ?_
 refine Wp.l1 h [1, 3, 4] [.box 1] (fun s => (s_ShowFlash_H1 xF s.1 s.2)) [3] [] (fun s => (s_ShowFlash_H2 s)) ⟨rfl, rfl⟩ ?_ ?_
 · rintro ⟨yS1, yB1⟩ o (h : s_ShowFlash_b1 xF yS1 yB1 = some o)
   unfold s_ShowFlash_b1 at h
   change Wp _ _ _ (s_ShowFlash_H1 xF yS1 yB1) _
   refine Wp.seq ?_
   refine Wp.seq ?_
   refine Wp.region ?_
   refine LWp.o 12 (I yB1) ?_
   refine LWp.o 13 (.one (.ptr (.box 1) 0 [] 0)) ?_
   refine LWp.o 14 (.one (.sl false 60 3 (encs (c60 false) xF.Blocks))) ?_
   refine LWp.o 15 (I (ln xF.Blocks)) ?_ (st_pure (p_ln (k60 false) xF.Blocks))
   refine LWp.o 16 (B (decide (yB1 < (ln xF.Blocks)))) ?_
   refine LWp.nil ?_
   refine Wp.c h (fun h => ?_) (fun h => ?_)
   · refine Wp.skip ?_
     refine Wp.seq ?_
     refine Wp.block ?_
     refine Wp.seq ?_
     refine Wp.seq ?_
     refine Wp.region ?_
     refine LWp.o 5 (I 0) ?_
     refine LWp.nil ?_
     refine Wp.l1 h [1, 3, 4, 5] [.box 1] (fun s => (s_ShowFlash_H3 xF yB1 s.1 s.2)) [1, 3, 4] [.box 1] (fun s => (s_ShowFlash_H4 xF yB1 s)) ⟨rfl, rfl⟩ ?_ ?_
     · rintro ⟨yS2, yK1⟩ o (h : s_ShowFlash_b2 xF yB1 yS2 yK1 = some o)
       unfold s_ShowFlash_b2 at h
       change Wp _ _ _ (s_ShowFlash_H3 xF yB1 yS2 yK1) _
       refine Wp.seq ?_
       refine Wp.seq ?_
       refine Wp.region ?_
       refine LWp.o 19 (I yK1) ?_
       refine LWp.o 20 (B (decide (yK1 < 4))) ?_
       refine LWp.nil ?_
       refine Wp.c h (fun h => ?_) (fun h => ?_)
       · refine Wp.skip ?_
         refine Wp.seq ?_
         refine Wp.block ?_
         refine Wp.seq ?_
         refine Wp.region ?_
         refine LWp.o 23 (.one (.ptr (.box 1) 0 [] 0)) ?_
         refine LWp.o 24 (.one (.sl false 60 3 (encs (c60 false) xF.Blocks))) ?_
         refine LWp.o 25 (I yB1) ?_
         refine LWp.p h 26 (fun _ => (.one (.ptr (.slot 24) 1 [0] (Int.toNat yB1 * 3 + 0)))) ?_ (fun x1 gx1 => st_pure (p_ix (k60 false) (.slot 24) [] 0 gx1))
         intro x1 gx1 h
         refine LWp.o 27 (.one (.ptr (.slot 24) 1 [0] (Int.toNat yB1 * 3 + 2))) ?_ (st_pure (p_fa (k60 false) (.slot 24) [0] 0 gx1))
         refine LWp.o 28 (.one (.sl false 57 2 (encs c57 x1.Leaves))) ?_ (st_pure (p_lc (k60 false) (.slot 24) [0] 2 (.sl false 57 2 (encs c57 x1.Leaves)) gx1))
         refine LWp.o 29 (I yK1) ?_
         refine LWp.p h 30 (fun _ => (.one (.ptr (.slot 28) 1 [0] (Int.toNat yK1 * 2 + 0)))) ?_ (fun x2 gx2 => st_pure (p_ix k57 (.slot 28) [] 0 gx2))
         intro x2 gx2 h
         refine LWp.o 31 (.agg [.int .i64 x2.Is, .str x2.Text]) ?_ (st_pure (p_le k57 (.slot 28) [0] gx2))
         refine LWp.b [] 6 [.int .i64 0, .str (bs [])] ?_
         refine LWp.s [] (.box 6) [.int .i64 x2.Is, .str x2.Text] ?_
         refine LWp.nil ?_
         refine Wp.seq ?_
         refine Wp.region ?_
         refine LWp.o 33 (.one (.ptr (.box 6) 1 [] 1)) ?_
         refine LWp.o 34 (Y x2.Text) ?_
         refine LWp.cl h 35 (fun v2 => (.tup [(.agg [.int .i64 v2.1.Kind, .int .i64 v2.1.Seq, .int .i64 v2.1.Tx, .int .i64 v2.1.Part, .int .i64 v2.1.Count, .str v2.1.Text]), (B v2.2)])) rfl (l := [.sv (.one (.str x2.Text))]) rfl (fun v hv => s_ReadPage_t x2.Text v hv) (.inl rfl) ?_
         intro v2 gv2 h
         refine LWp.mt 35 32 (.tup [(.agg [.int .i64 v2.1.Kind, .int .i64 v2.1.Seq, .int .i64 v2.1.Tx, .int .i64 v2.1.Part, .int .i64 v2.1.Count, .str v2.1.Text]), (B v2.2)]) ?_
         refine LWp.e 32 0 36 (.agg [.int .i64 v2.1.Kind, .int .i64 v2.1.Seq, .int .i64 v2.1.Tx, .int .i64 v2.1.Part, .int .i64 v2.1.Count, .str v2.1.Text]) ?_
         refine LWp.e 32 1 37 (B v2.2) ?_
         refine LWp.b [] 7 [.int .i64 0, .int .i64 0, .int .i64 0, .int .i64 0, .int .i64 0, .str (bs [])] ?_
         refine LWp.s [] (.box 7) [.int .i64 v2.1.Kind, .int .i64 v2.1.Seq, .int .i64 v2.1.Tx, .int .i64 v2.1.Part, .int .i64 v2.1.Count, .str v2.1.Text] ?_
         refine LWp.o 8 (B v2.2) ?_
         refine LWp.nil ?_
         refine Wp.block ?_
         refine Wp.seq ?_
         refine Wp.region ?_
         refine LWp.o 41 (.one (.ptr (.box 6) 1 [] 0)) ?_
         refine LWp.o 42 (I x2.Is) ?_
         refine LWp.o 43 (B (x2.Is == 0)) ?_
         refine LWp.o 40 (B (x2.Is == 0)) ?_
         refine LWp.nil ?_
         refine Wp.j1 h [1, 3, 4, 5] [.box 1] (fun a => (s_ShowFlash_H5 xF yB1 yK1 a)) ?_ ?_
         · intro a h
           refine Wp.c h (fun h => ?_) (fun h => ?_)
           · refine Wp.region ?_
             refine LWp.o 44 (Y yS2) ?_
             refine LWp.p h 45 (fun x3 => (Y x3)) ?_ (fun x3 gx3 => st_pure (p_cat gx3))
             intro x3 gx3 h
             refine LWp.o 3 (Y x3) ?_
             refine LWp.nil ?_
             cases h
             exact ⟨_, rfl, rfl, rfl⟩
           refine Wp.seq ?_
           refine Wp.region ?_
           refine LWp.o 47 (.one (.ptr (.box 6) 1 [] 0)) ?_
           refine LWp.o 48 (I x2.Is) ?_
           refine LWp.o 49 (B (x2.Is == 2)) ?_
           refine LWp.o 46 (B (x2.Is == 2)) ?_
           refine LWp.nil ?_
           refine Wp.c h (fun h => ?_) (fun h => ?_)
           · refine Wp.region ?_
             refine LWp.o 50 (Y yS2) ?_
             refine LWp.p h 51 (fun x4 => (Y x4)) ?_ (fun x4 gx4 => st_pure (p_cat gx4))
             intro x4 gx4 h
             refine LWp.o 3 (Y x4) ?_
             refine LWp.nil ?_
             cases h
             exact ⟨_, rfl, rfl, rfl⟩
           refine Wp.seq ?_
           refine Wp.j1 h [1, 3, 4, 5, 8, 52] [.box 1] (fun a => (s_ShowFlash_H6 xF yB1 yS2 yK1 v2 a)) ?_ ?_
           · intro a h
             refine Wp.region ?_
             refine LWp.o 53 (B v2.2) ?_
             refine LWp.o 54 (B v2.2) ?_
             refine LWp.sp h 54 (fun h => ?_) (fun h => ?_)
             · refine LWp.o 55 (.one (.ptr (.box 7) 1 [] 0)) ?_
               refine LWp.o 56 (I v2.1.Kind) ?_
               refine LWp.o 57 (B (v2.1.Kind == 1)) ?_
               refine LWp.o 58 (B (v2.1.Kind == 1)) ?_
               refine LWp.o 52 (B (v2.1.Kind == 1)) ?_
               refine LWp.nil ?_
               cases h
               exact ⟨_, rfl, rfl, rfl⟩
             refine LWp.sh 55 ?_
             refine LWp.sh 56 ?_
             refine LWp.sh 57 ?_
             refine LWp.o 58 (B false) ?_
             refine LWp.o 52 (B false) ?_
             refine LWp.nil ?_
             cases h
             exact ⟨_, rfl, rfl, rfl⟩
           intro j2 h E hE
           refine nt_wp hE ?_
           change Wp _ _ _ (s_ShowFlash_H6 xF yB1 yS2 yK1 v2 j2) _
           refine Wp.c h (fun h => ?_) (fun h => ?_)
           · refine Wp.region ?_
             refine LWp.o 59 (Y yS2) ?_
             refine LWp.p h 60 (fun x5 => (Y x5)) ?_ (fun x5 gx5 => st_pure (p_cat gx5))
             intro x5 gx5 h
             refine LWp.o 3 (Y x5) ?_
             refine LWp.nil ?_
             cases h
             exact ⟨_, rfl, rfl, rfl⟩
           refine Wp.seq ?_
           refine Wp.region ?_
           refine LWp.o 62 (B v2.2) ?_
           refine LWp.o 61 (B v2.2) ?_
           refine LWp.nil ?_
           refine Wp.c h (fun h => ?_) (fun h => ?_)
           · refine Wp.region ?_
             refine LWp.o 63 (Y yS2) ?_
             refine LWp.p h 64 (fun x6 => (Y x6)) ?_ (fun x6 gx6 => st_pure (p_cat gx6))
             intro x6 gx6 h
             refine LWp.o 3 (Y x6) ?_
             refine LWp.nil ?_
             cases h
             exact ⟨_, rfl, rfl, rfl⟩
           refine Wp.region ?_
           refine LWp.o 38 (Y yS2) ?_
           refine LWp.p h 39 (fun x7 => (Y x7)) ?_ (fun x7 gx7 => st_pure (p_cat gx7))
           intro x7 gx7 h
           refine LWp.o 3 (Y x7) ?_
           refine LWp.nil ?_
           cases h
           exact ⟨_, rfl, rfl, rfl⟩
         intro j1 h E hE
         refine nt_wp hE ?_
         change Wp _ _ _ (s_ShowFlash_H5 xF yB1 yK1 j1) _
         refine Wp.region ?_
         refine LWp.o 21 (I yK1) ?_
         refine LWp.o 22 (I (ad yK1 1)) ?_
         refine LWp.o 5 (I (ad yK1 1)) ?_
         refine LWp.nil ?_
         cases h
         exact ⟨_, rfl, rfl, rfl⟩
       refine Wp.exit ?_
       cases h
       exact ⟨_, rfl, rfl, rfl⟩
     intro v3 h E hE
     refine nt_wp hE ?_
     change Wp _ _ _ (s_ShowFlash_H4 xF yB1 v3) _
     refine Wp.seq ?_
     refine Wp.seq ?_
     refine Wp.region ?_
     refine LWp.o 65 (.one (.ptr (.box 1) 0 [] 0)) ?_
     refine LWp.o 66 (.one (.sl false 60 3 (encs (c60 false) xF.Blocks))) ?_
     refine LWp.o 67 (I yB1) ?_
     refine LWp.p h 68 (fun _ => (.one (.ptr (.slot 66) 1 [0] (Int.toNat yB1 * 3 + 0)))) ?_ (fun x8 gx8 => st_pure (p_ix (k60 false) (.slot 66) [] 0 gx8))
     intro x8 gx8 h
     refine LWp.o 69 (.one (.ptr (.slot 66) 1 [0] (Int.toNat yB1 * 3 + 0))) ?_ (st_pure (p_fa (k60 false) (.slot 66) [0] 0 gx8))
     refine LWp.o 70 (B x8.Bad) ?_ (st_pure (p_lc (k60 false) (.slot 66) [0] 0 (.bool x8.Bad) gx8))
     refine LWp.nil ?_
     refine Wp.c h (fun h => ?_) (fun h => ?_)
     · refine Wp.region ?_
       refine LWp.o 71 (Y v3) ?_
       refine LWp.p h 72 (fun x9 => (Y x9)) ?_ (fun x9 gx9 => st_pure (p_cat gx9))
       intro x9 gx9 h
       refine LWp.o 3 (Y x9) ?_
       refine LWp.nil ?_
       refine Wp.region ?_
       refine LWp.o 73 (Y x9) ?_
       refine LWp.p h 74 (fun x10 => (Y x10)) ?_ (fun x10 gx10 => st_pure (p_cat gx10))
       intro x10 gx10 h
       refine LWp.o 3 (Y x10) ?_
       refine LWp.nil ?_
       refine Wp.region ?_
       refine LWp.o 17 (I yB1) ?_
       refine LWp.o 18 (I (ad yB1 1)) ?_
       refine LWp.o 4 (I (ad yB1 1)) ?_
       refine LWp.nil ?_
       cases h
       exact ⟨_, rfl, rfl, rfl⟩
     refine Wp.skip ?_
     refine Wp.region ?_
     refine LWp.o 73 (Y v3) ?_
     refine LWp.p h 74 (fun x11 => (Y x11)) ?_ (fun x11 gx11 => st_pure (p_cat gx11))
     intro x11 gx11 h
     refine LWp.o 3 (Y x11) ?_
     refine LWp.nil ?_
     refine Wp.region ?_
     refine LWp.o 17 (I yB1) ?_
     refine LWp.o 18 (I (ad yB1 1)) ?_
     refine LWp.o 4 (I (ad yB1 1)) ?_
     refine LWp.nil ?_
     cases h
     exact ⟨_, rfl, rfl, rfl⟩
   refine Wp.exit ?_
   cases h
   exact ⟨_, rfl, rfl, rfl⟩
 intro v4 h E hE
 refine nt_wp hE ?_
 change Wp _ _ _ (s_ShowFlash_H2 v4) _
 refine Wp.seq ?_
 refine Wp.region ?_
 refine LWp.o 75 (Y v4) ?_
 refine LWp.o 2 (Y v4) ?_
 refine LWp.nil ?_
 cases h
 exact Wp.ret ⟨.inr rfl, _, _, rfl, rfl⟩
set_option maxRecDepth 100000 in
theorem i_in_t (xN : Int) (xLow : Int) (xHigh : Int) (r : Bool) (h : i_in xN xLow xHigh = some r) : Gives Try.prog 27 [.sv (I xN), .sv (I xLow), .sv (I xHigh)] (B r) (List.replicate 3 .gone) := by
 unfold i_in at h
 refine gives_of Try.func27 rfl ?_
 rw [Try.ntmps27]
 refine Wp.seq ?_
 refine Wp.region ?_
 refine LWp.o 6 (B false) ?_
 refine LWp.nil ?_
 refine Wp.seq ?_
 refine Wp.region ?_
 refine LWp.o 7 (I xN) ?_
 refine LWp.o 8 (I xLow) ?_
 refine LWp.o 9 (B (decide (xN ≥ xLow))) ?_
 refine LWp.o 10 (B (decide (xN ≥ xLow))) ?_
 refine LWp.sp h 10 (fun h => ?_) (fun h => ?_)
 · refine LWp.o 11 (I xN) ?_
   refine LWp.o 12 (I xHigh) ?_
   refine LWp.o 13 (B (decide (xN ≤ xHigh))) ?_
   refine LWp.o 14 (B (decide (xN ≤ xHigh))) ?_
   refine LWp.o 6 (B (decide (xN ≤ xHigh))) ?_
   refine LWp.nil ?_
   cases h
   exact Wp.ret ⟨.inr rfl, _, _, rfl, rfl⟩
 refine LWp.sh 11 ?_
 refine LWp.sh 12 ?_
 refine LWp.sh 13 ?_
 refine LWp.o 14 (B false) ?_
 refine LWp.o 6 (B false) ?_
 refine LWp.nil ?_
 cases h
 exact Wp.ret ⟨.inr rfl, _, _, rfl, rfl⟩
set_option maxRecDepth 100000 in
theorem i_leafOk_t (xX : Leaf) (r : Bool) (h : i_leafOk xX = some r) : Gives Try.prog 37 [.sv (.agg [.int .i64 xX.Is, .str xX.Text])] (B r) (List.replicate 1 .gone) := by
 unfold i_leafOk at h
 refine gives_of Try.func37 rfl ?_
 rw [Try.ntmps37]
 refine Wp.seq ?_
 refine Wp.region ?_
 refine LWp.b [] 1 [.int .i64 xX.Is, .str xX.Text] ?_
 refine LWp.o 2 (B false) ?_
 refine LWp.nil ?_
 refine Wp.seq ?_
 refine Wp.seq ?_
 refine Wp.region ?_
 refine LWp.o 3 (.one (.ptr (.box 1) 1 [] 0)) ?_
 refine LWp.o 4 (I xX.Is) ?_
 refine LWp.nil ?_
 refine Wp.block ?_
 refine Wp.seq ?_
 refine Wp.region ?_
 refine LWp.o 6 (B (xX.Is == 0)) ?_
 refine LWp.o 5 (B (xX.Is == 0)) ?_
 refine LWp.nil ?_
 refine Wp.c h (fun h => ?_) (fun h => ?_)
 · refine Wp.seq ?_
   refine Wp.region ?_
   refine LWp.o 7 (.one (.ptr (.box 1) 1 [] 1)) ?_
   refine LWp.o 8 (Y xX.Text) ?_
   refine LWp.o 9 (B (seq xX.Text (bs []))) ?_
   refine LWp.o 2 (B (seq xX.Text (bs []))) ?_
   refine LWp.nil ?_
   cases h
   exact Wp.ret ⟨.inr rfl, _, _, rfl, rfl⟩
 refine Wp.seq ?_
 refine Wp.region ?_
 refine LWp.o 11 (B (xX.Is == 1)) ?_
 refine LWp.o 10 (B (xX.Is == 1)) ?_
 refine LWp.nil ?_
 refine Wp.c h (fun h => ?_) (fun h => ?_)
 · refine Wp.seq ?_
   refine Wp.region ?_
   refine LWp.o 12 (.one (.ptr (.box 1) 1 [] 1)) ?_
   refine LWp.o 13 (Y xX.Text) ?_
   refine LWp.o 14 (I (sln xX.Text)) ?_
   refine LWp.cl h 15 (fun v1 => (B v1)) rfl (l := [.sv (.one (.int .i64 (sln xX.Text))), .sv (.one (.int .i64 1)), .sv (.one (.int .i64 120))]) rfl (fun v hv => i_in_t (sln xX.Text) 1 120 v hv) (.inl rfl) ?_
   intro v1 gv1 h
   refine LWp.o 2 (B v1) ?_
   refine LWp.nil ?_
   cases h
   exact Wp.ret ⟨.inr rfl, _, _, rfl, rfl⟩
 refine Wp.skip ?_
 refine Wp.seq ?_
 refine Wp.region ?_
 refine LWp.o 16 (.one (.ptr (.box 1) 1 [] 0)) ?_
 refine LWp.o 17 (I xX.Is) ?_
 refine LWp.o 18 (B (xX.Is == 2)) ?_
 refine LWp.o 19 (B (xX.Is == 2)) ?_
 refine LWp.sp h 19 (fun h => ?_) (fun h => ?_)
 · refine LWp.o 20 (.one (.ptr (.box 1) 1 [] 1)) ?_
   refine LWp.o 21 (Y xX.Text) ?_
   refine LWp.o 22 (I (sln xX.Text)) ?_
   refine LWp.o 23 (B (decide ((sln xX.Text) ≤ 120))) ?_
   refine LWp.o 24 (B (decide ((sln xX.Text) ≤ 120))) ?_
   refine LWp.o 2 (B (decide ((sln xX.Text) ≤ 120))) ?_
   refine LWp.nil ?_
   cases h
   exact Wp.ret ⟨.inr rfl, _, _, rfl, rfl⟩
 refine LWp.sh 20 ?_
 refine LWp.sh 21 ?_
 refine LWp.sh 22 ?_
 refine LWp.sh 23 ?_
 refine LWp.o 24 (B false) ?_
 refine LWp.o 2 (B false) ?_
 refine LWp.nil ?_
 cases h
 exact Wp.ret ⟨.inr rfl, _, _, rfl, rfl⟩
def i_FlashOk_H1 (xF : Flash) (z1 : Int) : St := mkSt [(1, (.one (.ptr (.box 1) 0 [] 0))), (8, (.one (.sl false 60 3 (encs (c60 false) xF.Blocks)))), (9, (I (ln xF.Blocks))), (10, (I z1))] [(.box 1, [.sl false 60 3 (encs (c60 false) xF.Blocks)])]
def i_FlashOk_H2 (xF : Flash) : St := mkSt [(1, (.one (.ptr (.box 1) 0 [] 0)))] [(.box 1, [.sl false 60 3 (encs (c60 false) xF.Blocks)])]
def i_FlashOk_H3 (xF : Flash) (y1 : Int) (x1 : Block) (z2 : Bool) : St := mkSt [(1, (.one (.ptr (.box 1) 0 [] 0))), (4, (.one (.ptr (.box 4) 0 [] 0))), (8, (.one (.sl false 60 3 (encs (c60 false) xF.Blocks)))), (9, (I (ln xF.Blocks))), (10, (I y1)), (23, (B z2))] [(.box 1, [.sl false 60 3 (encs (c60 false) xF.Blocks)]), (.box 4, [.bool x1.Bad, .int .i64 x1.Wear, .sl false 57 2 (encs c57 x1.Leaves)])]
def i_FlashOk_H4 (xF : Flash) (y1 : Int) (x1 : Block) (z3 : Int) : St := mkSt [(1, (.one (.ptr (.box 1) 0 [] 0))), (4, (.one (.ptr (.box 4) 0 [] 0))), (8, (.one (.sl false 60 3 (encs (c60 false) xF.Blocks)))), (9, (I (ln xF.Blocks))), (10, (I y1)), (25, (.one (.sl false 57 2 (encs c57 x1.Leaves)))), (26, (I (ln x1.Leaves))), (27, (I z3))] [(.box 1, [.sl false 60 3 (encs (c60 false) xF.Blocks)]), (.box 4, [.bool x1.Bad, .int .i64 x1.Wear, .sl false 57 2 (encs c57 x1.Leaves)])]
def i_FlashOk_H5 (xF : Flash) (y1 : Int) : St := mkSt [(1, (.one (.ptr (.box 1) 0 [] 0))), (8, (.one (.sl false 60 3 (encs (c60 false) xF.Blocks)))), (9, (I (ln xF.Blocks))), (10, (I y1))] [(.box 1, [.sl false 60 3 (encs (c60 false) xF.Blocks)])]
def i_FlashOk_H6 (xF : Flash) (y1 : Int) (x1 : Block) (y2 : Int) (z4 : Bool) : St := mkSt [(1, (.one (.ptr (.box 1) 0 [] 0))), (4, (.one (.ptr (.box 4) 0 [] 0))), (8, (.one (.sl false 60 3 (encs (c60 false) xF.Blocks)))), (9, (I (ln xF.Blocks))), (10, (I y1)), (25, (.one (.sl false 57 2 (encs c57 x1.Leaves)))), (26, (I (ln x1.Leaves))), (27, (I y2)), (53, (B z4))] [(.box 1, [.sl false 60 3 (encs (c60 false) xF.Blocks)]), (.box 4, [.bool x1.Bad, .int .i64 x1.Wear, .sl false 57 2 (encs c57 x1.Leaves)])]
set_option maxRecDepth 100000 in
theorem i_FlashOk_t (xF : Flash) (r : Bool) (h : i_FlashOk xF = some r) : Gives Try.prog 19 [.sv (.agg [.sl false 60 3 (encs (c60 false) xF.Blocks)])] (B r) (List.replicate 1 .gone) := by
 unfold i_FlashOk at h
 refine gives_of Try.func19 rfl ?_
 rw [Try.ntmps19]
 refine Wp.seq ?_
 refine Wp.region ?_
 refine LWp.b [] 1 [.sl false 60 3 (encs (c60 false) xF.Blocks)] ?_
 refine LWp.o 2 (B false) ?_
 refine LWp.nil ?_
 refine Wp.seq ?_
 refine Wp.seq ?_
 refine Wp.region ?_
 refine LWp.o 7 (.one (.ptr (.box 1) 1 [] 0)) ?_
 refine LWp.o 8 (.one (.sl false 60 3 (encs (c60 false) xF.Blocks))) ?_
 refine LWp.o 9 (I (ln xF.Blocks)) ?_ (st_pure (p_ln (k60 false) xF.Blocks))
 refine LWp.o 10 (I 0) ?_
 refine LWp.nil ?_
 refine Wp.l2 h [1, 8, 9, 10] [.box 1] (fun s => (i_FlashOk_H1 xF s)) [1] [.box 1] (fun _ => (i_FlashOk_H2 xF)) ⟨rfl, rfl⟩ ?_ ?_
 · rintro y1 o (h : i_FlashOk_b1 xF y1 = some o) hk1
   unfold i_FlashOk_b1 at h
   change Wp _ _ _ (i_FlashOk_H1 xF y1) _
   refine Wp.seq ?_
   refine Wp.region ?_
   refine LWp.o 11 (B (decide (y1 < (ln xF.Blocks)))) ?_
   refine LWp.nil ?_
   refine Wp.seq ?_
   refine Wp.c h (fun h => ?_) (fun h => ?_)
   · refine Wp.skip ?_
     refine Wp.seq ?_
     refine Wp.block ?_
     refine Wp.seq ?_
     refine Wp.region ?_
     refine LWp.p h 12 (fun _ => (.one (.ptr (.slot 8) 0 [0] (Int.toNat y1 * 3 + 0)))) ?_ (fun x1 gx1 => st_pure (p_ix (k60 false) (.slot 8) [] 0 gx1))
     intro x1 gx1 h
     refine LWp.o 13 (.agg [.bool x1.Bad, .int .i64 x1.Wear, .sl false 57 2 (encs c57 x1.Leaves)]) ?_ (st_pure (p_le (k60 false) (.slot 8) [0] gx1))
     refine LWp.b [] 4 [.bool false, .int .i64 0, .sl true 57 2 (encs c57 [])] ?_
     refine LWp.sb [] (.box 4) [.bool x1.Bad, .int .i64 x1.Wear, .sl false 57 2 (encs c57 x1.Leaves)] ?_
     refine LWp.nil ?_
     refine Wp.seq ?_
     refine Wp.seq ?_
     refine Wp.j1 h [1, 4, 8, 9, 10, 23] [.box 1, .box 4] (fun a => (i_FlashOk_H3 xF y1 x1 a)) ?_ ?_
     · intro a h
       refine Wp.region ?_
       refine LWp.o 14 (.one (.ptr (.box 4) 1 [] 2)) ?_
       refine LWp.o 15 (.one (.sl false 57 2 (encs c57 x1.Leaves))) ?_
       refine LWp.o 16 (I (ln x1.Leaves)) ?_ (st_pure (p_ln k57 x1.Leaves))
       refine LWp.o 17 (B ((ln x1.Leaves) != 4)) ?_
       refine LWp.o 18 (B ((ln x1.Leaves) != 4)) ?_
       refine LWp.sp h 18 (fun h => ?_) (fun h => ?_)
       · refine LWp.sh 19 ?_
         refine LWp.sh 20 ?_
         refine LWp.sh 21 ?_
         refine LWp.sh 22 ?_
         refine LWp.o 23 (B true) ?_
         refine LWp.nil ?_
         cases h
         exact ⟨_, rfl, rfl, rfl⟩
       refine LWp.o 19 (.one (.ptr (.box 4) 1 [] 1)) ?_
       refine LWp.o 20 (I x1.Wear) ?_
       refine LWp.cl h 21 (fun v1 => (B v1)) rfl (l := [.sv (.one (.int .i64 x1.Wear)), .sv (.one (.int .i64 0)), .sv (.one (.int .i64 1000000000))]) rfl (fun v hv => i_in_t x1.Wear 0 1000000000 v hv) (.inl rfl) ?_
       intro v1 gv1 h
       refine LWp.o 22 (B (!v1)) ?_
       refine LWp.o 23 (B (!v1)) ?_
       refine LWp.nil ?_
       cases h
       exact ⟨_, rfl, rfl, rfl⟩
     intro j1 h E hE
     refine nt_wp hE ?_
     change Wp _ _ _ (i_FlashOk_H3 xF y1 x1 j1) _
     refine Wp.c h (fun h => ?_) (fun h => ?_)
     · refine Wp.seq ?_
       refine Wp.region ?_
       refine LWp.o 2 (B false) ?_
       refine LWp.nil ?_
       cases h
       replace h : some _ = some _ := hk1 _ rfl
       cases h
       exact Wp.ret ⟨.inr rfl, _, _, rfl, rfl⟩
     refine Wp.skip ?_
     refine Wp.seq ?_
     refine Wp.region ?_
     refine LWp.o 24 (.one (.ptr (.box 4) 0 [] 2)) ?_
     refine LWp.o 25 (.one (.sl false 57 2 (encs c57 x1.Leaves))) ?_
     refine LWp.o 26 (I (ln x1.Leaves)) ?_ (st_pure (p_ln k57 x1.Leaves))
     refine LWp.o 27 (I 0) ?_
     refine LWp.nil ?_
     refine Wp.l2 h [1, 4, 8, 9, 10, 25, 26, 27] [.box 1, .box 4] (fun s => (i_FlashOk_H4 xF y1 x1 s)) [1, 8, 9, 10] [.box 1] (fun _ => (i_FlashOk_H5 xF y1)) ⟨rfl, rfl⟩ ?_ ?_
     · rintro y2 o (h : i_FlashOk_b2 x1 y2 = some o) hk2
       unfold i_FlashOk_b2 at h
       change Wp _ _ _ (i_FlashOk_H4 xF y1 x1 y2) _
       refine Wp.seq ?_
       refine Wp.region ?_
       refine LWp.o 28 (B (decide (y2 < (ln x1.Leaves)))) ?_
       refine LWp.nil ?_
       refine Wp.seq ?_
       refine Wp.c h (fun h => ?_) (fun h => ?_)
       · refine Wp.skip ?_
         refine Wp.seq ?_
         refine Wp.block ?_
         refine Wp.seq ?_
         refine Wp.region ?_
         refine LWp.o 29 (I y2) ?_
         refine LWp.p h 30 (fun _ => (.one (.ptr (.slot 25) 0 [0] (Int.toNat y2 * 2 + 0)))) ?_ (fun x2 gx2 => st_pure (p_ix k57 (.slot 25) [] 0 gx2))
         intro x2 gx2 h
         refine LWp.o 31 (.agg [.int .i64 x2.Is, .str x2.Text]) ?_ (st_pure (p_le k57 (.slot 25) [0] gx2))
         refine LWp.b [] 6 [.int .i64 0, .str (bs [])] ?_
         refine LWp.o 5 (I y2) ?_
         refine LWp.s [] (.box 6) [.int .i64 x2.Is, .str x2.Text] ?_
         refine LWp.nil ?_
         refine Wp.seq ?_
         refine Wp.j1 h [1, 4, 8, 9, 10, 25, 26, 27, 53] [.box 1, .box 4] (fun a => (i_FlashOk_H6 xF y1 x1 y2 a)) ?_ ?_
         · intro a h
           refine Wp.region ?_
           refine LWp.o 32 (.agg [.int .i64 x2.Is, .str x2.Text]) ?_
           refine LWp.cl h 33 (fun v2 => (B v2)) rfl (l := [.sv (.agg [.int .i64 x2.Is, .str x2.Text])]) rfl (fun v hv => i_leafOk_t x2 v hv) (.inl rfl) ?_
           intro v2 gv2 h
           refine LWp.o 34 (B (!v2)) ?_
           refine LWp.o 35 (B (!v2)) ?_
           refine LWp.sp h 35 (fun h => ?_) (fun h => ?_)
           · refine LWp.sh 36 ?_
             refine LWp.sh 37 ?_
             refine LWp.sh 38 ?_
             refine LWp.sh 39 ?_
             refine LWp.sh 40 ?_
             refine LWp.sh 41 ?_
             refine LWp.sh 42 ?_
             refine LWp.sh 43 ?_
             refine LWp.sh 44 ?_
             refine LWp.sh 45 ?_
             refine LWp.sh 46 ?_
             refine LWp.sh 47 ?_
             refine LWp.sh 48 ?_
             refine LWp.sh 49 ?_
             refine LWp.sh 50 ?_
             refine LWp.sh 51 ?_
             refine LWp.sh 52 ?_
             refine LWp.o 53 (B true) ?_
             refine LWp.nil ?_
             cases h
             exact ⟨_, rfl, rfl, rfl⟩
           refine LWp.o 36 (I y2) ?_
           refine LWp.o 37 (B (decide (y2 > 0))) ?_
           refine LWp.o 38 (B (decide (y2 > 0))) ?_
           refine LWp.sp h 38 (fun h => ?_) (fun h => ?_)
           · refine LWp.o 39 (.one (.ptr (.box 4) 0 [] 2)) ?_
             refine LWp.o 40 (.one (.sl false 57 2 (encs c57 x1.Leaves))) ?_
             refine LWp.o 41 (I y2) ?_
             refine LWp.o 42 (I (sb y2 1)) ?_
             refine LWp.p h 43 (fun _ => (.one (.ptr (.slot 40) 1 [0] (Int.toNat (sb y2 1) * 2 + 0)))) ?_ (fun x3 gx3 => st_pure (p_ix k57 (.slot 40) [] 0 gx3))
             intro x3 gx3 h
             refine LWp.o 44 (.one (.ptr (.slot 40) 1 [0] (Int.toNat (sb y2 1) * 2 + 0))) ?_ (st_pure (p_fa k57 (.slot 40) [0] 0 gx3))
             refine LWp.o 45 (I x3.Is) ?_ (st_pure (p_lc k57 (.slot 40) [0] 0 (.int .i64 x3.Is) gx3))
             refine LWp.o 46 (B (x3.Is == 0)) ?_
             refine LWp.o 47 (B (x3.Is == 0)) ?_
             refine LWp.o 48 (B (x3.Is == 0)) ?_
             refine LWp.sp h 48 (fun h => ?_) (fun h => ?_)
             · refine LWp.o 49 (.one (.ptr (.box 6) 1 [] 0)) ?_
               refine LWp.o 50 (I x2.Is) ?_
               refine LWp.o 51 (B (x2.Is != 0)) ?_
               refine LWp.o 52 (B (x2.Is != 0)) ?_
               refine LWp.o 53 (B (x2.Is != 0)) ?_
               refine LWp.nil ?_
               cases h
               exact ⟨_, rfl, rfl, rfl⟩
             refine LWp.sh 49 ?_
             refine LWp.sh 50 ?_
             refine LWp.sh 51 ?_
             refine LWp.o 52 (B false) ?_
             refine LWp.o 53 (B false) ?_
             refine LWp.nil ?_
             cases h
             exact ⟨_, rfl, rfl, rfl⟩
           refine LWp.sh 39 ?_
           refine LWp.sh 40 ?_
           refine LWp.sh 41 ?_
           refine LWp.sh 42 ?_
           refine LWp.sh 43 ?_
           refine LWp.sh 44 ?_
           refine LWp.sh 45 ?_
           refine LWp.sh 46 ?_
           refine LWp.o 47 (B false) ?_
           refine LWp.o 48 (B false) ?_
           refine LWp.sh 49 ?_
           refine LWp.sh 50 ?_
           refine LWp.sh 51 ?_
           refine LWp.o 52 (B false) ?_
           refine LWp.o 53 (B false) ?_
           refine LWp.nil ?_
           cases h
           exact ⟨_, rfl, rfl, rfl⟩
         intro j2 h E hE
         refine nt_wp hE ?_
         change Wp _ _ _ (i_FlashOk_H6 xF y1 x1 y2 j2) _
         refine Wp.c h (fun h => ?_) (fun h => ?_)
         · refine Wp.seq ?_
           refine Wp.region ?_
           refine LWp.o 2 (B false) ?_
           refine LWp.nil ?_
           cases h
           replace h : some _ = some _ := hk2 _ rfl
           cases h
           replace h : some _ = some _ := hk1 _ rfl
           cases h
           exact Wp.ret ⟨.inr rfl, _, _, rfl, rfl⟩
         refine Wp.skip ?_
         refine Wp.region ?_
         refine LWp.o 54 (I (ad y2 1)) ?_
         refine LWp.o 27 (I (ad y2 1)) ?_
         refine LWp.nil ?_
         cases h
         exact ⟨_, rfl, rfl, rfl⟩
       refine Wp.exit ?_
       cases h
       exact ⟨_, rfl, rfl, rfl⟩
     intro v3 h E hE
     refine nt_wp hE ?_
     change Wp _ _ _ (i_FlashOk_H5 xF y1) _
     refine Wp.region ?_
     refine LWp.o 55 (I (ad y1 1)) ?_
     refine LWp.o 10 (I (ad y1 1)) ?_
     refine LWp.nil ?_
     cases h
     exact ⟨_, rfl, rfl, rfl⟩
   refine Wp.exit ?_
   cases h
   exact ⟨_, rfl, rfl, rfl⟩
 intro v4 h E hE
 refine nt_wp hE ?_
 change Wp _ _ _ (i_FlashOk_H2 xF) _
 refine Wp.seq ?_
 refine Wp.region ?_
 refine LWp.o 56 (.one (.ptr (.box 1) 0 [] 0)) ?_
 refine LWp.o 57 (.one (.sl false 60 3 (encs (c60 false) xF.Blocks))) ?_
 refine LWp.o 58 (I (ln xF.Blocks)) ?_ (st_pure (p_ln (k60 false) xF.Blocks))
 refine LWp.cl h 59 (fun v5 => (B v5)) rfl (l := [.sv (.one (.int .i64 (ln xF.Blocks))), .sv (.one (.int .i64 3)), .sv (.one (.int .i64 10))]) rfl (fun v hv => i_in_t (ln xF.Blocks) 3 10 v hv) (.inl rfl) ?_
 intro v5 gv5 h
 refine LWp.o 2 (B v5) ?_
 refine LWp.nil ?_
 cases h
 exact Wp.ret ⟨.inr rfl, _, _, rfl, rfl⟩
def i_SumMore_H1 (xText : ByteArray) (z1 : Int) (z2 : Int) : St := mkSt [(0, (.one (.int .u32 z1))), (1, (Y xText)), (5, (I z2))] []
def i_SumMore_H2 (z3 : Int) : St := mkSt [(0, (.one (.int .u32 z3)))] []
def i_SumMore_H3 (xText : ByteArray) (yI1 : Int) (z4 : Int) (z5 : Int) : St := mkSt [(0, (.one (.int .u32 z4))), (1, (Y xText)), (5, (I yI1)), (19, (I z5))] []
def i_SumMore_H4 (xText : ByteArray) (yI1 : Int) (z6 : Int) : St := mkSt [(0, (.one (.int .u32 z6))), (1, (Y xText)), (5, (I yI1))] []
set_option maxRecDepth 100000 in
theorem i_SumMore_t (xSum : Int) (xText : ByteArray) (r : Int) (h : i_SumMore xSum xText = some r) : Gives Try.prog 96 [.sv (.one (.int .u32 xSum)), .sv (Y xText)] (.one (.int .u32 r)) (List.replicate 2 .gone) := by
 unfold i_SumMore at h
 refine gives_of Try.func96 rfl ?_
 rw [Try.ntmps96]
 refine Wp.seq ?_
 refine Wp.region ?_
 refine LWp.o 4 (.one (.int .u32 0)) ?_
 refine LWp.nil ?_
 refine Wp.seq ?_
 refine Wp.seq ?_
 refine Wp.region ?_
 refine LWp.o 5 (I 0) ?_
 refine LWp.nil ?_
 refine Wp.l1 h [0, 1, 5] [] (fun s => (i_SumMore_H1 xText s.1 s.2)) [0] [] (fun s => (i_SumMore_H2 s)) ⟨rfl, rfl⟩ ?_ ?_
 · rintro ⟨ySum1, yI1⟩ o (h : i_SumMore_b1 xText ySum1 yI1 = some o)
   unfold i_SumMore_b1 at h
   change Wp _ _ _ (i_SumMore_H1 xText ySum1 yI1) _
   refine Wp.seq ?_
   refine Wp.seq ?_
   refine Wp.region ?_
   refine LWp.o 7 (I yI1) ?_
   refine LWp.o 8 (Y xText) ?_
   refine LWp.o 9 (I (sln xText)) ?_
   refine LWp.o 10 (B (decide (yI1 < (sln xText)))) ?_
   refine LWp.nil ?_
   refine Wp.c h (fun h => ?_) (fun h => ?_)
   · refine Wp.skip ?_
     refine Wp.seq ?_
     refine Wp.block ?_
     refine Wp.seq ?_
     refine Wp.region ?_
     refine LWp.o 13 (.one (.int .u32 ySum1)) ?_
     refine LWp.o 14 (Y xText) ?_
     refine LWp.o 15 (I yI1) ?_
     refine LWp.p h 16 (fun x1 => (.one (.int .u8 x1))) ?_ (fun x1 gx1 => st_pure (p_sx gx1))
     intro x1 gx1 h
     refine LWp.o 17 (.one (.int .u32 (IntKind.u32.wrap x1))) ?_
     refine LWp.o 18 (.one (.int .u32 (xr ySum1 (IntKind.u32.wrap x1)))) ?_
     refine LWp.o 0 (.one (.int .u32 (xr ySum1 (IntKind.u32.wrap x1)))) ?_
     refine LWp.nil ?_
     refine Wp.seq ?_
     refine Wp.region ?_
     refine LWp.o 19 (I 0) ?_
     refine LWp.nil ?_
     refine Wp.l1 h [0, 1, 5, 19] [] (fun s => (i_SumMore_H3 xText yI1 s.1 s.2)) [0, 1, 5] [] (fun s => (i_SumMore_H4 xText yI1 s)) ⟨rfl, rfl⟩ ?_ ?_
     · rintro ⟨ySum2, y1⟩ o (h : i_SumMore_b2 ySum2 y1 = some o)
       unfold i_SumMore_b2 at h
       change Wp _ _ _ (i_SumMore_H3 xText yI1 ySum2 y1) _
       refine Wp.seq ?_
       refine Wp.region ?_
       refine LWp.o 20 (B (decide (y1 < 8))) ?_
       refine LWp.nil ?_
       refine Wp.seq ?_
       refine Wp.c h (fun h => ?_) (fun h => ?_)
       · refine Wp.skip ?_
         refine Wp.seq ?_
         refine Wp.block ?_
         refine Wp.seq ?_
         refine Wp.region ?_
         refine LWp.o 21 (.one (.int .u32 ySum2)) ?_
         refine LWp.o 22 (.one (.int .u32 (an ySum2 1))) ?_
         refine LWp.o 6 (.one (.int .u32 (an ySum2 1))) ?_
         refine LWp.nil ?_
         refine Wp.seq ?_
         refine Wp.region ?_
         refine LWp.o 23 (.one (.int .u32 ySum2)) ?_
         refine LWp.o 24 (.one (.int .u32 (Int.fdiv ySum2 (2 ^ (min (1 : Int).toNat IntKind.u32.bits))))) ?_
         refine LWp.o 0 (.one (.int .u32 (Int.fdiv ySum2 (2 ^ (min (1 : Int).toNat IntKind.u32.bits))))) ?_
         refine LWp.nil ?_
         refine Wp.seq ?_
         refine Wp.region ?_
         refine LWp.o 25 (.one (.int .u32 (an ySum2 1))) ?_
         refine LWp.o 26 (B ((an ySum2 1) == 1)) ?_
         refine LWp.nil ?_
         refine Wp.c h (fun h => ?_) (fun h => ?_)
         · refine Wp.region ?_
           refine LWp.o 27 (.one (.int .u32 (Int.fdiv ySum2 (2 ^ (min (1 : Int).toNat IntKind.u32.bits))))) ?_
           refine LWp.o 28 (.one (.int .u32 (xr (Int.fdiv ySum2 (2 ^ (min (1 : Int).toNat IntKind.u32.bits))) 3558460437))) ?_
           refine LWp.o 0 (.one (.int .u32 (xr (Int.fdiv ySum2 (2 ^ (min (1 : Int).toNat IntKind.u32.bits))) 3558460437))) ?_
           refine LWp.nil ?_
           refine Wp.region ?_
           refine LWp.o 29 (I (ad y1 1)) ?_
           refine LWp.o 19 (I (ad y1 1)) ?_
           refine LWp.nil ?_
           cases h
           exact ⟨_, rfl, rfl, rfl⟩
         refine Wp.skip ?_
         refine Wp.region ?_
         refine LWp.o 29 (I (ad y1 1)) ?_
         refine LWp.o 19 (I (ad y1 1)) ?_
         refine LWp.nil ?_
         cases h
         exact ⟨_, rfl, rfl, rfl⟩
       refine Wp.exit ?_
       cases h
       exact ⟨_, rfl, rfl, rfl⟩
     intro v1 h E hE
     refine nt_wp hE ?_
     change Wp _ _ _ (i_SumMore_H4 xText yI1 v1) _
     refine Wp.region ?_
     refine LWp.o 11 (I yI1) ?_
     refine LWp.o 12 (I (ad yI1 1)) ?_
     refine LWp.o 5 (I (ad yI1 1)) ?_
     refine LWp.nil ?_
     cases h
     exact ⟨_, rfl, rfl, rfl⟩
   refine Wp.exit ?_
   cases h
   exact ⟨_, rfl, rfl, rfl⟩
 intro v2 h E hE
 refine nt_wp hE ?_
 change Wp _ _ _ (i_SumMore_H2 v2) _
 refine Wp.seq ?_
 refine Wp.region ?_
 refine LWp.o 30 (.one (.int .u32 v2)) ?_
 refine LWp.o 4 (.one (.int .u32 v2)) ?_
 refine LWp.nil ?_
 cases h
 exact Wp.ret ⟨.inr rfl, _, _, rfl, rfl⟩
set_option maxRecDepth 100000 in
theorem i_SumOf_t (xText : ByteArray) (r : Int) (h : i_SumOf xText = some r) : Gives Try.prog 91 [.sv (Y xText)] (.one (.int .u32 r)) (List.replicate 1 .gone) := by
 unfold i_SumOf at h
 refine gives_of Try.func91 rfl ?_
 rw [Try.ntmps91]
 refine Wp.seq ?_
 refine Wp.region ?_
 refine LWp.o 2 (.one (.int .u32 0)) ?_
 refine LWp.nil ?_
 refine Wp.seq ?_
 refine Wp.region ?_
 refine LWp.o 3 (Y xText) ?_
 refine LWp.cl h 4 (fun v1 => (.one (.int .u32 v1))) rfl (l := [.sv (.one (.int .u32 4294967295)), .sv (.one (.str xText))]) rfl (fun v hv => i_SumMore_t 4294967295 xText v hv) (.inl rfl) ?_
 intro v1 gv1 h
 refine LWp.o 2 (.one (.int .u32 v1)) ?_
 refine LWp.nil ?_
 cases h
 exact Wp.ret ⟨.inr rfl, _, _, rfl, rfl⟩
set_option maxRecDepth 100000 in
theorem i_Sealed_t (xText : ByteArray) (r : ByteArray × Bool) (h : i_Sealed xText = some r) : Gives Try.prog 75 [.sv (Y xText)] (.tup [(Y r.1), (B r.2)]) (List.replicate 1 .gone) := by
 unfold i_Sealed at h
 refine gives_of Try.func75 rfl ?_
 rw [Try.ntmps75]
 refine Wp.seq ?_
 refine Wp.region ?_
 refine LWp.o 2 (Y (bs [])) ?_
 refine LWp.o 3 (B false) ?_
 refine LWp.nil ?_
 refine Wp.seq ?_
 refine Wp.seq ?_
 refine Wp.region ?_
 refine LWp.o 5 (Y xText) ?_
 refine LWp.o 6 (I (sln xText)) ?_
 refine LWp.o 7 (B (decide ((sln xText) > 20000))) ?_
 refine LWp.nil ?_
 refine Wp.c h (fun h => ?_) (fun h => ?_)
 · refine Wp.seq ?_
   refine Wp.region ?_
   refine LWp.o 2 (Y (bs [])) ?_
   refine LWp.o 3 (B false) ?_
   refine LWp.nil ?_
   cases h
   exact Wp.ret ⟨.inr rfl, _, _, rfl, rfl⟩
 refine Wp.skip ?_
 refine Wp.seq ?_
 refine Wp.region ?_
 refine LWp.o 8 (Y xText) ?_
 refine LWp.cl h 9 (fun v1 => (.one (.int .u32 v1))) rfl (l := [.sv (.one (.str xText))]) rfl (fun v hv => i_SumOf_t xText v hv) (.inl rfl) ?_
 intro v1 gv1 h
 refine LWp.o 4 (.one (.int .u32 v1)) ?_
 refine LWp.nil ?_
 refine Wp.seq ?_
 refine Wp.region ?_
 refine LWp.o 10 (Y xText) ?_
 refine LWp.o 11 (.one (.int .u32 v1)) ?_
 refine LWp.o 12 (.one (.int .u32 (Int.fdiv v1 (2 ^ (min (24 : Int).toNat IntKind.u32.bits))))) ?_
 refine LWp.o 13 (.one (.int .u8 (IntKind.u8.wrap (Int.fdiv v1 (2 ^ (min (24 : Int).toNat IntKind.u32.bits)))))) ?_
 refine LWp.o 14 (.one (.int .u32 v1)) ?_
 refine LWp.o 15 (.one (.int .u32 (Int.fdiv v1 (2 ^ (min (16 : Int).toNat IntKind.u32.bits))))) ?_
 refine LWp.o 16 (.one (.int .u8 (IntKind.u8.wrap (Int.fdiv v1 (2 ^ (min (16 : Int).toNat IntKind.u32.bits)))))) ?_
 refine LWp.o 17 (.one (.int .u32 v1)) ?_
 refine LWp.o 18 (.one (.int .u32 (Int.fdiv v1 (2 ^ (min (8 : Int).toNat IntKind.u32.bits))))) ?_
 refine LWp.o 19 (.one (.int .u8 (IntKind.u8.wrap (Int.fdiv v1 (2 ^ (min (8 : Int).toNat IntKind.u32.bits)))))) ?_
 refine LWp.o 20 (.one (.int .u32 v1)) ?_
 refine LWp.o 21 (.one (.int .u8 (IntKind.u8.wrap v1))) ?_
 refine LWp.m false [] 22 (.one (.sl true 5 1 (encs c5 [(IntKind.u8.wrap (Int.fdiv v1 (2 ^ (min (24 : Int).toNat IntKind.u32.bits)))), (IntKind.u8.wrap (Int.fdiv v1 (2 ^ (min (16 : Int).toNat IntKind.u32.bits)))), (IntKind.u8.wrap (Int.fdiv v1 (2 ^ (min (8 : Int).toNat IntKind.u32.bits)))), (IntKind.u8.wrap v1)]))) ?_
 refine LWp.o 23 (Y (strB [(IntKind.u8.wrap (Int.fdiv v1 (2 ^ (min (24 : Int).toNat IntKind.u32.bits)))), (IntKind.u8.wrap (Int.fdiv v1 (2 ^ (min (16 : Int).toNat IntKind.u32.bits)))), (IntKind.u8.wrap (Int.fdiv v1 (2 ^ (min (8 : Int).toNat IntKind.u32.bits)))), (IntKind.u8.wrap v1)])) ?_ (st_pure (p_cv (fun _ => rfl) [(IntKind.u8.wrap (Int.fdiv v1 (2 ^ (min (24 : Int).toNat IntKind.u32.bits)))), (IntKind.u8.wrap (Int.fdiv v1 (2 ^ (min (16 : Int).toNat IntKind.u32.bits)))), (IntKind.u8.wrap (Int.fdiv v1 (2 ^ (min (8 : Int).toNat IntKind.u32.bits)))), (IntKind.u8.wrap v1)]))
 refine LWp.p h 24 (fun x1 => (Y x1)) ?_ (fun x1 gx1 => st_pure (p_cat gx1))
 intro x1 gx1 h
 refine LWp.o 2 (Y x1) ?_
 refine LWp.o 3 (B true) ?_
 refine LWp.nil ?_
 cases h
 exact Wp.ret ⟨.inr rfl, _, _, rfl, rfl⟩
def i_Unsealed_H1 (x1 : ByteArray) (z1 : Bool) : St := mkSt [(4, (Y x1)), (26, (B z1))] []
set_option maxRecDepth 100000 in
theorem i_Unsealed_t (xText : ByteArray) (r : ByteArray × Bool) (h : i_Unsealed xText = some r) : Gives Try.prog 59 [.sv (Y xText)] (.tup [(Y r.1), (B r.2)]) (List.replicate 1 .gone) := by
 unfold i_Unsealed at h
 refine gives_of Try.func59 rfl ?_
 rw [Try.ntmps59]
 refine Wp.seq ?_
 refine Wp.region ?_
 refine LWp.o 2 (Y (bs [])) ?_
 refine LWp.o 3 (B false) ?_
 refine LWp.nil ?_
 refine Wp.seq ?_
 refine Wp.seq ?_
 refine Wp.region ?_
 refine LWp.o 7 (Y xText) ?_
 refine LWp.o 8 (I (sln xText)) ?_
 refine LWp.o 9 (B (decide ((sln xText) < 4))) ?_
 refine LWp.nil ?_
 refine Wp.c h (fun h => ?_) (fun h => ?_)
 · refine Wp.seq ?_
   refine Wp.region ?_
   refine LWp.o 2 (Y (bs [])) ?_
   refine LWp.o 3 (B false) ?_
   refine LWp.nil ?_
   cases h
   exact Wp.ret ⟨.inr rfl, _, _, rfl, rfl⟩
 refine Wp.skip ?_
 refine Wp.seq ?_
 refine Wp.region ?_
 refine LWp.o 10 (Y xText) ?_
 refine LWp.o 11 (Y xText) ?_
 refine LWp.o 12 (I (sln xText)) ?_
 refine LWp.o 13 (I (sb (sln xText) 4)) ?_
 refine LWp.p h 14 (fun x1 => (Y x1)) ?_ (fun x1 gx1 => st_pure (p_sub gx1))
 intro x1 gx1 h
 refine LWp.o 4 (Y x1) ?_
 refine LWp.nil ?_
 refine Wp.seq ?_
 refine Wp.region ?_
 refine LWp.o 16 (Y x1) ?_
 refine LWp.cl h 17 (fun v1 => (.tup [(Y v1.1), (B v1.2)])) rfl (l := [.sv (.one (.str x1))]) rfl (fun v hv => i_Sealed_t x1 v hv) (.inl rfl) ?_
 intro v1 gv1 h
 refine LWp.mt 17 15 (.tup [(Y v1.1), (B v1.2)]) ?_
 refine LWp.e 15 0 18 (Y v1.1) ?_
 refine LWp.e 15 1 19 (B v1.2) ?_
 refine LWp.o 5 (Y v1.1) ?_
 refine LWp.o 6 (B v1.2) ?_
 refine LWp.nil ?_
 refine Wp.seq ?_
 refine Wp.seq ?_
 refine Wp.j1 h [4, 26] [] (fun a => (i_Unsealed_H1 x1 a)) ?_ ?_
 · intro a h
   refine Wp.region ?_
   refine LWp.o 20 (B v1.2) ?_
   refine LWp.o 21 (B (!v1.2)) ?_
   refine LWp.o 22 (B (!v1.2)) ?_
   refine LWp.sp h 22 (fun h => ?_) (fun h => ?_)
   · refine LWp.sh 23 ?_
     refine LWp.sh 24 ?_
     refine LWp.sh 25 ?_
     refine LWp.o 26 (B true) ?_
     refine LWp.nil ?_
     cases h
     exact ⟨_, rfl, rfl, rfl⟩
   refine LWp.o 23 (Y v1.1) ?_
   refine LWp.o 24 (Y xText) ?_
   refine LWp.o 25 (B (!(seq v1.1 xText))) ?_
   refine LWp.o 26 (B (!(seq v1.1 xText))) ?_
   refine LWp.nil ?_
   cases h
   exact ⟨_, rfl, rfl, rfl⟩
 intro j1 h E hE
 refine nt_wp hE ?_
 change Wp _ _ _ (i_Unsealed_H1 x1 j1) _
 refine Wp.c h (fun h => ?_) (fun h => ?_)
 · refine Wp.seq ?_
   refine Wp.region ?_
   refine LWp.o 2 (Y (bs [])) ?_
   refine LWp.o 3 (B false) ?_
   refine LWp.nil ?_
   cases h
   exact Wp.ret ⟨.inr rfl, _, _, rfl, rfl⟩
 refine Wp.skip ?_
 refine Wp.seq ?_
 refine Wp.region ?_
 refine LWp.o 27 (Y x1) ?_
 refine LWp.o 2 (Y x1) ?_
 refine LWp.o 3 (B true) ?_
 refine LWp.nil ?_
 cases h
 exact Wp.ret ⟨.inr rfl, _, _, rfl, rfl⟩
def i_ReadVar_H1 (xText : ByteArray) (xAt : Int) (z1 : Int) (z2 : Int) : St := mkSt [(0, (Y xText)), (1, (I xAt)), (7, (I z1)), (8, (I z2))] []
def i_ReadVar_H2  : St := mkSt [] []
def i_ReadVar_H3 (xText : ByteArray) (xAt : Int) (yN1 : Int) (yK1 : Int) (z3 : Bool) : St := mkSt [(0, (Y xText)), (1, (I xAt)), (7, (I yN1)), (8, (I yK1)), (23, (B z3))] []
def i_ReadVar_H4 (xAt : Int) (yN1 : Int) (yK1 : Int) (x2 : Int) (z4 : Bool) : St := mkSt [(1, (I xAt)), (7, (I (ad yN1 x2))), (8, (I yK1)), (50, (B z4))] []
set_option maxRecDepth 100000 in
theorem i_ReadVar_t (xText : ByteArray) (xAt : Int) (r : Int × Int × Bool) (h : i_ReadVar xText xAt = some r) : Gives Try.prog 60 [.sv (Y xText), .sv (I xAt)] (.tup [(I r.1), (I r.2.1), (B r.2.2)]) (List.replicate 2 .gone) := by
 unfold i_ReadVar at h
 refine gives_of Try.func60 rfl ?_
 rw [Try.ntmps60]
 refine Wp.seq ?_
 refine Wp.region ?_
 refine LWp.o 4 (I 0) ?_
 refine LWp.o 5 (I 0) ?_
 refine LWp.o 6 (B false) ?_
 refine LWp.nil ?_
 refine Wp.seq ?_
 refine Wp.region ?_
 refine LWp.o 7 (I 0) ?_
 refine LWp.nil ?_
 refine Wp.seq ?_
 refine Wp.seq ?_
 refine Wp.region ?_
 refine LWp.o 8 (I 0) ?_
 refine LWp.nil ?_
 refine Wp.l2 h [0, 1, 7, 8] [] (fun s => (i_ReadVar_H1 xText xAt s.1 s.2)) [] [] (fun _ => i_ReadVar_H2) ⟨rfl, rfl⟩ ?_ ?_
 · rintro ⟨yN1, yK1⟩ o (h : i_ReadVar_b1 xText xAt yN1 yK1 = some o) hk1
   unfold i_ReadVar_b1 at h
   change Wp _ _ _ (i_ReadVar_H1 xText xAt yN1 yK1) _
   refine Wp.seq ?_
   refine Wp.seq ?_
   refine Wp.j1 h [0, 1, 7, 8, 23] [] (fun a => (i_ReadVar_H3 xText xAt yN1 yK1 a)) ?_ ?_
   · intro a h
     refine Wp.region ?_
     refine LWp.o 10 (I yK1) ?_
     refine LWp.o 11 (B (decide (yK1 < 5))) ?_
     refine LWp.o 12 (B (decide (yK1 < 5))) ?_
     refine LWp.sp h 12 (fun h => ?_) (fun h => ?_)
     · refine LWp.o 13 (I xAt) ?_
       refine LWp.o 14 (B (decide (xAt ≥ 0))) ?_
       refine LWp.o 15 (B (decide (xAt ≥ 0))) ?_
       refine LWp.o 16 (B (decide (xAt ≥ 0))) ?_
       refine LWp.sp h 16 (fun h => ?_) (fun h => ?_)
       · refine LWp.o 17 (I xAt) ?_
         refine LWp.o 18 (Y xText) ?_
         refine LWp.o 19 (I (sln xText)) ?_
         refine LWp.o 20 (I yK1) ?_
         refine LWp.o 21 (I (sb (sln xText) yK1)) ?_
         refine LWp.o 22 (B (decide (xAt < (sb (sln xText) yK1)))) ?_
         refine LWp.o 23 (B (decide (xAt < (sb (sln xText) yK1)))) ?_
         refine LWp.nil ?_
         cases h
         exact ⟨_, rfl, rfl, rfl⟩
       refine LWp.sh 17 ?_
       refine LWp.sh 18 ?_
       refine LWp.sh 19 ?_
       refine LWp.sh 20 ?_
       refine LWp.sh 21 ?_
       refine LWp.sh 22 ?_
       refine LWp.o 23 (B false) ?_
       refine LWp.nil ?_
       cases h
       exact ⟨_, rfl, rfl, rfl⟩
     refine LWp.sh 13 ?_
     refine LWp.sh 14 ?_
     refine LWp.o 15 (B false) ?_
     refine LWp.o 16 (B false) ?_
     refine LWp.sh 17 ?_
     refine LWp.sh 18 ?_
     refine LWp.sh 19 ?_
     refine LWp.sh 20 ?_
     refine LWp.sh 21 ?_
     refine LWp.sh 22 ?_
     refine LWp.o 23 (B false) ?_
     refine LWp.nil ?_
     cases h
     exact ⟨_, rfl, rfl, rfl⟩
   intro j1 h E hE
   refine nt_wp hE ?_
   change Wp _ _ _ (i_ReadVar_H3 xText xAt yN1 yK1 j1) _
   refine Wp.c h (fun h => ?_) (fun h => ?_)
   · refine Wp.skip ?_
     refine Wp.seq ?_
     refine Wp.block ?_
     refine Wp.seq ?_
     refine Wp.region ?_
     refine LWp.o 26 (Y xText) ?_
     refine LWp.o 27 (I xAt) ?_
     refine LWp.o 28 (I yK1) ?_
     refine LWp.o 29 (I (ad xAt yK1)) ?_
     refine LWp.p h 30 (fun x1 => (.one (.int .u8 x1))) ?_ (fun x1 gx1 => st_pure (p_sx gx1))
     intro x1 gx1 h
     refine LWp.o 31 (I (IntKind.i64.wrap x1)) ?_
     refine LWp.o 9 (I (IntKind.i64.wrap x1)) ?_
     refine LWp.nil ?_
     refine Wp.seq ?_
     refine Wp.region ?_
     refine LWp.o 32 (I yN1) ?_
     refine LWp.o 33 (I (IntKind.i64.wrap x1)) ?_
     refine LWp.o 34 (I (Int.tmod (IntKind.i64.wrap x1) 128)) ?_
     refine LWp.o 35 (I yK1) ?_
     refine LWp.o 36 (I (ml 7 yK1)) ?_
     refine LWp.p h 37 (fun x2 => (I x2)) ?_ (fun x2 gx2 => st_pure (p_shl gx2))
     intro x2 gx2 h
     refine LWp.o 38 (I (ad yN1 x2)) ?_
     refine LWp.o 7 (I (ad yN1 x2)) ?_
     refine LWp.nil ?_
     refine Wp.seq ?_
     refine Wp.seq ?_
     refine Wp.region ?_
     refine LWp.o 39 (I (IntKind.i64.wrap x1)) ?_
     refine LWp.o 40 (B (decide ((IntKind.i64.wrap x1) ≥ 128))) ?_
     refine LWp.nil ?_
     refine Wp.c h (fun h => ?_) (fun h => ?_)
     · refine Wp.exit ?_
       refine Wp.region ?_
       refine LWp.o 24 (I yK1) ?_
       refine LWp.o 25 (I (ad yK1 1)) ?_
       refine LWp.o 8 (I (ad yK1 1)) ?_
       refine LWp.nil ?_
       cases h
       exact ⟨_, rfl, rfl, rfl⟩
     refine Wp.skip ?_
     refine Wp.seq ?_
     refine Wp.seq ?_
     refine Wp.j1 h [1, 7, 8, 50] [] (fun a => (i_ReadVar_H4 xAt yN1 yK1 x2 a)) ?_ ?_
     · intro a h
       refine Wp.region ?_
       refine LWp.o 41 (I (IntKind.i64.wrap x1)) ?_
       refine LWp.o 42 (B ((IntKind.i64.wrap x1) == 0)) ?_
       refine LWp.o 43 (B ((IntKind.i64.wrap x1) == 0)) ?_
       refine LWp.sp h 43 (fun h => ?_) (fun h => ?_)
       · refine LWp.o 44 (I yK1) ?_
         refine LWp.o 45 (B (decide (yK1 > 0))) ?_
         refine LWp.o 46 (B (decide (yK1 > 0))) ?_
         refine LWp.o 47 (B (decide (yK1 > 0))) ?_
         refine LWp.sp h 47 (fun h => ?_) (fun h => ?_)
         · refine LWp.sh 48 ?_
           refine LWp.sh 49 ?_
           refine LWp.o 50 (B true) ?_
           refine LWp.nil ?_
           cases h
           exact ⟨_, rfl, rfl, rfl⟩
         refine LWp.o 48 (I (ad yN1 x2)) ?_
         refine LWp.o 49 (B (decide ((ad yN1 x2) > 1000000000))) ?_
         refine LWp.o 50 (B (decide ((ad yN1 x2) > 1000000000))) ?_
         refine LWp.nil ?_
         cases h
         exact ⟨_, rfl, rfl, rfl⟩
       refine LWp.sh 44 ?_
       refine LWp.sh 45 ?_
       refine LWp.o 46 (B false) ?_
       refine LWp.o 47 (B false) ?_
       refine LWp.o 48 (I (ad yN1 x2)) ?_
       refine LWp.o 49 (B (decide ((ad yN1 x2) > 1000000000))) ?_
       refine LWp.o 50 (B (decide ((ad yN1 x2) > 1000000000))) ?_
       refine LWp.nil ?_
       cases h
       exact ⟨_, rfl, rfl, rfl⟩
     intro j2 h E hE
     refine nt_wp hE ?_
     change Wp _ _ _ (i_ReadVar_H4 xAt yN1 yK1 x2 j2) _
     refine Wp.c h (fun h => ?_) (fun h => ?_)
     · refine Wp.seq ?_
       refine Wp.region ?_
       refine LWp.o 4 (I 0) ?_
       refine LWp.o 5 (I 0) ?_
       refine LWp.o 6 (B false) ?_
       refine LWp.nil ?_
       cases h
       replace h : some _ = some _ := hk1 _ rfl
       cases h
       exact Wp.ret ⟨.inr rfl, _, _, rfl, rfl⟩
     refine Wp.skip ?_
     refine Wp.seq ?_
     refine Wp.region ?_
     refine LWp.o 51 (I (ad yN1 x2)) ?_
     refine LWp.o 52 (I xAt) ?_
     refine LWp.o 53 (I yK1) ?_
     refine LWp.o 54 (I (ad xAt yK1)) ?_
     refine LWp.o 55 (I (ad (ad xAt yK1) 1)) ?_
     refine LWp.o 4 (I (ad yN1 x2)) ?_
     refine LWp.o 5 (I (ad (ad xAt yK1) 1)) ?_
     refine LWp.o 6 (B true) ?_
     refine LWp.nil ?_
     cases h
     replace h : some _ = some _ := hk1 _ rfl
     cases h
     exact Wp.ret ⟨.inr rfl, _, _, rfl, rfl⟩
   refine Wp.exit ?_
   cases h
   exact ⟨_, rfl, rfl, rfl⟩
 intro v1 h E hE
 refine nt_wp hE ?_
 change Wp _ _ _ i_ReadVar_H2 _
 refine Wp.seq ?_
 refine Wp.region ?_
 refine LWp.o 4 (I 0) ?_
 refine LWp.o 5 (I 0) ?_
 refine LWp.o 6 (B false) ?_
 refine LWp.nil ?_
 cases h
 exact Wp.ret ⟨.inr rfl, _, _, rfl, rfl⟩
def i_PageOk_H1 (xP : Page) (z1 : Bool) : St := mkSt [(1, (.one (.ptr (.box 1) 0 [] 0))), (33, (B z1))] [(.box 1, [.int .i64 xP.Kind, .int .i64 xP.Seq, .int .i64 xP.Tx, .int .i64 xP.Part, .int .i64 xP.Count, .str xP.Text])]
set_option maxRecDepth 100000 in
theorem i_PageOk_t (xP : Page) (r : Bool) (h : i_PageOk xP = some r) : Gives Try.prog 61 [.sv (.agg [.int .i64 xP.Kind, .int .i64 xP.Seq, .int .i64 xP.Tx, .int .i64 xP.Part, .int .i64 xP.Count, .str xP.Text])] (B r) (List.replicate 1 .gone) := by
 unfold i_PageOk at h
 refine gives_of Try.func61 rfl ?_
 rw [Try.ntmps61]
 refine Wp.seq ?_
 refine Wp.region ?_
 refine LWp.b [] 1 [.int .i64 xP.Kind, .int .i64 xP.Seq, .int .i64 xP.Tx, .int .i64 xP.Part, .int .i64 xP.Count, .str xP.Text] ?_
 refine LWp.o 2 (B false) ?_
 refine LWp.nil ?_
 refine Wp.seq ?_
 refine Wp.seq ?_
 refine Wp.j1 h [1, 33] [.box 1] (fun a => (i_PageOk_H1 xP a)) ?_ ?_
 · intro a h
   refine Wp.region ?_
   refine LWp.o 3 (.one (.ptr (.box 1) 1 [] 1)) ?_
   refine LWp.o 4 (I xP.Seq) ?_
   refine LWp.cl h 5 (fun v1 => (B v1)) rfl (l := [.sv (.one (.int .i64 xP.Seq)), .sv (.one (.int .i64 1)), .sv (.one (.int .i64 1000000000))]) rfl (fun v hv => i_in_t xP.Seq 1 1000000000 v hv) (.inl rfl) ?_
   intro v1 gv1 h
   refine LWp.o 6 (B (!v1)) ?_
   refine LWp.o 7 (B (!v1)) ?_
   refine LWp.sp h 7 (fun h => ?_) (fun h => ?_)
   · refine LWp.sh 8 ?_
     refine LWp.sh 9 ?_
     refine LWp.sh 10 ?_
     refine LWp.sh 11 ?_
     refine LWp.o 12 (B true) ?_
     refine LWp.o 13 (B true) ?_
     refine LWp.sh 14 ?_
     refine LWp.sh 15 ?_
     refine LWp.sh 16 ?_
     refine LWp.sh 17 ?_
     refine LWp.o 18 (B true) ?_
     refine LWp.o 19 (B true) ?_
     refine LWp.sh 20 ?_
     refine LWp.sh 21 ?_
     refine LWp.sh 22 ?_
     refine LWp.sh 23 ?_
     refine LWp.sh 24 ?_
     refine LWp.sh 25 ?_
     refine LWp.sh 26 ?_
     refine LWp.o 27 (B true) ?_
     refine LWp.o 28 (B true) ?_
     refine LWp.sh 29 ?_
     refine LWp.sh 30 ?_
     refine LWp.sh 31 ?_
     refine LWp.sh 32 ?_
     refine LWp.o 33 (B true) ?_
     refine LWp.nil ?_
     cases h
     exact ⟨_, rfl, rfl, rfl⟩
   refine LWp.o 8 (.one (.ptr (.box 1) 1 [] 2)) ?_
   refine LWp.o 9 (I xP.Tx) ?_
   refine LWp.cl h 10 (fun v2 => (B v2)) rfl (l := [.sv (.one (.int .i64 xP.Tx)), .sv (.one (.int .i64 1)), .sv (.one (.int .i64 1000000000))]) rfl (fun v hv => i_in_t xP.Tx 1 1000000000 v hv) (.inl rfl) ?_
   intro v2 gv2 h
   refine LWp.o 11 (B (!v2)) ?_
   refine LWp.o 12 (B (!v2)) ?_
   refine LWp.o 13 (B (!v2)) ?_
   refine LWp.sp h 13 (fun h => ?_) (fun h => ?_)
   · refine LWp.sh 14 ?_
     refine LWp.sh 15 ?_
     refine LWp.sh 16 ?_
     refine LWp.sh 17 ?_
     refine LWp.o 18 (B true) ?_
     refine LWp.o 19 (B true) ?_
     refine LWp.sh 20 ?_
     refine LWp.sh 21 ?_
     refine LWp.sh 22 ?_
     refine LWp.sh 23 ?_
     refine LWp.sh 24 ?_
     refine LWp.sh 25 ?_
     refine LWp.sh 26 ?_
     refine LWp.o 27 (B true) ?_
     refine LWp.o 28 (B true) ?_
     refine LWp.sh 29 ?_
     refine LWp.sh 30 ?_
     refine LWp.sh 31 ?_
     refine LWp.sh 32 ?_
     refine LWp.o 33 (B true) ?_
     refine LWp.nil ?_
     cases h
     exact ⟨_, rfl, rfl, rfl⟩
   refine LWp.o 14 (.one (.ptr (.box 1) 1 [] 4)) ?_
   refine LWp.o 15 (I xP.Count) ?_
   refine LWp.cl h 16 (fun v3 => (B v3)) rfl (l := [.sv (.one (.int .i64 xP.Count)), .sv (.one (.int .i64 1)), .sv (.one (.int .i64 9))]) rfl (fun v hv => i_in_t xP.Count 1 9 v hv) (.inl rfl) ?_
   intro v3 gv3 h
   refine LWp.o 17 (B (!v3)) ?_
   refine LWp.o 18 (B (!v3)) ?_
   refine LWp.o 19 (B (!v3)) ?_
   refine LWp.sp h 19 (fun h => ?_) (fun h => ?_)
   · refine LWp.sh 20 ?_
     refine LWp.sh 21 ?_
     refine LWp.sh 22 ?_
     refine LWp.sh 23 ?_
     refine LWp.sh 24 ?_
     refine LWp.sh 25 ?_
     refine LWp.sh 26 ?_
     refine LWp.o 27 (B true) ?_
     refine LWp.o 28 (B true) ?_
     refine LWp.sh 29 ?_
     refine LWp.sh 30 ?_
     refine LWp.sh 31 ?_
     refine LWp.sh 32 ?_
     refine LWp.o 33 (B true) ?_
     refine LWp.nil ?_
     cases h
     exact ⟨_, rfl, rfl, rfl⟩
   refine LWp.o 20 (.one (.ptr (.box 1) 1 [] 3)) ?_
   refine LWp.o 21 (I xP.Part) ?_
   refine LWp.o 22 (.one (.ptr (.box 1) 1 [] 4)) ?_
   refine LWp.o 23 (I xP.Count) ?_
   refine LWp.o 24 (I (sb xP.Count 1)) ?_
   refine LWp.cl h 25 (fun v4 => (B v4)) rfl (l := [.sv (.one (.int .i64 xP.Part)), .sv (.one (.int .i64 0)), .sv (.one (.int .i64 (sb xP.Count 1)))]) rfl (fun v hv => i_in_t xP.Part 0 (sb xP.Count 1) v hv) (.inl rfl) ?_
   intro v4 gv4 h
   refine LWp.o 26 (B (!v4)) ?_
   refine LWp.o 27 (B (!v4)) ?_
   refine LWp.o 28 (B (!v4)) ?_
   refine LWp.sp h 28 (fun h => ?_) (fun h => ?_)
   · refine LWp.sh 29 ?_
     refine LWp.sh 30 ?_
     refine LWp.sh 31 ?_
     refine LWp.sh 32 ?_
     refine LWp.o 33 (B true) ?_
     refine LWp.nil ?_
     cases h
     exact ⟨_, rfl, rfl, rfl⟩
   refine LWp.o 29 (.one (.ptr (.box 1) 1 [] 5)) ?_
   refine LWp.o 30 (Y xP.Text) ?_
   refine LWp.o 31 (I (sln xP.Text)) ?_
   refine LWp.o 32 (B (decide ((sln xP.Text) > 90))) ?_
   refine LWp.o 33 (B (decide ((sln xP.Text) > 90))) ?_
   refine LWp.nil ?_
   cases h
   exact ⟨_, rfl, rfl, rfl⟩
 intro j1 h E hE
 refine nt_wp hE ?_
 change Wp _ _ _ (i_PageOk_H1 xP j1) _
 refine Wp.c h (fun h => ?_) (fun h => ?_)
 · refine Wp.seq ?_
   refine Wp.region ?_
   refine LWp.o 2 (B false) ?_
   refine LWp.nil ?_
   cases h
   exact Wp.ret ⟨.inr rfl, _, _, rfl, rfl⟩
 refine Wp.skip ?_
 refine Wp.seq ?_
 refine Wp.region ?_
 refine LWp.o 34 (.one (.ptr (.box 1) 0 [] 0)) ?_
 refine LWp.o 35 (I xP.Kind) ?_
 refine LWp.o 36 (B (xP.Kind == 2)) ?_
 refine LWp.o 37 (B (xP.Kind == 2)) ?_
 refine LWp.sp h 37 (fun h => ?_) (fun h => ?_)
 · refine LWp.sh 38 ?_
   refine LWp.sh 39 ?_
   refine LWp.sh 40 ?_
   refine LWp.sh 41 ?_
   refine LWp.sh 42 ?_
   refine LWp.sh 43 ?_
   refine LWp.sh 44 ?_
   refine LWp.sh 45 ?_
   refine LWp.o 46 (B true) ?_
   refine LWp.o 2 (B true) ?_
   refine LWp.nil ?_
   cases h
   exact Wp.ret ⟨.inr rfl, _, _, rfl, rfl⟩
 refine LWp.o 38 (.one (.ptr (.box 1) 0 [] 0)) ?_
 refine LWp.o 39 (I xP.Kind) ?_
 refine LWp.o 40 (B (xP.Kind == 1)) ?_
 refine LWp.o 41 (B (xP.Kind == 1)) ?_
 refine LWp.sp h 41 (fun h => ?_) (fun h => ?_)
 · refine LWp.o 42 (.one (.ptr (.box 1) 0 [] 4)) ?_
   refine LWp.o 43 (I xP.Count) ?_
   refine LWp.o 44 (B (xP.Count == 1)) ?_
   refine LWp.o 45 (B (xP.Count == 1)) ?_
   refine LWp.o 46 (B (xP.Count == 1)) ?_
   refine LWp.o 2 (B (xP.Count == 1)) ?_
   refine LWp.nil ?_
   cases h
   exact Wp.ret ⟨.inr rfl, _, _, rfl, rfl⟩
 refine LWp.sh 42 ?_
 refine LWp.sh 43 ?_
 refine LWp.sh 44 ?_
 refine LWp.o 45 (B false) ?_
 refine LWp.o 46 (B false) ?_
 refine LWp.o 2 (B false) ?_
 refine LWp.nil ?_
 cases h
 exact Wp.ret ⟨.inr rfl, _, _, rfl, rfl⟩
end Go.TI
