/- That they compute it. No condition. -/
import Derived.Test.YthgfgehagfifdaaGreatCOD
import Derived.Test.YthgfgehagfifdaaGreatProg
import Derived.Test.YthgfgehagfifdaaGreatCOSOY
import Derived.Shelf.Abstract
import Derived.KernelRfl
import Derived.Test.YthgfgehagfifdaaGreatCOLY
namespace Go.TI
set_option maxRecDepth 100000
open Go Go.Proofs
set_option linter.unusedVariables false
set_option linter.unusedSimpArgs false
theorem mixed : Tryz.prog.follows .mixedOrders = true := rfl
theorem ints : IntsAt Tryz.prog 67 3 := intsAt_of Tryz.lays191 3

theorem w_szLeaf_t (xA : Leaf) (xLeft : Int) (r : Int) (h : w_szLeaf xA xLeft = some r) : Gives Tryz.prog 126 [.sv (.agg [.int .i64 xA.Is, .str xA.Text]), .sv (I xLeft)] (I r) (List.replicate 2 .gone) := by
 unfold w_szLeaf at h
 refine gives_of Tryz.func126 rfl ?_
 rw [Tryz.ntmps126]
 refine Wp.seq (Wp.region ?_)
 refine LWp.b [] 2 [.int .i64 xA.Is, .str xA.Text] ?_
 refine LWp.o 4 (I 0) ?_
 refine LWp.nil ?_
 refine Wp.seq (Wp.region ?_)
 refine LWp.o 5 (I xLeft) ?_
 refine LWp.o 6 (.one (.ptr (.box 2) 1 [] 1)) ?_
 refine LWp.o 7 (Y xA.Text) ?_
 refine LWp.o 8 (I (sln xA.Text)) ?_
 refine LWp.o 9 (I (sb xLeft (sln xA.Text))) ?_
 refine LWp.o 1 (I (sb xLeft (sln xA.Text))) ?_
 refine LWp.nil ?_
 refine Wp.seq ?_
 refine Wp.seq (Wp.region ?_)
 refine LWp.o 10 (I (sb xLeft (sln xA.Text))) ?_
 refine LWp.o 11 (B (decide ((sb xLeft (sln xA.Text)) < 0))) ?_
 refine LWp.nil ?_
 refine Wp.c h (fun h => ?_) (fun h => ?_)
 · refine Wp.seq (Wp.region ?_)
   refine LWp.o 4 (I (-1)) ?_
   refine LWp.nil ?_
   cases h
   exact Wp.ret ⟨.inr rfl, _, _, rfl, rfl⟩
 refine Wp.skip ?_
 refine Wp.seq (Wp.region ?_)
 refine LWp.o 12 (I (sb xLeft (sln xA.Text))) ?_
 refine LWp.o 4 (I (sb xLeft (sln xA.Text))) ?_
 refine LWp.nil ?_
 cases h
 exact Wp.ret ⟨.inr rfl, _, _, rfl, rfl⟩
def c186 (x : Leaf) : List TV := [.int .i64 x.Is, .str x.Text]
theorem k186 : ∀ x, (c186 x).length = 2 := fun _ => rfl
theorem sh186 : ∀ l, shares (encs c186 l) = encs c186 l := shares_encs (fun _ => rfl)
theorem ns186 : ∀ l, hasShareds (encs c186 l) = false := ns_encs (fun _ => rfl)
def w_szLeafS_H1 (xA : List Leaf) (z1 : Int) (z2 : Int) : St := mkSt [(0, (.one (.sl false 186 2 (encs c186 xA)))), (1, (I z1)), (5, (I z2))] []
def w_szLeafS_H2 (z3 : Int) : St := mkSt [(1, (I z3))] []
theorem w_szLeafS_t (xA : List Leaf) (xLeft : Int) (r : Int) (h : w_szLeafS xA xLeft = some r) : Gives Tryz.prog 102 [.sv (.one (.sl false 186 2 (encs c186 xA))), .sv (I xLeft)] (I r) (List.replicate 2 .gone) := by
 unfold w_szLeafS at h
 refine gives_of Tryz.func102 rfl ?_
 rw [Tryz.ntmps102]
 refine Wp.seq (Wp.region ?_)
 refine LWp.o 4 (I 0) ?_
 refine LWp.nil ?_
 refine Wp.seq (Wp.region ?_)
 refine LWp.o 6 (I xLeft) ?_
 refine LWp.o 7 (.one (.sl false 186 2 (encs c186 xA))) ?_
 refine LWp.o 8 (I (ln xA)) ?_ (st_pure (p_ln k186 xA))
 refine LWp.o 9 (I (sb xLeft (ln xA))) ?_
 refine LWp.o 1 (I (sb xLeft (ln xA))) ?_
 refine LWp.nil ?_
 refine Wp.seq ?_
 refine Wp.seq (Wp.region ?_)
 refine LWp.o 10 (I (sb xLeft (ln xA))) ?_
 refine LWp.o 11 (B (decide ((sb xLeft (ln xA)) < 0))) ?_
 refine LWp.nil ?_
 refine Wp.c h (fun h => ?_) (fun h => ?_)
 · refine Wp.seq (Wp.region ?_)
   refine LWp.o 4 (I (-1)) ?_
   refine LWp.nil ?_
   cases h
   exact Wp.ret ⟨.inr rfl, _, _, rfl, rfl⟩
 refine Wp.skip ?_
 refine Wp.seq ?_
 refine Wp.seq (Wp.region ?_)
 refine LWp.o 5 (I 0) ?_
 refine LWp.nil ?_
 refine Wp.l2 h [0, 1, 5] [] (fun s => (w_szLeafS_H1 xA s.1 s.2)) [1] [] (fun s => (w_szLeafS_H2 s)) ⟨rfl, rfl⟩ ?_ ?_
 · rintro ⟨yLeft1, yI1⟩ o (h : w_szLeafS_b1 xA yLeft1 yI1 = some o) hk1
   unfold w_szLeafS_b1 at h
   change Wp _ _ _ (w_szLeafS_H1 xA yLeft1 yI1) _
   refine Wp.seq ?_
   refine Wp.seq (Wp.region ?_)
   refine LWp.o 12 (I yI1) ?_
   refine LWp.o 13 (.one (.sl false 186 2 (encs c186 xA))) ?_
   refine LWp.o 14 (I (ln xA)) ?_ (st_pure (p_ln k186 xA))
   refine LWp.o 15 (B (decide (yI1 < (ln xA)))) ?_
   refine LWp.nil ?_
   refine Wp.c h (fun h => ?_) (fun h => ?_)
   · refine Wp.skip ?_
     refine Wp.seq ?_
     refine Wp.block ?_
     refine Wp.seq (Wp.region ?_)
     refine LWp.o 18 (.one (.sl false 186 2 (encs c186 xA))) ?_
     refine LWp.o 19 (I yI1) ?_
     refine LWp.p h 20 (fun _ => (.one (.ptr (.slot 18) 1 [0] (Int.toNat yI1 * 2 + 0)))) ?_ (fun x1 gx1 => st_pure (p_ix k186 (.slot 18) [] 0 gx1))
     intro x1 gx1 h
     refine LWp.o 21 (.agg [.int .i64 x1.Is, .str x1.Text]) ?_ (st_pure (p_le k186 (.slot 18) [0] gx1))
     refine LWp.o 22 (I yLeft1) ?_
     refine LWp.cl h 23 (fun v1 => (I v1)) rfl (l := [.sv (.agg [.int .i64 x1.Is, .str x1.Text]), .sv (.one (.int .i64 yLeft1))]) rfl (fun v hv => w_szLeaf_t x1 yLeft1 v hv) (.inl rfl) ?_
     intro v1 gv1 h
     refine LWp.o 1 (I v1) ?_
     refine LWp.nil ?_
     refine Wp.seq (Wp.region ?_)
     refine LWp.o 24 (I v1) ?_
     refine LWp.o 25 (B (decide (v1 < 0))) ?_
     refine LWp.nil ?_
     refine Wp.c h (fun h => ?_) (fun h => ?_)
     · refine Wp.seq (Wp.region ?_)
       refine LWp.o 4 (I (-1)) ?_
       refine LWp.nil ?_
       cases h
       replace h : some _ = some _ := hk1 _ rfl
       cases h
       exact Wp.ret ⟨.inr rfl, _, _, rfl, rfl⟩
     refine Wp.skip ?_
     refine Wp.region ?_
     refine LWp.o 16 (I yI1) ?_
     refine LWp.o 17 (I (ad yI1 1)) ?_
     refine LWp.o 5 (I (ad yI1 1)) ?_
     refine LWp.nil ?_
     cases h
     exact ⟨_, rfl, rfl, rfl⟩
   refine Wp.exit ?_
   cases h
   exact ⟨_, rfl, rfl, rfl⟩
 intro v2 h E hE
 refine nt_wp hE ?_
 change Wp _ _ _ (w_szLeafS_H2 v2) _
 refine Wp.seq (Wp.region ?_)
 refine LWp.o 26 (I v2) ?_
 refine LWp.o 4 (I v2) ?_
 refine LWp.nil ?_
 cases h
 exact Wp.ret ⟨.inr rfl, _, _, rfl, rfl⟩
theorem w_szBlock_t (xA : Block) (xLeft : Int) (r : Int) (h : w_szBlock xA xLeft = some r) : Gives Tryz.prog 78 [.sv (.agg [.bool xA.Bad, .int .i64 xA.Wear, .sl false 186 2 (encs c186 xA.Leaves)]), .sv (I xLeft)] (I r) (List.replicate 2 .gone) := by
 unfold w_szBlock at h
 refine gives_of Tryz.func78 rfl ?_
 rw [Tryz.ntmps78]
 refine Wp.seq (Wp.region ?_)
 refine LWp.b [] 2 [.bool xA.Bad, .int .i64 xA.Wear, .sl false 186 2 (encs c186 xA.Leaves)] ?_
 refine LWp.o 4 (I 0) ?_
 refine LWp.nil ?_
 refine Wp.seq (Wp.region ?_)
 refine LWp.o 5 (.one (.ptr (.box 2) 1 [] 2)) ?_
 refine LWp.o 6 (.one (.sl false 186 2 (encs c186 xA.Leaves))) ?_
 refine LWp.o 7 (I xLeft) ?_
 refine LWp.cl h 8 (fun v1 => (I v1)) rfl (l := [.sv (.one (.sl false 186 2 (encs c186 xA.Leaves))), .sv (.one (.int .i64 xLeft))]) rfl (fun v hv => w_szLeafS_t xA.Leaves xLeft v hv) (.inl rfl) ?_
 intro v1 gv1 h
 refine LWp.o 1 (I v1) ?_
 refine LWp.nil ?_
 refine Wp.seq ?_
 refine Wp.seq (Wp.region ?_)
 refine LWp.o 9 (I v1) ?_
 refine LWp.o 10 (B (decide (v1 < 0))) ?_
 refine LWp.nil ?_
 refine Wp.c h (fun h => ?_) (fun h => ?_)
 · refine Wp.seq (Wp.region ?_)
   refine LWp.o 4 (I (-1)) ?_
   refine LWp.nil ?_
   cases h
   exact Wp.ret ⟨.inr rfl, _, _, rfl, rfl⟩
 refine Wp.skip ?_
 refine Wp.seq (Wp.region ?_)
 refine LWp.o 11 (I v1) ?_
 refine LWp.o 4 (I v1) ?_
 refine LWp.nil ?_
 cases h
 exact Wp.ret ⟨.inr rfl, _, _, rfl, rfl⟩
def c137 (o : Bool) (x : Block) : List TV := [.bool x.Bad, .int .i64 x.Wear, .sl o 186 2 (encs c186 x.Leaves)]
theorem k137 (o : Bool) : ∀ x, (c137 o x).length = 3 := fun _ => rfl
theorem sh137 : ∀ l, shares (encs (c137 true) l) = encs (c137 false) l := shares_encs (fun x => by simp only [c137, shares, share, sh186])
theorem ns137 : ∀ l, hasShareds (encs (c137 true) l) = false := ns_encs (fun x => by simp [c137, hasShareds, hasShared, ns186])
def w_szBlockS_H1 (xA : List Block) (z1 : Int) (z2 : Int) : St := mkSt [(0, (.one (.sl false 137 3 (encs (c137 false) xA)))), (1, (I z1)), (5, (I z2))] []
def w_szBlockS_H2 (z3 : Int) : St := mkSt [(1, (I z3))] []
theorem w_szBlockS_t (xA : List Block) (xLeft : Int) (r : Int) (h : w_szBlockS xA xLeft = some r) : Gives Tryz.prog 55 [.sv (.one (.sl false 137 3 (encs (c137 false) xA))), .sv (I xLeft)] (I r) (List.replicate 2 .gone) := by
 unfold w_szBlockS at h
 refine gives_of Tryz.func55 rfl ?_
 rw [Tryz.ntmps55]
 refine Wp.seq (Wp.region ?_)
 refine LWp.o 4 (I 0) ?_
 refine LWp.nil ?_
 refine Wp.seq (Wp.region ?_)
 refine LWp.o 6 (I xLeft) ?_
 refine LWp.o 7 (.one (.sl false 137 3 (encs (c137 false) xA))) ?_
 refine LWp.o 8 (I (ln xA)) ?_ (st_pure (p_ln (k137 false) xA))
 refine LWp.o 9 (I (sb xLeft (ln xA))) ?_
 refine LWp.o 1 (I (sb xLeft (ln xA))) ?_
 refine LWp.nil ?_
 refine Wp.seq ?_
 refine Wp.seq (Wp.region ?_)
 refine LWp.o 10 (I (sb xLeft (ln xA))) ?_
 refine LWp.o 11 (B (decide ((sb xLeft (ln xA)) < 0))) ?_
 refine LWp.nil ?_
 refine Wp.c h (fun h => ?_) (fun h => ?_)
 · refine Wp.seq (Wp.region ?_)
   refine LWp.o 4 (I (-1)) ?_
   refine LWp.nil ?_
   cases h
   exact Wp.ret ⟨.inr rfl, _, _, rfl, rfl⟩
 refine Wp.skip ?_
 refine Wp.seq ?_
 refine Wp.seq (Wp.region ?_)
 refine LWp.o 5 (I 0) ?_
 refine LWp.nil ?_
 refine Wp.l2 h [0, 1, 5] [] (fun s => (w_szBlockS_H1 xA s.1 s.2)) [1] [] (fun s => (w_szBlockS_H2 s)) ⟨rfl, rfl⟩ ?_ ?_
 · rintro ⟨yLeft1, yI1⟩ o (h : w_szBlockS_b1 xA yLeft1 yI1 = some o) hk1
   unfold w_szBlockS_b1 at h
   change Wp _ _ _ (w_szBlockS_H1 xA yLeft1 yI1) _
   refine Wp.seq ?_
   refine Wp.seq (Wp.region ?_)
   refine LWp.o 12 (I yI1) ?_
   refine LWp.o 13 (.one (.sl false 137 3 (encs (c137 false) xA))) ?_
   refine LWp.o 14 (I (ln xA)) ?_ (st_pure (p_ln (k137 false) xA))
   refine LWp.o 15 (B (decide (yI1 < (ln xA)))) ?_
   refine LWp.nil ?_
   refine Wp.c h (fun h => ?_) (fun h => ?_)
   · refine Wp.skip ?_
     refine Wp.seq ?_
     refine Wp.block ?_
     refine Wp.seq (Wp.region ?_)
     refine LWp.o 18 (.one (.sl false 137 3 (encs (c137 false) xA))) ?_
     refine LWp.o 19 (I yI1) ?_
     refine LWp.p h 20 (fun _ => (.one (.ptr (.slot 18) 1 [0] (Int.toNat yI1 * 3 + 0)))) ?_ (fun x1 gx1 => st_pure (p_ix (k137 false) (.slot 18) [] 0 gx1))
     intro x1 gx1 h
     refine LWp.o 21 (.agg [.bool x1.Bad, .int .i64 x1.Wear, .sl false 186 2 (encs c186 x1.Leaves)]) ?_ (st_pure (p_le (k137 false) (.slot 18) [0] gx1))
     refine LWp.o 22 (I yLeft1) ?_
     refine LWp.cl h 23 (fun v1 => (I v1)) rfl (l := [.sv (.agg [.bool x1.Bad, .int .i64 x1.Wear, .sl false 186 2 (encs c186 x1.Leaves)]), .sv (.one (.int .i64 yLeft1))]) rfl (fun v hv => w_szBlock_t x1 yLeft1 v hv) (.inl rfl) ?_
     intro v1 gv1 h
     refine LWp.o 1 (I v1) ?_
     refine LWp.nil ?_
     refine Wp.seq (Wp.region ?_)
     refine LWp.o 24 (I v1) ?_
     refine LWp.o 25 (B (decide (v1 < 0))) ?_
     refine LWp.nil ?_
     refine Wp.c h (fun h => ?_) (fun h => ?_)
     · refine Wp.seq (Wp.region ?_)
       refine LWp.o 4 (I (-1)) ?_
       refine LWp.nil ?_
       cases h
       replace h : some _ = some _ := hk1 _ rfl
       cases h
       exact Wp.ret ⟨.inr rfl, _, _, rfl, rfl⟩
     refine Wp.skip ?_
     refine Wp.region ?_
     refine LWp.o 16 (I yI1) ?_
     refine LWp.o 17 (I (ad yI1 1)) ?_
     refine LWp.o 5 (I (ad yI1 1)) ?_
     refine LWp.nil ?_
     cases h
     exact ⟨_, rfl, rfl, rfl⟩
   refine Wp.exit ?_
   cases h
   exact ⟨_, rfl, rfl, rfl⟩
 intro v2 h E hE
 refine nt_wp hE ?_
 change Wp _ _ _ (w_szBlockS_H2 v2) _
 refine Wp.seq (Wp.region ?_)
 refine LWp.o 26 (I v2) ?_
 refine LWp.o 4 (I v2) ?_
 refine LWp.nil ?_
 cases h
 exact Wp.ret ⟨.inr rfl, _, _, rfl, rfl⟩
theorem w_szFlash_t (xA : Flash) (xLeft : Int) (r : Int) (h : w_szFlash xA xLeft = some r) : Gives Tryz.prog 31 [.sv (.agg [.sl false 137 3 (encs (c137 false) xA.Blocks)]), .sv (I xLeft)] (I r) (List.replicate 2 .gone) := by
 unfold w_szFlash at h
 refine gives_of Tryz.func31 rfl ?_
 rw [Tryz.ntmps31]
 refine Wp.seq (Wp.region ?_)
 refine LWp.b [] 2 [.sl false 137 3 (encs (c137 false) xA.Blocks)] ?_
 refine LWp.o 4 (I 0) ?_
 refine LWp.nil ?_
 refine Wp.seq (Wp.region ?_)
 refine LWp.o 5 (.one (.ptr (.box 2) 1 [] 0)) ?_
 refine LWp.o 6 (.one (.sl false 137 3 (encs (c137 false) xA.Blocks))) ?_
 refine LWp.o 7 (I xLeft) ?_
 refine LWp.cl h 8 (fun v1 => (I v1)) rfl (l := [.sv (.one (.sl false 137 3 (encs (c137 false) xA.Blocks))), .sv (.one (.int .i64 xLeft))]) rfl (fun v hv => w_szBlockS_t xA.Blocks xLeft v hv) (.inl rfl) ?_
 intro v1 gv1 h
 refine LWp.o 1 (I v1) ?_
 refine LWp.nil ?_
 refine Wp.seq ?_
 refine Wp.seq (Wp.region ?_)
 refine LWp.o 9 (I v1) ?_
 refine LWp.o 10 (B (decide (v1 < 0))) ?_
 refine LWp.nil ?_
 refine Wp.c h (fun h => ?_) (fun h => ?_)
 · refine Wp.seq (Wp.region ?_)
   refine LWp.o 4 (I (-1)) ?_
   refine LWp.nil ?_
   cases h
   exact Wp.ret ⟨.inr rfl, _, _, rfl, rfl⟩
 refine Wp.skip ?_
 refine Wp.seq (Wp.region ?_)
 refine LWp.o 11 (I v1) ?_
 refine LWp.o 4 (I v1) ?_
 refine LWp.nil ?_
 cases h
 exact Wp.ret ⟨.inr rfl, _, _, rfl, rfl⟩
def c155 (x : Vol) : List TV := [.int .i64 x.Id, .int .i64 x.Root]
theorem k155 : ∀ x, (c155 x).length = 2 := fun _ => rfl
theorem sh155 : ∀ l, shares (encs c155 l) = encs c155 l := shares_encs (fun _ => rfl)
theorem ns155 : ∀ l, hasShareds (encs c155 l) = false := ns_encs (fun _ => rfl)
theorem w_szVolS_t (xA : List Vol) (xLeft : Int) (r : Int) (h : w_szVolS xA xLeft = some r) : Gives Tryz.prog 56 [.sv (.one (.sl false 155 2 (encs c155 xA))), .sv (I xLeft)] (I r) (List.replicate 2 .gone) := by
 unfold w_szVolS at h
 refine gives_of Tryz.func56 rfl ?_
 rw [Tryz.ntmps56]
 refine Wp.seq (Wp.region ?_)
 refine LWp.o 4 (I 0) ?_
 refine LWp.nil ?_
 refine Wp.seq (Wp.region ?_)
 refine LWp.o 5 (I xLeft) ?_
 refine LWp.o 6 (.one (.sl false 155 2 (encs c155 xA))) ?_
 refine LWp.o 7 (I (ln xA)) ?_ (st_pure (p_ln k155 xA))
 refine LWp.o 8 (I (sb xLeft (ln xA))) ?_
 refine LWp.o 1 (I (sb xLeft (ln xA))) ?_
 refine LWp.nil ?_
 refine Wp.seq ?_
 refine Wp.seq (Wp.region ?_)
 refine LWp.o 9 (I (sb xLeft (ln xA))) ?_
 refine LWp.o 10 (B (decide ((sb xLeft (ln xA)) < 0))) ?_
 refine LWp.nil ?_
 refine Wp.c h (fun h => ?_) (fun h => ?_)
 · refine Wp.seq (Wp.region ?_)
   refine LWp.o 4 (I (-1)) ?_
   refine LWp.nil ?_
   cases h
   exact Wp.ret ⟨.inr rfl, _, _, rfl, rfl⟩
 refine Wp.skip ?_
 refine Wp.seq (Wp.region ?_)
 refine LWp.o 11 (I (sb xLeft (ln xA))) ?_
 refine LWp.o 4 (I (sb xLeft (ln xA))) ?_
 refine LWp.nil ?_
 cases h
 exact Wp.ret ⟨.inr rfl, _, _, rfl, rfl⟩
def c3 (x : Int) : List TV := [.int .i64 x]
theorem k3 : ∀ x, (c3 x).length = 1 := fun _ => rfl
theorem sh3 : ∀ l, shares (encs c3 l) = encs c3 l := shares_encs (fun _ => rfl)
theorem ns3 : ∀ l, hasShareds (encs c3 l) = false := ns_encs (fun _ => rfl)
theorem w_szIntS_t (xA : List Int) (xLeft : Int) (r : Int) (h : w_szIntS xA xLeft = some r) : Gives Tryz.prog 15 [.sv (.one (.sl false 3 1 (encs c3 xA))), .sv (I xLeft)] (I r) (List.replicate 2 .gone) := by
 unfold w_szIntS at h
 refine gives_of Tryz.func15 rfl ?_
 rw [Tryz.ntmps15]
 refine Wp.seq (Wp.region ?_)
 refine LWp.o 4 (I 0) ?_
 refine LWp.nil ?_
 refine Wp.seq (Wp.region ?_)
 refine LWp.o 5 (I xLeft) ?_
 refine LWp.o 6 (.one (.sl false 3 1 (encs c3 xA))) ?_
 refine LWp.o 7 (I (ln xA)) ?_ (st_pure (p_ln k3 xA))
 refine LWp.o 8 (I (sb xLeft (ln xA))) ?_
 refine LWp.o 1 (I (sb xLeft (ln xA))) ?_
 refine LWp.nil ?_
 refine Wp.seq ?_
 refine Wp.seq (Wp.region ?_)
 refine LWp.o 9 (I (sb xLeft (ln xA))) ?_
 refine LWp.o 10 (B (decide ((sb xLeft (ln xA)) < 0))) ?_
 refine LWp.nil ?_
 refine Wp.c h (fun h => ?_) (fun h => ?_)
 · refine Wp.seq (Wp.region ?_)
   refine LWp.o 4 (I (-1)) ?_
   refine LWp.nil ?_
   cases h
   exact Wp.ret ⟨.inr rfl, _, _, rfl, rfl⟩
 refine Wp.skip ?_
 refine Wp.seq (Wp.region ?_)
 refine LWp.o 11 (I (sb xLeft (ln xA))) ?_
 refine LWp.o 4 (I (sb xLeft (ln xA))) ?_
 refine LWp.nil ?_
 cases h
 exact Wp.ret ⟨.inr rfl, _, _, rfl, rfl⟩
theorem w_szKnot_t (xA : Knot) (xLeft : Int) (r : Int) (h : w_szKnot xA xLeft = some r) : Gives Tryz.prog 103 [.sv (.agg [.bool xA.Leaf, .sl false 3 1 (encs c3 xA.Kids)]), .sv (I xLeft)] (I r) (List.replicate 2 .gone) := by
 unfold w_szKnot at h
 refine gives_of Tryz.func103 rfl ?_
 rw [Tryz.ntmps103]
 refine Wp.seq (Wp.region ?_)
 refine LWp.b [] 2 [.bool xA.Leaf, .sl false 3 1 (encs c3 xA.Kids)] ?_
 refine LWp.o 4 (I 0) ?_
 refine LWp.nil ?_
 refine Wp.seq (Wp.region ?_)
 refine LWp.o 5 (.one (.ptr (.box 2) 1 [] 1)) ?_
 refine LWp.o 6 (.one (.sl false 3 1 (encs c3 xA.Kids))) ?_
 refine LWp.o 7 (I xLeft) ?_
 refine LWp.cl h 8 (fun v1 => (I v1)) rfl (l := [.sv (.one (.sl false 3 1 (encs c3 xA.Kids))), .sv (.one (.int .i64 xLeft))]) rfl (fun v hv => w_szIntS_t xA.Kids xLeft v hv) (.inl rfl) ?_
 intro v1 gv1 h
 refine LWp.o 1 (I v1) ?_
 refine LWp.nil ?_
 refine Wp.seq ?_
 refine Wp.seq (Wp.region ?_)
 refine LWp.o 9 (I v1) ?_
 refine LWp.o 10 (B (decide (v1 < 0))) ?_
 refine LWp.nil ?_
 refine Wp.c h (fun h => ?_) (fun h => ?_)
 · refine Wp.seq (Wp.region ?_)
   refine LWp.o 4 (I (-1)) ?_
   refine LWp.nil ?_
   cases h
   exact Wp.ret ⟨.inr rfl, _, _, rfl, rfl⟩
 refine Wp.skip ?_
 refine Wp.seq (Wp.region ?_)
 refine LWp.o 11 (I v1) ?_
 refine LWp.o 4 (I v1) ?_
 refine LWp.nil ?_
 cases h
 exact Wp.ret ⟨.inr rfl, _, _, rfl, rfl⟩
def c163 (o : Bool) (x : Knot) : List TV := [.bool x.Leaf, .sl o 3 1 (encs c3 x.Kids)]
theorem k163 (o : Bool) : ∀ x, (c163 o x).length = 2 := fun _ => rfl
theorem sh163 : ∀ l, shares (encs (c163 true) l) = encs (c163 false) l := shares_encs (fun x => by simp only [c163, shares, share, sh3])
theorem ns163 : ∀ l, hasShareds (encs (c163 true) l) = false := ns_encs (fun x => by simp [c163, hasShareds, hasShared, ns3])
def w_szKnotS_H1 (xA : List Knot) (z1 : Int) (z2 : Int) : St := mkSt [(0, (.one (.sl false 163 2 (encs (c163 false) xA)))), (1, (I z1)), (5, (I z2))] []
def w_szKnotS_H2 (z3 : Int) : St := mkSt [(1, (I z3))] []
theorem w_szKnotS_t (xA : List Knot) (xLeft : Int) (r : Int) (h : w_szKnotS xA xLeft = some r) : Gives Tryz.prog 79 [.sv (.one (.sl false 163 2 (encs (c163 false) xA))), .sv (I xLeft)] (I r) (List.replicate 2 .gone) := by
 unfold w_szKnotS at h
 refine gives_of Tryz.func79 rfl ?_
 rw [Tryz.ntmps79]
 refine Wp.seq (Wp.region ?_)
 refine LWp.o 4 (I 0) ?_
 refine LWp.nil ?_
 refine Wp.seq (Wp.region ?_)
 refine LWp.o 6 (I xLeft) ?_
 refine LWp.o 7 (.one (.sl false 163 2 (encs (c163 false) xA))) ?_
 refine LWp.o 8 (I (ln xA)) ?_ (st_pure (p_ln (k163 false) xA))
 refine LWp.o 9 (I (sb xLeft (ln xA))) ?_
 refine LWp.o 1 (I (sb xLeft (ln xA))) ?_
 refine LWp.nil ?_
 refine Wp.seq ?_
 refine Wp.seq (Wp.region ?_)
 refine LWp.o 10 (I (sb xLeft (ln xA))) ?_
 refine LWp.o 11 (B (decide ((sb xLeft (ln xA)) < 0))) ?_
 refine LWp.nil ?_
 refine Wp.c h (fun h => ?_) (fun h => ?_)
 · refine Wp.seq (Wp.region ?_)
   refine LWp.o 4 (I (-1)) ?_
   refine LWp.nil ?_
   cases h
   exact Wp.ret ⟨.inr rfl, _, _, rfl, rfl⟩
 refine Wp.skip ?_
 refine Wp.seq ?_
 refine Wp.seq (Wp.region ?_)
 refine LWp.o 5 (I 0) ?_
 refine LWp.nil ?_
 refine Wp.l2 h [0, 1, 5] [] (fun s => (w_szKnotS_H1 xA s.1 s.2)) [1] [] (fun s => (w_szKnotS_H2 s)) ⟨rfl, rfl⟩ ?_ ?_
 · rintro ⟨yLeft1, yI1⟩ o (h : w_szKnotS_b1 xA yLeft1 yI1 = some o) hk1
   unfold w_szKnotS_b1 at h
   change Wp _ _ _ (w_szKnotS_H1 xA yLeft1 yI1) _
   refine Wp.seq ?_
   refine Wp.seq (Wp.region ?_)
   refine LWp.o 12 (I yI1) ?_
   refine LWp.o 13 (.one (.sl false 163 2 (encs (c163 false) xA))) ?_
   refine LWp.o 14 (I (ln xA)) ?_ (st_pure (p_ln (k163 false) xA))
   refine LWp.o 15 (B (decide (yI1 < (ln xA)))) ?_
   refine LWp.nil ?_
   refine Wp.c h (fun h => ?_) (fun h => ?_)
   · refine Wp.skip ?_
     refine Wp.seq ?_
     refine Wp.block ?_
     refine Wp.seq (Wp.region ?_)
     refine LWp.o 18 (.one (.sl false 163 2 (encs (c163 false) xA))) ?_
     refine LWp.o 19 (I yI1) ?_
     refine LWp.p h 20 (fun _ => (.one (.ptr (.slot 18) 1 [0] (Int.toNat yI1 * 2 + 0)))) ?_ (fun x1 gx1 => st_pure (p_ix (k163 false) (.slot 18) [] 0 gx1))
     intro x1 gx1 h
     refine LWp.o 21 (.agg [.bool x1.Leaf, .sl false 3 1 (encs c3 x1.Kids)]) ?_ (st_pure (p_le (k163 false) (.slot 18) [0] gx1))
     refine LWp.o 22 (I yLeft1) ?_
     refine LWp.cl h 23 (fun v1 => (I v1)) rfl (l := [.sv (.agg [.bool x1.Leaf, .sl false 3 1 (encs c3 x1.Kids)]), .sv (.one (.int .i64 yLeft1))]) rfl (fun v hv => w_szKnot_t x1 yLeft1 v hv) (.inl rfl) ?_
     intro v1 gv1 h
     refine LWp.o 1 (I v1) ?_
     refine LWp.nil ?_
     refine Wp.seq (Wp.region ?_)
     refine LWp.o 24 (I v1) ?_
     refine LWp.o 25 (B (decide (v1 < 0))) ?_
     refine LWp.nil ?_
     refine Wp.c h (fun h => ?_) (fun h => ?_)
     · refine Wp.seq (Wp.region ?_)
       refine LWp.o 4 (I (-1)) ?_
       refine LWp.nil ?_
       cases h
       replace h : some _ = some _ := hk1 _ rfl
       cases h
       exact Wp.ret ⟨.inr rfl, _, _, rfl, rfl⟩
     refine Wp.skip ?_
     refine Wp.region ?_
     refine LWp.o 16 (I yI1) ?_
     refine LWp.o 17 (I (ad yI1 1)) ?_
     refine LWp.o 5 (I (ad yI1 1)) ?_
     refine LWp.nil ?_
     cases h
     exact ⟨_, rfl, rfl, rfl⟩
   refine Wp.exit ?_
   cases h
   exact ⟨_, rfl, rfl, rfl⟩
 intro v2 h E hE
 refine nt_wp hE ?_
 change Wp _ _ _ (w_szKnotS_H2 v2) _
 refine Wp.seq (Wp.region ?_)
 refine LWp.o 26 (I v2) ?_
 refine LWp.o 4 (I v2) ?_
 refine LWp.nil ?_
 cases h
 exact Wp.ret ⟨.inr rfl, _, _, rfl, rfl⟩
theorem w_szArena_t (xA : Arena) (xLeft : Int) (r : Int) (h : w_szArena xA xLeft = some r) : Gives Tryz.prog 57 [.sv (.agg [.sl false 163 2 (encs (c163 false) xA.Knots)]), .sv (I xLeft)] (I r) (List.replicate 2 .gone) := by
 unfold w_szArena at h
 refine gives_of Tryz.func57 rfl ?_
 rw [Tryz.ntmps57]
 refine Wp.seq (Wp.region ?_)
 refine LWp.b [] 2 [.sl false 163 2 (encs (c163 false) xA.Knots)] ?_
 refine LWp.o 4 (I 0) ?_
 refine LWp.nil ?_
 refine Wp.seq (Wp.region ?_)
 refine LWp.o 5 (.one (.ptr (.box 2) 1 [] 0)) ?_
 refine LWp.o 6 (.one (.sl false 163 2 (encs (c163 false) xA.Knots))) ?_
 refine LWp.o 7 (I xLeft) ?_
 refine LWp.cl h 8 (fun v1 => (I v1)) rfl (l := [.sv (.one (.sl false 163 2 (encs (c163 false) xA.Knots))), .sv (.one (.int .i64 xLeft))]) rfl (fun v hv => w_szKnotS_t xA.Knots xLeft v hv) (.inl rfl) ?_
 intro v1 gv1 h
 refine LWp.o 1 (I v1) ?_
 refine LWp.nil ?_
 refine Wp.seq ?_
 refine Wp.seq (Wp.region ?_)
 refine LWp.o 9 (I v1) ?_
 refine LWp.o 10 (B (decide (v1 < 0))) ?_
 refine LWp.nil ?_
 refine Wp.c h (fun h => ?_) (fun h => ?_)
 · refine Wp.seq (Wp.region ?_)
   refine LWp.o 4 (I (-1)) ?_
   refine LWp.nil ?_
   cases h
   exact Wp.ret ⟨.inr rfl, _, _, rfl, rfl⟩
 refine Wp.skip ?_
 refine Wp.seq (Wp.region ?_)
 refine LWp.o 11 (I v1) ?_
 refine LWp.o 4 (I v1) ?_
 refine LWp.nil ?_
 cases h
 exact Wp.ret ⟨.inr rfl, _, _, rfl, rfl⟩
theorem w_szStore_t (xA : Store) (xLeft : Int) (r : Int) (h : w_szStore xA xLeft = some r) : Gives Tryz.prog 32 [.sv (.agg [.sl false 155 2 (encs c155 xA.Vols), .sl false 163 2 (encs (c163 false) xA.Arena.Knots), .int .i64 xA.Next]), .sv (I xLeft)] (I r) (List.replicate 2 .gone) := by
 unfold w_szStore at h
 refine gives_of Tryz.func32 rfl ?_
 rw [Tryz.ntmps32]
 refine Wp.seq (Wp.region ?_)
 refine LWp.b [] 2 [.sl false 155 2 (encs c155 xA.Vols), .sl false 163 2 (encs (c163 false) xA.Arena.Knots), .int .i64 xA.Next] ?_
 refine LWp.o 4 (I 0) ?_
 refine LWp.nil ?_
 refine Wp.seq (Wp.region ?_)
 refine LWp.o 5 (.one (.ptr (.box 2) 1 [] 0)) ?_
 refine LWp.o 6 (.one (.sl false 155 2 (encs c155 xA.Vols))) ?_
 refine LWp.o 7 (I xLeft) ?_
 refine LWp.cl h 8 (fun v1 => (I v1)) rfl (l := [.sv (.one (.sl false 155 2 (encs c155 xA.Vols))), .sv (.one (.int .i64 xLeft))]) rfl (fun v hv => w_szVolS_t xA.Vols xLeft v hv) (.inl rfl) ?_
 intro v1 gv1 h
 refine LWp.o 1 (I v1) ?_
 refine LWp.nil ?_
 refine Wp.seq ?_
 refine Wp.seq (Wp.region ?_)
 refine LWp.o 9 (I v1) ?_
 refine LWp.o 10 (B (decide (v1 < 0))) ?_
 refine LWp.nil ?_
 refine Wp.c h (fun h => ?_) (fun h => ?_)
 · refine Wp.seq (Wp.region ?_)
   refine LWp.o 4 (I (-1)) ?_
   refine LWp.nil ?_
   cases h
   exact Wp.ret ⟨.inr rfl, _, _, rfl, rfl⟩
 refine Wp.skip ?_
 refine Wp.seq (Wp.region ?_)
 refine LWp.o 11 (.one (.ptr (.box 2) 1 [] 1)) ?_
 refine LWp.o 12 (.agg [.sl false 163 2 (encs (c163 false) xA.Arena.Knots)]) ?_
 refine LWp.o 13 (I v1) ?_
 refine LWp.cl h 14 (fun v2 => (I v2)) rfl (l := [.sv (.agg [.sl false 163 2 (encs (c163 false) xA.Arena.Knots)]), .sv (.one (.int .i64 v1))]) rfl (fun v hv => w_szArena_t xA.Arena v1 v hv) (.inl rfl) ?_
 intro v2 gv2 h
 refine LWp.o 1 (I v2) ?_
 refine LWp.nil ?_
 refine Wp.seq ?_
 refine Wp.seq (Wp.region ?_)
 refine LWp.o 15 (I v2) ?_
 refine LWp.o 16 (B (decide (v2 < 0))) ?_
 refine LWp.nil ?_
 refine Wp.c h (fun h => ?_) (fun h => ?_)
 · refine Wp.seq (Wp.region ?_)
   refine LWp.o 4 (I (-1)) ?_
   refine LWp.nil ?_
   cases h
   exact Wp.ret ⟨.inr rfl, _, _, rfl, rfl⟩
 refine Wp.skip ?_
 refine Wp.seq (Wp.region ?_)
 refine LWp.o 17 (I v2) ?_
 refine LWp.o 4 (I v2) ?_
 refine LWp.nil ?_
 cases h
 exact Wp.ret ⟨.inr rfl, _, _, rfl, rfl⟩
theorem w_szDevice_t (xA : Device) (xLeft : Int) (r : Int) (h : w_szDevice xA xLeft = some r) : Gives Tryz.prog 10 [.sv (.agg [.sl false 137 3 (encs (c137 false) xA.Flash.Blocks), .sl false 155 2 (encs c155 xA.Store.Vols), .sl false 163 2 (encs (c163 false) xA.Store.Arena.Knots), .int .i64 xA.Store.Next, .int .i64 xA.Seq, .int .i64 xA.Tx, .int .i64 xA.Base]), .sv (I xLeft)] (I r) (List.replicate 2 .gone) := by
 unfold w_szDevice at h
 refine gives_of Tryz.func10 rfl ?_
 rw [Tryz.ntmps10]
 refine Wp.seq (Wp.region ?_)
 refine LWp.b [] 2 [.sl false 137 3 (encs (c137 false) xA.Flash.Blocks), .sl false 155 2 (encs c155 xA.Store.Vols), .sl false 163 2 (encs (c163 false) xA.Store.Arena.Knots), .int .i64 xA.Store.Next, .int .i64 xA.Seq, .int .i64 xA.Tx, .int .i64 xA.Base] ?_
 refine LWp.o 4 (I 0) ?_
 refine LWp.nil ?_
 refine Wp.seq (Wp.region ?_)
 refine LWp.o 5 (.one (.ptr (.box 2) 1 [] 0)) ?_
 refine LWp.o 6 (.agg [.sl false 137 3 (encs (c137 false) xA.Flash.Blocks)]) ?_
 refine LWp.o 7 (I xLeft) ?_
 refine LWp.cl h 8 (fun v1 => (I v1)) rfl (l := [.sv (.agg [.sl false 137 3 (encs (c137 false) xA.Flash.Blocks)]), .sv (.one (.int .i64 xLeft))]) rfl (fun v hv => w_szFlash_t xA.Flash xLeft v hv) (.inl rfl) ?_
 intro v1 gv1 h
 refine LWp.o 1 (I v1) ?_
 refine LWp.nil ?_
 refine Wp.seq ?_
 refine Wp.seq (Wp.region ?_)
 refine LWp.o 9 (I v1) ?_
 refine LWp.o 10 (B (decide (v1 < 0))) ?_
 refine LWp.nil ?_
 refine Wp.c h (fun h => ?_) (fun h => ?_)
 · refine Wp.seq (Wp.region ?_)
   refine LWp.o 4 (I (-1)) ?_
   refine LWp.nil ?_
   cases h
   exact Wp.ret ⟨.inr rfl, _, _, rfl, rfl⟩
 refine Wp.skip ?_
 refine Wp.seq (Wp.region ?_)
 refine LWp.o 11 (.one (.ptr (.box 2) 1 [] 1)) ?_
 refine LWp.o 12 (.agg [.sl false 155 2 (encs c155 xA.Store.Vols), .sl false 163 2 (encs (c163 false) xA.Store.Arena.Knots), .int .i64 xA.Store.Next]) ?_
 refine LWp.o 13 (I v1) ?_
 refine LWp.cl h 14 (fun v2 => (I v2)) rfl (l := [.sv (.agg [.sl false 155 2 (encs c155 xA.Store.Vols), .sl false 163 2 (encs (c163 false) xA.Store.Arena.Knots), .int .i64 xA.Store.Next]), .sv (.one (.int .i64 v1))]) rfl (fun v hv => w_szStore_t xA.Store v1 v hv) (.inl rfl) ?_
 intro v2 gv2 h
 refine LWp.o 1 (I v2) ?_
 refine LWp.nil ?_
 refine Wp.seq ?_
 refine Wp.seq (Wp.region ?_)
 refine LWp.o 15 (I v2) ?_
 refine LWp.o 16 (B (decide (v2 < 0))) ?_
 refine LWp.nil ?_
 refine Wp.c h (fun h => ?_) (fun h => ?_)
 · refine Wp.seq (Wp.region ?_)
   refine LWp.o 4 (I (-1)) ?_
   refine LWp.nil ?_
   cases h
   exact Wp.ret ⟨.inr rfl, _, _, rfl, rfl⟩
 refine Wp.skip ?_
 refine Wp.seq (Wp.region ?_)
 refine LWp.o 17 (I v2) ?_
 refine LWp.o 4 (I v2) ?_
 refine LWp.nil ?_
 cases h
 exact Wp.ret ⟨.inr rfl, _, _, rfl, rfl⟩
theorem w_toLeaf_t (xA : Leaf) (r : Leaf) (h : w_toLeaf xA = some r) : Gives Tryz.prog 129 [.sv (.agg [.int .i64 xA.Is, .str xA.Text])] (.agg [.int .i64 r.Is, .str r.Text]) (List.replicate 1 .gone) := by
 unfold w_toLeaf at h
 refine gives_of Tryz.func129 rfl ?_
 rw [Tryz.ntmps129]
 refine Wp.seq (Wp.region ?_)
 refine LWp.b [] 1 [.int .i64 xA.Is, .str xA.Text] ?_
 refine LWp.b [] 2 [.int .i64 0, .str (bs [])] ?_
 refine LWp.nil ?_
 refine Wp.seq (Wp.region ?_)
 refine LWp.b [] 3 [.int .i64 0, .str (bs [])] ?_
 refine LWp.nil ?_
 refine Wp.seq (Wp.region ?_)
 refine LWp.o 4 (.one (.ptr (.box 1) 1 [] 0)) ?_
 refine LWp.o 5 (I xA.Is) ?_
 refine LWp.o 6 (.one (.ptr (.box 3) 1 [] 0)) ?_
 refine LWp.s [] (.box 3) [.int .i64 xA.Is, .str (bs [])] ?_
 refine LWp.nil ?_
 refine Wp.seq (Wp.region ?_)
 refine LWp.o 7 (.one (.ptr (.box 1) 1 [] 1)) ?_
 refine LWp.o 8 (Y xA.Text) ?_
 refine LWp.o 9 (.one (.ptr (.box 3) 1 [] 1)) ?_
 refine LWp.s [] (.box 3) [.int .i64 xA.Is, .str xA.Text] ?_
 refine LWp.nil ?_
 refine Wp.seq (Wp.region ?_)
 refine LWp.o 10 (.agg [.int .i64 xA.Is, .str xA.Text]) ?_
 refine LWp.s [] (.box 2) [.int .i64 xA.Is, .str xA.Text] ?_
 refine LWp.nil ?_
 cases h
 exact Wp.ret ⟨.inr rfl, _, _, rfl, rfl⟩
def c141 (x : Leaf) : List TV := [.int .i64 x.Is, .str x.Text]
theorem k141 : ∀ x, (c141 x).length = 2 := fun _ => rfl
theorem sh141 : ∀ l, shares (encs c141 l) = encs c141 l := shares_encs (fun _ => rfl)
theorem ns141 : ∀ l, hasShareds (encs c141 l) = false := ns_encs (fun _ => rfl)
def w_toLeafS_H1 (xA : List Leaf) (z1 : List Leaf) (z2 : Int) : St := mkSt [(0, (.one (.sl false 186 2 (encs c186 xA)))), (3, (.one (.sl true 141 2 (encs c141 z1)))), (4, (I z2))] []
def w_toLeafS_H2 (z3 : List Leaf) : St := mkSt [(3, (.one (.sl true 141 2 (encs c141 z3))))] []
theorem w_toLeafS_t (xA : List Leaf) (r : List Leaf) (h : w_toLeafS xA = some r) : Gives Tryz.prog 112 [.sv (.one (.sl false 186 2 (encs c186 xA)))] (.one (.sl true 141 2 (encs c141 r))) (List.replicate 1 .gone) := by
 unfold w_toLeafS at h
 refine gives_of Tryz.func112 rfl ?_
 rw [Tryz.ntmps112]
 refine Wp.seq (Wp.region ?_)
 refine LWp.o 2 (.one (.sl true 141 2 (encs c141 []))) ?_
 refine LWp.nil ?_
 refine Wp.seq (Wp.region ?_)
 refine LWp.o 5 (.one (.sl false 186 2 (encs c186 xA))) ?_
 refine LWp.o 6 (I (ln xA)) ?_ (st_pure (p_ln k186 xA))
 refine LWp.p h 7 (fun q1 => (.one (.sl true 141 2 (encs c141 q1)))) ?_ (fun q1 gq1 => s_mk (f := c141) (Leaf.mk 0 (bs [])) gq1)
 intro q1 gq1 h
 refine LWp.m true [(.slot 7, [.junk])] 3 (.one (.sl true 141 2 (encs c141 q1))) ?_
 refine LWp.nil ?_
 refine Wp.seq ?_
 refine Wp.seq (Wp.region ?_)
 refine LWp.o 4 (I 0) ?_
 refine LWp.nil ?_
 refine Wp.l1 h [0, 3, 4] [] (fun s => (w_toLeafS_H1 xA s.1 s.2)) [3] [] (fun s => (w_toLeafS_H2 s)) ⟨rfl, rfl⟩ ?_ ?_
 · rintro ⟨yOut1, yI1⟩ o (h : w_toLeafS_b1 xA yOut1 yI1 = some o)
   unfold w_toLeafS_b1 at h
   change Wp _ _ _ (w_toLeafS_H1 xA yOut1 yI1) _
   refine Wp.seq ?_
   refine Wp.seq (Wp.region ?_)
   refine LWp.o 8 (I yI1) ?_
   refine LWp.o 9 (.one (.sl false 186 2 (encs c186 xA))) ?_
   refine LWp.o 10 (I (ln xA)) ?_ (st_pure (p_ln k186 xA))
   refine LWp.o 11 (B (decide (yI1 < (ln xA)))) ?_
   refine LWp.nil ?_
   refine Wp.c h (fun h => ?_) (fun h => ?_)
   · refine Wp.skip ?_
     refine Wp.seq ?_
     refine Wp.block ?_
     refine Wp.region ?_
     refine LWp.o 14 (.one (.view (.slot 3) 0 [] 0)) ?_
     refine LWp.o 15 (I yI1) ?_
     refine LWp.o 16 (.one (.sl false 186 2 (encs c186 xA))) ?_
     refine LWp.o 17 (I yI1) ?_
     refine LWp.p h 18 (fun _ => (.one (.ptr (.slot 16) 1 [0] (Int.toNat yI1 * 2 + 0)))) ?_ (fun x1 gx1 => st_pure (p_ix k186 (.slot 16) [] 0 gx1))
     intro x1 gx1 h
     refine LWp.o 19 (.agg [.int .i64 x1.Is, .str x1.Text]) ?_ (st_pure (p_le k186 (.slot 16) [0] gx1))
     refine LWp.cl h 20 (fun v1 => (.agg [.int .i64 v1.Is, .str v1.Text])) rfl (l := [.sv (.agg [.int .i64 x1.Is, .str x1.Text])]) rfl (fun v hv => w_toLeaf_t x1 v hv) (.inl rfl) ?_
     intro v1 gv1 h
     refine LWp.p h 21 (fun _ => (.one (.ptr (.slot 3) 0 [0] (Int.toNat yI1 * 2 + 0)))) ?_ (fun x2 gx2 => st_pure (p_ix k141 (.slot 3) [] 0 gx2))
     intro x2 gx2 h
     refine LWp.sb [] (.slot 3) [.sl true 141 2 (encs c141 (si yOut1 yI1 v1))] ?_ (s_st [] (q := [0]) (cs := [.sl true 141 2 (encs c141 yOut1)]) (xs := [.int .i64 v1.Is, .str v1.Text]) (At.one (setRow_gi k141 (k := 0) (z := v1) gx2 rfl rfl)) (fit_gi k141 (k := 0) gx2 rfl))
     refine LWp.nil ?_
     refine Wp.region ?_
     refine LWp.o 12 (I yI1) ?_
     refine LWp.o 13 (I (ad yI1 1)) ?_
     refine LWp.o 4 (I (ad yI1 1)) ?_
     refine LWp.nil ?_
     cases h
     exact ⟨_, rfl, rfl, rfl⟩
   refine Wp.exit ?_
   cases h
   exact ⟨_, rfl, rfl, rfl⟩
 intro v2 h E hE
 refine nt_wp hE ?_
 change Wp _ _ _ (w_toLeafS_H2 v2) _
 refine Wp.seq (Wp.region ?_)
 refine LWp.o 22 (.one (.view (.slot 3) 0 [] 0)) ?_
 refine LWp.m true [(.slot 3, [.junk])] 2 (.one (.sl true 141 2 (encs c141 v2))) ?_
 refine LWp.nil ?_
 cases h
 exact Wp.ret ⟨.inr rfl, _, _, rfl, rfl⟩
theorem w_toBlock_t (xA : Block) (r : Block) (h : w_toBlock xA = some r) : Gives Tryz.prog 90 [.sv (.agg [.bool xA.Bad, .int .i64 xA.Wear, .sl false 186 2 (encs c186 xA.Leaves)])] (.agg [.bool r.Bad, .int .i64 r.Wear, .sl true 141 2 (encs c141 r.Leaves)]) (List.replicate 1 .gone) := by
 unfold w_toBlock at h
 refine gives_of Tryz.func90 rfl ?_
 rw [Tryz.ntmps90]
 refine Wp.seq (Wp.region ?_)
 refine LWp.b [] 1 [.bool xA.Bad, .int .i64 xA.Wear, .sl false 186 2 (encs c186 xA.Leaves)] ?_
 refine LWp.b [] 2 [.bool false, .int .i64 0, .sl true 141 2 (encs c141 [])] ?_
 refine LWp.nil ?_
 refine Wp.seq (Wp.region ?_)
 refine LWp.b [] 3 [.bool false, .int .i64 0, .sl true 141 2 (encs c141 [])] ?_
 refine LWp.nil ?_
 refine Wp.seq (Wp.region ?_)
 refine LWp.o 4 (.one (.ptr (.box 1) 1 [] 0)) ?_
 refine LWp.o 5 (B xA.Bad) ?_
 refine LWp.o 6 (.one (.ptr (.box 3) 1 [] 0)) ?_
 refine LWp.s [] (.box 3) [.bool xA.Bad, .int .i64 0, .sl true 141 2 (encs c141 [])] ?_
 refine LWp.nil ?_
 refine Wp.seq (Wp.region ?_)
 refine LWp.o 7 (.one (.ptr (.box 1) 1 [] 1)) ?_
 refine LWp.o 8 (I xA.Wear) ?_
 refine LWp.o 9 (.one (.ptr (.box 3) 1 [] 1)) ?_
 refine LWp.s [] (.box 3) [.bool xA.Bad, .int .i64 xA.Wear, .sl true 141 2 (encs c141 [])] ?_
 refine LWp.nil ?_
 refine Wp.seq (Wp.region ?_)
 refine LWp.o 10 (.one (.ptr (.box 1) 1 [] 2)) ?_
 refine LWp.o 11 (.one (.sl false 186 2 (encs c186 xA.Leaves))) ?_
 refine LWp.cl h 12 (fun v1 => (.one (.sl true 141 2 (encs c141 v1)))) rfl (l := [.sv (.one (.sl false 186 2 (encs c186 xA.Leaves)))]) rfl (fun v hv => w_toLeafS_t xA.Leaves v hv) (.inl rfl) ?_
 intro v1 gv1 h
 refine LWp.o 13 (.one (.ptr (.box 3) 1 [] 2)) ?_
 refine LWp.sb [(.slot 12, [.junk])] (.box 3) [.bool xA.Bad, .int .i64 xA.Wear, .sl true 141 2 (encs c141 v1)] ?_
 refine LWp.nil ?_
 refine Wp.seq (Wp.region ?_)
 refine LWp.o 14 (.agg [.bool xA.Bad, .int .i64 xA.Wear, .view (.box 3) 2 [] 2]) ?_
 refine LWp.sb [(.box 3, [.bool xA.Bad, .int .i64 xA.Wear, .junk])] (.box 2) [.bool xA.Bad, .int .i64 xA.Wear, .sl true 141 2 (encs c141 v1)] ?_
 refine LWp.nil ?_
 cases h
 exact Wp.ret ⟨.inr rfl, _, _, rfl, rfl⟩
def c113 (o : Bool) (x : Block) : List TV := [.bool x.Bad, .int .i64 x.Wear, .sl o 141 2 (encs c141 x.Leaves)]
theorem k113 (o : Bool) : ∀ x, (c113 o x).length = 3 := fun _ => rfl
theorem sh113 : ∀ l, shares (encs (c113 true) l) = encs (c113 false) l := shares_encs (fun x => by simp only [c113, shares, share, sh141])
theorem ns113 : ∀ l, hasShareds (encs (c113 true) l) = false := ns_encs (fun x => by simp [c113, hasShareds, hasShared, ns141])
def w_toBlockS_H1 (xA : List Block) (z1 : List Block) (z2 : Int) : St := mkSt [(0, (.one (.sl false 137 3 (encs (c137 false) xA)))), (3, (.one (.sl true 113 3 (encs (c113 true) z1)))), (4, (I z2))] []
def w_toBlockS_H2 (z3 : List Block) : St := mkSt [(3, (.one (.sl true 113 3 (encs (c113 true) z3))))] []
theorem w_toBlockS_t (xA : List Block) (r : List Block) (h : w_toBlockS xA = some r) : Gives Tryz.prog 64 [.sv (.one (.sl false 137 3 (encs (c137 false) xA)))] (.one (.sl true 113 3 (encs (c113 true) r))) (List.replicate 1 .gone) := by
 unfold w_toBlockS at h
 refine gives_of Tryz.func64 rfl ?_
 rw [Tryz.ntmps64]
 refine Wp.seq (Wp.region ?_)
 refine LWp.o 2 (.one (.sl true 113 3 (encs (c113 true) []))) ?_
 refine LWp.nil ?_
 refine Wp.seq (Wp.region ?_)
 refine LWp.o 5 (.one (.sl false 137 3 (encs (c137 false) xA))) ?_
 refine LWp.o 6 (I (ln xA)) ?_ (st_pure (p_ln (k137 false) xA))
 refine LWp.p h 7 (fun q1 => (.one (.sl true 113 3 (encs (c113 true) q1)))) ?_ (fun q1 gq1 => s_mk (f := (c113 true)) (Block.mk false 0 []) gq1)
 intro q1 gq1 h
 refine LWp.m true [(.slot 7, [.junk])] 3 (.one (.sl true 113 3 (encs (c113 true) q1))) ?_
 refine LWp.nil ?_
 refine Wp.seq ?_
 refine Wp.seq (Wp.region ?_)
 refine LWp.o 4 (I 0) ?_
 refine LWp.nil ?_
 refine Wp.l1 h [0, 3, 4] [] (fun s => (w_toBlockS_H1 xA s.1 s.2)) [3] [] (fun s => (w_toBlockS_H2 s)) ⟨rfl, rfl⟩ ?_ ?_
 · rintro ⟨yOut1, yI1⟩ o (h : w_toBlockS_b1 xA yOut1 yI1 = some o)
   unfold w_toBlockS_b1 at h
   change Wp _ _ _ (w_toBlockS_H1 xA yOut1 yI1) _
   refine Wp.seq ?_
   refine Wp.seq (Wp.region ?_)
   refine LWp.o 8 (I yI1) ?_
   refine LWp.o 9 (.one (.sl false 137 3 (encs (c137 false) xA))) ?_
   refine LWp.o 10 (I (ln xA)) ?_ (st_pure (p_ln (k137 false) xA))
   refine LWp.o 11 (B (decide (yI1 < (ln xA)))) ?_
   refine LWp.nil ?_
   refine Wp.c h (fun h => ?_) (fun h => ?_)
   · refine Wp.skip ?_
     refine Wp.seq ?_
     refine Wp.block ?_
     refine Wp.region ?_
     refine LWp.o 14 (.one (.view (.slot 3) 0 [] 0)) ?_
     refine LWp.o 15 (I yI1) ?_
     refine LWp.o 16 (.one (.sl false 137 3 (encs (c137 false) xA))) ?_
     refine LWp.o 17 (I yI1) ?_
     refine LWp.p h 18 (fun _ => (.one (.ptr (.slot 16) 1 [0] (Int.toNat yI1 * 3 + 0)))) ?_ (fun x1 gx1 => st_pure (p_ix (k137 false) (.slot 16) [] 0 gx1))
     intro x1 gx1 h
     refine LWp.o 19 (.agg [.bool x1.Bad, .int .i64 x1.Wear, .sl false 186 2 (encs c186 x1.Leaves)]) ?_ (st_pure (p_le (k137 false) (.slot 16) [0] gx1))
     refine LWp.cl h 20 (fun v1 => (.agg [.bool v1.Bad, .int .i64 v1.Wear, .sl true 141 2 (encs c141 v1.Leaves)])) rfl (l := [.sv (.agg [.bool x1.Bad, .int .i64 x1.Wear, .sl false 186 2 (encs c186 x1.Leaves)])]) rfl (fun v hv => w_toBlock_t x1 v hv) (.inl rfl) ?_
     intro v1 gv1 h
     refine LWp.p h 21 (fun _ => (.one (.ptr (.slot 3) 0 [0] (Int.toNat yI1 * 3 + 0)))) ?_ (fun x2 gx2 => st_pure (p_ix (k113 true) (.slot 3) [] 0 gx2))
     intro x2 gx2 h
     refine LWp.sb [(.slot 20, [.bool v1.Bad, .int .i64 v1.Wear, .junk])] (.slot 3) [.sl true 113 3 (encs (c113 true) (si yOut1 yI1 v1))] ?_ (s_st [(.slot 20, [.bool v1.Bad, .int .i64 v1.Wear, .junk])] (q := [0]) (cs := [.sl true 113 3 (encs (c113 true) yOut1)]) (xs := [.bool v1.Bad, .int .i64 v1.Wear, .sl true 141 2 (encs c141 v1.Leaves)]) (At.one (setRow_gi (k113 true) (k := 0) (z := v1) gx2 rfl rfl)) (fit_gi (k113 true) (k := 0) gx2 rfl))
     refine LWp.nil ?_
     refine Wp.region ?_
     refine LWp.o 12 (I yI1) ?_
     refine LWp.o 13 (I (ad yI1 1)) ?_
     refine LWp.o 4 (I (ad yI1 1)) ?_
     refine LWp.nil ?_
     cases h
     exact ⟨_, rfl, rfl, rfl⟩
   refine Wp.exit ?_
   cases h
   exact ⟨_, rfl, rfl, rfl⟩
 intro v2 h E hE
 refine nt_wp hE ?_
 change Wp _ _ _ (w_toBlockS_H2 v2) _
 refine Wp.seq (Wp.region ?_)
 refine LWp.o 22 (.one (.view (.slot 3) 0 [] 0)) ?_
 refine LWp.m true [(.slot 3, [.junk])] 2 (.one (.sl true 113 3 (encs (c113 true) v2))) ?_
 refine LWp.nil ?_
 cases h
 exact Wp.ret ⟨.inr rfl, _, _, rfl, rfl⟩
theorem w_toFlash_t (xA : Flash) (r : Flash) (h : w_toFlash xA = some r) : Gives Tryz.prog 38 [.sv (.agg [.sl false 137 3 (encs (c137 false) xA.Blocks)])] (.agg [.sl true 113 3 (encs (c113 true) r.Blocks)]) (List.replicate 1 .gone) := by
 unfold w_toFlash at h
 refine gives_of Tryz.func38 rfl ?_
 rw [Tryz.ntmps38]
 refine Wp.seq (Wp.region ?_)
 refine LWp.b [] 1 [.sl false 137 3 (encs (c137 false) xA.Blocks)] ?_
 refine LWp.b [] 2 [.sl true 113 3 (encs (c113 true) [])] ?_
 refine LWp.nil ?_
 refine Wp.seq (Wp.region ?_)
 refine LWp.b [] 3 [.sl true 113 3 (encs (c113 true) [])] ?_
 refine LWp.nil ?_
 refine Wp.seq (Wp.region ?_)
 refine LWp.o 4 (.one (.ptr (.box 1) 1 [] 0)) ?_
 refine LWp.o 5 (.one (.sl false 137 3 (encs (c137 false) xA.Blocks))) ?_
 refine LWp.cl h 6 (fun v1 => (.one (.sl true 113 3 (encs (c113 true) v1)))) rfl (l := [.sv (.one (.sl false 137 3 (encs (c137 false) xA.Blocks)))]) rfl (fun v hv => w_toBlockS_t xA.Blocks v hv) (.inl rfl) ?_
 intro v1 gv1 h
 refine LWp.o 7 (.one (.ptr (.box 3) 1 [] 0)) ?_
 refine LWp.sb [(.slot 6, [.junk])] (.box 3) [.sl true 113 3 (encs (c113 true) v1)] ?_
 refine LWp.nil ?_
 refine Wp.seq (Wp.region ?_)
 refine LWp.o 8 (.agg [.view (.box 3) 2 [] 0]) ?_
 refine LWp.sb [(.box 3, [.junk])] (.box 2) [.sl true 113 3 (encs (c113 true) v1)] ?_
 refine LWp.nil ?_
 cases h
 exact Wp.ret ⟨.inr rfl, _, _, rfl, rfl⟩
theorem w_toVol_t (xA : Vol) (r : Vol) (h : w_toVol xA = some r) : Gives Tryz.prog 91 [.sv (.agg [.int .i64 xA.Id, .int .i64 xA.Root])] (.agg [.int .i64 r.Id, .int .i64 r.Root]) (List.replicate 1 .gone) := by
 unfold w_toVol at h
 refine gives_of Tryz.func91 rfl ?_
 rw [Tryz.ntmps91]
 refine Wp.seq (Wp.region ?_)
 refine LWp.b [] 1 [.int .i64 xA.Id, .int .i64 xA.Root] ?_
 refine LWp.b [] 2 [.int .i64 0, .int .i64 0] ?_
 refine LWp.nil ?_
 refine Wp.seq (Wp.region ?_)
 refine LWp.b [] 3 [.int .i64 0, .int .i64 0] ?_
 refine LWp.nil ?_
 refine Wp.seq (Wp.region ?_)
 refine LWp.o 4 (.one (.ptr (.box 1) 1 [] 0)) ?_
 refine LWp.o 5 (I xA.Id) ?_
 refine LWp.o 6 (.one (.ptr (.box 3) 1 [] 0)) ?_
 refine LWp.s [] (.box 3) [.int .i64 xA.Id, .int .i64 0] ?_
 refine LWp.nil ?_
 refine Wp.seq (Wp.region ?_)
 refine LWp.o 7 (.one (.ptr (.box 1) 1 [] 1)) ?_
 refine LWp.o 8 (I xA.Root) ?_
 refine LWp.o 9 (.one (.ptr (.box 3) 1 [] 1)) ?_
 refine LWp.s [] (.box 3) [.int .i64 xA.Id, .int .i64 xA.Root] ?_
 refine LWp.nil ?_
 refine Wp.seq (Wp.region ?_)
 refine LWp.o 10 (.agg [.int .i64 xA.Id, .int .i64 xA.Root]) ?_
 refine LWp.s [] (.box 2) [.int .i64 xA.Id, .int .i64 xA.Root] ?_
 refine LWp.nil ?_
 cases h
 exact Wp.ret ⟨.inr rfl, _, _, rfl, rfl⟩
def c87 (x : Vol) : List TV := [.int .i64 x.Id, .int .i64 x.Root]
theorem k87 : ∀ x, (c87 x).length = 2 := fun _ => rfl
theorem sh87 : ∀ l, shares (encs c87 l) = encs c87 l := shares_encs (fun _ => rfl)
theorem ns87 : ∀ l, hasShareds (encs c87 l) = false := ns_encs (fun _ => rfl)
def w_toVolS_H1 (xA : List Vol) (z1 : List Vol) (z2 : Int) : St := mkSt [(0, (.one (.sl false 155 2 (encs c155 xA)))), (3, (.one (.sl true 87 2 (encs c87 z1)))), (4, (I z2))] []
def w_toVolS_H2 (z3 : List Vol) : St := mkSt [(3, (.one (.sl true 87 2 (encs c87 z3))))] []
theorem w_toVolS_t (xA : List Vol) (r : List Vol) (h : w_toVolS xA = some r) : Gives Tryz.prog 65 [.sv (.one (.sl false 155 2 (encs c155 xA)))] (.one (.sl true 87 2 (encs c87 r))) (List.replicate 1 .gone) := by
 unfold w_toVolS at h
 refine gives_of Tryz.func65 rfl ?_
 rw [Tryz.ntmps65]
 refine Wp.seq (Wp.region ?_)
 refine LWp.o 2 (.one (.sl true 87 2 (encs c87 []))) ?_
 refine LWp.nil ?_
 refine Wp.seq (Wp.region ?_)
 refine LWp.o 5 (.one (.sl false 155 2 (encs c155 xA))) ?_
 refine LWp.o 6 (I (ln xA)) ?_ (st_pure (p_ln k155 xA))
 refine LWp.p h 7 (fun q1 => (.one (.sl true 87 2 (encs c87 q1)))) ?_ (fun q1 gq1 => s_mk (f := c87) (Vol.mk 0 0) gq1)
 intro q1 gq1 h
 refine LWp.m true [(.slot 7, [.junk])] 3 (.one (.sl true 87 2 (encs c87 q1))) ?_
 refine LWp.nil ?_
 refine Wp.seq ?_
 refine Wp.seq (Wp.region ?_)
 refine LWp.o 4 (I 0) ?_
 refine LWp.nil ?_
 refine Wp.l1 h [0, 3, 4] [] (fun s => (w_toVolS_H1 xA s.1 s.2)) [3] [] (fun s => (w_toVolS_H2 s)) ⟨rfl, rfl⟩ ?_ ?_
 · rintro ⟨yOut1, yI1⟩ o (h : w_toVolS_b1 xA yOut1 yI1 = some o)
   unfold w_toVolS_b1 at h
   change Wp _ _ _ (w_toVolS_H1 xA yOut1 yI1) _
   refine Wp.seq ?_
   refine Wp.seq (Wp.region ?_)
   refine LWp.o 8 (I yI1) ?_
   refine LWp.o 9 (.one (.sl false 155 2 (encs c155 xA))) ?_
   refine LWp.o 10 (I (ln xA)) ?_ (st_pure (p_ln k155 xA))
   refine LWp.o 11 (B (decide (yI1 < (ln xA)))) ?_
   refine LWp.nil ?_
   refine Wp.c h (fun h => ?_) (fun h => ?_)
   · refine Wp.skip ?_
     refine Wp.seq ?_
     refine Wp.block ?_
     refine Wp.region ?_
     refine LWp.o 14 (.one (.view (.slot 3) 0 [] 0)) ?_
     refine LWp.o 15 (I yI1) ?_
     refine LWp.o 16 (.one (.sl false 155 2 (encs c155 xA))) ?_
     refine LWp.o 17 (I yI1) ?_
     refine LWp.p h 18 (fun _ => (.one (.ptr (.slot 16) 1 [0] (Int.toNat yI1 * 2 + 0)))) ?_ (fun x1 gx1 => st_pure (p_ix k155 (.slot 16) [] 0 gx1))
     intro x1 gx1 h
     refine LWp.o 19 (.agg [.int .i64 x1.Id, .int .i64 x1.Root]) ?_ (st_pure (p_le k155 (.slot 16) [0] gx1))
     refine LWp.cl h 20 (fun v1 => (.agg [.int .i64 v1.Id, .int .i64 v1.Root])) rfl (l := [.sv (.agg [.int .i64 x1.Id, .int .i64 x1.Root])]) rfl (fun v hv => w_toVol_t x1 v hv) (.inl rfl) ?_
     intro v1 gv1 h
     refine LWp.p h 21 (fun _ => (.one (.ptr (.slot 3) 0 [0] (Int.toNat yI1 * 2 + 0)))) ?_ (fun x2 gx2 => st_pure (p_ix k87 (.slot 3) [] 0 gx2))
     intro x2 gx2 h
     refine LWp.sb [] (.slot 3) [.sl true 87 2 (encs c87 (si yOut1 yI1 v1))] ?_ (s_st [] (q := [0]) (cs := [.sl true 87 2 (encs c87 yOut1)]) (xs := [.int .i64 v1.Id, .int .i64 v1.Root]) (At.one (setRow_gi k87 (k := 0) (z := v1) gx2 rfl rfl)) (fit_gi k87 (k := 0) gx2 rfl))
     refine LWp.nil ?_
     refine Wp.region ?_
     refine LWp.o 12 (I yI1) ?_
     refine LWp.o 13 (I (ad yI1 1)) ?_
     refine LWp.o 4 (I (ad yI1 1)) ?_
     refine LWp.nil ?_
     cases h
     exact ⟨_, rfl, rfl, rfl⟩
   refine Wp.exit ?_
   cases h
   exact ⟨_, rfl, rfl, rfl⟩
 intro v2 h E hE
 refine nt_wp hE ?_
 change Wp _ _ _ (w_toVolS_H2 v2) _
 refine Wp.seq (Wp.region ?_)
 refine LWp.o 22 (.one (.view (.slot 3) 0 [] 0)) ?_
 refine LWp.m true [(.slot 3, [.junk])] 2 (.one (.sl true 87 2 (encs c87 v2))) ?_
 refine LWp.nil ?_
 cases h
 exact Wp.ret ⟨.inr rfl, _, _, rfl, rfl⟩
def w_toIntS_H1 (xA : List Int) (z1 : List Int) (z2 : Int) : St := mkSt [(0, (.one (.sl false 3 1 (encs c3 xA)))), (3, (.one (.sl true 3 1 (encs c3 z1)))), (4, (I z2))] []
def w_toIntS_H2 (z3 : List Int) : St := mkSt [(3, (.one (.sl true 3 1 (encs c3 z3))))] []
theorem w_toIntS_t (xA : List Int) (r : List Int) (h : w_toIntS xA = some r) : Gives Tryz.prog 21 [.sv (.one (.sl false 3 1 (encs c3 xA)))] (.one (.sl true 3 1 (encs c3 r))) (List.replicate 1 .gone) := by
 unfold w_toIntS at h
 refine gives_of Tryz.func21 rfl ?_
 rw [Tryz.ntmps21]
 refine Wp.seq (Wp.region ?_)
 refine LWp.o 2 (.one (.sl true 3 1 (encs c3 []))) ?_
 refine LWp.nil ?_
 refine Wp.seq (Wp.region ?_)
 refine LWp.o 5 (.one (.sl false 3 1 (encs c3 xA))) ?_
 refine LWp.o 6 (I (ln xA)) ?_ (st_pure (p_ln k3 xA))
 refine LWp.p h 7 (fun q1 => (.one (.sl true 3 1 (encs c3 q1)))) ?_ (fun q1 gq1 => s_mk (f := c3) 0 gq1)
 intro q1 gq1 h
 refine LWp.m true [(.slot 7, [.junk])] 3 (.one (.sl true 3 1 (encs c3 q1))) ?_
 refine LWp.nil ?_
 refine Wp.seq ?_
 refine Wp.seq (Wp.region ?_)
 refine LWp.o 4 (I 0) ?_
 refine LWp.nil ?_
 refine Wp.l1 h [0, 3, 4] [] (fun s => (w_toIntS_H1 xA s.1 s.2)) [3] [] (fun s => (w_toIntS_H2 s)) ⟨rfl, rfl⟩ ?_ ?_
 · rintro ⟨yOut1, yI1⟩ o (h : w_toIntS_b1 xA yOut1 yI1 = some o)
   unfold w_toIntS_b1 at h
   change Wp _ _ _ (w_toIntS_H1 xA yOut1 yI1) _
   refine Wp.seq ?_
   refine Wp.seq (Wp.region ?_)
   refine LWp.o 8 (I yI1) ?_
   refine LWp.o 9 (.one (.sl false 3 1 (encs c3 xA))) ?_
   refine LWp.o 10 (I (ln xA)) ?_ (st_pure (p_ln k3 xA))
   refine LWp.o 11 (B (decide (yI1 < (ln xA)))) ?_
   refine LWp.nil ?_
   refine Wp.c h (fun h => ?_) (fun h => ?_)
   · refine Wp.skip ?_
     refine Wp.seq ?_
     refine Wp.block ?_
     refine Wp.region ?_
     refine LWp.o 14 (.one (.view (.slot 3) 0 [] 0)) ?_
     refine LWp.o 15 (I yI1) ?_
     refine LWp.o 16 (.one (.sl false 3 1 (encs c3 xA))) ?_
     refine LWp.o 17 (I yI1) ?_
     refine LWp.p h 18 (fun _ => (.one (.ptr (.slot 16) 1 [0] (Int.toNat yI1 * 1 + 0)))) ?_ (fun x1 gx1 => st_pure (p_ix k3 (.slot 16) [] 0 gx1))
     intro x1 gx1 h
     refine LWp.o 19 (I x1) ?_ (st_pure (p_lc k3 (.slot 16) [0] 0 (.int .i64 x1) gx1))
     refine LWp.p h 20 (fun _ => (.one (.ptr (.slot 3) 0 [0] (Int.toNat yI1 * 1 + 0)))) ?_ (fun x2 gx2 => st_pure (p_ix k3 (.slot 3) [] 0 gx2))
     intro x2 gx2 h
     refine LWp.sb [] (.slot 3) [.sl true 3 1 (encs c3 (si yOut1 yI1 x1))] ?_ (s_st [] (q := [0]) (cs := [.sl true 3 1 (encs c3 yOut1)]) (xs := [.int .i64 x1]) (At.one (setRow_gi k3 (k := 0) (z := x1) gx2 rfl rfl)) (fit_gi k3 (k := 0) gx2 rfl))
     refine LWp.nil ?_
     refine Wp.region ?_
     refine LWp.o 12 (I yI1) ?_
     refine LWp.o 13 (I (ad yI1 1)) ?_
     refine LWp.o 4 (I (ad yI1 1)) ?_
     refine LWp.nil ?_
     cases h
     exact ⟨_, rfl, rfl, rfl⟩
   refine Wp.exit ?_
   cases h
   exact ⟨_, rfl, rfl, rfl⟩
 intro v1 h E hE
 refine nt_wp hE ?_
 change Wp _ _ _ (w_toIntS_H2 v1) _
 refine Wp.seq (Wp.region ?_)
 refine LWp.o 21 (.one (.view (.slot 3) 0 [] 0)) ?_
 refine LWp.m true [(.slot 3, [.junk])] 2 (.one (.sl true 3 1 (encs c3 v1))) ?_
 refine LWp.nil ?_
 cases h
 exact Wp.ret ⟨.inr rfl, _, _, rfl, rfl⟩
theorem w_toKnot_t (xA : Knot) (r : Knot) (h : w_toKnot xA = some r) : Gives Tryz.prog 113 [.sv (.agg [.bool xA.Leaf, .sl false 3 1 (encs c3 xA.Kids)])] (.agg [.bool r.Leaf, .sl true 3 1 (encs c3 r.Kids)]) (List.replicate 1 .gone) := by
 unfold w_toKnot at h
 refine gives_of Tryz.func113 rfl ?_
 rw [Tryz.ntmps113]
 refine Wp.seq (Wp.region ?_)
 refine LWp.b [] 1 [.bool xA.Leaf, .sl false 3 1 (encs c3 xA.Kids)] ?_
 refine LWp.b [] 2 [.bool false, .sl true 3 1 (encs c3 [])] ?_
 refine LWp.nil ?_
 refine Wp.seq (Wp.region ?_)
 refine LWp.b [] 3 [.bool false, .sl true 3 1 (encs c3 [])] ?_
 refine LWp.nil ?_
 refine Wp.seq (Wp.region ?_)
 refine LWp.o 4 (.one (.ptr (.box 1) 1 [] 0)) ?_
 refine LWp.o 5 (B xA.Leaf) ?_
 refine LWp.o 6 (.one (.ptr (.box 3) 1 [] 0)) ?_
 refine LWp.s [] (.box 3) [.bool xA.Leaf, .sl true 3 1 (encs c3 [])] ?_
 refine LWp.nil ?_
 refine Wp.seq (Wp.region ?_)
 refine LWp.o 7 (.one (.ptr (.box 1) 1 [] 1)) ?_
 refine LWp.o 8 (.one (.sl false 3 1 (encs c3 xA.Kids))) ?_
 refine LWp.cl h 9 (fun v1 => (.one (.sl true 3 1 (encs c3 v1)))) rfl (l := [.sv (.one (.sl false 3 1 (encs c3 xA.Kids)))]) rfl (fun v hv => w_toIntS_t xA.Kids v hv) (.inl rfl) ?_
 intro v1 gv1 h
 refine LWp.o 10 (.one (.ptr (.box 3) 1 [] 1)) ?_
 refine LWp.sb [(.slot 9, [.junk])] (.box 3) [.bool xA.Leaf, .sl true 3 1 (encs c3 v1)] ?_
 refine LWp.nil ?_
 refine Wp.seq (Wp.region ?_)
 refine LWp.o 11 (.agg [.bool xA.Leaf, .view (.box 3) 2 [] 1]) ?_
 refine LWp.sb [(.box 3, [.bool xA.Leaf, .junk])] (.box 2) [.bool xA.Leaf, .sl true 3 1 (encs c3 v1)] ?_
 refine LWp.nil ?_
 cases h
 exact Wp.ret ⟨.inr rfl, _, _, rfl, rfl⟩
def c175 (o : Bool) (x : Knot) : List TV := [.bool x.Leaf, .sl o 3 1 (encs c3 x.Kids)]
theorem k175 (o : Bool) : ∀ x, (c175 o x).length = 2 := fun _ => rfl
theorem sh175 : ∀ l, shares (encs (c175 true) l) = encs (c175 false) l := shares_encs (fun x => by simp only [c175, shares, share, sh3])
theorem ns175 : ∀ l, hasShareds (encs (c175 true) l) = false := ns_encs (fun x => by simp [c175, hasShareds, hasShared, ns3])
def w_toKnotS_H1 (xA : List Knot) (z1 : List Knot) (z2 : Int) : St := mkSt [(0, (.one (.sl false 163 2 (encs (c163 false) xA)))), (3, (.one (.sl true 175 2 (encs (c175 true) z1)))), (4, (I z2))] []
def w_toKnotS_H2 (z3 : List Knot) : St := mkSt [(3, (.one (.sl true 175 2 (encs (c175 true) z3))))] []
theorem w_toKnotS_t (xA : List Knot) (r : List Knot) (h : w_toKnotS xA = some r) : Gives Tryz.prog 92 [.sv (.one (.sl false 163 2 (encs (c163 false) xA)))] (.one (.sl true 175 2 (encs (c175 true) r))) (List.replicate 1 .gone) := by
 unfold w_toKnotS at h
 refine gives_of Tryz.func92 rfl ?_
 rw [Tryz.ntmps92]
 refine Wp.seq (Wp.region ?_)
 refine LWp.o 2 (.one (.sl true 175 2 (encs (c175 true) []))) ?_
 refine LWp.nil ?_
 refine Wp.seq (Wp.region ?_)
 refine LWp.o 5 (.one (.sl false 163 2 (encs (c163 false) xA))) ?_
 refine LWp.o 6 (I (ln xA)) ?_ (st_pure (p_ln (k163 false) xA))
 refine LWp.p h 7 (fun q1 => (.one (.sl true 175 2 (encs (c175 true) q1)))) ?_ (fun q1 gq1 => s_mk (f := (c175 true)) (Knot.mk false []) gq1)
 intro q1 gq1 h
 refine LWp.m true [(.slot 7, [.junk])] 3 (.one (.sl true 175 2 (encs (c175 true) q1))) ?_
 refine LWp.nil ?_
 refine Wp.seq ?_
 refine Wp.seq (Wp.region ?_)
 refine LWp.o 4 (I 0) ?_
 refine LWp.nil ?_
 refine Wp.l1 h [0, 3, 4] [] (fun s => (w_toKnotS_H1 xA s.1 s.2)) [3] [] (fun s => (w_toKnotS_H2 s)) ⟨rfl, rfl⟩ ?_ ?_
 · rintro ⟨yOut1, yI1⟩ o (h : w_toKnotS_b1 xA yOut1 yI1 = some o)
   unfold w_toKnotS_b1 at h
   change Wp _ _ _ (w_toKnotS_H1 xA yOut1 yI1) _
   refine Wp.seq ?_
   refine Wp.seq (Wp.region ?_)
   refine LWp.o 8 (I yI1) ?_
   refine LWp.o 9 (.one (.sl false 163 2 (encs (c163 false) xA))) ?_
   refine LWp.o 10 (I (ln xA)) ?_ (st_pure (p_ln (k163 false) xA))
   refine LWp.o 11 (B (decide (yI1 < (ln xA)))) ?_
   refine LWp.nil ?_
   refine Wp.c h (fun h => ?_) (fun h => ?_)
   · refine Wp.skip ?_
     refine Wp.seq ?_
     refine Wp.block ?_
     refine Wp.region ?_
     refine LWp.o 14 (.one (.view (.slot 3) 0 [] 0)) ?_
     refine LWp.o 15 (I yI1) ?_
     refine LWp.o 16 (.one (.sl false 163 2 (encs (c163 false) xA))) ?_
     refine LWp.o 17 (I yI1) ?_
     refine LWp.p h 18 (fun _ => (.one (.ptr (.slot 16) 1 [0] (Int.toNat yI1 * 2 + 0)))) ?_ (fun x1 gx1 => st_pure (p_ix (k163 false) (.slot 16) [] 0 gx1))
     intro x1 gx1 h
     refine LWp.o 19 (.agg [.bool x1.Leaf, .sl false 3 1 (encs c3 x1.Kids)]) ?_ (st_pure (p_le (k163 false) (.slot 16) [0] gx1))
     refine LWp.cl h 20 (fun v1 => (.agg [.bool v1.Leaf, .sl true 3 1 (encs c3 v1.Kids)])) rfl (l := [.sv (.agg [.bool x1.Leaf, .sl false 3 1 (encs c3 x1.Kids)])]) rfl (fun v hv => w_toKnot_t x1 v hv) (.inl rfl) ?_
     intro v1 gv1 h
     refine LWp.p h 21 (fun _ => (.one (.ptr (.slot 3) 0 [0] (Int.toNat yI1 * 2 + 0)))) ?_ (fun x2 gx2 => st_pure (p_ix (k175 true) (.slot 3) [] 0 gx2))
     intro x2 gx2 h
     refine LWp.sb [(.slot 20, [.bool v1.Leaf, .junk])] (.slot 3) [.sl true 175 2 (encs (c175 true) (si yOut1 yI1 v1))] ?_ (s_st [(.slot 20, [.bool v1.Leaf, .junk])] (q := [0]) (cs := [.sl true 175 2 (encs (c175 true) yOut1)]) (xs := [.bool v1.Leaf, .sl true 3 1 (encs c3 v1.Kids)]) (At.one (setRow_gi (k175 true) (k := 0) (z := v1) gx2 rfl rfl)) (fit_gi (k175 true) (k := 0) gx2 rfl))
     refine LWp.nil ?_
     refine Wp.region ?_
     refine LWp.o 12 (I yI1) ?_
     refine LWp.o 13 (I (ad yI1 1)) ?_
     refine LWp.o 4 (I (ad yI1 1)) ?_
     refine LWp.nil ?_
     cases h
     exact ⟨_, rfl, rfl, rfl⟩
   refine Wp.exit ?_
   cases h
   exact ⟨_, rfl, rfl, rfl⟩
 intro v2 h E hE
 refine nt_wp hE ?_
 change Wp _ _ _ (w_toKnotS_H2 v2) _
 refine Wp.seq (Wp.region ?_)
 refine LWp.o 22 (.one (.view (.slot 3) 0 [] 0)) ?_
 refine LWp.m true [(.slot 3, [.junk])] 2 (.one (.sl true 175 2 (encs (c175 true) v2))) ?_
 refine LWp.nil ?_
 cases h
 exact Wp.ret ⟨.inr rfl, _, _, rfl, rfl⟩
theorem w_toArena_t (xA : Arena) (r : Arena) (h : w_toArena xA = some r) : Gives Tryz.prog 66 [.sv (.agg [.sl false 163 2 (encs (c163 false) xA.Knots)])] (.agg [.sl true 175 2 (encs (c175 true) r.Knots)]) (List.replicate 1 .gone) := by
 unfold w_toArena at h
 refine gives_of Tryz.func66 rfl ?_
 rw [Tryz.ntmps66]
 refine Wp.seq (Wp.region ?_)
 refine LWp.b [] 1 [.sl false 163 2 (encs (c163 false) xA.Knots)] ?_
 refine LWp.b [] 2 [.sl true 175 2 (encs (c175 true) [])] ?_
 refine LWp.nil ?_
 refine Wp.seq (Wp.region ?_)
 refine LWp.b [] 3 [.sl true 175 2 (encs (c175 true) [])] ?_
 refine LWp.nil ?_
 refine Wp.seq (Wp.region ?_)
 refine LWp.o 4 (.one (.ptr (.box 1) 1 [] 0)) ?_
 refine LWp.o 5 (.one (.sl false 163 2 (encs (c163 false) xA.Knots))) ?_
 refine LWp.cl h 6 (fun v1 => (.one (.sl true 175 2 (encs (c175 true) v1)))) rfl (l := [.sv (.one (.sl false 163 2 (encs (c163 false) xA.Knots)))]) rfl (fun v hv => w_toKnotS_t xA.Knots v hv) (.inl rfl) ?_
 intro v1 gv1 h
 refine LWp.o 7 (.one (.ptr (.box 3) 1 [] 0)) ?_
 refine LWp.sb [(.slot 6, [.junk])] (.box 3) [.sl true 175 2 (encs (c175 true) v1)] ?_
 refine LWp.nil ?_
 refine Wp.seq (Wp.region ?_)
 refine LWp.o 8 (.agg [.view (.box 3) 2 [] 0]) ?_
 refine LWp.sb [(.box 3, [.junk])] (.box 2) [.sl true 175 2 (encs (c175 true) v1)] ?_
 refine LWp.nil ?_
 cases h
 exact Wp.ret ⟨.inr rfl, _, _, rfl, rfl⟩
theorem w_toStore_t (xA : Store) (r : Store) (h : w_toStore xA = some r) : Gives Tryz.prog 39 [.sv (.agg [.sl false 155 2 (encs c155 xA.Vols), .sl false 163 2 (encs (c163 false) xA.Arena.Knots), .int .i64 xA.Next])] (.agg [.sl true 87 2 (encs c87 r.Vols), .sl true 175 2 (encs (c175 true) r.Arena.Knots), .int .i64 r.Next]) (List.replicate 1 .gone) := by
 unfold w_toStore at h
 refine gives_of Tryz.func39 rfl ?_
 rw [Tryz.ntmps39]
 refine Wp.seq (Wp.region ?_)
 refine LWp.b [] 1 [.sl false 155 2 (encs c155 xA.Vols), .sl false 163 2 (encs (c163 false) xA.Arena.Knots), .int .i64 xA.Next] ?_
 refine LWp.b [] 2 [.sl true 87 2 (encs c87 []), .sl true 175 2 (encs (c175 true) []), .int .i64 0] ?_
 refine LWp.nil ?_
 refine Wp.seq (Wp.region ?_)
 refine LWp.b [] 3 [.sl true 87 2 (encs c87 []), .sl true 175 2 (encs (c175 true) []), .int .i64 0] ?_
 refine LWp.nil ?_
 refine Wp.seq (Wp.region ?_)
 refine LWp.o 4 (.one (.ptr (.box 1) 1 [] 0)) ?_
 refine LWp.o 5 (.one (.sl false 155 2 (encs c155 xA.Vols))) ?_
 refine LWp.cl h 6 (fun v1 => (.one (.sl true 87 2 (encs c87 v1)))) rfl (l := [.sv (.one (.sl false 155 2 (encs c155 xA.Vols)))]) rfl (fun v hv => w_toVolS_t xA.Vols v hv) (.inl rfl) ?_
 intro v1 gv1 h
 refine LWp.o 7 (.one (.ptr (.box 3) 1 [] 0)) ?_
 refine LWp.sb [(.slot 6, [.junk])] (.box 3) [.sl true 87 2 (encs c87 v1), .sl true 175 2 (encs (c175 true) []), .int .i64 0] ?_
 refine LWp.nil ?_
 refine Wp.seq (Wp.region ?_)
 refine LWp.o 8 (.one (.ptr (.box 1) 1 [] 1)) ?_
 refine LWp.o 9 (.agg [.sl false 163 2 (encs (c163 false) xA.Arena.Knots)]) ?_
 refine LWp.cl h 10 (fun v2 => (.agg [.sl true 175 2 (encs (c175 true) v2.Knots)])) rfl (l := [.sv (.agg [.sl false 163 2 (encs (c163 false) xA.Arena.Knots)])]) rfl (fun v hv => w_toArena_t xA.Arena v hv) (.inl rfl) ?_
 intro v2 gv2 h
 refine LWp.o 11 (.one (.ptr (.box 3) 1 [] 1)) ?_
 refine LWp.sb [(.slot 10, [.junk])] (.box 3) [.sl true 87 2 (encs c87 v1), .sl true 175 2 (encs (c175 true) v2.Knots), .int .i64 0] ?_
 refine LWp.nil ?_
 refine Wp.seq (Wp.region ?_)
 refine LWp.o 12 (.one (.ptr (.box 1) 1 [] 2)) ?_
 refine LWp.o 13 (I xA.Next) ?_
 refine LWp.o 14 (.one (.ptr (.box 3) 1 [] 2)) ?_
 refine LWp.s [] (.box 3) [.sl true 87 2 (encs c87 v1), .sl true 175 2 (encs (c175 true) v2.Knots), .int .i64 xA.Next] ?_
 refine LWp.nil ?_
 refine Wp.seq (Wp.region ?_)
 refine LWp.o 15 (.agg [.view (.box 3) 3 [] 0, .view (.box 3) 3 [] 1, .int .i64 xA.Next]) ?_
 refine LWp.sb [(.box 3, [.junk, .sl true 175 2 (encs (c175 true) v2.Knots), .int .i64 xA.Next]), (.box 3, [.junk, .junk, .int .i64 xA.Next])] (.box 2) [.sl true 87 2 (encs c87 v1), .sl true 175 2 (encs (c175 true) v2.Knots), .int .i64 xA.Next] ?_
 refine LWp.nil ?_
 cases h
 exact Wp.ret ⟨.inr rfl, _, _, rfl, rfl⟩
theorem w_toDevice_t (xA : Device) (r : Device) (h : w_toDevice xA = some r) : Gives Tryz.prog 12 [.sv (.agg [.sl false 137 3 (encs (c137 false) xA.Flash.Blocks), .sl false 155 2 (encs c155 xA.Store.Vols), .sl false 163 2 (encs (c163 false) xA.Store.Arena.Knots), .int .i64 xA.Store.Next, .int .i64 xA.Seq, .int .i64 xA.Tx, .int .i64 xA.Base])] (.agg [.sl true 113 3 (encs (c113 true) r.Flash.Blocks), .sl true 87 2 (encs c87 r.Store.Vols), .sl true 175 2 (encs (c175 true) r.Store.Arena.Knots), .int .i64 r.Store.Next, .int .i64 r.Seq, .int .i64 r.Tx, .int .i64 r.Base]) (List.replicate 1 .gone) := by
 unfold w_toDevice at h
 refine gives_of Tryz.func12 rfl ?_
 rw [Tryz.ntmps12]
 refine Wp.seq (Wp.region ?_)
 refine LWp.b [] 1 [.sl false 137 3 (encs (c137 false) xA.Flash.Blocks), .sl false 155 2 (encs c155 xA.Store.Vols), .sl false 163 2 (encs (c163 false) xA.Store.Arena.Knots), .int .i64 xA.Store.Next, .int .i64 xA.Seq, .int .i64 xA.Tx, .int .i64 xA.Base] ?_
 refine LWp.b [] 2 [.sl true 113 3 (encs (c113 true) []), .sl true 87 2 (encs c87 []), .sl true 175 2 (encs (c175 true) []), .int .i64 0, .int .i64 0, .int .i64 0, .int .i64 0] ?_
 refine LWp.nil ?_
 refine Wp.seq (Wp.region ?_)
 refine LWp.b [] 3 [.sl true 113 3 (encs (c113 true) []), .sl true 87 2 (encs c87 []), .sl true 175 2 (encs (c175 true) []), .int .i64 0, .int .i64 0, .int .i64 0, .int .i64 0] ?_
 refine LWp.nil ?_
 refine Wp.seq (Wp.region ?_)
 refine LWp.o 4 (.one (.ptr (.box 1) 1 [] 0)) ?_
 refine LWp.o 5 (.agg [.sl false 137 3 (encs (c137 false) xA.Flash.Blocks)]) ?_
 refine LWp.cl h 6 (fun v1 => (.agg [.sl true 113 3 (encs (c113 true) v1.Blocks)])) rfl (l := [.sv (.agg [.sl false 137 3 (encs (c137 false) xA.Flash.Blocks)])]) rfl (fun v hv => w_toFlash_t xA.Flash v hv) (.inl rfl) ?_
 intro v1 gv1 h
 refine LWp.o 7 (.one (.ptr (.box 3) 1 [] 0)) ?_
 refine LWp.sb [(.slot 6, [.junk])] (.box 3) [.sl true 113 3 (encs (c113 true) v1.Blocks), .sl true 87 2 (encs c87 []), .sl true 175 2 (encs (c175 true) []), .int .i64 0, .int .i64 0, .int .i64 0, .int .i64 0] ?_
 refine LWp.nil ?_
 refine Wp.seq (Wp.region ?_)
 refine LWp.o 8 (.one (.ptr (.box 1) 1 [] 1)) ?_
 refine LWp.o 9 (.agg [.sl false 155 2 (encs c155 xA.Store.Vols), .sl false 163 2 (encs (c163 false) xA.Store.Arena.Knots), .int .i64 xA.Store.Next]) ?_
 refine LWp.cl h 10 (fun v2 => (.agg [.sl true 87 2 (encs c87 v2.Vols), .sl true 175 2 (encs (c175 true) v2.Arena.Knots), .int .i64 v2.Next])) rfl (l := [.sv (.agg [.sl false 155 2 (encs c155 xA.Store.Vols), .sl false 163 2 (encs (c163 false) xA.Store.Arena.Knots), .int .i64 xA.Store.Next])]) rfl (fun v hv => w_toStore_t xA.Store v hv) (.inl rfl) ?_
 intro v2 gv2 h
 refine LWp.o 11 (.one (.ptr (.box 3) 1 [] 1)) ?_
 refine LWp.sb [(.slot 10, [.junk, .sl true 175 2 (encs (c175 true) v2.Arena.Knots), .int .i64 v2.Next]), (.slot 10, [.junk, .junk, .int .i64 v2.Next])] (.box 3) [.sl true 113 3 (encs (c113 true) v1.Blocks), .sl true 87 2 (encs c87 v2.Vols), .sl true 175 2 (encs (c175 true) v2.Arena.Knots), .int .i64 v2.Next, .int .i64 0, .int .i64 0, .int .i64 0] ?_
 refine LWp.nil ?_
 refine Wp.seq (Wp.region ?_)
 refine LWp.o 12 (.one (.ptr (.box 1) 1 [] 4)) ?_
 refine LWp.o 13 (I xA.Seq) ?_
 refine LWp.o 14 (.one (.ptr (.box 3) 1 [] 4)) ?_
 refine LWp.s [] (.box 3) [.sl true 113 3 (encs (c113 true) v1.Blocks), .sl true 87 2 (encs c87 v2.Vols), .sl true 175 2 (encs (c175 true) v2.Arena.Knots), .int .i64 v2.Next, .int .i64 xA.Seq, .int .i64 0, .int .i64 0] ?_
 refine LWp.nil ?_
 refine Wp.seq (Wp.region ?_)
 refine LWp.o 15 (.one (.ptr (.box 1) 1 [] 5)) ?_
 refine LWp.o 16 (I xA.Tx) ?_
 refine LWp.o 17 (.one (.ptr (.box 3) 1 [] 5)) ?_
 refine LWp.s [] (.box 3) [.sl true 113 3 (encs (c113 true) v1.Blocks), .sl true 87 2 (encs c87 v2.Vols), .sl true 175 2 (encs (c175 true) v2.Arena.Knots), .int .i64 v2.Next, .int .i64 xA.Seq, .int .i64 xA.Tx, .int .i64 0] ?_
 refine LWp.nil ?_
 refine Wp.seq (Wp.region ?_)
 refine LWp.o 18 (.one (.ptr (.box 1) 1 [] 6)) ?_
 refine LWp.o 19 (I xA.Base) ?_
 refine LWp.o 20 (.one (.ptr (.box 3) 1 [] 6)) ?_
 refine LWp.s [] (.box 3) [.sl true 113 3 (encs (c113 true) v1.Blocks), .sl true 87 2 (encs c87 v2.Vols), .sl true 175 2 (encs (c175 true) v2.Arena.Knots), .int .i64 v2.Next, .int .i64 xA.Seq, .int .i64 xA.Tx, .int .i64 xA.Base] ?_
 refine LWp.nil ?_
 refine Wp.seq (Wp.region ?_)
 refine LWp.o 21 (.agg [.view (.box 3) 3 [] 0, .view (.box 3) 3 [] 1, .view (.box 3) 3 [] 2, .int .i64 v2.Next, .int .i64 xA.Seq, .int .i64 xA.Tx, .int .i64 xA.Base]) ?_
 refine LWp.sb [(.box 3, [.junk, .sl true 87 2 (encs c87 v2.Vols), .sl true 175 2 (encs (c175 true) v2.Arena.Knots), .int .i64 v2.Next, .int .i64 xA.Seq, .int .i64 xA.Tx, .int .i64 xA.Base]), (.box 3, [.junk, .junk, .sl true 175 2 (encs (c175 true) v2.Arena.Knots), .int .i64 v2.Next, .int .i64 xA.Seq, .int .i64 xA.Tx, .int .i64 xA.Base]), (.box 3, [.junk, .junk, .junk, .int .i64 v2.Next, .int .i64 xA.Seq, .int .i64 xA.Tx, .int .i64 xA.Base])] (.box 2) [.sl true 113 3 (encs (c113 true) v1.Blocks), .sl true 87 2 (encs c87 v2.Vols), .sl true 175 2 (encs (c175 true) v2.Arena.Knots), .int .i64 v2.Next, .int .i64 xA.Seq, .int .i64 xA.Tx, .int .i64 xA.Base] ?_
 refine LWp.nil ?_
 cases h
 exact Wp.ret ⟨.inr rfl, _, _, rfl, rfl⟩
theorem s_l01In_t (xX : Int) (xLeast : Int) (xMost : Int) (r : Bool) (h : s_l01In xX xLeast xMost = some r) : Gives Tryz.prog 80 [.sv (I xX), .sv (I xLeast), .sv (I xMost)] (B r) (List.replicate 3 .gone) := by
 unfold s_l01In at h
 refine gives_of Tryz.func80 rfl ?_
 rw [Tryz.ntmps80]
 refine Wp.seq (Wp.region ?_)
 refine LWp.o 6 (B false) ?_
 refine LWp.nil ?_
 refine Wp.seq (Wp.region ?_)
 refine LWp.o 7 (I xX) ?_
 refine LWp.o 8 (I xLeast) ?_
 refine LWp.o 9 (B (decide (xX ≥ xLeast))) ?_
 refine LWp.o 10 (B (decide (xX ≥ xLeast))) ?_
 refine LWp.sp h 10 (fun h => ?_) (fun h => ?_)
 · refine LWp.o 11 (I xX) ?_
   refine LWp.o 12 (I xMost) ?_
   refine LWp.o 13 (B (decide (xX ≤ xMost))) ?_
   refine LWp.o 14 (B (decide (xX ≤ xMost))) ?_
   refine LWp.o 6 (B (decide (xX ≤ xMost))) ?_
   refine LWp.nil ?_
   cases h
   exact Wp.ret ⟨.inr rfl, _, _, rfl, rfl⟩
 refine LWp.sh 11 ?_
 refine LWp.sh 12 ?_
 refine LWp.sh 13 ?_
 refine LWp.o 14 (B false) ?_
 refine LWp.o 6 (B false) ?_
 refine LWp.nil ?_
 cases h
 exact Wp.ret ⟨.inr rfl, _, _, rfl, rfl⟩
def s_ArenaOk_H1 (xA : Arena) (z1 : Int) : St := mkSt [(1, (.one (.ptr (.box 1) 0 [] 0))), (3, (I z1))] [(.box 1, [.sl false 175 2 (encs (c175 false) xA.Knots)])]
def s_ArenaOk_H2  : St := mkSt [] []
def s_ArenaOk_H3 (xA : Arena) (yI1 : Int) (x1 : Knot) (z2 : Int) : St := mkSt [(1, (.one (.ptr (.box 1) 0 [] 0))), (3, (I yI1)), (4, (.one (.ptr (.box 4) 0 [] 0))), (5, (I z2))] [(.box 1, [.sl false 175 2 (encs (c175 false) xA.Knots)]), (.box 4, [.bool x1.Leaf, .sl false 3 1 (encs c3 x1.Kids)])]
def s_ArenaOk_H4 (xA : Arena) (yI1 : Int) : St := mkSt [(1, (.one (.ptr (.box 1) 0 [] 0))), (3, (I yI1))] [(.box 1, [.sl false 175 2 (encs (c175 false) xA.Knots)])]
def s_ArenaOk_H5 (xA : Arena) (yI1 : Int) (x1 : Knot) (yK1 : Int) (z3 : Bool) : St := mkSt [(1, (.one (.ptr (.box 1) 0 [] 0))), (3, (I yI1)), (4, (.one (.ptr (.box 4) 0 [] 0))), (5, (I yK1)), (62, (B z3))] [(.box 1, [.sl false 175 2 (encs (c175 false) xA.Knots)]), (.box 4, [.bool x1.Leaf, .sl false 3 1 (encs c3 x1.Kids)])]
theorem s_ArenaOk_t (xA : Arena) (r : Bool) (h : s_ArenaOk xA = some r) : Gives Tryz.prog 87 [.sv (.agg [.sl false 175 2 (encs (c175 false) xA.Knots)])] (B r) (List.replicate 1 .gone) := by
 unfold s_ArenaOk at h
 refine gives_of Tryz.func87 rfl ?_
 rw [Tryz.ntmps87]
 refine Wp.seq (Wp.region ?_)
 refine LWp.b [] 1 [.sl false 175 2 (encs (c175 false) xA.Knots)] ?_
 refine LWp.o 2 (B false) ?_
 refine LWp.nil ?_
 refine Wp.seq ?_
 refine Wp.seq (Wp.region ?_)
 refine LWp.o 3 (I 0) ?_
 refine LWp.nil ?_
 refine Wp.l2 h [1, 3] [.box 1] (fun s => (s_ArenaOk_H1 xA s)) [] [] (fun _ => s_ArenaOk_H2) ⟨rfl, rfl⟩ ?_ ?_
 · rintro yI1 o (h : s_ArenaOk_b1 xA yI1 = some o) hk1
   unfold s_ArenaOk_b1 at h
   change Wp _ _ _ (s_ArenaOk_H1 xA yI1) _
   refine Wp.seq ?_
   refine Wp.seq (Wp.region ?_)
   refine LWp.o 7 (I yI1) ?_
   refine LWp.o 8 (.one (.ptr (.box 1) 0 [] 0)) ?_
   refine LWp.o 9 (.one (.sl false 175 2 (encs (c175 false) xA.Knots))) ?_
   refine LWp.o 10 (I (ln xA.Knots)) ?_ (st_pure (p_ln (k175 false) xA.Knots))
   refine LWp.o 11 (B (decide (yI1 < (ln xA.Knots)))) ?_
   refine LWp.nil ?_
   refine Wp.c h (fun h => ?_) (fun h => ?_)
   · refine Wp.skip ?_
     refine Wp.seq ?_
     refine Wp.block ?_
     refine Wp.seq (Wp.region ?_)
     refine LWp.o 14 (.one (.ptr (.box 1) 0 [] 0)) ?_
     refine LWp.o 15 (.one (.sl false 175 2 (encs (c175 false) xA.Knots))) ?_
     refine LWp.o 16 (I yI1) ?_
     refine LWp.p h 17 (fun _ => (.one (.ptr (.slot 15) 1 [0] (Int.toNat yI1 * 2 + 0)))) ?_ (fun x1 gx1 => st_pure (p_ix (k175 false) (.slot 15) [] 0 gx1))
     intro x1 gx1 h
     refine LWp.o 18 (.agg [.bool x1.Leaf, .sl false 3 1 (encs c3 x1.Kids)]) ?_ (st_pure (p_le (k175 false) (.slot 15) [0] gx1))
     refine LWp.b [] 4 [.bool false, .sl true 3 1 (encs c3 [])] ?_
     refine LWp.sb [] (.box 4) [.bool x1.Leaf, .sl false 3 1 (encs c3 x1.Kids)] ?_
     refine LWp.nil ?_
     refine Wp.seq ?_
     refine Wp.seq (Wp.region ?_)
     refine LWp.o 19 (.one (.ptr (.box 4) 1 [] 1)) ?_
     refine LWp.o 20 (.one (.sl false 3 1 (encs c3 x1.Kids))) ?_
     refine LWp.o 21 (I (ln x1.Kids)) ?_ (st_pure (p_ln k3 x1.Kids))
     refine LWp.o 22 (B ((ln x1.Kids) != 4)) ?_
     refine LWp.nil ?_
     refine Wp.c h (fun h => ?_) (fun h => ?_)
     · refine Wp.seq (Wp.region ?_)
       refine LWp.o 2 (B false) ?_
       refine LWp.nil ?_
       cases h
       replace h : some _ = some _ := hk1 _ rfl
       cases h
       exact Wp.ret ⟨.inr rfl, _, _, rfl, rfl⟩
     refine Wp.skip ?_
     refine Wp.seq (Wp.region ?_)
     refine LWp.o 5 (I 0) ?_
     refine LWp.nil ?_
     refine Wp.l2 h [1, 3, 4, 5] [.box 1, .box 4] (fun s => (s_ArenaOk_H3 xA yI1 x1 s)) [1, 3] [.box 1] (fun _ => (s_ArenaOk_H4 xA yI1)) ⟨rfl, rfl⟩ ?_ ?_
     · rintro yK1 o (h : s_ArenaOk_b2 xA yI1 x1 yK1 = some o) hk2
       unfold s_ArenaOk_b2 at h
       change Wp _ _ _ (s_ArenaOk_H3 xA yI1 x1 yK1) _
       refine Wp.seq ?_
       refine Wp.seq (Wp.region ?_)
       refine LWp.o 23 (I yK1) ?_
       refine LWp.o 24 (B (decide (yK1 < 4))) ?_
       refine LWp.nil ?_
       refine Wp.c h (fun h => ?_) (fun h => ?_)
       · refine Wp.skip ?_
         refine Wp.seq ?_
         refine Wp.block ?_
         refine Wp.seq (Wp.region ?_)
         refine LWp.o 27 (.one (.ptr (.box 4) 0 [] 1)) ?_
         refine LWp.o 28 (.one (.sl false 3 1 (encs c3 x1.Kids))) ?_
         refine LWp.o 29 (I yK1) ?_
         refine LWp.p h 30 (fun _ => (.one (.ptr (.slot 28) 1 [0] (Int.toNat yK1 * 1 + 0)))) ?_ (fun x2 gx2 => st_pure (p_ix k3 (.slot 28) [] 0 gx2))
         intro x2 gx2 h
         refine LWp.o 31 (I x2) ?_ (st_pure (p_lc k3 (.slot 28) [0] 0 (.int .i64 x2) gx2))
         refine LWp.o 6 (I x2) ?_
         refine LWp.nil ?_
         refine Wp.seq ?_
         refine Wp.j1 h [1, 3, 4, 5, 62] [.box 1, .box 4] (fun a => (s_ArenaOk_H5 xA yI1 x1 yK1 a)) ?_ ?_
         · intro a h
           refine Wp.region ?_
           refine LWp.o 32 (.one (.ptr (.box 4) 0 [] 0)) ?_
           refine LWp.o 33 (B x1.Leaf) ?_
           refine LWp.o 34 (B x1.Leaf) ?_
           refine LWp.sp h 34 (fun h => ?_) (fun h => ?_)
           · refine LWp.o 35 (I x2) ?_
             refine LWp.o 36 (B (decide (x2 < 0))) ?_
             refine LWp.o 37 (B (decide (x2 < 0))) ?_
             refine LWp.o 38 (B (decide (x2 < 0))) ?_
             refine LWp.sp h 38 (fun h => ?_) (fun h => ?_)
             · refine LWp.sh 39 ?_
               refine LWp.sh 40 ?_
               refine LWp.sh 41 ?_
               refine LWp.sh 42 ?_
               refine LWp.sh 43 ?_
               refine LWp.sh 44 ?_
               refine LWp.sh 45 ?_
               refine LWp.sh 46 ?_
               refine LWp.sh 47 ?_
               refine LWp.sh 48 ?_
               refine LWp.sh 49 ?_
               refine LWp.sh 50 ?_
               refine LWp.sh 51 ?_
               refine LWp.sh 52 ?_
               refine LWp.sh 53 ?_
               refine LWp.sh 54 ?_
               refine LWp.sh 55 ?_
               refine LWp.sh 56 ?_
               refine LWp.sh 57 ?_
               refine LWp.sh 58 ?_
               refine LWp.sh 59 ?_
               refine LWp.sh 60 ?_
               refine LWp.sh 61 ?_
               refine LWp.o 62 (B true) ?_
               refine LWp.nil ?_
               cases h
               exact ⟨_, rfl, rfl, rfl⟩
             refine LWp.o 39 (.one (.ptr (.box 4) 0 [] 0)) ?_
             refine LWp.o 40 (B x1.Leaf) ?_
             refine LWp.o 41 (B (!x1.Leaf)) ?_
             refine LWp.o 42 (B (!x1.Leaf)) ?_
             refine LWp.sp h 42 (fun h => ?_) (fun h => ?_)
             · refine LWp.o 43 (I x2) ?_
               refine LWp.o 44 (B (x2 != (-1))) ?_
               refine LWp.o 45 (B (x2 != (-1))) ?_
               refine LWp.o 46 (B (x2 != (-1))) ?_
               refine LWp.sp h 46 (fun h => ?_) (fun h => ?_)
               · refine LWp.o 47 (I x2) ?_
                 refine LWp.o 48 (I yI1) ?_
                 refine LWp.o 49 (I (sb yI1 1)) ?_
                 refine LWp.cl h 50 (fun v1 => (B v1)) rfl (l := [.sv (.one (.int .i64 x2)), .sv (.one (.int .i64 0)), .sv (.one (.int .i64 (sb yI1 1)))]) rfl (fun v hv => s_l01In_t x2 0 (sb yI1 1) v hv) (.inl rfl) ?_
                 intro v1 gv1 h
                 refine LWp.o 51 (B (!v1)) ?_
                 refine LWp.o 52 (B (!v1)) ?_
                 refine LWp.sp h 52 (fun h => ?_) (fun h => ?_)
                 · refine LWp.sh 53 ?_
                   refine LWp.sh 54 ?_
                   refine LWp.sh 55 ?_
                   refine LWp.sh 56 ?_
                   refine LWp.sh 57 ?_
                   refine LWp.sh 58 ?_
                   refine LWp.sh 59 ?_
                   refine LWp.o 60 (B true) ?_
                   refine LWp.o 61 (B true) ?_
                   refine LWp.o 62 (B true) ?_
                   refine LWp.nil ?_
                   cases h
                   exact ⟨_, rfl, rfl, rfl⟩
                 refine LWp.o 53 (.one (.ptr (.box 1) 0 [] 0)) ?_
                 refine LWp.o 54 (.one (.sl false 175 2 (encs (c175 false) xA.Knots))) ?_
                 refine LWp.o 55 (I x2) ?_
                 refine LWp.p h 56 (fun _ => (.one (.ptr (.slot 54) 1 [0] (Int.toNat x2 * 2 + 0)))) ?_ (fun x3 gx3 => st_pure (p_ix (k175 false) (.slot 54) [] 0 gx3))
                 intro x3 gx3 h
                 refine LWp.o 57 (.one (.ptr (.slot 54) 1 [0] (Int.toNat x2 * 2 + 0))) ?_ (st_pure (p_fa (k175 false) (.slot 54) [0] 0 gx3))
                 refine LWp.o 58 (B x3.Leaf) ?_ (st_pure (p_lc (k175 false) (.slot 54) [0] 0 (.bool x3.Leaf) gx3))
                 refine LWp.o 59 (B (!x3.Leaf)) ?_
                 refine LWp.o 60 (B (!x3.Leaf)) ?_
                 refine LWp.o 61 (B (!x3.Leaf)) ?_
                 refine LWp.o 62 (B (!x3.Leaf)) ?_
                 refine LWp.nil ?_
                 cases h
                 exact ⟨_, rfl, rfl, rfl⟩
               refine LWp.sh 47 ?_
               refine LWp.sh 48 ?_
               refine LWp.sh 49 ?_
               refine LWp.sh 50 ?_
               refine LWp.sh 51 ?_
               refine LWp.sh 52 ?_
               refine LWp.sh 53 ?_
               refine LWp.sh 54 ?_
               refine LWp.sh 55 ?_
               refine LWp.sh 56 ?_
               refine LWp.sh 57 ?_
               refine LWp.sh 58 ?_
               refine LWp.sh 59 ?_
               refine LWp.sh 60 ?_
               refine LWp.o 61 (B false) ?_
               refine LWp.o 62 (B false) ?_
               refine LWp.nil ?_
               cases h
               exact ⟨_, rfl, rfl, rfl⟩
             refine LWp.sh 43 ?_
             refine LWp.sh 44 ?_
             refine LWp.o 45 (B false) ?_
             refine LWp.o 46 (B false) ?_
             refine LWp.sh 47 ?_
             refine LWp.sh 48 ?_
             refine LWp.sh 49 ?_
             refine LWp.sh 50 ?_
             refine LWp.sh 51 ?_
             refine LWp.sh 52 ?_
             refine LWp.sh 53 ?_
             refine LWp.sh 54 ?_
             refine LWp.sh 55 ?_
             refine LWp.sh 56 ?_
             refine LWp.sh 57 ?_
             refine LWp.sh 58 ?_
             refine LWp.sh 59 ?_
             refine LWp.sh 60 ?_
             refine LWp.o 61 (B false) ?_
             refine LWp.o 62 (B false) ?_
             refine LWp.nil ?_
             cases h
             exact ⟨_, rfl, rfl, rfl⟩
           refine LWp.sh 35 ?_
           refine LWp.sh 36 ?_
           refine LWp.o 37 (B false) ?_
           refine LWp.o 38 (B false) ?_
           refine LWp.o 39 (.one (.ptr (.box 4) 0 [] 0)) ?_
           refine LWp.o 40 (B x1.Leaf) ?_
           refine LWp.o 41 (B (!x1.Leaf)) ?_
           refine LWp.o 42 (B (!x1.Leaf)) ?_
           refine LWp.sp h 42 (fun h => ?_) (fun h => ?_)
           · refine LWp.o 43 (I x2) ?_
             refine LWp.o 44 (B (x2 != (-1))) ?_
             refine LWp.o 45 (B (x2 != (-1))) ?_
             refine LWp.o 46 (B (x2 != (-1))) ?_
             refine LWp.sp h 46 (fun h => ?_) (fun h => ?_)
             · refine LWp.o 47 (I x2) ?_
               refine LWp.o 48 (I yI1) ?_
               refine LWp.o 49 (I (sb yI1 1)) ?_
               refine LWp.cl h 50 (fun v2 => (B v2)) rfl (l := [.sv (.one (.int .i64 x2)), .sv (.one (.int .i64 0)), .sv (.one (.int .i64 (sb yI1 1)))]) rfl (fun v hv => s_l01In_t x2 0 (sb yI1 1) v hv) (.inl rfl) ?_
               intro v2 gv2 h
               refine LWp.o 51 (B (!v2)) ?_
               refine LWp.o 52 (B (!v2)) ?_
               refine LWp.sp h 52 (fun h => ?_) (fun h => ?_)
               · refine LWp.sh 53 ?_
                 refine LWp.sh 54 ?_
                 refine LWp.sh 55 ?_
                 refine LWp.sh 56 ?_
                 refine LWp.sh 57 ?_
                 refine LWp.sh 58 ?_
                 refine LWp.sh 59 ?_
                 refine LWp.o 60 (B true) ?_
                 refine LWp.o 61 (B true) ?_
                 refine LWp.o 62 (B true) ?_
                 refine LWp.nil ?_
                 cases h
                 exact ⟨_, rfl, rfl, rfl⟩
               refine LWp.o 53 (.one (.ptr (.box 1) 0 [] 0)) ?_
               refine LWp.o 54 (.one (.sl false 175 2 (encs (c175 false) xA.Knots))) ?_
               refine LWp.o 55 (I x2) ?_
               refine LWp.p h 56 (fun _ => (.one (.ptr (.slot 54) 1 [0] (Int.toNat x2 * 2 + 0)))) ?_ (fun x4 gx4 => st_pure (p_ix (k175 false) (.slot 54) [] 0 gx4))
               intro x4 gx4 h
               refine LWp.o 57 (.one (.ptr (.slot 54) 1 [0] (Int.toNat x2 * 2 + 0))) ?_ (st_pure (p_fa (k175 false) (.slot 54) [0] 0 gx4))
               refine LWp.o 58 (B x4.Leaf) ?_ (st_pure (p_lc (k175 false) (.slot 54) [0] 0 (.bool x4.Leaf) gx4))
               refine LWp.o 59 (B (!x4.Leaf)) ?_
               refine LWp.o 60 (B (!x4.Leaf)) ?_
               refine LWp.o 61 (B (!x4.Leaf)) ?_
               refine LWp.o 62 (B (!x4.Leaf)) ?_
               refine LWp.nil ?_
               cases h
               exact ⟨_, rfl, rfl, rfl⟩
             refine LWp.sh 47 ?_
             refine LWp.sh 48 ?_
             refine LWp.sh 49 ?_
             refine LWp.sh 50 ?_
             refine LWp.sh 51 ?_
             refine LWp.sh 52 ?_
             refine LWp.sh 53 ?_
             refine LWp.sh 54 ?_
             refine LWp.sh 55 ?_
             refine LWp.sh 56 ?_
             refine LWp.sh 57 ?_
             refine LWp.sh 58 ?_
             refine LWp.sh 59 ?_
             refine LWp.sh 60 ?_
             refine LWp.o 61 (B false) ?_
             refine LWp.o 62 (B false) ?_
             refine LWp.nil ?_
             cases h
             exact ⟨_, rfl, rfl, rfl⟩
           refine LWp.sh 43 ?_
           refine LWp.sh 44 ?_
           refine LWp.o 45 (B false) ?_
           refine LWp.o 46 (B false) ?_
           refine LWp.sh 47 ?_
           refine LWp.sh 48 ?_
           refine LWp.sh 49 ?_
           refine LWp.sh 50 ?_
           refine LWp.sh 51 ?_
           refine LWp.sh 52 ?_
           refine LWp.sh 53 ?_
           refine LWp.sh 54 ?_
           refine LWp.sh 55 ?_
           refine LWp.sh 56 ?_
           refine LWp.sh 57 ?_
           refine LWp.sh 58 ?_
           refine LWp.sh 59 ?_
           refine LWp.sh 60 ?_
           refine LWp.o 61 (B false) ?_
           refine LWp.o 62 (B false) ?_
           refine LWp.nil ?_
           cases h
           exact ⟨_, rfl, rfl, rfl⟩
         intro j1 h E hE
         refine nt_wp hE ?_
         change Wp _ _ _ (s_ArenaOk_H5 xA yI1 x1 yK1 j1) _
         refine Wp.c h (fun h => ?_) (fun h => ?_)
         · refine Wp.seq (Wp.region ?_)
           refine LWp.o 2 (B false) ?_
           refine LWp.nil ?_
           cases h
           replace h : some _ = some _ := hk2 _ rfl
           cases h
           replace h : some _ = some _ := hk1 _ rfl
           cases h
           exact Wp.ret ⟨.inr rfl, _, _, rfl, rfl⟩
         refine Wp.skip ?_
         refine Wp.region ?_
         refine LWp.o 25 (I yK1) ?_
         refine LWp.o 26 (I (ad yK1 1)) ?_
         refine LWp.o 5 (I (ad yK1 1)) ?_
         refine LWp.nil ?_
         cases h
         exact ⟨_, rfl, rfl, rfl⟩
       refine Wp.exit ?_
       cases h
       exact ⟨_, rfl, rfl, rfl⟩
     intro v3 h E hE
     refine nt_wp hE ?_
     change Wp _ _ _ (s_ArenaOk_H4 xA yI1) _
     refine Wp.region ?_
     refine LWp.o 12 (I yI1) ?_
     refine LWp.o 13 (I (ad yI1 1)) ?_
     refine LWp.o 3 (I (ad yI1 1)) ?_
     refine LWp.nil ?_
     cases h
     exact ⟨_, rfl, rfl, rfl⟩
   refine Wp.exit ?_
   cases h
   exact ⟨_, rfl, rfl, rfl⟩
 intro v4 h E hE
 refine nt_wp hE ?_
 change Wp _ _ _ s_ArenaOk_H2 _
 refine Wp.seq (Wp.region ?_)
 refine LWp.o 2 (B true) ?_
 refine LWp.nil ?_
 cases h
 exact Wp.ret ⟨.inr rfl, _, _, rfl, rfl⟩
theorem s_l11Root_t (xA : Arena) (xRoot : Int) (r : Bool) (h : s_l11Root xA xRoot = some r) : Gives Tryz.prog 88 [.sv (.agg [.sl false 175 2 (encs (c175 false) xA.Knots)]), .sv (I xRoot)] (B r) (List.replicate 2 .gone) := by
 unfold s_l11Root at h
 refine gives_of Tryz.func88 rfl ?_
 rw [Tryz.ntmps88]
 refine Wp.seq (Wp.region ?_)
 refine LWp.b [] 2 [.sl false 175 2 (encs (c175 false) xA.Knots)] ?_
 refine LWp.o 4 (B false) ?_
 refine LWp.nil ?_
 refine Wp.seq (Wp.region ?_)
 refine LWp.o 5 (I xRoot) ?_
 refine LWp.o 6 (B (xRoot == (-1))) ?_
 refine LWp.o 7 (B (xRoot == (-1))) ?_
 refine LWp.sp h 7 (fun h => ?_) (fun h => ?_)
 · refine LWp.sh 8 ?_
   refine LWp.sh 9 ?_
   refine LWp.sh 10 ?_
   refine LWp.sh 11 ?_
   refine LWp.sh 12 ?_
   refine LWp.sh 13 ?_
   refine LWp.sh 14 ?_
   refine LWp.sh 15 ?_
   refine LWp.sh 16 ?_
   refine LWp.sh 17 ?_
   refine LWp.sh 18 ?_
   refine LWp.sh 19 ?_
   refine LWp.sh 20 ?_
   refine LWp.sh 21 ?_
   refine LWp.sh 22 ?_
   refine LWp.o 23 (B true) ?_
   refine LWp.o 4 (B true) ?_
   refine LWp.nil ?_
   cases h
   exact Wp.ret ⟨.inr rfl, _, _, rfl, rfl⟩
 refine LWp.o 8 (I xRoot) ?_
 refine LWp.o 9 (.one (.ptr (.box 2) 1 [] 0)) ?_
 refine LWp.o 10 (.one (.sl false 175 2 (encs (c175 false) xA.Knots))) ?_
 refine LWp.o 11 (I (ln xA.Knots)) ?_ (st_pure (p_ln (k175 false) xA.Knots))
 refine LWp.o 12 (I (sb (ln xA.Knots) 1)) ?_
 refine LWp.cl h 13 (fun v1 => (B v1)) rfl (l := [.sv (.one (.int .i64 xRoot)), .sv (.one (.int .i64 0)), .sv (.one (.int .i64 (sb (ln xA.Knots) 1)))]) rfl (fun v hv => s_l01In_t xRoot 0 (sb (ln xA.Knots) 1) v hv) (.inl rfl) ?_
 intro v1 gv1 h
 refine LWp.o 14 (B v1) ?_
 refine LWp.sp h 14 (fun h => ?_) (fun h => ?_)
 · refine LWp.o 15 (.one (.ptr (.box 2) 1 [] 0)) ?_
   refine LWp.o 16 (.one (.sl false 175 2 (encs (c175 false) xA.Knots))) ?_
   refine LWp.o 17 (I xRoot) ?_
   refine LWp.p h 18 (fun _ => (.one (.ptr (.slot 16) 1 [0] (Int.toNat xRoot * 2 + 0)))) ?_ (fun x1 gx1 => st_pure (p_ix (k175 false) (.slot 16) [] 0 gx1))
   intro x1 gx1 h
   refine LWp.o 19 (.one (.ptr (.slot 16) 1 [0] (Int.toNat xRoot * 2 + 0))) ?_ (st_pure (p_fa (k175 false) (.slot 16) [0] 0 gx1))
   refine LWp.o 20 (B x1.Leaf) ?_ (st_pure (p_lc (k175 false) (.slot 16) [0] 0 (.bool x1.Leaf) gx1))
   refine LWp.o 21 (B (!x1.Leaf)) ?_
   refine LWp.o 22 (B (!x1.Leaf)) ?_
   refine LWp.o 23 (B (!x1.Leaf)) ?_
   refine LWp.o 4 (B (!x1.Leaf)) ?_
   refine LWp.nil ?_
   cases h
   exact Wp.ret ⟨.inr rfl, _, _, rfl, rfl⟩
 refine LWp.sh 15 ?_
 refine LWp.sh 16 ?_
 refine LWp.sh 17 ?_
 refine LWp.sh 18 ?_
 refine LWp.sh 19 ?_
 refine LWp.sh 20 ?_
 refine LWp.sh 21 ?_
 refine LWp.o 22 (B false) ?_
 refine LWp.o 23 (B false) ?_
 refine LWp.o 4 (B false) ?_
 refine LWp.nil ?_
 cases h
 exact Wp.ret ⟨.inr rfl, _, _, rfl, rfl⟩
theorem s_l11Get_t (xA : Arena) (xRoot : Int) (xSector : Int) (r : Int) (h : s_l11Get xA xRoot xSector = some r) : Gives Tryz.prog 89 [.sv (.agg [.sl false 175 2 (encs (c175 false) xA.Knots)]), .sv (I xRoot), .sv (I xSector)] (I r) (List.replicate 3 .gone) := by
 unfold s_l11Get at h
 refine gives_of Tryz.func89 rfl ?_
 rw [Tryz.ntmps89]
 refine Wp.seq (Wp.region ?_)
 refine LWp.b [] 3 [.sl false 175 2 (encs (c175 false) xA.Knots)] ?_
 refine LWp.o 6 (I 0) ?_
 refine LWp.nil ?_
 refine Wp.seq ?_
 refine Wp.seq (Wp.region ?_)
 refine LWp.o 8 (I xRoot) ?_
 refine LWp.o 9 (B (decide (xRoot < 0))) ?_
 refine LWp.nil ?_
 refine Wp.c h (fun h => ?_) (fun h => ?_)
 · refine Wp.seq (Wp.region ?_)
   refine LWp.o 6 (I 0) ?_
   refine LWp.nil ?_
   cases h
   exact Wp.ret ⟨.inr rfl, _, _, rfl, rfl⟩
 refine Wp.skip ?_
 refine Wp.seq (Wp.region ?_)
 refine LWp.o 10 (.one (.ptr (.box 3) 1 [] 0)) ?_
 refine LWp.o 11 (.one (.sl false 175 2 (encs (c175 false) xA.Knots))) ?_
 refine LWp.o 12 (I xRoot) ?_
 refine LWp.p h 13 (fun _ => (.one (.ptr (.slot 11) 1 [0] (Int.toNat xRoot * 2 + 0)))) ?_ (fun x1 gx1 => st_pure (p_ix (k175 false) (.slot 11) [] 0 gx1))
 intro x1 gx1 h
 refine LWp.o 14 (.one (.ptr (.slot 11) 1 [0] (Int.toNat xRoot * 2 + 1))) ?_ (st_pure (p_fa (k175 false) (.slot 11) [0] 0 gx1))
 refine LWp.o 15 (.one (.sl false 3 1 (encs c3 x1.Kids))) ?_ (st_pure (p_lc (k175 false) (.slot 11) [0] 1 (.sl false 3 1 (encs c3 x1.Kids)) gx1))
 refine LWp.o 16 (I xSector) ?_
 refine LWp.o 17 (I (qu xSector 4)) ?_
 refine LWp.p h 18 (fun _ => (.one (.ptr (.slot 15) 1 [0] (Int.toNat (qu xSector 4) * 1 + 0)))) ?_ (fun x2 gx2 => st_pure (p_ix k3 (.slot 15) [] 0 gx2))
 intro x2 gx2 h
 refine LWp.o 19 (I x2) ?_ (st_pure (p_lc k3 (.slot 15) [0] 0 (.int .i64 x2) gx2))
 refine LWp.o 7 (I x2) ?_
 refine LWp.nil ?_
 refine Wp.seq ?_
 refine Wp.seq (Wp.region ?_)
 refine LWp.o 20 (I x2) ?_
 refine LWp.o 21 (B (decide (x2 < 0))) ?_
 refine LWp.nil ?_
 refine Wp.c h (fun h => ?_) (fun h => ?_)
 · refine Wp.seq (Wp.region ?_)
   refine LWp.o 6 (I 0) ?_
   refine LWp.nil ?_
   cases h
   exact Wp.ret ⟨.inr rfl, _, _, rfl, rfl⟩
 refine Wp.skip ?_
 refine Wp.seq (Wp.region ?_)
 refine LWp.o 22 (.one (.ptr (.box 3) 1 [] 0)) ?_
 refine LWp.o 23 (.one (.sl false 175 2 (encs (c175 false) xA.Knots))) ?_
 refine LWp.o 24 (I x2) ?_
 refine LWp.p h 25 (fun _ => (.one (.ptr (.slot 23) 1 [0] (Int.toNat x2 * 2 + 0)))) ?_ (fun x3 gx3 => st_pure (p_ix (k175 false) (.slot 23) [] 0 gx3))
 intro x3 gx3 h
 refine LWp.o 26 (.one (.ptr (.slot 23) 1 [0] (Int.toNat x2 * 2 + 1))) ?_ (st_pure (p_fa (k175 false) (.slot 23) [0] 0 gx3))
 refine LWp.o 27 (.one (.sl false 3 1 (encs c3 x3.Kids))) ?_ (st_pure (p_lc (k175 false) (.slot 23) [0] 1 (.sl false 3 1 (encs c3 x3.Kids)) gx3))
 refine LWp.o 28 (I xSector) ?_
 refine LWp.o 29 (I (Int.tmod xSector 4)) ?_
 refine LWp.p h 30 (fun _ => (.one (.ptr (.slot 27) 1 [0] (Int.toNat (Int.tmod xSector 4) * 1 + 0)))) ?_ (fun x4 gx4 => st_pure (p_ix k3 (.slot 27) [] 0 gx4))
 intro x4 gx4 h
 refine LWp.o 31 (I x4) ?_ (st_pure (p_lc k3 (.slot 27) [0] 0 (.int .i64 x4) gx4))
 refine LWp.o 6 (I x4) ?_
 refine LWp.nil ?_
 cases h
 exact Wp.ret ⟨.inr rfl, _, _, rfl, rfl⟩
def s_GetAt_H1 (xA : Arena) (xRoot : Int) (xSector : Int) (z1 : Bool) : St := mkSt [(1, (I xRoot)), (2, (I xSector)), (3, (.one (.ptr (.box 3) 0 [] 0))), (20, (B z1))] [(.box 3, [.sl false 175 2 (encs (c175 false) xA.Knots)])]
theorem s_GetAt_t (xA : Arena) (xRoot : Int) (xSector : Int) (r : Int) (h : s_GetAt xA xRoot xSector = some r) : Gives Tryz.prog 63 [.sv (.agg [.sl false 175 2 (encs (c175 false) xA.Knots)]), .sv (I xRoot), .sv (I xSector)] (I r) (List.replicate 3 .gone) := by
 unfold s_GetAt at h
 refine gives_of Tryz.func63 rfl ?_
 rw [Tryz.ntmps63]
 refine Wp.seq (Wp.region ?_)
 refine LWp.b [] 3 [.sl false 175 2 (encs (c175 false) xA.Knots)] ?_
 refine LWp.o 6 (I 0) ?_
 refine LWp.nil ?_
 refine Wp.seq ?_
 refine Wp.seq ?_
 refine Wp.j1 h [1, 2, 3, 20] [.box 3] (fun a => (s_GetAt_H1 xA xRoot xSector a)) ?_ ?_
 · intro a h
   refine Wp.region ?_
   refine LWp.o 7 (.agg [.sl false 175 2 (encs (c175 false) xA.Knots)]) ?_
   refine LWp.cl h 8 (fun v1 => (B v1)) rfl (l := [.sv (.agg [.sl false 175 2 (encs (c175 false) xA.Knots)])]) rfl (fun v hv => s_ArenaOk_t xA v hv) (.inl rfl) ?_
   intro v1 gv1 h
   refine LWp.o 9 (B (!v1)) ?_
   refine LWp.o 10 (B (!v1)) ?_
   refine LWp.sp h 10 (fun h => ?_) (fun h => ?_)
   · refine LWp.sh 11 ?_
     refine LWp.sh 12 ?_
     refine LWp.sh 13 ?_
     refine LWp.sh 14 ?_
     refine LWp.o 15 (B true) ?_
     refine LWp.o 16 (B true) ?_
     refine LWp.sh 17 ?_
     refine LWp.sh 18 ?_
     refine LWp.sh 19 ?_
     refine LWp.o 20 (B true) ?_
     refine LWp.nil ?_
     cases h
     exact ⟨_, rfl, rfl, rfl⟩
   refine LWp.o 11 (.agg [.sl false 175 2 (encs (c175 false) xA.Knots)]) ?_
   refine LWp.o 12 (I xRoot) ?_
   refine LWp.cl h 13 (fun v2 => (B v2)) rfl (l := [.sv (.agg [.sl false 175 2 (encs (c175 false) xA.Knots)]), .sv (.one (.int .i64 xRoot))]) rfl (fun v hv => s_l11Root_t xA xRoot v hv) (.inl rfl) ?_
   intro v2 gv2 h
   refine LWp.o 14 (B (!v2)) ?_
   refine LWp.o 15 (B (!v2)) ?_
   refine LWp.o 16 (B (!v2)) ?_
   refine LWp.sp h 16 (fun h => ?_) (fun h => ?_)
   · refine LWp.sh 17 ?_
     refine LWp.sh 18 ?_
     refine LWp.sh 19 ?_
     refine LWp.o 20 (B true) ?_
     refine LWp.nil ?_
     cases h
     exact ⟨_, rfl, rfl, rfl⟩
   refine LWp.o 17 (I xSector) ?_
   refine LWp.cl h 18 (fun v3 => (B v3)) rfl (l := [.sv (.one (.int .i64 xSector)), .sv (.one (.int .i64 0)), .sv (.one (.int .i64 15))]) rfl (fun v hv => s_l01In_t xSector 0 15 v hv) (.inl rfl) ?_
   intro v3 gv3 h
   refine LWp.o 19 (B (!v3)) ?_
   refine LWp.o 20 (B (!v3)) ?_
   refine LWp.nil ?_
   cases h
   exact ⟨_, rfl, rfl, rfl⟩
 intro j1 h E hE
 refine nt_wp hE ?_
 change Wp _ _ _ (s_GetAt_H1 xA xRoot xSector j1) _
 refine Wp.c h (fun h => ?_) (fun h => ?_)
 · refine Wp.seq (Wp.region ?_)
   refine LWp.o 6 (I 0) ?_
   refine LWp.nil ?_
   cases h
   exact Wp.ret ⟨.inr rfl, _, _, rfl, rfl⟩
 refine Wp.skip ?_
 refine Wp.seq (Wp.region ?_)
 refine LWp.o 21 (.agg [.sl false 175 2 (encs (c175 false) xA.Knots)]) ?_
 refine LWp.o 22 (I xRoot) ?_
 refine LWp.o 23 (I xSector) ?_
 refine LWp.cl h 24 (fun v4 => (I v4)) rfl (l := [.sv (.agg [.sl false 175 2 (encs (c175 false) xA.Knots)]), .sv (.one (.int .i64 xRoot)), .sv (.one (.int .i64 xSector))]) rfl (fun v hv => s_l11Get_t xA xRoot xSector v hv) (.inl rfl) ?_
 intro v4 gv4 h
 refine LWp.o 6 (I v4) ?_
 refine LWp.nil ?_
 cases h
 exact Wp.ret ⟨.inr rfl, _, _, rfl, rfl⟩
def s_AllAt_H1 (xA : Arena) (xRoot : Int) (z1 : List Int) (z2 : Int) : St := mkSt [(1, (I xRoot)), (2, (.one (.ptr (.box 2) 0 [] 0))), (5, (.one (.sl true 3 1 (encs c3 z1)))), (6, (I z2))] [(.box 2, [.sl false 175 2 (encs (c175 false) xA.Knots)])]
def s_AllAt_H2 (z3 : List Int) : St := mkSt [(5, (.one (.sl true 3 1 (encs c3 z3))))] []
theorem s_AllAt_t (xA : Arena) (xRoot : Int) (r : List Int) (h : s_AllAt xA xRoot = some r) : Gives Tryz.prog 37 [.sv (.agg [.sl false 175 2 (encs (c175 false) xA.Knots)]), .sv (I xRoot)] (.one (.sl true 3 1 (encs c3 r))) (List.replicate 2 .gone) := by
 unfold s_AllAt at h
 refine gives_of Tryz.func37 rfl ?_
 rw [Tryz.ntmps37]
 refine Wp.seq (Wp.region ?_)
 refine LWp.b [] 2 [.sl false 175 2 (encs (c175 false) xA.Knots)] ?_
 refine LWp.o 4 (.one (.sl true 3 1 (encs c3 []))) ?_
 refine LWp.nil ?_
 refine Wp.seq (Wp.region ?_)
 refine LWp.m false [] 7 (.one (.sl true 3 1 (encs c3 []))) ?_
 refine LWp.m true [(.slot 7, [.junk])] 5 (.one (.sl true 3 1 (encs c3 []))) ?_
 refine LWp.nil ?_
 refine Wp.seq ?_
 refine Wp.seq (Wp.region ?_)
 refine LWp.o 6 (I 0) ?_
 refine LWp.nil ?_
 refine Wp.l1 h [1, 2, 5, 6] [.box 2] (fun s => (s_AllAt_H1 xA xRoot s.1 s.2)) [5] [] (fun s => (s_AllAt_H2 s)) ⟨rfl, rfl⟩ ?_ ?_
 · rintro ⟨yOut1, yS1⟩ o (h : s_AllAt_b1 xA xRoot yOut1 yS1 = some o)
   unfold s_AllAt_b1 at h
   change Wp _ _ _ (s_AllAt_H1 xA xRoot yOut1 yS1) _
   refine Wp.seq ?_
   refine Wp.seq (Wp.region ?_)
   refine LWp.o 8 (I yS1) ?_
   refine LWp.o 9 (B (decide (yS1 < 16))) ?_
   refine LWp.nil ?_
   refine Wp.c h (fun h => ?_) (fun h => ?_)
   · refine Wp.skip ?_
     refine Wp.seq ?_
     refine Wp.block ?_
     refine Wp.region ?_
     refine LWp.o 12 (.one (.view (.slot 5) 0 [] 0)) ?_
     refine LWp.o 13 (.agg [.sl false 175 2 (encs (c175 false) xA.Knots)]) ?_
     refine LWp.o 14 (I xRoot) ?_
     refine LWp.o 15 (I yS1) ?_
     refine LWp.cl h 16 (fun v1 => (I v1)) rfl (l := [.sv (.agg [.sl false 175 2 (encs (c175 false) xA.Knots)]), .sv (.one (.int .i64 xRoot)), .sv (.one (.int .i64 yS1))]) rfl (fun v hv => s_GetAt_t xA xRoot yS1 v hv) (.inl rfl) ?_
     intro v1 gv1 h
     refine LWp.m false [] 17 (.one (.sl true 3 1 (encs c3 [v1]))) ?_
     refine LWp.pm h [(.slot 5, [.junk])] 18 (fun q1 => (.one (.sl true 3 1 (encs c3 q1)))) ?_ (fun q1 gq1 => s_apl k3 (fun _ => rfl) [(.slot 5, [.junk])] yOut1 gq1)
     intro q1 gq1 h
     refine LWp.m true [(.slot 18, [.junk])] 5 (.one (.sl true 3 1 (encs c3 q1))) ?_
     refine LWp.nil ?_
     refine Wp.region ?_
     refine LWp.o 10 (I yS1) ?_
     refine LWp.o 11 (I (ad yS1 1)) ?_
     refine LWp.o 6 (I (ad yS1 1)) ?_
     refine LWp.nil ?_
     cases h
     exact ⟨_, rfl, rfl, rfl⟩
   refine Wp.exit ?_
   cases h
   exact ⟨_, rfl, rfl, rfl⟩
 intro v2 h E hE
 refine nt_wp hE ?_
 change Wp _ _ _ (s_AllAt_H2 v2) _
 refine Wp.seq (Wp.region ?_)
 refine LWp.o 19 (.one (.view (.slot 5) 0 [] 0)) ?_
 refine LWp.m true [(.slot 5, [.junk])] 4 (.one (.sl true 3 1 (encs c3 v2))) ?_
 refine LWp.nil ?_
 cases h
 exact Wp.ret ⟨.inr rfl, _, _, rfl, rfl⟩
def s_l12Insert_H1 (xList : List Int) (xX : Int) (z1 : List Int) (z2 : Int) : St := mkSt [(0, (.one (.sl false 3 1 (encs c3 xList)))), (1, (I xX)), (5, (.one (.sl true 3 1 (encs c3 z1)))), (6, (I z2))] []
def s_l12Insert_H2 (xList : List Int) (xX : Int) (z3 : List Int) : St := mkSt [(0, (.one (.sl false 3 1 (encs c3 xList)))), (1, (I xX)), (5, (.one (.sl true 3 1 (encs c3 z3))))] []
def s_l12Insert_H3 (xList : List Int) (xX : Int) (z4 : List Int) : St := mkSt [(0, (.one (.sl false 3 1 (encs c3 xList)))), (1, (I xX)), (5, (.one (.sl true 3 1 (encs c3 z4))))] []
def s_l12Insert_H4 (xList : List Int) (xX : Int) (z5 : List Int) (z6 : Int) : St := mkSt [(0, (.one (.sl false 3 1 (encs c3 xList)))), (1, (I xX)), (5, (.one (.sl true 3 1 (encs c3 z5)))), (7, (I z6))] []
def s_l12Insert_H5 (z7 : List Int) : St := mkSt [(5, (.one (.sl true 3 1 (encs c3 z7))))] []
theorem s_l12Insert_t (xList : List Int) (xX : Int) (r : List Int) (h : s_l12Insert xList xX = some r) : Gives Tryz.prog 58 [.sv (.one (.sl false 3 1 (encs c3 xList))), .sv (I xX)] (.one (.sl true 3 1 (encs c3 r))) (List.replicate 2 .gone) := by
 unfold s_l12Insert at h
 refine gives_of Tryz.func58 rfl ?_
 rw [Tryz.ntmps58]
 refine Wp.seq (Wp.region ?_)
 refine LWp.o 4 (.one (.sl true 3 1 (encs c3 []))) ?_
 refine LWp.nil ?_
 refine Wp.seq (Wp.region ?_)
 refine LWp.m false [] 8 (.one (.sl true 3 1 (encs c3 []))) ?_
 refine LWp.m true [(.slot 8, [.junk])] 5 (.one (.sl true 3 1 (encs c3 []))) ?_
 refine LWp.nil ?_
 refine Wp.seq ?_
 refine Wp.seq (Wp.region ?_)
 refine LWp.o 6 (I 0) ?_
 refine LWp.nil ?_
 refine Wp.l1 h [0, 1, 5, 6] [] (fun s => (s_l12Insert_H1 xList xX s.1 s.2)) [0, 1, 5] [] (fun s => (s_l12Insert_H2 xList xX s)) ⟨rfl, rfl⟩ ?_ ?_
 · rintro ⟨yOut1, yI1⟩ o (h : s_l12Insert_b1 xList xX yOut1 yI1 = some o)
   unfold s_l12Insert_b1 at h
   change Wp _ _ _ (s_l12Insert_H1 xList xX yOut1 yI1) _
   refine Wp.seq ?_
   refine Wp.seq (Wp.region ?_)
   refine LWp.o 9 (I yI1) ?_
   refine LWp.o 10 (.one (.sl false 3 1 (encs c3 xList))) ?_
   refine LWp.o 11 (I (ln xList)) ?_ (st_pure (p_ln k3 xList))
   refine LWp.o 12 (B (decide (yI1 < (ln xList)))) ?_
   refine LWp.nil ?_
   refine Wp.c h (fun h => ?_) (fun h => ?_)
   · refine Wp.skip ?_
     refine Wp.seq ?_
     refine Wp.block ?_
     refine Wp.seq (Wp.region ?_)
     refine LWp.o 15 (.one (.sl false 3 1 (encs c3 xList))) ?_
     refine LWp.o 16 (I yI1) ?_
     refine LWp.p h 17 (fun _ => (.one (.ptr (.slot 15) 1 [0] (Int.toNat yI1 * 1 + 0)))) ?_ (fun x1 gx1 => st_pure (p_ix k3 (.slot 15) [] 0 gx1))
     intro x1 gx1 h
     refine LWp.o 18 (I x1) ?_ (st_pure (p_lc k3 (.slot 15) [0] 0 (.int .i64 x1) gx1))
     refine LWp.o 19 (I xX) ?_
     refine LWp.o 20 (B (decide (x1 < xX))) ?_
     refine LWp.nil ?_
     refine Wp.c h (fun h => ?_) (fun h => ?_)
     · refine Wp.region ?_
       refine LWp.o 21 (.one (.view (.slot 5) 0 [] 0)) ?_
       refine LWp.o 22 (.one (.sl false 3 1 (encs c3 xList))) ?_
       refine LWp.o 23 (I yI1) ?_
       refine LWp.p h 24 (fun _ => (.one (.ptr (.slot 22) 1 [0] (Int.toNat yI1 * 1 + 0)))) ?_ (fun x2 gx2 => st_pure (p_ix k3 (.slot 22) [] 0 gx2))
       intro x2 gx2 h
       refine LWp.o 25 (I x2) ?_ (st_pure (p_lc k3 (.slot 22) [0] 0 (.int .i64 x2) gx2))
       refine LWp.m false [] 26 (.one (.sl true 3 1 (encs c3 [x2]))) ?_
       refine LWp.pm h [(.slot 5, [.junk])] 27 (fun q1 => (.one (.sl true 3 1 (encs c3 q1)))) ?_ (fun q1 gq1 => s_apl k3 (fun _ => rfl) [(.slot 5, [.junk])] yOut1 gq1)
       intro q1 gq1 h
       refine LWp.m true [(.slot 27, [.junk])] 5 (.one (.sl true 3 1 (encs c3 q1))) ?_
       refine LWp.nil ?_
       refine Wp.region ?_
       refine LWp.o 13 (I yI1) ?_
       refine LWp.o 14 (I (ad yI1 1)) ?_
       refine LWp.o 6 (I (ad yI1 1)) ?_
       refine LWp.nil ?_
       cases h
       exact ⟨_, rfl, rfl, rfl⟩
     refine Wp.skip ?_
     refine Wp.region ?_
     refine LWp.o 13 (I yI1) ?_
     refine LWp.o 14 (I (ad yI1 1)) ?_
     refine LWp.o 6 (I (ad yI1 1)) ?_
     refine LWp.nil ?_
     cases h
     exact ⟨_, rfl, rfl, rfl⟩
   refine Wp.exit ?_
   cases h
   exact ⟨_, rfl, rfl, rfl⟩
 intro v1 h E hE
 refine nt_wp hE ?_
 change Wp _ _ _ (s_l12Insert_H2 xList xX v1) _
 refine Wp.seq ?_
 refine Wp.seq (Wp.region ?_)
 refine LWp.o 28 (I xX) ?_
 refine LWp.o 29 (B (decide (xX > 0))) ?_
 refine LWp.nil ?_
 refine Wp.j1 h [0, 1, 5] [] (fun a => (s_l12Insert_H3 xList xX a)) ?_ ?_
 · intro a h
   refine Wp.c h (fun h => ?_) (fun h => ?_)
   · refine Wp.region ?_
     refine LWp.o 30 (.one (.view (.slot 5) 0 [] 0)) ?_
     refine LWp.o 31 (I xX) ?_
     refine LWp.m false [] 32 (.one (.sl true 3 1 (encs c3 [xX]))) ?_
     refine LWp.pm h [(.slot 5, [.junk])] 33 (fun q2 => (.one (.sl true 3 1 (encs c3 q2)))) ?_ (fun q2 gq2 => s_apl k3 (fun _ => rfl) [(.slot 5, [.junk])] v1 gq2)
     intro q2 gq2 h
     refine LWp.m true [(.slot 33, [.junk])] 5 (.one (.sl true 3 1 (encs c3 q2))) ?_
     refine LWp.nil ?_
     cases h
     exact ⟨_, rfl, rfl, rfl⟩
   refine Wp.skip ?_
   cases h
   exact ⟨_, rfl, rfl, rfl⟩
 intro j1 h E hE
 refine nt_wp hE ?_
 change Wp _ _ _ (s_l12Insert_H3 xList xX j1) _
 refine Wp.seq ?_
 refine Wp.seq (Wp.region ?_)
 refine LWp.o 7 (I 0) ?_
 refine LWp.nil ?_
 refine Wp.l1 h [0, 1, 5, 7] [] (fun s => (s_l12Insert_H4 xList xX s.1 s.2)) [5] [] (fun s => (s_l12Insert_H5 s)) ⟨rfl, rfl⟩ ?_ ?_
 · rintro ⟨yOut2, yI2⟩ o (h : s_l12Insert_b2 xList xX yOut2 yI2 = some o)
   unfold s_l12Insert_b2 at h
   change Wp _ _ _ (s_l12Insert_H4 xList xX yOut2 yI2) _
   refine Wp.seq ?_
   refine Wp.seq (Wp.region ?_)
   refine LWp.o 34 (I yI2) ?_
   refine LWp.o 35 (.one (.sl false 3 1 (encs c3 xList))) ?_
   refine LWp.o 36 (I (ln xList)) ?_ (st_pure (p_ln k3 xList))
   refine LWp.o 37 (B (decide (yI2 < (ln xList)))) ?_
   refine LWp.nil ?_
   refine Wp.c h (fun h => ?_) (fun h => ?_)
   · refine Wp.skip ?_
     refine Wp.seq ?_
     refine Wp.block ?_
     refine Wp.seq (Wp.region ?_)
     refine LWp.o 40 (.one (.sl false 3 1 (encs c3 xList))) ?_
     refine LWp.o 41 (I yI2) ?_
     refine LWp.p h 42 (fun _ => (.one (.ptr (.slot 40) 1 [0] (Int.toNat yI2 * 1 + 0)))) ?_ (fun x3 gx3 => st_pure (p_ix k3 (.slot 40) [] 0 gx3))
     intro x3 gx3 h
     refine LWp.o 43 (I x3) ?_ (st_pure (p_lc k3 (.slot 40) [0] 0 (.int .i64 x3) gx3))
     refine LWp.o 44 (I xX) ?_
     refine LWp.o 45 (B (decide (x3 > xX))) ?_
     refine LWp.nil ?_
     refine Wp.c h (fun h => ?_) (fun h => ?_)
     · refine Wp.region ?_
       refine LWp.o 46 (.one (.view (.slot 5) 0 [] 0)) ?_
       refine LWp.o 47 (.one (.sl false 3 1 (encs c3 xList))) ?_
       refine LWp.o 48 (I yI2) ?_
       refine LWp.p h 49 (fun _ => (.one (.ptr (.slot 47) 1 [0] (Int.toNat yI2 * 1 + 0)))) ?_ (fun x4 gx4 => st_pure (p_ix k3 (.slot 47) [] 0 gx4))
       intro x4 gx4 h
       refine LWp.o 50 (I x4) ?_ (st_pure (p_lc k3 (.slot 47) [0] 0 (.int .i64 x4) gx4))
       refine LWp.m false [] 51 (.one (.sl true 3 1 (encs c3 [x4]))) ?_
       refine LWp.pm h [(.slot 5, [.junk])] 52 (fun q3 => (.one (.sl true 3 1 (encs c3 q3)))) ?_ (fun q3 gq3 => s_apl k3 (fun _ => rfl) [(.slot 5, [.junk])] yOut2 gq3)
       intro q3 gq3 h
       refine LWp.m true [(.slot 52, [.junk])] 5 (.one (.sl true 3 1 (encs c3 q3))) ?_
       refine LWp.nil ?_
       refine Wp.region ?_
       refine LWp.o 38 (I yI2) ?_
       refine LWp.o 39 (I (ad yI2 1)) ?_
       refine LWp.o 7 (I (ad yI2 1)) ?_
       refine LWp.nil ?_
       cases h
       exact ⟨_, rfl, rfl, rfl⟩
     refine Wp.skip ?_
     refine Wp.region ?_
     refine LWp.o 38 (I yI2) ?_
     refine LWp.o 39 (I (ad yI2 1)) ?_
     refine LWp.o 7 (I (ad yI2 1)) ?_
     refine LWp.nil ?_
     cases h
     exact ⟨_, rfl, rfl, rfl⟩
   refine Wp.exit ?_
   cases h
   exact ⟨_, rfl, rfl, rfl⟩
 intro v2 h E hE
 refine nt_wp hE ?_
 change Wp _ _ _ (s_l12Insert_H5 v2) _
 refine Wp.seq (Wp.region ?_)
 refine LWp.o 53 (.one (.view (.slot 5) 0 [] 0)) ?_
 refine LWp.m true [(.slot 5, [.junk])] 4 (.one (.sl true 3 1 (encs c3 v2))) ?_
 refine LWp.nil ?_
 cases h
 exact Wp.ret ⟨.inr rfl, _, _, rfl, rfl⟩
def s_LiveOf_H1 (xS : Store) (z1 : List Int) (z2 : Int) : St := mkSt [(1, (.one (.ptr (.box 1) 0 [] 0))), (3, (.one (.sl true 3 1 (encs c3 z1)))), (4, (I z2))] [(.box 1, [.sl false 87 2 (encs c87 xS.Vols), .sl false 175 2 (encs (c175 false) xS.Arena.Knots), .int .i64 xS.Next])]
def s_LiveOf_H2 (z3 : List Int) : St := mkSt [(3, (.one (.sl true 3 1 (encs c3 z3))))] []
def s_LiveOf_H3 (xS : Store) (yI1 : Int) (v1 : List Int) (z4 : List Int) (z5 : Int) : St := mkSt [(1, (.one (.ptr (.box 1) 0 [] 0))), (3, (.one (.sl true 3 1 (encs c3 z4)))), (4, (I yI1)), (5, (.one (.sl true 3 1 (encs c3 v1)))), (6, (I z5))] [(.box 1, [.sl false 87 2 (encs c87 xS.Vols), .sl false 175 2 (encs (c175 false) xS.Arena.Knots), .int .i64 xS.Next])]
def s_LiveOf_H4 (xS : Store) (yI1 : Int) (z6 : List Int) : St := mkSt [(1, (.one (.ptr (.box 1) 0 [] 0))), (3, (.one (.sl true 3 1 (encs c3 z6)))), (4, (I yI1))] [(.box 1, [.sl false 87 2 (encs c87 xS.Vols), .sl false 175 2 (encs (c175 false) xS.Arena.Knots), .int .i64 xS.Next])]
theorem s_LiveOf_t (xS : Store) (r : List Int) (h : s_LiveOf xS = some r) : Gives Tryz.prog 33 [.sv (.agg [.sl false 87 2 (encs c87 xS.Vols), .sl false 175 2 (encs (c175 false) xS.Arena.Knots), .int .i64 xS.Next])] (.one (.sl true 3 1 (encs c3 r))) (List.replicate 1 .gone) := by
 unfold s_LiveOf at h
 refine gives_of Tryz.func33 rfl ?_
 rw [Tryz.ntmps33]
 refine Wp.seq (Wp.region ?_)
 refine LWp.b [] 1 [.sl false 87 2 (encs c87 xS.Vols), .sl false 175 2 (encs (c175 false) xS.Arena.Knots), .int .i64 xS.Next] ?_
 refine LWp.o 2 (.one (.sl true 3 1 (encs c3 []))) ?_
 refine LWp.nil ?_
 refine Wp.seq (Wp.region ?_)
 refine LWp.m false [] 7 (.one (.sl true 3 1 (encs c3 []))) ?_
 refine LWp.m true [(.slot 7, [.junk])] 3 (.one (.sl true 3 1 (encs c3 []))) ?_
 refine LWp.nil ?_
 refine Wp.seq ?_
 refine Wp.seq (Wp.region ?_)
 refine LWp.o 4 (I 0) ?_
 refine LWp.nil ?_
 refine Wp.l1 h [1, 3, 4] [.box 1] (fun s => (s_LiveOf_H1 xS s.1 s.2)) [3] [] (fun s => (s_LiveOf_H2 s)) ⟨rfl, rfl⟩ ?_ ?_
 · rintro ⟨yOut1, yI1⟩ o (h : s_LiveOf_b1 xS yOut1 yI1 = some o)
   unfold s_LiveOf_b1 at h
   change Wp _ _ _ (s_LiveOf_H1 xS yOut1 yI1) _
   refine Wp.seq ?_
   refine Wp.seq (Wp.region ?_)
   refine LWp.o 8 (I yI1) ?_
   refine LWp.o 9 (.one (.ptr (.box 1) 0 [] 0)) ?_
   refine LWp.o 10 (.one (.sl false 87 2 (encs c87 xS.Vols))) ?_
   refine LWp.o 11 (I (ln xS.Vols)) ?_ (st_pure (p_ln k87 xS.Vols))
   refine LWp.o 12 (B (decide (yI1 < (ln xS.Vols)))) ?_
   refine LWp.nil ?_
   refine Wp.c h (fun h => ?_) (fun h => ?_)
   · refine Wp.skip ?_
     refine Wp.seq ?_
     refine Wp.block ?_
     refine Wp.seq ?_
     refine Wp.regionT 8 mixed (by decide +kernel) ?_
     refine SWp.o 15 (.one (.ptr (.box 1) 0 [] 1)) ?_
     refine SWp.o 16 (.agg [.sl false 175 2 (encs (c175 false) xS.Arena.Knots)]) ?_
     refine SWp.o 17 (.one (.ptr (.box 1) 0 [] 0)) ?_
     refine SWp.o 18 (.one (.sl false 87 2 (encs c87 xS.Vols))) ?_
     refine SWp.o 19 (I yI1) ?_
     refine SWp.p h 20 (fun _ => (.one (.ptr (.slot 18) 1 [0] (Int.toNat yI1 * 2 + 0)))) ?_ (fun x1 gx1 => sl_pure (p_ix k87 (.slot 18) [] 0 gx1))
     intro x1 gx1 h
     refine SWp.o 21 (.one (.ptr (.slot 18) 1 [0] (Int.toNat yI1 * 2 + 1))) ?_ (sl_pure (p_fa k87 (.slot 18) [0] 0 gx1))
     refine SWp.o 22 (I x1.Root) ?_ (sl_pure (p_lc k87 (.slot 18) [0] 1 (.int .i64 x1.Root) gx1))
     refine SWp.nil ?_
     refine LWp.cl h 23 (fun v1 => (.one (.sl true 3 1 (encs c3 v1)))) rfl (l := [.sv (.agg [.sl false 175 2 (encs (c175 false) xS.Arena.Knots)]), .sv (.one (.int .i64 x1.Root))]) rfl (fun v hv => s_AllAt_t xS.Arena x1.Root v hv) (.inl rfl) ?_
     intro v1 gv1 h
     refine LWp.m true [(.slot 23, [.junk])] 5 (.one (.sl true 3 1 (encs c3 v1))) ?_
     refine LWp.nil ?_
     refine Wp.seq (Wp.region ?_)
     refine LWp.o 6 (I 0) ?_
     refine LWp.nil ?_
     refine Wp.l1 h [1, 3, 4, 5, 6] [.box 1] (fun s => (s_LiveOf_H3 xS yI1 v1 s.1 s.2)) [1, 3, 4] [.box 1] (fun s => (s_LiveOf_H4 xS yI1 s)) ⟨rfl, rfl⟩ ?_ ?_
     · rintro ⟨yOut2, yK1⟩ o (h : s_LiveOf_b2 v1 yOut2 yK1 = some o)
       unfold s_LiveOf_b2 at h
       change Wp _ _ _ (s_LiveOf_H3 xS yI1 v1 yOut2 yK1) _
       refine Wp.seq ?_
       refine Wp.seq (Wp.region ?_)
       refine LWp.o 24 (I yK1) ?_
       refine LWp.o 25 (.one (.view (.slot 5) 0 [] 0)) ?_
       refine LWp.o 26 (I (ln v1)) ?_ (st_pure (p_ln k3 v1))
       refine LWp.o 27 (B (decide (yK1 < (ln v1)))) ?_
       refine LWp.nil ?_
       refine Wp.c h (fun h => ?_) (fun h => ?_)
       · refine Wp.skip ?_
         refine Wp.seq ?_
         refine Wp.block ?_
         refine Wp.region ?_
         refine LWp.o 30 (.one (.view (.slot 3) 0 [] 0)) ?_
         refine LWp.o 31 (.one (.view (.slot 5) 0 [] 0)) ?_
         refine LWp.o 32 (I yK1) ?_
         refine LWp.p h 33 (fun _ => (.one (.ptr (.slot 5) 0 [0] (Int.toNat yK1 * 1 + 0)))) ?_ (fun x2 gx2 => st_pure (p_ix k3 (.slot 5) [] 0 gx2))
         intro x2 gx2 h
         refine LWp.o 34 (I x2) ?_ (st_pure (p_lc k3 (.slot 5) [0] 0 (.int .i64 x2) gx2))
         refine LWp.cl h 35 (fun v2 => (.one (.sl true 3 1 (encs c3 v2)))) rfl (l := [.sv (.one (.sl false 3 1 (shares (encs c3 yOut2)))), .sv (.one (.int .i64 x2))]) rfl (fun v hv => cg (l := [.sv (.one (.sl false 3 1 (shares (encs c3 yOut2)))), .sv (.one (.int .i64 x2))]) (by simp only [sh3]) (s_l12Insert_t yOut2 x2 v hv)) (.inr (fun v => by simp [svShared, svShareds, hasShareds, hasShared, ns3])) ?_
         intro v2 gv2 h
         refine LWp.m true [(.slot 35, [.junk])] 3 (.one (.sl true 3 1 (encs c3 v2))) ?_
         refine LWp.nil ?_
         refine Wp.region ?_
         refine LWp.o 28 (I yK1) ?_
         refine LWp.o 29 (I (ad yK1 1)) ?_
         refine LWp.o 6 (I (ad yK1 1)) ?_
         refine LWp.nil ?_
         cases h
         exact ⟨_, rfl, rfl, rfl⟩
       refine Wp.exit ?_
       cases h
       exact ⟨_, rfl, rfl, rfl⟩
     intro v3 h E hE
     refine nt_wp hE ?_
     change Wp _ _ _ (s_LiveOf_H4 xS yI1 v3) _
     refine Wp.region ?_
     refine LWp.o 13 (I yI1) ?_
     refine LWp.o 14 (I (ad yI1 1)) ?_
     refine LWp.o 4 (I (ad yI1 1)) ?_
     refine LWp.nil ?_
     cases h
     exact ⟨_, rfl, rfl, rfl⟩
   refine Wp.exit ?_
   cases h
   exact ⟨_, rfl, rfl, rfl⟩
 intro v4 h E hE
 refine nt_wp hE ?_
 change Wp _ _ _ (s_LiveOf_H2 v4) _
 refine Wp.seq (Wp.region ?_)
 refine LWp.o 36 (.one (.view (.slot 3) 0 [] 0)) ?_
 refine LWp.m true [(.slot 3, [.junk])] 2 (.one (.sl true 3 1 (encs c3 v4))) ?_
 refine LWp.nil ?_
 cases h
 exact Wp.ret ⟨.inr rfl, _, _, rfl, rfl⟩
def s_ReadLeaf_H1 (xF : Flash) (xB : Int) (xLeaf : Int) (z1 : Bool) : St := mkSt [(1, (I xB)), (2, (I xLeaf)), (3, (.one (.ptr (.box 3) 0 [] 0))), (40, (B z1))] [(.box 3, [.sl false 113 3 (encs (c113 false) xF.Blocks)])]
theorem s_ReadLeaf_t (xF : Flash) (xB : Int) (xLeaf : Int) (r : ByteArray × Bool) (h : s_ReadLeaf xF xB xLeaf = some r) : Gives Tryz.prog 59 [.sv (.agg [.sl false 113 3 (encs (c113 false) xF.Blocks)]), .sv (I xB), .sv (I xLeaf)] (.tup [(Y r.1), (B r.2)]) (List.replicate 3 .gone) := by
 unfold s_ReadLeaf at h
 refine gives_of Tryz.func59 rfl ?_
 rw [Tryz.ntmps59]
 refine Wp.seq (Wp.region ?_)
 refine LWp.b [] 3 [.sl false 113 3 (encs (c113 false) xF.Blocks)] ?_
 refine LWp.o 6 (Y (bs [])) ?_
 refine LWp.o 7 (B false) ?_
 refine LWp.nil ?_
 refine Wp.seq ?_
 refine Wp.seq ?_
 refine Wp.j1 h [1, 2, 3, 40] [.box 3] (fun a => (s_ReadLeaf_H1 xF xB xLeaf a)) ?_ ?_
 · intro a h
   refine Wp.region ?_
   refine LWp.o 8 (I xB) ?_
   refine LWp.o 9 (.one (.ptr (.box 3) 1 [] 0)) ?_
   refine LWp.o 10 (.one (.sl false 113 3 (encs (c113 false) xF.Blocks))) ?_
   refine LWp.o 11 (I (ln xF.Blocks)) ?_ (st_pure (p_ln (k113 false) xF.Blocks))
   refine LWp.o 12 (I (sb (ln xF.Blocks) 1)) ?_
   refine LWp.cl h 13 (fun v1 => (B v1)) rfl (l := [.sv (.one (.int .i64 xB)), .sv (.one (.int .i64 0)), .sv (.one (.int .i64 (sb (ln xF.Blocks) 1)))]) rfl (fun v hv => s_l01In_t xB 0 (sb (ln xF.Blocks) 1) v hv) (.inl rfl) ?_
   intro v1 gv1 h
   refine LWp.o 14 (B (!v1)) ?_
   refine LWp.o 15 (B (!v1)) ?_
   refine LWp.sp h 15 (fun h => ?_) (fun h => ?_)
   · refine LWp.sh 16 ?_
     refine LWp.sh 17 ?_
     refine LWp.sh 18 ?_
     refine LWp.sh 19 ?_
     refine LWp.sh 20 ?_
     refine LWp.sh 21 ?_
     refine LWp.sh 22 ?_
     refine LWp.sh 23 ?_
     refine LWp.sh 24 ?_
     refine LWp.sh 25 ?_
     refine LWp.sh 26 ?_
     refine LWp.o 27 (B true) ?_
     refine LWp.o 28 (B true) ?_
     refine LWp.sh 29 ?_
     refine LWp.sh 30 ?_
     refine LWp.sh 31 ?_
     refine LWp.sh 32 ?_
     refine LWp.sh 33 ?_
     refine LWp.sh 34 ?_
     refine LWp.sh 35 ?_
     refine LWp.sh 36 ?_
     refine LWp.sh 37 ?_
     refine LWp.sh 38 ?_
     refine LWp.sh 39 ?_
     refine LWp.o 40 (B true) ?_
     refine LWp.nil ?_
     cases h
     exact ⟨_, rfl, rfl, rfl⟩
   refine LWp.o 16 (I xLeaf) ?_
   refine LWp.o 17 (.one (.ptr (.box 3) 1 [] 0)) ?_
   refine LWp.o 18 (.one (.sl false 113 3 (encs (c113 false) xF.Blocks))) ?_
   refine LWp.o 19 (I xB) ?_
   refine LWp.p h 20 (fun _ => (.one (.ptr (.slot 18) 1 [0] (Int.toNat xB * 3 + 0)))) ?_ (fun x1 gx1 => st_pure (p_ix (k113 false) (.slot 18) [] 0 gx1))
   intro x1 gx1 h
   refine LWp.o 21 (.one (.ptr (.slot 18) 1 [0] (Int.toNat xB * 3 + 2))) ?_ (st_pure (p_fa (k113 false) (.slot 18) [0] 0 gx1))
   refine LWp.o 22 (.one (.sl false 141 2 (encs c141 x1.Leaves))) ?_ (st_pure (p_lc (k113 false) (.slot 18) [0] 2 (.sl false 141 2 (encs c141 x1.Leaves)) gx1))
   refine LWp.o 23 (I (ln x1.Leaves)) ?_ (st_pure (p_ln k141 x1.Leaves))
   refine LWp.o 24 (I (sb (ln x1.Leaves) 1)) ?_
   refine LWp.cl h 25 (fun v2 => (B v2)) rfl (l := [.sv (.one (.int .i64 xLeaf)), .sv (.one (.int .i64 0)), .sv (.one (.int .i64 (sb (ln x1.Leaves) 1)))]) rfl (fun v hv => s_l01In_t xLeaf 0 (sb (ln x1.Leaves) 1) v hv) (.inl rfl) ?_
   intro v2 gv2 h
   refine LWp.o 26 (B (!v2)) ?_
   refine LWp.o 27 (B (!v2)) ?_
   refine LWp.o 28 (B (!v2)) ?_
   refine LWp.sp h 28 (fun h => ?_) (fun h => ?_)
   · refine LWp.sh 29 ?_
     refine LWp.sh 30 ?_
     refine LWp.sh 31 ?_
     refine LWp.sh 32 ?_
     refine LWp.sh 33 ?_
     refine LWp.sh 34 ?_
     refine LWp.sh 35 ?_
     refine LWp.sh 36 ?_
     refine LWp.sh 37 ?_
     refine LWp.sh 38 ?_
     refine LWp.sh 39 ?_
     refine LWp.o 40 (B true) ?_
     refine LWp.nil ?_
     cases h
     exact ⟨_, rfl, rfl, rfl⟩
   refine LWp.o 29 (.one (.ptr (.box 3) 1 [] 0)) ?_
   refine LWp.o 30 (.one (.sl false 113 3 (encs (c113 false) xF.Blocks))) ?_
   refine LWp.o 31 (I xB) ?_
   refine LWp.p h 32 (fun _ => (.one (.ptr (.slot 30) 1 [0] (Int.toNat xB * 3 + 0)))) ?_ (fun x2 gx2 => st_pure (p_ix (k113 false) (.slot 30) [] 0 gx2))
   intro x2 gx2 h
   refine LWp.o 33 (.one (.ptr (.slot 30) 1 [0] (Int.toNat xB * 3 + 2))) ?_ (st_pure (p_fa (k113 false) (.slot 30) [0] 0 gx2))
   refine LWp.o 34 (.one (.sl false 141 2 (encs c141 x2.Leaves))) ?_ (st_pure (p_lc (k113 false) (.slot 30) [0] 2 (.sl false 141 2 (encs c141 x2.Leaves)) gx2))
   refine LWp.o 35 (I xLeaf) ?_
   refine LWp.p h 36 (fun _ => (.one (.ptr (.slot 34) 1 [0] (Int.toNat xLeaf * 2 + 0)))) ?_ (fun x3 gx3 => st_pure (p_ix k141 (.slot 34) [] 0 gx3))
   intro x3 gx3 h
   refine LWp.o 37 (.one (.ptr (.slot 34) 1 [0] (Int.toNat xLeaf * 2 + 0))) ?_ (st_pure (p_fa k141 (.slot 34) [0] 0 gx3))
   refine LWp.o 38 (I x3.Is) ?_ (st_pure (p_lc k141 (.slot 34) [0] 0 (.int .i64 x3.Is) gx3))
   refine LWp.o 39 (B (x3.Is != 1)) ?_
   refine LWp.o 40 (B (x3.Is != 1)) ?_
   refine LWp.nil ?_
   cases h
   exact ⟨_, rfl, rfl, rfl⟩
 intro j1 h E hE
 refine nt_wp hE ?_
 change Wp _ _ _ (s_ReadLeaf_H1 xF xB xLeaf j1) _
 refine Wp.c h (fun h => ?_) (fun h => ?_)
 · refine Wp.seq (Wp.region ?_)
   refine LWp.o 6 (Y (bs [])) ?_
   refine LWp.o 7 (B false) ?_
   refine LWp.nil ?_
   cases h
   exact Wp.ret ⟨.inr rfl, _, _, rfl, rfl⟩
 refine Wp.skip ?_
 refine Wp.seq (Wp.region ?_)
 refine LWp.o 41 (.one (.ptr (.box 3) 0 [] 0)) ?_
 refine LWp.o 42 (.one (.sl false 113 3 (encs (c113 false) xF.Blocks))) ?_
 refine LWp.o 43 (I xB) ?_
 refine LWp.p h 44 (fun _ => (.one (.ptr (.slot 42) 1 [0] (Int.toNat xB * 3 + 0)))) ?_ (fun x4 gx4 => st_pure (p_ix (k113 false) (.slot 42) [] 0 gx4))
 intro x4 gx4 h
 refine LWp.o 45 (.one (.ptr (.slot 42) 1 [0] (Int.toNat xB * 3 + 2))) ?_ (st_pure (p_fa (k113 false) (.slot 42) [0] 0 gx4))
 refine LWp.o 46 (.one (.sl false 141 2 (encs c141 x4.Leaves))) ?_ (st_pure (p_lc (k113 false) (.slot 42) [0] 2 (.sl false 141 2 (encs c141 x4.Leaves)) gx4))
 refine LWp.o 47 (I xLeaf) ?_
 refine LWp.p h 48 (fun _ => (.one (.ptr (.slot 46) 1 [0] (Int.toNat xLeaf * 2 + 0)))) ?_ (fun x5 gx5 => st_pure (p_ix k141 (.slot 46) [] 0 gx5))
 intro x5 gx5 h
 refine LWp.o 49 (.one (.ptr (.slot 46) 1 [0] (Int.toNat xLeaf * 2 + 1))) ?_ (st_pure (p_fa k141 (.slot 46) [0] 0 gx5))
 refine LWp.o 50 (Y x5.Text) ?_ (st_pure (p_lc k141 (.slot 46) [0] 1 (.str x5.Text) gx5))
 refine LWp.o 6 (Y x5.Text) ?_
 refine LWp.o 7 (B true) ?_
 refine LWp.nil ?_
 cases h
 exact Wp.ret ⟨.inr rfl, _, _, rfl, rfl⟩
def s_SumMore_H1 (xText : ByteArray) (z1 : Int) (z2 : Int) : St := mkSt [(0, (.one (.int .u32 z1))), (1, (Y xText)), (5, (I z2))] []
def s_SumMore_H2 (z3 : Int) : St := mkSt [(0, (.one (.int .u32 z3)))] []
def s_SumMore_H3 (xText : ByteArray) (yI1 : Int) (z4 : Int) (z5 : Int) : St := mkSt [(0, (.one (.int .u32 z4))), (1, (Y xText)), (5, (I yI1)), (6, (I z5))] []
def s_SumMore_H4 (xText : ByteArray) (yI1 : Int) (z6 : Int) : St := mkSt [(0, (.one (.int .u32 z6))), (1, (Y xText)), (5, (I yI1))] []
theorem s_SumMore_t (xSum : Int) (xText : ByteArray) (r : Int) (h : s_SumMore xSum xText = some r) : Gives Tryz.prog 127 [.sv (.one (.int .u32 xSum)), .sv (Y xText)] (.one (.int .u32 r)) (List.replicate 2 .gone) := by
 unfold s_SumMore at h
 refine gives_of Tryz.func127 rfl ?_
 rw [Tryz.ntmps127]
 refine Wp.seq (Wp.region ?_)
 refine LWp.o 4 (.one (.int .u32 0)) ?_
 refine LWp.nil ?_
 refine Wp.seq ?_
 refine Wp.seq (Wp.region ?_)
 refine LWp.o 5 (I 0) ?_
 refine LWp.nil ?_
 refine Wp.l1 h [0, 1, 5] [] (fun s => (s_SumMore_H1 xText s.1 s.2)) [0] [] (fun s => (s_SumMore_H2 s)) ⟨rfl, rfl⟩ ?_ ?_
 · rintro ⟨ySum1, yI1⟩ o (h : s_SumMore_b1 xText ySum1 yI1 = some o)
   unfold s_SumMore_b1 at h
   change Wp _ _ _ (s_SumMore_H1 xText ySum1 yI1) _
   refine Wp.seq ?_
   refine Wp.seq (Wp.region ?_)
   refine LWp.o 8 (I yI1) ?_
   refine LWp.o 9 (Y xText) ?_
   refine LWp.o 10 (I (sln xText)) ?_
   refine LWp.o 11 (B (decide (yI1 < (sln xText)))) ?_
   refine LWp.nil ?_
   refine Wp.c h (fun h => ?_) (fun h => ?_)
   · refine Wp.skip ?_
     refine Wp.seq ?_
     refine Wp.block ?_
     refine Wp.seq (Wp.region ?_)
     refine LWp.o 14 (.one (.int .u32 ySum1)) ?_
     refine LWp.o 15 (Y xText) ?_
     refine LWp.o 16 (I yI1) ?_
     refine LWp.p h 17 (fun x1 => (.one (.int .u8 x1))) ?_ (fun x1 gx1 => st_pure (p_sx gx1))
     intro x1 gx1 h
     refine LWp.o 18 (.one (.int .u32 (IntKind.u32.wrap x1))) ?_
     refine LWp.o 19 (.one (.int .u32 (xr ySum1 (IntKind.u32.wrap x1)))) ?_
     refine LWp.o 0 (.one (.int .u32 (xr ySum1 (IntKind.u32.wrap x1)))) ?_
     refine LWp.nil ?_
     refine Wp.seq (Wp.region ?_)
     refine LWp.o 6 (I 0) ?_
     refine LWp.nil ?_
     refine Wp.l1 h [0, 1, 5, 6] [] (fun s => (s_SumMore_H3 xText yI1 s.1 s.2)) [0, 1, 5] [] (fun s => (s_SumMore_H4 xText yI1 s)) ⟨rfl, rfl⟩ ?_ ?_
     · rintro ⟨ySum2, yK1⟩ o (h : s_SumMore_b2 ySum2 yK1 = some o)
       unfold s_SumMore_b2 at h
       change Wp _ _ _ (s_SumMore_H3 xText yI1 ySum2 yK1) _
       refine Wp.seq ?_
       refine Wp.seq (Wp.region ?_)
       refine LWp.o 20 (I yK1) ?_
       refine LWp.o 21 (B (decide (yK1 < 8))) ?_
       refine LWp.nil ?_
       refine Wp.c h (fun h => ?_) (fun h => ?_)
       · refine Wp.skip ?_
         refine Wp.seq ?_
         refine Wp.block ?_
         refine Wp.seq (Wp.region ?_)
         refine LWp.o 24 (.one (.int .u32 ySum2)) ?_
         refine LWp.o 25 (.one (.int .u32 (Int.tmod ySum2 2))) ?_
         refine LWp.o 26 (B ((Int.tmod ySum2 2) == 1)) ?_
         refine LWp.o 7 (B ((Int.tmod ySum2 2) == 1)) ?_
         refine LWp.nil ?_
         refine Wp.seq (Wp.region ?_)
         refine LWp.o 27 (.one (.int .u32 ySum2)) ?_
         refine LWp.o 28 (.one (.int .u32 (IntKind.u32.wrap (Int.tdiv ySum2 2)))) ?_
         refine LWp.o 0 (.one (.int .u32 (IntKind.u32.wrap (Int.tdiv ySum2 2)))) ?_
         refine LWp.nil ?_
         refine Wp.seq (Wp.region ?_)
         refine LWp.o 29 (B ((Int.tmod ySum2 2) == 1)) ?_
         refine LWp.nil ?_
         refine Wp.c h (fun h => ?_) (fun h => ?_)
         · refine Wp.region ?_
           refine LWp.o 30 (.one (.int .u32 (IntKind.u32.wrap (Int.tdiv ySum2 2)))) ?_
           refine LWp.o 31 (.one (.int .u32 (xr (IntKind.u32.wrap (Int.tdiv ySum2 2)) 3558460437))) ?_
           refine LWp.o 0 (.one (.int .u32 (xr (IntKind.u32.wrap (Int.tdiv ySum2 2)) 3558460437))) ?_
           refine LWp.nil ?_
           refine Wp.region ?_
           refine LWp.o 22 (I yK1) ?_
           refine LWp.o 23 (I (ad yK1 1)) ?_
           refine LWp.o 6 (I (ad yK1 1)) ?_
           refine LWp.nil ?_
           cases h
           exact ⟨_, rfl, rfl, rfl⟩
         refine Wp.skip ?_
         refine Wp.region ?_
         refine LWp.o 22 (I yK1) ?_
         refine LWp.o 23 (I (ad yK1 1)) ?_
         refine LWp.o 6 (I (ad yK1 1)) ?_
         refine LWp.nil ?_
         cases h
         exact ⟨_, rfl, rfl, rfl⟩
       refine Wp.exit ?_
       cases h
       exact ⟨_, rfl, rfl, rfl⟩
     intro v1 h E hE
     refine nt_wp hE ?_
     change Wp _ _ _ (s_SumMore_H4 xText yI1 v1) _
     refine Wp.region ?_
     refine LWp.o 12 (I yI1) ?_
     refine LWp.o 13 (I (ad yI1 1)) ?_
     refine LWp.o 5 (I (ad yI1 1)) ?_
     refine LWp.nil ?_
     cases h
     exact ⟨_, rfl, rfl, rfl⟩
   refine Wp.exit ?_
   cases h
   exact ⟨_, rfl, rfl, rfl⟩
 intro v2 h E hE
 refine nt_wp hE ?_
 change Wp _ _ _ (s_SumMore_H2 v2) _
 refine Wp.seq (Wp.region ?_)
 refine LWp.o 32 (.one (.int .u32 v2)) ?_
 refine LWp.o 4 (.one (.int .u32 v2)) ?_
 refine LWp.nil ?_
 cases h
 exact Wp.ret ⟨.inr rfl, _, _, rfl, rfl⟩
theorem s_SumOf_t (xText : ByteArray) (r : Int) (h : s_SumOf xText = some r) : Gives Tryz.prog 105 [.sv (Y xText)] (.one (.int .u32 r)) (List.replicate 1 .gone) := by
 unfold s_SumOf at h
 refine gives_of Tryz.func105 rfl ?_
 rw [Tryz.ntmps105]
 refine Wp.seq (Wp.region ?_)
 refine LWp.o 2 (.one (.int .u32 0)) ?_
 refine LWp.nil ?_
 refine Wp.seq (Wp.region ?_)
 refine LWp.o 3 (Y xText) ?_
 refine LWp.cl h 4 (fun v1 => (.one (.int .u32 v1))) rfl (l := [.sv (.one (.int .u32 4294967295)), .sv (.one (.str xText))]) rfl (fun v hv => s_SumMore_t 4294967295 xText v hv) (.inl rfl) ?_
 intro v1 gv1 h
 refine LWp.o 2 (.one (.int .u32 v1)) ?_
 refine LWp.nil ?_
 cases h
 exact Wp.ret ⟨.inr rfl, _, _, rfl, rfl⟩
def c5 (x : Int) : List TV := [.int .u8 x]
theorem k5 : ∀ x, (c5 x).length = 1 := fun _ => rfl
theorem sh5 : ∀ l, shares (encs c5 l) = encs c5 l := shares_encs (fun _ => rfl)
theorem ns5 : ∀ l, hasShareds (encs c5 l) = false := ns_encs (fun _ => rfl)
theorem s_l02Four_t (xX : Int) (r : ByteArray) (h : s_l02Four xX = some r) : Gives Tryz.prog 104 [.sv (.one (.int .u32 xX))] (Y r) (List.replicate 1 .gone) := by
 unfold s_l02Four at h
 refine gives_of Tryz.func104 rfl ?_
 rw [Tryz.ntmps104]
 refine Wp.seq (Wp.region ?_)
 refine LWp.o 2 (Y (bs [])) ?_
 refine LWp.nil ?_
 refine Wp.seq (Wp.region ?_)
 refine LWp.o 3 (.one (.int .u32 xX)) ?_
 refine LWp.o 4 (.one (.int .u32 (Int.fdiv xX (2 ^ (min (24 : Int).toNat IntKind.u32.bits))))) ?_
 refine LWp.o 5 (.one (.int .u8 (IntKind.u8.wrap (Int.fdiv xX (2 ^ (min (24 : Int).toNat IntKind.u32.bits)))))) ?_
 refine LWp.o 6 (.one (.int .u32 xX)) ?_
 refine LWp.o 7 (.one (.int .u32 (Int.fdiv xX (2 ^ (min (16 : Int).toNat IntKind.u32.bits))))) ?_
 refine LWp.o 8 (.one (.int .u8 (IntKind.u8.wrap (Int.fdiv xX (2 ^ (min (16 : Int).toNat IntKind.u32.bits)))))) ?_
 refine LWp.o 9 (.one (.int .u32 xX)) ?_
 refine LWp.o 10 (.one (.int .u32 (Int.fdiv xX (2 ^ (min (8 : Int).toNat IntKind.u32.bits))))) ?_
 refine LWp.o 11 (.one (.int .u8 (IntKind.u8.wrap (Int.fdiv xX (2 ^ (min (8 : Int).toNat IntKind.u32.bits)))))) ?_
 refine LWp.o 12 (.one (.int .u32 xX)) ?_
 refine LWp.o 13 (.one (.int .u8 (IntKind.u8.wrap xX))) ?_
 refine LWp.m false [] 14 (.one (.sl true 5 1 (encs c5 [(IntKind.u8.wrap (Int.fdiv xX (2 ^ (min (24 : Int).toNat IntKind.u32.bits)))), (IntKind.u8.wrap (Int.fdiv xX (2 ^ (min (16 : Int).toNat IntKind.u32.bits)))), (IntKind.u8.wrap (Int.fdiv xX (2 ^ (min (8 : Int).toNat IntKind.u32.bits)))), (IntKind.u8.wrap xX)]))) ?_
 refine LWp.o 15 (Y (strB [(IntKind.u8.wrap (Int.fdiv xX (2 ^ (min (24 : Int).toNat IntKind.u32.bits)))), (IntKind.u8.wrap (Int.fdiv xX (2 ^ (min (16 : Int).toNat IntKind.u32.bits)))), (IntKind.u8.wrap (Int.fdiv xX (2 ^ (min (8 : Int).toNat IntKind.u32.bits)))), (IntKind.u8.wrap xX)])) ?_ (st_pure (p_cv (fun _ => rfl) [(IntKind.u8.wrap (Int.fdiv xX (2 ^ (min (24 : Int).toNat IntKind.u32.bits)))), (IntKind.u8.wrap (Int.fdiv xX (2 ^ (min (16 : Int).toNat IntKind.u32.bits)))), (IntKind.u8.wrap (Int.fdiv xX (2 ^ (min (8 : Int).toNat IntKind.u32.bits)))), (IntKind.u8.wrap xX)]))
 refine LWp.o 2 (Y (strB [(IntKind.u8.wrap (Int.fdiv xX (2 ^ (min (24 : Int).toNat IntKind.u32.bits)))), (IntKind.u8.wrap (Int.fdiv xX (2 ^ (min (16 : Int).toNat IntKind.u32.bits)))), (IntKind.u8.wrap (Int.fdiv xX (2 ^ (min (8 : Int).toNat IntKind.u32.bits)))), (IntKind.u8.wrap xX)])) ?_
 refine LWp.nil ?_
 cases h
 exact Wp.ret ⟨.inr rfl, _, _, rfl, rfl⟩
def s_Unsealed_H1 (xText : ByteArray) (z1 : Bool) : St := mkSt [(0, (Y xText)), (4, (I (sb (sln xText) 4))), (24, (B z1))] []
theorem s_Unsealed_t (xText : ByteArray) (r : ByteArray × Bool) (h : s_Unsealed xText = some r) : Gives Tryz.prog 81 [.sv (Y xText)] (.tup [(Y r.1), (B r.2)]) (List.replicate 1 .gone) := by
 unfold s_Unsealed at h
 refine gives_of Tryz.func81 rfl ?_
 rw [Tryz.ntmps81]
 refine Wp.seq (Wp.region ?_)
 refine LWp.o 2 (Y (bs [])) ?_
 refine LWp.o 3 (B false) ?_
 refine LWp.nil ?_
 refine Wp.seq (Wp.region ?_)
 refine LWp.o 5 (Y xText) ?_
 refine LWp.o 6 (I (sln xText)) ?_
 refine LWp.o 7 (I (sb (sln xText) 4)) ?_
 refine LWp.o 4 (I (sb (sln xText) 4)) ?_
 refine LWp.nil ?_
 refine Wp.seq ?_
 refine Wp.seq ?_
 refine Wp.j1 h [0, 4, 24] [] (fun a => (s_Unsealed_H1 xText a)) ?_ ?_
 · intro a h
   refine Wp.regionK 17 [] mixed (fun c E h => by rcases h with ⟨h | h, _⟩ <;> cases h) ?_
   refine KWp.o 17 0 8 (I (sb (sln xText) 4)) ?_
   refine KWp.o 17 1 9 (B (decide ((sb (sln xText) 4) < 0))) ?_
   refine KWp.o 17 2 10 (B (decide ((sb (sln xText) 4) < 0))) ?_
   refine KWp.sp h 10 (fun h => ?_) (fun h => ?_)
   · refine KWp.sh 17 3 11 ?_
     refine KWp.sh 17 4 12 ?_
     refine KWp.o 17 5 13 (B true) ?_
     refine KWp.o 17 6 14 (B true) ?_
     refine KWp.sh 17 7 15 ?_
     refine KWp.sh 17 8 16 ?_
     refine KWp.sh 17 9 17 ?_
     refine KWp.sh 17 10 18 ?_
     refine KWp.sh 17 11 19 ?_
     refine KWp.sh 17 12 20 ?_
     refine KWp.sh 17 13 21 ?_
     refine KWp.sh 17 14 22 ?_
     refine KWp.sh 17 15 23 ?_
     refine KWp.o 17 16 24 (B true) ?_
     refine KWp.done ?_
     cases h
     exact ⟨_, rfl, rfl, rfl⟩
   refine KWp.o 17 3 11 (I (sb (sln xText) 4)) ?_
   refine KWp.o 17 4 12 (B (decide ((sb (sln xText) 4) > 20000))) ?_
   refine KWp.o 17 5 13 (B (decide ((sb (sln xText) 4) > 20000))) ?_
   refine KWp.o 17 6 14 (B (decide ((sb (sln xText) 4) > 20000))) ?_
   refine KWp.sp h 14 (fun h => ?_) (fun h => ?_)
   · refine KWp.sh 17 7 15 ?_
     refine KWp.sh 17 8 16 ?_
     refine KWp.sh 17 9 17 ?_
     refine KWp.sh 17 10 18 ?_
     refine KWp.sh 17 11 19 ?_
     refine KWp.sh 17 12 20 ?_
     refine KWp.sh 17 13 21 ?_
     refine KWp.sh 17 14 22 ?_
     refine KWp.sh 17 15 23 ?_
     refine KWp.o 17 16 24 (B true) ?_
     refine KWp.done ?_
     cases h
     exact ⟨_, rfl, rfl, rfl⟩
   refine KWp.o 17 7 15 (Y xText) ?_
   refine KWp.o 17 8 16 (I (sb (sln xText) 4)) ?_
   refine KWp.p h 17 9 17 (fun x1 => (Y x1)) ?_ rfl (fun x1 gx1 => sl_pure (p_sub gx1))
   intro x1 gx1 h
   refine KWp.o 17 10 18 (Y xText) ?_
   refine KWp.o 17 11 19 (I (sb (sln xText) 4)) ?_
   refine KWp.p h 17 12 20 (fun x2 => (Y x2)) ?_ rfl (fun x2 gx2 => sl_pure (p_sub gx2))
   intro x2 gx2 h
   refine KWp.w1 13 ?_
   refine KOp.cl h 13 21 (fun v1 => (.one (.int .u32 v1))) rfl rfl (l := [.sv (.one (.str x2))]) rfl (fun v hv => s_SumOf_t x2 v hv) (.inl rfl) ?_
   intro v1 gv1 h
   refine KWp.w1 14 ?_
   refine KOp.cl h 14 22 (fun v2 => (Y v2)) rfl rfl (l := [.sv (.one (.int .u32 v1))]) rfl (fun v hv => s_l02Four_t v1 v hv) (.inl rfl) ?_
   intro v2 gv2 h
   refine KWp.o 17 15 23 (B (!(seq x1 v2))) ?_
   refine KWp.o 17 16 24 (B (!(seq x1 v2))) ?_
   refine KWp.done ?_
   cases h
   exact ⟨_, rfl, rfl, rfl⟩
 intro j1 h E hE
 refine nt_wp hE ?_
 change Wp _ _ _ (s_Unsealed_H1 xText j1) _
 refine Wp.c h (fun h => ?_) (fun h => ?_)
 · refine Wp.seq (Wp.region ?_)
   refine LWp.o 2 (Y (bs [])) ?_
   refine LWp.o 3 (B false) ?_
   refine LWp.nil ?_
   cases h
   exact Wp.ret ⟨.inr rfl, _, _, rfl, rfl⟩
 refine Wp.skip ?_
 refine Wp.seq (Wp.region ?_)
 refine LWp.o 25 (Y xText) ?_
 refine LWp.o 26 (I (sb (sln xText) 4)) ?_
 refine LWp.p h 27 (fun x3 => (Y x3)) ?_ (fun x3 gx3 => st_pure (p_sub gx3))
 intro x3 gx3 h
 refine LWp.o 2 (Y x3) ?_
 refine LWp.o 3 (B true) ?_
 refine LWp.nil ?_
 cases h
 exact Wp.ret ⟨.inr rfl, _, _, rfl, rfl⟩
def s_l01Var_H1 (z1 : Int) (z2 : List Int) : St := mkSt [(0, (I z1)), (3, (.one (.sl true 5 1 (encs c5 z2))))] []
def s_l01Var_H2 (z3 : Int) (z4 : List Int) : St := mkSt [(0, (I z3)), (3, (.one (.sl true 5 1 (encs c5 z4))))] []
theorem s_l01Var_t (xN : Int) (r : ByteArray) (h : s_l01Var xN = some r) : Gives Tryz.prog 110 [.sv (I xN)] (Y r) (List.replicate 1 .gone) := by
 unfold s_l01Var at h
 refine gives_of Tryz.func110 rfl ?_
 rw [Tryz.ntmps110]
 refine Wp.seq (Wp.region ?_)
 refine LWp.o 2 (Y (bs [])) ?_
 refine LWp.nil ?_
 refine Wp.seq (Wp.region ?_)
 refine LWp.m false [] 4 (.one (.sl true 5 1 (encs c5 []))) ?_
 refine LWp.m true [(.slot 4, [.junk])] 3 (.one (.sl true 5 1 (encs c5 []))) ?_
 refine LWp.nil ?_
 refine Wp.seq ?_
 refine Wp.l1 h [0, 3] [] (fun s => (s_l01Var_H1 s.1 s.2)) [0, 3] [] (fun s => (s_l01Var_H2 s.1 s.2)) ⟨rfl, rfl⟩ ?_ ?_
 · rintro ⟨yN1, yOut1⟩ o (h : s_l01Var_b1 yN1 yOut1 = some o)
   unfold s_l01Var_b1 at h
   change Wp _ _ _ (s_l01Var_H1 yN1 yOut1) _
   refine Wp.seq ?_
   refine Wp.seq (Wp.region ?_)
   refine LWp.o 5 (I yN1) ?_
   refine LWp.o 6 (B (decide (yN1 > 127))) ?_
   refine LWp.nil ?_
   refine Wp.c h (fun h => ?_) (fun h => ?_)
   · refine Wp.skip ?_
     refine Wp.block ?_
     refine Wp.seq (Wp.region ?_)
     refine LWp.o 7 (.one (.view (.slot 3) 0 [] 0)) ?_
     refine LWp.o 8 (I yN1) ?_
     refine LWp.o 9 (I (Int.tmod yN1 128)) ?_
     refine LWp.o 10 (I (ad (Int.tmod yN1 128) 128)) ?_
     refine LWp.o 11 (.one (.int .u8 (IntKind.u8.wrap (ad (Int.tmod yN1 128) 128)))) ?_
     refine LWp.m false [] 12 (.one (.sl true 5 1 (encs c5 [(IntKind.u8.wrap (ad (Int.tmod yN1 128) 128))]))) ?_
     refine LWp.pm h [(.slot 3, [.junk])] 13 (fun q1 => (.one (.sl true 5 1 (encs c5 q1)))) ?_ (fun q1 gq1 => s_apl k5 (fun _ => rfl) [(.slot 3, [.junk])] yOut1 gq1)
     intro q1 gq1 h
     refine LWp.m true [(.slot 13, [.junk])] 3 (.one (.sl true 5 1 (encs c5 q1))) ?_
     refine LWp.nil ?_
     refine Wp.region ?_
     refine LWp.o 14 (I yN1) ?_
     refine LWp.o 15 (I (qu yN1 128)) ?_
     refine LWp.o 0 (I (qu yN1 128)) ?_
     refine LWp.nil ?_
     cases h
     exact ⟨_, rfl, rfl, rfl⟩
   refine Wp.exit ?_
   cases h
   exact ⟨_, rfl, rfl, rfl⟩
 intro v1 h E hE
 refine nt_wp hE ?_
 change Wp _ _ _ (s_l01Var_H2 v1.1 v1.2) _
 refine Wp.seq (Wp.region ?_)
 refine LWp.o 16 (.one (.view (.slot 3) 0 [] 0)) ?_
 refine LWp.o 17 (I v1.1) ?_
 refine LWp.o 18 (.one (.int .u8 (IntKind.u8.wrap v1.1))) ?_
 refine LWp.m false [] 19 (.one (.sl true 5 1 (encs c5 [(IntKind.u8.wrap v1.1)]))) ?_
 refine LWp.pm h [(.slot 3, [.junk])] 20 (fun q2 => (.one (.sl true 5 1 (encs c5 q2)))) ?_ (fun q2 gq2 => s_apl k5 (fun _ => rfl) [(.slot 3, [.junk])] v1.2 gq2)
 intro q2 gq2 h
 refine LWp.o 21 (Y (strB q2)) ?_ (st_pure (p_cv (fun _ => rfl) q2))
 refine LWp.o 2 (Y (strB q2)) ?_
 refine LWp.nil ?_
 cases h
 exact Wp.ret ⟨.inr rfl, _, _, rfl, rfl⟩
def s_ReadVar_H1 (xText : ByteArray) (xAt : Int) (z1 : Int) (z2 : Int) (z3 : Int) : St := mkSt [(0, (Y xText)), (1, (I xAt)), (7, (I z1)), (8, (I z2)), (9, (I z3))] []
def s_ReadVar_H2  : St := mkSt [] []
def s_ReadVar_H3 (xText : ByteArray) (xAt : Int) (yN1 : Int) (yScale1 : Int) (yI1 : Int) (z4 : Bool) : St := mkSt [(0, (Y xText)), (1, (I xAt)), (7, (I yN1)), (8, (I yScale1)), (9, (I yI1)), (25, (B z4))] []
def s_ReadVar_H4 (yN1 : Int) (yScale1 : Int) (yI1 : Int) (x1 : Int) (z5 : Bool) : St := mkSt [(7, (I (ad yN1 (ml (Int.tmod (IntKind.i64.wrap x1) 128) yScale1)))), (9, (I yI1)), (54, (B z5))] []
theorem s_ReadVar_t (xText : ByteArray) (xAt : Int) (r : Int × Int × Bool) (h : s_ReadVar xText xAt = some r) : Gives Tryz.prog 106 [.sv (Y xText), .sv (I xAt)] (.tup [(I r.1), (I r.2.1), (B r.2.2)]) (List.replicate 2 .gone) := by
 unfold s_ReadVar at h
 refine gives_of Tryz.func106 rfl ?_
 rw [Tryz.ntmps106]
 refine Wp.seq (Wp.region ?_)
 refine LWp.o 4 (I 0) ?_
 refine LWp.o 5 (I 0) ?_
 refine LWp.o 6 (B false) ?_
 refine LWp.nil ?_
 refine Wp.seq ?_
 refine Wp.seq (Wp.region ?_)
 refine LWp.o 10 (I xAt) ?_
 refine LWp.o 11 (Y xText) ?_
 refine LWp.o 12 (I (sln xText)) ?_
 refine LWp.cl h 13 (fun v1 => (B v1)) rfl (l := [.sv (.one (.int .i64 xAt)), .sv (.one (.int .i64 0)), .sv (.one (.int .i64 (sln xText)))]) rfl (fun v hv => s_l01In_t xAt 0 (sln xText) v hv) (.inl rfl) ?_
 intro v1 gv1 h
 refine LWp.o 14 (B (!v1)) ?_
 refine LWp.nil ?_
 refine Wp.c h (fun h => ?_) (fun h => ?_)
 · refine Wp.seq (Wp.region ?_)
   refine LWp.o 4 (I 0) ?_
   refine LWp.o 5 (I 0) ?_
   refine LWp.o 6 (B false) ?_
   refine LWp.nil ?_
   cases h
   exact Wp.ret ⟨.inr rfl, _, _, rfl, rfl⟩
 refine Wp.skip ?_
 refine Wp.seq (Wp.region ?_)
 refine LWp.o 7 (I 0) ?_
 refine LWp.nil ?_
 refine Wp.seq (Wp.region ?_)
 refine LWp.o 8 (I 1) ?_
 refine LWp.nil ?_
 refine Wp.seq ?_
 refine Wp.seq (Wp.region ?_)
 refine LWp.o 15 (I xAt) ?_
 refine LWp.o 9 (I xAt) ?_
 refine LWp.nil ?_
 refine Wp.l2 h [0, 1, 7, 8, 9] [] (fun s => (s_ReadVar_H1 xText xAt s.1 s.2.1 s.2.2)) [] [] (fun _ => s_ReadVar_H2) ⟨rfl, rfl⟩ ?_ ?_
 · rintro ⟨yN1, yScale1, yI1⟩ o (h : s_ReadVar_b1 xText xAt yN1 yScale1 yI1 = some o) hk1
   unfold s_ReadVar_b1 at h
   change Wp _ _ _ (s_ReadVar_H1 xText xAt yN1 yScale1 yI1) _
   refine Wp.seq ?_
   refine Wp.seq ?_
   refine Wp.j1 h [0, 1, 7, 8, 9, 25] [] (fun a => (s_ReadVar_H3 xText xAt yN1 yScale1 yI1 a)) ?_ ?_
   · intro a h
     refine Wp.region ?_
     refine LWp.o 16 (I yI1) ?_
     refine LWp.o 17 (Y xText) ?_
     refine LWp.o 18 (I (sln xText)) ?_
     refine LWp.o 19 (B (decide (yI1 < (sln xText)))) ?_
     refine LWp.o 20 (B (decide (yI1 < (sln xText)))) ?_
     refine LWp.sp h 20 (fun h => ?_) (fun h => ?_)
     · refine LWp.o 21 (I yI1) ?_
       refine LWp.o 22 (I xAt) ?_
       refine LWp.o 23 (I (ad xAt 5)) ?_
       refine LWp.o 24 (B (decide (yI1 < (ad xAt 5)))) ?_
       refine LWp.o 25 (B (decide (yI1 < (ad xAt 5)))) ?_
       refine LWp.nil ?_
       cases h
       exact ⟨_, rfl, rfl, rfl⟩
     refine LWp.sh 21 ?_
     refine LWp.sh 22 ?_
     refine LWp.sh 23 ?_
     refine LWp.sh 24 ?_
     refine LWp.o 25 (B false) ?_
     refine LWp.nil ?_
     cases h
     exact ⟨_, rfl, rfl, rfl⟩
   intro j1 h E hE
   refine nt_wp hE ?_
   change Wp _ _ _ (s_ReadVar_H3 xText xAt yN1 yScale1 yI1 j1) _
   refine Wp.c h (fun h => ?_) (fun h => ?_)
   · refine Wp.skip ?_
     refine Wp.seq ?_
     refine Wp.block ?_
     refine Wp.seq (Wp.region ?_)
     refine LWp.o 28 (I yN1) ?_
     refine LWp.o 29 (Y xText) ?_
     refine LWp.o 30 (I yI1) ?_
     refine LWp.p h 31 (fun x1 => (.one (.int .u8 x1))) ?_ (fun x1 gx1 => st_pure (p_sx gx1))
     intro x1 gx1 h
     refine LWp.o 32 (I (IntKind.i64.wrap x1)) ?_
     refine LWp.o 33 (I (Int.tmod (IntKind.i64.wrap x1) 128)) ?_
     refine LWp.o 34 (I yScale1) ?_
     refine LWp.o 35 (I (ml (Int.tmod (IntKind.i64.wrap x1) 128) yScale1)) ?_
     refine LWp.o 36 (I (ad yN1 (ml (Int.tmod (IntKind.i64.wrap x1) 128) yScale1))) ?_
     refine LWp.o 7 (I (ad yN1 (ml (Int.tmod (IntKind.i64.wrap x1) 128) yScale1))) ?_
     refine LWp.nil ?_
     refine Wp.seq (Wp.region ?_)
     refine LWp.o 37 (I yScale1) ?_
     refine LWp.o 38 (I (ml yScale1 128)) ?_
     refine LWp.o 8 (I (ml yScale1 128)) ?_
     refine LWp.nil ?_
     refine Wp.seq (Wp.region ?_)
     refine LWp.o 39 (Y xText) ?_
     refine LWp.o 40 (I yI1) ?_
     refine LWp.p h 41 (fun x2 => (.one (.int .u8 x2))) ?_ (fun x2 gx2 => st_pure (p_sx gx2))
     intro x2 gx2 h
     refine LWp.o 42 (B (decide (x2 < 128))) ?_
     refine LWp.nil ?_
     refine Wp.c h (fun h => ?_) (fun h => ?_)
     · refine Wp.seq ?_
       refine Wp.seq ?_
       refine Wp.j1 h [7, 9, 54] [] (fun a => (s_ReadVar_H4 yN1 yScale1 yI1 x1 a)) ?_ ?_
       · intro a h
         refine Wp.regionK 12 [] mixed (fun c E h => by rcases h with ⟨h | h, _⟩ <;> cases h) ?_
         refine KWp.o 12 0 43 (I (ad yN1 (ml (Int.tmod (IntKind.i64.wrap x1) 128) yScale1))) ?_
         refine KWp.o 12 1 44 (B (decide ((ad yN1 (ml (Int.tmod (IntKind.i64.wrap x1) 128) yScale1)) > 1000000000))) ?_
         refine KWp.o 12 2 45 (B (decide ((ad yN1 (ml (Int.tmod (IntKind.i64.wrap x1) 128) yScale1)) > 1000000000))) ?_
         refine KWp.sp h 45 (fun h => ?_) (fun h => ?_)
         · refine KWp.sh 12 3 46 ?_
           refine KWp.sh 12 5 48 ?_
           refine KWp.sh 12 6 49 ?_
           refine KWp.sh 12 7 50 ?_
           refine KWp.sh 12 8 51 ?_
           refine KWp.sh 12 9 52 ?_
           refine KWp.sh 12 4 47 ?_
           refine KWp.sh 12 10 53 ?_
           refine KWp.o 12 11 54 (B true) ?_
           refine KWp.done ?_
           cases h
           exact ⟨_, rfl, rfl, rfl⟩
         refine KWp.o 12 3 46 (I (ad yN1 (ml (Int.tmod (IntKind.i64.wrap x1) 128) yScale1))) ?_
         refine KWp.o 12 5 48 (Y xText) ?_
         refine KWp.o 12 6 49 (I xAt) ?_
         refine KWp.o 12 7 50 (I yI1) ?_
         refine KWp.o 12 8 51 (I (ad yI1 1)) ?_
         refine KWp.p h 12 9 52 (fun x3 => (Y x3)) ?_ rfl (fun x3 gx3 => sl_pure (p_sub gx3))
         intro x3 gx3 h
         refine KWp.w1 4 ?_
         refine KOp.cl h 4 47 (fun v2 => (Y v2)) rfl rfl (l := [.sv (.one (.int .i64 (ad yN1 (ml (Int.tmod (IntKind.i64.wrap x1) 128) yScale1))))]) rfl (fun v hv => s_l01Var_t (ad yN1 (ml (Int.tmod (IntKind.i64.wrap x1) 128) yScale1)) v hv) (.inl rfl) ?_
         intro v2 gv2 h
         refine KWp.o 12 10 53 (B (!(seq v2 x3))) ?_
         refine KWp.o 12 11 54 (B (!(seq v2 x3))) ?_
         refine KWp.done ?_
         cases h
         exact ⟨_, rfl, rfl, rfl⟩
       intro j2 h E hE
       refine nt_wp hE ?_
       change Wp _ _ _ (s_ReadVar_H4 yN1 yScale1 yI1 x1 j2) _
       refine Wp.c h (fun h => ?_) (fun h => ?_)
       · refine Wp.seq (Wp.region ?_)
         refine LWp.o 4 (I 0) ?_
         refine LWp.o 5 (I 0) ?_
         refine LWp.o 6 (B false) ?_
         refine LWp.nil ?_
         cases h
         replace h : some _ = some _ := hk1 _ rfl
         cases h
         exact Wp.ret ⟨.inr rfl, _, _, rfl, rfl⟩
       refine Wp.skip ?_
       refine Wp.seq (Wp.region ?_)
       refine LWp.o 55 (I (ad yN1 (ml (Int.tmod (IntKind.i64.wrap x1) 128) yScale1))) ?_
       refine LWp.o 56 (I yI1) ?_
       refine LWp.o 57 (I (ad yI1 1)) ?_
       refine LWp.o 4 (I (ad yN1 (ml (Int.tmod (IntKind.i64.wrap x1) 128) yScale1))) ?_
       refine LWp.o 5 (I (ad yI1 1)) ?_
       refine LWp.o 6 (B true) ?_
       refine LWp.nil ?_
       cases h
       replace h : some _ = some _ := hk1 _ rfl
       cases h
       exact Wp.ret ⟨.inr rfl, _, _, rfl, rfl⟩
     refine Wp.skip ?_
     refine Wp.region ?_
     refine LWp.o 26 (I yI1) ?_
     refine LWp.o 27 (I (ad yI1 1)) ?_
     refine LWp.o 9 (I (ad yI1 1)) ?_
     refine LWp.nil ?_
     cases h
     exact ⟨_, rfl, rfl, rfl⟩
   refine Wp.exit ?_
   cases h
   exact ⟨_, rfl, rfl, rfl⟩
 intro v3 h E hE
 refine nt_wp hE ?_
 change Wp _ _ _ s_ReadVar_H2 _
 refine Wp.seq (Wp.region ?_)
 refine LWp.o 4 (I 0) ?_
 refine LWp.o 5 (I 0) ?_
 refine LWp.o 6 (B false) ?_
 refine LWp.nil ?_
 cases h
 exact Wp.ret ⟨.inr rfl, _, _, rfl, rfl⟩
def s_l06Var_H1 (xC : l06Cur) (z1 : Int) (z2 : Int) (z3 : Bool) : St := mkSt [(0, (.one (.ptr (.ext 0) 0 [] 0))), (3, (I z1)), (4, (I z2)), (5, (B z3))] [(.ext 0, [.str xC.text_, .int .i64 xC.at_, .bool xC.bad_])]
def s_l06Var_H2 (xC : l06Cur) (j1 : Int × Int × Bool) (z4 : Bool) : St := mkSt [(0, (.one (.ptr (.ext 0) 0 [] 0))), (3, (I j1.1)), (4, (I j1.2.1)), (26, (B z4))] [(.ext 0, [.str xC.text_, .int .i64 xC.at_, .bool xC.bad_])]
theorem s_l06Var_t (xC : l06Cur) (r : Int × l06Cur) (h : s_l06Var xC = some r) : Gives Tryz.prog 82 [.ext [.str xC.text_, .int .i64 xC.at_, .bool xC.bad_]] (I r.1) (.ext [.str r.2.text_, .int .i64 r.2.at_, .bool r.2.bad_] :: List.replicate 0 .gone) := by
 unfold s_l06Var at h
 refine gives_ext Tryz.func82 rfl ?_ rfl
 rw [Tryz.ntmps82]
 refine Wp.seq (Wp.region ?_)
 refine LWp.o 2 (I 0) ?_
 refine LWp.nil ?_
 refine Wp.seq ?_
 refine Wp.j1 h [0, 3, 4, 5] [.ext 0] (fun a => (s_l06Var_H1 xC a.1 a.2.1 a.2.2)) ?_ ?_
 · intro a h
   refine Wp.regionK 16 [] mixed (fun c E h => by rcases h with ⟨h | h, _⟩ <;> cases h) ?_
   refine KWp.o 16 0 7 (.one (.ptr (.ext 0) 0 [] 0)) ?_
   refine KWp.o 16 1 8 (.one (.ptr (.ext 0) 0 [] 0)) ?_
   refine KWp.o 16 2 9 (.one (.ptr (.ext 0) 0 [] 0)) ?_
   refine KWp.o 16 3 10 (Y xC.text_) ?_
   refine KWp.o 16 4 11 (.one (.ptr (.ext 0) 0 [] 0)) ?_
   refine KWp.o 16 5 12 (.one (.ptr (.ext 0) 0 [] 0)) ?_
   refine KWp.o 16 6 13 (.one (.ptr (.ext 0) 0 [] 1)) ?_
   refine KWp.o 16 7 14 (I xC.at_) ?_
   refine KWp.w1 8 ?_
   refine KOp.cl h 8 15 (fun v1 => (.tup [(I v1.1), (I v1.2.1), (B v1.2.2)])) rfl rfl (l := [.sv (.one (.str xC.text_)), .sv (.one (.int .i64 xC.at_))]) rfl (fun v hv => s_ReadVar_t xC.text_ xC.at_ v hv) (.inl rfl) ?_
   intro v1 gv1 h
   refine KWp.w1 9 ?_
   refine KOp.mt 9 15 6 (.tup [(I v1.1), (I v1.2.1), (B v1.2.2)]) ?_
   refine KWp.w3 10 11 12 ?_ ?_ ?_
   · refine KOp.e 10 6 0 16 (I v1.1) ?_
     refine KWp.o 16 13 3 (I v1.1) ?_
     refine KWp.w2 11 12 ?_ ?_
     · refine KOp.e 11 6 1 17 (I v1.2.1) ?_
       refine KWp.o 16 14 4 (I v1.2.1) ?_
       refine KWp.w1 12 ?_
       refine KOp.e 12 6 2 18 (B v1.2.2) ?_
       refine KWp.o 16 15 5 (B v1.2.2) ?_
       refine KWp.done ?_
       cases h
       exact ⟨_, rfl, rfl, rfl⟩
     refine KOp.e 12 6 2 18 (B v1.2.2) ?_
     refine KWp.w1 11 ?_
     refine KOp.e 11 6 1 17 (I v1.2.1) ?_
     refine KWp.o 16 14 4 (I v1.2.1) ?_
     refine KWp.o 16 15 5 (B v1.2.2) ?_
     refine KWp.done ?_
     cases h
     exact ⟨_, rfl, rfl, rfl⟩
   · refine KOp.e 11 6 1 17 (I v1.2.1) ?_
     refine KWp.w2 10 12 ?_ ?_
     · refine KOp.e 10 6 0 16 (I v1.1) ?_
       refine KWp.o 16 13 3 (I v1.1) ?_
       refine KWp.o 16 14 4 (I v1.2.1) ?_
       refine KWp.w1 12 ?_
       refine KOp.e 12 6 2 18 (B v1.2.2) ?_
       refine KWp.o 16 15 5 (B v1.2.2) ?_
       refine KWp.done ?_
       cases h
       exact ⟨_, rfl, rfl, rfl⟩
     refine KOp.e 12 6 2 18 (B v1.2.2) ?_
     refine KWp.w1 10 ?_
     refine KOp.e 10 6 0 16 (I v1.1) ?_
     refine KWp.o 16 13 3 (I v1.1) ?_
     refine KWp.o 16 14 4 (I v1.2.1) ?_
     refine KWp.o 16 15 5 (B v1.2.2) ?_
     refine KWp.done ?_
     cases h
     exact ⟨_, rfl, rfl, rfl⟩
   refine KOp.e 12 6 2 18 (B v1.2.2) ?_
   refine KWp.w2 10 11 ?_ ?_
   · refine KOp.e 10 6 0 16 (I v1.1) ?_
     refine KWp.o 16 13 3 (I v1.1) ?_
     refine KWp.w1 11 ?_
     refine KOp.e 11 6 1 17 (I v1.2.1) ?_
     refine KWp.o 16 14 4 (I v1.2.1) ?_
     refine KWp.o 16 15 5 (B v1.2.2) ?_
     refine KWp.done ?_
     cases h
     exact ⟨_, rfl, rfl, rfl⟩
   refine KOp.e 11 6 1 17 (I v1.2.1) ?_
   refine KWp.w1 10 ?_
   refine KOp.e 10 6 0 16 (I v1.1) ?_
   refine KWp.o 16 13 3 (I v1.1) ?_
   refine KWp.o 16 14 4 (I v1.2.1) ?_
   refine KWp.o 16 15 5 (B v1.2.2) ?_
   refine KWp.done ?_
   cases h
   exact ⟨_, rfl, rfl, rfl⟩
 intro j1 h E hE
 refine nt_wp hE ?_
 change Wp _ _ _ (s_l06Var_H1 xC j1.1 j1.2.1 j1.2.2) _
 refine Wp.seq ?_
 refine Wp.seq ?_
 refine Wp.j1 h [0, 3, 4, 26] [.ext 0] (fun a => (s_l06Var_H2 xC j1 a)) ?_ ?_
 · intro a h
   refine Wp.region ?_
   refine LWp.o 19 (.one (.ptr (.ext 0) 0 [] 0)) ?_
   refine LWp.o 20 (.one (.ptr (.ext 0) 0 [] 0)) ?_
   refine LWp.o 21 (.one (.ptr (.ext 0) 0 [] 2)) ?_
   refine LWp.o 22 (B xC.bad_) ?_
   refine LWp.o 23 (B xC.bad_) ?_
   refine LWp.sp h 23 (fun h => ?_) (fun h => ?_)
   · refine LWp.sh 24 ?_
     refine LWp.sh 25 ?_
     refine LWp.o 26 (B true) ?_
     refine LWp.nil ?_
     cases h
     exact ⟨_, rfl, rfl, rfl⟩
   refine LWp.o 24 (B j1.2.2) ?_
   refine LWp.o 25 (B (!j1.2.2)) ?_
   refine LWp.o 26 (B (!j1.2.2)) ?_
   refine LWp.nil ?_
   cases h
   exact ⟨_, rfl, rfl, rfl⟩
 intro j2 h E hE
 refine nt_wp hE ?_
 change Wp _ _ _ (s_l06Var_H2 xC j1 j2) _
 refine Wp.c h (fun h => ?_) (fun h => ?_)
 · refine Wp.seq (Wp.region ?_)
   refine LWp.o 27 (.one (.ptr (.ext 0) 0 [] 0)) ?_
   refine LWp.o 28 (.one (.ptr (.ext 0) 0 [] 0)) ?_
   refine LWp.o 29 (.one (.ptr (.ext 0) 0 [] 2)) ?_
   refine LWp.s [] (.ext 0) [.str xC.text_, .int .i64 xC.at_, .bool true] ?_
   refine LWp.nil ?_
   refine Wp.seq (Wp.region ?_)
   refine LWp.o 2 (I 0) ?_
   refine LWp.nil ?_
   cases h
   exact Wp.ret ⟨.inr rfl, _, _, rfl, rfl, rfl⟩
 refine Wp.skip ?_
 refine Wp.seq (Wp.region ?_)
 refine LWp.o 30 (.one (.ptr (.ext 0) 0 [] 0)) ?_
 refine LWp.o 31 (I j1.2.1) ?_
 refine LWp.o 32 (.one (.ptr (.ext 0) 0 [] 0)) ?_
 refine LWp.o 33 (.one (.ptr (.ext 0) 0 [] 1)) ?_
 refine LWp.s [] (.ext 0) [.str xC.text_, .int .i64 j1.2.1, .bool xC.bad_] ?_
 refine LWp.nil ?_
 refine Wp.seq (Wp.region ?_)
 refine LWp.o 34 (I j1.1) ?_
 refine LWp.o 2 (I j1.1) ?_
 refine LWp.nil ?_
 cases h
 exact Wp.ret ⟨.inr rfl, _, _, rfl, rfl, rfl⟩
end Go.TI
