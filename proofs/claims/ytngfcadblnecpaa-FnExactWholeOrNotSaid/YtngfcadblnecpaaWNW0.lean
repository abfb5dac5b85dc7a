/- That they compute it. No condition. -/
import Derived.Test.YtngfcadblnecpaaWND
import Derived.Test.YtngfcadblnecpaaProg
namespace Go.TI
open Go Go.Proofs
set_option linter.unusedVariables false
set_option linter.unusedSimpArgs false
theorem mixed : Try.prog.follows .mixedOrders = true := rfl

def c9 (x : ByteArray) : List TV := [.str x]
theorem k9 : ∀ x, (c9 x).length = 1 := fun _ => rfl
theorem sh9 : ∀ l, shares (encs c9 l) = encs c9 l := shares_encs (fun _ => rfl)
theorem ns9 : ∀ l, hasShareds (encs c9 l) = false := ns_encs (fun _ => rfl)
def w_szStringS_H1 (xA : List ByteArray) (z1 : Int) (z2 : Int) : St := mkSt [(0, (.one (.sl false 9 1 (encs c9 xA)))), (1, (I z1)), (5, (I z2))] []
def w_szStringS_H2 (z3 : Int) : St := mkSt [(1, (I z3))] []
set_option maxRecDepth 100000 in
theorem w_szStringS_t (xA : List ByteArray) (xLeft : Int) (r : Int) (h : w_szStringS xA xLeft = some r) : Gives Try.prog 53 [.sv (.one (.sl false 9 1 (encs c9 xA))), .sv (I xLeft)] (I r) (List.replicate 2 .gone) := by
 unfold w_szStringS at h
 refine gives_of Try.func53 rfl ?_
 rw [Try.ntmps53]
 refine Wp.seq ?_
 refine Wp.region ?_
 refine LWp.o 4 (I 0) ?_
 refine LWp.nil ?_
 refine Wp.seq ?_
 refine Wp.region ?_
 refine LWp.o 6 (I xLeft) ?_
 refine LWp.o 7 (.one (.sl false 9 1 (encs c9 xA))) ?_
 refine LWp.o 8 (I (ln xA)) ?_ (st_pure (p_ln k9 xA))
 refine LWp.o 9 (I (sb xLeft (ln xA))) ?_
 refine LWp.o 1 (I (sb xLeft (ln xA))) ?_
 refine LWp.nil ?_
 refine Wp.seq ?_
 refine Wp.seq ?_
 refine Wp.region ?_
 refine LWp.o 10 (I (sb xLeft (ln xA))) ?_
 refine LWp.o 11 (B (decide ((sb xLeft (ln xA)) < 0))) ?_
 refine LWp.nil ?_
 refine Wp.c h (fun h => ?_) (fun h => ?_)
 · refine Wp.seq ?_
   refine Wp.region ?_
   refine LWp.o 4 (I (-1)) ?_
   refine LWp.nil ?_
   cases h
   exact Wp.ret ⟨.inr rfl, _, _, rfl, rfl⟩
 refine Wp.skip ?_
 refine Wp.seq ?_
 refine Wp.seq ?_
 refine Wp.region ?_
 refine LWp.o 5 (I 0) ?_
 refine LWp.nil ?_
 refine Wp.l2 h [0, 1, 5] [] (fun s => (w_szStringS_H1 xA s.1 s.2)) [1] [] (fun s => (w_szStringS_H2 s)) ⟨rfl, rfl⟩ ?_ ?_
 · rintro ⟨yLeft1, yI1⟩ o (h : w_szStringS_b1 xA yLeft1 yI1 = some o) hk1
   unfold w_szStringS_b1 at h
   change Wp _ _ _ (w_szStringS_H1 xA yLeft1 yI1) _
   refine Wp.seq ?_
   refine Wp.seq ?_
   refine Wp.region ?_
   refine LWp.o 12 (I yI1) ?_
   refine LWp.o 13 (.one (.sl false 9 1 (encs c9 xA))) ?_
   refine LWp.o 14 (I (ln xA)) ?_ (st_pure (p_ln k9 xA))
   refine LWp.o 15 (B (decide (yI1 < (ln xA)))) ?_
   refine LWp.nil ?_
   refine Wp.c h (fun h => ?_) (fun h => ?_)
   · refine Wp.skip ?_
     refine Wp.seq ?_
     refine Wp.block ?_
     refine Wp.seq ?_
     refine Wp.region ?_
     refine LWp.o 18 (I yLeft1) ?_
     refine LWp.o 19 (.one (.sl false 9 1 (encs c9 xA))) ?_
     refine LWp.o 20 (I yI1) ?_
     refine LWp.p h 21 (fun _ => (.one (.ptr (.slot 19) 1 [0] (Int.toNat yI1 * 1 + 0)))) ?_ (fun x1 gx1 => st_pure (p_ix k9 (.slot 19) [] 0 gx1))
     intro x1 gx1 h
     refine LWp.o 22 (Y x1) ?_ (st_pure (p_lc k9 (.slot 19) [0] 0 (.str x1) gx1))
     refine LWp.o 23 (I (sln x1)) ?_
     refine LWp.o 24 (I (sb yLeft1 (sln x1))) ?_
     refine LWp.o 1 (I (sb yLeft1 (sln x1))) ?_
     refine LWp.nil ?_
     refine Wp.seq ?_
     refine Wp.region ?_
     refine LWp.o 25 (I (sb yLeft1 (sln x1))) ?_
     refine LWp.o 26 (B (decide ((sb yLeft1 (sln x1)) < 0))) ?_
     refine LWp.nil ?_
     refine Wp.c h (fun h => ?_) (fun h => ?_)
     · refine Wp.seq ?_
       refine Wp.region ?_
       refine LWp.o 4 (I (-1)) ?_
       refine LWp.nil ?_
       cases h
       replace h : some _ = some _ := hk1 _ rfl
       cases h
       exact Wp.ret ⟨.inr rfl, _, _, rfl, rfl⟩
     refine Wp.skip ?_
     refine Wp.region ?_
     refine LWp.o 16 (I yI1) ?_
     refine LWp.o 17 (I (ad yI1 1)) ?_
     refine LWp.o 5 (I (ad yI1 1)) ?_
     refine LWp.nil ?_
     cases h
     exact ⟨_, rfl, rfl, rfl⟩
   refine Wp.exit ?_
   cases h
   exact ⟨_, rfl, rfl, rfl⟩
 intro v1 h E hE
 refine nt_wp hE ?_
 change Wp _ _ _ (w_szStringS_H2 v1) _
 refine Wp.seq ?_
 refine Wp.region ?_
 refine LWp.o 27 (I v1) ?_
 refine LWp.o 4 (I v1) ?_
 refine LWp.nil ?_
 cases h
 exact Wp.ret ⟨.inr rfl, _, _, rfl, rfl⟩
set_option maxRecDepth 100000 in
theorem w_szShelf_t (xA : Shelf) (xLeft : Int) (r : Int) (h : w_szShelf xA xLeft = some r) : Gives Try.prog 32 [.sv (.agg [.int .i64 xA.Vol, .sl false 9 1 (encs c9 xA.Texts)]), .sv (I xLeft)] (I r) (List.replicate 2 .gone) := by
 unfold w_szShelf at h
 refine gives_of Try.func32 rfl ?_
 rw [Try.ntmps32]
 refine Wp.seq ?_
 refine Wp.region ?_
 refine LWp.b [] 2 [.int .i64 xA.Vol, .sl false 9 1 (encs c9 xA.Texts)] ?_
 refine LWp.o 4 (I 0) ?_
 refine LWp.nil ?_
 refine Wp.seq ?_
 refine Wp.region ?_
 refine LWp.o 5 (.one (.ptr (.box 2) 1 [] 1)) ?_
 refine LWp.o 6 (.one (.sl false 9 1 (encs c9 xA.Texts))) ?_
 refine LWp.o 7 (I xLeft) ?_
 refine LWp.cl h 8 (fun v1 => (I v1)) rfl (l := [.sv (.one (.sl false 9 1 (encs c9 xA.Texts))), .sv (.one (.int .i64 xLeft))]) rfl (fun v hv => w_szStringS_t xA.Texts xLeft v hv) (.inl rfl) ?_
 intro v1 gv1 h
 refine LWp.o 1 (I v1) ?_
 refine LWp.nil ?_
 refine Wp.seq ?_
 refine Wp.seq ?_
 refine Wp.region ?_
 refine LWp.o 9 (I v1) ?_
 refine LWp.o 10 (B (decide (v1 < 0))) ?_
 refine LWp.nil ?_
 refine Wp.c h (fun h => ?_) (fun h => ?_)
 · refine Wp.seq ?_
   refine Wp.region ?_
   refine LWp.o 4 (I (-1)) ?_
   refine LWp.nil ?_
   cases h
   exact Wp.ret ⟨.inr rfl, _, _, rfl, rfl⟩
 refine Wp.skip ?_
 refine Wp.seq ?_
 refine Wp.region ?_
 refine LWp.o 11 (I v1) ?_
 refine LWp.o 4 (I v1) ?_
 refine LWp.nil ?_
 cases h
 exact Wp.ret ⟨.inr rfl, _, _, rfl, rfl⟩
def c57 (o : Bool) (x : Shelf) : List TV := [.int .i64 x.Vol, .sl o 9 1 (encs c9 x.Texts)]
theorem k57 (o : Bool) : ∀ x, (c57 o x).length = 2 := fun _ => rfl
theorem sh57 : ∀ l, shares (encs (c57 true) l) = encs (c57 false) l := shares_encs (fun x => by simp only [c57, shares, share, sh9])
theorem ns57 : ∀ l, hasShareds (encs (c57 true) l) = false := ns_encs (fun x => by simp [c57, hasShareds, hasShared, ns9])
def w_szShelfS_H1 (xA : List Shelf) (z1 : Int) (z2 : Int) : St := mkSt [(0, (.one (.sl false 57 2 (encs (c57 false) xA)))), (1, (I z1)), (5, (I z2))] []
def w_szShelfS_H2 (z3 : Int) : St := mkSt [(1, (I z3))] []
set_option maxRecDepth 100000 in
theorem w_szShelfS_t (xA : List Shelf) (xLeft : Int) (r : Int) (h : w_szShelfS xA xLeft = some r) : Gives Try.prog 12 [.sv (.one (.sl false 57 2 (encs (c57 false) xA))), .sv (I xLeft)] (I r) (List.replicate 2 .gone) := by
 unfold w_szShelfS at h
 refine gives_of Try.func12 rfl ?_
 rw [Try.ntmps12]
 refine Wp.seq ?_
 refine Wp.region ?_
 refine LWp.o 4 (I 0) ?_
 refine LWp.nil ?_
 refine Wp.seq ?_
 refine Wp.region ?_
 refine LWp.o 6 (I xLeft) ?_
 refine LWp.o 7 (.one (.sl false 57 2 (encs (c57 false) xA))) ?_
 refine LWp.o 8 (I (ln xA)) ?_ (st_pure (p_ln (k57 false) xA))
 refine LWp.o 9 (I (sb xLeft (ln xA))) ?_
 refine LWp.o 1 (I (sb xLeft (ln xA))) ?_
 refine LWp.nil ?_
 refine Wp.seq ?_
 refine Wp.seq ?_
 refine Wp.region ?_
 refine LWp.o 10 (I (sb xLeft (ln xA))) ?_
 refine LWp.o 11 (B (decide ((sb xLeft (ln xA)) < 0))) ?_
 refine LWp.nil ?_
 refine Wp.c h (fun h => ?_) (fun h => ?_)
 · refine Wp.seq ?_
   refine Wp.region ?_
   refine LWp.o 4 (I (-1)) ?_
   refine LWp.nil ?_
   cases h
   exact Wp.ret ⟨.inr rfl, _, _, rfl, rfl⟩
 refine Wp.skip ?_
 refine Wp.seq ?_
 refine Wp.seq ?_
 refine Wp.region ?_
 refine LWp.o 5 (I 0) ?_
 refine LWp.nil ?_
 refine Wp.l2 h [0, 1, 5] [] (fun s => (w_szShelfS_H1 xA s.1 s.2)) [1] [] (fun s => (w_szShelfS_H2 s)) ⟨rfl, rfl⟩ ?_ ?_
 · rintro ⟨yLeft1, yI1⟩ o (h : w_szShelfS_b1 xA yLeft1 yI1 = some o) hk1
   unfold w_szShelfS_b1 at h
   change Wp _ _ _ (w_szShelfS_H1 xA yLeft1 yI1) _
   refine Wp.seq ?_
   refine Wp.seq ?_
   refine Wp.region ?_
   refine LWp.o 12 (I yI1) ?_
   refine LWp.o 13 (.one (.sl false 57 2 (encs (c57 false) xA))) ?_
   refine LWp.o 14 (I (ln xA)) ?_ (st_pure (p_ln (k57 false) xA))
   refine LWp.o 15 (B (decide (yI1 < (ln xA)))) ?_
   refine LWp.nil ?_
   refine Wp.c h (fun h => ?_) (fun h => ?_)
   · refine Wp.skip ?_
     refine Wp.seq ?_
     refine Wp.block ?_
     refine Wp.seq ?_
     refine Wp.region ?_
     refine LWp.o 18 (.one (.sl false 57 2 (encs (c57 false) xA))) ?_
     refine LWp.o 19 (I yI1) ?_
     refine LWp.p h 20 (fun _ => (.one (.ptr (.slot 18) 1 [0] (Int.toNat yI1 * 2 + 0)))) ?_ (fun x1 gx1 => st_pure (p_ix (k57 false) (.slot 18) [] 0 gx1))
     intro x1 gx1 h
     refine LWp.o 21 (.agg [.int .i64 x1.Vol, .sl false 9 1 (encs c9 x1.Texts)]) ?_ (st_pure (p_le (k57 false) (.slot 18) [0] gx1))
     refine LWp.o 22 (I yLeft1) ?_
     refine LWp.cl h 23 (fun v1 => (I v1)) rfl (l := [.sv (.agg [.int .i64 x1.Vol, .sl false 9 1 (encs c9 x1.Texts)]), .sv (.one (.int .i64 yLeft1))]) rfl (fun v hv => w_szShelf_t x1 yLeft1 v hv) (.inl rfl) ?_
     intro v1 gv1 h
     refine LWp.o 1 (I v1) ?_
     refine LWp.nil ?_
     refine Wp.seq ?_
     refine Wp.region ?_
     refine LWp.o 24 (I v1) ?_
     refine LWp.o 25 (B (decide (v1 < 0))) ?_
     refine LWp.nil ?_
     refine Wp.c h (fun h => ?_) (fun h => ?_)
     · refine Wp.seq ?_
       refine Wp.region ?_
       refine LWp.o 4 (I (-1)) ?_
       refine LWp.nil ?_
       cases h
       replace h : some _ = some _ := hk1 _ rfl
       cases h
       exact Wp.ret ⟨.inr rfl, _, _, rfl, rfl⟩
     refine Wp.skip ?_
     refine Wp.region ?_
     refine LWp.o 16 (I yI1) ?_
     refine LWp.o 17 (I (ad yI1 1)) ?_
     refine LWp.o 5 (I (ad yI1 1)) ?_
     refine LWp.nil ?_
     cases h
     exact ⟨_, rfl, rfl, rfl⟩
   refine Wp.exit ?_
   cases h
   exact ⟨_, rfl, rfl, rfl⟩
 intro v2 h E hE
 refine nt_wp hE ?_
 change Wp _ _ _ (w_szShelfS_H2 v2) _
 refine Wp.seq ?_
 refine Wp.region ?_
 refine LWp.o 26 (I v2) ?_
 refine LWp.o 4 (I v2) ?_
 refine LWp.nil ?_
 cases h
 exact Wp.ret ⟨.inr rfl, _, _, rfl, rfl⟩
def w_toStringS_H1 (xA : List ByteArray) (z1 : List ByteArray) (z2 : Int) : St := mkSt [(0, (.one (.sl false 9 1 (encs c9 xA)))), (3, (.one (.sl true 9 1 (encs c9 z1)))), (4, (I z2))] []
def w_toStringS_H2 (z3 : List ByteArray) : St := mkSt [(3, (.one (.sl true 9 1 (encs c9 z3))))] []
set_option maxRecDepth 100000 in
theorem w_toStringS_t (xA : List ByteArray) (r : List ByteArray) (h : w_toStringS xA = some r) : Gives Try.prog 54 [.sv (.one (.sl false 9 1 (encs c9 xA)))] (.one (.sl true 9 1 (encs c9 r))) (List.replicate 1 .gone) := by
 unfold w_toStringS at h
 refine gives_of Try.func54 rfl ?_
 rw [Try.ntmps54]
 refine Wp.seq ?_
 refine Wp.region ?_
 refine LWp.o 2 (.one (.sl true 9 1 (encs c9 []))) ?_
 refine LWp.nil ?_
 refine Wp.seq ?_
 refine Wp.region ?_
 refine LWp.o 5 (.one (.sl false 9 1 (encs c9 xA))) ?_
 refine LWp.o 6 (I (ln xA)) ?_ (st_pure (p_ln k9 xA))
 refine LWp.p h 7 (fun c1 => (.one (.sl true 9 1 (encs c9 c1)))) ?_ (fun c1 gc1 => s_mk (f := c9) (bs []) gc1)
 intro c1 gc1 h
 refine LWp.m true [(.slot 7, [.junk])] 3 (.one (.sl true 9 1 (encs c9 c1))) ?_
 refine LWp.nil ?_
 refine Wp.seq ?_
 refine Wp.seq ?_
 refine Wp.region ?_
 refine LWp.o 4 (I 0) ?_
 refine LWp.nil ?_
 refine Wp.l1 h [0, 3, 4] [] (fun s => (w_toStringS_H1 xA s.1 s.2)) [3] [] (fun s => (w_toStringS_H2 s)) ⟨rfl, rfl⟩ ?_ ?_
 · rintro ⟨yOut1, yI1⟩ o (h : w_toStringS_b1 xA yOut1 yI1 = some o)
   unfold w_toStringS_b1 at h
   change Wp _ _ _ (w_toStringS_H1 xA yOut1 yI1) _
   refine Wp.seq ?_
   refine Wp.seq ?_
   refine Wp.region ?_
   refine LWp.o 8 (I yI1) ?_
   refine LWp.o 9 (.one (.sl false 9 1 (encs c9 xA))) ?_
   refine LWp.o 10 (I (ln xA)) ?_ (st_pure (p_ln k9 xA))
   refine LWp.o 11 (B (decide (yI1 < (ln xA)))) ?_
   refine LWp.nil ?_
   refine Wp.c h (fun h => ?_) (fun h => ?_)
   · refine Wp.skip ?_
     refine Wp.seq ?_
     refine Wp.block ?_
     refine Wp.region ?_
     refine LWp.o 14 (.one (.view (.slot 3) 0 [] 0)) ?_
     refine LWp.o 15 (I yI1) ?_
     refine LWp.o 16 (.one (.sl false 9 1 (encs c9 xA))) ?_
     refine LWp.o 17 (I yI1) ?_
     refine LWp.p h 18 (fun _ => (.one (.ptr (.slot 16) 1 [0] (Int.toNat yI1 * 1 + 0)))) ?_ (fun x1 gx1 => st_pure (p_ix k9 (.slot 16) [] 0 gx1))
     intro x1 gx1 h
     refine LWp.o 19 (Y x1) ?_ (st_pure (p_lc k9 (.slot 16) [0] 0 (.str x1) gx1))
     refine LWp.p h 20 (fun _ => (.one (.ptr (.slot 3) 0 [0] (Int.toNat yI1 * 1 + 0)))) ?_ (fun x2 gx2 => st_pure (p_ix k9 (.slot 3) [] 0 gx2))
     intro x2 gx2 h
     refine LWp.sb [] (.slot 3) [.sl true 9 1 (encs c9 (si yOut1 yI1 x1))] ?_ (s_st [] (q := [0]) (cs := [.sl true 9 1 (encs c9 yOut1)]) (xs := [.str x1]) (At.one (setRow_gi k9 (k := 0) (z := x1) gx2 rfl rfl)) (fit_gi k9 (k := 0) gx2 rfl))
     refine LWp.nil ?_
     refine Wp.region ?_
     refine LWp.o 12 (I yI1) ?_
     refine LWp.o 13 (I (ad yI1 1)) ?_
     refine LWp.o 4 (I (ad yI1 1)) ?_
     refine LWp.nil ?_
     cases h
     exact ⟨_, rfl, rfl, rfl⟩
   refine Wp.exit ?_
   cases h
   exact ⟨_, rfl, rfl, rfl⟩
 intro v1 h E hE
 refine nt_wp hE ?_
 change Wp _ _ _ (w_toStringS_H2 v1) _
 refine Wp.seq ?_
 refine Wp.region ?_
 refine LWp.o 21 (.one (.view (.slot 3) 0 [] 0)) ?_
 refine LWp.m true [(.slot 3, [.junk])] 2 (.one (.sl true 9 1 (encs c9 v1))) ?_
 refine LWp.nil ?_
 cases h
 exact Wp.ret ⟨.inr rfl, _, _, rfl, rfl⟩
set_option maxRecDepth 100000 in
theorem w_toShelf_t (xA : Shelf) (r : Shelf) (h : w_toShelf xA = some r) : Gives Try.prog 34 [.sv (.agg [.int .i64 xA.Vol, .sl false 9 1 (encs c9 xA.Texts)])] (.agg [.int .i64 r.Vol, .sl true 9 1 (encs c9 r.Texts)]) (List.replicate 1 .gone) := by
 unfold w_toShelf at h
 refine gives_of Try.func34 rfl ?_
 rw [Try.ntmps34]
 refine Wp.seq ?_
 refine Wp.region ?_
 refine LWp.b [] 1 [.int .i64 xA.Vol, .sl false 9 1 (encs c9 xA.Texts)] ?_
 refine LWp.b [] 2 [.int .i64 0, .sl true 9 1 (encs c9 [])] ?_
 refine LWp.nil ?_
 refine Wp.seq ?_
 refine Wp.region ?_
 refine LWp.b [] 3 [.int .i64 0, .sl true 9 1 (encs c9 [])] ?_
 refine LWp.nil ?_
 refine Wp.seq ?_
 refine Wp.region ?_
 refine LWp.o 4 (.one (.ptr (.box 1) 1 [] 0)) ?_
 refine LWp.o 5 (I xA.Vol) ?_
 refine LWp.o 6 (.one (.ptr (.box 3) 1 [] 0)) ?_
 refine LWp.s [] (.box 3) [.int .i64 xA.Vol, .sl true 9 1 (encs c9 [])] ?_
 refine LWp.nil ?_
 refine Wp.seq ?_
 refine Wp.region ?_
 refine LWp.o 7 (.one (.ptr (.box 1) 1 [] 1)) ?_
 refine LWp.o 8 (.one (.sl false 9 1 (encs c9 xA.Texts))) ?_
 refine LWp.cl h 9 (fun v1 => (.one (.sl true 9 1 (encs c9 v1)))) rfl (l := [.sv (.one (.sl false 9 1 (encs c9 xA.Texts)))]) rfl (fun v hv => w_toStringS_t xA.Texts v hv) (.inl rfl) ?_
 intro v1 gv1 h
 refine LWp.o 10 (.one (.ptr (.box 3) 1 [] 1)) ?_
 refine LWp.sb [(.slot 9, [.junk])] (.box 3) [.int .i64 xA.Vol, .sl true 9 1 (encs c9 v1)] ?_
 refine LWp.nil ?_
 refine Wp.seq ?_
 refine Wp.region ?_
 refine LWp.o 11 (.agg [.int .i64 xA.Vol, .view (.box 3) 2 [] 1]) ?_
 refine LWp.sb [(.box 3, [.int .i64 xA.Vol, .junk])] (.box 2) [.int .i64 xA.Vol, .sl true 9 1 (encs c9 v1)] ?_
 refine LWp.nil ?_
 cases h
 exact Wp.ret ⟨.inr rfl, _, _, rfl, rfl⟩
def c58 (o : Bool) (x : Shelf) : List TV := [.int .i64 x.Vol, .sl o 9 1 (encs c9 x.Texts)]
theorem k58 (o : Bool) : ∀ x, (c58 o x).length = 2 := fun _ => rfl
theorem sh58 : ∀ l, shares (encs (c58 true) l) = encs (c58 false) l := shares_encs (fun x => by simp only [c58, shares, share, sh9])
theorem ns58 : ∀ l, hasShareds (encs (c58 true) l) = false := ns_encs (fun x => by simp [c58, hasShareds, hasShared, ns9])
def w_toShelfS_H1 (xA : List Shelf) (z1 : List Shelf) (z2 : Int) : St := mkSt [(0, (.one (.sl false 57 2 (encs (c57 false) xA)))), (3, (.one (.sl true 58 2 (encs (c58 true) z1)))), (4, (I z2))] []
def w_toShelfS_H2 (z3 : List Shelf) : St := mkSt [(3, (.one (.sl true 58 2 (encs (c58 true) z3))))] []
set_option maxRecDepth 100000 in
theorem w_toShelfS_t (xA : List Shelf) (r : List Shelf) (h : w_toShelfS xA = some r) : Gives Try.prog 14 [.sv (.one (.sl false 57 2 (encs (c57 false) xA)))] (.one (.sl true 58 2 (encs (c58 true) r))) (List.replicate 1 .gone) := by
 unfold w_toShelfS at h
 refine gives_of Try.func14 rfl ?_
 rw [Try.ntmps14]
 refine Wp.seq ?_
 refine Wp.region ?_
 refine LWp.o 2 (.one (.sl true 58 2 (encs (c58 true) []))) ?_
 refine LWp.nil ?_
 refine Wp.seq ?_
 refine Wp.region ?_
 refine LWp.o 5 (.one (.sl false 57 2 (encs (c57 false) xA))) ?_
 refine LWp.o 6 (I (ln xA)) ?_ (st_pure (p_ln (k57 false) xA))
 refine LWp.p h 7 (fun c1 => (.one (.sl true 58 2 (encs (c58 true) c1)))) ?_ (fun c1 gc1 => s_mk (f := (c58 true)) (Shelf.mk 0 []) gc1)
 intro c1 gc1 h
 refine LWp.m true [(.slot 7, [.junk])] 3 (.one (.sl true 58 2 (encs (c58 true) c1))) ?_
 refine LWp.nil ?_
 refine Wp.seq ?_
 refine Wp.seq ?_
 refine Wp.region ?_
 refine LWp.o 4 (I 0) ?_
 refine LWp.nil ?_
 refine Wp.l1 h [0, 3, 4] [] (fun s => (w_toShelfS_H1 xA s.1 s.2)) [3] [] (fun s => (w_toShelfS_H2 s)) ⟨rfl, rfl⟩ ?_ ?_
 · rintro ⟨yOut1, yI1⟩ o (h : w_toShelfS_b1 xA yOut1 yI1 = some o)
   unfold w_toShelfS_b1 at h
   change Wp _ _ _ (w_toShelfS_H1 xA yOut1 yI1) _
   refine Wp.seq ?_
   refine Wp.seq ?_
   refine Wp.region ?_
   refine LWp.o 8 (I yI1) ?_
   refine LWp.o 9 (.one (.sl false 57 2 (encs (c57 false) xA))) ?_
   refine LWp.o 10 (I (ln xA)) ?_ (st_pure (p_ln (k57 false) xA))
   refine LWp.o 11 (B (decide (yI1 < (ln xA)))) ?_
   refine LWp.nil ?_
   refine Wp.c h (fun h => ?_) (fun h => ?_)
   · refine Wp.skip ?_
     refine Wp.seq ?_
     refine Wp.block ?_
     refine Wp.region ?_
     refine LWp.o 14 (.one (.view (.slot 3) 0 [] 0)) ?_
     refine LWp.o 15 (I yI1) ?_
     refine LWp.o 16 (.one (.sl false 57 2 (encs (c57 false) xA))) ?_
     refine LWp.o 17 (I yI1) ?_
     refine LWp.p h 18 (fun _ => (.one (.ptr (.slot 16) 1 [0] (Int.toNat yI1 * 2 + 0)))) ?_ (fun x1 gx1 => st_pure (p_ix (k57 false) (.slot 16) [] 0 gx1))
     intro x1 gx1 h
     refine LWp.o 19 (.agg [.int .i64 x1.Vol, .sl false 9 1 (encs c9 x1.Texts)]) ?_ (st_pure (p_le (k57 false) (.slot 16) [0] gx1))
     refine LWp.cl h 20 (fun v1 => (.agg [.int .i64 v1.Vol, .sl true 9 1 (encs c9 v1.Texts)])) rfl (l := [.sv (.agg [.int .i64 x1.Vol, .sl false 9 1 (encs c9 x1.Texts)])]) rfl (fun v hv => w_toShelf_t x1 v hv) (.inl rfl) ?_
     intro v1 gv1 h
     refine LWp.p h 21 (fun _ => (.one (.ptr (.slot 3) 0 [0] (Int.toNat yI1 * 2 + 0)))) ?_ (fun x2 gx2 => st_pure (p_ix (k58 true) (.slot 3) [] 0 gx2))
     intro x2 gx2 h
     refine LWp.sb [(.slot 20, [.int .i64 v1.Vol, .junk])] (.slot 3) [.sl true 58 2 (encs (c58 true) (si yOut1 yI1 v1))] ?_ (s_st [(.slot 20, [.int .i64 v1.Vol, .junk])] (q := [0]) (cs := [.sl true 58 2 (encs (c58 true) yOut1)]) (xs := [.int .i64 v1.Vol, .sl true 9 1 (encs c9 v1.Texts)]) (At.one (setRow_gi (k58 true) (k := 0) (z := v1) gx2 rfl rfl)) (fit_gi (k58 true) (k := 0) gx2 rfl))
     refine LWp.nil ?_
     refine Wp.region ?_
     refine LWp.o 12 (I yI1) ?_
     refine LWp.o 13 (I (ad yI1 1)) ?_
     refine LWp.o 4 (I (ad yI1 1)) ?_
     refine LWp.nil ?_
     cases h
     exact ⟨_, rfl, rfl, rfl⟩
   refine Wp.exit ?_
   cases h
   exact ⟨_, rfl, rfl, rfl⟩
 intro v2 h E hE
 refine nt_wp hE ?_
 change Wp _ _ _ (w_toShelfS_H2 v2) _
 refine Wp.seq ?_
 refine Wp.region ?_
 refine LWp.o 22 (.one (.view (.slot 3) 0 [] 0)) ?_
 refine LWp.m true [(.slot 3, [.junk])] 2 (.one (.sl true 58 2 (encs (c58 true) v2))) ?_
 refine LWp.nil ?_
 cases h
 exact Wp.ret ⟨.inr rfl, _, _, rfl, rfl⟩
def s_l20SameTexts_H1 (xA : List ByteArray) (xB : List ByteArray) (z1 : Int) : St := mkSt [(0, (.one (.sl false 9 1 (encs c9 xA)))), (1, (.one (.sl false 9 1 (encs c9 xB)))), (5, (I z1))] []
def s_l20SameTexts_H2  : St := mkSt [] []
set_option maxRecDepth 100000 in
theorem s_l20SameTexts_t (xA : List ByteArray) (xB : List ByteArray) (r : Bool) (h : s_l20SameTexts xA xB = some r) : Gives Try.prog 33 [.sv (.one (.sl false 9 1 (encs c9 xA))), .sv (.one (.sl false 9 1 (encs c9 xB)))] (B r) (List.replicate 2 .gone) := by
 unfold s_l20SameTexts at h
 refine gives_of Try.func33 rfl ?_
 rw [Try.ntmps33]
 refine Wp.seq ?_
 refine Wp.region ?_
 refine LWp.o 4 (B false) ?_
 refine LWp.nil ?_
 refine Wp.seq ?_
 refine Wp.seq ?_
 refine Wp.region ?_
 refine LWp.o 6 (.one (.sl false 9 1 (encs c9 xA))) ?_
 refine LWp.o 7 (I (ln xA)) ?_ (st_pure (p_ln k9 xA))
 refine LWp.o 8 (.one (.sl false 9 1 (encs c9 xB))) ?_
 refine LWp.o 9 (I (ln xB)) ?_ (st_pure (p_ln k9 xB))
 refine LWp.o 10 (B ((ln xA) != (ln xB))) ?_
 refine LWp.nil ?_
 refine Wp.c h (fun h => ?_) (fun h => ?_)
 · refine Wp.seq ?_
   refine Wp.region ?_
   refine LWp.o 4 (B false) ?_
   refine LWp.nil ?_
   cases h
   exact Wp.ret ⟨.inr rfl, _, _, rfl, rfl⟩
 refine Wp.skip ?_
 refine Wp.seq ?_
 refine Wp.seq ?_
 refine Wp.region ?_
 refine LWp.o 5 (I 0) ?_
 refine LWp.nil ?_
 refine Wp.l2 h [0, 1, 5] [] (fun s => (s_l20SameTexts_H1 xA xB s)) [] [] (fun _ => s_l20SameTexts_H2) ⟨rfl, rfl⟩ ?_ ?_
 · rintro yI1 o (h : s_l20SameTexts_b1 xA xB yI1 = some o) hk1
   unfold s_l20SameTexts_b1 at h
   change Wp _ _ _ (s_l20SameTexts_H1 xA xB yI1) _
   refine Wp.seq ?_
   refine Wp.seq ?_
   refine Wp.region ?_
   refine LWp.o 11 (I yI1) ?_
   refine LWp.o 12 (.one (.sl false 9 1 (encs c9 xA))) ?_
   refine LWp.o 13 (I (ln xA)) ?_ (st_pure (p_ln k9 xA))
   refine LWp.o 14 (B (decide (yI1 < (ln xA)))) ?_
   refine LWp.nil ?_
   refine Wp.c h (fun h => ?_) (fun h => ?_)
   · refine Wp.skip ?_
     refine Wp.seq ?_
     refine Wp.block ?_
     refine Wp.seq ?_
     refine Wp.regionS mixed (by decide +kernel) ?_
     refine SWp.o 17 (.one (.sl false 9 1 (encs c9 xA))) ?_
     refine SWp.o 18 (I yI1) ?_
     refine SWp.p h 19 (fun _ => (.one (.ptr (.slot 17) 1 [0] (Int.toNat yI1 * 1 + 0)))) ?_ (fun x1 gx1 => sl_pure (p_ix k9 (.slot 17) [] 0 gx1))
     intro x1 gx1 h
     refine SWp.o 20 (Y x1) ?_ (sl_pure (p_lc k9 (.slot 17) [0] 0 (.str x1) gx1))
     refine SWp.o 21 (.one (.sl false 9 1 (encs c9 xB))) ?_
     refine SWp.o 22 (I yI1) ?_
     refine SWp.p h 23 (fun _ => (.one (.ptr (.slot 21) 1 [0] (Int.toNat yI1 * 1 + 0)))) ?_ (fun x2 gx2 => sl_pure (p_ix k9 (.slot 21) [] 0 gx2))
     intro x2 gx2 h
     refine SWp.o 24 (Y x2) ?_ (sl_pure (p_lc k9 (.slot 21) [0] 0 (.str x2) gx2))
     refine SWp.o 25 (B (!(seq x1 x2))) ?_
     refine SWp.nil ?_
     refine Wp.c h (fun h => ?_) (fun h => ?_)
     · refine Wp.seq ?_
       refine Wp.region ?_
       refine LWp.o 4 (B false) ?_
       refine LWp.nil ?_
       cases h
       replace h : some _ = some _ := hk1 _ rfl
       cases h
       exact Wp.ret ⟨.inr rfl, _, _, rfl, rfl⟩
     refine Wp.skip ?_
     refine Wp.region ?_
     refine LWp.o 15 (I yI1) ?_
     refine LWp.o 16 (I (ad yI1 1)) ?_
     refine LWp.o 5 (I (ad yI1 1)) ?_
     refine LWp.nil ?_
     cases h
     exact ⟨_, rfl, rfl, rfl⟩
   refine Wp.exit ?_
   cases h
   exact ⟨_, rfl, rfl, rfl⟩
 intro v1 h E hE
 refine nt_wp hE ?_
 change Wp _ _ _ s_l20SameTexts_H2 _
 refine Wp.seq ?_
 refine Wp.region ?_
 refine LWp.o 4 (B true) ?_
 refine LWp.nil ?_
 cases h
 exact Wp.ret ⟨.inr rfl, _, _, rfl, rfl⟩
def s_SameModel_H1 (xA : List Shelf) (xB : List Shelf) (z1 : Int) : St := mkSt [(0, (.one (.sl false 58 2 (encs (c58 false) xA)))), (1, (.one (.sl false 58 2 (encs (c58 false) xB)))), (5, (I z1))] []
def s_SameModel_H2  : St := mkSt [] []
set_option maxRecDepth 100000 in
theorem s_SameModel_t (xA : List Shelf) (xB : List Shelf) (r : Bool) (h : s_SameModel xA xB = some r) : Gives Try.prog 13 [.sv (.one (.sl false 58 2 (encs (c58 false) xA))), .sv (.one (.sl false 58 2 (encs (c58 false) xB)))] (B r) (List.replicate 2 .gone) := by
 unfold s_SameModel at h
 refine gives_of Try.func13 rfl ?_
 rw [Try.ntmps13]
 refine Wp.seq ?_
 refine Wp.region ?_
 refine LWp.o 4 (B false) ?_
 refine LWp.nil ?_
 refine Wp.seq ?_
 refine Wp.seq ?_
 refine Wp.region ?_
 refine LWp.o 6 (.one (.sl false 58 2 (encs (c58 false) xA))) ?_
 refine LWp.o 7 (I (ln xA)) ?_ (st_pure (p_ln (k58 false) xA))
 refine LWp.o 8 (.one (.sl false 58 2 (encs (c58 false) xB))) ?_
 refine LWp.o 9 (I (ln xB)) ?_ (st_pure (p_ln (k58 false) xB))
 refine LWp.o 10 (B ((ln xA) != (ln xB))) ?_
 refine LWp.nil ?_
 refine Wp.c h (fun h => ?_) (fun h => ?_)
 · refine Wp.seq ?_
   refine Wp.region ?_
   refine LWp.o 4 (B false) ?_
   refine LWp.nil ?_
   cases h
   exact Wp.ret ⟨.inr rfl, _, _, rfl, rfl⟩
 refine Wp.skip ?_
 refine Wp.seq ?_
 refine Wp.seq ?_
 refine Wp.region ?_
 refine LWp.o 5 (I 0) ?_
 refine LWp.nil ?_
 refine Wp.l2 h [0, 1, 5] [] (fun s => (s_SameModel_H1 xA xB s)) [] [] (fun _ => s_SameModel_H2) ⟨rfl, rfl⟩ ?_ ?_
 · rintro yI1 o (h : s_SameModel_b1 xA xB yI1 = some o) hk1
   unfold s_SameModel_b1 at h
   change Wp _ _ _ (s_SameModel_H1 xA xB yI1) _
   refine Wp.seq ?_
   refine Wp.seq ?_
   refine Wp.region ?_
   refine LWp.o 11 (I yI1) ?_
   refine LWp.o 12 (.one (.sl false 58 2 (encs (c58 false) xA))) ?_
   refine LWp.o 13 (I (ln xA)) ?_ (st_pure (p_ln (k58 false) xA))
   refine LWp.o 14 (B (decide (yI1 < (ln xA)))) ?_
   refine LWp.nil ?_
   refine Wp.c h (fun h => ?_) (fun h => ?_)
   · refine Wp.skip ?_
     refine Wp.seq ?_
     refine Wp.block ?_
     refine Wp.seq ?_
     refine Wp.regionT 22 mixed (by decide +kernel) ?_
     refine SWp.o 17 (.one (.sl false 58 2 (encs (c58 false) xA))) ?_
     refine SWp.o 18 (I yI1) ?_
     refine SWp.p h 19 (fun _ => (.one (.ptr (.slot 17) 1 [0] (Int.toNat yI1 * 2 + 0)))) ?_ (fun x1 gx1 => sl_pure (p_ix (k58 false) (.slot 17) [] 0 gx1))
     intro x1 gx1 h
     refine SWp.o 20 (.one (.ptr (.slot 17) 1 [0] (Int.toNat yI1 * 2 + 0))) ?_ (sl_pure (p_fa (k58 false) (.slot 17) [0] 0 gx1))
     refine SWp.o 21 (I x1.Vol) ?_ (sl_pure (p_lc (k58 false) (.slot 17) [0] 0 (.int .i64 x1.Vol) gx1))
     refine SWp.o 22 (.one (.sl false 58 2 (encs (c58 false) xB))) ?_
     refine SWp.o 23 (I yI1) ?_
     refine SWp.p h 24 (fun _ => (.one (.ptr (.slot 22) 1 [0] (Int.toNat yI1 * 2 + 0)))) ?_ (fun x2 gx2 => sl_pure (p_ix (k58 false) (.slot 22) [] 0 gx2))
     intro x2 gx2 h
     refine SWp.o 25 (.one (.ptr (.slot 22) 1 [0] (Int.toNat yI1 * 2 + 0))) ?_ (sl_pure (p_fa (k58 false) (.slot 22) [0] 0 gx2))
     refine SWp.o 26 (I x2.Vol) ?_ (sl_pure (p_lc (k58 false) (.slot 22) [0] 0 (.int .i64 x2.Vol) gx2))
     refine SWp.o 27 (B (x1.Vol != x2.Vol)) ?_
     refine SWp.o 28 (B (x1.Vol != x2.Vol)) ?_
     refine SWp.sp h 28 (fun h => ?_) (fun h => ?_)
     · refine SWp.sh 29 ?_
       refine SWp.sh 30 ?_
       refine SWp.sh 31 ?_
       refine SWp.sh 32 ?_
       refine SWp.sh 33 ?_
       refine SWp.sh 34 ?_
       refine SWp.sh 35 ?_
       refine SWp.sh 36 ?_
       refine SWp.sh 37 ?_
       refine SWp.sh 38 ?_
       refine SWp.nil ?_
       refine LWp.sh 39 ?_
       refine LWp.sh 40 ?_
       refine LWp.o 41 (B true) ?_
       refine LWp.nil ?_
       refine Wp.ct ?_
       refine Wp.seq ?_
       refine Wp.region ?_
       refine LWp.o 4 (B false) ?_
       refine LWp.nil ?_
       cases h
       replace h : some _ = some _ := hk1 _ rfl
       cases h
       exact Wp.ret ⟨.inr rfl, _, _, rfl, rfl⟩
     refine SWp.o 29 (.one (.sl false 58 2 (encs (c58 false) xA))) ?_
     refine SWp.o 30 (I yI1) ?_
     refine SWp.p h 31 (fun _ => (.one (.ptr (.slot 29) 1 [0] (Int.toNat yI1 * 2 + 0)))) ?_ (fun x3 gx3 => sl_pure (p_ix (k58 false) (.slot 29) [] 0 gx3))
     intro x3 gx3 h
     refine SWp.o 32 (.one (.ptr (.slot 29) 1 [0] (Int.toNat yI1 * 2 + 1))) ?_ (sl_pure (p_fa (k58 false) (.slot 29) [0] 0 gx3))
     refine SWp.o 33 (.one (.sl false 9 1 (encs c9 x3.Texts))) ?_ (sl_pure (p_lc (k58 false) (.slot 29) [0] 1 (.sl false 9 1 (encs c9 x3.Texts)) gx3))
     refine SWp.o 34 (.one (.sl false 58 2 (encs (c58 false) xB))) ?_
     refine SWp.o 35 (I yI1) ?_
     refine SWp.p h 36 (fun _ => (.one (.ptr (.slot 34) 1 [0] (Int.toNat yI1 * 2 + 0)))) ?_ (fun x4 gx4 => sl_pure (p_ix (k58 false) (.slot 34) [] 0 gx4))
     intro x4 gx4 h
     refine SWp.o 37 (.one (.ptr (.slot 34) 1 [0] (Int.toNat yI1 * 2 + 1))) ?_ (sl_pure (p_fa (k58 false) (.slot 34) [0] 0 gx4))
     refine SWp.o 38 (.one (.sl false 9 1 (encs c9 x4.Texts))) ?_ (sl_pure (p_lc (k58 false) (.slot 34) [0] 1 (.sl false 9 1 (encs c9 x4.Texts)) gx4))
     refine SWp.nil ?_
     refine LWp.cl h 39 (fun v1 => (B v1)) rfl (l := [.sv (.one (.sl false 9 1 (encs c9 x3.Texts))), .sv (.one (.sl false 9 1 (encs c9 x4.Texts)))]) rfl (fun v hv => s_l20SameTexts_t x3.Texts x4.Texts v hv) (.inl rfl) ?_
     intro v1 gv1 h
     refine LWp.o 40 (B (!v1)) ?_
     refine LWp.o 41 (B (!v1)) ?_
     refine LWp.nil ?_
     refine Wp.c h (fun h => ?_) (fun h => ?_)
     · refine Wp.seq ?_
       refine Wp.region ?_
       refine LWp.o 4 (B false) ?_
       refine LWp.nil ?_
       cases h
       replace h : some _ = some _ := hk1 _ rfl
       cases h
       exact Wp.ret ⟨.inr rfl, _, _, rfl, rfl⟩
     refine Wp.skip ?_
     refine Wp.region ?_
     refine LWp.o 15 (I yI1) ?_
     refine LWp.o 16 (I (ad yI1 1)) ?_
     refine LWp.o 5 (I (ad yI1 1)) ?_
     refine LWp.nil ?_
     cases h
     exact ⟨_, rfl, rfl, rfl⟩
   refine Wp.exit ?_
   cases h
   exact ⟨_, rfl, rfl, rfl⟩
 intro v2 h E hE
 refine nt_wp hE ?_
 change Wp _ _ _ s_SameModel_H2 _
 refine Wp.seq ?_
 refine Wp.region ?_
 refine LWp.o 4 (B true) ?_
 refine LWp.nil ?_
 cases h
 exact Wp.ret ⟨.inr rfl, _, _, rfl, rfl⟩
set_option maxRecDepth 100000 in
theorem s_WholeOrNot_t (xBefore : List Shelf) (xAfter : List Shelf) (xNow : List Shelf) (r : Bool) (h : s_WholeOrNot xBefore xAfter xNow = some r) : Gives Try.prog 17 [.sv (.one (.sl false 58 2 (encs (c58 false) xBefore))), .sv (.one (.sl false 58 2 (encs (c58 false) xAfter))), .sv (.one (.sl false 58 2 (encs (c58 false) xNow)))] (B r) (List.replicate 3 .gone) := by
 unfold s_WholeOrNot at h
 refine gives_of Try.func17 rfl ?_
 rw [Try.ntmps17]
 refine Wp.seq ?_
 refine Wp.region ?_
 refine LWp.o 6 (B false) ?_
 refine LWp.nil ?_
 refine Wp.seq ?_
 refine Wp.region ?_
 refine LWp.o 7 (.one (.sl false 58 2 (encs (c58 false) xNow))) ?_
 refine LWp.o 8 (.one (.sl false 58 2 (encs (c58 false) xBefore))) ?_
 refine LWp.cl h 9 (fun v1 => (B v1)) rfl (l := [.sv (.one (.sl false 58 2 (encs (c58 false) xNow))), .sv (.one (.sl false 58 2 (encs (c58 false) xBefore)))]) rfl (fun v hv => s_SameModel_t xNow xBefore v hv) (.inl rfl) ?_
 intro v1 gv1 h
 refine LWp.o 10 (B v1) ?_
 refine LWp.sp h 10 (fun h => ?_) (fun h => ?_)
 · refine LWp.sh 11 ?_
   refine LWp.sh 12 ?_
   refine LWp.sh 13 ?_
   refine LWp.o 14 (B true) ?_
   refine LWp.o 6 (B true) ?_
   refine LWp.nil ?_
   cases h
   exact Wp.ret ⟨.inr rfl, _, _, rfl, rfl⟩
 refine LWp.o 11 (.one (.sl false 58 2 (encs (c58 false) xNow))) ?_
 refine LWp.o 12 (.one (.sl false 58 2 (encs (c58 false) xAfter))) ?_
 refine LWp.cl h 13 (fun v2 => (B v2)) rfl (l := [.sv (.one (.sl false 58 2 (encs (c58 false) xNow))), .sv (.one (.sl false 58 2 (encs (c58 false) xAfter)))]) rfl (fun v hv => s_SameModel_t xNow xAfter v hv) (.inl rfl) ?_
 intro v2 gv2 h
 refine LWp.o 14 (B v2) ?_
 refine LWp.o 6 (B v2) ?_
 refine LWp.nil ?_
 cases h
 exact Wp.ret ⟨.inr rfl, _, _, rfl, rfl⟩
def i_SameModel_H1 (xA : List Shelf) (xB : List Shelf) (z1 : Int) : St := mkSt [(0, (.one (.sl false 58 2 (encs (c58 false) xA)))), (1, (.one (.sl false 58 2 (encs (c58 false) xB)))), (13, (I (ln xA))), (14, (I z1))] []
def i_SameModel_H2  : St := mkSt [] []
def i_SameModel_H3 (xA : List Shelf) (xB : List Shelf) (y1 : Int) (z2 : Bool) : St := mkSt [(0, (.one (.sl false 58 2 (encs (c58 false) xA)))), (1, (.one (.sl false 58 2 (encs (c58 false) xB)))), (5, (I y1)), (13, (I (ln xA))), (14, (I y1)), (42, (B z2))] []
def i_SameModel_H4 (xA : List Shelf) (xB : List Shelf) (y1 : Int) (x5 : Shelf) (z3 : Int) : St := mkSt [(0, (.one (.sl false 58 2 (encs (c58 false) xA)))), (1, (.one (.sl false 58 2 (encs (c58 false) xB)))), (5, (I y1)), (13, (I (ln xA))), (14, (I y1)), (48, (I (ln x5.Texts))), (49, (I z3))] []
def i_SameModel_H5 (xA : List Shelf) (xB : List Shelf) (y1 : Int) : St := mkSt [(0, (.one (.sl false 58 2 (encs (c58 false) xA)))), (1, (.one (.sl false 58 2 (encs (c58 false) xB)))), (13, (I (ln xA))), (14, (I y1))] []
set_option maxRecDepth 100000 in
theorem i_SameModel_t (xA : List Shelf) (xB : List Shelf) (r : Bool) (h : i_SameModel xA xB = some r) : Gives Try.prog 15 [.sv (.one (.sl false 58 2 (encs (c58 false) xA))), .sv (.one (.sl false 58 2 (encs (c58 false) xB)))] (B r) (List.replicate 2 .gone) := by
 unfold i_SameModel at h
 refine gives_of Try.func15 rfl ?_
 rw [Try.ntmps15]
 refine Wp.seq ?_
 refine Wp.region ?_
 refine LWp.o 4 (B false) ?_
 refine LWp.nil ?_
 refine Wp.seq ?_
 refine Wp.seq ?_
 refine Wp.region ?_
 refine LWp.o 7 (.one (.sl false 58 2 (encs (c58 false) xA))) ?_
 refine LWp.o 8 (I (ln xA)) ?_ (st_pure (p_ln (k58 false) xA))
 refine LWp.o 9 (.one (.sl false 58 2 (encs (c58 false) xB))) ?_
 refine LWp.o 10 (I (ln xB)) ?_ (st_pure (p_ln (k58 false) xB))
 refine LWp.o 11 (B ((ln xA) != (ln xB))) ?_
 refine LWp.nil ?_
 refine Wp.c h (fun h => ?_) (fun h => ?_)
 · refine Wp.seq ?_
   refine Wp.region ?_
   refine LWp.o 4 (B false) ?_
   refine LWp.nil ?_
   cases h
   exact Wp.ret ⟨.inr rfl, _, _, rfl, rfl⟩
 refine Wp.skip ?_
 refine Wp.seq ?_
 refine Wp.seq ?_
 refine Wp.region ?_
 refine LWp.o 12 (.one (.sl false 58 2 (encs (c58 false) xA))) ?_
 refine LWp.o 13 (I (ln xA)) ?_ (st_pure (p_ln (k58 false) xA))
 refine LWp.o 14 (I 0) ?_
 refine LWp.nil ?_
 refine Wp.l2 h [0, 1, 13, 14] [] (fun s => (i_SameModel_H1 xA xB s)) [] [] (fun _ => i_SameModel_H2) ⟨rfl, rfl⟩ ?_ ?_
 · rintro y1 o (h : i_SameModel_b1 xA xB y1 = some o) hk1
   unfold i_SameModel_b1 at h
   change Wp _ _ _ (i_SameModel_H1 xA xB y1) _
   refine Wp.seq ?_
   refine Wp.region ?_
   refine LWp.o 15 (B (decide (y1 < (ln xA)))) ?_
   refine LWp.nil ?_
   refine Wp.seq ?_
   refine Wp.c h (fun h => ?_) (fun h => ?_)
   · refine Wp.skip ?_
     refine Wp.seq ?_
     refine Wp.block ?_
     refine Wp.seq ?_
     refine Wp.region ?_
     refine LWp.o 16 (I y1) ?_
     refine LWp.o 5 (I y1) ?_
     refine LWp.nil ?_
     refine Wp.seq ?_
     refine Wp.seq ?_
     refine Wp.j1 h [0, 1, 5, 13, 14, 42] [] (fun a => (i_SameModel_H3 xA xB y1 a)) ?_ ?_
     · intro a h
       refine Wp.regionS mixed (by decide +kernel) ?_
       refine SWp.o 17 (.one (.sl false 58 2 (encs (c58 false) xA))) ?_
       refine SWp.o 18 (I y1) ?_
       refine SWp.p h 19 (fun _ => (.one (.ptr (.slot 17) 1 [0] (Int.toNat y1 * 2 + 0)))) ?_ (fun x1 gx1 => sl_pure (p_ix (k58 false) (.slot 17) [] 0 gx1))
       intro x1 gx1 h
       refine SWp.o 20 (.one (.ptr (.slot 17) 1 [0] (Int.toNat y1 * 2 + 0))) ?_ (sl_pure (p_fa (k58 false) (.slot 17) [0] 0 gx1))
       refine SWp.o 21 (I x1.Vol) ?_ (sl_pure (p_lc (k58 false) (.slot 17) [0] 0 (.int .i64 x1.Vol) gx1))
       refine SWp.o 22 (.one (.sl false 58 2 (encs (c58 false) xB))) ?_
       refine SWp.o 23 (I y1) ?_
       refine SWp.p h 24 (fun _ => (.one (.ptr (.slot 22) 1 [0] (Int.toNat y1 * 2 + 0)))) ?_ (fun x2 gx2 => sl_pure (p_ix (k58 false) (.slot 22) [] 0 gx2))
       intro x2 gx2 h
       refine SWp.o 25 (.one (.ptr (.slot 22) 1 [0] (Int.toNat y1 * 2 + 0))) ?_ (sl_pure (p_fa (k58 false) (.slot 22) [0] 0 gx2))
       refine SWp.o 26 (I x2.Vol) ?_ (sl_pure (p_lc (k58 false) (.slot 22) [0] 0 (.int .i64 x2.Vol) gx2))
       refine SWp.o 27 (B (x1.Vol != x2.Vol)) ?_
       refine SWp.o 28 (B (x1.Vol != x2.Vol)) ?_
       refine SWp.sp h 28 (fun h => ?_) (fun h => ?_)
       · refine SWp.sh 29 ?_
         refine SWp.sh 30 ?_
         refine SWp.sh 31 ?_
         refine SWp.sh 32 ?_
         refine SWp.sh 33 ?_
         refine SWp.sh 34 ?_
         refine SWp.sh 35 ?_
         refine SWp.sh 36 ?_
         refine SWp.sh 37 ?_
         refine SWp.sh 38 ?_
         refine SWp.sh 39 ?_
         refine SWp.sh 40 ?_
         refine SWp.sh 41 ?_
         refine SWp.o 42 (B true) ?_
         refine SWp.nil ?_
         cases h
         exact ⟨_, rfl, rfl, rfl⟩
       refine SWp.o 29 (.one (.sl false 58 2 (encs (c58 false) xA))) ?_
       refine SWp.o 30 (I y1) ?_
       refine SWp.p h 31 (fun _ => (.one (.ptr (.slot 29) 1 [0] (Int.toNat y1 * 2 + 0)))) ?_ (fun x3 gx3 => sl_pure (p_ix (k58 false) (.slot 29) [] 0 gx3))
       intro x3 gx3 h
       refine SWp.o 32 (.one (.ptr (.slot 29) 1 [0] (Int.toNat y1 * 2 + 1))) ?_ (sl_pure (p_fa (k58 false) (.slot 29) [0] 0 gx3))
       refine SWp.o 33 (.one (.sl false 9 1 (encs c9 x3.Texts))) ?_ (sl_pure (p_lc (k58 false) (.slot 29) [0] 1 (.sl false 9 1 (encs c9 x3.Texts)) gx3))
       refine SWp.o 34 (I (ln x3.Texts)) ?_ (sl_pure (p_ln k9 x3.Texts))
       refine SWp.o 35 (.one (.sl false 58 2 (encs (c58 false) xB))) ?_
       refine SWp.o 36 (I y1) ?_
       refine SWp.p h 37 (fun _ => (.one (.ptr (.slot 35) 1 [0] (Int.toNat y1 * 2 + 0)))) ?_ (fun x4 gx4 => sl_pure (p_ix (k58 false) (.slot 35) [] 0 gx4))
       intro x4 gx4 h
       refine SWp.o 38 (.one (.ptr (.slot 35) 1 [0] (Int.toNat y1 * 2 + 1))) ?_ (sl_pure (p_fa (k58 false) (.slot 35) [0] 0 gx4))
       refine SWp.o 39 (.one (.sl false 9 1 (encs c9 x4.Texts))) ?_ (sl_pure (p_lc (k58 false) (.slot 35) [0] 1 (.sl false 9 1 (encs c9 x4.Texts)) gx4))
       refine SWp.o 40 (I (ln x4.Texts)) ?_ (sl_pure (p_ln k9 x4.Texts))
       refine SWp.o 41 (B ((ln x3.Texts) != (ln x4.Texts))) ?_
       refine SWp.o 42 (B ((ln x3.Texts) != (ln x4.Texts))) ?_
       refine SWp.nil ?_
       cases h
       exact ⟨_, rfl, rfl, rfl⟩
     intro j1 h E hE
     refine nt_wp hE ?_
     change Wp _ _ _ (i_SameModel_H3 xA xB y1 j1) _
     refine Wp.c h (fun h => ?_) (fun h => ?_)
     · refine Wp.seq ?_
       refine Wp.region ?_
       refine LWp.o 4 (B false) ?_
       refine LWp.nil ?_
       cases h
       replace h : some _ = some _ := hk1 _ rfl
       cases h
       exact Wp.ret ⟨.inr rfl, _, _, rfl, rfl⟩
     refine Wp.skip ?_
     refine Wp.seq ?_
     refine Wp.region ?_
     refine LWp.o 43 (.one (.sl false 58 2 (encs (c58 false) xA))) ?_
     refine LWp.o 44 (I y1) ?_
     refine LWp.p h 45 (fun _ => (.one (.ptr (.slot 43) 1 [0] (Int.toNat y1 * 2 + 0)))) ?_ (fun x5 gx5 => st_pure (p_ix (k58 false) (.slot 43) [] 0 gx5))
     intro x5 gx5 h
     refine LWp.o 46 (.one (.ptr (.slot 43) 1 [0] (Int.toNat y1 * 2 + 1))) ?_ (st_pure (p_fa (k58 false) (.slot 43) [0] 0 gx5))
     refine LWp.o 47 (.one (.sl false 9 1 (encs c9 x5.Texts))) ?_ (st_pure (p_lc (k58 false) (.slot 43) [0] 1 (.sl false 9 1 (encs c9 x5.Texts)) gx5))
     refine LWp.o 48 (I (ln x5.Texts)) ?_ (st_pure (p_ln k9 x5.Texts))
     refine LWp.o 49 (I 0) ?_
     refine LWp.nil ?_
     refine Wp.l2 h [0, 1, 5, 13, 14, 48, 49] [] (fun s => (i_SameModel_H4 xA xB y1 x5 s)) [0, 1, 13, 14] [] (fun _ => (i_SameModel_H5 xA xB y1)) ⟨rfl, rfl⟩ ?_ ?_
     · rintro y2 o (h : i_SameModel_b2 xA xB y1 x5 y2 = some o) hk2
       unfold i_SameModel_b2 at h
       change Wp _ _ _ (i_SameModel_H4 xA xB y1 x5 y2) _
       refine Wp.seq ?_
       refine Wp.region ?_
       refine LWp.o 50 (B (decide (y2 < (ln x5.Texts)))) ?_
       refine LWp.nil ?_
       refine Wp.seq ?_
       refine Wp.c h (fun h => ?_) (fun h => ?_)
       · refine Wp.skip ?_
         refine Wp.seq ?_
         refine Wp.block ?_
         refine Wp.seq ?_
         refine Wp.region ?_
         refine LWp.o 51 (I y2) ?_
         refine LWp.o 6 (I y2) ?_
         refine LWp.nil ?_
         refine Wp.seq ?_
         refine Wp.regionS mixed (by decide +kernel) ?_
         refine SWp.o 52 (.one (.sl false 58 2 (encs (c58 false) xA))) ?_
         refine SWp.o 53 (I y1) ?_
         refine SWp.p h 54 (fun _ => (.one (.ptr (.slot 52) 1 [0] (Int.toNat y1 * 2 + 0)))) ?_ (fun x6 gx6 => sl_pure (p_ix (k58 false) (.slot 52) [] 0 gx6))
         intro x6 gx6 h
         refine SWp.o 55 (.one (.ptr (.slot 52) 1 [0] (Int.toNat y1 * 2 + 1))) ?_ (sl_pure (p_fa (k58 false) (.slot 52) [0] 0 gx6))
         refine SWp.o 56 (.one (.sl false 9 1 (encs c9 x6.Texts))) ?_ (sl_pure (p_lc (k58 false) (.slot 52) [0] 1 (.sl false 9 1 (encs c9 x6.Texts)) gx6))
         refine SWp.o 57 (I y2) ?_
         refine SWp.p h 58 (fun _ => (.one (.ptr (.slot 56) 1 [0] (Int.toNat y2 * 1 + 0)))) ?_ (fun x7 gx7 => sl_pure (p_ix k9 (.slot 56) [] 0 gx7))
         intro x7 gx7 h
         refine SWp.o 59 (Y x7) ?_ (sl_pure (p_lc k9 (.slot 56) [0] 0 (.str x7) gx7))
         refine SWp.o 60 (.one (.sl false 58 2 (encs (c58 false) xB))) ?_
         refine SWp.o 61 (I y1) ?_
         refine SWp.p h 62 (fun _ => (.one (.ptr (.slot 60) 1 [0] (Int.toNat y1 * 2 + 0)))) ?_ (fun x8 gx8 => sl_pure (p_ix (k58 false) (.slot 60) [] 0 gx8))
         intro x8 gx8 h
         refine SWp.o 63 (.one (.ptr (.slot 60) 1 [0] (Int.toNat y1 * 2 + 1))) ?_ (sl_pure (p_fa (k58 false) (.slot 60) [0] 0 gx8))
         refine SWp.o 64 (.one (.sl false 9 1 (encs c9 x8.Texts))) ?_ (sl_pure (p_lc (k58 false) (.slot 60) [0] 1 (.sl false 9 1 (encs c9 x8.Texts)) gx8))
         refine SWp.o 65 (I y2) ?_
         refine SWp.p h 66 (fun _ => (.one (.ptr (.slot 64) 1 [0] (Int.toNat y2 * 1 + 0)))) ?_ (fun x9 gx9 => sl_pure (p_ix k9 (.slot 64) [] 0 gx9))
         intro x9 gx9 h
         refine SWp.o 67 (Y x9) ?_ (sl_pure (p_lc k9 (.slot 64) [0] 0 (.str x9) gx9))
         refine SWp.o 68 (B (!(seq x7 x9))) ?_
         refine SWp.nil ?_
         refine Wp.c h (fun h => ?_) (fun h => ?_)
         · refine Wp.seq ?_
           refine Wp.region ?_
           refine LWp.o 4 (B false) ?_
           refine LWp.nil ?_
           cases h
           replace h : some _ = some _ := hk2 _ rfl
           cases h
           replace h : some _ = some _ := hk1 _ rfl
           cases h
           exact Wp.ret ⟨.inr rfl, _, _, rfl, rfl⟩
         refine Wp.skip ?_
         refine Wp.region ?_
         refine LWp.o 69 (I (ad y2 1)) ?_
         refine LWp.o 49 (I (ad y2 1)) ?_
         refine LWp.nil ?_
         cases h
         exact ⟨_, rfl, rfl, rfl⟩
       refine Wp.exit ?_
       cases h
       exact ⟨_, rfl, rfl, rfl⟩
     intro v1 h E hE
     refine nt_wp hE ?_
     change Wp _ _ _ (i_SameModel_H5 xA xB y1) _
     refine Wp.region ?_
     refine LWp.o 70 (I (ad y1 1)) ?_
     refine LWp.o 14 (I (ad y1 1)) ?_
     refine LWp.nil ?_
     cases h
     exact ⟨_, rfl, rfl, rfl⟩
   refine Wp.exit ?_
   cases h
   exact ⟨_, rfl, rfl, rfl⟩
 intro v2 h E hE
 refine nt_wp hE ?_
 change Wp _ _ _ i_SameModel_H2 _
 refine Wp.seq ?_
 refine Wp.region ?_
 refine LWp.o 4 (B true) ?_
 refine LWp.nil ?_
 cases h
 exact Wp.ret ⟨.inr rfl, _, _, rfl, rfl⟩
set_option maxRecDepth 100000 in
theorem i_WholeOrNot_t (xBefore : List Shelf) (xAfter : List Shelf) (xNow : List Shelf) (r : Bool) (h : i_WholeOrNot xBefore xAfter xNow = some r) : Gives Try.prog 18 [.sv (.one (.sl false 58 2 (encs (c58 false) xBefore))), .sv (.one (.sl false 58 2 (encs (c58 false) xAfter))), .sv (.one (.sl false 58 2 (encs (c58 false) xNow)))] (B r) (List.replicate 3 .gone) := by
 unfold i_WholeOrNot at h
 refine gives_of Try.func18 rfl ?_
 rw [Try.ntmps18]
 refine Wp.seq ?_
 refine Wp.region ?_
 refine LWp.o 6 (B false) ?_
 refine LWp.nil ?_
 refine Wp.seq ?_
 refine Wp.region ?_
 refine LWp.o 7 (.one (.sl false 58 2 (encs (c58 false) xNow))) ?_
 refine LWp.o 8 (.one (.sl false 58 2 (encs (c58 false) xBefore))) ?_
 refine LWp.cl h 9 (fun v1 => (B v1)) rfl (l := [.sv (.one (.sl false 58 2 (encs (c58 false) xNow))), .sv (.one (.sl false 58 2 (encs (c58 false) xBefore)))]) rfl (fun v hv => i_SameModel_t xNow xBefore v hv) (.inl rfl) ?_
 intro v1 gv1 h
 refine LWp.o 10 (B v1) ?_
 refine LWp.sp h 10 (fun h => ?_) (fun h => ?_)
 · refine LWp.sh 11 ?_
   refine LWp.sh 12 ?_
   refine LWp.sh 13 ?_
   refine LWp.o 14 (B true) ?_
   refine LWp.o 6 (B true) ?_
   refine LWp.nil ?_
   cases h
   exact Wp.ret ⟨.inr rfl, _, _, rfl, rfl⟩
 refine LWp.o 11 (.one (.sl false 58 2 (encs (c58 false) xNow))) ?_
 refine LWp.o 12 (.one (.sl false 58 2 (encs (c58 false) xAfter))) ?_
 refine LWp.cl h 13 (fun v2 => (B v2)) rfl (l := [.sv (.one (.sl false 58 2 (encs (c58 false) xNow))), .sv (.one (.sl false 58 2 (encs (c58 false) xAfter)))]) rfl (fun v hv => i_SameModel_t xNow xAfter v hv) (.inl rfl) ?_
 intro v2 gv2 h
 refine LWp.o 14 (B v2) ?_
 refine LWp.o 6 (B v2) ?_
 refine LWp.nil ?_
 cases h
 exact Wp.ret ⟨.inr rfl, _, _, rfl, rfl⟩
def w_eqStringS_H1 (xA : List ByteArray) (xB : List ByteArray) (z1 : Int) : St := mkSt [(0, (.one (.sl false 9 1 (encs c9 xA)))), (1, (.one (.sl false 9 1 (encs c9 xB)))), (5, (I z1))] []
def w_eqStringS_H2  : St := mkSt [] []
set_option maxRecDepth 100000 in
theorem w_eqStringS_t (xA : List ByteArray) (xB : List ByteArray) (r : Bool) (h : w_eqStringS xA xB = some r) : Gives Try.prog 55 [.sv (.one (.sl false 9 1 (encs c9 xA))), .sv (.one (.sl false 9 1 (encs c9 xB)))] (B r) (List.replicate 2 .gone) := by
 unfold w_eqStringS at h
 refine gives_of Try.func55 rfl ?_
 rw [Try.ntmps55]
 refine Wp.seq ?_
 refine Wp.region ?_
 refine LWp.o 4 (B false) ?_
 refine LWp.nil ?_
 refine Wp.seq ?_
 refine Wp.seq ?_
 refine Wp.region ?_
 refine LWp.o 6 (.one (.sl false 9 1 (encs c9 xA))) ?_
 refine LWp.o 7 (I (ln xA)) ?_ (st_pure (p_ln k9 xA))
 refine LWp.o 8 (.one (.sl false 9 1 (encs c9 xB))) ?_
 refine LWp.o 9 (I (ln xB)) ?_ (st_pure (p_ln k9 xB))
 refine LWp.o 10 (B ((ln xA) != (ln xB))) ?_
 refine LWp.nil ?_
 refine Wp.c h (fun h => ?_) (fun h => ?_)
 · refine Wp.seq ?_
   refine Wp.region ?_
   refine LWp.o 4 (B false) ?_
   refine LWp.nil ?_
   cases h
   exact Wp.ret ⟨.inr rfl, _, _, rfl, rfl⟩
 refine Wp.skip ?_
 refine Wp.seq ?_
 refine Wp.seq ?_
 refine Wp.region ?_
 refine LWp.o 5 (I 0) ?_
 refine LWp.nil ?_
 refine Wp.l2 h [0, 1, 5] [] (fun s => (w_eqStringS_H1 xA xB s)) [] [] (fun _ => w_eqStringS_H2) ⟨rfl, rfl⟩ ?_ ?_
 · rintro yI1 o (h : w_eqStringS_b1 xA xB yI1 = some o) hk1
   unfold w_eqStringS_b1 at h
   change Wp _ _ _ (w_eqStringS_H1 xA xB yI1) _
   refine Wp.seq ?_
   refine Wp.seq ?_
   refine Wp.region ?_
   refine LWp.o 11 (I yI1) ?_
   refine LWp.o 12 (.one (.sl false 9 1 (encs c9 xA))) ?_
   refine LWp.o 13 (I (ln xA)) ?_ (st_pure (p_ln k9 xA))
   refine LWp.o 14 (B (decide (yI1 < (ln xA)))) ?_
   refine LWp.nil ?_
   refine Wp.c h (fun h => ?_) (fun h => ?_)
   · refine Wp.skip ?_
     refine Wp.seq ?_
     refine Wp.block ?_
     refine Wp.seq ?_
     refine Wp.regionS mixed (by decide +kernel) ?_
     refine SWp.o 17 (.one (.sl false 9 1 (encs c9 xA))) ?_
     refine SWp.o 18 (I yI1) ?_
     refine SWp.p h 19 (fun _ => (.one (.ptr (.slot 17) 1 [0] (Int.toNat yI1 * 1 + 0)))) ?_ (fun x1 gx1 => sl_pure (p_ix k9 (.slot 17) [] 0 gx1))
     intro x1 gx1 h
     refine SWp.o 20 (Y x1) ?_ (sl_pure (p_lc k9 (.slot 17) [0] 0 (.str x1) gx1))
     refine SWp.o 21 (.one (.sl false 9 1 (encs c9 xB))) ?_
     refine SWp.o 22 (I yI1) ?_
     refine SWp.p h 23 (fun _ => (.one (.ptr (.slot 21) 1 [0] (Int.toNat yI1 * 1 + 0)))) ?_ (fun x2 gx2 => sl_pure (p_ix k9 (.slot 21) [] 0 gx2))
     intro x2 gx2 h
     refine SWp.o 24 (Y x2) ?_ (sl_pure (p_lc k9 (.slot 21) [0] 0 (.str x2) gx2))
     refine SWp.o 25 (B (!(seq x1 x2))) ?_
     refine SWp.nil ?_
     refine Wp.c h (fun h => ?_) (fun h => ?_)
     · refine Wp.seq ?_
       refine Wp.region ?_
       refine LWp.o 4 (B false) ?_
       refine LWp.nil ?_
       cases h
       replace h : some _ = some _ := hk1 _ rfl
       cases h
       exact Wp.ret ⟨.inr rfl, _, _, rfl, rfl⟩
     refine Wp.skip ?_
     refine Wp.region ?_
     refine LWp.o 15 (I yI1) ?_
     refine LWp.o 16 (I (ad yI1 1)) ?_
     refine LWp.o 5 (I (ad yI1 1)) ?_
     refine LWp.nil ?_
     cases h
     exact ⟨_, rfl, rfl, rfl⟩
   refine Wp.exit ?_
   cases h
   exact ⟨_, rfl, rfl, rfl⟩
 intro v1 h E hE
 refine nt_wp hE ?_
 change Wp _ _ _ w_eqStringS_H2 _
 refine Wp.seq ?_
 refine Wp.region ?_
 refine LWp.o 4 (B true) ?_
 refine LWp.nil ?_
 cases h
 exact Wp.ret ⟨.inr rfl, _, _, rfl, rfl⟩
set_option maxRecDepth 100000 in
theorem w_eqShelf_t (xA : Shelf) (xB : Shelf) (r : Bool) (h : w_eqShelf xA xB = some r) : Gives Try.prog 35 [.sv (.agg [.int .i64 xA.Vol, .sl false 9 1 (encs c9 xA.Texts)]), .sv (.agg [.int .i64 xB.Vol, .sl false 9 1 (encs c9 xB.Texts)])] (B r) (List.replicate 2 .gone) := by
 unfold w_eqShelf at h
 refine gives_of Try.func35 rfl ?_
 rw [Try.ntmps35]
 refine Wp.seq ?_
 refine Wp.region ?_
 refine LWp.b [] 2 [.int .i64 xA.Vol, .sl false 9 1 (encs c9 xA.Texts)] ?_
 refine LWp.b [] 3 [.int .i64 xB.Vol, .sl false 9 1 (encs c9 xB.Texts)] ?_
 refine LWp.o 4 (B false) ?_
 refine LWp.nil ?_
 refine Wp.seq ?_
 refine Wp.seq ?_
 refine Wp.region ?_
 refine LWp.o 5 (.one (.ptr (.box 2) 1 [] 0)) ?_
 refine LWp.o 6 (I xA.Vol) ?_
 refine LWp.o 7 (.one (.ptr (.box 3) 1 [] 0)) ?_
 refine LWp.o 8 (I xB.Vol) ?_
 refine LWp.o 9 (B (xA.Vol != xB.Vol)) ?_
 refine LWp.nil ?_
 refine Wp.c h (fun h => ?_) (fun h => ?_)
 · refine Wp.seq ?_
   refine Wp.region ?_
   refine LWp.o 4 (B false) ?_
   refine LWp.nil ?_
   cases h
   exact Wp.ret ⟨.inr rfl, _, _, rfl, rfl⟩
 refine Wp.skip ?_
 refine Wp.seq ?_
 refine Wp.seq ?_
 refine Wp.region ?_
 refine LWp.o 10 (.one (.ptr (.box 2) 1 [] 1)) ?_
 refine LWp.o 11 (.one (.sl false 9 1 (encs c9 xA.Texts))) ?_
 refine LWp.o 12 (.one (.ptr (.box 3) 1 [] 1)) ?_
 refine LWp.o 13 (.one (.sl false 9 1 (encs c9 xB.Texts))) ?_
 refine LWp.cl h 14 (fun v1 => (B v1)) rfl (l := [.sv (.one (.sl false 9 1 (encs c9 xA.Texts))), .sv (.one (.sl false 9 1 (encs c9 xB.Texts)))]) rfl (fun v hv => w_eqStringS_t xA.Texts xB.Texts v hv) (.inl rfl) ?_
 intro v1 gv1 h
 refine LWp.o 15 (B (!v1)) ?_
 refine LWp.nil ?_
 refine Wp.c h (fun h => ?_) (fun h => ?_)
 · refine Wp.seq ?_
   refine Wp.region ?_
   refine LWp.o 4 (B false) ?_
   refine LWp.nil ?_
   cases h
   exact Wp.ret ⟨.inr rfl, _, _, rfl, rfl⟩
 refine Wp.skip ?_
 refine Wp.seq ?_
 refine Wp.region ?_
 refine LWp.o 4 (B true) ?_
 refine LWp.nil ?_
 cases h
 exact Wp.ret ⟨.inr rfl, _, _, rfl, rfl⟩
def w_eqShelfS_H1 (xA : List Shelf) (xB : List Shelf) (z1 : Int) : St := mkSt [(0, (.one (.sl false 58 2 (encs (c58 false) xA)))), (1, (.one (.sl false 58 2 (encs (c58 false) xB)))), (5, (I z1))] []
def w_eqShelfS_H2  : St := mkSt [] []
set_option maxRecDepth 100000 in
theorem w_eqShelfS_t (xA : List Shelf) (xB : List Shelf) (r : Bool) (h : w_eqShelfS xA xB = some r) : Gives Try.prog 16 [.sv (.one (.sl false 58 2 (encs (c58 false) xA))), .sv (.one (.sl false 58 2 (encs (c58 false) xB)))] (B r) (List.replicate 2 .gone) := by
 unfold w_eqShelfS at h
 refine gives_of Try.func16 rfl ?_
 rw [Try.ntmps16]
 refine Wp.seq ?_
 refine Wp.region ?_
 refine LWp.o 4 (B false) ?_
 refine LWp.nil ?_
 refine Wp.seq ?_
 refine Wp.seq ?_
 refine Wp.region ?_
 refine LWp.o 6 (.one (.sl false 58 2 (encs (c58 false) xA))) ?_
 refine LWp.o 7 (I (ln xA)) ?_ (st_pure (p_ln (k58 false) xA))
 refine LWp.o 8 (.one (.sl false 58 2 (encs (c58 false) xB))) ?_
 refine LWp.o 9 (I (ln xB)) ?_ (st_pure (p_ln (k58 false) xB))
 refine LWp.o 10 (B ((ln xA) != (ln xB))) ?_
 refine LWp.nil ?_
 refine Wp.c h (fun h => ?_) (fun h => ?_)
 · refine Wp.seq ?_
   refine Wp.region ?_
   refine LWp.o 4 (B false) ?_
   refine LWp.nil ?_
   cases h
   exact Wp.ret ⟨.inr rfl, _, _, rfl, rfl⟩
 refine Wp.skip ?_
 refine Wp.seq ?_
 refine Wp.seq ?_
 refine Wp.region ?_
 refine LWp.o 5 (I 0) ?_
 refine LWp.nil ?_
 refine Wp.l2 h [0, 1, 5] [] (fun s => (w_eqShelfS_H1 xA xB s)) [] [] (fun _ => w_eqShelfS_H2) ⟨rfl, rfl⟩ ?_ ?_
 · rintro yI1 o (h : w_eqShelfS_b1 xA xB yI1 = some o) hk1
   unfold w_eqShelfS_b1 at h
   change Wp _ _ _ (w_eqShelfS_H1 xA xB yI1) _
   refine Wp.seq ?_
   refine Wp.seq ?_
   refine Wp.region ?_
   refine LWp.o 11 (I yI1) ?_
   refine LWp.o 12 (.one (.sl false 58 2 (encs (c58 false) xA))) ?_
   refine LWp.o 13 (I (ln xA)) ?_ (st_pure (p_ln (k58 false) xA))
   refine LWp.o 14 (B (decide (yI1 < (ln xA)))) ?_
   refine LWp.nil ?_
   refine Wp.c h (fun h => ?_) (fun h => ?_)
   · refine Wp.skip ?_
     refine Wp.seq ?_
     refine Wp.block ?_
     refine Wp.seq ?_
     refine Wp.regionT 8 mixed (by decide +kernel) ?_
     refine SWp.o 17 (.one (.sl false 58 2 (encs (c58 false) xA))) ?_
     refine SWp.o 18 (I yI1) ?_
     refine SWp.p h 19 (fun _ => (.one (.ptr (.slot 17) 1 [0] (Int.toNat yI1 * 2 + 0)))) ?_ (fun x1 gx1 => sl_pure (p_ix (k58 false) (.slot 17) [] 0 gx1))
     intro x1 gx1 h
     refine SWp.o 20 (.agg [.int .i64 x1.Vol, .sl false 9 1 (encs c9 x1.Texts)]) ?_ (sl_pure (p_le (k58 false) (.slot 17) [0] gx1))
     refine SWp.o 21 (.one (.sl false 58 2 (encs (c58 false) xB))) ?_
     refine SWp.o 22 (I yI1) ?_
     refine SWp.p h 23 (fun _ => (.one (.ptr (.slot 21) 1 [0] (Int.toNat yI1 * 2 + 0)))) ?_ (fun x2 gx2 => sl_pure (p_ix (k58 false) (.slot 21) [] 0 gx2))
     intro x2 gx2 h
     refine SWp.o 24 (.agg [.int .i64 x2.Vol, .sl false 9 1 (encs c9 x2.Texts)]) ?_ (sl_pure (p_le (k58 false) (.slot 21) [0] gx2))
     refine SWp.nil ?_
     refine LWp.cl h 25 (fun v1 => (B v1)) rfl (l := [.sv (.agg [.int .i64 x1.Vol, .sl false 9 1 (encs c9 x1.Texts)]), .sv (.agg [.int .i64 x2.Vol, .sl false 9 1 (encs c9 x2.Texts)])]) rfl (fun v hv => w_eqShelf_t x1 x2 v hv) (.inl rfl) ?_
     intro v1 gv1 h
     refine LWp.o 26 (B (!v1)) ?_
     refine LWp.nil ?_
     refine Wp.c h (fun h => ?_) (fun h => ?_)
     · refine Wp.seq ?_
       refine Wp.region ?_
       refine LWp.o 4 (B false) ?_
       refine LWp.nil ?_
       cases h
       replace h : some _ = some _ := hk1 _ rfl
       cases h
       exact Wp.ret ⟨.inr rfl, _, _, rfl, rfl⟩
     refine Wp.skip ?_
     refine Wp.region ?_
     refine LWp.o 15 (I yI1) ?_
     refine LWp.o 16 (I (ad yI1 1)) ?_
     refine LWp.o 5 (I (ad yI1 1)) ?_
     refine LWp.nil ?_
     cases h
     exact ⟨_, rfl, rfl, rfl⟩
   refine Wp.exit ?_
   cases h
   exact ⟨_, rfl, rfl, rfl⟩
 intro v2 h E hE
 refine nt_wp hE ?_
 change Wp _ _ _ w_eqShelfS_H2 _
 refine Wp.seq ?_
 refine Wp.region ?_
 refine LWp.o 4 (B true) ?_
 refine LWp.nil ?_
 cases h
 exact Wp.ret ⟨.inr rfl, _, _, rfl, rfl⟩
set_option maxRecDepth 100000 in
theorem w_FnExactWholeOrNot_t (xABefore : List Shelf) (xAAfter : List Shelf) (xANow : List Shelf) (r : Bool) (h : w_FnExactWholeOrNot xABefore xAAfter xANow = some r) : Gives Try.prog 5 [.sv (.one (.sl false 57 2 (encs (c57 false) xABefore))), .sv (.one (.sl false 57 2 (encs (c57 false) xAAfter))), .sv (.one (.sl false 57 2 (encs (c57 false) xANow)))] (B r) (List.replicate 3 .gone) := by
 unfold w_FnExactWholeOrNot at h
 refine gives_of Try.func5 rfl ?_
 rw [Try.ntmps5]
 refine Wp.seq ?_
 refine Wp.region ?_
 refine LWp.o 6 (B false) ?_
 refine LWp.nil ?_
 refine Wp.seq ?_
 refine Wp.region ?_
 refine LWp.o 7 (I 1048576) ?_
 refine LWp.nil ?_
 refine Wp.seq ?_
 refine Wp.region ?_
 refine LWp.o 13 (.one (.sl false 57 2 (encs (c57 false) xABefore))) ?_
 refine LWp.o 14 (I 1048576) ?_
 refine LWp.cl h 15 (fun v1 => (I v1)) rfl (l := [.sv (.one (.sl false 57 2 (encs (c57 false) xABefore))), .sv (.one (.int .i64 1048576))]) rfl (fun v hv => w_szShelfS_t xABefore 1048576 v hv) (.inl rfl) ?_
 intro v1 gv1 h
 refine LWp.o 7 (I v1) ?_
 refine LWp.nil ?_
 refine Wp.seq ?_
 refine Wp.seq ?_
 refine Wp.region ?_
 refine LWp.o 16 (I v1) ?_
 refine LWp.o 17 (B (decide (v1 < 0))) ?_
 refine LWp.nil ?_
 refine Wp.c h (fun h => ?_) (fun h => ?_)
 · refine Wp.seq ?_
   refine Wp.region ?_
   refine LWp.o 6 (B true) ?_
   refine LWp.nil ?_
   cases h
   exact Wp.ret ⟨.inr rfl, _, _, rfl, rfl⟩
 refine Wp.skip ?_
 refine Wp.seq ?_
 refine Wp.region ?_
 refine LWp.o 18 (.one (.sl false 57 2 (encs (c57 false) xAAfter))) ?_
 refine LWp.o 19 (I v1) ?_
 refine LWp.cl h 20 (fun v2 => (I v2)) rfl (l := [.sv (.one (.sl false 57 2 (encs (c57 false) xAAfter))), .sv (.one (.int .i64 v1))]) rfl (fun v hv => w_szShelfS_t xAAfter v1 v hv) (.inl rfl) ?_
 intro v2 gv2 h
 refine LWp.o 7 (I v2) ?_
 refine LWp.nil ?_
 refine Wp.seq ?_
 refine Wp.seq ?_
 refine Wp.region ?_
 refine LWp.o 21 (I v2) ?_
 refine LWp.o 22 (B (decide (v2 < 0))) ?_
 refine LWp.nil ?_
 refine Wp.c h (fun h => ?_) (fun h => ?_)
 · refine Wp.seq ?_
   refine Wp.region ?_
   refine LWp.o 6 (B true) ?_
   refine LWp.nil ?_
   cases h
   exact Wp.ret ⟨.inr rfl, _, _, rfl, rfl⟩
 refine Wp.skip ?_
 refine Wp.seq ?_
 refine Wp.region ?_
 refine LWp.o 23 (.one (.sl false 57 2 (encs (c57 false) xANow))) ?_
 refine LWp.o 24 (I v2) ?_
 refine LWp.cl h 25 (fun v3 => (I v3)) rfl (l := [.sv (.one (.sl false 57 2 (encs (c57 false) xANow))), .sv (.one (.int .i64 v2))]) rfl (fun v hv => w_szShelfS_t xANow v2 v hv) (.inl rfl) ?_
 intro v3 gv3 h
 refine LWp.o 7 (I v3) ?_
 refine LWp.nil ?_
 refine Wp.seq ?_
 refine Wp.seq ?_
 refine Wp.region ?_
 refine LWp.o 26 (I v3) ?_
 refine LWp.o 27 (B (decide (v3 < 0))) ?_
 refine LWp.nil ?_
 refine Wp.c h (fun h => ?_) (fun h => ?_)
 · refine Wp.seq ?_
   refine Wp.region ?_
   refine LWp.o 6 (B true) ?_
   refine LWp.nil ?_
   cases h
   exact Wp.ret ⟨.inr rfl, _, _, rfl, rfl⟩
 refine Wp.skip ?_
 refine Wp.seq ?_
 refine Wp.region ?_
 refine LWp.o 28 (.one (.sl false 57 2 (encs (c57 false) xABefore))) ?_
 refine LWp.cl h 29 (fun v4 => (.one (.sl true 58 2 (encs (c58 true) v4)))) rfl (l := [.sv (.one (.sl false 57 2 (encs (c57 false) xABefore)))]) rfl (fun v hv => w_toShelfS_t xABefore v hv) (.inl rfl) ?_
 intro v4 gv4 h
 refine LWp.o 30 (.one (.sl false 57 2 (encs (c57 false) xAAfter))) ?_
 refine LWp.cl h 31 (fun v5 => (.one (.sl true 58 2 (encs (c58 true) v5)))) rfl (l := [.sv (.one (.sl false 57 2 (encs (c57 false) xAAfter)))]) rfl (fun v hv => w_toShelfS_t xAAfter v hv) (.inl rfl) ?_
 intro v5 gv5 h
 refine LWp.o 32 (.one (.sl false 57 2 (encs (c57 false) xANow))) ?_
 refine LWp.cl h 33 (fun v6 => (.one (.sl true 58 2 (encs (c58 true) v6)))) rfl (l := [.sv (.one (.sl false 57 2 (encs (c57 false) xANow)))]) rfl (fun v hv => w_toShelfS_t xANow v hv) (.inl rfl) ?_
 intro v6 gv6 h
 refine LWp.cl h 34 (fun v7 => (B v7)) rfl (l := [.sv (.one (.sl false 58 2 (shares (encs (c58 true) v4)))), .sv (.one (.sl false 58 2 (shares (encs (c58 true) v5)))), .sv (.one (.sl false 58 2 (shares (encs (c58 true) v6))))]) rfl (fun v hv => cg (l := [.sv (.one (.sl false 58 2 (shares (encs (c58 true) v4)))), .sv (.one (.sl false 58 2 (shares (encs (c58 true) v5)))), .sv (.one (.sl false 58 2 (shares (encs (c58 true) v6))))]) (by simp only [sh58]) (s_WholeOrNot_t v4 v5 v6 v hv)) (.inr (fun v => rfl)) ?_
 intro v7 gv7 h
 refine LWp.o 8 (B v7) ?_
 refine LWp.nil ?_
 refine Wp.seq ?_
 refine Wp.region ?_
 refine LWp.o 35 (.one (.sl false 57 2 (encs (c57 false) xABefore))) ?_
 refine LWp.cl h 36 (fun v8 => (.one (.sl true 58 2 (encs (c58 true) v8)))) rfl (l := [.sv (.one (.sl false 57 2 (encs (c57 false) xABefore)))]) rfl (fun v hv => w_toShelfS_t xABefore v hv) (.inl rfl) ?_
 intro v8 gv8 h
 refine LWp.m true [(.slot 36, [.junk])] 9 (.one (.sl true 58 2 (encs (c58 true) v8))) ?_
 refine LWp.nil ?_
 refine Wp.seq ?_
 refine Wp.region ?_
 refine LWp.o 37 (.one (.sl false 57 2 (encs (c57 false) xAAfter))) ?_
 refine LWp.cl h 38 (fun v9 => (.one (.sl true 58 2 (encs (c58 true) v9)))) rfl (l := [.sv (.one (.sl false 57 2 (encs (c57 false) xAAfter)))]) rfl (fun v hv => w_toShelfS_t xAAfter v hv) (.inl rfl) ?_
 intro v9 gv9 h
 refine LWp.m true [(.slot 38, [.junk])] 10 (.one (.sl true 58 2 (encs (c58 true) v9))) ?_
 refine LWp.nil ?_
 refine Wp.seq ?_
 refine Wp.region ?_
 refine LWp.o 39 (.one (.sl false 57 2 (encs (c57 false) xANow))) ?_
 refine LWp.cl h 40 (fun v10 => (.one (.sl true 58 2 (encs (c58 true) v10)))) rfl (l := [.sv (.one (.sl false 57 2 (encs (c57 false) xANow)))]) rfl (fun v hv => w_toShelfS_t xANow v hv) (.inl rfl) ?_
 intro v10 gv10 h
 refine LWp.m true [(.slot 40, [.junk])] 11 (.one (.sl true 58 2 (encs (c58 true) v10))) ?_
 refine LWp.nil ?_
 refine Wp.seq ?_
 refine Wp.region ?_
 refine LWp.o 41 (.one (.view (.slot 9) 1 [] 0)) ?_
 refine LWp.o 42 (.one (.view (.slot 10) 1 [] 0)) ?_
 refine LWp.o 43 (.one (.view (.slot 11) 1 [] 0)) ?_
 refine LWp.cl h 44 (fun v11 => (B v11)) rfl (l := [.sv (.one (.sl false 58 2 (shares (encs (c58 true) v8)))), .sv (.one (.sl false 58 2 (shares (encs (c58 true) v9)))), .sv (.one (.sl false 58 2 (shares (encs (c58 true) v10))))]) rfl (fun v hv => cg (l := [.sv (.one (.sl false 58 2 (shares (encs (c58 true) v8)))), .sv (.one (.sl false 58 2 (shares (encs (c58 true) v9)))), .sv (.one (.sl false 58 2 (shares (encs (c58 true) v10))))]) (by simp only [sh58]) (i_WholeOrNot_t v8 v9 v10 v hv)) (.inr (fun v => rfl)) ?_
 intro v11 gv11 h
 refine LWp.o 12 (B v11) ?_
 refine LWp.nil ?_
 refine Wp.seq ?_
 refine Wp.seq ?_
 refine Wp.region ?_
 refine LWp.o 45 (B v11) ?_
 refine LWp.o 46 (B v7) ?_
 refine LWp.o 47 (B (!(v11 == v7))) ?_
 refine LWp.nil ?_
 refine Wp.c h (fun h => ?_) (fun h => ?_)
 · refine Wp.seq ?_
   refine Wp.region ?_
   refine LWp.o 6 (B false) ?_
   refine LWp.nil ?_
   cases h
   exact Wp.ret ⟨.inr rfl, _, _, rfl, rfl⟩
 refine Wp.skip ?_
 refine Wp.seq ?_
 refine Wp.seq ?_
 refine Wp.region ?_
 refine LWp.o 48 (.one (.view (.slot 9) 1 [] 0)) ?_
 refine LWp.o 49 (.one (.sl false 57 2 (encs (c57 false) xABefore))) ?_
 refine LWp.cl h 50 (fun v12 => (.one (.sl true 58 2 (encs (c58 true) v12)))) rfl (l := [.sv (.one (.sl false 57 2 (encs (c57 false) xABefore)))]) rfl (fun v hv => w_toShelfS_t xABefore v hv) (.inl rfl) ?_
 intro v12 gv12 h
 refine LWp.cl h 51 (fun v13 => (B v13)) rfl (l := [.sv (.one (.sl false 58 2 (shares (encs (c58 true) v8)))), .sv (.one (.sl false 58 2 (shares (encs (c58 true) v12))))]) rfl (fun v hv => cg (l := [.sv (.one (.sl false 58 2 (shares (encs (c58 true) v8)))), .sv (.one (.sl false 58 2 (shares (encs (c58 true) v12))))]) (by simp only [sh58]) (w_eqShelfS_t v8 v12 v hv)) (.inr (fun v => rfl)) ?_
 intro v13 gv13 h
 refine LWp.o 52 (B (!v13)) ?_
 refine LWp.nil ?_
 refine Wp.c h (fun h => ?_) (fun h => ?_)
 · refine Wp.seq ?_
   refine Wp.region ?_
   refine LWp.o 6 (B false) ?_
   refine LWp.nil ?_
   cases h
   exact Wp.ret ⟨.inr rfl, _, _, rfl, rfl⟩
 refine Wp.skip ?_
 refine Wp.seq ?_
 refine Wp.seq ?_
 refine Wp.region ?_
 refine LWp.o 53 (.one (.view (.slot 10) 1 [] 0)) ?_
 refine LWp.o 54 (.one (.sl false 57 2 (encs (c57 false) xAAfter))) ?_
 refine LWp.cl h 55 (fun v14 => (.one (.sl true 58 2 (encs (c58 true) v14)))) rfl (l := [.sv (.one (.sl false 57 2 (encs (c57 false) xAAfter)))]) rfl (fun v hv => w_toShelfS_t xAAfter v hv) (.inl rfl) ?_
 intro v14 gv14 h
 refine LWp.cl h 56 (fun v15 => (B v15)) rfl (l := [.sv (.one (.sl false 58 2 (shares (encs (c58 true) v9)))), .sv (.one (.sl false 58 2 (shares (encs (c58 true) v14))))]) rfl (fun v hv => cg (l := [.sv (.one (.sl false 58 2 (shares (encs (c58 true) v9)))), .sv (.one (.sl false 58 2 (shares (encs (c58 true) v14))))]) (by simp only [sh58]) (w_eqShelfS_t v9 v14 v hv)) (.inr (fun v => rfl)) ?_
 intro v15 gv15 h
 refine LWp.o 57 (B (!v15)) ?_
 refine LWp.nil ?_
 refine Wp.c h (fun h => ?_) (fun h => ?_)
 · refine Wp.seq ?_
   refine Wp.region ?_
   refine LWp.o 6 (B false) ?_
   refine LWp.nil ?_
   cases h
   exact Wp.ret ⟨.inr rfl, _, _, rfl, rfl⟩
 refine Wp.skip ?_
 refine Wp.seq ?_
 refine Wp.seq ?_
 refine Wp.region ?_
 refine LWp.o 58 (.one (.view (.slot 11) 1 [] 0)) ?_
 refine LWp.o 59 (.one (.sl false 57 2 (encs (c57 false) xANow))) ?_
 refine LWp.cl h 60 (fun v16 => (.one (.sl true 58 2 (encs (c58 true) v16)))) rfl (l := [.sv (.one (.sl false 57 2 (encs (c57 false) xANow)))]) rfl (fun v hv => w_toShelfS_t xANow v hv) (.inl rfl) ?_
 intro v16 gv16 h
 refine LWp.cl h 61 (fun v17 => (B v17)) rfl (l := [.sv (.one (.sl false 58 2 (shares (encs (c58 true) v10)))), .sv (.one (.sl false 58 2 (shares (encs (c58 true) v16))))]) rfl (fun v hv => cg (l := [.sv (.one (.sl false 58 2 (shares (encs (c58 true) v10)))), .sv (.one (.sl false 58 2 (shares (encs (c58 true) v16))))]) (by simp only [sh58]) (w_eqShelfS_t v10 v16 v hv)) (.inr (fun v => rfl)) ?_
 intro v17 gv17 h
 refine LWp.o 62 (B (!v17)) ?_
 refine LWp.nil ?_
 refine Wp.c h (fun h => ?_) (fun h => ?_)
 · refine Wp.seq ?_
   refine Wp.region ?_
   refine LWp.o 6 (B false) ?_
   refine LWp.nil ?_
   cases h
   exact Wp.ret ⟨.inr rfl, _, _, rfl, rfl⟩
 refine Wp.skip ?_
 refine Wp.seq ?_
 refine Wp.region ?_
 refine LWp.o 6 (B true) ?_
 refine LWp.nil ?_
 cases h
 exact Wp.ret ⟨.inr rfl, _, _, rfl, rfl⟩
end Go.TI
