/- That they compute it. No condition. -/
import Derived.Test.YtiemmklnnjembaaGreatNEW1
namespace Go.TI
open Go Go.Proofs
set_option maxRecDepth 100000
def Vl (a:List Aq) (b:List Int) (c:Int) (z1:List Bool) (z2:Int):St:=AG [(0,(.one (.sl false 54 8 (Ah Gb a)))),(1,(.one (.sl false 3 1 (Ah c3 b)))),(2,(I c)),(7,(.one (.sl true 4 1 (Ah c4 z1)))),(8,(I z2))] []
def Vk (a:List Aq) (b:List Int) (z3:List Bool):St:=AG [(0,(.one (.sl false 54 8 (Ah Gb a)))),(1,(.one (.sl false 3 1 (Ah c3 b)))),(7,(.one (.sl true 4 1 (Ah c4 z3))))] []
def Vj (a:List Aq) (b:List Int) (z4:List Bool) (z5:Int):St:=AG [(0,(.one (.sl false 54 8 (Ah Gb a)))),(1,(.one (.sl false 3 1 (Ah c3 b)))),(7,(.one (.sl true 4 1 (Ah c4 z4)))),(9,(I z5))] []
def Vi (z6:List Bool):St:=AG [(7,(.one (.sl true 4 1 (Ah c4 z6))))] []
def Vh (a:List Aq) (b:List Int) (c:Int) (z7:List Bool) (z8:Int):St:=AG [(0,(.one (.sl false 54 8 (Ah Gb a)))),(1,(.one (.sl false 3 1 (Ah c3 b)))),(7,(.one (.sl true 4 1 (Ah c4 z7)))),(9,(I c)),(10,(I z8))] []
def Vg (a:List Aq) (b:List Int) (c:Int) (z9:List Bool):St:=AG [(0,(.one (.sl false 54 8 (Ah Gb a)))),(1,(.one (.sl false 3 1 (Ah c3 b)))),(7,(.one (.sl true 4 1 (Ah c4 z9)))),(9,(I c))] []
def Vf (a:List Aq) (b:List Int) (d:Int) (c:List Bool) (e:Int) (z10:Bool):St:=AG [(0,(.one (.sl false 54 8 (Ah Gb a)))),(1,(.one (.sl false 3 1 (Ah c3 b)))),(7,(.one (.sl true 4 1 (Ah c4 c)))),(9,(I d)),(10,(I e)),(72,(B z10))] []
theorem Ip (b:List Aq) (c:List Int) (d:Int) (r:List Bool) (h:F7 b c d=some r):Be Tryz.prog 41 [.sv (.one (.sl false 54 8 (Ah Gb b))),.sv (.one (.sl false 3 1 (Ah c3 c))),.sv (I d)] (.one (.sl true 4 1 (Ah c4 r))) (List.replicate 3 .gone):=by
 unfold F7 at h;refine gk Tryz.func41 rfl Tryz.ntmps41 (ws (Ab 1 0 (RW.nil (ws (Ab 1 0 (RW.q (D5 DY b) (bd h fun q1 gq1 h=>Dl (fmk k4 false gq1) (Ab 1 1 (RW.nil (Wp.seq (ws (Ab 1 0 ?_))))))))))));refine RW.nil (BO h [0,1,2,7,8] [] (fun s=>(Vl b c d s.1 s.2)) [0,1,7] [] (fun s=>(Vk b c s)) A4 ?_ ?_)
 ·rintro⟨g,k⟩ o (h:Gk b d g k=some o);unfold Gk at h;refine Wp.seq (ws (Ab 2 0 (RW.q (D5 DY b) (Ab 1 0 (RW.nil (wc h (fun h=>?_) (fun h=>?_)))))))
  ·refine Wp.skip (Wp.seq (Wp.block (Ax (Ab 4 0 (bd h fun x1 gx1 h=>RW.q (Cq DY gx1) (RW.q (DD DY gx1 0 2) (RW.q (DD DY gx1 2 2) (RW.q (CN DY gx1 2) (Ab 2 0 (Ba 29 h (fun h=>?_) (fun h=>?_)))))))))))
   ·refine Ab 2 0 (bd h fun x2 gx2 h=>RW.q (Cq DY gx2) (RW.q (DD DY gx2 0 2) (RW.q (DD DY gx2 2 4) (RW.q (CN DY gx2 4) (Ab 3 0 (bd h fun x3 gx3 h=>RW.q (Cq k4 gx3) (Dl (Ow k4 gx3 0 0 (decide (x2.Page.Tx>=d))) (RW.nil (Ax (Ab 3 0 (RW.nil ?_)))))))))));cases h;exact⟨_,rfl,A4⟩
   refine Ab 9 0 (bd h fun x4 gx4 h=>RW.q (Cq k4 gx4) (Dl (Ow k4 gx4 0 0 false) (RW.nil (Ax (Ab 3 0 (RW.nil ?_))))));cases h;exact⟨_,rfl,A4⟩
  refine Wp.exit ?_;cases h;exact⟨_,rfl,A4⟩
 intro v1 h E hE;refine AE hE (Wp.seq (ws (Ab 1 0 (RW.nil (BO h [0,1,7,9] [] (fun s=>(Vj b c s.1 s.2)) [7] [] (fun s=>(Vi s)) A4 ?_ ?_)))))
 ·rintro⟨i,e⟩ o (h:Gj b c i e=some o);unfold Gj at h;refine Wp.seq (ws (Ab 2 0 (RW.q (D5 k3 c) (Ab 1 0 (RW.nil (wc h (fun h=>?_) (fun h=>?_)))))))
  ·refine Wp.skip (Wp.seq (Wp.block (ws (Ab 1 0 (RW.q (D5 DY b) (Ab 2 0 (RW.nil (BO h [0,1,7,9,10] [] (fun s=>(Vh b c e s.1 s.2)) [0,1,7,9] [] (fun s=>(Vg b c e s)) A4 ?_ ?_))))))))
   ·rintro⟨f,j⟩ o (h:Ek b c e f j=some o);unfold Ek at h;refine Wp.seq (ws (Ab 2 0 (RW.nil (wc h (fun h=>?_) (fun h=>?_)))))
    ·refine Wp.skip (Wp.seq (Wp.block (Wp.seq (B3 h [0,1,7,9,10,72] [] (fun a=>(Vf b c e f j a)) ?_ ?_))))
     ·intro a h;refine M3 mixed (DZ 2 (bd h fun x5 gx5 h=>SW.q (Cq DY gx5) (SW.q (DD DY gx5 0 2) (SW.q (DD DY gx5 2 2) (SW.q (CN DY gx5 2) (DZ 2 (kW 60 h (fun h=>?_) (fun h=>?_))))))))
      ·refine DZ 2 (bd h fun x6 gx6 h=>SW.q (Cq DY gx6) (SW.q (DD DY gx6 0 2) (SW.q (DD DY gx6 2 4) (SW.q (CN DY gx6 4) (DZ 2 (bd h fun x7 gx7 h=>SW.q (Cq k3 gx7) (SW.q (CN k3 gx7 0) (DZ 2 (SW.nil ?_)))))))));cases h;exact⟨_,rfl,A4⟩
      refine DZ 12 (SW.nil ?_);cases h;exact⟨_,rfl,A4⟩
     intro j1 h E hE;refine AE hE (wc h (fun h=>?_) (fun h=>?_))
     ·refine ws (Ab 2 0 (bd h fun x8 gx8 h=>RW.q (Cq k4 gx8) (Dl (Ow k4 gx8 0 0 true) (RW.nil (Ax (Ab 1 0 (RW.nil (Ax (Ab 3 0 (RW.nil ?_))))))))));cases h;exact⟨_,rfl,A4⟩
     refine Wp.skip (Ax (Ab 3 0 (RW.nil ?_)));cases h;exact⟨_,rfl,A4⟩
    refine Wp.exit ?_;cases h;exact⟨_,rfl,A4⟩
   intro v2 h E hE;refine AE hE (Ax (Ab 3 0 (RW.nil ?_)));cases h;exact⟨_,rfl,A4⟩
  refine Wp.exit ?_;cases h;exact⟨_,rfl,A4⟩
 intro v3 h E hE;refine AE hE (ws (Ab 2 2 (RW.nil ?_)));cases h;exact Wp.ret ⟨.inr rfl,BJ (by kernel_rfl)⟩
def Xl (xB:Block) (z1:Int):St:=AG [(1,(.one (.ptr (.box 1) 0 [] 0))),(3,(I z1))] [(.box 1,[.bool xB.Bad,.int .i64 xB.Wear,.sl false 90 2 (Ah fP xB.Leaves)])]
def Xk:St:=AG [] []
theorem ZV (xB:Block) (r:Bool) (h:LY xB=some r):Be Tryz.prog 173 [.sv (.agg [.bool xB.Bad,.int .i64 xB.Wear,.sl false 90 2 (Ah fP xB.Leaves)])] (B r) (List.replicate 1 .gone):=by
 unfold LY at h;refine gk Tryz.func173 rfl Tryz.ntmps173 (ws (Ab 2 0 (RW.nil (Wp.seq (ws (Ab 1 0 (RW.nil (Fk h [1,3] [.box 1] (fun s=>(Xl xB s)) [] [] (fun _=>Xk) A4 ?_ ?_))))))))
 ·rintro a o (h:GT xB a=some o) hk1;unfold GT at h;refine Wp.seq (ws (Ab 3 0 (RW.q (D5 M7 xB.Leaves) (Ab 1 0 (RW.nil (wc h (fun h=>?_) (fun h=>?_)))))))
  ·refine Wp.skip (Wp.seq (Wp.block (ws (Ab 3 0 (bd h fun x1 gx1 h=>RW.q (Cq M7 gx1) (RW.q (DD M7 gx1 0 0) (RW.q (CN M7 gx1 0) (Ab 1 0 (RW.nil (wc h (fun h=>?_) (fun h=>?_)))))))))))
   ·refine ws (Ab 1 0 (RW.nil ?_));cases h;replace h:some _=some _:=hk1 _ rfl;cases h;exact Wp.ret ⟨.inr rfl,BJ (by kernel_rfl)⟩
   refine Wp.skip (Ax (Ab 3 0 (RW.nil ?_)));cases h;exact⟨_,rfl,A4⟩
  refine Wp.exit ?_;cases h;exact⟨_,rfl,A4⟩
 intro v1 h E hE;refine AE hE (ws (Ab 1 0 (RW.nil ?_)));cases h;exact Wp.ret ⟨.inr rfl,BJ (by kernel_rfl)⟩
def mF (b:List Aq) (a:List Bool) (xB:Int) (z1:Int) (z2:Int):St:=AG [(0,(.one (.sl false 54 8 (Ah Gb b)))),(1,(.one (.sl false 4 1 (Ah c4 a)))),(2,(I xB)),(7,(I z1)),(8,(I z2))] []
def mE (z3:Int):St:=AG [(7,(I z3))] []
theorem PG (b:List Aq) (a:List Bool) (xB:Int) (r:Int) (h:Lu b a xB=some r):Be Tryz.prog 40 [.sv (.one (.sl false 54 8 (Ah Gb b))),.sv (.one (.sl false 4 1 (Ah c4 a))),.sv (I xB)] (I r) (List.replicate 3 .gone):=by
 unfold Lu at h;refine gk Tryz.func40 rfl Tryz.ntmps40 (ws (Ab 1 0 (RW.nil (ws (Ab 1 0 (RW.nil (Wp.seq (ws (Ab 1 0 (RW.nil (BO h [0,1,2,7,8] [] (fun s=>(mF b a xB s.1 s.2)) [7] [] (fun s=>(mE s)) A4 ?_ ?_)))))))))))
 ·rintro⟨c,d⟩ o (h:JS b a xB c d=some o);unfold JS at h;refine Wp.seq (ws (Ab 2 0 (RW.q (D5 DY b) (Ab 1 0 (RW.nil (wc h (fun h=>?_) (fun h=>?_)))))))
  ·refine Wp.skip (Wp.seq (Wp.block (ws (Ab 2 0 (bd h fun x1 gx1 h=>RW.q (Cq k4 gx1) (RW.q (CN k4 gx1 0) (Ab 1 0 (Ba 19 h (fun h=>?_) (fun h=>?_)))))))))
   ·refine Ab 2 0 (bd h fun x2 gx2 h=>RW.q (Cq DY gx2) (RW.q (DD DY gx2 0 0) (RW.q (CN DY gx2 0) (Ab 3 0 (RW.nil (wc h (fun h=>?_) (fun h=>?_)))))))
    ·refine Ax (Ab 3 0 (RW.nil (Ax (Ab 3 0 (RW.nil ?_)))));cases h;exact⟨_,rfl,A4⟩
    refine Wp.skip (Ax (Ab 3 0 (RW.nil ?_)));cases h;exact⟨_,rfl,A4⟩
   refine Ab 8 0 (RW.nil (wf (Wp.skip (Ax (Ab 3 0 (RW.nil ?_))))));cases h;exact⟨_,rfl,A4⟩
  refine Wp.exit ?_;cases h;exact⟨_,rfl,A4⟩
 intro v1 h E hE;refine AE hE (ws (Ab 2 0 (RW.nil ?_)));cases h;exact Wp.ret ⟨.inr rfl,BJ (by kernel_rfl)⟩
def Uk (xD:AM) (v1:List Aq) (v3:List Bool) (z1:List Int) (z2:Int):St:=AG [(1,(.one (.ptr (.box 1) 0 [] 0))),(3,(.one (.sl true 54 8 (Ah Gb v1)))),(4,(.one (.view (.slot 17) 0 [] 0))),(5,(.one (.sl true 3 1 (Ah c3 z1)))),(6,(I z2)),(17,(.one (.sl true 4 1 (Ah c4 v3))))] [(.box 1,[.sl false 77 3 (Ah (Cs false) xD.Flash.Blocks),.sl false 39 2 (Ah CD xD.Store.Vols),.sl false 150 2 (Ah (AN false) xD.Store.Arena.Knots),.int .i64 xD.Store.Next,.int .i64 xD.Seq,.int .i64 xD.Tx,.int .i64 xD.Base])]
def Uj (z3:List Int):St:=AG [(5,(.one (.sl true 3 1 (Ah c3 z3))))] []
def Ui (xD:AM) (v1:List Aq) (v3:List Bool) (a:List Int) (b:Int) (z4:Bool):St:=AG [(1,(.one (.ptr (.box 1) 0 [] 0))),(3,(.one (.sl true 54 8 (Ah Gb v1)))),(4,(.one (.view (.slot 17) 0 [] 0))),(5,(.one (.sl true 3 1 (Ah c3 a)))),(6,(I b)),(17,(.one (.sl true 4 1 (Ah c4 v3)))),(47,(B z4))] [(.box 1,[.sl false 77 3 (Ah (Cs false) xD.Flash.Blocks),.sl false 39 2 (Ah CD xD.Store.Vols),.sl false 150 2 (Ah (AN false) xD.Store.Arena.Knots),.int .i64 xD.Store.Next,.int .i64 xD.Seq,.int .i64 xD.Tx,.int .i64 xD.Base])]
theorem VX (xD:AM) (r:List Int) (h:Jy xD=some r):Be Tryz.prog 151 [.sv (.agg [.sl false 77 3 (Ah (Cs false) xD.Flash.Blocks),.sl false 39 2 (Ah CD xD.Store.Vols),.sl false 150 2 (Ah (AN false) xD.Store.Arena.Knots),.int .i64 xD.Store.Next,.int .i64 xD.Seq,.int .i64 xD.Tx,.int .i64 xD.Base])] (.one (.sl true 3 1 (Ah c3 r))) (List.replicate 1 .gone):=by
 unfold Jy at h;refine gk Tryz.func151 rfl Tryz.ntmps151 (ws (Ab 2 0 (RW.nil (ws (Ab 2 0 (RW.c 0 h (F9 _) (fun v1 gv1 h=>Ab 1 1 (RW.nil (Wp.seq (EL [] mixed (fun c E h=>by rcases h with⟨h|h,_⟩<;>cases h) (AD [0,1,2,4,5] 0 (BT 3 (KB.c 0 h (JZ _) (fun v2 gv2 h=>?_))))))))))))));refine BT 6 (KB.c 0 h (gs (ca (co (cs (Sn _))) (ca (co (cs (fZ _))) rfl)) (Ip _ _ _)) (fun v3 gv3 h=>AD [7] 0 (Ap (ws (Ab 2 2 (RW.nil (Wp.seq (ws (Ab 1 0 (RW.nil (BO h [1,3,4,5,6,17] [.box 1] (fun s=>(Uk xD v1 v3 s.1 s.2)) [5] [] (fun s=>(Uj s)) A4 ?_ ?_)))))))))) (hc:=(.inr (fun v=>by simp [BE,BL,AR,BB,ns4]))))
 ·rintro⟨b,d⟩ o (h:EA xD v1 v3 b d=some o);unfold EA at h;refine Wp.seq (ws (Ab 4 0 (RW.q (D5 (Fq false) xD.Flash.Blocks) (Ab 1 0 (RW.nil (wc h (fun h=>?_) (fun h=>?_)))))))
  ·refine Wp.skip (Wp.seq (Wp.block (ws (Ab 4 0 (bd h fun x1 gx1 h=>RW.q (Cq (Fq false) gx1) (RW.q (Si (Fq false) gx1 0 3) (Ab 2 0 (RW.nil (Wp.seq (B3 h [1,3,4,5,6,17,47] [.box 1] (fun a=>(Ui xD v1 v3 b d a)) ?_ ?_))))))))))
   ·intro a h;refine Ax (Ab 4 0 (Ba 36 h (fun h=>?_) (fun h=>?_)))
    ·refine Ab 1 0 (RW.c 0 h (ZV _) (fun v4 gv4 h=>Ab 3 0 (Ba 41 h (fun h=>?_) (fun h=>?_))))
     ·refine Ab 3 0 (RW.c 0 h (gs (ca (co (cs (Sn _))) (ca (co (cs (sh4 _))) rfl)) (PG _ _ _)) (fun v5 gv5 h=>Ab 2 0 (RW.nil ?_)) (hc:=(.inr (fun v=>rfl))));cases h;exact⟨_,rfl,A4⟩
     refine Ab 6 0 (RW.nil ?_);cases h;exact⟨_,rfl,A4⟩
    refine Ab 11 0 (RW.nil ?_);cases h;exact⟨_,rfl,A4⟩
   intro j1 h E hE;refine AE hE (wc h (fun h=>?_) (fun h=>?_))
   ·refine Ax (Ab 3 0 (bd h fun q1 gq1 h=>Dl (EQ k3 (fun _=>rfl) b gq1) (Ab 1 1 (RW.nil (Ax (Ab 3 0 (RW.nil ?_)))))));cases h;exact⟨_,rfl,A4⟩
   refine Wp.skip (Ax (Ab 3 0 (RW.nil ?_)));cases h;exact⟨_,rfl,A4⟩
  refine Wp.exit ?_;cases h;exact⟨_,rfl,A4⟩
 intro v6 h E hE;refine AE hE (ws (Ab 2 2 (RW.nil ?_)));cases h;exact Wp.ret ⟨.inr rfl,BJ (by kernel_rfl)⟩
def Xo (xD:AM) (v2:List Tx) (z1:Int):St:=AG [(1,(.one (.ptr (.box 1) 0 [] 0))),(3,(.one (.sl true 178 3 (Ah (O3 true) v2)))),(4,(I z1))] [(.box 1,[.sl false 77 3 (Ah (Cs false) xD.Flash.Blocks),.sl false 39 2 (Ah CD xD.Store.Vols),.sl false 150 2 (Ah (AN false) xD.Store.Arena.Knots),.int .i64 xD.Store.Next,.int .i64 xD.Seq,.int .i64 xD.Tx,.int .i64 xD.Base])]
def Xn:St:=AG [] []
theorem ZW (xD:AM) (r:Bool) (h:LZ xD=some r):Be Tryz.prog 152 [.sv (.agg [.sl false 77 3 (Ah (Cs false) xD.Flash.Blocks),.sl false 39 2 (Ah CD xD.Store.Vols),.sl false 150 2 (Ah (AN false) xD.Store.Arena.Knots),.int .i64 xD.Store.Next,.int .i64 xD.Seq,.int .i64 xD.Tx,.int .i64 xD.Base])] (B r) (List.replicate 1 .gone):=by
 unfold LZ at h;refine gk Tryz.func152 rfl Tryz.ntmps152 (ws (Ab 2 0 (RW.nil (Wp.seq (ws (Ab 6 0 (RW.nil (wc h (fun h=>?_) (fun h=>?_)))))))))
 ·refine ws (Ab 1 0 (RW.nil ?_));cases h;exact Wp.ret ⟨.inr rfl,BJ (by kernel_rfl)⟩
 refine Wp.skip (ws (Ab 2 0 (RW.c 0 h (F9 _) (fun v1 gv1 h=>RW.c 0 h (gs (ca (co (cs (Sn _))) rfl) (VT _)) (fun v2 gv2 h=>Ab 1 1 (RW.nil (Wp.seq (ws (Ab 1 0 (RW.nil (Fk h [1,3,4] [.box 1] (fun s=>(Xo xD v2 s)) [] [] (fun _=>Xn) A4 ?_ ?_))))))) (hc:=(.inr (fun v=>by simp [BE,BL,AR,BB,wF])))))))
 ·rintro a o (h:FN xD v2 a=some o) hk1;unfold FN at h;refine Wp.seq (ws (Ab 2 0 (RW.q (D5 (Il true) v2) (Ab 1 0 (RW.nil (wc h (fun h=>?_) (fun h=>?_)))))))
  ·refine Wp.skip (Wp.seq (Wp.block (Wp.seq (M3 mixed (DZ 2 (bd h fun x1 gx1 h=>SW.q (Cq (Il true) gx1) (SW.q (DD (Il true) gx1 0 0) (SW.q (CN (Il true) gx1 0) (DZ 3 (SW.nil (wc h (fun h=>?_) (fun h=>?_))))))))))))
   ·refine ws (Ab 2 0 (bd h fun x2 gx2 h=>RW.q (Cq (Il true) gx2) (RW.q (DD (Il true) gx2 0 2) (RW.q (CN (Il true) gx2 2) (RW.q (ACw Ww x2.Recs (Il true) gx2 2) (Ab 2 0 (Ba 36 h (fun h=>?_) (fun h=>?_))))))))
    ·refine Ab 2 0 (bd h fun x3 gx3 h=>RW.q (Cq (Il true) gx3) (RW.q (DD (Il true) gx3 0 2) (RW.q (CN (Il true) gx3 2) (bd h fun x4 gx4 h=>RW.q (ABW Ww gx4 (Il true) gx3 2) (RW.q (DD Ww gx4 0 0 (hr:=pr2 0 (Il true) gx3 2)) (RW.q (CN Ww gx4 0 (hr:=pr2 0 (Il true) gx3 2)) (Ab 3 0 (RW.nil ?_))))))));cases h;replace h:some _=some _:=hk1 _ rfl;cases h;exact Wp.ret ⟨.inr rfl,BJ (by kernel_rfl)⟩
    refine Ab 11 0 (RW.nil ?_);cases h;replace h:some _=some _:=hk1 _ rfl;cases h;exact Wp.ret ⟨.inr rfl,BJ (by kernel_rfl)⟩
   refine Wp.skip (Ax (Ab 3 0 (RW.nil ?_)));cases h;exact⟨_,rfl,A4⟩
  refine Wp.exit ?_;cases h;exact⟨_,rfl,A4⟩
 intro v3 h E hE;refine AE hE (ws (Ab 1 0 (RW.nil ?_)));cases h;exact Wp.ret ⟨.inr rfl,BJ (by kernel_rfl)⟩
def Yt (xS:Store) (z1:List Dk) (z2:Int):St:=AG [(1,(.one (.ptr (.box 1) 0 [] 0))),(3,(.one (.sl true 99 4 (Ah Ni z1)))),(4,(I z2))] [(.box 1,[.sl false 39 2 (Ah CD xS.Vols),.sl false 150 2 (Ah (AN false) xS.Arena.Knots),.int .i64 xS.Next])]
def Ys (z3:List Dk):St:=AG [(3,(.one (.sl true 99 4 (Ah Ni z3))))] []
def Yr (xS:Store) (a:Int) (v1:List Int) (z4:List Dk) (z5:Int):St:=AG [(1,(.one (.ptr (.box 1) 0 [] 0))),(3,(.one (.sl true 99 4 (Ah Ni z4)))),(4,(I a)),(5,(.one (.sl true 3 1 (Ah c3 v1)))),(6,(I z5))] [(.box 1,[.sl false 39 2 (Ah CD xS.Vols),.sl false 150 2 (Ah (AN false) xS.Arena.Knots),.int .i64 xS.Next])]
def Yq (xS:Store) (a:Int) (z6:List Dk):St:=AG [(1,(.one (.ptr (.box 1) 0 [] 0))),(3,(.one (.sl true 99 4 (Ah Ni z6)))),(4,(I a))] [(.box 1,[.sl false 39 2 (Ah CD xS.Vols),.sl false 150 2 (Ah (AN false) xS.Arena.Knots),.int .i64 xS.Next])]
theorem c8 (xS:Store) (r:List Dk) (h:Mm xS=some r):Be Tryz.prog 174 [.sv (.agg [.sl false 39 2 (Ah CD xS.Vols),.sl false 150 2 (Ah (AN false) xS.Arena.Knots),.int .i64 xS.Next])] (.one (.sl true 99 4 (Ah Ni r))) (List.replicate 1 .gone):=by
 unfold Mm at h;refine gk Tryz.func174 rfl Tryz.ntmps174 (ws (Ab 2 0 (RW.nil (ws (Ab 5 16 (RW.nil (Wp.seq (ws (Ab 1 0 (RW.nil (BO h [1,3,4] [.box 1] (fun s=>(Yt xS s.1 s.2)) [3] [] (fun s=>(Ys s)) A4 ?_ ?_)))))))))))
 ·rintro⟨a,d⟩ o (h:FY xS a d=some o);unfold FY at h;refine Wp.seq (ws (Ab 3 0 (RW.q (D5 Em xS.Vols) (Ab 1 0 (RW.nil (wc h (fun h=>?_) (fun h=>?_)))))))
  ·refine Wp.skip (Wp.seq (Wp.block (ws (Ab 4 0 (bd h fun x1 gx1 h=>RW.q (Cq Em gx1) (RW.q (DD Em gx1 0 0) (RW.q (CN Em gx1 0) (Ab 2 0 (bd h fun q1 gq1 h=>Dl (EQ Ww (fun _=>rfl) a gq1) (Ab 1 1 (RW.nil ?_)))))))))));refine Wp.seq (T7 8 mixed (DZ 5 (bd h fun x2 gx2 h=>SW.q (Cq Em gx2) (SW.q (DD Em gx2 0 1) (SW.q (CN Em gx2 1) (SW.nil (RW.c 0 h (PI _ _) (fun v1 gv1 h=>Ab 1 1 (RW.nil (ws (Ab 1 0 (RW.nil ?_))))))))))));refine BO h [1,3,4,5,6] [.box 1] (fun s=>(Yr xS d v1 s.1 s.2)) [1,3,4] [.box 1] (fun s=>(Yq xS d s)) A4 ?_ ?_
   ·rintro⟨b,e⟩ o (h:FX xS d v1 b e=some o);unfold FX at h;refine Wp.seq (ws (Ab 2 0 (RW.q (D5 k3 v1) (Ab 1 0 (RW.nil (wc h (fun h=>?_) (fun h=>?_)))))))
    ·refine Wp.skip (Wp.seq (Wp.block (ws (Ab 2 0 (bd h fun x3 gx3 h=>RW.q (Cq k3 gx3) (RW.q (CN k3 gx3 0) (Ab 1 0 (RW.nil (wc h (fun h=>?_) (fun h=>?_))))))))))
     ·refine EL [14] mixed (fun c E h=>by rcases h with⟨h|h,_⟩<;>cases h) (AD [0,1,2,3] 0 (bd h fun x4 gx4 h=>KW.q 4 (Cq Em gx4) (KW.q 5 (DD Em gx4 0 0) (KW.q 6 (CN Em gx4 0) (AD [7,8,9] 0 (bd h fun x5 gx5 h=>KW.q 10 (Cq k3 gx5) (KW.q 11 (CN k3 gx5 0) (AD [12,13] 0 (BT 14 (bd h fun q2 gq2 h=>YH (EQ Ww (fun _=>rfl) b gq2) ?_))))))))));refine AD [15] 1 (Ap (Ax (Ab 3 0 (RW.nil ?_))));cases h;exact⟨_,rfl,A4⟩
     refine Wp.skip (Ax (Ab 3 0 (RW.nil ?_)));cases h;exact⟨_,rfl,A4⟩
    refine Wp.exit ?_;cases h;exact⟨_,rfl,A4⟩
   intro v2 h E hE;refine AE hE (Ax (Ab 3 0 (RW.nil ?_)));cases h;exact⟨_,rfl,A4⟩
  refine Wp.exit ?_;cases h;exact⟨_,rfl,A4⟩
 intro v3 h E hE;refine AE hE (ws (Ab 2 2 (RW.nil ?_)));cases h;exact Wp.ret ⟨.inr rfl,BJ (by kernel_rfl)⟩
def VI (xF:Flash) (z1:Int):St:=AG [(1,(.one (.ptr (.box 1) 0 [] 0))),(3,(I z1))] [(.box 1,[.sl false 77 3 (Ah (Cs false) xF.Blocks)])]
def VH:St:=AG [] []
def VG (xF:Flash) (a:Int) (z2:Int) (z3:Int) (z4:Int):St:=AG [(1,(.one (.ptr (.box 1) 0 [] 0))),(3,(I a)),(4,(I z2)),(5,(I z3)),(6,(I z4))] [(.box 1,[.sl false 77 3 (Ah (Cs false) xF.Blocks)])]
def VF (xF:Flash) (a:Int) (z5:Int) (z6:Int):St:=AG [(1,(.one (.ptr (.box 1) 0 [] 0))),(3,(I a)),(4,(I z5)),(5,(I z6))] [(.box 1,[.sl false 77 3 (Ah (Cs false) xF.Blocks)])]
def VE (xF:Flash) (a:Int) (z7:Bool):St:=AG [(1,(.one (.ptr (.box 1) 0 [] 0))),(3,(I a)),(54,(B z7))] [(.box 1,[.sl false 77 3 (Ah (Cs false) xF.Blocks)])]
theorem XT (xF:Flash) (r:Int) (h:KJ xF=some r):Be Tryz.prog 176 [.sv (.agg [.sl false 77 3 (Ah (Cs false) xF.Blocks)])] (I r) (List.replicate 1 .gone):=by
 unfold KJ at h;refine gk Tryz.func176 rfl Tryz.ntmps176 (ws (Ab 2 0 (RW.nil (Wp.seq (ws (Ab 1 0 (RW.nil (Fk h [1,3] [.box 1] (fun s=>(VI xF s)) [] [] (fun _=>VH) A4 ?_ ?_))))))))
 ·rintro b o (h:EX xF b=some o) hk1;unfold EX at h;refine Wp.seq (ws (Ab 3 0 (RW.q (D5 (Fq false) xF.Blocks) (Ab 1 0 (RW.nil (wc h (fun h=>?_) (fun h=>?_)))))))
  ·refine Wp.skip (Wp.seq (Wp.block (ws (Ab 1 0 (RW.nil (ws (Ab 1 0 (RW.nil (Wp.seq (ws (Ab 1 0 (RW.nil (BO h [1,3,4,5,6] [.box 1] (fun s=>(VG xF b s.1 s.2.1 s.2.2)) [1,3,4,5] [.box 1] (fun s=>(VF xF b s.1 s.2)) A4 ?_ ?_)))))))))))))
   ·rintro⟨c,d,e⟩ o (h:EW xF b c d e=some o);unfold EW at h;refine Wp.seq (ws (Ab 4 0 (bd h fun x1 gx1 h=>RW.q (Cq (Fq false) gx1) (RW.q (DD (Fq false) gx1 0 2) (RW.q (CN (Fq false) gx1 2) (RW.q (D5 M7 x1.Leaves) (Ab 1 0 (RW.nil (wc h (fun h=>?_) (fun h=>?_))))))))))
    ·refine Wp.skip (Wp.seq (Wp.block (ws (Ab 3 0 (bd h fun x2 gx2 h=>RW.q (Cq (Fq false) gx2) (RW.q (DD (Fq false) gx2 0 2) (RW.q (CN (Fq false) gx2 2) (Ab 1 0 (bd h fun x3 gx3 h=>RW.q (Cq M7 gx3) (RW.q (DD M7 gx3 0 0) (RW.q (CN M7 gx3 0) ?_)))))))))));refine Ab 1 0 (RW.nil (wc h (fun h=>?_) (fun h=>?_)))
     ·refine Ax (Ab 3 0 (RW.nil (Ax (Ab 3 0 (RW.nil ?_)))));cases h;exact⟨_,rfl,A4⟩
     refine Ax (Ab 3 0 (RW.nil (Ax (Ab 3 0 (RW.nil ?_)))));cases h;exact⟨_,rfl,A4⟩
    refine Wp.exit ?_;cases h;exact⟨_,rfl,A4⟩
   intro v1 h E hE;refine AE hE (Wp.seq (B3 h [1,3,54] [.box 1] (fun a=>(VE xF b a)) ?_ ?_))
   ·intro a h;refine Ax (Ab 3 0 (bd h fun x4 gx4 h=>RW.q (Cq (Fq false) gx4) (RW.q (DD (Fq false) gx4 0 0) (RW.q (CN (Fq false) gx4 0) (Ab 2 0 (Ba 47 h (fun h=>?_) (fun h=>?_)))))))
    ·refine Ab 4 0 (Ba 51 h (fun h=>?_) (fun h=>?_))
     ·refine Ab 3 0 (RW.nil ?_);cases h;exact⟨_,rfl,A4⟩
     refine Ab 3 0 (RW.nil ?_);cases h;exact⟨_,rfl,A4⟩
    refine Ab 7 0 (RW.nil ?_);cases h;exact⟨_,rfl,A4⟩
   intro j1 h E hE;refine AE hE (wc h (fun h=>?_) (fun h=>?_))
   ·refine ws (Ab 2 0 (RW.nil ?_));cases h;replace h:some _=some _:=hk1 _ rfl;cases h;exact Wp.ret ⟨.inr rfl,BJ (by kernel_rfl)⟩
   refine Wp.skip (Ax (Ab 3 0 (RW.nil ?_)));cases h;exact⟨_,rfl,A4⟩
  refine Wp.exit ?_;cases h;exact⟨_,rfl,A4⟩
 intro v2 h E hE;refine AE hE (ws (Ab 1 0 (RW.nil ?_)));cases h;exact Wp.ret ⟨.inr rfl,BJ (by kernel_rfl)⟩
def VK (xB:Block) (z1:Int):St:=AG [(1,(.one (.ptr (.box 1) 0 [] 0))),(3,(I z1))] [(.box 1,[.bool xB.Bad,.int .i64 xB.Wear,.sl false 90 2 (Ah fP xB.Leaves)])]
def VJ:St:=AG [] []
theorem MY (xB:Block) (r:Int) (h:H5 xB=some r):Be Tryz.prog 175 [.sv (.agg [.bool xB.Bad,.int .i64 xB.Wear,.sl false 90 2 (Ah fP xB.Leaves)])] (I r) (List.replicate 1 .gone):=by
 unfold H5 at h;refine gk Tryz.func175 rfl Tryz.ntmps175 (ws (Ab 2 0 (RW.nil (Wp.seq (ws (Ab 1 0 (RW.nil (Fk h [1,3] [.box 1] (fun s=>(VK xB s)) [] [] (fun _=>VJ) A4 ?_ ?_))))))))
 ·rintro a o (h:EY xB a=some o) hk1;unfold EY at h;refine Wp.seq (ws (Ab 3 0 (RW.q (D5 M7 xB.Leaves) (Ab 1 0 (RW.nil (wc h (fun h=>?_) (fun h=>?_)))))))
  ·refine Wp.skip (Wp.seq (Wp.block (ws (Ab 3 0 (bd h fun x1 gx1 h=>RW.q (Cq M7 gx1) (RW.q (DD M7 gx1 0 0) (RW.q (CN M7 gx1 0) (Ab 1 0 (RW.nil (wc h (fun h=>?_) (fun h=>?_)))))))))))
   ·refine ws (Ab 2 0 (RW.nil ?_));cases h;replace h:some _=some _:=hk1 _ rfl;cases h;exact Wp.ret ⟨.inr rfl,BJ (by kernel_rfl)⟩
   refine Wp.skip (Ax (Ab 3 0 (RW.nil ?_)));cases h;exact⟨_,rfl,A4⟩
  refine Wp.exit ?_;cases h;exact⟨_,rfl,A4⟩
 intro v1 h E hE;refine AE hE (ws (Ab 1 0 (RW.nil ?_)));cases h;exact Wp.ret ⟨.inr rfl,BJ (by kernel_rfl)⟩
def Ue (xF:Flash) (z1:List Int) (z2:Int):St:=AG [(1,(.one (.ptr (.box 1) 0 [] 0))),(3,(.one (.sl true 3 1 (Ah c3 z1)))),(4,(I z2))] [(.box 1,[.sl false 77 3 (Ah (Cs false) xF.Blocks)])]
def Ud (z3:List Int):St:=AG [(3,(.one (.sl true 3 1 (Ah c3 z3))))] []
def Uc (xF:Flash) (a:List Int) (b:Int) (z4:Bool) (z5:Int):St:=AG [(1,(.one (.ptr (.box 1) 0 [] 0))),(3,(.one (.sl true 3 1 (Ah c3 a)))),(4,(I b)),(5,(B z4)),(6,(I z5))] [(.box 1,[.sl false 77 3 (Ah (Cs false) xF.Blocks)])]
def TZ (xF:Flash) (a:List Int) (b:Int) (z6:Bool):St:=AG [(1,(.one (.ptr (.box 1) 0 [] 0))),(3,(.one (.sl true 3 1 (Ah c3 a)))),(4,(I b)),(5,(B z6))] [(.box 1,[.sl false 77 3 (Ah (Cs false) xF.Blocks)])]
theorem VU (xF:Flash) (r:List Int) (h:Jv xF=some r):Be Tryz.prog 177 [.sv (.agg [.sl false 77 3 (Ah (Cs false) xF.Blocks)])] (.one (.sl true 3 1 (Ah c3 r))) (List.replicate 1 .gone):=by
 unfold Jv at h;refine gk Tryz.func177 rfl Tryz.ntmps177 (ws (Ab 2 0 (RW.nil (ws (Ab 2 2 (RW.nil (Wp.seq (ws (Ab 1 0 (RW.nil (BO h [1,3,4] [.box 1] (fun s=>(Ue xF s.1 s.2)) [3] [] (fun s=>(Ud s)) A4 ?_ ?_)))))))))))
 ·rintro⟨a,c⟩ o (h:Fz xF a c=some o);unfold Fz at h;refine Wp.seq (ws (Ab 3 0 (RW.q (D5 (Fq false) xF.Blocks) (Ab 1 0 (RW.nil (wc h (fun h=>?_) (fun h=>?_)))))))
  ·refine Wp.skip (Wp.seq (Wp.block (ws (Ab 3 0 (bd h fun x1 gx1 h=>RW.q (Cq (Fq false) gx1) (RW.q (DD (Fq false) gx1 0 0) (RW.q (CN (Fq false) gx1 0) (Ab 2 0 (RW.nil (Wp.seq (ws (Ab 1 0 ?_))))))))))));refine RW.nil (BO h [1,3,4,5,6] [.box 1] (fun s=>(Uc xF a c s.1 s.2)) [1,3,4,5] [.box 1] (fun s=>(TZ xF a c s)) A4 ?_ ?_)
   ·rintro⟨b,d⟩ o (h:E8 xF c b d=some o);unfold E8 at h;refine Wp.seq (ws (Ab 4 0 (bd h fun x2 gx2 h=>RW.q (Cq (Fq false) gx2) (RW.q (DD (Fq false) gx2 0 2) (RW.q (CN (Fq false) gx2 2) (RW.q (D5 M7 x2.Leaves) (Ab 1 0 (RW.nil (wc h (fun h=>?_) (fun h=>?_))))))))))
    ·refine Wp.skip (Wp.seq (Wp.block (Ax (Ab 2 0 (Ba 34 h (fun h=>?_) (fun h=>?_))))))
     ·refine Ab 3 0 (bd h fun x3 gx3 h=>RW.q (Cq (Fq false) gx3) (RW.q (DD (Fq false) gx3 0 2) (RW.q (CN (Fq false) gx3 2) (Ab 1 0 (bd h fun x4 gx4 h=>RW.q (Cq M7 gx4) (RW.q (DD M7 gx4 0 0) (RW.q (CN M7 gx4 0) (Ab 3 0 (RW.nil (Ax (Ab 3 0 ?_)))))))))));refine RW.nil ?_;cases h;exact⟨_,rfl,A4⟩
     refine Ab 13 0 (RW.nil (Ax (Ab 3 0 (RW.nil ?_))));cases h;exact⟨_,rfl,A4⟩
    refine Wp.exit ?_;cases h;exact⟨_,rfl,A4⟩
   intro v1 h E hE;refine AE hE (ws (Ab 1 0 (RW.nil (wc h (fun h=>?_) (fun h=>?_)))))
   ·refine Ax (Ab 3 0 (bd h fun q1 gq1 h=>Dl (EQ k3 (fun _=>rfl) a gq1) (Ab 1 1 (RW.nil (Ax (Ab 3 0 (RW.nil ?_)))))));cases h;exact⟨_,rfl,A4⟩
   refine Wp.skip (Ax (Ab 3 0 (RW.nil ?_)));cases h;exact⟨_,rfl,A4⟩
  refine Wp.exit ?_;cases h;exact⟨_,rfl,A4⟩
 intro v2 h E hE;refine AE hE (ws (Ab 2 2 (RW.nil ?_)));cases h;exact Wp.ret ⟨.inr rfl,BJ (by kernel_rfl)⟩
def cF (xF:Flash) (v4:List Int) (z1:Int) (z2:Int):St:=AG [(1,(.one (.ptr (.box 1) 0 [] 0))),(6,(.one (.sl true 3 1 (Ah c3 v4)))),(7,(I z1)),(8,(I z2))] [(.box 1,[.sl false 77 3 (Ah (Cs false) xF.Blocks)])]
def cE (z3:Int):St:=AG [(7,(I z3))] []
theorem iE (xF:Flash) (r:Int×Int×Bool) (h:LI xF=some r):Be Tryz.prog 156 [.sv (.agg [.sl false 77 3 (Ah (Cs false) xF.Blocks)])] (.tup [(I r.1),(I r.2.1),(B r.2.2)]) (List.replicate 1 .gone):=by
 unfold LI at h;refine gk Tryz.func156 rfl Tryz.ntmps156 (ws (Ab 4 0 (RW.nil (Wp.seq (ws (Ab 1 0 (RW.c 0 h (MH _) (fun v1 gv1 h=>Ab 1 0 (RW.nil (wc h (fun h=>?_) (fun h=>?_)))))))))))
 ·refine ws (Ab 3 0 (RW.nil ?_));cases h;exact Wp.ret ⟨.inr rfl,BJ (by kernel_rfl)⟩
 refine Wp.skip (ws (Ab 1 0 (RW.c 0 h (XT _) (fun v2 gv2 h=>Ab 1 0 (RW.nil (Wp.seq (ws (Ab 2 0 (RW.nil (wc h (fun h=>?_) (fun h=>?_)))))))))))
 ·refine ws (Ab 4 0 (bd h fun x1 gx1 h=>RW.q (Cq (Fq false) gx1) (RW.q (Si (Fq false) gx1 0 3) (RW.c 0 h (MY _) (fun v3 gv3 h=>Ab 3 0 (RW.nil ?_))))));cases h;exact Wp.ret ⟨.inr rfl,BJ (by kernel_rfl)⟩
 refine Wp.skip (ws (Ab 1 0 (RW.c 0 h (VU _) (fun v4 gv4 h=>Ab 1 1 (RW.nil (Wp.seq (ws (Ab 1 0 (RW.q (D5 k3 v4) (Ab 1 0 (RW.nil (wc h (fun h=>?_) (fun h=>?_)))))))))))))
 ·refine ws (Ab 3 0 (RW.nil ?_));cases h;exact Wp.ret ⟨.inr rfl,BJ (by kernel_rfl)⟩
 refine Wp.skip (ws (Ab 1 0 (bd h fun x2 gx2 h=>RW.q (Cq k3 gx2) (RW.q (CN k3 gx2 0) (Ab 1 0 (RW.nil (Wp.seq (ws (Ab 1 0 (RW.nil (BO h [1,6,7,8] [.box 1] (fun s=>(cF xF v4 s.1 s.2)) [7] [] (fun s=>(cE s)) A4 ?_ ?_)))))))))))
 ·rintro⟨a,b⟩ o (h:HU xF v4 a b=some o);unfold HU at h;refine Wp.seq (ws (Ab 2 0 (RW.q (D5 k3 v4) (Ab 1 0 (RW.nil (wc h (fun h=>?_) (fun h=>?_)))))))
  ·refine Wp.skip (Wp.seq (Wp.block (Wp.seq (M3 mixed (DZ 4 (bd h fun x3 gx3 h=>SW.q (Cq k3 gx3) (SW.q (CN k3 gx3 0) (bd h fun x4 gx4 h=>SW.q (Cq (Fq false) gx4) (SW.q (DD (Fq false) gx4 0 1) (SW.q (CN (Fq false) gx4 1) (DZ 3 ?_)))))))))))
   refine bd h fun x5 gx5 h=>SW.q (Cq (Fq false) gx5) (SW.q (DD (Fq false) gx5 0 1) (SW.q (CN (Fq false) gx5 1) (DZ 1 (SW.nil (wc h (fun h=>?_) (fun h=>?_))))))
   ·refine Ax (Ab 2 0 (bd h fun x6 gx6 h=>RW.q (Cq k3 gx6) (RW.q (CN k3 gx6 0) (Ab 1 0 (RW.nil (Ax (Ab 3 0 (RW.nil ?_))))))));cases h;exact⟨_,rfl,A4⟩
   refine Wp.skip (Ax (Ab 3 0 (RW.nil ?_)));cases h;exact⟨_,rfl,A4⟩
  refine Wp.exit ?_;cases h;exact⟨_,rfl,A4⟩
 intro v5 h E hE;refine AE hE (ws (Ab 4 0 (RW.nil ?_)));cases h;exact Wp.ret ⟨.inr rfl,BJ (by kernel_rfl)⟩
theorem mS (xF:Flash) (xB:Int) (a:Int) (b:ByteArray) (r:Bool) (h:Rk xF xB a b=some r):Be Tryz.prog 188 [.sv (.agg [.sl false 77 3 (Ah (Cs false) xF.Blocks)]),.sv (I xB),.sv (I a),.sv (Y b)] (B r) (List.replicate 4 .gone):=by
 unfold Rk at h;refine gk Tryz.func188 rfl Tryz.ntmps188 (ws (Ab 2 0 (RW.nil (ws (Ab 3 0 (RW.q (D5 (Fq false) xF.Blocks) (Ab 1 0 (RW.c 0 h (BN _ _ _) (fun v1 gv1 h=>Ab 1 0 (Ba 15 h (fun h=>?_) (fun h=>?_)))))))))))
 ·refine Ab 3 0 (bd h fun x1 gx1 h=>RW.q (Cq (Fq false) gx1) (RW.q (DD (Fq false) gx1 0 0) (RW.q (CN (Fq false) gx1 0) (Ab 3 0 (Ba 24 h (fun h=>?_) (fun h=>?_))))))
  ·refine Ab 4 0 (Ba 28 h (fun h=>?_) (fun h=>?_))
   ·refine Ab 4 0 (bd h fun x2 gx2 h=>RW.q (Cq (Fq false) gx2) (RW.q (Si (Fq false) gx2 0 3) (RW.c 0 h (MY _) (fun v2 gv2 h=>Ab 3 0 (Ba 38 h (fun h=>?_) (fun h=>?_))))))
    ·refine Ab 2 0 (RW.c 0 h (BN _ _ _) (fun v3 gv3 h=>Ab 2 0 (RW.nil ?_)));cases h;exact Wp.ret ⟨.inr rfl,BJ (by kernel_rfl)⟩
    refine Ab 5 0 (RW.nil ?_);cases h;exact Wp.ret ⟨.inr rfl,BJ (by kernel_rfl)⟩
   refine Ab 15 0 (RW.nil ?_);cases h;exact Wp.ret ⟨.inr rfl,BJ (by kernel_rfl)⟩
  refine Ab 19 0 (RW.nil ?_);cases h;exact Wp.ret ⟨.inr rfl,BJ (by kernel_rfl)⟩
 refine Ab 28 0 (RW.nil ?_);cases h;exact Wp.ret ⟨.inr rfl,BJ (by kernel_rfl)⟩
def bX (xB:Int) (a:Int) (b:ByteArray) (v1:Flash) (z1:Bool):St:=AG [(1,(I xB)),(2,(I a)),(3,(Y b)),(8,(.one (.ptr (.box 8) 0 [] 0))),(10,(.one (.ptr (.box 10) 0 [] 0))),(23,(B z1))] [(.box 8,[.sl true 77 3 (Ah (Cs true) [])]),(.box 10,[.sl true 77 3 (Ah (Cs true) v1.Blocks)])]
theorem hO (xF:Flash) (xB:Int) (d:Int) (b:ByteArray) (r:Flash×Bool) (h:LH xF xB d b=some r):Be Tryz.prog 178 [.sv (.agg [.sl false 77 3 (Ah (Cs false) xF.Blocks)]),.sv (I xB),.sv (I d),.sv (Y b)] (.tup [(.agg [.sl true 77 3 (Ah (Cs true) r.1.Blocks)]),(B r.2)]) (List.replicate 4 .gone):=by
 unfold LH at h;refine gk Tryz.func178 rfl Tryz.ntmps178 (ws (Ab 3 0 (RW.nil (ws (Ab 1 0 (RW.c 0 h (IP _) (fun v1 gv1 h=>Ab 2 0 (RW.nil (Wp.seq (Wp.seq (B3 h [1,2,3,8,10,23] [.box 8,.box 10] (fun a=>(bX xB d b v1 a)) ?_ ?_)))))))))))
 ·intro a h;refine Ax (Ab 1 0 (RW.c 0 h (MH _) (fun v2 gv2 h=>Ab 2 0 (Ba 16 h (fun h=>?_) (fun h=>?_)))))
  ·refine Ab 7 0 (RW.nil ?_);cases h;exact⟨_,rfl,A4⟩
  refine Ab 4 0 (RW.c 0 h (mS _ _ _ _) (fun v3 gv3 h=>Ab 2 0 (RW.nil ?_)));cases h;exact⟨_,rfl,A4⟩
 intro j1 h E hE;refine AE hE (wc h (fun h=>?_) (fun h=>?_))
 ·refine ws (Ab 3 0 (RW.nil ?_));cases h;exact Wp.ret ⟨.inr rfl,BJ (by kernel_rfl)⟩
 refine Wp.skip (ws (Ab 3 0 (bd h fun x1 gx1 h=>RW.q (Cq (Fq true) gx1) (RW.q (DD (Fq true) gx1 0 2) (RW.q (CN (Fq true) gx1 2) (Ab 3 0 (bd h fun x2 gx2 h=>RW.q (ABW M7 gx2 (Fq true) gx1 2) (Dl (ACG M7 gx2 0 0 (Leaf.mk 1 b) (Fq true) gx1 2 (Block.mk x1.Bad x1.Wear (si x1.Leaves d (Leaf.mk 1 b)))) (RW.nil (ws (Ab 3 0 ?_)))))))))));refine RW.nil ?_;cases h;exact Wp.ret ⟨.inr rfl,BJ (by kernel_rfl)⟩
def rZ (xF:Flash) (xB:Int) (v1:Flash) (z1:Bool):St:=AG [(1,(I xB)),(2,(.one (.ptr (.box 2) 0 [] 0))),(4,(.one (.ptr (.box 4) 0 [] 0))),(6,(.one (.ptr (.box 6) 0 [] 0))),(37,(B z1))] [(.box 2,[.sl false 77 3 (Ah (Cs false) xF.Blocks)]),(.box 4,[.sl true 77 3 (Ah (Cs true) [])]),(.box 6,[.sl true 77 3 (Ah (Cs true) v1.Blocks)])]
theorem vA (xF:Flash) (xB:Int) (r:Flash×Bool) (h:Ss xF xB=some r):Be Tryz.prog 179 [.sv (.agg [.sl false 77 3 (Ah (Cs false) xF.Blocks)]),.sv (I xB)] (.tup [(.agg [.sl true 77 3 (Ah (Cs true) r.1.Blocks)]),(B r.2)]) (List.replicate 2 .gone):=by
 unfold Ss at h;refine gk Tryz.func179 rfl Tryz.ntmps179 (ws (Ab 3 0 (RW.nil (ws (Ab 1 0 (RW.c 0 h (IP _) (fun v1 gv1 h=>Ab 2 0 (RW.nil (Wp.seq (Wp.seq (B3 h [1,2,4,6,37] [.box 2,.box 4,.box 6] (fun a=>(rZ xF xB v1 a)) ?_ ?_)))))))))))
 ·intro a h;refine Ax (Ab 1 0 (RW.c 0 h (MH _) (fun v2 gv2 h=>Ab 2 0 (Ba 12 h (fun h=>?_) (fun h=>?_)))))
  ·refine Ab 25 0 (RW.nil ?_);cases h;exact⟨_,rfl,A4⟩
  refine Ab 3 0 (RW.q (D5 (Fq false) xF.Blocks) (Ab 1 0 (RW.c 0 h (BN _ _ _) (fun v3 gv3 h=>Ab 3 0 (Ba 21 h (fun h=>?_) (fun h=>?_))))))
  ·refine Ab 16 0 (RW.nil ?_);cases h;exact⟨_,rfl,A4⟩
  refine Ab 3 0 (bd h fun x1 gx1 h=>RW.q (Cq (Fq false) gx1) (RW.q (DD (Fq false) gx1 0 0) (RW.q (CN (Fq false) gx1 0) (Ab 2 0 (Ba 29 h (fun h=>?_) (fun h=>?_))))))
  ·refine Ab 8 0 (RW.nil ?_);cases h;exact⟨_,rfl,A4⟩
  refine Ab 3 0 (bd h fun x2 gx2 h=>RW.q (Cq (Fq false) gx2) (RW.q (DD (Fq false) gx2 0 1) (RW.q (CN (Fq false) gx2 1) (Ab 2 0 (RW.nil ?_)))));cases h;exact⟨_,rfl,A4⟩
 intro j1 h E hE;refine AE hE (wc h (fun h=>?_) (fun h=>?_))
 ·refine ws (Ab 3 0 (RW.nil ?_));cases h;exact Wp.ret ⟨.inr rfl,BJ (by kernel_rfl)⟩
 refine Wp.skip (Wp.seq (EL [13] mixed (fun c E h=>by rcases h with⟨h|h,_⟩<;>cases h) (AD [0,1,2,3,4,5] 0 (bd h fun x3 gx3 h=>KW.q 6 (Cq (Fq false) gx3) (KW.q 7 (DD (Fq false) gx3 0 1) (KW.q 8 (CN (Fq false) gx3 1) (AD [9] 0 (BT 10 (bd h fun q1 gq1 h=>YH (fmk M7 (Leaf.mk 0 (bs [])) gq1) (AD [11] 0 (bd h fun x4 gx4 h=>?_)))))))))));refine KW.q 12 (Cq (Fq true) gx4) (BT 13 (YH (Ow (Fq true) gx4 0 0 (Block.mk false (ad x3.Wear 1) q1)) (Ap (ws (Ab 3 0 (RW.nil ?_))))));cases h;exact Wp.ret ⟨.inr rfl,BJ (by kernel_rfl)⟩
theorem Q4 (xF:Flash) (xS:BI) (r:Flash×Bool) (h:Mj xF xS=some r):Be Tryz.prog 157 [.sv (.agg [.sl false 77 3 (Ah (Cs false) xF.Blocks)]),.sv (.agg [.int .i64 xS.Kind,.int .i64 xS.Block,.int .i64 xS.Leaf,.str xS.Text])] (.tup [(.agg [.sl true 77 3 (Ah (Cs true) r.1.Blocks)]),(B r.2)]) (List.replicate 2 .gone):=by
 unfold Mj at h;refine gk Tryz.func157 rfl Tryz.ntmps157 (ws (Ab 4 0 (RW.nil (Wp.seq (ws (Ab 2 0 (RW.nil (Wp.block (ws (Ab 2 0 (RW.nil (wc h (fun h=>?_) (fun h=>?_)))))))))))))
 ·refine ws (Ab 7 0 (RW.c 0 h (hO _ _ _ _) (fun v1 gv1 h=>Ab 4 0 (RW.nil ?_))));cases h;exact Wp.ret ⟨.inr rfl,BJ (by kernel_rfl)⟩
 refine ws (Ab 2 0 (RW.nil (wc h (fun h=>?_) (fun h=>?_))))
 ·refine ws (Ab 3 0 (RW.c 0 h (vA _ _) (fun v2 gv2 h=>Ab 4 0 (RW.nil ?_))));cases h;exact Wp.ret ⟨.inr rfl,BJ (by kernel_rfl)⟩
 refine Wp.skip (ws (Ab 1 0 (RW.c 0 h (IP _) (fun v3 gv3 h=>Ab 2 0 (RW.nil ?_)))));cases h;exact Wp.ret ⟨.inr rfl,BJ (by kernel_rfl)⟩
def CY (x:BI):List TV:=[.int .i64 x.Kind,.int .i64 x.Block,.int .i64 x.Leaf,.str x.Text]
theorem Nb:∀x,(CY x).length=4:=fun _=>rfl
theorem AAF:∀l,BG (Ah CY l)=Ah CY l:=D6 (fun _=>rfl)
theorem wE:∀l,AR (Ah CY l)=false:=K4 (fun _=>rfl)
def SU (xF:Flash) (a:List BI) (v1:ByteArray×Bool) (v2:Int×Int×Bool) (z1:Bool):St:=AG [(1,(.one (.sl true 203 4 (Ah CY a)))),(3,(.one (.ptr (.box 3) 0 [] 0))),(6,(.one (.ptr (.box 6) 0 [] 0))),(9,(Y v1.1)),(11,(I v2.1)),(12,(I v2.2.1)),(33,(B z1))] [(.box 3,[.sl false 77 3 (Ah (Cs false) xF.Blocks)]),(.box 6,[.sl true 77 3 (Ah (Cs true) [])])]
def ST (v3:Flash×Bool) (z2:List BI):St:=AG [(6,(.one (.ptr (.box 6) 0 [] 0))),(7,(.one (.sl true 203 4 (Ah CY z2)))),(8,(B v3.2))] [(.box 6,[.sl true 77 3 (Ah (Cs true) v3.1.Blocks)])]
theorem Qz (xF:Flash) (b:List BI) (xP:Page) (r:Flash×List BI×Bool) (h:Hy xF b xP=some r):Be Tryz.prog 130 [.sv (.agg [.sl false 77 3 (Ah (Cs false) xF.Blocks)]),.sv (.one (.sl true 203 4 (Ah CY b))),.sv (.agg [.int .i64 xP.Kind,.int .i64 xP.Seq,.int .i64 xP.Tx,.int .i64 xP.Part,.int .i64 xP.Count,.str xP.Text])] (.tup [(.agg [.sl false 77 3 (Ah (Cs false) r.1.Blocks)]),(.one (.sl true 203 4 (Ah CY r.2.1))),(B r.2.2)]) (List.replicate 3 .gone):=by
 unfold Hy at h;refine tM Tryz.func130 rfl ?_;rw [Tryz.ntmps130];refine Wp.seq (Wp.region (Lp [] 3 [.sl false 77 3 (Ah (Cs false) xF.Blocks)] (Lp [] 5 [.int .i64 xP.Kind,.int .i64 xP.Seq,.int .i64 xP.Tx,.int .i64 xP.Part,.int .i64 xP.Count,.str xP.Text] (Lp [] 6 [.sl true 77 3 (Ah (Cs true) [])] (A7.o 7 (.one (.sl true 203 4 (Ah CY []))) (A7.o 8 (B false) (A7.nil (Wp.seq (Wp.region (A7.o 18 (.agg [.int .i64 xP.Kind,.int .i64 xP.Seq,.int .i64 xP.Tx,.int .i64 xP.Part,.int .i64 xP.Count,.str xP.Text]) (Xa h 19 (fun v1=>(.tup [(Y v1.1),(B v1.2)])) rfl (l:=[.sv (.agg [.int .i64 xP.Kind,.int .i64 xP.Seq,.int .i64 xP.Tx,.int .i64 xP.Part,.int .i64 xP.Count,.str xP.Text])]) rfl (fun v hv=>Rp xP v hv) (.inl rfl) ?_)))))))))));intro v1 gv1 h;refine fG 19 17 (.tup [(Y v1.1),(B v1.2)]) (Sc 17 0 20 (Y v1.1) (Sc 17 1 21 (B v1.2) (A7.o 9 (Y v1.1) (A7.o 10 (B v1.2) (A7.nil (Wp.seq (Wp.region (A7.o 23 (.agg [.sl false 77 3 (Ah (Cs false) xF.Blocks)]) (Xa h 24 (fun v2=>(.tup [(I v2.1),(I v2.2.1),(B v2.2.2)])) rfl (l:=[.sv (.agg [.sl false 77 3 (Ah (Cs false) xF.Blocks)])]) rfl (fun v hv=>iE xF v hv) (.inl rfl) ?_)))))))));intro v2 gv2 h;refine fG 24 22 (.tup [(I v2.1),(I v2.2.1),(B v2.2.2)]) (Sc 22 0 25 (I v2.1) (Sc 22 1 26 (I v2.2.1) (Sc 22 2 27 (B v2.2.2) (A7.o 11 (I v2.1) (A7.o 12 (I v2.2.1) (A7.o 13 (B v2.2.2) (A7.nil (Wp.seq (Wp.seq (B3 h [1,3,6,9,11,12,33] [.box 3,.box 6] (fun a=>(SU xF b v1 v2 a)) ?_ ?_))))))))))
 ·intro a h;refine Wp.region (A7.o 28 (B v1.2) (A7.o 29 (B (!v1.2)) (A7.o 30 (B (!v1.2)) (P9 h 30 (fun h=>?_) (fun h=>?_)))))
  ·refine Ee 31 (Ee 32 (A7.o 33 (B true) (A7.nil ?_)));cases h;exact⟨_,rfl,rfl,rfl⟩
  refine A7.o 31 (B v2.2.2) (A7.o 32 (B (!v2.2.2)) (A7.o 33 (B (!v2.2.2)) (A7.nil ?_)));cases h;exact⟨_,rfl,rfl,rfl⟩
 intro j1 h E hE;refine AE hE ?_;change Wp _ _ _ (SU xF b v1 v2 j1) _;refine Wp.c h (fun h=>?_) (fun h=>?_)
 ·refine Wp.seq (Wp.region (A7.o 34 (.agg [.sl false 77 3 (Ah (Cs false) xF.Blocks)]) (A7.o 35 (.one (.view (.slot 1) 0 [] 0)) (pH [] (.box 6) [.sl false 77 3 (Ah (Cs false) xF.Blocks)] (WZ true [(.slot 1,[.junk])] 7 (.one (.sl true 203 4 (Ah CY b))) (A7.o 8 (B false) (A7.nil ?_)))))));cases h;exact Wp.ret ⟨.inr rfl,_,_,rfl,fD⟩
 refine Wp.skip (Wp.seq (Wp.region (A7.o 36 (I v2.1) (A7.o 37 (I v2.2.1) (A7.o 38 (Y v1.1) (A7.o 39 (.agg [.int .i64 1,.int .i64 v2.1,.int .i64 v2.2.1,.str v1.1]) (Lp [] 14 [.int .i64 0,.int .i64 0,.int .i64 0,.str (bs [])] (A7.s [] (.box 14) [.int .i64 1,.int .i64 v2.1,.int .i64 v2.2.1,.str v1.1] (A7.nil (Wp.seq (Wp.region (A7.o 41 (.agg [.sl false 77 3 (Ah (Cs false) xF.Blocks)]) (A7.o 42 (.agg [.int .i64 1,.int .i64 v2.1,.int .i64 v2.2.1,.str v1.1]) ?_)))))))))))));refine Xa h 43 (fun v3=>(.tup [(.agg [.sl true 77 3 (Ah (Cs true) v3.1.Blocks)]),(B v3.2)])) rfl (l:=[.sv (.agg [.sl false 77 3 (Ah (Cs false) xF.Blocks)]),.sv (.agg [.int .i64 1,.int .i64 v2.1,.int .i64 v2.2.1,.str v1.1])]) rfl (fun v hv=>Q4 xF (BI.mk 1 v2.1 v2.2.1 v1.1) v hv) (.inl rfl) ?_;intro v3 gv3 h;refine fG 43 40 (.tup [(.agg [.sl true 77 3 (Ah (Cs true) v3.1.Blocks)]),(B v3.2)]) (Sc 40 0 44 (.agg [.sl true 77 3 (Ah (Cs true) v3.1.Blocks)]) (Sc 40 1 45 (B v3.2) (Lp [] 15 [.sl true 77 3 (Ah (Cs true) [])] (pH [(.slot 44,[.junk])] (.box 15) [.sl true 77 3 (Ah (Cs true) v3.1.Blocks)] (A7.o 16 (B v3.2) (A7.nil (Wp.seq (B3 h [6,7,8] [.box 6] (fun a=>(ST v3 a)) ?_ ?_))))))))
 ·intro a h;refine WU 9 [4,6] mixed (fun c E h=>by rcases h with⟨h|h,_⟩<;>cases h) (Dp.o 9 1 47 (.one (.view (.slot 1) 0 [] 0)) (Dp.o 9 2 48 (.agg [.int .i64 1,.int .i64 v2.1,.int .i64 v2.2.1,.str v1.1]) (yR 0 3 5 ?_ ?_ ?_)))
  ·refine DC.o 0 46 (.agg [.view (.box 15) 2 [] 0]) (Kx 3 5 ?_ ?_)
   ·refine HI 3 false [] 49 (.one (.sl true 203 4 (Ah CY [(BI.mk 1 v2.1 v2.2.1 v1.1)]))) (Kx 4 5 ?_ ?_)
    ·refine M6 h 4 [(.slot 1,[.junk])] 50 (fun q1=>(.one (.sl true 203 4 (Ah CY q1)))) ?_ rfl (fun q1 gq1=>Nt Nb (fun _=>rfl) [(.slot 1,[.junk])] b gq1);intro q1 gq1 h;refine Kx 5 6 ?_ ?_
     ·refine DC.o 5 51 (B v3.2) (BW 6 (IH 6 [(.box 15,[.junk])] (.box 6) [.sl true 77 3 (Ah (Cs true) v3.1.Blocks)] (BW 7 (HI 7 true [(.slot 50,[.junk])] 7 (.one (.sl true 203 4 (Ah CY q1))) (BW 8 (DC.o 8 8 (B v3.2) (DO ?_)))))));cases h;exact⟨_,rfl,rfl,rfl⟩
     refine IH 6 [(.box 15,[.junk])] (.box 6) [.sl true 77 3 (Ah (Cs true) v3.1.Blocks)] (Kx 5 7 ?_ ?_)
     ·refine DC.o 5 51 (B v3.2) (BW 7 (HI 7 true [(.slot 50,[.junk])] 7 (.one (.sl true 203 4 (Ah CY q1))) (BW 8 (DC.o 8 8 (B v3.2) (DO ?_)))));cases h;exact⟨_,rfl,rfl,rfl⟩
     refine HI 7 true [(.slot 50,[.junk])] 7 (.one (.sl true 203 4 (Ah CY q1))) (BW 5 (DC.o 5 51 (B v3.2) (BW 8 (DC.o 8 8 (B v3.2) (DO ?_)))));cases h;exact⟨_,rfl,rfl,rfl⟩
    refine DC.o 5 51 (B v3.2) (BW 4 (M6 h 4 [(.slot 1,[.junk])] 50 (fun q2=>(.one (.sl true 203 4 (Ah CY q2)))) ?_ rfl (fun q2 gq2=>Nt Nb (fun _=>rfl) [(.slot 1,[.junk])] b gq2)));intro q2 gq2 h;refine BW 6 (IH 6 [(.box 15,[.junk])] (.box 6) [.sl true 77 3 (Ah (Cs true) v3.1.Blocks)] (BW 7 (HI 7 true [(.slot 50,[.junk])] 7 (.one (.sl true 203 4 (Ah CY q2))) (BW 8 (DC.o 8 8 (B v3.2) (DO ?_))))));cases h;exact⟨_,rfl,rfl,rfl⟩
   refine DC.o 5 51 (B v3.2) (BW 3 (HI 3 false [] 49 (.one (.sl true 203 4 (Ah CY [(BI.mk 1 v2.1 v2.2.1 v1.1)]))) (BW 4 (M6 h 4 [(.slot 1,[.junk])] 50 (fun q3=>(.one (.sl true 203 4 (Ah CY q3)))) ?_ rfl (fun q3 gq3=>Nt Nb (fun _=>rfl) [(.slot 1,[.junk])] b gq3)))));intro q3 gq3 h;refine BW 6 (IH 6 [(.box 15,[.junk])] (.box 6) [.sl true 77 3 (Ah (Cs true) v3.1.Blocks)] (BW 7 (HI 7 true [(.slot 50,[.junk])] 7 (.one (.sl true 203 4 (Ah CY q3))) (BW 8 (DC.o 8 8 (B v3.2) (DO ?_))))));cases h;exact⟨_,rfl,rfl,rfl⟩
  ·refine HI 3 false [] 49 (.one (.sl true 203 4 (Ah CY [(BI.mk 1 v2.1 v2.2.1 v1.1)]))) (yR 0 4 5 ?_ ?_ ?_)
   ·refine DC.o 0 46 (.agg [.view (.box 15) 2 [] 0]) (Kx 4 5 ?_ ?_)
    ·refine M6 h 4 [(.slot 1,[.junk])] 50 (fun q4=>(.one (.sl true 203 4 (Ah CY q4)))) ?_ rfl (fun q4 gq4=>Nt Nb (fun _=>rfl) [(.slot 1,[.junk])] b gq4);intro q4 gq4 h;refine Kx 5 6 ?_ ?_
     ·refine DC.o 5 51 (B v3.2) (BW 6 (IH 6 [(.box 15,[.junk])] (.box 6) [.sl true 77 3 (Ah (Cs true) v3.1.Blocks)] (BW 7 (HI 7 true [(.slot 50,[.junk])] 7 (.one (.sl true 203 4 (Ah CY q4))) (BW 8 (DC.o 8 8 (B v3.2) (DO ?_)))))));cases h;exact⟨_,rfl,rfl,rfl⟩
     refine IH 6 [(.box 15,[.junk])] (.box 6) [.sl true 77 3 (Ah (Cs true) v3.1.Blocks)] (Kx 5 7 ?_ ?_)
     ·refine DC.o 5 51 (B v3.2) (BW 7 (HI 7 true [(.slot 50,[.junk])] 7 (.one (.sl true 203 4 (Ah CY q4))) (BW 8 (DC.o 8 8 (B v3.2) (DO ?_)))));cases h;exact⟨_,rfl,rfl,rfl⟩
     refine HI 7 true [(.slot 50,[.junk])] 7 (.one (.sl true 203 4 (Ah CY q4))) (BW 5 (DC.o 5 51 (B v3.2) (BW 8 (DC.o 8 8 (B v3.2) (DO ?_)))));cases h;exact⟨_,rfl,rfl,rfl⟩
    refine DC.o 5 51 (B v3.2) (BW 4 (M6 h 4 [(.slot 1,[.junk])] 50 (fun q5=>(.one (.sl true 203 4 (Ah CY q5)))) ?_ rfl (fun q5 gq5=>Nt Nb (fun _=>rfl) [(.slot 1,[.junk])] b gq5)));intro q5 gq5 h;refine BW 6 (IH 6 [(.box 15,[.junk])] (.box 6) [.sl true 77 3 (Ah (Cs true) v3.1.Blocks)] (BW 7 (HI 7 true [(.slot 50,[.junk])] 7 (.one (.sl true 203 4 (Ah CY q5))) (BW 8 (DC.o 8 8 (B v3.2) (DO ?_))))));cases h;exact⟨_,rfl,rfl,rfl⟩
   ·refine M6 h 4 [(.slot 1,[.junk])] 50 (fun q6=>(.one (.sl true 203 4 (Ah CY q6)))) ?_ rfl (fun q6 gq6=>Nt Nb (fun _=>rfl) [(.slot 1,[.junk])] b gq6);intro q6 gq6 h;refine Kx 0 5 ?_ ?_
    ·refine DC.o 0 46 (.agg [.view (.box 15) 2 [] 0]) (Kx 5 6 ?_ ?_)
     ·refine DC.o 5 51 (B v3.2) (BW 6 (IH 6 [(.box 15,[.junk])] (.box 6) [.sl true 77 3 (Ah (Cs true) v3.1.Blocks)] (BW 7 (HI 7 true [(.slot 50,[.junk])] 7 (.one (.sl true 203 4 (Ah CY q6))) (BW 8 (DC.o 8 8 (B v3.2) (DO ?_)))))));cases h;exact⟨_,rfl,rfl,rfl⟩
     refine IH 6 [(.box 15,[.junk])] (.box 6) [.sl true 77 3 (Ah (Cs true) v3.1.Blocks)] (Kx 5 7 ?_ ?_)
     ·refine DC.o 5 51 (B v3.2) (BW 7 (HI 7 true [(.slot 50,[.junk])] 7 (.one (.sl true 203 4 (Ah CY q6))) (BW 8 (DC.o 8 8 (B v3.2) (DO ?_)))));cases h;exact⟨_,rfl,rfl,rfl⟩
     refine HI 7 true [(.slot 50,[.junk])] 7 (.one (.sl true 203 4 (Ah CY q6))) (BW 5 (DC.o 5 51 (B v3.2) (BW 8 (DC.o 8 8 (B v3.2) (DO ?_)))));cases h;exact⟨_,rfl,rfl,rfl⟩
    refine DC.o 5 51 (B v3.2) (BW 0 (DC.o 0 46 (.agg [.view (.box 15) 2 [] 0]) (BW 6 (IH 6 [(.box 15,[.junk])] (.box 6) [.sl true 77 3 (Ah (Cs true) v3.1.Blocks)] (BW 7 (HI 7 true [(.slot 50,[.junk])] 7 (.one (.sl true 203 4 (Ah CY q6))) (BW 8 (DC.o 8 8 (B v3.2) (DO ?_)))))))));cases h;exact⟨_,rfl,rfl,rfl⟩
   refine DC.o 5 51 (B v3.2) (Kx 0 4 ?_ ?_)
   ·refine DC.o 0 46 (.agg [.view (.box 15) 2 [] 0]) (BW 4 (M6 h 4 [(.slot 1,[.junk])] 50 (fun q7=>(.one (.sl true 203 4 (Ah CY q7)))) ?_ rfl (fun q7 gq7=>Nt Nb (fun _=>rfl) [(.slot 1,[.junk])] b gq7)));intro q7 gq7 h;refine BW 6 (IH 6 [(.box 15,[.junk])] (.box 6) [.sl true 77 3 (Ah (Cs true) v3.1.Blocks)] (BW 7 (HI 7 true [(.slot 50,[.junk])] 7 (.one (.sl true 203 4 (Ah CY q7))) (BW 8 (DC.o 8 8 (B v3.2) (DO ?_))))));cases h;exact⟨_,rfl,rfl,rfl⟩
   refine M6 h 4 [(.slot 1,[.junk])] 50 (fun q8=>(.one (.sl true 203 4 (Ah CY q8)))) ?_ rfl (fun q8 gq8=>Nt Nb (fun _=>rfl) [(.slot 1,[.junk])] b gq8);intro q8 gq8 h;refine BW 0 (DC.o 0 46 (.agg [.view (.box 15) 2 [] 0]) (BW 6 (IH 6 [(.box 15,[.junk])] (.box 6) [.sl true 77 3 (Ah (Cs true) v3.1.Blocks)] (BW 7 (HI 7 true [(.slot 50,[.junk])] 7 (.one (.sl true 203 4 (Ah CY q8))) (BW 8 (DC.o 8 8 (B v3.2) (DO ?_))))))));cases h;exact⟨_,rfl,rfl,rfl⟩
  refine DC.o 5 51 (B v3.2) (Kx 0 3 ?_ ?_)
  ·refine DC.o 0 46 (.agg [.view (.box 15) 2 [] 0]) (BW 3 (HI 3 false [] 49 (.one (.sl true 203 4 (Ah CY [(BI.mk 1 v2.1 v2.2.1 v1.1)]))) (BW 4 (M6 h 4 [(.slot 1,[.junk])] 50 (fun q9=>(.one (.sl true 203 4 (Ah CY q9)))) ?_ rfl (fun q9 gq9=>Nt Nb (fun _=>rfl) [(.slot 1,[.junk])] b gq9)))));intro q9 gq9 h;refine BW 6 (IH 6 [(.box 15,[.junk])] (.box 6) [.sl true 77 3 (Ah (Cs true) v3.1.Blocks)] (BW 7 (HI 7 true [(.slot 50,[.junk])] 7 (.one (.sl true 203 4 (Ah CY q9))) (BW 8 (DC.o 8 8 (B v3.2) (DO ?_))))));cases h;exact⟨_,rfl,rfl,rfl⟩
  refine HI 3 false [] 49 (.one (.sl true 203 4 (Ah CY [(BI.mk 1 v2.1 v2.2.1 v1.1)]))) (Kx 0 4 ?_ ?_)
  ·refine DC.o 0 46 (.agg [.view (.box 15) 2 [] 0]) (BW 4 (M6 h 4 [(.slot 1,[.junk])] 50 (fun q10=>(.one (.sl true 203 4 (Ah CY q10)))) ?_ rfl (fun q10 gq10=>Nt Nb (fun _=>rfl) [(.slot 1,[.junk])] b gq10)));intro q10 gq10 h;refine BW 6 (IH 6 [(.box 15,[.junk])] (.box 6) [.sl true 77 3 (Ah (Cs true) v3.1.Blocks)] (BW 7 (HI 7 true [(.slot 50,[.junk])] 7 (.one (.sl true 203 4 (Ah CY q10))) (BW 8 (DC.o 8 8 (B v3.2) (DO ?_))))));cases h;exact⟨_,rfl,rfl,rfl⟩
  refine M6 h 4 [(.slot 1,[.junk])] 50 (fun q11=>(.one (.sl true 203 4 (Ah CY q11)))) ?_ rfl (fun q11 gq11=>Nt Nb (fun _=>rfl) [(.slot 1,[.junk])] b gq11);intro q11 gq11 h;refine BW 0 (DC.o 0 46 (.agg [.view (.box 15) 2 [] 0]) (BW 6 (IH 6 [(.box 15,[.junk])] (.box 6) [.sl true 77 3 (Ah (Cs true) v3.1.Blocks)] (BW 7 (HI 7 true [(.slot 50,[.junk])] 7 (.one (.sl true 203 4 (Ah CY q11))) (BW 8 (DC.o 8 8 (B v3.2) (DO ?_))))))));cases h;exact⟨_,rfl,rfl,rfl⟩
 intro j2 h E hE;refine AE hE ?_;change Wp _ _ _ (ST v3 j2) _;cases h;exact Wp.ret ⟨.inr rfl,_,_,rfl,(ABv (Lm.c (ABw (qP.c (s8.s (Fw _)) wN)) (Lm.c fD (Lm.c fD fC))))⟩
theorem g9 (xR:Dk) (r:ByteArray×Bool) (h:Nv xR=some r):Be Tryz.prog 158 [.sv (.agg [.int .i64 xR.Kind,.int .i64 xR.Vol,.int .i64 xR.Arg,.int .i64 xR.Chunk])] (.tup [(Y r.1),(B r.2)]) (List.replicate 1 .gone):=by
 unfold Nv at h;refine gk Tryz.func158 rfl Tryz.ntmps158 (ws (Ab 3 0 (RW.nil (Wp.seq (ws (Ab 1 0 (RW.c 0 h (S0 _) (fun v1 gv1 h=>Ab 1 0 (RW.nil (wc h (fun h=>?_) (fun h=>?_)))))))))))
 ·refine ws (Ab 2 0 (RW.nil ?_));cases h;exact Wp.ret ⟨.inr rfl,BJ (by kernel_rfl)⟩
 refine Wp.skip (Wp.seq (EL [] mixed (fun c E h=>by rcases h with⟨h|h,_⟩<;>cases h) (AD [0,1,2,3,4,5,7,8,11,12] 0 (BT 6 (KB.c 0 h (Tc _) (fun v2 gv2 h=>BT 9 (KB.c 0 h (I7 _) (fun v3 gv3 h=>bd h fun x1 gx1 h=>KW.q 10 (Qg gx1) (BT 13 (KB.c 0 h (I7 _) (fun v4 gv4 h=>bd h fun x2 gx2 h=>KW.q 14 (Qg gx2) ?_)))))))))));refine AD [15,16] 0 (Ap ?_);cases h;exact Wp.ret ⟨.inr rfl,BJ (by kernel_rfl)⟩
def yU (x:Page):List TV:=[.int .i64 x.Kind,.int .i64 x.Seq,.int .i64 x.Tx,.int .i64 x.Part,.int .i64 x.Count,.str x.Text]
theorem k52:∀x,(yU x).length=6:=fun _=>rfl
def aR (b:Int) (c:Int) (a:List Dk) (z1:List ByteArray) (z2:Int):St:=AG [(0,(I b)),(1,(I c)),(2,(.one (.sl false 99 4 (Ah Ni a)))),(8,(.one (.sl true 52 6 (Ah yU [])))),(9,(.one (.sl true 9 1 (Ah c9 z1)))),(10,(I z2))] []
def aQ (a:Int) (b:Int) (z3:List ByteArray):St:=AG [(0,(I a)),(1,(I b)),(8,(.one (.sl true 52 6 (Ah yU [])))),(9,(.one (.sl true 9 1 (Ah c9 z3))))] []
def aP (a:Int) (b:Int) (v2:List ByteArray) (z4:Bool):St:=AG [(0,(I a)),(1,(I b)),(8,(.one (.sl true 52 6 (Ah yU [])))),(9,(.one (.sl true 9 1 (Ah c9 v2)))),(76,(B z4))] []
def aO (a:Int) (b:Int) (v2:List ByteArray) (z5:List Page) (z6:Int):St:=AG [(0,(I a)),(1,(I b)),(9,(.one (.sl true 9 1 (Ah c9 v2)))),(14,(.one (.sl true 52 6 (Ah yU z5)))),(15,(I z6))] []
def aN (z7:List Page):St:=AG [(14,(.one (.sl true 52 6 (Ah yU z7))))] []
theorem gV (b:Int) (f:Int) (d:List Dk) (r:List Page×Bool) (h:LF b f d=some r):Be Tryz.prog 131 [.sv (I b),.sv (I f),.sv (.one (.sl false 99 4 (Ah Ni d)))] (.tup [(.one (.sl true 52 6 (Ah yU r.1))),(B r.2)]) (List.replicate 3 .gone):=by
 unfold LF at h;refine gk Tryz.func131 rfl Tryz.ntmps131 (ws (Ab 2 0 (RW.nil (ws (Ab 2 2 (RW.nil (ws (Ab 2 2 (RW.nil (Wp.seq (ws (Ab 1 0 (RW.nil ?_)))))))))))));refine Fk h [0,1,2,8,9,10] [] (fun s=>(aR b f d s.1 s.2)) [0,1,8,9] [] (fun s=>(aQ b f s)) A4 ?_ ?_
 ·rintro⟨e,i⟩ o (h:GD d e i=some o) hk1;unfold GD at h;refine Wp.seq (ws (Ab 2 0 (RW.q (D5 Ww d) (Ab 1 0 (RW.nil (wc h (fun h=>?_) (fun h=>?_)))))))
  ·refine Wp.skip (Wp.seq (Wp.block (ws (Ab 2 0 (bd h fun x1 gx1 h=>RW.q (Cq Ww gx1) (RW.q (Si Ww gx1 0 4) (RW.c 0 h (g9 _) (fun v1 gv1 h=>Ab 5 1 (RW.nil (Wp.seq (ws (Ab 2 0 ?_))))))))))));refine RW.nil (wc h (fun h=>?_) (fun h=>?_))
   ·refine ws (Ab 3 2 (RW.nil ?_));cases h;replace h:some _=some _:=hk1 _ rfl;cases h;exact Wp.ret ⟨.inr rfl,BJ (by kernel_rfl)⟩
   refine Wp.skip (ws (Ab 1 0 (RW.q (D5 k9 e) (Ab 2 0 (RW.nil (ws (Ab 2 0 (bd h fun x2 gx2 h=>RW.q (Cq k9 gx2) (RW.q (CN k9 gx2 0) (Ab 5 0 (RW.nil (wc h (fun h=>?_) (fun h=>?_)))))))))))))
   ·refine Ax (Ab 3 0 (bd h fun q1 gq1 h=>Dl (EQ k9 (fun _=>rfl) e gq1) (Ab 1 1 (RW.nil (Ax (Ab 3 0 (RW.nil ?_)))))));cases h;exact⟨_,rfl,A4⟩
   refine Ax (Ab 4 0 (bd h fun x3 gx3 h=>RW.q (Cq k9 gx3) (RW.q (CN k9 gx3 0) (Ab 1 0 (bd h fun x4 gx4 h=>RW.q (Qg gx4) (bd h fun x5 gx5 h=>RW.q (Cq k9 gx5) (Dl (Ow k9 gx5 0 0 x4) (RW.nil (Ax (Ab 3 0 ?_))))))))));refine RW.nil ?_;cases h;exact⟨_,rfl,A4⟩
  refine Wp.exit ?_;cases h;exact⟨_,rfl,A4⟩
 intro v2 h E hE;refine AE hE (Wp.seq (Wp.seq (B3 h [0,1,8,9,76] [] (fun a=>(aP b f v2 a)) ?_ ?_)))
 ·intro a h;refine Ax (Ab 1 0 (RW.q (D5 k9 v2) (Ab 2 0 (Ba 63 h (fun h=>?_) (fun h=>?_)))))
  ·refine Ab 13 0 (RW.nil ?_);cases h;exact⟨_,rfl,A4⟩
  refine Ab 2 0 (RW.q (D5 k9 v2) (Ab 2 0 (RW.c 0 h (BN _ _ _) (fun v3 gv3 h=>Ab 3 0 (Ba 72 h (fun h=>?_) (fun h=>?_))))))
  ·refine Ab 4 0 (RW.nil ?_);cases h;exact⟨_,rfl,A4⟩
  refine Ab 1 0 (RW.c 0 h (BN _ _ _) (fun v4 gv4 h=>Ab 2 0 (RW.nil ?_)));cases h;exact⟨_,rfl,A4⟩
 intro j1 h E hE;refine AE hE (wc h (fun h=>?_) (fun h=>?_))
 ·refine ws (Ab 3 2 (RW.nil ?_));cases h;exact Wp.ret ⟨.inr rfl,BJ (by kernel_rfl)⟩
 refine Wp.skip (ws (Ab 2 2 (RW.nil (Wp.seq (ws (Ab 1 0 (RW.nil (BO h [0,1,9,14,15] [] (fun s=>(aO b f v2 s.1 s.2)) [14] [] (fun s=>(aN s)) A4 ?_ ?_))))))))
 ·rintro⟨g,j⟩ o (h:GC b f v2 g j=some o);unfold GC at h;refine Wp.seq (ws (Ab 2 0 (RW.q (D5 k9 v2) (Ab 1 0 (RW.nil (wc h (fun h=>?_) (fun h=>?_)))))))
  ·refine Wp.skip (Wp.seq (Wp.block (Ax (Ab 7 0 (RW.q (D5 k9 v2) (Ab 2 0 (bd h fun x6 gx6 h=>RW.q (Cq k9 gx6) (RW.q (CN k9 gx6 0) (Ab 2 0 (bd h fun q2 gq2 h=>Dl (EQ k52 (fun _=>rfl) g gq2) (Ab 1 1 ?_)))))))))));refine RW.nil (Ax (Ab 3 0 (RW.nil ?_)));cases h;exact⟨_,rfl,A4⟩
  refine Wp.exit ?_;cases h;exact⟨_,rfl,A4⟩
 intro v5 h E hE;refine AE hE (ws (Ab 3 2 (RW.nil ?_)));cases h;exact Wp.ret ⟨.inr rfl,BJ (by kernel_rfl)⟩
def TM (xD:AM) (a:List Dk) (z1:List BI) (z2:Int) (z3:Bool) (z4:List Block):St:=AG [(1,(.one (.sl false 99 4 (Ah Ni a)))),(3,(.one (.ptr (.box 3) 0 [] 0))),(8,(.one (.sl true 203 4 (Ah CY z1)))),(9,(.one (.ptr (.box 9) 0 [] 0))),(10,(I z2)),(11,(B z3))] [(.box 3,[.sl false 77 3 (Ah (Cs false) xD.Flash.Blocks),.sl false 39 2 (Ah CD xD.Store.Vols),.sl false 150 2 (Ah (AN false) xD.Store.Arena.Knots),.int .i64 xD.Store.Next,.int .i64 xD.Seq,.int .i64 xD.Tx,.int .i64 xD.Base]),(.box 9,[.sl false 77 3 (Ah (Cs false) z4)])]
def TL (xD:AM) (a:List Dk) (z5:List BI) (z6:Bool) (z7:List Block):St:=AG [(1,(.one (.sl false 99 4 (Ah Ni a)))),(3,(.one (.ptr (.box 3) 0 [] 0))),(8,(.one (.sl true 203 4 (Ah CY z5)))),(9,(.one (.ptr (.box 9) 0 [] 0))),(10,(I xD.Seq)),(11,(B z6))] [(.box 3,[.sl false 77 3 (Ah (Cs false) xD.Flash.Blocks),.sl false 39 2 (Ah CD xD.Store.Vols),.sl false 150 2 (Ah (AN false) xD.Store.Arena.Knots),.int .i64 xD.Store.Next,.int .i64 xD.Seq,.int .i64 xD.Tx,.int .i64 xD.Base]),(.box 9,[.sl false 77 3 (Ah (Cs false) z7)])]
def TK (v2:List Page×Bool) (z8:List BI) (z9:Bool) (z10:Int) (z11:List Block):St:=AG [(8,(.one (.sl true 203 4 (Ah CY z8)))),(9,(.one (.ptr (.box 9) 0 [] 0))),(11,(B z9)),(12,(.one (.sl true 52 6 (Ah yU v2.1)))),(13,(B v2.2)),(14,(I z10))] [(.box 9,[.sl false 77 3 (Ah (Cs false) z11)])]
def TJ (v2:List Page×Bool) (z12:List BI) (z13:Bool):St:=AG [(8,(.one (.sl true 203 4 (Ah CY z12)))),(11,(B z13)),(13,(B v2.2))] []
def TH (v2:List Page×Bool) (a:List BI) (b:Bool) (d:Int) (c:List Block) (z14:Bool):St:=AG [(8,(.one (.sl true 203 4 (Ah CY a)))),(9,(.one (.ptr (.box 9) 0 [] 0))),(11,(B b)),(12,(.one (.sl true 52 6 (Ah yU v2.1)))),(13,(B v2.2)),(14,(I d)),(59,(B z14))] [(.box 9,[.sl false 77 3 (Ah (Cs false) c)])]
def TG (v2:List Page×Bool) (a:Int) (z15:List BI) (z16:Bool) (z17:List Block):St:=AG [(8,(.one (.sl true 203 4 (Ah CY z15)))),(9,(.one (.ptr (.box 9) 0 [] 0))),(11,(B z16)),(12,(.one (.sl true 52 6 (Ah yU v2.1)))),(13,(B v2.2)),(14,(I a))] [(.box 9,[.sl false 77 3 (Ah (Cs false) z17)])]
def TF (v4:List BI×Bool) (z18:Bool):St:=AG [(8,(.one (.sl true 203 4 (Ah CY v4.1)))),(78,(B z18))] []
set_option maxHeartbeats 4000000 in
theorem Pb (xD:AM) (b:List Dk) (e:ByteArray) (r:List BI×Bool) (h:Eh xD b e=some r):Be Tryz.prog 100 [.sv (.agg [.sl false 77 3 (Ah (Cs false) xD.Flash.Blocks),.sl false 39 2 (Ah CD xD.Store.Vols),.sl false 150 2 (Ah (AN false) xD.Store.Arena.Knots),.int .i64 xD.Store.Next,.int .i64 xD.Seq,.int .i64 xD.Tx,.int .i64 xD.Base]),.sv (.one (.sl false 99 4 (Ah Ni b))),.sv (Y e)] (.tup [(.one (.sl true 203 4 (Ah CY r.1))),(B r.2)]) (List.replicate 3 .gone):=by
 unfold Eh at h;refine gk Tryz.func100 rfl Tryz.ntmps100 (ws (Ab 3 0 (RW.nil (ws (Ab 2 2 (RW.nil (Wp.seq (ws (Ab 1 0 (RW.q (D5 Ww b) (Ab 1 0 (RW.nil (wc h (fun h=>?_) (fun h=>?_))))))))))))))
 ·refine ws (Ab 3 2 (RW.nil ?_));cases h;exact Wp.ret ⟨.inr rfl,BJ (by kernel_rfl)⟩
 refine Wp.skip (ws (Ab 4 0 (RW.nil (ws (Ab 3 0 (RW.nil (ws (Ab 1 0 (RW.nil (Wp.seq (ws (Ab 2 0 (RW.nil ?_)))))))))))));refine B3 h [1,3,8,9,10,11] [.box 3,.box 9] (fun a=>(TM xD b a.1 a.2.1 a.2.2.1 a.2.2.2)) ?_ ?_
 ·intro a h;refine wc h (fun h=>?_) (fun h=>?_)
  ·refine Wp.seq (B3 h [1,3,8,9,10,11] [.box 3,.box 9] (fun a=>(TL xD b a.1 a.2.1 a.2.2)) ?_ ?_)
   ·intro a h;refine EL [12,17] mixed (fun c E h=>by rcases h with⟨h|h,_⟩<;>cases h) (AD [0,1,2,3,4] 0 (KW.q 5 (D5 Ww b) (AD [6] 0 (bd h fun x1 gx1 h=>KW.q 7 (Cq Ww gx1) (KW.q 8 (DD Ww gx1 0 3) (KW.q 9 (CN Ww gx1 3) (AD [10,11] 0 (BT 12 (KB.c 2 h (Qz _ _ _) (fun v1 gv1 h=>AD [13] 1 (Hl 14 15 16 ?_ ?_ ?_)))))))))))
    ·refine KB.o false (Hl 15 16 17 ?_ ?_ ?_)
     ·refine KB.o false (Bi 16 17 ?_ ?_)
      ·refine KB.o false (AD [17,18,19] 2 (Ap ?_));cases h;exact⟨_,rfl,A4⟩
      refine KB.o false (Bi 16 18 ?_ ?_)
      ·refine KB.o false (AD [18,19] 1 (Ap ?_));cases h;exact⟨_,rfl,A4⟩
      refine KB.o true (AD [16,19] 0 (Ap ?_));cases h;exact⟨_,rfl,A4⟩
     ·refine KB.o false (Bi 15 17 ?_ ?_)
      ·refine KB.o false (AD [17,18,19] 2 (Ap ?_));cases h;exact⟨_,rfl,A4⟩
      refine KB.o false (AD [15,18,19] 2 (Ap ?_));cases h;exact⟨_,rfl,A4⟩
     refine KB.o false (Bi 15 16 ?_ ?_)
     ·refine KB.o false (Bi 16 18 ?_ ?_)
      ·refine KB.o false (AD [18,19] 1 (Ap ?_));cases h;exact⟨_,rfl,A4⟩
      refine KB.o true (AD [16,19] 0 (Ap ?_));cases h;exact⟨_,rfl,A4⟩
     refine KB.o false (AD [15,18,19] 2 (Ap ?_));cases h;exact⟨_,rfl,A4⟩
    ·refine KB.o false (Bi 14 16 ?_ ?_)
     ·refine KB.o false (Bi 16 17 ?_ ?_)
      ·refine KB.o false (AD [17,18,19] 2 (Ap ?_));cases h;exact⟨_,rfl,A4⟩
      refine KB.o false (Bi 16 18 ?_ ?_)
      ·refine KB.o false (AD [18,19] 1 (Ap ?_));cases h;exact⟨_,rfl,A4⟩
      refine KB.o true (AD [16,19] 0 (Ap ?_));cases h;exact⟨_,rfl,A4⟩
     refine KB.o false (AD [14,17,18,19] 4 (Ap ?_));cases h;exact⟨_,rfl,A4⟩
    refine KB.o false (Bi 14 15 ?_ ?_)
    ·refine KB.o false (Bi 15 17 ?_ ?_)
     ·refine KB.o false (AD [17,18,19] 2 (Ap ?_));cases h;exact⟨_,rfl,A4⟩
     refine KB.o false (AD [15,18,19] 2 (Ap ?_));cases h;exact⟨_,rfl,A4⟩
    refine KB.o false (AD [14,17,18,19] 4 (Ap ?_));cases h;exact⟨_,rfl,A4⟩
   intro j2 h E hE;refine AE hE (Ax (Ab 3 0 (RW.nil ?_)));cases h;exact⟨_,rfl,A4⟩
  refine Wp.skip ?_;cases h;exact⟨_,rfl,A4⟩
 intro j1 h E hE;refine AE hE (ws (Ab 4 0 (RW.c 0 h (gV _ _ _) (fun v2 gv2 h=>Ab 5 9 (RW.nil (Wp.seq (ws (Ab 1 0 (RW.nil (BO h [8,9,11,12,13,14] [.box 9] (fun s=>(TK v2 s.1 s.2.1 s.2.2.1 s.2.2.2)) [8,11,13] [] (fun s=>(TJ v2 s.1 s.2)) A4 ?_ ?_))))))))))
 ·rintro⟨d,f,i,g⟩ o (h:Ew v2 d f i g=some o);unfold Ew at h;refine Wp.seq (Wp.seq (B3 h [8,9,11,12,13,14,59] [.box 9] (fun a=>(TH v2 d f i g a)) ?_ ?_))
  ·intro a h;refine Ax (Ab 2 0 (RW.q (D5 k52 v2.1) (Ab 2 0 (Ba 57 h (fun h=>?_) (fun h=>?_)))))
   ·refine Ab 2 0 (RW.nil ?_);cases h;exact⟨_,rfl,A4⟩
   refine Ab 2 0 (RW.nil ?_);cases h;exact⟨_,rfl,A4⟩
  intro j3 h E hE;refine AE hE (wc h (fun h=>?_) (fun h=>?_))
  ·refine Wp.skip (Wp.seq (Wp.block (B3 h [8,9,11,12,13,14] [.box 9] (fun a=>(TG v2 i a.1 a.2.1 a.2.2)) ?_ ?_)))
   ·intro a h;refine EL [6,11] mixed (fun c E h=>by rcases h with⟨h|h,_⟩<;>cases h) (AD [0,1,2,3] 0 (bd h fun x2 gx2 h=>KW.q 4 (Cq k52 gx2) (KW.q 5 (Si k52 gx2 0 6) (BT 6 (KB.c 2 h (Qz _ _ _) (fun v3 gv3 h=>AD [7] 1 (Hl 8 9 10 ?_ ?_ ?_)))))))
    ·refine KB.o false (Hl 9 10 11 ?_ ?_ ?_)
     ·refine KB.o false (Bi 10 11 ?_ ?_)
      ·refine KB.o false (AD [11,12,13] 2 (Ap ?_));cases h;exact⟨_,rfl,A4⟩
      refine KB.o false (Bi 10 12 ?_ ?_)
      ·refine KB.o false (AD [12,13] 1 (Ap ?_));cases h;exact⟨_,rfl,A4⟩
      refine KB.o true (AD [10,13] 0 (Ap ?_));cases h;exact⟨_,rfl,A4⟩
     ·refine KB.o false (Bi 9 11 ?_ ?_)
      ·refine KB.o false (AD [11,12,13] 2 (Ap ?_));cases h;exact⟨_,rfl,A4⟩
      refine KB.o false (AD [9,12,13] 2 (Ap ?_));cases h;exact⟨_,rfl,A4⟩
     refine KB.o false (Bi 9 10 ?_ ?_)
     ·refine KB.o false (Bi 10 12 ?_ ?_)
      ·refine KB.o false (AD [12,13] 1 (Ap ?_));cases h;exact⟨_,rfl,A4⟩
      refine KB.o true (AD [10,13] 0 (Ap ?_));cases h;exact⟨_,rfl,A4⟩
     refine KB.o false (AD [9,12,13] 2 (Ap ?_));cases h;exact⟨_,rfl,A4⟩
    ·refine KB.o false (Bi 8 10 ?_ ?_)
     ·refine KB.o false (Bi 10 11 ?_ ?_)
      ·refine KB.o false (AD [11,12,13] 2 (Ap ?_));cases h;exact⟨_,rfl,A4⟩
      refine KB.o false (Bi 10 12 ?_ ?_)
      ·refine KB.o false (AD [12,13] 1 (Ap ?_));cases h;exact⟨_,rfl,A4⟩
      refine KB.o true (AD [10,13] 0 (Ap ?_));cases h;exact⟨_,rfl,A4⟩
     refine KB.o false (AD [8,11,12,13] 4 (Ap ?_));cases h;exact⟨_,rfl,A4⟩
    refine KB.o false (Bi 8 9 ?_ ?_)
    ·refine KB.o false (Bi 9 11 ?_ ?_)
     ·refine KB.o false (AD [11,12,13] 2 (Ap ?_));cases h;exact⟨_,rfl,A4⟩
     refine KB.o false (AD [9,12,13] 2 (Ap ?_));cases h;exact⟨_,rfl,A4⟩
    refine KB.o false (AD [8,11,12,13] 4 (Ap ?_));cases h;exact⟨_,rfl,A4⟩
   intro j4 h E hE;refine AE hE (Ax (Ab 3 0 (RW.nil ?_)));cases h;exact⟨_,rfl,A4⟩
  refine Wp.exit ?_;cases h;exact⟨_,rfl,A4⟩
 intro v4 h E hE;refine AE hE (Wp.seq (Wp.seq (B3 h [8,78] [] (fun a=>(TF v4 a)) ?_ ?_)))
 ·intro a h;refine Ax (Ab 3 0 (Ba 75 h (fun h=>?_) (fun h=>?_)))
  ·refine Ab 3 0 (RW.nil ?_);cases h;exact⟨_,rfl,A4⟩
  refine Ab 3 0 (RW.nil ?_);cases h;exact⟨_,rfl,A4⟩
 intro j5 h E hE;refine AE hE (wc h (fun h=>?_) (fun h=>?_))
 ·refine ws (Ab 3 2 (RW.nil ?_));cases h;exact Wp.ret ⟨.inr rfl,BJ (by kernel_rfl)⟩
 refine Wp.skip (ws (Ab 3 2 (RW.nil ?_)));cases h;exact Wp.ret ⟨.inr rfl,BJ (by kernel_rfl)⟩
theorem Yp (xD:AM) (r:List BI×Bool) (h:MI xD=some r):Be Tryz.prog 153 [.sv (.agg [.sl false 77 3 (Ah (Cs false) xD.Flash.Blocks),.sl false 39 2 (Ah CD xD.Store.Vols),.sl false 150 2 (Ah (AN false) xD.Store.Arena.Knots),.int .i64 xD.Store.Next,.int .i64 xD.Seq,.int .i64 xD.Tx,.int .i64 xD.Base])] (.tup [(.one (.sl true 203 4 (Ah CY r.1))),(B r.2)]) (List.replicate 1 .gone):=by
 unfold MI at h;refine gk Tryz.func153 rfl Tryz.ntmps153 (ws (Ab 3 0 (RW.nil (Wp.seq (EL [] mixed (fun c E h=>by rcases h with⟨h|h,_⟩<;>cases h) (AD [0,1,2] 0 (BT 3 (KB.c 0 h (c8 _) (fun v1 gv1 h=>BT 4 (KB.c 0 h (gs (ca rfl (ca (co (cs (AA3 _))) rfl)) (Pb _ _ _)) (fun v2 gv2 h=>Ky 5 (Ky 6 (AD [7,8] 0 ?_))) (hc:=(.inr (fun v=>by simp [BE,BL,AR,BB,wE])))))))))))));refine Ap ?_;cases h;exact Wp.ret ⟨.inr rfl,BJ (by kernel_rfl)⟩
def X7 (xD:AM) (v1:List Aq) (v3:List Bool) (v4:List Bool) (z1:Int) (z2:Int) (z3:Int):St:=AG [(1,(.one (.ptr (.box 1) 0 [] 0))),(3,(.one (.sl true 54 8 (Ah Gb v1)))),(5,(.one (.sl true 4 1 (Ah c4 v3)))),(6,(.one (.sl true 4 1 (Ah c4 v4)))),(7,(I z1)),(8,(I z2)),(9,(I z3))] [(.box 1,[.sl false 77 3 (Ah (Cs false) xD.Flash.Blocks),.sl false 39 2 (Ah CD xD.Store.Vols),.sl false 150 2 (Ah (AN false) xD.Store.Arena.Knots),.int .i64 xD.Store.Next,.int .i64 xD.Seq,.int .i64 xD.Tx,.int .i64 xD.Base])]
def X6 (z4:Int):St:=AG [(7,(I z4))] []
def X5 (xD:AM) (v1:List Aq) (v3:List Bool) (v4:List Bool) (b:Int) (a:Int) (c:Int) (v5:Int) (z5:Bool):St:=AG [(1,(.one (.ptr (.box 1) 0 [] 0))),(3,(.one (.sl true 54 8 (Ah Gb v1)))),(5,(.one (.sl true 4 1 (Ah c4 v3)))),(6,(.one (.sl true 4 1 (Ah c4 v4)))),(7,(I b)),(8,(I a)),(9,(I c)),(11,(I v5)),(68,(B z5))] [(.box 1,[.sl false 77 3 (Ah (Cs false) xD.Flash.Blocks),.sl false 39 2 (Ah CD xD.Store.Vols),.sl false 150 2 (Ah (AN false) xD.Store.Arena.Knots),.int .i64 xD.Store.Next,.int .i64 xD.Seq,.int .i64 xD.Tx,.int .i64 xD.Base])]
theorem aL (xD:AM) (r:Int) (h:Mb xD=some r):Be Tryz.prog 154 [.sv (.agg [.sl false 77 3 (Ah (Cs false) xD.Flash.Blocks),.sl false 39 2 (Ah CD xD.Store.Vols),.sl false 150 2 (Ah (AN false) xD.Store.Arena.Knots),.int .i64 xD.Store.Next,.int .i64 xD.Seq,.int .i64 xD.Tx,.int .i64 xD.Base])] (I r) (List.replicate 1 .gone):=by
 unfold Mb at h;refine gk Tryz.func154 rfl Tryz.ntmps154 (ws (Ab 2 0 (RW.nil (ws (Ab 2 0 (RW.c 0 h (F9 _) (fun v1 gv1 h=>Ab 1 1 (RW.nil (ws (Ab 2 0 (RW.c 0 h (JZ _) (fun v2 gv2 h=>Ab 1 1 (RW.nil ?_)))))))))))));refine ws (Ab 4 0 (RW.c 0 h (gs (ca (co (cs (Sn _))) (ca (co (cs (fZ _))) rfl)) (Ip _ _ _)) (fun v3 gv3 h=>Ab 1 1 (RW.nil (ws (Ab 2 0 (RW.c 0 h (gs (ca (co (cs (Sn _))) (ca (co (cs (fZ _))) rfl)) (Ip _ _ _)) (fun v4 gv4 h=>Ab 1 1 (RW.nil (ws (Ab 1 0 (RW.nil (ws ?_)))))) (hc:=(.inr (fun v=>by simp [BE,BL,AR,BB,ns4])))))))) (hc:=(.inr (fun v=>by simp [BE,BL,AR,BB,ns4])))));refine Ab 1 0 (RW.nil (Wp.seq (ws (Ab 1 0 (RW.nil (BO h [1,3,5,6,7,8,9] [.box 1] (fun s=>(X7 xD v1 v3 v4 s.1 s.2.1 s.2.2)) [7] [] (fun s=>(X6 s)) A4 ?_ ?_))))))
 ·rintro⟨d,b,e⟩ o (h:FR xD v1 v3 v4 d b e=some o);unfold FR at h;refine Wp.seq (ws (Ab 4 0 (RW.q (D5 (Fq false) xD.Flash.Blocks) (Ab 1 0 (RW.nil (wc h (fun h=>?_) (fun h=>?_)))))))
  ·refine Wp.skip (Wp.seq (Wp.block (ws (Ab 4 0 (bd h fun x1 gx1 h=>RW.q (Cq (Fq false) gx1) (RW.q (Si (Fq false) gx1 0 3) (Ab 2 0 (RW.nil (ws (Ab 3 0 (RW.c 0 h (gs (ca (co (cs (Sn _))) (ca (co (cs (sh4 _))) rfl)) (PG _ _ _)) (fun v5 gv5 h=>Ab 1 0 ?_) (hc:=(.inr (fun v=>rfl))))))))))))));refine RW.nil (Wp.seq (B3 h [1,3,5,6,7,8,9,11,68] [.box 1] (fun a=>(X5 xD v1 v3 v4 d b e v5 a)) ?_ ?_))
   ·intro a h;refine Ax (Ab 4 0 (Ba 47 h (fun h=>?_) (fun h=>?_)))
    ·refine Ab 1 0 (RW.c 0 h (MY _) (fun v6 gv6 h=>Ab 3 0 (Ba 52 h (fun h=>?_) (fun h=>?_))))
     ·refine Ab 4 0 (RW.c 0 h (gs (ca (co (cs (Sn _))) (ca (co (cs (sh4 _))) rfl)) (PG _ _ _)) (fun v7 gv7 h=>Ab 3 0 (Ba 60 h (fun h=>?_) (fun h=>?_))) (hc:=(.inr (fun v=>rfl))))
      ·refine Ab 4 0 (Ba 64 h (fun h=>?_) (fun h=>?_))
       ·refine Ab 4 0 (RW.nil ?_);cases h;exact⟨_,rfl,A4⟩
       refine Ab 4 0 (RW.nil ?_);cases h;exact⟨_,rfl,A4⟩
      refine Ab 8 0 (RW.nil ?_);cases h;exact⟨_,rfl,A4⟩
     refine Ab 16 0 (RW.nil ?_);cases h;exact⟨_,rfl,A4⟩
    refine Ab 21 0 (RW.nil ?_);cases h;exact⟨_,rfl,A4⟩
   intro j1 h E hE;refine AE hE (wc h (fun h=>?_) (fun h=>?_))
   ·refine ws (Ab 2 0 (RW.nil (Ax (Ab 2 0 (RW.nil (Ax (Ab 3 0 (RW.nil ?_))))))));cases h;exact⟨_,rfl,A4⟩
   refine Wp.skip (Ax (Ab 3 0 (RW.nil ?_)));cases h;exact⟨_,rfl,A4⟩
  refine Wp.exit ?_;cases h;exact⟨_,rfl,A4⟩
 intro v8 h E hE;refine AE hE (ws (Ab 2 0 (RW.nil ?_)));cases h;exact Wp.ret ⟨.inr rfl,BJ (by kernel_rfl)⟩
def VQ (xB:Int) (v1:List Aq) (v3:List Bool) (z1:List BI) (z2:Int) (z3:Int) (z4:List Block):St:=AG [(1,(I xB)),(6,(.one (.sl true 54 8 (Ah Gb v1)))),(7,(.one (.sl true 4 1 (Ah c4 v3)))),(8,(.one (.sl true 203 4 (Ah CY z1)))),(9,(.one (.ptr (.box 9) 0 [] 0))),(10,(I z2)),(11,(I z3))] [(.box 9,[.sl false 77 3 (Ah (Cs false) z4)])]
def VP (z5:List BI):St:=AG [(8,(.one (.sl true 203 4 (Ah CY z5))))] []
def VO (xB:Int) (v1:List Aq) (v3:List Bool) (a:Int) (z6:List BI) (z7:Int) (z8:Int) (z9:List Block):St:=AG [(1,(I xB)),(6,(.one (.sl true 54 8 (Ah Gb v1)))),(7,(.one (.sl true 4 1 (Ah c4 v3)))),(8,(.one (.sl true 203 4 (Ah CY z6)))),(9,(.one (.ptr (.box 9) 0 [] 0))),(10,(I z7)),(11,(I a)),(12,(I z8))] [(.box 9,[.sl false 77 3 (Ah (Cs false) z9)])]
def VN (xB:Int) (v1:List Aq) (v3:List Bool) (a:Int) (z10:List BI) (z11:Int) (z12:List Block):St:=AG [(1,(I xB)),(6,(.one (.sl true 54 8 (Ah Gb v1)))),(7,(.one (.sl true 4 1 (Ah c4 v3)))),(8,(.one (.sl true 203 4 (Ah CY z10)))),(9,(.one (.ptr (.box 9) 0 [] 0))),(10,(I z11)),(11,(I a))] [(.box 9,[.sl false 77 3 (Ah (Cs false) z12)])]
def VM (xB:Int) (v1:List Aq) (v3:List Bool) (b:Int) (a:List BI) (c:Int) (e:Int) (d:List Block) (z13:Bool):St:=AG [(1,(I xB)),(6,(.one (.sl true 54 8 (Ah Gb v1)))),(7,(.one (.sl true 4 1 (Ah c4 v3)))),(8,(.one (.sl true 203 4 (Ah CY a)))),(9,(.one (.ptr (.box 9) 0 [] 0))),(10,(I c)),(11,(I b)),(12,(I e)),(62,(B z13))] [(.box 9,[.sl false 77 3 (Ah (Cs false) d)])]
def VL (xB:Int) (v1:List Aq) (v3:List Bool) (a:Int) (b:Int) (d:Int) (c:List Block) (v4:Flash×List BI×Bool) (z14:Bool):St:=AG [(1,(I xB)),(6,(.one (.sl true 54 8 (Ah Gb v1)))),(7,(.one (.sl true 4 1 (Ah c4 v3)))),(9,(.one (.ptr (.box 9) 0 [] 0))),(10,(I b)),(11,(I a)),(12,(I d)),(14,(.one (.ptr (.box 14) 0 [] 0))),(15,(.one (.sl true 203 4 (Ah CY v4.2.1)))),(90,(B z14))] [(.box 9,[.sl false 77 3 (Ah (Cs false) c)]),(.box 14,[.sl false 77 3 (Ah (Cs false) v4.1.Blocks)])]
theorem XV (xD:AM) (xB:Int) (r:List BI×Bool) (h:IT xD xB=some r):Be Tryz.prog 155 [.sv (.agg [.sl false 77 3 (Ah (Cs false) xD.Flash.Blocks),.sl false 39 2 (Ah CD xD.Store.Vols),.sl false 150 2 (Ah (AN false) xD.Store.Arena.Knots),.int .i64 xD.Store.Next,.int .i64 xD.Seq,.int .i64 xD.Tx,.int .i64 xD.Base]),.sv (I xB)] (.tup [(.one (.sl true 203 4 (Ah CY r.1))),(B r.2)]) (List.replicate 2 .gone):=by
 unfold IT at h;refine gk Tryz.func155 rfl Tryz.ntmps155 (ws (Ab 3 0 (RW.nil (ws (Ab 2 0 (RW.c 0 h (F9 _) (fun v1 gv1 h=>Ab 1 1 (RW.nil (ws (Ab 3 0 (RW.c 0 h (JZ _) (fun v2 gv2 h=>RW.c 0 h (gs (ca (co (cs (Sn _))) (ca (co (cs (fZ _))) rfl)) (Ip _ _ _)) (fun v3 gv3 h=>Ab 1 1 ?_) (hc:=(.inr (fun v=>by simp [BE,BL,AR,BB,ns4])))))))))))))));refine RW.nil (ws (Ab 2 2 (RW.nil (ws (Ab 4 0 (RW.nil (ws (Ab 3 0 (RW.nil (Wp.seq (ws (Ab 1 0 (RW.nil ?_)))))))))))));refine Fk h [1,6,7,8,9,10,11] [.box 9] (fun s=>(VQ xB v1 v3 s.1 s.2.1 s.2.2.1 s.2.2.2)) [8] [] (fun s=>(VP s)) A4 ?_ ?_
 ·rintro⟨f,i,b,k⟩ o (h:Fc xB v1 v3 f i b k=some o) hk1;unfold Fc at h;refine Wp.seq (ws (Ab 2 0 (RW.nil (wc h (fun h=>?_) (fun h=>?_)))))
  ·refine Wp.skip (Wp.seq (Wp.block (ws (Ab 1 0 (RW.nil (Fk h [1,6,7,8,9,10,11,12] [.box 9] (fun s=>(VO xB v1 v3 b s.1 s.2.1 s.2.2.1 s.2.2.2)) [1,6,7,8,9,10,11] [.box 9] (fun s=>(VN xB v1 v3 b s.1 s.2.1 s.2.2)) A4 ?_ ?_))))))
   ·rintro⟨d,e,j,g⟩ o (h:EZ xB v1 v3 b d e j g=some o) hk2;unfold EZ at h;refine Wp.seq (ws (Ab 2 0 (RW.q (D5 DY v1) (Ab 1 0 (RW.nil (wc h (fun h=>?_) (fun h=>?_)))))))
    ·refine Wp.skip (Wp.seq (Wp.block (Wp.seq (Wp.seq (B3 h [1,6,7,8,9,10,11,12,62] [.box 9] (fun a=>(VM xB v1 v3 b d e j g a)) ?_ ?_)))))
     ·intro a h;refine Ax (Ab 2 0 (bd h fun x1 gx1 h=>RW.q (Cq k4 gx1) (RW.q (CN k4 gx1 0) (Ab 2 0 (Ba 45 h (fun h=>?_) (fun h=>?_))))))
      ·refine Ab 17 0 (RW.nil ?_);cases h;exact⟨_,rfl,A4⟩
      refine Ab 2 0 (bd h fun x2 gx2 h=>RW.q (Cq DY gx2) (RW.q (DD DY gx2 0 0) (RW.q (CN DY gx2 0) (Ab 4 0 (Ba 54 h (fun h=>?_) (fun h=>?_))))))
      ·refine Ab 8 0 (RW.nil ?_);cases h;exact⟨_,rfl,A4⟩
      refine Ab 2 0 (bd h fun x3 gx3 h=>RW.q (Cq DY gx3) (RW.q (DD DY gx3 0 1) (RW.q (CN DY gx3 1) (Ab 3 0 (RW.nil ?_)))));cases h;exact⟨_,rfl,A4⟩
     intro j1 h E hE;refine AE hE (wc h (fun h=>?_) (fun h=>?_))
     ·refine Wp.exit (Ax (Ab 3 0 (RW.nil ?_)));cases h;exact⟨_,rfl,A4⟩
     refine Wp.skip (ws (Ab 2 0 (bd h fun x4 gx4 h=>RW.q (Cq DY gx4) (RW.q (DD DY gx4 0 2) (RW.q (Si DY gx4 2 6) (Ab 2 0 (RW.nil (ws (Ab 3 0 (RW.nil (ws (Ab 3 0 ?_))))))))))));refine RW.c 2 h (Qz _ _ _) (fun v4 gv4 h=>Ab 8 65 (RW.nil (Wp.seq (Wp.seq (B3 h [1,6,7,9,10,11,12,14,15,90] [.box 9,.box 14] (fun a=>(VL xB v1 v3 b e j g v4 a)) ?_ ?_)))))
     ·intro a h;refine Ax (Ab 3 0 (Ba 80 h (fun h=>?_) (fun h=>?_)))
      ·refine Ab 10 0 (RW.nil ?_);cases h;exact⟨_,rfl,A4⟩
      refine Ab 2 0 (RW.q (D5 Nb v4.2.1) (Ab 1 0 (bd h fun x5 gx5 h=>RW.q (Cq Nb gx5) (RW.q (DD Nb gx5 0 1) (RW.q (CN Nb gx5 1) (Ab 3 0 (RW.nil ?_)))))));cases h;exact⟨_,rfl,A4⟩
     intro j2 h E hE;refine AE hE (wc h (fun h=>?_) (fun h=>?_))
     ·refine ws (Ab 3 2 (RW.nil ?_));cases h;replace h:some _=some _:=hk2 _ rfl;cases h;replace h:some _=some _:=hk1 _ rfl;cases h;exact Wp.ret ⟨.inr rfl,BJ (by kernel_rfl)⟩
     refine Wp.skip (ws (Ab 2 0 (RW.nil (ws (Ab 2 2 (RW.nil (Ax (Ab 3 0 (RW.nil (Ax (Ab 3 0 (RW.nil ?_))))))))))));cases h;exact⟨_,rfl,A4⟩
    refine Wp.exit ?_;cases h;exact⟨_,rfl,A4⟩
   intro v5 h E hE;refine AE hE (Ax (Ab 3 0 (RW.nil ?_)));cases h;exact⟨_,rfl,A4⟩
  refine Wp.exit ?_;cases h;exact⟨_,rfl,A4⟩
 intro v6 h E hE;refine AE hE (ws (Ab 3 2 (RW.nil ?_)));cases h;exact Wp.ret ⟨.inr rfl,BJ (by kernel_rfl)⟩
theorem cY (xD:AM) (r:List BI×Bool) (h:Ml xD=some r):Be Tryz.prog 129 [.sv (.agg [.sl false 77 3 (Ah (Cs false) xD.Flash.Blocks),.sl false 39 2 (Ah CD xD.Store.Vols),.sl false 150 2 (Ah (AN false) xD.Store.Arena.Knots),.int .i64 xD.Store.Next,.int .i64 xD.Seq,.int .i64 xD.Tx,.int .i64 xD.Base])] (.tup [(.one (.sl true 203 4 (Ah CY r.1))),(B r.2)]) (List.replicate 1 .gone):=by
 unfold Ml at h;refine gk Tryz.func129 rfl Tryz.ntmps129 (ws (Ab 3 0 (RW.nil (ws (Ab 1 0 (RW.c 0 h (VX _) (fun v1 gv1 h=>Ab 1 1 (RW.nil (Wp.seq (ws (Ab 1 0 (RW.q (D5 k3 v1) (Ab 1 0 ?_)))))))))))));refine RW.nil (wc h (fun h=>?_) (fun h=>?_))
 ·refine ws (Ab 1 0 (bd h fun x1 gx1 h=>RW.q (Cq k3 gx1) (RW.q (CN k3 gx1 0) (Ab 4 4 (RW.nil ?_)))));cases h;exact Wp.ret ⟨.inr rfl,BJ (by kernel_rfl)⟩
 refine Wp.skip (Wp.seq (ws (Ab 1 0 (RW.c 0 h (ZW _) (fun v2 gv2 h=>Ab 1 0 (RW.nil (wc h (fun h=>?_) (fun h=>?_))))))))
 ·refine ws (Ab 1 0 (RW.c 0 h (Yp _) (fun v3 gv3 h=>Ab 4 4 (RW.nil ?_))));cases h;exact Wp.ret ⟨.inr rfl,BJ (by kernel_rfl)⟩
 refine Wp.skip (ws (Ab 1 0 (RW.c 0 h (aL _) (fun v4 gv4 h=>Ab 1 0 (RW.nil (Wp.seq (ws (Ab 2 0 (RW.nil (wc h (fun h=>?_) (fun h=>?_)))))))))))
 ·refine ws (Ab 3 2 (RW.nil ?_));cases h;exact Wp.ret ⟨.inr rfl,BJ (by kernel_rfl)⟩
 refine Wp.skip (ws (Ab 2 0 (RW.c 0 h (XV _ _) (fun v5 gv5 h=>Ab 4 4 (RW.nil ?_)))));cases h;exact Wp.ret ⟨.inr rfl,BJ (by kernel_rfl)⟩
def cV (a:List BI) (z1:Int) (z2:List Block):St:=AG [(1,(.one (.sl false 203 4 (Ah CY a)))),(4,(.one (.ptr (.box 4) 0 [] 0))),(6,(.one (.ptr (.box 6) 0 [] 0))),(7,(I z1))] [(.box 4,[.sl true 77 3 (Ah (Cs true) [])]),(.box 6,[.sl true 77 3 (Ah (Cs true) z2)])]
def cU (a:List BI) (z3:List Block):St:=AG [(1,(.one (.sl false 203 4 (Ah CY a)))),(4,(.one (.ptr (.box 4) 0 [] 0))),(6,(.one (.ptr (.box 6) 0 [] 0)))] [(.box 4,[.sl true 77 3 (Ah (Cs true) [])]),(.box 6,[.sl true 77 3 (Ah (Cs true) z3)])]
def cT (b:List BI) (c:Int) (a:List Block) (z4:Bool) (z5:List Block):St:=AG [(1,(.one (.sl false 203 4 (Ah CY b)))),(4,(.one (.ptr (.box 4) 0 [] 0))),(6,(.one (.ptr (.box 6) 0 [] 0))),(7,(I c)),(8,(.one (.ptr (.box 8) 0 [] 0))),(9,(B z4))] [(.box 4,[.sl true 77 3 (Ah (Cs true) [])]),(.box 6,[.sl true 77 3 (Ah (Cs true) a)]),(.box 8,[.sl true 77 3 (Ah (Cs true) z5)])]
theorem iT (xF:Flash) (b:List BI) (r:Flash×Int) (h:Ka xF b=some r):Be Tryz.prog 132 [.sv (.agg [.sl false 77 3 (Ah (Cs false) xF.Blocks)]),.sv (.one (.sl false 203 4 (Ah CY b)))] (.tup [(.agg [.sl true 77 3 (Ah (Cs true) r.1.Blocks)]),(I r.2)]) (List.replicate 2 .gone):=by
 unfold Ka at h;refine gk Tryz.func132 rfl Tryz.ntmps132 (ws (Ab 3 0 (RW.nil (ws (Ab 1 0 (RW.c 0 h (IP _) (fun v1 gv1 h=>Ab 2 0 (RW.nil (Wp.seq (ws (Ab 1 0 (RW.nil (Fk h [1,4,6,7] [.box 4,.box 6] (fun s=>(cV b s.1 s.2)) [1,4,6] [.box 4,.box 6] (fun s=>(cU b s)) A4 ?_ ?_)))))))))))))
 ·rintro⟨e,d⟩ o (h:EH b e d=some o) hk1;unfold EH at h;refine Wp.seq (ws (Ab 2 0 (RW.q (D5 Nb b) (Ab 1 0 (RW.nil (wc h (fun h=>?_) (fun h=>?_)))))))
  ·refine Wp.skip (Wp.seq (Wp.block (Wp.seq (B3 h [1,4,6,7,8,9] [.box 4,.box 6,.box 8] (fun a=>(cT b e d a.1 a.2)) ?_ ?_))))
   ·intro a h;refine EL [10] mixed (fun c E h=>by rcases h with⟨h|h,_⟩<;>cases h) (AD [0,1,2] 0 (bd h fun x1 gx1 h=>KW.q 3 (Cq Nb gx1) (KW.q 4 (Si Nb gx1 0 4) (Bi 5 9 ?_ ?_))))
    ·refine KB.c 0 h (gs (ca (fO (ca (cs (Fw _)) rfl)) rfl) (Q4 _ _)) (fun v2 gv2 h=>Bi 6 9 ?_ ?_) (hc:=(.inr (fun v=>by simp [BE,BL,AR,BB,sQ])))
     ·refine KB.o true (Ky 7 (Bi 8 9 ?_ ?_))
      ·refine KB.o false (AD [9,10,11] 0 (Ap ?_));cases h;exact⟨_,rfl,A4⟩
      refine KB.o false (Bi 8 10 ?_ ?_)
      ·refine KB.o false (AD [10,11] 0 (Ap ?_));cases h;exact⟨_,rfl,A4⟩
      refine KB.o false (AD [8,11] 0 (Ap ?_));cases h;exact⟨_,rfl,A4⟩
     refine KB.o false (AD [6] 1 (Ky 7 (Bi 8 10 ?_ ?_)))
     ·refine KB.o false (AD [10,11] 0 (Ap ?_));cases h;exact⟨_,rfl,A4⟩
     refine KB.o false (AD [8,11] 0 (Ap ?_));cases h;exact⟨_,rfl,A4⟩
    refine KB.o false (BT 5 (KB.c 0 h (gs (ca (fO (ca (cs (Fw _)) rfl)) rfl) (Q4 _ _)) (fun v3 gv3 h=>AD [6] 1 (Ky 7 (Bi 8 10 ?_ ?_))) (hc:=(.inr (fun v=>by simp [BE,BL,AR,BB,sQ])))))
    ·refine KB.o false (AD [10,11] 0 (Ap ?_));cases h;exact⟨_,rfl,A4⟩
    refine KB.o false (AD [8,11] 0 (Ap ?_));cases h;exact⟨_,rfl,A4⟩
   intro j1 h E hE;refine AE hE (Wp.seq (ws (Ab 2 0 (RW.nil (wc h (fun h=>?_) (fun h=>?_))))))
   ·refine ws (Ab 4 0 (RW.nil ?_));cases h;replace h:some _=some _:=hk1 _ rfl;cases h;exact Wp.ret ⟨.inr rfl,BJ (by kernel_rfl)⟩
   refine Wp.skip (Ax (Ab 2 0 (RW.nil (Ax (Ab 3 0 (RW.nil ?_))))));cases h;exact⟨_,rfl,A4⟩
  refine Wp.exit ?_;cases h;exact⟨_,rfl,A4⟩
 intro v4 h E hE;refine AE hE (ws (Ab 2 0 (RW.q (D5 Nb b) (Ab 2 0 (RW.nil ?_)))));cases h;exact Wp.ret ⟨.inr rfl,BJ (by kernel_rfl)⟩
theorem Rl (xD:AM) (a:List BI) (r:AM) (h:GH xD a=some r):Be Tryz.prog 101 [.sv (.agg [.sl false 77 3 (Ah (Cs false) xD.Flash.Blocks),.sl false 39 2 (Ah CD xD.Store.Vols),.sl false 150 2 (Ah (AN false) xD.Store.Arena.Knots),.int .i64 xD.Store.Next,.int .i64 xD.Seq,.int .i64 xD.Tx,.int .i64 xD.Base]),.sv (.one (.sl false 203 4 (Ah CY a)))] (.agg [.sl true 77 3 (Ah (Cs true) r.Flash.Blocks),.sl true 39 2 (Ah CD r.Store.Vols),.sl true 150 2 (Ah (AN true) r.Store.Arena.Knots),.int .i64 r.Store.Next,.int .i64 r.Seq,.int .i64 r.Tx,.int .i64 r.Base]) (List.replicate 2 .gone):=by
 unfold GH at h;refine gk Tryz.func101 rfl Tryz.ntmps101 (ws (Ab 2 0 (RW.nil (ws (Ab 3 0 (RW.c 0 h (iT _ _) (fun v1 gv1 h=>Ab 6 1 (RW.nil (ws (Ab 1 0 (RW.c 0 h (gs (ca (fO (ca (cs (Fw _)) rfl)) rfl) (NZ _)) (fun v2 gv2 h=>Ab 6 1 (RW.nil ?_)) (hc:=(.inr (fun v=>by simp [BE,BL,AR,BB,Yw,sQ,Lk]))))))))))))));refine ws (Ab 2 0 (RW.nil ?_));cases h;exact Wp.ret ⟨.inr rfl,BJ (by kernel_rfl)⟩
def Yo (a:Int) (z1:List BI) (z2:Int) (z3:List Block) (z4:List Vol) (z5:List BX) (z6:Int) (z7:Int) (z8:Int) (z9:Int):St:=AG [(1,(I a)),(4,(.one (.ptr (.box 4) 0 [] 0))),(6,(.one (.ptr (.box 6) 0 [] 0))),(7,(.one (.sl true 203 4 (Ah CY z1)))),(8,(I z2))] [(.box 4,[.sl true 77 3 (Ah (Cs true) []),.sl true 39 2 (Ah CD []),.sl true 150 2 (Ah (AN true) []),.int .i64 0,.int .i64 0,.int .i64 0,.int .i64 0]),(.box 6,[.sl true 77 3 (Ah (Cs true) z3),.sl true 39 2 (Ah CD z4),.sl true 150 2 (Ah (AN true) z5),.int .i64 z6,.int .i64 z7,.int .i64 z8,.int .i64 z9])]
def Yn (z10:List BI) (z11:List Block) (z12:List Vol) (z13:List BX) (z14:Int) (z15:Int) (z16:Int) (z17:Int):St:=AG [(4,(.one (.ptr (.box 4) 0 [] 0))),(6,(.one (.ptr (.box 6) 0 [] 0))),(7,(.one (.sl true 203 4 (Ah CY z10))))] [(.box 4,[.sl true 77 3 (Ah (Cs true) []),.sl true 39 2 (Ah CD []),.sl true 150 2 (Ah (AN true) []),.int .i64 0,.int .i64 0,.int .i64 0,.int .i64 0]),(.box 6,[.sl true 77 3 (Ah (Cs true) z11),.sl true 39 2 (Ah CD z12),.sl true 150 2 (Ah (AN true) z13),.int .i64 z14,.int .i64 z15,.int .i64 z16,.int .i64 z17])]
def Ym (h:Int) (i:List BI) (j:Int) (a:List Block) (b:List Vol) (c:List BX) (d:Int) (e:Int) (f:Int) (g:Int) (z18:Bool):St:=AG [(1,(I h)),(4,(.one (.ptr (.box 4) 0 [] 0))),(6,(.one (.ptr (.box 6) 0 [] 0))),(7,(.one (.sl true 203 4 (Ah CY i)))),(8,(I j)),(26,(B z18))] [(.box 4,[.sl true 77 3 (Ah (Cs true) []),.sl true 39 2 (Ah CD []),.sl true 150 2 (Ah (AN true) []),.int .i64 0,.int .i64 0,.int .i64 0,.int .i64 0]),(.box 6,[.sl true 77 3 (Ah (Cs true) a),.sl true 39 2 (Ah CD b),.sl true 150 2 (Ah (AN true) c),.int .i64 d,.int .i64 e,.int .i64 f,.int .i64 g])]
theorem cZ (xD:AM) (b:Int) (r:AM×List BI) (h:Kb xD b=some r):Be Tryz.prog 99 [.sv (.agg [.sl false 77 3 (Ah (Cs false) xD.Flash.Blocks),.sl false 39 2 (Ah CD xD.Store.Vols),.sl false 150 2 (Ah (AN false) xD.Store.Arena.Knots),.int .i64 xD.Store.Next,.int .i64 xD.Seq,.int .i64 xD.Tx,.int .i64 xD.Base]),.sv (I b)] (.tup [(.agg [.sl true 77 3 (Ah (Cs true) r.1.Flash.Blocks),.sl true 39 2 (Ah CD r.1.Store.Vols),.sl true 150 2 (Ah (AN true) r.1.Store.Arena.Knots),.int .i64 r.1.Store.Next,.int .i64 r.1.Seq,.int .i64 r.1.Tx,.int .i64 r.1.Base]),(.one (.sl true 203 4 (Ah CY r.2)))]) (List.replicate 2 .gone):=by
 unfold Kb at h;refine gk Tryz.func99 rfl Tryz.ntmps99 (ws (Ab 3 0 (RW.nil (ws (Ab 1 0 (RW.c 0 h (SY _) (fun v1 gv1 h=>Ab 2 0 (RW.nil (ws (Ab 2 2 (RW.nil (Wp.seq (ws ?_)))))))))))));refine Ab 1 0 (RW.nil (Fk h [1,4,6,7,8] [.box 4,.box 6] (fun s=>(Yo b s.1 s.2.1 s.2.2.1 s.2.2.2.1 s.2.2.2.2.1 s.2.2.2.2.2.1 s.2.2.2.2.2.2.1 s.2.2.2.2.2.2.2.1 s.2.2.2.2.2.2.2.2)) [4,6,7] [.box 4,.box 6] (fun s=>(Yn s.1 s.2.1 s.2.2.1 s.2.2.2.1 s.2.2.2.2.1 s.2.2.2.2.2.1 s.2.2.2.2.2.2.1 s.2.2.2.2.2.2.2)) A4 ?_ ?_))
 ·rintro⟨d,m,e,f,g,i,j,k,l⟩ o (h:FW b d m e f g i j k l=some o) hk1;unfold FW at h;refine Wp.seq (Wp.seq (B3 h [1,4,6,7,8,26] [.box 4,.box 6] (fun a=>(Ym b d m e f g i j k l a)) ?_ ?_))
  ·intro a h;refine Ax (Ab 4 0 (Ba 17 h (fun h=>?_) (fun h=>?_)))
   ·refine Ab 4 0 (Ba 21 h (fun h=>?_) (fun h=>?_))
    ·refine Ab 2 0 (RW.c 0 h (gs (ca (fO (ca (cs (Fw _)) rfl)) rfl) (Q3 _)) (fun v2 gv2 h=>Ab 2 0 (RW.nil ?_)) (hc:=(.inr (fun v=>rfl))));cases h;exact⟨_,rfl,A4⟩
    refine Ab 5 0 (RW.nil ?_);cases h;exact⟨_,rfl,A4⟩
   refine Ab 9 0 (RW.nil ?_);cases h;exact⟨_,rfl,A4⟩
  intro j1 h E hE;refine AE hE (wc h (fun h=>?_) (fun h=>?_))
  ·refine Wp.skip (Wp.seq (Wp.block (ws (Ab 1 0 (RW.c 0 h (gs (ca (fO (ca (cs (Fw _)) (ca (cs (Fx _)) (ca (cs (Dj _)) rfl)))) rfl) (cY _)) (fun v3 gv3 h=>Ab 5 9 (RW.nil (Wp.seq (ws (Ab 2 0 (RW.nil (wc h (fun h=>?_) (fun h=>?_)))))))) (hc:=(.inr (fun v=>by simp [BE,BL,AR,BB,wE]))))))))
   ·refine ws (Ab 4 8 (RW.nil ?_));cases h;replace h:some _=some _:=hk1 _ rfl;cases h;exact Wp.ret ⟨.inr rfl,BJ (by kernel_rfl)⟩
   refine Wp.skip (ws (Ab 2 0 (RW.c 0 h (gs (ca (fO (ca (cs (Fw _)) (ca (cs (Fx _)) (ca (cs (Dj _)) rfl)))) (ca (co (cs (AAF _))) rfl)) (Rl _ _)) (fun v4 gv4 h=>Ab 1 0 (RW.nil (Ax (Ab 2 0 (bd h fun q1 gq1 h=>Dl (EQ Nb (fun _=>rfl) d gq1) (Ab 1 1 (RW.nil (Ax (Ab 3 0 ?_))))))))) (hc:=(.inr (fun v=>by simp [BE,BL,AR,BB,Yw,sQ,Lk]))))));refine RW.nil ?_;cases h;exact⟨_,rfl,A4⟩
  refine Wp.exit ?_;cases h;exact⟨_,rfl,A4⟩
 intro v5 h E hE;refine AE hE (ws (Ab 4 8 (RW.nil ?_)));cases h;exact Wp.ret ⟨.inr rfl,BJ (by kernel_rfl)⟩
def mV (xQ:Xe) (z1:List BI) (z2:List Block) (z3:List Vol) (z4:List BX) (z5:Int) (z6:Int) (z7:Int) (z8:Int):St:=AG [(3,(.one (.ptr (.box 3) 0 [] 0))),(4,(.one (.ptr (.box 4) 0 [] 0))),(8,(.one (.ptr (.box 8) 0 [] 0))),(15,(.one (.sl true 203 4 (Ah CY z1))))] [(.box 3,[.int .i64 xQ.Kind,.int .i64 xQ.Vol,.int .i64 xQ.Sector,.int .i64 xQ.Of,.str xQ.Text]),(.box 4,[.sl true 77 3 (Ah (Cs true) []),.sl true 39 2 (Ah CD []),.sl true 150 2 (Ah (AN true) []),.int .i64 0,.int .i64 0,.int .i64 0,.int .i64 0]),(.box 8,[.sl true 77 3 (Ah (Cs true) z2),.sl true 39 2 (Ah CD z3),.sl true 150 2 (Ah (AN true) z4),.int .i64 z5,.int .i64 z6,.int .i64 z7,.int .i64 z8])]
def mU (j1:List BI×List Block×List Vol×List BX×Int×Int×Int×Int) (v8:List BI×Bool) (z9:Bool):St:=AG [(4,(.one (.ptr (.box 4) 0 [] 0))),(8,(.one (.ptr (.box 8) 0 [] 0))),(15,(.one (.sl true 203 4 (Ah CY j1.1)))),(19,(.one (.sl true 203 4 (Ah CY v8.1)))),(91,(B z9))] [(.box 4,[.sl true 77 3 (Ah (Cs true) []),.sl true 39 2 (Ah CD []),.sl true 150 2 (Ah (AN true) []),.int .i64 0,.int .i64 0,.int .i64 0,.int .i64 0]),(.box 8,[.sl true 77 3 (Ah (Cs true) j1.2.1),.sl true 39 2 (Ah CD j1.2.2.1),.sl true 150 2 (Ah (AN true) j1.2.2.2.1),.int .i64 j1.2.2.2.2.1,.int .i64 j1.2.2.2.2.2.1,.int .i64 j1.2.2.2.2.2.2.1,.int .i64 j1.2.2.2.2.2.2.2])]
set_option maxHeartbeats 4000000 in
theorem Zb (xD:AM) (xQ:Xe) (r:AM×List BI×ByteArray×Int) (h:Rm xD xQ=some r):Be Tryz.prog 60 [.sv (.agg [.sl false 77 3 (Ah (Cs false) xD.Flash.Blocks),.sl false 39 2 (Ah CD xD.Store.Vols),.sl false 150 2 (Ah (AN false) xD.Store.Arena.Knots),.int .i64 xD.Store.Next,.int .i64 xD.Seq,.int .i64 xD.Tx,.int .i64 xD.Base]),.sv (.agg [.int .i64 xQ.Kind,.int .i64 xQ.Vol,.int .i64 xQ.Sector,.int .i64 xQ.Of,.str xQ.Text])] (.tup [(.agg [.sl true 77 3 (Ah (Cs true) r.1.Flash.Blocks),.sl true 39 2 (Ah CD r.1.Store.Vols),.sl true 150 2 (Ah (AN true) r.1.Store.Arena.Knots),.int .i64 r.1.Store.Next,.int .i64 r.1.Seq,.int .i64 r.1.Tx,.int .i64 r.1.Base]),(.one (.sl true 203 4 (Ah CY r.2.1))),(Y r.2.2.1),(I r.2.2.2)]) (List.replicate 2 .gone):=by
 unfold Rm at h;refine gk Tryz.func60 rfl Tryz.ntmps60 (ws (Ab 6 0 (RW.nil (ws (Ab 1 0 (RW.c 0 h (SY _) (fun v1 gv1 h=>Ab 2 0 (RW.nil (ws (Ab 2 2 (RW.nil (Wp.seq (ws ?_)))))))))))));refine Ab 1 0 (RW.c 0 h (cW _) (fun v2 gv2 h=>Ab 1 0 (RW.nil (wc h (fun h=>?_) (fun h=>?_)))))
 ·refine ws (Ab 6 8 (RW.nil ?_));cases h;exact Wp.ret ⟨.inr rfl,BJ (by kernel_rfl)⟩
 refine Wp.skip (ws (Ab 2 0 (RW.c 0 h (VC _ _) (fun v3 gv3 h=>Ab 7 17 (RW.nil (Wp.seq (ws (Ab 2 0 (RW.nil (wc h (fun h=>?_) (fun h=>?_)))))))))))
 ·refine ws (Ab 7 16 (RW.nil ?_));cases h;exact Wp.ret ⟨.inr rfl,BJ (by kernel_rfl)⟩
 refine Wp.skip (Wp.seq (ws (Ab 3 0 (RW.nil (wc h (fun h=>?_) (fun h=>?_))))))
 ·refine ws (Ab 5 0 (RW.c 0 h (mZ _ _ _) (fun v4 gv4 h=>Ab 5 1 (RW.nil (Wp.seq (ws (Ab 2 0 (RW.nil (wc h (fun h=>?_) (fun h=>?_))))))))))
  ·refine ws (Ab 6 8 (RW.nil ?_));cases h;exact Wp.ret ⟨.inr rfl,BJ (by kernel_rfl)⟩
  refine Wp.skip (ws (Ab 7 16 (RW.nil ?_)));cases h;exact Wp.ret ⟨.inr rfl,BJ (by kernel_rfl)⟩
 refine Wp.skip (ws (Ab 2 2 (RW.nil (Wp.seq (ws (Ab 2 0 (RW.c 0 h (Q3 _) (fun v5 gv5 h=>Ab 1 0 (RW.nil (B3 h [3,4,8,15] [.box 3,.box 4,.box 8] (fun a=>(mV xQ a.1 a.2.1 a.2.2.1 a.2.2.2.1 a.2.2.2.2.1 a.2.2.2.2.2.1 a.2.2.2.2.2.2.1 a.2.2.2.2.2.2.2)) ?_ ?_))))))))))
 ·intro a h;refine wc h (fun h=>?_) (fun h=>?_)
  ·refine Ax (Ab 1 0 (RW.c 0 h (cZ _ _) (fun v6 gv6 h=>Ab 5 17 (RW.nil ?_))));cases h;exact⟨_,rfl,A4⟩
  refine Wp.skip ?_;cases h;exact⟨_,rfl,A4⟩
 intro j1 h E hE;refine AE hE (ws (Ab 2 0 (RW.c 0 h (gs (ca (fO (ca (cs (Fw _)) (ca (cs (Fx _)) (ca (cs (Dj _)) rfl)))) rfl) (VC _ _)) (fun v7 gv7 h=>Ab 7 17 (RW.nil (ws (Ab 3 0 (RW.c 0 h (gs (ca (fO (ca (cs (Fw _)) (ca (cs (Fx _)) (ca (cs (Dj _)) rfl)))) (ca (co (cs (AA3 _))) rfl)) (Pb _ _ _)) (fun v8 gv8 h=>Ab 5 9 (RW.nil (Wp.seq (Wp.seq (B3 h [4,8,15,19,91] [.box 4,.box 8] (fun a=>(mU j1 v8 a)) ?_ ?_))))) (hc:=(.inr (fun v=>by simp [BE,BL,AR,BB,wE])))))))) (hc:=(.inr (fun v=>by simp [BE,BL,AR,BB,AB2]))))))
 ·intro a h;refine Ax (Ab 3 0 (Ba 86 h (fun h=>?_) (fun h=>?_)))
  ·refine Ab 5 0 (RW.nil ?_);cases h;exact⟨_,rfl,A4⟩
  refine Ab 2 0 (RW.c 0 h (gs (ca (fO (ca (cs (Fw _)) rfl)) rfl) (Q3 _)) (fun v9 gv9 h=>Ab 2 0 (RW.nil ?_)) (hc:=(.inr (fun v=>rfl))));cases h;exact⟨_,rfl,A4⟩
 intro j2 h E hE;refine AE hE (wc h (fun h=>?_) (fun h=>?_))
 ·refine ws (Ab 6 8 (RW.nil ?_));cases h;exact Wp.ret ⟨.inr rfl,BJ (by kernel_rfl)⟩
 refine Wp.skip (ws (Ab 2 0 (RW.c 0 h (gs (ca (fO (ca (cs (Fw _)) (ca (cs (Fx _)) (ca (cs (Dj _)) rfl)))) (ca (co (cs (AAF _))) rfl)) (Rl _ _)) (fun v10 gv10 h=>Ab 2 0 (bd h fun q1 gq1 h=>Dl (EQ Nb (fun _=>rfl) j1.1 gq1) (Ab 4 2 (RW.nil ?_)))) (hc:=(.inr (fun v=>by simp [BE,BL,AR,BB,Yw,sQ,Lk]))))));cases h;exact Wp.ret ⟨.inr rfl,BJ (by kernel_rfl)⟩
end Go.TI
