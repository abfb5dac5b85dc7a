/- That they compute it. No condition. -/
import Derived.Test.YtiemmklnnjembaaGreatROW1
namespace Go.TI
open Go Go.Proofs
set_option maxRecDepth 100000
def Vb (a:List Ar) (b:List Int) (c:Int) (z1:List Bool) (z2:Int):St:=AE [(0,(.one (.sl false 54 8 (Ah GQ a)))),(1,(.one (.sl false 3 1 (Ah c3 b)))),(2,(I c)),(7,(.one (.sl true 4 1 (Ah c4 z1)))),(8,(I z2))] []
def Va (a:List Ar) (b:List Int) (z3:List Bool):St:=AE [(0,(.one (.sl false 54 8 (Ah GQ a)))),(1,(.one (.sl false 3 1 (Ah c3 b)))),(7,(.one (.sl true 4 1 (Ah c4 z3))))] []
def UZ (a:List Ar) (b:List Int) (z4:List Bool) (z5:Int):St:=AE [(0,(.one (.sl false 54 8 (Ah GQ a)))),(1,(.one (.sl false 3 1 (Ah c3 b)))),(7,(.one (.sl true 4 1 (Ah c4 z4)))),(9,(I z5))] []
def UY (z6:List Bool):St:=AE [(7,(.one (.sl true 4 1 (Ah c4 z6))))] []
def UX (a:List Ar) (b:List Int) (c:Int) (z7:List Bool) (z8:Int):St:=AE [(0,(.one (.sl false 54 8 (Ah GQ a)))),(1,(.one (.sl false 3 1 (Ah c3 b)))),(7,(.one (.sl true 4 1 (Ah c4 z7)))),(9,(I c)),(10,(I z8))] []
def UW (a:List Ar) (b:List Int) (c:Int) (z9:List Bool):St:=AE [(0,(.one (.sl false 54 8 (Ah GQ a)))),(1,(.one (.sl false 3 1 (Ah c3 b)))),(7,(.one (.sl true 4 1 (Ah c4 z9)))),(9,(I c))] []
def UV (a:List Ar) (b:List Int) (d:Int) (c:List Bool) (e:Int) (z10:Bool):St:=AE [(0,(.one (.sl false 54 8 (Ah GQ a)))),(1,(.one (.sl false 3 1 (Ah c3 b)))),(7,(.one (.sl true 4 1 (Ah c4 c)))),(9,(I d)),(10,(I e)),(72,(B z10))] []
theorem Kv (b:List Ar) (c:List Int) (d:Int) (r:List Bool) (h:Gz b c d=some r):Ba Tryz.prog 41 [.sv (.one (.sl false 54 8 (Ah GQ b))),.sv (.one (.sl false 3 1 (Ah c3 c))),.sv (I d)] (.one (.sl true 4 1 (Ah c4 r))) (List.replicate 3 .gone):=by
 unfold Gz at h;refine gk Tryz.func41 rfl Tryz.ntmps41 (ws (Ab 1 0 (RW.nil (ws (Ab 1 0 (RW.q (D5 EG b) (bd h fun q1 gq1 h=>CW (fmk k4 false gq1) (Ab 1 1 (RW.nil (Wp.seq (ws (Ab 1 0 ?_))))))))))));refine RW.nil (BP h [0,1,2,7,8] [] (fun s=>(Vb b c d s.1 s.2)) [0,1,7] [] (fun s=>(Va b c s)) Ay ?_ ?_)
 ·rintro⟨g,k⟩ o (h:Gf b d g k=some o);unfold Gf at h;refine Wp.seq (ws (Ab 2 0 (RW.q (D5 EG b) (Ab 1 0 (RW.nil (wc h (fun h=>?_) (fun h=>?_)))))))
  ·refine Wp.skip (Wp.seq (Wp.block (Av (Ab 4 0 (bd h fun x1 gx1 h=>RW.q (Ck EG gx1) (RW.q (DB EG gx1 0 2) (RW.q (DB EG gx1 2 2) (RW.q (CG EG gx1 2) (Ab 2 0 (AQ 29 h (fun h=>?_) (fun h=>?_)))))))))))
   ·refine Ab 2 0 (bd h fun x2 gx2 h=>RW.q (Ck EG gx2) (RW.q (DB EG gx2 0 2) (RW.q (DB EG gx2 2 4) (RW.q (CG EG gx2 4) (Ab 3 0 (bd h fun x3 gx3 h=>RW.q (Ck k4 gx3) (CW (N1 k4 gx3 0 0 (decide (x2.Page.Tx>=d))) (RW.nil (Av (Ab 3 0 (RW.nil ?_)))))))))));cases h;exact⟨_,rfl,Ay⟩
   refine Ab 9 0 (bd h fun x4 gx4 h=>RW.q (Ck k4 gx4) (CW (N1 k4 gx4 0 0 false) (RW.nil (Av (Ab 3 0 (RW.nil ?_))))));cases h;exact⟨_,rfl,Ay⟩
  refine Wp.exit ?_;cases h;exact⟨_,rfl,Ay⟩
 intro v1 h E hE;refine A9 hE (Wp.seq (ws (Ab 1 0 (RW.nil (BP h [0,1,7,9] [] (fun s=>(UZ b c s.1 s.2)) [7] [] (fun s=>(UY s)) Ay ?_ ?_)))))
 ·rintro⟨i,e⟩ o (h:Ge b c i e=some o);unfold Ge at h;refine Wp.seq (ws (Ab 2 0 (RW.q (D5 k3 c) (Ab 1 0 (RW.nil (wc h (fun h=>?_) (fun h=>?_)))))))
  ·refine Wp.skip (Wp.seq (Wp.block (ws (Ab 1 0 (RW.q (D5 EG b) (Ab 2 0 (RW.nil (BP h [0,1,7,9,10] [] (fun s=>(UX b c e s.1 s.2)) [0,1,7,9] [] (fun s=>(UW b c e s)) Ay ?_ ?_))))))))
   ·rintro⟨f,j⟩ o (h:Ej b c e f j=some o);unfold Ej at h;refine Wp.seq (ws (Ab 2 0 (RW.nil (wc h (fun h=>?_) (fun h=>?_)))))
    ·refine Wp.skip (Wp.seq (Wp.block (Wp.seq (Bq h [0,1,7,9,10,72] [] (fun a=>(UV b c e f j a)) ?_ ?_))))
     ·intro a h;refine Ln Ct (Dh 2 (bd h fun x5 gx5 h=>SW.q (Ck EG gx5) (SW.q (DB EG gx5 0 2) (SW.q (DB EG gx5 2 2) (SW.q (CG EG gx5 2) (Dh 2 (WD 60 h (fun h=>?_) (fun h=>?_))))))))
      ·refine Dh 2 (bd h fun x6 gx6 h=>SW.q (Ck EG gx6) (SW.q (DB EG gx6 0 2) (SW.q (DB EG gx6 2 4) (SW.q (CG EG gx6 4) (Dh 2 (bd h fun x7 gx7 h=>SW.q (Ck k3 gx7) (SW.q (CG k3 gx7 0) (Dh 2 (SW.nil ?_)))))))));cases h;exact⟨_,rfl,Ay⟩
      refine Dh 12 (SW.nil ?_);cases h;exact⟨_,rfl,Ay⟩
     intro j1 h E hE;refine A9 hE (wc h (fun h=>?_) (fun h=>?_))
     ·refine ws (Ab 2 0 (bd h fun x8 gx8 h=>RW.q (Ck k4 gx8) (CW (N1 k4 gx8 0 0 true) (RW.nil (Av (Ab 1 0 (RW.nil (Av (Ab 3 0 (RW.nil ?_))))))))));cases h;exact⟨_,rfl,Ay⟩
     refine Wp.skip (Av (Ab 3 0 (RW.nil ?_)));cases h;exact⟨_,rfl,Ay⟩
    refine Wp.exit ?_;cases h;exact⟨_,rfl,Ay⟩
   intro v2 h E hE;refine A9 hE (Av (Ab 3 0 (RW.nil ?_)));cases h;exact⟨_,rfl,Ay⟩
  refine Wp.exit ?_;cases h;exact⟨_,rfl,Ay⟩
 intro v3 h E hE;refine A9 hE (ws (Ab 2 2 (RW.nil ?_)));cases h;exact Wp.ret ⟨.inr rfl,BA (by kernel_rfl)⟩
def WO (xB:Block) (z1:Int):St:=AE [(1,(.one (.ptr (.box 1) 0 [] 0))),(3,(I z1))] [(.box 1,[.bool xB.Bad,.int .i64 xB.Wear,.sl false 90 2 (Ah fQ xB.Leaves)])]
def WN:St:=AE [] []
theorem ZE (xB:Block) (r:Bool) (h:LT xB=some r):Ba Tryz.prog 173 [.sv (.agg [.bool xB.Bad,.int .i64 xB.Wear,.sl false 90 2 (Ah fQ xB.Leaves)])] (B r) (List.replicate 1 .gone):=by
 unfold LT at h;refine gk Tryz.func173 rfl Tryz.ntmps173 (ws (Ab 2 0 (RW.nil (Wp.seq (ws (Ab 1 0 (RW.nil (Em h [1,3] [.box 1] (fun s=>(WO xB s)) [] [] (fun _=>WN) Ay ?_ ?_))))))))
 ·rintro a o (h:GS xB a=some o) hk1;unfold GS at h;refine Wp.seq (ws (Ab 3 0 (RW.q (D5 M1 xB.Leaves) (Ab 1 0 (RW.nil (wc h (fun h=>?_) (fun h=>?_)))))))
  ·refine Wp.skip (Wp.seq (Wp.block (ws (Ab 3 0 (bd h fun x1 gx1 h=>RW.q (Ck M1 gx1) (RW.q (DB M1 gx1 0 0) (RW.q (CG M1 gx1 0) (Ab 1 0 (RW.nil (wc h (fun h=>?_) (fun h=>?_)))))))))))
   ·refine ws (Ab 1 0 (RW.nil ?_));cases h;replace h:some _=some _:=hk1 _ rfl;cases h;exact Wp.ret ⟨.inr rfl,BA (by kernel_rfl)⟩
   refine Wp.skip (Av (Ab 3 0 (RW.nil ?_)));cases h;exact⟨_,rfl,Ay⟩
  refine Wp.exit ?_;cases h;exact⟨_,rfl,Ay⟩
 intro v1 h E hE;refine A9 hE (ws (Ab 1 0 (RW.nil ?_)));cases h;exact Wp.ret ⟨.inr rfl,BA (by kernel_rfl)⟩
def mI (b:List Ar) (a:List Bool) (xB:Int) (z1:Int) (z2:Int):St:=AE [(0,(.one (.sl false 54 8 (Ah GQ b)))),(1,(.one (.sl false 4 1 (Ah c4 a)))),(2,(I xB)),(7,(I z1)),(8,(I z2))] []
def mH (z3:Int):St:=AE [(7,(I z3))] []
theorem Sj (b:List Ar) (a:List Bool) (xB:Int) (r:Int) (h:NO b a xB=some r):Ba Tryz.prog 40 [.sv (.one (.sl false 54 8 (Ah GQ b))),.sv (.one (.sl false 4 1 (Ah c4 a))),.sv (I xB)] (I r) (List.replicate 3 .gone):=by
 unfold NO at h;refine gk Tryz.func40 rfl Tryz.ntmps40 (ws (Ab 1 0 (RW.nil (ws (Ab 1 0 (RW.nil (Wp.seq (ws (Ab 1 0 (RW.nil (BP h [0,1,2,7,8] [] (fun s=>(mI b a xB s.1 s.2)) [7] [] (fun s=>(mH s)) Ay ?_ ?_)))))))))))
 ·rintro⟨c,d⟩ o (h:JK b a xB c d=some o);unfold JK at h;refine Wp.seq (ws (Ab 2 0 (RW.q (D5 EG b) (Ab 1 0 (RW.nil (wc h (fun h=>?_) (fun h=>?_)))))))
  ·refine Wp.skip (Wp.seq (Wp.block (ws (Ab 2 0 (bd h fun x1 gx1 h=>RW.q (Ck k4 gx1) (RW.q (CG k4 gx1 0) (Ab 1 0 (AQ 19 h (fun h=>?_) (fun h=>?_)))))))))
   ·refine Ab 2 0 (bd h fun x2 gx2 h=>RW.q (Ck EG gx2) (RW.q (DB EG gx2 0 0) (RW.q (CG EG gx2 0) (Ab 3 0 (RW.nil (wc h (fun h=>?_) (fun h=>?_)))))))
    ·refine Av (Ab 3 0 (RW.nil (Av (Ab 3 0 (RW.nil ?_)))));cases h;exact⟨_,rfl,Ay⟩
    refine Wp.skip (Av (Ab 3 0 (RW.nil ?_)));cases h;exact⟨_,rfl,Ay⟩
   refine Ab 8 0 (RW.nil (wf (Wp.skip (Av (Ab 3 0 (RW.nil ?_))))));cases h;exact⟨_,rfl,Ay⟩
  refine Wp.exit ?_;cases h;exact⟨_,rfl,Ay⟩
 intro v1 h E hE;refine A9 hE (ws (Ab 2 0 (RW.nil ?_)));cases h;exact Wp.ret ⟨.inr rfl,BA (by kernel_rfl)⟩
def TP (xD:AH) (v1:List Ar) (v3:List Bool) (z1:List Int) (z2:Int):St:=AE [(1,(.one (.ptr (.box 1) 0 [] 0))),(3,(.one (.sl true 54 8 (Ah GQ v1)))),(4,(.one (.view (.slot 17) 0 [] 0))),(5,(.one (.sl true 3 1 (Ah c3 z1)))),(6,(I z2)),(17,(.one (.sl true 4 1 (Ah c4 v3))))] [(.box 1,[.sl false 77 3 (Ah (Co false) xD.Flash.Blocks),.sl false 39 2 (Ah CC xD.Store.Vols),.sl false 150 2 (Ah (AS false) xD.Store.Arena.Knots),.int .i64 xD.Store.Next,.int .i64 xD.Seq,.int .i64 xD.Tx,.int .i64 xD.Base])]
def TO (z3:List Int):St:=AE [(5,(.one (.sl true 3 1 (Ah c3 z3))))] []
def TN (xD:AH) (v1:List Ar) (v3:List Bool) (a:List Int) (b:Int) (z4:Bool):St:=AE [(1,(.one (.ptr (.box 1) 0 [] 0))),(3,(.one (.sl true 54 8 (Ah GQ v1)))),(4,(.one (.view (.slot 17) 0 [] 0))),(5,(.one (.sl true 3 1 (Ah c3 a)))),(6,(I b)),(17,(.one (.sl true 4 1 (Ah c4 v3)))),(47,(B z4))] [(.box 1,[.sl false 77 3 (Ah (Co false) xD.Flash.Blocks),.sl false 39 2 (Ah CC xD.Store.Vols),.sl false 150 2 (Ah (AS false) xD.Store.Arena.Knots),.int .i64 xD.Store.Next,.int .i64 xD.Seq,.int .i64 xD.Tx,.int .i64 xD.Base])]
theorem VM (xD:AH) (r:List Int) (h:Jo xD=some r):Ba Tryz.prog 151 [.sv (.agg [.sl false 77 3 (Ah (Co false) xD.Flash.Blocks),.sl false 39 2 (Ah CC xD.Store.Vols),.sl false 150 2 (Ah (AS false) xD.Store.Arena.Knots),.int .i64 xD.Store.Next,.int .i64 xD.Seq,.int .i64 xD.Tx,.int .i64 xD.Base])] (.one (.sl true 3 1 (Ah c3 r))) (List.replicate 1 .gone):=by
 unfold Jo at h;refine gk Tryz.func151 rfl Tryz.ntmps151 (ws (Ab 2 0 (RW.nil (ws (Ab 2 0 (RW.c 0 h (G0 _) (fun v1 gv1 h=>Ab 1 1 (RW.nil (Wp.seq (Er [] Ct (fun c E h=>by rcases h with⟨h|h,_⟩<;>cases h) (AC [0,1,2,4,5] 0 (BD 3 (KB.c 0 h (NT _) (fun v2 gv2 h=>?_))))))))))))));refine BD 6 (KB.c 0 h (gs (ca (co (cs (Tu _))) (ca (co (cs (lL _))) rfl)) (Kv _ _ _)) (fun v3 gv3 h=>AC [7] 0 (Ak (ws (Ab 2 2 (RW.nil (Wp.seq (ws (Ab 1 0 (RW.nil (BP h [1,3,4,5,6,17] [.box 1] (fun s=>(TP xD v1 v3 s.1 s.2)) [5] [] (fun s=>(TO s)) Ay ?_ ?_)))))))))) (hc:=(.inr (fun v=>by simp [BF,BM,AX,BC,ns4]))))
 ·rintro⟨b,d⟩ o (h:E6 xD v1 v3 b d=some o);unfold E6 at h;refine Wp.seq (ws (Ab 4 0 (RW.q (D5 (Fp false) xD.Flash.Blocks) (Ab 1 0 (RW.nil (wc h (fun h=>?_) (fun h=>?_)))))))
  ·refine Wp.skip (Wp.seq (Wp.block (ws (Ab 4 0 (bd h fun x1 gx1 h=>RW.q (Ck (Fp false) gx1) (RW.q (Rx (Fp false) gx1 0 3) (Ab 2 0 (RW.nil (Wp.seq (Bq h [1,3,4,5,6,17,47] [.box 1] (fun a=>(TN xD v1 v3 b d a)) ?_ ?_))))))))))
   ·intro a h;refine Av (Ab 4 0 (AQ 36 h (fun h=>?_) (fun h=>?_)))
    ·refine Ab 1 0 (RW.c 0 h (ZE _) (fun v4 gv4 h=>Ab 3 0 (AQ 41 h (fun h=>?_) (fun h=>?_))))
     ·refine Ab 3 0 (RW.c 0 h (gs (ca (co (cs (Tu _))) (ca (co (cs (sh4 _))) rfl)) (Sj _ _ _)) (fun v5 gv5 h=>Ab 2 0 (RW.nil ?_)) (hc:=(.inr (fun v=>rfl))));cases h;exact⟨_,rfl,Ay⟩
     refine Ab 6 0 (RW.nil ?_);cases h;exact⟨_,rfl,Ay⟩
    refine Ab 11 0 (RW.nil ?_);cases h;exact⟨_,rfl,Ay⟩
   intro j1 h E hE;refine A9 hE (wc h (fun h=>?_) (fun h=>?_))
   ·refine Av (Ab 3 0 (bd h fun q1 gq1 h=>CW (DY k3 (fun _=>rfl) b gq1) (Ab 1 1 (RW.nil (Av (Ab 3 0 (RW.nil ?_)))))));cases h;exact⟨_,rfl,Ay⟩
   refine Wp.skip (Av (Ab 3 0 (RW.nil ?_)));cases h;exact⟨_,rfl,Ay⟩
  refine Wp.exit ?_;cases h;exact⟨_,rfl,Ay⟩
 intro v6 h E hE;refine A9 hE (ws (Ab 2 2 (RW.nil ?_)));cases h;exact Wp.ret ⟨.inr rfl,BA (by kernel_rfl)⟩
def WR (xD:AH) (v2:List Tx) (z1:Int):St:=AE [(1,(.one (.ptr (.box 1) 0 [] 0))),(3,(.one (.sl true 178 3 (Ah (Ow true) v2)))),(4,(I z1))] [(.box 1,[.sl false 77 3 (Ah (Co false) xD.Flash.Blocks),.sl false 39 2 (Ah CC xD.Store.Vols),.sl false 150 2 (Ah (AS false) xD.Store.Arena.Knots),.int .i64 xD.Store.Next,.int .i64 xD.Seq,.int .i64 xD.Tx,.int .i64 xD.Base])]
def WQ:St:=AE [] []
theorem ZF (xD:AH) (r:Bool) (h:LU xD=some r):Ba Tryz.prog 152 [.sv (.agg [.sl false 77 3 (Ah (Co false) xD.Flash.Blocks),.sl false 39 2 (Ah CC xD.Store.Vols),.sl false 150 2 (Ah (AS false) xD.Store.Arena.Knots),.int .i64 xD.Store.Next,.int .i64 xD.Seq,.int .i64 xD.Tx,.int .i64 xD.Base])] (B r) (List.replicate 1 .gone):=by
 unfold LU at h;refine gk Tryz.func152 rfl Tryz.ntmps152 (ws (Ab 2 0 (RW.nil (Wp.seq (ws (Ab 6 0 (RW.nil (wc h (fun h=>?_) (fun h=>?_)))))))))
 ·refine ws (Ab 1 0 (RW.nil ?_));cases h;exact Wp.ret ⟨.inr rfl,BA (by kernel_rfl)⟩
 refine Wp.skip (ws (Ab 2 0 (RW.c 0 h (G0 _) (fun v1 gv1 h=>RW.c 0 h (gs (ca (co (cs (Tu _))) rfl) (VJ _)) (fun v2 gv2 h=>Ab 1 1 (RW.nil (Wp.seq (ws (Ab 1 0 (RW.nil (Em h [1,3,4] [.box 1] (fun s=>(WR xD v2 s)) [] [] (fun _=>WQ) Ay ?_ ?_))))))) (hc:=(.inr (fun v=>by simp [BF,BM,AX,BC,wE])))))))
 ·rintro a o (h:FK xD v2 a=some o) hk1;unfold FK at h;refine Wp.seq (ws (Ab 2 0 (RW.q (D5 (Ij true) v2) (Ab 1 0 (RW.nil (wc h (fun h=>?_) (fun h=>?_)))))))
  ·refine Wp.skip (Wp.seq (Wp.block (Wp.seq (Ln Ct (Dh 2 (bd h fun x1 gx1 h=>SW.q (Ck (Ij true) gx1) (SW.q (DB (Ij true) gx1 0 0) (SW.q (CG (Ij true) gx1 0) (Dh 3 (SW.nil (wc h (fun h=>?_) (fun h=>?_))))))))))))
   ·refine ws (Ab 2 0 (bd h fun x2 gx2 h=>RW.q (Ck (Ij true) gx2) (RW.q (DB (Ij true) gx2 0 2) (RW.q (CG (Ij true) gx2 2) (RW.q (ACB Wi x2.Recs (Ij true) gx2 2) (Ab 2 0 (AQ 36 h (fun h=>?_) (fun h=>?_))))))))
    ·refine Ab 2 0 (bd h fun x3 gx3 h=>RW.q (Ck (Ij true) gx3) (RW.q (DB (Ij true) gx3 0 2) (RW.q (CG (Ij true) gx3 2) (bd h fun x4 gx4 h=>RW.q (AB2 Wi gx4 (Ij true) gx3 2) (RW.q (DB Wi gx4 0 0 (hr:=pr2 0 (Ij true) gx3 2)) (RW.q (CG Wi gx4 0 (hr:=pr2 0 (Ij true) gx3 2)) (Ab 3 0 (RW.nil ?_))))))));cases h;replace h:some _=some _:=hk1 _ rfl;cases h;exact Wp.ret ⟨.inr rfl,BA (by kernel_rfl)⟩
    refine Ab 11 0 (RW.nil ?_);cases h;replace h:some _=some _:=hk1 _ rfl;cases h;exact Wp.ret ⟨.inr rfl,BA (by kernel_rfl)⟩
   refine Wp.skip (Av (Ab 3 0 (RW.nil ?_)));cases h;exact⟨_,rfl,Ay⟩
  refine Wp.exit ?_;cases h;exact⟨_,rfl,Ay⟩
 intro v3 h E hE;refine A9 hE (ws (Ab 1 0 (RW.nil ?_)));cases h;exact Wp.ret ⟨.inr rfl,BA (by kernel_rfl)⟩
def XX (xS:Store) (z1:List Dk) (z2:Int):St:=AE [(1,(.one (.ptr (.box 1) 0 [] 0))),(3,(.one (.sl true 99 4 (Ah Nd z1)))),(4,(I z2))] [(.box 1,[.sl false 39 2 (Ah CC xS.Vols),.sl false 150 2 (Ah (AS false) xS.Arena.Knots),.int .i64 xS.Next])]
def XW (z3:List Dk):St:=AE [(3,(.one (.sl true 99 4 (Ah Nd z3))))] []
def XV (xS:Store) (a:Int) (v1:List Int) (z4:List Dk) (z5:Int):St:=AE [(1,(.one (.ptr (.box 1) 0 [] 0))),(3,(.one (.sl true 99 4 (Ah Nd z4)))),(4,(I a)),(5,(.one (.sl true 3 1 (Ah c3 v1)))),(6,(I z5))] [(.box 1,[.sl false 39 2 (Ah CC xS.Vols),.sl false 150 2 (Ah (AS false) xS.Arena.Knots),.int .i64 xS.Next])]
def XU (xS:Store) (a:Int) (z6:List Dk):St:=AE [(1,(.one (.ptr (.box 1) 0 [] 0))),(3,(.one (.sl true 99 4 (Ah Nd z6)))),(4,(I a))] [(.box 1,[.sl false 39 2 (Ah CC xS.Vols),.sl false 150 2 (Ah (AS false) xS.Arena.Knots),.int .i64 xS.Next])]
theorem cH (xS:Store) (r:List Dk) (h:Mf xS=some r):Ba Tryz.prog 174 [.sv (.agg [.sl false 39 2 (Ah CC xS.Vols),.sl false 150 2 (Ah (AS false) xS.Arena.Knots),.int .i64 xS.Next])] (.one (.sl true 99 4 (Ah Nd r))) (List.replicate 1 .gone):=by
 unfold Mf at h;refine gk Tryz.func174 rfl Tryz.ntmps174 (ws (Ab 2 0 (RW.nil (ws (Ab 5 16 (RW.nil (Wp.seq (ws (Ab 1 0 (RW.nil (BP h [1,3,4] [.box 1] (fun s=>(XX xS s.1 s.2)) [3] [] (fun s=>(XW s)) Ay ?_ ?_)))))))))))
 ·rintro⟨a,d⟩ o (h:FV xS a d=some o);unfold FV at h;refine Wp.seq (ws (Ab 3 0 (RW.q (D5 DP xS.Vols) (Ab 1 0 (RW.nil (wc h (fun h=>?_) (fun h=>?_)))))))
  ·refine Wp.skip (Wp.seq (Wp.block (ws (Ab 4 0 (bd h fun x1 gx1 h=>RW.q (Ck DP gx1) (RW.q (DB DP gx1 0 0) (RW.q (CG DP gx1 0) (Ab 2 0 (bd h fun q1 gq1 h=>CW (DY Wi (fun _=>rfl) a gq1) (Ab 1 1 (RW.nil ?_)))))))))));refine Wp.seq (P1 8 Ct (Dh 5 (bd h fun x2 gx2 h=>SW.q (Ck DP gx2) (SW.q (DB DP gx2 0 1) (SW.q (CG DP gx2 1) (SW.nil (RW.c 0 h (PA _ _) (fun v1 gv1 h=>Ab 1 1 (RW.nil (ws (Ab 1 0 (RW.nil ?_))))))))))));refine BP h [1,3,4,5,6] [.box 1] (fun s=>(XV xS d v1 s.1 s.2)) [1,3,4] [.box 1] (fun s=>(XU xS d s)) Ay ?_ ?_
   ·rintro⟨b,e⟩ o (h:FU xS d v1 b e=some o);unfold FU at h;refine Wp.seq (ws (Ab 2 0 (RW.q (D5 k3 v1) (Ab 1 0 (RW.nil (wc h (fun h=>?_) (fun h=>?_)))))))
    ·refine Wp.skip (Wp.seq (Wp.block (ws (Ab 2 0 (bd h fun x3 gx3 h=>RW.q (Ck k3 gx3) (RW.q (CG k3 gx3 0) (Ab 1 0 (RW.nil (wc h (fun h=>?_) (fun h=>?_))))))))))
     ·refine Er [14] Ct (fun c E h=>by rcases h with⟨h|h,_⟩<;>cases h) (AC [0,1,2,3] 0 (bd h fun x4 gx4 h=>KW.q 4 (Ck DP gx4) (KW.q 5 (DB DP gx4 0 0) (KW.q 6 (CG DP gx4 0) (AC [7,8,9] 0 (bd h fun x5 gx5 h=>KW.q 10 (Ck k3 gx5) (KW.q 11 (CG k3 gx5 0) (AC [12,13] 0 (BD 14 (bd h fun q2 gq2 h=>M5 (DY Wi (fun _=>rfl) b gq2) ?_))))))))));refine AC [15] 1 (Ak (Av (Ab 3 0 (RW.nil ?_))));cases h;exact⟨_,rfl,Ay⟩
     refine Wp.skip (Av (Ab 3 0 (RW.nil ?_)));cases h;exact⟨_,rfl,Ay⟩
    refine Wp.exit ?_;cases h;exact⟨_,rfl,Ay⟩
   intro v2 h E hE;refine A9 hE (Av (Ab 3 0 (RW.nil ?_)));cases h;exact⟨_,rfl,Ay⟩
  refine Wp.exit ?_;cases h;exact⟨_,rfl,Ay⟩
 intro v3 h E hE;refine A9 hE (ws (Ab 2 2 (RW.nil ?_)));cases h;exact Wp.ret ⟨.inr rfl,BA (by kernel_rfl)⟩
def V8 (xF:Flash) (z1:Int):St:=AE [(1,(.one (.ptr (.box 1) 0 [] 0))),(3,(I z1))] [(.box 1,[.sl false 77 3 (Ah (Co false) xF.Blocks)])]
def V7:St:=AE [] []
def V6 (xF:Flash) (a:Int) (z2:Int) (z3:Int) (z4:Int):St:=AE [(1,(.one (.ptr (.box 1) 0 [] 0))),(3,(I a)),(4,(I z2)),(5,(I z3)),(6,(I z4))] [(.box 1,[.sl false 77 3 (Ah (Co false) xF.Blocks)])]
def V5 (xF:Flash) (a:Int) (z5:Int) (z6:Int):St:=AE [(1,(.one (.ptr (.box 1) 0 [] 0))),(3,(I a)),(4,(I z5)),(5,(I z6))] [(.box 1,[.sl false 77 3 (Ah (Co false) xF.Blocks)])]
def V4 (xF:Flash) (a:Int) (z7:Bool):St:=AE [(1,(.one (.ptr (.box 1) 0 [] 0))),(3,(I a)),(54,(B z7))] [(.box 1,[.sl false 77 3 (Ah (Co false) xF.Blocks)])]
theorem X6 (xF:Flash) (r:Int) (h:KD xF=some r):Ba Tryz.prog 176 [.sv (.agg [.sl false 77 3 (Ah (Co false) xF.Blocks)])] (I r) (List.replicate 1 .gone):=by
 unfold KD at h;refine gk Tryz.func176 rfl Tryz.ntmps176 (ws (Ab 2 0 (RW.nil (Wp.seq (ws (Ab 1 0 (RW.nil (Em h [1,3] [.box 1] (fun s=>(V8 xF s)) [] [] (fun _=>V7) Ay ?_ ?_))))))))
 ·rintro b o (h:EX xF b=some o) hk1;unfold EX at h;refine Wp.seq (ws (Ab 3 0 (RW.q (D5 (Fp false) xF.Blocks) (Ab 1 0 (RW.nil (wc h (fun h=>?_) (fun h=>?_)))))))
  ·refine Wp.skip (Wp.seq (Wp.block (ws (Ab 1 0 (RW.nil (ws (Ab 1 0 (RW.nil (Wp.seq (ws (Ab 1 0 (RW.nil (BP h [1,3,4,5,6] [.box 1] (fun s=>(V6 xF b s.1 s.2.1 s.2.2)) [1,3,4,5] [.box 1] (fun s=>(V5 xF b s.1 s.2)) Ay ?_ ?_)))))))))))))
   ·rintro⟨c,d,e⟩ o (h:EW xF b c d e=some o);unfold EW at h;refine Wp.seq (ws (Ab 4 0 (bd h fun x1 gx1 h=>RW.q (Ck (Fp false) gx1) (RW.q (DB (Fp false) gx1 0 2) (RW.q (CG (Fp false) gx1 2) (RW.q (D5 M1 x1.Leaves) (Ab 1 0 (RW.nil (wc h (fun h=>?_) (fun h=>?_))))))))))
    ·refine Wp.skip (Wp.seq (Wp.block (ws (Ab 3 0 (bd h fun x2 gx2 h=>RW.q (Ck (Fp false) gx2) (RW.q (DB (Fp false) gx2 0 2) (RW.q (CG (Fp false) gx2 2) (Ab 1 0 (bd h fun x3 gx3 h=>RW.q (Ck M1 gx3) (RW.q (DB M1 gx3 0 0) (RW.q (CG M1 gx3 0) ?_)))))))))));refine Ab 1 0 (RW.nil (wc h (fun h=>?_) (fun h=>?_)))
     ·refine Av (Ab 3 0 (RW.nil (Av (Ab 3 0 (RW.nil ?_)))));cases h;exact⟨_,rfl,Ay⟩
     refine Av (Ab 3 0 (RW.nil (Av (Ab 3 0 (RW.nil ?_)))));cases h;exact⟨_,rfl,Ay⟩
    refine Wp.exit ?_;cases h;exact⟨_,rfl,Ay⟩
   intro v1 h E hE;refine A9 hE (Wp.seq (Bq h [1,3,54] [.box 1] (fun a=>(V4 xF b a)) ?_ ?_))
   ·intro a h;refine Av (Ab 3 0 (bd h fun x4 gx4 h=>RW.q (Ck (Fp false) gx4) (RW.q (DB (Fp false) gx4 0 0) (RW.q (CG (Fp false) gx4 0) (Ab 2 0 (AQ 47 h (fun h=>?_) (fun h=>?_)))))))
    ·refine Ab 4 0 (AQ 51 h (fun h=>?_) (fun h=>?_))
     ·refine Ab 3 0 (RW.nil ?_);cases h;exact⟨_,rfl,Ay⟩
     refine Ab 3 0 (RW.nil ?_);cases h;exact⟨_,rfl,Ay⟩
    refine Ab 7 0 (RW.nil ?_);cases h;exact⟨_,rfl,Ay⟩
   intro j1 h E hE;refine A9 hE (wc h (fun h=>?_) (fun h=>?_))
   ·refine ws (Ab 2 0 (RW.nil ?_));cases h;replace h:some _=some _:=hk1 _ rfl;cases h;exact Wp.ret ⟨.inr rfl,BA (by kernel_rfl)⟩
   refine Wp.skip (Av (Ab 3 0 (RW.nil ?_)));cases h;exact⟨_,rfl,Ay⟩
  refine Wp.exit ?_;cases h;exact⟨_,rfl,Ay⟩
 intro v2 h E hE;refine A9 hE (ws (Ab 1 0 (RW.nil ?_)));cases h;exact Wp.ret ⟨.inr rfl,BA (by kernel_rfl)⟩
def VA (xB:Block) (z1:Int):St:=AE [(1,(.one (.ptr (.box 1) 0 [] 0))),(3,(I z1))] [(.box 1,[.bool xB.Bad,.int .i64 xB.Wear,.sl false 90 2 (Ah fQ xB.Leaves)])]
def V9:St:=AE [] []
theorem MV (xB:Block) (r:Int) (h:Hz xB=some r):Ba Tryz.prog 175 [.sv (.agg [.bool xB.Bad,.int .i64 xB.Wear,.sl false 90 2 (Ah fQ xB.Leaves)])] (I r) (List.replicate 1 .gone):=by
 unfold Hz at h;refine gk Tryz.func175 rfl Tryz.ntmps175 (ws (Ab 2 0 (RW.nil (Wp.seq (ws (Ab 1 0 (RW.nil (Em h [1,3] [.box 1] (fun s=>(VA xB s)) [] [] (fun _=>V9) Ay ?_ ?_))))))))
 ·rintro a o (h:EY xB a=some o) hk1;unfold EY at h;refine Wp.seq (ws (Ab 3 0 (RW.q (D5 M1 xB.Leaves) (Ab 1 0 (RW.nil (wc h (fun h=>?_) (fun h=>?_)))))))
  ·refine Wp.skip (Wp.seq (Wp.block (ws (Ab 3 0 (bd h fun x1 gx1 h=>RW.q (Ck M1 gx1) (RW.q (DB M1 gx1 0 0) (RW.q (CG M1 gx1 0) (Ab 1 0 (RW.nil (wc h (fun h=>?_) (fun h=>?_)))))))))))
   ·refine ws (Ab 2 0 (RW.nil ?_));cases h;replace h:some _=some _:=hk1 _ rfl;cases h;exact Wp.ret ⟨.inr rfl,BA (by kernel_rfl)⟩
   refine Wp.skip (Av (Ab 3 0 (RW.nil ?_)));cases h;exact⟨_,rfl,Ay⟩
  refine Wp.exit ?_;cases h;exact⟨_,rfl,Ay⟩
 intro v1 h E hE;refine A9 hE (ws (Ab 1 0 (RW.nil ?_)));cases h;exact Wp.ret ⟨.inr rfl,BA (by kernel_rfl)⟩
def TM (xF:Flash) (z1:List Int) (z2:Int):St:=AE [(1,(.one (.ptr (.box 1) 0 [] 0))),(3,(.one (.sl true 3 1 (Ah c3 z1)))),(4,(I z2))] [(.box 1,[.sl false 77 3 (Ah (Co false) xF.Blocks)])]
def TL (z3:List Int):St:=AE [(3,(.one (.sl true 3 1 (Ah c3 z3))))] []
def TK (xF:Flash) (a:List Int) (b:Int) (z4:Bool) (z5:Int):St:=AE [(1,(.one (.ptr (.box 1) 0 [] 0))),(3,(.one (.sl true 3 1 (Ah c3 a)))),(4,(I b)),(5,(B z4)),(6,(I z5))] [(.box 1,[.sl false 77 3 (Ah (Co false) xF.Blocks)])]
def TJ (xF:Flash) (a:List Int) (b:Int) (z6:Bool):St:=AE [(1,(.one (.ptr (.box 1) 0 [] 0))),(3,(.one (.sl true 3 1 (Ah c3 a)))),(4,(I b)),(5,(B z6))] [(.box 1,[.sl false 77 3 (Ah (Co false) xF.Blocks)])]
theorem VK (xF:Flash) (r:List Int) (h:Jm xF=some r):Ba Tryz.prog 177 [.sv (.agg [.sl false 77 3 (Ah (Co false) xF.Blocks)])] (.one (.sl true 3 1 (Ah c3 r))) (List.replicate 1 .gone):=by
 unfold Jm at h;refine gk Tryz.func177 rfl Tryz.ntmps177 (ws (Ab 2 0 (RW.nil (ws (Ab 2 2 (RW.nil (Wp.seq (ws (Ab 1 0 (RW.nil (BP h [1,3,4] [.box 1] (fun s=>(TM xF s.1 s.2)) [3] [] (fun s=>(TL s)) Ay ?_ ?_)))))))))))
 ·rintro⟨a,c⟩ o (h:F5 xF a c=some o);unfold F5 at h;refine Wp.seq (ws (Ab 3 0 (RW.q (D5 (Fp false) xF.Blocks) (Ab 1 0 (RW.nil (wc h (fun h=>?_) (fun h=>?_)))))))
  ·refine Wp.skip (Wp.seq (Wp.block (ws (Ab 3 0 (bd h fun x1 gx1 h=>RW.q (Ck (Fp false) gx1) (RW.q (DB (Fp false) gx1 0 0) (RW.q (CG (Fp false) gx1 0) (Ab 2 0 (RW.nil (Wp.seq (ws (Ab 1 0 ?_))))))))))));refine RW.nil (BP h [1,3,4,5,6] [.box 1] (fun s=>(TK xF a c s.1 s.2)) [1,3,4,5] [.box 1] (fun s=>(TJ xF a c s)) Ay ?_ ?_)
   ·rintro⟨b,d⟩ o (h:E5 xF c b d=some o);unfold E5 at h;refine Wp.seq (ws (Ab 4 0 (bd h fun x2 gx2 h=>RW.q (Ck (Fp false) gx2) (RW.q (DB (Fp false) gx2 0 2) (RW.q (CG (Fp false) gx2 2) (RW.q (D5 M1 x2.Leaves) (Ab 1 0 (RW.nil (wc h (fun h=>?_) (fun h=>?_))))))))))
    ·refine Wp.skip (Wp.seq (Wp.block (Av (Ab 2 0 (AQ 34 h (fun h=>?_) (fun h=>?_))))))
     ·refine Ab 3 0 (bd h fun x3 gx3 h=>RW.q (Ck (Fp false) gx3) (RW.q (DB (Fp false) gx3 0 2) (RW.q (CG (Fp false) gx3 2) (Ab 1 0 (bd h fun x4 gx4 h=>RW.q (Ck M1 gx4) (RW.q (DB M1 gx4 0 0) (RW.q (CG M1 gx4 0) (Ab 3 0 (RW.nil (Av (Ab 3 0 ?_)))))))))));refine RW.nil ?_;cases h;exact⟨_,rfl,Ay⟩
     refine Ab 13 0 (RW.nil (Av (Ab 3 0 (RW.nil ?_))));cases h;exact⟨_,rfl,Ay⟩
    refine Wp.exit ?_;cases h;exact⟨_,rfl,Ay⟩
   intro v1 h E hE;refine A9 hE (ws (Ab 1 0 (RW.nil (wc h (fun h=>?_) (fun h=>?_)))))
   ·refine Av (Ab 3 0 (bd h fun q1 gq1 h=>CW (DY k3 (fun _=>rfl) a gq1) (Ab 1 1 (RW.nil (Av (Ab 3 0 (RW.nil ?_)))))));cases h;exact⟨_,rfl,Ay⟩
   refine Wp.skip (Av (Ab 3 0 (RW.nil ?_)));cases h;exact⟨_,rfl,Ay⟩
  refine Wp.exit ?_;cases h;exact⟨_,rfl,Ay⟩
 intro v2 h E hE;refine A9 hE (ws (Ab 2 2 (RW.nil ?_)));cases h;exact Wp.ret ⟨.inr rfl,BA (by kernel_rfl)⟩
def bP (xF:Flash) (v4:List Int) (z1:Int) (z2:Int):St:=AE [(1,(.one (.ptr (.box 1) 0 [] 0))),(6,(.one (.sl true 3 1 (Ah c3 v4)))),(7,(I z1)),(8,(I z2))] [(.box 1,[.sl false 77 3 (Ah (Co false) xF.Blocks)])]
def bO (z3:Int):St:=AE [(7,(I z3))] []
theorem iC (xF:Flash) (r:Int×Int×Bool) (h:LD xF=some r):Ba Tryz.prog 156 [.sv (.agg [.sl false 77 3 (Ah (Co false) xF.Blocks)])] (.tup [(I r.1),(I r.2.1),(B r.2.2)]) (List.replicate 1 .gone):=by
 unfold LD at h;refine gk Tryz.func156 rfl Tryz.ntmps156 (ws (Ab 4 0 (RW.nil (Wp.seq (ws (Ab 1 0 (RW.c 0 h (MD _) (fun v1 gv1 h=>Ab 1 0 (RW.nil (wc h (fun h=>?_) (fun h=>?_)))))))))))
 ·refine ws (Ab 3 0 (RW.nil ?_));cases h;exact Wp.ret ⟨.inr rfl,BA (by kernel_rfl)⟩
 refine Wp.skip (ws (Ab 1 0 (RW.c 0 h (X6 _) (fun v2 gv2 h=>Ab 1 0 (RW.nil (Wp.seq (ws (Ab 2 0 (RW.nil (wc h (fun h=>?_) (fun h=>?_)))))))))))
 ·refine ws (Ab 4 0 (bd h fun x1 gx1 h=>RW.q (Ck (Fp false) gx1) (RW.q (Rx (Fp false) gx1 0 3) (RW.c 0 h (MV _) (fun v3 gv3 h=>Ab 3 0 (RW.nil ?_))))));cases h;exact Wp.ret ⟨.inr rfl,BA (by kernel_rfl)⟩
 refine Wp.skip (ws (Ab 1 0 (RW.c 0 h (VK _) (fun v4 gv4 h=>Ab 1 1 (RW.nil (Wp.seq (ws (Ab 1 0 (RW.q (D5 k3 v4) (Ab 1 0 (RW.nil (wc h (fun h=>?_) (fun h=>?_)))))))))))))
 ·refine ws (Ab 3 0 (RW.nil ?_));cases h;exact Wp.ret ⟨.inr rfl,BA (by kernel_rfl)⟩
 refine Wp.skip (ws (Ab 1 0 (bd h fun x2 gx2 h=>RW.q (Ck k3 gx2) (RW.q (CG k3 gx2 0) (Ab 1 0 (RW.nil (Wp.seq (ws (Ab 1 0 (RW.nil (BP h [1,6,7,8] [.box 1] (fun s=>(bP xF v4 s.1 s.2)) [7] [] (fun s=>(bO s)) Ay ?_ ?_)))))))))))
 ·rintro⟨a,b⟩ o (h:HR xF v4 a b=some o);unfold HR at h;refine Wp.seq (ws (Ab 2 0 (RW.q (D5 k3 v4) (Ab 1 0 (RW.nil (wc h (fun h=>?_) (fun h=>?_)))))))
  ·refine Wp.skip (Wp.seq (Wp.block (Wp.seq (Ln Ct (Dh 4 (bd h fun x3 gx3 h=>SW.q (Ck k3 gx3) (SW.q (CG k3 gx3 0) (bd h fun x4 gx4 h=>SW.q (Ck (Fp false) gx4) (SW.q (DB (Fp false) gx4 0 1) (SW.q (CG (Fp false) gx4 1) (Dh 3 ?_)))))))))))
   refine bd h fun x5 gx5 h=>SW.q (Ck (Fp false) gx5) (SW.q (DB (Fp false) gx5 0 1) (SW.q (CG (Fp false) gx5 1) (Dh 1 (SW.nil (wc h (fun h=>?_) (fun h=>?_))))))
   ·refine Av (Ab 2 0 (bd h fun x6 gx6 h=>RW.q (Ck k3 gx6) (RW.q (CG k3 gx6 0) (Ab 1 0 (RW.nil (Av (Ab 3 0 (RW.nil ?_))))))));cases h;exact⟨_,rfl,Ay⟩
   refine Wp.skip (Av (Ab 3 0 (RW.nil ?_)));cases h;exact⟨_,rfl,Ay⟩
  refine Wp.exit ?_;cases h;exact⟨_,rfl,Ay⟩
 intro v5 h E hE;refine A9 hE (ws (Ab 4 0 (RW.nil ?_)));cases h;exact Wp.ret ⟨.inr rfl,BA (by kernel_rfl)⟩
theorem mV (xF:Flash) (xB:Int) (a:Int) (b:ByteArray) (r:Bool) (h:Rj xF xB a b=some r):Ba Tryz.prog 188 [.sv (.agg [.sl false 77 3 (Ah (Co false) xF.Blocks)]),.sv (I xB),.sv (I a),.sv (Y b)] (B r) (List.replicate 4 .gone):=by
 unfold Rj at h;refine gk Tryz.func188 rfl Tryz.ntmps188 (ws (Ab 2 0 (RW.nil (ws (Ab 3 0 (RW.q (D5 (Fp false) xF.Blocks) (Ab 1 0 (RW.c 0 h (BK _ _ _) (fun v1 gv1 h=>Ab 1 0 (AQ 15 h (fun h=>?_) (fun h=>?_)))))))))))
 ·refine Ab 3 0 (bd h fun x1 gx1 h=>RW.q (Ck (Fp false) gx1) (RW.q (DB (Fp false) gx1 0 0) (RW.q (CG (Fp false) gx1 0) (Ab 3 0 (AQ 24 h (fun h=>?_) (fun h=>?_))))))
  ·refine Ab 4 0 (AQ 28 h (fun h=>?_) (fun h=>?_))
   ·refine Ab 4 0 (bd h fun x2 gx2 h=>RW.q (Ck (Fp false) gx2) (RW.q (Rx (Fp false) gx2 0 3) (RW.c 0 h (MV _) (fun v2 gv2 h=>Ab 3 0 (AQ 38 h (fun h=>?_) (fun h=>?_))))))
    ·refine Ab 2 0 (RW.c 0 h (BK _ _ _) (fun v3 gv3 h=>Ab 2 0 (RW.nil ?_)));cases h;exact Wp.ret ⟨.inr rfl,BA (by kernel_rfl)⟩
    refine Ab 5 0 (RW.nil ?_);cases h;exact Wp.ret ⟨.inr rfl,BA (by kernel_rfl)⟩
   refine Ab 15 0 (RW.nil ?_);cases h;exact Wp.ret ⟨.inr rfl,BA (by kernel_rfl)⟩
  refine Ab 19 0 (RW.nil ?_);cases h;exact Wp.ret ⟨.inr rfl,BA (by kernel_rfl)⟩
 refine Ab 28 0 (RW.nil ?_);cases h;exact Wp.ret ⟨.inr rfl,BA (by kernel_rfl)⟩
def bG (xB:Int) (a:Int) (b:ByteArray) (v1:Flash) (z1:Bool):St:=AE [(1,(I xB)),(2,(I a)),(3,(Y b)),(8,(.one (.ptr (.box 8) 0 [] 0))),(10,(.one (.ptr (.box 10) 0 [] 0))),(23,(B z1))] [(.box 8,[.sl true 77 3 (Ah (Co true) [])]),(.box 10,[.sl true 77 3 (Ah (Co true) v1.Blocks)])]
theorem hH (xF:Flash) (xB:Int) (d:Int) (b:ByteArray) (r:Flash×Bool) (h:LC xF xB d b=some r):Ba Tryz.prog 178 [.sv (.agg [.sl false 77 3 (Ah (Co false) xF.Blocks)]),.sv (I xB),.sv (I d),.sv (Y b)] (.tup [(.agg [.sl true 77 3 (Ah (Co true) r.1.Blocks)]),(B r.2)]) (List.replicate 4 .gone):=by
 unfold LC at h;refine gk Tryz.func178 rfl Tryz.ntmps178 (ws (Ab 3 0 (RW.nil (ws (Ab 1 0 (RW.c 0 h (II _) (fun v1 gv1 h=>Ab 2 0 (RW.nil (Wp.seq (Wp.seq (Bq h [1,2,3,8,10,23] [.box 8,.box 10] (fun a=>(bG xB d b v1 a)) ?_ ?_)))))))))))
 ·intro a h;refine Av (Ab 1 0 (RW.c 0 h (MD _) (fun v2 gv2 h=>Ab 2 0 (AQ 16 h (fun h=>?_) (fun h=>?_)))))
  ·refine Ab 7 0 (RW.nil ?_);cases h;exact⟨_,rfl,Ay⟩
  refine Ab 4 0 (RW.c 0 h (mV _ _ _ _) (fun v3 gv3 h=>Ab 2 0 (RW.nil ?_)));cases h;exact⟨_,rfl,Ay⟩
 intro j1 h E hE;refine A9 hE (wc h (fun h=>?_) (fun h=>?_))
 ·refine ws (Ab 3 0 (RW.nil ?_));cases h;exact Wp.ret ⟨.inr rfl,BA (by kernel_rfl)⟩
 refine Wp.skip (ws (Ab 3 0 (bd h fun x1 gx1 h=>RW.q (Ck (Fp true) gx1) (RW.q (DB (Fp true) gx1 0 2) (RW.q (CG (Fp true) gx1 2) (Ab 3 0 (bd h fun x2 gx2 h=>RW.q (AB2 M1 gx2 (Fp true) gx1 2) (CW (ACL M1 gx2 0 0 (Leaf.mk 1 b) (Fp true) gx1 2 (Block.mk x1.Bad x1.Wear (si x1.Leaves d (Leaf.mk 1 b)))) (RW.nil (ws (Ab 3 0 ?_)))))))))));refine RW.nil ?_;cases h;exact Wp.ret ⟨.inr rfl,BA (by kernel_rfl)⟩
def r8 (xF:Flash) (xB:Int) (v1:Flash) (z1:Bool):St:=AE [(1,(I xB)),(2,(.one (.ptr (.box 2) 0 [] 0))),(4,(.one (.ptr (.box 4) 0 [] 0))),(6,(.one (.ptr (.box 6) 0 [] 0))),(37,(B z1))] [(.box 2,[.sl false 77 3 (Ah (Co false) xF.Blocks)]),(.box 4,[.sl true 77 3 (Ah (Co true) [])]),(.box 6,[.sl true 77 3 (Ah (Co true) v1.Blocks)])]
theorem u9 (xF:Flash) (xB:Int) (r:Flash×Bool) (h:Sm xF xB=some r):Ba Tryz.prog 179 [.sv (.agg [.sl false 77 3 (Ah (Co false) xF.Blocks)]),.sv (I xB)] (.tup [(.agg [.sl true 77 3 (Ah (Co true) r.1.Blocks)]),(B r.2)]) (List.replicate 2 .gone):=by
 unfold Sm at h;refine gk Tryz.func179 rfl Tryz.ntmps179 (ws (Ab 3 0 (RW.nil (ws (Ab 1 0 (RW.c 0 h (II _) (fun v1 gv1 h=>Ab 2 0 (RW.nil (Wp.seq (Wp.seq (Bq h [1,2,4,6,37] [.box 2,.box 4,.box 6] (fun a=>(r8 xF xB v1 a)) ?_ ?_)))))))))))
 ·intro a h;refine Av (Ab 1 0 (RW.c 0 h (MD _) (fun v2 gv2 h=>Ab 2 0 (AQ 12 h (fun h=>?_) (fun h=>?_)))))
  ·refine Ab 25 0 (RW.nil ?_);cases h;exact⟨_,rfl,Ay⟩
  refine Ab 3 0 (RW.q (D5 (Fp false) xF.Blocks) (Ab 1 0 (RW.c 0 h (BK _ _ _) (fun v3 gv3 h=>Ab 3 0 (AQ 21 h (fun h=>?_) (fun h=>?_))))))
  ·refine Ab 16 0 (RW.nil ?_);cases h;exact⟨_,rfl,Ay⟩
  refine Ab 3 0 (bd h fun x1 gx1 h=>RW.q (Ck (Fp false) gx1) (RW.q (DB (Fp false) gx1 0 0) (RW.q (CG (Fp false) gx1 0) (Ab 2 0 (AQ 29 h (fun h=>?_) (fun h=>?_))))))
  ·refine Ab 8 0 (RW.nil ?_);cases h;exact⟨_,rfl,Ay⟩
  refine Ab 3 0 (bd h fun x2 gx2 h=>RW.q (Ck (Fp false) gx2) (RW.q (DB (Fp false) gx2 0 1) (RW.q (CG (Fp false) gx2 1) (Ab 2 0 (RW.nil ?_)))));cases h;exact⟨_,rfl,Ay⟩
 intro j1 h E hE;refine A9 hE (wc h (fun h=>?_) (fun h=>?_))
 ·refine ws (Ab 3 0 (RW.nil ?_));cases h;exact Wp.ret ⟨.inr rfl,BA (by kernel_rfl)⟩
 refine Wp.skip (Wp.seq (Er [13] Ct (fun c E h=>by rcases h with⟨h|h,_⟩<;>cases h) (AC [0,1,2,3,4,5] 0 (bd h fun x3 gx3 h=>KW.q 6 (Ck (Fp false) gx3) (KW.q 7 (DB (Fp false) gx3 0 1) (KW.q 8 (CG (Fp false) gx3 1) (AC [9] 0 (BD 10 (bd h fun q1 gq1 h=>M5 (fmk M1 (Leaf.mk 0 (bs [])) gq1) (AC [11] 0 (bd h fun x4 gx4 h=>?_)))))))))));refine KW.q 12 (Ck (Fp true) gx4) (BD 13 (M5 (N1 (Fp true) gx4 0 0 (Block.mk false (ad x3.Wear 1) q1)) (Ak (ws (Ab 3 0 (RW.nil ?_))))));cases h;exact Wp.ret ⟨.inr rfl,BA (by kernel_rfl)⟩
theorem Qy (xF:Flash) (xS:BI) (r:Flash×Bool) (h:Mc xF xS=some r):Ba Tryz.prog 157 [.sv (.agg [.sl false 77 3 (Ah (Co false) xF.Blocks)]),.sv (.agg [.int .i64 xS.Kind,.int .i64 xS.Block,.int .i64 xS.Leaf,.str xS.Text])] (.tup [(.agg [.sl true 77 3 (Ah (Co true) r.1.Blocks)]),(B r.2)]) (List.replicate 2 .gone):=by
 unfold Mc at h;refine gk Tryz.func157 rfl Tryz.ntmps157 (ws (Ab 4 0 (RW.nil (Wp.seq (ws (Ab 2 0 (RW.nil (Wp.block (ws (Ab 2 0 (RW.nil (wc h (fun h=>?_) (fun h=>?_)))))))))))))
 ·refine ws (Ab 7 0 (RW.c 0 h (hH _ _ _ _) (fun v1 gv1 h=>Ab 4 0 (RW.nil ?_))));cases h;exact Wp.ret ⟨.inr rfl,BA (by kernel_rfl)⟩
 refine ws (Ab 2 0 (RW.nil (wc h (fun h=>?_) (fun h=>?_))))
 ·refine ws (Ab 3 0 (RW.c 0 h (u9 _ _) (fun v2 gv2 h=>Ab 4 0 (RW.nil ?_))));cases h;exact Wp.ret ⟨.inr rfl,BA (by kernel_rfl)⟩
 refine Wp.skip (ws (Ab 1 0 (RW.c 0 h (II _) (fun v3 gv3 h=>Ab 2 0 (RW.nil ?_)))));cases h;exact Wp.ret ⟨.inr rfl,BA (by kernel_rfl)⟩
def CT (x:BI):List TV:=[.int .i64 x.Kind,.int .i64 x.Block,.int .i64 x.Leaf,.str x.Text]
theorem MY:∀x,(CT x).length=4:=fun _=>rfl
theorem AAL:∀l,BH (Ah CT l)=Ah CT l:=D6 (fun _=>rfl)
theorem wD:∀l,AX (Ah CT l)=false:=Kw (fun _=>rfl)
def SM (xF:Flash) (a:List BI) (v1:ByteArray×Bool) (v2:Int×Int×Bool) (z1:Bool):St:=AE [(1,(.one (.sl true 203 4 (Ah CT a)))),(3,(.one (.ptr (.box 3) 0 [] 0))),(6,(.one (.ptr (.box 6) 0 [] 0))),(9,(Y v1.1)),(11,(I v2.1)),(12,(I v2.2.1)),(33,(B z1))] [(.box 3,[.sl false 77 3 (Ah (Co false) xF.Blocks)]),(.box 6,[.sl true 77 3 (Ah (Co true) [])])]
def SL (v3:Flash×Bool) (z2:List BI):St:=AE [(6,(.one (.ptr (.box 6) 0 [] 0))),(7,(.one (.sl true 203 4 (Ah CT z2)))),(8,(B v3.2))] [(.box 6,[.sl true 77 3 (Ah (Co true) v3.1.Blocks)])]
theorem Qw (xF:Flash) (b:List BI) (xP:Page) (r:Flash×List BI×Bool) (h:Ht xF b xP=some r):Ba Tryz.prog 130 [.sv (.agg [.sl false 77 3 (Ah (Co false) xF.Blocks)]),.sv (.one (.sl true 203 4 (Ah CT b))),.sv (.agg [.int .i64 xP.Kind,.int .i64 xP.Seq,.int .i64 xP.Tx,.int .i64 xP.Part,.int .i64 xP.Count,.str xP.Text])] (.tup [(.agg [.sl false 77 3 (Ah (Co false) r.1.Blocks)]),(.one (.sl true 203 4 (Ah CT r.2.1))),(B r.2.2)]) (List.replicate 3 .gone):=by
 unfold Ht at h;refine tK Tryz.func130 rfl ?_;rw [Tryz.ntmps130];refine Wp.seq (Wp.region (Mz [] 3 [.sl false 77 3 (Ah (Co false) xF.Blocks)] (Mz [] 5 [.int .i64 xP.Kind,.int .i64 xP.Seq,.int .i64 xP.Tx,.int .i64 xP.Part,.int .i64 xP.Count,.str xP.Text] (Mz [] 6 [.sl true 77 3 (Ah (Co true) [])] (A7.o 7 (.one (.sl true 203 4 (Ah CT []))) (A7.o 8 (B false) (A7.nil (Wp.seq (Wp.region (A7.o 18 (.agg [.int .i64 xP.Kind,.int .i64 xP.Seq,.int .i64 xP.Tx,.int .i64 xP.Part,.int .i64 xP.Count,.str xP.Text]) (fG h 19 (fun v1=>(.tup [(Y v1.1),(B v1.2)])) rfl (l:=[.sv (.agg [.int .i64 xP.Kind,.int .i64 xP.Seq,.int .i64 xP.Tx,.int .i64 xP.Part,.int .i64 xP.Count,.str xP.Text])]) rfl (fun v hv=>Ro xP v hv) (.inl rfl) ?_)))))))))));intro v1 gv1 h;refine fF 19 17 (.tup [(Y v1.1),(B v1.2)]) (RV 17 0 20 (Y v1.1) (RV 17 1 21 (B v1.2) (A7.o 9 (Y v1.1) (A7.o 10 (B v1.2) (A7.nil (Wp.seq (Wp.region (A7.o 23 (.agg [.sl false 77 3 (Ah (Co false) xF.Blocks)]) (fG h 24 (fun v2=>(.tup [(I v2.1),(I v2.2.1),(B v2.2.2)])) rfl (l:=[.sv (.agg [.sl false 77 3 (Ah (Co false) xF.Blocks)])]) rfl (fun v hv=>iC xF v hv) (.inl rfl) ?_)))))))));intro v2 gv2 h;refine fF 24 22 (.tup [(I v2.1),(I v2.2.1),(B v2.2.2)]) (RV 22 0 25 (I v2.1) (RV 22 1 26 (I v2.2.1) (RV 22 2 27 (B v2.2.2) (A7.o 11 (I v2.1) (A7.o 12 (I v2.2.1) (A7.o 13 (B v2.2.2) (A7.nil (Wp.seq (Wp.seq (Bq h [1,3,6,9,11,12,33] [.box 3,.box 6] (fun a=>(SM xF b v1 v2 a)) ?_ ?_))))))))))
 ·intro a h;refine Wp.region (A7.o 28 (B v1.2) (A7.o 29 (B (!v1.2)) (A7.o 30 (B (!v1.2)) (QN h 30 (fun h=>?_) (fun h=>?_)))))
  ·refine Gr 31 (Gr 32 (A7.o 33 (B true) (A7.nil ?_)));cases h;exact⟨_,rfl,rfl,rfl⟩
  refine A7.o 31 (B v2.2.2) (A7.o 32 (B (!v2.2.2)) (A7.o 33 (B (!v2.2.2)) (A7.nil ?_)));cases h;exact⟨_,rfl,rfl,rfl⟩
 intro j1 h E hE;refine A9 hE ?_;change Wp _ _ _ (SM xF b v1 v2 j1) _;refine Wp.c h (fun h=>?_) (fun h=>?_)
 ·refine Wp.seq (Wp.region (A7.o 34 (.agg [.sl false 77 3 (Ah (Co false) xF.Blocks)]) (A7.o 35 (.one (.view (.slot 1) 0 [] 0)) (pL [] (.box 6) [.sl false 77 3 (Ah (Co false) xF.Blocks)] (yQ true [(.slot 1,[.junk])] 7 (.one (.sl true 203 4 (Ah CT b))) (A7.o 8 (B false) (A7.nil ?_)))))));cases h;exact Wp.ret ⟨.inr rfl,_,_,rfl,fC⟩
 refine Wp.skip (Wp.seq (Wp.region (A7.o 36 (I v2.1) (A7.o 37 (I v2.2.1) (A7.o 38 (Y v1.1) (A7.o 39 (.agg [.int .i64 1,.int .i64 v2.1,.int .i64 v2.2.1,.str v1.1]) (Mz [] 14 [.int .i64 0,.int .i64 0,.int .i64 0,.str (bs [])] (A7.s [] (.box 14) [.int .i64 1,.int .i64 v2.1,.int .i64 v2.2.1,.str v1.1] (A7.nil (Wp.seq (Wp.region (A7.o 41 (.agg [.sl false 77 3 (Ah (Co false) xF.Blocks)]) (A7.o 42 (.agg [.int .i64 1,.int .i64 v2.1,.int .i64 v2.2.1,.str v1.1]) ?_)))))))))))));refine fG h 43 (fun v3=>(.tup [(.agg [.sl true 77 3 (Ah (Co true) v3.1.Blocks)]),(B v3.2)])) rfl (l:=[.sv (.agg [.sl false 77 3 (Ah (Co false) xF.Blocks)]),.sv (.agg [.int .i64 1,.int .i64 v2.1,.int .i64 v2.2.1,.str v1.1])]) rfl (fun v hv=>Qy xF (BI.mk 1 v2.1 v2.2.1 v1.1) v hv) (.inl rfl) ?_;intro v3 gv3 h;refine fF 43 40 (.tup [(.agg [.sl true 77 3 (Ah (Co true) v3.1.Blocks)]),(B v3.2)]) (RV 40 0 44 (.agg [.sl true 77 3 (Ah (Co true) v3.1.Blocks)]) (RV 40 1 45 (B v3.2) (Mz [] 15 [.sl true 77 3 (Ah (Co true) [])] (pL [(.slot 44,[.junk])] (.box 15) [.sl true 77 3 (Ah (Co true) v3.1.Blocks)] (A7.o 16 (B v3.2) (A7.nil (Wp.seq (Bq h [6,7,8] [.box 6] (fun a=>(SL v3 a)) ?_ ?_))))))))
 ·intro a h;refine WC 9 [4,6] Ct (fun c E h=>by rcases h with⟨h|h,_⟩<;>cases h) (Dp.o 9 1 47 (.one (.view (.slot 1) 0 [] 0)) (Dp.o 9 2 48 (.agg [.int .i64 1,.int .i64 v2.1,.int .i64 v2.2.1,.str v1.1]) (yR 0 3 5 ?_ ?_ ?_)))
  ·refine DD.o 0 46 (.agg [.view (.box 15) 2 [] 0]) (Kn 3 5 ?_ ?_)
   ·refine HE 3 false [] 49 (.one (.sl true 203 4 (Ah CT [(BI.mk 1 v2.1 v2.2.1 v1.1)]))) (Kn 4 5 ?_ ?_)
    ·refine M0 h 4 [(.slot 1,[.junk])] 50 (fun q1=>(.one (.sl true 203 4 (Ah CT q1)))) ?_ rfl (fun q1 gq1=>O7 MY (fun _=>rfl) [(.slot 1,[.junk])] b gq1);intro q1 gq1 h;refine Kn 5 6 ?_ ?_
     ·refine DD.o 5 51 (B v3.2) (BS 6 (IB 6 [(.box 15,[.junk])] (.box 6) [.sl true 77 3 (Ah (Co true) v3.1.Blocks)] (BS 7 (HE 7 true [(.slot 50,[.junk])] 7 (.one (.sl true 203 4 (Ah CT q1))) (BS 8 (DD.o 8 8 (B v3.2) (DL ?_)))))));cases h;exact⟨_,rfl,rfl,rfl⟩
     refine IB 6 [(.box 15,[.junk])] (.box 6) [.sl true 77 3 (Ah (Co true) v3.1.Blocks)] (Kn 5 7 ?_ ?_)
     ·refine DD.o 5 51 (B v3.2) (BS 7 (HE 7 true [(.slot 50,[.junk])] 7 (.one (.sl true 203 4 (Ah CT q1))) (BS 8 (DD.o 8 8 (B v3.2) (DL ?_)))));cases h;exact⟨_,rfl,rfl,rfl⟩
     refine HE 7 true [(.slot 50,[.junk])] 7 (.one (.sl true 203 4 (Ah CT q1))) (BS 5 (DD.o 5 51 (B v3.2) (BS 8 (DD.o 8 8 (B v3.2) (DL ?_)))));cases h;exact⟨_,rfl,rfl,rfl⟩
    refine DD.o 5 51 (B v3.2) (BS 4 (M0 h 4 [(.slot 1,[.junk])] 50 (fun q2=>(.one (.sl true 203 4 (Ah CT q2)))) ?_ rfl (fun q2 gq2=>O7 MY (fun _=>rfl) [(.slot 1,[.junk])] b gq2)));intro q2 gq2 h;refine BS 6 (IB 6 [(.box 15,[.junk])] (.box 6) [.sl true 77 3 (Ah (Co true) v3.1.Blocks)] (BS 7 (HE 7 true [(.slot 50,[.junk])] 7 (.one (.sl true 203 4 (Ah CT q2))) (BS 8 (DD.o 8 8 (B v3.2) (DL ?_))))));cases h;exact⟨_,rfl,rfl,rfl⟩
   refine DD.o 5 51 (B v3.2) (BS 3 (HE 3 false [] 49 (.one (.sl true 203 4 (Ah CT [(BI.mk 1 v2.1 v2.2.1 v1.1)]))) (BS 4 (M0 h 4 [(.slot 1,[.junk])] 50 (fun q3=>(.one (.sl true 203 4 (Ah CT q3)))) ?_ rfl (fun q3 gq3=>O7 MY (fun _=>rfl) [(.slot 1,[.junk])] b gq3)))));intro q3 gq3 h;refine BS 6 (IB 6 [(.box 15,[.junk])] (.box 6) [.sl true 77 3 (Ah (Co true) v3.1.Blocks)] (BS 7 (HE 7 true [(.slot 50,[.junk])] 7 (.one (.sl true 203 4 (Ah CT q3))) (BS 8 (DD.o 8 8 (B v3.2) (DL ?_))))));cases h;exact⟨_,rfl,rfl,rfl⟩
  ·refine HE 3 false [] 49 (.one (.sl true 203 4 (Ah CT [(BI.mk 1 v2.1 v2.2.1 v1.1)]))) (yR 0 4 5 ?_ ?_ ?_)
   ·refine DD.o 0 46 (.agg [.view (.box 15) 2 [] 0]) (Kn 4 5 ?_ ?_)
    ·refine M0 h 4 [(.slot 1,[.junk])] 50 (fun q4=>(.one (.sl true 203 4 (Ah CT q4)))) ?_ rfl (fun q4 gq4=>O7 MY (fun _=>rfl) [(.slot 1,[.junk])] b gq4);intro q4 gq4 h;refine Kn 5 6 ?_ ?_
     ·refine DD.o 5 51 (B v3.2) (BS 6 (IB 6 [(.box 15,[.junk])] (.box 6) [.sl true 77 3 (Ah (Co true) v3.1.Blocks)] (BS 7 (HE 7 true [(.slot 50,[.junk])] 7 (.one (.sl true 203 4 (Ah CT q4))) (BS 8 (DD.o 8 8 (B v3.2) (DL ?_)))))));cases h;exact⟨_,rfl,rfl,rfl⟩
     refine IB 6 [(.box 15,[.junk])] (.box 6) [.sl true 77 3 (Ah (Co true) v3.1.Blocks)] (Kn 5 7 ?_ ?_)
     ·refine DD.o 5 51 (B v3.2) (BS 7 (HE 7 true [(.slot 50,[.junk])] 7 (.one (.sl true 203 4 (Ah CT q4))) (BS 8 (DD.o 8 8 (B v3.2) (DL ?_)))));cases h;exact⟨_,rfl,rfl,rfl⟩
     refine HE 7 true [(.slot 50,[.junk])] 7 (.one (.sl true 203 4 (Ah CT q4))) (BS 5 (DD.o 5 51 (B v3.2) (BS 8 (DD.o 8 8 (B v3.2) (DL ?_)))));cases h;exact⟨_,rfl,rfl,rfl⟩
    refine DD.o 5 51 (B v3.2) (BS 4 (M0 h 4 [(.slot 1,[.junk])] 50 (fun q5=>(.one (.sl true 203 4 (Ah CT q5)))) ?_ rfl (fun q5 gq5=>O7 MY (fun _=>rfl) [(.slot 1,[.junk])] b gq5)));intro q5 gq5 h;refine BS 6 (IB 6 [(.box 15,[.junk])] (.box 6) [.sl true 77 3 (Ah (Co true) v3.1.Blocks)] (BS 7 (HE 7 true [(.slot 50,[.junk])] 7 (.one (.sl true 203 4 (Ah CT q5))) (BS 8 (DD.o 8 8 (B v3.2) (DL ?_))))));cases h;exact⟨_,rfl,rfl,rfl⟩
   ·refine M0 h 4 [(.slot 1,[.junk])] 50 (fun q6=>(.one (.sl true 203 4 (Ah CT q6)))) ?_ rfl (fun q6 gq6=>O7 MY (fun _=>rfl) [(.slot 1,[.junk])] b gq6);intro q6 gq6 h;refine Kn 0 5 ?_ ?_
    ·refine DD.o 0 46 (.agg [.view (.box 15) 2 [] 0]) (Kn 5 6 ?_ ?_)
     ·refine DD.o 5 51 (B v3.2) (BS 6 (IB 6 [(.box 15,[.junk])] (.box 6) [.sl true 77 3 (Ah (Co true) v3.1.Blocks)] (BS 7 (HE 7 true [(.slot 50,[.junk])] 7 (.one (.sl true 203 4 (Ah CT q6))) (BS 8 (DD.o 8 8 (B v3.2) (DL ?_)))))));cases h;exact⟨_,rfl,rfl,rfl⟩
     refine IB 6 [(.box 15,[.junk])] (.box 6) [.sl true 77 3 (Ah (Co true) v3.1.Blocks)] (Kn 5 7 ?_ ?_)
     ·refine DD.o 5 51 (B v3.2) (BS 7 (HE 7 true [(.slot 50,[.junk])] 7 (.one (.sl true 203 4 (Ah CT q6))) (BS 8 (DD.o 8 8 (B v3.2) (DL ?_)))));cases h;exact⟨_,rfl,rfl,rfl⟩
     refine HE 7 true [(.slot 50,[.junk])] 7 (.one (.sl true 203 4 (Ah CT q6))) (BS 5 (DD.o 5 51 (B v3.2) (BS 8 (DD.o 8 8 (B v3.2) (DL ?_)))));cases h;exact⟨_,rfl,rfl,rfl⟩
    refine DD.o 5 51 (B v3.2) (BS 0 (DD.o 0 46 (.agg [.view (.box 15) 2 [] 0]) (BS 6 (IB 6 [(.box 15,[.junk])] (.box 6) [.sl true 77 3 (Ah (Co true) v3.1.Blocks)] (BS 7 (HE 7 true [(.slot 50,[.junk])] 7 (.one (.sl true 203 4 (Ah CT q6))) (BS 8 (DD.o 8 8 (B v3.2) (DL ?_)))))))));cases h;exact⟨_,rfl,rfl,rfl⟩
   refine DD.o 5 51 (B v3.2) (Kn 0 4 ?_ ?_)
   ·refine DD.o 0 46 (.agg [.view (.box 15) 2 [] 0]) (BS 4 (M0 h 4 [(.slot 1,[.junk])] 50 (fun q7=>(.one (.sl true 203 4 (Ah CT q7)))) ?_ rfl (fun q7 gq7=>O7 MY (fun _=>rfl) [(.slot 1,[.junk])] b gq7)));intro q7 gq7 h;refine BS 6 (IB 6 [(.box 15,[.junk])] (.box 6) [.sl true 77 3 (Ah (Co true) v3.1.Blocks)] (BS 7 (HE 7 true [(.slot 50,[.junk])] 7 (.one (.sl true 203 4 (Ah CT q7))) (BS 8 (DD.o 8 8 (B v3.2) (DL ?_))))));cases h;exact⟨_,rfl,rfl,rfl⟩
   refine M0 h 4 [(.slot 1,[.junk])] 50 (fun q8=>(.one (.sl true 203 4 (Ah CT q8)))) ?_ rfl (fun q8 gq8=>O7 MY (fun _=>rfl) [(.slot 1,[.junk])] b gq8);intro q8 gq8 h;refine BS 0 (DD.o 0 46 (.agg [.view (.box 15) 2 [] 0]) (BS 6 (IB 6 [(.box 15,[.junk])] (.box 6) [.sl true 77 3 (Ah (Co true) v3.1.Blocks)] (BS 7 (HE 7 true [(.slot 50,[.junk])] 7 (.one (.sl true 203 4 (Ah CT q8))) (BS 8 (DD.o 8 8 (B v3.2) (DL ?_))))))));cases h;exact⟨_,rfl,rfl,rfl⟩
  refine DD.o 5 51 (B v3.2) (Kn 0 3 ?_ ?_)
  ·refine DD.o 0 46 (.agg [.view (.box 15) 2 [] 0]) (BS 3 (HE 3 false [] 49 (.one (.sl true 203 4 (Ah CT [(BI.mk 1 v2.1 v2.2.1 v1.1)]))) (BS 4 (M0 h 4 [(.slot 1,[.junk])] 50 (fun q9=>(.one (.sl true 203 4 (Ah CT q9)))) ?_ rfl (fun q9 gq9=>O7 MY (fun _=>rfl) [(.slot 1,[.junk])] b gq9)))));intro q9 gq9 h;refine BS 6 (IB 6 [(.box 15,[.junk])] (.box 6) [.sl true 77 3 (Ah (Co true) v3.1.Blocks)] (BS 7 (HE 7 true [(.slot 50,[.junk])] 7 (.one (.sl true 203 4 (Ah CT q9))) (BS 8 (DD.o 8 8 (B v3.2) (DL ?_))))));cases h;exact⟨_,rfl,rfl,rfl⟩
  refine HE 3 false [] 49 (.one (.sl true 203 4 (Ah CT [(BI.mk 1 v2.1 v2.2.1 v1.1)]))) (Kn 0 4 ?_ ?_)
  ·refine DD.o 0 46 (.agg [.view (.box 15) 2 [] 0]) (BS 4 (M0 h 4 [(.slot 1,[.junk])] 50 (fun q10=>(.one (.sl true 203 4 (Ah CT q10)))) ?_ rfl (fun q10 gq10=>O7 MY (fun _=>rfl) [(.slot 1,[.junk])] b gq10)));intro q10 gq10 h;refine BS 6 (IB 6 [(.box 15,[.junk])] (.box 6) [.sl true 77 3 (Ah (Co true) v3.1.Blocks)] (BS 7 (HE 7 true [(.slot 50,[.junk])] 7 (.one (.sl true 203 4 (Ah CT q10))) (BS 8 (DD.o 8 8 (B v3.2) (DL ?_))))));cases h;exact⟨_,rfl,rfl,rfl⟩
  refine M0 h 4 [(.slot 1,[.junk])] 50 (fun q11=>(.one (.sl true 203 4 (Ah CT q11)))) ?_ rfl (fun q11 gq11=>O7 MY (fun _=>rfl) [(.slot 1,[.junk])] b gq11);intro q11 gq11 h;refine BS 0 (DD.o 0 46 (.agg [.view (.box 15) 2 [] 0]) (BS 6 (IB 6 [(.box 15,[.junk])] (.box 6) [.sl true 77 3 (Ah (Co true) v3.1.Blocks)] (BS 7 (HE 7 true [(.slot 50,[.junk])] 7 (.one (.sl true 203 4 (Ah CT q11))) (BS 8 (DD.o 8 8 (B v3.2) (DL ?_))))))));cases h;exact⟨_,rfl,rfl,rfl⟩
 intro j2 h E hE;refine A9 hE ?_;change Wp _ _ _ (SL v3 j2) _;cases h;exact Wp.ret ⟨.inr rfl,_,_,rfl,(ABy (Lo.c (ABz (qU.c (s8.s (Fw _)) wM)) (Lo.c fC (Lo.c fC fB))))⟩
theorem g8 (xR:Dk) (r:ByteArray×Bool) (h:Nm xR=some r):Ba Tryz.prog 158 [.sv (.agg [.int .i64 xR.Kind,.int .i64 xR.Vol,.int .i64 xR.Arg,.int .i64 xR.Chunk])] (.tup [(Y r.1),(B r.2)]) (List.replicate 1 .gone):=by
 unfold Nm at h;refine gk Tryz.func158 rfl Tryz.ntmps158 (ws (Ab 3 0 (RW.nil (Wp.seq (ws (Ab 1 0 (RW.c 0 h (Su _) (fun v1 gv1 h=>Ab 1 0 (RW.nil (wc h (fun h=>?_) (fun h=>?_)))))))))))
 ·refine ws (Ab 2 0 (RW.nil ?_));cases h;exact Wp.ret ⟨.inr rfl,BA (by kernel_rfl)⟩
 refine Wp.skip (Wp.seq (Er [] Ct (fun c E h=>by rcases h with⟨h|h,_⟩<;>cases h) (AC [0,1,2,3,4,5,7,8,11,12] 0 (BD 6 (KB.c 0 h (SS _) (fun v2 gv2 h=>BD 9 (KB.c 0 h (I1 _) (fun v3 gv3 h=>bd h fun x1 gx1 h=>KW.q 10 (OD gx1) (BD 13 (KB.c 0 h (I1 _) (fun v4 gv4 h=>bd h fun x2 gx2 h=>KW.q 14 (OD gx2) ?_)))))))))));refine AC [15,16] 0 (Ak ?_);cases h;exact Wp.ret ⟨.inr rfl,BA (by kernel_rfl)⟩
def yV (x:Page):List TV:=[.int .i64 x.Kind,.int .i64 x.Seq,.int .i64 x.Tx,.int .i64 x.Part,.int .i64 x.Count,.str x.Text]
theorem k52:∀x,(yV x).length=6:=fun _=>rfl
def aA (b:Int) (c:Int) (a:List Dk) (z1:List ByteArray) (z2:Int):St:=AE [(0,(I b)),(1,(I c)),(2,(.one (.sl false 99 4 (Ah Nd a)))),(8,(.one (.sl true 52 6 (Ah yV [])))),(9,(.one (.sl true 9 1 (Ah c9 z1)))),(10,(I z2))] []
def ZZ (a:Int) (b:Int) (z3:List ByteArray):St:=AE [(0,(I a)),(1,(I b)),(8,(.one (.sl true 52 6 (Ah yV [])))),(9,(.one (.sl true 9 1 (Ah c9 z3))))] []
def ZY (a:Int) (b:Int) (v2:List ByteArray) (z4:Bool):St:=AE [(0,(I a)),(1,(I b)),(8,(.one (.sl true 52 6 (Ah yV [])))),(9,(.one (.sl true 9 1 (Ah c9 v2)))),(76,(B z4))] []
def ZX (a:Int) (b:Int) (v2:List ByteArray) (z5:List Page) (z6:Int):St:=AE [(0,(I a)),(1,(I b)),(9,(.one (.sl true 9 1 (Ah c9 v2)))),(14,(.one (.sl true 52 6 (Ah yV z5)))),(15,(I z6))] []
def ZW (z7:List Page):St:=AE [(14,(.one (.sl true 52 6 (Ah yV z7))))] []
theorem gV (b:Int) (f:Int) (d:List Dk) (r:List Page×Bool) (h:LA b f d=some r):Ba Tryz.prog 131 [.sv (I b),.sv (I f),.sv (.one (.sl false 99 4 (Ah Nd d)))] (.tup [(.one (.sl true 52 6 (Ah yV r.1))),(B r.2)]) (List.replicate 3 .gone):=by
 unfold LA at h;refine gk Tryz.func131 rfl Tryz.ntmps131 (ws (Ab 2 0 (RW.nil (ws (Ab 2 2 (RW.nil (ws (Ab 2 2 (RW.nil (Wp.seq (ws (Ab 1 0 (RW.nil ?_)))))))))))));refine Em h [0,1,2,8,9,10] [] (fun s=>(aA b f d s.1 s.2)) [0,1,8,9] [] (fun s=>(ZZ b f s)) Ay ?_ ?_
 ·rintro⟨e,i⟩ o (h:GB d e i=some o) hk1;unfold GB at h;refine Wp.seq (ws (Ab 2 0 (RW.q (D5 Wi d) (Ab 1 0 (RW.nil (wc h (fun h=>?_) (fun h=>?_)))))))
  ·refine Wp.skip (Wp.seq (Wp.block (ws (Ab 2 0 (bd h fun x1 gx1 h=>RW.q (Ck Wi gx1) (RW.q (Rx Wi gx1 0 4) (RW.c 0 h (g8 _) (fun v1 gv1 h=>Ab 5 1 (RW.nil (Wp.seq (ws (Ab 2 0 ?_))))))))))));refine RW.nil (wc h (fun h=>?_) (fun h=>?_))
   ·refine ws (Ab 3 2 (RW.nil ?_));cases h;replace h:some _=some _:=hk1 _ rfl;cases h;exact Wp.ret ⟨.inr rfl,BA (by kernel_rfl)⟩
   refine Wp.skip (ws (Ab 1 0 (RW.q (D5 k9 e) (Ab 2 0 (RW.nil (ws (Ab 2 0 (bd h fun x2 gx2 h=>RW.q (Ck k9 gx2) (RW.q (CG k9 gx2 0) (Ab 5 0 (RW.nil (wc h (fun h=>?_) (fun h=>?_)))))))))))))
   ·refine Av (Ab 3 0 (bd h fun q1 gq1 h=>CW (DY k9 (fun _=>rfl) e gq1) (Ab 1 1 (RW.nil (Av (Ab 3 0 (RW.nil ?_)))))));cases h;exact⟨_,rfl,Ay⟩
   refine Av (Ab 4 0 (bd h fun x3 gx3 h=>RW.q (Ck k9 gx3) (RW.q (CG k9 gx3 0) (Ab 1 0 (bd h fun x4 gx4 h=>RW.q (OD gx4) (bd h fun x5 gx5 h=>RW.q (Ck k9 gx5) (CW (N1 k9 gx5 0 0 x4) (RW.nil (Av (Ab 3 0 ?_))))))))));refine RW.nil ?_;cases h;exact⟨_,rfl,Ay⟩
  refine Wp.exit ?_;cases h;exact⟨_,rfl,Ay⟩
 intro v2 h E hE;refine A9 hE (Wp.seq (Wp.seq (Bq h [0,1,8,9,76] [] (fun a=>(ZY b f v2 a)) ?_ ?_)))
 ·intro a h;refine Av (Ab 1 0 (RW.q (D5 k9 v2) (Ab 2 0 (AQ 63 h (fun h=>?_) (fun h=>?_)))))
  ·refine Ab 13 0 (RW.nil ?_);cases h;exact⟨_,rfl,Ay⟩
  refine Ab 2 0 (RW.q (D5 k9 v2) (Ab 2 0 (RW.c 0 h (BK _ _ _) (fun v3 gv3 h=>Ab 3 0 (AQ 72 h (fun h=>?_) (fun h=>?_))))))
  ·refine Ab 4 0 (RW.nil ?_);cases h;exact⟨_,rfl,Ay⟩
  refine Ab 1 0 (RW.c 0 h (BK _ _ _) (fun v4 gv4 h=>Ab 2 0 (RW.nil ?_)));cases h;exact⟨_,rfl,Ay⟩
 intro j1 h E hE;refine A9 hE (wc h (fun h=>?_) (fun h=>?_))
 ·refine ws (Ab 3 2 (RW.nil ?_));cases h;exact Wp.ret ⟨.inr rfl,BA (by kernel_rfl)⟩
 refine Wp.skip (ws (Ab 2 2 (RW.nil (Wp.seq (ws (Ab 1 0 (RW.nil (BP h [0,1,9,14,15] [] (fun s=>(ZX b f v2 s.1 s.2)) [14] [] (fun s=>(ZW s)) Ay ?_ ?_))))))))
 ·rintro⟨g,j⟩ o (h:GA b f v2 g j=some o);unfold GA at h;refine Wp.seq (ws (Ab 2 0 (RW.q (D5 k9 v2) (Ab 1 0 (RW.nil (wc h (fun h=>?_) (fun h=>?_)))))))
  ·refine Wp.skip (Wp.seq (Wp.block (Av (Ab 7 0 (RW.q (D5 k9 v2) (Ab 2 0 (bd h fun x6 gx6 h=>RW.q (Ck k9 gx6) (RW.q (CG k9 gx6 0) (Ab 2 0 (bd h fun q2 gq2 h=>CW (DY k52 (fun _=>rfl) g gq2) (Ab 1 1 ?_)))))))))));refine RW.nil (Av (Ab 3 0 (RW.nil ?_)));cases h;exact⟨_,rfl,Ay⟩
  refine Wp.exit ?_;cases h;exact⟨_,rfl,Ay⟩
 intro v5 h E hE;refine A9 hE (ws (Ab 3 2 (RW.nil ?_)));cases h;exact Wp.ret ⟨.inr rfl,BA (by kernel_rfl)⟩
def T6 (xD:AH) (a:List Dk) (z1:List BI) (z2:Int) (z3:Bool) (z4:List Block):St:=AE [(1,(.one (.sl false 99 4 (Ah Nd a)))),(3,(.one (.ptr (.box 3) 0 [] 0))),(8,(.one (.sl true 203 4 (Ah CT z1)))),(9,(.one (.ptr (.box 9) 0 [] 0))),(10,(I z2)),(11,(B z3))] [(.box 3,[.sl false 77 3 (Ah (Co false) xD.Flash.Blocks),.sl false 39 2 (Ah CC xD.Store.Vols),.sl false 150 2 (Ah (AS false) xD.Store.Arena.Knots),.int .i64 xD.Store.Next,.int .i64 xD.Seq,.int .i64 xD.Tx,.int .i64 xD.Base]),(.box 9,[.sl false 77 3 (Ah (Co false) z4)])]
def T5 (xD:AH) (a:List Dk) (z5:List BI) (z6:Bool) (z7:List Block):St:=AE [(1,(.one (.sl false 99 4 (Ah Nd a)))),(3,(.one (.ptr (.box 3) 0 [] 0))),(8,(.one (.sl true 203 4 (Ah CT z5)))),(9,(.one (.ptr (.box 9) 0 [] 0))),(10,(I xD.Seq)),(11,(B z6))] [(.box 3,[.sl false 77 3 (Ah (Co false) xD.Flash.Blocks),.sl false 39 2 (Ah CC xD.Store.Vols),.sl false 150 2 (Ah (AS false) xD.Store.Arena.Knots),.int .i64 xD.Store.Next,.int .i64 xD.Seq,.int .i64 xD.Tx,.int .i64 xD.Base]),(.box 9,[.sl false 77 3 (Ah (Co false) z7)])]
def T4 (v2:List Page×Bool) (z8:List BI) (z9:Bool) (z10:Int) (z11:List Block):St:=AE [(8,(.one (.sl true 203 4 (Ah CT z8)))),(9,(.one (.ptr (.box 9) 0 [] 0))),(11,(B z9)),(12,(.one (.sl true 52 6 (Ah yV v2.1)))),(13,(B v2.2)),(14,(I z10))] [(.box 9,[.sl false 77 3 (Ah (Co false) z11)])]
def T3 (v2:List Page×Bool) (z12:List BI) (z13:Bool):St:=AE [(8,(.one (.sl true 203 4 (Ah CT z12)))),(11,(B z13)),(13,(B v2.2))] []
def T1 (v2:List Page×Bool) (a:List BI) (b:Bool) (d:Int) (c:List Block) (z14:Bool):St:=AE [(8,(.one (.sl true 203 4 (Ah CT a)))),(9,(.one (.ptr (.box 9) 0 [] 0))),(11,(B b)),(12,(.one (.sl true 52 6 (Ah yV v2.1)))),(13,(B v2.2)),(14,(I d)),(59,(B z14))] [(.box 9,[.sl false 77 3 (Ah (Co false) c)])]
def Tz (v2:List Page×Bool) (a:Int) (z15:List BI) (z16:Bool) (z17:List Block):St:=AE [(8,(.one (.sl true 203 4 (Ah CT z15)))),(9,(.one (.ptr (.box 9) 0 [] 0))),(11,(B z16)),(12,(.one (.sl true 52 6 (Ah yV v2.1)))),(13,(B v2.2)),(14,(I a))] [(.box 9,[.sl false 77 3 (Ah (Co false) z17)])]
def Ty (v4:List BI×Bool) (z18:Bool):St:=AE [(8,(.one (.sl true 203 4 (Ah CT v4.1)))),(78,(B z18))] []
set_option maxHeartbeats 4000000 in
theorem OY (xD:AH) (b:List Dk) (e:ByteArray) (r:List BI×Bool) (h:Ee xD b e=some r):Ba Tryz.prog 100 [.sv (.agg [.sl false 77 3 (Ah (Co false) xD.Flash.Blocks),.sl false 39 2 (Ah CC xD.Store.Vols),.sl false 150 2 (Ah (AS false) xD.Store.Arena.Knots),.int .i64 xD.Store.Next,.int .i64 xD.Seq,.int .i64 xD.Tx,.int .i64 xD.Base]),.sv (.one (.sl false 99 4 (Ah Nd b))),.sv (Y e)] (.tup [(.one (.sl true 203 4 (Ah CT r.1))),(B r.2)]) (List.replicate 3 .gone):=by
 unfold Ee at h;refine gk Tryz.func100 rfl Tryz.ntmps100 (ws (Ab 3 0 (RW.nil (ws (Ab 2 2 (RW.nil (Wp.seq (ws (Ab 1 0 (RW.q (D5 Wi b) (Ab 1 0 (RW.nil (wc h (fun h=>?_) (fun h=>?_))))))))))))))
 ·refine ws (Ab 3 2 (RW.nil ?_));cases h;exact Wp.ret ⟨.inr rfl,BA (by kernel_rfl)⟩
 refine Wp.skip (ws (Ab 4 0 (RW.nil (ws (Ab 3 0 (RW.nil (ws (Ab 1 0 (RW.nil (Wp.seq (ws (Ab 2 0 (RW.nil ?_)))))))))))));refine Bq h [1,3,8,9,10,11] [.box 3,.box 9] (fun a=>(T6 xD b a.1 a.2.1 a.2.2.1 a.2.2.2)) ?_ ?_
 ·intro a h;refine wc h (fun h=>?_) (fun h=>?_)
  ·refine Wp.seq (Bq h [1,3,8,9,10,11] [.box 3,.box 9] (fun a=>(T5 xD b a.1 a.2.1 a.2.2)) ?_ ?_)
   ·intro a h;refine Er [12,17] Ct (fun c E h=>by rcases h with⟨h|h,_⟩<;>cases h) (AC [0,1,2,3,4] 0 (KW.q 5 (D5 Wi b) (AC [6] 0 (bd h fun x1 gx1 h=>KW.q 7 (Ck Wi gx1) (KW.q 8 (DB Wi gx1 0 3) (KW.q 9 (CG Wi gx1 3) (AC [10,11] 0 (BD 12 (KB.c 2 h (Qw _ _ _) (fun v1 gv1 h=>AC [13] 1 (Hg 14 15 16 ?_ ?_ ?_)))))))))))
    ·refine KB.o false (Hg 15 16 17 ?_ ?_ ?_)
     ·refine KB.o false (Be 16 17 ?_ ?_)
      ·refine KB.o false (AC [17,18,19] 2 (Ak ?_));cases h;exact⟨_,rfl,Ay⟩
      refine KB.o false (Be 16 18 ?_ ?_)
      ·refine KB.o false (AC [18,19] 1 (Ak ?_));cases h;exact⟨_,rfl,Ay⟩
      refine KB.o true (AC [16,19] 0 (Ak ?_));cases h;exact⟨_,rfl,Ay⟩
     ·refine KB.o false (Be 15 17 ?_ ?_)
      ·refine KB.o false (AC [17,18,19] 2 (Ak ?_));cases h;exact⟨_,rfl,Ay⟩
      refine KB.o false (AC [15,18,19] 2 (Ak ?_));cases h;exact⟨_,rfl,Ay⟩
     refine KB.o false (Be 15 16 ?_ ?_)
     ·refine KB.o false (Be 16 18 ?_ ?_)
      ·refine KB.o false (AC [18,19] 1 (Ak ?_));cases h;exact⟨_,rfl,Ay⟩
      refine KB.o true (AC [16,19] 0 (Ak ?_));cases h;exact⟨_,rfl,Ay⟩
     refine KB.o false (AC [15,18,19] 2 (Ak ?_));cases h;exact⟨_,rfl,Ay⟩
    ·refine KB.o false (Be 14 16 ?_ ?_)
     ·refine KB.o false (Be 16 17 ?_ ?_)
      ·refine KB.o false (AC [17,18,19] 2 (Ak ?_));cases h;exact⟨_,rfl,Ay⟩
      refine KB.o false (Be 16 18 ?_ ?_)
      ·refine KB.o false (AC [18,19] 1 (Ak ?_));cases h;exact⟨_,rfl,Ay⟩
      refine KB.o true (AC [16,19] 0 (Ak ?_));cases h;exact⟨_,rfl,Ay⟩
     refine KB.o false (AC [14,17,18,19] 4 (Ak ?_));cases h;exact⟨_,rfl,Ay⟩
    refine KB.o false (Be 14 15 ?_ ?_)
    ·refine KB.o false (Be 15 17 ?_ ?_)
     ·refine KB.o false (AC [17,18,19] 2 (Ak ?_));cases h;exact⟨_,rfl,Ay⟩
     refine KB.o false (AC [15,18,19] 2 (Ak ?_));cases h;exact⟨_,rfl,Ay⟩
    refine KB.o false (AC [14,17,18,19] 4 (Ak ?_));cases h;exact⟨_,rfl,Ay⟩
   intro j2 h E hE;refine A9 hE (Av (Ab 3 0 (RW.nil ?_)));cases h;exact⟨_,rfl,Ay⟩
  refine Wp.skip ?_;cases h;exact⟨_,rfl,Ay⟩
 intro j1 h E hE;refine A9 hE (ws (Ab 4 0 (RW.c 0 h (gV _ _ _) (fun v2 gv2 h=>Ab 5 9 (RW.nil (Wp.seq (ws (Ab 1 0 (RW.nil (BP h [8,9,11,12,13,14] [.box 9] (fun s=>(T4 v2 s.1 s.2.1 s.2.2.1 s.2.2.2)) [8,11,13] [] (fun s=>(T3 v2 s.1 s.2)) Ay ?_ ?_))))))))))
 ·rintro⟨d,f,i,g⟩ o (h:Et v2 d f i g=some o);unfold Et at h;refine Wp.seq (Wp.seq (Bq h [8,9,11,12,13,14,59] [.box 9] (fun a=>(T1 v2 d f i g a)) ?_ ?_))
  ·intro a h;refine Av (Ab 2 0 (RW.q (D5 k52 v2.1) (Ab 2 0 (AQ 57 h (fun h=>?_) (fun h=>?_)))))
   ·refine Ab 2 0 (RW.nil ?_);cases h;exact⟨_,rfl,Ay⟩
   refine Ab 2 0 (RW.nil ?_);cases h;exact⟨_,rfl,Ay⟩
  intro j3 h E hE;refine A9 hE (wc h (fun h=>?_) (fun h=>?_))
  ·refine Wp.skip (Wp.seq (Wp.block (Bq h [8,9,11,12,13,14] [.box 9] (fun a=>(Tz v2 i a.1 a.2.1 a.2.2)) ?_ ?_)))
   ·intro a h;refine Er [6,11] Ct (fun c E h=>by rcases h with⟨h|h,_⟩<;>cases h) (AC [0,1,2,3] 0 (bd h fun x2 gx2 h=>KW.q 4 (Ck k52 gx2) (KW.q 5 (Rx k52 gx2 0 6) (BD 6 (KB.c 2 h (Qw _ _ _) (fun v3 gv3 h=>AC [7] 1 (Hg 8 9 10 ?_ ?_ ?_)))))))
    ·refine KB.o false (Hg 9 10 11 ?_ ?_ ?_)
     ·refine KB.o false (Be 10 11 ?_ ?_)
      ·refine KB.o false (AC [11,12,13] 2 (Ak ?_));cases h;exact⟨_,rfl,Ay⟩
      refine KB.o false (Be 10 12 ?_ ?_)
      ·refine KB.o false (AC [12,13] 1 (Ak ?_));cases h;exact⟨_,rfl,Ay⟩
      refine KB.o true (AC [10,13] 0 (Ak ?_));cases h;exact⟨_,rfl,Ay⟩
     ·refine KB.o false (Be 9 11 ?_ ?_)
      ·refine KB.o false (AC [11,12,13] 2 (Ak ?_));cases h;exact⟨_,rfl,Ay⟩
      refine KB.o false (AC [9,12,13] 2 (Ak ?_));cases h;exact⟨_,rfl,Ay⟩
     refine KB.o false (Be 9 10 ?_ ?_)
     ·refine KB.o false (Be 10 12 ?_ ?_)
      ·refine KB.o false (AC [12,13] 1 (Ak ?_));cases h;exact⟨_,rfl,Ay⟩
      refine KB.o true (AC [10,13] 0 (Ak ?_));cases h;exact⟨_,rfl,Ay⟩
     refine KB.o false (AC [9,12,13] 2 (Ak ?_));cases h;exact⟨_,rfl,Ay⟩
    ·refine KB.o false (Be 8 10 ?_ ?_)
     ·refine KB.o false (Be 10 11 ?_ ?_)
      ·refine KB.o false (AC [11,12,13] 2 (Ak ?_));cases h;exact⟨_,rfl,Ay⟩
      refine KB.o false (Be 10 12 ?_ ?_)
      ·refine KB.o false (AC [12,13] 1 (Ak ?_));cases h;exact⟨_,rfl,Ay⟩
      refine KB.o true (AC [10,13] 0 (Ak ?_));cases h;exact⟨_,rfl,Ay⟩
     refine KB.o false (AC [8,11,12,13] 4 (Ak ?_));cases h;exact⟨_,rfl,Ay⟩
    refine KB.o false (Be 8 9 ?_ ?_)
    ·refine KB.o false (Be 9 11 ?_ ?_)
     ·refine KB.o false (AC [11,12,13] 2 (Ak ?_));cases h;exact⟨_,rfl,Ay⟩
     refine KB.o false (AC [9,12,13] 2 (Ak ?_));cases h;exact⟨_,rfl,Ay⟩
    refine KB.o false (AC [8,11,12,13] 4 (Ak ?_));cases h;exact⟨_,rfl,Ay⟩
   intro j4 h E hE;refine A9 hE (Av (Ab 3 0 (RW.nil ?_)));cases h;exact⟨_,rfl,Ay⟩
  refine Wp.exit ?_;cases h;exact⟨_,rfl,Ay⟩
 intro v4 h E hE;refine A9 hE (Wp.seq (Wp.seq (Bq h [8,78] [] (fun a=>(Ty v4 a)) ?_ ?_)))
 ·intro a h;refine Av (Ab 3 0 (AQ 75 h (fun h=>?_) (fun h=>?_)))
  ·refine Ab 3 0 (RW.nil ?_);cases h;exact⟨_,rfl,Ay⟩
  refine Ab 3 0 (RW.nil ?_);cases h;exact⟨_,rfl,Ay⟩
 intro j5 h E hE;refine A9 hE (wc h (fun h=>?_) (fun h=>?_))
 ·refine ws (Ab 3 2 (RW.nil ?_));cases h;exact Wp.ret ⟨.inr rfl,BA (by kernel_rfl)⟩
 refine Wp.skip (ws (Ab 3 2 (RW.nil ?_)));cases h;exact Wp.ret ⟨.inr rfl,BA (by kernel_rfl)⟩
theorem XT (xD:AH) (r:List BI×Bool) (h:ME xD=some r):Ba Tryz.prog 153 [.sv (.agg [.sl false 77 3 (Ah (Co false) xD.Flash.Blocks),.sl false 39 2 (Ah CC xD.Store.Vols),.sl false 150 2 (Ah (AS false) xD.Store.Arena.Knots),.int .i64 xD.Store.Next,.int .i64 xD.Seq,.int .i64 xD.Tx,.int .i64 xD.Base])] (.tup [(.one (.sl true 203 4 (Ah CT r.1))),(B r.2)]) (List.replicate 1 .gone):=by
 unfold ME at h;refine gk Tryz.func153 rfl Tryz.ntmps153 (ws (Ab 3 0 (RW.nil (Wp.seq (Er [] Ct (fun c E h=>by rcases h with⟨h|h,_⟩<;>cases h) (AC [0,1,2] 0 (BD 3 (KB.c 0 h (cH _) (fun v1 gv1 h=>BD 4 (KB.c 0 h (gs (ca rfl (ca (co (cs (ABa _))) rfl)) (OY _ _ _)) (fun v2 gv2 h=>Jx 5 (Jx 6 (AC [7,8] 0 ?_))) (hc:=(.inr (fun v=>by simp [BF,BM,AX,BC,wD])))))))))))));refine Ak ?_;cases h;exact Wp.ret ⟨.inr rfl,BA (by kernel_rfl)⟩
def Xi (xD:AH) (v1:List Ar) (v3:List Bool) (v4:List Bool) (z1:Int) (z2:Int) (z3:Int):St:=AE [(1,(.one (.ptr (.box 1) 0 [] 0))),(3,(.one (.sl true 54 8 (Ah GQ v1)))),(5,(.one (.sl true 4 1 (Ah c4 v3)))),(6,(.one (.sl true 4 1 (Ah c4 v4)))),(7,(I z1)),(8,(I z2)),(9,(I z3))] [(.box 1,[.sl false 77 3 (Ah (Co false) xD.Flash.Blocks),.sl false 39 2 (Ah CC xD.Store.Vols),.sl false 150 2 (Ah (AS false) xD.Store.Arena.Knots),.int .i64 xD.Store.Next,.int .i64 xD.Seq,.int .i64 xD.Tx,.int .i64 xD.Base])]
def Xh (z4:Int):St:=AE [(7,(I z4))] []
def Xg (xD:AH) (v1:List Ar) (v3:List Bool) (v4:List Bool) (b:Int) (a:Int) (c:Int) (v5:Int) (z5:Bool):St:=AE [(1,(.one (.ptr (.box 1) 0 [] 0))),(3,(.one (.sl true 54 8 (Ah GQ v1)))),(5,(.one (.sl true 4 1 (Ah c4 v3)))),(6,(.one (.sl true 4 1 (Ah c4 v4)))),(7,(I b)),(8,(I a)),(9,(I c)),(11,(I v5)),(68,(B z5))] [(.box 1,[.sl false 77 3 (Ah (Co false) xD.Flash.Blocks),.sl false 39 2 (Ah CC xD.Store.Vols),.sl false 150 2 (Ah (AS false) xD.Store.Arena.Knots),.int .i64 xD.Store.Next,.int .i64 xD.Seq,.int .i64 xD.Tx,.int .i64 xD.Base])]
theorem ZU (xD:AH) (r:Int) (h:LW xD=some r):Ba Tryz.prog 154 [.sv (.agg [.sl false 77 3 (Ah (Co false) xD.Flash.Blocks),.sl false 39 2 (Ah CC xD.Store.Vols),.sl false 150 2 (Ah (AS false) xD.Store.Arena.Knots),.int .i64 xD.Store.Next,.int .i64 xD.Seq,.int .i64 xD.Tx,.int .i64 xD.Base])] (I r) (List.replicate 1 .gone):=by
 unfold LW at h;refine gk Tryz.func154 rfl Tryz.ntmps154 (ws (Ab 2 0 (RW.nil (ws (Ab 2 0 (RW.c 0 h (G0 _) (fun v1 gv1 h=>Ab 1 1 (RW.nil (ws (Ab 2 0 (RW.c 0 h (NT _) (fun v2 gv2 h=>Ab 1 1 (RW.nil ?_)))))))))))));refine ws (Ab 4 0 (RW.c 0 h (gs (ca (co (cs (Tu _))) (ca (co (cs (lL _))) rfl)) (Kv _ _ _)) (fun v3 gv3 h=>Ab 1 1 (RW.nil (ws (Ab 2 0 (RW.c 0 h (gs (ca (co (cs (Tu _))) (ca (co (cs (lL _))) rfl)) (Kv _ _ _)) (fun v4 gv4 h=>Ab 1 1 (RW.nil (ws (Ab 1 0 (RW.nil (ws ?_)))))) (hc:=(.inr (fun v=>by simp [BF,BM,AX,BC,ns4])))))))) (hc:=(.inr (fun v=>by simp [BF,BM,AX,BC,ns4])))));refine Ab 1 0 (RW.nil (Wp.seq (ws (Ab 1 0 (RW.nil (BP h [1,3,5,6,7,8,9] [.box 1] (fun s=>(Xi xD v1 v3 v4 s.1 s.2.1 s.2.2)) [7] [] (fun s=>(Xh s)) Ay ?_ ?_))))))
 ·rintro⟨d,b,e⟩ o (h:FO xD v1 v3 v4 d b e=some o);unfold FO at h;refine Wp.seq (ws (Ab 4 0 (RW.q (D5 (Fp false) xD.Flash.Blocks) (Ab 1 0 (RW.nil (wc h (fun h=>?_) (fun h=>?_)))))))
  ·refine Wp.skip (Wp.seq (Wp.block (ws (Ab 4 0 (bd h fun x1 gx1 h=>RW.q (Ck (Fp false) gx1) (RW.q (Rx (Fp false) gx1 0 3) (Ab 2 0 (RW.nil (ws (Ab 3 0 (RW.c 0 h (gs (ca (co (cs (Tu _))) (ca (co (cs (sh4 _))) rfl)) (Sj _ _ _)) (fun v5 gv5 h=>Ab 1 0 ?_) (hc:=(.inr (fun v=>rfl))))))))))))));refine RW.nil (Wp.seq (Bq h [1,3,5,6,7,8,9,11,68] [.box 1] (fun a=>(Xg xD v1 v3 v4 d b e v5 a)) ?_ ?_))
   ·intro a h;refine Av (Ab 4 0 (AQ 47 h (fun h=>?_) (fun h=>?_)))
    ·refine Ab 1 0 (RW.c 0 h (MV _) (fun v6 gv6 h=>Ab 3 0 (AQ 52 h (fun h=>?_) (fun h=>?_))))
     ·refine Ab 4 0 (RW.c 0 h (gs (ca (co (cs (Tu _))) (ca (co (cs (sh4 _))) rfl)) (Sj _ _ _)) (fun v7 gv7 h=>Ab 3 0 (AQ 60 h (fun h=>?_) (fun h=>?_))) (hc:=(.inr (fun v=>rfl))))
      ·refine Ab 4 0 (AQ 64 h (fun h=>?_) (fun h=>?_))
       ·refine Ab 4 0 (RW.nil ?_);cases h;exact⟨_,rfl,Ay⟩
       refine Ab 4 0 (RW.nil ?_);cases h;exact⟨_,rfl,Ay⟩
      refine Ab 8 0 (RW.nil ?_);cases h;exact⟨_,rfl,Ay⟩
     refine Ab 16 0 (RW.nil ?_);cases h;exact⟨_,rfl,Ay⟩
    refine Ab 21 0 (RW.nil ?_);cases h;exact⟨_,rfl,Ay⟩
   intro j1 h E hE;refine A9 hE (wc h (fun h=>?_) (fun h=>?_))
   ·refine ws (Ab 2 0 (RW.nil (Av (Ab 2 0 (RW.nil (Av (Ab 3 0 (RW.nil ?_))))))));cases h;exact⟨_,rfl,Ay⟩
   refine Wp.skip (Av (Ab 3 0 (RW.nil ?_)));cases h;exact⟨_,rfl,Ay⟩
  refine Wp.exit ?_;cases h;exact⟨_,rfl,Ay⟩
 intro v8 h E hE;refine A9 hE (ws (Ab 2 0 (RW.nil ?_)));cases h;exact Wp.ret ⟨.inr rfl,BA (by kernel_rfl)⟩
def VG (xB:Int) (v1:List Ar) (v3:List Bool) (z1:List BI) (z2:Int) (z3:Int) (z4:List Block):St:=AE [(1,(I xB)),(6,(.one (.sl true 54 8 (Ah GQ v1)))),(7,(.one (.sl true 4 1 (Ah c4 v3)))),(8,(.one (.sl true 203 4 (Ah CT z1)))),(9,(.one (.ptr (.box 9) 0 [] 0))),(10,(I z2)),(11,(I z3))] [(.box 9,[.sl false 77 3 (Ah (Co false) z4)])]
def VF (z5:List BI):St:=AE [(8,(.one (.sl true 203 4 (Ah CT z5))))] []
def VE (xB:Int) (v1:List Ar) (v3:List Bool) (a:Int) (z6:List BI) (z7:Int) (z8:Int) (z9:List Block):St:=AE [(1,(I xB)),(6,(.one (.sl true 54 8 (Ah GQ v1)))),(7,(.one (.sl true 4 1 (Ah c4 v3)))),(8,(.one (.sl true 203 4 (Ah CT z6)))),(9,(.one (.ptr (.box 9) 0 [] 0))),(10,(I z7)),(11,(I a)),(12,(I z8))] [(.box 9,[.sl false 77 3 (Ah (Co false) z9)])]
def VD (xB:Int) (v1:List Ar) (v3:List Bool) (a:Int) (z10:List BI) (z11:Int) (z12:List Block):St:=AE [(1,(I xB)),(6,(.one (.sl true 54 8 (Ah GQ v1)))),(7,(.one (.sl true 4 1 (Ah c4 v3)))),(8,(.one (.sl true 203 4 (Ah CT z10)))),(9,(.one (.ptr (.box 9) 0 [] 0))),(10,(I z11)),(11,(I a))] [(.box 9,[.sl false 77 3 (Ah (Co false) z12)])]
def VC (xB:Int) (v1:List Ar) (v3:List Bool) (b:Int) (a:List BI) (c:Int) (e:Int) (d:List Block) (z13:Bool):St:=AE [(1,(I xB)),(6,(.one (.sl true 54 8 (Ah GQ v1)))),(7,(.one (.sl true 4 1 (Ah c4 v3)))),(8,(.one (.sl true 203 4 (Ah CT a)))),(9,(.one (.ptr (.box 9) 0 [] 0))),(10,(I c)),(11,(I b)),(12,(I e)),(62,(B z13))] [(.box 9,[.sl false 77 3 (Ah (Co false) d)])]
def VB (xB:Int) (v1:List Ar) (v3:List Bool) (a:Int) (b:Int) (d:Int) (c:List Block) (v4:Flash×List BI×Bool) (z14:Bool):St:=AE [(1,(I xB)),(6,(.one (.sl true 54 8 (Ah GQ v1)))),(7,(.one (.sl true 4 1 (Ah c4 v3)))),(9,(.one (.ptr (.box 9) 0 [] 0))),(10,(I b)),(11,(I a)),(12,(I d)),(14,(.one (.ptr (.box 14) 0 [] 0))),(15,(.one (.sl true 203 4 (Ah CT v4.2.1)))),(90,(B z14))] [(.box 9,[.sl false 77 3 (Ah (Co false) c)]),(.box 14,[.sl false 77 3 (Ah (Co false) v4.1.Blocks)])]
theorem X8 (xD:AH) (xB:Int) (r:List BI×Bool) (h:IL xD xB=some r):Ba Tryz.prog 155 [.sv (.agg [.sl false 77 3 (Ah (Co false) xD.Flash.Blocks),.sl false 39 2 (Ah CC xD.Store.Vols),.sl false 150 2 (Ah (AS false) xD.Store.Arena.Knots),.int .i64 xD.Store.Next,.int .i64 xD.Seq,.int .i64 xD.Tx,.int .i64 xD.Base]),.sv (I xB)] (.tup [(.one (.sl true 203 4 (Ah CT r.1))),(B r.2)]) (List.replicate 2 .gone):=by
 unfold IL at h;refine gk Tryz.func155 rfl Tryz.ntmps155 (ws (Ab 3 0 (RW.nil (ws (Ab 2 0 (RW.c 0 h (G0 _) (fun v1 gv1 h=>Ab 1 1 (RW.nil (ws (Ab 3 0 (RW.c 0 h (NT _) (fun v2 gv2 h=>RW.c 0 h (gs (ca (co (cs (Tu _))) (ca (co (cs (lL _))) rfl)) (Kv _ _ _)) (fun v3 gv3 h=>Ab 1 1 ?_) (hc:=(.inr (fun v=>by simp [BF,BM,AX,BC,ns4])))))))))))))));refine RW.nil (ws (Ab 2 2 (RW.nil (ws (Ab 4 0 (RW.nil (ws (Ab 3 0 (RW.nil (Wp.seq (ws (Ab 1 0 (RW.nil ?_)))))))))))));refine Em h [1,6,7,8,9,10,11] [.box 9] (fun s=>(VG xB v1 v3 s.1 s.2.1 s.2.2.1 s.2.2.2)) [8] [] (fun s=>(VF s)) Ay ?_ ?_
 ·rintro⟨f,i,b,k⟩ o (h:Fc xB v1 v3 f i b k=some o) hk1;unfold Fc at h;refine Wp.seq (ws (Ab 2 0 (RW.nil (wc h (fun h=>?_) (fun h=>?_)))))
  ·refine Wp.skip (Wp.seq (Wp.block (ws (Ab 1 0 (RW.nil (Em h [1,6,7,8,9,10,11,12] [.box 9] (fun s=>(VE xB v1 v3 b s.1 s.2.1 s.2.2.1 s.2.2.2)) [1,6,7,8,9,10,11] [.box 9] (fun s=>(VD xB v1 v3 b s.1 s.2.1 s.2.2)) Ay ?_ ?_))))))
   ·rintro⟨d,e,j,g⟩ o (h:EZ xB v1 v3 b d e j g=some o) hk2;unfold EZ at h;refine Wp.seq (ws (Ab 2 0 (RW.q (D5 EG v1) (Ab 1 0 (RW.nil (wc h (fun h=>?_) (fun h=>?_)))))))
    ·refine Wp.skip (Wp.seq (Wp.block (Wp.seq (Wp.seq (Bq h [1,6,7,8,9,10,11,12,62] [.box 9] (fun a=>(VC xB v1 v3 b d e j g a)) ?_ ?_)))))
     ·intro a h;refine Av (Ab 2 0 (bd h fun x1 gx1 h=>RW.q (Ck k4 gx1) (RW.q (CG k4 gx1 0) (Ab 2 0 (AQ 45 h (fun h=>?_) (fun h=>?_))))))
      ·refine Ab 17 0 (RW.nil ?_);cases h;exact⟨_,rfl,Ay⟩
      refine Ab 2 0 (bd h fun x2 gx2 h=>RW.q (Ck EG gx2) (RW.q (DB EG gx2 0 0) (RW.q (CG EG gx2 0) (Ab 4 0 (AQ 54 h (fun h=>?_) (fun h=>?_))))))
      ·refine Ab 8 0 (RW.nil ?_);cases h;exact⟨_,rfl,Ay⟩
      refine Ab 2 0 (bd h fun x3 gx3 h=>RW.q (Ck EG gx3) (RW.q (DB EG gx3 0 1) (RW.q (CG EG gx3 1) (Ab 3 0 (RW.nil ?_)))));cases h;exact⟨_,rfl,Ay⟩
     intro j1 h E hE;refine A9 hE (wc h (fun h=>?_) (fun h=>?_))
     ·refine Wp.exit (Av (Ab 3 0 (RW.nil ?_)));cases h;exact⟨_,rfl,Ay⟩
     refine Wp.skip (ws (Ab 2 0 (bd h fun x4 gx4 h=>RW.q (Ck EG gx4) (RW.q (DB EG gx4 0 2) (RW.q (Rx EG gx4 2 6) (Ab 2 0 (RW.nil (ws (Ab 3 0 (RW.nil (ws (Ab 3 0 ?_))))))))))));refine RW.c 2 h (Qw _ _ _) (fun v4 gv4 h=>Ab 8 65 (RW.nil (Wp.seq (Wp.seq (Bq h [1,6,7,9,10,11,12,14,15,90] [.box 9,.box 14] (fun a=>(VB xB v1 v3 b e j g v4 a)) ?_ ?_)))))
     ·intro a h;refine Av (Ab 3 0 (AQ 80 h (fun h=>?_) (fun h=>?_)))
      ·refine Ab 10 0 (RW.nil ?_);cases h;exact⟨_,rfl,Ay⟩
      refine Ab 2 0 (RW.q (D5 MY v4.2.1) (Ab 1 0 (bd h fun x5 gx5 h=>RW.q (Ck MY gx5) (RW.q (DB MY gx5 0 1) (RW.q (CG MY gx5 1) (Ab 3 0 (RW.nil ?_)))))));cases h;exact⟨_,rfl,Ay⟩
     intro j2 h E hE;refine A9 hE (wc h (fun h=>?_) (fun h=>?_))
     ·refine ws (Ab 3 2 (RW.nil ?_));cases h;replace h:some _=some _:=hk2 _ rfl;cases h;replace h:some _=some _:=hk1 _ rfl;cases h;exact Wp.ret ⟨.inr rfl,BA (by kernel_rfl)⟩
     refine Wp.skip (ws (Ab 2 0 (RW.nil (ws (Ab 2 2 (RW.nil (Av (Ab 3 0 (RW.nil (Av (Ab 3 0 (RW.nil ?_))))))))))));cases h;exact⟨_,rfl,Ay⟩
    refine Wp.exit ?_;cases h;exact⟨_,rfl,Ay⟩
   intro v5 h E hE;refine A9 hE (Av (Ab 3 0 (RW.nil ?_)));cases h;exact⟨_,rfl,Ay⟩
  refine Wp.exit ?_;cases h;exact⟨_,rfl,Ay⟩
 intro v6 h E hE;refine A9 hE (ws (Ab 3 2 (RW.nil ?_)));cases h;exact Wp.ret ⟨.inr rfl,BA (by kernel_rfl)⟩
theorem cF (xD:AH) (r:List BI×Bool) (h:Me xD=some r):Ba Tryz.prog 129 [.sv (.agg [.sl false 77 3 (Ah (Co false) xD.Flash.Blocks),.sl false 39 2 (Ah CC xD.Store.Vols),.sl false 150 2 (Ah (AS false) xD.Store.Arena.Knots),.int .i64 xD.Store.Next,.int .i64 xD.Seq,.int .i64 xD.Tx,.int .i64 xD.Base])] (.tup [(.one (.sl true 203 4 (Ah CT r.1))),(B r.2)]) (List.replicate 1 .gone):=by
 unfold Me at h;refine gk Tryz.func129 rfl Tryz.ntmps129 (ws (Ab 3 0 (RW.nil (ws (Ab 1 0 (RW.c 0 h (VM _) (fun v1 gv1 h=>Ab 1 1 (RW.nil (Wp.seq (ws (Ab 1 0 (RW.q (D5 k3 v1) (Ab 1 0 ?_)))))))))))));refine RW.nil (wc h (fun h=>?_) (fun h=>?_))
 ·refine ws (Ab 1 0 (bd h fun x1 gx1 h=>RW.q (Ck k3 gx1) (RW.q (CG k3 gx1 0) (Ab 4 4 (RW.nil ?_)))));cases h;exact Wp.ret ⟨.inr rfl,BA (by kernel_rfl)⟩
 refine Wp.skip (Wp.seq (ws (Ab 1 0 (RW.c 0 h (ZF _) (fun v2 gv2 h=>Ab 1 0 (RW.nil (wc h (fun h=>?_) (fun h=>?_))))))))
 ·refine ws (Ab 1 0 (RW.c 0 h (XT _) (fun v3 gv3 h=>Ab 4 4 (RW.nil ?_))));cases h;exact Wp.ret ⟨.inr rfl,BA (by kernel_rfl)⟩
 refine Wp.skip (ws (Ab 1 0 (RW.c 0 h (ZU _) (fun v4 gv4 h=>Ab 1 0 (RW.nil (Wp.seq (ws (Ab 2 0 (RW.nil (wc h (fun h=>?_) (fun h=>?_)))))))))))
 ·refine ws (Ab 3 2 (RW.nil ?_));cases h;exact Wp.ret ⟨.inr rfl,BA (by kernel_rfl)⟩
 refine Wp.skip (ws (Ab 2 0 (RW.c 0 h (X8 _ _) (fun v5 gv5 h=>Ab 4 4 (RW.nil ?_)))));cases h;exact Wp.ret ⟨.inr rfl,BA (by kernel_rfl)⟩
def cC (a:List BI) (z1:Int) (z2:List Block):St:=AE [(1,(.one (.sl false 203 4 (Ah CT a)))),(4,(.one (.ptr (.box 4) 0 [] 0))),(6,(.one (.ptr (.box 6) 0 [] 0))),(7,(I z1))] [(.box 4,[.sl true 77 3 (Ah (Co true) [])]),(.box 6,[.sl true 77 3 (Ah (Co true) z2)])]
def cB (a:List BI) (z3:List Block):St:=AE [(1,(.one (.sl false 203 4 (Ah CT a)))),(4,(.one (.ptr (.box 4) 0 [] 0))),(6,(.one (.ptr (.box 6) 0 [] 0)))] [(.box 4,[.sl true 77 3 (Ah (Co true) [])]),(.box 6,[.sl true 77 3 (Ah (Co true) z3)])]
def cA (b:List BI) (c:Int) (a:List Block) (z4:Bool) (z5:List Block):St:=AE [(1,(.one (.sl false 203 4 (Ah CT b)))),(4,(.one (.ptr (.box 4) 0 [] 0))),(6,(.one (.ptr (.box 6) 0 [] 0))),(7,(I c)),(8,(.one (.ptr (.box 8) 0 [] 0))),(9,(B z4))] [(.box 4,[.sl true 77 3 (Ah (Co true) [])]),(.box 6,[.sl true 77 3 (Ah (Co true) a)]),(.box 8,[.sl true 77 3 (Ah (Co true) z5)])]
theorem iS (xF:Flash) (b:List BI) (r:Flash×Int) (h:JR xF b=some r):Ba Tryz.prog 132 [.sv (.agg [.sl false 77 3 (Ah (Co false) xF.Blocks)]),.sv (.one (.sl false 203 4 (Ah CT b)))] (.tup [(.agg [.sl true 77 3 (Ah (Co true) r.1.Blocks)]),(I r.2)]) (List.replicate 2 .gone):=by
 unfold JR at h;refine gk Tryz.func132 rfl Tryz.ntmps132 (ws (Ab 3 0 (RW.nil (ws (Ab 1 0 (RW.c 0 h (II _) (fun v1 gv1 h=>Ab 2 0 (RW.nil (Wp.seq (ws (Ab 1 0 (RW.nil (Em h [1,4,6,7] [.box 4,.box 6] (fun s=>(cC b s.1 s.2)) [1,4,6] [.box 4,.box 6] (fun s=>(cB b s)) Ay ?_ ?_)))))))))))))
 ·rintro⟨e,d⟩ o (h:EF b e d=some o) hk1;unfold EF at h;refine Wp.seq (ws (Ab 2 0 (RW.q (D5 MY b) (Ab 1 0 (RW.nil (wc h (fun h=>?_) (fun h=>?_)))))))
  ·refine Wp.skip (Wp.seq (Wp.block (Wp.seq (Bq h [1,4,6,7,8,9] [.box 4,.box 6,.box 8] (fun a=>(cA b e d a.1 a.2)) ?_ ?_))))
   ·intro a h;refine Er [10] Ct (fun c E h=>by rcases h with⟨h|h,_⟩<;>cases h) (AC [0,1,2] 0 (bd h fun x1 gx1 h=>KW.q 3 (Ck MY gx1) (KW.q 4 (Rx MY gx1 0 4) (Be 5 9 ?_ ?_))))
    ·refine KB.c 0 h (gs (ca (fP (ca (cs (Fw _)) rfl)) rfl) (Qy _ _)) (fun v2 gv2 h=>Be 6 9 ?_ ?_) (hc:=(.inr (fun v=>by simp [BF,BM,AX,BC,sS])))
     ·refine KB.o true (Jx 7 (Be 8 9 ?_ ?_))
      ·refine KB.o false (AC [9,10,11] 0 (Ak ?_));cases h;exact⟨_,rfl,Ay⟩
      refine KB.o false (Be 8 10 ?_ ?_)
      ·refine KB.o false (AC [10,11] 0 (Ak ?_));cases h;exact⟨_,rfl,Ay⟩
      refine KB.o false (AC [8,11] 0 (Ak ?_));cases h;exact⟨_,rfl,Ay⟩
     refine KB.o false (AC [6] 1 (Jx 7 (Be 8 10 ?_ ?_)))
     ·refine KB.o false (AC [10,11] 0 (Ak ?_));cases h;exact⟨_,rfl,Ay⟩
     refine KB.o false (AC [8,11] 0 (Ak ?_));cases h;exact⟨_,rfl,Ay⟩
    refine KB.o false (BD 5 (KB.c 0 h (gs (ca (fP (ca (cs (Fw _)) rfl)) rfl) (Qy _ _)) (fun v3 gv3 h=>AC [6] 1 (Jx 7 (Be 8 10 ?_ ?_))) (hc:=(.inr (fun v=>by simp [BF,BM,AX,BC,sS])))))
    ·refine KB.o false (AC [10,11] 0 (Ak ?_));cases h;exact⟨_,rfl,Ay⟩
    refine KB.o false (AC [8,11] 0 (Ak ?_));cases h;exact⟨_,rfl,Ay⟩
   intro j1 h E hE;refine A9 hE (Wp.seq (ws (Ab 2 0 (RW.nil (wc h (fun h=>?_) (fun h=>?_))))))
   ·refine ws (Ab 4 0 (RW.nil ?_));cases h;replace h:some _=some _:=hk1 _ rfl;cases h;exact Wp.ret ⟨.inr rfl,BA (by kernel_rfl)⟩
   refine Wp.skip (Av (Ab 2 0 (RW.nil (Av (Ab 3 0 (RW.nil ?_))))));cases h;exact⟨_,rfl,Ay⟩
  refine Wp.exit ?_;cases h;exact⟨_,rfl,Ay⟩
 intro v4 h E hE;refine A9 hE (ws (Ab 2 0 (RW.q (D5 MY b) (Ab 2 0 (RW.nil ?_)))));cases h;exact Wp.ret ⟨.inr rfl,BA (by kernel_rfl)⟩
theorem Rk (xD:AH) (a:List BI) (r:AH) (h:GF xD a=some r):Ba Tryz.prog 101 [.sv (.agg [.sl false 77 3 (Ah (Co false) xD.Flash.Blocks),.sl false 39 2 (Ah CC xD.Store.Vols),.sl false 150 2 (Ah (AS false) xD.Store.Arena.Knots),.int .i64 xD.Store.Next,.int .i64 xD.Seq,.int .i64 xD.Tx,.int .i64 xD.Base]),.sv (.one (.sl false 203 4 (Ah CT a)))] (.agg [.sl true 77 3 (Ah (Co true) r.Flash.Blocks),.sl true 39 2 (Ah CC r.Store.Vols),.sl true 150 2 (Ah (AS true) r.Store.Arena.Knots),.int .i64 r.Store.Next,.int .i64 r.Seq,.int .i64 r.Tx,.int .i64 r.Base]) (List.replicate 2 .gone):=by
 unfold GF at h;refine gk Tryz.func101 rfl Tryz.ntmps101 (ws (Ab 2 0 (RW.nil (ws (Ab 3 0 (RW.c 0 h (iS _ _) (fun v1 gv1 h=>Ab 6 1 (RW.nil (ws (Ab 1 0 (RW.c 0 h (gs (ca (fP (ca (cs (Fw _)) rfl)) rfl) (NS _)) (fun v2 gv2 h=>Ab 6 1 (RW.nil ?_)) (hc:=(.inr (fun v=>by simp [BF,BM,AX,BC,XZ,sS,Ll]))))))))))))));refine ws (Ab 2 0 (RW.nil ?_));cases h;exact Wp.ret ⟨.inr rfl,BA (by kernel_rfl)⟩
def XR (a:Int) (z1:List BI) (z2:Int) (z3:List Block) (z4:List Vol) (z5:List BU) (z6:Int) (z7:Int) (z8:Int) (z9:Int):St:=AE [(1,(I a)),(4,(.one (.ptr (.box 4) 0 [] 0))),(6,(.one (.ptr (.box 6) 0 [] 0))),(7,(.one (.sl true 203 4 (Ah CT z1)))),(8,(I z2))] [(.box 4,[.sl true 77 3 (Ah (Co true) []),.sl true 39 2 (Ah CC []),.sl true 150 2 (Ah (AS true) []),.int .i64 0,.int .i64 0,.int .i64 0,.int .i64 0]),(.box 6,[.sl true 77 3 (Ah (Co true) z3),.sl true 39 2 (Ah CC z4),.sl true 150 2 (Ah (AS true) z5),.int .i64 z6,.int .i64 z7,.int .i64 z8,.int .i64 z9])]
def XQ (z10:List BI) (z11:List Block) (z12:List Vol) (z13:List BU) (z14:Int) (z15:Int) (z16:Int) (z17:Int):St:=AE [(4,(.one (.ptr (.box 4) 0 [] 0))),(6,(.one (.ptr (.box 6) 0 [] 0))),(7,(.one (.sl true 203 4 (Ah CT z10))))] [(.box 4,[.sl true 77 3 (Ah (Co true) []),.sl true 39 2 (Ah CC []),.sl true 150 2 (Ah (AS true) []),.int .i64 0,.int .i64 0,.int .i64 0,.int .i64 0]),(.box 6,[.sl true 77 3 (Ah (Co true) z11),.sl true 39 2 (Ah CC z12),.sl true 150 2 (Ah (AS true) z13),.int .i64 z14,.int .i64 z15,.int .i64 z16,.int .i64 z17])]
def XP (h:Int) (i:List BI) (j:Int) (a:List Block) (b:List Vol) (c:List BU) (d:Int) (e:Int) (f:Int) (g:Int) (z18:Bool):St:=AE [(1,(I h)),(4,(.one (.ptr (.box 4) 0 [] 0))),(6,(.one (.ptr (.box 6) 0 [] 0))),(7,(.one (.sl true 203 4 (Ah CT i)))),(8,(I j)),(26,(B z18))] [(.box 4,[.sl true 77 3 (Ah (Co true) []),.sl true 39 2 (Ah CC []),.sl true 150 2 (Ah (AS true) []),.int .i64 0,.int .i64 0,.int .i64 0,.int .i64 0]),(.box 6,[.sl true 77 3 (Ah (Co true) a),.sl true 39 2 (Ah CC b),.sl true 150 2 (Ah (AS true) c),.int .i64 d,.int .i64 e,.int .i64 f,.int .i64 g])]
theorem cG (xD:AH) (b:Int) (r:AH×List BI) (h:JS xD b=some r):Ba Tryz.prog 99 [.sv (.agg [.sl false 77 3 (Ah (Co false) xD.Flash.Blocks),.sl false 39 2 (Ah CC xD.Store.Vols),.sl false 150 2 (Ah (AS false) xD.Store.Arena.Knots),.int .i64 xD.Store.Next,.int .i64 xD.Seq,.int .i64 xD.Tx,.int .i64 xD.Base]),.sv (I b)] (.tup [(.agg [.sl true 77 3 (Ah (Co true) r.1.Flash.Blocks),.sl true 39 2 (Ah CC r.1.Store.Vols),.sl true 150 2 (Ah (AS true) r.1.Store.Arena.Knots),.int .i64 r.1.Store.Next,.int .i64 r.1.Seq,.int .i64 r.1.Tx,.int .i64 r.1.Base]),(.one (.sl true 203 4 (Ah CT r.2)))]) (List.replicate 2 .gone):=by
 unfold JS at h;refine gk Tryz.func99 rfl Tryz.ntmps99 (ws (Ab 3 0 (RW.nil (ws (Ab 1 0 (RW.c 0 h (SO _) (fun v1 gv1 h=>Ab 2 0 (RW.nil (ws (Ab 2 2 (RW.nil (Wp.seq (ws ?_)))))))))))));refine Ab 1 0 (RW.nil (Em h [1,4,6,7,8] [.box 4,.box 6] (fun s=>(XR b s.1 s.2.1 s.2.2.1 s.2.2.2.1 s.2.2.2.2.1 s.2.2.2.2.2.1 s.2.2.2.2.2.2.1 s.2.2.2.2.2.2.2.1 s.2.2.2.2.2.2.2.2)) [4,6,7] [.box 4,.box 6] (fun s=>(XQ s.1 s.2.1 s.2.2.1 s.2.2.2.1 s.2.2.2.2.1 s.2.2.2.2.2.1 s.2.2.2.2.2.2.1 s.2.2.2.2.2.2.2)) Ay ?_ ?_))
 ·rintro⟨d,m,e,f,g,i,j,k,l⟩ o (h:FT b d m e f g i j k l=some o) hk1;unfold FT at h;refine Wp.seq (Wp.seq (Bq h [1,4,6,7,8,26] [.box 4,.box 6] (fun a=>(XP b d m e f g i j k l a)) ?_ ?_))
  ·intro a h;refine Av (Ab 4 0 (AQ 17 h (fun h=>?_) (fun h=>?_)))
   ·refine Ab 4 0 (AQ 21 h (fun h=>?_) (fun h=>?_))
    ·refine Ab 2 0 (RW.c 0 h (gs (ca (fP (ca (cs (Fw _)) rfl)) rfl) (Qx _)) (fun v2 gv2 h=>Ab 2 0 (RW.nil ?_)) (hc:=(.inr (fun v=>rfl))));cases h;exact⟨_,rfl,Ay⟩
    refine Ab 5 0 (RW.nil ?_);cases h;exact⟨_,rfl,Ay⟩
   refine Ab 9 0 (RW.nil ?_);cases h;exact⟨_,rfl,Ay⟩
  intro j1 h E hE;refine A9 hE (wc h (fun h=>?_) (fun h=>?_))
  ·refine Wp.skip (Wp.seq (Wp.block (ws (Ab 1 0 (RW.c 0 h (gs (ca (fP (ca (cs (Fw _)) (ca (cs (Fx _)) (ca (cs (Dj _)) rfl)))) rfl) (cF _)) (fun v3 gv3 h=>Ab 5 9 (RW.nil (Wp.seq (ws (Ab 2 0 (RW.nil (wc h (fun h=>?_) (fun h=>?_)))))))) (hc:=(.inr (fun v=>by simp [BF,BM,AX,BC,wD]))))))))
   ·refine ws (Ab 4 8 (RW.nil ?_));cases h;replace h:some _=some _:=hk1 _ rfl;cases h;exact Wp.ret ⟨.inr rfl,BA (by kernel_rfl)⟩
   refine Wp.skip (ws (Ab 2 0 (RW.c 0 h (gs (ca (fP (ca (cs (Fw _)) (ca (cs (Fx _)) (ca (cs (Dj _)) rfl)))) (ca (co (cs (AAL _))) rfl)) (Rk _ _)) (fun v4 gv4 h=>Ab 1 0 (RW.nil (Av (Ab 2 0 (bd h fun q1 gq1 h=>CW (DY MY (fun _=>rfl) d gq1) (Ab 1 1 (RW.nil (Av (Ab 3 0 ?_))))))))) (hc:=(.inr (fun v=>by simp [BF,BM,AX,BC,XZ,sS,Ll]))))));refine RW.nil ?_;cases h;exact⟨_,rfl,Ay⟩
  refine Wp.exit ?_;cases h;exact⟨_,rfl,Ay⟩
 intro v5 h E hE;refine A9 hE (ws (Ab 4 8 (RW.nil ?_)));cases h;exact Wp.ret ⟨.inr rfl,BA (by kernel_rfl)⟩
def mZ (xQ:QR) (z1:List BI) (z2:List Block) (z3:List Vol) (z4:List BU) (z5:Int) (z6:Int) (z7:Int) (z8:Int):St:=AE [(3,(.one (.ptr (.box 3) 0 [] 0))),(4,(.one (.ptr (.box 4) 0 [] 0))),(8,(.one (.ptr (.box 8) 0 [] 0))),(15,(.one (.sl true 203 4 (Ah CT z1))))] [(.box 3,[.int .i64 xQ.Kind,.int .i64 xQ.Vol,.int .i64 xQ.Sector,.int .i64 xQ.Of,.str xQ.Text]),(.box 4,[.sl true 77 3 (Ah (Co true) []),.sl true 39 2 (Ah CC []),.sl true 150 2 (Ah (AS true) []),.int .i64 0,.int .i64 0,.int .i64 0,.int .i64 0]),(.box 8,[.sl true 77 3 (Ah (Co true) z2),.sl true 39 2 (Ah CC z3),.sl true 150 2 (Ah (AS true) z4),.int .i64 z5,.int .i64 z6,.int .i64 z7,.int .i64 z8])]
def mY (j1:List BI×List Block×List Vol×List BU×Int×Int×Int×Int) (v8:List BI×Bool) (z9:Bool):St:=AE [(4,(.one (.ptr (.box 4) 0 [] 0))),(8,(.one (.ptr (.box 8) 0 [] 0))),(15,(.one (.sl true 203 4 (Ah CT j1.1)))),(19,(.one (.sl true 203 4 (Ah CT v8.1)))),(91,(B z9))] [(.box 4,[.sl true 77 3 (Ah (Co true) []),.sl true 39 2 (Ah CC []),.sl true 150 2 (Ah (AS true) []),.int .i64 0,.int .i64 0,.int .i64 0,.int .i64 0]),(.box 8,[.sl true 77 3 (Ah (Co true) j1.2.1),.sl true 39 2 (Ah CC j1.2.2.1),.sl true 150 2 (Ah (AS true) j1.2.2.2.1),.int .i64 j1.2.2.2.2.1,.int .i64 j1.2.2.2.2.2.1,.int .i64 j1.2.2.2.2.2.2.1,.int .i64 j1.2.2.2.2.2.2.2])]
set_option maxHeartbeats 4000000 in
theorem YI (xD:AH) (xQ:QR) (r:AH×List BI×ByteArray×Int) (h:Rl xD xQ=some r):Ba Tryz.prog 60 [.sv (.agg [.sl false 77 3 (Ah (Co false) xD.Flash.Blocks),.sl false 39 2 (Ah CC xD.Store.Vols),.sl false 150 2 (Ah (AS false) xD.Store.Arena.Knots),.int .i64 xD.Store.Next,.int .i64 xD.Seq,.int .i64 xD.Tx,.int .i64 xD.Base]),.sv (.agg [.int .i64 xQ.Kind,.int .i64 xQ.Vol,.int .i64 xQ.Sector,.int .i64 xQ.Of,.str xQ.Text])] (.tup [(.agg [.sl true 77 3 (Ah (Co true) r.1.Flash.Blocks),.sl true 39 2 (Ah CC r.1.Store.Vols),.sl true 150 2 (Ah (AS true) r.1.Store.Arena.Knots),.int .i64 r.1.Store.Next,.int .i64 r.1.Seq,.int .i64 r.1.Tx,.int .i64 r.1.Base]),(.one (.sl true 203 4 (Ah CT r.2.1))),(Y r.2.2.1),(I r.2.2.2)]) (List.replicate 2 .gone):=by
 unfold Rl at h;refine gk Tryz.func60 rfl Tryz.ntmps60 (ws (Ab 6 0 (RW.nil (ws (Ab 1 0 (RW.c 0 h (SO _) (fun v1 gv1 h=>Ab 2 0 (RW.nil (ws (Ab 2 2 (RW.nil (Wp.seq (ws ?_)))))))))))));refine Ab 1 0 (RW.c 0 h (cD _) (fun v2 gv2 h=>Ab 1 0 (RW.nil (wc h (fun h=>?_) (fun h=>?_)))))
 ·refine ws (Ab 6 8 (RW.nil ?_));cases h;exact Wp.ret ⟨.inr rfl,BA (by kernel_rfl)⟩
 refine Wp.skip (ws (Ab 2 0 (RW.c 0 h (V0 _ _) (fun v3 gv3 h=>Ab 7 17 (RW.nil (Wp.seq (ws (Ab 2 0 (RW.nil (wc h (fun h=>?_) (fun h=>?_)))))))))))
 ·refine ws (Ab 7 16 (RW.nil ?_));cases h;exact Wp.ret ⟨.inr rfl,BA (by kernel_rfl)⟩
 refine Wp.skip (Wp.seq (ws (Ab 3 0 (RW.nil (wc h (fun h=>?_) (fun h=>?_))))))
 ·refine ws (Ab 5 0 (RW.c 0 h (m9 _ _ _) (fun v4 gv4 h=>Ab 5 1 (RW.nil (Wp.seq (ws (Ab 2 0 (RW.nil (wc h (fun h=>?_) (fun h=>?_))))))))))
  ·refine ws (Ab 6 8 (RW.nil ?_));cases h;exact Wp.ret ⟨.inr rfl,BA (by kernel_rfl)⟩
  refine Wp.skip (ws (Ab 7 16 (RW.nil ?_)));cases h;exact Wp.ret ⟨.inr rfl,BA (by kernel_rfl)⟩
 refine Wp.skip (ws (Ab 2 2 (RW.nil (Wp.seq (ws (Ab 2 0 (RW.c 0 h (Qx _) (fun v5 gv5 h=>Ab 1 0 (RW.nil (Bq h [3,4,8,15] [.box 3,.box 4,.box 8] (fun a=>(mZ xQ a.1 a.2.1 a.2.2.1 a.2.2.2.1 a.2.2.2.2.1 a.2.2.2.2.2.1 a.2.2.2.2.2.2.1 a.2.2.2.2.2.2.2)) ?_ ?_))))))))))
 ·intro a h;refine wc h (fun h=>?_) (fun h=>?_)
  ·refine Av (Ab 1 0 (RW.c 0 h (cG _ _) (fun v6 gv6 h=>Ab 5 17 (RW.nil ?_))));cases h;exact⟨_,rfl,Ay⟩
  refine Wp.skip ?_;cases h;exact⟨_,rfl,Ay⟩
 intro j1 h E hE;refine A9 hE (ws (Ab 2 0 (RW.c 0 h (gs (ca (fP (ca (cs (Fw _)) (ca (cs (Fx _)) (ca (cs (Dj _)) rfl)))) rfl) (V0 _ _)) (fun v7 gv7 h=>Ab 7 17 (RW.nil (ws (Ab 3 0 (RW.c 0 h (gs (ca (fP (ca (cs (Fw _)) (ca (cs (Fx _)) (ca (cs (Dj _)) rfl)))) (ca (co (cs (ABa _))) rfl)) (OY _ _ _)) (fun v8 gv8 h=>Ab 5 9 (RW.nil (Wp.seq (Wp.seq (Bq h [4,8,15,19,91] [.box 4,.box 8] (fun a=>(mY j1 v8 a)) ?_ ?_))))) (hc:=(.inr (fun v=>by simp [BF,BM,AX,BC,wD])))))))) (hc:=(.inr (fun v=>by simp [BF,BM,AX,BC,AB8]))))))
 ·intro a h;refine Av (Ab 3 0 (AQ 86 h (fun h=>?_) (fun h=>?_)))
  ·refine Ab 5 0 (RW.nil ?_);cases h;exact⟨_,rfl,Ay⟩
  refine Ab 2 0 (RW.c 0 h (gs (ca (fP (ca (cs (Fw _)) rfl)) rfl) (Qx _)) (fun v9 gv9 h=>Ab 2 0 (RW.nil ?_)) (hc:=(.inr (fun v=>rfl))));cases h;exact⟨_,rfl,Ay⟩
 intro j2 h E hE;refine A9 hE (wc h (fun h=>?_) (fun h=>?_))
 ·refine ws (Ab 6 8 (RW.nil ?_));cases h;exact Wp.ret ⟨.inr rfl,BA (by kernel_rfl)⟩
 refine Wp.skip (ws (Ab 2 0 (RW.c 0 h (gs (ca (fP (ca (cs (Fw _)) (ca (cs (Fx _)) (ca (cs (Dj _)) rfl)))) (ca (co (cs (AAL _))) rfl)) (Rk _ _)) (fun v10 gv10 h=>Ab 2 0 (bd h fun q1 gq1 h=>CW (DY MY (fun _=>rfl) j1.1 gq1) (Ab 4 2 (RW.nil ?_)))) (hc:=(.inr (fun v=>by simp [BF,BM,AX,BC,XZ,sS,Ll]))))));cases h;exact Wp.ret ⟨.inr rfl,BA (by kernel_rfl)⟩
end Go.TI
