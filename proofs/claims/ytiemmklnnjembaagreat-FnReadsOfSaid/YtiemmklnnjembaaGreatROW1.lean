/- That they compute it. No condition. -/
import Derived.Test.YtiemmklnnjembaaGreatROW0
namespace Go.TI
open Go Go.Proofs
set_option maxRecDepth 100000
def gI (xS:Store) (xR:Dk) (z1:Int):St:=AE [(2,(.one (.ptr (.box 2) 0 [] 0))),(3,(.one (.ptr (.box 3) 0 [] 0))),(4,(.one (.ptr (.box 4) 0 [] 0))),(6,(I z1))] [(.box 2,[.sl false 39 2 (Ah CC xS.Vols),.sl false 150 2 (Ah (AS false) xS.Arena.Knots),.int .i64 xS.Next]),(.box 3,[.int .i64 xR.Kind,.int .i64 xR.Vol,.int .i64 xR.Arg,.int .i64 xR.Chunk]),(.box 4,[.sl true 39 2 (Ah CC []),.sl true 150 2 (Ah (AS true) []),.int .i64 0])]
def gH (xS:Store) (xR:Dk) (j1:Int) (z2:Bool):St:=AE [(2,(.one (.ptr (.box 2) 0 [] 0))),(3,(.one (.ptr (.box 3) 0 [] 0))),(4,(.one (.ptr (.box 4) 0 [] 0))),(6,(I j1)),(39,(B z2))] [(.box 2,[.sl false 39 2 (Ah CC xS.Vols),.sl false 150 2 (Ah (AS false) xS.Arena.Knots),.int .i64 xS.Next]),(.box 3,[.int .i64 xR.Kind,.int .i64 xR.Vol,.int .i64 xR.Arg,.int .i64 xR.Chunk]),(.box 4,[.sl true 39 2 (Ah CC []),.sl true 150 2 (Ah (AS true) []),.int .i64 0])]
def gG (xS:Store) (xR:Dk) (j1:Int) (v5:Store) (z3:List Vol) (z4:Int):St:=AE [(2,(.one (.ptr (.box 2) 0 [] 0))),(3,(.one (.ptr (.box 3) 0 [] 0))),(4,(.one (.ptr (.box 4) 0 [] 0))),(6,(I j1)),(8,(.one (.ptr (.box 8) 0 [] 0))),(9,(.one (.sl true 39 2 (Ah CC z3)))),(10,(I z4))] [(.box 2,[.sl false 39 2 (Ah CC xS.Vols),.sl false 150 2 (Ah (AS false) xS.Arena.Knots),.int .i64 xS.Next]),(.box 3,[.int .i64 xR.Kind,.int .i64 xR.Vol,.int .i64 xR.Arg,.int .i64 xR.Chunk]),(.box 4,[.sl true 39 2 (Ah CC []),.sl true 150 2 (Ah (AS true) []),.int .i64 0]),(.box 8,[.sl true 39 2 (Ah CC v5.Vols),.sl true 150 2 (Ah (AS true) v5.Arena.Knots),.int .i64 v5.Next])]
def gF (xS:Store) (xR:Dk) (j1:Int) (v5:Store) (z5:List Vol):St:=AE [(2,(.one (.ptr (.box 2) 0 [] 0))),(3,(.one (.ptr (.box 3) 0 [] 0))),(4,(.one (.ptr (.box 4) 0 [] 0))),(6,(I j1)),(8,(.one (.ptr (.box 8) 0 [] 0))),(9,(.one (.sl true 39 2 (Ah CC z5))))] [(.box 2,[.sl false 39 2 (Ah CC xS.Vols),.sl false 150 2 (Ah (AS false) xS.Arena.Knots),.int .i64 xS.Next]),(.box 3,[.int .i64 xR.Kind,.int .i64 xR.Vol,.int .i64 xR.Arg,.int .i64 xR.Chunk]),(.box 4,[.sl true 39 2 (Ah CC []),.sl true 150 2 (Ah (AS true) []),.int .i64 0]),(.box 8,[.sl true 39 2 (Ah CC v5.Vols),.sl true 150 2 (Ah (AS true) v5.Arena.Knots),.int .i64 v5.Next])]
def gE (xS:Store) (xR:Dk) (v5:Store) (z6:List Vol) (z7:Int):St:=AE [(2,(.one (.ptr (.box 2) 0 [] 0))),(3,(.one (.ptr (.box 3) 0 [] 0))),(4,(.one (.ptr (.box 4) 0 [] 0))),(8,(.one (.ptr (.box 8) 0 [] 0))),(9,(.one (.sl true 39 2 (Ah CC z6)))),(11,(I z7))] [(.box 2,[.sl false 39 2 (Ah CC xS.Vols),.sl false 150 2 (Ah (AS false) xS.Arena.Knots),.int .i64 xS.Next]),(.box 3,[.int .i64 xR.Kind,.int .i64 xR.Vol,.int .i64 xR.Arg,.int .i64 xR.Chunk]),(.box 4,[.sl true 39 2 (Ah CC []),.sl true 150 2 (Ah (AS true) []),.int .i64 0]),(.box 8,[.sl true 39 2 (Ah CC v5.Vols),.sl true 150 2 (Ah (AS true) v5.Arena.Knots),.int .i64 v5.Next])]
def gD (v5:Store) (z8:List Vol):St:=AE [(4,(.one (.ptr (.box 4) 0 [] 0))),(8,(.one (.ptr (.box 8) 0 [] 0))),(9,(.one (.sl true 39 2 (Ah CC z8))))] [(.box 4,[.sl true 39 2 (Ah CC []),.sl true 150 2 (Ah (AS true) []),.int .i64 0]),(.box 8,[.sl true 39 2 (Ah CC v5.Vols),.sl true 150 2 (Ah (AS true) v5.Arena.Knots),.int .i64 v5.Next])]
theorem mJ (xS:Store) (xR:Dk) (r:Store×Bool) (h:K3 xS xR=some r):Ba Tryz.prog 90 [.sv (.agg [.sl false 39 2 (Ah CC xS.Vols),.sl false 150 2 (Ah (AS false) xS.Arena.Knots),.int .i64 xS.Next]),.sv (.agg [.int .i64 xR.Kind,.int .i64 xR.Vol,.int .i64 xR.Arg,.int .i64 xR.Chunk])] (.tup [(.agg [.sl true 39 2 (Ah CC r.1.Vols),.sl true 150 2 (Ah (AS true) r.1.Arena.Knots),.int .i64 r.1.Next]),(B r.2)]) (List.replicate 2 .gone):=by
 unfold K3 at h;refine gk Tryz.func90 rfl Tryz.ntmps90 (ws (Ab 4 0 (RW.nil (ws (Ab 1 0 (RW.nil (Wp.seq (ws (Ab 3 0 (RW.nil (kR h [2,3,4,6] [.box 2,.box 3,.box 4] (fun a=>(gI xS xR a)) ?_ ?_)))))))))))
 ·intro a h e;refine wc h (fun h=>?_) (fun h=>?_)
  ·refine ws (Ab 3 0 (RW.c 0 h (JM _ _) (fun v1 gv1 h=>Ab 1 0 (RW.nil (Wp.seq (ws (Ab 2 0 (RW.nil (wc h (fun h=>?_) (fun h=>?_))))))))))
   ·refine ws (Ab 1 0 (RW.c 0 h (F8 _) (fun v2 gv2 h=>Ab 2 0 (RW.nil ?_))));cases h;replace h:some _=some _:=e;cases h;exact Wp.ret ⟨.inr rfl,BA (by kernel_rfl)⟩
   refine Wp.skip (Av (Ab 3 0 (bd h fun x1 gx1 h=>RW.q (Ck DP gx1) (RW.q (DB DP gx1 0 1) (RW.q (CG DP gx1 1) (Ab 1 0 (RW.nil ?_)))))));cases h;exact⟨_,rfl,Ay⟩
  refine Wp.skip ?_;cases h;exact⟨_,rfl,Ay⟩
 intro j1 h E hE;refine A9 hE (Wp.seq (Wp.seq (Bq h [2,3,4,6,39] [.box 2,.box 3,.box 4] (fun a=>(gH xS xR j1 a)) ?_ ?_)))
 ·intro a h;refine Av (Ab 3 0 (RW.c 0 h (JM _ _) (fun v3 gv3 h=>Ab 2 0 (AQ 34 h (fun h=>?_) (fun h=>?_)))))
  ·refine Ab 5 0 (RW.nil ?_);cases h;exact⟨_,rfl,Ay⟩
  refine Ab 2 0 (RW.q (D5 DP xS.Vols) (Ab 2 0 (RW.nil ?_)));cases h;exact⟨_,rfl,Ay⟩
 intro j2 h E hE;refine A9 hE (wc h (fun h=>?_) (fun h=>?_))
 ·refine ws (Ab 1 0 (RW.c 0 h (F8 _) (fun v4 gv4 h=>Ab 2 0 (RW.nil ?_))));cases h;exact Wp.ret ⟨.inr rfl,BA (by kernel_rfl)⟩
 refine Wp.skip (ws (Ab 1 0 (RW.c 0 h (F8 _) (fun v5 gv5 h=>Ab 2 0 (RW.nil (ws (Ab 2 2 (RW.nil (Wp.seq (ws (Ab 1 0 (RW.nil (BP h [2,3,4,6,8,9,10] [.box 2,.box 3,.box 4,.box 8] (fun s=>(gG xS xR j1 v5 s.1 s.2)) [2,3,4,6,8,9] [.box 2,.box 3,.box 4,.box 8] (fun s=>(gF xS xR j1 v5 s)) Ay ?_ ?_)))))))))))))
 ·rintro⟨b,f⟩ o (h:IH xS xR b f=some o);unfold IH at h;refine Wp.seq (ws (Ab 3 0 (RW.q (D5 DP xS.Vols) (Ab 1 0 (RW.nil (wc h (fun h=>?_) (fun h=>?_)))))))
  ·refine Wp.skip (Wp.seq (Wp.block (Wp.seq (Ln Ct (Dh 3 (bd h fun x2 gx2 h=>SW.q (Ck DP gx2) (SW.q (DB DP gx2 0 0) (SW.q (CG DP gx2 0) (Dh 3 (SW.nil (wc h (fun h=>?_) (fun h=>?_))))))))))))
   ·refine Av (Ab 4 0 (bd h fun x3 gx3 h=>RW.q (Ck DP gx3) (RW.q (Rx DP gx3 0 2) (Ab 1 0 (bd h fun q1 gq1 h=>CW (DY DP (fun _=>rfl) b gq1) (Ab 1 1 (RW.nil (Av (Ab 3 0 (RW.nil ?_))))))))));cases h;exact⟨_,rfl,Ay⟩
   refine Wp.skip (Av (Ab 3 0 (RW.nil ?_)));cases h;exact⟨_,rfl,Ay⟩
  refine Wp.exit ?_;cases h;exact⟨_,rfl,Ay⟩
 intro v6 h E hE;refine A9 hE (ws (Ab 6 0 (bd h fun q2 gq2 h=>CW (DY DP (fun _=>rfl) v6 gq2) (Ab 1 1 (RW.nil (Wp.seq (ws (Ab 1 0 (RW.nil (BP h [2,3,4,8,9,11] [.box 2,.box 3,.box 4,.box 8] (fun s=>(gE xS xR v5 s.1 s.2)) [4,8,9] [.box 4,.box 8] (fun s=>(gD v5 s)) Ay ?_ ?_))))))))))
 ·rintro⟨d,g⟩ o (h:IG xS xR d g=some o);unfold IG at h;refine Wp.seq (ws (Ab 3 0 (RW.q (D5 DP xS.Vols) (Ab 1 0 (RW.nil (wc h (fun h=>?_) (fun h=>?_)))))))
  ·refine Wp.skip (Wp.seq (Wp.block (Wp.seq (Ln Ct (Dh 3 (bd h fun x4 gx4 h=>SW.q (Ck DP gx4) (SW.q (DB DP gx4 0 0) (SW.q (CG DP gx4 0) (Dh 3 (SW.nil (wc h (fun h=>?_) (fun h=>?_))))))))))))
   ·refine Av (Ab 4 0 (bd h fun x5 gx5 h=>RW.q (Ck DP gx5) (RW.q (Rx DP gx5 0 2) (Ab 1 0 (bd h fun q3 gq3 h=>CW (DY DP (fun _=>rfl) d gq3) (Ab 1 1 (RW.nil (Av (Ab 3 0 (RW.nil ?_))))))))));cases h;exact⟨_,rfl,Ay⟩
   refine Wp.skip (Av (Ab 3 0 (RW.nil ?_)));cases h;exact⟨_,rfl,Ay⟩
  refine Wp.exit ?_;cases h;exact⟨_,rfl,Ay⟩
 intro v7 h E hE;refine A9 hE (ws (Ab 3 0 (RW.nil (ws (Ab 3 0 (RW.nil ?_))))));cases h;exact Wp.ret ⟨.inr rfl,BA (by kernel_rfl)⟩
def WX (xS:Store) (z1:List Int) (z2:List BU):St:=AE [(1,(.one (.ptr (.box 1) 0 [] 0))),(2,(.one (.ptr (.box 2) 0 [] 0))),(3,(.one (.ptr (.box 3) 0 [] 0))),(4,(.one (.sl true 3 1 (Ah c3 z1))))] [(.box 1,[.sl false 39 2 (Ah CC xS.Vols),.sl false 150 2 (Ah (AS false) xS.Arena.Knots),.int .i64 xS.Next]),(.box 2,[.sl true 39 2 (Ah CC []),.sl true 150 2 (Ah (AS true) []),.int .i64 0]),(.box 3,[.sl true 150 2 (Ah (AS true) z2)])]
def WW (xS:Store) (j1:List Int×List BU) (z3:List Vol):St:=AE [(2,(.one (.ptr (.box 2) 0 [] 0))),(4,(.one (.sl true 3 1 (Ah c3 j1.1)))),(5,(.one (.ptr (.box 5) 0 [] 0)))] [(.box 2,[.sl true 39 2 (Ah CC []),.sl true 150 2 (Ah (AS true) []),.int .i64 0]),(.box 5,[.sl true 39 2 (Ah CC z3),.sl true 150 2 (Ah (AS true) j1.2),.int .i64 xS.Next])]
def WV (xS:Store) (j1:List Int×List BU) (z4:Int) (z5:List Vol):St:=AE [(2,(.one (.ptr (.box 2) 0 [] 0))),(4,(.one (.sl true 3 1 (Ah c3 j1.1)))),(5,(.one (.ptr (.box 5) 0 [] 0))),(6,(I z4))] [(.box 2,[.sl true 39 2 (Ah CC []),.sl true 150 2 (Ah (AS true) []),.int .i64 0]),(.box 5,[.sl true 39 2 (Ah CC z5),.sl true 150 2 (Ah (AS true) j1.2),.int .i64 xS.Next])]
def WU (xS:Store) (j1:List Int×List BU) (z6:List Vol):St:=AE [(2,(.one (.ptr (.box 2) 0 [] 0))),(5,(.one (.ptr (.box 5) 0 [] 0)))] [(.box 2,[.sl true 39 2 (Ah CC []),.sl true 150 2 (Ah (AS true) []),.int .i64 0]),(.box 5,[.sl true 39 2 (Ah CC z6),.sl true 150 2 (Ah (AS true) j1.2),.int .i64 xS.Next])]
theorem NP (xS:Store) (r:Store) (h:FL xS=some r):Ba Tryz.prog 91 [.sv (.agg [.sl false 39 2 (Ah CC xS.Vols),.sl false 150 2 (Ah (AS false) xS.Arena.Knots),.int .i64 xS.Next])] (.agg [.sl true 39 2 (Ah CC r.Vols),.sl true 150 2 (Ah (AS true) r.Arena.Knots),.int .i64 r.Next]) (List.replicate 1 .gone):=by
 unfold FL at h;refine gk Tryz.func91 rfl Tryz.ntmps91 (ws (Ab 2 0 (RW.nil (Wp.seq (Bq h [1,2,3,4] [.box 1,.box 2,.box 3] (fun a=>(WX xS a.1 a.2)) ?_ ?_)))))
 ·intro a h;refine Er [9] Ct (fun c E h=>by rcases h with⟨h|h,_⟩<;>cases h) (AC [0,1,2] 0 (Be 3 8 ?_ ?_))
  ·refine KB.c 0 h (Lu _) (fun v1 gv1 h=>Be 4 8 ?_ ?_)
   ·refine KB.c 0 h (gs (ca rfl (ca (co (cs (lL _))) rfl)) (Gi _ _)) (fun v2 gv2 h=>Be 5 8 ?_ ?_) (hc:=(.inr (fun v=>by simp [BF,BM,AX,BC,ns3,Ll])))
    ·refine KB.o true (Jx 6 (Be 7 8 ?_ ?_))
     ·refine KB.o false (AC [8,9,10] 4 (Ak ?_));cases h;exact⟨_,rfl,Ay⟩
     refine KB.o false (Be 7 9 ?_ ?_)
     ·refine KB.o false (AC [9,10] 2 (Ak ?_));cases h;exact⟨_,rfl,Ay⟩
     refine KB.o false (AC [7,10] 2 (Ak ?_));cases h;exact⟨_,rfl,Ay⟩
    refine KB.o false (AC [5] 1 (Jx 6 (Be 7 9 ?_ ?_)))
    ·refine KB.o false (AC [9,10] 2 (Ak ?_));cases h;exact⟨_,rfl,Ay⟩
    refine KB.o false (AC [7,10] 2 (Ak ?_));cases h;exact⟨_,rfl,Ay⟩
   refine KB.o false (BD 4 (KB.c 0 h (gs (ca rfl (ca (co (cs (lL _))) rfl)) (Gi _ _)) (fun v3 gv3 h=>AC [5] 1 (Jx 6 (Be 7 9 ?_ ?_))) (hc:=(.inr (fun v=>by simp [BF,BM,AX,BC,ns3,Ll])))))
   ·refine KB.o false (AC [9,10] 2 (Ak ?_));cases h;exact⟨_,rfl,Ay⟩
   refine KB.o false (AC [7,10] 2 (Ak ?_));cases h;exact⟨_,rfl,Ay⟩
  refine KB.o false (BD 3 (KB.c 0 h (Lu _) (fun v4 gv4 h=>BD 4 (KB.c 0 h (gs (ca rfl (ca (co (cs (lL _))) rfl)) (Gi _ _)) (fun v5 gv5 h=>AC [5] 1 (Jx 6 (Be 7 9 ?_ ?_))) (hc:=(.inr (fun v=>by simp [BF,BM,AX,BC,ns3,Ll])))))))
  ·refine KB.o false (AC [9,10] 2 (Ak ?_));cases h;exact⟨_,rfl,Ay⟩
  refine KB.o false (AC [7,10] 2 (Ak ?_));cases h;exact⟨_,rfl,Ay⟩
 intro j1 h E hE;refine A9 hE (Wp.seq (Bq h [2,4,5] [.box 2,.box 5] (fun a=>(WW xS j1 a)) ?_ ?_))
 ·intro a h;refine Er [9] Ct (fun c E h=>by rcases h with⟨h|h,_⟩<;>cases h) (AC [1,2,4,5,6] 0 (Be 0 8 ?_ ?_))
  ·refine pM (Be 3 8 ?_ ?_)
   ·refine bd h fun q1 gq1 h=>fI (DY DP (fun _=>rfl) [] gq1) (AC [7,8,9] 0 (Ak ?_))
    cases h;exact⟨_,rfl,Ay⟩
   refine KB.o false (BD 3 (bd h fun q2 gq2 h=>fI (DY DP (fun _=>rfl) [] gq2) (AC [7,9] 0 (Ak ?_))));cases h;exact⟨_,rfl,Ay⟩
  refine KB.o false (BD 0 (pM (BD 3 (bd h fun q3 gq3 h=>fI (DY DP (fun _=>rfl) [] gq3) (AC [7,9] 0 (Ak ?_))))));cases h;exact⟨_,rfl,Ay⟩
 intro j2 h E hE;refine A9 hE (Wp.seq (ws (Ab 1 0 (RW.nil (BP h [2,4,5,6] [.box 2,.box 5] (fun s=>(WV xS j1 s.1 s.2)) [2,5] [.box 2,.box 5] (fun s=>(WU xS j1 s)) Ay ?_ ?_)))))
 ·rintro⟨d,b⟩ o (h:GU j1 d b=some o);unfold GU at h;refine Wp.seq (ws (Ab 3 0 (RW.q (D5 DP b) (Ab 1 0 (RW.nil (wc h (fun h=>?_) (fun h=>?_)))))))
  ·refine Wp.skip (Wp.seq (Wp.block (P1 9 Ct (Dh 5 (bd h fun x1 gx1 h=>SW.q (Ck k3 gx1) (SW.q (CG k3 gx1 0) (bd h fun x2 gx2 h=>SW.q (Ck DP gx2) (SW.q (DB DP gx2 0 1) (SW.nil (CW (N1 DP gx2 1 0 (Vol.mk x2.Id x1)) (RW.nil ?_)))))))))));refine Av (Ab 3 0 (RW.nil ?_));cases h;exact⟨_,rfl,Ay⟩
  refine Wp.exit ?_;cases h;exact⟨_,rfl,Ay⟩
 intro v6 h E hE;refine A9 hE (ws (Ab 2 0 (RW.nil ?_)));cases h;exact Wp.ret ⟨.inr rfl,BA (by kernel_rfl)⟩
def nC (xA:Arena) (b:Int) (a:Int) (xN:Int) (v1:Arena) (z1:Bool):St:=AE [(1,(I b)),(2,(I a)),(3,(I xN)),(4,(.one (.ptr (.box 4) 0 [] 0))),(8,(.one (.ptr (.box 8) 0 [] 0))),(10,(.one (.ptr (.box 10) 0 [] 0))),(33,(B z1))] [(.box 4,[.sl false 150 2 (Ah (AS false) xA.Knots)]),(.box 8,[.sl true 150 2 (Ah (AS true) [])]),(.box 10,[.sl true 150 2 (Ah (AS true) v1.Knots)])]
def nB (a:Int) (xN:Int) (v1:Arena) (z2:List Int) (z3:List Int):St:=AE [(2,(I a)),(3,(I xN)),(8,(.one (.ptr (.box 8) 0 [] 0))),(10,(.one (.ptr (.box 10) 0 [] 0))),(11,(.one (.ptr (.box 11) 0 [] 0))),(12,(.one (.ptr (.box 12) 0 [] 0)))] [(.box 8,[.sl true 150 2 (Ah (AS true) [])]),(.box 10,[.sl true 150 2 (Ah (AS true) v1.Knots)]),(.box 11,[.bool true,.sl true 3 1 (Ah c3 z2)]),(.box 12,[.bool false,.sl true 3 1 (Ah c3 z3)])]
theorem YJ (xA:Arena) (d:Int) (b:Int) (xN:Int) (r:Arena×Int) (h:Rn xA d b xN=some r):Ba Tryz.prog 92 [.sv (.agg [.sl false 150 2 (Ah (AS false) xA.Knots)]),.sv (I d),.sv (I b),.sv (I xN)] (.tup [(.agg [.sl false 150 2 (Ah (AS false) r.1.Knots)]),(I r.2)]) (List.replicate 4 .gone):=by
 unfold Rn at h;refine gk Tryz.func92 rfl Tryz.ntmps92 (ws (Ab 3 0 (RW.nil (ws (Ab 1 0 (RW.c 0 h (OW _) (fun v1 gv1 h=>Ab 2 0 (RW.nil (Wp.seq (Wp.seq (Bq h [1,2,3,4,8,10,33] [.box 4,.box 8,.box 10] (fun a=>(nC xA d b xN v1 a)) ?_ ?_)))))))))))
 ·intro a h;refine Av (Ab 1 0 (RW.c 0 h (MF _) (fun v2 gv2 h=>Ab 2 0 (AQ 19 h (fun h=>?_) (fun h=>?_)))))
  ·refine Ab 14 0 (RW.nil ?_);cases h;exact⟨_,rfl,Ay⟩
  refine Ab 2 0 (RW.c 0 h (K5 _ _) (fun v3 gv3 h=>Ab 3 0 (AQ 25 h (fun h=>?_) (fun h=>?_))))
  ·refine Ab 8 0 (RW.nil ?_);cases h;exact⟨_,rfl,Ay⟩
  refine Ab 1 0 (RW.c 0 h (BK _ _ _) (fun v4 gv4 h=>Ab 3 0 (AQ 30 h (fun h=>?_) (fun h=>?_))))
  ·refine Ab 3 0 (RW.nil ?_);cases h;exact⟨_,rfl,Ay⟩
  refine Ab 3 0 (RW.nil ?_);cases h;exact⟨_,rfl,Ay⟩
 intro j1 h E hE;refine A9 hE (wc h (fun h=>?_) (fun h=>?_))
 ·refine ws (Ab 4 0 (RW.nil (Wp.fz (.box 8) 0 (Dj v1.Knots) ?_)));cases h;exact Wp.ret ⟨.inr rfl,BA (by kernel_rfl)⟩
 refine Wp.skip (ws (bd h fun q1 gq1 h=>CW (fmk k3 0 gq1) (Ab 3 0 (RW.nil (ws (Ab 4 0 (RW.nil (Wp.seq (ws (Ab 2 0 (RW.nil (Bq h [2,3,8,10,11,12] [.box 8,.box 10,.box 11,.box 12] (fun a=>(nB b xN v1 a.1 a.2)) ?_ ?_))))))))))))
 ·intro a h;refine wc h (fun h=>?_) (fun h=>?_)
  ·refine ws (Ab 4 0 (bd h fun x1 gx1 h=>RW.q (Ck (CH false) gx1) (RW.q (DB (CH false) gx1 0 1) (RW.q (CG (CH false) gx1 1) (bd h fun q2 gq2 h=>CW (DY k3 (fun _=>rfl) [] gq2) (Ab 2 0 (RW.nil (ws (Ab 4 0 (bd h fun x2 gx2 h=>RW.q (Ck k3 gx2) ?_))))))))));refine RW.q (CG k3 gx2 0) (Ab 1 0 (RW.nil (ws (Ab 2 0 (RW.nil (wc h (fun h=>?_) (fun h=>?_)))))))
   ·refine Av (Ab 4 0 (bd h fun x3 gx3 h=>RW.q (Ck (CH false) gx3) (RW.q (DB (CH false) gx3 0 1) (RW.q (CG (CH false) gx3 1) (bd h fun q3 gq3 h=>CW (DY k3 (fun _=>rfl) [] gq3) (Ab 2 0 (RW.nil ?_)))))));cases h;exact⟨_,rfl,Ay⟩
   refine Wp.skip ?_;cases h;exact⟨_,rfl,Ay⟩
  refine Wp.skip ?_;cases h;exact⟨_,rfl,Ay⟩
 intro j2 h E hE;refine A9 hE (ws (Ab 5 0 (bd h fun x4 gx4 h=>RW.q (Ck k3 gx4) (CW (N1 k3 gx4 0 1 xN) (RW.nil (ws (Ab 6 0 (RW.q (D5 (CH true) v1.Knots) (bd h fun x5 gx5 h=>RW.q (Ck k3 gx5) (CW (N1 k3 gx5 0 1 (ln v1.Knots)) (RW.nil ?_)))))))))));refine ws (Ab 5 0 (bd h fun q4 gq4 h=>CW (oZ (CH true) v1.Knots [(BU.mk true (si j2.1 (Int.tmod b 4) xN)),(BU.mk false (si j2.2 (qu b 4) (ln v1.Knots)))] gq4) (RW.fz (.slot 87) 0 (Dj q4) (Ab 2 0 (RW.nil (Wp.seq (Er [5] Ct (fun c E h=>by rcases h with⟨h|h,_⟩<;>cases h) (AC [0] 0 (Be 1 5 ?_ ?_)))))))))
 ·refine KB.o false (Be 2 5 ?_ ?_)
  ·refine KB.o false (Be 3 5 ?_ ?_)
   ·refine KB.q (D5 (CH false) q4) (Be 4 5 ?_ ?_)
    ·refine KB.o false (AC [5,6] 0 (Ak ?_));cases h;exact Wp.ret ⟨.inr rfl,BA (by kernel_rfl)⟩
    refine KB.o false (AC [4,6] 0 (Ak ?_));cases h;exact Wp.ret ⟨.inr rfl,BA (by kernel_rfl)⟩
   refine KB.o false (BD 3 (KB.q (D5 (CH false) q4) (AC [4,6] 0 (Ak ?_))));cases h;exact Wp.ret ⟨.inr rfl,BA (by kernel_rfl)⟩
  refine KB.o false (AC [2] 0 (BD 3 (KB.q (D5 (CH false) q4) (AC [4,6] 0 (Ak ?_)))));cases h;exact Wp.ret ⟨.inr rfl,BA (by kernel_rfl)⟩
 refine KB.o false (AC [1,2] 0 (BD 3 (KB.q (D5 (CH false) q4) (AC [4,6] 0 (Ak ?_)))));cases h;exact Wp.ret ⟨.inr rfl,BA (by kernel_rfl)⟩
def nJ (xS:Store) (xR:Dk) (z1:Bool):St:=AE [(2,(.one (.ptr (.box 2) 0 [] 0))),(3,(.one (.ptr (.box 3) 0 [] 0))),(4,(.one (.ptr (.box 4) 0 [] 0))),(18,(B z1))] [(.box 2,[.sl false 39 2 (Ah CC xS.Vols),.sl false 150 2 (Ah (AS false) xS.Arena.Knots),.int .i64 xS.Next]),(.box 3,[.int .i64 xR.Kind,.int .i64 xR.Vol,.int .i64 xR.Arg,.int .i64 xR.Chunk]),(.box 4,[.sl true 39 2 (Ah CC []),.sl true 150 2 (Ah (AS true) []),.int .i64 0])]
def nI (z2:Int):St:=AE [(4,(.one (.ptr (.box 4) 0 [] 0))),(6,(I z2))] [(.box 4,[.sl true 39 2 (Ah CC []),.sl true 150 2 (Ah (AS true) []),.int .i64 0])]
def nH (xS:Store) (xR:Dk) (v5:Int) (z3:Bool):St:=AE [(2,(.one (.ptr (.box 2) 0 [] 0))),(3,(.one (.ptr (.box 3) 0 [] 0))),(4,(.one (.ptr (.box 4) 0 [] 0))),(7,(I v5)),(48,(B z3))] [(.box 2,[.sl false 39 2 (Ah CC xS.Vols),.sl false 150 2 (Ah (AS false) xS.Arena.Knots),.int .i64 xS.Next]),(.box 3,[.int .i64 xR.Kind,.int .i64 xR.Vol,.int .i64 xR.Arg,.int .i64 xR.Chunk]),(.box 4,[.sl true 39 2 (Ah CC []),.sl true 150 2 (Ah (AS true) []),.int .i64 0])]
def nG (xR:Dk) (v5:Int) (v7:Store) (z4:Int) (z5:List BU):St:=AE [(3,(.one (.ptr (.box 3) 0 [] 0))),(4,(.one (.ptr (.box 4) 0 [] 0))),(7,(I v5)),(8,(.one (.ptr (.box 8) 0 [] 0))),(9,(.one (.ptr (.box 9) 0 [] 0))),(10,(I z4))] [(.box 3,[.int .i64 xR.Kind,.int .i64 xR.Vol,.int .i64 xR.Arg,.int .i64 xR.Chunk]),(.box 4,[.sl true 39 2 (Ah CC []),.sl true 150 2 (Ah (AS true) []),.int .i64 0]),(.box 8,[.sl true 39 2 (Ah CC v7.Vols),.sl true 150 2 (Ah (AS true) v7.Arena.Knots),.int .i64 v7.Next]),(.box 9,[.sl false 150 2 (Ah (AS false) z5)])]
theorem YL (xS:Store) (xR:Dk) (r:Store×Bool) (h:Rr xS xR=some r):Ba Tryz.prog 58 [.sv (.agg [.sl false 39 2 (Ah CC xS.Vols),.sl false 150 2 (Ah (AS false) xS.Arena.Knots),.int .i64 xS.Next]),.sv (.agg [.int .i64 xR.Kind,.int .i64 xR.Vol,.int .i64 xR.Arg,.int .i64 xR.Chunk])] (.tup [(.agg [.sl true 39 2 (Ah CC r.1.Vols),.sl true 150 2 (Ah (AS true) r.1.Arena.Knots),.int .i64 r.1.Next]),(B r.2)]) (List.replicate 2 .gone):=by
 unfold Rr at h;refine gk Tryz.func58 rfl Tryz.ntmps58 (ws (Ab 4 0 (RW.nil (Wp.seq (Wp.seq (Bq h [2,3,4,18] [.box 2,.box 3,.box 4] (fun a=>(nJ xS xR a)) ?_ ?_))))))
 ·intro a h;refine Av (Ab 1 0 (RW.c 0 h (SX _) (fun v1 gv1 h=>Ab 2 0 (AQ 14 h (fun h=>?_) (fun h=>?_)))))
  ·refine Ab 4 0 (RW.nil ?_);cases h;exact⟨_,rfl,Ay⟩
  refine Ab 1 0 (RW.c 0 h (Su _) (fun v2 gv2 h=>Ab 2 0 (RW.nil ?_)));cases h;exact⟨_,rfl,Ay⟩
 intro j1 h E hE;refine A9 hE (wc h (fun h=>?_) (fun h=>?_))
 ·refine ws (Ab 1 0 (RW.c 0 h (F8 _) (fun v3 gv3 h=>Ab 2 0 (RW.nil ?_))));cases h;exact Wp.ret ⟨.inr rfl,BA (by kernel_rfl)⟩
 refine Wp.skip (Wp.seq (ws (Ab 2 0 (RW.nil (Wp.block (ws (Ab 2 0 (RW.nil (wc h (fun h=>?_) (fun h=>?_))))))))))
 ·refine ws (Ab 3 0 (RW.nil (Wp.seq (ws (Ab 2 0 (RW.nil (Bq h [4,6] [.box 4] (fun a=>(nI a)) ?_ ?_)))))))
  ·intro a h;refine wc h (fun h=>?_) (fun h=>?_)
   ·refine Av (Ab 1 0 (RW.nil ?_));cases h;exact⟨_,rfl,Ay⟩
   refine Wp.skip ?_;cases h;exact⟨_,rfl,Ay⟩
  intro j2 h E hE;refine A9 hE (ws (Ab 4 0 (RW.nil ?_)));cases h;exact Wp.ret ⟨.inr rfl,BA (by kernel_rfl)⟩
 refine ws (Ab 2 0 (RW.nil (wc h (fun h=>?_) (fun h=>?_))))
 ·refine ws (Ab 2 0 (RW.c 0 h (mJ _ _) (fun v4 gv4 h=>Ab 4 0 (RW.nil ?_))));cases h;exact Wp.ret ⟨.inr rfl,BA (by kernel_rfl)⟩
 refine Wp.skip (ws (Ab 3 0 (RW.c 0 h (JM _ _) (fun v5 gv5 h=>Ab 1 0 (RW.nil (Wp.seq (Wp.seq (Bq h [2,3,4,7,48] [.box 2,.box 3,.box 4] (fun a=>(nH xS xR v5 a)) ?_ ?_))))))))
 ·intro a h;refine Av (Ab 3 0 (AQ 44 h (fun h=>?_) (fun h=>?_)))
  ·refine Ab 4 0 (RW.nil ?_);cases h;exact⟨_,rfl,Ay⟩
  refine Ab 4 0 (RW.nil ?_);cases h;exact⟨_,rfl,Ay⟩
 intro j3 h E hE;refine A9 hE (wc h (fun h=>?_) (fun h=>?_))
 ·refine ws (Ab 1 0 (RW.c 0 h (F8 _) (fun v6 gv6 h=>Ab 2 0 (RW.nil ?_))));cases h;exact Wp.ret ⟨.inr rfl,BA (by kernel_rfl)⟩
 refine Wp.skip (ws (Ab 1 0 (RW.c 0 h (F8 _) (fun v7 gv7 h=>Ab 2 0 (RW.nil (Wp.seq (ws (Ab 3 0 (RW.nil (wc h (fun h=>?_) (fun h=>?_)))))))))))
 ·refine Wp.seq (Er [11,13] Ct (fun c E h=>by rcases h with⟨h|h,_⟩<;>cases h) (AC [1,2,3] 0 (bd h fun x1 gx1 h=>KW.q 4 (pdr DP 39 gx1) (AC [6,7,8,9] 0 (bd h fun x2 gx2 h=>KW.q 10 (ACC DP 39 gx2) (BD 0 (pM (BD 5 (bd h fun q1 gq1 h=>fI (DY DP (fun _=>rfl) [] gq1) (BD 11 (bd h fun q2 gq2 h=>?_)))))))))));refine M5 (DY DP (fun _=>rfl) q1 gq2) (AC [12,13] 0 (Ak (ws (Ab 1 0 (RW.c 0 h (gs (ca (fP (ca (cs (Fx _)) (ca (cs (Dj _)) rfl))) rfl) (NP _)) (fun v8 gv8 h=>Ab 2 0 (RW.nil ?_)) (hc:=(.inr (fun v=>by simp [BF,BM,AX,BC,XZ,Ll]))))))));cases h;exact Wp.ret ⟨.inr rfl,BA (by kernel_rfl)⟩
 refine Wp.skip (Wp.seq (Bq h [3,4,7,8,9,10] [.box 3,.box 4,.box 8,.box 9] (fun a=>(nG xR v5 v7 a.1 a.2)) ?_ ?_))
 ·intro a h;refine Er [17] Ct (fun c E h=>by rcases h with⟨h|h,_⟩<;>cases h) (AC [0,1,2,3,4] 0 (bd h fun x3 gx3 h=>KW.q 5 (Ck DP gx3) (KW.q 6 (DB DP gx3 0 1) (KW.q 7 (CG DP gx3 1) (AC [8,9,10,11] 0 (Be 12 16 ?_ ?_))))))
  ·refine KB.c 0 h (YJ _ _ _ _) (fun v9 gv9 h=>Be 13 16 ?_ ?_)
   ·refine KB.o true (Jx 14 (Be 15 16 ?_ ?_))
    ·refine KB.o false (AC [16,17,18] 0 (Ak ?_));cases h;exact⟨_,rfl,Ay⟩
    refine KB.o false (Be 15 17 ?_ ?_)
    ·refine KB.o false (AC [17,18] 0 (Ak ?_));cases h;exact⟨_,rfl,Ay⟩
    refine KB.o false (AC [15,18] 0 (Ak ?_));cases h;exact⟨_,rfl,Ay⟩
   refine KB.o false (AC [13] 1 (Jx 14 (Be 15 17 ?_ ?_)))
   ·refine KB.o false (AC [17,18] 0 (Ak ?_));cases h;exact⟨_,rfl,Ay⟩
   refine KB.o false (AC [15,18] 0 (Ak ?_));cases h;exact⟨_,rfl,Ay⟩
  refine KB.o false (BD 12 (KB.c 0 h (YJ _ _ _ _) (fun v10 gv10 h=>AC [13] 1 (Jx 14 (Be 15 17 ?_ ?_)))))
  ·refine KB.o false (AC [17,18] 0 (Ak ?_));cases h;exact⟨_,rfl,Ay⟩
  refine KB.o false (AC [15,18] 0 (Ak ?_));cases h;exact⟨_,rfl,Ay⟩
 intro j4 h E hE;refine A9 hE (ws (Ab 3 0 (RW.nil (ws (Ab 4 0 (bd h fun x4 gx4 h=>RW.q (Ck DP gx4) (RW.q (DB DP gx4 0 1) (CW (N1 DP gx4 1 0 (Vol.mk x4.Id j4.1)) (RW.nil (Wp.seq (ws (Ab 5 0 ?_))))))))))));refine RW.nil (wc h (fun h=>?_) (fun h=>?_))
 ·refine Av (Ab 5 0 (RW.nil (ws (Ab 1 0 (RW.c 0 h (gs (ca (fP (ca (cs (Fx _)) rfl)) rfl) (NP _)) (fun v11 gv11 h=>Ab 2 0 (RW.nil ?_)) (hc:=(.inr (fun v=>by simp [BF,BM,AX,BC,XZ,Ll]))))))));cases h;exact Wp.ret ⟨.inr rfl,BA (by kernel_rfl)⟩
 refine Wp.skip (ws (Ab 1 0 (RW.c 0 h (gs (ca (fP (ca (cs (Fx _)) rfl)) rfl) (NP _)) (fun v12 gv12 h=>Ab 2 0 (RW.nil ?_)) (hc:=(.inr (fun v=>by simp [BF,BM,AX,BC,XZ,Ll]))))));cases h;exact Wp.ret ⟨.inr rfl,BA (by kernel_rfl)⟩
def XM (xS:Store) (a:List Dk) (z1:Int) (z2:List Vol) (z3:List BU) (z4:Int):St:=AE [(1,(.one (.sl false 99 4 (Ah Nd a)))),(2,(.one (.ptr (.box 2) 0 [] 0))),(4,(.one (.ptr (.box 4) 0 [] 0))),(6,(.one (.ptr (.box 6) 0 [] 0))),(7,(I z1))] [(.box 2,[.sl false 39 2 (Ah CC xS.Vols),.sl false 150 2 (Ah (AS false) xS.Arena.Knots),.int .i64 xS.Next]),(.box 4,[.sl true 39 2 (Ah CC []),.sl true 150 2 (Ah (AS true) []),.int .i64 0]),(.box 6,[.sl true 39 2 (Ah CC z2),.sl true 150 2 (Ah (AS true) z3),.int .i64 z4])]
def XL (z5:List Vol) (z6:List BU) (z7:Int):St:=AE [(4,(.one (.ptr (.box 4) 0 [] 0))),(6,(.one (.ptr (.box 6) 0 [] 0)))] [(.box 4,[.sl true 39 2 (Ah CC []),.sl true 150 2 (Ah (AS true) []),.int .i64 0]),(.box 6,[.sl true 39 2 (Ah CC z5),.sl true 150 2 (Ah (AS true) z6),.int .i64 z7])]
def XK (xS:Store) (d:List Dk) (e:Int) (a:List Vol) (b:List BU) (c:Int) (z8:Bool) (z9:List Vol) (z10:List BU) (z11:Int):St:=AE [(1,(.one (.sl false 99 4 (Ah Nd d)))),(2,(.one (.ptr (.box 2) 0 [] 0))),(4,(.one (.ptr (.box 4) 0 [] 0))),(6,(.one (.ptr (.box 6) 0 [] 0))),(7,(I e)),(8,(.one (.ptr (.box 8) 0 [] 0))),(9,(B z8))] [(.box 2,[.sl false 39 2 (Ah CC xS.Vols),.sl false 150 2 (Ah (AS false) xS.Arena.Knots),.int .i64 xS.Next]),(.box 4,[.sl true 39 2 (Ah CC []),.sl true 150 2 (Ah (AS true) []),.int .i64 0]),(.box 6,[.sl true 39 2 (Ah CC a),.sl true 150 2 (Ah (AS true) b),.int .i64 c]),(.box 8,[.sl true 39 2 (Ah CC z9),.sl true 150 2 (Ah (AS true) z10),.int .i64 z11])]
theorem b9 (xS:Store) (b:List Dk) (r:Store×Bool) (h:Mb xS b=some r):Ba Tryz.prog 27 [.sv (.agg [.sl false 39 2 (Ah CC xS.Vols),.sl false 150 2 (Ah (AS false) xS.Arena.Knots),.int .i64 xS.Next]),.sv (.one (.sl false 99 4 (Ah Nd b)))] (.tup [(.agg [.sl true 39 2 (Ah CC r.1.Vols),.sl true 150 2 (Ah (AS true) r.1.Arena.Knots),.int .i64 r.1.Next]),(B r.2)]) (List.replicate 2 .gone):=by
 unfold Mb at h;refine gk Tryz.func27 rfl Tryz.ntmps27 (ws (Ab 3 0 (RW.nil (ws (Ab 1 0 (RW.c 0 h (F8 _) (fun v1 gv1 h=>Ab 2 0 (RW.nil (Wp.seq (ws (Ab 1 0 (RW.nil (Em h [1,2,4,6,7] [.box 2,.box 4,.box 6] (fun s=>(XM xS b s.1 s.2.1 s.2.2.1 s.2.2.2)) [4,6] [.box 4,.box 6] (fun s=>(XL s.1 s.2.1 s.2.2)) Ay ?_ ?_)))))))))))))
 ·rintro⟨g,d,e,f⟩ o (h:FR xS b g d e f=some o) hk1;unfold FR at h;refine Wp.seq (ws (Ab 2 0 (RW.q (D5 Wi b) (Ab 1 0 (RW.nil (wc h (fun h=>?_) (fun h=>?_)))))))
  ·refine Wp.skip (Wp.seq (Wp.block (Wp.seq (Bq h [1,2,4,6,7,8,9] [.box 2,.box 4,.box 6,.box 8] (fun a=>(XK xS b g d e f a.1 a.2.1 a.2.2.1 a.2.2.2)) ?_ ?_))))
   ·intro a h;refine Er [10] Ct (fun c E h=>by rcases h with⟨h|h,_⟩<;>cases h) (AC [0,1,2] 0 (bd h fun x1 gx1 h=>KW.q 3 (Ck Wi gx1) (KW.q 4 (Rx Wi gx1 0 4) (Be 5 9 ?_ ?_))))
    ·refine KB.c 0 h (gs (ca (fP (ca (cs (Fx _)) (ca (cs (Dj _)) rfl))) rfl) (YL _ _)) (fun v2 gv2 h=>Be 6 9 ?_ ?_) (hc:=(.inr (fun v=>by simp [BF,BM,AX,BC,XZ,Ll])))
     ·refine KB.o true (Jx 7 (Be 8 9 ?_ ?_))
      ·refine KB.o false (AC [9,10,11] 0 (Ak ?_));cases h;exact⟨_,rfl,Ay⟩
      refine KB.o false (Be 8 10 ?_ ?_)
      ·refine KB.o false (AC [10,11] 0 (Ak ?_));cases h;exact⟨_,rfl,Ay⟩
      refine KB.o false (AC [8,11] 0 (Ak ?_));cases h;exact⟨_,rfl,Ay⟩
     refine KB.o false (AC [6] 1 (Jx 7 (Be 8 10 ?_ ?_)))
     ·refine KB.o false (AC [10,11] 0 (Ak ?_));cases h;exact⟨_,rfl,Ay⟩
     refine KB.o false (AC [8,11] 0 (Ak ?_));cases h;exact⟨_,rfl,Ay⟩
    refine KB.o false (BD 5 (KB.c 0 h (gs (ca (fP (ca (cs (Fx _)) (ca (cs (Dj _)) rfl))) rfl) (YL _ _)) (fun v3 gv3 h=>AC [6] 1 (Jx 7 (Be 8 10 ?_ ?_))) (hc:=(.inr (fun v=>by simp [BF,BM,AX,BC,XZ,Ll])))))
    ·refine KB.o false (AC [10,11] 0 (Ak ?_));cases h;exact⟨_,rfl,Ay⟩
    refine KB.o false (AC [8,11] 0 (Ak ?_));cases h;exact⟨_,rfl,Ay⟩
   intro j1 h E hE;refine A9 hE (Wp.seq (ws (Ab 2 0 (RW.nil (wc h (fun h=>?_) (fun h=>?_))))))
   ·refine ws (Ab 1 0 (RW.c 0 h (F8 _) (fun v4 gv4 h=>Ab 2 0 (RW.nil ?_))));cases h;replace h:some _=some _:=hk1 _ rfl;cases h;exact Wp.ret ⟨.inr rfl,BA (by kernel_rfl)⟩
   refine Wp.skip (Av (Ab 2 0 (RW.nil (Av (Ab 3 0 (RW.nil ?_))))));cases h;exact⟨_,rfl,Ay⟩
  refine Wp.exit ?_;cases h;exact⟨_,rfl,Ay⟩
 intro v5 h E hE;refine A9 hE (ws (Ab 3 0 (RW.nil ?_)));cases h;exact Wp.ret ⟨.inr rfl,BA (by kernel_rfl)⟩
def XG (v2:List Ar) (v3:Flash) (v4:Store) (z1:Int) (z2:Int) (z3:Int):St:=AE [(2,(.one (.ptr (.box 2) 0 [] 0))),(4,(.one (.sl true 54 8 (Ah GQ v2)))),(5,(.one (.ptr (.box 5) 0 [] 0))),(6,(I z1))] [(.box 2,[.sl true 77 3 (Ah (Co true) []),.sl true 39 2 (Ah CC []),.sl true 150 2 (Ah (AS true) []),.int .i64 0,.int .i64 0,.int .i64 0,.int .i64 0]),(.box 5,[.sl true 77 3 (Ah (Co true) v3.Blocks),.sl true 39 2 (Ah CC v4.Vols),.sl true 150 2 (Ah (AS true) v4.Arena.Knots),.int .i64 v4.Next,.int .i64 z2,.int .i64 z3,.int .i64 0])]
def XF (v2:List Ar) (v3:Flash) (v4:Store) (z4:Int) (z5:Int):St:=AE [(2,(.one (.ptr (.box 2) 0 [] 0))),(4,(.one (.sl true 54 8 (Ah GQ v2)))),(5,(.one (.ptr (.box 5) 0 [] 0)))] [(.box 2,[.sl true 77 3 (Ah (Co true) []),.sl true 39 2 (Ah CC []),.sl true 150 2 (Ah (AS true) []),.int .i64 0,.int .i64 0,.int .i64 0,.int .i64 0]),(.box 5,[.sl true 77 3 (Ah (Co true) v3.Blocks),.sl true 39 2 (Ah CC v4.Vols),.sl true 150 2 (Ah (AS true) v4.Arena.Knots),.int .i64 v4.Next,.int .i64 z4,.int .i64 z5,.int .i64 0])]
def XE (v2:List Ar) (v3:Flash) (v4:Store) (b:Int) (a:Int) (z6:Int):St:=AE [(2,(.one (.ptr (.box 2) 0 [] 0))),(4,(.one (.sl true 54 8 (Ah GQ v2)))),(5,(.one (.ptr (.box 5) 0 [] 0))),(6,(I b))] [(.box 2,[.sl true 77 3 (Ah (Co true) []),.sl true 39 2 (Ah CC []),.sl true 150 2 (Ah (AS true) []),.int .i64 0,.int .i64 0,.int .i64 0,.int .i64 0]),(.box 5,[.sl true 77 3 (Ah (Co true) v3.Blocks),.sl true 39 2 (Ah CC v4.Vols),.sl true 150 2 (Ah (AS true) v4.Arena.Knots),.int .i64 v4.Next,.int .i64 z6,.int .i64 a,.int .i64 0])]
def XD (v2:List Ar) (v3:Flash) (v4:Store) (b:Int) (a:Int) (j1:Int) (z7:Bool):St:=AE [(2,(.one (.ptr (.box 2) 0 [] 0))),(4,(.one (.sl true 54 8 (Ah GQ v2)))),(5,(.one (.ptr (.box 5) 0 [] 0))),(6,(I b)),(59,(B z7))] [(.box 2,[.sl true 77 3 (Ah (Co true) []),.sl true 39 2 (Ah CC []),.sl true 150 2 (Ah (AS true) []),.int .i64 0,.int .i64 0,.int .i64 0,.int .i64 0]),(.box 5,[.sl true 77 3 (Ah (Co true) v3.Blocks),.sl true 39 2 (Ah CC v4.Vols),.sl true 150 2 (Ah (AS true) v4.Arena.Knots),.int .i64 v4.Next,.int .i64 j1,.int .i64 a,.int .i64 0])]
def XC (v3:Flash) (v5:Int×Int) (v7:List Tx) (z8:Int) (z9:List Vol) (z10:List BU) (z11:Int) (z12:Int):St:=AE [(2,(.one (.ptr (.box 2) 0 [] 0))),(5,(.one (.ptr (.box 5) 0 [] 0))),(7,(.one (.sl false 178 3 (Ah (Ow false) v7)))),(8,(I z8))] [(.box 2,[.sl true 77 3 (Ah (Co true) []),.sl true 39 2 (Ah CC []),.sl true 150 2 (Ah (AS true) []),.int .i64 0,.int .i64 0,.int .i64 0,.int .i64 0]),(.box 5,[.sl true 77 3 (Ah (Co true) v3.Blocks),.sl true 39 2 (Ah CC z9),.sl true 150 2 (Ah (AS true) z10),.int .i64 z11,.int .i64 v5.1,.int .i64 v5.2,.int .i64 z12])]
def XB (v3:Flash) (v5:Int×Int) (z13:List Vol) (z14:List BU) (z15:Int) (z16:Int):St:=AE [(2,(.one (.ptr (.box 2) 0 [] 0))),(5,(.one (.ptr (.box 5) 0 [] 0)))] [(.box 2,[.sl true 77 3 (Ah (Co true) []),.sl true 39 2 (Ah CC []),.sl true 150 2 (Ah (AS true) []),.int .i64 0,.int .i64 0,.int .i64 0,.int .i64 0]),(.box 5,[.sl true 77 3 (Ah (Co true) v3.Blocks),.sl true 39 2 (Ah CC z13),.sl true 150 2 (Ah (AS true) z14),.int .i64 z15,.int .i64 v5.1,.int .i64 v5.2,.int .i64 z16])]
def XA (v3:Flash) (v5:Int×Int) (v7:List Tx) (d:Int) (a:List Vol) (b:List BU) (c:Int) (z17:Int):St:=AE [(2,(.one (.ptr (.box 2) 0 [] 0))),(5,(.one (.ptr (.box 5) 0 [] 0))),(7,(.one (.sl false 178 3 (Ah (Ow false) v7)))),(8,(I d))] [(.box 2,[.sl true 77 3 (Ah (Co true) []),.sl true 39 2 (Ah CC []),.sl true 150 2 (Ah (AS true) []),.int .i64 0,.int .i64 0,.int .i64 0,.int .i64 0]),(.box 5,[.sl true 77 3 (Ah (Co true) v3.Blocks),.sl true 39 2 (Ah CC a),.sl true 150 2 (Ah (AS true) b),.int .i64 c,.int .i64 v5.1,.int .i64 v5.2,.int .i64 z17])]
theorem NS (xF:Flash) (r:AH×Bool) (h:E4 xF=some r):Ba Tryz.prog 94 [.sv (.agg [.sl false 77 3 (Ah (Co false) xF.Blocks)])] (.tup [(.agg [.sl true 77 3 (Ah (Co true) r.1.Flash.Blocks),.sl true 39 2 (Ah CC r.1.Store.Vols),.sl true 150 2 (Ah (AS true) r.1.Store.Arena.Knots),.int .i64 r.1.Store.Next,.int .i64 r.1.Seq,.int .i64 r.1.Tx,.int .i64 r.1.Base]),(B r.2)]) (List.replicate 1 .gone):=by
 unfold E4 at h;refine gk Tryz.func94 rfl Tryz.ntmps94 (ws (Ab 3 0 (RW.nil (Wp.seq (ws (Ab 1 0 (RW.c 0 h (MD _) (fun v1 gv1 h=>Ab 1 0 (RW.nil (wc h (fun h=>?_) (fun h=>?_)))))))))))
 ·refine ws (Ab 3 0 (RW.nil ?_));cases h;exact Wp.ret ⟨.inr rfl,BA (by kernel_rfl)⟩
 refine Wp.skip (ws (Ab 1 0 (RW.c 0 h (G0 _) (fun v2 gv2 h=>Ab 1 1 (RW.nil (ws (Ab 1 0 (RW.c 0 h (II _) (fun v3 gv3 h=>RW.c 0 h (aO) (fun v4 gv4 h=>Ab 3 0 (RW.nil (Wp.seq (ws ?_)))))))))))));refine Ab 1 0 (RW.nil (BP h [2,4,5,6] [.box 2,.box 5] (fun s=>(XG v2 v3 v4 s.1 s.2.1 s.2.2)) [2,4,5] [.box 2,.box 5] (fun s=>(XF v2 v3 v4 s.1 s.2)) Ay ?_ ?_))
 ·rintro⟨g,i,b⟩ o (h:FQ v2 g i b=some o);unfold FQ at h;refine Wp.seq (ws (Ab 2 0 (RW.q (D5 EG v2) (Ab 1 0 (RW.nil (wc h (fun h=>?_) (fun h=>?_)))))))
  ·refine Wp.skip (Wp.seq (Wp.block (Wp.seq (Wp.seq (Ln Ct (Dh 2 (bd h fun x1 gx1 h=>SW.q (Ck EG gx1) (SW.q (DB EG gx1 0 2) (SW.q (DB EG gx1 2 3) (SW.q (CG EG gx1 3) (Dh 3 (SW.nil ?_))))))))))));refine Bq h [2,4,5,6] [.box 2,.box 5] (fun a=>(XE v2 v3 v4 g b a)) ?_ ?_
   ·intro a h;refine wc h (fun h=>?_) (fun h=>?_)
    ·refine Av (Ab 2 0 (bd h fun x2 gx2 h=>RW.q (Ck EG gx2) (RW.q (DB EG gx2 0 2) (RW.q (DB EG gx2 2 3) (RW.q (CG EG gx2 3) (Ab 3 0 (RW.nil ?_)))))));cases h;exact⟨_,rfl,Ay⟩
    refine Wp.skip ?_;cases h;exact⟨_,rfl,Ay⟩
   intro j1 h E hE;refine A9 hE (Wp.seq (Bq h [2,4,5,6,59] [.box 2,.box 5] (fun a=>(XD v2 v3 v4 g b j1 a)) ?_ ?_))
   ·intro a h;refine Ln Ct (Dh 2 (bd h fun x3 gx3 h=>SW.q (Ck EG gx3) (SW.q (DB EG gx3 0 2) (SW.q (DB EG gx3 2 2) (SW.q (CG EG gx3 2) (Dh 2 (WD 49 h (fun h=>?_) (fun h=>?_))))))))
    ·refine Dh 2 (bd h fun x4 gx4 h=>SW.q (Ck EG gx4) (SW.q (DB EG gx4 0 2) (SW.q (DB EG gx4 2 4) (SW.q (CG EG gx4 4) (Dh 4 (SW.nil ?_))))));cases h;exact⟨_,rfl,Ay⟩
    refine Dh 10 (SW.nil ?_);cases h;exact⟨_,rfl,Ay⟩
   intro j2 h E hE;refine A9 hE (wc h (fun h=>?_) (fun h=>?_))
   ·refine Av (Ab 2 0 (bd h fun x5 gx5 h=>RW.q (Ck EG gx5) (RW.q (DB EG gx5 0 2) (RW.q (DB EG gx5 2 4) (RW.q (CG EG gx5 4) (Ab 3 0 (RW.nil (Av (Ab 3 0 (RW.nil ?_))))))))));cases h;exact⟨_,rfl,Ay⟩
   refine Wp.skip (Av (Ab 3 0 (RW.nil ?_)));cases h;exact⟨_,rfl,Ay⟩
  refine Wp.exit ?_;cases h;exact⟨_,rfl,Ay⟩
 intro v5 h E hE;refine A9 hE (ws (Ab 1 0 (RW.c 0 h (gs (ca (co (cs (Tu _))) rfl) (VJ _)) (fun v6 gv6 h=>RW.c 0 h (gs (ca (co (cs (AAM _))) rfl) (Xs _)) (fun v7 gv7 h=>RW.fz (.slot 70) 0 (AAM v7) (Ab 1 0 (RW.nil (Wp.seq (ws (Ab 1 0 (RW.nil (BP h [2,5,7,8] [.box 2,.box 5] (fun s=>(XC v3 v5 v7 s.1 s.2.1 s.2.2.1 s.2.2.2.1 s.2.2.2.2)) [2,5] [.box 2,.box 5] (fun s=>(XB v3 v5 s.1 s.2.1 s.2.2.1 s.2.2.2)) Ay ?_ ?_)))))))) (hc:=(.inr (fun v=>by simp [BF,BM,AX,BC,wE])))) (hc:=(.inr (fun v=>by simp [BF,BM,AX,BC,wE]))))))
 ·rintro⟨j,d,e,f,k⟩ o (h:FP v7 j d e f k=some o);unfold FP at h;refine Wp.seq (ws (Ab 2 0 (RW.q (D5 (Ij false) v7) (Ab 1 0 (RW.nil (wc h (fun h=>?_) (fun h=>?_)))))))
  ·refine Wp.skip (Wp.seq (Wp.block (Wp.seq (ws (Ab 2 0 (RW.nil (Bq h [2,5,7,8] [.box 2,.box 5] (fun a=>(XA v3 v5 v7 j d e f a)) ?_ ?_)))))))
   ·intro a h;refine wc h (fun h=>?_) (fun h=>?_)
    ·refine Av (Ab 2 0 (bd h fun x6 gx6 h=>RW.q (Ck (Ij false) gx6) (RW.q (DB (Ij false) gx6 0 0) (RW.q (CG (Ij false) gx6 0) (Ab 2 0 (RW.nil ?_))))));cases h;exact⟨_,rfl,Ay⟩
    refine Wp.skip ?_;cases h;exact⟨_,rfl,Ay⟩
   intro j3 h E hE;refine A9 hE (Er [12] Ct (fun c E h=>by rcases h with⟨h|h,_⟩<;>cases h) (AC [0,1,2,3] 0 (bd h fun x7 gx7 h=>KW.q 4 (Ck (Ij false) gx7) (KW.q 5 (DB (Ij false) gx7 0 2) (KW.q 6 (CG (Ij false) gx7 2) (BD 7 (KB.c 0 h (gs (ca (fP (ca (cs (Fx _)) (ca (cs (Dj _)) rfl))) rfl) (b9 _ _)) (fun v8 gv8 h=>AC [8] 1 (Jx 9 (AC [11] 0 (Be 10 12 ?_ ?_)))) (hc:=(.inr (fun v=>by simp [BF,BM,AX,BC,XZ,Ll]))))))))))
   ·refine KB.o false (AC [12] 0 (Ak (Av (Ab 3 0 (RW.nil ?_)))));cases h;exact⟨_,rfl,Ay⟩
   refine KB.o false (AC [10] 0 (Ak (Av (Ab 3 0 (RW.nil ?_)))));cases h;exact⟨_,rfl,Ay⟩
  refine Wp.exit ?_;cases h;exact⟨_,rfl,Ay⟩
 intro v9 h E hE;refine A9 hE (ws (Ab 3 0 (RW.nil ?_)));cases h;exact Wp.ret ⟨.inr rfl,BA (by kernel_rfl)⟩
theorem XO (a:Int) (r:AH×Bool) (h:KE a=some r):Ba Tryz.prog 59 [.sv (I a)] (.tup [(.agg [.sl true 77 3 (Ah (Co true) r.1.Flash.Blocks),.sl true 39 2 (Ah CC r.1.Store.Vols),.sl true 150 2 (Ah (AS true) r.1.Store.Arena.Knots),.int .i64 r.1.Store.Next,.int .i64 r.1.Seq,.int .i64 r.1.Tx,.int .i64 r.1.Base]),(B r.2)]) (List.replicate 1 .gone):=by
 unfold KE at h;refine gk Tryz.func59 rfl Tryz.ntmps59 (ws (Ab 2 0 (RW.nil (ws (Ab 1 0 (RW.c 0 h (bX _) (fun v1 gv1 h=>Ab 6 1 (RW.nil (Wp.seq (ws (Ab 2 0 (RW.nil (wc h (fun h=>?_) (fun h=>?_))))))))))))))
 ·refine ws (Ab 3 0 (RW.nil ?_));cases h;exact Wp.ret ⟨.inr rfl,BA (by kernel_rfl)⟩
 refine Wp.skip (ws (Ab 1 0 (RW.c 0 h (gs (ca (fP (ca (cs (Fw _)) rfl)) rfl) (NS _)) (fun v2 gv2 h=>Ab 4 0 (RW.nil ?_)) (hc:=(.inr (fun v=>by simp [BF,BM,AX,BC,XZ,sS,Ll]))))));cases h;exact Wp.ret ⟨.inr rfl,BA (by kernel_rfl)⟩
set_option maxHeartbeats 4000000 in
theorem Vn (xC:BE) (a:List Int) (r:Int×BE) (h:Jj xC a=some r):Ba Tryz.prog 79 [.ext [.sl false 5 1 (Ah c5 xC.b_),.int .i64 xC.i_,.int .i64 xC.h_],.sv (.one (.sl false 3 1 (Ah c3 a)))] (I r.1) (.ext [.sl false 5 1 (Ah c5 r.2.b_),.int .i64 r.2.i_,.int .i64 r.2.h_]::List.replicate 1 .gone):=by
 unfold Jj at h;refine gkx Tryz.func79 rfl Tryz.ntmps79 (ws (Ab 1 0 (RW.nil (ws (Ab 3 0 (RW.q (D5 k3 a) (G6 h (De _ _) (fun _=>rfl) (fun v1 gv1 h=>bd h fun x1 gx1 h=>RW.q (Ck k3 gx1) (RW.q (CG k3 gx1 0) (Ab 1 0 (RW.nil ?_)))))))))));cases h;exact Wp.ret ⟨.inr rfl,sE (by kernel_rfl)⟩
set_option maxHeartbeats 4000000 in
theorem SU (xC:BE) (xN:Int) (r:Bool×BE) (h:HK xC xN=some r):Ba Tryz.prog 80 [.ext [.sl false 5 1 (Ah c5 xC.b_),.int .i64 xC.i_,.int .i64 xC.h_],.sv (I xN)] (B r.1) (.ext [.sl false 5 1 (Ah c5 r.2.b_),.int .i64 r.2.i_,.int .i64 r.2.h_]::List.replicate 1 .gone):=by
 unfold HK at h;refine gkx Tryz.func80 rfl Tryz.ntmps80 (ws (Ab 1 0 (RW.nil (ws (Ab 2 0 (G6 h (De _ _) (fun _=>rfl) (fun v1 gv1 h=>Ab 2 0 (RW.nil ?_))))))));cases h;exact Wp.ret ⟨.inr rfl,sE (by kernel_rfl)⟩
def c9 (x:ByteArray):List TV:=[.str x]
theorem k9:∀x,(c9 x).length=1:=fun _=>rfl
theorem sh9:∀l,BH (Ah c9 l)=Ah c9 l:=D6 (fun _=>rfl)
set_option maxHeartbeats 4000000 in
theorem gQ (xC:BE) (a:List ByteArray) (r:ByteArray×BE) (h:L9 xC a=some r):Ba Tryz.prog 115 [.ext [.sl false 5 1 (Ah c5 xC.b_),.int .i64 xC.i_,.int .i64 xC.h_],.sv (.one (.sl false 9 1 (Ah c9 a)))] (Y r.1) (.ext [.sl false 5 1 (Ah c5 r.2.b_),.int .i64 r.2.i_,.int .i64 r.2.h_]::List.replicate 1 .gone):=by
 unfold L9 at h;refine gkx Tryz.func115 rfl Tryz.ntmps115 (ws (Ab 1 0 (RW.nil (ws (Ab 3 0 (RW.q (D5 k9 a) (G6 h (De _ _) (fun _=>rfl) (fun v1 gv1 h=>bd h fun x1 gx1 h=>RW.q (Ck k9 gx1) (RW.q (CG k9 gx1 0) (Ab 1 0 (RW.nil ?_)))))))))));cases h;exact Wp.ret ⟨.inr rfl,sE (by kernel_rfl)⟩
set_option maxHeartbeats 4000000 in
theorem gA (xC:BE) (r:ByteArray×BE) (h:Ni xC=some r):Ba Tryz.prog 81 [.ext [.sl false 5 1 (Ah c5 xC.b_),.int .i64 xC.i_,.int .i64 xC.h_]] (Y r.1) (.ext [.sl false 5 1 (Ah c5 r.2.b_),.int .i64 r.2.i_,.int .i64 r.2.h_]::List.replicate 0 .gone):=by
 unfold Ni at h;refine gkx Tryz.func81 rfl Tryz.ntmps81 (ws (Ab 1 0 (RW.nil (ws (Ab 2 0 (RW.fz (.slot 4) 0 (sh9 [(bs []),(bs [97]),(bs [98,98]),(bs [97,98,99,100,97,98,99,100,97,98,99,100]),(bs [104,101,108,108,111]),(bs [104,101,108,108,111,32,104,101,108,108,111,32,104,101,108,108,111]),(bs [122,122,122,122,122,122,122,122,122,122,122,122]),(bs [113,49]),(bs [113,50]),(bs [113,51])]) (G6 h (gQ _ _) (fun _=>rfl) (fun v1 gv1 h=>Ab 1 0 (RW.nil ?_)))))))));cases h;exact Wp.ret ⟨.inr rfl,sE (by kernel_rfl)⟩
def ZL (xD:AH) (z1:Int) (z2:Int) (z3:List Int) (z4:Int) (z5:Int):St:=AE [(0,(.one (.ptr (.ext 0) 0 [] 0))),(3,(.one (.ptr (.box 3) 0 [] 0))),(4,(.one (.ptr (.box 4) 0 [] 0))),(5,(.one (.ptr (.box 5) 0 [] 0)))] [(.box 3,[.sl false 77 3 (Ah (Co false) xD.Flash.Blocks),.sl false 39 2 (Ah CC xD.Store.Vols),.sl false 150 2 (Ah (AS false) xD.Store.Arena.Knots),.int .i64 xD.Store.Next,.int .i64 xD.Seq,.int .i64 xD.Tx,.int .i64 xD.Base]),(.box 4,[.int .i64 0,.int .i64 0,.int .i64 0,.int .i64 0,.str (bs [])]),(.box 5,[.int .i64 z1,.int .i64 z2,.int .i64 0,.int .i64 0,.str (bs [])]),(.ext 0,[.sl false 5 1 (Ah c5 z3),.int .i64 z4,.int .i64 z5])]
def ZK (xD:AH) (v1:Int×BE) (v2:Int×BE) (z6:Bool) (z7:List Int) (z8:Int) (z9:Int):St:=AE [(0,(.one (.ptr (.ext 0) 0 [] 0))),(3,(.one (.ptr (.box 3) 0 [] 0))),(4,(.one (.ptr (.box 4) 0 [] 0))),(5,(.one (.ptr (.box 5) 0 [] 0))),(31,(B z6))] [(.box 3,[.sl false 77 3 (Ah (Co false) xD.Flash.Blocks),.sl false 39 2 (Ah CC xD.Store.Vols),.sl false 150 2 (Ah (AS false) xD.Store.Arena.Knots),.int .i64 xD.Store.Next,.int .i64 xD.Seq,.int .i64 xD.Tx,.int .i64 xD.Base]),(.box 4,[.int .i64 0,.int .i64 0,.int .i64 0,.int .i64 0,.str (bs [])]),(.box 5,[.int .i64 v1.1,.int .i64 (ad 1 v2.1),.int .i64 0,.int .i64 0,.str (bs [])]),(.ext 0,[.sl false 5 1 (Ah c5 z7),.int .i64 z8,.int .i64 z9])]
def ZJ (xD:AH) (j1:Int×Int×List Int×Int×Int) (z10:Bool) (z11:List Int) (z12:Int) (z13:Int):St:=AE [(0,(.one (.ptr (.ext 0) 0 [] 0))),(3,(.one (.ptr (.box 3) 0 [] 0))),(4,(.one (.ptr (.box 4) 0 [] 0))),(5,(.one (.ptr (.box 5) 0 [] 0))),(52,(B z10))] [(.box 3,[.sl false 77 3 (Ah (Co false) xD.Flash.Blocks),.sl false 39 2 (Ah CC xD.Store.Vols),.sl false 150 2 (Ah (AS false) xD.Store.Arena.Knots),.int .i64 xD.Store.Next,.int .i64 xD.Seq,.int .i64 xD.Tx,.int .i64 xD.Base]),(.box 4,[.int .i64 0,.int .i64 0,.int .i64 0,.int .i64 0,.str (bs [])]),(.box 5,[.int .i64 j1.1,.int .i64 j1.2.1,.int .i64 0,.int .i64 0,.str (bs [])]),(.ext 0,[.sl false 5 1 (Ah c5 z11),.int .i64 z12,.int .i64 z13])]
def ZI (xD:AH) (j1:Int×Int×List Int×Int×Int) (j3:Bool×List Int×Int×Int) (z14:Int):St:=AE [(0,(.one (.ptr (.ext 0) 0 [] 0))),(3,(.one (.ptr (.box 3) 0 [] 0))),(4,(.one (.ptr (.box 4) 0 [] 0))),(5,(.one (.ptr (.box 5) 0 [] 0)))] [(.box 3,[.sl false 77 3 (Ah (Co false) xD.Flash.Blocks),.sl false 39 2 (Ah CC xD.Store.Vols),.sl false 150 2 (Ah (AS false) xD.Store.Arena.Knots),.int .i64 xD.Store.Next,.int .i64 xD.Seq,.int .i64 xD.Tx,.int .i64 xD.Base]),(.box 4,[.int .i64 0,.int .i64 0,.int .i64 0,.int .i64 0,.str (bs [])]),(.box 5,[.int .i64 z14,.int .i64 j1.2.1,.int .i64 0,.int .i64 0,.str (bs [])]),(.ext 0,[.sl false 5 1 (Ah c5 j3.2.1),.int .i64 j3.2.2.1,.int .i64 j3.2.2.2])]
def ZH (j1:Int×Int×List Int×Int×Int) (j4:Int) (z15:Int) (z16:Int) (z17:ByteArray) (z18:List Int) (z19:Int) (z20:Int):St:=AE [(4,(.one (.ptr (.box 4) 0 [] 0))),(5,(.one (.ptr (.box 5) 0 [] 0)))] [(.box 4,[.int .i64 0,.int .i64 0,.int .i64 0,.int .i64 0,.str (bs [])]),(.box 5,[.int .i64 j4,.int .i64 j1.2.1,.int .i64 z15,.int .i64 z16,.str z17]),(.ext 0,[.sl false 5 1 (Ah c5 z18),.int .i64 z19,.int .i64 z20])]
def ZG (xD:AH) (j1:Int×Int×List Int×Int×Int) (j3:Bool×List Int×Int×Int) (j4:Int) (z21:Bool):St:=AE [(0,(.one (.ptr (.ext 0) 0 [] 0))),(3,(.one (.ptr (.box 3) 0 [] 0))),(4,(.one (.ptr (.box 4) 0 [] 0))),(5,(.one (.ptr (.box 5) 0 [] 0))),(55,(I j4)),(64,(B z21))] [(.box 3,[.sl false 77 3 (Ah (Co false) xD.Flash.Blocks),.sl false 39 2 (Ah CC xD.Store.Vols),.sl false 150 2 (Ah (AS false) xD.Store.Arena.Knots),.int .i64 xD.Store.Next,.int .i64 xD.Seq,.int .i64 xD.Tx,.int .i64 xD.Base]),(.box 4,[.int .i64 0,.int .i64 0,.int .i64 0,.int .i64 0,.str (bs [])]),(.box 5,[.int .i64 j4,.int .i64 j1.2.1,.int .i64 0,.int .i64 0,.str (bs [])]),(.ext 0,[.sl false 5 1 (Ah c5 j3.2.1),.int .i64 j3.2.2.1,.int .i64 j3.2.2.2])]
set_option maxHeartbeats 4000000 in
theorem SN (xC:BE) (xD:AH) (r:QR×BE) (h:Nj xC xD=some r):Ba Tryz.prog 50 [.ext [.sl false 5 1 (Ah c5 xC.b_),.int .i64 xC.i_,.int .i64 xC.h_],.sv (.agg [.sl false 77 3 (Ah (Co false) xD.Flash.Blocks),.sl false 39 2 (Ah CC xD.Store.Vols),.sl false 150 2 (Ah (AS false) xD.Store.Arena.Knots),.int .i64 xD.Store.Next,.int .i64 xD.Seq,.int .i64 xD.Tx,.int .i64 xD.Base])] (.agg [.int .i64 r.1.Kind,.int .i64 r.1.Vol,.int .i64 r.1.Sector,.int .i64 r.1.Of,.str r.1.Text]) (.ext [.sl false 5 1 (Ah c5 r.2.b_),.int .i64 r.2.i_,.int .i64 r.2.h_]::List.replicate 1 .gone):=by
 unfold Nj at h;refine gkx Tryz.func50 rfl Tryz.ntmps50 (ws (Ab 2 0 (RW.nil (ws (Ab 2 0 (RW.fz (.slot 7) 0 (lL [1,1,1,1,1,1,2,3,4,5,6]) (G6 h (Vn _ _) (fun _=>rfl) (fun v1 gv1 h=>Ab 1 0 (G6 h (De _ _) (fun _=>rfl) (fun v2 gv2 h=>Ab 4 0 (RW.nil (Wp.seq (ws ?_)))))))))))));refine Ab 3 0 (RW.q (D5 DP xD.Store.Vols) (Ab 1 0 (RW.nil (Bq h [0,3,4,5] [.box 3,.box 4,.box 5,.ext 0] (fun a=>(ZL xD a.1 a.2.1 a.2.2.1 a.2.2.2.1 a.2.2.2.2)) ?_ ?_))))
 ·intro a h;refine wc h (fun h=>?_) (fun h=>?_)
  ·refine Av (Ab 2 0 (RW.nil ?_));cases h;exact⟨_,rfl,Ay⟩
  refine Wp.seq (Bq h [0,3,4,5,31] [.box 3,.box 4,.box 5,.ext 0] (fun a=>(ZK xD v1 v2 a.1 a.2.1 a.2.2.1 a.2.2.2)) ?_ ?_)
  ·intro a h;refine Av (Ab 4 0 (AQ 22 h (fun h=>?_) (fun h=>?_)))
   ·refine Ab 5 0 (AQ 27 h (fun h=>?_) (fun h=>?_))
    ·refine Ab 1 0 (G6 h (SU _ _) (fun _=>rfl) (fun v3 gv3 h=>Ab 2 0 (RW.nil ?_)));cases h;exact⟨_,rfl,Ay⟩
    refine Ab 4 0 (RW.nil ?_);cases h;exact⟨_,rfl,Ay⟩
   refine Ab 9 0 (RW.nil ?_);cases h;exact⟨_,rfl,Ay⟩
  intro j2 h E hE;refine A9 hE (wc h (fun h=>?_) (fun h=>?_))
  ·refine Er [8,13] Ct (fun c E h=>by rcases h with⟨h|h,_⟩<;>cases h) (AC [3,4,5,6] 0 (KW.q 7 (D5 DP xD.Store.Vols) (Be 0 8 ?_ ?_)))
   ·refine KB.o false (Be 1 8 ?_ ?_)
    ·refine KB.o false (Be 2 8 ?_ ?_)
     ·refine KB.o false (BD 8 (Zz h (De _ _) (fun _=>rfl) (fun v4 gv4 h=>BD 9 (bd h fun x1 gx1 h=>KB.q (Ck DP gx1) (BD 10 (KB.q (DB DP gx1 0 0) (BD 11 (KB.q (CG DP gx1 0) (AC [12,13] 0 (Ak ?_))))))))));cases h;exact⟨_,rfl,Ay⟩
     refine Zz h (De _ _) (fun _=>rfl) (fun v5 gv5 h=>AC [2] 0 (BD 9 (bd h fun x2 gx2 h=>KB.q (Ck DP gx2) (BD 10 (KB.q (DB DP gx2 0 0) (BD 11 (KB.q (CG DP gx2 0) (AC [12,13] 0 (Ak ?_)))))))));cases h;exact⟨_,rfl,Ay⟩
    refine Zz h (De _ _) (fun _=>rfl) (fun v6 gv6 h=>AC [1,2] 0 (BD 9 (bd h fun x3 gx3 h=>KB.q (Ck DP gx3) (BD 10 (KB.q (DB DP gx3 0 0) (BD 11 (KB.q (CG DP gx3 0) (AC [12,13] 0 (Ak ?_)))))))));cases h;exact⟨_,rfl,Ay⟩
   refine Zz h (De _ _) (fun _=>rfl) (fun v7 gv7 h=>AC [0,1,2] 0 (BD 9 (bd h fun x4 gx4 h=>KB.q (Ck DP gx4) (BD 10 (KB.q (DB DP gx4 0 0) (BD 11 (KB.q (CG DP gx4 0) (AC [12,13] 0 (Ak ?_)))))))));cases h;exact⟨_,rfl,Ay⟩
  refine Wp.skip ?_;cases h;exact⟨_,rfl,Ay⟩
 intro j1 h E hE;refine A9 hE (Wp.seq (Wp.seq (Bq h [0,3,4,5,52] [.box 3,.box 4,.box 5,.ext 0] (fun a=>(ZJ xD j1 a.1 a.2.1 a.2.2.1 a.2.2.2)) ?_ ?_)))
 ·intro a h;refine Av (Ab 4 0 (AQ 48 h (fun h=>?_) (fun h=>?_)))
  ·refine Ab 1 0 (G6 h (SU _ _) (fun _=>rfl) (fun v8 gv8 h=>Ab 2 0 (RW.nil ?_)));cases h;exact⟨_,rfl,Ay⟩
  refine Ab 4 0 (RW.nil ?_);cases h;exact⟨_,rfl,Ay⟩
 intro j3 h E hE;refine A9 hE (Bq h [0,3,4,5] [.box 3,.box 4,.box 5,.ext 0] (fun a=>(ZI xD j1 j3 a)) ?_ ?_)
 ·intro a h;refine wc h (fun h=>?_) (fun h=>?_)
  ·refine Av (Ab 2 0 (RW.nil ?_));cases h;exact⟨_,rfl,Ay⟩
  refine Wp.skip ?_;cases h;exact⟨_,rfl,Ay⟩
 intro j4 h E hE;refine A9 hE (Wp.seq (ws (Ab 2 0 (RW.nil (Wp.block (ws (Ab 2 0 (RW.nil (Bq h [4,5] [.box 4,.box 5,.ext 0] (fun a=>(ZH j1 j4 a.1 a.2.1 a.2.2.1 a.2.2.2.1 a.2.2.2.2.1 a.2.2.2.2.2)) ?_ ?_)))))))))
 ·intro a h;refine wc h (fun h=>?_) (fun h=>?_)
  ·refine ws (Ab 1 0 (G6 h (gA _) (fun _=>rfl) (fun v9 gv9 h=>Ab 2 0 (RW.nil (Av (Ab 1 0 (G6 h (De _ _) (fun _=>rfl) (fun v10 gv10 h=>Ab 2 0 (RW.nil ?_)))))))));cases h;exact⟨_,rfl,Ay⟩
  refine Wp.seq (ws (Ab 2 0 (RW.nil (Bq h [0,3,4,5,55,64] [.box 3,.box 4,.box 5,.ext 0] (fun a=>(ZG xD j1 j3 j4 a)) ?_ ?_))))
  ·intro a h;refine wc h (fun h=>?_) (fun h=>?_)
   ·refine Wp.skip ?_;cases h;exact⟨_,rfl,Ay⟩
   refine Av (Ab 2 0 (RW.nil ?_));cases h;exact⟨_,rfl,Ay⟩
  intro j6 h E hE;refine A9 hE (wc h (fun h=>?_) (fun h=>?_))
  ·refine Av (Ab 1 0 (G6 h (De _ _) (fun _=>rfl) (fun v11 gv11 h=>Ab 2 0 (RW.nil ?_))));cases h;exact⟨_,rfl,Ay⟩
  refine ws (Ab 2 0 (RW.nil (wc h (fun h=>?_) (fun h=>?_))))
  ·refine ws (Ab 1 0 (G6 h (De _ _) (fun _=>rfl) (fun v12 gv12 h=>Ab 3 0 (RW.nil (ws (Ab 3 0 (RW.q (D5 DP xD.Store.Vols) (Ab 1 0 (RW.nil (wc h (fun h=>?_) (fun h=>?_)))))))))))
   ·refine Av (Ab 3 0 (bd h fun x5 gx5 h=>RW.q (Ck DP gx5) (RW.q (DB DP gx5 0 0) (RW.q (CG DP gx5 0) (Ab 2 0 (RW.nil ?_))))));cases h;exact⟨_,rfl,Ay⟩
   refine Wp.skip ?_;cases h;exact⟨_,rfl,Ay⟩
  refine Wp.skip ?_;cases h;exact⟨_,rfl,Ay⟩
 intro j5 h E hE;refine A9 hE (ws (Ab 2 0 (RW.nil ?_)));cases h;exact Wp.ret ⟨.inr rfl,sE (by kernel_rfl)⟩
theorem SO (xD:AH) (r:AH) (h:L7 xD=some r):Ba Tryz.prog 95 [.sv (.agg [.sl false 77 3 (Ah (Co false) xD.Flash.Blocks),.sl false 39 2 (Ah CC xD.Store.Vols),.sl false 150 2 (Ah (AS false) xD.Store.Arena.Knots),.int .i64 xD.Store.Next,.int .i64 xD.Seq,.int .i64 xD.Tx,.int .i64 xD.Base])] (.agg [.sl true 77 3 (Ah (Co true) r.Flash.Blocks),.sl true 39 2 (Ah CC r.Store.Vols),.sl true 150 2 (Ah (AS true) r.Store.Arena.Knots),.int .i64 r.Store.Next,.int .i64 r.Seq,.int .i64 r.Tx,.int .i64 r.Base]) (List.replicate 1 .gone):=by
 unfold L7 at h;refine gk Tryz.func95 rfl Tryz.ntmps95 (ws (Ab 2 0 (RW.nil (ws (Ab 2 0 (RW.c 0 h (II _) (fun v1 gv1 h=>Ab 2 0 (RW.nil (ws (Ab 2 0 (RW.c 0 h (F8 _) (fun v2 gv2 h=>Ab 2 0 (RW.nil ?_)))))))))))));refine ws (Ab 2 0 (RW.nil ?_));cases h;exact Wp.ret ⟨.inr rfl,BA (by kernel_rfl)⟩
def nF (xA:Arena) (b:Int) (a:Int) (z1:Bool):St:=AE [(1,(I b)),(2,(I a)),(3,(.one (.ptr (.box 3) 0 [] 0))),(20,(B z1))] [(.box 3,[.sl false 150 2 (Ah (AS false) xA.Knots)])]
theorem YK (xA:Arena) (d:Int) (b:Int) (r:Int) (h:MC xA d b=some r):Ba Tryz.prog 33 [.sv (.agg [.sl false 150 2 (Ah (AS false) xA.Knots)]),.sv (I d),.sv (I b)] (I r) (List.replicate 3 .gone):=by
 unfold MC at h;refine gk Tryz.func33 rfl Tryz.ntmps33 (ws (Ab 2 0 (RW.nil (Wp.seq (Wp.seq (Bq h [1,2,3,20] [.box 3] (fun a=>(nF xA d b a)) ?_ ?_))))))
 ·intro a h;refine Av (Ab 1 0 (RW.c 0 h (MF _) (fun v1 gv1 h=>Ab 2 0 (AQ 10 h (fun h=>?_) (fun h=>?_)))))
  ·refine Ab 10 0 (RW.nil ?_);cases h;exact⟨_,rfl,Ay⟩
  refine Ab 2 0 (RW.c 0 h (K5 _ _) (fun v2 gv2 h=>Ab 3 0 (AQ 16 h (fun h=>?_) (fun h=>?_))))
  ·refine Ab 4 0 (RW.nil ?_);cases h;exact⟨_,rfl,Ay⟩
  refine Ab 1 0 (RW.c 0 h (BK _ _ _) (fun v3 gv3 h=>Ab 2 0 (RW.nil ?_)));cases h;exact⟨_,rfl,Ay⟩
 intro j1 h E hE;refine A9 hE (wc h (fun h=>?_) (fun h=>?_))
 ·refine ws (Ab 1 0 (RW.nil ?_));cases h;exact Wp.ret ⟨.inr rfl,BA (by kernel_rfl)⟩
 refine Wp.skip (ws (Ab 3 0 (RW.c 0 h (Vk _ _ _) (fun v4 gv4 h=>Ab 1 0 (RW.nil ?_)))));cases h;exact Wp.ret ⟨.inr rfl,BA (by kernel_rfl)⟩
def nO (xA:Arena) (a:Int) (z1:List Int) (z2:Int):St:=AE [(1,(I a)),(2,(.one (.ptr (.box 2) 0 [] 0))),(5,(.one (.sl true 3 1 (Ah c3 z1)))),(6,(I z2))] [(.box 2,[.sl false 150 2 (Ah (AS false) xA.Knots)])]
def nN (z3:List Int):St:=AE [(5,(.one (.sl true 3 1 (Ah c3 z3))))] []
theorem PA (xA:Arena) (a:Int) (r:List Int) (h:HU xA a=some r):Ba Tryz.prog 42 [.sv (.agg [.sl false 150 2 (Ah (AS false) xA.Knots)]),.sv (I a)] (.one (.sl true 3 1 (Ah c3 r))) (List.replicate 2 .gone):=by
 unfold HU at h;refine gk Tryz.func42 rfl Tryz.ntmps42 (ws (Ab 2 0 (RW.nil (ws (Ab 2 2 (RW.nil (Wp.seq (ws (Ab 1 0 (RW.nil (BP h [1,2,5,6] [.box 2] (fun s=>(nO xA a s.1 s.2)) [5] [] (fun s=>(nN s)) Ay ?_ ?_)))))))))))
 ·rintro⟨b,d⟩ o (h:FW xA a b d=some o);unfold FW at h;refine Wp.seq (ws (Ab 2 0 (RW.nil (wc h (fun h=>?_) (fun h=>?_)))))
  ·refine Wp.skip (Wp.seq (Wp.block (Av (Ab 4 0 (RW.c 0 h (YK _ _ _) (fun v1 gv1 h=>Ab 1 0 (bd h fun q1 gq1 h=>CW (DY k3 (fun _=>rfl) b gq1) (Ab 1 1 (RW.nil (Av (Ab 3 0 (RW.nil ?_))))))))))));cases h;exact⟨_,rfl,Ay⟩
  refine Wp.exit ?_;cases h;exact⟨_,rfl,Ay⟩
 intro v2 h E hE;refine A9 hE (ws (Ab 2 2 (RW.nil ?_)));cases h;exact Wp.ret ⟨.inr rfl,BA (by kernel_rfl)⟩
def Sl (xA:List Int) (xB:List Int) (z1:Int):St:=AE [(0,(.one (.sl false 3 1 (Ah c3 xA)))),(1,(.one (.sl false 3 1 (Ah c3 xB)))),(5,(I z1))] []
def Sk:St:=AE [] []
theorem Tw (xA:List Int) (xB:List Int) (r:Bool) (h:Im xA xB=some r):Ba Tryz.prog 150 [.sv (.one (.sl false 3 1 (Ah c3 xA))),.sv (.one (.sl false 3 1 (Ah c3 xB)))] (B r) (List.replicate 2 .gone):=by
 unfold Im at h;refine gk Tryz.func150 rfl Tryz.ntmps150 (ws (Ab 1 0 (RW.nil (Wp.seq (ws (Ab 1 0 (RW.q (D5 k3 xA) (Ab 1 0 (RW.q (D5 k3 xB) (Ab 1 0 (RW.nil (wc h (fun h=>?_) (fun h=>?_)))))))))))))
 ·refine ws (Ab 1 0 (RW.nil ?_));cases h;exact Wp.ret ⟨.inr rfl,BA (by kernel_rfl)⟩
 refine Wp.skip (Wp.seq (ws (Ab 1 0 (RW.nil (Em h [0,1,5] [] (fun s=>(Sl xA xB s)) [] [] (fun _=>Sk) Ay ?_ ?_)))))
 ·rintro a o (h:EK xA xB a=some o) hk1;unfold EK at h;refine Wp.seq (ws (Ab 2 0 (RW.q (D5 k3 xA) (Ab 1 0 (RW.nil (wc h (fun h=>?_) (fun h=>?_)))))))
  ·refine Wp.skip (Wp.seq (Wp.block (Wp.seq (Ln Ct (Dh 2 (bd h fun x1 gx1 h=>SW.q (Ck k3 gx1) (SW.q (CG k3 gx1 0) (Dh 2 (bd h fun x2 gx2 h=>SW.q (Ck k3 gx2) (SW.q (CG k3 gx2 0) (Dh 1 ?_)))))))))));refine SW.nil (wc h (fun h=>?_) (fun h=>?_))
   ·refine ws (Ab 1 0 (RW.nil ?_));cases h;replace h:some _=some _:=hk1 _ rfl;cases h;exact Wp.ret ⟨.inr rfl,BA (by kernel_rfl)⟩
   refine Wp.skip (Av (Ab 3 0 (RW.nil ?_)));cases h;exact⟨_,rfl,Ay⟩
  refine Wp.exit ?_;cases h;exact⟨_,rfl,Ay⟩
 intro v1 h E hE;refine A9 hE (ws (Ab 1 0 (RW.nil ?_)));cases h;exact Wp.ret ⟨.inr rfl,BA (by kernel_rfl)⟩
def Vz (xA:Store) (xB:Store) (z1:Bool):St:=AE [(2,(.one (.ptr (.box 2) 0 [] 0))),(3,(.one (.ptr (.box 3) 0 [] 0))),(19,(B z1))] [(.box 2,[.sl false 39 2 (Ah CC xA.Vols),.sl false 150 2 (Ah (AS false) xA.Arena.Knots),.int .i64 xA.Next]),(.box 3,[.sl false 39 2 (Ah CC xB.Vols),.sl false 150 2 (Ah (AS false) xB.Arena.Knots),.int .i64 xB.Next])]
def Vy (xA:Store) (xB:Store) (z2:Int):St:=AE [(2,(.one (.ptr (.box 2) 0 [] 0))),(3,(.one (.ptr (.box 3) 0 [] 0))),(5,(I z2))] [(.box 2,[.sl false 39 2 (Ah CC xA.Vols),.sl false 150 2 (Ah (AS false) xA.Arena.Knots),.int .i64 xA.Next]),(.box 3,[.sl false 39 2 (Ah CC xB.Vols),.sl false 150 2 (Ah (AS false) xB.Arena.Knots),.int .i64 xB.Next])]
def Vx:St:=AE [] []
theorem Xv (xA:Store) (xB:Store) (r:Bool) (h:K9 xA xB=some r):Ba Tryz.prog 127 [.sv (.agg [.sl false 39 2 (Ah CC xA.Vols),.sl false 150 2 (Ah (AS false) xA.Arena.Knots),.int .i64 xA.Next]),.sv (.agg [.sl false 39 2 (Ah CC xB.Vols),.sl false 150 2 (Ah (AS false) xB.Arena.Knots),.int .i64 xB.Next])] (B r) (List.replicate 2 .gone):=by
 unfold K9 at h;refine gk Tryz.func127 rfl Tryz.ntmps127 (ws (Ab 3 0 (RW.nil (Wp.seq (Wp.seq (Bq h [2,3,19] [.box 2,.box 3] (fun a=>(Vz xA xB a)) ?_ ?_))))))
 ·intro a h;refine Av (Ab 2 0 (RW.q (D5 DP xA.Vols) (Ab 2 0 (RW.q (D5 DP xB.Vols) (Ab 2 0 (AQ 13 h (fun h=>?_) (fun h=>?_)))))))
  ·refine Ab 6 0 (RW.nil ?_);cases h;exact⟨_,rfl,Ay⟩
  refine Ab 6 0 (RW.nil ?_);cases h;exact⟨_,rfl,Ay⟩
 intro j1 h E hE;refine A9 hE (wc h (fun h=>?_) (fun h=>?_))
 ·refine ws (Ab 1 0 (RW.nil ?_));cases h;exact Wp.ret ⟨.inr rfl,BA (by kernel_rfl)⟩
 refine Wp.skip (Wp.seq (ws (Ab 1 0 (RW.nil (Em h [2,3,5] [.box 2,.box 3] (fun s=>(Vy xA xB s)) [] [] (fun _=>Vx) Ay ?_ ?_)))))
 ·rintro b o (h:Gk xA xB b=some o) hk1;unfold Gk at h;refine Wp.seq (ws (Ab 3 0 (RW.q (D5 DP xA.Vols) (Ab 1 0 (RW.nil (wc h (fun h=>?_) (fun h=>?_)))))))
  ·refine Wp.skip (Wp.seq (Wp.block (Wp.seq (Er [] Ct (fun c E h=>by rcases h with⟨h|h,_⟩<;>cases h) (AC [0,1,2] 0 (bd h fun x1 gx1 h=>KW.q 3 (Ck DP gx1) (KW.q 4 (DB DP gx1 0 0) (KW.q 5 (CG DP gx1 0) (AC [6,7,8] 0 (bd h fun x2 gx2 h=>KW.q 9 (Ck DP gx2) (KW.q 10 (DB DP gx2 0 0) ?_)))))))))));refine KW.q 11 (CG DP gx2 0) (AC [12,13] 0 (WI 40 h (fun h=>?_) (fun h=>?_)))
   ·refine AC [14,15,16,17,18,19,20,21,23,24,25,26,27,28,29,30,22,31,32,33,34] 0 (Ak (wt (ws (Ab 1 0 (RW.nil ?_)))));cases h;replace h:some _=some _:=hk1 _ rfl;cases h;exact Wp.ret ⟨.inr rfl,BA (by kernel_rfl)⟩
   refine AC [14,15,16,17,18] 0 (bd h fun x3 gx3 h=>KW.q 19 (Ck DP gx3) (KW.q 20 (DB DP gx3 0 1) (KW.q 21 (CG DP gx3 1) (AC [23,24,25,26,27] 0 (bd h fun x4 gx4 h=>KW.q 28 (Ck DP gx4) (KW.q 29 (DB DP gx4 0 1) (KW.q 30 (CG DP gx4 1) (BD 22 (KB.c 0 h (PA _ _) (fun v1 gv1 h=>BD 31 (KB.c 0 h (PA _ _) (fun v2 gv2 h=>?_))))))))))));refine BD 32 (KB.c 0 h (gs (ca (co (cs (lL _))) (ca (co (cs (lL _))) rfl)) (Tw _ _)) (fun v3 gv3 h=>AC [33,34] 0 (Ak (wc h (fun h=>?_) (fun h=>?_)))) (hc:=(.inr (fun v=>rfl))))
   ·refine ws (Ab 1 0 (RW.nil ?_));cases h;replace h:some _=some _:=hk1 _ rfl;cases h;exact Wp.ret ⟨.inr rfl,BA (by kernel_rfl)⟩
   refine Wp.skip (Av (Ab 3 0 (RW.nil ?_)));cases h;exact⟨_,rfl,Ay⟩
  refine Wp.exit ?_;cases h;exact⟨_,rfl,Ay⟩
 intro v4 h E hE;refine A9 hE (ws (Ab 1 0 (RW.nil ?_)));cases h;exact Wp.ret ⟨.inr rfl,BA (by kernel_rfl)⟩
theorem cD (xD:AH) (r:Bool) (h:Md xD=some r):Ba Tryz.prog 96 [.sv (.agg [.sl false 77 3 (Ah (Co false) xD.Flash.Blocks),.sl false 39 2 (Ah CC xD.Store.Vols),.sl false 150 2 (Ah (AS false) xD.Store.Arena.Knots),.int .i64 xD.Store.Next,.int .i64 xD.Seq,.int .i64 xD.Tx,.int .i64 xD.Base])] (B r) (List.replicate 1 .gone):=by
 unfold Md at h;refine gk Tryz.func96 rfl Tryz.ntmps96 (ws (Ab 2 0 (RW.nil (ws (Ab 2 0 (RW.c 0 h (NS _) (fun v1 gv1 h=>Ab 6 1 (RW.nil (ws (Ab 2 0 (AQ 12 h (fun h=>?_) (fun h=>?_))))))))))))
 ·refine Ab 4 0 (RW.c 0 h (gs (ca (fP (ca (cs (Fx _)) (ca (cs (Dj _)) rfl))) rfl) (Xv _ _)) (fun v2 gv2 h=>Ab 2 0 (AQ 19 h (fun h=>?_) (fun h=>?_))) (hc:=(.inr (fun v=>rfl))))
  ·refine Ab 7 0 (AQ 26 h (fun h=>?_) (fun h=>?_))
   ·refine Ab 7 0 (AQ 33 h (fun h=>?_) (fun h=>?_))
    ·refine Ab 7 0 (AQ 40 h (fun h=>?_) (fun h=>?_))
     ·refine Ab 2 0 (RW.c 0 h (SX _) (fun v3 gv3 h=>Ab 2 0 (RW.nil ?_)));cases h;exact Wp.ret ⟨.inr rfl,BA (by kernel_rfl)⟩
     refine Ab 5 0 (RW.nil ?_);cases h;exact Wp.ret ⟨.inr rfl,BA (by kernel_rfl)⟩
    refine Ab 12 0 (RW.nil ?_);cases h;exact Wp.ret ⟨.inr rfl,BA (by kernel_rfl)⟩
   refine Ab 19 0 (RW.nil ?_);cases h;exact Wp.ret ⟨.inr rfl,BA (by kernel_rfl)⟩
  refine Ab 26 0 (RW.nil ?_);cases h;exact Wp.ret ⟨.inr rfl,BA (by kernel_rfl)⟩
 refine Ab 33 0 (RW.nil ?_);cases h;exact Wp.ret ⟨.inr rfl,BA (by kernel_rfl)⟩
def nM (xQ:QR) (z1:Bool):St:=AE [(1,(.one (.ptr (.box 1) 0 [] 0))),(28,(B z1))] [(.box 1,[.int .i64 xQ.Kind,.int .i64 xQ.Vol,.int .i64 xQ.Sector,.int .i64 xQ.Of,.str xQ.Text])]
def nL (z2:Bool):St:=AE [(2,(B z2))] []
def nK (xQ:QR) (z3:Bool):St:=AE [(1,(.one (.ptr (.box 1) 0 [] 0))),(50,(B z3))] [(.box 1,[.int .i64 xQ.Kind,.int .i64 xQ.Vol,.int .i64 xQ.Sector,.int .i64 xQ.Of,.str xQ.Text])]
theorem r9 (xQ:QR) (r:Bool) (h:Rs xQ=some r):Ba Tryz.prog 54 [.sv (.agg [.int .i64 xQ.Kind,.int .i64 xQ.Vol,.int .i64 xQ.Sector,.int .i64 xQ.Of,.str xQ.Text])] (B r) (List.replicate 1 .gone):=by
 unfold Rs at h;refine gk Tryz.func54 rfl Tryz.ntmps54 (ws (Ab 2 0 (RW.nil (Wp.seq (Wp.seq (Bq h [1,28] [.box 1] (fun a=>(nM xQ a)) ?_ ?_))))))
 ·intro a h;refine Av (Ab 2 0 (RW.c 0 h (BK _ _ _) (fun v1 gv1 h=>Ab 2 0 (AQ 7 h (fun h=>?_) (fun h=>?_)))))
  ·refine Ab 21 0 (RW.nil ?_);cases h;exact⟨_,rfl,Ay⟩
  refine Ab 2 0 (RW.c 0 h (BK _ _ _) (fun v2 gv2 h=>Ab 3 0 (AQ 13 h (fun h=>?_) (fun h=>?_))))
  ·refine Ab 15 0 (RW.nil ?_);cases h;exact⟨_,rfl,Ay⟩
  refine Ab 6 0 (AQ 19 h (fun h=>?_) (fun h=>?_))
  ·refine Ab 9 0 (RW.nil ?_);cases h;exact⟨_,rfl,Ay⟩
  refine Ab 4 0 (AQ 23 h (fun h=>?_) (fun h=>?_))
  ·refine Ab 5 0 (RW.nil ?_);cases h;exact⟨_,rfl,Ay⟩
  refine Ab 5 0 (RW.nil ?_);cases h;exact⟨_,rfl,Ay⟩
 intro j1 h E hE;refine A9 hE (wc h (fun h=>?_) (fun h=>?_))
 ·refine ws (Ab 1 0 (RW.nil ?_));cases h;exact Wp.ret ⟨.inr rfl,BA (by kernel_rfl)⟩
 refine Wp.skip (Wp.seq (ws (Ab 3 0 (RW.nil (wc h (fun h=>?_) (fun h=>?_))))))
 ·refine Wp.seq (Bq h [2] [] (fun a=>(nL a)) ?_ ?_)
  ·intro a h;refine Av (Ab 4 0 (AQ 35 h (fun h=>?_) (fun h=>?_)))
   ·refine Ab 2 0 (RW.c 0 h (BK _ _ _) (fun v3 gv3 h=>Ab 2 0 (RW.nil ?_)));cases h;exact⟨_,rfl,Ay⟩
   refine Ab 5 0 (RW.nil ?_);cases h;exact⟨_,rfl,Ay⟩
  intro j2 h E hE;refine A9 hE ?_;cases h;exact Wp.ret ⟨.inr rfl,BA (by kernel_rfl)⟩
 refine Wp.skip (Wp.seq (ws (Ab 3 0 (RW.nil (wc h (fun h=>?_) (fun h=>?_))))))
 ·refine ws (Ab 1 0 (RW.nil ?_));cases h;exact Wp.ret ⟨.inr rfl,BA (by kernel_rfl)⟩
 refine Wp.skip (Wp.seq (Wp.seq (Bq h [1,50] [.box 1] (fun a=>(nK xQ a)) ?_ ?_)))
 ·intro a h;refine Av (Ab 4 0 (AQ 46 h (fun h=>?_) (fun h=>?_)))
  ·refine Ab 4 0 (RW.nil ?_);cases h;exact⟨_,rfl,Ay⟩
  refine Ab 4 0 (RW.nil ?_);cases h;exact⟨_,rfl,Ay⟩
 intro j3 h E hE;refine A9 hE (wc h (fun h=>?_) (fun h=>?_))
 ·refine ws (Ab 4 0 (RW.nil ?_));cases h;exact Wp.ret ⟨.inr rfl,BA (by kernel_rfl)⟩
 refine Wp.skip (ws (Ab 2 0 (RW.c 0 h (BK _ _ _) (fun v4 gv4 h=>Ab 1 0 (RW.nil ?_)))));cases h;exact Wp.ret ⟨.inr rfl,BA (by kernel_rfl)⟩
def Vj (a:List Int) (xX:Int) (z1:List Int) (z2:Int):St:=AE [(0,(.one (.sl false 3 1 (Ah c3 a)))),(1,(I xX)),(5,(.one (.sl true 3 1 (Ah c3 z1)))),(6,(I z2))] []
def Vi (a:List Int) (xX:Int) (z3:List Int):St:=AE [(0,(.one (.sl false 3 1 (Ah c3 a)))),(1,(I xX)),(5,(.one (.sl true 3 1 (Ah c3 z3))))] []
def Vh (a:List Int) (xX:Int) (z4:List Int):St:=AE [(0,(.one (.sl false 3 1 (Ah c3 a)))),(1,(I xX)),(5,(.one (.sl true 3 1 (Ah c3 z4))))] []
def Vg (a:List Int) (xX:Int) (z5:List Int) (z6:Int):St:=AE [(0,(.one (.sl false 3 1 (Ah c3 a)))),(1,(I xX)),(5,(.one (.sl true 3 1 (Ah c3 z5)))),(7,(I z6))] []
def Vf (z7:List Int):St:=AE [(5,(.one (.sl true 3 1 (Ah c3 z7))))] []
theorem Xa (b:List Int) (xX:Int) (r:List Int) (h:K4 b xX=some r):Ba Tryz.prog 43 [.sv (.one (.sl false 3 1 (Ah c3 b))),.sv (I xX)] (.one (.sl true 3 1 (Ah c3 r))) (List.replicate 2 .gone):=by
 unfold K4 at h;refine gk Tryz.func43 rfl Tryz.ntmps43 (ws (Ab 1 0 (RW.nil (ws (Ab 2 2 (RW.nil (Wp.seq (ws (Ab 1 0 (RW.nil (BP h [0,1,5,6] [] (fun s=>(Vj b xX s.1 s.2)) [0,1,5] [] (fun s=>(Vi b xX s)) Ay ?_ ?_)))))))))))
 ·rintro⟨c,e⟩ o (h:Gg b xX c e=some o);unfold Gg at h;refine Wp.seq (ws (Ab 2 0 (RW.q (D5 k3 b) (Ab 1 0 (RW.nil (wc h (fun h=>?_) (fun h=>?_)))))))
  ·refine Wp.skip (Wp.seq (Wp.block (ws (Ab 2 0 (bd h fun x1 gx1 h=>RW.q (Ck k3 gx1) (RW.q (CG k3 gx1 0) (Ab 2 0 (RW.nil (wc h (fun h=>?_) (fun h=>?_))))))))))
   ·refine Av (Ab 3 0 (bd h fun x2 gx2 h=>RW.q (Ck k3 gx2) (RW.q (CG k3 gx2 0) (Ab 1 0 (bd h fun q1 gq1 h=>CW (DY k3 (fun _=>rfl) c gq1) (Ab 1 1 (RW.nil (Av (Ab 3 0 (RW.nil ?_))))))))));cases h;exact⟨_,rfl,Ay⟩
   refine Wp.skip (Av (Ab 3 0 (RW.nil ?_)));cases h;exact⟨_,rfl,Ay⟩
  refine Wp.exit ?_;cases h;exact⟨_,rfl,Ay⟩
 intro v1 h E hE;refine A9 hE (Wp.seq (ws (Ab 2 0 (RW.nil (Bq h [0,1,5] [] (fun a=>(Vh b xX a)) ?_ ?_)))))
 ·intro a h;refine wc h (fun h=>?_) (fun h=>?_)
  ·refine Av (Ab 3 0 (bd h fun q2 gq2 h=>CW (DY k3 (fun _=>rfl) v1 gq2) (Ab 1 1 (RW.nil ?_))));cases h;exact⟨_,rfl,Ay⟩
  refine Wp.skip ?_;cases h;exact⟨_,rfl,Ay⟩
 intro j1 h E hE;refine A9 hE (Wp.seq (ws (Ab 1 0 (RW.nil (BP h [0,1,5,7] [] (fun s=>(Vg b xX s.1 s.2)) [5] [] (fun s=>(Vf s)) Ay ?_ ?_)))))
 ·rintro⟨d,f⟩ o (h:ET b xX d f=some o);unfold ET at h;refine Wp.seq (ws (Ab 2 0 (RW.q (D5 k3 b) (Ab 1 0 (RW.nil (wc h (fun h=>?_) (fun h=>?_)))))))
  ·refine Wp.skip (Wp.seq (Wp.block (ws (Ab 2 0 (bd h fun x3 gx3 h=>RW.q (Ck k3 gx3) (RW.q (CG k3 gx3 0) (Ab 2 0 (RW.nil (wc h (fun h=>?_) (fun h=>?_))))))))))
   ·refine Av (Ab 3 0 (bd h fun x4 gx4 h=>RW.q (Ck k3 gx4) (RW.q (CG k3 gx4 0) (Ab 1 0 (bd h fun q3 gq3 h=>CW (DY k3 (fun _=>rfl) d gq3) (Ab 1 1 (RW.nil (Av (Ab 3 0 (RW.nil ?_))))))))));cases h;exact⟨_,rfl,Ay⟩
   refine Wp.skip (Av (Ab 3 0 (RW.nil ?_)));cases h;exact⟨_,rfl,Ay⟩
  refine Wp.exit ?_;cases h;exact⟨_,rfl,Ay⟩
 intro v2 h E hE;refine A9 hE (ws (Ab 2 2 (RW.nil ?_)));cases h;exact Wp.ret ⟨.inr rfl,BA (by kernel_rfl)⟩
def iJ (xS:Store) (z1:List Int) (z2:Int):St:=AE [(1,(.one (.ptr (.box 1) 0 [] 0))),(3,(.one (.sl true 3 1 (Ah c3 z1)))),(4,(I z2))] [(.box 1,[.sl false 39 2 (Ah CC xS.Vols),.sl false 150 2 (Ah (AS false) xS.Arena.Knots),.int .i64 xS.Next])]
def iI (z3:List Int):St:=AE [(3,(.one (.sl true 3 1 (Ah c3 z3))))] []
def iH (xS:Store) (a:Int) (v1:List Int) (z4:List Int) (z5:Int):St:=AE [(1,(.one (.ptr (.box 1) 0 [] 0))),(3,(.one (.sl true 3 1 (Ah c3 z4)))),(4,(I a)),(5,(.one (.sl true 3 1 (Ah c3 v1)))),(6,(I z5))] [(.box 1,[.sl false 39 2 (Ah CC xS.Vols),.sl false 150 2 (Ah (AS false) xS.Arena.Knots),.int .i64 xS.Next])]
def iG (xS:Store) (a:Int) (z6:List Int):St:=AE [(1,(.one (.ptr (.box 1) 0 [] 0))),(3,(.one (.sl true 3 1 (Ah c3 z6)))),(4,(I a))] [(.box 1,[.sl false 39 2 (Ah CC xS.Vols),.sl false 150 2 (Ah (AS false) xS.Arena.Knots),.int .i64 xS.Next])]
theorem NT (xS:Store) (r:List Int) (h:Jl xS=some r):Ba Tryz.prog 17 [.sv (.agg [.sl false 39 2 (Ah CC xS.Vols),.sl false 150 2 (Ah (AS false) xS.Arena.Knots),.int .i64 xS.Next])] (.one (.sl true 3 1 (Ah c3 r))) (List.replicate 1 .gone):=by
 unfold Jl at h;refine gk Tryz.func17 rfl Tryz.ntmps17 (ws (Ab 2 0 (RW.nil (ws (Ab 2 2 (RW.nil (Wp.seq (ws (Ab 1 0 (RW.nil (BP h [1,3,4] [.box 1] (fun s=>(iJ xS s.1 s.2)) [3] [] (fun s=>(iI s)) Ay ?_ ?_)))))))))))
 ·rintro⟨a,b⟩ o (h:IN xS a b=some o);unfold IN at h;refine Wp.seq (ws (Ab 3 0 (RW.q (D5 DP xS.Vols) (Ab 1 0 (RW.nil (wc h (fun h=>?_) (fun h=>?_)))))))
  ·refine Wp.skip (Wp.seq (Wp.block (Wp.seq (P1 8 Ct (Dh 5 (bd h fun x1 gx1 h=>SW.q (Ck DP gx1) (SW.q (DB DP gx1 0 1) (SW.q (CG DP gx1 1) (SW.nil (RW.c 0 h (PA _ _) (fun v1 gv1 h=>Ab 1 1 (RW.nil ?_))))))))))));refine ws (Ab 1 0 (RW.nil (BP h [1,3,4,5,6] [.box 1] (fun s=>(iH xS b v1 s.1 s.2)) [1,3,4] [.box 1] (fun s=>(iG xS b s)) Ay ?_ ?_)))
   ·rintro⟨d,e⟩ o (h:IM v1 d e=some o);unfold IM at h;refine Wp.seq (ws (Ab 2 0 (RW.q (D5 k3 v1) (Ab 1 0 (RW.nil (wc h (fun h=>?_) (fun h=>?_)))))))
    ·refine Wp.skip (Wp.seq (Wp.block (Av (Ab 3 0 (bd h fun x2 gx2 h=>RW.q (Ck k3 gx2) (RW.q (CG k3 gx2 0) (RW.c 0 h (gs (ca (co (cs (lL _))) rfl) (Xa _ _)) (fun v2 gv2 h=>Ab 1 1 (RW.nil (Av (Ab 3 0 (RW.nil ?_))))) (hc:=(.inr (fun v=>by simp [BF,BM,AX,BC,ns3]))))))))));cases h;exact⟨_,rfl,Ay⟩
    refine Wp.exit ?_;cases h;exact⟨_,rfl,Ay⟩
   intro v3 h E hE;refine A9 hE (Av (Ab 3 0 (RW.nil ?_)));cases h;exact⟨_,rfl,Ay⟩
  refine Wp.exit ?_;cases h;exact⟨_,rfl,Ay⟩
 intro v4 h E hE;refine A9 hE (ws (Ab 2 2 (RW.nil ?_)));cases h;exact Wp.ret ⟨.inr rfl,BA (by kernel_rfl)⟩
def UT (b:List Ar) (a:Int) (z1:Int):St:=AE [(0,(.one (.sl false 54 8 (Ah GQ b)))),(1,(I a)),(4,(.one (.ptr (.box 4) 0 [] 0))),(6,(I z1))] [(.box 4,[.int .i64 0,.int .i64 0,.int .i64 0,.int .i64 0,.int .i64 0,.int .i64 0,.int .i64 0,.str (bs [])])]
def UR:St:=AE [(4,(.one (.ptr (.box 4) 0 [] 0)))] [(.box 4,[.int .i64 0,.int .i64 0,.int .i64 0,.int .i64 0,.int .i64 0,.int .i64 0,.int .i64 0,.str (bs [])])]
def UQ (b:List Ar) (a:Int) (c:Int) (z2:Bool):St:=AE [(0,(.one (.sl false 54 8 (Ah GQ b)))),(1,(I a)),(4,(.one (.ptr (.box 4) 0 [] 0))),(6,(I c)),(30,(B z2))] [(.box 4,[.int .i64 0,.int .i64 0,.int .i64 0,.int .i64 0,.int .i64 0,.int .i64 0,.int .i64 0,.str (bs [])])]
theorem WS (c:List Ar) (b:Int) (r:Ar×Bool) (h:IF c b=some r):Ba Tryz.prog 65 [.sv (.one (.sl false 54 8 (Ah GQ c))),.sv (I b)] (.tup [(.agg [.int .i64 r.1.Block,.int .i64 r.1.Leaf,.int .i64 r.1.Page.Kind,.int .i64 r.1.Page.Seq,.int .i64 r.1.Page.Tx,.int .i64 r.1.Page.Part,.int .i64 r.1.Page.Count,.str r.1.Page.Text]),(B r.2)]) (List.replicate 2 .gone):=by
 unfold IF at h;refine gk Tryz.func65 rfl Tryz.ntmps65 (ws (Ab 2 0 (RW.nil (Wp.seq (ws (Ab 1 0 (RW.q (D5 EG c) (Ab 2 0 (RW.nil (Em h [0,1,4,6] [.box 4] (fun s=>(UT c b s)) [4] [.box 4] (fun _=>UR) Ay ?_ ?_))))))))))
 ·rintro d o (h:Gd c b d=some o) hk1;unfold Gd at h;refine Wp.seq (ws (Ab 2 0 (RW.nil (wc h (fun h=>?_) (fun h=>?_)))))
  ·refine Wp.skip (Wp.seq (Wp.block (Wp.seq (Bq h [0,1,4,6,30] [.box 4] (fun a=>(UQ c b d a)) ?_ ?_))))
   ·intro a h;refine Av (Ab 2 0 (bd h fun x1 gx1 h=>RW.q (Ck EG gx1) (RW.q (DB EG gx1 0 2) (RW.q (DB EG gx1 2 2) (RW.q (CG EG gx1 2) (Ab 2 0 (AQ 21 h (fun h=>?_) (fun h=>?_))))))))
    ·refine Ab 2 0 (bd h fun x2 gx2 h=>RW.q (Ck EG gx2) (RW.q (DB EG gx2 0 2) (RW.q (DB EG gx2 2 4) (RW.q (CG EG gx2 4) (Ab 3 0 (RW.nil ?_))))));cases h;exact⟨_,rfl,Ay⟩
    refine Ab 9 0 (RW.nil ?_);cases h;exact⟨_,rfl,Ay⟩
   intro j1 h E hE;refine A9 hE (wc h (fun h=>?_) (fun h=>?_))
   ·refine ws (Ab 2 0 (bd h fun x3 gx3 h=>RW.q (Ck EG gx3) (RW.q (Rx EG gx3 0 8) (Ab 2 0 (RW.nil ?_)))));cases h;replace h:some _=some _:=hk1 _ rfl;cases h;exact Wp.ret ⟨.inr rfl,BA (by kernel_rfl)⟩
   refine Wp.skip (Av (Ab 3 0 (RW.nil ?_)));cases h;exact⟨_,rfl,Ay⟩
  refine Wp.exit ?_;cases h;exact⟨_,rfl,Ay⟩
 intro v1 h E hE;refine A9 hE (ws (Ab 3 0 (RW.nil ?_)));cases h;exact Wp.ret ⟨.inr rfl,BA (by kernel_rfl)⟩
def Gt (x:AO):List TV:=[.int .i64 x.Back,.int .i64 x.Size,.str x.Text]
theorem Fq:∀x,(Gt x).length=3:=fun _=>rfl
theorem AAN:∀l,BH (Ah Gt l)=Ah Gt l:=D6 (fun _=>rfl)
def Vm (xT:ByteArray) (z1:List AO) (z2:Int):St:=AE [(0,(Y xT)),(4,(.one (.sl true 131 3 (Ah Gt z1)))),(5,(I z2))] []
def Vl (z3:List AO):St:=AE [(4,(.one (.sl true 131 3 (Ah Gt z3))))] []
theorem Xb (xT:ByteArray) (r:List AO×Bool) (h:Hw xT=some r):Ba Tryz.prog 105 [.sv (Y xT)] (.tup [(.one (.sl true 131 3 (Ah Gt r.1))),(B r.2)]) (List.replicate 1 .gone):=by
 unfold Hw at h;refine gk Tryz.func105 rfl Tryz.ntmps105 (ws (Ab 2 0 (RW.nil (ws (Ab 2 2 (RW.nil (ws (Ab 1 0 (RW.nil (Wp.seq (Em h [0,4,5] [] (fun s=>(Vm xT s.1 s.2)) [4] [] (fun s=>(Vl s)) Ay ?_ ?_)))))))))))
 ·rintro⟨a,b⟩ o (h:BR xT a b=some o) hk1;unfold BR at h;refine Wp.seq (ws (Ab 4 0 (RW.nil (wc h (fun h=>?_) (fun h=>?_)))))
  ·refine Wp.skip (Wp.block (ws (Ab 2 0 (bd h fun x1 gx1 h=>RW.q (fO gx1) (Ab 2 0 (RW.nil (Wp.seq (ws (Ab 2 0 (RW.nil (wc h (fun h=>?_) (fun h=>?_))))))))))))
   ·refine Wp.seq (ws (Ab 5 0 (RW.nil (wc h (fun h=>?_) (fun h=>?_)))))
    ·refine ws (Ab 3 2 (RW.nil ?_));cases h;replace h:some _=some _:=hk1 _ rfl;cases h;exact Wp.ret ⟨.inr rfl,BA (by kernel_rfl)⟩
    refine Wp.skip (ws (Ab 4 0 (bd h fun x2 gx2 h=>RW.q (fO gx2) (Ab 5 0 (bd h fun q1 gq1 h=>CW (DY Fq (fun _=>rfl) a gq1) (Ab 1 1 (RW.nil (ws (Ab 3 0 (RW.nil (Wp.exit ?_)))))))))));cases h;exact⟨_,rfl,Ay⟩
   refine Wp.skip (Wp.seq (ws (Ab 7 0 (RW.nil (wc h (fun h=>?_) (fun h=>?_))))))
   ·refine ws (Ab 3 2 (RW.nil ?_));cases h;replace h:some _=some _:=hk1 _ rfl;cases h;exact Wp.ret ⟨.inr rfl,BA (by kernel_rfl)⟩
   refine Wp.skip (ws (Ab 8 0 (bd h fun x3 gx3 h=>RW.q (Ph gx3) (Ab 2 0 (bd h fun q2 gq2 h=>CW (DY Fq (fun _=>rfl) a gq2) (Ab 1 1 (RW.nil (Av (Ab 5 0 (RW.nil ?_))))))))));cases h;exact⟨_,rfl,Ay⟩
  refine Wp.exit ?_;cases h;exact⟨_,rfl,Ay⟩
 intro v1 h E hE;refine A9 hE (ws (Ab 3 2 (RW.nil ?_)));cases h;exact Wp.ret ⟨.inr rfl,BA (by kernel_rfl)⟩
def bN (a:List AO) (z1:List Int) (z2:Int):St:=AE [(0,(.one (.sl false 131 3 (Ah Gt a)))),(4,(.one (.sl true 5 1 (Ah c5 z1)))),(5,(I z2))] []
def bM (z3:List Int):St:=AE [(4,(.one (.sl true 5 1 (Ah c5 z3))))] []
def bL (a:List AO) (b:Int) (z4:List Int):St:=AE [(0,(.one (.sl false 131 3 (Ah Gt a)))),(4,(.one (.sl true 5 1 (Ah c5 z4)))),(5,(I b))] []
def bK (a:List AO) (b:List Int) (c:Int) (x1:AO) (z5:Bool):St:=AE [(0,(.one (.sl false 131 3 (Ah Gt a)))),(4,(.one (.sl true 5 1 (Ah c5 b)))),(5,(I c)),(6,(.one (.ptr (.box 6) 0 [] 0))),(32,(B z5))] [(.box 6,[.int .i64 x1.Back,.int .i64 x1.Size,.str x1.Text])]
def bJ (a:List AO) (b:List Int) (c:Int) (x1:AO) (z6:Bool):St:=AE [(0,(.one (.sl false 131 3 (Ah Gt a)))),(4,(.one (.sl true 5 1 (Ah c5 b)))),(5,(I c)),(6,(.one (.ptr (.box 6) 0 [] 0))),(54,(B z6))] [(.box 6,[.int .i64 x1.Back,.int .i64 x1.Size,.str x1.Text])]
def bI (a:List AO) (b:Int) (x1:AO) (z7:List Int) (z8:Int):St:=AE [(0,(.one (.sl false 131 3 (Ah Gt a)))),(4,(.one (.sl true 5 1 (Ah c5 z7)))),(5,(I b)),(6,(.one (.ptr (.box 6) 0 [] 0))),(7,(I z8))] [(.box 6,[.int .i64 x1.Back,.int .i64 x1.Size,.str x1.Text])]
def bH (a:List AO) (b:Int) (z9:List Int):St:=AE [(0,(.one (.sl false 131 3 (Ah Gt a)))),(4,(.one (.sl true 5 1 (Ah c5 z9)))),(5,(I b))] []
theorem iB (d:List AO) (r:ByteArray×Bool) (h:EM d=some r):Ba Tryz.prog 106 [.sv (.one (.sl false 131 3 (Ah Gt d)))] (.tup [(Y r.1),(B r.2)]) (List.replicate 1 .gone):=by
 unfold EM at h;refine gk Tryz.func106 rfl Tryz.ntmps106 (ws (Ab 2 0 (RW.nil (ws (Ab 2 2 (RW.nil (Wp.seq (ws (Ab 1 0 (RW.nil (Em h [0,4,5] [] (fun s=>(bN d s.1 s.2)) [4] [] (fun s=>(bM s)) Ay ?_ ?_)))))))))))
 ·rintro⟨e,i⟩ o (h:Dz d e i=some o) hk1;unfold Dz at h;refine Wp.seq (ws (Ab 2 0 (RW.q (D5 Fq d) (Ab 1 0 (RW.nil (wc h (fun h=>?_) (fun h=>?_)))))))
  ·refine Wp.skip (Wp.seq (Wp.block (ws (Ab 2 0 (bd h fun x1 gx1 h=>RW.q (Ck Fq gx1) (RW.q (Rx Fq gx1 0 3) (Ab 2 0 (RW.nil (Wp.seq (ws (Ab 3 0 (RW.nil ?_))))))))))));refine kR h [0,4,5] [] (fun a=>(bL d i a)) ?_ ?_
   ·intro a h j;refine wc h (fun h=>?_) (fun h=>?_)
    ·refine Wp.seq (Wp.seq (Bq h [0,4,5,6,32] [.box 6] (fun a=>(bK d e i x1 a)) ?_ ?_))
     ·intro a h;refine Av (Ab 3 0 (RW.c 0 h (BK _ _ _) (fun v1 gv1 h=>Ab 2 0 (AQ 28 h (fun h=>?_) (fun h=>?_)))))
      ·refine Ab 4 0 (RW.nil ?_);cases h;exact⟨_,rfl,Ay⟩
      refine Ab 4 0 (RW.nil ?_);cases h;exact⟨_,rfl,Ay⟩
     intro j2 h E hE;refine A9 hE (wc h (fun h=>?_) (fun h=>?_))
     ·refine ws (Ab 2 0 (RW.nil ?_));cases h;replace h:some _=some _:=j;cases h;replace h:some _=some _:=hk1 _ rfl;cases h;exact Wp.ret ⟨.inr rfl,BA (by kernel_rfl)⟩
     refine Wp.skip (Av (Ab 3 0 (CW (fsb (f:=c5) (b:=x1.Text) (fun _=>rfl) (by kernel_rfl)) (bd h fun q1 gq1 h=>CW (DY k5 (fun _=>rfl) e gq1) (Ab 1 1 (RW.nil ?_))))));cases h;exact⟨_,rfl,Ay⟩
    refine Wp.seq (Wp.seq (Bq h [0,4,5,6,54] [.box 6] (fun a=>(bJ d e i x1 a)) ?_ ?_))
    ·intro a h;refine Av (Ab 3 0 (RW.q (D5 k5 e) (RW.c 0 h (BK _ _ _) (fun v2 gv2 h=>Ab 2 0 (AQ 44 h (fun h=>?_) (fun h=>?_))))))
     ·refine Ab 10 0 (RW.nil ?_);cases h;exact⟨_,rfl,Ay⟩
     refine Ab 2 0 (RW.c 0 h (BK _ _ _) (fun v3 gv3 h=>Ab 3 0 (AQ 50 h (fun h=>?_) (fun h=>?_))))
     ·refine Ab 4 0 (RW.nil ?_);cases h;exact⟨_,rfl,Ay⟩
     refine Ab 4 0 (RW.nil ?_);cases h;exact⟨_,rfl,Ay⟩
    intro j3 h E hE;refine A9 hE (wc h (fun h=>?_) (fun h=>?_))
    ·refine ws (Ab 2 0 (RW.nil ?_));cases h;replace h:some _=some _:=j;cases h;replace h:some _=some _:=hk1 _ rfl;cases h;exact Wp.ret ⟨.inr rfl,BA (by kernel_rfl)⟩
    refine Wp.skip (ws (Ab 1 0 (RW.nil (BP h [0,4,5,6,7] [.box 6] (fun s=>(bI d i x1 s.1 s.2)) [0,4,5] [] (fun s=>(bH d i s)) Ay ?_ ?_))))
    ·rintro⟨g,k⟩ o (h:Dy x1 g k=some o);unfold Dy at h;refine Wp.seq (ws (Ab 4 0 (RW.nil (wc h (fun h=>?_) (fun h=>?_)))))
     ·refine Wp.skip (Wp.seq (Wp.block (ws (Ab 2 0 (RW.q (D5 k5 g) (Ab 3 0 (bd h fun x2 gx2 h=>RW.q (Ck k5 gx2) (RW.q (CG k5 gx2 0) (Ab 1 0 (RW.nil (Av (Ab 3 0 ?_))))))))))))
      refine bd h fun q2 gq2 h=>CW (DY k5 (fun _=>rfl) g gq2) (Ab 1 1 (RW.nil (Av (Ab 3 0 (RW.nil ?_)))))
      cases h;exact⟨_,rfl,Ay⟩
     refine Wp.exit ?_;cases h;exact⟨_,rfl,Ay⟩
    intro v4 h E hE;cases h;exact⟨_,rfl,hE⟩
   intro j1 h E hE;refine A9 hE (ws (Ab 1 0 (RW.q (D5 k5 j1) (Ab 1 0 (RW.nil (wc h (fun h=>?_) (fun h=>?_)))))))
   ·refine ws (Ab 2 0 (RW.nil ?_));cases h;replace h:some _=some _:=hk1 _ rfl;cases h;exact Wp.ret ⟨.inr rfl,BA (by kernel_rfl)⟩
   refine Wp.skip (Av (Ab 3 0 (RW.nil ?_)));cases h;exact⟨_,rfl,Ay⟩
  refine Wp.exit ?_;cases h;exact⟨_,rfl,Ay⟩
 intro v5 h E hE;refine A9 hE (ws (Ab 1 0 (RW.q (zO (f:=c5) (fun _=>rfl) v5) (Ab 2 0 (RW.nil ?_)))));cases h;exact Wp.ret ⟨.inr rfl,BA (by kernel_rfl)⟩
def Xe (xS:ByteArray) (a:Int) (b:Int) (z1:Int):St:=AE [(0,(Y xS)),(1,(I a)),(2,(I b)),(7,(I z1))] []
def Xd (z2:Int):St:=AE [(7,(I z2))] []
def Xc (xS:ByteArray) (a:Int) (b:Int) (c:Int) (z3:Bool):St:=AE [(0,(Y xS)),(1,(I a)),(2,(I b)),(7,(I c)),(30,(B z3))] []
theorem ZT (xS:ByteArray) (b:Int) (c:Int) (r:Int) (h:JP xS b c=some r):Ba Tryz.prog 119 [.sv (Y xS),.sv (I b),.sv (I c)] (I r) (List.replicate 3 .gone):=by
 unfold JP at h;refine gk Tryz.func119 rfl Tryz.ntmps119 (ws (Ab 1 0 (RW.nil (ws (Ab 1 0 (RW.nil (Wp.seq (BP h [0,1,2,7] [] (fun s=>(Xe xS b c s)) [7] [] (fun s=>(Xd s)) Ay ?_ ?_))))))))
 ·rintro d o (h:FN xS b c d=some o);unfold FN at h;refine Wp.seq (Wp.seq (Bq h [0,1,2,7,30] [] (fun a=>(Xc xS b c d a)) ?_ ?_))
  ·intro a h;refine Ln Ct (Dh 3 (WD 10 h (fun h=>?_) (fun h=>?_)))
   ·refine Dh 8 (WD 18 h (fun h=>?_) (fun h=>?_))
    ·refine Dh 4 (bd h fun x1 gx1 h=>SW.q (fO gx1) (Dh 4 (bd h fun x2 gx2 h=>SW.q (fO gx2) (Dh 2 (SW.nil ?_)))));cases h;exact⟨_,rfl,Ay⟩
    refine Dh 12 (SW.nil ?_);cases h;exact⟨_,rfl,Ay⟩
   refine Dh 20 (SW.nil ?_);cases h;exact⟨_,rfl,Ay⟩
  intro j1 h E hE;refine A9 hE (wc h (fun h=>?_) (fun h=>?_))
  ·refine Wp.skip (Wp.block (Av (Ab 3 0 (RW.nil ?_))));cases h;exact⟨_,rfl,Ay⟩
  refine Wp.exit ?_;cases h;exact⟨_,rfl,Ay⟩
 intro v1 h E hE;refine A9 hE (ws (Ab 2 0 (RW.nil ?_)));cases h;exact Wp.ret ⟨.inr rfl,BA (by kernel_rfl)⟩
def Xp (xS:ByteArray) (z1:List AO) (z2:Int):St:=AE [(0,(Y xS)),(3,(.one (.sl true 131 3 (Ah Gt z1)))),(4,(I z2))] []
def Xo (z3:List AO):St:=AE [(3,(.one (.sl true 131 3 (Ah Gt z3))))] []
def Xn (xS:ByteArray) (a:List AO) (b:Int) (z4:Int) (z5:Int) (z6:Int):St:=AE [(0,(Y xS)),(3,(.one (.sl true 131 3 (Ah Gt a)))),(4,(I b)),(5,(I z4)),(6,(I z5)),(7,(I z6))] []
def Xm (xS:ByteArray) (a:List AO) (b:Int) (z7:Int) (z8:Int):St:=AE [(0,(Y xS)),(3,(.one (.sl true 131 3 (Ah Gt a)))),(4,(I b)),(5,(I z7)),(6,(I z8))] []
def Xl (xS:ByteArray) (d:List AO) (e:Int) (a:Int) (b:Int) (c:Int) (v1:Int) (z9:Bool):St:=AE [(0,(Y xS)),(3,(.one (.sl true 131 3 (Ah Gt d)))),(4,(I e)),(5,(I a)),(6,(I b)),(7,(I c)),(8,(I v1)),(35,(B z9))] []
def Xk (xS:ByteArray) (a:List AO) (b:Int) (z10:Bool):St:=AE [(0,(Y xS)),(3,(.one (.sl true 131 3 (Ah Gt a)))),(4,(I b)),(9,(I (sb (ln a) 1))),(72,(B z10))] []
theorem aB (xS:ByteArray) (r:List AO) (h:I3 xS=some r):Ba Tryz.prog 86 [.sv (Y xS)] (.one (.sl true 131 3 (Ah Gt r))) (List.replicate 1 .gone):=by
 unfold I3 at h;refine gk Tryz.func86 rfl Tryz.ntmps86 (ws (Ab 1 0 (RW.nil (ws (Ab 2 2 (RW.nil (Wp.seq (ws (Ab 3 0 (RW.nil (wc h (fun h=>?_) (fun h=>?_))))))))))))
 ·refine ws (Ab 2 2 (RW.nil ?_));cases h;exact Wp.ret ⟨.inr rfl,BA (by kernel_rfl)⟩
 refine Wp.skip (ws (Ab 1 0 (RW.nil (Wp.seq (BP h [0,3,4] [] (fun s=>(Xp xS s.1 s.2)) [3] [] (fun s=>(Xo s)) Ay ?_ ?_)))))
 ·rintro⟨b,d⟩ o (h:Ci xS b d=some o);unfold Ci at h;refine Wp.seq (ws (Ab 4 0 (RW.nil (wc h (fun h=>?_) (fun h=>?_)))))
  ·refine Wp.skip (Wp.block (ws (Ab 1 0 (RW.nil (ws (Ab 1 0 (RW.nil (Wp.seq (ws (Ab 3 0 (RW.nil (BP h [0,3,4,5,6,7] [] (fun s=>(Xn xS b d s.1 s.2.1 s.2.2)) [0,3,4,5,6] [] (fun s=>(Xm xS b d s.1 s.2)) Ay ?_ ?_))))))))))))
   ·rintro⟨e,f,g⟩ o (h:DE xS d e f g=some o);unfold DE at h;refine Wp.seq (ws (Ab 2 0 (RW.nil (wc h (fun h=>?_) (fun h=>?_)))))
    ·refine Wp.skip (Wp.seq (Wp.block (ws (Ab 3 0 (RW.c 0 h (ZT _ _ _) (fun v1 gv1 h=>Ab 1 0 (RW.nil (Wp.seq (Bq h [0,3,4,5,6,7,8,35] [] (fun a=>(Xl xS b d e f g v1 a)) ?_ ?_)))))))))
     ·intro a h;refine Av (Ab 3 0 (AQ 31 h (fun h=>?_) (fun h=>?_)))
      ·refine Ab 4 0 (RW.nil ?_);cases h;exact⟨_,rfl,Ay⟩
      refine Ab 4 0 (RW.nil ?_);cases h;exact⟨_,rfl,Ay⟩
     intro j1 h E hE;refine A9 hE (wc h (fun h=>?_) (fun h=>?_))
     ·refine ws (Ab 2 0 (RW.nil (Av (Ab 4 0 (RW.nil (Av (Ab 3 0 (RW.nil ?_))))))));cases h;exact⟨_,rfl,Ay⟩
     refine Wp.skip (Av (Ab 3 0 (RW.nil ?_)));cases h;exact⟨_,rfl,Ay⟩
    refine Wp.exit ?_;cases h;exact⟨_,rfl,Ay⟩
   intro v2 h E hE;refine A9 hE (Wp.seq (ws (Ab 2 0 (RW.nil (wc h (fun h=>?_) (fun h=>?_))))))
   ·refine ws (Ab 5 0 (bd h fun q1 gq1 h=>CW (DY Fq (fun _=>rfl) b gq1) (Ab 1 1 (RW.nil (ws (Ab 4 0 (RW.nil (Wp.exit ?_))))))));cases h;exact⟨_,rfl,Ay⟩
   refine Wp.skip (ws (Ab 1 0 (RW.q (D5 Fq b) (Ab 2 0 (RW.nil (Wp.seq (Wp.seq (Bq h [0,3,4,9,72] [] (fun a=>(Xk xS b d a)) ?_ ?_))))))))
   ·intro a h;refine Av (Ab 3 0 (AQ 56 h (fun h=>?_) (fun h=>?_)))
    ·refine Ab 2 0 (bd h fun x1 gx1 h=>RW.q (Ck Fq gx1) (RW.q (DB Fq gx1 0 0) (RW.q (CG Fq gx1 0) (Ab 3 0 (AQ 64 h (fun h=>?_) (fun h=>?_))))))
     ·refine Ab 2 0 (bd h fun x2 gx2 h=>RW.q (Ck Fq gx2) (RW.q (DB Fq gx2 0 2) (RW.q (CG Fq gx2 2) (Ab 3 0 (RW.nil ?_)))));cases h;exact⟨_,rfl,Ay⟩
     refine Ab 8 0 (RW.nil ?_);cases h;exact⟨_,rfl,Ay⟩
    refine Ab 16 0 (RW.nil ?_);cases h;exact⟨_,rfl,Ay⟩
   intro j2 h E hE;refine A9 hE (wc h (fun h=>?_) (fun h=>?_))
   ·refine P1 15 Ct (Dh 4 (bd h fun x3 gx3 h=>SW.q (Ck Fq gx3) (SW.q (DB Fq gx3 0 2) (SW.q (CG Fq gx3 2) (Dh 4 (bd h fun x4 gx4 h=>SW.q (Ph gx4) (bd h fun x5 gx5 h=>SW.q (OD gx5) (bd h fun x6 gx6 h=>SW.q (Ck Fq gx6) (SW.q (DB Fq gx6 0 2) ?_)))))))));refine SW.nil (CW (N1 Fq gx6 2 0 (AO.mk x6.Back x6.Size x5)) (RW.nil (Av (Ab 3 0 (RW.nil ?_)))));cases h;exact⟨_,rfl,Ay⟩
   refine Av (Ab 5 0 (bd h fun x7 gx7 h=>RW.q (Ph gx7) (Ab 2 0 (bd h fun q2 gq2 h=>CW (DY Fq (fun _=>rfl) b gq2) (Ab 1 1 (RW.nil (Av (Ab 3 0 (RW.nil ?_)))))))));cases h;exact⟨_,rfl,Ay⟩
  refine Wp.exit ?_;cases h;exact⟨_,rfl,Ay⟩
 intro v3 h E hE;refine A9 hE (ws (Ab 2 2 (RW.nil ?_)));cases h;exact Wp.ret ⟨.inr rfl,BA (by kernel_rfl)⟩
def X5 (xS:ByteArray) (v1:List AO) (z1:ByteArray) (z2:Int):St:=AE [(0,(Y xS)),(4,(.one (.sl true 131 3 (Ah Gt v1)))),(5,(Y z1)),(6,(I z2))] []
def X4 (xS:ByteArray) (z3:ByteArray):St:=AE [(0,(Y xS)),(5,(Y z3))] []
theorem Rp (xS:ByteArray) (r:ByteArray×Bool) (h:Ea xS=some r):Ba Tryz.prog 56 [.sv (Y xS)] (.tup [(Y r.1),(B r.2)]) (List.replicate 1 .gone):=by
 unfold Ea at h;refine gk Tryz.func56 rfl Tryz.ntmps56 (ws (Ab 2 0 (RW.nil (Wp.seq (ws (Ab 3 0 (RW.nil (wc h (fun h=>?_) (fun h=>?_)))))))))
 ·refine ws (Ab 2 0 (RW.nil ?_));cases h;exact Wp.ret ⟨.inr rfl,BA (by kernel_rfl)⟩
 refine Wp.skip (ws (Ab 1 0 (RW.c 0 h (aB _) (fun v1 gv1 h=>Ab 1 1 (RW.nil (ws (Ab 1 0 (RW.nil (Wp.seq (ws (Ab 1 0 (RW.nil (BP h [0,4,5,6] [] (fun s=>(X5 xS v1 s.1 s.2)) [0,5] [] (fun s=>(X4 xS s)) Ay ?_ ?_)))))))))))))
 ·rintro⟨a,b⟩ o (h:DG v1 a b=some o);unfold DG at h;refine Wp.seq (ws (Ab 2 0 (RW.q (D5 Fq v1) (Ab 1 0 (RW.nil (wc h (fun h=>?_) (fun h=>?_)))))))
  ·refine Wp.skip (Wp.seq (Wp.block (ws (Ab 2 0 (bd h fun x1 gx1 h=>RW.q (Ck Fq gx1) (RW.q (Rx Fq gx1 0 3) (Ab 2 0 (RW.nil (ws (Ab 3 0 (RW.nil (wc h (fun h=>?_) (fun h=>?_)))))))))))))
   ·refine Av (Ab 6 0 (RW.q (zO (f:=c5) (fun _=>rfl) [(IntKind.u8.wrap (FZ x1.Text))]) (bd h fun x2 gx2 h=>RW.q (OD gx2) (Ab 2 0 (bd h fun x3 gx3 h=>RW.q (OD gx3) (Ab 1 0 (RW.nil (Av (Ab 3 0 (RW.nil ?_))))))))));cases h;exact⟨_,rfl,Ay⟩
   refine Av (Ab 9 0 (RW.q (zO (f:=c5) (fun _=>rfl) [(IntKind.u8.wrap (ad 128 x1.Size)),(IntKind.u8.wrap x1.Back)]) (bd h fun x4 gx4 h=>RW.q (OD gx4) (Ab 1 0 (RW.nil (Av (Ab 3 0 (RW.nil ?_))))))));cases h;exact⟨_,rfl,Ay⟩
  refine Wp.exit ?_;cases h;exact⟨_,rfl,Ay⟩
 intro v2 h E hE;refine A9 hE (Wp.seq (ws (Ab 6 0 (RW.nil (wc h (fun h=>?_) (fun h=>?_))))))
 ·refine ws (Ab 1 0 (bd h fun x5 gx5 h=>RW.q (OD gx5) (Ab 2 0 (RW.nil ?_))));cases h;exact Wp.ret ⟨.inr rfl,BA (by kernel_rfl)⟩
 refine Wp.skip (ws (Ab 3 0 (RW.nil ?_)));cases h;exact Wp.ret ⟨.inr rfl,BA (by kernel_rfl)⟩
def T8 (xT:ByteArray) (z1:ByteArray):St:=AE [(0,(Y xT)),(4,(Y z1))] []
def T7 (j1:ByteArray) (z2:Bool):St:=AE [(4,(Y j1)),(48,(B z2))] []
theorem Vo (xT:ByteArray) (r:ByteArray×Bool) (h:EE xT=some r):Ba Tryz.prog 66 [.sv (Y xT)] (.tup [(Y r.1),(B r.2)]) (List.replicate 1 .gone):=by
 unfold EE at h;refine gk Tryz.func66 rfl Tryz.ntmps66 (ws (Ab 2 0 (RW.nil (Wp.seq (ws (Ab 3 0 (RW.nil (wc h (fun h=>?_) (fun h=>?_)))))))))
 ·refine ws (Ab 2 0 (RW.nil ?_));cases h;exact Wp.ret ⟨.inr rfl,BA (by kernel_rfl)⟩
 refine Wp.skip (ws (Ab 1 0 (bd h fun x1 gx1 h=>RW.q (Ph gx1) (Ab 1 0 (RW.nil (Wp.seq (ws (Ab 1 0 (bd h fun x2 gx2 h=>RW.q (fO gx2) (Ab 1 0 (RW.nil ?_)))))))))));refine kR h [0,4] [] (fun a=>(T8 xT a)) ?_ ?_
 ·intro a h b;refine wc h (fun h=>?_) (fun h=>?_)
  ·refine ws (Ab 1 0 (bd h fun x3 gx3 h=>RW.q (Ph gx3) (RW.c 0 h (Xb _) (fun v1 gv1 h=>Ab 5 9 (RW.nil (ws (Ab 1 0 (RW.c 0 h (gs (ca (co (cs (AAN _))) rfl) (iB _)) (fun v2 gv2 h=>Ab 5 1 (RW.nil (Wp.seq (ws ?_)))) (hc:=(.inr (fun v=>rfl)))))))))));refine Ab 3 0 (AQ 32 h (fun h=>?_) (fun h=>?_))
   ·refine Ab 3 0 (RW.nil (wt (ws (Ab 2 0 (RW.nil ?_)))));cases h;replace h:some _=some _:=b;cases h;exact Wp.ret ⟨.inr rfl,BA (by kernel_rfl)⟩
   refine Ab 3 0 (RW.nil (wc h (fun h=>?_) (fun h=>?_)))
   ·refine ws (Ab 2 0 (RW.nil ?_));cases h;replace h:some _=some _:=b;cases h;exact Wp.ret ⟨.inr rfl,BA (by kernel_rfl)⟩
   refine Wp.skip (Av (Ab 2 0 (RW.nil ?_)));cases h;exact⟨_,rfl,Ay⟩
  refine Wp.skip ?_;cases h;exact⟨_,rfl,Ay⟩
 intro j1 h E hE;refine A9 hE (ws (Ab 1 0 (RW.c 0 h (Rp _) (fun v3 gv3 h=>Ab 5 1 (RW.nil (Wp.seq (Wp.seq (Bq h [4,48] [] (fun a=>(T7 j1 a)) ?_ ?_))))))))
 ·intro a h;refine Av (Ab 3 0 (AQ 44 h (fun h=>?_) (fun h=>?_)))
  ·refine Ab 4 0 (RW.nil ?_);cases h;exact⟨_,rfl,Ay⟩
  refine Ab 4 0 (RW.nil ?_);cases h;exact⟨_,rfl,Ay⟩
 intro j2 h E hE;refine A9 hE (wc h (fun h=>?_) (fun h=>?_))
 ·refine ws (Ab 2 0 (RW.nil ?_));cases h;exact Wp.ret ⟨.inr rfl,BA (by kernel_rfl)⟩
 refine Wp.skip (ws (Ab 3 0 (RW.nil ?_)));cases h;exact Wp.ret ⟨.inr rfl,BA (by kernel_rfl)⟩
theorem OU (b:List Ar) (a:Int) (r:ByteArray×Bool) (h:HH b a=some r):Ba Tryz.prog 34 [.sv (.one (.sl false 54 8 (Ah GQ b))),.sv (I a)] (.tup [(Y r.1),(B r.2)]) (List.replicate 2 .gone):=by
 unfold HH at h;refine gk Tryz.func34 rfl Tryz.ntmps34 (ws (Ab 2 0 (RW.nil (ws (Ab 2 0 (RW.c 0 h (WS _ _) (fun v1 gv1 h=>Ab 6 1 (RW.nil (Wp.seq (ws (Ab 2 0 (RW.nil (wc h (fun h=>?_) (fun h=>?_))))))))))))))
 ·refine ws (Ab 2 0 (RW.nil ?_));cases h;exact Wp.ret ⟨.inr rfl,BA (by kernel_rfl)⟩
 refine Wp.skip (ws (Ab 3 0 (RW.c 0 h (Vo _) (fun v2 gv2 h=>Ab 4 0 (RW.nil ?_)))));cases h;exact Wp.ret ⟨.inr rfl,BA (by kernel_rfl)⟩
def ZO (a:List Ar) (b:List Int) (c:ByteArray) (z1:Int):St:=AE [(0,(.one (.sl false 54 8 (Ah GQ a)))),(1,(.one (.sl false 3 1 (Ah c3 b)))),(2,(Y c)),(7,(I z1))] []
def ZN:St:=AE [] []
def ZM (a:List Ar) (b:List Int) (c:ByteArray) (d:Int) (z2:Bool):St:=AE [(0,(.one (.sl false 54 8 (Ah GQ a)))),(1,(.one (.sl false 3 1 (Ah c3 b)))),(2,(Y c)),(7,(I d)),(30,(B z2))] []
theorem gC (d:List Ar) (b:List Int) (e:ByteArray) (r:Int) (h:P8 d b e=some r):Ba Tryz.prog 85 [.sv (.one (.sl false 54 8 (Ah GQ d))),.sv (.one (.sl false 3 1 (Ah c3 b))),.sv (Y e)] (I r) (List.replicate 3 .gone):=by
 unfold P8 at h;refine gk Tryz.func85 rfl Tryz.ntmps85 (ws (Ab 1 0 (RW.nil (Wp.seq (ws (Ab 1 0 (RW.nil (Em h [0,1,2,7] [] (fun s=>(ZO d b e s)) [] [] (fun _=>ZN) Ay ?_ ?_))))))))
 ·rintro f o (h:G9 d b e f=some o) hk1;unfold G9 at h;refine Wp.seq (ws (Ab 2 0 (RW.q (D5 k3 b) (Ab 1 0 (RW.nil (wc h (fun h=>?_) (fun h=>?_)))))))
  ·refine Wp.skip (Wp.seq (Wp.block (ws (Ab 3 0 (bd h fun x1 gx1 h=>RW.q (Ck k3 gx1) (RW.q (CG k3 gx1 0) (RW.c 0 h (OU _ _) (fun v1 gv1 h=>Ab 5 1 (RW.nil (Wp.seq (Bq h [0,1,2,7,30] [] (fun a=>(ZM d b e f a)) ?_ ?_)))))))))))
   ·intro a h;refine Av (Ab 2 0 (AQ 26 h (fun h=>?_) (fun h=>?_)))
    ·refine Ab 4 0 (RW.nil ?_);cases h;exact⟨_,rfl,Ay⟩
    refine Ab 4 0 (RW.nil ?_);cases h;exact⟨_,rfl,Ay⟩
   intro j1 h E hE;refine A9 hE (wc h (fun h=>?_) (fun h=>?_))
   ·refine ws (Ab 2 0 (bd h fun x2 gx2 h=>RW.q (Ck k3 gx2) (RW.q (CG k3 gx2 0) (Ab 1 0 (RW.nil ?_)))));cases h;replace h:some _=some _:=hk1 _ rfl;cases h;exact Wp.ret ⟨.inr rfl,BA (by kernel_rfl)⟩
   refine Wp.skip (Av (Ab 3 0 (RW.nil ?_)));cases h;exact⟨_,rfl,Ay⟩
  refine Wp.exit ?_;cases h;exact⟨_,rfl,Ay⟩
 intro v2 h E hE;refine A9 hE (ws (Ab 1 0 (RW.nil ?_)));cases h;exact Wp.ret ⟨.inr rfl,BA (by kernel_rfl)⟩
theorem bZ (xF:Flash) (a:List Int) (b:ByteArray) (r:Int) (h:Ma xF a b=some r):Ba Tryz.prog 55 [.sv (.agg [.sl false 77 3 (Ah (Co false) xF.Blocks)]),.sv (.one (.sl false 3 1 (Ah c3 a))),.sv (Y b)] (I r) (List.replicate 3 .gone):=by
 unfold Ma at h;refine gk Tryz.func55 rfl Tryz.ntmps55 (ws (Ab 2 0 (RW.nil (ws (Ab 1 0 (RW.c 0 h (G0 _) (fun v1 gv1 h=>Ab 2 0 (RW.c 0 h (gs (ca (co (cs (Tu _))) rfl) (gC _ _ _)) (fun v2 gv2 h=>Ab 1 0 (RW.nil ?_)) (hc:=(.inr (fun v=>rfl)))))))))));cases h;exact Wp.ret ⟨.inr rfl,BA (by kernel_rfl)⟩
def iA (xD:AH) (xQ:QR) (v2:Int) (z1:Bool):St:=AE [(2,(.one (.ptr (.box 2) 0 [] 0))),(3,(.one (.ptr (.box 3) 0 [] 0))),(7,(.one (.sl true 99 4 (Ah Nd [])))),(8,(B (decide (v2>=0)))),(29,(B z1))] [(.box 2,[.sl false 77 3 (Ah (Co false) xD.Flash.Blocks),.sl false 39 2 (Ah CC xD.Store.Vols),.sl false 150 2 (Ah (AS false) xD.Store.Arena.Knots),.int .i64 xD.Store.Next,.int .i64 xD.Seq,.int .i64 xD.Tx,.int .i64 xD.Base]),(.box 3,[.int .i64 xQ.Kind,.int .i64 xQ.Vol,.int .i64 xQ.Sector,.int .i64 xQ.Of,.str xQ.Text])]
def hZ (xD:AH) (xQ:QR) (z2:Bool):St:=AE [(2,(.one (.ptr (.box 2) 0 [] 0))),(3,(.one (.ptr (.box 3) 0 [] 0))),(7,(.one (.sl true 99 4 (Ah Nd [])))),(42,(B z2))] [(.box 2,[.sl false 77 3 (Ah (Co false) xD.Flash.Blocks),.sl false 39 2 (Ah CC xD.Store.Vols),.sl false 150 2 (Ah (AS false) xD.Store.Arena.Knots),.int .i64 xD.Store.Next,.int .i64 xD.Seq,.int .i64 xD.Tx,.int .i64 xD.Base]),(.box 3,[.int .i64 xQ.Kind,.int .i64 xQ.Vol,.int .i64 xQ.Sector,.int .i64 xQ.Of,.str xQ.Text])]
def hO (xQ:QR) (z3:Int) (z4:ByteArray):St:=AE [(3,(.one (.ptr (.box 3) 0 [] 0))),(9,(I z3)),(10,(Y z4))] [(.box 3,[.int .i64 xQ.Kind,.int .i64 xQ.Vol,.int .i64 xQ.Sector,.int .i64 xQ.Of,.str xQ.Text])]
set_option maxHeartbeats 4000000 in
theorem V0 (xD:AH) (xQ:QR) (r:List Dk×ByteArray×Int) (h:KC xD xQ=some r):Ba Tryz.prog 25 [.sv (.agg [.sl false 77 3 (Ah (Co false) xD.Flash.Blocks),.sl false 39 2 (Ah CC xD.Store.Vols),.sl false 150 2 (Ah (AS false) xD.Store.Arena.Knots),.int .i64 xD.Store.Next,.int .i64 xD.Seq,.int .i64 xD.Tx,.int .i64 xD.Base]),.sv (.agg [.int .i64 xQ.Kind,.int .i64 xQ.Vol,.int .i64 xQ.Sector,.int .i64 xQ.Of,.str xQ.Text])] (.tup [(.one (.sl true 99 4 (Ah Nd r.1))),(Y r.2.1),(I r.2.2)]) (List.replicate 2 .gone):=by
 unfold KC at h;refine gk Tryz.func25 rfl Tryz.ntmps25 (ws (Ab 5 0 (RW.nil (ws (Ab 2 2 (RW.nil (Wp.seq (ws (Ab 1 0 (RW.c 0 h (r9 _) (fun v1 gv1 h=>Ab 1 0 (RW.nil (wc h (fun h=>?_) (fun h=>?_))))))))))))))
 ·refine ws (Ab 4 2 (RW.nil ?_));cases h;exact Wp.ret ⟨.inr rfl,BA (by kernel_rfl)⟩
 refine Wp.skip (ws (Ab 4 0 (RW.c 0 h (JM _ _) (fun v2 gv2 h=>Ab 2 0 (RW.nil (Wp.seq (Wp.seq (Bq h [2,3,7,8,29] [.box 2,.box 3] (fun a=>(iA xD xQ v2 a)) ?_ ?_))))))))
 ·intro a h;refine Av (Ab 4 0 (AQ 25 h (fun h=>?_) (fun h=>?_)))
  ·refine Ab 4 0 (RW.nil ?_);cases h;exact⟨_,rfl,Ay⟩
  refine Ab 4 0 (RW.nil ?_);cases h;exact⟨_,rfl,Ay⟩
 intro j1 h E hE;refine A9 hE (wc h (fun h=>?_) (fun h=>?_))
 ·refine Wp.seq (ws (Ab 1 0 (RW.nil (wc h (fun h=>?_) (fun h=>?_)))))
  ·refine ws (Ab 4 2 (RW.nil ?_));cases h;exact Wp.ret ⟨.inr rfl,BA (by kernel_rfl)⟩
  refine Wp.skip (Wp.seq (Wp.seq (Bq h [2,3,7,42] [.box 2,.box 3] (fun a=>(hZ xD xQ a)) ?_ ?_)))
  ·intro a h;refine Av (Ab 4 0 (AQ 35 h (fun h=>?_) (fun h=>?_)))
   ·refine Ab 4 0 (RW.c 0 h (JM _ _) (fun v3 gv3 h=>Ab 2 0 (RW.nil ?_)));cases h;exact⟨_,rfl,Ay⟩
   refine Ab 7 0 (RW.nil ?_);cases h;exact⟨_,rfl,Ay⟩
  intro j2 h E hE;refine A9 hE (wc h (fun h=>?_) (fun h=>?_))
  ·refine ws (Ab 4 2 (RW.nil ?_));cases h;exact Wp.ret ⟨.inr rfl,BA (by kernel_rfl)⟩
  refine Wp.skip (Wp.seq (ws (Ab 3 0 (RW.q (D5 DP xD.Store.Vols) (Ab 1 0 (RW.nil (wc h (fun h=>?_) (fun h=>?_))))))))
  ·refine ws (Ab 4 2 (RW.nil ?_));cases h;exact Wp.ret ⟨.inr rfl,BA (by kernel_rfl)⟩
  refine Wp.skip (ws (Ab 9 64 (RW.nil ?_)));cases h;exact Wp.ret ⟨.inr rfl,BA (by kernel_rfl)⟩
 refine Wp.skip (Wp.seq (ws (Ab 2 0 (RW.nil (wc h (fun h=>?_) (fun h=>?_))))))
 ·refine ws (Ab 4 2 (RW.nil ?_));cases h;exact Wp.ret ⟨.inr rfl,BA (by kernel_rfl)⟩
 refine Wp.skip (Wp.seq (ws (Ab 2 0 (RW.nil (Wp.block (ws (Ab 2 0 (RW.nil (wc h (fun h=>?_) (fun h=>?_))))))))))
 ·refine Wp.seq (Er [] Ct (fun c E h=>by rcases h with⟨h|h,_⟩<;>cases h) (AC [0,1,2,3,5,6] 0 (BD 4 (KB.c 0 h (NT _) (fun v4 gv4 h=>BD 7 (KB.c 0 h (gs (ca rfl (ca (co (cs (lL _))) rfl)) (bZ _ _ _)) (fun v5 gv5 h=>AC [8] 0 (Ak (ws (Ab 1 0 (RW.nil (Wp.seq (ws ?_))))))) (hc:=(.inr (fun v=>rfl)))))))));refine Ab 2 0 (RW.nil (Bq h [3,9,10] [.box 3] (fun a=>(hO xQ a.1 a.2)) ?_ ?_))
  ·intro a h;refine wc h (fun h=>?_) (fun h=>?_)
   ·refine ws (Ab 4 0 (RW.nil (Av (Ab 2 0 (RW.c 0 h (Rp _) (fun v6 gv6 h=>Ab 4 1 (RW.nil ?_)))))));cases h;exact⟨_,rfl,Ay⟩
   refine Wp.skip ?_;cases h;exact⟨_,rfl,Ay⟩
  intro j3 h E hE;refine A9 hE (ws (Ab 11 256 (RW.nil ?_)));cases h;exact Wp.ret ⟨.inr rfl,BA (by kernel_rfl)⟩
 refine ws (Ab 2 0 (RW.nil (wc h (fun h=>?_) (fun h=>?_))))
 ·refine ws (Ab 9 64 (RW.nil ?_));cases h;exact Wp.ret ⟨.inr rfl,BA (by kernel_rfl)⟩
 refine ws (Ab 2 0 (RW.nil (wc h (fun h=>?_) (fun h=>?_))))
 ·refine ws (Ab 7 16 (RW.nil ?_));cases h;exact Wp.ret ⟨.inr rfl,BA (by kernel_rfl)⟩
 refine Wp.skip (ws (Ab 4 2 (RW.nil ?_)));cases h;exact Wp.ret ⟨.inr rfl,BA (by kernel_rfl)⟩
theorem Ta (xS:Store) (b:Int) (a:Int) (r:Int) (h:HT xS b a=some r):Ba Tryz.prog 10 [.sv (.agg [.sl false 39 2 (Ah CC xS.Vols),.sl false 150 2 (Ah (AS false) xS.Arena.Knots),.int .i64 xS.Next]),.sv (I b),.sv (I a)] (I r) (List.replicate 3 .gone):=by
 unfold HT at h;refine gk Tryz.func10 rfl Tryz.ntmps10 (ws (Ab 2 0 (RW.nil (ws (Ab 2 0 (RW.c 0 h (JM _ _) (fun v1 gv1 h=>Ab 1 0 (RW.nil (Wp.seq (ws (Ab 2 0 (RW.nil (wc h (fun h=>?_) (fun h=>?_))))))))))))))
 ·refine ws (Ab 1 0 (RW.nil ?_));cases h;exact Wp.ret ⟨.inr rfl,BA (by kernel_rfl)⟩
 refine Wp.skip (Wp.seq (P1 9 Ct (Dh 5 (bd h fun x1 gx1 h=>SW.q (Ck DP gx1) (SW.q (DB DP gx1 0 1) (SW.q (CG DP gx1 1) (Dh 1 (SW.nil (RW.c 0 h (YK _ _ _) (fun v2 gv2 h=>Ab 1 0 (RW.nil ?_)))))))))));cases h;exact Wp.ret ⟨.inr rfl,BA (by kernel_rfl)⟩
theorem gB (b:List Ar) (xS:Store) (d:Int) (a:Int) (r:ByteArray×Bool) (h:GT b xS d a=some r):Ba Tryz.prog 128 [.sv (.one (.sl false 54 8 (Ah GQ b))),.sv (.agg [.sl false 39 2 (Ah CC xS.Vols),.sl false 150 2 (Ah (AS false) xS.Arena.Knots),.int .i64 xS.Next]),.sv (I d),.sv (I a)] (.tup [(Y r.1),(B r.2)]) (List.replicate 4 .gone):=by
 unfold GT at h;refine gk Tryz.func128 rfl Tryz.ntmps128 (ws (Ab 3 0 (RW.nil (Wp.seq (ws (Ab 2 0 (RW.c 0 h (JM _ _) (fun v1 gv1 h=>Ab 1 0 (RW.nil (wc h (fun h=>?_) (fun h=>?_)))))))))))
 ·refine ws (Ab 2 0 (RW.nil ?_));cases h;exact Wp.ret ⟨.inr rfl,BA (by kernel_rfl)⟩
 refine Wp.skip (ws (Ab 3 0 (RW.c 0 h (Ta _ _ _) (fun v2 gv2 h=>Ab 1 0 (RW.nil (Wp.seq (ws (Ab 2 0 (RW.nil (wc h (fun h=>?_) (fun h=>?_)))))))))))
 ·refine ws (Ab 2 0 (RW.nil ?_));cases h;exact Wp.ret ⟨.inr rfl,BA (by kernel_rfl)⟩
 refine Wp.skip (ws (Ab 2 0 (RW.c 0 h (OU _ _) (fun v3 gv3 h=>Ab 4 0 (RW.nil ?_)))));cases h;exact Wp.ret ⟨.inr rfl,BA (by kernel_rfl)⟩
set_option maxHeartbeats 4000000 in
theorem m9 (xD:AH) (b:Int) (a:Int) (r:ByteArray×Bool) (h:Rm xD b a=some r):Ba Tryz.prog 97 [.sv (.agg [.sl false 77 3 (Ah (Co false) xD.Flash.Blocks),.sl false 39 2 (Ah CC xD.Store.Vols),.sl false 150 2 (Ah (AS false) xD.Store.Arena.Knots),.int .i64 xD.Store.Next,.int .i64 xD.Seq,.int .i64 xD.Tx,.int .i64 xD.Base]),.sv (I b),.sv (I a)] (.tup [(Y r.1),(B r.2)]) (List.replicate 3 .gone):=by
 unfold Rm at h;refine gk Tryz.func97 rfl Tryz.ntmps97 (ws (Ab 3 0 (RW.nil (Wp.seq (Er [] Ct (fun c E h=>by rcases h with⟨h|h,_⟩<;>cases h) (AC [0,1,3,4,5,6] 0 (BD 2 (KB.c 0 h (G0 _) (fun v1 gv1 h=>BD 7 (KB.c 0 h (gs (ca (co (cs (Tu _))) rfl) (gB _ _ _ _)) (fun v2 gv2 h=>Jx 8 (Jx 9 (AC [10,11] 0 ?_))) (hc:=(.inr (fun v=>rfl)))))))))))));refine Ak ?_;cases h;exact Wp.ret ⟨.inr rfl,BA (by kernel_rfl)⟩
def g7 (xF:Flash) (z1:Int) (z2:Int):St:=AE [(1,(.one (.ptr (.box 1) 0 [] 0))),(3,(I z1)),(4,(I z2))] [(.box 1,[.sl false 77 3 (Ah (Co false) xF.Blocks)])]
def g6 (z3:Int):St:=AE [(3,(I z3))] []
def gZ (xF:Flash) (a:Int) (z4:Int) (z5:Int):St:=AE [(1,(.one (.ptr (.box 1) 0 [] 0))),(3,(I z4)),(4,(I a)),(5,(I z5))] [(.box 1,[.sl false 77 3 (Ah (Co false) xF.Blocks)])]
def gX (xF:Flash) (a:Int) (z6:Int):St:=AE [(1,(.one (.ptr (.box 1) 0 [] 0))),(3,(I z6)),(4,(I a))] [(.box 1,[.sl false 77 3 (Ah (Co false) xF.Blocks)])]
theorem Qx (xF:Flash) (r:Int) (h:KA xF=some r):Ba Tryz.prog 98 [.sv (.agg [.sl false 77 3 (Ah (Co false) xF.Blocks)])] (I r) (List.replicate 1 .gone):=by
 unfold KA at h;refine gk Tryz.func98 rfl Tryz.ntmps98 (ws (Ab 2 0 (RW.nil (ws (Ab 1 0 (RW.nil (Wp.seq (ws (Ab 1 0 (RW.nil (BP h [1,3,4] [.box 1] (fun s=>(g7 xF s.1 s.2)) [3] [] (fun s=>(g6 s)) Ay ?_ ?_)))))))))))
 ·rintro⟨b,a⟩ o (h:IK xF b a=some o);unfold IK at h;refine Wp.seq (ws (Ab 3 0 (RW.q (D5 (Fp false) xF.Blocks) (Ab 1 0 (RW.nil (wc h (fun h=>?_) (fun h=>?_)))))))
  ·refine Wp.skip (Wp.seq (Wp.block (ws (Ab 1 0 (RW.nil (BP h [1,3,4,5] [.box 1] (fun s=>(gZ xF a s.1 s.2)) [1,3,4] [.box 1] (fun s=>(gX xF a s)) Ay ?_ ?_))))))
   ·rintro⟨c,d⟩ o (h:IJ xF a c d=some o);unfold IJ at h;refine Wp.seq (ws (Ab 4 0 (bd h fun x1 gx1 h=>RW.q (Ck (Fp false) gx1) (RW.q (DB (Fp false) gx1 0 2) (RW.q (CG (Fp false) gx1 2) (RW.q (D5 M1 x1.Leaves) (Ab 1 0 (RW.nil (wc h (fun h=>?_) (fun h=>?_))))))))))
    ·refine Wp.skip (Wp.seq (Wp.block (ws (Ab 3 0 (bd h fun x2 gx2 h=>RW.q (Ck (Fp false) gx2) (RW.q (DB (Fp false) gx2 0 0) (RW.q (CG (Fp false) gx2 0) (Ab 2 0 (AQ 31 h (fun h=>?_) (fun h=>?_))))))))))
     ·refine Ab 3 0 (bd h fun x3 gx3 h=>RW.q (Ck (Fp false) gx3) (RW.q (DB (Fp false) gx3 0 2) (RW.q (CG (Fp false) gx3 2) (Ab 1 0 (bd h fun x4 gx4 h=>RW.q (Ck M1 gx4) (RW.q (DB M1 gx4 0 0) (RW.q (CG M1 gx4 0) (Ab 2 0 (RW.nil (wc h (fun h=>?_) (fun h=>?_)))))))))))
      ·refine Av (Ab 3 0 (RW.nil (Av (Ab 3 0 (RW.nil ?_)))));cases h;exact⟨_,rfl,Ay⟩
      refine Wp.skip (Av (Ab 3 0 (RW.nil ?_)));cases h;exact⟨_,rfl,Ay⟩
     refine Ab 12 0 (RW.nil (wf (Wp.skip (Av (Ab 3 0 (RW.nil ?_))))));cases h;exact⟨_,rfl,Ay⟩
    refine Wp.exit ?_;cases h;exact⟨_,rfl,Ay⟩
   intro v1 h E hE;refine A9 hE (Av (Ab 3 0 (RW.nil ?_)));cases h;exact⟨_,rfl,Ay⟩
  refine Wp.exit ?_;cases h;exact⟨_,rfl,Ay⟩
 intro v2 h E hE;refine A9 hE (ws (Ab 2 0 (RW.nil ?_)));cases h;exact Wp.ret ⟨.inr rfl,BA (by kernel_rfl)⟩
end Go.TI
