/- That they compute it. No condition. -/
import Derived.Test.YtiemmklnnjembaaGreatCHW1
namespace Go.TI
open Go Go.Proofs
set_option maxRecDepth 100000
def gR (xA:Arena) (z1:Int):St:=A9 [(1,(pb 1)),(8,(.one (BI xA.Knots))),(9,(I (ln xA.Knots))),(10,(I z1))] [(.box 1,[BI xA.Knots])]
def gQ:St:=A9 [] []
def gP (xA:Arena) (y1:Int) (x1:BU) (z2:Int):St:=A9 [(1,(pb 1)),(3,(I y1)),(4,(pb 4)),(8,(.one (BI xA.Knots))),(9,(I (ln xA.Knots))),(10,(I y1)),(20,(.one (OQ x1.Kids))),(21,(I (ln x1.Kids))),(22,(I z2))] [(.box 1,[BI xA.Knots]),(.box 4,[tb x1.Leaf,OQ x1.Kids])]
def gO (xA:Arena) (y1:Int):St:=A9 [(1,(pb 1)),(8,(.one (BI xA.Knots))),(9,(I (ln xA.Knots))),(10,(I y1))] [(.box 1,[BI xA.Knots])]
def gN (xA:Arena) (y1:Int) (x1:BU) (y2:Int) (z3:Bool):St:=A9 [(1,(pb 1)),(3,(I y1)),(4,(pb 4)),(8,(.one (BI xA.Knots))),(9,(I (ln xA.Knots))),(10,(I y1)),(20,(.one (OQ x1.Kids))),(21,(I (ln x1.Kids))),(22,(I y2)),(56,(B z3))] [(.box 1,[BI xA.Knots]),(.box 4,[tb x1.Leaf,OQ x1.Kids])]
theorem mT (xA:Arena) (r:Bool) (h:Qc xA=some r):AW Tryz.prog 103 [.sv (.agg (Xs false xA))] (B r) (rg 1):=by
 refine gk Tryz.func103 rfl Tryz.ntmps103 (ws (gn 2 0 (Wp.seq (ws (Ai 2 0 (RW.q (Dr (CG false) xA.Knots) (gn 1 0 (ED h [1,8,9,10] [.box 1] (fun s=>(gR xA s)) [] [] (fun _=>gQ) EC ?_ ?_))))))))
 ·rintro y1 o (h:Lv xA y1=some o) hk1;refine ws (gn 1 0 (Wp.seq (wc h (fun h=>?_) (fun h=>?_))))
  ·refine Wp.skip (Wp.seq (Wp.block (ws (Ai 1 0 (CS (CG false) h (fun x1 gx1 h=>RW.q (Re (CG false) gx1 0 2) (gn 3 0 (Wp.seq (ws (Ai 2 0 (RW.q (Dr k3 x1.Kids) (gn 1 0 (wc h (fun h=>?_) (fun h=>?_))))))))))))))
   ·exact ws (gn 1 0 (Wp.ret (rr (jo h hk1)▸rq)))
   refine Wp.skip (ws (Ai 2 0 (RW.q (Dr k3 x1.Kids) (gn 1 0 (ED h [1,3,4,8,9,10,20,21,22] [.box 1,.box 4] (fun s=>(gP xA y1 x1 s)) [1,8,9,10] [.box 1] (fun _=>(gO xA y1)) EC ?_ ?_)))))
   ·rintro y2 o (h:Lu xA y1 x1 y2=some o) hk2;refine ws (gn 1 0 (Wp.seq (wc h (fun h=>?_) (fun h=>?_))))
    ·refine Wp.skip (Wp.seq (Wp.block (ws (CS k3 h (fun x2 gx2 h=>RW.q (CA k3 gx2 0) (gn 1 0 (FD h [1,3,4,8,9,10,20,21,22,56] [.box 1,.box 4] (fun a=>(gN xA y1 x1 y2 a)) (fun a h=>?_) (fun j1 h=>?_))))))))
     ·refine Au (Ai 3 0 (AO 28 h (fun h=>?_) (fun h=>?_)))
      ·refine Ai 4 0 (AO 32 h (fun h=>?_) (fun h=>?_))
       ·exact gn 24 0 (jn h)
       refine Ai 4 0 (AO 36 h (fun h=>?_) (fun h=>?_))
       ·refine Ai 4 0 (AO 40 h (fun h=>?_) (fun h=>?_))
        ·refine Ai 3 0 (RW.c 0 h (Mh _ _ _) (fun v1 gv1 h=>Ai 2 0 (AO 46 h (fun h=>?_) (fun h=>?_))))
         ·exact gn 10 0 (jn h)
         exact Ai 3 0 (CS (CG false) h (fun x3 gx3 h=>RW.q (D8 (CG false) gx3 0 0) (RW.q (CA (CG false) gx3 0) (gn 4 0 (jn h)))))
        exact gn 16 0 (jn h)
       exact gn 20 0 (jn h)
      refine Ai 8 0 (AO 36 h (fun h=>?_) (fun h=>?_))
      ·refine Ai 4 0 (AO 40 h (fun h=>?_) (fun h=>?_))
       ·refine Ai 3 0 (RW.c 0 h (Mh _ _ _) (fun v2 gv2 h=>Ai 2 0 (AO 46 h (fun h=>?_) (fun h=>?_))))
        ·exact gn 10 0 (jn h)
        exact Ai 3 0 (CS (CG false) h (fun x4 gx4 h=>RW.q (D8 (CG false) gx4 0 0) (RW.q (CA (CG false) gx4 0) (gn 4 0 (jn h)))))
       exact gn 16 0 (jn h)
      exact gn 20 0 (jn h)
     refine wc h (fun h=>?_) (fun h=>?_)
     ·exact ws (gn 1 0 (Wp.ret (rr (jo (jo h hk2) hk1)▸rq)))
     exact Wp.skip (Au (gn 2 0 (jl h)))
    exact Wp.exit (jx h)
   intro v3 h E hE;exact AY hE (Au (gn 2 0 (jl h)))
  exact Wp.exit (jx h)
 intro v4 h E hE;exact AY hE (ws (gn 1 0 (Wp.ret (rr h▸rq))))
theorem fP (xA:Arena) (b:Int) (a:Int) (r:Int) (h:QW xA b a=some r):AW Tryz.prog 104 [.sv (.agg (Xs false xA)),.sv (I b),.sv (I a)] (I r) (rg 3):=by
 refine gk Tryz.func104 rfl Tryz.ntmps104 (ws (gw 2 0 (Ai 3 0 (CS (CG false) h (fun x1 gx1 h=>RW.q (D8 (CG false) gx1 0 1) (RW.q (CA (CG false) gx1 1) (Ai 2 0 (CS k3 h (fun x2 gx2 h=>RW.q (CA k3 gx2 0) (gn 1 0 (Wp.seq (ws (gn 2 0 (wc h (fun h=>?_) (fun h=>?_)))))))))))))))
 ·exact ws (gn 1 0 (Wp.ret (rr h▸rq)))
 exact Wp.skip (ws (Ai 3 0 (CS (CG false) h (fun x3 gx3 h=>RW.q (D8 (CG false) gx3 0 1) (RW.q (CA (CG false) gx3 1) (Ai 2 0 (CS k3 h (fun x4 gx4 h=>RW.q (CA k3 gx4 0) (gn 1 0 (Wp.ret (rr h▸rq)))))))))))
def rA (xA:Arena) (b:Int) (a:Int) (z1:Bool):St:=A9 [(1,(I b)),(2,(I a)),(3,(pb 3)),(20,(B z1))] [(.box 3,[BI xA.Knots])]
theorem vY (xA:Arena) (d:Int) (b:Int) (r:Int) (h:UY xA d b=some r):AW Tryz.prog 61 [.sv (.agg (Xs false xA)),.sv (I d),.sv (I b)] (I r) (rg 3):=by
 refine gk Tryz.func61 rfl Tryz.ntmps61 (ws (gn 2 0 (Wp.seq (FD h [1,2,3,20] [.box 3] (fun a=>(rA xA d b a)) (fun a h=>?_) (fun j1 h=>?_)))))
 ·refine Au (Ai 1 0 (RW.c 0 h (Mh _ _ _) (fun v1 gv1 h=>Ai 2 0 (AO 10 h (fun h=>?_) (fun h=>?_)))))
  ·exact gn 10 0 (jn h)
  refine Ai 2 0 (RW.c 0 h (qU _ _) (fun v2 gv2 h=>Ai 3 0 (AO 16 h (fun h=>?_) (fun h=>?_))))
  ·exact gn 4 0 (jn h)
  exact Ai 1 0 (RW.c 0 h (mT _) (fun v3 gv3 h=>gn 2 0 (jn h)))
 refine wc h (fun h=>?_) (fun h=>?_)
 ·exact ws (gn 1 0 (Wp.ret (rr h▸rq)))
 exact Wp.skip (ws (Ai 3 0 (RW.c 0 h (fP _ _ _) (fun v4 gv4 h=>gn 1 0 (Wp.ret (rr h▸rq))))))
def rC (xA:Arena) (a:Int) (z1:List Int) (z2:Int):St:=A9 [(1,(I a)),(2,(pb 2)),(5,(.one (En z1))),(7,(I z2))] [(.box 2,[BI xA.Knots])]
def rB (z3:List Int):St:=A9 [(5,(.one (En z3)))] []
theorem vZ (xA:Arena) (a:Int) (r:List Int) (h:UZ xA a=some r):AW Tryz.prog 116 [.sv (.agg (Xs false xA)),.sv (I a)] (.one (En r)) (rg 2):=by
 refine gk Tryz.func116 rfl Tryz.ntmps116 (ws (gw 2 0 (gn 1 0 (Wp.seq (ws (gn 1 0 (BM h [1,2,5,7] [.box 2] (fun s=>(rC xA a s.1 s.2)) [5] [] (fun s=>(rB s)) EC ?_ ?_)))))))
 ·rintro⟨b,y1⟩ o (h:Mk xA a b y1=some o);refine ws (gn 1 0 (Wp.seq (wc h (fun h=>?_) (fun h=>?_))))
  ·exact Wp.skip (Wp.seq (Wp.block (ws (gn 2 0 (Au (Ai 4 0 (RW.c 0 h (vY _ _ _) (fun v1 gv1 h=>Ai 1 0 (bd h fun q1 gq1 h=>CR (DK k3 (fun _=>rfl) b gq1) (gn 1 1 (Au (gn 2 0 (jl h)))))))))))))
  exact Wp.exit (jv h)
 intro v2 h E hE;exact AY hE (ws (gn 2 2 (Wp.ret (rr h▸rq))))
def Zb (xS:Store) (z1:List Int) (z2:Int):St:=A9 [(1,(pb 1)),(3,(.one (En z1))),(9,(.one (DG xS.Vols))),(10,(I (ln xS.Vols))),(11,(I z2))] [(.box 1,[DG xS.Vols,BI xS.Arena.Knots,i6 xS.Next])]
def Za (z3:List Int):St:=A9 [(3,(.one (En z3)))] []
def YZ (xS:Store) (y1:Int) (v1:List Int) (z4:List Int) (z5:Int):St:=A9 [(1,(pb 1)),(3,(.one (En z4))),(9,(.one (DG xS.Vols))),(10,(I (ln xS.Vols))),(11,(I y1)),(19,(.one (En v1))),(20,(I (ln v1))),(21,(I z5))] [(.box 1,[DG xS.Vols,BI xS.Arena.Knots,i6 xS.Next])]
def YY (xS:Store) (y1:Int) (z6:List Int):St:=A9 [(1,(pb 1)),(3,(.one (En z6))),(9,(.one (DG xS.Vols))),(10,(I (ln xS.Vols))),(11,(I y1))] [(.box 1,[DG xS.Vols,BI xS.Arena.Knots,i6 xS.Next])]
theorem fW (xS:Store) (r:List Int) (h:Ou xS=some r):AW Tryz.prog 82 [.sv (.agg (So false xS))] (.one (En r)) (rg 1):=by
 refine gk Tryz.func82 rfl Tryz.ntmps82 (ws (gw 2 0 (gn 1 0 (Wp.seq (ws (Ai 2 0 (RW.q (Dr Eo xS.Vols) (gn 1 0 (BM h [1,3,9,10,11] [.box 1] (fun s=>(Zb xS s.1 s.2)) [3] [] (fun s=>(Za s)) EC ?_ ?_)))))))))
 ·rintro⟨b,y1⟩ o (h:HY xS b y1=some o);refine ws (gn 1 0 (Wp.seq (wc h (fun h=>?_) (fun h=>?_))))
  ·refine Wp.skip (Wp.seq (Wp.block (ws (CS Eo h (fun x1 gx1 h=>RW.q (Re Eo gx1 0 2) (gw 2 0 (Ai 4 0 (RW.c 0 h (vZ _ _) (fun v1 gv1 h=>RW.q (Dr k3 v1) (gn 1 0 (BM h [1,3,9,10,11,19,20,21] [.box 1] (fun s=>(YZ xS y1 v1 s.1 s.2)) [1,3,9,10,11] [.box 1] (fun s=>(YY xS y1 s)) EC ?_ ?_)))))))))))
   ·rintro⟨a,y2⟩ o (h:HX v1 a y2=some o);refine ws (gn 1 0 (Wp.seq (wc h (fun h=>?_) (fun h=>?_))))
    ·refine Wp.skip (Wp.seq (Wp.block (ws (CS k3 h (fun x2 gx2 h=>RW.q (CA k3 gx2 0) (gw 1 0 (gn 2 0 (wc h (fun h=>?_) (fun h=>?_)))))))))
     ·exact Au (Ai 3 0 (bd h fun q1 gq1 h=>CR (DK k3 (fun _=>rfl) a gq1) (gn 1 1 (Au (gn 2 0 (jl h))))))
     exact Wp.skip (Au (gn 2 0 (jl h)))
    exact Wp.exit (jv h)
   intro v2 h E hE;exact AY hE (Au (gn 2 0 (jl h)))
  exact Wp.exit (jv h)
 intro v3 h E hE;exact AY hE (ws (gn 2 2 (Wp.ret (rr h▸rq))))
def TJ (v2:List Int) (z1:List Int) (z2:Int):St:=A9 [(3,(.one (En v2))),(4,(.one (En z1))),(11,(.one (.view (.slot 3) 0 [] 0))),(12,(I (ln v2))),(13,(I z2))] []
def TH (z3:List Int):St:=A9 [(4,(.one (En z3)))] []
def TG (v2:List Int) (a:List Int) (y1:Int) (x1:Int) (z4:Bool):St:=A9 [(3,(.one (En v2))),(4,(.one (En a))),(6,(I x1)),(11,(.one (.view (.slot 3) 0 [] 0))),(12,(I (ln v2))),(13,(I y1)),(28,(B z4))] []
theorem qY (xS:Store) (r:List Int) (h:KC xS=some r):AW Tryz.prog 52 [.sv (.agg [DG xS.Vols,BI xS.Arena.Knots,i6 xS.Next])] (.one (En r)) (List.replicate 1 .gone):=by
 unfold KC at h;refine WW Tryz.func52 rfl ?_;rw [Tryz.ntmps52];refine Wp.seq ?_;refine Wp.region ?_;refine Ld [] 1 [DG xS.Vols,BI xS.Arena.Knots,i6 xS.Next] ?_;refine A3.o 2 (.one (En [])) ?_;refine A3.nil ?_;refine Wp.seq ?_;refine Wp.region ?_;refine A3.o 7 (.agg [DG xS.Vols,BI xS.Arena.Knots,i6 xS.Next]) ?_;refine X9 h 8 (fun v1=>(.one (En v1))) rfl (l:=[.sv (.agg [DG xS.Vols,BI xS.Arena.Knots,i6 xS.Next])]) rfl (fun v hv=>fW xS v hv) (.inl rfl) ?_;intro v1 gv1 h;refine X8 true [(.slot 8,[.junk])] 3 (.one (En v1)) ?_;refine A3.nil ?_;refine Wp.seq ?_;refine Wp.region ?_;refine A3.o 9 (.one (.view (.slot 3) 1 [] 0)) ?_;refine AC1 (n:=3) (x:=9) (d:=10) (enc:=c3) h AEb ?_ (fun _=>rfl) (hf:=⟨_,Tryz.func83,by decide,rfl⟩);intro v2 gv2 h;refine A3.nil ?_;refine Wp.seq ?_;refine Wp.region ?_;refine A3.o 4 (.one (En [])) ?_;refine A3.nil ?_;refine Wp.seq ?_;refine Wp.seq ?_;refine Wp.region ?_;refine A3.o 11 (.one (.view (.slot 3) 2 [] 0)) ?_;refine A3.o 12 (I (ln v2)) ?_ (H0 (zC k3 v2));refine A3.o 13 (I 0) ?_;refine A3.nil ?_;refine BM h [3,4,11,12,13] [] (fun s=>(TJ v2 s.1 s.2)) [4] [] (fun s=>(TH s)) ⟨rfl,rfl⟩ ?_ ?_
 ·rintro⟨b,y1⟩ o (h:IK v2 b y1=some o);unfold IK at h;change Wp _ _ _ (TJ v2 b y1) _;refine Wp.seq ?_;refine Wp.region ?_;refine A3.o 14 (B (decide (y1<(ln v2)))) ?_;refine A3.nil ?_;refine Wp.seq ?_;refine Wp.c h (fun h=>?_) (fun h=>?_)
  ·refine Wp.skip ?_;refine Wp.seq ?_;refine Wp.block ?_;refine Wp.seq ?_;refine Wp.region ?_;refine A3.o 15 (I y1) ?_;refine uI h 16 (fun _=>(.one (.ptr (.slot 3) 0 [0] (Int.toNat y1*1+0)))) ?_ (fun x1 gx1=>H0 (vA k3 (.slot 3) [] 0 gx1));intro x1 gx1 h;refine A3.o 17 (I x1) ?_ (H0 (ACz k3 (.slot 3) [0] 0 (i6 x1) gx1));refine A3.o 5 (I y1) ?_;refine A3.o 6 (I x1) ?_;refine A3.nil ?_;refine Wp.seq ?_;refine Gd h [3,4,6,11,12,13,28] [] (fun a=>(TG v2 b y1 x1 a)) ?_ ?_
   ·intro a h;refine Wp.region ?_;refine A3.o 18 (I y1) ?_;refine A3.o 19 (B (y1==0)) ?_;refine A3.o 20 (B (y1==0)) ?_;refine PB h 20 (fun h=>?_) (fun h=>?_)
    ·refine DY 21 ?_;refine DY 22 ?_;refine DY 23 ?_;refine DY 24 ?_;refine DY 25 ?_;refine DY 26 ?_;refine DY 27 ?_;refine A3.o 28 (B true) ?_;refine A3.nil ?_;cases h;exact⟨_,rfl,rfl,rfl⟩
    refine A3.o 21 (.one (.view (.slot 3) 0 [] 0)) ?_;refine A3.o 22 (I y1) ?_;refine A3.o 23 (I (sb y1 1)) ?_;refine uI h 24 (fun _=>(.one (.ptr (.slot 3) 0 [0] (Int.toNat (sb y1 1)*1+0)))) ?_ (fun x2 gx2=>H0 (vA k3 (.slot 3) [] 0 gx2));intro x2 gx2 h;refine A3.o 25 (I x2) ?_ (H0 (ACz k3 (.slot 3) [0] 0 (i6 x2) gx2));refine A3.o 26 (I x1) ?_;refine A3.o 27 (B (x2 !=x1)) ?_;refine A3.o 28 (B (x2 !=x1)) ?_;refine A3.nil ?_;cases h;exact⟨_,rfl,rfl,rfl⟩
   intro j1 h E hE;refine AY hE ?_;change Wp _ _ _ (TG v2 b y1 x1 j1) _;refine Wp.c h (fun h=>?_) (fun h=>?_)
   ·refine Wp.region ?_;refine A3.o 29 (.one (.view (.slot 4) 0 [] 0)) ?_;refine A3.o 30 (I x1) ?_;refine X8 false [] 31 (.one (En [x1])) ?_;refine AAQ h [(.slot 4,[.junk])] 32 (fun q1=>(.one (En q1))) ?_ (fun q1 gq1=>Ni k3 (fun _=>rfl) [(.slot 4,[.junk])] b gq1);intro q1 gq1 h;refine X8 true [(.slot 32,[.junk])] 4 (.one (En q1)) ?_;refine A3.nil ?_;refine Wp.region ?_;refine A3.o 33 (I (ad y1 1)) ?_;refine A3.o 13 (I (ad y1 1)) ?_;refine A3.nil ?_;cases h;exact⟨_,rfl,rfl,rfl⟩
   refine Wp.skip ?_;refine Wp.region ?_;refine A3.o 33 (I (ad y1 1)) ?_;refine A3.o 13 (I (ad y1 1)) ?_;refine A3.nil ?_;cases h;exact⟨_,rfl,rfl,rfl⟩
  refine Wp.exit ?_;cases h;exact⟨_,rfl,rfl,rfl⟩
 intro v3 h E hE;refine AY hE ?_;change Wp _ _ _ (TH v3) _;refine Wp.seq ?_;refine Wp.region ?_;refine A3.o 34 (.one (.view (.slot 4) 0 [] 0)) ?_;refine X8 true [(.slot 4,[.junk])] 2 (.one (En v3)) ?_;refine A3.nil ?_;cases h;exact Wp.ret ⟨.inr rfl,_,_,rfl,rfl⟩
def qT (xF:Flash) (xB:Int) (v1:List Int) (z1:List Ak) (z2:Int):St:=A9 [(2,(I xB)),(3,(pb 3)),(7,(.one (Fz z1))),(13,(.one (En v1))),(14,(I (ln v1))),(15,(I z2))] [(.box 3,[CQ xF.Blocks])]
def qS (z3:List Ak):St:=A9 [(7,(.one (Fz z3)))] []
def qR (xF:Flash) (xB:Int) (v1:List Int) (a:List Ak) (y1:Int) (v2:Ak×Bool) (z4:Bool):St:=A9 [(2,(I xB)),(3,(pb 3)),(7,(.one (Fz a))),(10,(pb 10)),(13,(.one (En v1))),(14,(I (ln v1))),(15,(I y1)),(31,(B z4))] [(.box 3,[CQ xF.Blocks]),(.box 10,[i6 v2.1.Block,i6 v2.1.Leaf,i6 v2.1.Page.Kind,i6 v2.1.Page.Seq,i6 v2.1.Page.Tx,i6 v2.1.Page.Part,i6 v2.1.Page.Count,ts v2.1.Page.Text])]
theorem vW (xF:Flash) (xS:Store) (xB:Int) (r:List Ak) (h:fO xF xS xB=some r):AW Tryz.prog 38 [.sv (.agg (Sp false xF)),.sv (.agg (So false xS)),.sv (I xB)] (.one (Fz r)) (rg 3):=by
 refine gk Tryz.func38 rfl Tryz.ntmps38 (ws (gw 3 0 (gn 1 0 (Wp.seq (ws (Ai 1 0 (RW.c 0 h (qY _) (fun v1 gv1 h=>RW.q (Dr k3 v1) (gn 1 0 (BM h [2,3,7,13,14,15] [.box 3] (fun s=>(qT xF xB v1 s.1 s.2)) [7] [] (fun s=>(qS s)) EC ?_ ?_))))))))))
 ·rintro⟨b,y1⟩ o (h:JV xF xB v1 b y1=some o);refine ws (gn 1 0 (Wp.seq (wc h (fun h=>?_) (fun h=>?_))))
  ·refine Wp.skip (Wp.seq (Wp.block (ws (CS k3 h (fun x1 gx1 h=>RW.q (CA k3 gx1 0) (gw 1 0 (Ai 2 0 (RW.c 0 h (QX _ _) (fun v2 gv2 h=>gn 6 1 (FD h [2,3,7,10,13,14,15,31] [.box 3,.box 10] (fun a=>(qR xF xB v1 b y1 v2 a)) (fun a h=>?_) (fun j1 h=>?_)))))))))))
   ·refine Au (Ai 2 0 (AO 26 h (fun h=>?_) (fun h=>?_)))
    ·exact gn 5 0 (jn h)
    exact gn 5 0 (jn h)
   refine wc h (fun h=>?_) (fun h=>?_)
   ·exact Au (Ai 3 0 (bd h fun q1 gq1 h=>CR (DK Ex (fun _=>rfl) b gq1) (gn 1 1 (Au (gn 2 0 (jl h))))))
   exact Wp.skip (Au (gn 2 0 (jl h)))
  exact Wp.exit (jv h)
 intro v3 h E hE;exact AY hE (ws (gn 2 2 (Wp.ret (rr h▸rq))))
def Zr (a:Int) (xB:Int) (v2:List Ak) (z1:Int) (z2:Int):St:=A9 [(2,(I a)),(3,(I xB)),(9,(I z1)),(18,(.one (Fz v2))),(19,(I (ln v2))),(20,(I z2))] []
def Zq (z3:Int):St:=A9 [(9,(I z3))] []
def Zp (a:Int) (xB:Int) (v2:List Ak) (b:Int) (y1:Int) (z4:Bool):St:=A9 [(2,(I a)),(3,(I xB)),(9,(I b)),(18,(.one (Fz v2))),(19,(I (ln v2))),(20,(I y1)),(40,(B z4))] []
theorem gM (xF:Flash) (xS:Store) (b:Int) (xB:Int) (r:Int) (h:Mj xF xS b xB=some r):AW Tryz.prog 15 [.sv (.agg (Sp false xF)),.sv (.agg (So false xS)),.sv (I b),.sv (I xB)] (I r) (rg 4):=by
 refine gk Tryz.func15 rfl Tryz.ntmps15 (ws (gw 3 0 (Ai 3 0 (RW.c 0 h (vW _ _ _) (fun v1 gv1 h=>RW.q (Dr Ex v1) (gn 1 0 (Wp.seq (ws (Ai 1 0 (RW.c 0 h (TF _) (fun v2 gv2 h=>RW.q (Dr Ex v2) (gn 1 0 (BM h [2,3,9,18,19,20] [] (fun s=>(Zr b xB v2 s.1 s.2)) [9] [] (fun s=>(Zq s)) EC ?_ ?_)))))))))))))
 ·rintro⟨d,y1⟩ o (h:Ia b xB v2 d y1=some o);refine ws (gn 1 0 (Wp.seq (wc h (fun h=>?_) (fun h=>?_))))
  ·refine Wp.skip (Wp.seq (Wp.block (ws (CS Ex h (fun x1 gx1 h=>RW.q (Re Ex gx1 0 8) (gn 2 0 (FD h [2,3,9,18,19,20,40] [] (fun a=>(Zp b xB v2 d y1 a)) (fun a h=>?_) (fun j1 h=>?_))))))))
   ·refine Au (Ai 5 0 (AO 28 h (fun h=>?_) (fun h=>?_)))
    ·refine Ai 6 0 (AO 34 h (fun h=>?_) (fun h=>?_))
     ·exact gn 6 0 (jn h)
     exact gn 6 0 (jn h)
    exact gn 12 0 (jn h)
   refine wc h (fun h=>?_) (fun h=>?_)
   ·exact Au (gn 3 0 (Au (gn 2 0 (jl h))))
   exact Wp.skip (Au (gn 2 0 (jl h)))
  exact Wp.exit (jv h)
 intro v3 h E hE;exact AY hE (ws (gn 2 0 (Wp.ret (rr h▸rq))))
def XG (v2:AE) (v3:List Int) (z1:Int):St:=A9 [(3,(pb 3)),(4,(.one (En v3))),(5,(I z1))] [(.box 3,[CQ v2.Flash.Blocks,DG v2.Store.Vols,BI v2.Store.Arena.Knots,i6 v2.Store.Next,i6 v2.Seq,i6 v2.Tx,i6 v2.Base])]
def XF (v2:AE) (v3:List Int):St:=A9 [(3,(pb 3)),(4,(.one (En v3)))] [(.box 3,[CQ v2.Flash.Blocks,DG v2.Store.Vols,BI v2.Store.Arena.Knots,i6 v2.Store.Next,i6 v2.Seq,i6 v2.Tx,i6 v2.Base])]
def XE (v2:AE) (v3:List Int) (a:Int) (z2:Bool):St:=A9 [(3,(pb 3)),(4,(.one (En v3))),(5,(I a)),(107,(B z2))] [(.box 3,[CQ v2.Flash.Blocks,DG v2.Store.Vols,BI v2.Store.Arena.Knots,i6 v2.Store.Next,i6 v2.Seq,i6 v2.Tx,i6 v2.Base])]
theorem bE (b:List Int) (r:Bool) (h:LF b=some r):AW Tryz.prog 5 [.sv (.one (PX b))] (B r) (rg 1):=by
 refine gk Tryz.func5 rfl Tryz.ntmps5 (ws (gn 1 0 (Wp.seq (ws (Ai 1 0 (RW.c 0 h (AAZ _) (fun v1 gv1 h=>RW.nil (wc h (fun h=>?_) (fun h=>?_)))))))))
 ·exact ws (gn 1 0 (Wp.ret (rr h▸rq)))
 refine Wp.skip (ws (Ai 1 0 (RW.c 0 h (W2 _) (fun v2 gv2 h=>gw 2 0 (Ai 2 0 (RW.c 0 h (LV _) (fun v3 gv3 h=>gn 1 1 (Wp.seq (ws (gn 1 0 (ED h [3,4,5] [.box 3] (fun s=>(XG v2 v3 s)) [3,4] [.box 3] (fun _=>(XF v2 v3)) EC ?_ ?_)))))))))))
 ·rintro d o (h:G8 v2 v3 d=some o) hk1;refine Wp.seq (ws (Ai 2 0 (RW.q (Dr k3 v3) (gn 1 0 (wc h (fun h=>?_) (fun h=>?_))))))
  ·refine Wp.skip (Wp.seq (Wp.block (Wp.seq (DZ [] mixed (fun c E h=>by rcases h with⟨h|h,_⟩<;>cases h) (Bl [0,1,2,3] 0 (bd h fun x1 gx1 h=>KW.q 4 (IR k3 gx1) (KW.q 5 (CA k3 gx1 0) (B8 6 (KB.c 0 h (MX _ _) (fun v4 gv4 h=>Bl [7] 1 (Mq 8 (Mq 9 (Bl [10,11] 0 (Bk (Wp.seq (DZ [] mixed (fun c E h=>by rcases h with⟨h|h,_⟩<;>cases h) (Bl [0,1,2,3] 0 (bd h fun x2 gx2 h=>KW.q 4 (IR k3 gx2) (KW.q 5 (CA k3 gx2 0) (B8 6 (KB.c 0 h (qV _ _) (fun v5 gv5 h=>Bl [7] 1 (Mq 8 (Mq 9 (Mq 10 (Bl [11,12,13] 0 (Bk ?_)))))))))))))))))))))))))));refine ws (Ai 4 0 (RW.c 0 h (R5 _ _ _) (fun v6 gv6 h=>gw 5 1 (Ai 1 0 (RW.c 0 h (R4 _) (fun v7 gv7 h=>gn 6 1 (FD h [3,4,5,107] [.box 3] (fun a=>(XE v2 v3 d a)) (fun a h=>?_) (fun j1 h=>?_))))))))
   ·refine DZ [] mixed (fun c E h=>by rcases h with⟨h|h,_⟩<;>cases h) (Bl [0,1,2] 0 (ND 66 h (fun h=>?_) (fun h=>?_)))
    ·exact Bl [3,4,5,6,7,8,9,10,11,12,13,14,15,16,17,18,19,20,21,22,23,24,25,26,27,29,30,31,32,28,33,34,35,36,37,38,39,40,41,42,43] 0 (Bk (jn h))
    refine Bl [3,4,5,6] 0 (ND 70 h (fun h=>?_) (fun h=>?_))
    ·exact Bl [7,8,9,10,11,12,13,14,15,16,17,18,19,20,21,22,23,24,25,26,27,29,30,31,32,28,33,34,35,36,37,38,39,40,41,42,43] 0 (Bk (jn h))
    refine Bl [7,8,9,10] 0 (ND 74 h (fun h=>?_) (fun h=>?_))
    ·exact Bl [11,12,13,14,15,16,17,18,19,20,21,22,23,24,25,26,27,29,30,31,32,28,33,34,35,36,37,38,39,40,41,42,43] 0 (Bk (jn h))
    refine Bl [11,12,13,14] 0 (ND 78 h (fun h=>?_) (fun h=>?_))
    ·exact Bl [15,16,17,18,19,20,21,22,23,24,25,26,27,29,30,31,32,28,33,34,35,36,37,38,39,40,41,42,43] 0 (Bk (jn h))
    refine Bl [15,16,17,18] 0 (bd h fun x3 gx3 h=>KW.q 19 (IR k3 gx3) (KW.q 20 (CA k3 gx3 0) (Bl [21,22,23] 0 (ND 87 h (fun h=>?_) (fun h=>?_)))))
    ·exact Bl [24,25,26,27,29,30,31,32,28,33,34,35,36,37,38,39,40,41,42,43] 0 (Bk (jn h))
    refine Bl [24,25,26,27,29,30] 0 (bd h fun x4 gx4 h=>KW.q 31 (IR k3 gx4) (KW.q 32 (CA k3 gx4 0) (B8 28 (KB.c 0 h (gs (ca rfl (ca (co (cs (iO _))) rfl)) (Sc _ _ _)) (fun v8 gv8 h=>Bl [33,34,35] 0 (ND 99 h (fun h=>?_) (fun h=>?_))) (hc:=(.inr (fun v=>rfl)))))))
    ·exact Bl [36,37,38,39,40,41,42,43] 0 (Bk (jn h))
    exact Bl [36,37,38,39,40] 0 (B8 41 (KB.c 0 h (gM _ _ _ _) (fun v9 gv9 h=>Bl [42,43] 0 (Bk (jn h)))))
   refine wc h (fun h=>?_) (fun h=>?_)
   ·exact ws (gn 1 0 (Wp.ret (rr (jo h hk1)▸rq)))
   exact Wp.skip (Au (gn 3 0 (jl h)))
  exact Wp.exit (jx h)
 intro v10 h E hE;refine AY hE (ws (Ai 2 0 (RW.c 0 h (MX _ _) (fun v11 gv11 h=>gw 5 1 (Ai 3 0 (AO 116 h (fun h=>?_) (fun h=>?_)))))))
 ·exact Ai 3 0 (RW.c 0 h (gs (ca rfl (ca (co (cs (iO _))) rfl)) (Sc _ _ _)) (fun v12 gv12 h=>gn 3 0 (Wp.ret (rr h▸rq))) (hc:=(.inr (fun v=>rfl))))
 exact gn 7 0 (Wp.ret (rr h▸rq))
end Go.TI
