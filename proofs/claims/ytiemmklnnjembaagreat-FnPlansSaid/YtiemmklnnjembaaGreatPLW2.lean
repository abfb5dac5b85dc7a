/- That they compute it. No condition. -/
import Derived.Test.YtiemmklnnjembaaGreatPLW1
namespace Go.TI
open Go Go.Proofs
set_option maxRecDepth 100000
def YY (z1:ByteArray) (z2:List AK):St:=AA [(0,(Y z1)),(4,(.one (Hv z2)))] []
def YX (z3:List AK):St:=AA [(4,(.one (Hv z3)))] []
def YW (b:ByteArray) (a:List AK) (x1:Int) (z4:Bool):St:=AA [(0,(Y b)),(4,(.one (Hv a))),(5,(I (IntKind.i64.wrap x1))),(11,(B z4))] []
def YV (b:ByteArray) (a:List AK) (x1:Int) (z5:Bool):St:=AA [(0,(Y b)),(4,(.one (Hv a))),(5,(I (IntKind.i64.wrap x1))),(30,(B z5))] []
theorem fV (xT:ByteArray) (r:List AK×Bool) (h:Oq xT=some r):AU Tryz.prog 70 [.sv (Y xT)] (.tup [(.one (Hv r.1)),(B r.2)]) (rg 1):=by
 refine gk Tryz.func70 rfl Tryz.ntmps70 (ws (gw 2 0 (gn 1 0 (sl2 h [0,4] [] (fun s=>(YY s.1 s.2)) [4] [] (fun s=>(YX s)) ?_ (fun v1 h=>?_)))))
 ·rintro⟨c,b⟩ o (h:Du c b=some o) hk1;refine Wp.seq (ws (gn 2 0 (wc h (fun h=>?_) (fun h=>?_))))
  ·refine Wp.skip (Wp.block (ws (Ai 1 0 (bd h fun x1 gx1 h=>RW.q (iW gx1) (gn 2 0 (Wp.block (Fk h [0,4,5,11] [] (fun a=>(YW c b x1 a)) (fun a h=>?_) (fun j1 h=>?_))))))))
   ·refine As (Ai 3 0 (AJ 14 h (fun h=>?_) (fun h=>?_)))
    ·exact gn 5 0 (jn h)
    exact gn 5 0 (jn h)
   refine wc h (fun h=>?_) (fun h=>?_)
   ·exact ws (Ai 2 0 (bd h fun x2 gx2 h=>RW.q (iW gx2) (Ai 5 0 (bd h fun q1 gq1 h=>CV (DN EY (fun _=>rfl) b gq1) (gn 1 1 (As (Ai 1 0 (bd h fun x3 gx3 h=>RW.q (Pv gx3) (gn 1 0 (jl h))))))))))
   refine Fk h [0,4,5,30] [] (fun a=>(YV c b x1 a)) (fun a h=>?_) (fun j2 h=>?_)
   ·refine As (Ai 3 0 (AJ 33 h (fun h=>?_) (fun h=>?_)))
    ·exact gn 6 0 (jn h)
    exact gn 6 0 (jn h)
   refine wc h (fun h=>?_) (fun h=>?_)
   ·exact ws (Ai 4 0 (bd h fun x4 gx4 h=>RW.q (Pv gx4) (Ai 2 0 (bd h fun q2 gq2 h=>CV (DN EY (fun _=>rfl) b gq2) (gn 1 1 (As (Ai 3 0 (bd h fun x5 gx5 h=>RW.q (Pv gx5) (gn 1 0 (jl h))))))))))
   exact ws (gn 2 0 (Wp.ret (rr (jo h hk1)▸rq)))
  exact Wp.exit (jx h)
 exact ws (gn 3 2 (Wp.ret (rr h▸rq)))
def gU (a:List AK) (z1:List Int) (z2:Int):St:=AA [(4,(.one (fM z1))),(7,(.one (M6 a))),(8,(I (ln a))),(9,(I z2))] []
def gT (z3:List Int):St:=AA [(4,(.one (fM z3)))] []
def gR (a:List AK) (y1:Int) (z4:List Int):St:=AA [(4,(.one (fM z4))),(7,(.one (M6 a))),(8,(I (ln a))),(9,(I y1))] []
def gQ (a:List AK) (b:List Int) (y1:Int) (x1:AK) (z5:Bool):St:=AA [(4,(.one (fM b))),(6,(pb 6)),(7,(.one (M6 a))),(8,(I (ln a))),(9,(I y1)),(25,(B z5))] [(.box 6,[i6 x1.Back,i6 x1.Size,ts x1.Text])]
def gP (a:List AK) (b:List Int) (y1:Int) (x1:AK) (z6:Bool):St:=AA [(4,(.one (fM b))),(6,(pb 6)),(7,(.one (M6 a))),(8,(I (ln a))),(9,(I y1)),(46,(B z6))] [(.box 6,[i6 x1.Back,i6 x1.Size,ts x1.Text])]
def gO (a:List AK) (y1:Int) (x1:AK) (z7:List Int) (z8:Int):St:=AA [(4,(.one (fM z7))),(6,(pb 6)),(7,(.one (M6 a))),(8,(I (ln a))),(9,(I y1)),(48,(I x1.Size)),(49,(I z8))] [(.box 6,[i6 x1.Back,i6 x1.Size,ts x1.Text])]
def gN (a:List AK) (y1:Int) (z9:List Int):St:=AA [(4,(.one (fM z9))),(7,(.one (M6 a))),(8,(I (ln a))),(9,(I y1))] []
theorem nA (b:List AK) (r:ByteArray×Bool) (h:Nu b=some r):AU Tryz.prog 71 [.sv (.one (M6 b))] (.tup [(Y r.1),(B r.2)]) (rg 1):=by
 refine gk Tryz.func71 rfl Tryz.ntmps71 (ws (gw 2 0 (gn 1 0 (Wp.seq (ws (Ai 1 0 (RW.q (Di EY b) (gn 1 0 (E5 h [4,7,8,9] [] (fun s=>(gU b s.1 s.2)) [4] [] (fun s=>(gT s)) EG ?_ ?_)))))))))
 ·rintro⟨d,y1⟩ o (h:Lu b d y1=some o) hk1;refine ws (gn 1 0 (Wp.seq (wc h (fun h=>?_) (fun h=>?_))))
  ·refine Wp.skip (Wp.seq (Wp.block (ws (CU EY h (fun x1 gx1 h=>RW.q (Qz EY gx1 0 3) (gn 2 0 (Wp.seq (ws (gn 3 0 (nW h [4,7,8,9] [] (fun a=>(gR b y1 a)) ?_ ?_))))))))))
   ·intro a h g;refine wc h (fun h=>?_) (fun h=>?_)
    ·refine Wp.seq (Fk h [4,6,7,8,9,25] [.box 6] (fun a=>(gQ b d y1 x1 a)) (fun a h=>?_) (fun j2 h=>?_))
     ·refine As (Ai 4 0 (AJ 19 h (fun h=>?_) (fun h=>?_)))
      ·exact gn 6 0 (jn h)
      exact Ai 3 0 (RW.c 0 h (Iw _ _ _) (fun v1 gv1 h=>gn 2 0 (jn h)))
     refine wc h (fun h=>?_) (fun h=>?_)
     ·exact ws (gn 2 0 (Wp.ret (rr (jo (jr h g) hk1)▸rq)))
     exact Wp.skip (As (Ai 3 0 (bd h fun q1 gq1 h=>CV (r7 (f:=c5) (fun _=>rfl) d gq1) (gn 1 1 (jm h)))))
    refine Wp.seq (Fk h [4,6,7,8,9,46] [.box 6] (fun a=>(gP b d y1 x1 a)) (fun a h=>?_) (fun j3 h=>?_))
    ·refine As (Ai 3 0 (RW.q (Di k5 d) (RW.c 0 h (Iw _ _ _) (fun v2 gv2 h=>Ai 2 0 (AJ 36 h (fun h=>?_) (fun h=>?_))))))
     ·exact gn 10 0 (jn h)
     refine Ai 2 0 (RW.c 0 h (Iw _ _ _) (fun v3 gv3 h=>Ai 3 0 (AJ 42 h (fun h=>?_) (fun h=>?_))))
     ·exact gn 4 0 (jn h)
     exact gn 4 0 (jn h)
    refine wc h (fun h=>?_) (fun h=>?_)
    ·exact ws (gn 2 0 (Wp.ret (rr (jo (jr h g) hk1)▸rq)))
    refine Wp.skip (ws (gn 3 0 (BP h [4,6,7,8,9,48,49] [.box 6] (fun s=>(gO b y1 x1 s.1 s.2)) [4,7,8,9] [] (fun s=>(gN b y1 s)) EG ?_ ?_)))
    ·rintro⟨e,y2⟩ o (h:Ox x1 e y2=some o);refine ws (gn 1 0 (Wp.seq (wc h (fun h=>?_) (fun h=>?_))))
     ·exact Wp.skip (Wp.seq (Wp.block (As (Ai 3 0 (RW.q (Di k5 e) (Ai 3 0 (CU k5 h (fun x2 gx2 h=>RW.q (CH k5 gx2 0) (Ai 1 0 (bd h fun q2 gq2 h=>CV (DN k5 (fun _=>rfl) e gq2) (gn 1 1 (As (gn 2 0 (jl h))))))))))))))
     exact Wp.exit (jv h)
    intro v4 h E hE;cases h;exact⟨_,rfl,hE⟩
   intro j1 h E hE;refine AX hE (ws (Ai 1 0 (RW.q (Di k5 j1) (gn 1 0 (wc h (fun h=>?_) (fun h=>?_))))))
   ·exact ws (gn 2 0 (Wp.ret (rr (jo h hk1)▸rq)))
   exact Wp.skip (As (gn 2 0 (jl h)))
  exact Wp.exit (jx h)
 intro v5 h E hE;exact AX hE (ws (Ai 1 0 (RW.q (pcv (f:=c5) (fun _=>rfl) v5) (gn 2 0 (Wp.ret (rr h▸rq))))))
def gA (xS:ByteArray) (a:Int) (z1:Int) (z2:Int) (z3:Int):St:=AA [(0,(Y xS)),(1,(I a)),(6,(I z1)),(7,(I z2)),(8,(I z3))] []
def f9 (z4:Int) (z5:Int):St:=AA [(6,(I z4)),(7,(I z5))] []
def f8 (xS:ByteArray) (d:Int) (a:Int) (b:Int) (c:Int) (z6:Int):St:=AA [(0,(Y xS)),(1,(I d)),(6,(I a)),(7,(I b)),(8,(I c)),(9,(I z6))] []
def f7 (xS:ByteArray) (d:Int) (a:Int) (b:Int) (c:Int) (z7:Int):St:=AA [(0,(Y xS)),(1,(I d)),(6,(I a)),(7,(I b)),(8,(I c)),(9,(I z7))] []
def f0 (xS:ByteArray) (d:Int) (a:Int) (b:Int) (c:Int) (e:Int) (z8:Bool):St:=AA [(0,(Y xS)),(1,(I d)),(6,(I a)),(7,(I b)),(8,(I c)),(9,(I e)),(38,(B z8))] []
def fZ (xS:ByteArray) (d:Int) (a:Int) (b:Int) (c:Int) (v1:Int) (z9:Bool):St:=AA [(0,(Y xS)),(1,(I d)),(6,(I a)),(7,(I b)),(8,(I c)),(9,(I v1)),(47,(B z9))] []
theorem mV (xS:ByteArray) (e:Int) (r:Int×Int) (h:Qb xS e=some r):AU Tryz.prog 118 [.sv (Y xS),.sv (I e)] (.tup [(I r.1),(I r.2)]) (rg 2):=by
 refine gk Tryz.func118 rfl Tryz.ntmps118 (ws (gw 2 0 (gn 2 0 (Wp.seq (ws (gn 3 0 (BP h [0,1,6,7,8] [] (fun s=>(gA xS e s.1 s.2.1 s.2.2)) [6,7] [] (fun s=>(f9 s.1 s.2)) EG ?_ ?_)))))))
 ·rintro⟨c,d,b⟩ o (h:Gu xS e c d b=some o);refine Wp.seq (ws (gn 2 0 (wc h (fun h=>?_) (fun h=>?_))))
  ·refine Wp.skip (Wp.seq (Wp.block (ws (gn 1 0 (sl1 h [0,1,6,7,8,9] [] (fun s=>(f8 xS e c d b s)) [0,1,6,7,8,9] [] (fun s=>(f7 xS e c d b s)) ?_ (fun v1 h=>?_))))))
   ·rintro f o (h:EB xS e b f=some o);refine Wp.seq (Fk h [0,1,6,7,8,9,38] [] (fun a=>(f0 xS e c d b f a)) (fun a h=>?_) (fun j1 h=>?_))
    ·refine KH mixed (Dl 3 (X4 18 h (fun h=>?_) (fun h=>?_)))
     ·refine Dl 8 (X4 26 h (fun h=>?_) (fun h=>?_))
      ·exact Dl 4 (bd h fun x1 gx1 h=>SW.q (iW gx1) (Dl 4 (bd h fun x2 gx2 h=>SW.q (iW gx2) (Dl 2 (SW.nil (jn h))))))
      exact Dl 12 (SW.nil (jn h))
     exact Dl 20 (SW.nil (jn h))
    refine wc h (fun h=>?_) (fun h=>?_)
    ·exact Wp.skip (Wp.block (As (gn 3 0 (jl h))))
    exact Wp.exit (jv h)
   refine Fk h [0,1,6,7,8,9,47] [] (fun a=>(fZ xS e c d b v1 a)) (fun a h=>?_) (fun j2 h=>?_)
   ·refine As (Ai 3 0 (AJ 43 h (fun h=>?_) (fun h=>?_)))
    ·exact gn 4 0 (jn h)
    exact gn 4 0 (jn h)
   refine wc h (fun h=>?_) (fun h=>?_)
   ·exact As (gn 6 0 (As (gn 3 0 (jl h))))
   exact Wp.skip (As (gn 3 0 (jl h)))
  exact Wp.exit (jv h)
 intro v2 h E hE;exact AX hE (ws (gn 4 0 (Wp.ret (rr h▸rq))))
def Zh (xS:ByteArray) (z1:List AK) (z2:Int):St:=AA [(0,(Y xS)),(3,(.one (Hv z1))),(4,(I z2))] []
def Zg (z3:List AK):St:=AA [(3,(.one (Hv z3)))] []
def Zf (xS:ByteArray) (a:List AK) (b:Int) (z4:Bool):St:=AA [(0,(Y xS)),(3,(.one (Hv a))),(4,(I b)),(7,(I (sb (ln a) 1))),(53,(B z4))] []
def Ze (xS:ByteArray) (a:Int) (z5:List AK) (z6:Int):St:=AA [(0,(Y xS)),(3,(.one (Hv z5))),(4,(I a)),(7,(I z6))] []
theorem gD (xS:ByteArray) (r:List AK) (h:Ov xS=some r):AU Tryz.prog 84 [.sv (Y xS)] (.one (Hv r)) (rg 1):=by
 refine gk Tryz.func84 rfl Tryz.ntmps84 (ws (gn 1 0 (Wp.seq (ws (gn 3 0 (wc h (fun h=>?_) (fun h=>?_)))))))
 ·exact ws (gn 1 0 (Wp.ret (rr h▸rq)))
 refine Wp.skip (ws (gn 1 0 (Wp.seq (ws (gn 1 0 (BP h [0,3,4] [] (fun s=>(Zh xS s.1 s.2)) [3] [] (fun s=>(Zg s)) EG ?_ ?_))))))
 ·rintro⟨b,d⟩ o (h:Kr xS b d=some o);refine Wp.seq (ws (gn 4 0 (wc h (fun h=>?_) (fun h=>?_))))
  ·refine Wp.skip (Wp.block (ws (Ai 2 0 (RW.c 0 h (mV _ _) (fun v1 gv1 h=>gn 5 1 (Wp.seq (ws (gn 2 0 (wc h (fun h=>?_) (fun h=>?_))))))))))
   ·exact ws (Ai 5 0 (bd h fun q1 gq1 h=>CV (DN EY (fun _=>rfl) b gq1) (gw 1 1 (gn 4 0 (Wp.exit (jl h))))))
   refine Wp.skip (ws (Ai 1 0 (RW.q (Di EY b) (gn 2 0 (Wp.seq (Fk h [0,3,4,7,53] [] (fun a=>(Zf xS b d a)) (fun a h=>?_) (fun j1 h=>?_)))))))
   ·refine As (Ai 3 0 (AJ 37 h (fun h=>?_) (fun h=>?_)))
    ·exact gn 16 0 (jn h)
    refine Ai 2 0 (CU EY h (fun x1 gx1 h=>RW.q (DA EY gx1 0 0) (RW.q (CH EY gx1 0) (Ai 3 0 (AJ 45 h (fun h=>?_) (fun h=>?_))))))
    ·exact gn 8 0 (jn h)
    exact Ai 2 0 (CU EY h (fun x2 gx2 h=>RW.q (DA EY gx2 0 2) (RW.q (CH EY gx2 2) (gn 3 0 (jn h)))))
   refine FB h [0,3,4,7] [] (fun a=>(Ze xS d a.1 a.2)) ?_ ?_
   ·intro a h;refine wc h (fun h=>?_) (fun h=>?_)
    ·exact ws (Ai 3 0 (bd h fun q2 gq2 h=>CV (DN EY (fun _=>rfl) b gq2) (gn 1 1 (As (gn 3 0 (jn h))))))
    exact Wp.skip (jn h)
   intro j2 h E hE;exact AX hE (Wp.seq (Sp 13 mixed (Dl 2 (bd h fun x3 gx3 h=>SW.q (Jo EY gx3) (SW.q (DA EY gx3 0 2) (SW.q (CH EY gx3 2) (Dl 4 (bd h fun x4 gx4 h=>SW.q (Pv gx4) (bd h fun x5 gx5 h=>SW.q (ON gx5) (bd h fun x6 gx6 h=>SW.q (Jo EY gx6) (SW.q (DA EY gx6 0 2) (SW.nil (CV (Ny EY gx6 2 0 (AK.mk x6.Back x6.Size x5)) (RW.nil (As (gn 3 0 (jl h)))))))))))))))))
  exact Wp.exit (jv h)
 intro v2 h E hE;exact AX hE (ws (gn 2 2 (Wp.ret (rr h▸rq))))
def Zp (xS:ByteArray) (v1:List AK) (z1:List Int) (z2:Int):St:=AA [(0,(Y xS)),(4,(.one (fM z1))),(12,(.one (Hv v1))),(13,(I (ln v1))),(14,(I z2))] []
def Zo (xS:ByteArray) (z3:List Int):St:=AA [(0,(Y xS)),(4,(.one (fM z3)))] []
def Zn (xS:ByteArray) (v1:List AK) (y1:Int) (z4:List Int):St:=AA [(0,(Y xS)),(4,(.one (fM z4))),(12,(.one (Hv v1))),(13,(I (ln v1))),(14,(I y1))] []
theorem RY (xS:ByteArray) (r:ByteArray×Bool) (h:JW xS=some r):AU Tryz.prog 53 [.sv (Y xS)] (.tup [(Y r.1),(B r.2)]) (rg 1):=by
 refine gk Tryz.func53 rfl Tryz.ntmps53 (ws (gn 2 0 (Wp.seq (ws (gn 3 0 (wc h (fun h=>?_) (fun h=>?_)))))))
 ·exact ws (gn 2 0 (Wp.ret (rr h▸rq)))
 refine Wp.skip (ws (gn 2 2 (Wp.seq (ws (Ai 1 0 (RW.c 0 h (gD _) (fun v1 gv1 h=>RW.q (Di EY v1) (gn 1 0 (BP h [0,4,12,13,14] [] (fun s=>(Zp xS v1 s.1 s.2)) [0,4] [] (fun s=>(Zo xS s)) EG ?_ ?_)))))))))
 ·rintro⟨b,y1⟩ o (h:If v1 b y1=some o);refine ws (gn 1 0 (Wp.seq (wc h (fun h=>?_) (fun h=>?_))))
  ·refine Wp.skip (Wp.seq (Wp.block (ws (CU EY h (fun x1 gx1 h=>RW.q (Qz EY gx1 0 3) (gw 2 0 (gn 3 0 (FB h [0,4,12,13,14] [] (fun a=>(Zn xS v1 y1 a)) ?_ ?_))))))))
   ·intro a h;refine wc h (fun h=>?_) (fun h=>?_)
    ·exact As (Ai 9 0 (bd h fun q1 gq1 h=>CV (DN k5 (fun _=>rfl) b gq1) (gn 1 1 (jn h))))
    refine Eu [6,9] mixed (fun c E h=>by rcases h with⟨h|h,_⟩<;>cases h) (Bw [0,1,2,3,4] 0 (DU 5 7 ?_ ?_))
    ·refine KB.o false (DU 6 7 ?_ ?_)
     ·exact bd h fun q4 gq4 h=>Ml (DN k5 (fun _=>rfl) b gq4) (Bw [7,8] 0 (BC 9 (bd h fun q5 gq5 h=>Ml (r7 (f:=c5) (fun _=>rfl) q4 gq5) (Bw [10] 1 (Bv (jn h))))))
     refine KB.o false (DU 6 8 ?_ ?_)
     ·exact bd h fun q7 gq7 h=>Ml (DN k5 (fun _=>rfl) b gq7) (Bw [8] 0 (BC 9 (bd h fun q8 gq8 h=>Ml (r7 (f:=c5) (fun _=>rfl) q7 gq8) (Bw [10] 1 (Bv (jn h))))))
     exact KB.o false (BC 6 (bd h fun q9 gq9 h=>Ml (DN k5 (fun _=>rfl) b gq9) (BC 9 (bd h fun q10 gq10 h=>Ml (r7 (f:=c5) (fun _=>rfl) q9 gq10) (Bw [10] 1 (Bv (jn h)))))))
    refine KB.o false (DU 5 8 ?_ ?_)
    ·refine KB.o false (DU 6 8 ?_ ?_)
     ·exact bd h fun q13 gq13 h=>Ml (DN k5 (fun _=>rfl) b gq13) (Bw [8] 0 (BC 9 (bd h fun q14 gq14 h=>Ml (r7 (f:=c5) (fun _=>rfl) q13 gq14) (Bw [10] 1 (Bv (jn h))))))
     exact KB.o false (BC 6 (bd h fun q15 gq15 h=>Ml (DN k5 (fun _=>rfl) b gq15) (BC 9 (bd h fun q16 gq16 h=>Ml (r7 (f:=c5) (fun _=>rfl) q15 gq16) (Bw [10] 1 (Bv (jn h)))))))
    exact KB.o false (Bw [5] 0 (BC 6 (bd h fun q17 gq17 h=>Ml (DN k5 (fun _=>rfl) b gq17) (BC 9 (bd h fun q18 gq18 h=>Ml (r7 (f:=c5) (fun _=>rfl) q17 gq18) (Bw [10] 1 (Bv (jn h))))))))
   intro j1 h E hE;exact AX hE (As (gn 2 0 (jl h)))
  exact Wp.exit (jv h)
 intro v2 h E hE;refine AX hE (Wp.seq (ws (Ai 4 0 (RW.q (Di k5 v2) (gn 1 0 (wc h (fun h=>?_) (fun h=>?_)))))))
 ·exact ws (Ai 1 0 (bd h fun x2 gx2 h=>RW.q (ON gx2) (gn 2 0 (Wp.ret (rr h▸rq)))))
 exact Wp.skip (ws (Ai 1 0 (RW.q (pcv (f:=c5) (fun _=>rfl) v2) (gn 2 0 (Wp.ret (rr h▸rq))))))
def UG (xT:ByteArray) (z1:ByteArray):St:=AA [(0,(Y xT)),(4,(Y z1))] []
def UF (j1:ByteArray) (z2:Bool):St:=AA [(4,(Y j1)),(46,(B z2))] []
theorem WZ (xT:ByteArray) (r:ByteArray×Bool) (h:Lt xT=some r):AU Tryz.prog 45 [.sv (Y xT)] (.tup [(Y r.1),(B r.2)]) (rg 1):=by
 refine gk Tryz.func45 rfl Tryz.ntmps45 (ws (gn 2 0 (Wp.seq (ws (gn 2 0 (wc h (fun h=>?_) (fun h=>?_)))))))
 ·exact ws (gn 2 0 (Wp.ret (rr h▸rq)))
 refine Wp.skip (ws (Ai 1 0 (bd h fun x1 gx1 h=>RW.q (Pv gx1) (gn 1 0 (Wp.seq (ws (Ai 1 0 (bd h fun x2 gx2 h=>RW.q (iW gx2) (gn 1 0 (nW h [0,4] [] (fun a=>(UG xT a)) ?_ ?_))))))))))
 ·intro a h b;refine wc h (fun h=>?_) (fun h=>?_)
  ·refine ws (Ai 1 0 (RW.c 0 h (fV _) (fun v1 gv1 h=>gw 5 9 (Ai 1 0 (RW.c 0 h (gs (ca (co (cs (ACp _))) rfl) (nA _)) (fun v2 gv2 h=>gn 5 1 (Wp.seq (ws (Ai 3 0 (AJ 30 h (fun h=>?_) (fun h=>?_)))))) (hc:=(.inr (fun v=>rfl))))))))
   ·exact gn 3 0 (wt (ws (gn 2 0 (Wp.ret (rr (jr h b)▸rq)))))
   refine gn 3 0 (wc h (fun h=>?_) (fun h=>?_))
   ·exact ws (gn 2 0 (Wp.ret (rr (jr h b)▸rq)))
   exact Wp.skip (As (gn 2 0 (jm h)))
  exact Wp.skip (jm h)
 intro j1 h E hE;refine AX hE (ws (Ai 1 0 (RW.c 0 h (RY _) (fun v3 gv3 h=>gn 5 1 (Wp.seq (Fk h [4,46] [] (fun a=>(UF j1 a)) (fun a h=>?_) (fun j2 h=>?_)))))))
 ·refine As (Ai 3 0 (AJ 42 h (fun h=>?_) (fun h=>?_)))
  ·exact gn 4 0 (jn h)
  exact gn 4 0 (jn h)
 refine wc h (fun h=>?_) (fun h=>?_)
 ·exact ws (gn 2 0 (Wp.ret (rr h▸rq)))
 exact Wp.skip (ws (gn 3 0 (Wp.ret (rr h▸rq))))
theorem Zs (xF:Flash) (a:Int) (r:ByteArray×Bool) (h:M9 xF a=some r):AU Tryz.prog 18 [.sv (.agg (TR false xF)),.sv (I a)] (.tup [(Y r.1),(B r.2)]) (rg 2):=by
 refine gk Tryz.func18 rfl Tryz.ntmps18 (ws (gw 3 0 (Ai 2 0 (RW.c 0 h (rH _ _) (fun v1 gv1 h=>gn 6 1 (Wp.seq (ws (gn 2 0 (wc h (fun h=>?_) (fun h=>?_))))))))))
 ·exact ws (gn 2 0 (Wp.ret (rr h▸rq)))
 exact Wp.skip (ws (Ai 3 0 (RW.c 0 h (WZ _) (fun v2 gv2 h=>gn 4 0 (Wp.ret (rr h▸rq))))))
def Zr (xF:Flash) (a:List Int) (b:ByteArray) (z1:Int):St:=AA [(2,(Y b)),(3,(pb 3)),(11,(.one (OT a))),(12,(I (ln a))),(13,(I z1))] [(.box 3,[Da xF.Blocks])]
def Zq:St:=AA [] []
theorem gV (xF:Flash) (a:List Int) (b:ByteArray) (r:Int) (h:Oy xF a b=some r):AU Tryz.prog 22 [.sv (.agg (TR false xF)),.sv (.one (OT a)),.sv (Y b)] (I r) (rg 3):=by
 refine gk Tryz.func22 rfl Tryz.ntmps22 (ws (gn 2 0 (Wp.seq (ws (Ai 1 0 (RW.q (Di k3 a) (gn 1 0 (E5 h [2,3,11,12,13] [.box 3] (fun s=>(Zr xF a b s)) [] [] (fun _=>Zq) EG ?_ ?_))))))))
 ·rintro y1 o (h:Ig xF a b y1=some o) hk1;refine ws (gn 1 0 (Wp.seq (wc h (fun h=>?_) (fun h=>?_))))
  ·refine Wp.skip (Wp.seq (Wp.block (ws (CU k3 h (fun x1 gx1 h=>RW.q (CH k3 gx1 0) (gw 1 0 (Ai 2 0 (RW.c 0 h (Zs _ _) (fun v1 gv1 h=>gw 5 1 (Ai 2 0 (AJ 24 h (fun h=>?_) (fun h=>?_))))))))))))
   ·refine gn 4 0 (wc h (fun h=>?_) (fun h=>?_))
    ·exact ws (gn 2 0 (Wp.ret (rr (jo h hk1)▸rq)))
    exact Wp.skip (As (gn 2 0 (jl h)))
   exact gn 4 0 (wf (Wp.skip (As (gn 2 0 (jl h)))))
  exact Wp.exit (jx h)
 intro v2 h E hE;exact AX hE (ws (gn 1 0 (Wp.ret (rr h▸rq))))
def m9 (xQ:Mm) (z1:Int) (z2:ByteArray):St:=AA [(3,(pb 3)),(8,(I z1)),(9,(Y z2))] [(.box 3,[i6 xQ.Kind,i6 xQ.Vol,i6 xQ.Sector,i6 xQ.Of,ts xQ.Text])]
set_option maxHeartbeats 4000000 in
theorem Xa (xD:AF) (xQ:Mm) (r:List CD×ByteArray×Int) (h:Nt xD xQ=some r):AU Tryz.prog 24 [.sv (.agg (Sx false xD)),.sv (.agg (c44 xQ))] (.tup [(.one (Ib r.1)),(Y r.2.1),(I r.2.2)]) (rg 2):=by
 refine gk Tryz.func24 rfl Tryz.ntmps24 (ws (gn 5 0 (Wp.seq (ws (Ai 1 0 (RW.c 0 h (aO _) (fun v1 gv1 h=>gn 1 0 (wc h (fun h=>?_) (fun h=>?_)))))))))
 ·exact ws (gn 3 0 (Wp.ret (rr h▸rq)))
 refine Wp.skip (Wp.seq (ws (Ai 3 0 (RW.c 0 h (mU _ _) (fun v2 gv2 h=>gw 1 0 (gn 2 0 (wc h (fun h=>?_) (fun h=>?_))))))))
 ·exact ws (gn 4 0 (Wp.ret (rr h▸rq)))
 refine Wp.skip (Wp.seq (ws (gn 2 0 (Wp.block (ws (gn 2 0 (wc h (fun h=>?_) (fun h=>?_))))))))
 ·refine Wp.seq (Eu [] mixed (fun c E h=>by rcases h with⟨h|h,_⟩<;>cases h) (Bw [0,1,2,3,5,6] 0 (BC 4 (KB.c 0 h (rL _) (fun v3 gv3 h=>BC 7 (KB.c 0 h (gs (ca rfl (ca (co (cs (jH _))) rfl)) (gV _ _ _)) (fun v4 gv4 h=>Bw [8] 0 (Bv (ws (gn 1 0 (Wp.seq (ws (gn 2 0 (FB h [3,8,9] [.box 3] (fun a=>(m9 xQ a.1 a.2)) ?_ ?_)))))))) (hc:=(.inr (fun v=>rfl)))))))))
  ·intro a h;refine wc h (fun h=>?_) (fun h=>?_)
   ·exact ws (gn 4 0 (As (Ai 2 0 (RW.c 0 h (RY _) (fun v5 gv5 h=>gn 4 1 (jn h))))))
   exact Wp.skip (jn h)
  intro j1 h E hE;exact AX hE (ws (gn 11 256 (Wp.ret (rr h▸rq))))
 refine ws (gn 2 0 (wc h (fun h=>?_) (fun h=>?_)))
 ·exact ws (gn 9 64 (Wp.ret (rr h▸rq)))
 refine ws (gn 2 0 (wc h (fun h=>?_) (fun h=>?_)))
 ·exact ws (gn 7 16 (Wp.ret (rr h▸rq)))
 refine ws (gn 2 0 (wc h (fun h=>?_) (fun h=>?_)))
 ·exact ws (gn 9 64 (Wp.ret (rr h▸rq)))
 refine ws (gn 2 0 (wc h (fun h=>?_) (fun h=>?_)))
 ·exact ws (gn 7 16 (Wp.ret (rr h▸rq)))
 exact Wp.skip (ws (gn 3 0 (Wp.ret (rr h▸rq))))
def XI (xA:List CD) (xB:List CD) (z1:Int):St:=AA [(0,(.one (UE xA))),(1,(.one (UE xB))),(5,(I z1))] []
def XH:St:=AA [] []
theorem bK (xA:List CD) (xB:List CD) (r:Bool) (h:NE xA xB=some r):AU Tryz.prog 26 [.sv (.one (UE xA)),.sv (.one (UE xB))] (B r) (rg 2):=by
 refine gk Tryz.func26 rfl Tryz.ntmps26 (ws (gn 1 0 (Wp.seq (ws (Ai 1 0 (RW.q (Di Qs xA) (Ai 1 0 (RW.q (Di Qs xB) (gn 1 0 (wc h (fun h=>?_) (fun h=>?_)))))))))))
 ·exact ws (gn 1 0 (Wp.ret (rr h▸rq)))
 refine Wp.skip (Wp.seq (ws (gn 1 0 (E5 h [0,1,5] [] (fun s=>(XI xA xB s)) [] [] (fun _=>XH) EG ?_ ?_))))
 ·rintro a o (h:G8 xA xB a=some o) hk1;refine Wp.seq (ws (Ai 2 0 (RW.q (Di Qs xA) (gn 1 0 (wc h (fun h=>?_) (fun h=>?_))))))
  ·refine Wp.skip (Wp.seq (Wp.block (Wp.seq (KH mixed (Dl 2 (bd h fun x1 gx1 h=>SW.q (Jo Qs gx1) (SW.q (Qz Qs gx1 0 4) (Dl 2 (bd h fun x2 gx2 h=>SW.q (Jo Qs gx2) (SW.q (Qz Qs gx2 0 4) (AED (peq (b:=((x1.Kind==x2.Kind)&&((x1.Vol==x2.Vol)&&((x1.Arg==x2.Arg)&&((x1.Chunk==x2.Chunk)&&true))))) (by kernel_rfl)) (SW.nil (wc h (fun h=>?_) (fun h=>?_))))))))))))))
   ·exact ws (gn 1 0 (Wp.ret (rr (jo h hk1)▸rq)))
   exact Wp.skip (As (gn 3 0 (jl h)))
  exact Wp.exit (jx h)
 intro v1 h E hE;exact AX hE (ws (gn 1 0 (Wp.ret (rr h▸rq))))
def bM (v2:AF) (v3:Mm) (v4:List CD×ByteArray×Int) (z1:Bool):St:=AA [(3,(pb 3)),(4,(pb 4)),(5,(.one (Ib v4.1))),(6,(Y v4.2.1)),(7,(I v4.2.2)),(54,(B z1))] [(.box 3,[Da v2.Flash.Blocks,DB v2.Store.Vols,BJ v2.Store.Arena.Knots,i6 v2.Store.Next,i6 v2.Seq,i6 v2.Tx,i6 v2.Base]),(.box 4,[i6 v3.Kind,i6 v3.Vol,i6 v3.Sector,i6 v3.Of,ts v3.Text])]
def bL (z2:Bool):St:=AA [(2,(B z2))] []
theorem iZ (b:List Int) (r:Bool) (h:MX b=some r):AU Tryz.prog 6 [.sv (.one (Pz b))] (B r) (rg 1):=by
 refine gk Tryz.func6 rfl Tryz.ntmps6 (ws (gn 1 0 (Wp.seq (ws (Ai 1 0 (RW.c 0 h (ABg _) (fun v1 gv1 h=>RW.nil (wc h (fun h=>?_) (fun h=>?_)))))))))
 ·exact ws (gn 1 0 (Wp.ret (rr h▸rq)))
 refine Wp.skip (ws (Ai 1 0 (RW.c 0 h (W4 _) (fun v2 gv2 h=>gw 2 0 (Ai 1 0 (RW.c 0 h (lK _) (fun v3 gv3 h=>gw 2 0 (Ai 2 0 (RW.c 0 h (Xa _ _) (fun v4 gv4 h=>gw 7 17 (Ai 2 0 (RW.c 0 h (QL _ _) (fun v5 gv5 h=>gn 7 17 (Wp.seq (Fk h [3,4,5,6,7,54] [.box 3,.box 4] (fun a=>(bM v2 v3 v4 a)) (fun a h=>?_) (fun j1 h=>?_))))))))))))))))
 ·refine As (Ai 4 0 (AJ 39 h (fun h=>?_) (fun h=>?_)))
  ·exact gn 15 0 (jn h)
  refine Ai 5 0 (AJ 44 h (fun h=>?_) (fun h=>?_))
  ·exact gn 10 0 (jn h)
  refine Ai 2 0 (RW.c 0 h (gs (ca (co (cs (u9 _))) (ca (co (cs (u9 _))) rfl)) (bK _ _)) (fun v6 gv6 h=>Ai 3 0 (AJ 50 h (fun h=>?_) (fun h=>?_))) (hc:=(.inr (fun v=>rfl))))
  ·exact gn 4 0 (jn h)
  exact Ai 1 0 (RW.c 0 h (aO _) (fun v7 gv7 h=>gn 2 0 (jn h)))
 refine wc h (fun h=>?_) (fun h=>?_)
 ·exact ws (gn 1 0 (Wp.ret (rr h▸rq)))
 refine Wp.skip (Wp.seq (ws (gn 2 0 (wc h (fun h=>?_) (fun h=>?_)))))
 ·refine Fk h [2] [] (fun a=>(bL a)) (fun a h=>?_) (fun j2 h=>?_)
  ·refine As (Ai 1 0 (RW.q (Di Qs v4.1) (Ai 2 0 (AJ 60 h (fun h=>?_) (fun h=>?_)))))
   ·exact gn 4 0 (jn h)
   exact gn 4 0 (jn h)
  exact Wp.ret (rr h▸rq)
 refine Wp.skip (ws (Ai 3 0 (RW.c 0 h (gs (ca rfl (ca (co (cs (u9 _))) rfl)) (R5 _ _)) (fun v8 gv8 h=>gw 6 1 (Ai 2 0 (RW.c 0 h (Xa _ _) (fun v9 gv9 h=>gw 7 17 (Ai 2 0 (AJ 79 h (fun h=>?_) (fun h=>?_))))))) (hc:=(.inr (fun v=>by simp [BB,BL,AO,B9,WH,KC,CZ,Bt,Rg]))))))
 ·refine Ai 4 0 (AJ 83 h (fun h=>?_) (fun h=>?_))
  ·refine Ai 3 0 (AJ 86 h (fun h=>?_) (fun h=>?_))
   ·exact Ai 7 0 (RW.q (Di Qs v4.1) (gn 3 0 (Wp.ret (rr h▸rq))))
   refine Ai 6 0 (AJ 92 h (fun h=>?_) (fun h=>?_))
   ·exact Ai 1 0 (RW.q (Di Qs v4.1) (gn 3 0 (Wp.ret (rr h▸rq))))
   exact gn 5 0 (Wp.ret (rr h▸rq))
  exact gn 14 0 (Wp.ret (rr h▸rq))
 exact gn 18 0 (Wp.ret (rr h▸rq))
end Go.TI
