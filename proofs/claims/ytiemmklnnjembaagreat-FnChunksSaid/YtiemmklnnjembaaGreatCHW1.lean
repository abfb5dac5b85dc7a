/- That they compute it. No condition. -/
import Derived.Test.YtiemmklnnjembaaGreatCHW0
namespace Go.TI
open Go Go.Proofs
set_option maxRecDepth 100000
def XZ (xS:ByteArray) (a:Int) (b:Int) (z1:Int):St:=A9 [(0,(Y xS)),(1,(I a)),(2,(I b)),(7,(I z1))] []
def XY (z2:Int):St:=A9 [(7,(I z2))] []
def XX (xS:ByteArray) (a:Int) (b:Int) (c:Int) (z3:Bool):St:=A9 [(0,(Y xS)),(1,(I a)),(2,(I b)),(7,(I c)),(30,(B z3))] []
theorem cD (xS:ByteArray) (b:Int) (c:Int) (r:Int) (h:LR xS b c=some r):AW Tryz.prog 119 [.sv (Y xS),.sv (I b),.sv (I c)] (I r) (rg 3):=by
 refine gk Tryz.func119 rfl Tryz.ntmps119 (ws (gw 1 0 (gn 1 0 (sl1 h [0,1,2,7] [] (fun s=>(XZ xS b c s)) [7] [] (fun s=>(XY s)) ?_ (fun v1 h=>?_)))))
 ·rintro d o (h:GC xS b c d=some o);refine Wp.seq (FD h [0,1,2,7,30] [] (fun a=>(XX xS b c d a)) (fun a h=>?_) (fun j1 h=>?_))
  ·refine KF mixed (Dn 3 (X3 10 h (fun h=>?_) (fun h=>?_)))
   ·refine Dn 8 (X3 18 h (fun h=>?_) (fun h=>?_))
    ·exact Dn 4 (bd h fun x1 gx1 h=>SW.q (iP gx1) (Dn 4 (bd h fun x2 gx2 h=>SW.q (iP gx2) (Dn 2 (SW.nil (jn h))))))
    exact Dn 12 (SW.nil (jn h))
   exact Dn 20 (SW.nil (jn h))
  refine wc h (fun h=>?_) (fun h=>?_)
  ·exact Wp.skip (Wp.block (Au (gn 3 0 (jl h))))
  exact Wp.exit (jv h)
 exact ws (gn 2 0 (Wp.ret (rr h▸rq)))
def Yk (xS:ByteArray) (z1:List AJ) (z2:Int):St:=A9 [(0,(Y xS)),(3,(.one (Hq z1))),(4,(I z2))] []
def Yj (z3:List AJ):St:=A9 [(3,(.one (Hq z3)))] []
def Yi (xS:ByteArray) (a:List AJ) (b:Int) (z4:Int) (z5:Int) (z6:Int):St:=A9 [(0,(Y xS)),(3,(.one (Hq a))),(4,(I b)),(5,(I z4)),(6,(I z5)),(7,(I z6))] []
def Yh (xS:ByteArray) (a:List AJ) (b:Int) (z7:Int) (z8:Int):St:=A9 [(0,(Y xS)),(3,(.one (Hq a))),(4,(I b)),(5,(I z7)),(6,(I z8))] []
def Yg (xS:ByteArray) (d:List AJ) (e:Int) (a:Int) (b:Int) (c:Int) (v1:Int) (z9:Bool):St:=A9 [(0,(Y xS)),(3,(.one (Hq d))),(4,(I e)),(5,(I a)),(6,(I b)),(7,(I c)),(8,(I v1)),(35,(B z9))] []
def Yf (xS:ByteArray) (a:List AJ) (b:Int) (z10:Bool):St:=A9 [(0,(Y xS)),(3,(.one (Hq a))),(4,(I b)),(9,(I (sb (ln a) 1))),(72,(B z10))] []
theorem cL (xS:ByteArray) (r:List AJ) (h:JL xS=some r):AW Tryz.prog 86 [.sv (Y xS)] (.one (Hq r)) (rg 1):=by
 refine gk Tryz.func86 rfl Tryz.ntmps86 (ws (gw 1 0 (gn 2 2 (Wp.seq (ws (gn 3 0 (wc h (fun h=>?_) (fun h=>?_))))))))
 ·exact ws (gn 2 2 (Wp.ret (rr h▸rq)))
 refine Wp.skip (ws (gn 1 0 (sl1 h [0,3,4] [] (fun s=>(Yk xS s.1 s.2)) [3] [] (fun s=>(Yj s)) ?_ (fun v3 h=>?_))))
 ·rintro⟨b,d⟩ o (h:Cm xS b d=some o);refine Wp.seq (ws (gn 4 0 (wc h (fun h=>?_) (fun h=>?_))))
  ·refine Wp.skip (Wp.block (ws (gw 1 0 (gn 1 0 (Wp.seq (ws (gn 3 0 (BM h [0,3,4,5,6,7] [] (fun s=>(Yi xS b d s.1 s.2.1 s.2.2)) [0,3,4,5,6] [] (fun s=>(Yh xS b d s.1 s.2)) EC ?_ ?_))))))))
   ·rintro⟨e,f,g⟩ o (h:Ed xS d e f g=some o);refine Wp.seq (ws (gn 2 0 (wc h (fun h=>?_) (fun h=>?_))))
    ·refine Wp.skip (Wp.seq (Wp.block (ws (Ai 3 0 (RW.c 0 h (cD _ _ _) (fun v1 gv1 h=>gn 1 0 (FD h [0,3,4,5,6,7,8,35] [] (fun a=>(Yg xS b d e f g v1 a)) (fun a h=>?_) (fun j1 h=>?_))))))))
     ·refine Au (Ai 3 0 (AO 31 h (fun h=>?_) (fun h=>?_)))
      ·exact gn 4 0 (jn h)
      exact gn 4 0 (jn h)
     refine wc h (fun h=>?_) (fun h=>?_)
     ·exact ws (gn 2 0 (Au (gn 4 0 (Au (gn 3 0 (jl h))))))
     exact Wp.skip (Au (gn 3 0 (jl h)))
    exact Wp.exit (jv h)
   intro v2 h E hE;refine AY hE (Wp.seq (ws (gn 2 0 (wc h (fun h=>?_) (fun h=>?_)))))
   ·exact ws (Ai 5 0 (bd h fun q1 gq1 h=>CR (DK EW (fun _=>rfl) b gq1) (gw 1 1 (gn 4 0 (Wp.exit (jl h))))))
   refine Wp.skip (ws (Ai 1 0 (RW.q (Dr EW b) (gn 2 0 (Wp.seq (FD h [0,3,4,9,72] [] (fun a=>(Yf xS b d a)) (fun a h=>?_) (fun j2 h=>?_)))))))
   ·refine Au (Ai 3 0 (AO 56 h (fun h=>?_) (fun h=>?_)))
    ·refine Ai 2 0 (CS EW h (fun x1 gx1 h=>RW.q (D8 EW gx1 0 0) (RW.q (CA EW gx1 0) (Ai 3 0 (AO 64 h (fun h=>?_) (fun h=>?_))))))
     ·exact Ai 2 0 (CS EW h (fun x2 gx2 h=>RW.q (D8 EW gx2 0 2) (RW.q (CA EW gx2 2) (gn 3 0 (jn h)))))
     exact gn 8 0 (jn h)
    exact gn 16 0 (jn h)
   refine wc h (fun h=>?_) (fun h=>?_)
   ·exact Sv 15 mixed (Dn 4 (bd h fun x3 gx3 h=>SW.q (IR EW gx3) (SW.q (D8 EW gx3 0 2) (SW.q (CA EW gx3 2) (Dn 4 (bd h fun x4 gx4 h=>SW.q (Pr gx4) (bd h fun x5 gx5 h=>SW.q (OL gx5) (bd h fun x6 gx6 h=>SW.q (IR EW gx6) (SW.q (D8 EW gx6 0 2) (SW.nil (CR (N2 EW gx6 2 0 (AJ.mk x6.Back x6.Size x5)) (RW.nil (Au (gn 3 0 (jl h)))))))))))))))
   exact Au (Ai 5 0 (bd h fun x7 gx7 h=>RW.q (Pr gx7) (Ai 2 0 (bd h fun q2 gq2 h=>CR (DK EW (fun _=>rfl) b gq2) (gn 1 1 (Au (gn 3 0 (jl h))))))))
  exact Wp.exit (jv h)
 exact ws (gn 2 2 (Wp.ret (rr h▸rq)))
def Yz (xS:ByteArray) (v1:List AJ) (z1:ByteArray) (z2:Int):St:=A9 [(0,(Y xS)),(4,(.one (Hq v1))),(5,(Y z1)),(6,(I z2))] []
def Yy (xS:ByteArray) (z3:ByteArray):St:=A9 [(0,(Y xS)),(5,(Y z3))] []
theorem R7 (xS:ByteArray) (r:ByteArray×Bool) (h:Ez xS=some r):AW Tryz.prog 56 [.sv (Y xS)] (.tup [(Y r.1),(B r.2)]) (rg 1):=by
 refine gk Tryz.func56 rfl Tryz.ntmps56 (ws (gn 2 0 (Wp.seq (ws (gn 3 0 (wc h (fun h=>?_) (fun h=>?_)))))))
 ·exact ws (gn 2 0 (Wp.ret (rr h▸rq)))
 refine Wp.skip (ws (Ai 1 0 (RW.c 0 h (cL _) (fun v1 gv1 h=>gw 1 1 (gn 1 0 (Wp.seq (ws (gn 1 0 (BM h [0,4,5,6] [] (fun s=>(Yz xS v1 s.1 s.2)) [0,5] [] (fun s=>(Yy xS s)) EC ?_ ?_)))))))))
 ·rintro⟨a,b⟩ o (h:Eg v1 a b=some o);refine Wp.seq (ws (Ai 2 0 (RW.q (Dr EW v1) (gn 1 0 (wc h (fun h=>?_) (fun h=>?_))))))
  ·refine Wp.skip (Wp.seq (Wp.block (ws (Ai 2 0 (CS EW h (fun x1 gx1 h=>RW.q (Re EW gx1 0 3) (gw 2 0 (gn 3 0 (wc h (fun h=>?_) (fun h=>?_))))))))))
   ·exact Au (Ai 6 0 (RW.q (pcv (f:=c5) (fun _=>rfl) [(IntKind.u8.wrap (FJ x1.Text))]) (bd h fun x2 gx2 h=>RW.q (OL gx2) (Ai 2 0 (bd h fun x3 gx3 h=>RW.q (OL gx3) (gn 1 0 (Au (gn 3 0 (jl h)))))))))
   exact Au (Ai 9 0 (RW.q (pcv (f:=c5) (fun _=>rfl) [(IntKind.u8.wrap (ad 128 x1.Size)),(IntKind.u8.wrap x1.Back)]) (bd h fun x4 gx4 h=>RW.q (OL gx4) (gn 1 0 (Au (gn 3 0 (jl h)))))))
  exact Wp.exit (jv h)
 intro v2 h E hE;refine AY hE (Wp.seq (ws (gn 6 0 (wc h (fun h=>?_) (fun h=>?_)))))
 ·exact ws (Ai 1 0 (bd h fun x5 gx5 h=>RW.q (OL gx5) (gn 2 0 (Wp.ret (rr h▸rq)))))
 exact Wp.skip (ws (gn 3 0 (Wp.ret (rr h▸rq))))
def Ul (xT:ByteArray) (z1:ByteArray):St:=A9 [(0,(Y xT)),(4,(Y z1))] []
def Uk (j1:ByteArray) (z2:Bool):St:=A9 [(4,(Y j1)),(48,(B z2))] []
theorem VV (xT:ByteArray) (r:ByteArray×Bool) (h:Fw xT=some r):AW Tryz.prog 66 [.sv (Y xT)] (.tup [(Y r.1),(B r.2)]) (rg 1):=by
 refine gk Tryz.func66 rfl Tryz.ntmps66 (ws (gn 2 0 (Wp.seq (ws (gn 3 0 (wc h (fun h=>?_) (fun h=>?_)))))))
 ·exact ws (gn 2 0 (Wp.ret (rr h▸rq)))
 refine Wp.skip (ws (Ai 1 0 (bd h fun x1 gx1 h=>RW.q (Pr gx1) (gn 1 0 (Wp.seq (ws (Ai 1 0 (bd h fun x2 gx2 h=>RW.q (iP gx2) (gn 1 0 (nI h [0,4] [] (fun a=>(Ul xT a)) ?_ ?_))))))))))
 ·intro a h b;refine wc h (fun h=>?_) (fun h=>?_)
  ·refine ws (Ai 1 0 (bd h fun x3 gx3 h=>RW.q (Pr gx3) (RW.c 0 h (XW _) (fun v1 gv1 h=>gw 5 9 (Ai 1 0 (RW.c 0 h (gs (ca (co (cs (AB1 _))) rfl) (kH _)) (fun v2 gv2 h=>gn 5 1 (Wp.seq (ws (Ai 3 0 (AO 32 h (fun h=>?_) (fun h=>?_)))))) (hc:=(.inr (fun v=>rfl)))))))))
   ·exact gn 3 0 (wt (ws (gn 2 0 (Wp.ret (rr (jr h b)▸rq)))))
   refine gn 3 0 (wc h (fun h=>?_) (fun h=>?_))
   ·exact ws (gn 2 0 (Wp.ret (rr (jr h b)▸rq)))
   exact Wp.skip (Au (gn 2 0 (jm h)))
  exact Wp.skip (jm h)
 intro j1 h E hE;refine AY hE (ws (Ai 1 0 (RW.c 0 h (R7 _) (fun v3 gv3 h=>gn 5 1 (Wp.seq (FD h [4,48] [] (fun a=>(Uk j1 a)) (fun a h=>?_) (fun j2 h=>?_)))))))
 ·refine Au (Ai 3 0 (AO 44 h (fun h=>?_) (fun h=>?_)))
  ·exact gn 4 0 (jn h)
  exact gn 4 0 (jn h)
 refine wc h (fun h=>?_) (fun h=>?_)
 ·exact ws (gn 2 0 (Wp.ret (rr h▸rq)))
 exact Wp.skip (ws (gn 3 0 (Wp.ret (rr h▸rq))))
theorem Ty (b:List Ak) (a:Int) (r:ByteArray×Bool) (h:JF b a=some r):AW Tryz.prog 34 [.sv (.one (HN b)),.sv (I a)] (.tup [(Y r.1),(B r.2)]) (rg 2):=by
 refine gk Tryz.func34 rfl Tryz.ntmps34 (ws (gw 2 0 (Ai 2 0 (RW.c 0 h (XN _ _) (fun v1 gv1 h=>gn 6 1 (Wp.seq (ws (gn 2 0 (wc h (fun h=>?_) (fun h=>?_))))))))))
 ·exact ws (gn 2 0 (Wp.ret (rr h▸rq)))
 exact Wp.skip (ws (Ai 3 0 (RW.c 0 h (VV _) (fun v2 gv2 h=>gn 4 0 (Wp.ret (rr h▸rq))))))
def bZ (a:List Ak) (b:List Int) (c:ByteArray) (z1:Int):St:=A9 [(0,(.one (HN a))),(1,(.one (OQ b))),(2,(Y c)),(7,(I z1))] []
def bY:St:=A9 [] []
def bX (a:List Ak) (b:List Int) (c:ByteArray) (d:Int) (z2:Bool):St:=A9 [(0,(.one (HN a))),(1,(.one (OQ b))),(2,(Y c)),(7,(I d)),(30,(B z2))] []
theorem jD (d:List Ak) (b:List Int) (e:ByteArray) (r:Int) (h:PK d b e=some r):AW Tryz.prog 85 [.sv (.one (HN d)),.sv (.one (OQ b)),.sv (Y e)] (I r) (rg 3):=by
 refine gk Tryz.func85 rfl Tryz.ntmps85 (ws (gn 1 0 (Wp.seq (ws (gn 1 0 (ED h [0,1,2,7] [] (fun s=>(bZ d b e s)) [] [] (fun _=>bY) EC ?_ ?_))))))
 ·rintro f o (h:Ec d b e f=some o) hk1;refine Wp.seq (ws (Ai 2 0 (RW.q (Dr k3 b) (gn 1 0 (wc h (fun h=>?_) (fun h=>?_))))))
  ·refine Wp.skip (Wp.seq (Wp.block (ws (Ai 3 0 (CS k3 h (fun x1 gx1 h=>RW.q (CA k3 gx1 0) (RW.c 0 h (Ty _ _) (fun v1 gv1 h=>gn 5 1 (FD h [0,1,2,7,30] [] (fun a=>(bX d b e f a)) (fun a h=>?_) (fun j1 h=>?_))))))))))
   ·refine Au (Ai 2 0 (AO 26 h (fun h=>?_) (fun h=>?_)))
    ·exact gn 4 0 (jn h)
    exact gn 4 0 (jn h)
   refine wc h (fun h=>?_) (fun h=>?_)
   ·exact ws (Ai 2 0 (CS k3 h (fun x2 gx2 h=>RW.q (CA k3 gx2 0) (gn 1 0 (Wp.ret (rr (jo h hk1)▸rq))))))
   exact Wp.skip (Au (gn 3 0 (jl h)))
  exact Wp.exit (jx h)
 intro v2 h E hE;exact AY hE (ws (gn 1 0 (Wp.ret (rr h▸rq))))
theorem eE (xF:Flash) (a:List Int) (b:ByteArray) (r:Int) (h:JO xF a b=some r):AW Tryz.prog 55 [.sv (.agg (Sp false xF)),.sv (.one (OQ a)),.sv (Y b)] (I r) (rg 3):=by
 exact gk Tryz.func55 rfl Tryz.ntmps55 (ws (gw 2 0 (Ai 1 0 (RW.c 0 h (Hl _) (fun v1 gv1 h=>Ai 2 0 (RW.c 0 h (gs (ca (co (cs (V5 _))) rfl) (jD _ _ _)) (fun v2 gv2 h=>gn 1 0 (Wp.ret (rr h▸rq))) (hc:=(.inr (fun v=>rfl)))))))))
def kG (xD:AE) (xQ:TW) (v2:Int) (z1:Bool):St:=A9 [(2,(pb 2)),(3,(pb 3)),(7,(.one (IS []))),(8,(B (decide (v2>=0)))),(29,(B z1))] [(.box 2,[CQ xD.Flash.Blocks,DG xD.Store.Vols,BI xD.Store.Arena.Knots,i6 xD.Store.Next,i6 xD.Seq,i6 xD.Tx,i6 xD.Base]),(.box 3,[i6 xQ.Kind,i6 xQ.Vol,i6 xQ.Sector,i6 xQ.Of,ts xQ.Text])]
def kF (xD:AE) (xQ:TW) (z2:Bool):St:=A9 [(2,(pb 2)),(3,(pb 3)),(7,(.one (IS []))),(42,(B z2))] [(.box 2,[CQ xD.Flash.Blocks,DG xD.Store.Vols,BI xD.Store.Arena.Knots,i6 xD.Store.Next,i6 xD.Seq,i6 xD.Tx,i6 xD.Base]),(.box 3,[i6 xQ.Kind,i6 xQ.Vol,i6 xQ.Sector,i6 xQ.Of,ts xQ.Text])]
def kE (xQ:TW) (z3:Int) (z4:ByteArray):St:=A9 [(3,(pb 3)),(9,(I z3)),(10,(Y z4))] [(.box 3,[i6 xQ.Kind,i6 xQ.Vol,i6 xQ.Sector,i6 xQ.Of,ts xQ.Text])]
set_option maxHeartbeats 4000000 in
theorem Wh (xD:AE) (xQ:TW) (r:List Df×ByteArray×Int) (h:LT xD xQ=some r):AW Tryz.prog 25 [.sv (.agg (Tg false xD)),.sv (.agg (c44 xQ))] (.tup [(.one (IS r.1)),(Y r.2.1),(I r.2.2)]) (rg 2):=by
 refine gk Tryz.func25 rfl Tryz.ntmps25 (ws (gw 5 0 (gn 2 2 (Wp.seq (ws (Ai 1 0 (RW.c 0 h (uV _) (fun v1 gv1 h=>gn 1 0 (wc h (fun h=>?_) (fun h=>?_))))))))))
 ·exact ws (gn 4 2 (Wp.ret (rr h▸rq)))
 refine Wp.skip (ws (Ai 4 0 (RW.c 0 h (JG _ _) (fun v2 gv2 h=>gn 2 0 (Wp.seq (FD h [2,3,7,8,29] [.box 2,.box 3] (fun a=>(kG xD xQ v2 a)) (fun a h=>?_) (fun j1 h=>?_)))))))
 ·refine Au (Ai 4 0 (AO 25 h (fun h=>?_) (fun h=>?_)))
  ·exact gn 4 0 (jn h)
  exact gn 4 0 (jn h)
 refine wc h (fun h=>?_) (fun h=>?_)
 ·refine Wp.seq (ws (gn 1 0 (wc h (fun h=>?_) (fun h=>?_))))
  ·exact ws (gn 4 2 (Wp.ret (rr h▸rq)))
  refine Wp.skip (Wp.seq (FD h [2,3,7,42] [.box 2,.box 3] (fun a=>(kF xD xQ a)) (fun a h=>?_) (fun j2 h=>?_)))
  ·refine Au (Ai 4 0 (AO 35 h (fun h=>?_) (fun h=>?_)))
   ·exact Ai 4 0 (RW.c 0 h (JG _ _) (fun v3 gv3 h=>gn 2 0 (jn h)))
   exact gn 7 0 (jn h)
  refine wc h (fun h=>?_) (fun h=>?_)
  ·exact ws (gn 4 2 (Wp.ret (rr h▸rq)))
  refine Wp.skip (Wp.seq (ws (Ai 3 0 (RW.q (Dr Eo xD.Store.Vols) (gn 1 0 (wc h (fun h=>?_) (fun h=>?_)))))))
  ·exact ws (gn 4 2 (Wp.ret (rr h▸rq)))
  exact Wp.skip (ws (gn 9 64 (Wp.ret (rr h▸rq))))
 refine Wp.skip (Wp.seq (ws (gn 2 0 (wc h (fun h=>?_) (fun h=>?_)))))
 ·exact ws (gn 4 2 (Wp.ret (rr h▸rq)))
 refine Wp.skip (Wp.seq (ws (gn 2 0 (Wp.block (ws (gn 2 0 (wc h (fun h=>?_) (fun h=>?_))))))))
 ·refine Wp.seq (DZ [] mixed (fun c E h=>by rcases h with⟨h|h,_⟩<;>cases h) (Bl [0,1,2,3,5,6] 0 (B8 4 (KB.c 0 h (LV _) (fun v4 gv4 h=>B8 7 (KB.c 0 h (gs (ca rfl (ca (co (cs (iO _))) rfl)) (eE _ _ _)) (fun v5 gv5 h=>Bl [8] 0 (Bk (ws (gn 1 0 (Wp.seq (ws (gn 2 0 (Gd h [3,9,10] [.box 3] (fun a=>(kE xQ a.1 a.2)) ?_ ?_)))))))) (hc:=(.inr (fun v=>rfl)))))))))
  ·intro a h;refine wc h (fun h=>?_) (fun h=>?_)
   ·exact ws (gn 4 0 (Au (Ai 2 0 (RW.c 0 h (R7 _) (fun v6 gv6 h=>gn 4 1 (jn h))))))
   exact Wp.skip (jn h)
  intro j3 h E hE;exact AY hE (ws (gn 11 256 (Wp.ret (rr h▸rq))))
 refine ws (gn 2 0 (wc h (fun h=>?_) (fun h=>?_)))
 ·exact ws (gn 9 64 (Wp.ret (rr h▸rq)))
 refine ws (gn 2 0 (wc h (fun h=>?_) (fun h=>?_)))
 ·exact ws (gn 7 16 (Wp.ret (rr h▸rq)))
 exact Wp.skip (ws (gn 4 2 (Wp.ret (rr h▸rq))))
theorem lA (xS:Store) (b:Int) (a:Int) (r:Int) (h:No xS b a=some r):AW Tryz.prog 10 [.sv (.agg (So false xS)),.sv (I b),.sv (I a)] (I r) (rg 3):=by
 refine gk Tryz.func10 rfl Tryz.ntmps10 (ws (gw 2 0 (Ai 2 0 (RW.c 0 h (JG _ _) (fun v1 gv1 h=>gn 1 0 (Wp.seq (ws (gn 2 0 (wc h (fun h=>?_) (fun h=>?_))))))))))
 ·exact ws (gn 1 0 (Wp.ret (rr h▸rq)))
 exact Wp.skip (Wp.seq (Sv 9 mixed (Dn 5 (bd h fun x1 gx1 h=>SW.q (IR Eo gx1) (SW.q (D8 Eo gx1 0 1) (SW.q (CA Eo gx1 1) (Dn 1 (SW.nil (RW.c 0 h (ZL _ _ _) (fun v2 gv2 h=>gn 1 0 (Wp.ret (rr h▸rq))))))))))))
theorem jB (b:List Ak) (xS:Store) (d:Int) (a:Int) (r:ByteArray×Bool) (h:L4 b xS d a=some r):AW Tryz.prog 128 [.sv (.one (HN b)),.sv (.agg (So false xS)),.sv (I d),.sv (I a)] (.tup [(Y r.1),(B r.2)]) (rg 4):=by
 refine gk Tryz.func128 rfl Tryz.ntmps128 (ws (gn 3 0 (Wp.seq (ws (Ai 2 0 (RW.c 0 h (JG _ _) (fun v1 gv1 h=>gn 1 0 (wc h (fun h=>?_) (fun h=>?_)))))))))
 ·exact ws (gn 2 0 (Wp.ret (rr h▸rq)))
 refine Wp.skip (ws (Ai 3 0 (RW.c 0 h (lA _ _ _) (fun v2 gv2 h=>gn 1 0 (Wp.seq (ws (gn 2 0 (wc h (fun h=>?_) (fun h=>?_)))))))))
 ·exact ws (gn 2 0 (Wp.ret (rr h▸rq)))
 exact Wp.skip (ws (Ai 2 0 (RW.c 0 h (Ty _ _) (fun v3 gv3 h=>gn 4 0 (Wp.ret (rr h▸rq))))))
set_option maxHeartbeats 4000000 in
theorem pI (xD:AE) (b:Int) (a:Int) (r:ByteArray×Bool) (h:Wg xD b a=some r):AW Tryz.prog 97 [.sv (.agg (Tg false xD)),.sv (I b),.sv (I a)] (.tup [(Y r.1),(B r.2)]) (rg 3):=by
 exact gk Tryz.func97 rfl Tryz.ntmps97 (ws (gn 3 0 (Wp.seq (DZ [] mixed (fun c E h=>by rcases h with⟨h|h,_⟩<;>cases h) (Bl [0,1,3,4,5,6] 0 (B8 2 (KB.c 0 h (Hl _) (fun v1 gv1 h=>B8 7 (KB.c 0 h (gs (ca (co (cs (V5 _))) rfl) (jB _ _ _ _)) (fun v2 gv2 h=>Mq 8 (Mq 9 (Bl [10,11] 0 (Bk (Wp.ret (rr h▸rq)))))) (hc:=(.inr (fun v=>rfl))))))))))))
def j8 (xF:Flash) (z1:Int) (z2:Int):St:=A9 [(1,(pb 1)),(3,(I z1)),(4,(I z2))] [(.box 1,[CQ xF.Blocks])]
def j7 (z3:Int):St:=A9 [(3,(I z3))] []
def jZ (xF:Flash) (a:Int) (z4:Int) (z5:Int):St:=A9 [(1,(pb 1)),(3,(I z4)),(4,(I a)),(5,(I z5))] [(.box 1,[CQ xF.Blocks])]
def jY (xF:Flash) (a:Int) (z6:Int):St:=A9 [(1,(pb 1)),(3,(I z6)),(4,(I a))] [(.box 1,[CQ xF.Blocks])]
theorem QH (xF:Flash) (r:Int) (h:LS xF=some r):AW Tryz.prog 98 [.sv (.agg (Sp false xF))] (I r) (rg 1):=by
 refine gk Tryz.func98 rfl Tryz.ntmps98 (ws (gw 2 0 (gn 1 0 (Wp.seq (ws (gn 1 0 (BM h [1,3,4] [.box 1] (fun s=>(j8 xF s.1 s.2)) [3] [] (fun s=>(j7 s)) EC ?_ ?_)))))))
 ·rintro⟨b,a⟩ o (h:K2 xF b a=some o);refine Wp.seq (ws (Ai 3 0 (RW.q (Dr (EV false) xF.Blocks) (gn 1 0 (wc h (fun h=>?_) (fun h=>?_))))))
  ·refine Wp.skip (Wp.seq (Wp.block (ws (gn 1 0 (BM h [1,3,4,5] [.box 1] (fun s=>(jZ xF a s.1 s.2)) [1,3,4] [.box 1] (fun s=>(jY xF a s)) EC ?_ ?_)))))
   ·rintro⟨c,d⟩ o (h:K1 xF a c d=some o);refine Wp.seq (ws (Ai 4 0 (CS (EV false) h (fun x1 gx1 h=>RW.q (D8 (EV false) gx1 0 2) (RW.q (CA (EV false) gx1 2) (RW.q (Dr Mt x1.Leaves) (gn 1 0 (wc h (fun h=>?_) (fun h=>?_)))))))))
    ·refine Wp.skip (Wp.seq (Wp.block (ws (Ai 3 0 (CS (EV false) h (fun x2 gx2 h=>RW.q (D8 (EV false) gx2 0 0) (RW.q (CA (EV false) gx2 0) (Ai 2 0 (AO 31 h (fun h=>?_) (fun h=>?_))))))))))
     ·refine Ai 3 0 (CS (EV false) h (fun x3 gx3 h=>RW.q (D8 (EV false) gx3 0 2) (RW.q (CA (EV false) gx3 2) (Ai 1 0 (CS Mt h (fun x4 gx4 h=>RW.q (D8 Mt gx4 0 0) (RW.q (CA Mt gx4 0) (gn 2 0 (wc h (fun h=>?_) (fun h=>?_))))))))))
      ·exact Au (gn 3 0 (Au (gn 3 0 (jl h))))
      exact Wp.skip (Au (gn 3 0 (jl h)))
     exact gn 12 0 (wf (Wp.skip (Au (gn 3 0 (jl h)))))
    exact Wp.exit (jv h)
   intro v1 h E hE;exact AY hE (Au (gn 3 0 (jl h)))
  exact Wp.exit (jv h)
 intro v2 h E hE;exact AY hE (ws (gn 2 0 (Wp.ret (rr h▸rq))))
def VG (a:List Ak) (b:List Int) (c:Int) (z1:List Bool) (z2:Int):St:=A9 [(0,(.one (HN a))),(1,(.one (OQ b))),(2,(I c)),(7,(.one (OP z1))),(8,(I z2))] []
def VF (a:List Ak) (b:List Int) (z3:List Bool):St:=A9 [(0,(.one (HN a))),(1,(.one (OQ b))),(7,(.one (OP z3)))] []
def VE (a:List Ak) (b:List Int) (z4:List Bool) (z5:Int):St:=A9 [(0,(.one (HN a))),(1,(.one (OQ b))),(7,(.one (OP z4))),(9,(I z5))] []
def VD (z6:List Bool):St:=A9 [(7,(.one (OP z6)))] []
def VC (a:List Ak) (b:List Int) (c:Int) (z7:List Bool) (z8:Int):St:=A9 [(0,(.one (HN a))),(1,(.one (OQ b))),(7,(.one (OP z7))),(9,(I c)),(10,(I z8))] []
def VB (a:List Ak) (b:List Int) (c:Int) (z9:List Bool):St:=A9 [(0,(.one (HN a))),(1,(.one (OQ b))),(7,(.one (OP z9))),(9,(I c))] []
def VA (a:List Ak) (b:List Int) (d:Int) (c:List Bool) (e:Int) (z10:Bool):St:=A9 [(0,(.one (HN a))),(1,(.one (OQ b))),(7,(.one (OP c))),(9,(I d)),(10,(I e)),(72,(B z10))] []
theorem Ko (b:List Ak) (c:List Int) (d:Int) (r:List Bool) (h:Gk b c d=some r):AW Tryz.prog 41 [.sv (.one (HN b)),.sv (.one (OQ c)),.sv (I d)] (.one (OP r)) (rg 3):=by
 refine gk Tryz.func41 rfl Tryz.ntmps41 (ws (gw 1 0 (Ai 1 0 (RW.q (Dr Ex b) (bd h fun q1 gq1 h=>CR (fmk k4 false gq1) (gn 1 1 (Wp.seq (ws (gn 1 0 (BM h [0,1,2,7,8] [] (fun s=>(VG b c d s.1 s.2)) [0,1,7] [] (fun s=>(VF b c s)) EC ?_ ?_))))))))))
 ·rintro⟨g,k⟩ o (h:Hh b d g k=some o);refine Wp.seq (ws (Ai 2 0 (RW.q (Dr Ex b) (gn 1 0 (wc h (fun h=>?_) (fun h=>?_))))))
  ·refine Wp.skip (Wp.seq (Wp.block (Au (Ai 4 0 (CS Ex h (fun x1 gx1 h=>RW.q (D8 Ex gx1 0 2) (RW.q (D8 Ex gx1 2 2) (RW.q (CA Ex gx1 2) (Ai 2 0 (AO 29 h (fun h=>?_) (fun h=>?_)))))))))))
   ·exact Ai 2 0 (CS Ex h (fun x2 gx2 h=>RW.q (D8 Ex gx2 0 2) (RW.q (D8 Ex gx2 2 4) (RW.q (CA Ex gx2 4) (Ai 3 0 (CS k4 h (fun x3 gx3 h=>CR (N2 k4 gx3 0 0 (decide (x2.Page.Tx>=d))) (RW.nil (Au (gn 3 0 (jl h)))))))))))
   exact Ai 9 0 (CS k4 h (fun x4 gx4 h=>CR (N2 k4 gx4 0 0 false) (RW.nil (Au (gn 3 0 (jl h))))))
  exact Wp.exit (jv h)
 intro v1 h E hE;refine AY hE (Wp.seq (ws (gn 1 0 (BM h [0,1,7,9] [] (fun s=>(VE b c s.1 s.2)) [7] [] (fun s=>(VD s)) EC ?_ ?_))))
 ·rintro⟨i,e⟩ o (h:Hg b c i e=some o);refine Wp.seq (ws (Ai 2 0 (RW.q (Dr k3 c) (gn 1 0 (wc h (fun h=>?_) (fun h=>?_))))))
  ·refine Wp.skip (Wp.seq (Wp.block (ws (Ai 1 0 (RW.q (Dr Ex b) (gn 2 0 (BM h [0,1,7,9,10] [] (fun s=>(VC b c e s.1 s.2)) [0,1,7,9] [] (fun s=>(VB b c e s)) EC ?_ ?_)))))))
   ·rintro⟨f,j⟩ o (h:EJ b c e f j=some o);refine Wp.seq (ws (gn 2 0 (wc h (fun h=>?_) (fun h=>?_))))
    ·refine Wp.skip (Wp.seq (Wp.block (FD h [0,1,7,9,10,72] [] (fun a=>(VA b c e f j a)) (fun a h=>?_) (fun j1 h=>?_))))
     ·refine KF mixed (Dn 2 (bd h fun x5 gx5 h=>SW.q (IR Ex gx5) (SW.q (D8 Ex gx5 0 2) (SW.q (D8 Ex gx5 2 2) (SW.q (CA Ex gx5 2) (Dn 2 (X3 60 h (fun h=>?_) (fun h=>?_))))))))
      ·exact Dn 2 (bd h fun x6 gx6 h=>SW.q (IR Ex gx6) (SW.q (D8 Ex gx6 0 2) (SW.q (D8 Ex gx6 2 4) (SW.q (CA Ex gx6 4) (Dn 2 (bd h fun x7 gx7 h=>SW.q (IR k3 gx7) (SW.q (CA k3 gx7 0) (Dn 2 (SW.nil (jn h))))))))))
      exact Dn 12 (SW.nil (jn h))
     refine wc h (fun h=>?_) (fun h=>?_)
     ·exact ws (Ai 2 0 (CS k4 h (fun x8 gx8 h=>CR (N2 k4 gx8 0 0 true) (RW.nil (Au (gn 1 0 (Au (gn 3 0 (jl h)))))))))
     exact Wp.skip (Au (gn 3 0 (jl h)))
    exact Wp.exit (jv h)
   intro v2 h E hE;exact AY hE (Au (gn 3 0 (jl h)))
  exact Wp.exit (jv h)
 intro v3 h E hE;exact AY hE (ws (gn 2 2 (Wp.ret (rr h▸rq))))
def XJ (xB:Block) (z1:Int):St:=A9 [(1,(pb 1)),(3,(I z1))] [(.box 1,[tb xB.Bad,i6 xB.Wear,YR xB.Leaves])]
def XI:St:=A9 [] []
theorem bP (xB:Block) (r:Bool) (h:NP xB=some r):AW Tryz.prog 173 [.sv (.agg (wX false xB))] (B r) (rg 1):=by
 refine gk Tryz.func173 rfl Tryz.ntmps173 (ws (gn 2 0 (Wp.seq (ws (gn 1 0 (ED h [1,3] [.box 1] (fun s=>(XJ xB s)) [] [] (fun _=>XI) EC ?_ ?_))))))
 ·rintro a o (h:HR xB a=some o) hk1;refine Wp.seq (ws (Ai 3 0 (RW.q (Dr Mt xB.Leaves) (gn 1 0 (wc h (fun h=>?_) (fun h=>?_))))))
  ·refine Wp.skip (Wp.seq (Wp.block (ws (Ai 3 0 (CS Mt h (fun x1 gx1 h=>RW.q (D8 Mt gx1 0 0) (RW.q (CA Mt gx1 0) (gn 1 0 (wc h (fun h=>?_) (fun h=>?_))))))))))
   ·exact ws (gn 1 0 (Wp.ret (rr (jo h hk1)▸rq)))
   exact Wp.skip (Au (gn 3 0 (jl h)))
  exact Wp.exit (jx h)
 intro v1 h E hE;exact AY hE (ws (gn 1 0 (Wp.ret (rr h▸rq))))
def oS (b:List Ak) (a:List Bool) (xB:Int) (z1:Int) (z2:Int):St:=A9 [(0,(.one (HN b))),(1,(.one (of4 a))),(2,(I xB)),(7,(I z1)),(8,(I z2))] []
def oR (z3:Int):St:=A9 [(7,(I z3))] []
theorem S9 (b:List Ak) (a:List Bool) (xB:Int) (r:Int) (h:M1 b a xB=some r):AW Tryz.prog 40 [.sv (.one (HN b)),.sv (.one (of4 a)),.sv (I xB)] (I r) (rg 3):=by
 refine gk Tryz.func40 rfl Tryz.ntmps40 (ws (gw 1 0 (gn 1 0 (Wp.seq (ws (gn 1 0 (BM h [0,1,2,7,8] [] (fun s=>(oS b a xB s.1 s.2)) [7] [] (fun s=>(oR s)) EC ?_ ?_)))))))
 ·rintro⟨c,d⟩ o (h:LN b a xB c d=some o);refine Wp.seq (ws (Ai 2 0 (RW.q (Dr Ex b) (gn 1 0 (wc h (fun h=>?_) (fun h=>?_))))))
  ·refine Wp.skip (Wp.seq (Wp.block (ws (Ai 2 0 (CS k4 h (fun x1 gx1 h=>RW.q (CA k4 gx1 0) (Ai 1 0 (AO 19 h (fun h=>?_) (fun h=>?_)))))))))
   ·refine Ai 2 0 (CS Ex h (fun x2 gx2 h=>RW.q (D8 Ex gx2 0 0) (RW.q (CA Ex gx2 0) (gn 3 0 (wc h (fun h=>?_) (fun h=>?_))))))
    ·exact Au (gn 3 0 (Au (gn 3 0 (jl h))))
    exact Wp.skip (Au (gn 3 0 (jl h)))
   exact gn 8 0 (wf (Wp.skip (Au (gn 3 0 (jl h)))))
  exact Wp.exit (jv h)
 intro v1 h E hE;exact AY hE (ws (gn 2 0 (Wp.ret (rr h▸rq))))
def U8 (xD:AE) (v1:List Ak) (v3:List Bool) (z1:List Int) (z2:Int):St:=A9 [(1,(pb 1)),(3,(.one (Fz v1))),(4,(.one (.view (.slot 17) 0 [] 0))),(5,(.one (En z1))),(6,(I z2)),(17,(.one (OP v3)))] [(.box 1,[CQ xD.Flash.Blocks,DG xD.Store.Vols,BI xD.Store.Arena.Knots,i6 xD.Store.Next,i6 xD.Seq,i6 xD.Tx,i6 xD.Base])]
def U7 (z3:List Int):St:=A9 [(5,(.one (En z3)))] []
def U6 (xD:AE) (v1:List Ak) (v3:List Bool) (a:List Int) (b:Int) (z4:Bool):St:=A9 [(1,(pb 1)),(3,(.one (Fz v1))),(4,(.one (.view (.slot 17) 0 [] 0))),(5,(.one (En a))),(6,(I b)),(17,(.one (OP v3))),(47,(B z4))] [(.box 1,[CQ xD.Flash.Blocks,DG xD.Store.Vols,BI xD.Store.Arena.Knots,i6 xD.Store.Next,i6 xD.Seq,i6 xD.Tx,i6 xD.Base])]
theorem W3 (xD:AE) (r:List Int) (h:Ln xD=some r):AW Tryz.prog 151 [.sv (.agg (Tg false xD))] (.one (En r)) (rg 1):=by
 refine gk Tryz.func151 rfl Tryz.ntmps151 (ws (gw 2 0 (Ai 2 0 (RW.c 0 h (Hl _) (fun v1 gv1 h=>gn 1 1 (Wp.seq (DZ [] mixed (fun c E h=>by rcases h with⟨h|h,_⟩<;>cases h) (Bl [0,1,2,4,5] 0 (B8 3 (KB.c 0 h (LV _) (fun v2 gv2 h=>B8 6 (KB.c 0 h (gs (ca (co (cs (V5 _))) (ca (co (cs (iO _))) rfl)) (Ko _ _ _)) (fun v3 gv3 h=>Bl [7] 0 (Bk (ws (gn 2 2 (Wp.seq (ws (gn 1 0 (BM h [1,3,4,5,6,17] [.box 1] (fun s=>(U8 xD v1 v3 s.1 s.2)) [5] [] (fun s=>(U7 s)) EC ?_ ?_)))))))) (hc:=(.inr (fun v=>by simp [BE,BP,AT,BB,ns4,OP])))))))))))))))
 ·rintro⟨b,d⟩ o (h:Ft xD v1 v3 b d=some o);refine Wp.seq (ws (Ai 4 0 (RW.q (Dr (EV false) xD.Flash.Blocks) (gn 1 0 (wc h (fun h=>?_) (fun h=>?_))))))
  ·refine Wp.skip (Wp.seq (Wp.block (ws (Ai 4 0 (CS (EV false) h (fun x1 gx1 h=>RW.q (Re (EV false) gx1 0 3) (gn 2 0 (FD h [1,3,4,5,6,17,47] [.box 1] (fun a=>(U6 xD v1 v3 b d a)) (fun a h=>?_) (fun j1 h=>?_)))))))))
   ·refine Au (Ai 4 0 (AO 36 h (fun h=>?_) (fun h=>?_)))
    ·refine Ai 1 0 (RW.c 0 h (bP _) (fun v4 gv4 h=>Ai 3 0 (AO 41 h (fun h=>?_) (fun h=>?_))))
     ·exact Ai 3 0 (RW.c 0 h (gs (ca (co (cs (V5 _))) (ca (co (cs (sh4 _))) rfl)) (S9 _ _ _)) (fun v5 gv5 h=>gn 2 0 (jn h)) (hc:=(.inr (fun v=>rfl))))
     exact gn 6 0 (jn h)
    exact gn 11 0 (jn h)
   refine wc h (fun h=>?_) (fun h=>?_)
   ·exact Au (Ai 3 0 (bd h fun q1 gq1 h=>CR (DK k3 (fun _=>rfl) b gq1) (gn 1 1 (Au (gn 3 0 (jl h))))))
   exact Wp.skip (Au (gn 3 0 (jl h)))
  exact Wp.exit (jv h)
 intro v6 h E hE;exact AY hE (ws (gn 2 2 (Wp.ret (rr h▸rq))))
def XM (xD:AE) (v2:List Tx) (z1:Int):St:=A9 [(1,(pb 1)),(3,(.one (Qw v2))),(4,(I z1))] [(.box 1,[CQ xD.Flash.Blocks,DG xD.Store.Vols,BI xD.Store.Arena.Knots,i6 xD.Store.Next,i6 xD.Seq,i6 xD.Tx,i6 xD.Base])]
def XL:St:=A9 [] []
theorem bQ (xD:AE) (r:Bool) (h:NQ xD=some r):AW Tryz.prog 152 [.sv (.agg (Tg false xD))] (B r) (rg 1):=by
 refine gk Tryz.func152 rfl Tryz.ntmps152 (ws (gn 2 0 (Wp.seq (ws (gn 6 0 (wc h (fun h=>?_) (fun h=>?_)))))))
 ·exact ws (gn 1 0 (Wp.ret (rr h▸rq)))
 refine Wp.skip (ws (Ai 2 0 (RW.c 0 h (Hl _) (fun v1 gv1 h=>RW.c 0 h (gs (ca (co (cs (V5 _))) rfl) (W0 _)) (fun v2 gv2 h=>gn 1 1 (Wp.seq (ws (gn 1 0 (ED h [1,3,4] [.box 1] (fun s=>(XM xD v2 s)) [] [] (fun _=>XL) EC ?_ ?_))))) (hc:=(.inr (fun v=>by simp [BE,BP,AT,BB,zN,Qw])))))))
 ·rintro a o (h:G9 xD v2 a=some o) hk1;refine Wp.seq (ws (Ai 2 0 (RW.q (Dr (HP true) v2) (gn 1 0 (wc h (fun h=>?_) (fun h=>?_))))))
  ·refine Wp.skip (Wp.seq (Wp.block (Wp.seq (KF mixed (Dn 2 (bd h fun x1 gx1 h=>SW.q (IR (HP true) gx1) (SW.q (D8 (HP true) gx1 0 0) (SW.q (CA (HP true) gx1 0) (Dn 3 (SW.nil (wc h (fun h=>?_) (fun h=>?_))))))))))))
   ·refine ws (Ai 2 0 (CS (HP true) h (fun x2 gx2 h=>RW.q (D8 (HP true) gx2 0 2) (RW.q (CA (HP true) gx2 2) (RW.q (AD0 WR x2.Recs (HP true) gx2 2) (Ai 2 0 (AO 36 h (fun h=>?_) (fun h=>?_))))))))
    ·exact Ai 2 0 (CS (HP true) h (fun x3 gx3 h=>RW.q (D8 (HP true) gx3 0 2) (RW.q (CA (HP true) gx3 2) (bd h fun x4 gx4 h=>RW.q (ADo WR gx4 (HP true) gx3 2) (RW.q (D8 WR gx4 0 0 (hr:=pr2 0 (HP true) gx3 2)) (RW.q (CA WR gx4 0 (hr:=pr2 0 (HP true) gx3 2)) (gn 3 0 (Wp.ret (rr (jo h hk1)▸rq)))))))))
    exact gn 11 0 (Wp.ret (rr (jo h hk1)▸rq))
   exact Wp.skip (Au (gn 3 0 (jl h)))
  exact Wp.exit (jx h)
 intro v3 h E hE;exact AY hE (ws (gn 1 0 (Wp.ret (rr h▸rq))))
def YQ (xS:Store) (z1:List Df) (z2:Int):St:=A9 [(1,(pb 1)),(3,(.one (IS z1))),(4,(I z2))] [(.box 1,[DG xS.Vols,BI xS.Arena.Knots,i6 xS.Next])]
def YP (z3:List Df):St:=A9 [(3,(.one (IS z3)))] []
def YO (xS:Store) (a:Int) (v1:List Int) (z4:List Df) (z5:Int):St:=A9 [(1,(pb 1)),(3,(.one (IS z4))),(4,(I a)),(5,(.one (En v1))),(6,(I z5))] [(.box 1,[DG xS.Vols,BI xS.Arena.Knots,i6 xS.Next])]
def YN (xS:Store) (a:Int) (z6:List Df):St:=A9 [(1,(pb 1)),(3,(.one (IS z6))),(4,(I a))] [(.box 1,[DG xS.Vols,BI xS.Arena.Knots,i6 xS.Next])]
theorem eP (xS:Store) (r:List Df) (h:Ob xS=some r):AW Tryz.prog 174 [.sv (.agg (So false xS))] (.one (IS r)) (rg 1):=by
 refine gk Tryz.func174 rfl Tryz.ntmps174 (ws (gw 2 0 (gn 5 16 (Wp.seq (ws (gn 1 0 (BM h [1,3,4] [.box 1] (fun s=>(YQ xS s.1 s.2)) [3] [] (fun s=>(YP s)) EC ?_ ?_)))))))
 ·rintro⟨a,d⟩ o (h:GJ xS a d=some o);refine Wp.seq (ws (Ai 3 0 (RW.q (Dr Eo xS.Vols) (gn 1 0 (wc h (fun h=>?_) (fun h=>?_))))))
  ·refine Wp.skip (Wp.seq (Wp.block (ws (Ai 4 0 (CS Eo h (fun x1 gx1 h=>RW.q (D8 Eo gx1 0 0) (RW.q (CA Eo gx1 0) (Ai 2 0 (bd h fun q1 gq1 h=>CR (DK WR (fun _=>rfl) a gq1) (gn 1 1 (Wp.seq (Sv 8 mixed (Dn 5 (bd h fun x2 gx2 h=>SW.q (IR Eo gx2) (SW.q (D8 Eo gx2 0 1) (SW.q (CA Eo gx2 1) (SW.nil (RW.c 0 h (PQ _ _) (fun v1 gv1 h=>gw 1 1 (gn 1 0 (BM h [1,3,4,5,6] [.box 1] (fun s=>(YO xS d v1 s.1 s.2)) [1,3,4] [.box 1] (fun s=>(YN xS d s)) EC ?_ ?_)))))))))))))))))))))
   ·rintro⟨b,e⟩ o (h:GI xS d v1 b e=some o);refine Wp.seq (ws (Ai 2 0 (RW.q (Dr k3 v1) (gn 1 0 (wc h (fun h=>?_) (fun h=>?_))))))
    ·refine Wp.skip (Wp.seq (Wp.block (ws (Ai 2 0 (CS k3 h (fun x3 gx3 h=>RW.q (CA k3 gx3 0) (gn 1 0 (wc h (fun h=>?_) (fun h=>?_)))))))))
     ·exact DZ [14] mixed (fun c E h=>by rcases h with⟨h|h,_⟩<;>cases h) (Bl [0,1,2,3] 0 (bd h fun x4 gx4 h=>KW.q 4 (IR Eo gx4) (KW.q 5 (D8 Eo gx4 0 0) (KW.q 6 (CA Eo gx4 0) (Bl [7,8,9] 0 (bd h fun x5 gx5 h=>KW.q 10 (IR k3 gx5) (KW.q 11 (CA k3 gx5 0) (Bl [12,13] 0 (B8 14 (bd h fun q2 gq2 h=>Ms (DK WR (fun _=>rfl) b gq2) (Bl [15] 1 (Bk (Au (gn 3 0 (jl h)))))))))))))))
     exact Wp.skip (Au (gn 3 0 (jl h)))
    exact Wp.exit (jv h)
   intro v2 h E hE;exact AY hE (Au (gn 3 0 (jl h)))
  exact Wp.exit (jv h)
 intro v3 h E hE;exact AY hE (ws (gn 2 2 (Wp.ret (rr h▸rq))))
def Wn (xF:Flash) (z1:Int):St:=A9 [(1,(pb 1)),(3,(I z1))] [(.box 1,[CQ xF.Blocks])]
def Wm:St:=A9 [] []
def Wl (xF:Flash) (a:Int) (z2:Int) (z3:Int) (z4:Int):St:=A9 [(1,(pb 1)),(3,(I a)),(4,(I z2)),(5,(I z3)),(6,(I z4))] [(.box 1,[CQ xF.Blocks])]
def Wk (xF:Flash) (a:Int) (z5:Int) (z6:Int):St:=A9 [(1,(pb 1)),(3,(I a)),(4,(I z5)),(5,(I z6))] [(.box 1,[CQ xF.Blocks])]
def Wj (xF:Flash) (a:Int) (z7:Bool):St:=A9 [(1,(pb 1)),(3,(I a)),(54,(B z7))] [(.box 1,[CQ xF.Blocks])]
theorem Y0 (xF:Flash) (r:Int) (h:M7 xF=some r):AW Tryz.prog 176 [.sv (.agg (Sp false xF))] (I r) (rg 1):=by
 refine gk Tryz.func176 rfl Tryz.ntmps176 (ws (gn 2 0 (Wp.seq (ws (gn 1 0 (ED h [1,3] [.box 1] (fun s=>(Wn xF s)) [] [] (fun _=>Wm) EC ?_ ?_))))))
 ·rintro b o (h:FR xF b=some o) hk1;refine Wp.seq (ws (Ai 3 0 (RW.q (Dr (EV false) xF.Blocks) (gn 1 0 (wc h (fun h=>?_) (fun h=>?_))))))
  ·refine Wp.skip (Wp.seq (Wp.block (ws (gw 1 0 (gn 1 0 (Wp.seq (ws (gn 1 0 (BM h [1,3,4,5,6] [.box 1] (fun s=>(Wl xF b s.1 s.2.1 s.2.2)) [1,3,4,5] [.box 1] (fun s=>(Wk xF b s.1 s.2)) EC ?_ ?_)))))))))
   ·rintro⟨c,d,e⟩ o (h:FQ xF b c d e=some o);refine Wp.seq (ws (Ai 4 0 (CS (EV false) h (fun x1 gx1 h=>RW.q (D8 (EV false) gx1 0 2) (RW.q (CA (EV false) gx1 2) (RW.q (Dr Mt x1.Leaves) (gn 1 0 (wc h (fun h=>?_) (fun h=>?_)))))))))
    ·refine Wp.skip (Wp.seq (Wp.block (ws (Ai 3 0 (CS (EV false) h (fun x2 gx2 h=>RW.q (D8 (EV false) gx2 0 2) (RW.q (CA (EV false) gx2 2) (Ai 1 0 (CS Mt h (fun x3 gx3 h=>RW.q (D8 Mt gx3 0 0) (RW.q (CA Mt gx3 0) (gn 1 0 (wc h (fun h=>?_) (fun h=>?_))))))))))))))
     ·exact Au (gn 3 0 (Au (gn 3 0 (jl h))))
     exact Au (gn 3 0 (Au (gn 3 0 (jl h))))
    exact Wp.exit (jv h)
   intro v1 h E hE;refine AY hE (FD h [1,3,54] [.box 1] (fun a=>(Wj xF b a)) (fun a h=>?_) (fun j1 h=>?_))
   ·refine Au (Ai 3 0 (CS (EV false) h (fun x4 gx4 h=>RW.q (D8 (EV false) gx4 0 0) (RW.q (CA (EV false) gx4 0) (Ai 2 0 (AO 47 h (fun h=>?_) (fun h=>?_)))))))
    ·refine Ai 4 0 (AO 51 h (fun h=>?_) (fun h=>?_))
     ·exact gn 3 0 (jn h)
     exact gn 3 0 (jn h)
    exact gn 7 0 (jn h)
   refine wc h (fun h=>?_) (fun h=>?_)
   ·exact ws (gn 2 0 (Wp.ret (rr (jo h hk1)▸rq)))
   exact Wp.skip (Au (gn 3 0 (jl h)))
  exact Wp.exit (jx h)
 intro v2 h E hE;exact AY hE (ws (gn 1 0 (Wp.ret (rr h▸rq))))
def Wq (xB:Block) (z1:Int):St:=A9 [(1,(pb 1)),(3,(I z1))] [(.box 1,[tb xB.Bad,i6 xB.Wear,YR xB.Leaves])]
def Wo:St:=A9 [] []
theorem MS (xB:Block) (r:Int) (h:IA xB=some r):AW Tryz.prog 175 [.sv (.agg (wX false xB))] (I r) (rg 1):=by
 refine gk Tryz.func175 rfl Tryz.ntmps175 (ws (gn 2 0 (Wp.seq (ws (gn 1 0 (ED h [1,3] [.box 1] (fun s=>(Wq xB s)) [] [] (fun _=>Wo) EC ?_ ?_))))))
 ·rintro a o (h:FT xB a=some o) hk1;refine Wp.seq (ws (Ai 3 0 (RW.q (Dr Mt xB.Leaves) (gn 1 0 (wc h (fun h=>?_) (fun h=>?_))))))
  ·refine Wp.skip (Wp.seq (Wp.block (ws (Ai 3 0 (CS Mt h (fun x1 gx1 h=>RW.q (D8 Mt gx1 0 0) (RW.q (CA Mt gx1 0) (gn 1 0 (wc h (fun h=>?_) (fun h=>?_))))))))))
   ·exact ws (gn 2 0 (Wp.ret (rr (jo h hk1)▸rq)))
   exact Wp.skip (Au (gn 3 0 (jl h)))
  exact Wp.exit (jx h)
 intro v1 h E hE;exact AY hE (ws (gn 1 0 (Wp.ret (rr h▸rq))))
def U5 (xF:Flash) (z1:List Int) (z2:Int):St:=A9 [(1,(pb 1)),(3,(.one (En z1))),(4,(I z2))] [(.box 1,[CQ xF.Blocks])]
def Uz (z3:List Int):St:=A9 [(3,(.one (En z3)))] []
def Uy (xF:Flash) (a:List Int) (b:Int) (z4:Bool) (z5:Int):St:=A9 [(1,(pb 1)),(3,(.one (En a))),(4,(I b)),(5,(B z4)),(6,(I z5))] [(.box 1,[CQ xF.Blocks])]
def Ux (xF:Flash) (a:List Int) (b:Int) (z6:Bool):St:=A9 [(1,(pb 1)),(3,(.one (En a))),(4,(I b)),(5,(B z6))] [(.box 1,[CQ xF.Blocks])]
theorem W1 (xF:Flash) (r:List Int) (h:Ll xF=some r):AW Tryz.prog 177 [.sv (.agg (Sp false xF))] (.one (En r)) (rg 1):=by
 refine gk Tryz.func177 rfl Tryz.ntmps177 (ws (gw 2 0 (gn 2 2 (Wp.seq (ws (gn 1 0 (BM h [1,3,4] [.box 1] (fun s=>(U5 xF s.1 s.2)) [3] [] (fun s=>(Uz s)) EC ?_ ?_)))))))
 ·rintro⟨a,c⟩ o (h:G4 xF a c=some o);refine Wp.seq (ws (Ai 3 0 (RW.q (Dr (EV false) xF.Blocks) (gn 1 0 (wc h (fun h=>?_) (fun h=>?_))))))
  ·refine Wp.skip (Wp.seq (Wp.block (ws (Ai 3 0 (CS (EV false) h (fun x1 gx1 h=>RW.q (D8 (EV false) gx1 0 0) (RW.q (CA (EV false) gx1 0) (gn 2 0 (Wp.seq (ws (gn 1 0 (BM h [1,3,4,5,6] [.box 1] (fun s=>(Uy xF a c s.1 s.2)) [1,3,4,5] [.box 1] (fun s=>(Ux xF a c s)) EC ?_ ?_))))))))))))
   ·rintro⟨b,d⟩ o (h:Fs xF c b d=some o);refine Wp.seq (ws (Ai 4 0 (CS (EV false) h (fun x2 gx2 h=>RW.q (D8 (EV false) gx2 0 2) (RW.q (CA (EV false) gx2 2) (RW.q (Dr Mt x2.Leaves) (gn 1 0 (wc h (fun h=>?_) (fun h=>?_)))))))))
    ·refine Wp.skip (Wp.seq (Wp.block (Au (Ai 2 0 (AO 34 h (fun h=>?_) (fun h=>?_))))))
     ·exact Ai 3 0 (CS (EV false) h (fun x3 gx3 h=>RW.q (D8 (EV false) gx3 0 2) (RW.q (CA (EV false) gx3 2) (Ai 1 0 (CS Mt h (fun x4 gx4 h=>RW.q (D8 Mt gx4 0 0) (RW.q (CA Mt gx4 0) (gn 3 0 (Au (gn 3 0 (jl h)))))))))))
     exact gn 13 0 (Au (gn 3 0 (jl h)))
    exact Wp.exit (jv h)
   intro v1 h E hE;refine AY hE (ws (gn 1 0 (wc h (fun h=>?_) (fun h=>?_))))
   ·exact Au (Ai 3 0 (bd h fun q1 gq1 h=>CR (DK k3 (fun _=>rfl) a gq1) (gn 1 1 (Au (gn 3 0 (jl h))))))
   exact Wp.skip (Au (gn 3 0 (jl h)))
  exact Wp.exit (jv h)
 intro v2 h E hE;exact AY hE (ws (gn 2 2 (Wp.ret (rr h▸rq))))
def dX (xF:Flash) (v4:List Int) (z1:Int) (z2:Int):St:=A9 [(1,(pb 1)),(6,(.one (En v4))),(7,(I z1)),(8,(I z2))] [(.box 1,[CQ xF.Blocks])]
def dW (z3:Int):St:=A9 [(7,(I z3))] []
theorem kI (xF:Flash) (r:Int×Int×Bool) (h:Nm xF=some r):AW Tryz.prog 156 [.sv (.agg (Sp false xF))] (.tup [(I r.1),(I r.2.1),(B r.2.2)]) (rg 1):=by
 refine gk Tryz.func156 rfl Tryz.ntmps156 (ws (gn 4 0 (Wp.seq (ws (Ai 1 0 (RW.c 0 h (M8 _) (fun v1 gv1 h=>gn 1 0 (wc h (fun h=>?_) (fun h=>?_)))))))))
 ·exact ws (gn 3 0 (Wp.ret (rr h▸rq)))
 refine Wp.skip (ws (Ai 1 0 (RW.c 0 h (Y0 _) (fun v2 gv2 h=>gn 1 0 (Wp.seq (ws (gn 2 0 (wc h (fun h=>?_) (fun h=>?_)))))))))
 ·exact ws (Ai 4 0 (CS (EV false) h (fun x1 gx1 h=>RW.q (Re (EV false) gx1 0 3) (RW.c 0 h (MS _) (fun v3 gv3 h=>gn 3 0 (Wp.ret (rr h▸rq)))))))
 refine Wp.skip (ws (Ai 1 0 (RW.c 0 h (W1 _) (fun v4 gv4 h=>gn 1 1 (Wp.seq (ws (Ai 1 0 (RW.q (Dr k3 v4) (gn 1 0 (wc h (fun h=>?_) (fun h=>?_)))))))))))
 ·exact ws (gn 3 0 (Wp.ret (rr h▸rq)))
 refine Wp.skip (ws (Ai 1 0 (CS k3 h (fun x2 gx2 h=>RW.q (CA k3 gx2 0) (gn 1 0 (Wp.seq (ws (gn 1 0 (BM h [1,6,7,8] [.box 1] (fun s=>(dX xF v4 s.1 s.2)) [7] [] (fun s=>(dW s)) EC ?_ ?_)))))))))
 ·rintro⟨a,b⟩ o (h:Jk xF v4 a b=some o);refine Wp.seq (ws (Ai 2 0 (RW.q (Dr k3 v4) (gn 1 0 (wc h (fun h=>?_) (fun h=>?_))))))
  ·refine Wp.skip (Wp.seq (Wp.block (Wp.seq (KF mixed (Dn 4 (bd h fun x3 gx3 h=>SW.q (IR k3 gx3) (SW.q (CA k3 gx3 0) (bd h fun x4 gx4 h=>SW.q (IR (EV false) gx4) (SW.q (D8 (EV false) gx4 0 1) (SW.q (CA (EV false) gx4 1) (Dn 3 (bd h fun x5 gx5 h=>SW.q (IR (EV false) gx5) (SW.q (D8 (EV false) gx5 0 1) (SW.q (CA (EV false) gx5 1) (Dn 1 (SW.nil (wc h (fun h=>?_) (fun h=>?_))))))))))))))))))
   ·exact Au (Ai 2 0 (CS k3 h (fun x6 gx6 h=>RW.q (CA k3 gx6 0) (gn 1 0 (Au (gn 3 0 (jl h)))))))
   exact Wp.skip (Au (gn 3 0 (jl h)))
  exact Wp.exit (jv h)
 intro v5 h E hE;exact AY hE (ws (gn 4 0 (Wp.ret (rr h▸rq))))
theorem pA (xF:Flash) (xB:Int) (a:Int) (b:ByteArray) (r:Bool) (h:VQ xF xB a b=some r):AW Tryz.prog 188 [.sv (.agg (Sp false xF)),.sv (I xB),.sv (I a),.sv (Y b)] (B r) (rg 4):=by
 refine gk Tryz.func188 rfl Tryz.ntmps188 (ws (gw 2 0 (Ai 3 0 (RW.q (Dr (EV false) xF.Blocks) (Ai 1 0 (RW.c 0 h (BL _ _ _) (fun v1 gv1 h=>Ai 1 0 (AO 15 h (fun h=>?_) (fun h=>?_)))))))))
 ·refine Ai 3 0 (CS (EV false) h (fun x1 gx1 h=>RW.q (D8 (EV false) gx1 0 0) (RW.q (CA (EV false) gx1 0) (Ai 3 0 (AO 24 h (fun h=>?_) (fun h=>?_))))))
  ·refine Ai 4 0 (AO 28 h (fun h=>?_) (fun h=>?_))
   ·refine Ai 4 0 (CS (EV false) h (fun x2 gx2 h=>RW.q (Re (EV false) gx2 0 3) (RW.c 0 h (MS _) (fun v2 gv2 h=>Ai 3 0 (AO 38 h (fun h=>?_) (fun h=>?_))))))
    ·exact Ai 2 0 (RW.c 0 h (BL _ _ _) (fun v3 gv3 h=>gn 2 0 (Wp.ret (rr h▸rq))))
    exact gn 5 0 (Wp.ret (rr h▸rq))
   exact gn 15 0 (Wp.ret (rr h▸rq))
  exact gn 19 0 (Wp.ret (rr h▸rq))
 exact gn 28 0 (Wp.ret (rr h▸rq))
def dO (xB:Int) (a:Int) (b:ByteArray) (v1:Flash) (z1:Bool):St:=A9 [(1,(I xB)),(2,(I a)),(3,(Y b)),(8,(pb 8)),(10,(pb 10)),(23,(B z1))] [(.box 8,[CP []]),(.box 10,[CP v1.Blocks])]
theorem kC (xF:Flash) (xB:Int) (d:Int) (b:ByteArray) (r:Flash×Bool) (h:Nl xF xB d b=some r):AW Tryz.prog 178 [.sv (.agg (Sp false xF)),.sv (I xB),.sv (I d),.sv (Y b)] (.tup [(.agg (Sp true r.1)),(B r.2)]) (rg 4):=by
 refine gk Tryz.func178 rfl Tryz.ntmps178 (ws (gw 3 0 (Ai 1 0 (RW.c 0 h (I4 _) (fun v1 gv1 h=>gn 2 0 (Wp.seq (FD h [1,2,3,8,10,23] [.box 8,.box 10] (fun a=>(dO xB d b v1 a)) (fun a h=>?_) (fun j1 h=>?_))))))))
 ·refine Au (Ai 1 0 (RW.c 0 h (M8 _) (fun v2 gv2 h=>Ai 2 0 (AO 16 h (fun h=>?_) (fun h=>?_)))))
  ·exact gn 7 0 (jn h)
  exact Ai 4 0 (RW.c 0 h (pA _ _ _ _) (fun v3 gv3 h=>gn 2 0 (jn h)))
 refine wc h (fun h=>?_) (fun h=>?_)
 ·exact ws (gn 3 0 (Wp.ret (rr h▸rq)))
 exact Wp.skip (ws (Ai 3 0 (CS (EV true) h (fun x1 gx1 h=>RW.q (D8 (EV true) gx1 0 2) (RW.q (CA (EV true) gx1 2) (Ai 3 0 (bd h fun x2 gx2 h=>RW.q (ADo Mt gx2 (EV true) gx1 2) (CR (AEc Mt gx2 0 0 (Leaf.mk 1 b) (EV true) gx1 2 (Block.mk x1.Bad x1.Wear (si x1.Leaves d (Leaf.mk 1 b)))) (RW.nil (ws (gn 3 0 (Wp.ret (rr h▸rq)))))))))))))
def uU (xF:Flash) (xB:Int) (v1:Flash) (z1:Bool):St:=A9 [(1,(I xB)),(2,(pb 2)),(4,(pb 4)),(6,(pb 6)),(37,(B z1))] [(.box 2,[CQ xF.Blocks]),(.box 4,[CP []]),(.box 6,[CP v1.Blocks])]
theorem yJ (xF:Flash) (xB:Int) (r:Flash×Bool) (h:VU xF xB=some r):AW Tryz.prog 179 [.sv (.agg (Sp false xF)),.sv (I xB)] (.tup [(.agg (Sp true r.1)),(B r.2)]) (rg 2):=by
 refine gk Tryz.func179 rfl Tryz.ntmps179 (ws (gw 3 0 (Ai 1 0 (RW.c 0 h (I4 _) (fun v1 gv1 h=>gn 2 0 (Wp.seq (FD h [1,2,4,6,37] [.box 2,.box 4,.box 6] (fun a=>(uU xF xB v1 a)) (fun a h=>?_) (fun j1 h=>?_))))))))
 ·refine Au (Ai 1 0 (RW.c 0 h (M8 _) (fun v2 gv2 h=>Ai 2 0 (AO 12 h (fun h=>?_) (fun h=>?_)))))
  ·exact gn 25 0 (jn h)
  refine Ai 3 0 (RW.q (Dr (EV false) xF.Blocks) (Ai 1 0 (RW.c 0 h (BL _ _ _) (fun v3 gv3 h=>Ai 3 0 (AO 21 h (fun h=>?_) (fun h=>?_))))))
  ·exact gn 16 0 (jn h)
  refine Ai 3 0 (CS (EV false) h (fun x1 gx1 h=>RW.q (D8 (EV false) gx1 0 0) (RW.q (CA (EV false) gx1 0) (Ai 2 0 (AO 29 h (fun h=>?_) (fun h=>?_))))))
  ·exact gn 8 0 (jn h)
  exact Ai 3 0 (CS (EV false) h (fun x2 gx2 h=>RW.q (D8 (EV false) gx2 0 1) (RW.q (CA (EV false) gx2 1) (gn 2 0 (jn h)))))
 refine wc h (fun h=>?_) (fun h=>?_)
 ·exact ws (gn 3 0 (Wp.ret (rr h▸rq)))
 exact Wp.skip (Wp.seq (DZ [13] mixed (fun c E h=>by rcases h with⟨h|h,_⟩<;>cases h) (Bl [0,1,2,3,4,5] 0 (bd h fun x3 gx3 h=>KW.q 6 (IR (EV false) gx3) (KW.q 7 (D8 (EV false) gx3 0 1) (KW.q 8 (CA (EV false) gx3 1) (Bl [9] 0 (B8 10 (bd h fun q1 gq1 h=>Ms (fmk Mt (Leaf.mk 0 (bs [])) gq1) (Bl [11] 0 (bd h fun x4 gx4 h=>KW.q 12 (IR (EV true) gx4) (B8 13 (Ms (N2 (EV true) gx4 0 0 (Block.mk false (ad x3.Wear 1) q1)) (Bk (ws (gn 3 0 (Wp.ret (rr h▸rq))))))))))))))))))
def rU (x:BD):List TV:=[i6 x.Kind,i6 x.Block,i6 x.Leaf,ts x.Text]
theorem MV:∀x,(rU x).length=4:=fun _=>rfl
theorem ABZ:∀l,BG (AN rU l)=AN rU l:=D1 (fun _=>rfl)
theorem zM:∀l,AT (AN rU l)=false:=Kq (fun _=>rfl)
def Cj (l:List BD):TV:= .sl true 203 4 (AN rU l)
def lS (l:List BD):TV:= .sl false 203 4 (AN rU l)
theorem QI (xF:Flash) (xS:BD) (r:Flash×Bool) (h:Nn xF xS=some r):AW Tryz.prog 157 [.sv (.agg (Sp false xF)),.sv (.agg (rU xS))] (.tup [(.agg (Sp true r.1)),(B r.2)]) (rg 2):=by
 refine gk Tryz.func157 rfl Tryz.ntmps157 (ws (gn 4 0 (Wp.seq (ws (gn 2 0 (Wp.block (ws (gn 2 0 (wc h (fun h=>?_) (fun h=>?_))))))))))
 ·exact ws (Ai 7 0 (RW.c 0 h (kC _ _ _ _) (fun v1 gv1 h=>gn 4 0 (Wp.ret (rr h▸rq)))))
 refine ws (gn 2 0 (wc h (fun h=>?_) (fun h=>?_)))
 ·exact ws (Ai 3 0 (RW.c 0 h (yJ _ _) (fun v2 gv2 h=>gn 4 0 (Wp.ret (rr h▸rq)))))
 exact Wp.skip (ws (Ai 1 0 (RW.c 0 h (I4 _) (fun v3 gv3 h=>gn 2 0 (Wp.ret (rr h▸rq))))))
def Tt (xF:Flash) (a:List BD) (v1:ByteArray×Bool) (v2:Int×Int×Bool) (z1:Bool):St:=A9 [(1,(.one (Cj a))),(3,(pb 3)),(6,(pb 6)),(9,(Y v1.1)),(11,(I v2.1)),(12,(I v2.2.1)),(33,(B z1))] [(.box 3,[CQ xF.Blocks]),(.box 6,[CP []])]
def Ts (v3:Flash×Bool) (z2:List BD):St:=A9 [(6,(pb 6)),(7,(.one (Cj z2))),(8,(B v3.2))] [(.box 6,[CP v3.1.Blocks])]
theorem QG (xF:Flash) (b:List BD) (xP:Page) (r:Flash×List BD×Bool) (h:He xF b xP=some r):AW Tryz.prog 130 [.sv (.agg [CQ xF.Blocks]),.sv (.one (Cj b)),.sv (.agg [i6 xP.Kind,i6 xP.Seq,i6 xP.Tx,i6 xP.Part,i6 xP.Count,ts xP.Text])] (.tup [(.agg [CQ r.1.Blocks]),(.one (Cj r.2.1)),(B r.2.2)]) (List.replicate 3 .gone):=by
 unfold He at h;refine wA Tryz.func130 rfl ?_;rw [Tryz.ntmps130];refine Wp.seq ?_;refine Wp.region ?_;refine Ld [] 3 [CQ xF.Blocks] ?_;refine Ld [] 5 [i6 xP.Kind,i6 xP.Seq,i6 xP.Tx,i6 xP.Part,i6 xP.Count,ts xP.Text] ?_;refine Ld [] 6 [CP []] ?_;refine A3.o 7 (.one (Cj [])) ?_;refine A3.o 8 (B false) ?_;refine A3.nil ?_;refine Wp.seq ?_;refine Wp.region ?_;refine A3.o 18 (.agg [i6 xP.Kind,i6 xP.Seq,i6 xP.Tx,i6 xP.Part,i6 xP.Count,ts xP.Text]) ?_;refine X9 h 19 (fun v1=>(.tup [(Y v1.1),(B v1.2)])) rfl (l:=[.sv (.agg [i6 xP.Kind,i6 xP.Seq,i6 xP.Tx,i6 xP.Part,i6 xP.Count,ts xP.Text])]) rfl (fun v hv=>R6 xP v hv) (.inl rfl) ?_;intro v1 gv1 h;refine iH 19 17 (.tup [(Y v1.1),(B v1.2)]) ?_;refine Sw 17 0 20 (Y v1.1) ?_;refine Sw 17 1 21 (B v1.2) ?_;refine A3.o 9 (Y v1.1) ?_;refine A3.o 10 (B v1.2) ?_;refine A3.nil ?_;refine Wp.seq ?_;refine Wp.region ?_;refine A3.o 23 (.agg [CQ xF.Blocks]) ?_;refine X9 h 24 (fun v2=>(.tup [(I v2.1),(I v2.2.1),(B v2.2.2)])) rfl (l:=[.sv (.agg [CQ xF.Blocks])]) rfl (fun v hv=>kI xF v hv) (.inl rfl) ?_;intro v2 gv2 h;refine iH 24 22 (.tup [(I v2.1),(I v2.2.1),(B v2.2.2)]) ?_;refine Sw 22 0 25 (I v2.1) ?_;refine Sw 22 1 26 (I v2.2.1) ?_;refine Sw 22 2 27 (B v2.2.2) ?_;refine A3.o 11 (I v2.1) ?_;refine A3.o 12 (I v2.2.1) ?_;refine A3.o 13 (B v2.2.2) ?_;refine A3.nil ?_;refine Wp.seq ?_;refine Wp.seq ?_;refine Gd h [1,3,6,9,11,12,33] [.box 3,.box 6] (fun a=>(Tt xF b v1 v2 a)) ?_ ?_
 ·intro a h;refine Wp.region ?_;refine A3.o 28 (B v1.2) ?_;refine A3.o 29 (B (!v1.2)) ?_;refine A3.o 30 (B (!v1.2)) ?_;refine PB h 30 (fun h=>?_) (fun h=>?_)
  ·refine DY 31 ?_;refine DY 32 ?_;refine A3.o 33 (B true) ?_;refine A3.nil ?_;cases h;exact⟨_,rfl,rfl,rfl⟩
  refine A3.o 31 (B v2.2.2) ?_;refine A3.o 32 (B (!v2.2.2)) ?_;refine A3.o 33 (B (!v2.2.2)) ?_;refine A3.nil ?_;cases h;exact⟨_,rfl,rfl,rfl⟩
 intro j1 h E hE;refine AY hE ?_;change Wp _ _ _ (Tt xF b v1 v2 j1) _;refine Wp.c h (fun h=>?_) (fun h=>?_)
 ·refine Wp.seq ?_;refine Wp.region ?_;refine A3.o 34 (.agg [CQ xF.Blocks]) ?_;refine A3.o 35 (.one (.view (.slot 1) 0 [] 0)) ?_;refine sF [] (.box 6) [CQ xF.Blocks] ?_;refine X8 true [(.slot 1,[.junk])] 7 (.one (Cj b)) ?_;refine A3.o 8 (B false) ?_;refine A3.nil ?_;cases h;exact Wp.ret ⟨.inr rfl,_,_,rfl,iE⟩
 refine Wp.skip ?_;refine Wp.seq ?_;refine Wp.region ?_;refine A3.o 36 (I v2.1) ?_;refine A3.o 37 (I v2.2.1) ?_;refine A3.o 38 (Y v1.1) ?_;refine A3.o 39 (.agg [i6 1,i6 v2.1,i6 v2.2.1,ts v1.1]) ?_;refine Ld [] 14 [i6 0,i6 0,i6 0,ts (bs [])] ?_;refine A3.s [] (.box 14) [i6 1,i6 v2.1,i6 v2.2.1,ts v1.1] ?_;refine A3.nil ?_;refine Wp.seq ?_;refine Wp.region ?_;refine A3.o 41 (.agg [CQ xF.Blocks]) ?_;refine A3.o 42 (.agg [i6 1,i6 v2.1,i6 v2.2.1,ts v1.1]) ?_;refine X9 h 43 (fun v3=>(.tup [(.agg [CP v3.1.Blocks]),(B v3.2)])) rfl (l:=[.sv (.agg [CQ xF.Blocks]),.sv (.agg [i6 1,i6 v2.1,i6 v2.2.1,ts v1.1])]) rfl (fun v hv=>QI xF (BD.mk 1 v2.1 v2.2.1 v1.1) v hv) (.inl rfl) ?_;intro v3 gv3 h;refine iH 43 40 (.tup [(.agg [CP v3.1.Blocks]),(B v3.2)]) ?_;refine Sw 40 0 44 (.agg [CP v3.1.Blocks]) ?_;refine Sw 40 1 45 (B v3.2) ?_;refine Ld [] 15 [CP []] ?_;refine sF [(.slot 44,[.junk])] (.box 15) [CP v3.1.Blocks] ?_;refine A3.o 16 (B v3.2) ?_;refine A3.nil ?_;refine Wp.seq ?_;refine Gd h [6,7,8] [.box 6] (fun a=>(Ts v3 a)) ?_ ?_
 ·intro a h;refine X2 9 [4,6] mixed (fun c E h=>by rcases h with⟨h|h,_⟩<;>cases h) ?_;refine Dl.o 9 1 47 (.one (.view (.slot 1) 0 [] 0)) ?_;refine Dl.o 9 2 48 (.agg [i6 1,i6 v2.1,i6 v2.2.1,ts v1.1]) ?_;refine AAR 0 3 5 ?_ ?_ ?_
  ·refine D7.o 0 46 (.agg [.view (.box 15) 2 [] 0]) ?_;refine Ki 3 5 ?_ ?_
   ·refine Hy 3 false [] 49 (.one (Cj [(BD.mk 1 v2.1 v2.2.1 v1.1)])) ?_;refine Ki 4 5 ?_ ?_
    ·refine Mr h 4 [(.slot 1,[.junk])] 50 (fun q1=>(.one (Cj q1))) ?_ rfl (fun q1 gq1=>Ni MV (fun _=>rfl) [(.slot 1,[.junk])] b gq1);intro q1 gq1 h;refine Ki 5 6 ?_ ?_
     ·refine D7.o 5 51 (B v3.2) ?_;refine BT 6 ?_;refine Iy 6 [(.box 15,[.junk])] (.box 6) [CP v3.1.Blocks] ?_;refine BT 7 ?_;refine Hy 7 true [(.slot 50,[.junk])] 7 (.one (Cj q1)) ?_;refine BT 8 ?_;refine D7.o 8 8 (B v3.2) ?_;refine DL ?_;cases h;exact⟨_,rfl,rfl,rfl⟩
     refine Iy 6 [(.box 15,[.junk])] (.box 6) [CP v3.1.Blocks] ?_;refine Ki 5 7 ?_ ?_
     ·refine D7.o 5 51 (B v3.2) ?_;refine BT 7 ?_;refine Hy 7 true [(.slot 50,[.junk])] 7 (.one (Cj q1)) ?_;refine BT 8 ?_;refine D7.o 8 8 (B v3.2) ?_;refine DL ?_;cases h;exact⟨_,rfl,rfl,rfl⟩
     refine Hy 7 true [(.slot 50,[.junk])] 7 (.one (Cj q1)) ?_;refine BT 5 ?_;refine D7.o 5 51 (B v3.2) ?_;refine BT 8 ?_;refine D7.o 8 8 (B v3.2) ?_;refine DL ?_;cases h;exact⟨_,rfl,rfl,rfl⟩
    refine D7.o 5 51 (B v3.2) ?_;refine BT 4 ?_;refine Mr h 4 [(.slot 1,[.junk])] 50 (fun q2=>(.one (Cj q2))) ?_ rfl (fun q2 gq2=>Ni MV (fun _=>rfl) [(.slot 1,[.junk])] b gq2);intro q2 gq2 h;refine BT 6 ?_;refine Iy 6 [(.box 15,[.junk])] (.box 6) [CP v3.1.Blocks] ?_;refine BT 7 ?_;refine Hy 7 true [(.slot 50,[.junk])] 7 (.one (Cj q2)) ?_;refine BT 8 ?_;refine D7.o 8 8 (B v3.2) ?_;refine DL ?_;cases h;exact⟨_,rfl,rfl,rfl⟩
   refine D7.o 5 51 (B v3.2) ?_;refine BT 3 ?_;refine Hy 3 false [] 49 (.one (Cj [(BD.mk 1 v2.1 v2.2.1 v1.1)])) ?_;refine BT 4 ?_;refine Mr h 4 [(.slot 1,[.junk])] 50 (fun q3=>(.one (Cj q3))) ?_ rfl (fun q3 gq3=>Ni MV (fun _=>rfl) [(.slot 1,[.junk])] b gq3);intro q3 gq3 h;refine BT 6 ?_;refine Iy 6 [(.box 15,[.junk])] (.box 6) [CP v3.1.Blocks] ?_;refine BT 7 ?_;refine Hy 7 true [(.slot 50,[.junk])] 7 (.one (Cj q3)) ?_;refine BT 8 ?_;refine D7.o 8 8 (B v3.2) ?_;refine DL ?_;cases h;exact⟨_,rfl,rfl,rfl⟩
  ·refine Hy 3 false [] 49 (.one (Cj [(BD.mk 1 v2.1 v2.2.1 v1.1)])) ?_;refine AAR 0 4 5 ?_ ?_ ?_
   ·refine D7.o 0 46 (.agg [.view (.box 15) 2 [] 0]) ?_;refine Ki 4 5 ?_ ?_
    ·refine Mr h 4 [(.slot 1,[.junk])] 50 (fun q4=>(.one (Cj q4))) ?_ rfl (fun q4 gq4=>Ni MV (fun _=>rfl) [(.slot 1,[.junk])] b gq4);intro q4 gq4 h;refine Ki 5 6 ?_ ?_
     ·refine D7.o 5 51 (B v3.2) ?_;refine BT 6 ?_;refine Iy 6 [(.box 15,[.junk])] (.box 6) [CP v3.1.Blocks] ?_;refine BT 7 ?_;refine Hy 7 true [(.slot 50,[.junk])] 7 (.one (Cj q4)) ?_;refine BT 8 ?_;refine D7.o 8 8 (B v3.2) ?_;refine DL ?_;cases h;exact⟨_,rfl,rfl,rfl⟩
     refine Iy 6 [(.box 15,[.junk])] (.box 6) [CP v3.1.Blocks] ?_;refine Ki 5 7 ?_ ?_
     ·refine D7.o 5 51 (B v3.2) ?_;refine BT 7 ?_;refine Hy 7 true [(.slot 50,[.junk])] 7 (.one (Cj q4)) ?_;refine BT 8 ?_;refine D7.o 8 8 (B v3.2) ?_;refine DL ?_;cases h;exact⟨_,rfl,rfl,rfl⟩
     refine Hy 7 true [(.slot 50,[.junk])] 7 (.one (Cj q4)) ?_;refine BT 5 ?_;refine D7.o 5 51 (B v3.2) ?_;refine BT 8 ?_;refine D7.o 8 8 (B v3.2) ?_;refine DL ?_;cases h;exact⟨_,rfl,rfl,rfl⟩
    refine D7.o 5 51 (B v3.2) ?_;refine BT 4 ?_;refine Mr h 4 [(.slot 1,[.junk])] 50 (fun q5=>(.one (Cj q5))) ?_ rfl (fun q5 gq5=>Ni MV (fun _=>rfl) [(.slot 1,[.junk])] b gq5);intro q5 gq5 h;refine BT 6 ?_;refine Iy 6 [(.box 15,[.junk])] (.box 6) [CP v3.1.Blocks] ?_;refine BT 7 ?_;refine Hy 7 true [(.slot 50,[.junk])] 7 (.one (Cj q5)) ?_;refine BT 8 ?_;refine D7.o 8 8 (B v3.2) ?_;refine DL ?_;cases h;exact⟨_,rfl,rfl,rfl⟩
   ·refine Mr h 4 [(.slot 1,[.junk])] 50 (fun q6=>(.one (Cj q6))) ?_ rfl (fun q6 gq6=>Ni MV (fun _=>rfl) [(.slot 1,[.junk])] b gq6);intro q6 gq6 h;refine Ki 0 5 ?_ ?_
    ·refine D7.o 0 46 (.agg [.view (.box 15) 2 [] 0]) ?_;refine Ki 5 6 ?_ ?_
     ·refine D7.o 5 51 (B v3.2) ?_;refine BT 6 ?_;refine Iy 6 [(.box 15,[.junk])] (.box 6) [CP v3.1.Blocks] ?_;refine BT 7 ?_;refine Hy 7 true [(.slot 50,[.junk])] 7 (.one (Cj q6)) ?_;refine BT 8 ?_;refine D7.o 8 8 (B v3.2) ?_;refine DL ?_;cases h;exact⟨_,rfl,rfl,rfl⟩
     refine Iy 6 [(.box 15,[.junk])] (.box 6) [CP v3.1.Blocks] ?_;refine Ki 5 7 ?_ ?_
     ·refine D7.o 5 51 (B v3.2) ?_;refine BT 7 ?_;refine Hy 7 true [(.slot 50,[.junk])] 7 (.one (Cj q6)) ?_;refine BT 8 ?_;refine D7.o 8 8 (B v3.2) ?_;refine DL ?_;cases h;exact⟨_,rfl,rfl,rfl⟩
     refine Hy 7 true [(.slot 50,[.junk])] 7 (.one (Cj q6)) ?_;refine BT 5 ?_;refine D7.o 5 51 (B v3.2) ?_;refine BT 8 ?_;refine D7.o 8 8 (B v3.2) ?_;refine DL ?_;cases h;exact⟨_,rfl,rfl,rfl⟩
    refine D7.o 5 51 (B v3.2) ?_;refine BT 0 ?_;refine D7.o 0 46 (.agg [.view (.box 15) 2 [] 0]) ?_;refine BT 6 ?_;refine Iy 6 [(.box 15,[.junk])] (.box 6) [CP v3.1.Blocks] ?_;refine BT 7 ?_;refine Hy 7 true [(.slot 50,[.junk])] 7 (.one (Cj q6)) ?_;refine BT 8 ?_;refine D7.o 8 8 (B v3.2) ?_;refine DL ?_;cases h;exact⟨_,rfl,rfl,rfl⟩
   refine D7.o 5 51 (B v3.2) ?_;refine Ki 0 4 ?_ ?_
   ·refine D7.o 0 46 (.agg [.view (.box 15) 2 [] 0]) ?_;refine BT 4 ?_;refine Mr h 4 [(.slot 1,[.junk])] 50 (fun q7=>(.one (Cj q7))) ?_ rfl (fun q7 gq7=>Ni MV (fun _=>rfl) [(.slot 1,[.junk])] b gq7);intro q7 gq7 h;refine BT 6 ?_;refine Iy 6 [(.box 15,[.junk])] (.box 6) [CP v3.1.Blocks] ?_;refine BT 7 ?_;refine Hy 7 true [(.slot 50,[.junk])] 7 (.one (Cj q7)) ?_;refine BT 8 ?_;refine D7.o 8 8 (B v3.2) ?_;refine DL ?_;cases h;exact⟨_,rfl,rfl,rfl⟩
   refine Mr h 4 [(.slot 1,[.junk])] 50 (fun q8=>(.one (Cj q8))) ?_ rfl (fun q8 gq8=>Ni MV (fun _=>rfl) [(.slot 1,[.junk])] b gq8);intro q8 gq8 h;refine BT 0 ?_;refine D7.o 0 46 (.agg [.view (.box 15) 2 [] 0]) ?_;refine BT 6 ?_;refine Iy 6 [(.box 15,[.junk])] (.box 6) [CP v3.1.Blocks] ?_;refine BT 7 ?_;refine Hy 7 true [(.slot 50,[.junk])] 7 (.one (Cj q8)) ?_;refine BT 8 ?_;refine D7.o 8 8 (B v3.2) ?_;refine DL ?_;cases h;exact⟨_,rfl,rfl,rfl⟩
  refine D7.o 5 51 (B v3.2) ?_;refine Ki 0 3 ?_ ?_
  ·refine D7.o 0 46 (.agg [.view (.box 15) 2 [] 0]) ?_;refine BT 3 ?_;refine Hy 3 false [] 49 (.one (Cj [(BD.mk 1 v2.1 v2.2.1 v1.1)])) ?_;refine BT 4 ?_;refine Mr h 4 [(.slot 1,[.junk])] 50 (fun q9=>(.one (Cj q9))) ?_ rfl (fun q9 gq9=>Ni MV (fun _=>rfl) [(.slot 1,[.junk])] b gq9);intro q9 gq9 h;refine BT 6 ?_;refine Iy 6 [(.box 15,[.junk])] (.box 6) [CP v3.1.Blocks] ?_;refine BT 7 ?_;refine Hy 7 true [(.slot 50,[.junk])] 7 (.one (Cj q9)) ?_;refine BT 8 ?_;refine D7.o 8 8 (B v3.2) ?_;refine DL ?_;cases h;exact⟨_,rfl,rfl,rfl⟩
  refine Hy 3 false [] 49 (.one (Cj [(BD.mk 1 v2.1 v2.2.1 v1.1)])) ?_;refine Ki 0 4 ?_ ?_
  ·refine D7.o 0 46 (.agg [.view (.box 15) 2 [] 0]) ?_;refine BT 4 ?_;refine Mr h 4 [(.slot 1,[.junk])] 50 (fun q10=>(.one (Cj q10))) ?_ rfl (fun q10 gq10=>Ni MV (fun _=>rfl) [(.slot 1,[.junk])] b gq10);intro q10 gq10 h;refine BT 6 ?_;refine Iy 6 [(.box 15,[.junk])] (.box 6) [CP v3.1.Blocks] ?_;refine BT 7 ?_;refine Hy 7 true [(.slot 50,[.junk])] 7 (.one (Cj q10)) ?_;refine BT 8 ?_;refine D7.o 8 8 (B v3.2) ?_;refine DL ?_;cases h;exact⟨_,rfl,rfl,rfl⟩
  refine Mr h 4 [(.slot 1,[.junk])] 50 (fun q11=>(.one (Cj q11))) ?_ rfl (fun q11 gq11=>Ni MV (fun _=>rfl) [(.slot 1,[.junk])] b gq11);intro q11 gq11 h;refine BT 0 ?_;refine D7.o 0 46 (.agg [.view (.box 15) 2 [] 0]) ?_;refine BT 6 ?_;refine Iy 6 [(.box 15,[.junk])] (.box 6) [CP v3.1.Blocks] ?_;refine BT 7 ?_;refine Hy 7 true [(.slot 50,[.junk])] 7 (.one (Cj q11)) ?_;refine BT 8 ?_;refine D7.o 8 8 (B v3.2) ?_;refine DL ?_;cases h;exact⟨_,rfl,rfl,rfl⟩
 intro j2 h E hE;refine AY hE ?_;change Wp _ _ _ (Ts v3 j2) _;cases h;exact Wp.ret ⟨.inr rfl,_,_,rfl,(ACU (La.c (ACV (tR.c (vN.s (Fd _)) zV)) (La.c iE (La.c iE iD))))⟩
theorem j9 (xR:Df) (r:ByteArray×Bool) (h:PN xR=some r):AW Tryz.prog 158 [.sv (.agg (c99 xR))] (.tup [(Y r.1),(B r.2)]) (rg 1):=by
 refine gk Tryz.func158 rfl Tryz.ntmps158 (ws (gn 3 0 (Wp.seq (ws (Ai 1 0 (RW.c 0 h (SI _) (fun v1 gv1 h=>gn 1 0 (wc h (fun h=>?_) (fun h=>?_)))))))))
 ·exact ws (gn 2 0 (Wp.ret (rr h▸rq)))
 exact Wp.skip (Wp.seq (DZ [] mixed (fun c E h=>by rcases h with⟨h|h,_⟩<;>cases h) (Bl [0,1,2,3,4,5,7,8,11,12] 0 (B8 6 (KB.c 0 h (T1 _) (fun v2 gv2 h=>B8 9 (KB.c 0 h (Iq _) (fun v3 gv3 h=>bd h fun x1 gx1 h=>KW.q 10 (OL gx1) (B8 13 (KB.c 0 h (Iq _) (fun v4 gv4 h=>bd h fun x2 gx2 h=>KW.q 14 (OL gx2) (Bl [15,16] 0 (Bk (Wp.ret (rr h▸rq)))))))))))))))
def cK (b:Int) (c:Int) (a:List Df) (z1:List ByteArray) (z2:Int):St:=A9 [(0,(I b)),(1,(I c)),(2,(.one (lP a))),(8,(.one (fC []))),(9,(.one (ot9 z1))),(10,(I z2))] []
def cJ (a:Int) (b:Int) (z3:List ByteArray):St:=A9 [(0,(I a)),(1,(I b)),(8,(.one (fC []))),(9,(.one (ot9 z3)))] []
def cI (a:Int) (b:Int) (v2:List ByteArray) (z4:Bool):St:=A9 [(0,(I a)),(1,(I b)),(8,(.one (fC []))),(9,(.one (ot9 v2))),(76,(B z4))] []
def cH (a:Int) (b:Int) (v2:List ByteArray) (z5:List Page) (z6:Int):St:=A9 [(0,(I a)),(1,(I b)),(9,(.one (ot9 v2))),(14,(.one (fC z5))),(15,(I z6))] []
def cG (z7:List Page):St:=A9 [(14,(.one (fC z7)))] []
theorem jW (b:Int) (f:Int) (d:List Df) (r:List Page×Bool) (h:Nj b f d=some r):AW Tryz.prog 131 [.sv (I b),.sv (I f),.sv (.one (lP d))] (.tup [(.one (fC r.1)),(B r.2)]) (rg 3):=by
 refine gk Tryz.func131 rfl Tryz.ntmps131 (ws (gw 2 0 (gw 2 2 (gn 2 2 (Wp.seq (ws (gn 1 0 (ED h [0,1,2,8,9,10] [] (fun s=>(cK b f d s.1 s.2)) [0,1,8,9] [] (fun s=>(cJ b f s)) EC ?_ ?_))))))))
 ·rintro⟨e,i⟩ o (h:H5 d e i=some o) hk1;refine Wp.seq (ws (Ai 2 0 (RW.q (Dr WR d) (gn 1 0 (wc h (fun h=>?_) (fun h=>?_))))))
  ·refine Wp.skip (Wp.seq (Wp.block (ws (Ai 2 0 (CS WR h (fun x1 gx1 h=>RW.q (Re WR gx1 0 4) (RW.c 0 h (j9 _) (fun v1 gv1 h=>gn 5 1 (Wp.seq (ws (gn 2 0 (wc h (fun h=>?_) (fun h=>?_)))))))))))))
   ·exact ws (gn 3 2 (Wp.ret (rr (jo h hk1)▸rq)))
   refine Wp.skip (ws (Ai 1 0 (RW.q (Dr k9 e) (gw 2 0 (Ai 2 0 (CS k9 h (fun x2 gx2 h=>RW.q (CA k9 gx2 0) (gn 5 0 (wc h (fun h=>?_) (fun h=>?_))))))))))
   ·exact Au (Ai 3 0 (bd h fun q1 gq1 h=>CR (DK k9 (fun _=>rfl) e gq1) (gn 1 1 (Au (gn 3 0 (jl h))))))
   exact Au (Ai 4 0 (CS k9 h (fun x3 gx3 h=>RW.q (CA k9 gx3 0) (Ai 1 0 (bd h fun x4 gx4 h=>RW.q (OL gx4) (CS k9 h (fun x5 gx5 h=>CR (N2 k9 gx5 0 0 x4) (RW.nil (Au (gn 3 0 (jl h)))))))))))
  exact Wp.exit (jx h)
 intro v2 h E hE;refine AY hE (Wp.seq (FD h [0,1,8,9,76] [] (fun a=>(cI b f v2 a)) (fun a h=>?_) (fun j1 h=>?_)))
 ·refine Au (Ai 1 0 (RW.q (Dr k9 v2) (Ai 2 0 (AO 63 h (fun h=>?_) (fun h=>?_)))))
  ·exact gn 13 0 (jn h)
  refine Ai 2 0 (RW.q (Dr k9 v2) (Ai 2 0 (RW.c 0 h (BL _ _ _) (fun v3 gv3 h=>Ai 3 0 (AO 72 h (fun h=>?_) (fun h=>?_))))))
  ·exact gn 4 0 (jn h)
  exact Ai 1 0 (RW.c 0 h (BL _ _ _) (fun v4 gv4 h=>gn 2 0 (jn h)))
 refine wc h (fun h=>?_) (fun h=>?_)
 ·exact ws (gn 3 2 (Wp.ret (rr h▸rq)))
 refine Wp.skip (ws (gn 2 2 (Wp.seq (ws (gn 1 0 (BM h [0,1,9,14,15] [] (fun s=>(cH b f v2 s.1 s.2)) [14] [] (fun s=>(cG s)) EC ?_ ?_))))))
 ·rintro⟨g,j⟩ o (h:H4 b f v2 g j=some o);refine Wp.seq (ws (Ai 2 0 (RW.q (Dr k9 v2) (gn 1 0 (wc h (fun h=>?_) (fun h=>?_))))))
  ·exact Wp.skip (Wp.seq (Wp.block (Au (Ai 7 0 (RW.q (Dr k9 v2) (Ai 2 0 (CS k9 h (fun x6 gx6 h=>RW.q (CA k9 gx6 0) (Ai 2 0 (bd h fun q2 gq2 h=>CR (DK k52 (fun _=>rfl) g gq2) (gn 1 1 (Au (gn 3 0 (jl h))))))))))))))
  exact Wp.exit (jv h)
 intro v5 h E hE;exact AY hE (ws (gn 3 2 (Wp.ret (rr h▸rq))))
def Uj (xD:AE) (a:List Df) (z1:List BD) (z2:Int) (z3:Bool) (z4:List Block):St:=A9 [(1,(.one (lP a))),(3,(pb 3)),(8,(.one (Cj z1))),(9,(pb 9)),(10,(I z2)),(11,(B z3))] [(.box 3,[CQ xD.Flash.Blocks,DG xD.Store.Vols,BI xD.Store.Arena.Knots,i6 xD.Store.Next,i6 xD.Seq,i6 xD.Tx,i6 xD.Base]),(.box 9,[CQ z4])]
def Ui (xD:AE) (a:List Df) (z5:List BD) (z6:Bool) (z7:List Block):St:=A9 [(1,(.one (lP a))),(3,(pb 3)),(8,(.one (Cj z5))),(9,(pb 9)),(10,(I xD.Seq)),(11,(B z6))] [(.box 3,[CQ xD.Flash.Blocks,DG xD.Store.Vols,BI xD.Store.Arena.Knots,i6 xD.Store.Next,i6 xD.Seq,i6 xD.Tx,i6 xD.Base]),(.box 9,[CQ z7])]
def Ug (v2:List Page×Bool) (z8:List BD) (z9:Bool) (z10:Int) (z11:List Block):St:=A9 [(8,(.one (Cj z8))),(9,(pb 9)),(11,(B z9)),(12,(.one (fC v2.1))),(13,(B v2.2)),(14,(I z10))] [(.box 9,[CQ z11])]
def Uf (v2:List Page×Bool) (z12:List BD) (z13:Bool):St:=A9 [(8,(.one (Cj z12))),(11,(B z13)),(13,(B v2.2))] []
def Ue (v2:List Page×Bool) (a:List BD) (b:Bool) (d:Int) (c:List Block) (z14:Bool):St:=A9 [(8,(.one (Cj a))),(9,(pb 9)),(11,(B b)),(12,(.one (fC v2.1))),(13,(B v2.2)),(14,(I d)),(59,(B z14))] [(.box 9,[CQ c])]
def Ud (v2:List Page×Bool) (a:Int) (z15:List BD) (z16:Bool) (z17:List Block):St:=A9 [(8,(.one (Cj z15))),(9,(pb 9)),(11,(B z16)),(12,(.one (fC v2.1))),(13,(B v2.2)),(14,(I a))] [(.box 9,[CQ z17])]
def Uc (v4:List BD×Bool) (z18:Bool):St:=A9 [(8,(.one (Cj v4.1))),(78,(B z18))] []
set_option maxHeartbeats 4000000 in
theorem Pf (xD:AE) (b:List Df) (e:ByteArray) (r:List BD×Bool) (h:E7 xD b e=some r):AW Tryz.prog 100 [.sv (.agg (Tg false xD)),.sv (.one (lP b)),.sv (Y e)] (.tup [(.one (Cj r.1)),(B r.2)]) (rg 3):=by
 refine gk Tryz.func100 rfl Tryz.ntmps100 (ws (gw 3 0 (gn 2 2 (Wp.seq (ws (Ai 1 0 (RW.q (Dr WR b) (gn 1 0 (wc h (fun h=>?_) (fun h=>?_))))))))))
 ·exact ws (gn 3 2 (Wp.ret (rr h▸rq)))
 refine Wp.skip (ws (gw 4 0 (gw 3 0 (gn 1 0 (Wp.seq (ws (gn 2 0 (Gd h [1,3,8,9,10,11] [.box 3,.box 9] (fun a=>(Uj xD b a.1 a.2.1 a.2.2.1 a.2.2.2)) ?_ ?_))))))))
 ·intro a h;refine wc h (fun h=>?_) (fun h=>?_)
  ·refine FD h [1,3,8,9,10,11] [.box 3,.box 9] (fun a=>(Ui xD b a.1 a.2.1 a.2.2)) (fun a h=>?_) (fun j2 h=>?_)
   ·exact DZ [12,17] mixed (fun c E h=>by rcases h with⟨h|h,_⟩<;>cases h) (Bl [0,1,2,3,4] 0 (KW.q 5 (Dr WR b) (Bl [6] 0 (bd h fun x1 gx1 h=>KW.q 7 (IR WR gx1) (KW.q 8 (D8 WR gx1 0 3) (KW.q 9 (CA WR gx1 3) (Bl [10,11] 0 (B8 12 (KB.c 2 h (QG _ _ _) (fun v1 gv1 h=>Bl [13] 1 (oj [18] h)))))))))))
   exact Au (gn 3 0 (jn h))
  exact Wp.skip (jn h)
 intro j1 h E hE;refine AY hE (ws (Ai 4 0 (RW.c 0 h (jW _ _ _) (fun v2 gv2 h=>gn 5 9 (Wp.seq (ws (gn 1 0 (BM h [8,9,11,12,13,14] [.box 9] (fun s=>(Ug v2 s.1 s.2.1 s.2.2.1 s.2.2.2)) [8,11,13] [] (fun s=>(Uf v2 s.1 s.2)) EC ?_ ?_))))))))
 ·rintro⟨d,f,i,g⟩ o (h:Fg v2 d f i g=some o);refine Wp.seq (FD h [8,9,11,12,13,14,59] [.box 9] (fun a=>(Ue v2 d f i g a)) (fun a h=>?_) (fun j3 h=>?_))
  ·refine Au (Ai 2 0 (RW.q (Dr k52 v2.1) (Ai 2 0 (AO 57 h (fun h=>?_) (fun h=>?_)))))
   ·exact gn 2 0 (jn h)
   exact gn 2 0 (jn h)
  refine wc h (fun h=>?_) (fun h=>?_)
  ·refine Wp.skip (Wp.seq (Wp.block (Gd h [8,9,11,12,13,14] [.box 9] (fun a=>(Ud v2 i a.1 a.2.1 a.2.2)) ?_ ?_)))
   ·intro a h;exact DZ [6,11] mixed (fun c E h=>by rcases h with⟨h|h,_⟩<;>cases h) (Bl [0,1,2,3] 0 (bd h fun x2 gx2 h=>KW.q 4 (IR k52 gx2) (KW.q 5 (Re k52 gx2 0 6) (B8 6 (KB.c 2 h (QG _ _ _) (fun v3 gv3 h=>Bl [7] 1 (oj [12] h)))))))
   intro j4 h E hE;exact AY hE (Au (gn 3 0 (jl h)))
  exact Wp.exit (jv h)
 intro v4 h E hE;refine AY hE (Wp.seq (FD h [8,78] [] (fun a=>(Uc v4 a)) (fun a h=>?_) (fun j5 h=>?_)))
 ·refine Au (Ai 3 0 (AO 75 h (fun h=>?_) (fun h=>?_)))
  ·exact gn 3 0 (jn h)
  exact gn 3 0 (jn h)
 refine wc h (fun h=>?_) (fun h=>?_)
 ·exact ws (gn 3 2 (Wp.ret (rr h▸rq)))
 exact Wp.skip (ws (gn 3 2 (Wp.ret (rr h▸rq))))
theorem YM (xD:AE) (r:List BD×Bool) (h:Ph xD=some r):AW Tryz.prog 153 [.sv (.agg (Tg false xD))] (.tup [(.one (Cj r.1)),(B r.2)]) (rg 1):=by
 exact gk Tryz.func153 rfl Tryz.ntmps153 (ws (gn 3 0 (Wp.seq (DZ [] mixed (fun c E h=>by rcases h with⟨h|h,_⟩<;>cases h) (Bl [0,1,2] 0 (B8 3 (KB.c 0 h (eP _) (fun v1 gv1 h=>B8 4 (KB.c 0 h (gs (ca rfl (ca (co (cs (ACr _))) rfl)) (Pf _ _ _)) (fun v2 gv2 h=>Mq 5 (Mq 6 (Bl [7,8] 0 (Bk (Wp.ret (rr h▸rq)))))) (hc:=(.inr (fun v=>by simp [BE,BP,AT,BB,zM,Cj]))))))))))))
def Yd (xD:AE) (v1:List Ak) (v3:List Bool) (v4:List Bool) (z1:Int) (z2:Int) (z3:Int):St:=A9 [(1,(pb 1)),(3,(.one (Fz v1))),(5,(.one (OP v3))),(6,(.one (OP v4))),(7,(I z1)),(8,(I z2)),(9,(I z3))] [(.box 1,[CQ xD.Flash.Blocks,DG xD.Store.Vols,BI xD.Store.Arena.Knots,i6 xD.Store.Next,i6 xD.Seq,i6 xD.Tx,i6 xD.Base])]
def Yc (z4:Int):St:=A9 [(7,(I z4))] []
def Yb (xD:AE) (v1:List Ak) (v3:List Bool) (v4:List Bool) (b:Int) (a:Int) (c:Int) (v5:Int) (z5:Bool):St:=A9 [(1,(pb 1)),(3,(.one (Fz v1))),(5,(.one (OP v3))),(6,(.one (OP v4))),(7,(I b)),(8,(I a)),(9,(I c)),(11,(I v5)),(68,(B z5))] [(.box 1,[CQ xD.Flash.Blocks,DG xD.Store.Vols,BI xD.Store.Arena.Knots,i6 xD.Store.Next,i6 xD.Seq,i6 xD.Tx,i6 xD.Base])]
theorem cE (xD:AE) (r:Int) (h:NT xD=some r):AW Tryz.prog 154 [.sv (.agg (Tg false xD))] (I r) (rg 1):=by
 refine gk Tryz.func154 rfl Tryz.ntmps154 (ws (gw 2 0 (Ai 2 0 (RW.c 0 h (Hl _) (fun v1 gv1 h=>gw 1 1 (Ai 2 0 (RW.c 0 h (LV _) (fun v2 gv2 h=>gw 1 1 (Ai 4 0 (RW.c 0 h (gs (ca (co (cs (V5 _))) (ca (co (cs (iO _))) rfl)) (Ko _ _ _)) (fun v3 gv3 h=>gw 1 1 (Ai 2 0 (RW.c 0 h (gs (ca (co (cs (V5 _))) (ca (co (cs (iO _))) rfl)) (Ko _ _ _)) (fun v4 gv4 h=>gw 1 1 (gw 1 0 (gn 1 0 (Wp.seq (ws (gn 1 0 (BM h [1,3,5,6,7,8,9] [.box 1] (fun s=>(Yd xD v1 v3 v4 s.1 s.2.1 s.2.2)) [7] [] (fun s=>(Yc s)) EC ?_ ?_))))))) (hc:=(.inr (fun v=>by simp [BE,BP,AT,BB,ns4,OP])))))) (hc:=(.inr (fun v=>by simp [BE,BP,AT,BB,ns4,OP])))))))))))))
 ·rintro⟨d,b,e⟩ o (h:GD xD v1 v3 v4 d b e=some o);refine Wp.seq (ws (Ai 4 0 (RW.q (Dr (EV false) xD.Flash.Blocks) (gn 1 0 (wc h (fun h=>?_) (fun h=>?_))))))
  ·refine Wp.skip (Wp.seq (Wp.block (ws (Ai 4 0 (CS (EV false) h (fun x1 gx1 h=>RW.q (Re (EV false) gx1 0 3) (gw 2 0 (Ai 3 0 (RW.c 0 h (gs (ca (co (cs (V5 _))) (ca (co (cs (sh4 _))) rfl)) (S9 _ _ _)) (fun v5 gv5 h=>gn 1 0 (FD h [1,3,5,6,7,8,9,11,68] [.box 1] (fun a=>(Yb xD v1 v3 v4 d b e v5 a)) (fun a h=>?_) (fun j1 h=>?_))) (hc:=(.inr (fun v=>rfl))))))))))))
   ·refine Au (Ai 4 0 (AO 47 h (fun h=>?_) (fun h=>?_)))
    ·refine Ai 1 0 (RW.c 0 h (MS _) (fun v6 gv6 h=>Ai 3 0 (AO 52 h (fun h=>?_) (fun h=>?_))))
     ·refine Ai 4 0 (RW.c 0 h (gs (ca (co (cs (V5 _))) (ca (co (cs (sh4 _))) rfl)) (S9 _ _ _)) (fun v7 gv7 h=>Ai 3 0 (AO 60 h (fun h=>?_) (fun h=>?_))) (hc:=(.inr (fun v=>rfl))))
      ·refine Ai 4 0 (AO 64 h (fun h=>?_) (fun h=>?_))
       ·exact gn 4 0 (jn h)
       exact gn 4 0 (jn h)
      exact gn 8 0 (jn h)
     exact gn 16 0 (jn h)
    exact gn 21 0 (jn h)
   refine wc h (fun h=>?_) (fun h=>?_)
   ·exact ws (gn 2 0 (Au (gn 2 0 (Au (gn 3 0 (jl h))))))
   exact Wp.skip (Au (gn 3 0 (jl h)))
  exact Wp.exit (jv h)
 intro v8 h E hE;exact AY hE (ws (gn 2 0 (Wp.ret (rr h▸rq))))
def Wx (xB:Int) (v1:List Ak) (v3:List Bool) (z1:List BD) (z2:Int) (z3:Int) (z4:List Block):St:=A9 [(1,(I xB)),(6,(.one (Fz v1))),(7,(.one (OP v3))),(8,(.one (Cj z1))),(9,(pb 9)),(10,(I z2)),(11,(I z3))] [(.box 9,[CQ z4])]
def Ww (z5:List BD):St:=A9 [(8,(.one (Cj z5)))] []
def Wv (xB:Int) (v1:List Ak) (v3:List Bool) (a:Int) (z6:List BD) (z7:Int) (z8:Int) (z9:List Block):St:=A9 [(1,(I xB)),(6,(.one (Fz v1))),(7,(.one (OP v3))),(8,(.one (Cj z6))),(9,(pb 9)),(10,(I z7)),(11,(I a)),(12,(I z8))] [(.box 9,[CQ z9])]
def Wu (xB:Int) (v1:List Ak) (v3:List Bool) (a:Int) (z10:List BD) (z11:Int) (z12:List Block):St:=A9 [(1,(I xB)),(6,(.one (Fz v1))),(7,(.one (OP v3))),(8,(.one (Cj z10))),(9,(pb 9)),(10,(I z11)),(11,(I a))] [(.box 9,[CQ z12])]
def Wt (xB:Int) (v1:List Ak) (v3:List Bool) (b:Int) (a:List BD) (c:Int) (e:Int) (d:List Block) (z13:Bool):St:=A9 [(1,(I xB)),(6,(.one (Fz v1))),(7,(.one (OP v3))),(8,(.one (Cj a))),(9,(pb 9)),(10,(I c)),(11,(I b)),(12,(I e)),(62,(B z13))] [(.box 9,[CQ d])]
def Ws (xB:Int) (v1:List Ak) (v3:List Bool) (a:Int) (b:Int) (d:Int) (c:List Block) (v4:Flash×List BD×Bool) (z14:Bool):St:=A9 [(1,(I xB)),(6,(.one (Fz v1))),(7,(.one (OP v3))),(9,(pb 9)),(10,(I b)),(11,(I a)),(12,(I d)),(14,(pb 14)),(15,(.one (Cj v4.2.1))),(90,(B z14))] [(.box 9,[CQ c]),(.box 14,[CQ v4.1.Blocks])]
theorem Y2 (xD:AE) (xB:Int) (r:List BD×Bool) (h:K3 xD xB=some r):AW Tryz.prog 155 [.sv (.agg (Tg false xD)),.sv (I xB)] (.tup [(.one (Cj r.1)),(B r.2)]) (rg 2):=by
 refine gk Tryz.func155 rfl Tryz.ntmps155 (ws (gw 3 0 (Ai 2 0 (RW.c 0 h (Hl _) (fun v1 gv1 h=>gw 1 1 (Ai 3 0 (RW.c 0 h (LV _) (fun v2 gv2 h=>RW.c 0 h (gs (ca (co (cs (V5 _))) (ca (co (cs (iO _))) rfl)) (Ko _ _ _)) (fun v3 gv3 h=>gw 1 1 (gw 2 2 (gw 4 0 (gn 3 0 (Wp.seq (ws (gn 1 0 (ED h [1,6,7,8,9,10,11] [.box 9] (fun s=>(Wx xB v1 v3 s.1 s.2.1 s.2.2.1 s.2.2.2)) [8] [] (fun s=>(Ww s)) EC ?_ ?_)))))))) (hc:=(.inr (fun v=>by simp [BE,BP,AT,BB,ns4,OP])))))))))))
 ·rintro⟨f,i,b,k⟩ o (h:FV xB v1 v3 f i b k=some o) hk1;refine Wp.seq (ws (gn 2 0 (wc h (fun h=>?_) (fun h=>?_))))
  ·refine Wp.skip (Wp.seq (Wp.block (ws (gn 1 0 (ED h [1,6,7,8,9,10,11,12] [.box 9] (fun s=>(Wv xB v1 v3 b s.1 s.2.1 s.2.2.1 s.2.2.2)) [1,6,7,8,9,10,11] [.box 9] (fun s=>(Wu xB v1 v3 b s.1 s.2.1 s.2.2)) EC ?_ ?_)))))
   ·rintro⟨d,e,j,g⟩ o (h:FU xB v1 v3 b d e j g=some o) hk2;refine Wp.seq (ws (Ai 2 0 (RW.q (Dr Ex v1) (gn 1 0 (wc h (fun h=>?_) (fun h=>?_))))))
    ·refine Wp.skip (Wp.seq (Wp.block (Wp.seq (FD h [1,6,7,8,9,10,11,12,62] [.box 9] (fun a=>(Wt xB v1 v3 b d e j g a)) (fun a h=>?_) (fun j1 h=>?_)))))
     ·refine Au (Ai 2 0 (CS k4 h (fun x1 gx1 h=>RW.q (CA k4 gx1 0) (Ai 2 0 (AO 45 h (fun h=>?_) (fun h=>?_))))))
      ·exact gn 17 0 (jn h)
      refine Ai 2 0 (CS Ex h (fun x2 gx2 h=>RW.q (D8 Ex gx2 0 0) (RW.q (CA Ex gx2 0) (Ai 4 0 (AO 54 h (fun h=>?_) (fun h=>?_))))))
      ·exact gn 8 0 (jn h)
      exact Ai 2 0 (CS Ex h (fun x3 gx3 h=>RW.q (D8 Ex gx3 0 1) (RW.q (CA Ex gx3 1) (gn 3 0 (jn h)))))
     refine wc h (fun h=>?_) (fun h=>?_)
     ·exact Wp.exit (Au (gn 3 0 (jl h)))
     refine Wp.skip (ws (Ai 2 0 (CS Ex h (fun x4 gx4 h=>RW.q (D8 Ex gx4 0 2) (RW.q (Re Ex gx4 2 6) (gw 2 0 (gw 3 0 (Ai 3 0 (RW.c 2 h (QG _ _ _) (fun v4 gv4 h=>gn 8 65 (Wp.seq (FD h [1,6,7,9,10,11,12,14,15,90] [.box 9,.box 14] (fun a=>(Ws xB v1 v3 b e j g v4 a)) (fun a h=>?_) (fun j2 h=>?_)))))))))))))
     ·refine Au (Ai 3 0 (AO 80 h (fun h=>?_) (fun h=>?_)))
      ·exact gn 10 0 (jn h)
      exact Ai 2 0 (RW.q (Dr MV v4.2.1) (Ai 1 0 (CS MV h (fun x5 gx5 h=>RW.q (D8 MV gx5 0 1) (RW.q (CA MV gx5 1) (gn 3 0 (jn h)))))))
     refine wc h (fun h=>?_) (fun h=>?_)
     ·exact ws (gn 3 2 (Wp.ret (rr (jo (jo h hk2) hk1)▸rq)))
     exact Wp.skip (ws (gw 2 0 (gn 2 2 (Au (gn 3 0 (Au (gn 3 0 (jl h))))))))
    exact Wp.exit (jx h)
   intro v5 h E hE;exact AY hE (Au (gn 3 0 (jl h)))
  exact Wp.exit (jx h)
 intro v6 h E hE;exact AY hE (ws (gn 3 2 (Wp.ret (rr h▸rq))))
theorem eN (xD:AE) (r:List BD×Bool) (h:Oa xD=some r):AW Tryz.prog 129 [.sv (.agg (Tg false xD))] (.tup [(.one (Cj r.1)),(B r.2)]) (rg 1):=by
 refine gk Tryz.func129 rfl Tryz.ntmps129 (ws (gw 3 0 (Ai 1 0 (RW.c 0 h (W3 _) (fun v1 gv1 h=>gn 1 1 (Wp.seq (ws (Ai 1 0 (RW.q (Dr k3 v1) (gn 1 0 (wc h (fun h=>?_) (fun h=>?_))))))))))))
 ·exact ws (Ai 1 0 (CS k3 h (fun x1 gx1 h=>RW.q (CA k3 gx1 0) (gn 4 4 (Wp.ret (rr h▸rq))))))
 refine Wp.skip (Wp.seq (ws (Ai 1 0 (RW.c 0 h (bQ _) (fun v2 gv2 h=>gn 1 0 (wc h (fun h=>?_) (fun h=>?_)))))))
 ·exact ws (Ai 1 0 (RW.c 0 h (YM _) (fun v3 gv3 h=>gn 4 4 (Wp.ret (rr h▸rq)))))
 refine Wp.skip (ws (Ai 1 0 (RW.c 0 h (cE _) (fun v4 gv4 h=>gn 1 0 (Wp.seq (ws (gn 2 0 (wc h (fun h=>?_) (fun h=>?_)))))))))
 ·exact ws (gn 3 2 (Wp.ret (rr h▸rq)))
 exact Wp.skip (ws (Ai 2 0 (RW.c 0 h (Y2 _ _) (fun v5 gv5 h=>gn 4 4 (Wp.ret (rr h▸rq))))))
def eJ (a:List BD) (z1:Int) (z2:List Block):St:=A9 [(1,(.one (lS a))),(4,(pb 4)),(6,(pb 6)),(7,(I z1))] [(.box 4,[CP []]),(.box 6,[CP z2])]
def eI (a:List BD) (z3:List Block):St:=A9 [(1,(.one (lS a))),(4,(pb 4)),(6,(pb 6))] [(.box 4,[CP []]),(.box 6,[CP z3])]
def eH (b:List BD) (c:Int) (a:List Block) (z4:Bool) (z5:List Block):St:=A9 [(1,(.one (lS b))),(4,(pb 4)),(6,(pb 6)),(7,(I c)),(8,(pb 8)),(9,(B z4))] [(.box 4,[CP []]),(.box 6,[CP a]),(.box 8,[CP z5])]
theorem kY (xF:Flash) (b:List BD) (r:Flash×Int) (h:L7 xF b=some r):AW Tryz.prog 132 [.sv (.agg (Sp false xF)),.sv (.one (lS b))] (.tup [(.agg (Sp true r.1)),(I r.2)]) (rg 2):=by
 refine gk Tryz.func132 rfl Tryz.ntmps132 (ws (gw 3 0 (Ai 1 0 (RW.c 0 h (I4 _) (fun v1 gv1 h=>gn 2 0 (Wp.seq (ws (gn 1 0 (ED h [1,4,6,7] [.box 4,.box 6] (fun s=>(eJ b s.1 s.2)) [1,4,6] [.box 4,.box 6] (fun s=>(eI b s)) EC ?_ ?_)))))))))
 ·rintro⟨e,d⟩ o (h:Fx b e d=some o) hk1;refine Wp.seq (ws (Ai 2 0 (RW.q (Dr MV b) (gn 1 0 (wc h (fun h=>?_) (fun h=>?_))))))
  ·refine Wp.skip (Wp.seq (Wp.block (FD h [1,4,6,7,8,9] [.box 4,.box 6,.box 8] (fun a=>(eH b e d a.1 a.2)) (fun a h=>?_) (fun j1 h=>?_))))
   ·refine DZ [10] mixed (fun c E h=>by rcases h with⟨h|h,_⟩<;>cases h) (Bl [0,1,2] 0 (bd h fun x1 gx1 h=>KW.q 3 (IR MV gx1) (KW.q 4 (Re MV gx1 0 4) (DW 5 9 ?_ ?_))))
    ·exact KB.c 0 h (gs (ca (iQ (ca (cs (Fd _)) rfl)) rfl) (QI _ _)) (fun v3 gv3 h=>oj [6] h) (hc:=(.inr (fun v=>by simp [BE,BP,AT,BB,vG,CP,Sp])))
    exact KB.o false (B8 5 (KB.c 0 h (gs (ca (iQ (ca (cs (Fd _)) rfl)) rfl) (QI _ _)) (fun v4 gv4 h=>Bl [6] 1 (Mq 7 (oj [] h))) (hc:=(.inr (fun v=>by simp [BE,BP,AT,BB,vG,CP,Sp])))))
   refine Wp.seq (ws (gn 2 0 (wc h (fun h=>?_) (fun h=>?_))))
   ·exact ws (gn 4 0 (Wp.ret (rr (jo h hk1)▸rq)))
   exact Wp.skip (Au (gn 2 0 (Au (gn 3 0 (jl h)))))
  exact Wp.exit (jx h)
 intro v5 h E hE;exact AY hE (ws (Ai 2 0 (RW.q (Dr MV b) (gn 2 0 (Wp.ret (rr h▸rq))))))
theorem R3 (xD:AE) (a:List BD) (r:AE) (h:Hj xD a=some r):AW Tryz.prog 101 [.sv (.agg (Tg false xD)),.sv (.one (lS a))] (.agg (Tg true r)) (rg 2):=by
 exact gk Tryz.func101 rfl Tryz.ntmps101 (ws (gw 2 0 (Ai 3 0 (RW.c 0 h (kY _ _) (fun v1 gv1 h=>gw 6 1 (Ai 1 0 (RW.c 0 h (gs (ca (iQ (ca (cs (Fd _)) rfl)) rfl) (NV _)) (fun v2 gv2 h=>gw 6 1 (gn 2 0 (Wp.ret (rr h▸rq)))) (hc:=(.inr (fun v=>by simp [BE,BP,AT,BB,YS,vG,KY,CZ,CP,Bx,Tg]))))))))))
def YL (a:Int) (z1:List BD) (z2:Int) (z3:List Block) (z4:List Vol) (z5:List BU) (z6:Int) (z7:Int) (z8:Int) (z9:Int):St:=A9 [(1,(I a)),(4,(pb 4)),(6,(pb 6)),(7,(.one (Cj z1))),(8,(I z2))] [(.box 4,[CP [],CZ [],Bx [],i6 0,i6 0,i6 0,i6 0]),(.box 6,[CP z3,CZ z4,Bx z5,i6 z6,i6 z7,i6 z8,i6 z9])]
def YK (z10:List BD) (z11:List Block) (z12:List Vol) (z13:List BU) (z14:Int) (z15:Int) (z16:Int) (z17:Int):St:=A9 [(4,(pb 4)),(6,(pb 6)),(7,(.one (Cj z10)))] [(.box 4,[CP [],CZ [],Bx [],i6 0,i6 0,i6 0,i6 0]),(.box 6,[CP z11,CZ z12,Bx z13,i6 z14,i6 z15,i6 z16,i6 z17])]
def YJ (h:Int) (i:List BD) (j:Int) (a:List Block) (b:List Vol) (c:List BU) (d:Int) (e:Int) (f:Int) (g:Int) (z18:Bool):St:=A9 [(1,(I h)),(4,(pb 4)),(6,(pb 6)),(7,(.one (Cj i))),(8,(I j)),(26,(B z18))] [(.box 4,[CP [],CZ [],Bx [],i6 0,i6 0,i6 0,i6 0]),(.box 6,[CP a,CZ b,Bx c,i6 d,i6 e,i6 f,i6 g])]
theorem eO (xD:AE) (b:Int) (r:AE×List BD) (h:LX xD b=some r):AW Tryz.prog 99 [.sv (.agg (Tg false xD)),.sv (I b)] (.tup [(.agg (Tg true r.1)),(.one (Cj r.2))]) (rg 2):=by
 refine gk Tryz.func99 rfl Tryz.ntmps99 (ws (gw 3 0 (Ai 1 0 (RW.c 0 h (Tv _) (fun v1 gv1 h=>gw 2 0 (gn 2 2 (Wp.seq (ws (gn 1 0 (ED h [1,4,6,7,8] [.box 4,.box 6] (fun s=>(YL b s.1 s.2.1 s.2.2.1 s.2.2.2.1 s.2.2.2.2.1 s.2.2.2.2.2.1 s.2.2.2.2.2.2.1 s.2.2.2.2.2.2.2.1 s.2.2.2.2.2.2.2.2)) [4,6,7] [.box 4,.box 6] (fun s=>(YK s.1 s.2.1 s.2.2.1 s.2.2.2.1 s.2.2.2.2.1 s.2.2.2.2.2.1 s.2.2.2.2.2.2.1 s.2.2.2.2.2.2.2)) EC ?_ ?_))))))))))
 ·rintro⟨d,m,e,f,g,i,j,k,l⟩ o (h:GH b d m e f g i j k l=some o) hk1;refine Wp.seq (FD h [1,4,6,7,8,26] [.box 4,.box 6] (fun a=>(YJ b d m e f g i j k l a)) (fun a h=>?_) (fun j1 h=>?_))
  ·refine Au (Ai 4 0 (AO 17 h (fun h=>?_) (fun h=>?_)))
   ·refine Ai 4 0 (AO 21 h (fun h=>?_) (fun h=>?_))
    ·exact Ai 2 0 (RW.c 0 h (gs (ca (iQ (ca (cs (Fd _)) rfl)) rfl) (QH _)) (fun v2 gv2 h=>gn 2 0 (jn h)) (hc:=(.inr (fun v=>rfl))))
    exact gn 5 0 (jn h)
   exact gn 9 0 (jn h)
  refine wc h (fun h=>?_) (fun h=>?_)
  ·refine Wp.skip (Wp.seq (Wp.block (ws (Ai 1 0 (RW.c 0 h (gs (ca (iQ (ca (cs (Fd _)) (ca (cs (Fe _)) (ca (cs (Dh _)) rfl)))) rfl) (eN _)) (fun v3 gv3 h=>gn 5 9 (Wp.seq (ws (gn 2 0 (wc h (fun h=>?_) (fun h=>?_)))))) (hc:=(.inr (fun v=>by simp [BE,BP,AT,BB,zM,Cj]))))))))
   ·exact ws (gn 4 8 (Wp.ret (rr (jo h hk1)▸rq)))
   exact Wp.skip (ws (Ai 2 0 (RW.c 0 h (gs (ca (iQ (ca (cs (Fd _)) (ca (cs (Fe _)) (ca (cs (Dh _)) rfl)))) (ca (co (cs (ABZ _))) rfl)) (R3 _ _)) (fun v4 gv4 h=>gn 1 0 (Au (Ai 2 0 (bd h fun q1 gq1 h=>CR (DK MV (fun _=>rfl) d gq1) (gn 1 1 (Au (gn 3 0 (jl h)))))))) (hc:=(.inr (fun v=>by simp [BE,BP,AT,BB,YS,vG,KY,CZ,CP,Bx,Tg]))))))
  exact Wp.exit (jx h)
 intro v5 h E hE;exact AY hE (ws (gn 4 8 (Wp.ret (rr h▸rq))))
def pE (xQ:TW) (z1:List BD) (z2:List Block) (z3:List Vol) (z4:List BU) (z5:Int) (z6:Int) (z7:Int) (z8:Int):St:=A9 [(3,(pb 3)),(4,(pb 4)),(8,(pb 8)),(15,(.one (Cj z1)))] [(.box 3,[i6 xQ.Kind,i6 xQ.Vol,i6 xQ.Sector,i6 xQ.Of,ts xQ.Text]),(.box 4,[CP [],CZ [],Bx [],i6 0,i6 0,i6 0,i6 0]),(.box 8,[CP z2,CZ z3,Bx z4,i6 z5,i6 z6,i6 z7,i6 z8])]
def pD (j1:List BD×List Block×List Vol×List BU×Int×Int×Int×Int) (v8:List BD×Bool) (z9:Bool):St:=A9 [(4,(pb 4)),(8,(pb 8)),(15,(.one (Cj j1.1))),(19,(.one (Cj v8.1))),(91,(B z9))] [(.box 4,[CP [],CZ [],Bx [],i6 0,i6 0,i6 0,i6 0]),(.box 8,[CP j1.2.1,CZ j1.2.2.1,Bx j1.2.2.2.1,i6 j1.2.2.2.2.1,i6 j1.2.2.2.2.2.1,i6 j1.2.2.2.2.2.2.1,i6 j1.2.2.2.2.2.2.2])]
set_option maxHeartbeats 4000000 in
theorem ZJ (xD:AE) (xQ:TW) (r:AE×List BD×ByteArray×Int) (h:UM xD xQ=some r):AW Tryz.prog 60 [.sv (.agg (Tg false xD)),.sv (.agg (c44 xQ))] (.tup [(.agg (Tg true r.1)),(.one (Cj r.2.1)),(Y r.2.2.1),(I r.2.2.2)]) (rg 2):=by
 refine gk Tryz.func60 rfl Tryz.ntmps60 (ws (gw 6 0 (Ai 1 0 (RW.c 0 h (Tv _) (fun v1 gv1 h=>gw 2 0 (gn 2 2 (Wp.seq (ws (Ai 1 0 (RW.c 0 h (eK _) (fun v2 gv2 h=>gn 1 0 (wc h (fun h=>?_) (fun h=>?_)))))))))))))
 ·exact ws (gn 6 8 (Wp.ret (rr h▸rq)))
 refine Wp.skip (ws (Ai 2 0 (RW.c 0 h (Wh _ _) (fun v3 gv3 h=>gn 7 17 (Wp.seq (ws (gn 2 0 (wc h (fun h=>?_) (fun h=>?_)))))))))
 ·exact ws (gn 7 16 (Wp.ret (rr h▸rq)))
 refine Wp.skip (Wp.seq (ws (gn 3 0 (wc h (fun h=>?_) (fun h=>?_)))))
 ·refine ws (Ai 5 0 (RW.c 0 h (pI _ _ _) (fun v4 gv4 h=>gn 5 1 (Wp.seq (ws (gn 2 0 (wc h (fun h=>?_) (fun h=>?_))))))))
  ·exact ws (gn 6 8 (Wp.ret (rr h▸rq)))
  exact Wp.skip (ws (gn 7 16 (Wp.ret (rr h▸rq))))
 refine Wp.skip (ws (gn 2 2 (Wp.seq (ws (Ai 2 0 (RW.c 0 h (QH _) (fun v5 gv5 h=>gn 1 0 (Gd h [3,4,8,15] [.box 3,.box 4,.box 8] (fun a=>(pE xQ a.1 a.2.1 a.2.2.1 a.2.2.2.1 a.2.2.2.2.1 a.2.2.2.2.2.1 a.2.2.2.2.2.2.1 a.2.2.2.2.2.2.2)) ?_ ?_))))))))
 ·intro a h;refine wc h (fun h=>?_) (fun h=>?_)
  ·exact Au (Ai 1 0 (RW.c 0 h (eO _ _) (fun v6 gv6 h=>gn 5 17 (jn h))))
  exact Wp.skip (jn h)
 intro j1 h E hE;refine AY hE (ws (Ai 2 0 (RW.c 0 h (gs (ca (iQ (ca (cs (Fd _)) (ca (cs (Fe _)) (ca (cs (Dh _)) rfl)))) rfl) (Wh _ _)) (fun v7 gv7 h=>gw 7 17 (Ai 3 0 (RW.c 0 h (gs (ca (iQ (ca (cs (Fd _)) (ca (cs (Fe _)) (ca (cs (Dh _)) rfl)))) (ca (co (cs (ACr _))) rfl)) (Pf _ _ _)) (fun v8 gv8 h=>gn 5 9 (Wp.seq (FD h [4,8,15,19,91] [.box 4,.box 8] (fun a=>(pD j1 v8 a)) (fun a h=>?_) (fun j2 h=>?_)))) (hc:=(.inr (fun v=>by simp [BE,BP,AT,BB,zM,Cj])))))) (hc:=(.inr (fun v=>by simp [BE,BP,AT,BB,ADu,IS]))))))
 ·refine Au (Ai 3 0 (AO 86 h (fun h=>?_) (fun h=>?_)))
  ·exact gn 5 0 (jn h)
  exact Ai 2 0 (RW.c 0 h (gs (ca (iQ (ca (cs (Fd _)) rfl)) rfl) (QH _)) (fun v9 gv9 h=>gn 2 0 (jn h)) (hc:=(.inr (fun v=>rfl))))
 refine wc h (fun h=>?_) (fun h=>?_)
 ·exact ws (gn 6 8 (Wp.ret (rr h▸rq)))
 exact Wp.skip (ws (Ai 2 0 (RW.c 0 h (gs (ca (iQ (ca (cs (Fd _)) (ca (cs (Fe _)) (ca (cs (Dh _)) rfl)))) (ca (co (cs (ABZ _))) rfl)) (R3 _ _)) (fun v10 gv10 h=>Ai 2 0 (bd h fun q1 gq1 h=>CR (DK MV (fun _=>rfl) j1.1 gq1) (gn 4 2 (Wp.ret (rr h▸rq))))) (hc:=(.inr (fun v=>by simp [BE,BP,AT,BB,YS,vG,KY,CZ,CP,Bx,Tg]))))))
def VJ (z1:Int) (z2:List Block) (z3:List Vol) (z4:List BU) (z5:Int) (z6:Int) (z7:Int) (z8:Int) (z9:List Int) (z10:Int) (z11:Int):St:=A9 [(0,(px 0)),(2,(pb 2)),(3,(pb 3)),(5,(I z1))] [(.box 2,[CP [],CZ [],Bx [],i6 0,i6 0,i6 0,i6 0]),(.box 3,[CQ z2,DG z3,BI z4,i6 z5,i6 z6,i6 z7,i6 z8]),(.ext 0,[PX z9,i6 z10,i6 z11])]
def VI (z12:List Block) (z13:List Vol) (z14:List BU) (z15:Int) (z16:Int) (z17:Int) (z18:Int) (z19:List Int) (z20:Int) (z21:Int):St:=A9 [(2,(pb 2)),(3,(pb 3))] [(.box 2,[CP [],CZ [],Bx [],i6 0,i6 0,i6 0,i6 0]),(.box 3,[CQ z12,DG z13,BI z14,i6 z15,i6 z16,i6 z17,i6 z18]),(.ext 0,[PX z19,i6 z20,i6 z21])]
def VH (a:Int) (z22:List Block) (z23:List Vol) (z24:List BU) (z25:Int) (z26:Int) (z27:Int) (z28:Int) (z29:List Int) (z30:Int) (z31:Int):St:=A9 [(0,(px 0)),(2,(pb 2)),(3,(pb 3)),(5,(I a))] [(.box 2,[CP [],CZ [],Bx [],i6 0,i6 0,i6 0,i6 0]),(.box 3,[CQ z22,DG z23,BI z24,i6 z25,i6 z26,i6 z27,i6 z28]),(.ext 0,[PX z29,i6 z30,i6 z31])]
set_option maxHeartbeats 4000000 in
theorem XO (xC:BC) (r:AE×BC) (h:M2 xC=some r):AW Tryz.prog 28 [.ext [PX xC.b_,i6 xC.i_,i6 xC.h_]] (.agg (Tg false r.1)) (.ext [PX r.2.b_,i6 r.2.i_,i6 r.2.h_]::rg 0):=by
 refine gkx Tryz.func28 rfl Tryz.ntmps28 (ws (gw 1 0 (Ai 1 0 (Gp h (Dd _ _) (fun _=>rfl) (fun v1 gv1 h=>Ai 1 0 (RW.c 0 h (YI _) (fun v2 gv2 h=>Ai 2 1 (RW.fz (.slot 11) 0 (Fd v2.1.Flash.Blocks) (RW.fz (.slot 11) 1 (Fe v2.1.Store.Vols) (RW.fz (.slot 11) 2 (Dh v2.1.Store.Arena.Knots) (gn 4 0 (Wp.seq (ws (gn 1 0 (BM h [0,2,3,5] [.box 2,.box 3,.ext 0] (fun s=>(VJ s.1 s.2.1 s.2.2.1 s.2.2.2.1 s.2.2.2.2.1 s.2.2.2.2.2.1 s.2.2.2.2.2.2.1 s.2.2.2.2.2.2.2.1 s.2.2.2.2.2.2.2.2.1 s.2.2.2.2.2.2.2.2.2.1 s.2.2.2.2.2.2.2.2.2.2)) [2,3] [.box 2,.box 3,.ext 0] (fun s=>(VI s.1 s.2.1 s.2.2.1 s.2.2.2.1 s.2.2.2.2.1 s.2.2.2.2.2.1 s.2.2.2.2.2.2.1 s.2.2.2.2.2.2.2.1 s.2.2.2.2.2.2.2.2.1 s.2.2.2.2.2.2.2.2.2)) EC ?_ ?_)))))))))))))))
 ·rintro⟨b,d,e,f,g,i,j,k,l,m,n⟩ o (h:FL b d e f g i j k l m n=some o);refine Wp.seq (ws (Ai 2 0 (Gp h (Dd _ _) (fun _=>rfl) (fun v3 gv3 h=>gn 1 0 (wc h (fun h=>?_) (fun h=>?_))))))
  ·refine Wp.skip (Wp.seq (Wp.block (Gd h [0,2,3,5] [.box 2,.box 3,.ext 0] (fun a=>(VH b a.1 a.2.1 a.2.2.1 a.2.2.2.1 a.2.2.2.2.1 a.2.2.2.2.2.1 a.2.2.2.2.2.2.1 a.2.2.2.2.2.2.2.1 a.2.2.2.2.2.2.2.2.1 a.2.2.2.2.2.2.2.2.2)) ?_ ?_)))
   ·intro a h;refine DZ [3,10] mixed (fun c E h=>by rcases h with⟨h|h,_⟩<;>cases h) (Bl [1,2] 0 (DW 0 3 ?_ ?_))
    ·refine KB.o false (B8 3 (bC h (Tu _ _) (fun _=>rfl) (fun v5 gv5 h=>B8 4 (KB.c 0 h (ZJ _ _) (fun v6 gv6 h=>Bl [5] 1 (ACm 6 7 8 9 ?_ ?_ ?_ ?_))))))
     ·exact KB.o false (KW.fz (.slot 25) 0 (Fd v6.1.Flash.Blocks) (KW.fz (.slot 25) 1 (Fe v6.1.Store.Vols) (KW.fz (.slot 25) 2 (Dh v6.1.Store.Arena.Knots) (oj [] h))))
     ·refine KB.o false (bB 6 8 9 ?_ ?_ ?_)
      ·exact KB.o false (KW.fz (.slot 25) 0 (Fd v6.1.Flash.Blocks) (KW.fz (.slot 25) 1 (Fe v6.1.Store.Vols) (KW.fz (.slot 25) 2 (Dh v6.1.Store.Arena.Knots) (oj [] h))))
      ·refine KB.o false (DW 6 9 ?_ ?_)
       ·exact KB.o false (KW.fz (.slot 25) 0 (Fd v6.1.Flash.Blocks) (KW.fz (.slot 25) 1 (Fe v6.1.Store.Vols) (KW.fz (.slot 25) 2 (Dh v6.1.Store.Arena.Knots) (oj [] h))))
       exact KB.o false (Bl [6] 0 (KW.fz (.slot 25) 0 (Fd v6.1.Flash.Blocks) (KW.fz (.slot 25) 1 (Fe v6.1.Store.Vols) (KW.fz (.slot 25) 2 (Dh v6.1.Store.Arena.Knots) (Bl [10] 0 (Bk (jn h)))))))
      refine KB.o false (DW 6 8 ?_ ?_)
      ·exact KB.o false (KW.fz (.slot 25) 0 (Fd v6.1.Flash.Blocks) (KW.fz (.slot 25) 1 (Fe v6.1.Store.Vols) (KW.fz (.slot 25) 2 (Dh v6.1.Store.Arena.Knots) (oj [] h))))
      exact KB.o false (Bl [6] 0 (KW.fz (.slot 25) 0 (Fd v6.1.Flash.Blocks) (KW.fz (.slot 25) 1 (Fe v6.1.Store.Vols) (KW.fz (.slot 25) 2 (Dh v6.1.Store.Arena.Knots) (Bl [10] 0 (Bk (jn h)))))))
     ·refine KB.o false (bB 6 7 9 ?_ ?_ ?_)
      ·exact KB.o false (KW.fz (.slot 25) 0 (Fd v6.1.Flash.Blocks) (KW.fz (.slot 25) 1 (Fe v6.1.Store.Vols) (KW.fz (.slot 25) 2 (Dh v6.1.Store.Arena.Knots) (oj [] h))))
      ·refine KB.o false (DW 6 9 ?_ ?_)
       ·exact KB.o false (KW.fz (.slot 25) 0 (Fd v6.1.Flash.Blocks) (KW.fz (.slot 25) 1 (Fe v6.1.Store.Vols) (KW.fz (.slot 25) 2 (Dh v6.1.Store.Arena.Knots) (oj [] h))))
       exact KB.o false (Bl [6] 0 (KW.fz (.slot 25) 0 (Fd v6.1.Flash.Blocks) (KW.fz (.slot 25) 1 (Fe v6.1.Store.Vols) (KW.fz (.slot 25) 2 (Dh v6.1.Store.Arena.Knots) (Bl [10] 0 (Bk (jn h)))))))
      refine KB.o false (DW 6 7 ?_ ?_)
      ·exact KB.o false (KW.fz (.slot 25) 0 (Fd v6.1.Flash.Blocks) (KW.fz (.slot 25) 1 (Fe v6.1.Store.Vols) (KW.fz (.slot 25) 2 (Dh v6.1.Store.Arena.Knots) (oj [] h))))
      exact KB.o false (Bl [6] 0 (KW.fz (.slot 25) 0 (Fd v6.1.Flash.Blocks) (KW.fz (.slot 25) 1 (Fe v6.1.Store.Vols) (KW.fz (.slot 25) 2 (Dh v6.1.Store.Arena.Knots) (Bl [10] 0 (Bk (jn h)))))))
     refine KB.o false (bB 6 7 8 ?_ ?_ ?_)
     ·exact KB.o false (KW.fz (.slot 25) 0 (Fd v6.1.Flash.Blocks) (KW.fz (.slot 25) 1 (Fe v6.1.Store.Vols) (KW.fz (.slot 25) 2 (Dh v6.1.Store.Arena.Knots) (oj [] h))))
     ·refine KB.o false (DW 6 8 ?_ ?_)
      ·exact KB.o false (KW.fz (.slot 25) 0 (Fd v6.1.Flash.Blocks) (KW.fz (.slot 25) 1 (Fe v6.1.Store.Vols) (KW.fz (.slot 25) 2 (Dh v6.1.Store.Arena.Knots) (oj [] h))))
      exact KB.o false (Bl [6] 0 (KW.fz (.slot 25) 0 (Fd v6.1.Flash.Blocks) (KW.fz (.slot 25) 1 (Fe v6.1.Store.Vols) (KW.fz (.slot 25) 2 (Dh v6.1.Store.Arena.Knots) (Bl [10] 0 (Bk (jn h)))))))
     refine KB.o false (DW 6 7 ?_ ?_)
     ·exact KB.o false (KW.fz (.slot 25) 0 (Fd v6.1.Flash.Blocks) (KW.fz (.slot 25) 1 (Fe v6.1.Store.Vols) (KW.fz (.slot 25) 2 (Dh v6.1.Store.Arena.Knots) (oj [] h))))
     exact KB.o false (Bl [6] 0 (KW.fz (.slot 25) 0 (Fd v6.1.Flash.Blocks) (KW.fz (.slot 25) 1 (Fe v6.1.Store.Vols) (KW.fz (.slot 25) 2 (Dh v6.1.Store.Arena.Knots) (Bl [10] 0 (Bk (jn h)))))))
    refine bC h (Tu _ _) (fun _=>rfl) (fun v7 gv7 h=>Bl [0] 0 (B8 4 (KB.c 0 h (ZJ _ _) (fun v8 gv8 h=>Bl [5] 1 (ACm 6 7 8 9 ?_ ?_ ?_ ?_)))))
    ·exact KB.o false (KW.fz (.slot 25) 0 (Fd v8.1.Flash.Blocks) (KW.fz (.slot 25) 1 (Fe v8.1.Store.Vols) (KW.fz (.slot 25) 2 (Dh v8.1.Store.Arena.Knots) (oj [] h))))
    ·refine KB.o false (bB 6 8 9 ?_ ?_ ?_)
     ·exact KB.o false (KW.fz (.slot 25) 0 (Fd v8.1.Flash.Blocks) (KW.fz (.slot 25) 1 (Fe v8.1.Store.Vols) (KW.fz (.slot 25) 2 (Dh v8.1.Store.Arena.Knots) (oj [] h))))
     ·refine KB.o false (DW 6 9 ?_ ?_)
      ·exact KB.o false (KW.fz (.slot 25) 0 (Fd v8.1.Flash.Blocks) (KW.fz (.slot 25) 1 (Fe v8.1.Store.Vols) (KW.fz (.slot 25) 2 (Dh v8.1.Store.Arena.Knots) (oj [] h))))
      exact KB.o false (Bl [6] 0 (KW.fz (.slot 25) 0 (Fd v8.1.Flash.Blocks) (KW.fz (.slot 25) 1 (Fe v8.1.Store.Vols) (KW.fz (.slot 25) 2 (Dh v8.1.Store.Arena.Knots) (Bl [10] 0 (Bk (jn h)))))))
     refine KB.o false (DW 6 8 ?_ ?_)
     ·exact KB.o false (KW.fz (.slot 25) 0 (Fd v8.1.Flash.Blocks) (KW.fz (.slot 25) 1 (Fe v8.1.Store.Vols) (KW.fz (.slot 25) 2 (Dh v8.1.Store.Arena.Knots) (oj [] h))))
     exact KB.o false (Bl [6] 0 (KW.fz (.slot 25) 0 (Fd v8.1.Flash.Blocks) (KW.fz (.slot 25) 1 (Fe v8.1.Store.Vols) (KW.fz (.slot 25) 2 (Dh v8.1.Store.Arena.Knots) (Bl [10] 0 (Bk (jn h)))))))
    ·refine KB.o false (bB 6 7 9 ?_ ?_ ?_)
     ·exact KB.o false (KW.fz (.slot 25) 0 (Fd v8.1.Flash.Blocks) (KW.fz (.slot 25) 1 (Fe v8.1.Store.Vols) (KW.fz (.slot 25) 2 (Dh v8.1.Store.Arena.Knots) (oj [] h))))
     ·refine KB.o false (DW 6 9 ?_ ?_)
      ·exact KB.o false (KW.fz (.slot 25) 0 (Fd v8.1.Flash.Blocks) (KW.fz (.slot 25) 1 (Fe v8.1.Store.Vols) (KW.fz (.slot 25) 2 (Dh v8.1.Store.Arena.Knots) (oj [] h))))
      exact KB.o false (Bl [6] 0 (KW.fz (.slot 25) 0 (Fd v8.1.Flash.Blocks) (KW.fz (.slot 25) 1 (Fe v8.1.Store.Vols) (KW.fz (.slot 25) 2 (Dh v8.1.Store.Arena.Knots) (Bl [10] 0 (Bk (jn h)))))))
     refine KB.o false (DW 6 7 ?_ ?_)
     ·exact KB.o false (KW.fz (.slot 25) 0 (Fd v8.1.Flash.Blocks) (KW.fz (.slot 25) 1 (Fe v8.1.Store.Vols) (KW.fz (.slot 25) 2 (Dh v8.1.Store.Arena.Knots) (oj [] h))))
     exact KB.o false (Bl [6] 0 (KW.fz (.slot 25) 0 (Fd v8.1.Flash.Blocks) (KW.fz (.slot 25) 1 (Fe v8.1.Store.Vols) (KW.fz (.slot 25) 2 (Dh v8.1.Store.Arena.Knots) (Bl [10] 0 (Bk (jn h)))))))
    refine KB.o false (bB 6 7 8 ?_ ?_ ?_)
    ·exact KB.o false (KW.fz (.slot 25) 0 (Fd v8.1.Flash.Blocks) (KW.fz (.slot 25) 1 (Fe v8.1.Store.Vols) (KW.fz (.slot 25) 2 (Dh v8.1.Store.Arena.Knots) (oj [] h))))
    ·refine KB.o false (DW 6 8 ?_ ?_)
     ·exact KB.o false (KW.fz (.slot 25) 0 (Fd v8.1.Flash.Blocks) (KW.fz (.slot 25) 1 (Fe v8.1.Store.Vols) (KW.fz (.slot 25) 2 (Dh v8.1.Store.Arena.Knots) (oj [] h))))
     exact KB.o false (Bl [6] 0 (KW.fz (.slot 25) 0 (Fd v8.1.Flash.Blocks) (KW.fz (.slot 25) 1 (Fe v8.1.Store.Vols) (KW.fz (.slot 25) 2 (Dh v8.1.Store.Arena.Knots) (Bl [10] 0 (Bk (jn h)))))))
    refine KB.o false (DW 6 7 ?_ ?_)
    ·exact KB.o false (KW.fz (.slot 25) 0 (Fd v8.1.Flash.Blocks) (KW.fz (.slot 25) 1 (Fe v8.1.Store.Vols) (KW.fz (.slot 25) 2 (Dh v8.1.Store.Arena.Knots) (oj [] h))))
    exact KB.o false (Bl [6] 0 (KW.fz (.slot 25) 0 (Fd v8.1.Flash.Blocks) (KW.fz (.slot 25) 1 (Fe v8.1.Store.Vols) (KW.fz (.slot 25) 2 (Dh v8.1.Store.Arena.Knots) (Bl [10] 0 (Bk (jn h)))))))
   intro j1 h E hE;exact AY hE (Au (gn 3 0 (jl h)))
  exact Wp.exit (jv h)
 intro v9 h E hE;exact AY hE (ws (gn 2 0 (Wp.ret (rr h▸rx))))
theorem W2 (a:List Int) (r:AE) (h:Lm a=some r):AW Tryz.prog 8 [.sv (.one (PX a))] (.agg (Tg false r)) (rg 1):=by
 exact gk Tryz.func8 rfl Tryz.ntmps8 (ws (gw 1 0 (Ai 1 0 (ADD h (pB _) (fun v1 gv1 h=>Gp h (XO _) (fun _=>rfl) (fun v2 gv2 h=>gn 1 0 (Wp.ret (rr h▸rq))))))))
def f8 (a:ByteArray) (z1:Int) (z2:Int):St:=A9 [(0,(.one (.int .u32 z1))),(1,(Y a)),(5,(I z2))] []
def f7 (z3:Int):St:=A9 [(0,(.one (.int .u32 z3)))] []
def f0 (a:ByteArray) (b:Int) (z4:Int) (z5:Int):St:=A9 [(0,(.one (.int .u32 z4))),(1,(Y a)),(5,(I b)),(19,(I z5))] []
def fZ (a:ByteArray) (b:Int) (z6:Int):St:=A9 [(0,(.one (.int .u32 z6))),(1,(Y a)),(5,(I b))] []
theorem mN (b:Int) (a:ByteArray) (r:Int) (h:Qb b a=some r):AW Tryz.prog 180 [.sv (.one (.int .u32 b)),.sv (Y a)] (.one (.int .u32 r)) (rg 2):=by
 refine gk Tryz.func180 rfl Tryz.ntmps180 (ws (gn 1 0 (Wp.seq (ws (gn 1 0 (BM h [0,1,5] [] (fun s=>(f8 a s.1 s.2)) [0] [] (fun s=>(f7 s)) EC ?_ ?_))))))
 ·rintro⟨c,d⟩ o (h:Jp a c d=some o);refine Wp.seq (ws (gn 4 0 (wc h (fun h=>?_) (fun h=>?_))))
  ·refine Wp.skip (Wp.seq (Wp.block (ws (Ai 3 0 (bd h fun x1 gx1 h=>RW.q (iP gx1) (gw 3 0 (gn 1 0 (BM h [0,1,5,19] [] (fun s=>(f0 a d s.1 s.2)) [0,1,5] [] (fun s=>(fZ a d s)) EC ?_ ?_))))))))
   ·rintro⟨e,y1⟩ o (h:HE e y1=some o);refine ws (gn 1 0 (Wp.seq (wc h (fun h=>?_) (fun h=>?_))))
    ·refine Wp.skip (Wp.seq (Wp.block (ws (gw 3 0 (gw 3 0 (gn 2 0 (wc h (fun h=>?_) (fun h=>?_))))))))
     ·exact Au (gn 3 0 (Au (gn 2 0 (jl h))))
     exact Wp.skip (Au (gn 2 0 (jl h)))
    exact Wp.exit (jv h)
   intro v1 h E hE;exact AY hE (Au (gn 3 0 (jl h)))
  exact Wp.exit (jv h)
 intro v2 h E hE;exact AY hE (ws (gn 2 0 (Wp.ret (rr h▸rq))))
theorem vX (a:ByteArray) (r:Int) (h:UX a=some r):AW Tryz.prog 159 [.sv (Y a)] (.one (.int .u32 r)) (rg 1):=by
 exact gk Tryz.func159 rfl Tryz.ntmps159 (ws (gw 1 0 (Ai 1 0 (RW.c 0 h (mN _ _) (fun v1 gv1 h=>gn 1 0 (Wp.ret (rr h▸rq)))))))
theorem qW (a:ByteArray) (r:ByteArray×Bool) (h:RT a=some r):AW Tryz.prog 133 [.sv (Y a)] (.tup [(Y r.1),(B r.2)]) (rg 1):=by
 refine gk Tryz.func133 rfl Tryz.ntmps133 (ws (gn 2 0 (Wp.seq (ws (gn 3 0 (wc h (fun h=>?_) (fun h=>?_)))))))
 ·exact ws (gn 2 0 (Wp.ret (rr h▸rq)))
 exact Wp.skip (ws (Ai 1 0 (RW.c 0 h (vX _) (fun v1 gv1 h=>gw 1 0 (Ai 13 0 (RW.q (pcv (f:=c5) (fun _=>rfl) [(IntKind.u8.wrap (Int.fdiv v1 (2^(min (24:Int).toNat IntKind.u32.bits)))),(IntKind.u8.wrap (Int.fdiv v1 (2^(min (16:Int).toNat IntKind.u32.bits)))),(IntKind.u8.wrap (Int.fdiv v1 (2^(min (8:Int).toNat IntKind.u32.bits)))),(IntKind.u8.wrap v1)]) (bd h fun x1 gx1 h=>RW.q (OL gx1) (gn 2 0 (Wp.ret (rr h▸rq))))))))))
def Zc (x1:ByteArray) (z1:Bool):St:=A9 [(4,(Y x1)),(26,(B z1))] []
theorem fX (b:ByteArray) (r:ByteArray×Bool) (h:Ov b=some r):AW Tryz.prog 107 [.sv (Y b)] (.tup [(Y r.1),(B r.2)]) (rg 1):=by
 refine gk Tryz.func107 rfl Tryz.ntmps107 (ws (gn 2 0 (Wp.seq (ws (gn 3 0 (wc h (fun h=>?_) (fun h=>?_)))))))
 ·exact ws (gn 2 0 (Wp.ret (rr h▸rq)))
 refine Wp.skip (ws (Ai 4 0 (bd h fun x1 gx1 h=>RW.q (Pr gx1) (gw 1 0 (Ai 1 0 (RW.c 0 h (qW _) (fun v1 gv1 h=>gn 5 1 (Wp.seq (FD h [4,26] [] (fun a=>(Zc x1 a)) (fun a h=>?_) (fun j1 h=>?_))))))))))
 ·refine Au (Ai 3 0 (AO 22 h (fun h=>?_) (fun h=>?_)))
  ·exact gn 4 0 (jn h)
  exact gn 4 0 (jn h)
 refine wc h (fun h=>?_) (fun h=>?_)
 ·exact ws (gn 2 0 (Wp.ret (rr h▸rq)))
 exact Wp.skip (ws (gn 3 0 (Wp.ret (rr h▸rq))))
def gC (a:ByteArray) (b:Int) (z1:Int) (z2:Int):St:=A9 [(0,(Y a)),(1,(I b)),(7,(I z1)),(8,(I z2))] []
def gB:St:=A9 [] []
def gA (a:ByteArray) (b:Int) (c:Int) (d:Int) (z3:Bool):St:=A9 [(0,(Y a)),(1,(I b)),(7,(I c)),(8,(I d)),(23,(B z3))] []
def f9 (a:Int) (b:Int) (c:Int) (x2:Int) (z4:Bool):St:=A9 [(1,(I a)),(7,(I (ad b x2))),(8,(I c)),(50,(B z4))] []
theorem mP (b:ByteArray) (c:Int) (r:Int×Int×Bool) (h:LA b c=some r):AW Tryz.prog 108 [.sv (Y b),.sv (I c)] (.tup [(I r.1),(I r.2.1),(B r.2.2)]) (rg 2):=by
 refine gk Tryz.func108 rfl Tryz.ntmps108 (ws (gw 3 0 (gn 1 0 (Wp.seq (ws (gn 1 0 (ED h [0,1,7,8] [] (fun s=>(gC b c s.1 s.2)) [] [] (fun _=>gB) EC ?_ ?_)))))))
 ·rintro⟨d,e⟩ o (h:Gy b c d e=some o) hk1;refine Wp.seq (FD h [0,1,7,8,23] [] (fun a=>(gA b c d e a)) (fun a h=>?_) (fun j1 h=>?_))
  ·refine Au (Ai 3 0 (AO 12 h (fun h=>?_) (fun h=>?_)))
   ·refine Ai 4 0 (AO 16 h (fun h=>?_) (fun h=>?_))
    ·exact gn 7 0 (jn h)
    exact gn 7 0 (jn h)
   exact gn 11 0 (jn h)
  refine wc h (fun h=>?_) (fun h=>?_)
  ·refine Wp.skip (Wp.seq (Wp.block (ws (Ai 4 0 (bd h fun x1 gx1 h=>RW.q (iP gx1) (gw 2 0 (Ai 5 0 (bd h fun x2 gx2 h=>RW.q (ADZ gx2) (gn 2 0 (Wp.seq (ws (gn 2 0 (wc h (fun h=>?_) (fun h=>?_))))))))))))))
   ·exact Wp.exit (Au (gn 3 0 (jl h)))
   refine Wp.skip (Wp.seq (FD h [1,7,8,50] [] (fun a=>(f9 c d e x2 a)) (fun a h=>?_) (fun j2 h=>?_)))
   ·refine Au (Ai 3 0 (AO 43 h (fun h=>?_) (fun h=>?_)))
    ·refine Ai 4 0 (AO 47 h (fun h=>?_) (fun h=>?_))
     ·exact gn 3 0 (jn h)
     exact gn 3 0 (jn h)
    exact gn 7 0 (jn h)
   refine wc h (fun h=>?_) (fun h=>?_)
   ·exact ws (gn 3 0 (Wp.ret (rr (jo h hk1)▸rq)))
   exact Wp.skip (ws (gn 8 0 (Wp.ret (rr (jo h hk1)▸rq))))
  exact Wp.exit (jx h)
 intro v1 h E hE;exact AY hE (ws (gn 3 0 (Wp.ret (rr h▸rq))))
theorem Mh (xN:Int) (b:Int) (a:Int) (r:Bool) (h:ST xN b a=some r):AW Tryz.prog 35 [.sv (I xN),.sv (I b),.sv (I a)] (B r) (rg 3):=by
 refine gk Tryz.func35 rfl Tryz.ntmps35 (ws (gw 1 0 (Ai 4 0 (AO 10 h (fun h=>?_) (fun h=>?_)))))
 ·exact gn 5 0 (Wp.ret (rr h▸rq))
 exact gn 5 0 (Wp.ret (rr h▸rq))
def mR (xP:Page) (z1:Bool):St:=A9 [(1,(pb 1)),(33,(B z1))] [(.box 1,[i6 xP.Kind,i6 xP.Seq,i6 xP.Tx,i6 xP.Part,i6 xP.Count,ts xP.Text])]
theorem qX (xP:Page) (r:Bool) (h:Sa xP=some r):AW Tryz.prog 109 [.sv (.agg (c52 xP))] (B r) (rg 1):=by
 refine gk Tryz.func109 rfl Tryz.ntmps109 (ws (gn 2 0 (Wp.seq (FD h [1,33] [.box 1] (fun a=>(mR xP a)) (fun a h=>?_) (fun j1 h=>?_)))))
 ·refine Au (Ai 2 0 (RW.c 0 h (Mh _ _ _) (fun v1 gv1 h=>Ai 2 0 (AO 7 h (fun h=>?_) (fun h=>?_)))))
  ·exact gn 26 0 (jn h)
  refine Ai 2 0 (RW.c 0 h (Mh _ _ _) (fun v2 gv2 h=>Ai 3 0 (AO 13 h (fun h=>?_) (fun h=>?_))))
  ·exact gn 20 0 (jn h)
  refine Ai 2 0 (RW.c 0 h (Mh _ _ _) (fun v3 gv3 h=>Ai 3 0 (AO 19 h (fun h=>?_) (fun h=>?_))))
  ·exact gn 14 0 (jn h)
  refine Ai 5 0 (RW.c 0 h (Mh _ _ _) (fun v4 gv4 h=>Ai 3 0 (AO 28 h (fun h=>?_) (fun h=>?_))))
  ·exact gn 5 0 (jn h)
  exact gn 5 0 (jn h)
 refine wc h (fun h=>?_) (fun h=>?_)
 ·exact ws (gn 1 0 (Wp.ret (rr h▸rq)))
 refine Wp.skip (ws (Ai 4 0 (AO 37 h (fun h=>?_) (fun h=>?_))))
 ·exact gn 10 0 (Wp.ret (rr h▸rq))
 refine Ai 4 0 (AO 41 h (fun h=>?_) (fun h=>?_))
 ·exact gn 6 0 (Wp.ret (rr h▸rq))
 exact gn 6 0 (Wp.ret (rr h▸rq))
def Zl (v1:ByteArray×Bool) (z1:Bool):St:=A9 [(2,(pb 2)),(4,(Y v1.1)),(23,(B z1))] [(.box 2,[i6 0,i6 0,i6 0,i6 0,i6 0,ts (bs [])])]
def Zk (v1:ByteArray×Bool) (z2:Int) (z3:Int) (z4:Int) (z5:Int) (z6:Int) (z7:Int):St:=A9 [(2,(pb 2)),(4,(Y v1.1)),(6,(pb 6)),(7,(I z2)),(25,(I z3))] [(.box 2,[i6 0,i6 0,i6 0,i6 0,i6 0,ts (bs [])]),(.box 6,[i6 z4,i6 z5,i6 z6,i6 z7])]
def Zj (v1:ByteArray×Bool) (z8:Int) (z9:Int) (z10:Int) (z11:Int) (z12:Int):St:=A9 [(2,(pb 2)),(4,(Y v1.1)),(6,(pb 6)),(7,(I z8))] [(.box 2,[i6 0,i6 0,i6 0,i6 0,i6 0,ts (bs [])]),(.box 6,[i6 z9,i6 z10,i6 z11,i6 z12])]
theorem gD (xT:ByteArray) (r:Page×Bool) (h:Ox xT=some r):AW Tryz.prog 67 [.sv (Y xT)] (.tup [(.agg (c52 r.1)),(B r.2)]) (rg 1):=by
 refine gk Tryz.func67 rfl Tryz.ntmps67 (ws (gw 2 0 (Ai 1 0 (RW.c 0 h (fX _) (fun v1 gv1 h=>gn 5 1 (Wp.seq (FD h [2,4,23] [.box 2] (fun a=>(Zl v1 a)) (fun a h=>?_) (fun j1 h=>?_))))))))
 ·refine Au (Ai 3 0 (AO 20 h (fun h=>?_) (fun h=>?_)))
  ·exact gn 3 0 (jn h)
  exact gn 3 0 (jn h)
 refine wc h (fun h=>?_) (fun h=>?_)
 ·exact ws (gn 3 0 (Wp.ret (rr h▸rq)))
 refine Wp.skip (ws (gw 1 0 (gn 1 0 (Wp.seq (ws (gn 1 0 (ED h [2,4,6,7,25] [.box 2,.box 6] (fun s=>(Zk v1 s.1 s.2.1 s.2.2.1 s.2.2.2.1 s.2.2.2.2.1 s.2.2.2.2.2)) [2,4,6,7] [.box 2,.box 6] (fun s=>(Zj v1 s.1 s.2.1 s.2.2.1 s.2.2.2.1 s.2.2.2.2)) EC ?_ ?_)))))))
 ·rintro⟨b,y1,d,e,f,g⟩ o (h:Eh v1 b y1 d e f g=some o) hk1;refine ws (gn 1 0 (Wp.seq (wc h (fun h=>?_) (fun h=>?_))))
  ·refine Wp.skip (Wp.seq (Wp.block (ws (gw 2 0 (Ai 2 0 (RW.c 0 h (mP _ _) (fun v2 gv2 h=>gn 7 1 (Wp.seq (ws (gn 2 0 (wc h (fun h=>?_) (fun h=>?_))))))))))))
   ·exact ws (gn 3 0 (Wp.ret (rr (jo h hk1)▸rq)))
   refine Wp.skip (Au (Ai 3 0 (g7 h (fun hb h=>?_) (fun h=>?_))))
   ·exact RW.q (pxa 0 (eq_of_beq hb)) (gn 2 0 (Au (gn 2 0 (jl h))))
   refine g7 h (fun hb h=>?_) (fun h=>?_)
   ·exact RW.q (pxa 1 (eq_of_beq hb)) (gn 2 0 (Au (gn 2 0 (jl h))))
   refine g7 h (fun hb h=>?_) (fun h=>?_)
   ·exact RW.q (pxa 2 (eq_of_beq hb)) (gn 2 0 (Au (gn 2 0 (jl h))))
   refine g7 h (fun hb h=>?_) (fun h=>?_)
   ·exact RW.q (pxa 3 (eq_of_beq hb)) (gn 2 0 (Au (gn 2 0 (jl h))))
   cases h
  exact Wp.exit (jx h)
 intro v3 h E hE;refine AY hE (Wp.seq (DZ [16] mixed (fun c E h=>by rcases h with⟨h|h,_⟩<;>cases h) (Bl [0] 0 (bd h fun x1 gx1 h=>KW.q 1 (iP gx1) (Bl [2,3,4,5,6,7,8,9,10,11,12] 0 (bd h fun x2 gx2 h=>KW.q 13 (Pr gx2) (Bl [14,15,16] 0 (Bk (Wp.seq (ws (Ai 1 0 (RW.c 0 h (qX _) (fun v4 gv4 h=>gn 1 0 (wc h (fun h=>?_) (fun h=>?_)))))))))))))))
 ·exact ws (gn 3 0 (Wp.ret (rr h▸rq)))
 exact Wp.skip (ws (gn 3 0 (Wp.ret (rr h▸rq))))
theorem AEd:∀x,(c54 x).all TV.flat=true:=fun _=>rfl
theorem Zh (n b g cap:Nat) (T:TypeId) (hb:b≠g):Mp Tryz.prog (MT n b g cap 54 T 8 c54) (NF BF) 69 #[.pointer (some ⟨b,0,none⟩)]:=by
 refine vM Tryz.func69 rfl rfl ?_;rintro l i j x y hx hy ⟨w,hI⟩;have hn:l.length=n:=hI.len;have hi:=ACc hx;have hj:=ACc hy;refine AAf Tryz.func69 rfl rfl ?_;rw [Tryz.ntmps69];refine Wp.seq ?_;refine Wp.region ?_;refine A3.o 5 (B false) ?_;refine A3.nil ?_;refine Wp.seq ?_;refine X1 mixed (by decide+kernel) ?_;refine iB 6 (.hdr ⟨g,0,none⟩ n cap) (.slice (some ⟨g,0,none⟩) n cap) ?_ rfl yU (fun w=>by simp [C7]) rfl rfl rfl;refine Js.o 7 (I i) ?_;refine AAN (n:=n) 8 (m:=i) ?_ rfl Tryz.underlying45 rfl hi.1 (by omega) (by decide);refine iC (f:=2) 9 ?_ rfl Tryz.underlying54 rfl (by decide);refine iC (f:=1) 10 ?_ rfl Tryz.underlying52 rfl (by decide);refine iB (x:=10) 11 (.int .i64 (BF x)) (.int .i64 (BF x)) ?_ rfl (yT (k:=3) (t:= .int .i64 (BF x)) Ex hx rfl hb (by rw [ACk];rfl)) (fun w=>by simp [C7]) rfl rfl rfl;refine iB 12 (.hdr ⟨g,0,none⟩ n cap) (.slice (some ⟨g,0,none⟩) n cap) ?_ rfl yU (fun w=>by simp [C7]) rfl rfl rfl;refine Js.o 13 (I j) ?_;refine AAN (n:=n) 14 (m:=j) ?_ rfl Tryz.underlying45 rfl hj.1 (by omega) (by decide);refine iC (f:=2) 15 ?_ rfl Tryz.underlying54 rfl (by decide);refine iC (f:=1) 16 ?_ rfl Tryz.underlying52 rfl (by decide);refine iB (x:=16) 17 (.int .i64 (BF y)) (.int .i64 (BF y)) ?_ rfl (yT (k:=3) (t:= .int .i64 (BF y)) Ex hy rfl hb (by rw [ACk];rfl)) (fun w=>by simp [C7]) rfl rfl rfl;refine Js.o 18 (B (decide ((BF x)<(BF y)))) ?_;refine Js.o 5 (B (decide ((BF x)<(BF y)))) ?_;refine Js.nil ?_;exact Wp.ret ⟨.inr rfl,rfl,_,rfl⟩
theorem Zi {l r:List Ak} (h:Dc (NF BF) l (ln l)=some r):iA Tryz.prog 68 45 54 8 c54 69 l r:=by
 refine Qp Ex h Tryz.t45 Tryz.t54 rfl rfl (by kernel_rfl) rfl 25 (fun w=>rfl) rfl Tryz.isAgg54 (enters_of Tryz.func69 rfl rfl) ?_ (fun n b g cap T hb=>Zh n b g cap T hb);intro n
 match n with
 |0=>exact⟨134,by kernel_rfl,fun h=>absurd h (by decide)⟩
 |1=>exact⟨135,by kernel_rfl,fun h=>absurd h (by decide)⟩
 |n+2=>
  have hk:Go.Lib.swapperK (n+2) Tryz.t54 25=9:=rfl;rw [hk];exact⟨142,by kernel_rfl,fun _=>⟨by decide,false,fun args W=>run_callFunc_extern Tryz.func142 (by kernel_rfl) (by kernel_rfl) (by kernel_rfl) (e:=Extern.ReflectliteSwapper.swap false) (by kernel_rfl) args W⟩⟩
def RZ (xF:Flash) (z1:Int) (z2:List Ak):St:=A9 [(3,(pb 3)),(11,(.one (CQ xF.Blocks))),(12,(I (ln xF.Blocks))),(13,(I z1))] [(.box 3,[Fz z2])]
def RY (z3:List Ak):St:=A9 [(3,(pb 3))] [(.box 3,[Fz z3])]
def RX (xF:Flash) (y1:Int) (x1:Block) (z4:Int) (z5:List Ak):St:=A9 [(3,(pb 3)),(4,(I y1)),(11,(.one (CQ xF.Blocks))),(12,(I (ln xF.Blocks))),(13,(I y1)),(19,(.one (YR x1.Leaves))),(20,(I (ln x1.Leaves))),(21,(I z4))] [(.box 3,[Fz z5])]
def RV (xF:Flash) (y1:Int) (z6:List Ak):St:=A9 [(3,(pb 3)),(11,(.one (CQ xF.Blocks))),(12,(I (ln xF.Blocks))),(13,(I y1))] [(.box 3,[Fz z6])]
def RU (xF:Flash) (y1:Int) (x1:Block) (y2:Int) (a:List Ak) (v1:Page×Bool) (z7:Bool):St:=A9 [(3,(pb 3)),(4,(I y1)),(6,(I y2)),(8,(pb 8)),(11,(.one (CQ xF.Blocks))),(12,(I (ln xF.Blocks))),(13,(I y1)),(19,(.one (YR x1.Leaves))),(20,(I (ln x1.Leaves))),(21,(I y2)),(37,(B z7))] [(.box 3,[Fz a]),(.box 8,[i6 v1.1.Kind,i6 v1.1.Seq,i6 v1.1.Tx,i6 v1.1.Part,i6 v1.1.Count,ts v1.1.Text])]
theorem TF (xF:Flash) (r:List Ak) (h:GL xF=some r):AW Tryz.prog 39 [.sv (.agg [CQ xF.Blocks])] (.one (Fz r)) (List.replicate 1 .gone):=by
 unfold GL at h;refine WW Tryz.func39 rfl ?_;rw [Tryz.ntmps39];refine Wp.seq ?_;refine Wp.region ?_;refine Ld [] 1 [CQ xF.Blocks] ?_;refine A3.o 2 (.one (Fz [])) ?_;refine A3.nil ?_;refine Wp.seq ?_;refine Wp.region ?_;refine Ld [] 3 [Fz []] ?_;refine A3.nil ?_;refine Wp.seq ?_;refine Wp.seq ?_;refine Wp.region ?_;refine A3.o 10 (.one (.ptr (.box 1) 1 [] 0)) ?_;refine A3.o 11 (.one (CQ xF.Blocks)) ?_;refine A3.o 12 (I (ln xF.Blocks)) ?_ (H0 (zC (EV false) xF.Blocks));refine A3.o 13 (I 0) ?_;refine A3.nil ?_;refine BM h [3,11,12,13] [.box 3] (fun s=>(RZ xF s.1 s.2)) [3] [.box 3] (fun s=>(RY s)) ⟨rfl,rfl⟩ ?_ ?_
 ·rintro⟨y1,d⟩ o (h:Gx xF y1 d=some o);unfold Gx at h;change Wp _ _ _ (RZ xF y1 d) _;refine Wp.seq ?_;refine Wp.region ?_;refine A3.o 14 (B (decide (y1<(ln xF.Blocks)))) ?_;refine A3.nil ?_;refine Wp.seq ?_;refine Wp.c h (fun h=>?_) (fun h=>?_)
  ·refine Wp.skip ?_;refine Wp.seq ?_;refine Wp.block ?_;refine Wp.seq ?_;refine Wp.region ?_;refine A3.o 15 (I y1) ?_;refine uI h 16 (fun _=>(.one (.ptr (.slot 11) 0 [0] (Int.toNat y1*3+0)))) ?_ (fun x1 gx1=>H0 (vA (EV false) (.slot 11) [] 0 gx1));intro x1 gx1 h;refine A3.o 17 (.agg [tb x1.Bad,i6 x1.Wear,YR x1.Leaves]) ?_ (H0 (ADr (EV false) (.slot 11) [0] gx1));refine Ld [] 5 [tb false,i6 0,AD8 []] ?_;refine A3.o 4 (I y1) ?_;refine sF [] (.box 5) [tb x1.Bad,i6 x1.Wear,YR x1.Leaves] ?_;refine A3.nil ?_;refine Wp.seq ?_;refine Wp.region ?_;refine A3.o 18 (.one (.ptr (.box 5) 1 [] 2)) ?_;refine A3.o 19 (.one (YR x1.Leaves)) ?_;refine A3.o 20 (I (ln x1.Leaves)) ?_ (H0 (zC Mt x1.Leaves));refine A3.o 21 (I 0) ?_;refine A3.nil ?_;refine BM h [3,4,11,12,13,19,20,21] [.box 3] (fun s=>(RX xF y1 x1 s.1 s.2)) [3,11,12,13] [.box 3] (fun s=>(RV xF y1 s)) ⟨rfl,rfl⟩ ?_ ?_
   ·rintro⟨y2,b⟩ o (h:HF y1 x1 y2 b=some o);unfold HF at h;change Wp _ _ _ (RX xF y1 x1 y2 b) _;refine Wp.seq ?_;refine Wp.region ?_;refine A3.o 22 (B (decide (y2<(ln x1.Leaves)))) ?_;refine A3.nil ?_;refine Wp.seq ?_;refine Wp.c h (fun h=>?_) (fun h=>?_)
    ·refine Wp.skip ?_;refine Wp.seq ?_;refine Wp.block ?_;refine Wp.seq ?_;refine Wp.region ?_;refine A3.o 23 (I y2) ?_;refine uI h 24 (fun _=>(.one (.ptr (.slot 19) 0 [0] (Int.toNat y2*2+0)))) ?_ (fun x2 gx2=>H0 (vA Mt (.slot 19) [] 0 gx2));intro x2 gx2 h;refine A3.o 25 (.agg [i6 x2.Is,ts x2.Text]) ?_ (H0 (ADr Mt (.slot 19) [0] gx2));refine Ld [] 7 [i6 0,ts (bs [])] ?_;refine A3.o 6 (I y2) ?_;refine A3.s [] (.box 7) [i6 x2.Is,ts x2.Text] ?_;refine A3.nil ?_;refine Wp.seq ?_;refine Wp.region ?_;refine A3.o 27 (.one (.ptr (.box 7) 1 [] 1)) ?_;refine A3.o 28 (Y x2.Text) ?_;refine X9 h 29 (fun v1=>(.tup [(.agg [i6 v1.1.Kind,i6 v1.1.Seq,i6 v1.1.Tx,i6 v1.1.Part,i6 v1.1.Count,ts v1.1.Text]),(B v1.2)])) rfl (l:=[.sv (.one (ts x2.Text))]) rfl (fun v hv=>gD x2.Text v hv) (.inl rfl) ?_;intro v1 gv1 h;refine iH 29 26 (.tup [(.agg [i6 v1.1.Kind,i6 v1.1.Seq,i6 v1.1.Tx,i6 v1.1.Part,i6 v1.1.Count,ts v1.1.Text]),(B v1.2)]) ?_;refine Sw 26 0 30 (.agg [i6 v1.1.Kind,i6 v1.1.Seq,i6 v1.1.Tx,i6 v1.1.Part,i6 v1.1.Count,ts v1.1.Text]) ?_;refine Sw 26 1 31 (B v1.2) ?_;refine Ld [] 8 [i6 0,i6 0,i6 0,i6 0,i6 0,ts (bs [])] ?_;refine A3.s [] (.box 8) [i6 v1.1.Kind,i6 v1.1.Seq,i6 v1.1.Tx,i6 v1.1.Part,i6 v1.1.Count,ts v1.1.Text] ?_;refine A3.o 9 (B v1.2) ?_;refine A3.nil ?_;refine Wp.seq ?_;refine Gd h [3,4,6,8,11,12,13,19,20,21,37] [.box 3,.box 8] (fun a=>(RU xF y1 x1 y2 b v1 a)) ?_ ?_
     ·intro a h;refine Wp.region ?_;refine A3.o 32 (B v1.2) ?_;refine A3.o 33 (B v1.2) ?_;refine PB h 33 (fun h=>?_) (fun h=>?_)
      ·refine A3.o 34 (.one (.ptr (.box 7) 1 [] 0)) ?_;refine A3.o 35 (I x2.Is) ?_;refine A3.o 36 (B (x2.Is==1)) ?_;refine A3.o 37 (B (x2.Is==1)) ?_;refine A3.nil ?_;cases h;exact⟨_,rfl,rfl,rfl⟩
      refine DY 34 ?_;refine DY 35 ?_;refine DY 36 ?_;refine A3.o 37 (B false) ?_;refine A3.nil ?_;cases h;exact⟨_,rfl,rfl,rfl⟩
     intro j1 h E hE;refine AY hE ?_;change Wp _ _ _ (RU xF y1 x1 y2 b v1 j1) _;refine Wp.c h (fun h=>?_) (fun h=>?_)
     ·refine Wp.region ?_;refine A3.o 38 (.one (.view (.box 3) 0 [] 0)) ?_;refine A3.o 39 (I y1) ?_;refine A3.o 40 (I y2) ?_;refine A3.o 41 (.agg [i6 v1.1.Kind,i6 v1.1.Seq,i6 v1.1.Tx,i6 v1.1.Part,i6 v1.1.Count,ts v1.1.Text]) ?_;refine A3.o 42 (.agg [i6 y1,i6 y2,i6 v1.1.Kind,i6 v1.1.Seq,i6 v1.1.Tx,i6 v1.1.Part,i6 v1.1.Count,ts v1.1.Text]) ?_;refine X8 false [] 43 (.one (Fz [(Ak.mk y1 y2 v1.1)])) ?_;refine AAQ h [(.box 3,[.junk])] 44 (fun q1=>(.one (Fz q1))) ?_ (fun q1 gq1=>Ni Ex (fun _=>rfl) [(.box 3,[.junk])] b gq1);intro q1 gq1 h;refine A3.s [(.slot 44,[.junk])] (.box 3) [Fz q1] ?_;refine A3.nil ?_;refine Wp.region ?_;refine A3.o 45 (I (ad y2 1)) ?_;refine A3.o 21 (I (ad y2 1)) ?_;refine A3.nil ?_;cases h;exact⟨_,rfl,rfl,rfl⟩
     refine Wp.skip ?_;refine Wp.region ?_;refine A3.o 45 (I (ad y2 1)) ?_;refine A3.o 21 (I (ad y2 1)) ?_;refine A3.nil ?_;cases h;exact⟨_,rfl,rfl,rfl⟩
    refine Wp.exit ?_;cases h;exact⟨_,rfl,rfl,rfl⟩
   intro v2 h E hE;refine AY hE ?_;change Wp _ _ _ (RV xF y1 v2) _;refine Wp.region ?_;refine A3.o 46 (I (ad y1 1)) ?_;refine A3.o 13 (I (ad y1 1)) ?_;refine A3.nil ?_;cases h;exact⟨_,rfl,rfl,rfl⟩
  refine Wp.exit ?_;cases h;exact⟨_,rfl,rfl,rfl⟩
 intro v3 h E hE;refine AY hE ?_;change Wp _ _ _ (RY v3) _;refine Wp.seq ?_;refine Wp.region ?_;refine A3.o 47 (.one (.view (.box 3) 0 [] 0)) ?_;refine AC3 h ?_;intro v4 gv4 h;refine A3.srt (x:=47) (p:=3) (d1:=48) (d2:=49) (d3:=50) (r:= .box 3) (Zi gv4) ?_ Ex AEd (hf:=⟨_,Tryz.func68,by decide,rfl⟩);refine A3.nil ?_;refine Wp.seq ?_;refine Wp.region ?_;refine A3.o 51 (.one (.view (.box 3) 1 [] 0)) ?_;refine X8 true [(.box 3,[.junk])] 2 (.one (Fz v4)) ?_;refine A3.nil ?_;cases h;exact Wp.ret ⟨.inr rfl,_,_,rfl,rfl⟩
def mM (a:Int) (v1:List Ak) (z1:Bool) (z2:Int) (z3:Int) (z4:Int) (z5:Int) (z6:Int) (z7:Int) (z8:Int) (z9:Int) (z10:ByteArray):St:=A9 [(1,(I a)),(4,(pb 4)),(6,(pb 6)),(7,(B z1)),(11,(.one (Fz v1))),(12,(I (ln v1))),(13,(I z2))] [(.box 4,[i6 0,i6 0,i6 0,i6 0,i6 0,i6 0,i6 0,ts (bs [])]),(.box 6,[i6 z3,i6 z4,i6 z5,i6 z6,i6 z7,i6 z8,i6 z9,ts z10])]
def mL (z11:Bool) (z12:Int) (z13:Int) (z14:Int) (z15:Int) (z16:Int) (z17:Int) (z18:Int) (z19:ByteArray):St:=A9 [(4,(pb 4)),(6,(pb 6)),(7,(B z11))] [(.box 4,[i6 0,i6 0,i6 0,i6 0,i6 0,i6 0,i6 0,ts (bs [])]),(.box 6,[i6 z12,i6 z13,i6 z14,i6 z15,i6 z16,i6 z17,i6 z18,ts z19])]
def mK (i:Int) (v1:List Ak) (j:Bool) (y1:Int) (a:Int) (b:Int) (c:Int) (d:Int) (e:Int) (f:Int) (g:Int) (h:ByteArray) (x1:Ak) (z20:Bool):St:=A9 [(1,(I i)),(4,(pb 4)),(6,(pb 6)),(7,(B j)),(9,(pb 9)),(11,(.one (Fz v1))),(12,(I (ln v1))),(13,(I y1)),(40,(B z20))] [(.box 4,[i6 0,i6 0,i6 0,i6 0,i6 0,i6 0,i6 0,ts (bs [])]),(.box 6,[i6 a,i6 b,i6 c,i6 d,i6 e,i6 f,i6 g,ts h]),(.box 9,[i6 x1.Block,i6 x1.Leaf,i6 x1.Page.Kind,i6 x1.Page.Seq,i6 x1.Page.Tx,i6 x1.Page.Part,i6 x1.Page.Count,ts x1.Page.Text])]
theorem QX (xF:Flash) (b:Int) (r:Ak×Bool) (h:Nw xF b=some r):AW Tryz.prog 44 [.sv (.agg (Sp false xF)),.sv (I b)] (.tup [(.agg (c54 r.1)),(B r.2)]) (rg 2):=by
 refine gk Tryz.func44 rfl Tryz.ntmps44 (ws (gw 3 0 (gw 1 0 (gn 1 0 (Wp.seq (ws (Ai 1 0 (RW.c 0 h (TF _) (fun v1 gv1 h=>RW.q (Dr Ex v1) (gn 1 0 (BM h [1,4,6,7,11,12,13] [.box 4,.box 6] (fun s=>(mM b v1 s.1 s.2.1 s.2.2.1 s.2.2.2.1 s.2.2.2.2.1 s.2.2.2.2.2.1 s.2.2.2.2.2.2.1 s.2.2.2.2.2.2.2.1 s.2.2.2.2.2.2.2.2.1 s.2.2.2.2.2.2.2.2.2)) [4,6,7] [.box 4,.box 6] (fun s=>(mL s.1 s.2.1 s.2.2.1 s.2.2.2.1 s.2.2.2.2.1 s.2.2.2.2.2.1 s.2.2.2.2.2.2.1 s.2.2.2.2.2.2.2.1 s.2.2.2.2.2.2.2.2)) EC ?_ ?_)))))))))))
 ·rintro⟨m,y1,d,e,f,g,i,j,k,l⟩ o (h:IJ b v1 m y1 d e f g i j k l=some o);refine ws (gn 1 0 (Wp.seq (wc h (fun h=>?_) (fun h=>?_))))
  ·refine Wp.skip (Wp.seq (Wp.block (ws (CS Ex h (fun x1 gx1 h=>RW.q (Re Ex gx1 0 8) (gn 2 0 (FD h [1,4,6,7,9,11,12,13,40] [.box 4,.box 6,.box 9] (fun a=>(mK b v1 m y1 d e f g i j k l x1 a)) (fun a h=>?_) (fun j1 h=>?_))))))))
   ·refine Au (Ai 5 0 (AO 21 h (fun h=>?_) (fun h=>?_)))
    ·refine Ai 7 0 (AO 28 h (fun h=>?_) (fun h=>?_))
     ·refine Ai 3 0 (AO 31 h (fun h=>?_) (fun h=>?_))
      ·exact gn 9 0 (jn h)
      exact gn 9 0 (jn h)
     exact gn 12 0 (jn h)
    exact gn 19 0 (jn h)
   refine wc h (fun h=>?_) (fun h=>?_)
   ·exact Au (gn 3 0 (Au (gn 2 0 (jl h))))
   exact Wp.skip (Au (gn 2 0 (jl h)))
  exact Wp.exit (jv h)
 intro v2 h E hE;exact AY hE (ws (gn 4 0 (Wp.ret (rr h▸rq))))
def YX (z1:ByteArray) (z2:List AJ):St:=A9 [(0,(Y z1)),(4,(.one (Hq z2)))] []
def YW (z3:List AJ):St:=A9 [(4,(.one (Hq z3)))] []
def YV (b:ByteArray) (a:List AJ) (x1:Int) (z4:Bool):St:=A9 [(0,(Y b)),(4,(.one (Hq a))),(5,(I (IntKind.i64.wrap x1))),(11,(B z4))] []
def YU (b:ByteArray) (a:List AJ) (x1:Int) (z5:Bool):St:=A9 [(0,(Y b)),(4,(.one (Hq a))),(5,(I (IntKind.i64.wrap x1))),(30,(B z5))] []
theorem fN (xT:ByteArray) (r:List AJ×Bool) (h:Ot xT=some r):AW Tryz.prog 70 [.sv (Y xT)] (.tup [(.one (Hq r.1)),(B r.2)]) (rg 1):=by
 refine gk Tryz.func70 rfl Tryz.ntmps70 (ws (gw 2 0 (gn 1 0 (sl2 h [0,4] [] (fun s=>(YX s.1 s.2)) [4] [] (fun s=>(YW s)) ?_ (fun v1 h=>?_)))))
 ·rintro⟨c,b⟩ o (h:Dv c b=some o) hk1;refine Wp.seq (ws (gn 2 0 (wc h (fun h=>?_) (fun h=>?_))))
  ·refine Wp.skip (Wp.block (ws (Ai 1 0 (bd h fun x1 gx1 h=>RW.q (iP gx1) (gn 2 0 (Wp.block (FD h [0,4,5,11] [] (fun a=>(YV c b x1 a)) (fun a h=>?_) (fun j1 h=>?_))))))))
   ·refine Au (Ai 3 0 (AO 14 h (fun h=>?_) (fun h=>?_)))
    ·exact gn 5 0 (jn h)
    exact gn 5 0 (jn h)
   refine wc h (fun h=>?_) (fun h=>?_)
   ·exact ws (Ai 2 0 (bd h fun x2 gx2 h=>RW.q (iP gx2) (Ai 5 0 (bd h fun q1 gq1 h=>CR (DK EW (fun _=>rfl) b gq1) (gn 1 1 (Au (Ai 1 0 (bd h fun x3 gx3 h=>RW.q (Pr gx3) (gn 1 0 (jl h))))))))))
   refine FD h [0,4,5,30] [] (fun a=>(YU c b x1 a)) (fun a h=>?_) (fun j2 h=>?_)
   ·refine Au (Ai 3 0 (AO 33 h (fun h=>?_) (fun h=>?_)))
    ·exact gn 6 0 (jn h)
    exact gn 6 0 (jn h)
   refine wc h (fun h=>?_) (fun h=>?_)
   ·exact ws (Ai 4 0 (bd h fun x4 gx4 h=>RW.q (Pr gx4) (Ai 2 0 (bd h fun q2 gq2 h=>CR (DK EW (fun _=>rfl) b gq2) (gn 1 1 (Au (Ai 3 0 (bd h fun x5 gx5 h=>RW.q (Pr gx5) (gn 1 0 (jl h))))))))))
   exact ws (gn 2 0 (Wp.ret (rr (jo h hk1)▸rq)))
  exact Wp.exit (jx h)
 exact ws (gn 3 2 (Wp.ret (rr h▸rq)))
def gK (a:List AJ) (z1:List Int) (z2:Int):St:=A9 [(4,(.one (fD z1))),(7,(.one (MD a))),(8,(I (ln a))),(9,(I z2))] []
def gJ (z3:List Int):St:=A9 [(4,(.one (fD z3)))] []
def gI (a:List AJ) (y1:Int) (z4:List Int):St:=A9 [(4,(.one (fD z4))),(7,(.one (MD a))),(8,(I (ln a))),(9,(I y1))] []
def gH (a:List AJ) (b:List Int) (y1:Int) (x1:AJ) (z5:Bool):St:=A9 [(4,(.one (fD b))),(6,(pb 6)),(7,(.one (MD a))),(8,(I (ln a))),(9,(I y1)),(25,(B z5))] [(.box 6,[i6 x1.Back,i6 x1.Size,ts x1.Text])]
def gG (a:List AJ) (b:List Int) (y1:Int) (x1:AJ) (z6:Bool):St:=A9 [(4,(.one (fD b))),(6,(pb 6)),(7,(.one (MD a))),(8,(I (ln a))),(9,(I y1)),(46,(B z6))] [(.box 6,[i6 x1.Back,i6 x1.Size,ts x1.Text])]
def gF (a:List AJ) (y1:Int) (x1:AJ) (z7:List Int) (z8:Int):St:=A9 [(4,(.one (fD z7))),(6,(pb 6)),(7,(.one (MD a))),(8,(I (ln a))),(9,(I y1)),(48,(I x1.Size)),(49,(I z8))] [(.box 6,[i6 x1.Back,i6 x1.Size,ts x1.Text])]
def gE (a:List AJ) (y1:Int) (z9:List Int):St:=A9 [(4,(.one (fD z9))),(7,(.one (MD a))),(8,(I (ln a))),(9,(I y1))] []
theorem mQ (b:List AJ) (r:ByteArray×Bool) (h:Ny b=some r):AW Tryz.prog 71 [.sv (.one (MD b))] (.tup [(Y r.1),(B r.2)]) (rg 1):=by
 refine gk Tryz.func71 rfl Tryz.ntmps71 (ws (gw 2 0 (gn 1 0 (Wp.seq (ws (Ai 1 0 (RW.q (Dr EW b) (gn 1 0 (ED h [4,7,8,9] [] (fun s=>(gK b s.1 s.2)) [4] [] (fun s=>(gJ s)) EC ?_ ?_)))))))))
 ·rintro⟨d,y1⟩ o (h:Lt b d y1=some o) hk1;refine ws (gn 1 0 (Wp.seq (wc h (fun h=>?_) (fun h=>?_))))
  ·refine Wp.skip (Wp.seq (Wp.block (ws (CS EW h (fun x1 gx1 h=>RW.q (Re EW gx1 0 3) (gn 2 0 (Wp.seq (ws (gn 3 0 (nI h [4,7,8,9] [] (fun a=>(gI b y1 a)) ?_ ?_))))))))))
   ·intro a h g;refine wc h (fun h=>?_) (fun h=>?_)
    ·refine Wp.seq (FD h [4,6,7,8,9,25] [.box 6] (fun a=>(gH b d y1 x1 a)) (fun a h=>?_) (fun j2 h=>?_))
     ·refine Au (Ai 4 0 (AO 19 h (fun h=>?_) (fun h=>?_)))
      ·exact gn 6 0 (jn h)
      exact Ai 3 0 (RW.c 0 h (Mh _ _ _) (fun v1 gv1 h=>gn 2 0 (jn h)))
     refine wc h (fun h=>?_) (fun h=>?_)
     ·exact ws (gn 2 0 (Wp.ret (rr (jo (jr h g) hk1)▸rq)))
     exact Wp.skip (Au (Ai 3 0 (bd h fun q1 gq1 h=>CR (rL (f:=c5) (fun _=>rfl) d gq1) (gn 1 1 (jm h)))))
    refine Wp.seq (FD h [4,6,7,8,9,46] [.box 6] (fun a=>(gG b d y1 x1 a)) (fun a h=>?_) (fun j3 h=>?_))
    ·refine Au (Ai 3 0 (RW.q (Dr k5 d) (RW.c 0 h (Mh _ _ _) (fun v2 gv2 h=>Ai 2 0 (AO 36 h (fun h=>?_) (fun h=>?_))))))
     ·exact gn 10 0 (jn h)
     refine Ai 2 0 (RW.c 0 h (Mh _ _ _) (fun v3 gv3 h=>Ai 3 0 (AO 42 h (fun h=>?_) (fun h=>?_))))
     ·exact gn 4 0 (jn h)
     exact gn 4 0 (jn h)
    refine wc h (fun h=>?_) (fun h=>?_)
    ·exact ws (gn 2 0 (Wp.ret (rr (jo (jr h g) hk1)▸rq)))
    refine Wp.skip (ws (gn 3 0 (BM h [4,6,7,8,9,48,49] [.box 6] (fun s=>(gF b y1 x1 s.1 s.2)) [4,7,8,9] [] (fun s=>(gE b y1 s)) EC ?_ ?_)))
    ·rintro⟨e,y2⟩ o (h:Oy x1 e y2=some o);refine ws (gn 1 0 (Wp.seq (wc h (fun h=>?_) (fun h=>?_))))
     ·exact Wp.skip (Wp.seq (Wp.block (Au (Ai 3 0 (RW.q (Dr k5 e) (Ai 3 0 (CS k5 h (fun x2 gx2 h=>RW.q (CA k5 gx2 0) (Ai 1 0 (bd h fun q2 gq2 h=>CR (DK k5 (fun _=>rfl) e gq2) (gn 1 1 (Au (gn 2 0 (jl h))))))))))))))
     exact Wp.exit (jv h)
    intro v4 h E hE;cases h;exact⟨_,rfl,hE⟩
   intro j1 h E hE;refine AY hE (ws (Ai 1 0 (RW.q (Dr k5 j1) (gn 1 0 (wc h (fun h=>?_) (fun h=>?_))))))
   ·exact ws (gn 2 0 (Wp.ret (rr (jo h hk1)▸rq)))
   exact Wp.skip (Au (gn 2 0 (jl h)))
  exact Wp.exit (jx h)
 intro v5 h E hE;exact AY hE (ws (Ai 1 0 (RW.q (pcv (f:=c5) (fun _=>rfl) v5) (gn 2 0 (Wp.ret (rr h▸rq))))))
def fV (xS:ByteArray) (a:Int) (z1:Int) (z2:Int) (z3:Int):St:=A9 [(0,(Y xS)),(1,(I a)),(6,(I z1)),(7,(I z2)),(8,(I z3))] []
def fU (z4:Int) (z5:Int):St:=A9 [(6,(I z4)),(7,(I z5))] []
def fT (xS:ByteArray) (d:Int) (a:Int) (b:Int) (c:Int) (z6:Int):St:=A9 [(0,(Y xS)),(1,(I d)),(6,(I a)),(7,(I b)),(8,(I c)),(9,(I z6))] []
def fS (xS:ByteArray) (d:Int) (a:Int) (b:Int) (c:Int) (z7:Int):St:=A9 [(0,(Y xS)),(1,(I d)),(6,(I a)),(7,(I b)),(8,(I c)),(9,(I z7))] []
def fR (xS:ByteArray) (d:Int) (a:Int) (b:Int) (c:Int) (e:Int) (z8:Bool):St:=A9 [(0,(Y xS)),(1,(I d)),(6,(I a)),(7,(I b)),(8,(I c)),(9,(I e)),(38,(B z8))] []
def fQ (xS:ByteArray) (d:Int) (a:Int) (b:Int) (c:Int) (v1:Int) (z9:Bool):St:=A9 [(0,(Y xS)),(1,(I d)),(6,(I a)),(7,(I b)),(8,(I c)),(9,(I v1)),(47,(B z9))] []
theorem mJ (xS:ByteArray) (e:Int) (r:Int×Int) (h:Qa xS e=some r):AW Tryz.prog 118 [.sv (Y xS),.sv (I e)] (.tup [(I r.1),(I r.2)]) (rg 2):=by
 refine gk Tryz.func118 rfl Tryz.ntmps118 (ws (gw 2 0 (gn 2 0 (Wp.seq (ws (gn 3 0 (BM h [0,1,6,7,8] [] (fun s=>(fV xS e s.1 s.2.1 s.2.2)) [6,7] [] (fun s=>(fU s.1 s.2)) EC ?_ ?_)))))))
 ·rintro⟨c,d,b⟩ o (h:Gw xS e c d b=some o);refine Wp.seq (ws (gn 2 0 (wc h (fun h=>?_) (fun h=>?_))))
  ·refine Wp.skip (Wp.seq (Wp.block (ws (gn 1 0 (sl1 h [0,1,6,7,8,9] [] (fun s=>(fT xS e c d b s)) [0,1,6,7,8,9] [] (fun s=>(fS xS e c d b s)) ?_ (fun v1 h=>?_))))))
   ·rintro f o (h:E9 xS e b f=some o);refine Wp.seq (FD h [0,1,6,7,8,9,38] [] (fun a=>(fR xS e c d b f a)) (fun a h=>?_) (fun j1 h=>?_))
    ·refine KF mixed (Dn 3 (X3 18 h (fun h=>?_) (fun h=>?_)))
     ·refine Dn 8 (X3 26 h (fun h=>?_) (fun h=>?_))
      ·exact Dn 4 (bd h fun x1 gx1 h=>SW.q (iP gx1) (Dn 4 (bd h fun x2 gx2 h=>SW.q (iP gx2) (Dn 2 (SW.nil (jn h))))))
      exact Dn 12 (SW.nil (jn h))
     exact Dn 20 (SW.nil (jn h))
    refine wc h (fun h=>?_) (fun h=>?_)
    ·exact Wp.skip (Wp.block (Au (gn 3 0 (jl h))))
    exact Wp.exit (jv h)
   refine FD h [0,1,6,7,8,9,47] [] (fun a=>(fQ xS e c d b v1 a)) (fun a h=>?_) (fun j2 h=>?_)
   ·refine Au (Ai 3 0 (AO 43 h (fun h=>?_) (fun h=>?_)))
    ·exact gn 4 0 (jn h)
    exact gn 4 0 (jn h)
   refine wc h (fun h=>?_) (fun h=>?_)
   ·exact Au (gn 6 0 (Au (gn 3 0 (jl h))))
   exact Wp.skip (Au (gn 3 0 (jl h)))
  exact Wp.exit (jv h)
 intro v2 h E hE;exact AY hE (ws (gn 4 0 (Wp.ret (rr h▸rq))))
def Zg (xS:ByteArray) (z1:List AJ) (z2:Int):St:=A9 [(0,(Y xS)),(3,(.one (Hq z1))),(4,(I z2))] []
def Zf (z3:List AJ):St:=A9 [(3,(.one (Hq z3)))] []
def Ze (xS:ByteArray) (a:List AJ) (b:Int) (z4:Bool):St:=A9 [(0,(Y xS)),(3,(.one (Hq a))),(4,(I b)),(7,(I (sb (ln a) 1))),(53,(B z4))] []
def Zd (xS:ByteArray) (a:Int) (z5:List AJ) (z6:Int):St:=A9 [(0,(Y xS)),(3,(.one (Hq z5))),(4,(I a)),(7,(I z6))] []
theorem fY (xS:ByteArray) (r:List AJ) (h:Ow xS=some r):AW Tryz.prog 84 [.sv (Y xS)] (.one (Hq r)) (rg 1):=by
 refine gk Tryz.func84 rfl Tryz.ntmps84 (ws (gn 1 0 (Wp.seq (ws (gn 3 0 (wc h (fun h=>?_) (fun h=>?_)))))))
 ·exact ws (gn 1 0 (Wp.ret (rr h▸rq)))
 refine Wp.skip (ws (gn 1 0 (Wp.seq (ws (gn 1 0 (BM h [0,3,4] [] (fun s=>(Zg xS s.1 s.2)) [3] [] (fun s=>(Zf s)) EC ?_ ?_))))))
 ·rintro⟨b,d⟩ o (h:Kr xS b d=some o);refine Wp.seq (ws (gn 4 0 (wc h (fun h=>?_) (fun h=>?_))))
  ·refine Wp.skip (Wp.block (ws (Ai 2 0 (RW.c 0 h (mJ _ _) (fun v1 gv1 h=>gn 5 1 (Wp.seq (ws (gn 2 0 (wc h (fun h=>?_) (fun h=>?_))))))))))
   ·exact ws (Ai 5 0 (bd h fun q1 gq1 h=>CR (DK EW (fun _=>rfl) b gq1) (gw 1 1 (gn 4 0 (Wp.exit (jl h))))))
   refine Wp.skip (ws (Ai 1 0 (RW.q (Dr EW b) (gn 2 0 (Wp.seq (FD h [0,3,4,7,53] [] (fun a=>(Ze xS b d a)) (fun a h=>?_) (fun j1 h=>?_)))))))
   ·refine Au (Ai 3 0 (AO 37 h (fun h=>?_) (fun h=>?_)))
    ·exact gn 16 0 (jn h)
    refine Ai 2 0 (CS EW h (fun x1 gx1 h=>RW.q (D8 EW gx1 0 0) (RW.q (CA EW gx1 0) (Ai 3 0 (AO 45 h (fun h=>?_) (fun h=>?_))))))
    ·exact gn 8 0 (jn h)
    exact Ai 2 0 (CS EW h (fun x2 gx2 h=>RW.q (D8 EW gx2 0 2) (RW.q (CA EW gx2 2) (gn 3 0 (jn h)))))
   refine Gd h [0,3,4,7] [] (fun a=>(Zd xS d a.1 a.2)) ?_ ?_
   ·intro a h;refine wc h (fun h=>?_) (fun h=>?_)
    ·exact ws (Ai 3 0 (bd h fun q2 gq2 h=>CR (DK EW (fun _=>rfl) b gq2) (gn 1 1 (Au (gn 3 0 (jn h))))))
    exact Wp.skip (jn h)
   intro j2 h E hE;exact AY hE (Wp.seq (Sv 13 mixed (Dn 2 (bd h fun x3 gx3 h=>SW.q (IR EW gx3) (SW.q (D8 EW gx3 0 2) (SW.q (CA EW gx3 2) (Dn 4 (bd h fun x4 gx4 h=>SW.q (Pr gx4) (bd h fun x5 gx5 h=>SW.q (OL gx5) (bd h fun x6 gx6 h=>SW.q (IR EW gx6) (SW.q (D8 EW gx6 0 2) (SW.nil (CR (N2 EW gx6 2 0 (AJ.mk x6.Back x6.Size x5)) (RW.nil (Au (gn 3 0 (jl h)))))))))))))))))
  exact Wp.exit (jv h)
 intro v2 h E hE;exact AY hE (ws (gn 2 2 (Wp.ret (rr h▸rq))))
def Zo (xS:ByteArray) (v1:List AJ) (z1:List Int) (z2:Int):St:=A9 [(0,(Y xS)),(4,(.one (fD z1))),(12,(.one (Hq v1))),(13,(I (ln v1))),(14,(I z2))] []
def Zn (xS:ByteArray) (z3:List Int):St:=A9 [(0,(Y xS)),(4,(.one (fD z3)))] []
def Zm (xS:ByteArray) (v1:List AJ) (y1:Int) (z4:List Int):St:=A9 [(0,(Y xS)),(4,(.one (fD z4))),(12,(.one (Hq v1))),(13,(I (ln v1))),(14,(I y1))] []
theorem gL (xS:ByteArray) (r:ByteArray×Bool) (h:Mi xS=some r):AW Tryz.prog 53 [.sv (Y xS)] (.tup [(Y r.1),(B r.2)]) (rg 1):=by
 refine gk Tryz.func53 rfl Tryz.ntmps53 (ws (gn 2 0 (Wp.seq (ws (gn 3 0 (wc h (fun h=>?_) (fun h=>?_)))))))
 ·exact ws (gn 2 0 (Wp.ret (rr h▸rq)))
 refine Wp.skip (ws (gn 2 2 (Wp.seq (ws (Ai 1 0 (RW.c 0 h (fY _) (fun v1 gv1 h=>RW.q (Dr EW v1) (gn 1 0 (BM h [0,4,12,13,14] [] (fun s=>(Zo xS v1 s.1 s.2)) [0,4] [] (fun s=>(Zn xS s)) EC ?_ ?_)))))))))
 ·rintro⟨b,y1⟩ o (h:HZ v1 b y1=some o);refine ws (gn 1 0 (Wp.seq (wc h (fun h=>?_) (fun h=>?_))))
  ·refine Wp.skip (Wp.seq (Wp.block (ws (CS EW h (fun x1 gx1 h=>RW.q (Re EW gx1 0 3) (gw 2 0 (gn 3 0 (Gd h [0,4,12,13,14] [] (fun a=>(Zm xS v1 y1 a)) ?_ ?_))))))))
   ·intro a h;refine wc h (fun h=>?_) (fun h=>?_)
    ·exact Au (Ai 9 0 (bd h fun q1 gq1 h=>CR (DK k5 (fun _=>rfl) b gq1) (gn 1 1 (jn h))))
    refine DZ [6,9] mixed (fun c E h=>by rcases h with⟨h|h,_⟩<;>cases h) (Bl [0,1,2,3,4] 0 (DW 5 7 ?_ ?_))
    ·refine KB.o false (DW 6 7 ?_ ?_)
     ·exact bd h fun q4 gq4 h=>Ms (DK k5 (fun _=>rfl) b gq4) (Bl [7,8] 0 (B8 9 (bd h fun q5 gq5 h=>Ms (rL (f:=c5) (fun _=>rfl) q4 gq5) (Bl [10] 1 (Bk (jn h))))))
     refine KB.o false (DW 6 8 ?_ ?_)
     ·exact bd h fun q7 gq7 h=>Ms (DK k5 (fun _=>rfl) b gq7) (Bl [8] 0 (B8 9 (bd h fun q8 gq8 h=>Ms (rL (f:=c5) (fun _=>rfl) q7 gq8) (Bl [10] 1 (Bk (jn h))))))
     exact KB.o false (B8 6 (bd h fun q9 gq9 h=>Ms (DK k5 (fun _=>rfl) b gq9) (B8 9 (bd h fun q10 gq10 h=>Ms (rL (f:=c5) (fun _=>rfl) q9 gq10) (Bl [10] 1 (Bk (jn h)))))))
    refine KB.o false (DW 5 8 ?_ ?_)
    ·refine KB.o false (DW 6 8 ?_ ?_)
     ·exact bd h fun q13 gq13 h=>Ms (DK k5 (fun _=>rfl) b gq13) (Bl [8] 0 (B8 9 (bd h fun q14 gq14 h=>Ms (rL (f:=c5) (fun _=>rfl) q13 gq14) (Bl [10] 1 (Bk (jn h))))))
     exact KB.o false (B8 6 (bd h fun q15 gq15 h=>Ms (DK k5 (fun _=>rfl) b gq15) (B8 9 (bd h fun q16 gq16 h=>Ms (rL (f:=c5) (fun _=>rfl) q15 gq16) (Bl [10] 1 (Bk (jn h)))))))
    exact KB.o false (Bl [5] 0 (B8 6 (bd h fun q17 gq17 h=>Ms (DK k5 (fun _=>rfl) b gq17) (B8 9 (bd h fun q18 gq18 h=>Ms (rL (f:=c5) (fun _=>rfl) q17 gq18) (Bl [10] 1 (Bk (jn h))))))))
   intro j1 h E hE;exact AY hE (Au (gn 2 0 (jl h)))
  exact Wp.exit (jv h)
 intro v2 h E hE;refine AY hE (Wp.seq (ws (Ai 4 0 (RW.q (Dr k5 v2) (gn 1 0 (wc h (fun h=>?_) (fun h=>?_)))))))
 ·exact ws (Ai 1 0 (bd h fun x2 gx2 h=>RW.q (OL gx2) (gn 2 0 (Wp.ret (rr h▸rq)))))
 exact Wp.skip (ws (Ai 1 0 (RW.q (pcv (f:=c5) (fun _=>rfl) v2) (gn 2 0 (Wp.ret (rr h▸rq))))))
def UE (xT:ByteArray) (z1:ByteArray):St:=A9 [(0,(Y xT)),(4,(Y z1))] []
def UD (j1:ByteArray) (z2:Bool):St:=A9 [(4,(Y j1)),(46,(B z2))] []
theorem WV (xT:ByteArray) (r:ByteArray×Bool) (h:Ls xT=some r):AW Tryz.prog 45 [.sv (Y xT)] (.tup [(Y r.1),(B r.2)]) (rg 1):=by
 refine gk Tryz.func45 rfl Tryz.ntmps45 (ws (gn 2 0 (Wp.seq (ws (gn 2 0 (wc h (fun h=>?_) (fun h=>?_)))))))
 ·exact ws (gn 2 0 (Wp.ret (rr h▸rq)))
 refine Wp.skip (ws (Ai 1 0 (bd h fun x1 gx1 h=>RW.q (Pr gx1) (gn 1 0 (Wp.seq (ws (Ai 1 0 (bd h fun x2 gx2 h=>RW.q (iP gx2) (gn 1 0 (nI h [0,4] [] (fun a=>(UE xT a)) ?_ ?_))))))))))
 ·intro a h b;refine wc h (fun h=>?_) (fun h=>?_)
  ·refine ws (Ai 1 0 (RW.c 0 h (fN _) (fun v1 gv1 h=>gw 5 9 (Ai 1 0 (RW.c 0 h (gs (ca (co (cs (AB1 _))) rfl) (mQ _)) (fun v2 gv2 h=>gn 5 1 (Wp.seq (ws (Ai 3 0 (AO 30 h (fun h=>?_) (fun h=>?_)))))) (hc:=(.inr (fun v=>rfl))))))))
   ·exact gn 3 0 (wt (ws (gn 2 0 (Wp.ret (rr (jr h b)▸rq)))))
   refine gn 3 0 (wc h (fun h=>?_) (fun h=>?_))
   ·exact ws (gn 2 0 (Wp.ret (rr (jr h b)▸rq)))
   exact Wp.skip (Au (gn 2 0 (jm h)))
  exact Wp.skip (jm h)
 intro j1 h E hE;refine AY hE (ws (Ai 1 0 (RW.c 0 h (gL _) (fun v3 gv3 h=>gn 5 1 (Wp.seq (FD h [4,46] [] (fun a=>(UD j1 a)) (fun a h=>?_) (fun j2 h=>?_)))))))
 ·refine Au (Ai 3 0 (AO 42 h (fun h=>?_) (fun h=>?_)))
  ·exact gn 4 0 (jn h)
  exact gn 4 0 (jn h)
 refine wc h (fun h=>?_) (fun h=>?_)
 ·exact ws (gn 2 0 (Wp.ret (rr h▸rq)))
 exact Wp.skip (ws (gn 3 0 (Wp.ret (rr h▸rq))))
theorem MX (xF:Flash) (a:Int) (r:ByteArray×Bool) (h:Ht xF a=some r):AW Tryz.prog 18 [.sv (.agg (Sp false xF)),.sv (I a)] (.tup [(Y r.1),(B r.2)]) (rg 2):=by
 refine gk Tryz.func18 rfl Tryz.ntmps18 (ws (gw 3 0 (Ai 2 0 (RW.c 0 h (QX _ _) (fun v1 gv1 h=>gn 6 1 (Wp.seq (ws (gn 2 0 (wc h (fun h=>?_) (fun h=>?_))))))))))
 ·exact ws (gn 2 0 (Wp.ret (rr h▸rq)))
 exact Wp.skip (ws (Ai 3 0 (RW.c 0 h (WV _) (fun v2 gv2 h=>gn 4 0 (Wp.ret (rr h▸rq))))))
theorem qV (xF:Flash) (a:Int) (r:Int×Int×Bool) (h:RS xF a=some r):AW Tryz.prog 19 [.sv (.agg (Sp false xF)),.sv (I a)] (.tup [(I r.1),(I r.2.1),(B r.2.2)]) (rg 2):=by
 exact gk Tryz.func19 rfl Tryz.ntmps19 (ws (gw 4 0 (Ai 2 0 (RW.c 0 h (QX _ _) (fun v1 gv1 h=>gn 6 1 (Wp.seq (KF mixed (Dn 8 (SW.nil (Wp.ret (rr h▸rq)))))))))))
def Zt (xF:Flash) (a:List Int) (b:ByteArray) (z1:Int):St:=A9 [(2,(Y b)),(3,(pb 3)),(11,(.one (OQ a))),(12,(I (ln a))),(13,(I z1))] [(.box 3,[CQ xF.Blocks])]
def Zs:St:=A9 [] []
theorem Sc (xF:Flash) (a:List Int) (b:ByteArray) (r:Int) (h:JW xF a b=some r):AW Tryz.prog 22 [.sv (.agg (Sp false xF)),.sv (.one (OQ a)),.sv (Y b)] (I r) (rg 3):=by
 refine gk Tryz.func22 rfl Tryz.ntmps22 (ws (gn 2 0 (Wp.seq (ws (Ai 1 0 (RW.q (Dr k3 a) (gn 1 0 (ED h [2,3,11,12,13] [.box 3] (fun s=>(Zt xF a b s)) [] [] (fun _=>Zs) EC ?_ ?_))))))))
 ·rintro y1 o (h:Ib xF a b y1=some o) hk1;refine ws (gn 1 0 (Wp.seq (wc h (fun h=>?_) (fun h=>?_))))
  ·refine Wp.skip (Wp.seq (Wp.block (ws (CS k3 h (fun x1 gx1 h=>RW.q (CA k3 gx1 0) (gw 1 0 (Ai 2 0 (RW.c 0 h (MX _ _) (fun v1 gv1 h=>gw 5 1 (Ai 2 0 (AO 24 h (fun h=>?_) (fun h=>?_))))))))))))
   ·refine gn 4 0 (wc h (fun h=>?_) (fun h=>?_))
    ·exact ws (gn 2 0 (Wp.ret (rr (jo h hk1)▸rq)))
    exact Wp.skip (Au (gn 2 0 (jl h)))
   exact gn 4 0 (wf (Wp.skip (Au (gn 2 0 (jl h)))))
  exact Wp.exit (jx h)
 intro v2 h E hE;exact AY hE (ws (gn 1 0 (Wp.ret (rr h▸rq))))
theorem qU (xA:Arena) (a:Int) (r:Bool) (h:RR xA a=some r):AW Tryz.prog 102 [.sv (.agg (Xs false xA)),.sv (I a)] (B r) (rg 2):=by
 refine gk Tryz.func102 rfl Tryz.ntmps102 (ws (gw 2 0 (Ai 3 0 (RW.q (Dr (CG false) xA.Knots) (Ai 1 0 (RW.c 0 h (Mh _ _ _) (fun v1 gv1 h=>Ai 1 0 (AO 11 h (fun h=>?_) (fun h=>?_)))))))))
 ·exact Ai 3 0 (CS (CG false) h (fun x1 gx1 h=>RW.q (D8 (CG false) gx1 0 0) (RW.q (CA (CG false) gx1 0) (gn 3 0 (Wp.ret (rr h▸rq))))))
 exact gn 9 0 (Wp.ret (rr h▸rq))
end Go.TI
