/- That they compute it. No condition. -/
import Derived.Test.YtiemmklnnjembaaGreatPLW0
namespace Go.TI
open Go Go.Proofs
set_option maxRecDepth 100000
def Yb (xS:ByteArray) (a:Int) (b:Int) (z1:Int):St:=AA [(0,(Y xS)),(1,(I a)),(2,(I b)),(7,(I z1))] []
def Ya (z2:Int):St:=AA [(7,(I z2))] []
def XZ (xS:ByteArray) (a:Int) (b:Int) (c:Int) (z3:Bool):St:=AA [(0,(Y xS)),(1,(I a)),(2,(I b)),(7,(I c)),(30,(B z3))] []
theorem cL (xS:ByteArray) (b:Int) (c:Int) (r:Int) (h:LQ xS b c=some r):AU Tryz.prog 119 [.sv (Y xS),.sv (I b),.sv (I c)] (I r) (rg 3):=by
 refine gk Tryz.func119 rfl Tryz.ntmps119 (ws (gw 1 0 (gn 1 0 (sl1 h [0,1,2,7] [] (fun s=>(Yb xS b c s)) [7] [] (fun s=>(Ya s)) ?_ (fun v1 h=>?_)))))
 ·rintro d o (h:GC xS b c d=some o);refine Wp.seq (Fk h [0,1,2,7,30] [] (fun a=>(XZ xS b c d a)) (fun a h=>?_) (fun j1 h=>?_))
  ·refine KH mixed (Dl 3 (X4 10 h (fun h=>?_) (fun h=>?_)))
   ·refine Dl 8 (X4 18 h (fun h=>?_) (fun h=>?_))
    ·exact Dl 4 (bd h fun x1 gx1 h=>SW.q (iW gx1) (Dl 4 (bd h fun x2 gx2 h=>SW.q (iW gx2) (Dl 2 (SW.nil (jn h))))))
    exact Dl 12 (SW.nil (jn h))
   exact Dl 20 (SW.nil (jn h))
  refine wc h (fun h=>?_) (fun h=>?_)
  ·exact Wp.skip (Wp.block (As (gn 3 0 (jl h))))
  exact Wp.exit (jv h)
 exact ws (gn 2 0 (Wp.ret (rr h▸rq)))
def Ym (xS:ByteArray) (z1:List AK) (z2:Int):St:=AA [(0,(Y xS)),(3,(.one (Hv z1))),(4,(I z2))] []
def Yl (z3:List AK):St:=AA [(3,(.one (Hv z3)))] []
def Yk (xS:ByteArray) (a:List AK) (b:Int) (z4:Int) (z5:Int) (z6:Int):St:=AA [(0,(Y xS)),(3,(.one (Hv a))),(4,(I b)),(5,(I z4)),(6,(I z5)),(7,(I z6))] []
def Yj (xS:ByteArray) (a:List AK) (b:Int) (z7:Int) (z8:Int):St:=AA [(0,(Y xS)),(3,(.one (Hv a))),(4,(I b)),(5,(I z7)),(6,(I z8))] []
def Yi (xS:ByteArray) (d:List AK) (e:Int) (a:Int) (b:Int) (c:Int) (v1:Int) (z9:Bool):St:=AA [(0,(Y xS)),(3,(.one (Hv d))),(4,(I e)),(5,(I a)),(6,(I b)),(7,(I c)),(8,(I v1)),(35,(B z9))] []
def Yh (xS:ByteArray) (a:List AK) (b:Int) (z10:Bool):St:=AA [(0,(Y xS)),(3,(.one (Hv a))),(4,(I b)),(9,(I (sb (ln a) 1))),(72,(B z10))] []
theorem cU (xS:ByteArray) (r:List AK) (h:JM xS=some r):AU Tryz.prog 86 [.sv (Y xS)] (.one (Hv r)) (rg 1):=by
 refine gk Tryz.func86 rfl Tryz.ntmps86 (ws (gw 1 0 (gn 2 2 (Wp.seq (ws (gn 3 0 (wc h (fun h=>?_) (fun h=>?_))))))))
 ·exact ws (gn 2 2 (Wp.ret (rr h▸rq)))
 refine Wp.skip (ws (gn 1 0 (sl1 h [0,3,4] [] (fun s=>(Ym xS s.1 s.2)) [3] [] (fun s=>(Yl s)) ?_ (fun v3 h=>?_))))
 ·rintro⟨b,d⟩ o (h:Ck xS b d=some o);refine Wp.seq (ws (gn 4 0 (wc h (fun h=>?_) (fun h=>?_))))
  ·refine Wp.skip (Wp.block (ws (gw 1 0 (gn 1 0 (Wp.seq (ws (gn 3 0 (BP h [0,3,4,5,6,7] [] (fun s=>(Yk xS b d s.1 s.2.1 s.2.2)) [0,3,4,5,6] [] (fun s=>(Yj xS b d s.1 s.2)) EG ?_ ?_))))))))
   ·rintro⟨e,f,g⟩ o (h:Eb xS d e f g=some o);refine Wp.seq (ws (gn 2 0 (wc h (fun h=>?_) (fun h=>?_))))
    ·refine Wp.skip (Wp.seq (Wp.block (ws (Ai 3 0 (RW.c 0 h (cL _ _ _) (fun v1 gv1 h=>gn 1 0 (Fk h [0,3,4,5,6,7,8,35] [] (fun a=>(Yi xS b d e f g v1 a)) (fun a h=>?_) (fun j1 h=>?_))))))))
     ·refine As (Ai 3 0 (AJ 31 h (fun h=>?_) (fun h=>?_)))
      ·exact gn 4 0 (jn h)
      exact gn 4 0 (jn h)
     refine wc h (fun h=>?_) (fun h=>?_)
     ·exact ws (gn 2 0 (As (gn 4 0 (As (gn 3 0 (jl h))))))
     exact Wp.skip (As (gn 3 0 (jl h)))
    exact Wp.exit (jv h)
   intro v2 h E hE;refine AX hE (Wp.seq (ws (gn 2 0 (wc h (fun h=>?_) (fun h=>?_)))))
   ·exact ws (Ai 5 0 (bd h fun q1 gq1 h=>CV (DN EY (fun _=>rfl) b gq1) (gw 1 1 (gn 4 0 (Wp.exit (jl h))))))
   refine Wp.skip (ws (Ai 1 0 (RW.q (Di EY b) (gn 2 0 (Wp.seq (Fk h [0,3,4,9,72] [] (fun a=>(Yh xS b d a)) (fun a h=>?_) (fun j2 h=>?_)))))))
   ·refine As (Ai 3 0 (AJ 56 h (fun h=>?_) (fun h=>?_)))
    ·refine Ai 2 0 (CU EY h (fun x1 gx1 h=>RW.q (DA EY gx1 0 0) (RW.q (CH EY gx1 0) (Ai 3 0 (AJ 64 h (fun h=>?_) (fun h=>?_))))))
     ·exact Ai 2 0 (CU EY h (fun x2 gx2 h=>RW.q (DA EY gx2 0 2) (RW.q (CH EY gx2 2) (gn 3 0 (jn h)))))
     exact gn 8 0 (jn h)
    exact gn 16 0 (jn h)
   refine wc h (fun h=>?_) (fun h=>?_)
   ·exact Sp 15 mixed (Dl 4 (bd h fun x3 gx3 h=>SW.q (Jo EY gx3) (SW.q (DA EY gx3 0 2) (SW.q (CH EY gx3 2) (Dl 4 (bd h fun x4 gx4 h=>SW.q (Pv gx4) (bd h fun x5 gx5 h=>SW.q (ON gx5) (bd h fun x6 gx6 h=>SW.q (Jo EY gx6) (SW.q (DA EY gx6 0 2) (SW.nil (CV (Ny EY gx6 2 0 (AK.mk x6.Back x6.Size x5)) (RW.nil (As (gn 3 0 (jl h)))))))))))))))
   exact As (Ai 5 0 (bd h fun x7 gx7 h=>RW.q (Pv gx7) (Ai 2 0 (bd h fun q2 gq2 h=>CV (DN EY (fun _=>rfl) b gq2) (gn 1 1 (As (gn 3 0 (jl h))))))))
  exact Wp.exit (jv h)
 exact ws (gn 2 2 (Wp.ret (rr h▸rq)))
def Y1 (xS:ByteArray) (v1:List AK) (z1:ByteArray) (z2:Int):St:=AA [(0,(Y xS)),(4,(.one (Hv v1))),(5,(Y z1)),(6,(I z2))] []
def Y0 (xS:ByteArray) (z3:ByteArray):St:=AA [(0,(Y xS)),(5,(Y z3))] []
theorem R3 (xS:ByteArray) (r:ByteArray×Bool) (h:Ew xS=some r):AU Tryz.prog 56 [.sv (Y xS)] (.tup [(Y r.1),(B r.2)]) (rg 1):=by
 refine gk Tryz.func56 rfl Tryz.ntmps56 (ws (gn 2 0 (Wp.seq (ws (gn 3 0 (wc h (fun h=>?_) (fun h=>?_)))))))
 ·exact ws (gn 2 0 (Wp.ret (rr h▸rq)))
 refine Wp.skip (ws (Ai 1 0 (RW.c 0 h (cU _) (fun v1 gv1 h=>gw 1 1 (gn 1 0 (Wp.seq (ws (gn 1 0 (BP h [0,4,5,6] [] (fun s=>(Y1 xS v1 s.1 s.2)) [0,5] [] (fun s=>(Y0 xS s)) EG ?_ ?_)))))))))
 ·rintro⟨a,b⟩ o (h:Ee v1 a b=some o);refine Wp.seq (ws (Ai 2 0 (RW.q (Di EY v1) (gn 1 0 (wc h (fun h=>?_) (fun h=>?_))))))
  ·refine Wp.skip (Wp.seq (Wp.block (ws (Ai 2 0 (CU EY h (fun x1 gx1 h=>RW.q (Qz EY gx1 0 3) (gw 2 0 (gn 3 0 (wc h (fun h=>?_) (fun h=>?_))))))))))
   ·exact As (Ai 6 0 (RW.q (pcv (f:=c5) (fun _=>rfl) [(IntKind.u8.wrap (FE x1.Text))]) (bd h fun x2 gx2 h=>RW.q (ON gx2) (Ai 2 0 (bd h fun x3 gx3 h=>RW.q (ON gx3) (gn 1 0 (As (gn 3 0 (jl h)))))))))
   exact As (Ai 9 0 (RW.q (pcv (f:=c5) (fun _=>rfl) [(IntKind.u8.wrap (ad 128 x1.Size)),(IntKind.u8.wrap x1.Back)]) (bd h fun x4 gx4 h=>RW.q (ON gx4) (gn 1 0 (As (gn 3 0 (jl h)))))))
  exact Wp.exit (jv h)
 intro v2 h E hE;refine AX hE (Wp.seq (ws (gn 6 0 (wc h (fun h=>?_) (fun h=>?_)))))
 ·exact ws (Ai 1 0 (bd h fun x5 gx5 h=>RW.q (ON gx5) (gn 2 0 (Wp.ret (rr h▸rq)))))
 exact Wp.skip (ws (gn 3 0 (Wp.ret (rr h▸rq))))
def Un (xT:ByteArray) (z1:ByteArray):St:=AA [(0,(Y xT)),(4,(Y z1))] []
def Ul (j1:ByteArray) (z2:Bool):St:=AA [(4,(Y j1)),(48,(B z2))] []
theorem Wa (xT:ByteArray) (r:ByteArray×Bool) (h:Fz xT=some r):AU Tryz.prog 66 [.sv (Y xT)] (.tup [(Y r.1),(B r.2)]) (rg 1):=by
 refine gk Tryz.func66 rfl Tryz.ntmps66 (ws (gn 2 0 (Wp.seq (ws (gn 3 0 (wc h (fun h=>?_) (fun h=>?_)))))))
 ·exact ws (gn 2 0 (Wp.ret (rr h▸rq)))
 refine Wp.skip (ws (Ai 1 0 (bd h fun x1 gx1 h=>RW.q (Pv gx1) (gn 1 0 (Wp.seq (ws (Ai 1 0 (bd h fun x2 gx2 h=>RW.q (iW gx2) (gn 1 0 (nW h [0,4] [] (fun a=>(Un xT a)) ?_ ?_))))))))))
 ·intro a h b;refine wc h (fun h=>?_) (fun h=>?_)
  ·refine ws (Ai 1 0 (bd h fun x3 gx3 h=>RW.q (Pv gx3) (RW.c 0 h (XY _) (fun v1 gv1 h=>gw 5 9 (Ai 1 0 (RW.c 0 h (gs (ca (co (cs (ACp _))) rfl) (kT _)) (fun v2 gv2 h=>gn 5 1 (Wp.seq (ws (Ai 3 0 (AJ 32 h (fun h=>?_) (fun h=>?_)))))) (hc:=(.inr (fun v=>rfl)))))))))
   ·exact gn 3 0 (wt (ws (gn 2 0 (Wp.ret (rr (jr h b)▸rq)))))
   refine gn 3 0 (wc h (fun h=>?_) (fun h=>?_))
   ·exact ws (gn 2 0 (Wp.ret (rr (jr h b)▸rq)))
   exact Wp.skip (As (gn 2 0 (jm h)))
  exact Wp.skip (jm h)
 intro j1 h E hE;refine AX hE (ws (Ai 1 0 (RW.c 0 h (R3 _) (fun v3 gv3 h=>gn 5 1 (Wp.seq (Fk h [4,48] [] (fun a=>(Ul j1 a)) (fun a h=>?_) (fun j2 h=>?_)))))))
 ·refine As (Ai 3 0 (AJ 44 h (fun h=>?_) (fun h=>?_)))
  ·exact gn 4 0 (jn h)
  exact gn 4 0 (jn h)
 refine wc h (fun h=>?_) (fun h=>?_)
 ·exact ws (gn 2 0 (Wp.ret (rr h▸rq)))
 exact Wp.skip (ws (gn 3 0 (Wp.ret (rr h▸rq))))
theorem Tv (b:List Ap) (a:Int) (r:ByteArray×Bool) (h:JH b a=some r):AU Tryz.prog 34 [.sv (.one (HS b)),.sv (I a)] (.tup [(Y r.1),(B r.2)]) (rg 2):=by
 refine gk Tryz.func34 rfl Tryz.ntmps34 (ws (gw 2 0 (Ai 2 0 (RW.c 0 h (XQ _ _) (fun v1 gv1 h=>gn 6 1 (Wp.seq (ws (gn 2 0 (wc h (fun h=>?_) (fun h=>?_))))))))))
 ·exact ws (gn 2 0 (Wp.ret (rr h▸rq)))
 exact Wp.skip (ws (Ai 3 0 (RW.c 0 h (Wa _) (fun v2 gv2 h=>gn 4 0 (Wp.ret (rr h▸rq))))))
def cG (a:List Ap) (b:List Int) (c:ByteArray) (z1:Int):St:=AA [(0,(.one (HS a))),(1,(.one (OT b))),(2,(Y c)),(7,(I z1))] []
def cF:St:=AA [] []
def cE (a:List Ap) (b:List Int) (c:ByteArray) (d:Int) (z2:Bool):St:=AA [(0,(.one (HS a))),(1,(.one (OT b))),(2,(Y c)),(7,(I d)),(30,(B z2))] []
theorem jO (d:List Ap) (b:List Int) (e:ByteArray) (r:Int) (h:PK d b e=some r):AU Tryz.prog 85 [.sv (.one (HS d)),.sv (.one (OT b)),.sv (Y e)] (I r) (rg 3):=by
 refine gk Tryz.func85 rfl Tryz.ntmps85 (ws (gn 1 0 (Wp.seq (ws (gn 1 0 (E5 h [0,1,2,7] [] (fun s=>(cG d b e s)) [] [] (fun _=>cF) EG ?_ ?_))))))
 ·rintro f o (h:Ea d b e f=some o) hk1;refine Wp.seq (ws (Ai 2 0 (RW.q (Di k3 b) (gn 1 0 (wc h (fun h=>?_) (fun h=>?_))))))
  ·refine Wp.skip (Wp.seq (Wp.block (ws (Ai 3 0 (CU k3 h (fun x1 gx1 h=>RW.q (CH k3 gx1 0) (RW.c 0 h (Tv _ _) (fun v1 gv1 h=>gn 5 1 (Fk h [0,1,2,7,30] [] (fun a=>(cE d b e f a)) (fun a h=>?_) (fun j1 h=>?_))))))))))
   ·refine As (Ai 2 0 (AJ 26 h (fun h=>?_) (fun h=>?_)))
    ·exact gn 4 0 (jn h)
    exact gn 4 0 (jn h)
   refine wc h (fun h=>?_) (fun h=>?_)
   ·exact ws (Ai 2 0 (CU k3 h (fun x2 gx2 h=>RW.q (CH k3 gx2 0) (gn 1 0 (Wp.ret (rr (jo h hk1)▸rq))))))
   exact Wp.skip (As (gn 3 0 (jl h)))
  exact Wp.exit (jx h)
 intro v2 h E hE;exact AX hE (ws (gn 1 0 (Wp.ret (rr h▸rq))))
theorem eQ (xF:Flash) (a:List Int) (b:ByteArray) (r:Int) (h:JO xF a b=some r):AU Tryz.prog 55 [.sv (.agg (TR false xF)),.sv (.one (OT a)),.sv (Y b)] (I r) (rg 3):=by
 exact gk Tryz.func55 rfl Tryz.ntmps55 (ws (gw 2 0 (Ai 1 0 (RW.c 0 h (Hq _) (fun v1 gv1 h=>Ai 2 0 (RW.c 0 h (gs (ca (co (cs (V9 _))) rfl) (jO _ _ _)) (fun v2 gv2 h=>gn 1 0 (Wp.ret (rr h▸rq))) (hc:=(.inr (fun v=>rfl)))))))))
def kS (xD:AF) (xQ:Mm) (v2:Int) (z1:Bool):St:=AA [(2,(pb 2)),(3,(pb 3)),(7,(.one (Ib []))),(8,(B (decide (v2>=0)))),(29,(B z1))] [(.box 2,[Da xD.Flash.Blocks,DB xD.Store.Vols,BJ xD.Store.Arena.Knots,i6 xD.Store.Next,i6 xD.Seq,i6 xD.Tx,i6 xD.Base]),(.box 3,[i6 xQ.Kind,i6 xQ.Vol,i6 xQ.Sector,i6 xQ.Of,ts xQ.Text])]
def kR (xD:AF) (xQ:Mm) (z2:Bool):St:=AA [(2,(pb 2)),(3,(pb 3)),(7,(.one (Ib []))),(42,(B z2))] [(.box 2,[Da xD.Flash.Blocks,DB xD.Store.Vols,BJ xD.Store.Arena.Knots,i6 xD.Store.Next,i6 xD.Seq,i6 xD.Tx,i6 xD.Base]),(.box 3,[i6 xQ.Kind,i6 xQ.Vol,i6 xQ.Sector,i6 xQ.Of,ts xQ.Text])]
def kQ (xQ:Mm) (z3:Int) (z4:ByteArray):St:=AA [(3,(pb 3)),(9,(I z3)),(10,(Y z4))] [(.box 3,[i6 xQ.Kind,i6 xQ.Vol,i6 xQ.Sector,i6 xQ.Of,ts xQ.Text])]
set_option maxHeartbeats 4000000 in
theorem QL (xD:AF) (xQ:Mm) (r:List CD×ByteArray×Int) (h:FU xD xQ=some r):AU Tryz.prog 25 [.sv (.agg (Sx false xD)),.sv (.agg (c44 xQ))] (.tup [(.one (Ib r.1)),(Y r.2.1),(I r.2.2)]) (rg 2):=by
 refine gk Tryz.func25 rfl Tryz.ntmps25 (ws (gw 5 0 (gn 2 2 (Wp.seq (ws (Ai 1 0 (RW.c 0 h (vE _) (fun v1 gv1 h=>gn 1 0 (wc h (fun h=>?_) (fun h=>?_))))))))))
 ·exact ws (gn 4 2 (Wp.ret (rr h▸rq)))
 refine Wp.skip (ws (Ai 4 0 (RW.c 0 h (JI _ _) (fun v2 gv2 h=>gn 2 0 (Wp.seq (Fk h [2,3,7,8,29] [.box 2,.box 3] (fun a=>(kS xD xQ v2 a)) (fun a h=>?_) (fun j1 h=>?_)))))))
 ·refine As (Ai 4 0 (AJ 25 h (fun h=>?_) (fun h=>?_)))
  ·exact gn 4 0 (jn h)
  exact gn 4 0 (jn h)
 refine wc h (fun h=>?_) (fun h=>?_)
 ·refine Wp.seq (ws (gn 1 0 (wc h (fun h=>?_) (fun h=>?_))))
  ·exact ws (gn 4 2 (Wp.ret (rr h▸rq)))
  refine Wp.skip (Wp.seq (Fk h [2,3,7,42] [.box 2,.box 3] (fun a=>(kR xD xQ a)) (fun a h=>?_) (fun j2 h=>?_)))
  ·refine As (Ai 4 0 (AJ 35 h (fun h=>?_) (fun h=>?_)))
   ·exact Ai 4 0 (RW.c 0 h (JI _ _) (fun v3 gv3 h=>gn 2 0 (jn h)))
   exact gn 7 0 (jn h)
  refine wc h (fun h=>?_) (fun h=>?_)
  ·exact ws (gn 4 2 (Wp.ret (rr h▸rq)))
  refine Wp.skip (Wp.seq (ws (Ai 3 0 (RW.q (Di DX xD.Store.Vols) (gn 1 0 (wc h (fun h=>?_) (fun h=>?_)))))))
  ·exact ws (gn 4 2 (Wp.ret (rr h▸rq)))
  exact Wp.skip (ws (gn 9 64 (Wp.ret (rr h▸rq))))
 refine Wp.skip (Wp.seq (ws (gn 2 0 (wc h (fun h=>?_) (fun h=>?_)))))
 ·exact ws (gn 4 2 (Wp.ret (rr h▸rq)))
 refine Wp.skip (Wp.seq (ws (gn 2 0 (Wp.block (ws (gn 2 0 (wc h (fun h=>?_) (fun h=>?_))))))))
 ·refine Wp.seq (Eu [] mixed (fun c E h=>by rcases h with⟨h|h,_⟩<;>cases h) (Bw [0,1,2,3,5,6] 0 (BC 4 (KB.c 0 h (NT _) (fun v4 gv4 h=>BC 7 (KB.c 0 h (gs (ca rfl (ca (co (cs (jH _))) rfl)) (eQ _ _ _)) (fun v5 gv5 h=>Bw [8] 0 (Bv (ws (gn 1 0 (Wp.seq (ws (gn 2 0 (FB h [3,9,10] [.box 3] (fun a=>(kQ xQ a.1 a.2)) ?_ ?_)))))))) (hc:=(.inr (fun v=>rfl)))))))))
  ·intro a h;refine wc h (fun h=>?_) (fun h=>?_)
   ·exact ws (gn 4 0 (As (Ai 2 0 (RW.c 0 h (R3 _) (fun v6 gv6 h=>gn 4 1 (jn h))))))
   exact Wp.skip (jn h)
  intro j3 h E hE;exact AX hE (ws (gn 11 256 (Wp.ret (rr h▸rq))))
 refine ws (gn 2 0 (wc h (fun h=>?_) (fun h=>?_)))
 ·exact ws (gn 9 64 (Wp.ret (rr h▸rq)))
 refine ws (gn 2 0 (wc h (fun h=>?_) (fun h=>?_)))
 ·exact ws (gn 7 16 (Wp.ret (rr h▸rq)))
 exact Wp.skip (ws (gn 4 2 (Wp.ret (rr h▸rq))))
theorem lN (xS:Store) (b:Int) (a:Int) (r:Int) (h:Nk xS b a=some r):AU Tryz.prog 10 [.sv (.agg (Rg false xS)),.sv (I b),.sv (I a)] (I r) (rg 3):=by
 refine gk Tryz.func10 rfl Tryz.ntmps10 (ws (gw 2 0 (Ai 2 0 (RW.c 0 h (JI _ _) (fun v1 gv1 h=>gn 1 0 (Wp.seq (ws (gn 2 0 (wc h (fun h=>?_) (fun h=>?_))))))))))
 ·exact ws (gn 1 0 (Wp.ret (rr h▸rq)))
 exact Wp.skip (Wp.seq (Sp 9 mixed (Dl 5 (bd h fun x1 gx1 h=>SW.q (Jo DX gx1) (SW.q (DA DX gx1 0 1) (SW.q (CH DX gx1 1) (Dl 1 (SW.nil (RW.c 0 h (ZM _ _ _) (fun v2 gv2 h=>gn 1 0 (Wp.ret (rr h▸rq))))))))))))
theorem jM (b:List Ap) (xS:Store) (d:Int) (a:Int) (r:ByteArray×Bool) (h:L4 b xS d a=some r):AU Tryz.prog 128 [.sv (.one (HS b)),.sv (.agg (Rg false xS)),.sv (I d),.sv (I a)] (.tup [(Y r.1),(B r.2)]) (rg 4):=by
 refine gk Tryz.func128 rfl Tryz.ntmps128 (ws (gn 3 0 (Wp.seq (ws (Ai 2 0 (RW.c 0 h (JI _ _) (fun v1 gv1 h=>gn 1 0 (wc h (fun h=>?_) (fun h=>?_)))))))))
 ·exact ws (gn 2 0 (Wp.ret (rr h▸rq)))
 refine Wp.skip (ws (Ai 3 0 (RW.c 0 h (lN _ _ _) (fun v2 gv2 h=>gn 1 0 (Wp.seq (ws (gn 2 0 (wc h (fun h=>?_) (fun h=>?_)))))))))
 ·exact ws (gn 2 0 (Wp.ret (rr h▸rq)))
 exact Wp.skip (ws (Ai 2 0 (RW.c 0 h (Tv _ _) (fun v3 gv3 h=>gn 4 0 (Wp.ret (rr h▸rq))))))
set_option maxHeartbeats 4000000 in
theorem pV (xD:AF) (b:Int) (a:Int) (r:ByteArray×Bool) (h:Wk xD b a=some r):AU Tryz.prog 97 [.sv (.agg (Sx false xD)),.sv (I b),.sv (I a)] (.tup [(Y r.1),(B r.2)]) (rg 3):=by
 exact gk Tryz.func97 rfl Tryz.ntmps97 (ws (gn 3 0 (Wp.seq (Eu [] mixed (fun c E h=>by rcases h with⟨h|h,_⟩<;>cases h) (Bw [0,1,3,4,5,6] 0 (BC 2 (KB.c 0 h (Hq _) (fun v1 gv1 h=>BC 7 (KB.c 0 h (gs (ca (co (cs (V9 _))) rfl) (jM _ _ _ _)) (fun v2 gv2 h=>OR 8 (OR 9 (Bw [10,11] 0 (Bv (Wp.ret (rr h▸rq)))))) (hc:=(.inr (fun v=>rfl))))))))))))
def kL (xF:Flash) (z1:Int) (z2:Int):St:=AA [(1,(pb 1)),(3,(I z1)),(4,(I z2))] [(.box 1,[Da xF.Blocks])]
def kK (z3:Int):St:=AA [(3,(I z3))] []
def kJ (xF:Flash) (a:Int) (z4:Int) (z5:Int):St:=AA [(1,(pb 1)),(3,(I z4)),(4,(I a)),(5,(I z5))] [(.box 1,[Da xF.Blocks])]
def kI (xF:Flash) (a:Int) (z6:Int):St:=AA [(1,(pb 1)),(3,(I z6)),(4,(I a))] [(.box 1,[Da xF.Blocks])]
theorem QK (xF:Flash) (r:Int) (h:LR xF=some r):AU Tryz.prog 98 [.sv (.agg (TR false xF))] (I r) (rg 1):=by
 refine gk Tryz.func98 rfl Tryz.ntmps98 (ws (gw 2 0 (gn 1 0 (Wp.seq (ws (gn 1 0 (BP h [1,3,4] [.box 1] (fun s=>(kL xF s.1 s.2)) [3] [] (fun s=>(kK s)) EG ?_ ?_)))))))
 ·rintro⟨b,a⟩ o (h:K3 xF b a=some o);refine Wp.seq (ws (Ai 3 0 (RW.q (Di (EX false) xF.Blocks) (gn 1 0 (wc h (fun h=>?_) (fun h=>?_))))))
  ·refine Wp.skip (Wp.seq (Wp.block (ws (gn 1 0 (BP h [1,3,4,5] [.box 1] (fun s=>(kJ xF a s.1 s.2)) [1,3,4] [.box 1] (fun s=>(kI xF a s)) EG ?_ ?_)))))
   ·rintro⟨c,d⟩ o (h:K2 xF a c d=some o);refine Wp.seq (ws (Ai 4 0 (CU (EX false) h (fun x1 gx1 h=>RW.q (DA (EX false) gx1 0 2) (RW.q (CH (EX false) gx1 2) (RW.q (Di Mn x1.Leaves) (gn 1 0 (wc h (fun h=>?_) (fun h=>?_)))))))))
    ·refine Wp.skip (Wp.seq (Wp.block (ws (Ai 3 0 (CU (EX false) h (fun x2 gx2 h=>RW.q (DA (EX false) gx2 0 0) (RW.q (CH (EX false) gx2 0) (Ai 2 0 (AJ 31 h (fun h=>?_) (fun h=>?_))))))))))
     ·refine Ai 3 0 (CU (EX false) h (fun x3 gx3 h=>RW.q (DA (EX false) gx3 0 2) (RW.q (CH (EX false) gx3 2) (Ai 1 0 (CU Mn h (fun x4 gx4 h=>RW.q (DA Mn gx4 0 0) (RW.q (CH Mn gx4 0) (gn 2 0 (wc h (fun h=>?_) (fun h=>?_))))))))))
      ·exact As (gn 3 0 (As (gn 3 0 (jl h))))
      exact Wp.skip (As (gn 3 0 (jl h)))
     exact gn 12 0 (wf (Wp.skip (As (gn 3 0 (jl h)))))
    exact Wp.exit (jv h)
   intro v1 h E hE;exact AX hE (As (gn 3 0 (jl h)))
  exact Wp.exit (jv h)
 intro v2 h E hE;exact AX hE (ws (gn 2 0 (Wp.ret (rr h▸rq))))
def VK (a:List Ap) (b:List Int) (c:Int) (z1:List Bool) (z2:Int):St:=AA [(0,(.one (HS a))),(1,(.one (OT b))),(2,(I c)),(7,(.one (OS z1))),(8,(I z2))] []
def VJ (a:List Ap) (b:List Int) (z3:List Bool):St:=AA [(0,(.one (HS a))),(1,(.one (OT b))),(7,(.one (OS z3)))] []
def VI (a:List Ap) (b:List Int) (z4:List Bool) (z5:Int):St:=AA [(0,(.one (HS a))),(1,(.one (OT b))),(7,(.one (OS z4))),(9,(I z5))] []
def VH (z6:List Bool):St:=AA [(7,(.one (OS z6)))] []
def VG (a:List Ap) (b:List Int) (c:Int) (z7:List Bool) (z8:Int):St:=AA [(0,(.one (HS a))),(1,(.one (OT b))),(7,(.one (OS z7))),(9,(I c)),(10,(I z8))] []
def VF (a:List Ap) (b:List Int) (c:Int) (z9:List Bool):St:=AA [(0,(.one (HS a))),(1,(.one (OT b))),(7,(.one (OS z9))),(9,(I c))] []
def VE (a:List Ap) (b:List Int) (d:Int) (c:List Bool) (e:Int) (z10:Bool):St:=AA [(0,(.one (HS a))),(1,(.one (OT b))),(7,(.one (OS c))),(9,(I d)),(10,(I e)),(72,(B z10))] []
theorem Ko (b:List Ap) (c:List Int) (d:Int) (r:List Bool) (h:Hl b c d=some r):AU Tryz.prog 41 [.sv (.one (HS b)),.sv (.one (OT c)),.sv (I d)] (.one (OS r)) (rg 3):=by
 refine gk Tryz.func41 rfl Tryz.ntmps41 (ws (gw 1 0 (Ai 1 0 (RW.q (Di EA b) (bd h fun q1 gq1 h=>CV (fmk k4 false gq1) (gn 1 1 (Wp.seq (ws (gn 1 0 (BP h [0,1,2,7,8] [] (fun s=>(VK b c d s.1 s.2)) [0,1,7] [] (fun s=>(VJ b c s)) EG ?_ ?_))))))))))
 ·rintro⟨g,k⟩ o (h:Hk b d g k=some o);refine Wp.seq (ws (Ai 2 0 (RW.q (Di EA b) (gn 1 0 (wc h (fun h=>?_) (fun h=>?_))))))
  ·refine Wp.skip (Wp.seq (Wp.block (As (Ai 4 0 (CU EA h (fun x1 gx1 h=>RW.q (DA EA gx1 0 2) (RW.q (DA EA gx1 2 2) (RW.q (CH EA gx1 2) (Ai 2 0 (AJ 29 h (fun h=>?_) (fun h=>?_)))))))))))
   ·exact Ai 2 0 (CU EA h (fun x2 gx2 h=>RW.q (DA EA gx2 0 2) (RW.q (DA EA gx2 2 4) (RW.q (CH EA gx2 4) (Ai 3 0 (CU k4 h (fun x3 gx3 h=>CV (Ny k4 gx3 0 0 (decide (x2.Page.Tx>=d))) (RW.nil (As (gn 3 0 (jl h)))))))))))
   exact Ai 9 0 (CU k4 h (fun x4 gx4 h=>CV (Ny k4 gx4 0 0 false) (RW.nil (As (gn 3 0 (jl h))))))
  exact Wp.exit (jv h)
 intro v1 h E hE;refine AX hE (Wp.seq (ws (gn 1 0 (BP h [0,1,7,9] [] (fun s=>(VI b c s.1 s.2)) [7] [] (fun s=>(VH s)) EG ?_ ?_))))
 ·rintro⟨i,e⟩ o (h:Hj b c i e=some o);refine Wp.seq (ws (Ai 2 0 (RW.q (Di k3 c) (gn 1 0 (wc h (fun h=>?_) (fun h=>?_))))))
  ·refine Wp.skip (Wp.seq (Wp.block (ws (Ai 1 0 (RW.q (Di EA b) (gn 2 0 (BP h [0,1,7,9,10] [] (fun s=>(VG b c e s.1 s.2)) [0,1,7,9] [] (fun s=>(VF b c e s)) EG ?_ ?_)))))))
   ·rintro⟨f,j⟩ o (h:EJ b c e f j=some o);refine Wp.seq (ws (gn 2 0 (wc h (fun h=>?_) (fun h=>?_))))
    ·refine Wp.skip (Wp.seq (Wp.block (Fk h [0,1,7,9,10,72] [] (fun a=>(VE b c e f j a)) (fun a h=>?_) (fun j1 h=>?_))))
     ·refine KH mixed (Dl 2 (bd h fun x5 gx5 h=>SW.q (Jo EA gx5) (SW.q (DA EA gx5 0 2) (SW.q (DA EA gx5 2 2) (SW.q (CH EA gx5 2) (Dl 2 (X4 60 h (fun h=>?_) (fun h=>?_))))))))
      ·exact Dl 2 (bd h fun x6 gx6 h=>SW.q (Jo EA gx6) (SW.q (DA EA gx6 0 2) (SW.q (DA EA gx6 2 4) (SW.q (CH EA gx6 4) (Dl 2 (bd h fun x7 gx7 h=>SW.q (Jo k3 gx7) (SW.q (CH k3 gx7 0) (Dl 2 (SW.nil (jn h))))))))))
      exact Dl 12 (SW.nil (jn h))
     refine wc h (fun h=>?_) (fun h=>?_)
     ·exact ws (Ai 2 0 (CU k4 h (fun x8 gx8 h=>CV (Ny k4 gx8 0 0 true) (RW.nil (As (gn 1 0 (As (gn 3 0 (jl h)))))))))
     exact Wp.skip (As (gn 3 0 (jl h)))
    exact Wp.exit (jv h)
   intro v2 h E hE;exact AX hE (As (gn 3 0 (jl h)))
  exact Wp.exit (jv h)
 intro v3 h E hE;exact AX hE (ws (gn 2 2 (Wp.ret (rr h▸rq))))
def XM (xB:Block) (z1:Int):St:=AA [(1,(pb 1)),(3,(I z1))] [(.box 1,[tb xB.Bad,i6 xB.Wear,YT xB.Leaves])]
def XL:St:=AA [] []
theorem bX (xB:Block) (r:Bool) (h:NL xB=some r):AU Tryz.prog 173 [.sv (.agg (xW false xB))] (B r) (rg 1):=by
 refine gk Tryz.func173 rfl Tryz.ntmps173 (ws (gn 2 0 (Wp.seq (ws (gn 1 0 (E5 h [1,3] [.box 1] (fun s=>(XM xB s)) [] [] (fun _=>XL) EG ?_ ?_))))))
 ·rintro a o (h:HW xB a=some o) hk1;refine Wp.seq (ws (Ai 3 0 (RW.q (Di Mn xB.Leaves) (gn 1 0 (wc h (fun h=>?_) (fun h=>?_))))))
  ·refine Wp.skip (Wp.seq (Wp.block (ws (Ai 3 0 (CU Mn h (fun x1 gx1 h=>RW.q (DA Mn gx1 0 0) (RW.q (CH Mn gx1 0) (gn 1 0 (wc h (fun h=>?_) (fun h=>?_))))))))))
   ·exact ws (gn 1 0 (Wp.ret (rr (jo h hk1)▸rq)))
   exact Wp.skip (As (gn 3 0 (jl h)))
  exact Wp.exit (jx h)
 intro v1 h E hE;exact AX hE (ws (gn 1 0 (Wp.ret (rr h▸rq))))
def pB (b:List Ap) (a:List Bool) (xB:Int) (z1:Int) (z2:Int):St:=AA [(0,(.one (HS b))),(1,(.one (of4 a))),(2,(I xB)),(7,(I z1)),(8,(I z2))] []
def pA (z3:Int):St:=AA [(7,(I z3))] []
theorem S7 (b:List Ap) (a:List Bool) (xB:Int) (r:Int) (h:PL b a xB=some r):AU Tryz.prog 40 [.sv (.one (HS b)),.sv (.one (of4 a)),.sv (I xB)] (I r) (rg 3):=by
 refine gk Tryz.func40 rfl Tryz.ntmps40 (ws (gw 1 0 (gn 1 0 (Wp.seq (ws (gn 1 0 (BP h [0,1,2,7,8] [] (fun s=>(pB b a xB s.1 s.2)) [7] [] (fun s=>(pA s)) EG ?_ ?_)))))))
 ·rintro⟨c,d⟩ o (h:LM b a xB c d=some o);refine Wp.seq (ws (Ai 2 0 (RW.q (Di EA b) (gn 1 0 (wc h (fun h=>?_) (fun h=>?_))))))
  ·refine Wp.skip (Wp.seq (Wp.block (ws (Ai 2 0 (CU k4 h (fun x1 gx1 h=>RW.q (CH k4 gx1 0) (Ai 1 0 (AJ 19 h (fun h=>?_) (fun h=>?_)))))))))
   ·refine Ai 2 0 (CU EA h (fun x2 gx2 h=>RW.q (DA EA gx2 0 0) (RW.q (CH EA gx2 0) (gn 3 0 (wc h (fun h=>?_) (fun h=>?_))))))
    ·exact As (gn 3 0 (As (gn 3 0 (jl h))))
    exact Wp.skip (As (gn 3 0 (jl h)))
   exact gn 8 0 (wf (Wp.skip (As (gn 3 0 (jl h)))))
  exact Wp.exit (jv h)
 intro v1 h E hE;exact AX hE (ws (gn 2 0 (Wp.ret (rr h▸rq))))
def UB (xD:AF) (v1:List Ap) (v3:List Bool) (z1:List Int) (z2:Int):St:=AA [(1,(pb 1)),(3,(.one (G5 v1))),(4,(.one (.view (.slot 17) 0 [] 0))),(5,(.one (E0 z1))),(6,(I z2)),(17,(.one (OS v3)))] [(.box 1,[Da xD.Flash.Blocks,DB xD.Store.Vols,BJ xD.Store.Arena.Knots,i6 xD.Store.Next,i6 xD.Seq,i6 xD.Tx,i6 xD.Base])]
def U8 (z3:List Int):St:=AA [(5,(.one (E0 z3)))] []
def U7 (xD:AF) (v1:List Ap) (v3:List Bool) (a:List Int) (b:Int) (z4:Bool):St:=AA [(1,(pb 1)),(3,(.one (G5 v1))),(4,(.one (.view (.slot 17) 0 [] 0))),(5,(.one (E0 a))),(6,(I b)),(17,(.one (OS v3))),(47,(B z4))] [(.box 1,[Da xD.Flash.Blocks,DB xD.Store.Vols,BJ xD.Store.Arena.Knots,i6 xD.Store.Next,i6 xD.Seq,i6 xD.Tx,i6 xD.Base])]
theorem W5 (xD:AF) (r:List Int) (h:Lo xD=some r):AU Tryz.prog 151 [.sv (.agg (Sx false xD))] (.one (E0 r)) (rg 1):=by
 refine gk Tryz.func151 rfl Tryz.ntmps151 (ws (gw 2 0 (Ai 2 0 (RW.c 0 h (Hq _) (fun v1 gv1 h=>gn 1 1 (Wp.seq (Eu [] mixed (fun c E h=>by rcases h with⟨h|h,_⟩<;>cases h) (Bw [0,1,2,4,5] 0 (BC 3 (KB.c 0 h (NT _) (fun v2 gv2 h=>BC 6 (KB.c 0 h (gs (ca (co (cs (V9 _))) (ca (co (cs (jH _))) rfl)) (Ko _ _ _)) (fun v3 gv3 h=>Bw [7] 0 (Bv (ws (gn 2 2 (Wp.seq (ws (gn 1 0 (BP h [1,3,4,5,6,17] [.box 1] (fun s=>(UB xD v1 v3 s.1 s.2)) [5] [] (fun s=>(U8 s)) EG ?_ ?_)))))))) (hc:=(.inr (fun v=>by simp [BB,BL,AO,B9,ns4,OS])))))))))))))))
 ·rintro⟨b,d⟩ o (h:Fw xD v1 v3 b d=some o);refine Wp.seq (ws (Ai 4 0 (RW.q (Di (EX false) xD.Flash.Blocks) (gn 1 0 (wc h (fun h=>?_) (fun h=>?_))))))
  ·refine Wp.skip (Wp.seq (Wp.block (ws (Ai 4 0 (CU (EX false) h (fun x1 gx1 h=>RW.q (Qz (EX false) gx1 0 3) (gn 2 0 (Fk h [1,3,4,5,6,17,47] [.box 1] (fun a=>(U7 xD v1 v3 b d a)) (fun a h=>?_) (fun j1 h=>?_)))))))))
   ·refine As (Ai 4 0 (AJ 36 h (fun h=>?_) (fun h=>?_)))
    ·refine Ai 1 0 (RW.c 0 h (bX _) (fun v4 gv4 h=>Ai 3 0 (AJ 41 h (fun h=>?_) (fun h=>?_))))
     ·exact Ai 3 0 (RW.c 0 h (gs (ca (co (cs (V9 _))) (ca (co (cs (sh4 _))) rfl)) (S7 _ _ _)) (fun v5 gv5 h=>gn 2 0 (jn h)) (hc:=(.inr (fun v=>rfl))))
     exact gn 6 0 (jn h)
    exact gn 11 0 (jn h)
   refine wc h (fun h=>?_) (fun h=>?_)
   ·exact As (Ai 3 0 (bd h fun q1 gq1 h=>CV (DN k3 (fun _=>rfl) b gq1) (gn 1 1 (As (gn 3 0 (jl h))))))
   exact Wp.skip (As (gn 3 0 (jl h)))
  exact Wp.exit (jv h)
 intro v6 h E hE;exact AX hE (ws (gn 2 2 (Wp.ret (rr h▸rq))))
def XP (xD:AF) (v2:List Tx) (z1:Int):St:=AA [(1,(pb 1)),(3,(.one (Q3 v2))),(4,(I z1))] [(.box 1,[Da xD.Flash.Blocks,DB xD.Store.Vols,BJ xD.Store.Arena.Knots,i6 xD.Store.Next,i6 xD.Seq,i6 xD.Tx,i6 xD.Base])]
def XO:St:=AA [] []
theorem bY (xD:AF) (r:Bool) (h:NM xD=some r):AU Tryz.prog 152 [.sv (.agg (Sx false xD))] (B r) (rg 1):=by
 refine gk Tryz.func152 rfl Tryz.ntmps152 (ws (gn 2 0 (Wp.seq (ws (gn 6 0 (wc h (fun h=>?_) (fun h=>?_)))))))
 ·exact ws (gn 1 0 (Wp.ret (rr h▸rq)))
 refine Wp.skip (ws (Ai 2 0 (RW.c 0 h (Hq _) (fun v1 gv1 h=>RW.c 0 h (gs (ca (co (cs (V9 _))) rfl) (W2 _)) (fun v2 gv2 h=>gn 1 1 (Wp.seq (ws (gn 1 0 (E5 h [1,3,4] [.box 1] (fun s=>(XP xD v2 s)) [] [] (fun _=>XO) EG ?_ ?_))))) (hc:=(.inr (fun v=>by simp [BB,BL,AO,B9,AAe,Q3])))))))
 ·rintro a o (h:G9 xD v2 a=some o) hk1;refine Wp.seq (ws (Ai 2 0 (RW.q (Di (HU true) v2) (gn 1 0 (wc h (fun h=>?_) (fun h=>?_))))))
  ·refine Wp.skip (Wp.seq (Wp.block (Wp.seq (KH mixed (Dl 2 (bd h fun x1 gx1 h=>SW.q (Jo (HU true) gx1) (SW.q (DA (HU true) gx1 0 0) (SW.q (CH (HU true) gx1 0) (Dl 3 (SW.nil (wc h (fun h=>?_) (fun h=>?_))))))))))))
   ·refine ws (Ai 2 0 (CU (HU true) h (fun x2 gx2 h=>RW.q (DA (HU true) gx2 0 2) (RW.q (CH (HU true) gx2 2) (RW.q (AEl Qs x2.Recs (HU true) gx2 2) (Ai 2 0 (AJ 36 h (fun h=>?_) (fun h=>?_))))))))
    ·exact Ai 2 0 (CU (HU true) h (fun x3 gx3 h=>RW.q (DA (HU true) gx3 0 2) (RW.q (CH (HU true) gx3 2) (bd h fun x4 gx4 h=>RW.q (ADL Qs gx4 (HU true) gx3 2) (RW.q (DA Qs gx4 0 0 (hr:=pr2 0 (HU true) gx3 2)) (RW.q (CH Qs gx4 0 (hr:=pr2 0 (HU true) gx3 2)) (gn 3 0 (Wp.ret (rr (jo h hk1)▸rq)))))))))
    exact gn 11 0 (Wp.ret (rr (jo h hk1)▸rq))
   exact Wp.skip (As (gn 3 0 (jl h)))
  exact Wp.exit (jx h)
 intro v3 h E hE;exact AX hE (ws (gn 1 0 (Wp.ret (rr h▸rq))))
def YS (xS:Store) (z1:List CD) (z2:Int):St:=AA [(1,(pb 1)),(3,(.one (Ib z1))),(4,(I z2))] [(.box 1,[DB xS.Vols,BJ xS.Arena.Knots,i6 xS.Next])]
def YR (z3:List CD):St:=AA [(3,(.one (Ib z3)))] []
def YQ (xS:Store) (a:Int) (v1:List Int) (z4:List CD) (z5:Int):St:=AA [(1,(pb 1)),(3,(.one (Ib z4))),(4,(I a)),(5,(.one (E0 v1))),(6,(I z5))] [(.box 1,[DB xS.Vols,BJ xS.Arena.Knots,i6 xS.Next])]
def YP (xS:Store) (a:Int) (z6:List CD):St:=AA [(1,(pb 1)),(3,(.one (Ib z6))),(4,(I a))] [(.box 1,[DB xS.Vols,BJ xS.Arena.Knots,i6 xS.Next])]
theorem e7 (xS:Store) (r:List CD) (h:NY xS=some r):AU Tryz.prog 174 [.sv (.agg (Rg false xS))] (.one (Ib r)) (rg 1):=by
 refine gk Tryz.func174 rfl Tryz.ntmps174 (ws (gw 2 0 (gn 5 16 (Wp.seq (ws (gn 1 0 (BP h [1,3,4] [.box 1] (fun s=>(YS xS s.1 s.2)) [3] [] (fun s=>(YR s)) EG ?_ ?_)))))))
 ·rintro⟨a,d⟩ o (h:GJ xS a d=some o);refine Wp.seq (ws (Ai 3 0 (RW.q (Di DX xS.Vols) (gn 1 0 (wc h (fun h=>?_) (fun h=>?_))))))
  ·refine Wp.skip (Wp.seq (Wp.block (ws (Ai 4 0 (CU DX h (fun x1 gx1 h=>RW.q (DA DX gx1 0 0) (RW.q (CH DX gx1 0) (Ai 2 0 (bd h fun q1 gq1 h=>CV (DN Qs (fun _=>rfl) a gq1) (gn 1 1 (Wp.seq (Sp 8 mixed (Dl 5 (bd h fun x2 gx2 h=>SW.q (Jo DX gx2) (SW.q (DA DX gx2 0 1) (SW.q (CH DX gx2 1) (SW.nil (RW.c 0 h (PS _ _) (fun v1 gv1 h=>gw 1 1 (gn 1 0 (BP h [1,3,4,5,6] [.box 1] (fun s=>(YQ xS d v1 s.1 s.2)) [1,3,4] [.box 1] (fun s=>(YP xS d s)) EG ?_ ?_)))))))))))))))))))))
   ·rintro⟨b,e⟩ o (h:GI xS d v1 b e=some o);refine Wp.seq (ws (Ai 2 0 (RW.q (Di k3 v1) (gn 1 0 (wc h (fun h=>?_) (fun h=>?_))))))
    ·refine Wp.skip (Wp.seq (Wp.block (ws (Ai 2 0 (CU k3 h (fun x3 gx3 h=>RW.q (CH k3 gx3 0) (gn 1 0 (wc h (fun h=>?_) (fun h=>?_)))))))))
     ·exact Eu [14] mixed (fun c E h=>by rcases h with⟨h|h,_⟩<;>cases h) (Bw [0,1,2,3] 0 (bd h fun x4 gx4 h=>KW.q 4 (Jo DX gx4) (KW.q 5 (DA DX gx4 0 0) (KW.q 6 (CH DX gx4 0) (Bw [7,8,9] 0 (bd h fun x5 gx5 h=>KW.q 10 (Jo k3 gx5) (KW.q 11 (CH k3 gx5 0) (Bw [12,13] 0 (BC 14 (bd h fun q2 gq2 h=>Ml (DN Qs (fun _=>rfl) b gq2) (Bw [15] 1 (Bv (As (gn 3 0 (jl h)))))))))))))))
     exact Wp.skip (As (gn 3 0 (jl h)))
    exact Wp.exit (jv h)
   intro v2 h E hE;exact AX hE (As (gn 3 0 (jl h)))
  exact Wp.exit (jv h)
 intro v3 h E hE;exact AX hE (ws (gn 2 2 (Wp.ret (rr h▸rq))))
def Wr (xF:Flash) (z1:Int):St:=AA [(1,(pb 1)),(3,(I z1))] [(.box 1,[Da xF.Blocks])]
def Wq:St:=AA [] []
def Wo (xF:Flash) (a:Int) (z2:Int) (z3:Int) (z4:Int):St:=AA [(1,(pb 1)),(3,(I a)),(4,(I z2)),(5,(I z3)),(6,(I z4))] [(.box 1,[Da xF.Blocks])]
def Wn (xF:Flash) (a:Int) (z5:Int) (z6:Int):St:=AA [(1,(pb 1)),(3,(I a)),(4,(I z5)),(5,(I z6))] [(.box 1,[Da xF.Blocks])]
def Wm (xF:Flash) (a:Int) (z7:Bool):St:=AA [(1,(pb 1)),(3,(I a)),(54,(B z7))] [(.box 1,[Da xF.Blocks])]
theorem Y2 (xF:Flash) (r:Int) (h:M0 xF=some r):AU Tryz.prog 176 [.sv (.agg (TR false xF))] (I r) (rg 1):=by
 refine gk Tryz.func176 rfl Tryz.ntmps176 (ws (gn 2 0 (Wp.seq (ws (gn 1 0 (E5 h [1,3] [.box 1] (fun s=>(Wr xF s)) [] [] (fun _=>Wq) EG ?_ ?_))))))
 ·rintro b o (h:FW xF b=some o) hk1;refine Wp.seq (ws (Ai 3 0 (RW.q (Di (EX false) xF.Blocks) (gn 1 0 (wc h (fun h=>?_) (fun h=>?_))))))
  ·refine Wp.skip (Wp.seq (Wp.block (ws (gw 1 0 (gn 1 0 (Wp.seq (ws (gn 1 0 (BP h [1,3,4,5,6] [.box 1] (fun s=>(Wo xF b s.1 s.2.1 s.2.2)) [1,3,4,5] [.box 1] (fun s=>(Wn xF b s.1 s.2)) EG ?_ ?_)))))))))
   ·rintro⟨c,d,e⟩ o (h:FV xF b c d e=some o);refine Wp.seq (ws (Ai 4 0 (CU (EX false) h (fun x1 gx1 h=>RW.q (DA (EX false) gx1 0 2) (RW.q (CH (EX false) gx1 2) (RW.q (Di Mn x1.Leaves) (gn 1 0 (wc h (fun h=>?_) (fun h=>?_)))))))))
    ·refine Wp.skip (Wp.seq (Wp.block (ws (Ai 3 0 (CU (EX false) h (fun x2 gx2 h=>RW.q (DA (EX false) gx2 0 2) (RW.q (CH (EX false) gx2 2) (Ai 1 0 (CU Mn h (fun x3 gx3 h=>RW.q (DA Mn gx3 0 0) (RW.q (CH Mn gx3 0) (gn 1 0 (wc h (fun h=>?_) (fun h=>?_))))))))))))))
     ·exact As (gn 3 0 (As (gn 3 0 (jl h))))
     exact As (gn 3 0 (As (gn 3 0 (jl h))))
    exact Wp.exit (jv h)
   intro v1 h E hE;refine AX hE (Fk h [1,3,54] [.box 1] (fun a=>(Wm xF b a)) (fun a h=>?_) (fun j1 h=>?_))
   ·refine As (Ai 3 0 (CU (EX false) h (fun x4 gx4 h=>RW.q (DA (EX false) gx4 0 0) (RW.q (CH (EX false) gx4 0) (Ai 2 0 (AJ 47 h (fun h=>?_) (fun h=>?_)))))))
    ·refine Ai 4 0 (AJ 51 h (fun h=>?_) (fun h=>?_))
     ·exact gn 3 0 (jn h)
     exact gn 3 0 (jn h)
    exact gn 7 0 (jn h)
   refine wc h (fun h=>?_) (fun h=>?_)
   ·exact ws (gn 2 0 (Wp.ret (rr (jo h hk1)▸rq)))
   exact Wp.skip (As (gn 3 0 (jl h)))
  exact Wp.exit (jx h)
 intro v2 h E hE;exact AX hE (ws (gn 1 0 (Wp.ret (rr h▸rq))))
def Wt (xB:Block) (z1:Int):St:=AA [(1,(pb 1)),(3,(I z1))] [(.box 1,[tb xB.Bad,i6 xB.Wear,YT xB.Leaves])]
def Ws:St:=AA [] []
theorem MN (xB:Block) (r:Int) (h:IC xB=some r):AU Tryz.prog 175 [.sv (.agg (xW false xB))] (I r) (rg 1):=by
 refine gk Tryz.func175 rfl Tryz.ntmps175 (ws (gn 2 0 (Wp.seq (ws (gn 1 0 (E5 h [1,3] [.box 1] (fun s=>(Wt xB s)) [] [] (fun _=>Ws) EG ?_ ?_))))))
 ·rintro a o (h:FX xB a=some o) hk1;refine Wp.seq (ws (Ai 3 0 (RW.q (Di Mn xB.Leaves) (gn 1 0 (wc h (fun h=>?_) (fun h=>?_))))))
  ·refine Wp.skip (Wp.seq (Wp.block (ws (Ai 3 0 (CU Mn h (fun x1 gx1 h=>RW.q (DA Mn gx1 0 0) (RW.q (CH Mn gx1 0) (gn 1 0 (wc h (fun h=>?_) (fun h=>?_))))))))))
   ·exact ws (gn 2 0 (Wp.ret (rr (jo h hk1)▸rq)))
   exact Wp.skip (As (gn 3 0 (jl h)))
  exact Wp.exit (jx h)
 intro v1 h E hE;exact AX hE (ws (gn 1 0 (Wp.ret (rr h▸rq))))
def U6 (xF:Flash) (z1:List Int) (z2:Int):St:=AA [(1,(pb 1)),(3,(.one (E0 z1))),(4,(I z2))] [(.box 1,[Da xF.Blocks])]
def U5 (z3:List Int):St:=AA [(3,(.one (E0 z3)))] []
def Uz (xF:Flash) (a:List Int) (b:Int) (z4:Bool) (z5:Int):St:=AA [(1,(pb 1)),(3,(.one (E0 a))),(4,(I b)),(5,(B z4)),(6,(I z5))] [(.box 1,[Da xF.Blocks])]
def Uy (xF:Flash) (a:List Int) (b:Int) (z6:Bool):St:=AA [(1,(pb 1)),(3,(.one (E0 a))),(4,(I b)),(5,(B z6))] [(.box 1,[Da xF.Blocks])]
theorem W3 (xF:Flash) (r:List Int) (h:Lm xF=some r):AU Tryz.prog 177 [.sv (.agg (TR false xF))] (.one (E0 r)) (rg 1):=by
 refine gk Tryz.func177 rfl Tryz.ntmps177 (ws (gw 2 0 (gn 2 2 (Wp.seq (ws (gn 1 0 (BP h [1,3,4] [.box 1] (fun s=>(U6 xF s.1 s.2)) [3] [] (fun s=>(U5 s)) EG ?_ ?_)))))))
 ·rintro⟨a,c⟩ o (h:G3 xF a c=some o);refine Wp.seq (ws (Ai 3 0 (RW.q (Di (EX false) xF.Blocks) (gn 1 0 (wc h (fun h=>?_) (fun h=>?_))))))
  ·refine Wp.skip (Wp.seq (Wp.block (ws (Ai 3 0 (CU (EX false) h (fun x1 gx1 h=>RW.q (DA (EX false) gx1 0 0) (RW.q (CH (EX false) gx1 0) (gn 2 0 (Wp.seq (ws (gn 1 0 (BP h [1,3,4,5,6] [.box 1] (fun s=>(Uz xF a c s.1 s.2)) [1,3,4,5] [.box 1] (fun s=>(Uy xF a c s)) EG ?_ ?_))))))))))))
   ·rintro⟨b,d⟩ o (h:Fv xF c b d=some o);refine Wp.seq (ws (Ai 4 0 (CU (EX false) h (fun x2 gx2 h=>RW.q (DA (EX false) gx2 0 2) (RW.q (CH (EX false) gx2 2) (RW.q (Di Mn x2.Leaves) (gn 1 0 (wc h (fun h=>?_) (fun h=>?_)))))))))
    ·refine Wp.skip (Wp.seq (Wp.block (As (Ai 2 0 (AJ 34 h (fun h=>?_) (fun h=>?_))))))
     ·exact Ai 3 0 (CU (EX false) h (fun x3 gx3 h=>RW.q (DA (EX false) gx3 0 2) (RW.q (CH (EX false) gx3 2) (Ai 1 0 (CU Mn h (fun x4 gx4 h=>RW.q (DA Mn gx4 0 0) (RW.q (CH Mn gx4 0) (gn 3 0 (As (gn 3 0 (jl h)))))))))))
     exact gn 13 0 (As (gn 3 0 (jl h)))
    exact Wp.exit (jv h)
   intro v1 h E hE;refine AX hE (ws (gn 1 0 (wc h (fun h=>?_) (fun h=>?_))))
   ·exact As (Ai 3 0 (bd h fun q1 gq1 h=>CV (DN k3 (fun _=>rfl) a gq1) (gn 1 1 (As (gn 3 0 (jl h))))))
   exact Wp.skip (As (gn 3 0 (jl h)))
  exact Wp.exit (jv h)
 intro v2 h E hE;exact AX hE (ws (gn 2 2 (Wp.ret (rr h▸rq))))
def eE (xF:Flash) (v4:List Int) (z1:Int) (z2:Int):St:=AA [(1,(pb 1)),(6,(.one (E0 v4))),(7,(I z1)),(8,(I z2))] [(.box 1,[Da xF.Blocks])]
def eD (z3:Int):St:=AA [(7,(I z3))] []
theorem kV (xF:Flash) (r:Int×Int×Bool) (h:Ni xF=some r):AU Tryz.prog 156 [.sv (.agg (TR false xF))] (.tup [(I r.1),(I r.2.1),(B r.2.2)]) (rg 1):=by
 refine gk Tryz.func156 rfl Tryz.ntmps156 (ws (gn 4 0 (Wp.seq (ws (Ai 1 0 (RW.c 0 h (M1 _) (fun v1 gv1 h=>gn 1 0 (wc h (fun h=>?_) (fun h=>?_)))))))))
 ·exact ws (gn 3 0 (Wp.ret (rr h▸rq)))
 refine Wp.skip (ws (Ai 1 0 (RW.c 0 h (Y2 _) (fun v2 gv2 h=>gn 1 0 (Wp.seq (ws (gn 2 0 (wc h (fun h=>?_) (fun h=>?_)))))))))
 ·exact ws (Ai 4 0 (CU (EX false) h (fun x1 gx1 h=>RW.q (Qz (EX false) gx1 0 3) (RW.c 0 h (MN _) (fun v3 gv3 h=>gn 3 0 (Wp.ret (rr h▸rq)))))))
 refine Wp.skip (ws (Ai 1 0 (RW.c 0 h (W3 _) (fun v4 gv4 h=>gn 1 1 (Wp.seq (ws (Ai 1 0 (RW.q (Di k3 v4) (gn 1 0 (wc h (fun h=>?_) (fun h=>?_)))))))))))
 ·exact ws (gn 3 0 (Wp.ret (rr h▸rq)))
 refine Wp.skip (ws (Ai 1 0 (CU k3 h (fun x2 gx2 h=>RW.q (CH k3 gx2 0) (gn 1 0 (Wp.seq (ws (gn 1 0 (BP h [1,6,7,8] [.box 1] (fun s=>(eE xF v4 s.1 s.2)) [7] [] (fun s=>(eD s)) EG ?_ ?_)))))))))
 ·rintro⟨a,b⟩ o (h:Jk xF v4 a b=some o);refine Wp.seq (ws (Ai 2 0 (RW.q (Di k3 v4) (gn 1 0 (wc h (fun h=>?_) (fun h=>?_))))))
  ·refine Wp.skip (Wp.seq (Wp.block (Wp.seq (KH mixed (Dl 4 (bd h fun x3 gx3 h=>SW.q (Jo k3 gx3) (SW.q (CH k3 gx3 0) (bd h fun x4 gx4 h=>SW.q (Jo (EX false) gx4) (SW.q (DA (EX false) gx4 0 1) (SW.q (CH (EX false) gx4 1) (Dl 3 (bd h fun x5 gx5 h=>SW.q (Jo (EX false) gx5) (SW.q (DA (EX false) gx5 0 1) (SW.q (CH (EX false) gx5 1) (Dl 1 (SW.nil (wc h (fun h=>?_) (fun h=>?_))))))))))))))))))
   ·exact As (Ai 2 0 (CU k3 h (fun x6 gx6 h=>RW.q (CH k3 gx6 0) (gn 1 0 (As (gn 3 0 (jl h)))))))
   exact Wp.skip (As (gn 3 0 (jl h)))
  exact Wp.exit (jv h)
 intro v5 h E hE;exact AX hE (ws (gn 4 0 (Wp.ret (rr h▸rq))))
theorem pO (xF:Flash) (xB:Int) (a:Int) (b:ByteArray) (r:Bool) (h:VU xF xB a b=some r):AU Tryz.prog 188 [.sv (.agg (TR false xF)),.sv (I xB),.sv (I a),.sv (Y b)] (B r) (rg 4):=by
 refine gk Tryz.func188 rfl Tryz.ntmps188 (ws (gw 2 0 (Ai 3 0 (RW.q (Di (EX false) xF.Blocks) (Ai 1 0 (RW.c 0 h (BM _ _ _) (fun v1 gv1 h=>Ai 1 0 (AJ 15 h (fun h=>?_) (fun h=>?_)))))))))
 ·refine Ai 3 0 (CU (EX false) h (fun x1 gx1 h=>RW.q (DA (EX false) gx1 0 0) (RW.q (CH (EX false) gx1 0) (Ai 3 0 (AJ 24 h (fun h=>?_) (fun h=>?_))))))
  ·refine Ai 4 0 (AJ 28 h (fun h=>?_) (fun h=>?_))
   ·refine Ai 4 0 (CU (EX false) h (fun x2 gx2 h=>RW.q (Qz (EX false) gx2 0 3) (RW.c 0 h (MN _) (fun v2 gv2 h=>Ai 3 0 (AJ 38 h (fun h=>?_) (fun h=>?_))))))
    ·exact Ai 2 0 (RW.c 0 h (BM _ _ _) (fun v3 gv3 h=>gn 2 0 (Wp.ret (rr h▸rq))))
    exact gn 5 0 (Wp.ret (rr h▸rq))
   exact gn 15 0 (Wp.ret (rr h▸rq))
  exact gn 19 0 (Wp.ret (rr h▸rq))
 exact gn 28 0 (Wp.ret (rr h▸rq))
def dY (xB:Int) (a:Int) (b:ByteArray) (v1:Flash) (z1:Bool):St:=AA [(1,(I xB)),(2,(I a)),(3,(Y b)),(8,(pb 8)),(10,(pb 10)),(23,(B z1))] [(.box 8,[CR []]),(.box 10,[CR v1.Blocks])]
theorem kO (xF:Flash) (xB:Int) (d:Int) (b:ByteArray) (r:Flash×Bool) (h:Nh xF xB d b=some r):AU Tryz.prog 178 [.sv (.agg (TR false xF)),.sv (I xB),.sv (I d),.sv (Y b)] (.tup [(.agg (TR true r.1)),(B r.2)]) (rg 4):=by
 refine gk Tryz.func178 rfl Tryz.ntmps178 (ws (gw 3 0 (Ai 1 0 (RW.c 0 h (I6 _) (fun v1 gv1 h=>gn 2 0 (Wp.seq (Fk h [1,2,3,8,10,23] [.box 8,.box 10] (fun a=>(dY xB d b v1 a)) (fun a h=>?_) (fun j1 h=>?_))))))))
 ·refine As (Ai 1 0 (RW.c 0 h (M1 _) (fun v2 gv2 h=>Ai 2 0 (AJ 16 h (fun h=>?_) (fun h=>?_)))))
  ·exact gn 7 0 (jn h)
  exact Ai 4 0 (RW.c 0 h (pO _ _ _ _) (fun v3 gv3 h=>gn 2 0 (jn h)))
 refine wc h (fun h=>?_) (fun h=>?_)
 ·exact ws (gn 3 0 (Wp.ret (rr h▸rq)))
 exact Wp.skip (ws (Ai 3 0 (CU (EX true) h (fun x1 gx1 h=>RW.q (DA (EX true) gx1 0 2) (RW.q (CH (EX true) gx1 2) (Ai 3 0 (bd h fun x2 gx2 h=>RW.q (ADL Mn gx2 (EX true) gx1 2) (CV (AEx Mn gx2 0 0 (Leaf.mk 1 b) (EX true) gx1 2 (Block.mk x1.Bad x1.Wear (si x1.Leaves d (Leaf.mk 1 b)))) (RW.nil (ws (gn 3 0 (Wp.ret (rr h▸rq)))))))))))))
def vD (xF:Flash) (xB:Int) (v1:Flash) (z1:Bool):St:=AA [(1,(I xB)),(2,(pb 2)),(4,(pb 4)),(6,(pb 6)),(37,(B z1))] [(.box 2,[Da xF.Blocks]),(.box 4,[CR []]),(.box 6,[CR v1.Blocks])]
theorem yZ (xF:Flash) (xB:Int) (r:Flash×Bool) (h:VZ xF xB=some r):AU Tryz.prog 179 [.sv (.agg (TR false xF)),.sv (I xB)] (.tup [(.agg (TR true r.1)),(B r.2)]) (rg 2):=by
 refine gk Tryz.func179 rfl Tryz.ntmps179 (ws (gw 3 0 (Ai 1 0 (RW.c 0 h (I6 _) (fun v1 gv1 h=>gn 2 0 (Wp.seq (Fk h [1,2,4,6,37] [.box 2,.box 4,.box 6] (fun a=>(vD xF xB v1 a)) (fun a h=>?_) (fun j1 h=>?_))))))))
 ·refine As (Ai 1 0 (RW.c 0 h (M1 _) (fun v2 gv2 h=>Ai 2 0 (AJ 12 h (fun h=>?_) (fun h=>?_)))))
  ·exact gn 25 0 (jn h)
  refine Ai 3 0 (RW.q (Di (EX false) xF.Blocks) (Ai 1 0 (RW.c 0 h (BM _ _ _) (fun v3 gv3 h=>Ai 3 0 (AJ 21 h (fun h=>?_) (fun h=>?_))))))
  ·exact gn 16 0 (jn h)
  refine Ai 3 0 (CU (EX false) h (fun x1 gx1 h=>RW.q (DA (EX false) gx1 0 0) (RW.q (CH (EX false) gx1 0) (Ai 2 0 (AJ 29 h (fun h=>?_) (fun h=>?_))))))
  ·exact gn 8 0 (jn h)
  exact Ai 3 0 (CU (EX false) h (fun x2 gx2 h=>RW.q (DA (EX false) gx2 0 1) (RW.q (CH (EX false) gx2 1) (gn 2 0 (jn h)))))
 refine wc h (fun h=>?_) (fun h=>?_)
 ·exact ws (gn 3 0 (Wp.ret (rr h▸rq)))
 exact Wp.skip (Wp.seq (Eu [13] mixed (fun c E h=>by rcases h with⟨h|h,_⟩<;>cases h) (Bw [0,1,2,3,4,5] 0 (bd h fun x3 gx3 h=>KW.q 6 (Jo (EX false) gx3) (KW.q 7 (DA (EX false) gx3 0 1) (KW.q 8 (CH (EX false) gx3 1) (Bw [9] 0 (BC 10 (bd h fun q1 gq1 h=>Ml (fmk Mn (Leaf.mk 0 (bs [])) gq1) (Bw [11] 0 (bd h fun x4 gx4 h=>KW.q 12 (Jo (EX true) gx4) (BC 13 (Ml (Ny (EX true) gx4 0 0 (Block.mk false (ad x3.Wear 1) q1)) (Bv (ws (gn 3 0 (Wp.ret (rr h▸rq))))))))))))))))))
def sF (x:BE):List TV:=[i6 x.Kind,i6 x.Block,i6 x.Leaf,ts x.Text]
theorem MQ:∀x,(sF x).length=4:=fun _=>rfl
theorem ACn:∀l,BH (AM sF l)=AM sF l:=D3 (fun _=>rfl)
theorem AAd:∀l,AO (AM sF l)=false:=Kq (fun _=>rfl)
def Ch (l:List BE):TV:= .sl true 203 4 (AM sF l)
def mI (l:List BE):TV:= .sl false 203 4 (AM sF l)
theorem QM (xF:Flash) (xS:BE) (r:Flash×Bool) (h:Nj xF xS=some r):AU Tryz.prog 157 [.sv (.agg (TR false xF)),.sv (.agg (sF xS))] (.tup [(.agg (TR true r.1)),(B r.2)]) (rg 2):=by
 refine gk Tryz.func157 rfl Tryz.ntmps157 (ws (gn 4 0 (Wp.seq (ws (gn 2 0 (Wp.block (ws (gn 2 0 (wc h (fun h=>?_) (fun h=>?_))))))))))
 ·exact ws (Ai 7 0 (RW.c 0 h (kO _ _ _ _) (fun v1 gv1 h=>gn 4 0 (Wp.ret (rr h▸rq)))))
 refine ws (gn 2 0 (wc h (fun h=>?_) (fun h=>?_)))
 ·exact ws (Ai 3 0 (RW.c 0 h (yZ _ _) (fun v2 gv2 h=>gn 4 0 (Wp.ret (rr h▸rq)))))
 exact Wp.skip (ws (Ai 1 0 (RW.c 0 h (I6 _) (fun v3 gv3 h=>gn 2 0 (Wp.ret (rr h▸rq))))))
def Ts (xF:Flash) (a:List BE) (v1:ByteArray×Bool) (v2:Int×Int×Bool) (z1:Bool):St:=AA [(1,(.one (Ch a))),(3,(pb 3)),(6,(pb 6)),(9,(Y v1.1)),(11,(I v2.1)),(12,(I v2.2.1)),(33,(B z1))] [(.box 3,[Da xF.Blocks]),(.box 6,[CR []])]
def Tr (v3:Flash×Bool) (z2:List BE):St:=AA [(6,(pb 6)),(7,(.one (Ch z2))),(8,(B v3.2))] [(.box 6,[CR v3.1.Blocks])]
theorem QJ (xF:Flash) (b:List BE) (xP:Page) (r:Flash×List BE×Bool) (h:Hh xF b xP=some r):AU Tryz.prog 130 [.sv (.agg [Da xF.Blocks]),.sv (.one (Ch b)),.sv (.agg [i6 xP.Kind,i6 xP.Seq,i6 xP.Tx,i6 xP.Part,i6 xP.Count,ts xP.Text])] (.tup [(.agg [Da r.1.Blocks]),(.one (Ch r.2.1)),(B r.2.2)]) (List.replicate 3 .gone):=by
 unfold Hh at h;refine wM Tryz.func130 rfl ?_;rw [Tryz.ntmps130];refine Wp.seq ?_;refine Wp.region ?_;refine Lf [] 3 [Da xF.Blocks] ?_;refine Lf [] 5 [i6 xP.Kind,i6 xP.Seq,i6 xP.Tx,i6 xP.Part,i6 xP.Count,ts xP.Text] ?_;refine Lf [] 6 [CR []] ?_;refine A3.o 7 (.one (Ch [])) ?_;refine A3.o 8 (B false) ?_;refine A3.nil ?_;refine Wp.seq ?_;refine Wp.region ?_;refine A3.o 18 (.agg [i6 xP.Kind,i6 xP.Seq,i6 xP.Tx,i6 xP.Part,i6 xP.Count,ts xP.Text]) ?_;refine XB h 19 (fun v1=>(.tup [(Y v1.1),(B v1.2)])) rfl (l:=[.sv (.agg [i6 xP.Kind,i6 xP.Seq,i6 xP.Tx,i6 xP.Part,i6 xP.Count,ts xP.Text])]) rfl (fun v hv=>R2 xP v hv) (.inl rfl) ?_;intro v1 gv1 h;refine iO 19 17 (.tup [(Y v1.1),(B v1.2)]) ?_;refine Sq 17 0 20 (Y v1.1) ?_;refine Sq 17 1 21 (B v1.2) ?_;refine A3.o 9 (Y v1.1) ?_;refine A3.o 10 (B v1.2) ?_;refine A3.nil ?_;refine Wp.seq ?_;refine Wp.region ?_;refine A3.o 23 (.agg [Da xF.Blocks]) ?_;refine XB h 24 (fun v2=>(.tup [(I v2.1),(I v2.2.1),(B v2.2.2)])) rfl (l:=[.sv (.agg [Da xF.Blocks])]) rfl (fun v hv=>kV xF v hv) (.inl rfl) ?_;intro v2 gv2 h;refine iO 24 22 (.tup [(I v2.1),(I v2.2.1),(B v2.2.2)]) ?_;refine Sq 22 0 25 (I v2.1) ?_;refine Sq 22 1 26 (I v2.2.1) ?_;refine Sq 22 2 27 (B v2.2.2) ?_;refine A3.o 11 (I v2.1) ?_;refine A3.o 12 (I v2.2.1) ?_;refine A3.o 13 (B v2.2.2) ?_;refine A3.nil ?_;refine Wp.seq ?_;refine Wp.seq ?_;refine FB h [1,3,6,9,11,12,33] [.box 3,.box 6] (fun a=>(Ts xF b v1 v2 a)) ?_ ?_
 ·intro a h;refine Wp.region ?_;refine A3.o 28 (B v1.2) ?_;refine A3.o 29 (B (!v1.2)) ?_;refine A3.o 30 (B (!v1.2)) ?_;refine PD h 30 (fun h=>?_) (fun h=>?_)
  ·refine DW 31 ?_;refine DW 32 ?_;refine A3.o 33 (B true) ?_;refine A3.nil ?_;cases h;exact⟨_,rfl,rfl,rfl⟩
  refine A3.o 31 (B v2.2.2) ?_;refine A3.o 32 (B (!v2.2.2)) ?_;refine A3.o 33 (B (!v2.2.2)) ?_;refine A3.nil ?_;cases h;exact⟨_,rfl,rfl,rfl⟩
 intro j1 h E hE;refine AX hE ?_;change Wp _ _ _ (Ts xF b v1 v2 j1) _;refine Wp.c h (fun h=>?_) (fun h=>?_)
 ·refine Wp.seq ?_;refine Wp.region ?_;refine A3.o 34 (.agg [Da xF.Blocks]) ?_;refine A3.o 35 (.one (.view (.slot 1) 0 [] 0)) ?_;refine sT [] (.box 6) [Da xF.Blocks] ?_;refine XA true [(.slot 1,[.junk])] 7 (.one (Ch b)) ?_;refine A3.o 8 (B false) ?_;refine A3.nil ?_;cases h;exact Wp.ret ⟨.inr rfl,_,_,rfl,iM⟩
 refine Wp.skip ?_;refine Wp.seq ?_;refine Wp.region ?_;refine A3.o 36 (I v2.1) ?_;refine A3.o 37 (I v2.2.1) ?_;refine A3.o 38 (Y v1.1) ?_;refine A3.o 39 (.agg [i6 1,i6 v2.1,i6 v2.2.1,ts v1.1]) ?_;refine Lf [] 14 [i6 0,i6 0,i6 0,ts (bs [])] ?_;refine A3.s [] (.box 14) [i6 1,i6 v2.1,i6 v2.2.1,ts v1.1] ?_;refine A3.nil ?_;refine Wp.seq ?_;refine Wp.region ?_;refine A3.o 41 (.agg [Da xF.Blocks]) ?_;refine A3.o 42 (.agg [i6 1,i6 v2.1,i6 v2.2.1,ts v1.1]) ?_;refine XB h 43 (fun v3=>(.tup [(.agg [CR v3.1.Blocks]),(B v3.2)])) rfl (l:=[.sv (.agg [Da xF.Blocks]),.sv (.agg [i6 1,i6 v2.1,i6 v2.2.1,ts v1.1])]) rfl (fun v hv=>QM xF (BE.mk 1 v2.1 v2.2.1 v1.1) v hv) (.inl rfl) ?_;intro v3 gv3 h;refine iO 43 40 (.tup [(.agg [CR v3.1.Blocks]),(B v3.2)]) ?_;refine Sq 40 0 44 (.agg [CR v3.1.Blocks]) ?_;refine Sq 40 1 45 (B v3.2) ?_;refine Lf [] 15 [CR []] ?_;refine sT [(.slot 44,[.junk])] (.box 15) [CR v3.1.Blocks] ?_;refine A3.o 16 (B v3.2) ?_;refine A3.nil ?_;refine Wp.seq ?_;refine FB h [6,7,8] [.box 6] (fun a=>(Tr v3 a)) ?_ ?_
 ·intro a h;refine X2 9 [4,6] mixed (fun c E h=>by rcases h with⟨h|h,_⟩<;>cases h) ?_;refine Dn.o 9 1 47 (.one (.view (.slot 1) 0 [] 0)) ?_;refine Dn.o 9 2 48 (.agg [i6 1,i6 v2.1,i6 v2.2.1,ts v1.1]) ?_;refine AA8 0 3 5 ?_ ?_ ?_
  ·refine D9.o 0 46 (.agg [.view (.box 15) 2 [] 0]) ?_;refine Kj 3 5 ?_ ?_
   ·refine H3 3 false [] 49 (.one (Ch [(BE.mk 1 v2.1 v2.2.1 v1.1)])) ?_;refine Kj 4 5 ?_ ?_
    ·refine Mk h 4 [(.slot 1,[.junk])] 50 (fun q1=>(.one (Ch q1))) ?_ rfl (fun q1 gq1=>Nd MQ (fun _=>rfl) [(.slot 1,[.junk])] b gq1);intro q1 gq1 h;refine Kj 5 6 ?_ ?_
     ·refine D9.o 5 51 (B v3.2) ?_;refine BT 6 ?_;refine I1 6 [(.box 15,[.junk])] (.box 6) [CR v3.1.Blocks] ?_;refine BT 7 ?_;refine H3 7 true [(.slot 50,[.junk])] 7 (.one (Ch q1)) ?_;refine BT 8 ?_;refine D9.o 8 8 (B v3.2) ?_;refine DK ?_;cases h;exact⟨_,rfl,rfl,rfl⟩
     refine I1 6 [(.box 15,[.junk])] (.box 6) [CR v3.1.Blocks] ?_;refine Kj 5 7 ?_ ?_
     ·refine D9.o 5 51 (B v3.2) ?_;refine BT 7 ?_;refine H3 7 true [(.slot 50,[.junk])] 7 (.one (Ch q1)) ?_;refine BT 8 ?_;refine D9.o 8 8 (B v3.2) ?_;refine DK ?_;cases h;exact⟨_,rfl,rfl,rfl⟩
     refine H3 7 true [(.slot 50,[.junk])] 7 (.one (Ch q1)) ?_;refine BT 5 ?_;refine D9.o 5 51 (B v3.2) ?_;refine BT 8 ?_;refine D9.o 8 8 (B v3.2) ?_;refine DK ?_;cases h;exact⟨_,rfl,rfl,rfl⟩
    refine D9.o 5 51 (B v3.2) ?_;refine BT 4 ?_;refine Mk h 4 [(.slot 1,[.junk])] 50 (fun q2=>(.one (Ch q2))) ?_ rfl (fun q2 gq2=>Nd MQ (fun _=>rfl) [(.slot 1,[.junk])] b gq2);intro q2 gq2 h;refine BT 6 ?_;refine I1 6 [(.box 15,[.junk])] (.box 6) [CR v3.1.Blocks] ?_;refine BT 7 ?_;refine H3 7 true [(.slot 50,[.junk])] 7 (.one (Ch q2)) ?_;refine BT 8 ?_;refine D9.o 8 8 (B v3.2) ?_;refine DK ?_;cases h;exact⟨_,rfl,rfl,rfl⟩
   refine D9.o 5 51 (B v3.2) ?_;refine BT 3 ?_;refine H3 3 false [] 49 (.one (Ch [(BE.mk 1 v2.1 v2.2.1 v1.1)])) ?_;refine BT 4 ?_;refine Mk h 4 [(.slot 1,[.junk])] 50 (fun q3=>(.one (Ch q3))) ?_ rfl (fun q3 gq3=>Nd MQ (fun _=>rfl) [(.slot 1,[.junk])] b gq3);intro q3 gq3 h;refine BT 6 ?_;refine I1 6 [(.box 15,[.junk])] (.box 6) [CR v3.1.Blocks] ?_;refine BT 7 ?_;refine H3 7 true [(.slot 50,[.junk])] 7 (.one (Ch q3)) ?_;refine BT 8 ?_;refine D9.o 8 8 (B v3.2) ?_;refine DK ?_;cases h;exact⟨_,rfl,rfl,rfl⟩
  ·refine H3 3 false [] 49 (.one (Ch [(BE.mk 1 v2.1 v2.2.1 v1.1)])) ?_;refine AA8 0 4 5 ?_ ?_ ?_
   ·refine D9.o 0 46 (.agg [.view (.box 15) 2 [] 0]) ?_;refine Kj 4 5 ?_ ?_
    ·refine Mk h 4 [(.slot 1,[.junk])] 50 (fun q4=>(.one (Ch q4))) ?_ rfl (fun q4 gq4=>Nd MQ (fun _=>rfl) [(.slot 1,[.junk])] b gq4);intro q4 gq4 h;refine Kj 5 6 ?_ ?_
     ·refine D9.o 5 51 (B v3.2) ?_;refine BT 6 ?_;refine I1 6 [(.box 15,[.junk])] (.box 6) [CR v3.1.Blocks] ?_;refine BT 7 ?_;refine H3 7 true [(.slot 50,[.junk])] 7 (.one (Ch q4)) ?_;refine BT 8 ?_;refine D9.o 8 8 (B v3.2) ?_;refine DK ?_;cases h;exact⟨_,rfl,rfl,rfl⟩
     refine I1 6 [(.box 15,[.junk])] (.box 6) [CR v3.1.Blocks] ?_;refine Kj 5 7 ?_ ?_
     ·refine D9.o 5 51 (B v3.2) ?_;refine BT 7 ?_;refine H3 7 true [(.slot 50,[.junk])] 7 (.one (Ch q4)) ?_;refine BT 8 ?_;refine D9.o 8 8 (B v3.2) ?_;refine DK ?_;cases h;exact⟨_,rfl,rfl,rfl⟩
     refine H3 7 true [(.slot 50,[.junk])] 7 (.one (Ch q4)) ?_;refine BT 5 ?_;refine D9.o 5 51 (B v3.2) ?_;refine BT 8 ?_;refine D9.o 8 8 (B v3.2) ?_;refine DK ?_;cases h;exact⟨_,rfl,rfl,rfl⟩
    refine D9.o 5 51 (B v3.2) ?_;refine BT 4 ?_;refine Mk h 4 [(.slot 1,[.junk])] 50 (fun q5=>(.one (Ch q5))) ?_ rfl (fun q5 gq5=>Nd MQ (fun _=>rfl) [(.slot 1,[.junk])] b gq5);intro q5 gq5 h;refine BT 6 ?_;refine I1 6 [(.box 15,[.junk])] (.box 6) [CR v3.1.Blocks] ?_;refine BT 7 ?_;refine H3 7 true [(.slot 50,[.junk])] 7 (.one (Ch q5)) ?_;refine BT 8 ?_;refine D9.o 8 8 (B v3.2) ?_;refine DK ?_;cases h;exact⟨_,rfl,rfl,rfl⟩
   ·refine Mk h 4 [(.slot 1,[.junk])] 50 (fun q6=>(.one (Ch q6))) ?_ rfl (fun q6 gq6=>Nd MQ (fun _=>rfl) [(.slot 1,[.junk])] b gq6);intro q6 gq6 h;refine Kj 0 5 ?_ ?_
    ·refine D9.o 0 46 (.agg [.view (.box 15) 2 [] 0]) ?_;refine Kj 5 6 ?_ ?_
     ·refine D9.o 5 51 (B v3.2) ?_;refine BT 6 ?_;refine I1 6 [(.box 15,[.junk])] (.box 6) [CR v3.1.Blocks] ?_;refine BT 7 ?_;refine H3 7 true [(.slot 50,[.junk])] 7 (.one (Ch q6)) ?_;refine BT 8 ?_;refine D9.o 8 8 (B v3.2) ?_;refine DK ?_;cases h;exact⟨_,rfl,rfl,rfl⟩
     refine I1 6 [(.box 15,[.junk])] (.box 6) [CR v3.1.Blocks] ?_;refine Kj 5 7 ?_ ?_
     ·refine D9.o 5 51 (B v3.2) ?_;refine BT 7 ?_;refine H3 7 true [(.slot 50,[.junk])] 7 (.one (Ch q6)) ?_;refine BT 8 ?_;refine D9.o 8 8 (B v3.2) ?_;refine DK ?_;cases h;exact⟨_,rfl,rfl,rfl⟩
     refine H3 7 true [(.slot 50,[.junk])] 7 (.one (Ch q6)) ?_;refine BT 5 ?_;refine D9.o 5 51 (B v3.2) ?_;refine BT 8 ?_;refine D9.o 8 8 (B v3.2) ?_;refine DK ?_;cases h;exact⟨_,rfl,rfl,rfl⟩
    refine D9.o 5 51 (B v3.2) ?_;refine BT 0 ?_;refine D9.o 0 46 (.agg [.view (.box 15) 2 [] 0]) ?_;refine BT 6 ?_;refine I1 6 [(.box 15,[.junk])] (.box 6) [CR v3.1.Blocks] ?_;refine BT 7 ?_;refine H3 7 true [(.slot 50,[.junk])] 7 (.one (Ch q6)) ?_;refine BT 8 ?_;refine D9.o 8 8 (B v3.2) ?_;refine DK ?_;cases h;exact⟨_,rfl,rfl,rfl⟩
   refine D9.o 5 51 (B v3.2) ?_;refine Kj 0 4 ?_ ?_
   ·refine D9.o 0 46 (.agg [.view (.box 15) 2 [] 0]) ?_;refine BT 4 ?_;refine Mk h 4 [(.slot 1,[.junk])] 50 (fun q7=>(.one (Ch q7))) ?_ rfl (fun q7 gq7=>Nd MQ (fun _=>rfl) [(.slot 1,[.junk])] b gq7);intro q7 gq7 h;refine BT 6 ?_;refine I1 6 [(.box 15,[.junk])] (.box 6) [CR v3.1.Blocks] ?_;refine BT 7 ?_;refine H3 7 true [(.slot 50,[.junk])] 7 (.one (Ch q7)) ?_;refine BT 8 ?_;refine D9.o 8 8 (B v3.2) ?_;refine DK ?_;cases h;exact⟨_,rfl,rfl,rfl⟩
   refine Mk h 4 [(.slot 1,[.junk])] 50 (fun q8=>(.one (Ch q8))) ?_ rfl (fun q8 gq8=>Nd MQ (fun _=>rfl) [(.slot 1,[.junk])] b gq8);intro q8 gq8 h;refine BT 0 ?_;refine D9.o 0 46 (.agg [.view (.box 15) 2 [] 0]) ?_;refine BT 6 ?_;refine I1 6 [(.box 15,[.junk])] (.box 6) [CR v3.1.Blocks] ?_;refine BT 7 ?_;refine H3 7 true [(.slot 50,[.junk])] 7 (.one (Ch q8)) ?_;refine BT 8 ?_;refine D9.o 8 8 (B v3.2) ?_;refine DK ?_;cases h;exact⟨_,rfl,rfl,rfl⟩
  refine D9.o 5 51 (B v3.2) ?_;refine Kj 0 3 ?_ ?_
  ·refine D9.o 0 46 (.agg [.view (.box 15) 2 [] 0]) ?_;refine BT 3 ?_;refine H3 3 false [] 49 (.one (Ch [(BE.mk 1 v2.1 v2.2.1 v1.1)])) ?_;refine BT 4 ?_;refine Mk h 4 [(.slot 1,[.junk])] 50 (fun q9=>(.one (Ch q9))) ?_ rfl (fun q9 gq9=>Nd MQ (fun _=>rfl) [(.slot 1,[.junk])] b gq9);intro q9 gq9 h;refine BT 6 ?_;refine I1 6 [(.box 15,[.junk])] (.box 6) [CR v3.1.Blocks] ?_;refine BT 7 ?_;refine H3 7 true [(.slot 50,[.junk])] 7 (.one (Ch q9)) ?_;refine BT 8 ?_;refine D9.o 8 8 (B v3.2) ?_;refine DK ?_;cases h;exact⟨_,rfl,rfl,rfl⟩
  refine H3 3 false [] 49 (.one (Ch [(BE.mk 1 v2.1 v2.2.1 v1.1)])) ?_;refine Kj 0 4 ?_ ?_
  ·refine D9.o 0 46 (.agg [.view (.box 15) 2 [] 0]) ?_;refine BT 4 ?_;refine Mk h 4 [(.slot 1,[.junk])] 50 (fun q10=>(.one (Ch q10))) ?_ rfl (fun q10 gq10=>Nd MQ (fun _=>rfl) [(.slot 1,[.junk])] b gq10);intro q10 gq10 h;refine BT 6 ?_;refine I1 6 [(.box 15,[.junk])] (.box 6) [CR v3.1.Blocks] ?_;refine BT 7 ?_;refine H3 7 true [(.slot 50,[.junk])] 7 (.one (Ch q10)) ?_;refine BT 8 ?_;refine D9.o 8 8 (B v3.2) ?_;refine DK ?_;cases h;exact⟨_,rfl,rfl,rfl⟩
  refine Mk h 4 [(.slot 1,[.junk])] 50 (fun q11=>(.one (Ch q11))) ?_ rfl (fun q11 gq11=>Nd MQ (fun _=>rfl) [(.slot 1,[.junk])] b gq11);intro q11 gq11 h;refine BT 0 ?_;refine D9.o 0 46 (.agg [.view (.box 15) 2 [] 0]) ?_;refine BT 6 ?_;refine I1 6 [(.box 15,[.junk])] (.box 6) [CR v3.1.Blocks] ?_;refine BT 7 ?_;refine H3 7 true [(.slot 50,[.junk])] 7 (.one (Ch q11)) ?_;refine BT 8 ?_;refine D9.o 8 8 (B v3.2) ?_;refine DK ?_;cases h;exact⟨_,rfl,rfl,rfl⟩
 intro j2 h E hE;refine AX hE ?_;change Wp _ _ _ (Tr v3 j2) _;cases h;exact Wp.ret ⟨.inr rfl,_,_,rfl,(ADj (Lc.c (ADk (uD.c (wA.s (Ff _)) AAm)) (Lc.c iM (Lc.c iM iL))))⟩
theorem kM (xR:CD) (r:ByteArray×Bool) (h:PO xR=some r):AU Tryz.prog 158 [.sv (.agg (c99 xR))] (.tup [(Y r.1),(B r.2)]) (rg 1):=by
 refine gk Tryz.func158 rfl Tryz.ntmps158 (ws (gn 3 0 (Wp.seq (ws (Ai 1 0 (RW.c 0 h (SG _) (fun v1 gv1 h=>gn 1 0 (wc h (fun h=>?_) (fun h=>?_)))))))))
 ·exact ws (gn 2 0 (Wp.ret (rr h▸rq)))
 exact Wp.skip (Wp.seq (Eu [] mixed (fun c E h=>by rcases h with⟨h|h,_⟩<;>cases h) (Bw [0,1,2,3,4,5,7,8,11,12] 0 (BC 6 (KB.c 0 h (Ty _) (fun v2 gv2 h=>BC 9 (KB.c 0 h (It _) (fun v3 gv3 h=>bd h fun x1 gx1 h=>KW.q 10 (ON gx1) (BC 13 (KB.c 0 h (It _) (fun v4 gv4 h=>bd h fun x2 gx2 h=>KW.q 14 (ON gx2) (Bw [15,16] 0 (Bv (Wp.ret (rr h▸rq)))))))))))))))
def cT (b:Int) (c:Int) (a:List CD) (z1:List ByteArray) (z2:Int):St:=AA [(0,(I b)),(1,(I c)),(2,(.one (UE a))),(8,(.one (fL []))),(9,(.one (ot9 z1))),(10,(I z2))] []
def cS (a:Int) (b:Int) (z3:List ByteArray):St:=AA [(0,(I a)),(1,(I b)),(8,(.one (fL []))),(9,(.one (ot9 z3)))] []
def cR (a:Int) (b:Int) (v2:List ByteArray) (z4:Bool):St:=AA [(0,(I a)),(1,(I b)),(8,(.one (fL []))),(9,(.one (ot9 v2))),(76,(B z4))] []
def cQ (a:Int) (b:Int) (v2:List ByteArray) (z5:List Page) (z6:Int):St:=AA [(0,(I a)),(1,(I b)),(9,(.one (ot9 v2))),(14,(.one (fL z5))),(15,(I z6))] []
def cO (z7:List Page):St:=AA [(14,(.one (fL z7)))] []
theorem kF (b:Int) (f:Int) (d:List CD) (r:List Page×Bool) (h:Nf b f d=some r):AU Tryz.prog 131 [.sv (I b),.sv (I f),.sv (.one (UE d))] (.tup [(.one (fL r.1)),(B r.2)]) (rg 3):=by
 refine gk Tryz.func131 rfl Tryz.ntmps131 (ws (gw 2 0 (gw 2 2 (gn 2 2 (Wp.seq (ws (gn 1 0 (E5 h [0,1,2,8,9,10] [] (fun s=>(cT b f d s.1 s.2)) [0,1,8,9] [] (fun s=>(cS b f s)) EG ?_ ?_))))))))
 ·rintro⟨e,i⟩ o (h:H9 d e i=some o) hk1;refine Wp.seq (ws (Ai 2 0 (RW.q (Di Qs d) (gn 1 0 (wc h (fun h=>?_) (fun h=>?_))))))
  ·refine Wp.skip (Wp.seq (Wp.block (ws (Ai 2 0 (CU Qs h (fun x1 gx1 h=>RW.q (Qz Qs gx1 0 4) (RW.c 0 h (kM _) (fun v1 gv1 h=>gn 5 1 (Wp.seq (ws (gn 2 0 (wc h (fun h=>?_) (fun h=>?_)))))))))))))
   ·exact ws (gn 3 2 (Wp.ret (rr (jo h hk1)▸rq)))
   refine Wp.skip (ws (Ai 1 0 (RW.q (Di k9 e) (gw 2 0 (Ai 2 0 (CU k9 h (fun x2 gx2 h=>RW.q (CH k9 gx2 0) (gn 5 0 (wc h (fun h=>?_) (fun h=>?_))))))))))
   ·exact As (Ai 3 0 (bd h fun q1 gq1 h=>CV (DN k9 (fun _=>rfl) e gq1) (gn 1 1 (As (gn 3 0 (jl h))))))
   exact As (Ai 4 0 (CU k9 h (fun x3 gx3 h=>RW.q (CH k9 gx3 0) (Ai 1 0 (bd h fun x4 gx4 h=>RW.q (ON gx4) (CU k9 h (fun x5 gx5 h=>CV (Ny k9 gx5 0 0 x4) (RW.nil (As (gn 3 0 (jl h)))))))))))
  exact Wp.exit (jx h)
 intro v2 h E hE;refine AX hE (Wp.seq (Fk h [0,1,8,9,76] [] (fun a=>(cR b f v2 a)) (fun a h=>?_) (fun j1 h=>?_)))
 ·refine As (Ai 1 0 (RW.q (Di k9 v2) (Ai 2 0 (AJ 63 h (fun h=>?_) (fun h=>?_)))))
  ·exact gn 13 0 (jn h)
  refine Ai 2 0 (RW.q (Di k9 v2) (Ai 2 0 (RW.c 0 h (BM _ _ _) (fun v3 gv3 h=>Ai 3 0 (AJ 72 h (fun h=>?_) (fun h=>?_))))))
  ·exact gn 4 0 (jn h)
  exact Ai 1 0 (RW.c 0 h (BM _ _ _) (fun v4 gv4 h=>gn 2 0 (jn h)))
 refine wc h (fun h=>?_) (fun h=>?_)
 ·exact ws (gn 3 2 (Wp.ret (rr h▸rq)))
 refine Wp.skip (ws (gn 2 2 (Wp.seq (ws (gn 1 0 (BP h [0,1,9,14,15] [] (fun s=>(cQ b f v2 s.1 s.2)) [14] [] (fun s=>(cO s)) EG ?_ ?_))))))
 ·rintro⟨g,j⟩ o (h:H8 b f v2 g j=some o);refine Wp.seq (ws (Ai 2 0 (RW.q (Di k9 v2) (gn 1 0 (wc h (fun h=>?_) (fun h=>?_))))))
  ·exact Wp.skip (Wp.seq (Wp.block (As (Ai 7 0 (RW.q (Di k9 v2) (Ai 2 0 (CU k9 h (fun x6 gx6 h=>RW.q (CH k9 gx6 0) (Ai 2 0 (bd h fun q2 gq2 h=>CV (DN k52 (fun _=>rfl) g gq2) (gn 1 1 (As (gn 3 0 (jl h))))))))))))))
  exact Wp.exit (jv h)
 intro v5 h E hE;exact AX hE (ws (gn 3 2 (Wp.ret (rr h▸rq))))
def Uk (xD:AF) (a:List CD) (z1:List BE) (z2:Int) (z3:Bool) (z4:List Block):St:=AA [(1,(.one (UE a))),(3,(pb 3)),(8,(.one (Ch z1))),(9,(pb 9)),(10,(I z2)),(11,(B z3))] [(.box 3,[Da xD.Flash.Blocks,DB xD.Store.Vols,BJ xD.Store.Arena.Knots,i6 xD.Store.Next,i6 xD.Seq,i6 xD.Tx,i6 xD.Base]),(.box 9,[Da z4])]
def Uj (xD:AF) (a:List CD) (z5:List BE) (z6:Bool) (z7:List Block):St:=AA [(1,(.one (UE a))),(3,(pb 3)),(8,(.one (Ch z5))),(9,(pb 9)),(10,(I xD.Seq)),(11,(B z6))] [(.box 3,[Da xD.Flash.Blocks,DB xD.Store.Vols,BJ xD.Store.Arena.Knots,i6 xD.Store.Next,i6 xD.Seq,i6 xD.Tx,i6 xD.Base]),(.box 9,[Da z7])]
def Ui (v2:List Page×Bool) (z8:List BE) (z9:Bool) (z10:Int) (z11:List Block):St:=AA [(8,(.one (Ch z8))),(9,(pb 9)),(11,(B z9)),(12,(.one (fL v2.1))),(13,(B v2.2)),(14,(I z10))] [(.box 9,[Da z11])]
def Ug (v2:List Page×Bool) (z12:List BE) (z13:Bool):St:=AA [(8,(.one (Ch z12))),(11,(B z13)),(13,(B v2.2))] []
def Uf (v2:List Page×Bool) (a:List BE) (b:Bool) (d:Int) (c:List Block) (z14:Bool):St:=AA [(8,(.one (Ch a))),(9,(pb 9)),(11,(B b)),(12,(.one (fL v2.1))),(13,(B v2.2)),(14,(I d)),(59,(B z14))] [(.box 9,[Da c])]
def Ue (v2:List Page×Bool) (a:Int) (z15:List BE) (z16:Bool) (z17:List Block):St:=AA [(8,(.one (Ch z15))),(9,(pb 9)),(11,(B z16)),(12,(.one (fL v2.1))),(13,(B v2.2)),(14,(I a))] [(.box 9,[Da z17])]
def Ud (v4:List BE×Bool) (z18:Bool):St:=AA [(8,(.one (Ch v4.1))),(78,(B z18))] []
set_option maxHeartbeats 4000000 in
theorem Pj (xD:AF) (b:List CD) (e:ByteArray) (r:List BE×Bool) (h:E7 xD b e=some r):AU Tryz.prog 100 [.sv (.agg (Sx false xD)),.sv (.one (UE b)),.sv (Y e)] (.tup [(.one (Ch r.1)),(B r.2)]) (rg 3):=by
 refine gk Tryz.func100 rfl Tryz.ntmps100 (ws (gw 3 0 (gn 2 2 (Wp.seq (ws (Ai 1 0 (RW.q (Di Qs b) (gn 1 0 (wc h (fun h=>?_) (fun h=>?_))))))))))
 ·exact ws (gn 3 2 (Wp.ret (rr h▸rq)))
 refine Wp.skip (ws (gw 4 0 (gw 3 0 (gn 1 0 (Wp.seq (ws (gn 2 0 (FB h [1,3,8,9,10,11] [.box 3,.box 9] (fun a=>(Uk xD b a.1 a.2.1 a.2.2.1 a.2.2.2)) ?_ ?_))))))))
 ·intro a h;refine wc h (fun h=>?_) (fun h=>?_)
  ·refine Fk h [1,3,8,9,10,11] [.box 3,.box 9] (fun a=>(Uj xD b a.1 a.2.1 a.2.2)) (fun a h=>?_) (fun j2 h=>?_)
   ·exact Eu [12,17] mixed (fun c E h=>by rcases h with⟨h|h,_⟩<;>cases h) (Bw [0,1,2,3,4] 0 (KW.q 5 (Di Qs b) (Bw [6] 0 (bd h fun x1 gx1 h=>KW.q 7 (Jo Qs gx1) (KW.q 8 (DA Qs gx1 0 3) (KW.q 9 (CH Qs gx1 3) (Bw [10,11] 0 (BC 12 (KB.c 2 h (QJ _ _ _) (fun v1 gv1 h=>Bw [13] 1 (oj [18] h)))))))))))
   exact As (gn 3 0 (jn h))
  exact Wp.skip (jn h)
 intro j1 h E hE;refine AX hE (ws (Ai 4 0 (RW.c 0 h (kF _ _ _) (fun v2 gv2 h=>gn 5 9 (Wp.seq (ws (gn 1 0 (BP h [8,9,11,12,13,14] [.box 9] (fun s=>(Ui v2 s.1 s.2.1 s.2.2.1 s.2.2.2)) [8,11,13] [] (fun s=>(Ug v2 s.1 s.2)) EG ?_ ?_))))))))
 ·rintro⟨d,f,i,g⟩ o (h:Fl v2 d f i g=some o);refine Wp.seq (Fk h [8,9,11,12,13,14,59] [.box 9] (fun a=>(Uf v2 d f i g a)) (fun a h=>?_) (fun j3 h=>?_))
  ·refine As (Ai 2 0 (RW.q (Di k52 v2.1) (Ai 2 0 (AJ 57 h (fun h=>?_) (fun h=>?_)))))
   ·exact gn 2 0 (jn h)
   exact gn 2 0 (jn h)
  refine wc h (fun h=>?_) (fun h=>?_)
  ·refine Wp.skip (Wp.seq (Wp.block (FB h [8,9,11,12,13,14] [.box 9] (fun a=>(Ue v2 i a.1 a.2.1 a.2.2)) ?_ ?_)))
   ·intro a h;exact Eu [6,11] mixed (fun c E h=>by rcases h with⟨h|h,_⟩<;>cases h) (Bw [0,1,2,3] 0 (bd h fun x2 gx2 h=>KW.q 4 (Jo k52 gx2) (KW.q 5 (Qz k52 gx2 0 6) (BC 6 (KB.c 2 h (QJ _ _ _) (fun v3 gv3 h=>Bw [7] 1 (oj [12] h)))))))
   intro j4 h E hE;exact AX hE (As (gn 3 0 (jl h)))
  exact Wp.exit (jv h)
 intro v4 h E hE;refine AX hE (Wp.seq (Fk h [8,78] [] (fun a=>(Ud v4 a)) (fun a h=>?_) (fun j5 h=>?_)))
 ·refine As (Ai 3 0 (AJ 75 h (fun h=>?_) (fun h=>?_)))
  ·exact gn 3 0 (jn h)
  exact gn 3 0 (jn h)
 refine wc h (fun h=>?_) (fun h=>?_)
 ·exact ws (gn 3 2 (Wp.ret (rr h▸rq)))
 exact Wp.skip (ws (gn 3 2 (Wp.ret (rr h▸rq))))
theorem YO (xD:AF) (r:List BE×Bool) (h:Pm xD=some r):AU Tryz.prog 153 [.sv (.agg (Sx false xD))] (.tup [(.one (Ch r.1)),(B r.2)]) (rg 1):=by
 exact gk Tryz.func153 rfl Tryz.ntmps153 (ws (gn 3 0 (Wp.seq (Eu [] mixed (fun c E h=>by rcases h with⟨h|h,_⟩<;>cases h) (Bw [0,1,2] 0 (BC 3 (KB.c 0 h (e7 _) (fun v1 gv1 h=>BC 4 (KB.c 0 h (gs (ca rfl (ca (co (cs (u9 _))) rfl)) (Pj _ _ _)) (fun v2 gv2 h=>OR 5 (OR 6 (Bw [7,8] 0 (Bv (Wp.ret (rr h▸rq)))))) (hc:=(.inr (fun v=>by simp [BB,BL,AO,B9,AAd,Ch]))))))))))))
def Yf (xD:AF) (v1:List Ap) (v3:List Bool) (v4:List Bool) (z1:Int) (z2:Int) (z3:Int):St:=AA [(1,(pb 1)),(3,(.one (G5 v1))),(5,(.one (OS v3))),(6,(.one (OS v4))),(7,(I z1)),(8,(I z2)),(9,(I z3))] [(.box 1,[Da xD.Flash.Blocks,DB xD.Store.Vols,BJ xD.Store.Arena.Knots,i6 xD.Store.Next,i6 xD.Seq,i6 xD.Tx,i6 xD.Base])]
def Ye (z4:Int):St:=AA [(7,(I z4))] []
def Yd (xD:AF) (v1:List Ap) (v3:List Bool) (v4:List Bool) (b:Int) (a:Int) (c:Int) (v5:Int) (z5:Bool):St:=AA [(1,(pb 1)),(3,(.one (G5 v1))),(5,(.one (OS v3))),(6,(.one (OS v4))),(7,(I b)),(8,(I a)),(9,(I c)),(11,(I v5)),(68,(B z5))] [(.box 1,[Da xD.Flash.Blocks,DB xD.Store.Vols,BJ xD.Store.Arena.Knots,i6 xD.Store.Next,i6 xD.Seq,i6 xD.Tx,i6 xD.Base])]
theorem cM (xD:AF) (r:Int) (h:NP xD=some r):AU Tryz.prog 154 [.sv (.agg (Sx false xD))] (I r) (rg 1):=by
 refine gk Tryz.func154 rfl Tryz.ntmps154 (ws (gw 2 0 (Ai 2 0 (RW.c 0 h (Hq _) (fun v1 gv1 h=>gw 1 1 (Ai 2 0 (RW.c 0 h (NT _) (fun v2 gv2 h=>gw 1 1 (Ai 4 0 (RW.c 0 h (gs (ca (co (cs (V9 _))) (ca (co (cs (jH _))) rfl)) (Ko _ _ _)) (fun v3 gv3 h=>gw 1 1 (Ai 2 0 (RW.c 0 h (gs (ca (co (cs (V9 _))) (ca (co (cs (jH _))) rfl)) (Ko _ _ _)) (fun v4 gv4 h=>gw 1 1 (gw 1 0 (gn 1 0 (Wp.seq (ws (gn 1 0 (BP h [1,3,5,6,7,8,9] [.box 1] (fun s=>(Yf xD v1 v3 v4 s.1 s.2.1 s.2.2)) [7] [] (fun s=>(Ye s)) EG ?_ ?_))))))) (hc:=(.inr (fun v=>by simp [BB,BL,AO,B9,ns4,OS])))))) (hc:=(.inr (fun v=>by simp [BB,BL,AO,B9,ns4,OS])))))))))))))
 ·rintro⟨d,b,e⟩ o (h:GD xD v1 v3 v4 d b e=some o);refine Wp.seq (ws (Ai 4 0 (RW.q (Di (EX false) xD.Flash.Blocks) (gn 1 0 (wc h (fun h=>?_) (fun h=>?_))))))
  ·refine Wp.skip (Wp.seq (Wp.block (ws (Ai 4 0 (CU (EX false) h (fun x1 gx1 h=>RW.q (Qz (EX false) gx1 0 3) (gw 2 0 (Ai 3 0 (RW.c 0 h (gs (ca (co (cs (V9 _))) (ca (co (cs (sh4 _))) rfl)) (S7 _ _ _)) (fun v5 gv5 h=>gn 1 0 (Fk h [1,3,5,6,7,8,9,11,68] [.box 1] (fun a=>(Yd xD v1 v3 v4 d b e v5 a)) (fun a h=>?_) (fun j1 h=>?_))) (hc:=(.inr (fun v=>rfl))))))))))))
   ·refine As (Ai 4 0 (AJ 47 h (fun h=>?_) (fun h=>?_)))
    ·refine Ai 1 0 (RW.c 0 h (MN _) (fun v6 gv6 h=>Ai 3 0 (AJ 52 h (fun h=>?_) (fun h=>?_))))
     ·refine Ai 4 0 (RW.c 0 h (gs (ca (co (cs (V9 _))) (ca (co (cs (sh4 _))) rfl)) (S7 _ _ _)) (fun v7 gv7 h=>Ai 3 0 (AJ 60 h (fun h=>?_) (fun h=>?_))) (hc:=(.inr (fun v=>rfl))))
      ·refine Ai 4 0 (AJ 64 h (fun h=>?_) (fun h=>?_))
       ·exact gn 4 0 (jn h)
       exact gn 4 0 (jn h)
      exact gn 8 0 (jn h)
     exact gn 16 0 (jn h)
    exact gn 21 0 (jn h)
   refine wc h (fun h=>?_) (fun h=>?_)
   ·exact ws (gn 2 0 (As (gn 2 0 (As (gn 3 0 (jl h))))))
   exact Wp.skip (As (gn 3 0 (jl h)))
  exact Wp.exit (jv h)
 intro v8 h E hE;exact AX hE (ws (gn 2 0 (Wp.ret (rr h▸rq))))
def Wz (xB:Int) (v1:List Ap) (v3:List Bool) (z1:List BE) (z2:Int) (z3:Int) (z4:List Block):St:=AA [(1,(I xB)),(6,(.one (G5 v1))),(7,(.one (OS v3))),(8,(.one (Ch z1))),(9,(pb 9)),(10,(I z2)),(11,(I z3))] [(.box 9,[Da z4])]
def Wy (z5:List BE):St:=AA [(8,(.one (Ch z5)))] []
def Wx (xB:Int) (v1:List Ap) (v3:List Bool) (a:Int) (z6:List BE) (z7:Int) (z8:Int) (z9:List Block):St:=AA [(1,(I xB)),(6,(.one (G5 v1))),(7,(.one (OS v3))),(8,(.one (Ch z6))),(9,(pb 9)),(10,(I z7)),(11,(I a)),(12,(I z8))] [(.box 9,[Da z9])]
def Ww (xB:Int) (v1:List Ap) (v3:List Bool) (a:Int) (z10:List BE) (z11:Int) (z12:List Block):St:=AA [(1,(I xB)),(6,(.one (G5 v1))),(7,(.one (OS v3))),(8,(.one (Ch z10))),(9,(pb 9)),(10,(I z11)),(11,(I a))] [(.box 9,[Da z12])]
def Wv (xB:Int) (v1:List Ap) (v3:List Bool) (b:Int) (a:List BE) (c:Int) (e:Int) (d:List Block) (z13:Bool):St:=AA [(1,(I xB)),(6,(.one (G5 v1))),(7,(.one (OS v3))),(8,(.one (Ch a))),(9,(pb 9)),(10,(I c)),(11,(I b)),(12,(I e)),(62,(B z13))] [(.box 9,[Da d])]
def Wu (xB:Int) (v1:List Ap) (v3:List Bool) (a:Int) (b:Int) (d:Int) (c:List Block) (v4:Flash×List BE×Bool) (z14:Bool):St:=AA [(1,(I xB)),(6,(.one (G5 v1))),(7,(.one (OS v3))),(9,(pb 9)),(10,(I b)),(11,(I a)),(12,(I d)),(14,(pb 14)),(15,(.one (Ch v4.2.1))),(90,(B z14))] [(.box 9,[Da c]),(.box 14,[Da v4.1.Blocks])]
theorem Y4 (xD:AF) (xB:Int) (r:List BE×Bool) (h:K4 xD xB=some r):AU Tryz.prog 155 [.sv (.agg (Sx false xD)),.sv (I xB)] (.tup [(.one (Ch r.1)),(B r.2)]) (rg 2):=by
 refine gk Tryz.func155 rfl Tryz.ntmps155 (ws (gw 3 0 (Ai 2 0 (RW.c 0 h (Hq _) (fun v1 gv1 h=>gw 1 1 (Ai 3 0 (RW.c 0 h (NT _) (fun v2 gv2 h=>RW.c 0 h (gs (ca (co (cs (V9 _))) (ca (co (cs (jH _))) rfl)) (Ko _ _ _)) (fun v3 gv3 h=>gw 1 1 (gw 2 2 (gw 4 0 (gn 3 0 (Wp.seq (ws (gn 1 0 (E5 h [1,6,7,8,9,10,11] [.box 9] (fun s=>(Wz xB v1 v3 s.1 s.2.1 s.2.2.1 s.2.2.2)) [8] [] (fun s=>(Wy s)) EG ?_ ?_)))))))) (hc:=(.inr (fun v=>by simp [BB,BL,AO,B9,ns4,OS])))))))))))
 ·rintro⟨f,i,b,k⟩ o (h:FZ xB v1 v3 f i b k=some o) hk1;refine Wp.seq (ws (gn 2 0 (wc h (fun h=>?_) (fun h=>?_))))
  ·refine Wp.skip (Wp.seq (Wp.block (ws (gn 1 0 (E5 h [1,6,7,8,9,10,11,12] [.box 9] (fun s=>(Wx xB v1 v3 b s.1 s.2.1 s.2.2.1 s.2.2.2)) [1,6,7,8,9,10,11] [.box 9] (fun s=>(Ww xB v1 v3 b s.1 s.2.1 s.2.2)) EG ?_ ?_)))))
   ·rintro⟨d,e,j,g⟩ o (h:FY xB v1 v3 b d e j g=some o) hk2;refine Wp.seq (ws (Ai 2 0 (RW.q (Di EA v1) (gn 1 0 (wc h (fun h=>?_) (fun h=>?_))))))
    ·refine Wp.skip (Wp.seq (Wp.block (Wp.seq (Fk h [1,6,7,8,9,10,11,12,62] [.box 9] (fun a=>(Wv xB v1 v3 b d e j g a)) (fun a h=>?_) (fun j1 h=>?_)))))
     ·refine As (Ai 2 0 (CU k4 h (fun x1 gx1 h=>RW.q (CH k4 gx1 0) (Ai 2 0 (AJ 45 h (fun h=>?_) (fun h=>?_))))))
      ·exact gn 17 0 (jn h)
      refine Ai 2 0 (CU EA h (fun x2 gx2 h=>RW.q (DA EA gx2 0 0) (RW.q (CH EA gx2 0) (Ai 4 0 (AJ 54 h (fun h=>?_) (fun h=>?_))))))
      ·exact gn 8 0 (jn h)
      exact Ai 2 0 (CU EA h (fun x3 gx3 h=>RW.q (DA EA gx3 0 1) (RW.q (CH EA gx3 1) (gn 3 0 (jn h)))))
     refine wc h (fun h=>?_) (fun h=>?_)
     ·exact Wp.exit (As (gn 3 0 (jl h)))
     refine Wp.skip (ws (Ai 2 0 (CU EA h (fun x4 gx4 h=>RW.q (DA EA gx4 0 2) (RW.q (Qz EA gx4 2 6) (gw 2 0 (gw 3 0 (Ai 3 0 (RW.c 2 h (QJ _ _ _) (fun v4 gv4 h=>gn 8 65 (Wp.seq (Fk h [1,6,7,9,10,11,12,14,15,90] [.box 9,.box 14] (fun a=>(Wu xB v1 v3 b e j g v4 a)) (fun a h=>?_) (fun j2 h=>?_)))))))))))))
     ·refine As (Ai 3 0 (AJ 80 h (fun h=>?_) (fun h=>?_)))
      ·exact gn 10 0 (jn h)
      exact Ai 2 0 (RW.q (Di MQ v4.2.1) (Ai 1 0 (CU MQ h (fun x5 gx5 h=>RW.q (DA MQ gx5 0 1) (RW.q (CH MQ gx5 1) (gn 3 0 (jn h)))))))
     refine wc h (fun h=>?_) (fun h=>?_)
     ·exact ws (gn 3 2 (Wp.ret (rr (jo (jo h hk2) hk1)▸rq)))
     exact Wp.skip (ws (gw 2 0 (gn 2 2 (As (gn 3 0 (As (gn 3 0 (jl h))))))))
    exact Wp.exit (jx h)
   intro v5 h E hE;exact AX hE (As (gn 3 0 (jl h)))
  exact Wp.exit (jx h)
 intro v6 h E hE;exact AX hE (ws (gn 3 2 (Wp.ret (rr h▸rq))))
theorem eY (xD:AF) (r:List BE×Bool) (h:NX xD=some r):AU Tryz.prog 129 [.sv (.agg (Sx false xD))] (.tup [(.one (Ch r.1)),(B r.2)]) (rg 1):=by
 refine gk Tryz.func129 rfl Tryz.ntmps129 (ws (gw 3 0 (Ai 1 0 (RW.c 0 h (W5 _) (fun v1 gv1 h=>gn 1 1 (Wp.seq (ws (Ai 1 0 (RW.q (Di k3 v1) (gn 1 0 (wc h (fun h=>?_) (fun h=>?_))))))))))))
 ·exact ws (Ai 1 0 (CU k3 h (fun x1 gx1 h=>RW.q (CH k3 gx1 0) (gn 4 4 (Wp.ret (rr h▸rq))))))
 refine Wp.skip (Wp.seq (ws (Ai 1 0 (RW.c 0 h (bY _) (fun v2 gv2 h=>gn 1 0 (wc h (fun h=>?_) (fun h=>?_)))))))
 ·exact ws (Ai 1 0 (RW.c 0 h (YO _) (fun v3 gv3 h=>gn 4 4 (Wp.ret (rr h▸rq)))))
 refine Wp.skip (ws (Ai 1 0 (RW.c 0 h (cM _) (fun v4 gv4 h=>gn 1 0 (Wp.seq (ws (gn 2 0 (wc h (fun h=>?_) (fun h=>?_)))))))))
 ·exact ws (gn 3 2 (Wp.ret (rr h▸rq)))
 exact Wp.skip (ws (Ai 2 0 (RW.c 0 h (Y4 _ _) (fun v5 gv5 h=>gn 4 4 (Wp.ret (rr h▸rq))))))
def eV (a:List BE) (z1:Int) (z2:List Block):St:=AA [(1,(.one (mI a))),(4,(pb 4)),(6,(pb 6)),(7,(I z1))] [(.box 4,[CR []]),(.box 6,[CR z2])]
def eT (a:List BE) (z3:List Block):St:=AA [(1,(.one (mI a))),(4,(pb 4)),(6,(pb 6))] [(.box 4,[CR []]),(.box 6,[CR z3])]
def eS (b:List BE) (c:Int) (a:List Block) (z4:Bool) (z5:List Block):St:=AA [(1,(.one (mI b))),(4,(pb 4)),(6,(pb 6)),(7,(I c)),(8,(pb 8)),(9,(B z4))] [(.box 4,[CR []]),(.box 6,[CR a]),(.box 8,[CR z5])]
theorem lL (xF:Flash) (b:List BE) (r:Flash×Int) (h:L7 xF b=some r):AU Tryz.prog 132 [.sv (.agg (TR false xF)),.sv (.one (mI b))] (.tup [(.agg (TR true r.1)),(I r.2)]) (rg 2):=by
 refine gk Tryz.func132 rfl Tryz.ntmps132 (ws (gw 3 0 (Ai 1 0 (RW.c 0 h (I6 _) (fun v1 gv1 h=>gn 2 0 (Wp.seq (ws (gn 1 0 (E5 h [1,4,6,7] [.box 4,.box 6] (fun s=>(eV b s.1 s.2)) [1,4,6] [.box 4,.box 6] (fun s=>(eT b s)) EG ?_ ?_)))))))))
 ·rintro⟨e,d⟩ o (h:F5 b e d=some o) hk1;refine Wp.seq (ws (Ai 2 0 (RW.q (Di MQ b) (gn 1 0 (wc h (fun h=>?_) (fun h=>?_))))))
  ·refine Wp.skip (Wp.seq (Wp.block (Fk h [1,4,6,7,8,9] [.box 4,.box 6,.box 8] (fun a=>(eS b e d a.1 a.2)) (fun a h=>?_) (fun j1 h=>?_))))
   ·refine Eu [10] mixed (fun c E h=>by rcases h with⟨h|h,_⟩<;>cases h) (Bw [0,1,2] 0 (bd h fun x1 gx1 h=>KW.q 3 (Jo MQ gx1) (KW.q 4 (Qz MQ gx1 0 4) (DU 5 9 ?_ ?_))))
    ·exact KB.c 0 h (gs (ca (iX (ca (cs (Ff _)) rfl)) rfl) (QM _ _)) (fun v3 gv3 h=>oj [6] h) (hc:=(.inr (fun v=>by simp [BB,BL,AO,B9,vT,CR,TR])))
    exact KB.o false (BC 5 (KB.c 0 h (gs (ca (iX (ca (cs (Ff _)) rfl)) rfl) (QM _ _)) (fun v4 gv4 h=>Bw [6] 1 (OR 7 (oj [] h))) (hc:=(.inr (fun v=>by simp [BB,BL,AO,B9,vT,CR,TR])))))
   refine Wp.seq (ws (gn 2 0 (wc h (fun h=>?_) (fun h=>?_))))
   ·exact ws (gn 4 0 (Wp.ret (rr (jo h hk1)▸rq)))
   exact Wp.skip (As (gn 2 0 (As (gn 3 0 (jl h)))))
  exact Wp.exit (jx h)
 intro v5 h E hE;exact AX hE (ws (Ai 2 0 (RW.q (Di MQ b) (gn 2 0 (Wp.ret (rr h▸rq))))))
theorem R1 (xD:AF) (a:List BE) (r:AF) (h:Ho xD a=some r):AU Tryz.prog 101 [.sv (.agg (Sx false xD)),.sv (.one (mI a))] (.agg (Sx true r)) (rg 2):=by
 exact gk Tryz.func101 rfl Tryz.ntmps101 (ws (gw 2 0 (Ai 3 0 (RW.c 0 h (lL _ _) (fun v1 gv1 h=>gw 6 1 (Ai 1 0 (RW.c 0 h (gs (ca (iX (ca (cs (Ff _)) rfl)) rfl) (NS _)) (fun v2 gv2 h=>gw 6 1 (gn 2 0 (Wp.ret (rr h▸rq)))) (hc:=(.inr (fun v=>by simp [BB,BL,AO,B9,WH,vT,KC,CZ,CR,Bt,Sx]))))))))))
def YN (a:Int) (z1:List BE) (z2:Int) (z3:List Block) (z4:List Vol) (z5:List BR) (z6:Int) (z7:Int) (z8:Int) (z9:Int):St:=AA [(1,(I a)),(4,(pb 4)),(6,(pb 6)),(7,(.one (Ch z1))),(8,(I z2))] [(.box 4,[CR [],CZ [],Bt [],i6 0,i6 0,i6 0,i6 0]),(.box 6,[CR z3,CZ z4,Bt z5,i6 z6,i6 z7,i6 z8,i6 z9])]
def YM (z10:List BE) (z11:List Block) (z12:List Vol) (z13:List BR) (z14:Int) (z15:Int) (z16:Int) (z17:Int):St:=AA [(4,(pb 4)),(6,(pb 6)),(7,(.one (Ch z10)))] [(.box 4,[CR [],CZ [],Bt [],i6 0,i6 0,i6 0,i6 0]),(.box 6,[CR z11,CZ z12,Bt z13,i6 z14,i6 z15,i6 z16,i6 z17])]
def YL (h:Int) (i:List BE) (j:Int) (a:List Block) (b:List Vol) (c:List BR) (d:Int) (e:Int) (f:Int) (g:Int) (z18:Bool):St:=AA [(1,(I h)),(4,(pb 4)),(6,(pb 6)),(7,(.one (Ch i))),(8,(I j)),(26,(B z18))] [(.box 4,[CR [],CZ [],Bt [],i6 0,i6 0,i6 0,i6 0]),(.box 6,[CR a,CZ b,Bt c,i6 d,i6 e,i6 f,i6 g])]
theorem eZ (xD:AF) (b:Int) (r:AF×List BE) (h:LU xD b=some r):AU Tryz.prog 99 [.sv (.agg (Sx false xD)),.sv (I b)] (.tup [(.agg (Sx true r.1)),(.one (Ch r.2))]) (rg 2):=by
 refine gk Tryz.func99 rfl Tryz.ntmps99 (ws (gw 3 0 (Ai 1 0 (RW.c 0 h (Tt _) (fun v1 gv1 h=>gw 2 0 (gn 2 2 (Wp.seq (ws (gn 1 0 (E5 h [1,4,6,7,8] [.box 4,.box 6] (fun s=>(YN b s.1 s.2.1 s.2.2.1 s.2.2.2.1 s.2.2.2.2.1 s.2.2.2.2.2.1 s.2.2.2.2.2.2.1 s.2.2.2.2.2.2.2.1 s.2.2.2.2.2.2.2.2)) [4,6,7] [.box 4,.box 6] (fun s=>(YM s.1 s.2.1 s.2.2.1 s.2.2.2.1 s.2.2.2.2.1 s.2.2.2.2.2.1 s.2.2.2.2.2.2.1 s.2.2.2.2.2.2.2)) EG ?_ ?_))))))))))
 ·rintro⟨d,m,e,f,g,i,j,k,l⟩ o (h:GH b d m e f g i j k l=some o) hk1;refine Wp.seq (Fk h [1,4,6,7,8,26] [.box 4,.box 6] (fun a=>(YL b d m e f g i j k l a)) (fun a h=>?_) (fun j1 h=>?_))
  ·refine As (Ai 4 0 (AJ 17 h (fun h=>?_) (fun h=>?_)))
   ·refine Ai 4 0 (AJ 21 h (fun h=>?_) (fun h=>?_))
    ·exact Ai 2 0 (RW.c 0 h (gs (ca (iX (ca (cs (Ff _)) rfl)) rfl) (QK _)) (fun v2 gv2 h=>gn 2 0 (jn h)) (hc:=(.inr (fun v=>rfl))))
    exact gn 5 0 (jn h)
   exact gn 9 0 (jn h)
  refine wc h (fun h=>?_) (fun h=>?_)
  ·refine Wp.skip (Wp.seq (Wp.block (ws (Ai 1 0 (RW.c 0 h (gs (ca (iX (ca (cs (Ff _)) (ca (cs (Fg _)) (ca (cs (Dg _)) rfl)))) rfl) (eY _)) (fun v3 gv3 h=>gn 5 9 (Wp.seq (ws (gn 2 0 (wc h (fun h=>?_) (fun h=>?_)))))) (hc:=(.inr (fun v=>by simp [BB,BL,AO,B9,AAd,Ch]))))))))
   ·exact ws (gn 4 8 (Wp.ret (rr (jo h hk1)▸rq)))
   exact Wp.skip (ws (Ai 2 0 (RW.c 0 h (gs (ca (iX (ca (cs (Ff _)) (ca (cs (Fg _)) (ca (cs (Dg _)) rfl)))) (ca (co (cs (ACn _))) rfl)) (R1 _ _)) (fun v4 gv4 h=>gn 1 0 (As (Ai 2 0 (bd h fun q1 gq1 h=>CV (DN MQ (fun _=>rfl) d gq1) (gn 1 1 (As (gn 3 0 (jl h)))))))) (hc:=(.inr (fun v=>by simp [BB,BL,AO,B9,WH,vT,KC,CZ,CR,Bt,Sx]))))))
  exact Wp.exit (jx h)
 intro v5 h E hE;exact AX hE (ws (gn 4 8 (Wp.ret (rr h▸rq))))
def pR (xQ:Mm) (z1:List BE) (z2:List Block) (z3:List Vol) (z4:List BR) (z5:Int) (z6:Int) (z7:Int) (z8:Int):St:=AA [(3,(pb 3)),(4,(pb 4)),(8,(pb 8)),(15,(.one (Ch z1)))] [(.box 3,[i6 xQ.Kind,i6 xQ.Vol,i6 xQ.Sector,i6 xQ.Of,ts xQ.Text]),(.box 4,[CR [],CZ [],Bt [],i6 0,i6 0,i6 0,i6 0]),(.box 8,[CR z2,CZ z3,Bt z4,i6 z5,i6 z6,i6 z7,i6 z8])]
def pQ (j1:List BE×List Block×List Vol×List BR×Int×Int×Int×Int) (v8:List BE×Bool) (z9:Bool):St:=AA [(4,(pb 4)),(8,(pb 8)),(15,(.one (Ch j1.1))),(19,(.one (Ch v8.1))),(91,(B z9))] [(.box 4,[CR [],CZ [],Bt [],i6 0,i6 0,i6 0,i6 0]),(.box 8,[CR j1.2.1,CZ j1.2.2.1,Bt j1.2.2.2.1,i6 j1.2.2.2.2.1,i6 j1.2.2.2.2.2.1,i6 j1.2.2.2.2.2.2.1,i6 j1.2.2.2.2.2.2.2])]
set_option maxHeartbeats 4000000 in
theorem ZK (xD:AF) (xQ:Mm) (r:AF×List BE×ByteArray×Int) (h:UO xD xQ=some r):AU Tryz.prog 60 [.sv (.agg (Sx false xD)),.sv (.agg (c44 xQ))] (.tup [(.agg (Sx true r.1)),(.one (Ch r.2.1)),(Y r.2.2.1),(I r.2.2.2)]) (rg 2):=by
 refine gk Tryz.func60 rfl Tryz.ntmps60 (ws (gw 6 0 (Ai 1 0 (RW.c 0 h (Tt _) (fun v1 gv1 h=>gw 2 0 (gn 2 2 (Wp.seq (ws (Ai 1 0 (RW.c 0 h (eW _) (fun v2 gv2 h=>gn 1 0 (wc h (fun h=>?_) (fun h=>?_)))))))))))))
 ·exact ws (gn 6 8 (Wp.ret (rr h▸rq)))
 refine Wp.skip (ws (Ai 2 0 (RW.c 0 h (QL _ _) (fun v3 gv3 h=>gn 7 17 (Wp.seq (ws (gn 2 0 (wc h (fun h=>?_) (fun h=>?_)))))))))
 ·exact ws (gn 7 16 (Wp.ret (rr h▸rq)))
 refine Wp.skip (Wp.seq (ws (gn 3 0 (wc h (fun h=>?_) (fun h=>?_)))))
 ·refine ws (Ai 5 0 (RW.c 0 h (pV _ _ _) (fun v4 gv4 h=>gn 5 1 (Wp.seq (ws (gn 2 0 (wc h (fun h=>?_) (fun h=>?_))))))))
  ·exact ws (gn 6 8 (Wp.ret (rr h▸rq)))
  exact Wp.skip (ws (gn 7 16 (Wp.ret (rr h▸rq))))
 refine Wp.skip (ws (gn 2 2 (Wp.seq (ws (Ai 2 0 (RW.c 0 h (QK _) (fun v5 gv5 h=>gn 1 0 (FB h [3,4,8,15] [.box 3,.box 4,.box 8] (fun a=>(pR xQ a.1 a.2.1 a.2.2.1 a.2.2.2.1 a.2.2.2.2.1 a.2.2.2.2.2.1 a.2.2.2.2.2.2.1 a.2.2.2.2.2.2.2)) ?_ ?_))))))))
 ·intro a h;refine wc h (fun h=>?_) (fun h=>?_)
  ·exact As (Ai 1 0 (RW.c 0 h (eZ _ _) (fun v6 gv6 h=>gn 5 17 (jn h))))
  exact Wp.skip (jn h)
 intro j1 h E hE;refine AX hE (ws (Ai 2 0 (RW.c 0 h (gs (ca (iX (ca (cs (Ff _)) (ca (cs (Fg _)) (ca (cs (Dg _)) rfl)))) rfl) (QL _ _)) (fun v7 gv7 h=>gw 7 17 (Ai 3 0 (RW.c 0 h (gs (ca (iX (ca (cs (Ff _)) (ca (cs (Fg _)) (ca (cs (Dg _)) rfl)))) (ca (co (cs (u9 _))) rfl)) (Pj _ _ _)) (fun v8 gv8 h=>gn 5 9 (Wp.seq (Fk h [4,8,15,19,91] [.box 4,.box 8] (fun a=>(pQ j1 v8 a)) (fun a h=>?_) (fun j2 h=>?_)))) (hc:=(.inr (fun v=>by simp [BB,BL,AO,B9,AAd,Ch])))))) (hc:=(.inr (fun v=>by simp [BB,BL,AO,B9,ADR,Ib]))))))
 ·refine As (Ai 3 0 (AJ 86 h (fun h=>?_) (fun h=>?_)))
  ·exact gn 5 0 (jn h)
  exact Ai 2 0 (RW.c 0 h (gs (ca (iX (ca (cs (Ff _)) rfl)) rfl) (QK _)) (fun v9 gv9 h=>gn 2 0 (jn h)) (hc:=(.inr (fun v=>rfl))))
 refine wc h (fun h=>?_) (fun h=>?_)
 ·exact ws (gn 6 8 (Wp.ret (rr h▸rq)))
 exact Wp.skip (ws (Ai 2 0 (RW.c 0 h (gs (ca (iX (ca (cs (Ff _)) (ca (cs (Fg _)) (ca (cs (Dg _)) rfl)))) (ca (co (cs (ACn _))) rfl)) (R1 _ _)) (fun v10 gv10 h=>Ai 2 0 (bd h fun q1 gq1 h=>CV (DN MQ (fun _=>rfl) j1.1 gq1) (gn 4 2 (Wp.ret (rr h▸rq))))) (hc:=(.inr (fun v=>by simp [BB,BL,AO,B9,WH,vT,KC,CZ,CR,Bt,Sx]))))))
def VN (z1:Int) (z2:List Block) (z3:List Vol) (z4:List BR) (z5:Int) (z6:Int) (z7:Int) (z8:Int) (z9:List Int) (z10:Int) (z11:Int):St:=AA [(0,(px 0)),(2,(pb 2)),(3,(pb 3)),(5,(I z1))] [(.box 2,[CR [],CZ [],Bt [],i6 0,i6 0,i6 0,i6 0]),(.box 3,[Da z2,DB z3,BJ z4,i6 z5,i6 z6,i6 z7,i6 z8]),(.ext 0,[Pz z9,i6 z10,i6 z11])]
def VM (z12:List Block) (z13:List Vol) (z14:List BR) (z15:Int) (z16:Int) (z17:Int) (z18:Int) (z19:List Int) (z20:Int) (z21:Int):St:=AA [(2,(pb 2)),(3,(pb 3))] [(.box 2,[CR [],CZ [],Bt [],i6 0,i6 0,i6 0,i6 0]),(.box 3,[Da z12,DB z13,BJ z14,i6 z15,i6 z16,i6 z17,i6 z18]),(.ext 0,[Pz z19,i6 z20,i6 z21])]
def VL (a:Int) (z22:List Block) (z23:List Vol) (z24:List BR) (z25:Int) (z26:Int) (z27:Int) (z28:Int) (z29:List Int) (z30:Int) (z31:Int):St:=AA [(0,(px 0)),(2,(pb 2)),(3,(pb 3)),(5,(I a))] [(.box 2,[CR [],CZ [],Bt [],i6 0,i6 0,i6 0,i6 0]),(.box 3,[Da z22,DB z23,BJ z24,i6 z25,i6 z26,i6 z27,i6 z28]),(.ext 0,[Pz z29,i6 z30,i6 z31])]
set_option maxHeartbeats 4000000 in
theorem Qw (xC:BD) (r:AF×BD) (h:Kx xC=some r):AU Tryz.prog 28 [.ext [Pz xC.b_,i6 xC.i_,i6 xC.h_]] (.agg (Sx false r.1)) (.ext [Pz r.2.b_,i6 r.2.i_,i6 r.2.h_]::rg 0):=by
 refine gkx Tryz.func28 rfl Tryz.ntmps28 (ws (gw 1 0 (Ai 1 0 (FK h (De _ _) (fun _=>rfl) (fun v1 gv1 h=>Ai 1 0 (RW.c 0 h (YK _) (fun v2 gv2 h=>Ai 2 1 (RW.fz (.slot 11) 0 (Ff v2.1.Flash.Blocks) (RW.fz (.slot 11) 1 (Fg v2.1.Store.Vols) (RW.fz (.slot 11) 2 (Dg v2.1.Store.Arena.Knots) (gn 4 0 (Wp.seq (ws (gn 1 0 (BP h [0,2,3,5] [.box 2,.box 3,.ext 0] (fun s=>(VN s.1 s.2.1 s.2.2.1 s.2.2.2.1 s.2.2.2.2.1 s.2.2.2.2.2.1 s.2.2.2.2.2.2.1 s.2.2.2.2.2.2.2.1 s.2.2.2.2.2.2.2.2.1 s.2.2.2.2.2.2.2.2.2.1 s.2.2.2.2.2.2.2.2.2.2)) [2,3] [.box 2,.box 3,.ext 0] (fun s=>(VM s.1 s.2.1 s.2.2.1 s.2.2.2.1 s.2.2.2.2.1 s.2.2.2.2.2.1 s.2.2.2.2.2.2.1 s.2.2.2.2.2.2.2.1 s.2.2.2.2.2.2.2.2.1 s.2.2.2.2.2.2.2.2.2)) EG ?_ ?_)))))))))))))))
 ·rintro⟨b,d,e,f,g,i,j,k,l,m,n⟩ o (h:FN b d e f g i j k l m n=some o);refine Wp.seq (ws (Ai 2 0 (FK h (De _ _) (fun _=>rfl) (fun v3 gv3 h=>gn 1 0 (wc h (fun h=>?_) (fun h=>?_))))))
  ·refine Wp.skip (Wp.seq (Wp.block (FB h [0,2,3,5] [.box 2,.box 3,.ext 0] (fun a=>(VL b a.1 a.2.1 a.2.2.1 a.2.2.2.1 a.2.2.2.2.1 a.2.2.2.2.2.1 a.2.2.2.2.2.2.1 a.2.2.2.2.2.2.2.1 a.2.2.2.2.2.2.2.2.1 a.2.2.2.2.2.2.2.2.2)) ?_ ?_)))
   ·intro a h;refine Eu [3,10] mixed (fun c E h=>by rcases h with⟨h|h,_⟩<;>cases h) (Bw [1,2] 0 (DU 0 3 ?_ ?_))
    ·refine KB.o false (BC 3 (bH h (Pf _ _) (fun _=>rfl) (fun v5 gv5 h=>BC 4 (KB.c 0 h (ZK _ _) (fun v6 gv6 h=>Bw [5] 1 (ACM 6 7 8 9 ?_ ?_ ?_ ?_))))))
     ·exact KB.o false (KW.fz (.slot 25) 0 (Ff v6.1.Flash.Blocks) (KW.fz (.slot 25) 1 (Fg v6.1.Store.Vols) (KW.fz (.slot 25) 2 (Dg v6.1.Store.Arena.Knots) (oj [] h))))
     ·refine KB.o false (bG 6 8 9 ?_ ?_ ?_)
      ·exact KB.o false (KW.fz (.slot 25) 0 (Ff v6.1.Flash.Blocks) (KW.fz (.slot 25) 1 (Fg v6.1.Store.Vols) (KW.fz (.slot 25) 2 (Dg v6.1.Store.Arena.Knots) (oj [] h))))
      ·refine KB.o false (DU 6 9 ?_ ?_)
       ·exact KB.o false (KW.fz (.slot 25) 0 (Ff v6.1.Flash.Blocks) (KW.fz (.slot 25) 1 (Fg v6.1.Store.Vols) (KW.fz (.slot 25) 2 (Dg v6.1.Store.Arena.Knots) (oj [] h))))
       exact KB.o false (Bw [6] 0 (KW.fz (.slot 25) 0 (Ff v6.1.Flash.Blocks) (KW.fz (.slot 25) 1 (Fg v6.1.Store.Vols) (KW.fz (.slot 25) 2 (Dg v6.1.Store.Arena.Knots) (Bw [10] 0 (Bv (jn h)))))))
      refine KB.o false (DU 6 8 ?_ ?_)
      ·exact KB.o false (KW.fz (.slot 25) 0 (Ff v6.1.Flash.Blocks) (KW.fz (.slot 25) 1 (Fg v6.1.Store.Vols) (KW.fz (.slot 25) 2 (Dg v6.1.Store.Arena.Knots) (oj [] h))))
      exact KB.o false (Bw [6] 0 (KW.fz (.slot 25) 0 (Ff v6.1.Flash.Blocks) (KW.fz (.slot 25) 1 (Fg v6.1.Store.Vols) (KW.fz (.slot 25) 2 (Dg v6.1.Store.Arena.Knots) (Bw [10] 0 (Bv (jn h)))))))
     ·refine KB.o false (bG 6 7 9 ?_ ?_ ?_)
      ·exact KB.o false (KW.fz (.slot 25) 0 (Ff v6.1.Flash.Blocks) (KW.fz (.slot 25) 1 (Fg v6.1.Store.Vols) (KW.fz (.slot 25) 2 (Dg v6.1.Store.Arena.Knots) (oj [] h))))
      ·refine KB.o false (DU 6 9 ?_ ?_)
       ·exact KB.o false (KW.fz (.slot 25) 0 (Ff v6.1.Flash.Blocks) (KW.fz (.slot 25) 1 (Fg v6.1.Store.Vols) (KW.fz (.slot 25) 2 (Dg v6.1.Store.Arena.Knots) (oj [] h))))
       exact KB.o false (Bw [6] 0 (KW.fz (.slot 25) 0 (Ff v6.1.Flash.Blocks) (KW.fz (.slot 25) 1 (Fg v6.1.Store.Vols) (KW.fz (.slot 25) 2 (Dg v6.1.Store.Arena.Knots) (Bw [10] 0 (Bv (jn h)))))))
      refine KB.o false (DU 6 7 ?_ ?_)
      ·exact KB.o false (KW.fz (.slot 25) 0 (Ff v6.1.Flash.Blocks) (KW.fz (.slot 25) 1 (Fg v6.1.Store.Vols) (KW.fz (.slot 25) 2 (Dg v6.1.Store.Arena.Knots) (oj [] h))))
      exact KB.o false (Bw [6] 0 (KW.fz (.slot 25) 0 (Ff v6.1.Flash.Blocks) (KW.fz (.slot 25) 1 (Fg v6.1.Store.Vols) (KW.fz (.slot 25) 2 (Dg v6.1.Store.Arena.Knots) (Bw [10] 0 (Bv (jn h)))))))
     refine KB.o false (bG 6 7 8 ?_ ?_ ?_)
     ·exact KB.o false (KW.fz (.slot 25) 0 (Ff v6.1.Flash.Blocks) (KW.fz (.slot 25) 1 (Fg v6.1.Store.Vols) (KW.fz (.slot 25) 2 (Dg v6.1.Store.Arena.Knots) (oj [] h))))
     ·refine KB.o false (DU 6 8 ?_ ?_)
      ·exact KB.o false (KW.fz (.slot 25) 0 (Ff v6.1.Flash.Blocks) (KW.fz (.slot 25) 1 (Fg v6.1.Store.Vols) (KW.fz (.slot 25) 2 (Dg v6.1.Store.Arena.Knots) (oj [] h))))
      exact KB.o false (Bw [6] 0 (KW.fz (.slot 25) 0 (Ff v6.1.Flash.Blocks) (KW.fz (.slot 25) 1 (Fg v6.1.Store.Vols) (KW.fz (.slot 25) 2 (Dg v6.1.Store.Arena.Knots) (Bw [10] 0 (Bv (jn h)))))))
     refine KB.o false (DU 6 7 ?_ ?_)
     ·exact KB.o false (KW.fz (.slot 25) 0 (Ff v6.1.Flash.Blocks) (KW.fz (.slot 25) 1 (Fg v6.1.Store.Vols) (KW.fz (.slot 25) 2 (Dg v6.1.Store.Arena.Knots) (oj [] h))))
     exact KB.o false (Bw [6] 0 (KW.fz (.slot 25) 0 (Ff v6.1.Flash.Blocks) (KW.fz (.slot 25) 1 (Fg v6.1.Store.Vols) (KW.fz (.slot 25) 2 (Dg v6.1.Store.Arena.Knots) (Bw [10] 0 (Bv (jn h)))))))
    refine bH h (Pf _ _) (fun _=>rfl) (fun v7 gv7 h=>Bw [0] 0 (BC 4 (KB.c 0 h (ZK _ _) (fun v8 gv8 h=>Bw [5] 1 (ACM 6 7 8 9 ?_ ?_ ?_ ?_)))))
    ·exact KB.o false (KW.fz (.slot 25) 0 (Ff v8.1.Flash.Blocks) (KW.fz (.slot 25) 1 (Fg v8.1.Store.Vols) (KW.fz (.slot 25) 2 (Dg v8.1.Store.Arena.Knots) (oj [] h))))
    ·refine KB.o false (bG 6 8 9 ?_ ?_ ?_)
     ·exact KB.o false (KW.fz (.slot 25) 0 (Ff v8.1.Flash.Blocks) (KW.fz (.slot 25) 1 (Fg v8.1.Store.Vols) (KW.fz (.slot 25) 2 (Dg v8.1.Store.Arena.Knots) (oj [] h))))
     ·refine KB.o false (DU 6 9 ?_ ?_)
      ·exact KB.o false (KW.fz (.slot 25) 0 (Ff v8.1.Flash.Blocks) (KW.fz (.slot 25) 1 (Fg v8.1.Store.Vols) (KW.fz (.slot 25) 2 (Dg v8.1.Store.Arena.Knots) (oj [] h))))
      exact KB.o false (Bw [6] 0 (KW.fz (.slot 25) 0 (Ff v8.1.Flash.Blocks) (KW.fz (.slot 25) 1 (Fg v8.1.Store.Vols) (KW.fz (.slot 25) 2 (Dg v8.1.Store.Arena.Knots) (Bw [10] 0 (Bv (jn h)))))))
     refine KB.o false (DU 6 8 ?_ ?_)
     ·exact KB.o false (KW.fz (.slot 25) 0 (Ff v8.1.Flash.Blocks) (KW.fz (.slot 25) 1 (Fg v8.1.Store.Vols) (KW.fz (.slot 25) 2 (Dg v8.1.Store.Arena.Knots) (oj [] h))))
     exact KB.o false (Bw [6] 0 (KW.fz (.slot 25) 0 (Ff v8.1.Flash.Blocks) (KW.fz (.slot 25) 1 (Fg v8.1.Store.Vols) (KW.fz (.slot 25) 2 (Dg v8.1.Store.Arena.Knots) (Bw [10] 0 (Bv (jn h)))))))
    ·refine KB.o false (bG 6 7 9 ?_ ?_ ?_)
     ·exact KB.o false (KW.fz (.slot 25) 0 (Ff v8.1.Flash.Blocks) (KW.fz (.slot 25) 1 (Fg v8.1.Store.Vols) (KW.fz (.slot 25) 2 (Dg v8.1.Store.Arena.Knots) (oj [] h))))
     ·refine KB.o false (DU 6 9 ?_ ?_)
      ·exact KB.o false (KW.fz (.slot 25) 0 (Ff v8.1.Flash.Blocks) (KW.fz (.slot 25) 1 (Fg v8.1.Store.Vols) (KW.fz (.slot 25) 2 (Dg v8.1.Store.Arena.Knots) (oj [] h))))
      exact KB.o false (Bw [6] 0 (KW.fz (.slot 25) 0 (Ff v8.1.Flash.Blocks) (KW.fz (.slot 25) 1 (Fg v8.1.Store.Vols) (KW.fz (.slot 25) 2 (Dg v8.1.Store.Arena.Knots) (Bw [10] 0 (Bv (jn h)))))))
     refine KB.o false (DU 6 7 ?_ ?_)
     ·exact KB.o false (KW.fz (.slot 25) 0 (Ff v8.1.Flash.Blocks) (KW.fz (.slot 25) 1 (Fg v8.1.Store.Vols) (KW.fz (.slot 25) 2 (Dg v8.1.Store.Arena.Knots) (oj [] h))))
     exact KB.o false (Bw [6] 0 (KW.fz (.slot 25) 0 (Ff v8.1.Flash.Blocks) (KW.fz (.slot 25) 1 (Fg v8.1.Store.Vols) (KW.fz (.slot 25) 2 (Dg v8.1.Store.Arena.Knots) (Bw [10] 0 (Bv (jn h)))))))
    refine KB.o false (bG 6 7 8 ?_ ?_ ?_)
    ·exact KB.o false (KW.fz (.slot 25) 0 (Ff v8.1.Flash.Blocks) (KW.fz (.slot 25) 1 (Fg v8.1.Store.Vols) (KW.fz (.slot 25) 2 (Dg v8.1.Store.Arena.Knots) (oj [] h))))
    ·refine KB.o false (DU 6 8 ?_ ?_)
     ·exact KB.o false (KW.fz (.slot 25) 0 (Ff v8.1.Flash.Blocks) (KW.fz (.slot 25) 1 (Fg v8.1.Store.Vols) (KW.fz (.slot 25) 2 (Dg v8.1.Store.Arena.Knots) (oj [] h))))
     exact KB.o false (Bw [6] 0 (KW.fz (.slot 25) 0 (Ff v8.1.Flash.Blocks) (KW.fz (.slot 25) 1 (Fg v8.1.Store.Vols) (KW.fz (.slot 25) 2 (Dg v8.1.Store.Arena.Knots) (Bw [10] 0 (Bv (jn h)))))))
    refine KB.o false (DU 6 7 ?_ ?_)
    ·exact KB.o false (KW.fz (.slot 25) 0 (Ff v8.1.Flash.Blocks) (KW.fz (.slot 25) 1 (Fg v8.1.Store.Vols) (KW.fz (.slot 25) 2 (Dg v8.1.Store.Arena.Knots) (oj [] h))))
    exact KB.o false (Bw [6] 0 (KW.fz (.slot 25) 0 (Ff v8.1.Flash.Blocks) (KW.fz (.slot 25) 1 (Fg v8.1.Store.Vols) (KW.fz (.slot 25) 2 (Dg v8.1.Store.Arena.Knots) (Bw [10] 0 (Bv (jn h)))))))
   intro j1 h E hE;exact AX hE (As (gn 3 0 (jl h)))
  exact Wp.exit (jv h)
 intro v9 h E hE;exact AX hE (ws (gn 2 0 (Wp.ret (rr h▸rx))))
theorem W4 (a:List Int) (r:AF) (h:Ln a=some r):AU Tryz.prog 8 [.sv (.one (Pz a))] (.agg (Sx false r)) (rg 1):=by
 exact gk Tryz.func8 rfl Tryz.ntmps8 (ws (gw 1 0 (Ai 1 0 (ACK h (VY _) (fun v1 gv1 h=>FK h (Qw _) (fun _=>rfl) (fun v2 gv2 h=>gn 1 0 (Wp.ret (rr h▸rq))))))))
theorem lK (a:List Int) (r:Mm) (h:PR a=some r):AU Tryz.prog 23 [.sv (.one (Pz a))] (.agg (c44 r)) (rg 1):=by
 exact gk Tryz.func23 rfl Tryz.ntmps23 (ws (gw 1 0 (Ai 1 0 (ACK h (VY _) (fun v1 gv1 h=>gw 1 0 (Ai 1 0 (FK h (Qw _) (fun _=>rfl) (fun v2 gv2 h=>gw 2 0 (Ai 2 0 (FK h (Pf _ _) (fun _=>rfl) (fun v3 gv3 h=>gn 1 0 (Wp.ret (rr h▸rq)))))))))))))
theorem Iw (xN:Int) (b:Int) (a:Int) (r:Bool) (h:Or xN b a=some r):AU Tryz.prog 35 [.sv (I xN),.sv (I b),.sv (I a)] (B r) (rg 3):=by
 refine gk Tryz.func35 rfl Tryz.ntmps35 (ws (gw 1 0 (Ai 4 0 (AJ 10 h (fun h=>?_) (fun h=>?_)))))
 ·exact gn 5 0 (Wp.ret (rr h▸rq))
 exact gn 5 0 (Wp.ret (rr h▸rq))
def rO (xQ:Mm) (z1:Bool):St:=AA [(1,(pb 1)),(15,(B z1))] [(.box 1,[i6 xQ.Kind,i6 xQ.Vol,i6 xQ.Sector,i6 xQ.Of,ts xQ.Text])]
def rN (xQ:Mm) (z2:Int) (z3:Int) (z4:Int):St:=AA [(1,(pb 1)),(3,(I z2)),(4,(I z3)),(5,(I z4))] [(.box 1,[i6 xQ.Kind,i6 xQ.Vol,i6 xQ.Sector,i6 xQ.Of,ts xQ.Text])]
theorem aO (xQ:Mm) (r:Bool) (h:Sa xQ=some r):AU Tryz.prog 12 [.sv (.agg (c44 xQ))] (B r) (rg 1):=by
 refine gk Tryz.func12 rfl Tryz.ntmps12 (ws (gn 2 0 (Wp.seq (Fk h [1,15] [.box 1] (fun a=>(rO xQ a)) (fun a h=>?_) (fun j1 h=>?_)))))
 ·refine As (Ai 2 0 (RW.c 0 h (Iw _ _ _) (fun v1 gv1 h=>Ai 2 0 (AJ 10 h (fun h=>?_) (fun h=>?_)))))
  ·exact gn 5 0 (jn h)
  exact Ai 2 0 (RW.c 0 h (Iw _ _ _) (fun v2 gv2 h=>gn 2 0 (jn h)))
 refine wc h (fun h=>?_) (fun h=>?_)
 ·exact ws (gn 1 0 (Wp.ret (rr h▸rq)))
 refine Wp.skip (ws (gn 3 0 (Wp.seq (ws (gn 2 0 (Wp.block (ws (gn 2 0 (FB h [1,3,4,5] [.box 1] (fun a=>(rN xQ a.1 a.2.1 a.2.2)) ?_ ?_)))))))))
 ·intro a h;refine wc h (fun h=>?_) (fun h=>?_)
  ·exact As (gn 2 0 (jn h))
  refine Wp.seq (ws (gn 2 0 (wc h (fun h=>?_) (fun h=>?_))))
  ·refine Wp.skip (wc h (fun h=>?_) (fun h=>?_))
   ·exact As (gn 1 0 (jn h))
   refine ws (gn 2 0 (wc h (fun h=>?_) (fun h=>?_)))
   ·exact As (gn 1 0 (jn h))
   exact Wp.skip (jn h)
  refine As (gn 2 0 (wc h (fun h=>?_) (fun h=>?_)))
  ·exact As (gn 1 0 (jn h))
  refine ws (gn 2 0 (wc h (fun h=>?_) (fun h=>?_)))
  ·exact As (gn 1 0 (jn h))
  exact Wp.skip (jn h)
 intro j2 h E hE;refine AX hE (ws (Ai 3 0 (RW.c 0 h (Iw _ _ _) (fun v3 gv3 h=>Ai 1 0 (AJ 29 h (fun h=>?_) (fun h=>?_))))))
 ·refine Ai 5 0 (RW.c 0 h (Iw _ _ _) (fun v4 gv4 h=>Ai 2 0 (AJ 37 h (fun h=>?_) (fun h=>?_))))
  ·exact gn 7 0 (Wp.ret (rr h▸rq))
  exact gn 7 0 (Wp.ret (rr h▸rq))
 exact gn 15 0 (Wp.ret (rr h▸rq))
def rF (xS:Store) (a:Int) (z1:Int):St:=AA [(1,(I a)),(8,(.one (DB xS.Vols))),(9,(I (ln xS.Vols))),(10,(I z1))] []
def rE:St:=AA [] []
theorem aN (xS:Store) (a:Int) (r:Int) (h:RN xS a=some r):AU Tryz.prog 30 [.sv (.agg (Rg false xS)),.sv (I a)] (I r) (rg 2):=by
 refine gk Tryz.func30 rfl Tryz.ntmps30 (ws (gn 2 0 (Wp.seq (ws (Ai 2 0 (RW.q (Di DX xS.Vols) (gn 1 0 (E5 h [1,8,9,10] [] (fun s=>(rF xS a s)) [] [] (fun _=>rE) EG ?_ ?_))))))))
 ·rintro y1 o (h:WY xS a y1=some o) hk1;refine ws (gn 1 0 (Wp.seq (wc h (fun h=>?_) (fun h=>?_))))
  ·refine Wp.skip (Wp.seq (Wp.block (ws (Ai 1 0 (CU DX h (fun x1 gx1 h=>RW.q (Qz DX gx1 0 2) (gw 3 0 (gn 4 0 (wc h (fun h=>?_) (fun h=>?_))))))))))
   ·exact ws (gn 2 0 (Wp.ret (rr (jo h hk1)▸rq)))
   exact Wp.skip (As (gn 2 0 (jl h)))
  exact Wp.exit (jx h)
 intro v1 h E hE;exact AX hE (ws (gn 1 0 (Wp.ret (rr h▸rq))))
def fX (xS:Store) (xQ:Mm) (v1:Int) (z1:Bool):St:=AA [(2,(pb 2)),(3,(pb 3)),(5,(B (decide (v1>=0)))),(18,(B z1))] [(.box 2,[DB xS.Vols,BJ xS.Arena.Knots,i6 xS.Next]),(.box 3,[i6 xQ.Kind,i6 xQ.Vol,i6 xQ.Sector,i6 xQ.Of,ts xQ.Text])]
def fW (xS:Store) (z2:Bool):St:=AA [(2,(pb 2)),(23,(B z2))] [(.box 2,[DB xS.Vols,BJ xS.Arena.Knots,i6 xS.Next])]
theorem mU (xS:Store) (xQ:Mm) (r:Int) (h:ST xS xQ=some r):AU Tryz.prog 51 [.sv (.agg (Rg false xS)),.sv (.agg (c44 xQ))] (I r) (rg 2):=by
 refine gk Tryz.func51 rfl Tryz.ntmps51 (ws (gw 3 0 (Ai 3 0 (RW.c 0 h (aN _ _) (fun v1 gv1 h=>gn 2 0 (Wp.seq (Fk h [2,3,5,18] [.box 2,.box 3] (fun a=>(fX xS xQ v1 a)) (fun a h=>?_) (fun j1 h=>?_))))))))
 ·refine As (Ai 4 0 (AJ 14 h (fun h=>?_) (fun h=>?_)))
  ·exact gn 4 0 (jn h)
  exact gn 4 0 (jn h)
 refine wc h (fun h=>?_) (fun h=>?_)
 ·refine Wp.seq (ws (gn 2 0 (wc h (fun h=>?_) (fun h=>?_))))
  ·exact ws (gn 1 0 (Wp.ret (rr h▸rq)))
  exact Wp.skip (ws (gn 1 0 (Wp.ret (rr h▸rq))))
 refine Wp.skip (Wp.seq (Wp.block (ws (gn 2 0 (wc h (fun h=>?_) (fun h=>?_))))))
 ·exact ws (gn 1 0 (Wp.ret (rr h▸rq)))
 refine Fk h [2,23] [.box 2] (fun a=>(fW xS a)) (fun a h=>?_) (fun j2 h=>?_)
 ·refine As (Ai 4 0 (AJ 27 h (fun h=>?_) (fun h=>?_)))
  ·exact Ai 3 0 (RW.c 0 h (aN _ _) (fun v2 gv2 h=>gn 3 0 (jn h)))
  exact gn 7 0 (jn h)
 refine wc h (fun h=>?_) (fun h=>?_)
 ·exact ws (gn 1 0 (Wp.ret (rr h▸rq)))
 refine ws (Ai 2 0 (RW.q (Di DX xS.Vols) (gn 2 0 (wc h (fun h=>?_) (fun h=>?_)))))
 ·exact ws (gn 1 0 (Wp.ret (rr h▸rq)))
 exact Wp.skip (ws (gn 1 0 (Wp.ret (rr h▸rq))))
theorem rG (xA:Arena) (a:Int) (r:Bool) (h:RO xA a=some r):AU Tryz.prog 102 [.sv (.agg (Xt false xA)),.sv (I a)] (B r) (rg 2):=by
 refine gk Tryz.func102 rfl Tryz.ntmps102 (ws (gw 2 0 (Ai 3 0 (RW.q (Di (CG false) xA.Knots) (Ai 1 0 (RW.c 0 h (Iw _ _ _) (fun v1 gv1 h=>Ai 1 0 (AJ 11 h (fun h=>?_) (fun h=>?_)))))))))
 ·exact Ai 3 0 (CU (CG false) h (fun x1 gx1 h=>RW.q (DA (CG false) gx1 0 0) (RW.q (CH (CG false) gx1 0) (gn 3 0 (Wp.ret (rr h▸rq))))))
 exact gn 9 0 (Wp.ret (rr h▸rq))
def g7 (xA:Arena) (z1:Int):St:=AA [(1,(pb 1)),(8,(.one (BJ xA.Knots))),(9,(I (ln xA.Knots))),(10,(I z1))] [(.box 1,[BJ xA.Knots])]
def g6:St:=AA [] []
def gZ (xA:Arena) (y1:Int) (x1:BR) (z2:Int):St:=AA [(1,(pb 1)),(3,(I y1)),(4,(pb 4)),(8,(.one (BJ xA.Knots))),(9,(I (ln xA.Knots))),(10,(I y1)),(20,(.one (OT x1.Kids))),(21,(I (ln x1.Kids))),(22,(I z2))] [(.box 1,[BJ xA.Knots]),(.box 4,[tb x1.Leaf,OT x1.Kids])]
def gX (xA:Arena) (y1:Int):St:=AA [(1,(pb 1)),(8,(.one (BJ xA.Knots))),(9,(I (ln xA.Knots))),(10,(I y1))] [(.box 1,[BJ xA.Knots])]
def gW (xA:Arena) (y1:Int) (x1:BR) (y2:Int) (z3:Bool):St:=AA [(1,(pb 1)),(3,(I y1)),(4,(pb 4)),(8,(.one (BJ xA.Knots))),(9,(I (ln xA.Knots))),(10,(I y1)),(20,(.one (OT x1.Kids))),(21,(I (ln x1.Kids))),(22,(I y2)),(56,(B z3))] [(.box 1,[BJ xA.Knots]),(.box 4,[tb x1.Leaf,OT x1.Kids])]
theorem nD (xA:Arena) (r:Bool) (h:Qd xA=some r):AU Tryz.prog 103 [.sv (.agg (Xt false xA))] (B r) (rg 1):=by
 refine gk Tryz.func103 rfl Tryz.ntmps103 (ws (gn 2 0 (Wp.seq (ws (Ai 2 0 (RW.q (Di (CG false) xA.Knots) (gn 1 0 (E5 h [1,8,9,10] [.box 1] (fun s=>(g7 xA s)) [] [] (fun _=>g6) EG ?_ ?_))))))))
 ·rintro y1 o (h:Lw xA y1=some o) hk1;refine ws (gn 1 0 (Wp.seq (wc h (fun h=>?_) (fun h=>?_))))
  ·refine Wp.skip (Wp.seq (Wp.block (ws (Ai 1 0 (CU (CG false) h (fun x1 gx1 h=>RW.q (Qz (CG false) gx1 0 2) (gn 3 0 (Wp.seq (ws (Ai 2 0 (RW.q (Di k3 x1.Kids) (gn 1 0 (wc h (fun h=>?_) (fun h=>?_))))))))))))))
   ·exact ws (gn 1 0 (Wp.ret (rr (jo h hk1)▸rq)))
   refine Wp.skip (ws (Ai 2 0 (RW.q (Di k3 x1.Kids) (gn 1 0 (E5 h [1,3,4,8,9,10,20,21,22] [.box 1,.box 4] (fun s=>(gZ xA y1 x1 s)) [1,8,9,10] [.box 1] (fun _=>(gX xA y1)) EG ?_ ?_)))))
   ·rintro y2 o (h:Lv xA y1 x1 y2=some o) hk2;refine ws (gn 1 0 (Wp.seq (wc h (fun h=>?_) (fun h=>?_))))
    ·refine Wp.skip (Wp.seq (Wp.block (ws (CU k3 h (fun x2 gx2 h=>RW.q (CH k3 gx2 0) (gn 1 0 (Fk h [1,3,4,8,9,10,20,21,22,56] [.box 1,.box 4] (fun a=>(gW xA y1 x1 y2 a)) (fun a h=>?_) (fun j1 h=>?_))))))))
     ·refine As (Ai 3 0 (AJ 28 h (fun h=>?_) (fun h=>?_)))
      ·refine Ai 4 0 (AJ 32 h (fun h=>?_) (fun h=>?_))
       ·exact gn 24 0 (jn h)
       refine Ai 4 0 (AJ 36 h (fun h=>?_) (fun h=>?_))
       ·refine Ai 4 0 (AJ 40 h (fun h=>?_) (fun h=>?_))
        ·refine Ai 3 0 (RW.c 0 h (Iw _ _ _) (fun v1 gv1 h=>Ai 2 0 (AJ 46 h (fun h=>?_) (fun h=>?_))))
         ·exact gn 10 0 (jn h)
         exact Ai 3 0 (CU (CG false) h (fun x3 gx3 h=>RW.q (DA (CG false) gx3 0 0) (RW.q (CH (CG false) gx3 0) (gn 4 0 (jn h)))))
        exact gn 16 0 (jn h)
       exact gn 20 0 (jn h)
      refine Ai 8 0 (AJ 36 h (fun h=>?_) (fun h=>?_))
      ·refine Ai 4 0 (AJ 40 h (fun h=>?_) (fun h=>?_))
       ·refine Ai 3 0 (RW.c 0 h (Iw _ _ _) (fun v2 gv2 h=>Ai 2 0 (AJ 46 h (fun h=>?_) (fun h=>?_))))
        ·exact gn 10 0 (jn h)
        exact Ai 3 0 (CU (CG false) h (fun x4 gx4 h=>RW.q (DA (CG false) gx4 0 0) (RW.q (CH (CG false) gx4 0) (gn 4 0 (jn h)))))
       exact gn 16 0 (jn h)
      exact gn 20 0 (jn h)
     refine wc h (fun h=>?_) (fun h=>?_)
     ·exact ws (gn 1 0 (Wp.ret (rr (jo (jo h hk2) hk1)▸rq)))
     exact Wp.skip (As (gn 2 0 (jl h)))
    exact Wp.exit (jx h)
   intro v3 h E hE;exact AX hE (As (gn 2 0 (jl h)))
  exact Wp.exit (jx h)
 intro v4 h E hE;exact AX hE (ws (gn 1 0 (Wp.ret (rr h▸rq))))
theorem fY (xA:Arena) (b:Int) (a:Int) (r:Int) (h:QZ xA b a=some r):AU Tryz.prog 104 [.sv (.agg (Xt false xA)),.sv (I b),.sv (I a)] (I r) (rg 3):=by
 refine gk Tryz.func104 rfl Tryz.ntmps104 (ws (gw 2 0 (Ai 3 0 (CU (CG false) h (fun x1 gx1 h=>RW.q (DA (CG false) gx1 0 1) (RW.q (CH (CG false) gx1 1) (Ai 2 0 (CU k3 h (fun x2 gx2 h=>RW.q (CH k3 gx2 0) (gn 1 0 (Wp.seq (ws (gn 2 0 (wc h (fun h=>?_) (fun h=>?_)))))))))))))))
 ·exact ws (gn 1 0 (Wp.ret (rr h▸rq)))
 exact Wp.skip (ws (Ai 3 0 (CU (CG false) h (fun x3 gx3 h=>RW.q (DA (CG false) gx3 0 1) (RW.q (CH (CG false) gx3 1) (Ai 2 0 (CU k3 h (fun x4 gx4 h=>RW.q (CH k3 gx4 0) (gn 1 0 (Wp.ret (rr h▸rq)))))))))))
def rM (xA:Arena) (b:Int) (a:Int) (z1:Bool):St:=AA [(1,(I b)),(2,(I a)),(3,(pb 3)),(20,(B z1))] [(.box 3,[BJ xA.Knots])]
theorem wK (xA:Arena) (d:Int) (b:Int) (r:Int) (h:Vb xA d b=some r):AU Tryz.prog 61 [.sv (.agg (Xt false xA)),.sv (I d),.sv (I b)] (I r) (rg 3):=by
 refine gk Tryz.func61 rfl Tryz.ntmps61 (ws (gn 2 0 (Wp.seq (Fk h [1,2,3,20] [.box 3] (fun a=>(rM xA d b a)) (fun a h=>?_) (fun j1 h=>?_)))))
 ·refine As (Ai 1 0 (RW.c 0 h (Iw _ _ _) (fun v1 gv1 h=>Ai 2 0 (AJ 10 h (fun h=>?_) (fun h=>?_)))))
  ·exact gn 10 0 (jn h)
  refine Ai 2 0 (RW.c 0 h (rG _ _) (fun v2 gv2 h=>Ai 3 0 (AJ 16 h (fun h=>?_) (fun h=>?_))))
  ·exact gn 4 0 (jn h)
  exact Ai 1 0 (RW.c 0 h (nD _) (fun v3 gv3 h=>gn 2 0 (jn h)))
 refine wc h (fun h=>?_) (fun h=>?_)
 ·exact ws (gn 1 0 (Wp.ret (rr h▸rq)))
 exact Wp.skip (ws (Ai 3 0 (RW.c 0 h (fY _ _ _) (fun v4 gv4 h=>gn 1 0 (Wp.ret (rr h▸rq))))))
def rQ (xA:Arena) (a:Int) (z1:List Int) (z2:Int):St:=AA [(1,(I a)),(2,(pb 2)),(5,(.one (E0 z1))),(7,(I z2))] [(.box 2,[BJ xA.Knots])]
def rP (z3:List Int):St:=AA [(5,(.one (E0 z3)))] []
theorem wL (xA:Arena) (a:Int) (r:List Int) (h:Vc xA a=some r):AU Tryz.prog 116 [.sv (.agg (Xt false xA)),.sv (I a)] (.one (E0 r)) (rg 2):=by
 refine gk Tryz.func116 rfl Tryz.ntmps116 (ws (gw 2 0 (gn 1 0 (Wp.seq (ws (gn 1 0 (BP h [1,2,5,7] [.box 2] (fun s=>(rQ xA a s.1 s.2)) [5] [] (fun s=>(rP s)) EG ?_ ?_)))))))
 ·rintro⟨b,y1⟩ o (h:Md xA a b y1=some o);refine ws (gn 1 0 (Wp.seq (wc h (fun h=>?_) (fun h=>?_))))
  ·exact Wp.skip (Wp.seq (Wp.block (ws (gn 2 0 (As (Ai 4 0 (RW.c 0 h (wK _ _ _) (fun v1 gv1 h=>Ai 1 0 (bd h fun q1 gq1 h=>CV (DN k3 (fun _=>rfl) b gq1) (gn 1 1 (As (gn 2 0 (jl h)))))))))))))
  exact Wp.exit (jv h)
 intro v2 h E hE;exact AX hE (ws (gn 2 2 (Wp.ret (rr h▸rq))))
def Zc (xS:Store) (z1:List Int) (z2:Int):St:=AA [(1,(pb 1)),(3,(.one (E0 z1))),(9,(.one (DB xS.Vols))),(10,(I (ln xS.Vols))),(11,(I z2))] [(.box 1,[DB xS.Vols,BJ xS.Arena.Knots,i6 xS.Next])]
def Zb (z3:List Int):St:=AA [(3,(.one (E0 z3)))] []
def Za (xS:Store) (y1:Int) (v1:List Int) (z4:List Int) (z5:Int):St:=AA [(1,(pb 1)),(3,(.one (E0 z4))),(9,(.one (DB xS.Vols))),(10,(I (ln xS.Vols))),(11,(I y1)),(19,(.one (E0 v1))),(20,(I (ln v1))),(21,(I z5))] [(.box 1,[DB xS.Vols,BJ xS.Arena.Knots,i6 xS.Next])]
def YZ (xS:Store) (y1:Int) (z6:List Int):St:=AA [(1,(pb 1)),(3,(.one (E0 z6))),(9,(.one (DB xS.Vols))),(10,(I (ln xS.Vols))),(11,(I y1))] [(.box 1,[DB xS.Vols,BJ xS.Arena.Knots,i6 xS.Next])]
theorem gB (xS:Store) (r:List Int) (h:Ot xS=some r):AU Tryz.prog 82 [.sv (.agg (Rg false xS))] (.one (E0 r)) (rg 1):=by
 refine gk Tryz.func82 rfl Tryz.ntmps82 (ws (gw 2 0 (gn 1 0 (Wp.seq (ws (Ai 2 0 (RW.q (Di DX xS.Vols) (gn 1 0 (BP h [1,3,9,10,11] [.box 1] (fun s=>(Zc xS s.1 s.2)) [3] [] (fun s=>(Zb s)) EG ?_ ?_)))))))))
 ·rintro⟨b,y1⟩ o (h:Ie xS b y1=some o);refine ws (gn 1 0 (Wp.seq (wc h (fun h=>?_) (fun h=>?_))))
  ·refine Wp.skip (Wp.seq (Wp.block (ws (CU DX h (fun x1 gx1 h=>RW.q (Qz DX gx1 0 2) (gw 2 0 (Ai 4 0 (RW.c 0 h (wL _ _) (fun v1 gv1 h=>RW.q (Di k3 v1) (gn 1 0 (BP h [1,3,9,10,11,19,20,21] [.box 1] (fun s=>(Za xS y1 v1 s.1 s.2)) [1,3,9,10,11] [.box 1] (fun s=>(YZ xS y1 s)) EG ?_ ?_)))))))))))
   ·rintro⟨a,y2⟩ o (h:Ic v1 a y2=some o);refine ws (gn 1 0 (Wp.seq (wc h (fun h=>?_) (fun h=>?_))))
    ·refine Wp.skip (Wp.seq (Wp.block (ws (CU k3 h (fun x2 gx2 h=>RW.q (CH k3 gx2 0) (gw 1 0 (gn 2 0 (wc h (fun h=>?_) (fun h=>?_)))))))))
     ·exact As (Ai 3 0 (bd h fun q1 gq1 h=>CV (DN k3 (fun _=>rfl) a gq1) (gn 1 1 (As (gn 2 0 (jl h))))))
     exact Wp.skip (As (gn 2 0 (jl h)))
    exact Wp.exit (jv h)
   intro v2 h E hE;exact AX hE (As (gn 2 0 (jl h)))
  exact Wp.exit (jv h)
 intro v3 h E hE;exact AX hE (ws (gn 2 2 (Wp.ret (rr h▸rq))))
def TG (v2:List Int) (z1:List Int) (z2:Int):St:=AA [(3,(.one (E0 v2))),(4,(.one (E0 z1))),(11,(.one (.view (.slot 3) 0 [] 0))),(12,(I (ln v2))),(13,(I z2))] []
def TF (z3:List Int):St:=AA [(4,(.one (E0 z3)))] []
def TE (v2:List Int) (a:List Int) (y1:Int) (x1:Int) (z4:Bool):St:=AA [(3,(.one (E0 v2))),(4,(.one (E0 a))),(6,(I x1)),(11,(.one (.view (.slot 3) 0 [] 0))),(12,(I (ln v2))),(13,(I y1)),(28,(B z4))] []
theorem rL (xS:Store) (r:List Int) (h:Nv xS=some r):AU Tryz.prog 52 [.sv (.agg [DB xS.Vols,BJ xS.Arena.Knots,i6 xS.Next])] (.one (E0 r)) (List.replicate 1 .gone):=by
 unfold Nv at h;refine Xb Tryz.func52 rfl ?_;rw [Tryz.ntmps52];refine Wp.seq ?_;refine Wp.region ?_;refine Lf [] 1 [DB xS.Vols,BJ xS.Arena.Knots,i6 xS.Next] ?_;refine A3.o 2 (.one (E0 [])) ?_;refine A3.nil ?_;refine Wp.seq ?_;refine Wp.region ?_;refine A3.o 7 (.agg [DB xS.Vols,BJ xS.Arena.Knots,i6 xS.Next]) ?_;refine XB h 8 (fun v1=>(.one (E0 v1))) rfl (l:=[.sv (.agg [DB xS.Vols,BJ xS.Arena.Knots,i6 xS.Next])]) rfl (fun v hv=>gB xS v hv) (.inl rfl) ?_;intro v1 gv1 h;refine XA true [(.slot 8,[.junk])] 3 (.one (E0 v1)) ?_;refine A3.nil ?_;refine Wp.seq ?_;refine Wp.region ?_;refine A3.o 9 (.one (.view (.slot 3) 1 [] 0)) ?_;refine ADp (n:=3) (x:=9) (d:=10) (enc:=c3) h AEw ?_ (fun _=>rfl) (hf:=⟨_,Tryz.func83,by decide,rfl⟩);intro v2 gv2 h;refine A3.nil ?_;refine Wp.seq ?_;refine Wp.region ?_;refine A3.o 4 (.one (E0 [])) ?_;refine A3.nil ?_;refine Wp.seq ?_;refine Wp.seq ?_;refine Wp.region ?_;refine A3.o 11 (.one (.view (.slot 3) 2 [] 0)) ?_;refine A3.o 12 (I (ln v2)) ?_ (H5 (zS k3 v2));refine A3.o 13 (I 0) ?_;refine A3.nil ?_;refine BP h [3,4,11,12,13] [] (fun s=>(TG v2 s.1 s.2)) [4] [] (fun s=>(TF s)) ⟨rfl,rfl⟩ ?_ ?_
 ·rintro⟨b,y1⟩ o (h:IM v2 b y1=some o);unfold IM at h;change Wp _ _ _ (TG v2 b y1) _;refine Wp.seq ?_;refine Wp.region ?_;refine A3.o 14 (B (decide (y1<(ln v2)))) ?_;refine A3.nil ?_;refine Wp.seq ?_;refine Wp.c h (fun h=>?_) (fun h=>?_)
  ·refine Wp.skip ?_;refine Wp.seq ?_;refine Wp.block ?_;refine Wp.seq ?_;refine Wp.region ?_;refine A3.o 15 (I y1) ?_;refine uU h 16 (fun _=>(.one (.ptr (.slot 3) 0 [0] (Int.toNat y1*1+0)))) ?_ (fun x1 gx1=>H5 (vN k3 (.slot 3) [] 0 gx1));intro x1 gx1 h;refine A3.o 17 (I x1) ?_ (H5 (ACY k3 (.slot 3) [0] 0 (i6 x1) gx1));refine A3.o 5 (I y1) ?_;refine A3.o 6 (I x1) ?_;refine A3.nil ?_;refine Wp.seq ?_;refine FB h [3,4,6,11,12,13,28] [] (fun a=>(TE v2 b y1 x1 a)) ?_ ?_
   ·intro a h;refine Wp.region ?_;refine A3.o 18 (I y1) ?_;refine A3.o 19 (B (y1==0)) ?_;refine A3.o 20 (B (y1==0)) ?_;refine PD h 20 (fun h=>?_) (fun h=>?_)
    ·refine DW 21 ?_;refine DW 22 ?_;refine DW 23 ?_;refine DW 24 ?_;refine DW 25 ?_;refine DW 26 ?_;refine DW 27 ?_;refine A3.o 28 (B true) ?_;refine A3.nil ?_;cases h;exact⟨_,rfl,rfl,rfl⟩
    refine A3.o 21 (.one (.view (.slot 3) 0 [] 0)) ?_;refine A3.o 22 (I y1) ?_;refine A3.o 23 (I (sb y1 1)) ?_;refine uU h 24 (fun _=>(.one (.ptr (.slot 3) 0 [0] (Int.toNat (sb y1 1)*1+0)))) ?_ (fun x2 gx2=>H5 (vN k3 (.slot 3) [] 0 gx2));intro x2 gx2 h;refine A3.o 25 (I x2) ?_ (H5 (ACY k3 (.slot 3) [0] 0 (i6 x2) gx2));refine A3.o 26 (I x1) ?_;refine A3.o 27 (B (x2 !=x1)) ?_;refine A3.o 28 (B (x2 !=x1)) ?_;refine A3.nil ?_;cases h;exact⟨_,rfl,rfl,rfl⟩
   intro j1 h E hE;refine AX hE ?_;change Wp _ _ _ (TE v2 b y1 x1 j1) _;refine Wp.c h (fun h=>?_) (fun h=>?_)
   ·refine Wp.region ?_;refine A3.o 29 (.one (.view (.slot 4) 0 [] 0)) ?_;refine A3.o 30 (I x1) ?_;refine XA false [] 31 (.one (E0 [x1])) ?_;refine AA7 h [(.slot 4,[.junk])] 32 (fun q1=>(.one (E0 q1))) ?_ (fun q1 gq1=>Nd k3 (fun _=>rfl) [(.slot 4,[.junk])] b gq1);intro q1 gq1 h;refine XA true [(.slot 32,[.junk])] 4 (.one (E0 q1)) ?_;refine A3.nil ?_;refine Wp.region ?_;refine A3.o 33 (I (ad y1 1)) ?_;refine A3.o 13 (I (ad y1 1)) ?_;refine A3.nil ?_;cases h;exact⟨_,rfl,rfl,rfl⟩
   refine Wp.skip ?_;refine Wp.region ?_;refine A3.o 33 (I (ad y1 1)) ?_;refine A3.o 13 (I (ad y1 1)) ?_;refine A3.nil ?_;cases h;exact⟨_,rfl,rfl,rfl⟩
  refine Wp.exit ?_;cases h;exact⟨_,rfl,rfl,rfl⟩
 intro v3 h E hE;refine AX hE ?_;change Wp _ _ _ (TF v3) _;refine Wp.seq ?_;refine Wp.region ?_;refine A3.o 34 (.one (.view (.slot 4) 0 [] 0)) ?_;refine XA true [(.slot 4,[.junk])] 2 (.one (E0 v3)) ?_;refine A3.nil ?_;cases h;exact Wp.ret ⟨.inr rfl,_,_,rfl,rfl⟩
def gH (a:ByteArray) (z1:Int) (z2:Int):St:=AA [(0,(.one (.int .u32 z1))),(1,(Y a)),(5,(I z2))] []
def gG (z3:Int):St:=AA [(0,(.one (.int .u32 z3)))] []
def gF (a:ByteArray) (b:Int) (z4:Int) (z5:Int):St:=AA [(0,(.one (.int .u32 z4))),(1,(Y a)),(5,(I b)),(19,(I z5))] []
def gE (a:ByteArray) (b:Int) (z6:Int):St:=AA [(0,(.one (.int .u32 z6))),(1,(Y a)),(5,(I b))] []
theorem mZ (b:Int) (a:ByteArray) (r:Int) (h:Qc b a=some r):AU Tryz.prog 180 [.sv (.one (.int .u32 b)),.sv (Y a)] (.one (.int .u32 r)) (rg 2):=by
 refine gk Tryz.func180 rfl Tryz.ntmps180 (ws (gn 1 0 (Wp.seq (ws (gn 1 0 (BP h [0,1,5] [] (fun s=>(gH a s.1 s.2)) [0] [] (fun s=>(gG s)) EG ?_ ?_))))))
 ·rintro⟨c,d⟩ o (h:Js a c d=some o);refine Wp.seq (ws (gn 4 0 (wc h (fun h=>?_) (fun h=>?_))))
  ·refine Wp.skip (Wp.seq (Wp.block (ws (Ai 3 0 (bd h fun x1 gx1 h=>RW.q (iW gx1) (gw 3 0 (gn 1 0 (BP h [0,1,5,19] [] (fun s=>(gF a d s.1 s.2)) [0,1,5] [] (fun s=>(gE a d s)) EG ?_ ?_))))))))
   ·rintro⟨e,y1⟩ o (h:HI e y1=some o);refine ws (gn 1 0 (Wp.seq (wc h (fun h=>?_) (fun h=>?_))))
    ·refine Wp.skip (Wp.seq (Wp.block (ws (gw 3 0 (gw 3 0 (gn 2 0 (wc h (fun h=>?_) (fun h=>?_))))))))
     ·exact As (gn 3 0 (As (gn 2 0 (jl h))))
     exact Wp.skip (As (gn 2 0 (jl h)))
    exact Wp.exit (jv h)
   intro v1 h E hE;exact AX hE (As (gn 3 0 (jl h)))
  exact Wp.exit (jv h)
 intro v2 h E hE;exact AX hE (ws (gn 2 0 (Wp.ret (rr h▸rq))))
theorem wJ (a:ByteArray) (r:Int) (h:Va a=some r):AU Tryz.prog 159 [.sv (Y a)] (.one (.int .u32 r)) (rg 1):=by
 exact gk Tryz.func159 rfl Tryz.ntmps159 (ws (gw 1 0 (Ai 1 0 (RW.c 0 h (mZ _ _) (fun v1 gv1 h=>gn 1 0 (Wp.ret (rr h▸rq)))))))
theorem rI (a:ByteArray) (r:ByteArray×Bool) (h:RQ a=some r):AU Tryz.prog 133 [.sv (Y a)] (.tup [(Y r.1),(B r.2)]) (rg 1):=by
 refine gk Tryz.func133 rfl Tryz.ntmps133 (ws (gn 2 0 (Wp.seq (ws (gn 3 0 (wc h (fun h=>?_) (fun h=>?_)))))))
 ·exact ws (gn 2 0 (Wp.ret (rr h▸rq)))
 exact Wp.skip (ws (Ai 1 0 (RW.c 0 h (wJ _) (fun v1 gv1 h=>gw 1 0 (Ai 13 0 (RW.q (pcv (f:=c5) (fun _=>rfl) [(IntKind.u8.wrap (Int.fdiv v1 (2^(min (24:Int).toNat IntKind.u32.bits)))),(IntKind.u8.wrap (Int.fdiv v1 (2^(min (16:Int).toNat IntKind.u32.bits)))),(IntKind.u8.wrap (Int.fdiv v1 (2^(min (8:Int).toNat IntKind.u32.bits)))),(IntKind.u8.wrap v1)]) (bd h fun x1 gx1 h=>RW.q (ON gx1) (gn 2 0 (Wp.ret (rr h▸rq))))))))))
def Zd (x1:ByteArray) (z1:Bool):St:=AA [(4,(Y x1)),(26,(B z1))] []
theorem gC (b:ByteArray) (r:ByteArray×Bool) (h:Ou b=some r):AU Tryz.prog 107 [.sv (Y b)] (.tup [(Y r.1),(B r.2)]) (rg 1):=by
 refine gk Tryz.func107 rfl Tryz.ntmps107 (ws (gn 2 0 (Wp.seq (ws (gn 3 0 (wc h (fun h=>?_) (fun h=>?_)))))))
 ·exact ws (gn 2 0 (Wp.ret (rr h▸rq)))
 refine Wp.skip (ws (Ai 4 0 (bd h fun x1 gx1 h=>RW.q (Pv gx1) (gw 1 0 (Ai 1 0 (RW.c 0 h (rI _) (fun v1 gv1 h=>gn 5 1 (Wp.seq (Fk h [4,26] [] (fun a=>(Zd x1 a)) (fun a h=>?_) (fun j1 h=>?_))))))))))
 ·refine As (Ai 3 0 (AJ 22 h (fun h=>?_) (fun h=>?_)))
  ·exact gn 4 0 (jn h)
  exact gn 4 0 (jn h)
 refine wc h (fun h=>?_) (fun h=>?_)
 ·exact ws (gn 2 0 (Wp.ret (rr h▸rq)))
 exact Wp.skip (ws (gn 3 0 (Wp.ret (rr h▸rq))))
def gL (a:ByteArray) (b:Int) (z1:Int) (z2:Int):St:=AA [(0,(Y a)),(1,(I b)),(7,(I z1)),(8,(I z2))] []
def gK:St:=AA [] []
def gJ (a:ByteArray) (b:Int) (c:Int) (d:Int) (z3:Bool):St:=AA [(0,(Y a)),(1,(I b)),(7,(I c)),(8,(I d)),(23,(B z3))] []
def gI (a:Int) (b:Int) (c:Int) (x2:Int) (z4:Bool):St:=AA [(1,(I a)),(7,(I (ad b x2))),(8,(I c)),(50,(B z4))] []
theorem m8 (b:ByteArray) (c:Int) (r:Int×Int×Bool) (h:LA b c=some r):AU Tryz.prog 108 [.sv (Y b),.sv (I c)] (.tup [(I r.1),(I r.2.1),(B r.2.2)]) (rg 2):=by
 refine gk Tryz.func108 rfl Tryz.ntmps108 (ws (gw 3 0 (gn 1 0 (Wp.seq (ws (gn 1 0 (E5 h [0,1,7,8] [] (fun s=>(gL b c s.1 s.2)) [] [] (fun _=>gK) EG ?_ ?_)))))))
 ·rintro⟨d,e⟩ o (h:Gw b c d e=some o) hk1;refine Wp.seq (Fk h [0,1,7,8,23] [] (fun a=>(gJ b c d e a)) (fun a h=>?_) (fun j1 h=>?_))
  ·refine As (Ai 3 0 (AJ 12 h (fun h=>?_) (fun h=>?_)))
   ·refine Ai 4 0 (AJ 16 h (fun h=>?_) (fun h=>?_))
    ·exact gn 7 0 (jn h)
    exact gn 7 0 (jn h)
   exact gn 11 0 (jn h)
  refine wc h (fun h=>?_) (fun h=>?_)
  ·refine Wp.skip (Wp.seq (Wp.block (ws (Ai 4 0 (bd h fun x1 gx1 h=>RW.q (iW gx1) (gw 2 0 (Ai 5 0 (bd h fun x2 gx2 h=>RW.q (AEk gx2) (gn 2 0 (Wp.seq (ws (gn 2 0 (wc h (fun h=>?_) (fun h=>?_))))))))))))))
   ·exact Wp.exit (As (gn 3 0 (jl h)))
   refine Wp.skip (Wp.seq (Fk h [1,7,8,50] [] (fun a=>(gI c d e x2 a)) (fun a h=>?_) (fun j2 h=>?_)))
   ·refine As (Ai 3 0 (AJ 43 h (fun h=>?_) (fun h=>?_)))
    ·refine Ai 4 0 (AJ 47 h (fun h=>?_) (fun h=>?_))
     ·exact gn 3 0 (jn h)
     exact gn 3 0 (jn h)
    exact gn 7 0 (jn h)
   refine wc h (fun h=>?_) (fun h=>?_)
   ·exact ws (gn 3 0 (Wp.ret (rr (jo h hk1)▸rq)))
   exact Wp.skip (ws (gn 8 0 (Wp.ret (rr (jo h hk1)▸rq))))
  exact Wp.exit (jx h)
 intro v1 h E hE;exact AX hE (ws (gn 3 0 (Wp.ret (rr h▸rq))))
def nB (xP:Page) (z1:Bool):St:=AA [(1,(pb 1)),(33,(B z1))] [(.box 1,[i6 xP.Kind,i6 xP.Seq,i6 xP.Tx,i6 xP.Part,i6 xP.Count,ts xP.Text])]
theorem rJ (xP:Page) (r:Bool) (h:RX xP=some r):AU Tryz.prog 109 [.sv (.agg (c52 xP))] (B r) (rg 1):=by
 refine gk Tryz.func109 rfl Tryz.ntmps109 (ws (gn 2 0 (Wp.seq (Fk h [1,33] [.box 1] (fun a=>(nB xP a)) (fun a h=>?_) (fun j1 h=>?_)))))
 ·refine As (Ai 2 0 (RW.c 0 h (Iw _ _ _) (fun v1 gv1 h=>Ai 2 0 (AJ 7 h (fun h=>?_) (fun h=>?_)))))
  ·exact gn 26 0 (jn h)
  refine Ai 2 0 (RW.c 0 h (Iw _ _ _) (fun v2 gv2 h=>Ai 3 0 (AJ 13 h (fun h=>?_) (fun h=>?_))))
  ·exact gn 20 0 (jn h)
  refine Ai 2 0 (RW.c 0 h (Iw _ _ _) (fun v3 gv3 h=>Ai 3 0 (AJ 19 h (fun h=>?_) (fun h=>?_))))
  ·exact gn 14 0 (jn h)
  refine Ai 5 0 (RW.c 0 h (Iw _ _ _) (fun v4 gv4 h=>Ai 3 0 (AJ 28 h (fun h=>?_) (fun h=>?_))))
  ·exact gn 5 0 (jn h)
  exact gn 5 0 (jn h)
 refine wc h (fun h=>?_) (fun h=>?_)
 ·exact ws (gn 1 0 (Wp.ret (rr h▸rq)))
 refine Wp.skip (ws (Ai 4 0 (AJ 37 h (fun h=>?_) (fun h=>?_))))
 ·exact gn 10 0 (Wp.ret (rr h▸rq))
 refine Ai 4 0 (AJ 41 h (fun h=>?_) (fun h=>?_))
 ·exact gn 6 0 (Wp.ret (rr h▸rq))
 exact gn 6 0 (Wp.ret (rr h▸rq))
def Zm (v1:ByteArray×Bool) (z1:Bool):St:=AA [(2,(pb 2)),(4,(Y v1.1)),(23,(B z1))] [(.box 2,[i6 0,i6 0,i6 0,i6 0,i6 0,ts (bs [])])]
def Zl (v1:ByteArray×Bool) (z2:Int) (z3:Int) (z4:Int) (z5:Int) (z6:Int) (z7:Int):St:=AA [(2,(pb 2)),(4,(Y v1.1)),(6,(pb 6)),(7,(I z2)),(25,(I z3))] [(.box 2,[i6 0,i6 0,i6 0,i6 0,i6 0,ts (bs [])]),(.box 6,[i6 z4,i6 z5,i6 z6,i6 z7])]
def Zk (v1:ByteArray×Bool) (z8:Int) (z9:Int) (z10:Int) (z11:Int) (z12:Int):St:=AA [(2,(pb 2)),(4,(Y v1.1)),(6,(pb 6)),(7,(I z8))] [(.box 2,[i6 0,i6 0,i6 0,i6 0,i6 0,ts (bs [])]),(.box 6,[i6 z9,i6 z10,i6 z11,i6 z12])]
theorem gM (xT:ByteArray) (r:Page×Bool) (h:Ow xT=some r):AU Tryz.prog 67 [.sv (Y xT)] (.tup [(.agg (c52 r.1)),(B r.2)]) (rg 1):=by
 refine gk Tryz.func67 rfl Tryz.ntmps67 (ws (gw 2 0 (Ai 1 0 (RW.c 0 h (gC _) (fun v1 gv1 h=>gn 5 1 (Wp.seq (Fk h [2,4,23] [.box 2] (fun a=>(Zm v1 a)) (fun a h=>?_) (fun j1 h=>?_))))))))
 ·refine As (Ai 3 0 (AJ 20 h (fun h=>?_) (fun h=>?_)))
  ·exact gn 3 0 (jn h)
  exact gn 3 0 (jn h)
 refine wc h (fun h=>?_) (fun h=>?_)
 ·exact ws (gn 3 0 (Wp.ret (rr h▸rq)))
 refine Wp.skip (ws (gw 1 0 (gn 1 0 (Wp.seq (ws (gn 1 0 (E5 h [2,4,6,7,25] [.box 2,.box 6] (fun s=>(Zl v1 s.1 s.2.1 s.2.2.1 s.2.2.2.1 s.2.2.2.2.1 s.2.2.2.2.2)) [2,4,6,7] [.box 2,.box 6] (fun s=>(Zk v1 s.1 s.2.1 s.2.2.1 s.2.2.2.1 s.2.2.2.2)) EG ?_ ?_)))))))
 ·rintro⟨b,y1,d,e,f,g⟩ o (h:Ef v1 b y1 d e f g=some o) hk1;refine ws (gn 1 0 (Wp.seq (wc h (fun h=>?_) (fun h=>?_))))
  ·refine Wp.skip (Wp.seq (Wp.block (ws (gw 2 0 (Ai 2 0 (RW.c 0 h (m8 _ _) (fun v2 gv2 h=>gn 7 1 (Wp.seq (ws (gn 2 0 (wc h (fun h=>?_) (fun h=>?_))))))))))))
   ·exact ws (gn 3 0 (Wp.ret (rr (jo h hk1)▸rq)))
   refine Wp.skip (As (Ai 3 0 (iC h (fun hb h=>?_) (fun h=>?_))))
   ·exact RW.q (pxa 0 (eq_of_beq hb)) (gn 2 0 (As (gn 2 0 (jl h))))
   refine iC h (fun hb h=>?_) (fun h=>?_)
   ·exact RW.q (pxa 1 (eq_of_beq hb)) (gn 2 0 (As (gn 2 0 (jl h))))
   refine iC h (fun hb h=>?_) (fun h=>?_)
   ·exact RW.q (pxa 2 (eq_of_beq hb)) (gn 2 0 (As (gn 2 0 (jl h))))
   refine iC h (fun hb h=>?_) (fun h=>?_)
   ·exact RW.q (pxa 3 (eq_of_beq hb)) (gn 2 0 (As (gn 2 0 (jl h))))
   cases h
  exact Wp.exit (jx h)
 intro v3 h E hE;refine AX hE (Wp.seq (Eu [16] mixed (fun c E h=>by rcases h with⟨h|h,_⟩<;>cases h) (Bw [0] 0 (bd h fun x1 gx1 h=>KW.q 1 (iW gx1) (Bw [2,3,4,5,6,7,8,9,10,11,12] 0 (bd h fun x2 gx2 h=>KW.q 13 (Pv gx2) (Bw [14,15,16] 0 (Bv (Wp.seq (ws (Ai 1 0 (RW.c 0 h (rJ _) (fun v4 gv4 h=>gn 1 0 (wc h (fun h=>?_) (fun h=>?_)))))))))))))))
 ·exact ws (gn 3 0 (Wp.ret (rr h▸rq)))
 exact Wp.skip (ws (gn 3 0 (Wp.ret (rr h▸rq))))
theorem AEy:∀x,(c54 x).all TV.flat=true:=fun _=>rfl
theorem Zi (n b g cap:Nat) (T:TypeId) (hb:b≠g):Mj Tryz.prog (MO n b g cap 54 T 8 c54) (NA BF) 69 #[.pointer (some ⟨b,0,none⟩)]:=by
 refine vZ Tryz.func69 rfl rfl ?_;rintro l i j x y hx hy ⟨w,hI⟩;have hn:l.length=n:=hI.len;have hi:=ACz hx;have hj:=ACz hy;refine AAw Tryz.func69 rfl rfl ?_;rw [Tryz.ntmps69];refine Wp.seq ?_;refine Wp.region ?_;refine A3.o 5 (B false) ?_;refine A3.nil ?_;refine Wp.seq ?_;refine X1 mixed (by decide+kernel) ?_;refine iJ 6 (.hdr ⟨g,0,none⟩ n cap) (.slice (some ⟨g,0,none⟩) n cap) ?_ rfl zK (fun w=>by simp [C6]) rfl rfl rfl;refine Jv.o 7 (I i) ?_;refine AA3 (n:=n) 8 (m:=i) ?_ rfl Tryz.underlying45 rfl hi.1 (by omega) (by decide);refine iK (f:=2) 9 ?_ rfl Tryz.underlying54 rfl (by decide);refine iK (f:=1) 10 ?_ rfl Tryz.underlying52 rfl (by decide);refine iJ (x:=10) 11 (.int .i64 (BF x)) (.int .i64 (BF x)) ?_ rfl (zJ (k:=3) (t:= .int .i64 (BF x)) EA hx rfl hb (by rw [ACI];rfl)) (fun w=>by simp [C6]) rfl rfl rfl;refine iJ 12 (.hdr ⟨g,0,none⟩ n cap) (.slice (some ⟨g,0,none⟩) n cap) ?_ rfl zK (fun w=>by simp [C6]) rfl rfl rfl;refine Jv.o 13 (I j) ?_;refine AA3 (n:=n) 14 (m:=j) ?_ rfl Tryz.underlying45 rfl hj.1 (by omega) (by decide);refine iK (f:=2) 15 ?_ rfl Tryz.underlying54 rfl (by decide);refine iK (f:=1) 16 ?_ rfl Tryz.underlying52 rfl (by decide);refine iJ (x:=16) 17 (.int .i64 (BF y)) (.int .i64 (BF y)) ?_ rfl (zJ (k:=3) (t:= .int .i64 (BF y)) EA hy rfl hb (by rw [ACI];rfl)) (fun w=>by simp [C6]) rfl rfl rfl;refine Jv.o 18 (B (decide ((BF x)<(BF y)))) ?_;refine Jv.o 5 (B (decide ((BF x)<(BF y)))) ?_;refine Jv.nil ?_;exact Wp.ret ⟨.inr rfl,rfl,_,rfl⟩
theorem Zj {l r:List Ap} (h:Dd (NA BF) l (ln l)=some r):iI Tryz.prog 68 45 54 8 c54 69 l r:=by
 refine Qq EA h Tryz.t45 Tryz.t54 rfl rfl (by kernel_rfl) rfl 25 (fun w=>rfl) rfl Tryz.isAgg54 (enters_of Tryz.func69 rfl rfl) ?_ (fun n b g cap T hb=>Zi n b g cap T hb);intro n
 match n with
 |0=>exact⟨134,by kernel_rfl,fun h=>absurd h (by decide)⟩
 |1=>exact⟨135,by kernel_rfl,fun h=>absurd h (by decide)⟩
 |n+2=>
  have hk:Go.Lib.swapperK (n+2) Tryz.t54 25=9:=rfl;rw [hk];exact⟨142,by kernel_rfl,fun _=>⟨by decide,false,fun args W=>run_callFunc_extern Tryz.func142 (by kernel_rfl) (by kernel_rfl) (by kernel_rfl) (e:=Extern.ReflectliteSwapper.swap false) (by kernel_rfl) args W⟩⟩
def RV (xF:Flash) (z1:Int) (z2:List Ap):St:=AA [(3,(pb 3)),(11,(.one (Da xF.Blocks))),(12,(I (ln xF.Blocks))),(13,(I z1))] [(.box 3,[G5 z2])]
def RU (z3:List Ap):St:=AA [(3,(pb 3))] [(.box 3,[G5 z3])]
def RT (xF:Flash) (y1:Int) (x1:Block) (z4:Int) (z5:List Ap):St:=AA [(3,(pb 3)),(4,(I y1)),(11,(.one (Da xF.Blocks))),(12,(I (ln xF.Blocks))),(13,(I y1)),(19,(.one (YT x1.Leaves))),(20,(I (ln x1.Leaves))),(21,(I z4))] [(.box 3,[G5 z5])]
def RS (xF:Flash) (y1:Int) (z6:List Ap):St:=AA [(3,(pb 3)),(11,(.one (Da xF.Blocks))),(12,(I (ln xF.Blocks))),(13,(I y1))] [(.box 3,[G5 z6])]
def RR (xF:Flash) (y1:Int) (x1:Block) (y2:Int) (a:List Ap) (v1:Page×Bool) (z7:Bool):St:=AA [(3,(pb 3)),(4,(I y1)),(6,(I y2)),(8,(pb 8)),(11,(.one (Da xF.Blocks))),(12,(I (ln xF.Blocks))),(13,(I y1)),(19,(.one (YT x1.Leaves))),(20,(I (ln x1.Leaves))),(21,(I y2)),(37,(B z7))] [(.box 3,[G5 a]),(.box 8,[i6 v1.1.Kind,i6 v1.1.Seq,i6 v1.1.Tx,i6 v1.1.Part,i6 v1.1.Count,ts v1.1.Text])]
theorem m6 (xF:Flash) (r:List Ap) (h:HK xF=some r):AU Tryz.prog 39 [.sv (.agg [Da xF.Blocks])] (.one (G5 r)) (List.replicate 1 .gone):=by
 unfold HK at h;refine Xb Tryz.func39 rfl ?_;rw [Tryz.ntmps39];refine Wp.seq ?_;refine Wp.region ?_;refine Lf [] 1 [Da xF.Blocks] ?_;refine A3.o 2 (.one (G5 [])) ?_;refine A3.nil ?_;refine Wp.seq ?_;refine Wp.region ?_;refine Lf [] 3 [G5 []] ?_;refine A3.nil ?_;refine Wp.seq ?_;refine Wp.seq ?_;refine Wp.region ?_;refine A3.o 10 (.one (.ptr (.box 1) 1 [] 0)) ?_;refine A3.o 11 (.one (Da xF.Blocks)) ?_;refine A3.o 12 (I (ln xF.Blocks)) ?_ (H5 (zS (EX false) xF.Blocks));refine A3.o 13 (I 0) ?_;refine A3.nil ?_;refine BP h [3,11,12,13] [.box 3] (fun s=>(RV xF s.1 s.2)) [3] [.box 3] (fun s=>(RU s)) ⟨rfl,rfl⟩ ?_ ?_
 ·rintro⟨y1,d⟩ o (h:Gv xF y1 d=some o);unfold Gv at h;change Wp _ _ _ (RV xF y1 d) _;refine Wp.seq ?_;refine Wp.region ?_;refine A3.o 14 (B (decide (y1<(ln xF.Blocks)))) ?_;refine A3.nil ?_;refine Wp.seq ?_;refine Wp.c h (fun h=>?_) (fun h=>?_)
  ·refine Wp.skip ?_;refine Wp.seq ?_;refine Wp.block ?_;refine Wp.seq ?_;refine Wp.region ?_;refine A3.o 15 (I y1) ?_;refine uU h 16 (fun _=>(.one (.ptr (.slot 11) 0 [0] (Int.toNat y1*3+0)))) ?_ (fun x1 gx1=>H5 (vN (EX false) (.slot 11) [] 0 gx1));intro x1 gx1 h;refine A3.o 17 (.agg [tb x1.Bad,i6 x1.Wear,YT x1.Leaves]) ?_ (H5 (ADO (EX false) (.slot 11) [0] gx1));refine Lf [] 5 [tb false,i6 0,AEt []] ?_;refine A3.o 4 (I y1) ?_;refine sT [] (.box 5) [tb x1.Bad,i6 x1.Wear,YT x1.Leaves] ?_;refine A3.nil ?_;refine Wp.seq ?_;refine Wp.region ?_;refine A3.o 18 (.one (.ptr (.box 5) 1 [] 2)) ?_;refine A3.o 19 (.one (YT x1.Leaves)) ?_;refine A3.o 20 (I (ln x1.Leaves)) ?_ (H5 (zS Mn x1.Leaves));refine A3.o 21 (I 0) ?_;refine A3.nil ?_;refine BP h [3,4,11,12,13,19,20,21] [.box 3] (fun s=>(RT xF y1 x1 s.1 s.2)) [3,11,12,13] [.box 3] (fun s=>(RS xF y1 s)) ⟨rfl,rfl⟩ ?_ ?_
   ·rintro⟨y2,b⟩ o (h:HJ y1 x1 y2 b=some o);unfold HJ at h;change Wp _ _ _ (RT xF y1 x1 y2 b) _;refine Wp.seq ?_;refine Wp.region ?_;refine A3.o 22 (B (decide (y2<(ln x1.Leaves)))) ?_;refine A3.nil ?_;refine Wp.seq ?_;refine Wp.c h (fun h=>?_) (fun h=>?_)
    ·refine Wp.skip ?_;refine Wp.seq ?_;refine Wp.block ?_;refine Wp.seq ?_;refine Wp.region ?_;refine A3.o 23 (I y2) ?_;refine uU h 24 (fun _=>(.one (.ptr (.slot 19) 0 [0] (Int.toNat y2*2+0)))) ?_ (fun x2 gx2=>H5 (vN Mn (.slot 19) [] 0 gx2));intro x2 gx2 h;refine A3.o 25 (.agg [i6 x2.Is,ts x2.Text]) ?_ (H5 (ADO Mn (.slot 19) [0] gx2));refine Lf [] 7 [i6 0,ts (bs [])] ?_;refine A3.o 6 (I y2) ?_;refine A3.s [] (.box 7) [i6 x2.Is,ts x2.Text] ?_;refine A3.nil ?_;refine Wp.seq ?_;refine Wp.region ?_;refine A3.o 27 (.one (.ptr (.box 7) 1 [] 1)) ?_;refine A3.o 28 (Y x2.Text) ?_;refine XB h 29 (fun v1=>(.tup [(.agg [i6 v1.1.Kind,i6 v1.1.Seq,i6 v1.1.Tx,i6 v1.1.Part,i6 v1.1.Count,ts v1.1.Text]),(B v1.2)])) rfl (l:=[.sv (.one (ts x2.Text))]) rfl (fun v hv=>gM x2.Text v hv) (.inl rfl) ?_;intro v1 gv1 h;refine iO 29 26 (.tup [(.agg [i6 v1.1.Kind,i6 v1.1.Seq,i6 v1.1.Tx,i6 v1.1.Part,i6 v1.1.Count,ts v1.1.Text]),(B v1.2)]) ?_;refine Sq 26 0 30 (.agg [i6 v1.1.Kind,i6 v1.1.Seq,i6 v1.1.Tx,i6 v1.1.Part,i6 v1.1.Count,ts v1.1.Text]) ?_;refine Sq 26 1 31 (B v1.2) ?_;refine Lf [] 8 [i6 0,i6 0,i6 0,i6 0,i6 0,ts (bs [])] ?_;refine A3.s [] (.box 8) [i6 v1.1.Kind,i6 v1.1.Seq,i6 v1.1.Tx,i6 v1.1.Part,i6 v1.1.Count,ts v1.1.Text] ?_;refine A3.o 9 (B v1.2) ?_;refine A3.nil ?_;refine Wp.seq ?_;refine FB h [3,4,6,8,11,12,13,19,20,21,37] [.box 3,.box 8] (fun a=>(RR xF y1 x1 y2 b v1 a)) ?_ ?_
     ·intro a h;refine Wp.region ?_;refine A3.o 32 (B v1.2) ?_;refine A3.o 33 (B v1.2) ?_;refine PD h 33 (fun h=>?_) (fun h=>?_)
      ·refine A3.o 34 (.one (.ptr (.box 7) 1 [] 0)) ?_;refine A3.o 35 (I x2.Is) ?_;refine A3.o 36 (B (x2.Is==1)) ?_;refine A3.o 37 (B (x2.Is==1)) ?_;refine A3.nil ?_;cases h;exact⟨_,rfl,rfl,rfl⟩
      refine DW 34 ?_;refine DW 35 ?_;refine DW 36 ?_;refine A3.o 37 (B false) ?_;refine A3.nil ?_;cases h;exact⟨_,rfl,rfl,rfl⟩
     intro j1 h E hE;refine AX hE ?_;change Wp _ _ _ (RR xF y1 x1 y2 b v1 j1) _;refine Wp.c h (fun h=>?_) (fun h=>?_)
     ·refine Wp.region ?_;refine A3.o 38 (.one (.view (.box 3) 0 [] 0)) ?_;refine A3.o 39 (I y1) ?_;refine A3.o 40 (I y2) ?_;refine A3.o 41 (.agg [i6 v1.1.Kind,i6 v1.1.Seq,i6 v1.1.Tx,i6 v1.1.Part,i6 v1.1.Count,ts v1.1.Text]) ?_;refine A3.o 42 (.agg [i6 y1,i6 y2,i6 v1.1.Kind,i6 v1.1.Seq,i6 v1.1.Tx,i6 v1.1.Part,i6 v1.1.Count,ts v1.1.Text]) ?_;refine XA false [] 43 (.one (G5 [(Ap.mk y1 y2 v1.1)])) ?_;refine AA7 h [(.box 3,[.junk])] 44 (fun q1=>(.one (G5 q1))) ?_ (fun q1 gq1=>Nd EA (fun _=>rfl) [(.box 3,[.junk])] b gq1);intro q1 gq1 h;refine A3.s [(.slot 44,[.junk])] (.box 3) [G5 q1] ?_;refine A3.nil ?_;refine Wp.region ?_;refine A3.o 45 (I (ad y2 1)) ?_;refine A3.o 21 (I (ad y2 1)) ?_;refine A3.nil ?_;cases h;exact⟨_,rfl,rfl,rfl⟩
     refine Wp.skip ?_;refine Wp.region ?_;refine A3.o 45 (I (ad y2 1)) ?_;refine A3.o 21 (I (ad y2 1)) ?_;refine A3.nil ?_;cases h;exact⟨_,rfl,rfl,rfl⟩
    refine Wp.exit ?_;cases h;exact⟨_,rfl,rfl,rfl⟩
   intro v2 h E hE;refine AX hE ?_;change Wp _ _ _ (RS xF y1 v2) _;refine Wp.region ?_;refine A3.o 46 (I (ad y1 1)) ?_;refine A3.o 13 (I (ad y1 1)) ?_;refine A3.nil ?_;cases h;exact⟨_,rfl,rfl,rfl⟩
  refine Wp.exit ?_;cases h;exact⟨_,rfl,rfl,rfl⟩
 intro v3 h E hE;refine AX hE ?_;change Wp _ _ _ (RU v3) _;refine Wp.seq ?_;refine Wp.region ?_;refine A3.o 47 (.one (.view (.box 3) 0 [] 0)) ?_;refine ADr h ?_;intro v4 gv4 h;refine A3.srt (x:=47) (p:=3) (d1:=48) (d2:=49) (d3:=50) (r:= .box 3) (Zj gv4) ?_ EA AEy (hf:=⟨_,Tryz.func68,by decide,rfl⟩);refine A3.nil ?_;refine Wp.seq ?_;refine Wp.region ?_;refine A3.o 51 (.one (.view (.box 3) 1 [] 0)) ?_;refine XA true [(.box 3,[.junk])] 2 (.one (G5 v4)) ?_;refine A3.nil ?_;cases h;exact Wp.ret ⟨.inr rfl,_,_,rfl,rfl⟩
def mY (a:Int) (v1:List Ap) (z1:Bool) (z2:Int) (z3:Int) (z4:Int) (z5:Int) (z6:Int) (z7:Int) (z8:Int) (z9:Int) (z10:ByteArray):St:=AA [(1,(I a)),(4,(pb 4)),(6,(pb 6)),(7,(B z1)),(11,(.one (G5 v1))),(12,(I (ln v1))),(13,(I z2))] [(.box 4,[i6 0,i6 0,i6 0,i6 0,i6 0,i6 0,i6 0,ts (bs [])]),(.box 6,[i6 z3,i6 z4,i6 z5,i6 z6,i6 z7,i6 z8,i6 z9,ts z10])]
def mX (z11:Bool) (z12:Int) (z13:Int) (z14:Int) (z15:Int) (z16:Int) (z17:Int) (z18:Int) (z19:ByteArray):St:=AA [(4,(pb 4)),(6,(pb 6)),(7,(B z11))] [(.box 4,[i6 0,i6 0,i6 0,i6 0,i6 0,i6 0,i6 0,ts (bs [])]),(.box 6,[i6 z12,i6 z13,i6 z14,i6 z15,i6 z16,i6 z17,i6 z18,ts z19])]
def mW (i:Int) (v1:List Ap) (j:Bool) (y1:Int) (a:Int) (b:Int) (c:Int) (d:Int) (e:Int) (f:Int) (g:Int) (h:ByteArray) (x1:Ap) (z20:Bool):St:=AA [(1,(I i)),(4,(pb 4)),(6,(pb 6)),(7,(B j)),(9,(pb 9)),(11,(.one (G5 v1))),(12,(I (ln v1))),(13,(I y1)),(40,(B z20))] [(.box 4,[i6 0,i6 0,i6 0,i6 0,i6 0,i6 0,i6 0,ts (bs [])]),(.box 6,[i6 a,i6 b,i6 c,i6 d,i6 e,i6 f,i6 g,ts h]),(.box 9,[i6 x1.Block,i6 x1.Leaf,i6 x1.Page.Kind,i6 x1.Page.Seq,i6 x1.Page.Tx,i6 x1.Page.Part,i6 x1.Page.Count,ts x1.Page.Text])]
theorem rH (xF:Flash) (b:Int) (r:Ap×Bool) (h:RP xF b=some r):AU Tryz.prog 44 [.sv (.agg (TR false xF)),.sv (I b)] (.tup [(.agg (c54 r.1)),(B r.2)]) (rg 2):=by
 refine gk Tryz.func44 rfl Tryz.ntmps44 (ws (gw 3 0 (gw 1 0 (gn 1 0 (Wp.seq (ws (Ai 1 0 (RW.c 0 h (m6 _) (fun v1 gv1 h=>RW.q (Di EA v1) (gn 1 0 (BP h [1,4,6,7,11,12,13] [.box 4,.box 6] (fun s=>(mY b v1 s.1 s.2.1 s.2.2.1 s.2.2.2.1 s.2.2.2.2.1 s.2.2.2.2.2.1 s.2.2.2.2.2.2.1 s.2.2.2.2.2.2.2.1 s.2.2.2.2.2.2.2.2.1 s.2.2.2.2.2.2.2.2.2)) [4,6,7] [.box 4,.box 6] (fun s=>(mX s.1 s.2.1 s.2.2.1 s.2.2.2.1 s.2.2.2.2.1 s.2.2.2.2.2.1 s.2.2.2.2.2.2.1 s.2.2.2.2.2.2.2.1 s.2.2.2.2.2.2.2.2)) EG ?_ ?_)))))))))))
 ·rintro⟨m,y1,d,e,f,g,i,j,k,l⟩ o (h:IL b v1 m y1 d e f g i j k l=some o);refine ws (gn 1 0 (Wp.seq (wc h (fun h=>?_) (fun h=>?_))))
  ·refine Wp.skip (Wp.seq (Wp.block (ws (CU EA h (fun x1 gx1 h=>RW.q (Qz EA gx1 0 8) (gn 2 0 (Fk h [1,4,6,7,9,11,12,13,40] [.box 4,.box 6,.box 9] (fun a=>(mW b v1 m y1 d e f g i j k l x1 a)) (fun a h=>?_) (fun j1 h=>?_))))))))
   ·refine As (Ai 5 0 (AJ 21 h (fun h=>?_) (fun h=>?_)))
    ·refine Ai 7 0 (AJ 28 h (fun h=>?_) (fun h=>?_))
     ·refine Ai 3 0 (AJ 31 h (fun h=>?_) (fun h=>?_))
      ·exact gn 9 0 (jn h)
      exact gn 9 0 (jn h)
     exact gn 12 0 (jn h)
    exact gn 19 0 (jn h)
   refine wc h (fun h=>?_) (fun h=>?_)
   ·exact As (gn 3 0 (As (gn 2 0 (jl h))))
   exact Wp.skip (As (gn 2 0 (jl h)))
  exact Wp.exit (jv h)
 intro v2 h E hE;exact AX hE (ws (gn 4 0 (Wp.ret (rr h▸rq))))
end Go.TI
