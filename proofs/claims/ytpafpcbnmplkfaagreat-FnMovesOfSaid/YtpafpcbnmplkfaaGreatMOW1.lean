/- That they compute it. No condition. -/
import Derived.Test.YtpafpcbnmplkfaaGreatMOW0
set_option linter.unusedVariables false
set_option linter.unusedSimpArgs false
namespace Go.TI
open Go Go.Proofs
set_option maxRecDepth 100000
def ZU (xS:ByteArray) (z1:List Be) (z2:Int):St:=AA [(0,(Y xS)),(3,(.one (Qk z1))),(4,(I z2))] []
def ZT (z3:List Be):St:=AA [(3,(.one (Qk z3)))] []
def ZS (xS:ByteArray) (a:List Be) (b:Int) (z4:Int) (z5:Int) (z6:Int):St:=AA [(0,(Y xS)),(3,(.one (Qk a))),(4,(I b)),(5,(I z4)),(6,(I z5)),(7,(I z6))] []
def ZR (xS:ByteArray) (a:List Be) (b:Int) (z7:Int) (z8:Int):St:=AA [(0,(Y xS)),(3,(.one (Qk a))),(4,(I b)),(5,(I z7)),(6,(I z8))] []
def ZQ (xS:ByteArray) (d:List Be) (e:Int) (a:Int) (b:Int) (c:Int) (v1:Int) (z9:Bool):St:=AA [(0,(Y xS)),(3,(.one (Qk d))),(4,(I e)),(5,(I a)),(6,(I b)),(7,(I c)),(8,(I v1)),(35,(B z9))] []
def ZP (xS:ByteArray) (a:List Be) (b:Int) (z10:Bool):St:=AA [(0,(Y xS)),(3,(.one (Qk a))),(4,(I b)),(9,(I (sb (ln a) 1))),(72,(B z10))] []
theorem gT (xS:ByteArray) (r:List Be) (h:Kr xS=some r):AP Tryz.prog 197 [.sv (Y xS)] (.one (Qk r)) (rg 1):=by
 refine gk Tryz.func197 rfl Tryz.ntmps197 (ws (gw 1 0 (gn 2 2 (Wp.seq (ws (gn 3 0 (wc h (λh=>?_) (λh=>?_))))))))
 ·exact ws (gn 2 2 (Wp.ret (rr h▸rq)))
 refine Wp.skip (ws (gn 1 0 (sl1 h [0,3,4] [] (λs=>(ZU xS s.1 s.2)) [3] [] (λs=>(ZT s)) ?_ (λv3 h=>?_))))
 ·rintro⟨b,d⟩ o (h:Cx xS b d=some o);refine Wp.seq (ws (gn 4 0 (wc h (λh=>?_) (λh=>?_))))
  ·refine Wp.skip (Wp.block (ws (gw 1 0 (gn 1 0 (Wp.seq (ws (gn 3 0 (BM h [0,3,4,5,6,7] [] (λs=>(ZS xS b d s.1 s.2.1 s.2.2)) [0,3,4,5,6] [] (λs=>(ZR xS b d s.1 s.2)) Eu ?_ ?_))))))))
   ·rintro⟨e,f,g⟩ o (h:Ex xS d e f g=some o);refine Wp.seq (ws (gn 2 0 (wc h (λh=>?_) (λh=>?_))))
    ·refine Wp.skip (Wp.seq (Wp.block (ws (Ai 3 0 (RW.c 0 h (gK _ _ _) (λv1 gv1 h=>gn 1 0 (Fp h [0,3,4,5,6,7,8,35] [] (λa=>(ZQ xS b d e f g v1 a)) (λa h=>?_) (λj1 h=>?_))))))))
     ·refine Au (Ai 3 0 (AM 31 h (λh=>?_) (λh=>?_)))
      ·exact gn 4 0 (jn h)
      exact gn 4 0 (jn h)
     refine wc h (λh=>?_) (λh=>?_)
     ·exact ws (gn 2 0 (Au (gn 4 0 (Au (gn 3 0 (jl h))))))
     exact Wp.skip (Au (gn 3 0 (jl h)))
    exact Wp.exit (jv h)
   intro v2 h E hE;refine AY hE (Wp.seq (ws (gn 2 0 (wc h (λh=>?_) (λh=>?_)))))
   ·exact ws (Ai 5 0 (bd h λq1 gq1 h=>CM (Dm MM (λ_=>rfl) b gq1) (gw 1 1 (gn 4 0 (Wp.exit (jl h))))))
   refine Wp.skip (ws (Ai 1 0 (RW.q (CT MM b) (gn 2 0 (Wp.seq (Fp h [0,3,4,9,72] [] (λa=>(ZP xS b d a)) (λa h=>?_) (λj2 h=>?_)))))))
   ·refine Au (Ai 3 0 (AM 56 h (λh=>?_) (λh=>?_)))
    ·refine Ai 2 0 (CG MM h (λx1 gx1 h=>RW.q (DH MM gx1 0 0) (RW.q (CK MM gx1 0) (Ai 3 0 (AM 64 h (λh=>?_) (λh=>?_))))))
     ·exact Ai 2 0 (CG MM h (λx2 gx2 h=>RW.q (DH MM gx2 0 2) (RW.q (CK MM gx2 2) (gn 3 0 (jn h)))))
     exact gn 8 0 (jn h)
    exact gn 16 0 (jn h)
   refine wc h (λh=>?_) (λh=>?_)
   ·exact Vh 15 mixed (DI 4 (bd h λx3 gx3 h=>SW.q (Js MM gx3) (SW.q (DH MM gx3 0 2) (SW.q (CK MM gx3 2) (DI 4 (bd h λx4 gx4 h=>SW.q (VQ gx4) (bd h λx5 gx5 h=>SW.q (Fj gx5) (bd h λx6 gx6 h=>SW.q (Js MM gx6) (SW.q (DH MM gx6 0 2) (SW.nil (CM (MY MM gx6 2 0 (Be.mk x6.Back x6.Size x5)) (RW.nil (Au (gn 3 0 (jl h)))))))))))))))
   exact Au (Ai 5 0 (bd h λx7 gx7 h=>RW.q (VQ gx7) (Ai 2 0 (bd h λq2 gq2 h=>CM (Dm MM (λ_=>rfl) b gq2) (gn 1 1 (Au (gn 3 0 (jl h))))))))
  exact Wp.exit (jv h)
 exact ws (gn 2 2 (Wp.ret (rr h▸rq)))
def aH (xS:ByteArray) (v1:List Be) (z1:ByteArray) (z2:Int):St:=AA [(0,(Y xS)),(4,(.one (Qk v1))),(5,(Y z1)),(6,(I z2))] []
def aG (xS:ByteArray) (z3:ByteArray):St:=AA [(0,(Y xS)),(5,(Y z3))] []
theorem SH (xS:ByteArray) (r:ByteArray×Bool) (h:EQ xS=some r):AP Tryz.prog 168 [.sv (Y xS)] (.tup [(Y r.1),(B r.2)]) (rg 1):=by
 refine gk Tryz.func168 rfl Tryz.ntmps168 (ws (gn 2 0 (Wp.seq (ws (gn 3 0 (wc h (λh=>?_) (λh=>?_)))))))
 ·exact ws (gn 2 0 (Wp.ret (rr h▸rq)))
 refine Wp.skip (ws (Ai 1 0 (RW.c 0 h (gT _) (λv1 gv1 h=>gw 1 1 (gn 1 0 (Wp.seq (ws (gn 1 0 (BM h [0,4,5,6] [] (λs=>(aH xS v1 s.1 s.2)) [0,5] [] (λs=>(aG xS s)) Eu ?_ ?_)))))))))
 ·rintro⟨a,b⟩ o (h:E0 v1 a b=some o);refine Wp.seq (ws (Ai 2 0 (RW.q (CT MM v1) (gn 1 0 (wc h (λh=>?_) (λh=>?_))))))
  ·refine Wp.skip (Wp.seq (Wp.block (ws (Ai 2 0 (CG MM h (λx1 gx1 h=>RW.q (MW MM gx1 0 3) (gw 2 0 (gn 3 0 (wc h (λh=>?_) (λh=>?_))))))))))
   ·exact Au (Ai 6 0 (RW.q (tW (f:=c5) (λ_=>rfl) [(IntKind.u8.wrap (FJ x1.Text))]) (bd h λx2 gx2 h=>RW.q (Fj gx2) (Ai 2 0 (bd h λx3 gx3 h=>RW.q (Fj gx3) (gn 1 0 (Au (gn 3 0 (jl h)))))))))
   exact Au (Ai 9 0 (RW.q (tW (f:=c5) (λ_=>rfl) [(IntKind.u8.wrap (ad 128 x1.Size)),(IntKind.u8.wrap x1.Back)]) (bd h λx4 gx4 h=>RW.q (Fj gx4) (gn 1 0 (Au (gn 3 0 (jl h)))))))
  exact Wp.exit (jv h)
 intro v2 h E hE;refine AY hE (Wp.seq (ws (gn 6 0 (wc h (λh=>?_) (λh=>?_)))))
 ·exact ws (Ai 1 0 (bd h λx5 gx5 h=>RW.q (Fj gx5) (gn 2 0 (Wp.ret (rr h▸rq)))))
 exact Wp.skip (ws (gn 3 0 (Wp.ret (rr h▸rq))))
def V6 (xT:ByteArray) (z1:ByteArray):St:=AA [(0,(Y xT)),(4,(Y z1))] []
def V5 (j1:ByteArray) (z2:Bool):St:=AA [(4,(Y j1)),(48,(B z2))] []
theorem Xw (xT:ByteArray) (r:ByteArray×Bool) (h:FY xT=some r):AP Tryz.prog 165 [.sv (Y xT)] (.tup [(Y r.1),(B r.2)]) (rg 1):=by
 refine gk Tryz.func165 rfl Tryz.ntmps165 (ws (gn 2 0 (Wp.seq (ws (gn 3 0 (wc h (λh=>?_) (λh=>?_)))))))
 ·exact ws (gn 2 0 (Wp.ret (rr h▸rq)))
 refine Wp.skip (ws (Ai 1 0 (bd h λx1 gx1 h=>RW.q (VQ gx1) (gn 1 0 (Wp.seq (ws (Ai 1 0 (bd h λx2 gx2 h=>RW.q (psx gx2) (gn 1 0 (AAp h [0,4] [] (λa=>(V6 xT a)) ?_ ?_))))))))))
 ·intro a h b;refine wc h (λh=>?_) (λh=>?_)
  ·refine ws (Ai 1 0 (bd h λx3 gx3 h=>RW.q (VQ gx3) (RW.c 0 h (ZG _) (λv1 gv1 h=>gw 5 9 (Ai 1 0 (RW.c 0 h (gs (ca (co (cs (AFW _))) rfl) (pN _)) (λv2 gv2 h=>gn 5 1 (Wp.seq (ws (Ai 3 0 (AM 32 h (λh=>?_) (λh=>?_)))))) (hc:=(.inr (λv=>rfl)))))))))
   ·exact gn 3 0 (wt (ws (gn 2 0 (Wp.ret (rr (jr h b)▸rq)))))
   refine gn 3 0 (wc h (λh=>?_) (λh=>?_))
   ·exact ws (gn 2 0 (Wp.ret (rr (jr h b)▸rq)))
   exact Wp.skip (Au (gn 2 0 (jm h)))
  exact Wp.skip (jm h)
 intro j1 h E hE;refine AY hE (ws (Ai 1 0 (RW.c 0 h (SH _) (λv3 gv3 h=>gn 5 1 (Wp.seq (Fp h [4,48] [] (λa=>(V5 j1 a)) (λa h=>?_) (λj2 h=>?_)))))))
 ·refine Au (Ai 3 0 (AM 44 h (λh=>?_) (λh=>?_)))
  ·exact gn 4 0 (jn h)
  exact gn 4 0 (jn h)
 refine wc h (λh=>?_) (λh=>?_)
 ·exact ws (gn 2 0 (Wp.ret (rr h▸rq)))
 exact Wp.skip (ws (gn 3 0 (Wp.ret (rr h▸rq))))
theorem U8 (b:List Al) (a:Int) (r:ByteArray×Bool) (h:NT b a=some r):AP Tryz.prog 95 [.sv (.one (I5 b)),.sv (I a)] (.tup [(Y r.1),(B r.2)]) (rg 2):=by
 refine gk Tryz.func95 rfl Tryz.ntmps95 (ws (gw 2 0 (Ai 2 0 (RW.c 0 h (Z7 _ _) (λv1 gv1 h=>gn 6 1 (Wp.seq (ws (gn 2 0 (wc h (λh=>?_) (λh=>?_))))))))))
 ·exact ws (gn 2 0 (Wp.ret (rr h▸rq)))
 exact Wp.skip (ws (Ai 3 0 (RW.c 0 h (Xw _) (λv2 gv2 h=>gn 4 0 (Wp.ret (rr h▸rq))))))
def gF (a:List Al) (b:List Int) (c:ByteArray) (z1:Int):St:=AA [(0,(.one (I5 a))),(1,(.one (QP b))),(2,(Y c)),(7,(I z1))] []
def gE:St:=AA [] []
def gD (a:List Al) (b:List Int) (c:ByteArray) (d:Int) (z2:Bool):St:=AA [(0,(.one (I5 a))),(1,(.one (QP b))),(2,(Y c)),(7,(I d)),(30,(B z2))] []
theorem oM (d:List Al) (b:List Int) (e:ByteArray) (r:Int) (h:TB d b e=some r):AP Tryz.prog 196 [.sv (.one (I5 d)),.sv (.one (QP b)),.sv (Y e)] (I r) (rg 3):=by
 refine gk Tryz.func196 rfl Tryz.ntmps196 (ws (gn 1 0 (Wp.seq (ws (gn 1 0 (Er h [0,1,2,7] [] (λs=>(gF d b e s)) [] [] (λ_=>gE) Eu ?_ ?_))))))
 ·rintro f o (h:If d b e f=some o) hk1;refine Wp.seq (ws (Ai 2 0 (RW.q (CT k3 b) (gn 1 0 (wc h (λh=>?_) (λh=>?_))))))
  ·refine Wp.skip (Wp.seq (Wp.block (ws (Ai 3 0 (CG k3 h (λx1 gx1 h=>RW.q (CK k3 gx1 0) (RW.c 0 h (U8 _ _) (λv1 gv1 h=>gn 5 1 (Fp h [0,1,2,7,30] [] (λa=>(gD d b e f a)) (λa h=>?_) (λj1 h=>?_))))))))))
   ·refine Au (Ai 2 0 (AM 26 h (λh=>?_) (λh=>?_)))
    ·exact gn 4 0 (jn h)
    exact gn 4 0 (jn h)
   refine wc h (λh=>?_) (λh=>?_)
   ·exact ws (Ai 2 0 (CG k3 h (λx2 gx2 h=>RW.q (CK k3 gx2 0) (gn 1 0 (Wp.ret (rr (jo h hk1)▸rq))))))
   exact Wp.skip (Au (gn 3 0 (jl h)))
  exact Wp.exit (jx h)
 intro v2 h E hE;exact AY hE (ws (gn 1 0 (Wp.ret (rr h▸rq))))
theorem jI (xF:Flash) (a:List Int) (b:ByteArray) (r:Int) (h:OL xF a b=some r):AP Tryz.prog 167 [.sv (.agg (NK false xF)),.sv (.one (QP a)),.sv (Y b)] (I r) (rg 3):=by
 exact gk Tryz.func167 rfl Tryz.ntmps167 (ws (gw 2 0 (Ai 1 0 (RW.c 0 h (HH _) (λv1 gv1 h=>Ai 2 0 (RW.c 0 h (gs (ca (co (cs (WV _))) rfl) (oM _ _ _)) (λv2 gv2 h=>gn 1 0 (Wp.ret (rr h▸rq))) (hc:=(.inr (λv=>rfl)))))))))
def pM (xD:AE) (xQ:Vp) (v2:Int) (z1:Bool):St:=AA [(2,(pb 2)),(3,(pb 3)),(7,(.one (EC []))),(8,(B (decide (v2>=0)))),(29,(B z1))] [(.box 2,[BL xD.Flash.Blocks,DN xD.Store.Vols,BP xD.Store.Arena.Knots,i6 xD.Store.Next,i6 xD.Seq,i6 xD.Tx,i6 xD.Base]),(.box 3,[i6 xQ.Kind,i6 xQ.Vol,i6 xQ.Sector,i6 xQ.Of,ts xQ.Text])]
def pL (xD:AE) (xQ:Vp) (z2:Bool):St:=AA [(2,(pb 2)),(3,(pb 3)),(7,(.one (EC []))),(42,(B z2))] [(.box 2,[BL xD.Flash.Blocks,DN xD.Store.Vols,BP xD.Store.Arena.Knots,i6 xD.Store.Next,i6 xD.Seq,i6 xD.Tx,i6 xD.Base]),(.box 3,[i6 xQ.Kind,i6 xQ.Vol,i6 xQ.Sector,i6 xQ.Of,ts xQ.Text])]
def pK (xQ:Vp) (z3:Int) (z4:ByteArray):St:=AA [(3,(pb 3)),(9,(I z3)),(10,(Y z4))] [(.box 3,[i6 xQ.Kind,i6 xQ.Vol,i6 xQ.Sector,i6 xQ.Of,ts xQ.Text])]
set_option maxHeartbeats 4000000 in
theorem X8 (xD:AE) (xQ:Vp) (r:List C3×ByteArray×Int) (h:MB xD xQ=some r):AP Tryz.prog 99 [.sv (.agg (Sl false xD)),.sv (.agg (AEk xQ))] (.tup [(.one (EC r.1)),(Y r.2.1),(I r.2.2)]) (rg 2):=by
 refine gk Tryz.func99 rfl Tryz.ntmps99 (ws (gw 5 0 (gn 2 2 (Wp.seq (ws (Ai 1 0 (RW.c 0 h (AAD _) (λv1 gv1 h=>gn 1 0 (wc h (λh=>?_) (λh=>?_))))))))))
 ·exact ws (gn 4 2 (Wp.ret (rr h▸rq)))
 refine Wp.skip (ws (Ai 4 0 (RW.c 0 h (Km _ _) (λv2 gv2 h=>gn 2 0 (Wp.seq (Fp h [2,3,7,8,29] [.box 2,.box 3] (λa=>(pM xD xQ v2 a)) (λa h=>?_) (λj1 h=>?_)))))))
 ·refine Au (Ai 4 0 (AM 25 h (λh=>?_) (λh=>?_)))
  ·exact gn 4 0 (jn h)
  exact gn 4 0 (jn h)
 refine wc h (λh=>?_) (λh=>?_)
 ·refine Wp.seq (ws (gn 1 0 (wc h (λh=>?_) (λh=>?_))))
  ·exact ws (gn 4 2 (Wp.ret (rr h▸rq)))
  refine Wp.skip (Wp.seq (Fp h [2,3,7,42] [.box 2,.box 3] (λa=>(pL xD xQ a)) (λa h=>?_) (λj2 h=>?_)))
  ·refine Au (Ai 4 0 (AM 35 h (λh=>?_) (λh=>?_)))
   ·exact Ai 4 0 (RW.c 0 h (Km _ _) (λv3 gv3 h=>gn 2 0 (jn h)))
   exact gn 7 0 (jn h)
  refine wc h (λh=>?_) (λh=>?_)
  ·exact ws (gn 4 2 (Wp.ret (rr h▸rq)))
  refine Wp.skip (Wp.seq (ws (Ai 3 0 (RW.q (CT E4 xD.Store.Vols) (gn 1 0 (wc h (λh=>?_) (λh=>?_)))))))
  ·exact ws (gn 4 2 (Wp.ret (rr h▸rq)))
  exact Wp.skip (ws (gn 9 64 (Wp.ret (rr h▸rq))))
 refine Wp.skip (Wp.seq (ws (gn 2 0 (wc h (λh=>?_) (λh=>?_)))))
 ·exact ws (gn 4 2 (Wp.ret (rr h▸rq)))
 refine Wp.skip (Wp.seq (ws (gn 2 0 (Wp.block (ws (gn 2 0 (wc h (λh=>?_) (λh=>?_))))))))
 ·refine Wp.seq (DM [] mixed (λ_ _=>nP) (Bn [0,1,2,3,5,6] 0 (Br 4 (KB.c 0 h (OI _) (λv4 gv4 h=>Br 7 (KB.c 0 h (gs (ca rfl (ca (co (cs (tV _))) rfl)) (jI _ _ _)) (λv5 gv5 h=>Bn [8] 0 (Bg (ws (gn 1 0 (Wp.seq (ws (gn 2 0 (Hc h [3,9,10] [.box 3] (λa=>(pK xQ a.1 a.2)) ?_ ?_)))))))) (hc:=(.inr (λv=>rfl)))))))))
  ·intro a h;refine wc h (λh=>?_) (λh=>?_)
   ·exact ws (gn 4 0 (Au (Ai 2 0 (RW.c 0 h (SH _) (λv6 gv6 h=>gn 4 1 (jn h))))))
   exact Wp.skip (jn h)
  intro j3 h E hE;exact AY hE (ws (gn 11 256 (Wp.ret (rr h▸rq))))
 refine ws (gn 2 0 (wc h (λh=>?_) (λh=>?_)))
 ·exact ws (gn 9 64 (Wp.ret (rr h▸rq)))
 refine ws (gn 2 0 (wc h (λh=>?_) (λh=>?_)))
 ·exact ws (gn 7 16 (Wp.ret (rr h▸rq)))
 exact Wp.skip (ws (gn 4 2 (Wp.ret (rr h▸rq))))
theorem qE (xS:Store) (b:Int) (a:Int) (r:Int) (h:NW xS b a=some r):AP Tryz.prog 94 [.sv (.agg (Sm false xS)),.sv (I b),.sv (I a)] (I r) (rg 3):=by
 refine gk Tryz.func94 rfl Tryz.ntmps94 (ws (gw 2 0 (Ai 2 0 (RW.c 0 h (Km _ _) (λv1 gv1 h=>gn 1 0 (Wp.seq (ws (gn 2 0 (wc h (λh=>?_) (λh=>?_))))))))))
 ·exact ws (gn 1 0 (Wp.ret (rr h▸rq)))
 exact Wp.skip (Wp.seq (Vh 9 mixed (DI 5 (bd h λx1 gx1 h=>SW.q (Js E4 gx1) (SW.q (DH E4 gx1 0 1) (SW.q (CK E4 gx1 1) (DI 1 (SW.nil (RW.c 0 h (dJ _ _ _) (λv2 gv2 h=>gn 1 0 (Wp.ret (rr h▸rq))))))))))))
theorem oJ (b:List Al) (xS:Store) (d:Int) (a:Int) (r:ByteArray×Bool) (h:Mj b xS d a=some r):AP Tryz.prog 55 [.sv (.one (I5 b)),.sv (.agg (Sm false xS)),.sv (I d),.sv (I a)] (.tup [(Y r.1),(B r.2)]) (rg 4):=by
 refine gk Tryz.func55 rfl Tryz.ntmps55 (ws (gn 3 0 (Wp.seq (ws (Ai 2 0 (RW.c 0 h (Km _ _) (λv1 gv1 h=>gn 1 0 (wc h (λh=>?_) (λh=>?_)))))))))
 ·exact ws (gn 2 0 (Wp.ret (rr h▸rq)))
 refine Wp.skip (ws (Ai 3 0 (RW.c 0 h (qE _ _ _) (λv2 gv2 h=>gn 1 0 (Wp.seq (ws (gn 2 0 (wc h (λh=>?_) (λh=>?_)))))))))
 ·exact ws (gn 2 0 (Wp.ret (rr h▸rq)))
 exact Wp.skip (ws (Ai 2 0 (RW.c 0 h (U8 _ _) (λv3 gv3 h=>gn 4 0 (Wp.ret (rr h▸rq))))))
set_option maxHeartbeats 4000000 in
theorem vC (xD:AE) (b:Int) (a:Int) (r:ByteArray×Bool) (h:X7 xD b a=some r):AP Tryz.prog 20 [.sv (.agg (Sl false xD)),.sv (I b),.sv (I a)] (.tup [(Y r.1),(B r.2)]) (rg 3):=by
 exact gk Tryz.func20 rfl Tryz.ntmps20 (ws (gn 3 0 (Wp.seq (DM [] mixed (λ_ _=>nP) (Bn [0,1,3,4,5,6] 0 (Br 2 (KB.c 0 h (HH _) (λv1 gv1 h=>Br 7 (KB.c 0 h (gs (ca (co (cs (WV _))) rfl) (oJ _ _ _ _)) (λv2 gv2 h=>IY 8 (IY 9 (Bn [10,11] 0 (Bg (Wp.ret (rr h▸rq)))))) (hc:=(.inr (λv=>rfl))))))))))))
def pF (xF:Flash) (z1:Int) (z2:Int):St:=AA [(1,(pb 1)),(3,(I z1)),(4,(I z2))] [(.box 1,[BL xF.Blocks])]
def pE (z3:Int):St:=AA [(3,(I z3))] []
def pD (xF:Flash) (a:Int) (z4:Int) (z5:Int):St:=AA [(1,(pb 1)),(3,(I z4)),(4,(I a)),(5,(I z5))] [(.box 1,[BL xF.Blocks])]
def pC (xF:Flash) (a:Int) (z6:Int):St:=AA [(1,(pb 1)),(3,(I z6)),(4,(I a))] [(.box 1,[BL xF.Blocks])]
theorem RH (xF:Flash) (r:Int) (h:MA xF=some r):AP Tryz.prog 100 [.sv (.agg (NK false xF))] (I r) (rg 1):=by
 refine gk Tryz.func100 rfl Tryz.ntmps100 (ws (gw 2 0 (gn 1 0 (Wp.seq (ws (gn 1 0 (BM h [1,3,4] [.box 1] (λs=>(pF xF s.1 s.2)) [3] [] (λs=>(pE s)) Eu ?_ ?_)))))))
 ·rintro⟨b,a⟩ o (h:Lg xF b a=some o);refine Wp.seq (ws (Ai 3 0 (RW.q (CT (BF false) xF.Blocks) (gn 1 0 (wc h (λh=>?_) (λh=>?_))))))
  ·refine Wp.skip (Wp.seq (Wp.block (ws (gn 1 0 (BM h [1,3,4,5] [.box 1] (λs=>(pD xF a s.1 s.2)) [1,3,4] [.box 1] (λs=>(pC xF a s)) Eu ?_ ?_)))))
   ·rintro⟨c,d⟩ o (h:Lf xF a c d=some o);refine Wp.seq (ws (Ai 4 0 (CG (BF false) h (λx1 gx1 h=>RW.q (DH (BF false) gx1 0 2) (RW.q (CK (BF false) gx1 2) (RW.q (CT DA x1.Leaves) (gn 1 0 (wc h (λh=>?_) (λh=>?_)))))))))
    ·refine Wp.skip (Wp.seq (Wp.block (ws (Ai 3 0 (CG (BF false) h (λx2 gx2 h=>RW.q (DH (BF false) gx2 0 0) (RW.q (CK (BF false) gx2 0) (Ai 2 0 (AM 31 h (λh=>?_) (λh=>?_))))))))))
     ·refine Ai 3 0 (CG (BF false) h (λx3 gx3 h=>RW.q (DH (BF false) gx3 0 2) (RW.q (CK (BF false) gx3 2) (Ai 1 0 (CG DA h (λx4 gx4 h=>RW.q (DH DA gx4 0 0) (RW.q (CK DA gx4 0) (gn 2 0 (wc h (λh=>?_) (λh=>?_))))))))))
      ·exact Au (gn 3 0 (Au (gn 3 0 (jl h))))
      exact Wp.skip (Au (gn 3 0 (jl h)))
     exact gn 12 0 (wf (Wp.skip (Au (gn 3 0 (jl h)))))
    exact Wp.exit (jv h)
   intro v1 h E hE;exact AY hE (Au (gn 3 0 (jl h)))
  exact Wp.exit (jv h)
 intro v2 h E hE;exact AY hE (ws (gn 2 0 (Wp.ret (rr h▸rq))))
def Xh (a:List Al) (b:List Int) (c:Int) (z1:List Bool) (z2:Int):St:=AA [(0,(.one (I5 a))),(1,(.one (QP b))),(2,(I c)),(7,(.one (PD z1))),(8,(I z2))] []
def Xg (a:List Al) (b:List Int) (z3:List Bool):St:=AA [(0,(.one (I5 a))),(1,(.one (QP b))),(7,(.one (PD z3)))] []
def Xf (a:List Al) (b:List Int) (z4:List Bool) (z5:Int):St:=AA [(0,(.one (I5 a))),(1,(.one (QP b))),(7,(.one (PD z4))),(9,(I z5))] []
def Xe (z6:List Bool):St:=AA [(7,(.one (PD z6)))] []
def Xd (a:List Al) (b:List Int) (c:Int) (z7:List Bool) (z8:Int):St:=AA [(0,(.one (I5 a))),(1,(.one (QP b))),(7,(.one (PD z7))),(9,(I c)),(10,(I z8))] []
def Xc (a:List Al) (b:List Int) (c:Int) (z9:List Bool):St:=AA [(0,(.one (I5 a))),(1,(.one (QP b))),(7,(.one (PD z9))),(9,(I c))] []
def Xb (a:List Al) (b:List Int) (d:Int) (c:List Bool) (e:Int) (z10:Bool):St:=AA [(0,(.one (I5 a))),(1,(.one (QP b))),(7,(.one (PD c))),(9,(I d)),(10,(I e)),(72,(B z10))] []
theorem KN (b:List Al) (c:List Int) (d:Int) (r:List Bool) (h:GH b c d=some r):AP Tryz.prog 33 [.sv (.one (I5 b)),.sv (.one (QP c)),.sv (I d)] (.one (PD r)) (rg 3):=by
 refine gk Tryz.func33 rfl Tryz.ntmps33 (ws (gw 1 0 (Ai 1 0 (RW.q (CT Et b) (bd h λq1 gq1 h=>CM (fmk k4 false gq1) (gn 1 1 (Wp.seq (ws (gn 1 0 (BM h [0,1,2,7,8] [] (λs=>(Xh b c d s.1 s.2)) [0,1,7] [] (λs=>(Xg b c s)) Eu ?_ ?_))))))))))
 ·rintro⟨g,k⟩ o (h:HD b d g k=some o);refine Wp.seq (ws (Ai 2 0 (RW.q (CT Et b) (gn 1 0 (wc h (λh=>?_) (λh=>?_))))))
  ·refine Wp.skip (Wp.seq (Wp.block (Au (Ai 4 0 (CG Et h (λx1 gx1 h=>RW.q (DH Et gx1 0 2) (RW.q (DH Et gx1 2 2) (RW.q (CK Et gx1 2) (Ai 2 0 (AM 29 h (λh=>?_) (λh=>?_)))))))))))
   ·exact Ai 2 0 (CG Et h (λx2 gx2 h=>RW.q (DH Et gx2 0 2) (RW.q (DH Et gx2 2 4) (RW.q (CK Et gx2 4) (Ai 3 0 (CG k4 h (λx3 gx3 h=>CM (MY k4 gx3 0 0 (decide (x2.Page.Tx>=d))) (RW.nil (Au (gn 3 0 (jl h)))))))))))
   exact Ai 9 0 (CG k4 h (λx4 gx4 h=>CM (MY k4 gx4 0 0 false) (RW.nil (Au (gn 3 0 (jl h))))))
  exact Wp.exit (jv h)
 intro v1 h E hE;refine AY hE (Wp.seq (ws (gn 1 0 (BM h [0,1,7,9] [] (λs=>(Xf b c s.1 s.2)) [7] [] (λs=>(Xe s)) Eu ?_ ?_))))
 ·rintro⟨i,e⟩ o (h:HC b c i e=some o);refine Wp.seq (ws (Ai 2 0 (RW.q (CT k3 c) (gn 1 0 (wc h (λh=>?_) (λh=>?_))))))
  ·refine Wp.skip (Wp.seq (Wp.block (ws (Ai 1 0 (RW.q (CT Et b) (gn 2 0 (BM h [0,1,7,9,10] [] (λs=>(Xd b c e s.1 s.2)) [0,1,7,9] [] (λs=>(Xc b c e s)) Eu ?_ ?_)))))))
   ·rintro⟨f,j⟩ o (h:Ft b c e f j=some o);refine Wp.seq (ws (gn 2 0 (wc h (λh=>?_) (λh=>?_))))
    ·refine Wp.skip (Wp.seq (Wp.block (Fp h [0,1,7,9,10,72] [] (λa=>(Xb b c e f j a)) (λa h=>?_) (λj1 h=>?_))))
     ·refine Lw mixed (DI 2 (bd h λx5 gx5 h=>SW.q (Js Et gx5) (SW.q (DH Et gx5 0 2) (SW.q (DH Et gx5 2 2) (SW.q (CK Et gx5 2) (DI 2 (fB 60 h (λh=>?_) (λh=>?_))))))))
      ·exact DI 2 (bd h λx6 gx6 h=>SW.q (Js Et gx6) (SW.q (DH Et gx6 0 2) (SW.q (DH Et gx6 2 4) (SW.q (CK Et gx6 4) (DI 2 (bd h λx7 gx7 h=>SW.q (Js k3 gx7) (SW.q (CK k3 gx7 0) (DI 2 (SW.nil (jn h))))))))))
      exact DI 12 (SW.nil (jn h))
     refine wc h (λh=>?_) (λh=>?_)
     ·exact ws (Ai 2 0 (CG k4 h (λx8 gx8 h=>CM (MY k4 gx8 0 0 true) (RW.nil (Au (gn 1 0 (Au (gn 3 0 (jl h)))))))))
     exact Wp.skip (Au (gn 3 0 (jl h)))
    exact Wp.exit (jv h)
   intro v2 h E hE;exact AY hE (Au (gn 3 0 (jl h)))
  exact Wp.exit (jv h)
 intro v3 h E hE;exact AY hE (ws (gn 2 2 (Wp.ret (rr h▸rq))))
def Z3 (xB:Block) (z1:Int):St:=AA [(1,(pb 1)),(3,(I z1))] [(.box 1,[tb xB.Bad,i6 xB.Wear,Nt xB.Leaves])]
def Z0:St:=AA [] []
theorem fZ (xB:Block) (r:Bool) (h:O9 xB=some r):AP Tryz.prog 88 [.sv (.agg (Tr false xB))] (B r) (rg 1):=by
 refine gk Tryz.func88 rfl Tryz.ntmps88 (ws (gn 2 0 (Wp.seq (ws (gn 1 0 (Er h [1,3] [.box 1] (λs=>(Z3 xB s)) [] [] (λ_=>Z0) Eu ?_ ?_))))))
 ·rintro a o (h:I9 xB a=some o) hk1;refine Wp.seq (ws (Ai 3 0 (RW.q (CT DA xB.Leaves) (gn 1 0 (wc h (λh=>?_) (λh=>?_))))))
  ·refine Wp.skip (Wp.seq (Wp.block (ws (Ai 3 0 (CG DA h (λx1 gx1 h=>RW.q (DH DA gx1 0 0) (RW.q (CK DA gx1 0) (gn 1 0 (wc h (λh=>?_) (λh=>?_))))))))))
   ·exact ws (gn 1 0 (Wp.ret (rr (jo h hk1)▸rq)))
   exact Wp.skip (Au (gn 3 0 (jl h)))
  exact Wp.exit (jx h)
 intro v1 h E hE;exact AY hE (ws (gn 1 0 (Wp.ret (rr h▸rq))))
def uM (b:List Al) (a:List Bool) (xB:Int) (z1:Int) (z2:Int):St:=AA [(0,(.one (I5 b))),(1,(.one (of4 a))),(2,(I xB)),(7,(I z1)),(8,(I z2))] []
def uL (z3:Int):St:=AA [(7,(I z3))] []
theorem TC (b:List Al) (a:List Bool) (xB:Int) (r:Int) (h:Ni b a xB=some r):AP Tryz.prog 58 [.sv (.one (I5 b)),.sv (.one (of4 a)),.sv (I xB)] (I r) (rg 3):=by
 refine gk Tryz.func58 rfl Tryz.ntmps58 (ws (gw 1 0 (gn 1 0 (Wp.seq (ws (gn 1 0 (BM h [0,1,2,7,8] [] (λs=>(uM b a xB s.1 s.2)) [7] [] (λs=>(uL s)) Eu ?_ ?_)))))))
 ·rintro⟨c,d⟩ o (h:M5 b a xB c d=some o);refine Wp.seq (ws (Ai 2 0 (RW.q (CT Et b) (gn 1 0 (wc h (λh=>?_) (λh=>?_))))))
  ·refine Wp.skip (Wp.seq (Wp.block (ws (Ai 2 0 (CG k4 h (λx1 gx1 h=>RW.q (CK k4 gx1 0) (Ai 1 0 (AM 19 h (λh=>?_) (λh=>?_)))))))))
   ·refine Ai 2 0 (CG Et h (λx2 gx2 h=>RW.q (DH Et gx2 0 0) (RW.q (CK Et gx2 0) (gn 3 0 (wc h (λh=>?_) (λh=>?_))))))
    ·exact Au (gn 3 0 (Au (gn 3 0 (jl h))))
    exact Wp.skip (Au (gn 3 0 (jl h)))
   exact gn 8 0 (wf (Wp.skip (Au (gn 3 0 (jl h)))))
  exact Wp.exit (jv h)
 intro v1 h E hE;exact AY hE (ws (gn 2 0 (Wp.ret (rr h▸rq))))
def VO (xD:AE) (v1:List Al) (v3:List Bool) (z1:List Int) (z2:Int):St:=AA [(1,(pb 1)),(3,(.one (GT v1))),(4,(.one (.view (.slot 17) 0 [] 0))),(5,(.one (EO z1))),(6,(I z2)),(17,(.one (PD v3)))] [(.box 1,[BL xD.Flash.Blocks,DN xD.Store.Vols,BP xD.Store.Arena.Knots,i6 xD.Store.Next,i6 xD.Seq,i6 xD.Tx,i6 xD.Base])]
def VN (z3:List Int):St:=AA [(5,(.one (EO z3)))] []
def VM (xD:AE) (v1:List Al) (v3:List Bool) (a:List Int) (b:Int) (z4:Bool):St:=AA [(1,(pb 1)),(3,(.one (GT v1))),(4,(.one (.view (.slot 17) 0 [] 0))),(5,(.one (EO a))),(6,(I b)),(17,(.one (PD v3))),(47,(B z4))] [(.box 1,[BL xD.Flash.Blocks,DN xD.Store.Vols,BP xD.Store.Arena.Knots,i6 xD.Store.Next,i6 xD.Seq,i6 xD.Tx,i6 xD.Base])]
theorem XT (xD:AE) (r:List Int) (h:LU xD=some r):AP Tryz.prog 45 [.sv (.agg (Sl false xD))] (.one (EO r)) (rg 1):=by
 refine gk Tryz.func45 rfl Tryz.ntmps45 (ws (gw 2 0 (Ai 2 0 (RW.c 0 h (HH _) (λv1 gv1 h=>gn 1 1 (Wp.seq (DM [] mixed (λ_ _=>nP) (Bn [0,1,2,4,5] 0 (Br 3 (KB.c 0 h (OI _) (λv2 gv2 h=>Br 6 (KB.c 0 h (gs (ca (co (cs (WV _))) (ca (co (cs (tV _))) rfl)) (KN _ _ _)) (λv3 gv3 h=>Bn [7] 0 (Bg (ws (gn 2 2 (Wp.seq (ws (gn 1 0 (BM h [1,3,4,5,6,17] [.box 1] (λs=>(VO xD v1 v3 s.1 s.2)) [5] [] (λs=>(VN s)) Eu ?_ ?_)))))))) (hc:=(.inr (λv=>by simp [BD,BQ,AR,BC,ns4,PD])))))))))))))))
 ·rintro⟨b,d⟩ o (h:FV xD v1 v3 b d=some o);refine Wp.seq (ws (Ai 4 0 (RW.q (CT (BF false) xD.Flash.Blocks) (gn 1 0 (wc h (λh=>?_) (λh=>?_))))))
  ·refine Wp.skip (Wp.seq (Wp.block (ws (Ai 4 0 (CG (BF false) h (λx1 gx1 h=>RW.q (MW (BF false) gx1 0 3) (gn 2 0 (Fp h [1,3,4,5,6,17,47] [.box 1] (λa=>(VM xD v1 v3 b d a)) (λa h=>?_) (λj1 h=>?_)))))))))
   ·refine Au (Ai 4 0 (AM 36 h (λh=>?_) (λh=>?_)))
    ·refine Ai 1 0 (RW.c 0 h (fZ _) (λv4 gv4 h=>Ai 3 0 (AM 41 h (λh=>?_) (λh=>?_))))
     ·exact Ai 3 0 (RW.c 0 h (gs (ca (co (cs (WV _))) (ca (co (cs (sh4 _))) rfl)) (TC _ _ _)) (λv5 gv5 h=>gn 2 0 (jn h)) (hc:=(.inr (λv=>rfl))))
     exact gn 6 0 (jn h)
    exact gn 11 0 (jn h)
   refine wc h (λh=>?_) (λh=>?_)
   ·exact Au (Ai 3 0 (bd h λq1 gq1 h=>CM (Dm k3 (λ_=>rfl) b gq1) (gn 1 1 (Au (gn 3 0 (jl h))))))
   exact Wp.skip (Au (gn 3 0 (jl h)))
  exact Wp.exit (jv h)
 intro v6 h E hE;exact AY hE (ws (gn 2 2 (Wp.ret (rr h▸rq))))
def Z6 (xD:AE) (v2:List Tx) (z1:Int):St:=AA [(1,(pb 1)),(3,(.one (bH v2))),(4,(I z1))] [(.box 1,[BL xD.Flash.Blocks,DN xD.Store.Vols,BP xD.Store.Arena.Knots,i6 xD.Store.Next,i6 xD.Seq,i6 xD.Tx,i6 xD.Base])]
def Z5:St:=AA [] []
theorem f0 (xD:AE) (r:Bool) (h:OA xD=some r):AP Tryz.prog 46 [.sv (.agg (Sl false xD))] (B r) (rg 1):=by
 refine gk Tryz.func46 rfl Tryz.ntmps46 (ws (gn 2 0 (Wp.seq (ws (gn 6 0 (wc h (λh=>?_) (λh=>?_)))))))
 ·exact ws (gn 1 0 (Wp.ret (rr h▸rq)))
 refine Wp.skip (ws (Ai 2 0 (RW.c 0 h (HH _) (λv1 gv1 h=>RW.c 0 h (gs (ca (co (cs (WV _))) rfl) (XP _)) (λv2 gv2 h=>gn 1 1 (Wp.seq (ws (gn 1 0 (Er h [1,3,4] [.box 1] (λs=>(Z6 xD v2 s)) [] [] (λ_=>Z5) Eu ?_ ?_))))) (hc:=(.inr (λv=>by simp [BD,BQ,AR,BC,AFh,bH])))))))
 ·rintro a o (h:Hd xD v2 a=some o) hk1;refine Wp.seq (ws (Ai 2 0 (RW.q (CT (Rq true) v2) (gn 1 0 (wc h (λh=>?_) (λh=>?_))))))
  ·refine Wp.skip (Wp.seq (Wp.block (Wp.seq (Lw mixed (DI 2 (bd h λx1 gx1 h=>SW.q (Js (Rq true) gx1) (SW.q (DH (Rq true) gx1 0 0) (SW.q (CK (Rq true) gx1 0) (DI 3 (SW.nil (wc h (λh=>?_) (λh=>?_))))))))))))
   ·refine ws (Ai 2 0 (CG (Rq true) h (λx2 gx2 h=>RW.q (DH (Rq true) gx2 0 2) (RW.q (CK (Rq true) gx2 2) (RW.q (AGL I7 x2.Recs (Rq true) gx2 2) (Ai 2 0 (AM 36 h (λh=>?_) (λh=>?_))))))))
    ·exact Ai 2 0 (CG (Rq true) h (λx3 gx3 h=>RW.q (DH (Rq true) gx3 0 2) (RW.q (CK (Rq true) gx3 2) (bd h λx4 gx4 h=>RW.q (AFc I7 gx4 (Rq true) gx3 2) (RW.q (DH I7 gx4 0 0 (hr:=pr2 0 (Rq true) gx3 2)) (RW.q (CK I7 gx4 0 (hr:=pr2 0 (Rq true) gx3 2)) (gn 3 0 (Wp.ret (rr (jo h hk1)▸rq)))))))))
    exact gn 11 0 (Wp.ret (rr (jo h hk1)▸rq))
   exact Wp.skip (Au (gn 3 0 (jl h)))
  exact Wp.exit (jx h)
 intro v3 h E hE;exact AY hE (ws (gn 1 0 (Wp.ret (rr h▸rq))))
def bG (xS:Store) (z1:List C3) (z2:Int):St:=AA [(1,(pb 1)),(3,(.one (EC z1))),(4,(I z2))] [(.box 1,[DN xS.Vols,BP xS.Arena.Knots,i6 xS.Next])]
def bF (z3:List C3):St:=AA [(3,(.one (EC z3)))] []
def bE (xS:Store) (a:Int) (v1:List Int) (z4:List C3) (z5:Int):St:=AA [(1,(pb 1)),(3,(.one (EC z4))),(4,(I a)),(5,(.one (EO v1))),(6,(I z5))] [(.box 1,[DN xS.Vols,BP xS.Arena.Knots,i6 xS.Next])]
def bD (xS:Store) (a:Int) (z6:List C3):St:=AA [(1,(pb 1)),(3,(.one (EC z6))),(4,(I a))] [(.box 1,[DN xS.Vols,BP xS.Arena.Knots,i6 xS.Next])]
theorem jS (xS:Store) (r:List C3) (h:Kx xS=some r):AP Tryz.prog 40 [.sv (.agg (Sm false xS))] (.one (EC r)) (rg 1):=by
 refine gk Tryz.func40 rfl Tryz.ntmps40 (ws (gw 2 0 (gn 5 16 (Wp.seq (ws (gn 1 0 (BM h [1,3,4] [.box 1] (λs=>(bG xS s.1 s.2)) [3] [] (λs=>(bF s)) Eu ?_ ?_)))))))
 ·rintro⟨a,d⟩ o (h:D9 xS a d=some o);refine Wp.seq (ws (Ai 3 0 (RW.q (CT E4 xS.Vols) (gn 1 0 (wc h (λh=>?_) (λh=>?_))))))
  ·refine Wp.skip (Wp.seq (Wp.block (ws (Ai 4 0 (CG E4 h (λx1 gx1 h=>RW.q (DH E4 gx1 0 0) (RW.q (CK E4 gx1 0) (Ai 2 0 (bd h λq1 gq1 h=>CM (Dm I7 (λ_=>rfl) a gq1) (gn 1 1 (Wp.seq (Vh 8 mixed (DI 5 (bd h λx2 gx2 h=>SW.q (Js E4 gx2) (SW.q (DH E4 gx2 0 1) (SW.q (CK E4 gx2 1) (SW.nil (RW.c 0 h (QI _ _) (λv1 gv1 h=>gw 1 1 (gn 1 0 (BM h [1,3,4,5,6] [.box 1] (λs=>(bE xS d v1 s.1 s.2)) [1,3,4] [.box 1] (λs=>(bD xS d s)) Eu ?_ ?_)))))))))))))))))))))
   ·rintro⟨b,e⟩ o (h:D8 xS d v1 b e=some o);refine Wp.seq (ws (Ai 2 0 (RW.q (CT k3 v1) (gn 1 0 (wc h (λh=>?_) (λh=>?_))))))
    ·refine Wp.skip (Wp.seq (Wp.block (ws (Ai 2 0 (CG k3 h (λx3 gx3 h=>RW.q (CK k3 gx3 0) (gn 1 0 (wc h (λh=>?_) (λh=>?_)))))))))
     ·exact DM [14] mixed (λ_ _=>nP) (Bn [0,1,2,3] 0 (bd h λx4 gx4 h=>KW.q 4 (Js E4 gx4) (KW.q 5 (DH E4 gx4 0 0) (KW.q 6 (CK E4 gx4 0) (Bn [7,8,9] 0 (bd h λx5 gx5 h=>KW.q 10 (Js k3 gx5) (KW.q 11 (CK k3 gx5 0) (Bn [12,13] 0 (Br 14 (bd h λq2 gq2 h=>Lz (Dm I7 (λ_=>rfl) b gq2) (Bn [15] 1 (Bg (Au (gn 3 0 (jl h)))))))))))))))
     exact Wp.skip (Au (gn 3 0 (jl h)))
    exact Wp.exit (jv h)
   intro v2 h E hE;exact AY hE (Au (gn 3 0 (jl h)))
  exact Wp.exit (jv h)
 intro v3 h E hE;exact AY hE (ws (gn 2 2 (Wp.ret (rr h▸rq))))
def XD (xF:Flash) (z1:Int):St:=AA [(1,(pb 1)),(3,(I z1))] [(.box 1,[BL xF.Blocks])]
def XC:St:=AA [] []
def XB (xF:Flash) (a:Int) (z2:Int) (z3:Int) (z4:Int):St:=AA [(1,(pb 1)),(3,(I a)),(4,(I z2)),(5,(I z3)),(6,(I z4))] [(.box 1,[BL xF.Blocks])]
def XA (xF:Flash) (a:Int) (z5:Int) (z6:Int):St:=AA [(1,(pb 1)),(3,(I a)),(4,(I z5)),(5,(I z6))] [(.box 1,[BL xF.Blocks])]
def X9 (xF:Flash) (a:Int) (z7:Bool):St:=AA [(1,(pb 1)),(3,(I a)),(54,(B z7))] [(.box 1,[BL xF.Blocks])]
theorem aI (xF:Flash) (r:Int) (h:Jj xF=some r):AP Tryz.prog 141 [.sv (.agg (NK false xF))] (I r) (rg 1):=by
 refine gk Tryz.func141 rfl Tryz.ntmps141 (ws (gn 2 0 (Wp.seq (ws (gn 1 0 (Er h [1,3] [.box 1] (λs=>(XD xF s)) [] [] (λ_=>XC) Eu ?_ ?_))))))
 ·rintro b o (h:D7 xF b=some o) hk1;refine Wp.seq (ws (Ai 3 0 (RW.q (CT (BF false) xF.Blocks) (gn 1 0 (wc h (λh=>?_) (λh=>?_))))))
  ·refine Wp.skip (Wp.seq (Wp.block (ws (gw 1 0 (gn 1 0 (Wp.seq (ws (gn 1 0 (BM h [1,3,4,5,6] [.box 1] (λs=>(XB xF b s.1 s.2.1 s.2.2)) [1,3,4,5] [.box 1] (λs=>(XA xF b s.1 s.2)) Eu ?_ ?_)))))))))
   ·rintro⟨c,d,e⟩ o (h:G0 xF b c d e=some o);refine Wp.seq (ws (Ai 4 0 (CG (BF false) h (λx1 gx1 h=>RW.q (DH (BF false) gx1 0 2) (RW.q (CK (BF false) gx1 2) (RW.q (CT DA x1.Leaves) (gn 1 0 (wc h (λh=>?_) (λh=>?_)))))))))
    ·refine Wp.skip (Wp.seq (Wp.block (ws (Ai 3 0 (CG (BF false) h (λx2 gx2 h=>RW.q (DH (BF false) gx2 0 2) (RW.q (CK (BF false) gx2 2) (Ai 1 0 (CG DA h (λx3 gx3 h=>RW.q (DH DA gx3 0 0) (RW.q (CK DA gx3 0) (gn 1 0 (wc h (λh=>?_) (λh=>?_))))))))))))))
     ·exact Au (gn 3 0 (Au (gn 3 0 (jl h))))
     exact Au (gn 3 0 (Au (gn 3 0 (jl h))))
    exact Wp.exit (jv h)
   intro v1 h E hE;refine AY hE (Fp h [1,3,54] [.box 1] (λa=>(X9 xF b a)) (λa h=>?_) (λj1 h=>?_))
   ·refine Au (Ai 3 0 (CG (BF false) h (λx4 gx4 h=>RW.q (DH (BF false) gx4 0 0) (RW.q (CK (BF false) gx4 0) (Ai 2 0 (AM 47 h (λh=>?_) (λh=>?_)))))))
    ·refine Ai 4 0 (AM 51 h (λh=>?_) (λh=>?_))
     ·exact gn 3 0 (jn h)
     exact gn 3 0 (jn h)
    exact gn 7 0 (jn h)
   refine wc h (λh=>?_) (λh=>?_)
   ·exact ws (gn 2 0 (Wp.ret (rr (jo h hk1)▸rq)))
   exact Wp.skip (Au (gn 3 0 (jl h)))
  exact Wp.exit (jx h)
 intro v2 h E hE;exact AY hE (ws (gn 1 0 (Wp.ret (rr h▸rq))))
def XF (xB:Block) (z1:Int):St:=AA [(1,(pb 1)),(3,(I z1))] [(.box 1,[tb xB.Bad,i6 xB.Wear,Nt xB.Leaves])]
def XE:St:=AA [] []
theorem NA (xB:Block) (r:Int) (h:FZ xB=some r):AP Tryz.prog 59 [.sv (.agg (Tr false xB))] (I r) (rg 1):=by
 refine gk Tryz.func59 rfl Tryz.ntmps59 (ws (gn 2 0 (Wp.seq (ws (gn 1 0 (Er h [1,3] [.box 1] (λs=>(XF xB s)) [] [] (λ_=>XE) Eu ?_ ?_))))))
 ·rintro a o (h:DX xB a=some o) hk1;refine Wp.seq (ws (Ai 3 0 (RW.q (CT DA xB.Leaves) (gn 1 0 (wc h (λh=>?_) (λh=>?_))))))
  ·refine Wp.skip (Wp.seq (Wp.block (ws (Ai 3 0 (CG DA h (λx1 gx1 h=>RW.q (DH DA gx1 0 0) (RW.q (CK DA gx1 0) (gn 1 0 (wc h (λh=>?_) (λh=>?_))))))))))
   ·exact ws (gn 2 0 (Wp.ret (rr (jo h hk1)▸rq)))
   exact Wp.skip (Au (gn 3 0 (jl h)))
  exact Wp.exit (jx h)
 intro v1 h E hE;exact AY hE (ws (gn 1 0 (Wp.ret (rr h▸rq))))
def VJ (xF:Flash) (z1:List Int) (z2:Int):St:=AA [(1,(pb 1)),(3,(.one (EO z1))),(4,(I z2))] [(.box 1,[BL xF.Blocks])]
def VI (z3:List Int):St:=AA [(3,(.one (EO z3)))] []
def VH (xF:Flash) (a:List Int) (b:Int) (z4:Bool) (z5:Int):St:=AA [(1,(pb 1)),(3,(.one (EO a))),(4,(I b)),(5,(B z4)),(6,(I z5))] [(.box 1,[BL xF.Blocks])]
def VG (xF:Flash) (a:List Int) (b:Int) (z6:Bool):St:=AA [(1,(pb 1)),(3,(.one (EO a))),(4,(I b)),(5,(B z6))] [(.box 1,[BL xF.Blocks])]
theorem XQ (xF:Flash) (r:List Int) (h:LR xF=some r):AP Tryz.prog 142 [.sv (.agg (NK false xF))] (.one (EO r)) (rg 1):=by
 refine gk Tryz.func142 rfl Tryz.ntmps142 (ws (gw 2 0 (gn 2 2 (Wp.seq (ws (gn 1 0 (BM h [1,3,4] [.box 1] (λs=>(VJ xF s.1 s.2)) [3] [] (λs=>(VI s)) Eu ?_ ?_)))))))
 ·rintro⟨a,c⟩ o (h:GY xF a c=some o);refine Wp.seq (ws (Ai 3 0 (RW.q (CT (BF false) xF.Blocks) (gn 1 0 (wc h (λh=>?_) (λh=>?_))))))
  ·refine Wp.skip (Wp.seq (Wp.block (ws (Ai 3 0 (CG (BF false) h (λx1 gx1 h=>RW.q (DH (BF false) gx1 0 0) (RW.q (CK (BF false) gx1 0) (gn 2 0 (Wp.seq (ws (gn 1 0 (BM h [1,3,4,5,6] [.box 1] (λs=>(VH xF a c s.1 s.2)) [1,3,4,5] [.box 1] (λs=>(VG xF a c s)) Eu ?_ ?_))))))))))))
   ·rintro⟨b,d⟩ o (h:FR xF c b d=some o);refine Wp.seq (ws (Ai 4 0 (CG (BF false) h (λx2 gx2 h=>RW.q (DH (BF false) gx2 0 2) (RW.q (CK (BF false) gx2 2) (RW.q (CT DA x2.Leaves) (gn 1 0 (wc h (λh=>?_) (λh=>?_)))))))))
    ·refine Wp.skip (Wp.seq (Wp.block (Au (Ai 2 0 (AM 34 h (λh=>?_) (λh=>?_))))))
     ·exact Ai 3 0 (CG (BF false) h (λx3 gx3 h=>RW.q (DH (BF false) gx3 0 2) (RW.q (CK (BF false) gx3 2) (Ai 1 0 (CG DA h (λx4 gx4 h=>RW.q (DH DA gx4 0 0) (RW.q (CK DA gx4 0) (gn 3 0 (Au (gn 3 0 (jl h)))))))))))
     exact gn 13 0 (Au (gn 3 0 (jl h)))
    exact Wp.exit (jv h)
   intro v1 h E hE;refine AY hE (ws (gn 1 0 (wc h (λh=>?_) (λh=>?_))))
   ·exact Au (Ai 3 0 (bd h λq1 gq1 h=>CM (Dm k3 (λ_=>rfl) a gq1) (gn 1 1 (Au (gn 3 0 (jl h))))))
   exact Wp.skip (Au (gn 3 0 (jl h)))
  exact Wp.exit (jv h)
 intro v2 h E hE;exact AY hE (ws (gn 2 2 (Wp.ret (rr h▸rq))))
def i8 (xF:Flash) (v4:List Int) (z1:Int) (z2:Int):St:=AA [(1,(pb 1)),(6,(.one (EO v4))),(7,(I z1)),(8,(I z2))] [(.box 1,[BL xF.Blocks])]
def i7 (z3:Int):St:=AA [(7,(I z3))] []
theorem pO (xF:Flash) (r:Int×Int×Bool) (h:Kv xF=some r):AP Tryz.prog 77 [.sv (.agg (NK false xF))] (.tup [(I r.1),(I r.2.1),(B r.2.2)]) (rg 1):=by
 refine gk Tryz.func77 rfl Tryz.ntmps77 (ws (gn 4 0 (Wp.seq (ws (Ai 1 0 (RW.c 0 h (No _) (λv1 gv1 h=>gn 1 0 (wc h (λh=>?_) (λh=>?_)))))))))
 ·exact ws (gn 3 0 (Wp.ret (rr h▸rq)))
 refine Wp.skip (ws (Ai 1 0 (RW.c 0 h (aI _) (λv2 gv2 h=>gn 1 0 (Wp.seq (ws (gn 2 0 (wc h (λh=>?_) (λh=>?_)))))))))
 ·exact ws (Ai 4 0 (CG (BF false) h (λx1 gx1 h=>RW.q (MW (BF false) gx1 0 3) (RW.c 0 h (NA _) (λv3 gv3 h=>gn 3 0 (Wp.ret (rr h▸rq)))))))
 refine Wp.skip (ws (Ai 1 0 (RW.c 0 h (XQ _) (λv4 gv4 h=>gn 1 1 (Wp.seq (ws (Ai 1 0 (RW.q (CT k3 v4) (gn 1 0 (wc h (λh=>?_) (λh=>?_)))))))))))
 ·exact ws (gn 3 0 (Wp.ret (rr h▸rq)))
 refine Wp.skip (ws (Ai 1 0 (CG k3 h (λx2 gx2 h=>RW.q (CK k3 gx2 0) (gn 1 0 (Wp.seq (ws (gn 1 0 (BM h [1,6,7,8] [.box 1] (λs=>(i8 xF v4 s.1 s.2)) [7] [] (λs=>(i7 s)) Eu ?_ ?_)))))))))
 ·rintro⟨a,b⟩ o (h:EX xF v4 a b=some o);refine Wp.seq (ws (Ai 2 0 (RW.q (CT k3 v4) (gn 1 0 (wc h (λh=>?_) (λh=>?_))))))
  ·refine Wp.skip (Wp.seq (Wp.block (Wp.seq (Lw mixed (DI 4 (bd h λx3 gx3 h=>SW.q (Js k3 gx3) (SW.q (CK k3 gx3 0) (bd h λx4 gx4 h=>SW.q (Js (BF false) gx4) (SW.q (DH (BF false) gx4 0 1) (SW.q (CK (BF false) gx4 1) (DI 3 (bd h λx5 gx5 h=>SW.q (Js (BF false) gx5) (SW.q (DH (BF false) gx5 0 1) (SW.q (CK (BF false) gx5 1) (DI 1 (SW.nil (wc h (λh=>?_) (λh=>?_))))))))))))))))))
   ·exact Au (Ai 2 0 (CG k3 h (λx6 gx6 h=>RW.q (CK k3 gx6 0) (gn 1 0 (Au (gn 3 0 (jl h)))))))
   exact Wp.skip (Au (gn 3 0 (jl h)))
  exact Wp.exit (jv h)
 intro v5 h E hE;exact AY hE (ws (gn 4 0 (Wp.ret (rr h▸rq))))
theorem uZ (xF:Flash) (xB:Int) (a:Int) (b:ByteArray) (r:Bool) (h:SF xF xB a b=some r):AP Tryz.prog 184 [.sv (.agg (NK false xF)),.sv (I xB),.sv (I a),.sv (Y b)] (B r) (rg 4):=by
 refine gk Tryz.func184 rfl Tryz.ntmps184 (ws (gw 2 0 (Ai 3 0 (RW.q (CT (BF false) xF.Blocks) (Ai 1 0 (RW.c 0 h (BU _ _ _) (λv1 gv1 h=>Ai 1 0 (AM 15 h (λh=>?_) (λh=>?_)))))))))
 ·refine Ai 3 0 (CG (BF false) h (λx1 gx1 h=>RW.q (DH (BF false) gx1 0 0) (RW.q (CK (BF false) gx1 0) (Ai 3 0 (AM 24 h (λh=>?_) (λh=>?_))))))
  ·refine Ai 4 0 (AM 28 h (λh=>?_) (λh=>?_))
   ·refine Ai 4 0 (CG (BF false) h (λx2 gx2 h=>RW.q (MW (BF false) gx2 0 3) (RW.c 0 h (NA _) (λv2 gv2 h=>Ai 3 0 (AM 38 h (λh=>?_) (λh=>?_))))))
    ·exact Ai 2 0 (RW.c 0 h (BU _ _ _) (λv3 gv3 h=>gn 2 0 (Wp.ret (rr h▸rq))))
    exact gn 5 0 (Wp.ret (rr h▸rq))
   exact gn 15 0 (Wp.ret (rr h▸rq))
  exact gn 19 0 (Wp.ret (rr h▸rq))
 exact gn 28 0 (Wp.ret (rr h▸rq))
def iS (xB:Int) (a:Int) (b:ByteArray) (v1:Flash) (z1:Bool):St:=AA [(1,(I xB)),(2,(I a)),(3,(Y b)),(8,(pb 8)),(10,(pb 10)),(23,(B z1))] [(.box 8,[C0 []]),(.box 10,[C0 v1.Blocks])]
theorem pI (xF:Flash) (xB:Int) (d:Int) (b:ByteArray) (r:Flash×Bool) (h:Ku xF xB d b=some r):AP Tryz.prog 143 [.sv (.agg (NK false xF)),.sv (I xB),.sv (I d),.sv (Y b)] (.tup [(.agg (NK true r.1)),(B r.2)]) (rg 4):=by
 refine gk Tryz.func143 rfl Tryz.ntmps143 (ws (gw 3 0 (Ai 1 0 (RW.c 0 h (Jd _) (λv1 gv1 h=>gn 2 0 (Wp.seq (Fp h [1,2,3,8,10,23] [.box 8,.box 10] (λa=>(iS xB d b v1 a)) (λa h=>?_) (λj1 h=>?_))))))))
 ·refine Au (Ai 1 0 (RW.c 0 h (No _) (λv2 gv2 h=>Ai 2 0 (AM 16 h (λh=>?_) (λh=>?_)))))
  ·exact gn 7 0 (jn h)
  exact Ai 4 0 (RW.c 0 h (uZ _ _ _ _) (λv3 gv3 h=>gn 2 0 (jn h)))
 refine wc h (λh=>?_) (λh=>?_)
 ·exact ws (gn 3 0 (Wp.ret (rr h▸rq)))
 exact Wp.skip (ws (Ai 3 0 (CG (BF true) h (λx1 gx1 h=>RW.q (DH (BF true) gx1 0 2) (RW.q (CK (BF true) gx1 2) (Ai 3 0 (bd h λx2 gx2 h=>RW.q (AFc DA gx2 (BF true) gx1 2) (CM (AGe DA gx2 0 0 (Leaf.mk 1 b) (BF true) gx1 2 (Block.mk x1.Bad x1.Wear (si x1.Leaves d (Leaf.mk 1 b)))) (RW.nil (ws (gn 3 0 (Wp.ret (rr h▸rq)))))))))))))
def AAC (xF:Flash) (xB:Int) (v1:Flash) (z1:Bool):St:=AA [(1,(I xB)),(2,(pb 2)),(4,(pb 4)),(6,(pb 6)),(37,(B z1))] [(.box 2,[BL xF.Blocks]),(.box 4,[C0 []]),(.box 6,[C0 v1.Blocks])]
theorem ABT (xF:Flash) (xB:Int) (r:Flash×Bool) (h:RG xF xB=some r):AP Tryz.prog 144 [.sv (.agg (NK false xF)),.sv (I xB)] (.tup [(.agg (NK true r.1)),(B r.2)]) (rg 2):=by
 refine gk Tryz.func144 rfl Tryz.ntmps144 (ws (gw 3 0 (Ai 1 0 (RW.c 0 h (Jd _) (λv1 gv1 h=>gn 2 0 (Wp.seq (Fp h [1,2,4,6,37] [.box 2,.box 4,.box 6] (λa=>(AAC xF xB v1 a)) (λa h=>?_) (λj1 h=>?_))))))))
 ·refine Au (Ai 1 0 (RW.c 0 h (No _) (λv2 gv2 h=>Ai 2 0 (AM 12 h (λh=>?_) (λh=>?_)))))
  ·exact gn 25 0 (jn h)
  refine Ai 3 0 (RW.q (CT (BF false) xF.Blocks) (Ai 1 0 (RW.c 0 h (BU _ _ _) (λv3 gv3 h=>Ai 3 0 (AM 21 h (λh=>?_) (λh=>?_))))))
  ·exact gn 16 0 (jn h)
  refine Ai 3 0 (CG (BF false) h (λx1 gx1 h=>RW.q (DH (BF false) gx1 0 0) (RW.q (CK (BF false) gx1 0) (Ai 2 0 (AM 29 h (λh=>?_) (λh=>?_))))))
  ·exact gn 8 0 (jn h)
  exact Ai 3 0 (CG (BF false) h (λx2 gx2 h=>RW.q (DH (BF false) gx2 0 1) (RW.q (CK (BF false) gx2 1) (gn 2 0 (jn h)))))
 refine wc h (λh=>?_) (λh=>?_)
 ·exact ws (gn 3 0 (Wp.ret (rr h▸rq)))
 exact Wp.skip (Wp.seq (DM [13] mixed (λ_ _=>nP) (Bn [0,1,2,3,4,5] 0 (bd h λx3 gx3 h=>KW.q 6 (Js (BF false) gx3) (KW.q 7 (DH (BF false) gx3 0 1) (KW.q 8 (CK (BF false) gx3 1) (Bn [9] 0 (Br 10 (bd h λq1 gq1 h=>Lz (fmk DA (Leaf.mk 0 (bs [])) gq1) (Bn [11] 0 (bd h λx4 gx4 h=>KW.q 12 (Js (BF true) gx4) (Br 13 (Lz (MY (BF true) gx4 0 0 (Block.mk false (ad x3.Wear 1) q1)) (Bg (ws (gn 3 0 (Wp.ret (rr h▸rq))))))))))))))))))
def c80 (x:Bi):List TV:=[i6 x.Kind,i6 x.Block,i6 x.Leaf,ts x.Text]
theorem QU:∀x,(c80 x).length=4:=λ_=>rfl
theorem ABO:∀l,BK (AT c80 l)=AT c80 l:=DJ (λ_=>rfl)
theorem ADR:∀l,AR (AT c80 l)=false:=KP (λ_=>rfl)
def FB (l:List Bi):TV:= .sl true 80 4 (AT c80 l)
def kI (l:List Bi):TV:= .sl false 80 4 (AT c80 l)
theorem RJ (xF:Flash) (xS:Bi) (r:Flash×Bool) (h:Ll xF xS=some r):AP Tryz.prog 78 [.sv (.agg (NK false xF)),.sv (.agg (c80 xS))] (.tup [(.agg (NK true r.1)),(B r.2)]) (rg 2):=by
 refine gk Tryz.func78 rfl Tryz.ntmps78 (ws (gn 4 0 (Wp.seq (ws (gn 2 0 (Wp.block (ws (gn 2 0 (wc h (λh=>?_) (λh=>?_))))))))))
 ·exact ws (Ai 7 0 (RW.c 0 h (pI _ _ _ _) (λv1 gv1 h=>gn 4 0 (Wp.ret (rr h▸rq)))))
 refine ws (gn 2 0 (wc h (λh=>?_) (λh=>?_)))
 ·exact ws (Ai 3 0 (RW.c 0 h (ABT _ _) (λv2 gv2 h=>gn 4 0 (Wp.ret (rr h▸rq)))))
 exact Wp.skip (ws (Ai 1 0 (RW.c 0 h (Jd _) (λv3 gv3 h=>gn 2 0 (Wp.ret (rr h▸rq))))))
def oG (xF:Flash) (a:List Bi) (v1:ByteArray×Bool) (v2:Int×Int×Bool) (z1:Bool):St:=AA [(1,(.one (FB a))),(3,(pb 3)),(6,(pb 6)),(9,(Y v1.1)),(11,(I v2.1)),(12,(I v2.2.1)),(33,(B z1))] [(.box 3,[BL xF.Blocks]),(.box 6,[C0 []])]
def oF (v3:Flash×Bool) (z2:List Bi):St:=AA [(6,(pb 6)),(7,(.one (FB z2))),(8,(B v3.2))] [(.box 6,[C0 v3.1.Blocks])]
theorem RF (xF:Flash) (b:List Bi) (xP:Page) (r:Flash×List Bi×Bool) (h:DK xF b xP=some r):AP Tryz.prog 35 [.sv (.agg (NK false xF)),.sv (.one (FB b)),.sv (.agg (c65 xP))] (.tup [(.agg (NK false r.1)),(.one (FB r.2.1)),(B r.2.2)]) (rg 3):=by
 refine gk Tryz.func35 rfl Tryz.ntmps35 (ws (gw 5 0 (Ai 1 0 (RW.c 0 h (SG _) (λv1 gv1 h=>gw 5 1 (Ai 1 0 (RW.c 0 h (pO _) (λv2 gv2 h=>gn 7 1 (Wp.seq (Fp h [1,3,6,9,11,12,33] [.box 3,.box 6] (λa=>(oG xF b v1 v2 a)) (λa h=>?_) (λj1 h=>?_)))))))))))
 ·refine Au (Ai 3 0 (AM 30 h (λh=>?_) (λh=>?_)))
  ·exact gn 3 0 (jn h)
  exact gn 3 0 (jn h)
 refine wc h (λh=>?_) (λh=>?_)
 ·exact ws (gn 5 8 (Wp.ret (rr h▸rq)))
 refine Wp.skip (ws (gw 6 0 (Ai 2 0 (RW.c 0 h (RJ _ _) (λv3 gv3 h=>gn 6 1 (Fp h [6,7,8] [.box 6] (λa=>(oF v3 a)) (λa h=>?_) (λj2 h=>?_)))))))
 ·refine DM [4,6] mixed (λ_ _=>nP) (Bn [1,2] 0 (Vn 0 3 5 ?_ ?_ ?_))
  ·refine KB.o false (Dq 3 5 ?_ ?_)
   ·refine KB.o false (Dq 4 5 ?_ ?_)
    ·exact bd h λq4 gq4 h=>Lz (Dm QU (λ_=>rfl) b gq4) (oj [7] h)
    exact KB.o false (Br 4 (bd h λq5 gq5 h=>Lz (Dm QU (λ_=>rfl) b gq5) (Bn [6,7,8] 2 (Bg (jn h)))))
   exact KB.o false (Bn [3] 0 (Br 4 (bd h λq6 gq6 h=>Lz (Dm QU (λ_=>rfl) b gq6) (Bn [6,7,8] 2 (Bg (jn h))))))
  ·refine KB.o false (Vn 0 4 5 ?_ ?_ ?_)
   ·refine KB.o false (Dq 4 5 ?_ ?_)
    ·exact bd h λq9 gq9 h=>Lz (Dm QU (λ_=>rfl) b gq9) (oj [7] h)
    exact KB.o false (Br 4 (bd h λq10 gq10 h=>Lz (Dm QU (λ_=>rfl) b gq10) (Bn [6,7,8] 2 (Bg (jn h)))))
   ·exact bd h λq11 gq11 h=>Lz (Dm QU (λ_=>rfl) b gq11) (oj [7] h)
   refine KB.o false (Dq 0 4 ?_ ?_)
   ·exact KB.o false (Br 4 (bd h λq13 gq13 h=>Lz (Dm QU (λ_=>rfl) b gq13) (Bn [6,7,8] 2 (Bg (jn h)))))
   exact bd h λq14 gq14 h=>Lz (Dm QU (λ_=>rfl) b gq14) (Bn [0,6,7,8] 4 (Bg (jn h)))
  refine KB.o false (Dq 0 3 ?_ ?_)
  ·exact KB.o false (Bn [3] 0 (Br 4 (bd h λq16 gq16 h=>Lz (Dm QU (λ_=>rfl) b gq16) (Bn [6,7,8] 2 (Bg (jn h))))))
  refine KB.o false (Dq 0 4 ?_ ?_)
  ·exact KB.o false (Br 4 (bd h λq18 gq18 h=>Lz (Dm QU (λ_=>rfl) b gq18) (Bn [6,7,8] 2 (Bg (jn h)))))
  exact bd h λq19 gq19 h=>Lz (Dm QU (λ_=>rfl) b gq19) (Bn [0,6,7,8] 4 (Bg (jn h)))
 exact Wp.fz (.box 6) 0 (Dh v3.1.Blocks) (Wp.ret (rr h▸rq))
theorem pG (xR:C3) (r:ByteArray×Bool) (h:Mm xR=some r):AP Tryz.prog 148 [.sv (.agg (Un xR))] (.tup [(Y r.1),(B r.2)]) (rg 1):=by
 refine gk Tryz.func148 rfl Tryz.ntmps148 (ws (gn 3 0 (Wp.seq (ws (Ai 1 0 (RW.c 0 h (TM _) (λv1 gv1 h=>gn 1 0 (wc h (λh=>?_) (λh=>?_)))))))))
 ·exact ws (gn 2 0 (Wp.ret (rr h▸rq)))
 exact Wp.skip (Wp.seq (DM [] mixed (λ_ _=>nP) (Bn [0,1,2,3,4,5,7,8,11,12] 0 (Br 6 (KB.c 0 h (UC _) (λv2 gv2 h=>Br 9 (KB.c 0 h (IR _) (λv3 gv3 h=>bd h λx1 gx1 h=>KW.q 10 (Fj gx1) (Br 13 (KB.c 0 h (IR _) (λv4 gv4 h=>bd h λx2 gx2 h=>KW.q 14 (Fj gx2) (Bn [15,16] 0 (Bg (Wp.ret (rr h▸rq)))))))))))))))
def gR (b:Int) (c:Int) (a:List C3) (z1:List ByteArray) (z2:Int):St:=AA [(0,(I b)),(1,(I c)),(2,(.one (NZ a))),(8,(.one (TS []))),(9,(.one (ot9 z1))),(10,(I z2))] []
def gQ (a:Int) (b:Int) (z3:List ByteArray):St:=AA [(0,(I a)),(1,(I b)),(8,(.one (TS []))),(9,(.one (ot9 z3)))] []
def gP (a:Int) (b:Int) (v2:List ByteArray) (z4:Bool):St:=AA [(0,(I a)),(1,(I b)),(8,(.one (TS []))),(9,(.one (ot9 v2))),(76,(B z4))] []
def gO (a:Int) (b:Int) (v2:List ByteArray) (z5:List Page) (z6:Int):St:=AA [(0,(I a)),(1,(I b)),(9,(.one (ot9 v2))),(14,(.one (TS z5))),(15,(I z6))] []
def gN (z7:List Page):St:=AA [(14,(.one (TS z7)))] []
theorem o9 (b:Int) (f:Int) (d:List C3) (r:List Page×Bool) (h:Ih b f d=some r):AP Tryz.prog 81 [.sv (I b),.sv (I f),.sv (.one (NZ d))] (.tup [(.one (TS r.1)),(B r.2)]) (rg 3):=by
 refine gk Tryz.func81 rfl Tryz.ntmps81 (ws (gw 2 0 (gw 2 2 (gn 2 2 (Wp.seq (ws (gn 1 0 (Er h [0,1,2,8,9,10] [] (λs=>(gR b f d s.1 s.2)) [0,1,8,9] [] (λs=>(gQ b f s)) Eu ?_ ?_))))))))
 ·rintro⟨e,i⟩ o (h:DU d e i=some o) hk1;refine Wp.seq (ws (Ai 2 0 (RW.q (CT I7 d) (gn 1 0 (wc h (λh=>?_) (λh=>?_))))))
  ·refine Wp.skip (Wp.seq (Wp.block (ws (Ai 2 0 (CG I7 h (λx1 gx1 h=>RW.q (MW I7 gx1 0 4) (RW.c 0 h (pG _) (λv1 gv1 h=>gn 5 1 (Wp.seq (ws (gn 2 0 (wc h (λh=>?_) (λh=>?_)))))))))))))
   ·exact ws (gn 3 2 (Wp.ret (rr (jo h hk1)▸rq)))
   refine Wp.skip (ws (Ai 1 0 (RW.q (CT k9 e) (gw 2 0 (Ai 2 0 (CG k9 h (λx2 gx2 h=>RW.q (CK k9 gx2 0) (gn 5 0 (wc h (λh=>?_) (λh=>?_))))))))))
   ·exact Au (Ai 3 0 (bd h λq1 gq1 h=>CM (Dm k9 (λ_=>rfl) e gq1) (gn 1 1 (Au (gn 3 0 (jl h))))))
   exact Au (Ai 4 0 (CG k9 h (λx3 gx3 h=>RW.q (CK k9 gx3 0) (Ai 1 0 (bd h λx4 gx4 h=>RW.q (Fj gx4) (CG k9 h (λx5 gx5 h=>CM (MY k9 gx5 0 0 x4) (RW.nil (Au (gn 3 0 (jl h)))))))))))
  exact Wp.exit (jx h)
 intro v2 h E hE;refine AY hE (Wp.seq (Fp h [0,1,8,9,76] [] (λa=>(gP b f v2 a)) (λa h=>?_) (λj1 h=>?_)))
 ·refine Au (Ai 1 0 (RW.q (CT k9 v2) (Ai 2 0 (AM 63 h (λh=>?_) (λh=>?_)))))
  ·exact gn 13 0 (jn h)
  refine Ai 2 0 (RW.q (CT k9 v2) (Ai 2 0 (RW.c 0 h (BU _ _ _) (λv3 gv3 h=>Ai 3 0 (AM 72 h (λh=>?_) (λh=>?_))))))
  ·exact gn 4 0 (jn h)
  exact Ai 1 0 (RW.c 0 h (BU _ _ _) (λv4 gv4 h=>gn 2 0 (jn h)))
 refine wc h (λh=>?_) (λh=>?_)
 ·exact ws (gn 3 2 (Wp.ret (rr h▸rq)))
 refine Wp.skip (ws (gn 2 2 (Wp.seq (ws (gn 1 0 (BM h [0,1,9,14,15] [] (λs=>(gO b f v2 s.1 s.2)) [14] [] (λs=>(gN s)) Eu ?_ ?_))))))
 ·rintro⟨g,j⟩ o (h:EV b f v2 g j=some o);refine Wp.seq (ws (Ai 2 0 (RW.q (CT k9 v2) (gn 1 0 (wc h (λh=>?_) (λh=>?_))))))
  ·exact Wp.skip (Wp.seq (Wp.block (Au (Ai 7 0 (RW.q (CT k9 v2) (Ai 2 0 (CG k9 h (λx6 gx6 h=>RW.q (CK k9 gx6 0) (Ai 2 0 (bd h λq2 gq2 h=>CM (Dm k65 (λ_=>rfl) g gq2) (gn 1 1 (Au (gn 3 0 (jl h))))))))))))))
  exact Wp.exit (jv h)
 intro v5 h E hE;exact AY hE (ws (gn 3 2 (Wp.ret (rr h▸rq))))
def V4 (xD:AE) (a:List C3) (z1:List Bi) (z2:Int) (z3:Bool) (z4:List Block):St:=AA [(1,(.one (NZ a))),(3,(pb 3)),(8,(.one (FB z1))),(9,(pb 9)),(10,(I z2)),(11,(B z3))] [(.box 3,[BL xD.Flash.Blocks,DN xD.Store.Vols,BP xD.Store.Arena.Knots,i6 xD.Store.Next,i6 xD.Seq,i6 xD.Tx,i6 xD.Base]),(.box 9,[BL z4])]
def V3 (xD:AE) (a:List C3) (z5:List Bi) (z6:Bool) (z7:List Block):St:=AA [(1,(.one (NZ a))),(3,(pb 3)),(8,(.one (FB z5))),(9,(pb 9)),(10,(I xD.Seq)),(11,(B z6))] [(.box 3,[BL xD.Flash.Blocks,DN xD.Store.Vols,BP xD.Store.Arena.Knots,i6 xD.Store.Next,i6 xD.Seq,i6 xD.Tx,i6 xD.Base]),(.box 9,[BL z7])]
def V0 (v2:List Page×Bool) (z8:List Bi) (z9:Bool) (z10:Int) (z11:List Block):St:=AA [(8,(.one (FB z8))),(9,(pb 9)),(11,(B z9)),(12,(.one (TS v2.1))),(13,(B v2.2)),(14,(I z10))] [(.box 9,[BL z11])]
def Vz (v2:List Page×Bool) (z12:List Bi) (z13:Bool):St:=AA [(8,(.one (FB z12))),(11,(B z13)),(13,(B v2.2))] []
def Vy (v2:List Page×Bool) (a:List Bi) (b:Bool) (d:Int) (c:List Block) (z14:Bool):St:=AA [(8,(.one (FB a))),(9,(pb 9)),(11,(B b)),(12,(.one (TS v2.1))),(13,(B v2.2)),(14,(I d)),(59,(B z14))] [(.box 9,[BL c])]
def Vx (v2:List Page×Bool) (a:Int) (z15:List Bi) (z16:Bool) (z17:List Block):St:=AA [(8,(.one (FB z15))),(9,(pb 9)),(11,(B z16)),(12,(.one (TS v2.1))),(13,(B v2.2)),(14,(I a))] [(.box 9,[BL z17])]
def Vw (v4:List Bi×Bool) (z18:Bool):St:=AA [(8,(.one (FB v4.1))),(78,(B z18))] []
set_option maxHeartbeats 4000000 in
theorem PW (xD:AE) (b:List C3) (e:ByteArray) (r:List Bi×Bool) (h:DT xD b e=some r):AP Tryz.prog 39 [.sv (.agg (Sl false xD)),.sv (.one (NZ b)),.sv (Y e)] (.tup [(.one (FB r.1)),(B r.2)]) (rg 3):=by
 refine gk Tryz.func39 rfl Tryz.ntmps39 (ws (gw 3 0 (gn 2 2 (Wp.seq (ws (Ai 1 0 (RW.q (CT I7 b) (gn 1 0 (wc h (λh=>?_) (λh=>?_))))))))))
 ·exact ws (gn 3 2 (Wp.ret (rr h▸rq)))
 refine Wp.skip (ws (gw 4 0 (gw 3 0 (gn 1 0 (Wp.seq (ws (gn 2 0 (Hc h [1,3,8,9,10,11] [.box 3,.box 9] (λa=>(V4 xD b a.1 a.2.1 a.2.2.1 a.2.2.2)) ?_ ?_))))))))
 ·intro a h;refine wc h (λh=>?_) (λh=>?_)
  ·refine Fp h [1,3,8,9,10,11] [.box 3,.box 9] (λa=>(V3 xD b a.1 a.2.1 a.2.2)) (λa h=>?_) (λj2 h=>?_)
   ·exact DM [12,17] mixed (λ_ _=>nP) (Bn [0,1,2,3,4] 0 (KW.q 5 (CT I7 b) (Bn [6] 0 (bd h λx1 gx1 h=>KW.q 7 (Js I7 gx1) (KW.q 8 (DH I7 gx1 0 3) (KW.q 9 (CK I7 gx1 3) (Bn [10,11] 0 (Br 12 (KB.c 2 h (RF _ _ _) (λv1 gv1 h=>Bn [13] 1 (oj [18] h)))))))))))
   exact Au (gn 3 0 (jn h))
  exact Wp.skip (jn h)
 intro j1 h E hE;refine AY hE (ws (Ai 4 0 (RW.c 0 h (o9 _ _ _) (λv2 gv2 h=>gn 5 9 (Wp.seq (ws (gn 1 0 (BM h [8,9,11,12,13,14] [.box 9] (λs=>(V0 v2 s.1 s.2.1 s.2.2.1 s.2.2.2)) [8,11,13] [] (λs=>(Vz v2 s.1 s.2)) Eu ?_ ?_))))))))
 ·rintro⟨d,f,i,g⟩ o (h:Cn v2 d f i g=some o);refine Wp.seq (Fp h [8,9,11,12,13,14,59] [.box 9] (λa=>(Vy v2 d f i g a)) (λa h=>?_) (λj3 h=>?_))
  ·refine Au (Ai 2 0 (RW.q (CT k65 v2.1) (Ai 2 0 (AM 57 h (λh=>?_) (λh=>?_)))))
   ·exact gn 2 0 (jn h)
   exact gn 2 0 (jn h)
  refine wc h (λh=>?_) (λh=>?_)
  ·refine Wp.skip (Wp.seq (Wp.block (Hc h [8,9,11,12,13,14] [.box 9] (λa=>(Vx v2 i a.1 a.2.1 a.2.2)) ?_ ?_)))
   ·intro a h;exact DM [6,11] mixed (λ_ _=>nP) (Bn [0,1,2,3] 0 (bd h λx2 gx2 h=>KW.q 4 (Js k65 gx2) (KW.q 5 (MW k65 gx2 0 6) (Br 6 (KB.c 2 h (RF _ _ _) (λv3 gv3 h=>Bn [7] 1 (oj [12] h)))))))
   intro j4 h E hE;exact AY hE (Au (gn 3 0 (jl h)))
  exact Wp.exit (jv h)
 intro v4 h E hE;refine AY hE (Wp.seq (Fp h [8,78] [] (λa=>(Vw v4 a)) (λa h=>?_) (λj5 h=>?_)))
 ·refine Au (Ai 3 0 (AM 75 h (λh=>?_) (λh=>?_)))
  ·exact gn 3 0 (jn h)
  exact gn 3 0 (jn h)
 refine wc h (λh=>?_) (λh=>?_)
 ·exact ws (gn 3 2 (Wp.ret (rr h▸rq)))
 exact Wp.skip (ws (gn 3 2 (Wp.ret (rr h▸rq))))
theorem Rz (xD:AE) (r:List Bi×Bool) (h:Jm xD=some r):AP Tryz.prog 13 [.sv (.agg (Sl false xD))] (.tup [(.one (FB r.1)),(B r.2)]) (rg 1):=by
 exact gk Tryz.func13 rfl Tryz.ntmps13 (ws (gn 3 0 (Wp.seq (DM [] mixed (λ_ _=>nP) (Bn [0,1,2] 0 (Br 3 (KB.c 0 h (jS _) (λv1 gv1 h=>Br 4 (KB.c 0 h (gs (ca rfl (ca (co (cs (zE _))) rfl)) (PW _ _ _)) (λv2 gv2 h=>IY 5 (IY 6 (Bn [7,8] 0 (Bg (Wp.ret (rr h▸rq)))))) (hc:=(.inr (λv=>by simp [BD,BQ,AR,BC,ADR,FB]))))))))))))
def ZN (xD:AE) (v1:List Al) (v3:List Bool) (v4:List Bool) (z1:Int) (z2:Int) (z3:Int):St:=AA [(1,(pb 1)),(3,(.one (GT v1))),(5,(.one (PD v3))),(6,(.one (PD v4))),(7,(I z1)),(8,(I z2)),(9,(I z3))] [(.box 1,[BL xD.Flash.Blocks,DN xD.Store.Vols,BP xD.Store.Arena.Knots,i6 xD.Store.Next,i6 xD.Seq,i6 xD.Tx,i6 xD.Base])]
def ZM (z4:Int):St:=AA [(7,(I z4))] []
def ZL (xD:AE) (v1:List Al) (v3:List Bool) (v4:List Bool) (b:Int) (a:Int) (c:Int) (v5:Int) (z5:Bool):St:=AA [(1,(pb 1)),(3,(.one (GT v1))),(5,(.one (PD v3))),(6,(.one (PD v4))),(7,(I b)),(8,(I a)),(9,(I c)),(11,(I v5)),(68,(B z5))] [(.box 1,[BL xD.Flash.Blocks,DN xD.Store.Vols,BP xD.Store.Arena.Knots,i6 xD.Store.Next,i6 xD.Seq,i6 xD.Tx,i6 xD.Base])]
theorem gL (xD:AE) (r:Int) (h:OD xD=some r):AP Tryz.prog 23 [.sv (.agg (Sl false xD))] (I r) (rg 1):=by
 refine gk Tryz.func23 rfl Tryz.ntmps23 (ws (gw 2 0 (Ai 2 0 (RW.c 0 h (HH _) (λv1 gv1 h=>gw 1 1 (Ai 2 0 (RW.c 0 h (OI _) (λv2 gv2 h=>gw 1 1 (Ai 4 0 (RW.c 0 h (gs (ca (co (cs (WV _))) (ca (co (cs (tV _))) rfl)) (KN _ _ _)) (λv3 gv3 h=>gw 1 1 (Ai 2 0 (RW.c 0 h (gs (ca (co (cs (WV _))) (ca (co (cs (tV _))) rfl)) (KN _ _ _)) (λv4 gv4 h=>gw 1 1 (gw 1 0 (gn 1 0 (Wp.seq (ws (gn 1 0 (BM h [1,3,5,6,7,8,9] [.box 1] (λs=>(ZN xD v1 v3 v4 s.1 s.2.1 s.2.2)) [7] [] (λs=>(ZM s)) Eu ?_ ?_))))))) (hc:=(.inr (λv=>by simp [BD,BQ,AR,BC,ns4,PD])))))) (hc:=(.inr (λv=>by simp [BD,BQ,AR,BC,ns4,PD])))))))))))))
 ·rintro⟨d,b,e⟩ o (h:Hi xD v1 v3 v4 d b e=some o);refine Wp.seq (ws (Ai 4 0 (RW.q (CT (BF false) xD.Flash.Blocks) (gn 1 0 (wc h (λh=>?_) (λh=>?_))))))
  ·refine Wp.skip (Wp.seq (Wp.block (ws (Ai 4 0 (CG (BF false) h (λx1 gx1 h=>RW.q (MW (BF false) gx1 0 3) (gw 2 0 (Ai 3 0 (RW.c 0 h (gs (ca (co (cs (WV _))) (ca (co (cs (sh4 _))) rfl)) (TC _ _ _)) (λv5 gv5 h=>gn 1 0 (Fp h [1,3,5,6,7,8,9,11,68] [.box 1] (λa=>(ZL xD v1 v3 v4 d b e v5 a)) (λa h=>?_) (λj1 h=>?_))) (hc:=(.inr (λv=>rfl))))))))))))
   ·refine Au (Ai 4 0 (AM 47 h (λh=>?_) (λh=>?_)))
    ·refine Ai 1 0 (RW.c 0 h (NA _) (λv6 gv6 h=>Ai 3 0 (AM 52 h (λh=>?_) (λh=>?_))))
     ·refine Ai 4 0 (RW.c 0 h (gs (ca (co (cs (WV _))) (ca (co (cs (sh4 _))) rfl)) (TC _ _ _)) (λv7 gv7 h=>Ai 3 0 (AM 60 h (λh=>?_) (λh=>?_))) (hc:=(.inr (λv=>rfl))))
      ·refine Ai 4 0 (AM 64 h (λh=>?_) (λh=>?_))
       ·exact gn 4 0 (jn h)
       exact gn 4 0 (jn h)
      exact gn 8 0 (jn h)
     exact gn 16 0 (jn h)
    exact gn 21 0 (jn h)
   refine wc h (λh=>?_) (λh=>?_)
   ·exact ws (gn 2 0 (Au (gn 2 0 (Au (gn 3 0 (jl h))))))
   exact Wp.skip (Au (gn 3 0 (jl h)))
  exact Wp.exit (jv h)
 intro v8 h E hE;exact AY hE (ws (gn 2 0 (Wp.ret (rr h▸rq))))
def XM (xB:Int) (v1:List Al) (v3:List Bool) (z1:List Bi) (z2:Int) (z3:Int) (z4:List Block):St:=AA [(1,(I xB)),(6,(.one (GT v1))),(7,(.one (PD v3))),(8,(.one (FB z1))),(9,(pb 9)),(10,(I z2)),(11,(I z3))] [(.box 9,[BL z4])]
def XL (z5:List Bi):St:=AA [(8,(.one (FB z5)))] []
def XK (xB:Int) (v1:List Al) (v3:List Bool) (a:Int) (z6:List Bi) (z7:Int) (z8:Int) (z9:List Block):St:=AA [(1,(I xB)),(6,(.one (GT v1))),(7,(.one (PD v3))),(8,(.one (FB z6))),(9,(pb 9)),(10,(I z7)),(11,(I a)),(12,(I z8))] [(.box 9,[BL z9])]
def XJ (xB:Int) (v1:List Al) (v3:List Bool) (a:Int) (z10:List Bi) (z11:Int) (z12:List Block):St:=AA [(1,(I xB)),(6,(.one (GT v1))),(7,(.one (PD v3))),(8,(.one (FB z10))),(9,(pb 9)),(10,(I z11)),(11,(I a))] [(.box 9,[BL z12])]
def XI (xB:Int) (v1:List Al) (v3:List Bool) (b:Int) (a:List Bi) (c:Int) (e:Int) (d:List Block) (z13:Bool):St:=AA [(1,(I xB)),(6,(.one (GT v1))),(7,(.one (PD v3))),(8,(.one (FB a))),(9,(pb 9)),(10,(I c)),(11,(I b)),(12,(I e)),(62,(B z13))] [(.box 9,[BL d])]
def XH (xB:Int) (v1:List Al) (v3:List Bool) (a:Int) (b:Int) (d:Int) (c:List Block) (v4:Flash×List Bi×Bool) (z14:Bool):St:=AA [(1,(I xB)),(6,(.one (GT v1))),(7,(.one (PD v3))),(9,(pb 9)),(10,(I b)),(11,(I a)),(12,(I d)),(14,(pb 14)),(15,(.one (FB v4.2.1))),(90,(B z14))] [(.box 9,[BL c]),(.box 14,[BL v4.1.Blocks])]
theorem Ry (xD:AE) (xB:Int) (r:List Bi×Bool) (h:GI xD xB=some r):AP Tryz.prog 9 [.sv (.agg (Sl false xD)),.sv (I xB)] (.tup [(.one (FB r.1)),(B r.2)]) (rg 2):=by
 refine gk Tryz.func9 rfl Tryz.ntmps9 (ws (gw 3 0 (Ai 2 0 (RW.c 0 h (HH _) (λv1 gv1 h=>gw 1 1 (Ai 3 0 (RW.c 0 h (OI _) (λv2 gv2 h=>RW.c 0 h (gs (ca (co (cs (WV _))) (ca (co (cs (tV _))) rfl)) (KN _ _ _)) (λv3 gv3 h=>gw 1 1 (gw 2 2 (gw 4 0 (gn 3 0 (Wp.seq (ws (gn 1 0 (Er h [1,6,7,8,9,10,11] [.box 9] (λs=>(XM xB v1 v3 s.1 s.2.1 s.2.2.1 s.2.2.2)) [8] [] (λs=>(XL s)) Eu ?_ ?_)))))))) (hc:=(.inr (λv=>by simp [BD,BQ,AR,BC,ns4,PD])))))))))))
 ·rintro⟨f,i,b,k⟩ o (h:DZ xB v1 v3 f i b k=some o) hk1;refine Wp.seq (ws (gn 2 0 (wc h (λh=>?_) (λh=>?_))))
  ·refine Wp.skip (Wp.seq (Wp.block (ws (gn 1 0 (Er h [1,6,7,8,9,10,11,12] [.box 9] (λs=>(XK xB v1 v3 b s.1 s.2.1 s.2.2.1 s.2.2.2)) [1,6,7,8,9,10,11] [.box 9] (λs=>(XJ xB v1 v3 b s.1 s.2.1 s.2.2)) Eu ?_ ?_)))))
   ·rintro⟨d,e,j,g⟩ o (h:DY xB v1 v3 b d e j g=some o) hk2;refine Wp.seq (ws (Ai 2 0 (RW.q (CT Et v1) (gn 1 0 (wc h (λh=>?_) (λh=>?_))))))
    ·refine Wp.skip (Wp.seq (Wp.block (Wp.seq (Fp h [1,6,7,8,9,10,11,12,62] [.box 9] (λa=>(XI xB v1 v3 b d e j g a)) (λa h=>?_) (λj1 h=>?_)))))
     ·refine Au (Ai 2 0 (CG k4 h (λx1 gx1 h=>RW.q (CK k4 gx1 0) (Ai 2 0 (AM 45 h (λh=>?_) (λh=>?_))))))
      ·exact gn 17 0 (jn h)
      refine Ai 2 0 (CG Et h (λx2 gx2 h=>RW.q (DH Et gx2 0 0) (RW.q (CK Et gx2 0) (Ai 4 0 (AM 54 h (λh=>?_) (λh=>?_))))))
      ·exact gn 8 0 (jn h)
      exact Ai 2 0 (CG Et h (λx3 gx3 h=>RW.q (DH Et gx3 0 1) (RW.q (CK Et gx3 1) (gn 3 0 (jn h)))))
     refine wc h (λh=>?_) (λh=>?_)
     ·exact Wp.exit (Au (gn 3 0 (jl h)))
     refine Wp.skip (ws (Ai 2 0 (CG Et h (λx4 gx4 h=>RW.q (DH Et gx4 0 2) (RW.q (MW Et gx4 2 6) (gw 2 0 (gw 3 0 (Ai 3 0 (RW.c 2 h (RF _ _ _) (λv4 gv4 h=>gn 8 65 (Wp.seq (Fp h [1,6,7,9,10,11,12,14,15,90] [.box 9,.box 14] (λa=>(XH xB v1 v3 b e j g v4 a)) (λa h=>?_) (λj2 h=>?_)))))))))))))
     ·refine Au (Ai 3 0 (AM 80 h (λh=>?_) (λh=>?_)))
      ·exact gn 10 0 (jn h)
      exact Ai 2 0 (RW.q (CT QU v4.2.1) (Ai 1 0 (CG QU h (λx5 gx5 h=>RW.q (DH QU gx5 0 1) (RW.q (CK QU gx5 1) (gn 3 0 (jn h)))))))
     refine wc h (λh=>?_) (λh=>?_)
     ·exact ws (gn 3 2 (Wp.ret (rr (jo (jo h hk2) hk1)▸rq)))
     exact Wp.skip (ws (gw 2 0 (gn 2 2 (Au (gn 3 0 (Au (gn 3 0 (jl h))))))))
    exact Wp.exit (jx h)
   intro v5 h E hE;exact AY hE (Au (gn 3 0 (jl h)))
  exact Wp.exit (jx h)
 intro v6 h E hE;exact AY hE (ws (gn 3 2 (Wp.ret (rr h▸rq))))
theorem jP (xD:AE) (r:List Bi×Bool) (h:OO xD=some r):AP Tryz.prog 17 [.sv (.agg (Sl false xD))] (.tup [(.one (FB r.1)),(B r.2)]) (rg 1):=by
 refine gk Tryz.func17 rfl Tryz.ntmps17 (ws (gw 3 0 (Ai 1 0 (RW.c 0 h (XT _) (λv1 gv1 h=>gn 1 1 (Wp.seq (ws (Ai 1 0 (RW.q (CT k3 v1) (gn 1 0 (wc h (λh=>?_) (λh=>?_))))))))))))
 ·exact ws (Ai 1 0 (CG k3 h (λx1 gx1 h=>RW.q (CK k3 gx1 0) (gn 4 4 (Wp.ret (rr h▸rq))))))
 refine Wp.skip (Wp.seq (ws (Ai 1 0 (RW.c 0 h (f0 _) (λv2 gv2 h=>gn 1 0 (wc h (λh=>?_) (λh=>?_)))))))
 ·exact ws (Ai 1 0 (RW.c 0 h (Rz _) (λv3 gv3 h=>gn 4 4 (Wp.ret (rr h▸rq)))))
 refine Wp.skip (ws (Ai 1 0 (RW.c 0 h (gL _) (λv4 gv4 h=>gn 1 0 (Wp.seq (ws (gn 2 0 (wc h (λh=>?_) (λh=>?_)))))))))
 ·exact ws (gn 3 2 (Wp.ret (rr h▸rq)))
 exact Wp.skip (ws (Ai 2 0 (RW.c 0 h (Ry _ _) (λv5 gv5 h=>gn 4 4 (Wp.ret (rr h▸rq))))))
def jM (a:List Bi) (z1:Int) (z2:List Block):St:=AA [(1,(.one (kI a))),(4,(pb 4)),(6,(pb 6)),(7,(I z1))] [(.box 4,[C0 []]),(.box 6,[C0 z2])]
def jL (a:List Bi) (z3:List Block):St:=AA [(1,(.one (kI a))),(4,(pb 4)),(6,(pb 6))] [(.box 4,[C0 []]),(.box 6,[C0 z3])]
def jK (b:List Bi) (c:Int) (a:List Block) (z4:Bool) (z5:List Block):St:=AA [(1,(.one (kI b))),(4,(pb 4)),(6,(pb 6)),(7,(I c)),(8,(pb 8)),(9,(B z4))] [(.box 4,[C0 []]),(.box 6,[C0 a]),(.box 8,[C0 z5])]
theorem qC (xF:Flash) (b:List Bi) (r:Flash×Int) (h:Mn xF b=some r):AP Tryz.prog 36 [.sv (.agg (NK false xF)),.sv (.one (kI b))] (.tup [(.agg (NK true r.1)),(I r.2)]) (rg 2):=by
 refine gk Tryz.func36 rfl Tryz.ntmps36 (ws (gw 3 0 (Ai 1 0 (RW.c 0 h (Jd _) (λv1 gv1 h=>gn 2 0 (Wp.seq (ws (gn 1 0 (Er h [1,4,6,7] [.box 4,.box 6] (λs=>(jM b s.1 s.2)) [1,4,6] [.box 4,.box 6] (λs=>(jL b s)) Eu ?_ ?_)))))))))
 ·rintro⟨e,d⟩ o (h:Ga b e d=some o) hk1;refine Wp.seq (ws (Ai 2 0 (RW.q (CT QU b) (gn 1 0 (wc h (λh=>?_) (λh=>?_))))))
  ·refine Wp.skip (Wp.seq (Wp.block (Fp h [1,4,6,7,8,9] [.box 4,.box 6,.box 8] (λa=>(jK b e d a.1 a.2)) (λa h=>?_) (λj1 h=>?_))))
   ·refine DM [10] mixed (λ_ _=>nP) (Bn [0,1,2] 0 (bd h λx1 gx1 h=>KW.q 3 (Js QU gx1) (KW.q 4 (MW QU gx1 0 4) (Dq 5 9 ?_ ?_))))
    ·exact KB.c 0 h (gs (ca (cC (ca (cs (Dh _)) rfl)) rfl) (RJ _ _)) (λv3 gv3 h=>oj [6] h) (hc:=(.inr (λv=>by simp [BD,BQ,AR,BC,Yj,C0,NK])))
    exact KB.o false (Br 5 (KB.c 0 h (gs (ca (cC (ca (cs (Dh _)) rfl)) rfl) (RJ _ _)) (λv4 gv4 h=>Bn [6] 1 (IY 7 (oj [] h))) (hc:=(.inr (λv=>by simp [BD,BQ,AR,BC,Yj,C0,NK])))))
   refine Wp.seq (ws (gn 2 0 (wc h (λh=>?_) (λh=>?_))))
   ·exact ws (gn 4 0 (Wp.ret (rr (jo h hk1)▸rq)))
   exact Wp.skip (Au (gn 2 0 (Au (gn 3 0 (jl h)))))
  exact Wp.exit (jx h)
 intro v5 h E hE;exact AY hE (ws (Ai 2 0 (RW.q (CT QU b) (gn 2 0 (Wp.ret (rr h▸rq))))))
theorem OF (xD:AE) (a:List Bi) (r:AE) (h:GR xD a=some r):AP Tryz.prog 11 [.sv (.agg (Sl false xD)),.sv (.one (kI a))] (.agg (Sl true r)) (rg 2):=by
 exact gk Tryz.func11 rfl Tryz.ntmps11 (ws (gw 2 0 (Ai 3 0 (RW.c 0 h (qC _ _) (λv1 gv1 h=>gw 6 1 (Ai 1 0 (RW.c 0 h (gs (ca (cC (ca (cs (Dh _)) rfl)) rfl) (OH _)) (λv2 gv2 h=>gw 6 1 (gn 2 0 (Wp.ret (rr h▸rq)))) (hc:=(.inr (λv=>by simp [BD,BQ,AR,BC,Yi,Yj,Lo,Dp,C0,Bw,Sl]))))))))))
def bC (a:Int) (z1:List Bi) (z2:Int) (z3:List Block) (z4:List Vol) (z5:List Cb) (z6:Int) (z7:Int) (z8:Int) (z9:Int):St:=AA [(1,(I a)),(4,(pb 4)),(6,(pb 6)),(7,(.one (FB z1))),(8,(I z2))] [(.box 4,[C0 [],Dp [],Bw [],i6 0,i6 0,i6 0,i6 0]),(.box 6,[C0 z3,Dp z4,Bw z5,i6 z6,i6 z7,i6 z8,i6 z9])]
def bB (z10:List Bi) (z11:List Block) (z12:List Vol) (z13:List Cb) (z14:Int) (z15:Int) (z16:Int) (z17:Int):St:=AA [(4,(pb 4)),(6,(pb 6)),(7,(.one (FB z10)))] [(.box 4,[C0 [],Dp [],Bw [],i6 0,i6 0,i6 0,i6 0]),(.box 6,[C0 z11,Dp z12,Bw z13,i6 z14,i6 z15,i6 z16,i6 z17])]
def bA (h:Int) (i:List Bi) (j:Int) (a:List Block) (b:List Vol) (c:List Cb) (d:Int) (e:Int) (f:Int) (g:Int) (z18:Bool):St:=AA [(1,(I h)),(4,(pb 4)),(6,(pb 6)),(7,(.one (FB i))),(8,(I j)),(26,(B z18))] [(.box 4,[C0 [],Dp [],Bw [],i6 0,i6 0,i6 0,i6 0]),(.box 6,[C0 a,Dp b,Bw c,i6 d,i6 e,i6 f,i6 g])]
theorem jR (xD:AE) (b:Int) (r:AE×List Bi) (h:MD xD b=some r):AP Tryz.prog 101 [.sv (.agg (Sl false xD)),.sv (I b)] (.tup [(.agg (Sl true r.1)),(.one (FB r.2))]) (rg 2):=by
 refine gk Tryz.func101 rfl Tryz.ntmps101 (ws (gw 3 0 (Ai 1 0 (RW.c 0 h (U6 _) (λv1 gv1 h=>gw 2 0 (gn 2 2 (Wp.seq (ws (gn 1 0 (Er h [1,4,6,7,8] [.box 4,.box 6] (λs=>(bC b s.1 s.2.1 s.2.2.1 s.2.2.2.1 s.2.2.2.2.1 s.2.2.2.2.2.1 s.2.2.2.2.2.2.1 s.2.2.2.2.2.2.2.1 s.2.2.2.2.2.2.2.2)) [4,6,7] [.box 4,.box 6] (λs=>(bB s.1 s.2.1 s.2.2.1 s.2.2.2.1 s.2.2.2.2.1 s.2.2.2.2.2.1 s.2.2.2.2.2.2.1 s.2.2.2.2.2.2.2)) Eu ?_ ?_))))))))))
 ·rintro⟨d,m,e,f,g,i,j,k,l⟩ o (h:Hm b d m e f g i j k l=some o) hk1;refine Wp.seq (Fp h [1,4,6,7,8,26] [.box 4,.box 6] (λa=>(bA b d m e f g i j k l a)) (λa h=>?_) (λj1 h=>?_))
  ·refine Au (Ai 4 0 (AM 17 h (λh=>?_) (λh=>?_)))
   ·refine Ai 4 0 (AM 21 h (λh=>?_) (λh=>?_))
    ·exact Ai 2 0 (RW.c 0 h (gs (ca (cC (ca (cs (Dh _)) rfl)) rfl) (RH _)) (λv2 gv2 h=>gn 2 0 (jn h)) (hc:=(.inr (λv=>rfl))))
    exact gn 5 0 (jn h)
   exact gn 9 0 (jn h)
  refine wc h (λh=>?_) (λh=>?_)
  ·refine Wp.skip (Wp.seq (Wp.block (ws (Ai 1 0 (RW.c 0 h (gs (ca (cC (ca (cs (Dh _)) (ca (cs (Fq _)) (ca (cs (Dn _)) rfl)))) rfl) (jP _)) (λv3 gv3 h=>gn 5 9 (Wp.seq (ws (gn 2 0 (wc h (λh=>?_) (λh=>?_)))))) (hc:=(.inr (λv=>by simp [BD,BQ,AR,BC,ADR,FB]))))))))
   ·exact ws (gn 4 8 (Wp.ret (rr (jo h hk1)▸rq)))
   exact Wp.skip (ws (Ai 2 0 (RW.c 0 h (gs (ca (cC (ca (cs (Dh _)) (ca (cs (Fq _)) (ca (cs (Dn _)) rfl)))) (ca (co (cs (ABO _))) rfl)) (OF _ _)) (λv4 gv4 h=>gn 1 0 (Au (Ai 2 0 (bd h λq1 gq1 h=>CM (Dm QU (λ_=>rfl) d gq1) (gn 1 1 (Au (gn 3 0 (jl h)))))))) (hc:=(.inr (λv=>by simp [BD,BQ,AR,BC,Yi,Yj,Lo,Dp,C0,Bw,Sl]))))))
  exact Wp.exit (jx h)
 intro v5 h E hE;exact AY hE (ws (gn 4 8 (Wp.ret (rr h▸rq))))
def u7 (xQ:Vp) (z1:List Bi) (z2:List Block) (z3:List Vol) (z4:List Cb) (z5:Int) (z6:Int) (z7:Int) (z8:Int):St:=AA [(3,(pb 3)),(4,(pb 4)),(8,(pb 8)),(15,(.one (FB z1)))] [(.box 3,[i6 xQ.Kind,i6 xQ.Vol,i6 xQ.Sector,i6 xQ.Of,ts xQ.Text]),(.box 4,[C0 [],Dp [],Bw [],i6 0,i6 0,i6 0,i6 0]),(.box 8,[C0 z2,Dp z3,Bw z4,i6 z5,i6 z6,i6 z7,i6 z8])]
def u6 (j1:List Bi×List Block×List Vol×List Cb×Int×Int×Int×Int) (v8:List Bi×Bool) (z9:Bool):St:=AA [(4,(pb 4)),(8,(pb 8)),(15,(.one (FB j1.1))),(19,(.one (FB v8.1))),(91,(B z9))] [(.box 4,[C0 [],Dp [],Bw [],i6 0,i6 0,i6 0,i6 0]),(.box 8,[C0 j1.2.1,Dp j1.2.2.1,Bw j1.2.2.2.1,i6 j1.2.2.2.2.1,i6 j1.2.2.2.2.2.1,i6 j1.2.2.2.2.2.2.1,i6 j1.2.2.2.2.2.2.2])]
set_option maxHeartbeats 4000000 in
theorem dH (xD:AE) (xQ:Vp) (r:AE×List Bi×ByteArray×Int) (h:Wk xD xQ=some r):AP Tryz.prog 61 [.sv (.agg (Sl false xD)),.sv (.agg (AEk xQ))] (.tup [(.agg (Sl true r.1)),(.one (FB r.2.1)),(Y r.2.2.1),(I r.2.2.2)]) (rg 2):=by
 refine gk Tryz.func61 rfl Tryz.ntmps61 (ws (gw 6 0 (Ai 1 0 (RW.c 0 h (U6 _) (λv1 gv1 h=>gw 2 0 (gn 2 2 (Wp.seq (ws (Ai 1 0 (RW.c 0 h (jN _) (λv2 gv2 h=>gn 1 0 (wc h (λh=>?_) (λh=>?_)))))))))))))
 ·exact ws (gn 6 8 (Wp.ret (rr h▸rq)))
 refine Wp.skip (ws (Ai 2 0 (RW.c 0 h (X8 _ _) (λv3 gv3 h=>gn 7 17 (Wp.seq (ws (gn 2 0 (wc h (λh=>?_) (λh=>?_)))))))))
 ·exact ws (gn 7 16 (Wp.ret (rr h▸rq)))
 refine Wp.skip (Wp.seq (ws (gn 3 0 (wc h (λh=>?_) (λh=>?_)))))
 ·refine ws (Ai 5 0 (RW.c 0 h (vC _ _ _) (λv4 gv4 h=>gn 5 1 (Wp.seq (ws (gn 2 0 (wc h (λh=>?_) (λh=>?_))))))))
  ·exact ws (gn 6 8 (Wp.ret (rr h▸rq)))
  exact Wp.skip (ws (gn 7 16 (Wp.ret (rr h▸rq))))
 refine Wp.skip (ws (gn 2 2 (Wp.seq (ws (Ai 2 0 (RW.c 0 h (RH _) (λv5 gv5 h=>gn 1 0 (Hc h [3,4,8,15] [.box 3,.box 4,.box 8] (λa=>(u7 xQ a.1 a.2.1 a.2.2.1 a.2.2.2.1 a.2.2.2.2.1 a.2.2.2.2.2.1 a.2.2.2.2.2.2.1 a.2.2.2.2.2.2.2)) ?_ ?_))))))))
 ·intro a h;refine wc h (λh=>?_) (λh=>?_)
  ·exact Au (Ai 1 0 (RW.c 0 h (jR _ _) (λv6 gv6 h=>gn 5 17 (jn h))))
  exact Wp.skip (jn h)
 intro j1 h E hE;refine AY hE (ws (Ai 2 0 (RW.c 0 h (gs (ca (cC (ca (cs (Dh _)) (ca (cs (Fq _)) (ca (cs (Dn _)) rfl)))) rfl) (X8 _ _)) (λv7 gv7 h=>gw 7 17 (Ai 3 0 (RW.c 0 h (gs (ca (cC (ca (cs (Dh _)) (ca (cs (Fq _)) (ca (cs (Dn _)) rfl)))) (ca (co (cs (zE _))) rfl)) (PW _ _ _)) (λv8 gv8 h=>gn 5 9 (Wp.seq (Fp h [4,8,15,19,91] [.box 4,.box 8] (λa=>(u6 j1 v8 a)) (λa h=>?_) (λj2 h=>?_)))) (hc:=(.inr (λv=>by simp [BD,BQ,AR,BC,ADR,FB])))))) (hc:=(.inr (λv=>by simp [BD,BQ,AR,BC,AEF,EC]))))))
 ·refine Au (Ai 3 0 (AM 86 h (λh=>?_) (λh=>?_)))
  ·exact gn 5 0 (jn h)
  exact Ai 2 0 (RW.c 0 h (gs (ca (cC (ca (cs (Dh _)) rfl)) rfl) (RH _)) (λv9 gv9 h=>gn 2 0 (jn h)) (hc:=(.inr (λv=>rfl))))
 refine wc h (λh=>?_) (λh=>?_)
 ·exact ws (gn 6 8 (Wp.ret (rr h▸rq)))
 exact Wp.skip (ws (Ai 2 0 (RW.c 0 h (gs (ca (cC (ca (cs (Dh _)) (ca (cs (Fq _)) (ca (cs (Dn _)) rfl)))) (ca (co (cs (ABO _))) rfl)) (OF _ _)) (λv10 gv10 h=>Ai 2 0 (bd h λq1 gq1 h=>CM (Dm QU (λ_=>rfl) j1.1 gq1) (gn 4 2 (Wp.ret (rr h▸rq))))) (hc:=(.inr (λv=>by simp [BD,BQ,AR,BC,Yi,Yj,Lo,Dp,C0,Bw,Sl]))))))
def Xk (z1:Int) (z2:List Block) (z3:List Vol) (z4:List Cb) (z5:Int) (z6:Int) (z7:Int) (z8:Int) (z9:List Int) (z10:Int) (z11:Int):St:=AA [(0,(px 0)),(2,(pb 2)),(3,(pb 3)),(5,(I z1))] [(.box 2,[C0 [],Dp [],Bw [],i6 0,i6 0,i6 0,i6 0]),(.box 3,[BL z2,DN z3,BP z4,i6 z5,i6 z6,i6 z7,i6 z8]),(.ext 0,[PE z9,i6 z10,i6 z11])]
def Xj (z12:List Block) (z13:List Vol) (z14:List Cb) (z15:Int) (z16:Int) (z17:Int) (z18:Int) (z19:List Int) (z20:Int) (z21:Int):St:=AA [(2,(pb 2)),(3,(pb 3))] [(.box 2,[C0 [],Dp [],Bw [],i6 0,i6 0,i6 0,i6 0]),(.box 3,[BL z12,DN z13,BP z14,i6 z15,i6 z16,i6 z17,i6 z18]),(.ext 0,[PE z19,i6 z20,i6 z21])]
def Xi (a:Int) (z22:List Block) (z23:List Vol) (z24:List Cb) (z25:Int) (z26:Int) (z27:Int) (z28:Int) (z29:List Int) (z30:Int) (z31:Int):St:=AA [(0,(px 0)),(2,(pb 2)),(3,(pb 3)),(5,(I a))] [(.box 2,[C0 [],Dp [],Bw [],i6 0,i6 0,i6 0,i6 0]),(.box 3,[BL z22,DN z23,BP z24,i6 z25,i6 z26,i6 z27,i6 z28]),(.ext 0,[PE z29,i6 z30,i6 z31])]
set_option maxHeartbeats 4000000 in
theorem Z8 (xC:BE) (r:AE×BE) (h:Nj xC=some r):AP Tryz.prog 24 [.ext [PE xC.b_,i6 xC.i_,i6 xC.h_]] (.agg (Sl false r.1)) (.ext [PE r.2.b_,i6 r.2.i_,i6 r.2.h_]::rg 0):=by
 refine gkx Tryz.func24 rfl Tryz.ntmps24 (ws (gw 1 0 (Ai 1 0 (F5 h (Di _ _) (λ_=>rfl) (λv1 gv1 h=>Ai 1 0 (RW.c 0 h (aZ _) (λv2 gv2 h=>Ai 2 1 (RW.fz (.slot 11) 0 (Dh v2.1.Flash.Blocks) (RW.fz (.slot 11) 1 (Fq v2.1.Store.Vols) (RW.fz (.slot 11) 2 (Dn v2.1.Store.Arena.Knots) (gn 4 0 (Wp.seq (ws (gn 1 0 (BM h [0,2,3,5] [.box 2,.box 3,.ext 0] (λs=>(Xk s.1 s.2.1 s.2.2.1 s.2.2.2.1 s.2.2.2.2.1 s.2.2.2.2.2.1 s.2.2.2.2.2.2.1 s.2.2.2.2.2.2.2.1 s.2.2.2.2.2.2.2.2.1 s.2.2.2.2.2.2.2.2.2.1 s.2.2.2.2.2.2.2.2.2.2)) [2,3] [.box 2,.box 3,.ext 0] (λs=>(Xj s.1 s.2.1 s.2.2.1 s.2.2.2.1 s.2.2.2.2.1 s.2.2.2.2.2.1 s.2.2.2.2.2.2.1 s.2.2.2.2.2.2.2.1 s.2.2.2.2.2.2.2.2.1 s.2.2.2.2.2.2.2.2.2)) Eu ?_ ?_)))))))))))))))
 ·rintro⟨b,d,e,f,g,i,j,k,l,m,n⟩ o (h:Gv b d e f g i j k l m n=some o);refine Wp.seq (ws (Ai 2 0 (F5 h (Di _ _) (λ_=>rfl) (λv3 gv3 h=>gn 1 0 (wc h (λh=>?_) (λh=>?_))))))
  ·refine Wp.skip (Wp.seq (Wp.block (Hc h [0,2,3,5] [.box 2,.box 3,.ext 0] (λa=>(Xi b a.1 a.2.1 a.2.2.1 a.2.2.2.1 a.2.2.2.2.1 a.2.2.2.2.2.1 a.2.2.2.2.2.2.1 a.2.2.2.2.2.2.2.1 a.2.2.2.2.2.2.2.2.1 a.2.2.2.2.2.2.2.2.2)) ?_ ?_)))
   ·intro a h;refine DM [3,10] mixed (λ_ _=>nP) (Bn [1,2] 0 (Dq 0 3 ?_ ?_))
    ·refine KB.o false (Br 3 (fH h (U5 _ _) (λ_=>rfl) (λv5 gv5 h=>Br 4 (KB.c 0 h (dH _ _) (λv6 gv6 h=>Bn [5] 1 (AEX 6 7 8 9 ?_ ?_ ?_ ?_))))))
     ·exact KB.o false (KW.fz (.slot 25) 0 (Dh v6.1.Flash.Blocks) (KW.fz (.slot 25) 1 (Fq v6.1.Store.Vols) (KW.fz (.slot 25) 2 (Dn v6.1.Store.Arena.Knots) (oj [] h))))
     ·refine KB.o false (Vn 6 8 9 ?_ ?_ ?_)
      ·exact KB.o false (KW.fz (.slot 25) 0 (Dh v6.1.Flash.Blocks) (KW.fz (.slot 25) 1 (Fq v6.1.Store.Vols) (KW.fz (.slot 25) 2 (Dn v6.1.Store.Arena.Knots) (oj [] h))))
      ·refine KB.o false (Dq 6 9 ?_ ?_)
       ·exact KB.o false (KW.fz (.slot 25) 0 (Dh v6.1.Flash.Blocks) (KW.fz (.slot 25) 1 (Fq v6.1.Store.Vols) (KW.fz (.slot 25) 2 (Dn v6.1.Store.Arena.Knots) (oj [] h))))
       exact KB.o false (Bn [6] 0 (KW.fz (.slot 25) 0 (Dh v6.1.Flash.Blocks) (KW.fz (.slot 25) 1 (Fq v6.1.Store.Vols) (KW.fz (.slot 25) 2 (Dn v6.1.Store.Arena.Knots) (Bn [10] 0 (Bg (jn h)))))))
      refine KB.o false (Dq 6 8 ?_ ?_)
      ·exact KB.o false (KW.fz (.slot 25) 0 (Dh v6.1.Flash.Blocks) (KW.fz (.slot 25) 1 (Fq v6.1.Store.Vols) (KW.fz (.slot 25) 2 (Dn v6.1.Store.Arena.Knots) (oj [] h))))
      exact KB.o false (Bn [6] 0 (KW.fz (.slot 25) 0 (Dh v6.1.Flash.Blocks) (KW.fz (.slot 25) 1 (Fq v6.1.Store.Vols) (KW.fz (.slot 25) 2 (Dn v6.1.Store.Arena.Knots) (Bn [10] 0 (Bg (jn h)))))))
     ·refine KB.o false (Vn 6 7 9 ?_ ?_ ?_)
      ·exact KB.o false (KW.fz (.slot 25) 0 (Dh v6.1.Flash.Blocks) (KW.fz (.slot 25) 1 (Fq v6.1.Store.Vols) (KW.fz (.slot 25) 2 (Dn v6.1.Store.Arena.Knots) (oj [] h))))
      ·refine KB.o false (Dq 6 9 ?_ ?_)
       ·exact KB.o false (KW.fz (.slot 25) 0 (Dh v6.1.Flash.Blocks) (KW.fz (.slot 25) 1 (Fq v6.1.Store.Vols) (KW.fz (.slot 25) 2 (Dn v6.1.Store.Arena.Knots) (oj [] h))))
       exact KB.o false (Bn [6] 0 (KW.fz (.slot 25) 0 (Dh v6.1.Flash.Blocks) (KW.fz (.slot 25) 1 (Fq v6.1.Store.Vols) (KW.fz (.slot 25) 2 (Dn v6.1.Store.Arena.Knots) (Bn [10] 0 (Bg (jn h)))))))
      refine KB.o false (Dq 6 7 ?_ ?_)
      ·exact KB.o false (KW.fz (.slot 25) 0 (Dh v6.1.Flash.Blocks) (KW.fz (.slot 25) 1 (Fq v6.1.Store.Vols) (KW.fz (.slot 25) 2 (Dn v6.1.Store.Arena.Knots) (oj [] h))))
      exact KB.o false (Bn [6] 0 (KW.fz (.slot 25) 0 (Dh v6.1.Flash.Blocks) (KW.fz (.slot 25) 1 (Fq v6.1.Store.Vols) (KW.fz (.slot 25) 2 (Dn v6.1.Store.Arena.Knots) (Bn [10] 0 (Bg (jn h)))))))
     refine KB.o false (Vn 6 7 8 ?_ ?_ ?_)
     ·exact KB.o false (KW.fz (.slot 25) 0 (Dh v6.1.Flash.Blocks) (KW.fz (.slot 25) 1 (Fq v6.1.Store.Vols) (KW.fz (.slot 25) 2 (Dn v6.1.Store.Arena.Knots) (oj [] h))))
     ·refine KB.o false (Dq 6 8 ?_ ?_)
      ·exact KB.o false (KW.fz (.slot 25) 0 (Dh v6.1.Flash.Blocks) (KW.fz (.slot 25) 1 (Fq v6.1.Store.Vols) (KW.fz (.slot 25) 2 (Dn v6.1.Store.Arena.Knots) (oj [] h))))
      exact KB.o false (Bn [6] 0 (KW.fz (.slot 25) 0 (Dh v6.1.Flash.Blocks) (KW.fz (.slot 25) 1 (Fq v6.1.Store.Vols) (KW.fz (.slot 25) 2 (Dn v6.1.Store.Arena.Knots) (Bn [10] 0 (Bg (jn h)))))))
     refine KB.o false (Dq 6 7 ?_ ?_)
     ·exact KB.o false (KW.fz (.slot 25) 0 (Dh v6.1.Flash.Blocks) (KW.fz (.slot 25) 1 (Fq v6.1.Store.Vols) (KW.fz (.slot 25) 2 (Dn v6.1.Store.Arena.Knots) (oj [] h))))
     exact KB.o false (Bn [6] 0 (KW.fz (.slot 25) 0 (Dh v6.1.Flash.Blocks) (KW.fz (.slot 25) 1 (Fq v6.1.Store.Vols) (KW.fz (.slot 25) 2 (Dn v6.1.Store.Arena.Knots) (Bn [10] 0 (Bg (jn h)))))))
    refine fH h (U5 _ _) (λ_=>rfl) (λv7 gv7 h=>Bn [0] 0 (Br 4 (KB.c 0 h (dH _ _) (λv8 gv8 h=>Bn [5] 1 (AEX 6 7 8 9 ?_ ?_ ?_ ?_)))))
    ·exact KB.o false (KW.fz (.slot 25) 0 (Dh v8.1.Flash.Blocks) (KW.fz (.slot 25) 1 (Fq v8.1.Store.Vols) (KW.fz (.slot 25) 2 (Dn v8.1.Store.Arena.Knots) (oj [] h))))
    ·refine KB.o false (Vn 6 8 9 ?_ ?_ ?_)
     ·exact KB.o false (KW.fz (.slot 25) 0 (Dh v8.1.Flash.Blocks) (KW.fz (.slot 25) 1 (Fq v8.1.Store.Vols) (KW.fz (.slot 25) 2 (Dn v8.1.Store.Arena.Knots) (oj [] h))))
     ·refine KB.o false (Dq 6 9 ?_ ?_)
      ·exact KB.o false (KW.fz (.slot 25) 0 (Dh v8.1.Flash.Blocks) (KW.fz (.slot 25) 1 (Fq v8.1.Store.Vols) (KW.fz (.slot 25) 2 (Dn v8.1.Store.Arena.Knots) (oj [] h))))
      exact KB.o false (Bn [6] 0 (KW.fz (.slot 25) 0 (Dh v8.1.Flash.Blocks) (KW.fz (.slot 25) 1 (Fq v8.1.Store.Vols) (KW.fz (.slot 25) 2 (Dn v8.1.Store.Arena.Knots) (Bn [10] 0 (Bg (jn h)))))))
     refine KB.o false (Dq 6 8 ?_ ?_)
     ·exact KB.o false (KW.fz (.slot 25) 0 (Dh v8.1.Flash.Blocks) (KW.fz (.slot 25) 1 (Fq v8.1.Store.Vols) (KW.fz (.slot 25) 2 (Dn v8.1.Store.Arena.Knots) (oj [] h))))
     exact KB.o false (Bn [6] 0 (KW.fz (.slot 25) 0 (Dh v8.1.Flash.Blocks) (KW.fz (.slot 25) 1 (Fq v8.1.Store.Vols) (KW.fz (.slot 25) 2 (Dn v8.1.Store.Arena.Knots) (Bn [10] 0 (Bg (jn h)))))))
    ·refine KB.o false (Vn 6 7 9 ?_ ?_ ?_)
     ·exact KB.o false (KW.fz (.slot 25) 0 (Dh v8.1.Flash.Blocks) (KW.fz (.slot 25) 1 (Fq v8.1.Store.Vols) (KW.fz (.slot 25) 2 (Dn v8.1.Store.Arena.Knots) (oj [] h))))
     ·refine KB.o false (Dq 6 9 ?_ ?_)
      ·exact KB.o false (KW.fz (.slot 25) 0 (Dh v8.1.Flash.Blocks) (KW.fz (.slot 25) 1 (Fq v8.1.Store.Vols) (KW.fz (.slot 25) 2 (Dn v8.1.Store.Arena.Knots) (oj [] h))))
      exact KB.o false (Bn [6] 0 (KW.fz (.slot 25) 0 (Dh v8.1.Flash.Blocks) (KW.fz (.slot 25) 1 (Fq v8.1.Store.Vols) (KW.fz (.slot 25) 2 (Dn v8.1.Store.Arena.Knots) (Bn [10] 0 (Bg (jn h)))))))
     refine KB.o false (Dq 6 7 ?_ ?_)
     ·exact KB.o false (KW.fz (.slot 25) 0 (Dh v8.1.Flash.Blocks) (KW.fz (.slot 25) 1 (Fq v8.1.Store.Vols) (KW.fz (.slot 25) 2 (Dn v8.1.Store.Arena.Knots) (oj [] h))))
     exact KB.o false (Bn [6] 0 (KW.fz (.slot 25) 0 (Dh v8.1.Flash.Blocks) (KW.fz (.slot 25) 1 (Fq v8.1.Store.Vols) (KW.fz (.slot 25) 2 (Dn v8.1.Store.Arena.Knots) (Bn [10] 0 (Bg (jn h)))))))
    refine KB.o false (Vn 6 7 8 ?_ ?_ ?_)
    ·exact KB.o false (KW.fz (.slot 25) 0 (Dh v8.1.Flash.Blocks) (KW.fz (.slot 25) 1 (Fq v8.1.Store.Vols) (KW.fz (.slot 25) 2 (Dn v8.1.Store.Arena.Knots) (oj [] h))))
    ·refine KB.o false (Dq 6 8 ?_ ?_)
     ·exact KB.o false (KW.fz (.slot 25) 0 (Dh v8.1.Flash.Blocks) (KW.fz (.slot 25) 1 (Fq v8.1.Store.Vols) (KW.fz (.slot 25) 2 (Dn v8.1.Store.Arena.Knots) (oj [] h))))
     exact KB.o false (Bn [6] 0 (KW.fz (.slot 25) 0 (Dh v8.1.Flash.Blocks) (KW.fz (.slot 25) 1 (Fq v8.1.Store.Vols) (KW.fz (.slot 25) 2 (Dn v8.1.Store.Arena.Knots) (Bn [10] 0 (Bg (jn h)))))))
    refine KB.o false (Dq 6 7 ?_ ?_)
    ·exact KB.o false (KW.fz (.slot 25) 0 (Dh v8.1.Flash.Blocks) (KW.fz (.slot 25) 1 (Fq v8.1.Store.Vols) (KW.fz (.slot 25) 2 (Dn v8.1.Store.Arena.Knots) (oj [] h))))
    exact KB.o false (Bn [6] 0 (KW.fz (.slot 25) 0 (Dh v8.1.Flash.Blocks) (KW.fz (.slot 25) 1 (Fq v8.1.Store.Vols) (KW.fz (.slot 25) 2 (Dn v8.1.Store.Arena.Knots) (Bn [10] 0 (Bg (jn h)))))))
   intro j1 h E hE;exact AY hE (Au (gn 3 0 (jl h)))
  exact Wp.exit (jv h)
 intro v9 h E hE;exact AY hE (ws (gn 2 0 (Wp.ret (rr h▸rx))))
theorem XS (a:List Int) (r:AE) (h:LT a=some r):AP Tryz.prog 6 [.sv (.one (PE a))] (.agg (Sl false r)) (rg 1):=by
 exact gk Tryz.func6 rfl Tryz.ntmps6 (ws (gw 1 0 (Ai 1 0 (AEV h (Xv _) (λv1 gv1 h=>F5 h (Z8 _) (λ_=>rfl) (λv2 gv2 h=>gn 1 0 (Wp.ret (rr h▸rq))))))))
def VL (z1:List Int) (z2:Int) (z3:List Int) (z4:Int) (z5:Int):St:=AA [(3,(pb 7)),(4,(.one (EO z1))),(5,(I z2))] [(.box 7,[PE z3,i6 z4,i6 z5])]
def VK (z6:List Int):St:=AA [(4,(.one (EO z6)))] []
theorem XR (a:List Int) (r:List Int) (h:LS a=some r):AP Tryz.prog 7 [.sv (.one (PE a))] (.one (EO r)) (rg 1):=by
 refine gk Tryz.func7 rfl Tryz.ntmps7 (ws (gw 1 0 (Ai 1 0 (AEV h (Xv _) (λv1 gv1 h=>gw 1 0 (Ai 1 0 (F5 h (Jh _) (λ_=>rfl) (λv2 gv2 h=>RW.nil (ws (gn 2 2 (Wp.seq (ws (gn 1 0 (BM h [3,4,5] [.box 7] (λs=>(VL s.1 s.2.1 s.2.2.1 s.2.2.2.1 s.2.2.2.2)) [4] [] (λs=>(VK s)) Eu ?_ ?_))))))))))))))
 ·rintro⟨b,c,y01,y11,y21⟩ o (h:FU b c y01 y11 y21=some o);refine Wp.seq (ws (gn 2 0 (wc h (λh=>?_) (λh=>?_))))
  ·exact Wp.skip (Wp.seq (Wp.block (Au (Ai 2 0 (F5 h (Di _ _) (λ_=>rfl) (λv3 gv3 h=>Ai 1 0 (bd h λq1 gq1 h=>CM (Dm k3 (λ_=>rfl) b gq1) (gn 1 1 (Au (gn 3 0 (jl h)))))))))))
  exact Wp.exit (jv h)
 intro v4 h E hE;exact AY hE (ws (gn 2 2 (Wp.ret (rr h▸rq))))
theorem Fx (xN:Int) (b:Int) (a:Int) (r:Bool) (h:Jt xN b a=some r):AP Tryz.prog 146 [.sv (I xN),.sv (I b),.sv (I a)] (B r) (rg 3):=by
 refine gk Tryz.func146 rfl Tryz.ntmps146 (ws (gw 1 0 (Ai 4 0 (AM 10 h (λh=>?_) (λh=>?_)))))
 ·exact gn 5 0 (Wp.ret (rr h▸rq))
 exact gn 5 0 (Wp.ret (rr h▸rq))
theorem wN (xA:Arena) (a:Int) (r:Bool) (h:Tb xA a=some r):AP Tryz.prog 186 [.sv (.agg (Ze false xA)),.sv (I a)] (B r) (rg 2):=by
 refine gk Tryz.func186 rfl Tryz.ntmps186 (ws (gw 2 0 (Ai 3 0 (RW.q (CT (CS false) xA.Knots) (Ai 1 0 (RW.c 0 h (Fx _ _ _) (λv1 gv1 h=>Ai 1 0 (AM 11 h (λh=>?_) (λh=>?_)))))))))
 ·exact Ai 3 0 (CG (CS false) h (λx1 gx1 h=>RW.q (DH (CS false) gx1 0 0) (RW.q (CK (CS false) gx1 0) (gn 3 0 (Wp.ret (rr h▸rq))))))
 exact gn 9 0 (Wp.ret (rr h▸rq))
def mM (xA:Arena) (z1:Int):St:=AA [(1,(pb 1)),(8,(.one (BP xA.Knots))),(9,(I (ln xA.Knots))),(10,(I z1))] [(.box 1,[BP xA.Knots])]
def mL:St:=AA [] []
def mK (xA:Arena) (y1:Int) (x1:Cb) (z2:Int):St:=AA [(1,(pb 1)),(3,(I y1)),(4,(pb 4)),(8,(.one (BP xA.Knots))),(9,(I (ln xA.Knots))),(10,(I y1)),(20,(.one (QP x1.Kids))),(21,(I (ln x1.Kids))),(22,(I z2))] [(.box 1,[BP xA.Knots]),(.box 4,[tb x1.Leaf,QP x1.Kids])]
def mJ (xA:Arena) (y1:Int):St:=AA [(1,(pb 1)),(8,(.one (BP xA.Knots))),(9,(I (ln xA.Knots))),(10,(I y1))] [(.box 1,[BP xA.Knots])]
def mI (xA:Arena) (y1:Int) (x1:Cb) (y2:Int) (z3:Bool):St:=AA [(1,(pb 1)),(3,(I y1)),(4,(pb 4)),(8,(.one (BP xA.Knots))),(9,(I (ln xA.Knots))),(10,(I y1)),(20,(.one (QP x1.Kids))),(21,(I (ln x1.Kids))),(22,(I y2)),(56,(B z3))] [(.box 1,[BP xA.Knots]),(.box 4,[tb x1.Leaf,QP x1.Kids])]
theorem sE (xA:Arena) (r:Bool) (h:Rb xA=some r):AP Tryz.prog 187 [.sv (.agg (Ze false xA))] (B r) (rg 1):=by
 refine gk Tryz.func187 rfl Tryz.ntmps187 (ws (gn 2 0 (Wp.seq (ws (Ai 2 0 (RW.q (CT (CS false) xA.Knots) (gn 1 0 (Er h [1,8,9,10] [.box 1] (λs=>(mM xA s)) [] [] (λ_=>mL) Eu ?_ ?_))))))))
 ·rintro y1 o (h:Me xA y1=some o) hk1;refine ws (gn 1 0 (Wp.seq (wc h (λh=>?_) (λh=>?_))))
  ·refine Wp.skip (Wp.seq (Wp.block (ws (Ai 1 0 (CG (CS false) h (λx1 gx1 h=>RW.q (MW (CS false) gx1 0 2) (gn 3 0 (Wp.seq (ws (Ai 2 0 (RW.q (CT k3 x1.Kids) (gn 1 0 (wc h (λh=>?_) (λh=>?_))))))))))))))
   ·exact ws (gn 1 0 (Wp.ret (rr (jo h hk1)▸rq)))
   refine Wp.skip (ws (Ai 2 0 (RW.q (CT k3 x1.Kids) (gn 1 0 (Er h [1,3,4,8,9,10,20,21,22] [.box 1,.box 4] (λs=>(mK xA y1 x1 s)) [1,8,9,10] [.box 1] (λ_=>(mJ xA y1)) Eu ?_ ?_)))))
   ·rintro y2 o (h:Md xA y1 x1 y2=some o) hk2;refine ws (gn 1 0 (Wp.seq (wc h (λh=>?_) (λh=>?_))))
    ·refine Wp.skip (Wp.seq (Wp.block (ws (CG k3 h (λx2 gx2 h=>RW.q (CK k3 gx2 0) (gn 1 0 (Fp h [1,3,4,8,9,10,20,21,22,56] [.box 1,.box 4] (λa=>(mI xA y1 x1 y2 a)) (λa h=>?_) (λj1 h=>?_))))))))
     ·refine Au (Ai 3 0 (AM 28 h (λh=>?_) (λh=>?_)))
      ·refine Ai 4 0 (AM 32 h (λh=>?_) (λh=>?_))
       ·exact gn 24 0 (jn h)
       refine Ai 4 0 (AM 36 h (λh=>?_) (λh=>?_))
       ·refine Ai 4 0 (AM 40 h (λh=>?_) (λh=>?_))
        ·refine Ai 3 0 (RW.c 0 h (Fx _ _ _) (λv1 gv1 h=>Ai 2 0 (AM 46 h (λh=>?_) (λh=>?_))))
         ·exact gn 10 0 (jn h)
         exact Ai 3 0 (CG (CS false) h (λx3 gx3 h=>RW.q (DH (CS false) gx3 0 0) (RW.q (CK (CS false) gx3 0) (gn 4 0 (jn h)))))
        exact gn 16 0 (jn h)
       exact gn 20 0 (jn h)
      refine Ai 8 0 (AM 36 h (λh=>?_) (λh=>?_))
      ·refine Ai 4 0 (AM 40 h (λh=>?_) (λh=>?_))
       ·refine Ai 3 0 (RW.c 0 h (Fx _ _ _) (λv2 gv2 h=>Ai 2 0 (AM 46 h (λh=>?_) (λh=>?_))))
        ·exact gn 10 0 (jn h)
        exact Ai 3 0 (CG (CS false) h (λx4 gx4 h=>RW.q (DH (CS false) gx4 0 0) (RW.q (CK (CS false) gx4 0) (gn 4 0 (jn h)))))
       exact gn 16 0 (jn h)
      exact gn 20 0 (jn h)
     refine wc h (λh=>?_) (λh=>?_)
     ·exact ws (gn 1 0 (Wp.ret (rr (jo (jo h hk2) hk1)▸rq)))
     exact Wp.skip (Au (gn 2 0 (jl h)))
    exact Wp.exit (jx h)
   intro v3 h E hE;exact AY hE (Au (gn 2 0 (jl h)))
  exact Wp.exit (jx h)
 intro v4 h E hE;exact AY hE (ws (gn 1 0 (Wp.ret (rr h▸rq))))
theorem kP (xA:Arena) (b:Int) (a:Int) (r:Int) (h:Se xA b a=some r):AP Tryz.prog 188 [.sv (.agg (Ze false xA)),.sv (I b),.sv (I a)] (I r) (rg 3):=by
 refine gk Tryz.func188 rfl Tryz.ntmps188 (ws (gw 2 0 (Ai 3 0 (CG (CS false) h (λx1 gx1 h=>RW.q (DH (CS false) gx1 0 1) (RW.q (CK (CS false) gx1 1) (Ai 2 0 (CG k3 h (λx2 gx2 h=>RW.q (CK k3 gx2 0) (gn 1 0 (Wp.seq (ws (gn 2 0 (wc h (λh=>?_) (λh=>?_)))))))))))))))
 ·exact ws (gn 1 0 (Wp.ret (rr h▸rq)))
 exact Wp.skip (ws (Ai 3 0 (CG (CS false) h (λx3 gx3 h=>RW.q (DH (CS false) gx3 0 1) (RW.q (CK (CS false) gx3 1) (Ai 2 0 (CG k3 h (λx4 gx4 h=>RW.q (CK k3 gx4 0) (gn 1 0 (Wp.ret (rr h▸rq)))))))))))
def wS (xA:Arena) (b:Int) (a:Int) (z1:Bool):St:=AA [(1,(I b)),(2,(I a)),(3,(pb 3)),(20,(B z1))] [(.box 3,[BP xA.Knots])]
theorem ABa (xA:Arena) (d:Int) (b:Int) (r:Int) (h:Wv xA d b=some r):AP Tryz.prog 147 [.sv (.agg (Ze false xA)),.sv (I d),.sv (I b)] (I r) (rg 3):=by
 refine gk Tryz.func147 rfl Tryz.ntmps147 (ws (gn 2 0 (Wp.seq (Fp h [1,2,3,20] [.box 3] (λa=>(wS xA d b a)) (λa h=>?_) (λj1 h=>?_)))))
 ·refine Au (Ai 1 0 (RW.c 0 h (Fx _ _ _) (λv1 gv1 h=>Ai 2 0 (AM 10 h (λh=>?_) (λh=>?_)))))
  ·exact gn 10 0 (jn h)
  refine Ai 2 0 (RW.c 0 h (wN _ _) (λv2 gv2 h=>Ai 3 0 (AM 16 h (λh=>?_) (λh=>?_))))
  ·exact gn 4 0 (jn h)
  exact Ai 1 0 (RW.c 0 h (sE _) (λv3 gv3 h=>gn 2 0 (jn h)))
 refine wc h (λh=>?_) (λh=>?_)
 ·exact ws (gn 1 0 (Wp.ret (rr h▸rq)))
 exact Wp.skip (ws (Ai 3 0 (RW.c 0 h (kP _ _ _) (λv4 gv4 h=>gn 1 0 (Wp.ret (rr h▸rq))))))
def wU (xA:Arena) (a:Int) (z1:List Int) (z2:Int):St:=AA [(1,(I a)),(2,(pb 2)),(5,(.one (EO z1))),(7,(I z2))] [(.box 2,[BP xA.Knots])]
def wT (z3:List Int):St:=AA [(5,(.one (EO z3)))] []
theorem eM (xA:Arena) (a:Int) (r:List Int) (h:Th xA a=some r):AP Tryz.prog 80 [.sv (.agg (Ze false xA)),.sv (I a)] (.one (EO r)) (rg 2):=by
 refine gk Tryz.func80 rfl Tryz.ntmps80 (ws (gw 2 0 (gn 1 0 (Wp.seq (ws (gn 1 0 (BM h [1,2,5,7] [.box 2] (λs=>(wU xA a s.1 s.2)) [5] [] (λs=>(wT s)) Eu ?_ ?_)))))))
 ·rintro⟨b,y1⟩ o (h:MO xA a b y1=some o);refine ws (gn 1 0 (Wp.seq (wc h (λh=>?_) (λh=>?_))))
  ·exact Wp.skip (Wp.seq (Wp.block (ws (gn 2 0 (Au (Ai 4 0 (RW.c 0 h (ABa _ _ _) (λv1 gv1 h=>Ai 1 0 (bd h λq1 gq1 h=>CM (Dm k3 (λ_=>rfl) b gq1) (gn 1 1 (Au (gn 2 0 (jl h)))))))))))))
  exact Wp.exit (jv h)
 intro v2 h E hE;exact AY hE (ws (gn 2 2 (Wp.ret (rr h▸rq))))
def bM (xS:Store) (z1:List Int) (z2:Int):St:=AA [(1,(pb 1)),(3,(.one (EO z1))),(9,(.one (DN xS.Vols))),(10,(I (ln xS.Vols))),(11,(I z2))] [(.box 1,[DN xS.Vols,BP xS.Arena.Knots,i6 xS.Next])]
def bL (z3:List Int):St:=AA [(3,(.one (EO z3)))] []
def bK (xS:Store) (y1:Int) (v1:List Int) (z4:List Int) (z5:Int):St:=AA [(1,(pb 1)),(3,(.one (EO z4))),(9,(.one (DN xS.Vols))),(10,(I (ln xS.Vols))),(11,(I y1)),(19,(.one (EO v1))),(20,(I (ln v1))),(21,(I z5))] [(.box 1,[DN xS.Vols,BP xS.Arena.Knots,i6 xS.Next])]
def bJ (xS:Store) (y1:Int) (z6:List Int):St:=AA [(1,(pb 1)),(3,(.one (EO z6))),(9,(.one (DN xS.Vols))),(10,(I (ln xS.Vols))),(11,(I y1))] [(.box 1,[DN xS.Vols,BP xS.Arena.Knots,i6 xS.Next])]
theorem kR (xS:Store) (r:List Int) (h:Pc xS=some r):AP Tryz.prog 105 [.sv (.agg (Sm false xS))] (.one (EO r)) (rg 1):=by
 refine gk Tryz.func105 rfl Tryz.ntmps105 (ws (gw 2 0 (gn 1 0 (Wp.seq (ws (Ai 2 0 (RW.q (CT E4 xS.Vols) (gn 1 0 (BM h [1,3,9,10,11] [.box 1] (λs=>(bM xS s.1 s.2)) [3] [] (λs=>(bL s)) Eu ?_ ?_)))))))))
 ·rintro⟨b,y1⟩ o (h:IF xS b y1=some o);refine ws (gn 1 0 (Wp.seq (wc h (λh=>?_) (λh=>?_))))
  ·refine Wp.skip (Wp.seq (Wp.block (ws (CG E4 h (λx1 gx1 h=>RW.q (MW E4 gx1 0 2) (gw 2 0 (Ai 4 0 (RW.c 0 h (eM _ _) (λv1 gv1 h=>RW.q (CT k3 v1) (gn 1 0 (BM h [1,3,9,10,11,19,20,21] [.box 1] (λs=>(bK xS y1 v1 s.1 s.2)) [1,3,9,10,11] [.box 1] (λs=>(bJ xS y1 s)) Eu ?_ ?_)))))))))))
   ·rintro⟨a,y2⟩ o (h:IE v1 a y2=some o);refine ws (gn 1 0 (Wp.seq (wc h (λh=>?_) (λh=>?_))))
    ·refine Wp.skip (Wp.seq (Wp.block (ws (CG k3 h (λx2 gx2 h=>RW.q (CK k3 gx2 0) (gw 1 0 (gn 2 0 (wc h (λh=>?_) (λh=>?_)))))))))
     ·exact Au (Ai 3 0 (bd h λq1 gq1 h=>CM (Dm k3 (λ_=>rfl) a gq1) (gn 1 1 (Au (gn 2 0 (jl h))))))
     exact Wp.skip (Au (gn 2 0 (jl h)))
    exact Wp.exit (jv h)
   intro v2 h E hE;exact AY hE (Au (gn 2 0 (jl h)))
  exact Wp.exit (jv h)
 intro v3 h E hE;exact AY hE (ws (gn 2 2 (Wp.ret (rr h▸rq))))
def sD (v2:List Int) (z1:List Int) (z2:Int):St:=AA [(3,(.one (EO v2))),(4,(.one (EO z1))),(11,(.one (.view (.slot 3) 0 [] 0))),(12,(I (ln v2))),(13,(I z2))] []
def sC (z3:List Int):St:=AA [(4,(.one (EO z3)))] []
def r9 (v2:List Int) (a:List Int) (y1:Int) (x1:Int) (z4:Bool):St:=AA [(3,(.one (EO v2))),(4,(.one (EO a))),(6,(I x1)),(11,(.one (.view (.slot 3) 0 [] 0))),(12,(I (ln v2))),(13,(I y1)),(28,(B z4))] []
theorem wR (xS:Store) (r:List Int) (h:Lt xS=some r):AP Tryz.prog 63 [.sv (.agg (Sm false xS))] (.one (EO r)) (rg 1):=by
 refine gk Tryz.func63 rfl Tryz.ntmps63 (ws (gw 2 0 (Ai 1 0 (RW.c 0 h (kR _) (λv1 gv1 h=>gw 1 1 (Ai 1 0 (AGn (enc:=c3) h AGU (λv2 gv2 h=>RW.nil (ws (gn 1 0 (Wp.seq (ws (Ai 1 0 (RW.q (CT k3 v2) (gn 1 0 (BM h [3,4,11,12,13] [] (λs=>(sD v2 s.1 s.2)) [4] [] (λs=>(sC s)) Eu ?_ ?_))))))))) (λ_=>rfl))))))))
 ·rintro⟨b,y1⟩ o (h:Ls v2 b y1=some o);refine ws (gn 1 0 (Wp.seq (wc h (λh=>?_) (λh=>?_))))
  ·refine Wp.skip (Wp.seq (Wp.block (ws (Ai 1 0 (CG k3 h (λx1 gx1 h=>RW.q (CK k3 gx1 0) (gn 2 0 (Fp h [3,4,6,11,12,13,28] [] (λa=>(r9 v2 b y1 x1 a)) (λa h=>?_) (λj1 h=>?_)))))))))
   ·refine Au (Ai 3 0 (AM 20 h (λh=>?_) (λh=>?_)))
    ·exact gn 8 0 (jn h)
    exact Ai 3 0 (CG k3 h (λx2 gx2 h=>RW.q (CK k3 gx2 0) (gn 3 0 (jn h))))
   refine wc h (λh=>?_) (λh=>?_)
   ·exact Au (Ai 3 0 (bd h λq1 gq1 h=>CM (Dm k3 (λ_=>rfl) b gq1) (gn 1 1 (Au (gn 2 0 (jl h))))))
   exact Wp.skip (Au (gn 2 0 (jl h)))
  exact Wp.exit (jv h)
 intro v3 h E hE;exact AY hE (ws (gn 2 2 (Wp.ret (rr h▸rq))))
def lG (a:ByteArray) (z1:Int) (z2:Int):St:=AA [(0,(.one (.int .u32 z1))),(1,(Y a)),(5,(I z2))] []
def lF (z3:Int):St:=AA [(0,(.one (.int .u32 z3)))] []
def lE (a:ByteArray) (b:Int) (z4:Int) (z5:Int):St:=AA [(0,(.one (.int .u32 z4))),(1,(Y a)),(5,(I b)),(19,(I z5))] []
def lD (a:ByteArray) (b:Int) (z6:Int):St:=AA [(0,(.one (.int .u32 z6))),(1,(Y a)),(5,(I b))] []
theorem rV (b:Int) (a:ByteArray) (r:Int) (h:QW b a=some r):AP Tryz.prog 200 [.sv (.one (.int .u32 b)),.sv (Y a)] (.one (.int .u32 r)) (rg 2):=by
 refine gk Tryz.func200 rfl Tryz.ntmps200 (ws (gn 1 0 (Wp.seq (ws (gn 1 0 (BM h [0,1,5] [] (λs=>(lG a s.1 s.2)) [0] [] (λs=>(lF s)) Eu ?_ ?_))))))
 ·rintro⟨c,d⟩ o (h:JN a c d=some o);refine Wp.seq (ws (gn 4 0 (wc h (λh=>?_) (λh=>?_))))
  ·refine Wp.skip (Wp.seq (Wp.block (ws (Ai 3 0 (bd h λx1 gx1 h=>RW.q (psx gx1) (gw 3 0 (gn 1 0 (BM h [0,1,5,19] [] (λs=>(lE a d s.1 s.2)) [0,1,5] [] (λs=>(lD a d s)) Eu ?_ ?_))))))))
   ·rintro⟨e,y1⟩ o (h:Iv e y1=some o);refine ws (gn 1 0 (Wp.seq (wc h (λh=>?_) (λh=>?_))))
    ·refine Wp.skip (Wp.seq (Wp.block (ws (gw 3 0 (gw 3 0 (gn 2 0 (wc h (λh=>?_) (λh=>?_))))))))
     ·exact Au (gn 3 0 (Au (gn 2 0 (jl h))))
     exact Wp.skip (Au (gn 2 0 (jl h)))
    exact Wp.exit (jv h)
   intro v1 h E hE;exact AY hE (Au (gn 3 0 (jl h)))
  exact Wp.exit (jv h)
 intro v2 h E hE;exact AY hE (ws (gn 2 0 (Wp.ret (rr h▸rq))))
theorem AA8 (a:ByteArray) (r:Int) (h:Wt a=some r):AP Tryz.prog 176 [.sv (Y a)] (.one (.int .u32 r)) (rg 1):=by
 exact gk Tryz.func176 rfl Tryz.ntmps176 (ws (gw 1 0 (Ai 1 0 (RW.c 0 h (rV _ _) (λv1 gv1 h=>gn 1 0 (Wp.ret (rr h▸rq)))))))
theorem K5 (a:ByteArray) (r:ByteArray×Bool) (h:HP a=some r):AP Tryz.prog 127 [.sv (Y a)] (.tup [(Y r.1),(B r.2)]) (rg 1):=by
 refine gk Tryz.func127 rfl Tryz.ntmps127 (ws (gn 2 0 (Wp.seq (ws (gn 3 0 (wc h (λh=>?_) (λh=>?_)))))))
 ·exact ws (gn 2 0 (Wp.ret (rr h▸rq)))
 exact Wp.skip (ws (Ai 1 0 (RW.c 0 h (AA8 _) (λv1 gv1 h=>gw 1 0 (Ai 13 0 (RW.q (tW (f:=c5) (λ_=>rfl) [(IntKind.u8.wrap (Int.fdiv v1 (2^(min (24:Int).toNat IntKind.u32.bits)))),(IntKind.u8.wrap (Int.fdiv v1 (2^(min (16:Int).toNat IntKind.u32.bits)))),(IntKind.u8.wrap (Int.fdiv v1 (2^(min (8:Int).toNat IntKind.u32.bits)))),(IntKind.u8.wrap v1)]) (bd h λx1 gx1 h=>RW.q (Fj gx1) (gn 2 0 (Wp.ret (rr h▸rq))))))))))
def bN (x1:ByteArray) (z1:Bool):St:=AA [(4,(Y x1)),(26,(B z1))] []
theorem kW (b:ByteArray) (r:ByteArray×Bool) (h:Pe b=some r):AP Tryz.prog 152 [.sv (Y b)] (.tup [(Y r.1),(B r.2)]) (rg 1):=by
 refine gk Tryz.func152 rfl Tryz.ntmps152 (ws (gn 2 0 (Wp.seq (ws (gn 3 0 (wc h (λh=>?_) (λh=>?_)))))))
 ·exact ws (gn 2 0 (Wp.ret (rr h▸rq)))
 refine Wp.skip (ws (Ai 4 0 (bd h λx1 gx1 h=>RW.q (VQ gx1) (gw 1 0 (Ai 1 0 (RW.c 0 h (K5 _) (λv1 gv1 h=>gn 5 1 (Wp.seq (Fp h [4,26] [] (λa=>(bN x1 a)) (λa h=>?_) (λj1 h=>?_))))))))))
 ·refine Au (Ai 3 0 (AM 22 h (λh=>?_) (λh=>?_)))
  ·exact gn 4 0 (jn h)
  exact gn 4 0 (jn h)
 refine wc h (λh=>?_) (λh=>?_)
 ·exact ws (gn 2 0 (Wp.ret (rr h▸rq)))
 exact Wp.skip (ws (gn 3 0 (Wp.ret (rr h▸rq))))
def lP (a:ByteArray) (b:Int) (z1:Int) (z2:Int):St:=AA [(0,(Y a)),(1,(I b)),(7,(I z1)),(8,(I z2))] []
def lO:St:=AA [] []
def lN (a:ByteArray) (b:Int) (c:Int) (d:Int) (z3:Bool):St:=AA [(0,(Y a)),(1,(I b)),(7,(I c)),(8,(I d)),(23,(B z3))] []
def lM (a:Int) (b:Int) (c:Int) (x2:Int) (z4:Bool):St:=AA [(1,(I a)),(7,(I (ad b x2))),(8,(I c)),(50,(B z4))] []
theorem rY (b:ByteArray) (c:Int) (r:Int×Int×Bool) (h:Mr b c=some r):AP Tryz.prog 153 [.sv (Y b),.sv (I c)] (.tup [(I r.1),(I r.2.1),(B r.2.2)]) (rg 2):=by
 refine gk Tryz.func153 rfl Tryz.ntmps153 (ws (gw 3 0 (gn 1 0 (Wp.seq (ws (gn 1 0 (Er h [0,1,7,8] [] (λs=>(lP b c s.1 s.2)) [] [] (λ_=>lO) Eu ?_ ?_)))))))
 ·rintro⟨d,e⟩ o (h:GV b c d e=some o) hk1;refine Wp.seq (Fp h [0,1,7,8,23] [] (λa=>(lN b c d e a)) (λa h=>?_) (λj1 h=>?_))
  ·refine Au (Ai 3 0 (AM 12 h (λh=>?_) (λh=>?_)))
   ·refine Ai 4 0 (AM 16 h (λh=>?_) (λh=>?_))
    ·exact gn 7 0 (jn h)
    exact gn 7 0 (jn h)
   exact gn 11 0 (jn h)
  refine wc h (λh=>?_) (λh=>?_)
  ·refine Wp.skip (Wp.seq (Wp.block (ws (Ai 4 0 (bd h λx1 gx1 h=>RW.q (psx gx1) (gw 2 0 (Ai 5 0 (bd h λx2 gx2 h=>RW.q (AGJ gx2) (gn 2 0 (Wp.seq (ws (gn 2 0 (wc h (λh=>?_) (λh=>?_))))))))))))))
   ·exact Wp.exit (Au (gn 3 0 (jl h)))
   refine Wp.skip (Wp.seq (Fp h [1,7,8,50] [] (λa=>(lM c d e x2 a)) (λa h=>?_) (λj2 h=>?_)))
   ·refine Au (Ai 3 0 (AM 43 h (λh=>?_) (λh=>?_)))
    ·refine Ai 4 0 (AM 47 h (λh=>?_) (λh=>?_))
     ·exact gn 3 0 (jn h)
     exact gn 3 0 (jn h)
    exact gn 7 0 (jn h)
   refine wc h (λh=>?_) (λh=>?_)
   ·exact ws (gn 3 0 (Wp.ret (rr (jo h hk1)▸rq)))
   exact Wp.skip (ws (gn 8 0 (Wp.ret (rr (jo h hk1)▸rq))))
  exact Wp.exit (jx h)
 intro v1 h E hE;exact AY hE (ws (gn 3 0 (Wp.ret (rr h▸rq))))
def r7 (xP:Page) (z1:Bool):St:=AA [(1,(pb 1)),(33,(B z1))] [(.box 1,[i6 xP.Kind,i6 xP.Seq,i6 xP.Tx,i6 xP.Part,i6 xP.Count,ts xP.Text])]
theorem Y8 (xP:Page) (r:Bool) (h:Qt xP=some r):AP Tryz.prog 126 [.sv (.agg (c65 xP))] (B r) (rg 1):=by
 refine gk Tryz.func126 rfl Tryz.ntmps126 (ws (gn 2 0 (Wp.seq (Fp h [1,33] [.box 1] (λa=>(r7 xP a)) (λa h=>?_) (λj1 h=>?_)))))
 ·refine Au (Ai 2 0 (RW.c 0 h (Fx _ _ _) (λv1 gv1 h=>Ai 2 0 (AM 7 h (λh=>?_) (λh=>?_)))))
  ·exact gn 26 0 (jn h)
  refine Ai 2 0 (RW.c 0 h (Fx _ _ _) (λv2 gv2 h=>Ai 3 0 (AM 13 h (λh=>?_) (λh=>?_))))
  ·exact gn 20 0 (jn h)
  refine Ai 2 0 (RW.c 0 h (Fx _ _ _) (λv3 gv3 h=>Ai 3 0 (AM 19 h (λh=>?_) (λh=>?_))))
  ·exact gn 14 0 (jn h)
  refine Ai 5 0 (RW.c 0 h (Fx _ _ _) (λv4 gv4 h=>Ai 3 0 (AM 28 h (λh=>?_) (λh=>?_))))
  ·exact gn 5 0 (jn h)
  exact gn 5 0 (jn h)
 refine wc h (λh=>?_) (λh=>?_)
 ·exact ws (gn 1 0 (Wp.ret (rr h▸rq)))
 refine Wp.skip (ws (Ai 4 0 (AM 37 h (λh=>?_) (λh=>?_))))
 ·exact gn 10 0 (Wp.ret (rr h▸rq))
 refine Ai 4 0 (AM 41 h (λh=>?_) (λh=>?_))
 ·exact gn 6 0 (Wp.ret (rr h▸rq))
 exact gn 6 0 (Wp.ret (rr h▸rq))
def bS (v1:ByteArray×Bool) (z1:Bool):St:=AA [(2,(pb 2)),(4,(Y v1.1)),(23,(B z1))] [(.box 2,[i6 0,i6 0,i6 0,i6 0,i6 0,ts (bs [])])]
def bR (v1:ByteArray×Bool) (z2:Int) (z3:Int) (z4:Int) (z5:Int) (z6:Int) (z7:Int):St:=AA [(2,(pb 2)),(4,(Y v1.1)),(6,(pb 6)),(7,(I z2)),(25,(I z3))] [(.box 2,[i6 0,i6 0,i6 0,i6 0,i6 0,ts (bs [])]),(.box 6,[i6 z4,i6 z5,i6 z6,i6 z7])]
def bQ (v1:ByteArray×Bool) (z8:Int) (z9:Int) (z10:Int) (z11:Int) (z12:Int):St:=AA [(2,(pb 2)),(4,(Y v1.1)),(6,(pb 6)),(7,(I z8))] [(.box 2,[i6 0,i6 0,i6 0,i6 0,i6 0,ts (bs [])]),(.box 6,[i6 z9,i6 z10,i6 z11,i6 z12])]
theorem lS (xT:ByteArray) (r:Page×Bool) (h:Pf xT=some r):AP Tryz.prog 83 [.sv (Y xT)] (.tup [(.agg (c65 r.1)),(B r.2)]) (rg 1):=by
 refine gk Tryz.func83 rfl Tryz.ntmps83 (ws (gw 2 0 (Ai 1 0 (RW.c 0 h (kW _) (λv1 gv1 h=>gn 5 1 (Wp.seq (Fp h [2,4,23] [.box 2] (λa=>(bS v1 a)) (λa h=>?_) (λj1 h=>?_))))))))
 ·refine Au (Ai 3 0 (AM 20 h (λh=>?_) (λh=>?_)))
  ·exact gn 3 0 (jn h)
  exact gn 3 0 (jn h)
 refine wc h (λh=>?_) (λh=>?_)
 ·exact ws (gn 3 0 (Wp.ret (rr h▸rq)))
 refine Wp.skip (ws (gw 1 0 (gn 1 0 (Wp.seq (ws (gn 1 0 (Er h [2,4,6,7,25] [.box 2,.box 6] (λs=>(bR v1 s.1 s.2.1 s.2.2.1 s.2.2.2.1 s.2.2.2.2.1 s.2.2.2.2.2)) [2,4,6,7] [.box 2,.box 6] (λs=>(bQ v1 s.1 s.2.1 s.2.2.1 s.2.2.2.1 s.2.2.2.2)) Eu ?_ ?_)))))))
 ·rintro⟨b,y1,d,e,f,g⟩ o (h:E5 v1 b y1 d e f g=some o) hk1;refine ws (gn 1 0 (Wp.seq (wc h (λh=>?_) (λh=>?_))))
  ·refine Wp.skip (Wp.seq (Wp.block (ws (gw 2 0 (Ai 2 0 (RW.c 0 h (rY _ _) (λv2 gv2 h=>gn 7 1 (Wp.seq (ws (gn 2 0 (wc h (λh=>?_) (λh=>?_))))))))))))
   ·exact ws (gn 3 0 (Wp.ret (rr (jo h hk1)▸rq)))
   refine Wp.skip (Au (Ai 3 0 (mZ h (λhb h=>?_) (λh=>?_))))
   ·exact RW.q (pxa 0 (eq_of_beq hb)) (gn 2 0 (Au (gn 2 0 (jl h))))
   refine mZ h (λhb h=>?_) (λh=>?_)
   ·exact RW.q (pxa 1 (eq_of_beq hb)) (gn 2 0 (Au (gn 2 0 (jl h))))
   refine mZ h (λhb h=>?_) (λh=>?_)
   ·exact RW.q (pxa 2 (eq_of_beq hb)) (gn 2 0 (Au (gn 2 0 (jl h))))
   refine mZ h (λhb h=>?_) (λh=>?_)
   ·exact RW.q (pxa 3 (eq_of_beq hb)) (gn 2 0 (Au (gn 2 0 (jl h))))
   cases h
  exact Wp.exit (jx h)
 intro v3 h E hE;refine AY hE (Wp.seq (DM [16] mixed (λ_ _=>nP) (Bn [0] 0 (bd h λx1 gx1 h=>KW.q 1 (psx gx1) (Bn [2,3,4,5,6,7,8,9,10,11,12] 0 (bd h λx2 gx2 h=>KW.q 13 (VQ gx2) (Bn [14,15,16] 0 (Bg (Wp.seq (ws (Ai 1 0 (RW.c 0 h (Y8 _) (λv4 gv4 h=>gn 1 0 (wc h (λh=>?_) (λh=>?_)))))))))))))))
 ·exact ws (gn 3 0 (Wp.ret (rr h▸rq)))
 exact Wp.skip (ws (gn 3 0 (Wp.ret (rr h▸rq))))
theorem AGh:∀x,(c67 x).all TV.flat=true:=λ_=>rfl
theorem bO (n b g cap:Nat) (T:TypeId) (hb:b≠g):JS Tryz.prog (Ky n b g cap 67 T 8 c67) (MX BJ) 85 #[.pointer (some ⟨b,0,none⟩)]:=by
 refine eG Tryz.func85 rfl rfl ?_;rintro l i j x y hx hy ⟨w,hI⟩;have hn:l.length=n:=hI.len;have hi:=AAh hx;have hj:=AAh hy;refine sF Tryz.func85 rfl rfl ?_;rw [Tryz.ntmps85];refine Wp.seq ?_;refine Wp.region ?_;refine AC.o 5 (B false) ?_;refine AC.nil ?_;refine Wp.seq ?_;refine So mixed (by decide+kernel) ?_;refine Q7 6 (.hdr ⟨g,0,none⟩ n cap) (.slice (some ⟨g,0,none⟩) n cap) ?_ rfl j9 (λw=>by simp [CB]) rfl rfl rfl;refine HW.o 7 (I i) ?_;refine nF (n:=n) 8 (m:=i) ?_ rfl Tryz.underlying61 rfl hi.1 (by omega) (by decide);refine Ut (f:=2) 9 ?_ rfl Tryz.underlying67 rfl (by decide);refine Ut (f:=1) 10 ?_ rfl Tryz.underlying65 rfl (by decide);refine Q7 (x:=10) 11 (.int .i64 (BJ x)) (.int .i64 (BJ x)) ?_ rfl (j8 (k:=3) (t:= .int .i64 (BJ x)) Et hx rfl hb (by rw [AAo];rfl)) (λw=>by simp [CB]) rfl rfl rfl;refine Q7 12 (.hdr ⟨g,0,none⟩ n cap) (.slice (some ⟨g,0,none⟩) n cap) ?_ rfl j9 (λw=>by simp [CB]) rfl rfl rfl;refine HW.o 13 (I j) ?_;refine nF (n:=n) 14 (m:=j) ?_ rfl Tryz.underlying61 rfl hj.1 (by omega) (by decide);refine Ut (f:=2) 15 ?_ rfl Tryz.underlying67 rfl (by decide);refine Ut (f:=1) 16 ?_ rfl Tryz.underlying65 rfl (by decide);refine Q7 (x:=16) 17 (.int .i64 (BJ y)) (.int .i64 (BJ y)) ?_ rfl (j8 (k:=3) (t:= .int .i64 (BJ y)) Et hy rfl hb (by rw [AAo];rfl)) (λw=>by simp [CB]) rfl rfl rfl;refine HW.o 18 (B (decide ((BJ x)<(BJ y)))) ?_;refine HW.o 5 (B (decide ((BJ x)<(BJ y)))) ?_;refine HW.nil ?_;exact Wp.ret ⟨.inr rfl,rfl,_,rfl⟩
theorem bP {l r:List Al} (h:Dt (MX BJ) l (ln l)=some r):Rk Tryz.prog 84 61 67 8 c67 85 l r:=by
 refine Rp Et h Tryz.t61 Tryz.t67 rfl rfl (by kernel_rfl) rfl 25 (λw=>rfl) rfl Tryz.isAgg67 (enters_of Tryz.func85 rfl rfl) ?_ (λn b g cap T hb=>bO n b g cap T hb);intro n
 match n with
 |0=>exact⟨107,by kernel_rfl,λh=>absurd h (by decide)⟩
 |1=>exact⟨108,by kernel_rfl,λh=>absurd h (by decide)⟩
 |n+2=>
  have hk:Go.Lib.swapperK (n+2) Tryz.t67 25=9:=rfl;rw [hk];exact⟨115,by kernel_rfl,λ_=>⟨by decide,false,λargs W=>run_callFunc_extern Tryz.func115 (by kernel_rfl) (by kernel_rfl) (by kernel_rfl) (e:=Extern.ReflectliteSwapper.swap false) (by kernel_rfl) args W⟩⟩
def lL (xF:Flash) (z1:Int) (z2:List Al):St:=AA [(3,(pb 3)),(11,(.one (BL xF.Blocks))),(12,(I (ln xF.Blocks))),(13,(I z1))] [(.box 3,[GT z2])]
def lK (z3:List Al):St:=AA [(3,(pb 3))] [(.box 3,[GT z3])]
def lJ (xF:Flash) (y1:Int) (x1:Block) (z4:Int) (z5:List Al):St:=AA [(3,(pb 3)),(4,(I y1)),(11,(.one (BL xF.Blocks))),(12,(I (ln xF.Blocks))),(13,(I y1)),(19,(.one (Nt x1.Leaves))),(20,(I (ln x1.Leaves))),(21,(I z4))] [(.box 3,[GT z5])]
def lI (xF:Flash) (y1:Int) (z6:List Al):St:=AA [(3,(pb 3)),(11,(.one (BL xF.Blocks))),(12,(I (ln xF.Blocks))),(13,(I y1))] [(.box 3,[GT z6])]
def lH (xF:Flash) (y1:Int) (x1:Block) (y2:Int) (a:List Al) (v1:Page×Bool) (z7:Bool):St:=AA [(3,(pb 3)),(4,(I y1)),(6,(I y2)),(8,(pb 8)),(11,(.one (BL xF.Blocks))),(12,(I (ln xF.Blocks))),(13,(I y1)),(19,(.one (Nt x1.Leaves))),(20,(I (ln x1.Leaves))),(21,(I y2)),(37,(B z7))] [(.box 3,[GT a]),(.box 8,[i6 v1.1.Kind,i6 v1.1.Seq,i6 v1.1.Tx,i6 v1.1.Part,i6 v1.1.Count,ts v1.1.Text])]
theorem UT (xF:Flash) (r:List Al) (h:Ix xF=some r):AP Tryz.prog 43 [.sv (.agg (NK false xF))] (.one (GT r)) (rg 1):=by
 refine gk Tryz.func43 rfl Tryz.ntmps43 (ws (gw 2 0 (gn 1 0 (Wp.seq (ws (Ai 2 0 (RW.q (CT (BF false) xF.Blocks) (gn 1 0 (BM h [3,11,12,13] [.box 3] (λs=>(lL xF s.1 s.2)) [3] [.box 3] (λs=>(lK s)) Eu ?_ ?_)))))))))
 ·rintro⟨y1,d⟩ o (h:Iw xF y1 d=some o);refine ws (gn 1 0 (Wp.seq (wc h (λh=>?_) (λh=>?_))))
  ·refine Wp.skip (Wp.seq (Wp.block (ws (Ai 1 0 (CG (BF false) h (λx1 gx1 h=>RW.q (MW (BF false) gx1 0 3) (gw 3 0 (Ai 2 0 (RW.q (CT DA x1.Leaves) (gn 1 0 (BM h [3,4,11,12,13,19,20,21] [.box 3] (λs=>(lJ xF y1 x1 s.1 s.2)) [3,11,12,13] [.box 3] (λs=>(lI xF y1 s)) Eu ?_ ?_)))))))))))
   ·rintro⟨y2,b⟩ o (h:JO y1 x1 y2 b=some o);refine ws (gn 1 0 (Wp.seq (wc h (λh=>?_) (λh=>?_))))
    ·refine Wp.skip (Wp.seq (Wp.block (ws (Ai 1 0 (CG DA h (λx2 gx2 h=>RW.q (MW DA gx2 0 2) (gw 3 0 (Ai 2 0 (RW.c 0 h (lS _) (λv1 gv1 h=>gn 6 1 (Fp h [3,4,6,8,11,12,13,19,20,21,37] [.box 3,.box 8] (λa=>(lH xF y1 x1 y2 b v1 a)) (λa h=>?_) (λj1 h=>?_))))))))))))
     ·refine Au (Ai 2 0 (AM 33 h (λh=>?_) (λh=>?_)))
      ·exact gn 4 0 (jn h)
      exact gn 4 0 (jn h)
     refine wc h (λh=>?_) (λh=>?_)
     ·exact Au (Ai 6 0 (bd h λq1 gq1 h=>CM (Dm Et (λ_=>rfl) b gq1) (gn 1 0 (Au (gn 2 0 (jl h))))))
     exact Wp.skip (Au (gn 2 0 (jl h)))
    exact Wp.exit (jv h)
   intro v2 h E hE;exact AY hE (Au (gn 2 0 (jl h)))
  exact Wp.exit (jv h)
 intro v3 h E hE;exact AY hE (ws (Ai 1 0 (RW.srt h (.box 3) (λ_ h=>bP h) (λv4 gv4 h=>RW.nil (ws (gn 2 2 (Wp.ret (rr h▸rq))))) Et AGh)))
def rN (a:Int) (v1:List Al) (z1:Bool) (z2:Int) (z3:Int) (z4:Int) (z5:Int) (z6:Int) (z7:Int) (z8:Int) (z9:Int) (z10:ByteArray):St:=AA [(1,(I a)),(4,(pb 4)),(6,(pb 6)),(7,(B z1)),(11,(.one (GT v1))),(12,(I (ln v1))),(13,(I z2))] [(.box 4,[i6 0,i6 0,i6 0,i6 0,i6 0,i6 0,i6 0,ts (bs [])]),(.box 6,[i6 z3,i6 z4,i6 z5,i6 z6,i6 z7,i6 z8,i6 z9,ts z10])]
def rM (z11:Bool) (z12:Int) (z13:Int) (z14:Int) (z15:Int) (z16:Int) (z17:Int) (z18:Int) (z19:ByteArray):St:=AA [(4,(pb 4)),(6,(pb 6)),(7,(B z11))] [(.box 4,[i6 0,i6 0,i6 0,i6 0,i6 0,i6 0,i6 0,ts (bs [])]),(.box 6,[i6 z12,i6 z13,i6 z14,i6 z15,i6 z16,i6 z17,i6 z18,ts z19])]
def rL (i:Int) (v1:List Al) (j:Bool) (y1:Int) (a:Int) (b:Int) (c:Int) (d:Int) (e:Int) (f:Int) (g:Int) (h:ByteArray) (x1:Al) (z20:Bool):St:=AA [(1,(I i)),(4,(pb 4)),(6,(pb 6)),(7,(B j)),(9,(pb 9)),(11,(.one (GT v1))),(12,(I (ln v1))),(13,(I y1)),(40,(B z20))] [(.box 4,[i6 0,i6 0,i6 0,i6 0,i6 0,i6 0,i6 0,ts (bs [])]),(.box 6,[i6 a,i6 b,i6 c,i6 d,i6 e,i6 f,i6 g,ts h]),(.box 9,[i6 x1.Block,i6 x1.Leaf,i6 x1.Page.Kind,i6 x1.Page.Seq,i6 x1.Page.Tx,i6 x1.Page.Part,i6 x1.Page.Count,ts x1.Page.Text])]
theorem wO (xF:Flash) (b:Int) (r:Al×Bool) (h:Tc xF b=some r):AP Tryz.prog 64 [.sv (.agg (NK false xF)),.sv (I b)] (.tup [(.agg (c67 r.1)),(B r.2)]) (rg 2):=by
 refine gk Tryz.func64 rfl Tryz.ntmps64 (ws (gw 3 0 (gw 1 0 (gn 1 0 (Wp.seq (ws (Ai 1 0 (RW.c 0 h (UT _) (λv1 gv1 h=>RW.q (CT Et v1) (gn 1 0 (BM h [1,4,6,7,11,12,13] [.box 4,.box 6] (λs=>(rN b v1 s.1 s.2.1 s.2.2.1 s.2.2.2.1 s.2.2.2.2.1 s.2.2.2.2.2.1 s.2.2.2.2.2.2.1 s.2.2.2.2.2.2.2.1 s.2.2.2.2.2.2.2.2.1 s.2.2.2.2.2.2.2.2.2)) [4,6,7] [.box 4,.box 6] (λs=>(rM s.1 s.2.1 s.2.2.1 s.2.2.2.1 s.2.2.2.2.1 s.2.2.2.2.2.1 s.2.2.2.2.2.2.1 s.2.2.2.2.2.2.2.1 s.2.2.2.2.2.2.2.2)) Eu ?_ ?_)))))))))))
 ·rintro⟨m,y1,d,e,f,g,i,j,k,l⟩ o (h:Jp b v1 m y1 d e f g i j k l=some o);refine ws (gn 1 0 (Wp.seq (wc h (λh=>?_) (λh=>?_))))
  ·refine Wp.skip (Wp.seq (Wp.block (ws (CG Et h (λx1 gx1 h=>RW.q (MW Et gx1 0 8) (gn 2 0 (Fp h [1,4,6,7,9,11,12,13,40] [.box 4,.box 6,.box 9] (λa=>(rL b v1 m y1 d e f g i j k l x1 a)) (λa h=>?_) (λj1 h=>?_))))))))
   ·refine Au (Ai 5 0 (AM 21 h (λh=>?_) (λh=>?_)))
    ·refine Ai 7 0 (AM 28 h (λh=>?_) (λh=>?_))
     ·refine Ai 3 0 (AM 31 h (λh=>?_) (λh=>?_))
      ·exact gn 9 0 (jn h)
      exact gn 9 0 (jn h)
     exact gn 12 0 (jn h)
    exact gn 19 0 (jn h)
   refine wc h (λh=>?_) (λh=>?_)
   ·exact Au (gn 3 0 (Au (gn 2 0 (jl h))))
   exact Wp.skip (Au (gn 2 0 (jl h)))
  exact Wp.exit (jv h)
 intro v2 h E hE;exact AY hE (ws (gn 4 0 (Wp.ret (rr h▸rq))))
def wL (xF:Flash) (xB:Int) (v1:List Int) (z1:List Al) (z2:Int):St:=AA [(2,(I xB)),(3,(pb 3)),(7,(.one (GT z1))),(13,(.one (EO v1))),(14,(I (ln v1))),(15,(I z2))] [(.box 3,[BL xF.Blocks])]
def wK (z3:List Al):St:=AA [(7,(.one (GT z3)))] []
def wJ (xF:Flash) (xB:Int) (v1:List Int) (a:List Al) (y1:Int) (v2:Al×Bool) (z4:Bool):St:=AA [(2,(I xB)),(3,(pb 3)),(7,(.one (GT a))),(10,(pb 10)),(13,(.one (EO v1))),(14,(I (ln v1))),(15,(I y1)),(31,(B z4))] [(.box 3,[BL xF.Blocks]),(.box 10,[i6 v2.1.Block,i6 v2.1.Leaf,i6 v2.1.Page.Kind,i6 v2.1.Page.Seq,i6 v2.1.Page.Tx,i6 v2.1.Page.Part,i6 v2.1.Page.Count,ts v2.1.Page.Text])]
theorem eK (xF:Flash) (xS:Store) (xB:Int) (r:List Al) (h:QV xF xS xB=some r):AP Tryz.prog 28 [.sv (.agg (NK false xF)),.sv (.agg (Sm false xS)),.sv (I xB)] (.one (GT r)) (rg 3):=by
 refine gk Tryz.func28 rfl Tryz.ntmps28 (ws (gw 3 0 (gn 1 0 (Wp.seq (ws (Ai 1 0 (RW.c 0 h (wR _) (λv1 gv1 h=>RW.q (CT k3 v1) (gn 1 0 (BM h [2,3,7,13,14,15] [.box 3] (λs=>(wL xF xB v1 s.1 s.2)) [7] [] (λs=>(wK s)) Eu ?_ ?_))))))))))
 ·rintro⟨b,y1⟩ o (h:Gm xF xB v1 b y1=some o);refine ws (gn 1 0 (Wp.seq (wc h (λh=>?_) (λh=>?_))))
  ·refine Wp.skip (Wp.seq (Wp.block (ws (CG k3 h (λx1 gx1 h=>RW.q (CK k3 gx1 0) (gw 1 0 (Ai 2 0 (RW.c 0 h (wO _ _) (λv2 gv2 h=>gn 6 1 (Fp h [2,3,7,10,13,14,15,31] [.box 3,.box 10] (λa=>(wJ xF xB v1 b y1 v2 a)) (λa h=>?_) (λj1 h=>?_)))))))))))
   ·refine Au (Ai 2 0 (AM 26 h (λh=>?_) (λh=>?_)))
    ·exact gn 5 0 (jn h)
    exact gn 5 0 (jn h)
   refine wc h (λh=>?_) (λh=>?_)
   ·exact Au (Ai 3 0 (bd h λq1 gq1 h=>CM (Dm Et (λ_=>rfl) b gq1) (gn 1 1 (Au (gn 2 0 (jl h))))))
   exact Wp.skip (Au (gn 2 0 (jl h)))
  exact Wp.exit (jv h)
 intro v3 h E hE;exact AY hE (ws (gn 2 2 (Wp.ret (rr h▸rq))))
theorem VW (n b g cap:Nat) (T:TypeId) (hb:b≠g):JS Tryz.prog (Ky n b g cap 67 T 8 c67) (MX BS) 30 #[.pointer (some ⟨b,0,none⟩)]:=by
 refine eG Tryz.func30 rfl rfl ?_;rintro l i j x y hx hy ⟨w,hI⟩;have hn:l.length=n:=hI.len;have hi:=AAh hx;have hj:=AAh hy;refine sF Tryz.func30 rfl rfl ?_;rw [Tryz.ntmps30];refine Wp.seq ?_;refine Wp.region ?_;refine AC.o 5 (B false) ?_;refine AC.nil ?_;refine Wp.seq ?_;refine So mixed (by decide+kernel) ?_;refine Q7 6 (.hdr ⟨g,0,none⟩ n cap) (.slice (some ⟨g,0,none⟩) n cap) ?_ rfl j9 (λw=>by simp [CB]) rfl rfl rfl;refine HW.o 7 (I i) ?_;refine nF (n:=n) 8 (m:=i) ?_ rfl Tryz.underlying61 rfl hi.1 (by omega) (by decide);refine Ut (f:=1) 9 ?_ rfl Tryz.underlying67 rfl (by decide);refine Q7 (x:=9) 10 (.int .i64 (BS x)) (.int .i64 (BS x)) ?_ rfl (j8 (k:=1) (t:= .int .i64 (BS x)) Et hx rfl hb (by rw [AAo];rfl)) (λw=>by simp [CB]) rfl rfl rfl;refine Q7 11 (.hdr ⟨g,0,none⟩ n cap) (.slice (some ⟨g,0,none⟩) n cap) ?_ rfl j9 (λw=>by simp [CB]) rfl rfl rfl;refine HW.o 12 (I j) ?_;refine nF (n:=n) 13 (m:=j) ?_ rfl Tryz.underlying61 rfl hj.1 (by omega) (by decide);refine Ut (f:=1) 14 ?_ rfl Tryz.underlying67 rfl (by decide);refine Q7 (x:=14) 15 (.int .i64 (BS y)) (.int .i64 (BS y)) ?_ rfl (j8 (k:=1) (t:= .int .i64 (BS y)) Et hy rfl hb (by rw [AAo];rfl)) (λw=>by simp [CB]) rfl rfl rfl;refine HW.o 16 (B (decide ((BS x)<(BS y)))) ?_;refine HW.o 5 (B (decide ((BS x)<(BS y)))) ?_;refine HW.nil ?_;exact Wp.ret ⟨.inr rfl,rfl,_,rfl⟩
theorem VX {l r:List Al} (h:PQ (MX BS) l=some r):Rk Tryz.prog 29 61 67 8 c67 30 l r:=by
 refine Zz Et h Tryz.t61 Tryz.t67 rfl rfl (by kernel_rfl) rfl 25 (λw=>rfl) rfl Tryz.isAgg67 (enters_of Tryz.func30 rfl rfl) ?_ (λn b g cap T hb=>VW n b g cap T hb);intro n
 match n with
 |0=>exact⟨107,by kernel_rfl,λh=>absurd h (by decide)⟩
 |1=>exact⟨108,by kernel_rfl,λh=>absurd h (by decide)⟩
 |n+2=>
  have hk:Go.Lib.swapperK (n+2) Tryz.t67 25=9:=rfl;rw [hk];exact⟨115,by kernel_rfl,λ_=>⟨by decide,false,λargs W=>run_callFunc_extern Tryz.func115 (by kernel_rfl) (by kernel_rfl) (by kernel_rfl) (e:=Extern.ReflectliteSwapper.swap false) (by kernel_rfl) args W⟩⟩
def kV (z1:Int) (z2:List Int):St:=AA [(0,(I z1)),(4,(.one (ot5 z2)))] []
def kT (z3:Int) (z4:List Int):St:=AA [(0,(I z3)),(4,(.one (ot5 z4)))] []
theorem rQ (xN:Int) (r:ByteArray×Bool) (h:Uc xN=some r):AP Tryz.prog 177 [.sv (I xN)] (.tup [(Y r.1),(B r.2)]) (rg 1):=by
 refine gk Tryz.func177 rfl Tryz.ntmps177 (ws (gn 2 0 (Wp.seq (ws (Ai 1 0 (RW.c 0 h (Fx _ _ _) (λv1 gv1 h=>gn 1 0 (wc h (λh=>?_) (λh=>?_)))))))))
 ·exact ws (gn 2 0 (Wp.ret (rr h▸rq)))
 refine Wp.skip (ws (gn 1 0 (sl1 h [0,4] [] (λs=>(kV s.1 s.2)) [0,4] [] (λs=>(kT s.1 s.2)) ?_ (λv2 h=>?_))))
 ·rintro⟨b,a⟩ o (h:Pd b a=some o);refine Wp.seq (ws (gn 2 0 (wc h (λh=>?_) (λh=>?_))))
  ·exact Wp.skip (Wp.block (ws (Ai 6 0 (bd h λq1 gq1 h=>CM (Dm k5 (λ_=>rfl) a gq1) (gn 1 1 (Au (gn 3 0 (jl h))))))))
  exact Wp.exit (jv h)
 exact ws (Ai 4 0 (bd h λq2 gq2 h=>CM (Dm k5 (λ_=>rfl) v2.2 gq2) (RW.q (tW (f:=c5) (λ_=>rfl) q2) (gn 2 0 (Wp.ret (rr h▸rq))))))
theorem Du (xN:Int) (r:ByteArray) (h:Ef xN=some r):AP Tryz.prog 128 [.sv (I xN)] (Y r) (rg 1):=by
 exact gk Tryz.func128 rfl Tryz.ntmps128 (ws (gw 1 0 (Ai 1 0 (RW.c 0 h (rQ _) (λv1 gv1 h=>gw 5 1 (gn 2 0 (Wp.ret (rr h▸rq))))))))
theorem mA (xP:Page) (r:ByteArray×Bool) (h:Ph xP=some r):AP Tryz.prog 70 [.sv (.agg (c65 xP))] (.tup [(Y r.1),(B r.2)]) (rg 1):=by
 refine gk Tryz.func70 rfl Tryz.ntmps70 (ws (gn 3 0 (Wp.seq (ws (Ai 1 0 (RW.c 0 h (Y8 _) (λv1 gv1 h=>gn 1 0 (wc h (λh=>?_) (λh=>?_)))))))))
 ·exact ws (gn 2 0 (Wp.ret (rr h▸rq)))
 refine Wp.skip (Wp.seq (DM [] mixed (λ_ _=>nP) (Bn [0,1,2,5,6,9,10,13,14,17,18,21,22] 0 (Dq 3 7 ?_ ?_))))
 ·exact KB.o false (KW.q 4 (tW (f:=c5) (λ_=>rfl) [(IntKind.u8.wrap xP.Kind)]) (Br 7 (KB.c 0 h (Du _) (λv2 gv2 h=>bd h λx1 gx1 h=>KW.q 8 (Fj gx1) (Br 11 (KB.c 0 h (Du _) (λv3 gv3 h=>bd h λx2 gx2 h=>KW.q 12 (Fj gx2) (Br 15 (KB.c 0 h (Du _) (λv4 gv4 h=>bd h λx3 gx3 h=>KW.q 16 (Fj gx3) (Br 19 (KB.c 0 h (Du _) (λv5 gv5 h=>bd h λx4 gx4 h=>KW.q 20 (Fj gx4) (bd h λx5 gx5 h=>KW.q 23 (Fj gx5) (Br 24 (KB.c 0 h (K5 _) (λv6 gv6 h=>IY 25 (IY 26 (Bn [27,28] 0 (Bg (Wp.ret (rr h▸rq))))))))))))))))))))))
 refine KB.c 0 h (Du _) (λv7 gv7 h=>Dq 3 11 ?_ ?_)
 ·exact KB.o false (KW.q 4 (tW (f:=c5) (λ_=>rfl) [(IntKind.u8.wrap xP.Kind)]) (bd h λx6 gx6 h=>KW.q 8 (Fj gx6) (Br 11 (KB.c 0 h (Du _) (λv8 gv8 h=>bd h λx7 gx7 h=>KW.q 12 (Fj gx7) (Br 15 (KB.c 0 h (Du _) (λv9 gv9 h=>bd h λx8 gx8 h=>KW.q 16 (Fj gx8) (Br 19 (KB.c 0 h (Du _) (λv10 gv10 h=>bd h λx9 gx9 h=>KW.q 20 (Fj gx9) (bd h λx10 gx10 h=>KW.q 23 (Fj gx10) (Br 24 (KB.c 0 h (K5 _) (λv11 gv11 h=>IY 25 (IY 26 (Bn [27,28] 0 (Bg (Wp.ret (rr h▸rq))))))))))))))))))))
 replace h:=AG4 (show((Ef xP.Tx).bind λv12=>(HU (E9 [(IntKind.u8.wrap xP.Kind)]) v7).bind λx11=>(HU x11 v12).bind λx12=>(Ef xP.Part).bind λv13=>(HU x12 v13).bind λx13=>(Ef xP.Count).bind λv14=>(HU x13 v14).bind λx14=>(HU x14 xP.Text).bind λx15=>(HP x15).bind λv15=>some (v15.1,v15.2))=((HU (E9 [(IntKind.u8.wrap xP.Kind)]) v7).bind λx6=>(Ef xP.Tx).bind λv8=>(HU x6 v8).bind λx7=>(Ef xP.Part).bind λv9=>(HU x7 v9).bind λx8=>(Ef xP.Count).bind λv10=>(HU x8 v10).bind λx9=>(HU x9 xP.Text).bind λx10=>(HP x10).bind λv11=>some (v11.1,v11.2))from AEs λz=>by simp only [Ar];exact⟨λ⟨v12,k0,x11,k1,x12,k2,v13,k3,x13,k4,v14,k5,x14,k6,x15,k7,v15,k8,z⟩=>⟨_,k1,_,k0,_,k2,_,k3,_,k4,_,k5,_,k6,_,k7,_,k8,z⟩,λ⟨x6,k0,v8,k1,x7,k2,v9,k3,x8,k4,v10,k5,x9,k6,x10,k7,v11,k8,z⟩=>⟨_,k1,_,k0,_,k2,_,k3,_,k4,_,k5,_,k6,_,k7,_,k8,z⟩⟩) h;refine KB.c 0 h (Du _) (λv12 gv12 h=>Dq 3 15 ?_ ?_)
 ·exact KB.o false (KW.q 4 (tW (f:=c5) (λ_=>rfl) [(IntKind.u8.wrap xP.Kind)]) (bd h λx11 gx11 h=>KW.q 8 (Fj gx11) (bd h λx12 gx12 h=>KW.q 12 (Fj gx12) (Br 15 (KB.c 0 h (Du _) (λv13 gv13 h=>bd h λx13 gx13 h=>KW.q 16 (Fj gx13) (Br 19 (KB.c 0 h (Du _) (λv14 gv14 h=>bd h λx14 gx14 h=>KW.q 20 (Fj gx14) (bd h λx15 gx15 h=>KW.q 23 (Fj gx15) (Br 24 (KB.c 0 h (K5 _) (λv15 gv15 h=>IY 25 (IY 26 (Bn [27,28] 0 (Bg (Wp.ret (rr h▸rq))))))))))))))))))
 replace h:=AG4 (show((Ef xP.Part).bind λv16=>(HU (E9 [(IntKind.u8.wrap xP.Kind)]) v7).bind λx16=>(HU x16 v12).bind λx17=>(HU x17 v16).bind λx18=>(Ef xP.Count).bind λv17=>(HU x18 v17).bind λx19=>(HU x19 xP.Text).bind λx20=>(HP x20).bind λv18=>some (v18.1,v18.2))=((HU (E9 [(IntKind.u8.wrap xP.Kind)]) v7).bind λx11=>(HU x11 v12).bind λx12=>(Ef xP.Part).bind λv13=>(HU x12 v13).bind λx13=>(Ef xP.Count).bind λv14=>(HU x13 v14).bind λx14=>(HU x14 xP.Text).bind λx15=>(HP x15).bind λv15=>some (v15.1,v15.2))from AEs λz=>by simp only [Ar];exact⟨λ⟨v16,k0,x16,k1,x17,k2,x18,k3,v17,k4,x19,k5,x20,k6,v18,k7,z⟩=>⟨_,k1,_,k2,_,k0,_,k3,_,k4,_,k5,_,k6,_,k7,z⟩,λ⟨x11,k0,x12,k1,v13,k2,x13,k3,v14,k4,x14,k5,x15,k6,v15,k7,z⟩=>⟨_,k2,_,k0,_,k1,_,k3,_,k4,_,k5,_,k6,_,k7,z⟩⟩) h;refine KB.c 0 h (Du _) (λv16 gv16 h=>Dq 3 19 ?_ ?_)
 ·exact KB.o false (KW.q 4 (tW (f:=c5) (λ_=>rfl) [(IntKind.u8.wrap xP.Kind)]) (bd h λx16 gx16 h=>KW.q 8 (Fj gx16) (bd h λx17 gx17 h=>KW.q 12 (Fj gx17) (bd h λx18 gx18 h=>KW.q 16 (Fj gx18) (Br 19 (KB.c 0 h (Du _) (λv17 gv17 h=>bd h λx19 gx19 h=>KW.q 20 (Fj gx19) (bd h λx20 gx20 h=>KW.q 23 (Fj gx20) (Br 24 (KB.c 0 h (K5 _) (λv18 gv18 h=>IY 25 (IY 26 (Bn [27,28] 0 (Bg (Wp.ret (rr h▸rq))))))))))))))))
 replace h:=AG4 (show((Ef xP.Count).bind λv19=>(HU (E9 [(IntKind.u8.wrap xP.Kind)]) v7).bind λx21=>(HU x21 v12).bind λx22=>(HU x22 v16).bind λx23=>(HU x23 v19).bind λx24=>(HU x24 xP.Text).bind λx25=>(HP x25).bind λv20=>some (v20.1,v20.2))=((HU (E9 [(IntKind.u8.wrap xP.Kind)]) v7).bind λx16=>(HU x16 v12).bind λx17=>(HU x17 v16).bind λx18=>(Ef xP.Count).bind λv17=>(HU x18 v17).bind λx19=>(HU x19 xP.Text).bind λx20=>(HP x20).bind λv18=>some (v18.1,v18.2))from AEs λz=>by simp only [Ar];exact⟨λ⟨v19,k0,x21,k1,x22,k2,x23,k3,x24,k4,x25,k5,v20,k6,z⟩=>⟨_,k1,_,k2,_,k3,_,k0,_,k4,_,k5,_,k6,z⟩,λ⟨x16,k0,x17,k1,x18,k2,v17,k3,x19,k4,x20,k5,v18,k6,z⟩=>⟨_,k3,_,k0,_,k1,_,k2,_,k4,_,k5,_,k6,z⟩⟩) h;exact KB.c 0 h (Du _) (λv19 gv19 h=>Bn [3] 0 (KW.q 4 (tW (f:=c5) (λ_=>rfl) [(IntKind.u8.wrap xP.Kind)]) (bd h λx21 gx21 h=>KW.q 8 (Fj gx21) (bd h λx22 gx22 h=>KW.q 12 (Fj gx22) (bd h λx23 gx23 h=>KW.q 16 (Fj gx23) (bd h λx24 gx24 h=>KW.q 20 (Fj gx24) (bd h λx25 gx25 h=>KW.q 23 (Fj gx25) (Br 24 (KB.c 0 h (K5 _) (λv20 gv20 h=>IY 25 (IY 26 (Bn [27,28] 0 (Bg (Wp.ret (rr h▸rq)))))))))))))))
theorem wM (xX:Leaf) (r:Bool) (h:rJ xX=some r):AP Tryz.prog 178 [.sv (.agg (mY xX))] (B r) (rg 1):=by
 refine gk Tryz.func178 rfl Tryz.ntmps178 (ws (gn 2 0 (Wp.seq (ws (gn 2 0 (Wp.block (ws (gn 2 0 (wc h (λh=>?_) (λh=>?_))))))))))
 ·exact ws (gn 4 0 (Wp.ret (rr h▸rq)))
 refine ws (gn 2 0 (wc h (λh=>?_) (λh=>?_)))
 ·exact ws (Ai 3 0 (RW.c 0 h (Fx _ _ _) (λv1 gv1 h=>gn 1 0 (Wp.ret (rr h▸rq)))))
 refine Wp.skip (ws (Ai 4 0 (AM 19 h (λh=>?_) (λh=>?_))))
 ·exact gn 6 0 (Wp.ret (rr h▸rq))
 exact gn 6 0 (Wp.ret (rr h▸rq))
def mG (xF:Flash) (z1:Int):St:=AA [(1,(pb 1)),(8,(.one (BL xF.Blocks))),(9,(I (ln xF.Blocks))),(10,(I z1))] [(.box 1,[BL xF.Blocks])]
def mF (xF:Flash):St:=AA [(1,(pb 1))] [(.box 1,[BL xF.Blocks])]
def mE (xF:Flash) (y1:Int) (x1:Block) (z2:Bool):St:=AA [(1,(pb 1)),(4,(pb 4)),(8,(.one (BL xF.Blocks))),(9,(I (ln xF.Blocks))),(10,(I y1)),(23,(B z2))] [(.box 1,[BL xF.Blocks]),(.box 4,[tb x1.Bad,i6 x1.Wear,Nt x1.Leaves])]
def mD (xF:Flash) (y1:Int) (x1:Block) (z3:Int):St:=AA [(1,(pb 1)),(4,(pb 4)),(8,(.one (BL xF.Blocks))),(9,(I (ln xF.Blocks))),(10,(I y1)),(25,(.one (Nt x1.Leaves))),(26,(I (ln x1.Leaves))),(27,(I z3))] [(.box 1,[BL xF.Blocks]),(.box 4,[tb x1.Bad,i6 x1.Wear,Nt x1.Leaves])]
def mC (xF:Flash) (y1:Int):St:=AA [(1,(pb 1)),(8,(.one (BL xF.Blocks))),(9,(I (ln xF.Blocks))),(10,(I y1))] [(.box 1,[BL xF.Blocks])]
def mB (xF:Flash) (y1:Int) (x1:Block) (y2:Int) (z4:Bool):St:=AA [(1,(pb 1)),(4,(pb 4)),(8,(.one (BL xF.Blocks))),(9,(I (ln xF.Blocks))),(10,(I y1)),(25,(.one (Nt x1.Leaves))),(26,(I (ln x1.Leaves))),(27,(I y2)),(53,(B z4))] [(.box 1,[BL xF.Blocks]),(.box 4,[tb x1.Bad,i6 x1.Wear,Nt x1.Leaves])]
theorem UV (xF:Flash) (r:Bool) (h:Oi xF=some r):AP Tryz.prog 129 [.sv (.agg (NK false xF))] (B r) (rg 1):=by
 refine gk Tryz.func129 rfl Tryz.ntmps129 (ws (gn 2 0 (Wp.seq (ws (Ai 2 0 (RW.q (CT (BF false) xF.Blocks) (gn 1 0 (Er h [1,8,9,10] [.box 1] (λs=>(mG xF s)) [1] [.box 1] (λ_=>(mF xF)) Eu ?_ ?_))))))))
 ·rintro y1 o (h:Mc xF y1=some o) hk1;refine ws (gn 1 0 (Wp.seq (wc h (λh=>?_) (λh=>?_))))
  ·refine Wp.skip (Wp.seq (Wp.block (ws (CG (BF false) h (λx1 gx1 h=>RW.q (MW (BF false) gx1 0 3) (gn 2 0 (Wp.seq (Fp h [1,4,8,9,10,23] [.box 1,.box 4] (λa=>(mE xF y1 x1 a)) (λa h=>?_) (λj1 h=>?_)))))))))
   ·refine Au (Ai 2 0 (RW.q (CT DA x1.Leaves) (Ai 2 0 (AM 18 h (λh=>?_) (λh=>?_)))))
    ·exact gn 5 0 (jn h)
    exact Ai 2 0 (RW.c 0 h (Fx _ _ _) (λv1 gv1 h=>gn 2 0 (jn h)))
   refine wc h (λh=>?_) (λh=>?_)
   ·exact ws (gn 1 0 (Wp.ret (rr (jo h hk1)▸rq)))
   refine Wp.skip (ws (Ai 2 0 (RW.q (CT DA x1.Leaves) (gn 1 0 (Er h [1,4,8,9,10,25,26,27] [.box 1,.box 4] (λs=>(mD xF y1 x1 s)) [1,8,9,10] [.box 1] (λ_=>(mC xF y1)) Eu ?_ ?_)))))
   ·rintro y2 o (h:Mb x1 y2=some o) hk2;refine ws (gn 1 0 (Wp.seq (wc h (λh=>?_) (λh=>?_))))
    ·refine Wp.skip (Wp.seq (Wp.block (ws (Ai 1 0 (CG DA h (λx2 gx2 h=>RW.q (MW DA gx2 0 2) (gn 3 0 (Fp h [1,4,8,9,10,25,26,27,53] [.box 1,.box 4] (λa=>(mB xF y1 x1 y2 a)) (λa h=>?_) (λj2 h=>?_)))))))))
     ·refine Au (Ai 1 0 (RW.c 0 h (wM _) (λv2 gv2 h=>Ai 2 0 (AM 35 h (λh=>?_) (λh=>?_)))))
      ·exact gn 18 0 (jn h)
      refine Ai 3 0 (AM 38 h (λh=>?_) (λh=>?_))
      ·refine Ai 4 0 (CG DA h (λx3 gx3 h=>RW.q (DH DA gx3 0 0) (RW.q (CK DA gx3 0) (Ai 3 0 (AM 48 h (λh=>?_) (λh=>?_))))))
       ·exact gn 5 0 (jn h)
       exact gn 5 0 (jn h)
      exact gn 15 0 (jn h)
     refine wc h (λh=>?_) (λh=>?_)
     ·exact ws (gn 1 0 (Wp.ret (rr (jo (jo h hk2) hk1)▸rq)))
     exact Wp.skip (Au (gn 2 0 (jl h)))
    exact Wp.exit (jx h)
   intro v3 h E hE;exact AY hE (Au (gn 2 0 (jl h)))
  exact Wp.exit (jx h)
 intro v4 h E hE;exact AY hE (ws (Ai 2 0 (RW.q (CT (BF false) xF.Blocks) (RW.c 0 h (Fx _ _ _) (λv5 gv5 h=>gn 1 0 (Wp.ret (rr h▸rq)))))))
def rP (xB:Block) (z1:Int) (z2:Int):St:=AA [(3,(I z1)),(7,(.one (Nt xB.Leaves))),(8,(I (ln xB.Leaves))),(9,(I z2))] []
def rO (z3:Int):St:=AA [(3,(I z3))] []
theorem Y6 (xB:Block) (r:Int) (h:Lr xB=some r):AP Tryz.prog 56 [.sv (.agg (Tr false xB))] (I r) (rg 1):=by
 refine gk Tryz.func56 rfl Tryz.ntmps56 (ws (gw 2 0 (gn 1 0 (Wp.seq (ws (Ai 2 0 (RW.q (CT DA xB.Leaves) (gn 1 0 (BM h [3,7,8,9] [] (λs=>(rP xB s.1 s.2)) [3] [] (λs=>(rO s)) Eu ?_ ?_)))))))))
 ·rintro⟨a,y1⟩ o (h:GL xB a y1=some o);refine ws (gn 1 0 (Wp.seq (wc h (λh=>?_) (λh=>?_))))
  ·refine Wp.skip (Wp.seq (Wp.block (ws (CG DA h (λx1 gx1 h=>RW.q (MW DA gx1 0 2) (gw 2 0 (gn 3 0 (wc h (λh=>?_) (λh=>?_)))))))))
   ·exact Au (gn 3 0 (Au (gn 2 0 (jl h))))
   exact Wp.skip (Au (gn 2 0 (jl h)))
  exact Wp.exit (jv h)
 intro v1 h E hE;exact AY hE (ws (gn 2 0 (Wp.ret (rr h▸rq))))
def YB (xF:Flash) (z1:Int):St:=AA [(7,(.one (BL xF.Blocks))),(8,(I (ln xF.Blocks))),(9,(I z1))] []
def YA:St:=AA [] []
def Y9 (xF:Flash) (y1:Int) (z2:Bool):St:=AA [(3,(I y1)),(7,(.one (BL xF.Blocks))),(8,(I (ln xF.Blocks))),(9,(I y1)),(29,(B z2))] []
theorem bT (xF:Flash) (r:Int) (h:Nw xF=some r):AP Tryz.prog 130 [.sv (.agg (NK false xF))] (I r) (rg 1):=by
 refine gk Tryz.func130 rfl Tryz.ntmps130 (ws (gn 2 0 (Wp.seq (ws (Ai 2 0 (RW.q (CT (BF false) xF.Blocks) (gn 1 0 (Er h [7,8,9] [] (λs=>(YB xF s)) [] [] (λ_=>YA) Eu ?_ ?_))))))))
 ·rintro y1 o (h:HQ xF y1=some o) hk1;refine ws (gn 1 0 (Wp.seq (wc h (λh=>?_) (λh=>?_))))
  ·refine Wp.skip (Wp.seq (Wp.block (ws (Ai 1 0 (CG (BF false) h (λx1 gx1 h=>RW.q (MW (BF false) gx1 0 3) (gw 3 0 (Ai 1 0 (RW.c 0 h (Y6 _) (λv1 gv1 h=>gn 1 0 (Fp h [3,7,8,9,29] [] (λa=>(Y9 xF y1 a)) (λa h=>?_) (λj1 h=>?_))))))))))))
   ·refine Au (Ai 4 0 (AM 19 h (λh=>?_) (λh=>?_)))
    ·refine Ai 4 0 (AM 23 h (λh=>?_) (λh=>?_))
     ·exact Ai 3 0 (RW.q (CT DA x1.Leaves) (gn 2 0 (jn h)))
     exact gn 6 0 (jn h)
    exact gn 10 0 (jn h)
   refine wc h (λh=>?_) (λh=>?_)
   ·exact ws (gn 2 0 (Wp.ret (rr (jo h hk1)▸rq)))
   exact Wp.skip (Au (gn 2 0 (jl h)))
  exact Wp.exit (jx h)
 intro v2 h E hE;exact AY hE (ws (gn 1 0 (Wp.ret (rr h▸rq))))
def YD (xB:Block) (z1:Int):St:=AA [(6,(.one (Nt xB.Leaves))),(7,(I (ln xB.Leaves))),(8,(I z1))] []
def YC:St:=AA [] []
theorem R2 (xB:Block) (r:Int) (h:Nx xB=some r):AP Tryz.prog 57 [.sv (.agg (Tr false xB))] (I r) (rg 1):=by
 refine gk Tryz.func57 rfl Tryz.ntmps57 (ws (gn 2 0 (Wp.seq (ws (Ai 2 0 (RW.q (CT DA xB.Leaves) (gn 1 0 (Er h [6,7,8] [] (λs=>(YD xB s)) [] [] (λ_=>YC) Eu ?_ ?_))))))))
 ·rintro y1 o (h:Qu xB y1=some o) hk1;refine ws (gn 1 0 (Wp.seq (wc h (λh=>?_) (λh=>?_))))
  ·refine Wp.skip (Wp.seq (Wp.block (ws (Ai 1 0 (CG DA h (λx1 gx1 h=>RW.q (MW DA gx1 0 2) (gw 3 0 (gn 3 0 (wc h (λh=>?_) (λh=>?_))))))))))
   ·exact ws (gn 2 0 (Wp.ret (rr (jo h hk1)▸rq)))
   exact Wp.skip (Au (gn 2 0 (jl h)))
  exact Wp.exit (jx h)
 intro v1 h E hE;exact AY hE (ws (gn 1 0 (Wp.ret (rr h▸rq))))
def Wa (xF:Flash) (z1:List Int) (z2:Int):St:=AA [(3,(.one (EO z1))),(7,(.one (BL xF.Blocks))),(8,(I (ln xF.Blocks))),(9,(I z2))] []
def VZ (z3:List Int):St:=AA [(3,(.one (EO z3)))] []
def VY (xF:Flash) (a:List Int) (y1:Int) (z4:Bool):St:=AA [(3,(.one (EO a))),(4,(I y1)),(7,(.one (BL xF.Blocks))),(8,(I (ln xF.Blocks))),(9,(I y1)),(24,(B z4))] []
theorem YH (xF:Flash) (r:List Int) (h:Ma xF=some r):AP Tryz.prog 131 [.sv (.agg (NK false xF))] (.one (EO r)) (rg 1):=by
 refine gk Tryz.func131 rfl Tryz.ntmps131 (ws (gw 2 0 (gn 1 0 (Wp.seq (ws (Ai 2 0 (RW.q (CT (BF false) xF.Blocks) (gn 1 0 (BM h [3,7,8,9] [] (λs=>(Wa xF s.1 s.2)) [3] [] (λs=>(VZ s)) Eu ?_ ?_)))))))))
 ·rintro⟨b,y1⟩ o (h:Ha xF b y1=some o);refine ws (gn 1 0 (Wp.seq (wc h (λh=>?_) (λh=>?_))))
  ·refine Wp.skip (Wp.seq (Wp.block (ws (Ai 1 0 (CG (BF false) h (λx1 gx1 h=>RW.q (MW (BF false) gx1 0 3) (gn 3 0 (Fp h [3,4,7,8,9,24] [] (λa=>(VY xF b y1 a)) (λa h=>?_) (λj1 h=>?_)))))))))
   ·refine DM [] mixed (λ_ _=>nP) (Bn [0,1,2,3] 0 (Vo 17 h (λh=>?_) (λh=>?_)))
    ·exact Bn [4,6,7] 0 (KW.q 8 (CT DA x1.Leaves) (Br 5 (KB.c 0 h (Y6 _) (λv1 gv1 h=>Bn [9,10] 0 (Bg (jn h))))))
    exact Bn [4,6,7,8,5,9,10] 0 (Bg (jn h))
   refine wc h (λh=>?_) (λh=>?_)
   ·exact Au (Ai 3 0 (bd h λq1 gq1 h=>CM (Dm k3 (λ_=>rfl) b gq1) (gn 1 1 (Au (gn 2 0 (jl h))))))
   exact Wp.skip (Au (gn 2 0 (jl h)))
  exact Wp.exit (jv h)
 intro v2 h E hE;exact AY hE (ws (gn 2 2 (Wp.ret (rr h▸rq))))
def l9 (xF:Flash) (v4:List Int) (z1:Int) (z2:Int):St:=AA [(1,(pb 1)),(6,(I z1)),(24,(.one (EO v4))),(25,(I (ln v4))),(26,(I z2))] [(.box 1,[BL xF.Blocks])]
def lW (z3:Int):St:=AA [(6,(I z3))] []
theorem r6 (xF:Flash) (r:Int×Int×Bool) (h:Ra xF=some r):AP Tryz.prog 71 [.sv (.agg (NK false xF))] (.tup [(I r.1),(I r.2.1),(B r.2.2)]) (rg 1):=by
 refine gk Tryz.func71 rfl Tryz.ntmps71 (ws (gn 4 0 (Wp.seq (ws (Ai 1 0 (RW.c 0 h (UV _) (λv1 gv1 h=>gn 1 0 (wc h (λh=>?_) (λh=>?_)))))))))
 ·exact ws (gn 3 0 (Wp.ret (rr h▸rq)))
 refine Wp.skip (Wp.seq (ws (Ai 1 0 (RW.c 0 h (bT _) (λv2 gv2 h=>gw 1 0 (gn 2 0 (wc h (λh=>?_) (λh=>?_))))))))
 ·exact ws (Ai 4 0 (CG (BF false) h (λx1 gx1 h=>RW.q (MW (BF false) gx1 0 3) (RW.c 0 h (R2 _) (λv3 gv3 h=>gn 3 0 (Wp.ret (rr h▸rq)))))))
 refine Wp.skip (ws (gn 1 0 (Wp.seq (ws (Ai 1 0 (RW.c 0 h (YH _) (λv4 gv4 h=>RW.q (CT k3 v4) (gn 1 0 (BM h [1,6,24,25,26] [.box 1] (λs=>(l9 xF v4 s.1 s.2)) [6] [] (λs=>(lW s)) Eu ?_ ?_)))))))))
 ·rintro⟨a,y1⟩ o (h:Ge xF v4 a y1=some o);refine ws (gn 1 0 (Wp.seq (wc h (λh=>?_) (λh=>?_))))
  ·refine Wp.skip (Wp.seq (Wp.block (ws (CG k3 h (λx2 gx2 h=>RW.q (CK k3 gx2 0) (gn 1 0 (Wp.seq (Lw mixed (DI 3 (fB 32 h (λh=>?_) (λh=>?_)))))))))))
   ·exact DI 14 (SW.nil (wt (Au (gn 2 0 (Au (gn 2 0 (jl h)))))))
   refine DI 3 (bd h λx3 gx3 h=>SW.q (Js (BF false) gx3) (SW.q (DH (BF false) gx3 0 1) (SW.q (CK (BF false) gx3 1) (DI 3 (bd h λx4 gx4 h=>SW.q (Js (BF false) gx4) (SW.q (DH (BF false) gx4 0 1) (SW.q (CK (BF false) gx4 1) (DI 2 (SW.nil (wc h (λh=>?_) (λh=>?_)))))))))))
   ·exact Au (gn 2 0 (Au (gn 2 0 (jl h))))
   exact Wp.skip (Au (gn 2 0 (jl h)))
  exact Wp.exit (jv h)
 intro v5 h E hE;refine AY hE (Wp.seq (ws (gn 2 0 (wc h (λh=>?_) (λh=>?_)))))
 ·exact ws (gn 3 0 (Wp.ret (rr h▸rq)))
 exact Wp.skip (ws (gn 4 0 (Wp.ret (rr h▸rq))))
def Y5 (xF:Flash) (z1:Int) (z2:List Block):St:=AA [(2,(pb 2)),(3,(pb 3)),(7,(.one (BL xF.Blocks))),(8,(I (ln xF.Blocks))),(9,(I z1))] [(.box 2,[C0 []]),(.box 3,[C0 z2])]
def Y4 (z3:List Block):St:=AA [(2,(pb 2)),(3,(pb 3))] [(.box 2,[C0 []]),(.box 3,[C0 z3])]
theorem NC (xF:Flash) (r:Flash) (h:Lq xF=some r):AP Tryz.prog 134 [.sv (.agg (NK false xF))] (.agg (NK true r)) (rg 1):=by
 refine gk Tryz.func134 rfl Tryz.ntmps134 (ws (gw 2 0 (gn 1 0 (Wp.seq (ws (Ai 2 0 (RW.q (CT (BF false) xF.Blocks) (gn 1 0 (BM h [2,3,7,8,9] [.box 2,.box 3] (λs=>(Y5 xF s.1 s.2)) [2,3] [.box 2,.box 3] (λs=>(Y4 s)) Eu ?_ ?_)))))))))
 ·rintro⟨y1,a⟩ o (h:Qs xF y1 a=some o);refine ws (gn 1 0 (Wp.seq (wc h (λh=>?_) (λh=>?_))))
  ·exact Wp.skip (Wp.seq (Wp.block (ws (CG (BF false) h (λx1 gx1 h=>RW.q (MW (BF false) gx1 0 3) (gw 2 0 (Ai 2 0 (bd h λq1 gq1 h=>CM (Dm DA (λ_=>rfl) [] gq1) (gn 2 0 (Au (Ai 4 0 (bd h λq2 gq2 h=>CM (sL (BF true) a [(Block.mk x1.Bad x1.Wear q1)] gq2) (gn 2 0 (Au (gn 2 0 (jl h))))))))))))))))
  exact Wp.exit (jv h)
 intro v1 h E hE;exact AY hE (ws (gn 2 0 (Wp.ret (rr h▸rq))))
end Go.TI
