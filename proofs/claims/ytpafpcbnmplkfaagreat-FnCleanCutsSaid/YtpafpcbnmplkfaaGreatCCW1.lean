/- That they compute it. No condition. -/
import Derived.Test.YtpafpcbnmplkfaaGreatCCW0
set_option maxHeartbeats 4000000
set_option linter.unusedVariables false
set_option linter.unusedSimpArgs false
namespace Go.TI
open Go Go.Proofs
set_option maxRecDepth 100000
def cA (xS:ByteArray) (z1:List Bg) (z2:Int):St:=A7 [(0,(Y xS)),(3,(.one (QC z1))),(4,(I z2))] []
def b9 (z3:List Bg):St:=A7 [(3,(.one (QC z3)))] []
def bZ (xS:ByteArray) (a:List Bg) (b:Int) (z4:Int) (z5:Int) (z6:Int):St:=A7 [(0,(Y xS)),(3,(.one (QC a))),(4,(I b)),(5,(I z4)),(6,(I z5)),(7,(I z6))] []
def bY (xS:ByteArray) (a:List Bg) (b:Int) (z7:Int) (z8:Int):St:=A7 [(0,(Y xS)),(3,(.one (QC a))),(4,(I b)),(5,(I z7)),(6,(I z8))] []
def bX (xS:ByteArray) (d:List Bg) (e:Int) (a:Int) (b:Int) (c:Int) (v1:Int) (z9:Bool):St:=A7 [(0,(Y xS)),(3,(.one (QC d))),(4,(I e)),(5,(I a)),(6,(I b)),(7,(I c)),(8,(I v1)),(35,(B z9))] []
def bW (xS:ByteArray) (a:List Bg) (b:Int) (z10:Bool):St:=A7 [(0,(Y xS)),(3,(.one (QC a))),(4,(I b)),(9,(I (sb (ln a) 1))),(72,(B z10))] []
theorem kQ (xS:ByteArray) (r:List Bg) (h:K4 xS=some r):AM Tryz.prog 197 [.sv (Y xS)] (.one (QC r)) (rg 1):=by
 refine gk Tryz.func197 rfl Tryz.ntmps197 (ws (gw 1 0 (gn 2 2 (Wp.seq (ws (gn 3 0 (wc h (λh=>?_) (λh=>?_))))))))
 ·exact ws (gn 2 2 (Wp.ret (rr h▸rq)))
 refine Wp.skip (ws (gn 1 0 (sl1 h [0,3,4] [] (λs=>(cA xS s.1 s.2)) [3] [] (λs=>(b9 s)) ?_ (λv3 h=>?_))))
 ·rintro⟨b,d⟩ o (h:C0 xS b d=some o);refine Wp.seq (ws (gn 4 0 (wc h (λh=>?_) (λh=>?_))))
  ·refine Wp.skip (Wp.block (ws (gw 1 0 (gn 1 0 (Wp.seq (ws (gn 3 0 (BQ h [0,3,4,5,6,7] [] (λs=>(bZ xS b d s.1 s.2.1 s.2.2)) [0,3,4,5,6] [] (λs=>(bY xS b d s.1 s.2)) DM ?_ ?_))))))))
   ·rintro⟨e,f,g⟩ o (h:EB xS d e f g=some o);refine Wp.seq (ws (gn 2 0 (wc h (λh=>?_) (λh=>?_))))
    ·refine Wp.skip (Wp.seq (Wp.block (ws (Ah 3 0 (RW.c 0 h (kH _ _ _) (λv1 gv1 h=>gn 1 0 (EA h [0,3,4,5,6,7,8,35] [] (λa=>(bX xS b d e f g v1 a)) (λa h=>?_) (λj1 h=>?_))))))))
     ·refine Ap (Ah 3 0 (AK 31 h (λh=>?_) (λh=>?_)))
      ·exact gn 4 0 (jn h)
      exact gn 4 0 (jn h)
     refine wc h (λh=>?_) (λh=>?_)
     ·exact ws (gn 2 0 (Ap (gn 4 0 (Ap (gn 3 0 (jl h))))))
     exact Wp.skip (Ap (gn 3 0 (jl h)))
    exact Wp.exit (jv h)
   intro v2 h E hE;refine AW hE (Wp.seq (ws (gn 2 0 (wc h (λh=>?_) (λh=>?_)))))
   ·exact ws (Ah 5 0 (bd h λq1 gq1 h=>CI (Dk MS (λ_=>rfl) b gq1) (gw 1 1 (gn 4 0 (Wp.exit (jl h))))))
   refine Wp.skip (ws (Ah 1 0 (RW.q (CR MS b) (gn 2 0 (Wp.seq (EA h [0,3,4,9,72] [] (λa=>(bW xS b d a)) (λa h=>?_) (λj2 h=>?_)))))))
   ·refine Ap (Ah 3 0 (AK 56 h (λh=>?_) (λh=>?_)))
    ·refine Ah 2 0 (C9 MS h (λx1 gx1 h=>RW.q (DB MS gx1 0 0) (RW.q (CB MS gx1 0) (Ah 3 0 (AK 64 h (λh=>?_) (λh=>?_))))))
     ·exact Ah 2 0 (C9 MS h (λx2 gx2 h=>RW.q (DB MS gx2 0 2) (RW.q (CB MS gx2 2) (gn 3 0 (jn h)))))
     exact gn 8 0 (jn h)
    exact gn 16 0 (jn h)
   refine wc h (λh=>?_) (λh=>?_)
   ·exact Sh 15 mixed (D3 4 (bd h λx3 gx3 h=>SW.q (Iz MS gx3) (SW.q (DB MS gx3 0 2) (SW.q (CB MS gx3 2) (D3 4 (bd h λx4 gx4 h=>SW.q (Vk gx4) (bd h λx5 gx5 h=>SW.q (Ff gx5) (bd h λx6 gx6 h=>SW.q (Iz MS gx6) (SW.q (DB MS gx6 0 2) (SW.nil (CI (Nd MS gx6 2 0 (Bg.mk x6.Back x6.Size x5)) (RW.nil (Ap (gn 3 0 (jl h)))))))))))))))
   exact Ap (Ah 5 0 (bd h λx7 gx7 h=>RW.q (Vk gx7) (Ah 2 0 (bd h λq2 gq2 h=>CI (Dk MS (λ_=>rfl) b gq2) (gn 1 1 (Ap (gn 3 0 (jl h))))))))
  exact Wp.exit (jv h)
 exact ws (gn 2 2 (Wp.ret (rr h▸rq)))
def cN (xS:ByteArray) (v1:List Bg) (z1:ByteArray) (z2:Int):St:=A7 [(0,(Y xS)),(4,(.one (QC v1))),(5,(Y z1)),(6,(I z2))] []
def cM (xS:ByteArray) (z3:ByteArray):St:=A7 [(0,(Y xS)),(5,(Y z3))] []
theorem T4 (xS:ByteArray) (r:ByteArray×Bool) (h:ES xS=some r):AM Tryz.prog 168 [.sv (Y xS)] (.tup [(Y r.1),(B r.2)]) (rg 1):=by
 refine gk Tryz.func168 rfl Tryz.ntmps168 (ws (gn 2 0 (Wp.seq (ws (gn 3 0 (wc h (λh=>?_) (λh=>?_)))))))
 ·exact ws (gn 2 0 (Wp.ret (rr h▸rq)))
 refine Wp.skip (ws (Ah 1 0 (RW.c 0 h (kQ _) (λv1 gv1 h=>gw 1 1 (gn 1 0 (Wp.seq (ws (gn 1 0 (BQ h [0,4,5,6] [] (λs=>(cN xS v1 s.1 s.2)) [0,5] [] (λs=>(cM xS s)) DM ?_ ?_)))))))))
 ·rintro⟨a,b⟩ o (h:ED v1 a b=some o);refine Wp.seq (ws (Ah 2 0 (RW.q (CR MS v1) (gn 1 0 (wc h (λh=>?_) (λh=>?_))))))
  ·refine Wp.skip (Wp.seq (Wp.block (ws (Ah 2 0 (C9 MS h (λx1 gx1 h=>RW.q (L9 MS gx1 0 3) (gw 2 0 (gn 3 0 (wc h (λh=>?_) (λh=>?_))))))))))
   ·exact Ap (Ah 6 0 (RW.q (xO (f:=c5) (λ_=>rfl) [(IntKind.u8.wrap (FL x1.Text))]) (bd h λx2 gx2 h=>RW.q (Ff gx2) (Ah 2 0 (bd h λx3 gx3 h=>RW.q (Ff gx3) (gn 1 0 (Ap (gn 3 0 (jl h)))))))))
   exact Ap (Ah 9 0 (RW.q (xO (f:=c5) (λ_=>rfl) [(IntKind.u8.wrap (ad 128 x1.Size)),(IntKind.u8.wrap x1.Back)]) (bd h λx4 gx4 h=>RW.q (Ff gx4) (gn 1 0 (Ap (gn 3 0 (jl h)))))))
  exact Wp.exit (jv h)
 intro v2 h E hE;refine AW hE (Wp.seq (ws (gn 6 0 (wc h (λh=>?_) (λh=>?_)))))
 ·exact ws (Ah 1 0 (bd h λx5 gx5 h=>RW.q (Ff gx5) (gn 2 0 (Wp.ret (rr h▸rq)))))
 exact Wp.skip (ws (gn 3 0 (Wp.ret (rr h▸rq))))
def WE (xT:ByteArray) (z1:ByteArray):St:=A7 [(0,(Y xT)),(4,(Y z1))] []
def WD (j1:ByteArray) (z2:Bool):St:=A7 [(4,(Y j1)),(48,(B z2))] []
theorem Yy (xT:ByteArray) (r:ByteArray×Bool) (h:Gh xT=some r):AM Tryz.prog 165 [.sv (Y xT)] (.tup [(Y r.1),(B r.2)]) (rg 1):=by
 refine gk Tryz.func165 rfl Tryz.ntmps165 (ws (gn 2 0 (Wp.seq (ws (gn 3 0 (wc h (λh=>?_) (λh=>?_)))))))
 ·exact ws (gn 2 0 (Wp.ret (rr h▸rq)))
 refine Wp.skip (ws (Ah 1 0 (bd h λx1 gx1 h=>RW.q (Vk gx1) (gn 1 0 (Wp.seq (ws (Ah 1 0 (bd h λx2 gx2 h=>RW.q (xK gx2) (gn 1 0 (AB0 h [0,4] [] (λa=>(WE xT a)) ?_ ?_))))))))))
 ·intro a h b;refine wc h (λh=>?_) (λh=>?_)
  ·refine ws (Ah 1 0 (bd h λx3 gx3 h=>RW.q (Vk gx3) (RW.c 0 h (bO _) (λv1 gv1 h=>gw 5 9 (Ah 1 0 (RW.c 0 h (gs (ca (co (cs (AHM _))) rfl) (s8 _)) (λv2 gv2 h=>gn 5 1 (Wp.seq (ws (Ah 3 0 (AK 32 h (λh=>?_) (λh=>?_)))))) (hc:=(.inr (λv=>rfl)))))))))
   ·exact gn 3 0 (wt (ws (gn 2 0 (Wp.ret (rr (jr h b)▸rq)))))
   refine gn 3 0 (wc h (λh=>?_) (λh=>?_))
   ·exact ws (gn 2 0 (Wp.ret (rr (jr h b)▸rq)))
   exact Wp.skip (Ap (gn 2 0 (jm h)))
  exact Wp.skip (jm h)
 intro j1 h E hE;refine AW hE (ws (Ah 1 0 (RW.c 0 h (T4 _) (λv3 gv3 h=>gn 5 1 (Wp.seq (EA h [4,48] [] (λa=>(WD j1 a)) (λa h=>?_) (λj2 h=>?_)))))))
 ·refine Ap (Ah 3 0 (AK 44 h (λh=>?_) (λh=>?_)))
  ·exact gn 4 0 (jn h)
  exact gn 4 0 (jn h)
 refine wc h (λh=>?_) (λh=>?_)
 ·exact ws (gn 2 0 (Wp.ret (rr h▸rq)))
 exact Wp.skip (ws (gn 3 0 (Wp.ret (rr h▸rq))))
theorem VN (b:List As) (a:Int) (r:ByteArray×Bool) (h:NX b a=some r):AM Tryz.prog 95 [.sv (.one (FQ b)),.sv (I a)] (.tup [(Y r.1),(B r.2)]) (rg 2):=by
 refine gk Tryz.func95 rfl Tryz.ntmps95 (ws (gw 2 0 (Ah 2 0 (RW.c 0 h (bF _ _) (λv1 gv1 h=>gn 6 1 (Wp.seq (ws (gn 2 0 (wc h (λh=>?_) (λh=>?_))))))))))
 ·exact ws (gn 2 0 (Wp.ret (rr h▸rq)))
 exact Wp.skip (ws (Ah 3 0 (RW.c 0 h (Yy _) (λv2 gv2 h=>gn 4 0 (Wp.ret (rr h▸rq))))))
def kC (a:List As) (b:List Int) (c:ByteArray) (z1:Int):St:=A7 [(0,(.one (FQ a))),(1,(.one (PX b))),(2,(Y c)),(7,(I z1))] []
def kA:St:=A7 [] []
def j9 (a:List As) (b:List Int) (c:ByteArray) (d:Int) (z2:Bool):St:=A7 [(0,(.one (FQ a))),(1,(.one (PX b))),(2,(Y c)),(7,(I d)),(30,(B z2))] []
theorem rP (d:List As) (b:List Int) (e:ByteArray) (r:Int) (h:UT d b e=some r):AM Tryz.prog 196 [.sv (.one (FQ d)),.sv (.one (PX b)),.sv (Y e)] (I r) (rg 3):=by
 refine gk Tryz.func196 rfl Tryz.ntmps196 (ws (gn 1 0 (Wp.seq (ws (gn 1 0 (DA h [0,1,2,7] [] (λs=>(kC d b e s)) [] [] (λ_=>kA) DM ?_ ?_))))))
 ·rintro f o (h:Io d b e f=some o) hk1;refine Wp.seq (ws (Ah 2 0 (RW.q (CR k3 b) (gn 1 0 (wc h (λh=>?_) (λh=>?_))))))
  ·refine Wp.skip (Wp.seq (Wp.block (ws (Ah 3 0 (C9 k3 h (λx1 gx1 h=>RW.q (CB k3 gx1 0) (RW.c 0 h (VN _ _) (λv1 gv1 h=>gn 5 1 (EA h [0,1,2,7,30] [] (λa=>(j9 d b e f a)) (λa h=>?_) (λj1 h=>?_))))))))))
   ·refine Ap (Ah 2 0 (AK 26 h (λh=>?_) (λh=>?_)))
    ·exact gn 4 0 (jn h)
    exact gn 4 0 (jn h)
   refine wc h (λh=>?_) (λh=>?_)
   ·exact ws (Ah 2 0 (C9 k3 h (λx2 gx2 h=>RW.q (CB k3 gx2 0) (gn 1 0 (Wp.ret (rr (jo h hk1)▸rq))))))
   exact Wp.skip (Ap (gn 3 0 (jl h)))
  exact Wp.exit (jx h)
 intro v2 h E hE;exact AW hE (ws (gn 1 0 (Wp.ret (rr h▸rq))))
theorem mV (xF:Flash) (a:List Int) (b:ByteArray) (r:Int) (h:OP xF a b=some r):AM Tryz.prog 167 [.sv (.agg (LH false xF)),.sv (.one (PX a)),.sv (Y b)] (I r) (rg 3):=by
 exact gk Tryz.func167 rfl Tryz.ntmps167 (ws (gw 2 0 (Ah 1 0 (RW.c 0 h (HS _) (λv1 gv1 h=>Ah 2 0 (RW.c 0 h (gs (ca (co (cs (W3 _))) rfl) (rP _ _ _)) (λv2 gv2 h=>gn 1 0 (Wp.ret (rr h▸rq))) (hc:=(.inr (λv=>rfl)))))))))
def sZ (xD:AH) (xQ:Wy) (v2:Int) (z1:Bool):St:=A7 [(2,(pb 2)),(3,(pb 3)),(7,(.one (DS []))),(8,(B (decide (v2>=0)))),(29,(B z1))] [(.box 2,[Bz xD.Flash.Blocks,Dp xD.Store.Vols,BB xD.Store.Arena.Knots,i6 xD.Store.Next,i6 xD.Seq,i6 xD.Tx,i6 xD.Base]),(.box 3,[i6 xQ.Kind,i6 xQ.Vol,i6 xQ.Sector,i6 xQ.Of,ts xQ.Text])]
def sW (xD:AH) (xQ:Wy) (z2:Bool):St:=A7 [(2,(pb 2)),(3,(pb 3)),(7,(.one (DS []))),(42,(B z2))] [(.box 2,[Bz xD.Flash.Blocks,Dp xD.Store.Vols,BB xD.Store.Arena.Knots,i6 xD.Store.Next,i6 xD.Seq,i6 xD.Tx,i6 xD.Base]),(.box 3,[i6 xQ.Kind,i6 xQ.Vol,i6 xQ.Sector,i6 xQ.Of,ts xQ.Text])]
def sV (xQ:Wy) (z3:Int) (z4:ByteArray):St:=A7 [(3,(pb 3)),(9,(I z3)),(10,(Y z4))] [(.box 3,[i6 xQ.Kind,i6 xQ.Vol,i6 xQ.Sector,i6 xQ.Of,ts xQ.Text])]
theorem Y9 (xD:AH) (xQ:Wy) (r:List Cu×ByteArray×Int) (h:MH xD xQ=some r):AM Tryz.prog 99 [.sv (.agg (QZ false xD)),.sv (.agg (AF7 xQ))] (.tup [(.one (DS r.1)),(Y r.2.1),(I r.2.2)]) (rg 2):=by
 refine gk Tryz.func99 rfl Tryz.ntmps99 (ws (gw 5 0 (gn 2 2 (Wp.seq (ws (Ah 1 0 (RW.c 0 h (ACi _) (λv1 gv1 h=>gn 1 0 (wc h (λh=>?_) (λh=>?_))))))))))
 ·exact ws (gn 4 2 (Wp.ret (rr h▸rq)))
 refine Wp.skip (ws (Ah 4 0 (RW.c 0 h (Kz _ _) (λv2 gv2 h=>gn 2 0 (Wp.seq (EA h [2,3,7,8,29] [.box 2,.box 3] (λa=>(sZ xD xQ v2 a)) (λa h=>?_) (λj1 h=>?_)))))))
 ·refine Ap (Ah 4 0 (AK 25 h (λh=>?_) (λh=>?_)))
  ·exact gn 4 0 (jn h)
  exact gn 4 0 (jn h)
 refine wc h (λh=>?_) (λh=>?_)
 ·refine Wp.seq (ws (gn 1 0 (wc h (λh=>?_) (λh=>?_))))
  ·exact ws (gn 4 2 (Wp.ret (rr h▸rq)))
  refine Wp.skip (Wp.seq (EA h [2,3,7,42] [.box 2,.box 3] (λa=>(sW xD xQ a)) (λa h=>?_) (λj2 h=>?_)))
  ·refine Ap (Ah 4 0 (AK 35 h (λh=>?_) (λh=>?_)))
   ·exact Ah 4 0 (RW.c 0 h (Kz _ _) (λv3 gv3 h=>gn 2 0 (jn h)))
   exact gn 7 0 (jn h)
  refine wc h (λh=>?_) (λh=>?_)
  ·exact ws (gn 4 2 (Wp.ret (rr h▸rq)))
  refine Wp.skip (Wp.seq (ws (Ah 3 0 (RW.q (CR Es xD.Store.Vols) (gn 1 0 (wc h (λh=>?_) (λh=>?_)))))))
  ·exact ws (gn 4 2 (Wp.ret (rr h▸rq)))
  exact Wp.skip (ws (gn 9 64 (Wp.ret (rr h▸rq))))
 refine Wp.skip (Wp.seq (ws (gn 2 0 (wc h (λh=>?_) (λh=>?_)))))
 ·exact ws (gn 4 2 (Wp.ret (rr h▸rq)))
 refine Wp.skip (Wp.seq (ws (gn 2 0 (Wp.block (ws (gn 2 0 (wc h (λh=>?_) (λh=>?_))))))))
 ·refine Wp.seq (Dr [] mixed (λ_ _=>nP) (Bf [0,1,2,3,5,6] 0 (Bp 4 (KB.c 0 h (OM _) (λv4 gv4 h=>Bp 7 (KB.c 0 h (gs (ca rfl (ca (co (cs (rF _))) rfl)) (mV _ _ _)) (λv5 gv5 h=>Bf [8] 0 (Bc (ws (gn 1 0 (Wp.seq (ws (gn 2 0 (IE h [3,9,10] [.box 3] (λa=>(sV xQ a.1 a.2)) ?_ ?_)))))))) (hc:=(.inr (λv=>rfl)))))))))
  ·intro a h;refine wc h (λh=>?_) (λh=>?_)
   ·exact ws (gn 4 0 (Ap (Ah 2 0 (RW.c 0 h (T4 _) (λv6 gv6 h=>gn 4 1 (jn h))))))
   exact Wp.skip (jn h)
  intro j3 h E hE;exact AW hE (ws (gn 11 256 (Wp.ret (rr h▸rq))))
 refine ws (gn 2 0 (wc h (λh=>?_) (λh=>?_)))
 ·exact ws (gn 9 64 (Wp.ret (rr h▸rq)))
 refine ws (gn 2 0 (wc h (λh=>?_) (λh=>?_)))
 ·exact ws (gn 7 16 (Wp.ret (rr h▸rq)))
 exact Wp.skip (ws (gn 4 2 (Wp.ret (rr h▸rq))))
theorem tO (xS:Store) (b:Int) (a:Int) (r:Int) (h:Ob xS b a=some r):AM Tryz.prog 94 [.sv (.agg (SN false xS)),.sv (I b),.sv (I a)] (I r) (rg 3):=by
 refine gk Tryz.func94 rfl Tryz.ntmps94 (ws (gw 2 0 (Ah 2 0 (RW.c 0 h (Kz _ _) (λv1 gv1 h=>gn 1 0 (Wp.seq (ws (gn 2 0 (wc h (λh=>?_) (λh=>?_))))))))))
 ·exact ws (gn 1 0 (Wp.ret (rr h▸rq)))
 exact Wp.skip (Wp.seq (Sh 9 mixed (D3 5 (bd h λx1 gx1 h=>SW.q (Iz Es gx1) (SW.q (DB Es gx1 0 1) (SW.q (CB Es gx1 1) (D3 1 (SW.nil (RW.c 0 h (gE _ _ _) (λv2 gv2 h=>gn 1 0 (Wp.ret (rr h▸rq))))))))))))
theorem rO (b:List As) (xS:Store) (d:Int) (a:Int) (r:ByteArray×Bool) (h:G7 b xS d a=some r):AM Tryz.prog 55 [.sv (.one (FQ b)),.sv (.agg (SN false xS)),.sv (I d),.sv (I a)] (.tup [(Y r.1),(B r.2)]) (rg 4):=by
 refine gk Tryz.func55 rfl Tryz.ntmps55 (ws (gn 3 0 (Wp.seq (ws (Ah 2 0 (RW.c 0 h (Kz _ _) (λv1 gv1 h=>gn 1 0 (wc h (λh=>?_) (λh=>?_)))))))))
 ·exact ws (gn 2 0 (Wp.ret (rr h▸rq)))
 refine Wp.skip (ws (Ah 3 0 (RW.c 0 h (tO _ _ _) (λv2 gv2 h=>gn 1 0 (Wp.seq (ws (gn 2 0 (wc h (λh=>?_) (λh=>?_)))))))))
 ·exact ws (gn 2 0 (Wp.ret (rr h▸rq)))
 exact Wp.skip (ws (Ah 2 0 (RW.c 0 h (VN _ _) (λv3 gv3 h=>gn 4 0 (Wp.ret (rr h▸rq))))))
theorem Sw (xD:AH) (b:Int) (a:Int) (r:ByteArray×Bool) (h:MG xD b a=some r):AM Tryz.prog 20 [.sv (.agg (QZ false xD)),.sv (I b),.sv (I a)] (.tup [(Y r.1),(B r.2)]) (rg 3):=by
 exact gk Tryz.func20 rfl Tryz.ntmps20 (ws (gn 3 0 (Wp.seq (Dr [] mixed (λ_ _=>nP) (Bf [0,1,3,4,5,6] 0 (Bp 2 (KB.c 0 h (HS _) (λv1 gv1 h=>Bp 7 (KB.c 0 h (gs (ca (co (cs (W3 _))) rfl) (rO _ _ _ _)) (λv2 gv2 h=>Hs 8 (Hs 9 (Bf [10,11] 0 (Bc (Wp.ret (rr h▸rq)))))) (hc:=(.inr (λv=>rfl))))))))))))
def sP (xF:Flash) (z1:Int) (z2:Int):St:=A7 [(1,(pb 1)),(3,(I z1)),(4,(I z2))] [(.box 1,[Bz xF.Blocks])]
def sO (z3:Int):St:=A7 [(3,(I z3))] []
def sN (xF:Flash) (a:Int) (z4:Int) (z5:Int):St:=A7 [(1,(pb 1)),(3,(I z4)),(4,(I a)),(5,(I z5))] [(.box 1,[Bz xF.Blocks])]
def sM (xF:Flash) (a:Int) (z6:Int):St:=A7 [(1,(pb 1)),(3,(I z6)),(4,(I a))] [(.box 1,[Bz xF.Blocks])]
theorem Sv (xF:Flash) (r:Int) (h:MF xF=some r):AM Tryz.prog 100 [.sv (.agg (LH false xF))] (I r) (rg 1):=by
 refine gk Tryz.func100 rfl Tryz.ntmps100 (ws (gw 2 0 (gn 1 0 (Wp.seq (ws (gn 1 0 (BQ h [1,3,4] [.box 1] (λs=>(sP xF s.1 s.2)) [3] [] (λs=>(sO s)) DM ?_ ?_)))))))
 ·rintro⟨b,a⟩ o (h:Lj xF b a=some o);refine Wp.seq (ws (Ah 3 0 (RW.q (CR (B5 false) xF.Blocks) (gn 1 0 (wc h (λh=>?_) (λh=>?_))))))
  ·refine Wp.skip (Wp.seq (Wp.block (ws (gn 1 0 (BQ h [1,3,4,5] [.box 1] (λs=>(sN xF a s.1 s.2)) [1,3,4] [.box 1] (λs=>(sM xF a s)) DM ?_ ?_)))))
   ·rintro⟨c,d⟩ o (h:Li xF a c d=some o);refine Wp.seq (ws (Ah 4 0 (C9 (B5 false) h (λx1 gx1 h=>RW.q (DB (B5 false) gx1 0 2) (RW.q (CB (B5 false) gx1 2) (RW.q (CR Dw x1.Leaves) (gn 1 0 (wc h (λh=>?_) (λh=>?_)))))))))
    ·refine Wp.skip (Wp.seq (Wp.block (ws (Ah 3 0 (C9 (B5 false) h (λx2 gx2 h=>RW.q (DB (B5 false) gx2 0 0) (RW.q (CB (B5 false) gx2 0) (Ah 2 0 (AK 31 h (λh=>?_) (λh=>?_))))))))))
     ·refine Ah 3 0 (C9 (B5 false) h (λx3 gx3 h=>RW.q (DB (B5 false) gx3 0 2) (RW.q (CB (B5 false) gx3 2) (Ah 1 0 (C9 Dw h (λx4 gx4 h=>RW.q (DB Dw gx4 0 0) (RW.q (CB Dw gx4 0) (gn 2 0 (wc h (λh=>?_) (λh=>?_))))))))))
      ·exact Ap (gn 3 0 (Ap (gn 3 0 (jl h))))
      exact Wp.skip (Ap (gn 3 0 (jl h)))
     exact gn 12 0 (wf (Wp.skip (Ap (gn 3 0 (jl h)))))
    exact Wp.exit (jv h)
   intro v1 h E hE;exact AW hE (Ap (gn 3 0 (jl h)))
  exact Wp.exit (jv h)
 intro v2 h E hE;exact AW hE (ws (gn 2 0 (Wp.ret (rr h▸rq))))
def Yj (a:List As) (b:List Int) (c:Int) (z1:List Bool) (z2:Int):St:=A7 [(0,(.one (FQ a))),(1,(.one (PX b))),(2,(I c)),(7,(.one (PW z1))),(8,(I z2))] []
def Yi (a:List As) (b:List Int) (z3:List Bool):St:=A7 [(0,(.one (FQ a))),(1,(.one (PX b))),(7,(.one (PW z3)))] []
def Yh (a:List As) (b:List Int) (z4:List Bool) (z5:Int):St:=A7 [(0,(.one (FQ a))),(1,(.one (PX b))),(7,(.one (PW z4))),(9,(I z5))] []
def Yg (z6:List Bool):St:=A7 [(7,(.one (PW z6)))] []
def Yf (a:List As) (b:List Int) (c:Int) (z7:List Bool) (z8:Int):St:=A7 [(0,(.one (FQ a))),(1,(.one (PX b))),(7,(.one (PW z7))),(9,(I c)),(10,(I z8))] []
def Ye (a:List As) (b:List Int) (c:Int) (z9:List Bool):St:=A7 [(0,(.one (FQ a))),(1,(.one (PX b))),(7,(.one (PW z9))),(9,(I c))] []
def Yd (a:List As) (b:List Int) (d:Int) (c:List Bool) (e:Int) (z10:Bool):St:=A7 [(0,(.one (FQ a))),(1,(.one (PX b))),(7,(.one (PW c))),(9,(I d)),(10,(I e)),(72,(B z10))] []
theorem KS (b:List As) (c:List Int) (d:Int) (r:List Bool) (h:GU b c d=some r):AM Tryz.prog 33 [.sv (.one (FQ b)),.sv (.one (PX c)),.sv (I d)] (.one (PW r)) (rg 3):=by
 refine gk Tryz.func33 rfl Tryz.ntmps33 (ws (gw 1 0 (Ah 1 0 (RW.q (CR Eo b) (bd h λq1 gq1 h=>CI (fmk k4 false gq1) (gn 1 1 (Wp.seq (ws (gn 1 0 (BQ h [0,1,2,7,8] [] (λs=>(Yj b c d s.1 s.2)) [0,1,7] [] (λs=>(Yi b c s)) DM ?_ ?_))))))))))
 ·rintro⟨g,k⟩ o (h:HO b d g k=some o);refine Wp.seq (ws (Ah 2 0 (RW.q (CR Eo b) (gn 1 0 (wc h (λh=>?_) (λh=>?_))))))
  ·refine Wp.skip (Wp.seq (Wp.block (Ap (Ah 4 0 (C9 Eo h (λx1 gx1 h=>RW.q (DB Eo gx1 0 2) (RW.q (DB Eo gx1 2 2) (RW.q (CB Eo gx1 2) (Ah 2 0 (AK 29 h (λh=>?_) (λh=>?_)))))))))))
   ·exact Ah 2 0 (C9 Eo h (λx2 gx2 h=>RW.q (DB Eo gx2 0 2) (RW.q (DB Eo gx2 2 4) (RW.q (CB Eo gx2 4) (Ah 3 0 (C9 k4 h (λx3 gx3 h=>CI (Nd k4 gx3 0 0 (decide (x2.Page.Tx>=d))) (RW.nil (Ap (gn 3 0 (jl h)))))))))))
   exact Ah 9 0 (C9 k4 h (λx4 gx4 h=>CI (Nd k4 gx4 0 0 false) (RW.nil (Ap (gn 3 0 (jl h))))))
  exact Wp.exit (jv h)
 intro v1 h E hE;refine AW hE (Wp.seq (ws (gn 1 0 (BQ h [0,1,7,9] [] (λs=>(Yh b c s.1 s.2)) [7] [] (λs=>(Yg s)) DM ?_ ?_))))
 ·rintro⟨i,e⟩ o (h:HN b c i e=some o);refine Wp.seq (ws (Ah 2 0 (RW.q (CR k3 c) (gn 1 0 (wc h (λh=>?_) (λh=>?_))))))
  ·refine Wp.skip (Wp.seq (Wp.block (ws (Ah 1 0 (RW.q (CR Eo b) (gn 2 0 (BQ h [0,1,7,9,10] [] (λs=>(Yf b c e s.1 s.2)) [0,1,7,9] [] (λs=>(Ye b c e s)) DM ?_ ?_)))))))
   ·rintro⟨f,j⟩ o (h:F6 b c e f j=some o);refine Wp.seq (ws (gn 2 0 (wc h (λh=>?_) (λh=>?_))))
    ·refine Wp.skip (Wp.seq (Wp.block (EA h [0,1,7,9,10,72] [] (λa=>(Yd b c e f j a)) (λa h=>?_) (λj1 h=>?_))))
     ·refine Kt mixed (D3 2 (bd h λx5 gx5 h=>SW.q (Iz Eo gx5) (SW.q (DB Eo gx5 0 2) (SW.q (DB Eo gx5 2 2) (SW.q (CB Eo gx5 2) (D3 2 (iX 60 h (λh=>?_) (λh=>?_))))))))
      ·exact D3 2 (bd h λx6 gx6 h=>SW.q (Iz Eo gx6) (SW.q (DB Eo gx6 0 2) (SW.q (DB Eo gx6 2 4) (SW.q (CB Eo gx6 4) (D3 2 (bd h λx7 gx7 h=>SW.q (Iz k3 gx7) (SW.q (CB k3 gx7 0) (D3 2 (SW.nil (jn h))))))))))
      exact D3 12 (SW.nil (jn h))
     refine wc h (λh=>?_) (λh=>?_)
     ·exact ws (Ah 2 0 (C9 k4 h (λx8 gx8 h=>CI (Nd k4 gx8 0 0 true) (RW.nil (Ap (gn 1 0 (Ap (gn 3 0 (jl h)))))))))
     exact Wp.skip (Ap (gn 3 0 (jl h)))
    exact Wp.exit (jv h)
   intro v2 h E hE;exact AW hE (Ap (gn 3 0 (jl h)))
  exact Wp.exit (jv h)
 intro v3 h E hE;exact AW hE (ws (gn 2 2 (Wp.ret (rr h▸rq))))
def bB (xB:Block) (z1:Int):St:=A7 [(1,(pb 1)),(3,(I z1))] [(.box 1,[tb xB.Bad,i6 xB.Wear,Ny xB.Leaves])]
def bA:St:=A7 [] []
theorem jU (xB:Block) (r:Bool) (h:M9 xB=some r):AM Tryz.prog 88 [.sv (.agg (Ut false xB))] (B r) (rg 1):=by
 refine gk Tryz.func88 rfl Tryz.ntmps88 (ws (gn 2 0 (Wp.seq (ws (gn 1 0 (DA h [1,3] [.box 1] (λs=>(bB xB s)) [] [] (λ_=>bA) DM ?_ ?_))))))
 ·rintro a o (h:IK xB a=some o) hk1;refine Wp.seq (ws (Ah 3 0 (RW.q (CR Dw xB.Leaves) (gn 1 0 (wc h (λh=>?_) (λh=>?_))))))
  ·refine Wp.skip (Wp.seq (Wp.block (ws (Ah 3 0 (C9 Dw h (λx1 gx1 h=>RW.q (DB Dw gx1 0 0) (RW.q (CB Dw gx1 0) (gn 1 0 (wc h (λh=>?_) (λh=>?_))))))))))
   ·exact ws (gn 1 0 (Wp.ret (rr (jo h hk1)▸rq)))
   exact Wp.skip (Ap (gn 3 0 (jl h)))
  exact Wp.exit (jx h)
 intro v1 h E hE;exact AW hE (ws (gn 1 0 (Wp.ret (rr h▸rq))))
def yN (b:List As) (a:List Bool) (xB:Int) (z1:Int) (z2:Int):St:=A7 [(0,(.one (FQ b))),(1,(.one (of4 a))),(2,(I xB)),(7,(I z1)),(8,(I z2))] []
def yM (z3:Int):St:=A7 [(7,(I z3))] []
theorem UV (b:List As) (a:List Bool) (xB:Int) (r:Int) (h:LO b a xB=some r):AM Tryz.prog 58 [.sv (.one (FQ b)),.sv (.one (of4 a)),.sv (I xB)] (I r) (rg 3):=by
 refine gk Tryz.func58 rfl Tryz.ntmps58 (ws (gw 1 0 (gn 1 0 (Wp.seq (ws (gn 1 0 (BQ h [0,1,2,7,8] [] (λs=>(yN b a xB s.1 s.2)) [7] [] (λs=>(yM s)) DM ?_ ?_)))))))
 ·rintro⟨c,d⟩ o (h:MA b a xB c d=some o);refine Wp.seq (ws (Ah 2 0 (RW.q (CR Eo b) (gn 1 0 (wc h (λh=>?_) (λh=>?_))))))
  ·refine Wp.skip (Wp.seq (Wp.block (ws (Ah 2 0 (C9 k4 h (λx1 gx1 h=>RW.q (CB k4 gx1 0) (Ah 1 0 (AK 19 h (λh=>?_) (λh=>?_)))))))))
   ·refine Ah 2 0 (C9 Eo h (λx2 gx2 h=>RW.q (DB Eo gx2 0 0) (RW.q (CB Eo gx2 0) (gn 3 0 (wc h (λh=>?_) (λh=>?_))))))
    ·exact Ap (gn 3 0 (Ap (gn 3 0 (jl h))))
    exact Wp.skip (Ap (gn 3 0 (jl h)))
   exact gn 8 0 (wf (Wp.skip (Ap (gn 3 0 (jl h)))))
  exact Wp.exit (jv h)
 intro v1 h E hE;exact AW hE (ws (gn 2 0 (Wp.ret (rr h▸rq))))
def WW (xD:AH) (v1:List As) (v3:List Bool) (z1:List Int) (z2:Int):St:=A7 [(1,(pb 1)),(3,(.one (Hg v1))),(4,(.one (.view (.slot 17) 0 [] 0))),(5,(.one (Er z1))),(6,(I z2)),(17,(.one (PW v3)))] [(.box 1,[Bz xD.Flash.Blocks,Dp xD.Store.Vols,BB xD.Store.Arena.Knots,i6 xD.Store.Next,i6 xD.Seq,i6 xD.Tx,i6 xD.Base])]
def WV (z3:List Int):St:=A7 [(5,(.one (Er z3)))] []
def WU (xD:AH) (v1:List As) (v3:List Bool) (a:List Int) (b:Int) (z4:Bool):St:=A7 [(1,(pb 1)),(3,(.one (Hg v1))),(4,(.one (.view (.slot 17) 0 [] 0))),(5,(.one (Er a))),(6,(I b)),(17,(.one (PW v3))),(47,(B z4))] [(.box 1,[Bz xD.Flash.Blocks,Dp xD.Store.Vols,BB xD.Store.Arena.Knots,i6 xD.Store.Next,i6 xD.Seq,i6 xD.Tx,i6 xD.Base])]
theorem YU (xD:AH) (r:List Int) (h:Ix xD=some r):AM Tryz.prog 45 [.sv (.agg (QZ false xD))] (.one (Er r)) (rg 1):=by
 refine gk Tryz.func45 rfl Tryz.ntmps45 (ws (gw 2 0 (Ah 2 0 (RW.c 0 h (HS _) (λv1 gv1 h=>gn 1 1 (Wp.seq (Dr [] mixed (λ_ _=>nP) (Bf [0,1,2,4,5] 0 (Bp 3 (KB.c 0 h (OM _) (λv2 gv2 h=>Bp 6 (KB.c 0 h (gs (ca (co (cs (W3 _))) (ca (co (cs (rF _))) rfl)) (KS _ _ _)) (λv3 gv3 h=>Bf [7] 0 (Bc (ws (gn 2 2 (Wp.seq (ws (gn 1 0 (BQ h [1,3,4,5,6,17] [.box 1] (λs=>(WW xD v1 v3 s.1 s.2)) [5] [] (λs=>(WV s)) DM ?_ ?_)))))))) (hc:=(.inr (λv=>by simp [BA,BD,AO,B4,ns4,PW])))))))))))))))
 ·rintro⟨b,d⟩ o (h:DL xD v1 v3 b d=some o);refine Wp.seq (ws (Ah 4 0 (RW.q (CR (B5 false) xD.Flash.Blocks) (gn 1 0 (wc h (λh=>?_) (λh=>?_))))))
  ·refine Wp.skip (Wp.seq (Wp.block (ws (Ah 4 0 (C9 (B5 false) h (λx1 gx1 h=>RW.q (L9 (B5 false) gx1 0 3) (gn 2 0 (EA h [1,3,4,5,6,17,47] [.box 1] (λa=>(WU xD v1 v3 b d a)) (λa h=>?_) (λj1 h=>?_)))))))))
   ·refine Ap (Ah 4 0 (AK 36 h (λh=>?_) (λh=>?_)))
    ·refine Ah 1 0 (RW.c 0 h (jU _) (λv4 gv4 h=>Ah 3 0 (AK 41 h (λh=>?_) (λh=>?_))))
     ·exact Ah 3 0 (RW.c 0 h (gs (ca (co (cs (W3 _))) (ca (co (cs (sh4 _))) rfl)) (UV _ _ _)) (λv5 gv5 h=>gn 2 0 (jn h)) (hc:=(.inr (λv=>rfl))))
     exact gn 6 0 (jn h)
    exact gn 11 0 (jn h)
   refine wc h (λh=>?_) (λh=>?_)
   ·exact Ap (Ah 3 0 (bd h λq1 gq1 h=>CI (Dk k3 (λ_=>rfl) b gq1) (gn 1 1 (Ap (gn 3 0 (jl h))))))
   exact Wp.skip (Ap (gn 3 0 (jl h)))
  exact Wp.exit (jv h)
 intro v6 h E hE;exact AW hE (ws (gn 2 2 (Wp.ret (rr h▸rq))))
def bE (xD:AH) (v2:List Tx) (z1:Int):St:=A7 [(1,(pb 1)),(3,(.one (TH v2))),(4,(I z1))] [(.box 1,[Bz xD.Flash.Blocks,Dp xD.Store.Vols,BB xD.Store.Arena.Knots,i6 xD.Store.Next,i6 xD.Seq,i6 xD.Tx,i6 xD.Base])]
def bD:St:=A7 [] []
theorem jV (xD:AH) (r:Bool) (h:Ky xD=some r):AM Tryz.prog 46 [.sv (.agg (QZ false xD))] (B r) (rg 1):=by
 refine gk Tryz.func46 rfl Tryz.ntmps46 (ws (gn 2 0 (Wp.seq (ws (gn 6 0 (wc h (λh=>?_) (λh=>?_)))))))
 ·exact ws (gn 1 0 (Wp.ret (rr h▸rq)))
 refine Wp.skip (ws (Ah 2 0 (RW.c 0 h (HS _) (λv1 gv1 h=>RW.c 0 h (gs (ca (co (cs (W3 _))) rfl) (YQ _)) (λv2 gv2 h=>gn 1 1 (Wp.seq (ws (gn 1 0 (DA h [1,3,4] [.box 1] (λs=>(bE xD v2 s)) [] [] (λ_=>bD) DM ?_ ?_))))) (hc:=(.inr (λv=>by simp [BA,BD,AO,B4,AFA,TH])))))))
 ·rintro a o (h:Fi xD v2 a=some o) hk1;refine Wp.seq (ws (Ah 2 0 (RW.q (CR (PT true) v2) (gn 1 0 (wc h (λh=>?_) (λh=>?_))))))
  ·refine Wp.skip (Wp.seq (Wp.block (Wp.seq (Kt mixed (D3 2 (bd h λx1 gx1 h=>SW.q (Iz (PT true) gx1) (SW.q (DB (PT true) gx1 0 0) (SW.q (CB (PT true) gx1 0) (D3 3 (SW.nil (wc h (λh=>?_) (λh=>?_))))))))))))
   ·refine ws (Ah 2 0 (C9 (PT true) h (λx2 gx2 h=>RW.q (DB (PT true) gx2 0 2) (RW.q (CB (PT true) gx2 2) (RW.q (AHQ Ho x2.Recs (PT true) gx2 2) (Ah 2 0 (AK 36 h (λh=>?_) (λh=>?_))))))))
    ·exact Ah 2 0 (C9 (PT true) h (λx3 gx3 h=>RW.q (DB (PT true) gx3 0 2) (RW.q (CB (PT true) gx3 2) (bd h λx4 gx4 h=>RW.q (ADP Ho gx4 (PT true) gx3 2) (RW.q (DB Ho gx4 0 0 (hr:=pr2 0 (PT true) gx3 2)) (RW.q (CB Ho gx4 0 (hr:=pr2 0 (PT true) gx3 2)) (gn 3 0 (Wp.ret (rr (jo h hk1)▸rq)))))))))
    exact gn 11 0 (Wp.ret (rr (jo h hk1)▸rq))
   exact Wp.skip (Ap (gn 3 0 (jl h)))
  exact Wp.exit (jx h)
 intro v3 h E hE;exact AW hE (ws (gn 1 0 (Wp.ret (rr h▸rq))))
def dR (xS:Store) (z1:List Cu) (z2:Int):St:=A7 [(1,(pb 1)),(3,(.one (DS z1))),(4,(I z2))] [(.box 1,[Dp xS.Vols,BB xS.Arena.Knots,i6 xS.Next])]
def dQ (z3:List Cu):St:=A7 [(3,(.one (DS z3)))] []
def dP (xS:Store) (a:Int) (v1:List Int) (z4:List Cu) (z5:Int):St:=A7 [(1,(pb 1)),(3,(.one (DS z4))),(4,(I a)),(5,(.one (Er v1))),(6,(I z5))] [(.box 1,[Dp xS.Vols,BB xS.Arena.Knots,i6 xS.Next])]
def dO (xS:Store) (a:Int) (z6:List Cu):St:=A7 [(1,(pb 1)),(3,(.one (DS z6))),(4,(I a))] [(.box 1,[Dp xS.Vols,BB xS.Arena.Knots,i6 xS.Next])]
theorem m9 (xS:Store) (r:List Cu) (h:K7 xS=some r):AM Tryz.prog 40 [.sv (.agg (SN false xS))] (.one (DS r)) (rg 1):=by
 refine gk Tryz.func40 rfl Tryz.ntmps40 (ws (gw 2 0 (gn 5 16 (Wp.seq (ws (gn 1 0 (BQ h [1,3,4] [.box 1] (λs=>(dR xS s.1 s.2)) [3] [] (λs=>(dQ s)) DM ?_ ?_)))))))
 ·rintro⟨a,d⟩ o (h:DJ xS a d=some o);refine Wp.seq (ws (Ah 3 0 (RW.q (CR Es xS.Vols) (gn 1 0 (wc h (λh=>?_) (λh=>?_))))))
  ·refine Wp.skip (Wp.seq (Wp.block (ws (Ah 4 0 (C9 Es h (λx1 gx1 h=>RW.q (DB Es gx1 0 0) (RW.q (CB Es gx1 0) (Ah 2 0 (bd h λq1 gq1 h=>CI (Dk Ho (λ_=>rfl) a gq1) (gn 1 1 (Wp.seq (Sh 8 mixed (D3 5 (bd h λx2 gx2 h=>SW.q (Iz Es gx2) (SW.q (DB Es gx2 0 1) (SW.q (CB Es gx2 1) (SW.nil (RW.c 0 h (Rp _ _) (λv1 gv1 h=>gw 1 1 (gn 1 0 (BQ h [1,3,4,5,6] [.box 1] (λs=>(dP xS d v1 s.1 s.2)) [1,3,4] [.box 1] (λs=>(dO xS d s)) DM ?_ ?_)))))))))))))))))))))
   ·rintro⟨b,e⟩ o (h:DI xS d v1 b e=some o);refine Wp.seq (ws (Ah 2 0 (RW.q (CR k3 v1) (gn 1 0 (wc h (λh=>?_) (λh=>?_))))))
    ·refine Wp.skip (Wp.seq (Wp.block (ws (Ah 2 0 (C9 k3 h (λx3 gx3 h=>RW.q (CB k3 gx3 0) (gn 1 0 (wc h (λh=>?_) (λh=>?_)))))))))
     ·exact Dr [14] mixed (λ_ _=>nP) (Bf [0,1,2,3] 0 (bd h λx4 gx4 h=>KW.q 4 (Iz Es gx4) (KW.q 5 (DB Es gx4 0 0) (KW.q 6 (CB Es gx4 0) (Bf [7,8,9] 0 (bd h λx5 gx5 h=>KW.q 10 (Iz k3 gx5) (KW.q 11 (CB k3 gx5 0) (Bf [12,13] 0 (Bp 14 (bd h λq2 gq2 h=>L5 (Dk Ho (λ_=>rfl) b gq2) (Bf [15] 1 (Bc (Ap (gn 3 0 (jl h)))))))))))))))
     exact Wp.skip (Ap (gn 3 0 (jl h)))
    exact Wp.exit (jv h)
   intro v2 h E hE;exact AW hE (Ap (gn 3 0 (jl h)))
  exact Wp.exit (jv h)
 intro v3 h E hE;exact AW hE (ws (gn 2 2 (Wp.ret (rr h▸rq))))
def YE (xF:Flash) (z1:Int):St:=A7 [(1,(pb 1)),(3,(I z1))] [(.box 1,[Bz xF.Blocks])]
def YD:St:=A7 [] []
def YC (xF:Flash) (a:Int) (z2:Int) (z3:Int) (z4:Int):St:=A7 [(1,(pb 1)),(3,(I a)),(4,(I z2)),(5,(I z3)),(6,(I z4))] [(.box 1,[Bz xF.Blocks])]
def YB (xF:Flash) (a:Int) (z5:Int) (z6:Int):St:=A7 [(1,(pb 1)),(3,(I a)),(4,(I z5)),(5,(I z6))] [(.box 1,[Bz xF.Blocks])]
def YA (xF:Flash) (a:Int) (z7:Bool):St:=A7 [(1,(pb 1)),(3,(I a)),(54,(B z7))] [(.box 1,[Bz xF.Blocks])]
theorem cO (xF:Flash) (r:Int) (h:Jy xF=some r):AM Tryz.prog 141 [.sv (.agg (LH false xF))] (I r) (rg 1):=by
 refine gk Tryz.func141 rfl Tryz.ntmps141 (ws (gn 2 0 (Wp.seq (ws (gn 1 0 (DA h [1,3] [.box 1] (λs=>(YE xF s)) [] [] (λ_=>YD) DM ?_ ?_))))))
 ·rintro b o (h:DH xF b=some o) hk1;refine Wp.seq (ws (Ah 3 0 (RW.q (CR (B5 false) xF.Blocks) (gn 1 0 (wc h (λh=>?_) (λh=>?_))))))
  ·refine Wp.skip (Wp.seq (Wp.block (ws (gw 1 0 (gn 1 0 (Wp.seq (ws (gn 1 0 (BQ h [1,3,4,5,6] [.box 1] (λs=>(YC xF b s.1 s.2.1 s.2.2)) [1,3,4,5] [.box 1] (λs=>(YB xF b s.1 s.2)) DM ?_ ?_)))))))))
   ·rintro⟨c,d,e⟩ o (h:GD xF b c d e=some o);refine Wp.seq (ws (Ah 4 0 (C9 (B5 false) h (λx1 gx1 h=>RW.q (DB (B5 false) gx1 0 2) (RW.q (CB (B5 false) gx1 2) (RW.q (CR Dw x1.Leaves) (gn 1 0 (wc h (λh=>?_) (λh=>?_)))))))))
    ·refine Wp.skip (Wp.seq (Wp.block (ws (Ah 3 0 (C9 (B5 false) h (λx2 gx2 h=>RW.q (DB (B5 false) gx2 0 2) (RW.q (CB (B5 false) gx2 2) (Ah 1 0 (C9 Dw h (λx3 gx3 h=>RW.q (DB Dw gx3 0 0) (RW.q (CB Dw gx3 0) (gn 1 0 (wc h (λh=>?_) (λh=>?_))))))))))))))
     ·exact Ap (gn 3 0 (Ap (gn 3 0 (jl h))))
     exact Ap (gn 3 0 (Ap (gn 3 0 (jl h))))
    exact Wp.exit (jv h)
   intro v1 h E hE;refine AW hE (EA h [1,3,54] [.box 1] (λa=>(YA xF b a)) (λa h=>?_) (λj1 h=>?_))
   ·refine Ap (Ah 3 0 (C9 (B5 false) h (λx4 gx4 h=>RW.q (DB (B5 false) gx4 0 0) (RW.q (CB (B5 false) gx4 0) (Ah 2 0 (AK 47 h (λh=>?_) (λh=>?_)))))))
    ·refine Ah 4 0 (AK 51 h (λh=>?_) (λh=>?_))
     ·exact gn 3 0 (jn h)
     exact gn 3 0 (jn h)
    exact gn 7 0 (jn h)
   refine wc h (λh=>?_) (λh=>?_)
   ·exact ws (gn 2 0 (Wp.ret (rr (jo h hk1)▸rq)))
   exact Wp.skip (Ap (gn 3 0 (jl h)))
  exact Wp.exit (jx h)
 intro v2 h E hE;exact AW hE (ws (gn 1 0 (Wp.ret (rr h▸rq))))
def YG (xB:Block) (z1:Int):St:=A7 [(1,(pb 1)),(3,(I z1))] [(.box 1,[tb xB.Bad,i6 xB.Wear,Ny xB.Leaves])]
def YF:St:=A7 [] []
theorem NH (xB:Block) (r:Int) (h:Fk xB=some r):AM Tryz.prog 59 [.sv (.agg (Ut false xB))] (I r) (rg 1):=by
 refine gk Tryz.func59 rfl Tryz.ntmps59 (ws (gn 2 0 (Wp.seq (ws (gn 1 0 (DA h [1,3] [.box 1] (λs=>(YG xB s)) [] [] (λ_=>YF) DM ?_ ?_))))))
 ·rintro a o (h:Ef xB a=some o) hk1;refine Wp.seq (ws (Ah 3 0 (RW.q (CR Dw xB.Leaves) (gn 1 0 (wc h (λh=>?_) (λh=>?_))))))
  ·refine Wp.skip (Wp.seq (Wp.block (ws (Ah 3 0 (C9 Dw h (λx1 gx1 h=>RW.q (DB Dw gx1 0 0) (RW.q (CB Dw gx1 0) (gn 1 0 (wc h (λh=>?_) (λh=>?_))))))))))
   ·exact ws (gn 2 0 (Wp.ret (rr (jo h hk1)▸rq)))
   exact Wp.skip (Ap (gn 3 0 (jl h)))
  exact Wp.exit (jx h)
 intro v1 h E hE;exact AW hE (ws (gn 1 0 (Wp.ret (rr h▸rq))))
def WR (xF:Flash) (z1:List Int) (z2:Int):St:=A7 [(1,(pb 1)),(3,(.one (Er z1))),(4,(I z2))] [(.box 1,[Bz xF.Blocks])]
def WQ (z3:List Int):St:=A7 [(3,(.one (Er z3)))] []
def WP (xF:Flash) (a:List Int) (b:Int) (z4:Bool) (z5:Int):St:=A7 [(1,(pb 1)),(3,(.one (Er a))),(4,(I b)),(5,(B z4)),(6,(I z5))] [(.box 1,[Bz xF.Blocks])]
def WO (xF:Flash) (a:List Int) (b:Int) (z6:Bool):St:=A7 [(1,(pb 1)),(3,(.one (Er a))),(4,(I b)),(5,(B z6))] [(.box 1,[Bz xF.Blocks])]
theorem YR (xF:Flash) (r:List Int) (h:LU xF=some r):AM Tryz.prog 142 [.sv (.agg (LH false xF))] (.one (Er r)) (rg 1):=by
 refine gk Tryz.func142 rfl Tryz.ntmps142 (ws (gw 2 0 (gn 2 2 (Wp.seq (ws (gn 1 0 (BQ h [1,3,4] [.box 1] (λs=>(WR xF s.1 s.2)) [3] [] (λs=>(WQ s)) DM ?_ ?_)))))))
 ·rintro⟨a,c⟩ o (h:Hm xF a c=some o);refine Wp.seq (ws (Ah 3 0 (RW.q (CR (B5 false) xF.Blocks) (gn 1 0 (wc h (λh=>?_) (λh=>?_))))))
  ·refine Wp.skip (Wp.seq (Wp.block (ws (Ah 3 0 (C9 (B5 false) h (λx1 gx1 h=>RW.q (DB (B5 false) gx1 0 0) (RW.q (CB (B5 false) gx1 0) (gn 2 0 (Wp.seq (ws (gn 1 0 (BQ h [1,3,4,5,6] [.box 1] (λs=>(WP xF a c s.1 s.2)) [1,3,4,5] [.box 1] (λs=>(WO xF a c s)) DM ?_ ?_))))))))))))
   ·rintro⟨b,d⟩ o (h:Gb xF c b d=some o);refine Wp.seq (ws (Ah 4 0 (C9 (B5 false) h (λx2 gx2 h=>RW.q (DB (B5 false) gx2 0 2) (RW.q (CB (B5 false) gx2 2) (RW.q (CR Dw x2.Leaves) (gn 1 0 (wc h (λh=>?_) (λh=>?_)))))))))
    ·refine Wp.skip (Wp.seq (Wp.block (Ap (Ah 2 0 (AK 34 h (λh=>?_) (λh=>?_))))))
     ·exact Ah 3 0 (C9 (B5 false) h (λx3 gx3 h=>RW.q (DB (B5 false) gx3 0 2) (RW.q (CB (B5 false) gx3 2) (Ah 1 0 (C9 Dw h (λx4 gx4 h=>RW.q (DB Dw gx4 0 0) (RW.q (CB Dw gx4 0) (gn 3 0 (Ap (gn 3 0 (jl h)))))))))))
     exact gn 13 0 (Ap (gn 3 0 (jl h)))
    exact Wp.exit (jv h)
   intro v1 h E hE;refine AW hE (ws (gn 1 0 (wc h (λh=>?_) (λh=>?_))))
   ·exact Ap (Ah 3 0 (bd h λq1 gq1 h=>CI (Dk k3 (λ_=>rfl) a gq1) (gn 1 1 (Ap (gn 3 0 (jl h))))))
   exact Wp.skip (Ap (gn 3 0 (jl h)))
  exact Wp.exit (jv h)
 intro v2 h E hE;exact AW hE (ws (gn 2 2 (Wp.ret (rr h▸rq))))
def mL (xF:Flash) (v4:List Int) (z1:Int) (z2:Int):St:=A7 [(1,(pb 1)),(6,(.one (Er v4))),(7,(I z1)),(8,(I z2))] [(.box 1,[Bz xF.Blocks])]
def mK (z3:Int):St:=A7 [(7,(I z3))] []
theorem s9 (xF:Flash) (r:Int×Int×Bool) (h:K6 xF=some r):AM Tryz.prog 77 [.sv (.agg (LH false xF))] (.tup [(I r.1),(I r.2.1),(B r.2.2)]) (rg 1):=by
 refine gk Tryz.func77 rfl Tryz.ntmps77 (ws (gn 4 0 (Wp.seq (ws (Ah 1 0 (RW.c 0 h (Nt _) (λv1 gv1 h=>gn 1 0 (wc h (λh=>?_) (λh=>?_)))))))))
 ·exact ws (gn 3 0 (Wp.ret (rr h▸rq)))
 refine Wp.skip (ws (Ah 1 0 (RW.c 0 h (cO _) (λv2 gv2 h=>gn 1 0 (Wp.seq (ws (gn 2 0 (wc h (λh=>?_) (λh=>?_)))))))))
 ·exact ws (Ah 4 0 (C9 (B5 false) h (λx1 gx1 h=>RW.q (L9 (B5 false) gx1 0 3) (RW.c 0 h (NH _) (λv3 gv3 h=>gn 3 0 (Wp.ret (rr h▸rq)))))))
 refine Wp.skip (ws (Ah 1 0 (RW.c 0 h (YR _) (λv4 gv4 h=>gn 1 1 (Wp.seq (ws (Ah 1 0 (RW.q (CR k3 v4) (gn 1 0 (wc h (λh=>?_) (λh=>?_)))))))))))
 ·exact ws (gn 3 0 (Wp.ret (rr h▸rq)))
 refine Wp.skip (ws (Ah 1 0 (C9 k3 h (λx2 gx2 h=>RW.q (CB k3 gx2 0) (gn 1 0 (Wp.seq (ws (gn 1 0 (BQ h [1,6,7,8] [.box 1] (λs=>(mL xF v4 s.1 s.2)) [7] [] (λs=>(mK s)) DM ?_ ?_)))))))))
 ·rintro⟨a,b⟩ o (h:Fe xF v4 a b=some o);refine Wp.seq (ws (Ah 2 0 (RW.q (CR k3 v4) (gn 1 0 (wc h (λh=>?_) (λh=>?_))))))
  ·refine Wp.skip (Wp.seq (Wp.block (Wp.seq (Kt mixed (D3 4 (bd h λx3 gx3 h=>SW.q (Iz k3 gx3) (SW.q (CB k3 gx3 0) (bd h λx4 gx4 h=>SW.q (Iz (B5 false) gx4) (SW.q (DB (B5 false) gx4 0 1) (SW.q (CB (B5 false) gx4 1) (D3 3 (bd h λx5 gx5 h=>SW.q (Iz (B5 false) gx5) (SW.q (DB (B5 false) gx5 0 1) (SW.q (CB (B5 false) gx5 1) (D3 1 (SW.nil (wc h (λh=>?_) (λh=>?_))))))))))))))))))
   ·exact Ap (Ah 2 0 (C9 k3 h (λx6 gx6 h=>RW.q (CB k3 gx6 0) (gn 1 0 (Ap (gn 3 0 (jl h)))))))
   exact Wp.skip (Ap (gn 3 0 (jl h)))
  exact Wp.exit (jv h)
 intro v5 h E hE;exact AW hE (ws (gn 4 0 (Wp.ret (rr h▸rq))))
theorem y9 (xF:Flash) (xB:Int) (a:Int) (b:ByteArray) (r:Bool) (h:Ty xF xB a b=some r):AM Tryz.prog 184 [.sv (.agg (LH false xF)),.sv (I xB),.sv (I a),.sv (Y b)] (B r) (rg 4):=by
 refine gk Tryz.func184 rfl Tryz.ntmps184 (ws (gw 2 0 (Ah 3 0 (RW.q (CR (B5 false) xF.Blocks) (Ah 1 0 (RW.c 0 h (BR _ _ _) (λv1 gv1 h=>Ah 1 0 (AK 15 h (λh=>?_) (λh=>?_)))))))))
 ·refine Ah 3 0 (C9 (B5 false) h (λx1 gx1 h=>RW.q (DB (B5 false) gx1 0 0) (RW.q (CB (B5 false) gx1 0) (Ah 3 0 (AK 24 h (λh=>?_) (λh=>?_))))))
  ·refine Ah 4 0 (AK 28 h (λh=>?_) (λh=>?_))
   ·refine Ah 4 0 (C9 (B5 false) h (λx2 gx2 h=>RW.q (L9 (B5 false) gx2 0 3) (RW.c 0 h (NH _) (λv2 gv2 h=>Ah 3 0 (AK 38 h (λh=>?_) (λh=>?_))))))
    ·exact Ah 2 0 (RW.c 0 h (BR _ _ _) (λv3 gv3 h=>gn 2 0 (Wp.ret (rr h▸rq))))
    exact gn 5 0 (Wp.ret (rr h▸rq))
   exact gn 15 0 (Wp.ret (rr h▸rq))
  exact gn 19 0 (Wp.ret (rr h▸rq))
 exact gn 28 0 (Wp.ret (rr h▸rq))
def mC (xB:Int) (a:Int) (b:ByteArray) (v1:Flash) (z1:Bool):St:=A7 [(1,(I xB)),(2,(I a)),(3,(Y b)),(8,(pb 8)),(10,(pb 10)),(23,(B z1))] [(.box 8,[BW []]),(.box 10,[BW v1.Blocks])]
theorem sT (xF:Flash) (xB:Int) (d:Int) (b:ByteArray) (r:Flash×Bool) (h:K5 xF xB d b=some r):AM Tryz.prog 143 [.sv (.agg (LH false xF)),.sv (I xB),.sv (I d),.sv (Y b)] (.tup [(.agg (LH true r.1)),(B r.2)]) (rg 4):=by
 refine gk Tryz.func143 rfl Tryz.ntmps143 (ws (gw 3 0 (Ah 1 0 (RW.c 0 h (Fj _) (λv1 gv1 h=>gn 2 0 (Wp.seq (EA h [1,2,3,8,10,23] [.box 8,.box 10] (λa=>(mC xB d b v1 a)) (λa h=>?_) (λj1 h=>?_))))))))
 ·refine Ap (Ah 1 0 (RW.c 0 h (Nt _) (λv2 gv2 h=>Ah 2 0 (AK 16 h (λh=>?_) (λh=>?_)))))
  ·exact gn 7 0 (jn h)
  exact Ah 4 0 (RW.c 0 h (y9 _ _ _ _) (λv3 gv3 h=>gn 2 0 (jn h)))
 refine wc h (λh=>?_) (λh=>?_)
 ·exact ws (gn 3 0 (Wp.ret (rr h▸rq)))
 exact Wp.skip (ws (Ah 3 0 (C9 (B5 true) h (λx1 gx1 h=>RW.q (DB (B5 true) gx1 0 2) (RW.q (CB (B5 true) gx1 2) (Ah 3 0 (bd h λx2 gx2 h=>RW.q (ADP Dw gx2 (B5 true) gx1 2) (CI (AFV Dw gx2 0 0 (Leaf.mk 1 b) (B5 true) gx1 2 (Block.mk x1.Bad x1.Wear (si x1.Leaves d (Leaf.mk 1 b)))) (RW.nil (ws (gn 3 0 (Wp.ret (rr h▸rq)))))))))))))
def ACh (xF:Flash) (xB:Int) (v1:Flash) (z1:Bool):St:=A7 [(1,(I xB)),(2,(pb 2)),(4,(pb 4)),(6,(pb 6)),(37,(B z1))] [(.box 2,[Bz xF.Blocks]),(.box 4,[BW []]),(.box 6,[BW v1.Blocks])]
theorem ADB (xF:Flash) (xB:Int) (r:Flash×Bool) (h:Su xF xB=some r):AM Tryz.prog 144 [.sv (.agg (LH false xF)),.sv (I xB)] (.tup [(.agg (LH true r.1)),(B r.2)]) (rg 2):=by
 refine gk Tryz.func144 rfl Tryz.ntmps144 (ws (gw 3 0 (Ah 1 0 (RW.c 0 h (Fj _) (λv1 gv1 h=>gn 2 0 (Wp.seq (EA h [1,2,4,6,37] [.box 2,.box 4,.box 6] (λa=>(ACh xF xB v1 a)) (λa h=>?_) (λj1 h=>?_))))))))
 ·refine Ap (Ah 1 0 (RW.c 0 h (Nt _) (λv2 gv2 h=>Ah 2 0 (AK 12 h (λh=>?_) (λh=>?_)))))
  ·exact gn 25 0 (jn h)
  refine Ah 3 0 (RW.q (CR (B5 false) xF.Blocks) (Ah 1 0 (RW.c 0 h (BR _ _ _) (λv3 gv3 h=>Ah 3 0 (AK 21 h (λh=>?_) (λh=>?_))))))
  ·exact gn 16 0 (jn h)
  refine Ah 3 0 (C9 (B5 false) h (λx1 gx1 h=>RW.q (DB (B5 false) gx1 0 0) (RW.q (CB (B5 false) gx1 0) (Ah 2 0 (AK 29 h (λh=>?_) (λh=>?_))))))
  ·exact gn 8 0 (jn h)
  exact Ah 3 0 (C9 (B5 false) h (λx2 gx2 h=>RW.q (DB (B5 false) gx2 0 1) (RW.q (CB (B5 false) gx2 1) (gn 2 0 (jn h)))))
 refine wc h (λh=>?_) (λh=>?_)
 ·exact ws (gn 3 0 (Wp.ret (rr h▸rq)))
 exact Wp.skip (Wp.seq (Dr [13] mixed (λ_ _=>nP) (Bf [0,1,2,3,4,5] 0 (bd h λx3 gx3 h=>KW.q 6 (Iz (B5 false) gx3) (KW.q 7 (DB (B5 false) gx3 0 1) (KW.q 8 (CB (B5 false) gx3 1) (Bf [9] 0 (Bp 10 (bd h λq1 gq1 h=>L5 (fmk Dw (Leaf.mk 0 (bs [])) gq1) (Bf [11] 0 (bd h λx4 gx4 h=>KW.q 12 (Iz (B5 true) gx4) (Bp 13 (L5 (Nd (B5 true) gx4 0 0 (Block.mk false (ad x3.Wear 1) q1)) (Bc (ws (gn 3 0 (Wp.ret (rr h▸rq))))))))))))))))))
def c80 (x:Bb):List TV:=[i6 x.Kind,i6 x.Block,i6 x.Leaf,ts x.Text]
theorem PF:∀x,(c80 x).length=4:=λ_=>rfl
theorem ACc:∀l,BP (AU c80 l)=AU c80 l:=DQ (λ_=>rfl)
theorem AFB:∀l,AO (AU c80 l)=false:=KU (λ_=>rfl)
def F9 (l:List Bb):TV:= .sl true 80 4 (AU c80 l)
def WY (l:List Bb):TV:= .sl false 80 4 (AU c80 l)
theorem OR (xF:Flash) (xS:Bb) (r:Flash×Bool) (h:IN xF xS=some r):AM Tryz.prog 78 [.sv (.agg (LH false xF)),.sv (.agg (c80 xS))] (.tup [(.agg (LH true r.1)),(B r.2)]) (rg 2):=by
 refine gk Tryz.func78 rfl Tryz.ntmps78 (ws (gn 4 0 (Wp.seq (ws (gn 2 0 (Wp.block (ws (gn 2 0 (wc h (λh=>?_) (λh=>?_))))))))))
 ·exact ws (Ah 7 0 (RW.c 0 h (sT _ _ _ _) (λv1 gv1 h=>gn 4 0 (Wp.ret (rr h▸rq)))))
 refine ws (gn 2 0 (wc h (λh=>?_) (λh=>?_)))
 ·exact ws (Ah 3 0 (RW.c 0 h (ADB _ _) (λv2 gv2 h=>gn 4 0 (Wp.ret (rr h▸rq)))))
 exact Wp.skip (ws (Ah 1 0 (RW.c 0 h (Fj _) (λv3 gv3 h=>gn 2 0 (Wp.ret (rr h▸rq))))))
def rM (xF:Flash) (a:List Bb) (v1:ByteArray×Bool) (v2:Int×Int×Bool) (z1:Bool):St:=A7 [(1,(.one (F9 a))),(3,(pb 3)),(6,(pb 6)),(9,(Y v1.1)),(11,(I v2.1)),(12,(I v2.2.1)),(33,(B z1))] [(.box 3,[Bz xF.Blocks]),(.box 6,[BW []])]
def rL (v3:Flash×Bool) (z2:List Bb):St:=A7 [(6,(pb 6)),(7,(.one (F9 z2))),(8,(B v3.2))] [(.box 6,[BW v3.1.Blocks])]
theorem Ss (xF:Flash) (b:List Bb) (xP:Page) (r:Flash×List Bb×Bool) (h:DR xF b xP=some r):AM Tryz.prog 35 [.sv (.agg (LH false xF)),.sv (.one (F9 b)),.sv (.agg (c65 xP))] (.tup [(.agg (LH false r.1)),(.one (F9 r.2.1)),(B r.2.2)]) (rg 3):=by
 refine gk Tryz.func35 rfl Tryz.ntmps35 (ws (gw 5 0 (Ah 1 0 (RW.c 0 h (T3 _) (λv1 gv1 h=>gw 5 1 (Ah 1 0 (RW.c 0 h (s9 _) (λv2 gv2 h=>gn 7 1 (Wp.seq (EA h [1,3,6,9,11,12,33] [.box 3,.box 6] (λa=>(rM xF b v1 v2 a)) (λa h=>?_) (λj1 h=>?_)))))))))))
 ·refine Ap (Ah 3 0 (AK 30 h (λh=>?_) (λh=>?_)))
  ·exact gn 3 0 (jn h)
  exact gn 3 0 (jn h)
 refine wc h (λh=>?_) (λh=>?_)
 ·exact ws (gn 5 8 (Wp.ret (rr h▸rq)))
 refine Wp.skip (ws (gw 6 0 (Ah 2 0 (RW.c 0 h (OR _ _) (λv3 gv3 h=>gn 6 1 (EA h [6,7,8] [.box 6] (λa=>(rL v3 a)) (λa h=>?_) (λj2 h=>?_)))))))
 ·refine Dr [4,6] mixed (λ_ _=>nP) (Bf [1,2] 0 (Wx 0 3 5 ?_ ?_ ?_))
  ·refine KB.o false (Dj 3 5 ?_ ?_)
   ·refine KB.o false (Dj 4 5 ?_ ?_)
    ·exact bd h λq4 gq4 h=>L5 (Dk PF (λ_=>rfl) b gq4) (oj [7] h)
    exact KB.o false (Bp 4 (bd h λq5 gq5 h=>L5 (Dk PF (λ_=>rfl) b gq5) (Bf [6,7,8] 2 (Bc (jn h)))))
   exact KB.o false (Bf [3] 0 (Bp 4 (bd h λq6 gq6 h=>L5 (Dk PF (λ_=>rfl) b gq6) (Bf [6,7,8] 2 (Bc (jn h))))))
  ·refine KB.o false (Wx 0 4 5 ?_ ?_ ?_)
   ·refine KB.o false (Dj 4 5 ?_ ?_)
    ·exact bd h λq9 gq9 h=>L5 (Dk PF (λ_=>rfl) b gq9) (oj [7] h)
    exact KB.o false (Bp 4 (bd h λq10 gq10 h=>L5 (Dk PF (λ_=>rfl) b gq10) (Bf [6,7,8] 2 (Bc (jn h)))))
   ·exact bd h λq11 gq11 h=>L5 (Dk PF (λ_=>rfl) b gq11) (oj [7] h)
   refine KB.o false (Dj 0 4 ?_ ?_)
   ·exact KB.o false (Bp 4 (bd h λq13 gq13 h=>L5 (Dk PF (λ_=>rfl) b gq13) (Bf [6,7,8] 2 (Bc (jn h)))))
   exact bd h λq14 gq14 h=>L5 (Dk PF (λ_=>rfl) b gq14) (Bf [0,6,7,8] 4 (Bc (jn h)))
  refine KB.o false (Dj 0 3 ?_ ?_)
  ·exact KB.o false (Bf [3] 0 (Bp 4 (bd h λq16 gq16 h=>L5 (Dk PF (λ_=>rfl) b gq16) (Bf [6,7,8] 2 (Bc (jn h))))))
  refine KB.o false (Dj 0 4 ?_ ?_)
  ·exact KB.o false (Bp 4 (bd h λq18 gq18 h=>L5 (Dk PF (λ_=>rfl) b gq18) (Bf [6,7,8] 2 (Bc (jn h)))))
  exact bd h λq19 gq19 h=>L5 (Dk PF (λ_=>rfl) b gq19) (Bf [0,6,7,8] 4 (Bc (jn h)))
 exact Wp.fz (.box 6) 0 (CZ v3.1.Blocks) (Wp.ret (rr h▸rq))
theorem sQ (xR:Cu) (r:ByteArray×Bool) (h:Mn xR=some r):AM Tryz.prog 148 [.sv (.agg (V5 xR))] (.tup [(Y r.1),(B r.2)]) (rg 1):=by
 refine gk Tryz.func148 rfl Tryz.ntmps148 (ws (gn 3 0 (Wp.seq (ws (Ah 1 0 (RW.c 0 h (Ve _) (λv1 gv1 h=>gn 1 0 (wc h (λh=>?_) (λh=>?_)))))))))
 ·exact ws (gn 2 0 (Wp.ret (rr h▸rq)))
 exact Wp.skip (Wp.seq (Dr [] mixed (λ_ _=>nP) (Bf [0,1,2,3,4,5,7,8,11,12] 0 (Bp 6 (KB.c 0 h (VP _) (λv2 gv2 h=>Bp 9 (KB.c 0 h (Jf _) (λv3 gv3 h=>bd h λx1 gx1 h=>KW.q 10 (Ff gx1) (Bp 13 (KB.c 0 h (Jf _) (λv4 gv4 h=>bd h λx2 gx2 h=>KW.q 14 (Ff gx2) (Bf [15,16] 0 (Bc (Wp.ret (rr h▸rq)))))))))))))))
def kN (b:Int) (c:Int) (a:List Cu) (z1:List ByteArray) (z2:Int):St:=A7 [(0,(I b)),(1,(I c)),(2,(.one (Oe a))),(8,(.one (Vl []))),(9,(.one (ot9 z1))),(10,(I z2))] []
def kM (a:Int) (b:Int) (z3:List ByteArray):St:=A7 [(0,(I a)),(1,(I b)),(8,(.one (Vl []))),(9,(.one (ot9 z3)))] []
def kL (a:Int) (b:Int) (v2:List ByteArray) (z4:Bool):St:=A7 [(0,(I a)),(1,(I b)),(8,(.one (Vl []))),(9,(.one (ot9 v2))),(76,(B z4))] []
def kK (a:Int) (b:Int) (v2:List ByteArray) (z5:List Page) (z6:Int):St:=A7 [(0,(I a)),(1,(I b)),(9,(.one (ot9 v2))),(14,(.one (Vl z5))),(15,(I z6))] []
def kJ (z7:List Page):St:=A7 [(14,(.one (Vl z7)))] []
theorem sJ (b:Int) (f:Int) (d:List Cu) (r:List Page×Bool) (h:Iq b f d=some r):AM Tryz.prog 81 [.sv (I b),.sv (I f),.sv (.one (Oe d))] (.tup [(.one (Vl r.1)),(B r.2)]) (rg 3):=by
 refine gk Tryz.func81 rfl Tryz.ntmps81 (ws (gw 2 0 (gw 2 2 (gn 2 2 (Wp.seq (ws (gn 1 0 (DA h [0,1,2,8,9,10] [] (λs=>(kN b f d s.1 s.2)) [0,1,8,9] [] (λs=>(kM b f s)) DM ?_ ?_))))))))
 ·rintro⟨e,i⟩ o (h:Ec d e i=some o) hk1;refine Wp.seq (ws (Ah 2 0 (RW.q (CR Ho d) (gn 1 0 (wc h (λh=>?_) (λh=>?_))))))
  ·refine Wp.skip (Wp.seq (Wp.block (ws (Ah 2 0 (C9 Ho h (λx1 gx1 h=>RW.q (L9 Ho gx1 0 4) (RW.c 0 h (sQ _) (λv1 gv1 h=>gn 5 1 (Wp.seq (ws (gn 2 0 (wc h (λh=>?_) (λh=>?_)))))))))))))
   ·exact ws (gn 3 2 (Wp.ret (rr (jo h hk1)▸rq)))
   refine Wp.skip (ws (Ah 1 0 (RW.q (CR k9 e) (gw 2 0 (Ah 2 0 (C9 k9 h (λx2 gx2 h=>RW.q (CB k9 gx2 0) (gn 5 0 (wc h (λh=>?_) (λh=>?_))))))))))
   ·exact Ap (Ah 3 0 (bd h λq1 gq1 h=>CI (Dk k9 (λ_=>rfl) e gq1) (gn 1 1 (Ap (gn 3 0 (jl h))))))
   exact Ap (Ah 4 0 (C9 k9 h (λx3 gx3 h=>RW.q (CB k9 gx3 0) (Ah 1 0 (bd h λx4 gx4 h=>RW.q (Ff gx4) (C9 k9 h (λx5 gx5 h=>CI (Nd k9 gx5 0 0 x4) (RW.nil (Ap (gn 3 0 (jl h)))))))))))
  exact Wp.exit (jx h)
 intro v2 h E hE;refine AW hE (Wp.seq (EA h [0,1,8,9,76] [] (λa=>(kL b f v2 a)) (λa h=>?_) (λj1 h=>?_)))
 ·refine Ap (Ah 1 0 (RW.q (CR k9 v2) (Ah 2 0 (AK 63 h (λh=>?_) (λh=>?_)))))
  ·exact gn 13 0 (jn h)
  refine Ah 2 0 (RW.q (CR k9 v2) (Ah 2 0 (RW.c 0 h (BR _ _ _) (λv3 gv3 h=>Ah 3 0 (AK 72 h (λh=>?_) (λh=>?_))))))
  ·exact gn 4 0 (jn h)
  exact Ah 1 0 (RW.c 0 h (BR _ _ _) (λv4 gv4 h=>gn 2 0 (jn h)))
 refine wc h (λh=>?_) (λh=>?_)
 ·exact ws (gn 3 2 (Wp.ret (rr h▸rq)))
 refine Wp.skip (ws (gn 2 2 (Wp.seq (ws (gn 1 0 (BQ h [0,1,9,14,15] [] (λs=>(kK b f v2 s.1 s.2)) [14] [] (λs=>(kJ s)) DM ?_ ?_))))))
 ·rintro⟨g,j⟩ o (h:Fc b f v2 g j=some o);refine Wp.seq (ws (Ah 2 0 (RW.q (CR k9 v2) (gn 1 0 (wc h (λh=>?_) (λh=>?_))))))
  ·exact Wp.skip (Wp.seq (Wp.block (Ap (Ah 7 0 (RW.q (CR k9 v2) (Ah 2 0 (C9 k9 h (λx6 gx6 h=>RW.q (CB k9 gx6 0) (Ah 2 0 (bd h λq2 gq2 h=>CI (Dk k65 (λ_=>rfl) g gq2) (gn 1 1 (Ap (gn 3 0 (jl h))))))))))))))
  exact Wp.exit (jv h)
 intro v5 h E hE;exact AW hE (ws (gn 3 2 (Wp.ret (rr h▸rq))))
def WC (xD:AH) (a:List Cu) (z1:List Bb) (z2:Int) (z3:Bool) (z4:List Block):St:=A7 [(1,(.one (Oe a))),(3,(pb 3)),(8,(.one (F9 z1))),(9,(pb 9)),(10,(I z2)),(11,(B z3))] [(.box 3,[Bz xD.Flash.Blocks,Dp xD.Store.Vols,BB xD.Store.Arena.Knots,i6 xD.Store.Next,i6 xD.Seq,i6 xD.Tx,i6 xD.Base]),(.box 9,[Bz z4])]
def WB (xD:AH) (a:List Cu) (z5:List Bb) (z6:Bool) (z7:List Block):St:=A7 [(1,(.one (Oe a))),(3,(pb 3)),(8,(.one (F9 z5))),(9,(pb 9)),(10,(I xD.Seq)),(11,(B z6))] [(.box 3,[Bz xD.Flash.Blocks,Dp xD.Store.Vols,BB xD.Store.Arena.Knots,i6 xD.Store.Next,i6 xD.Seq,i6 xD.Tx,i6 xD.Base]),(.box 9,[Bz z7])]
def WA (v2:List Page×Bool) (z8:List Bb) (z9:Bool) (z10:Int) (z11:List Block):St:=A7 [(8,(.one (F9 z8))),(9,(pb 9)),(11,(B z9)),(12,(.one (Vl v2.1))),(13,(B v2.2)),(14,(I z10))] [(.box 9,[Bz z11])]
def W9 (v2:List Page×Bool) (z12:List Bb) (z13:Bool):St:=A7 [(8,(.one (F9 z12))),(11,(B z13)),(13,(B v2.2))] []
def W8 (v2:List Page×Bool) (a:List Bb) (b:Bool) (d:Int) (c:List Block) (z14:Bool):St:=A7 [(8,(.one (F9 a))),(9,(pb 9)),(11,(B b)),(12,(.one (Vl v2.1))),(13,(B v2.2)),(14,(I d)),(59,(B z14))] [(.box 9,[Bz c])]
def W7 (v2:List Page×Bool) (a:Int) (z15:List Bb) (z16:Bool) (z17:List Block):St:=A7 [(8,(.one (F9 z15))),(9,(pb 9)),(11,(B z16)),(12,(.one (Vl v2.1))),(13,(B v2.2)),(14,(I a))] [(.box 9,[Bz z17])]
def W6 (v4:List Bb×Bool) (z18:Bool):St:=A7 [(8,(.one (F9 v4.1))),(78,(B z18))] []
theorem Qs (xD:AH) (b:List Cu) (e:ByteArray) (r:List Bb×Bool) (h:Eb xD b e=some r):AM Tryz.prog 39 [.sv (.agg (QZ false xD)),.sv (.one (Oe b)),.sv (Y e)] (.tup [(.one (F9 r.1)),(B r.2)]) (rg 3):=by
 refine gk Tryz.func39 rfl Tryz.ntmps39 (ws (gw 3 0 (gn 2 2 (Wp.seq (ws (Ah 1 0 (RW.q (CR Ho b) (gn 1 0 (wc h (λh=>?_) (λh=>?_))))))))))
 ·exact ws (gn 3 2 (Wp.ret (rr h▸rq)))
 refine Wp.skip (ws (gw 4 0 (gw 3 0 (gn 1 0 (Wp.seq (ws (gn 2 0 (IE h [1,3,8,9,10,11] [.box 3,.box 9] (λa=>(WC xD b a.1 a.2.1 a.2.2.1 a.2.2.2)) ?_ ?_))))))))
 ·intro a h;refine wc h (λh=>?_) (λh=>?_)
  ·refine EA h [1,3,8,9,10,11] [.box 3,.box 9] (λa=>(WB xD b a.1 a.2.1 a.2.2)) (λa h=>?_) (λj2 h=>?_)
   ·exact Dr [12,17] mixed (λ_ _=>nP) (Bf [0,1,2,3,4] 0 (KW.q 5 (CR Ho b) (Bf [6] 0 (bd h λx1 gx1 h=>KW.q 7 (Iz Ho gx1) (KW.q 8 (DB Ho gx1 0 3) (KW.q 9 (CB Ho gx1 3) (Bf [10,11] 0 (Bp 12 (KB.c 2 h (Ss _ _ _) (λv1 gv1 h=>Bf [13] 1 (oj [18] h)))))))))))
   exact Ap (gn 3 0 (jn h))
  exact Wp.skip (jn h)
 intro j1 h E hE;refine AW hE (ws (Ah 4 0 (RW.c 0 h (sJ _ _ _) (λv2 gv2 h=>gn 5 9 (Wp.seq (ws (gn 1 0 (BQ h [8,9,11,12,13,14] [.box 9] (λs=>(WA v2 s.1 s.2.1 s.2.2.1 s.2.2.2)) [8,11,13] [] (λs=>(W9 v2 s.1 s.2)) DM ?_ ?_))))))))
 ·rintro⟨d,f,i,g⟩ o (h:Cn v2 d f i g=some o);refine Wp.seq (EA h [8,9,11,12,13,14,59] [.box 9] (λa=>(W8 v2 d f i g a)) (λa h=>?_) (λj3 h=>?_))
  ·refine Ap (Ah 2 0 (RW.q (CR k65 v2.1) (Ah 2 0 (AK 57 h (λh=>?_) (λh=>?_)))))
   ·exact gn 2 0 (jn h)
   exact gn 2 0 (jn h)
  refine wc h (λh=>?_) (λh=>?_)
  ·refine Wp.skip (Wp.seq (Wp.block (IE h [8,9,11,12,13,14] [.box 9] (λa=>(W7 v2 i a.1 a.2.1 a.2.2)) ?_ ?_)))
   ·intro a h;exact Dr [6,11] mixed (λ_ _=>nP) (Bf [0,1,2,3] 0 (bd h λx2 gx2 h=>KW.q 4 (Iz k65 gx2) (KW.q 5 (L9 k65 gx2 0 6) (Bp 6 (KB.c 2 h (Ss _ _ _) (λv3 gv3 h=>Bf [7] 1 (oj [12] h)))))))
   intro j4 h E hE;exact AW hE (Ap (gn 3 0 (jl h)))
  exact Wp.exit (jv h)
 intro v4 h E hE;refine AW hE (Wp.seq (EA h [8,78] [] (λa=>(W6 v4 a)) (λa h=>?_) (λj5 h=>?_)))
 ·refine Ap (Ah 3 0 (AK 75 h (λh=>?_) (λh=>?_)))
  ·exact gn 3 0 (jn h)
  exact gn 3 0 (jn h)
 refine wc h (λh=>?_) (λh=>?_)
 ·exact ws (gn 3 2 (Wp.ret (rr h▸rq)))
 exact Wp.skip (ws (gn 3 2 (Wp.ret (rr h▸rq))))
theorem dN (xD:AH) (r:List Bb×Bool) (h:Lo xD=some r):AM Tryz.prog 13 [.sv (.agg (QZ false xD))] (.tup [(.one (F9 r.1)),(B r.2)]) (rg 1):=by
 exact gk Tryz.func13 rfl Tryz.ntmps13 (ws (gn 3 0 (Wp.seq (Dr [] mixed (λ_ _=>nP) (Bf [0,1,2] 0 (Bp 3 (KB.c 0 h (m9 _) (λv1 gv1 h=>Bp 4 (KB.c 0 h (gs (ca rfl (ca (co (cs (ABo _))) rfl)) (Qs _ _ _)) (λv2 gv2 h=>Hs 5 (Hs 6 (Bf [7,8] 0 (Bc (Wp.ret (rr h▸rq)))))) (hc:=(.inr (λv=>by simp [BA,BD,AO,B4,AFB,F9]))))))))))))
def bU (xD:AH) (v1:List As) (v3:List Bool) (v4:List Bool) (z1:Int) (z2:Int) (z3:Int):St:=A7 [(1,(pb 1)),(3,(.one (Hg v1))),(5,(.one (PW v3))),(6,(.one (PW v4))),(7,(I z1)),(8,(I z2)),(9,(I z3))] [(.box 1,[Bz xD.Flash.Blocks,Dp xD.Store.Vols,BB xD.Store.Arena.Knots,i6 xD.Store.Next,i6 xD.Seq,i6 xD.Tx,i6 xD.Base])]
def bT (z4:Int):St:=A7 [(7,(I z4))] []
def bS (xD:AH) (v1:List As) (v3:List Bool) (v4:List Bool) (b:Int) (a:Int) (c:Int) (v5:Int) (z5:Bool):St:=A7 [(1,(pb 1)),(3,(.one (Hg v1))),(5,(.one (PW v3))),(6,(.one (PW v4))),(7,(I b)),(8,(I a)),(9,(I c)),(11,(I v5)),(68,(B z5))] [(.box 1,[Bz xD.Flash.Blocks,Dp xD.Store.Vols,BB xD.Store.Arena.Knots,i6 xD.Store.Next,i6 xD.Seq,i6 xD.Tx,i6 xD.Base])]
theorem Tz (xD:AH) (r:Int) (h:Jg xD=some r):AM Tryz.prog 23 [.sv (.agg (QZ false xD))] (I r) (rg 1):=by
 refine gk Tryz.func23 rfl Tryz.ntmps23 (ws (gw 2 0 (Ah 2 0 (RW.c 0 h (HS _) (λv1 gv1 h=>gw 1 1 (Ah 2 0 (RW.c 0 h (OM _) (λv2 gv2 h=>gw 1 1 (Ah 4 0 (RW.c 0 h (gs (ca (co (cs (W3 _))) (ca (co (cs (rF _))) rfl)) (KS _ _ _)) (λv3 gv3 h=>gw 1 1 (Ah 2 0 (RW.c 0 h (gs (ca (co (cs (W3 _))) (ca (co (cs (rF _))) rfl)) (KS _ _ _)) (λv4 gv4 h=>gw 1 1 (gw 1 0 (gn 1 0 (Wp.seq (ws (gn 1 0 (BQ h [1,3,5,6,7,8,9] [.box 1] (λs=>(bU xD v1 v3 v4 s.1 s.2.1 s.2.2)) [7] [] (λs=>(bT s)) DM ?_ ?_))))))) (hc:=(.inr (λv=>by simp [BA,BD,AO,B4,ns4,PW])))))) (hc:=(.inr (λv=>by simp [BA,BD,AO,B4,ns4,PW])))))))))))))
 ·rintro⟨d,b,e⟩ o (h:De xD v1 v3 v4 d b e=some o);refine Wp.seq (ws (Ah 4 0 (RW.q (CR (B5 false) xD.Flash.Blocks) (gn 1 0 (wc h (λh=>?_) (λh=>?_))))))
  ·refine Wp.skip (Wp.seq (Wp.block (ws (Ah 4 0 (C9 (B5 false) h (λx1 gx1 h=>RW.q (L9 (B5 false) gx1 0 3) (gw 2 0 (Ah 3 0 (RW.c 0 h (gs (ca (co (cs (W3 _))) (ca (co (cs (sh4 _))) rfl)) (UV _ _ _)) (λv5 gv5 h=>gn 1 0 (EA h [1,3,5,6,7,8,9,11,68] [.box 1] (λa=>(bS xD v1 v3 v4 d b e v5 a)) (λa h=>?_) (λj1 h=>?_))) (hc:=(.inr (λv=>rfl))))))))))))
   ·refine Ap (Ah 4 0 (AK 47 h (λh=>?_) (λh=>?_)))
    ·refine Ah 1 0 (RW.c 0 h (NH _) (λv6 gv6 h=>Ah 3 0 (AK 52 h (λh=>?_) (λh=>?_))))
     ·refine Ah 4 0 (RW.c 0 h (gs (ca (co (cs (W3 _))) (ca (co (cs (sh4 _))) rfl)) (UV _ _ _)) (λv7 gv7 h=>Ah 3 0 (AK 60 h (λh=>?_) (λh=>?_))) (hc:=(.inr (λv=>rfl))))
      ·refine Ah 4 0 (AK 64 h (λh=>?_) (λh=>?_))
       ·exact gn 4 0 (jn h)
       exact gn 4 0 (jn h)
      exact gn 8 0 (jn h)
     exact gn 16 0 (jn h)
    exact gn 21 0 (jn h)
   refine wc h (λh=>?_) (λh=>?_)
   ·exact ws (gn 2 0 (Ap (gn 2 0 (Ap (gn 3 0 (jl h))))))
   exact Wp.skip (Ap (gn 3 0 (jl h)))
  exact Wp.exit (jv h)
 intro v8 h E hE;exact AW hE (ws (gn 2 0 (Wp.ret (rr h▸rq))))
def YN (xB:Int) (v1:List As) (v3:List Bool) (z1:List Bb) (z2:Int) (z3:Int) (z4:List Block):St:=A7 [(1,(I xB)),(6,(.one (Hg v1))),(7,(.one (PW v3))),(8,(.one (F9 z1))),(9,(pb 9)),(10,(I z2)),(11,(I z3))] [(.box 9,[Bz z4])]
def YM (z5:List Bb):St:=A7 [(8,(.one (F9 z5)))] []
def YL (xB:Int) (v1:List As) (v3:List Bool) (a:Int) (z6:List Bb) (z7:Int) (z8:Int) (z9:List Block):St:=A7 [(1,(I xB)),(6,(.one (Hg v1))),(7,(.one (PW v3))),(8,(.one (F9 z6))),(9,(pb 9)),(10,(I z7)),(11,(I a)),(12,(I z8))] [(.box 9,[Bz z9])]
def YK (xB:Int) (v1:List As) (v3:List Bool) (a:Int) (z10:List Bb) (z11:Int) (z12:List Block):St:=A7 [(1,(I xB)),(6,(.one (Hg v1))),(7,(.one (PW v3))),(8,(.one (F9 z10))),(9,(pb 9)),(10,(I z11)),(11,(I a))] [(.box 9,[Bz z12])]
def YJ (xB:Int) (v1:List As) (v3:List Bool) (b:Int) (a:List Bb) (c:Int) (e:Int) (d:List Block) (z13:Bool):St:=A7 [(1,(I xB)),(6,(.one (Hg v1))),(7,(.one (PW v3))),(8,(.one (F9 a))),(9,(pb 9)),(10,(I c)),(11,(I b)),(12,(I e)),(62,(B z13))] [(.box 9,[Bz d])]
def YI (xB:Int) (v1:List As) (v3:List Bool) (a:Int) (b:Int) (d:Int) (c:List Block) (v4:Flash×List Bb×Bool) (z14:Bool):St:=A7 [(1,(I xB)),(6,(.one (Hg v1))),(7,(.one (PW v3))),(9,(pb 9)),(10,(I b)),(11,(I a)),(12,(I d)),(14,(pb 14)),(15,(.one (F9 v4.2.1))),(90,(B z14))] [(.box 9,[Bz c]),(.box 14,[Bz v4.1.Blocks])]
theorem cR (xD:AH) (xB:Int) (r:List Bb×Bool) (h:GV xD xB=some r):AM Tryz.prog 9 [.sv (.agg (QZ false xD)),.sv (I xB)] (.tup [(.one (F9 r.1)),(B r.2)]) (rg 2):=by
 refine gk Tryz.func9 rfl Tryz.ntmps9 (ws (gw 3 0 (Ah 2 0 (RW.c 0 h (HS _) (λv1 gv1 h=>gw 1 1 (Ah 3 0 (RW.c 0 h (OM _) (λv2 gv2 h=>RW.c 0 h (gs (ca (co (cs (W3 _))) (ca (co (cs (rF _))) rfl)) (KS _ _ _)) (λv3 gv3 h=>gw 1 1 (gw 2 2 (gw 4 0 (gn 3 0 (Wp.seq (ws (gn 1 0 (DA h [1,6,7,8,9,10,11] [.box 9] (λs=>(YN xB v1 v3 s.1 s.2.1 s.2.2.1 s.2.2.2)) [8] [] (λs=>(YM s)) DM ?_ ?_)))))))) (hc:=(.inr (λv=>by simp [BA,BD,AO,B4,ns4,PW])))))))))))
 ·rintro⟨f,i,b,k⟩ o (h:Eh xB v1 v3 f i b k=some o) hk1;refine Wp.seq (ws (gn 2 0 (wc h (λh=>?_) (λh=>?_))))
  ·refine Wp.skip (Wp.seq (Wp.block (ws (gn 1 0 (DA h [1,6,7,8,9,10,11,12] [.box 9] (λs=>(YL xB v1 v3 b s.1 s.2.1 s.2.2.1 s.2.2.2)) [1,6,7,8,9,10,11] [.box 9] (λs=>(YK xB v1 v3 b s.1 s.2.1 s.2.2)) DM ?_ ?_)))))
   ·rintro⟨d,e,j,g⟩ o (h:Eg xB v1 v3 b d e j g=some o) hk2;refine Wp.seq (ws (Ah 2 0 (RW.q (CR Eo v1) (gn 1 0 (wc h (λh=>?_) (λh=>?_))))))
    ·refine Wp.skip (Wp.seq (Wp.block (Wp.seq (EA h [1,6,7,8,9,10,11,12,62] [.box 9] (λa=>(YJ xB v1 v3 b d e j g a)) (λa h=>?_) (λj1 h=>?_)))))
     ·refine Ap (Ah 2 0 (C9 k4 h (λx1 gx1 h=>RW.q (CB k4 gx1 0) (Ah 2 0 (AK 45 h (λh=>?_) (λh=>?_))))))
      ·exact gn 17 0 (jn h)
      refine Ah 2 0 (C9 Eo h (λx2 gx2 h=>RW.q (DB Eo gx2 0 0) (RW.q (CB Eo gx2 0) (Ah 4 0 (AK 54 h (λh=>?_) (λh=>?_))))))
      ·exact gn 8 0 (jn h)
      exact Ah 2 0 (C9 Eo h (λx3 gx3 h=>RW.q (DB Eo gx3 0 1) (RW.q (CB Eo gx3 1) (gn 3 0 (jn h)))))
     refine wc h (λh=>?_) (λh=>?_)
     ·exact Wp.exit (Ap (gn 3 0 (jl h)))
     refine Wp.skip (ws (Ah 2 0 (C9 Eo h (λx4 gx4 h=>RW.q (DB Eo gx4 0 2) (RW.q (L9 Eo gx4 2 6) (gw 2 0 (gw 3 0 (Ah 3 0 (RW.c 2 h (Ss _ _ _) (λv4 gv4 h=>gn 8 65 (Wp.seq (EA h [1,6,7,9,10,11,12,14,15,90] [.box 9,.box 14] (λa=>(YI xB v1 v3 b e j g v4 a)) (λa h=>?_) (λj2 h=>?_)))))))))))))
     ·refine Ap (Ah 3 0 (AK 80 h (λh=>?_) (λh=>?_)))
      ·exact gn 10 0 (jn h)
      exact Ah 2 0 (RW.q (CR PF v4.2.1) (Ah 1 0 (C9 PF h (λx5 gx5 h=>RW.q (DB PF gx5 0 1) (RW.q (CB PF gx5 1) (gn 3 0 (jn h)))))))
     refine wc h (λh=>?_) (λh=>?_)
     ·exact ws (gn 3 2 (Wp.ret (rr (jo (jo h hk2) hk1)▸rq)))
     exact Wp.skip (ws (gw 2 0 (gn 2 2 (Ap (gn 3 0 (Ap (gn 3 0 (jl h))))))))
    exact Wp.exit (jx h)
   intro v5 h E hE;exact AW hE (Ap (gn 3 0 (jl h)))
  exact Wp.exit (jx h)
 intro v6 h E hE;exact AW hE (ws (gn 3 2 (Wp.ret (rr h▸rq))))
theorem T7 (xD:AH) (r:List Bb×Bool) (h:Jj xD=some r):AM Tryz.prog 17 [.sv (.agg (QZ false xD))] (.tup [(.one (F9 r.1)),(B r.2)]) (rg 1):=by
 refine gk Tryz.func17 rfl Tryz.ntmps17 (ws (gw 3 0 (Ah 1 0 (RW.c 0 h (YU _) (λv1 gv1 h=>gn 1 1 (Wp.seq (ws (Ah 1 0 (RW.q (CR k3 v1) (gn 1 0 (wc h (λh=>?_) (λh=>?_))))))))))))
 ·exact ws (Ah 1 0 (C9 k3 h (λx1 gx1 h=>RW.q (CB k3 gx1 0) (gn 4 4 (Wp.ret (rr h▸rq))))))
 refine Wp.skip (Wp.seq (ws (Ah 1 0 (RW.c 0 h (jV _) (λv2 gv2 h=>gn 1 0 (wc h (λh=>?_) (λh=>?_)))))))
 ·exact ws (Ah 1 0 (RW.c 0 h (dN _) (λv3 gv3 h=>gn 4 4 (Wp.ret (rr h▸rq)))))
 refine Wp.skip (ws (Ah 1 0 (RW.c 0 h (Tz _) (λv4 gv4 h=>gn 1 0 (Wp.seq (ws (gn 2 0 (wc h (λh=>?_) (λh=>?_)))))))))
 ·exact ws (gn 3 2 (Wp.ret (rr h▸rq)))
 exact Wp.skip (ws (Ah 2 0 (RW.c 0 h (cR _ _) (λv5 gv5 h=>gn 4 4 (Wp.ret (rr h▸rq))))))
def mZ (a:List Bb) (z1:Int) (z2:List Block):St:=A7 [(1,(.one (WY a))),(4,(pb 4)),(6,(pb 6)),(7,(I z1))] [(.box 4,[BW []]),(.box 6,[BW z2])]
def mY (a:List Bb) (z3:List Block):St:=A7 [(1,(.one (WY a))),(4,(pb 4)),(6,(pb 6))] [(.box 4,[BW []]),(.box 6,[BW z3])]
def mX (b:List Bb) (c:Int) (a:List Block) (z4:Bool) (z5:List Block):St:=A7 [(1,(.one (WY b))),(4,(pb 4)),(6,(pb 6)),(7,(I c)),(8,(pb 8)),(9,(B z4))] [(.box 4,[BW []]),(.box 6,[BW a]),(.box 8,[BW z5])]
theorem Qv (xF:Flash) (b:List Bb) (r:Flash×Int) (h:Oa xF b=some r):AM Tryz.prog 36 [.sv (.agg (LH false xF)),.sv (.one (WY b))] (.tup [(.agg (LH true r.1)),(I r.2)]) (rg 2):=by
 refine gk Tryz.func36 rfl Tryz.ntmps36 (ws (gw 3 0 (Ah 1 0 (RW.c 0 h (Fj _) (λv1 gv1 h=>gn 2 0 (Wp.seq (ws (gn 1 0 (DA h [1,4,6,7] [.box 4,.box 6] (λs=>(mZ b s.1 s.2)) [1,4,6] [.box 4,.box 6] (λs=>(mY b s)) DM ?_ ?_)))))))))
 ·rintro⟨e,d⟩ o (h:Iw b e d=some o) hk1;refine Wp.seq (ws (Ah 2 0 (RW.q (CR PF b) (gn 1 0 (wc h (λh=>?_) (λh=>?_))))))
  ·refine Wp.skip (Wp.seq (Wp.block (EA h [1,4,6,7,8,9] [.box 4,.box 6,.box 8] (λa=>(mX b e d a.1 a.2)) (λa h=>?_) (λj1 h=>?_))))
   ·refine Dr [10] mixed (λ_ _=>nP) (Bf [0,1,2] 0 (bd h λx1 gx1 h=>KW.q 3 (Iz PF gx1) (KW.q 4 (L9 PF gx1 0 4) (Dj 5 9 ?_ ?_))))
    ·exact KB.c 0 h (gs (ca (ZX (ca (cs (CZ _)) rfl)) rfl) (OR _ _)) (λv3 gv3 h=>oj [6] h) (hc:=(.inr (λv=>by simp [BA,BD,AO,B4,QD,BW,LH])))
    exact KB.o false (Bp 5 (KB.c 0 h (gs (ca (ZX (ca (cs (CZ _)) rfl)) rfl) (OR _ _)) (λv4 gv4 h=>Bf [6] 1 (Hs 7 (oj [] h))) (hc:=(.inr (λv=>by simp [BA,BD,AO,B4,QD,BW,LH])))))
   refine Wp.seq (ws (gn 2 0 (wc h (λh=>?_) (λh=>?_))))
   ·exact ws (gn 4 0 (Wp.ret (rr (jo h hk1)▸rq)))
   exact Wp.skip (Ap (gn 2 0 (Ap (gn 3 0 (jl h)))))
  exact Wp.exit (jx h)
 intro v5 h E hE;exact AW hE (ws (Ah 2 0 (RW.q (CR PF b) (gn 2 0 (Wp.ret (rr h▸rq))))))
theorem T1 (xD:AH) (a:List Bb) (r:AH) (h:Jh xD a=some r):AM Tryz.prog 11 [.sv (.agg (QZ false xD)),.sv (.one (WY a))] (.agg (QZ true r)) (rg 2):=by
 exact gk Tryz.func11 rfl Tryz.ntmps11 (ws (gw 2 0 (Ah 3 0 (RW.c 0 h (Qv _ _) (λv1 gv1 h=>gw 6 1 (Ah 1 0 (RW.c 0 h (gs (ca (ZX (ca (cs (CZ _)) rfl)) rfl) (LT _)) (λv2 gv2 h=>gw 6 1 (gn 2 0 (Wp.ret (rr h▸rq)))) (hc:=(.inr (λv=>by simp [BA,BD,AO,B4,Zh,QD,Lr,Do,BW,By,QZ]))))))))))
def dM (a:Int) (z1:List Bb) (z2:Int) (z3:List Block) (z4:List Vol) (z5:List Cc) (z6:Int) (z7:Int) (z8:Int) (z9:Int):St:=A7 [(1,(I a)),(4,(pb 4)),(6,(pb 6)),(7,(.one (F9 z1))),(8,(I z2))] [(.box 4,[BW [],Do [],By [],i6 0,i6 0,i6 0,i6 0]),(.box 6,[BW z3,Do z4,By z5,i6 z6,i6 z7,i6 z8,i6 z9])]
def dL (z10:List Bb) (z11:List Block) (z12:List Vol) (z13:List Cc) (z14:Int) (z15:Int) (z16:Int) (z17:Int):St:=A7 [(4,(pb 4)),(6,(pb 6)),(7,(.one (F9 z10)))] [(.box 4,[BW [],Do [],By [],i6 0,i6 0,i6 0,i6 0]),(.box 6,[BW z11,Do z12,By z13,i6 z14,i6 z15,i6 z16,i6 z17])]
def dK (h:Int) (i:List Bb) (j:Int) (a:List Block) (b:List Vol) (c:List Cc) (d:Int) (e:Int) (f:Int) (g:Int) (z18:Bool):St:=A7 [(1,(I h)),(4,(pb 4)),(6,(pb 6)),(7,(.one (F9 i))),(8,(I j)),(26,(B z18))] [(.box 4,[BW [],Do [],By [],i6 0,i6 0,i6 0,i6 0]),(.box 6,[BW a,Do b,By c,i6 d,i6 e,i6 f,i6 g])]
theorem m8 (xD:AH) (b:Int) (r:AH×List Bb) (h:MI xD b=some r):AM Tryz.prog 101 [.sv (.agg (QZ false xD)),.sv (I b)] (.tup [(.agg (QZ true r.1)),(.one (F9 r.2))]) (rg 2):=by
 refine gk Tryz.func101 rfl Tryz.ntmps101 (ws (gw 3 0 (Ah 1 0 (RW.c 0 h (VL _) (λv1 gv1 h=>gw 2 0 (gn 2 2 (Wp.seq (ws (gn 1 0 (DA h [1,4,6,7,8] [.box 4,.box 6] (λs=>(dM b s.1 s.2.1 s.2.2.1 s.2.2.2.1 s.2.2.2.2.1 s.2.2.2.2.2.1 s.2.2.2.2.2.2.1 s.2.2.2.2.2.2.2.1 s.2.2.2.2.2.2.2.2)) [4,6,7] [.box 4,.box 6] (λs=>(dL s.1 s.2.1 s.2.2.1 s.2.2.2.1 s.2.2.2.2.1 s.2.2.2.2.2.1 s.2.2.2.2.2.2.1 s.2.2.2.2.2.2.2)) DM ?_ ?_))))))))))
 ·rintro⟨d,m,e,f,g,i,j,k,l⟩ o (h:Hz b d m e f g i j k l=some o) hk1;refine Wp.seq (EA h [1,4,6,7,8,26] [.box 4,.box 6] (λa=>(dK b d m e f g i j k l a)) (λa h=>?_) (λj1 h=>?_))
  ·refine Ap (Ah 4 0 (AK 17 h (λh=>?_) (λh=>?_)))
   ·refine Ah 4 0 (AK 21 h (λh=>?_) (λh=>?_))
    ·exact Ah 2 0 (RW.c 0 h (gs (ca (ZX (ca (cs (CZ _)) rfl)) rfl) (Sv _)) (λv2 gv2 h=>gn 2 0 (jn h)) (hc:=(.inr (λv=>rfl))))
    exact gn 5 0 (jn h)
   exact gn 9 0 (jn h)
  refine wc h (λh=>?_) (λh=>?_)
  ·refine Wp.skip (Wp.seq (Wp.block (ws (Ah 1 0 (RW.c 0 h (gs (ca (ZX (ca (cs (CZ _)) (ca (cs (Fz _)) (ca (cs (Dt _)) rfl)))) rfl) (T7 _)) (λv3 gv3 h=>gn 5 9 (Wp.seq (ws (gn 2 0 (wc h (λh=>?_) (λh=>?_)))))) (hc:=(.inr (λv=>by simp [BA,BD,AO,B4,AFB,F9]))))))))
   ·exact ws (gn 4 8 (Wp.ret (rr (jo h hk1)▸rq)))
   exact Wp.skip (ws (Ah 2 0 (RW.c 0 h (gs (ca (ZX (ca (cs (CZ _)) (ca (cs (Fz _)) (ca (cs (Dt _)) rfl)))) (ca (co (cs (ACc _))) rfl)) (T1 _ _)) (λv4 gv4 h=>gn 1 0 (Ap (Ah 2 0 (bd h λq1 gq1 h=>CI (Dk PF (λ_=>rfl) d gq1) (gn 1 1 (Ap (gn 3 0 (jl h)))))))) (hc:=(.inr (λv=>by simp [BA,BD,AO,B4,Zh,QD,Lr,Do,BW,By,QZ]))))))
  exact Wp.exit (jx h)
 intro v5 h E hE;exact AW hE (ws (gn 4 8 (Wp.ret (rr h▸rq))))
def zC (xQ:Wy) (z1:List Bb) (z2:List Block) (z3:List Vol) (z4:List Cc) (z5:Int) (z6:Int) (z7:Int) (z8:Int):St:=A7 [(3,(pb 3)),(4,(pb 4)),(8,(pb 8)),(15,(.one (F9 z1)))] [(.box 3,[i6 xQ.Kind,i6 xQ.Vol,i6 xQ.Sector,i6 xQ.Of,ts xQ.Text]),(.box 4,[BW [],Do [],By [],i6 0,i6 0,i6 0,i6 0]),(.box 8,[BW z2,Do z3,By z4,i6 z5,i6 z6,i6 z7,i6 z8])]
def zB (j1:List Bb×List Block×List Vol×List Cc×Int×Int×Int×Int) (v8:List Bb×Bool) (z9:Bool):St:=A7 [(4,(pb 4)),(8,(pb 8)),(15,(.one (F9 j1.1))),(19,(.one (F9 v8.1))),(91,(B z9))] [(.box 4,[BW [],Do [],By [],i6 0,i6 0,i6 0,i6 0]),(.box 8,[BW j1.2.1,Do j1.2.2.1,By j1.2.2.2.1,i6 j1.2.2.2.2.1,i6 j1.2.2.2.2.2.1,i6 j1.2.2.2.2.2.2.1,i6 j1.2.2.2.2.2.2.2])]
theorem gC (xD:AH) (xQ:Wy) (r:AH×List Bb×ByteArray×Int) (h:Xt xD xQ=some r):AM Tryz.prog 61 [.sv (.agg (QZ false xD)),.sv (.agg (AF7 xQ))] (.tup [(.agg (QZ true r.1)),(.one (F9 r.2.1)),(Y r.2.2.1),(I r.2.2.2)]) (rg 2):=by
 refine gk Tryz.func61 rfl Tryz.ntmps61 (ws (gw 6 0 (Ah 1 0 (RW.c 0 h (VL _) (λv1 gv1 h=>gw 2 0 (gn 2 2 (Wp.seq (ws (Ah 1 0 (RW.c 0 h (m6 _) (λv2 gv2 h=>gn 1 0 (wc h (λh=>?_) (λh=>?_)))))))))))))
 ·exact ws (gn 6 8 (Wp.ret (rr h▸rq)))
 refine Wp.skip (ws (Ah 2 0 (RW.c 0 h (Y9 _ _) (λv3 gv3 h=>gn 7 17 (Wp.seq (ws (gn 2 0 (wc h (λh=>?_) (λh=>?_)))))))))
 ·exact ws (gn 7 16 (Wp.ret (rr h▸rq)))
 refine Wp.skip (Wp.seq (ws (gn 3 0 (wc h (λh=>?_) (λh=>?_)))))
 ·refine ws (Ah 5 0 (RW.c 0 h (Sw _ _ _) (λv4 gv4 h=>gn 5 1 (Wp.seq (ws (gn 2 0 (wc h (λh=>?_) (λh=>?_))))))))
  ·exact ws (gn 6 8 (Wp.ret (rr h▸rq)))
  exact Wp.skip (ws (gn 7 16 (Wp.ret (rr h▸rq))))
 refine Wp.skip (ws (gn 2 2 (Wp.seq (ws (Ah 2 0 (RW.c 0 h (Sv _) (λv5 gv5 h=>gn 1 0 (IE h [3,4,8,15] [.box 3,.box 4,.box 8] (λa=>(zC xQ a.1 a.2.1 a.2.2.1 a.2.2.2.1 a.2.2.2.2.1 a.2.2.2.2.2.1 a.2.2.2.2.2.2.1 a.2.2.2.2.2.2.2)) ?_ ?_))))))))
 ·intro a h;refine wc h (λh=>?_) (λh=>?_)
  ·exact Ap (Ah 1 0 (RW.c 0 h (m8 _ _) (λv6 gv6 h=>gn 5 17 (jn h))))
  exact Wp.skip (jn h)
 intro j1 h E hE;refine AW hE (ws (Ah 2 0 (RW.c 0 h (gs (ca (ZX (ca (cs (CZ _)) (ca (cs (Fz _)) (ca (cs (Dt _)) rfl)))) rfl) (Y9 _ _)) (λv7 gv7 h=>gw 7 17 (Ah 3 0 (RW.c 0 h (gs (ca (ZX (ca (cs (CZ _)) (ca (cs (Fz _)) (ca (cs (Dt _)) rfl)))) (ca (co (cs (ABo _))) rfl)) (Qs _ _ _)) (λv8 gv8 h=>gn 5 9 (Wp.seq (EA h [4,8,15,19,91] [.box 4,.box 8] (λa=>(zB j1 v8 a)) (λa h=>?_) (λj2 h=>?_)))) (hc:=(.inr (λv=>by simp [BA,BD,AO,B4,AFB,F9])))))) (hc:=(.inr (λv=>by simp [BA,BD,AO,B4,AGv,DS]))))))
 ·refine Ap (Ah 3 0 (AK 86 h (λh=>?_) (λh=>?_)))
  ·exact gn 5 0 (jn h)
  exact Ah 2 0 (RW.c 0 h (gs (ca (ZX (ca (cs (CZ _)) rfl)) rfl) (Sv _)) (λv9 gv9 h=>gn 2 0 (jn h)) (hc:=(.inr (λv=>rfl))))
 refine wc h (λh=>?_) (λh=>?_)
 ·exact ws (gn 6 8 (Wp.ret (rr h▸rq)))
 exact Wp.skip (ws (Ah 2 0 (RW.c 0 h (gs (ca (ZX (ca (cs (CZ _)) (ca (cs (Fz _)) (ca (cs (Dt _)) rfl)))) (ca (co (cs (ACc _))) rfl)) (T1 _ _)) (λv10 gv10 h=>Ah 2 0 (bd h λq1 gq1 h=>CI (Dk PF (λ_=>rfl) j1.1 gq1) (gn 4 2 (Wp.ret (rr h▸rq))))) (hc:=(.inr (λv=>by simp [BA,BD,AO,B4,Zh,QD,Lr,Do,BW,By,QZ]))))))
def Ym (z1:Int) (z2:List Block) (z3:List Vol) (z4:List Cc) (z5:Int) (z6:Int) (z7:Int) (z8:Int) (z9:List Int) (z10:Int) (z11:Int):St:=A7 [(0,(px 0)),(2,(pb 2)),(3,(pb 3)),(5,(I z1))] [(.box 2,[BW [],Do [],By [],i6 0,i6 0,i6 0,i6 0]),(.box 3,[Bz z2,Dp z3,BB z4,i6 z5,i6 z6,i6 z7,i6 z8]),(.ext 0,[PS z9,i6 z10,i6 z11])]
def Yl (z12:List Block) (z13:List Vol) (z14:List Cc) (z15:Int) (z16:Int) (z17:Int) (z18:Int) (z19:List Int) (z20:Int) (z21:Int):St:=A7 [(2,(pb 2)),(3,(pb 3))] [(.box 2,[BW [],Do [],By [],i6 0,i6 0,i6 0,i6 0]),(.box 3,[Bz z12,Dp z13,BB z14,i6 z15,i6 z16,i6 z17,i6 z18]),(.ext 0,[PS z19,i6 z20,i6 z21])]
def Yk (a:Int) (z22:List Block) (z23:List Vol) (z24:List Cc) (z25:Int) (z26:Int) (z27:Int) (z28:Int) (z29:List Int) (z30:Int) (z31:Int):St:=A7 [(0,(px 0)),(2,(pb 2)),(3,(pb 3)),(5,(I a))] [(.box 2,[BW [],Do [],By [],i6 0,i6 0,i6 0,i6 0]),(.box 3,[Bz z22,Dp z23,BB z24,i6 z25,i6 z26,i6 z27,i6 z28]),(.ext 0,[PS z29,i6 z30,i6 z31])]
theorem bG (xC:BZ) (r:AH×BZ) (h:No xC=some r):AM Tryz.prog 24 [.ext [PS xC.b_,i6 xC.i_,i6 xC.h_]] (.agg (QZ false r.1)) (.ext [PS r.2.b_,i6 r.2.i_,i6 r.2.h_]::rg 0):=by
 refine gkx Tryz.func24 rfl Tryz.ntmps24 (ws (gw 1 0 (Ah 1 0 (FG h (Dm _ _) (λ_=>rfl) (λv1 gv1 h=>Ah 1 0 (RW.c 0 h (dG _) (λv2 gv2 h=>Ah 2 1 (RW.fz (.slot 11) 0 (CZ v2.1.Flash.Blocks) (RW.fz (.slot 11) 1 (Fz v2.1.Store.Vols) (RW.fz (.slot 11) 2 (Dt v2.1.Store.Arena.Knots) (gn 4 0 (Wp.seq (ws (gn 1 0 (BQ h [0,2,3,5] [.box 2,.box 3,.ext 0] (λs=>(Ym s.1 s.2.1 s.2.2.1 s.2.2.2.1 s.2.2.2.2.1 s.2.2.2.2.2.1 s.2.2.2.2.2.2.1 s.2.2.2.2.2.2.2.1 s.2.2.2.2.2.2.2.2.1 s.2.2.2.2.2.2.2.2.2.1 s.2.2.2.2.2.2.2.2.2.2)) [2,3] [.box 2,.box 3,.ext 0] (λs=>(Yl s.1 s.2.1 s.2.2.1 s.2.2.2.1 s.2.2.2.2.1 s.2.2.2.2.2.1 s.2.2.2.2.2.2.1 s.2.2.2.2.2.2.2.1 s.2.2.2.2.2.2.2.2.1 s.2.2.2.2.2.2.2.2.2)) DM ?_ ?_)))))))))))))))
 ·rintro⟨b,d,e,f,g,i,j,k,l,m,n⟩ o (h:G8 b d e f g i j k l m n=some o);refine Wp.seq (ws (Ah 2 0 (FG h (Dm _ _) (λ_=>rfl) (λv3 gv3 h=>gn 1 0 (wc h (λh=>?_) (λh=>?_))))))
  ·refine Wp.skip (Wp.seq (Wp.block (IE h [0,2,3,5] [.box 2,.box 3,.ext 0] (λa=>(Yk b a.1 a.2.1 a.2.2.1 a.2.2.2.1 a.2.2.2.2.1 a.2.2.2.2.2.1 a.2.2.2.2.2.2.1 a.2.2.2.2.2.2.2.1 a.2.2.2.2.2.2.2.2.1 a.2.2.2.2.2.2.2.2.2)) ?_ ?_)))
   ·intro a h;refine Dr [3,10] mixed (λ_ _=>nP) (Bf [1,2] 0 (Dj 0 3 ?_ ?_))
    ·refine KB.o false (Bp 3 (jA h (VK _ _) (λ_=>rfl) (λv5 gv5 h=>Bp 4 (KB.c 0 h (gC _ _) (λv6 gv6 h=>Bf [5] 1 (AGN 6 7 8 9 ?_ ?_ ?_ ?_))))))
     ·exact KB.o false (KW.fz (.slot 25) 0 (CZ v6.1.Flash.Blocks) (KW.fz (.slot 25) 1 (Fz v6.1.Store.Vols) (KW.fz (.slot 25) 2 (Dt v6.1.Store.Arena.Knots) (oj [] h))))
     ·refine KB.o false (Wx 6 8 9 ?_ ?_ ?_)
      ·exact KB.o false (KW.fz (.slot 25) 0 (CZ v6.1.Flash.Blocks) (KW.fz (.slot 25) 1 (Fz v6.1.Store.Vols) (KW.fz (.slot 25) 2 (Dt v6.1.Store.Arena.Knots) (oj [] h))))
      ·refine KB.o false (Dj 6 9 ?_ ?_)
       ·exact KB.o false (KW.fz (.slot 25) 0 (CZ v6.1.Flash.Blocks) (KW.fz (.slot 25) 1 (Fz v6.1.Store.Vols) (KW.fz (.slot 25) 2 (Dt v6.1.Store.Arena.Knots) (oj [] h))))
       exact KB.o false (Bf [6] 0 (KW.fz (.slot 25) 0 (CZ v6.1.Flash.Blocks) (KW.fz (.slot 25) 1 (Fz v6.1.Store.Vols) (KW.fz (.slot 25) 2 (Dt v6.1.Store.Arena.Knots) (Bf [10] 0 (Bc (jn h)))))))
      refine KB.o false (Dj 6 8 ?_ ?_)
      ·exact KB.o false (KW.fz (.slot 25) 0 (CZ v6.1.Flash.Blocks) (KW.fz (.slot 25) 1 (Fz v6.1.Store.Vols) (KW.fz (.slot 25) 2 (Dt v6.1.Store.Arena.Knots) (oj [] h))))
      exact KB.o false (Bf [6] 0 (KW.fz (.slot 25) 0 (CZ v6.1.Flash.Blocks) (KW.fz (.slot 25) 1 (Fz v6.1.Store.Vols) (KW.fz (.slot 25) 2 (Dt v6.1.Store.Arena.Knots) (Bf [10] 0 (Bc (jn h)))))))
     ·refine KB.o false (Wx 6 7 9 ?_ ?_ ?_)
      ·exact KB.o false (KW.fz (.slot 25) 0 (CZ v6.1.Flash.Blocks) (KW.fz (.slot 25) 1 (Fz v6.1.Store.Vols) (KW.fz (.slot 25) 2 (Dt v6.1.Store.Arena.Knots) (oj [] h))))
      ·refine KB.o false (Dj 6 9 ?_ ?_)
       ·exact KB.o false (KW.fz (.slot 25) 0 (CZ v6.1.Flash.Blocks) (KW.fz (.slot 25) 1 (Fz v6.1.Store.Vols) (KW.fz (.slot 25) 2 (Dt v6.1.Store.Arena.Knots) (oj [] h))))
       exact KB.o false (Bf [6] 0 (KW.fz (.slot 25) 0 (CZ v6.1.Flash.Blocks) (KW.fz (.slot 25) 1 (Fz v6.1.Store.Vols) (KW.fz (.slot 25) 2 (Dt v6.1.Store.Arena.Knots) (Bf [10] 0 (Bc (jn h)))))))
      refine KB.o false (Dj 6 7 ?_ ?_)
      ·exact KB.o false (KW.fz (.slot 25) 0 (CZ v6.1.Flash.Blocks) (KW.fz (.slot 25) 1 (Fz v6.1.Store.Vols) (KW.fz (.slot 25) 2 (Dt v6.1.Store.Arena.Knots) (oj [] h))))
      exact KB.o false (Bf [6] 0 (KW.fz (.slot 25) 0 (CZ v6.1.Flash.Blocks) (KW.fz (.slot 25) 1 (Fz v6.1.Store.Vols) (KW.fz (.slot 25) 2 (Dt v6.1.Store.Arena.Knots) (Bf [10] 0 (Bc (jn h)))))))
     refine KB.o false (Wx 6 7 8 ?_ ?_ ?_)
     ·exact KB.o false (KW.fz (.slot 25) 0 (CZ v6.1.Flash.Blocks) (KW.fz (.slot 25) 1 (Fz v6.1.Store.Vols) (KW.fz (.slot 25) 2 (Dt v6.1.Store.Arena.Knots) (oj [] h))))
     ·refine KB.o false (Dj 6 8 ?_ ?_)
      ·exact KB.o false (KW.fz (.slot 25) 0 (CZ v6.1.Flash.Blocks) (KW.fz (.slot 25) 1 (Fz v6.1.Store.Vols) (KW.fz (.slot 25) 2 (Dt v6.1.Store.Arena.Knots) (oj [] h))))
      exact KB.o false (Bf [6] 0 (KW.fz (.slot 25) 0 (CZ v6.1.Flash.Blocks) (KW.fz (.slot 25) 1 (Fz v6.1.Store.Vols) (KW.fz (.slot 25) 2 (Dt v6.1.Store.Arena.Knots) (Bf [10] 0 (Bc (jn h)))))))
     refine KB.o false (Dj 6 7 ?_ ?_)
     ·exact KB.o false (KW.fz (.slot 25) 0 (CZ v6.1.Flash.Blocks) (KW.fz (.slot 25) 1 (Fz v6.1.Store.Vols) (KW.fz (.slot 25) 2 (Dt v6.1.Store.Arena.Knots) (oj [] h))))
     exact KB.o false (Bf [6] 0 (KW.fz (.slot 25) 0 (CZ v6.1.Flash.Blocks) (KW.fz (.slot 25) 1 (Fz v6.1.Store.Vols) (KW.fz (.slot 25) 2 (Dt v6.1.Store.Arena.Knots) (Bf [10] 0 (Bc (jn h)))))))
    refine jA h (VK _ _) (λ_=>rfl) (λv7 gv7 h=>Bf [0] 0 (Bp 4 (KB.c 0 h (gC _ _) (λv8 gv8 h=>Bf [5] 1 (AGN 6 7 8 9 ?_ ?_ ?_ ?_)))))
    ·exact KB.o false (KW.fz (.slot 25) 0 (CZ v8.1.Flash.Blocks) (KW.fz (.slot 25) 1 (Fz v8.1.Store.Vols) (KW.fz (.slot 25) 2 (Dt v8.1.Store.Arena.Knots) (oj [] h))))
    ·refine KB.o false (Wx 6 8 9 ?_ ?_ ?_)
     ·exact KB.o false (KW.fz (.slot 25) 0 (CZ v8.1.Flash.Blocks) (KW.fz (.slot 25) 1 (Fz v8.1.Store.Vols) (KW.fz (.slot 25) 2 (Dt v8.1.Store.Arena.Knots) (oj [] h))))
     ·refine KB.o false (Dj 6 9 ?_ ?_)
      ·exact KB.o false (KW.fz (.slot 25) 0 (CZ v8.1.Flash.Blocks) (KW.fz (.slot 25) 1 (Fz v8.1.Store.Vols) (KW.fz (.slot 25) 2 (Dt v8.1.Store.Arena.Knots) (oj [] h))))
      exact KB.o false (Bf [6] 0 (KW.fz (.slot 25) 0 (CZ v8.1.Flash.Blocks) (KW.fz (.slot 25) 1 (Fz v8.1.Store.Vols) (KW.fz (.slot 25) 2 (Dt v8.1.Store.Arena.Knots) (Bf [10] 0 (Bc (jn h)))))))
     refine KB.o false (Dj 6 8 ?_ ?_)
     ·exact KB.o false (KW.fz (.slot 25) 0 (CZ v8.1.Flash.Blocks) (KW.fz (.slot 25) 1 (Fz v8.1.Store.Vols) (KW.fz (.slot 25) 2 (Dt v8.1.Store.Arena.Knots) (oj [] h))))
     exact KB.o false (Bf [6] 0 (KW.fz (.slot 25) 0 (CZ v8.1.Flash.Blocks) (KW.fz (.slot 25) 1 (Fz v8.1.Store.Vols) (KW.fz (.slot 25) 2 (Dt v8.1.Store.Arena.Knots) (Bf [10] 0 (Bc (jn h)))))))
    ·refine KB.o false (Wx 6 7 9 ?_ ?_ ?_)
     ·exact KB.o false (KW.fz (.slot 25) 0 (CZ v8.1.Flash.Blocks) (KW.fz (.slot 25) 1 (Fz v8.1.Store.Vols) (KW.fz (.slot 25) 2 (Dt v8.1.Store.Arena.Knots) (oj [] h))))
     ·refine KB.o false (Dj 6 9 ?_ ?_)
      ·exact KB.o false (KW.fz (.slot 25) 0 (CZ v8.1.Flash.Blocks) (KW.fz (.slot 25) 1 (Fz v8.1.Store.Vols) (KW.fz (.slot 25) 2 (Dt v8.1.Store.Arena.Knots) (oj [] h))))
      exact KB.o false (Bf [6] 0 (KW.fz (.slot 25) 0 (CZ v8.1.Flash.Blocks) (KW.fz (.slot 25) 1 (Fz v8.1.Store.Vols) (KW.fz (.slot 25) 2 (Dt v8.1.Store.Arena.Knots) (Bf [10] 0 (Bc (jn h)))))))
     refine KB.o false (Dj 6 7 ?_ ?_)
     ·exact KB.o false (KW.fz (.slot 25) 0 (CZ v8.1.Flash.Blocks) (KW.fz (.slot 25) 1 (Fz v8.1.Store.Vols) (KW.fz (.slot 25) 2 (Dt v8.1.Store.Arena.Knots) (oj [] h))))
     exact KB.o false (Bf [6] 0 (KW.fz (.slot 25) 0 (CZ v8.1.Flash.Blocks) (KW.fz (.slot 25) 1 (Fz v8.1.Store.Vols) (KW.fz (.slot 25) 2 (Dt v8.1.Store.Arena.Knots) (Bf [10] 0 (Bc (jn h)))))))
    refine KB.o false (Wx 6 7 8 ?_ ?_ ?_)
    ·exact KB.o false (KW.fz (.slot 25) 0 (CZ v8.1.Flash.Blocks) (KW.fz (.slot 25) 1 (Fz v8.1.Store.Vols) (KW.fz (.slot 25) 2 (Dt v8.1.Store.Arena.Knots) (oj [] h))))
    ·refine KB.o false (Dj 6 8 ?_ ?_)
     ·exact KB.o false (KW.fz (.slot 25) 0 (CZ v8.1.Flash.Blocks) (KW.fz (.slot 25) 1 (Fz v8.1.Store.Vols) (KW.fz (.slot 25) 2 (Dt v8.1.Store.Arena.Knots) (oj [] h))))
     exact KB.o false (Bf [6] 0 (KW.fz (.slot 25) 0 (CZ v8.1.Flash.Blocks) (KW.fz (.slot 25) 1 (Fz v8.1.Store.Vols) (KW.fz (.slot 25) 2 (Dt v8.1.Store.Arena.Knots) (Bf [10] 0 (Bc (jn h)))))))
    refine KB.o false (Dj 6 7 ?_ ?_)
    ·exact KB.o false (KW.fz (.slot 25) 0 (CZ v8.1.Flash.Blocks) (KW.fz (.slot 25) 1 (Fz v8.1.Store.Vols) (KW.fz (.slot 25) 2 (Dt v8.1.Store.Arena.Knots) (oj [] h))))
    exact KB.o false (Bf [6] 0 (KW.fz (.slot 25) 0 (CZ v8.1.Flash.Blocks) (KW.fz (.slot 25) 1 (Fz v8.1.Store.Vols) (KW.fz (.slot 25) 2 (Dt v8.1.Store.Arena.Knots) (Bf [10] 0 (Bc (jn h)))))))
   intro j1 h E hE;exact AW hE (Ap (gn 3 0 (jl h)))
  exact Wp.exit (jv h)
 intro v9 h E hE;exact AW hE (ws (gn 2 0 (Wp.ret (rr h▸rx))))
theorem YT (a:List Int) (r:AH) (h:LW a=some r):AM Tryz.prog 6 [.sv (.one (PS a))] (.agg (QZ false r)) (rg 1):=by
 exact gk Tryz.func6 rfl Tryz.ntmps6 (ws (gw 1 0 (Ah 1 0 (AGL h (Yx _) (λv1 gv1 h=>FG h (bG _) (λ_=>rfl) (λv2 gv2 h=>gn 1 0 (Wp.ret (rr h▸rq))))))))
def u0 (xB:Block) (z1:Int) (z2:Int):St:=A7 [(3,(I z1)),(7,(.one (Ny xB.Leaves))),(8,(I (ln xB.Leaves))),(9,(I z2))] []
def uZ (z3:Int):St:=A7 [(3,(I z3))] []
theorem SF (xB:Block) (r:Int) (h:HY xB=some r):AM Tryz.prog 56 [.sv (.agg (Ut false xB))] (I r) (rg 1):=by
 refine gk Tryz.func56 rfl Tryz.ntmps56 (ws (gw 2 0 (gn 1 0 (Wp.seq (ws (Ah 2 0 (RW.q (CR Dw xB.Leaves) (gn 1 0 (BQ h [3,7,8,9] [] (λs=>(u0 xB s.1 s.2)) [3] [] (λs=>(uZ s)) DM ?_ ?_)))))))))
 ·rintro⟨a,y1⟩ o (h:GY xB a y1=some o);refine ws (gn 1 0 (Wp.seq (wc h (λh=>?_) (λh=>?_))))
  ·refine Wp.skip (Wp.seq (Wp.block (ws (C9 Dw h (λx1 gx1 h=>RW.q (L9 Dw gx1 0 2) (gw 2 0 (gn 3 0 (wc h (λh=>?_) (λh=>?_)))))))))
   ·exact Ap (gn 3 0 (Ap (gn 2 0 (jl h))))
   exact Wp.skip (Ap (gn 2 0 (jl h)))
  exact Wp.exit (jv h)
 intro v1 h E hE;exact AW hE (ws (gn 2 0 (Wp.ret (rr h▸rq))))
theorem FB (xN:Int) (b:Int) (a:Int) (r:Bool) (h:JI xN b a=some r):AM Tryz.prog 146 [.sv (I xN),.sv (I b),.sv (I a)] (B r) (rg 3):=by
 refine gk Tryz.func146 rfl Tryz.ntmps146 (ws (gw 1 0 (Ah 4 0 (AK 10 h (λh=>?_) (λh=>?_)))))
 ·exact gn 5 0 (Wp.ret (rr h▸rq))
 exact gn 5 0 (Wp.ret (rr h▸rq))
theorem AAr (xA:Arena) (a:Int) (r:Bool) (h:TR xA a=some r):AM Tryz.prog 186 [.sv (.agg (aC false xA)),.sv (I a)] (B r) (rg 2):=by
 refine gk Tryz.func186 rfl Tryz.ntmps186 (ws (gw 2 0 (Ah 3 0 (RW.q (CR (Da false) xA.Knots) (Ah 1 0 (RW.c 0 h (FB _ _ _) (λv1 gv1 h=>Ah 1 0 (AK 11 h (λh=>?_) (λh=>?_)))))))))
 ·exact Ah 3 0 (C9 (Da false) h (λx1 gx1 h=>RW.q (DB (Da false) gx1 0 0) (RW.q (CB (Da false) gx1 0) (gn 3 0 (Wp.ret (rr h▸rq))))))
 exact gn 9 0 (Wp.ret (rr h▸rq))
def pN (xA:Arena) (z1:Int):St:=A7 [(1,(pb 1)),(8,(.one (BB xA.Knots))),(9,(I (ln xA.Knots))),(10,(I z1))] [(.box 1,[BB xA.Knots])]
def pM:St:=A7 [] []
def pL (xA:Arena) (y1:Int) (x1:Cc) (z2:Int):St:=A7 [(1,(pb 1)),(3,(I y1)),(4,(pb 4)),(8,(.one (BB xA.Knots))),(9,(I (ln xA.Knots))),(10,(I y1)),(20,(.one (PX x1.Kids))),(21,(I (ln x1.Kids))),(22,(I z2))] [(.box 1,[BB xA.Knots]),(.box 4,[tb x1.Leaf,PX x1.Kids])]
def pK (xA:Arena) (y1:Int):St:=A7 [(1,(pb 1)),(8,(.one (BB xA.Knots))),(9,(I (ln xA.Knots))),(10,(I y1))] [(.box 1,[BB xA.Knots])]
def pJ (xA:Arena) (y1:Int) (x1:Cc) (y2:Int) (z3:Bool):St:=A7 [(1,(pb 1)),(3,(I y1)),(4,(pb 4)),(8,(.one (BB xA.Knots))),(9,(I (ln xA.Knots))),(10,(I y1)),(20,(.one (PX x1.Kids))),(21,(I (ln x1.Kids))),(22,(I y2)),(56,(B z3))] [(.box 1,[BB xA.Knots]),(.box 4,[tb x1.Leaf,PX x1.Kids])]
theorem vQ (xA:Arena) (r:Bool) (h:R5 xA=some r):AM Tryz.prog 187 [.sv (.agg (aC false xA))] (B r) (rg 1):=by
 refine gk Tryz.func187 rfl Tryz.ntmps187 (ws (gn 2 0 (Wp.seq (ws (Ah 2 0 (RW.q (CR (Da false) xA.Knots) (gn 1 0 (DA h [1,8,9,10] [.box 1] (λs=>(pN xA s)) [] [] (λ_=>pM) DM ?_ ?_))))))))
 ·rintro y1 o (h:Mh xA y1=some o) hk1;refine ws (gn 1 0 (Wp.seq (wc h (λh=>?_) (λh=>?_))))
  ·refine Wp.skip (Wp.seq (Wp.block (ws (Ah 1 0 (C9 (Da false) h (λx1 gx1 h=>RW.q (L9 (Da false) gx1 0 2) (gn 3 0 (Wp.seq (ws (Ah 2 0 (RW.q (CR k3 x1.Kids) (gn 1 0 (wc h (λh=>?_) (λh=>?_))))))))))))))
   ·exact ws (gn 1 0 (Wp.ret (rr (jo h hk1)▸rq)))
   refine Wp.skip (ws (Ah 2 0 (RW.q (CR k3 x1.Kids) (gn 1 0 (DA h [1,3,4,8,9,10,20,21,22] [.box 1,.box 4] (λs=>(pL xA y1 x1 s)) [1,8,9,10] [.box 1] (λ_=>(pK xA y1)) DM ?_ ?_)))))
   ·rintro y2 o (h:Mg xA y1 x1 y2=some o) hk2;refine ws (gn 1 0 (Wp.seq (wc h (λh=>?_) (λh=>?_))))
    ·refine Wp.skip (Wp.seq (Wp.block (ws (C9 k3 h (λx2 gx2 h=>RW.q (CB k3 gx2 0) (gn 1 0 (EA h [1,3,4,8,9,10,20,21,22,56] [.box 1,.box 4] (λa=>(pJ xA y1 x1 y2 a)) (λa h=>?_) (λj1 h=>?_))))))))
     ·refine Ap (Ah 3 0 (AK 28 h (λh=>?_) (λh=>?_)))
      ·refine Ah 4 0 (AK 32 h (λh=>?_) (λh=>?_))
       ·exact gn 24 0 (jn h)
       refine Ah 4 0 (AK 36 h (λh=>?_) (λh=>?_))
       ·refine Ah 4 0 (AK 40 h (λh=>?_) (λh=>?_))
        ·refine Ah 3 0 (RW.c 0 h (FB _ _ _) (λv1 gv1 h=>Ah 2 0 (AK 46 h (λh=>?_) (λh=>?_))))
         ·exact gn 10 0 (jn h)
         exact Ah 3 0 (C9 (Da false) h (λx3 gx3 h=>RW.q (DB (Da false) gx3 0 0) (RW.q (CB (Da false) gx3 0) (gn 4 0 (jn h)))))
        exact gn 16 0 (jn h)
       exact gn 20 0 (jn h)
      refine Ah 8 0 (AK 36 h (λh=>?_) (λh=>?_))
      ·refine Ah 4 0 (AK 40 h (λh=>?_) (λh=>?_))
       ·refine Ah 3 0 (RW.c 0 h (FB _ _ _) (λv2 gv2 h=>Ah 2 0 (AK 46 h (λh=>?_) (λh=>?_))))
        ·exact gn 10 0 (jn h)
        exact Ah 3 0 (C9 (Da false) h (λx4 gx4 h=>RW.q (DB (Da false) gx4 0 0) (RW.q (CB (Da false) gx4 0) (gn 4 0 (jn h)))))
       exact gn 16 0 (jn h)
      exact gn 20 0 (jn h)
     refine wc h (λh=>?_) (λh=>?_)
     ·exact ws (gn 1 0 (Wp.ret (rr (jo (jo h hk2) hk1)▸rq)))
     exact Wp.skip (Ap (gn 2 0 (jl h)))
    exact Wp.exit (jx h)
   intro v3 h E hE;exact AW hE (Ap (gn 2 0 (jl h)))
  exact Wp.exit (jx h)
 intro v4 h E hE;exact AW hE (ws (gn 1 0 (Wp.ret (rr h▸rq))))
theorem nY (xA:Arena) (b:Int) (a:Int) (r:Int) (h:SE xA b a=some r):AM Tryz.prog 188 [.sv (.agg (aC false xA)),.sv (I b),.sv (I a)] (I r) (rg 3):=by
 refine gk Tryz.func188 rfl Tryz.ntmps188 (ws (gw 2 0 (Ah 3 0 (C9 (Da false) h (λx1 gx1 h=>RW.q (DB (Da false) gx1 0 1) (RW.q (CB (Da false) gx1 1) (Ah 2 0 (C9 k3 h (λx2 gx2 h=>RW.q (CB k3 gx2 0) (gn 1 0 (Wp.seq (ws (gn 2 0 (wc h (λh=>?_) (λh=>?_)))))))))))))))
 ·exact ws (gn 1 0 (Wp.ret (rr h▸rq)))
 exact Wp.skip (ws (Ah 3 0 (C9 (Da false) h (λx3 gx3 h=>RW.q (DB (Da false) gx3 0 1) (RW.q (CB (Da false) gx3 1) (Ah 2 0 (C9 k3 h (λx4 gx4 h=>RW.q (CB k3 gx4 0) (gn 1 0 (Wp.ret (rr h▸rq)))))))))))
def AAy (xA:Arena) (b:Int) (a:Int) (z1:Bool):St:=A7 [(1,(I b)),(2,(I a)),(3,(pb 3)),(20,(B z1))] [(.box 3,[BB xA.Knots])]
theorem ACO (xA:Arena) (d:Int) (b:Int) (r:Int) (h:X4 xA d b=some r):AM Tryz.prog 147 [.sv (.agg (aC false xA)),.sv (I d),.sv (I b)] (I r) (rg 3):=by
 refine gk Tryz.func147 rfl Tryz.ntmps147 (ws (gn 2 0 (Wp.seq (EA h [1,2,3,20] [.box 3] (λa=>(AAy xA d b a)) (λa h=>?_) (λj1 h=>?_)))))
 ·refine Ap (Ah 1 0 (RW.c 0 h (FB _ _ _) (λv1 gv1 h=>Ah 2 0 (AK 10 h (λh=>?_) (λh=>?_)))))
  ·exact gn 10 0 (jn h)
  refine Ah 2 0 (RW.c 0 h (AAr _ _) (λv2 gv2 h=>Ah 3 0 (AK 16 h (λh=>?_) (λh=>?_))))
  ·exact gn 4 0 (jn h)
  exact Ah 1 0 (RW.c 0 h (vQ _) (λv3 gv3 h=>gn 2 0 (jn h)))
 refine wc h (λh=>?_) (λh=>?_)
 ·exact ws (gn 1 0 (Wp.ret (rr h▸rq)))
 exact Wp.skip (ws (Ah 3 0 (RW.c 0 h (nY _ _ _) (λv4 gv4 h=>gn 1 0 (Wp.ret (rr h▸rq))))))
def AAB (xA:Arena) (a:Int) (z1:List Int) (z2:Int):St:=A7 [(1,(I a)),(2,(pb 2)),(5,(.one (Er z1))),(7,(I z2))] [(.box 2,[BB xA.Knots])]
def AAA (z3:List Int):St:=A7 [(5,(.one (Er z3)))] []
theorem iH (xA:Arena) (a:Int) (r:List Int) (h:Ue xA a=some r):AM Tryz.prog 80 [.sv (.agg (aC false xA)),.sv (I a)] (.one (Er r)) (rg 2):=by
 refine gk Tryz.func80 rfl Tryz.ntmps80 (ws (gw 2 0 (gn 1 0 (Wp.seq (ws (gn 1 0 (BQ h [1,2,5,7] [.box 2] (λs=>(AAB xA a s.1 s.2)) [5] [] (λs=>(AAA s)) DM ?_ ?_)))))))
 ·rintro⟨b,y1⟩ o (h:MV xA a b y1=some o);refine ws (gn 1 0 (Wp.seq (wc h (λh=>?_) (λh=>?_))))
  ·exact Wp.skip (Wp.seq (Wp.block (ws (gn 2 0 (Ap (Ah 4 0 (RW.c 0 h (ACO _ _ _) (λv1 gv1 h=>Ah 1 0 (bd h λq1 gq1 h=>CI (Dk k3 (λ_=>rfl) b gq1) (gn 1 1 (Ap (gn 2 0 (jl h)))))))))))))
  exact Wp.exit (jv h)
 intro v2 h E hE;exact AW hE (ws (gn 2 2 (Wp.ret (rr h▸rq))))
def d7 (xS:Store) (z1:List Int) (z2:Int):St:=A7 [(1,(pb 1)),(3,(.one (Er z1))),(9,(.one (Dp xS.Vols))),(10,(I (ln xS.Vols))),(11,(I z2))] [(.box 1,[Dp xS.Vols,BB xS.Arena.Knots,i6 xS.Next])]
def dZ (z3:List Int):St:=A7 [(3,(.one (Er z3)))] []
def dY (xS:Store) (y1:Int) (v1:List Int) (z4:List Int) (z5:Int):St:=A7 [(1,(pb 1)),(3,(.one (Er z4))),(9,(.one (Dp xS.Vols))),(10,(I (ln xS.Vols))),(11,(I y1)),(19,(.one (Er v1))),(20,(I (ln v1))),(21,(I z5))] [(.box 1,[Dp xS.Vols,BB xS.Arena.Knots,i6 xS.Next])]
def dX (xS:Store) (y1:Int) (z6:List Int):St:=A7 [(1,(pb 1)),(3,(.one (Er z6))),(9,(.one (Dp xS.Vols))),(10,(I (ln xS.Vols))),(11,(I y1))] [(.box 1,[Dp xS.Vols,BB xS.Arena.Knots,i6 xS.Next])]
theorem n9 (xS:Store) (r:List Int) (h:Pj xS=some r):AM Tryz.prog 105 [.sv (.agg (SN false xS))] (.one (Er r)) (rg 1):=by
 refine gk Tryz.func105 rfl Tryz.ntmps105 (ws (gw 2 0 (gn 1 0 (Wp.seq (ws (Ah 2 0 (RW.q (CR Es xS.Vols) (gn 1 0 (BQ h [1,3,9,10,11] [.box 1] (λs=>(d7 xS s.1 s.2)) [3] [] (λs=>(dZ s)) DM ?_ ?_)))))))))
 ·rintro⟨b,y1⟩ o (h:IT xS b y1=some o);refine ws (gn 1 0 (Wp.seq (wc h (λh=>?_) (λh=>?_))))
  ·refine Wp.skip (Wp.seq (Wp.block (ws (C9 Es h (λx1 gx1 h=>RW.q (L9 Es gx1 0 2) (gw 2 0 (Ah 4 0 (RW.c 0 h (iH _ _) (λv1 gv1 h=>RW.q (CR k3 v1) (gn 1 0 (BQ h [1,3,9,10,11,19,20,21] [.box 1] (λs=>(dY xS y1 v1 s.1 s.2)) [1,3,9,10,11] [.box 1] (λs=>(dX xS y1 s)) DM ?_ ?_)))))))))))
   ·rintro⟨a,y2⟩ o (h:IS v1 a y2=some o);refine ws (gn 1 0 (Wp.seq (wc h (λh=>?_) (λh=>?_))))
    ·refine Wp.skip (Wp.seq (Wp.block (ws (C9 k3 h (λx2 gx2 h=>RW.q (CB k3 gx2 0) (gw 1 0 (gn 2 0 (wc h (λh=>?_) (λh=>?_)))))))))
     ·exact Ap (Ah 3 0 (bd h λq1 gq1 h=>CI (Dk k3 (λ_=>rfl) a gq1) (gn 1 1 (Ap (gn 2 0 (jl h))))))
     exact Wp.skip (Ap (gn 2 0 (jl h)))
    exact Wp.exit (jv h)
   intro v2 h E hE;exact AW hE (Ap (gn 2 0 (jl h)))
  exact Wp.exit (jv h)
 intro v3 h E hE;exact AW hE (ws (gn 2 2 (Wp.ret (rr h▸rq))))
def vJ (v2:List Int) (z1:List Int) (z2:Int):St:=A7 [(3,(.one (Er v2))),(4,(.one (Er z1))),(11,(.one (.view (.slot 3) 0 [] 0))),(12,(I (ln v2))),(13,(I z2))] []
def vI (z3:List Int):St:=A7 [(4,(.one (Er z3)))] []
def vH (v2:List Int) (a:List Int) (y1:Int) (x1:Int) (z4:Bool):St:=A7 [(3,(.one (Er v2))),(4,(.one (Er a))),(6,(I x1)),(11,(.one (.view (.slot 3) 0 [] 0))),(12,(I (ln v2))),(13,(I y1)),(28,(B z4))] []
theorem AAx (xS:Store) (r:List Int) (h:Lw xS=some r):AM Tryz.prog 63 [.sv (.agg (SN false xS))] (.one (Er r)) (rg 1):=by
 refine gk Tryz.func63 rfl Tryz.ntmps63 (ws (gw 2 0 (Ah 1 0 (RW.c 0 h (n9 _) (λv1 gv1 h=>gw 1 1 (Ah 1 0 (AGK (enc:=c3) h AH4 (λv2 gv2 h=>RW.nil (ws (gn 1 0 (Wp.seq (ws (Ah 1 0 (RW.q (CR k3 v2) (gn 1 0 (BQ h [3,4,11,12,13] [] (λs=>(vJ v2 s.1 s.2)) [4] [] (λs=>(vI s)) DM ?_ ?_))))))))) (λ_=>rfl))))))))
 ·rintro⟨b,y1⟩ o (h:Lv v2 b y1=some o);refine ws (gn 1 0 (Wp.seq (wc h (λh=>?_) (λh=>?_))))
  ·refine Wp.skip (Wp.seq (Wp.block (ws (Ah 1 0 (C9 k3 h (λx1 gx1 h=>RW.q (CB k3 gx1 0) (gn 2 0 (EA h [3,4,6,11,12,13,28] [] (λa=>(vH v2 b y1 x1 a)) (λa h=>?_) (λj1 h=>?_)))))))))
   ·refine Ap (Ah 3 0 (AK 20 h (λh=>?_) (λh=>?_)))
    ·exact gn 8 0 (jn h)
    exact Ah 3 0 (C9 k3 h (λx2 gx2 h=>RW.q (CB k3 gx2 0) (gn 3 0 (jn h))))
   refine wc h (λh=>?_) (λh=>?_)
   ·exact Ap (Ah 3 0 (bd h λq1 gq1 h=>CI (Dk k3 (λ_=>rfl) b gq1) (gn 1 1 (Ap (gn 2 0 (jl h))))))
   exact Wp.skip (Ap (gn 2 0 (jl h)))
  exact Wp.exit (jv h)
 intro v3 h E hE;exact AW hE (ws (gn 2 2 (Wp.ret (rr h▸rq))))
def oQ (a:ByteArray) (z1:Int) (z2:Int):St:=A7 [(0,(.one (.int .u32 z1))),(1,(Y a)),(5,(I z2))] []
def oP (z3:Int):St:=A7 [(0,(.one (.int .u32 z3)))] []
def oO (a:ByteArray) (b:Int) (z4:Int) (z5:Int):St:=A7 [(0,(.one (.int .u32 z4))),(1,(Y a)),(5,(I b)),(19,(I z5))] []
def oN (a:ByteArray) (b:Int) (z6:Int):St:=A7 [(0,(.one (.int .u32 z6))),(1,(Y a)),(5,(I b))] []
theorem vA (b:Int) (a:ByteArray) (r:Int) (h:R0 b a=some r):AM Tryz.prog 200 [.sv (.one (.int .u32 b)),.sv (Y a)] (.one (.int .u32 r)) (rg 2):=by
 refine gk Tryz.func200 rfl Tryz.ntmps200 (ws (gn 1 0 (Wp.seq (ws (gn 1 0 (BQ h [0,1,5] [] (λs=>(oQ a s.1 s.2)) [0] [] (λs=>(oP s)) DM ?_ ?_))))))
 ·rintro⟨c,d⟩ o (h:Kd a c d=some o);refine Wp.seq (ws (gn 4 0 (wc h (λh=>?_) (λh=>?_))))
  ·refine Wp.skip (Wp.seq (Wp.block (ws (Ah 3 0 (bd h λx1 gx1 h=>RW.q (xK gx1) (gw 3 0 (gn 1 0 (BQ h [0,1,5,19] [] (λs=>(oO a d s.1 s.2)) [0,1,5] [] (λs=>(oN a d s)) DM ?_ ?_))))))))
   ·rintro⟨e,y1⟩ o (h:I7 e y1=some o);refine ws (gn 1 0 (Wp.seq (wc h (λh=>?_) (λh=>?_))))
    ·refine Wp.skip (Wp.seq (Wp.block (ws (gw 3 0 (gw 3 0 (gn 2 0 (wc h (λh=>?_) (λh=>?_))))))))
     ·exact Ap (gn 3 0 (Ap (gn 2 0 (jl h))))
     exact Wp.skip (Ap (gn 2 0 (jl h)))
    exact Wp.exit (jv h)
   intro v1 h E hE;exact AW hE (Ap (gn 3 0 (jl h)))
  exact Wp.exit (jv h)
 intro v2 h E hE;exact AW hE (ws (gn 2 0 (Wp.ret (rr h▸rq))))
theorem ACN (a:ByteArray) (r:Int) (h:X3 a=some r):AM Tryz.prog 176 [.sv (Y a)] (.one (.int .u32 r)) (rg 1):=by
 exact gk Tryz.func176 rfl Tryz.ntmps176 (ws (gw 1 0 (Ah 1 0 (RW.c 0 h (vA _ _) (λv1 gv1 h=>gn 1 0 (Wp.ret (rr h▸rq)))))))
theorem KF (a:ByteArray) (r:ByteArray×Bool) (h:HZ a=some r):AM Tryz.prog 127 [.sv (Y a)] (.tup [(Y r.1),(B r.2)]) (rg 1):=by
 refine gk Tryz.func127 rfl Tryz.ntmps127 (ws (gn 2 0 (Wp.seq (ws (gn 3 0 (wc h (λh=>?_) (λh=>?_)))))))
 ·exact ws (gn 2 0 (Wp.ret (rr h▸rq)))
 exact Wp.skip (ws (Ah 1 0 (RW.c 0 h (ACN _) (λv1 gv1 h=>gw 1 0 (Ah 13 0 (RW.q (xO (f:=c5) (λ_=>rfl) [(IntKind.u8.wrap (Int.fdiv v1 (2^(min (24:Int).toNat IntKind.u32.bits)))),(IntKind.u8.wrap (Int.fdiv v1 (2^(min (16:Int).toNat IntKind.u32.bits)))),(IntKind.u8.wrap (Int.fdiv v1 (2^(min (8:Int).toNat IntKind.u32.bits)))),(IntKind.u8.wrap v1)]) (bd h λx1 gx1 h=>RW.q (Ff gx1) (gn 2 0 (Wp.ret (rr h▸rq))))))))))
def eD (x1:ByteArray) (z1:Bool):St:=A7 [(4,(Y x1)),(26,(B z1))] []
theorem oE (b:ByteArray) (r:ByteArray×Bool) (h:Pm b=some r):AM Tryz.prog 152 [.sv (Y b)] (.tup [(Y r.1),(B r.2)]) (rg 1):=by
 refine gk Tryz.func152 rfl Tryz.ntmps152 (ws (gn 2 0 (Wp.seq (ws (gn 3 0 (wc h (λh=>?_) (λh=>?_)))))))
 ·exact ws (gn 2 0 (Wp.ret (rr h▸rq)))
 refine Wp.skip (ws (Ah 4 0 (bd h λx1 gx1 h=>RW.q (Vk gx1) (gw 1 0 (Ah 1 0 (RW.c 0 h (KF _) (λv1 gv1 h=>gn 5 1 (Wp.seq (EA h [4,26] [] (λa=>(eD x1 a)) (λa h=>?_) (λj1 h=>?_))))))))))
 ·refine Ap (Ah 3 0 (AK 22 h (λh=>?_) (λh=>?_)))
  ·exact gn 4 0 (jn h)
  exact gn 4 0 (jn h)
 refine wc h (λh=>?_) (λh=>?_)
 ·exact ws (gn 2 0 (Wp.ret (rr h▸rq)))
 exact Wp.skip (ws (gn 3 0 (Wp.ret (rr h▸rq))))
def oZ (a:ByteArray) (b:Int) (z1:Int) (z2:Int):St:=A7 [(0,(Y a)),(1,(I b)),(7,(I z1)),(8,(I z2))] []
def oY:St:=A7 [] []
def oX (a:ByteArray) (b:Int) (c:Int) (d:Int) (z3:Bool):St:=A7 [(0,(Y a)),(1,(I b)),(7,(I c)),(8,(I d)),(23,(B z3))] []
def oW (a:Int) (b:Int) (c:Int) (x2:Int) (z4:Bool):St:=A7 [(1,(I a)),(7,(I (ad b x2))),(8,(I c)),(50,(B z4))] []
theorem QN (b:ByteArray) (c:Int) (r:Int×Int×Bool) (h:JA b c=some r):AM Tryz.prog 153 [.sv (Y b),.sv (I c)] (.tup [(I r.1),(I r.2.1),(B r.2.2)]) (rg 2):=by
 refine gk Tryz.func153 rfl Tryz.ntmps153 (ws (gw 3 0 (gn 1 0 (Wp.seq (ws (gn 1 0 (DA h [0,1,7,8] [] (λs=>(oZ b c s.1 s.2)) [] [] (λ_=>oY) DM ?_ ?_)))))))
 ·rintro⟨d,e⟩ o (h:Hi b c d e=some o) hk1;refine Wp.seq (EA h [0,1,7,8,23] [] (λa=>(oX b c d e a)) (λa h=>?_) (λj1 h=>?_))
  ·refine Ap (Ah 3 0 (AK 12 h (λh=>?_) (λh=>?_)))
   ·refine Ah 4 0 (AK 16 h (λh=>?_) (λh=>?_))
    ·exact gn 7 0 (jn h)
    exact gn 7 0 (jn h)
   exact gn 11 0 (jn h)
  refine wc h (λh=>?_) (λh=>?_)
  ·refine Wp.skip (Wp.seq (Wp.block (ws (Ah 4 0 (bd h λx1 gx1 h=>RW.q (xK gx1) (gw 2 0 (Ah 5 0 (bd h λx2 gx2 h=>RW.q (AIz gx2) (gn 2 0 (Wp.seq (ws (gn 2 0 (wc h (λh=>?_) (λh=>?_))))))))))))))
   ·exact Wp.exit (Ap (gn 3 0 (jl h)))
   refine Wp.skip (Wp.seq (EA h [1,7,8,50] [] (λa=>(oW c d e x2 a)) (λa h=>?_) (λj2 h=>?_)))
   ·refine Ap (Ah 3 0 (AK 43 h (λh=>?_) (λh=>?_)))
    ·refine Ah 4 0 (AK 47 h (λh=>?_) (λh=>?_))
     ·exact gn 3 0 (jn h)
     exact gn 3 0 (jn h)
    exact gn 7 0 (jn h)
   refine wc h (λh=>?_) (λh=>?_)
   ·exact ws (gn 3 0 (Wp.ret (rr (jo h hk1)▸rq)))
   exact Wp.skip (ws (gn 8 0 (Wp.ret (rr (jo h hk1)▸rq))))
  exact Wp.exit (jx h)
 intro v1 h E hE;exact AW hE (ws (gn 3 0 (Wp.ret (rr h▸rq))))
def vF (xP:Page) (z1:Bool):St:=A7 [(1,(pb 1)),(33,(B z1))] [(.box 1,[i6 xP.Kind,i6 xP.Seq,i6 xP.Tx,i6 xP.Part,i6 xP.Count,ts xP.Text])]
theorem Z8 (xP:Page) (r:Bool) (h:QO xP=some r):AM Tryz.prog 126 [.sv (.agg (c65 xP))] (B r) (rg 1):=by
 refine gk Tryz.func126 rfl Tryz.ntmps126 (ws (gn 2 0 (Wp.seq (EA h [1,33] [.box 1] (λa=>(vF xP a)) (λa h=>?_) (λj1 h=>?_)))))
 ·refine Ap (Ah 2 0 (RW.c 0 h (FB _ _ _) (λv1 gv1 h=>Ah 2 0 (AK 7 h (λh=>?_) (λh=>?_)))))
  ·exact gn 26 0 (jn h)
  refine Ah 2 0 (RW.c 0 h (FB _ _ _) (λv2 gv2 h=>Ah 3 0 (AK 13 h (λh=>?_) (λh=>?_))))
  ·exact gn 20 0 (jn h)
  refine Ah 2 0 (RW.c 0 h (FB _ _ _) (λv3 gv3 h=>Ah 3 0 (AK 19 h (λh=>?_) (λh=>?_))))
  ·exact gn 14 0 (jn h)
  refine Ah 5 0 (RW.c 0 h (FB _ _ _) (λv4 gv4 h=>Ah 3 0 (AK 28 h (λh=>?_) (λh=>?_))))
  ·exact gn 5 0 (jn h)
  exact gn 5 0 (jn h)
 refine wc h (λh=>?_) (λh=>?_)
 ·exact ws (gn 1 0 (Wp.ret (rr h▸rq)))
 refine Wp.skip (ws (Ah 4 0 (AK 37 h (λh=>?_) (λh=>?_))))
 ·exact gn 10 0 (Wp.ret (rr h▸rq))
 refine Ah 4 0 (AK 41 h (λh=>?_) (λh=>?_))
 ·exact gn 6 0 (Wp.ret (rr h▸rq))
 exact gn 6 0 (Wp.ret (rr h▸rq))
def eO (v1:ByteArray×Bool) (z1:Bool):St:=A7 [(2,(pb 2)),(4,(Y v1.1)),(23,(B z1))] [(.box 2,[i6 0,i6 0,i6 0,i6 0,i6 0,ts (bs [])])]
def eN (v1:ByteArray×Bool) (z2:Int) (z3:Int) (z4:Int) (z5:Int) (z6:Int) (z7:Int):St:=A7 [(2,(pb 2)),(4,(Y v1.1)),(6,(pb 6)),(7,(I z2)),(25,(I z3))] [(.box 2,[i6 0,i6 0,i6 0,i6 0,i6 0,ts (bs [])]),(.box 6,[i6 z4,i6 z5,i6 z6,i6 z7])]
def eM (v1:ByteArray×Bool) (z8:Int) (z9:Int) (z10:Int) (z11:Int) (z12:Int):St:=A7 [(2,(pb 2)),(4,(Y v1.1)),(6,(pb 6)),(7,(I z8))] [(.box 2,[i6 0,i6 0,i6 0,i6 0,i6 0,ts (bs [])]),(.box 6,[i6 z9,i6 z10,i6 z11,i6 z12])]
theorem o6 (xT:ByteArray) (r:Page×Bool) (h:Po xT=some r):AM Tryz.prog 83 [.sv (Y xT)] (.tup [(.agg (c65 r.1)),(B r.2)]) (rg 1):=by
 refine gk Tryz.func83 rfl Tryz.ntmps83 (ws (gw 2 0 (Ah 1 0 (RW.c 0 h (oE _) (λv1 gv1 h=>gn 5 1 (Wp.seq (EA h [2,4,23] [.box 2] (λa=>(eO v1 a)) (λa h=>?_) (λj1 h=>?_))))))))
 ·refine Ap (Ah 3 0 (AK 20 h (λh=>?_) (λh=>?_)))
  ·exact gn 3 0 (jn h)
  exact gn 3 0 (jn h)
 refine wc h (λh=>?_) (λh=>?_)
 ·exact ws (gn 3 0 (Wp.ret (rr h▸rq)))
 refine Wp.skip (ws (gw 1 0 (gn 1 0 (Wp.seq (ws (gn 1 0 (DA h [2,4,6,7,25] [.box 2,.box 6] (λs=>(eN v1 s.1 s.2.1 s.2.2.1 s.2.2.2.1 s.2.2.2.2.1 s.2.2.2.2.2)) [2,4,6,7] [.box 2,.box 6] (λs=>(eM v1 s.1 s.2.1 s.2.2.1 s.2.2.2.1 s.2.2.2.2)) DM ?_ ?_)))))))
 ·rintro⟨b,y1,d,e,f,g⟩ o (h:EE v1 b y1 d e f g=some o) hk1;refine ws (gn 1 0 (Wp.seq (wc h (λh=>?_) (λh=>?_))))
  ·refine Wp.skip (Wp.seq (Wp.block (ws (gw 2 0 (Ah 2 0 (RW.c 0 h (QN _ _) (λv2 gv2 h=>gn 7 1 (Wp.seq (ws (gn 2 0 (wc h (λh=>?_) (λh=>?_))))))))))))
   ·exact ws (gn 3 0 (Wp.ret (rr (jo h hk1)▸rq)))
   refine Wp.skip (Ap (Ah 3 0 (qB h (λhb h=>?_) (λh=>?_))))
   ·exact RW.q (pxa 0 (eq_of_beq hb)) (gn 2 0 (Ap (gn 2 0 (jl h))))
   refine qB h (λhb h=>?_) (λh=>?_)
   ·exact RW.q (pxa 1 (eq_of_beq hb)) (gn 2 0 (Ap (gn 2 0 (jl h))))
   refine qB h (λhb h=>?_) (λh=>?_)
   ·exact RW.q (pxa 2 (eq_of_beq hb)) (gn 2 0 (Ap (gn 2 0 (jl h))))
   refine qB h (λhb h=>?_) (λh=>?_)
   ·exact RW.q (pxa 3 (eq_of_beq hb)) (gn 2 0 (Ap (gn 2 0 (jl h))))
   cases h
  exact Wp.exit (jx h)
 intro v3 h E hE;refine AW hE (Wp.seq (Dr [16] mixed (λ_ _=>nP) (Bf [0] 0 (bd h λx1 gx1 h=>KW.q 1 (xK gx1) (Bf [2,3,4,5,6,7,8,9,10,11,12] 0 (bd h λx2 gx2 h=>KW.q 13 (Vk gx2) (Bf [14,15,16] 0 (Bc (Wp.seq (ws (Ah 1 0 (RW.c 0 h (Z8 _) (λv4 gv4 h=>gn 1 0 (wc h (λh=>?_) (λh=>?_)))))))))))))))
 ·exact ws (gn 3 0 (Wp.ret (rr h▸rq)))
 exact Wp.skip (ws (gn 3 0 (Wp.ret (rr h▸rq))))
theorem AH7:∀x,(c67 x).all TV.flat=true:=λ_=>rfl
theorem eE (n b g cap:Nat) (T:TypeId) (hb:b≠g):Jm Tryz.prog (K8 n b g cap 67 T 8 c67) (Nc BO) 85 #[.pointer (some ⟨b,0,none⟩)]:=by
 refine iA Tryz.func85 rfl rfl ?_;rintro l i j x y hx hy ⟨w,hI⟩;have hn:l.length=n:=hI.len;have hi:=ABQ hx;have hj:=ABQ hy;refine vR Tryz.func85 rfl rfl ?_;rw [Tryz.ntmps85];refine Wp.seq ?_;refine Wp.region ?_;refine H5.o 5 (B false) ?_;refine H5.nil ?_;refine Wp.seq ?_;refine SP mixed (by decide+kernel) ?_;refine Rb 6 (.hdr ⟨g,0,none⟩ n cap) (.slice (some ⟨g,0,none⟩) n cap) ?_ rfl nJ (λw=>by simp [CG]) rfl rfl rfl;refine If.o 7 (I i) ?_;refine qI (n:=n) 8 (m:=i) ?_ rfl Tryz.underlying61 rfl hi.1 (by omega) (by decide);refine VB (f:=2) 9 ?_ rfl Tryz.underlying67 rfl (by decide);refine VB (f:=1) 10 ?_ rfl Tryz.underlying65 rfl (by decide);refine Rb (x:=10) 11 (.int .i64 (BO x)) (.int .i64 (BO x)) ?_ rfl (nI (k:=3) (t:= .int .i64 (BO x)) Eo hx rfl hb (by rw [ABZ];rfl)) (λw=>by simp [CG]) rfl rfl rfl;refine Rb 12 (.hdr ⟨g,0,none⟩ n cap) (.slice (some ⟨g,0,none⟩) n cap) ?_ rfl nJ (λw=>by simp [CG]) rfl rfl rfl;refine If.o 13 (I j) ?_;refine qI (n:=n) 14 (m:=j) ?_ rfl Tryz.underlying61 rfl hj.1 (by omega) (by decide);refine VB (f:=2) 15 ?_ rfl Tryz.underlying67 rfl (by decide);refine VB (f:=1) 16 ?_ rfl Tryz.underlying65 rfl (by decide);refine Rb (x:=16) 17 (.int .i64 (BO y)) (.int .i64 (BO y)) ?_ rfl (nI (k:=3) (t:= .int .i64 (BO y)) Eo hy rfl hb (by rw [ABZ];rfl)) (λw=>by simp [CG]) rfl rfl rfl;refine If.o 18 (B (decide ((BO x)<(BO y)))) ?_;refine If.o 5 (B (decide ((BO x)<(BO y)))) ?_;refine If.nil ?_;exact Wp.ret ⟨.inr rfl,rfl,_,rfl⟩
theorem eG {l r:List As} (h:Dz (Nc BO) l (ln l)=some r):RF Tryz.prog 84 61 67 8 c67 85 l r:=by
 refine RR Eo h Tryz.t61 Tryz.t67 rfl rfl (by kernel_rfl) rfl 25 (λw=>rfl) rfl Tryz.isAgg67 (enters_of Tryz.func85 rfl rfl) ?_ (λn b g cap T hb=>eE n b g cap T hb);intro n
 match n with
 |0=>exact⟨107,by kernel_rfl,λh=>absurd h (by decide)⟩
 |1=>exact⟨108,by kernel_rfl,λh=>absurd h (by decide)⟩
 |n+2=>
  have hk:Go.Lib.swapperK (n+2) Tryz.t67 25=9:=rfl;rw [hk];exact⟨115,by kernel_rfl,λ_=>⟨by decide,false,λargs W=>run_callFunc_extern Tryz.func115 (by kernel_rfl) (by kernel_rfl) (by kernel_rfl) (e:=Extern.ReflectliteSwapper.swap false) (by kernel_rfl) args W⟩⟩
def oV (xF:Flash) (z1:Int) (z2:List As):St:=A7 [(3,(pb 3)),(11,(.one (Bz xF.Blocks))),(12,(I (ln xF.Blocks))),(13,(I z1))] [(.box 3,[Hg z2])]
def oU (z3:List As):St:=A7 [(3,(pb 3))] [(.box 3,[Hg z3])]
def oT (xF:Flash) (y1:Int) (x1:Block) (z4:Int) (z5:List As):St:=A7 [(3,(pb 3)),(4,(I y1)),(11,(.one (Bz xF.Blocks))),(12,(I (ln xF.Blocks))),(13,(I y1)),(19,(.one (Ny x1.Leaves))),(20,(I (ln x1.Leaves))),(21,(I z4))] [(.box 3,[Hg z5])]
def oS (xF:Flash) (y1:Int) (z6:List As):St:=A7 [(3,(pb 3)),(11,(.one (Bz xF.Blocks))),(12,(I (ln xF.Blocks))),(13,(I y1))] [(.box 3,[Hg z6])]
def oR (xF:Flash) (y1:Int) (x1:Block) (y2:Int) (a:List As) (v1:Page×Bool) (z7:Bool):St:=A7 [(3,(pb 3)),(4,(I y1)),(6,(I y2)),(8,(pb 8)),(11,(.one (Bz xF.Blocks))),(12,(I (ln xF.Blocks))),(13,(I y1)),(19,(.one (Ny x1.Leaves))),(20,(I (ln x1.Leaves))),(21,(I y2)),(37,(B z7))] [(.box 3,[Hg a]),(.box 8,[i6 v1.1.Kind,i6 v1.1.Seq,i6 v1.1.Tx,i6 v1.1.Part,i6 v1.1.Count,ts v1.1.Text])]
theorem QM (xF:Flash) (r:List As) (h:H1 xF=some r):AM Tryz.prog 43 [.sv (.agg (LH false xF))] (.one (Hg r)) (rg 1):=by
 refine gk Tryz.func43 rfl Tryz.ntmps43 (ws (gw 2 0 (gn 1 0 (Wp.seq (ws (Ah 2 0 (RW.q (CR (B5 false) xF.Blocks) (gn 1 0 (BQ h [3,11,12,13] [.box 3] (λs=>(oV xF s.1 s.2)) [3] [.box 3] (λs=>(oU s)) DM ?_ ?_)))))))))
 ·rintro⟨y1,d⟩ o (h:I8 xF y1 d=some o);refine ws (gn 1 0 (Wp.seq (wc h (λh=>?_) (λh=>?_))))
  ·refine Wp.skip (Wp.seq (Wp.block (ws (Ah 1 0 (C9 (B5 false) h (λx1 gx1 h=>RW.q (L9 (B5 false) gx1 0 3) (gw 3 0 (Ah 2 0 (RW.q (CR Dw x1.Leaves) (gn 1 0 (BQ h [3,4,11,12,13,19,20,21] [.box 3] (λs=>(oT xF y1 x1 s.1 s.2)) [3,11,12,13] [.box 3] (λs=>(oS xF y1 s)) DM ?_ ?_)))))))))))
   ·rintro⟨y2,b⟩ o (h:Ke y1 x1 y2 b=some o);refine ws (gn 1 0 (Wp.seq (wc h (λh=>?_) (λh=>?_))))
    ·refine Wp.skip (Wp.seq (Wp.block (ws (Ah 1 0 (C9 Dw h (λx2 gx2 h=>RW.q (L9 Dw gx2 0 2) (gw 3 0 (Ah 2 0 (RW.c 0 h (o6 _) (λv1 gv1 h=>gn 6 1 (EA h [3,4,6,8,11,12,13,19,20,21,37] [.box 3,.box 8] (λa=>(oR xF y1 x1 y2 b v1 a)) (λa h=>?_) (λj1 h=>?_))))))))))))
     ·refine Ap (Ah 2 0 (AK 33 h (λh=>?_) (λh=>?_)))
      ·exact gn 4 0 (jn h)
      exact gn 4 0 (jn h)
     refine wc h (λh=>?_) (λh=>?_)
     ·exact Ap (Ah 6 0 (bd h λq1 gq1 h=>CI (Dk Eo (λ_=>rfl) b gq1) (gn 1 0 (Ap (gn 2 0 (jl h))))))
     exact Wp.skip (Ap (gn 2 0 (jl h)))
    exact Wp.exit (jv h)
   intro v2 h E hE;exact AW hE (Ap (gn 2 0 (jl h)))
  exact Wp.exit (jv h)
 intro v3 h E hE;exact AW hE (ws (Ah 1 0 (RW.srt h (.box 3) (λ_ h=>eG h) (λv4 gv4 h=>RW.nil (ws (gn 2 2 (Wp.ret (rr h▸rq))))) Eo AH7)))
def uY (a:Int) (v1:List As) (z1:Bool) (z2:Int) (z3:Int) (z4:Int) (z5:Int) (z6:Int) (z7:Int) (z8:Int) (z9:Int) (z10:ByteArray):St:=A7 [(1,(I a)),(4,(pb 4)),(6,(pb 6)),(7,(B z1)),(11,(.one (Hg v1))),(12,(I (ln v1))),(13,(I z2))] [(.box 4,[i6 0,i6 0,i6 0,i6 0,i6 0,i6 0,i6 0,ts (bs [])]),(.box 6,[i6 z3,i6 z4,i6 z5,i6 z6,i6 z7,i6 z8,i6 z9,ts z10])]
def uX (z11:Bool) (z12:Int) (z13:Int) (z14:Int) (z15:Int) (z16:Int) (z17:Int) (z18:Int) (z19:ByteArray):St:=A7 [(4,(pb 4)),(6,(pb 6)),(7,(B z11))] [(.box 4,[i6 0,i6 0,i6 0,i6 0,i6 0,i6 0,i6 0,ts (bs [])]),(.box 6,[i6 z12,i6 z13,i6 z14,i6 z15,i6 z16,i6 z17,i6 z18,ts z19])]
def uW (i:Int) (v1:List As) (j:Bool) (y1:Int) (a:Int) (b:Int) (c:Int) (d:Int) (e:Int) (f:Int) (g:Int) (h:ByteArray) (x1:As) (z20:Bool):St:=A7 [(1,(I i)),(4,(pb 4)),(6,(pb 6)),(7,(B j)),(9,(pb 9)),(11,(.one (Hg v1))),(12,(I (ln v1))),(13,(I y1)),(40,(B z20))] [(.box 4,[i6 0,i6 0,i6 0,i6 0,i6 0,i6 0,i6 0,ts (bs [])]),(.box 6,[i6 a,i6 b,i6 c,i6 d,i6 e,i6 f,i6 g,ts h]),(.box 9,[i6 x1.Block,i6 x1.Leaf,i6 x1.Page.Kind,i6 x1.Page.Seq,i6 x1.Page.Tx,i6 x1.Page.Part,i6 x1.Page.Count,ts x1.Page.Text])]
theorem AAu (xF:Flash) (b:Int) (r:As×Bool) (h:TU xF b=some r):AM Tryz.prog 64 [.sv (.agg (LH false xF)),.sv (I b)] (.tup [(.agg (c67 r.1)),(B r.2)]) (rg 2):=by
 refine gk Tryz.func64 rfl Tryz.ntmps64 (ws (gw 3 0 (gw 1 0 (gn 1 0 (Wp.seq (ws (Ah 1 0 (RW.c 0 h (QM _) (λv1 gv1 h=>RW.q (CR Eo v1) (gn 1 0 (BQ h [1,4,6,7,11,12,13] [.box 4,.box 6] (λs=>(uY b v1 s.1 s.2.1 s.2.2.1 s.2.2.2.1 s.2.2.2.2.1 s.2.2.2.2.2.1 s.2.2.2.2.2.2.1 s.2.2.2.2.2.2.2.1 s.2.2.2.2.2.2.2.2.1 s.2.2.2.2.2.2.2.2.2)) [4,6,7] [.box 4,.box 6] (λs=>(uX s.1 s.2.1 s.2.2.1 s.2.2.2.1 s.2.2.2.2.1 s.2.2.2.2.2.1 s.2.2.2.2.2.2.1 s.2.2.2.2.2.2.2.1 s.2.2.2.2.2.2.2.2)) DM ?_ ?_)))))))))))
 ·rintro⟨m,y1,d,e,f,g,i,j,k,l⟩ o (h:J9 b v1 m y1 d e f g i j k l=some o);refine ws (gn 1 0 (Wp.seq (wc h (λh=>?_) (λh=>?_))))
  ·refine Wp.skip (Wp.seq (Wp.block (ws (C9 Eo h (λx1 gx1 h=>RW.q (L9 Eo gx1 0 8) (gn 2 0 (EA h [1,4,6,7,9,11,12,13,40] [.box 4,.box 6,.box 9] (λa=>(uW b v1 m y1 d e f g i j k l x1 a)) (λa h=>?_) (λj1 h=>?_))))))))
   ·refine Ap (Ah 5 0 (AK 21 h (λh=>?_) (λh=>?_)))
    ·refine Ah 7 0 (AK 28 h (λh=>?_) (λh=>?_))
     ·refine Ah 3 0 (AK 31 h (λh=>?_) (λh=>?_))
      ·exact gn 9 0 (jn h)
      exact gn 9 0 (jn h)
     exact gn 12 0 (jn h)
    exact gn 19 0 (jn h)
   refine wc h (λh=>?_) (λh=>?_)
   ·exact Ap (gn 3 0 (Ap (gn 2 0 (jl h))))
   exact Wp.skip (Ap (gn 2 0 (jl h)))
  exact Wp.exit (jv h)
 intro v2 h E hE;exact AW hE (ws (gn 4 0 (Wp.ret (rr h▸rq))))
def AAp (xF:Flash) (xB:Int) (v1:List Int) (z1:List As) (z2:Int):St:=A7 [(2,(I xB)),(3,(pb 3)),(7,(.one (Hg z1))),(13,(.one (Er v1))),(14,(I (ln v1))),(15,(I z2))] [(.box 3,[Bz xF.Blocks])]
def AAo (z3:List As):St:=A7 [(7,(.one (Hg z3)))] []
def AAn (xF:Flash) (xB:Int) (v1:List Int) (a:List As) (y1:Int) (v2:As×Bool) (z4:Bool):St:=A7 [(2,(I xB)),(3,(pb 3)),(7,(.one (Hg a))),(10,(pb 10)),(13,(.one (Er v1))),(14,(I (ln v1))),(15,(I y1)),(31,(B z4))] [(.box 3,[Bz xF.Blocks]),(.box 10,[i6 v2.1.Block,i6 v2.1.Leaf,i6 v2.1.Page.Kind,i6 v2.1.Page.Seq,i6 v2.1.Page.Tx,i6 v2.1.Page.Part,i6 v2.1.Page.Count,ts v2.1.Page.Text])]
theorem iF (xF:Flash) (xS:Store) (xB:Int) (r:List As) (h:Rz xF xS xB=some r):AM Tryz.prog 28 [.sv (.agg (LH false xF)),.sv (.agg (SN false xS)),.sv (I xB)] (.one (Hg r)) (rg 3):=by
 refine gk Tryz.func28 rfl Tryz.ntmps28 (ws (gw 3 0 (gn 1 0 (Wp.seq (ws (Ah 1 0 (RW.c 0 h (AAx _) (λv1 gv1 h=>RW.q (CR k3 v1) (gn 1 0 (BQ h [2,3,7,13,14,15] [.box 3] (λs=>(AAp xF xB v1 s.1 s.2)) [7] [] (λs=>(AAo s)) DM ?_ ?_))))))))))
 ·rintro⟨b,y1⟩ o (h:Gv xF xB v1 b y1=some o);refine ws (gn 1 0 (Wp.seq (wc h (λh=>?_) (λh=>?_))))
  ·refine Wp.skip (Wp.seq (Wp.block (ws (C9 k3 h (λx1 gx1 h=>RW.q (CB k3 gx1 0) (gw 1 0 (Ah 2 0 (RW.c 0 h (AAu _ _) (λv2 gv2 h=>gn 6 1 (EA h [2,3,7,10,13,14,15,31] [.box 3,.box 10] (λa=>(AAn xF xB v1 b y1 v2 a)) (λa h=>?_) (λj1 h=>?_)))))))))))
   ·refine Ap (Ah 2 0 (AK 26 h (λh=>?_) (λh=>?_)))
    ·exact gn 5 0 (jn h)
    exact gn 5 0 (jn h)
   refine wc h (λh=>?_) (λh=>?_)
   ·exact Ap (Ah 3 0 (bd h λq1 gq1 h=>CI (Dk Eo (λ_=>rfl) b gq1) (gn 1 1 (Ap (gn 2 0 (jl h))))))
   exact Wp.skip (Ap (gn 2 0 (jl h)))
  exact Wp.exit (jv h)
 intro v3 h E hE;exact AW hE (ws (gn 2 2 (Wp.ret (rr h▸rq))))
def eT (a:Int) (xB:Int) (v2:List As) (z1:Int) (z2:Int):St:=A7 [(2,(I a)),(3,(I xB)),(9,(I z1)),(18,(.one (Hg v2))),(19,(I (ln v2))),(20,(I z2))] []
def eS (z3:Int):St:=A7 [(9,(I z3))] []
def eQ (a:Int) (xB:Int) (v2:List As) (b:Int) (y1:Int) (z4:Bool):St:=A7 [(2,(I a)),(3,(I xB)),(9,(I b)),(18,(.one (Hg v2))),(19,(I (ln v2))),(20,(I y1)),(40,(B z4))] []
theorem Mc (xF:Flash) (xS:Store) (b:Int) (xB:Int) (r:Int) (h:FC xF xS b xB=some r):AM Tryz.prog 15 [.sv (.agg (LH false xF)),.sv (.agg (SN false xS)),.sv (I b),.sv (I xB)] (I r) (rg 4):=by
 refine gk Tryz.func15 rfl Tryz.ntmps15 (ws (gw 3 0 (Ah 3 0 (RW.c 0 h (iF _ _ _) (λv1 gv1 h=>RW.q (CR Eo v1) (gn 1 0 (Wp.seq (ws (Ah 1 0 (RW.c 0 h (QM _) (λv2 gv2 h=>RW.q (CR Eo v2) (gn 1 0 (BQ h [2,3,9,18,19,20] [] (λs=>(eT b xB v2 s.1 s.2)) [9] [] (λs=>(eS s)) DM ?_ ?_)))))))))))))
 ·rintro⟨d,y1⟩ o (h:IU b xB v2 d y1=some o);refine ws (gn 1 0 (Wp.seq (wc h (λh=>?_) (λh=>?_))))
  ·refine Wp.skip (Wp.seq (Wp.block (ws (C9 Eo h (λx1 gx1 h=>RW.q (L9 Eo gx1 0 8) (gn 2 0 (EA h [2,3,9,18,19,20,40] [] (λa=>(eQ b xB v2 d y1 a)) (λa h=>?_) (λj1 h=>?_))))))))
   ·refine Ap (Ah 5 0 (AK 28 h (λh=>?_) (λh=>?_)))
    ·refine Ah 6 0 (AK 34 h (λh=>?_) (λh=>?_))
     ·exact gn 6 0 (jn h)
     exact gn 6 0 (jn h)
    exact gn 12 0 (jn h)
   refine wc h (λh=>?_) (λh=>?_)
   ·exact Ap (gn 3 0 (Ap (gn 2 0 (jl h))))
   exact Wp.skip (Ap (gn 2 0 (jl h)))
  exact Wp.exit (jv h)
 intro v3 h E hE;exact AW hE (ws (gn 2 0 (Wp.ret (rr h▸rq))))
def Xk (xD:AH) (z1:List Int) (z2:Int):St:=A7 [(1,(pb 1)),(3,(.one (Er z1))),(8,(.one (Bz xD.Flash.Blocks))),(9,(I (ln xD.Flash.Blocks))),(10,(I z2))] [(.box 1,[Bz xD.Flash.Blocks,Dp xD.Store.Vols,BB xD.Store.Arena.Knots,i6 xD.Store.Next,i6 xD.Seq,i6 xD.Tx,i6 xD.Base])]
def Xj (z3:List Int):St:=A7 [(3,(.one (Er z3)))] []
def Xi (xD:AH) (a:List Int) (y1:Int) (z4:Bool):St:=A7 [(1,(pb 1)),(3,(.one (Er a))),(4,(I y1)),(8,(.one (Bz xD.Flash.Blocks))),(9,(I (ln xD.Flash.Blocks))),(10,(I y1)),(36,(B z4))] [(.box 1,[Bz xD.Flash.Blocks,Dp xD.Store.Vols,BB xD.Store.Arena.Knots,i6 xD.Store.Next,i6 xD.Seq,i6 xD.Tx,i6 xD.Base])]
theorem QQ (xD:AH) (r:List Int) (h:Kf xD=some r):AM Tryz.prog 21 [.sv (.agg (QZ false xD))] (.one (Er r)) (rg 1):=by
 refine gk Tryz.func21 rfl Tryz.ntmps21 (ws (gw 2 0 (gn 1 0 (Wp.seq (ws (Ah 3 0 (RW.q (CR (B5 false) xD.Flash.Blocks) (gn 1 0 (BQ h [1,3,8,9,10] [.box 1] (λs=>(Xk xD s.1 s.2)) [3] [] (λs=>(Xj s)) DM ?_ ?_)))))))))
 ·rintro⟨b,y1⟩ o (h:Hq xD b y1=some o);refine ws (gn 1 0 (Wp.seq (wc h (λh=>?_) (λh=>?_))))
  ·refine Wp.skip (Wp.seq (Wp.block (ws (Ah 1 0 (C9 (B5 false) h (λx1 gx1 h=>RW.q (L9 (B5 false) gx1 0 3) (gn 3 0 (EA h [1,3,4,8,9,10,36] [.box 1] (λa=>(Xi xD b y1 a)) (λa h=>?_) (λj1 h=>?_)))))))))
   ·refine Dr [] mixed (λ_ _=>nP) (Bf [0,1,2,3] 0 (Sk 18 h (λh=>?_) (λh=>?_)))
    ·refine Bf [4,6,7] 0 (KW.q 8 (CR Dw x1.Leaves) (Bp 5 (KB.c 0 h (SF _) (λv1 gv1 h=>Bf [9,10,11] 0 (Sk 26 h (λh=>?_) (λh=>?_))))))
     ·exact Bf [12,13,14,15,16,17,18] 0 (Bp 19 (KB.c 0 h (Mc _ _ _ _) (λv2 gv2 h=>Bf [20,21] 0 (Bc (jn h)))))
     exact Bf [12,13,14,15,16,17,18,19,20,21] 0 (Bc (jn h))
    exact Bf [4,6,7,8,5,9,10,11,12,13,14,15,16,17,18,19,20,21] 0 (Bc (jn h))
   refine wc h (λh=>?_) (λh=>?_)
   ·exact Ap (Ah 3 0 (bd h λq1 gq1 h=>CI (Dk k3 (λ_=>rfl) b gq1) (gn 1 1 (Ap (gn 2 0 (jl h))))))
   exact Wp.skip (Ap (gn 2 0 (jl h)))
  exact Wp.exit (jv h)
 intro v3 h E hE;exact AW hE (ws (gn 2 2 (Wp.ret (rr h▸rq))))
def uV (xL:List Int) (xN:Int) (z1:Int):St:=A7 [(1,(I xN)),(7,(.one (PX xL))),(8,(I (ln xL))),(9,(I z1))] []
def uU:St:=A7 [] []
theorem AAt (xL:List Int) (xN:Int) (r:Bool) (h:TT xL xN=some r):AM Tryz.prog 155 [.sv (.one (PX xL)),.sv (I xN)] (B r) (rg 2):=by
 refine gk Tryz.func155 rfl Tryz.ntmps155 (ws (gn 1 0 (Wp.seq (ws (Ah 1 0 (RW.q (CR k3 xL) (gn 1 0 (DA h [1,7,8,9] [] (λs=>(uV xL xN s)) [] [] (λ_=>uU) DM ?_ ?_))))))))
 ·rintro y1 o (h:J8 xL xN y1=some o) hk1;refine ws (gn 1 0 (Wp.seq (wc h (λh=>?_) (λh=>?_))))
  ·refine Wp.skip (Wp.seq (Wp.block (ws (C9 k3 h (λx1 gx1 h=>RW.q (CB k3 gx1 0) (gw 1 0 (gn 3 0 (wc h (λh=>?_) (λh=>?_)))))))))
   ·exact ws (gn 1 0 (Wp.ret (rr (jo h hk1)▸rq)))
   exact Wp.skip (Ap (gn 2 0 (jl h)))
  exact Wp.exit (jx h)
 intro v1 h E hE;exact AW hE (ws (gn 1 0 (Wp.ret (rr h▸rq))))
def uS (a:List As) (d:Int) (c:Int) (b:Int) (z1:Int):St:=A7 [(1,(I d)),(2,(I c)),(3,(I b)),(8,(pb 8)),(13,(.one (FQ a))),(14,(I (ln a))),(15,(I z1))] [(.box 8,[i6 0,i6 0,i6 0,i6 0,i6 0,ts (bs [])])]
def uR:St:=A7 [(8,(pb 8))] [(.box 8,[i6 0,i6 0,i6 0,i6 0,i6 0,ts (bs [])])]
def uQ (a:List As) (d:Int) (c:Int) (b:Int) (y1:Int) (x1:As) (z2:Bool):St:=A7 [(1,(I d)),(2,(I c)),(3,(I b)),(8,(pb 8)),(12,(pb 12)),(13,(.one (FQ a))),(14,(I (ln a))),(15,(I y1)),(45,(B z2))] [(.box 8,[i6 0,i6 0,i6 0,i6 0,i6 0,ts (bs [])]),(.box 12,[i6 x1.Page.Kind,i6 x1.Page.Seq,i6 x1.Page.Tx,i6 x1.Page.Part,i6 x1.Page.Count,ts x1.Page.Text])]
theorem Z0 (c:List As) (e:Int) (d:Int) (b:Int) (r:Page×Bool) (h:QK c e d b=some r):AM Tryz.prog 190 [.sv (.one (FQ c)),.sv (I e),.sv (I d),.sv (I b)] (.tup [(.agg (c65 r.1)),(B r.2)]) (rg 4):=by
 refine gk Tryz.func190 rfl Tryz.ntmps190 (ws (gn 2 0 (Wp.seq (ws (Ah 1 0 (RW.q (CR Eo c) (gn 1 0 (DA h [1,2,3,8,13,14,15] [.box 8] (λs=>(uS c e d b s)) [8] [.box 8] (λ_=>uR) DM ?_ ?_))))))))
 ·rintro y1 o (h:J7 c e d b y1=some o) hk1;refine ws (gn 1 0 (Wp.seq (wc h (λh=>?_) (λh=>?_))))
  ·refine Wp.skip (Wp.seq (Wp.block (ws (C9 Eo h (λx1 gx1 h=>RW.q (L9 Eo gx1 0 8) (gw 2 0 (gn 4 0 (EA h [1,2,3,8,12,13,14,15,45] [.box 8,.box 12] (λa=>(uQ c e d b y1 x1 a)) (λa h=>?_) (λj1 h=>?_)))))))))
   ·refine Ap (Ah 4 0 (AK 24 h (λh=>?_) (λh=>?_)))
    ·refine Ah 6 0 (AK 30 h (λh=>?_) (λh=>?_))
     ·refine Ah 6 0 (AK 36 h (λh=>?_) (λh=>?_))
      ·refine Ah 3 0 (AK 39 h (λh=>?_) (λh=>?_))
       ·exact gn 6 0 (jn h)
       exact gn 6 0 (jn h)
      exact gn 9 0 (jn h)
     exact gn 15 0 (jn h)
    exact gn 21 0 (jn h)
   refine wc h (λh=>?_) (λh=>?_)
   ·exact ws (gn 3 0 (Wp.ret (rr (jo h hk1)▸rq)))
   exact Wp.skip (Ap (gn 2 0 (jl h)))
  exact Wp.exit (jx h)
 intro v1 h E hE;exact AW hE (ws (gn 3 0 (Wp.ret (rr h▸rq))))
def AAw (z1:Bool):St:=A7 [(2,(B z1))] []
def AAv (xR:Cu) (z2:Bool):St:=A7 [(1,(pb 1)),(32,(B z2))] [(.box 1,[i6 xR.Kind,i6 xR.Vol,i6 xR.Arg,i6 xR.Chunk])]
theorem iG (xR:Cu) (r:Bool) (h:TY xR=some r):AM Tryz.prog 185 [.sv (.agg (V5 xR))] (B r) (rg 1):=by
 refine gk Tryz.func185 rfl Tryz.ntmps185 (ws (gn 2 0 (Wp.seq (ws (gn 3 0 (wc h (λh=>?_) (λh=>?_)))))))
 ·refine EA h [2] [] (λa=>(AAw a)) (λa h=>?_) (λj1 h=>?_)
  ·refine Ap (Ah 4 0 (AK 9 h (λh=>?_) (λh=>?_)))
   ·refine Ah 2 0 (RW.c 0 h (FB _ _ _) (λv1 gv1 h=>Ah 2 0 (AK 14 h (λh=>?_) (λh=>?_))))
    ·exact gn 5 0 (jn h)
    exact gn 5 0 (jn h)
   exact gn 10 0 (jn h)
  exact Wp.ret (rr h▸rq)
 refine Wp.skip (Wp.seq (EA h [1,32] [.box 1] (λa=>(AAv xR a)) (λa h=>?_) (λj2 h=>?_)))
 ·refine Ap (Ah 2 0 (RW.c 0 h (FB _ _ _) (λv2 gv2 h=>Ah 2 0 (AK 23 h (λh=>?_) (λh=>?_)))))
  ·exact gn 9 0 (jn h)
  refine Ah 4 0 (AK 27 h (λh=>?_) (λh=>?_))
  ·exact gn 5 0 (jn h)
  exact gn 5 0 (jn h)
 refine wc h (λh=>?_) (λh=>?_)
 ·exact ws (gn 1 0 (Wp.ret (rr h▸rq)))
 refine Wp.skip (Wp.seq (ws (gn 2 0 (Wp.block (ws (gn 2 0 (wc h (λh=>?_) (λh=>?_))))))))
 ·exact ws (Ah 2 0 (RW.c 0 h (FB _ _ _) (λv3 gv3 h=>gn 1 0 (Wp.ret (rr h▸rq)))))
 refine ws (gn 2 0 (wc h (λh=>?_) (λh=>?_)))
 ·exact ws (gn 4 0 (Wp.ret (rr h▸rq)))
 refine ws (gn 2 0 (wc h (λh=>?_) (λh=>?_)))
 ·refine ws (Ah 2 0 (RW.c 0 h (FB _ _ _) (λv4 gv4 h=>Ah 1 0 (AK 50 h (λh=>?_) (λh=>?_)))))
  ·exact Ah 2 0 (RW.c 0 h (FB _ _ _) (λv5 gv5 h=>gn 2 0 (Wp.ret (rr h▸rq))))
  exact gn 5 0 (Wp.ret (rr h▸rq))
 refine ws (gn 2 0 (wc h (λh=>?_) (λh=>?_)))
 ·exact ws (Ah 2 0 (RW.c 0 h (FB _ _ _) (λv6 gv6 h=>gn 1 0 (Wp.ret (rr h▸rq)))))
 exact Wp.skip (ws (gn 1 0 (Wp.ret (rr h▸rq))))
def eK (xT:ByteArray) (z1:List Cu) (z2:Int):St:=A7 [(0,(Y xT)),(4,(.one (DS z1))),(5,(I z2))] []
def eJ (z3:List Cu):St:=A7 [(4,(.one (DS z3)))] []
def eI (xT:ByteArray) (a:List Cu) (v1:Int×Int×Bool) (v2:Int×Int×Bool) (x1:Int) (x2:Int) (z4:Bool):St:=A7 [(0,(Y xT)),(4,(.one (DS a))),(10,(I v2.2.1)),(12,(pb 12)),(55,(B z4))] [(.box 12,[i6 (qu (IntKind.i64.wrap x1) 16),i6 (Int.tmod (IntKind.i64.wrap x2) 16),i6 v1.1,i6 v2.1])]
theorem o5 (xT:ByteArray) (r:List Cu×Bool) (h:Pn xT=some r):AM Tryz.prog 191 [.sv (Y xT)] (.tup [(.one (DS r.1)),(B r.2)]) (rg 1):=by
 refine gk Tryz.func191 rfl Tryz.ntmps191 (ws (gw 2 0 (gn 1 0 (Wp.seq (ws (gn 1 0 (DA h [0,4,5] [] (λs=>(eK xT s.1 s.2)) [4] [] (λs=>(eJ s)) DM ?_ ?_)))))))
 ·rintro⟨b,d⟩ o (h:KY xT b d=some o) hk1;refine Wp.seq (ws (gn 4 0 (wc h (λh=>?_) (λh=>?_))))
  ·refine Wp.skip (Wp.block (ws (Ah 3 0 (RW.c 0 h (QN _ _) (λv1 gv1 h=>gw 7 1 (Ah 2 0 (RW.c 0 h (QN _ _) (λv2 gv2 h=>gn 7 1 (Wp.seq (Dr [14] mixed (λ_ _=>nP) (Bf [0,1] 0 (bd h λx1 gx1 h=>KW.q 2 (xK gx1) (Bf [3,4,5,6] 0 (bd h λx2 gx2 h=>KW.q 7 (xK gx2) (Bf [8,9,10,11,12,13,14] 0 (Bc (Wp.seq (EA h [0,4,10,12,55] [.box 12] (λa=>(eI xT b v1 v2 x1 x2 a)) (λa h=>?_) (λj1 h=>?_)))))))))))))))))))
   ·refine Ap (Ah 3 0 (AK 47 h (λh=>?_) (λh=>?_)))
    ·exact gn 8 0 (jn h)
    refine Ah 4 0 (AK 51 h (λh=>?_) (λh=>?_))
    ·exact gn 4 0 (jn h)
    exact Ah 1 0 (RW.c 0 h (iG _) (λv3 gv3 h=>gn 2 0 (jn h)))
   refine wc h (λh=>?_) (λh=>?_)
   ·exact ws (gn 2 0 (Wp.ret (rr (jo h hk1)▸rq)))
   exact Wp.skip (ws (Ah 3 0 (bd h λq1 gq1 h=>CI (Dk Ho (λ_=>rfl) b gq1) (gn 1 1 (Ap (gn 2 0 (jl h)))))))
  exact Wp.exit (jx h)
 intro v4 h E hE;exact AW hE (ws (gn 3 2 (Wp.ret (rr h▸rq))))
def dW (a:List As) (b:Int) (v1:Page×Bool) (z1:ByteArray) (z2:Int) (z3:Int):St:=A7 [(0,(.one (FQ a))),(1,(I b)),(4,(pb 4)),(6,(pb 6)),(8,(Y z1)),(9,(I z2)),(10,(I z3))] [(.box 4,[i6 0,i6 0,DS []]),(.box 6,[i6 v1.1.Kind,i6 v1.1.Seq,i6 v1.1.Tx,i6 v1.1.Part,i6 v1.1.Count,ts v1.1.Text])]
def dV (a:Int) (z4:ByteArray) (z5:Int):St:=A7 [(1,(I a)),(4,(pb 4)),(8,(Y z4)),(9,(I z5))] [(.box 4,[i6 0,i6 0,DS []])]
theorem n7 (a:List As) (b:Int) (r:Tx×Bool) (h:Pi a b=some r):AM Tryz.prog 156 [.sv (.one (FQ a)),.sv (I b)] (.tup [(.agg (c98 true r.1)),(B r.2)]) (rg 2):=by
 refine gk Tryz.func156 rfl Tryz.ntmps156 (ws (gw 2 0 (Ah 2 0 (RW.c 0 h (Z0 _ _ _ _) (λv1 gv1 h=>gn 6 1 (Wp.seq (ws (gn 2 0 (wc h (λh=>?_) (λh=>?_))))))))))
 ·exact ws (gn 3 0 (Wp.ret (rr h▸rq)))
 refine Wp.skip (Wp.seq (Kt mixed (D3 6 (SW.nil (Wp.seq (ws (gn 1 0 (DA h [0,1,4,6,8,9,10] [.box 4,.box 6] (λs=>(dW a b v1 s.1 s.2.1 s.2.2)) [1,4,8,9] [.box 4] (λs=>(dV b s.1 s.2)) DM ?_ ?_))))))))
 ·rintro⟨d,f,e⟩ o (h:KV a b v1 d f e=some o) hk1;refine Wp.seq (ws (gn 4 0 (wc h (λh=>?_) (λh=>?_))))
  ·refine Wp.skip (Wp.seq (Wp.block (ws (Ah 5 0 (RW.c 0 h (Z0 _ _ _ _) (λv2 gv2 h=>gn 6 1 (Wp.seq (ws (gn 2 0 (wc h (λh=>?_) (λh=>?_)))))))))))
   ·exact ws (gn 3 0 (Wp.ret (rr (jo h hk1)▸rq)))
   exact Wp.skip (ws (Ah 3 0 (bd h λx1 gx1 h=>RW.q (Ff gx1) (gn 1 0 (Ap (gn 5 0 (Ap (gn 3 0 (jl h)))))))))
  exact Wp.exit (jx h)
 intro v3 h E hE;exact AW hE (ws (Ah 1 0 (RW.c 0 h (o5 _) (λv4 gv4 h=>gw 5 9 (gn 7 0 (Wp.ret (rr h▸rq)))))))
def vP (a:List As) (z1:List Int) (z2:Int):St:=A7 [(0,(.one (FQ a))),(3,(.one (Er z1))),(11,(.one (FQ a))),(12,(I (ln a))),(13,(I z2))] []
def vO (a:List As) (z3:List Int):St:=A7 [(0,(.one (FQ a))),(3,(.one (Er z3)))] []
def vN (a:List As) (b:List Int) (y1:Int) (x1:As) (z4:Bool):St:=A7 [(0,(.one (FQ a))),(3,(.one (Er b))),(5,(pb 5)),(11,(.one (FQ a))),(12,(I (ln a))),(13,(I y1)),(28,(B z4))] [(.box 5,[i6 x1.Block,i6 x1.Leaf,i6 x1.Page.Kind,i6 x1.Page.Seq,i6 x1.Page.Tx,i6 x1.Page.Part,i6 x1.Page.Count,ts x1.Page.Text])]
def vM (a:List As) (v3:List Int) (z5:List Tx) (z6:Int):St:=A7 [(0,(.one (FQ a))),(3,(.one (Er v3))),(6,(.one (TH z5))),(38,(.one (.view (.slot 3) 0 [] 0))),(39,(I (ln v3))),(40,(I z6))] []
def vL (z7:List Tx):St:=A7 [(6,(.one (TH z7)))] []
theorem AAz (b:List As) (r:List Tx) (h:Uc b=some r):AM Tryz.prog 86 [.sv (.one (FQ b))] (.one (TH r)) (rg 1):=by
 refine gk Tryz.func86 rfl Tryz.ntmps86 (ws (gw 1 0 (gn 1 0 (Wp.seq (ws (Ah 1 0 (RW.q (CR Eo b) (gn 1 0 (BQ h [0,3,11,12,13] [] (λs=>(vP b s.1 s.2)) [0,3] [] (λs=>(vO b s)) DM ?_ ?_)))))))))
 ·rintro⟨d,y1⟩ o (h:JD b d y1=some o);refine ws (gn 1 0 (Wp.seq (wc h (λh=>?_) (λh=>?_))))
  ·refine Wp.skip (Wp.seq (Wp.block (ws (C9 Eo h (λx1 gx1 h=>RW.q (L9 Eo gx1 0 8) (gn 2 0 (EA h [0,3,5,11,12,13,28] [.box 5] (λa=>(vN b d y1 x1 a)) (λa h=>?_) (λj1 h=>?_))))))))
   ·refine Ap (Ah 5 0 (AK 21 h (λh=>?_) (λh=>?_)))
    ·exact Ah 4 0 (RW.c 0 h (gs (ca (co (cs (rF _))) rfl) (AAt _ _)) (λv1 gv1 h=>gn 2 0 (jn h)) (hc:=(.inr (λv=>rfl))))
    exact gn 7 0 (jn h)
   refine wc h (λh=>?_) (λh=>?_)
   ·exact Ap (Ah 5 0 (bd h λq1 gq1 h=>CI (Dk k3 (λ_=>rfl) d gq1) (gn 1 1 (Ap (gn 2 0 (jl h))))))
   exact Wp.skip (Ap (gn 2 0 (jl h)))
  exact Wp.exit (jv h)
 intro v2 h E hE;refine AW hE (ws (Ah 1 0 (AGK (enc:=c3) h AH4 (λv3 gv3 h=>RW.nil (ws (gn 1 0 (Wp.seq (ws (Ah 1 0 (RW.q (CR k3 v3) (gn 1 0 (BQ h [0,3,6,38,39,40] [] (λs=>(vM b v3 s.1 s.2)) [6] [] (λs=>(vL s)) DM ?_ ?_))))))))) (λ_=>rfl))))
 ·rintro⟨e,y2⟩ o (h:JC b v3 e y2=some o);refine ws (gn 1 0 (Wp.seq (wc h (λh=>?_) (λh=>?_))))
  ·refine Wp.skip (Wp.seq (Wp.block (ws (C9 k3 h (λx2 gx2 h=>RW.q (CB k3 gx2 0) (gw 1 0 (Ah 2 0 (RW.c 0 h (n7 _ _) (λv4 gv4 h=>gw 6 1 (gn 1 0 (wc h (λh=>?_) (λh=>?_))))))))))))
   ·exact Ap (Ah 3 0 (bd h λq2 gq2 h=>CI (pX (PT true) e [v4.1] gq2) (gn 1 1 (Ap (gn 2 0 (jl h))))))
   exact Wp.skip (Ap (gn 2 0 (jl h)))
  exact Wp.exit (jv h)
 intro v5 h E hE;exact AW hE (ws (gn 2 2 (Wp.ret (rr h▸rq))))
theorem AAs (xT:Tx) (r:Bool) (h:TS xT=some r):AM Tryz.prog 87 [.sv (.agg (c98 false xT))] (B r) (rg 1):=by
 refine gk Tryz.func87 rfl Tryz.ntmps87 (ws (gw 2 0 (Ah 2 0 (RW.q (CR Ho xT.Recs) (Ah 2 0 (AK 7 h (λh=>?_) (λh=>?_)))))))
 ·exact Ah 2 0 (C9 Ho h (λx1 gx1 h=>RW.q (DB Ho gx1 0 0) (RW.q (CB Ho gx1 0) (gn 3 0 (Wp.ret (rr h▸rq))))))
 exact gn 8 0 (Wp.ret (rr h▸rq))
def Z6 (xD:AH) (v2:List Tx) (z1:Int):St:=A7 [(1,(pb 1)),(14,(.one (AAf v2))),(15,(I (ln v2))),(16,(I z1))] [(.box 1,[Bz xD.Flash.Blocks,Dp xD.Store.Vols,BB xD.Store.Arena.Knots,i6 xD.Store.Next,i6 xD.Seq,i6 xD.Tx,i6 xD.Base])]
def Z5:St:=A7 [] []
theorem d8 (xD:AH) (r:Bool) (h:N0 xD=some r):AM Tryz.prog 44 [.sv (.agg (QZ false xD))] (B r) (rg 1):=by
 refine gk Tryz.func44 rfl Tryz.ntmps44 (ws (gn 2 0 (Wp.seq (ws (gn 6 0 (wc h (λh=>?_) (λh=>?_)))))))
 ·exact ws (gn 1 0 (Wp.ret (rr h▸rq)))
 refine Wp.skip (Wp.seq (ws (Ah 2 0 (RW.c 0 h (QM _) (λv1 gv1 h=>RW.c 0 h (gs (ca (co (cs (W3 _))) rfl) (AAz _)) (λv2 gv2 h=>RW.fz (.slot 14) 0 (AGV v2) (RW.q (CR (PT false) v2) (gn 1 0 (DA h [1,14,15,16] [.box 1] (λs=>(Z6 xD v2 s)) [] [] (λ_=>Z5) DM ?_ ?_)))) (hc:=(.inr (λv=>by simp [BA,BD,AO,B4,AFA,TH]))))))))
 ·rintro y1 o (h:Kb xD v2 y1=some o) hk1;refine ws (gn 1 0 (Wp.seq (wc h (λh=>?_) (λh=>?_))))
  ·refine Wp.skip (Wp.seq (Wp.block (ws (C9 (PT false) h (λx1 gx1 h=>RW.q (L9 (PT false) gx1 0 3) (gw 2 0 (gn 5 0 (wc h (λh=>?_) (λh=>?_)))))))))
   ·exact ws (Ah 1 0 (RW.c 0 h (AAs _) (λv3 gv3 h=>gn 1 0 (Wp.ret (rr (jo h hk1)▸rq)))))
   exact Wp.skip (Ap (gn 2 0 (jl h)))
  exact Wp.exit (jx h)
 intro v4 h E hE;exact AW hE (ws (gn 1 0 (Wp.ret (rr h▸rq))))
def e8 (xS:Store) (z1:List Cu) (z2:Int):St:=A7 [(1,(pb 1)),(3,(.one (DS z1))),(13,(.one (Dp xS.Vols))),(14,(I (ln xS.Vols))),(15,(I z2))] [(.box 1,[Dp xS.Vols,BB xS.Arena.Knots,i6 xS.Next])]
def e7 (z3:List Cu):St:=A7 [(3,(.one (DS z3)))] []
def eZ (xS:Store) (y1:Int) (x1:Vol) (v1:List Int) (z4:List Cu) (z5:Int):St:=A7 [(1,(pb 1)),(3,(.one (DS z4))),(5,(pb 5)),(13,(.one (Dp xS.Vols))),(14,(I (ln xS.Vols))),(15,(I y1)),(29,(.one (Er v1))),(30,(I (ln v1))),(31,(I z5))] [(.box 1,[Dp xS.Vols,BB xS.Arena.Knots,i6 xS.Next]),(.box 5,[i6 x1.Id,i6 x1.Root])]
def eY (xS:Store) (y1:Int) (z6:List Cu):St:=A7 [(1,(pb 1)),(3,(.one (DS z6))),(13,(.one (Dp xS.Vols))),(14,(I (ln xS.Vols))),(15,(I y1))] [(.box 1,[Dp xS.Vols,BB xS.Arena.Knots,i6 xS.Next])]
theorem pI (xS:Store) (r:List Cu) (h:Pt xS=some r):AM Tryz.prog 38 [.sv (.agg (SN false xS))] (.one (DS r)) (rg 1):=by
 refine gk Tryz.func38 rfl Tryz.ntmps38 (ws (gw 2 0 (gn 5 16 (Wp.seq (ws (Ah 2 0 (RW.q (CR Es xS.Vols) (gn 1 0 (BQ h [1,3,13,14,15] [.box 1] (λs=>(e8 xS s.1 s.2)) [3] [] (λs=>(e7 s)) DM ?_ ?_)))))))))
 ·rintro⟨a,y1⟩ o (h:H4 xS a y1=some o);refine ws (gn 1 0 (Wp.seq (wc h (λh=>?_) (λh=>?_))))
  ·refine Wp.skip (Wp.seq (Wp.block (ws (C9 Es h (λx1 gx1 h=>RW.q (L9 Es gx1 0 2) (gw 2 0 (Ah 5 0 (bd h λq1 gq1 h=>CI (Dk Ho (λ_=>rfl) a gq1) (gw 1 1 (Ah 4 0 (RW.c 0 h (iH _ _) (λv1 gv1 h=>RW.q (CR k3 v1) (gn 1 0 (BQ h [1,3,5,13,14,15,29,30,31] [.box 1,.box 5] (λs=>(eZ xS y1 x1 v1 s.1 s.2)) [1,3,13,14,15] [.box 1] (λs=>(eY xS y1 s)) DM ?_ ?_))))))))))))))
   ·rintro⟨b,y2⟩ o (h:H3 x1 v1 b y2=some o);refine ws (gn 1 0 (Wp.seq (wc h (λh=>?_) (λh=>?_))))
    ·refine Wp.skip (Wp.seq (Wp.block (ws (Ah 1 0 (C9 k3 h (λx2 gx2 h=>RW.q (CB k3 gx2 0) (gw 2 0 (gn 2 0 (wc h (λh=>?_) (λh=>?_))))))))))
     ·exact Ap (Ah 7 0 (bd h λq2 gq2 h=>CI (Dk Ho (λ_=>rfl) b gq2) (gn 1 1 (Ap (gn 2 0 (jl h))))))
     exact Wp.skip (Ap (gn 2 0 (jl h)))
    exact Wp.exit (jv h)
   intro v2 h E hE;exact AW hE (Ap (gn 2 0 (jl h)))
  exact Wp.exit (jv h)
 intro v3 h E hE;exact AW hE (ws (gn 2 2 (Wp.ret (rr h▸rq))))
def oD (z1:Int) (z2:List Int):St:=A7 [(0,(I z1)),(4,(.one (ot5 z2)))] []
def oC (z3:Int) (z4:List Int):St:=A7 [(0,(I z3)),(4,(.one (ot5 z4)))] []
theorem u7 (xN:Int) (r:ByteArray×Bool) (h:Vu xN=some r):AM Tryz.prog 177 [.sv (I xN)] (.tup [(Y r.1),(B r.2)]) (rg 1):=by
 refine gk Tryz.func177 rfl Tryz.ntmps177 (ws (gn 2 0 (Wp.seq (ws (Ah 1 0 (RW.c 0 h (FB _ _ _) (λv1 gv1 h=>gn 1 0 (wc h (λh=>?_) (λh=>?_)))))))))
 ·exact ws (gn 2 0 (Wp.ret (rr h▸rq)))
 refine Wp.skip (ws (gn 1 0 (sl1 h [0,4] [] (λs=>(oD s.1 s.2)) [0,4] [] (λs=>(oC s.1 s.2)) ?_ (λv2 h=>?_))))
 ·rintro⟨b,a⟩ o (h:Pk b a=some o);refine Wp.seq (ws (gn 2 0 (wc h (λh=>?_) (λh=>?_))))
  ·exact Wp.skip (Wp.block (ws (Ah 6 0 (bd h λq1 gq1 h=>CI (Dk k5 (λ_=>rfl) a gq1) (gn 1 1 (Ap (gn 3 0 (jl h))))))))
  exact Wp.exit (jv h)
 exact ws (Ah 4 0 (bd h λq2 gq2 h=>CI (Dk k5 (λ_=>rfl) v2.2 gq2) (RW.q (xO (f:=c5) (λ_=>rfl) q2) (gn 2 0 (Wp.ret (rr h▸rq))))))
theorem D1 (xN:Int) (r:ByteArray) (h:Em xN=some r):AM Tryz.prog 128 [.sv (I xN)] (Y r) (rg 1):=by
 exact gk Tryz.func128 rfl Tryz.ntmps128 (ws (gw 1 0 (Ah 1 0 (RW.c 0 h (u7 _) (λv1 gv1 h=>gw 5 1 (gn 2 0 (Wp.ret (rr h▸rq))))))))
end Go.TI
