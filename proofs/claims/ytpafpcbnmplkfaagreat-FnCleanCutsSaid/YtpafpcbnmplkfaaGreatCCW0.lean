/- That they compute it. No condition. -/
import Derived.Test.YtpafpcbnmplkfaaGreatCCS0
import Derived.Test.YtpafpcbnmplkfaaGreatProg
import Derived.Shelf.Abstract
import Derived.KernelRfl
set_option maxHeartbeats 4000000
set_option linter.unusedVariables false
set_option linter.unusedSimpArgs false
namespace Go.TI
open Go Go.Proofs
set_option maxRecDepth 100000
theorem mixed:Tryz.prog.follows .mixedOrders=true:=rfl
theorem AH4:qN Tryz.prog 106 3:=ACI Tryz.lays191 3
def c5 (x:Int):List TV:=[.int .u8 x]
theorem k5:∀x,(c5 x).length=1:=λ_=>rfl
def ot5 (l:List Int):TV:= .sl true 5 1 (AU c5 l)
def PS (l:List Int):TV:= .sl false 5 1 (AU c5 l)
theorem AFa (a:List Int) (r:Bool) (h:XH a=some r):AM Tryz.prog 5 [.sv (.one (PS a))] (B r) (rg 1):=by
 unfold XH at h;exact gk Tryz.func5 rfl Tryz.ntmps5 (ws (gw 1 0 (Ah 1 0 (RW.q (CR k5 a) (gn 2 0 (Wp.ret (rr h▸rq)))))))
def sH (a:List Int) (z1:Int) (z2:Int):St:=A7 [(0,(.one (PS a))),(3,(I z1)),(4,(I z2))] []
def sG (a:List Int) (z3:Int):St:=A7 [(0,(.one (PS a))),(3,(I z3))] []
def sF (a:List Int) (b:Int) (c:Int) (z4:Bool):St:=A7 [(0,(.one (PS a))),(3,(I b)),(4,(I c)),(15,(B z4))] []
theorem Yx (b:List Int) (r:BZ) (h:Qr b=some r):qO Tryz.prog 25 [.sv (.one (PS b))] [PS r.b_,i6 r.i_,i6 r.h_]:=by
 refine gkp Tryz.func25 rfl Tryz.ntmps25 (ws (AIR (pjk) (RW.nil (ws (Ah 1 0 (RW.q (CR k5 b) (gn 2 0 (Wp.seq (ws (gn 1 0 (BQ h [0,3,4] [] (λs=>(sH b s.1 s.2)) [0,3] [] (λs=>(sG b s)) DM ?_ ?_)))))))))))
 ·rintro⟨c,d⟩ o (h:Jv b c d=some o);refine Wp.seq (EA h [0,3,4,15] [] (λa=>(sF b c d a)) (λa h=>?_) (λj1 h=>?_))
  ·refine Ap (Ah 2 0 (RW.q (CR k5 b) (Ah 2 0 (AK 12 h (λh=>?_) (λh=>?_)))))
   ·exact gn 3 0 (jn h)
   exact gn 3 0 (jn h)
  refine wc h (λh=>?_) (λh=>?_)
  ·exact Wp.skip (Wp.seq (Wp.block (Ap (Ah 4 0 (C9 k5 h (λx1 gx1 h=>RW.q (CB k5 gx1 0) (gn 5 0 (Ap (gn 3 0 (jl h))))))))))
  exact Wp.exit (jv h)
 intro v1 h E hE;refine AW hE (ws (gn 5 0 ?_));cases h;exact Wp.ret ⟨.inr rfl,rsp 2 rfl (by kernel_rfl)⟩
theorem Jw (xC:BZ) (r:Int×BZ) (h:Ip xC=some r):AM Tryz.prog 26 [.ext [PS xC.b_,i6 xC.i_,i6 xC.h_]] (I r.1) (.ext [PS r.2.b_,i6 r.2.i_,i6 r.2.h_]::rg 0):=by
 refine gkx Tryz.func26 rfl Tryz.ntmps26 (ws (gw 1 0 (gn 10 0 (Wp.seq (Kt mixed (D3 13 (SW.nil (Wp.seq (Wp.seq (Kt mixed (D3 8 (SW.q (CR k5 xC.b_) (D3 1 (SW.nil (wc h (λh=>?_) (λh=>?_))))))))))))))))
 ·exact Wp.seq (Kt mixed (D3 9 (bd h λx1 gx1 h=>SW.q (Iz k5 gx1) (SW.q (CB k5 gx1 0) (D3 4 (SW.nil (Ap (gw 9 0 (gn 2 0 (Wp.ret (rr h▸rx)))))))))))
 exact Wp.skip (ws (gn 2 0 (Wp.ret (rr h▸rx))))
theorem Dm (xC:BZ) (xN:Int) (r:Int×BZ) (h:D7 xC xN=some r):AM Tryz.prog 27 [.ext [PS xC.b_,i6 xC.i_,i6 xC.h_],.sv (I xN)] (I r.1) (.ext [PS r.2.b_,i6 r.2.i_,i6 r.2.h_]::rg 1):=by
 refine gkx Tryz.func27 rfl Tryz.ntmps27 (ws (gn 1 0 (Wp.seq (ws (gn 2 0 (wc h (λh=>?_) (λh=>?_)))))))
 ·exact ws (gn 1 0 (Wp.ret (rr h▸rx)))
 refine Wp.skip (Wp.seq (ws (gn 2 0 (wc h (λh=>?_) (λh=>?_)))))
 ·exact ws (Ah 1 0 (FG h (Jw _) (λ_=>rfl) (λv1 gv1 h=>Ah 1 0 (bd h λx1 gx1 h=>RW.q (prm gx1) (gn 1 0 (Wp.ret (rr h▸rx)))))))
 exact Wp.skip (ws (Ah 1 0 (FG h (Jw _) (λ_=>rfl) (λv2 gv2 h=>gw 1 0 (Ah 1 0 (FG h (Jw _) (λ_=>rfl) (λv3 gv3 h=>gw 1 0 (Ah 1 0 (FG h (Jw _) (λ_=>rfl) (λv4 gv4 h=>gw 1 0 (Ah 1 0 (FG h (Jw _) (λ_=>rfl) (λv5 gv5 h=>gw 1 0 (Ah 11 0 (bd h λx2 gx2 h=>RW.q (prm gx2) (gn 1 0 (Wp.ret (rr h▸rx))))))))))))))))))
theorem BR (xX:Int) (a:Int) (b:Int) (r:Bool) (h:BY xX a b=some r):AM Tryz.prog 47 [.sv (I xX),.sv (I a),.sv (I b)] (B r) (rg 3):=by
 refine gk Tryz.func47 rfl Tryz.ntmps47 (ws (gw 1 0 (Ah 4 0 (AK 10 h (λh=>?_) (λh=>?_)))))
 ·exact gn 5 0 (Wp.ret (rr h▸rq))
 exact gn 5 0 (Wp.ret (rr h▸rq))
def qA (x:Leaf):List TV:=[i6 x.Is,ts x.Text]
theorem Dw:∀x,(qA x).length=2:=λ_=>rfl
theorem AHN:∀l,BP (AU qA l)=AU qA l:=DQ (λ_=>rfl)
theorem AH0:∀l,AO (AU qA l)=false:=KU (λ_=>rfl)
def AHZ (l:List Leaf):TV:= .sl true 144 2 (AU qA l)
def Ny (l:List Leaf):TV:= .sl false 144 2 (AU qA l)
def Ut (o:Bool) (x:Block):List TV:=[tb x.Bad,i6 x.Wear,.sl o 144 2 (AU qA x.Leaves)]
theorem B5 (o:Bool):∀x,(Ut o x).length=3:=λ_=>rfl
theorem CZ:∀l,BP (AU (Ut true) l)=AU (Ut false) l:=DQ (λx=>by simp only [Ut,BP,LG,AHN])
theorem QD:∀l,AO (AU (Ut true) l)=false:=KU (λx=>by simp [Ut,AO,B4,AH0])
def BW (l:List Block):TV:= .sl true 104 3 (AU (Ut true) l)
def Bz (l:List Block):TV:= .sl false 104 3 (AU (Ut false) l)
def LH (o:Bool) (x:Flash):List TV:=[.sl o 104 3 (AU (Ut o) x.Blocks)]
def dC (xN:Int) (z1:Int) (z2:List Block):St:=A7 [(0,(I xN)),(2,(pb 2)),(4,(pb 4)),(5,(I z1))] [(.box 2,[BW []]),(.box 4,[BW z2])]
def dB (z3:List Block):St:=A7 [(2,(pb 2)),(4,(pb 4))] [(.box 2,[BW []]),(.box 4,[BW z3])]
theorem mT (xN:Int) (r:Flash×Bool) (h:OO xN=some r):AM Tryz.prog 96 [.sv (I xN)] (.tup [(.agg (LH true r.1)),(B r.2)]) (rg 1):=by
 refine gk Tryz.func96 rfl Tryz.ntmps96 (ws (gn 2 0 (Wp.seq (ws (Ah 1 0 (RW.c 0 h (BR _ _ _) (λv1 gv1 h=>gn 1 0 (wc h (λh=>?_) (λh=>?_)))))))))
 ·exact ws (gn 3 0 (Wp.ret (rr h▸rq)))
 refine Wp.skip (ws (gn 3 0 (Wp.seq (ws (gn 1 0 (BQ h [0,2,4,5] [.box 2,.box 4] (λs=>(dC xN s.1 s.2)) [2,4] [.box 2,.box 4] (λs=>(dB s)) DM ?_ ?_))))))
 ·rintro⟨b,a⟩ o (h:IM xN b a=some o);refine Wp.seq (ws (gn 3 0 (wc h (λh=>?_) (λh=>?_))))
  ·exact Wp.skip (Wp.seq (Wp.block (Dr [5,7] mixed (λ_ _=>nP) (Bf [0,1] 0 (Bp 2 (bd h λq1 gq1 h=>L5 (fmk Dw (Leaf.mk 0 (bs [])) gq1) (Bf [3,4] 0 (Bp 5 (bd h λq2 gq2 h=>L5 (pX (B5 true) a [(Block.mk false 0 q1)] gq2) (Bf [6,7] 0 (Bc (Ap (gn 3 0 (jl h))))))))))))))
  exact Wp.exit (jv h)
 intro v2 h E hE;exact AW hE (ws (gn 3 0 (Wp.ret (rr h▸rq))))
theorem r9 (xX:Leaf) (r:Bool) (h:Mm xX=some r):AM Tryz.prog 89 [.sv (.agg (qA xX))] (B r) (rg 1):=by
 refine gk Tryz.func89 rfl Tryz.ntmps89 (ws (gn 2 0 (Wp.seq (ws (gn 2 0 (Wp.block (ws (gn 2 0 (wc h (λh=>?_) (λh=>?_))))))))))
 ·exact ws (gn 4 0 (Wp.ret (rr h▸rq)))
 refine ws (gn 2 0 (wc h (λh=>?_) (λh=>?_)))
 ·exact ws (Ah 3 0 (RW.c 0 h (BR _ _ _) (λv1 gv1 h=>gn 1 0 (Wp.ret (rr h▸rq)))))
 refine ws (gn 2 0 (wc h (λh=>?_) (λh=>?_)))
 ·exact ws (gn 5 0 (Wp.ret (rr h▸rq)))
 exact Wp.skip (ws (gn 1 0 (Wp.ret (rr h▸rq))))
def mS (xF:Flash) (z1:Int):St:=A7 [(1,(pb 1)),(3,(I z1))] [(.box 1,[Bz xF.Blocks])]
def mR (xF:Flash):St:=A7 [(1,(pb 1))] [(.box 1,[Bz xF.Blocks])]
def mQ (xF:Flash) (a:Int) (x1:Block) (z2:Bool):St:=A7 [(1,(pb 1)),(3,(I a)),(4,(pb 4)),(27,(B z2))] [(.box 1,[Bz xF.Blocks]),(.box 4,[tb x1.Bad,i6 x1.Wear,Ny x1.Leaves])]
def mP (xF:Flash) (a:Int) (x1:Block) (z3:Int):St:=A7 [(1,(pb 1)),(3,(I a)),(4,(pb 4)),(5,(I z3))] [(.box 1,[Bz xF.Blocks]),(.box 4,[tb x1.Bad,i6 x1.Wear,Ny x1.Leaves])]
def mO (xF:Flash) (a:Int):St:=A7 [(1,(pb 1)),(3,(I a))] [(.box 1,[Bz xF.Blocks])]
def mN (xF:Flash) (a:Int) (x1:Block) (b:Int) (z4:Bool):St:=A7 [(1,(pb 1)),(3,(I a)),(4,(pb 4)),(5,(I b)),(64,(B z4))] [(.box 1,[Bz xF.Blocks]),(.box 4,[tb x1.Bad,i6 x1.Wear,Ny x1.Leaves])]
theorem Nt (xF:Flash) (r:Bool) (h:Gc xF=some r):AM Tryz.prog 50 [.sv (.agg (LH false xF))] (B r) (rg 1):=by
 refine gk Tryz.func50 rfl Tryz.ntmps50 (ws (gn 2 0 (Wp.seq (ws (gn 1 0 (DA h [1,3] [.box 1] (λs=>(mS xF s)) [1] [.box 1] (λ_=>(mR xF)) DM ?_ ?_))))))
 ·rintro b o (h:Ej xF b=some o) hk1;refine Wp.seq (ws (Ah 3 0 (RW.q (CR (B5 false) xF.Blocks) (gn 1 0 (wc h (λh=>?_) (λh=>?_))))))
  ·refine Wp.skip (Wp.seq (Wp.block (ws (Ah 3 0 (C9 (B5 false) h (λx1 gx1 h=>RW.q (L9 (B5 false) gx1 0 3) (gn 2 0 (Wp.seq (EA h [1,3,4,27] [.box 1,.box 4] (λa=>(mQ xF b x1 a)) (λa h=>?_) (λj1 h=>?_))))))))))
   ·refine Ap (Ah 2 0 (RW.q (CR Dw x1.Leaves) (Ah 2 0 (AK 22 h (λh=>?_) (λh=>?_)))))
    ·exact gn 5 0 (jn h)
    exact Ah 2 0 (RW.c 0 h (BR _ _ _) (λv1 gv1 h=>gn 2 0 (jn h)))
   refine wc h (λh=>?_) (λh=>?_)
   ·exact ws (gn 1 0 (Wp.ret (rr (jo h hk1)▸rq)))
   refine Wp.skip (ws (gn 1 0 (DA h [1,3,4,5] [.box 1,.box 4] (λs=>(mP xF b x1 s)) [1,3] [.box 1] (λ_=>(mO xF b)) DM ?_ ?_)))
   ·rintro d o (h:Ei x1 d=some o) hk2;refine Wp.seq (ws (Ah 3 0 (RW.q (CR Dw x1.Leaves) (gn 1 0 (wc h (λh=>?_) (λh=>?_))))))
    ·refine Wp.skip (Wp.seq (Wp.block (EA h [1,3,4,5,64] [.box 1,.box 4] (λa=>(mN xF b x1 d a)) (λa h=>?_) (λj2 h=>?_))))
     ·refine Ap (Ah 3 0 (C9 Dw h (λx2 gx2 h=>RW.q (L9 Dw gx2 0 2) (RW.c 0 h (r9 _) (λv2 gv2 h=>Ah 2 0 (AK 42 h (λh=>?_) (λh=>?_)))))))
      ·exact gn 22 0 (jn h)
      refine Ah 3 0 (AK 45 h (λh=>?_) (λh=>?_))
      ·refine Ah 4 0 (C9 Dw h (λx3 gx3 h=>RW.q (DB Dw gx3 0 0) (RW.q (CB Dw gx3 0) (Ah 3 0 (AK 55 h (λh=>?_) (λh=>?_))))))
       ·exact Ah 3 0 (C9 Dw h (λx4 gx4 h=>RW.q (DB Dw gx4 0 0) (RW.q (CB Dw gx4 0) (gn 3 0 (jn h)))))
       exact gn 9 0 (jn h)
      exact gn 19 0 (jn h)
     refine wc h (λh=>?_) (λh=>?_)
     ·exact ws (gn 1 0 (Wp.ret (rr (jo (jo h hk2) hk1)▸rq)))
     exact Wp.skip (Ap (gn 3 0 (jl h)))
    exact Wp.exit (jx h)
   intro v3 h E hE;exact AW hE (Ap (gn 3 0 (jl h)))
  exact Wp.exit (jx h)
 intro v4 h E hE;exact AW hE (ws (Ah 2 0 (RW.q (CR (B5 false) xF.Blocks) (RW.c 0 h (BR _ _ _) (λv5 gv5 h=>gn 1 0 (Wp.ret (rr h▸rq)))))))
def cL (xF:Flash) (xB:Int) (a:Int) (z1:Bool):St:=A7 [(1,(I xB)),(2,(I a)),(3,(pb 3)),(40,(B z1))] [(.box 3,[Bz xF.Blocks])]
theorem mB (xF:Flash) (xB:Int) (b:Int) (r:ByteArray×Bool) (h:OL xF xB b=some r):AM Tryz.prog 73 [.sv (.agg (LH false xF)),.sv (I xB),.sv (I b)] (.tup [(Y r.1),(B r.2)]) (rg 3):=by
 refine gk Tryz.func73 rfl Tryz.ntmps73 (ws (gn 3 0 (Wp.seq (EA h [1,2,3,40] [.box 3] (λa=>(cL xF xB b a)) (λa h=>?_) (λj1 h=>?_)))))
 ·refine Ap (Ah 3 0 (RW.q (CR (B5 false) xF.Blocks) (Ah 1 0 (RW.c 0 h (BR _ _ _) (λv1 gv1 h=>Ah 2 0 (AK 15 h (λh=>?_) (λh=>?_)))))))
  ·exact gn 25 0 (jn h)
  refine Ah 4 0 (C9 (B5 false) h (λx1 gx1 h=>RW.q (DB (B5 false) gx1 0 2) (RW.q (CB (B5 false) gx1 2) (RW.q (CR Dw x1.Leaves) (Ah 1 0 (RW.c 0 h (BR _ _ _) (λv2 gv2 h=>Ah 3 0 (AK 28 h (λh=>?_) (λh=>?_)))))))))
  ·exact gn 12 0 (jn h)
  exact Ah 3 0 (C9 (B5 false) h (λx2 gx2 h=>RW.q (DB (B5 false) gx2 0 2) (RW.q (CB (B5 false) gx2 2) (Ah 1 0 (C9 Dw h (λx3 gx3 h=>RW.q (DB Dw gx3 0 0) (RW.q (CB Dw gx3 0) (gn 2 0 (jn h)))))))))
 refine wc h (λh=>?_) (λh=>?_)
 ·exact ws (gn 2 0 (Wp.ret (rr h▸rq)))
 exact Wp.skip (ws (Ah 3 0 (C9 (B5 false) h (λx4 gx4 h=>RW.q (DB (B5 false) gx4 0 2) (RW.q (CB (B5 false) gx4 2) (Ah 1 0 (C9 Dw h (λx5 gx5 h=>RW.q (DB Dw gx5 0 1) (RW.q (CB Dw gx5 1) (gn 2 0 (Wp.ret (rr h▸rq))))))))))))
def kW (a:ByteArray) (z1:Int) (z2:Int):St:=A7 [(0,(.one (.int .u32 z1))),(1,(Y a)),(5,(I z2))] []
def kV (z3:Int):St:=A7 [(0,(.one (.int .u32 z3)))] []
def kT (a:ByteArray) (b:Int) (z4:Int) (z5:Int):St:=A7 [(0,(.one (.int .u32 z4))),(1,(Y a)),(5,(I b)),(6,(I z5))] []
def kS (a:ByteArray) (b:Int) (z6:Int):St:=A7 [(0,(.one (.int .u32 z6))),(1,(Y a)),(5,(I b))] []
theorem sL (b:Int) (a:ByteArray) (r:Int) (h:Rn b a=some r):AM Tryz.prog 201 [.sv (.one (.int .u32 b)),.sv (Y a)] (.one (.int .u32 r)) (rg 2):=by
 refine gk Tryz.func201 rfl Tryz.ntmps201 (ws (gn 1 0 (Wp.seq (ws (gn 1 0 (BQ h [0,1,5] [] (λs=>(kW a s.1 s.2)) [0] [] (λs=>(kV s)) DM ?_ ?_))))))
 ·rintro⟨c,d⟩ o (h:JS a c d=some o);refine Wp.seq (ws (gn 4 0 (wc h (λh=>?_) (λh=>?_))))
  ·refine Wp.skip (Wp.seq (Wp.block (ws (Ah 3 0 (bd h λx1 gx1 h=>RW.q (xK gx1) (gw 3 0 (gn 1 0 (BQ h [0,1,5,6] [] (λs=>(kT a d s.1 s.2)) [0,1,5] [] (λs=>(kS a d s)) DM ?_ ?_))))))))
   ·rintro⟨e,f⟩ o (h:It e f=some o);refine Wp.seq (ws (gn 2 0 (wc h (λh=>?_) (λh=>?_))))
    ·refine Wp.skip (Wp.seq (Wp.block (ws (gw 4 0 (gw 3 0 (gn 1 0 (wc h (λh=>?_) (λh=>?_))))))))
     ·exact Ap (gn 3 0 (Ap (gn 3 0 (jl h))))
     exact Wp.skip (Ap (gn 3 0 (jl h)))
    exact Wp.exit (jv h)
   intro v1 h E hE;exact AW hE (Ap (gn 3 0 (jl h)))
  exact Wp.exit (jv h)
 intro v2 h E hE;exact AW hE (ws (gn 2 0 (Wp.ret (rr h▸rq))))
theorem gB (a:ByteArray) (r:Int) (h:Nq a=some r):AM Tryz.prog 182 [.sv (Y a)] (.one (.int .u32 r)) (rg 1):=by
 exact gk Tryz.func182 rfl Tryz.ntmps182 (ws (gw 1 0 (Ah 1 0 (RW.c 0 h (sL _ _) (λv1 gv1 h=>gn 1 0 (Wp.ret (rr h▸rq)))))))
theorem VQ (xX:Int) (r:ByteArray) (h:K2 xX=some r):AM Tryz.prog 181 [.sv (.one (.int .u32 xX))] (Y r) (rg 1):=by
 unfold K2 at h;exact gk Tryz.func181 rfl Tryz.ntmps181 (ws (gw 1 0 (Ah 12 0 (RW.q (xO (f:=c5) (λ_=>rfl) [(IntKind.u8.wrap (Int.fdiv xX (2^(min (24:Int).toNat IntKind.u32.bits)))),(IntKind.u8.wrap (Int.fdiv xX (2^(min (16:Int).toNat IntKind.u32.bits)))),(IntKind.u8.wrap (Int.fdiv xX (2^(min (8:Int).toNat IntKind.u32.bits)))),(IntKind.u8.wrap xX)]) (gn 1 0 (Wp.ret (rr h▸rq)))))))
def bV (a:ByteArray) (z1:Bool):St:=A7 [(0,(Y a)),(4,(I (sb (FL a) 4))),(24,(B z1))] []
theorem kI (b:ByteArray) (r:ByteArray×Bool) (h:K3 b=some r):AM Tryz.prog 135 [.sv (Y b)] (.tup [(Y r.1),(B r.2)]) (rg 1):=by
 refine gk Tryz.func135 rfl Tryz.ntmps135 (ws (gw 2 0 (gn 4 0 (Wp.seq (EA h [0,4,24] [] (λa=>(bV b a)) (λa h=>?_) (λj1 h=>?_))))))
 ·refine Dr [] mixed (λ_ _=>nP) (Bf [0,1,2] 0 (Sk 10 h (λh=>?_) (λh=>?_)))
  ·exact Bf [3,4,5,6,7,8,9,10,11,12,13,14,15,16] 0 (Bc (jn h))
  refine Bf [3,4,5,6] 0 (Sk 14 h (λh=>?_) (λh=>?_))
  ·exact Bf [7,8,9,10,11,12,13,14,15,16] 0 (Bc (jn h))
  exact Bf [7,8] 0 (bd h λx1 gx1 h=>KW.q 9 (Vk gx1) (Bf [10,11] 0 (bd h λx2 gx2 h=>KW.q 12 (Vk gx2) (Bp 13 (KB.c 0 h (gB _) (λv1 gv1 h=>Bp 14 (KB.c 0 h (VQ _) (λv2 gv2 h=>Bf [15,16] 0 (Bc (jn h))))))))))
 refine wc h (λh=>?_) (λh=>?_)
 ·exact ws (gn 2 0 (Wp.ret (rr h▸rq)))
 exact Wp.skip (ws (Ah 2 0 (bd h λx3 gx3 h=>RW.q (Vk gx3) (gn 2 0 (Wp.ret (rr h▸rq))))))
def sD (z1:Int) (z2:List Int):St:=A7 [(0,(I z1)),(3,(.one (ot5 z2)))] []
def sC (z3:Int) (z4:List Int):St:=A7 [(0,(I z3)),(3,(.one (ot5 z4)))] []
theorem Jf (xN:Int) (r:ByteArray) (h:Hk xN=some r):AM Tryz.prog 140 [.sv (I xN)] (Y r) (rg 1):=by
 refine gk Tryz.func140 rfl Tryz.ntmps140 (ws (gw 1 0 (gn 2 2 (sl1 h [0,3] [] (λs=>(sD s.1 s.2)) [0,3] [] (λs=>(sC s.1 s.2)) ?_ (λv1 h=>?_)))))
 ·rintro⟨b,a⟩ o (h:HQ b a=some o);refine Wp.seq (ws (gn 2 0 (wc h (λh=>?_) (λh=>?_))))
  ·exact Wp.skip (Wp.block (ws (Ah 6 0 (bd h λq1 gq1 h=>CI (Dk k5 (λ_=>rfl) a gq1) (gn 1 1 (Ap (gn 3 0 (jl h))))))))
  exact Wp.exit (jv h)
 exact ws (Ah 4 0 (bd h λq2 gq2 h=>CI (Dk k5 (λ_=>rfl) v1.2 gq2) (RW.q (xO (f:=c5) (λ_=>rfl) q2) (gn 1 0 (Wp.ret (rr h▸rq))))))
def lW (a:ByteArray) (b:Int) (z1:Int) (z2:Int) (z3:Int):St:=A7 [(0,(Y a)),(1,(I b)),(7,(I z1)),(8,(I z2)),(9,(I z3))] []
def lT:St:=A7 [] []
def lS (b:ByteArray) (c:Int) (d:Int) (a:Int) (e:Int) (z4:Bool):St:=A7 [(0,(Y b)),(1,(I c)),(7,(I d)),(8,(I a)),(9,(I e)),(25,(B z4))] []
def lP (b:Int) (a:Int) (c:Int) (x1:Int) (z5:Bool):St:=A7 [(7,(I (ad b (ml (Int.tmod (IntKind.i64.wrap x1) 128) a)))),(9,(I c)),(54,(B z5))] []
theorem sS (b:ByteArray) (e:Int) (r:Int×Int×Bool) (h:Jx b e=some r):AM Tryz.prog 183 [.sv (Y b),.sv (I e)] (.tup [(I r.1),(I r.2.1),(B r.2.2)]) (rg 2):=by
 refine gk Tryz.func183 rfl Tryz.ntmps183 (ws (gn 3 0 (Wp.seq (ws (Ah 3 0 (RW.c 0 h (BR _ _ _) (λv1 gv1 h=>gn 1 0 (wc h (λh=>?_) (λh=>?_)))))))))
 ·exact ws (gn 3 0 (Wp.ret (rr h▸rq)))
 refine Wp.skip (ws (gw 1 0 (gn 1 0 (Wp.seq (ws (gn 2 0 (DA h [0,1,7,8,9] [] (λs=>(lW b e s.1 s.2.1 s.2.2)) [] [] (λ_=>lT) DM ?_ ?_)))))))
 ·rintro⟨f,d,g⟩ o (h:DK b e f d g=some o) hk1;refine Wp.seq (EA h [0,1,7,8,9,25] [] (λa=>(lS b e f d g a)) (λa h=>?_) (λj1 h=>?_))
  ·refine Ap (Ah 5 0 (AK 20 h (λh=>?_) (λh=>?_)))
   ·exact gn 5 0 (jn h)
   exact gn 5 0 (jn h)
  refine wc h (λh=>?_) (λh=>?_)
  ·refine Wp.skip (Wp.seq (Wp.block (ws (Ah 3 0 (bd h λx1 gx1 h=>RW.q (xK gx1) (gw 6 0 (gw 3 0 (Ah 2 0 (bd h λx2 gx2 h=>RW.q (xK gx2) (gn 1 0 (wc h (λh=>?_) (λh=>?_))))))))))))
   ·refine Wp.seq (EA h [7,9,54] [] (λa=>(lP f d g x1 a)) (λa h=>?_) (λj2 h=>?_))
    ·refine Dr [] mixed (λ_ _=>nP) (Bf [0,1,2] 0 (Sk 45 h (λh=>?_) (λh=>?_)))
     ·exact Bf [3,5,6,7,8,9,4,10,11] 0 (Bc (jn h))
     exact Bf [3,5,6,7,8] 0 (bd h λx3 gx3 h=>KW.q 9 (Vk gx3) (Bp 4 (KB.c 0 h (Jf _) (λv2 gv2 h=>Bf [10,11] 0 (Bc (jn h))))))
    refine wc h (λh=>?_) (λh=>?_)
    ·exact ws (gn 3 0 (Wp.ret (rr (jo h hk1)▸rq)))
    exact Wp.skip (ws (gn 6 0 (Wp.ret (rr (jo h hk1)▸rq))))
   exact Wp.skip (Ap (gn 3 0 (jl h)))
  exact Wp.exit (jx h)
 intro v3 h E hE;exact AW hE (ws (gn 3 0 (Wp.ret (rr h▸rq))))
def AIb (x:D0):List TV:=[ts x.text_,i6 x.at_,tb x.bad_]
def r8 (xC:D0) (v1:Int×Int×Bool) (z1:Bool):St:=A7 [(0,(px 0)),(3,(I v1.1)),(4,(I v1.2.1)),(26,(B z1))] [(.ext 0,[ts xC.text_,i6 xC.at_,tb xC.bad_])]
theorem K1 (xC:D0) (r:Int×D0) (h:Du xC=some r):AM Tryz.prog 136 [.ext (AIb xC)] (I r.1) (.ext (AIb r.2)::rg 0):=by
 refine gkx Tryz.func136 rfl Tryz.ntmps136 (ws (gn 1 0 (Wp.seq (Dr [] mixed (λ_ _=>nP) (Bf [0,1,2,3,4,5,6,7] 0 (Bp 8 (KB.c 0 h (sS _ _) (λv1 gv1 h=>Bf [9] 1 (Hs 10 (Hs 11 (Hs 12 (Bf [13,14,15] 0 (Bc (Wp.seq (EA h [0,3,4,26] [.ext 0] (λa=>(r8 xC v1 a)) (λa h=>?_) (λj1 h=>?_))))))))))))))))
 ·refine Ap (Ah 5 0 (AK 23 h (λh=>?_) (λh=>?_)))
  ·exact gn 3 0 (jn h)
  exact gn 3 0 (jn h)
 refine wc h (λh=>?_) (λh=>?_)
 ·exact ws (gw 4 0 (gn 1 0 (Wp.ret (rr h▸rx))))
 exact Wp.skip (ws (gw 5 0 (gn 2 0 (Wp.ret (rr h▸rx)))))
def c65 (x:Page):List TV:=[i6 x.Kind,i6 x.Seq,i6 x.Tx,i6 x.Part,i6 x.Count,ts x.Text]
theorem k65:∀x,(c65 x).length=6:=λ_=>rfl
def Vl (l:List Page):TV:= .sl true 65 6 (AU c65 l)
def tB (xP:Page) (z1:Bool):St:=A7 [(1,(pb 1)),(39,(B z1))] [(.box 1,[i6 xP.Kind,i6 xP.Seq,i6 xP.Tx,i6 xP.Part,i6 xP.Count,ts xP.Text])]
theorem zJ (xP:Page) (r:Bool) (h:JW xP=some r):AM Tryz.prog 137 [.sv (.agg (c65 xP))] (B r) (rg 1):=by
 refine gk Tryz.func137 rfl Tryz.ntmps137 (ws (gn 2 0 (Wp.seq (EA h [1,39] [.box 1] (λa=>(tB xP a)) (λa h=>?_) (λj1 h=>?_)))))
 ·refine Ap (Ah 2 0 (RW.c 0 h (BR _ _ _) (λv1 gv1 h=>Ah 2 0 (AK 7 h (λh=>?_) (λh=>?_)))))
  ·exact gn 32 0 (jn h)
  refine Ah 2 0 (RW.c 0 h (BR _ _ _) (λv2 gv2 h=>Ah 3 0 (AK 13 h (λh=>?_) (λh=>?_))))
  ·exact gn 26 0 (jn h)
  refine Ah 2 0 (RW.c 0 h (BR _ _ _) (λv3 gv3 h=>Ah 3 0 (AK 19 h (λh=>?_) (λh=>?_))))
  ·exact gn 20 0 (jn h)
  refine Ah 2 0 (RW.c 0 h (BR _ _ _) (λv4 gv4 h=>Ah 3 0 (AK 25 h (λh=>?_) (λh=>?_))))
  ·exact gn 14 0 (jn h)
  refine Ah 5 0 (RW.c 0 h (BR _ _ _) (λv5 gv5 h=>Ah 3 0 (AK 34 h (λh=>?_) (λh=>?_))))
  ·exact gn 5 0 (jn h)
  exact gn 5 0 (jn h)
 refine wc h (λh=>?_) (λh=>?_)
 ·exact ws (gn 1 0 (Wp.ret (rr h▸rq)))
 refine Wp.skip (ws (Ah 4 0 (AK 43 h (λh=>?_) (λh=>?_))))
 ·exact gn 5 0 (Wp.ret (rr h▸rq))
 exact gn 5 0 (Wp.ret (rr h▸rq))
theorem VP (xN:Int) (r:ByteArray) (h:Js xN=some r):AM Tryz.prog 139 [.sv (I xN)] (Y r) (rg 1):=by
 unfold Js at h;exact gk Tryz.func139 rfl Tryz.ntmps139 (ws (gw 1 0 (Ah 3 0 (RW.q (xO (f:=c5) (λ_=>rfl) [(IntKind.u8.wrap xN)]) (gn 1 0 (Wp.ret (rr h▸rq)))))))
theorem zD (a:ByteArray) (r:ByteArray×Bool) (h:JT a=some r):AM Tryz.prog 138 [.sv (Y a)] (.tup [(Y r.1),(B r.2)]) (rg 1):=by
 refine gk Tryz.func138 rfl Tryz.ntmps138 (ws (gn 2 0 (Wp.seq (ws (gn 3 0 (wc h (λh=>?_) (λh=>?_)))))))
 ·exact ws (gn 2 0 (Wp.ret (rr h▸rq)))
 exact Wp.skip (ws (Ah 2 0 (RW.c 0 h (gB _) (λv1 gv1 h=>RW.c 0 h (VQ _) (λv2 gv2 h=>bd h λx1 gx1 h=>RW.q (Ff gx1) (gn 2 0 (Wp.ret (rr h▸rq))))))))
theorem T3 (xP:Page) (r:ByteArray×Bool) (h:E5 xP=some r):AM Tryz.prog 76 [.sv (.agg (c65 xP))] (.tup [(Y r.1),(B r.2)]) (rg 1):=by
 refine gk Tryz.func76 rfl Tryz.ntmps76 (ws (gn 3 0 (Wp.seq (ws (Ah 1 0 (RW.c 0 h (zJ _) (λv1 gv1 h=>gn 1 0 (wc h (λh=>?_) (λh=>?_)))))))))
 ·exact ws (gn 2 0 (Wp.ret (rr h▸rq)))
 refine Wp.skip (Wp.seq (Dr [] mixed (λ_ _=>nP) (Bf [0,1,3,4,7,8,11,12,15,16,19,20] 0 (Bp 2 (KB.c 0 h (VP _) (λv2 gv2 h=>Bp 5 (KB.c 0 h (Jf _) (λv3 gv3 h=>bd h λx1 gx1 h=>KW.q 6 (Ff gx1) (Bp 9 (KB.c 0 h (Jf _) (λv4 gv4 h=>bd h λx2 gx2 h=>KW.q 10 (Ff gx2) (Bp 13 (KB.c 0 h (Jf _) (λv5 gv5 h=>bd h λx3 gx3 h=>KW.q 14 (Ff gx3) (Bp 17 (KB.c 0 h (Jf _) (λv6 gv6 h=>bd h λx4 gx4 h=>KW.q 18 (Ff gx4) (bd h λx5 gx5 h=>KW.q 21 (Ff gx5) (Bp 22 (KB.c 0 h (zD _) (λv7 gv7 h=>Hs 23 (Hs 24 (Bf [25,26] 0 (Bc ?_))))))))))))))))))))))));exact Wp.ret (rr h▸rq)
def cK (xT:ByteArray) (v1:ByteArray×Bool) (z1:Bool):St:=A7 [(0,(Y xT)),(2,(pb 2)),(4,(Y v1.1)),(6,(pb 24))] [(.box 2,[i6 0,i6 0,i6 0,i6 0,i6 0,ts (bs [])]),(.box 24,[ts v1.1,i6 1,tb z1])]
def cJ (v2:Int×D0) (v3:Int×D0) (v4:Int×D0) (v5:Int×D0) (x1:Int) (x2:ByteArray) (z2:Bool):St:=A7 [(2,(pb 2)),(7,(pb 7)),(64,(B z2))] [(.box 2,[i6 0,i6 0,i6 0,i6 0,i6 0,ts (bs [])]),(.box 7,[i6 (IntKind.i64.wrap x1),i6 v2.1,i6 v3.1,i6 v4.1,i6 v5.1,ts x2])]
theorem mA (xT:ByteArray) (r:Page×Bool) (h:F7 xT=some r):AM Tryz.prog 74 [.sv (Y xT)] (.tup [(.agg (c65 r.1)),(B r.2)]) (rg 1):=by
 refine gk Tryz.func74 rfl Tryz.ntmps74 (ws (gw 2 0 (Ah 1 0 (RW.c 0 h (kI _) (λv1 gv1 h=>gn 5 1 (EA h [0,2,4,6] [.box 2,.box 24] (λa=>(cK xT v1 a)) (λa h=>?_) (λj1 h=>?_)))))))
 ·refine Ap (Ah 4 0 (AK 18 h (λh=>?_) (λh=>?_)))
  ·exact gn 7 0 (jn h)
  exact gn 7 0 (jn h)
 refine ws (Ah 1 0 (FG h (K1 _) (λ_=>rfl) (λv2 gv2 h=>gw 3 0 (Ah 1 0 (FG h (K1 _) (λ_=>rfl) (λv3 gv3 h=>gw 2 0 (Ah 1 0 (FG h (K1 _) (λ_=>rfl) (λv4 gv4 h=>gw 2 0 (Ah 1 0 (FG h (K1 _) (λ_=>rfl) (λv5 gv5 h=>gn 2 0 (Wp.seq (ws (gn 4 0 (wc h (λh=>?_) (λh=>?_)))))))))))))))))
 ·exact ws (gn 3 0 (Wp.ret (rr h▸rq)))
 refine Wp.skip (ws (Ah 1 0 (bd h λx1 gx1 h=>RW.q (xK gx1) (gw 3 0 (Ah 5 0 (bd h λx2 gx2 h=>RW.q (Vk gx2) (gw 2 0 (Ah 1 0 (RW.c 0 h (T3 _) (λv6 gv6 h=>gn 5 1 (Wp.seq (EA h [2,7,64] [.box 2,.box 7] (λa=>(cJ v2 v3 v4 v5 x1 x2 a)) (λa h=>?_) (λj2 h=>?_)))))))))))))
 ·refine Ap (Ah 3 0 (AK 60 h (λh=>?_) (λh=>?_)))
  ·exact gn 4 0 (jn h)
  exact gn 4 0 (jn h)
 refine wc h (λh=>?_) (λh=>?_)
 ·exact ws (gn 3 0 (Wp.ret (rr h▸rq)))
 exact Wp.skip (ws (gn 3 0 (Wp.ret (rr h▸rq))))
def c67 (x:As):List TV:=[i6 x.Block,i6 x.Leaf,i6 x.Page.Kind,i6 x.Page.Seq,i6 x.Page.Tx,i6 x.Page.Part,i6 x.Page.Count,ts x.Page.Text]
theorem Eo:∀x,(c67 x).length=8:=λ_=>rfl
theorem W3:∀l,BP (AU c67 l)=AU c67 l:=DQ (λ_=>rfl)
def Hg (l:List As):TV:= .sl true 67 8 (AU c67 l)
def FQ (l:List As):TV:= .sl false 67 8 (AU c67 l)
def lN (xF:Flash) (z1:List As) (z2:Int):St:=A7 [(1,(pb 1)),(3,(.one (Hg z1))),(4,(I z2))] [(.box 1,[Bz xF.Blocks])]
def lM (z3:List As):St:=A7 [(3,(.one (Hg z3)))] []
def lL (xF:Flash) (a:Int) (z4:List As) (z5:Int):St:=A7 [(1,(pb 1)),(3,(.one (Hg z4))),(4,(I a)),(5,(I z5))] [(.box 1,[Bz xF.Blocks])]
def lK (xF:Flash) (a:Int) (z6:List As):St:=A7 [(1,(pb 1)),(3,(.one (Hg z6))),(4,(I a))] [(.box 1,[Bz xF.Blocks])]
def lJ (xF:Flash) (b:Int) (a:List As) (c:Int) (v2:Page×Bool) (z7:Bool):St:=A7 [(1,(pb 1)),(3,(.one (Hg a))),(4,(I b)),(5,(I c)),(8,(pb 8)),(47,(B z7))] [(.box 1,[Bz xF.Blocks]),(.box 8,[i6 v2.1.Kind,i6 v2.1.Seq,i6 v2.1.Tx,i6 v2.1.Part,i6 v2.1.Count,ts v2.1.Text])]
def lI (z8:List As) (z9:Int):St:=A7 [(3,(.one (Hg z8))),(10,(I z9))] []
def lH (z10:List As):St:=A7 [(3,(.one (Hg z10)))] []
def lG (a:Int) (z11:List As) (z12:Int):St:=A7 [(3,(.one (Hg z11))),(10,(I a)),(11,(I z12))] []
def lF (a:Int) (z13:List As):St:=A7 [(3,(.one (Hg z13))),(10,(I a))] []
def cE (b:Int) (a:List As) (c:Int) (z14:Bool):St:=A7 [(3,(.one (Hg a))),(10,(I b)),(11,(I c)),(79,(B z14))] []
theorem HS (xF:Flash) (r:List As) (h:FZ xF=some r):AM Tryz.prog 32 [.sv (.agg (LH false xF))] (.one (Hg r)) (rg 1):=by
 refine gk Tryz.func32 rfl Tryz.ntmps32 (ws (gw 2 0 (gn 2 2 (Wp.seq (ws (gn 1 0 (BQ h [1,3,4] [.box 1] (λs=>(lN xF s.1 s.2)) [3] [] (λs=>(lM s)) DM ?_ ?_)))))))
 ·rintro⟨i,d⟩ o (h:EC xF i d=some o);refine Wp.seq (ws (Ah 3 0 (RW.q (CR (B5 false) xF.Blocks) (gn 1 0 (wc h (λh=>?_) (λh=>?_))))))
  ·refine Wp.skip (Wp.seq (Wp.block (ws (gn 1 0 (BQ h [1,3,4,5] [.box 1] (λs=>(lL xF d s.1 s.2)) [1,3,4] [.box 1] (λs=>(lK xF d s)) DM ?_ ?_)))))
   ·rintro⟨b,j⟩ o (h:Fd xF d b j=some o);refine Wp.seq (ws (Ah 4 0 (C9 (B5 false) h (λx1 gx1 h=>RW.q (DB (B5 false) gx1 0 2) (RW.q (CB (B5 false) gx1 2) (RW.q (CR Dw x1.Leaves) (gn 1 0 (wc h (λh=>?_) (λh=>?_)))))))))
    ·refine Wp.skip (Wp.seq (Wp.block (ws (Ah 3 0 (RW.c 0 h (mB _ _ _) (λv1 gv1 h=>gw 5 1 (Ah 1 0 (RW.c 0 h (mA _) (λv2 gv2 h=>gn 6 1 (EA h [1,3,4,5,8,47] [.box 1,.box 8] (λa=>(lJ xF d b j v2 a)) (λa h=>?_) (λj1 h=>?_)))))))))))
     ·refine Ap (Ah 2 0 (AK 45 h (λh=>?_) (λh=>?_)))
      ·exact gn 2 0 (jn h)
      exact gn 2 0 (jn h)
     refine wc h (λh=>?_) (λh=>?_)
     ·exact Ap (Ah 6 0 (bd h λq1 gq1 h=>CI (Dk Eo (λ_=>rfl) b gq1) (gn 1 1 (Ap (gn 3 0 (jl h))))))
     exact Wp.skip (Ap (gn 3 0 (jl h)))
    exact Wp.exit (jv h)
   intro v3 h E hE;exact AW hE (Ap (gn 3 0 (jl h)))
  exact Wp.exit (jv h)
 intro v4 h E hE;refine AW hE (Wp.seq (ws (gn 1 0 (BQ h [3,10] [] (λs=>(lI s.1 s.2)) [3] [] (λs=>(lH s)) DM ?_ ?_))))
 ·rintro⟨e,g⟩ o (h:JV e g=some o);refine Wp.seq (ws (Ah 2 0 (RW.q (CR Eo e) (gn 1 0 (wc h (λh=>?_) (λh=>?_))))))
  ·refine Wp.skip (Wp.seq (Wp.block (ws (gn 2 0 (BQ h [3,10,11] [] (λs=>(lG g s.1 s.2)) [3,10] [] (λs=>(lF g s)) DM ?_ ?_)))))
   ·rintro⟨f,k⟩ o (h:JU f k=some o);refine Wp.seq (EA h [3,10,11,79] [] (λa=>(cE g f k a)) (λa h=>?_) (λj2 h=>?_))
    ·refine Kt mixed (D3 3 (iX 64 h (λh=>?_) (λh=>?_)))
     ·exact D3 3 (bd h λx2 gx2 h=>SW.q (Iz Eo gx2) (SW.q (DB Eo gx2 0 2) (SW.q (DB Eo gx2 2 3) (SW.q (CB Eo gx2 3) (D3 2 (bd h λx3 gx3 h=>SW.q (Iz Eo gx3) (SW.q (DB Eo gx3 0 2) (SW.q (DB Eo gx3 2 3) (SW.q (CB Eo gx3 3) (D3 2 (SW.nil (jn h))))))))))))
     exact D3 15 (SW.nil (jn h))
    refine wc h (λh=>?_) (λh=>?_)
    ·exact Wp.skip (Wp.seq (Wp.block (ws (Ah 2 0 (C9 Eo h (λx4 gx4 h=>RW.q (L9 Eo gx4 0 8) (gw 2 0 (Ah 5 0 (C9 Eo h (λx5 gx5 h=>RW.q (L9 Eo gx5 0 8) (C9 Eo h (λx6 gx6 h=>CI (Nd Eo gx6 0 0 x5) (RW.nil (Ap (Ah 4 0 (C9 Eo h (λx7 gx7 h=>CI (Nd Eo gx7 0 0 x4) (RW.nil (Ap (gn 3 0 (jl h)))))))))))))))))))))
    exact Wp.exit (jv h)
   intro v5 h E hE;exact AW hE (Ap (gn 3 0 (jl h)))
  exact Wp.exit (jv h)
 intro v6 h E hE;exact AW hE (ws (gn 2 2 (Wp.ret (rr h▸rq))))
def kG (xF:Flash) (z1:Int) (z2:List Block):St:=A7 [(1,(pb 1)),(2,(pb 2)),(3,(pb 3)),(4,(I z1))] [(.box 1,[Bz xF.Blocks]),(.box 2,[BW []]),(.box 3,[BW z2])]
def kF (z3:List Block):St:=A7 [(2,(pb 2)),(3,(pb 3))] [(.box 2,[BW []]),(.box 3,[BW z3])]
theorem Fj (xF:Flash) (r:Flash) (h:EP xF=some r):AM Tryz.prog 48 [.sv (.agg (LH false xF))] (.agg (LH true r)) (rg 1):=by
 refine gk Tryz.func48 rfl Tryz.ntmps48 (ws (gw 2 0 (gn 3 0 (Wp.seq (ws (gn 1 0 (BQ h [1,2,3,4] [.box 1,.box 2,.box 3] (λs=>(kG xF s.1 s.2)) [2,3] [.box 2,.box 3] (λs=>(kF s)) DM ?_ ?_)))))))
 ·rintro⟨b,a⟩ o (h:JQ xF b a=some o);refine Wp.seq (ws (Ah 3 0 (RW.q (CR (B5 false) xF.Blocks) (gn 1 0 (wc h (λh=>?_) (λh=>?_))))))
  ·exact Wp.skip (Wp.seq (Wp.block (ws (Ah 3 0 (C9 (B5 false) h (λx1 gx1 h=>RW.q (L9 (B5 false) gx1 0 3) (gw 2 0 (Ah 3 0 (bd h λq1 gq1 h=>CI (Dk Dw (λ_=>rfl) [] gq1) (gn 2 0 (Ap (Ah 4 0 (bd h λq2 gq2 h=>CI (pX (B5 true) a [(Block.mk x1.Bad x1.Wear q1)] gq2) (gn 2 0 (Ap (gn 3 0 (jl h)))))))))))))))))
  exact Wp.exit (jv h)
 intro v1 h E hE;exact AW hE (ws (gn 2 0 (Wp.ret (rr h▸rq))))
def c53 (x:Vol):List TV:=[i6 x.Id,i6 x.Root]
theorem Es:∀x,(c53 x).length=2:=λ_=>rfl
theorem Fz:∀l,BP (AU c53 l)=AU c53 l:=DQ (λ_=>rfl)
theorem Zh:∀l,AO (AU c53 l)=false:=KU (λ_=>rfl)
def Do (l:List Vol):TV:= .sl true 53 2 (AU c53 l)
def Dp (l:List Vol):TV:= .sl false 53 2 (AU c53 l)
def c3 (x:Int):List TV:=[i6 x]
theorem k3:∀x,(c3 x).length=1:=λ_=>rfl
theorem rF:∀l,BP (AU c3 l)=AU c3 l:=DQ (λ_=>rfl)
theorem ns3:∀l,AO (AU c3 l)=false:=KU (λ_=>rfl)
def Er (l:List Int):TV:= .sl true 3 1 (AU c3 l)
def PX (l:List Int):TV:= .sl false 3 1 (AU c3 l)
def aD (o:Bool) (x:Cc):List TV:=[tb x.Leaf,.sl o 3 1 (AU c3 x.Kids)]
theorem Da (o:Bool):∀x,(aD o x).length=2:=λ_=>rfl
theorem Dt:∀l,BP (AU (aD true) l)=AU (aD false) l:=DQ (λx=>by simp only [aD,BP,LG,rF])
theorem Lr:∀l,AO (AU (aD true) l)=false:=KU (λx=>by simp [aD,AO,B4,ns3])
def By (l:List Cc):TV:= .sl true 223 2 (AU (aD true) l)
def BB (l:List Cc):TV:= .sl false 223 2 (AU (aD false) l)
def SN (o:Bool) (x:Store):List TV:=[.sl o 53 2 (AU c53 x.Vols),.sl o 223 2 (AU (aD o) x.Arena.Knots),i6 x.Next]
theorem lE (r:Store) (h:OJ=some r):AM Tryz.prog 51 [] (.agg (SN true r)) (rg 0):=by
 unfold OJ at h;exact gk Tryz.func51 rfl Tryz.ntmps51 (ws (gw 1 0 (gn 2 0 (Wp.ret (rr h▸rq)))))
def V5 (x:Cu):List TV:=[i6 x.Kind,i6 x.Vol,i6 x.Arg,i6 x.Chunk]
theorem Ho:∀x,(V5 x).length=4:=λ_=>rfl
theorem ABo:∀l,BP (AU V5 l)=AU V5 l:=DQ (λ_=>rfl)
theorem AGv:∀l,AO (AU V5 l)=false:=KU (λ_=>rfl)
def DS (l:List Cu):TV:= .sl true 138 4 (AU V5 l)
def Oe (l:List Cu):TV:= .sl false 138 4 (AU V5 l)
def zF (z1:Bool):St:=A7 [(2,(B z1))] []
def zE (xR:Cu) (z2:Bool):St:=A7 [(1,(pb 1)),(37,(B z2))] [(.box 1,[i6 xR.Kind,i6 xR.Vol,i6 xR.Arg,i6 xR.Chunk])]
theorem Ve (xR:Cu) (r:Bool) (h:Ns xR=some r):AM Tryz.prog 160 [.sv (.agg (V5 xR))] (B r) (rg 1):=by
 refine gk Tryz.func160 rfl Tryz.ntmps160 (ws (gn 2 0 (Wp.seq (ws (Ah 2 0 (RW.c 0 h (BR _ _ _) (λv1 gv1 h=>gn 1 0 (wc h (λh=>?_) (λh=>?_)))))))))
 ·exact ws (gn 1 0 (Wp.ret (rr h▸rq)))
 refine Wp.skip (Wp.seq (ws (gn 3 0 (wc h (λh=>?_) (λh=>?_)))))
 ·refine EA h [2] [] (λa=>(zF a)) (λa h=>?_) (λj1 h=>?_)
  ·refine Ap (Ah 4 0 (AK 13 h (λh=>?_) (λh=>?_)))
   ·exact gn 5 0 (jn h)
   exact gn 5 0 (jn h)
  exact Wp.ret (rr h▸rq)
 refine Wp.skip (Wp.seq (EA h [1,37] [.box 1] (λa=>(zE xR a)) (λa h=>?_) (λj2 h=>?_)))
 ·refine Ap (Ah 2 0 (RW.c 0 h (BR _ _ _) (λv2 gv2 h=>Ah 2 0 (AK 22 h (λh=>?_) (λh=>?_)))))
  ·exact gn 15 0 (jn h)
  refine Ah 2 0 (RW.c 0 h (BR _ _ _) (λv3 gv3 h=>Ah 3 0 (AK 28 h (λh=>?_) (λh=>?_))))
  ·exact gn 9 0 (jn h)
  refine Ah 4 0 (AK 32 h (λh=>?_) (λh=>?_))
  ·exact gn 5 0 (jn h)
  exact gn 5 0 (jn h)
 refine wc h (λh=>?_) (λh=>?_)
 ·exact ws (gn 1 0 (Wp.ret (rr h▸rq)))
 refine Wp.skip (Wp.seq (ws (gn 2 0 (Wp.block (ws (gn 2 0 (wc h (λh=>?_) (λh=>?_))))))))
 ·exact ws (gn 4 0 (Wp.ret (rr h▸rq)))
 refine ws (gn 2 0 (wc h (λh=>?_) (λh=>?_)))
 ·exact ws (gn 4 0 (Wp.ret (rr h▸rq)))
 refine ws (gn 2 0 (wc h (λh=>?_) (λh=>?_)))
 ·refine ws (Ah 4 0 (AK 55 h (λh=>?_) (λh=>?_)))
  ·exact Ah 2 0 (RW.c 0 h (BR _ _ _) (λv4 gv4 h=>gn 2 0 (Wp.ret (rr h▸rq))))
  exact gn 5 0 (Wp.ret (rr h▸rq))
 exact Wp.skip (ws (gn 4 0 (Wp.ret (rr h▸rq))))
def cI (xT:ByteArray) (z1:List Cu) (z2:ByteArray) (z3:Int) (z4:Bool):St:=A7 [(0,(Y xT)),(4,(.one (DS z1))),(5,(pb 11))] [(.box 11,[ts z2,i6 z3,tb z4])]
def cH (z5:List Cu):St:=A7 [(4,(.one (DS z5)))] []
def cG (xT:ByteArray) (a:List Cu) (y01:ByteArray) (y11:Int) (y21:Bool) (z6:Bool):St:=A7 [(0,(Y xT)),(4,(.one (DS a))),(5,(pb 11)),(25,(B z6))] [(.box 11,[ts y01,i6 y11,tb y21])]
def cF (xT:ByteArray) (a:List Cu) (x1:Int) (v1:Int×D0) (v2:Int×D0) (z7:Bool):St:=A7 [(0,(Y xT)),(4,(.one (DS a))),(5,(pb 11)),(7,(pb 7)),(59,(B z7))] [(.box 7,[i6 (qu (IntKind.i64.wrap x1) 16),i6 (Int.tmod (IntKind.i64.wrap x1) 16),i6 v1.1,i6 v2.1]),(.box 11,[ts v2.2.text_,i6 v2.2.at_,tb v2.2.bad_])]
theorem l9 (xT:ByteArray) (r:List Cu×Bool) (h:HU xT=some r):AM Tryz.prog 157 [.sv (Y xT)] (.tup [(.one (DS r.1)),(B r.2)]) (rg 1):=by
 refine gk Tryz.func157 rfl Tryz.ntmps157 (ws (gw 2 0 (gw 2 2 (gn 4 0 (sl2 h [0,4,5] [.box 11] (λs=>(cI xT s.1 s.2.1 s.2.2.1 s.2.2.2)) [4] [] (λs=>(cH s)) ?_ (λv4 h=>?_))))))
 ·rintro⟨b,y01,y11,y21⟩ o (h:DG xT b y01 y11 y21=some o) hk1;refine Wp.seq (EA h [0,4,5,25] [.box 11] (λa=>(cG xT b y01 y11 y21 a)) (λa h=>?_) (λj1 h=>?_))
  ·refine Ap (Ah 8 0 (AK 19 h (λh=>?_) (λh=>?_)))
   ·exact gn 6 0 (jn h)
   exact gn 6 0 (jn h)
  refine wc h (λh=>?_) (λh=>?_)
  ·refine Wp.skip (Wp.block (ws (Ah 5 0 (bd h λx1 gx1 h=>RW.q (xK gx1) (gw 2 0 (gw 9 0 (Ah 5 0 (FG h (K1 _) (λ_=>rfl) (λv1 gv1 h=>gw 3 0 (Ah 1 0 (FG h (K1 _) (λ_=>rfl) (λv2 gv2 h=>gn 2 0 (Wp.seq (EA h [0,4,5,7,59] [.box 7,.box 11] (λa=>(cF xT b x1 v1 v2 a)) (λa h=>?_) (λj2 h=>?_)))))))))))))))
   ·refine Ap (Ah 5 0 (AK 55 h (λh=>?_) (λh=>?_)))
    ·exact gn 4 0 (jn h)
    exact Ah 1 0 (RW.c 0 h (Ve _) (λv3 gv3 h=>gn 2 0 (jn h)))
   refine wc h (λh=>?_) (λh=>?_)
   ·exact ws (gn 3 2 (Wp.ret (rr (jo h hk1)▸rq)))
   exact Wp.skip (Ap (Ah 3 0 (bd h λq1 gq1 h=>CI (Dk Ho (λ_=>rfl) b gq1) (gn 1 1 (jl h)))))
  exact Wp.exit (jx h)
 exact ws (gn 3 2 (Wp.ret (rr h▸rq)))
def c98 (o:Bool) (x:Tx):List TV:=[i6 x.Num,i6 x.Seq,.sl o 138 4 (AU V5 x.Recs)]
theorem PT (o:Bool):∀x,(c98 o x).length=3:=λ_=>rfl
theorem AGV:∀l,BP (AU (c98 true) l)=AU (c98 false) l:=DQ (λx=>by simp only [c98,BP,LG,ABo])
theorem AFA:∀l,AO (AU (c98 true) l)=false:=KU (λx=>by simp [c98,AO,B4,AGv])
def TH (l:List Tx):TV:= .sl true 98 3 (AU (c98 true) l)
def AAf (l:List Tx):TV:= .sl false 98 3 (AU (c98 false) l)
def yZ (a:List As) (b:Int) (z1:Int) (z2:ByteArray) (z3:Int) (z4:Int):St:=A7 [(0,(.one (FQ a))),(1,(I b)),(4,(pb 4)),(6,(pb 6)),(7,(I z1)),(8,(Y z2)),(9,(I z3))] [(.box 4,[i6 0,i6 0,DS []]),(.box 6,[i6 b,i6 z4,DS []])]
def yY (a:Int) (z5:ByteArray) (z6:Int):St:=A7 [(4,(pb 4)),(6,(pb 6)),(8,(Y z5))] [(.box 4,[i6 0,i6 0,DS []]),(.box 6,[i6 a,i6 z6,DS []])]
def yX (e:List As) (f:Int) (a:Int) (b:ByteArray) (c:Int) (d:Int) (z7:Bool):St:=A7 [(0,(.one (FQ e))),(1,(I f)),(4,(pb 4)),(6,(pb 6)),(7,(I a)),(8,(Y b)),(9,(I c)),(23,(B z7))] [(.box 4,[i6 0,i6 0,DS []]),(.box 6,[i6 f,i6 d,DS []])]
def yW (b:List As) (c:Int) (a:Int) (z8:Int) (z9:ByteArray) (z10:Bool) (z11:Int) (z12:Int):St:=A7 [(0,(.one (FQ b))),(1,(I c)),(4,(pb 4)),(6,(pb 6)),(7,(I z8)),(8,(Y z9)),(9,(I a)),(10,(B z10)),(11,(I z11))] [(.box 4,[i6 0,i6 0,DS []]),(.box 6,[i6 c,i6 z12,DS []])]
def yV (b:List As) (c:Int) (a:Int) (z13:Int) (z14:ByteArray) (z15:Bool) (z16:Int):St:=A7 [(0,(.one (FQ b))),(1,(I c)),(4,(pb 4)),(6,(pb 6)),(7,(I z13)),(8,(Y z14)),(9,(I a)),(10,(B z15))] [(.box 4,[i6 0,i6 0,DS []]),(.box 6,[i6 c,i6 z16,DS []])]
def yU (f:List As) (g:Int) (c:Int) (a:Int) (d:ByteArray) (b:Bool) (h:Int) (e:Int) (z17:Bool):St:=A7 [(0,(.one (FQ f))),(1,(I g)),(4,(pb 4)),(6,(pb 6)),(7,(I a)),(8,(Y d)),(9,(I c)),(10,(B b)),(11,(I h)),(33,(B z17))] [(.box 4,[i6 0,i6 0,DS []]),(.box 6,[i6 g,i6 e,DS []])]
def yT (f:List As) (g:Int) (c:Int) (a:Int) (d:ByteArray) (b:Bool) (h:Int) (e:Int) (x1:As) (z18:Bool):St:=A7 [(0,(.one (FQ f))),(1,(I g)),(4,(pb 4)),(6,(pb 6)),(7,(I a)),(8,(Y d)),(9,(I c)),(10,(B b)),(11,(I h)),(12,(pb 12)),(65,(B z18))] [(.box 4,[i6 0,i6 0,DS []]),(.box 6,[i6 g,i6 e,DS []]),(.box 12,[i6 x1.Page.Kind,i6 x1.Page.Seq,i6 x1.Page.Tx,i6 x1.Page.Part,i6 x1.Page.Count,ts x1.Page.Text])]
def yS (c:List As) (d:Int) (a:Int) (e:Int) (b:Int) (x1:As) (x2:ByteArray) (z19:Bool):St:=A7 [(0,(.one (FQ c))),(1,(I d)),(4,(pb 4)),(6,(pb 6)),(7,(I x1.Page.Count)),(8,(Y x2)),(9,(I a)),(10,(B true)),(11,(I e)),(12,(pb 12)),(80,(B z19))] [(.box 4,[i6 0,i6 0,DS []]),(.box 6,[i6 d,i6 b,DS []]),(.box 12,[i6 x1.Page.Kind,i6 x1.Page.Seq,i6 x1.Page.Tx,i6 x1.Page.Part,i6 x1.Page.Count,ts x1.Page.Text])]
theorem ACg (b:List As) (e:Int) (r:Tx×Bool) (h:Xs b e=some r):AM Tryz.prog 90 [.sv (.one (FQ b)),.sv (I e)] (.tup [(.agg (c98 true r.1)),(B r.2)]) (rg 2):=by
 refine gk Tryz.func90 rfl Tryz.ntmps90 (ws (gw 2 0 (gw 4 0 (gw 1 0 (gn 1 0 (Wp.seq (ws (gn 1 0 (DA h [0,1,4,6,7,8,9] [.box 4,.box 6] (λs=>(yZ b e s.1 s.2.1 s.2.2.1 s.2.2.2)) [4,6,8] [.box 4,.box 6] (λs=>(yY e s.1 s.2)) DM ?_ ?_)))))))))
 ·rintro⟨k,l,d,m⟩ o (h:OI b e k l d m=some o) hk1;refine Wp.seq (EA h [0,1,4,6,7,8,9,23] [.box 4,.box 6] (λa=>(yX b e k l d m a)) (λa h=>?_) (λj1 h=>?_))
  ·refine Ap (Ah 3 0 (AK 19 h (λh=>?_) (λh=>?_)))
   ·exact gn 4 0 (jn h)
   exact gn 4 0 (jn h)
  refine wc h (λh=>?_) (λh=>?_)
  ·refine Wp.skip (Wp.seq (Wp.block (ws (gn 1 0 (Wp.seq (ws (gn 1 0 (BQ h [0,1,4,6,7,8,9,10,11] [.box 4,.box 6] (λs=>(yW b e d s.1 s.2.1 s.2.2.1 s.2.2.2.1 s.2.2.2.2)) [0,1,4,6,7,8,9,10] [.box 4,.box 6] (λs=>(yV b e d s.1 s.2.1 s.2.2.1 s.2.2.2)) DM ?_ ?_))))))))
   ·rintro⟨g,j,i,n,f⟩ o (h:Je b e d g j i n f=some o);refine Wp.seq (EA h [0,1,4,6,7,8,9,10,11,33] [.box 4,.box 6] (λa=>(yU b e d g j i n f a)) (λa h=>?_) (λj2 h=>?_))
    ·refine Ap (Ah 2 0 (RW.q (CR Eo b) (Ah 2 0 (AK 30 h (λh=>?_) (λh=>?_)))))
     ·exact gn 3 0 (jn h)
     exact gn 3 0 (jn h)
    refine wc h (λh=>?_) (λh=>?_)
    ·refine Wp.skip (Wp.seq (Wp.block (ws (Ah 2 0 (C9 Eo h (λx1 gx1 h=>RW.q (DB Eo gx1 0 2) (RW.q (L9 Eo gx1 2 6) (gn 2 0 (Wp.seq (EA h [0,1,4,6,7,8,9,10,11,12,65] [.box 4,.box 6,.box 12] (λa=>(yT b e d g j i n f x1 a)) (λa h=>?_) (λj3 h=>?_)))))))))))
     ·refine Ap (Ah 4 0 (AK 44 h (λh=>?_) (λh=>?_)))
      ·exact gn 21 0 (jn h)
      refine Ah 6 0 (AK 50 h (λh=>?_) (λh=>?_))
      ·exact gn 15 0 (jn h)
      refine Ah 6 0 (AK 56 h (λh=>?_) (λh=>?_))
      ·exact gn 9 0 (jn h)
      refine Ah 3 0 (AK 59 h (λh=>?_) (λh=>?_))
      ·exact gn 6 0 (jn h)
      exact gn 6 0 (jn h)
     refine wc h (λh=>?_) (λh=>?_)
     ·exact Wp.exit (Ap (gn 3 0 (jl h)))
     refine Wp.skip (ws (gw 1 0 (gw 3 0 (Ah 3 0 (bd h λx2 gx2 h=>RW.q (Ff gx2) (gn 1 0 (EA h [0,1,4,6,7,8,9,10,11,12,80] [.box 4,.box 6,.box 12] (λa=>(yS b e d n f x1 x2 a)) (λa h=>?_) (λj4 h=>?_))))))))
     ·refine Ap (Ah 3 0 (AK 74 h (λh=>?_) (λh=>?_)))
      ·exact gn 6 0 (jn h)
      exact gn 6 0 (jn h)
     refine wc h (λh=>?_) (λh=>?_)
     ·exact Ap (gn 4 0 (Ap (gn 3 0 (jl h))))
     exact Wp.skip (Ap (gn 3 0 (jl h)))
    exact Wp.exit (jv h)
   intro v1 h E hE;refine AW hE (ws (gn 2 0 (wc h (λh=>?_) (λh=>?_))))
   ·exact ws (gn 3 0 (Wp.ret (rr (jo h hk1)▸rq)))
   exact Wp.skip (Ap (gn 3 0 (jl h)))
  exact Wp.exit (jx h)
 intro v2 h E hE;exact AW hE (ws (Ah 1 0 (RW.c 0 h (l9 _) (λv3 gv3 h=>gw 5 9 (gw 3 0 (gn 4 0 (Wp.ret (rr h▸rq))))))))
def tN (a:List As) (z1:List Int) (z2:Int):St:=A7 [(0,(.one (FQ a))),(3,(.one (Er z1))),(4,(I z2))] []
def tM (a:List As) (z3:List Int):St:=A7 [(0,(.one (FQ a))),(3,(.one (Er z3)))] []
def tL (b:List As) (a:List Int) (c:Int) (x1:As) (z4:List Int) (z5:Int):St:=A7 [(0,(.one (FQ b))),(3,(.one (Er a))),(4,(I c)),(5,(pb 5)),(6,(.one (Er z4))),(7,(I z5))] [(.box 5,[i6 x1.Page.Kind,i6 x1.Page.Seq,i6 x1.Page.Tx,i6 x1.Page.Part,i6 x1.Page.Count,ts x1.Page.Text])]
def tK (b:List As) (a:List Int) (c:Int) (x1:As) (z6:List Int):St:=A7 [(0,(.one (FQ b))),(3,(.one (Er a))),(4,(I c)),(5,(pb 5)),(6,(.one (Er z6)))] [(.box 5,[i6 x1.Page.Kind,i6 x1.Page.Seq,i6 x1.Page.Tx,i6 x1.Page.Part,i6 x1.Page.Count,ts x1.Page.Text])]
def tJ (b:List As) (a:List Int) (c:Int) (x1:As) (z7:List Int) (z8:Int):St:=A7 [(0,(.one (FQ b))),(3,(.one (Er a))),(4,(I c)),(5,(pb 5)),(6,(.one (Er z7))),(8,(I z8))] [(.box 5,[i6 x1.Page.Kind,i6 x1.Page.Seq,i6 x1.Page.Tx,i6 x1.Page.Part,i6 x1.Page.Count,ts x1.Page.Text])]
def tI (a:List As) (b:Int) (z9:List Int):St:=A7 [(0,(.one (FQ a))),(4,(I b)),(6,(.one (Er z9)))] []
def tH (a:List As) (v3:List Int) (z10:List Tx) (z11:Int):St:=A7 [(0,(.one (FQ a))),(3,(.one (Er v3))),(9,(.one (TH z10))),(10,(I z11))] []
def tG (z12:List Tx):St:=A7 [(9,(.one (TH z12)))] []
theorem YQ (a:List As) (r:List Tx) (h:Qu a=some r):AM Tryz.prog 53 [.sv (.one (FQ a))] (.one (TH r)) (rg 1):=by
 refine gk Tryz.func53 rfl Tryz.ntmps53 (ws (gw 1 0 (gn 2 2 (Wp.seq (ws (gn 1 0 (BQ h [0,3,4] [] (λs=>(tN a s.1 s.2)) [0,3] [] (λs=>(tM a s)) DM ?_ ?_)))))))
 ·rintro⟨b,f⟩ o (h:J0 a b f=some o);refine Wp.seq (ws (Ah 2 0 (RW.q (CR Eo a) (gn 1 0 (wc h (λh=>?_) (λh=>?_))))))
  ·refine Wp.skip (Wp.seq (Wp.block (ws (Ah 2 0 (C9 Eo h (λx1 gx1 h=>RW.q (DB Eo gx1 0 2) (RW.q (L9 Eo gx1 2 6) (gn 2 0 (Wp.seq (ws (gn 3 0 (wc h (λh=>?_) (λh=>?_)))))))))))))
   ·exact Wp.exit (Ap (gn 3 0 (jl h)))
   refine Wp.skip (ws (gn 2 2 (Wp.seq (ws (gn 1 0 (BQ h [0,3,4,5,6,7] [.box 5] (λs=>(tL a b f x1 s.1 s.2)) [0,3,4,5,6] [.box 5] (λs=>(tK a b f x1 s)) DM ?_ ?_))))))
   ·rintro⟨d,i⟩ o (h:Ln b x1 d i=some o);refine Wp.seq (ws (Ah 2 0 (RW.q (CR k3 b) (gn 1 0 (wc h (λh=>?_) (λh=>?_))))))
    ·refine Wp.skip (Wp.seq (Wp.block (Wp.seq (Kt mixed (D3 2 (bd h λx2 gx2 h=>SW.q (Iz k3 gx2) (SW.q (CB k3 gx2 0) (D3 3 (SW.nil (wc h (λh=>?_) (λh=>?_)))))))))))
     ·exact Ap (Ah 3 0 (C9 k3 h (λx3 gx3 h=>RW.q (CB k3 gx3 0) (Ah 1 0 (bd h λq1 gq1 h=>CI (Dk k3 (λ_=>rfl) d gq1) (gn 1 1 (Ap (gn 3 0 (jl h)))))))))
     exact Wp.skip (Ap (gn 3 0 (jl h)))
    exact Wp.exit (jv h)
   intro v1 h E hE;refine AW hE (ws (Ah 4 0 (bd h λq2 gq2 h=>CI (Dk k3 (λ_=>rfl) v1 gq2) (gn 1 1 (Wp.seq (ws (gn 1 0 (BQ h [0,3,4,5,6,8] [.box 5] (λs=>(tJ a b f x1 s.1 s.2)) [0,4,6] [] (λs=>(tI a f s)) DM ?_ ?_))))))))
   ·rintro⟨e,j⟩ o (h:Lm b x1 e j=some o);refine Wp.seq (ws (Ah 2 0 (RW.q (CR k3 b) (gn 1 0 (wc h (λh=>?_) (λh=>?_))))))
    ·refine Wp.skip (Wp.seq (Wp.block (Wp.seq (Kt mixed (D3 2 (bd h λx4 gx4 h=>SW.q (Iz k3 gx4) (SW.q (CB k3 gx4 0) (D3 3 (SW.nil (wc h (λh=>?_) (λh=>?_)))))))))))
     ·exact Ap (Ah 3 0 (C9 k3 h (λx5 gx5 h=>RW.q (CB k3 gx5 0) (Ah 1 0 (bd h λq3 gq3 h=>CI (Dk k3 (λ_=>rfl) e gq3) (gn 1 1 (Ap (gn 3 0 (jl h)))))))))
     exact Wp.skip (Ap (gn 3 0 (jl h)))
    exact Wp.exit (jv h)
   intro v2 h E hE;exact AW hE (Ap (gn 2 2 (Ap (gn 3 0 (jl h)))))
  exact Wp.exit (jv h)
 intro v3 h E hE;refine AW hE (ws (gn 2 2 (Wp.seq (ws (gn 1 0 (BQ h [0,3,9,10] [] (λs=>(tH a v3 s.1 s.2)) [9] [] (λs=>(tG s)) DM ?_ ?_))))))
 ·rintro⟨g,k⟩ o (h:Jz a v3 g k=some o);refine Wp.seq (ws (Ah 2 0 (RW.q (CR k3 v3) (gn 1 0 (wc h (λh=>?_) (λh=>?_))))))
  ·refine Wp.skip (Wp.seq (Wp.block (ws (Ah 3 0 (C9 k3 h (λx6 gx6 h=>RW.q (CB k3 gx6 0) (RW.c 0 h (ACg _ _) (λv4 gv4 h=>gw 6 1 (gn 1 0 (wc h (λh=>?_) (λh=>?_)))))))))))
   ·exact Ap (Ah 3 0 (bd h λq4 gq4 h=>CI (pX (PT true) g [v4.1] gq4) (gn 1 1 (Ap (gn 3 0 (jl h))))))
   exact Wp.skip (Ap (gn 3 0 (jl h)))
  exact Wp.exit (jv h)
 intro v5 h E hE;exact AW hE (ws (gn 2 2 (Wp.ret (rr h▸rq))))
def Y4 (a:List Tx) (z1:Int) (z2:Int):St:=A7 [(0,(.one (AAf a))),(3,(I z1)),(4,(I z2))] []
def Y3 (a:List Tx) (z3:Int):St:=A7 [(0,(.one (AAf a))),(3,(I z3))] []
def Y2 (a:List Tx) (z4:List Tx) (z5:Int):St:=A7 [(0,(.one (AAf a))),(5,(.one (TH z4))),(6,(I z5))] []
def Y1 (z6:List Tx):St:=A7 [(5,(.one (TH z6)))] []
theorem cD (a:List Tx) (r:List Tx) (h:Nr a=some r):AM Tryz.prog 52 [.sv (.one (AAf a))] (.one (TH r)) (rg 1):=by
 refine gk Tryz.func52 rfl Tryz.ntmps52 (ws (gw 1 0 (gn 1 0 (Wp.seq (ws (gn 1 0 (BQ h [0,3,4] [] (λs=>(Y4 a s.1 s.2)) [0,3] [] (λs=>(Y3 a s)) DM ?_ ?_)))))))
 ·rintro⟨c,d⟩ o (h:GC a c d=some o);refine Wp.seq (ws (Ah 2 0 (RW.q (CR (PT false) a) (gn 1 0 (wc h (λh=>?_) (λh=>?_))))))
  ·refine Wp.skip (Wp.seq (Wp.block (ws (Ah 2 0 (C9 (PT false) h (λx1 gx1 h=>RW.q (DB (PT false) gx1 0 2) (RW.q (CB (PT false) gx1 2) (RW.q (CR Ho x1.Recs) (Ah 2 0 (AK 21 h (λh=>?_) (λh=>?_)))))))))))
   ·refine Ah 2 0 (C9 (PT false) h (λx2 gx2 h=>RW.q (DB (PT false) gx2 0 2) (RW.q (CB (PT false) gx2 2) (C9 Ho h (λx3 gx3 h=>RW.q (DB Ho gx3 0 0) (RW.q (CB Ho gx3 0) (gn 2 0 (wc h (λh=>?_) (λh=>?_)))))))))
    ·exact Ap (gn 2 0 (Ap (gn 3 0 (jl h))))
    exact Wp.skip (Ap (gn 3 0 (jl h)))
   exact gn 10 0 (wf (Wp.skip (Ap (gn 3 0 (jl h)))))
  exact Wp.exit (jv h)
 intro v1 h E hE;refine AW hE (ws (gn 2 2 (Wp.seq (ws (gn 2 0 (BQ h [0,5,6] [] (λs=>(Y2 a s.1 s.2)) [5] [] (λs=>(Y1 s)) DM ?_ ?_))))))
 ·rintro⟨b,e⟩ o (h:HR a b e=some o);refine Wp.seq (ws (Ah 2 0 (RW.q (CR (PT false) a) (gn 1 0 (wc h (λh=>?_) (λh=>?_))))))
  ·exact Wp.skip (Wp.seq (Wp.block (ws (Ah 2 0 (C9 (PT false) h (λx4 gx4 h=>RW.q (L9 (PT false) gx4 0 3) (gw 2 0 (Ah 3 0 (bd h λq1 gq1 h=>CI (Dk Ho (λ_=>rfl) [] gq1) (gn 2 0 (Ap (Ah 3 0 (bd h λq2 gq2 h=>CI (pX (PT true) b [(Tx.mk x4.Num x4.Seq q1)] gq2) (gn 1 1 (Ap (gn 3 0 (jl h)))))))))))))))))
  exact Wp.exit (jv h)
 intro v2 h E hE;exact AW hE (ws (gn 2 2 (Wp.ret (rr h▸rq))))
def aC (o:Bool) (x:Arena):List TV:=[.sl o 223 2 (AU (aD o) x.Knots)]
def kE (xA:Arena) (z1:Int) (z2:List Cc):St:=A7 [(1,(pb 1)),(2,(pb 2)),(3,(pb 3)),(4,(I z1))] [(.box 1,[BB xA.Knots]),(.box 2,[By []]),(.box 3,[By z2])]
def kD (z3:List Cc):St:=A7 [(2,(pb 2)),(3,(pb 3))] [(.box 2,[By []]),(.box 3,[By z3])]
theorem Qq (xA:Arena) (r:Arena) (h:Ml xA=some r):AM Tryz.prog 158 [.sv (.agg (aC false xA))] (.agg (aC true r)) (rg 1):=by
 refine gk Tryz.func158 rfl Tryz.ntmps158 (ws (gw 2 0 (gn 3 0 (Wp.seq (ws (gn 1 0 (BQ h [1,2,3,4] [.box 1,.box 2,.box 3] (λs=>(kE xA s.1 s.2)) [2,3] [.box 2,.box 3] (λs=>(kD s)) DM ?_ ?_)))))))
 ·rintro⟨b,a⟩ o (h:JP xA b a=some o);refine Wp.seq (ws (Ah 3 0 (RW.q (CR (Da false) xA.Knots) (gn 1 0 (wc h (λh=>?_) (λh=>?_))))))
  ·exact Wp.skip (Wp.seq (Wp.block (Dr [18,20] mixed (λ_ _=>nP) (Bf [0,1,2,3,4] 0 (bd h λx1 gx1 h=>KW.q 5 (Iz (Da false) gx1) (KW.q 6 (DB (Da false) gx1 0 0) (KW.q 7 (CB (Da false) gx1 0) (Bf [9,10,11] 0 (bd h λx2 gx2 h=>KW.q 12 (Iz (Da false) gx2) (KW.q 13 (DB (Da false) gx2 0 1) (KW.q 14 (CB (Da false) gx2 1) (Bp 8 (AA6 (Bp 15 (bd h λq1 gq1 h=>qM (Dk k3 (λ_=>rfl) [] gq1) (Bf [16,17] 0 (Bp 18 (bd h λq2 gq2 h=>L5 (pX (Da true) a [(Cc.mk x1.Leaf q1)] gq2) (Bf [19,20] 0 (Bc (Ap (gn 3 0 (jl h)))))))))))))))))))))))
  exact Wp.exit (jv h)
 intro v1 h E hE;exact AW hE (ws (gn 2 0 (Wp.ret (rr h▸rq))))
theorem Gg (xS:Store) (r:Store) (h:EO xS=some r):AM Tryz.prog 91 [.sv (.agg (SN false xS))] (.agg (SN true r)) (rg 1):=by
 exact gk Tryz.func91 rfl Tryz.ntmps91 (ws (gn 2 0 (Wp.seq (Dr [10] mixed (λ_ _=>nP) (Bf [1,2,4,5,7,8] 0 (Bp 0 (AA6 (Bp 3 (bd h λq1 gq1 h=>qM (Dk Es (λ_=>rfl) [] gq1) (Bp 6 (KB.c 0 h (Qq _) (λv1 gv1 h=>Bf [9,10] 0 (Bc (Wp.ret (rr h▸rq)))))))))))))))
def nE (xA:Arena) (z1:Int):St:=A7 [(1,(pb 1)),(3,(I z1))] [(.box 1,[BB xA.Knots])]
def nD:St:=A7 [] []
def nC (xA:Arena) (a:Int) (x1:Cc) (z2:Int):St:=A7 [(1,(pb 1)),(3,(I a)),(4,(pb 4)),(5,(I z2))] [(.box 1,[BB xA.Knots]),(.box 4,[tb x1.Leaf,PX x1.Kids])]
def nB (xA:Arena) (a:Int):St:=A7 [(1,(pb 1)),(3,(I a))] [(.box 1,[BB xA.Knots])]
def nA (xA:Arena) (a:Int) (x1:Cc) (b:Int) (z3:Bool):St:=A7 [(1,(pb 1)),(3,(I a)),(4,(pb 4)),(5,(I b)),(62,(B z3))] [(.box 1,[BB xA.Knots]),(.box 4,[tb x1.Leaf,PX x1.Kids])]
theorem Nv (xA:Arena) (r:Bool) (h:GF xA=some r):AM Tryz.prog 149 [.sv (.agg (aC false xA))] (B r) (rg 1):=by
 refine gk Tryz.func149 rfl Tryz.ntmps149 (ws (gn 2 0 (Wp.seq (ws (gn 1 0 (DA h [1,3] [.box 1] (λs=>(nE xA s)) [] [] (λ_=>nD) DM ?_ ?_))))))
 ·rintro b o (h:El xA b=some o) hk1;refine Wp.seq (ws (Ah 3 0 (RW.q (CR (Da false) xA.Knots) (gn 1 0 (wc h (λh=>?_) (λh=>?_))))))
  ·refine Wp.skip (Wp.seq (Wp.block (ws (Ah 3 0 (C9 (Da false) h (λx1 gx1 h=>RW.q (L9 (Da false) gx1 0 2) (gn 2 0 (Wp.seq (ws (Ah 2 0 (RW.q (CR k3 x1.Kids) (gn 1 0 (wc h (λh=>?_) (λh=>?_))))))))))))))
   ·exact ws (gn 1 0 (Wp.ret (rr (jo h hk1)▸rq)))
   refine Wp.skip (ws (gn 1 0 (DA h [1,3,4,5] [.box 1,.box 4] (λs=>(nC xA b x1 s)) [1,3] [.box 1] (λ_=>(nB xA b)) DM ?_ ?_)))
   ·rintro d o (h:Ek xA b x1 d=some o) hk2;refine Wp.seq (ws (gn 2 0 (wc h (λh=>?_) (λh=>?_))))
    ·refine Wp.skip (Wp.seq (Wp.block (ws (Ah 3 0 (C9 k3 h (λx2 gx2 h=>RW.q (CB k3 gx2 0) (gn 1 0 (EA h [1,3,4,5,62] [.box 1,.box 4] (λa=>(nA xA b x1 d a)) (λa h=>?_) (λj1 h=>?_)))))))))
     ·refine Ap (Ah 3 0 (AK 34 h (λh=>?_) (λh=>?_)))
      ·refine Ah 4 0 (AK 38 h (λh=>?_) (λh=>?_))
       ·exact gn 24 0 (jn h)
       refine Ah 4 0 (AK 42 h (λh=>?_) (λh=>?_))
       ·refine Ah 4 0 (AK 46 h (λh=>?_) (λh=>?_))
        ·refine Ah 3 0 (RW.c 0 h (BR _ _ _) (λv1 gv1 h=>Ah 2 0 (AK 52 h (λh=>?_) (λh=>?_))))
         ·exact gn 10 0 (jn h)
         exact Ah 3 0 (C9 (Da false) h (λx3 gx3 h=>RW.q (DB (Da false) gx3 0 0) (RW.q (CB (Da false) gx3 0) (gn 4 0 (jn h)))))
        exact gn 16 0 (jn h)
       exact gn 20 0 (jn h)
      refine Ah 8 0 (AK 42 h (λh=>?_) (λh=>?_))
      ·refine Ah 4 0 (AK 46 h (λh=>?_) (λh=>?_))
       ·refine Ah 3 0 (RW.c 0 h (BR _ _ _) (λv2 gv2 h=>Ah 2 0 (AK 52 h (λh=>?_) (λh=>?_))))
        ·exact gn 10 0 (jn h)
        exact Ah 3 0 (C9 (Da false) h (λx4 gx4 h=>RW.q (DB (Da false) gx4 0 0) (RW.q (CB (Da false) gx4 0) (gn 4 0 (jn h)))))
       exact gn 16 0 (jn h)
      exact gn 20 0 (jn h)
     refine wc h (λh=>?_) (λh=>?_)
     ·exact ws (gn 1 0 (Wp.ret (rr (jo (jo h hk2) hk1)▸rq)))
     exact Wp.skip (Ap (gn 3 0 (jl h)))
    exact Wp.exit (jx h)
   intro v3 h E hE;exact AW hE (Ap (gn 3 0 (jl h)))
  exact Wp.exit (jx h)
 intro v4 h E hE;exact AW hE (ws (gn 1 0 (Wp.ret (rr h▸rq))))
theorem Lg (xA:Arena) (a:Int) (r:Bool) (h:Hu xA a=some r):AM Tryz.prog 150 [.sv (.agg (aC false xA)),.sv (I a)] (B r) (rg 2):=by
 refine gk Tryz.func150 rfl Tryz.ntmps150 (ws (gw 2 0 (Ah 3 0 (AK 7 h (λh=>?_) (λh=>?_)))))
 ·exact gn 17 0 (Wp.ret (rr h▸rq))
 refine Ah 3 0 (RW.q (CR (Da false) xA.Knots) (Ah 1 0 (RW.c 0 h (BR _ _ _) (λv1 gv1 h=>Ah 1 0 (AK 14 h (λh=>?_) (λh=>?_))))))
 ·exact Ah 3 0 (C9 (Da false) h (λx1 gx1 h=>RW.q (DB (Da false) gx1 0 0) (RW.q (CB (Da false) gx1 0) (gn 4 0 (Wp.ret (rr h▸rq))))))
 exact gn 10 0 (Wp.ret (rr h▸rq))
theorem Ys (xA:Arena) (b:Int) (a:Int) (r:Int) (h:MD xA b a=some r):AM Tryz.prog 151 [.sv (.agg (aC false xA)),.sv (I b),.sv (I a)] (I r) (rg 3):=by
 refine gk Tryz.func151 rfl Tryz.ntmps151 (ws (gn 2 0 (Wp.seq (ws (gn 2 0 (wc h (λh=>?_) (λh=>?_)))))))
 ·exact ws (gn 1 0 (Wp.ret (rr h▸rq)))
 refine Wp.skip (ws (Ah 3 0 (C9 (Da false) h (λx1 gx1 h=>RW.q (DB (Da false) gx1 0 1) (RW.q (CB (Da false) gx1 1) (Ah 2 0 (C9 k3 h (λx2 gx2 h=>RW.q (CB k3 gx2 0) (gn 1 0 (Wp.seq (ws (gn 2 0 (wc h (λh=>?_) (λh=>?_))))))))))))))
 ·exact ws (gn 1 0 (Wp.ret (rr h▸rq)))
 exact Wp.skip (ws (Ah 3 0 (C9 (Da false) h (λx3 gx3 h=>RW.q (DB (Da false) gx3 0 1) (RW.q (CB (Da false) gx3 1) (Ah 2 0 (C9 k3 h (λx4 gx4 h=>RW.q (CB k3 gx4 0) (gn 1 0 (Wp.ret (rr h▸rq)))))))))))
def bM (xS:Store) (z1:List Int) (z2:Int):St:=A7 [(1,(pb 1)),(3,(.one (Er z1))),(4,(I z2))] [(.box 1,[Dp xS.Vols,BB xS.Arena.Knots,i6 xS.Next])]
def bL (z3:List Int):St:=A7 [(3,(.one (Er z3)))] []
theorem LP (xS:Store) (r:List Int) (h:MC xS=some r):AM Tryz.prog 193 [.sv (.agg (SN false xS))] (.one (Er r)) (rg 1):=by
 refine gk Tryz.func193 rfl Tryz.ntmps193 (ws (gw 2 0 (gn 2 2 (Wp.seq (ws (gn 1 0 (BQ h [1,3,4] [.box 1] (λs=>(bM xS s.1 s.2)) [3] [] (λs=>(bL s)) DM ?_ ?_)))))))
 ·rintro⟨a,b⟩ o (h:Ht xS a b=some o);refine Wp.seq (ws (Ah 3 0 (RW.q (CR Es xS.Vols) (gn 1 0 (wc h (λh=>?_) (λh=>?_))))))
  ·exact Wp.skip (Wp.seq (Wp.block (Ap (Ah 4 0 (C9 Es h (λx1 gx1 h=>RW.q (DB Es gx1 0 1) (RW.q (CB Es gx1 1) (Ah 1 0 (bd h λq1 gq1 h=>CI (Dk k3 (λ_=>rfl) a gq1) (gn 1 1 (Ap (gn 3 0 (jl h)))))))))))))
  exact Wp.exit (jv h)
 intro v1 h E hE;exact AW hE (ws (gn 2 2 (Wp.ret (rr h▸rq))))
def c4 (x:Bool):List TV:=[tb x]
theorem k4:∀x,(c4 x).length=1:=λ_=>rfl
theorem sh4:∀l,BP (AU c4 l)=AU c4 l:=DQ (λ_=>rfl)
theorem ns4:∀l,AO (AU c4 l)=false:=KU (λ_=>rfl)
def PW (l:List Bool):TV:= .sl true 4 1 (AU c4 l)
def of4 (l:List Bool):TV:= .sl false 4 1 (AU c4 l)
def r7 (xA:Arena) (a:Int) (z1:List Bool) (z2:Int):St:=A7 [(1,(I a)),(2,(pb 2)),(5,(.one (PW z1))),(6,(I z2))] [(.box 2,[BB xA.Knots])]
def r6 (z3:List Bool):St:=A7 [(5,(.one (PW z3)))] []
theorem yR (xA:Arena) (a:Int) (r:List Bool) (h:Tv xA a=some r):AM Tryz.prog 203 [.sv (.agg (aC false xA)),.sv (I a)] (.one (PW r)) (rg 2):=by
 refine gk Tryz.func203 rfl Tryz.ntmps203 (ws (gw 2 0 (Ah 2 0 (RW.q (CR (Da false) xA.Knots) (bd h λq1 gq1 h=>CI (fmk k4 false gq1) (gn 1 1 (Wp.seq (ws (gn 2 0 (wc h (λh=>?_) (λh=>?_)))))))))))
 ·exact ws (gn 2 2 (Wp.ret (rr h▸rq)))
 refine Wp.skip (ws (Ah 2 0 (C9 k4 h (λx1 gx1 h=>CI (Nd k4 gx1 0 0 true) (RW.nil (Wp.seq (ws (gn 1 0 (BQ h [1,2,5,6] [.box 2] (λs=>(r7 xA a s.1 s.2)) [5] [] (λs=>(r6 s)) DM ?_ ?_)))))))))
 ·rintro⟨b,c⟩ o (h:Jr xA a b c=some o);refine Wp.seq (ws (gn 2 0 (wc h (λh=>?_) (λh=>?_))))
  ·refine Wp.skip (Wp.seq (Wp.block (ws (Ah 3 0 (C9 (Da false) h (λx2 gx2 h=>RW.q (DB (Da false) gx2 0 1) (RW.q (CB (Da false) gx2 1) (Ah 1 0 (C9 k3 h (λx3 gx3 h=>RW.q (CB k3 gx3 0) (gn 1 0 (wc h (λh=>?_) (λh=>?_)))))))))))))
   ·exact Ap (Ah 4 0 (C9 (Da false) h (λx4 gx4 h=>RW.q (DB (Da false) gx4 0 1) (RW.q (CB (Da false) gx4 1) (Ah 1 0 (C9 k3 h (λx5 gx5 h=>RW.q (CB k3 gx5 0) (C9 k4 h (λx6 gx6 h=>CI (Nd k4 gx6 0 0 true) (RW.nil (Ap (gn 3 0 (jl h)))))))))))))
   exact Wp.skip (Ap (gn 3 0 (jl h)))
  exact Wp.exit (jv h)
 intro v1 h E hE;exact AW hE (ws (gn 2 2 (Wp.ret (rr h▸rq))))
def WN (xA:Arena) (a:List Int) (q1:List Int) (z1:Bool) (z2:Int):St:=A7 [(1,(.one (PX a))),(2,(pb 2)),(4,(pb 4)),(6,(.one (Er q1))),(7,(B z1)),(8,(I z2))] [(.box 2,[BB xA.Knots]),(.box 4,[By []])]
def WM (xA:Arena) (a:List Int) (q1:List Int) (z3:Bool):St:=A7 [(1,(.one (PX a))),(2,(pb 2)),(4,(pb 4)),(6,(.one (Er q1))),(7,(B z3))] [(.box 2,[BB xA.Knots]),(.box 4,[By []])]
def WL (xA:Arena) (a:List Int) (q1:List Int) (b:Bool) (c:Int) (z4:Bool):St:=A7 [(1,(.one (PX a))),(2,(pb 2)),(4,(pb 4)),(6,(.one (Er q1))),(7,(B b)),(8,(I c)),(30,(B z4))] [(.box 2,[BB xA.Knots]),(.box 4,[By []])]
def WK (xA:Arena) (a:List Int) (q1:List Int) (z5:List Bool) (z6:Int):St:=A7 [(1,(.one (PX a))),(2,(pb 2)),(4,(pb 4)),(6,(.one (Er q1))),(9,(.one (PW z5))),(10,(I z6))] [(.box 2,[BB xA.Knots]),(.box 4,[By []])]
def WJ (xA:Arena) (q1:List Int) (z7:List Bool):St:=A7 [(2,(pb 2)),(4,(pb 4)),(6,(.one (Er q1))),(9,(.one (PW z7)))] [(.box 2,[BB xA.Knots]),(.box 4,[By []])]
def WI (xA:Arena) (a:List Int) (q1:List Int) (b:Int) (v5:List Bool) (z8:List Bool) (z9:Int):St:=A7 [(1,(.one (PX a))),(2,(pb 2)),(4,(pb 4)),(6,(.one (Er q1))),(9,(.one (PW z8))),(10,(I b)),(11,(.one (PW v5))),(12,(I z9))] [(.box 2,[BB xA.Knots]),(.box 4,[By []])]
def WH (xA:Arena) (a:List Int) (q1:List Int) (b:Int) (z10:List Bool):St:=A7 [(1,(.one (PX a))),(2,(pb 2)),(4,(pb 4)),(6,(.one (Er q1))),(9,(.one (PW z10))),(10,(I b))] [(.box 2,[BB xA.Knots]),(.box 4,[By []])]
def WG (xA:Arena) (q1:List Int) (v7:List Bool) (z11:List Int) (z12:Int) (z13:List Cc):St:=A7 [(2,(pb 2)),(4,(pb 4)),(6,(.one (Er q1))),(9,(.one (PW v7))),(13,(.one (Er z11))),(14,(pb 14)),(15,(I z12))] [(.box 2,[BB xA.Knots]),(.box 4,[By []]),(.box 14,[By z13])]
def WF (q1:List Int) (z14:List Int) (z15:List Cc):St:=A7 [(4,(pb 4)),(6,(.one (Er q1))),(13,(.one (Er z14))),(14,(pb 14))] [(.box 4,[By []]),(.box 14,[By z15])]
def Vd (xA:Arena) (q1:List Int) (v7:List Bool) (a:List Int) (c:Int) (b:List Cc) (z16:Bool) (z17:List Int):St:=A7 [(2,(pb 2)),(4,(pb 4)),(6,(.one (Er q1))),(9,(.one (PW v7))),(13,(.one (Er a))),(14,(pb 14)),(15,(I c)),(16,(pb 16))] [(.box 2,[BB xA.Knots]),(.box 4,[By []]),(.box 14,[By b]),(.box 16,[tb z16,Er z17])]
def Vc (xA:Arena) (q1:List Int) (v7:List Bool) (a:List Int) (c:Int) (b:List Cc) (j2:Bool×List Int) (z18:Int) (z19:List Int):St:=A7 [(2,(pb 2)),(4,(pb 4)),(6,(.one (Er q1))),(9,(.one (PW v7))),(13,(.one (Er a))),(14,(pb 14)),(15,(I c)),(16,(pb 16)),(17,(I z18))] [(.box 2,[BB xA.Knots]),(.box 4,[By []]),(.box 14,[By b]),(.box 16,[tb j2.1,Er z19])]
def Vb (xA:Arena) (q1:List Int) (v7:List Bool) (a:List Int) (c:Int) (b:List Cc) (j2:Bool×List Int) (z20:List Int):St:=A7 [(2,(pb 2)),(4,(pb 4)),(6,(.one (Er q1))),(9,(.one (PW v7))),(13,(.one (Er a))),(14,(pb 14)),(15,(I c)),(16,(pb 16))] [(.box 2,[BB xA.Knots]),(.box 4,[By []]),(.box 14,[By b]),(.box 16,[tb j2.1,Er z20])]
def Va (xA:Arena) (q1:List Int) (v7:List Bool) (a:List Int) (d:Int) (b:List Cc) (j2:Bool×List Int) (e:Int) (c:List Int) (z21:Bool):St:=A7 [(2,(pb 2)),(4,(pb 4)),(6,(.one (Er q1))),(9,(.one (PW v7))),(13,(.one (Er a))),(14,(pb 14)),(15,(I d)),(16,(pb 16)),(17,(I e)),(117,(B z21))] [(.box 2,[BB xA.Knots]),(.box 4,[By []]),(.box 14,[By b]),(.box 16,[tb j2.1,Er c])]
def UZ (v9:List Int×List Cc) (z22:List Int) (z23:Int):St:=A7 [(4,(pb 4)),(6,(.one (Er z22))),(13,(.one (Er v9.1))),(14,(pb 14)),(18,(I z23))] [(.box 4,[By []]),(.box 14,[By v9.2])]
def UY (v9:List Int×List Cc) (z24:List Int):St:=A7 [(4,(pb 4)),(6,(.one (Er z24))),(14,(pb 14))] [(.box 4,[By []]),(.box 14,[By v9.2])]
theorem GB (xA:Arena) (b:List Int) (r:Arena×List Int) (h:JR xA b=some r):AM Tryz.prog 192 [.sv (.agg (aC false xA)),.sv (.one (PX b))] (.tup [(.agg (aC true r.1)),(.one (Er r.2))]) (rg 2):=by
 refine gk Tryz.func192 rfl Tryz.ntmps192 (ws (gw 3 0 (Ah 2 0 (bd h λq1 gq1 h=>CI (Dk k3 (λ_=>rfl) [] gq1) (gw 1 1 (Ah 1 0 (RW.c 0 h (Nv _) (λv1 gv1 h=>gn 1 0 (Wp.seq (ws (gn 1 0 (BQ h [1,2,4,6,7,8] [.box 2,.box 4] (λs=>(WN xA b q1 s.1 s.2)) [1,2,4,6,7] [.box 2,.box 4] (λs=>(WM xA b q1 s)) DM ?_ ?_))))))))))))
 ·rintro⟨k,n⟩ o (h:FY xA b k n=some o);refine Wp.seq (EA h [1,2,4,6,7,8,30] [.box 2,.box 4] (λa=>(WL xA b q1 k n a)) (λa h=>?_) (λj1 h=>?_))
  ·refine Ap (Ah 2 0 (RW.q (CR k3 b) (Ah 2 0 (AK 28 h (λh=>?_) (λh=>?_)))))
   ·exact gn 2 0 (jn h)
   exact gn 2 0 (jn h)
  refine wc h (λh=>?_) (λh=>?_)
  ·exact Wp.skip (Wp.seq (Wp.block (Sh 5 mixed (D3 3 (bd h λx1 gx1 h=>SW.q (Iz k3 gx1) (SW.q (CB k3 gx1 0) (SW.nil (RW.c 0 h (Lg _ _) (λv2 gv2 h=>gn 1 0 (Ap (gn 3 0 (jl h))))))))))))
  exact Wp.exit (jv h)
 intro v3 h E hE;refine AW hE (Wp.seq (ws (gn 2 0 (wc h (λh=>?_) (λh=>?_)))))
 ·exact ws (Ah 1 0 (RW.c 0 h (Qq _) (λv4 gv4 h=>gn 3 4 (Wp.ret (rr h▸rq)))))
 refine Wp.skip (ws (Ah 2 0 (RW.q (CR (Da false) xA.Knots) (bd h λq2 gq2 h=>CI (fmk k4 false gq2) (gn 1 1 (Wp.seq (ws (gn 1 0 (BQ h [1,2,4,6,9,10] [.box 2,.box 4] (λs=>(WK xA b q1 s.1 s.2)) [2,4,6,9] [.box 2,.box 4] (λs=>(WJ xA q1 s)) DM ?_ ?_)))))))))
 ·rintro⟨i,m⟩ o (h:FX xA b i m=some o);refine Wp.seq (ws (Ah 2 0 (RW.q (CR k3 b) (gn 1 0 (wc h (λh=>?_) (λh=>?_))))))
  ·refine Wp.skip (Wp.seq (Wp.block (Wp.seq (Sh 5 mixed (D3 3 (bd h λx2 gx2 h=>SW.q (Iz k3 gx2) (SW.q (CB k3 gx2 0) (SW.nil (RW.c 0 h (yR _ _) (λv5 gv5 h=>gw 1 1 (gn 1 0 (BQ h [1,2,4,6,9,10,11,12] [.box 2,.box 4] (λs=>(WI xA b q1 m v5 s.1 s.2)) [1,2,4,6,9,10] [.box 2,.box 4] (λs=>(WH xA b q1 m s)) DM ?_ ?_))))))))))))
   ·rintro⟨j,t⟩ o (h:Hl v5 j t=some o);refine Wp.seq (ws (Ah 2 0 (RW.q (CR k4 v5) (gn 1 0 (wc h (λh=>?_) (λh=>?_))))))
    ·refine Wp.skip (Wp.seq (Wp.block (Ap (Ah 4 0 (C9 k4 h (λx3 gx3 h=>RW.q (CB k4 gx3 0) (Ah 1 0 (AK 72 h (λh=>?_) (λh=>?_)))))))))
     ·exact Ah 5 0 (C9 k4 h (λx4 gx4 h=>CI (Nd k4 gx4 0 0 true) (RW.nil (Ap (gn 3 0 (jl h))))))
     exact Ah 2 0 (C9 k4 h (λx5 gx5 h=>RW.q (CB k4 gx5 0) (Ah 1 0 (C9 k4 h (λx6 gx6 h=>CI (Nd k4 gx6 0 0 x5) (RW.nil (Ap (gn 3 0 (jl h)))))))))
    exact Wp.exit (jv h)
   intro v6 h E hE;exact AW hE (Ap (gn 3 0 (jl h)))
  exact Wp.exit (jv h)
 intro v7 h E hE;refine AW hE (ws (Ah 2 0 (RW.q (CR (Da false) xA.Knots) (bd h λq3 gq3 h=>CI (fmk k3 0 gq3) (gw 1 1 (gn 3 0 (Wp.seq (ws (gn 1 0 (BQ h [2,4,6,9,13,14,15] [.box 2,.box 4,.box 14] (λs=>(WG xA q1 v7 s.1 s.2.1 s.2.2)) [4,6,13,14] [.box 4,.box 14] (λs=>(WF q1 s.1 s.2)) DM ?_ ?_))))))))))
 ·rintro⟨e,g,d⟩ o (h:FW xA v7 e g d=some o);refine Wp.seq (ws (Ah 3 0 (RW.q (CR (Da false) xA.Knots) (gn 1 0 (wc h (λh=>?_) (λh=>?_))))))
  ·refine Wp.skip (Wp.seq (Wp.block (Wp.seq (ws (Ah 2 0 (C9 k4 h (λx7 gx7 h=>RW.q (CB k4 gx7 0) (gn 1 0 (wc h (λh=>?_) (λh=>?_))))))))))
   ·exact Wp.exit (Ap (gn 3 0 (jl h)))
   refine Wp.skip (EA h [2,4,6,9,13,14,15,16] [.box 2,.box 4,.box 14,.box 16] (λa=>(Vd xA q1 v7 e g d a.1 a.2)) (λa h=>?_) (λj2 h=>?_))
   ·refine Dr [16] mixed (λ_ _=>nP) (Bf [0,1,2] 0 (bd h λx8 gx8 h=>KW.q 3 (Iz (Da false) gx8) (KW.q 4 (DB (Da false) gx8 0 0) (KW.q 5 (CB (Da false) gx8 0) (Bf [7,8,9] 0 (bd h λx9 gx9 h=>KW.q 10 (Iz (Da false) gx9) (KW.q 11 (DB (Da false) gx9 0 1) (KW.q 12 (CB (Da false) gx9 1) (Dj 6 15 ?_ ?_)))))))))
    ·refine AA6 (Dj 13 15 ?_ ?_)
     ·exact bd h λq4 gq4 h=>qM (Dk k3 (λ_=>rfl) [] gq4) (Bf [14,15,16] 0 (Bc (jn h)))
     exact KB.o false (Bp 13 (bd h λq5 gq5 h=>qM (Dk k3 (λ_=>rfl) [] gq5) (Bf [14,16] 0 (Bc (jn h)))))
    exact KB.o false (Bp 6 (AA6 (Bp 13 (bd h λq6 gq6 h=>qM (Dk k3 (λ_=>rfl) [] gq6) (Bf [14,16] 0 (Bc (jn h)))))))
   refine Wp.seq (ws (gn 1 0 (BQ h [2,4,6,9,13,14,15,16,17] [.box 2,.box 4,.box 14,.box 16] (λs=>(Vc xA q1 v7 e g d j2 s.1 s.2)) [2,4,6,9,13,14,15,16] [.box 2,.box 4,.box 14,.box 16] (λs=>(Vb xA q1 v7 e g d j2 s)) DM ?_ ?_)))
   ·rintro⟨p,l⟩ o (h:FV e j2 p l=some o);refine Wp.seq (EA h [2,4,6,9,13,14,15,16,17,117] [.box 2,.box 4,.box 14,.box 16] (λa=>(Va xA q1 v7 e g d j2 p l a)) (λa h=>?_) (λj3 h=>?_))
    ·refine Ap (Ah 3 0 (AK 113 h (λh=>?_) (λh=>?_)))
     ·exact gn 4 0 (jn h)
     exact gn 4 0 (jn h)
    refine wc h (λh=>?_) (λh=>?_)
    ·refine Wp.skip (Wp.seq (Wp.block (ws (Ah 3 0 (C9 k3 h (λx10 gx10 h=>RW.q (CB k3 gx10 0) (gn 1 0 (wc h (λh=>?_) (λh=>?_)))))))))
     ·exact Sh 12 mixed (D3 7 (bd h λx11 gx11 h=>SW.q (Iz k3 gx11) (SW.q (CB k3 gx11 0) (bd h λx12 gx12 h=>SW.q (Iz k3 gx12) (SW.q (CB k3 gx12 0) (bd h λx13 gx13 h=>SW.q (Iz k3 gx13) (SW.nil (CI (Nd k3 gx13 0 1 x12) (RW.nil (Ap (gn 3 0 (jl h))))))))))))
     exact Wp.skip (Ap (gn 3 0 (jl h)))
    exact Wp.exit (jv h)
   intro v8 h E hE;exact AW hE (ws (Ah 4 0 (RW.q (CR (Da true) d) (C9 k3 h (λx14 gx14 h=>CI (Nd k3 gx14 0 0 (ln d)) (RW.nil (Ap (Ah 4 0 (bd h λq7 gq7 h=>CI (pX (Da true) d [(Cc.mk j2.1 v8)] gq7) (gn 2 0 (Ap (gn 3 0 (jl h)))))))))))))
  exact Wp.exit (jv h)
 intro v9 h E hE;refine AW hE (Wp.seq (ws (gn 1 0 (BQ h [4,6,13,14,18] [.box 4,.box 14] (λs=>(UZ v9 s.1 s.2)) [4,6,14] [.box 4,.box 14] (λs=>(UY v9 s)) DM ?_ ?_))))
 ·rintro⟨f,u⟩ o (h:FU v9 f u=some o);refine Wp.seq (ws (Ah 2 0 (RW.q (CR k3 f) (gn 1 0 (wc h (λh=>?_) (λh=>?_))))))
  ·refine Wp.skip (Wp.seq (Wp.block (ws (Ah 2 0 (C9 k3 h (λx15 gx15 h=>RW.q (CB k3 gx15 0) (gn 1 0 (wc h (λh=>?_) (λh=>?_)))))))))
   ·exact Ap (Ah 5 0 (C9 k3 h (λx16 gx16 h=>RW.q (CB k3 gx16 0) (C9 k3 h (λx17 gx17 h=>RW.q (CB k3 gx17 0) (C9 k3 h (λx18 gx18 h=>CI (Nd k3 gx18 0 0 x17) (RW.nil (Ap (gn 3 0 (jl h)))))))))))
   exact Wp.skip (Ap (gn 3 0 (jl h)))
  exact Wp.exit (jv h)
 intro v10 h E hE;exact AW hE (ws (gn 4 8 (Wp.ret (rr h▸rq))))
def lD (xS:Store) (z1:Bool):St:=A7 [(1,(pb 1)),(23,(B z1))] [(.box 1,[Dp xS.Vols,BB xS.Arena.Knots,i6 xS.Next])]
def lC (xS:Store) (z2:Int):St:=A7 [(1,(pb 1)),(3,(I z2))] [(.box 1,[Dp xS.Vols,BB xS.Arena.Knots,i6 xS.Next])]
def lB (xS:Store):St:=A7 [(1,(pb 1))] [(.box 1,[Dp xS.Vols,BB xS.Arena.Knots,i6 xS.Next])]
def lA (xS:Store) (a:Int) (x1:Vol) (z3:Bool):St:=A7 [(1,(pb 1)),(3,(I a)),(4,(pb 4)),(63,(B z3))] [(.box 1,[Dp xS.Vols,BB xS.Arena.Knots,i6 xS.Next]),(.box 4,[i6 x1.Id,i6 x1.Root])]
def kZ (xS:Store) (a:Int) (x1:Vol) (z4:Int):St:=A7 [(1,(pb 1)),(3,(I a)),(4,(pb 4)),(5,(I z4))] [(.box 1,[Dp xS.Vols,BB xS.Arena.Knots,i6 xS.Next]),(.box 4,[i6 x1.Id,i6 x1.Root])]
def kY (xS:Store) (a:Int):St:=A7 [(1,(pb 1)),(3,(I a))] [(.box 1,[Dp xS.Vols,BB xS.Arena.Knots,i6 xS.Next])]
def kX (xS:Store) (z5:List Cc):St:=A7 [(1,(pb 1)),(6,(pb 6))] [(.box 1,[Dp xS.Vols,BB xS.Arena.Knots,i6 xS.Next]),(.box 6,[By z5])]
theorem VT (xS:Store) (r:Bool) (h:NZ xS=some r):AM Tryz.prog 159 [.sv (.agg (SN false xS))] (B r) (rg 1):=by
 refine gk Tryz.func159 rfl Tryz.ntmps159 (ws (gn 2 0 (Wp.seq (EA h [1,23] [.box 1] (λa=>(lD xS a)) (λa h=>?_) (λj1 h=>?_)))))
 ·refine Ap (Ah 2 0 (RW.q (CR Es xS.Vols) (Ah 2 0 (AK 12 h (λh=>?_) (λh=>?_)))))
  ·exact gn 11 0 (jn h)
  refine Ah 2 0 (RW.c 0 h (Nv _) (λv1 gv1 h=>Ah 3 0 (AK 18 h (λh=>?_) (λh=>?_))))
  ·exact gn 5 0 (jn h)
  exact Ah 2 0 (RW.c 0 h (BR _ _ _) (λv2 gv2 h=>gn 2 0 (jn h)))
 refine wc h (λh=>?_) (λh=>?_)
 ·exact ws (gn 1 0 (Wp.ret (rr h▸rq)))
 refine Wp.skip (Wp.seq (ws (gn 1 0 (DA h [1,3] [.box 1] (λs=>(lC xS s)) [1] [.box 1] (λ_=>(lB xS)) DM ?_ ?_))))
 ·rintro b o (h:Iv xS b=some o) hk1;refine Wp.seq (ws (Ah 3 0 (RW.q (CR Es xS.Vols) (gn 1 0 (wc h (λh=>?_) (λh=>?_))))))
  ·refine Wp.skip (Wp.seq (Wp.block (ws (Ah 3 0 (C9 Es h (λx1 gx1 h=>RW.q (L9 Es gx1 0 2) (gn 2 0 (Wp.seq (EA h [1,3,4,63] [.box 1,.box 4] (λa=>(lA xS b x1 a)) (λa h=>?_) (λj2 h=>?_))))))))))
   ·refine Dr [] mixed (λ_ _=>nP) (Bf [0,1] 0 (Bp 2 (KB.c 0 h (BR _ _ _) (λv3 gv3 h=>Bf [3,4] 0 (Sk 40 h (λh=>?_) (λh=>?_))))))
    ·exact Bf [5,6,7,8,9,10,11,12,13,14,15,16,17,18,19,20,21,22,23,24,25,26,27] 0 (Bc (jn h))
    refine Bf [5,6,7] 0 (Sk 43 h (λh=>?_) (λh=>?_))
    ·refine Bf [8,9,10,11] 0 (bd h λx2 gx2 h=>KW.q 12 (Iz Es gx2) (KW.q 13 (DB Es gx2 0 0) (KW.q 14 (CB Es gx2 0) (Bf [15,16,17,18,19,20] 0 (Sk 56 h (λh=>?_) (λh=>?_))))))
     ·exact Bf [21,22,23,24,25,26,27] 0 (Bc (jn h))
     exact Bf [21,22,23,24] 0 (Bp 25 (KB.c 0 h (Lg _ _) (λv4 gv4 h=>Bf [26,27] 0 (Bc (jn h)))))
    exact Bf [8,9,10,11,12,13,14,15,16,17,18,19,20,21,22,23,24] 0 (Bp 25 (KB.c 0 h (Lg _ _) (λv5 gv5 h=>Bf [26,27] 0 (Bc (jn h)))))
   refine wc h (λh=>?_) (λh=>?_)
   ·exact ws (gn 1 0 (Wp.ret (rr (jo h hk1)▸rq)))
   refine Wp.skip (ws (gn 1 0 (DA h [1,3,4,5] [.box 1,.box 4] (λs=>(kZ xS b x1 s)) [1,3] [.box 1] (λ_=>(kY xS b)) DM ?_ ?_)))
   ·rintro d o (h:Iu xS x1 d=some o) hk2;refine Wp.seq (ws (gn 2 0 (wc h (λh=>?_) (λh=>?_))))
    ·refine Wp.skip (Wp.seq (Wp.block (Wp.seq (Dr [] mixed (λ_ _=>nP) (Bf [0,1,2,3,4,6,7] 0 (Bp 5 (KB.c 0 h (Ys _ _ _) (λv6 gv6 h=>Bf [8] 0 (Bc (wc h (λh=>?_) (λh=>?_)))))))))))
     ·exact ws (gn 1 0 (Wp.ret (rr (jo (jo h hk2) hk1)▸rq)))
     exact Wp.skip (Ap (gn 3 0 (jl h)))
    exact Wp.exit (jx h)
   intro v7 h E hE;exact AW hE (Ap (gn 3 0 (jl h)))
  exact Wp.exit (jx h)
 intro v8 h E hE;refine AW hE (EA h [1,6] [.box 1,.box 6] (λa=>(kX xS a)) (λa h=>?_) (λj3 h=>?_))
 ·refine Dr [9] mixed (λ_ _=>nP) (Bf [0,1,2] 0 (Dj 3 8 ?_ ?_))
  ·refine KB.c 0 h (LP _) (λv10 gv10 h=>Dj 4 8 ?_ ?_)
   ·exact KB.c 0 h (gs (ca rfl (ca (co (cs (rF _))) rfl)) (GB _ _)) (λv12 gv12 h=>oj [5,10] h) (hc:=(.inr (λv=>by simp [BA,BD,AO,B4,ns3,Lr,Er,By,aC])))
   exact KB.o false (Bp 4 (KB.c 0 h (gs (ca rfl (ca (co (cs (rF _))) rfl)) (GB _ _)) (λv13 gv13 h=>Bf [5] 1 (Hs 6 (oj [10] h))) (hc:=(.inr (λv=>by simp [BA,BD,AO,B4,ns3,Lr,Er,By,aC])))))
  exact KB.o false (Bp 3 (KB.c 0 h (LP _) (λv14 gv14 h=>Bp 4 (KB.c 0 h (gs (ca rfl (ca (co (cs (rF _))) rfl)) (GB _ _)) (λv15 gv15 h=>Bf [5] 1 (Hs 6 (oj [10] h))) (hc:=(.inr (λv=>by simp [BA,BD,AO,B4,ns3,Lr,Er,By,aC])))))))
 exact ws (Ah 2 0 (RW.q (CR (Da true) j3) (Ah 3 0 (RW.q (CR (Da false) xS.Arena.Knots) (gn 2 0 (Wp.ret (rr h▸rq)))))))
def yQ (xS:Store) (a:Int) (z1:Int):St:=A7 [(1,(I a)),(2,(pb 2)),(5,(I z1))] [(.box 2,[Dp xS.Vols,BB xS.Arena.Knots,i6 xS.Next])]
def yP:St:=A7 [] []
theorem Kz (xS:Store) (a:Int) (r:Int) (h:He xS a=some r):AM Tryz.prog 93 [.sv (.agg (SN false xS)),.sv (I a)] (I r) (rg 2):=by
 refine gk Tryz.func93 rfl Tryz.ntmps93 (ws (gn 2 0 (Wp.seq (ws (gn 1 0 (DA h [1,2,5] [.box 2] (λs=>(yQ xS a s)) [] [] (λ_=>yP) DM ?_ ?_))))))
 ·rintro b o (h:K0 xS a b=some o) hk1;refine Wp.seq (ws (Ah 3 0 (RW.q (CR Es xS.Vols) (gn 1 0 (wc h (λh=>?_) (λh=>?_))))))
  ·refine Wp.skip (Wp.seq (Wp.block (ws (Ah 3 0 (C9 Es h (λx1 gx1 h=>RW.q (DB Es gx1 0 0) (RW.q (CB Es gx1 0) (gn 2 0 (wc h (λh=>?_) (λh=>?_))))))))))
   ·exact ws (gn 2 0 (Wp.ret (rr (jo h hk1)▸rq)))
   exact Wp.skip (Ap (gn 3 0 (jl h)))
  exact Wp.exit (jx h)
 intro v1 h E hE;exact AW hE (ws (gn 1 0 (Wp.ret (rr h▸rq))))
def rY (xS:Store) (xR:Cu) (z1:Int):St:=A7 [(2,(pb 2)),(3,(pb 3)),(4,(pb 4)),(6,(I z1))] [(.box 2,[Dp xS.Vols,BB xS.Arena.Knots,i6 xS.Next]),(.box 3,[i6 xR.Kind,i6 xR.Vol,i6 xR.Arg,i6 xR.Chunk]),(.box 4,[Do [],By [],i6 0])]
def rX (xS:Store) (xR:Cu) (j1:Int) (z2:Bool):St:=A7 [(2,(pb 2)),(3,(pb 3)),(4,(pb 4)),(6,(I j1)),(39,(B z2))] [(.box 2,[Dp xS.Vols,BB xS.Arena.Knots,i6 xS.Next]),(.box 3,[i6 xR.Kind,i6 xR.Vol,i6 xR.Arg,i6 xR.Chunk]),(.box 4,[Do [],By [],i6 0])]
def rW (xS:Store) (xR:Cu) (j1:Int) (v5:Store) (z3:List Vol) (z4:Int):St:=A7 [(2,(pb 2)),(3,(pb 3)),(4,(pb 4)),(6,(I j1)),(8,(pb 8)),(9,(.one (Do z3))),(10,(I z4))] [(.box 2,[Dp xS.Vols,BB xS.Arena.Knots,i6 xS.Next]),(.box 3,[i6 xR.Kind,i6 xR.Vol,i6 xR.Arg,i6 xR.Chunk]),(.box 4,[Do [],By [],i6 0]),(.box 8,[Do v5.Vols,By v5.Arena.Knots,i6 v5.Next])]
def rV (xS:Store) (xR:Cu) (j1:Int) (v5:Store) (z5:List Vol):St:=A7 [(2,(pb 2)),(3,(pb 3)),(4,(pb 4)),(6,(I j1)),(8,(pb 8)),(9,(.one (Do z5)))] [(.box 2,[Dp xS.Vols,BB xS.Arena.Knots,i6 xS.Next]),(.box 3,[i6 xR.Kind,i6 xR.Vol,i6 xR.Arg,i6 xR.Chunk]),(.box 4,[Do [],By [],i6 0]),(.box 8,[Do v5.Vols,By v5.Arena.Knots,i6 v5.Next])]
def rU (xS:Store) (xR:Cu) (v5:Store) (z6:List Vol) (z7:Int):St:=A7 [(2,(pb 2)),(3,(pb 3)),(4,(pb 4)),(8,(pb 8)),(9,(.one (Do z6))),(11,(I z7))] [(.box 2,[Dp xS.Vols,BB xS.Arena.Knots,i6 xS.Next]),(.box 3,[i6 xR.Kind,i6 xR.Vol,i6 xR.Arg,i6 xR.Chunk]),(.box 4,[Do [],By [],i6 0]),(.box 8,[Do v5.Vols,By v5.Arena.Knots,i6 v5.Next])]
def rQ (v5:Store) (z8:List Vol):St:=A7 [(4,(pb 4)),(8,(pb 8)),(9,(.one (Do z8)))] [(.box 4,[Do [],By [],i6 0]),(.box 8,[Do v5.Vols,By v5.Arena.Knots,i6 v5.Next])]
theorem yO (xS:Store) (xR:Cu) (r:Store×Bool) (h:MB xS xR=some r):AM Tryz.prog 161 [.sv (.agg (SN false xS)),.sv (.agg (V5 xR))] (.tup [(.agg (SN true r.1)),(B r.2)]) (rg 2):=by
 refine gk Tryz.func161 rfl Tryz.ntmps161 (ws (gw 4 0 (gn 1 0 (Wp.seq (ws (gn 3 0 (AB0 h [2,3,4,6] [.box 2,.box 3,.box 4] (λa=>(rY xS xR a)) ?_ ?_)))))))
 ·intro a h e;refine wc h (λh=>?_) (λh=>?_)
  ·refine ws (Ah 3 0 (RW.c 0 h (Kz _ _) (λv1 gv1 h=>gn 1 0 (Wp.seq (ws (gn 2 0 (wc h (λh=>?_) (λh=>?_))))))))
   ·exact ws (Ah 1 0 (RW.c 0 h (Gg _) (λv2 gv2 h=>gn 2 0 (Wp.ret (rr (jr h e)▸rq)))))
   exact Wp.skip (Ap (Ah 3 0 (C9 Es h (λx1 gx1 h=>RW.q (DB Es gx1 0 1) (RW.q (CB Es gx1 1) (gn 1 0 (jm h)))))))
  exact Wp.skip (jm h)
 intro j1 h E hE;refine AW hE (Wp.seq (EA h [2,3,4,6,39] [.box 2,.box 3,.box 4] (λa=>(rX xS xR j1 a)) (λa h=>?_) (λj2 h=>?_)))
 ·refine Ap (Ah 3 0 (RW.c 0 h (Kz _ _) (λv3 gv3 h=>Ah 2 0 (AK 34 h (λh=>?_) (λh=>?_)))))
  ·exact gn 5 0 (jn h)
  exact Ah 2 0 (RW.q (CR Es xS.Vols) (gn 2 0 (jn h)))
 refine wc h (λh=>?_) (λh=>?_)
 ·exact ws (Ah 1 0 (RW.c 0 h (Gg _) (λv4 gv4 h=>gn 2 0 (Wp.ret (rr h▸rq)))))
 refine Wp.skip (ws (Ah 1 0 (RW.c 0 h (Gg _) (λv5 gv5 h=>gw 2 0 (gn 2 2 (Wp.seq (ws (gn 1 0 (BQ h [2,3,4,6,8,9,10] [.box 2,.box 3,.box 4,.box 8] (λs=>(rW xS xR j1 v5 s.1 s.2)) [2,3,4,6,8,9] [.box 2,.box 3,.box 4,.box 8] (λs=>(rV xS xR j1 v5 s)) DM ?_ ?_)))))))))
 ·rintro⟨b,f⟩ o (h:Lf xS xR b f=some o);refine Wp.seq (ws (Ah 3 0 (RW.q (CR Es xS.Vols) (gn 1 0 (wc h (λh=>?_) (λh=>?_))))))
  ·refine Wp.skip (Wp.seq (Wp.block (Wp.seq (Kt mixed (D3 3 (bd h λx2 gx2 h=>SW.q (Iz Es gx2) (SW.q (DB Es gx2 0 0) (SW.q (CB Es gx2 0) (D3 3 (SW.nil (wc h (λh=>?_) (λh=>?_))))))))))))
   ·exact Ap (Ah 4 0 (C9 Es h (λx3 gx3 h=>RW.q (L9 Es gx3 0 2) (Ah 1 0 (bd h λq1 gq1 h=>CI (Dk Es (λ_=>rfl) b gq1) (gn 1 1 (Ap (gn 3 0 (jl h)))))))))
   exact Wp.skip (Ap (gn 3 0 (jl h)))
  exact Wp.exit (jv h)
 intro v6 h E hE;refine AW hE (ws (Ah 6 0 (bd h λq2 gq2 h=>CI (Dk Es (λ_=>rfl) v6 gq2) (gn 1 1 (Wp.seq (ws (gn 1 0 (BQ h [2,3,4,8,9,11] [.box 2,.box 3,.box 4,.box 8] (λs=>(rU xS xR v5 s.1 s.2)) [4,8,9] [.box 4,.box 8] (λs=>(rQ v5 s)) DM ?_ ?_))))))))
 ·rintro⟨d,g⟩ o (h:Le xS xR d g=some o);refine Wp.seq (ws (Ah 3 0 (RW.q (CR Es xS.Vols) (gn 1 0 (wc h (λh=>?_) (λh=>?_))))))
  ·refine Wp.skip (Wp.seq (Wp.block (Wp.seq (Kt mixed (D3 3 (bd h λx4 gx4 h=>SW.q (Iz Es gx4) (SW.q (DB Es gx4 0 0) (SW.q (CB Es gx4 0) (D3 3 (SW.nil (wc h (λh=>?_) (λh=>?_))))))))))))
   ·exact Ap (Ah 4 0 (C9 Es h (λx5 gx5 h=>RW.q (L9 Es gx5 0 2) (Ah 1 0 (bd h λq3 gq3 h=>CI (Dk Es (λ_=>rfl) d gq3) (gn 1 1 (Ap (gn 3 0 (jl h)))))))))
   exact Wp.skip (Ap (gn 3 0 (jl h)))
  exact Wp.exit (jv h)
 intro v7 h E hE;exact AW hE (ws (gw 3 0 (gn 3 0 (Wp.ret (rr h▸rq)))))
def bK (xS:Store) (z1:List Int) (z2:List Cc):St:=A7 [(1,(pb 1)),(2,(pb 2)),(3,(pb 3)),(4,(.one (Er z1)))] [(.box 1,[Dp xS.Vols,BB xS.Arena.Knots,i6 xS.Next]),(.box 2,[Do [],By [],i6 0]),(.box 3,[By z2])]
def bJ (xS:Store) (j1:List Int×List Cc) (z3:List Vol):St:=A7 [(2,(pb 2)),(4,(.one (Er j1.1))),(5,(pb 5))] [(.box 2,[Do [],By [],i6 0]),(.box 5,[Do z3,By j1.2,i6 xS.Next])]
def bI (xS:Store) (j1:List Int×List Cc) (z4:Int) (z5:List Vol):St:=A7 [(2,(pb 2)),(4,(.one (Er j1.1))),(5,(pb 5)),(6,(I z4))] [(.box 2,[Do [],By [],i6 0]),(.box 5,[Do z5,By j1.2,i6 xS.Next])]
def bH (xS:Store) (j1:List Int×List Cc) (z6:List Vol):St:=A7 [(2,(pb 2)),(5,(pb 5))] [(.box 2,[Do [],By [],i6 0]),(.box 5,[Do z6,By j1.2,i6 xS.Next])]
theorem OH (xS:Store) (r:Store) (h:Hd xS=some r):AM Tryz.prog 162 [.sv (.agg (SN false xS))] (.agg (SN true r)) (rg 1):=by
 refine gk Tryz.func162 rfl Tryz.ntmps162 (ws (gn 2 0 (EA h [1,2,3,4] [.box 1,.box 2,.box 3] (λa=>(bK xS a.1 a.2)) (λa h=>?_) (λj1 h=>?_))))
 ·refine Dr [9] mixed (λ_ _=>nP) (Bf [0,1,2] 0 (Dj 3 8 ?_ ?_))
  ·refine KB.c 0 h (LP _) (λv2 gv2 h=>Dj 4 8 ?_ ?_)
   ·exact KB.c 0 h (gs (ca rfl (ca (co (cs (rF _))) rfl)) (GB _ _)) (λv4 gv4 h=>oj [5,10] h) (hc:=(.inr (λv=>by simp [BA,BD,AO,B4,ns3,Lr,Er,By,aC])))
   exact KB.o false (Bp 4 (KB.c 0 h (gs (ca rfl (ca (co (cs (rF _))) rfl)) (GB _ _)) (λv5 gv5 h=>Bf [5] 1 (Hs 6 (oj [10] h))) (hc:=(.inr (λv=>by simp [BA,BD,AO,B4,ns3,Lr,Er,By,aC])))))
  exact KB.o false (Bp 3 (KB.c 0 h (LP _) (λv6 gv6 h=>Bp 4 (KB.c 0 h (gs (ca rfl (ca (co (cs (rF _))) rfl)) (GB _ _)) (λv7 gv7 h=>Bf [5] 1 (Hs 6 (oj [10] h))) (hc:=(.inr (λv=>by simp [BA,BD,AO,B4,ns3,Lr,Er,By,aC])))))))
 refine EA h [2,4,5] [.box 2,.box 5] (λa=>(bJ xS j1 a)) (λa h=>?_) (λj2 h=>?_)
 ·refine Dr [9] mixed (λ_ _=>nP) (Bf [1,2,4,5,6] 0 (Dj 0 8 ?_ ?_))
  ·refine AA6 (Dj 3 8 ?_ ?_)
   ·exact bd h λq1 gq1 h=>qM (Dk Es (λ_=>rfl) [] gq1) (Bf [7,8,9] 0 (Bc (jn h)))
   exact KB.o false (Bp 3 (bd h λq2 gq2 h=>qM (Dk Es (λ_=>rfl) [] gq2) (Bf [7,9] 0 (Bc (jn h)))))
  exact KB.o false (Bp 0 (AA6 (Bp 3 (bd h λq3 gq3 h=>qM (Dk Es (λ_=>rfl) [] gq3) (Bf [7,9] 0 (Bc (jn h)))))))
 refine Wp.seq (ws (gn 1 0 (BQ h [2,4,5,6] [.box 2,.box 5] (λs=>(bI xS j1 s.1 s.2)) [2,5] [.box 2,.box 5] (λs=>(bH xS j1 s)) DM ?_ ?_)))
 ·rintro⟨d,b⟩ o (h:IL j1 d b=some o);refine Wp.seq (ws (Ah 3 0 (RW.q (CR Es b) (gn 1 0 (wc h (λh=>?_) (λh=>?_))))))
  ·exact Wp.skip (Wp.seq (Wp.block (Sh 9 mixed (D3 5 (bd h λx1 gx1 h=>SW.q (Iz k3 gx1) (SW.q (CB k3 gx1 0) (bd h λx2 gx2 h=>SW.q (Iz Es gx2) (SW.q (DB Es gx2 0 1) (SW.nil (CI (Nd Es gx2 1 0 (Vol.mk x2.Id x1)) (RW.nil (Ap (gn 3 0 (jl h))))))))))))))
  exact Wp.exit (jv h)
 intro v8 h E hE;exact AW hE (ws (gn 2 0 (Wp.ret (rr h▸rq))))
def zI (xA:Arena) (b:Int) (a:Int) (xN:Int) (v1:Arena) (z1:Bool):St:=A7 [(1,(I b)),(2,(I a)),(3,(I xN)),(4,(pb 4)),(8,(pb 8)),(10,(pb 10)),(33,(B z1))] [(.box 4,[BB xA.Knots]),(.box 8,[By []]),(.box 10,[By v1.Knots])]
def zH (a:Int) (xN:Int) (v1:Arena) (z2:List Int) (z3:List Int):St:=A7 [(2,(I a)),(3,(I xN)),(8,(pb 8)),(10,(pb 10)),(11,(pb 11)),(12,(pb 12))] [(.box 8,[By []]),(.box 10,[By v1.Knots]),(.box 11,[tb true,Er z2]),(.box 12,[tb false,Er z3])]
theorem gD (xA:Arena) (d:Int) (b:Int) (xN:Int) (r:Arena×Int) (h:Xv xA d b xN=some r):AM Tryz.prog 163 [.sv (.agg (aC false xA)),.sv (I d),.sv (I b),.sv (I xN)] (.tup [(.agg (aC false r.1)),(I r.2)]) (rg 4):=by
 refine gk Tryz.func163 rfl Tryz.ntmps163 (ws (gw 3 0 (Ah 1 0 (RW.c 0 h (Qq _) (λv1 gv1 h=>gn 2 0 (Wp.seq (EA h [1,2,3,4,8,10,33] [.box 4,.box 8,.box 10] (λa=>(zI xA d b xN v1 a)) (λa h=>?_) (λj1 h=>?_))))))))
 ·refine Ap (Ah 1 0 (RW.c 0 h (Nv _) (λv2 gv2 h=>Ah 2 0 (AK 19 h (λh=>?_) (λh=>?_)))))
  ·exact gn 14 0 (jn h)
  refine Ah 2 0 (RW.c 0 h (Lg _ _) (λv3 gv3 h=>Ah 3 0 (AK 25 h (λh=>?_) (λh=>?_))))
  ·exact gn 8 0 (jn h)
  refine Ah 1 0 (RW.c 0 h (BR _ _ _) (λv4 gv4 h=>Ah 3 0 (AK 30 h (λh=>?_) (λh=>?_))))
  ·exact gn 3 0 (jn h)
  exact gn 3 0 (jn h)
 refine wc h (λh=>?_) (λh=>?_)
 ·exact ws (gn 4 0 (Wp.fz (.box 8) 0 (Dt v1.Knots) (Wp.ret (rr h▸rq))))
 refine Wp.skip (ws (bd h λq1 gq1 h=>CI (fmk k3 0 gq1) (gw 3 0 (gn 4 0 (Wp.seq (ws (gn 2 0 (IE h [2,3,8,10,11,12] [.box 8,.box 10,.box 11,.box 12] (λa=>(zH b xN v1 a.1 a.2)) ?_ ?_))))))))
 ·intro a h;refine wc h (λh=>?_) (λh=>?_)
  ·refine ws (Ah 4 0 (C9 (Da false) h (λx1 gx1 h=>RW.q (DB (Da false) gx1 0 1) (RW.q (CB (Da false) gx1 1) (bd h λq2 gq2 h=>CI (Dk k3 (λ_=>rfl) [] gq2) (gw 2 0 (Ah 4 0 (C9 k3 h (λx2 gx2 h=>RW.q (CB k3 gx2 0) (gw 1 0 (gn 2 0 (wc h (λh=>?_) (λh=>?_)))))))))))))
   ·exact Ap (Ah 4 0 (C9 (Da false) h (λx3 gx3 h=>RW.q (DB (Da false) gx3 0 1) (RW.q (CB (Da false) gx3 1) (bd h λq3 gq3 h=>CI (Dk k3 (λ_=>rfl) [] gq3) (gn 2 0 (jn h)))))))
   exact Wp.skip (jn h)
  exact Wp.skip (jn h)
 intro j2 h E hE;refine AW hE (ws (Ah 5 0 (C9 k3 h (λx4 gx4 h=>CI (Nd k3 gx4 0 1 xN) (RW.nil (ws (Ah 6 0 (RW.q (CR (Da true) v1.Knots) (C9 k3 h (λx5 gx5 h=>CI (Nd k3 gx5 0 1 (ln v1.Knots)) (RW.nil (ws (Ah 5 0 (bd h λq4 gq4 h=>CI (pX (Da true) v1.Knots [(Cc.mk true (si j2.1 (Int.tmod b 4) xN)),(Cc.mk false (si j2.2 (qu b 4) (ln v1.Knots)))] gq4) (RW.fz (.slot 87) 0 (Dt q4) (gn 2 0 (Wp.seq (Dr [5] mixed (λ_ _=>nP) (Bf [0] 0 (Dj 1 5 ?_ ?_))))))))))))))))))))
 ·refine KB.o false (Dj 2 5 ?_ ?_)
  ·refine KB.o false (Dj 3 5 ?_ ?_)
   ·refine KB.q (CR (Da false) q4) (Dj 4 5 ?_ ?_)
    ·exact KB.o false (Bf [5,6] 0 (Bc (Wp.ret (rr h▸rq))))
    exact KB.o false (Bf [4,6] 0 (Bc (Wp.ret (rr h▸rq))))
   exact KB.o false (Bp 3 (KB.q (CR (Da false) q4) (Bf [4,6] 0 (Bc (Wp.ret (rr h▸rq))))))
  exact KB.o false (Bf [2] 0 (Bp 3 (KB.q (CR (Da false) q4) (Bf [4,6] 0 (Bc (Wp.ret (rr h▸rq)))))))
 exact KB.o false (Bf [1,2] 0 (Bp 3 (KB.q (CR (Da false) q4) (Bf [4,6] 0 (Bc (Wp.ret (rr h▸rq)))))))
def zP (xS:Store) (xR:Cu) (z1:Bool):St:=A7 [(2,(pb 2)),(3,(pb 3)),(4,(pb 4)),(18,(B z1))] [(.box 2,[Dp xS.Vols,BB xS.Arena.Knots,i6 xS.Next]),(.box 3,[i6 xR.Kind,i6 xR.Vol,i6 xR.Arg,i6 xR.Chunk]),(.box 4,[Do [],By [],i6 0])]
def zO (z2:Int):St:=A7 [(4,(pb 4)),(6,(I z2))] [(.box 4,[Do [],By [],i6 0])]
def zN (xS:Store) (xR:Cu) (v5:Int) (z3:Bool):St:=A7 [(2,(pb 2)),(3,(pb 3)),(4,(pb 4)),(7,(I v5)),(48,(B z3))] [(.box 2,[Dp xS.Vols,BB xS.Arena.Knots,i6 xS.Next]),(.box 3,[i6 xR.Kind,i6 xR.Vol,i6 xR.Arg,i6 xR.Chunk]),(.box 4,[Do [],By [],i6 0])]
def zM (xR:Cu) (v5:Int) (v7:Store) (z4:Int) (z5:List Cc):St:=A7 [(3,(pb 3)),(4,(pb 4)),(7,(I v5)),(8,(pb 8)),(9,(pb 9)),(10,(I z4))] [(.box 3,[i6 xR.Kind,i6 xR.Vol,i6 xR.Arg,i6 xR.Chunk]),(.box 4,[Do [],By [],i6 0]),(.box 8,[Do v7.Vols,By v7.Arena.Knots,i6 v7.Next]),(.box 9,[BB z5])]
theorem gF (xS:Store) (xR:Cu) (r:Store×Bool) (h:Xw xS xR=some r):AM Tryz.prog 92 [.sv (.agg (SN false xS)),.sv (.agg (V5 xR))] (.tup [(.agg (SN true r.1)),(B r.2)]) (rg 2):=by
 refine gk Tryz.func92 rfl Tryz.ntmps92 (ws (gn 4 0 (Wp.seq (EA h [2,3,4,18] [.box 2,.box 3,.box 4] (λa=>(zP xS xR a)) (λa h=>?_) (λj1 h=>?_)))))
 ·refine Ap (Ah 1 0 (RW.c 0 h (VT _) (λv1 gv1 h=>Ah 2 0 (AK 14 h (λh=>?_) (λh=>?_)))))
  ·exact gn 4 0 (jn h)
  exact Ah 1 0 (RW.c 0 h (Ve _) (λv2 gv2 h=>gn 2 0 (jn h)))
 refine wc h (λh=>?_) (λh=>?_)
 ·exact ws (Ah 1 0 (RW.c 0 h (Gg _) (λv3 gv3 h=>gn 2 0 (Wp.ret (rr h▸rq)))))
 refine Wp.skip (Wp.seq (ws (gn 2 0 (Wp.block (ws (gn 2 0 (wc h (λh=>?_) (λh=>?_))))))))
 ·refine ws (gn 3 0 (Wp.seq (ws (gn 2 0 (IE h [4,6] [.box 4] (λa=>(zO a)) ?_ ?_)))))
  ·intro a h;refine wc h (λh=>?_) (λh=>?_)
   ·exact Ap (gn 1 0 (jn h))
   exact Wp.skip (jn h)
  intro j2 h E hE;exact AW hE (ws (gn 4 0 (Wp.ret (rr h▸rq))))
 refine ws (gn 2 0 (wc h (λh=>?_) (λh=>?_)))
 ·exact ws (Ah 2 0 (RW.c 0 h (yO _ _) (λv4 gv4 h=>gn 4 0 (Wp.ret (rr h▸rq)))))
 refine Wp.skip (ws (Ah 3 0 (RW.c 0 h (Kz _ _) (λv5 gv5 h=>gn 1 0 (Wp.seq (EA h [2,3,4,7,48] [.box 2,.box 3,.box 4] (λa=>(zN xS xR v5 a)) (λa h=>?_) (λj3 h=>?_)))))))
 ·refine Ap (Ah 3 0 (AK 44 h (λh=>?_) (λh=>?_)))
  ·exact gn 4 0 (jn h)
  exact gn 4 0 (jn h)
 refine wc h (λh=>?_) (λh=>?_)
 ·exact ws (Ah 1 0 (RW.c 0 h (Gg _) (λv6 gv6 h=>gn 2 0 (Wp.ret (rr h▸rq)))))
 refine Wp.skip (ws (Ah 1 0 (RW.c 0 h (Gg _) (λv7 gv7 h=>gn 2 0 (Wp.seq (ws (gn 3 0 (wc h (λh=>?_) (λh=>?_)))))))))
 ·exact Wp.seq (Dr [11,13] mixed (λ_ _=>nP) (Bf [1,2,3] 0 (bd h λx1 gx1 h=>KW.q 4 (pdr Es 53 gx1) (Bf [6,7,8,9] 0 (bd h λx2 gx2 h=>KW.q 10 (AIB Es 53 gx2) (Bp 0 (AA6 (Bp 5 (bd h λq1 gq1 h=>qM (Dk Es (λ_=>rfl) [] gq1) (Bp 11 (bd h λq2 gq2 h=>L5 (Dk Es (λ_=>rfl) q1 gq2) (Bf [12,13] 0 (Bc (ws (Ah 1 0 (RW.c 0 h (gs (ca (ZX (ca (cs (Fz _)) (ca (cs (Dt _)) rfl))) rfl) (OH _)) (λv8 gv8 h=>gn 2 0 (Wp.ret (rr h▸rq))) (hc:=(.inr (λv=>by simp [BA,BD,AO,B4,Zh,Lr,Do,By,SN])))))))))))))))))))
 refine Wp.skip (EA h [3,4,7,8,9,10] [.box 3,.box 4,.box 8,.box 9] (λa=>(zM xR v5 v7 a.1 a.2)) (λa h=>?_) (λj4 h=>?_))
 ·refine Dr [17] mixed (λ_ _=>nP) (Bf [0,1,2,3,4] 0 (bd h λx3 gx3 h=>KW.q 5 (Iz Es gx3) (KW.q 6 (DB Es gx3 0 1) (KW.q 7 (CB Es gx3 1) (Bf [8,9,10,11] 0 (Dj 12 16 ?_ ?_))))))
  ·exact KB.c 0 h (gD _ _ _ _) (λv10 gv10 h=>oj [13] h)
  exact KB.o false (Bp 12 (KB.c 0 h (gD _ _ _ _) (λv11 gv11 h=>Bf [13] 1 (Hs 14 (oj [] h)))))
 refine ws (gw 3 0 (Ah 4 0 (C9 Es h (λx4 gx4 h=>RW.q (DB Es gx4 0 1) (CI (Nd Es gx4 1 0 (Vol.mk x4.Id j4.1)) (RW.nil (Wp.seq (ws (gn 5 0 (wc h (λh=>?_) (λh=>?_)))))))))))
 ·exact Ap (gw 5 0 (Ah 1 0 (RW.c 0 h (gs (ca (ZX (ca (cs (Fz _)) rfl)) rfl) (OH _)) (λv12 gv12 h=>gn 2 0 (Wp.ret (rr h▸rq))) (hc:=(.inr (λv=>by simp [BA,BD,AO,B4,Zh,Lr,Do,By,SN]))))))
 exact Wp.skip (ws (Ah 1 0 (RW.c 0 h (gs (ca (ZX (ca (cs (Fz _)) rfl)) rfl) (OH _)) (λv13 gv13 h=>gn 2 0 (Wp.ret (rr h▸rq))) (hc:=(.inr (λv=>by simp [BA,BD,AO,B4,Zh,Lr,Do,By,SN]))))))
def dF (xS:Store) (a:List Cu) (z1:Int) (z2:List Vol) (z3:List Cc) (z4:Int):St:=A7 [(1,(.one (Oe a))),(2,(pb 2)),(4,(pb 4)),(6,(pb 6)),(7,(I z1))] [(.box 2,[Dp xS.Vols,BB xS.Arena.Knots,i6 xS.Next]),(.box 4,[Do [],By [],i6 0]),(.box 6,[Do z2,By z3,i6 z4])]
def dE (z5:List Vol) (z6:List Cc) (z7:Int):St:=A7 [(4,(pb 4)),(6,(pb 6))] [(.box 4,[Do [],By [],i6 0]),(.box 6,[Do z5,By z6,i6 z7])]
def dD (xS:Store) (d:List Cu) (e:Int) (a:List Vol) (b:List Cc) (c:Int) (z8:Bool) (z9:List Vol) (z10:List Cc) (z11:Int):St:=A7 [(1,(.one (Oe d))),(2,(pb 2)),(4,(pb 4)),(6,(pb 6)),(7,(I e)),(8,(pb 8)),(9,(B z8))] [(.box 2,[Dp xS.Vols,BB xS.Arena.Knots,i6 xS.Next]),(.box 4,[Do [],By [],i6 0]),(.box 6,[Do a,By b,i6 c]),(.box 8,[Do z9,By z10,i6 z11])]
theorem mW (xS:Store) (b:List Cu) (r:Store×Bool) (h:OQ xS b=some r):AM Tryz.prog 54 [.sv (.agg (SN false xS)),.sv (.one (Oe b))] (.tup [(.agg (SN true r.1)),(B r.2)]) (rg 2):=by
 refine gk Tryz.func54 rfl Tryz.ntmps54 (ws (gw 3 0 (Ah 1 0 (RW.c 0 h (Gg _) (λv1 gv1 h=>gn 2 0 (Wp.seq (ws (gn 1 0 (DA h [1,2,4,6,7] [.box 2,.box 4,.box 6] (λs=>(dF xS b s.1 s.2.1 s.2.2.1 s.2.2.2)) [4,6] [.box 4,.box 6] (λs=>(dE s.1 s.2.1 s.2.2)) DM ?_ ?_)))))))))
 ·rintro⟨g,d,e,f⟩ o (h:Hy xS b g d e f=some o) hk1;refine Wp.seq (ws (Ah 2 0 (RW.q (CR Ho b) (gn 1 0 (wc h (λh=>?_) (λh=>?_))))))
  ·refine Wp.skip (Wp.seq (Wp.block (EA h [1,2,4,6,7,8,9] [.box 2,.box 4,.box 6,.box 8] (λa=>(dD xS b g d e f a.1 a.2.1 a.2.2.1 a.2.2.2)) (λa h=>?_) (λj1 h=>?_))))
   ·refine Dr [10] mixed (λ_ _=>nP) (Bf [0,1,2] 0 (bd h λx1 gx1 h=>KW.q 3 (Iz Ho gx1) (KW.q 4 (L9 Ho gx1 0 4) (Dj 5 9 ?_ ?_))))
    ·exact KB.c 0 h (gs (ca (ZX (ca (cs (Fz _)) (ca (cs (Dt _)) rfl))) rfl) (gF _ _)) (λv3 gv3 h=>oj [6] h) (hc:=(.inr (λv=>by simp [BA,BD,AO,B4,Zh,Lr,Do,By,SN])))
    exact KB.o false (Bp 5 (KB.c 0 h (gs (ca (ZX (ca (cs (Fz _)) (ca (cs (Dt _)) rfl))) rfl) (gF _ _)) (λv4 gv4 h=>Bf [6] 1 (Hs 7 (oj [] h))) (hc:=(.inr (λv=>by simp [BA,BD,AO,B4,Zh,Lr,Do,By,SN])))))
   refine Wp.seq (ws (gn 2 0 (wc h (λh=>?_) (λh=>?_))))
   ·exact ws (Ah 1 0 (RW.c 0 h (Gg _) (λv5 gv5 h=>gn 2 0 (Wp.ret (rr (jo h hk1)▸rq)))))
   exact Wp.skip (Ap (gn 2 0 (Ap (gn 3 0 (jl h)))))
  exact Wp.exit (jx h)
 intro v6 h E hE;exact AW hE (ws (gn 3 0 (Wp.ret (rr h▸rq))))
def QZ (o:Bool) (x:AH):List TV:=[.sl o 104 3 (AU (Ut o) x.Flash.Blocks),.sl o 53 2 (AU c53 x.Store.Vols),.sl o 223 2 (AU (aD o) x.Store.Arena.Knots),i6 x.Store.Next,i6 x.Seq,i6 x.Tx,i6 x.Base]
def cZ (v2:List As) (v3:Flash) (v4:Store) (z1:Int) (z2:Int) (z3:Int):St:=A7 [(2,(pb 2)),(4,(.one (Hg v2))),(5,(pb 5)),(6,(I z1))] [(.box 2,[BW [],Do [],By [],i6 0,i6 0,i6 0,i6 0]),(.box 5,[BW v3.Blocks,Do v4.Vols,By v4.Arena.Knots,i6 v4.Next,i6 z2,i6 z3,i6 0])]
def cY (v2:List As) (v3:Flash) (v4:Store) (z4:Int) (z5:Int):St:=A7 [(2,(pb 2)),(4,(.one (Hg v2))),(5,(pb 5))] [(.box 2,[BW [],Do [],By [],i6 0,i6 0,i6 0,i6 0]),(.box 5,[BW v3.Blocks,Do v4.Vols,By v4.Arena.Knots,i6 v4.Next,i6 z4,i6 z5,i6 0])]
def cX (v2:List As) (v3:Flash) (v4:Store) (b:Int) (a:Int) (z6:Int):St:=A7 [(2,(pb 2)),(4,(.one (Hg v2))),(5,(pb 5)),(6,(I b))] [(.box 2,[BW [],Do [],By [],i6 0,i6 0,i6 0,i6 0]),(.box 5,[BW v3.Blocks,Do v4.Vols,By v4.Arena.Knots,i6 v4.Next,i6 z6,i6 a,i6 0])]
def cW (v2:List As) (v3:Flash) (v4:Store) (b:Int) (a:Int) (j1:Int) (z7:Bool):St:=A7 [(2,(pb 2)),(4,(.one (Hg v2))),(5,(pb 5)),(6,(I b)),(59,(B z7))] [(.box 2,[BW [],Do [],By [],i6 0,i6 0,i6 0,i6 0]),(.box 5,[BW v3.Blocks,Do v4.Vols,By v4.Arena.Knots,i6 v4.Next,i6 j1,i6 a,i6 0])]
def cV (v3:Flash) (v5:Int×Int) (v7:List Tx) (z8:Int) (z9:List Vol) (z10:List Cc) (z11:Int) (z12:Int):St:=A7 [(2,(pb 2)),(5,(pb 5)),(7,(.one (AAf v7))),(8,(I z8))] [(.box 2,[BW [],Do [],By [],i6 0,i6 0,i6 0,i6 0]),(.box 5,[BW v3.Blocks,Do z9,By z10,i6 z11,i6 v5.1,i6 v5.2,i6 z12])]
def cU (v3:Flash) (v5:Int×Int) (z13:List Vol) (z14:List Cc) (z15:Int) (z16:Int):St:=A7 [(2,(pb 2)),(5,(pb 5))] [(.box 2,[BW [],Do [],By [],i6 0,i6 0,i6 0,i6 0]),(.box 5,[BW v3.Blocks,Do z13,By z14,i6 z15,i6 v5.1,i6 v5.2,i6 z16])]
def cT (v3:Flash) (v5:Int×Int) (v7:List Tx) (d:Int) (a:List Vol) (b:List Cc) (c:Int) (z17:Int):St:=A7 [(2,(pb 2)),(5,(pb 5)),(7,(.one (AAf v7))),(8,(I d))] [(.box 2,[BW [],Do [],By [],i6 0,i6 0,i6 0,i6 0]),(.box 5,[BW v3.Blocks,Do a,By b,i6 c,i6 v5.1,i6 v5.2,i6 z17])]
theorem LT (xF:Flash) (r:AH×Bool) (h:D8 xF=some r):AM Tryz.prog 19 [.sv (.agg (LH false xF))] (.tup [(.agg (QZ true r.1)),(B r.2)]) (rg 1):=by
 refine gk Tryz.func19 rfl Tryz.ntmps19 (ws (gn 3 0 (Wp.seq (ws (Ah 1 0 (RW.c 0 h (Nt _) (λv1 gv1 h=>gn 1 0 (wc h (λh=>?_) (λh=>?_)))))))))
 ·exact ws (gn 3 0 (Wp.ret (rr h▸rq)))
 refine Wp.skip (ws (Ah 1 0 (RW.c 0 h (HS _) (λv2 gv2 h=>gw 1 1 (Ah 1 0 (RW.c 0 h (Fj _) (λv3 gv3 h=>RW.c 0 h (lE) (λv4 gv4 h=>gn 3 0 (Wp.seq (ws (gn 1 0 (BQ h [2,4,5,6] [.box 2,.box 5] (λs=>(cZ v2 v3 v4 s.1 s.2.1 s.2.2)) [2,4,5] [.box 2,.box 5] (λs=>(cY v2 v3 v4 s.1 s.2)) DM ?_ ?_))))))))))))
 ·rintro⟨g,i,b⟩ o (h:Hx v2 g i b=some o);refine Wp.seq (ws (Ah 2 0 (RW.q (CR Eo v2) (gn 1 0 (wc h (λh=>?_) (λh=>?_))))))
  ·refine Wp.skip (Wp.seq (Wp.block (Wp.seq (Wp.seq (Kt mixed (D3 2 (bd h λx1 gx1 h=>SW.q (Iz Eo gx1) (SW.q (DB Eo gx1 0 2) (SW.q (DB Eo gx1 2 3) (SW.q (CB Eo gx1 3) (D3 3 (SW.nil (IE h [2,4,5,6] [.box 2,.box 5] (λa=>(cX v2 v3 v4 g b a)) ?_ ?_)))))))))))))
   ·intro a h;refine wc h (λh=>?_) (λh=>?_)
    ·exact Ap (Ah 2 0 (C9 Eo h (λx2 gx2 h=>RW.q (DB Eo gx2 0 2) (RW.q (DB Eo gx2 2 3) (RW.q (CB Eo gx2 3) (gn 3 0 (jn h)))))))
    exact Wp.skip (jn h)
   intro j1 h E hE;refine AW hE (EA h [2,4,5,6,59] [.box 2,.box 5] (λa=>(cW v2 v3 v4 g b j1 a)) (λa h=>?_) (λj2 h=>?_))
   ·refine Kt mixed (D3 2 (bd h λx3 gx3 h=>SW.q (Iz Eo gx3) (SW.q (DB Eo gx3 0 2) (SW.q (DB Eo gx3 2 2) (SW.q (CB Eo gx3 2) (D3 2 (iX 49 h (λh=>?_) (λh=>?_))))))))
    ·exact D3 2 (bd h λx4 gx4 h=>SW.q (Iz Eo gx4) (SW.q (DB Eo gx4 0 2) (SW.q (DB Eo gx4 2 4) (SW.q (CB Eo gx4 4) (D3 4 (SW.nil (jn h)))))))
    exact D3 10 (SW.nil (jn h))
   refine wc h (λh=>?_) (λh=>?_)
   ·exact Ap (Ah 2 0 (C9 Eo h (λx5 gx5 h=>RW.q (DB Eo gx5 0 2) (RW.q (DB Eo gx5 2 4) (RW.q (CB Eo gx5 4) (gn 3 0 (Ap (gn 3 0 (jl h)))))))))
   exact Wp.skip (Ap (gn 3 0 (jl h)))
  exact Wp.exit (jv h)
 intro v5 h E hE;refine AW hE (ws (Ah 1 0 (RW.c 0 h (gs (ca (co (cs (W3 _))) rfl) (YQ _)) (λv6 gv6 h=>RW.c 0 h (gs (ca (co (cs (AGV _))) rfl) (cD _)) (λv7 gv7 h=>RW.fz (.slot 70) 0 (AGV v7) (gn 1 0 (Wp.seq (ws (gn 1 0 (BQ h [2,5,7,8] [.box 2,.box 5] (λs=>(cV v3 v5 v7 s.1 s.2.1 s.2.2.1 s.2.2.2.1 s.2.2.2.2)) [2,5] [.box 2,.box 5] (λs=>(cU v3 v5 s.1 s.2.1 s.2.2.1 s.2.2.2)) DM ?_ ?_)))))) (hc:=(.inr (λv=>by simp [BA,BD,AO,B4,AFA,TH])))) (hc:=(.inr (λv=>by simp [BA,BD,AO,B4,AFA,TH]))))))
 ·rintro⟨j,d,e,f,k⟩ o (h:Hw v7 j d e f k=some o);refine Wp.seq (ws (Ah 2 0 (RW.q (CR (PT false) v7) (gn 1 0 (wc h (λh=>?_) (λh=>?_))))))
  ·refine Wp.skip (Wp.seq (Wp.block (Wp.seq (ws (gn 2 0 (IE h [2,5,7,8] [.box 2,.box 5] (λa=>(cT v3 v5 v7 j d e f a)) ?_ ?_))))))
   ·intro a h;refine wc h (λh=>?_) (λh=>?_)
    ·exact Ap (Ah 2 0 (C9 (PT false) h (λx6 gx6 h=>RW.q (DB (PT false) gx6 0 0) (RW.q (CB (PT false) gx6 0) (gn 2 0 (jn h))))))
    exact Wp.skip (jn h)
   intro j3 h E hE;refine AW hE (Dr [12] mixed (λ_ _=>nP) (Bf [0,1,2,3] 0 (bd h λx7 gx7 h=>KW.q 4 (Iz (PT false) gx7) (KW.q 5 (DB (PT false) gx7 0 2) (KW.q 6 (CB (PT false) gx7 2) (Bp 7 (KB.c 0 h (gs (ca (ZX (ca (cs (Fz _)) (ca (cs (Dt _)) rfl))) rfl) (mW _ _)) (λv8 gv8 h=>Bf [8] 1 (Hs 9 (Bf [11] 0 (Dj 10 12 ?_ ?_)))) (hc:=(.inr (λv=>by simp [BA,BD,AO,B4,Zh,Lr,Do,By,SN]))))))))))
   ·exact KB.o false (Bf [12] 0 (Bc (Ap (gn 3 0 (jl h)))))
   exact KB.o false (Bf [10] 0 (Bc (Ap (gn 3 0 (jl h)))))
  exact Wp.exit (jv h)
 intro v9 h E hE;exact AW hE (ws (gn 3 0 (Wp.ret (rr h▸rq))))
theorem dG (a:Int) (r:AH×Bool) (h:Nu a=some r):AM Tryz.prog 60 [.sv (I a)] (.tup [(.agg (QZ true r.1)),(B r.2)]) (rg 1):=by
 refine gk Tryz.func60 rfl Tryz.ntmps60 (ws (gw 2 0 (Ah 1 0 (RW.c 0 h (mT _) (λv1 gv1 h=>gn 6 1 (Wp.seq (ws (gn 2 0 (wc h (λh=>?_) (λh=>?_))))))))))
 ·exact ws (gn 3 0 (Wp.ret (rr h▸rq)))
 exact Wp.skip (ws (Ah 1 0 (RW.c 0 h (gs (ca (ZX (ca (cs (CZ _)) rfl)) rfl) (LT _)) (λv2 gv2 h=>gn 4 0 (Wp.ret (rr h▸rq))) (hc:=(.inr (λv=>by simp [BA,BD,AO,B4,Zh,QD,Lr,Do,BW,By,QZ]))))))
theorem Yw (xC:BZ) (a:List Int) (r:Int×BZ) (h:LS xC a=some r):AM Tryz.prog 102 [.ext [PS xC.b_,i6 xC.i_,i6 xC.h_],.sv (.one (PX a))] (I r.1) (.ext [PS r.2.b_,i6 r.2.i_,i6 r.2.h_]::rg 1):=by
 exact gkx Tryz.func102 rfl Tryz.ntmps102 (ws (gw 1 0 (Ah 3 0 (RW.q (CR k3 a) (FG h (Dm _ _) (λ_=>rfl) (λv1 gv1 h=>C9 k3 h (λx1 gx1 h=>RW.q (CB k3 gx1 0) (gn 1 0 (Wp.ret (rr h▸rx))))))))))
theorem VR (xC:BZ) (xN:Int) (r:Bool×BZ) (h:Ju xC xN=some r):AM Tryz.prog 103 [.ext [PS xC.b_,i6 xC.i_,i6 xC.h_],.sv (I xN)] (B r.1) (.ext [PS r.2.b_,i6 r.2.i_,i6 r.2.h_]::rg 1):=by
 exact gkx Tryz.func103 rfl Tryz.ntmps103 (ws (gw 1 0 (Ah 2 0 (FG h (Dm _ _) (λ_=>rfl) (λv1 gv1 h=>gn 2 0 (Wp.ret (rr h▸rx)))))))
def c9 (x:ByteArray):List TV:=[ts x]
theorem k9:∀x,(c9 x).length=1:=λ_=>rfl
theorem sh9:∀l,BP (AU c9 l)=AU c9 l:=DQ (λ_=>rfl)
def ot9 (l:List ByteArray):TV:= .sl true 9 1 (AU c9 l)
def of9 (l:List ByteArray):TV:= .sl false 9 1 (AU c9 l)
theorem sE (xC:BZ) (a:List ByteArray) (r:ByteArray×BZ) (h:NY xC a=some r):AM Tryz.prog 169 [.ext [PS xC.b_,i6 xC.i_,i6 xC.h_],.sv (.one (of9 a))] (Y r.1) (.ext [PS r.2.b_,i6 r.2.i_,i6 r.2.h_]::rg 1):=by
 exact gkx Tryz.func169 rfl Tryz.ntmps169 (ws (gw 1 0 (Ah 3 0 (RW.q (CR k9 a) (FG h (Dm _ _) (λ_=>rfl) (λv1 gv1 h=>C9 k9 h (λx1 gx1 h=>RW.q (CB k9 gx1 0) (gn 1 0 (Wp.ret (rr h▸rx))))))))))
theorem rN (xC:BZ) (r:ByteArray×BZ) (h:Rk xC=some r):AM Tryz.prog 104 [.ext [PS xC.b_,i6 xC.i_,i6 xC.h_]] (Y r.1) (.ext [PS r.2.b_,i6 r.2.i_,i6 r.2.h_]::rg 0):=by
 exact gkx Tryz.func104 rfl Tryz.ntmps104 (ws (gw 1 0 (Ah 2 0 (RW.fz (.slot 4) 0 (sh9 [(bs []),(bs [97]),(bs [98,98]),(bs [97,98,99,100,97,98,99,100,97,98,99,100]),(bs [104,101,108,108,111]),(bs [104,101,108,108,111,32,104,101,108,108,111,32,104,101,108,108,111]),(bs [122,122,122,122,122,122,122,122,122,122,122,122]),(bs [113,49]),(bs [113,50]),(bs [113,51])]) (FG h (sE _ _) (λ_=>rfl) (λv1 gv1 h=>gn 1 0 (Wp.ret (rr h▸rx))))))))
def AF7 (x:Wy):List TV:=[i6 x.Kind,i6 x.Vol,i6 x.Sector,i6 x.Of,ts x.Text]
def j8 (xD:AH) (z1:Int) (z2:Int) (z3:List Int) (z4:Int) (z5:Int):St:=A7 [(0,(px 0)),(3,(pb 3)),(4,(pb 4)),(5,(pb 5))] [(.box 3,[Bz xD.Flash.Blocks,Dp xD.Store.Vols,BB xD.Store.Arena.Knots,i6 xD.Store.Next,i6 xD.Seq,i6 xD.Tx,i6 xD.Base]),(.box 4,[i6 0,i6 0,i6 0,i6 0,ts (bs [])]),(.box 5,[i6 z1,i6 z2,i6 0,i6 0,ts (bs [])]),(.ext 0,[PS z3,i6 z4,i6 z5])]
def j7 (xD:AH) (v1:Int×BZ) (v2:Int×BZ) (z6:Bool) (z7:List Int) (z8:Int) (z9:Int):St:=A7 [(0,(px 0)),(3,(pb 3)),(4,(pb 4)),(5,(pb 5)),(31,(B z6))] [(.box 3,[Bz xD.Flash.Blocks,Dp xD.Store.Vols,BB xD.Store.Arena.Knots,i6 xD.Store.Next,i6 xD.Seq,i6 xD.Tx,i6 xD.Base]),(.box 4,[i6 0,i6 0,i6 0,i6 0,ts (bs [])]),(.box 5,[i6 v1.1,i6 (ad 1 v2.1),i6 0,i6 0,ts (bs [])]),(.ext 0,[PS z7,i6 z8,i6 z9])]
def jZ (xD:AH) (j1:Int×Int×List Int×Int×Int) (z10:Bool) (z11:List Int) (z12:Int) (z13:Int):St:=A7 [(0,(px 0)),(3,(pb 3)),(4,(pb 4)),(5,(pb 5)),(52,(B z10))] [(.box 3,[Bz xD.Flash.Blocks,Dp xD.Store.Vols,BB xD.Store.Arena.Knots,i6 xD.Store.Next,i6 xD.Seq,i6 xD.Tx,i6 xD.Base]),(.box 4,[i6 0,i6 0,i6 0,i6 0,ts (bs [])]),(.box 5,[i6 j1.1,i6 j1.2.1,i6 0,i6 0,ts (bs [])]),(.ext 0,[PS z11,i6 z12,i6 z13])]
def jY (xD:AH) (j1:Int×Int×List Int×Int×Int) (j3:Bool×List Int×Int×Int) (z14:Int):St:=A7 [(0,(px 0)),(3,(pb 3)),(4,(pb 4)),(5,(pb 5))] [(.box 3,[Bz xD.Flash.Blocks,Dp xD.Store.Vols,BB xD.Store.Arena.Knots,i6 xD.Store.Next,i6 xD.Seq,i6 xD.Tx,i6 xD.Base]),(.box 4,[i6 0,i6 0,i6 0,i6 0,ts (bs [])]),(.box 5,[i6 z14,i6 j1.2.1,i6 0,i6 0,ts (bs [])]),(.ext 0,[PS j3.2.1,i6 j3.2.2.1,i6 j3.2.2.2])]
def jX (j1:Int×Int×List Int×Int×Int) (j4:Int) (z15:Int) (z16:Int) (z17:ByteArray) (z18:List Int) (z19:Int) (z20:Int):St:=A7 [(4,(pb 4)),(5,(pb 5))] [(.box 4,[i6 0,i6 0,i6 0,i6 0,ts (bs [])]),(.box 5,[i6 j4,i6 j1.2.1,i6 z15,i6 z16,ts z17]),(.ext 0,[PS z18,i6 z19,i6 z20])]
def jW (xD:AH) (j1:Int×Int×List Int×Int×Int) (j3:Bool×List Int×Int×Int) (j4:Int) (z21:Bool):St:=A7 [(0,(px 0)),(3,(pb 3)),(4,(pb 4)),(5,(pb 5)),(55,(I j4)),(64,(B z21))] [(.box 3,[Bz xD.Flash.Blocks,Dp xD.Store.Vols,BB xD.Store.Arena.Knots,i6 xD.Store.Next,i6 xD.Seq,i6 xD.Tx,i6 xD.Base]),(.box 4,[i6 0,i6 0,i6 0,i6 0,ts (bs [])]),(.box 5,[i6 j4,i6 j1.2.1,i6 0,i6 0,ts (bs [])]),(.ext 0,[PS j3.2.1,i6 j3.2.2.1,i6 j3.2.2.2])]
theorem VK (xC:BZ) (xD:AH) (r:Wy×BZ) (h:Rl xC xD=some r):AM Tryz.prog 62 [.ext [PS xC.b_,i6 xC.i_,i6 xC.h_],.sv (.agg (QZ false xD))] (.agg (AF7 r.1)) (.ext [PS r.2.b_,i6 r.2.i_,i6 r.2.h_]::rg 1):=by
 refine gkx Tryz.func62 rfl Tryz.ntmps62 (ws (gw 2 0 (Ah 2 0 (RW.fz (.slot 7) 0 (rF [1,1,1,1,1,1,2,3,4,5,6]) (FG h (Yw _ _) (λ_=>rfl) (λv1 gv1 h=>Ah 1 0 (FG h (Dm _ _) (λ_=>rfl) (λv2 gv2 h=>gn 4 0 (Wp.seq (ws (Ah 3 0 (RW.q (CR Es xD.Store.Vols) (gn 1 0 (IE h [0,3,4,5] [.box 3,.box 4,.box 5,.ext 0] (λa=>(j8 xD a.1 a.2.1 a.2.2.1 a.2.2.2.1 a.2.2.2.2)) ?_ ?_))))))))))))))
 ·intro a h;refine wc h (λh=>?_) (λh=>?_)
  ·exact Ap (gn 2 0 (jn h))
  refine EA h [0,3,4,5,31] [.box 3,.box 4,.box 5,.ext 0] (λa=>(j7 xD v1 v2 a.1 a.2.1 a.2.2.1 a.2.2.2)) (λa h=>?_) (λj2 h=>?_)
  ·refine Ap (Ah 4 0 (AK 22 h (λh=>?_) (λh=>?_)))
   ·refine Ah 5 0 (AK 27 h (λh=>?_) (λh=>?_))
    ·exact Ah 1 0 (FG h (VR _ _) (λ_=>rfl) (λv3 gv3 h=>gn 2 0 (jn h)))
    exact gn 4 0 (jn h)
   exact gn 9 0 (jn h)
  refine wc h (λh=>?_) (λh=>?_)
  ·refine Dr [8,13] mixed (λ_ _=>nP) (Bf [3,4,5,6] 0 (KW.q 7 (CR Es xD.Store.Vols) (Dj 0 8 ?_ ?_)))
   ·refine KB.o false (Dj 1 8 ?_ ?_)
    ·refine KB.o false (Dj 2 8 ?_ ?_)
     ·exact KB.o false (Bp 8 (jA h (Dm _ _) (λ_=>rfl) (λv7 gv7 h=>Bp 9 (bd h λx1 gx1 h=>KB.q (Iz Es gx1) (Bp 10 (KB.q (DB Es gx1 0 0) (Bp 11 (KB.q (CB Es gx1 0) (Bf [12,13] 0 (Bc (jn h)))))))))))
     exact jA h (Dm _ _) (λ_=>rfl) (λv8 gv8 h=>Bf [2] 0 (Bp 9 (bd h λx2 gx2 h=>KB.q (Iz Es gx2) (Bp 10 (KB.q (DB Es gx2 0 0) (Bp 11 (KB.q (CB Es gx2 0) (Bf [12,13] 0 (Bc (jn h))))))))))
    exact jA h (Dm _ _) (λ_=>rfl) (λv9 gv9 h=>Bf [1,2] 0 (Bp 9 (bd h λx3 gx3 h=>KB.q (Iz Es gx3) (Bp 10 (KB.q (DB Es gx3 0 0) (Bp 11 (KB.q (CB Es gx3 0) (Bf [12,13] 0 (Bc (jn h))))))))))
   exact jA h (Dm _ _) (λ_=>rfl) (λv10 gv10 h=>Bf [0,1,2] 0 (Bp 9 (bd h λx4 gx4 h=>KB.q (Iz Es gx4) (Bp 10 (KB.q (DB Es gx4 0 0) (Bp 11 (KB.q (CB Es gx4 0) (Bf [12,13] 0 (Bc (jn h))))))))))
  exact Wp.skip (jn h)
 intro j1 h E hE;refine AW hE (Wp.seq (EA h [0,3,4,5,52] [.box 3,.box 4,.box 5,.ext 0] (λa=>(jZ xD j1 a.1 a.2.1 a.2.2.1 a.2.2.2)) (λa h=>?_) (λj3 h=>?_)))
 ·refine Ap (Ah 4 0 (AK 48 h (λh=>?_) (λh=>?_)))
  ·exact Ah 1 0 (FG h (VR _ _) (λ_=>rfl) (λv11 gv11 h=>gn 2 0 (jn h)))
  exact gn 4 0 (jn h)
 refine IE h [0,3,4,5] [.box 3,.box 4,.box 5,.ext 0] (λa=>(jY xD j1 j3 a)) ?_ ?_
 ·intro a h;refine wc h (λh=>?_) (λh=>?_)
  ·exact Ap (gn 2 0 (jn h))
  exact Wp.skip (jn h)
 intro j4 h E hE;refine AW hE (Wp.seq (ws (gn 2 0 (Wp.block (ws (gn 2 0 (IE h [4,5] [.box 4,.box 5,.ext 0] (λa=>(jX j1 j4 a.1 a.2.1 a.2.2.1 a.2.2.2.1 a.2.2.2.2.1 a.2.2.2.2.2)) ?_ ?_)))))))
 ·intro a h;refine wc h (λh=>?_) (λh=>?_)
  ·exact ws (Ah 1 0 (FG h (rN _) (λ_=>rfl) (λv12 gv12 h=>gn 2 0 (Ap (Ah 1 0 (FG h (Dm _ _) (λ_=>rfl) (λv13 gv13 h=>gn 2 0 (jn h))))))))
  refine Wp.seq (ws (gn 2 0 (IE h [0,3,4,5,55,64] [.box 3,.box 4,.box 5,.ext 0] (λa=>(jW xD j1 j3 j4 a)) ?_ ?_)))
  ·intro a h;refine wc h (λh=>?_) (λh=>?_)
   ·exact Wp.skip (jn h)
   exact Ap (gn 2 0 (jn h))
  intro j6 h E hE;refine AW hE (wc h (λh=>?_) (λh=>?_))
  ·exact Ap (Ah 1 0 (FG h (Dm _ _) (λ_=>rfl) (λv14 gv14 h=>gn 2 0 (jn h))))
  refine ws (gn 2 0 (wc h (λh=>?_) (λh=>?_)))
  ·refine ws (Ah 1 0 (FG h (Dm _ _) (λ_=>rfl) (λv15 gv15 h=>gw 3 0 (Ah 3 0 (RW.q (CR Es xD.Store.Vols) (gn 1 0 (wc h (λh=>?_) (λh=>?_))))))))
   ·exact Ap (Ah 3 0 (C9 Es h (λx5 gx5 h=>RW.q (DB Es gx5 0 0) (RW.q (CB Es gx5 0) (gn 2 0 (jn h))))))
   exact Wp.skip (jn h)
  exact Wp.skip (jn h)
 intro j5 h E hE;exact AW hE (ws (gn 2 0 (Wp.ret (rr h▸rx))))
theorem VL (xD:AH) (r:AH) (h:NW xD=some r):AM Tryz.prog 97 [.sv (.agg (QZ false xD))] (.agg (QZ true r)) (rg 1):=by
 exact gk Tryz.func97 rfl Tryz.ntmps97 (ws (gw 2 0 (Ah 2 0 (RW.c 0 h (Fj _) (λv1 gv1 h=>gw 2 0 (Ah 2 0 (RW.c 0 h (Gg _) (λv2 gv2 h=>gw 2 0 (gn 2 0 (Wp.ret (rr h▸rq)))))))))))
def zL (xA:Arena) (b:Int) (a:Int) (z1:Bool):St:=A7 [(1,(I b)),(2,(I a)),(3,(pb 3)),(20,(B z1))] [(.box 3,[BB xA.Knots])]
theorem gE (xA:Arena) (d:Int) (b:Int) (r:Int) (h:ON xA d b=some r):AM Tryz.prog 82 [.sv (.agg (aC false xA)),.sv (I d),.sv (I b)] (I r) (rg 3):=by
 refine gk Tryz.func82 rfl Tryz.ntmps82 (ws (gn 2 0 (Wp.seq (EA h [1,2,3,20] [.box 3] (λa=>(zL xA d b a)) (λa h=>?_) (λj1 h=>?_)))))
 ·refine Ap (Ah 1 0 (RW.c 0 h (Nv _) (λv1 gv1 h=>Ah 2 0 (AK 10 h (λh=>?_) (λh=>?_)))))
  ·exact gn 10 0 (jn h)
  refine Ah 2 0 (RW.c 0 h (Lg _ _) (λv2 gv2 h=>Ah 3 0 (AK 16 h (λh=>?_) (λh=>?_))))
  ·exact gn 4 0 (jn h)
  exact Ah 1 0 (RW.c 0 h (BR _ _ _) (λv3 gv3 h=>gn 2 0 (jn h)))
 refine wc h (λh=>?_) (λh=>?_)
 ·exact ws (gn 1 0 (Wp.ret (rr h▸rq)))
 exact Wp.skip (ws (Ah 3 0 (RW.c 0 h (Ys _ _ _) (λv4 gv4 h=>gn 1 0 (Wp.ret (rr h▸rq))))))
def zU (xA:Arena) (a:Int) (z1:List Int) (z2:Int):St:=A7 [(1,(I a)),(2,(pb 2)),(5,(.one (Er z1))),(6,(I z2))] [(.box 2,[BB xA.Knots])]
def zT (z3:List Int):St:=A7 [(5,(.one (Er z3)))] []
theorem Rp (xA:Arena) (a:Int) (r:List Int) (h:Jb xA a=some r):AM Tryz.prog 42 [.sv (.agg (aC false xA)),.sv (I a)] (.one (Er r)) (rg 2):=by
 refine gk Tryz.func42 rfl Tryz.ntmps42 (ws (gw 2 0 (gn 2 2 (Wp.seq (ws (gn 1 0 (BQ h [1,2,5,6] [.box 2] (λs=>(zU xA a s.1 s.2)) [5] [] (λs=>(zT s)) DM ?_ ?_)))))))
 ·rintro⟨b,d⟩ o (h:Hf xA a b d=some o);refine Wp.seq (ws (gn 2 0 (wc h (λh=>?_) (λh=>?_))))
  ·exact Wp.skip (Wp.seq (Wp.block (Ap (Ah 4 0 (RW.c 0 h (gE _ _ _) (λv1 gv1 h=>Ah 1 0 (bd h λq1 gq1 h=>CI (Dk k3 (λ_=>rfl) b gq1) (gn 1 1 (Ap (gn 3 0 (jl h)))))))))))
  exact Wp.exit (jv h)
 intro v2 h E hE;exact AW hE (ws (gn 2 2 (Wp.ret (rr h▸rq))))
def UX (xA:List Int) (xB:List Int) (z1:Int):St:=A7 [(0,(.one (PX xA))),(1,(.one (PX xB))),(5,(I z1))] []
def UW:St:=A7 [] []
theorem W5 (xA:List Int) (xB:List Int) (r:Bool) (h:KT xA xB=some r):AM Tryz.prog 41 [.sv (.one (PX xA)),.sv (.one (PX xB))] (B r) (rg 2):=by
 refine gk Tryz.func41 rfl Tryz.ntmps41 (ws (gn 1 0 (Wp.seq (ws (Ah 1 0 (RW.q (CR k3 xA) (Ah 1 0 (RW.q (CR k3 xB) (gn 1 0 (wc h (λh=>?_) (λh=>?_)))))))))))
 ·exact ws (gn 1 0 (Wp.ret (rr h▸rq)))
 refine Wp.skip (Wp.seq (ws (gn 1 0 (DA h [0,1,5] [] (λs=>(UX xA xB s)) [] [] (λ_=>UW) DM ?_ ?_))))
 ·rintro a o (h:G9 xA xB a=some o) hk1;refine Wp.seq (ws (Ah 2 0 (RW.q (CR k3 xA) (gn 1 0 (wc h (λh=>?_) (λh=>?_))))))
  ·refine Wp.skip (Wp.seq (Wp.block (Wp.seq (Kt mixed (D3 2 (bd h λx1 gx1 h=>SW.q (Iz k3 gx1) (SW.q (CB k3 gx1 0) (D3 2 (bd h λx2 gx2 h=>SW.q (Iz k3 gx2) (SW.q (CB k3 gx2 0) (D3 1 (SW.nil (wc h (λh=>?_) (λh=>?_))))))))))))))
   ·exact ws (gn 1 0 (Wp.ret (rr (jo h hk1)▸rq)))
   exact Wp.skip (Ap (gn 3 0 (jl h)))
  exact Wp.exit (jx h)
 intro v1 h E hE;exact AW hE (ws (gn 1 0 (Wp.ret (rr h▸rq))))
def Y7 (xA:Store) (xB:Store) (z1:Bool):St:=A7 [(2,(pb 2)),(3,(pb 3)),(19,(B z1))] [(.box 2,[Dp xA.Vols,BB xA.Arena.Knots,i6 xA.Next]),(.box 3,[Dp xB.Vols,BB xB.Arena.Knots,i6 xB.Next])]
def Y6 (xA:Store) (xB:Store) (z2:Int):St:=A7 [(2,(pb 2)),(3,(pb 3)),(5,(I z2))] [(.box 2,[Dp xA.Vols,BB xA.Arena.Knots,i6 xA.Next]),(.box 3,[Dp xB.Vols,BB xB.Arena.Knots,i6 xB.Next])]
def Y5:St:=A7 [] []
theorem Sa (xA:Store) (xB:Store) (r:Bool) (h:Lh xA xB=some r):AM Tryz.prog 14 [.sv (.agg (SN false xA)),.sv (.agg (SN false xB))] (B r) (rg 2):=by
 refine gk Tryz.func14 rfl Tryz.ntmps14 (ws (gn 3 0 (Wp.seq (EA h [2,3,19] [.box 2,.box 3] (λa=>(Y7 xA xB a)) (λa h=>?_) (λj1 h=>?_)))))
 ·refine Ap (Ah 2 0 (RW.q (CR Es xA.Vols) (Ah 2 0 (RW.q (CR Es xB.Vols) (Ah 2 0 (AK 13 h (λh=>?_) (λh=>?_)))))))
  ·exact gn 6 0 (jn h)
  exact gn 6 0 (jn h)
 refine wc h (λh=>?_) (λh=>?_)
 ·exact ws (gn 1 0 (Wp.ret (rr h▸rq)))
 refine Wp.skip (Wp.seq (ws (gn 1 0 (DA h [2,3,5] [.box 2,.box 3] (λs=>(Y6 xA xB s)) [] [] (λ_=>Y5) DM ?_ ?_))))
 ·rintro b o (h:HT xA xB b=some o) hk1;refine Wp.seq (ws (Ah 3 0 (RW.q (CR Es xA.Vols) (gn 1 0 (wc h (λh=>?_) (λh=>?_))))))
  ·refine Wp.skip (Wp.seq (Wp.block (Wp.seq (Dr [] mixed (λ_ _=>nP) (Bf [0,1,2] 0 (bd h λx1 gx1 h=>KW.q 3 (Iz Es gx1) (KW.q 4 (DB Es gx1 0 0) (KW.q 5 (CB Es gx1 0) (Bf [6,7,8] 0 (bd h λx2 gx2 h=>KW.q 9 (Iz Es gx2) (KW.q 10 (DB Es gx2 0 0) (KW.q 11 (CB Es gx2 0) (Bf [12,13] 0 (Sk 40 h (λh=>?_) (λh=>?_)))))))))))))))
   ·exact Bf [14,15,16,17,18,19,20,21,23,24,25,26,27,28,29,30,22,31,32,33,34] 0 (Bc (wt (ws (gn 1 0 (Wp.ret (rr (jo h hk1)▸rq))))))
   refine Bf [14,15,16,17,18] 0 (bd h λx3 gx3 h=>KW.q 19 (Iz Es gx3) (KW.q 20 (DB Es gx3 0 1) (KW.q 21 (CB Es gx3 1) (Bf [23,24,25,26,27] 0 (bd h λx4 gx4 h=>KW.q 28 (Iz Es gx4) (KW.q 29 (DB Es gx4 0 1) (KW.q 30 (CB Es gx4 1) (Bp 22 (KB.c 0 h (Rp _ _) (λv1 gv1 h=>Bp 31 (KB.c 0 h (Rp _ _) (λv2 gv2 h=>Bp 32 (KB.c 0 h (gs (ca (co (cs (rF _))) (ca (co (cs (rF _))) rfl)) (W5 _ _)) (λv3 gv3 h=>Bf [33,34] 0 (Bc (wc h (λh=>?_) (λh=>?_)))) (hc:=(.inr (λv=>rfl))))))))))))))))
   ·exact ws (gn 1 0 (Wp.ret (rr (jo h hk1)▸rq)))
   exact Wp.skip (Ap (gn 3 0 (jl h)))
  exact Wp.exit (jx h)
 intro v4 h E hE;exact AW hE (ws (gn 1 0 (Wp.ret (rr h▸rq))))
theorem m6 (xD:AH) (r:Bool) (h:OS xD=some r):AM Tryz.prog 98 [.sv (.agg (QZ false xD))] (B r) (rg 1):=by
 refine gk Tryz.func98 rfl Tryz.ntmps98 (ws (gw 2 0 (Ah 2 0 (RW.c 0 h (LT _) (λv1 gv1 h=>gw 6 1 (Ah 2 0 (AK 12 h (λh=>?_) (λh=>?_))))))))
 ·refine Ah 4 0 (RW.c 0 h (gs (ca (ZX (ca (cs (Fz _)) (ca (cs (Dt _)) rfl))) rfl) (Sa _ _)) (λv2 gv2 h=>Ah 2 0 (AK 19 h (λh=>?_) (λh=>?_))) (hc:=(.inr (λv=>rfl))))
  ·refine Ah 7 0 (AK 26 h (λh=>?_) (λh=>?_))
   ·refine Ah 7 0 (AK 33 h (λh=>?_) (λh=>?_))
    ·refine Ah 7 0 (AK 40 h (λh=>?_) (λh=>?_))
     ·exact Ah 2 0 (RW.c 0 h (VT _) (λv3 gv3 h=>gn 2 0 (Wp.ret (rr h▸rq))))
     exact gn 5 0 (Wp.ret (rr h▸rq))
    exact gn 12 0 (Wp.ret (rr h▸rq))
   exact gn 19 0 (Wp.ret (rr h▸rq))
  exact gn 26 0 (Wp.ret (rr h▸rq))
 exact gn 33 0 (Wp.ret (rr h▸rq))
def zS (xQ:Wy) (z1:Bool):St:=A7 [(1,(pb 1)),(28,(B z1))] [(.box 1,[i6 xQ.Kind,i6 xQ.Vol,i6 xQ.Sector,i6 xQ.Of,ts xQ.Text])]
def zR (z2:Bool):St:=A7 [(2,(B z2))] []
def zQ (xQ:Wy) (z3:Bool):St:=A7 [(1,(pb 1)),(50,(B z3))] [(.box 1,[i6 xQ.Kind,i6 xQ.Vol,i6 xQ.Sector,i6 xQ.Of,ts xQ.Text])]
theorem ACi (xQ:Wy) (r:Bool) (h:Xx xQ=some r):AM Tryz.prog 166 [.sv (.agg (AF7 xQ))] (B r) (rg 1):=by
 refine gk Tryz.func166 rfl Tryz.ntmps166 (ws (gn 2 0 (Wp.seq (EA h [1,28] [.box 1] (λa=>(zS xQ a)) (λa h=>?_) (λj1 h=>?_)))))
 ·refine Ap (Ah 2 0 (RW.c 0 h (BR _ _ _) (λv1 gv1 h=>Ah 2 0 (AK 7 h (λh=>?_) (λh=>?_)))))
  ·exact gn 21 0 (jn h)
  refine Ah 2 0 (RW.c 0 h (BR _ _ _) (λv2 gv2 h=>Ah 3 0 (AK 13 h (λh=>?_) (λh=>?_))))
  ·exact gn 15 0 (jn h)
  refine Ah 6 0 (AK 19 h (λh=>?_) (λh=>?_))
  ·exact gn 9 0 (jn h)
  refine Ah 4 0 (AK 23 h (λh=>?_) (λh=>?_))
  ·exact gn 5 0 (jn h)
  exact gn 5 0 (jn h)
 refine wc h (λh=>?_) (λh=>?_)
 ·exact ws (gn 1 0 (Wp.ret (rr h▸rq)))
 refine Wp.skip (Wp.seq (ws (gn 3 0 (wc h (λh=>?_) (λh=>?_)))))
 ·refine EA h [2] [] (λa=>(zR a)) (λa h=>?_) (λj2 h=>?_)
  ·refine Ap (Ah 4 0 (AK 35 h (λh=>?_) (λh=>?_)))
   ·exact Ah 2 0 (RW.c 0 h (BR _ _ _) (λv3 gv3 h=>gn 2 0 (jn h)))
   exact gn 5 0 (jn h)
  exact Wp.ret (rr h▸rq)
 refine Wp.skip (Wp.seq (ws (gn 3 0 (wc h (λh=>?_) (λh=>?_)))))
 ·exact ws (gn 1 0 (Wp.ret (rr h▸rq)))
 refine Wp.skip (Wp.seq (EA h [1,50] [.box 1] (λa=>(zQ xQ a)) (λa h=>?_) (λj3 h=>?_)))
 ·refine Ap (Ah 4 0 (AK 46 h (λh=>?_) (λh=>?_)))
  ·exact gn 4 0 (jn h)
  exact gn 4 0 (jn h)
 refine wc h (λh=>?_) (λh=>?_)
 ·exact ws (gn 4 0 (Wp.ret (rr h▸rq)))
 exact Wp.skip (ws (Ah 2 0 (RW.c 0 h (BR _ _ _) (λv4 gv4 h=>gn 1 0 (Wp.ret (rr h▸rq))))))
def Yr (a:List Int) (xX:Int) (z1:List Int) (z2:Int):St:=A7 [(0,(.one (PX a))),(1,(I xX)),(5,(.one (Er z1))),(6,(I z2))] []
def Yq (a:List Int) (xX:Int) (z3:List Int):St:=A7 [(0,(.one (PX a))),(1,(I xX)),(5,(.one (Er z3)))] []
def Yp (a:List Int) (xX:Int) (z4:List Int):St:=A7 [(0,(.one (PX a))),(1,(I xX)),(5,(.one (Er z4)))] []
def Yo (a:List Int) (xX:Int) (z5:List Int) (z6:Int):St:=A7 [(0,(.one (PX a))),(1,(I xX)),(5,(.one (Er z5))),(7,(I z6))] []
def Yn (z7:List Int):St:=A7 [(5,(.one (Er z7)))] []
theorem bN (b:List Int) (xX:Int) (r:List Int) (h:Np b xX=some r):AM Tryz.prog 75 [.sv (.one (PX b)),.sv (I xX)] (.one (Er r)) (rg 2):=by
 refine gk Tryz.func75 rfl Tryz.ntmps75 (ws (gw 1 0 (gn 2 2 (Wp.seq (ws (gn 1 0 (BQ h [0,1,5,6] [] (λs=>(Yr b xX s.1 s.2)) [0,1,5] [] (λs=>(Yq b xX s)) DM ?_ ?_)))))))
 ·rintro⟨c,e⟩ o (h:HP b xX c e=some o);refine Wp.seq (ws (Ah 2 0 (RW.q (CR k3 b) (gn 1 0 (wc h (λh=>?_) (λh=>?_))))))
  ·refine Wp.skip (Wp.seq (Wp.block (ws (Ah 2 0 (C9 k3 h (λx1 gx1 h=>RW.q (CB k3 gx1 0) (gn 2 0 (wc h (λh=>?_) (λh=>?_)))))))))
   ·exact Ap (Ah 3 0 (C9 k3 h (λx2 gx2 h=>RW.q (CB k3 gx2 0) (Ah 1 0 (bd h λq1 gq1 h=>CI (Dk k3 (λ_=>rfl) c gq1) (gn 1 1 (Ap (gn 3 0 (jl h)))))))))
   exact Wp.skip (Ap (gn 3 0 (jl h)))
  exact Wp.exit (jv h)
 intro v1 h E hE;refine AW hE (Wp.seq (ws (gn 2 0 (IE h [0,1,5] [] (λa=>(Yp b xX a)) ?_ ?_))))
 ·intro a h;refine wc h (λh=>?_) (λh=>?_)
  ·exact Ap (Ah 3 0 (bd h λq2 gq2 h=>CI (Dk k3 (λ_=>rfl) v1 gq2) (gn 1 1 (jn h))))
  exact Wp.skip (jn h)
 intro j1 h E hE;refine AW hE (Wp.seq (ws (gn 1 0 (BQ h [0,1,5,7] [] (λs=>(Yo b xX s.1 s.2)) [5] [] (λs=>(Yn s)) DM ?_ ?_))))
 ·rintro⟨d,f⟩ o (h:GA b xX d f=some o);refine Wp.seq (ws (Ah 2 0 (RW.q (CR k3 b) (gn 1 0 (wc h (λh=>?_) (λh=>?_))))))
  ·refine Wp.skip (Wp.seq (Wp.block (ws (Ah 2 0 (C9 k3 h (λx3 gx3 h=>RW.q (CB k3 gx3 0) (gn 2 0 (wc h (λh=>?_) (λh=>?_)))))))))
   ·exact Ap (Ah 3 0 (C9 k3 h (λx4 gx4 h=>RW.q (CB k3 gx4 0) (Ah 1 0 (bd h λq3 gq3 h=>CI (Dk k3 (λ_=>rfl) d gq3) (gn 1 1 (Ap (gn 3 0 (jl h)))))))))
   exact Wp.skip (Ap (gn 3 0 (jl h)))
  exact Wp.exit (jv h)
 intro v2 h E hE;exact AW hE (ws (gn 2 2 (Wp.ret (rr h▸rq))))
def tF (xS:Store) (z1:List Int) (z2:Int):St:=A7 [(1,(pb 1)),(3,(.one (Er z1))),(4,(I z2))] [(.box 1,[Dp xS.Vols,BB xS.Arena.Knots,i6 xS.Next])]
def tE (z3:List Int):St:=A7 [(3,(.one (Er z3)))] []
def tD (xS:Store) (a:Int) (v1:List Int) (z4:List Int) (z5:Int):St:=A7 [(1,(pb 1)),(3,(.one (Er z4))),(4,(I a)),(5,(.one (Er v1))),(6,(I z5))] [(.box 1,[Dp xS.Vols,BB xS.Arena.Knots,i6 xS.Next])]
def tC (xS:Store) (a:Int) (z6:List Int):St:=A7 [(1,(pb 1)),(3,(.one (Er z6))),(4,(I a))] [(.box 1,[Dp xS.Vols,BB xS.Arena.Knots,i6 xS.Next])]
theorem OM (xS:Store) (r:List Int) (h:GE xS=some r):AM Tryz.prog 34 [.sv (.agg (SN false xS))] (.one (Er r)) (rg 1):=by
 refine gk Tryz.func34 rfl Tryz.ntmps34 (ws (gw 2 0 (gn 2 2 (Wp.seq (ws (gn 1 0 (BQ h [1,3,4] [.box 1] (λs=>(tF xS s.1 s.2)) [3] [] (λs=>(tE s)) DM ?_ ?_)))))))
 ·rintro⟨a,b⟩ o (h:Ll xS a b=some o);refine Wp.seq (ws (Ah 3 0 (RW.q (CR Es xS.Vols) (gn 1 0 (wc h (λh=>?_) (λh=>?_))))))
  ·refine Wp.skip (Wp.seq (Wp.block (Wp.seq (Sh 8 mixed (D3 5 (bd h λx1 gx1 h=>SW.q (Iz Es gx1) (SW.q (DB Es gx1 0 1) (SW.q (CB Es gx1 1) (SW.nil (RW.c 0 h (Rp _ _) (λv1 gv1 h=>gw 1 1 (gn 1 0 (BQ h [1,3,4,5,6] [.box 1] (λs=>(tD xS b v1 s.1 s.2)) [1,3,4] [.box 1] (λs=>(tC xS b s)) DM ?_ ?_)))))))))))))
   ·rintro⟨d,e⟩ o (h:Lk v1 d e=some o);refine Wp.seq (ws (Ah 2 0 (RW.q (CR k3 v1) (gn 1 0 (wc h (λh=>?_) (λh=>?_))))))
    ·exact Wp.skip (Wp.seq (Wp.block (Ap (Ah 3 0 (C9 k3 h (λx2 gx2 h=>RW.q (CB k3 gx2 0) (RW.c 0 h (gs (ca (co (cs (rF _))) rfl) (bN _ _)) (λv2 gv2 h=>gn 1 1 (Ap (gn 3 0 (jl h)))) (hc:=(.inr (λv=>by simp [BA,BD,AO,B4,ns3,Er]))))))))))
    exact Wp.exit (jv h)
   intro v3 h E hE;exact AW hE (Ap (gn 3 0 (jl h)))
  exact Wp.exit (jv h)
 intro v4 h E hE;exact AW hE (ws (gn 2 2 (Wp.ret (rr h▸rq))))
def Yc (b:List As) (a:Int) (z1:Int):St:=A7 [(0,(.one (FQ b))),(1,(I a)),(4,(pb 4)),(6,(I z1))] [(.box 4,[i6 0,i6 0,i6 0,i6 0,i6 0,i6 0,i6 0,ts (bs [])])]
def Yb:St:=A7 [(4,(pb 4))] [(.box 4,[i6 0,i6 0,i6 0,i6 0,i6 0,i6 0,i6 0,ts (bs [])])]
def Ya (b:List As) (a:Int) (c:Int) (z2:Bool):St:=A7 [(0,(.one (FQ b))),(1,(I a)),(4,(pb 4)),(6,(I c)),(30,(B z2))] [(.box 4,[i6 0,i6 0,i6 0,i6 0,i6 0,i6 0,i6 0,ts (bs [])])]
theorem bF (c:List As) (b:Int) (r:As×Bool) (h:Ld c b=some r):AM Tryz.prog 164 [.sv (.one (FQ c)),.sv (I b)] (.tup [(.agg (c67 r.1)),(B r.2)]) (rg 2):=by
 refine gk Tryz.func164 rfl Tryz.ntmps164 (ws (gn 2 0 (Wp.seq (ws (Ah 1 0 (RW.q (CR Eo c) (gn 2 0 (DA h [0,1,4,6] [.box 4] (λs=>(Yc c b s)) [4] [.box 4] (λ_=>Yb) DM ?_ ?_))))))))
 ·rintro d o (h:HM c b d=some o) hk1;refine Wp.seq (ws (gn 2 0 (wc h (λh=>?_) (λh=>?_))))
  ·refine Wp.skip (Wp.seq (Wp.block (EA h [0,1,4,6,30] [.box 4] (λa=>(Ya c b d a)) (λa h=>?_) (λj1 h=>?_))))
   ·refine Ap (Ah 2 0 (C9 Eo h (λx1 gx1 h=>RW.q (DB Eo gx1 0 2) (RW.q (DB Eo gx1 2 2) (RW.q (CB Eo gx1 2) (Ah 2 0 (AK 21 h (λh=>?_) (λh=>?_))))))))
    ·exact Ah 2 0 (C9 Eo h (λx2 gx2 h=>RW.q (DB Eo gx2 0 2) (RW.q (DB Eo gx2 2 4) (RW.q (CB Eo gx2 4) (gn 3 0 (jn h))))))
    exact gn 9 0 (jn h)
   refine wc h (λh=>?_) (λh=>?_)
   ·exact ws (Ah 2 0 (C9 Eo h (λx3 gx3 h=>RW.q (L9 Eo gx3 0 8) (gn 2 0 (Wp.ret (rr (jo h hk1)▸rq))))))
   exact Wp.skip (Ap (gn 3 0 (jl h)))
  exact Wp.exit (jx h)
 intro v1 h E hE;exact AW hE (ws (gn 3 0 (Wp.ret (rr h▸rq))))
def AEJ (x:Bg):List TV:=[i6 x.Back,i6 x.Size,ts x.Text]
theorem MS:∀x,(AEJ x).length=3:=λ_=>rfl
theorem AHM:∀l,BP (AU AEJ l)=AU AEJ l:=DQ (λ_=>rfl)
def QC (l:List Bg):TV:= .sl true 234 3 (AU AEJ l)
def Zg (l:List Bg):TV:= .sl false 234 3 (AU AEJ l)
def Yv (xT:ByteArray) (z1:List Bg) (z2:Int):St:=A7 [(0,(Y xT)),(4,(.one (QC z1))),(5,(I z2))] []
def Yt (z3:List Bg):St:=A7 [(4,(.one (QC z3)))] []
theorem bO (xT:ByteArray) (r:List Bg×Bool) (h:Jt xT=some r):AM Tryz.prog 194 [.sv (Y xT)] (.tup [(.one (QC r.1)),(B r.2)]) (rg 1):=by
 refine gk Tryz.func194 rfl Tryz.ntmps194 (ws (gw 2 0 (gw 2 2 (gn 1 0 (sl2 h [0,4,5] [] (λs=>(Yv xT s.1 s.2)) [4] [] (λs=>(Yt s)) ?_ (λv1 h=>?_))))))
 ·rintro⟨a,b⟩ o (h:Ci xT a b=some o) hk1;refine Wp.seq (ws (gn 4 0 (wc h (λh=>?_) (λh=>?_))))
  ·refine Wp.skip (Wp.block (ws (Ah 2 0 (bd h λx1 gx1 h=>RW.q (xK gx1) (gn 2 0 (Wp.seq (ws (gn 2 0 (wc h (λh=>?_) (λh=>?_))))))))))
   ·refine Wp.seq (ws (gn 5 0 (wc h (λh=>?_) (λh=>?_))))
    ·exact ws (gn 3 2 (Wp.ret (rr (jo h hk1)▸rq)))
    exact Wp.skip (ws (Ah 4 0 (bd h λx2 gx2 h=>RW.q (xK gx2) (Ah 5 0 (bd h λq1 gq1 h=>CI (Dk MS (λ_=>rfl) a gq1) (gw 1 1 (gn 3 0 (Wp.exit (jl h)))))))))
   refine Wp.skip (Wp.seq (ws (gn 7 0 (wc h (λh=>?_) (λh=>?_)))))
   ·exact ws (gn 3 2 (Wp.ret (rr (jo h hk1)▸rq)))
   exact Wp.skip (ws (Ah 8 0 (bd h λx3 gx3 h=>RW.q (Vk gx3) (Ah 2 0 (bd h λq2 gq2 h=>CI (Dk MS (λ_=>rfl) a gq2) (gn 1 1 (Ap (gn 5 0 (jl h)))))))))
  exact Wp.exit (jx h)
 exact ws (gn 3 2 (Wp.ret (rr h▸rq)))
def mJ (a:List Bg) (z1:List Int) (z2:Int):St:=A7 [(0,(.one (Zg a))),(4,(.one (ot5 z1))),(5,(I z2))] []
def mI (z3:List Int):St:=A7 [(4,(.one (ot5 z3)))] []
def mH (a:List Bg) (b:Int) (z4:List Int):St:=A7 [(0,(.one (Zg a))),(4,(.one (ot5 z4))),(5,(I b))] []
def mG (a:List Bg) (b:List Int) (c:Int) (x1:Bg) (z5:Bool):St:=A7 [(0,(.one (Zg a))),(4,(.one (ot5 b))),(5,(I c)),(6,(pb 6)),(32,(B z5))] [(.box 6,[i6 x1.Back,i6 x1.Size,ts x1.Text])]
def mF (a:List Bg) (b:List Int) (c:Int) (x1:Bg) (z6:Bool):St:=A7 [(0,(.one (Zg a))),(4,(.one (ot5 b))),(5,(I c)),(6,(pb 6)),(54,(B z6))] [(.box 6,[i6 x1.Back,i6 x1.Size,ts x1.Text])]
def mE (a:List Bg) (b:Int) (x1:Bg) (z7:List Int) (z8:Int):St:=A7 [(0,(.one (Zg a))),(4,(.one (ot5 z7))),(5,(I b)),(6,(pb 6)),(7,(I z8))] [(.box 6,[i6 x1.Back,i6 x1.Size,ts x1.Text])]
def mD (a:List Bg) (b:Int) (z9:List Int):St:=A7 [(0,(.one (Zg a))),(4,(.one (ot5 z9))),(5,(I b))] []
theorem s8 (d:List Bg) (r:ByteArray×Bool) (h:Ga d=some r):AM Tryz.prog 195 [.sv (.one (Zg d))] (.tup [(Y r.1),(B r.2)]) (rg 1):=by
 refine gk Tryz.func195 rfl Tryz.ntmps195 (ws (gw 2 0 (gn 2 2 (Wp.seq (ws (gn 1 0 (DA h [0,4,5] [] (λs=>(mJ d s.1 s.2)) [4] [] (λs=>(mI s)) DM ?_ ?_)))))))
 ·rintro⟨e,i⟩ o (h:Ee d e i=some o) hk1;refine Wp.seq (ws (Ah 2 0 (RW.q (CR MS d) (gn 1 0 (wc h (λh=>?_) (λh=>?_))))))
  ·refine Wp.skip (Wp.seq (Wp.block (ws (Ah 2 0 (C9 MS h (λx1 gx1 h=>RW.q (L9 MS gx1 0 3) (gn 2 0 (Wp.seq (ws (gn 3 0 (AB0 h [0,4,5] [] (λa=>(mH d i a)) ?_ ?_)))))))))))
   ·intro a h j;refine wc h (λh=>?_) (λh=>?_)
    ·refine Wp.seq (EA h [0,4,5,6,32] [.box 6] (λa=>(mG d e i x1 a)) (λa h=>?_) (λj2 h=>?_))
     ·refine Ap (Ah 3 0 (RW.c 0 h (BR _ _ _) (λv1 gv1 h=>Ah 2 0 (AK 28 h (λh=>?_) (λh=>?_)))))
      ·exact gn 4 0 (jn h)
      exact gn 4 0 (jn h)
     refine wc h (λh=>?_) (λh=>?_)
     ·exact ws (gn 2 0 (Wp.ret (rr (jo (jr h j) hk1)▸rq)))
     exact Wp.skip (Ap (Ah 3 0 (CI (fsb (f:=c5) (b:=x1.Text) (λ_=>rfl) (by kernel_rfl)) (bd h λq1 gq1 h=>CI (Dk k5 (λ_=>rfl) e gq1) (gn 1 1 (jm h))))))
    refine Wp.seq (EA h [0,4,5,6,54] [.box 6] (λa=>(mF d e i x1 a)) (λa h=>?_) (λj3 h=>?_))
    ·refine Ap (Ah 3 0 (RW.q (CR k5 e) (RW.c 0 h (BR _ _ _) (λv2 gv2 h=>Ah 2 0 (AK 44 h (λh=>?_) (λh=>?_))))))
     ·exact gn 10 0 (jn h)
     refine Ah 2 0 (RW.c 0 h (BR _ _ _) (λv3 gv3 h=>Ah 3 0 (AK 50 h (λh=>?_) (λh=>?_))))
     ·exact gn 4 0 (jn h)
     exact gn 4 0 (jn h)
    refine wc h (λh=>?_) (λh=>?_)
    ·exact ws (gn 2 0 (Wp.ret (rr (jo (jr h j) hk1)▸rq)))
    refine Wp.skip (ws (gn 1 0 (BQ h [0,4,5,6,7] [.box 6] (λs=>(mE d i x1 s.1 s.2)) [0,4,5] [] (λs=>(mD d i s)) DM ?_ ?_)))
    ·rintro⟨g,k⟩ o (h:Ed x1 g k=some o);refine Wp.seq (ws (gn 4 0 (wc h (λh=>?_) (λh=>?_))))
     ·exact Wp.skip (Wp.seq (Wp.block (ws (Ah 2 0 (RW.q (CR k5 g) (Ah 3 0 (C9 k5 h (λx2 gx2 h=>RW.q (CB k5 gx2 0) (gn 1 0 (Ap (Ah 3 0 (bd h λq2 gq2 h=>CI (Dk k5 (λ_=>rfl) g gq2) (gn 1 1 (Ap (gn 3 0 (jl h))))))))))))))))
     exact Wp.exit (jv h)
    intro v4 h E hE;cases h;exact⟨_,rfl,hE⟩
   intro j1 h E hE;refine AW hE (ws (Ah 1 0 (RW.q (CR k5 j1) (gn 1 0 (wc h (λh=>?_) (λh=>?_))))))
   ·exact ws (gn 2 0 (Wp.ret (rr (jo h hk1)▸rq)))
   exact Wp.skip (Ap (gn 3 0 (jl h)))
  exact Wp.exit (jx h)
 intro v5 h E hE;exact AW hE (ws (Ah 1 0 (RW.q (xO (f:=c5) (λ_=>rfl) v5) (gn 2 0 (Wp.ret (rr h▸rq))))))
def bR (xS:ByteArray) (a:Int) (b:Int) (z1:Int):St:=A7 [(0,(Y xS)),(1,(I a)),(2,(I b)),(7,(I z1))] []
def bQ (z2:Int):St:=A7 [(7,(I z2))] []
def bP (xS:ByteArray) (a:Int) (b:Int) (c:Int) (z3:Bool):St:=A7 [(0,(Y xS)),(1,(I a)),(2,(I b)),(7,(I c)),(30,(B z3))] []
theorem kH (xS:ByteArray) (b:Int) (c:Int) (r:Int) (h:ME xS b c=some r):AM Tryz.prog 204 [.sv (Y xS),.sv (I b),.sv (I c)] (I r) (rg 3):=by
 refine gk Tryz.func204 rfl Tryz.ntmps204 (ws (gw 1 0 (gn 1 0 (sl1 h [0,1,2,7] [] (λs=>(bR xS b c s)) [7] [] (λs=>(bQ s)) ?_ (λv1 h=>?_)))))
 ·rintro d o (h:Hv xS b c d=some o);refine Wp.seq (EA h [0,1,2,7,30] [] (λa=>(bP xS b c d a)) (λa h=>?_) (λj1 h=>?_))
  ·refine Kt mixed (D3 3 (iX 10 h (λh=>?_) (λh=>?_)))
   ·refine D3 8 (iX 18 h (λh=>?_) (λh=>?_))
    ·exact D3 4 (bd h λx1 gx1 h=>SW.q (xK gx1) (D3 4 (bd h λx2 gx2 h=>SW.q (xK gx2) (D3 2 (SW.nil (jn h))))))
    exact D3 12 (SW.nil (jn h))
   exact D3 20 (SW.nil (jn h))
  refine wc h (λh=>?_) (λh=>?_)
  ·exact Wp.skip (Wp.block (Ap (gn 3 0 (jl h))))
  exact Wp.exit (jv h)
 exact ws (gn 2 0 (Wp.ret (rr h▸rq)))
end Go.TI
