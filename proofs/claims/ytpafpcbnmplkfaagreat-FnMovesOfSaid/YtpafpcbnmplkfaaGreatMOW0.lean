/- That they compute it. No condition. -/
import Derived.Test.YtpafpcbnmplkfaaGreatMOS0
import Derived.Test.YtpafpcbnmplkfaaGreatProg
import Derived.Shelf.Abstract
import Derived.KernelRfl
set_option linter.unusedVariables false
set_option linter.unusedSimpArgs false
namespace Go.TI
open Go Go.Proofs
set_option maxRecDepth 100000
theorem mixed:Tryz.prog.follows .mixedOrders=true:=rfl
theorem AGU:nK Tryz.prog 106 3:=AA3 Tryz.lays191 3
def c5 (x:Int):List TV:=[.int .u8 x]
theorem k5:∀x,(c5 x).length=1:=λ_=>rfl
def ot5 (l:List Int):TV:= .sl true 5 1 (AT c5 l)
def PE (l:List Int):TV:= .sl false 5 1 (AT c5 l)
theorem ADt (a:List Int) (r:Bool) (h:WD a=some r):AP Tryz.prog 5 [.sv (.one (PE a))] (B r) (rg 1):=by
 unfold WD at h;exact gk Tryz.func5 rfl Tryz.ntmps5 (ws (gw 1 0 (Ai 1 0 (RW.q (CT k5 a) (gn 2 0 (Wp.ret (rr h▸rq)))))))
def o8 (a:List Int) (z1:Int) (z2:Int):St:=AA [(0,(.one (PE a))),(3,(I z1)),(4,(I z2))] []
def o7 (a:List Int) (z3:Int):St:=AA [(0,(.one (PE a))),(3,(I z3))] []
def o6 (a:List Int) (b:Int) (c:Int) (z4:Bool):St:=AA [(0,(.one (PE a))),(3,(I b)),(4,(I c)),(15,(B z4))] []
theorem Xv (b:List Int) (r:BE) (h:PV b=some r):nL Tryz.prog 25 [.sv (.one (PE b))] [PE r.b_,i6 r.i_,i6 r.h_]:=by
 refine gkp Tryz.func25 rfl Tryz.ntmps25 (ws (AG2 (pjk) (RW.nil (ws (Ai 1 0 (RW.q (CT k5 b) (gn 2 0 (Wp.seq (ws (gn 1 0 (BM h [0,3,4] [] (λs=>(o8 b s.1 s.2)) [0,3] [] (λs=>(o7 b s)) Eu ?_ ?_)))))))))))
 ·rintro⟨c,d⟩ o (h:Jg b c d=some o);refine Wp.seq (Fp h [0,3,4,15] [] (λa=>(o6 b c d a)) (λa h=>?_) (λj1 h=>?_))
  ·refine Au (Ai 2 0 (RW.q (CT k5 b) (Ai 2 0 (AM 12 h (λh=>?_) (λh=>?_)))))
   ·exact gn 3 0 (jn h)
   exact gn 3 0 (jn h)
  refine wc h (λh=>?_) (λh=>?_)
  ·exact Wp.skip (Wp.seq (Wp.block (Au (Ai 4 0 (CG k5 h (λx1 gx1 h=>RW.q (CK k5 gx1 0) (gn 5 0 (Au (gn 3 0 (jl h))))))))))
  exact Wp.exit (jv h)
 intro v1 h E hE;refine AY hE (ws (gn 5 0 ?_));cases h;exact Wp.ret ⟨.inr rfl,rsp 2 rfl (by kernel_rfl)⟩
set_option maxHeartbeats 4000000 in
theorem Jh (xC:BE) (r:Int×BE) (h:Ig xC=some r):AP Tryz.prog 26 [.ext [PE xC.b_,i6 xC.i_,i6 xC.h_]] (I r.1) (.ext [PE r.2.b_,i6 r.2.i_,i6 r.2.h_]::rg 0):=by
 refine gkx Tryz.func26 rfl Tryz.ntmps26 (ws (gw 1 0 (gn 10 0 (Wp.seq (Lw mixed (DI 13 (SW.nil (Wp.seq (Wp.seq (Lw mixed (DI 8 (SW.q (CT k5 xC.b_) (DI 1 (SW.nil (wc h (λh=>?_) (λh=>?_))))))))))))))))
 ·exact Wp.seq (Lw mixed (DI 9 (bd h λx1 gx1 h=>SW.q (Js k5 gx1) (SW.q (CK k5 gx1 0) (DI 4 (SW.nil (Au (gw 9 0 (gn 2 0 (Wp.ret (rr h▸rx)))))))))))
 exact Wp.skip (ws (gn 2 0 (Wp.ret (rr h▸rx))))
set_option maxHeartbeats 4000000 in
theorem Di (xC:BE) (xN:Int) (r:Int×BE) (h:Dw xC xN=some r):AP Tryz.prog 27 [.ext [PE xC.b_,i6 xC.i_,i6 xC.h_],.sv (I xN)] (I r.1) (.ext [PE r.2.b_,i6 r.2.i_,i6 r.2.h_]::rg 1):=by
 refine gkx Tryz.func27 rfl Tryz.ntmps27 (ws (gn 1 0 (Wp.seq (ws (gn 2 0 (wc h (λh=>?_) (λh=>?_)))))))
 ·exact ws (gn 1 0 (Wp.ret (rr h▸rx)))
 refine Wp.skip (Wp.seq (ws (gn 2 0 (wc h (λh=>?_) (λh=>?_)))))
 ·exact ws (Ai 1 0 (F5 h (Jh _) (λ_=>rfl) (λv1 gv1 h=>Ai 1 0 (bd h λx1 gx1 h=>RW.q (prm gx1) (gn 1 0 (Wp.ret (rr h▸rx)))))))
 exact Wp.skip (ws (Ai 1 0 (F5 h (Jh _) (λ_=>rfl) (λv2 gv2 h=>gw 1 0 (Ai 1 0 (F5 h (Jh _) (λ_=>rfl) (λv3 gv3 h=>gw 1 0 (Ai 1 0 (F5 h (Jh _) (λ_=>rfl) (λv4 gv4 h=>gw 1 0 (Ai 1 0 (F5 h (Jh _) (λ_=>rfl) (λv5 gv5 h=>gw 1 0 (Ai 11 0 (bd h λx2 gx2 h=>RW.q (prm gx2) (gn 1 0 (Wp.ret (rr h▸rx))))))))))))))))))
theorem BU (xX:Int) (a:Int) (b:Int) (r:Bool) (h:BZ xX a b=some r):AP Tryz.prog 47 [.sv (I xX),.sv (I a),.sv (I b)] (B r) (rg 3):=by
 refine gk Tryz.func47 rfl Tryz.ntmps47 (ws (gw 1 0 (Ai 4 0 (AM 10 h (λh=>?_) (λh=>?_)))))
 ·exact gn 5 0 (Wp.ret (rr h▸rq))
 exact gn 5 0 (Wp.ret (rr h▸rq))
def mY (x:Leaf):List TV:=[i6 x.Is,ts x.Text]
theorem DA:∀x,(mY x).length=2:=λ_=>rfl
theorem AFX:∀l,BK (AT mY l)=AT mY l:=DJ (λ_=>rfl)
theorem AGa:∀l,AR (AT mY l)=false:=KP (λ_=>rfl)
def AF9 (l:List Leaf):TV:= .sl true 144 2 (AT mY l)
def Nt (l:List Leaf):TV:= .sl false 144 2 (AT mY l)
def Tr (o:Bool) (x:Block):List TV:=[tb x.Bad,i6 x.Wear,.sl o 144 2 (AT mY x.Leaves)]
theorem BF (o:Bool):∀x,(Tr o x).length=3:=λ_=>rfl
theorem Dh:∀l,BK (AT (Tr true) l)=AT (Tr false) l:=DJ (λx=>by simp only [Tr,BK,LH,AFX])
theorem Yj:∀l,AR (AT (Tr true) l)=false:=KP (λx=>by simp [Tr,AR,BC,AGa])
def C0 (l:List Block):TV:= .sl true 104 3 (AT (Tr true) l)
def BL (l:List Block):TV:= .sl false 104 3 (AT (Tr false) l)
def NK (o:Bool) (x:Flash):List TV:=[.sl o 104 3 (AT (Tr o) x.Blocks)]
def aU (xN:Int) (z1:Int) (z2:List Block):St:=AA [(0,(I xN)),(2,(pb 2)),(4,(pb 4)),(5,(I z1))] [(.box 2,[C0 []]),(.box 4,[C0 z2])]
def aT (z3:List Block):St:=AA [(2,(pb 2)),(4,(pb 4))] [(.box 2,[C0 []]),(.box 4,[C0 z3])]
theorem jG (xN:Int) (r:Flash×Bool) (h:OK xN=some r):AP Tryz.prog 96 [.sv (I xN)] (.tup [(.agg (NK true r.1)),(B r.2)]) (rg 1):=by
 refine gk Tryz.func96 rfl Tryz.ntmps96 (ws (gn 2 0 (Wp.seq (ws (Ai 1 0 (RW.c 0 h (BU _ _ _) (λv1 gv1 h=>gn 1 0 (wc h (λh=>?_) (λh=>?_)))))))))
 ·exact ws (gn 3 0 (Wp.ret (rr h▸rq)))
 refine Wp.skip (ws (gn 3 0 (Wp.seq (ws (gn 1 0 (BM h [0,2,4,5] [.box 2,.box 4] (λs=>(aU xN s.1 s.2)) [2,4] [.box 2,.box 4] (λs=>(aT s)) Eu ?_ ?_))))))
 ·rintro⟨b,a⟩ o (h:IB xN b a=some o);refine Wp.seq (ws (gn 3 0 (wc h (λh=>?_) (λh=>?_))))
  ·exact Wp.skip (Wp.seq (Wp.block (DM [5,7] mixed (λ_ _=>nP) (Bn [0,1] 0 (Br 2 (bd h λq1 gq1 h=>Lz (fmk DA (Leaf.mk 0 (bs [])) gq1) (Bn [3,4] 0 (Br 5 (bd h λq2 gq2 h=>Lz (sL (BF true) a [(Block.mk false 0 q1)] gq2) (Bn [6,7] 0 (Bg (Au (gn 3 0 (jl h))))))))))))))
  exact Wp.exit (jv h)
 intro v2 h E hE;exact AY hE (ws (gn 3 0 (Wp.ret (rr h▸rq))))
theorem oX (xX:Leaf) (r:Bool) (h:Ml xX=some r):AP Tryz.prog 89 [.sv (.agg (mY xX))] (B r) (rg 1):=by
 refine gk Tryz.func89 rfl Tryz.ntmps89 (ws (gn 2 0 (Wp.seq (ws (gn 2 0 (Wp.block (ws (gn 2 0 (wc h (λh=>?_) (λh=>?_))))))))))
 ·exact ws (gn 4 0 (Wp.ret (rr h▸rq)))
 refine ws (gn 2 0 (wc h (λh=>?_) (λh=>?_)))
 ·exact ws (Ai 3 0 (RW.c 0 h (BU _ _ _) (λv1 gv1 h=>gn 1 0 (Wp.ret (rr h▸rq)))))
 refine ws (gn 2 0 (wc h (λh=>?_) (λh=>?_)))
 ·exact ws (gn 5 0 (Wp.ret (rr h▸rq)))
 exact Wp.skip (ws (gn 1 0 (Wp.ret (rr h▸rq))))
def jF (xF:Flash) (z1:Int):St:=AA [(1,(pb 1)),(3,(I z1))] [(.box 1,[BL xF.Blocks])]
def jE (xF:Flash):St:=AA [(1,(pb 1))] [(.box 1,[BL xF.Blocks])]
def jD (xF:Flash) (a:Int) (x1:Block) (z2:Bool):St:=AA [(1,(pb 1)),(3,(I a)),(4,(pb 4)),(27,(B z2))] [(.box 1,[BL xF.Blocks]),(.box 4,[tb x1.Bad,i6 x1.Wear,Nt x1.Leaves])]
def jC (xF:Flash) (a:Int) (x1:Block) (z3:Int):St:=AA [(1,(pb 1)),(3,(I a)),(4,(pb 4)),(5,(I z3))] [(.box 1,[BL xF.Blocks]),(.box 4,[tb x1.Bad,i6 x1.Wear,Nt x1.Leaves])]
def jB (xF:Flash) (a:Int):St:=AA [(1,(pb 1)),(3,(I a))] [(.box 1,[BL xF.Blocks])]
def jA (xF:Flash) (a:Int) (x1:Block) (b:Int) (z4:Bool):St:=AA [(1,(pb 1)),(3,(I a)),(4,(pb 4)),(5,(I b)),(64,(B z4))] [(.box 1,[BL xF.Blocks]),(.box 4,[tb x1.Bad,i6 x1.Wear,Nt x1.Leaves])]
theorem No (xF:Flash) (r:Bool) (h:FT xF=some r):AP Tryz.prog 50 [.sv (.agg (NK false xF))] (B r) (rg 1):=by
 refine gk Tryz.func50 rfl Tryz.ntmps50 (ws (gn 2 0 (Wp.seq (ws (gn 1 0 (Er h [1,3] [.box 1] (λs=>(jF xF s)) [1] [.box 1] (λ_=>(jE xF)) Eu ?_ ?_))))))
 ·rintro b o (h:Eb xF b=some o) hk1;refine Wp.seq (ws (Ai 3 0 (RW.q (CT (BF false) xF.Blocks) (gn 1 0 (wc h (λh=>?_) (λh=>?_))))))
  ·refine Wp.skip (Wp.seq (Wp.block (ws (Ai 3 0 (CG (BF false) h (λx1 gx1 h=>RW.q (MW (BF false) gx1 0 3) (gn 2 0 (Wp.seq (Fp h [1,3,4,27] [.box 1,.box 4] (λa=>(jD xF b x1 a)) (λa h=>?_) (λj1 h=>?_))))))))))
   ·refine Au (Ai 2 0 (RW.q (CT DA x1.Leaves) (Ai 2 0 (AM 22 h (λh=>?_) (λh=>?_)))))
    ·exact gn 5 0 (jn h)
    exact Ai 2 0 (RW.c 0 h (BU _ _ _) (λv1 gv1 h=>gn 2 0 (jn h)))
   refine wc h (λh=>?_) (λh=>?_)
   ·exact ws (gn 1 0 (Wp.ret (rr (jo h hk1)▸rq)))
   refine Wp.skip (ws (gn 1 0 (Er h [1,3,4,5] [.box 1,.box 4] (λs=>(jC xF b x1 s)) [1,3] [.box 1] (λ_=>(jB xF b)) Eu ?_ ?_)))
   ·rintro d o (h:Ea x1 d=some o) hk2;refine Wp.seq (ws (Ai 3 0 (RW.q (CT DA x1.Leaves) (gn 1 0 (wc h (λh=>?_) (λh=>?_))))))
    ·refine Wp.skip (Wp.seq (Wp.block (Fp h [1,3,4,5,64] [.box 1,.box 4] (λa=>(jA xF b x1 d a)) (λa h=>?_) (λj2 h=>?_))))
     ·refine Au (Ai 3 0 (CG DA h (λx2 gx2 h=>RW.q (MW DA gx2 0 2) (RW.c 0 h (oX _) (λv2 gv2 h=>Ai 2 0 (AM 42 h (λh=>?_) (λh=>?_)))))))
      ·exact gn 22 0 (jn h)
      refine Ai 3 0 (AM 45 h (λh=>?_) (λh=>?_))
      ·refine Ai 4 0 (CG DA h (λx3 gx3 h=>RW.q (DH DA gx3 0 0) (RW.q (CK DA gx3 0) (Ai 3 0 (AM 55 h (λh=>?_) (λh=>?_))))))
       ·exact Ai 3 0 (CG DA h (λx4 gx4 h=>RW.q (DH DA gx4 0 0) (RW.q (CK DA gx4 0) (gn 3 0 (jn h)))))
       exact gn 9 0 (jn h)
      exact gn 19 0 (jn h)
     refine wc h (λh=>?_) (λh=>?_)
     ·exact ws (gn 1 0 (Wp.ret (rr (jo (jo h hk2) hk1)▸rq)))
     exact Wp.skip (Au (gn 3 0 (jl h)))
    exact Wp.exit (jx h)
   intro v3 h E hE;exact AY hE (Au (gn 3 0 (jl h)))
  exact Wp.exit (jx h)
 intro v4 h E hE;exact AY hE (ws (Ai 2 0 (RW.q (CT (BF false) xF.Blocks) (RW.c 0 h (BU _ _ _) (λv5 gv5 h=>gn 1 0 (Wp.ret (rr h▸rq)))))))
def aF (xF:Flash) (xB:Int) (a:Int) (z1:Bool):St:=AA [(1,(I xB)),(2,(I a)),(3,(pb 3)),(40,(B z1))] [(.box 3,[BL xF.Blocks])]
theorem iR (xF:Flash) (xB:Int) (b:Int) (r:ByteArray×Bool) (h:OG xF xB b=some r):AP Tryz.prog 73 [.sv (.agg (NK false xF)),.sv (I xB),.sv (I b)] (.tup [(Y r.1),(B r.2)]) (rg 3):=by
 refine gk Tryz.func73 rfl Tryz.ntmps73 (ws (gn 3 0 (Wp.seq (Fp h [1,2,3,40] [.box 3] (λa=>(aF xF xB b a)) (λa h=>?_) (λj1 h=>?_)))))
 ·refine Au (Ai 3 0 (RW.q (CT (BF false) xF.Blocks) (Ai 1 0 (RW.c 0 h (BU _ _ _) (λv1 gv1 h=>Ai 2 0 (AM 15 h (λh=>?_) (λh=>?_)))))))
  ·exact gn 25 0 (jn h)
  refine Ai 4 0 (CG (BF false) h (λx1 gx1 h=>RW.q (DH (BF false) gx1 0 2) (RW.q (CK (BF false) gx1 2) (RW.q (CT DA x1.Leaves) (Ai 1 0 (RW.c 0 h (BU _ _ _) (λv2 gv2 h=>Ai 3 0 (AM 28 h (λh=>?_) (λh=>?_)))))))))
  ·exact gn 12 0 (jn h)
  exact Ai 3 0 (CG (BF false) h (λx2 gx2 h=>RW.q (DH (BF false) gx2 0 2) (RW.q (CK (BF false) gx2 2) (Ai 1 0 (CG DA h (λx3 gx3 h=>RW.q (DH DA gx3 0 0) (RW.q (CK DA gx3 0) (gn 2 0 (jn h)))))))))
 refine wc h (λh=>?_) (λh=>?_)
 ·exact ws (gn 2 0 (Wp.ret (rr h▸rq)))
 exact Wp.skip (ws (Ai 3 0 (CG (BF false) h (λx4 gx4 h=>RW.q (DH (BF false) gx4 0 2) (RW.q (CK (BF false) gx4 2) (Ai 1 0 (CG DA h (λx5 gx5 h=>RW.q (DH DA gx5 0 1) (RW.q (CK DA gx5 1) (gn 2 0 (Wp.ret (rr h▸rq))))))))))))
def gZ (a:ByteArray) (z1:Int) (z2:Int):St:=AA [(0,(.one (.int .u32 z1))),(1,(Y a)),(5,(I z2))] []
def gX (z3:Int):St:=AA [(0,(.one (.int .u32 z3)))] []
def gW (a:ByteArray) (b:Int) (z4:Int) (z5:Int):St:=AA [(0,(.one (.int .u32 z4))),(1,(Y a)),(5,(I b)),(6,(I z5))] []
def gV (a:ByteArray) (b:Int) (z6:Int):St:=AA [(0,(.one (.int .u32 z6))),(1,(Y a)),(5,(I b))] []
theorem pB (b:Int) (a:ByteArray) (r:Int) (h:QG b a=some r):AP Tryz.prog 201 [.sv (.one (.int .u32 b)),.sv (Y a)] (.one (.int .u32 r)) (rg 2):=by
 refine gk Tryz.func201 rfl Tryz.ntmps201 (ws (gn 1 0 (Wp.seq (ws (gn 1 0 (BM h [0,1,5] [] (λs=>(gZ a s.1 s.2)) [0] [] (λs=>(gX s)) Eu ?_ ?_))))))
 ·rintro⟨c,d⟩ o (h:JD a c d=some o);refine Wp.seq (ws (gn 4 0 (wc h (λh=>?_) (λh=>?_))))
  ·refine Wp.skip (Wp.seq (Wp.block (ws (Ai 3 0 (bd h λx1 gx1 h=>RW.q (psx gx1) (gw 3 0 (gn 1 0 (BM h [0,1,5,6] [] (λs=>(gW a d s.1 s.2)) [0,1,5] [] (λs=>(gV a d s)) Eu ?_ ?_))))))))
   ·rintro⟨e,f⟩ o (h:Ii e f=some o);refine Wp.seq (ws (gn 2 0 (wc h (λh=>?_) (λh=>?_))))
    ·refine Wp.skip (Wp.seq (Wp.block (ws (gw 4 0 (gw 3 0 (gn 1 0 (wc h (λh=>?_) (λh=>?_))))))))
     ·exact Au (gn 3 0 (Au (gn 3 0 (jl h))))
     exact Wp.skip (Au (gn 3 0 (jl h)))
    exact Wp.exit (jv h)
   intro v1 h E hE;exact AY hE (Au (gn 3 0 (jl h)))
  exact Wp.exit (jv h)
 intro v2 h E hE;exact AY hE (ws (gn 2 0 (Wp.ret (rr h▸rq))))
theorem dG (a:ByteArray) (r:Int) (h:Nl a=some r):AP Tryz.prog 182 [.sv (Y a)] (.one (.int .u32 r)) (rg 1):=by
 exact gk Tryz.func182 rfl Tryz.ntmps182 (ws (gw 1 0 (Ai 1 0 (RW.c 0 h (pB _ _) (λv1 gv1 h=>gn 1 0 (Wp.ret (rr h▸rq)))))))
theorem UD (xX:Int) (r:ByteArray) (h:Kp xX=some r):AP Tryz.prog 181 [.sv (.one (.int .u32 xX))] (Y r) (rg 1):=by
 unfold Kp at h;exact gk Tryz.func181 rfl Tryz.ntmps181 (ws (gw 1 0 (Ai 12 0 (RW.q (tW (f:=c5) (λ_=>rfl) [(IntKind.u8.wrap (Int.fdiv xX (2^(min (24:Int).toNat IntKind.u32.bits)))),(IntKind.u8.wrap (Int.fdiv xX (2^(min (16:Int).toNat IntKind.u32.bits)))),(IntKind.u8.wrap (Int.fdiv xX (2^(min (8:Int).toNat IntKind.u32.bits)))),(IntKind.u8.wrap xX)]) (gn 1 0 (Wp.ret (rr h▸rq)))))))
def ZO (a:ByteArray) (z1:Bool):St:=AA [(0,(Y a)),(4,(I (sb (FJ a) 4))),(24,(B z1))] []
theorem gM (b:ByteArray) (r:ByteArray×Bool) (h:Kq b=some r):AP Tryz.prog 135 [.sv (Y b)] (.tup [(Y r.1),(B r.2)]) (rg 1):=by
 refine gk Tryz.func135 rfl Tryz.ntmps135 (ws (gw 2 0 (gn 4 0 (Wp.seq (Fp h [0,4,24] [] (λa=>(ZO b a)) (λa h=>?_) (λj1 h=>?_))))))
 ·refine DM [] mixed (λ_ _=>nP) (Bn [0,1,2] 0 (Vo 10 h (λh=>?_) (λh=>?_)))
  ·exact Bn [3,4,5,6,7,8,9,10,11,12,13,14,15,16] 0 (Bg (jn h))
  refine Bn [3,4,5,6] 0 (Vo 14 h (λh=>?_) (λh=>?_))
  ·exact Bn [7,8,9,10,11,12,13,14,15,16] 0 (Bg (jn h))
  exact Bn [7,8] 0 (bd h λx1 gx1 h=>KW.q 9 (VQ gx1) (Bn [10,11] 0 (bd h λx2 gx2 h=>KW.q 12 (VQ gx2) (Br 13 (KB.c 0 h (dG _) (λv1 gv1 h=>Br 14 (KB.c 0 h (UD _) (λv2 gv2 h=>Bn [15,16] 0 (Bg (jn h))))))))))
 refine wc h (λh=>?_) (λh=>?_)
 ·exact ws (gn 2 0 (Wp.ret (rr h▸rq)))
 exact Wp.skip (ws (Ai 2 0 (bd h λx3 gx3 h=>RW.q (VQ gx3) (gn 2 0 (Wp.ret (rr h▸rq))))))
def oZ (z1:Int) (z2:List Int):St:=AA [(0,(I z1)),(3,(.one (ot5 z2)))] []
def oY (z3:Int) (z4:List Int):St:=AA [(0,(I z3)),(3,(.one (ot5 z4)))] []
theorem IR (xN:Int) (r:ByteArray) (h:GW xN=some r):AP Tryz.prog 140 [.sv (I xN)] (Y r) (rg 1):=by
 refine gk Tryz.func140 rfl Tryz.ntmps140 (ws (gw 1 0 (gn 2 2 (sl1 h [0,3] [] (λs=>(oZ s.1 s.2)) [0,3] [] (λs=>(oY s.1 s.2)) ?_ (λv1 h=>?_)))))
 ·rintro⟨b,a⟩ o (h:HF b a=some o);refine Wp.seq (ws (gn 2 0 (wc h (λh=>?_) (λh=>?_))))
  ·exact Wp.skip (Wp.block (ws (Ai 6 0 (bd h λq1 gq1 h=>CM (Dm k5 (λ_=>rfl) a gq1) (gn 1 1 (Au (gn 3 0 (jl h))))))))
  exact Wp.exit (jv h)
 exact ws (Ai 4 0 (bd h λq2 gq2 h=>CM (Dm k5 (λ_=>rfl) v1.2 gq2) (RW.q (tW (f:=c5) (λ_=>rfl) q2) (gn 1 0 (Wp.ret (rr h▸rq))))))
def iO (a:ByteArray) (b:Int) (z1:Int) (z2:Int) (z3:Int):St:=AA [(0,(Y a)),(1,(I b)),(7,(I z1)),(8,(I z2)),(9,(I z3))] []
def iN:St:=AA [] []
def iM (b:ByteArray) (c:Int) (d:Int) (a:Int) (e:Int) (z4:Bool):St:=AA [(0,(Y b)),(1,(I c)),(7,(I d)),(8,(I a)),(9,(I e)),(25,(B z4))] []
def iL (b:Int) (a:Int) (c:Int) (x1:Int) (z5:Bool):St:=AA [(7,(I (ad b (ml (Int.tmod (IntKind.i64.wrap x1) 128) a)))),(9,(I c)),(54,(B z5))] []
theorem pH (b:ByteArray) (e:Int) (r:Int×Int×Bool) (h:Ji b e=some r):AP Tryz.prog 183 [.sv (Y b),.sv (I e)] (.tup [(I r.1),(I r.2.1),(B r.2.2)]) (rg 2):=by
 refine gk Tryz.func183 rfl Tryz.ntmps183 (ws (gn 3 0 (Wp.seq (ws (Ai 3 0 (RW.c 0 h (BU _ _ _) (λv1 gv1 h=>gn 1 0 (wc h (λh=>?_) (λh=>?_)))))))))
 ·exact ws (gn 3 0 (Wp.ret (rr h▸rq)))
 refine Wp.skip (ws (gw 1 0 (gn 1 0 (Wp.seq (ws (gn 2 0 (Er h [0,1,7,8,9] [] (λs=>(iO b e s.1 s.2.1 s.2.2)) [] [] (λ_=>iN) Eu ?_ ?_)))))))
 ·rintro⟨f,d,g⟩ o (h:DC b e f d g=some o) hk1;refine Wp.seq (Fp h [0,1,7,8,9,25] [] (λa=>(iM b e f d g a)) (λa h=>?_) (λj1 h=>?_))
  ·refine Au (Ai 5 0 (AM 20 h (λh=>?_) (λh=>?_)))
   ·exact gn 5 0 (jn h)
   exact gn 5 0 (jn h)
  refine wc h (λh=>?_) (λh=>?_)
  ·refine Wp.skip (Wp.seq (Wp.block (ws (Ai 3 0 (bd h λx1 gx1 h=>RW.q (psx gx1) (gw 6 0 (gw 3 0 (Ai 2 0 (bd h λx2 gx2 h=>RW.q (psx gx2) (gn 1 0 (wc h (λh=>?_) (λh=>?_))))))))))))
   ·refine Wp.seq (Fp h [7,9,54] [] (λa=>(iL f d g x1 a)) (λa h=>?_) (λj2 h=>?_))
    ·refine DM [] mixed (λ_ _=>nP) (Bn [0,1,2] 0 (Vo 45 h (λh=>?_) (λh=>?_)))
     ·exact Bn [3,5,6,7,8,9,4,10,11] 0 (Bg (jn h))
     exact Bn [3,5,6,7,8] 0 (bd h λx3 gx3 h=>KW.q 9 (VQ gx3) (Br 4 (KB.c 0 h (IR _) (λv2 gv2 h=>Bn [10,11] 0 (Bg (jn h))))))
    refine wc h (λh=>?_) (λh=>?_)
    ·exact ws (gn 3 0 (Wp.ret (rr (jo h hk1)▸rq)))
    exact Wp.skip (ws (gn 6 0 (Wp.ret (rr (jo h hk1)▸rq))))
   exact Wp.skip (Au (gn 3 0 (jl h)))
  exact Wp.exit (jx h)
 intro v3 h E hE;exact AY hE (ws (gn 3 0 (Wp.ret (rr h▸rq))))
def AGl (x:ED):List TV:=[ts x.text_,i6 x.at_,tb x.bad_]
def oW (xC:ED) (v1:Int×Int×Bool) (z1:Bool):St:=AA [(0,(px 0)),(3,(I v1.1)),(4,(I v1.2.1)),(26,(B z1))] [(.ext 0,[ts xC.text_,i6 xC.at_,tb xC.bad_])]
theorem Ko (xC:ED) (r:Int×ED) (h:EB xC=some r):AP Tryz.prog 136 [.ext (AGl xC)] (I r.1) (.ext (AGl r.2)::rg 0):=by
 refine gkx Tryz.func136 rfl Tryz.ntmps136 (ws (gn 1 0 (Wp.seq (DM [] mixed (λ_ _=>nP) (Bn [0,1,2,3,4,5,6,7] 0 (Br 8 (KB.c 0 h (pH _ _) (λv1 gv1 h=>Bn [9] 1 (IY 10 (IY 11 (IY 12 (Bn [13,14,15] 0 (Bg (Wp.seq (Fp h [0,3,4,26] [.ext 0] (λa=>(oW xC v1 a)) (λa h=>?_) (λj1 h=>?_))))))))))))))))
 ·refine Au (Ai 5 0 (AM 23 h (λh=>?_) (λh=>?_)))
  ·exact gn 3 0 (jn h)
  exact gn 3 0 (jn h)
 refine wc h (λh=>?_) (λh=>?_)
 ·exact ws (gw 4 0 (gn 1 0 (Wp.ret (rr h▸rx))))
 exact Wp.skip (ws (gw 5 0 (gn 2 0 (Wp.ret (rr h▸rx)))))
def c65 (x:Page):List TV:=[i6 x.Kind,i6 x.Seq,i6 x.Tx,i6 x.Part,i6 x.Count,ts x.Text]
theorem k65:∀x,(c65 x).length=6:=λ_=>rfl
def TS (l:List Page):TV:= .sl true 65 6 (AT c65 l)
def pQ (xP:Page) (z1:Bool):St:=AA [(1,(pb 1)),(39,(B z1))] [(.box 1,[i6 xP.Kind,i6 xP.Seq,i6 xP.Tx,i6 xP.Part,i6 xP.Count,ts xP.Text])]
theorem vG (xP:Page) (r:Bool) (h:JH xP=some r):AP Tryz.prog 137 [.sv (.agg (c65 xP))] (B r) (rg 1):=by
 refine gk Tryz.func137 rfl Tryz.ntmps137 (ws (gn 2 0 (Wp.seq (Fp h [1,39] [.box 1] (λa=>(pQ xP a)) (λa h=>?_) (λj1 h=>?_)))))
 ·refine Au (Ai 2 0 (RW.c 0 h (BU _ _ _) (λv1 gv1 h=>Ai 2 0 (AM 7 h (λh=>?_) (λh=>?_)))))
  ·exact gn 32 0 (jn h)
  refine Ai 2 0 (RW.c 0 h (BU _ _ _) (λv2 gv2 h=>Ai 3 0 (AM 13 h (λh=>?_) (λh=>?_))))
  ·exact gn 26 0 (jn h)
  refine Ai 2 0 (RW.c 0 h (BU _ _ _) (λv3 gv3 h=>Ai 3 0 (AM 19 h (λh=>?_) (λh=>?_))))
  ·exact gn 20 0 (jn h)
  refine Ai 2 0 (RW.c 0 h (BU _ _ _) (λv4 gv4 h=>Ai 3 0 (AM 25 h (λh=>?_) (λh=>?_))))
  ·exact gn 14 0 (jn h)
  refine Ai 5 0 (RW.c 0 h (BU _ _ _) (λv5 gv5 h=>Ai 3 0 (AM 34 h (λh=>?_) (λh=>?_))))
  ·exact gn 5 0 (jn h)
  exact gn 5 0 (jn h)
 refine wc h (λh=>?_) (λh=>?_)
 ·exact ws (gn 1 0 (Wp.ret (rr h▸rq)))
 refine Wp.skip (ws (Ai 4 0 (AM 43 h (λh=>?_) (λh=>?_))))
 ·exact gn 5 0 (Wp.ret (rr h▸rq))
 exact gn 5 0 (Wp.ret (rr h▸rq))
theorem UC (xN:Int) (r:ByteArray) (h:Jc xN=some r):AP Tryz.prog 139 [.sv (I xN)] (Y r) (rg 1):=by
 unfold Jc at h;exact gk Tryz.func139 rfl Tryz.ntmps139 (ws (gw 1 0 (Ai 3 0 (RW.q (tW (f:=c5) (λ_=>rfl) [(IntKind.u8.wrap xN)]) (gn 1 0 (Wp.ret (rr h▸rq)))))))
theorem u9 (a:ByteArray) (r:ByteArray×Bool) (h:JE a=some r):AP Tryz.prog 138 [.sv (Y a)] (.tup [(Y r.1),(B r.2)]) (rg 1):=by
 refine gk Tryz.func138 rfl Tryz.ntmps138 (ws (gn 2 0 (Wp.seq (ws (gn 3 0 (wc h (λh=>?_) (λh=>?_)))))))
 ·exact ws (gn 2 0 (Wp.ret (rr h▸rq)))
 exact Wp.skip (ws (Ai 2 0 (RW.c 0 h (dG _) (λv1 gv1 h=>RW.c 0 h (UD _) (λv2 gv2 h=>bd h λx1 gx1 h=>RW.q (Fj gx1) (gn 2 0 (Wp.ret (rr h▸rq))))))))
theorem SG (xP:Page) (r:ByteArray×Bool) (h:Es xP=some r):AP Tryz.prog 76 [.sv (.agg (c65 xP))] (.tup [(Y r.1),(B r.2)]) (rg 1):=by
 refine gk Tryz.func76 rfl Tryz.ntmps76 (ws (gn 3 0 (Wp.seq (ws (Ai 1 0 (RW.c 0 h (vG _) (λv1 gv1 h=>gn 1 0 (wc h (λh=>?_) (λh=>?_)))))))))
 ·exact ws (gn 2 0 (Wp.ret (rr h▸rq)))
 refine Wp.skip (Wp.seq (DM [] mixed (λ_ _=>nP) (Bn [0,1,3,4,7,8,11,12,15,16,19,20] 0 (Br 2 (KB.c 0 h (UC _) (λv2 gv2 h=>Br 5 (KB.c 0 h (IR _) (λv3 gv3 h=>bd h λx1 gx1 h=>KW.q 6 (Fj gx1) (Br 9 (KB.c 0 h (IR _) (λv4 gv4 h=>bd h λx2 gx2 h=>KW.q 10 (Fj gx2) (Br 13 (KB.c 0 h (IR _) (λv5 gv5 h=>bd h λx3 gx3 h=>KW.q 14 (Fj gx3) (Br 17 (KB.c 0 h (IR _) (λv6 gv6 h=>bd h λx4 gx4 h=>KW.q 18 (Fj gx4) (bd h λx5 gx5 h=>KW.q 21 (Fj gx5) (Br 22 (KB.c 0 h (u9 _) (λv7 gv7 h=>IY 23 (IY 24 (Bn [25,26] 0 (Bg ?_))))))))))))))))))))))));exact Wp.ret (rr h▸rq)
def aE (xT:ByteArray) (v1:ByteArray×Bool) (z1:Bool):St:=AA [(0,(Y xT)),(2,(pb 2)),(4,(Y v1.1)),(6,(pb 24))] [(.box 2,[i6 0,i6 0,i6 0,i6 0,i6 0,ts (bs [])]),(.box 24,[ts v1.1,i6 1,tb z1])]
def aD (v2:Int×ED) (v3:Int×ED) (v4:Int×ED) (v5:Int×ED) (x1:Int) (x2:ByteArray) (z2:Bool):St:=AA [(2,(pb 2)),(7,(pb 7)),(64,(B z2))] [(.box 2,[i6 0,i6 0,i6 0,i6 0,i6 0,ts (bs [])]),(.box 7,[i6 (IntKind.i64.wrap x1),i6 v2.1,i6 v3.1,i6 v4.1,i6 v5.1,ts x2])]
theorem iQ (xT:ByteArray) (r:Page×Bool) (h:Fu xT=some r):AP Tryz.prog 74 [.sv (Y xT)] (.tup [(.agg (c65 r.1)),(B r.2)]) (rg 1):=by
 refine gk Tryz.func74 rfl Tryz.ntmps74 (ws (gw 2 0 (Ai 1 0 (RW.c 0 h (gM _) (λv1 gv1 h=>gn 5 1 (Fp h [0,2,4,6] [.box 2,.box 24] (λa=>(aE xT v1 a)) (λa h=>?_) (λj1 h=>?_)))))))
 ·refine Au (Ai 4 0 (AM 18 h (λh=>?_) (λh=>?_)))
  ·exact gn 7 0 (jn h)
  exact gn 7 0 (jn h)
 refine ws (Ai 1 0 (F5 h (Ko _) (λ_=>rfl) (λv2 gv2 h=>gw 3 0 (Ai 1 0 (F5 h (Ko _) (λ_=>rfl) (λv3 gv3 h=>gw 2 0 (Ai 1 0 (F5 h (Ko _) (λ_=>rfl) (λv4 gv4 h=>gw 2 0 (Ai 1 0 (F5 h (Ko _) (λ_=>rfl) (λv5 gv5 h=>gn 2 0 (Wp.seq (ws (gn 4 0 (wc h (λh=>?_) (λh=>?_)))))))))))))))))
 ·exact ws (gn 3 0 (Wp.ret (rr h▸rq)))
 refine Wp.skip (ws (Ai 1 0 (bd h λx1 gx1 h=>RW.q (psx gx1) (gw 3 0 (Ai 5 0 (bd h λx2 gx2 h=>RW.q (VQ gx2) (gw 2 0 (Ai 1 0 (RW.c 0 h (SG _) (λv6 gv6 h=>gn 5 1 (Wp.seq (Fp h [2,7,64] [.box 2,.box 7] (λa=>(aD v2 v3 v4 v5 x1 x2 a)) (λa h=>?_) (λj2 h=>?_)))))))))))))
 ·refine Au (Ai 3 0 (AM 60 h (λh=>?_) (λh=>?_)))
  ·exact gn 4 0 (jn h)
  exact gn 4 0 (jn h)
 refine wc h (λh=>?_) (λh=>?_)
 ·exact ws (gn 3 0 (Wp.ret (rr h▸rq)))
 exact Wp.skip (ws (gn 3 0 (Wp.ret (rr h▸rq))))
def c67 (x:Al):List TV:=[i6 x.Block,i6 x.Leaf,i6 x.Page.Kind,i6 x.Page.Seq,i6 x.Page.Tx,i6 x.Page.Part,i6 x.Page.Count,ts x.Page.Text]
theorem Et:∀x,(c67 x).length=8:=λ_=>rfl
theorem WV:∀l,BK (AT c67 l)=AT c67 l:=DJ (λ_=>rfl)
def GT (l:List Al):TV:= .sl true 67 8 (AT c67 l)
def I5 (l:List Al):TV:= .sl false 67 8 (AT c67 l)
def iJ (xF:Flash) (z1:List Al) (z2:Int):St:=AA [(1,(pb 1)),(3,(.one (GT z1))),(4,(I z2))] [(.box 1,[BL xF.Blocks])]
def iI (z3:List Al):St:=AA [(3,(.one (GT z3)))] []
def iH (xF:Flash) (a:Int) (z4:List Al) (z5:Int):St:=AA [(1,(pb 1)),(3,(.one (GT z4))),(4,(I a)),(5,(I z5))] [(.box 1,[BL xF.Blocks])]
def iG (xF:Flash) (a:Int) (z6:List Al):St:=AA [(1,(pb 1)),(3,(.one (GT z6))),(4,(I a))] [(.box 1,[BL xF.Blocks])]
def iF (xF:Flash) (b:Int) (a:List Al) (c:Int) (v2:Page×Bool) (z7:Bool):St:=AA [(1,(pb 1)),(3,(.one (GT a))),(4,(I b)),(5,(I c)),(8,(pb 8)),(47,(B z7))] [(.box 1,[BL xF.Blocks]),(.box 8,[i6 v2.1.Kind,i6 v2.1.Seq,i6 v2.1.Tx,i6 v2.1.Part,i6 v2.1.Count,ts v2.1.Text])]
def iE (z8:List Al) (z9:Int):St:=AA [(3,(.one (GT z8))),(10,(I z9))] []
def iD (z10:List Al):St:=AA [(3,(.one (GT z10)))] []
def iC (a:Int) (z11:List Al) (z12:Int):St:=AA [(3,(.one (GT z11))),(10,(I a)),(11,(I z12))] []
def iB (a:Int) (z13:List Al):St:=AA [(3,(.one (GT z13))),(10,(I a))] []
def ZY (b:Int) (a:List Al) (c:Int) (z14:Bool):St:=AA [(3,(.one (GT a))),(10,(I b)),(11,(I c)),(79,(B z14))] []
theorem HH (xF:Flash) (r:List Al) (h:FP xF=some r):AP Tryz.prog 32 [.sv (.agg (NK false xF))] (.one (GT r)) (rg 1):=by
 refine gk Tryz.func32 rfl Tryz.ntmps32 (ws (gw 2 0 (gn 2 2 (Wp.seq (ws (gn 1 0 (BM h [1,3,4] [.box 1] (λs=>(iJ xF s.1 s.2)) [3] [] (λs=>(iI s)) Eu ?_ ?_)))))))
 ·rintro⟨i,d⟩ o (h:Ey xF i d=some o);refine Wp.seq (ws (Ai 3 0 (RW.q (CT (BF false) xF.Blocks) (gn 1 0 (wc h (λh=>?_) (λh=>?_))))))
  ·refine Wp.skip (Wp.seq (Wp.block (ws (gn 1 0 (BM h [1,3,4,5] [.box 1] (λs=>(iH xF d s.1 s.2)) [1,3,4] [.box 1] (λs=>(iG xF d s)) Eu ?_ ?_)))))
   ·rintro⟨b,j⟩ o (h:EW xF d b j=some o);refine Wp.seq (ws (Ai 4 0 (CG (BF false) h (λx1 gx1 h=>RW.q (DH (BF false) gx1 0 2) (RW.q (CK (BF false) gx1 2) (RW.q (CT DA x1.Leaves) (gn 1 0 (wc h (λh=>?_) (λh=>?_)))))))))
    ·refine Wp.skip (Wp.seq (Wp.block (ws (Ai 3 0 (RW.c 0 h (iR _ _ _) (λv1 gv1 h=>gw 5 1 (Ai 1 0 (RW.c 0 h (iQ _) (λv2 gv2 h=>gn 6 1 (Fp h [1,3,4,5,8,47] [.box 1,.box 8] (λa=>(iF xF d b j v2 a)) (λa h=>?_) (λj1 h=>?_)))))))))))
     ·refine Au (Ai 2 0 (AM 45 h (λh=>?_) (λh=>?_)))
      ·exact gn 2 0 (jn h)
      exact gn 2 0 (jn h)
     refine wc h (λh=>?_) (λh=>?_)
     ·exact Au (Ai 6 0 (bd h λq1 gq1 h=>CM (Dm Et (λ_=>rfl) b gq1) (gn 1 1 (Au (gn 3 0 (jl h))))))
     exact Wp.skip (Au (gn 3 0 (jl h)))
    exact Wp.exit (jv h)
   intro v3 h E hE;exact AY hE (Au (gn 3 0 (jl h)))
  exact Wp.exit (jv h)
 intro v4 h E hE;refine AY hE (Wp.seq (ws (gn 1 0 (BM h [3,10] [] (λs=>(iE s.1 s.2)) [3] [] (λs=>(iD s)) Eu ?_ ?_))))
 ·rintro⟨e,g⟩ o (h:JG e g=some o);refine Wp.seq (ws (Ai 2 0 (RW.q (CT Et e) (gn 1 0 (wc h (λh=>?_) (λh=>?_))))))
  ·refine Wp.skip (Wp.seq (Wp.block (ws (gn 2 0 (BM h [3,10,11] [] (λs=>(iC g s.1 s.2)) [3,10] [] (λs=>(iB g s)) Eu ?_ ?_)))))
   ·rintro⟨f,k⟩ o (h:JF f k=some o);refine Wp.seq (Fp h [3,10,11,79] [] (λa=>(ZY g f k a)) (λa h=>?_) (λj2 h=>?_))
    ·refine Lw mixed (DI 3 (fB 64 h (λh=>?_) (λh=>?_)))
     ·exact DI 3 (bd h λx2 gx2 h=>SW.q (Js Et gx2) (SW.q (DH Et gx2 0 2) (SW.q (DH Et gx2 2 3) (SW.q (CK Et gx2 3) (DI 2 (bd h λx3 gx3 h=>SW.q (Js Et gx3) (SW.q (DH Et gx3 0 2) (SW.q (DH Et gx3 2 3) (SW.q (CK Et gx3 3) (DI 2 (SW.nil (jn h))))))))))))
     exact DI 15 (SW.nil (jn h))
    refine wc h (λh=>?_) (λh=>?_)
    ·exact Wp.skip (Wp.seq (Wp.block (ws (Ai 2 0 (CG Et h (λx4 gx4 h=>RW.q (MW Et gx4 0 8) (gw 2 0 (Ai 5 0 (CG Et h (λx5 gx5 h=>RW.q (MW Et gx5 0 8) (CG Et h (λx6 gx6 h=>CM (MY Et gx6 0 0 x5) (RW.nil (Au (Ai 4 0 (CG Et h (λx7 gx7 h=>CM (MY Et gx7 0 0 x4) (RW.nil (Au (gn 3 0 (jl h)))))))))))))))))))))
    exact Wp.exit (jv h)
   intro v5 h E hE;exact AY hE (Au (gn 3 0 (jl h)))
  exact Wp.exit (jv h)
 intro v6 h E hE;exact AY hE (ws (gn 2 2 (Wp.ret (rr h▸rq))))
def gJ (xF:Flash) (z1:Int) (z2:List Block):St:=AA [(1,(pb 1)),(2,(pb 2)),(3,(pb 3)),(4,(I z1))] [(.box 1,[BL xF.Blocks]),(.box 2,[C0 []]),(.box 3,[C0 z2])]
def gI (z3:List Block):St:=AA [(2,(pb 2)),(3,(pb 3))] [(.box 2,[C0 []]),(.box 3,[C0 z3])]
theorem Jd (xF:Flash) (r:Flash) (h:Hg xF=some r):AP Tryz.prog 48 [.sv (.agg (NK false xF))] (.agg (NK true r)) (rg 1):=by
 refine gk Tryz.func48 rfl Tryz.ntmps48 (ws (gw 2 0 (gn 3 0 (Wp.seq (ws (gn 1 0 (BM h [1,2,3,4] [.box 1,.box 2,.box 3] (λs=>(gJ xF s.1 s.2)) [2,3] [.box 2,.box 3] (λs=>(gI s)) Eu ?_ ?_)))))))
 ·rintro⟨b,a⟩ o (h:JB xF b a=some o);refine Wp.seq (ws (Ai 3 0 (RW.q (CT (BF false) xF.Blocks) (gn 1 0 (wc h (λh=>?_) (λh=>?_))))))
  ·exact Wp.skip (Wp.seq (Wp.block (ws (Ai 3 0 (CG (BF false) h (λx1 gx1 h=>RW.q (MW (BF false) gx1 0 3) (gw 2 0 (Ai 3 0 (bd h λq1 gq1 h=>CM (Dm DA (λ_=>rfl) [] gq1) (gn 2 0 (Au (Ai 4 0 (bd h λq2 gq2 h=>CM (sL (BF true) a [(Block.mk x1.Bad x1.Wear q1)] gq2) (gn 2 0 (Au (gn 3 0 (jl h)))))))))))))))))
  exact Wp.exit (jv h)
 intro v1 h E hE;exact AY hE (ws (gn 2 0 (Wp.ret (rr h▸rq))))
def c53 (x:Vol):List TV:=[i6 x.Id,i6 x.Root]
theorem E4:∀x,(c53 x).length=2:=λ_=>rfl
theorem Fq:∀l,BK (AT c53 l)=AT c53 l:=DJ (λ_=>rfl)
theorem Yi:∀l,AR (AT c53 l)=false:=KP (λ_=>rfl)
def Dp (l:List Vol):TV:= .sl true 53 2 (AT c53 l)
def DN (l:List Vol):TV:= .sl false 53 2 (AT c53 l)
def c3 (x:Int):List TV:=[i6 x]
theorem k3:∀x,(c3 x).length=1:=λ_=>rfl
theorem tV:∀l,BK (AT c3 l)=AT c3 l:=DJ (λ_=>rfl)
theorem ns3:∀l,AR (AT c3 l)=false:=KP (λ_=>rfl)
def EO (l:List Int):TV:= .sl true 3 1 (AT c3 l)
def QP (l:List Int):TV:= .sl false 3 1 (AT c3 l)
def Zf (o:Bool) (x:Cb):List TV:=[tb x.Leaf,.sl o 3 1 (AT c3 x.Kids)]
theorem CS (o:Bool):∀x,(Zf o x).length=2:=λ_=>rfl
theorem Dn:∀l,BK (AT (Zf true) l)=AT (Zf false) l:=DJ (λx=>by simp only [Zf,BK,LH,tV])
theorem Lo:∀l,AR (AT (Zf true) l)=false:=KP (λx=>by simp [Zf,AR,BC,ns3])
def Bw (l:List Cb):TV:= .sl true 223 2 (AT (Zf true) l)
def BP (l:List Cb):TV:= .sl false 223 2 (AT (Zf false) l)
def Sm (o:Bool) (x:Store):List TV:=[.sl o 53 2 (AT c53 x.Vols),.sl o 223 2 (AT (Zf o) x.Arena.Knots),i6 x.Next]
theorem iA (r:Store) (h:OE=some r):AP Tryz.prog 51 [] (.agg (Sm true r)) (rg 0):=by
 unfold OE at h;exact gk Tryz.func51 rfl Tryz.ntmps51 (ws (gw 1 0 (gn 2 0 (Wp.ret (rr h▸rq)))))
def Un (x:C3):List TV:=[i6 x.Kind,i6 x.Vol,i6 x.Arg,i6 x.Chunk]
theorem I7:∀x,(Un x).length=4:=λ_=>rfl
theorem zE:∀l,BK (AT Un l)=AT Un l:=DJ (λ_=>rfl)
theorem AEF:∀l,AR (AT Un l)=false:=KP (λ_=>rfl)
def EC (l:List C3):TV:= .sl true 138 4 (AT Un l)
def NZ (l:List C3):TV:= .sl false 138 4 (AT Un l)
def vB (z1:Bool):St:=AA [(2,(B z1))] []
def vA (xR:C3) (z2:Bool):St:=AA [(1,(pb 1)),(37,(B z2))] [(.box 1,[i6 xR.Kind,i6 xR.Vol,i6 xR.Arg,i6 xR.Chunk])]
theorem TM (xR:C3) (r:Bool) (h:Nn xR=some r):AP Tryz.prog 160 [.sv (.agg (Un xR))] (B r) (rg 1):=by
 refine gk Tryz.func160 rfl Tryz.ntmps160 (ws (gn 2 0 (Wp.seq (ws (Ai 2 0 (RW.c 0 h (BU _ _ _) (λv1 gv1 h=>gn 1 0 (wc h (λh=>?_) (λh=>?_)))))))))
 ·exact ws (gn 1 0 (Wp.ret (rr h▸rq)))
 refine Wp.skip (Wp.seq (ws (gn 3 0 (wc h (λh=>?_) (λh=>?_)))))
 ·refine Fp h [2] [] (λa=>(vB a)) (λa h=>?_) (λj1 h=>?_)
  ·refine Au (Ai 4 0 (AM 13 h (λh=>?_) (λh=>?_)))
   ·exact gn 5 0 (jn h)
   exact gn 5 0 (jn h)
  exact Wp.ret (rr h▸rq)
 refine Wp.skip (Wp.seq (Fp h [1,37] [.box 1] (λa=>(vA xR a)) (λa h=>?_) (λj2 h=>?_)))
 ·refine Au (Ai 2 0 (RW.c 0 h (BU _ _ _) (λv2 gv2 h=>Ai 2 0 (AM 22 h (λh=>?_) (λh=>?_)))))
  ·exact gn 15 0 (jn h)
  refine Ai 2 0 (RW.c 0 h (BU _ _ _) (λv3 gv3 h=>Ai 3 0 (AM 28 h (λh=>?_) (λh=>?_))))
  ·exact gn 9 0 (jn h)
  refine Ai 4 0 (AM 32 h (λh=>?_) (λh=>?_))
  ·exact gn 5 0 (jn h)
  exact gn 5 0 (jn h)
 refine wc h (λh=>?_) (λh=>?_)
 ·exact ws (gn 1 0 (Wp.ret (rr h▸rq)))
 refine Wp.skip (Wp.seq (ws (gn 2 0 (Wp.block (ws (gn 2 0 (wc h (λh=>?_) (λh=>?_))))))))
 ·exact ws (gn 4 0 (Wp.ret (rr h▸rq)))
 refine ws (gn 2 0 (wc h (λh=>?_) (λh=>?_)))
 ·exact ws (gn 4 0 (Wp.ret (rr h▸rq)))
 refine ws (gn 2 0 (wc h (λh=>?_) (λh=>?_)))
 ·refine ws (Ai 4 0 (AM 55 h (λh=>?_) (λh=>?_)))
  ·exact Ai 2 0 (RW.c 0 h (BU _ _ _) (λv4 gv4 h=>gn 2 0 (Wp.ret (rr h▸rq))))
  exact gn 5 0 (Wp.ret (rr h▸rq))
 exact Wp.skip (ws (gn 4 0 (Wp.ret (rr h▸rq))))
def aC (xT:ByteArray) (z1:List C3) (z2:ByteArray) (z3:Int) (z4:Bool):St:=AA [(0,(Y xT)),(4,(.one (EC z1))),(5,(pb 11))] [(.box 11,[ts z2,i6 z3,tb z4])]
def aB (z5:List C3):St:=AA [(4,(.one (EC z5)))] []
def aA (xT:ByteArray) (a:List C3) (y01:ByteArray) (y11:Int) (y21:Bool) (z6:Bool):St:=AA [(0,(Y xT)),(4,(.one (EC a))),(5,(pb 11)),(25,(B z6))] [(.box 11,[ts y01,i6 y11,tb y21])]
def ZZ (xT:ByteArray) (a:List C3) (x1:Int) (v1:Int×ED) (v2:Int×ED) (z7:Bool):St:=AA [(0,(Y xT)),(4,(.one (EC a))),(5,(pb 11)),(7,(pb 7)),(59,(B z7))] [(.box 7,[i6 (qu (IntKind.i64.wrap x1) 16),i6 (Int.tmod (IntKind.i64.wrap x1) 16),i6 v1.1,i6 v2.1]),(.box 11,[ts v2.2.text_,i6 v2.2.at_,tb v2.2.bad_])]
theorem iP (xT:ByteArray) (r:List C3×Bool) (h:Kt xT=some r):AP Tryz.prog 157 [.sv (Y xT)] (.tup [(.one (EC r.1)),(B r.2)]) (rg 1):=by
 refine gk Tryz.func157 rfl Tryz.ntmps157 (ws (gw 2 0 (gw 2 2 (gn 4 0 (sl2 h [0,4,5] [.box 11] (λs=>(aC xT s.1 s.2.1 s.2.2.1 s.2.2.2)) [4] [] (λs=>(aB s)) ?_ (λv4 h=>?_))))))
 ·rintro⟨b,y01,y11,y21⟩ o (h:Ez xT b y01 y11 y21=some o) hk1;refine Wp.seq (Fp h [0,4,5,25] [.box 11] (λa=>(aA xT b y01 y11 y21 a)) (λa h=>?_) (λj1 h=>?_))
  ·refine Au (Ai 8 0 (AM 19 h (λh=>?_) (λh=>?_)))
   ·exact gn 6 0 (jn h)
   exact gn 6 0 (jn h)
  refine wc h (λh=>?_) (λh=>?_)
  ·refine Wp.skip (Wp.block (ws (Ai 5 0 (bd h λx1 gx1 h=>RW.q (psx gx1) (gw 2 0 (gw 9 0 (Ai 5 0 (F5 h (Ko _) (λ_=>rfl) (λv1 gv1 h=>gw 3 0 (Ai 1 0 (F5 h (Ko _) (λ_=>rfl) (λv2 gv2 h=>gn 2 0 (Wp.seq (Fp h [0,4,5,7,59] [.box 7,.box 11] (λa=>(ZZ xT b x1 v1 v2 a)) (λa h=>?_) (λj2 h=>?_)))))))))))))))
   ·refine Au (Ai 5 0 (AM 55 h (λh=>?_) (λh=>?_)))
    ·exact gn 4 0 (jn h)
    exact Ai 1 0 (RW.c 0 h (TM _) (λv3 gv3 h=>gn 2 0 (jn h)))
   refine wc h (λh=>?_) (λh=>?_)
   ·exact ws (gn 3 2 (Wp.ret (rr (jo h hk1)▸rq)))
   exact Wp.skip (Au (Ai 3 0 (bd h λq1 gq1 h=>CM (Dm I7 (λ_=>rfl) b gq1) (gn 1 1 (jl h)))))
  exact Wp.exit (jx h)
 exact ws (gn 3 2 (Wp.ret (rr h▸rq)))
def c98 (o:Bool) (x:Tx):List TV:=[i6 x.Num,i6 x.Seq,.sl o 138 4 (AT Un x.Recs)]
theorem Rq (o:Bool):∀x,(c98 o x).length=3:=λ_=>rfl
theorem AFV:∀l,BK (AT (c98 true) l)=AT (c98 false) l:=DJ (λx=>by simp only [c98,BK,LH,zE])
theorem AFh:∀l,AR (AT (c98 true) l)=false:=KP (λx=>by simp [c98,AR,BC,AEF])
def bH (l:List Tx):TV:= .sl true 98 3 (AT (c98 true) l)
def AAQ (l:List Tx):TV:= .sl false 98 3 (AT (c98 false) l)
def uY (a:List Al) (b:Int) (z1:Int) (z2:ByteArray) (z3:Int) (z4:Int):St:=AA [(0,(.one (I5 a))),(1,(I b)),(4,(pb 4)),(6,(pb 6)),(7,(I z1)),(8,(Y z2)),(9,(I z3))] [(.box 4,[i6 0,i6 0,EC []]),(.box 6,[i6 b,i6 z4,EC []])]
def uX (a:Int) (z5:ByteArray) (z6:Int):St:=AA [(4,(pb 4)),(6,(pb 6)),(8,(Y z5))] [(.box 4,[i6 0,i6 0,EC []]),(.box 6,[i6 a,i6 z6,EC []])]
def uW (e:List Al) (f:Int) (a:Int) (b:ByteArray) (c:Int) (d:Int) (z7:Bool):St:=AA [(0,(.one (I5 e))),(1,(I f)),(4,(pb 4)),(6,(pb 6)),(7,(I a)),(8,(Y b)),(9,(I c)),(23,(B z7))] [(.box 4,[i6 0,i6 0,EC []]),(.box 6,[i6 f,i6 d,EC []])]
def uV (b:List Al) (c:Int) (a:Int) (z8:Int) (z9:ByteArray) (z10:Bool) (z11:Int) (z12:Int):St:=AA [(0,(.one (I5 b))),(1,(I c)),(4,(pb 4)),(6,(pb 6)),(7,(I z8)),(8,(Y z9)),(9,(I a)),(10,(B z10)),(11,(I z11))] [(.box 4,[i6 0,i6 0,EC []]),(.box 6,[i6 c,i6 z12,EC []])]
def uU (b:List Al) (c:Int) (a:Int) (z13:Int) (z14:ByteArray) (z15:Bool) (z16:Int):St:=AA [(0,(.one (I5 b))),(1,(I c)),(4,(pb 4)),(6,(pb 6)),(7,(I z13)),(8,(Y z14)),(9,(I a)),(10,(B z15))] [(.box 4,[i6 0,i6 0,EC []]),(.box 6,[i6 c,i6 z16,EC []])]
def uT (f:List Al) (g:Int) (c:Int) (a:Int) (d:ByteArray) (b:Bool) (h:Int) (e:Int) (z17:Bool):St:=AA [(0,(.one (I5 f))),(1,(I g)),(4,(pb 4)),(6,(pb 6)),(7,(I a)),(8,(Y d)),(9,(I c)),(10,(B b)),(11,(I h)),(33,(B z17))] [(.box 4,[i6 0,i6 0,EC []]),(.box 6,[i6 g,i6 e,EC []])]
def uS (f:List Al) (g:Int) (c:Int) (a:Int) (d:ByteArray) (b:Bool) (h:Int) (e:Int) (x1:Al) (z18:Bool):St:=AA [(0,(.one (I5 f))),(1,(I g)),(4,(pb 4)),(6,(pb 6)),(7,(I a)),(8,(Y d)),(9,(I c)),(10,(B b)),(11,(I h)),(12,(pb 12)),(65,(B z18))] [(.box 4,[i6 0,i6 0,EC []]),(.box 6,[i6 g,i6 e,EC []]),(.box 12,[i6 x1.Page.Kind,i6 x1.Page.Seq,i6 x1.Page.Tx,i6 x1.Page.Part,i6 x1.Page.Count,ts x1.Page.Text])]
def uR (c:List Al) (d:Int) (a:Int) (e:Int) (b:Int) (x1:Al) (x2:ByteArray) (z19:Bool):St:=AA [(0,(.one (I5 c))),(1,(I d)),(4,(pb 4)),(6,(pb 6)),(7,(I x1.Page.Count)),(8,(Y x2)),(9,(I a)),(10,(B true)),(11,(I e)),(12,(pb 12)),(80,(B z19))] [(.box 4,[i6 0,i6 0,EC []]),(.box 6,[i6 d,i6 b,EC []]),(.box 12,[i6 x1.Page.Kind,i6 x1.Page.Seq,i6 x1.Page.Tx,i6 x1.Page.Part,i6 x1.Page.Count,ts x1.Page.Text])]
theorem AAB (b:List Al) (e:Int) (r:Tx×Bool) (h:Wj b e=some r):AP Tryz.prog 90 [.sv (.one (I5 b)),.sv (I e)] (.tup [(.agg (c98 true r.1)),(B r.2)]) (rg 2):=by
 refine gk Tryz.func90 rfl Tryz.ntmps90 (ws (gw 2 0 (gw 4 0 (gw 1 0 (gn 1 0 (Wp.seq (ws (gn 1 0 (Er h [0,1,4,6,7,8,9] [.box 4,.box 6] (λs=>(uY b e s.1 s.2.1 s.2.2.1 s.2.2.2)) [4,6,8] [.box 4,.box 6] (λs=>(uX e s.1 s.2)) Eu ?_ ?_)))))))))
 ·rintro⟨k,l,d,m⟩ o (h:OC b e k l d m=some o) hk1;refine Wp.seq (Fp h [0,1,4,6,7,8,9,23] [.box 4,.box 6] (λa=>(uW b e k l d m a)) (λa h=>?_) (λj1 h=>?_))
  ·refine Au (Ai 3 0 (AM 19 h (λh=>?_) (λh=>?_)))
   ·exact gn 4 0 (jn h)
   exact gn 4 0 (jn h)
  refine wc h (λh=>?_) (λh=>?_)
  ·refine Wp.skip (Wp.seq (Wp.block (ws (gn 1 0 (Wp.seq (ws (gn 1 0 (BM h [0,1,4,6,7,8,9,10,11] [.box 4,.box 6] (λs=>(uV b e d s.1 s.2.1 s.2.2.1 s.2.2.2.1 s.2.2.2.2)) [0,1,4,6,7,8,9,10] [.box 4,.box 6] (λs=>(uU b e d s.1 s.2.1 s.2.2.1 s.2.2.2)) Eu ?_ ?_))))))))
   ·rintro⟨g,j,i,n,f⟩ o (h:IQ b e d g j i n f=some o);refine Wp.seq (Fp h [0,1,4,6,7,8,9,10,11,33] [.box 4,.box 6] (λa=>(uT b e d g j i n f a)) (λa h=>?_) (λj2 h=>?_))
    ·refine Au (Ai 2 0 (RW.q (CT Et b) (Ai 2 0 (AM 30 h (λh=>?_) (λh=>?_)))))
     ·exact gn 3 0 (jn h)
     exact gn 3 0 (jn h)
    refine wc h (λh=>?_) (λh=>?_)
    ·refine Wp.skip (Wp.seq (Wp.block (ws (Ai 2 0 (CG Et h (λx1 gx1 h=>RW.q (DH Et gx1 0 2) (RW.q (MW Et gx1 2 6) (gn 2 0 (Wp.seq (Fp h [0,1,4,6,7,8,9,10,11,12,65] [.box 4,.box 6,.box 12] (λa=>(uS b e d g j i n f x1 a)) (λa h=>?_) (λj3 h=>?_)))))))))))
     ·refine Au (Ai 4 0 (AM 44 h (λh=>?_) (λh=>?_)))
      ·exact gn 21 0 (jn h)
      refine Ai 6 0 (AM 50 h (λh=>?_) (λh=>?_))
      ·exact gn 15 0 (jn h)
      refine Ai 6 0 (AM 56 h (λh=>?_) (λh=>?_))
      ·exact gn 9 0 (jn h)
      refine Ai 3 0 (AM 59 h (λh=>?_) (λh=>?_))
      ·exact gn 6 0 (jn h)
      exact gn 6 0 (jn h)
     refine wc h (λh=>?_) (λh=>?_)
     ·exact Wp.exit (Au (gn 3 0 (jl h)))
     refine Wp.skip (ws (gw 1 0 (gw 3 0 (Ai 3 0 (bd h λx2 gx2 h=>RW.q (Fj gx2) (gn 1 0 (Fp h [0,1,4,6,7,8,9,10,11,12,80] [.box 4,.box 6,.box 12] (λa=>(uR b e d n f x1 x2 a)) (λa h=>?_) (λj4 h=>?_))))))))
     ·refine Au (Ai 3 0 (AM 74 h (λh=>?_) (λh=>?_)))
      ·exact gn 6 0 (jn h)
      exact gn 6 0 (jn h)
     refine wc h (λh=>?_) (λh=>?_)
     ·exact Au (gn 4 0 (Au (gn 3 0 (jl h))))
     exact Wp.skip (Au (gn 3 0 (jl h)))
    exact Wp.exit (jv h)
   intro v1 h E hE;refine AY hE (ws (gn 2 0 (wc h (λh=>?_) (λh=>?_))))
   ·exact ws (gn 3 0 (Wp.ret (rr (jo h hk1)▸rq)))
   exact Wp.skip (Au (gn 3 0 (jl h)))
  exact Wp.exit (jx h)
 intro v2 h E hE;exact AY hE (ws (Ai 1 0 (RW.c 0 h (iP _) (λv3 gv3 h=>gw 5 9 (gw 3 0 (gn 4 0 (Wp.ret (rr h▸rq))))))))
def qB (a:List Al) (z1:List Int) (z2:Int):St:=AA [(0,(.one (I5 a))),(3,(.one (EO z1))),(4,(I z2))] []
def qA (a:List Al) (z3:List Int):St:=AA [(0,(.one (I5 a))),(3,(.one (EO z3)))] []
def p9 (b:List Al) (a:List Int) (c:Int) (x1:Al) (z4:List Int) (z5:Int):St:=AA [(0,(.one (I5 b))),(3,(.one (EO a))),(4,(I c)),(5,(pb 5)),(6,(.one (EO z4))),(7,(I z5))] [(.box 5,[i6 x1.Page.Kind,i6 x1.Page.Seq,i6 x1.Page.Tx,i6 x1.Page.Part,i6 x1.Page.Count,ts x1.Page.Text])]
def pZ (b:List Al) (a:List Int) (c:Int) (x1:Al) (z6:List Int):St:=AA [(0,(.one (I5 b))),(3,(.one (EO a))),(4,(I c)),(5,(pb 5)),(6,(.one (EO z6)))] [(.box 5,[i6 x1.Page.Kind,i6 x1.Page.Seq,i6 x1.Page.Tx,i6 x1.Page.Part,i6 x1.Page.Count,ts x1.Page.Text])]
def pY (b:List Al) (a:List Int) (c:Int) (x1:Al) (z7:List Int) (z8:Int):St:=AA [(0,(.one (I5 b))),(3,(.one (EO a))),(4,(I c)),(5,(pb 5)),(6,(.one (EO z7))),(8,(I z8))] [(.box 5,[i6 x1.Page.Kind,i6 x1.Page.Seq,i6 x1.Page.Tx,i6 x1.Page.Part,i6 x1.Page.Count,ts x1.Page.Text])]
def pX (a:List Al) (b:Int) (z9:List Int):St:=AA [(0,(.one (I5 a))),(4,(I b)),(6,(.one (EO z9)))] []
def pW (a:List Al) (v3:List Int) (z10:List Tx) (z11:Int):St:=AA [(0,(.one (I5 a))),(3,(.one (EO v3))),(9,(.one (bH z10))),(10,(I z11))] []
def pV (z12:List Tx):St:=AA [(9,(.one (bH z12)))] []
theorem XP (a:List Al) (r:List Tx) (h:PX a=some r):AP Tryz.prog 53 [.sv (.one (I5 a))] (.one (bH r)) (rg 1):=by
 refine gk Tryz.func53 rfl Tryz.ntmps53 (ws (gw 1 0 (gn 2 2 (Wp.seq (ws (gn 1 0 (BM h [0,3,4] [] (λs=>(qB a s.1 s.2)) [0,3] [] (λs=>(qA a s)) Eu ?_ ?_)))))))
 ·rintro⟨b,f⟩ o (h:Jl a b f=some o);refine Wp.seq (ws (Ai 2 0 (RW.q (CT Et a) (gn 1 0 (wc h (λh=>?_) (λh=>?_))))))
  ·refine Wp.skip (Wp.seq (Wp.block (ws (Ai 2 0 (CG Et h (λx1 gx1 h=>RW.q (DH Et gx1 0 2) (RW.q (MW Et gx1 2 6) (gn 2 0 (Wp.seq (ws (gn 3 0 (wc h (λh=>?_) (λh=>?_)))))))))))))
   ·exact Wp.exit (Au (gn 3 0 (jl h)))
   refine Wp.skip (ws (gn 2 2 (Wp.seq (ws (gn 1 0 (BM h [0,3,4,5,6,7] [.box 5] (λs=>(p9 a b f x1 s.1 s.2)) [0,3,4,5,6] [.box 5] (λs=>(pZ a b f x1 s)) Eu ?_ ?_))))))
   ·rintro⟨d,i⟩ o (h:Lk b x1 d i=some o);refine Wp.seq (ws (Ai 2 0 (RW.q (CT k3 b) (gn 1 0 (wc h (λh=>?_) (λh=>?_))))))
    ·refine Wp.skip (Wp.seq (Wp.block (Wp.seq (Lw mixed (DI 2 (bd h λx2 gx2 h=>SW.q (Js k3 gx2) (SW.q (CK k3 gx2 0) (DI 3 (SW.nil (wc h (λh=>?_) (λh=>?_)))))))))))
     ·exact Au (Ai 3 0 (CG k3 h (λx3 gx3 h=>RW.q (CK k3 gx3 0) (Ai 1 0 (bd h λq1 gq1 h=>CM (Dm k3 (λ_=>rfl) d gq1) (gn 1 1 (Au (gn 3 0 (jl h)))))))))
     exact Wp.skip (Au (gn 3 0 (jl h)))
    exact Wp.exit (jv h)
   intro v1 h E hE;refine AY hE (ws (Ai 4 0 (bd h λq2 gq2 h=>CM (Dm k3 (λ_=>rfl) v1 gq2) (gn 1 1 (Wp.seq (ws (gn 1 0 (BM h [0,3,4,5,6,8] [.box 5] (λs=>(pY a b f x1 s.1 s.2)) [0,4,6] [] (λs=>(pX a f s)) Eu ?_ ?_))))))))
   ·rintro⟨e,j⟩ o (h:Lj b x1 e j=some o);refine Wp.seq (ws (Ai 2 0 (RW.q (CT k3 b) (gn 1 0 (wc h (λh=>?_) (λh=>?_))))))
    ·refine Wp.skip (Wp.seq (Wp.block (Wp.seq (Lw mixed (DI 2 (bd h λx4 gx4 h=>SW.q (Js k3 gx4) (SW.q (CK k3 gx4 0) (DI 3 (SW.nil (wc h (λh=>?_) (λh=>?_)))))))))))
     ·exact Au (Ai 3 0 (CG k3 h (λx5 gx5 h=>RW.q (CK k3 gx5 0) (Ai 1 0 (bd h λq3 gq3 h=>CM (Dm k3 (λ_=>rfl) e gq3) (gn 1 1 (Au (gn 3 0 (jl h)))))))))
     exact Wp.skip (Au (gn 3 0 (jl h)))
    exact Wp.exit (jv h)
   intro v2 h E hE;exact AY hE (Au (gn 2 2 (Au (gn 3 0 (jl h)))))
  exact Wp.exit (jv h)
 intro v3 h E hE;refine AY hE (ws (gn 2 2 (Wp.seq (ws (gn 1 0 (BM h [0,3,9,10] [] (λs=>(pW a v3 s.1 s.2)) [9] [] (λs=>(pV s)) Eu ?_ ?_))))))
 ·rintro⟨g,k⟩ o (h:Jk a v3 g k=some o);refine Wp.seq (ws (Ai 2 0 (RW.q (CT k3 v3) (gn 1 0 (wc h (λh=>?_) (λh=>?_))))))
  ·refine Wp.skip (Wp.seq (Wp.block (ws (Ai 3 0 (CG k3 h (λx6 gx6 h=>RW.q (CK k3 gx6 0) (RW.c 0 h (AAB _ _) (λv4 gv4 h=>gw 6 1 (gn 1 0 (wc h (λh=>?_) (λh=>?_)))))))))))
   ·exact Au (Ai 3 0 (bd h λq4 gq4 h=>CM (sL (Rq true) g [v4.1] gq4) (gn 1 1 (Au (gn 3 0 (jl h))))))
   exact Wp.skip (Au (gn 3 0 (jl h)))
  exact Wp.exit (jv h)
 intro v5 h E hE;exact AY hE (ws (gn 2 2 (Wp.ret (rr h▸rq))))
def X3 (a:List Tx) (z1:Int) (z2:Int):St:=AA [(0,(.one (AAQ a))),(3,(I z1)),(4,(I z2))] []
def X2 (a:List Tx) (z3:Int):St:=AA [(0,(.one (AAQ a))),(3,(I z3))] []
def X1 (a:List Tx) (z4:List Tx) (z5:Int):St:=AA [(0,(.one (AAQ a))),(5,(.one (bH z4))),(6,(I z5))] []
def Xz (z6:List Tx):St:=AA [(5,(.one (bH z6)))] []
theorem ZX (a:List Tx) (r:List Tx) (h:Nm a=some r):AP Tryz.prog 52 [.sv (.one (AAQ a))] (.one (bH r)) (rg 1):=by
 refine gk Tryz.func52 rfl Tryz.ntmps52 (ws (gw 1 0 (gn 1 0 (Wp.seq (ws (gn 1 0 (BM h [0,3,4] [] (λs=>(X3 a s.1 s.2)) [0,3] [] (λs=>(X2 a s)) Eu ?_ ?_)))))))
 ·rintro⟨c,d⟩ o (h:Gz a c d=some o);refine Wp.seq (ws (Ai 2 0 (RW.q (CT (Rq false) a) (gn 1 0 (wc h (λh=>?_) (λh=>?_))))))
  ·refine Wp.skip (Wp.seq (Wp.block (ws (Ai 2 0 (CG (Rq false) h (λx1 gx1 h=>RW.q (DH (Rq false) gx1 0 2) (RW.q (CK (Rq false) gx1 2) (RW.q (CT I7 x1.Recs) (Ai 2 0 (AM 21 h (λh=>?_) (λh=>?_)))))))))))
   ·refine Ai 2 0 (CG (Rq false) h (λx2 gx2 h=>RW.q (DH (Rq false) gx2 0 2) (RW.q (CK (Rq false) gx2 2) (CG I7 h (λx3 gx3 h=>RW.q (DH I7 gx3 0 0) (RW.q (CK I7 gx3 0) (gn 2 0 (wc h (λh=>?_) (λh=>?_)))))))))
    ·exact Au (gn 2 0 (Au (gn 3 0 (jl h))))
    exact Wp.skip (Au (gn 3 0 (jl h)))
   exact gn 10 0 (wf (Wp.skip (Au (gn 3 0 (jl h)))))
  exact Wp.exit (jv h)
 intro v1 h E hE;refine AY hE (ws (gn 2 2 (Wp.seq (ws (gn 2 0 (BM h [0,5,6] [] (λs=>(X1 a s.1 s.2)) [5] [] (λs=>(Xz s)) Eu ?_ ?_))))))
 ·rintro⟨b,e⟩ o (h:HG a b e=some o);refine Wp.seq (ws (Ai 2 0 (RW.q (CT (Rq false) a) (gn 1 0 (wc h (λh=>?_) (λh=>?_))))))
  ·exact Wp.skip (Wp.seq (Wp.block (ws (Ai 2 0 (CG (Rq false) h (λx4 gx4 h=>RW.q (MW (Rq false) gx4 0 3) (gw 2 0 (Ai 3 0 (bd h λq1 gq1 h=>CM (Dm I7 (λ_=>rfl) [] gq1) (gn 2 0 (Au (Ai 3 0 (bd h λq2 gq2 h=>CM (sL (Rq true) b [(Tx.mk x4.Num x4.Seq q1)] gq2) (gn 1 1 (Au (gn 3 0 (jl h)))))))))))))))))
  exact Wp.exit (jv h)
 intro v2 h E hE;exact AY hE (ws (gn 2 2 (Wp.ret (rr h▸rq))))
def Ze (o:Bool) (x:Arena):List TV:=[.sl o 223 2 (AT (Zf o) x.Knots)]
def gH (xA:Arena) (z1:Int) (z2:List Cb):St:=AA [(1,(pb 1)),(2,(pb 2)),(3,(pb 3)),(4,(I z1))] [(.box 1,[BP xA.Knots]),(.box 2,[Bw []]),(.box 3,[Bw z2])]
def gG (z3:List Cb):St:=AA [(2,(pb 2)),(3,(pb 3))] [(.box 2,[Bw []]),(.box 3,[Bw z3])]
theorem PU (xA:Arena) (r:Arena) (h:Mk xA=some r):AP Tryz.prog 158 [.sv (.agg (Ze false xA))] (.agg (Ze true r)) (rg 1):=by
 refine gk Tryz.func158 rfl Tryz.ntmps158 (ws (gw 2 0 (gn 3 0 (Wp.seq (ws (gn 1 0 (BM h [1,2,3,4] [.box 1,.box 2,.box 3] (λs=>(gH xA s.1 s.2)) [2,3] [.box 2,.box 3] (λs=>(gG s)) Eu ?_ ?_)))))))
 ·rintro⟨b,a⟩ o (h:JA xA b a=some o);refine Wp.seq (ws (Ai 3 0 (RW.q (CT (CS false) xA.Knots) (gn 1 0 (wc h (λh=>?_) (λh=>?_))))))
  ·exact Wp.skip (Wp.seq (Wp.block (DM [18,20] mixed (λ_ _=>nP) (Bn [0,1,2,3,4] 0 (bd h λx1 gx1 h=>KW.q 5 (Js (CS false) gx1) (KW.q 6 (DH (CS false) gx1 0 0) (KW.q 7 (CK (CS false) gx1 0) (Bn [9,10,11] 0 (bd h λx2 gx2 h=>KW.q 12 (Js (CS false) gx2) (KW.q 13 (DH (CS false) gx2 0 1) (KW.q 14 (CK (CS false) gx2 1) (Br 8 (yO (Br 15 (bd h λq1 gq1 h=>nJ (Dm k3 (λ_=>rfl) [] gq1) (Bn [16,17] 0 (Br 18 (bd h λq2 gq2 h=>Lz (sL (CS true) a [(Cb.mk x1.Leaf q1)] gq2) (Bn [19,20] 0 (Bg (Au (gn 3 0 (jl h)))))))))))))))))))))))
  exact Wp.exit (jv h)
 intro v1 h E hE;exact AY hE (ws (gn 2 0 (Wp.ret (rr h▸rq))))
theorem FX (xS:Store) (r:Store) (h:EM xS=some r):AP Tryz.prog 91 [.sv (.agg (Sm false xS))] (.agg (Sm true r)) (rg 1):=by
 exact gk Tryz.func91 rfl Tryz.ntmps91 (ws (gn 2 0 (Wp.seq (DM [10] mixed (λ_ _=>nP) (Bn [1,2,4,5,7,8] 0 (Br 0 (yO (Br 3 (bd h λq1 gq1 h=>nJ (Dm E4 (λ_=>rfl) [] gq1) (Br 6 (KB.c 0 h (PU _) (λv1 gv1 h=>Bn [9,10] 0 (Bg (Wp.ret (rr h▸rq)))))))))))))))
def jX (xA:Arena) (z1:Int):St:=AA [(1,(pb 1)),(3,(I z1))] [(.box 1,[BP xA.Knots])]
def jW:St:=AA [] []
def jV (xA:Arena) (a:Int) (x1:Cb) (z2:Int):St:=AA [(1,(pb 1)),(3,(I a)),(4,(pb 4)),(5,(I z2))] [(.box 1,[BP xA.Knots]),(.box 4,[tb x1.Leaf,QP x1.Kids])]
def jU (xA:Arena) (a:Int):St:=AA [(1,(pb 1)),(3,(I a))] [(.box 1,[BP xA.Knots])]
def jT (xA:Arena) (a:Int) (x1:Cb) (b:Int) (z3:Bool):St:=AA [(1,(pb 1)),(3,(I a)),(4,(pb 4)),(5,(I b)),(62,(B z3))] [(.box 1,[BP xA.Knots]),(.box 4,[tb x1.Leaf,QP x1.Kids])]
theorem Nq (xA:Arena) (r:Bool) (h:G4 xA=some r):AP Tryz.prog 149 [.sv (.agg (Ze false xA))] (B r) (rg 1):=by
 refine gk Tryz.func149 rfl Tryz.ntmps149 (ws (gn 2 0 (Wp.seq (ws (gn 1 0 (Er h [1,3] [.box 1] (λs=>(jX xA s)) [] [] (λ_=>jW) Eu ?_ ?_))))))
 ·rintro b o (h:Ed xA b=some o) hk1;refine Wp.seq (ws (Ai 3 0 (RW.q (CT (CS false) xA.Knots) (gn 1 0 (wc h (λh=>?_) (λh=>?_))))))
  ·refine Wp.skip (Wp.seq (Wp.block (ws (Ai 3 0 (CG (CS false) h (λx1 gx1 h=>RW.q (MW (CS false) gx1 0 2) (gn 2 0 (Wp.seq (ws (Ai 2 0 (RW.q (CT k3 x1.Kids) (gn 1 0 (wc h (λh=>?_) (λh=>?_))))))))))))))
   ·exact ws (gn 1 0 (Wp.ret (rr (jo h hk1)▸rq)))
   refine Wp.skip (ws (gn 1 0 (Er h [1,3,4,5] [.box 1,.box 4] (λs=>(jV xA b x1 s)) [1,3] [.box 1] (λ_=>(jU xA b)) Eu ?_ ?_)))
   ·rintro d o (h:Ec xA b x1 d=some o) hk2;refine Wp.seq (ws (gn 2 0 (wc h (λh=>?_) (λh=>?_))))
    ·refine Wp.skip (Wp.seq (Wp.block (ws (Ai 3 0 (CG k3 h (λx2 gx2 h=>RW.q (CK k3 gx2 0) (gn 1 0 (Fp h [1,3,4,5,62] [.box 1,.box 4] (λa=>(jT xA b x1 d a)) (λa h=>?_) (λj1 h=>?_)))))))))
     ·refine Au (Ai 3 0 (AM 34 h (λh=>?_) (λh=>?_)))
      ·refine Ai 4 0 (AM 38 h (λh=>?_) (λh=>?_))
       ·exact gn 24 0 (jn h)
       refine Ai 4 0 (AM 42 h (λh=>?_) (λh=>?_))
       ·refine Ai 4 0 (AM 46 h (λh=>?_) (λh=>?_))
        ·refine Ai 3 0 (RW.c 0 h (BU _ _ _) (λv1 gv1 h=>Ai 2 0 (AM 52 h (λh=>?_) (λh=>?_))))
         ·exact gn 10 0 (jn h)
         exact Ai 3 0 (CG (CS false) h (λx3 gx3 h=>RW.q (DH (CS false) gx3 0 0) (RW.q (CK (CS false) gx3 0) (gn 4 0 (jn h)))))
        exact gn 16 0 (jn h)
       exact gn 20 0 (jn h)
      refine Ai 8 0 (AM 42 h (λh=>?_) (λh=>?_))
      ·refine Ai 4 0 (AM 46 h (λh=>?_) (λh=>?_))
       ·refine Ai 3 0 (RW.c 0 h (BU _ _ _) (λv2 gv2 h=>Ai 2 0 (AM 52 h (λh=>?_) (λh=>?_))))
        ·exact gn 10 0 (jn h)
        exact Ai 3 0 (CG (CS false) h (λx4 gx4 h=>RW.q (DH (CS false) gx4 0 0) (RW.q (CK (CS false) gx4 0) (gn 4 0 (jn h)))))
       exact gn 16 0 (jn h)
      exact gn 20 0 (jn h)
     refine wc h (λh=>?_) (λh=>?_)
     ·exact ws (gn 1 0 (Wp.ret (rr (jo (jo h hk2) hk1)▸rq)))
     exact Wp.skip (Au (gn 3 0 (jl h)))
    exact Wp.exit (jx h)
   intro v3 h E hE;exact AY hE (Au (gn 3 0 (jl h)))
  exact Wp.exit (jx h)
 intro v4 h E hE;exact AY hE (ws (gn 1 0 (Wp.ret (rr h▸rq))))
theorem Ld (xA:Arena) (a:Int) (r:Bool) (h:Hf xA a=some r):AP Tryz.prog 150 [.sv (.agg (Ze false xA)),.sv (I a)] (B r) (rg 2):=by
 refine gk Tryz.func150 rfl Tryz.ntmps150 (ws (gw 2 0 (Ai 3 0 (AM 7 h (λh=>?_) (λh=>?_)))))
 ·exact gn 17 0 (Wp.ret (rr h▸rq))
 refine Ai 3 0 (RW.q (CT (CS false) xA.Knots) (Ai 1 0 (RW.c 0 h (BU _ _ _) (λv1 gv1 h=>Ai 1 0 (AM 14 h (λh=>?_) (λh=>?_))))))
 ·exact Ai 3 0 (CG (CS false) h (λx1 gx1 h=>RW.q (DH (CS false) gx1 0 0) (RW.q (CK (CS false) gx1 0) (gn 4 0 (Wp.ret (rr h▸rq))))))
 exact gn 10 0 (Wp.ret (rr h▸rq))
theorem Xq (xA:Arena) (b:Int) (a:Int) (r:Int) (h:M8 xA b a=some r):AP Tryz.prog 151 [.sv (.agg (Ze false xA)),.sv (I b),.sv (I a)] (I r) (rg 3):=by
 refine gk Tryz.func151 rfl Tryz.ntmps151 (ws (gn 2 0 (Wp.seq (ws (gn 2 0 (wc h (λh=>?_) (λh=>?_)))))))
 ·exact ws (gn 1 0 (Wp.ret (rr h▸rq)))
 refine Wp.skip (ws (Ai 3 0 (CG (CS false) h (λx1 gx1 h=>RW.q (DH (CS false) gx1 0 1) (RW.q (CK (CS false) gx1 1) (Ai 2 0 (CG k3 h (λx2 gx2 h=>RW.q (CK k3 gx2 0) (gn 1 0 (Wp.seq (ws (gn 2 0 (wc h (λh=>?_) (λh=>?_))))))))))))))
 ·exact ws (gn 1 0 (Wp.ret (rr h▸rq)))
 exact Wp.skip (ws (Ai 3 0 (CG (CS false) h (λx3 gx3 h=>RW.q (DH (CS false) gx3 0 1) (RW.q (CK (CS false) gx3 1) (Ai 2 0 (CG k3 h (λx4 gx4 h=>RW.q (CK k3 gx4 0) (gn 1 0 (Wp.ret (rr h▸rq)))))))))))
def ZE (xS:Store) (z1:List Int) (z2:Int):St:=AA [(1,(pb 1)),(3,(.one (EO z1))),(4,(I z2))] [(.box 1,[DN xS.Vols,BP xS.Arena.Knots,i6 xS.Next])]
def ZD (z3:List Int):St:=AA [(3,(.one (EO z3)))] []
theorem LN (xS:Store) (r:List Int) (h:M7 xS=some r):AP Tryz.prog 193 [.sv (.agg (Sm false xS))] (.one (EO r)) (rg 1):=by
 refine gk Tryz.func193 rfl Tryz.ntmps193 (ws (gw 2 0 (gn 2 2 (Wp.seq (ws (gn 1 0 (BM h [1,3,4] [.box 1] (λs=>(ZE xS s.1 s.2)) [3] [] (λs=>(ZD s)) Eu ?_ ?_)))))))
 ·rintro⟨a,b⟩ o (h:He xS a b=some o);refine Wp.seq (ws (Ai 3 0 (RW.q (CT E4 xS.Vols) (gn 1 0 (wc h (λh=>?_) (λh=>?_))))))
  ·exact Wp.skip (Wp.seq (Wp.block (Au (Ai 4 0 (CG E4 h (λx1 gx1 h=>RW.q (DH E4 gx1 0 1) (RW.q (CK E4 gx1 1) (Ai 1 0 (bd h λq1 gq1 h=>CM (Dm k3 (λ_=>rfl) a gq1) (gn 1 1 (Au (gn 3 0 (jl h)))))))))))))
  exact Wp.exit (jv h)
 intro v1 h E hE;exact AY hE (ws (gn 2 2 (Wp.ret (rr h▸rq))))
def c4 (x:Bool):List TV:=[tb x]
theorem k4:∀x,(c4 x).length=1:=λ_=>rfl
theorem sh4:∀l,BK (AT c4 l)=AT c4 l:=DJ (λ_=>rfl)
theorem ns4:∀l,AR (AT c4 l)=false:=KP (λ_=>rfl)
def PD (l:List Bool):TV:= .sl true 4 1 (AT c4 l)
def of4 (l:List Bool):TV:= .sl false 4 1 (AT c4 l)
def oV (xA:Arena) (a:Int) (z1:List Bool) (z2:Int):St:=AA [(1,(I a)),(2,(pb 2)),(5,(.one (PD z1))),(6,(I z2))] [(.box 2,[BP xA.Knots])]
def oU (z3:List Bool):St:=AA [(5,(.one (PD z3)))] []
theorem uQ (xA:Arena) (a:Int) (r:List Bool) (h:SD xA a=some r):AP Tryz.prog 203 [.sv (.agg (Ze false xA)),.sv (I a)] (.one (PD r)) (rg 2):=by
 refine gk Tryz.func203 rfl Tryz.ntmps203 (ws (gw 2 0 (Ai 2 0 (RW.q (CT (CS false) xA.Knots) (bd h λq1 gq1 h=>CM (fmk k4 false gq1) (gn 1 1 (Wp.seq (ws (gn 2 0 (wc h (λh=>?_) (λh=>?_)))))))))))
 ·exact ws (gn 2 2 (Wp.ret (rr h▸rq)))
 refine Wp.skip (ws (Ai 2 0 (CG k4 h (λx1 gx1 h=>CM (MY k4 gx1 0 0 true) (RW.nil (Wp.seq (ws (gn 1 0 (BM h [1,2,5,6] [.box 2] (λs=>(oV xA a s.1 s.2)) [5] [] (λs=>(oU s)) Eu ?_ ?_)))))))))
 ·rintro⟨b,c⟩ o (h:Jb xA a b c=some o);refine Wp.seq (ws (gn 2 0 (wc h (λh=>?_) (λh=>?_))))
  ·refine Wp.skip (Wp.seq (Wp.block (ws (Ai 3 0 (CG (CS false) h (λx2 gx2 h=>RW.q (DH (CS false) gx2 0 1) (RW.q (CK (CS false) gx2 1) (Ai 1 0 (CG k3 h (λx3 gx3 h=>RW.q (CK k3 gx3 0) (gn 1 0 (wc h (λh=>?_) (λh=>?_)))))))))))))
   ·exact Au (Ai 4 0 (CG (CS false) h (λx4 gx4 h=>RW.q (DH (CS false) gx4 0 1) (RW.q (CK (CS false) gx4 1) (Ai 1 0 (CG k3 h (λx5 gx5 h=>RW.q (CK k3 gx5 0) (CG k4 h (λx6 gx6 h=>CM (MY k4 gx6 0 0 true) (RW.nil (Au (gn 3 0 (jl h)))))))))))))
   exact Wp.skip (Au (gn 3 0 (jl h)))
  exact Wp.exit (jv h)
 intro v1 h E hE;exact AY hE (ws (gn 2 2 (Wp.ret (rr h▸rq))))
def VF (xA:Arena) (a:List Int) (q1:List Int) (z1:Bool) (z2:Int):St:=AA [(1,(.one (QP a))),(2,(pb 2)),(4,(pb 4)),(6,(.one (EO q1))),(7,(B z1)),(8,(I z2))] [(.box 2,[BP xA.Knots]),(.box 4,[Bw []])]
def VE (xA:Arena) (a:List Int) (q1:List Int) (z3:Bool):St:=AA [(1,(.one (QP a))),(2,(pb 2)),(4,(pb 4)),(6,(.one (EO q1))),(7,(B z3))] [(.box 2,[BP xA.Knots]),(.box 4,[Bw []])]
def VD (xA:Arena) (a:List Int) (q1:List Int) (b:Bool) (c:Int) (z4:Bool):St:=AA [(1,(.one (QP a))),(2,(pb 2)),(4,(pb 4)),(6,(.one (EO q1))),(7,(B b)),(8,(I c)),(30,(B z4))] [(.box 2,[BP xA.Knots]),(.box 4,[Bw []])]
def VC (xA:Arena) (a:List Int) (q1:List Int) (z5:List Bool) (z6:Int):St:=AA [(1,(.one (QP a))),(2,(pb 2)),(4,(pb 4)),(6,(.one (EO q1))),(9,(.one (PD z5))),(10,(I z6))] [(.box 2,[BP xA.Knots]),(.box 4,[Bw []])]
def VB (xA:Arena) (q1:List Int) (z7:List Bool):St:=AA [(2,(pb 2)),(4,(pb 4)),(6,(.one (EO q1))),(9,(.one (PD z7)))] [(.box 2,[BP xA.Knots]),(.box 4,[Bw []])]
def VA (xA:Arena) (a:List Int) (q1:List Int) (b:Int) (v5:List Bool) (z8:List Bool) (z9:Int):St:=AA [(1,(.one (QP a))),(2,(pb 2)),(4,(pb 4)),(6,(.one (EO q1))),(9,(.one (PD z8))),(10,(I b)),(11,(.one (PD v5))),(12,(I z9))] [(.box 2,[BP xA.Knots]),(.box 4,[Bw []])]
def V9 (xA:Arena) (a:List Int) (q1:List Int) (b:Int) (z10:List Bool):St:=AA [(1,(.one (QP a))),(2,(pb 2)),(4,(pb 4)),(6,(.one (EO q1))),(9,(.one (PD z10))),(10,(I b))] [(.box 2,[BP xA.Knots]),(.box 4,[Bw []])]
def V8 (xA:Arena) (q1:List Int) (v7:List Bool) (z11:List Int) (z12:Int) (z13:List Cb):St:=AA [(2,(pb 2)),(4,(pb 4)),(6,(.one (EO q1))),(9,(.one (PD v7))),(13,(.one (EO z11))),(14,(pb 14)),(15,(I z12))] [(.box 2,[BP xA.Knots]),(.box 4,[Bw []]),(.box 14,[Bw z13])]
def V7 (q1:List Int) (z14:List Int) (z15:List Cb):St:=AA [(4,(pb 4)),(6,(.one (EO q1))),(13,(.one (EO z14))),(14,(pb 14))] [(.box 4,[Bw []]),(.box 14,[Bw z15])]
def TL (xA:Arena) (q1:List Int) (v7:List Bool) (a:List Int) (c:Int) (b:List Cb) (z16:Bool) (z17:List Int):St:=AA [(2,(pb 2)),(4,(pb 4)),(6,(.one (EO q1))),(9,(.one (PD v7))),(13,(.one (EO a))),(14,(pb 14)),(15,(I c)),(16,(pb 16))] [(.box 2,[BP xA.Knots]),(.box 4,[Bw []]),(.box 14,[Bw b]),(.box 16,[tb z16,EO z17])]
def TK (xA:Arena) (q1:List Int) (v7:List Bool) (a:List Int) (c:Int) (b:List Cb) (j2:Bool×List Int) (z18:Int) (z19:List Int):St:=AA [(2,(pb 2)),(4,(pb 4)),(6,(.one (EO q1))),(9,(.one (PD v7))),(13,(.one (EO a))),(14,(pb 14)),(15,(I c)),(16,(pb 16)),(17,(I z18))] [(.box 2,[BP xA.Knots]),(.box 4,[Bw []]),(.box 14,[Bw b]),(.box 16,[tb j2.1,EO z19])]
def TJ (xA:Arena) (q1:List Int) (v7:List Bool) (a:List Int) (c:Int) (b:List Cb) (j2:Bool×List Int) (z20:List Int):St:=AA [(2,(pb 2)),(4,(pb 4)),(6,(.one (EO q1))),(9,(.one (PD v7))),(13,(.one (EO a))),(14,(pb 14)),(15,(I c)),(16,(pb 16))] [(.box 2,[BP xA.Knots]),(.box 4,[Bw []]),(.box 14,[Bw b]),(.box 16,[tb j2.1,EO z20])]
def TH (xA:Arena) (q1:List Int) (v7:List Bool) (a:List Int) (d:Int) (b:List Cb) (j2:Bool×List Int) (e:Int) (c:List Int) (z21:Bool):St:=AA [(2,(pb 2)),(4,(pb 4)),(6,(.one (EO q1))),(9,(.one (PD v7))),(13,(.one (EO a))),(14,(pb 14)),(15,(I d)),(16,(pb 16)),(17,(I e)),(117,(B z21))] [(.box 2,[BP xA.Knots]),(.box 4,[Bw []]),(.box 14,[Bw b]),(.box 16,[tb j2.1,EO c])]
def TG (v9:List Int×List Cb) (z22:List Int) (z23:Int):St:=AA [(4,(pb 4)),(6,(.one (EO z22))),(13,(.one (EO v9.1))),(14,(pb 14)),(18,(I z23))] [(.box 4,[Bw []]),(.box 14,[Bw v9.2])]
def TF (v9:List Int×List Cb) (z24:List Int):St:=AA [(4,(pb 4)),(6,(.one (EO z24))),(14,(pb 14))] [(.box 4,[Bw []]),(.box 14,[Bw v9.2])]
theorem Gy (xA:Arena) (b:List Int) (r:Arena×List Int) (h:JC xA b=some r):AP Tryz.prog 192 [.sv (.agg (Ze false xA)),.sv (.one (QP b))] (.tup [(.agg (Ze true r.1)),(.one (EO r.2))]) (rg 2):=by
 refine gk Tryz.func192 rfl Tryz.ntmps192 (ws (gw 3 0 (Ai 2 0 (bd h λq1 gq1 h=>CM (Dm k3 (λ_=>rfl) [] gq1) (gw 1 1 (Ai 1 0 (RW.c 0 h (Nq _) (λv1 gv1 h=>gn 1 0 (Wp.seq (ws (gn 1 0 (BM h [1,2,4,6,7,8] [.box 2,.box 4] (λs=>(VF xA b q1 s.1 s.2)) [1,2,4,6,7] [.box 2,.box 4] (λs=>(VE xA b q1 s)) Eu ?_ ?_))))))))))))
 ·rintro⟨k,n⟩ o (h:FO xA b k n=some o);refine Wp.seq (Fp h [1,2,4,6,7,8,30] [.box 2,.box 4] (λa=>(VD xA b q1 k n a)) (λa h=>?_) (λj1 h=>?_))
  ·refine Au (Ai 2 0 (RW.q (CT k3 b) (Ai 2 0 (AM 28 h (λh=>?_) (λh=>?_)))))
   ·exact gn 2 0 (jn h)
   exact gn 2 0 (jn h)
  refine wc h (λh=>?_) (λh=>?_)
  ·exact Wp.skip (Wp.seq (Wp.block (Vh 5 mixed (DI 3 (bd h λx1 gx1 h=>SW.q (Js k3 gx1) (SW.q (CK k3 gx1 0) (SW.nil (RW.c 0 h (Ld _ _) (λv2 gv2 h=>gn 1 0 (Au (gn 3 0 (jl h))))))))))))
  exact Wp.exit (jv h)
 intro v3 h E hE;refine AY hE (Wp.seq (ws (gn 2 0 (wc h (λh=>?_) (λh=>?_)))))
 ·exact ws (Ai 1 0 (RW.c 0 h (PU _) (λv4 gv4 h=>gn 3 4 (Wp.ret (rr h▸rq)))))
 refine Wp.skip (ws (Ai 2 0 (RW.q (CT (CS false) xA.Knots) (bd h λq2 gq2 h=>CM (fmk k4 false gq2) (gn 1 1 (Wp.seq (ws (gn 1 0 (BM h [1,2,4,6,9,10] [.box 2,.box 4] (λs=>(VC xA b q1 s.1 s.2)) [2,4,6,9] [.box 2,.box 4] (λs=>(VB xA q1 s)) Eu ?_ ?_)))))))))
 ·rintro⟨i,m⟩ o (h:FN xA b i m=some o);refine Wp.seq (ws (Ai 2 0 (RW.q (CT k3 b) (gn 1 0 (wc h (λh=>?_) (λh=>?_))))))
  ·refine Wp.skip (Wp.seq (Wp.block (Wp.seq (Vh 5 mixed (DI 3 (bd h λx2 gx2 h=>SW.q (Js k3 gx2) (SW.q (CK k3 gx2 0) (SW.nil (RW.c 0 h (uQ _ _) (λv5 gv5 h=>gw 1 1 (gn 1 0 (BM h [1,2,4,6,9,10,11,12] [.box 2,.box 4] (λs=>(VA xA b q1 m v5 s.1 s.2)) [1,2,4,6,9,10] [.box 2,.box 4] (λs=>(V9 xA b q1 m s)) Eu ?_ ?_))))))))))))
   ·rintro⟨j,t⟩ o (h:GX v5 j t=some o);refine Wp.seq (ws (Ai 2 0 (RW.q (CT k4 v5) (gn 1 0 (wc h (λh=>?_) (λh=>?_))))))
    ·refine Wp.skip (Wp.seq (Wp.block (Au (Ai 4 0 (CG k4 h (λx3 gx3 h=>RW.q (CK k4 gx3 0) (Ai 1 0 (AM 72 h (λh=>?_) (λh=>?_)))))))))
     ·exact Ai 5 0 (CG k4 h (λx4 gx4 h=>CM (MY k4 gx4 0 0 true) (RW.nil (Au (gn 3 0 (jl h))))))
     exact Ai 2 0 (CG k4 h (λx5 gx5 h=>RW.q (CK k4 gx5 0) (Ai 1 0 (CG k4 h (λx6 gx6 h=>CM (MY k4 gx6 0 0 x5) (RW.nil (Au (gn 3 0 (jl h)))))))))
    exact Wp.exit (jv h)
   intro v6 h E hE;exact AY hE (Au (gn 3 0 (jl h)))
  exact Wp.exit (jv h)
 intro v7 h E hE;refine AY hE (ws (Ai 2 0 (RW.q (CT (CS false) xA.Knots) (bd h λq3 gq3 h=>CM (fmk k3 0 gq3) (gw 1 1 (gn 3 0 (Wp.seq (ws (gn 1 0 (BM h [2,4,6,9,13,14,15] [.box 2,.box 4,.box 14] (λs=>(V8 xA q1 v7 s.1 s.2.1 s.2.2)) [4,6,13,14] [.box 4,.box 14] (λs=>(V7 q1 s.1 s.2)) Eu ?_ ?_))))))))))
 ·rintro⟨e,g,d⟩ o (h:FM xA v7 e g d=some o);refine Wp.seq (ws (Ai 3 0 (RW.q (CT (CS false) xA.Knots) (gn 1 0 (wc h (λh=>?_) (λh=>?_))))))
  ·refine Wp.skip (Wp.seq (Wp.block (Wp.seq (ws (Ai 2 0 (CG k4 h (λx7 gx7 h=>RW.q (CK k4 gx7 0) (gn 1 0 (wc h (λh=>?_) (λh=>?_))))))))))
   ·exact Wp.exit (Au (gn 3 0 (jl h)))
   refine Wp.skip (Fp h [2,4,6,9,13,14,15,16] [.box 2,.box 4,.box 14,.box 16] (λa=>(TL xA q1 v7 e g d a.1 a.2)) (λa h=>?_) (λj2 h=>?_))
   ·refine DM [16] mixed (λ_ _=>nP) (Bn [0,1,2] 0 (bd h λx8 gx8 h=>KW.q 3 (Js (CS false) gx8) (KW.q 4 (DH (CS false) gx8 0 0) (KW.q 5 (CK (CS false) gx8 0) (Bn [7,8,9] 0 (bd h λx9 gx9 h=>KW.q 10 (Js (CS false) gx9) (KW.q 11 (DH (CS false) gx9 0 1) (KW.q 12 (CK (CS false) gx9 1) (Dq 6 15 ?_ ?_)))))))))
    ·refine yO (Dq 13 15 ?_ ?_)
     ·exact bd h λq4 gq4 h=>nJ (Dm k3 (λ_=>rfl) [] gq4) (Bn [14,15,16] 0 (Bg (jn h)))
     exact KB.o false (Br 13 (bd h λq5 gq5 h=>nJ (Dm k3 (λ_=>rfl) [] gq5) (Bn [14,16] 0 (Bg (jn h)))))
    exact KB.o false (Br 6 (yO (Br 13 (bd h λq6 gq6 h=>nJ (Dm k3 (λ_=>rfl) [] gq6) (Bn [14,16] 0 (Bg (jn h)))))))
   refine Wp.seq (ws (gn 1 0 (BM h [2,4,6,9,13,14,15,16,17] [.box 2,.box 4,.box 14,.box 16] (λs=>(TK xA q1 v7 e g d j2 s.1 s.2)) [2,4,6,9,13,14,15,16] [.box 2,.box 4,.box 14,.box 16] (λs=>(TJ xA q1 v7 e g d j2 s)) Eu ?_ ?_)))
   ·rintro⟨p,l⟩ o (h:FL e j2 p l=some o);refine Wp.seq (Fp h [2,4,6,9,13,14,15,16,17,117] [.box 2,.box 4,.box 14,.box 16] (λa=>(TH xA q1 v7 e g d j2 p l a)) (λa h=>?_) (λj3 h=>?_))
    ·refine Au (Ai 3 0 (AM 113 h (λh=>?_) (λh=>?_)))
     ·exact gn 4 0 (jn h)
     exact gn 4 0 (jn h)
    refine wc h (λh=>?_) (λh=>?_)
    ·refine Wp.skip (Wp.seq (Wp.block (ws (Ai 3 0 (CG k3 h (λx10 gx10 h=>RW.q (CK k3 gx10 0) (gn 1 0 (wc h (λh=>?_) (λh=>?_)))))))))
     ·exact Vh 12 mixed (DI 7 (bd h λx11 gx11 h=>SW.q (Js k3 gx11) (SW.q (CK k3 gx11 0) (bd h λx12 gx12 h=>SW.q (Js k3 gx12) (SW.q (CK k3 gx12 0) (bd h λx13 gx13 h=>SW.q (Js k3 gx13) (SW.nil (CM (MY k3 gx13 0 1 x12) (RW.nil (Au (gn 3 0 (jl h))))))))))))
     exact Wp.skip (Au (gn 3 0 (jl h)))
    exact Wp.exit (jv h)
   intro v8 h E hE;exact AY hE (ws (Ai 4 0 (RW.q (CT (CS true) d) (CG k3 h (λx14 gx14 h=>CM (MY k3 gx14 0 0 (ln d)) (RW.nil (Au (Ai 4 0 (bd h λq7 gq7 h=>CM (sL (CS true) d [(Cb.mk j2.1 v8)] gq7) (gn 2 0 (Au (gn 3 0 (jl h)))))))))))))
  exact Wp.exit (jv h)
 intro v9 h E hE;refine AY hE (Wp.seq (ws (gn 1 0 (BM h [4,6,13,14,18] [.box 4,.box 14] (λs=>(TG v9 s.1 s.2)) [4,6,14] [.box 4,.box 14] (λs=>(TF v9 s)) Eu ?_ ?_))))
 ·rintro⟨f,u⟩ o (h:FK v9 f u=some o);refine Wp.seq (ws (Ai 2 0 (RW.q (CT k3 f) (gn 1 0 (wc h (λh=>?_) (λh=>?_))))))
  ·refine Wp.skip (Wp.seq (Wp.block (ws (Ai 2 0 (CG k3 h (λx15 gx15 h=>RW.q (CK k3 gx15 0) (gn 1 0 (wc h (λh=>?_) (λh=>?_)))))))))
   ·exact Au (Ai 5 0 (CG k3 h (λx16 gx16 h=>RW.q (CK k3 gx16 0) (CG k3 h (λx17 gx17 h=>RW.q (CK k3 gx17 0) (CG k3 h (λx18 gx18 h=>CM (MY k3 gx18 0 0 x17) (RW.nil (Au (gn 3 0 (jl h)))))))))))
   exact Wp.skip (Au (gn 3 0 (jl h)))
  exact Wp.exit (jv h)
 intro v10 h E hE;exact AY hE (ws (gn 4 8 (Wp.ret (rr h▸rq))))
def hZ (xS:Store) (z1:Bool):St:=AA [(1,(pb 1)),(23,(B z1))] [(.box 1,[DN xS.Vols,BP xS.Arena.Knots,i6 xS.Next])]
def hO (xS:Store) (z2:Int):St:=AA [(1,(pb 1)),(3,(I z2))] [(.box 1,[DN xS.Vols,BP xS.Arena.Knots,i6 xS.Next])]
def hJ (xS:Store):St:=AA [(1,(pb 1))] [(.box 1,[DN xS.Vols,BP xS.Arena.Knots,i6 xS.Next])]
def g9 (xS:Store) (a:Int) (x1:Vol) (z3:Bool):St:=AA [(1,(pb 1)),(3,(I a)),(4,(pb 4)),(63,(B z3))] [(.box 1,[DN xS.Vols,BP xS.Arena.Knots,i6 xS.Next]),(.box 4,[i6 x1.Id,i6 x1.Root])]
def g8 (xS:Store) (a:Int) (x1:Vol) (z4:Int):St:=AA [(1,(pb 1)),(3,(I a)),(4,(pb 4)),(5,(I z4))] [(.box 1,[DN xS.Vols,BP xS.Arena.Knots,i6 xS.Next]),(.box 4,[i6 x1.Id,i6 x1.Root])]
def g7 (xS:Store) (a:Int):St:=AA [(1,(pb 1)),(3,(I a))] [(.box 1,[DN xS.Vols,BP xS.Arena.Knots,i6 xS.Next])]
def g6 (xS:Store) (z5:List Cb):St:=AA [(1,(pb 1)),(6,(pb 6))] [(.box 1,[DN xS.Vols,BP xS.Arena.Knots,i6 xS.Next]),(.box 6,[Bw z5])]
theorem UF (xS:Store) (r:Bool) (h:NV xS=some r):AP Tryz.prog 159 [.sv (.agg (Sm false xS))] (B r) (rg 1):=by
 refine gk Tryz.func159 rfl Tryz.ntmps159 (ws (gn 2 0 (Wp.seq (Fp h [1,23] [.box 1] (λa=>(hZ xS a)) (λa h=>?_) (λj1 h=>?_)))))
 ·refine Au (Ai 2 0 (RW.q (CT E4 xS.Vols) (Ai 2 0 (AM 12 h (λh=>?_) (λh=>?_)))))
  ·exact gn 11 0 (jn h)
  refine Ai 2 0 (RW.c 0 h (Nq _) (λv1 gv1 h=>Ai 3 0 (AM 18 h (λh=>?_) (λh=>?_))))
  ·exact gn 5 0 (jn h)
  exact Ai 2 0 (RW.c 0 h (BU _ _ _) (λv2 gv2 h=>gn 2 0 (jn h)))
 refine wc h (λh=>?_) (λh=>?_)
 ·exact ws (gn 1 0 (Wp.ret (rr h▸rq)))
 refine Wp.skip (Wp.seq (ws (gn 1 0 (Er h [1,3] [.box 1] (λs=>(hO xS s)) [1] [.box 1] (λ_=>(hJ xS)) Eu ?_ ?_))))
 ·rintro b o (h:Ik xS b=some o) hk1;refine Wp.seq (ws (Ai 3 0 (RW.q (CT E4 xS.Vols) (gn 1 0 (wc h (λh=>?_) (λh=>?_))))))
  ·refine Wp.skip (Wp.seq (Wp.block (ws (Ai 3 0 (CG E4 h (λx1 gx1 h=>RW.q (MW E4 gx1 0 2) (gn 2 0 (Wp.seq (Fp h [1,3,4,63] [.box 1,.box 4] (λa=>(g9 xS b x1 a)) (λa h=>?_) (λj2 h=>?_))))))))))
   ·refine DM [] mixed (λ_ _=>nP) (Bn [0,1] 0 (Br 2 (KB.c 0 h (BU _ _ _) (λv3 gv3 h=>Bn [3,4] 0 (Vo 40 h (λh=>?_) (λh=>?_))))))
    ·exact Bn [5,6,7,8,9,10,11,12,13,14,15,16,17,18,19,20,21,22,23,24,25,26,27] 0 (Bg (jn h))
    refine Bn [5,6,7] 0 (Vo 43 h (λh=>?_) (λh=>?_))
    ·refine Bn [8,9,10,11] 0 (bd h λx2 gx2 h=>KW.q 12 (Js E4 gx2) (KW.q 13 (DH E4 gx2 0 0) (KW.q 14 (CK E4 gx2 0) (Bn [15,16,17,18,19,20] 0 (Vo 56 h (λh=>?_) (λh=>?_))))))
     ·exact Bn [21,22,23,24,25,26,27] 0 (Bg (jn h))
     exact Bn [21,22,23,24] 0 (Br 25 (KB.c 0 h (Ld _ _) (λv4 gv4 h=>Bn [26,27] 0 (Bg (jn h)))))
    exact Bn [8,9,10,11,12,13,14,15,16,17,18,19,20,21,22,23,24] 0 (Br 25 (KB.c 0 h (Ld _ _) (λv5 gv5 h=>Bn [26,27] 0 (Bg (jn h)))))
   refine wc h (λh=>?_) (λh=>?_)
   ·exact ws (gn 1 0 (Wp.ret (rr (jo h hk1)▸rq)))
   refine Wp.skip (ws (gn 1 0 (Er h [1,3,4,5] [.box 1,.box 4] (λs=>(g8 xS b x1 s)) [1,3] [.box 1] (λ_=>(g7 xS b)) Eu ?_ ?_)))
   ·rintro d o (h:Ij xS x1 d=some o) hk2;refine Wp.seq (ws (gn 2 0 (wc h (λh=>?_) (λh=>?_))))
    ·refine Wp.skip (Wp.seq (Wp.block (Wp.seq (DM [] mixed (λ_ _=>nP) (Bn [0,1,2,3,4,6,7] 0 (Br 5 (KB.c 0 h (Xq _ _ _) (λv6 gv6 h=>Bn [8] 0 (Bg (wc h (λh=>?_) (λh=>?_)))))))))))
     ·exact ws (gn 1 0 (Wp.ret (rr (jo (jo h hk2) hk1)▸rq)))
     exact Wp.skip (Au (gn 3 0 (jl h)))
    exact Wp.exit (jx h)
   intro v7 h E hE;exact AY hE (Au (gn 3 0 (jl h)))
  exact Wp.exit (jx h)
 intro v8 h E hE;refine AY hE (Fp h [1,6] [.box 1,.box 6] (λa=>(g6 xS a)) (λa h=>?_) (λj3 h=>?_))
 ·refine DM [9] mixed (λ_ _=>nP) (Bn [0,1,2] 0 (Dq 3 8 ?_ ?_))
  ·refine KB.c 0 h (LN _) (λv10 gv10 h=>Dq 4 8 ?_ ?_)
   ·exact KB.c 0 h (gs (ca rfl (ca (co (cs (tV _))) rfl)) (Gy _ _)) (λv12 gv12 h=>oj [5,10] h) (hc:=(.inr (λv=>by simp [BD,BQ,AR,BC,ns3,Lo,EO,Bw,Ze])))
   exact KB.o false (Br 4 (KB.c 0 h (gs (ca rfl (ca (co (cs (tV _))) rfl)) (Gy _ _)) (λv13 gv13 h=>Bn [5] 1 (IY 6 (oj [10] h))) (hc:=(.inr (λv=>by simp [BD,BQ,AR,BC,ns3,Lo,EO,Bw,Ze])))))
  exact KB.o false (Br 3 (KB.c 0 h (LN _) (λv14 gv14 h=>Br 4 (KB.c 0 h (gs (ca rfl (ca (co (cs (tV _))) rfl)) (Gy _ _)) (λv15 gv15 h=>Bn [5] 1 (IY 6 (oj [10] h))) (hc:=(.inr (λv=>by simp [BD,BQ,AR,BC,ns3,Lo,EO,Bw,Ze])))))))
 exact ws (Ai 2 0 (RW.q (CT (CS true) j3) (Ai 3 0 (RW.q (CT (CS false) xS.Arena.Knots) (gn 2 0 (Wp.ret (rr h▸rq)))))))
def uP (xS:Store) (a:Int) (z1:Int):St:=AA [(1,(I a)),(2,(pb 2)),(5,(I z1))] [(.box 2,[DN xS.Vols,BP xS.Arena.Knots,i6 xS.Next])]
def uO:St:=AA [] []
theorem Km (xS:Store) (a:Int) (r:Int) (h:GQ xS a=some r):AP Tryz.prog 93 [.sv (.agg (Sm false xS)),.sv (I a)] (I r) (rg 2):=by
 refine gk Tryz.func93 rfl Tryz.ntmps93 (ws (gn 2 0 (Wp.seq (ws (gn 1 0 (Er h [1,2,5] [.box 2] (λs=>(uP xS a s)) [] [] (λ_=>uO) Eu ?_ ?_))))))
 ·rintro b o (h:Kn xS a b=some o) hk1;refine Wp.seq (ws (Ai 3 0 (RW.q (CT E4 xS.Vols) (gn 1 0 (wc h (λh=>?_) (λh=>?_))))))
  ·refine Wp.skip (Wp.seq (Wp.block (ws (Ai 3 0 (CG E4 h (λx1 gx1 h=>RW.q (DH E4 gx1 0 0) (RW.q (CK E4 gx1 0) (gn 2 0 (wc h (λh=>?_) (λh=>?_))))))))))
   ·exact ws (gn 2 0 (Wp.ret (rr (jo h hk1)▸rq)))
   exact Wp.skip (Au (gn 3 0 (jl h)))
  exact Wp.exit (jx h)
 intro v1 h E hE;exact AY hE (ws (gn 1 0 (Wp.ret (rr h▸rq))))
def oS (xS:Store) (xR:C3) (z1:Int):St:=AA [(2,(pb 2)),(3,(pb 3)),(4,(pb 4)),(6,(I z1))] [(.box 2,[DN xS.Vols,BP xS.Arena.Knots,i6 xS.Next]),(.box 3,[i6 xR.Kind,i6 xR.Vol,i6 xR.Arg,i6 xR.Chunk]),(.box 4,[Dp [],Bw [],i6 0])]
def oR (xS:Store) (xR:C3) (j1:Int) (z2:Bool):St:=AA [(2,(pb 2)),(3,(pb 3)),(4,(pb 4)),(6,(I j1)),(39,(B z2))] [(.box 2,[DN xS.Vols,BP xS.Arena.Knots,i6 xS.Next]),(.box 3,[i6 xR.Kind,i6 xR.Vol,i6 xR.Arg,i6 xR.Chunk]),(.box 4,[Dp [],Bw [],i6 0])]
def oQ (xS:Store) (xR:C3) (j1:Int) (v5:Store) (z3:List Vol) (z4:Int):St:=AA [(2,(pb 2)),(3,(pb 3)),(4,(pb 4)),(6,(I j1)),(8,(pb 8)),(9,(.one (Dp z3))),(10,(I z4))] [(.box 2,[DN xS.Vols,BP xS.Arena.Knots,i6 xS.Next]),(.box 3,[i6 xR.Kind,i6 xR.Vol,i6 xR.Arg,i6 xR.Chunk]),(.box 4,[Dp [],Bw [],i6 0]),(.box 8,[Dp v5.Vols,Bw v5.Arena.Knots,i6 v5.Next])]
def oP (xS:Store) (xR:C3) (j1:Int) (v5:Store) (z5:List Vol):St:=AA [(2,(pb 2)),(3,(pb 3)),(4,(pb 4)),(6,(I j1)),(8,(pb 8)),(9,(.one (Dp z5)))] [(.box 2,[DN xS.Vols,BP xS.Arena.Knots,i6 xS.Next]),(.box 3,[i6 xR.Kind,i6 xR.Vol,i6 xR.Arg,i6 xR.Chunk]),(.box 4,[Dp [],Bw [],i6 0]),(.box 8,[Dp v5.Vols,Bw v5.Arena.Knots,i6 v5.Next])]
def oO (xS:Store) (xR:C3) (v5:Store) (z6:List Vol) (z7:Int):St:=AA [(2,(pb 2)),(3,(pb 3)),(4,(pb 4)),(8,(pb 8)),(9,(.one (Dp z6))),(11,(I z7))] [(.box 2,[DN xS.Vols,BP xS.Arena.Knots,i6 xS.Next]),(.box 3,[i6 xR.Kind,i6 xR.Vol,i6 xR.Arg,i6 xR.Chunk]),(.box 4,[Dp [],Bw [],i6 0]),(.box 8,[Dp v5.Vols,Bw v5.Arena.Knots,i6 v5.Next])]
def oN (v5:Store) (z8:List Vol):St:=AA [(4,(pb 4)),(8,(pb 8)),(9,(.one (Dp z8)))] [(.box 4,[Dp [],Bw [],i6 0]),(.box 8,[Dp v5.Vols,Bw v5.Arena.Knots,i6 v5.Next])]
theorem uN (xS:Store) (xR:C3) (r:Store×Bool) (h:M6 xS xR=some r):AP Tryz.prog 161 [.sv (.agg (Sm false xS)),.sv (.agg (Un xR))] (.tup [(.agg (Sm true r.1)),(B r.2)]) (rg 2):=by
 refine gk Tryz.func161 rfl Tryz.ntmps161 (ws (gw 4 0 (gn 1 0 (Wp.seq (ws (gn 3 0 (AAp h [2,3,4,6] [.box 2,.box 3,.box 4] (λa=>(oS xS xR a)) ?_ ?_)))))))
 ·intro a h e;refine wc h (λh=>?_) (λh=>?_)
  ·refine ws (Ai 3 0 (RW.c 0 h (Km _ _) (λv1 gv1 h=>gn 1 0 (Wp.seq (ws (gn 2 0 (wc h (λh=>?_) (λh=>?_))))))))
   ·exact ws (Ai 1 0 (RW.c 0 h (FX _) (λv2 gv2 h=>gn 2 0 (Wp.ret (rr (jr h e)▸rq)))))
   exact Wp.skip (Au (Ai 3 0 (CG E4 h (λx1 gx1 h=>RW.q (DH E4 gx1 0 1) (RW.q (CK E4 gx1 1) (gn 1 0 (jm h)))))))
  exact Wp.skip (jm h)
 intro j1 h E hE;refine AY hE (Wp.seq (Fp h [2,3,4,6,39] [.box 2,.box 3,.box 4] (λa=>(oR xS xR j1 a)) (λa h=>?_) (λj2 h=>?_)))
 ·refine Au (Ai 3 0 (RW.c 0 h (Km _ _) (λv3 gv3 h=>Ai 2 0 (AM 34 h (λh=>?_) (λh=>?_)))))
  ·exact gn 5 0 (jn h)
  exact Ai 2 0 (RW.q (CT E4 xS.Vols) (gn 2 0 (jn h)))
 refine wc h (λh=>?_) (λh=>?_)
 ·exact ws (Ai 1 0 (RW.c 0 h (FX _) (λv4 gv4 h=>gn 2 0 (Wp.ret (rr h▸rq)))))
 refine Wp.skip (ws (Ai 1 0 (RW.c 0 h (FX _) (λv5 gv5 h=>gw 2 0 (gn 2 2 (Wp.seq (ws (gn 1 0 (BM h [2,3,4,6,8,9,10] [.box 2,.box 3,.box 4,.box 8] (λs=>(oQ xS xR j1 v5 s.1 s.2)) [2,3,4,6,8,9] [.box 2,.box 3,.box 4,.box 8] (λs=>(oP xS xR j1 v5 s)) Eu ?_ ?_)))))))))
 ·rintro⟨b,f⟩ o (h:Lc xS xR b f=some o);refine Wp.seq (ws (Ai 3 0 (RW.q (CT E4 xS.Vols) (gn 1 0 (wc h (λh=>?_) (λh=>?_))))))
  ·refine Wp.skip (Wp.seq (Wp.block (Wp.seq (Lw mixed (DI 3 (bd h λx2 gx2 h=>SW.q (Js E4 gx2) (SW.q (DH E4 gx2 0 0) (SW.q (CK E4 gx2 0) (DI 3 (SW.nil (wc h (λh=>?_) (λh=>?_))))))))))))
   ·exact Au (Ai 4 0 (CG E4 h (λx3 gx3 h=>RW.q (MW E4 gx3 0 2) (Ai 1 0 (bd h λq1 gq1 h=>CM (Dm E4 (λ_=>rfl) b gq1) (gn 1 1 (Au (gn 3 0 (jl h)))))))))
   exact Wp.skip (Au (gn 3 0 (jl h)))
  exact Wp.exit (jv h)
 intro v6 h E hE;refine AY hE (ws (Ai 6 0 (bd h λq2 gq2 h=>CM (Dm E4 (λ_=>rfl) v6 gq2) (gn 1 1 (Wp.seq (ws (gn 1 0 (BM h [2,3,4,8,9,11] [.box 2,.box 3,.box 4,.box 8] (λs=>(oO xS xR v5 s.1 s.2)) [4,8,9] [.box 4,.box 8] (λs=>(oN v5 s)) Eu ?_ ?_))))))))
 ·rintro⟨d,g⟩ o (h:Lb xS xR d g=some o);refine Wp.seq (ws (Ai 3 0 (RW.q (CT E4 xS.Vols) (gn 1 0 (wc h (λh=>?_) (λh=>?_))))))
  ·refine Wp.skip (Wp.seq (Wp.block (Wp.seq (Lw mixed (DI 3 (bd h λx4 gx4 h=>SW.q (Js E4 gx4) (SW.q (DH E4 gx4 0 0) (SW.q (CK E4 gx4 0) (DI 3 (SW.nil (wc h (λh=>?_) (λh=>?_))))))))))))
   ·exact Au (Ai 4 0 (CG E4 h (λx5 gx5 h=>RW.q (MW E4 gx5 0 2) (Ai 1 0 (bd h λq3 gq3 h=>CM (Dm E4 (λ_=>rfl) d gq3) (gn 1 1 (Au (gn 3 0 (jl h)))))))))
   exact Wp.skip (Au (gn 3 0 (jl h)))
  exact Wp.exit (jv h)
 intro v7 h E hE;exact AY hE (ws (gw 3 0 (gn 3 0 (Wp.ret (rr h▸rq)))))
def ZC (xS:Store) (z1:List Int) (z2:List Cb):St:=AA [(1,(pb 1)),(2,(pb 2)),(3,(pb 3)),(4,(.one (EO z1)))] [(.box 1,[DN xS.Vols,BP xS.Arena.Knots,i6 xS.Next]),(.box 2,[Dp [],Bw [],i6 0]),(.box 3,[Bw z2])]
def ZB (xS:Store) (j1:List Int×List Cb) (z3:List Vol):St:=AA [(2,(pb 2)),(4,(.one (EO j1.1))),(5,(pb 5))] [(.box 2,[Dp [],Bw [],i6 0]),(.box 5,[Dp z3,Bw j1.2,i6 xS.Next])]
def ZA (xS:Store) (j1:List Int×List Cb) (z4:Int) (z5:List Vol):St:=AA [(2,(pb 2)),(4,(.one (EO j1.1))),(5,(pb 5)),(6,(I z4))] [(.box 2,[Dp [],Bw [],i6 0]),(.box 5,[Dp z5,Bw j1.2,i6 xS.Next])]
def Z9 (xS:Store) (j1:List Int×List Cb) (z6:List Vol):St:=AA [(2,(pb 2)),(5,(pb 5))] [(.box 2,[Dp [],Bw [],i6 0]),(.box 5,[Dp z6,Bw j1.2,i6 xS.Next])]
theorem OB (xS:Store) (r:Store) (h:GP xS=some r):AP Tryz.prog 162 [.sv (.agg (Sm false xS))] (.agg (Sm true r)) (rg 1):=by
 refine gk Tryz.func162 rfl Tryz.ntmps162 (ws (gn 2 0 (Fp h [1,2,3,4] [.box 1,.box 2,.box 3] (λa=>(ZC xS a.1 a.2)) (λa h=>?_) (λj1 h=>?_))))
 ·refine DM [9] mixed (λ_ _=>nP) (Bn [0,1,2] 0 (Dq 3 8 ?_ ?_))
  ·refine KB.c 0 h (LN _) (λv2 gv2 h=>Dq 4 8 ?_ ?_)
   ·exact KB.c 0 h (gs (ca rfl (ca (co (cs (tV _))) rfl)) (Gy _ _)) (λv4 gv4 h=>oj [5,10] h) (hc:=(.inr (λv=>by simp [BD,BQ,AR,BC,ns3,Lo,EO,Bw,Ze])))
   exact KB.o false (Br 4 (KB.c 0 h (gs (ca rfl (ca (co (cs (tV _))) rfl)) (Gy _ _)) (λv5 gv5 h=>Bn [5] 1 (IY 6 (oj [10] h))) (hc:=(.inr (λv=>by simp [BD,BQ,AR,BC,ns3,Lo,EO,Bw,Ze])))))
  exact KB.o false (Br 3 (KB.c 0 h (LN _) (λv6 gv6 h=>Br 4 (KB.c 0 h (gs (ca rfl (ca (co (cs (tV _))) rfl)) (Gy _ _)) (λv7 gv7 h=>Bn [5] 1 (IY 6 (oj [10] h))) (hc:=(.inr (λv=>by simp [BD,BQ,AR,BC,ns3,Lo,EO,Bw,Ze])))))))
 refine Fp h [2,4,5] [.box 2,.box 5] (λa=>(ZB xS j1 a)) (λa h=>?_) (λj2 h=>?_)
 ·refine DM [9] mixed (λ_ _=>nP) (Bn [1,2,4,5,6] 0 (Dq 0 8 ?_ ?_))
  ·refine yO (Dq 3 8 ?_ ?_)
   ·exact bd h λq1 gq1 h=>nJ (Dm E4 (λ_=>rfl) [] gq1) (Bn [7,8,9] 0 (Bg (jn h)))
   exact KB.o false (Br 3 (bd h λq2 gq2 h=>nJ (Dm E4 (λ_=>rfl) [] gq2) (Bn [7,9] 0 (Bg (jn h)))))
  exact KB.o false (Br 0 (yO (Br 3 (bd h λq3 gq3 h=>nJ (Dm E4 (λ_=>rfl) [] gq3) (Bn [7,9] 0 (Bg (jn h)))))))
 refine Wp.seq (ws (gn 1 0 (BM h [2,4,5,6] [.box 2,.box 5] (λs=>(ZA xS j1 s.1 s.2)) [2,5] [.box 2,.box 5] (λs=>(Z9 xS j1 s)) Eu ?_ ?_)))
 ·rintro⟨d,b⟩ o (h:IA j1 d b=some o);refine Wp.seq (ws (Ai 3 0 (RW.q (CT E4 b) (gn 1 0 (wc h (λh=>?_) (λh=>?_))))))
  ·exact Wp.skip (Wp.seq (Wp.block (Vh 9 mixed (DI 5 (bd h λx1 gx1 h=>SW.q (Js k3 gx1) (SW.q (CK k3 gx1 0) (bd h λx2 gx2 h=>SW.q (Js E4 gx2) (SW.q (DH E4 gx2 0 1) (SW.nil (CM (MY E4 gx2 1 0 (Vol.mk x2.Id x1)) (RW.nil (Au (gn 3 0 (jl h))))))))))))))
  exact Wp.exit (jv h)
 intro v8 h E hE;exact AY hE (ws (gn 2 0 (Wp.ret (rr h▸rq))))
def vF (xA:Arena) (b:Int) (a:Int) (xN:Int) (v1:Arena) (z1:Bool):St:=AA [(1,(I b)),(2,(I a)),(3,(I xN)),(4,(pb 4)),(8,(pb 8)),(10,(pb 10)),(33,(B z1))] [(.box 4,[BP xA.Knots]),(.box 8,[Bw []]),(.box 10,[Bw v1.Knots])]
def vE (a:Int) (xN:Int) (v1:Arena) (z2:List Int) (z3:List Int):St:=AA [(2,(I a)),(3,(I xN)),(8,(pb 8)),(10,(pb 10)),(11,(pb 11)),(12,(pb 12))] [(.box 8,[Bw []]),(.box 10,[Bw v1.Knots]),(.box 11,[tb true,EO z2]),(.box 12,[tb false,EO z3])]
theorem dI (xA:Arena) (d:Int) (b:Int) (xN:Int) (r:Arena×Int) (h:Wl xA d b xN=some r):AP Tryz.prog 163 [.sv (.agg (Ze false xA)),.sv (I d),.sv (I b),.sv (I xN)] (.tup [(.agg (Ze false r.1)),(I r.2)]) (rg 4):=by
 refine gk Tryz.func163 rfl Tryz.ntmps163 (ws (gw 3 0 (Ai 1 0 (RW.c 0 h (PU _) (λv1 gv1 h=>gn 2 0 (Wp.seq (Fp h [1,2,3,4,8,10,33] [.box 4,.box 8,.box 10] (λa=>(vF xA d b xN v1 a)) (λa h=>?_) (λj1 h=>?_))))))))
 ·refine Au (Ai 1 0 (RW.c 0 h (Nq _) (λv2 gv2 h=>Ai 2 0 (AM 19 h (λh=>?_) (λh=>?_)))))
  ·exact gn 14 0 (jn h)
  refine Ai 2 0 (RW.c 0 h (Ld _ _) (λv3 gv3 h=>Ai 3 0 (AM 25 h (λh=>?_) (λh=>?_))))
  ·exact gn 8 0 (jn h)
  refine Ai 1 0 (RW.c 0 h (BU _ _ _) (λv4 gv4 h=>Ai 3 0 (AM 30 h (λh=>?_) (λh=>?_))))
  ·exact gn 3 0 (jn h)
  exact gn 3 0 (jn h)
 refine wc h (λh=>?_) (λh=>?_)
 ·exact ws (gn 4 0 (Wp.fz (.box 8) 0 (Dn v1.Knots) (Wp.ret (rr h▸rq))))
 refine Wp.skip (ws (bd h λq1 gq1 h=>CM (fmk k3 0 gq1) (gw 3 0 (gn 4 0 (Wp.seq (ws (gn 2 0 (Hc h [2,3,8,10,11,12] [.box 8,.box 10,.box 11,.box 12] (λa=>(vE b xN v1 a.1 a.2)) ?_ ?_))))))))
 ·intro a h;refine wc h (λh=>?_) (λh=>?_)
  ·refine ws (Ai 4 0 (CG (CS false) h (λx1 gx1 h=>RW.q (DH (CS false) gx1 0 1) (RW.q (CK (CS false) gx1 1) (bd h λq2 gq2 h=>CM (Dm k3 (λ_=>rfl) [] gq2) (gw 2 0 (Ai 4 0 (CG k3 h (λx2 gx2 h=>RW.q (CK k3 gx2 0) (gw 1 0 (gn 2 0 (wc h (λh=>?_) (λh=>?_)))))))))))))
   ·exact Au (Ai 4 0 (CG (CS false) h (λx3 gx3 h=>RW.q (DH (CS false) gx3 0 1) (RW.q (CK (CS false) gx3 1) (bd h λq3 gq3 h=>CM (Dm k3 (λ_=>rfl) [] gq3) (gn 2 0 (jn h)))))))
   exact Wp.skip (jn h)
  exact Wp.skip (jn h)
 intro j2 h E hE;refine AY hE (ws (Ai 5 0 (CG k3 h (λx4 gx4 h=>CM (MY k3 gx4 0 1 xN) (RW.nil (ws (Ai 6 0 (RW.q (CT (CS true) v1.Knots) (CG k3 h (λx5 gx5 h=>CM (MY k3 gx5 0 1 (ln v1.Knots)) (RW.nil (ws (Ai 5 0 (bd h λq4 gq4 h=>CM (sL (CS true) v1.Knots [(Cb.mk true (si j2.1 (Int.tmod b 4) xN)),(Cb.mk false (si j2.2 (qu b 4) (ln v1.Knots)))] gq4) (RW.fz (.slot 87) 0 (Dn q4) (gn 2 0 (Wp.seq (DM [5] mixed (λ_ _=>nP) (Bn [0] 0 (Dq 1 5 ?_ ?_))))))))))))))))))))
 ·refine KB.o false (Dq 2 5 ?_ ?_)
  ·refine KB.o false (Dq 3 5 ?_ ?_)
   ·refine KB.q (CT (CS false) q4) (Dq 4 5 ?_ ?_)
    ·exact KB.o false (Bn [5,6] 0 (Bg (Wp.ret (rr h▸rq))))
    exact KB.o false (Bn [4,6] 0 (Bg (Wp.ret (rr h▸rq))))
   exact KB.o false (Br 3 (KB.q (CT (CS false) q4) (Bn [4,6] 0 (Bg (Wp.ret (rr h▸rq))))))
  exact KB.o false (Bn [2] 0 (Br 3 (KB.q (CT (CS false) q4) (Bn [4,6] 0 (Bg (Wp.ret (rr h▸rq)))))))
 exact KB.o false (Bn [1,2] 0 (Br 3 (KB.q (CT (CS false) q4) (Bn [4,6] 0 (Bg (Wp.ret (rr h▸rq)))))))
def vM (xS:Store) (xR:C3) (z1:Bool):St:=AA [(2,(pb 2)),(3,(pb 3)),(4,(pb 4)),(18,(B z1))] [(.box 2,[DN xS.Vols,BP xS.Arena.Knots,i6 xS.Next]),(.box 3,[i6 xR.Kind,i6 xR.Vol,i6 xR.Arg,i6 xR.Chunk]),(.box 4,[Dp [],Bw [],i6 0])]
def vL (z2:Int):St:=AA [(4,(pb 4)),(6,(I z2))] [(.box 4,[Dp [],Bw [],i6 0])]
def vK (xS:Store) (xR:C3) (v5:Int) (z3:Bool):St:=AA [(2,(pb 2)),(3,(pb 3)),(4,(pb 4)),(7,(I v5)),(48,(B z3))] [(.box 2,[DN xS.Vols,BP xS.Arena.Knots,i6 xS.Next]),(.box 3,[i6 xR.Kind,i6 xR.Vol,i6 xR.Arg,i6 xR.Chunk]),(.box 4,[Dp [],Bw [],i6 0])]
def vJ (xR:C3) (v5:Int) (v7:Store) (z4:Int) (z5:List Cb):St:=AA [(3,(pb 3)),(4,(pb 4)),(7,(I v5)),(8,(pb 8)),(9,(pb 9)),(10,(I z4))] [(.box 3,[i6 xR.Kind,i6 xR.Vol,i6 xR.Arg,i6 xR.Chunk]),(.box 4,[Dp [],Bw [],i6 0]),(.box 8,[Dp v7.Vols,Bw v7.Arena.Knots,i6 v7.Next]),(.box 9,[BP z5])]
theorem dK (xS:Store) (xR:C3) (r:Store×Bool) (h:Wm xS xR=some r):AP Tryz.prog 92 [.sv (.agg (Sm false xS)),.sv (.agg (Un xR))] (.tup [(.agg (Sm true r.1)),(B r.2)]) (rg 2):=by
 refine gk Tryz.func92 rfl Tryz.ntmps92 (ws (gn 4 0 (Wp.seq (Fp h [2,3,4,18] [.box 2,.box 3,.box 4] (λa=>(vM xS xR a)) (λa h=>?_) (λj1 h=>?_)))))
 ·refine Au (Ai 1 0 (RW.c 0 h (UF _) (λv1 gv1 h=>Ai 2 0 (AM 14 h (λh=>?_) (λh=>?_)))))
  ·exact gn 4 0 (jn h)
  exact Ai 1 0 (RW.c 0 h (TM _) (λv2 gv2 h=>gn 2 0 (jn h)))
 refine wc h (λh=>?_) (λh=>?_)
 ·exact ws (Ai 1 0 (RW.c 0 h (FX _) (λv3 gv3 h=>gn 2 0 (Wp.ret (rr h▸rq)))))
 refine Wp.skip (Wp.seq (ws (gn 2 0 (Wp.block (ws (gn 2 0 (wc h (λh=>?_) (λh=>?_))))))))
 ·refine ws (gn 3 0 (Wp.seq (ws (gn 2 0 (Hc h [4,6] [.box 4] (λa=>(vL a)) ?_ ?_)))))
  ·intro a h;refine wc h (λh=>?_) (λh=>?_)
   ·exact Au (gn 1 0 (jn h))
   exact Wp.skip (jn h)
  intro j2 h E hE;exact AY hE (ws (gn 4 0 (Wp.ret (rr h▸rq))))
 refine ws (gn 2 0 (wc h (λh=>?_) (λh=>?_)))
 ·exact ws (Ai 2 0 (RW.c 0 h (uN _ _) (λv4 gv4 h=>gn 4 0 (Wp.ret (rr h▸rq)))))
 refine Wp.skip (ws (Ai 3 0 (RW.c 0 h (Km _ _) (λv5 gv5 h=>gn 1 0 (Wp.seq (Fp h [2,3,4,7,48] [.box 2,.box 3,.box 4] (λa=>(vK xS xR v5 a)) (λa h=>?_) (λj3 h=>?_)))))))
 ·refine Au (Ai 3 0 (AM 44 h (λh=>?_) (λh=>?_)))
  ·exact gn 4 0 (jn h)
  exact gn 4 0 (jn h)
 refine wc h (λh=>?_) (λh=>?_)
 ·exact ws (Ai 1 0 (RW.c 0 h (FX _) (λv6 gv6 h=>gn 2 0 (Wp.ret (rr h▸rq)))))
 refine Wp.skip (ws (Ai 1 0 (RW.c 0 h (FX _) (λv7 gv7 h=>gn 2 0 (Wp.seq (ws (gn 3 0 (wc h (λh=>?_) (λh=>?_)))))))))
 ·exact Wp.seq (DM [11,13] mixed (λ_ _=>nP) (Bn [1,2,3] 0 (bd h λx1 gx1 h=>KW.q 4 (pdr E4 53 gx1) (Bn [6,7,8,9] 0 (bd h λx2 gx2 h=>KW.q 10 (AGM E4 53 gx2) (Br 0 (yO (Br 5 (bd h λq1 gq1 h=>nJ (Dm E4 (λ_=>rfl) [] gq1) (Br 11 (bd h λq2 gq2 h=>Lz (Dm E4 (λ_=>rfl) q1 gq2) (Bn [12,13] 0 (Bg (ws (Ai 1 0 (RW.c 0 h (gs (ca (cC (ca (cs (Fq _)) (ca (cs (Dn _)) rfl))) rfl) (OB _)) (λv8 gv8 h=>gn 2 0 (Wp.ret (rr h▸rq))) (hc:=(.inr (λv=>by simp [BD,BQ,AR,BC,Yi,Lo,Dp,Bw,Sm])))))))))))))))))))
 refine Wp.skip (Fp h [3,4,7,8,9,10] [.box 3,.box 4,.box 8,.box 9] (λa=>(vJ xR v5 v7 a.1 a.2)) (λa h=>?_) (λj4 h=>?_))
 ·refine DM [17] mixed (λ_ _=>nP) (Bn [0,1,2,3,4] 0 (bd h λx3 gx3 h=>KW.q 5 (Js E4 gx3) (KW.q 6 (DH E4 gx3 0 1) (KW.q 7 (CK E4 gx3 1) (Bn [8,9,10,11] 0 (Dq 12 16 ?_ ?_))))))
  ·exact KB.c 0 h (dI _ _ _ _) (λv10 gv10 h=>oj [13] h)
  exact KB.o false (Br 12 (KB.c 0 h (dI _ _ _ _) (λv11 gv11 h=>Bn [13] 1 (IY 14 (oj [] h)))))
 refine ws (gw 3 0 (Ai 4 0 (CG E4 h (λx4 gx4 h=>RW.q (DH E4 gx4 0 1) (CM (MY E4 gx4 1 0 (Vol.mk x4.Id j4.1)) (RW.nil (Wp.seq (ws (gn 5 0 (wc h (λh=>?_) (λh=>?_)))))))))))
 ·exact Au (gw 5 0 (Ai 1 0 (RW.c 0 h (gs (ca (cC (ca (cs (Fq _)) rfl)) rfl) (OB _)) (λv12 gv12 h=>gn 2 0 (Wp.ret (rr h▸rq))) (hc:=(.inr (λv=>by simp [BD,BQ,AR,BC,Yi,Lo,Dp,Bw,Sm]))))))
 exact Wp.skip (ws (Ai 1 0 (RW.c 0 h (gs (ca (cC (ca (cs (Fq _)) rfl)) rfl) (OB _)) (λv13 gv13 h=>gn 2 0 (Wp.ret (rr h▸rq))) (hc:=(.inr (λv=>by simp [BD,BQ,AR,BC,Yi,Lo,Dp,Bw,Sm]))))))
def aX (xS:Store) (a:List C3) (z1:Int) (z2:List Vol) (z3:List Cb) (z4:Int):St:=AA [(1,(.one (NZ a))),(2,(pb 2)),(4,(pb 4)),(6,(pb 6)),(7,(I z1))] [(.box 2,[DN xS.Vols,BP xS.Arena.Knots,i6 xS.Next]),(.box 4,[Dp [],Bw [],i6 0]),(.box 6,[Dp z2,Bw z3,i6 z4])]
def aW (z5:List Vol) (z6:List Cb) (z7:Int):St:=AA [(4,(pb 4)),(6,(pb 6))] [(.box 4,[Dp [],Bw [],i6 0]),(.box 6,[Dp z5,Bw z6,i6 z7])]
def aV (xS:Store) (d:List C3) (e:Int) (a:List Vol) (b:List Cb) (c:Int) (z8:Bool) (z9:List Vol) (z10:List Cb) (z11:Int):St:=AA [(1,(.one (NZ d))),(2,(pb 2)),(4,(pb 4)),(6,(pb 6)),(7,(I e)),(8,(pb 8)),(9,(B z8))] [(.box 2,[DN xS.Vols,BP xS.Arena.Knots,i6 xS.Next]),(.box 4,[Dp [],Bw [],i6 0]),(.box 6,[Dp a,Bw b,i6 c]),(.box 8,[Dp z9,Bw z10,i6 z11])]
theorem jJ (xS:Store) (b:List C3) (r:Store×Bool) (h:OM xS b=some r):AP Tryz.prog 54 [.sv (.agg (Sm false xS)),.sv (.one (NZ b))] (.tup [(.agg (Sm true r.1)),(B r.2)]) (rg 2):=by
 refine gk Tryz.func54 rfl Tryz.ntmps54 (ws (gw 3 0 (Ai 1 0 (RW.c 0 h (FX _) (λv1 gv1 h=>gn 2 0 (Wp.seq (ws (gn 1 0 (Er h [1,2,4,6,7] [.box 2,.box 4,.box 6] (λs=>(aX xS b s.1 s.2.1 s.2.2.1 s.2.2.2)) [4,6] [.box 4,.box 6] (λs=>(aW s.1 s.2.1 s.2.2)) Eu ?_ ?_)))))))))
 ·rintro⟨g,d,e,f⟩ o (h:Hl xS b g d e f=some o) hk1;refine Wp.seq (ws (Ai 2 0 (RW.q (CT I7 b) (gn 1 0 (wc h (λh=>?_) (λh=>?_))))))
  ·refine Wp.skip (Wp.seq (Wp.block (Fp h [1,2,4,6,7,8,9] [.box 2,.box 4,.box 6,.box 8] (λa=>(aV xS b g d e f a.1 a.2.1 a.2.2.1 a.2.2.2)) (λa h=>?_) (λj1 h=>?_))))
   ·refine DM [10] mixed (λ_ _=>nP) (Bn [0,1,2] 0 (bd h λx1 gx1 h=>KW.q 3 (Js I7 gx1) (KW.q 4 (MW I7 gx1 0 4) (Dq 5 9 ?_ ?_))))
    ·exact KB.c 0 h (gs (ca (cC (ca (cs (Fq _)) (ca (cs (Dn _)) rfl))) rfl) (dK _ _)) (λv3 gv3 h=>oj [6] h) (hc:=(.inr (λv=>by simp [BD,BQ,AR,BC,Yi,Lo,Dp,Bw,Sm])))
    exact KB.o false (Br 5 (KB.c 0 h (gs (ca (cC (ca (cs (Fq _)) (ca (cs (Dn _)) rfl))) rfl) (dK _ _)) (λv4 gv4 h=>Bn [6] 1 (IY 7 (oj [] h))) (hc:=(.inr (λv=>by simp [BD,BQ,AR,BC,Yi,Lo,Dp,Bw,Sm])))))
   refine Wp.seq (ws (gn 2 0 (wc h (λh=>?_) (λh=>?_))))
   ·exact ws (Ai 1 0 (RW.c 0 h (FX _) (λv5 gv5 h=>gn 2 0 (Wp.ret (rr (jo h hk1)▸rq)))))
   exact Wp.skip (Au (gn 2 0 (Au (gn 3 0 (jl h)))))
  exact Wp.exit (jx h)
 intro v6 h E hE;exact AY hE (ws (gn 3 0 (Wp.ret (rr h▸rq))))
def Sl (o:Bool) (x:AE):List TV:=[.sl o 104 3 (AT (Tr o) x.Flash.Blocks),.sl o 53 2 (AT c53 x.Store.Vols),.sl o 223 2 (AT (Zf o) x.Store.Arena.Knots),i6 x.Store.Next,i6 x.Seq,i6 x.Tx,i6 x.Base]
def aR (v2:List Al) (v3:Flash) (v4:Store) (z1:Int) (z2:Int) (z3:Int):St:=AA [(2,(pb 2)),(4,(.one (GT v2))),(5,(pb 5)),(6,(I z1))] [(.box 2,[C0 [],Dp [],Bw [],i6 0,i6 0,i6 0,i6 0]),(.box 5,[C0 v3.Blocks,Dp v4.Vols,Bw v4.Arena.Knots,i6 v4.Next,i6 z2,i6 z3,i6 0])]
def aQ (v2:List Al) (v3:Flash) (v4:Store) (z4:Int) (z5:Int):St:=AA [(2,(pb 2)),(4,(.one (GT v2))),(5,(pb 5))] [(.box 2,[C0 [],Dp [],Bw [],i6 0,i6 0,i6 0,i6 0]),(.box 5,[C0 v3.Blocks,Dp v4.Vols,Bw v4.Arena.Knots,i6 v4.Next,i6 z4,i6 z5,i6 0])]
def aP (v2:List Al) (v3:Flash) (v4:Store) (b:Int) (a:Int) (z6:Int):St:=AA [(2,(pb 2)),(4,(.one (GT v2))),(5,(pb 5)),(6,(I b))] [(.box 2,[C0 [],Dp [],Bw [],i6 0,i6 0,i6 0,i6 0]),(.box 5,[C0 v3.Blocks,Dp v4.Vols,Bw v4.Arena.Knots,i6 v4.Next,i6 z6,i6 a,i6 0])]
def aO (v2:List Al) (v3:Flash) (v4:Store) (b:Int) (a:Int) (j1:Int) (z7:Bool):St:=AA [(2,(pb 2)),(4,(.one (GT v2))),(5,(pb 5)),(6,(I b)),(59,(B z7))] [(.box 2,[C0 [],Dp [],Bw [],i6 0,i6 0,i6 0,i6 0]),(.box 5,[C0 v3.Blocks,Dp v4.Vols,Bw v4.Arena.Knots,i6 v4.Next,i6 j1,i6 a,i6 0])]
def aN (v3:Flash) (v5:Int×Int) (v7:List Tx) (z8:Int) (z9:List Vol) (z10:List Cb) (z11:Int) (z12:Int):St:=AA [(2,(pb 2)),(5,(pb 5)),(7,(.one (AAQ v7))),(8,(I z8))] [(.box 2,[C0 [],Dp [],Bw [],i6 0,i6 0,i6 0,i6 0]),(.box 5,[C0 v3.Blocks,Dp z9,Bw z10,i6 z11,i6 v5.1,i6 v5.2,i6 z12])]
def aM (v3:Flash) (v5:Int×Int) (z13:List Vol) (z14:List Cb) (z15:Int) (z16:Int):St:=AA [(2,(pb 2)),(5,(pb 5))] [(.box 2,[C0 [],Dp [],Bw [],i6 0,i6 0,i6 0,i6 0]),(.box 5,[C0 v3.Blocks,Dp z13,Bw z14,i6 z15,i6 v5.1,i6 v5.2,i6 z16])]
def aL (v3:Flash) (v5:Int×Int) (v7:List Tx) (d:Int) (a:List Vol) (b:List Cb) (c:Int) (z17:Int):St:=AA [(2,(pb 2)),(5,(pb 5)),(7,(.one (AAQ v7))),(8,(I d))] [(.box 2,[C0 [],Dp [],Bw [],i6 0,i6 0,i6 0,i6 0]),(.box 5,[C0 v3.Blocks,Dp a,Bw b,i6 c,i6 v5.1,i6 v5.2,i6 z17])]
theorem OH (xF:Flash) (r:AE×Bool) (h:Fv xF=some r):AP Tryz.prog 19 [.sv (.agg (NK false xF))] (.tup [(.agg (Sl true r.1)),(B r.2)]) (rg 1):=by
 refine gk Tryz.func19 rfl Tryz.ntmps19 (ws (gn 3 0 (Wp.seq (ws (Ai 1 0 (RW.c 0 h (No _) (λv1 gv1 h=>gn 1 0 (wc h (λh=>?_) (λh=>?_)))))))))
 ·exact ws (gn 3 0 (Wp.ret (rr h▸rq)))
 refine Wp.skip (ws (Ai 1 0 (RW.c 0 h (HH _) (λv2 gv2 h=>gw 1 1 (Ai 1 0 (RW.c 0 h (Jd _) (λv3 gv3 h=>RW.c 0 h (iA) (λv4 gv4 h=>gn 3 0 (Wp.seq (ws (gn 1 0 (BM h [2,4,5,6] [.box 2,.box 5] (λs=>(aR v2 v3 v4 s.1 s.2.1 s.2.2)) [2,4,5] [.box 2,.box 5] (λs=>(aQ v2 v3 v4 s.1 s.2)) Eu ?_ ?_))))))))))))
 ·rintro⟨g,i,b⟩ o (h:Hk v2 g i b=some o);refine Wp.seq (ws (Ai 2 0 (RW.q (CT Et v2) (gn 1 0 (wc h (λh=>?_) (λh=>?_))))))
  ·refine Wp.skip (Wp.seq (Wp.block (Wp.seq (Wp.seq (Lw mixed (DI 2 (bd h λx1 gx1 h=>SW.q (Js Et gx1) (SW.q (DH Et gx1 0 2) (SW.q (DH Et gx1 2 3) (SW.q (CK Et gx1 3) (DI 3 (SW.nil (Hc h [2,4,5,6] [.box 2,.box 5] (λa=>(aP v2 v3 v4 g b a)) ?_ ?_)))))))))))))
   ·intro a h;refine wc h (λh=>?_) (λh=>?_)
    ·exact Au (Ai 2 0 (CG Et h (λx2 gx2 h=>RW.q (DH Et gx2 0 2) (RW.q (DH Et gx2 2 3) (RW.q (CK Et gx2 3) (gn 3 0 (jn h)))))))
    exact Wp.skip (jn h)
   intro j1 h E hE;refine AY hE (Fp h [2,4,5,6,59] [.box 2,.box 5] (λa=>(aO v2 v3 v4 g b j1 a)) (λa h=>?_) (λj2 h=>?_))
   ·refine Lw mixed (DI 2 (bd h λx3 gx3 h=>SW.q (Js Et gx3) (SW.q (DH Et gx3 0 2) (SW.q (DH Et gx3 2 2) (SW.q (CK Et gx3 2) (DI 2 (fB 49 h (λh=>?_) (λh=>?_))))))))
    ·exact DI 2 (bd h λx4 gx4 h=>SW.q (Js Et gx4) (SW.q (DH Et gx4 0 2) (SW.q (DH Et gx4 2 4) (SW.q (CK Et gx4 4) (DI 4 (SW.nil (jn h)))))))
    exact DI 10 (SW.nil (jn h))
   refine wc h (λh=>?_) (λh=>?_)
   ·exact Au (Ai 2 0 (CG Et h (λx5 gx5 h=>RW.q (DH Et gx5 0 2) (RW.q (DH Et gx5 2 4) (RW.q (CK Et gx5 4) (gn 3 0 (Au (gn 3 0 (jl h)))))))))
   exact Wp.skip (Au (gn 3 0 (jl h)))
  exact Wp.exit (jv h)
 intro v5 h E hE;refine AY hE (ws (Ai 1 0 (RW.c 0 h (gs (ca (co (cs (WV _))) rfl) (XP _)) (λv6 gv6 h=>RW.c 0 h (gs (ca (co (cs (AFV _))) rfl) (ZX _)) (λv7 gv7 h=>RW.fz (.slot 70) 0 (AFV v7) (gn 1 0 (Wp.seq (ws (gn 1 0 (BM h [2,5,7,8] [.box 2,.box 5] (λs=>(aN v3 v5 v7 s.1 s.2.1 s.2.2.1 s.2.2.2.1 s.2.2.2.2)) [2,5] [.box 2,.box 5] (λs=>(aM v3 v5 s.1 s.2.1 s.2.2.1 s.2.2.2)) Eu ?_ ?_)))))) (hc:=(.inr (λv=>by simp [BD,BQ,AR,BC,AFh,bH])))) (hc:=(.inr (λv=>by simp [BD,BQ,AR,BC,AFh,bH]))))))
 ·rintro⟨j,d,e,f,k⟩ o (h:Hj v7 j d e f k=some o);refine Wp.seq (ws (Ai 2 0 (RW.q (CT (Rq false) v7) (gn 1 0 (wc h (λh=>?_) (λh=>?_))))))
  ·refine Wp.skip (Wp.seq (Wp.block (Wp.seq (ws (gn 2 0 (Hc h [2,5,7,8] [.box 2,.box 5] (λa=>(aL v3 v5 v7 j d e f a)) ?_ ?_))))))
   ·intro a h;refine wc h (λh=>?_) (λh=>?_)
    ·exact Au (Ai 2 0 (CG (Rq false) h (λx6 gx6 h=>RW.q (DH (Rq false) gx6 0 0) (RW.q (CK (Rq false) gx6 0) (gn 2 0 (jn h))))))
    exact Wp.skip (jn h)
   intro j3 h E hE;refine AY hE (DM [12] mixed (λ_ _=>nP) (Bn [0,1,2,3] 0 (bd h λx7 gx7 h=>KW.q 4 (Js (Rq false) gx7) (KW.q 5 (DH (Rq false) gx7 0 2) (KW.q 6 (CK (Rq false) gx7 2) (Br 7 (KB.c 0 h (gs (ca (cC (ca (cs (Fq _)) (ca (cs (Dn _)) rfl))) rfl) (jJ _ _)) (λv8 gv8 h=>Bn [8] 1 (IY 9 (Bn [11] 0 (Dq 10 12 ?_ ?_)))) (hc:=(.inr (λv=>by simp [BD,BQ,AR,BC,Yi,Lo,Dp,Bw,Sm]))))))))))
   ·exact KB.o false (Bn [12] 0 (Bg (Au (gn 3 0 (jl h)))))
   exact KB.o false (Bn [10] 0 (Bg (Au (gn 3 0 (jl h)))))
  exact Wp.exit (jv h)
 intro v9 h E hE;exact AY hE (ws (gn 3 0 (Wp.ret (rr h▸rq))))
theorem aZ (a:Int) (r:AE×Bool) (h:Np a=some r):AP Tryz.prog 60 [.sv (I a)] (.tup [(.agg (Sl true r.1)),(B r.2)]) (rg 1):=by
 refine gk Tryz.func60 rfl Tryz.ntmps60 (ws (gw 2 0 (Ai 1 0 (RW.c 0 h (jG _) (λv1 gv1 h=>gn 6 1 (Wp.seq (ws (gn 2 0 (wc h (λh=>?_) (λh=>?_))))))))))
 ·exact ws (gn 3 0 (Wp.ret (rr h▸rq)))
 exact Wp.skip (ws (Ai 1 0 (RW.c 0 h (gs (ca (cC (ca (cs (Dh _)) rfl)) rfl) (OH _)) (λv2 gv2 h=>gn 4 0 (Wp.ret (rr h▸rq))) (hc:=(.inr (λv=>by simp [BD,BQ,AR,BC,Yi,Yj,Lo,Dp,C0,Bw,Sl]))))))
set_option maxHeartbeats 4000000 in
theorem Xt (xC:BE) (a:List Int) (r:Int×BE) (h:LQ xC a=some r):AP Tryz.prog 102 [.ext [PE xC.b_,i6 xC.i_,i6 xC.h_],.sv (.one (QP a))] (I r.1) (.ext [PE r.2.b_,i6 r.2.i_,i6 r.2.h_]::rg 1):=by
 exact gkx Tryz.func102 rfl Tryz.ntmps102 (ws (gw 1 0 (Ai 3 0 (RW.q (CT k3 a) (F5 h (Di _ _) (λ_=>rfl) (λv1 gv1 h=>CG k3 h (λx1 gx1 h=>RW.q (CK k3 gx1 0) (gn 1 0 (Wp.ret (rr h▸rx))))))))))
set_option maxHeartbeats 4000000 in
theorem UE (xC:BE) (xN:Int) (r:Bool×BE) (h:Jf xC xN=some r):AP Tryz.prog 103 [.ext [PE xC.b_,i6 xC.i_,i6 xC.h_],.sv (I xN)] (B r.1) (.ext [PE r.2.b_,i6 r.2.i_,i6 r.2.h_]::rg 1):=by
 exact gkx Tryz.func103 rfl Tryz.ntmps103 (ws (gw 1 0 (Ai 2 0 (F5 h (Di _ _) (λ_=>rfl) (λv1 gv1 h=>gn 2 0 (Wp.ret (rr h▸rx)))))))
def c9 (x:ByteArray):List TV:=[ts x]
theorem k9:∀x,(c9 x).length=1:=λ_=>rfl
theorem sh9:∀l,BK (AT c9 l)=AT c9 l:=DJ (λ_=>rfl)
def ot9 (l:List ByteArray):TV:= .sl true 9 1 (AT c9 l)
def of9 (l:List ByteArray):TV:= .sl false 9 1 (AT c9 l)
set_option maxHeartbeats 4000000 in
theorem o5 (xC:BE) (a:List ByteArray) (r:ByteArray×BE) (h:NU xC a=some r):AP Tryz.prog 169 [.ext [PE xC.b_,i6 xC.i_,i6 xC.h_],.sv (.one (of9 a))] (Y r.1) (.ext [PE r.2.b_,i6 r.2.i_,i6 r.2.h_]::rg 1):=by
 exact gkx Tryz.func169 rfl Tryz.ntmps169 (ws (gw 1 0 (Ai 3 0 (RW.q (CT k9 a) (F5 h (Di _ _) (λ_=>rfl) (λv1 gv1 h=>CG k9 h (λx1 gx1 h=>RW.q (CK k9 gx1 0) (gn 1 0 (Wp.ret (rr h▸rx))))))))))
set_option maxHeartbeats 4000000 in
theorem oH (xC:BE) (r:ByteArray×BE) (h:QE xC=some r):AP Tryz.prog 104 [.ext [PE xC.b_,i6 xC.i_,i6 xC.h_]] (Y r.1) (.ext [PE r.2.b_,i6 r.2.i_,i6 r.2.h_]::rg 0):=by
 exact gkx Tryz.func104 rfl Tryz.ntmps104 (ws (gw 1 0 (Ai 2 0 (RW.fz (.slot 4) 0 (sh9 [(bs []),(bs [97]),(bs [98,98]),(bs [97,98,99,100,97,98,99,100,97,98,99,100]),(bs [104,101,108,108,111]),(bs [104,101,108,108,111,32,104,101,108,108,111,32,104,101,108,108,111]),(bs [122,122,122,122,122,122,122,122,122,122,122,122]),(bs [113,49]),(bs [113,50]),(bs [113,51])]) (F5 h (o5 _ _) (λ_=>rfl) (λv1 gv1 h=>gn 1 0 (Wp.ret (rr h▸rx))))))))
def AEk (x:Vp):List TV:=[i6 x.Kind,i6 x.Vol,i6 x.Sector,i6 x.Of,ts x.Text]
def gC (xD:AE) (z1:Int) (z2:Int) (z3:List Int) (z4:Int) (z5:Int):St:=AA [(0,(px 0)),(3,(pb 3)),(4,(pb 4)),(5,(pb 5))] [(.box 3,[BL xD.Flash.Blocks,DN xD.Store.Vols,BP xD.Store.Arena.Knots,i6 xD.Store.Next,i6 xD.Seq,i6 xD.Tx,i6 xD.Base]),(.box 4,[i6 0,i6 0,i6 0,i6 0,ts (bs [])]),(.box 5,[i6 z1,i6 z2,i6 0,i6 0,ts (bs [])]),(.ext 0,[PE z3,i6 z4,i6 z5])]
def gB (xD:AE) (v1:Int×BE) (v2:Int×BE) (z6:Bool) (z7:List Int) (z8:Int) (z9:Int):St:=AA [(0,(px 0)),(3,(pb 3)),(4,(pb 4)),(5,(pb 5)),(31,(B z6))] [(.box 3,[BL xD.Flash.Blocks,DN xD.Store.Vols,BP xD.Store.Arena.Knots,i6 xD.Store.Next,i6 xD.Seq,i6 xD.Tx,i6 xD.Base]),(.box 4,[i6 0,i6 0,i6 0,i6 0,ts (bs [])]),(.box 5,[i6 v1.1,i6 (ad 1 v2.1),i6 0,i6 0,ts (bs [])]),(.ext 0,[PE z7,i6 z8,i6 z9])]
def gA (xD:AE) (j1:Int×Int×List Int×Int×Int) (z10:Bool) (z11:List Int) (z12:Int) (z13:Int):St:=AA [(0,(px 0)),(3,(pb 3)),(4,(pb 4)),(5,(pb 5)),(52,(B z10))] [(.box 3,[BL xD.Flash.Blocks,DN xD.Store.Vols,BP xD.Store.Arena.Knots,i6 xD.Store.Next,i6 xD.Seq,i6 xD.Tx,i6 xD.Base]),(.box 4,[i6 0,i6 0,i6 0,i6 0,ts (bs [])]),(.box 5,[i6 j1.1,i6 j1.2.1,i6 0,i6 0,ts (bs [])]),(.ext 0,[PE z11,i6 z12,i6 z13])]
def f9 (xD:AE) (j1:Int×Int×List Int×Int×Int) (j3:Bool×List Int×Int×Int) (z14:Int):St:=AA [(0,(px 0)),(3,(pb 3)),(4,(pb 4)),(5,(pb 5))] [(.box 3,[BL xD.Flash.Blocks,DN xD.Store.Vols,BP xD.Store.Arena.Knots,i6 xD.Store.Next,i6 xD.Seq,i6 xD.Tx,i6 xD.Base]),(.box 4,[i6 0,i6 0,i6 0,i6 0,ts (bs [])]),(.box 5,[i6 z14,i6 j1.2.1,i6 0,i6 0,ts (bs [])]),(.ext 0,[PE j3.2.1,i6 j3.2.2.1,i6 j3.2.2.2])]
def f8 (j1:Int×Int×List Int×Int×Int) (j4:Int) (z15:Int) (z16:Int) (z17:ByteArray) (z18:List Int) (z19:Int) (z20:Int):St:=AA [(4,(pb 4)),(5,(pb 5))] [(.box 4,[i6 0,i6 0,i6 0,i6 0,ts (bs [])]),(.box 5,[i6 j4,i6 j1.2.1,i6 z15,i6 z16,ts z17]),(.ext 0,[PE z18,i6 z19,i6 z20])]
def f7 (xD:AE) (j1:Int×Int×List Int×Int×Int) (j3:Bool×List Int×Int×Int) (j4:Int) (z21:Bool):St:=AA [(0,(px 0)),(3,(pb 3)),(4,(pb 4)),(5,(pb 5)),(55,(I j4)),(64,(B z21))] [(.box 3,[BL xD.Flash.Blocks,DN xD.Store.Vols,BP xD.Store.Arena.Knots,i6 xD.Store.Next,i6 xD.Seq,i6 xD.Tx,i6 xD.Base]),(.box 4,[i6 0,i6 0,i6 0,i6 0,ts (bs [])]),(.box 5,[i6 j4,i6 j1.2.1,i6 0,i6 0,ts (bs [])]),(.ext 0,[PE j3.2.1,i6 j3.2.2.1,i6 j3.2.2.2])]
set_option maxHeartbeats 4000000 in
theorem U5 (xC:BE) (xD:AE) (r:Vp×BE) (h:QF xC xD=some r):AP Tryz.prog 62 [.ext [PE xC.b_,i6 xC.i_,i6 xC.h_],.sv (.agg (Sl false xD))] (.agg (AEk r.1)) (.ext [PE r.2.b_,i6 r.2.i_,i6 r.2.h_]::rg 1):=by
 refine gkx Tryz.func62 rfl Tryz.ntmps62 (ws (gw 2 0 (Ai 2 0 (RW.fz (.slot 7) 0 (tV [1,1,1,1,1,1,2,3,4,5,6]) (F5 h (Xt _ _) (λ_=>rfl) (λv1 gv1 h=>Ai 1 0 (F5 h (Di _ _) (λ_=>rfl) (λv2 gv2 h=>gn 4 0 (Wp.seq (ws (Ai 3 0 (RW.q (CT E4 xD.Store.Vols) (gn 1 0 (Hc h [0,3,4,5] [.box 3,.box 4,.box 5,.ext 0] (λa=>(gC xD a.1 a.2.1 a.2.2.1 a.2.2.2.1 a.2.2.2.2)) ?_ ?_))))))))))))))
 ·intro a h;refine wc h (λh=>?_) (λh=>?_)
  ·exact Au (gn 2 0 (jn h))
  refine Fp h [0,3,4,5,31] [.box 3,.box 4,.box 5,.ext 0] (λa=>(gB xD v1 v2 a.1 a.2.1 a.2.2.1 a.2.2.2)) (λa h=>?_) (λj2 h=>?_)
  ·refine Au (Ai 4 0 (AM 22 h (λh=>?_) (λh=>?_)))
   ·refine Ai 5 0 (AM 27 h (λh=>?_) (λh=>?_))
    ·exact Ai 1 0 (F5 h (UE _ _) (λ_=>rfl) (λv3 gv3 h=>gn 2 0 (jn h)))
    exact gn 4 0 (jn h)
   exact gn 9 0 (jn h)
  refine wc h (λh=>?_) (λh=>?_)
  ·refine DM [8,13] mixed (λ_ _=>nP) (Bn [3,4,5,6] 0 (KW.q 7 (CT E4 xD.Store.Vols) (Dq 0 8 ?_ ?_)))
   ·refine KB.o false (Dq 1 8 ?_ ?_)
    ·refine KB.o false (Dq 2 8 ?_ ?_)
     ·exact KB.o false (Br 8 (fH h (Di _ _) (λ_=>rfl) (λv7 gv7 h=>Br 9 (bd h λx1 gx1 h=>KB.q (Js E4 gx1) (Br 10 (KB.q (DH E4 gx1 0 0) (Br 11 (KB.q (CK E4 gx1 0) (Bn [12,13] 0 (Bg (jn h)))))))))))
     exact fH h (Di _ _) (λ_=>rfl) (λv8 gv8 h=>Bn [2] 0 (Br 9 (bd h λx2 gx2 h=>KB.q (Js E4 gx2) (Br 10 (KB.q (DH E4 gx2 0 0) (Br 11 (KB.q (CK E4 gx2 0) (Bn [12,13] 0 (Bg (jn h))))))))))
    exact fH h (Di _ _) (λ_=>rfl) (λv9 gv9 h=>Bn [1,2] 0 (Br 9 (bd h λx3 gx3 h=>KB.q (Js E4 gx3) (Br 10 (KB.q (DH E4 gx3 0 0) (Br 11 (KB.q (CK E4 gx3 0) (Bn [12,13] 0 (Bg (jn h))))))))))
   exact fH h (Di _ _) (λ_=>rfl) (λv10 gv10 h=>Bn [0,1,2] 0 (Br 9 (bd h λx4 gx4 h=>KB.q (Js E4 gx4) (Br 10 (KB.q (DH E4 gx4 0 0) (Br 11 (KB.q (CK E4 gx4 0) (Bn [12,13] 0 (Bg (jn h))))))))))
  exact Wp.skip (jn h)
 intro j1 h E hE;refine AY hE (Wp.seq (Fp h [0,3,4,5,52] [.box 3,.box 4,.box 5,.ext 0] (λa=>(gA xD j1 a.1 a.2.1 a.2.2.1 a.2.2.2)) (λa h=>?_) (λj3 h=>?_)))
 ·refine Au (Ai 4 0 (AM 48 h (λh=>?_) (λh=>?_)))
  ·exact Ai 1 0 (F5 h (UE _ _) (λ_=>rfl) (λv11 gv11 h=>gn 2 0 (jn h)))
  exact gn 4 0 (jn h)
 refine Hc h [0,3,4,5] [.box 3,.box 4,.box 5,.ext 0] (λa=>(f9 xD j1 j3 a)) ?_ ?_
 ·intro a h;refine wc h (λh=>?_) (λh=>?_)
  ·exact Au (gn 2 0 (jn h))
  exact Wp.skip (jn h)
 intro j4 h E hE;refine AY hE (Wp.seq (ws (gn 2 0 (Wp.block (ws (gn 2 0 (Hc h [4,5] [.box 4,.box 5,.ext 0] (λa=>(f8 j1 j4 a.1 a.2.1 a.2.2.1 a.2.2.2.1 a.2.2.2.2.1 a.2.2.2.2.2)) ?_ ?_)))))))
 ·intro a h;refine wc h (λh=>?_) (λh=>?_)
  ·exact ws (Ai 1 0 (F5 h (oH _) (λ_=>rfl) (λv12 gv12 h=>gn 2 0 (Au (Ai 1 0 (F5 h (Di _ _) (λ_=>rfl) (λv13 gv13 h=>gn 2 0 (jn h))))))))
  refine Wp.seq (ws (gn 2 0 (Hc h [0,3,4,5,55,64] [.box 3,.box 4,.box 5,.ext 0] (λa=>(f7 xD j1 j3 j4 a)) ?_ ?_)))
  ·intro a h;refine wc h (λh=>?_) (λh=>?_)
   ·exact Wp.skip (jn h)
   exact Au (gn 2 0 (jn h))
  intro j6 h E hE;refine AY hE (wc h (λh=>?_) (λh=>?_))
  ·exact Au (Ai 1 0 (F5 h (Di _ _) (λ_=>rfl) (λv14 gv14 h=>gn 2 0 (jn h))))
  refine ws (gn 2 0 (wc h (λh=>?_) (λh=>?_)))
  ·refine ws (Ai 1 0 (F5 h (Di _ _) (λ_=>rfl) (λv15 gv15 h=>gw 3 0 (Ai 3 0 (RW.q (CT E4 xD.Store.Vols) (gn 1 0 (wc h (λh=>?_) (λh=>?_))))))))
   ·exact Au (Ai 3 0 (CG E4 h (λx5 gx5 h=>RW.q (DH E4 gx5 0 0) (RW.q (CK E4 gx5 0) (gn 2 0 (jn h))))))
   exact Wp.skip (jn h)
  exact Wp.skip (jn h)
 intro j5 h E hE;exact AY hE (ws (gn 2 0 (Wp.ret (rr h▸rx))))
theorem U6 (xD:AE) (r:AE) (h:NS xD=some r):AP Tryz.prog 97 [.sv (.agg (Sl false xD))] (.agg (Sl true r)) (rg 1):=by
 exact gk Tryz.func97 rfl Tryz.ntmps97 (ws (gw 2 0 (Ai 2 0 (RW.c 0 h (Jd _) (λv1 gv1 h=>gw 2 0 (Ai 2 0 (RW.c 0 h (FX _) (λv2 gv2 h=>gw 2 0 (gn 2 0 (Wp.ret (rr h▸rq)))))))))))
def vI (xA:Arena) (b:Int) (a:Int) (z1:Bool):St:=AA [(1,(I b)),(2,(I a)),(3,(pb 3)),(20,(B z1))] [(.box 3,[BP xA.Knots])]
theorem dJ (xA:Arena) (d:Int) (b:Int) (r:Int) (h:OJ xA d b=some r):AP Tryz.prog 82 [.sv (.agg (Ze false xA)),.sv (I d),.sv (I b)] (I r) (rg 3):=by
 refine gk Tryz.func82 rfl Tryz.ntmps82 (ws (gn 2 0 (Wp.seq (Fp h [1,2,3,20] [.box 3] (λa=>(vI xA d b a)) (λa h=>?_) (λj1 h=>?_)))))
 ·refine Au (Ai 1 0 (RW.c 0 h (Nq _) (λv1 gv1 h=>Ai 2 0 (AM 10 h (λh=>?_) (λh=>?_)))))
  ·exact gn 10 0 (jn h)
  refine Ai 2 0 (RW.c 0 h (Ld _ _) (λv2 gv2 h=>Ai 3 0 (AM 16 h (λh=>?_) (λh=>?_))))
  ·exact gn 4 0 (jn h)
  exact Ai 1 0 (RW.c 0 h (BU _ _ _) (λv3 gv3 h=>gn 2 0 (jn h)))
 refine wc h (λh=>?_) (λh=>?_)
 ·exact ws (gn 1 0 (Wp.ret (rr h▸rq)))
 exact Wp.skip (ws (Ai 3 0 (RW.c 0 h (Xq _ _ _) (λv4 gv4 h=>gn 1 0 (Wp.ret (rr h▸rq))))))
def vR (xA:Arena) (a:Int) (z1:List Int) (z2:Int):St:=AA [(1,(I a)),(2,(pb 2)),(5,(.one (EO z1))),(6,(I z2))] [(.box 2,[BP xA.Knots])]
def vQ (z3:List Int):St:=AA [(5,(.one (EO z3)))] []
theorem QI (xA:Arena) (a:Int) (r:List Int) (h:IN xA a=some r):AP Tryz.prog 42 [.sv (.agg (Ze false xA)),.sv (I a)] (.one (EO r)) (rg 2):=by
 refine gk Tryz.func42 rfl Tryz.ntmps42 (ws (gw 2 0 (gn 2 2 (Wp.seq (ws (gn 1 0 (BM h [1,2,5,6] [.box 2] (λs=>(vR xA a s.1 s.2)) [5] [] (λs=>(vQ s)) Eu ?_ ?_)))))))
 ·rintro⟨b,d⟩ o (h:GS xA a b d=some o);refine Wp.seq (ws (gn 2 0 (wc h (λh=>?_) (λh=>?_))))
  ·exact Wp.skip (Wp.seq (Wp.block (Au (Ai 4 0 (RW.c 0 h (dJ _ _ _) (λv1 gv1 h=>Ai 1 0 (bd h λq1 gq1 h=>CM (Dm k3 (λ_=>rfl) b gq1) (gn 1 1 (Au (gn 3 0 (jl h)))))))))))
  exact Wp.exit (jv h)
 intro v2 h E hE;exact AY hE (ws (gn 2 2 (Wp.ret (rr h▸rq))))
def TE (xA:List Int) (xB:List Int) (z1:Int):St:=AA [(0,(.one (QP xA))),(1,(.one (QP xB))),(5,(I z1))] []
def TD:St:=AA [] []
theorem Vv (xA:List Int) (xB:List Int) (r:Bool) (h:KO xA xB=some r):AP Tryz.prog 41 [.sv (.one (QP xA)),.sv (.one (QP xB))] (B r) (rg 2):=by
 refine gk Tryz.func41 rfl Tryz.ntmps41 (ws (gn 1 0 (Wp.seq (ws (Ai 1 0 (RW.q (CT k3 xA) (Ai 1 0 (RW.q (CT k3 xB) (gn 1 0 (wc h (λh=>?_) (λh=>?_)))))))))))
 ·exact ws (gn 1 0 (Wp.ret (rr h▸rq)))
 refine Wp.skip (Wp.seq (ws (gn 1 0 (Er h [0,1,5] [] (λs=>(TE xA xB s)) [] [] (λ_=>TD) Eu ?_ ?_))))
 ·rintro a o (h:Gw xA xB a=some o) hk1;refine Wp.seq (ws (Ai 2 0 (RW.q (CT k3 xA) (gn 1 0 (wc h (λh=>?_) (λh=>?_))))))
  ·refine Wp.skip (Wp.seq (Wp.block (Wp.seq (Lw mixed (DI 2 (bd h λx1 gx1 h=>SW.q (Js k3 gx1) (SW.q (CK k3 gx1 0) (DI 2 (bd h λx2 gx2 h=>SW.q (Js k3 gx2) (SW.q (CK k3 gx2 0) (DI 1 (SW.nil (wc h (λh=>?_) (λh=>?_))))))))))))))
   ·exact ws (gn 1 0 (Wp.ret (rr (jo h hk1)▸rq)))
   exact Wp.skip (Au (gn 3 0 (jl h)))
  exact Wp.exit (jx h)
 intro v1 h E hE;exact AY hE (ws (gn 1 0 (Wp.ret (rr h▸rq))))
def X6 (xA:Store) (xB:Store) (z1:Bool):St:=AA [(2,(pb 2)),(3,(pb 3)),(19,(B z1))] [(.box 2,[DN xA.Vols,BP xA.Arena.Knots,i6 xA.Next]),(.box 3,[DN xB.Vols,BP xB.Arena.Knots,i6 xB.Next])]
def X5 (xA:Store) (xB:Store) (z2:Int):St:=AA [(2,(pb 2)),(3,(pb 3)),(5,(I z2))] [(.box 2,[DN xA.Vols,BP xA.Arena.Knots,i6 xA.Next]),(.box 3,[DN xB.Vols,BP xB.Arena.Knots,i6 xB.Next])]
def X4:St:=AA [] []
theorem Rx (xA:Store) (xB:Store) (r:Bool) (h:Le xA xB=some r):AP Tryz.prog 14 [.sv (.agg (Sm false xA)),.sv (.agg (Sm false xB))] (B r) (rg 2):=by
 refine gk Tryz.func14 rfl Tryz.ntmps14 (ws (gn 3 0 (Wp.seq (Fp h [2,3,19] [.box 2,.box 3] (λa=>(X6 xA xB a)) (λa h=>?_) (λj1 h=>?_)))))
 ·refine Au (Ai 2 0 (RW.q (CT E4 xA.Vols) (Ai 2 0 (RW.q (CT E4 xB.Vols) (Ai 2 0 (AM 13 h (λh=>?_) (λh=>?_)))))))
  ·exact gn 6 0 (jn h)
  exact gn 6 0 (jn h)
 refine wc h (λh=>?_) (λh=>?_)
 ·exact ws (gn 1 0 (Wp.ret (rr h▸rq)))
 refine Wp.skip (Wp.seq (ws (gn 1 0 (Er h [2,3,5] [.box 2,.box 3] (λs=>(X5 xA xB s)) [] [] (λ_=>X4) Eu ?_ ?_))))
 ·rintro b o (h:HI xA xB b=some o) hk1;refine Wp.seq (ws (Ai 3 0 (RW.q (CT E4 xA.Vols) (gn 1 0 (wc h (λh=>?_) (λh=>?_))))))
  ·refine Wp.skip (Wp.seq (Wp.block (Wp.seq (DM [] mixed (λ_ _=>nP) (Bn [0,1,2] 0 (bd h λx1 gx1 h=>KW.q 3 (Js E4 gx1) (KW.q 4 (DH E4 gx1 0 0) (KW.q 5 (CK E4 gx1 0) (Bn [6,7,8] 0 (bd h λx2 gx2 h=>KW.q 9 (Js E4 gx2) (KW.q 10 (DH E4 gx2 0 0) (KW.q 11 (CK E4 gx2 0) (Bn [12,13] 0 (Vo 40 h (λh=>?_) (λh=>?_)))))))))))))))
   ·exact Bn [14,15,16,17,18,19,20,21,23,24,25,26,27,28,29,30,22,31,32,33,34] 0 (Bg (wt (ws (gn 1 0 (Wp.ret (rr (jo h hk1)▸rq))))))
   refine Bn [14,15,16,17,18] 0 (bd h λx3 gx3 h=>KW.q 19 (Js E4 gx3) (KW.q 20 (DH E4 gx3 0 1) (KW.q 21 (CK E4 gx3 1) (Bn [23,24,25,26,27] 0 (bd h λx4 gx4 h=>KW.q 28 (Js E4 gx4) (KW.q 29 (DH E4 gx4 0 1) (KW.q 30 (CK E4 gx4 1) (Br 22 (KB.c 0 h (QI _ _) (λv1 gv1 h=>Br 31 (KB.c 0 h (QI _ _) (λv2 gv2 h=>Br 32 (KB.c 0 h (gs (ca (co (cs (tV _))) (ca (co (cs (tV _))) rfl)) (Vv _ _)) (λv3 gv3 h=>Bn [33,34] 0 (Bg (wc h (λh=>?_) (λh=>?_)))) (hc:=(.inr (λv=>rfl))))))))))))))))
   ·exact ws (gn 1 0 (Wp.ret (rr (jo h hk1)▸rq)))
   exact Wp.skip (Au (gn 3 0 (jl h)))
  exact Wp.exit (jx h)
 intro v4 h E hE;exact AY hE (ws (gn 1 0 (Wp.ret (rr h▸rq))))
theorem jN (xD:AE) (r:Bool) (h:ON xD=some r):AP Tryz.prog 98 [.sv (.agg (Sl false xD))] (B r) (rg 1):=by
 refine gk Tryz.func98 rfl Tryz.ntmps98 (ws (gw 2 0 (Ai 2 0 (RW.c 0 h (OH _) (λv1 gv1 h=>gw 6 1 (Ai 2 0 (AM 12 h (λh=>?_) (λh=>?_))))))))
 ·refine Ai 4 0 (RW.c 0 h (gs (ca (cC (ca (cs (Fq _)) (ca (cs (Dn _)) rfl))) rfl) (Rx _ _)) (λv2 gv2 h=>Ai 2 0 (AM 19 h (λh=>?_) (λh=>?_))) (hc:=(.inr (λv=>rfl))))
  ·refine Ai 7 0 (AM 26 h (λh=>?_) (λh=>?_))
   ·refine Ai 7 0 (AM 33 h (λh=>?_) (λh=>?_))
    ·refine Ai 7 0 (AM 40 h (λh=>?_) (λh=>?_))
     ·exact Ai 2 0 (RW.c 0 h (UF _) (λv3 gv3 h=>gn 2 0 (Wp.ret (rr h▸rq))))
     exact gn 5 0 (Wp.ret (rr h▸rq))
    exact gn 12 0 (Wp.ret (rr h▸rq))
   exact gn 19 0 (Wp.ret (rr h▸rq))
  exact gn 26 0 (Wp.ret (rr h▸rq))
 exact gn 33 0 (Wp.ret (rr h▸rq))
def vP (xQ:Vp) (z1:Bool):St:=AA [(1,(pb 1)),(28,(B z1))] [(.box 1,[i6 xQ.Kind,i6 xQ.Vol,i6 xQ.Sector,i6 xQ.Of,ts xQ.Text])]
def vO (z2:Bool):St:=AA [(2,(B z2))] []
def vN (xQ:Vp) (z3:Bool):St:=AA [(1,(pb 1)),(50,(B z3))] [(.box 1,[i6 xQ.Kind,i6 xQ.Vol,i6 xQ.Sector,i6 xQ.Of,ts xQ.Text])]
theorem AAD (xQ:Vp) (r:Bool) (h:Wn xQ=some r):AP Tryz.prog 166 [.sv (.agg (AEk xQ))] (B r) (rg 1):=by
 refine gk Tryz.func166 rfl Tryz.ntmps166 (ws (gn 2 0 (Wp.seq (Fp h [1,28] [.box 1] (λa=>(vP xQ a)) (λa h=>?_) (λj1 h=>?_)))))
 ·refine Au (Ai 2 0 (RW.c 0 h (BU _ _ _) (λv1 gv1 h=>Ai 2 0 (AM 7 h (λh=>?_) (λh=>?_)))))
  ·exact gn 21 0 (jn h)
  refine Ai 2 0 (RW.c 0 h (BU _ _ _) (λv2 gv2 h=>Ai 3 0 (AM 13 h (λh=>?_) (λh=>?_))))
  ·exact gn 15 0 (jn h)
  refine Ai 6 0 (AM 19 h (λh=>?_) (λh=>?_))
  ·exact gn 9 0 (jn h)
  refine Ai 4 0 (AM 23 h (λh=>?_) (λh=>?_))
  ·exact gn 5 0 (jn h)
  exact gn 5 0 (jn h)
 refine wc h (λh=>?_) (λh=>?_)
 ·exact ws (gn 1 0 (Wp.ret (rr h▸rq)))
 refine Wp.skip (Wp.seq (ws (gn 3 0 (wc h (λh=>?_) (λh=>?_)))))
 ·refine Fp h [2] [] (λa=>(vO a)) (λa h=>?_) (λj2 h=>?_)
  ·refine Au (Ai 4 0 (AM 35 h (λh=>?_) (λh=>?_)))
   ·exact Ai 2 0 (RW.c 0 h (BU _ _ _) (λv3 gv3 h=>gn 2 0 (jn h)))
   exact gn 5 0 (jn h)
  exact Wp.ret (rr h▸rq)
 refine Wp.skip (Wp.seq (ws (gn 3 0 (wc h (λh=>?_) (λh=>?_)))))
 ·exact ws (gn 1 0 (Wp.ret (rr h▸rq)))
 refine Wp.skip (Wp.seq (Fp h [1,50] [.box 1] (λa=>(vN xQ a)) (λa h=>?_) (λj3 h=>?_)))
 ·refine Au (Ai 4 0 (AM 46 h (λh=>?_) (λh=>?_)))
  ·exact gn 4 0 (jn h)
  exact gn 4 0 (jn h)
 refine wc h (λh=>?_) (λh=>?_)
 ·exact ws (gn 4 0 (Wp.ret (rr h▸rq)))
 exact Wp.skip (ws (Ai 2 0 (RW.c 0 h (BU _ _ _) (λv4 gv4 h=>gn 1 0 (Wp.ret (rr h▸rq))))))
def Xp (a:List Int) (xX:Int) (z1:List Int) (z2:Int):St:=AA [(0,(.one (QP a))),(1,(I xX)),(5,(.one (EO z1))),(6,(I z2))] []
def Xo (a:List Int) (xX:Int) (z3:List Int):St:=AA [(0,(.one (QP a))),(1,(I xX)),(5,(.one (EO z3)))] []
def Xn (a:List Int) (xX:Int) (z4:List Int):St:=AA [(0,(.one (QP a))),(1,(I xX)),(5,(.one (EO z4)))] []
def Xm (a:List Int) (xX:Int) (z5:List Int) (z6:Int):St:=AA [(0,(.one (QP a))),(1,(I xX)),(5,(.one (EO z5))),(7,(I z6))] []
def Xl (z7:List Int):St:=AA [(5,(.one (EO z7)))] []
theorem ZF (b:List Int) (xX:Int) (r:List Int) (h:Nk b xX=some r):AP Tryz.prog 75 [.sv (.one (QP b)),.sv (I xX)] (.one (EO r)) (rg 2):=by
 refine gk Tryz.func75 rfl Tryz.ntmps75 (ws (gw 1 0 (gn 2 2 (Wp.seq (ws (gn 1 0 (BM h [0,1,5,6] [] (λs=>(Xp b xX s.1 s.2)) [0,1,5] [] (λs=>(Xo b xX s)) Eu ?_ ?_)))))))
 ·rintro⟨c,e⟩ o (h:HE b xX c e=some o);refine Wp.seq (ws (Ai 2 0 (RW.q (CT k3 b) (gn 1 0 (wc h (λh=>?_) (λh=>?_))))))
  ·refine Wp.skip (Wp.seq (Wp.block (ws (Ai 2 0 (CG k3 h (λx1 gx1 h=>RW.q (CK k3 gx1 0) (gn 2 0 (wc h (λh=>?_) (λh=>?_)))))))))
   ·exact Au (Ai 3 0 (CG k3 h (λx2 gx2 h=>RW.q (CK k3 gx2 0) (Ai 1 0 (bd h λq1 gq1 h=>CM (Dm k3 (λ_=>rfl) c gq1) (gn 1 1 (Au (gn 3 0 (jl h)))))))))
   exact Wp.skip (Au (gn 3 0 (jl h)))
  exact Wp.exit (jv h)
 intro v1 h E hE;refine AY hE (Wp.seq (ws (gn 2 0 (Hc h [0,1,5] [] (λa=>(Xn b xX a)) ?_ ?_))))
 ·intro a h;refine wc h (λh=>?_) (λh=>?_)
  ·exact Au (Ai 3 0 (bd h λq2 gq2 h=>CM (Dm k3 (λ_=>rfl) v1 gq2) (gn 1 1 (jn h))))
  exact Wp.skip (jn h)
 intro j1 h E hE;refine AY hE (Wp.seq (ws (gn 1 0 (BM h [0,1,5,7] [] (λs=>(Xm b xX s.1 s.2)) [5] [] (λs=>(Xl s)) Eu ?_ ?_))))
 ·rintro⟨d,f⟩ o (h:Gx b xX d f=some o);refine Wp.seq (ws (Ai 2 0 (RW.q (CT k3 b) (gn 1 0 (wc h (λh=>?_) (λh=>?_))))))
  ·refine Wp.skip (Wp.seq (Wp.block (ws (Ai 2 0 (CG k3 h (λx3 gx3 h=>RW.q (CK k3 gx3 0) (gn 2 0 (wc h (λh=>?_) (λh=>?_)))))))))
   ·exact Au (Ai 3 0 (CG k3 h (λx4 gx4 h=>RW.q (CK k3 gx4 0) (Ai 1 0 (bd h λq3 gq3 h=>CM (Dm k3 (λ_=>rfl) d gq3) (gn 1 1 (Au (gn 3 0 (jl h)))))))))
   exact Wp.skip (Au (gn 3 0 (jl h)))
  exact Wp.exit (jv h)
 intro v2 h E hE;exact AY hE (ws (gn 2 2 (Wp.ret (rr h▸rq))))
def pU (xS:Store) (z1:List Int) (z2:Int):St:=AA [(1,(pb 1)),(3,(.one (EO z1))),(4,(I z2))] [(.box 1,[DN xS.Vols,BP xS.Arena.Knots,i6 xS.Next])]
def pT (z3:List Int):St:=AA [(3,(.one (EO z3)))] []
def pS (xS:Store) (a:Int) (v1:List Int) (z4:List Int) (z5:Int):St:=AA [(1,(pb 1)),(3,(.one (EO z4))),(4,(I a)),(5,(.one (EO v1))),(6,(I z5))] [(.box 1,[DN xS.Vols,BP xS.Arena.Knots,i6 xS.Next])]
def pR (xS:Store) (a:Int) (z6:List Int):St:=AA [(1,(pb 1)),(3,(.one (EO z6))),(4,(I a))] [(.box 1,[DN xS.Vols,BP xS.Arena.Knots,i6 xS.Next])]
theorem OI (xS:Store) (r:List Int) (h:G3 xS=some r):AP Tryz.prog 34 [.sv (.agg (Sm false xS))] (.one (EO r)) (rg 1):=by
 refine gk Tryz.func34 rfl Tryz.ntmps34 (ws (gw 2 0 (gn 2 2 (Wp.seq (ws (gn 1 0 (BM h [1,3,4] [.box 1] (λs=>(pU xS s.1 s.2)) [3] [] (λs=>(pT s)) Eu ?_ ?_)))))))
 ·rintro⟨a,b⟩ o (h:Li xS a b=some o);refine Wp.seq (ws (Ai 3 0 (RW.q (CT E4 xS.Vols) (gn 1 0 (wc h (λh=>?_) (λh=>?_))))))
  ·refine Wp.skip (Wp.seq (Wp.block (Wp.seq (Vh 8 mixed (DI 5 (bd h λx1 gx1 h=>SW.q (Js E4 gx1) (SW.q (DH E4 gx1 0 1) (SW.q (CK E4 gx1 1) (SW.nil (RW.c 0 h (QI _ _) (λv1 gv1 h=>gw 1 1 (gn 1 0 (BM h [1,3,4,5,6] [.box 1] (λs=>(pS xS b v1 s.1 s.2)) [1,3,4] [.box 1] (λs=>(pR xS b s)) Eu ?_ ?_)))))))))))))
   ·rintro⟨d,e⟩ o (h:Lh v1 d e=some o);refine Wp.seq (ws (Ai 2 0 (RW.q (CT k3 v1) (gn 1 0 (wc h (λh=>?_) (λh=>?_))))))
    ·exact Wp.skip (Wp.seq (Wp.block (Au (Ai 3 0 (CG k3 h (λx2 gx2 h=>RW.q (CK k3 gx2 0) (RW.c 0 h (gs (ca (co (cs (tV _))) rfl) (ZF _ _)) (λv2 gv2 h=>gn 1 1 (Au (gn 3 0 (jl h)))) (hc:=(.inr (λv=>by simp [BD,BQ,AR,BC,ns3,EO]))))))))))
    exact Wp.exit (jv h)
   intro v3 h E hE;exact AY hE (Au (gn 3 0 (jl h)))
  exact Wp.exit (jv h)
 intro v4 h E hE;exact AY hE (ws (gn 2 2 (Wp.ret (rr h▸rq))))
def Xa (b:List Al) (a:Int) (z1:Int):St:=AA [(0,(.one (I5 b))),(1,(I a)),(4,(pb 4)),(6,(I z1))] [(.box 4,[i6 0,i6 0,i6 0,i6 0,i6 0,i6 0,i6 0,ts (bs [])])]
def WZ:St:=AA [(4,(pb 4))] [(.box 4,[i6 0,i6 0,i6 0,i6 0,i6 0,i6 0,i6 0,ts (bs [])])]
def WY (b:List Al) (a:Int) (c:Int) (z2:Bool):St:=AA [(0,(.one (I5 b))),(1,(I a)),(4,(pb 4)),(6,(I c)),(30,(B z2))] [(.box 4,[i6 0,i6 0,i6 0,i6 0,i6 0,i6 0,i6 0,ts (bs [])])]
theorem Z7 (c:List Al) (b:Int) (r:Al×Bool) (h:La c b=some r):AP Tryz.prog 164 [.sv (.one (I5 c)),.sv (I b)] (.tup [(.agg (c67 r.1)),(B r.2)]) (rg 2):=by
 refine gk Tryz.func164 rfl Tryz.ntmps164 (ws (gn 2 0 (Wp.seq (ws (Ai 1 0 (RW.q (CT Et c) (gn 2 0 (Er h [0,1,4,6] [.box 4] (λs=>(Xa c b s)) [4] [.box 4] (λ_=>WZ) Eu ?_ ?_))))))))
 ·rintro d o (h:HB c b d=some o) hk1;refine Wp.seq (ws (gn 2 0 (wc h (λh=>?_) (λh=>?_))))
  ·refine Wp.skip (Wp.seq (Wp.block (Fp h [0,1,4,6,30] [.box 4] (λa=>(WY c b d a)) (λa h=>?_) (λj1 h=>?_))))
   ·refine Au (Ai 2 0 (CG Et h (λx1 gx1 h=>RW.q (DH Et gx1 0 2) (RW.q (DH Et gx1 2 2) (RW.q (CK Et gx1 2) (Ai 2 0 (AM 21 h (λh=>?_) (λh=>?_))))))))
    ·exact Ai 2 0 (CG Et h (λx2 gx2 h=>RW.q (DH Et gx2 0 2) (RW.q (DH Et gx2 2 4) (RW.q (CK Et gx2 4) (gn 3 0 (jn h))))))
    exact gn 9 0 (jn h)
   refine wc h (λh=>?_) (λh=>?_)
   ·exact ws (Ai 2 0 (CG Et h (λx3 gx3 h=>RW.q (MW Et gx3 0 8) (gn 2 0 (Wp.ret (rr (jo h hk1)▸rq))))))
   exact Wp.skip (Au (gn 3 0 (jl h)))
  exact Wp.exit (jx h)
 intro v1 h E hE;exact AY hE (ws (gn 3 0 (Wp.ret (rr h▸rq))))
def ACZ (x:Be):List TV:=[i6 x.Back,i6 x.Size,ts x.Text]
theorem MM:∀x,(ACZ x).length=3:=λ_=>rfl
theorem AFW:∀l,BK (AT ACZ l)=AT ACZ l:=DJ (λ_=>rfl)
def Qk (l:List Be):TV:= .sl true 234 3 (AT ACZ l)
def Yh (l:List Be):TV:= .sl false 234 3 (AT ACZ l)
def Xs (xT:ByteArray) (z1:List Be) (z2:Int):St:=AA [(0,(Y xT)),(4,(.one (Qk z1))),(5,(I z2))] []
def Xr (z3:List Be):St:=AA [(4,(.one (Qk z3)))] []
theorem ZG (xT:ByteArray) (r:List Be×Bool) (h:Je xT=some r):AP Tryz.prog 194 [.sv (Y xT)] (.tup [(.one (Qk r.1)),(B r.2)]) (rg 1):=by
 refine gk Tryz.func194 rfl Tryz.ntmps194 (ws (gw 2 0 (gw 2 2 (gn 1 0 (sl2 h [0,4,5] [] (λs=>(Xs xT s.1 s.2)) [4] [] (λs=>(Xr s)) ?_ (λv1 h=>?_))))))
 ·rintro⟨a,b⟩ o (h:Cg xT a b=some o) hk1;refine Wp.seq (ws (gn 4 0 (wc h (λh=>?_) (λh=>?_))))
  ·refine Wp.skip (Wp.block (ws (Ai 2 0 (bd h λx1 gx1 h=>RW.q (psx gx1) (gn 2 0 (Wp.seq (ws (gn 2 0 (wc h (λh=>?_) (λh=>?_))))))))))
   ·refine Wp.seq (ws (gn 5 0 (wc h (λh=>?_) (λh=>?_))))
    ·exact ws (gn 3 2 (Wp.ret (rr (jo h hk1)▸rq)))
    exact Wp.skip (ws (Ai 4 0 (bd h λx2 gx2 h=>RW.q (psx gx2) (Ai 5 0 (bd h λq1 gq1 h=>CM (Dm MM (λ_=>rfl) a gq1) (gw 1 1 (gn 3 0 (Wp.exit (jl h)))))))))
   refine Wp.skip (Wp.seq (ws (gn 7 0 (wc h (λh=>?_) (λh=>?_)))))
   ·exact ws (gn 3 2 (Wp.ret (rr (jo h hk1)▸rq)))
   exact Wp.skip (ws (Ai 8 0 (bd h λx3 gx3 h=>RW.q (VQ gx3) (Ai 2 0 (bd h λq2 gq2 h=>CM (Dm MM (λ_=>rfl) a gq2) (gn 1 1 (Au (gn 5 0 (jl h)))))))))
  exact Wp.exit (jx h)
 exact ws (gn 3 2 (Wp.ret (rr h▸rq)))
def iZ (a:List Be) (z1:List Int) (z2:Int):St:=AA [(0,(.one (Yh a))),(4,(.one (ot5 z1))),(5,(I z2))] []
def iY (z3:List Int):St:=AA [(4,(.one (ot5 z3)))] []
def iX (a:List Be) (b:Int) (z4:List Int):St:=AA [(0,(.one (Yh a))),(4,(.one (ot5 z4))),(5,(I b))] []
def iW (a:List Be) (b:List Int) (c:Int) (x1:Be) (z5:Bool):St:=AA [(0,(.one (Yh a))),(4,(.one (ot5 b))),(5,(I c)),(6,(pb 6)),(32,(B z5))] [(.box 6,[i6 x1.Back,i6 x1.Size,ts x1.Text])]
def iV (a:List Be) (b:List Int) (c:Int) (x1:Be) (z6:Bool):St:=AA [(0,(.one (Yh a))),(4,(.one (ot5 b))),(5,(I c)),(6,(pb 6)),(54,(B z6))] [(.box 6,[i6 x1.Back,i6 x1.Size,ts x1.Text])]
def iU (a:List Be) (b:Int) (x1:Be) (z7:List Int) (z8:Int):St:=AA [(0,(.one (Yh a))),(4,(.one (ot5 z7))),(5,(I b)),(6,(pb 6)),(7,(I z8))] [(.box 6,[i6 x1.Back,i6 x1.Size,ts x1.Text])]
def iT (a:List Be) (b:Int) (z9:List Int):St:=AA [(0,(.one (Yh a))),(4,(.one (ot5 z9))),(5,(I b))] []
theorem pN (d:List Be) (r:ByteArray×Bool) (h:FQ d=some r):AP Tryz.prog 195 [.sv (.one (Yh d))] (.tup [(Y r.1),(B r.2)]) (rg 1):=by
 refine gk Tryz.func195 rfl Tryz.ntmps195 (ws (gw 2 0 (gn 2 2 (Wp.seq (ws (gn 1 0 (Er h [0,4,5] [] (λs=>(iZ d s.1 s.2)) [4] [] (λs=>(iY s)) Eu ?_ ?_)))))))
 ·rintro⟨e,i⟩ o (h:DW d e i=some o) hk1;refine Wp.seq (ws (Ai 2 0 (RW.q (CT MM d) (gn 1 0 (wc h (λh=>?_) (λh=>?_))))))
  ·refine Wp.skip (Wp.seq (Wp.block (ws (Ai 2 0 (CG MM h (λx1 gx1 h=>RW.q (MW MM gx1 0 3) (gn 2 0 (Wp.seq (ws (gn 3 0 (AAp h [0,4,5] [] (λa=>(iX d i a)) ?_ ?_)))))))))))
   ·intro a h j;refine wc h (λh=>?_) (λh=>?_)
    ·refine Wp.seq (Fp h [0,4,5,6,32] [.box 6] (λa=>(iW d e i x1 a)) (λa h=>?_) (λj2 h=>?_))
     ·refine Au (Ai 3 0 (RW.c 0 h (BU _ _ _) (λv1 gv1 h=>Ai 2 0 (AM 28 h (λh=>?_) (λh=>?_)))))
      ·exact gn 4 0 (jn h)
      exact gn 4 0 (jn h)
     refine wc h (λh=>?_) (λh=>?_)
     ·exact ws (gn 2 0 (Wp.ret (rr (jo (jr h j) hk1)▸rq)))
     exact Wp.skip (Au (Ai 3 0 (CM (fsb (f:=c5) (b:=x1.Text) (λ_=>rfl) (by kernel_rfl)) (bd h λq1 gq1 h=>CM (Dm k5 (λ_=>rfl) e gq1) (gn 1 1 (jm h))))))
    refine Wp.seq (Fp h [0,4,5,6,54] [.box 6] (λa=>(iV d e i x1 a)) (λa h=>?_) (λj3 h=>?_))
    ·refine Au (Ai 3 0 (RW.q (CT k5 e) (RW.c 0 h (BU _ _ _) (λv2 gv2 h=>Ai 2 0 (AM 44 h (λh=>?_) (λh=>?_))))))
     ·exact gn 10 0 (jn h)
     refine Ai 2 0 (RW.c 0 h (BU _ _ _) (λv3 gv3 h=>Ai 3 0 (AM 50 h (λh=>?_) (λh=>?_))))
     ·exact gn 4 0 (jn h)
     exact gn 4 0 (jn h)
    refine wc h (λh=>?_) (λh=>?_)
    ·exact ws (gn 2 0 (Wp.ret (rr (jo (jr h j) hk1)▸rq)))
    refine Wp.skip (ws (gn 1 0 (BM h [0,4,5,6,7] [.box 6] (λs=>(iU d i x1 s.1 s.2)) [0,4,5] [] (λs=>(iT d i s)) Eu ?_ ?_)))
    ·rintro⟨g,k⟩ o (h:DV x1 g k=some o);refine Wp.seq (ws (gn 4 0 (wc h (λh=>?_) (λh=>?_))))
     ·exact Wp.skip (Wp.seq (Wp.block (ws (Ai 2 0 (RW.q (CT k5 g) (Ai 3 0 (CG k5 h (λx2 gx2 h=>RW.q (CK k5 gx2 0) (gn 1 0 (Au (Ai 3 0 (bd h λq2 gq2 h=>CM (Dm k5 (λ_=>rfl) g gq2) (gn 1 1 (Au (gn 3 0 (jl h))))))))))))))))
     exact Wp.exit (jv h)
    intro v4 h E hE;cases h;exact⟨_,rfl,hE⟩
   intro j1 h E hE;refine AY hE (ws (Ai 1 0 (RW.q (CT k5 j1) (gn 1 0 (wc h (λh=>?_) (λh=>?_))))))
   ·exact ws (gn 2 0 (Wp.ret (rr (jo h hk1)▸rq)))
   exact Wp.skip (Au (gn 3 0 (jl h)))
  exact Wp.exit (jx h)
 intro v5 h E hE;exact AY hE (ws (Ai 1 0 (RW.q (tW (f:=c5) (λ_=>rfl) v5) (gn 2 0 (Wp.ret (rr h▸rq))))))
def ZJ (xS:ByteArray) (a:Int) (b:Int) (z1:Int):St:=AA [(0,(Y xS)),(1,(I a)),(2,(I b)),(7,(I z1))] []
def ZI (z2:Int):St:=AA [(7,(I z2))] []
def ZH (xS:ByteArray) (a:Int) (b:Int) (c:Int) (z3:Bool):St:=AA [(0,(Y xS)),(1,(I a)),(2,(I b)),(7,(I c)),(30,(B z3))] []
theorem gK (xS:ByteArray) (b:Int) (c:Int) (r:Int) (h:M9 xS b c=some r):AP Tryz.prog 204 [.sv (Y xS),.sv (I b),.sv (I c)] (I r) (rg 3):=by
 refine gk Tryz.func204 rfl Tryz.ntmps204 (ws (gw 1 0 (gn 1 0 (sl1 h [0,1,2,7] [] (λs=>(ZJ xS b c s)) [7] [] (λs=>(ZI s)) ?_ (λv1 h=>?_)))))
 ·rintro d o (h:Hh xS b c d=some o);refine Wp.seq (Fp h [0,1,2,7,30] [] (λa=>(ZH xS b c d a)) (λa h=>?_) (λj1 h=>?_))
  ·refine Lw mixed (DI 3 (fB 10 h (λh=>?_) (λh=>?_)))
   ·refine DI 8 (fB 18 h (λh=>?_) (λh=>?_))
    ·exact DI 4 (bd h λx1 gx1 h=>SW.q (psx gx1) (DI 4 (bd h λx2 gx2 h=>SW.q (psx gx2) (DI 2 (SW.nil (jn h))))))
    exact DI 12 (SW.nil (jn h))
   exact DI 20 (SW.nil (jn h))
  refine wc h (λh=>?_) (λh=>?_)
  ·exact Wp.skip (Wp.block (Au (gn 3 0 (jl h))))
  exact Wp.exit (jv h)
 exact ws (gn 2 0 (Wp.ret (rr h▸rq)))
end Go.TI
