/- That they compute it. No condition. -/
import Derived.Test.YtiemmklnnjembaaGreatCHS0
import Derived.Test.YtiemmklnnjembaaGreatProg
import Derived.Shelf.Abstract
import Derived.KernelRfl
namespace Go.TI
open Go Go.Proofs
set_option maxRecDepth 100000
theorem mixed:Tryz.prog.follows .mixedOrders=true:=rfl
theorem AEb:sJ Tryz.prog 83 3:=vS Tryz.lays191 3
def c5 (x:Int):List TV:=[.int .u8 x]
theorem k5:∀x,(c5 x).length=1:=fun _=>rfl
def fD (l:List Int):TV:= .sl true 5 1 (AN c5 l)
def PX (l:List Int):TV:= .sl false 5 1 (AN c5 l)
theorem AAZ (a:List Int) (r:Bool) (h:Vn a=some r):AW Tryz.prog 7 [.sv (.one (PX a))] (B r) (rg 1):=by
 unfold Vn at h;exact gk Tryz.func7 rfl Tryz.ntmps7 (ws (gw 1 0 (Ai 1 0 (RW.q (Dr k5 a) (gn 2 0 (Wp.ret (rr h▸rq)))))))
def jV (a:List Int) (z1:Int) (z2:Int):St:=A9 [(0,(.one (PX a))),(3,(I z1)),(4,(I z2))] []
def jU (a:List Int) (z3:Int):St:=A9 [(0,(.one (PX a))),(3,(I z3))] []
def jT (a:List Int) (b:Int) (c:Int) (z4:Bool):St:=A9 [(0,(.one (PX a))),(3,(I b)),(4,(I c)),(15,(B z4))] []
theorem pB (b:List Int) (r:BC) (h:R2 b=some r):iK Tryz.prog 29 [.sv (.one (PX b))] [PX r.b_,i6 r.i_,i6 r.h_]:=by
 refine gkp Tryz.func29 rfl Tryz.ntmps29 (ws (AEi (pjk) (RW.nil (ws (Ai 1 0 (RW.q (Dr k5 b) (gn 2 0 (Wp.seq (ws (gn 1 0 (BM h [0,3,4] [] (fun s=>(jV b s.1 s.2)) [0,3] [] (fun s=>(jU b s)) EC ?_ ?_)))))))))))
 ·rintro⟨c,d⟩ o (h:I7 b c d=some o);refine Wp.seq (FD h [0,3,4,15] [] (fun a=>(jT b c d a)) (fun a h=>?_) (fun j1 h=>?_))
  ·refine Au (Ai 2 0 (RW.q (Dr k5 b) (Ai 2 0 (AO 12 h (fun h=>?_) (fun h=>?_)))))
   ·exact gn 3 0 (jn h)
   exact gn 3 0 (jn h)
  refine wc h (fun h=>?_) (fun h=>?_)
  ·exact Wp.skip (Wp.seq (Wp.block (Au (Ai 4 0 (CS k5 h (fun x1 gx1 h=>RW.q (CA k5 gx1 0) (gn 5 0 (Au (gn 3 0 (jl h))))))))))
  exact Wp.exit (jv h)
 intro v1 h E hE;refine AY hE (ws (gn 5 0 ?_));cases h;exact Wp.ret ⟨.inr rfl,rsp 2 rfl (by kernel_rfl)⟩
set_option maxHeartbeats 4000000 in
theorem K0 (xC:BC) (r:Int×BC) (h:I8 xC=some r):AW Tryz.prog 36 [.ext [PX xC.b_,i6 xC.i_,i6 xC.h_]] (I r.1) (.ext [PX r.2.b_,i6 r.2.i_,i6 r.2.h_]::rg 0):=by
 refine gkx Tryz.func36 rfl Tryz.ntmps36 (ws (gw 1 0 (gn 10 0 (Wp.seq (KF mixed (Dn 13 (SW.nil (Wp.seq (Wp.seq (KF mixed (Dn 8 (SW.q (Dr k5 xC.b_) (Dn 1 (SW.nil (wc h (fun h=>?_) (fun h=>?_))))))))))))))))
 ·exact Wp.seq (KF mixed (Dn 9 (bd h fun x1 gx1 h=>SW.q (IR k5 gx1) (SW.q (CA k5 gx1 0) (Dn 4 (SW.nil (Au (gw 9 0 (gn 2 0 (Wp.ret (rr h▸rx)))))))))))
 exact Wp.skip (ws (gn 2 0 (Wp.ret (rr h▸rx))))
set_option maxHeartbeats 4000000 in
theorem Dd (xC:BC) (xN:Int) (r:Int×BC) (h:D0 xC xN=some r):AW Tryz.prog 37 [.ext [PX xC.b_,i6 xC.i_,i6 xC.h_],.sv (I xN)] (I r.1) (.ext [PX r.2.b_,i6 r.2.i_,i6 r.2.h_]::rg 1):=by
 refine gkx Tryz.func37 rfl Tryz.ntmps37 (ws (gn 1 0 (Wp.seq (ws (gn 2 0 (wc h (fun h=>?_) (fun h=>?_)))))))
 ·exact ws (gn 1 0 (Wp.ret (rr h▸rx)))
 refine Wp.skip (Wp.seq (ws (gn 2 0 (wc h (fun h=>?_) (fun h=>?_)))))
 ·exact ws (Ai 1 0 (Gp h (K0 _) (fun _=>rfl) (fun v1 gv1 h=>Ai 1 0 (bd h fun x1 gx1 h=>RW.q (prm gx1) (gn 1 0 (Wp.ret (rr h▸rx)))))))
 exact Wp.skip (ws (Ai 1 0 (Gp h (K0 _) (fun _=>rfl) (fun v2 gv2 h=>gw 1 0 (Ai 1 0 (Gp h (K0 _) (fun _=>rfl) (fun v3 gv3 h=>gw 1 0 (Ai 1 0 (Gp h (K0 _) (fun _=>rfl) (fun v4 gv4 h=>gw 1 0 (Ai 1 0 (Gp h (K0 _) (fun _=>rfl) (fun v5 gv5 h=>gw 1 0 (Ai 11 0 (bd h fun x2 gx2 h=>RW.q (prm gx2) (gn 1 0 (Wp.ret (rr h▸rx))))))))))))))))))
theorem BL (xX:Int) (a:Int) (b:Int) (r:Bool) (h:BR xX a b=some r):AW Tryz.prog 46 [.sv (I xX),.sv (I a),.sv (I b)] (B r) (rg 3):=by
 refine gk Tryz.func46 rfl Tryz.ntmps46 (ws (gw 1 0 (Ai 4 0 (AO 10 h (fun h=>?_) (fun h=>?_)))))
 ·exact gn 5 0 (Wp.ret (rr h▸rq))
 exact gn 5 0 (Wp.ret (rr h▸rq))
def c90 (x:Leaf):List TV:=[i6 x.Is,ts x.Text]
theorem Mt:∀x,(c90 x).length=2:=fun _=>rfl
theorem ADV:∀l,BG (AN c90 l)=AN c90 l:=D1 (fun _=>rfl)
theorem AD9:∀l,AT (AN c90 l)=false:=Kq (fun _=>rfl)
def AD8 (l:List Leaf):TV:= .sl true 90 2 (AN c90 l)
def YR (l:List Leaf):TV:= .sl false 90 2 (AN c90 l)
def wX (o:Bool) (x:Block):List TV:=[tb x.Bad,i6 x.Wear,.sl o 90 2 (AN c90 x.Leaves)]
theorem EV (o:Bool):∀x,(wX o x).length=3:=fun _=>rfl
theorem Fd:∀l,BG (AN (wX true) l)=AN (wX false) l:=D1 (fun x=>by simp only [wX,BG,KX,ADV])
theorem vG:∀l,AT (AN (wX true) l)=false:=Kq (fun x=>by simp [wX,AT,BB,AD9])
def CP (l:List Block):TV:= .sl true 77 3 (AN (wX true) l)
def CQ (l:List Block):TV:= .sl false 77 3 (AN (wX false) l)
def Sp (o:Bool) (x:Flash):List TV:=[.sl o 77 3 (AN (wX o) x.Blocks)]
def YD (xN:Int) (z1:Int) (z2:List Block):St:=A9 [(0,(I xN)),(2,(pb 2)),(4,(pb 4)),(5,(I z1))] [(.box 2,[CP []]),(.box 4,[CP z2])]
def YC (z3:List Block):St:=A9 [(2,(pb 2)),(4,(pb 4))] [(.box 2,[CP []]),(.box 4,[CP z3])]
theorem eC (xN:Int) (r:Flash×Bool) (h:NX xN=some r):AW Tryz.prog 93 [.sv (I xN)] (.tup [(.agg (Sp true r.1)),(B r.2)]) (rg 1):=by
 refine gk Tryz.func93 rfl Tryz.ntmps93 (ws (gn 2 0 (Wp.seq (ws (Ai 1 0 (RW.c 0 h (BL _ _ _) (fun v1 gv1 h=>gn 1 0 (wc h (fun h=>?_) (fun h=>?_)))))))))
 ·exact ws (gn 3 0 (Wp.ret (rr h▸rq)))
 refine Wp.skip (ws (gn 3 0 (Wp.seq (ws (gn 1 0 (BM h [0,2,4,5] [.box 2,.box 4] (fun s=>(YD xN s.1 s.2)) [2,4] [.box 2,.box 4] (fun s=>(YC s)) EC ?_ ?_))))))
 ·rintro⟨b,a⟩ o (h:HU xN b a=some o);refine Wp.seq (ws (gn 3 0 (wc h (fun h=>?_) (fun h=>?_))))
  ·exact Wp.skip (Wp.seq (Wp.block (DZ [5,7] mixed (fun c E h=>by rcases h with⟨h|h,_⟩<;>cases h) (Bl [0,1] 0 (B8 2 (bd h fun q1 gq1 h=>Ms (fmk Mt (Leaf.mk 0 (bs [])) gq1) (Bl [3,4] 0 (B8 5 (bd h fun q2 gq2 h=>Ms (rM (EV true) a [(Block.mk false 0 q1)] gq2) (Bl [6,7] 0 (Bk (Au (gn 3 0 (jl h))))))))))))))
  exact Wp.exit (jv h)
 intro v2 h E hE;exact AY hE (ws (gn 3 0 (Wp.ret (rr h▸rq))))
theorem jO (xX:Leaf) (r:Bool) (h:PL xX=some r):AW Tryz.prog 148 [.sv (.agg (c90 xX))] (B r) (rg 1):=by
 refine gk Tryz.func148 rfl Tryz.ntmps148 (ws (gn 2 0 (Wp.seq (ws (gn 2 0 (Wp.block (ws (gn 2 0 (wc h (fun h=>?_) (fun h=>?_))))))))))
 ·exact ws (gn 4 0 (Wp.ret (rr h▸rq)))
 refine ws (gn 2 0 (wc h (fun h=>?_) (fun h=>?_)))
 ·exact ws (Ai 3 0 (RW.c 0 h (BL _ _ _) (fun v1 gv1 h=>gn 1 0 (Wp.ret (rr h▸rq)))))
 refine ws (gn 2 0 (wc h (fun h=>?_) (fun h=>?_)))
 ·exact ws (gn 5 0 (Wp.ret (rr h▸rq)))
 exact Wp.skip (ws (gn 1 0 (Wp.ret (rr h▸rq))))
def eB (xF:Flash) (z1:Int):St:=A9 [(1,(pb 1)),(3,(I z1))] [(.box 1,[CQ xF.Blocks])]
def eA (xF:Flash):St:=A9 [(1,(pb 1))] [(.box 1,[CQ xF.Blocks])]
def d9 (xF:Flash) (a:Int) (x1:Block) (z2:Bool):St:=A9 [(1,(pb 1)),(3,(I a)),(4,(pb 4)),(27,(B z2))] [(.box 1,[CQ xF.Blocks]),(.box 4,[tb x1.Bad,i6 x1.Wear,YR x1.Leaves])]
def d8 (xF:Flash) (a:Int) (x1:Block) (z3:Int):St:=A9 [(1,(pb 1)),(3,(I a)),(4,(pb 4)),(5,(I z3))] [(.box 1,[CQ xF.Blocks]),(.box 4,[tb x1.Bad,i6 x1.Wear,YR x1.Leaves])]
def d7 (xF:Flash) (a:Int):St:=A9 [(1,(pb 1)),(3,(I a))] [(.box 1,[CQ xF.Blocks])]
def dZ (xF:Flash) (a:Int) (x1:Block) (b:Int) (z4:Bool):St:=A9 [(1,(pb 1)),(3,(I a)),(4,(pb 4)),(5,(I b)),(64,(B z4))] [(.box 1,[CQ xF.Blocks]),(.box 4,[tb x1.Bad,i6 x1.Wear,YR x1.Leaves])]
theorem M8 (xF:Flash) (r:Bool) (h:ID xF=some r):AW Tryz.prog 122 [.sv (.agg (Sp false xF))] (B r) (rg 1):=by
 refine gk Tryz.func122 rfl Tryz.ntmps122 (ws (gn 2 0 (Wp.seq (ws (gn 1 0 (ED h [1,3] [.box 1] (fun s=>(eB xF s)) [1] [.box 1] (fun _=>(eA xF)) EC ?_ ?_))))))
 ·rintro b o (h:HA xF b=some o) hk1;refine Wp.seq (ws (Ai 3 0 (RW.q (Dr (EV false) xF.Blocks) (gn 1 0 (wc h (fun h=>?_) (fun h=>?_))))))
  ·refine Wp.skip (Wp.seq (Wp.block (ws (Ai 3 0 (CS (EV false) h (fun x1 gx1 h=>RW.q (Re (EV false) gx1 0 3) (gn 2 0 (Wp.seq (FD h [1,3,4,27] [.box 1,.box 4] (fun a=>(d9 xF b x1 a)) (fun a h=>?_) (fun j1 h=>?_))))))))))
   ·refine Au (Ai 2 0 (RW.q (Dr Mt x1.Leaves) (Ai 2 0 (AO 22 h (fun h=>?_) (fun h=>?_)))))
    ·exact gn 5 0 (jn h)
    exact Ai 2 0 (RW.c 0 h (BL _ _ _) (fun v1 gv1 h=>gn 2 0 (jn h)))
   refine wc h (fun h=>?_) (fun h=>?_)
   ·exact ws (gn 1 0 (Wp.ret (rr (jo h hk1)▸rq)))
   refine Wp.skip (ws (gn 1 0 (ED h [1,3,4,5] [.box 1,.box 4] (fun s=>(d8 xF b x1 s)) [1,3] [.box 1] (fun _=>(d7 xF b)) EC ?_ ?_)))
   ·rintro d o (h:H9 x1 d=some o) hk2;refine Wp.seq (ws (Ai 3 0 (RW.q (Dr Mt x1.Leaves) (gn 1 0 (wc h (fun h=>?_) (fun h=>?_))))))
    ·refine Wp.skip (Wp.seq (Wp.block (FD h [1,3,4,5,64] [.box 1,.box 4] (fun a=>(dZ xF b x1 d a)) (fun a h=>?_) (fun j2 h=>?_))))
     ·refine Au (Ai 3 0 (CS Mt h (fun x2 gx2 h=>RW.q (Re Mt gx2 0 2) (RW.c 0 h (jO _) (fun v2 gv2 h=>Ai 2 0 (AO 42 h (fun h=>?_) (fun h=>?_)))))))
      ·exact gn 22 0 (jn h)
      refine Ai 3 0 (AO 45 h (fun h=>?_) (fun h=>?_))
      ·refine Ai 4 0 (CS Mt h (fun x3 gx3 h=>RW.q (D8 Mt gx3 0 0) (RW.q (CA Mt gx3 0) (Ai 3 0 (AO 55 h (fun h=>?_) (fun h=>?_))))))
       ·exact Ai 3 0 (CS Mt h (fun x4 gx4 h=>RW.q (D8 Mt gx4 0 0) (RW.q (CA Mt gx4 0) (gn 3 0 (jn h)))))
       exact gn 9 0 (jn h)
      exact gn 19 0 (jn h)
     refine wc h (fun h=>?_) (fun h=>?_)
     ·exact ws (gn 1 0 (Wp.ret (rr (jo (jo h hk2) hk1)▸rq)))
     exact Wp.skip (Au (gn 3 0 (jl h)))
    exact Wp.exit (jx h)
   intro v3 h E hE;exact AY hE (Au (gn 3 0 (jl h)))
  exact Wp.exit (jx h)
 intro v4 h E hE;exact AY hE (ws (Ai 2 0 (RW.q (Dr (EV false) xF.Blocks) (RW.c 0 h (BL _ _ _) (fun v5 gv5 h=>gn 1 0 (Wp.ret (rr h▸rq)))))))
def Yx (xF:Flash) (xB:Int) (a:Int) (z1:Bool):St:=A9 [(1,(I xB)),(2,(I a)),(3,(pb 3)),(40,(B z1))] [(.box 3,[CQ xF.Blocks])]
theorem R5 (xF:Flash) (xB:Int) (b:Int) (r:ByteArray×Bool) (h:JN xF xB b=some r):AW Tryz.prog 20 [.sv (.agg (Sp false xF)),.sv (I xB),.sv (I b)] (.tup [(Y r.1),(B r.2)]) (rg 3):=by
 refine gk Tryz.func20 rfl Tryz.ntmps20 (ws (gn 3 0 (Wp.seq (FD h [1,2,3,40] [.box 3] (fun a=>(Yx xF xB b a)) (fun a h=>?_) (fun j1 h=>?_)))))
 ·refine Au (Ai 3 0 (RW.q (Dr (EV false) xF.Blocks) (Ai 1 0 (RW.c 0 h (BL _ _ _) (fun v1 gv1 h=>Ai 2 0 (AO 15 h (fun h=>?_) (fun h=>?_)))))))
  ·exact gn 25 0 (jn h)
  refine Ai 4 0 (CS (EV false) h (fun x1 gx1 h=>RW.q (D8 (EV false) gx1 0 2) (RW.q (CA (EV false) gx1 2) (RW.q (Dr Mt x1.Leaves) (Ai 1 0 (RW.c 0 h (BL _ _ _) (fun v2 gv2 h=>Ai 3 0 (AO 28 h (fun h=>?_) (fun h=>?_)))))))))
  ·exact gn 12 0 (jn h)
  exact Ai 3 0 (CS (EV false) h (fun x2 gx2 h=>RW.q (D8 (EV false) gx2 0 2) (RW.q (CA (EV false) gx2 2) (Ai 1 0 (CS Mt h (fun x3 gx3 h=>RW.q (D8 Mt gx3 0 0) (RW.q (CA Mt gx3 0) (gn 2 0 (jn h)))))))))
 refine wc h (fun h=>?_) (fun h=>?_)
 ·exact ws (gn 2 0 (Wp.ret (rr h▸rq)))
 exact Wp.skip (ws (Ai 3 0 (CS (EV false) h (fun x4 gx4 h=>RW.q (D8 (EV false) gx4 0 2) (RW.q (CA (EV false) gx4 2) (Ai 1 0 (CS Mt h (fun x5 gx5 h=>RW.q (D8 Mt gx5 0 1) (RW.q (CA Mt gx5 1) (gn 2 0 (Wp.ret (rr h▸rq))))))))))))
def cR (a:ByteArray) (z1:Int) (z2:Int):St:=A9 [(0,(.one (.int .u32 z1))),(1,(Y a)),(5,(I z2))] []
def cQ (z3:Int):St:=A9 [(0,(.one (.int .u32 z3)))] []
def cO (a:ByteArray) (b:Int) (z4:Int) (z5:Int):St:=A9 [(0,(.one (.int .u32 z4))),(1,(Y a)),(5,(I b)),(6,(I z5))] []
def cN (a:ByteArray) (b:Int) (z6:Int):St:=A9 [(0,(.one (.int .u32 z6))),(1,(Y a)),(5,(I b))] []
theorem jX (b:Int) (a:ByteArray) (r:Int) (h:PM b a=some r):AW Tryz.prog 114 [.sv (.one (.int .u32 b)),.sv (Y a)] (.one (.int .u32 r)) (rg 2):=by
 refine gk Tryz.func114 rfl Tryz.ntmps114 (ws (gn 1 0 (Wp.seq (ws (gn 1 0 (BM h [0,1,5] [] (fun s=>(cR a s.1 s.2)) [0] [] (fun s=>(cQ s)) EC ?_ ?_))))))
 ·rintro⟨c,d⟩ o (h:Jf a c d=some o);refine Wp.seq (ws (gn 4 0 (wc h (fun h=>?_) (fun h=>?_))))
  ·refine Wp.skip (Wp.seq (Wp.block (ws (Ai 3 0 (bd h fun x1 gx1 h=>RW.q (iP gx1) (gw 3 0 (gn 1 0 (BM h [0,1,5,6] [] (fun s=>(cO a d s.1 s.2)) [0,1,5] [] (fun s=>(cN a d s)) EC ?_ ?_))))))))
   ·rintro⟨e,f⟩ o (h:H6 e f=some o);refine Wp.seq (ws (gn 2 0 (wc h (fun h=>?_) (fun h=>?_))))
    ·refine Wp.skip (Wp.seq (Wp.block (ws (gw 4 0 (gw 3 0 (gn 1 0 (wc h (fun h=>?_) (fun h=>?_))))))))
     ·exact Au (gn 3 0 (Au (gn 3 0 (jl h))))
     exact Wp.skip (Au (gn 3 0 (jl h)))
    exact Wp.exit (jv h)
   intro v1 h E hE;exact AY hE (Au (gn 3 0 (jl h)))
  exact Wp.exit (jv h)
 intro v2 h E hE;exact AY hE (ws (gn 2 0 (Wp.ret (rr h▸rq))))
theorem ZI (a:ByteArray) (r:Int) (h:M4 a=some r):AW Tryz.prog 73 [.sv (Y a)] (.one (.int .u32 r)) (rg 1):=by
 exact gk Tryz.func73 rfl Tryz.ntmps73 (ws (gw 1 0 (Ai 1 0 (RW.c 0 h (jX _ _) (fun v1 gv1 h=>gn 1 0 (Wp.ret (rr h▸rq)))))))
theorem T3 (xX:Int) (r:ByteArray) (h:JJ xX=some r):AW Tryz.prog 72 [.sv (.one (.int .u32 xX))] (Y r) (rg 1):=by
 unfold JJ at h;exact gk Tryz.func72 rfl Tryz.ntmps72 (ws (gw 1 0 (Ai 12 0 (RW.q (pcv (f:=c5) (fun _=>rfl) [(IntKind.u8.wrap (Int.fdiv xX (2^(min (24:Int).toNat IntKind.u32.bits)))),(IntKind.u8.wrap (Int.fdiv xX (2^(min (16:Int).toNat IntKind.u32.bits)))),(IntKind.u8.wrap (Int.fdiv xX (2^(min (8:Int).toNat IntKind.u32.bits)))),(IntKind.u8.wrap xX)]) (gn 1 0 (Wp.ret (rr h▸rq)))))))
def Ye (a:ByteArray) (z1:Bool):St:=A9 [(0,(Y a)),(4,(I (sb (FJ a) 4))),(24,(B z1))] []
theorem cF (b:ByteArray) (r:ByteArray×Bool) (h:JK b=some r):AW Tryz.prog 47 [.sv (Y b)] (.tup [(Y r.1),(B r.2)]) (rg 1):=by
 refine gk Tryz.func47 rfl Tryz.ntmps47 (ws (gw 2 0 (gn 4 0 (Wp.seq (FD h [0,4,24] [] (fun a=>(Ye b a)) (fun a h=>?_) (fun j1 h=>?_))))))
 ·refine DZ [] mixed (fun c E h=>by rcases h with⟨h|h,_⟩<;>cases h) (Bl [0,1,2] 0 (ND 10 h (fun h=>?_) (fun h=>?_)))
  ·exact Bl [3,4,5,6,7,8,9,10,11,12,13,14,15,16] 0 (Bk (jn h))
  refine Bl [3,4,5,6] 0 (ND 14 h (fun h=>?_) (fun h=>?_))
  ·exact Bl [7,8,9,10,11,12,13,14,15,16] 0 (Bk (jn h))
  exact Bl [7,8] 0 (bd h fun x1 gx1 h=>KW.q 9 (Pr gx1) (Bl [10,11] 0 (bd h fun x2 gx2 h=>KW.q 12 (Pr gx2) (B8 13 (KB.c 0 h (ZI _) (fun v1 gv1 h=>B8 14 (KB.c 0 h (T3 _) (fun v2 gv2 h=>Bl [15,16] 0 (Bk (jn h))))))))))
 refine wc h (fun h=>?_) (fun h=>?_)
 ·exact ws (gn 2 0 (Wp.ret (rr h▸rq)))
 exact Wp.skip (ws (Ai 2 0 (bd h fun x3 gx3 h=>RW.q (Pr gx3) (gn 2 0 (Wp.ret (rr h▸rq))))))
def jR (z1:Int) (z2:List Int):St:=A9 [(0,(I z1)),(3,(.one (fD z2)))] []
def jP (z3:Int) (z4:List Int):St:=A9 [(0,(I z3)),(3,(.one (fD z4)))] []
theorem Iq (xN:Int) (r:ByteArray) (h:HT xN=some r):AW Tryz.prog 78 [.sv (I xN)] (Y r) (rg 1):=by
 refine gk Tryz.func78 rfl Tryz.ntmps78 (ws (gw 1 0 (gn 2 2 (sl1 h [0,3] [] (fun s=>(jR s.1 s.2)) [0,3] [] (fun s=>(jP s.1 s.2)) ?_ (fun v1 h=>?_)))))
 ·rintro⟨b,a⟩ o (h:Pe b a=some o);refine Wp.seq (ws (gn 2 0 (wc h (fun h=>?_) (fun h=>?_))))
  ·exact Wp.skip (Wp.block (ws (Ai 6 0 (bd h fun q1 gq1 h=>CR (DK k5 (fun _=>rfl) a gq1) (gn 1 1 (Au (gn 3 0 (jl h))))))))
  exact Wp.exit (jv h)
 exact ws (Ai 4 0 (bd h fun q2 gq2 h=>CR (DK k5 (fun _=>rfl) v1.2 gq2) (RW.q (pcv (f:=c5) (fun _=>rfl) q2) (gn 1 0 (Wp.ret (rr h▸rq))))))
def dM (a:ByteArray) (b:Int) (z1:Int) (z2:Int) (z3:Int):St:=A9 [(0,(Y a)),(1,(I b)),(7,(I z1)),(8,(I z2)),(9,(I z3))] []
def dL:St:=A9 [] []
def dK (b:ByteArray) (c:Int) (d:Int) (a:Int) (e:Int) (z4:Bool):St:=A9 [(0,(Y b)),(1,(I c)),(7,(I d)),(8,(I a)),(9,(I e)),(25,(B z4))] []
def dJ (b:Int) (a:Int) (c:Int) (x1:Int) (z5:Bool):St:=A9 [(7,(I (ad b (ml (Int.tmod (IntKind.i64.wrap x1) 128) a)))),(9,(I c)),(54,(B z5))] []
theorem kA (b:ByteArray) (e:Int) (r:Int×Int×Bool) (h:I9 b e=some r):AW Tryz.prog 74 [.sv (Y b),.sv (I e)] (.tup [(I r.1),(I r.2.1),(B r.2.2)]) (rg 2):=by
 refine gk Tryz.func74 rfl Tryz.ntmps74 (ws (gn 3 0 (Wp.seq (ws (Ai 3 0 (RW.c 0 h (BL _ _ _) (fun v1 gv1 h=>gn 1 0 (wc h (fun h=>?_) (fun h=>?_)))))))))
 ·exact ws (gn 3 0 (Wp.ret (rr h▸rq)))
 refine Wp.skip (ws (gw 1 0 (gn 1 0 (Wp.seq (ws (gn 2 0 (ED h [0,1,7,8,9] [] (fun s=>(dM b e s.1 s.2.1 s.2.2)) [] [] (fun _=>dL) EC ?_ ?_)))))))
 ·rintro⟨f,d,g⟩ o (h:Dw b e f d g=some o) hk1;refine Wp.seq (FD h [0,1,7,8,9,25] [] (fun a=>(dK b e f d g a)) (fun a h=>?_) (fun j1 h=>?_))
  ·refine Au (Ai 5 0 (AO 20 h (fun h=>?_) (fun h=>?_)))
   ·exact gn 5 0 (jn h)
   exact gn 5 0 (jn h)
  refine wc h (fun h=>?_) (fun h=>?_)
  ·refine Wp.skip (Wp.seq (Wp.block (ws (Ai 3 0 (bd h fun x1 gx1 h=>RW.q (iP gx1) (gw 6 0 (gw 3 0 (Ai 2 0 (bd h fun x2 gx2 h=>RW.q (iP gx2) (gn 1 0 (wc h (fun h=>?_) (fun h=>?_))))))))))))
   ·refine Wp.seq (FD h [7,9,54] [] (fun a=>(dJ f d g x1 a)) (fun a h=>?_) (fun j2 h=>?_))
    ·refine DZ [] mixed (fun c E h=>by rcases h with⟨h|h,_⟩<;>cases h) (Bl [0,1,2] 0 (ND 45 h (fun h=>?_) (fun h=>?_)))
     ·exact Bl [3,5,6,7,8,9,4,10,11] 0 (Bk (jn h))
     exact Bl [3,5,6,7,8] 0 (bd h fun x3 gx3 h=>KW.q 9 (Pr gx3) (B8 4 (KB.c 0 h (Iq _) (fun v2 gv2 h=>Bl [10,11] 0 (Bk (jn h))))))
    refine wc h (fun h=>?_) (fun h=>?_)
    ·exact ws (gn 3 0 (Wp.ret (rr (jo h hk1)▸rq)))
    exact Wp.skip (ws (gn 6 0 (Wp.ret (rr (jo h hk1)▸rq))))
   exact Wp.skip (Au (gn 3 0 (jl h)))
  exact Wp.exit (jx h)
 intro v3 h E hE;exact AY hE (ws (gn 3 0 (Wp.ret (rr h▸rq))))
def c93 (x:Ek):List TV:=[ts x.text_,i6 x.at_,tb x.bad_]
def jN (xC:Ek) (v1:Int×Int×Bool) (z1:Bool):St:=A9 [(0,(px 0)),(3,(I v1.1)),(4,(I v1.2.1)),(26,(B z1))] [(.ext 0,[ts xC.text_,i6 xC.at_,tb xC.bad_])]
theorem JI (xC:Ek) (r:Int×Ek) (h:Ej xC=some r):AW Tryz.prog 48 [.ext (c93 xC)] (I r.1) (.ext (c93 r.2)::rg 0):=by
 refine gkx Tryz.func48 rfl Tryz.ntmps48 (ws (gn 1 0 (Wp.seq (DZ [] mixed (fun c E h=>by rcases h with⟨h|h,_⟩<;>cases h) (Bl [0,1,2,3,4,5,6,7] 0 (B8 8 (KB.c 0 h (kA _ _) (fun v1 gv1 h=>Bl [9] 1 (Mq 10 (Mq 11 (Mq 12 (Bl [13,14,15] 0 (Bk (Wp.seq (FD h [0,3,4,26] [.ext 0] (fun a=>(jN xC v1 a)) (fun a h=>?_) (fun j1 h=>?_))))))))))))))))
 ·refine Au (Ai 5 0 (AO 23 h (fun h=>?_) (fun h=>?_)))
  ·exact gn 3 0 (jn h)
  exact gn 3 0 (jn h)
 refine wc h (fun h=>?_) (fun h=>?_)
 ·exact ws (gw 4 0 (gn 1 0 (Wp.ret (rr h▸rx))))
 exact Wp.skip (ws (gw 5 0 (gn 2 0 (Wp.ret (rr h▸rx)))))
def c52 (x:Page):List TV:=[i6 x.Kind,i6 x.Seq,i6 x.Tx,i6 x.Part,i6 x.Count,ts x.Text]
theorem k52:∀x,(c52 x).length=6:=fun _=>rfl
def fC (l:List Page):TV:= .sl true 52 6 (AN c52 l)
def kK (xP:Page) (z1:Bool):St:=A9 [(1,(pb 1)),(39,(B z1))] [(.box 1,[i6 xP.Kind,i6 xP.Seq,i6 xP.Tx,i6 xP.Part,i6 xP.Count,ts xP.Text])]
theorem pM (xP:Page) (r:Bool) (h:Jl xP=some r):AW Tryz.prog 75 [.sv (.agg (c52 xP))] (B r) (rg 1):=by
 refine gk Tryz.func75 rfl Tryz.ntmps75 (ws (gn 2 0 (Wp.seq (FD h [1,39] [.box 1] (fun a=>(kK xP a)) (fun a h=>?_) (fun j1 h=>?_)))))
 ·refine Au (Ai 2 0 (RW.c 0 h (BL _ _ _) (fun v1 gv1 h=>Ai 2 0 (AO 7 h (fun h=>?_) (fun h=>?_)))))
  ·exact gn 32 0 (jn h)
  refine Ai 2 0 (RW.c 0 h (BL _ _ _) (fun v2 gv2 h=>Ai 3 0 (AO 13 h (fun h=>?_) (fun h=>?_))))
  ·exact gn 26 0 (jn h)
  refine Ai 2 0 (RW.c 0 h (BL _ _ _) (fun v3 gv3 h=>Ai 3 0 (AO 19 h (fun h=>?_) (fun h=>?_))))
  ·exact gn 20 0 (jn h)
  refine Ai 2 0 (RW.c 0 h (BL _ _ _) (fun v4 gv4 h=>Ai 3 0 (AO 25 h (fun h=>?_) (fun h=>?_))))
  ·exact gn 14 0 (jn h)
  refine Ai 5 0 (RW.c 0 h (BL _ _ _) (fun v5 gv5 h=>Ai 3 0 (AO 34 h (fun h=>?_) (fun h=>?_))))
  ·exact gn 5 0 (jn h)
  exact gn 5 0 (jn h)
 refine wc h (fun h=>?_) (fun h=>?_)
 ·exact ws (gn 1 0 (Wp.ret (rr h▸rq)))
 refine Wp.skip (ws (Ai 4 0 (AO 43 h (fun h=>?_) (fun h=>?_))))
 ·exact gn 5 0 (Wp.ret (rr h▸rq))
 exact gn 5 0 (Wp.ret (rr h▸rq))
theorem T1 (xN:Int) (r:ByteArray) (h:L6 xN=some r):AW Tryz.prog 77 [.sv (I xN)] (Y r) (rg 1):=by
 unfold L6 at h;exact gk Tryz.func77 rfl Tryz.ntmps77 (ws (gw 1 0 (Ai 3 0 (RW.q (pcv (f:=c5) (fun _=>rfl) [(IntKind.u8.wrap xN)]) (gn 1 0 (Wp.ret (rr h▸rq)))))))
theorem pF (a:ByteArray) (r:ByteArray×Bool) (h:Jh a=some r):AW Tryz.prog 76 [.sv (Y a)] (.tup [(Y r.1),(B r.2)]) (rg 1):=by
 refine gk Tryz.func76 rfl Tryz.ntmps76 (ws (gn 2 0 (Wp.seq (ws (gn 3 0 (wc h (fun h=>?_) (fun h=>?_)))))))
 ·exact ws (gn 2 0 (Wp.ret (rr h▸rq)))
 exact Wp.skip (ws (Ai 2 0 (RW.c 0 h (ZI _) (fun v1 gv1 h=>RW.c 0 h (T3 _) (fun v2 gv2 h=>bd h fun x1 gx1 h=>RW.q (OL gx1) (gn 2 0 (Wp.ret (rr h▸rq))))))))
theorem R6 (xP:Page) (r:ByteArray×Bool) (h:EK xP=some r):AW Tryz.prog 49 [.sv (.agg (c52 xP))] (.tup [(Y r.1),(B r.2)]) (rg 1):=by
 refine gk Tryz.func49 rfl Tryz.ntmps49 (ws (gn 3 0 (Wp.seq (ws (Ai 1 0 (RW.c 0 h (pM _) (fun v1 gv1 h=>gn 1 0 (wc h (fun h=>?_) (fun h=>?_)))))))))
 ·exact ws (gn 2 0 (Wp.ret (rr h▸rq)))
 refine Wp.skip (Wp.seq (DZ [] mixed (fun c E h=>by rcases h with⟨h|h,_⟩<;>cases h) (Bl [0,1,3,4,7,8,11,12,15,16,19,20] 0 (B8 2 (KB.c 0 h (T1 _) (fun v2 gv2 h=>B8 5 (KB.c 0 h (Iq _) (fun v3 gv3 h=>bd h fun x1 gx1 h=>KW.q 6 (OL gx1) (B8 9 (KB.c 0 h (Iq _) (fun v4 gv4 h=>bd h fun x2 gx2 h=>KW.q 10 (OL gx2) (B8 13 (KB.c 0 h (Iq _) (fun v5 gv5 h=>bd h fun x3 gx3 h=>KW.q 14 (OL gx3) (B8 17 (KB.c 0 h (Iq _) (fun v6 gv6 h=>bd h fun x4 gx4 h=>KW.q 18 (OL gx4) (bd h fun x5 gx5 h=>KW.q 21 (OL gx5) (B8 22 (KB.c 0 h (pF _) (fun v7 gv7 h=>Mq 23 (Mq 24 (Bl [25,26] 0 (Bk ?_))))))))))))))))))))))));exact Wp.ret (rr h▸rq)
def Yw (xT:ByteArray) (v1:ByteArray×Bool) (z1:Bool):St:=A9 [(0,(Y xT)),(2,(pb 2)),(4,(Y v1.1)),(6,(pb 24))] [(.box 2,[i6 0,i6 0,i6 0,i6 0,i6 0,ts (bs [])]),(.box 24,[ts v1.1,i6 1,tb z1])]
def Yv (v2:Int×Ek) (v3:Int×Ek) (v4:Int×Ek) (v5:Int×Ek) (x1:Int) (x2:ByteArray) (z2:Bool):St:=A9 [(2,(pb 2)),(7,(pb 7)),(64,(B z2))] [(.box 2,[i6 0,i6 0,i6 0,i6 0,i6 0,ts (bs [])]),(.box 7,[i6 (IntKind.i64.wrap x1),i6 v2.1,i6 v3.1,i6 v4.1,i6 v5.1,ts x2])]
theorem R4 (xT:ByteArray) (r:Page×Bool) (h:DX xT=some r):AW Tryz.prog 21 [.sv (Y xT)] (.tup [(.agg (c52 r.1)),(B r.2)]) (rg 1):=by
 refine gk Tryz.func21 rfl Tryz.ntmps21 (ws (gw 2 0 (Ai 1 0 (RW.c 0 h (cF _) (fun v1 gv1 h=>gn 5 1 (FD h [0,2,4,6] [.box 2,.box 24] (fun a=>(Yw xT v1 a)) (fun a h=>?_) (fun j1 h=>?_)))))))
 ·refine Au (Ai 4 0 (AO 18 h (fun h=>?_) (fun h=>?_)))
  ·exact gn 7 0 (jn h)
  exact gn 7 0 (jn h)
 refine ws (Ai 1 0 (Gp h (JI _) (fun _=>rfl) (fun v2 gv2 h=>gw 3 0 (Ai 1 0 (Gp h (JI _) (fun _=>rfl) (fun v3 gv3 h=>gw 2 0 (Ai 1 0 (Gp h (JI _) (fun _=>rfl) (fun v4 gv4 h=>gw 2 0 (Ai 1 0 (Gp h (JI _) (fun _=>rfl) (fun v5 gv5 h=>gn 2 0 (Wp.seq (ws (gn 4 0 (wc h (fun h=>?_) (fun h=>?_)))))))))))))))))
 ·exact ws (gn 3 0 (Wp.ret (rr h▸rq)))
 refine Wp.skip (ws (Ai 1 0 (bd h fun x1 gx1 h=>RW.q (iP gx1) (gw 3 0 (Ai 5 0 (bd h fun x2 gx2 h=>RW.q (Pr gx2) (gw 2 0 (Ai 1 0 (RW.c 0 h (R6 _) (fun v6 gv6 h=>gn 5 1 (Wp.seq (FD h [2,7,64] [.box 2,.box 7] (fun a=>(Yv v2 v3 v4 v5 x1 x2 a)) (fun a h=>?_) (fun j2 h=>?_)))))))))))))
 ·refine Au (Ai 3 0 (AO 60 h (fun h=>?_) (fun h=>?_)))
  ·exact gn 4 0 (jn h)
  exact gn 4 0 (jn h)
 refine wc h (fun h=>?_) (fun h=>?_)
 ·exact ws (gn 3 0 (Wp.ret (rr h▸rq)))
 exact Wp.skip (ws (gn 3 0 (Wp.ret (rr h▸rq))))
def c54 (x:Ak):List TV:=[i6 x.Block,i6 x.Leaf,i6 x.Page.Kind,i6 x.Page.Seq,i6 x.Page.Tx,i6 x.Page.Part,i6 x.Page.Count,ts x.Page.Text]
theorem Ex:∀x,(c54 x).length=8:=fun _=>rfl
theorem V5:∀l,BG (AN c54 l)=AN c54 l:=D1 (fun _=>rfl)
def Fz (l:List Ak):TV:= .sl true 54 8 (AN c54 l)
def HN (l:List Ak):TV:= .sl false 54 8 (AN c54 l)
def dH (xF:Flash) (z1:List Ak) (z2:Int):St:=A9 [(1,(pb 1)),(3,(.one (Fz z1))),(4,(I z2))] [(.box 1,[CQ xF.Blocks])]
def dG (z3:List Ak):St:=A9 [(3,(.one (Fz z3)))] []
def dF (xF:Flash) (a:Int) (z4:List Ak) (z5:Int):St:=A9 [(1,(pb 1)),(3,(.one (Fz z4))),(4,(I a)),(5,(I z5))] [(.box 1,[CQ xF.Blocks])]
def dE (xF:Flash) (a:Int) (z6:List Ak):St:=A9 [(1,(pb 1)),(3,(.one (Fz z6))),(4,(I a))] [(.box 1,[CQ xF.Blocks])]
def dD (xF:Flash) (b:Int) (a:List Ak) (c:Int) (v2:Page×Bool) (z7:Bool):St:=A9 [(1,(pb 1)),(3,(.one (Fz a))),(4,(I b)),(5,(I c)),(8,(pb 8)),(47,(B z7))] [(.box 1,[CQ xF.Blocks]),(.box 8,[i6 v2.1.Kind,i6 v2.1.Seq,i6 v2.1.Tx,i6 v2.1.Part,i6 v2.1.Count,ts v2.1.Text])]
def dC (z8:List Ak) (z9:Int):St:=A9 [(3,(.one (Fz z8))),(10,(I z9))] []
def dB (z10:List Ak):St:=A9 [(3,(.one (Fz z10)))] []
def dA (a:Int) (z11:List Ak) (z12:Int):St:=A9 [(3,(.one (Fz z11))),(10,(I a)),(11,(I z12))] []
def c8 (a:Int) (z13:List Ak):St:=A9 [(3,(.one (Fz z13))),(10,(I a))] []
def Yo (b:Int) (a:List Ak) (c:Int) (z14:Bool):St:=A9 [(3,(.one (Fz a))),(10,(I b)),(11,(I c)),(79,(B z14))] []
theorem Hl (xF:Flash) (r:List Ak) (h:Fp xF=some r):AW Tryz.prog 13 [.sv (.agg (Sp false xF))] (.one (Fz r)) (rg 1):=by
 refine gk Tryz.func13 rfl Tryz.ntmps13 (ws (gw 2 0 (gn 2 2 (Wp.seq (ws (gn 1 0 (BM h [1,3,4] [.box 1] (fun s=>(dH xF s.1 s.2)) [3] [] (fun s=>(dG s)) EC ?_ ?_)))))))
 ·rintro⟨i,d⟩ o (h:Ee xF i d=some o);refine Wp.seq (ws (Ai 3 0 (RW.q (Dr (EV false) xF.Blocks) (gn 1 0 (wc h (fun h=>?_) (fun h=>?_))))))
  ·refine Wp.skip (Wp.seq (Wp.block (ws (gn 1 0 (BM h [1,3,4,5] [.box 1] (fun s=>(dF xF d s.1 s.2)) [1,3,4] [.box 1] (fun s=>(dE xF d s)) EC ?_ ?_)))))
   ·rintro⟨b,j⟩ o (h:E8 xF d b j=some o);refine Wp.seq (ws (Ai 4 0 (CS (EV false) h (fun x1 gx1 h=>RW.q (D8 (EV false) gx1 0 2) (RW.q (CA (EV false) gx1 2) (RW.q (Dr Mt x1.Leaves) (gn 1 0 (wc h (fun h=>?_) (fun h=>?_)))))))))
    ·refine Wp.skip (Wp.seq (Wp.block (ws (Ai 3 0 (RW.c 0 h (R5 _ _ _) (fun v1 gv1 h=>gw 5 1 (Ai 1 0 (RW.c 0 h (R4 _) (fun v2 gv2 h=>gn 6 1 (FD h [1,3,4,5,8,47] [.box 1,.box 8] (fun a=>(dD xF d b j v2 a)) (fun a h=>?_) (fun j1 h=>?_)))))))))))
     ·refine Au (Ai 2 0 (AO 45 h (fun h=>?_) (fun h=>?_)))
      ·exact gn 2 0 (jn h)
      exact gn 2 0 (jn h)
     refine wc h (fun h=>?_) (fun h=>?_)
     ·exact Au (Ai 6 0 (bd h fun q1 gq1 h=>CR (DK Ex (fun _=>rfl) b gq1) (gn 1 1 (Au (gn 3 0 (jl h))))))
     exact Wp.skip (Au (gn 3 0 (jl h)))
    exact Wp.exit (jv h)
   intro v3 h E hE;exact AY hE (Au (gn 3 0 (jl h)))
  exact Wp.exit (jv h)
 intro v4 h E hE;refine AY hE (Wp.seq (ws (gn 1 0 (BM h [3,10] [] (fun s=>(dC s.1 s.2)) [3] [] (fun s=>(dB s)) EC ?_ ?_))))
 ·rintro⟨e,g⟩ o (h:Jj e g=some o);refine Wp.seq (ws (Ai 2 0 (RW.q (Dr Ex e) (gn 1 0 (wc h (fun h=>?_) (fun h=>?_))))))
  ·refine Wp.skip (Wp.seq (Wp.block (ws (gn 2 0 (BM h [3,10,11] [] (fun s=>(dA g s.1 s.2)) [3,10] [] (fun s=>(c8 g s)) EC ?_ ?_)))))
   ·rintro⟨f,k⟩ o (h:Ji f k=some o);refine Wp.seq (FD h [3,10,11,79] [] (fun a=>(Yo g f k a)) (fun a h=>?_) (fun j2 h=>?_))
    ·refine KF mixed (Dn 3 (X3 64 h (fun h=>?_) (fun h=>?_)))
     ·exact Dn 3 (bd h fun x2 gx2 h=>SW.q (IR Ex gx2) (SW.q (D8 Ex gx2 0 2) (SW.q (D8 Ex gx2 2 3) (SW.q (CA Ex gx2 3) (Dn 2 (bd h fun x3 gx3 h=>SW.q (IR Ex gx3) (SW.q (D8 Ex gx3 0 2) (SW.q (D8 Ex gx3 2 3) (SW.q (CA Ex gx3 3) (Dn 2 (SW.nil (jn h))))))))))))
     exact Dn 15 (SW.nil (jn h))
    refine wc h (fun h=>?_) (fun h=>?_)
    ·exact Wp.skip (Wp.seq (Wp.block (ws (Ai 2 0 (CS Ex h (fun x4 gx4 h=>RW.q (Re Ex gx4 0 8) (gw 2 0 (Ai 5 0 (CS Ex h (fun x5 gx5 h=>RW.q (Re Ex gx5 0 8) (CS Ex h (fun x6 gx6 h=>CR (N2 Ex gx6 0 0 x5) (RW.nil (Au (Ai 4 0 (CS Ex h (fun x7 gx7 h=>CR (N2 Ex gx7 0 0 x4) (RW.nil (Au (gn 3 0 (jl h)))))))))))))))))))))
    exact Wp.exit (jv h)
   intro v5 h E hE;exact AY hE (Au (gn 3 0 (jl h)))
  exact Wp.exit (jv h)
 intro v6 h E hE;exact AY hE (ws (gn 2 2 (Wp.ret (rr h▸rq))))
def cC (xF:Flash) (z1:Int) (z2:List Block):St:=A9 [(1,(pb 1)),(2,(pb 2)),(3,(pb 3)),(4,(I z1))] [(.box 1,[CQ xF.Blocks]),(.box 2,[CP []]),(.box 3,[CP z2])]
def cB (z3:List Block):St:=A9 [(2,(pb 2)),(3,(pb 3))] [(.box 2,[CP []]),(.box 3,[CP z3])]
theorem I4 (xF:Flash) (r:Flash) (h:H3 xF=some r):AW Tryz.prog 123 [.sv (.agg (Sp false xF))] (.agg (Sp true r)) (rg 1):=by
 refine gk Tryz.func123 rfl Tryz.ntmps123 (ws (gw 2 0 (gn 3 0 (Wp.seq (ws (gn 1 0 (BM h [1,2,3,4] [.box 1,.box 2,.box 3] (fun s=>(cC xF s.1 s.2)) [2,3] [.box 2,.box 3] (fun s=>(cB s)) EC ?_ ?_)))))))
 ·rintro⟨b,a⟩ o (h:Jd xF b a=some o);refine Wp.seq (ws (Ai 3 0 (RW.q (Dr (EV false) xF.Blocks) (gn 1 0 (wc h (fun h=>?_) (fun h=>?_))))))
  ·exact Wp.skip (Wp.seq (Wp.block (ws (Ai 3 0 (CS (EV false) h (fun x1 gx1 h=>RW.q (Re (EV false) gx1 0 3) (gw 2 0 (Ai 3 0 (bd h fun q1 gq1 h=>CR (DK Mt (fun _=>rfl) [] gq1) (gn 2 0 (Au (Ai 4 0 (bd h fun q2 gq2 h=>CR (rM (EV true) a [(Block.mk x1.Bad x1.Wear q1)] gq2) (gn 2 0 (Au (gn 3 0 (jl h)))))))))))))))))
  exact Wp.exit (jv h)
 intro v1 h E hE;exact AY hE (ws (gn 2 0 (Wp.ret (rr h▸rq))))
def c39 (x:Vol):List TV:=[i6 x.Id,i6 x.Root]
theorem Eo:∀x,(c39 x).length=2:=fun _=>rfl
theorem Fe:∀l,BG (AN c39 l)=AN c39 l:=D1 (fun _=>rfl)
theorem YS:∀l,AT (AN c39 l)=false:=Kq (fun _=>rfl)
def CZ (l:List Vol):TV:= .sl true 39 2 (AN c39 l)
def DG (l:List Vol):TV:= .sl false 39 2 (AN c39 l)
def c3 (x:Int):List TV:=[i6 x]
theorem k3:∀x,(c3 x).length=1:=fun _=>rfl
theorem iO:∀l,BG (AN c3 l)=AN c3 l:=D1 (fun _=>rfl)
theorem ns3:∀l,AT (AN c3 l)=false:=Kq (fun _=>rfl)
def En (l:List Int):TV:= .sl true 3 1 (AN c3 l)
def OQ (l:List Int):TV:= .sl false 3 1 (AN c3 l)
def Xt (o:Bool) (x:BU):List TV:=[tb x.Leaf,.sl o 3 1 (AN c3 x.Kids)]
theorem CG (o:Bool):∀x,(Xt o x).length=2:=fun _=>rfl
theorem Dh:∀l,BG (AN (Xt true) l)=AN (Xt false) l:=D1 (fun x=>by simp only [Xt,BG,KX,iO])
theorem KY:∀l,AT (AN (Xt true) l)=false:=Kq (fun x=>by simp [Xt,AT,BB,ns3])
def Bx (l:List BU):TV:= .sl true 150 2 (AN (Xt true) l)
def BI (l:List BU):TV:= .sl false 150 2 (AN (Xt false) l)
def So (o:Bool) (x:Store):List TV:=[.sl o 39 2 (AN c39 x.Vols),.sl o 150 2 (AN (Xt o) x.Arena.Knots),i6 x.Next]
theorem cZ (r:Store) (h:NU=some r):AW Tryz.prog 124 [] (.agg (So true r)) (rg 0):=by
 unfold NU at h;exact gk Tryz.func124 rfl Tryz.ntmps124 (ws (gw 1 0 (gn 2 0 (Wp.ret (rr h▸rq)))))
def c99 (x:Df):List TV:=[i6 x.Kind,i6 x.Vol,i6 x.Arg,i6 x.Chunk]
theorem WR:∀x,(c99 x).length=4:=fun _=>rfl
theorem ACr:∀l,BG (AN c99 l)=AN c99 l:=D1 (fun _=>rfl)
theorem ADu:∀l,AT (AN c99 l)=false:=Kq (fun _=>rfl)
def IS (l:List Df):TV:= .sl true 99 4 (AN c99 l)
def lP (l:List Df):TV:= .sl false 99 4 (AN c99 l)
def pH (z1:Bool):St:=A9 [(2,(B z1))] []
def pG (xR:Df) (z2:Bool):St:=A9 [(1,(pb 1)),(37,(B z2))] [(.box 1,[i6 xR.Kind,i6 xR.Vol,i6 xR.Arg,i6 xR.Chunk])]
theorem SI (xR:Df) (r:Bool) (h:PP xR=some r):AW Tryz.prog 89 [.sv (.agg (c99 xR))] (B r) (rg 1):=by
 refine gk Tryz.func89 rfl Tryz.ntmps89 (ws (gn 2 0 (Wp.seq (ws (Ai 2 0 (RW.c 0 h (BL _ _ _) (fun v1 gv1 h=>gn 1 0 (wc h (fun h=>?_) (fun h=>?_)))))))))
 ·exact ws (gn 1 0 (Wp.ret (rr h▸rq)))
 refine Wp.skip (Wp.seq (ws (gn 3 0 (wc h (fun h=>?_) (fun h=>?_)))))
 ·refine FD h [2] [] (fun a=>(pH a)) (fun a h=>?_) (fun j1 h=>?_)
  ·refine Au (Ai 4 0 (AO 13 h (fun h=>?_) (fun h=>?_)))
   ·exact gn 5 0 (jn h)
   exact gn 5 0 (jn h)
  exact Wp.ret (rr h▸rq)
 refine Wp.skip (Wp.seq (FD h [1,37] [.box 1] (fun a=>(pG xR a)) (fun a h=>?_) (fun j2 h=>?_)))
 ·refine Au (Ai 2 0 (RW.c 0 h (BL _ _ _) (fun v2 gv2 h=>Ai 2 0 (AO 22 h (fun h=>?_) (fun h=>?_)))))
  ·exact gn 15 0 (jn h)
  refine Ai 2 0 (RW.c 0 h (BL _ _ _) (fun v3 gv3 h=>Ai 3 0 (AO 28 h (fun h=>?_) (fun h=>?_))))
  ·exact gn 9 0 (jn h)
  refine Ai 4 0 (AO 32 h (fun h=>?_) (fun h=>?_))
  ·exact gn 5 0 (jn h)
  exact gn 5 0 (jn h)
 refine wc h (fun h=>?_) (fun h=>?_)
 ·exact ws (gn 1 0 (Wp.ret (rr h▸rq)))
 refine Wp.skip (Wp.seq (ws (gn 2 0 (Wp.block (ws (gn 2 0 (wc h (fun h=>?_) (fun h=>?_))))))))
 ·exact ws (gn 4 0 (Wp.ret (rr h▸rq)))
 refine ws (gn 2 0 (wc h (fun h=>?_) (fun h=>?_)))
 ·exact ws (gn 4 0 (Wp.ret (rr h▸rq)))
 refine ws (gn 2 0 (wc h (fun h=>?_) (fun h=>?_)))
 ·refine ws (Ai 4 0 (AO 55 h (fun h=>?_) (fun h=>?_)))
  ·exact Ai 2 0 (RW.c 0 h (BL _ _ _) (fun v4 gv4 h=>gn 2 0 (Wp.ret (rr h▸rq))))
  exact gn 5 0 (Wp.ret (rr h▸rq))
 exact Wp.skip (ws (gn 4 0 (Wp.ret (rr h▸rq))))
def Yt (xT:ByteArray) (z1:List Df) (z2:ByteArray) (z3:Int) (z4:Bool):St:=A9 [(0,(Y xT)),(4,(.one (IS z1))),(5,(pb 11))] [(.box 11,[ts z2,i6 z3,tb z4])]
def Ys (z5:List Df):St:=A9 [(4,(.one (IS z5)))] []
def Yr (xT:ByteArray) (a:List Df) (y01:ByteArray) (y11:Int) (y21:Bool) (z6:Bool):St:=A9 [(0,(Y xT)),(4,(.one (IS a))),(5,(pb 11)),(25,(B z6))] [(.box 11,[ts y01,i6 y11,tb y21])]
def Yq (xT:ByteArray) (a:List Df) (x1:Int) (v1:Int×Ek) (v2:Int×Ek) (z7:Bool):St:=A9 [(0,(Y xT)),(4,(.one (IS a))),(5,(pb 11)),(7,(pb 7)),(59,(B z7))] [(.box 7,[i6 (qu (IntKind.i64.wrap x1) 16),i6 (Int.tmod (IntKind.i64.wrap x1) 16),i6 v1.1,i6 v2.1]),(.box 11,[ts v2.2.text_,i6 v2.2.at_,tb v2.2.bad_])]
theorem dN (xT:ByteArray) (r:List Df×Bool) (h:JM xT=some r):AW Tryz.prog 172 [.sv (Y xT)] (.tup [(.one (IS r.1)),(B r.2)]) (rg 1):=by
 refine gk Tryz.func172 rfl Tryz.ntmps172 (ws (gw 2 0 (gw 2 2 (gn 4 0 (sl2 h [0,4,5] [.box 11] (fun s=>(Yt xT s.1 s.2.1 s.2.2.1 s.2.2.2)) [4] [] (fun s=>(Ys s)) ?_ (fun v4 h=>?_))))))
 ·rintro⟨b,y01,y11,y21⟩ o (h:Ef xT b y01 y11 y21=some o) hk1;refine Wp.seq (FD h [0,4,5,25] [.box 11] (fun a=>(Yr xT b y01 y11 y21 a)) (fun a h=>?_) (fun j1 h=>?_))
  ·refine Au (Ai 8 0 (AO 19 h (fun h=>?_) (fun h=>?_)))
   ·exact gn 6 0 (jn h)
   exact gn 6 0 (jn h)
  refine wc h (fun h=>?_) (fun h=>?_)
  ·refine Wp.skip (Wp.block (ws (Ai 5 0 (bd h fun x1 gx1 h=>RW.q (iP gx1) (gw 2 0 (gw 9 0 (Ai 5 0 (Gp h (JI _) (fun _=>rfl) (fun v1 gv1 h=>gw 3 0 (Ai 1 0 (Gp h (JI _) (fun _=>rfl) (fun v2 gv2 h=>gn 2 0 (Wp.seq (FD h [0,4,5,7,59] [.box 7,.box 11] (fun a=>(Yq xT b x1 v1 v2 a)) (fun a h=>?_) (fun j2 h=>?_)))))))))))))))
   ·refine Au (Ai 5 0 (AO 55 h (fun h=>?_) (fun h=>?_)))
    ·exact gn 4 0 (jn h)
    exact Ai 1 0 (RW.c 0 h (SI _) (fun v3 gv3 h=>gn 2 0 (jn h)))
   refine wc h (fun h=>?_) (fun h=>?_)
   ·exact ws (gn 3 2 (Wp.ret (rr (jo h hk1)▸rq)))
   exact Wp.skip (Au (Ai 3 0 (bd h fun q1 gq1 h=>CR (DK WR (fun _=>rfl) b gq1) (gn 1 1 (jl h)))))
  exact Wp.exit (jx h)
 exact ws (gn 3 2 (Wp.ret (rr h▸rq)))
def g6 (o:Bool) (x:Tx):List TV:=[i6 x.Num,i6 x.Seq,.sl o 99 4 (AN c99 x.Recs)]
theorem HP (o:Bool):∀x,(g6 o x).length=3:=fun _=>rfl
theorem AB0:∀l,BG (AN (g6 true) l)=AN (g6 false) l:=D1 (fun x=>by simp only [g6,BG,KX,ACr])
theorem zN:∀l,AT (AN (g6 true) l)=false:=Kq (fun x=>by simp [g6,AT,BB,ADu])
def Qw (l:List Tx):TV:= .sl true 178 3 (AN (g6 true) l)
def ZZ (l:List Tx):TV:= .sl false 178 3 (AN (g6 false) l)
def o9 (a:List Ak) (b:Int) (z1:Int) (z2:ByteArray) (z3:Int) (z4:Int):St:=A9 [(0,(.one (HN a))),(1,(I b)),(4,(pb 4)),(6,(pb 6)),(7,(I z1)),(8,(Y z2)),(9,(I z3))] [(.box 4,[i6 0,i6 0,IS []]),(.box 6,[i6 b,i6 z4,IS []])]
def o8 (a:Int) (z5:ByteArray) (z6:Int):St:=A9 [(4,(pb 4)),(6,(pb 6)),(8,(Y z5))] [(.box 4,[i6 0,i6 0,IS []]),(.box 6,[i6 a,i6 z6,IS []])]
def o7 (e:List Ak) (f:Int) (a:Int) (b:ByteArray) (c:Int) (d:Int) (z7:Bool):St:=A9 [(0,(.one (HN e))),(1,(I f)),(4,(pb 4)),(6,(pb 6)),(7,(I a)),(8,(Y b)),(9,(I c)),(23,(B z7))] [(.box 4,[i6 0,i6 0,IS []]),(.box 6,[i6 f,i6 d,IS []])]
def o6 (b:List Ak) (c:Int) (a:Int) (z8:Int) (z9:ByteArray) (z10:Bool) (z11:Int) (z12:Int):St:=A9 [(0,(.one (HN b))),(1,(I c)),(4,(pb 4)),(6,(pb 6)),(7,(I z8)),(8,(Y z9)),(9,(I a)),(10,(B z10)),(11,(I z11))] [(.box 4,[i6 0,i6 0,IS []]),(.box 6,[i6 c,i6 z12,IS []])]
def o5 (b:List Ak) (c:Int) (a:Int) (z13:Int) (z14:ByteArray) (z15:Bool) (z16:Int):St:=A9 [(0,(.one (HN b))),(1,(I c)),(4,(pb 4)),(6,(pb 6)),(7,(I z13)),(8,(Y z14)),(9,(I a)),(10,(B z15))] [(.box 4,[i6 0,i6 0,IS []]),(.box 6,[i6 c,i6 z16,IS []])]
def oZ (f:List Ak) (g:Int) (c:Int) (a:Int) (d:ByteArray) (b:Bool) (h:Int) (e:Int) (z17:Bool):St:=A9 [(0,(.one (HN f))),(1,(I g)),(4,(pb 4)),(6,(pb 6)),(7,(I a)),(8,(Y d)),(9,(I c)),(10,(B b)),(11,(I h)),(33,(B z17))] [(.box 4,[i6 0,i6 0,IS []]),(.box 6,[i6 g,i6 e,IS []])]
def oY (f:List Ak) (g:Int) (c:Int) (a:Int) (d:ByteArray) (b:Bool) (h:Int) (e:Int) (x1:Ak) (z18:Bool):St:=A9 [(0,(.one (HN f))),(1,(I g)),(4,(pb 4)),(6,(pb 6)),(7,(I a)),(8,(Y d)),(9,(I c)),(10,(B b)),(11,(I h)),(12,(pb 12)),(65,(B z18))] [(.box 4,[i6 0,i6 0,IS []]),(.box 6,[i6 g,i6 e,IS []]),(.box 12,[i6 x1.Page.Kind,i6 x1.Page.Seq,i6 x1.Page.Tx,i6 x1.Page.Part,i6 x1.Page.Count,ts x1.Page.Text])]
def oX (c:List Ak) (d:Int) (a:Int) (e:Int) (b:Int) (x1:Ak) (x2:ByteArray) (z19:Bool):St:=A9 [(0,(.one (HN c))),(1,(I d)),(4,(pb 4)),(6,(pb 6)),(7,(I x1.Page.Count)),(8,(Y x2)),(9,(I a)),(10,(B true)),(11,(I e)),(12,(pb 12)),(80,(B z19))] [(.box 4,[i6 0,i6 0,IS []]),(.box 6,[i6 d,i6 b,IS []]),(.box 12,[i6 x1.Page.Kind,i6 x1.Page.Seq,i6 x1.Page.Tx,i6 x1.Page.Part,i6 x1.Page.Count,ts x1.Page.Text])]
theorem uT (b:List Ak) (e:Int) (r:Tx×Bool) (h:UL b e=some r):AW Tryz.prog 149 [.sv (.one (HN b)),.sv (I e)] (.tup [(.agg (g6 true r.1)),(B r.2)]) (rg 2):=by
 refine gk Tryz.func149 rfl Tryz.ntmps149 (ws (gw 2 0 (gw 4 0 (gw 1 0 (gn 1 0 (Wp.seq (ws (gn 1 0 (ED h [0,1,4,6,7,8,9] [.box 4,.box 6] (fun s=>(o9 b e s.1 s.2.1 s.2.2.1 s.2.2.2)) [4,6,8] [.box 4,.box 6] (fun s=>(o8 e s.1 s.2)) EC ?_ ?_)))))))))
 ·rintro⟨k,l,d,m⟩ o (h:NS b e k l d m=some o) hk1;refine Wp.seq (FD h [0,1,4,6,7,8,9,23] [.box 4,.box 6] (fun a=>(o7 b e k l d m a)) (fun a h=>?_) (fun j1 h=>?_))
  ·refine Au (Ai 3 0 (AO 19 h (fun h=>?_) (fun h=>?_)))
   ·exact gn 4 0 (jn h)
   exact gn 4 0 (jn h)
  refine wc h (fun h=>?_) (fun h=>?_)
  ·refine Wp.skip (Wp.seq (Wp.block (ws (gn 1 0 (Wp.seq (ws (gn 1 0 (BM h [0,1,4,6,7,8,9,10,11] [.box 4,.box 6] (fun s=>(o6 b e d s.1 s.2.1 s.2.2.1 s.2.2.2.1 s.2.2.2.2)) [0,1,4,6,7,8,9,10] [.box 4,.box 6] (fun s=>(o5 b e d s.1 s.2.1 s.2.2.1 s.2.2.2)) EC ?_ ?_))))))))
   ·rintro⟨g,j,i,n,f⟩ o (h:Ip b e d g j i n f=some o);refine Wp.seq (FD h [0,1,4,6,7,8,9,10,11,33] [.box 4,.box 6] (fun a=>(oZ b e d g j i n f a)) (fun a h=>?_) (fun j2 h=>?_))
    ·refine Au (Ai 2 0 (RW.q (Dr Ex b) (Ai 2 0 (AO 30 h (fun h=>?_) (fun h=>?_)))))
     ·exact gn 3 0 (jn h)
     exact gn 3 0 (jn h)
    refine wc h (fun h=>?_) (fun h=>?_)
    ·refine Wp.skip (Wp.seq (Wp.block (ws (Ai 2 0 (CS Ex h (fun x1 gx1 h=>RW.q (D8 Ex gx1 0 2) (RW.q (Re Ex gx1 2 6) (gn 2 0 (Wp.seq (FD h [0,1,4,6,7,8,9,10,11,12,65] [.box 4,.box 6,.box 12] (fun a=>(oY b e d g j i n f x1 a)) (fun a h=>?_) (fun j3 h=>?_)))))))))))
     ·refine Au (Ai 4 0 (AO 44 h (fun h=>?_) (fun h=>?_)))
      ·exact gn 21 0 (jn h)
      refine Ai 6 0 (AO 50 h (fun h=>?_) (fun h=>?_))
      ·exact gn 15 0 (jn h)
      refine Ai 6 0 (AO 56 h (fun h=>?_) (fun h=>?_))
      ·exact gn 9 0 (jn h)
      refine Ai 3 0 (AO 59 h (fun h=>?_) (fun h=>?_))
      ·exact gn 6 0 (jn h)
      exact gn 6 0 (jn h)
     refine wc h (fun h=>?_) (fun h=>?_)
     ·exact Wp.exit (Au (gn 3 0 (jl h)))
     refine Wp.skip (ws (gw 1 0 (gw 3 0 (Ai 3 0 (bd h fun x2 gx2 h=>RW.q (OL gx2) (gn 1 0 (FD h [0,1,4,6,7,8,9,10,11,12,80] [.box 4,.box 6,.box 12] (fun a=>(oX b e d n f x1 x2 a)) (fun a h=>?_) (fun j4 h=>?_))))))))
     ·refine Au (Ai 3 0 (AO 74 h (fun h=>?_) (fun h=>?_)))
      ·exact gn 6 0 (jn h)
      exact gn 6 0 (jn h)
     refine wc h (fun h=>?_) (fun h=>?_)
     ·exact Au (gn 4 0 (Au (gn 3 0 (jl h))))
     exact Wp.skip (Au (gn 3 0 (jl h)))
    exact Wp.exit (jv h)
   intro v1 h E hE;refine AY hE (ws (gn 2 0 (wc h (fun h=>?_) (fun h=>?_))))
   ·exact ws (gn 3 0 (Wp.ret (rr (jo h hk1)▸rq)))
   exact Wp.skip (Au (gn 3 0 (jl h)))
  exact Wp.exit (jx h)
 intro v2 h E hE;exact AY hE (ws (Ai 1 0 (RW.c 0 h (dN _) (fun v3 gv3 h=>gw 5 9 (gw 3 0 (gn 4 0 (Wp.ret (rr h▸rq))))))))
def kX (a:List Ak) (z1:List Int) (z2:Int):St:=A9 [(0,(.one (HN a))),(3,(.one (En z1))),(4,(I z2))] []
def kW (a:List Ak) (z3:List Int):St:=A9 [(0,(.one (HN a))),(3,(.one (En z3)))] []
def kV (b:List Ak) (a:List Int) (c:Int) (x1:Ak) (z4:List Int) (z5:Int):St:=A9 [(0,(.one (HN b))),(3,(.one (En a))),(4,(I c)),(5,(pb 5)),(6,(.one (En z4))),(7,(I z5))] [(.box 5,[i6 x1.Page.Kind,i6 x1.Page.Seq,i6 x1.Page.Tx,i6 x1.Page.Part,i6 x1.Page.Count,ts x1.Page.Text])]
def kT (b:List Ak) (a:List Int) (c:Int) (x1:Ak) (z6:List Int):St:=A9 [(0,(.one (HN b))),(3,(.one (En a))),(4,(I c)),(5,(pb 5)),(6,(.one (En z6)))] [(.box 5,[i6 x1.Page.Kind,i6 x1.Page.Seq,i6 x1.Page.Tx,i6 x1.Page.Part,i6 x1.Page.Count,ts x1.Page.Text])]
def kS (b:List Ak) (a:List Int) (c:Int) (x1:Ak) (z7:List Int) (z8:Int):St:=A9 [(0,(.one (HN b))),(3,(.one (En a))),(4,(I c)),(5,(pb 5)),(6,(.one (En z7))),(8,(I z8))] [(.box 5,[i6 x1.Page.Kind,i6 x1.Page.Seq,i6 x1.Page.Tx,i6 x1.Page.Part,i6 x1.Page.Count,ts x1.Page.Text])]
def kR (a:List Ak) (b:Int) (z9:List Int):St:=A9 [(0,(.one (HN a))),(4,(I b)),(6,(.one (En z9)))] []
def kQ (a:List Ak) (v3:List Int) (z10:List Tx) (z11:Int):St:=A9 [(0,(.one (HN a))),(3,(.one (En v3))),(9,(.one (Qw z10))),(10,(I z11))] []
def kP (z12:List Tx):St:=A9 [(9,(.one (Qw z12)))] []
theorem W0 (a:List Ak) (r:List Tx) (h:Pg a=some r):AW Tryz.prog 126 [.sv (.one (HN a))] (.one (Qw r)) (rg 1):=by
 refine gk Tryz.func126 rfl Tryz.ntmps126 (ws (gw 1 0 (gn 2 2 (Wp.seq (ws (gn 1 0 (BM h [0,3,4] [] (fun s=>(kX a s.1 s.2)) [0,3] [] (fun s=>(kW a s)) EC ?_ ?_)))))))
 ·rintro⟨b,f⟩ o (h:IC a b f=some o);refine Wp.seq (ws (Ai 2 0 (RW.q (Dr Ex a) (gn 1 0 (wc h (fun h=>?_) (fun h=>?_))))))
  ·refine Wp.skip (Wp.seq (Wp.block (ws (Ai 2 0 (CS Ex h (fun x1 gx1 h=>RW.q (D8 Ex gx1 0 2) (RW.q (Re Ex gx1 2 6) (gn 2 0 (Wp.seq (ws (gn 3 0 (wc h (fun h=>?_) (fun h=>?_)))))))))))))
   ·exact Wp.exit (Au (gn 3 0 (jl h)))
   refine Wp.skip (ws (gn 2 2 (Wp.seq (ws (gn 1 0 (BM h [0,3,4,5,6,7] [.box 5] (fun s=>(kV a b f x1 s.1 s.2)) [0,3,4,5,6] [.box 5] (fun s=>(kT a b f x1 s)) EC ?_ ?_))))))
   ·rintro⟨d,i⟩ o (h:K7 b x1 d i=some o);refine Wp.seq (ws (Ai 2 0 (RW.q (Dr k3 b) (gn 1 0 (wc h (fun h=>?_) (fun h=>?_))))))
    ·refine Wp.skip (Wp.seq (Wp.block (Wp.seq (KF mixed (Dn 2 (bd h fun x2 gx2 h=>SW.q (IR k3 gx2) (SW.q (CA k3 gx2 0) (Dn 3 (SW.nil (wc h (fun h=>?_) (fun h=>?_)))))))))))
     ·exact Au (Ai 3 0 (CS k3 h (fun x3 gx3 h=>RW.q (CA k3 gx3 0) (Ai 1 0 (bd h fun q1 gq1 h=>CR (DK k3 (fun _=>rfl) d gq1) (gn 1 1 (Au (gn 3 0 (jl h)))))))))
     exact Wp.skip (Au (gn 3 0 (jl h)))
    exact Wp.exit (jv h)
   intro v1 h E hE;refine AY hE (ws (Ai 4 0 (bd h fun q2 gq2 h=>CR (DK k3 (fun _=>rfl) v1 gq2) (gn 1 1 (Wp.seq (ws (gn 1 0 (BM h [0,3,4,5,6,8] [.box 5] (fun s=>(kS a b f x1 s.1 s.2)) [0,4,6] [] (fun s=>(kR a f s)) EC ?_ ?_))))))))
   ·rintro⟨e,j⟩ o (h:K6 b x1 e j=some o);refine Wp.seq (ws (Ai 2 0 (RW.q (Dr k3 b) (gn 1 0 (wc h (fun h=>?_) (fun h=>?_))))))
    ·refine Wp.skip (Wp.seq (Wp.block (Wp.seq (KF mixed (Dn 2 (bd h fun x4 gx4 h=>SW.q (IR k3 gx4) (SW.q (CA k3 gx4 0) (Dn 3 (SW.nil (wc h (fun h=>?_) (fun h=>?_)))))))))))
     ·exact Au (Ai 3 0 (CS k3 h (fun x5 gx5 h=>RW.q (CA k3 gx5 0) (Ai 1 0 (bd h fun q3 gq3 h=>CR (DK k3 (fun _=>rfl) e gq3) (gn 1 1 (Au (gn 3 0 (jl h)))))))))
     exact Wp.skip (Au (gn 3 0 (jl h)))
    exact Wp.exit (jv h)
   intro v2 h E hE;exact AY hE (Au (gn 2 2 (Au (gn 3 0 (jl h)))))
  exact Wp.exit (jv h)
 intro v3 h E hE;refine AY hE (ws (gn 2 2 (Wp.seq (ws (gn 1 0 (BM h [0,3,9,10] [] (fun s=>(kQ a v3 s.1 s.2)) [9] [] (fun s=>(kP s)) EC ?_ ?_))))))
 ·rintro⟨g,k⟩ o (h:IB a v3 g k=some o);refine Wp.seq (ws (Ai 2 0 (RW.q (Dr k3 v3) (gn 1 0 (wc h (fun h=>?_) (fun h=>?_))))))
  ·refine Wp.skip (Wp.seq (Wp.block (ws (Ai 3 0 (CS k3 h (fun x6 gx6 h=>RW.q (CA k3 gx6 0) (RW.c 0 h (uT _ _) (fun v4 gv4 h=>gw 6 1 (gn 1 0 (wc h (fun h=>?_) (fun h=>?_)))))))))))
   ·exact Au (Ai 3 0 (bd h fun q4 gq4 h=>CR (rM (HP true) g [v4.1] gq4) (gn 1 1 (Au (gn 3 0 (jl h))))))
   exact Wp.skip (Au (gn 3 0 (jl h)))
  exact Wp.exit (jv h)
 intro v5 h E hE;exact AY hE (ws (gn 2 2 (Wp.ret (rr h▸rq))))
def Wc (a:List Tx) (z1:Int) (z2:Int):St:=A9 [(0,(.one (ZZ a))),(3,(I z1)),(4,(I z2))] []
def Wb (a:List Tx) (z3:Int):St:=A9 [(0,(.one (ZZ a))),(3,(I z3))] []
def Wa (a:List Tx) (z4:List Tx) (z5:Int):St:=A9 [(0,(.one (ZZ a))),(5,(.one (Qw z4))),(6,(I z5))] []
def VZ (z6:List Tx):St:=A9 [(5,(.one (Qw z6)))] []
theorem Yn (a:List Tx) (r:List Tx) (h:M5 a=some r):AW Tryz.prog 125 [.sv (.one (ZZ a))] (.one (Qw r)) (rg 1):=by
 refine gk Tryz.func125 rfl Tryz.ntmps125 (ws (gw 1 0 (gn 1 0 (Wp.seq (ws (gn 1 0 (BM h [0,3,4] [] (fun s=>(Wc a s.1 s.2)) [0,3] [] (fun s=>(Wb a s)) EC ?_ ?_)))))))
 ·rintro⟨c,d⟩ o (h:FP a c d=some o);refine Wp.seq (ws (Ai 2 0 (RW.q (Dr (HP false) a) (gn 1 0 (wc h (fun h=>?_) (fun h=>?_))))))
  ·refine Wp.skip (Wp.seq (Wp.block (ws (Ai 2 0 (CS (HP false) h (fun x1 gx1 h=>RW.q (D8 (HP false) gx1 0 2) (RW.q (CA (HP false) gx1 2) (RW.q (Dr WR x1.Recs) (Ai 2 0 (AO 21 h (fun h=>?_) (fun h=>?_)))))))))))
   ·refine Ai 2 0 (CS (HP false) h (fun x2 gx2 h=>RW.q (D8 (HP false) gx2 0 2) (RW.q (CA (HP false) gx2 2) (CS WR h (fun x3 gx3 h=>RW.q (D8 WR gx3 0 0) (RW.q (CA WR gx3 0) (gn 2 0 (wc h (fun h=>?_) (fun h=>?_)))))))))
    ·exact Au (gn 2 0 (Au (gn 3 0 (jl h))))
    exact Wp.skip (Au (gn 3 0 (jl h)))
   exact gn 10 0 (wf (Wp.skip (Au (gn 3 0 (jl h)))))
  exact Wp.exit (jv h)
 intro v1 h E hE;refine AY hE (ws (gn 2 2 (Wp.seq (ws (gn 2 0 (BM h [0,5,6] [] (fun s=>(Wa a s.1 s.2)) [5] [] (fun s=>(VZ s)) EC ?_ ?_))))))
 ·rintro⟨b,e⟩ o (h:Hk a b e=some o);refine Wp.seq (ws (Ai 2 0 (RW.q (Dr (HP false) a) (gn 1 0 (wc h (fun h=>?_) (fun h=>?_))))))
  ·exact Wp.skip (Wp.seq (Wp.block (ws (Ai 2 0 (CS (HP false) h (fun x4 gx4 h=>RW.q (Re (HP false) gx4 0 3) (gw 2 0 (Ai 3 0 (bd h fun q1 gq1 h=>CR (DK WR (fun _=>rfl) [] gq1) (gn 2 0 (Au (Ai 3 0 (bd h fun q2 gq2 h=>CR (rM (HP true) b [(Tx.mk x4.Num x4.Seq q1)] gq2) (gn 1 1 (Au (gn 3 0 (jl h)))))))))))))))))
  exact Wp.exit (jv h)
 intro v2 h E hE;exact AY hE (ws (gn 2 2 (Wp.ret (rr h▸rq))))
def Xs (o:Bool) (x:Arena):List TV:=[.sl o 150 2 (AN (Xt o) x.Knots)]
def cA (xA:Arena) (z1:Int) (z2:List BU):St:=A9 [(1,(pb 1)),(2,(pb 2)),(3,(pb 3)),(4,(I z1))] [(.box 1,[BI xA.Knots]),(.box 2,[Bx []]),(.box 3,[Bx z2])]
def b9 (z3:List BU):St:=A9 [(2,(pb 2)),(3,(pb 3))] [(.box 2,[Bx []]),(.box 3,[Bx z3])]
theorem Pd (xA:Arena) (r:Arena) (h:L5 xA=some r):AW Tryz.prog 87 [.sv (.agg (Xs false xA))] (.agg (Xs true r)) (rg 1):=by
 refine gk Tryz.func87 rfl Tryz.ntmps87 (ws (gw 2 0 (gn 3 0 (Wp.seq (ws (gn 1 0 (BM h [1,2,3,4] [.box 1,.box 2,.box 3] (fun s=>(cA xA s.1 s.2)) [2,3] [.box 2,.box 3] (fun s=>(b9 s)) EC ?_ ?_)))))))
 ·rintro⟨b,a⟩ o (h:Jc xA b a=some o);refine Wp.seq (ws (Ai 3 0 (RW.q (Dr (CG false) xA.Knots) (gn 1 0 (wc h (fun h=>?_) (fun h=>?_))))))
  ·exact Wp.skip (Wp.seq (Wp.block (DZ [18,20] mixed (fun c E h=>by rcases h with⟨h|h,_⟩<;>cases h) (Bl [0,1,2,3,4] 0 (bd h fun x1 gx1 h=>KW.q 5 (IR (CG false) gx1) (KW.q 6 (D8 (CG false) gx1 0 0) (KW.q 7 (CA (CG false) gx1 0) (Bl [9,10,11] 0 (bd h fun x2 gx2 h=>KW.q 12 (IR (CG false) gx2) (KW.q 13 (D8 (CG false) gx2 0 1) (KW.q 14 (CA (CG false) gx2 1) (B8 8 (sH (B8 15 (bd h fun q1 gq1 h=>iJ (DK k3 (fun _=>rfl) [] gq1) (Bl [16,17] 0 (B8 18 (bd h fun q2 gq2 h=>Ms (rM (CG true) a [(BU.mk x1.Leaf q1)] gq2) (Bl [19,20] 0 (Bk (Au (gn 3 0 (jl h)))))))))))))))))))))))
  exact Wp.exit (jv h)
 intro v1 h E hE;exact AY hE (ws (gn 2 0 (Wp.ret (rr h▸rq))))
theorem Fv (xS:Store) (r:Store) (h:Ev xS=some r):AW Tryz.prog 57 [.sv (.agg (So false xS))] (.agg (So true r)) (rg 1):=by
 exact gk Tryz.func57 rfl Tryz.ntmps57 (ws (gn 2 0 (Wp.seq (DZ [10] mixed (fun c E h=>by rcases h with⟨h|h,_⟩<;>cases h) (Bl [1,2,4,5,7,8] 0 (B8 0 (sH (B8 3 (bd h fun q1 gq1 h=>iJ (DK Eo (fun _=>rfl) [] gq1) (B8 6 (KB.c 0 h (Pd _) (fun v1 gv1 h=>Bl [9,10] 0 (Bk (Wp.ret (rr h▸rq)))))))))))))))
def eX (xA:Arena) (z1:Int):St:=A9 [(1,(pb 1)),(3,(I z1))] [(.box 1,[BI xA.Knots])]
def eW:St:=A9 [] []
def eV (xA:Arena) (a:Int) (x1:BU) (z2:Int):St:=A9 [(1,(pb 1)),(3,(I a)),(4,(pb 4)),(5,(I z2))] [(.box 1,[BI xA.Knots]),(.box 4,[tb x1.Leaf,OQ x1.Kids])]
def eT (xA:Arena) (a:Int):St:=A9 [(1,(pb 1)),(3,(I a))] [(.box 1,[BI xA.Knots])]
def eS (xA:Arena) (a:Int) (x1:BU) (b:Int) (z3:Bool):St:=A9 [(1,(pb 1)),(3,(I a)),(4,(pb 4)),(5,(I b)),(62,(B z3))] [(.box 1,[BI xA.Knots]),(.box 4,[tb x1.Leaf,OQ x1.Kids])]
theorem MA (xA:Arena) (r:Bool) (h:FX xA=some r):AW Tryz.prog 62 [.sv (.agg (Xs false xA))] (B r) (rg 1):=by
 refine gk Tryz.func62 rfl Tryz.ntmps62 (ws (gn 2 0 (Wp.seq (ws (gn 1 0 (ED h [1,3] [.box 1] (fun s=>(eX xA s)) [] [] (fun _=>eW) EC ?_ ?_))))))
 ·rintro b o (h:DF xA b=some o) hk1;refine Wp.seq (ws (Ai 3 0 (RW.q (Dr (CG false) xA.Knots) (gn 1 0 (wc h (fun h=>?_) (fun h=>?_))))))
  ·refine Wp.skip (Wp.seq (Wp.block (ws (Ai 3 0 (CS (CG false) h (fun x1 gx1 h=>RW.q (Re (CG false) gx1 0 2) (gn 2 0 (Wp.seq (ws (Ai 2 0 (RW.q (Dr k3 x1.Kids) (gn 1 0 (wc h (fun h=>?_) (fun h=>?_))))))))))))))
   ·exact ws (gn 1 0 (Wp.ret (rr (jo h hk1)▸rq)))
   refine Wp.skip (ws (gn 1 0 (ED h [1,3,4,5] [.box 1,.box 4] (fun s=>(eV xA b x1 s)) [1,3] [.box 1] (fun _=>(eT xA b)) EC ?_ ?_)))
   ·rintro d o (h:DE xA b x1 d=some o) hk2;refine Wp.seq (ws (gn 2 0 (wc h (fun h=>?_) (fun h=>?_))))
    ·refine Wp.skip (Wp.seq (Wp.block (ws (Ai 3 0 (CS k3 h (fun x2 gx2 h=>RW.q (CA k3 gx2 0) (gn 1 0 (FD h [1,3,4,5,62] [.box 1,.box 4] (fun a=>(eS xA b x1 d a)) (fun a h=>?_) (fun j1 h=>?_)))))))))
     ·refine Au (Ai 3 0 (AO 34 h (fun h=>?_) (fun h=>?_)))
      ·refine Ai 4 0 (AO 38 h (fun h=>?_) (fun h=>?_))
       ·exact gn 24 0 (jn h)
       refine Ai 4 0 (AO 42 h (fun h=>?_) (fun h=>?_))
       ·refine Ai 4 0 (AO 46 h (fun h=>?_) (fun h=>?_))
        ·refine Ai 3 0 (RW.c 0 h (BL _ _ _) (fun v1 gv1 h=>Ai 2 0 (AO 52 h (fun h=>?_) (fun h=>?_))))
         ·exact gn 10 0 (jn h)
         exact Ai 3 0 (CS (CG false) h (fun x3 gx3 h=>RW.q (D8 (CG false) gx3 0 0) (RW.q (CA (CG false) gx3 0) (gn 4 0 (jn h)))))
        exact gn 16 0 (jn h)
       exact gn 20 0 (jn h)
      refine Ai 8 0 (AO 42 h (fun h=>?_) (fun h=>?_))
      ·refine Ai 4 0 (AO 46 h (fun h=>?_) (fun h=>?_))
       ·refine Ai 3 0 (RW.c 0 h (BL _ _ _) (fun v2 gv2 h=>Ai 2 0 (AO 52 h (fun h=>?_) (fun h=>?_))))
        ·exact gn 10 0 (jn h)
        exact Ai 3 0 (CS (CG false) h (fun x4 gx4 h=>RW.q (D8 (CG false) gx4 0 0) (RW.q (CA (CG false) gx4 0) (gn 4 0 (jn h)))))
       exact gn 16 0 (jn h)
      exact gn 20 0 (jn h)
     refine wc h (fun h=>?_) (fun h=>?_)
     ·exact ws (gn 1 0 (Wp.ret (rr (jo (jo h hk2) hk1)▸rq)))
     exact Wp.skip (Au (gn 3 0 (jl h)))
    exact Wp.exit (jx h)
   intro v3 h E hE;exact AY hE (Au (gn 3 0 (jl h)))
  exact Wp.exit (jx h)
 intro v4 h E hE;exact AY hE (ws (gn 1 0 (Wp.ret (rr h▸rq))))
theorem Kz (xA:Arena) (a:Int) (r:Bool) (h:GB xA a=some r):AW Tryz.prog 63 [.sv (.agg (Xs false xA)),.sv (I a)] (B r) (rg 2):=by
 refine gk Tryz.func63 rfl Tryz.ntmps63 (ws (gw 2 0 (Ai 3 0 (AO 7 h (fun h=>?_) (fun h=>?_)))))
 ·exact gn 17 0 (Wp.ret (rr h▸rq))
 refine Ai 3 0 (RW.q (Dr (CG false) xA.Knots) (Ai 1 0 (RW.c 0 h (BL _ _ _) (fun v1 gv1 h=>Ai 1 0 (AO 14 h (fun h=>?_) (fun h=>?_))))))
 ·exact Ai 3 0 (CS (CG false) h (fun x1 gx1 h=>RW.q (D8 (CG false) gx1 0 0) (RW.q (CA (CG false) gx1 0) (gn 4 0 (Wp.ret (rr h▸rq))))))
 exact gn 10 0 (Wp.ret (rr h▸rq))
theorem VP (xA:Arena) (b:Int) (a:Int) (r:Int) (h:LQ xA b a=some r):AW Tryz.prog 64 [.sv (.agg (Xs false xA)),.sv (I b),.sv (I a)] (I r) (rg 3):=by
 refine gk Tryz.func64 rfl Tryz.ntmps64 (ws (gn 2 0 (Wp.seq (ws (gn 2 0 (wc h (fun h=>?_) (fun h=>?_)))))))
 ·exact ws (gn 1 0 (Wp.ret (rr h▸rq)))
 refine Wp.skip (ws (Ai 3 0 (CS (CG false) h (fun x1 gx1 h=>RW.q (D8 (CG false) gx1 0 1) (RW.q (CA (CG false) gx1 1) (Ai 2 0 (CS k3 h (fun x2 gx2 h=>RW.q (CA k3 gx2 0) (gn 1 0 (Wp.seq (ws (gn 2 0 (wc h (fun h=>?_) (fun h=>?_))))))))))))))
 ·exact ws (gn 1 0 (Wp.ret (rr h▸rq)))
 exact Wp.skip (ws (Ai 3 0 (CS (CG false) h (fun x3 gx3 h=>RW.q (D8 (CG false) gx3 0 1) (RW.q (CA (CG false) gx3 1) (Ai 2 0 (CS k3 h (fun x4 gx4 h=>RW.q (CA k3 gx4 0) (gn 1 0 (Wp.ret (rr h▸rq)))))))))))
def XU (xS:Store) (z1:List Int) (z2:Int):St:=A9 [(1,(pb 1)),(3,(.one (En z1))),(4,(I z2))] [(.box 1,[DG xS.Vols,BI xS.Arena.Knots,i6 xS.Next])]
def XT (z3:List Int):St:=A9 [(3,(.one (En z3)))] []
theorem Lh (xS:Store) (r:List Int) (h:LP xS=some r):AW Tryz.prog 121 [.sv (.agg (So false xS))] (.one (En r)) (rg 1):=by
 refine gk Tryz.func121 rfl Tryz.ntmps121 (ws (gw 2 0 (gn 2 2 (Wp.seq (ws (gn 1 0 (BM h [1,3,4] [.box 1] (fun s=>(XU xS s.1 s.2)) [3] [] (fun s=>(XT s)) EC ?_ ?_)))))))
 ·rintro⟨a,b⟩ o (h:GA xS a b=some o);refine Wp.seq (ws (Ai 3 0 (RW.q (Dr Eo xS.Vols) (gn 1 0 (wc h (fun h=>?_) (fun h=>?_))))))
  ·exact Wp.skip (Wp.seq (Wp.block (Au (Ai 4 0 (CS Eo h (fun x1 gx1 h=>RW.q (D8 Eo gx1 0 1) (RW.q (CA Eo gx1 1) (Ai 1 0 (bd h fun q1 gq1 h=>CR (DK k3 (fun _=>rfl) a gq1) (gn 1 1 (Au (gn 3 0 (jl h)))))))))))))
  exact Wp.exit (jv h)
 intro v1 h E hE;exact AY hE (ws (gn 2 2 (Wp.ret (rr h▸rq))))
def c4 (x:Bool):List TV:=[tb x]
theorem k4:∀x,(c4 x).length=1:=fun _=>rfl
theorem sh4:∀l,BG (AN c4 l)=AN c4 l:=D1 (fun _=>rfl)
theorem ns4:∀l,AT (AN c4 l)=false:=Kq (fun _=>rfl)
def OP (l:List Bool):TV:= .sl true 4 1 (AN c4 l)
def of4 (l:List Bool):TV:= .sl false 4 1 (AN c4 l)
def jM (xA:Arena) (a:Int) (z1:List Bool) (z2:Int):St:=A9 [(1,(I a)),(2,(pb 2)),(5,(.one (OP z1))),(6,(I z2))] [(.box 2,[BI xA.Knots])]
def jL (z3:List Bool):St:=A9 [(5,(.one (OP z3)))] []
theorem oW (xA:Arena) (a:Int) (r:List Bool) (h:R0 xA a=some r):AW Tryz.prog 147 [.sv (.agg (Xs false xA)),.sv (I a)] (.one (OP r)) (rg 2):=by
 refine gk Tryz.func147 rfl Tryz.ntmps147 (ws (gw 2 0 (Ai 2 0 (RW.q (Dr (CG false) xA.Knots) (bd h fun q1 gq1 h=>CR (fmk k4 false gq1) (gn 1 1 (Wp.seq (ws (gn 2 0 (wc h (fun h=>?_) (fun h=>?_)))))))))))
 ·exact ws (gn 2 2 (Wp.ret (rr h▸rq)))
 refine Wp.skip (ws (Ai 2 0 (CS k4 h (fun x1 gx1 h=>CR (N2 k4 gx1 0 0 true) (RW.nil (Wp.seq (ws (gn 1 0 (BM h [1,2,5,6] [.box 2] (fun s=>(jM xA a s.1 s.2)) [5] [] (fun s=>(jL s)) EC ?_ ?_)))))))))
 ·rintro⟨b,c⟩ o (h:I3 xA a b c=some o);refine Wp.seq (ws (gn 2 0 (wc h (fun h=>?_) (fun h=>?_))))
  ·refine Wp.skip (Wp.seq (Wp.block (ws (Ai 3 0 (CS (CG false) h (fun x2 gx2 h=>RW.q (D8 (CG false) gx2 0 1) (RW.q (CA (CG false) gx2 1) (Ai 1 0 (CS k3 h (fun x3 gx3 h=>RW.q (CA k3 gx3 0) (gn 1 0 (wc h (fun h=>?_) (fun h=>?_)))))))))))))
   ·exact Au (Ai 4 0 (CS (CG false) h (fun x4 gx4 h=>RW.q (D8 (CG false) gx4 0 1) (RW.q (CA (CG false) gx4 1) (Ai 1 0 (CS k3 h (fun x5 gx5 h=>RW.q (CA k3 gx5 0) (CS k4 h (fun x6 gx6 h=>CR (N2 k4 gx6 0 0 true) (RW.nil (Au (gn 3 0 (jl h)))))))))))))
   exact Wp.skip (Au (gn 3 0 (jl h)))
  exact Wp.exit (jv h)
 intro v1 h E hE;exact AY hE (ws (gn 2 2 (Wp.ret (rr h▸rq))))
def Uw (xA:Arena) (a:List Int) (q1:List Int) (z1:Bool) (z2:Int):St:=A9 [(1,(.one (OQ a))),(2,(pb 2)),(4,(pb 4)),(6,(.one (En q1))),(7,(B z1)),(8,(I z2))] [(.box 2,[BI xA.Knots]),(.box 4,[Bx []])]
def Uv (xA:Arena) (a:List Int) (q1:List Int) (z3:Bool):St:=A9 [(1,(.one (OQ a))),(2,(pb 2)),(4,(pb 4)),(6,(.one (En q1))),(7,(B z3))] [(.box 2,[BI xA.Knots]),(.box 4,[Bx []])]
def Uu (xA:Arena) (a:List Int) (q1:List Int) (b:Bool) (c:Int) (z4:Bool):St:=A9 [(1,(.one (OQ a))),(2,(pb 2)),(4,(pb 4)),(6,(.one (En q1))),(7,(B b)),(8,(I c)),(30,(B z4))] [(.box 2,[BI xA.Knots]),(.box 4,[Bx []])]
def Ut (xA:Arena) (a:List Int) (q1:List Int) (z5:List Bool) (z6:Int):St:=A9 [(1,(.one (OQ a))),(2,(pb 2)),(4,(pb 4)),(6,(.one (En q1))),(9,(.one (OP z5))),(10,(I z6))] [(.box 2,[BI xA.Knots]),(.box 4,[Bx []])]
def Us (xA:Arena) (q1:List Int) (z7:List Bool):St:=A9 [(2,(pb 2)),(4,(pb 4)),(6,(.one (En q1))),(9,(.one (OP z7)))] [(.box 2,[BI xA.Knots]),(.box 4,[Bx []])]
def Uq (xA:Arena) (a:List Int) (q1:List Int) (b:Int) (v5:List Bool) (z8:List Bool) (z9:Int):St:=A9 [(1,(.one (OQ a))),(2,(pb 2)),(4,(pb 4)),(6,(.one (En q1))),(9,(.one (OP z8))),(10,(I b)),(11,(.one (OP v5))),(12,(I z9))] [(.box 2,[BI xA.Knots]),(.box 4,[Bx []])]
def Up (xA:Arena) (a:List Int) (q1:List Int) (b:Int) (z10:List Bool):St:=A9 [(1,(.one (OQ a))),(2,(pb 2)),(4,(pb 4)),(6,(.one (En q1))),(9,(.one (OP z10))),(10,(I b))] [(.box 2,[BI xA.Knots]),(.box 4,[Bx []])]
def Uo (xA:Arena) (q1:List Int) (v7:List Bool) (z11:List Int) (z12:Int) (z13:List BU):St:=A9 [(2,(pb 2)),(4,(pb 4)),(6,(.one (En q1))),(9,(.one (OP v7))),(13,(.one (En z11))),(14,(pb 14)),(15,(I z12))] [(.box 2,[BI xA.Knots]),(.box 4,[Bx []]),(.box 14,[Bx z13])]
def Un (q1:List Int) (z14:List Int) (z15:List BU):St:=A9 [(4,(pb 4)),(6,(.one (En q1))),(13,(.one (En z14))),(14,(pb 14))] [(.box 4,[Bx []]),(.box 14,[Bx z15])]
def SH (xA:Arena) (q1:List Int) (v7:List Bool) (a:List Int) (c:Int) (b:List BU) (z16:Bool) (z17:List Int):St:=A9 [(2,(pb 2)),(4,(pb 4)),(6,(.one (En q1))),(9,(.one (OP v7))),(13,(.one (En a))),(14,(pb 14)),(15,(I c)),(16,(pb 16))] [(.box 2,[BI xA.Knots]),(.box 4,[Bx []]),(.box 14,[Bx b]),(.box 16,[tb z16,En z17])]
def SG (xA:Arena) (q1:List Int) (v7:List Bool) (a:List Int) (c:Int) (b:List BU) (j2:Bool×List Int) (z18:Int) (z19:List Int):St:=A9 [(2,(pb 2)),(4,(pb 4)),(6,(.one (En q1))),(9,(.one (OP v7))),(13,(.one (En a))),(14,(pb 14)),(15,(I c)),(16,(pb 16)),(17,(I z18))] [(.box 2,[BI xA.Knots]),(.box 4,[Bx []]),(.box 14,[Bx b]),(.box 16,[tb j2.1,En z19])]
def SF (xA:Arena) (q1:List Int) (v7:List Bool) (a:List Int) (c:Int) (b:List BU) (j2:Bool×List Int) (z20:List Int):St:=A9 [(2,(pb 2)),(4,(pb 4)),(6,(.one (En q1))),(9,(.one (OP v7))),(13,(.one (En a))),(14,(pb 14)),(15,(I c)),(16,(pb 16))] [(.box 2,[BI xA.Knots]),(.box 4,[Bx []]),(.box 14,[Bx b]),(.box 16,[tb j2.1,En z20])]
def SE (xA:Arena) (q1:List Int) (v7:List Bool) (a:List Int) (d:Int) (b:List BU) (j2:Bool×List Int) (e:Int) (c:List Int) (z21:Bool):St:=A9 [(2,(pb 2)),(4,(pb 4)),(6,(.one (En q1))),(9,(.one (OP v7))),(13,(.one (En a))),(14,(pb 14)),(15,(I d)),(16,(pb 16)),(17,(I e)),(117,(B z21))] [(.box 2,[BI xA.Knots]),(.box 4,[Bx []]),(.box 14,[Bx b]),(.box 16,[tb j2.1,En c])]
def SD (v9:List Int×List BU) (z22:List Int) (z23:Int):St:=A9 [(4,(pb 4)),(6,(.one (En z22))),(13,(.one (En v9.1))),(14,(pb 14)),(18,(I z23))] [(.box 4,[Bx []]),(.box 14,[Bx v9.2])]
def SC (v9:List Int×List BU) (z24:List Int):St:=A9 [(4,(pb 4)),(6,(.one (En z24))),(14,(pb 14))] [(.box 4,[Bx []]),(.box 14,[Bx v9.2])]
theorem FO (xA:Arena) (b:List Int) (r:Arena×List Int) (h:Je xA b=some r):AW Tryz.prog 120 [.sv (.agg (Xs false xA)),.sv (.one (OQ b))] (.tup [(.agg (Xs true r.1)),(.one (En r.2))]) (rg 2):=by
 refine gk Tryz.func120 rfl Tryz.ntmps120 (ws (gw 3 0 (Ai 2 0 (bd h fun q1 gq1 h=>CR (DK k3 (fun _=>rfl) [] gq1) (gw 1 1 (Ai 1 0 (RW.c 0 h (MA _) (fun v1 gv1 h=>gn 1 0 (Wp.seq (ws (gn 1 0 (BM h [1,2,4,6,7,8] [.box 2,.box 4] (fun s=>(Uw xA b q1 s.1 s.2)) [1,2,4,6,7] [.box 2,.box 4] (fun s=>(Uv xA b q1 s)) EC ?_ ?_))))))))))))
 ·rintro⟨k,n⟩ o (h:Fo xA b k n=some o);refine Wp.seq (FD h [1,2,4,6,7,8,30] [.box 2,.box 4] (fun a=>(Uu xA b q1 k n a)) (fun a h=>?_) (fun j1 h=>?_))
  ·refine Au (Ai 2 0 (RW.q (Dr k3 b) (Ai 2 0 (AO 28 h (fun h=>?_) (fun h=>?_)))))
   ·exact gn 2 0 (jn h)
   exact gn 2 0 (jn h)
  refine wc h (fun h=>?_) (fun h=>?_)
  ·exact Wp.skip (Wp.seq (Wp.block (Sv 5 mixed (Dn 3 (bd h fun x1 gx1 h=>SW.q (IR k3 gx1) (SW.q (CA k3 gx1 0) (SW.nil (RW.c 0 h (Kz _ _) (fun v2 gv2 h=>gn 1 0 (Au (gn 3 0 (jl h))))))))))))
  exact Wp.exit (jv h)
 intro v3 h E hE;refine AY hE (Wp.seq (ws (gn 2 0 (wc h (fun h=>?_) (fun h=>?_)))))
 ·exact ws (Ai 1 0 (RW.c 0 h (Pd _) (fun v4 gv4 h=>gn 3 4 (Wp.ret (rr h▸rq)))))
 refine Wp.skip (ws (Ai 2 0 (RW.q (Dr (CG false) xA.Knots) (bd h fun q2 gq2 h=>CR (fmk k4 false gq2) (gn 1 1 (Wp.seq (ws (gn 1 0 (BM h [1,2,4,6,9,10] [.box 2,.box 4] (fun s=>(Ut xA b q1 s.1 s.2)) [2,4,6,9] [.box 2,.box 4] (fun s=>(Us xA q1 s)) EC ?_ ?_)))))))))
 ·rintro⟨i,m⟩ o (h:Fl xA b i m=some o);refine Wp.seq (ws (Ai 2 0 (RW.q (Dr k3 b) (gn 1 0 (wc h (fun h=>?_) (fun h=>?_))))))
  ·refine Wp.skip (Wp.seq (Wp.block (Wp.seq (Sv 5 mixed (Dn 3 (bd h fun x2 gx2 h=>SW.q (IR k3 gx2) (SW.q (CA k3 gx2 0) (SW.nil (RW.c 0 h (oW _ _) (fun v5 gv5 h=>gw 1 1 (gn 1 0 (BM h [1,2,4,6,9,10,11,12] [.box 2,.box 4] (fun s=>(Uq xA b q1 m v5 s.1 s.2)) [1,2,4,6,9,10] [.box 2,.box 4] (fun s=>(Up xA b q1 m s)) EC ?_ ?_))))))))))))
   ·rintro⟨j,t⟩ o (h:G3 v5 j t=some o);refine Wp.seq (ws (Ai 2 0 (RW.q (Dr k4 v5) (gn 1 0 (wc h (fun h=>?_) (fun h=>?_))))))
    ·refine Wp.skip (Wp.seq (Wp.block (Au (Ai 4 0 (CS k4 h (fun x3 gx3 h=>RW.q (CA k4 gx3 0) (Ai 1 0 (AO 72 h (fun h=>?_) (fun h=>?_)))))))))
     ·exact Ai 5 0 (CS k4 h (fun x4 gx4 h=>CR (N2 k4 gx4 0 0 true) (RW.nil (Au (gn 3 0 (jl h))))))
     exact Ai 2 0 (CS k4 h (fun x5 gx5 h=>RW.q (CA k4 gx5 0) (Ai 1 0 (CS k4 h (fun x6 gx6 h=>CR (N2 k4 gx6 0 0 x5) (RW.nil (Au (gn 3 0 (jl h)))))))))
    exact Wp.exit (jv h)
   intro v6 h E hE;exact AY hE (Au (gn 3 0 (jl h)))
  exact Wp.exit (jv h)
 intro v7 h E hE;refine AY hE (ws (Ai 2 0 (RW.q (Dr (CG false) xA.Knots) (bd h fun q3 gq3 h=>CR (fmk k3 0 gq3) (gw 1 1 (gn 3 0 (Wp.seq (ws (gn 1 0 (BM h [2,4,6,9,13,14,15] [.box 2,.box 4,.box 14] (fun s=>(Uo xA q1 v7 s.1 s.2.1 s.2.2)) [4,6,13,14] [.box 4,.box 14] (fun s=>(Un q1 s.1 s.2)) EC ?_ ?_))))))))))
 ·rintro⟨e,g,d⟩ o (h:Fk xA v7 e g d=some o);refine Wp.seq (ws (Ai 3 0 (RW.q (Dr (CG false) xA.Knots) (gn 1 0 (wc h (fun h=>?_) (fun h=>?_))))))
  ·refine Wp.skip (Wp.seq (Wp.block (Wp.seq (ws (Ai 2 0 (CS k4 h (fun x7 gx7 h=>RW.q (CA k4 gx7 0) (gn 1 0 (wc h (fun h=>?_) (fun h=>?_))))))))))
   ·exact Wp.exit (Au (gn 3 0 (jl h)))
   refine Wp.skip (FD h [2,4,6,9,13,14,15,16] [.box 2,.box 4,.box 14,.box 16] (fun a=>(SH xA q1 v7 e g d a.1 a.2)) (fun a h=>?_) (fun j2 h=>?_))
   ·refine DZ [16] mixed (fun c E h=>by rcases h with⟨h|h,_⟩<;>cases h) (Bl [0,1,2] 0 (bd h fun x8 gx8 h=>KW.q 3 (IR (CG false) gx8) (KW.q 4 (D8 (CG false) gx8 0 0) (KW.q 5 (CA (CG false) gx8 0) (Bl [7,8,9] 0 (bd h fun x9 gx9 h=>KW.q 10 (IR (CG false) gx9) (KW.q 11 (D8 (CG false) gx9 0 1) (KW.q 12 (CA (CG false) gx9 1) (DW 6 15 ?_ ?_)))))))))
    ·refine sH (DW 13 15 ?_ ?_)
     ·exact bd h fun q4 gq4 h=>iJ (DK k3 (fun _=>rfl) [] gq4) (Bl [14,15,16] 0 (Bk (jn h)))
     exact KB.o false (B8 13 (bd h fun q5 gq5 h=>iJ (DK k3 (fun _=>rfl) [] gq5) (Bl [14,16] 0 (Bk (jn h)))))
    exact KB.o false (B8 6 (sH (B8 13 (bd h fun q6 gq6 h=>iJ (DK k3 (fun _=>rfl) [] gq6) (Bl [14,16] 0 (Bk (jn h)))))))
   refine Wp.seq (ws (gn 1 0 (BM h [2,4,6,9,13,14,15,16,17] [.box 2,.box 4,.box 14,.box 16] (fun s=>(SG xA q1 v7 e g d j2 s.1 s.2)) [2,4,6,9,13,14,15,16] [.box 2,.box 4,.box 14,.box 16] (fun s=>(SF xA q1 v7 e g d j2 s)) EC ?_ ?_)))
   ·rintro⟨p,l⟩ o (h:Fj e j2 p l=some o);refine Wp.seq (FD h [2,4,6,9,13,14,15,16,17,117] [.box 2,.box 4,.box 14,.box 16] (fun a=>(SE xA q1 v7 e g d j2 p l a)) (fun a h=>?_) (fun j3 h=>?_))
    ·refine Au (Ai 3 0 (AO 113 h (fun h=>?_) (fun h=>?_)))
     ·exact gn 4 0 (jn h)
     exact gn 4 0 (jn h)
    refine wc h (fun h=>?_) (fun h=>?_)
    ·refine Wp.skip (Wp.seq (Wp.block (ws (Ai 3 0 (CS k3 h (fun x10 gx10 h=>RW.q (CA k3 gx10 0) (gn 1 0 (wc h (fun h=>?_) (fun h=>?_)))))))))
     ·exact Sv 12 mixed (Dn 7 (bd h fun x11 gx11 h=>SW.q (IR k3 gx11) (SW.q (CA k3 gx11 0) (bd h fun x12 gx12 h=>SW.q (IR k3 gx12) (SW.q (CA k3 gx12 0) (bd h fun x13 gx13 h=>SW.q (IR k3 gx13) (SW.nil (CR (N2 k3 gx13 0 1 x12) (RW.nil (Au (gn 3 0 (jl h))))))))))))
     exact Wp.skip (Au (gn 3 0 (jl h)))
    exact Wp.exit (jv h)
   intro v8 h E hE;exact AY hE (ws (Ai 4 0 (RW.q (Dr (CG true) d) (CS k3 h (fun x14 gx14 h=>CR (N2 k3 gx14 0 0 (ln d)) (RW.nil (Au (Ai 4 0 (bd h fun q7 gq7 h=>CR (rM (CG true) d [(BU.mk j2.1 v8)] gq7) (gn 2 0 (Au (gn 3 0 (jl h)))))))))))))
  exact Wp.exit (jv h)
 intro v9 h E hE;refine AY hE (Wp.seq (ws (gn 1 0 (BM h [4,6,13,14,18] [.box 4,.box 14] (fun s=>(SD v9 s.1 s.2)) [4,6,14] [.box 4,.box 14] (fun s=>(SC v9 s)) EC ?_ ?_))))
 ·rintro⟨f,u⟩ o (h:Fi v9 f u=some o);refine Wp.seq (ws (Ai 2 0 (RW.q (Dr k3 f) (gn 1 0 (wc h (fun h=>?_) (fun h=>?_))))))
  ·refine Wp.skip (Wp.seq (Wp.block (ws (Ai 2 0 (CS k3 h (fun x15 gx15 h=>RW.q (CA k3 gx15 0) (gn 1 0 (wc h (fun h=>?_) (fun h=>?_)))))))))
   ·exact Au (Ai 5 0 (CS k3 h (fun x16 gx16 h=>RW.q (CA k3 gx16 0) (CS k3 h (fun x17 gx17 h=>RW.q (CA k3 gx17 0) (CS k3 h (fun x18 gx18 h=>CR (N2 k3 gx18 0 0 x17) (RW.nil (Au (gn 3 0 (jl h)))))))))))
   exact Wp.skip (Au (gn 3 0 (jl h)))
  exact Wp.exit (jv h)
 intro v10 h E hE;exact AY hE (ws (gn 4 8 (Wp.ret (rr h▸rq))))
def cY (xS:Store) (z1:Bool):St:=A9 [(1,(pb 1)),(23,(B z1))] [(.box 1,[DG xS.Vols,BI xS.Arena.Knots,i6 xS.Next])]
def cX (xS:Store) (z2:Int):St:=A9 [(1,(pb 1)),(3,(I z2))] [(.box 1,[DG xS.Vols,BI xS.Arena.Knots,i6 xS.Next])]
def cW (xS:Store):St:=A9 [(1,(pb 1))] [(.box 1,[DG xS.Vols,BI xS.Arena.Knots,i6 xS.Next])]
def cV (xS:Store) (a:Int) (x1:Vol) (z3:Bool):St:=A9 [(1,(pb 1)),(3,(I a)),(4,(pb 4)),(63,(B z3))] [(.box 1,[DG xS.Vols,BI xS.Arena.Knots,i6 xS.Next]),(.box 4,[i6 x1.Id,i6 x1.Root])]
def cU (xS:Store) (a:Int) (x1:Vol) (z4:Int):St:=A9 [(1,(pb 1)),(3,(I a)),(4,(pb 4)),(5,(I z4))] [(.box 1,[DG xS.Vols,BI xS.Arena.Knots,i6 xS.Next]),(.box 4,[i6 x1.Id,i6 x1.Root])]
def cT (xS:Store) (a:Int):St:=A9 [(1,(pb 1)),(3,(I a))] [(.box 1,[DG xS.Vols,BI xS.Arena.Knots,i6 xS.Next])]
def cS (xS:Store) (z5:List BU):St:=A9 [(1,(pb 1)),(6,(pb 6))] [(.box 1,[DG xS.Vols,BI xS.Arena.Knots,i6 xS.Next]),(.box 6,[Bx z5])]
theorem T5 (xS:Store) (r:Bool) (h:Nk xS=some r):AW Tryz.prog 88 [.sv (.agg (So false xS))] (B r) (rg 1):=by
 refine gk Tryz.func88 rfl Tryz.ntmps88 (ws (gn 2 0 (Wp.seq (FD h [1,23] [.box 1] (fun a=>(cY xS a)) (fun a h=>?_) (fun j1 h=>?_)))))
 ·refine Au (Ai 2 0 (RW.q (Dr Eo xS.Vols) (Ai 2 0 (AO 12 h (fun h=>?_) (fun h=>?_)))))
  ·exact gn 11 0 (jn h)
  refine Ai 2 0 (RW.c 0 h (MA _) (fun v1 gv1 h=>Ai 3 0 (AO 18 h (fun h=>?_) (fun h=>?_))))
  ·exact gn 5 0 (jn h)
  exact Ai 2 0 (RW.c 0 h (BL _ _ _) (fun v2 gv2 h=>gn 2 0 (jn h)))
 refine wc h (fun h=>?_) (fun h=>?_)
 ·exact ws (gn 1 0 (Wp.ret (rr h▸rq)))
 refine Wp.skip (Wp.seq (ws (gn 1 0 (ED h [1,3] [.box 1] (fun s=>(cX xS s)) [1] [.box 1] (fun _=>(cW xS)) EC ?_ ?_))))
 ·rintro b o (h:H8 xS b=some o) hk1;refine Wp.seq (ws (Ai 3 0 (RW.q (Dr Eo xS.Vols) (gn 1 0 (wc h (fun h=>?_) (fun h=>?_))))))
  ·refine Wp.skip (Wp.seq (Wp.block (ws (Ai 3 0 (CS Eo h (fun x1 gx1 h=>RW.q (Re Eo gx1 0 2) (gn 2 0 (Wp.seq (FD h [1,3,4,63] [.box 1,.box 4] (fun a=>(cV xS b x1 a)) (fun a h=>?_) (fun j2 h=>?_))))))))))
   ·refine DZ [] mixed (fun c E h=>by rcases h with⟨h|h,_⟩<;>cases h) (Bl [0,1] 0 (B8 2 (KB.c 0 h (BL _ _ _) (fun v3 gv3 h=>Bl [3,4] 0 (ND 40 h (fun h=>?_) (fun h=>?_))))))
    ·exact Bl [5,6,7,8,9,10,11,12,13,14,15,16,17,18,19,20,21,22,23,24,25,26,27] 0 (Bk (jn h))
    refine Bl [5,6,7] 0 (ND 43 h (fun h=>?_) (fun h=>?_))
    ·refine Bl [8,9,10,11] 0 (bd h fun x2 gx2 h=>KW.q 12 (IR Eo gx2) (KW.q 13 (D8 Eo gx2 0 0) (KW.q 14 (CA Eo gx2 0) (Bl [15,16,17,18,19,20] 0 (ND 56 h (fun h=>?_) (fun h=>?_))))))
     ·exact Bl [21,22,23,24,25,26,27] 0 (Bk (jn h))
     exact Bl [21,22,23,24] 0 (B8 25 (KB.c 0 h (Kz _ _) (fun v4 gv4 h=>Bl [26,27] 0 (Bk (jn h)))))
    exact Bl [8,9,10,11,12,13,14,15,16,17,18,19,20,21,22,23,24] 0 (B8 25 (KB.c 0 h (Kz _ _) (fun v5 gv5 h=>Bl [26,27] 0 (Bk (jn h)))))
   refine wc h (fun h=>?_) (fun h=>?_)
   ·exact ws (gn 1 0 (Wp.ret (rr (jo h hk1)▸rq)))
   refine Wp.skip (ws (gn 1 0 (ED h [1,3,4,5] [.box 1,.box 4] (fun s=>(cU xS b x1 s)) [1,3] [.box 1] (fun _=>(cT xS b)) EC ?_ ?_)))
   ·rintro d o (h:H7 xS x1 d=some o) hk2;refine Wp.seq (ws (gn 2 0 (wc h (fun h=>?_) (fun h=>?_))))
    ·refine Wp.skip (Wp.seq (Wp.block (Wp.seq (DZ [] mixed (fun c E h=>by rcases h with⟨h|h,_⟩<;>cases h) (Bl [0,1,2,3,4,6,7] 0 (B8 5 (KB.c 0 h (VP _ _ _) (fun v6 gv6 h=>Bl [8] 0 (Bk (wc h (fun h=>?_) (fun h=>?_)))))))))))
     ·exact ws (gn 1 0 (Wp.ret (rr (jo (jo h hk2) hk1)▸rq)))
     exact Wp.skip (Au (gn 3 0 (jl h)))
    exact Wp.exit (jx h)
   intro v7 h E hE;exact AY hE (Au (gn 3 0 (jl h)))
  exact Wp.exit (jx h)
 intro v8 h E hE;refine AY hE (FD h [1,6] [.box 1,.box 6] (fun a=>(cS xS a)) (fun a h=>?_) (fun j3 h=>?_))
 ·refine DZ [9] mixed (fun c E h=>by rcases h with⟨h|h,_⟩<;>cases h) (Bl [0,1,2] 0 (DW 3 8 ?_ ?_))
  ·refine KB.c 0 h (Lh _) (fun v10 gv10 h=>DW 4 8 ?_ ?_)
   ·exact KB.c 0 h (gs (ca rfl (ca (co (cs (iO _))) rfl)) (FO _ _)) (fun v12 gv12 h=>oj [5,10] h) (hc:=(.inr (fun v=>by simp [BE,BP,AT,BB,ns3,KY,En,Bx,Xs])))
   exact KB.o false (B8 4 (KB.c 0 h (gs (ca rfl (ca (co (cs (iO _))) rfl)) (FO _ _)) (fun v13 gv13 h=>Bl [5] 1 (Mq 6 (oj [10] h))) (hc:=(.inr (fun v=>by simp [BE,BP,AT,BB,ns3,KY,En,Bx,Xs])))))
  exact KB.o false (B8 3 (KB.c 0 h (Lh _) (fun v14 gv14 h=>B8 4 (KB.c 0 h (gs (ca rfl (ca (co (cs (iO _))) rfl)) (FO _ _)) (fun v15 gv15 h=>Bl [5] 1 (Mq 6 (oj [10] h))) (hc:=(.inr (fun v=>by simp [BE,BP,AT,BB,ns3,KY,En,Bx,Xs])))))))
 exact ws (Ai 2 0 (RW.q (Dr (CG true) j3) (Ai 3 0 (RW.q (Dr (CG false) xS.Arena.Knots) (gn 2 0 (Wp.ret (rr h▸rq)))))))
def oV (xS:Store) (a:Int) (z1:Int):St:=A9 [(1,(I a)),(2,(pb 2)),(5,(I z1))] [(.box 2,[DG xS.Vols,BI xS.Arena.Knots,i6 xS.Next])]
def oU:St:=A9 [] []
theorem JG (xS:Store) (a:Int) (r:Int) (h:Gt xS a=some r):AW Tryz.prog 32 [.sv (.agg (So false xS)),.sv (I a)] (I r) (rg 2):=by
 refine gk Tryz.func32 rfl Tryz.ntmps32 (ws (gn 2 0 (Wp.seq (ws (gn 1 0 (ED h [1,2,5] [.box 2] (fun s=>(oV xS a s)) [] [] (fun _=>oU) EC ?_ ?_))))))
 ·rintro b o (h:JH xS a b=some o) hk1;refine Wp.seq (ws (Ai 3 0 (RW.q (Dr Eo xS.Vols) (gn 1 0 (wc h (fun h=>?_) (fun h=>?_))))))
  ·refine Wp.skip (Wp.seq (Wp.block (ws (Ai 3 0 (CS Eo h (fun x1 gx1 h=>RW.q (D8 Eo gx1 0 0) (RW.q (CA Eo gx1 0) (gn 2 0 (wc h (fun h=>?_) (fun h=>?_))))))))))
   ·exact ws (gn 2 0 (Wp.ret (rr (jo h hk1)▸rq)))
   exact Wp.skip (Au (gn 3 0 (jl h)))
  exact Wp.exit (jx h)
 intro v1 h E hE;exact AY hE (ws (gn 1 0 (Wp.ret (rr h▸rq))))
def jJ (xS:Store) (xR:Df) (z1:Int):St:=A9 [(2,(pb 2)),(3,(pb 3)),(4,(pb 4)),(6,(I z1))] [(.box 2,[DG xS.Vols,BI xS.Arena.Knots,i6 xS.Next]),(.box 3,[i6 xR.Kind,i6 xR.Vol,i6 xR.Arg,i6 xR.Chunk]),(.box 4,[CZ [],Bx [],i6 0])]
def jI (xS:Store) (xR:Df) (j1:Int) (z2:Bool):St:=A9 [(2,(pb 2)),(3,(pb 3)),(4,(pb 4)),(6,(I j1)),(39,(B z2))] [(.box 2,[DG xS.Vols,BI xS.Arena.Knots,i6 xS.Next]),(.box 3,[i6 xR.Kind,i6 xR.Vol,i6 xR.Arg,i6 xR.Chunk]),(.box 4,[CZ [],Bx [],i6 0])]
def jH (xS:Store) (xR:Df) (j1:Int) (v5:Store) (z3:List Vol) (z4:Int):St:=A9 [(2,(pb 2)),(3,(pb 3)),(4,(pb 4)),(6,(I j1)),(8,(pb 8)),(9,(.one (CZ z3))),(10,(I z4))] [(.box 2,[DG xS.Vols,BI xS.Arena.Knots,i6 xS.Next]),(.box 3,[i6 xR.Kind,i6 xR.Vol,i6 xR.Arg,i6 xR.Chunk]),(.box 4,[CZ [],Bx [],i6 0]),(.box 8,[CZ v5.Vols,Bx v5.Arena.Knots,i6 v5.Next])]
def jG (xS:Store) (xR:Df) (j1:Int) (v5:Store) (z5:List Vol):St:=A9 [(2,(pb 2)),(3,(pb 3)),(4,(pb 4)),(6,(I j1)),(8,(pb 8)),(9,(.one (CZ z5)))] [(.box 2,[DG xS.Vols,BI xS.Arena.Knots,i6 xS.Next]),(.box 3,[i6 xR.Kind,i6 xR.Vol,i6 xR.Arg,i6 xR.Chunk]),(.box 4,[CZ [],Bx [],i6 0]),(.box 8,[CZ v5.Vols,Bx v5.Arena.Knots,i6 v5.Next])]
def jF (xS:Store) (xR:Df) (v5:Store) (z6:List Vol) (z7:Int):St:=A9 [(2,(pb 2)),(3,(pb 3)),(4,(pb 4)),(8,(pb 8)),(9,(.one (CZ z6))),(11,(I z7))] [(.box 2,[DG xS.Vols,BI xS.Arena.Knots,i6 xS.Next]),(.box 3,[i6 xR.Kind,i6 xR.Vol,i6 xR.Arg,i6 xR.Chunk]),(.box 4,[CZ [],Bx [],i6 0]),(.box 8,[CZ v5.Vols,Bx v5.Arena.Knots,i6 v5.Next])]
def jE (v5:Store) (z8:List Vol):St:=A9 [(4,(pb 4)),(8,(pb 8)),(9,(.one (CZ z8)))] [(.box 4,[CZ [],Bx [],i6 0]),(.box 8,[CZ v5.Vols,Bx v5.Arena.Knots,i6 v5.Next])]
theorem oT (xS:Store) (xR:Df) (r:Store×Bool) (h:LO xS xR=some r):AW Tryz.prog 90 [.sv (.agg (So false xS)),.sv (.agg (c99 xR))] (.tup [(.agg (So true r.1)),(B r.2)]) (rg 2):=by
 refine gk Tryz.func90 rfl Tryz.ntmps90 (ws (gw 4 0 (gn 1 0 (Wp.seq (ws (gn 3 0 (nI h [2,3,4,6] [.box 2,.box 3,.box 4] (fun a=>(jJ xS xR a)) ?_ ?_)))))))
 ·intro a h e;refine wc h (fun h=>?_) (fun h=>?_)
  ·refine ws (Ai 3 0 (RW.c 0 h (JG _ _) (fun v1 gv1 h=>gn 1 0 (Wp.seq (ws (gn 2 0 (wc h (fun h=>?_) (fun h=>?_))))))))
   ·exact ws (Ai 1 0 (RW.c 0 h (Fv _) (fun v2 gv2 h=>gn 2 0 (Wp.ret (rr (jr h e)▸rq)))))
   exact Wp.skip (Au (Ai 3 0 (CS Eo h (fun x1 gx1 h=>RW.q (D8 Eo gx1 0 1) (RW.q (CA Eo gx1 1) (gn 1 0 (jm h)))))))
  exact Wp.skip (jm h)
 intro j1 h E hE;refine AY hE (Wp.seq (FD h [2,3,4,6,39] [.box 2,.box 3,.box 4] (fun a=>(jI xS xR j1 a)) (fun a h=>?_) (fun j2 h=>?_)))
 ·refine Au (Ai 3 0 (RW.c 0 h (JG _ _) (fun v3 gv3 h=>Ai 2 0 (AO 34 h (fun h=>?_) (fun h=>?_)))))
  ·exact gn 5 0 (jn h)
  exact Ai 2 0 (RW.q (Dr Eo xS.Vols) (gn 2 0 (jn h)))
 refine wc h (fun h=>?_) (fun h=>?_)
 ·exact ws (Ai 1 0 (RW.c 0 h (Fv _) (fun v4 gv4 h=>gn 2 0 (Wp.ret (rr h▸rq)))))
 refine Wp.skip (ws (Ai 1 0 (RW.c 0 h (Fv _) (fun v5 gv5 h=>gw 2 0 (gn 2 2 (Wp.seq (ws (gn 1 0 (BM h [2,3,4,6,8,9,10] [.box 2,.box 3,.box 4,.box 8] (fun s=>(jH xS xR j1 v5 s.1 s.2)) [2,3,4,6,8,9] [.box 2,.box 3,.box 4,.box 8] (fun s=>(jG xS xR j1 v5 s)) EC ?_ ?_)))))))))
 ·rintro⟨b,f⟩ o (h:Ky xS xR b f=some o);refine Wp.seq (ws (Ai 3 0 (RW.q (Dr Eo xS.Vols) (gn 1 0 (wc h (fun h=>?_) (fun h=>?_))))))
  ·refine Wp.skip (Wp.seq (Wp.block (Wp.seq (KF mixed (Dn 3 (bd h fun x2 gx2 h=>SW.q (IR Eo gx2) (SW.q (D8 Eo gx2 0 0) (SW.q (CA Eo gx2 0) (Dn 3 (SW.nil (wc h (fun h=>?_) (fun h=>?_))))))))))))
   ·exact Au (Ai 4 0 (CS Eo h (fun x3 gx3 h=>RW.q (Re Eo gx3 0 2) (Ai 1 0 (bd h fun q1 gq1 h=>CR (DK Eo (fun _=>rfl) b gq1) (gn 1 1 (Au (gn 3 0 (jl h)))))))))
   exact Wp.skip (Au (gn 3 0 (jl h)))
  exact Wp.exit (jv h)
 intro v6 h E hE;refine AY hE (ws (Ai 6 0 (bd h fun q2 gq2 h=>CR (DK Eo (fun _=>rfl) v6 gq2) (gn 1 1 (Wp.seq (ws (gn 1 0 (BM h [2,3,4,8,9,11] [.box 2,.box 3,.box 4,.box 8] (fun s=>(jF xS xR v5 s.1 s.2)) [4,8,9] [.box 4,.box 8] (fun s=>(jE v5 s)) EC ?_ ?_))))))))
 ·rintro⟨d,g⟩ o (h:Kx xS xR d g=some o);refine Wp.seq (ws (Ai 3 0 (RW.q (Dr Eo xS.Vols) (gn 1 0 (wc h (fun h=>?_) (fun h=>?_))))))
  ·refine Wp.skip (Wp.seq (Wp.block (Wp.seq (KF mixed (Dn 3 (bd h fun x4 gx4 h=>SW.q (IR Eo gx4) (SW.q (D8 Eo gx4 0 0) (SW.q (CA Eo gx4 0) (Dn 3 (SW.nil (wc h (fun h=>?_) (fun h=>?_))))))))))))
   ·exact Au (Ai 4 0 (CS Eo h (fun x5 gx5 h=>RW.q (Re Eo gx5 0 2) (Ai 1 0 (bd h fun q3 gq3 h=>CR (DK Eo (fun _=>rfl) d gq3) (gn 1 1 (Au (gn 3 0 (jl h)))))))))
   exact Wp.skip (Au (gn 3 0 (jl h)))
  exact Wp.exit (jv h)
 intro v7 h E hE;exact AY hE (ws (gw 3 0 (gn 3 0 (Wp.ret (rr h▸rq)))))
def XS (xS:Store) (z1:List Int) (z2:List BU):St:=A9 [(1,(pb 1)),(2,(pb 2)),(3,(pb 3)),(4,(.one (En z1)))] [(.box 1,[DG xS.Vols,BI xS.Arena.Knots,i6 xS.Next]),(.box 2,[CZ [],Bx [],i6 0]),(.box 3,[Bx z2])]
def XR (xS:Store) (j1:List Int×List BU) (z3:List Vol):St:=A9 [(2,(pb 2)),(4,(.one (En j1.1))),(5,(pb 5))] [(.box 2,[CZ [],Bx [],i6 0]),(.box 5,[CZ z3,Bx j1.2,i6 xS.Next])]
def XQ (xS:Store) (j1:List Int×List BU) (z4:Int) (z5:List Vol):St:=A9 [(2,(pb 2)),(4,(.one (En j1.1))),(5,(pb 5)),(6,(I z4))] [(.box 2,[CZ [],Bx [],i6 0]),(.box 5,[CZ z5,Bx j1.2,i6 xS.Next])]
def XP (xS:Store) (j1:List Int×List BU) (z6:List Vol):St:=A9 [(2,(pb 2)),(5,(pb 5))] [(.box 2,[CZ [],Bx [],i6 0]),(.box 5,[CZ z6,Bx j1.2,i6 xS.Next])]
theorem NR (xS:Store) (r:Store) (h:Gs xS=some r):AW Tryz.prog 91 [.sv (.agg (So false xS))] (.agg (So true r)) (rg 1):=by
 refine gk Tryz.func91 rfl Tryz.ntmps91 (ws (gn 2 0 (FD h [1,2,3,4] [.box 1,.box 2,.box 3] (fun a=>(XS xS a.1 a.2)) (fun a h=>?_) (fun j1 h=>?_))))
 ·refine DZ [9] mixed (fun c E h=>by rcases h with⟨h|h,_⟩<;>cases h) (Bl [0,1,2] 0 (DW 3 8 ?_ ?_))
  ·refine KB.c 0 h (Lh _) (fun v2 gv2 h=>DW 4 8 ?_ ?_)
   ·exact KB.c 0 h (gs (ca rfl (ca (co (cs (iO _))) rfl)) (FO _ _)) (fun v4 gv4 h=>oj [5,10] h) (hc:=(.inr (fun v=>by simp [BE,BP,AT,BB,ns3,KY,En,Bx,Xs])))
   exact KB.o false (B8 4 (KB.c 0 h (gs (ca rfl (ca (co (cs (iO _))) rfl)) (FO _ _)) (fun v5 gv5 h=>Bl [5] 1 (Mq 6 (oj [10] h))) (hc:=(.inr (fun v=>by simp [BE,BP,AT,BB,ns3,KY,En,Bx,Xs])))))
  exact KB.o false (B8 3 (KB.c 0 h (Lh _) (fun v6 gv6 h=>B8 4 (KB.c 0 h (gs (ca rfl (ca (co (cs (iO _))) rfl)) (FO _ _)) (fun v7 gv7 h=>Bl [5] 1 (Mq 6 (oj [10] h))) (hc:=(.inr (fun v=>by simp [BE,BP,AT,BB,ns3,KY,En,Bx,Xs])))))))
 refine FD h [2,4,5] [.box 2,.box 5] (fun a=>(XR xS j1 a)) (fun a h=>?_) (fun j2 h=>?_)
 ·refine DZ [9] mixed (fun c E h=>by rcases h with⟨h|h,_⟩<;>cases h) (Bl [1,2,4,5,6] 0 (DW 0 8 ?_ ?_))
  ·refine sH (DW 3 8 ?_ ?_)
   ·exact bd h fun q1 gq1 h=>iJ (DK Eo (fun _=>rfl) [] gq1) (Bl [7,8,9] 0 (Bk (jn h)))
   exact KB.o false (B8 3 (bd h fun q2 gq2 h=>iJ (DK Eo (fun _=>rfl) [] gq2) (Bl [7,9] 0 (Bk (jn h)))))
  exact KB.o false (B8 0 (sH (B8 3 (bd h fun q3 gq3 h=>iJ (DK Eo (fun _=>rfl) [] gq3) (Bl [7,9] 0 (Bk (jn h)))))))
 refine Wp.seq (ws (gn 1 0 (BM h [2,4,5,6] [.box 2,.box 5] (fun s=>(XQ xS j1 s.1 s.2)) [2,5] [.box 2,.box 5] (fun s=>(XP xS j1 s)) EC ?_ ?_)))
 ·rintro⟨d,b⟩ o (h:HS j1 d b=some o);refine Wp.seq (ws (Ai 3 0 (RW.q (Dr Eo b) (gn 1 0 (wc h (fun h=>?_) (fun h=>?_))))))
  ·exact Wp.skip (Wp.seq (Wp.block (Sv 9 mixed (Dn 5 (bd h fun x1 gx1 h=>SW.q (IR k3 gx1) (SW.q (CA k3 gx1 0) (bd h fun x2 gx2 h=>SW.q (IR Eo gx2) (SW.q (D8 Eo gx2 0 1) (SW.nil (CR (N2 Eo gx2 1 0 (Vol.mk x2.Id x1)) (RW.nil (Au (gn 3 0 (jl h))))))))))))))
  exact Wp.exit (jv h)
 intro v8 h E hE;exact AY hE (ws (gn 2 0 (Wp.ret (rr h▸rq))))
def pL (xA:Arena) (b:Int) (a:Int) (xN:Int) (v1:Arena) (z1:Bool):St:=A9 [(1,(I b)),(2,(I a)),(3,(I xN)),(4,(pb 4)),(8,(pb 8)),(10,(pb 10)),(33,(B z1))] [(.box 4,[BI xA.Knots]),(.box 8,[Bx []]),(.box 10,[Bx v1.Knots])]
def pK (a:Int) (xN:Int) (v1:Arena) (z2:List Int) (z3:List Int):St:=A9 [(2,(I a)),(3,(I xN)),(8,(pb 8)),(10,(pb 10)),(11,(pb 11)),(12,(pb 12))] [(.box 8,[Bx []]),(.box 10,[Bx v1.Knots]),(.box 11,[tb true,En z2]),(.box 12,[tb false,En z3])]
theorem ZK (xA:Arena) (d:Int) (b:Int) (xN:Int) (r:Arena×Int) (h:UN xA d b xN=some r):AW Tryz.prog 92 [.sv (.agg (Xs false xA)),.sv (I d),.sv (I b),.sv (I xN)] (.tup [(.agg (Xs false r.1)),(I r.2)]) (rg 4):=by
 refine gk Tryz.func92 rfl Tryz.ntmps92 (ws (gw 3 0 (Ai 1 0 (RW.c 0 h (Pd _) (fun v1 gv1 h=>gn 2 0 (Wp.seq (FD h [1,2,3,4,8,10,33] [.box 4,.box 8,.box 10] (fun a=>(pL xA d b xN v1 a)) (fun a h=>?_) (fun j1 h=>?_))))))))
 ·refine Au (Ai 1 0 (RW.c 0 h (MA _) (fun v2 gv2 h=>Ai 2 0 (AO 19 h (fun h=>?_) (fun h=>?_)))))
  ·exact gn 14 0 (jn h)
  refine Ai 2 0 (RW.c 0 h (Kz _ _) (fun v3 gv3 h=>Ai 3 0 (AO 25 h (fun h=>?_) (fun h=>?_))))
  ·exact gn 8 0 (jn h)
  refine Ai 1 0 (RW.c 0 h (BL _ _ _) (fun v4 gv4 h=>Ai 3 0 (AO 30 h (fun h=>?_) (fun h=>?_))))
  ·exact gn 3 0 (jn h)
  exact gn 3 0 (jn h)
 refine wc h (fun h=>?_) (fun h=>?_)
 ·exact ws (gn 4 0 (Wp.fz (.box 8) 0 (Dh v1.Knots) (Wp.ret (rr h▸rq))))
 refine Wp.skip (ws (bd h fun q1 gq1 h=>CR (fmk k3 0 gq1) (gw 3 0 (gn 4 0 (Wp.seq (ws (gn 2 0 (Gd h [2,3,8,10,11,12] [.box 8,.box 10,.box 11,.box 12] (fun a=>(pK b xN v1 a.1 a.2)) ?_ ?_))))))))
 ·intro a h;refine wc h (fun h=>?_) (fun h=>?_)
  ·refine ws (Ai 4 0 (CS (CG false) h (fun x1 gx1 h=>RW.q (D8 (CG false) gx1 0 1) (RW.q (CA (CG false) gx1 1) (bd h fun q2 gq2 h=>CR (DK k3 (fun _=>rfl) [] gq2) (gw 2 0 (Ai 4 0 (CS k3 h (fun x2 gx2 h=>RW.q (CA k3 gx2 0) (gw 1 0 (gn 2 0 (wc h (fun h=>?_) (fun h=>?_)))))))))))))
   ·exact Au (Ai 4 0 (CS (CG false) h (fun x3 gx3 h=>RW.q (D8 (CG false) gx3 0 1) (RW.q (CA (CG false) gx3 1) (bd h fun q3 gq3 h=>CR (DK k3 (fun _=>rfl) [] gq3) (gn 2 0 (jn h)))))))
   exact Wp.skip (jn h)
  exact Wp.skip (jn h)
 intro j2 h E hE;refine AY hE (ws (Ai 5 0 (CS k3 h (fun x4 gx4 h=>CR (N2 k3 gx4 0 1 xN) (RW.nil (ws (Ai 6 0 (RW.q (Dr (CG true) v1.Knots) (CS k3 h (fun x5 gx5 h=>CR (N2 k3 gx5 0 1 (ln v1.Knots)) (RW.nil (ws (Ai 5 0 (bd h fun q4 gq4 h=>CR (rM (CG true) v1.Knots [(BU.mk true (si j2.1 (Int.tmod b 4) xN)),(BU.mk false (si j2.2 (qu b 4) (ln v1.Knots)))] gq4) (RW.fz (.slot 87) 0 (Dh q4) (gn 2 0 (Wp.seq (DZ [5] mixed (fun c E h=>by rcases h with⟨h|h,_⟩<;>cases h) (Bl [0] 0 (DW 1 5 ?_ ?_))))))))))))))))))))
 ·refine KB.o false (DW 2 5 ?_ ?_)
  ·refine KB.o false (DW 3 5 ?_ ?_)
   ·refine KB.q (Dr (CG false) q4) (DW 4 5 ?_ ?_)
    ·exact KB.o false (Bl [5,6] 0 (Bk (Wp.ret (rr h▸rq))))
    exact KB.o false (Bl [4,6] 0 (Bk (Wp.ret (rr h▸rq))))
   exact KB.o false (B8 3 (KB.q (Dr (CG false) q4) (Bl [4,6] 0 (Bk (Wp.ret (rr h▸rq))))))
  exact KB.o false (Bl [2] 0 (B8 3 (KB.q (Dr (CG false) q4) (Bl [4,6] 0 (Bk (Wp.ret (rr h▸rq)))))))
 exact KB.o false (Bl [1,2] 0 (B8 3 (KB.q (Dr (CG false) q4) (Bl [4,6] 0 (Bk (Wp.ret (rr h▸rq)))))))
def pS (xS:Store) (xR:Df) (z1:Bool):St:=A9 [(2,(pb 2)),(3,(pb 3)),(4,(pb 4)),(18,(B z1))] [(.box 2,[DG xS.Vols,BI xS.Arena.Knots,i6 xS.Next]),(.box 3,[i6 xR.Kind,i6 xR.Vol,i6 xR.Arg,i6 xR.Chunk]),(.box 4,[CZ [],Bx [],i6 0])]
def pR (z2:Int):St:=A9 [(4,(pb 4)),(6,(I z2))] [(.box 4,[CZ [],Bx [],i6 0])]
def pQ (xS:Store) (xR:Df) (v5:Int) (z3:Bool):St:=A9 [(2,(pb 2)),(3,(pb 3)),(4,(pb 4)),(7,(I v5)),(48,(B z3))] [(.box 2,[DG xS.Vols,BI xS.Arena.Knots,i6 xS.Next]),(.box 3,[i6 xR.Kind,i6 xR.Vol,i6 xR.Arg,i6 xR.Chunk]),(.box 4,[CZ [],Bx [],i6 0])]
def pP (xR:Df) (v5:Int) (v7:Store) (z4:Int) (z5:List BU):St:=A9 [(3,(pb 3)),(4,(pb 4)),(7,(I v5)),(8,(pb 8)),(9,(pb 9)),(10,(I z4))] [(.box 3,[i6 xR.Kind,i6 xR.Vol,i6 xR.Arg,i6 xR.Chunk]),(.box 4,[CZ [],Bx [],i6 0]),(.box 8,[CZ v7.Vols,Bx v7.Arena.Knots,i6 v7.Next]),(.box 9,[BI z5])]
theorem ZM (xS:Store) (xR:Df) (r:Store×Bool) (h:UO xS xR=some r):AW Tryz.prog 58 [.sv (.agg (So false xS)),.sv (.agg (c99 xR))] (.tup [(.agg (So true r.1)),(B r.2)]) (rg 2):=by
 refine gk Tryz.func58 rfl Tryz.ntmps58 (ws (gn 4 0 (Wp.seq (FD h [2,3,4,18] [.box 2,.box 3,.box 4] (fun a=>(pS xS xR a)) (fun a h=>?_) (fun j1 h=>?_)))))
 ·refine Au (Ai 1 0 (RW.c 0 h (T5 _) (fun v1 gv1 h=>Ai 2 0 (AO 14 h (fun h=>?_) (fun h=>?_)))))
  ·exact gn 4 0 (jn h)
  exact Ai 1 0 (RW.c 0 h (SI _) (fun v2 gv2 h=>gn 2 0 (jn h)))
 refine wc h (fun h=>?_) (fun h=>?_)
 ·exact ws (Ai 1 0 (RW.c 0 h (Fv _) (fun v3 gv3 h=>gn 2 0 (Wp.ret (rr h▸rq)))))
 refine Wp.skip (Wp.seq (ws (gn 2 0 (Wp.block (ws (gn 2 0 (wc h (fun h=>?_) (fun h=>?_))))))))
 ·refine ws (gn 3 0 (Wp.seq (ws (gn 2 0 (Gd h [4,6] [.box 4] (fun a=>(pR a)) ?_ ?_)))))
  ·intro a h;refine wc h (fun h=>?_) (fun h=>?_)
   ·exact Au (gn 1 0 (jn h))
   exact Wp.skip (jn h)
  intro j2 h E hE;exact AY hE (ws (gn 4 0 (Wp.ret (rr h▸rq))))
 refine ws (gn 2 0 (wc h (fun h=>?_) (fun h=>?_)))
 ·exact ws (Ai 2 0 (RW.c 0 h (oT _ _) (fun v4 gv4 h=>gn 4 0 (Wp.ret (rr h▸rq)))))
 refine Wp.skip (ws (Ai 3 0 (RW.c 0 h (JG _ _) (fun v5 gv5 h=>gn 1 0 (Wp.seq (FD h [2,3,4,7,48] [.box 2,.box 3,.box 4] (fun a=>(pQ xS xR v5 a)) (fun a h=>?_) (fun j3 h=>?_)))))))
 ·refine Au (Ai 3 0 (AO 44 h (fun h=>?_) (fun h=>?_)))
  ·exact gn 4 0 (jn h)
  exact gn 4 0 (jn h)
 refine wc h (fun h=>?_) (fun h=>?_)
 ·exact ws (Ai 1 0 (RW.c 0 h (Fv _) (fun v6 gv6 h=>gn 2 0 (Wp.ret (rr h▸rq)))))
 refine Wp.skip (ws (Ai 1 0 (RW.c 0 h (Fv _) (fun v7 gv7 h=>gn 2 0 (Wp.seq (ws (gn 3 0 (wc h (fun h=>?_) (fun h=>?_)))))))))
 ·exact Wp.seq (DZ [11,13] mixed (fun c E h=>by rcases h with⟨h|h,_⟩<;>cases h) (Bl [1,2,3] 0 (bd h fun x1 gx1 h=>KW.q 4 (pdr Eo 39 gx1) (Bl [6,7,8,9] 0 (bd h fun x2 gx2 h=>KW.q 10 (AD1 Eo 39 gx2) (B8 0 (sH (B8 5 (bd h fun q1 gq1 h=>iJ (DK Eo (fun _=>rfl) [] gq1) (B8 11 (bd h fun q2 gq2 h=>Ms (DK Eo (fun _=>rfl) q1 gq2) (Bl [12,13] 0 (Bk (ws (Ai 1 0 (RW.c 0 h (gs (ca (iQ (ca (cs (Fe _)) (ca (cs (Dh _)) rfl))) rfl) (NR _)) (fun v8 gv8 h=>gn 2 0 (Wp.ret (rr h▸rq))) (hc:=(.inr (fun v=>by simp [BE,BP,AT,BB,YS,KY,CZ,Bx,So])))))))))))))))))))
 refine Wp.skip (FD h [3,4,7,8,9,10] [.box 3,.box 4,.box 8,.box 9] (fun a=>(pP xR v5 v7 a.1 a.2)) (fun a h=>?_) (fun j4 h=>?_))
 ·refine DZ [17] mixed (fun c E h=>by rcases h with⟨h|h,_⟩<;>cases h) (Bl [0,1,2,3,4] 0 (bd h fun x3 gx3 h=>KW.q 5 (IR Eo gx3) (KW.q 6 (D8 Eo gx3 0 1) (KW.q 7 (CA Eo gx3 1) (Bl [8,9,10,11] 0 (DW 12 16 ?_ ?_))))))
  ·exact KB.c 0 h (ZK _ _ _ _) (fun v10 gv10 h=>oj [13] h)
  exact KB.o false (B8 12 (KB.c 0 h (ZK _ _ _ _) (fun v11 gv11 h=>Bl [13] 1 (Mq 14 (oj [] h)))))
 refine ws (gw 3 0 (Ai 4 0 (CS Eo h (fun x4 gx4 h=>RW.q (D8 Eo gx4 0 1) (CR (N2 Eo gx4 1 0 (Vol.mk x4.Id j4.1)) (RW.nil (Wp.seq (ws (gn 5 0 (wc h (fun h=>?_) (fun h=>?_)))))))))))
 ·exact Au (gw 5 0 (Ai 1 0 (RW.c 0 h (gs (ca (iQ (ca (cs (Fe _)) rfl)) rfl) (NR _)) (fun v12 gv12 h=>gn 2 0 (Wp.ret (rr h▸rq))) (hc:=(.inr (fun v=>by simp [BE,BP,AT,BB,YS,KY,CZ,Bx,So]))))))
 exact Wp.skip (ws (Ai 1 0 (RW.c 0 h (gs (ca (iQ (ca (cs (Fe _)) rfl)) rfl) (NR _)) (fun v13 gv13 h=>gn 2 0 (Wp.ret (rr h▸rq))) (hc:=(.inr (fun v=>by simp [BE,BP,AT,BB,YS,KY,CZ,Bx,So]))))))
def YG (xS:Store) (a:List Df) (z1:Int) (z2:List Vol) (z3:List BU) (z4:Int):St:=A9 [(1,(.one (lP a))),(2,(pb 2)),(4,(pb 4)),(6,(pb 6)),(7,(I z1))] [(.box 2,[DG xS.Vols,BI xS.Arena.Knots,i6 xS.Next]),(.box 4,[CZ [],Bx [],i6 0]),(.box 6,[CZ z2,Bx z3,i6 z4])]
def YF (z5:List Vol) (z6:List BU) (z7:Int):St:=A9 [(4,(pb 4)),(6,(pb 6))] [(.box 4,[CZ [],Bx [],i6 0]),(.box 6,[CZ z5,Bx z6,i6 z7])]
def YE (xS:Store) (d:List Df) (e:Int) (a:List Vol) (b:List BU) (c:Int) (z8:Bool) (z9:List Vol) (z10:List BU) (z11:Int):St:=A9 [(1,(.one (lP d))),(2,(pb 2)),(4,(pb 4)),(6,(pb 6)),(7,(I e)),(8,(pb 8)),(9,(B z8))] [(.box 2,[DG xS.Vols,BI xS.Arena.Knots,i6 xS.Next]),(.box 4,[CZ [],Bx [],i6 0]),(.box 6,[CZ a,Bx b,i6 c]),(.box 8,[CZ z9,Bx z10,i6 z11])]
theorem eG (xS:Store) (b:List Df) (r:Store×Bool) (h:NY xS b=some r):AW Tryz.prog 27 [.sv (.agg (So false xS)),.sv (.one (lP b))] (.tup [(.agg (So true r.1)),(B r.2)]) (rg 2):=by
 refine gk Tryz.func27 rfl Tryz.ntmps27 (ws (gw 3 0 (Ai 1 0 (RW.c 0 h (Fv _) (fun v1 gv1 h=>gn 2 0 (Wp.seq (ws (gn 1 0 (ED h [1,2,4,6,7] [.box 2,.box 4,.box 6] (fun s=>(YG xS b s.1 s.2.1 s.2.2.1 s.2.2.2)) [4,6] [.box 4,.box 6] (fun s=>(YF s.1 s.2.1 s.2.2)) EC ?_ ?_)))))))))
 ·rintro⟨g,d,e,f⟩ o (h:GG xS b g d e f=some o) hk1;refine Wp.seq (ws (Ai 2 0 (RW.q (Dr WR b) (gn 1 0 (wc h (fun h=>?_) (fun h=>?_))))))
  ·refine Wp.skip (Wp.seq (Wp.block (FD h [1,2,4,6,7,8,9] [.box 2,.box 4,.box 6,.box 8] (fun a=>(YE xS b g d e f a.1 a.2.1 a.2.2.1 a.2.2.2)) (fun a h=>?_) (fun j1 h=>?_))))
   ·refine DZ [10] mixed (fun c E h=>by rcases h with⟨h|h,_⟩<;>cases h) (Bl [0,1,2] 0 (bd h fun x1 gx1 h=>KW.q 3 (IR WR gx1) (KW.q 4 (Re WR gx1 0 4) (DW 5 9 ?_ ?_))))
    ·exact KB.c 0 h (gs (ca (iQ (ca (cs (Fe _)) (ca (cs (Dh _)) rfl))) rfl) (ZM _ _)) (fun v3 gv3 h=>oj [6] h) (hc:=(.inr (fun v=>by simp [BE,BP,AT,BB,YS,KY,CZ,Bx,So])))
    exact KB.o false (B8 5 (KB.c 0 h (gs (ca (iQ (ca (cs (Fe _)) (ca (cs (Dh _)) rfl))) rfl) (ZM _ _)) (fun v4 gv4 h=>Bl [6] 1 (Mq 7 (oj [] h))) (hc:=(.inr (fun v=>by simp [BE,BP,AT,BB,YS,KY,CZ,Bx,So])))))
   refine Wp.seq (ws (gn 2 0 (wc h (fun h=>?_) (fun h=>?_))))
   ·exact ws (Ai 1 0 (RW.c 0 h (Fv _) (fun v5 gv5 h=>gn 2 0 (Wp.ret (rr (jo h hk1)▸rq)))))
   exact Wp.skip (Au (gn 2 0 (Au (gn 3 0 (jl h)))))
  exact Wp.exit (jx h)
 intro v6 h E hE;exact AY hE (ws (gn 3 0 (Wp.ret (rr h▸rq))))
def Tg (o:Bool) (x:AE):List TV:=[.sl o 77 3 (AN (wX o) x.Flash.Blocks),.sl o 39 2 (AN c39 x.Store.Vols),.sl o 150 2 (AN (Xt o) x.Store.Arena.Knots),i6 x.Store.Next,i6 x.Seq,i6 x.Tx,i6 x.Base]
def YA (v2:List Ak) (v3:Flash) (v4:Store) (z1:Int) (z2:Int) (z3:Int):St:=A9 [(2,(pb 2)),(4,(.one (Fz v2))),(5,(pb 5)),(6,(I z1))] [(.box 2,[CP [],CZ [],Bx [],i6 0,i6 0,i6 0,i6 0]),(.box 5,[CP v3.Blocks,CZ v4.Vols,Bx v4.Arena.Knots,i6 v4.Next,i6 z2,i6 z3,i6 0])]
def Y9 (v2:List Ak) (v3:Flash) (v4:Store) (z4:Int) (z5:Int):St:=A9 [(2,(pb 2)),(4,(.one (Fz v2))),(5,(pb 5))] [(.box 2,[CP [],CZ [],Bx [],i6 0,i6 0,i6 0,i6 0]),(.box 5,[CP v3.Blocks,CZ v4.Vols,Bx v4.Arena.Knots,i6 v4.Next,i6 z4,i6 z5,i6 0])]
def Y8 (v2:List Ak) (v3:Flash) (v4:Store) (b:Int) (a:Int) (z6:Int):St:=A9 [(2,(pb 2)),(4,(.one (Fz v2))),(5,(pb 5)),(6,(I b))] [(.box 2,[CP [],CZ [],Bx [],i6 0,i6 0,i6 0,i6 0]),(.box 5,[CP v3.Blocks,CZ v4.Vols,Bx v4.Arena.Knots,i6 v4.Next,i6 z6,i6 a,i6 0])]
def Y7 (v2:List Ak) (v3:Flash) (v4:Store) (b:Int) (a:Int) (j1:Int) (z7:Bool):St:=A9 [(2,(pb 2)),(4,(.one (Fz v2))),(5,(pb 5)),(6,(I b)),(59,(B z7))] [(.box 2,[CP [],CZ [],Bx [],i6 0,i6 0,i6 0,i6 0]),(.box 5,[CP v3.Blocks,CZ v4.Vols,Bx v4.Arena.Knots,i6 v4.Next,i6 j1,i6 a,i6 0])]
def Y6 (v3:Flash) (v5:Int×Int) (v7:List Tx) (z8:Int) (z9:List Vol) (z10:List BU) (z11:Int) (z12:Int):St:=A9 [(2,(pb 2)),(5,(pb 5)),(7,(.one (ZZ v7))),(8,(I z8))] [(.box 2,[CP [],CZ [],Bx [],i6 0,i6 0,i6 0,i6 0]),(.box 5,[CP v3.Blocks,CZ z9,Bx z10,i6 z11,i6 v5.1,i6 v5.2,i6 z12])]
def Y5 (v3:Flash) (v5:Int×Int) (z13:List Vol) (z14:List BU) (z15:Int) (z16:Int):St:=A9 [(2,(pb 2)),(5,(pb 5))] [(.box 2,[CP [],CZ [],Bx [],i6 0,i6 0,i6 0,i6 0]),(.box 5,[CP v3.Blocks,CZ z13,Bx z14,i6 z15,i6 v5.1,i6 v5.2,i6 z16])]
def Y4 (v3:Flash) (v5:Int×Int) (v7:List Tx) (d:Int) (a:List Vol) (b:List BU) (c:Int) (z17:Int):St:=A9 [(2,(pb 2)),(5,(pb 5)),(7,(.one (ZZ v7))),(8,(I d))] [(.box 2,[CP [],CZ [],Bx [],i6 0,i6 0,i6 0,i6 0]),(.box 5,[CP v3.Blocks,CZ a,Bx b,i6 c,i6 v5.1,i6 v5.2,i6 z17])]
theorem NV (xF:Flash) (r:AE×Bool) (h:EL xF=some r):AW Tryz.prog 94 [.sv (.agg (Sp false xF))] (.tup [(.agg (Tg true r.1)),(B r.2)]) (rg 1):=by
 refine gk Tryz.func94 rfl Tryz.ntmps94 (ws (gn 3 0 (Wp.seq (ws (Ai 1 0 (RW.c 0 h (M8 _) (fun v1 gv1 h=>gn 1 0 (wc h (fun h=>?_) (fun h=>?_)))))))))
 ·exact ws (gn 3 0 (Wp.ret (rr h▸rq)))
 refine Wp.skip (ws (Ai 1 0 (RW.c 0 h (Hl _) (fun v2 gv2 h=>gw 1 1 (Ai 1 0 (RW.c 0 h (I4 _) (fun v3 gv3 h=>RW.c 0 h (cZ) (fun v4 gv4 h=>gn 3 0 (Wp.seq (ws (gn 1 0 (BM h [2,4,5,6] [.box 2,.box 5] (fun s=>(YA v2 v3 v4 s.1 s.2.1 s.2.2)) [2,4,5] [.box 2,.box 5] (fun s=>(Y9 v2 v3 v4 s.1 s.2)) EC ?_ ?_))))))))))))
 ·rintro⟨g,i,b⟩ o (h:GF v2 g i b=some o);refine Wp.seq (ws (Ai 2 0 (RW.q (Dr Ex v2) (gn 1 0 (wc h (fun h=>?_) (fun h=>?_))))))
  ·refine Wp.skip (Wp.seq (Wp.block (Wp.seq (Wp.seq (KF mixed (Dn 2 (bd h fun x1 gx1 h=>SW.q (IR Ex gx1) (SW.q (D8 Ex gx1 0 2) (SW.q (D8 Ex gx1 2 3) (SW.q (CA Ex gx1 3) (Dn 3 (SW.nil (Gd h [2,4,5,6] [.box 2,.box 5] (fun a=>(Y8 v2 v3 v4 g b a)) ?_ ?_)))))))))))))
   ·intro a h;refine wc h (fun h=>?_) (fun h=>?_)
    ·exact Au (Ai 2 0 (CS Ex h (fun x2 gx2 h=>RW.q (D8 Ex gx2 0 2) (RW.q (D8 Ex gx2 2 3) (RW.q (CA Ex gx2 3) (gn 3 0 (jn h)))))))
    exact Wp.skip (jn h)
   intro j1 h E hE;refine AY hE (FD h [2,4,5,6,59] [.box 2,.box 5] (fun a=>(Y7 v2 v3 v4 g b j1 a)) (fun a h=>?_) (fun j2 h=>?_))
   ·refine KF mixed (Dn 2 (bd h fun x3 gx3 h=>SW.q (IR Ex gx3) (SW.q (D8 Ex gx3 0 2) (SW.q (D8 Ex gx3 2 2) (SW.q (CA Ex gx3 2) (Dn 2 (X3 49 h (fun h=>?_) (fun h=>?_))))))))
    ·exact Dn 2 (bd h fun x4 gx4 h=>SW.q (IR Ex gx4) (SW.q (D8 Ex gx4 0 2) (SW.q (D8 Ex gx4 2 4) (SW.q (CA Ex gx4 4) (Dn 4 (SW.nil (jn h)))))))
    exact Dn 10 (SW.nil (jn h))
   refine wc h (fun h=>?_) (fun h=>?_)
   ·exact Au (Ai 2 0 (CS Ex h (fun x5 gx5 h=>RW.q (D8 Ex gx5 0 2) (RW.q (D8 Ex gx5 2 4) (RW.q (CA Ex gx5 4) (gn 3 0 (Au (gn 3 0 (jl h)))))))))
   exact Wp.skip (Au (gn 3 0 (jl h)))
  exact Wp.exit (jv h)
 intro v5 h E hE;refine AY hE (ws (Ai 1 0 (RW.c 0 h (gs (ca (co (cs (V5 _))) rfl) (W0 _)) (fun v6 gv6 h=>RW.c 0 h (gs (ca (co (cs (AB0 _))) rfl) (Yn _)) (fun v7 gv7 h=>RW.fz (.slot 70) 0 (AB0 v7) (gn 1 0 (Wp.seq (ws (gn 1 0 (BM h [2,5,7,8] [.box 2,.box 5] (fun s=>(Y6 v3 v5 v7 s.1 s.2.1 s.2.2.1 s.2.2.2.1 s.2.2.2.2)) [2,5] [.box 2,.box 5] (fun s=>(Y5 v3 v5 s.1 s.2.1 s.2.2.1 s.2.2.2)) EC ?_ ?_)))))) (hc:=(.inr (fun v=>by simp [BE,BP,AT,BB,zN,Qw])))) (hc:=(.inr (fun v=>by simp [BE,BP,AT,BB,zN,Qw]))))))
 ·rintro⟨j,d,e,f,k⟩ o (h:GE v7 j d e f k=some o);refine Wp.seq (ws (Ai 2 0 (RW.q (Dr (HP false) v7) (gn 1 0 (wc h (fun h=>?_) (fun h=>?_))))))
  ·refine Wp.skip (Wp.seq (Wp.block (Wp.seq (ws (gn 2 0 (Gd h [2,5,7,8] [.box 2,.box 5] (fun a=>(Y4 v3 v5 v7 j d e f a)) ?_ ?_))))))
   ·intro a h;refine wc h (fun h=>?_) (fun h=>?_)
    ·exact Au (Ai 2 0 (CS (HP false) h (fun x6 gx6 h=>RW.q (D8 (HP false) gx6 0 0) (RW.q (CA (HP false) gx6 0) (gn 2 0 (jn h))))))
    exact Wp.skip (jn h)
   intro j3 h E hE;refine AY hE (DZ [12] mixed (fun c E h=>by rcases h with⟨h|h,_⟩<;>cases h) (Bl [0,1,2,3] 0 (bd h fun x7 gx7 h=>KW.q 4 (IR (HP false) gx7) (KW.q 5 (D8 (HP false) gx7 0 2) (KW.q 6 (CA (HP false) gx7 2) (B8 7 (KB.c 0 h (gs (ca (iQ (ca (cs (Fe _)) (ca (cs (Dh _)) rfl))) rfl) (eG _ _)) (fun v8 gv8 h=>Bl [8] 1 (Mq 9 (Bl [11] 0 (DW 10 12 ?_ ?_)))) (hc:=(.inr (fun v=>by simp [BE,BP,AT,BB,YS,KY,CZ,Bx,So]))))))))))
   ·exact KB.o false (Bl [12] 0 (Bk (Au (gn 3 0 (jl h)))))
   exact KB.o false (Bl [10] 0 (Bk (Au (gn 3 0 (jl h)))))
  exact Wp.exit (jv h)
 intro v9 h E hE;exact AY hE (ws (gn 3 0 (Wp.ret (rr h▸rq))))
theorem YI (a:Int) (r:AE×Bool) (h:M9 a=some r):AW Tryz.prog 59 [.sv (I a)] (.tup [(.agg (Tg true r.1)),(B r.2)]) (rg 1):=by
 refine gk Tryz.func59 rfl Tryz.ntmps59 (ws (gw 2 0 (Ai 1 0 (RW.c 0 h (eC _) (fun v1 gv1 h=>gn 6 1 (Wp.seq (ws (gn 2 0 (wc h (fun h=>?_) (fun h=>?_))))))))))
 ·exact ws (gn 3 0 (Wp.ret (rr h▸rq)))
 exact Wp.skip (ws (Ai 1 0 (RW.c 0 h (gs (ca (iQ (ca (cs (Fd _)) rfl)) rfl) (NV _)) (fun v2 gv2 h=>gn 4 0 (Wp.ret (rr h▸rq))) (hc:=(.inr (fun v=>by simp [BE,BP,AT,BB,YS,vG,KY,CZ,CP,Bx,Tg]))))))
set_option maxHeartbeats 4000000 in
theorem VT (xC:BC) (a:List Int) (r:Int×BC) (h:Lk xC a=some r):AW Tryz.prog 79 [.ext [PX xC.b_,i6 xC.i_,i6 xC.h_],.sv (.one (OQ a))] (I r.1) (.ext [PX r.2.b_,i6 r.2.i_,i6 r.2.h_]::rg 1):=by
 exact gkx Tryz.func79 rfl Tryz.ntmps79 (ws (gw 1 0 (Ai 3 0 (RW.q (Dr k3 a) (Gp h (Dd _ _) (fun _=>rfl) (fun v1 gv1 h=>CS k3 h (fun x1 gx1 h=>RW.q (CA k3 gx1 0) (gn 1 0 (Wp.ret (rr h▸rx))))))))))
set_option maxHeartbeats 4000000 in
theorem T4 (xC:BC) (xN:Int) (r:Bool×BC) (h:I6 xC xN=some r):AW Tryz.prog 80 [.ext [PX xC.b_,i6 xC.i_,i6 xC.h_],.sv (I xN)] (B r.1) (.ext [PX r.2.b_,i6 r.2.i_,i6 r.2.h_]::rg 1):=by
 exact gkx Tryz.func80 rfl Tryz.ntmps80 (ws (gw 1 0 (Ai 2 0 (Gp h (Dd _ _) (fun _=>rfl) (fun v1 gv1 h=>gn 2 0 (Wp.ret (rr h▸rx)))))))
def c9 (x:ByteArray):List TV:=[ts x]
theorem k9:∀x,(c9 x).length=1:=fun _=>rfl
theorem sh9:∀l,BG (AN c9 l)=AN c9 l:=D1 (fun _=>rfl)
def ot9 (l:List ByteArray):TV:= .sl true 9 1 (AN c9 l)
def of9 (l:List ByteArray):TV:= .sl false 9 1 (AN c9 l)
set_option maxHeartbeats 4000000 in
theorem jS (xC:BC) (a:List ByteArray) (r:ByteArray×BC) (h:Nh xC a=some r):AW Tryz.prog 115 [.ext [PX xC.b_,i6 xC.i_,i6 xC.h_],.sv (.one (of9 a))] (Y r.1) (.ext [PX r.2.b_,i6 r.2.i_,i6 r.2.h_]::rg 1):=by
 exact gkx Tryz.func115 rfl Tryz.ntmps115 (ws (gw 1 0 (Ai 3 0 (RW.q (Dr k9 a) (Gp h (Dd _ _) (fun _=>rfl) (fun v1 gv1 h=>CS k9 h (fun x1 gx1 h=>RW.q (CA k9 gx1 0) (gn 1 0 (Wp.ret (rr h▸rx))))))))))
set_option maxHeartbeats 4000000 in
theorem jA (xC:BC) (r:ByteArray×BC) (h:PI xC=some r):AW Tryz.prog 81 [.ext [PX xC.b_,i6 xC.i_,i6 xC.h_]] (Y r.1) (.ext [PX r.2.b_,i6 r.2.i_,i6 r.2.h_]::rg 0):=by
 exact gkx Tryz.func81 rfl Tryz.ntmps81 (ws (gw 1 0 (Ai 2 0 (RW.fz (.slot 4) 0 (sh9 [(bs []),(bs [97]),(bs [98,98]),(bs [97,98,99,100,97,98,99,100,97,98,99,100]),(bs [104,101,108,108,111]),(bs [104,101,108,108,111,32,104,101,108,108,111,32,104,101,108,108,111]),(bs [122,122,122,122,122,122,122,122,122,122,122,122]),(bs [113,49]),(bs [113,50]),(bs [113,51])]) (Gp h (jS _ _) (fun _=>rfl) (fun v1 gv1 h=>gn 1 0 (Wp.ret (rr h▸rx))))))))
def c44 (x:TW):List TV:=[i6 x.Kind,i6 x.Vol,i6 x.Sector,i6 x.Of,ts x.Text]
def bW (xD:AE) (z1:Int) (z2:Int) (z3:List Int) (z4:Int) (z5:Int):St:=A9 [(0,(px 0)),(3,(pb 3)),(4,(pb 4)),(5,(pb 5))] [(.box 3,[CQ xD.Flash.Blocks,DG xD.Store.Vols,BI xD.Store.Arena.Knots,i6 xD.Store.Next,i6 xD.Seq,i6 xD.Tx,i6 xD.Base]),(.box 4,[i6 0,i6 0,i6 0,i6 0,ts (bs [])]),(.box 5,[i6 z1,i6 z2,i6 0,i6 0,ts (bs [])]),(.ext 0,[PX z3,i6 z4,i6 z5])]
def bV (xD:AE) (v1:Int×BC) (v2:Int×BC) (z6:Bool) (z7:List Int) (z8:Int) (z9:Int):St:=A9 [(0,(px 0)),(3,(pb 3)),(4,(pb 4)),(5,(pb 5)),(31,(B z6))] [(.box 3,[CQ xD.Flash.Blocks,DG xD.Store.Vols,BI xD.Store.Arena.Knots,i6 xD.Store.Next,i6 xD.Seq,i6 xD.Tx,i6 xD.Base]),(.box 4,[i6 0,i6 0,i6 0,i6 0,ts (bs [])]),(.box 5,[i6 v1.1,i6 (ad 1 v2.1),i6 0,i6 0,ts (bs [])]),(.ext 0,[PX z7,i6 z8,i6 z9])]
def bU (xD:AE) (j1:Int×Int×List Int×Int×Int) (z10:Bool) (z11:List Int) (z12:Int) (z13:Int):St:=A9 [(0,(px 0)),(3,(pb 3)),(4,(pb 4)),(5,(pb 5)),(52,(B z10))] [(.box 3,[CQ xD.Flash.Blocks,DG xD.Store.Vols,BI xD.Store.Arena.Knots,i6 xD.Store.Next,i6 xD.Seq,i6 xD.Tx,i6 xD.Base]),(.box 4,[i6 0,i6 0,i6 0,i6 0,ts (bs [])]),(.box 5,[i6 j1.1,i6 j1.2.1,i6 0,i6 0,ts (bs [])]),(.ext 0,[PX z11,i6 z12,i6 z13])]
def bT (xD:AE) (j1:Int×Int×List Int×Int×Int) (j3:Bool×List Int×Int×Int) (z14:Int):St:=A9 [(0,(px 0)),(3,(pb 3)),(4,(pb 4)),(5,(pb 5))] [(.box 3,[CQ xD.Flash.Blocks,DG xD.Store.Vols,BI xD.Store.Arena.Knots,i6 xD.Store.Next,i6 xD.Seq,i6 xD.Tx,i6 xD.Base]),(.box 4,[i6 0,i6 0,i6 0,i6 0,ts (bs [])]),(.box 5,[i6 z14,i6 j1.2.1,i6 0,i6 0,ts (bs [])]),(.ext 0,[PX j3.2.1,i6 j3.2.2.1,i6 j3.2.2.2])]
def bS (j1:Int×Int×List Int×Int×Int) (j4:Int) (z15:Int) (z16:Int) (z17:ByteArray) (z18:List Int) (z19:Int) (z20:Int):St:=A9 [(4,(pb 4)),(5,(pb 5))] [(.box 4,[i6 0,i6 0,i6 0,i6 0,ts (bs [])]),(.box 5,[i6 j4,i6 j1.2.1,i6 z15,i6 z16,ts z17]),(.ext 0,[PX z18,i6 z19,i6 z20])]
def bR (xD:AE) (j1:Int×Int×List Int×Int×Int) (j3:Bool×List Int×Int×Int) (j4:Int) (z21:Bool):St:=A9 [(0,(px 0)),(3,(pb 3)),(4,(pb 4)),(5,(pb 5)),(55,(I j4)),(64,(B z21))] [(.box 3,[CQ xD.Flash.Blocks,DG xD.Store.Vols,BI xD.Store.Arena.Knots,i6 xD.Store.Next,i6 xD.Seq,i6 xD.Tx,i6 xD.Base]),(.box 4,[i6 0,i6 0,i6 0,i6 0,ts (bs [])]),(.box 5,[i6 j4,i6 j1.2.1,i6 0,i6 0,ts (bs [])]),(.ext 0,[PX j3.2.1,i6 j3.2.2.1,i6 j3.2.2.2])]
set_option maxHeartbeats 4000000 in
theorem Tu (xC:BC) (xD:AE) (r:TW×BC) (h:PJ xC xD=some r):AW Tryz.prog 50 [.ext [PX xC.b_,i6 xC.i_,i6 xC.h_],.sv (.agg (Tg false xD))] (.agg (c44 r.1)) (.ext [PX r.2.b_,i6 r.2.i_,i6 r.2.h_]::rg 1):=by
 refine gkx Tryz.func50 rfl Tryz.ntmps50 (ws (gw 2 0 (Ai 2 0 (RW.fz (.slot 7) 0 (iO [1,1,1,1,1,1,2,3,4,5,6]) (Gp h (VT _ _) (fun _=>rfl) (fun v1 gv1 h=>Ai 1 0 (Gp h (Dd _ _) (fun _=>rfl) (fun v2 gv2 h=>gn 4 0 (Wp.seq (ws (Ai 3 0 (RW.q (Dr Eo xD.Store.Vols) (gn 1 0 (Gd h [0,3,4,5] [.box 3,.box 4,.box 5,.ext 0] (fun a=>(bW xD a.1 a.2.1 a.2.2.1 a.2.2.2.1 a.2.2.2.2)) ?_ ?_))))))))))))))
 ·intro a h;refine wc h (fun h=>?_) (fun h=>?_)
  ·exact Au (gn 2 0 (jn h))
  refine FD h [0,3,4,5,31] [.box 3,.box 4,.box 5,.ext 0] (fun a=>(bV xD v1 v2 a.1 a.2.1 a.2.2.1 a.2.2.2)) (fun a h=>?_) (fun j2 h=>?_)
  ·refine Au (Ai 4 0 (AO 22 h (fun h=>?_) (fun h=>?_)))
   ·refine Ai 5 0 (AO 27 h (fun h=>?_) (fun h=>?_))
    ·exact Ai 1 0 (Gp h (T4 _ _) (fun _=>rfl) (fun v3 gv3 h=>gn 2 0 (jn h)))
    exact gn 4 0 (jn h)
   exact gn 9 0 (jn h)
  refine wc h (fun h=>?_) (fun h=>?_)
  ·refine DZ [8,13] mixed (fun c E h=>by rcases h with⟨h|h,_⟩<;>cases h) (Bl [3,4,5,6] 0 (KW.q 7 (Dr Eo xD.Store.Vols) (DW 0 8 ?_ ?_)))
   ·refine KB.o false (DW 1 8 ?_ ?_)
    ·refine KB.o false (DW 2 8 ?_ ?_)
     ·exact KB.o false (B8 8 (bC h (Dd _ _) (fun _=>rfl) (fun v7 gv7 h=>B8 9 (bd h fun x1 gx1 h=>KB.q (IR Eo gx1) (B8 10 (KB.q (D8 Eo gx1 0 0) (B8 11 (KB.q (CA Eo gx1 0) (Bl [12,13] 0 (Bk (jn h)))))))))))
     exact bC h (Dd _ _) (fun _=>rfl) (fun v8 gv8 h=>Bl [2] 0 (B8 9 (bd h fun x2 gx2 h=>KB.q (IR Eo gx2) (B8 10 (KB.q (D8 Eo gx2 0 0) (B8 11 (KB.q (CA Eo gx2 0) (Bl [12,13] 0 (Bk (jn h))))))))))
    exact bC h (Dd _ _) (fun _=>rfl) (fun v9 gv9 h=>Bl [1,2] 0 (B8 9 (bd h fun x3 gx3 h=>KB.q (IR Eo gx3) (B8 10 (KB.q (D8 Eo gx3 0 0) (B8 11 (KB.q (CA Eo gx3 0) (Bl [12,13] 0 (Bk (jn h))))))))))
   exact bC h (Dd _ _) (fun _=>rfl) (fun v10 gv10 h=>Bl [0,1,2] 0 (B8 9 (bd h fun x4 gx4 h=>KB.q (IR Eo gx4) (B8 10 (KB.q (D8 Eo gx4 0 0) (B8 11 (KB.q (CA Eo gx4 0) (Bl [12,13] 0 (Bk (jn h))))))))))
  exact Wp.skip (jn h)
 intro j1 h E hE;refine AY hE (Wp.seq (FD h [0,3,4,5,52] [.box 3,.box 4,.box 5,.ext 0] (fun a=>(bU xD j1 a.1 a.2.1 a.2.2.1 a.2.2.2)) (fun a h=>?_) (fun j3 h=>?_)))
 ·refine Au (Ai 4 0 (AO 48 h (fun h=>?_) (fun h=>?_)))
  ·exact Ai 1 0 (Gp h (T4 _ _) (fun _=>rfl) (fun v11 gv11 h=>gn 2 0 (jn h)))
  exact gn 4 0 (jn h)
 refine Gd h [0,3,4,5] [.box 3,.box 4,.box 5,.ext 0] (fun a=>(bT xD j1 j3 a)) ?_ ?_
 ·intro a h;refine wc h (fun h=>?_) (fun h=>?_)
  ·exact Au (gn 2 0 (jn h))
  exact Wp.skip (jn h)
 intro j4 h E hE;refine AY hE (Wp.seq (ws (gn 2 0 (Wp.block (ws (gn 2 0 (Gd h [4,5] [.box 4,.box 5,.ext 0] (fun a=>(bS j1 j4 a.1 a.2.1 a.2.2.1 a.2.2.2.1 a.2.2.2.2.1 a.2.2.2.2.2)) ?_ ?_)))))))
 ·intro a h;refine wc h (fun h=>?_) (fun h=>?_)
  ·exact ws (Ai 1 0 (Gp h (jA _) (fun _=>rfl) (fun v12 gv12 h=>gn 2 0 (Au (Ai 1 0 (Gp h (Dd _ _) (fun _=>rfl) (fun v13 gv13 h=>gn 2 0 (jn h))))))))
  refine Wp.seq (ws (gn 2 0 (Gd h [0,3,4,5,55,64] [.box 3,.box 4,.box 5,.ext 0] (fun a=>(bR xD j1 j3 j4 a)) ?_ ?_)))
  ·intro a h;refine wc h (fun h=>?_) (fun h=>?_)
   ·exact Wp.skip (jn h)
   exact Au (gn 2 0 (jn h))
  intro j6 h E hE;refine AY hE (wc h (fun h=>?_) (fun h=>?_))
  ·exact Au (Ai 1 0 (Gp h (Dd _ _) (fun _=>rfl) (fun v14 gv14 h=>gn 2 0 (jn h))))
  refine ws (gn 2 0 (wc h (fun h=>?_) (fun h=>?_)))
  ·refine ws (Ai 1 0 (Gp h (Dd _ _) (fun _=>rfl) (fun v15 gv15 h=>gw 3 0 (Ai 3 0 (RW.q (Dr Eo xD.Store.Vols) (gn 1 0 (wc h (fun h=>?_) (fun h=>?_))))))))
   ·exact Au (Ai 3 0 (CS Eo h (fun x5 gx5 h=>RW.q (D8 Eo gx5 0 0) (RW.q (CA Eo gx5 0) (gn 2 0 (jn h))))))
   exact Wp.skip (jn h)
  exact Wp.skip (jn h)
 intro j5 h E hE;exact AY hE (ws (gn 2 0 (Wp.ret (rr h▸rx))))
theorem Tv (xD:AE) (r:AE) (h:Ng xD=some r):AW Tryz.prog 95 [.sv (.agg (Tg false xD))] (.agg (Tg true r)) (rg 1):=by
 exact gk Tryz.func95 rfl Tryz.ntmps95 (ws (gw 2 0 (Ai 2 0 (RW.c 0 h (I4 _) (fun v1 gv1 h=>gw 2 0 (Ai 2 0 (RW.c 0 h (Fv _) (fun v2 gv2 h=>gw 2 0 (gn 2 0 (Wp.ret (rr h▸rq)))))))))))
def pO (xA:Arena) (b:Int) (a:Int) (z1:Bool):St:=A9 [(1,(I b)),(2,(I a)),(3,(pb 3)),(20,(B z1))] [(.box 3,[BI xA.Knots])]
theorem ZL (xA:Arena) (d:Int) (b:Int) (r:Int) (h:NW xA d b=some r):AW Tryz.prog 33 [.sv (.agg (Xs false xA)),.sv (I d),.sv (I b)] (I r) (rg 3):=by
 refine gk Tryz.func33 rfl Tryz.ntmps33 (ws (gn 2 0 (Wp.seq (FD h [1,2,3,20] [.box 3] (fun a=>(pO xA d b a)) (fun a h=>?_) (fun j1 h=>?_)))))
 ·refine Au (Ai 1 0 (RW.c 0 h (MA _) (fun v1 gv1 h=>Ai 2 0 (AO 10 h (fun h=>?_) (fun h=>?_)))))
  ·exact gn 10 0 (jn h)
  refine Ai 2 0 (RW.c 0 h (Kz _ _) (fun v2 gv2 h=>Ai 3 0 (AO 16 h (fun h=>?_) (fun h=>?_))))
  ·exact gn 4 0 (jn h)
  exact Ai 1 0 (RW.c 0 h (BL _ _ _) (fun v3 gv3 h=>gn 2 0 (jn h)))
 refine wc h (fun h=>?_) (fun h=>?_)
 ·exact ws (gn 1 0 (Wp.ret (rr h▸rq)))
 exact Wp.skip (ws (Ai 3 0 (RW.c 0 h (VP _ _ _) (fun v4 gv4 h=>gn 1 0 (Wp.ret (rr h▸rq))))))
def pX (xA:Arena) (a:Int) (z1:List Int) (z2:Int):St:=A9 [(1,(I a)),(2,(pb 2)),(5,(.one (En z1))),(6,(I z2))] [(.box 2,[BI xA.Knots])]
def pW (z3:List Int):St:=A9 [(5,(.one (En z3)))] []
theorem PQ (xA:Arena) (a:Int) (r:List Int) (h:Il xA a=some r):AW Tryz.prog 42 [.sv (.agg (Xs false xA)),.sv (I a)] (.one (En r)) (rg 2):=by
 refine gk Tryz.func42 rfl Tryz.ntmps42 (ws (gw 2 0 (gn 2 2 (Wp.seq (ws (gn 1 0 (BM h [1,2,5,6] [.box 2] (fun s=>(pX xA a s.1 s.2)) [5] [] (fun s=>(pW s)) EC ?_ ?_)))))))
 ·rintro⟨b,d⟩ o (h:Gu xA a b d=some o);refine Wp.seq (ws (gn 2 0 (wc h (fun h=>?_) (fun h=>?_))))
  ·exact Wp.skip (Wp.seq (Wp.block (Au (Ai 4 0 (RW.c 0 h (ZL _ _ _) (fun v1 gv1 h=>Ai 1 0 (bd h fun q1 gq1 h=>CR (DK k3 (fun _=>rfl) b gq1) (gn 1 1 (Au (gn 3 0 (jl h)))))))))))
  exact Wp.exit (jv h)
 intro v2 h E hE;exact AY hE (ws (gn 2 2 (Wp.ret (rr h▸rq))))
def SB (xA:List Int) (xB:List Int) (z1:Int):St:=A9 [(0,(.one (OQ xA))),(1,(.one (OQ xB))),(5,(I z1))] []
def SA:St:=A9 [] []
theorem TZ (xA:List Int) (xB:List Int) (r:Bool) (h:Kp xA xB=some r):AW Tryz.prog 150 [.sv (.one (OQ xA)),.sv (.one (OQ xB))] (B r) (rg 2):=by
 refine gk Tryz.func150 rfl Tryz.ntmps150 (ws (gn 1 0 (Wp.seq (ws (Ai 1 0 (RW.q (Dr k3 xA) (Ai 1 0 (RW.q (Dr k3 xB) (gn 1 0 (wc h (fun h=>?_) (fun h=>?_)))))))))))
 ·exact ws (gn 1 0 (Wp.ret (rr h▸rq)))
 refine Wp.skip (Wp.seq (ws (gn 1 0 (ED h [0,1,5] [] (fun s=>(SB xA xB s)) [] [] (fun _=>SA) EC ?_ ?_))))
 ·rintro a o (h:FM xA xB a=some o) hk1;refine Wp.seq (ws (Ai 2 0 (RW.q (Dr k3 xA) (gn 1 0 (wc h (fun h=>?_) (fun h=>?_))))))
  ·refine Wp.skip (Wp.seq (Wp.block (Wp.seq (KF mixed (Dn 2 (bd h fun x1 gx1 h=>SW.q (IR k3 gx1) (SW.q (CA k3 gx1 0) (Dn 2 (bd h fun x2 gx2 h=>SW.q (IR k3 gx2) (SW.q (CA k3 gx2 0) (Dn 1 (SW.nil (wc h (fun h=>?_) (fun h=>?_))))))))))))))
   ·exact ws (gn 1 0 (Wp.ret (rr (jo h hk1)▸rq)))
   exact Wp.skip (Au (gn 3 0 (jl h)))
  exact Wp.exit (jx h)
 intro v1 h E hE;exact AY hE (ws (gn 1 0 (Wp.ret (rr h▸rq))))
def Wf (xA:Store) (xB:Store) (z1:Bool):St:=A9 [(2,(pb 2)),(3,(pb 3)),(19,(B z1))] [(.box 2,[DG xA.Vols,BI xA.Arena.Knots,i6 xA.Next]),(.box 3,[DG xB.Vols,BI xB.Arena.Knots,i6 xB.Next])]
def We (xA:Store) (xB:Store) (z2:Int):St:=A9 [(2,(pb 2)),(3,(pb 3)),(5,(I z2))] [(.box 2,[DG xA.Vols,BI xA.Arena.Knots,i6 xA.Next]),(.box 3,[DG xB.Vols,BI xB.Arena.Knots,i6 xB.Next])]
def Wd:St:=A9 [] []
theorem Yp (xA:Store) (xB:Store) (r:Bool) (h:M6 xA xB=some r):AW Tryz.prog 127 [.sv (.agg (So false xA)),.sv (.agg (So false xB))] (B r) (rg 2):=by
 refine gk Tryz.func127 rfl Tryz.ntmps127 (ws (gn 3 0 (Wp.seq (FD h [2,3,19] [.box 2,.box 3] (fun a=>(Wf xA xB a)) (fun a h=>?_) (fun j1 h=>?_)))))
 ·refine Au (Ai 2 0 (RW.q (Dr Eo xA.Vols) (Ai 2 0 (RW.q (Dr Eo xB.Vols) (Ai 2 0 (AO 13 h (fun h=>?_) (fun h=>?_)))))))
  ·exact gn 6 0 (jn h)
  exact gn 6 0 (jn h)
 refine wc h (fun h=>?_) (fun h=>?_)
 ·exact ws (gn 1 0 (Wp.ret (rr h▸rq)))
 refine Wp.skip (Wp.seq (ws (gn 1 0 (ED h [2,3,5] [.box 2,.box 3] (fun s=>(We xA xB s)) [] [] (fun _=>Wd) EC ?_ ?_))))
 ·rintro b o (h:Hm xA xB b=some o) hk1;refine Wp.seq (ws (Ai 3 0 (RW.q (Dr Eo xA.Vols) (gn 1 0 (wc h (fun h=>?_) (fun h=>?_))))))
  ·refine Wp.skip (Wp.seq (Wp.block (Wp.seq (DZ [] mixed (fun c E h=>by rcases h with⟨h|h,_⟩<;>cases h) (Bl [0,1,2] 0 (bd h fun x1 gx1 h=>KW.q 3 (IR Eo gx1) (KW.q 4 (D8 Eo gx1 0 0) (KW.q 5 (CA Eo gx1 0) (Bl [6,7,8] 0 (bd h fun x2 gx2 h=>KW.q 9 (IR Eo gx2) (KW.q 10 (D8 Eo gx2 0 0) (KW.q 11 (CA Eo gx2 0) (Bl [12,13] 0 (ND 40 h (fun h=>?_) (fun h=>?_)))))))))))))))
   ·exact Bl [14,15,16,17,18,19,20,21,23,24,25,26,27,28,29,30,22,31,32,33,34] 0 (Bk (wt (ws (gn 1 0 (Wp.ret (rr (jo h hk1)▸rq))))))
   refine Bl [14,15,16,17,18] 0 (bd h fun x3 gx3 h=>KW.q 19 (IR Eo gx3) (KW.q 20 (D8 Eo gx3 0 1) (KW.q 21 (CA Eo gx3 1) (Bl [23,24,25,26,27] 0 (bd h fun x4 gx4 h=>KW.q 28 (IR Eo gx4) (KW.q 29 (D8 Eo gx4 0 1) (KW.q 30 (CA Eo gx4 1) (B8 22 (KB.c 0 h (PQ _ _) (fun v1 gv1 h=>B8 31 (KB.c 0 h (PQ _ _) (fun v2 gv2 h=>B8 32 (KB.c 0 h (gs (ca (co (cs (iO _))) (ca (co (cs (iO _))) rfl)) (TZ _ _)) (fun v3 gv3 h=>Bl [33,34] 0 (Bk (wc h (fun h=>?_) (fun h=>?_)))) (hc:=(.inr (fun v=>rfl))))))))))))))))
   ·exact ws (gn 1 0 (Wp.ret (rr (jo h hk1)▸rq)))
   exact Wp.skip (Au (gn 3 0 (jl h)))
  exact Wp.exit (jx h)
 intro v4 h E hE;exact AY hE (ws (gn 1 0 (Wp.ret (rr h▸rq))))
theorem eK (xD:AE) (r:Bool) (h:NZ xD=some r):AW Tryz.prog 96 [.sv (.agg (Tg false xD))] (B r) (rg 1):=by
 refine gk Tryz.func96 rfl Tryz.ntmps96 (ws (gw 2 0 (Ai 2 0 (RW.c 0 h (NV _) (fun v1 gv1 h=>gw 6 1 (Ai 2 0 (AO 12 h (fun h=>?_) (fun h=>?_))))))))
 ·refine Ai 4 0 (RW.c 0 h (gs (ca (iQ (ca (cs (Fe _)) (ca (cs (Dh _)) rfl))) rfl) (Yp _ _)) (fun v2 gv2 h=>Ai 2 0 (AO 19 h (fun h=>?_) (fun h=>?_))) (hc:=(.inr (fun v=>rfl))))
  ·refine Ai 7 0 (AO 26 h (fun h=>?_) (fun h=>?_))
   ·refine Ai 7 0 (AO 33 h (fun h=>?_) (fun h=>?_))
    ·refine Ai 7 0 (AO 40 h (fun h=>?_) (fun h=>?_))
     ·exact Ai 2 0 (RW.c 0 h (T5 _) (fun v3 gv3 h=>gn 2 0 (Wp.ret (rr h▸rq))))
     exact gn 5 0 (Wp.ret (rr h▸rq))
    exact gn 12 0 (Wp.ret (rr h▸rq))
   exact gn 19 0 (Wp.ret (rr h▸rq))
  exact gn 26 0 (Wp.ret (rr h▸rq))
 exact gn 33 0 (Wp.ret (rr h▸rq))
def pV (xQ:TW) (z1:Bool):St:=A9 [(1,(pb 1)),(28,(B z1))] [(.box 1,[i6 xQ.Kind,i6 xQ.Vol,i6 xQ.Sector,i6 xQ.Of,ts xQ.Text])]
def pU (z2:Bool):St:=A9 [(2,(B z2))] []
def pT (xQ:TW) (z3:Bool):St:=A9 [(1,(pb 1)),(50,(B z3))] [(.box 1,[i6 xQ.Kind,i6 xQ.Vol,i6 xQ.Sector,i6 xQ.Of,ts xQ.Text])]
theorem uV (xQ:TW) (r:Bool) (h:UP xQ=some r):AW Tryz.prog 54 [.sv (.agg (c44 xQ))] (B r) (rg 1):=by
 refine gk Tryz.func54 rfl Tryz.ntmps54 (ws (gn 2 0 (Wp.seq (FD h [1,28] [.box 1] (fun a=>(pV xQ a)) (fun a h=>?_) (fun j1 h=>?_)))))
 ·refine Au (Ai 2 0 (RW.c 0 h (BL _ _ _) (fun v1 gv1 h=>Ai 2 0 (AO 7 h (fun h=>?_) (fun h=>?_)))))
  ·exact gn 21 0 (jn h)
  refine Ai 2 0 (RW.c 0 h (BL _ _ _) (fun v2 gv2 h=>Ai 3 0 (AO 13 h (fun h=>?_) (fun h=>?_))))
  ·exact gn 15 0 (jn h)
  refine Ai 6 0 (AO 19 h (fun h=>?_) (fun h=>?_))
  ·exact gn 9 0 (jn h)
  refine Ai 4 0 (AO 23 h (fun h=>?_) (fun h=>?_))
  ·exact gn 5 0 (jn h)
  exact gn 5 0 (jn h)
 refine wc h (fun h=>?_) (fun h=>?_)
 ·exact ws (gn 1 0 (Wp.ret (rr h▸rq)))
 refine Wp.skip (Wp.seq (ws (gn 3 0 (wc h (fun h=>?_) (fun h=>?_)))))
 ·refine FD h [2] [] (fun a=>(pU a)) (fun a h=>?_) (fun j2 h=>?_)
  ·refine Au (Ai 4 0 (AO 35 h (fun h=>?_) (fun h=>?_)))
   ·exact Ai 2 0 (RW.c 0 h (BL _ _ _) (fun v3 gv3 h=>gn 2 0 (jn h)))
   exact gn 5 0 (jn h)
  exact Wp.ret (rr h▸rq)
 refine Wp.skip (Wp.seq (ws (gn 3 0 (wc h (fun h=>?_) (fun h=>?_)))))
 ·exact ws (gn 1 0 (Wp.ret (rr h▸rq)))
 refine Wp.skip (Wp.seq (FD h [1,50] [.box 1] (fun a=>(pT xQ a)) (fun a h=>?_) (fun j3 h=>?_)))
 ·refine Au (Ai 4 0 (AO 46 h (fun h=>?_) (fun h=>?_)))
  ·exact gn 4 0 (jn h)
  exact gn 4 0 (jn h)
 refine wc h (fun h=>?_) (fun h=>?_)
 ·exact ws (gn 4 0 (Wp.ret (rr h▸rq)))
 exact Wp.skip (ws (Ai 2 0 (RW.c 0 h (BL _ _ _) (fun v4 gv4 h=>gn 1 0 (Wp.ret (rr h▸rq))))))
def VO (a:List Int) (xX:Int) (z1:List Int) (z2:Int):St:=A9 [(0,(.one (OQ a))),(1,(I xX)),(5,(.one (En z1))),(6,(I z2))] []
def VN (a:List Int) (xX:Int) (z3:List Int):St:=A9 [(0,(.one (OQ a))),(1,(I xX)),(5,(.one (En z3)))] []
def VM (a:List Int) (xX:Int) (z4:List Int):St:=A9 [(0,(.one (OQ a))),(1,(I xX)),(5,(.one (En z4)))] []
def VL (a:List Int) (xX:Int) (z5:List Int) (z6:Int):St:=A9 [(0,(.one (OQ a))),(1,(I xX)),(5,(.one (En z5))),(7,(I z6))] []
def VK (z7:List Int):St:=A9 [(5,(.one (En z7)))] []
theorem XV (b:List Int) (xX:Int) (r:List Int) (h:M3 b xX=some r):AW Tryz.prog 43 [.sv (.one (OQ b)),.sv (I xX)] (.one (En r)) (rg 2):=by
 refine gk Tryz.func43 rfl Tryz.ntmps43 (ws (gw 1 0 (gn 2 2 (Wp.seq (ws (gn 1 0 (BM h [0,1,5,6] [] (fun s=>(VO b xX s.1 s.2)) [0,1,5] [] (fun s=>(VN b xX s)) EC ?_ ?_)))))))
 ·rintro⟨c,e⟩ o (h:Hi b xX c e=some o);refine Wp.seq (ws (Ai 2 0 (RW.q (Dr k3 b) (gn 1 0 (wc h (fun h=>?_) (fun h=>?_))))))
  ·refine Wp.skip (Wp.seq (Wp.block (ws (Ai 2 0 (CS k3 h (fun x1 gx1 h=>RW.q (CA k3 gx1 0) (gn 2 0 (wc h (fun h=>?_) (fun h=>?_)))))))))
   ·exact Au (Ai 3 0 (CS k3 h (fun x2 gx2 h=>RW.q (CA k3 gx2 0) (Ai 1 0 (bd h fun q1 gq1 h=>CR (DK k3 (fun _=>rfl) c gq1) (gn 1 1 (Au (gn 3 0 (jl h)))))))))
   exact Wp.skip (Au (gn 3 0 (jl h)))
  exact Wp.exit (jv h)
 intro v1 h E hE;refine AY hE (Wp.seq (ws (gn 2 0 (Gd h [0,1,5] [] (fun a=>(VM b xX a)) ?_ ?_))))
 ·intro a h;refine wc h (fun h=>?_) (fun h=>?_)
  ·exact Au (Ai 3 0 (bd h fun q2 gq2 h=>CR (DK k3 (fun _=>rfl) v1 gq2) (gn 1 1 (jn h))))
  exact Wp.skip (jn h)
 intro j1 h E hE;refine AY hE (Wp.seq (ws (gn 1 0 (BM h [0,1,5,7] [] (fun s=>(VL b xX s.1 s.2)) [5] [] (fun s=>(VK s)) EC ?_ ?_))))
 ·rintro⟨d,f⟩ o (h:FN b xX d f=some o);refine Wp.seq (ws (Ai 2 0 (RW.q (Dr k3 b) (gn 1 0 (wc h (fun h=>?_) (fun h=>?_))))))
  ·refine Wp.skip (Wp.seq (Wp.block (ws (Ai 2 0 (CS k3 h (fun x3 gx3 h=>RW.q (CA k3 gx3 0) (gn 2 0 (wc h (fun h=>?_) (fun h=>?_)))))))))
   ·exact Au (Ai 3 0 (CS k3 h (fun x4 gx4 h=>RW.q (CA k3 gx4 0) (Ai 1 0 (bd h fun q3 gq3 h=>CR (DK k3 (fun _=>rfl) d gq3) (gn 1 1 (Au (gn 3 0 (jl h)))))))))
   exact Wp.skip (Au (gn 3 0 (jl h)))
  exact Wp.exit (jv h)
 intro v2 h E hE;exact AY hE (ws (gn 2 2 (Wp.ret (rr h▸rq))))
def kO (xS:Store) (z1:List Int) (z2:Int):St:=A9 [(1,(pb 1)),(3,(.one (En z1))),(4,(I z2))] [(.box 1,[DG xS.Vols,BI xS.Arena.Knots,i6 xS.Next])]
def kN (z3:List Int):St:=A9 [(3,(.one (En z3)))] []
def kM (xS:Store) (a:Int) (v1:List Int) (z4:List Int) (z5:Int):St:=A9 [(1,(pb 1)),(3,(.one (En z4))),(4,(I a)),(5,(.one (En v1))),(6,(I z5))] [(.box 1,[DG xS.Vols,BI xS.Arena.Knots,i6 xS.Next])]
def kL (xS:Store) (a:Int) (z6:List Int):St:=A9 [(1,(pb 1)),(3,(.one (En z6))),(4,(I a))] [(.box 1,[DG xS.Vols,BI xS.Arena.Knots,i6 xS.Next])]
theorem LV (xS:Store) (r:List Int) (h:FW xS=some r):AW Tryz.prog 17 [.sv (.agg (So false xS))] (.one (En r)) (rg 1):=by
 refine gk Tryz.func17 rfl Tryz.ntmps17 (ws (gw 2 0 (gn 2 2 (Wp.seq (ws (gn 1 0 (BM h [1,3,4] [.box 1] (fun s=>(kO xS s.1 s.2)) [3] [] (fun s=>(kN s)) EC ?_ ?_)))))))
 ·rintro⟨a,b⟩ o (h:K5 xS a b=some o);refine Wp.seq (ws (Ai 3 0 (RW.q (Dr Eo xS.Vols) (gn 1 0 (wc h (fun h=>?_) (fun h=>?_))))))
  ·refine Wp.skip (Wp.seq (Wp.block (Wp.seq (Sv 8 mixed (Dn 5 (bd h fun x1 gx1 h=>SW.q (IR Eo gx1) (SW.q (D8 Eo gx1 0 1) (SW.q (CA Eo gx1 1) (SW.nil (RW.c 0 h (PQ _ _) (fun v1 gv1 h=>gw 1 1 (gn 1 0 (BM h [1,3,4,5,6] [.box 1] (fun s=>(kM xS b v1 s.1 s.2)) [1,3,4] [.box 1] (fun s=>(kL xS b s)) EC ?_ ?_)))))))))))))
   ·rintro⟨d,e⟩ o (h:K4 v1 d e=some o);refine Wp.seq (ws (Ai 2 0 (RW.q (Dr k3 v1) (gn 1 0 (wc h (fun h=>?_) (fun h=>?_))))))
    ·exact Wp.skip (Wp.seq (Wp.block (Au (Ai 3 0 (CS k3 h (fun x2 gx2 h=>RW.q (CA k3 gx2 0) (RW.c 0 h (gs (ca (co (cs (iO _))) rfl) (XV _ _)) (fun v2 gv2 h=>gn 1 1 (Au (gn 3 0 (jl h)))) (hc:=(.inr (fun v=>by simp [BE,BP,AT,BB,ns3,En]))))))))))
    exact Wp.exit (jv h)
   intro v3 h E hE;exact AY hE (Au (gn 3 0 (jl h)))
  exact Wp.exit (jv h)
 intro v4 h E hE;exact AY hE (ws (gn 2 2 (Wp.ret (rr h▸rq))))
def V9 (b:List Ak) (a:Int) (z1:Int):St:=A9 [(0,(.one (HN b))),(1,(I a)),(4,(pb 4)),(6,(I z1))] [(.box 4,[i6 0,i6 0,i6 0,i6 0,i6 0,i6 0,i6 0,ts (bs [])])]
def V8:St:=A9 [(4,(pb 4))] [(.box 4,[i6 0,i6 0,i6 0,i6 0,i6 0,i6 0,i6 0,ts (bs [])])]
def V7 (b:List Ak) (a:Int) (c:Int) (z2:Bool):St:=A9 [(0,(.one (HN b))),(1,(I a)),(4,(pb 4)),(6,(I c)),(30,(B z2))] [(.box 4,[i6 0,i6 0,i6 0,i6 0,i6 0,i6 0,i6 0,ts (bs [])])]
theorem XN (c:List Ak) (b:Int) (r:Ak×Bool) (h:Kw c b=some r):AW Tryz.prog 65 [.sv (.one (HN c)),.sv (I b)] (.tup [(.agg (c54 r.1)),(B r.2)]) (rg 2):=by
 refine gk Tryz.func65 rfl Tryz.ntmps65 (ws (gn 2 0 (Wp.seq (ws (Ai 1 0 (RW.q (Dr Ex c) (gn 2 0 (ED h [0,1,4,6] [.box 4] (fun s=>(V9 c b s)) [4] [.box 4] (fun _=>V8) EC ?_ ?_))))))))
 ·rintro d o (h:Hf c b d=some o) hk1;refine Wp.seq (ws (gn 2 0 (wc h (fun h=>?_) (fun h=>?_))))
  ·refine Wp.skip (Wp.seq (Wp.block (FD h [0,1,4,6,30] [.box 4] (fun a=>(V7 c b d a)) (fun a h=>?_) (fun j1 h=>?_))))
   ·refine Au (Ai 2 0 (CS Ex h (fun x1 gx1 h=>RW.q (D8 Ex gx1 0 2) (RW.q (D8 Ex gx1 2 2) (RW.q (CA Ex gx1 2) (Ai 2 0 (AO 21 h (fun h=>?_) (fun h=>?_))))))))
    ·exact Ai 2 0 (CS Ex h (fun x2 gx2 h=>RW.q (D8 Ex gx2 0 2) (RW.q (D8 Ex gx2 2 4) (RW.q (CA Ex gx2 4) (gn 3 0 (jn h))))))
    exact gn 9 0 (jn h)
   refine wc h (fun h=>?_) (fun h=>?_)
   ·exact ws (Ai 2 0 (CS Ex h (fun x3 gx3 h=>RW.q (Re Ex gx3 0 8) (gn 2 0 (Wp.ret (rr (jo h hk1)▸rq))))))
   exact Wp.skip (Au (gn 3 0 (jl h)))
  exact Wp.exit (jx h)
 intro v1 h E hE;exact AY hE (ws (gn 3 0 (Wp.ret (rr h▸rq))))
def AAz (x:AJ):List TV:=[i6 x.Back,i6 x.Size,ts x.Text]
theorem EW:∀x,(AAz x).length=3:=fun _=>rfl
theorem AB1:∀l,BG (AN AAz l)=AN AAz l:=D1 (fun _=>rfl)
def Hq (l:List AJ):TV:= .sl true 131 3 (AN AAz l)
def MD (l:List AJ):TV:= .sl false 131 3 (AN AAz l)
def VS (xT:ByteArray) (z1:List AJ) (z2:Int):St:=A9 [(0,(Y xT)),(4,(.one (Hq z1))),(5,(I z2))] []
def VR (z3:List AJ):St:=A9 [(4,(.one (Hq z3)))] []
theorem XW (xT:ByteArray) (r:List AJ×Bool) (h:I5 xT=some r):AW Tryz.prog 105 [.sv (Y xT)] (.tup [(.one (Hq r.1)),(B r.2)]) (rg 1):=by
 refine gk Tryz.func105 rfl Tryz.ntmps105 (ws (gw 2 0 (gw 2 2 (gn 1 0 (sl2 h [0,4,5] [] (fun s=>(VS xT s.1 s.2)) [4] [] (fun s=>(VR s)) ?_ (fun v1 h=>?_))))))
 ·rintro⟨a,b⟩ o (h:BY xT a b=some o) hk1;refine Wp.seq (ws (gn 4 0 (wc h (fun h=>?_) (fun h=>?_))))
  ·refine Wp.skip (Wp.block (ws (Ai 2 0 (bd h fun x1 gx1 h=>RW.q (iP gx1) (gn 2 0 (Wp.seq (ws (gn 2 0 (wc h (fun h=>?_) (fun h=>?_))))))))))
   ·refine Wp.seq (ws (gn 5 0 (wc h (fun h=>?_) (fun h=>?_))))
    ·exact ws (gn 3 2 (Wp.ret (rr (jo h hk1)▸rq)))
    exact Wp.skip (ws (Ai 4 0 (bd h fun x2 gx2 h=>RW.q (iP gx2) (Ai 5 0 (bd h fun q1 gq1 h=>CR (DK EW (fun _=>rfl) a gq1) (gw 1 1 (gn 3 0 (Wp.exit (jl h)))))))))
   refine Wp.skip (Wp.seq (ws (gn 7 0 (wc h (fun h=>?_) (fun h=>?_)))))
   ·exact ws (gn 3 2 (Wp.ret (rr (jo h hk1)▸rq)))
   exact Wp.skip (ws (Ai 8 0 (bd h fun x3 gx3 h=>RW.q (Pr gx3) (Ai 2 0 (bd h fun q2 gq2 h=>CR (DK EW (fun _=>rfl) a gq2) (gn 1 1 (Au (gn 5 0 (jl h)))))))))
  exact Wp.exit (jx h)
 exact ws (gn 3 2 (Wp.ret (rr h▸rq)))
def dV (a:List AJ) (z1:List Int) (z2:Int):St:=A9 [(0,(.one (MD a))),(4,(.one (fD z1))),(5,(I z2))] []
def dU (z3:List Int):St:=A9 [(4,(.one (fD z3)))] []
def dT (a:List AJ) (b:Int) (z4:List Int):St:=A9 [(0,(.one (MD a))),(4,(.one (fD z4))),(5,(I b))] []
def dS (a:List AJ) (b:List Int) (c:Int) (x1:AJ) (z5:Bool):St:=A9 [(0,(.one (MD a))),(4,(.one (fD b))),(5,(I c)),(6,(pb 6)),(32,(B z5))] [(.box 6,[i6 x1.Back,i6 x1.Size,ts x1.Text])]
def dR (a:List AJ) (b:List Int) (c:Int) (x1:AJ) (z6:Bool):St:=A9 [(0,(.one (MD a))),(4,(.one (fD b))),(5,(I c)),(6,(pb 6)),(54,(B z6))] [(.box 6,[i6 x1.Back,i6 x1.Size,ts x1.Text])]
def dQ (a:List AJ) (b:Int) (x1:AJ) (z7:List Int) (z8:Int):St:=A9 [(0,(.one (MD a))),(4,(.one (fD z7))),(5,(I b)),(6,(pb 6)),(7,(I z8))] [(.box 6,[i6 x1.Back,i6 x1.Size,ts x1.Text])]
def dP (a:List AJ) (b:Int) (z9:List Int):St:=A9 [(0,(.one (MD a))),(4,(.one (fD z9))),(5,(I b))] []
theorem kH (d:List AJ) (r:ByteArray×Bool) (h:Fq d=some r):AW Tryz.prog 106 [.sv (.one (MD d))] (.tup [(Y r.1),(B r.2)]) (rg 1):=by
 refine gk Tryz.func106 rfl Tryz.ntmps106 (ws (gw 2 0 (gn 2 2 (Wp.seq (ws (gn 1 0 (ED h [0,4,5] [] (fun s=>(dV d s.1 s.2)) [4] [] (fun s=>(dU s)) EC ?_ ?_)))))))
 ·rintro⟨e,i⟩ o (h:DD d e i=some o) hk1;refine Wp.seq (ws (Ai 2 0 (RW.q (Dr EW d) (gn 1 0 (wc h (fun h=>?_) (fun h=>?_))))))
  ·refine Wp.skip (Wp.seq (Wp.block (ws (Ai 2 0 (CS EW h (fun x1 gx1 h=>RW.q (Re EW gx1 0 3) (gn 2 0 (Wp.seq (ws (gn 3 0 (nI h [0,4,5] [] (fun a=>(dT d i a)) ?_ ?_)))))))))))
   ·intro a h j;refine wc h (fun h=>?_) (fun h=>?_)
    ·refine Wp.seq (FD h [0,4,5,6,32] [.box 6] (fun a=>(dS d e i x1 a)) (fun a h=>?_) (fun j2 h=>?_))
     ·refine Au (Ai 3 0 (RW.c 0 h (BL _ _ _) (fun v1 gv1 h=>Ai 2 0 (AO 28 h (fun h=>?_) (fun h=>?_)))))
      ·exact gn 4 0 (jn h)
      exact gn 4 0 (jn h)
     refine wc h (fun h=>?_) (fun h=>?_)
     ·exact ws (gn 2 0 (Wp.ret (rr (jo (jr h j) hk1)▸rq)))
     exact Wp.skip (Au (Ai 3 0 (CR (fsb (f:=c5) (b:=x1.Text) (fun _=>rfl) (by kernel_rfl)) (bd h fun q1 gq1 h=>CR (DK k5 (fun _=>rfl) e gq1) (gn 1 1 (jm h))))))
    refine Wp.seq (FD h [0,4,5,6,54] [.box 6] (fun a=>(dR d e i x1 a)) (fun a h=>?_) (fun j3 h=>?_))
    ·refine Au (Ai 3 0 (RW.q (Dr k5 e) (RW.c 0 h (BL _ _ _) (fun v2 gv2 h=>Ai 2 0 (AO 44 h (fun h=>?_) (fun h=>?_))))))
     ·exact gn 10 0 (jn h)
     refine Ai 2 0 (RW.c 0 h (BL _ _ _) (fun v3 gv3 h=>Ai 3 0 (AO 50 h (fun h=>?_) (fun h=>?_))))
     ·exact gn 4 0 (jn h)
     exact gn 4 0 (jn h)
    refine wc h (fun h=>?_) (fun h=>?_)
    ·exact ws (gn 2 0 (Wp.ret (rr (jo (jr h j) hk1)▸rq)))
    refine Wp.skip (ws (gn 1 0 (BM h [0,4,5,6,7] [.box 6] (fun s=>(dQ d i x1 s.1 s.2)) [0,4,5] [] (fun s=>(dP d i s)) EC ?_ ?_)))
    ·rintro⟨g,k⟩ o (h:DC x1 g k=some o);refine Wp.seq (ws (gn 4 0 (wc h (fun h=>?_) (fun h=>?_))))
     ·exact Wp.skip (Wp.seq (Wp.block (ws (Ai 2 0 (RW.q (Dr k5 g) (Ai 3 0 (CS k5 h (fun x2 gx2 h=>RW.q (CA k5 gx2 0) (gn 1 0 (Au (Ai 3 0 (bd h fun q2 gq2 h=>CR (DK k5 (fun _=>rfl) g gq2) (gn 1 1 (Au (gn 3 0 (jl h))))))))))))))))
     exact Wp.exit (jv h)
    intro v4 h E hE;cases h;exact⟨_,rfl,hE⟩
   intro j1 h E hE;refine AY hE (ws (Ai 1 0 (RW.q (Dr k5 j1) (gn 1 0 (wc h (fun h=>?_) (fun h=>?_))))))
   ·exact ws (gn 2 0 (Wp.ret (rr (jo h hk1)▸rq)))
   exact Wp.skip (Au (gn 3 0 (jl h)))
  exact Wp.exit (jx h)
 intro v5 h E hE;exact AY hE (ws (Ai 1 0 (RW.q (pcv (f:=c5) (fun _=>rfl) v5) (gn 2 0 (Wp.ret (rr h▸rq))))))
end Go.TI
