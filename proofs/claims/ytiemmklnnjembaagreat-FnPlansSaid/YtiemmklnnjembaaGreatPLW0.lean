/- That they compute it. No condition. -/
import Derived.Test.YtiemmklnnjembaaGreatPLS0
import Derived.Test.YtiemmklnnjembaaGreatProg
import Derived.Shelf.Abstract
import Derived.KernelRfl
namespace Go.TI
open Go Go.Proofs
set_option maxRecDepth 100000
theorem mixed:Tryz.prog.follows .mixedOrders=true:=rfl
theorem AEw:sW Tryz.prog 83 3:=wG Tryz.lays191 3
def c5 (x:Int):List TV:=[.int .u8 x]
theorem k5:∀x,(c5 x).length=1:=fun _=>rfl
def fM (l:List Int):TV:= .sl true 5 1 (AM c5 l)
def Pz (l:List Int):TV:= .sl false 5 1 (AM c5 l)
theorem ABg (a:List Int) (r:Bool) (h:Vq a=some r):AU Tryz.prog 7 [.sv (.one (Pz a))] (B r) (rg 1):=by
 unfold Vq at h;exact gk Tryz.func7 rfl Tryz.ntmps7 (ws (gw 1 0 (Ai 1 0 (RW.q (Di k5 a) (gn 2 0 (Wp.ret (rr h▸rq)))))))
def kE (a:List Int) (z1:Int) (z2:Int):St:=AA [(0,(.one (Pz a))),(3,(I z1)),(4,(I z2))] []
def kD (a:List Int) (z3:Int):St:=AA [(0,(.one (Pz a))),(3,(I z3))] []
def kC (a:List Int) (b:Int) (c:Int) (z4:Bool):St:=AA [(0,(.one (Pz a))),(3,(I b)),(4,(I c)),(15,(B z4))] []
theorem VY (b:List Int) (r:BD) (h:Pi b=some r):iR Tryz.prog 29 [.sv (.one (Pz b))] [Pz r.b_,i6 r.i_,i6 r.h_]:=by
 refine gkp Tryz.func29 rfl Tryz.ntmps29 (ws (AEE (pjk) (RW.nil (ws (Ai 1 0 (RW.q (Di k5 b) (gn 2 0 (Wp.seq (ws (gn 1 0 (BP h [0,3,4] [] (fun s=>(kE b s.1 s.2)) [0,3] [] (fun s=>(kD b s)) EG ?_ ?_)))))))))))
 ·rintro⟨c,d⟩ o (h:I9 b c d=some o);refine Wp.seq (Fk h [0,3,4,15] [] (fun a=>(kC b c d a)) (fun a h=>?_) (fun j1 h=>?_))
  ·refine As (Ai 2 0 (RW.q (Di k5 b) (Ai 2 0 (AJ 12 h (fun h=>?_) (fun h=>?_)))))
   ·exact gn 3 0 (jn h)
   exact gn 3 0 (jn h)
  refine wc h (fun h=>?_) (fun h=>?_)
  ·exact Wp.skip (Wp.seq (Wp.block (As (Ai 4 0 (CU k5 h (fun x1 gx1 h=>RW.q (CH k5 gx1 0) (gn 5 0 (As (gn 3 0 (jl h))))))))))
  exact Wp.exit (jv h)
 intro v1 h E hE;refine AX hE (ws (gn 5 0 ?_));cases h;exact Wp.ret ⟨.inr rfl,rsp 2 rfl (by kernel_rfl)⟩
set_option maxHeartbeats 4000000 in
theorem K1 (xC:BD) (r:Int×BD) (h:IA xC=some r):AU Tryz.prog 36 [.ext [Pz xC.b_,i6 xC.i_,i6 xC.h_]] (I r.1) (.ext [Pz r.2.b_,i6 r.2.i_,i6 r.2.h_]::rg 0):=by
 refine gkx Tryz.func36 rfl Tryz.ntmps36 (ws (gw 1 0 (gn 10 0 (Wp.seq (KH mixed (Dl 13 (SW.nil (Wp.seq (Wp.seq (KH mixed (Dl 8 (SW.q (Di k5 xC.b_) (Dl 1 (SW.nil (wc h (fun h=>?_) (fun h=>?_))))))))))))))))
 ·exact Wp.seq (KH mixed (Dl 9 (bd h fun x1 gx1 h=>SW.q (Jo k5 gx1) (SW.q (CH k5 gx1 0) (Dl 4 (SW.nil (As (gw 9 0 (gn 2 0 (Wp.ret (rr h▸rx)))))))))))
 exact Wp.skip (ws (gn 2 0 (Wp.ret (rr h▸rx))))
set_option maxHeartbeats 4000000 in
theorem De (xC:BD) (xN:Int) (r:Int×BD) (h:D1 xC xN=some r):AU Tryz.prog 37 [.ext [Pz xC.b_,i6 xC.i_,i6 xC.h_],.sv (I xN)] (I r.1) (.ext [Pz r.2.b_,i6 r.2.i_,i6 r.2.h_]::rg 1):=by
 refine gkx Tryz.func37 rfl Tryz.ntmps37 (ws (gn 1 0 (Wp.seq (ws (gn 2 0 (wc h (fun h=>?_) (fun h=>?_)))))))
 ·exact ws (gn 1 0 (Wp.ret (rr h▸rx)))
 refine Wp.skip (Wp.seq (ws (gn 2 0 (wc h (fun h=>?_) (fun h=>?_)))))
 ·exact ws (Ai 1 0 (FK h (K1 _) (fun _=>rfl) (fun v1 gv1 h=>Ai 1 0 (bd h fun x1 gx1 h=>RW.q (prm gx1) (gn 1 0 (Wp.ret (rr h▸rx)))))))
 exact Wp.skip (ws (Ai 1 0 (FK h (K1 _) (fun _=>rfl) (fun v2 gv2 h=>gw 1 0 (Ai 1 0 (FK h (K1 _) (fun _=>rfl) (fun v3 gv3 h=>gw 1 0 (Ai 1 0 (FK h (K1 _) (fun _=>rfl) (fun v4 gv4 h=>gw 1 0 (Ai 1 0 (FK h (K1 _) (fun _=>rfl) (fun v5 gv5 h=>gw 1 0 (Ai 11 0 (bd h fun x2 gx2 h=>RW.q (prm gx2) (gn 1 0 (Wp.ret (rr h▸rx))))))))))))))))))
theorem BM (xX:Int) (a:Int) (b:Int) (r:Bool) (h:BK xX a b=some r):AU Tryz.prog 46 [.sv (I xX),.sv (I a),.sv (I b)] (B r) (rg 3):=by
 refine gk Tryz.func46 rfl Tryz.ntmps46 (ws (gw 1 0 (Ai 4 0 (AJ 10 h (fun h=>?_) (fun h=>?_)))))
 ·exact gn 5 0 (Wp.ret (rr h▸rq))
 exact gn 5 0 (Wp.ret (rr h▸rq))
def c90 (x:Leaf):List TV:=[i6 x.Is,ts x.Text]
theorem Mn:∀x,(c90 x).length=2:=fun _=>rfl
theorem AEg:∀l,BH (AM c90 l)=AM c90 l:=D3 (fun _=>rfl)
theorem AEu:∀l,AO (AM c90 l)=false:=Kq (fun _=>rfl)
def AEt (l:List Leaf):TV:= .sl true 90 2 (AM c90 l)
def YT (l:List Leaf):TV:= .sl false 90 2 (AM c90 l)
def xW (o:Bool) (x:Block):List TV:=[tb x.Bad,i6 x.Wear,.sl o 90 2 (AM c90 x.Leaves)]
theorem EX (o:Bool):∀x,(xW o x).length=3:=fun _=>rfl
theorem Ff:∀l,BH (AM (xW true) l)=AM (xW false) l:=D3 (fun x=>by simp only [xW,BH,La,AEg])
theorem vT:∀l,AO (AM (xW true) l)=false:=Kq (fun x=>by simp [xW,AO,B9,AEu])
def CR (l:List Block):TV:= .sl true 77 3 (AM (xW true) l)
def Da (l:List Block):TV:= .sl false 77 3 (AM (xW false) l)
def TR (o:Bool) (x:Flash):List TV:=[.sl o 77 3 (AM (xW o) x.Blocks)]
def YF (xN:Int) (z1:Int) (z2:List Block):St:=AA [(0,(I xN)),(2,(pb 2)),(4,(pb 4)),(5,(I z1))] [(.box 2,[CR []]),(.box 4,[CR z2])]
def YE (z3:List Block):St:=AA [(2,(pb 2)),(4,(pb 4))] [(.box 2,[CR []]),(.box 4,[CR z3])]
theorem eO (xN:Int) (r:Flash×Bool) (h:NV xN=some r):AU Tryz.prog 93 [.sv (I xN)] (.tup [(.agg (TR true r.1)),(B r.2)]) (rg 1):=by
 refine gk Tryz.func93 rfl Tryz.ntmps93 (ws (gn 2 0 (Wp.seq (ws (Ai 1 0 (RW.c 0 h (BM _ _ _) (fun v1 gv1 h=>gn 1 0 (wc h (fun h=>?_) (fun h=>?_)))))))))
 ·exact ws (gn 3 0 (Wp.ret (rr h▸rq)))
 refine Wp.skip (ws (gn 3 0 (Wp.seq (ws (gn 1 0 (BP h [0,2,4,5] [.box 2,.box 4] (fun s=>(YF xN s.1 s.2)) [2,4] [.box 2,.box 4] (fun s=>(YE s)) EG ?_ ?_))))))
 ·rintro⟨b,a⟩ o (h:HZ xN b a=some o);refine Wp.seq (ws (gn 3 0 (wc h (fun h=>?_) (fun h=>?_))))
  ·exact Wp.skip (Wp.seq (Wp.block (Eu [5,7] mixed (fun c E h=>by rcases h with⟨h|h,_⟩<;>cases h) (Bw [0,1] 0 (BC 2 (bd h fun q1 gq1 h=>Ml (fmk Mn (Leaf.mk 0 (bs [])) gq1) (Bw [3,4] 0 (BC 5 (bd h fun q2 gq2 h=>Ml (r8 (EX true) a [(Block.mk false 0 q1)] gq2) (Bw [6,7] 0 (Bv (As (gn 3 0 (jl h))))))))))))))
  exact Wp.exit (jv h)
 intro v2 h E hE;exact AX hE (ws (gn 3 0 (Wp.ret (rr h▸rq))))
theorem j7 (xX:Leaf) (r:Bool) (h:PM xX=some r):AU Tryz.prog 148 [.sv (.agg (c90 xX))] (B r) (rg 1):=by
 refine gk Tryz.func148 rfl Tryz.ntmps148 (ws (gn 2 0 (Wp.seq (ws (gn 2 0 (Wp.block (ws (gn 2 0 (wc h (fun h=>?_) (fun h=>?_))))))))))
 ·exact ws (gn 4 0 (Wp.ret (rr h▸rq)))
 refine ws (gn 2 0 (wc h (fun h=>?_) (fun h=>?_)))
 ·exact ws (Ai 3 0 (RW.c 0 h (BM _ _ _) (fun v1 gv1 h=>gn 1 0 (Wp.ret (rr h▸rq)))))
 refine ws (gn 2 0 (wc h (fun h=>?_) (fun h=>?_)))
 ·exact ws (gn 5 0 (Wp.ret (rr h▸rq)))
 exact Wp.skip (ws (gn 1 0 (Wp.ret (rr h▸rq))))
def eN (xF:Flash) (z1:Int):St:=AA [(1,(pb 1)),(3,(I z1))] [(.box 1,[Da xF.Blocks])]
def eM (xF:Flash):St:=AA [(1,(pb 1))] [(.box 1,[Da xF.Blocks])]
def eK (xF:Flash) (a:Int) (x1:Block) (z2:Bool):St:=AA [(1,(pb 1)),(3,(I a)),(4,(pb 4)),(27,(B z2))] [(.box 1,[Da xF.Blocks]),(.box 4,[tb x1.Bad,i6 x1.Wear,YT x1.Leaves])]
def eJ (xF:Flash) (a:Int) (x1:Block) (z3:Int):St:=AA [(1,(pb 1)),(3,(I a)),(4,(pb 4)),(5,(I z3))] [(.box 1,[Da xF.Blocks]),(.box 4,[tb x1.Bad,i6 x1.Wear,YT x1.Leaves])]
def eI (xF:Flash) (a:Int):St:=AA [(1,(pb 1)),(3,(I a))] [(.box 1,[Da xF.Blocks])]
def eH (xF:Flash) (a:Int) (x1:Block) (b:Int) (z4:Bool):St:=AA [(1,(pb 1)),(3,(I a)),(4,(pb 4)),(5,(I b)),(64,(B z4))] [(.box 1,[Da xF.Blocks]),(.box 4,[tb x1.Bad,i6 x1.Wear,YT x1.Leaves])]
theorem M1 (xF:Flash) (r:Bool) (h:IF xF=some r):AU Tryz.prog 122 [.sv (.agg (TR false xF))] (B r) (rg 1):=by
 refine gk Tryz.func122 rfl Tryz.ntmps122 (ws (gn 2 0 (Wp.seq (ws (gn 1 0 (E5 h [1,3] [.box 1] (fun s=>(eN xF s)) [1] [.box 1] (fun _=>(eM xF)) EG ?_ ?_))))))
 ·rintro b o (h:HE xF b=some o) hk1;refine Wp.seq (ws (Ai 3 0 (RW.q (Di (EX false) xF.Blocks) (gn 1 0 (wc h (fun h=>?_) (fun h=>?_))))))
  ·refine Wp.skip (Wp.seq (Wp.block (ws (Ai 3 0 (CU (EX false) h (fun x1 gx1 h=>RW.q (Qz (EX false) gx1 0 3) (gn 2 0 (Wp.seq (Fk h [1,3,4,27] [.box 1,.box 4] (fun a=>(eK xF b x1 a)) (fun a h=>?_) (fun j1 h=>?_))))))))))
   ·refine As (Ai 2 0 (RW.q (Di Mn x1.Leaves) (Ai 2 0 (AJ 22 h (fun h=>?_) (fun h=>?_)))))
    ·exact gn 5 0 (jn h)
    exact Ai 2 0 (RW.c 0 h (BM _ _ _) (fun v1 gv1 h=>gn 2 0 (jn h)))
   refine wc h (fun h=>?_) (fun h=>?_)
   ·exact ws (gn 1 0 (Wp.ret (rr (jo h hk1)▸rq)))
   refine Wp.skip (ws (gn 1 0 (E5 h [1,3,4,5] [.box 1,.box 4] (fun s=>(eJ xF b x1 s)) [1,3] [.box 1] (fun _=>(eI xF b)) EG ?_ ?_)))
   ·rintro d o (h:HD x1 d=some o) hk2;refine Wp.seq (ws (Ai 3 0 (RW.q (Di Mn x1.Leaves) (gn 1 0 (wc h (fun h=>?_) (fun h=>?_))))))
    ·refine Wp.skip (Wp.seq (Wp.block (Fk h [1,3,4,5,64] [.box 1,.box 4] (fun a=>(eH xF b x1 d a)) (fun a h=>?_) (fun j2 h=>?_))))
     ·refine As (Ai 3 0 (CU Mn h (fun x2 gx2 h=>RW.q (Qz Mn gx2 0 2) (RW.c 0 h (j7 _) (fun v2 gv2 h=>Ai 2 0 (AJ 42 h (fun h=>?_) (fun h=>?_)))))))
      ·exact gn 22 0 (jn h)
      refine Ai 3 0 (AJ 45 h (fun h=>?_) (fun h=>?_))
      ·refine Ai 4 0 (CU Mn h (fun x3 gx3 h=>RW.q (DA Mn gx3 0 0) (RW.q (CH Mn gx3 0) (Ai 3 0 (AJ 55 h (fun h=>?_) (fun h=>?_))))))
       ·exact Ai 3 0 (CU Mn h (fun x4 gx4 h=>RW.q (DA Mn gx4 0 0) (RW.q (CH Mn gx4 0) (gn 3 0 (jn h)))))
       exact gn 9 0 (jn h)
      exact gn 19 0 (jn h)
     refine wc h (fun h=>?_) (fun h=>?_)
     ·exact ws (gn 1 0 (Wp.ret (rr (jo (jo h hk2) hk1)▸rq)))
     exact Wp.skip (As (gn 3 0 (jl h)))
    exact Wp.exit (jx h)
   intro v3 h E hE;exact AX hE (As (gn 3 0 (jl h)))
  exact Wp.exit (jx h)
 intro v4 h E hE;exact AX hE (ws (Ai 2 0 (RW.q (Di (EX false) xF.Blocks) (RW.c 0 h (BM _ _ _) (fun v5 gv5 h=>gn 1 0 (Wp.ret (rr h▸rq)))))))
def Yz (xF:Flash) (xB:Int) (a:Int) (z1:Bool):St:=AA [(1,(I xB)),(2,(I a)),(3,(pb 3)),(40,(B z1))] [(.box 3,[Da xF.Blocks])]
theorem dX (xF:Flash) (xB:Int) (b:Int) (r:ByteArray×Bool) (h:NR xF xB b=some r):AU Tryz.prog 20 [.sv (.agg (TR false xF)),.sv (I xB),.sv (I b)] (.tup [(Y r.1),(B r.2)]) (rg 3):=by
 refine gk Tryz.func20 rfl Tryz.ntmps20 (ws (gn 3 0 (Wp.seq (Fk h [1,2,3,40] [.box 3] (fun a=>(Yz xF xB b a)) (fun a h=>?_) (fun j1 h=>?_)))))
 ·refine As (Ai 3 0 (RW.q (Di (EX false) xF.Blocks) (Ai 1 0 (RW.c 0 h (BM _ _ _) (fun v1 gv1 h=>Ai 2 0 (AJ 15 h (fun h=>?_) (fun h=>?_)))))))
  ·exact gn 25 0 (jn h)
  refine Ai 4 0 (CU (EX false) h (fun x1 gx1 h=>RW.q (DA (EX false) gx1 0 2) (RW.q (CH (EX false) gx1 2) (RW.q (Di Mn x1.Leaves) (Ai 1 0 (RW.c 0 h (BM _ _ _) (fun v2 gv2 h=>Ai 3 0 (AJ 28 h (fun h=>?_) (fun h=>?_)))))))))
  ·exact gn 12 0 (jn h)
  exact Ai 3 0 (CU (EX false) h (fun x2 gx2 h=>RW.q (DA (EX false) gx2 0 2) (RW.q (CH (EX false) gx2 2) (Ai 1 0 (CU Mn h (fun x3 gx3 h=>RW.q (DA Mn gx3 0 0) (RW.q (CH Mn gx3 0) (gn 2 0 (jn h)))))))))
 refine wc h (fun h=>?_) (fun h=>?_)
 ·exact ws (gn 2 0 (Wp.ret (rr h▸rq)))
 exact Wp.skip (ws (Ai 3 0 (CU (EX false) h (fun x4 gx4 h=>RW.q (DA (EX false) gx4 0 2) (RW.q (CH (EX false) gx4 2) (Ai 1 0 (CU Mn h (fun x5 gx5 h=>RW.q (DA Mn gx5 0 1) (RW.q (CH Mn gx5 1) (gn 2 0 (Wp.ret (rr h▸rq))))))))))))
def cZ (a:ByteArray) (z1:Int) (z2:Int):St:=AA [(0,(.one (.int .u32 z1))),(1,(Y a)),(5,(I z2))] []
def cY (z3:Int):St:=AA [(0,(.one (.int .u32 z3)))] []
def cX (a:ByteArray) (b:Int) (z4:Int) (z5:Int):St:=AA [(0,(.one (.int .u32 z4))),(1,(Y a)),(5,(I b)),(6,(I z5))] []
def cW (a:ByteArray) (b:Int) (z6:Int):St:=AA [(0,(.one (.int .u32 z6))),(1,(Y a)),(5,(I b))] []
theorem kH (b:Int) (a:ByteArray) (r:Int) (h:PN b a=some r):AU Tryz.prog 114 [.sv (.one (.int .u32 b)),.sv (Y a)] (.one (.int .u32 r)) (rg 2):=by
 refine gk Tryz.func114 rfl Tryz.ntmps114 (ws (gn 1 0 (Wp.seq (ws (gn 1 0 (BP h [0,1,5] [] (fun s=>(cZ a s.1 s.2)) [0] [] (fun s=>(cY s)) EG ?_ ?_))))))
 ·rintro⟨c,d⟩ o (h:Jf a c d=some o);refine Wp.seq (ws (gn 4 0 (wc h (fun h=>?_) (fun h=>?_))))
  ·refine Wp.skip (Wp.seq (Wp.block (ws (Ai 3 0 (bd h fun x1 gx1 h=>RW.q (iW gx1) (gw 3 0 (gn 1 0 (BP h [0,1,5,6] [] (fun s=>(cX a d s.1 s.2)) [0,1,5] [] (fun s=>(cW a d s)) EG ?_ ?_))))))))
   ·rintro⟨e,f⟩ o (h:HA e f=some o);refine Wp.seq (ws (gn 2 0 (wc h (fun h=>?_) (fun h=>?_))))
    ·refine Wp.skip (Wp.seq (Wp.block (ws (gw 4 0 (gw 3 0 (gn 1 0 (wc h (fun h=>?_) (fun h=>?_))))))))
     ·exact As (gn 3 0 (As (gn 3 0 (jl h))))
     exact Wp.skip (As (gn 3 0 (jl h)))
    exact Wp.exit (jv h)
   intro v1 h E hE;exact AX hE (As (gn 3 0 (jl h)))
  exact Wp.exit (jv h)
 intro v2 h E hE;exact AX hE (ws (gn 2 0 (Wp.ret (rr h▸rq))))
theorem ZJ (a:ByteArray) (r:Int) (h:Mx a=some r):AU Tryz.prog 73 [.sv (Y a)] (.one (.int .u32 r)) (rg 1):=by
 exact gk Tryz.func73 rfl Tryz.ntmps73 (ws (gw 1 0 (Ai 1 0 (RW.c 0 h (kH _ _) (fun v1 gv1 h=>gn 1 0 (Wp.ret (rr h▸rq)))))))
theorem Tz (xX:Int) (r:ByteArray) (h:JK xX=some r):AU Tryz.prog 72 [.sv (.one (.int .u32 xX))] (Y r) (rg 1):=by
 unfold JK at h;exact gk Tryz.func72 rfl Tryz.ntmps72 (ws (gw 1 0 (Ai 12 0 (RW.q (pcv (f:=c5) (fun _=>rfl) [(IntKind.u8.wrap (Int.fdiv xX (2^(min (24:Int).toNat IntKind.u32.bits)))),(IntKind.u8.wrap (Int.fdiv xX (2^(min (16:Int).toNat IntKind.u32.bits)))),(IntKind.u8.wrap (Int.fdiv xX (2^(min (8:Int).toNat IntKind.u32.bits)))),(IntKind.u8.wrap xX)]) (gn 1 0 (Wp.ret (rr h▸rq)))))))
def Yg (a:ByteArray) (z1:Bool):St:=AA [(0,(Y a)),(4,(I (sb (FE a) 4))),(24,(B z1))] []
theorem cN (b:ByteArray) (r:ByteArray×Bool) (h:JL b=some r):AU Tryz.prog 47 [.sv (Y b)] (.tup [(Y r.1),(B r.2)]) (rg 1):=by
 refine gk Tryz.func47 rfl Tryz.ntmps47 (ws (gw 2 0 (gn 4 0 (Wp.seq (Fk h [0,4,24] [] (fun a=>(Yg b a)) (fun a h=>?_) (fun j1 h=>?_))))))
 ·refine Eu [] mixed (fun c E h=>by rcases h with⟨h|h,_⟩<;>cases h) (Bw [0,1,2] 0 (XC 10 h (fun h=>?_) (fun h=>?_)))
  ·exact Bw [3,4,5,6,7,8,9,10,11,12,13,14,15,16] 0 (Bv (jn h))
  refine Bw [3,4,5,6] 0 (XC 14 h (fun h=>?_) (fun h=>?_))
  ·exact Bw [7,8,9,10,11,12,13,14,15,16] 0 (Bv (jn h))
  exact Bw [7,8] 0 (bd h fun x1 gx1 h=>KW.q 9 (Pv gx1) (Bw [10,11] 0 (bd h fun x2 gx2 h=>KW.q 12 (Pv gx2) (BC 13 (KB.c 0 h (ZJ _) (fun v1 gv1 h=>BC 14 (KB.c 0 h (Tz _) (fun v2 gv2 h=>Bw [15,16] 0 (Bv (jn h))))))))))
 refine wc h (fun h=>?_) (fun h=>?_)
 ·exact ws (gn 2 0 (Wp.ret (rr h▸rq)))
 exact Wp.skip (ws (Ai 2 0 (bd h fun x3 gx3 h=>RW.q (Pv gx3) (gn 2 0 (Wp.ret (rr h▸rq))))))
def j9 (z1:Int) (z2:List Int):St:=AA [(0,(I z1)),(3,(.one (fM z2)))] []
def j8 (z3:Int) (z4:List Int):St:=AA [(0,(I z3)),(3,(.one (fM z4)))] []
theorem It (xN:Int) (r:ByteArray) (h:HY xN=some r):AU Tryz.prog 78 [.sv (I xN)] (Y r) (rg 1):=by
 refine gk Tryz.func78 rfl Tryz.ntmps78 (ws (gw 1 0 (gn 2 2 (sl1 h [0,3] [] (fun s=>(j9 s.1 s.2)) [0,3] [] (fun s=>(j8 s.1 s.2)) ?_ (fun v1 h=>?_)))))
 ·rintro⟨b,a⟩ o (h:Ph b a=some o);refine Wp.seq (ws (gn 2 0 (wc h (fun h=>?_) (fun h=>?_))))
  ·exact Wp.skip (Wp.block (ws (Ai 6 0 (bd h fun q1 gq1 h=>CV (DN k5 (fun _=>rfl) a gq1) (gn 1 1 (As (gn 3 0 (jl h))))))))
  exact Wp.exit (jv h)
 exact ws (Ai 4 0 (bd h fun q2 gq2 h=>CV (DN k5 (fun _=>rfl) v1.2 gq2) (RW.q (pcv (f:=c5) (fun _=>rfl) q2) (gn 1 0 (Wp.ret (rr h▸rq))))))
def dU (a:ByteArray) (b:Int) (z1:Int) (z2:Int) (z3:Int):St:=AA [(0,(Y a)),(1,(I b)),(7,(I z1)),(8,(I z2)),(9,(I z3))] []
def dT:St:=AA [] []
def dS (b:ByteArray) (c:Int) (d:Int) (a:Int) (e:Int) (z4:Bool):St:=AA [(0,(Y b)),(1,(I c)),(7,(I d)),(8,(I a)),(9,(I e)),(25,(B z4))] []
def dR (b:Int) (a:Int) (c:Int) (x1:Int) (z5:Bool):St:=AA [(7,(I (ad b (ml (Int.tmod (IntKind.i64.wrap x1) 128) a)))),(9,(I c)),(54,(B z5))] []
theorem kN (b:ByteArray) (e:Int) (r:Int×Int×Bool) (h:IB b e=some r):AU Tryz.prog 74 [.sv (Y b),.sv (I e)] (.tup [(I r.1),(I r.2.1),(B r.2.2)]) (rg 2):=by
 refine gk Tryz.func74 rfl Tryz.ntmps74 (ws (gn 3 0 (Wp.seq (ws (Ai 3 0 (RW.c 0 h (BM _ _ _) (fun v1 gv1 h=>gn 1 0 (wc h (fun h=>?_) (fun h=>?_)))))))))
 ·exact ws (gn 3 0 (Wp.ret (rr h▸rq)))
 refine Wp.skip (ws (gw 1 0 (gn 1 0 (Wp.seq (ws (gn 2 0 (E5 h [0,1,7,8,9] [] (fun s=>(dU b e s.1 s.2.1 s.2.2)) [] [] (fun _=>dT) EG ?_ ?_)))))))
 ·rintro⟨f,d,g⟩ o (h:Dw b e f d g=some o) hk1;refine Wp.seq (Fk h [0,1,7,8,9,25] [] (fun a=>(dS b e f d g a)) (fun a h=>?_) (fun j1 h=>?_))
  ·refine As (Ai 5 0 (AJ 20 h (fun h=>?_) (fun h=>?_)))
   ·exact gn 5 0 (jn h)
   exact gn 5 0 (jn h)
  refine wc h (fun h=>?_) (fun h=>?_)
  ·refine Wp.skip (Wp.seq (Wp.block (ws (Ai 3 0 (bd h fun x1 gx1 h=>RW.q (iW gx1) (gw 6 0 (gw 3 0 (Ai 2 0 (bd h fun x2 gx2 h=>RW.q (iW gx2) (gn 1 0 (wc h (fun h=>?_) (fun h=>?_))))))))))))
   ·refine Wp.seq (Fk h [7,9,54] [] (fun a=>(dR f d g x1 a)) (fun a h=>?_) (fun j2 h=>?_))
    ·refine Eu [] mixed (fun c E h=>by rcases h with⟨h|h,_⟩<;>cases h) (Bw [0,1,2] 0 (XC 45 h (fun h=>?_) (fun h=>?_)))
     ·exact Bw [3,5,6,7,8,9,4,10,11] 0 (Bv (jn h))
     exact Bw [3,5,6,7,8] 0 (bd h fun x3 gx3 h=>KW.q 9 (Pv gx3) (BC 4 (KB.c 0 h (It _) (fun v2 gv2 h=>Bw [10,11] 0 (Bv (jn h))))))
    refine wc h (fun h=>?_) (fun h=>?_)
    ·exact ws (gn 3 0 (Wp.ret (rr (jo h hk1)▸rq)))
    exact Wp.skip (ws (gn 6 0 (Wp.ret (rr (jo h hk1)▸rq))))
   exact Wp.skip (As (gn 3 0 (jl h)))
  exact Wp.exit (jx h)
 intro v3 h E hE;exact AX hE (ws (gn 3 0 (Wp.ret (rr h▸rq))))
def c93 (x:Ej):List TV:=[ts x.text_,i6 x.at_,tb x.bad_]
def jZ (xC:Ej) (v1:Int×Int×Bool) (z1:Bool):St:=AA [(0,(px 0)),(3,(I v1.1)),(4,(I v1.2.1)),(26,(B z1))] [(.ext 0,[ts xC.text_,i6 xC.at_,tb xC.bad_])]
theorem JJ (xC:Ej) (r:Int×Ej) (h:Ei xC=some r):AU Tryz.prog 48 [.ext (c93 xC)] (I r.1) (.ext (c93 r.2)::rg 0):=by
 refine gkx Tryz.func48 rfl Tryz.ntmps48 (ws (gn 1 0 (Wp.seq (Eu [] mixed (fun c E h=>by rcases h with⟨h|h,_⟩<;>cases h) (Bw [0,1,2,3,4,5,6,7] 0 (BC 8 (KB.c 0 h (kN _ _) (fun v1 gv1 h=>Bw [9] 1 (OR 10 (OR 11 (OR 12 (Bw [13,14,15] 0 (Bv (Wp.seq (Fk h [0,3,4,26] [.ext 0] (fun a=>(jZ xC v1 a)) (fun a h=>?_) (fun j1 h=>?_))))))))))))))))
 ·refine As (Ai 5 0 (AJ 23 h (fun h=>?_) (fun h=>?_)))
  ·exact gn 3 0 (jn h)
  exact gn 3 0 (jn h)
 refine wc h (fun h=>?_) (fun h=>?_)
 ·exact ws (gw 4 0 (gn 1 0 (Wp.ret (rr h▸rx))))
 exact Wp.skip (ws (gw 5 0 (gn 2 0 (Wp.ret (rr h▸rx)))))
def c52 (x:Page):List TV:=[i6 x.Kind,i6 x.Seq,i6 x.Tx,i6 x.Part,i6 x.Count,ts x.Text]
theorem k52:∀x,(c52 x).length=6:=fun _=>rfl
def fL (l:List Page):TV:= .sl true 52 6 (AM c52 l)
def kX (xP:Page) (z1:Bool):St:=AA [(1,(pb 1)),(39,(B z1))] [(.box 1,[i6 xP.Kind,i6 xP.Seq,i6 xP.Tx,i6 xP.Part,i6 xP.Count,ts xP.Text])]
theorem pZ (xP:Page) (r:Bool) (h:Jl xP=some r):AU Tryz.prog 75 [.sv (.agg (c52 xP))] (B r) (rg 1):=by
 refine gk Tryz.func75 rfl Tryz.ntmps75 (ws (gn 2 0 (Wp.seq (Fk h [1,39] [.box 1] (fun a=>(kX xP a)) (fun a h=>?_) (fun j1 h=>?_)))))
 ·refine As (Ai 2 0 (RW.c 0 h (BM _ _ _) (fun v1 gv1 h=>Ai 2 0 (AJ 7 h (fun h=>?_) (fun h=>?_)))))
  ·exact gn 32 0 (jn h)
  refine Ai 2 0 (RW.c 0 h (BM _ _ _) (fun v2 gv2 h=>Ai 3 0 (AJ 13 h (fun h=>?_) (fun h=>?_))))
  ·exact gn 26 0 (jn h)
  refine Ai 2 0 (RW.c 0 h (BM _ _ _) (fun v3 gv3 h=>Ai 3 0 (AJ 19 h (fun h=>?_) (fun h=>?_))))
  ·exact gn 20 0 (jn h)
  refine Ai 2 0 (RW.c 0 h (BM _ _ _) (fun v4 gv4 h=>Ai 3 0 (AJ 25 h (fun h=>?_) (fun h=>?_))))
  ·exact gn 14 0 (jn h)
  refine Ai 5 0 (RW.c 0 h (BM _ _ _) (fun v5 gv5 h=>Ai 3 0 (AJ 34 h (fun h=>?_) (fun h=>?_))))
  ·exact gn 5 0 (jn h)
  exact gn 5 0 (jn h)
 refine wc h (fun h=>?_) (fun h=>?_)
 ·exact ws (gn 1 0 (Wp.ret (rr h▸rq)))
 refine Wp.skip (ws (Ai 4 0 (AJ 43 h (fun h=>?_) (fun h=>?_))))
 ·exact gn 5 0 (Wp.ret (rr h▸rq))
 exact gn 5 0 (Wp.ret (rr h▸rq))
theorem Ty (xN:Int) (r:ByteArray) (h:L6 xN=some r):AU Tryz.prog 77 [.sv (I xN)] (Y r) (rg 1):=by
 unfold L6 at h;exact gk Tryz.func77 rfl Tryz.ntmps77 (ws (gw 1 0 (Ai 3 0 (RW.q (pcv (f:=c5) (fun _=>rfl) [(IntKind.u8.wrap xN)]) (gn 1 0 (Wp.ret (rr h▸rq)))))))
theorem pS (a:ByteArray) (r:ByteArray×Bool) (h:Jh a=some r):AU Tryz.prog 76 [.sv (Y a)] (.tup [(Y r.1),(B r.2)]) (rg 1):=by
 refine gk Tryz.func76 rfl Tryz.ntmps76 (ws (gn 2 0 (Wp.seq (ws (gn 3 0 (wc h (fun h=>?_) (fun h=>?_)))))))
 ·exact ws (gn 2 0 (Wp.ret (rr h▸rq)))
 exact Wp.skip (ws (Ai 2 0 (RW.c 0 h (ZJ _) (fun v1 gv1 h=>RW.c 0 h (Tz _) (fun v2 gv2 h=>bd h fun x1 gx1 h=>RW.q (ON gx1) (gn 2 0 (Wp.ret (rr h▸rq))))))))
theorem R2 (xP:Page) (r:ByteArray×Bool) (h:EL xP=some r):AU Tryz.prog 49 [.sv (.agg (c52 xP))] (.tup [(Y r.1),(B r.2)]) (rg 1):=by
 refine gk Tryz.func49 rfl Tryz.ntmps49 (ws (gn 3 0 (Wp.seq (ws (Ai 1 0 (RW.c 0 h (pZ _) (fun v1 gv1 h=>gn 1 0 (wc h (fun h=>?_) (fun h=>?_)))))))))
 ·exact ws (gn 2 0 (Wp.ret (rr h▸rq)))
 refine Wp.skip (Wp.seq (Eu [] mixed (fun c E h=>by rcases h with⟨h|h,_⟩<;>cases h) (Bw [0,1,3,4,7,8,11,12,15,16,19,20] 0 (BC 2 (KB.c 0 h (Ty _) (fun v2 gv2 h=>BC 5 (KB.c 0 h (It _) (fun v3 gv3 h=>bd h fun x1 gx1 h=>KW.q 6 (ON gx1) (BC 9 (KB.c 0 h (It _) (fun v4 gv4 h=>bd h fun x2 gx2 h=>KW.q 10 (ON gx2) (BC 13 (KB.c 0 h (It _) (fun v5 gv5 h=>bd h fun x3 gx3 h=>KW.q 14 (ON gx3) (BC 17 (KB.c 0 h (It _) (fun v6 gv6 h=>bd h fun x4 gx4 h=>KW.q 18 (ON gx4) (bd h fun x5 gx5 h=>KW.q 21 (ON gx5) (BC 22 (KB.c 0 h (pS _) (fun v7 gv7 h=>OR 23 (OR 24 (Bw [25,26] 0 (Bv ?_))))))))))))))))))))))));exact Wp.ret (rr h▸rq)
def Yy (xT:ByteArray) (v1:ByteArray×Bool) (z1:Bool):St:=AA [(0,(Y xT)),(2,(pb 2)),(4,(Y v1.1)),(6,(pb 24))] [(.box 2,[i6 0,i6 0,i6 0,i6 0,i6 0,ts (bs [])]),(.box 24,[ts v1.1,i6 1,tb z1])]
def Yx (v2:Int×Ej) (v3:Int×Ej) (v4:Int×Ej) (v5:Int×Ej) (x1:Int) (x2:ByteArray) (z2:Bool):St:=AA [(2,(pb 2)),(7,(pb 7)),(64,(B z2))] [(.box 2,[i6 0,i6 0,i6 0,i6 0,i6 0,ts (bs [])]),(.box 7,[i6 (IntKind.i64.wrap x1),i6 v2.1,i6 v3.1,i6 v4.1,i6 v5.1,ts x2])]
theorem dW (xT:ByteArray) (r:Page×Bool) (h:EK xT=some r):AU Tryz.prog 21 [.sv (Y xT)] (.tup [(.agg (c52 r.1)),(B r.2)]) (rg 1):=by
 refine gk Tryz.func21 rfl Tryz.ntmps21 (ws (gw 2 0 (Ai 1 0 (RW.c 0 h (cN _) (fun v1 gv1 h=>gn 5 1 (Fk h [0,2,4,6] [.box 2,.box 24] (fun a=>(Yy xT v1 a)) (fun a h=>?_) (fun j1 h=>?_)))))))
 ·refine As (Ai 4 0 (AJ 18 h (fun h=>?_) (fun h=>?_)))
  ·exact gn 7 0 (jn h)
  exact gn 7 0 (jn h)
 refine ws (Ai 1 0 (FK h (JJ _) (fun _=>rfl) (fun v2 gv2 h=>gw 3 0 (Ai 1 0 (FK h (JJ _) (fun _=>rfl) (fun v3 gv3 h=>gw 2 0 (Ai 1 0 (FK h (JJ _) (fun _=>rfl) (fun v4 gv4 h=>gw 2 0 (Ai 1 0 (FK h (JJ _) (fun _=>rfl) (fun v5 gv5 h=>gn 2 0 (Wp.seq (ws (gn 4 0 (wc h (fun h=>?_) (fun h=>?_)))))))))))))))))
 ·exact ws (gn 3 0 (Wp.ret (rr h▸rq)))
 refine Wp.skip (ws (Ai 1 0 (bd h fun x1 gx1 h=>RW.q (iW gx1) (gw 3 0 (Ai 5 0 (bd h fun x2 gx2 h=>RW.q (Pv gx2) (gw 2 0 (Ai 1 0 (RW.c 0 h (R2 _) (fun v6 gv6 h=>gn 5 1 (Wp.seq (Fk h [2,7,64] [.box 2,.box 7] (fun a=>(Yx v2 v3 v4 v5 x1 x2 a)) (fun a h=>?_) (fun j2 h=>?_)))))))))))))
 ·refine As (Ai 3 0 (AJ 60 h (fun h=>?_) (fun h=>?_)))
  ·exact gn 4 0 (jn h)
  exact gn 4 0 (jn h)
 refine wc h (fun h=>?_) (fun h=>?_)
 ·exact ws (gn 3 0 (Wp.ret (rr h▸rq)))
 exact Wp.skip (ws (gn 3 0 (Wp.ret (rr h▸rq))))
def c54 (x:Ap):List TV:=[i6 x.Block,i6 x.Leaf,i6 x.Page.Kind,i6 x.Page.Seq,i6 x.Page.Tx,i6 x.Page.Part,i6 x.Page.Count,ts x.Page.Text]
theorem EA:∀x,(c54 x).length=8:=fun _=>rfl
theorem V9:∀l,BH (AM c54 l)=AM c54 l:=D3 (fun _=>rfl)
def G5 (l:List Ap):TV:= .sl true 54 8 (AM c54 l)
def HS (l:List Ap):TV:= .sl false 54 8 (AM c54 l)
def dP (xF:Flash) (z1:List Ap) (z2:Int):St:=AA [(1,(pb 1)),(3,(.one (G5 z1))),(4,(I z2))] [(.box 1,[Da xF.Blocks])]
def dO (z3:List Ap):St:=AA [(3,(.one (G5 z3)))] []
def dN (xF:Flash) (a:Int) (z4:List Ap) (z5:Int):St:=AA [(1,(pb 1)),(3,(.one (G5 z4))),(4,(I a)),(5,(I z5))] [(.box 1,[Da xF.Blocks])]
def dM (xF:Flash) (a:Int) (z6:List Ap):St:=AA [(1,(pb 1)),(3,(.one (G5 z6))),(4,(I a))] [(.box 1,[Da xF.Blocks])]
def dL (xF:Flash) (b:Int) (a:List Ap) (c:Int) (v2:Page×Bool) (z7:Bool):St:=AA [(1,(pb 1)),(3,(.one (G5 a))),(4,(I b)),(5,(I c)),(8,(pb 8)),(47,(B z7))] [(.box 1,[Da xF.Blocks]),(.box 8,[i6 v2.1.Kind,i6 v2.1.Seq,i6 v2.1.Tx,i6 v2.1.Part,i6 v2.1.Count,ts v2.1.Text])]
def dK (z8:List Ap) (z9:Int):St:=AA [(3,(.one (G5 z8))),(10,(I z9))] []
def dJ (z10:List Ap):St:=AA [(3,(.one (G5 z10)))] []
def dI (a:Int) (z11:List Ap) (z12:Int):St:=AA [(3,(.one (G5 z11))),(10,(I a)),(11,(I z12))] []
def dH (a:Int) (z13:List Ap):St:=AA [(3,(.one (G5 z13))),(10,(I a))] []
def Yq (b:Int) (a:List Ap) (c:Int) (z14:Bool):St:=AA [(3,(.one (G5 a))),(10,(I b)),(11,(I c)),(79,(B z14))] []
theorem Hq (xF:Flash) (r:List Ap) (h:FT xF=some r):AU Tryz.prog 13 [.sv (.agg (TR false xF))] (.one (G5 r)) (rg 1):=by
 refine gk Tryz.func13 rfl Tryz.ntmps13 (ws (gw 2 0 (gn 2 2 (Wp.seq (ws (gn 1 0 (BP h [1,3,4] [.box 1] (fun s=>(dP xF s.1 s.2)) [3] [] (fun s=>(dO s)) EG ?_ ?_)))))))
 ·rintro⟨i,d⟩ o (h:Ec xF i d=some o);refine Wp.seq (ws (Ai 3 0 (RW.q (Di (EX false) xF.Blocks) (gn 1 0 (wc h (fun h=>?_) (fun h=>?_))))))
  ·refine Wp.skip (Wp.seq (Wp.block (ws (gn 1 0 (BP h [1,3,4,5] [.box 1] (fun s=>(dN xF d s.1 s.2)) [1,3,4] [.box 1] (fun s=>(dM xF d s)) EG ?_ ?_)))))
   ·rintro⟨b,j⟩ o (h:E8 xF d b j=some o);refine Wp.seq (ws (Ai 4 0 (CU (EX false) h (fun x1 gx1 h=>RW.q (DA (EX false) gx1 0 2) (RW.q (CH (EX false) gx1 2) (RW.q (Di Mn x1.Leaves) (gn 1 0 (wc h (fun h=>?_) (fun h=>?_)))))))))
    ·refine Wp.skip (Wp.seq (Wp.block (ws (Ai 3 0 (RW.c 0 h (dX _ _ _) (fun v1 gv1 h=>gw 5 1 (Ai 1 0 (RW.c 0 h (dW _) (fun v2 gv2 h=>gn 6 1 (Fk h [1,3,4,5,8,47] [.box 1,.box 8] (fun a=>(dL xF d b j v2 a)) (fun a h=>?_) (fun j1 h=>?_)))))))))))
     ·refine As (Ai 2 0 (AJ 45 h (fun h=>?_) (fun h=>?_)))
      ·exact gn 2 0 (jn h)
      exact gn 2 0 (jn h)
     refine wc h (fun h=>?_) (fun h=>?_)
     ·exact As (Ai 6 0 (bd h fun q1 gq1 h=>CV (DN EA (fun _=>rfl) b gq1) (gn 1 1 (As (gn 3 0 (jl h))))))
     exact Wp.skip (As (gn 3 0 (jl h)))
    exact Wp.exit (jv h)
   intro v3 h E hE;exact AX hE (As (gn 3 0 (jl h)))
  exact Wp.exit (jv h)
 intro v4 h E hE;refine AX hE (Wp.seq (ws (gn 1 0 (BP h [3,10] [] (fun s=>(dK s.1 s.2)) [3] [] (fun s=>(dJ s)) EG ?_ ?_))))
 ·rintro⟨e,g⟩ o (h:Jj e g=some o);refine Wp.seq (ws (Ai 2 0 (RW.q (Di EA e) (gn 1 0 (wc h (fun h=>?_) (fun h=>?_))))))
  ·refine Wp.skip (Wp.seq (Wp.block (ws (gn 2 0 (BP h [3,10,11] [] (fun s=>(dI g s.1 s.2)) [3,10] [] (fun s=>(dH g s)) EG ?_ ?_)))))
   ·rintro⟨f,k⟩ o (h:Ji f k=some o);refine Wp.seq (Fk h [3,10,11,79] [] (fun a=>(Yq g f k a)) (fun a h=>?_) (fun j2 h=>?_))
    ·refine KH mixed (Dl 3 (X4 64 h (fun h=>?_) (fun h=>?_)))
     ·exact Dl 3 (bd h fun x2 gx2 h=>SW.q (Jo EA gx2) (SW.q (DA EA gx2 0 2) (SW.q (DA EA gx2 2 3) (SW.q (CH EA gx2 3) (Dl 2 (bd h fun x3 gx3 h=>SW.q (Jo EA gx3) (SW.q (DA EA gx3 0 2) (SW.q (DA EA gx3 2 3) (SW.q (CH EA gx3 3) (Dl 2 (SW.nil (jn h))))))))))))
     exact Dl 15 (SW.nil (jn h))
    refine wc h (fun h=>?_) (fun h=>?_)
    ·exact Wp.skip (Wp.seq (Wp.block (ws (Ai 2 0 (CU EA h (fun x4 gx4 h=>RW.q (Qz EA gx4 0 8) (gw 2 0 (Ai 5 0 (CU EA h (fun x5 gx5 h=>RW.q (Qz EA gx5 0 8) (CU EA h (fun x6 gx6 h=>CV (Ny EA gx6 0 0 x5) (RW.nil (As (Ai 4 0 (CU EA h (fun x7 gx7 h=>CV (Ny EA gx7 0 0 x4) (RW.nil (As (gn 3 0 (jl h)))))))))))))))))))))
    exact Wp.exit (jv h)
   intro v5 h E hE;exact AX hE (As (gn 3 0 (jl h)))
  exact Wp.exit (jv h)
 intro v6 h E hE;exact AX hE (ws (gn 2 2 (Wp.ret (rr h▸rq))))
def cK (xF:Flash) (z1:Int) (z2:List Block):St:=AA [(1,(pb 1)),(2,(pb 2)),(3,(pb 3)),(4,(I z1))] [(.box 1,[Da xF.Blocks]),(.box 2,[CR []]),(.box 3,[CR z2])]
def cJ (z3:List Block):St:=AA [(2,(pb 2)),(3,(pb 3))] [(.box 2,[CR []]),(.box 3,[CR z3])]
theorem I6 (xF:Flash) (r:Flash) (h:H7 xF=some r):AU Tryz.prog 123 [.sv (.agg (TR false xF))] (.agg (TR true r)) (rg 1):=by
 refine gk Tryz.func123 rfl Tryz.ntmps123 (ws (gw 2 0 (gn 3 0 (Wp.seq (ws (gn 1 0 (BP h [1,2,3,4] [.box 1,.box 2,.box 3] (fun s=>(cK xF s.1 s.2)) [2,3] [.box 2,.box 3] (fun s=>(cJ s)) EG ?_ ?_)))))))
 ·rintro⟨b,a⟩ o (h:Jd xF b a=some o);refine Wp.seq (ws (Ai 3 0 (RW.q (Di (EX false) xF.Blocks) (gn 1 0 (wc h (fun h=>?_) (fun h=>?_))))))
  ·exact Wp.skip (Wp.seq (Wp.block (ws (Ai 3 0 (CU (EX false) h (fun x1 gx1 h=>RW.q (Qz (EX false) gx1 0 3) (gw 2 0 (Ai 3 0 (bd h fun q1 gq1 h=>CV (DN Mn (fun _=>rfl) [] gq1) (gn 2 0 (As (Ai 4 0 (bd h fun q2 gq2 h=>CV (r8 (EX true) a [(Block.mk x1.Bad x1.Wear q1)] gq2) (gn 2 0 (As (gn 3 0 (jl h)))))))))))))))))
  exact Wp.exit (jv h)
 intro v1 h E hE;exact AX hE (ws (gn 2 0 (Wp.ret (rr h▸rq))))
def c39 (x:Vol):List TV:=[i6 x.Id,i6 x.Root]
theorem DX:∀x,(c39 x).length=2:=fun _=>rfl
theorem Fg:∀l,BH (AM c39 l)=AM c39 l:=D3 (fun _=>rfl)
theorem WH:∀l,AO (AM c39 l)=false:=Kq (fun _=>rfl)
def CZ (l:List Vol):TV:= .sl true 39 2 (AM c39 l)
def DB (l:List Vol):TV:= .sl false 39 2 (AM c39 l)
def c3 (x:Int):List TV:=[i6 x]
theorem k3:∀x,(c3 x).length=1:=fun _=>rfl
theorem jH:∀l,BH (AM c3 l)=AM c3 l:=D3 (fun _=>rfl)
theorem ns3:∀l,AO (AM c3 l)=false:=Kq (fun _=>rfl)
def E0 (l:List Int):TV:= .sl true 3 1 (AM c3 l)
def OT (l:List Int):TV:= .sl false 3 1 (AM c3 l)
def Xv (o:Bool) (x:BR):List TV:=[tb x.Leaf,.sl o 3 1 (AM c3 x.Kids)]
theorem CG (o:Bool):∀x,(Xv o x).length=2:=fun _=>rfl
theorem Dg:∀l,BH (AM (Xv true) l)=AM (Xv false) l:=D3 (fun x=>by simp only [Xv,BH,La,jH])
theorem KC:∀l,AO (AM (Xv true) l)=false:=Kq (fun x=>by simp [Xv,AO,B9,ns3])
def Bt (l:List BR):TV:= .sl true 150 2 (AM (Xv true) l)
def BJ (l:List BR):TV:= .sl false 150 2 (AM (Xv false) l)
def Rg (o:Bool) (x:Store):List TV:=[.sl o 39 2 (AM c39 x.Vols),.sl o 150 2 (AM (Xv o) x.Arena.Knots),i6 x.Next]
theorem dG (r:Store) (h:NQ=some r):AU Tryz.prog 124 [] (.agg (Rg true r)) (rg 0):=by
 unfold NQ at h;exact gk Tryz.func124 rfl Tryz.ntmps124 (ws (gw 1 0 (gn 2 0 (Wp.ret (rr h▸rq)))))
def c99 (x:CD):List TV:=[i6 x.Kind,i6 x.Vol,i6 x.Arg,i6 x.Chunk]
theorem Qs:∀x,(c99 x).length=4:=fun _=>rfl
theorem u9:∀l,BH (AM c99 l)=AM c99 l:=D3 (fun _=>rfl)
theorem ADR:∀l,AO (AM c99 l)=false:=Kq (fun _=>rfl)
def Ib (l:List CD):TV:= .sl true 99 4 (AM c99 l)
def UE (l:List CD):TV:= .sl false 99 4 (AM c99 l)
def pU (z1:Bool):St:=AA [(2,(B z1))] []
def pT (xR:CD) (z2:Bool):St:=AA [(1,(pb 1)),(37,(B z2))] [(.box 1,[i6 xR.Kind,i6 xR.Vol,i6 xR.Arg,i6 xR.Chunk])]
theorem SG (xR:CD) (r:Bool) (h:PQ xR=some r):AU Tryz.prog 89 [.sv (.agg (c99 xR))] (B r) (rg 1):=by
 refine gk Tryz.func89 rfl Tryz.ntmps89 (ws (gn 2 0 (Wp.seq (ws (Ai 2 0 (RW.c 0 h (BM _ _ _) (fun v1 gv1 h=>gn 1 0 (wc h (fun h=>?_) (fun h=>?_)))))))))
 ·exact ws (gn 1 0 (Wp.ret (rr h▸rq)))
 refine Wp.skip (Wp.seq (ws (gn 3 0 (wc h (fun h=>?_) (fun h=>?_)))))
 ·refine Fk h [2] [] (fun a=>(pU a)) (fun a h=>?_) (fun j1 h=>?_)
  ·refine As (Ai 4 0 (AJ 13 h (fun h=>?_) (fun h=>?_)))
   ·exact gn 5 0 (jn h)
   exact gn 5 0 (jn h)
  exact Wp.ret (rr h▸rq)
 refine Wp.skip (Wp.seq (Fk h [1,37] [.box 1] (fun a=>(pT xR a)) (fun a h=>?_) (fun j2 h=>?_)))
 ·refine As (Ai 2 0 (RW.c 0 h (BM _ _ _) (fun v2 gv2 h=>Ai 2 0 (AJ 22 h (fun h=>?_) (fun h=>?_)))))
  ·exact gn 15 0 (jn h)
  refine Ai 2 0 (RW.c 0 h (BM _ _ _) (fun v3 gv3 h=>Ai 3 0 (AJ 28 h (fun h=>?_) (fun h=>?_))))
  ·exact gn 9 0 (jn h)
  refine Ai 4 0 (AJ 32 h (fun h=>?_) (fun h=>?_))
  ·exact gn 5 0 (jn h)
  exact gn 5 0 (jn h)
 refine wc h (fun h=>?_) (fun h=>?_)
 ·exact ws (gn 1 0 (Wp.ret (rr h▸rq)))
 refine Wp.skip (Wp.seq (ws (gn 2 0 (Wp.block (ws (gn 2 0 (wc h (fun h=>?_) (fun h=>?_))))))))
 ·exact ws (gn 4 0 (Wp.ret (rr h▸rq)))
 refine ws (gn 2 0 (wc h (fun h=>?_) (fun h=>?_)))
 ·exact ws (gn 4 0 (Wp.ret (rr h▸rq)))
 refine ws (gn 2 0 (wc h (fun h=>?_) (fun h=>?_)))
 ·refine ws (Ai 4 0 (AJ 55 h (fun h=>?_) (fun h=>?_)))
  ·exact Ai 2 0 (RW.c 0 h (BM _ _ _) (fun v4 gv4 h=>gn 2 0 (Wp.ret (rr h▸rq))))
  exact gn 5 0 (Wp.ret (rr h▸rq))
 exact Wp.skip (ws (gn 4 0 (Wp.ret (rr h▸rq))))
def Yw (xT:ByteArray) (z1:List CD) (z2:ByteArray) (z3:Int) (z4:Bool):St:=AA [(0,(Y xT)),(4,(.one (Ib z1))),(5,(pb 11))] [(.box 11,[ts z2,i6 z3,tb z4])]
def Yv (z5:List CD):St:=AA [(4,(.one (Ib z5)))] []
def Yt (xT:ByteArray) (a:List CD) (y01:ByteArray) (y11:Int) (y21:Bool) (z6:Bool):St:=AA [(0,(Y xT)),(4,(.one (Ib a))),(5,(pb 11)),(25,(B z6))] [(.box 11,[ts y01,i6 y11,tb y21])]
def Ys (xT:ByteArray) (a:List CD) (x1:Int) (v1:Int×Ej) (v2:Int×Ej) (z7:Bool):St:=AA [(0,(Y xT)),(4,(.one (Ib a))),(5,(pb 11)),(7,(pb 7)),(59,(B z7))] [(.box 7,[i6 (qu (IntKind.i64.wrap x1) 16),i6 (Int.tmod (IntKind.i64.wrap x1) 16),i6 v1.1,i6 v2.1]),(.box 11,[ts v2.2.text_,i6 v2.2.at_,tb v2.2.bad_])]
theorem dV (xT:ByteArray) (r:List CD×Bool) (h:JN xT=some r):AU Tryz.prog 172 [.sv (Y xT)] (.tup [(.one (Ib r.1)),(B r.2)]) (rg 1):=by
 refine gk Tryz.func172 rfl Tryz.ntmps172 (ws (gw 2 0 (gw 2 2 (gn 4 0 (sl2 h [0,4,5] [.box 11] (fun s=>(Yw xT s.1 s.2.1 s.2.2.1 s.2.2.2)) [4] [] (fun s=>(Yv s)) ?_ (fun v4 h=>?_))))))
 ·rintro⟨b,y01,y11,y21⟩ o (h:Ed xT b y01 y11 y21=some o) hk1;refine Wp.seq (Fk h [0,4,5,25] [.box 11] (fun a=>(Yt xT b y01 y11 y21 a)) (fun a h=>?_) (fun j1 h=>?_))
  ·refine As (Ai 8 0 (AJ 19 h (fun h=>?_) (fun h=>?_)))
   ·exact gn 6 0 (jn h)
   exact gn 6 0 (jn h)
  refine wc h (fun h=>?_) (fun h=>?_)
  ·refine Wp.skip (Wp.block (ws (Ai 5 0 (bd h fun x1 gx1 h=>RW.q (iW gx1) (gw 2 0 (gw 9 0 (Ai 5 0 (FK h (JJ _) (fun _=>rfl) (fun v1 gv1 h=>gw 3 0 (Ai 1 0 (FK h (JJ _) (fun _=>rfl) (fun v2 gv2 h=>gn 2 0 (Wp.seq (Fk h [0,4,5,7,59] [.box 7,.box 11] (fun a=>(Ys xT b x1 v1 v2 a)) (fun a h=>?_) (fun j2 h=>?_)))))))))))))))
   ·refine As (Ai 5 0 (AJ 55 h (fun h=>?_) (fun h=>?_)))
    ·exact gn 4 0 (jn h)
    exact Ai 1 0 (RW.c 0 h (SG _) (fun v3 gv3 h=>gn 2 0 (jn h)))
   refine wc h (fun h=>?_) (fun h=>?_)
   ·exact ws (gn 3 2 (Wp.ret (rr (jo h hk1)▸rq)))
   exact Wp.skip (As (Ai 3 0 (bd h fun q1 gq1 h=>CV (DN Qs (fun _=>rfl) b gq1) (gn 1 1 (jl h)))))
  exact Wp.exit (jx h)
 exact ws (gn 3 2 (Wp.ret (rr h▸rq)))
def iB (o:Bool) (x:Tx):List TV:=[i6 x.Num,i6 x.Seq,.sl o 99 4 (AM c99 x.Recs)]
theorem HU (o:Bool):∀x,(iB o x).length=3:=fun _=>rfl
theorem ACo:∀l,BH (AM (iB true) l)=AM (iB false) l:=D3 (fun x=>by simp only [iB,BH,La,u9])
theorem AAe:∀l,AO (AM (iB true) l)=false:=Kq (fun x=>by simp [iB,AO,B9,ADR])
def Q3 (l:List Tx):TV:= .sl true 178 3 (AM (iB true) l)
def aA (l:List Tx):TV:= .sl false 178 3 (AM (iB false) l)
def pN (a:List Ap) (b:Int) (z1:Int) (z2:ByteArray) (z3:Int) (z4:Int):St:=AA [(0,(.one (HS a))),(1,(I b)),(4,(pb 4)),(6,(pb 6)),(7,(I z1)),(8,(Y z2)),(9,(I z3))] [(.box 4,[i6 0,i6 0,Ib []]),(.box 6,[i6 b,i6 z4,Ib []])]
def pM (a:Int) (z5:ByteArray) (z6:Int):St:=AA [(4,(pb 4)),(6,(pb 6)),(8,(Y z5))] [(.box 4,[i6 0,i6 0,Ib []]),(.box 6,[i6 a,i6 z6,Ib []])]
def pL (e:List Ap) (f:Int) (a:Int) (b:ByteArray) (c:Int) (d:Int) (z7:Bool):St:=AA [(0,(.one (HS e))),(1,(I f)),(4,(pb 4)),(6,(pb 6)),(7,(I a)),(8,(Y b)),(9,(I c)),(23,(B z7))] [(.box 4,[i6 0,i6 0,Ib []]),(.box 6,[i6 f,i6 d,Ib []])]
def pK (b:List Ap) (c:Int) (a:Int) (z8:Int) (z9:ByteArray) (z10:Bool) (z11:Int) (z12:Int):St:=AA [(0,(.one (HS b))),(1,(I c)),(4,(pb 4)),(6,(pb 6)),(7,(I z8)),(8,(Y z9)),(9,(I a)),(10,(B z10)),(11,(I z11))] [(.box 4,[i6 0,i6 0,Ib []]),(.box 6,[i6 c,i6 z12,Ib []])]
def pJ (b:List Ap) (c:Int) (a:Int) (z13:Int) (z14:ByteArray) (z15:Bool) (z16:Int):St:=AA [(0,(.one (HS b))),(1,(I c)),(4,(pb 4)),(6,(pb 6)),(7,(I z13)),(8,(Y z14)),(9,(I a)),(10,(B z15))] [(.box 4,[i6 0,i6 0,Ib []]),(.box 6,[i6 c,i6 z16,Ib []])]
def pI (f:List Ap) (g:Int) (c:Int) (a:Int) (d:ByteArray) (b:Bool) (h:Int) (e:Int) (z17:Bool):St:=AA [(0,(.one (HS f))),(1,(I g)),(4,(pb 4)),(6,(pb 6)),(7,(I a)),(8,(Y d)),(9,(I c)),(10,(B b)),(11,(I h)),(33,(B z17))] [(.box 4,[i6 0,i6 0,Ib []]),(.box 6,[i6 g,i6 e,Ib []])]
def pH (f:List Ap) (g:Int) (c:Int) (a:Int) (d:ByteArray) (b:Bool) (h:Int) (e:Int) (x1:Ap) (z18:Bool):St:=AA [(0,(.one (HS f))),(1,(I g)),(4,(pb 4)),(6,(pb 6)),(7,(I a)),(8,(Y d)),(9,(I c)),(10,(B b)),(11,(I h)),(12,(pb 12)),(65,(B z18))] [(.box 4,[i6 0,i6 0,Ib []]),(.box 6,[i6 g,i6 e,Ib []]),(.box 12,[i6 x1.Page.Kind,i6 x1.Page.Seq,i6 x1.Page.Tx,i6 x1.Page.Part,i6 x1.Page.Count,ts x1.Page.Text])]
def pG (c:List Ap) (d:Int) (a:Int) (e:Int) (b:Int) (x1:Ap) (x2:ByteArray) (z19:Bool):St:=AA [(0,(.one (HS c))),(1,(I d)),(4,(pb 4)),(6,(pb 6)),(7,(I x1.Page.Count)),(8,(Y x2)),(9,(I a)),(10,(B true)),(11,(I e)),(12,(pb 12)),(80,(B z19))] [(.box 4,[i6 0,i6 0,Ib []]),(.box 6,[i6 d,i6 b,Ib []]),(.box 12,[i6 x1.Page.Kind,i6 x1.Page.Seq,i6 x1.Page.Tx,i6 x1.Page.Part,i6 x1.Page.Count,ts x1.Page.Text])]
theorem vC (b:List Ap) (e:Int) (r:Tx×Bool) (h:UN b e=some r):AU Tryz.prog 149 [.sv (.one (HS b)),.sv (I e)] (.tup [(.agg (iB true r.1)),(B r.2)]) (rg 2):=by
 refine gk Tryz.func149 rfl Tryz.ntmps149 (ws (gw 2 0 (gw 4 0 (gw 1 0 (gn 1 0 (Wp.seq (ws (gn 1 0 (E5 h [0,1,4,6,7,8,9] [.box 4,.box 6] (fun s=>(pN b e s.1 s.2.1 s.2.2.1 s.2.2.2)) [4,6,8] [.box 4,.box 6] (fun s=>(pM e s.1 s.2)) EG ?_ ?_)))))))))
 ·rintro⟨k,l,d,m⟩ o (h:NO b e k l d m=some o) hk1;refine Wp.seq (Fk h [0,1,4,6,7,8,9,23] [.box 4,.box 6] (fun a=>(pL b e k l d m a)) (fun a h=>?_) (fun j1 h=>?_))
  ·refine As (Ai 3 0 (AJ 19 h (fun h=>?_) (fun h=>?_)))
   ·exact gn 4 0 (jn h)
   exact gn 4 0 (jn h)
  refine wc h (fun h=>?_) (fun h=>?_)
  ·refine Wp.skip (Wp.seq (Wp.block (ws (gn 1 0 (Wp.seq (ws (gn 1 0 (BP h [0,1,4,6,7,8,9,10,11] [.box 4,.box 6] (fun s=>(pK b e d s.1 s.2.1 s.2.2.1 s.2.2.2.1 s.2.2.2.2)) [0,1,4,6,7,8,9,10] [.box 4,.box 6] (fun s=>(pJ b e d s.1 s.2.1 s.2.2.1 s.2.2.2)) EG ?_ ?_))))))))
   ·rintro⟨g,j,i,n,f⟩ o (h:Ir b e d g j i n f=some o);refine Wp.seq (Fk h [0,1,4,6,7,8,9,10,11,33] [.box 4,.box 6] (fun a=>(pI b e d g j i n f a)) (fun a h=>?_) (fun j2 h=>?_))
    ·refine As (Ai 2 0 (RW.q (Di EA b) (Ai 2 0 (AJ 30 h (fun h=>?_) (fun h=>?_)))))
     ·exact gn 3 0 (jn h)
     exact gn 3 0 (jn h)
    refine wc h (fun h=>?_) (fun h=>?_)
    ·refine Wp.skip (Wp.seq (Wp.block (ws (Ai 2 0 (CU EA h (fun x1 gx1 h=>RW.q (DA EA gx1 0 2) (RW.q (Qz EA gx1 2 6) (gn 2 0 (Wp.seq (Fk h [0,1,4,6,7,8,9,10,11,12,65] [.box 4,.box 6,.box 12] (fun a=>(pH b e d g j i n f x1 a)) (fun a h=>?_) (fun j3 h=>?_)))))))))))
     ·refine As (Ai 4 0 (AJ 44 h (fun h=>?_) (fun h=>?_)))
      ·exact gn 21 0 (jn h)
      refine Ai 6 0 (AJ 50 h (fun h=>?_) (fun h=>?_))
      ·exact gn 15 0 (jn h)
      refine Ai 6 0 (AJ 56 h (fun h=>?_) (fun h=>?_))
      ·exact gn 9 0 (jn h)
      refine Ai 3 0 (AJ 59 h (fun h=>?_) (fun h=>?_))
      ·exact gn 6 0 (jn h)
      exact gn 6 0 (jn h)
     refine wc h (fun h=>?_) (fun h=>?_)
     ·exact Wp.exit (As (gn 3 0 (jl h)))
     refine Wp.skip (ws (gw 1 0 (gw 3 0 (Ai 3 0 (bd h fun x2 gx2 h=>RW.q (ON gx2) (gn 1 0 (Fk h [0,1,4,6,7,8,9,10,11,12,80] [.box 4,.box 6,.box 12] (fun a=>(pG b e d n f x1 x2 a)) (fun a h=>?_) (fun j4 h=>?_))))))))
     ·refine As (Ai 3 0 (AJ 74 h (fun h=>?_) (fun h=>?_)))
      ·exact gn 6 0 (jn h)
      exact gn 6 0 (jn h)
     refine wc h (fun h=>?_) (fun h=>?_)
     ·exact As (gn 4 0 (As (gn 3 0 (jl h))))
     exact Wp.skip (As (gn 3 0 (jl h)))
    exact Wp.exit (jv h)
   intro v1 h E hE;refine AX hE (ws (gn 2 0 (wc h (fun h=>?_) (fun h=>?_))))
   ·exact ws (gn 3 0 (Wp.ret (rr (jo h hk1)▸rq)))
   exact Wp.skip (As (gn 3 0 (jl h)))
  exact Wp.exit (jx h)
 intro v2 h E hE;exact AX hE (ws (Ai 1 0 (RW.c 0 h (dV _) (fun v3 gv3 h=>gw 5 9 (gw 3 0 (gn 4 0 (Wp.ret (rr h▸rq))))))))
def lJ (a:List Ap) (z1:List Int) (z2:Int):St:=AA [(0,(.one (HS a))),(3,(.one (E0 z1))),(4,(I z2))] []
def lI (a:List Ap) (z3:List Int):St:=AA [(0,(.one (HS a))),(3,(.one (E0 z3)))] []
def lH (b:List Ap) (a:List Int) (c:Int) (x1:Ap) (z4:List Int) (z5:Int):St:=AA [(0,(.one (HS b))),(3,(.one (E0 a))),(4,(I c)),(5,(pb 5)),(6,(.one (E0 z4))),(7,(I z5))] [(.box 5,[i6 x1.Page.Kind,i6 x1.Page.Seq,i6 x1.Page.Tx,i6 x1.Page.Part,i6 x1.Page.Count,ts x1.Page.Text])]
def lG (b:List Ap) (a:List Int) (c:Int) (x1:Ap) (z6:List Int):St:=AA [(0,(.one (HS b))),(3,(.one (E0 a))),(4,(I c)),(5,(pb 5)),(6,(.one (E0 z6)))] [(.box 5,[i6 x1.Page.Kind,i6 x1.Page.Seq,i6 x1.Page.Tx,i6 x1.Page.Part,i6 x1.Page.Count,ts x1.Page.Text])]
def lF (b:List Ap) (a:List Int) (c:Int) (x1:Ap) (z7:List Int) (z8:Int):St:=AA [(0,(.one (HS b))),(3,(.one (E0 a))),(4,(I c)),(5,(pb 5)),(6,(.one (E0 z7))),(8,(I z8))] [(.box 5,[i6 x1.Page.Kind,i6 x1.Page.Seq,i6 x1.Page.Tx,i6 x1.Page.Part,i6 x1.Page.Count,ts x1.Page.Text])]
def lE (a:List Ap) (b:Int) (z9:List Int):St:=AA [(0,(.one (HS a))),(4,(I b)),(6,(.one (E0 z9)))] []
def lD (a:List Ap) (v3:List Int) (z10:List Tx) (z11:Int):St:=AA [(0,(.one (HS a))),(3,(.one (E0 v3))),(9,(.one (Q3 z10))),(10,(I z11))] []
def lC (z12:List Tx):St:=AA [(9,(.one (Q3 z12)))] []
theorem W2 (a:List Ap) (r:List Tx) (h:Pk a=some r):AU Tryz.prog 126 [.sv (.one (HS a))] (.one (Q3 r)) (rg 1):=by
 refine gk Tryz.func126 rfl Tryz.ntmps126 (ws (gw 1 0 (gn 2 2 (Wp.seq (ws (gn 1 0 (BP h [0,3,4] [] (fun s=>(lJ a s.1 s.2)) [0,3] [] (fun s=>(lI a s)) EG ?_ ?_)))))))
 ·rintro⟨b,f⟩ o (h:IE a b f=some o);refine Wp.seq (ws (Ai 2 0 (RW.q (Di EA a) (gn 1 0 (wc h (fun h=>?_) (fun h=>?_))))))
  ·refine Wp.skip (Wp.seq (Wp.block (ws (Ai 2 0 (CU EA h (fun x1 gx1 h=>RW.q (DA EA gx1 0 2) (RW.q (Qz EA gx1 2 6) (gn 2 0 (Wp.seq (ws (gn 3 0 (wc h (fun h=>?_) (fun h=>?_)))))))))))))
   ·exact Wp.exit (As (gn 3 0 (jl h)))
   refine Wp.skip (ws (gn 2 2 (Wp.seq (ws (gn 1 0 (BP h [0,3,4,5,6,7] [.box 5] (fun s=>(lH a b f x1 s.1 s.2)) [0,3,4,5,6] [.box 5] (fun s=>(lG a b f x1 s)) EG ?_ ?_))))))
   ·rintro⟨d,i⟩ o (h:K8 b x1 d i=some o);refine Wp.seq (ws (Ai 2 0 (RW.q (Di k3 b) (gn 1 0 (wc h (fun h=>?_) (fun h=>?_))))))
    ·refine Wp.skip (Wp.seq (Wp.block (Wp.seq (KH mixed (Dl 2 (bd h fun x2 gx2 h=>SW.q (Jo k3 gx2) (SW.q (CH k3 gx2 0) (Dl 3 (SW.nil (wc h (fun h=>?_) (fun h=>?_)))))))))))
     ·exact As (Ai 3 0 (CU k3 h (fun x3 gx3 h=>RW.q (CH k3 gx3 0) (Ai 1 0 (bd h fun q1 gq1 h=>CV (DN k3 (fun _=>rfl) d gq1) (gn 1 1 (As (gn 3 0 (jl h)))))))))
     exact Wp.skip (As (gn 3 0 (jl h)))
    exact Wp.exit (jv h)
   intro v1 h E hE;refine AX hE (ws (Ai 4 0 (bd h fun q2 gq2 h=>CV (DN k3 (fun _=>rfl) v1 gq2) (gn 1 1 (Wp.seq (ws (gn 1 0 (BP h [0,3,4,5,6,8] [.box 5] (fun s=>(lF a b f x1 s.1 s.2)) [0,4,6] [] (fun s=>(lE a f s)) EG ?_ ?_))))))))
   ·rintro⟨e,j⟩ o (h:K7 b x1 e j=some o);refine Wp.seq (ws (Ai 2 0 (RW.q (Di k3 b) (gn 1 0 (wc h (fun h=>?_) (fun h=>?_))))))
    ·refine Wp.skip (Wp.seq (Wp.block (Wp.seq (KH mixed (Dl 2 (bd h fun x4 gx4 h=>SW.q (Jo k3 gx4) (SW.q (CH k3 gx4 0) (Dl 3 (SW.nil (wc h (fun h=>?_) (fun h=>?_)))))))))))
     ·exact As (Ai 3 0 (CU k3 h (fun x5 gx5 h=>RW.q (CH k3 gx5 0) (Ai 1 0 (bd h fun q3 gq3 h=>CV (DN k3 (fun _=>rfl) e gq3) (gn 1 1 (As (gn 3 0 (jl h)))))))))
     exact Wp.skip (As (gn 3 0 (jl h)))
    exact Wp.exit (jv h)
   intro v2 h E hE;exact AX hE (As (gn 2 2 (As (gn 3 0 (jl h)))))
  exact Wp.exit (jv h)
 intro v3 h E hE;refine AX hE (ws (gn 2 2 (Wp.seq (ws (gn 1 0 (BP h [0,3,9,10] [] (fun s=>(lD a v3 s.1 s.2)) [9] [] (fun s=>(lC s)) EG ?_ ?_))))))
 ·rintro⟨g,k⟩ o (h:ID a v3 g k=some o);refine Wp.seq (ws (Ai 2 0 (RW.q (Di k3 v3) (gn 1 0 (wc h (fun h=>?_) (fun h=>?_))))))
  ·refine Wp.skip (Wp.seq (Wp.block (ws (Ai 3 0 (CU k3 h (fun x6 gx6 h=>RW.q (CH k3 gx6 0) (RW.c 0 h (vC _ _) (fun v4 gv4 h=>gw 6 1 (gn 1 0 (wc h (fun h=>?_) (fun h=>?_)))))))))))
   ·exact As (Ai 3 0 (bd h fun q4 gq4 h=>CV (r8 (HU true) g [v4.1] gq4) (gn 1 1 (As (gn 3 0 (jl h))))))
   exact Wp.skip (As (gn 3 0 (jl h)))
  exact Wp.exit (jv h)
 intro v5 h E hE;exact AX hE (ws (gn 2 2 (Wp.ret (rr h▸rq))))
def Wg (a:List Tx) (z1:Int) (z2:Int):St:=AA [(0,(.one (aA a))),(3,(I z1)),(4,(I z2))] []
def Wf (a:List Tx) (z3:Int):St:=AA [(0,(.one (aA a))),(3,(I z3))] []
def We (a:List Tx) (z4:List Tx) (z5:Int):St:=AA [(0,(.one (aA a))),(5,(.one (Q3 z4))),(6,(I z5))] []
def Wd (z6:List Tx):St:=AA [(5,(.one (Q3 z6)))] []
theorem Yp (a:List Tx) (r:List Tx) (h:My a=some r):AU Tryz.prog 125 [.sv (.one (aA a))] (.one (Q3 r)) (rg 1):=by
 refine gk Tryz.func125 rfl Tryz.ntmps125 (ws (gw 1 0 (gn 1 0 (Wp.seq (ws (gn 1 0 (BP h [0,3,4] [] (fun s=>(Wg a s.1 s.2)) [0,3] [] (fun s=>(Wf a s)) EG ?_ ?_)))))))
 ·rintro⟨c,d⟩ o (h:FR a c d=some o);refine Wp.seq (ws (Ai 2 0 (RW.q (Di (HU false) a) (gn 1 0 (wc h (fun h=>?_) (fun h=>?_))))))
  ·refine Wp.skip (Wp.seq (Wp.block (ws (Ai 2 0 (CU (HU false) h (fun x1 gx1 h=>RW.q (DA (HU false) gx1 0 2) (RW.q (CH (HU false) gx1 2) (RW.q (Di Qs x1.Recs) (Ai 2 0 (AJ 21 h (fun h=>?_) (fun h=>?_)))))))))))
   ·refine Ai 2 0 (CU (HU false) h (fun x2 gx2 h=>RW.q (DA (HU false) gx2 0 2) (RW.q (CH (HU false) gx2 2) (CU Qs h (fun x3 gx3 h=>RW.q (DA Qs gx3 0 0) (RW.q (CH Qs gx3 0) (gn 2 0 (wc h (fun h=>?_) (fun h=>?_)))))))))
    ·exact As (gn 2 0 (As (gn 3 0 (jl h))))
    exact Wp.skip (As (gn 3 0 (jl h)))
   exact gn 10 0 (wf (Wp.skip (As (gn 3 0 (jl h)))))
  exact Wp.exit (jv h)
 intro v1 h E hE;refine AX hE (ws (gn 2 2 (Wp.seq (ws (gn 2 0 (BP h [0,5,6] [] (fun s=>(We a s.1 s.2)) [5] [] (fun s=>(Wd s)) EG ?_ ?_))))))
 ·rintro⟨b,e⟩ o (h:Hp a b e=some o);refine Wp.seq (ws (Ai 2 0 (RW.q (Di (HU false) a) (gn 1 0 (wc h (fun h=>?_) (fun h=>?_))))))
  ·exact Wp.skip (Wp.seq (Wp.block (ws (Ai 2 0 (CU (HU false) h (fun x4 gx4 h=>RW.q (Qz (HU false) gx4 0 3) (gw 2 0 (Ai 3 0 (bd h fun q1 gq1 h=>CV (DN Qs (fun _=>rfl) [] gq1) (gn 2 0 (As (Ai 3 0 (bd h fun q2 gq2 h=>CV (r8 (HU true) b [(Tx.mk x4.Num x4.Seq q1)] gq2) (gn 1 1 (As (gn 3 0 (jl h)))))))))))))))))
  exact Wp.exit (jv h)
 intro v2 h E hE;exact AX hE (ws (gn 2 2 (Wp.ret (rr h▸rq))))
def Xt (o:Bool) (x:Arena):List TV:=[.sl o 150 2 (AM (Xv o) x.Knots)]
def cI (xA:Arena) (z1:Int) (z2:List BR):St:=AA [(1,(pb 1)),(2,(pb 2)),(3,(pb 3)),(4,(I z1))] [(.box 1,[BJ xA.Knots]),(.box 2,[Bt []]),(.box 3,[Bt z2])]
def cH (z3:List BR):St:=AA [(2,(pb 2)),(3,(pb 3))] [(.box 2,[Bt []]),(.box 3,[Bt z3])]
theorem Pg (xA:Arena) (r:Arena) (h:L5 xA=some r):AU Tryz.prog 87 [.sv (.agg (Xt false xA))] (.agg (Xt true r)) (rg 1):=by
 refine gk Tryz.func87 rfl Tryz.ntmps87 (ws (gw 2 0 (gn 3 0 (Wp.seq (ws (gn 1 0 (BP h [1,2,3,4] [.box 1,.box 2,.box 3] (fun s=>(cI xA s.1 s.2)) [2,3] [.box 2,.box 3] (fun s=>(cH s)) EG ?_ ?_)))))))
 ·rintro⟨b,a⟩ o (h:Jc xA b a=some o);refine Wp.seq (ws (Ai 3 0 (RW.q (Di (CG false) xA.Knots) (gn 1 0 (wc h (fun h=>?_) (fun h=>?_))))))
  ·exact Wp.skip (Wp.seq (Wp.block (Eu [18,20] mixed (fun c E h=>by rcases h with⟨h|h,_⟩<;>cases h) (Bw [0,1,2,3,4] 0 (bd h fun x1 gx1 h=>KW.q 5 (Jo (CG false) gx1) (KW.q 6 (DA (CG false) gx1 0 0) (KW.q 7 (CH (CG false) gx1 0) (Bw [9,10,11] 0 (bd h fun x2 gx2 h=>KW.q 12 (Jo (CG false) gx2) (KW.q 13 (DA (CG false) gx2 0 1) (KW.q 14 (CH (CG false) gx2 1) (BC 8 (sV (BC 15 (bd h fun q1 gq1 h=>iQ (DN k3 (fun _=>rfl) [] gq1) (Bw [16,17] 0 (BC 18 (bd h fun q2 gq2 h=>Ml (r8 (CG true) a [(BR.mk x1.Leaf q1)] gq2) (Bw [19,20] 0 (Bv (As (gn 3 0 (jl h)))))))))))))))))))))))
  exact Wp.exit (jv h)
 intro v1 h E hE;exact AX hE (ws (gn 2 0 (Wp.ret (rr h▸rq))))
theorem Fy (xS:Store) (r:Store) (h:Er xS=some r):AU Tryz.prog 57 [.sv (.agg (Rg false xS))] (.agg (Rg true r)) (rg 1):=by
 exact gk Tryz.func57 rfl Tryz.ntmps57 (ws (gn 2 0 (Wp.seq (Eu [10] mixed (fun c E h=>by rcases h with⟨h|h,_⟩<;>cases h) (Bw [1,2,4,5,7,8] 0 (BC 0 (sV (BC 3 (bd h fun q1 gq1 h=>iQ (DN DX (fun _=>rfl) [] gq1) (BC 6 (KB.c 0 h (Pg _) (fun v1 gv1 h=>Bw [9,10] 0 (Bv (Wp.ret (rr h▸rq)))))))))))))))
def fD (xA:Arena) (z1:Int):St:=AA [(1,(pb 1)),(3,(I z1))] [(.box 1,[BJ xA.Knots])]
def fC:St:=AA [] []
def fB (xA:Arena) (a:Int) (x1:BR) (z2:Int):St:=AA [(1,(pb 1)),(3,(I a)),(4,(pb 4)),(5,(I z2))] [(.box 1,[BJ xA.Knots]),(.box 4,[tb x1.Leaf,OT x1.Kids])]
def fA (xA:Arena) (a:Int):St:=AA [(1,(pb 1)),(3,(I a))] [(.box 1,[BJ xA.Knots])]
def e9 (xA:Arena) (a:Int) (x1:BR) (b:Int) (z3:Bool):St:=AA [(1,(pb 1)),(3,(I a)),(4,(pb 4)),(5,(I b)),(62,(B z3))] [(.box 1,[BJ xA.Knots]),(.box 4,[tb x1.Leaf,OT x1.Kids])]
theorem M3 (xA:Arena) (r:Bool) (h:Ga xA=some r):AU Tryz.prog 62 [.sv (.agg (Xt false xA))] (B r) (rg 1):=by
 refine gk Tryz.func62 rfl Tryz.ntmps62 (ws (gn 2 0 (Wp.seq (ws (gn 1 0 (E5 h [1,3] [.box 1] (fun s=>(fD xA s)) [] [] (fun _=>fC) EG ?_ ?_))))))
 ·rintro b o (h:DH xA b=some o) hk1;refine Wp.seq (ws (Ai 3 0 (RW.q (Di (CG false) xA.Knots) (gn 1 0 (wc h (fun h=>?_) (fun h=>?_))))))
  ·refine Wp.skip (Wp.seq (Wp.block (ws (Ai 3 0 (CU (CG false) h (fun x1 gx1 h=>RW.q (Qz (CG false) gx1 0 2) (gn 2 0 (Wp.seq (ws (Ai 2 0 (RW.q (Di k3 x1.Kids) (gn 1 0 (wc h (fun h=>?_) (fun h=>?_))))))))))))))
   ·exact ws (gn 1 0 (Wp.ret (rr (jo h hk1)▸rq)))
   refine Wp.skip (ws (gn 1 0 (E5 h [1,3,4,5] [.box 1,.box 4] (fun s=>(fB xA b x1 s)) [1,3] [.box 1] (fun _=>(fA xA b)) EG ?_ ?_)))
   ·rintro d o (h:DG xA b x1 d=some o) hk2;refine Wp.seq (ws (gn 2 0 (wc h (fun h=>?_) (fun h=>?_))))
    ·refine Wp.skip (Wp.seq (Wp.block (ws (Ai 3 0 (CU k3 h (fun x2 gx2 h=>RW.q (CH k3 gx2 0) (gn 1 0 (Fk h [1,3,4,5,62] [.box 1,.box 4] (fun a=>(e9 xA b x1 d a)) (fun a h=>?_) (fun j1 h=>?_)))))))))
     ·refine As (Ai 3 0 (AJ 34 h (fun h=>?_) (fun h=>?_)))
      ·refine Ai 4 0 (AJ 38 h (fun h=>?_) (fun h=>?_))
       ·exact gn 24 0 (jn h)
       refine Ai 4 0 (AJ 42 h (fun h=>?_) (fun h=>?_))
       ·refine Ai 4 0 (AJ 46 h (fun h=>?_) (fun h=>?_))
        ·refine Ai 3 0 (RW.c 0 h (BM _ _ _) (fun v1 gv1 h=>Ai 2 0 (AJ 52 h (fun h=>?_) (fun h=>?_))))
         ·exact gn 10 0 (jn h)
         exact Ai 3 0 (CU (CG false) h (fun x3 gx3 h=>RW.q (DA (CG false) gx3 0 0) (RW.q (CH (CG false) gx3 0) (gn 4 0 (jn h)))))
        exact gn 16 0 (jn h)
       exact gn 20 0 (jn h)
      refine Ai 8 0 (AJ 42 h (fun h=>?_) (fun h=>?_))
      ·refine Ai 4 0 (AJ 46 h (fun h=>?_) (fun h=>?_))
       ·refine Ai 3 0 (RW.c 0 h (BM _ _ _) (fun v2 gv2 h=>Ai 2 0 (AJ 52 h (fun h=>?_) (fun h=>?_))))
        ·exact gn 10 0 (jn h)
        exact Ai 3 0 (CU (CG false) h (fun x4 gx4 h=>RW.q (DA (CG false) gx4 0 0) (RW.q (CH (CG false) gx4 0) (gn 4 0 (jn h)))))
       exact gn 16 0 (jn h)
      exact gn 20 0 (jn h)
     refine wc h (fun h=>?_) (fun h=>?_)
     ·exact ws (gn 1 0 (Wp.ret (rr (jo (jo h hk2) hk1)▸rq)))
     exact Wp.skip (As (gn 3 0 (jl h)))
    exact Wp.exit (jx h)
   intro v3 h E hE;exact AX hE (As (gn 3 0 (jl h)))
  exact Wp.exit (jx h)
 intro v4 h E hE;exact AX hE (ws (gn 1 0 (Wp.ret (rr h▸rq))))
theorem K0 (xA:Arena) (a:Int) (r:Bool) (h:GB xA a=some r):AU Tryz.prog 63 [.sv (.agg (Xt false xA)),.sv (I a)] (B r) (rg 2):=by
 refine gk Tryz.func63 rfl Tryz.ntmps63 (ws (gw 2 0 (Ai 3 0 (AJ 7 h (fun h=>?_) (fun h=>?_)))))
 ·exact gn 17 0 (Wp.ret (rr h▸rq))
 refine Ai 3 0 (RW.q (Di (CG false) xA.Knots) (Ai 1 0 (RW.c 0 h (BM _ _ _) (fun v1 gv1 h=>Ai 1 0 (AJ 14 h (fun h=>?_) (fun h=>?_))))))
 ·exact Ai 3 0 (CU (CG false) h (fun x1 gx1 h=>RW.q (DA (CG false) gx1 0 0) (RW.q (CH (CG false) gx1 0) (gn 4 0 (Wp.ret (rr h▸rq))))))
 exact gn 10 0 (Wp.ret (rr h▸rq))
theorem VT (xA:Arena) (b:Int) (a:Int) (r:Int) (h:LP xA b a=some r):AU Tryz.prog 64 [.sv (.agg (Xt false xA)),.sv (I b),.sv (I a)] (I r) (rg 3):=by
 refine gk Tryz.func64 rfl Tryz.ntmps64 (ws (gn 2 0 (Wp.seq (ws (gn 2 0 (wc h (fun h=>?_) (fun h=>?_)))))))
 ·exact ws (gn 1 0 (Wp.ret (rr h▸rq)))
 refine Wp.skip (ws (Ai 3 0 (CU (CG false) h (fun x1 gx1 h=>RW.q (DA (CG false) gx1 0 1) (RW.q (CH (CG false) gx1 1) (Ai 2 0 (CU k3 h (fun x2 gx2 h=>RW.q (CH k3 gx2 0) (gn 1 0 (Wp.seq (ws (gn 2 0 (wc h (fun h=>?_) (fun h=>?_))))))))))))))
 ·exact ws (gn 1 0 (Wp.ret (rr h▸rq)))
 exact Wp.skip (ws (Ai 3 0 (CU (CG false) h (fun x3 gx3 h=>RW.q (DA (CG false) gx3 0 1) (RW.q (CH (CG false) gx3 1) (Ai 2 0 (CU k3 h (fun x4 gx4 h=>RW.q (CH k3 gx4 0) (gn 1 0 (Wp.ret (rr h▸rq)))))))))))
def XW (xS:Store) (z1:List Int) (z2:Int):St:=AA [(1,(pb 1)),(3,(.one (E0 z1))),(4,(I z2))] [(.box 1,[DB xS.Vols,BJ xS.Arena.Knots,i6 xS.Next])]
def XV (z3:List Int):St:=AA [(3,(.one (E0 z3)))] []
theorem Li (xS:Store) (r:List Int) (h:LO xS=some r):AU Tryz.prog 121 [.sv (.agg (Rg false xS))] (.one (E0 r)) (rg 1):=by
 refine gk Tryz.func121 rfl Tryz.ntmps121 (ws (gw 2 0 (gn 2 2 (Wp.seq (ws (gn 1 0 (BP h [1,3,4] [.box 1] (fun s=>(XW xS s.1 s.2)) [3] [] (fun s=>(XV s)) EG ?_ ?_)))))))
 ·rintro⟨a,b⟩ o (h:GA xS a b=some o);refine Wp.seq (ws (Ai 3 0 (RW.q (Di DX xS.Vols) (gn 1 0 (wc h (fun h=>?_) (fun h=>?_))))))
  ·exact Wp.skip (Wp.seq (Wp.block (As (Ai 4 0 (CU DX h (fun x1 gx1 h=>RW.q (DA DX gx1 0 1) (RW.q (CH DX gx1 1) (Ai 1 0 (bd h fun q1 gq1 h=>CV (DN k3 (fun _=>rfl) a gq1) (gn 1 1 (As (gn 3 0 (jl h)))))))))))))
  exact Wp.exit (jv h)
 intro v1 h E hE;exact AX hE (ws (gn 2 2 (Wp.ret (rr h▸rq))))
def c4 (x:Bool):List TV:=[tb x]
theorem k4:∀x,(c4 x).length=1:=fun _=>rfl
theorem sh4:∀l,BH (AM c4 l)=AM c4 l:=D3 (fun _=>rfl)
theorem ns4:∀l,AO (AM c4 l)=false:=Kq (fun _=>rfl)
def OS (l:List Bool):TV:= .sl true 4 1 (AM c4 l)
def of4 (l:List Bool):TV:= .sl false 4 1 (AM c4 l)
def jY (xA:Arena) (a:Int) (z1:List Bool) (z2:Int):St:=AA [(1,(I a)),(2,(pb 2)),(5,(.one (OS z1))),(6,(I z2))] [(.box 2,[BJ xA.Knots])]
def jX (z3:List Bool):St:=AA [(5,(.one (OS z3)))] []
theorem pF (xA:Arena) (a:Int) (r:List Bool) (h:Rz xA a=some r):AU Tryz.prog 147 [.sv (.agg (Xt false xA)),.sv (I a)] (.one (OS r)) (rg 2):=by
 refine gk Tryz.func147 rfl Tryz.ntmps147 (ws (gw 2 0 (Ai 2 0 (RW.q (Di (CG false) xA.Knots) (bd h fun q1 gq1 h=>CV (fmk k4 false gq1) (gn 1 1 (Wp.seq (ws (gn 2 0 (wc h (fun h=>?_) (fun h=>?_)))))))))))
 ·exact ws (gn 2 2 (Wp.ret (rr h▸rq)))
 refine Wp.skip (ws (Ai 2 0 (CU k4 h (fun x1 gx1 h=>CV (Ny k4 gx1 0 0 true) (RW.nil (Wp.seq (ws (gn 1 0 (BP h [1,2,5,6] [.box 2] (fun s=>(jY xA a s.1 s.2)) [5] [] (fun s=>(jX s)) EG ?_ ?_)))))))))
 ·rintro⟨b,c⟩ o (h:I5 xA a b c=some o);refine Wp.seq (ws (gn 2 0 (wc h (fun h=>?_) (fun h=>?_))))
  ·refine Wp.skip (Wp.seq (Wp.block (ws (Ai 3 0 (CU (CG false) h (fun x2 gx2 h=>RW.q (DA (CG false) gx2 0 1) (RW.q (CH (CG false) gx2 1) (Ai 1 0 (CU k3 h (fun x3 gx3 h=>RW.q (CH k3 gx3 0) (gn 1 0 (wc h (fun h=>?_) (fun h=>?_)))))))))))))
   ·exact As (Ai 4 0 (CU (CG false) h (fun x4 gx4 h=>RW.q (DA (CG false) gx4 0 1) (RW.q (CH (CG false) gx4 1) (Ai 1 0 (CU k3 h (fun x5 gx5 h=>RW.q (CH k3 gx5 0) (CU k4 h (fun x6 gx6 h=>CV (Ny k4 gx6 0 0 true) (RW.nil (As (gn 3 0 (jl h)))))))))))))
   exact Wp.skip (As (gn 3 0 (jl h)))
  exact Wp.exit (jv h)
 intro v1 h E hE;exact AX hE (ws (gn 2 2 (Wp.ret (rr h▸rq))))
def Ux (xA:Arena) (a:List Int) (q1:List Int) (z1:Bool) (z2:Int):St:=AA [(1,(.one (OT a))),(2,(pb 2)),(4,(pb 4)),(6,(.one (E0 q1))),(7,(B z1)),(8,(I z2))] [(.box 2,[BJ xA.Knots]),(.box 4,[Bt []])]
def Uw (xA:Arena) (a:List Int) (q1:List Int) (z3:Bool):St:=AA [(1,(.one (OT a))),(2,(pb 2)),(4,(pb 4)),(6,(.one (E0 q1))),(7,(B z3))] [(.box 2,[BJ xA.Knots]),(.box 4,[Bt []])]
def Uv (xA:Arena) (a:List Int) (q1:List Int) (b:Bool) (c:Int) (z4:Bool):St:=AA [(1,(.one (OT a))),(2,(pb 2)),(4,(pb 4)),(6,(.one (E0 q1))),(7,(B b)),(8,(I c)),(30,(B z4))] [(.box 2,[BJ xA.Knots]),(.box 4,[Bt []])]
def Uu (xA:Arena) (a:List Int) (q1:List Int) (z5:List Bool) (z6:Int):St:=AA [(1,(.one (OT a))),(2,(pb 2)),(4,(pb 4)),(6,(.one (E0 q1))),(9,(.one (OS z5))),(10,(I z6))] [(.box 2,[BJ xA.Knots]),(.box 4,[Bt []])]
def Ut (xA:Arena) (q1:List Int) (z7:List Bool):St:=AA [(2,(pb 2)),(4,(pb 4)),(6,(.one (E0 q1))),(9,(.one (OS z7)))] [(.box 2,[BJ xA.Knots]),(.box 4,[Bt []])]
def Us (xA:Arena) (a:List Int) (q1:List Int) (b:Int) (v5:List Bool) (z8:List Bool) (z9:Int):St:=AA [(1,(.one (OT a))),(2,(pb 2)),(4,(pb 4)),(6,(.one (E0 q1))),(9,(.one (OS z8))),(10,(I b)),(11,(.one (OS v5))),(12,(I z9))] [(.box 2,[BJ xA.Knots]),(.box 4,[Bt []])]
def Uq (xA:Arena) (a:List Int) (q1:List Int) (b:Int) (z10:List Bool):St:=AA [(1,(.one (OT a))),(2,(pb 2)),(4,(pb 4)),(6,(.one (E0 q1))),(9,(.one (OS z10))),(10,(I b))] [(.box 2,[BJ xA.Knots]),(.box 4,[Bt []])]
def Up (xA:Arena) (q1:List Int) (v7:List Bool) (z11:List Int) (z12:Int) (z13:List BR):St:=AA [(2,(pb 2)),(4,(pb 4)),(6,(.one (E0 q1))),(9,(.one (OS v7))),(13,(.one (E0 z11))),(14,(pb 14)),(15,(I z12))] [(.box 2,[BJ xA.Knots]),(.box 4,[Bt []]),(.box 14,[Bt z13])]
def Uo (q1:List Int) (z14:List Int) (z15:List BR):St:=AA [(4,(pb 4)),(6,(.one (E0 q1))),(13,(.one (E0 z14))),(14,(pb 14))] [(.box 4,[Bt []]),(.box 14,[Bt z15])]
def SF (xA:Arena) (q1:List Int) (v7:List Bool) (a:List Int) (c:Int) (b:List BR) (z16:Bool) (z17:List Int):St:=AA [(2,(pb 2)),(4,(pb 4)),(6,(.one (E0 q1))),(9,(.one (OS v7))),(13,(.one (E0 a))),(14,(pb 14)),(15,(I c)),(16,(pb 16))] [(.box 2,[BJ xA.Knots]),(.box 4,[Bt []]),(.box 14,[Bt b]),(.box 16,[tb z16,E0 z17])]
def SE (xA:Arena) (q1:List Int) (v7:List Bool) (a:List Int) (c:Int) (b:List BR) (j2:Bool×List Int) (z18:Int) (z19:List Int):St:=AA [(2,(pb 2)),(4,(pb 4)),(6,(.one (E0 q1))),(9,(.one (OS v7))),(13,(.one (E0 a))),(14,(pb 14)),(15,(I c)),(16,(pb 16)),(17,(I z18))] [(.box 2,[BJ xA.Knots]),(.box 4,[Bt []]),(.box 14,[Bt b]),(.box 16,[tb j2.1,E0 z19])]
def SD (xA:Arena) (q1:List Int) (v7:List Bool) (a:List Int) (c:Int) (b:List BR) (j2:Bool×List Int) (z20:List Int):St:=AA [(2,(pb 2)),(4,(pb 4)),(6,(.one (E0 q1))),(9,(.one (OS v7))),(13,(.one (E0 a))),(14,(pb 14)),(15,(I c)),(16,(pb 16))] [(.box 2,[BJ xA.Knots]),(.box 4,[Bt []]),(.box 14,[Bt b]),(.box 16,[tb j2.1,E0 z20])]
def SC (xA:Arena) (q1:List Int) (v7:List Bool) (a:List Int) (d:Int) (b:List BR) (j2:Bool×List Int) (e:Int) (c:List Int) (z21:Bool):St:=AA [(2,(pb 2)),(4,(pb 4)),(6,(.one (E0 q1))),(9,(.one (OS v7))),(13,(.one (E0 a))),(14,(pb 14)),(15,(I d)),(16,(pb 16)),(17,(I e)),(117,(B z21))] [(.box 2,[BJ xA.Knots]),(.box 4,[Bt []]),(.box 14,[Bt b]),(.box 16,[tb j2.1,E0 c])]
def SB (v9:List Int×List BR) (z22:List Int) (z23:Int):St:=AA [(4,(pb 4)),(6,(.one (E0 z22))),(13,(.one (E0 v9.1))),(14,(pb 14)),(18,(I z23))] [(.box 4,[Bt []]),(.box 14,[Bt v9.2])]
def SA (v9:List Int×List BR) (z24:List Int):St:=AA [(4,(pb 4)),(6,(.one (E0 z24))),(14,(pb 14))] [(.box 4,[Bt []]),(.box 14,[Bt v9.2])]
theorem FQ (xA:Arena) (b:List Int) (r:Arena×List Int) (h:Je xA b=some r):AU Tryz.prog 120 [.sv (.agg (Xt false xA)),.sv (.one (OT b))] (.tup [(.agg (Xt true r.1)),(.one (E0 r.2))]) (rg 2):=by
 refine gk Tryz.func120 rfl Tryz.ntmps120 (ws (gw 3 0 (Ai 2 0 (bd h fun q1 gq1 h=>CV (DN k3 (fun _=>rfl) [] gq1) (gw 1 1 (Ai 1 0 (RW.c 0 h (M3 _) (fun v1 gv1 h=>gn 1 0 (Wp.seq (ws (gn 1 0 (BP h [1,2,4,6,7,8] [.box 2,.box 4] (fun s=>(Ux xA b q1 s.1 s.2)) [1,2,4,6,7] [.box 2,.box 4] (fun s=>(Uw xA b q1 s)) EG ?_ ?_))))))))))))
 ·rintro⟨k,n⟩ o (h:Ft xA b k n=some o);refine Wp.seq (Fk h [1,2,4,6,7,8,30] [.box 2,.box 4] (fun a=>(Uv xA b q1 k n a)) (fun a h=>?_) (fun j1 h=>?_))
  ·refine As (Ai 2 0 (RW.q (Di k3 b) (Ai 2 0 (AJ 28 h (fun h=>?_) (fun h=>?_)))))
   ·exact gn 2 0 (jn h)
   exact gn 2 0 (jn h)
  refine wc h (fun h=>?_) (fun h=>?_)
  ·exact Wp.skip (Wp.seq (Wp.block (Sp 5 mixed (Dl 3 (bd h fun x1 gx1 h=>SW.q (Jo k3 gx1) (SW.q (CH k3 gx1 0) (SW.nil (RW.c 0 h (K0 _ _) (fun v2 gv2 h=>gn 1 0 (As (gn 3 0 (jl h))))))))))))
  exact Wp.exit (jv h)
 intro v3 h E hE;refine AX hE (Wp.seq (ws (gn 2 0 (wc h (fun h=>?_) (fun h=>?_)))))
 ·exact ws (Ai 1 0 (RW.c 0 h (Pg _) (fun v4 gv4 h=>gn 3 4 (Wp.ret (rr h▸rq)))))
 refine Wp.skip (ws (Ai 2 0 (RW.q (Di (CG false) xA.Knots) (bd h fun q2 gq2 h=>CV (fmk k4 false gq2) (gn 1 1 (Wp.seq (ws (gn 1 0 (BP h [1,2,4,6,9,10] [.box 2,.box 4] (fun s=>(Uu xA b q1 s.1 s.2)) [2,4,6,9] [.box 2,.box 4] (fun s=>(Ut xA q1 s)) EG ?_ ?_)))))))))
 ·rintro⟨i,m⟩ o (h:Fs xA b i m=some o);refine Wp.seq (ws (Ai 2 0 (RW.q (Di k3 b) (gn 1 0 (wc h (fun h=>?_) (fun h=>?_))))))
  ·refine Wp.skip (Wp.seq (Wp.block (Wp.seq (Sp 5 mixed (Dl 3 (bd h fun x2 gx2 h=>SW.q (Jo k3 gx2) (SW.q (CH k3 gx2 0) (SW.nil (RW.c 0 h (pF _ _) (fun v5 gv5 h=>gw 1 1 (gn 1 0 (BP h [1,2,4,6,9,10,11,12] [.box 2,.box 4] (fun s=>(Us xA b q1 m v5 s.1 s.2)) [1,2,4,6,9,10] [.box 2,.box 4] (fun s=>(Uq xA b q1 m s)) EG ?_ ?_))))))))))))
   ·rintro⟨j,t⟩ o (h:G0 v5 j t=some o);refine Wp.seq (ws (Ai 2 0 (RW.q (Di k4 v5) (gn 1 0 (wc h (fun h=>?_) (fun h=>?_))))))
    ·refine Wp.skip (Wp.seq (Wp.block (As (Ai 4 0 (CU k4 h (fun x3 gx3 h=>RW.q (CH k4 gx3 0) (Ai 1 0 (AJ 72 h (fun h=>?_) (fun h=>?_)))))))))
     ·exact Ai 5 0 (CU k4 h (fun x4 gx4 h=>CV (Ny k4 gx4 0 0 true) (RW.nil (As (gn 3 0 (jl h))))))
     exact Ai 2 0 (CU k4 h (fun x5 gx5 h=>RW.q (CH k4 gx5 0) (Ai 1 0 (CU k4 h (fun x6 gx6 h=>CV (Ny k4 gx6 0 0 x5) (RW.nil (As (gn 3 0 (jl h)))))))))
    exact Wp.exit (jv h)
   intro v6 h E hE;exact AX hE (As (gn 3 0 (jl h)))
  exact Wp.exit (jv h)
 intro v7 h E hE;refine AX hE (ws (Ai 2 0 (RW.q (Di (CG false) xA.Knots) (bd h fun q3 gq3 h=>CV (fmk k3 0 gq3) (gw 1 1 (gn 3 0 (Wp.seq (ws (gn 1 0 (BP h [2,4,6,9,13,14,15] [.box 2,.box 4,.box 14] (fun s=>(Up xA q1 v7 s.1 s.2.1 s.2.2)) [4,6,13,14] [.box 4,.box 14] (fun s=>(Uo q1 s.1 s.2)) EG ?_ ?_))))))))))
 ·rintro⟨e,g,d⟩ o (h:Fq xA v7 e g d=some o);refine Wp.seq (ws (Ai 3 0 (RW.q (Di (CG false) xA.Knots) (gn 1 0 (wc h (fun h=>?_) (fun h=>?_))))))
  ·refine Wp.skip (Wp.seq (Wp.block (Wp.seq (ws (Ai 2 0 (CU k4 h (fun x7 gx7 h=>RW.q (CH k4 gx7 0) (gn 1 0 (wc h (fun h=>?_) (fun h=>?_))))))))))
   ·exact Wp.exit (As (gn 3 0 (jl h)))
   refine Wp.skip (Fk h [2,4,6,9,13,14,15,16] [.box 2,.box 4,.box 14,.box 16] (fun a=>(SF xA q1 v7 e g d a.1 a.2)) (fun a h=>?_) (fun j2 h=>?_))
   ·refine Eu [16] mixed (fun c E h=>by rcases h with⟨h|h,_⟩<;>cases h) (Bw [0,1,2] 0 (bd h fun x8 gx8 h=>KW.q 3 (Jo (CG false) gx8) (KW.q 4 (DA (CG false) gx8 0 0) (KW.q 5 (CH (CG false) gx8 0) (Bw [7,8,9] 0 (bd h fun x9 gx9 h=>KW.q 10 (Jo (CG false) gx9) (KW.q 11 (DA (CG false) gx9 0 1) (KW.q 12 (CH (CG false) gx9 1) (DU 6 15 ?_ ?_)))))))))
    ·refine sV (DU 13 15 ?_ ?_)
     ·exact bd h fun q4 gq4 h=>iQ (DN k3 (fun _=>rfl) [] gq4) (Bw [14,15,16] 0 (Bv (jn h)))
     exact KB.o false (BC 13 (bd h fun q5 gq5 h=>iQ (DN k3 (fun _=>rfl) [] gq5) (Bw [14,16] 0 (Bv (jn h)))))
    exact KB.o false (BC 6 (sV (BC 13 (bd h fun q6 gq6 h=>iQ (DN k3 (fun _=>rfl) [] gq6) (Bw [14,16] 0 (Bv (jn h)))))))
   refine Wp.seq (ws (gn 1 0 (BP h [2,4,6,9,13,14,15,16,17] [.box 2,.box 4,.box 14,.box 16] (fun s=>(SE xA q1 v7 e g d j2 s.1 s.2)) [2,4,6,9,13,14,15,16] [.box 2,.box 4,.box 14,.box 16] (fun s=>(SD xA q1 v7 e g d j2 s)) EG ?_ ?_)))
   ·rintro⟨p,l⟩ o (h:Fp e j2 p l=some o);refine Wp.seq (Fk h [2,4,6,9,13,14,15,16,17,117] [.box 2,.box 4,.box 14,.box 16] (fun a=>(SC xA q1 v7 e g d j2 p l a)) (fun a h=>?_) (fun j3 h=>?_))
    ·refine As (Ai 3 0 (AJ 113 h (fun h=>?_) (fun h=>?_)))
     ·exact gn 4 0 (jn h)
     exact gn 4 0 (jn h)
    refine wc h (fun h=>?_) (fun h=>?_)
    ·refine Wp.skip (Wp.seq (Wp.block (ws (Ai 3 0 (CU k3 h (fun x10 gx10 h=>RW.q (CH k3 gx10 0) (gn 1 0 (wc h (fun h=>?_) (fun h=>?_)))))))))
     ·exact Sp 12 mixed (Dl 7 (bd h fun x11 gx11 h=>SW.q (Jo k3 gx11) (SW.q (CH k3 gx11 0) (bd h fun x12 gx12 h=>SW.q (Jo k3 gx12) (SW.q (CH k3 gx12 0) (bd h fun x13 gx13 h=>SW.q (Jo k3 gx13) (SW.nil (CV (Ny k3 gx13 0 1 x12) (RW.nil (As (gn 3 0 (jl h))))))))))))
     exact Wp.skip (As (gn 3 0 (jl h)))
    exact Wp.exit (jv h)
   intro v8 h E hE;exact AX hE (ws (Ai 4 0 (RW.q (Di (CG true) d) (CU k3 h (fun x14 gx14 h=>CV (Ny k3 gx14 0 0 (ln d)) (RW.nil (As (Ai 4 0 (bd h fun q7 gq7 h=>CV (r8 (CG true) d [(BR.mk j2.1 v8)] gq7) (gn 2 0 (As (gn 3 0 (jl h)))))))))))))
  exact Wp.exit (jv h)
 intro v9 h E hE;refine AX hE (Wp.seq (ws (gn 1 0 (BP h [4,6,13,14,18] [.box 4,.box 14] (fun s=>(SB v9 s.1 s.2)) [4,6,14] [.box 4,.box 14] (fun s=>(SA v9 s)) EG ?_ ?_))))
 ·rintro⟨f,u⟩ o (h:Fo v9 f u=some o);refine Wp.seq (ws (Ai 2 0 (RW.q (Di k3 f) (gn 1 0 (wc h (fun h=>?_) (fun h=>?_))))))
  ·refine Wp.skip (Wp.seq (Wp.block (ws (Ai 2 0 (CU k3 h (fun x15 gx15 h=>RW.q (CH k3 gx15 0) (gn 1 0 (wc h (fun h=>?_) (fun h=>?_)))))))))
   ·exact As (Ai 5 0 (CU k3 h (fun x16 gx16 h=>RW.q (CH k3 gx16 0) (CU k3 h (fun x17 gx17 h=>RW.q (CH k3 gx17 0) (CU k3 h (fun x18 gx18 h=>CV (Ny k3 gx18 0 0 x17) (RW.nil (As (gn 3 0 (jl h)))))))))))
   exact Wp.skip (As (gn 3 0 (jl h)))
  exact Wp.exit (jv h)
 intro v10 h E hE;exact AX hE (ws (gn 4 8 (Wp.ret (rr h▸rq))))
def dF (xS:Store) (z1:Bool):St:=AA [(1,(pb 1)),(23,(B z1))] [(.box 1,[DB xS.Vols,BJ xS.Arena.Knots,i6 xS.Next])]
def dE (xS:Store) (z2:Int):St:=AA [(1,(pb 1)),(3,(I z2))] [(.box 1,[DB xS.Vols,BJ xS.Arena.Knots,i6 xS.Next])]
def dD (xS:Store):St:=AA [(1,(pb 1))] [(.box 1,[DB xS.Vols,BJ xS.Arena.Knots,i6 xS.Next])]
def dC (xS:Store) (a:Int) (x1:Vol) (z3:Bool):St:=AA [(1,(pb 1)),(3,(I a)),(4,(pb 4)),(63,(B z3))] [(.box 1,[DB xS.Vols,BJ xS.Arena.Knots,i6 xS.Next]),(.box 4,[i6 x1.Id,i6 x1.Root])]
def dB (xS:Store) (a:Int) (x1:Vol) (z4:Int):St:=AA [(1,(pb 1)),(3,(I a)),(4,(pb 4)),(5,(I z4))] [(.box 1,[DB xS.Vols,BJ xS.Arena.Knots,i6 xS.Next]),(.box 4,[i6 x1.Id,i6 x1.Root])]
def dA (xS:Store) (a:Int):St:=AA [(1,(pb 1)),(3,(I a))] [(.box 1,[DB xS.Vols,BJ xS.Arena.Knots,i6 xS.Next])]
def c8 (xS:Store) (z5:List BR):St:=AA [(1,(pb 1)),(6,(pb 6))] [(.box 1,[DB xS.Vols,BJ xS.Arena.Knots,i6 xS.Next]),(.box 6,[Bt z5])]
theorem T3 (xS:Store) (r:Bool) (h:Ng xS=some r):AU Tryz.prog 88 [.sv (.agg (Rg false xS))] (B r) (rg 1):=by
 refine gk Tryz.func88 rfl Tryz.ntmps88 (ws (gn 2 0 (Wp.seq (Fk h [1,23] [.box 1] (fun a=>(dF xS a)) (fun a h=>?_) (fun j1 h=>?_)))))
 ·refine As (Ai 2 0 (RW.q (Di DX xS.Vols) (Ai 2 0 (AJ 12 h (fun h=>?_) (fun h=>?_)))))
  ·exact gn 11 0 (jn h)
  refine Ai 2 0 (RW.c 0 h (M3 _) (fun v1 gv1 h=>Ai 3 0 (AJ 18 h (fun h=>?_) (fun h=>?_))))
  ·exact gn 5 0 (jn h)
  exact Ai 2 0 (RW.c 0 h (BM _ _ _) (fun v2 gv2 h=>gn 2 0 (jn h)))
 refine wc h (fun h=>?_) (fun h=>?_)
 ·exact ws (gn 1 0 (Wp.ret (rr h▸rq)))
 refine Wp.skip (Wp.seq (ws (gn 1 0 (E5 h [1,3] [.box 1] (fun s=>(dE xS s)) [1] [.box 1] (fun _=>(dD xS)) EG ?_ ?_))))
 ·rintro b o (h:HC xS b=some o) hk1;refine Wp.seq (ws (Ai 3 0 (RW.q (Di DX xS.Vols) (gn 1 0 (wc h (fun h=>?_) (fun h=>?_))))))
  ·refine Wp.skip (Wp.seq (Wp.block (ws (Ai 3 0 (CU DX h (fun x1 gx1 h=>RW.q (Qz DX gx1 0 2) (gn 2 0 (Wp.seq (Fk h [1,3,4,63] [.box 1,.box 4] (fun a=>(dC xS b x1 a)) (fun a h=>?_) (fun j2 h=>?_))))))))))
   ·refine Eu [] mixed (fun c E h=>by rcases h with⟨h|h,_⟩<;>cases h) (Bw [0,1] 0 (BC 2 (KB.c 0 h (BM _ _ _) (fun v3 gv3 h=>Bw [3,4] 0 (XC 40 h (fun h=>?_) (fun h=>?_))))))
    ·exact Bw [5,6,7,8,9,10,11,12,13,14,15,16,17,18,19,20,21,22,23,24,25,26,27] 0 (Bv (jn h))
    refine Bw [5,6,7] 0 (XC 43 h (fun h=>?_) (fun h=>?_))
    ·refine Bw [8,9,10,11] 0 (bd h fun x2 gx2 h=>KW.q 12 (Jo DX gx2) (KW.q 13 (DA DX gx2 0 0) (KW.q 14 (CH DX gx2 0) (Bw [15,16,17,18,19,20] 0 (XC 56 h (fun h=>?_) (fun h=>?_))))))
     ·exact Bw [21,22,23,24,25,26,27] 0 (Bv (jn h))
     exact Bw [21,22,23,24] 0 (BC 25 (KB.c 0 h (K0 _ _) (fun v4 gv4 h=>Bw [26,27] 0 (Bv (jn h)))))
    exact Bw [8,9,10,11,12,13,14,15,16,17,18,19,20,21,22,23,24] 0 (BC 25 (KB.c 0 h (K0 _ _) (fun v5 gv5 h=>Bw [26,27] 0 (Bv (jn h)))))
   refine wc h (fun h=>?_) (fun h=>?_)
   ·exact ws (gn 1 0 (Wp.ret (rr (jo h hk1)▸rq)))
   refine Wp.skip (ws (gn 1 0 (E5 h [1,3,4,5] [.box 1,.box 4] (fun s=>(dB xS b x1 s)) [1,3] [.box 1] (fun _=>(dA xS b)) EG ?_ ?_)))
   ·rintro d o (h:HB xS x1 d=some o) hk2;refine Wp.seq (ws (gn 2 0 (wc h (fun h=>?_) (fun h=>?_))))
    ·refine Wp.skip (Wp.seq (Wp.block (Wp.seq (Eu [] mixed (fun c E h=>by rcases h with⟨h|h,_⟩<;>cases h) (Bw [0,1,2,3,4,6,7] 0 (BC 5 (KB.c 0 h (VT _ _ _) (fun v6 gv6 h=>Bw [8] 0 (Bv (wc h (fun h=>?_) (fun h=>?_)))))))))))
     ·exact ws (gn 1 0 (Wp.ret (rr (jo (jo h hk2) hk1)▸rq)))
     exact Wp.skip (As (gn 3 0 (jl h)))
    exact Wp.exit (jx h)
   intro v7 h E hE;exact AX hE (As (gn 3 0 (jl h)))
  exact Wp.exit (jx h)
 intro v8 h E hE;refine AX hE (Fk h [1,6] [.box 1,.box 6] (fun a=>(c8 xS a)) (fun a h=>?_) (fun j3 h=>?_))
 ·refine Eu [9] mixed (fun c E h=>by rcases h with⟨h|h,_⟩<;>cases h) (Bw [0,1,2] 0 (DU 3 8 ?_ ?_))
  ·refine KB.c 0 h (Li _) (fun v10 gv10 h=>DU 4 8 ?_ ?_)
   ·exact KB.c 0 h (gs (ca rfl (ca (co (cs (jH _))) rfl)) (FQ _ _)) (fun v12 gv12 h=>oj [5,10] h) (hc:=(.inr (fun v=>by simp [BB,BL,AO,B9,ns3,KC,E0,Bt,Xt])))
   exact KB.o false (BC 4 (KB.c 0 h (gs (ca rfl (ca (co (cs (jH _))) rfl)) (FQ _ _)) (fun v13 gv13 h=>Bw [5] 1 (OR 6 (oj [10] h))) (hc:=(.inr (fun v=>by simp [BB,BL,AO,B9,ns3,KC,E0,Bt,Xt])))))
  exact KB.o false (BC 3 (KB.c 0 h (Li _) (fun v14 gv14 h=>BC 4 (KB.c 0 h (gs (ca rfl (ca (co (cs (jH _))) rfl)) (FQ _ _)) (fun v15 gv15 h=>Bw [5] 1 (OR 6 (oj [10] h))) (hc:=(.inr (fun v=>by simp [BB,BL,AO,B9,ns3,KC,E0,Bt,Xt])))))))
 exact ws (Ai 2 0 (RW.q (Di (CG true) j3) (Ai 3 0 (RW.q (Di (CG false) xS.Arena.Knots) (gn 2 0 (Wp.ret (rr h▸rq)))))))
def pE (xS:Store) (a:Int) (z1:Int):St:=AA [(1,(I a)),(2,(pb 2)),(5,(I z1))] [(.box 2,[DB xS.Vols,BJ xS.Arena.Knots,i6 xS.Next])]
def pD:St:=AA [] []
theorem JI (xS:Store) (a:Int) (r:Int) (h:Es xS a=some r):AU Tryz.prog 32 [.sv (.agg (Rg false xS)),.sv (I a)] (I r) (rg 2):=by
 refine gk Tryz.func32 rfl Tryz.ntmps32 (ws (gn 2 0 (Wp.seq (ws (gn 1 0 (E5 h [1,2,5] [.box 2] (fun s=>(pE xS a s)) [] [] (fun _=>pD) EG ?_ ?_))))))
 ·rintro b o (h:FH xS a b=some o) hk1;refine Wp.seq (ws (Ai 3 0 (RW.q (Di DX xS.Vols) (gn 1 0 (wc h (fun h=>?_) (fun h=>?_))))))
  ·refine Wp.skip (Wp.seq (Wp.block (ws (Ai 3 0 (CU DX h (fun x1 gx1 h=>RW.q (DA DX gx1 0 0) (RW.q (CH DX gx1 0) (gn 2 0 (wc h (fun h=>?_) (fun h=>?_))))))))))
   ·exact ws (gn 2 0 (Wp.ret (rr (jo h hk1)▸rq)))
   exact Wp.skip (As (gn 3 0 (jl h)))
  exact Wp.exit (jx h)
 intro v1 h E hE;exact AX hE (ws (gn 1 0 (Wp.ret (rr h▸rq))))
def jV (xS:Store) (xR:CD) (z1:Int):St:=AA [(2,(pb 2)),(3,(pb 3)),(4,(pb 4)),(6,(I z1))] [(.box 2,[DB xS.Vols,BJ xS.Arena.Knots,i6 xS.Next]),(.box 3,[i6 xR.Kind,i6 xR.Vol,i6 xR.Arg,i6 xR.Chunk]),(.box 4,[CZ [],Bt [],i6 0])]
def jU (xS:Store) (xR:CD) (j1:Int) (z2:Bool):St:=AA [(2,(pb 2)),(3,(pb 3)),(4,(pb 4)),(6,(I j1)),(39,(B z2))] [(.box 2,[DB xS.Vols,BJ xS.Arena.Knots,i6 xS.Next]),(.box 3,[i6 xR.Kind,i6 xR.Vol,i6 xR.Arg,i6 xR.Chunk]),(.box 4,[CZ [],Bt [],i6 0])]
def jT (xS:Store) (xR:CD) (j1:Int) (v5:Store) (z3:List Vol) (z4:Int):St:=AA [(2,(pb 2)),(3,(pb 3)),(4,(pb 4)),(6,(I j1)),(8,(pb 8)),(9,(.one (CZ z3))),(10,(I z4))] [(.box 2,[DB xS.Vols,BJ xS.Arena.Knots,i6 xS.Next]),(.box 3,[i6 xR.Kind,i6 xR.Vol,i6 xR.Arg,i6 xR.Chunk]),(.box 4,[CZ [],Bt [],i6 0]),(.box 8,[CZ v5.Vols,Bt v5.Arena.Knots,i6 v5.Next])]
def jS (xS:Store) (xR:CD) (j1:Int) (v5:Store) (z5:List Vol):St:=AA [(2,(pb 2)),(3,(pb 3)),(4,(pb 4)),(6,(I j1)),(8,(pb 8)),(9,(.one (CZ z5)))] [(.box 2,[DB xS.Vols,BJ xS.Arena.Knots,i6 xS.Next]),(.box 3,[i6 xR.Kind,i6 xR.Vol,i6 xR.Arg,i6 xR.Chunk]),(.box 4,[CZ [],Bt [],i6 0]),(.box 8,[CZ v5.Vols,Bt v5.Arena.Knots,i6 v5.Next])]
def jR (xS:Store) (xR:CD) (v5:Store) (z6:List Vol) (z7:Int):St:=AA [(2,(pb 2)),(3,(pb 3)),(4,(pb 4)),(8,(pb 8)),(9,(.one (CZ z6))),(11,(I z7))] [(.box 2,[DB xS.Vols,BJ xS.Arena.Knots,i6 xS.Next]),(.box 3,[i6 xR.Kind,i6 xR.Vol,i6 xR.Arg,i6 xR.Chunk]),(.box 4,[CZ [],Bt [],i6 0]),(.box 8,[CZ v5.Vols,Bt v5.Arena.Knots,i6 v5.Next])]
def jP (v5:Store) (z8:List Vol):St:=AA [(4,(pb 4)),(8,(pb 8)),(9,(.one (CZ z8)))] [(.box 4,[CZ [],Bt [],i6 0]),(.box 8,[CZ v5.Vols,Bt v5.Arena.Knots,i6 v5.Next])]
theorem pC (xS:Store) (xR:CD) (r:Store×Bool) (h:LN xS xR=some r):AU Tryz.prog 90 [.sv (.agg (Rg false xS)),.sv (.agg (c99 xR))] (.tup [(.agg (Rg true r.1)),(B r.2)]) (rg 2):=by
 refine gk Tryz.func90 rfl Tryz.ntmps90 (ws (gw 4 0 (gn 1 0 (Wp.seq (ws (gn 3 0 (nW h [2,3,4,6] [.box 2,.box 3,.box 4] (fun a=>(jV xS xR a)) ?_ ?_)))))))
 ·intro a h e;refine wc h (fun h=>?_) (fun h=>?_)
  ·refine ws (Ai 3 0 (RW.c 0 h (JI _ _) (fun v1 gv1 h=>gn 1 0 (Wp.seq (ws (gn 2 0 (wc h (fun h=>?_) (fun h=>?_))))))))
   ·exact ws (Ai 1 0 (RW.c 0 h (Fy _) (fun v2 gv2 h=>gn 2 0 (Wp.ret (rr (jr h e)▸rq)))))
   exact Wp.skip (As (Ai 3 0 (CU DX h (fun x1 gx1 h=>RW.q (DA DX gx1 0 1) (RW.q (CH DX gx1 1) (gn 1 0 (jm h)))))))
  exact Wp.skip (jm h)
 intro j1 h E hE;refine AX hE (Wp.seq (Fk h [2,3,4,6,39] [.box 2,.box 3,.box 4] (fun a=>(jU xS xR j1 a)) (fun a h=>?_) (fun j2 h=>?_)))
 ·refine As (Ai 3 0 (RW.c 0 h (JI _ _) (fun v3 gv3 h=>Ai 2 0 (AJ 34 h (fun h=>?_) (fun h=>?_)))))
  ·exact gn 5 0 (jn h)
  exact Ai 2 0 (RW.q (Di DX xS.Vols) (gn 2 0 (jn h)))
 refine wc h (fun h=>?_) (fun h=>?_)
 ·exact ws (Ai 1 0 (RW.c 0 h (Fy _) (fun v4 gv4 h=>gn 2 0 (Wp.ret (rr h▸rq)))))
 refine Wp.skip (ws (Ai 1 0 (RW.c 0 h (Fy _) (fun v5 gv5 h=>gw 2 0 (gn 2 2 (Wp.seq (ws (gn 1 0 (BP h [2,3,4,6,8,9,10] [.box 2,.box 3,.box 4,.box 8] (fun s=>(jT xS xR j1 v5 s.1 s.2)) [2,3,4,6,8,9] [.box 2,.box 3,.box 4,.box 8] (fun s=>(jS xS xR j1 v5 s)) EG ?_ ?_)))))))))
 ·rintro⟨b,f⟩ o (h:Kz xS xR b f=some o);refine Wp.seq (ws (Ai 3 0 (RW.q (Di DX xS.Vols) (gn 1 0 (wc h (fun h=>?_) (fun h=>?_))))))
  ·refine Wp.skip (Wp.seq (Wp.block (Wp.seq (KH mixed (Dl 3 (bd h fun x2 gx2 h=>SW.q (Jo DX gx2) (SW.q (DA DX gx2 0 0) (SW.q (CH DX gx2 0) (Dl 3 (SW.nil (wc h (fun h=>?_) (fun h=>?_))))))))))))
   ·exact As (Ai 4 0 (CU DX h (fun x3 gx3 h=>RW.q (Qz DX gx3 0 2) (Ai 1 0 (bd h fun q1 gq1 h=>CV (DN DX (fun _=>rfl) b gq1) (gn 1 1 (As (gn 3 0 (jl h)))))))))
   exact Wp.skip (As (gn 3 0 (jl h)))
  exact Wp.exit (jv h)
 intro v6 h E hE;refine AX hE (ws (Ai 6 0 (bd h fun q2 gq2 h=>CV (DN DX (fun _=>rfl) v6 gq2) (gn 1 1 (Wp.seq (ws (gn 1 0 (BP h [2,3,4,8,9,11] [.box 2,.box 3,.box 4,.box 8] (fun s=>(jR xS xR v5 s.1 s.2)) [4,8,9] [.box 4,.box 8] (fun s=>(jP v5 s)) EG ?_ ?_))))))))
 ·rintro⟨d,g⟩ o (h:Ky xS xR d g=some o);refine Wp.seq (ws (Ai 3 0 (RW.q (Di DX xS.Vols) (gn 1 0 (wc h (fun h=>?_) (fun h=>?_))))))
  ·refine Wp.skip (Wp.seq (Wp.block (Wp.seq (KH mixed (Dl 3 (bd h fun x4 gx4 h=>SW.q (Jo DX gx4) (SW.q (DA DX gx4 0 0) (SW.q (CH DX gx4 0) (Dl 3 (SW.nil (wc h (fun h=>?_) (fun h=>?_))))))))))))
   ·exact As (Ai 4 0 (CU DX h (fun x5 gx5 h=>RW.q (Qz DX gx5 0 2) (Ai 1 0 (bd h fun q3 gq3 h=>CV (DN DX (fun _=>rfl) d gq3) (gn 1 1 (As (gn 3 0 (jl h)))))))))
   exact Wp.skip (As (gn 3 0 (jl h)))
  exact Wp.exit (jv h)
 intro v7 h E hE;exact AX hE (ws (gw 3 0 (gn 3 0 (Wp.ret (rr h▸rq)))))
def XU (xS:Store) (z1:List Int) (z2:List BR):St:=AA [(1,(pb 1)),(2,(pb 2)),(3,(pb 3)),(4,(.one (E0 z1)))] [(.box 1,[DB xS.Vols,BJ xS.Arena.Knots,i6 xS.Next]),(.box 2,[CZ [],Bt [],i6 0]),(.box 3,[Bt z2])]
def XT (xS:Store) (j1:List Int×List BR) (z3:List Vol):St:=AA [(2,(pb 2)),(4,(.one (E0 j1.1))),(5,(pb 5))] [(.box 2,[CZ [],Bt [],i6 0]),(.box 5,[CZ z3,Bt j1.2,i6 xS.Next])]
def XS (xS:Store) (j1:List Int×List BR) (z4:Int) (z5:List Vol):St:=AA [(2,(pb 2)),(4,(.one (E0 j1.1))),(5,(pb 5)),(6,(I z4))] [(.box 2,[CZ [],Bt [],i6 0]),(.box 5,[CZ z5,Bt j1.2,i6 xS.Next])]
def XR (xS:Store) (j1:List Int×List BR) (z6:List Vol):St:=AA [(2,(pb 2)),(5,(pb 5))] [(.box 2,[CZ [],Bt [],i6 0]),(.box 5,[CZ z6,Bt j1.2,i6 xS.Next])]
theorem NN (xS:Store) (r:Store) (h:Gr xS=some r):AU Tryz.prog 91 [.sv (.agg (Rg false xS))] (.agg (Rg true r)) (rg 1):=by
 refine gk Tryz.func91 rfl Tryz.ntmps91 (ws (gn 2 0 (Fk h [1,2,3,4] [.box 1,.box 2,.box 3] (fun a=>(XU xS a.1 a.2)) (fun a h=>?_) (fun j1 h=>?_))))
 ·refine Eu [9] mixed (fun c E h=>by rcases h with⟨h|h,_⟩<;>cases h) (Bw [0,1,2] 0 (DU 3 8 ?_ ?_))
  ·refine KB.c 0 h (Li _) (fun v2 gv2 h=>DU 4 8 ?_ ?_)
   ·exact KB.c 0 h (gs (ca rfl (ca (co (cs (jH _))) rfl)) (FQ _ _)) (fun v4 gv4 h=>oj [5,10] h) (hc:=(.inr (fun v=>by simp [BB,BL,AO,B9,ns3,KC,E0,Bt,Xt])))
   exact KB.o false (BC 4 (KB.c 0 h (gs (ca rfl (ca (co (cs (jH _))) rfl)) (FQ _ _)) (fun v5 gv5 h=>Bw [5] 1 (OR 6 (oj [10] h))) (hc:=(.inr (fun v=>by simp [BB,BL,AO,B9,ns3,KC,E0,Bt,Xt])))))
  exact KB.o false (BC 3 (KB.c 0 h (Li _) (fun v6 gv6 h=>BC 4 (KB.c 0 h (gs (ca rfl (ca (co (cs (jH _))) rfl)) (FQ _ _)) (fun v7 gv7 h=>Bw [5] 1 (OR 6 (oj [10] h))) (hc:=(.inr (fun v=>by simp [BB,BL,AO,B9,ns3,KC,E0,Bt,Xt])))))))
 refine Fk h [2,4,5] [.box 2,.box 5] (fun a=>(XT xS j1 a)) (fun a h=>?_) (fun j2 h=>?_)
 ·refine Eu [9] mixed (fun c E h=>by rcases h with⟨h|h,_⟩<;>cases h) (Bw [1,2,4,5,6] 0 (DU 0 8 ?_ ?_))
  ·refine sV (DU 3 8 ?_ ?_)
   ·exact bd h fun q1 gq1 h=>iQ (DN DX (fun _=>rfl) [] gq1) (Bw [7,8,9] 0 (Bv (jn h)))
   exact KB.o false (BC 3 (bd h fun q2 gq2 h=>iQ (DN DX (fun _=>rfl) [] gq2) (Bw [7,9] 0 (Bv (jn h)))))
  exact KB.o false (BC 0 (sV (BC 3 (bd h fun q3 gq3 h=>iQ (DN DX (fun _=>rfl) [] gq3) (Bw [7,9] 0 (Bv (jn h)))))))
 refine Wp.seq (ws (gn 1 0 (BP h [2,4,5,6] [.box 2,.box 5] (fun s=>(XS xS j1 s.1 s.2)) [2,5] [.box 2,.box 5] (fun s=>(XR xS j1 s)) EG ?_ ?_)))
 ·rintro⟨d,b⟩ o (h:HX j1 d b=some o);refine Wp.seq (ws (Ai 3 0 (RW.q (Di DX b) (gn 1 0 (wc h (fun h=>?_) (fun h=>?_))))))
  ·exact Wp.skip (Wp.seq (Wp.block (Sp 9 mixed (Dl 5 (bd h fun x1 gx1 h=>SW.q (Jo k3 gx1) (SW.q (CH k3 gx1 0) (bd h fun x2 gx2 h=>SW.q (Jo DX gx2) (SW.q (DA DX gx2 0 1) (SW.nil (CV (Ny DX gx2 1 0 (Vol.mk x2.Id x1)) (RW.nil (As (gn 3 0 (jl h))))))))))))))
  exact Wp.exit (jv h)
 intro v8 h E hE;exact AX hE (ws (gn 2 0 (Wp.ret (rr h▸rq))))
def pY (xA:Arena) (b:Int) (a:Int) (xN:Int) (v1:Arena) (z1:Bool):St:=AA [(1,(I b)),(2,(I a)),(3,(I xN)),(4,(pb 4)),(8,(pb 8)),(10,(pb 10)),(33,(B z1))] [(.box 4,[BJ xA.Knots]),(.box 8,[Bt []]),(.box 10,[Bt v1.Knots])]
def pX (a:Int) (xN:Int) (v1:Arena) (z2:List Int) (z3:List Int):St:=AA [(2,(I a)),(3,(I xN)),(8,(pb 8)),(10,(pb 10)),(11,(pb 11)),(12,(pb 12))] [(.box 8,[Bt []]),(.box 10,[Bt v1.Knots]),(.box 11,[tb true,E0 z2]),(.box 12,[tb false,E0 z3])]
theorem ZL (xA:Arena) (d:Int) (b:Int) (xN:Int) (r:Arena×Int) (h:UP xA d b xN=some r):AU Tryz.prog 92 [.sv (.agg (Xt false xA)),.sv (I d),.sv (I b),.sv (I xN)] (.tup [(.agg (Xt false r.1)),(I r.2)]) (rg 4):=by
 refine gk Tryz.func92 rfl Tryz.ntmps92 (ws (gw 3 0 (Ai 1 0 (RW.c 0 h (Pg _) (fun v1 gv1 h=>gn 2 0 (Wp.seq (Fk h [1,2,3,4,8,10,33] [.box 4,.box 8,.box 10] (fun a=>(pY xA d b xN v1 a)) (fun a h=>?_) (fun j1 h=>?_))))))))
 ·refine As (Ai 1 0 (RW.c 0 h (M3 _) (fun v2 gv2 h=>Ai 2 0 (AJ 19 h (fun h=>?_) (fun h=>?_)))))
  ·exact gn 14 0 (jn h)
  refine Ai 2 0 (RW.c 0 h (K0 _ _) (fun v3 gv3 h=>Ai 3 0 (AJ 25 h (fun h=>?_) (fun h=>?_))))
  ·exact gn 8 0 (jn h)
  refine Ai 1 0 (RW.c 0 h (BM _ _ _) (fun v4 gv4 h=>Ai 3 0 (AJ 30 h (fun h=>?_) (fun h=>?_))))
  ·exact gn 3 0 (jn h)
  exact gn 3 0 (jn h)
 refine wc h (fun h=>?_) (fun h=>?_)
 ·exact ws (gn 4 0 (Wp.fz (.box 8) 0 (Dg v1.Knots) (Wp.ret (rr h▸rq))))
 refine Wp.skip (ws (bd h fun q1 gq1 h=>CV (fmk k3 0 gq1) (gw 3 0 (gn 4 0 (Wp.seq (ws (gn 2 0 (FB h [2,3,8,10,11,12] [.box 8,.box 10,.box 11,.box 12] (fun a=>(pX b xN v1 a.1 a.2)) ?_ ?_))))))))
 ·intro a h;refine wc h (fun h=>?_) (fun h=>?_)
  ·refine ws (Ai 4 0 (CU (CG false) h (fun x1 gx1 h=>RW.q (DA (CG false) gx1 0 1) (RW.q (CH (CG false) gx1 1) (bd h fun q2 gq2 h=>CV (DN k3 (fun _=>rfl) [] gq2) (gw 2 0 (Ai 4 0 (CU k3 h (fun x2 gx2 h=>RW.q (CH k3 gx2 0) (gw 1 0 (gn 2 0 (wc h (fun h=>?_) (fun h=>?_)))))))))))))
   ·exact As (Ai 4 0 (CU (CG false) h (fun x3 gx3 h=>RW.q (DA (CG false) gx3 0 1) (RW.q (CH (CG false) gx3 1) (bd h fun q3 gq3 h=>CV (DN k3 (fun _=>rfl) [] gq3) (gn 2 0 (jn h)))))))
   exact Wp.skip (jn h)
  exact Wp.skip (jn h)
 intro j2 h E hE;refine AX hE (ws (Ai 5 0 (CU k3 h (fun x4 gx4 h=>CV (Ny k3 gx4 0 1 xN) (RW.nil (ws (Ai 6 0 (RW.q (Di (CG true) v1.Knots) (CU k3 h (fun x5 gx5 h=>CV (Ny k3 gx5 0 1 (ln v1.Knots)) (RW.nil (ws (Ai 5 0 (bd h fun q4 gq4 h=>CV (r8 (CG true) v1.Knots [(BR.mk true (si j2.1 (Int.tmod b 4) xN)),(BR.mk false (si j2.2 (qu b 4) (ln v1.Knots)))] gq4) (RW.fz (.slot 87) 0 (Dg q4) (gn 2 0 (Wp.seq (Eu [5] mixed (fun c E h=>by rcases h with⟨h|h,_⟩<;>cases h) (Bw [0] 0 (DU 1 5 ?_ ?_))))))))))))))))))))
 ·refine KB.o false (DU 2 5 ?_ ?_)
  ·refine KB.o false (DU 3 5 ?_ ?_)
   ·refine KB.q (Di (CG false) q4) (DU 4 5 ?_ ?_)
    ·exact KB.o false (Bw [5,6] 0 (Bv (Wp.ret (rr h▸rq))))
    exact KB.o false (Bw [4,6] 0 (Bv (Wp.ret (rr h▸rq))))
   exact KB.o false (BC 3 (KB.q (Di (CG false) q4) (Bw [4,6] 0 (Bv (Wp.ret (rr h▸rq))))))
  exact KB.o false (Bw [2] 0 (BC 3 (KB.q (Di (CG false) q4) (Bw [4,6] 0 (Bv (Wp.ret (rr h▸rq)))))))
 exact KB.o false (Bw [1,2] 0 (BC 3 (KB.q (Di (CG false) q4) (Bw [4,6] 0 (Bv (Wp.ret (rr h▸rq)))))))
def qE (xS:Store) (xR:CD) (z1:Bool):St:=AA [(2,(pb 2)),(3,(pb 3)),(4,(pb 4)),(18,(B z1))] [(.box 2,[DB xS.Vols,BJ xS.Arena.Knots,i6 xS.Next]),(.box 3,[i6 xR.Kind,i6 xR.Vol,i6 xR.Arg,i6 xR.Chunk]),(.box 4,[CZ [],Bt [],i6 0])]
def qD (z2:Int):St:=AA [(4,(pb 4)),(6,(I z2))] [(.box 4,[CZ [],Bt [],i6 0])]
def qC (xS:Store) (xR:CD) (v5:Int) (z3:Bool):St:=AA [(2,(pb 2)),(3,(pb 3)),(4,(pb 4)),(7,(I v5)),(48,(B z3))] [(.box 2,[DB xS.Vols,BJ xS.Arena.Knots,i6 xS.Next]),(.box 3,[i6 xR.Kind,i6 xR.Vol,i6 xR.Arg,i6 xR.Chunk]),(.box 4,[CZ [],Bt [],i6 0])]
def qB (xR:CD) (v5:Int) (v7:Store) (z4:Int) (z5:List BR):St:=AA [(3,(pb 3)),(4,(pb 4)),(7,(I v5)),(8,(pb 8)),(9,(pb 9)),(10,(I z4))] [(.box 3,[i6 xR.Kind,i6 xR.Vol,i6 xR.Arg,i6 xR.Chunk]),(.box 4,[CZ [],Bt [],i6 0]),(.box 8,[CZ v7.Vols,Bt v7.Arena.Knots,i6 v7.Next]),(.box 9,[BJ z5])]
theorem ZN (xS:Store) (xR:CD) (r:Store×Bool) (h:UQ xS xR=some r):AU Tryz.prog 58 [.sv (.agg (Rg false xS)),.sv (.agg (c99 xR))] (.tup [(.agg (Rg true r.1)),(B r.2)]) (rg 2):=by
 refine gk Tryz.func58 rfl Tryz.ntmps58 (ws (gn 4 0 (Wp.seq (Fk h [2,3,4,18] [.box 2,.box 3,.box 4] (fun a=>(qE xS xR a)) (fun a h=>?_) (fun j1 h=>?_)))))
 ·refine As (Ai 1 0 (RW.c 0 h (T3 _) (fun v1 gv1 h=>Ai 2 0 (AJ 14 h (fun h=>?_) (fun h=>?_)))))
  ·exact gn 4 0 (jn h)
  exact Ai 1 0 (RW.c 0 h (SG _) (fun v2 gv2 h=>gn 2 0 (jn h)))
 refine wc h (fun h=>?_) (fun h=>?_)
 ·exact ws (Ai 1 0 (RW.c 0 h (Fy _) (fun v3 gv3 h=>gn 2 0 (Wp.ret (rr h▸rq)))))
 refine Wp.skip (Wp.seq (ws (gn 2 0 (Wp.block (ws (gn 2 0 (wc h (fun h=>?_) (fun h=>?_))))))))
 ·refine ws (gn 3 0 (Wp.seq (ws (gn 2 0 (FB h [4,6] [.box 4] (fun a=>(qD a)) ?_ ?_)))))
  ·intro a h;refine wc h (fun h=>?_) (fun h=>?_)
   ·exact As (gn 1 0 (jn h))
   exact Wp.skip (jn h)
  intro j2 h E hE;exact AX hE (ws (gn 4 0 (Wp.ret (rr h▸rq))))
 refine ws (gn 2 0 (wc h (fun h=>?_) (fun h=>?_)))
 ·exact ws (Ai 2 0 (RW.c 0 h (pC _ _) (fun v4 gv4 h=>gn 4 0 (Wp.ret (rr h▸rq)))))
 refine Wp.skip (ws (Ai 3 0 (RW.c 0 h (JI _ _) (fun v5 gv5 h=>gn 1 0 (Wp.seq (Fk h [2,3,4,7,48] [.box 2,.box 3,.box 4] (fun a=>(qC xS xR v5 a)) (fun a h=>?_) (fun j3 h=>?_)))))))
 ·refine As (Ai 3 0 (AJ 44 h (fun h=>?_) (fun h=>?_)))
  ·exact gn 4 0 (jn h)
  exact gn 4 0 (jn h)
 refine wc h (fun h=>?_) (fun h=>?_)
 ·exact ws (Ai 1 0 (RW.c 0 h (Fy _) (fun v6 gv6 h=>gn 2 0 (Wp.ret (rr h▸rq)))))
 refine Wp.skip (ws (Ai 1 0 (RW.c 0 h (Fy _) (fun v7 gv7 h=>gn 2 0 (Wp.seq (ws (gn 3 0 (wc h (fun h=>?_) (fun h=>?_)))))))))
 ·exact Wp.seq (Eu [11,13] mixed (fun c E h=>by rcases h with⟨h|h,_⟩<;>cases h) (Bw [1,2,3] 0 (bd h fun x1 gx1 h=>KW.q 4 (pdr DX 39 gx1) (Bw [6,7,8,9] 0 (bd h fun x2 gx2 h=>KW.q 10 (AEm DX 39 gx2) (BC 0 (sV (BC 5 (bd h fun q1 gq1 h=>iQ (DN DX (fun _=>rfl) [] gq1) (BC 11 (bd h fun q2 gq2 h=>Ml (DN DX (fun _=>rfl) q1 gq2) (Bw [12,13] 0 (Bv (ws (Ai 1 0 (RW.c 0 h (gs (ca (iX (ca (cs (Fg _)) (ca (cs (Dg _)) rfl))) rfl) (NN _)) (fun v8 gv8 h=>gn 2 0 (Wp.ret (rr h▸rq))) (hc:=(.inr (fun v=>by simp [BB,BL,AO,B9,WH,KC,CZ,Bt,Rg])))))))))))))))))))
 refine Wp.skip (Fk h [3,4,7,8,9,10] [.box 3,.box 4,.box 8,.box 9] (fun a=>(qB xR v5 v7 a.1 a.2)) (fun a h=>?_) (fun j4 h=>?_))
 ·refine Eu [17] mixed (fun c E h=>by rcases h with⟨h|h,_⟩<;>cases h) (Bw [0,1,2,3,4] 0 (bd h fun x3 gx3 h=>KW.q 5 (Jo DX gx3) (KW.q 6 (DA DX gx3 0 1) (KW.q 7 (CH DX gx3 1) (Bw [8,9,10,11] 0 (DU 12 16 ?_ ?_))))))
  ·exact KB.c 0 h (ZL _ _ _ _) (fun v10 gv10 h=>oj [13] h)
  exact KB.o false (BC 12 (KB.c 0 h (ZL _ _ _ _) (fun v11 gv11 h=>Bw [13] 1 (OR 14 (oj [] h)))))
 refine ws (gw 3 0 (Ai 4 0 (CU DX h (fun x4 gx4 h=>RW.q (DA DX gx4 0 1) (CV (Ny DX gx4 1 0 (Vol.mk x4.Id j4.1)) (RW.nil (Wp.seq (ws (gn 5 0 (wc h (fun h=>?_) (fun h=>?_)))))))))))
 ·exact As (gw 5 0 (Ai 1 0 (RW.c 0 h (gs (ca (iX (ca (cs (Fg _)) rfl)) rfl) (NN _)) (fun v12 gv12 h=>gn 2 0 (Wp.ret (rr h▸rq))) (hc:=(.inr (fun v=>by simp [BB,BL,AO,B9,WH,KC,CZ,Bt,Rg]))))))
 exact Wp.skip (ws (Ai 1 0 (RW.c 0 h (gs (ca (iX (ca (cs (Fg _)) rfl)) rfl) (NN _)) (fun v13 gv13 h=>gn 2 0 (Wp.ret (rr h▸rq))) (hc:=(.inr (fun v=>by simp [BB,BL,AO,B9,WH,KC,CZ,Bt,Rg]))))))
def YI (xS:Store) (a:List CD) (z1:Int) (z2:List Vol) (z3:List BR) (z4:Int):St:=AA [(1,(.one (UE a))),(2,(pb 2)),(4,(pb 4)),(6,(pb 6)),(7,(I z1))] [(.box 2,[DB xS.Vols,BJ xS.Arena.Knots,i6 xS.Next]),(.box 4,[CZ [],Bt [],i6 0]),(.box 6,[CZ z2,Bt z3,i6 z4])]
def YH (z5:List Vol) (z6:List BR) (z7:Int):St:=AA [(4,(pb 4)),(6,(pb 6))] [(.box 4,[CZ [],Bt [],i6 0]),(.box 6,[CZ z5,Bt z6,i6 z7])]
def YG (xS:Store) (d:List CD) (e:Int) (a:List Vol) (b:List BR) (c:Int) (z8:Bool) (z9:List Vol) (z10:List BR) (z11:Int):St:=AA [(1,(.one (UE d))),(2,(pb 2)),(4,(pb 4)),(6,(pb 6)),(7,(I e)),(8,(pb 8)),(9,(B z8))] [(.box 2,[DB xS.Vols,BJ xS.Arena.Knots,i6 xS.Next]),(.box 4,[CZ [],Bt [],i6 0]),(.box 6,[CZ a,Bt b,i6 c]),(.box 8,[CZ z9,Bt z10,i6 z11])]
theorem R5 (xS:Store) (b:List CD) (r:Store×Bool) (h:JP xS b=some r):AU Tryz.prog 27 [.sv (.agg (Rg false xS)),.sv (.one (UE b))] (.tup [(.agg (Rg true r.1)),(B r.2)]) (rg 2):=by
 refine gk Tryz.func27 rfl Tryz.ntmps27 (ws (gw 3 0 (Ai 1 0 (RW.c 0 h (Fy _) (fun v1 gv1 h=>gn 2 0 (Wp.seq (ws (gn 1 0 (E5 h [1,2,4,6,7] [.box 2,.box 4,.box 6] (fun s=>(YI xS b s.1 s.2.1 s.2.2.1 s.2.2.2)) [4,6] [.box 4,.box 6] (fun s=>(YH s.1 s.2.1 s.2.2)) EG ?_ ?_)))))))))
 ·rintro⟨g,d,e,f⟩ o (h:GG xS b g d e f=some o) hk1;refine Wp.seq (ws (Ai 2 0 (RW.q (Di Qs b) (gn 1 0 (wc h (fun h=>?_) (fun h=>?_))))))
  ·refine Wp.skip (Wp.seq (Wp.block (Fk h [1,2,4,6,7,8,9] [.box 2,.box 4,.box 6,.box 8] (fun a=>(YG xS b g d e f a.1 a.2.1 a.2.2.1 a.2.2.2)) (fun a h=>?_) (fun j1 h=>?_))))
   ·refine Eu [10] mixed (fun c E h=>by rcases h with⟨h|h,_⟩<;>cases h) (Bw [0,1,2] 0 (bd h fun x1 gx1 h=>KW.q 3 (Jo Qs gx1) (KW.q 4 (Qz Qs gx1 0 4) (DU 5 9 ?_ ?_))))
    ·exact KB.c 0 h (gs (ca (iX (ca (cs (Fg _)) (ca (cs (Dg _)) rfl))) rfl) (ZN _ _)) (fun v3 gv3 h=>oj [6] h) (hc:=(.inr (fun v=>by simp [BB,BL,AO,B9,WH,KC,CZ,Bt,Rg])))
    exact KB.o false (BC 5 (KB.c 0 h (gs (ca (iX (ca (cs (Fg _)) (ca (cs (Dg _)) rfl))) rfl) (ZN _ _)) (fun v4 gv4 h=>Bw [6] 1 (OR 7 (oj [] h))) (hc:=(.inr (fun v=>by simp [BB,BL,AO,B9,WH,KC,CZ,Bt,Rg])))))
   refine Wp.seq (ws (gn 2 0 (wc h (fun h=>?_) (fun h=>?_))))
   ·exact ws (Ai 1 0 (RW.c 0 h (Fy _) (fun v5 gv5 h=>gn 2 0 (Wp.ret (rr (jo h hk1)▸rq)))))
   exact Wp.skip (As (gn 2 0 (As (gn 3 0 (jl h)))))
  exact Wp.exit (jx h)
 intro v6 h E hE;exact AX hE (ws (gn 3 0 (Wp.ret (rr h▸rq))))
def Sx (o:Bool) (x:AF):List TV:=[.sl o 77 3 (AM (xW o) x.Flash.Blocks),.sl o 39 2 (AM c39 x.Store.Vols),.sl o 150 2 (AM (Xv o) x.Store.Arena.Knots),i6 x.Store.Next,i6 x.Seq,i6 x.Tx,i6 x.Base]
def YC (v2:List Ap) (v3:Flash) (v4:Store) (z1:Int) (z2:Int) (z3:Int):St:=AA [(2,(pb 2)),(4,(.one (G5 v2))),(5,(pb 5)),(6,(I z1))] [(.box 2,[CR [],CZ [],Bt [],i6 0,i6 0,i6 0,i6 0]),(.box 5,[CR v3.Blocks,CZ v4.Vols,Bt v4.Arena.Knots,i6 v4.Next,i6 z2,i6 z3,i6 0])]
def YB (v2:List Ap) (v3:Flash) (v4:Store) (z4:Int) (z5:Int):St:=AA [(2,(pb 2)),(4,(.one (G5 v2))),(5,(pb 5))] [(.box 2,[CR [],CZ [],Bt [],i6 0,i6 0,i6 0,i6 0]),(.box 5,[CR v3.Blocks,CZ v4.Vols,Bt v4.Arena.Knots,i6 v4.Next,i6 z4,i6 z5,i6 0])]
def YA (v2:List Ap) (v3:Flash) (v4:Store) (b:Int) (a:Int) (z6:Int):St:=AA [(2,(pb 2)),(4,(.one (G5 v2))),(5,(pb 5)),(6,(I b))] [(.box 2,[CR [],CZ [],Bt [],i6 0,i6 0,i6 0,i6 0]),(.box 5,[CR v3.Blocks,CZ v4.Vols,Bt v4.Arena.Knots,i6 v4.Next,i6 z6,i6 a,i6 0])]
def Y9 (v2:List Ap) (v3:Flash) (v4:Store) (b:Int) (a:Int) (j1:Int) (z7:Bool):St:=AA [(2,(pb 2)),(4,(.one (G5 v2))),(5,(pb 5)),(6,(I b)),(59,(B z7))] [(.box 2,[CR [],CZ [],Bt [],i6 0,i6 0,i6 0,i6 0]),(.box 5,[CR v3.Blocks,CZ v4.Vols,Bt v4.Arena.Knots,i6 v4.Next,i6 j1,i6 a,i6 0])]
def Y8 (v3:Flash) (v5:Int×Int) (v7:List Tx) (z8:Int) (z9:List Vol) (z10:List BR) (z11:Int) (z12:Int):St:=AA [(2,(pb 2)),(5,(pb 5)),(7,(.one (aA v7))),(8,(I z8))] [(.box 2,[CR [],CZ [],Bt [],i6 0,i6 0,i6 0,i6 0]),(.box 5,[CR v3.Blocks,CZ z9,Bt z10,i6 z11,i6 v5.1,i6 v5.2,i6 z12])]
def Y7 (v3:Flash) (v5:Int×Int) (z13:List Vol) (z14:List BR) (z15:Int) (z16:Int):St:=AA [(2,(pb 2)),(5,(pb 5))] [(.box 2,[CR [],CZ [],Bt [],i6 0,i6 0,i6 0,i6 0]),(.box 5,[CR v3.Blocks,CZ z13,Bt z14,i6 z15,i6 v5.1,i6 v5.2,i6 z16])]
def Y6 (v3:Flash) (v5:Int×Int) (v7:List Tx) (d:Int) (a:List Vol) (b:List BR) (c:Int) (z17:Int):St:=AA [(2,(pb 2)),(5,(pb 5)),(7,(.one (aA v7))),(8,(I d))] [(.box 2,[CR [],CZ [],Bt [],i6 0,i6 0,i6 0,i6 0]),(.box 5,[CR v3.Blocks,CZ a,Bt b,i6 c,i6 v5.1,i6 v5.2,i6 z17])]
theorem NS (xF:Flash) (r:AF×Bool) (h:EM xF=some r):AU Tryz.prog 94 [.sv (.agg (TR false xF))] (.tup [(.agg (Sx true r.1)),(B r.2)]) (rg 1):=by
 refine gk Tryz.func94 rfl Tryz.ntmps94 (ws (gn 3 0 (Wp.seq (ws (Ai 1 0 (RW.c 0 h (M1 _) (fun v1 gv1 h=>gn 1 0 (wc h (fun h=>?_) (fun h=>?_)))))))))
 ·exact ws (gn 3 0 (Wp.ret (rr h▸rq)))
 refine Wp.skip (ws (Ai 1 0 (RW.c 0 h (Hq _) (fun v2 gv2 h=>gw 1 1 (Ai 1 0 (RW.c 0 h (I6 _) (fun v3 gv3 h=>RW.c 0 h (dG) (fun v4 gv4 h=>gn 3 0 (Wp.seq (ws (gn 1 0 (BP h [2,4,5,6] [.box 2,.box 5] (fun s=>(YC v2 v3 v4 s.1 s.2.1 s.2.2)) [2,4,5] [.box 2,.box 5] (fun s=>(YB v2 v3 v4 s.1 s.2)) EG ?_ ?_))))))))))))
 ·rintro⟨g,i,b⟩ o (h:GF v2 g i b=some o);refine Wp.seq (ws (Ai 2 0 (RW.q (Di EA v2) (gn 1 0 (wc h (fun h=>?_) (fun h=>?_))))))
  ·refine Wp.skip (Wp.seq (Wp.block (Wp.seq (Wp.seq (KH mixed (Dl 2 (bd h fun x1 gx1 h=>SW.q (Jo EA gx1) (SW.q (DA EA gx1 0 2) (SW.q (DA EA gx1 2 3) (SW.q (CH EA gx1 3) (Dl 3 (SW.nil (FB h [2,4,5,6] [.box 2,.box 5] (fun a=>(YA v2 v3 v4 g b a)) ?_ ?_)))))))))))))
   ·intro a h;refine wc h (fun h=>?_) (fun h=>?_)
    ·exact As (Ai 2 0 (CU EA h (fun x2 gx2 h=>RW.q (DA EA gx2 0 2) (RW.q (DA EA gx2 2 3) (RW.q (CH EA gx2 3) (gn 3 0 (jn h)))))))
    exact Wp.skip (jn h)
   intro j1 h E hE;refine AX hE (Fk h [2,4,5,6,59] [.box 2,.box 5] (fun a=>(Y9 v2 v3 v4 g b j1 a)) (fun a h=>?_) (fun j2 h=>?_))
   ·refine KH mixed (Dl 2 (bd h fun x3 gx3 h=>SW.q (Jo EA gx3) (SW.q (DA EA gx3 0 2) (SW.q (DA EA gx3 2 2) (SW.q (CH EA gx3 2) (Dl 2 (X4 49 h (fun h=>?_) (fun h=>?_))))))))
    ·exact Dl 2 (bd h fun x4 gx4 h=>SW.q (Jo EA gx4) (SW.q (DA EA gx4 0 2) (SW.q (DA EA gx4 2 4) (SW.q (CH EA gx4 4) (Dl 4 (SW.nil (jn h)))))))
    exact Dl 10 (SW.nil (jn h))
   refine wc h (fun h=>?_) (fun h=>?_)
   ·exact As (Ai 2 0 (CU EA h (fun x5 gx5 h=>RW.q (DA EA gx5 0 2) (RW.q (DA EA gx5 2 4) (RW.q (CH EA gx5 4) (gn 3 0 (As (gn 3 0 (jl h)))))))))
   exact Wp.skip (As (gn 3 0 (jl h)))
  exact Wp.exit (jv h)
 intro v5 h E hE;refine AX hE (ws (Ai 1 0 (RW.c 0 h (gs (ca (co (cs (V9 _))) rfl) (W2 _)) (fun v6 gv6 h=>RW.c 0 h (gs (ca (co (cs (ACo _))) rfl) (Yp _)) (fun v7 gv7 h=>RW.fz (.slot 70) 0 (ACo v7) (gn 1 0 (Wp.seq (ws (gn 1 0 (BP h [2,5,7,8] [.box 2,.box 5] (fun s=>(Y8 v3 v5 v7 s.1 s.2.1 s.2.2.1 s.2.2.2.1 s.2.2.2.2)) [2,5] [.box 2,.box 5] (fun s=>(Y7 v3 v5 s.1 s.2.1 s.2.2.1 s.2.2.2)) EG ?_ ?_)))))) (hc:=(.inr (fun v=>by simp [BB,BL,AO,B9,AAe,Q3])))) (hc:=(.inr (fun v=>by simp [BB,BL,AO,B9,AAe,Q3]))))))
 ·rintro⟨j,d,e,f,k⟩ o (h:GE v7 j d e f k=some o);refine Wp.seq (ws (Ai 2 0 (RW.q (Di (HU false) v7) (gn 1 0 (wc h (fun h=>?_) (fun h=>?_))))))
  ·refine Wp.skip (Wp.seq (Wp.block (Wp.seq (ws (gn 2 0 (FB h [2,5,7,8] [.box 2,.box 5] (fun a=>(Y6 v3 v5 v7 j d e f a)) ?_ ?_))))))
   ·intro a h;refine wc h (fun h=>?_) (fun h=>?_)
    ·exact As (Ai 2 0 (CU (HU false) h (fun x6 gx6 h=>RW.q (DA (HU false) gx6 0 0) (RW.q (CH (HU false) gx6 0) (gn 2 0 (jn h))))))
    exact Wp.skip (jn h)
   intro j3 h E hE;refine AX hE (Eu [12] mixed (fun c E h=>by rcases h with⟨h|h,_⟩<;>cases h) (Bw [0,1,2,3] 0 (bd h fun x7 gx7 h=>KW.q 4 (Jo (HU false) gx7) (KW.q 5 (DA (HU false) gx7 0 2) (KW.q 6 (CH (HU false) gx7 2) (BC 7 (KB.c 0 h (gs (ca (iX (ca (cs (Fg _)) (ca (cs (Dg _)) rfl))) rfl) (R5 _ _)) (fun v8 gv8 h=>Bw [8] 1 (OR 9 (Bw [11] 0 (DU 10 12 ?_ ?_)))) (hc:=(.inr (fun v=>by simp [BB,BL,AO,B9,WH,KC,CZ,Bt,Rg]))))))))))
   ·exact KB.o false (Bw [12] 0 (Bv (As (gn 3 0 (jl h)))))
   exact KB.o false (Bw [10] 0 (Bv (As (gn 3 0 (jl h)))))
  exact Wp.exit (jv h)
 intro v9 h E hE;exact AX hE (ws (gn 3 0 (Wp.ret (rr h▸rq))))
theorem YK (a:Int) (r:AF×Bool) (h:M2 a=some r):AU Tryz.prog 59 [.sv (I a)] (.tup [(.agg (Sx true r.1)),(B r.2)]) (rg 1):=by
 refine gk Tryz.func59 rfl Tryz.ntmps59 (ws (gw 2 0 (Ai 1 0 (RW.c 0 h (eO _) (fun v1 gv1 h=>gn 6 1 (Wp.seq (ws (gn 2 0 (wc h (fun h=>?_) (fun h=>?_))))))))))
 ·exact ws (gn 3 0 (Wp.ret (rr h▸rq)))
 exact Wp.skip (ws (Ai 1 0 (RW.c 0 h (gs (ca (iX (ca (cs (Ff _)) rfl)) rfl) (NS _)) (fun v2 gv2 h=>gn 4 0 (Wp.ret (rr h▸rq))) (hc:=(.inr (fun v=>by simp [BB,BL,AO,B9,WH,vT,KC,CZ,CR,Bt,Sx]))))))
set_option maxHeartbeats 4000000 in
theorem VX (xC:BD) (a:List Int) (r:Int×BD) (h:Ll xC a=some r):AU Tryz.prog 79 [.ext [Pz xC.b_,i6 xC.i_,i6 xC.h_],.sv (.one (OT a))] (I r.1) (.ext [Pz r.2.b_,i6 r.2.i_,i6 r.2.h_]::rg 1):=by
 exact gkx Tryz.func79 rfl Tryz.ntmps79 (ws (gw 1 0 (Ai 3 0 (RW.q (Di k3 a) (FK h (De _ _) (fun _=>rfl) (fun v1 gv1 h=>CU k3 h (fun x1 gx1 h=>RW.q (CH k3 gx1 0) (gn 1 0 (Wp.ret (rr h▸rx))))))))))
set_option maxHeartbeats 4000000 in
theorem T1 (xC:BD) (xN:Int) (r:Bool×BD) (h:I8 xC xN=some r):AU Tryz.prog 80 [.ext [Pz xC.b_,i6 xC.i_,i6 xC.h_],.sv (I xN)] (B r.1) (.ext [Pz r.2.b_,i6 r.2.i_,i6 r.2.h_]::rg 1):=by
 exact gkx Tryz.func80 rfl Tryz.ntmps80 (ws (gw 1 0 (Ai 2 0 (FK h (De _ _) (fun _=>rfl) (fun v1 gv1 h=>gn 2 0 (Wp.ret (rr h▸rx)))))))
def c9 (x:ByteArray):List TV:=[ts x]
theorem k9:∀x,(c9 x).length=1:=fun _=>rfl
theorem sh9:∀l,BH (AM c9 l)=AM c9 l:=D3 (fun _=>rfl)
def ot9 (l:List ByteArray):TV:= .sl true 9 1 (AM c9 l)
def of9 (l:List ByteArray):TV:= .sl false 9 1 (AM c9 l)
set_option maxHeartbeats 4000000 in
theorem kA (xC:BD) (a:List ByteArray) (r:ByteArray×BD) (h:Nc xC a=some r):AU Tryz.prog 115 [.ext [Pz xC.b_,i6 xC.i_,i6 xC.h_],.sv (.one (of9 a))] (Y r.1) (.ext [Pz r.2.b_,i6 r.2.i_,i6 r.2.h_]::rg 1):=by
 exact gkx Tryz.func115 rfl Tryz.ntmps115 (ws (gw 1 0 (Ai 3 0 (RW.q (Di k9 a) (FK h (De _ _) (fun _=>rfl) (fun v1 gv1 h=>CU k9 h (fun x1 gx1 h=>RW.q (CH k9 gx1 0) (gn 1 0 (Wp.ret (rr h▸rx))))))))))
set_option maxHeartbeats 4000000 in
theorem jL (xC:BD) (r:ByteArray×BD) (h:PJ xC=some r):AU Tryz.prog 81 [.ext [Pz xC.b_,i6 xC.i_,i6 xC.h_]] (Y r.1) (.ext [Pz r.2.b_,i6 r.2.i_,i6 r.2.h_]::rg 0):=by
 exact gkx Tryz.func81 rfl Tryz.ntmps81 (ws (gw 1 0 (Ai 2 0 (RW.fz (.slot 4) 0 (sh9 [(bs []),(bs [97]),(bs [98,98]),(bs [97,98,99,100,97,98,99,100,97,98,99,100]),(bs [104,101,108,108,111]),(bs [104,101,108,108,111,32,104,101,108,108,111,32,104,101,108,108,111]),(bs [122,122,122,122,122,122,122,122,122,122,122,122]),(bs [113,49]),(bs [113,50]),(bs [113,51])]) (FK h (kA _ _) (fun _=>rfl) (fun v1 gv1 h=>gn 1 0 (Wp.ret (rr h▸rx))))))))
def c44 (x:Mm):List TV:=[i6 x.Kind,i6 x.Vol,i6 x.Sector,i6 x.Of,ts x.Text]
def cD (xD:AF) (z1:Int) (z2:Int) (z3:List Int) (z4:Int) (z5:Int):St:=AA [(0,(px 0)),(3,(pb 3)),(4,(pb 4)),(5,(pb 5))] [(.box 3,[Da xD.Flash.Blocks,DB xD.Store.Vols,BJ xD.Store.Arena.Knots,i6 xD.Store.Next,i6 xD.Seq,i6 xD.Tx,i6 xD.Base]),(.box 4,[i6 0,i6 0,i6 0,i6 0,ts (bs [])]),(.box 5,[i6 z1,i6 z2,i6 0,i6 0,ts (bs [])]),(.ext 0,[Pz z3,i6 z4,i6 z5])]
def cC (xD:AF) (v1:Int×BD) (v2:Int×BD) (z6:Bool) (z7:List Int) (z8:Int) (z9:Int):St:=AA [(0,(px 0)),(3,(pb 3)),(4,(pb 4)),(5,(pb 5)),(31,(B z6))] [(.box 3,[Da xD.Flash.Blocks,DB xD.Store.Vols,BJ xD.Store.Arena.Knots,i6 xD.Store.Next,i6 xD.Seq,i6 xD.Tx,i6 xD.Base]),(.box 4,[i6 0,i6 0,i6 0,i6 0,ts (bs [])]),(.box 5,[i6 v1.1,i6 (ad 1 v2.1),i6 0,i6 0,ts (bs [])]),(.ext 0,[Pz z7,i6 z8,i6 z9])]
def cB (xD:AF) (j1:Int×Int×List Int×Int×Int) (z10:Bool) (z11:List Int) (z12:Int) (z13:Int):St:=AA [(0,(px 0)),(3,(pb 3)),(4,(pb 4)),(5,(pb 5)),(52,(B z10))] [(.box 3,[Da xD.Flash.Blocks,DB xD.Store.Vols,BJ xD.Store.Arena.Knots,i6 xD.Store.Next,i6 xD.Seq,i6 xD.Tx,i6 xD.Base]),(.box 4,[i6 0,i6 0,i6 0,i6 0,ts (bs [])]),(.box 5,[i6 j1.1,i6 j1.2.1,i6 0,i6 0,ts (bs [])]),(.ext 0,[Pz z11,i6 z12,i6 z13])]
def cA (xD:AF) (j1:Int×Int×List Int×Int×Int) (j3:Bool×List Int×Int×Int) (z14:Int):St:=AA [(0,(px 0)),(3,(pb 3)),(4,(pb 4)),(5,(pb 5))] [(.box 3,[Da xD.Flash.Blocks,DB xD.Store.Vols,BJ xD.Store.Arena.Knots,i6 xD.Store.Next,i6 xD.Seq,i6 xD.Tx,i6 xD.Base]),(.box 4,[i6 0,i6 0,i6 0,i6 0,ts (bs [])]),(.box 5,[i6 z14,i6 j1.2.1,i6 0,i6 0,ts (bs [])]),(.ext 0,[Pz j3.2.1,i6 j3.2.2.1,i6 j3.2.2.2])]
def b9 (j1:Int×Int×List Int×Int×Int) (j4:Int) (z15:Int) (z16:Int) (z17:ByteArray) (z18:List Int) (z19:Int) (z20:Int):St:=AA [(4,(pb 4)),(5,(pb 5))] [(.box 4,[i6 0,i6 0,i6 0,i6 0,ts (bs [])]),(.box 5,[i6 j4,i6 j1.2.1,i6 z15,i6 z16,ts z17]),(.ext 0,[Pz z18,i6 z19,i6 z20])]
def bZ (xD:AF) (j1:Int×Int×List Int×Int×Int) (j3:Bool×List Int×Int×Int) (j4:Int) (z21:Bool):St:=AA [(0,(px 0)),(3,(pb 3)),(4,(pb 4)),(5,(pb 5)),(55,(I j4)),(64,(B z21))] [(.box 3,[Da xD.Flash.Blocks,DB xD.Store.Vols,BJ xD.Store.Arena.Knots,i6 xD.Store.Next,i6 xD.Seq,i6 xD.Tx,i6 xD.Base]),(.box 4,[i6 0,i6 0,i6 0,i6 0,ts (bs [])]),(.box 5,[i6 j4,i6 j1.2.1,i6 0,i6 0,ts (bs [])]),(.ext 0,[Pz j3.2.1,i6 j3.2.2.1,i6 j3.2.2.2])]
set_option maxHeartbeats 4000000 in
theorem Pf (xC:BD) (xD:AF) (r:Mm×BD) (h:Na xC xD=some r):AU Tryz.prog 50 [.ext [Pz xC.b_,i6 xC.i_,i6 xC.h_],.sv (.agg (Sx false xD))] (.agg (c44 r.1)) (.ext [Pz r.2.b_,i6 r.2.i_,i6 r.2.h_]::rg 1):=by
 refine gkx Tryz.func50 rfl Tryz.ntmps50 (ws (gw 2 0 (Ai 2 0 (RW.fz (.slot 7) 0 (jH [1,1,1,1,1,1,2,3,4,5,6]) (FK h (VX _ _) (fun _=>rfl) (fun v1 gv1 h=>Ai 1 0 (FK h (De _ _) (fun _=>rfl) (fun v2 gv2 h=>gn 4 0 (Wp.seq (ws (Ai 3 0 (RW.q (Di DX xD.Store.Vols) (gn 1 0 (FB h [0,3,4,5] [.box 3,.box 4,.box 5,.ext 0] (fun a=>(cD xD a.1 a.2.1 a.2.2.1 a.2.2.2.1 a.2.2.2.2)) ?_ ?_))))))))))))))
 ·intro a h;refine wc h (fun h=>?_) (fun h=>?_)
  ·exact As (gn 2 0 (jn h))
  refine Fk h [0,3,4,5,31] [.box 3,.box 4,.box 5,.ext 0] (fun a=>(cC xD v1 v2 a.1 a.2.1 a.2.2.1 a.2.2.2)) (fun a h=>?_) (fun j2 h=>?_)
  ·refine As (Ai 4 0 (AJ 22 h (fun h=>?_) (fun h=>?_)))
   ·refine Ai 5 0 (AJ 27 h (fun h=>?_) (fun h=>?_))
    ·exact Ai 1 0 (FK h (T1 _ _) (fun _=>rfl) (fun v3 gv3 h=>gn 2 0 (jn h)))
    exact gn 4 0 (jn h)
   exact gn 9 0 (jn h)
  refine wc h (fun h=>?_) (fun h=>?_)
  ·refine Eu [8,13] mixed (fun c E h=>by rcases h with⟨h|h,_⟩<;>cases h) (Bw [3,4,5,6] 0 (KW.q 7 (Di DX xD.Store.Vols) (DU 0 8 ?_ ?_)))
   ·refine KB.o false (DU 1 8 ?_ ?_)
    ·refine KB.o false (DU 2 8 ?_ ?_)
     ·exact KB.o false (BC 8 (bH h (De _ _) (fun _=>rfl) (fun v7 gv7 h=>BC 9 (bd h fun x1 gx1 h=>KB.q (Jo DX gx1) (BC 10 (KB.q (DA DX gx1 0 0) (BC 11 (KB.q (CH DX gx1 0) (Bw [12,13] 0 (Bv (jn h)))))))))))
     exact bH h (De _ _) (fun _=>rfl) (fun v8 gv8 h=>Bw [2] 0 (BC 9 (bd h fun x2 gx2 h=>KB.q (Jo DX gx2) (BC 10 (KB.q (DA DX gx2 0 0) (BC 11 (KB.q (CH DX gx2 0) (Bw [12,13] 0 (Bv (jn h))))))))))
    exact bH h (De _ _) (fun _=>rfl) (fun v9 gv9 h=>Bw [1,2] 0 (BC 9 (bd h fun x3 gx3 h=>KB.q (Jo DX gx3) (BC 10 (KB.q (DA DX gx3 0 0) (BC 11 (KB.q (CH DX gx3 0) (Bw [12,13] 0 (Bv (jn h))))))))))
   exact bH h (De _ _) (fun _=>rfl) (fun v10 gv10 h=>Bw [0,1,2] 0 (BC 9 (bd h fun x4 gx4 h=>KB.q (Jo DX gx4) (BC 10 (KB.q (DA DX gx4 0 0) (BC 11 (KB.q (CH DX gx4 0) (Bw [12,13] 0 (Bv (jn h))))))))))
  exact Wp.skip (jn h)
 intro j1 h E hE;refine AX hE (Wp.seq (Fk h [0,3,4,5,52] [.box 3,.box 4,.box 5,.ext 0] (fun a=>(cB xD j1 a.1 a.2.1 a.2.2.1 a.2.2.2)) (fun a h=>?_) (fun j3 h=>?_)))
 ·refine As (Ai 4 0 (AJ 48 h (fun h=>?_) (fun h=>?_)))
  ·exact Ai 1 0 (FK h (T1 _ _) (fun _=>rfl) (fun v11 gv11 h=>gn 2 0 (jn h)))
  exact gn 4 0 (jn h)
 refine FB h [0,3,4,5] [.box 3,.box 4,.box 5,.ext 0] (fun a=>(cA xD j1 j3 a)) ?_ ?_
 ·intro a h;refine wc h (fun h=>?_) (fun h=>?_)
  ·exact As (gn 2 0 (jn h))
  exact Wp.skip (jn h)
 intro j4 h E hE;refine AX hE (Wp.seq (ws (gn 2 0 (Wp.block (ws (gn 2 0 (FB h [4,5] [.box 4,.box 5,.ext 0] (fun a=>(b9 j1 j4 a.1 a.2.1 a.2.2.1 a.2.2.2.1 a.2.2.2.2.1 a.2.2.2.2.2)) ?_ ?_)))))))
 ·intro a h;refine wc h (fun h=>?_) (fun h=>?_)
  ·exact ws (Ai 1 0 (FK h (jL _) (fun _=>rfl) (fun v12 gv12 h=>gn 2 0 (As (Ai 1 0 (FK h (De _ _) (fun _=>rfl) (fun v13 gv13 h=>gn 2 0 (jn h))))))))
  refine Wp.seq (ws (gn 2 0 (FB h [0,3,4,5,55,64] [.box 3,.box 4,.box 5,.ext 0] (fun a=>(bZ xD j1 j3 j4 a)) ?_ ?_)))
  ·intro a h;refine wc h (fun h=>?_) (fun h=>?_)
   ·exact Wp.skip (jn h)
   exact As (gn 2 0 (jn h))
  intro j6 h E hE;refine AX hE (wc h (fun h=>?_) (fun h=>?_))
  ·exact As (Ai 1 0 (FK h (De _ _) (fun _=>rfl) (fun v14 gv14 h=>gn 2 0 (jn h))))
  refine ws (gn 2 0 (wc h (fun h=>?_) (fun h=>?_)))
  ·refine ws (Ai 1 0 (FK h (De _ _) (fun _=>rfl) (fun v15 gv15 h=>gw 3 0 (Ai 3 0 (RW.q (Di DX xD.Store.Vols) (gn 1 0 (wc h (fun h=>?_) (fun h=>?_))))))))
   ·exact As (Ai 3 0 (CU DX h (fun x5 gx5 h=>RW.q (DA DX gx5 0 0) (RW.q (CH DX gx5 0) (gn 2 0 (jn h))))))
   exact Wp.skip (jn h)
  exact Wp.skip (jn h)
 intro j5 h E hE;exact AX hE (ws (gn 2 0 (Wp.ret (rr h▸rx))))
theorem Tt (xD:AF) (r:AF) (h:Nb xD=some r):AU Tryz.prog 95 [.sv (.agg (Sx false xD))] (.agg (Sx true r)) (rg 1):=by
 exact gk Tryz.func95 rfl Tryz.ntmps95 (ws (gw 2 0 (Ai 2 0 (RW.c 0 h (I6 _) (fun v1 gv1 h=>gw 2 0 (Ai 2 0 (RW.c 0 h (Fy _) (fun v2 gv2 h=>gw 2 0 (gn 2 0 (Wp.ret (rr h▸rq)))))))))))
def qA (xA:Arena) (b:Int) (a:Int) (z1:Bool):St:=AA [(1,(I b)),(2,(I a)),(3,(pb 3)),(20,(B z1))] [(.box 3,[BJ xA.Knots])]
theorem ZM (xA:Arena) (d:Int) (b:Int) (r:Int) (h:NU xA d b=some r):AU Tryz.prog 33 [.sv (.agg (Xt false xA)),.sv (I d),.sv (I b)] (I r) (rg 3):=by
 refine gk Tryz.func33 rfl Tryz.ntmps33 (ws (gn 2 0 (Wp.seq (Fk h [1,2,3,20] [.box 3] (fun a=>(qA xA d b a)) (fun a h=>?_) (fun j1 h=>?_)))))
 ·refine As (Ai 1 0 (RW.c 0 h (M3 _) (fun v1 gv1 h=>Ai 2 0 (AJ 10 h (fun h=>?_) (fun h=>?_)))))
  ·exact gn 10 0 (jn h)
  refine Ai 2 0 (RW.c 0 h (K0 _ _) (fun v2 gv2 h=>Ai 3 0 (AJ 16 h (fun h=>?_) (fun h=>?_))))
  ·exact gn 4 0 (jn h)
  exact Ai 1 0 (RW.c 0 h (BM _ _ _) (fun v3 gv3 h=>gn 2 0 (jn h)))
 refine wc h (fun h=>?_) (fun h=>?_)
 ·exact ws (gn 1 0 (Wp.ret (rr h▸rq)))
 exact Wp.skip (ws (Ai 3 0 (RW.c 0 h (VT _ _ _) (fun v4 gv4 h=>gn 1 0 (Wp.ret (rr h▸rq))))))
def qJ (xA:Arena) (a:Int) (z1:List Int) (z2:Int):St:=AA [(1,(I a)),(2,(pb 2)),(5,(.one (E0 z1))),(6,(I z2))] [(.box 2,[BJ xA.Knots])]
def qI (z3:List Int):St:=AA [(5,(.one (E0 z3)))] []
theorem PS (xA:Arena) (a:Int) (r:List Int) (h:Ip xA a=some r):AU Tryz.prog 42 [.sv (.agg (Xt false xA)),.sv (I a)] (.one (E0 r)) (rg 2):=by
 refine gk Tryz.func42 rfl Tryz.ntmps42 (ws (gw 2 0 (gn 2 2 (Wp.seq (ws (gn 1 0 (BP h [1,2,5,6] [.box 2] (fun s=>(qJ xA a s.1 s.2)) [5] [] (fun s=>(qI s)) EG ?_ ?_)))))))
 ·rintro⟨b,d⟩ o (h:Gs xA a b d=some o);refine Wp.seq (ws (gn 2 0 (wc h (fun h=>?_) (fun h=>?_))))
  ·exact Wp.skip (Wp.seq (Wp.block (As (Ai 4 0 (RW.c 0 h (ZM _ _ _) (fun v1 gv1 h=>Ai 1 0 (bd h fun q1 gq1 h=>CV (DN k3 (fun _=>rfl) b gq1) (gn 1 1 (As (gn 3 0 (jl h)))))))))))
  exact Wp.exit (jv h)
 intro v2 h E hE;exact AX hE (ws (gn 2 2 (Wp.ret (rr h▸rq))))
def S9 (xA:List Int) (xB:List Int) (z1:Int):St:=AA [(0,(.one (OT xA))),(1,(.one (OT xB))),(5,(I z1))] []
def S8:St:=AA [] []
theorem Uc (xA:List Int) (xB:List Int) (r:Bool) (h:Kp xA xB=some r):AU Tryz.prog 150 [.sv (.one (OT xA)),.sv (.one (OT xB))] (B r) (rg 2):=by
 refine gk Tryz.func150 rfl Tryz.ntmps150 (ws (gn 1 0 (Wp.seq (ws (Ai 1 0 (RW.q (Di k3 xA) (Ai 1 0 (RW.q (Di k3 xB) (gn 1 0 (wc h (fun h=>?_) (fun h=>?_)))))))))))
 ·exact ws (gn 1 0 (Wp.ret (rr h▸rq)))
 refine Wp.skip (Wp.seq (ws (gn 1 0 (E5 h [0,1,5] [] (fun s=>(S9 xA xB s)) [] [] (fun _=>S8) EG ?_ ?_))))
 ·rintro a o (h:FO xA xB a=some o) hk1;refine Wp.seq (ws (Ai 2 0 (RW.q (Di k3 xA) (gn 1 0 (wc h (fun h=>?_) (fun h=>?_))))))
  ·refine Wp.skip (Wp.seq (Wp.block (Wp.seq (KH mixed (Dl 2 (bd h fun x1 gx1 h=>SW.q (Jo k3 gx1) (SW.q (CH k3 gx1 0) (Dl 2 (bd h fun x2 gx2 h=>SW.q (Jo k3 gx2) (SW.q (CH k3 gx2 0) (Dl 1 (SW.nil (wc h (fun h=>?_) (fun h=>?_))))))))))))))
   ·exact ws (gn 1 0 (Wp.ret (rr (jo h hk1)▸rq)))
   exact Wp.skip (As (gn 3 0 (jl h)))
  exact Wp.exit (jx h)
 intro v1 h E hE;exact AX hE (ws (gn 1 0 (Wp.ret (rr h▸rq))))
def Wj (xA:Store) (xB:Store) (z1:Bool):St:=AA [(2,(pb 2)),(3,(pb 3)),(19,(B z1))] [(.box 2,[DB xA.Vols,BJ xA.Arena.Knots,i6 xA.Next]),(.box 3,[DB xB.Vols,BJ xB.Arena.Knots,i6 xB.Next])]
def Wi (xA:Store) (xB:Store) (z2:Int):St:=AA [(2,(pb 2)),(3,(pb 3)),(5,(I z2))] [(.box 2,[DB xA.Vols,BJ xA.Arena.Knots,i6 xA.Next]),(.box 3,[DB xB.Vols,BJ xB.Arena.Knots,i6 xB.Next])]
def Wh:St:=AA [] []
theorem Yr (xA:Store) (xB:Store) (r:Bool) (h:Mz xA xB=some r):AU Tryz.prog 127 [.sv (.agg (Rg false xA)),.sv (.agg (Rg false xB))] (B r) (rg 2):=by
 refine gk Tryz.func127 rfl Tryz.ntmps127 (ws (gn 3 0 (Wp.seq (Fk h [2,3,19] [.box 2,.box 3] (fun a=>(Wj xA xB a)) (fun a h=>?_) (fun j1 h=>?_)))))
 ·refine As (Ai 2 0 (RW.q (Di DX xA.Vols) (Ai 2 0 (RW.q (Di DX xB.Vols) (Ai 2 0 (AJ 13 h (fun h=>?_) (fun h=>?_)))))))
  ·exact gn 6 0 (jn h)
  exact gn 6 0 (jn h)
 refine wc h (fun h=>?_) (fun h=>?_)
 ·exact ws (gn 1 0 (Wp.ret (rr h▸rq)))
 refine Wp.skip (Wp.seq (ws (gn 1 0 (E5 h [2,3,5] [.box 2,.box 3] (fun s=>(Wi xA xB s)) [] [] (fun _=>Wh) EG ?_ ?_))))
 ·rintro b o (h:Hr xA xB b=some o) hk1;refine Wp.seq (ws (Ai 3 0 (RW.q (Di DX xA.Vols) (gn 1 0 (wc h (fun h=>?_) (fun h=>?_))))))
  ·refine Wp.skip (Wp.seq (Wp.block (Wp.seq (Eu [] mixed (fun c E h=>by rcases h with⟨h|h,_⟩<;>cases h) (Bw [0,1,2] 0 (bd h fun x1 gx1 h=>KW.q 3 (Jo DX gx1) (KW.q 4 (DA DX gx1 0 0) (KW.q 5 (CH DX gx1 0) (Bw [6,7,8] 0 (bd h fun x2 gx2 h=>KW.q 9 (Jo DX gx2) (KW.q 10 (DA DX gx2 0 0) (KW.q 11 (CH DX gx2 0) (Bw [12,13] 0 (XC 40 h (fun h=>?_) (fun h=>?_)))))))))))))))
   ·exact Bw [14,15,16,17,18,19,20,21,23,24,25,26,27,28,29,30,22,31,32,33,34] 0 (Bv (wt (ws (gn 1 0 (Wp.ret (rr (jo h hk1)▸rq))))))
   refine Bw [14,15,16,17,18] 0 (bd h fun x3 gx3 h=>KW.q 19 (Jo DX gx3) (KW.q 20 (DA DX gx3 0 1) (KW.q 21 (CH DX gx3 1) (Bw [23,24,25,26,27] 0 (bd h fun x4 gx4 h=>KW.q 28 (Jo DX gx4) (KW.q 29 (DA DX gx4 0 1) (KW.q 30 (CH DX gx4 1) (BC 22 (KB.c 0 h (PS _ _) (fun v1 gv1 h=>BC 31 (KB.c 0 h (PS _ _) (fun v2 gv2 h=>BC 32 (KB.c 0 h (gs (ca (co (cs (jH _))) (ca (co (cs (jH _))) rfl)) (Uc _ _)) (fun v3 gv3 h=>Bw [33,34] 0 (Bv (wc h (fun h=>?_) (fun h=>?_)))) (hc:=(.inr (fun v=>rfl))))))))))))))))
   ·exact ws (gn 1 0 (Wp.ret (rr (jo h hk1)▸rq)))
   exact Wp.skip (As (gn 3 0 (jl h)))
  exact Wp.exit (jx h)
 intro v4 h E hE;exact AX hE (ws (gn 1 0 (Wp.ret (rr h▸rq))))
theorem eW (xD:AF) (r:Bool) (h:NW xD=some r):AU Tryz.prog 96 [.sv (.agg (Sx false xD))] (B r) (rg 1):=by
 refine gk Tryz.func96 rfl Tryz.ntmps96 (ws (gw 2 0 (Ai 2 0 (RW.c 0 h (NS _) (fun v1 gv1 h=>gw 6 1 (Ai 2 0 (AJ 12 h (fun h=>?_) (fun h=>?_))))))))
 ·refine Ai 4 0 (RW.c 0 h (gs (ca (iX (ca (cs (Fg _)) (ca (cs (Dg _)) rfl))) rfl) (Yr _ _)) (fun v2 gv2 h=>Ai 2 0 (AJ 19 h (fun h=>?_) (fun h=>?_))) (hc:=(.inr (fun v=>rfl))))
  ·refine Ai 7 0 (AJ 26 h (fun h=>?_) (fun h=>?_))
   ·refine Ai 7 0 (AJ 33 h (fun h=>?_) (fun h=>?_))
    ·refine Ai 7 0 (AJ 40 h (fun h=>?_) (fun h=>?_))
     ·exact Ai 2 0 (RW.c 0 h (T3 _) (fun v3 gv3 h=>gn 2 0 (Wp.ret (rr h▸rq))))
     exact gn 5 0 (Wp.ret (rr h▸rq))
    exact gn 12 0 (Wp.ret (rr h▸rq))
   exact gn 19 0 (Wp.ret (rr h▸rq))
  exact gn 26 0 (Wp.ret (rr h▸rq))
 exact gn 33 0 (Wp.ret (rr h▸rq))
def qH (xQ:Mm) (z1:Bool):St:=AA [(1,(pb 1)),(28,(B z1))] [(.box 1,[i6 xQ.Kind,i6 xQ.Vol,i6 xQ.Sector,i6 xQ.Of,ts xQ.Text])]
def qG (z2:Bool):St:=AA [(2,(B z2))] []
def qF (xQ:Mm) (z3:Bool):St:=AA [(1,(pb 1)),(50,(B z3))] [(.box 1,[i6 xQ.Kind,i6 xQ.Vol,i6 xQ.Sector,i6 xQ.Of,ts xQ.Text])]
theorem vE (xQ:Mm) (r:Bool) (h:HF xQ=some r):AU Tryz.prog 54 [.sv (.agg (c44 xQ))] (B r) (rg 1):=by
 refine gk Tryz.func54 rfl Tryz.ntmps54 (ws (gn 2 0 (Wp.seq (Fk h [1,28] [.box 1] (fun a=>(qH xQ a)) (fun a h=>?_) (fun j1 h=>?_)))))
 ·refine As (Ai 2 0 (RW.c 0 h (BM _ _ _) (fun v1 gv1 h=>Ai 2 0 (AJ 7 h (fun h=>?_) (fun h=>?_)))))
  ·exact gn 21 0 (jn h)
  refine Ai 2 0 (RW.c 0 h (BM _ _ _) (fun v2 gv2 h=>Ai 3 0 (AJ 13 h (fun h=>?_) (fun h=>?_))))
  ·exact gn 15 0 (jn h)
  refine Ai 6 0 (AJ 19 h (fun h=>?_) (fun h=>?_))
  ·exact gn 9 0 (jn h)
  refine Ai 4 0 (AJ 23 h (fun h=>?_) (fun h=>?_))
  ·exact gn 5 0 (jn h)
  exact gn 5 0 (jn h)
 refine wc h (fun h=>?_) (fun h=>?_)
 ·exact ws (gn 1 0 (Wp.ret (rr h▸rq)))
 refine Wp.skip (Wp.seq (ws (gn 3 0 (wc h (fun h=>?_) (fun h=>?_)))))
 ·refine Fk h [2] [] (fun a=>(qG a)) (fun a h=>?_) (fun j2 h=>?_)
  ·refine As (Ai 4 0 (AJ 35 h (fun h=>?_) (fun h=>?_)))
   ·exact Ai 2 0 (RW.c 0 h (BM _ _ _) (fun v3 gv3 h=>gn 2 0 (jn h)))
   exact gn 5 0 (jn h)
  exact Wp.ret (rr h▸rq)
 refine Wp.skip (Wp.seq (ws (gn 3 0 (wc h (fun h=>?_) (fun h=>?_)))))
 ·exact ws (gn 1 0 (Wp.ret (rr h▸rq)))
 refine Wp.skip (Wp.seq (Fk h [1,50] [.box 1] (fun a=>(qF xQ a)) (fun a h=>?_) (fun j3 h=>?_)))
 ·refine As (Ai 4 0 (AJ 46 h (fun h=>?_) (fun h=>?_)))
  ·exact gn 4 0 (jn h)
  exact gn 4 0 (jn h)
 refine wc h (fun h=>?_) (fun h=>?_)
 ·exact ws (gn 4 0 (Wp.ret (rr h▸rq)))
 exact Wp.skip (ws (Ai 2 0 (RW.c 0 h (BM _ _ _) (fun v4 gv4 h=>gn 1 0 (Wp.ret (rr h▸rq))))))
def VS (a:List Int) (xX:Int) (z1:List Int) (z2:Int):St:=AA [(0,(.one (OT a))),(1,(I xX)),(5,(.one (E0 z1))),(6,(I z2))] []
def VR (a:List Int) (xX:Int) (z3:List Int):St:=AA [(0,(.one (OT a))),(1,(I xX)),(5,(.one (E0 z3)))] []
def VQ (a:List Int) (xX:Int) (z4:List Int):St:=AA [(0,(.one (OT a))),(1,(I xX)),(5,(.one (E0 z4)))] []
def VP (a:List Int) (xX:Int) (z5:List Int) (z6:Int):St:=AA [(0,(.one (OT a))),(1,(I xX)),(5,(.one (E0 z5))),(7,(I z6))] []
def VO (z7:List Int):St:=AA [(5,(.one (E0 z7)))] []
theorem XX (b:List Int) (xX:Int) (r:List Int) (h:Mw b xX=some r):AU Tryz.prog 43 [.sv (.one (OT b)),.sv (I xX)] (.one (E0 r)) (rg 2):=by
 refine gk Tryz.func43 rfl Tryz.ntmps43 (ws (gw 1 0 (gn 2 2 (Wp.seq (ws (gn 1 0 (BP h [0,1,5,6] [] (fun s=>(VS b xX s.1 s.2)) [0,1,5] [] (fun s=>(VR b xX s)) EG ?_ ?_)))))))
 ·rintro⟨c,e⟩ o (h:Hm b xX c e=some o);refine Wp.seq (ws (Ai 2 0 (RW.q (Di k3 b) (gn 1 0 (wc h (fun h=>?_) (fun h=>?_))))))
  ·refine Wp.skip (Wp.seq (Wp.block (ws (Ai 2 0 (CU k3 h (fun x1 gx1 h=>RW.q (CH k3 gx1 0) (gn 2 0 (wc h (fun h=>?_) (fun h=>?_)))))))))
   ·exact As (Ai 3 0 (CU k3 h (fun x2 gx2 h=>RW.q (CH k3 gx2 0) (Ai 1 0 (bd h fun q1 gq1 h=>CV (DN k3 (fun _=>rfl) c gq1) (gn 1 1 (As (gn 3 0 (jl h)))))))))
   exact Wp.skip (As (gn 3 0 (jl h)))
  exact Wp.exit (jv h)
 intro v1 h E hE;refine AX hE (Wp.seq (ws (gn 2 0 (FB h [0,1,5] [] (fun a=>(VQ b xX a)) ?_ ?_))))
 ·intro a h;refine wc h (fun h=>?_) (fun h=>?_)
  ·exact As (Ai 3 0 (bd h fun q2 gq2 h=>CV (DN k3 (fun _=>rfl) v1 gq2) (gn 1 1 (jn h))))
  exact Wp.skip (jn h)
 intro j1 h E hE;refine AX hE (Wp.seq (ws (gn 1 0 (BP h [0,1,5,7] [] (fun s=>(VP b xX s.1 s.2)) [5] [] (fun s=>(VO s)) EG ?_ ?_))))
 ·rintro⟨d,f⟩ o (h:FP b xX d f=some o);refine Wp.seq (ws (Ai 2 0 (RW.q (Di k3 b) (gn 1 0 (wc h (fun h=>?_) (fun h=>?_))))))
  ·refine Wp.skip (Wp.seq (Wp.block (ws (Ai 2 0 (CU k3 h (fun x3 gx3 h=>RW.q (CH k3 gx3 0) (gn 2 0 (wc h (fun h=>?_) (fun h=>?_)))))))))
   ·exact As (Ai 3 0 (CU k3 h (fun x4 gx4 h=>RW.q (CH k3 gx4 0) (Ai 1 0 (bd h fun q3 gq3 h=>CV (DN k3 (fun _=>rfl) d gq3) (gn 1 1 (As (gn 3 0 (jl h)))))))))
   exact Wp.skip (As (gn 3 0 (jl h)))
  exact Wp.exit (jv h)
 intro v2 h E hE;exact AX hE (ws (gn 2 2 (Wp.ret (rr h▸rq))))
def lB (xS:Store) (z1:List Int) (z2:Int):St:=AA [(1,(pb 1)),(3,(.one (E0 z1))),(4,(I z2))] [(.box 1,[DB xS.Vols,BJ xS.Arena.Knots,i6 xS.Next])]
def lA (z3:List Int):St:=AA [(3,(.one (E0 z3)))] []
def kZ (xS:Store) (a:Int) (v1:List Int) (z4:List Int) (z5:Int):St:=AA [(1,(pb 1)),(3,(.one (E0 z4))),(4,(I a)),(5,(.one (E0 v1))),(6,(I z5))] [(.box 1,[DB xS.Vols,BJ xS.Arena.Knots,i6 xS.Next])]
def kY (xS:Store) (a:Int) (z6:List Int):St:=AA [(1,(pb 1)),(3,(.one (E0 z6))),(4,(I a))] [(.box 1,[DB xS.Vols,BJ xS.Arena.Knots,i6 xS.Next])]
theorem NT (xS:Store) (r:List Int) (h:Jm xS=some r):AU Tryz.prog 17 [.sv (.agg (Rg false xS))] (.one (E0 r)) (rg 1):=by
 refine gk Tryz.func17 rfl Tryz.ntmps17 (ws (gw 2 0 (gn 2 2 (Wp.seq (ws (gn 1 0 (BP h [1,3,4] [.box 1] (fun s=>(lB xS s.1 s.2)) [3] [] (fun s=>(lA s)) EG ?_ ?_)))))))
 ·rintro⟨a,b⟩ o (h:K6 xS a b=some o);refine Wp.seq (ws (Ai 3 0 (RW.q (Di DX xS.Vols) (gn 1 0 (wc h (fun h=>?_) (fun h=>?_))))))
  ·refine Wp.skip (Wp.seq (Wp.block (Wp.seq (Sp 8 mixed (Dl 5 (bd h fun x1 gx1 h=>SW.q (Jo DX gx1) (SW.q (DA DX gx1 0 1) (SW.q (CH DX gx1 1) (SW.nil (RW.c 0 h (PS _ _) (fun v1 gv1 h=>gw 1 1 (gn 1 0 (BP h [1,3,4,5,6] [.box 1] (fun s=>(kZ xS b v1 s.1 s.2)) [1,3,4] [.box 1] (fun s=>(kY xS b s)) EG ?_ ?_)))))))))))))
   ·rintro⟨d,e⟩ o (h:K5 v1 d e=some o);refine Wp.seq (ws (Ai 2 0 (RW.q (Di k3 v1) (gn 1 0 (wc h (fun h=>?_) (fun h=>?_))))))
    ·exact Wp.skip (Wp.seq (Wp.block (As (Ai 3 0 (CU k3 h (fun x2 gx2 h=>RW.q (CH k3 gx2 0) (RW.c 0 h (gs (ca (co (cs (jH _))) rfl) (XX _ _)) (fun v2 gv2 h=>gn 1 1 (As (gn 3 0 (jl h)))) (hc:=(.inr (fun v=>by simp [BB,BL,AO,B9,ns3,E0]))))))))))
    exact Wp.exit (jv h)
   intro v3 h E hE;exact AX hE (As (gn 3 0 (jl h)))
  exact Wp.exit (jv h)
 intro v4 h E hE;exact AX hE (ws (gn 2 2 (Wp.ret (rr h▸rq))))
def VD (b:List Ap) (a:Int) (z1:Int):St:=AA [(0,(.one (HS b))),(1,(I a)),(4,(pb 4)),(6,(I z1))] [(.box 4,[i6 0,i6 0,i6 0,i6 0,i6 0,i6 0,i6 0,ts (bs [])])]
def VC:St:=AA [(4,(pb 4))] [(.box 4,[i6 0,i6 0,i6 0,i6 0,i6 0,i6 0,i6 0,ts (bs [])])]
def VB (b:List Ap) (a:Int) (c:Int) (z2:Bool):St:=AA [(0,(.one (HS b))),(1,(I a)),(4,(pb 4)),(6,(I c)),(30,(B z2))] [(.box 4,[i6 0,i6 0,i6 0,i6 0,i6 0,i6 0,i6 0,ts (bs [])])]
theorem XQ (c:List Ap) (b:Int) (r:Ap×Bool) (h:Kw c b=some r):AU Tryz.prog 65 [.sv (.one (HS c)),.sv (I b)] (.tup [(.agg (c54 r.1)),(B r.2)]) (rg 2):=by
 refine gk Tryz.func65 rfl Tryz.ntmps65 (ws (gn 2 0 (Wp.seq (ws (Ai 1 0 (RW.q (Di EA c) (gn 2 0 (E5 h [0,1,4,6] [.box 4] (fun s=>(VD c b s)) [4] [.box 4] (fun _=>VC) EG ?_ ?_))))))))
 ·rintro d o (h:Hi c b d=some o) hk1;refine Wp.seq (ws (gn 2 0 (wc h (fun h=>?_) (fun h=>?_))))
  ·refine Wp.skip (Wp.seq (Wp.block (Fk h [0,1,4,6,30] [.box 4] (fun a=>(VB c b d a)) (fun a h=>?_) (fun j1 h=>?_))))
   ·refine As (Ai 2 0 (CU EA h (fun x1 gx1 h=>RW.q (DA EA gx1 0 2) (RW.q (DA EA gx1 2 2) (RW.q (CH EA gx1 2) (Ai 2 0 (AJ 21 h (fun h=>?_) (fun h=>?_))))))))
    ·exact Ai 2 0 (CU EA h (fun x2 gx2 h=>RW.q (DA EA gx2 0 2) (RW.q (DA EA gx2 2 4) (RW.q (CH EA gx2 4) (gn 3 0 (jn h))))))
    exact gn 9 0 (jn h)
   refine wc h (fun h=>?_) (fun h=>?_)
   ·exact ws (Ai 2 0 (CU EA h (fun x3 gx3 h=>RW.q (Qz EA gx3 0 8) (gn 2 0 (Wp.ret (rr (jo h hk1)▸rq))))))
   exact Wp.skip (As (gn 3 0 (jl h)))
  exact Wp.exit (jx h)
 intro v1 h E hE;exact AX hE (ws (gn 3 0 (Wp.ret (rr h▸rq))))
def AAQ (x:AK):List TV:=[i6 x.Back,i6 x.Size,ts x.Text]
theorem EY:∀x,(AAQ x).length=3:=fun _=>rfl
theorem ACp:∀l,BH (AM AAQ l)=AM AAQ l:=D3 (fun _=>rfl)
def Hv (l:List AK):TV:= .sl true 131 3 (AM AAQ l)
def M6 (l:List AK):TV:= .sl false 131 3 (AM AAQ l)
def VW (xT:ByteArray) (z1:List AK) (z2:Int):St:=AA [(0,(Y xT)),(4,(.one (Hv z1))),(5,(I z2))] []
def VV (z3:List AK):St:=AA [(4,(.one (Hv z3)))] []
theorem XY (xT:ByteArray) (r:List AK×Bool) (h:I7 xT=some r):AU Tryz.prog 105 [.sv (Y xT)] (.tup [(.one (Hv r.1)),(B r.2)]) (rg 1):=by
 refine gk Tryz.func105 rfl Tryz.ntmps105 (ws (gw 2 0 (gw 2 2 (gn 1 0 (sl2 h [0,4,5] [] (fun s=>(VW xT s.1 s.2)) [4] [] (fun s=>(VV s)) ?_ (fun v1 h=>?_))))))
 ·rintro⟨a,b⟩ o (h:BV xT a b=some o) hk1;refine Wp.seq (ws (gn 4 0 (wc h (fun h=>?_) (fun h=>?_))))
  ·refine Wp.skip (Wp.block (ws (Ai 2 0 (bd h fun x1 gx1 h=>RW.q (iW gx1) (gn 2 0 (Wp.seq (ws (gn 2 0 (wc h (fun h=>?_) (fun h=>?_))))))))))
   ·refine Wp.seq (ws (gn 5 0 (wc h (fun h=>?_) (fun h=>?_))))
    ·exact ws (gn 3 2 (Wp.ret (rr (jo h hk1)▸rq)))
    exact Wp.skip (ws (Ai 4 0 (bd h fun x2 gx2 h=>RW.q (iW gx2) (Ai 5 0 (bd h fun q1 gq1 h=>CV (DN EY (fun _=>rfl) a gq1) (gw 1 1 (gn 3 0 (Wp.exit (jl h)))))))))
   refine Wp.skip (Wp.seq (ws (gn 7 0 (wc h (fun h=>?_) (fun h=>?_)))))
   ·exact ws (gn 3 2 (Wp.ret (rr (jo h hk1)▸rq)))
   exact Wp.skip (ws (Ai 8 0 (bd h fun x3 gx3 h=>RW.q (Pv gx3) (Ai 2 0 (bd h fun q2 gq2 h=>CV (DN EY (fun _=>rfl) a gq2) (gn 1 1 (As (gn 5 0 (jl h)))))))))
  exact Wp.exit (jx h)
 exact ws (gn 3 2 (Wp.ret (rr h▸rq)))
def eC (a:List AK) (z1:List Int) (z2:Int):St:=AA [(0,(.one (M6 a))),(4,(.one (fM z1))),(5,(I z2))] []
def eB (z3:List Int):St:=AA [(4,(.one (fM z3)))] []
def eA (a:List AK) (b:Int) (z4:List Int):St:=AA [(0,(.one (M6 a))),(4,(.one (fM z4))),(5,(I b))] []
def d9 (a:List AK) (b:List Int) (c:Int) (x1:AK) (z5:Bool):St:=AA [(0,(.one (M6 a))),(4,(.one (fM b))),(5,(I c)),(6,(pb 6)),(32,(B z5))] [(.box 6,[i6 x1.Back,i6 x1.Size,ts x1.Text])]
def d8 (a:List AK) (b:List Int) (c:Int) (x1:AK) (z6:Bool):St:=AA [(0,(.one (M6 a))),(4,(.one (fM b))),(5,(I c)),(6,(pb 6)),(54,(B z6))] [(.box 6,[i6 x1.Back,i6 x1.Size,ts x1.Text])]
def d7 (a:List AK) (b:Int) (x1:AK) (z7:List Int) (z8:Int):St:=AA [(0,(.one (M6 a))),(4,(.one (fM z7))),(5,(I b)),(6,(pb 6)),(7,(I z8))] [(.box 6,[i6 x1.Back,i6 x1.Size,ts x1.Text])]
def dZ (a:List AK) (b:Int) (z9:List Int):St:=AA [(0,(.one (M6 a))),(4,(.one (fM z9))),(5,(I b))] []
theorem kT (d:List AK) (r:ByteArray×Bool) (h:Fu d=some r):AU Tryz.prog 106 [.sv (.one (M6 d))] (.tup [(Y r.1),(B r.2)]) (rg 1):=by
 refine gk Tryz.func106 rfl Tryz.ntmps106 (ws (gw 2 0 (gn 2 2 (Wp.seq (ws (gn 1 0 (E5 h [0,4,5] [] (fun s=>(eC d s.1 s.2)) [4] [] (fun s=>(eB s)) EG ?_ ?_)))))))
 ·rintro⟨e,i⟩ o (h:DF d e i=some o) hk1;refine Wp.seq (ws (Ai 2 0 (RW.q (Di EY d) (gn 1 0 (wc h (fun h=>?_) (fun h=>?_))))))
  ·refine Wp.skip (Wp.seq (Wp.block (ws (Ai 2 0 (CU EY h (fun x1 gx1 h=>RW.q (Qz EY gx1 0 3) (gn 2 0 (Wp.seq (ws (gn 3 0 (nW h [0,4,5] [] (fun a=>(eA d i a)) ?_ ?_)))))))))))
   ·intro a h j;refine wc h (fun h=>?_) (fun h=>?_)
    ·refine Wp.seq (Fk h [0,4,5,6,32] [.box 6] (fun a=>(d9 d e i x1 a)) (fun a h=>?_) (fun j2 h=>?_))
     ·refine As (Ai 3 0 (RW.c 0 h (BM _ _ _) (fun v1 gv1 h=>Ai 2 0 (AJ 28 h (fun h=>?_) (fun h=>?_)))))
      ·exact gn 4 0 (jn h)
      exact gn 4 0 (jn h)
     refine wc h (fun h=>?_) (fun h=>?_)
     ·exact ws (gn 2 0 (Wp.ret (rr (jo (jr h j) hk1)▸rq)))
     exact Wp.skip (As (Ai 3 0 (CV (fsb (f:=c5) (b:=x1.Text) (fun _=>rfl) (by kernel_rfl)) (bd h fun q1 gq1 h=>CV (DN k5 (fun _=>rfl) e gq1) (gn 1 1 (jm h))))))
    refine Wp.seq (Fk h [0,4,5,6,54] [.box 6] (fun a=>(d8 d e i x1 a)) (fun a h=>?_) (fun j3 h=>?_))
    ·refine As (Ai 3 0 (RW.q (Di k5 e) (RW.c 0 h (BM _ _ _) (fun v2 gv2 h=>Ai 2 0 (AJ 44 h (fun h=>?_) (fun h=>?_))))))
     ·exact gn 10 0 (jn h)
     refine Ai 2 0 (RW.c 0 h (BM _ _ _) (fun v3 gv3 h=>Ai 3 0 (AJ 50 h (fun h=>?_) (fun h=>?_))))
     ·exact gn 4 0 (jn h)
     exact gn 4 0 (jn h)
    refine wc h (fun h=>?_) (fun h=>?_)
    ·exact ws (gn 2 0 (Wp.ret (rr (jo (jr h j) hk1)▸rq)))
    refine Wp.skip (ws (gn 1 0 (BP h [0,4,5,6,7] [.box 6] (fun s=>(d7 d i x1 s.1 s.2)) [0,4,5] [] (fun s=>(dZ d i s)) EG ?_ ?_)))
    ·rintro⟨g,k⟩ o (h:DE x1 g k=some o);refine Wp.seq (ws (gn 4 0 (wc h (fun h=>?_) (fun h=>?_))))
     ·exact Wp.skip (Wp.seq (Wp.block (ws (Ai 2 0 (RW.q (Di k5 g) (Ai 3 0 (CU k5 h (fun x2 gx2 h=>RW.q (CH k5 gx2 0) (gn 1 0 (As (Ai 3 0 (bd h fun q2 gq2 h=>CV (DN k5 (fun _=>rfl) g gq2) (gn 1 1 (As (gn 3 0 (jl h))))))))))))))))
     exact Wp.exit (jv h)
    intro v4 h E hE;cases h;exact⟨_,rfl,hE⟩
   intro j1 h E hE;refine AX hE (ws (Ai 1 0 (RW.q (Di k5 j1) (gn 1 0 (wc h (fun h=>?_) (fun h=>?_))))))
   ·exact ws (gn 2 0 (Wp.ret (rr (jo h hk1)▸rq)))
   exact Wp.skip (As (gn 3 0 (jl h)))
  exact Wp.exit (jx h)
 intro v5 h E hE;exact AX hE (ws (Ai 1 0 (RW.q (pcv (f:=c5) (fun _=>rfl) v5) (gn 2 0 (Wp.ret (rr h▸rq))))))
end Go.TI
