/- That they compute it. No condition. -/
import Derived.Test.YtiemmklnnjembaaGreatROS0
import Derived.Test.YtiemmklnnjembaaGreatProg
import Derived.Shelf.Abstract
import Derived.KernelRfl
namespace Go.TI
open Go Go.Proofs
set_option maxRecDepth 100000
theorem Ct:Tryz.prog.follows .mixedOrders=true:=rfl
theorem ws {P:Program} {N:Nat} {E:St} {Q:Exit->St->Prop} {id:Nat} {l:Array Oper} {y:Code} (h:RW P N l 0 E (uN (fun E'=>Wp P N y E' Q) Q)):Wp P N (.seq (.region id l false) y) E Q:=Wp.seq (Av h)
def c5 (x:Int):List TV:=[.int .u8 x]
theorem k5:∀x,(c5 x).length=1:=fun _=>rfl
theorem yZ (a:List Int) (r:Bool) (h:Uz a=some r):Ba Tryz.prog 7 [.sv (.one (.sl false 5 1 (Ah c5 a)))] (B r) (List.replicate 1 .gone):=by
 unfold Uz at h;refine gk Tryz.func7 rfl Tryz.ntmps7 (ws (Ab 1 0 (RW.nil (ws (Ab 1 0 (RW.q (D5 k5 a) (Ab 2 0 (RW.nil ?_))))))));cases h;exact Wp.ret ⟨.inr rfl,BA (by kernel_rfl)⟩
def gU (a:List Int) (z1:Int) (z2:Int):St:=AE [(0,(.one (.sl false 5 1 (Ah c5 a)))),(3,(I z1)),(4,(I z2))] []
def gT (a:List Int) (z3:Int):St:=AE [(0,(.one (.sl false 5 1 (Ah c5 a)))),(3,(I z3))] []
def gR (a:List Int) (b:Int) (c:Int) (z4:Bool):St:=AE [(0,(.one (.sl false 5 1 (Ah c5 a)))),(3,(I b)),(4,(I c)),(15,(B z4))] []
theorem mW (b:List Int) (r:BE) (h:OX b=some r):fJ Tryz.prog 29 [.sv (.one (.sl false 5 1 (Ah c5 b)))] [.sl false 5 1 (Ah c5 r.b_),.int .i64 r.i_,.int .i64 r.h_]:=by
 unfold OX at h;refine gkp Tryz.func29 rfl Tryz.ntmps29 (ws (ACR (pjk) (RW.nil (ws (Ab 1 0 (RW.q (D5 k5 b) (Ab 2 0 (RW.nil (Wp.seq (ws (Ab 1 0 (RW.nil (BP h [0,3,4] [] (fun s=>(gU b s.1 s.2)) [0,3] [] (fun s=>(gT b s)) Ay ?_ ?_)))))))))))))
 ·rintro⟨c,d⟩ o (h:Hy b c d=some o);unfold Hy at h;refine Wp.seq (Wp.seq (Bq h [0,3,4,15] [] (fun a=>(gR b c d a)) ?_ ?_))
  ·intro a h;refine Av (Ab 2 0 (RW.q (D5 k5 b) (Ab 2 0 (AQ 12 h (fun h=>?_) (fun h=>?_)))))
   ·refine Ab 3 0 (RW.nil ?_);cases h;exact⟨_,rfl,Ay⟩
   refine Ab 3 0 (RW.nil ?_);cases h;exact⟨_,rfl,Ay⟩
  intro j1 h E hE;refine A9 hE (wc h (fun h=>?_) (fun h=>?_))
  ·refine Wp.skip (Wp.seq (Wp.block (Av (Ab 4 0 (bd h fun x1 gx1 h=>RW.q (Ck k5 gx1) (RW.q (CG k5 gx1 0) (Ab 5 0 (RW.nil (Av (Ab 3 0 (RW.nil ?_)))))))))));cases h;exact⟨_,rfl,Ay⟩
  refine Wp.exit ?_;cases h;exact⟨_,rfl,Ay⟩
 intro v1 h E hE;refine A9 hE (ws (Ab 5 0 (RW.nil ?_)));cases h;exact Wp.ret ⟨.inr rfl,rsp 2 rfl (by kernel_rfl)⟩
set_option maxHeartbeats 4000000 in
theorem K7 (xC:BE) (r:Int×BE) (h:HL xC=some r):Ba Tryz.prog 36 [.ext [.sl false 5 1 (Ah c5 xC.b_),.int .i64 xC.i_,.int .i64 xC.h_]] (I r.1) (.ext [.sl false 5 1 (Ah c5 r.2.b_),.int .i64 r.2.i_,.int .i64 r.2.h_]::List.replicate 0 .gone):=by
 unfold HL at h;refine gkx Tryz.func36 rfl Tryz.ntmps36 (ws (Ab 1 0 (RW.nil (ws (Ab 10 0 (RW.nil (Wp.seq (Ln Ct (Dh 13 (SW.nil (Wp.seq (Wp.seq (Ln Ct ?_)))))))))))));refine Dh 8 (SW.q (D5 k5 xC.b_) (Dh 1 (SW.nil (wc h (fun h=>?_) (fun h=>?_)))))
 ·refine Wp.seq (Ln Ct (Dh 9 (bd h fun x1 gx1 h=>SW.q (Ck k5 gx1) (SW.q (CG k5 gx1 0) (Dh 4 (SW.nil (Av (Ab 9 0 (RW.nil (ws (Ab 2 0 (RW.nil ?_))))))))))));cases h;exact Wp.ret ⟨.inr rfl,sE (by kernel_rfl)⟩
 refine Wp.skip (ws (Ab 2 0 (RW.nil ?_)));cases h;exact Wp.ret ⟨.inr rfl,sE (by kernel_rfl)⟩
set_option maxHeartbeats 4000000 in
theorem De (xC:BE) (xN:Int) (r:Int×BE) (h:Dm xC xN=some r):Ba Tryz.prog 37 [.ext [.sl false 5 1 (Ah c5 xC.b_),.int .i64 xC.i_,.int .i64 xC.h_],.sv (I xN)] (I r.1) (.ext [.sl false 5 1 (Ah c5 r.2.b_),.int .i64 r.2.i_,.int .i64 r.2.h_]::List.replicate 1 .gone):=by
 unfold Dm at h;refine gkx Tryz.func37 rfl Tryz.ntmps37 (ws (Ab 1 0 (RW.nil (Wp.seq (ws (Ab 2 0 (RW.nil (wc h (fun h=>?_) (fun h=>?_)))))))))
 ·refine ws (Ab 1 0 (RW.nil ?_));cases h;exact Wp.ret ⟨.inr rfl,sE (by kernel_rfl)⟩
 refine Wp.skip (Wp.seq (ws (Ab 2 0 (RW.nil (wc h (fun h=>?_) (fun h=>?_))))))
 ·refine ws (Ab 1 0 (G6 h (K7 _) (fun _=>rfl) (fun v1 gv1 h=>Ab 1 0 (bd h fun x1 gx1 h=>RW.q (prm gx1) (Ab 1 0 (RW.nil ?_))))));cases h;exact Wp.ret ⟨.inr rfl,sE (by kernel_rfl)⟩
 refine Wp.skip (ws (Ab 1 0 (G6 h (K7 _) (fun _=>rfl) (fun v2 gv2 h=>Ab 1 0 (RW.nil (ws (Ab 1 0 (G6 h (K7 _) (fun _=>rfl) (fun v3 gv3 h=>Ab 1 0 (RW.nil (ws (Ab 1 0 (G6 h (K7 _) (fun _=>rfl) (fun v4 gv4 h=>?_))))))))))))));refine Ab 1 0 (RW.nil (ws (Ab 1 0 (G6 h (K7 _) (fun _=>rfl) (fun v5 gv5 h=>Ab 1 0 (RW.nil (ws (Ab 11 0 (bd h fun x2 gx2 h=>RW.q (prm gx2) (Ab 1 0 (RW.nil ?_)))))))))));cases h;exact Wp.ret ⟨.inr rfl,sE (by kernel_rfl)⟩
theorem BK (xX:Int) (a:Int) (b:Int) (r:Bool) (h:BN xX a b=some r):Ba Tryz.prog 46 [.sv (I xX),.sv (I a),.sv (I b)] (B r) (List.replicate 3 .gone):=by
 unfold BN at h;refine gk Tryz.func46 rfl Tryz.ntmps46 (ws (Ab 1 0 (RW.nil (ws (Ab 4 0 (AQ 10 h (fun h=>?_) (fun h=>?_)))))))
 ·refine Ab 5 0 (RW.nil ?_);cases h;exact Wp.ret ⟨.inr rfl,BA (by kernel_rfl)⟩
 refine Ab 5 0 (RW.nil ?_);cases h;exact Wp.ret ⟨.inr rfl,BA (by kernel_rfl)⟩
def fQ (x:Leaf):List TV:=[.int .i64 x.Is,.str x.Text]
theorem M1:∀x,(fQ x).length=2:=fun _=>rfl
theorem ACv:∀l,BH (Ah fQ l)=Ah fQ l:=D6 (fun _=>rfl)
theorem ACK:∀l,AX (Ah fQ l)=false:=Kw (fun _=>rfl)
def Co (o:Bool) (x:Block):List TV:=[.bool x.Bad,.int .i64 x.Wear,.sl o 90 2 (Ah fQ x.Leaves)]
theorem Fp (o:Bool):∀x,(Co o x).length=3:=fun _=>rfl
theorem Fw:∀l,BH (Ah (Co true) l)=Ah (Co false) l:=D6 (fun x=>by simp only [Co,BH,Lk,ACv])
theorem sS:∀l,AX (Ah (Co true) l)=false:=Kw (fun x=>by simp [Co,AX,BC,ACK])
def XJ (xN:Int) (z1:Int) (z2:List Block):St:=AE [(0,(I xN)),(2,(.one (.ptr (.box 2) 0 [] 0))),(4,(.one (.ptr (.box 4) 0 [] 0))),(5,(I z1))] [(.box 2,[.sl true 77 3 (Ah (Co true) [])]),(.box 4,[.sl true 77 3 (Ah (Co true) z2)])]
def XI (z3:List Block):St:=AE [(2,(.one (.ptr (.box 2) 0 [] 0))),(4,(.one (.ptr (.box 4) 0 [] 0)))] [(.box 2,[.sl true 77 3 (Ah (Co true) [])]),(.box 4,[.sl true 77 3 (Ah (Co true) z3)])]
theorem bX (xN:Int) (r:Flash×Bool) (h:LZ xN=some r):Ba Tryz.prog 93 [.sv (I xN)] (.tup [(.agg [.sl true 77 3 (Ah (Co true) r.1.Blocks)]),(B r.2)]) (List.replicate 1 .gone):=by
 unfold LZ at h;refine gk Tryz.func93 rfl Tryz.ntmps93 (ws (Ab 2 0 (RW.nil (Wp.seq (ws (Ab 1 0 (RW.c 0 h (BK _ _ _) (fun v1 gv1 h=>Ab 1 0 (RW.nil (wc h (fun h=>?_) (fun h=>?_)))))))))))
 ·refine ws (Ab 3 0 (RW.nil ?_));cases h;exact Wp.ret ⟨.inr rfl,BA (by kernel_rfl)⟩
 refine Wp.skip (ws (Ab 3 0 (RW.nil (Wp.seq (ws (Ab 1 0 (RW.nil (BP h [0,2,4,5] [.box 2,.box 4] (fun s=>(XJ xN s.1 s.2)) [2,4] [.box 2,.box 4] (fun s=>(XI s)) Ay ?_ ?_))))))))
 ·rintro⟨b,a⟩ o (h:GW xN b a=some o);unfold GW at h;refine Wp.seq (ws (Ab 3 0 (RW.nil (wc h (fun h=>?_) (fun h=>?_)))))
  ·refine Wp.skip (Wp.seq (Wp.block (Er [5,7] Ct (fun c E h=>by rcases h with⟨h|h,_⟩<;>cases h) (AC [0,1] 0 (BD 2 (bd h fun q1 gq1 h=>M5 (fmk M1 (Leaf.mk 0 (bs [])) gq1) (AC [3,4] 0 (BD 5 (bd h fun q2 gq2 h=>M5 (oZ (Fp true) a [(Block.mk false 0 q1)] gq2) (AC [6,7] 0 (Ak ?_)))))))))));refine Av (Ab 3 0 (RW.nil ?_));cases h;exact⟨_,rfl,Ay⟩
  refine Wp.exit ?_;cases h;exact⟨_,rfl,Ay⟩
 intro v2 h E hE;refine A9 hE (ws (Ab 3 0 (RW.nil ?_)));cases h;exact Wp.ret ⟨.inr rfl,BA (by kernel_rfl)⟩
theorem gN (xX:Leaf) (r:Bool) (h:Nk xX=some r):Ba Tryz.prog 148 [.sv (.agg [.int .i64 xX.Is,.str xX.Text])] (B r) (List.replicate 1 .gone):=by
 unfold Nk at h;refine gk Tryz.func148 rfl Tryz.ntmps148 (ws (Ab 2 0 (RW.nil (Wp.seq (ws (Ab 2 0 (RW.nil (Wp.block (ws (Ab 2 0 (RW.nil (wc h (fun h=>?_) (fun h=>?_)))))))))))))
 ·refine ws (Ab 4 0 (RW.nil ?_));cases h;exact Wp.ret ⟨.inr rfl,BA (by kernel_rfl)⟩
 refine ws (Ab 2 0 (RW.nil (wc h (fun h=>?_) (fun h=>?_))))
 ·refine ws (Ab 3 0 (RW.c 0 h (BK _ _ _) (fun v1 gv1 h=>Ab 1 0 (RW.nil ?_))));cases h;exact Wp.ret ⟨.inr rfl,BA (by kernel_rfl)⟩
 refine ws (Ab 2 0 (RW.nil (wc h (fun h=>?_) (fun h=>?_))))
 ·refine ws (Ab 5 0 (RW.nil ?_));cases h;exact Wp.ret ⟨.inr rfl,BA (by kernel_rfl)⟩
 refine Wp.skip (ws (Ab 1 0 (RW.nil ?_)));cases h;exact Wp.ret ⟨.inr rfl,BA (by kernel_rfl)⟩
def bW (xF:Flash) (z1:Int):St:=AE [(1,(.one (.ptr (.box 1) 0 [] 0))),(3,(I z1))] [(.box 1,[.sl false 77 3 (Ah (Co false) xF.Blocks)])]
def bV (xF:Flash):St:=AE [(1,(.one (.ptr (.box 1) 0 [] 0)))] [(.box 1,[.sl false 77 3 (Ah (Co false) xF.Blocks)])]
def bU (xF:Flash) (a:Int) (x1:Block) (z2:Bool):St:=AE [(1,(.one (.ptr (.box 1) 0 [] 0))),(3,(I a)),(4,(.one (.ptr (.box 4) 0 [] 0))),(27,(B z2))] [(.box 1,[.sl false 77 3 (Ah (Co false) xF.Blocks)]),(.box 4,[.bool x1.Bad,.int .i64 x1.Wear,.sl false 90 2 (Ah fQ x1.Leaves)])]
def bT (xF:Flash) (a:Int) (x1:Block) (z3:Int):St:=AE [(1,(.one (.ptr (.box 1) 0 [] 0))),(3,(I a)),(4,(.one (.ptr (.box 4) 0 [] 0))),(5,(I z3))] [(.box 1,[.sl false 77 3 (Ah (Co false) xF.Blocks)]),(.box 4,[.bool x1.Bad,.int .i64 x1.Wear,.sl false 90 2 (Ah fQ x1.Leaves)])]
def bS (xF:Flash) (a:Int):St:=AE [(1,(.one (.ptr (.box 1) 0 [] 0))),(3,(I a))] [(.box 1,[.sl false 77 3 (Ah (Co false) xF.Blocks)])]
def bR (xF:Flash) (a:Int) (x1:Block) (b:Int) (z4:Bool):St:=AE [(1,(.one (.ptr (.box 1) 0 [] 0))),(3,(I a)),(4,(.one (.ptr (.box 4) 0 [] 0))),(5,(I b)),(64,(B z4))] [(.box 1,[.sl false 77 3 (Ah (Co false) xF.Blocks)]),(.box 4,[.bool x1.Bad,.int .i64 x1.Wear,.sl false 90 2 (Ah fQ x1.Leaves)])]
theorem MD (xF:Flash) (r:Bool) (h:HS xF=some r):Ba Tryz.prog 122 [.sv (.agg [.sl false 77 3 (Ah (Co false) xF.Blocks)])] (B r) (List.replicate 1 .gone):=by
 unfold HS at h;refine gk Tryz.func122 rfl Tryz.ntmps122 (ws (Ab 2 0 (RW.nil (Wp.seq (ws (Ab 1 0 (RW.nil (Em h [1,3] [.box 1] (fun s=>(bW xF s)) [1] [.box 1] (fun _=>(bV xF)) Ay ?_ ?_))))))))
 ·rintro b o (h:GH xF b=some o) hk1;unfold GH at h;refine Wp.seq (ws (Ab 3 0 (RW.q (D5 (Fp false) xF.Blocks) (Ab 1 0 (RW.nil (wc h (fun h=>?_) (fun h=>?_)))))))
  ·refine Wp.skip (Wp.seq (Wp.block (ws (Ab 3 0 (bd h fun x1 gx1 h=>RW.q (Ck (Fp false) gx1) (RW.q (Rx (Fp false) gx1 0 3) (Ab 2 0 (RW.nil (Wp.seq (Wp.seq (Bq h [1,3,4,27] [.box 1,.box 4] (fun a=>(bU xF b x1 a)) ?_ ?_)))))))))))
   ·intro a h;refine Av (Ab 2 0 (RW.q (D5 M1 x1.Leaves) (Ab 2 0 (AQ 22 h (fun h=>?_) (fun h=>?_)))))
    ·refine Ab 5 0 (RW.nil ?_);cases h;exact⟨_,rfl,Ay⟩
    refine Ab 2 0 (RW.c 0 h (BK _ _ _) (fun v1 gv1 h=>Ab 2 0 (RW.nil ?_)));cases h;exact⟨_,rfl,Ay⟩
   intro j1 h E hE;refine A9 hE (wc h (fun h=>?_) (fun h=>?_))
   ·refine ws (Ab 1 0 (RW.nil ?_));cases h;replace h:some _=some _:=hk1 _ rfl;cases h;exact Wp.ret ⟨.inr rfl,BA (by kernel_rfl)⟩
   refine Wp.skip (ws (Ab 1 0 (RW.nil (Em h [1,3,4,5] [.box 1,.box 4] (fun s=>(bT xF b x1 s)) [1,3] [.box 1] (fun _=>(bS xF b)) Ay ?_ ?_))))
   ·rintro d o (h:GG x1 d=some o) hk2;unfold GG at h;refine Wp.seq (ws (Ab 3 0 (RW.q (D5 M1 x1.Leaves) (Ab 1 0 (RW.nil (wc h (fun h=>?_) (fun h=>?_)))))))
    ·refine Wp.skip (Wp.seq (Wp.block (Wp.seq (Bq h [1,3,4,5,64] [.box 1,.box 4] (fun a=>(bR xF b x1 d a)) ?_ ?_))))
     ·intro a h;refine Av (Ab 3 0 (bd h fun x2 gx2 h=>RW.q (Ck M1 gx2) (RW.q (Rx M1 gx2 0 2) (RW.c 0 h (gN _) (fun v2 gv2 h=>Ab 2 0 (AQ 42 h (fun h=>?_) (fun h=>?_)))))))
      ·refine Ab 22 0 (RW.nil ?_);cases h;exact⟨_,rfl,Ay⟩
      refine Ab 3 0 (AQ 45 h (fun h=>?_) (fun h=>?_))
      ·refine Ab 4 0 (bd h fun x3 gx3 h=>RW.q (Ck M1 gx3) (RW.q (DB M1 gx3 0 0) (RW.q (CG M1 gx3 0) (Ab 3 0 (AQ 55 h (fun h=>?_) (fun h=>?_))))))
       ·refine Ab 3 0 (bd h fun x4 gx4 h=>RW.q (Ck M1 gx4) (RW.q (DB M1 gx4 0 0) (RW.q (CG M1 gx4 0) (Ab 3 0 (RW.nil ?_)))));cases h;exact⟨_,rfl,Ay⟩
       refine Ab 9 0 (RW.nil ?_);cases h;exact⟨_,rfl,Ay⟩
      refine Ab 19 0 (RW.nil ?_);cases h;exact⟨_,rfl,Ay⟩
     intro j2 h E hE;refine A9 hE (wc h (fun h=>?_) (fun h=>?_))
     ·refine ws (Ab 1 0 (RW.nil ?_));cases h;replace h:some _=some _:=hk2 _ rfl;cases h;replace h:some _=some _:=hk1 _ rfl;cases h;exact Wp.ret ⟨.inr rfl,BA (by kernel_rfl)⟩
     refine Wp.skip (Av (Ab 3 0 (RW.nil ?_)));cases h;exact⟨_,rfl,Ay⟩
    refine Wp.exit ?_;cases h;exact⟨_,rfl,Ay⟩
   intro v3 h E hE;refine A9 hE (Av (Ab 3 0 (RW.nil ?_)));cases h;exact⟨_,rfl,Ay⟩
  refine Wp.exit ?_;cases h;exact⟨_,rfl,Ay⟩
 intro v4 h E hE;refine A9 hE (ws (Ab 2 0 (RW.q (D5 (Fp false) xF.Blocks) (RW.c 0 h (BK _ _ _) (fun v5 gv5 h=>Ab 1 0 (RW.nil ?_))))));cases h;exact Wp.ret ⟨.inr rfl,BA (by kernel_rfl)⟩
def X3 (xF:Flash) (xB:Int) (a:Int) (z1:Bool):St:=AE [(1,(I xB)),(2,(I a)),(3,(.one (.ptr (.box 3) 0 [] 0))),(40,(B z1))] [(.box 3,[.sl false 77 3 (Ah (Co false) xF.Blocks)])]
theorem bF (xF:Flash) (xB:Int) (b:Int) (r:ByteArray×Bool) (h:LX xF xB b=some r):Ba Tryz.prog 20 [.sv (.agg [.sl false 77 3 (Ah (Co false) xF.Blocks)]),.sv (I xB),.sv (I b)] (.tup [(Y r.1),(B r.2)]) (List.replicate 3 .gone):=by
 unfold LX at h;refine gk Tryz.func20 rfl Tryz.ntmps20 (ws (Ab 3 0 (RW.nil (Wp.seq (Wp.seq (Bq h [1,2,3,40] [.box 3] (fun a=>(X3 xF xB b a)) ?_ ?_))))))
 ·intro a h;refine Av (Ab 3 0 (RW.q (D5 (Fp false) xF.Blocks) (Ab 1 0 (RW.c 0 h (BK _ _ _) (fun v1 gv1 h=>Ab 2 0 (AQ 15 h (fun h=>?_) (fun h=>?_)))))))
  ·refine Ab 25 0 (RW.nil ?_);cases h;exact⟨_,rfl,Ay⟩
  refine Ab 4 0 (bd h fun x1 gx1 h=>RW.q (Ck (Fp false) gx1) (RW.q (DB (Fp false) gx1 0 2) (RW.q (CG (Fp false) gx1 2) (RW.q (D5 M1 x1.Leaves) (Ab 1 0 (RW.c 0 h (BK _ _ _) (fun v2 gv2 h=>Ab 3 0 (AQ 28 h (fun h=>?_) (fun h=>?_)))))))))
  ·refine Ab 12 0 (RW.nil ?_);cases h;exact⟨_,rfl,Ay⟩
  refine Ab 3 0 (bd h fun x2 gx2 h=>RW.q (Ck (Fp false) gx2) (RW.q (DB (Fp false) gx2 0 2) (RW.q (CG (Fp false) gx2 2) (Ab 1 0 (bd h fun x3 gx3 h=>RW.q (Ck M1 gx3) (RW.q (DB M1 gx3 0 0) (RW.q (CG M1 gx3 0) (Ab 2 0 (RW.nil ?_)))))))));cases h;exact⟨_,rfl,Ay⟩
 intro j1 h E hE;refine A9 hE (wc h (fun h=>?_) (fun h=>?_))
 ·refine ws (Ab 2 0 (RW.nil ?_));cases h;exact Wp.ret ⟨.inr rfl,BA (by kernel_rfl)⟩
 refine Wp.skip (ws (Ab 3 0 (bd h fun x4 gx4 h=>RW.q (Ck (Fp false) gx4) (RW.q (DB (Fp false) gx4 0 2) (RW.q (CG (Fp false) gx4 2) (Ab 1 0 (bd h fun x5 gx5 h=>RW.q (Ck M1 gx5) (RW.q (DB M1 gx5 0 1) (RW.q (CG M1 gx5 1) (Ab 2 0 (RW.nil ?_)))))))))));cases h;exact Wp.ret ⟨.inr rfl,BA (by kernel_rfl)⟩
def aG (a:ByteArray) (z1:Int) (z2:Int):St:=AE [(0,(.one (.int .u32 z1))),(1,(Y a)),(5,(I z2))] []
def aF (z3:Int):St:=AE [(0,(.one (.int .u32 z3)))] []
def aE (a:ByteArray) (b:Int) (z4:Int) (z5:Int):St:=AE [(0,(.one (.int .u32 z4))),(1,(Y a)),(5,(I b)),(6,(I z5))] []
def aD (a:ByteArray) (b:Int) (z6:Int):St:=AE [(0,(.one (.int .u32 z6))),(1,(Y a)),(5,(I b))] []
theorem gW (b:Int) (a:ByteArray) (r:Int) (h:Nl b a=some r):Ba Tryz.prog 114 [.sv (.one (.int .u32 b)),.sv (Y a)] (.one (.int .u32 r)) (List.replicate 2 .gone):=by
 unfold Nl at h;refine gk Tryz.func114 rfl Tryz.ntmps114 (ws (Ab 1 0 (RW.nil (Wp.seq (ws (Ab 1 0 (RW.nil (BP h [0,1,5] [] (fun s=>(aG a s.1 s.2)) [0] [] (fun s=>(aF s)) Ay ?_ ?_))))))))
 ·rintro⟨c,d⟩ o (h:HN a c d=some o);unfold HN at h;refine Wp.seq (ws (Ab 4 0 (RW.nil (wc h (fun h=>?_) (fun h=>?_)))))
  ·refine Wp.skip (Wp.seq (Wp.block (ws (Ab 3 0 (bd h fun x1 gx1 h=>RW.q (fO gx1) (Ab 3 0 (RW.nil (ws (Ab 1 0 (RW.nil (BP h [0,1,5,6] [] (fun s=>(aE a d s.1 s.2)) [0,1,5] [] (fun s=>(aD a d s)) Ay ?_ ?_)))))))))))
   ·rintro⟨e,f⟩ o (h:GC e f=some o);unfold GC at h;refine Wp.seq (ws (Ab 2 0 (RW.nil (wc h (fun h=>?_) (fun h=>?_)))))
    ·refine Wp.skip (Wp.seq (Wp.block (ws (Ab 4 0 (RW.nil (ws (Ab 3 0 (RW.nil (ws (Ab 1 0 (RW.nil (wc h (fun h=>?_) (fun h=>?_)))))))))))))
     ·refine Av (Ab 3 0 (RW.nil (Av (Ab 3 0 (RW.nil ?_)))));cases h;exact⟨_,rfl,Ay⟩
     refine Wp.skip (Av (Ab 3 0 (RW.nil ?_)));cases h;exact⟨_,rfl,Ay⟩
    refine Wp.exit ?_;cases h;exact⟨_,rfl,Ay⟩
   intro v1 h E hE;refine A9 hE (Av (Ab 3 0 (RW.nil ?_)));cases h;exact⟨_,rfl,Ay⟩
  refine Wp.exit ?_;cases h;exact⟨_,rfl,Ay⟩
 intro v2 h E hE;refine A9 hE (ws (Ab 2 0 (RW.nil ?_)));cases h;exact Wp.ret ⟨.inr rfl,BA (by kernel_rfl)⟩
theorem YH (a:ByteArray) (r:Int) (h:Lx a=some r):Ba Tryz.prog 73 [.sv (Y a)] (.one (.int .u32 r)) (List.replicate 1 .gone):=by
 unfold Lx at h;refine gk Tryz.func73 rfl Tryz.ntmps73 (ws (Ab 1 0 (RW.nil (ws (Ab 1 0 (RW.c 0 h (gW _ _) (fun v1 gv1 h=>Ab 1 0 (RW.nil ?_))))))));cases h;exact Wp.ret ⟨.inr rfl,BA (by kernel_rfl)⟩
theorem ST (xX:Int) (r:ByteArray) (h:JQ xX=some r):Ba Tryz.prog 72 [.sv (.one (.int .u32 xX))] (Y r) (List.replicate 1 .gone):=by
 unfold JQ at h;refine gk Tryz.func72 rfl Tryz.ntmps72 (ws (Ab 1 0 (RW.nil (ws (Ab 12 0 (RW.q (zO (f:=c5) (fun _=>rfl) [(IntKind.u8.wrap (Int.fdiv xX (2^(min (24:Int).toNat IntKind.u32.bits)))),(IntKind.u8.wrap (Int.fdiv xX (2^(min (16:Int).toNat IntKind.u32.bits)))),(IntKind.u8.wrap (Int.fdiv xX (2^(min (8:Int).toNat IntKind.u32.bits)))),(IntKind.u8.wrap xX)]) (Ab 1 0 (RW.nil ?_))))))));cases h;exact Wp.ret ⟨.inr rfl,BA (by kernel_rfl)⟩
def Xj (a:ByteArray) (z1:Bool):St:=AE [(0,(Y a)),(4,(I (sb (FZ a) 4))),(24,(B z1))] []
theorem ZV (b:ByteArray) (r:ByteArray×Bool) (h:I2 b=some r):Ba Tryz.prog 47 [.sv (Y b)] (.tup [(Y r.1),(B r.2)]) (List.replicate 1 .gone):=by
 unfold I2 at h;refine gk Tryz.func47 rfl Tryz.ntmps47 (ws (Ab 2 0 (RW.nil (ws (Ab 4 0 (RW.nil (Wp.seq (Wp.seq (Bq h [0,4,24] [] (fun a=>(Xj b a)) ?_ ?_)))))))))
 ·intro a h;refine Er [] Ct (fun c E h=>by rcases h with⟨h|h,_⟩<;>cases h) (AC [0,1,2] 0 (WI 10 h (fun h=>?_) (fun h=>?_)))
  ·refine AC [3,4,5,6,7,8,9,10,11,12,13,14,15,16] 0 (Ak ?_);cases h;exact⟨_,rfl,Ay⟩
  refine AC [3,4,5,6] 0 (WI 14 h (fun h=>?_) (fun h=>?_))
  ·refine AC [7,8,9,10,11,12,13,14,15,16] 0 (Ak ?_);cases h;exact⟨_,rfl,Ay⟩
  refine AC [7,8] 0 (bd h fun x1 gx1 h=>KW.q 9 (Ph gx1) (AC [10,11] 0 (bd h fun x2 gx2 h=>KW.q 12 (Ph gx2) (BD 13 (KB.c 0 h (YH _) (fun v1 gv1 h=>BD 14 (KB.c 0 h (ST _) (fun v2 gv2 h=>AC [15,16] 0 (Ak ?_)))))))));cases h;exact⟨_,rfl,Ay⟩
 intro j1 h E hE;refine A9 hE (wc h (fun h=>?_) (fun h=>?_))
 ·refine ws (Ab 2 0 (RW.nil ?_));cases h;exact Wp.ret ⟨.inr rfl,BA (by kernel_rfl)⟩
 refine Wp.skip (ws (Ab 2 0 (bd h fun x3 gx3 h=>RW.q (Ph gx3) (Ab 2 0 (RW.nil ?_)))));cases h;exact Wp.ret ⟨.inr rfl,BA (by kernel_rfl)⟩
def gP (z1:Int) (z2:List Int):St:=AE [(0,(I z1)),(3,(.one (.sl true 5 1 (Ah c5 z2))))] []
def gO (z3:Int) (z4:List Int):St:=AE [(0,(I z3)),(3,(.one (.sl true 5 1 (Ah c5 z4))))] []
theorem I1 (xN:Int) (r:ByteArray) (h:Hx xN=some r):Ba Tryz.prog 78 [.sv (I xN)] (Y r) (List.replicate 1 .gone):=by
 unfold Hx at h;refine gk Tryz.func78 rfl Tryz.ntmps78 (ws (Ab 1 0 (RW.nil (ws (Ab 2 2 (RW.nil (Wp.seq (BP h [0,3] [] (fun s=>(gP s.1 s.2)) [0,3] [] (fun s=>(gO s.1 s.2)) Ay ?_ ?_))))))))
 ·rintro⟨b,a⟩ o (h:MB b a=some o);unfold MB at h;refine Wp.seq (ws (Ab 2 0 (RW.nil (wc h (fun h=>?_) (fun h=>?_)))))
  ·refine Wp.skip (Wp.block (ws (Ab 6 0 (bd h fun q1 gq1 h=>CW (DY k5 (fun _=>rfl) a gq1) (Ab 1 1 (RW.nil (Av (Ab 3 0 (RW.nil ?_)))))))));cases h;exact⟨_,rfl,Ay⟩
  refine Wp.exit ?_;cases h;exact⟨_,rfl,Ay⟩
 intro v1 h E hE;refine A9 hE (ws (Ab 4 0 (bd h fun q2 gq2 h=>CW (DY k5 (fun _=>rfl) v1.2 gq2) (RW.q (zO (f:=c5) (fun _=>rfl) q2) (Ab 1 0 (RW.nil ?_))))));cases h;exact Wp.ret ⟨.inr rfl,BA (by kernel_rfl)⟩
def bC (a:ByteArray) (b:Int) (z1:Int) (z2:Int) (z3:Int):St:=AE [(0,(Y a)),(1,(I b)),(7,(I z1)),(8,(I z2)),(9,(I z3))] []
def bB:St:=AE [] []
def bA (b:ByteArray) (c:Int) (d:Int) (a:Int) (e:Int) (z4:Bool):St:=AE [(0,(Y b)),(1,(I c)),(7,(I d)),(8,(I a)),(9,(I e)),(25,(B z4))] []
def aZ (b:Int) (a:Int) (c:Int) (x1:Int) (z5:Bool):St:=AE [(7,(I (ad b (ml (Int.tmod (IntKind.i64.wrap x1) 128) a)))),(9,(I c)),(54,(B z5))] []
theorem g9 (b:ByteArray) (e:Int) (r:Int×Int×Bool) (h:HQ b e=some r):Ba Tryz.prog 74 [.sv (Y b),.sv (I e)] (.tup [(I r.1),(I r.2.1),(B r.2.2)]) (List.replicate 2 .gone):=by
 unfold HQ at h;refine gk Tryz.func74 rfl Tryz.ntmps74 (ws (Ab 3 0 (RW.nil (Wp.seq (ws (Ab 3 0 (RW.c 0 h (BK _ _ _) (fun v1 gv1 h=>Ab 1 0 (RW.nil (wc h (fun h=>?_) (fun h=>?_)))))))))))
 ·refine ws (Ab 3 0 (RW.nil ?_));cases h;exact Wp.ret ⟨.inr rfl,BA (by kernel_rfl)⟩
 refine Wp.skip (ws (Ab 1 0 (RW.nil (ws (Ab 1 0 (RW.nil (Wp.seq (ws (Ab 2 0 (RW.nil (Em h [0,1,7,8,9] [] (fun s=>(bC b e s.1 s.2.1 s.2.2)) [] [] (fun _=>bB) Ay ?_ ?_)))))))))))
 ·rintro⟨f,d,g⟩ o (h:Df b e f d g=some o) hk1;unfold Df at h;refine Wp.seq (Wp.seq (Bq h [0,1,7,8,9,25] [] (fun a=>(bA b e f d g a)) ?_ ?_))
  ·intro a h;refine Av (Ab 5 0 (AQ 20 h (fun h=>?_) (fun h=>?_)))
   ·refine Ab 5 0 (RW.nil ?_);cases h;exact⟨_,rfl,Ay⟩
   refine Ab 5 0 (RW.nil ?_);cases h;exact⟨_,rfl,Ay⟩
  intro j1 h E hE;refine A9 hE (wc h (fun h=>?_) (fun h=>?_))
  ·refine Wp.skip (Wp.seq (Wp.block (ws (Ab 3 0 (bd h fun x1 gx1 h=>RW.q (fO gx1) (Ab 6 0 (RW.nil (ws (Ab 3 0 (RW.nil (ws (Ab 2 0 ?_))))))))))))
   refine bd h fun x2 gx2 h=>RW.q (fO gx2) (Ab 1 0 (RW.nil (wc h (fun h=>?_) (fun h=>?_))))
   ·refine Wp.seq (Wp.seq (Bq h [7,9,54] [] (fun a=>(aZ f d g x1 a)) ?_ ?_))
    ·intro a h;refine Er [] Ct (fun c E h=>by rcases h with⟨h|h,_⟩<;>cases h) (AC [0,1,2] 0 (WI 45 h (fun h=>?_) (fun h=>?_)))
     ·refine AC [3,5,6,7,8,9,4,10,11] 0 (Ak ?_);cases h;exact⟨_,rfl,Ay⟩
     refine AC [3,5,6,7,8] 0 (bd h fun x3 gx3 h=>KW.q 9 (Ph gx3) (BD 4 (KB.c 0 h (I1 _) (fun v2 gv2 h=>AC [10,11] 0 (Ak ?_)))));cases h;exact⟨_,rfl,Ay⟩
    intro j2 h E hE;refine A9 hE (wc h (fun h=>?_) (fun h=>?_))
    ·refine ws (Ab 3 0 (RW.nil ?_));cases h;replace h:some _=some _:=hk1 _ rfl;cases h;exact Wp.ret ⟨.inr rfl,BA (by kernel_rfl)⟩
    refine Wp.skip (ws (Ab 6 0 (RW.nil ?_)));cases h;replace h:some _=some _:=hk1 _ rfl;cases h;exact Wp.ret ⟨.inr rfl,BA (by kernel_rfl)⟩
   refine Wp.skip (Av (Ab 3 0 (RW.nil ?_)));cases h;exact⟨_,rfl,Ay⟩
  refine Wp.exit ?_;cases h;exact⟨_,rfl,Ay⟩
 intro v3 h E hE;refine A9 hE (ws (Ab 3 0 (RW.nil ?_)));cases h;exact Wp.ret ⟨.inr rfl,BA (by kernel_rfl)⟩
def gM (xC:E7) (v1:Int×Int×Bool) (z1:Bool):St:=AE [(0,(.one (.ptr (.ext 0) 0 [] 0))),(3,(I v1.1)),(4,(I v1.2.1)),(26,(B z1))] [(.ext 0,[.str xC.text_,.int .i64 xC.at_,.bool xC.bad_])]
theorem JO (xC:E7) (r:Int×E7) (h:DW xC=some r):Ba Tryz.prog 48 [.ext [.str xC.text_,.int .i64 xC.at_,.bool xC.bad_]] (I r.1) (.ext [.str r.2.text_,.int .i64 r.2.at_,.bool r.2.bad_]::List.replicate 0 .gone):=by
 unfold DW at h;refine gkx Tryz.func48 rfl Tryz.ntmps48 (ws (Ab 1 0 (RW.nil (Wp.seq (Er [] Ct (fun c E h=>by rcases h with⟨h|h,_⟩<;>cases h) (AC [0,1,2,3,4,5,6,7] 0 (BD 8 (KB.c 0 h (g9 _ _) (fun v1 gv1 h=>AC [9] 1 (Jx 10 (Jx 11 (Jx 12 (AC [13,14,15] 0 ?_)))))))))))));refine Ak (Wp.seq (Wp.seq (Bq h [0,3,4,26] [.ext 0] (fun a=>(gM xC v1 a)) ?_ ?_)))
 ·intro a h;refine Av (Ab 5 0 (AQ 23 h (fun h=>?_) (fun h=>?_)))
  ·refine Ab 3 0 (RW.nil ?_);cases h;exact⟨_,rfl,Ay⟩
  refine Ab 3 0 (RW.nil ?_);cases h;exact⟨_,rfl,Ay⟩
 intro j1 h E hE;refine A9 hE (wc h (fun h=>?_) (fun h=>?_))
 ·refine ws (Ab 4 0 (RW.nil (ws (Ab 1 0 (RW.nil ?_)))));cases h;exact Wp.ret ⟨.inr rfl,sE (by kernel_rfl)⟩
 refine Wp.skip (ws (Ab 5 0 (RW.nil (ws (Ab 2 0 (RW.nil ?_))))));cases h;exact Wp.ret ⟨.inr rfl,sE (by kernel_rfl)⟩
def iE (xP:Page) (z1:Bool):St:=AE [(1,(.one (.ptr (.box 1) 0 [] 0))),(39,(B z1))] [(.box 1,[.int .i64 xP.Kind,.int .i64 xP.Seq,.int .i64 xP.Tx,.int .i64 xP.Part,.int .i64 xP.Count,.str xP.Text])]
theorem nD (xP:Page) (r:Bool) (h:Io xP=some r):Ba Tryz.prog 75 [.sv (.agg [.int .i64 xP.Kind,.int .i64 xP.Seq,.int .i64 xP.Tx,.int .i64 xP.Part,.int .i64 xP.Count,.str xP.Text])] (B r) (List.replicate 1 .gone):=by
 unfold Io at h;refine gk Tryz.func75 rfl Tryz.ntmps75 (ws (Ab 2 0 (RW.nil (Wp.seq (Wp.seq (Bq h [1,39] [.box 1] (fun a=>(iE xP a)) ?_ ?_))))))
 ·intro a h;refine Av (Ab 2 0 (RW.c 0 h (BK _ _ _) (fun v1 gv1 h=>Ab 2 0 (AQ 7 h (fun h=>?_) (fun h=>?_)))))
  ·refine Ab 32 0 (RW.nil ?_);cases h;exact⟨_,rfl,Ay⟩
  refine Ab 2 0 (RW.c 0 h (BK _ _ _) (fun v2 gv2 h=>Ab 3 0 (AQ 13 h (fun h=>?_) (fun h=>?_))))
  ·refine Ab 26 0 (RW.nil ?_);cases h;exact⟨_,rfl,Ay⟩
  refine Ab 2 0 (RW.c 0 h (BK _ _ _) (fun v3 gv3 h=>Ab 3 0 (AQ 19 h (fun h=>?_) (fun h=>?_))))
  ·refine Ab 20 0 (RW.nil ?_);cases h;exact⟨_,rfl,Ay⟩
  refine Ab 2 0 (RW.c 0 h (BK _ _ _) (fun v4 gv4 h=>Ab 3 0 (AQ 25 h (fun h=>?_) (fun h=>?_))))
  ·refine Ab 14 0 (RW.nil ?_);cases h;exact⟨_,rfl,Ay⟩
  refine Ab 5 0 (RW.c 0 h (BK _ _ _) (fun v5 gv5 h=>Ab 3 0 (AQ 34 h (fun h=>?_) (fun h=>?_))))
  ·refine Ab 5 0 (RW.nil ?_);cases h;exact⟨_,rfl,Ay⟩
  refine Ab 5 0 (RW.nil ?_);cases h;exact⟨_,rfl,Ay⟩
 intro j1 h E hE;refine A9 hE (wc h (fun h=>?_) (fun h=>?_))
 ·refine ws (Ab 1 0 (RW.nil ?_));cases h;exact Wp.ret ⟨.inr rfl,BA (by kernel_rfl)⟩
 refine Wp.skip (ws (Ab 4 0 (AQ 43 h (fun h=>?_) (fun h=>?_))))
 ·refine Ab 5 0 (RW.nil ?_);cases h;exact Wp.ret ⟨.inr rfl,BA (by kernel_rfl)⟩
 refine Ab 5 0 (RW.nil ?_);cases h;exact Wp.ret ⟨.inr rfl,BA (by kernel_rfl)⟩
theorem SS (xN:Int) (r:ByteArray) (h:L8 xN=some r):Ba Tryz.prog 77 [.sv (I xN)] (Y r) (List.replicate 1 .gone):=by
 unfold L8 at h;refine gk Tryz.func77 rfl Tryz.ntmps77 (ws (Ab 1 0 (RW.nil (ws (Ab 3 0 (RW.q (zO (f:=c5) (fun _=>rfl) [(IntKind.u8.wrap xN)]) (Ab 1 0 (RW.nil ?_))))))));cases h;exact Wp.ret ⟨.inr rfl,BA (by kernel_rfl)⟩
theorem m6 (a:ByteArray) (r:ByteArray×Bool) (h:In a=some r):Ba Tryz.prog 76 [.sv (Y a)] (.tup [(Y r.1),(B r.2)]) (List.replicate 1 .gone):=by
 unfold In at h;refine gk Tryz.func76 rfl Tryz.ntmps76 (ws (Ab 2 0 (RW.nil (Wp.seq (ws (Ab 3 0 (RW.nil (wc h (fun h=>?_) (fun h=>?_)))))))))
 ·refine ws (Ab 2 0 (RW.nil ?_));cases h;exact Wp.ret ⟨.inr rfl,BA (by kernel_rfl)⟩
 refine Wp.skip (ws (Ab 2 0 (RW.c 0 h (YH _) (fun v1 gv1 h=>RW.c 0 h (ST _) (fun v2 gv2 h=>bd h fun x1 gx1 h=>RW.q (OD gx1) (Ab 2 0 (RW.nil ?_)))))));cases h;exact Wp.ret ⟨.inr rfl,BA (by kernel_rfl)⟩
theorem Ro (xP:Page) (r:ByteArray×Bool) (h:E0 xP=some r):Ba Tryz.prog 49 [.sv (.agg [.int .i64 xP.Kind,.int .i64 xP.Seq,.int .i64 xP.Tx,.int .i64 xP.Part,.int .i64 xP.Count,.str xP.Text])] (.tup [(Y r.1),(B r.2)]) (List.replicate 1 .gone):=by
 unfold E0 at h;refine gk Tryz.func49 rfl Tryz.ntmps49 (ws (Ab 3 0 (RW.nil (Wp.seq (ws (Ab 1 0 (RW.c 0 h (nD _) (fun v1 gv1 h=>Ab 1 0 (RW.nil (wc h (fun h=>?_) (fun h=>?_)))))))))))
 ·refine ws (Ab 2 0 (RW.nil ?_));cases h;exact Wp.ret ⟨.inr rfl,BA (by kernel_rfl)⟩
 refine Wp.skip (Wp.seq (Er [] Ct (fun c E h=>by rcases h with⟨h|h,_⟩<;>cases h) (AC [0,1,3,4,7,8,11,12,15,16,19,20] 0 (BD 2 (KB.c 0 h (SS _) (fun v2 gv2 h=>BD 5 (KB.c 0 h (I1 _) (fun v3 gv3 h=>bd h fun x1 gx1 h=>KW.q 6 (OD gx1) (BD 9 (KB.c 0 h (I1 _) (fun v4 gv4 h=>bd h fun x2 gx2 h=>KW.q 10 (OD gx2) ?_)))))))))));refine BD 13 (KB.c 0 h (I1 _) (fun v5 gv5 h=>bd h fun x3 gx3 h=>KW.q 14 (OD gx3) (BD 17 (KB.c 0 h (I1 _) (fun v6 gv6 h=>bd h fun x4 gx4 h=>KW.q 18 (OD gx4) (bd h fun x5 gx5 h=>KW.q 21 (OD gx5) (BD 22 (KB.c 0 h (m6 _) (fun v7 gv7 h=>Jx 23 (Jx 24 ?_))))))))));refine AC [25,26] 0 (Ak ?_);cases h;exact Wp.ret ⟨.inr rfl,BA (by kernel_rfl)⟩
def X2 (xT:ByteArray) (v1:ByteArray×Bool) (z1:Bool):St:=AE [(0,(Y xT)),(2,(.one (.ptr (.box 2) 0 [] 0))),(4,(Y v1.1)),(6,(.one (.ptr (.box 24) 0 [] 0)))] [(.box 2,[.int .i64 0,.int .i64 0,.int .i64 0,.int .i64 0,.int .i64 0,.str (bs [])]),(.box 24,[.str v1.1,.int .i64 1,.bool z1])]
def X1 (v2:Int×E7) (v3:Int×E7) (v4:Int×E7) (v5:Int×E7) (x1:Int) (x2:ByteArray) (z2:Bool):St:=AE [(2,(.one (.ptr (.box 2) 0 [] 0))),(7,(.one (.ptr (.box 7) 0 [] 0))),(64,(B z2))] [(.box 2,[.int .i64 0,.int .i64 0,.int .i64 0,.int .i64 0,.int .i64 0,.str (bs [])]),(.box 7,[.int .i64 (IntKind.i64.wrap x1),.int .i64 v2.1,.int .i64 v3.1,.int .i64 v4.1,.int .i64 v5.1,.str x2])]
theorem bE (xT:ByteArray) (r:Page×Bool) (h:Ez xT=some r):Ba Tryz.prog 21 [.sv (Y xT)] (.tup [(.agg [.int .i64 r.1.Kind,.int .i64 r.1.Seq,.int .i64 r.1.Tx,.int .i64 r.1.Part,.int .i64 r.1.Count,.str r.1.Text]),(B r.2)]) (List.replicate 1 .gone):=by
 unfold Ez at h;refine gk Tryz.func21 rfl Tryz.ntmps21 (ws (Ab 2 0 (RW.nil (ws (Ab 1 0 (RW.c 0 h (ZV _) (fun v1 gv1 h=>Ab 5 1 (RW.nil (Wp.seq (Bq h [0,2,4,6] [.box 2,.box 24] (fun a=>(X2 xT v1 a)) ?_ ?_))))))))))
 ·intro a h;refine Av (Ab 4 0 (AQ 18 h (fun h=>?_) (fun h=>?_)))
  ·refine Ab 7 0 (RW.nil ?_);cases h;exact⟨_,rfl,Ay⟩
  refine Ab 7 0 (RW.nil ?_);cases h;exact⟨_,rfl,Ay⟩
 intro j1 h E hE;refine A9 hE (ws (Ab 1 0 (G6 h (JO _) (fun _=>rfl) (fun v2 gv2 h=>Ab 3 0 (RW.nil (ws (Ab 1 0 (G6 h (JO _) (fun _=>rfl) (fun v3 gv3 h=>Ab 2 0 (RW.nil (ws (Ab 1 0 (G6 h (JO _) (fun _=>rfl) (fun v4 gv4 h=>?_))))))))))))));refine Ab 2 0 (RW.nil (ws (Ab 1 0 (G6 h (JO _) (fun _=>rfl) (fun v5 gv5 h=>Ab 2 0 (RW.nil (Wp.seq (ws (Ab 4 0 (RW.nil (wc h (fun h=>?_) (fun h=>?_))))))))))))
 ·refine ws (Ab 3 0 (RW.nil ?_));cases h;exact Wp.ret ⟨.inr rfl,BA (by kernel_rfl)⟩
 refine Wp.skip (ws (Ab 1 0 (bd h fun x1 gx1 h=>RW.q (fO gx1) (Ab 3 0 (RW.nil (ws (Ab 5 0 (bd h fun x2 gx2 h=>RW.q (Ph gx2) (Ab 2 0 (RW.nil (ws ?_)))))))))));refine Ab 1 0 (RW.c 0 h (Ro _) (fun v6 gv6 h=>Ab 5 1 (RW.nil (Wp.seq (Wp.seq (Bq h [2,7,64] [.box 2,.box 7] (fun a=>(X1 v2 v3 v4 v5 x1 x2 a)) ?_ ?_))))))
 ·intro a h;refine Av (Ab 3 0 (AQ 60 h (fun h=>?_) (fun h=>?_)))
  ·refine Ab 4 0 (RW.nil ?_);cases h;exact⟨_,rfl,Ay⟩
  refine Ab 4 0 (RW.nil ?_);cases h;exact⟨_,rfl,Ay⟩
 intro j2 h E hE;refine A9 hE (wc h (fun h=>?_) (fun h=>?_))
 ·refine ws (Ab 3 0 (RW.nil ?_));cases h;exact Wp.ret ⟨.inr rfl,BA (by kernel_rfl)⟩
 refine Wp.skip (ws (Ab 3 0 (RW.nil ?_)));cases h;exact Wp.ret ⟨.inr rfl,BA (by kernel_rfl)⟩
def GQ (x:Ar):List TV:=[.int .i64 x.Block,.int .i64 x.Leaf,.int .i64 x.Page.Kind,.int .i64 x.Page.Seq,.int .i64 x.Page.Tx,.int .i64 x.Page.Part,.int .i64 x.Page.Count,.str x.Page.Text]
theorem EG:∀x,(GQ x).length=8:=fun _=>rfl
theorem Tu:∀l,BH (Ah GQ l)=Ah GQ l:=D6 (fun _=>rfl)
def aX (xF:Flash) (z1:List Ar) (z2:Int):St:=AE [(1,(.one (.ptr (.box 1) 0 [] 0))),(3,(.one (.sl true 54 8 (Ah GQ z1)))),(4,(I z2))] [(.box 1,[.sl false 77 3 (Ah (Co false) xF.Blocks)])]
def aW (z3:List Ar):St:=AE [(3,(.one (.sl true 54 8 (Ah GQ z3))))] []
def aV (xF:Flash) (a:Int) (z4:List Ar) (z5:Int):St:=AE [(1,(.one (.ptr (.box 1) 0 [] 0))),(3,(.one (.sl true 54 8 (Ah GQ z4)))),(4,(I a)),(5,(I z5))] [(.box 1,[.sl false 77 3 (Ah (Co false) xF.Blocks)])]
def aU (xF:Flash) (a:Int) (z6:List Ar):St:=AE [(1,(.one (.ptr (.box 1) 0 [] 0))),(3,(.one (.sl true 54 8 (Ah GQ z6)))),(4,(I a))] [(.box 1,[.sl false 77 3 (Ah (Co false) xF.Blocks)])]
def aT (xF:Flash) (b:Int) (a:List Ar) (c:Int) (v2:Page×Bool) (z7:Bool):St:=AE [(1,(.one (.ptr (.box 1) 0 [] 0))),(3,(.one (.sl true 54 8 (Ah GQ a)))),(4,(I b)),(5,(I c)),(8,(.one (.ptr (.box 8) 0 [] 0))),(47,(B z7))] [(.box 1,[.sl false 77 3 (Ah (Co false) xF.Blocks)]),(.box 8,[.int .i64 v2.1.Kind,.int .i64 v2.1.Seq,.int .i64 v2.1.Tx,.int .i64 v2.1.Part,.int .i64 v2.1.Count,.str v2.1.Text])]
def aS (z8:List Ar) (z9:Int):St:=AE [(3,(.one (.sl true 54 8 (Ah GQ z8)))),(10,(I z9))] []
def aR (z10:List Ar):St:=AE [(3,(.one (.sl true 54 8 (Ah GQ z10))))] []
def aQ (a:Int) (z11:List Ar) (z12:Int):St:=AE [(3,(.one (.sl true 54 8 (Ah GQ z11)))),(10,(I a)),(11,(I z12))] []
def aP (a:Int) (z13:List Ar):St:=AE [(3,(.one (.sl true 54 8 (Ah GQ z13)))),(10,(I a))] []
def Xt (b:Int) (a:List Ar) (c:Int) (z14:Bool):St:=AE [(3,(.one (.sl true 54 8 (Ah GQ a)))),(10,(I b)),(11,(I c)),(79,(B z14))] []
theorem G0 (xF:Flash) (r:List Ar) (h:EL xF=some r):Ba Tryz.prog 13 [.sv (.agg [.sl false 77 3 (Ah (Co false) xF.Blocks)])] (.one (.sl true 54 8 (Ah GQ r))) (List.replicate 1 .gone):=by
 unfold EL at h;refine gk Tryz.func13 rfl Tryz.ntmps13 (ws (Ab 2 0 (RW.nil (ws (Ab 2 2 (RW.nil (Wp.seq (ws (Ab 1 0 (RW.nil (BP h [1,3,4] [.box 1] (fun s=>(aX xF s.1 s.2)) [3] [] (fun s=>(aW s)) Ay ?_ ?_)))))))))))
 ·rintro⟨i,d⟩ o (h:DJ xF i d=some o);unfold DJ at h;refine Wp.seq (ws (Ab 3 0 (RW.q (D5 (Fp false) xF.Blocks) (Ab 1 0 (RW.nil (wc h (fun h=>?_) (fun h=>?_)))))))
  ·refine Wp.skip (Wp.seq (Wp.block (ws (Ab 1 0 (RW.nil (BP h [1,3,4,5] [.box 1] (fun s=>(aV xF d s.1 s.2)) [1,3,4] [.box 1] (fun s=>(aU xF d s)) Ay ?_ ?_))))))
   ·rintro⟨b,j⟩ o (h:Ef xF d b j=some o);unfold Ef at h;refine Wp.seq (ws (Ab 4 0 (bd h fun x1 gx1 h=>RW.q (Ck (Fp false) gx1) (RW.q (DB (Fp false) gx1 0 2) (RW.q (CG (Fp false) gx1 2) (RW.q (D5 M1 x1.Leaves) (Ab 1 0 (RW.nil (wc h (fun h=>?_) (fun h=>?_))))))))))
    ·refine Wp.skip (Wp.seq (Wp.block (ws (Ab 3 0 (RW.c 0 h (bF _ _ _) (fun v1 gv1 h=>Ab 5 1 (RW.nil (ws (Ab 1 0 (RW.c 0 h (bE _) (fun v2 gv2 h=>Ab 6 1 (RW.nil (Wp.seq ?_)))))))))))));refine Bq h [1,3,4,5,8,47] [.box 1,.box 8] (fun a=>(aT xF d b j v2 a)) ?_ ?_
     ·intro a h;refine Av (Ab 2 0 (AQ 45 h (fun h=>?_) (fun h=>?_)))
      ·refine Ab 2 0 (RW.nil ?_);cases h;exact⟨_,rfl,Ay⟩
      refine Ab 2 0 (RW.nil ?_);cases h;exact⟨_,rfl,Ay⟩
     intro j1 h E hE;refine A9 hE (wc h (fun h=>?_) (fun h=>?_))
     ·refine Av (Ab 6 0 (bd h fun q1 gq1 h=>CW (DY EG (fun _=>rfl) b gq1) (Ab 1 1 (RW.nil (Av (Ab 3 0 (RW.nil ?_)))))));cases h;exact⟨_,rfl,Ay⟩
     refine Wp.skip (Av (Ab 3 0 (RW.nil ?_)));cases h;exact⟨_,rfl,Ay⟩
    refine Wp.exit ?_;cases h;exact⟨_,rfl,Ay⟩
   intro v3 h E hE;refine A9 hE (Av (Ab 3 0 (RW.nil ?_)));cases h;exact⟨_,rfl,Ay⟩
  refine Wp.exit ?_;cases h;exact⟨_,rfl,Ay⟩
 intro v4 h E hE;refine A9 hE (Wp.seq (ws (Ab 1 0 (RW.nil (BP h [3,10] [] (fun s=>(aS s.1 s.2)) [3] [] (fun s=>(aR s)) Ay ?_ ?_)))))
 ·rintro⟨e,g⟩ o (h:HP e g=some o);unfold HP at h;refine Wp.seq (ws (Ab 2 0 (RW.q (D5 EG e) (Ab 1 0 (RW.nil (wc h (fun h=>?_) (fun h=>?_)))))))
  ·refine Wp.skip (Wp.seq (Wp.block (ws (Ab 2 0 (RW.nil (BP h [3,10,11] [] (fun s=>(aQ g s.1 s.2)) [3,10] [] (fun s=>(aP g s)) Ay ?_ ?_))))))
   ·rintro⟨f,k⟩ o (h:HO f k=some o);unfold HO at h;refine Wp.seq (Wp.seq (Bq h [3,10,11,79] [] (fun a=>(Xt g f k a)) ?_ ?_))
    ·intro a h;refine Ln Ct (Dh 3 (WD 64 h (fun h=>?_) (fun h=>?_)))
     ·refine Dh 3 (bd h fun x2 gx2 h=>SW.q (Ck EG gx2) (SW.q (DB EG gx2 0 2) (SW.q (DB EG gx2 2 3) (SW.q (CG EG gx2 3) (Dh 2 (bd h fun x3 gx3 h=>SW.q (Ck EG gx3) (SW.q (DB EG gx3 0 2) (SW.q (DB EG gx3 2 3) (SW.q (CG EG gx3 3) (Dh 2 (SW.nil ?_)))))))))));cases h;exact⟨_,rfl,Ay⟩
     refine Dh 15 (SW.nil ?_);cases h;exact⟨_,rfl,Ay⟩
    intro j2 h E hE;refine A9 hE (wc h (fun h=>?_) (fun h=>?_))
    ·refine Wp.skip (Wp.seq (Wp.block (ws (Ab 2 0 (bd h fun x4 gx4 h=>RW.q (Ck EG gx4) (RW.q (Rx EG gx4 0 8) (Ab 2 0 (RW.nil (ws (Ab 5 0 (bd h fun x5 gx5 h=>RW.q (Ck EG gx5) ?_)))))))))));refine RW.q (Rx EG gx5 0 8) (bd h fun x6 gx6 h=>RW.q (Ck EG gx6) (CW (N1 EG gx6 0 0 x5) (RW.nil (Av (Ab 4 0 (bd h fun x7 gx7 h=>RW.q (Ck EG gx7) (CW (N1 EG gx7 0 0 x4) (RW.nil (Av (Ab 3 0 (RW.nil ?_)))))))))));cases h;exact⟨_,rfl,Ay⟩
    refine Wp.exit ?_;cases h;exact⟨_,rfl,Ay⟩
   intro v5 h E hE;refine A9 hE (Av (Ab 3 0 (RW.nil ?_)));cases h;exact⟨_,rfl,Ay⟩
  refine Wp.exit ?_;cases h;exact⟨_,rfl,Ay⟩
 intro v6 h E hE;refine A9 hE (ws (Ab 2 2 (RW.nil ?_)));cases h;exact Wp.ret ⟨.inr rfl,BA (by kernel_rfl)⟩
def ZS (xF:Flash) (z1:Int) (z2:List Block):St:=AE [(1,(.one (.ptr (.box 1) 0 [] 0))),(2,(.one (.ptr (.box 2) 0 [] 0))),(3,(.one (.ptr (.box 3) 0 [] 0))),(4,(I z1))] [(.box 1,[.sl false 77 3 (Ah (Co false) xF.Blocks)]),(.box 2,[.sl true 77 3 (Ah (Co true) [])]),(.box 3,[.sl true 77 3 (Ah (Co true) z2)])]
def ZR (z3:List Block):St:=AE [(2,(.one (.ptr (.box 2) 0 [] 0))),(3,(.one (.ptr (.box 3) 0 [] 0)))] [(.box 2,[.sl true 77 3 (Ah (Co true) [])]),(.box 3,[.sl true 77 3 (Ah (Co true) z3)])]
theorem II (xF:Flash) (r:Flash) (h:GV xF=some r):Ba Tryz.prog 123 [.sv (.agg [.sl false 77 3 (Ah (Co false) xF.Blocks)])] (.agg [.sl true 77 3 (Ah (Co true) r.Blocks)]) (List.replicate 1 .gone):=by
 unfold GV at h;refine gk Tryz.func123 rfl Tryz.ntmps123 (ws (Ab 2 0 (RW.nil (ws (Ab 3 0 (RW.nil (Wp.seq (ws (Ab 1 0 (RW.nil (BP h [1,2,3,4] [.box 1,.box 2,.box 3] (fun s=>(ZS xF s.1 s.2)) [2,3] [.box 2,.box 3] (fun s=>(ZR s)) Ay ?_ ?_)))))))))))
 ·rintro⟨b,a⟩ o (h:HJ xF b a=some o);unfold HJ at h;refine Wp.seq (ws (Ab 3 0 (RW.q (D5 (Fp false) xF.Blocks) (Ab 1 0 (RW.nil (wc h (fun h=>?_) (fun h=>?_)))))))
  ·refine Wp.skip (Wp.seq (Wp.block (ws (Ab 3 0 (bd h fun x1 gx1 h=>RW.q (Ck (Fp false) gx1) (RW.q (Rx (Fp false) gx1 0 3) (Ab 2 0 (RW.nil (ws (Ab 3 0 (bd h fun q1 gq1 h=>CW (DY M1 (fun _=>rfl) [] gq1) ?_)))))))))));refine Ab 2 0 (RW.nil (Av (Ab 4 0 (bd h fun q2 gq2 h=>CW (oZ (Fp true) a [(Block.mk x1.Bad x1.Wear q1)] gq2) (Ab 2 0 (RW.nil (Av (Ab 3 0 (RW.nil ?_)))))))));cases h;exact⟨_,rfl,Ay⟩
  refine Wp.exit ?_;cases h;exact⟨_,rfl,Ay⟩
 intro v1 h E hE;refine A9 hE (ws (Ab 2 0 (RW.nil ?_)));cases h;exact Wp.ret ⟨.inr rfl,BA (by kernel_rfl)⟩
def CC (x:Vol):List TV:=[.int .i64 x.Id,.int .i64 x.Root]
theorem DP:∀x,(CC x).length=2:=fun _=>rfl
theorem Fx:∀l,BH (Ah CC l)=Ah CC l:=D6 (fun _=>rfl)
theorem XZ:∀l,AX (Ah CC l)=false:=Kw (fun _=>rfl)
def c3 (x:Int):List TV:=[.int .i64 x]
theorem k3:∀x,(c3 x).length=1:=fun _=>rfl
theorem lL:∀l,BH (Ah c3 l)=Ah c3 l:=D6 (fun _=>rfl)
theorem ns3:∀l,AX (Ah c3 l)=false:=Kw (fun _=>rfl)
def AS (o:Bool) (x:BU):List TV:=[.bool x.Leaf,.sl o 3 1 (Ah c3 x.Kids)]
theorem CH (o:Bool):∀x,(AS o x).length=2:=fun _=>rfl
theorem Dj:∀l,BH (Ah (AS true) l)=Ah (AS false) l:=D6 (fun x=>by simp only [AS,BH,Lk,lL])
theorem Ll:∀l,AX (Ah (AS true) l)=false:=Kw (fun x=>by simp [AS,AX,BC,ns3])
theorem aO (r:Store) (h:NQ=some r):Ba Tryz.prog 124 [] (.agg [.sl true 39 2 (Ah CC r.Vols),.sl true 150 2 (Ah (AS true) r.Arena.Knots),.int .i64 r.Next]) (List.replicate 0 .gone):=by
 unfold NQ at h;refine gk Tryz.func124 rfl Tryz.ntmps124 (ws (Ab 1 0 (RW.nil (ws (Ab 2 0 (RW.nil ?_))))));cases h;exact Wp.ret ⟨.inr rfl,BA (by kernel_rfl)⟩
def m8 (z1:Bool):St:=AE [(2,(B z1))] []
def m7 (xR:Dk) (z2:Bool):St:=AE [(1,(.one (.ptr (.box 1) 0 [] 0))),(37,(B z2))] [(.box 1,[.int .i64 xR.Kind,.int .i64 xR.Vol,.int .i64 xR.Arg,.int .i64 xR.Chunk])]
theorem Su (xR:Dk) (r:Bool) (h:NR xR=some r):Ba Tryz.prog 89 [.sv (.agg [.int .i64 xR.Kind,.int .i64 xR.Vol,.int .i64 xR.Arg,.int .i64 xR.Chunk])] (B r) (List.replicate 1 .gone):=by
 unfold NR at h;refine gk Tryz.func89 rfl Tryz.ntmps89 (ws (Ab 2 0 (RW.nil (Wp.seq (ws (Ab 2 0 (RW.c 0 h (BK _ _ _) (fun v1 gv1 h=>Ab 1 0 (RW.nil (wc h (fun h=>?_) (fun h=>?_)))))))))))
 ·refine ws (Ab 1 0 (RW.nil ?_));cases h;exact Wp.ret ⟨.inr rfl,BA (by kernel_rfl)⟩
 refine Wp.skip (Wp.seq (ws (Ab 3 0 (RW.nil (wc h (fun h=>?_) (fun h=>?_))))))
 ·refine Wp.seq (Bq h [2] [] (fun a=>(m8 a)) ?_ ?_)
  ·intro a h;refine Av (Ab 4 0 (AQ 13 h (fun h=>?_) (fun h=>?_)))
   ·refine Ab 5 0 (RW.nil ?_);cases h;exact⟨_,rfl,Ay⟩
   refine Ab 5 0 (RW.nil ?_);cases h;exact⟨_,rfl,Ay⟩
  intro j1 h E hE;refine A9 hE ?_;cases h;exact Wp.ret ⟨.inr rfl,BA (by kernel_rfl)⟩
 refine Wp.skip (Wp.seq (Wp.seq (Bq h [1,37] [.box 1] (fun a=>(m7 xR a)) ?_ ?_)))
 ·intro a h;refine Av (Ab 2 0 (RW.c 0 h (BK _ _ _) (fun v2 gv2 h=>Ab 2 0 (AQ 22 h (fun h=>?_) (fun h=>?_)))))
  ·refine Ab 15 0 (RW.nil ?_);cases h;exact⟨_,rfl,Ay⟩
  refine Ab 2 0 (RW.c 0 h (BK _ _ _) (fun v3 gv3 h=>Ab 3 0 (AQ 28 h (fun h=>?_) (fun h=>?_))))
  ·refine Ab 9 0 (RW.nil ?_);cases h;exact⟨_,rfl,Ay⟩
  refine Ab 4 0 (AQ 32 h (fun h=>?_) (fun h=>?_))
  ·refine Ab 5 0 (RW.nil ?_);cases h;exact⟨_,rfl,Ay⟩
  refine Ab 5 0 (RW.nil ?_);cases h;exact⟨_,rfl,Ay⟩
 intro j2 h E hE;refine A9 hE (wc h (fun h=>?_) (fun h=>?_))
 ·refine ws (Ab 1 0 (RW.nil ?_));cases h;exact Wp.ret ⟨.inr rfl,BA (by kernel_rfl)⟩
 refine Wp.skip (Wp.seq (ws (Ab 2 0 (RW.nil (Wp.block (ws (Ab 2 0 (RW.nil (wc h (fun h=>?_) (fun h=>?_))))))))))
 ·refine ws (Ab 4 0 (RW.nil ?_));cases h;exact Wp.ret ⟨.inr rfl,BA (by kernel_rfl)⟩
 refine ws (Ab 2 0 (RW.nil (wc h (fun h=>?_) (fun h=>?_))))
 ·refine ws (Ab 4 0 (RW.nil ?_));cases h;exact Wp.ret ⟨.inr rfl,BA (by kernel_rfl)⟩
 refine ws (Ab 2 0 (RW.nil (wc h (fun h=>?_) (fun h=>?_))))
 ·refine ws (Ab 4 0 (AQ 55 h (fun h=>?_) (fun h=>?_)))
  ·refine Ab 2 0 (RW.c 0 h (BK _ _ _) (fun v4 gv4 h=>Ab 2 0 (RW.nil ?_)));cases h;exact Wp.ret ⟨.inr rfl,BA (by kernel_rfl)⟩
  refine Ab 5 0 (RW.nil ?_);cases h;exact Wp.ret ⟨.inr rfl,BA (by kernel_rfl)⟩
 refine Wp.skip (ws (Ab 4 0 (RW.nil ?_)));cases h;exact Wp.ret ⟨.inr rfl,BA (by kernel_rfl)⟩
def Nd (x:Dk):List TV:=[.int .i64 x.Kind,.int .i64 x.Vol,.int .i64 x.Arg,.int .i64 x.Chunk]
theorem Wi:∀x,(Nd x).length=4:=fun _=>rfl
theorem ABa:∀l,BH (Ah Nd l)=Ah Nd l:=D6 (fun _=>rfl)
theorem AB8:∀l,AX (Ah Nd l)=false:=Kw (fun _=>rfl)
def Xz (xT:ByteArray) (z1:List Dk) (z2:ByteArray) (z3:Int) (z4:Bool):St:=AE [(0,(Y xT)),(4,(.one (.sl true 99 4 (Ah Nd z1)))),(5,(.one (.ptr (.box 11) 0 [] 0)))] [(.box 11,[.str z2,.int .i64 z3,.bool z4])]
def Xy (z5:List Dk):St:=AE [(4,(.one (.sl true 99 4 (Ah Nd z5))))] []
def Xx (xT:ByteArray) (a:List Dk) (y01:ByteArray) (y11:Int) (y21:Bool) (z6:Bool):St:=AE [(0,(Y xT)),(4,(.one (.sl true 99 4 (Ah Nd a)))),(5,(.one (.ptr (.box 11) 0 [] 0))),(25,(B z6))] [(.box 11,[.str y01,.int .i64 y11,.bool y21])]
def Xw (xT:ByteArray) (a:List Dk) (x1:Int) (v1:Int×E7) (v2:Int×E7) (z7:Bool):St:=AE [(0,(Y xT)),(4,(.one (.sl true 99 4 (Ah Nd a)))),(5,(.one (.ptr (.box 11) 0 [] 0))),(7,(.one (.ptr (.box 7) 0 [] 0))),(59,(B z7))] [(.box 7,[.int .i64 (qu (IntKind.i64.wrap x1) 16),.int .i64 (Int.tmod (IntKind.i64.wrap x1) 16),.int .i64 v1.1,.int .i64 v2.1]),(.box 11,[.str v2.2.text_,.int .i64 v2.2.at_,.bool v2.2.bad_])]
theorem bD (xT:ByteArray) (r:List Dk×Bool) (h:I4 xT=some r):Ba Tryz.prog 172 [.sv (Y xT)] (.tup [(.one (.sl true 99 4 (Ah Nd r.1))),(B r.2)]) (List.replicate 1 .gone):=by
 unfold I4 at h;refine gk Tryz.func172 rfl Tryz.ntmps172 (ws (Ab 2 0 (RW.nil (ws (Ab 2 2 (RW.nil (ws (Ab 4 0 (RW.nil (Wp.seq (Em h [0,4,5] [.box 11] (fun s=>(Xz xT s.1 s.2.1 s.2.2.1 s.2.2.2)) [4] [] (fun s=>(Xy s)) Ay ?_ ?_)))))))))))
 ·rintro⟨b,y01,y11,y21⟩ o (h:DF xT b y01 y11 y21=some o) hk1;unfold DF at h;refine Wp.seq (Wp.seq (Bq h [0,4,5,25] [.box 11] (fun a=>(Xx xT b y01 y11 y21 a)) ?_ ?_))
  ·intro a h;refine Av (Ab 8 0 (AQ 19 h (fun h=>?_) (fun h=>?_)))
   ·refine Ab 6 0 (RW.nil ?_);cases h;exact⟨_,rfl,Ay⟩
   refine Ab 6 0 (RW.nil ?_);cases h;exact⟨_,rfl,Ay⟩
  intro j1 h E hE;refine A9 hE (wc h (fun h=>?_) (fun h=>?_))
  ·refine Wp.skip (Wp.block (ws (Ab 5 0 (bd h fun x1 gx1 h=>RW.q (fO gx1) (Ab 2 0 (RW.nil (ws (Ab 9 0 (RW.nil (ws (Ab 5 0 (G6 h (JO _) (fun _=>rfl) (fun v1 gv1 h=>?_)))))))))))));refine Ab 3 0 (RW.nil (ws (Ab 1 0 (G6 h (JO _) (fun _=>rfl) (fun v2 gv2 h=>Ab 2 0 (RW.nil (Wp.seq (Wp.seq (Bq h [0,4,5,7,59] [.box 7,.box 11] (fun a=>(Xw xT b x1 v1 v2 a)) ?_ ?_)))))))))
   ·intro a h;refine Av (Ab 5 0 (AQ 55 h (fun h=>?_) (fun h=>?_)))
    ·refine Ab 4 0 (RW.nil ?_);cases h;exact⟨_,rfl,Ay⟩
    refine Ab 1 0 (RW.c 0 h (Su _) (fun v3 gv3 h=>Ab 2 0 (RW.nil ?_)));cases h;exact⟨_,rfl,Ay⟩
   intro j2 h E hE;refine A9 hE (wc h (fun h=>?_) (fun h=>?_))
   ·refine ws (Ab 3 2 (RW.nil ?_));cases h;replace h:some _=some _:=hk1 _ rfl;cases h;exact Wp.ret ⟨.inr rfl,BA (by kernel_rfl)⟩
   refine Wp.skip (Av (Ab 3 0 (bd h fun q1 gq1 h=>CW (DY Wi (fun _=>rfl) b gq1) (Ab 1 1 (RW.nil ?_)))));cases h;exact⟨_,rfl,Ay⟩
  refine Wp.exit ?_;cases h;exact⟨_,rfl,Ay⟩
 intro v4 h E hE;refine A9 hE (ws (Ab 3 2 (RW.nil ?_)));cases h;exact Wp.ret ⟨.inr rfl,BA (by kernel_rfl)⟩
def mU (a:List Ar) (b:Int) (z1:Int) (z2:ByteArray) (z3:Int) (z4:Int):St:=AE [(0,(.one (.sl false 54 8 (Ah GQ a)))),(1,(I b)),(4,(.one (.ptr (.box 4) 0 [] 0))),(6,(.one (.ptr (.box 6) 0 [] 0))),(7,(I z1)),(8,(Y z2)),(9,(I z3))] [(.box 4,[.int .i64 0,.int .i64 0,.sl true 99 4 (Ah Nd [])]),(.box 6,[.int .i64 b,.int .i64 z4,.sl true 99 4 (Ah Nd [])])]
def mT (a:Int) (z5:ByteArray) (z6:Int):St:=AE [(4,(.one (.ptr (.box 4) 0 [] 0))),(6,(.one (.ptr (.box 6) 0 [] 0))),(8,(Y z5))] [(.box 4,[.int .i64 0,.int .i64 0,.sl true 99 4 (Ah Nd [])]),(.box 6,[.int .i64 a,.int .i64 z6,.sl true 99 4 (Ah Nd [])])]
def mS (e:List Ar) (f:Int) (a:Int) (b:ByteArray) (c:Int) (d:Int) (z7:Bool):St:=AE [(0,(.one (.sl false 54 8 (Ah GQ e)))),(1,(I f)),(4,(.one (.ptr (.box 4) 0 [] 0))),(6,(.one (.ptr (.box 6) 0 [] 0))),(7,(I a)),(8,(Y b)),(9,(I c)),(23,(B z7))] [(.box 4,[.int .i64 0,.int .i64 0,.sl true 99 4 (Ah Nd [])]),(.box 6,[.int .i64 f,.int .i64 d,.sl true 99 4 (Ah Nd [])])]
def mR (b:List Ar) (c:Int) (a:Int) (z8:Int) (z9:ByteArray) (z10:Bool) (z11:Int) (z12:Int):St:=AE [(0,(.one (.sl false 54 8 (Ah GQ b)))),(1,(I c)),(4,(.one (.ptr (.box 4) 0 [] 0))),(6,(.one (.ptr (.box 6) 0 [] 0))),(7,(I z8)),(8,(Y z9)),(9,(I a)),(10,(B z10)),(11,(I z11))] [(.box 4,[.int .i64 0,.int .i64 0,.sl true 99 4 (Ah Nd [])]),(.box 6,[.int .i64 c,.int .i64 z12,.sl true 99 4 (Ah Nd [])])]
def mQ (b:List Ar) (c:Int) (a:Int) (z13:Int) (z14:ByteArray) (z15:Bool) (z16:Int):St:=AE [(0,(.one (.sl false 54 8 (Ah GQ b)))),(1,(I c)),(4,(.one (.ptr (.box 4) 0 [] 0))),(6,(.one (.ptr (.box 6) 0 [] 0))),(7,(I z13)),(8,(Y z14)),(9,(I a)),(10,(B z15))] [(.box 4,[.int .i64 0,.int .i64 0,.sl true 99 4 (Ah Nd [])]),(.box 6,[.int .i64 c,.int .i64 z16,.sl true 99 4 (Ah Nd [])])]
def mP (f:List Ar) (g:Int) (c:Int) (a:Int) (d:ByteArray) (b:Bool) (h:Int) (e:Int) (z17:Bool):St:=AE [(0,(.one (.sl false 54 8 (Ah GQ f)))),(1,(I g)),(4,(.one (.ptr (.box 4) 0 [] 0))),(6,(.one (.ptr (.box 6) 0 [] 0))),(7,(I a)),(8,(Y d)),(9,(I c)),(10,(B b)),(11,(I h)),(33,(B z17))] [(.box 4,[.int .i64 0,.int .i64 0,.sl true 99 4 (Ah Nd [])]),(.box 6,[.int .i64 g,.int .i64 e,.sl true 99 4 (Ah Nd [])])]
def mO (f:List Ar) (g:Int) (c:Int) (a:Int) (d:ByteArray) (b:Bool) (h:Int) (e:Int) (x1:Ar) (z18:Bool):St:=AE [(0,(.one (.sl false 54 8 (Ah GQ f)))),(1,(I g)),(4,(.one (.ptr (.box 4) 0 [] 0))),(6,(.one (.ptr (.box 6) 0 [] 0))),(7,(I a)),(8,(Y d)),(9,(I c)),(10,(B b)),(11,(I h)),(12,(.one (.ptr (.box 12) 0 [] 0))),(65,(B z18))] [(.box 4,[.int .i64 0,.int .i64 0,.sl true 99 4 (Ah Nd [])]),(.box 6,[.int .i64 g,.int .i64 e,.sl true 99 4 (Ah Nd [])]),(.box 12,[.int .i64 x1.Page.Kind,.int .i64 x1.Page.Seq,.int .i64 x1.Page.Tx,.int .i64 x1.Page.Part,.int .i64 x1.Page.Count,.str x1.Page.Text])]
def mN (c:List Ar) (d:Int) (a:Int) (e:Int) (b:Int) (x1:Ar) (x2:ByteArray) (z19:Bool):St:=AE [(0,(.one (.sl false 54 8 (Ah GQ c)))),(1,(I d)),(4,(.one (.ptr (.box 4) 0 [] 0))),(6,(.one (.ptr (.box 6) 0 [] 0))),(7,(I x1.Page.Count)),(8,(Y x2)),(9,(I a)),(10,(B true)),(11,(I e)),(12,(.one (.ptr (.box 12) 0 [] 0))),(80,(B z19))] [(.box 4,[.int .i64 0,.int .i64 0,.sl true 99 4 (Ah Nd [])]),(.box 6,[.int .i64 d,.int .i64 b,.sl true 99 4 (Ah Nd [])]),(.box 12,[.int .i64 x1.Page.Kind,.int .i64 x1.Page.Seq,.int .i64 x1.Page.Tx,.int .i64 x1.Page.Part,.int .i64 x1.Page.Count,.str x1.Page.Text])]
theorem r7 (b:List Ar) (e:Int) (r:Tx×Bool) (h:Ri b e=some r):Ba Tryz.prog 149 [.sv (.one (.sl false 54 8 (Ah GQ b))),.sv (I e)] (.tup [(.agg [.int .i64 r.1.Num,.int .i64 r.1.Seq,.sl true 99 4 (Ah Nd r.1.Recs)]),(B r.2)]) (List.replicate 2 .gone):=by
 unfold Ri at h;refine gk Tryz.func149 rfl Tryz.ntmps149 (ws (Ab 2 0 (RW.nil (ws (Ab 4 0 (RW.nil (ws (Ab 1 0 (RW.nil (ws (Ab 1 0 (RW.nil (Wp.seq ?_)))))))))))));refine ws (Ab 1 0 (RW.nil (Em h [0,1,4,6,7,8,9] [.box 4,.box 6] (fun s=>(mU b e s.1 s.2.1 s.2.2.1 s.2.2.2)) [4,6,8] [.box 4,.box 6] (fun s=>(mT e s.1 s.2)) Ay ?_ ?_)))
 ·rintro⟨k,l,d,m⟩ o (h:LV b e k l d m=some o) hk1;unfold LV at h;refine Wp.seq (Wp.seq (Bq h [0,1,4,6,7,8,9,23] [.box 4,.box 6] (fun a=>(mS b e k l d m a)) ?_ ?_))
  ·intro a h;refine Av (Ab 3 0 (AQ 19 h (fun h=>?_) (fun h=>?_)))
   ·refine Ab 4 0 (RW.nil ?_);cases h;exact⟨_,rfl,Ay⟩
   refine Ab 4 0 (RW.nil ?_);cases h;exact⟨_,rfl,Ay⟩
  intro j1 h E hE;refine A9 hE (wc h (fun h=>?_) (fun h=>?_))
  ·refine Wp.skip (Wp.seq (Wp.block (ws (Ab 1 0 (RW.nil (Wp.seq (ws (Ab 1 0 (RW.nil (BP h [0,1,4,6,7,8,9,10,11] [.box 4,.box 6] (fun s=>(mR b e d s.1 s.2.1 s.2.2.1 s.2.2.2.1 s.2.2.2.2)) [0,1,4,6,7,8,9,10] [.box 4,.box 6] (fun s=>(mQ b e d s.1 s.2.1 s.2.2.1 s.2.2.2)) Ay ?_ ?_))))))))))
   ·rintro⟨g,j,i,n,f⟩ o (h:Hv b e d g j i n f=some o);unfold Hv at h;refine Wp.seq (Wp.seq (Bq h [0,1,4,6,7,8,9,10,11,33] [.box 4,.box 6] (fun a=>(mP b e d g j i n f a)) ?_ ?_))
    ·intro a h;refine Av (Ab 2 0 (RW.q (D5 EG b) (Ab 2 0 (AQ 30 h (fun h=>?_) (fun h=>?_)))))
     ·refine Ab 3 0 (RW.nil ?_);cases h;exact⟨_,rfl,Ay⟩
     refine Ab 3 0 (RW.nil ?_);cases h;exact⟨_,rfl,Ay⟩
    intro j2 h E hE;refine A9 hE (wc h (fun h=>?_) (fun h=>?_))
    ·refine Wp.skip (Wp.seq (Wp.block (ws (Ab 2 0 (bd h fun x1 gx1 h=>RW.q (Ck EG gx1) (RW.q (DB EG gx1 0 2) (RW.q (Rx EG gx1 2 6) (Ab 2 0 (RW.nil (Wp.seq (Wp.seq (Bq h [0,1,4,6,7,8,9,10,11,12,65] [.box 4,.box 6,.box 12] (fun a=>(mO b e d g j i n f x1 a)) ?_ ?_))))))))))))
     ·intro a h;refine Av (Ab 4 0 (AQ 44 h (fun h=>?_) (fun h=>?_)))
      ·refine Ab 21 0 (RW.nil ?_);cases h;exact⟨_,rfl,Ay⟩
      refine Ab 6 0 (AQ 50 h (fun h=>?_) (fun h=>?_))
      ·refine Ab 15 0 (RW.nil ?_);cases h;exact⟨_,rfl,Ay⟩
      refine Ab 6 0 (AQ 56 h (fun h=>?_) (fun h=>?_))
      ·refine Ab 9 0 (RW.nil ?_);cases h;exact⟨_,rfl,Ay⟩
      refine Ab 3 0 (AQ 59 h (fun h=>?_) (fun h=>?_))
      ·refine Ab 6 0 (RW.nil ?_);cases h;exact⟨_,rfl,Ay⟩
      refine Ab 6 0 (RW.nil ?_);cases h;exact⟨_,rfl,Ay⟩
     intro j3 h E hE;refine A9 hE (wc h (fun h=>?_) (fun h=>?_))
     ·refine Wp.exit (Av (Ab 3 0 (RW.nil ?_)));cases h;exact⟨_,rfl,Ay⟩
     refine Wp.skip (ws (Ab 1 0 (RW.nil (ws (Ab 3 0 (RW.nil (ws (Ab 3 0 (bd h fun x2 gx2 h=>RW.q (OD gx2) (Ab 1 0 (RW.nil (Wp.seq ?_))))))))))));refine Bq h [0,1,4,6,7,8,9,10,11,12,80] [.box 4,.box 6,.box 12] (fun a=>(mN b e d n f x1 x2 a)) ?_ ?_
     ·intro a h;refine Av (Ab 3 0 (AQ 74 h (fun h=>?_) (fun h=>?_)))
      ·refine Ab 6 0 (RW.nil ?_);cases h;exact⟨_,rfl,Ay⟩
      refine Ab 6 0 (RW.nil ?_);cases h;exact⟨_,rfl,Ay⟩
     intro j4 h E hE;refine A9 hE (wc h (fun h=>?_) (fun h=>?_))
     ·refine Av (Ab 4 0 (RW.nil (Av (Ab 3 0 (RW.nil ?_)))));cases h;exact⟨_,rfl,Ay⟩
     refine Wp.skip (Av (Ab 3 0 (RW.nil ?_)));cases h;exact⟨_,rfl,Ay⟩
    refine Wp.exit ?_;cases h;exact⟨_,rfl,Ay⟩
   intro v1 h E hE;refine A9 hE (ws (Ab 2 0 (RW.nil (wc h (fun h=>?_) (fun h=>?_)))))
   ·refine ws (Ab 3 0 (RW.nil ?_));cases h;replace h:some _=some _:=hk1 _ rfl;cases h;exact Wp.ret ⟨.inr rfl,BA (by kernel_rfl)⟩
   refine Wp.skip (Av (Ab 3 0 (RW.nil ?_)));cases h;exact⟨_,rfl,Ay⟩
  refine Wp.exit ?_;cases h;exact⟨_,rfl,Ay⟩
 intro v2 h E hE;refine A9 hE (ws (Ab 1 0 (RW.c 0 h (bD _) (fun v3 gv3 h=>Ab 5 9 (RW.nil (ws (Ab 3 0 (RW.nil (ws (Ab 4 0 (RW.nil ?_)))))))))));cases h;exact Wp.ret ⟨.inr rfl,BA (by kernel_rfl)⟩
def Ow (o:Bool) (x:Tx):List TV:=[.int .i64 x.Num,.int .i64 x.Seq,.sl o 99 4 (Ah Nd x.Recs)]
theorem Ij (o:Bool):∀x,(Ow o x).length=3:=fun _=>rfl
theorem AAM:∀l,BH (Ah (Ow true) l)=Ah (Ow false) l:=D6 (fun x=>by simp only [Ow,BH,Lk,ABa])
theorem wE:∀l,AX (Ah (Ow true) l)=false:=Kw (fun x=>by simp [Ow,AX,BC,AB8])
def iR (a:List Ar) (z1:List Int) (z2:Int):St:=AE [(0,(.one (.sl false 54 8 (Ah GQ a)))),(3,(.one (.sl true 3 1 (Ah c3 z1)))),(4,(I z2))] []
def iQ (a:List Ar) (z3:List Int):St:=AE [(0,(.one (.sl false 54 8 (Ah GQ a)))),(3,(.one (.sl true 3 1 (Ah c3 z3))))] []
def iP (b:List Ar) (a:List Int) (c:Int) (x1:Ar) (z4:List Int) (z5:Int):St:=AE [(0,(.one (.sl false 54 8 (Ah GQ b)))),(3,(.one (.sl true 3 1 (Ah c3 a)))),(4,(I c)),(5,(.one (.ptr (.box 5) 0 [] 0))),(6,(.one (.sl true 3 1 (Ah c3 z4)))),(7,(I z5))] [(.box 5,[.int .i64 x1.Page.Kind,.int .i64 x1.Page.Seq,.int .i64 x1.Page.Tx,.int .i64 x1.Page.Part,.int .i64 x1.Page.Count,.str x1.Page.Text])]
def iO (b:List Ar) (a:List Int) (c:Int) (x1:Ar) (z6:List Int):St:=AE [(0,(.one (.sl false 54 8 (Ah GQ b)))),(3,(.one (.sl true 3 1 (Ah c3 a)))),(4,(I c)),(5,(.one (.ptr (.box 5) 0 [] 0))),(6,(.one (.sl true 3 1 (Ah c3 z6))))] [(.box 5,[.int .i64 x1.Page.Kind,.int .i64 x1.Page.Seq,.int .i64 x1.Page.Tx,.int .i64 x1.Page.Part,.int .i64 x1.Page.Count,.str x1.Page.Text])]
def iN (b:List Ar) (a:List Int) (c:Int) (x1:Ar) (z7:List Int) (z8:Int):St:=AE [(0,(.one (.sl false 54 8 (Ah GQ b)))),(3,(.one (.sl true 3 1 (Ah c3 a)))),(4,(I c)),(5,(.one (.ptr (.box 5) 0 [] 0))),(6,(.one (.sl true 3 1 (Ah c3 z7)))),(8,(I z8))] [(.box 5,[.int .i64 x1.Page.Kind,.int .i64 x1.Page.Seq,.int .i64 x1.Page.Tx,.int .i64 x1.Page.Part,.int .i64 x1.Page.Count,.str x1.Page.Text])]
def iM (a:List Ar) (b:Int) (z9:List Int):St:=AE [(0,(.one (.sl false 54 8 (Ah GQ a)))),(4,(I b)),(6,(.one (.sl true 3 1 (Ah c3 z9))))] []
def iL (a:List Ar) (v3:List Int) (z10:List Tx) (z11:Int):St:=AE [(0,(.one (.sl false 54 8 (Ah GQ a)))),(3,(.one (.sl true 3 1 (Ah c3 v3)))),(9,(.one (.sl true 178 3 (Ah (Ow true) z10)))),(10,(I z11))] []
def iK (z12:List Tx):St:=AE [(9,(.one (.sl true 178 3 (Ah (Ow true) z12))))] []
theorem VJ (a:List Ar) (r:List Tx) (h:Nn a=some r):Ba Tryz.prog 126 [.sv (.one (.sl false 54 8 (Ah GQ a)))] (.one (.sl true 178 3 (Ah (Ow true) r))) (List.replicate 1 .gone):=by
 unfold Nn at h;refine gk Tryz.func126 rfl Tryz.ntmps126 (ws (Ab 1 0 (RW.nil (ws (Ab 2 2 (RW.nil (Wp.seq (ws (Ab 1 0 (RW.nil (BP h [0,3,4] [] (fun s=>(iR a s.1 s.2)) [0,3] [] (fun s=>(iQ a s)) Ay ?_ ?_)))))))))))
 ·rintro⟨b,f⟩ o (h:H1 a b f=some o);unfold H1 at h;refine Wp.seq (ws (Ab 2 0 (RW.q (D5 EG a) (Ab 1 0 (RW.nil (wc h (fun h=>?_) (fun h=>?_)))))))
  ·refine Wp.skip (Wp.seq (Wp.block (ws (Ab 2 0 (bd h fun x1 gx1 h=>RW.q (Ck EG gx1) (RW.q (DB EG gx1 0 2) (RW.q (Rx EG gx1 2 6) (Ab 2 0 (RW.nil (Wp.seq (ws (Ab 3 0 ?_))))))))))));refine RW.nil (wc h (fun h=>?_) (fun h=>?_))
   ·refine Wp.exit (Av (Ab 3 0 (RW.nil ?_)));cases h;exact⟨_,rfl,Ay⟩
   refine Wp.skip (ws (Ab 2 2 (RW.nil (Wp.seq (ws (Ab 1 0 (RW.nil (BP h [0,3,4,5,6,7] [.box 5] (fun s=>(iP a b f x1 s.1 s.2)) [0,3,4,5,6] [.box 5] (fun s=>(iO a b f x1 s)) Ay ?_ ?_))))))))
   ·rintro⟨d,i⟩ o (h:IQ b x1 d i=some o);unfold IQ at h;refine Wp.seq (ws (Ab 2 0 (RW.q (D5 k3 b) (Ab 1 0 (RW.nil (wc h (fun h=>?_) (fun h=>?_)))))))
    ·refine Wp.skip (Wp.seq (Wp.block (Wp.seq (Ln Ct (Dh 2 (bd h fun x2 gx2 h=>SW.q (Ck k3 gx2) (SW.q (CG k3 gx2 0) (Dh 3 (SW.nil (wc h (fun h=>?_) (fun h=>?_)))))))))))
     ·refine Av (Ab 3 0 (bd h fun x3 gx3 h=>RW.q (Ck k3 gx3) (RW.q (CG k3 gx3 0) (Ab 1 0 (bd h fun q1 gq1 h=>CW (DY k3 (fun _=>rfl) d gq1) (Ab 1 1 (RW.nil (Av (Ab 3 0 (RW.nil ?_))))))))));cases h;exact⟨_,rfl,Ay⟩
     refine Wp.skip (Av (Ab 3 0 (RW.nil ?_)));cases h;exact⟨_,rfl,Ay⟩
    refine Wp.exit ?_;cases h;exact⟨_,rfl,Ay⟩
   intro v1 h E hE;refine A9 hE (ws (Ab 4 0 (bd h fun q2 gq2 h=>CW (DY k3 (fun _=>rfl) v1 gq2) (Ab 1 1 (RW.nil (Wp.seq (ws (Ab 1 0 (RW.nil (BP h [0,3,4,5,6,8] [.box 5] (fun s=>(iN a b f x1 s.1 s.2)) [0,4,6] [] (fun s=>(iM a f s)) Ay ?_ ?_))))))))))
   ·rintro⟨e,j⟩ o (h:IP b x1 e j=some o);unfold IP at h;refine Wp.seq (ws (Ab 2 0 (RW.q (D5 k3 b) (Ab 1 0 (RW.nil (wc h (fun h=>?_) (fun h=>?_)))))))
    ·refine Wp.skip (Wp.seq (Wp.block (Wp.seq (Ln Ct (Dh 2 (bd h fun x4 gx4 h=>SW.q (Ck k3 gx4) (SW.q (CG k3 gx4 0) (Dh 3 (SW.nil (wc h (fun h=>?_) (fun h=>?_)))))))))))
     ·refine Av (Ab 3 0 (bd h fun x5 gx5 h=>RW.q (Ck k3 gx5) (RW.q (CG k3 gx5 0) (Ab 1 0 (bd h fun q3 gq3 h=>CW (DY k3 (fun _=>rfl) e gq3) (Ab 1 1 (RW.nil (Av (Ab 3 0 (RW.nil ?_))))))))));cases h;exact⟨_,rfl,Ay⟩
     refine Wp.skip (Av (Ab 3 0 (RW.nil ?_)));cases h;exact⟨_,rfl,Ay⟩
    refine Wp.exit ?_;cases h;exact⟨_,rfl,Ay⟩
   intro v2 h E hE;refine A9 hE (Av (Ab 2 2 (RW.nil (Av (Ab 3 0 (RW.nil ?_))))));cases h;exact⟨_,rfl,Ay⟩
  refine Wp.exit ?_;cases h;exact⟨_,rfl,Ay⟩
 intro v3 h E hE;refine A9 hE (ws (Ab 2 2 (RW.nil (Wp.seq (ws (Ab 1 0 (RW.nil (BP h [0,3,9,10] [] (fun s=>(iL a v3 s.1 s.2)) [9] [] (fun s=>(iK s)) Ay ?_ ?_))))))))
 ·rintro⟨g,k⟩ o (h:H0 a v3 g k=some o);unfold H0 at h;refine Wp.seq (ws (Ab 2 0 (RW.q (D5 k3 v3) (Ab 1 0 (RW.nil (wc h (fun h=>?_) (fun h=>?_)))))))
  ·refine Wp.skip (Wp.seq (Wp.block (ws (Ab 3 0 (bd h fun x6 gx6 h=>RW.q (Ck k3 gx6) (RW.q (CG k3 gx6 0) (RW.c 0 h (r7 _ _) (fun v4 gv4 h=>Ab 6 1 (RW.nil (ws (Ab 1 0 (RW.nil ?_))))))))))));refine wc h (fun h=>?_) (fun h=>?_)
   ·refine Av (Ab 3 0 (bd h fun q4 gq4 h=>CW (oZ (Ij true) g [v4.1] gq4) (Ab 1 1 (RW.nil (Av (Ab 3 0 (RW.nil ?_)))))));cases h;exact⟨_,rfl,Ay⟩
   refine Wp.skip (Av (Ab 3 0 (RW.nil ?_)));cases h;exact⟨_,rfl,Ay⟩
  refine Wp.exit ?_;cases h;exact⟨_,rfl,Ay⟩
 intro v5 h E hE;refine A9 hE (ws (Ab 2 2 (RW.nil ?_)));cases h;exact Wp.ret ⟨.inr rfl,BA (by kernel_rfl)⟩
def Vw (a:List Tx) (z1:Int) (z2:Int):St:=AE [(0,(.one (.sl false 178 3 (Ah (Ow false) a)))),(3,(I z1)),(4,(I z2))] []
def Vv (a:List Tx) (z3:Int):St:=AE [(0,(.one (.sl false 178 3 (Ah (Ow false) a)))),(3,(I z3))] []
def Vu (a:List Tx) (z4:List Tx) (z5:Int):St:=AE [(0,(.one (.sl false 178 3 (Ah (Ow false) a)))),(5,(.one (.sl true 178 3 (Ah (Ow true) z4)))),(6,(I z5))] []
def Vt (z6:List Tx):St:=AE [(5,(.one (.sl true 178 3 (Ah (Ow true) z6))))] []
theorem Xs (a:List Tx) (r:List Tx) (h:K8 a=some r):Ba Tryz.prog 125 [.sv (.one (.sl false 178 3 (Ah (Ow false) a)))] (.one (.sl true 178 3 (Ah (Ow true) r))) (List.replicate 1 .gone):=by
 unfold K8 at h;refine gk Tryz.func125 rfl Tryz.ntmps125 (ws (Ab 1 0 (RW.nil (ws (Ab 1 0 (RW.nil (Wp.seq (ws (Ab 1 0 (RW.nil (BP h [0,3,4] [] (fun s=>(Vw a s.1 s.2)) [0,3] [] (fun s=>(Vv a s)) Ay ?_ ?_)))))))))))
 ·rintro⟨c,d⟩ o (h:EV a c d=some o);unfold EV at h;refine Wp.seq (ws (Ab 2 0 (RW.q (D5 (Ij false) a) (Ab 1 0 (RW.nil (wc h (fun h=>?_) (fun h=>?_)))))))
  ·refine Wp.skip (Wp.seq (Wp.block (ws (Ab 2 0 (bd h fun x1 gx1 h=>RW.q (Ck (Ij false) gx1) (RW.q (DB (Ij false) gx1 0 2) (RW.q (CG (Ij false) gx1 2) (RW.q (D5 Wi x1.Recs) (Ab 2 0 (AQ 21 h (fun h=>?_) (fun h=>?_)))))))))))
   ·refine Ab 2 0 (bd h fun x2 gx2 h=>RW.q (Ck (Ij false) gx2) (RW.q (DB (Ij false) gx2 0 2) (RW.q (CG (Ij false) gx2 2) (bd h fun x3 gx3 h=>RW.q (Ck Wi gx3) (RW.q (DB Wi gx3 0 0) (RW.q (CG Wi gx3 0) (Ab 2 0 (RW.nil (wc h (fun h=>?_) (fun h=>?_))))))))))
    ·refine Av (Ab 2 0 (RW.nil (Av (Ab 3 0 (RW.nil ?_)))));cases h;exact⟨_,rfl,Ay⟩
    refine Wp.skip (Av (Ab 3 0 (RW.nil ?_)));cases h;exact⟨_,rfl,Ay⟩
   refine Ab 10 0 (RW.nil (wf (Wp.skip (Av (Ab 3 0 (RW.nil ?_))))));cases h;exact⟨_,rfl,Ay⟩
  refine Wp.exit ?_;cases h;exact⟨_,rfl,Ay⟩
 intro v1 h E hE;refine A9 hE (ws (Ab 2 2 (RW.nil (Wp.seq (ws (Ab 2 0 (RW.nil (BP h [0,5,6] [] (fun s=>(Vu a s.1 s.2)) [5] [] (fun s=>(Vt s)) Ay ?_ ?_))))))))
 ·rintro⟨b,e⟩ o (h:Gj a b e=some o);unfold Gj at h;refine Wp.seq (ws (Ab 2 0 (RW.q (D5 (Ij false) a) (Ab 1 0 (RW.nil (wc h (fun h=>?_) (fun h=>?_)))))))
  ·refine Wp.skip (Wp.seq (Wp.block (ws (Ab 2 0 (bd h fun x4 gx4 h=>RW.q (Ck (Ij false) gx4) (RW.q (Rx (Ij false) gx4 0 3) (Ab 2 0 (RW.nil (ws (Ab 3 0 (bd h fun q1 gq1 h=>CW (DY Wi (fun _=>rfl) [] gq1) ?_)))))))))));refine Ab 2 0 (RW.nil (Av (Ab 3 0 (bd h fun q2 gq2 h=>CW (oZ (Ij true) b [(Tx.mk x4.Num x4.Seq q1)] gq2) (Ab 1 1 (RW.nil (Av (Ab 3 0 (RW.nil ?_)))))))));cases h;exact⟨_,rfl,Ay⟩
  refine Wp.exit ?_;cases h;exact⟨_,rfl,Ay⟩
 intro v2 h E hE;refine A9 hE (ws (Ab 2 2 (RW.nil ?_)));cases h;exact Wp.ret ⟨.inr rfl,BA (by kernel_rfl)⟩
def ZQ (xA:Arena) (z1:Int) (z2:List BU):St:=AE [(1,(.one (.ptr (.box 1) 0 [] 0))),(2,(.one (.ptr (.box 2) 0 [] 0))),(3,(.one (.ptr (.box 3) 0 [] 0))),(4,(I z1))] [(.box 1,[.sl false 150 2 (Ah (AS false) xA.Knots)]),(.box 2,[.sl true 150 2 (Ah (AS true) [])]),(.box 3,[.sl true 150 2 (Ah (AS true) z2)])]
def ZP (z3:List BU):St:=AE [(2,(.one (.ptr (.box 2) 0 [] 0))),(3,(.one (.ptr (.box 3) 0 [] 0)))] [(.box 2,[.sl true 150 2 (Ah (AS true) [])]),(.box 3,[.sl true 150 2 (Ah (AS true) z3)])]
theorem OW (xA:Arena) (r:Arena) (h:JN xA=some r):Ba Tryz.prog 87 [.sv (.agg [.sl false 150 2 (Ah (AS false) xA.Knots)])] (.agg [.sl true 150 2 (Ah (AS true) r.Knots)]) (List.replicate 1 .gone):=by
 unfold JN at h;refine gk Tryz.func87 rfl Tryz.ntmps87 (ws (Ab 2 0 (RW.nil (ws (Ab 3 0 (RW.nil (Wp.seq (ws (Ab 1 0 (RW.nil (BP h [1,2,3,4] [.box 1,.box 2,.box 3] (fun s=>(ZQ xA s.1 s.2)) [2,3] [.box 2,.box 3] (fun s=>(ZP s)) Ay ?_ ?_)))))))))))
 ·rintro⟨b,a⟩ o (h:HI xA b a=some o);unfold HI at h;refine Wp.seq (ws (Ab 3 0 (RW.q (D5 (CH false) xA.Knots) (Ab 1 0 (RW.nil (wc h (fun h=>?_) (fun h=>?_)))))))
  ·refine Wp.skip (Wp.seq (Wp.block (Er [18,20] Ct (fun c E h=>by rcases h with⟨h|h,_⟩<;>cases h) (AC [0,1,2,3,4] 0 (bd h fun x1 gx1 h=>KW.q 5 (Ck (CH false) gx1) (KW.q 6 (DB (CH false) gx1 0 0) (KW.q 7 (CG (CH false) gx1 0) (AC [9,10,11] 0 (bd h fun x2 gx2 h=>KW.q 12 (Ck (CH false) gx2) (KW.q 13 (DB (CH false) gx2 0 1) (KW.q 14 (CG (CH false) gx2 1) ?_)))))))))));refine BD 8 (pM (BD 15 (bd h fun q1 gq1 h=>fI (DY k3 (fun _=>rfl) [] gq1) (AC [16,17] 0 (BD 18 (bd h fun q2 gq2 h=>M5 (oZ (CH true) a [(BU.mk x1.Leaf q1)] gq2) (AC [19,20] 0 (Ak (Av (Ab 3 0 (RW.nil ?_)))))))))));cases h;exact⟨_,rfl,Ay⟩
  refine Wp.exit ?_;cases h;exact⟨_,rfl,Ay⟩
 intro v1 h E hE;refine A9 hE (ws (Ab 2 0 (RW.nil ?_)));cases h;exact Wp.ret ⟨.inr rfl,BA (by kernel_rfl)⟩
theorem F8 (xS:Store) (r:Store) (h:DZ xS=some r):Ba Tryz.prog 57 [.sv (.agg [.sl false 39 2 (Ah CC xS.Vols),.sl false 150 2 (Ah (AS false) xS.Arena.Knots),.int .i64 xS.Next])] (.agg [.sl true 39 2 (Ah CC r.Vols),.sl true 150 2 (Ah (AS true) r.Arena.Knots),.int .i64 r.Next]) (List.replicate 1 .gone):=by
 unfold DZ at h;refine gk Tryz.func57 rfl Tryz.ntmps57 (ws (Ab 2 0 (RW.nil (Wp.seq (Er [10] Ct (fun c E h=>by rcases h with⟨h|h,_⟩<;>cases h) (AC [1,2,4,5,7,8] 0 (BD 0 (pM (BD 3 (bd h fun q1 gq1 h=>fI (DY DP (fun _=>rfl) [] gq1) (BD 6 (KB.c 0 h (OW _) (fun v1 gv1 h=>AC [9,10] 0 ?_)))))))))))));refine Ak ?_;cases h;exact Wp.ret ⟨.inr rfl,BA (by kernel_rfl)⟩
def cN (xA:Arena) (z1:Int):St:=AE [(1,(.one (.ptr (.box 1) 0 [] 0))),(3,(I z1))] [(.box 1,[.sl false 150 2 (Ah (AS false) xA.Knots)])]
def cM:St:=AE [] []
def cL (xA:Arena) (a:Int) (x1:BU) (z2:Int):St:=AE [(1,(.one (.ptr (.box 1) 0 [] 0))),(3,(I a)),(4,(.one (.ptr (.box 4) 0 [] 0))),(5,(I z2))] [(.box 1,[.sl false 150 2 (Ah (AS false) xA.Knots)]),(.box 4,[.bool x1.Leaf,.sl false 3 1 (Ah c3 x1.Kids)])]
def cK (xA:Arena) (a:Int):St:=AE [(1,(.one (.ptr (.box 1) 0 [] 0))),(3,(I a))] [(.box 1,[.sl false 150 2 (Ah (AS false) xA.Knots)])]
def cJ (xA:Arena) (a:Int) (x1:BU) (b:Int) (z3:Bool):St:=AE [(1,(.one (.ptr (.box 1) 0 [] 0))),(3,(I a)),(4,(.one (.ptr (.box 4) 0 [] 0))),(5,(I b)),(62,(B z3))] [(.box 1,[.sl false 150 2 (Ah (AS false) xA.Knots)]),(.box 4,[.bool x1.Leaf,.sl false 3 1 (Ah c3 x1.Kids)])]
theorem MF (xA:Arena) (r:Bool) (h:F6 xA=some r):Ba Tryz.prog 62 [.sv (.agg [.sl false 150 2 (Ah (AS false) xA.Knots)])] (B r) (List.replicate 1 .gone):=by
 unfold F6 at h;refine gk Tryz.func62 rfl Tryz.ntmps62 (ws (Ab 2 0 (RW.nil (Wp.seq (ws (Ab 1 0 (RW.nil (Em h [1,3] [.box 1] (fun s=>(cN xA s)) [] [] (fun _=>cM) Ay ?_ ?_))))))))
 ·rintro b o (h:D1 xA b=some o) hk1;unfold D1 at h;refine Wp.seq (ws (Ab 3 0 (RW.q (D5 (CH false) xA.Knots) (Ab 1 0 (RW.nil (wc h (fun h=>?_) (fun h=>?_)))))))
  ·refine Wp.skip (Wp.seq (Wp.block (ws (Ab 3 0 (bd h fun x1 gx1 h=>RW.q (Ck (CH false) gx1) (RW.q (Rx (CH false) gx1 0 2) (Ab 2 0 (RW.nil (Wp.seq (ws (Ab 2 0 (RW.q (D5 k3 x1.Kids) ?_))))))))))));refine Ab 1 0 (RW.nil (wc h (fun h=>?_) (fun h=>?_)))
   ·refine ws (Ab 1 0 (RW.nil ?_));cases h;replace h:some _=some _:=hk1 _ rfl;cases h;exact Wp.ret ⟨.inr rfl,BA (by kernel_rfl)⟩
   refine Wp.skip (ws (Ab 1 0 (RW.nil (Em h [1,3,4,5] [.box 1,.box 4] (fun s=>(cL xA b x1 s)) [1,3] [.box 1] (fun _=>(cK xA b)) Ay ?_ ?_))))
   ·rintro d o (h:D0 xA b x1 d=some o) hk2;unfold D0 at h;refine Wp.seq (ws (Ab 2 0 (RW.nil (wc h (fun h=>?_) (fun h=>?_)))))
    ·refine Wp.skip (Wp.seq (Wp.block (ws (Ab 3 0 (bd h fun x2 gx2 h=>RW.q (Ck k3 gx2) (RW.q (CG k3 gx2 0) (Ab 1 0 (RW.nil (Wp.seq (Bq h [1,3,4,5,62] [.box 1,.box 4] (fun a=>(cJ xA b x1 d a)) ?_ ?_))))))))))
     ·intro a h;refine Av (Ab 3 0 (AQ 34 h (fun h=>?_) (fun h=>?_)))
      ·refine Ab 4 0 (AQ 38 h (fun h=>?_) (fun h=>?_))
       ·refine Ab 24 0 (RW.nil ?_);cases h;exact⟨_,rfl,Ay⟩
       refine Ab 4 0 (AQ 42 h (fun h=>?_) (fun h=>?_))
       ·refine Ab 4 0 (AQ 46 h (fun h=>?_) (fun h=>?_))
        ·refine Ab 3 0 (RW.c 0 h (BK _ _ _) (fun v1 gv1 h=>Ab 2 0 (AQ 52 h (fun h=>?_) (fun h=>?_))))
         ·refine Ab 10 0 (RW.nil ?_);cases h;exact⟨_,rfl,Ay⟩
         refine Ab 3 0 (bd h fun x3 gx3 h=>RW.q (Ck (CH false) gx3) (RW.q (DB (CH false) gx3 0 0) (RW.q (CG (CH false) gx3 0) (Ab 4 0 (RW.nil ?_)))));cases h;exact⟨_,rfl,Ay⟩
        refine Ab 16 0 (RW.nil ?_);cases h;exact⟨_,rfl,Ay⟩
       refine Ab 20 0 (RW.nil ?_);cases h;exact⟨_,rfl,Ay⟩
      refine Ab 8 0 (AQ 42 h (fun h=>?_) (fun h=>?_))
      ·refine Ab 4 0 (AQ 46 h (fun h=>?_) (fun h=>?_))
       ·refine Ab 3 0 (RW.c 0 h (BK _ _ _) (fun v2 gv2 h=>Ab 2 0 (AQ 52 h (fun h=>?_) (fun h=>?_))))
        ·refine Ab 10 0 (RW.nil ?_);cases h;exact⟨_,rfl,Ay⟩
        refine Ab 3 0 (bd h fun x4 gx4 h=>RW.q (Ck (CH false) gx4) (RW.q (DB (CH false) gx4 0 0) (RW.q (CG (CH false) gx4 0) (Ab 4 0 (RW.nil ?_)))));cases h;exact⟨_,rfl,Ay⟩
       refine Ab 16 0 (RW.nil ?_);cases h;exact⟨_,rfl,Ay⟩
      refine Ab 20 0 (RW.nil ?_);cases h;exact⟨_,rfl,Ay⟩
     intro j1 h E hE;refine A9 hE (wc h (fun h=>?_) (fun h=>?_))
     ·refine ws (Ab 1 0 (RW.nil ?_));cases h;replace h:some _=some _:=hk2 _ rfl;cases h;replace h:some _=some _:=hk1 _ rfl;cases h;exact Wp.ret ⟨.inr rfl,BA (by kernel_rfl)⟩
     refine Wp.skip (Av (Ab 3 0 (RW.nil ?_)));cases h;exact⟨_,rfl,Ay⟩
    refine Wp.exit ?_;cases h;exact⟨_,rfl,Ay⟩
   intro v3 h E hE;refine A9 hE (Av (Ab 3 0 (RW.nil ?_)));cases h;exact⟨_,rfl,Ay⟩
  refine Wp.exit ?_;cases h;exact⟨_,rfl,Ay⟩
 intro v4 h E hE;refine A9 hE (ws (Ab 1 0 (RW.nil ?_)));cases h;exact Wp.ret ⟨.inr rfl,BA (by kernel_rfl)⟩
theorem K5 (xA:Arena) (a:Int) (r:Bool) (h:Gh xA a=some r):Ba Tryz.prog 63 [.sv (.agg [.sl false 150 2 (Ah (AS false) xA.Knots)]),.sv (I a)] (B r) (List.replicate 2 .gone):=by
 unfold Gh at h;refine gk Tryz.func63 rfl Tryz.ntmps63 (ws (Ab 2 0 (RW.nil (ws (Ab 3 0 (AQ 7 h (fun h=>?_) (fun h=>?_)))))))
 ·refine Ab 17 0 (RW.nil ?_);cases h;exact Wp.ret ⟨.inr rfl,BA (by kernel_rfl)⟩
 refine Ab 3 0 (RW.q (D5 (CH false) xA.Knots) (Ab 1 0 (RW.c 0 h (BK _ _ _) (fun v1 gv1 h=>Ab 1 0 (AQ 14 h (fun h=>?_) (fun h=>?_))))))
 ·refine Ab 3 0 (bd h fun x1 gx1 h=>RW.q (Ck (CH false) gx1) (RW.q (DB (CH false) gx1 0 0) (RW.q (CG (CH false) gx1 0) (Ab 4 0 (RW.nil ?_)))));cases h;exact Wp.ret ⟨.inr rfl,BA (by kernel_rfl)⟩
 refine Ab 10 0 (RW.nil ?_);cases h;exact Wp.ret ⟨.inr rfl,BA (by kernel_rfl)⟩
theorem Vk (xA:Arena) (b:Int) (a:Int) (r:Int) (h:K6 xA b a=some r):Ba Tryz.prog 64 [.sv (.agg [.sl false 150 2 (Ah (AS false) xA.Knots)]),.sv (I b),.sv (I a)] (I r) (List.replicate 3 .gone):=by
 unfold K6 at h;refine gk Tryz.func64 rfl Tryz.ntmps64 (ws (Ab 2 0 (RW.nil (Wp.seq (ws (Ab 2 0 (RW.nil (wc h (fun h=>?_) (fun h=>?_)))))))))
 ·refine ws (Ab 1 0 (RW.nil ?_));cases h;exact Wp.ret ⟨.inr rfl,BA (by kernel_rfl)⟩
 refine Wp.skip (ws (Ab 3 0 (bd h fun x1 gx1 h=>RW.q (Ck (CH false) gx1) (RW.q (DB (CH false) gx1 0 1) (RW.q (CG (CH false) gx1 1) (Ab 2 0 (bd h fun x2 gx2 h=>RW.q (Ck k3 gx2) (RW.q (CG k3 gx2 0) (Ab 1 0 (RW.nil (Wp.seq ?_)))))))))));refine ws (Ab 2 0 (RW.nil (wc h (fun h=>?_) (fun h=>?_))))
 ·refine ws (Ab 1 0 (RW.nil ?_));cases h;exact Wp.ret ⟨.inr rfl,BA (by kernel_rfl)⟩
 refine Wp.skip (ws (Ab 3 0 (bd h fun x3 gx3 h=>RW.q (Ck (CH false) gx3) (RW.q (DB (CH false) gx3 0 1) (RW.q (CG (CH false) gx3 1) (Ab 2 0 (bd h fun x4 gx4 h=>RW.q (Ck k3 gx4) (RW.q (CG k3 gx4 0) (Ab 1 0 (RW.nil ?_))))))))));cases h;exact Wp.ret ⟨.inr rfl,BA (by kernel_rfl)⟩
def WZ (xS:Store) (z1:List Int) (z2:Int):St:=AE [(1,(.one (.ptr (.box 1) 0 [] 0))),(3,(.one (.sl true 3 1 (Ah c3 z1)))),(4,(I z2))] [(.box 1,[.sl false 39 2 (Ah CC xS.Vols),.sl false 150 2 (Ah (AS false) xS.Arena.Knots),.int .i64 xS.Next])]
def WY (z3:List Int):St:=AE [(3,(.one (.sl true 3 1 (Ah c3 z3))))] []
theorem Lu (xS:Store) (r:List Int) (h:JL xS=some r):Ba Tryz.prog 121 [.sv (.agg [.sl false 39 2 (Ah CC xS.Vols),.sl false 150 2 (Ah (AS false) xS.Arena.Knots),.int .i64 xS.Next])] (.one (.sl true 3 1 (Ah c3 r))) (List.replicate 1 .gone):=by
 unfold JL at h;refine gk Tryz.func121 rfl Tryz.ntmps121 (ws (Ab 2 0 (RW.nil (ws (Ab 2 2 (RW.nil (Wp.seq (ws (Ab 1 0 (RW.nil (BP h [1,3,4] [.box 1] (fun s=>(WZ xS s.1 s.2)) [3] [] (fun s=>(WY s)) Ay ?_ ?_)))))))))))
 ·rintro⟨a,b⟩ o (h:FM xS a b=some o);unfold FM at h;refine Wp.seq (ws (Ab 3 0 (RW.q (D5 DP xS.Vols) (Ab 1 0 (RW.nil (wc h (fun h=>?_) (fun h=>?_)))))))
  ·refine Wp.skip (Wp.seq (Wp.block (Av (Ab 4 0 (bd h fun x1 gx1 h=>RW.q (Ck DP gx1) (RW.q (DB DP gx1 0 1) (RW.q (CG DP gx1 1) (Ab 1 0 (bd h fun q1 gq1 h=>CW (DY k3 (fun _=>rfl) a gq1) (Ab 1 1 (RW.nil ?_)))))))))));refine Av (Ab 3 0 (RW.nil ?_));cases h;exact⟨_,rfl,Ay⟩
  refine Wp.exit ?_;cases h;exact⟨_,rfl,Ay⟩
 intro v1 h E hE;refine A9 hE (ws (Ab 2 2 (RW.nil ?_)));cases h;exact Wp.ret ⟨.inr rfl,BA (by kernel_rfl)⟩
def c4 (x:Bool):List TV:=[.bool x]
theorem k4:∀x,(c4 x).length=1:=fun _=>rfl
theorem sh4:∀l,BH (Ah c4 l)=Ah c4 l:=D6 (fun _=>rfl)
theorem ns4:∀l,AX (Ah c4 l)=false:=Kw (fun _=>rfl)
def gL (xA:Arena) (a:Int) (z1:List Bool) (z2:Int):St:=AE [(1,(I a)),(2,(.one (.ptr (.box 2) 0 [] 0))),(5,(.one (.sl true 4 1 (Ah c4 z1)))),(6,(I z2))] [(.box 2,[.sl false 150 2 (Ah (AS false) xA.Knots)])]
def gK (z3:List Bool):St:=AE [(5,(.one (.sl true 4 1 (Ah c4 z3))))] []
theorem mM (xA:Arena) (a:Int) (r:List Bool) (h:OV xA a=some r):Ba Tryz.prog 147 [.sv (.agg [.sl false 150 2 (Ah (AS false) xA.Knots)]),.sv (I a)] (.one (.sl true 4 1 (Ah c4 r))) (List.replicate 2 .gone):=by
 unfold OV at h;refine gk Tryz.func147 rfl Tryz.ntmps147 (ws (Ab 2 0 (RW.nil (ws (Ab 2 0 (RW.q (D5 (CH false) xA.Knots) (bd h fun q1 gq1 h=>CW (fmk k4 false gq1) (Ab 1 1 (RW.nil (Wp.seq (ws (Ab 2 0 ?_))))))))))));refine RW.nil (wc h (fun h=>?_) (fun h=>?_))
 ·refine ws (Ab 2 2 (RW.nil ?_));cases h;exact Wp.ret ⟨.inr rfl,BA (by kernel_rfl)⟩
 refine Wp.skip (ws (Ab 2 0 (bd h fun x1 gx1 h=>RW.q (Ck k4 gx1) (CW (N1 k4 gx1 0 0 true) (RW.nil (Wp.seq (ws (Ab 1 0 (RW.nil (BP h [1,2,5,6] [.box 2] (fun s=>(gL xA a s.1 s.2)) [5] [] (fun s=>(gK s)) Ay ?_ ?_))))))))))
 ·rintro⟨b,c⟩ o (h:Hu xA a b c=some o);unfold Hu at h;refine Wp.seq (ws (Ab 2 0 (RW.nil (wc h (fun h=>?_) (fun h=>?_)))))
  ·refine Wp.skip (Wp.seq (Wp.block (ws (Ab 3 0 (bd h fun x2 gx2 h=>RW.q (Ck (CH false) gx2) (RW.q (DB (CH false) gx2 0 1) (RW.q (CG (CH false) gx2 1) (Ab 1 0 (bd h fun x3 gx3 h=>RW.q (Ck k3 gx3) (RW.q (CG k3 gx3 0) (Ab 1 0 ?_)))))))))));refine RW.nil (wc h (fun h=>?_) (fun h=>?_))
   ·refine Av (Ab 4 0 (bd h fun x4 gx4 h=>RW.q (Ck (CH false) gx4) (RW.q (DB (CH false) gx4 0 1) (RW.q (CG (CH false) gx4 1) (Ab 1 0 (bd h fun x5 gx5 h=>RW.q (Ck k3 gx5) (RW.q (CG k3 gx5 0) (bd h fun x6 gx6 h=>RW.q (Ck k4 gx6) (CW (N1 k4 gx6 0 0 true) (RW.nil ?_))))))))));refine Av (Ab 3 0 (RW.nil ?_));cases h;exact⟨_,rfl,Ay⟩
   refine Wp.skip (Av (Ab 3 0 (RW.nil ?_)));cases h;exact⟨_,rfl,Ay⟩
  refine Wp.exit ?_;cases h;exact⟨_,rfl,Ay⟩
 intro v1 h E hE;refine A9 hE (ws (Ab 2 2 (RW.nil ?_)));cases h;exact Wp.ret ⟨.inr rfl,BA (by kernel_rfl)⟩
def TH (xA:Arena) (a:List Int) (q1:List Int) (z1:Bool) (z2:Int):St:=AE [(1,(.one (.sl false 3 1 (Ah c3 a)))),(2,(.one (.ptr (.box 2) 0 [] 0))),(4,(.one (.ptr (.box 4) 0 [] 0))),(6,(.one (.sl true 3 1 (Ah c3 q1)))),(7,(B z1)),(8,(I z2))] [(.box 2,[.sl false 150 2 (Ah (AS false) xA.Knots)]),(.box 4,[.sl true 150 2 (Ah (AS true) [])])]
def TG (xA:Arena) (a:List Int) (q1:List Int) (z3:Bool):St:=AE [(1,(.one (.sl false 3 1 (Ah c3 a)))),(2,(.one (.ptr (.box 2) 0 [] 0))),(4,(.one (.ptr (.box 4) 0 [] 0))),(6,(.one (.sl true 3 1 (Ah c3 q1)))),(7,(B z3))] [(.box 2,[.sl false 150 2 (Ah (AS false) xA.Knots)]),(.box 4,[.sl true 150 2 (Ah (AS true) [])])]
def TF (xA:Arena) (a:List Int) (q1:List Int) (b:Bool) (c:Int) (z4:Bool):St:=AE [(1,(.one (.sl false 3 1 (Ah c3 a)))),(2,(.one (.ptr (.box 2) 0 [] 0))),(4,(.one (.ptr (.box 4) 0 [] 0))),(6,(.one (.sl true 3 1 (Ah c3 q1)))),(7,(B b)),(8,(I c)),(30,(B z4))] [(.box 2,[.sl false 150 2 (Ah (AS false) xA.Knots)]),(.box 4,[.sl true 150 2 (Ah (AS true) [])])]
def TE (xA:Arena) (a:List Int) (q1:List Int) (z5:List Bool) (z6:Int):St:=AE [(1,(.one (.sl false 3 1 (Ah c3 a)))),(2,(.one (.ptr (.box 2) 0 [] 0))),(4,(.one (.ptr (.box 4) 0 [] 0))),(6,(.one (.sl true 3 1 (Ah c3 q1)))),(9,(.one (.sl true 4 1 (Ah c4 z5)))),(10,(I z6))] [(.box 2,[.sl false 150 2 (Ah (AS false) xA.Knots)]),(.box 4,[.sl true 150 2 (Ah (AS true) [])])]
def TD (xA:Arena) (q1:List Int) (z7:List Bool):St:=AE [(2,(.one (.ptr (.box 2) 0 [] 0))),(4,(.one (.ptr (.box 4) 0 [] 0))),(6,(.one (.sl true 3 1 (Ah c3 q1)))),(9,(.one (.sl true 4 1 (Ah c4 z7))))] [(.box 2,[.sl false 150 2 (Ah (AS false) xA.Knots)]),(.box 4,[.sl true 150 2 (Ah (AS true) [])])]
def TC (xA:Arena) (a:List Int) (q1:List Int) (b:Int) (v5:List Bool) (z8:List Bool) (z9:Int):St:=AE [(1,(.one (.sl false 3 1 (Ah c3 a)))),(2,(.one (.ptr (.box 2) 0 [] 0))),(4,(.one (.ptr (.box 4) 0 [] 0))),(6,(.one (.sl true 3 1 (Ah c3 q1)))),(9,(.one (.sl true 4 1 (Ah c4 z8)))),(10,(I b)),(11,(.one (.sl true 4 1 (Ah c4 v5)))),(12,(I z9))] [(.box 2,[.sl false 150 2 (Ah (AS false) xA.Knots)]),(.box 4,[.sl true 150 2 (Ah (AS true) [])])]
def TB (xA:Arena) (a:List Int) (q1:List Int) (b:Int) (z10:List Bool):St:=AE [(1,(.one (.sl false 3 1 (Ah c3 a)))),(2,(.one (.ptr (.box 2) 0 [] 0))),(4,(.one (.ptr (.box 4) 0 [] 0))),(6,(.one (.sl true 3 1 (Ah c3 q1)))),(9,(.one (.sl true 4 1 (Ah c4 z10)))),(10,(I b))] [(.box 2,[.sl false 150 2 (Ah (AS false) xA.Knots)]),(.box 4,[.sl true 150 2 (Ah (AS true) [])])]
def TA (xA:Arena) (q1:List Int) (v7:List Bool) (z11:List Int) (z12:Int) (z13:List BU):St:=AE [(2,(.one (.ptr (.box 2) 0 [] 0))),(4,(.one (.ptr (.box 4) 0 [] 0))),(6,(.one (.sl true 3 1 (Ah c3 q1)))),(9,(.one (.sl true 4 1 (Ah c4 v7)))),(13,(.one (.sl true 3 1 (Ah c3 z11)))),(14,(.one (.ptr (.box 14) 0 [] 0))),(15,(I z12))] [(.box 2,[.sl false 150 2 (Ah (AS false) xA.Knots)]),(.box 4,[.sl true 150 2 (Ah (AS true) [])]),(.box 14,[.sl true 150 2 (Ah (AS true) z13)])]
def T9 (q1:List Int) (z14:List Int) (z15:List BU):St:=AE [(4,(.one (.ptr (.box 4) 0 [] 0))),(6,(.one (.sl true 3 1 (Ah c3 q1)))),(13,(.one (.sl true 3 1 (Ah c3 z14)))),(14,(.one (.ptr (.box 14) 0 [] 0)))] [(.box 4,[.sl true 150 2 (Ah (AS true) [])]),(.box 14,[.sl true 150 2 (Ah (AS true) z15)])]
def Ss (xA:Arena) (q1:List Int) (v7:List Bool) (a:List Int) (c:Int) (b:List BU) (z16:Bool) (z17:List Int):St:=AE [(2,(.one (.ptr (.box 2) 0 [] 0))),(4,(.one (.ptr (.box 4) 0 [] 0))),(6,(.one (.sl true 3 1 (Ah c3 q1)))),(9,(.one (.sl true 4 1 (Ah c4 v7)))),(13,(.one (.sl true 3 1 (Ah c3 a)))),(14,(.one (.ptr (.box 14) 0 [] 0))),(15,(I c)),(16,(.one (.ptr (.box 16) 0 [] 0)))] [(.box 2,[.sl false 150 2 (Ah (AS false) xA.Knots)]),(.box 4,[.sl true 150 2 (Ah (AS true) [])]),(.box 14,[.sl true 150 2 (Ah (AS true) b)]),(.box 16,[.bool z16,.sl true 3 1 (Ah c3 z17)])]
def Sr (xA:Arena) (q1:List Int) (v7:List Bool) (a:List Int) (c:Int) (b:List BU) (j2:Bool×List Int) (z18:Int) (z19:List Int):St:=AE [(2,(.one (.ptr (.box 2) 0 [] 0))),(4,(.one (.ptr (.box 4) 0 [] 0))),(6,(.one (.sl true 3 1 (Ah c3 q1)))),(9,(.one (.sl true 4 1 (Ah c4 v7)))),(13,(.one (.sl true 3 1 (Ah c3 a)))),(14,(.one (.ptr (.box 14) 0 [] 0))),(15,(I c)),(16,(.one (.ptr (.box 16) 0 [] 0))),(17,(I z18))] [(.box 2,[.sl false 150 2 (Ah (AS false) xA.Knots)]),(.box 4,[.sl true 150 2 (Ah (AS true) [])]),(.box 14,[.sl true 150 2 (Ah (AS true) b)]),(.box 16,[.bool j2.1,.sl true 3 1 (Ah c3 z19)])]
def Sq (xA:Arena) (q1:List Int) (v7:List Bool) (a:List Int) (c:Int) (b:List BU) (j2:Bool×List Int) (z20:List Int):St:=AE [(2,(.one (.ptr (.box 2) 0 [] 0))),(4,(.one (.ptr (.box 4) 0 [] 0))),(6,(.one (.sl true 3 1 (Ah c3 q1)))),(9,(.one (.sl true 4 1 (Ah c4 v7)))),(13,(.one (.sl true 3 1 (Ah c3 a)))),(14,(.one (.ptr (.box 14) 0 [] 0))),(15,(I c)),(16,(.one (.ptr (.box 16) 0 [] 0)))] [(.box 2,[.sl false 150 2 (Ah (AS false) xA.Knots)]),(.box 4,[.sl true 150 2 (Ah (AS true) [])]),(.box 14,[.sl true 150 2 (Ah (AS true) b)]),(.box 16,[.bool j2.1,.sl true 3 1 (Ah c3 z20)])]
def Sp (xA:Arena) (q1:List Int) (v7:List Bool) (a:List Int) (d:Int) (b:List BU) (j2:Bool×List Int) (e:Int) (c:List Int) (z21:Bool):St:=AE [(2,(.one (.ptr (.box 2) 0 [] 0))),(4,(.one (.ptr (.box 4) 0 [] 0))),(6,(.one (.sl true 3 1 (Ah c3 q1)))),(9,(.one (.sl true 4 1 (Ah c4 v7)))),(13,(.one (.sl true 3 1 (Ah c3 a)))),(14,(.one (.ptr (.box 14) 0 [] 0))),(15,(I d)),(16,(.one (.ptr (.box 16) 0 [] 0))),(17,(I e)),(117,(B z21))] [(.box 2,[.sl false 150 2 (Ah (AS false) xA.Knots)]),(.box 4,[.sl true 150 2 (Ah (AS true) [])]),(.box 14,[.sl true 150 2 (Ah (AS true) b)]),(.box 16,[.bool j2.1,.sl true 3 1 (Ah c3 c)])]
def So (v9:List Int×List BU) (z22:List Int) (z23:Int):St:=AE [(4,(.one (.ptr (.box 4) 0 [] 0))),(6,(.one (.sl true 3 1 (Ah c3 z22)))),(13,(.one (.sl true 3 1 (Ah c3 v9.1)))),(14,(.one (.ptr (.box 14) 0 [] 0))),(18,(I z23))] [(.box 4,[.sl true 150 2 (Ah (AS true) [])]),(.box 14,[.sl true 150 2 (Ah (AS true) v9.2)])]
def Sn (v9:List Int×List BU) (z24:List Int):St:=AE [(4,(.one (.ptr (.box 4) 0 [] 0))),(6,(.one (.sl true 3 1 (Ah c3 z24)))),(14,(.one (.ptr (.box 14) 0 [] 0)))] [(.box 4,[.sl true 150 2 (Ah (AS true) [])]),(.box 14,[.sl true 150 2 (Ah (AS true) v9.2)])]
theorem Gi (xA:Arena) (b:List Int) (r:Arena×List Int) (h:HM xA b=some r):Ba Tryz.prog 120 [.sv (.agg [.sl false 150 2 (Ah (AS false) xA.Knots)]),.sv (.one (.sl false 3 1 (Ah c3 b)))] (.tup [(.agg [.sl true 150 2 (Ah (AS true) r.1.Knots)]),(.one (.sl true 3 1 (Ah c3 r.2)))]) (List.replicate 2 .gone):=by
 unfold HM at h;refine gk Tryz.func120 rfl Tryz.ntmps120 (ws (Ab 3 0 (RW.nil (ws (Ab 2 0 (bd h fun q1 gq1 h=>CW (DY k3 (fun _=>rfl) [] gq1) (Ab 1 1 (RW.nil (ws (Ab 1 0 (RW.c 0 h (MF _) (fun v1 gv1 h=>Ab 1 0 ?_))))))))))));refine RW.nil (Wp.seq (ws (Ab 1 0 (RW.nil (BP h [1,2,4,6,7,8] [.box 2,.box 4] (fun s=>(TH xA b q1 s.1 s.2)) [1,2,4,6,7] [.box 2,.box 4] (fun s=>(TG xA b q1 s)) Ay ?_ ?_)))))
 ·rintro⟨k,n⟩ o (h:Ey xA b k n=some o);unfold Ey at h;refine Wp.seq (Wp.seq (Bq h [1,2,4,6,7,8,30] [.box 2,.box 4] (fun a=>(TF xA b q1 k n a)) ?_ ?_))
  ·intro a h;refine Av (Ab 2 0 (RW.q (D5 k3 b) (Ab 2 0 (AQ 28 h (fun h=>?_) (fun h=>?_)))))
   ·refine Ab 2 0 (RW.nil ?_);cases h;exact⟨_,rfl,Ay⟩
   refine Ab 2 0 (RW.nil ?_);cases h;exact⟨_,rfl,Ay⟩
  intro j1 h E hE;refine A9 hE (wc h (fun h=>?_) (fun h=>?_))
  ·refine Wp.skip (Wp.seq (Wp.block (P1 5 Ct (Dh 3 (bd h fun x1 gx1 h=>SW.q (Ck k3 gx1) (SW.q (CG k3 gx1 0) (SW.nil (RW.c 0 h (K5 _ _) (fun v2 gv2 h=>Ab 1 0 (RW.nil (Av (Ab 3 0 ?_))))))))))));refine RW.nil ?_;cases h;exact⟨_,rfl,Ay⟩
  refine Wp.exit ?_;cases h;exact⟨_,rfl,Ay⟩
 intro v3 h E hE;refine A9 hE (Wp.seq (ws (Ab 2 0 (RW.nil (wc h (fun h=>?_) (fun h=>?_))))))
 ·refine ws (Ab 1 0 (RW.c 0 h (OW _) (fun v4 gv4 h=>Ab 3 4 (RW.nil ?_))));cases h;exact Wp.ret ⟨.inr rfl,BA (by kernel_rfl)⟩
 refine Wp.skip (ws (Ab 2 0 (RW.q (D5 (CH false) xA.Knots) (bd h fun q2 gq2 h=>CW (fmk k4 false gq2) (Ab 1 1 (RW.nil (Wp.seq (ws (Ab 1 0 (RW.nil (BP h [1,2,4,6,9,10] [.box 2,.box 4] (fun s=>(TE xA b q1 s.1 s.2)) [2,4,6,9] [.box 2,.box 4] (fun s=>(TD xA q1 s)) Ay ?_ ?_)))))))))))
 ·rintro⟨i,m⟩ o (h:Ex xA b i m=some o);unfold Ex at h;refine Wp.seq (ws (Ab 2 0 (RW.q (D5 k3 b) (Ab 1 0 (RW.nil (wc h (fun h=>?_) (fun h=>?_)))))))
  ·refine Wp.skip (Wp.seq (Wp.block (Wp.seq (P1 5 Ct (Dh 3 (bd h fun x2 gx2 h=>SW.q (Ck k3 gx2) (SW.q (CG k3 gx2 0) (SW.nil (RW.c 0 h (mM _ _) (fun v5 gv5 h=>Ab 1 1 (RW.nil (ws ?_))))))))))));refine Ab 1 0 (RW.nil (BP h [1,2,4,6,9,10,11,12] [.box 2,.box 4] (fun s=>(TC xA b q1 m v5 s.1 s.2)) [1,2,4,6,9,10] [.box 2,.box 4] (fun s=>(TB xA b q1 m s)) Ay ?_ ?_))
   ·rintro⟨j,t⟩ o (h:Fz v5 j t=some o);unfold Fz at h;refine Wp.seq (ws (Ab 2 0 (RW.q (D5 k4 v5) (Ab 1 0 (RW.nil (wc h (fun h=>?_) (fun h=>?_)))))))
    ·refine Wp.skip (Wp.seq (Wp.block (Av (Ab 4 0 (bd h fun x3 gx3 h=>RW.q (Ck k4 gx3) (RW.q (CG k4 gx3 0) (Ab 1 0 (AQ 72 h (fun h=>?_) (fun h=>?_)))))))))
     ·refine Ab 5 0 (bd h fun x4 gx4 h=>RW.q (Ck k4 gx4) (CW (N1 k4 gx4 0 0 true) (RW.nil (Av (Ab 3 0 (RW.nil ?_))))));cases h;exact⟨_,rfl,Ay⟩
     refine Ab 2 0 (bd h fun x5 gx5 h=>RW.q (Ck k4 gx5) (RW.q (CG k4 gx5 0) (Ab 1 0 (bd h fun x6 gx6 h=>RW.q (Ck k4 gx6) (CW (N1 k4 gx6 0 0 x5) (RW.nil (Av (Ab 3 0 (RW.nil ?_)))))))));cases h;exact⟨_,rfl,Ay⟩
    refine Wp.exit ?_;cases h;exact⟨_,rfl,Ay⟩
   intro v6 h E hE;refine A9 hE (Av (Ab 3 0 (RW.nil ?_)));cases h;exact⟨_,rfl,Ay⟩
  refine Wp.exit ?_;cases h;exact⟨_,rfl,Ay⟩
 intro v7 h E hE;refine A9 hE (ws (Ab 2 0 (RW.q (D5 (CH false) xA.Knots) (bd h fun q3 gq3 h=>CW (fmk k3 0 gq3) (Ab 1 1 (RW.nil (ws (Ab 3 0 (RW.nil (Wp.seq (ws (Ab 1 0 ?_))))))))))));refine RW.nil (BP h [2,4,6,9,13,14,15] [.box 2,.box 4,.box 14] (fun s=>(TA xA q1 v7 s.1 s.2.1 s.2.2)) [4,6,13,14] [.box 4,.box 14] (fun s=>(T9 q1 s.1 s.2)) Ay ?_ ?_)
 ·rintro⟨e,g,d⟩ o (h:Ew xA v7 e g d=some o);unfold Ew at h;refine Wp.seq (ws (Ab 3 0 (RW.q (D5 (CH false) xA.Knots) (Ab 1 0 (RW.nil (wc h (fun h=>?_) (fun h=>?_)))))))
  ·refine Wp.skip (Wp.seq (Wp.block (Wp.seq (ws (Ab 2 0 (bd h fun x7 gx7 h=>RW.q (Ck k4 gx7) (RW.q (CG k4 gx7 0) (Ab 1 0 (RW.nil (wc h (fun h=>?_) (fun h=>?_)))))))))))
   ·refine Wp.exit (Av (Ab 3 0 (RW.nil ?_)));cases h;exact⟨_,rfl,Ay⟩
   refine Wp.skip (Wp.seq (Bq h [2,4,6,9,13,14,15,16] [.box 2,.box 4,.box 14,.box 16] (fun a=>(Ss xA q1 v7 e g d a.1 a.2)) ?_ ?_))
   ·intro a h;refine Er [16] Ct (fun c E h=>by rcases h with⟨h|h,_⟩<;>cases h) (AC [0,1,2] 0 (bd h fun x8 gx8 h=>KW.q 3 (Ck (CH false) gx8) (KW.q 4 (DB (CH false) gx8 0 0) (KW.q 5 (CG (CH false) gx8 0) (AC [7,8,9] 0 (bd h fun x9 gx9 h=>KW.q 10 (Ck (CH false) gx9) (KW.q 11 (DB (CH false) gx9 0 1) (KW.q 12 (CG (CH false) gx9 1) (Be 6 15 ?_ ?_)))))))))
    ·refine pM (Be 13 15 ?_ ?_)
     ·refine bd h fun q4 gq4 h=>fI (DY k3 (fun _=>rfl) [] gq4) (AC [14,15,16] 0 (Ak ?_))
      cases h;exact⟨_,rfl,Ay⟩
     refine KB.o false (BD 13 (bd h fun q5 gq5 h=>fI (DY k3 (fun _=>rfl) [] gq5) (AC [14,16] 0 (Ak ?_))));cases h;exact⟨_,rfl,Ay⟩
    refine KB.o false (BD 6 (pM (BD 13 (bd h fun q6 gq6 h=>fI (DY k3 (fun _=>rfl) [] gq6) (AC [14,16] 0 (Ak ?_))))));cases h;exact⟨_,rfl,Ay⟩
   intro j2 h E hE;refine A9 hE (Wp.seq (ws (Ab 1 0 (RW.nil (BP h [2,4,6,9,13,14,15,16,17] [.box 2,.box 4,.box 14,.box 16] (fun s=>(Sr xA q1 v7 e g d j2 s.1 s.2)) [2,4,6,9,13,14,15,16] [.box 2,.box 4,.box 14,.box 16] (fun s=>(Sq xA q1 v7 e g d j2 s)) Ay ?_ ?_)))))
   ·rintro⟨p,l⟩ o (h:Ev e j2 p l=some o);unfold Ev at h;refine Wp.seq (Wp.seq (Bq h [2,4,6,9,13,14,15,16,17,117] [.box 2,.box 4,.box 14,.box 16] (fun a=>(Sp xA q1 v7 e g d j2 p l a)) ?_ ?_))
    ·intro a h;refine Av (Ab 3 0 (AQ 113 h (fun h=>?_) (fun h=>?_)))
     ·refine Ab 4 0 (RW.nil ?_);cases h;exact⟨_,rfl,Ay⟩
     refine Ab 4 0 (RW.nil ?_);cases h;exact⟨_,rfl,Ay⟩
    intro j3 h E hE;refine A9 hE (wc h (fun h=>?_) (fun h=>?_))
    ·refine Wp.skip (Wp.seq (Wp.block (ws (Ab 3 0 (bd h fun x10 gx10 h=>RW.q (Ck k3 gx10) (RW.q (CG k3 gx10 0) (Ab 1 0 (RW.nil (wc h (fun h=>?_) (fun h=>?_))))))))))
     ·refine P1 12 Ct (Dh 7 (bd h fun x11 gx11 h=>SW.q (Ck k3 gx11) (SW.q (CG k3 gx11 0) (bd h fun x12 gx12 h=>SW.q (Ck k3 gx12) (SW.q (CG k3 gx12 0) (bd h fun x13 gx13 h=>SW.q (Ck k3 gx13) (SW.nil (CW (N1 k3 gx13 0 1 x12) (RW.nil (Av ?_))))))))));refine Ab 3 0 (RW.nil ?_);cases h;exact⟨_,rfl,Ay⟩
     refine Wp.skip (Av (Ab 3 0 (RW.nil ?_)));cases h;exact⟨_,rfl,Ay⟩
    refine Wp.exit ?_;cases h;exact⟨_,rfl,Ay⟩
   intro v8 h E hE;refine A9 hE (ws (Ab 4 0 (RW.q (D5 (CH true) d) (bd h fun x14 gx14 h=>RW.q (Ck k3 gx14) (CW (N1 k3 gx14 0 0 (ln d)) (RW.nil (Av (Ab 4 0 (bd h fun q7 gq7 h=>CW (oZ (CH true) d [(BU.mk j2.1 v8)] gq7) (Ab 2 0 (RW.nil ?_)))))))))));refine Av (Ab 3 0 (RW.nil ?_));cases h;exact⟨_,rfl,Ay⟩
  refine Wp.exit ?_;cases h;exact⟨_,rfl,Ay⟩
 intro v9 h E hE;refine A9 hE (Wp.seq (ws (Ab 1 0 (RW.nil (BP h [4,6,13,14,18] [.box 4,.box 14] (fun s=>(So v9 s.1 s.2)) [4,6,14] [.box 4,.box 14] (fun s=>(Sn v9 s)) Ay ?_ ?_)))))
 ·rintro⟨f,u⟩ o (h:Eu v9 f u=some o);unfold Eu at h;refine Wp.seq (ws (Ab 2 0 (RW.q (D5 k3 f) (Ab 1 0 (RW.nil (wc h (fun h=>?_) (fun h=>?_)))))))
  ·refine Wp.skip (Wp.seq (Wp.block (ws (Ab 2 0 (bd h fun x15 gx15 h=>RW.q (Ck k3 gx15) (RW.q (CG k3 gx15 0) (Ab 1 0 (RW.nil (wc h (fun h=>?_) (fun h=>?_))))))))))
   ·refine Av (Ab 5 0 (bd h fun x16 gx16 h=>RW.q (Ck k3 gx16) (RW.q (CG k3 gx16 0) (bd h fun x17 gx17 h=>RW.q (Ck k3 gx17) (RW.q (CG k3 gx17 0) (bd h fun x18 gx18 h=>RW.q (Ck k3 gx18) (CW (N1 k3 gx18 0 0 x17) (RW.nil (Av (Ab 3 0 ?_))))))))));refine RW.nil ?_;cases h;exact⟨_,rfl,Ay⟩
   refine Wp.skip (Av (Ab 3 0 (RW.nil ?_)));cases h;exact⟨_,rfl,Ay⟩
  refine Wp.exit ?_;cases h;exact⟨_,rfl,Ay⟩
 intro v10 h E hE;refine A9 hE (ws (Ab 4 8 (RW.nil ?_)));cases h;exact Wp.ret ⟨.inr rfl,BA (by kernel_rfl)⟩
def aN (xS:Store) (z1:Bool):St:=AE [(1,(.one (.ptr (.box 1) 0 [] 0))),(23,(B z1))] [(.box 1,[.sl false 39 2 (Ah CC xS.Vols),.sl false 150 2 (Ah (AS false) xS.Arena.Knots),.int .i64 xS.Next])]
def aM (xS:Store) (z2:Int):St:=AE [(1,(.one (.ptr (.box 1) 0 [] 0))),(3,(I z2))] [(.box 1,[.sl false 39 2 (Ah CC xS.Vols),.sl false 150 2 (Ah (AS false) xS.Arena.Knots),.int .i64 xS.Next])]
def aL (xS:Store):St:=AE [(1,(.one (.ptr (.box 1) 0 [] 0)))] [(.box 1,[.sl false 39 2 (Ah CC xS.Vols),.sl false 150 2 (Ah (AS false) xS.Arena.Knots),.int .i64 xS.Next])]
def aK (xS:Store) (a:Int) (x1:Vol) (z3:Bool):St:=AE [(1,(.one (.ptr (.box 1) 0 [] 0))),(3,(I a)),(4,(.one (.ptr (.box 4) 0 [] 0))),(63,(B z3))] [(.box 1,[.sl false 39 2 (Ah CC xS.Vols),.sl false 150 2 (Ah (AS false) xS.Arena.Knots),.int .i64 xS.Next]),(.box 4,[.int .i64 x1.Id,.int .i64 x1.Root])]
def aJ (xS:Store) (a:Int) (x1:Vol) (z4:Int):St:=AE [(1,(.one (.ptr (.box 1) 0 [] 0))),(3,(I a)),(4,(.one (.ptr (.box 4) 0 [] 0))),(5,(I z4))] [(.box 1,[.sl false 39 2 (Ah CC xS.Vols),.sl false 150 2 (Ah (AS false) xS.Arena.Knots),.int .i64 xS.Next]),(.box 4,[.int .i64 x1.Id,.int .i64 x1.Root])]
def aI (xS:Store) (a:Int):St:=AE [(1,(.one (.ptr (.box 1) 0 [] 0))),(3,(I a))] [(.box 1,[.sl false 39 2 (Ah CC xS.Vols),.sl false 150 2 (Ah (AS false) xS.Arena.Knots),.int .i64 xS.Next])]
def aH (xS:Store) (z5:List BU):St:=AE [(1,(.one (.ptr (.box 1) 0 [] 0))),(6,(.one (.ptr (.box 6) 0 [] 0)))] [(.box 1,[.sl false 39 2 (Ah CC xS.Vols),.sl false 150 2 (Ah (AS false) xS.Arena.Knots),.int .i64 xS.Next]),(.box 6,[.sl true 150 2 (Ah (AS true) z5)])]
theorem SX (xS:Store) (r:Bool) (h:LB xS=some r):Ba Tryz.prog 88 [.sv (.agg [.sl false 39 2 (Ah CC xS.Vols),.sl false 150 2 (Ah (AS false) xS.Arena.Knots),.int .i64 xS.Next])] (B r) (List.replicate 1 .gone):=by
 unfold LB at h;refine gk Tryz.func88 rfl Tryz.ntmps88 (ws (Ab 2 0 (RW.nil (Wp.seq (Wp.seq (Bq h [1,23] [.box 1] (fun a=>(aN xS a)) ?_ ?_))))))
 ·intro a h;refine Av (Ab 2 0 (RW.q (D5 DP xS.Vols) (Ab 2 0 (AQ 12 h (fun h=>?_) (fun h=>?_)))))
  ·refine Ab 11 0 (RW.nil ?_);cases h;exact⟨_,rfl,Ay⟩
  refine Ab 2 0 (RW.c 0 h (MF _) (fun v1 gv1 h=>Ab 3 0 (AQ 18 h (fun h=>?_) (fun h=>?_))))
  ·refine Ab 5 0 (RW.nil ?_);cases h;exact⟨_,rfl,Ay⟩
  refine Ab 2 0 (RW.c 0 h (BK _ _ _) (fun v2 gv2 h=>Ab 2 0 (RW.nil ?_)));cases h;exact⟨_,rfl,Ay⟩
 intro j1 h E hE;refine A9 hE (wc h (fun h=>?_) (fun h=>?_))
 ·refine ws (Ab 1 0 (RW.nil ?_));cases h;exact Wp.ret ⟨.inr rfl,BA (by kernel_rfl)⟩
 refine Wp.skip (Wp.seq (ws (Ab 1 0 (RW.nil (Em h [1,3] [.box 1] (fun s=>(aM xS s)) [1] [.box 1] (fun _=>(aL xS)) Ay ?_ ?_)))))
 ·rintro b o (h:GE xS b=some o) hk1;unfold GE at h;refine Wp.seq (ws (Ab 3 0 (RW.q (D5 DP xS.Vols) (Ab 1 0 (RW.nil (wc h (fun h=>?_) (fun h=>?_)))))))
  ·refine Wp.skip (Wp.seq (Wp.block (ws (Ab 3 0 (bd h fun x1 gx1 h=>RW.q (Ck DP gx1) (RW.q (Rx DP gx1 0 2) (Ab 2 0 (RW.nil (Wp.seq (Wp.seq (Bq h [1,3,4,63] [.box 1,.box 4] (fun a=>(aK xS b x1 a)) ?_ ?_)))))))))))
   ·intro a h;refine Er [] Ct (fun c E h=>by rcases h with⟨h|h,_⟩<;>cases h) (AC [0,1] 0 (BD 2 (KB.c 0 h (BK _ _ _) (fun v3 gv3 h=>AC [3,4] 0 (WI 40 h (fun h=>?_) (fun h=>?_))))))
    ·refine AC [5,6,7,8,9,10,11,12,13,14,15,16,17,18,19,20,21,22,23,24,25,26,27] 0 (Ak ?_);cases h;exact⟨_,rfl,Ay⟩
    refine AC [5,6,7] 0 (WI 43 h (fun h=>?_) (fun h=>?_))
    ·refine AC [8,9,10,11] 0 (bd h fun x2 gx2 h=>KW.q 12 (Ck DP gx2) (KW.q 13 (DB DP gx2 0 0) (KW.q 14 (CG DP gx2 0) (AC [15,16,17,18,19,20] 0 (WI 56 h (fun h=>?_) (fun h=>?_))))))
     ·refine AC [21,22,23,24,25,26,27] 0 (Ak ?_);cases h;exact⟨_,rfl,Ay⟩
     refine AC [21,22,23,24] 0 (BD 25 (KB.c 0 h (K5 _ _) (fun v4 gv4 h=>AC [26,27] 0 (Ak ?_))));cases h;exact⟨_,rfl,Ay⟩
    refine AC [8,9,10,11,12,13,14,15,16,17,18,19,20,21,22,23,24] 0 (BD 25 (KB.c 0 h (K5 _ _) (fun v5 gv5 h=>AC [26,27] 0 (Ak ?_))));cases h;exact⟨_,rfl,Ay⟩
   intro j2 h E hE;refine A9 hE (wc h (fun h=>?_) (fun h=>?_))
   ·refine ws (Ab 1 0 (RW.nil ?_));cases h;replace h:some _=some _:=hk1 _ rfl;cases h;exact Wp.ret ⟨.inr rfl,BA (by kernel_rfl)⟩
   refine Wp.skip (ws (Ab 1 0 (RW.nil (Em h [1,3,4,5] [.box 1,.box 4] (fun s=>(aJ xS b x1 s)) [1,3] [.box 1] (fun _=>(aI xS b)) Ay ?_ ?_))))
   ·rintro d o (h:GD xS x1 d=some o) hk2;unfold GD at h;refine Wp.seq (ws (Ab 2 0 (RW.nil (wc h (fun h=>?_) (fun h=>?_)))))
    ·refine Wp.skip (Wp.seq (Wp.block (Wp.seq (Er [] Ct (fun c E h=>by rcases h with⟨h|h,_⟩<;>cases h) (AC [0,1,2,3,4,6,7] 0 (BD 5 (KB.c 0 h (Vk _ _ _) (fun v6 gv6 h=>AC [8] 0 (Ak (wc h (fun h=>?_) (fun h=>?_)))))))))))
     ·refine ws (Ab 1 0 (RW.nil ?_));cases h;replace h:some _=some _:=hk2 _ rfl;cases h;replace h:some _=some _:=hk1 _ rfl;cases h;exact Wp.ret ⟨.inr rfl,BA (by kernel_rfl)⟩
     refine Wp.skip (Av (Ab 3 0 (RW.nil ?_)));cases h;exact⟨_,rfl,Ay⟩
    refine Wp.exit ?_;cases h;exact⟨_,rfl,Ay⟩
   intro v7 h E hE;refine A9 hE (Av (Ab 3 0 (RW.nil ?_)));cases h;exact⟨_,rfl,Ay⟩
  refine Wp.exit ?_;cases h;exact⟨_,rfl,Ay⟩
 intro v8 h E hE;refine A9 hE (Wp.seq (Bq h [1,6] [.box 1,.box 6] (fun a=>(aH xS a)) ?_ ?_))
 ·intro a h;refine Er [9] Ct (fun c E h=>by rcases h with⟨h|h,_⟩<;>cases h) (AC [0,1,2] 0 (Be 3 8 ?_ ?_))
  ·refine KB.c 0 h (Lu _) (fun v9 gv9 h=>Be 4 8 ?_ ?_)
   ·refine KB.c 0 h (gs (ca rfl (ca (co (cs (lL _))) rfl)) (Gi _ _)) (fun v10 gv10 h=>Be 5 8 ?_ ?_) (hc:=(.inr (fun v=>by simp [BF,BM,AX,BC,ns3,Ll])))
    ·refine KB.o true (Jx 6 (Be 7 8 ?_ ?_))
     ·refine KB.o false (AC [8,9,10] 4 (Ak ?_));cases h;exact⟨_,rfl,Ay⟩
     refine KB.o false (Be 7 9 ?_ ?_)
     ·refine KB.o false (AC [9,10] 2 (Ak ?_));cases h;exact⟨_,rfl,Ay⟩
     refine KB.o false (AC [7,10] 2 (Ak ?_));cases h;exact⟨_,rfl,Ay⟩
    refine KB.o false (AC [5] 1 (Jx 6 (Be 7 9 ?_ ?_)))
    ·refine KB.o false (AC [9,10] 2 (Ak ?_));cases h;exact⟨_,rfl,Ay⟩
    refine KB.o false (AC [7,10] 2 (Ak ?_));cases h;exact⟨_,rfl,Ay⟩
   refine KB.o false (BD 4 (KB.c 0 h (gs (ca rfl (ca (co (cs (lL _))) rfl)) (Gi _ _)) (fun v11 gv11 h=>AC [5] 1 (Jx 6 (Be 7 9 ?_ ?_))) (hc:=(.inr (fun v=>by simp [BF,BM,AX,BC,ns3,Ll])))))
   ·refine KB.o false (AC [9,10] 2 (Ak ?_));cases h;exact⟨_,rfl,Ay⟩
   refine KB.o false (AC [7,10] 2 (Ak ?_));cases h;exact⟨_,rfl,Ay⟩
  refine KB.o false (BD 3 (KB.c 0 h (Lu _) (fun v12 gv12 h=>BD 4 (KB.c 0 h (gs (ca rfl (ca (co (cs (lL _))) rfl)) (Gi _ _)) (fun v13 gv13 h=>AC [5] 1 (Jx 6 (Be 7 9 ?_ ?_))) (hc:=(.inr (fun v=>by simp [BF,BM,AX,BC,ns3,Ll])))))))
  ·refine KB.o false (AC [9,10] 2 (Ak ?_));cases h;exact⟨_,rfl,Ay⟩
  refine KB.o false (AC [7,10] 2 (Ak ?_));cases h;exact⟨_,rfl,Ay⟩
 intro j3 h E hE;refine A9 hE (ws (Ab 2 0 (RW.q (D5 (CH true) j3) (Ab 3 0 (RW.q (D5 (CH false) xS.Arena.Knots) (Ab 2 0 (RW.nil ?_)))))));cases h;exact Wp.ret ⟨.inr rfl,BA (by kernel_rfl)⟩
def mL (xS:Store) (a:Int) (z1:Int):St:=AE [(1,(I a)),(2,(.one (.ptr (.box 2) 0 [] 0))),(5,(I z1))] [(.box 2,[.sl false 39 2 (Ah CC xS.Vols),.sl false 150 2 (Ah (AS false) xS.Arena.Knots),.int .i64 xS.Next])]
def mK:St:=AE [] []
theorem JM (xS:Store) (a:Int) (r:Int) (h:ED xS a=some r):Ba Tryz.prog 32 [.sv (.agg [.sl false 39 2 (Ah CC xS.Vols),.sl false 150 2 (Ah (AS false) xS.Arena.Knots),.int .i64 xS.Next]),.sv (I a)] (I r) (List.replicate 2 .gone):=by
 unfold ED at h;refine gk Tryz.func32 rfl Tryz.ntmps32 (ws (Ab 2 0 (RW.nil (Wp.seq (ws (Ab 1 0 (RW.nil (Em h [1,2,5] [.box 2] (fun s=>(mL xS a s)) [] [] (fun _=>mK) Ay ?_ ?_))))))))
 ·rintro b o (h:EU xS a b=some o) hk1;unfold EU at h;refine Wp.seq (ws (Ab 3 0 (RW.q (D5 DP xS.Vols) (Ab 1 0 (RW.nil (wc h (fun h=>?_) (fun h=>?_)))))))
  ·refine Wp.skip (Wp.seq (Wp.block (ws (Ab 3 0 (bd h fun x1 gx1 h=>RW.q (Ck DP gx1) (RW.q (DB DP gx1 0 0) (RW.q (CG DP gx1 0) (Ab 2 0 (RW.nil (wc h (fun h=>?_) (fun h=>?_)))))))))))
   ·refine ws (Ab 2 0 (RW.nil ?_));cases h;replace h:some _=some _:=hk1 _ rfl;cases h;exact Wp.ret ⟨.inr rfl,BA (by kernel_rfl)⟩
   refine Wp.skip (Av (Ab 3 0 (RW.nil ?_)));cases h;exact⟨_,rfl,Ay⟩
  refine Wp.exit ?_;cases h;exact⟨_,rfl,Ay⟩
 intro v1 h E hE;refine A9 hE (ws (Ab 1 0 (RW.nil ?_)));cases h;exact Wp.ret ⟨.inr rfl,BA (by kernel_rfl)⟩
end Go.TI
