/- That they compute it. No condition. -/
import Derived.Test.YtiemmklnnjembaaGreatNES0
import Derived.Test.YtiemmklnnjembaaGreatProg
import Derived.Shelf.Abstract
import Derived.KernelRfl
namespace Go.TI
open Go Go.Proofs
set_option maxRecDepth 100000
theorem mixed:Tryz.prog.follows .mixedOrders=true:=rfl
theorem ws {P:Program} {N:Nat} {E:St} {Q:Exit->St->Prop} {id:Nat} {l:Array Oper} {y:Code} (h:RW P N l 0 E (uN (fun E'=>Wp P N y E' Q) Q)):Wp P N (.seq (.region id l false) y) E Q:=Wp.seq (Ax h)
theorem ACF:pJ Tryz.prog 83 3:=tE Tryz.lays191 3
def c5 (x:Int):List TV:=[.int .u8 x]
theorem k5:∀x,(c5 x).length=1:=fun _=>rfl
theorem yY (a:List Int) (r:Bool) (h:UJ a=some r):Be Tryz.prog 7 [.sv (.one (.sl false 5 1 (Ah c5 a)))] (B r) (List.replicate 1 .gone):=by
 unfold UJ at h;refine gk Tryz.func7 rfl Tryz.ntmps7 (ws (Ab 1 0 (RW.nil (ws (Ab 1 0 (RW.q (D5 k5 a) (Ab 2 0 (RW.nil ?_))))))));cases h;exact Wp.ret ⟨.inr rfl,BJ (by kernel_rfl)⟩
def gU (a:List Int) (z1:Int) (z2:Int):St:=AG [(0,(.one (.sl false 5 1 (Ah c5 a)))),(3,(I z1)),(4,(I z2))] []
def gT (a:List Int) (z3:Int):St:=AG [(0,(.one (.sl false 5 1 (Ah c5 a)))),(3,(I z3))] []
def gR (a:List Int) (b:Int) (c:Int) (z4:Bool):St:=AG [(0,(.one (.sl false 5 1 (Ah c5 a)))),(3,(I b)),(4,(I c)),(15,(B z4))] []
theorem Vz (b:List Int) (r:BA) (h:Ns b=some r):fJ Tryz.prog 29 [.sv (.one (.sl false 5 1 (Ah c5 b)))] [.sl false 5 1 (Ah c5 r.b_),.int .i64 r.i_,.int .i64 r.h_]:=by
 unfold Ns at h;refine gkp Tryz.func29 rfl Tryz.ntmps29 (ws (ACM (pjk) (RW.nil (ws (Ab 1 0 (RW.q (D5 k5 b) (Ab 2 0 (RW.nil (Wp.seq (ws (Ab 1 0 (RW.nil (BO h [0,3,4] [] (fun s=>(gU b s.1 s.2)) [0,3] [] (fun s=>(gT b s)) A4 ?_ ?_)))))))))))))
 ·rintro⟨c,d⟩ o (h:H4 b c d=some o);unfold H4 at h;refine Wp.seq (Wp.seq (B3 h [0,3,4,15] [] (fun a=>(gR b c d a)) ?_ ?_))
  ·intro a h;refine Ax (Ab 2 0 (RW.q (D5 k5 b) (Ab 2 0 (Ba 12 h (fun h=>?_) (fun h=>?_)))))
   ·refine Ab 3 0 (RW.nil ?_);cases h;exact⟨_,rfl,A4⟩
   refine Ab 3 0 (RW.nil ?_);cases h;exact⟨_,rfl,A4⟩
  intro j1 h E hE;refine AE hE (wc h (fun h=>?_) (fun h=>?_))
  ·refine Wp.skip (Wp.seq (Wp.block (Ax (Ab 4 0 (bd h fun x1 gx1 h=>RW.q (Cq k5 gx1) (RW.q (CN k5 gx1 0) (Ab 5 0 (RW.nil (Ax (Ab 3 0 (RW.nil ?_)))))))))));cases h;exact⟨_,rfl,A4⟩
  refine Wp.exit ?_;cases h;exact⟨_,rfl,A4⟩
 intro v1 h E hE;refine AE hE (ws (Ab 5 0 (RW.nil ?_)));cases h;exact Wp.ret ⟨.inr rfl,rsp 2 rfl (by kernel_rfl)⟩
set_option maxHeartbeats 4000000 in
theorem IQ (xC:BA) (r:Int×BA) (h:GW xC=some r):Be Tryz.prog 36 [.ext [.sl false 5 1 (Ah c5 xC.b_),.int .i64 xC.i_,.int .i64 xC.h_]] (I r.1) (.ext [.sl false 5 1 (Ah c5 r.2.b_),.int .i64 r.2.i_,.int .i64 r.2.h_]::List.replicate 0 .gone):=by
 unfold GW at h;refine gkx Tryz.func36 rfl Tryz.ntmps36 (ws (Ab 1 0 (RW.nil (ws (Ab 10 0 (RW.nil (Wp.seq (M3 mixed (DZ 13 (SW.nil (Wp.seq (Wp.seq (M3 mixed ?_)))))))))))));refine DZ 8 (SW.q (D5 k5 xC.b_) (DZ 1 (SW.nil (wc h (fun h=>?_) (fun h=>?_)))))
 ·refine Wp.seq (M3 mixed (DZ 9 (bd h fun x1 gx1 h=>SW.q (Cq k5 gx1) (SW.q (CN k5 gx1 0) (DZ 4 (SW.nil (Ax (Ab 9 0 (RW.nil (ws (Ab 2 0 (RW.nil ?_))))))))))));cases h;exact Wp.ret ⟨.inr rfl,r9 (by kernel_rfl)⟩
 refine Wp.skip (ws (Ab 2 0 (RW.nil ?_)));cases h;exact Wp.ret ⟨.inr rfl,r9 (by kernel_rfl)⟩
set_option maxHeartbeats 4000000 in
theorem CX (xC:BA) (xN:Int) (r:Int×BA) (h:Db xC xN=some r):Be Tryz.prog 37 [.ext [.sl false 5 1 (Ah c5 xC.b_),.int .i64 xC.i_,.int .i64 xC.h_],.sv (I xN)] (I r.1) (.ext [.sl false 5 1 (Ah c5 r.2.b_),.int .i64 r.2.i_,.int .i64 r.2.h_]::List.replicate 1 .gone):=by
 unfold Db at h;refine gkx Tryz.func37 rfl Tryz.ntmps37 (ws (Ab 1 0 (RW.nil (Wp.seq (ws (Ab 2 0 (RW.nil (wc h (fun h=>?_) (fun h=>?_)))))))))
 ·refine ws (Ab 1 0 (RW.nil ?_));cases h;exact Wp.ret ⟨.inr rfl,r9 (by kernel_rfl)⟩
 refine Wp.skip (Wp.seq (ws (Ab 2 0 (RW.nil (wc h (fun h=>?_) (fun h=>?_))))))
 ·refine ws (Ab 1 0 (Gc h (IQ _) (fun _=>rfl) (fun v1 gv1 h=>Ab 1 0 (bd h fun x1 gx1 h=>RW.q (prm gx1) (Ab 1 0 (RW.nil ?_))))));cases h;exact Wp.ret ⟨.inr rfl,r9 (by kernel_rfl)⟩
 refine Wp.skip (ws (Ab 1 0 (Gc h (IQ _) (fun _=>rfl) (fun v2 gv2 h=>Ab 1 0 (RW.nil (ws (Ab 1 0 (Gc h (IQ _) (fun _=>rfl) (fun v3 gv3 h=>Ab 1 0 (RW.nil (ws (Ab 1 0 (Gc h (IQ _) (fun _=>rfl) (fun v4 gv4 h=>?_))))))))))))));refine Ab 1 0 (RW.nil (ws (Ab 1 0 (Gc h (IQ _) (fun _=>rfl) (fun v5 gv5 h=>Ab 1 0 (RW.nil (ws (Ab 11 0 (bd h fun x2 gx2 h=>RW.q (prm gx2) (Ab 1 0 (RW.nil ?_)))))))))));cases h;exact Wp.ret ⟨.inr rfl,r9 (by kernel_rfl)⟩
theorem BN (xX:Int) (a:Int) (b:Int) (r:Bool) (h:BR xX a b=some r):Be Tryz.prog 46 [.sv (I xX),.sv (I a),.sv (I b)] (B r) (List.replicate 3 .gone):=by
 unfold BR at h;refine gk Tryz.func46 rfl Tryz.ntmps46 (ws (Ab 1 0 (RW.nil (ws (Ab 4 0 (Ba 10 h (fun h=>?_) (fun h=>?_)))))))
 ·refine Ab 5 0 (RW.nil ?_);cases h;exact Wp.ret ⟨.inr rfl,BJ (by kernel_rfl)⟩
 refine Ab 5 0 (RW.nil ?_);cases h;exact Wp.ret ⟨.inr rfl,BJ (by kernel_rfl)⟩
def fP (x:Leaf):List TV:=[.int .i64 x.Is,.str x.Text]
theorem M7:∀x,(fP x).length=2:=fun _=>rfl
theorem ACr:∀l,BG (Ah fP l)=Ah fP l:=D6 (fun _=>rfl)
theorem ACE:∀l,AR (Ah fP l)=false:=K4 (fun _=>rfl)
def Cs (o:Bool) (x:Block):List TV:=[.bool x.Bad,.int .i64 x.Wear,.sl o 90 2 (Ah fP x.Leaves)]
theorem Fq (o:Bool):∀x,(Cs o x).length=3:=fun _=>rfl
theorem Fw:∀l,BG (Ah (Cs true) l)=Ah (Cs false) l:=D6 (fun x=>by simp only [Cs,BG,Lj,ACr])
theorem sQ:∀l,AR (Ah (Cs true) l)=false:=K4 (fun x=>by simp [Cs,AR,BB,ACE])
def Yg (xN:Int) (z1:Int) (z2:List Block):St:=AG [(0,(I xN)),(2,(.one (.ptr (.box 2) 0 [] 0))),(4,(.one (.ptr (.box 4) 0 [] 0))),(5,(I z1))] [(.box 2,[.sl true 77 3 (Ah (Cs true) [])]),(.box 4,[.sl true 77 3 (Ah (Cs true) z2)])]
def Yf (z3:List Block):St:=AG [(2,(.one (.ptr (.box 2) 0 [] 0))),(4,(.one (.ptr (.box 4) 0 [] 0)))] [(.box 2,[.sl true 77 3 (Ah (Cs true) [])]),(.box 4,[.sl true 77 3 (Ah (Cs true) z3)])]
theorem cO (xN:Int) (r:Flash×Bool) (h:Mg xN=some r):Be Tryz.prog 93 [.sv (I xN)] (.tup [(.agg [.sl true 77 3 (Ah (Cs true) r.1.Blocks)]),(B r.2)]) (List.replicate 1 .gone):=by
 unfold Mg at h;refine gk Tryz.func93 rfl Tryz.ntmps93 (ws (Ab 2 0 (RW.nil (Wp.seq (ws (Ab 1 0 (RW.c 0 h (BN _ _ _) (fun v1 gv1 h=>Ab 1 0 (RW.nil (wc h (fun h=>?_) (fun h=>?_)))))))))))
 ·refine ws (Ab 3 0 (RW.nil ?_));cases h;exact Wp.ret ⟨.inr rfl,BJ (by kernel_rfl)⟩
 refine Wp.skip (ws (Ab 3 0 (RW.nil (Wp.seq (ws (Ab 1 0 (RW.nil (BO h [0,2,4,5] [.box 2,.box 4] (fun s=>(Yg xN s.1 s.2)) [2,4] [.box 2,.box 4] (fun s=>(Yf s)) A4 ?_ ?_))))))))
 ·rintro⟨b,a⟩ o (h:GX xN b a=some o);unfold GX at h;refine Wp.seq (ws (Ab 3 0 (RW.nil (wc h (fun h=>?_) (fun h=>?_)))))
  ·refine Wp.skip (Wp.seq (Wp.block (EL [5,7] mixed (fun c E h=>by rcases h with⟨h|h,_⟩<;>cases h) (AD [0,1] 0 (BT 2 (bd h fun q1 gq1 h=>YH (fmk M7 (Leaf.mk 0 (bs [])) gq1) (AD [3,4] 0 (BT 5 (bd h fun q2 gq2 h=>YH (oV (Fq true) a [(Block.mk false 0 q1)] gq2) (AD [6,7] 0 (Ap ?_)))))))))));refine Ax (Ab 3 0 (RW.nil ?_));cases h;exact⟨_,rfl,A4⟩
  refine Wp.exit ?_;cases h;exact⟨_,rfl,A4⟩
 intro v2 h E hE;refine AE hE (ws (Ab 3 0 (RW.nil ?_)));cases h;exact Wp.ret ⟨.inr rfl,BJ (by kernel_rfl)⟩
theorem gN (xX:Leaf) (r:Bool) (h:Nq xX=some r):Be Tryz.prog 148 [.sv (.agg [.int .i64 xX.Is,.str xX.Text])] (B r) (List.replicate 1 .gone):=by
 unfold Nq at h;refine gk Tryz.func148 rfl Tryz.ntmps148 (ws (Ab 2 0 (RW.nil (Wp.seq (ws (Ab 2 0 (RW.nil (Wp.block (ws (Ab 2 0 (RW.nil (wc h (fun h=>?_) (fun h=>?_)))))))))))))
 ·refine ws (Ab 4 0 (RW.nil ?_));cases h;exact Wp.ret ⟨.inr rfl,BJ (by kernel_rfl)⟩
 refine ws (Ab 2 0 (RW.nil (wc h (fun h=>?_) (fun h=>?_))))
 ·refine ws (Ab 3 0 (RW.c 0 h (BN _ _ _) (fun v1 gv1 h=>Ab 1 0 (RW.nil ?_))));cases h;exact Wp.ret ⟨.inr rfl,BJ (by kernel_rfl)⟩
 refine ws (Ab 2 0 (RW.nil (wc h (fun h=>?_) (fun h=>?_))))
 ·refine ws (Ab 5 0 (RW.nil ?_));cases h;exact Wp.ret ⟨.inr rfl,BJ (by kernel_rfl)⟩
 refine Wp.skip (ws (Ab 1 0 (RW.nil ?_)));cases h;exact Wp.ret ⟨.inr rfl,BJ (by kernel_rfl)⟩
def cN (xF:Flash) (z1:Int):St:=AG [(1,(.one (.ptr (.box 1) 0 [] 0))),(3,(I z1))] [(.box 1,[.sl false 77 3 (Ah (Cs false) xF.Blocks)])]
def cM (xF:Flash):St:=AG [(1,(.one (.ptr (.box 1) 0 [] 0)))] [(.box 1,[.sl false 77 3 (Ah (Cs false) xF.Blocks)])]
def cL (xF:Flash) (a:Int) (x1:Block) (z2:Bool):St:=AG [(1,(.one (.ptr (.box 1) 0 [] 0))),(3,(I a)),(4,(.one (.ptr (.box 4) 0 [] 0))),(27,(B z2))] [(.box 1,[.sl false 77 3 (Ah (Cs false) xF.Blocks)]),(.box 4,[.bool x1.Bad,.int .i64 x1.Wear,.sl false 90 2 (Ah fP x1.Leaves)])]
def cK (xF:Flash) (a:Int) (x1:Block) (z3:Int):St:=AG [(1,(.one (.ptr (.box 1) 0 [] 0))),(3,(I a)),(4,(.one (.ptr (.box 4) 0 [] 0))),(5,(I z3))] [(.box 1,[.sl false 77 3 (Ah (Cs false) xF.Blocks)]),(.box 4,[.bool x1.Bad,.int .i64 x1.Wear,.sl false 90 2 (Ah fP x1.Leaves)])]
def cJ (xF:Flash) (a:Int):St:=AG [(1,(.one (.ptr (.box 1) 0 [] 0))),(3,(I a))] [(.box 1,[.sl false 77 3 (Ah (Cs false) xF.Blocks)])]
def cI (xF:Flash) (a:Int) (x1:Block) (b:Int) (z4:Bool):St:=AG [(1,(.one (.ptr (.box 1) 0 [] 0))),(3,(I a)),(4,(.one (.ptr (.box 4) 0 [] 0))),(5,(I b)),(64,(B z4))] [(.box 1,[.sl false 77 3 (Ah (Cs false) xF.Blocks)]),(.box 4,[.bool x1.Bad,.int .i64 x1.Wear,.sl false 90 2 (Ah fP x1.Leaves)])]
theorem MH (xF:Flash) (r:Bool) (h:HV xF=some r):Be Tryz.prog 122 [.sv (.agg [.sl false 77 3 (Ah (Cs false) xF.Blocks)])] (B r) (List.replicate 1 .gone):=by
 unfold HV at h;refine gk Tryz.func122 rfl Tryz.ntmps122 (ws (Ab 2 0 (RW.nil (Wp.seq (ws (Ab 1 0 (RW.nil (Fk h [1,3] [.box 1] (fun s=>(cN xF s)) [1] [.box 1] (fun _=>(cM xF)) A4 ?_ ?_))))))))
 ·rintro b o (h:GJ xF b=some o) hk1;unfold GJ at h;refine Wp.seq (ws (Ab 3 0 (RW.q (D5 (Fq false) xF.Blocks) (Ab 1 0 (RW.nil (wc h (fun h=>?_) (fun h=>?_)))))))
  ·refine Wp.skip (Wp.seq (Wp.block (ws (Ab 3 0 (bd h fun x1 gx1 h=>RW.q (Cq (Fq false) gx1) (RW.q (Si (Fq false) gx1 0 3) (Ab 2 0 (RW.nil (Wp.seq (Wp.seq (B3 h [1,3,4,27] [.box 1,.box 4] (fun a=>(cL xF b x1 a)) ?_ ?_)))))))))))
   ·intro a h;refine Ax (Ab 2 0 (RW.q (D5 M7 x1.Leaves) (Ab 2 0 (Ba 22 h (fun h=>?_) (fun h=>?_)))))
    ·refine Ab 5 0 (RW.nil ?_);cases h;exact⟨_,rfl,A4⟩
    refine Ab 2 0 (RW.c 0 h (BN _ _ _) (fun v1 gv1 h=>Ab 2 0 (RW.nil ?_)));cases h;exact⟨_,rfl,A4⟩
   intro j1 h E hE;refine AE hE (wc h (fun h=>?_) (fun h=>?_))
   ·refine ws (Ab 1 0 (RW.nil ?_));cases h;replace h:some _=some _:=hk1 _ rfl;cases h;exact Wp.ret ⟨.inr rfl,BJ (by kernel_rfl)⟩
   refine Wp.skip (ws (Ab 1 0 (RW.nil (Fk h [1,3,4,5] [.box 1,.box 4] (fun s=>(cK xF b x1 s)) [1,3] [.box 1] (fun _=>(cJ xF b)) A4 ?_ ?_))))
   ·rintro d o (h:GI x1 d=some o) hk2;unfold GI at h;refine Wp.seq (ws (Ab 3 0 (RW.q (D5 M7 x1.Leaves) (Ab 1 0 (RW.nil (wc h (fun h=>?_) (fun h=>?_)))))))
    ·refine Wp.skip (Wp.seq (Wp.block (Wp.seq (B3 h [1,3,4,5,64] [.box 1,.box 4] (fun a=>(cI xF b x1 d a)) ?_ ?_))))
     ·intro a h;refine Ax (Ab 3 0 (bd h fun x2 gx2 h=>RW.q (Cq M7 gx2) (RW.q (Si M7 gx2 0 2) (RW.c 0 h (gN _) (fun v2 gv2 h=>Ab 2 0 (Ba 42 h (fun h=>?_) (fun h=>?_)))))))
      ·refine Ab 22 0 (RW.nil ?_);cases h;exact⟨_,rfl,A4⟩
      refine Ab 3 0 (Ba 45 h (fun h=>?_) (fun h=>?_))
      ·refine Ab 4 0 (bd h fun x3 gx3 h=>RW.q (Cq M7 gx3) (RW.q (DD M7 gx3 0 0) (RW.q (CN M7 gx3 0) (Ab 3 0 (Ba 55 h (fun h=>?_) (fun h=>?_))))))
       ·refine Ab 3 0 (bd h fun x4 gx4 h=>RW.q (Cq M7 gx4) (RW.q (DD M7 gx4 0 0) (RW.q (CN M7 gx4 0) (Ab 3 0 (RW.nil ?_)))));cases h;exact⟨_,rfl,A4⟩
       refine Ab 9 0 (RW.nil ?_);cases h;exact⟨_,rfl,A4⟩
      refine Ab 19 0 (RW.nil ?_);cases h;exact⟨_,rfl,A4⟩
     intro j2 h E hE;refine AE hE (wc h (fun h=>?_) (fun h=>?_))
     ·refine ws (Ab 1 0 (RW.nil ?_));cases h;replace h:some _=some _:=hk2 _ rfl;cases h;replace h:some _=some _:=hk1 _ rfl;cases h;exact Wp.ret ⟨.inr rfl,BJ (by kernel_rfl)⟩
     refine Wp.skip (Ax (Ab 3 0 (RW.nil ?_)));cases h;exact⟨_,rfl,A4⟩
    refine Wp.exit ?_;cases h;exact⟨_,rfl,A4⟩
   intro v3 h E hE;refine AE hE (Ax (Ab 3 0 (RW.nil ?_)));cases h;exact⟨_,rfl,A4⟩
  refine Wp.exit ?_;cases h;exact⟨_,rfl,A4⟩
 intro v4 h E hE;refine AE hE (ws (Ab 2 0 (RW.q (D5 (Fq false) xF.Blocks) (RW.c 0 h (BN _ _ _) (fun v5 gv5 h=>Ab 1 0 (RW.nil ?_))))));cases h;exact Wp.ret ⟨.inr rfl,BJ (by kernel_rfl)⟩
def XQ (xF:Flash) (xB:Int) (a:Int) (z1:Bool):St:=AG [(1,(I xB)),(2,(I a)),(3,(.one (.ptr (.box 3) 0 [] 0))),(40,(B z1))] [(.box 3,[.sl false 77 3 (Ah (Cs false) xF.Blocks)])]
theorem bW (xF:Flash) (xB:Int) (b:Int) (r:ByteArray×Bool) (h:Mc xF xB b=some r):Be Tryz.prog 20 [.sv (.agg [.sl false 77 3 (Ah (Cs false) xF.Blocks)]),.sv (I xB),.sv (I b)] (.tup [(Y r.1),(B r.2)]) (List.replicate 3 .gone):=by
 unfold Mc at h;refine gk Tryz.func20 rfl Tryz.ntmps20 (ws (Ab 3 0 (RW.nil (Wp.seq (Wp.seq (B3 h [1,2,3,40] [.box 3] (fun a=>(XQ xF xB b a)) ?_ ?_))))))
 ·intro a h;refine Ax (Ab 3 0 (RW.q (D5 (Fq false) xF.Blocks) (Ab 1 0 (RW.c 0 h (BN _ _ _) (fun v1 gv1 h=>Ab 2 0 (Ba 15 h (fun h=>?_) (fun h=>?_)))))))
  ·refine Ab 25 0 (RW.nil ?_);cases h;exact⟨_,rfl,A4⟩
  refine Ab 4 0 (bd h fun x1 gx1 h=>RW.q (Cq (Fq false) gx1) (RW.q (DD (Fq false) gx1 0 2) (RW.q (CN (Fq false) gx1 2) (RW.q (D5 M7 x1.Leaves) (Ab 1 0 (RW.c 0 h (BN _ _ _) (fun v2 gv2 h=>Ab 3 0 (Ba 28 h (fun h=>?_) (fun h=>?_)))))))))
  ·refine Ab 12 0 (RW.nil ?_);cases h;exact⟨_,rfl,A4⟩
  refine Ab 3 0 (bd h fun x2 gx2 h=>RW.q (Cq (Fq false) gx2) (RW.q (DD (Fq false) gx2 0 2) (RW.q (CN (Fq false) gx2 2) (Ab 1 0 (bd h fun x3 gx3 h=>RW.q (Cq M7 gx3) (RW.q (DD M7 gx3 0 0) (RW.q (CN M7 gx3 0) (Ab 2 0 (RW.nil ?_)))))))));cases h;exact⟨_,rfl,A4⟩
 intro j1 h E hE;refine AE hE (wc h (fun h=>?_) (fun h=>?_))
 ·refine ws (Ab 2 0 (RW.nil ?_));cases h;exact Wp.ret ⟨.inr rfl,BJ (by kernel_rfl)⟩
 refine Wp.skip (ws (Ab 3 0 (bd h fun x4 gx4 h=>RW.q (Cq (Fq false) gx4) (RW.q (DD (Fq false) gx4 0 2) (RW.q (CN (Fq false) gx4 2) (Ab 1 0 (bd h fun x5 gx5 h=>RW.q (Cq M7 gx5) (RW.q (DD M7 gx5 0 1) (RW.q (CN M7 gx5 1) (Ab 2 0 (RW.nil ?_)))))))))));cases h;exact Wp.ret ⟨.inr rfl,BJ (by kernel_rfl)⟩
def aX (a:ByteArray) (z1:Int) (z2:Int):St:=AG [(0,(.one (.int .u32 z1))),(1,(Y a)),(5,(I z2))] []
def aW (z3:Int):St:=AG [(0,(.one (.int .u32 z3)))] []
def aV (a:ByteArray) (b:Int) (z4:Int) (z5:Int):St:=AG [(0,(.one (.int .u32 z4))),(1,(Y a)),(5,(I b)),(6,(I z5))] []
def aU (a:ByteArray) (b:Int) (z6:Int):St:=AG [(0,(.one (.int .u32 z6))),(1,(Y a)),(5,(I b))] []
theorem gX (b:Int) (a:ByteArray) (r:Int) (h:Nu b a=some r):Be Tryz.prog 114 [.sv (.one (.int .u32 b)),.sv (Y a)] (.one (.int .u32 r)) (List.replicate 2 .gone):=by
 unfold Nu at h;refine gk Tryz.func114 rfl Tryz.ntmps114 (ws (Ab 1 0 (RW.nil (Wp.seq (ws (Ab 1 0 (RW.nil (BO h [0,1,5] [] (fun s=>(aX a s.1 s.2)) [0] [] (fun s=>(aW s)) A4 ?_ ?_))))))))
 ·rintro⟨c,d⟩ o (h:HQ a c d=some o);unfold HQ at h;refine Wp.seq (ws (Ab 4 0 (RW.nil (wc h (fun h=>?_) (fun h=>?_)))))
  ·refine Wp.skip (Wp.seq (Wp.block (ws (Ab 3 0 (bd h fun x1 gx1 h=>RW.q (sH gx1) (Ab 3 0 (RW.nil (ws (Ab 1 0 (RW.nil (BO h [0,1,5,6] [] (fun s=>(aV a d s.1 s.2)) [0,1,5] [] (fun s=>(aU a d s)) A4 ?_ ?_)))))))))))
   ·rintro⟨e,f⟩ o (h:GE e f=some o);unfold GE at h;refine Wp.seq (ws (Ab 2 0 (RW.nil (wc h (fun h=>?_) (fun h=>?_)))))
    ·refine Wp.skip (Wp.seq (Wp.block (ws (Ab 4 0 (RW.nil (ws (Ab 3 0 (RW.nil (ws (Ab 1 0 (RW.nil (wc h (fun h=>?_) (fun h=>?_)))))))))))))
     ·refine Ax (Ab 3 0 (RW.nil (Ax (Ab 3 0 (RW.nil ?_)))));cases h;exact⟨_,rfl,A4⟩
     refine Wp.skip (Ax (Ab 3 0 (RW.nil ?_)));cases h;exact⟨_,rfl,A4⟩
    refine Wp.exit ?_;cases h;exact⟨_,rfl,A4⟩
   intro v1 h E hE;refine AE hE (Ax (Ab 3 0 (RW.nil ?_)));cases h;exact⟨_,rfl,A4⟩
  refine Wp.exit ?_;cases h;exact⟨_,rfl,A4⟩
 intro v2 h E hE;refine AE hE (ws (Ab 2 0 (RW.nil ?_)));cases h;exact Wp.ret ⟨.inr rfl,BJ (by kernel_rfl)⟩
theorem Za (a:ByteArray) (r:Int) (h:Lz a=some r):Be Tryz.prog 73 [.sv (Y a)] (.one (.int .u32 r)) (List.replicate 1 .gone):=by
 unfold Lz at h;refine gk Tryz.func73 rfl Tryz.ntmps73 (ws (Ab 1 0 (RW.nil (ws (Ab 1 0 (RW.c 0 h (gX _ _) (fun v1 gv1 h=>Ab 1 0 (RW.nil ?_))))))));cases h;exact Wp.ret ⟨.inr rfl,BJ (by kernel_rfl)⟩
theorem Td (xX:Int) (r:ByteArray) (h:JY xX=some r):Be Tryz.prog 72 [.sv (.one (.int .u32 xX))] (Y r) (List.replicate 1 .gone):=by
 unfold JY at h;refine gk Tryz.func72 rfl Tryz.ntmps72 (ws (Ab 1 0 (RW.nil (ws (Ab 12 0 (RW.q (pcv (f:=c5) (fun _=>rfl) [(IntKind.u8.wrap (Int.fdiv xX (2^(min (24:Int).toNat IntKind.u32.bits)))),(IntKind.u8.wrap (Int.fdiv xX (2^(min (16:Int).toNat IntKind.u32.bits)))),(IntKind.u8.wrap (Int.fdiv xX (2^(min (8:Int).toNat IntKind.u32.bits)))),(IntKind.u8.wrap xX)]) (Ab 1 0 (RW.nil ?_))))))));cases h;exact Wp.ret ⟨.inr rfl,BJ (by kernel_rfl)⟩
def X8 (a:ByteArray) (z1:Bool):St:=AG [(0,(Y a)),(4,(I (sb (Gg a) 4))),(24,(B z1))] []
theorem aM (b:ByteArray) (r:ByteArray×Bool) (h:I8 b=some r):Be Tryz.prog 47 [.sv (Y b)] (.tup [(Y r.1),(B r.2)]) (List.replicate 1 .gone):=by
 unfold I8 at h;refine gk Tryz.func47 rfl Tryz.ntmps47 (ws (Ab 2 0 (RW.nil (ws (Ab 4 0 (RW.nil (Wp.seq (Wp.seq (B3 h [0,4,24] [] (fun a=>(X8 b a)) ?_ ?_)))))))))
 ·intro a h;refine EL [] mixed (fun c E h=>by rcases h with⟨h|h,_⟩<;>cases h) (AD [0,1,2] 0 (Xb 10 h (fun h=>?_) (fun h=>?_)))
  ·refine AD [3,4,5,6,7,8,9,10,11,12,13,14,15,16] 0 (Ap ?_);cases h;exact⟨_,rfl,A4⟩
  refine AD [3,4,5,6] 0 (Xb 14 h (fun h=>?_) (fun h=>?_))
  ·refine AD [7,8,9,10,11,12,13,14,15,16] 0 (Ap ?_);cases h;exact⟨_,rfl,A4⟩
  refine AD [7,8] 0 (bd h fun x1 gx1 h=>KW.q 9 (Un gx1) (AD [10,11] 0 (bd h fun x2 gx2 h=>KW.q 12 (Un gx2) (BT 13 (KB.c 0 h (Za _) (fun v1 gv1 h=>BT 14 (KB.c 0 h (Td _) (fun v2 gv2 h=>AD [15,16] 0 (Ap ?_)))))))));cases h;exact⟨_,rfl,A4⟩
 intro j1 h E hE;refine AE hE (wc h (fun h=>?_) (fun h=>?_))
 ·refine ws (Ab 2 0 (RW.nil ?_));cases h;exact Wp.ret ⟨.inr rfl,BJ (by kernel_rfl)⟩
 refine Wp.skip (ws (Ab 2 0 (bd h fun x3 gx3 h=>RW.q (Un gx3) (Ab 2 0 (RW.nil ?_)))));cases h;exact Wp.ret ⟨.inr rfl,BJ (by kernel_rfl)⟩
def gP (z1:Int) (z2:List Int):St:=AG [(0,(I z1)),(3,(.one (.sl true 5 1 (Ah c5 z2))))] []
def gO (z3:Int) (z4:List Int):St:=AG [(0,(I z3)),(3,(.one (.sl true 5 1 (Ah c5 z4))))] []
theorem I7 (xN:Int) (r:ByteArray) (h:H3 xN=some r):Be Tryz.prog 78 [.sv (I xN)] (Y r) (List.replicate 1 .gone):=by
 unfold H3 at h;refine gk Tryz.func78 rfl Tryz.ntmps78 (ws (Ab 1 0 (RW.nil (ws (Ab 2 2 (RW.nil (Wp.seq (BO h [0,3] [] (fun s=>(gP s.1 s.2)) [0,3] [] (fun s=>(gO s.1 s.2)) A4 ?_ ?_))))))))
 ·rintro⟨b,a⟩ o (h:MF b a=some o);unfold MF at h;refine Wp.seq (ws (Ab 2 0 (RW.nil (wc h (fun h=>?_) (fun h=>?_)))))
  ·refine Wp.skip (Wp.block (ws (Ab 6 0 (bd h fun q1 gq1 h=>Dl (EQ k5 (fun _=>rfl) a gq1) (Ab 1 1 (RW.nil (Ax (Ab 3 0 (RW.nil ?_)))))))));cases h;exact⟨_,rfl,A4⟩
  refine Wp.exit ?_;cases h;exact⟨_,rfl,A4⟩
 intro v1 h E hE;refine AE hE (ws (Ab 4 0 (bd h fun q2 gq2 h=>Dl (EQ k5 (fun _=>rfl) v1.2 gq2) (RW.q (pcv (f:=c5) (fun _=>rfl) q2) (Ab 1 0 (RW.nil ?_))))));cases h;exact Wp.ret ⟨.inr rfl,BJ (by kernel_rfl)⟩
def bT (a:ByteArray) (b:Int) (z1:Int) (z2:Int) (z3:Int):St:=AG [(0,(Y a)),(1,(I b)),(7,(I z1)),(8,(I z2)),(9,(I z3))] []
def bS:St:=AG [] []
def bR (b:ByteArray) (c:Int) (d:Int) (a:Int) (e:Int) (z4:Bool):St:=AG [(0,(Y b)),(1,(I c)),(7,(I d)),(8,(I a)),(9,(I e)),(25,(B z4))] []
def bQ (b:Int) (a:Int) (c:Int) (x1:Int) (z5:Bool):St:=AG [(7,(I (ad b (ml (Int.tmod (IntKind.i64.wrap x1) 128) a)))),(9,(I c)),(54,(B z5))] []
theorem hJ (b:ByteArray) (e:Int) (r:Int×Int×Bool) (h:HT b e=some r):Be Tryz.prog 74 [.sv (Y b),.sv (I e)] (.tup [(I r.1),(I r.2.1),(B r.2.2)]) (List.replicate 2 .gone):=by
 unfold HT at h;refine gk Tryz.func74 rfl Tryz.ntmps74 (ws (Ab 3 0 (RW.nil (Wp.seq (ws (Ab 3 0 (RW.c 0 h (BN _ _ _) (fun v1 gv1 h=>Ab 1 0 (RW.nil (wc h (fun h=>?_) (fun h=>?_)))))))))))
 ·refine ws (Ab 3 0 (RW.nil ?_));cases h;exact Wp.ret ⟨.inr rfl,BJ (by kernel_rfl)⟩
 refine Wp.skip (ws (Ab 1 0 (RW.nil (ws (Ab 1 0 (RW.nil (Wp.seq (ws (Ab 2 0 (RW.nil (Fk h [0,1,7,8,9] [] (fun s=>(bT b e s.1 s.2.1 s.2.2)) [] [] (fun _=>bS) A4 ?_ ?_)))))))))))
 ·rintro⟨f,d,g⟩ o (h:Df b e f d g=some o) hk1;unfold Df at h;refine Wp.seq (Wp.seq (B3 h [0,1,7,8,9,25] [] (fun a=>(bR b e f d g a)) ?_ ?_))
  ·intro a h;refine Ax (Ab 5 0 (Ba 20 h (fun h=>?_) (fun h=>?_)))
   ·refine Ab 5 0 (RW.nil ?_);cases h;exact⟨_,rfl,A4⟩
   refine Ab 5 0 (RW.nil ?_);cases h;exact⟨_,rfl,A4⟩
  intro j1 h E hE;refine AE hE (wc h (fun h=>?_) (fun h=>?_))
  ·refine Wp.skip (Wp.seq (Wp.block (ws (Ab 3 0 (bd h fun x1 gx1 h=>RW.q (sH gx1) (Ab 6 0 (RW.nil (ws (Ab 3 0 (RW.nil (ws (Ab 2 0 ?_))))))))))))
   refine bd h fun x2 gx2 h=>RW.q (sH gx2) (Ab 1 0 (RW.nil (wc h (fun h=>?_) (fun h=>?_))))
   ·refine Wp.seq (Wp.seq (B3 h [7,9,54] [] (fun a=>(bQ f d g x1 a)) ?_ ?_))
    ·intro a h;refine EL [] mixed (fun c E h=>by rcases h with⟨h|h,_⟩<;>cases h) (AD [0,1,2] 0 (Xb 45 h (fun h=>?_) (fun h=>?_)))
     ·refine AD [3,5,6,7,8,9,4,10,11] 0 (Ap ?_);cases h;exact⟨_,rfl,A4⟩
     refine AD [3,5,6,7,8] 0 (bd h fun x3 gx3 h=>KW.q 9 (Un gx3) (BT 4 (KB.c 0 h (I7 _) (fun v2 gv2 h=>AD [10,11] 0 (Ap ?_)))));cases h;exact⟨_,rfl,A4⟩
    intro j2 h E hE;refine AE hE (wc h (fun h=>?_) (fun h=>?_))
    ·refine ws (Ab 3 0 (RW.nil ?_));cases h;replace h:some _=some _:=hk1 _ rfl;cases h;exact Wp.ret ⟨.inr rfl,BJ (by kernel_rfl)⟩
    refine Wp.skip (ws (Ab 6 0 (RW.nil ?_)));cases h;replace h:some _=some _:=hk1 _ rfl;cases h;exact Wp.ret ⟨.inr rfl,BJ (by kernel_rfl)⟩
   refine Wp.skip (Ax (Ab 3 0 (RW.nil ?_)));cases h;exact⟨_,rfl,A4⟩
  refine Wp.exit ?_;cases h;exact⟨_,rfl,A4⟩
 intro v3 h E hE;refine AE hE (ws (Ab 3 0 (RW.nil ?_)));cases h;exact Wp.ret ⟨.inr rfl,BJ (by kernel_rfl)⟩
def gM (xC:EB) (v1:Int×Int×Bool) (z1:Bool):St:=AG [(0,(.one (.ptr (.ext 0) 0 [] 0))),(3,(I v1.1)),(4,(I v1.2.1)),(26,(B z1))] [(.ext 0,[.str xC.text_,.int .i64 xC.at_,.bool xC.bad_])]
theorem JW (xC:EB) (r:Int×EB) (h:DW xC=some r):Be Tryz.prog 48 [.ext [.str xC.text_,.int .i64 xC.at_,.bool xC.bad_]] (I r.1) (.ext [.str r.2.text_,.int .i64 r.2.at_,.bool r.2.bad_]::List.replicate 0 .gone):=by
 unfold DW at h;refine gkx Tryz.func48 rfl Tryz.ntmps48 (ws (Ab 1 0 (RW.nil (Wp.seq (EL [] mixed (fun c E h=>by rcases h with⟨h|h,_⟩<;>cases h) (AD [0,1,2,3,4,5,6,7] 0 (BT 8 (KB.c 0 h (hJ _ _) (fun v1 gv1 h=>AD [9] 1 (Ky 10 (Ky 11 (Ky 12 (AD [13,14,15] 0 ?_)))))))))))));refine Ap (Wp.seq (Wp.seq (B3 h [0,3,4,26] [.ext 0] (fun a=>(gM xC v1 a)) ?_ ?_)))
 ·intro a h;refine Ax (Ab 5 0 (Ba 23 h (fun h=>?_) (fun h=>?_)))
  ·refine Ab 3 0 (RW.nil ?_);cases h;exact⟨_,rfl,A4⟩
  refine Ab 3 0 (RW.nil ?_);cases h;exact⟨_,rfl,A4⟩
 intro j1 h E hE;refine AE hE (wc h (fun h=>?_) (fun h=>?_))
 ·refine ws (Ab 4 0 (RW.nil (ws (Ab 1 0 (RW.nil ?_)))));cases h;exact Wp.ret ⟨.inr rfl,r9 (by kernel_rfl)⟩
 refine Wp.skip (ws (Ab 5 0 (RW.nil (ws (Ab 2 0 (RW.nil ?_))))));cases h;exact Wp.ret ⟨.inr rfl,r9 (by kernel_rfl)⟩
def iG (xP:Page) (z1:Bool):St:=AG [(1,(.one (.ptr (.box 1) 0 [] 0))),(39,(B z1))] [(.box 1,[.int .i64 xP.Kind,.int .i64 xP.Seq,.int .i64 xP.Tx,.int .i64 xP.Part,.int .i64 xP.Count,.str xP.Text])]
theorem m9 (xP:Page) (r:Bool) (h:It xP=some r):Be Tryz.prog 75 [.sv (.agg [.int .i64 xP.Kind,.int .i64 xP.Seq,.int .i64 xP.Tx,.int .i64 xP.Part,.int .i64 xP.Count,.str xP.Text])] (B r) (List.replicate 1 .gone):=by
 unfold It at h;refine gk Tryz.func75 rfl Tryz.ntmps75 (ws (Ab 2 0 (RW.nil (Wp.seq (Wp.seq (B3 h [1,39] [.box 1] (fun a=>(iG xP a)) ?_ ?_))))))
 ·intro a h;refine Ax (Ab 2 0 (RW.c 0 h (BN _ _ _) (fun v1 gv1 h=>Ab 2 0 (Ba 7 h (fun h=>?_) (fun h=>?_)))))
  ·refine Ab 32 0 (RW.nil ?_);cases h;exact⟨_,rfl,A4⟩
  refine Ab 2 0 (RW.c 0 h (BN _ _ _) (fun v2 gv2 h=>Ab 3 0 (Ba 13 h (fun h=>?_) (fun h=>?_))))
  ·refine Ab 26 0 (RW.nil ?_);cases h;exact⟨_,rfl,A4⟩
  refine Ab 2 0 (RW.c 0 h (BN _ _ _) (fun v3 gv3 h=>Ab 3 0 (Ba 19 h (fun h=>?_) (fun h=>?_))))
  ·refine Ab 20 0 (RW.nil ?_);cases h;exact⟨_,rfl,A4⟩
  refine Ab 2 0 (RW.c 0 h (BN _ _ _) (fun v4 gv4 h=>Ab 3 0 (Ba 25 h (fun h=>?_) (fun h=>?_))))
  ·refine Ab 14 0 (RW.nil ?_);cases h;exact⟨_,rfl,A4⟩
  refine Ab 5 0 (RW.c 0 h (BN _ _ _) (fun v5 gv5 h=>Ab 3 0 (Ba 34 h (fun h=>?_) (fun h=>?_))))
  ·refine Ab 5 0 (RW.nil ?_);cases h;exact⟨_,rfl,A4⟩
  refine Ab 5 0 (RW.nil ?_);cases h;exact⟨_,rfl,A4⟩
 intro j1 h E hE;refine AE hE (wc h (fun h=>?_) (fun h=>?_))
 ·refine ws (Ab 1 0 (RW.nil ?_));cases h;exact Wp.ret ⟨.inr rfl,BJ (by kernel_rfl)⟩
 refine Wp.skip (ws (Ab 4 0 (Ba 43 h (fun h=>?_) (fun h=>?_))))
 ·refine Ab 5 0 (RW.nil ?_);cases h;exact Wp.ret ⟨.inr rfl,BJ (by kernel_rfl)⟩
 refine Ab 5 0 (RW.nil ?_);cases h;exact Wp.ret ⟨.inr rfl,BJ (by kernel_rfl)⟩
theorem Tc (xN:Int) (r:ByteArray) (h:LE xN=some r):Be Tryz.prog 77 [.sv (I xN)] (Y r) (List.replicate 1 .gone):=by
 unfold LE at h;refine gk Tryz.func77 rfl Tryz.ntmps77 (ws (Ab 1 0 (RW.nil (ws (Ab 3 0 (RW.q (pcv (f:=c5) (fun _=>rfl) [(IntKind.u8.wrap xN)]) (Ab 1 0 (RW.nil ?_))))))));cases h;exact Wp.ret ⟨.inr rfl,BJ (by kernel_rfl)⟩
theorem mW (a:ByteArray) (r:ByteArray×Bool) (h:Ir a=some r):Be Tryz.prog 76 [.sv (Y a)] (.tup [(Y r.1),(B r.2)]) (List.replicate 1 .gone):=by
 unfold Ir at h;refine gk Tryz.func76 rfl Tryz.ntmps76 (ws (Ab 2 0 (RW.nil (Wp.seq (ws (Ab 3 0 (RW.nil (wc h (fun h=>?_) (fun h=>?_)))))))))
 ·refine ws (Ab 2 0 (RW.nil ?_));cases h;exact Wp.ret ⟨.inr rfl,BJ (by kernel_rfl)⟩
 refine Wp.skip (ws (Ab 2 0 (RW.c 0 h (Za _) (fun v1 gv1 h=>RW.c 0 h (Td _) (fun v2 gv2 h=>bd h fun x1 gx1 h=>RW.q (Qg gx1) (Ab 2 0 (RW.nil ?_)))))));cases h;exact Wp.ret ⟨.inr rfl,BJ (by kernel_rfl)⟩
theorem Rp (xP:Page) (r:ByteArray×Bool) (h:E6 xP=some r):Be Tryz.prog 49 [.sv (.agg [.int .i64 xP.Kind,.int .i64 xP.Seq,.int .i64 xP.Tx,.int .i64 xP.Part,.int .i64 xP.Count,.str xP.Text])] (.tup [(Y r.1),(B r.2)]) (List.replicate 1 .gone):=by
 unfold E6 at h;refine gk Tryz.func49 rfl Tryz.ntmps49 (ws (Ab 3 0 (RW.nil (Wp.seq (ws (Ab 1 0 (RW.c 0 h (m9 _) (fun v1 gv1 h=>Ab 1 0 (RW.nil (wc h (fun h=>?_) (fun h=>?_)))))))))))
 ·refine ws (Ab 2 0 (RW.nil ?_));cases h;exact Wp.ret ⟨.inr rfl,BJ (by kernel_rfl)⟩
 refine Wp.skip (Wp.seq (EL [] mixed (fun c E h=>by rcases h with⟨h|h,_⟩<;>cases h) (AD [0,1,3,4,7,8,11,12,15,16,19,20] 0 (BT 2 (KB.c 0 h (Tc _) (fun v2 gv2 h=>BT 5 (KB.c 0 h (I7 _) (fun v3 gv3 h=>bd h fun x1 gx1 h=>KW.q 6 (Qg gx1) (BT 9 (KB.c 0 h (I7 _) (fun v4 gv4 h=>bd h fun x2 gx2 h=>KW.q 10 (Qg gx2) ?_)))))))))));refine BT 13 (KB.c 0 h (I7 _) (fun v5 gv5 h=>bd h fun x3 gx3 h=>KW.q 14 (Qg gx3) (BT 17 (KB.c 0 h (I7 _) (fun v6 gv6 h=>bd h fun x4 gx4 h=>KW.q 18 (Qg gx4) (bd h fun x5 gx5 h=>KW.q 21 (Qg gx5) (BT 22 (KB.c 0 h (mW _) (fun v7 gv7 h=>Ky 23 (Ky 24 ?_))))))))));refine AD [25,26] 0 (Ap ?_);cases h;exact Wp.ret ⟨.inr rfl,BJ (by kernel_rfl)⟩
def XP (xT:ByteArray) (v1:ByteArray×Bool) (z1:Bool):St:=AG [(0,(Y xT)),(2,(.one (.ptr (.box 2) 0 [] 0))),(4,(Y v1.1)),(6,(.one (.ptr (.box 24) 0 [] 0)))] [(.box 2,[.int .i64 0,.int .i64 0,.int .i64 0,.int .i64 0,.int .i64 0,.str (bs [])]),(.box 24,[.str v1.1,.int .i64 1,.bool z1])]
def XO (v2:Int×EB) (v3:Int×EB) (v4:Int×EB) (v5:Int×EB) (x1:Int) (x2:ByteArray) (z2:Bool):St:=AG [(2,(.one (.ptr (.box 2) 0 [] 0))),(7,(.one (.ptr (.box 7) 0 [] 0))),(64,(B z2))] [(.box 2,[.int .i64 0,.int .i64 0,.int .i64 0,.int .i64 0,.int .i64 0,.str (bs [])]),(.box 7,[.int .i64 (IntKind.i64.wrap x1),.int .i64 v2.1,.int .i64 v3.1,.int .i64 v4.1,.int .i64 v5.1,.str x2])]
theorem bV (xT:ByteArray) (r:Page×Bool) (h:E5 xT=some r):Be Tryz.prog 21 [.sv (Y xT)] (.tup [(.agg [.int .i64 r.1.Kind,.int .i64 r.1.Seq,.int .i64 r.1.Tx,.int .i64 r.1.Part,.int .i64 r.1.Count,.str r.1.Text]),(B r.2)]) (List.replicate 1 .gone):=by
 unfold E5 at h;refine gk Tryz.func21 rfl Tryz.ntmps21 (ws (Ab 2 0 (RW.nil (ws (Ab 1 0 (RW.c 0 h (aM _) (fun v1 gv1 h=>Ab 5 1 (RW.nil (Wp.seq (B3 h [0,2,4,6] [.box 2,.box 24] (fun a=>(XP xT v1 a)) ?_ ?_))))))))))
 ·intro a h;refine Ax (Ab 4 0 (Ba 18 h (fun h=>?_) (fun h=>?_)))
  ·refine Ab 7 0 (RW.nil ?_);cases h;exact⟨_,rfl,A4⟩
  refine Ab 7 0 (RW.nil ?_);cases h;exact⟨_,rfl,A4⟩
 intro j1 h E hE;refine AE hE (ws (Ab 1 0 (Gc h (JW _) (fun _=>rfl) (fun v2 gv2 h=>Ab 3 0 (RW.nil (ws (Ab 1 0 (Gc h (JW _) (fun _=>rfl) (fun v3 gv3 h=>Ab 2 0 (RW.nil (ws (Ab 1 0 (Gc h (JW _) (fun _=>rfl) (fun v4 gv4 h=>?_))))))))))))));refine Ab 2 0 (RW.nil (ws (Ab 1 0 (Gc h (JW _) (fun _=>rfl) (fun v5 gv5 h=>Ab 2 0 (RW.nil (Wp.seq (ws (Ab 4 0 (RW.nil (wc h (fun h=>?_) (fun h=>?_))))))))))))
 ·refine ws (Ab 3 0 (RW.nil ?_));cases h;exact Wp.ret ⟨.inr rfl,BJ (by kernel_rfl)⟩
 refine Wp.skip (ws (Ab 1 0 (bd h fun x1 gx1 h=>RW.q (sH gx1) (Ab 3 0 (RW.nil (ws (Ab 5 0 (bd h fun x2 gx2 h=>RW.q (Un gx2) (Ab 2 0 (RW.nil (ws ?_)))))))))));refine Ab 1 0 (RW.c 0 h (Rp _) (fun v6 gv6 h=>Ab 5 1 (RW.nil (Wp.seq (Wp.seq (B3 h [2,7,64] [.box 2,.box 7] (fun a=>(XO v2 v3 v4 v5 x1 x2 a)) ?_ ?_))))))
 ·intro a h;refine Ax (Ab 3 0 (Ba 60 h (fun h=>?_) (fun h=>?_)))
  ·refine Ab 4 0 (RW.nil ?_);cases h;exact⟨_,rfl,A4⟩
  refine Ab 4 0 (RW.nil ?_);cases h;exact⟨_,rfl,A4⟩
 intro j2 h E hE;refine AE hE (wc h (fun h=>?_) (fun h=>?_))
 ·refine ws (Ab 3 0 (RW.nil ?_));cases h;exact Wp.ret ⟨.inr rfl,BJ (by kernel_rfl)⟩
 refine Wp.skip (ws (Ab 3 0 (RW.nil ?_)));cases h;exact Wp.ret ⟨.inr rfl,BJ (by kernel_rfl)⟩
def Gb (x:Aq):List TV:=[.int .i64 x.Block,.int .i64 x.Leaf,.int .i64 x.Page.Kind,.int .i64 x.Page.Seq,.int .i64 x.Page.Tx,.int .i64 x.Page.Part,.int .i64 x.Page.Count,.str x.Page.Text]
theorem DY:∀x,(Gb x).length=8:=fun _=>rfl
theorem Sn:∀l,BG (Ah Gb l)=Ah Gb l:=D6 (fun _=>rfl)
def bO (xF:Flash) (z1:List Aq) (z2:Int):St:=AG [(1,(.one (.ptr (.box 1) 0 [] 0))),(3,(.one (.sl true 54 8 (Ah Gb z1)))),(4,(I z2))] [(.box 1,[.sl false 77 3 (Ah (Cs false) xF.Blocks)])]
def bN (z3:List Aq):St:=AG [(3,(.one (.sl true 54 8 (Ah Gb z3))))] []
def bM (xF:Flash) (a:Int) (z4:List Aq) (z5:Int):St:=AG [(1,(.one (.ptr (.box 1) 0 [] 0))),(3,(.one (.sl true 54 8 (Ah Gb z4)))),(4,(I a)),(5,(I z5))] [(.box 1,[.sl false 77 3 (Ah (Cs false) xF.Blocks)])]
def bL (xF:Flash) (a:Int) (z6:List Aq):St:=AG [(1,(.one (.ptr (.box 1) 0 [] 0))),(3,(.one (.sl true 54 8 (Ah Gb z6)))),(4,(I a))] [(.box 1,[.sl false 77 3 (Ah (Cs false) xF.Blocks)])]
def bK (xF:Flash) (b:Int) (a:List Aq) (c:Int) (v2:Page×Bool) (z7:Bool):St:=AG [(1,(.one (.ptr (.box 1) 0 [] 0))),(3,(.one (.sl true 54 8 (Ah Gb a)))),(4,(I b)),(5,(I c)),(8,(.one (.ptr (.box 8) 0 [] 0))),(47,(B z7))] [(.box 1,[.sl false 77 3 (Ah (Cs false) xF.Blocks)]),(.box 8,[.int .i64 v2.1.Kind,.int .i64 v2.1.Seq,.int .i64 v2.1.Tx,.int .i64 v2.1.Part,.int .i64 v2.1.Count,.str v2.1.Text])]
def bJ (z8:List Aq) (z9:Int):St:=AG [(3,(.one (.sl true 54 8 (Ah Gb z8)))),(10,(I z9))] []
def bI (z10:List Aq):St:=AG [(3,(.one (.sl true 54 8 (Ah Gb z10))))] []
def bH (a:Int) (z11:List Aq) (z12:Int):St:=AG [(3,(.one (.sl true 54 8 (Ah Gb z11)))),(10,(I a)),(11,(I z12))] []
def bG (a:Int) (z13:List Aq):St:=AG [(3,(.one (.sl true 54 8 (Ah Gb z13)))),(10,(I a))] []
def XI (b:Int) (a:List Aq) (c:Int) (z14:Bool):St:=AG [(3,(.one (.sl true 54 8 (Ah Gb a)))),(10,(I b)),(11,(I c)),(79,(B z14))] []
theorem F9 (xF:Flash) (r:List Aq) (h:Et xF=some r):Be Tryz.prog 13 [.sv (.agg [.sl false 77 3 (Ah (Cs false) xF.Blocks)])] (.one (.sl true 54 8 (Ah Gb r))) (List.replicate 1 .gone):=by
 unfold Et at h;refine gk Tryz.func13 rfl Tryz.ntmps13 (ws (Ab 2 0 (RW.nil (ws (Ab 2 2 (RW.nil (Wp.seq (ws (Ab 1 0 (RW.nil (BO h [1,3,4] [.box 1] (fun s=>(bO xF s.1 s.2)) [3] [] (fun s=>(bN s)) A4 ?_ ?_)))))))))))
 ·rintro⟨i,d⟩ o (h:DM xF i d=some o);unfold DM at h;refine Wp.seq (ws (Ab 3 0 (RW.q (D5 (Fq false) xF.Blocks) (Ab 1 0 (RW.nil (wc h (fun h=>?_) (fun h=>?_)))))))
  ·refine Wp.skip (Wp.seq (Wp.block (ws (Ab 1 0 (RW.nil (BO h [1,3,4,5] [.box 1] (fun s=>(bM xF d s.1 s.2)) [1,3,4] [.box 1] (fun s=>(bL xF d s)) A4 ?_ ?_))))))
   ·rintro⟨b,j⟩ o (h:Ei xF d b j=some o);unfold Ei at h;refine Wp.seq (ws (Ab 4 0 (bd h fun x1 gx1 h=>RW.q (Cq (Fq false) gx1) (RW.q (DD (Fq false) gx1 0 2) (RW.q (CN (Fq false) gx1 2) (RW.q (D5 M7 x1.Leaves) (Ab 1 0 (RW.nil (wc h (fun h=>?_) (fun h=>?_))))))))))
    ·refine Wp.skip (Wp.seq (Wp.block (ws (Ab 3 0 (RW.c 0 h (bW _ _ _) (fun v1 gv1 h=>Ab 5 1 (RW.nil (ws (Ab 1 0 (RW.c 0 h (bV _) (fun v2 gv2 h=>Ab 6 1 (RW.nil (Wp.seq ?_)))))))))))));refine B3 h [1,3,4,5,8,47] [.box 1,.box 8] (fun a=>(bK xF d b j v2 a)) ?_ ?_
     ·intro a h;refine Ax (Ab 2 0 (Ba 45 h (fun h=>?_) (fun h=>?_)))
      ·refine Ab 2 0 (RW.nil ?_);cases h;exact⟨_,rfl,A4⟩
      refine Ab 2 0 (RW.nil ?_);cases h;exact⟨_,rfl,A4⟩
     intro j1 h E hE;refine AE hE (wc h (fun h=>?_) (fun h=>?_))
     ·refine Ax (Ab 6 0 (bd h fun q1 gq1 h=>Dl (EQ DY (fun _=>rfl) b gq1) (Ab 1 1 (RW.nil (Ax (Ab 3 0 (RW.nil ?_)))))));cases h;exact⟨_,rfl,A4⟩
     refine Wp.skip (Ax (Ab 3 0 (RW.nil ?_)));cases h;exact⟨_,rfl,A4⟩
    refine Wp.exit ?_;cases h;exact⟨_,rfl,A4⟩
   intro v3 h E hE;refine AE hE (Ax (Ab 3 0 (RW.nil ?_)));cases h;exact⟨_,rfl,A4⟩
  refine Wp.exit ?_;cases h;exact⟨_,rfl,A4⟩
 intro v4 h E hE;refine AE hE (Wp.seq (ws (Ab 1 0 (RW.nil (BO h [3,10] [] (fun s=>(bJ s.1 s.2)) [3] [] (fun s=>(bI s)) A4 ?_ ?_)))))
 ·rintro⟨e,g⟩ o (h:HS e g=some o);unfold HS at h;refine Wp.seq (ws (Ab 2 0 (RW.q (D5 DY e) (Ab 1 0 (RW.nil (wc h (fun h=>?_) (fun h=>?_)))))))
  ·refine Wp.skip (Wp.seq (Wp.block (ws (Ab 2 0 (RW.nil (BO h [3,10,11] [] (fun s=>(bH g s.1 s.2)) [3,10] [] (fun s=>(bG g s)) A4 ?_ ?_))))))
   ·rintro⟨f,k⟩ o (h:HR f k=some o);unfold HR at h;refine Wp.seq (Wp.seq (B3 h [3,10,11,79] [] (fun a=>(XI g f k a)) ?_ ?_))
    ·intro a h;refine M3 mixed (DZ 3 (kW 64 h (fun h=>?_) (fun h=>?_)))
     ·refine DZ 3 (bd h fun x2 gx2 h=>SW.q (Cq DY gx2) (SW.q (DD DY gx2 0 2) (SW.q (DD DY gx2 2 3) (SW.q (CN DY gx2 3) (DZ 2 (bd h fun x3 gx3 h=>SW.q (Cq DY gx3) (SW.q (DD DY gx3 0 2) (SW.q (DD DY gx3 2 3) (SW.q (CN DY gx3 3) (DZ 2 (SW.nil ?_)))))))))));cases h;exact⟨_,rfl,A4⟩
     refine DZ 15 (SW.nil ?_);cases h;exact⟨_,rfl,A4⟩
    intro j2 h E hE;refine AE hE (wc h (fun h=>?_) (fun h=>?_))
    ·refine Wp.skip (Wp.seq (Wp.block (ws (Ab 2 0 (bd h fun x4 gx4 h=>RW.q (Cq DY gx4) (RW.q (Si DY gx4 0 8) (Ab 2 0 (RW.nil (ws (Ab 5 0 (bd h fun x5 gx5 h=>RW.q (Cq DY gx5) ?_)))))))))));refine RW.q (Si DY gx5 0 8) (bd h fun x6 gx6 h=>RW.q (Cq DY gx6) (Dl (Ow DY gx6 0 0 x5) (RW.nil (Ax (Ab 4 0 (bd h fun x7 gx7 h=>RW.q (Cq DY gx7) (Dl (Ow DY gx7 0 0 x4) (RW.nil (Ax (Ab 3 0 (RW.nil ?_)))))))))));cases h;exact⟨_,rfl,A4⟩
    refine Wp.exit ?_;cases h;exact⟨_,rfl,A4⟩
   intro v5 h E hE;refine AE hE (Ax (Ab 3 0 (RW.nil ?_)));cases h;exact⟨_,rfl,A4⟩
  refine Wp.exit ?_;cases h;exact⟨_,rfl,A4⟩
 intro v6 h E hE;refine AE hE (ws (Ab 2 2 (RW.nil ?_)));cases h;exact Wp.ret ⟨.inr rfl,BJ (by kernel_rfl)⟩
def aJ (xF:Flash) (z1:Int) (z2:List Block):St:=AG [(1,(.one (.ptr (.box 1) 0 [] 0))),(2,(.one (.ptr (.box 2) 0 [] 0))),(3,(.one (.ptr (.box 3) 0 [] 0))),(4,(I z1))] [(.box 1,[.sl false 77 3 (Ah (Cs false) xF.Blocks)]),(.box 2,[.sl true 77 3 (Ah (Cs true) [])]),(.box 3,[.sl true 77 3 (Ah (Cs true) z2)])]
def aI (z3:List Block):St:=AG [(2,(.one (.ptr (.box 2) 0 [] 0))),(3,(.one (.ptr (.box 3) 0 [] 0)))] [(.box 2,[.sl true 77 3 (Ah (Cs true) [])]),(.box 3,[.sl true 77 3 (Ah (Cs true) z3)])]
theorem IP (xF:Flash) (r:Flash) (h:GV xF=some r):Be Tryz.prog 123 [.sv (.agg [.sl false 77 3 (Ah (Cs false) xF.Blocks)])] (.agg [.sl true 77 3 (Ah (Cs true) r.Blocks)]) (List.replicate 1 .gone):=by
 unfold GV at h;refine gk Tryz.func123 rfl Tryz.ntmps123 (ws (Ab 2 0 (RW.nil (ws (Ab 3 0 (RW.nil (Wp.seq (ws (Ab 1 0 (RW.nil (BO h [1,2,3,4] [.box 1,.box 2,.box 3] (fun s=>(aJ xF s.1 s.2)) [2,3] [.box 2,.box 3] (fun s=>(aI s)) A4 ?_ ?_)))))))))))
 ·rintro⟨b,a⟩ o (h:HN xF b a=some o);unfold HN at h;refine Wp.seq (ws (Ab 3 0 (RW.q (D5 (Fq false) xF.Blocks) (Ab 1 0 (RW.nil (wc h (fun h=>?_) (fun h=>?_)))))))
  ·refine Wp.skip (Wp.seq (Wp.block (ws (Ab 3 0 (bd h fun x1 gx1 h=>RW.q (Cq (Fq false) gx1) (RW.q (Si (Fq false) gx1 0 3) (Ab 2 0 (RW.nil (ws (Ab 3 0 (bd h fun q1 gq1 h=>Dl (EQ M7 (fun _=>rfl) [] gq1) ?_)))))))))));refine Ab 2 0 (RW.nil (Ax (Ab 4 0 (bd h fun q2 gq2 h=>Dl (oV (Fq true) a [(Block.mk x1.Bad x1.Wear q1)] gq2) (Ab 2 0 (RW.nil (Ax (Ab 3 0 (RW.nil ?_)))))))));cases h;exact⟨_,rfl,A4⟩
  refine Wp.exit ?_;cases h;exact⟨_,rfl,A4⟩
 intro v1 h E hE;refine AE hE (ws (Ab 2 0 (RW.nil ?_)));cases h;exact Wp.ret ⟨.inr rfl,BJ (by kernel_rfl)⟩
def CD (x:Vol):List TV:=[.int .i64 x.Id,.int .i64 x.Root]
theorem Em:∀x,(CD x).length=2:=fun _=>rfl
theorem Fx:∀l,BG (Ah CD l)=Ah CD l:=D6 (fun _=>rfl)
theorem Yw:∀l,AR (Ah CD l)=false:=K4 (fun _=>rfl)
def c3 (x:Int):List TV:=[.int .i64 x]
theorem k3:∀x,(c3 x).length=1:=fun _=>rfl
theorem fZ:∀l,BG (Ah c3 l)=Ah c3 l:=D6 (fun _=>rfl)
theorem ns3:∀l,AR (Ah c3 l)=false:=K4 (fun _=>rfl)
def AN (o:Bool) (x:BX):List TV:=[.bool x.Leaf,.sl o 3 1 (Ah c3 x.Kids)]
theorem CM (o:Bool):∀x,(AN o x).length=2:=fun _=>rfl
theorem Dj:∀l,BG (Ah (AN true) l)=Ah (AN false) l:=D6 (fun x=>by simp only [AN,BG,Lj,fZ])
theorem Lk:∀l,AR (Ah (AN true) l)=false:=K4 (fun x=>by simp [AN,AR,BB,ns3])
theorem bF (r:Store) (h:NX=some r):Be Tryz.prog 124 [] (.agg [.sl true 39 2 (Ah CD r.Vols),.sl true 150 2 (Ah (AN true) r.Arena.Knots),.int .i64 r.Next]) (List.replicate 0 .gone):=by
 unfold NX at h;refine gk Tryz.func124 rfl Tryz.ntmps124 (ws (Ab 1 0 (RW.nil (ws (Ab 2 0 (RW.nil ?_))))));cases h;exact Wp.ret ⟨.inr rfl,BJ (by kernel_rfl)⟩
def mY (z1:Bool):St:=AG [(2,(B z1))] []
def mX (xR:Dk) (z2:Bool):St:=AG [(1,(.one (.ptr (.box 1) 0 [] 0))),(37,(B z2))] [(.box 1,[.int .i64 xR.Kind,.int .i64 xR.Vol,.int .i64 xR.Arg,.int .i64 xR.Chunk])]
theorem S0 (xR:Dk) (r:Bool) (h:NY xR=some r):Be Tryz.prog 89 [.sv (.agg [.int .i64 xR.Kind,.int .i64 xR.Vol,.int .i64 xR.Arg,.int .i64 xR.Chunk])] (B r) (List.replicate 1 .gone):=by
 unfold NY at h;refine gk Tryz.func89 rfl Tryz.ntmps89 (ws (Ab 2 0 (RW.nil (Wp.seq (ws (Ab 2 0 (RW.c 0 h (BN _ _ _) (fun v1 gv1 h=>Ab 1 0 (RW.nil (wc h (fun h=>?_) (fun h=>?_)))))))))))
 ·refine ws (Ab 1 0 (RW.nil ?_));cases h;exact Wp.ret ⟨.inr rfl,BJ (by kernel_rfl)⟩
 refine Wp.skip (Wp.seq (ws (Ab 3 0 (RW.nil (wc h (fun h=>?_) (fun h=>?_))))))
 ·refine Wp.seq (B3 h [2] [] (fun a=>(mY a)) ?_ ?_)
  ·intro a h;refine Ax (Ab 4 0 (Ba 13 h (fun h=>?_) (fun h=>?_)))
   ·refine Ab 5 0 (RW.nil ?_);cases h;exact⟨_,rfl,A4⟩
   refine Ab 5 0 (RW.nil ?_);cases h;exact⟨_,rfl,A4⟩
  intro j1 h E hE;refine AE hE ?_;cases h;exact Wp.ret ⟨.inr rfl,BJ (by kernel_rfl)⟩
 refine Wp.skip (Wp.seq (Wp.seq (B3 h [1,37] [.box 1] (fun a=>(mX xR a)) ?_ ?_)))
 ·intro a h;refine Ax (Ab 2 0 (RW.c 0 h (BN _ _ _) (fun v2 gv2 h=>Ab 2 0 (Ba 22 h (fun h=>?_) (fun h=>?_)))))
  ·refine Ab 15 0 (RW.nil ?_);cases h;exact⟨_,rfl,A4⟩
  refine Ab 2 0 (RW.c 0 h (BN _ _ _) (fun v3 gv3 h=>Ab 3 0 (Ba 28 h (fun h=>?_) (fun h=>?_))))
  ·refine Ab 9 0 (RW.nil ?_);cases h;exact⟨_,rfl,A4⟩
  refine Ab 4 0 (Ba 32 h (fun h=>?_) (fun h=>?_))
  ·refine Ab 5 0 (RW.nil ?_);cases h;exact⟨_,rfl,A4⟩
  refine Ab 5 0 (RW.nil ?_);cases h;exact⟨_,rfl,A4⟩
 intro j2 h E hE;refine AE hE (wc h (fun h=>?_) (fun h=>?_))
 ·refine ws (Ab 1 0 (RW.nil ?_));cases h;exact Wp.ret ⟨.inr rfl,BJ (by kernel_rfl)⟩
 refine Wp.skip (Wp.seq (ws (Ab 2 0 (RW.nil (Wp.block (ws (Ab 2 0 (RW.nil (wc h (fun h=>?_) (fun h=>?_))))))))))
 ·refine ws (Ab 4 0 (RW.nil ?_));cases h;exact Wp.ret ⟨.inr rfl,BJ (by kernel_rfl)⟩
 refine ws (Ab 2 0 (RW.nil (wc h (fun h=>?_) (fun h=>?_))))
 ·refine ws (Ab 4 0 (RW.nil ?_));cases h;exact Wp.ret ⟨.inr rfl,BJ (by kernel_rfl)⟩
 refine ws (Ab 2 0 (RW.nil (wc h (fun h=>?_) (fun h=>?_))))
 ·refine ws (Ab 4 0 (Ba 55 h (fun h=>?_) (fun h=>?_)))
  ·refine Ab 2 0 (RW.c 0 h (BN _ _ _) (fun v4 gv4 h=>Ab 2 0 (RW.nil ?_)));cases h;exact Wp.ret ⟨.inr rfl,BJ (by kernel_rfl)⟩
  refine Ab 5 0 (RW.nil ?_);cases h;exact Wp.ret ⟨.inr rfl,BJ (by kernel_rfl)⟩
 refine Wp.skip (ws (Ab 4 0 (RW.nil ?_)));cases h;exact Wp.ret ⟨.inr rfl,BJ (by kernel_rfl)⟩
def Ni (x:Dk):List TV:=[.int .i64 x.Kind,.int .i64 x.Vol,.int .i64 x.Arg,.int .i64 x.Chunk]
theorem Ww:∀x,(Ni x).length=4:=fun _=>rfl
theorem AA3:∀l,BG (Ah Ni l)=Ah Ni l:=D6 (fun _=>rfl)
theorem AB2:∀l,AR (Ah Ni l)=false:=K4 (fun _=>rfl)
def XN (xT:ByteArray) (z1:List Dk) (z2:ByteArray) (z3:Int) (z4:Bool):St:=AG [(0,(Y xT)),(4,(.one (.sl true 99 4 (Ah Ni z1)))),(5,(.one (.ptr (.box 11) 0 [] 0)))] [(.box 11,[.str z2,.int .i64 z3,.bool z4])]
def XM (z5:List Dk):St:=AG [(4,(.one (.sl true 99 4 (Ah Ni z5))))] []
def XL (xT:ByteArray) (a:List Dk) (y01:ByteArray) (y11:Int) (y21:Bool) (z6:Bool):St:=AG [(0,(Y xT)),(4,(.one (.sl true 99 4 (Ah Ni a)))),(5,(.one (.ptr (.box 11) 0 [] 0))),(25,(B z6))] [(.box 11,[.str y01,.int .i64 y11,.bool y21])]
def XK (xT:ByteArray) (a:List Dk) (x1:Int) (v1:Int×EB) (v2:Int×EB) (z7:Bool):St:=AG [(0,(Y xT)),(4,(.one (.sl true 99 4 (Ah Ni a)))),(5,(.one (.ptr (.box 11) 0 [] 0))),(7,(.one (.ptr (.box 7) 0 [] 0))),(59,(B z7))] [(.box 7,[.int .i64 (qu (IntKind.i64.wrap x1) 16),.int .i64 (Int.tmod (IntKind.i64.wrap x1) 16),.int .i64 v1.1,.int .i64 v2.1]),(.box 11,[.str v2.2.text_,.int .i64 v2.2.at_,.bool v2.2.bad_])]
theorem bU (xT:ByteArray) (r:List Dk×Bool) (h:IA xT=some r):Be Tryz.prog 172 [.sv (Y xT)] (.tup [(.one (.sl true 99 4 (Ah Ni r.1))),(B r.2)]) (List.replicate 1 .gone):=by
 unfold IA at h;refine gk Tryz.func172 rfl Tryz.ntmps172 (ws (Ab 2 0 (RW.nil (ws (Ab 2 2 (RW.nil (ws (Ab 4 0 (RW.nil (Wp.seq (Fk h [0,4,5] [.box 11] (fun s=>(XN xT s.1 s.2.1 s.2.2.1 s.2.2.2)) [4] [] (fun s=>(XM s)) A4 ?_ ?_)))))))))))
 ·rintro⟨b,y01,y11,y21⟩ o (h:DF xT b y01 y11 y21=some o) hk1;unfold DF at h;refine Wp.seq (Wp.seq (B3 h [0,4,5,25] [.box 11] (fun a=>(XL xT b y01 y11 y21 a)) ?_ ?_))
  ·intro a h;refine Ax (Ab 8 0 (Ba 19 h (fun h=>?_) (fun h=>?_)))
   ·refine Ab 6 0 (RW.nil ?_);cases h;exact⟨_,rfl,A4⟩
   refine Ab 6 0 (RW.nil ?_);cases h;exact⟨_,rfl,A4⟩
  intro j1 h E hE;refine AE hE (wc h (fun h=>?_) (fun h=>?_))
  ·refine Wp.skip (Wp.block (ws (Ab 5 0 (bd h fun x1 gx1 h=>RW.q (sH gx1) (Ab 2 0 (RW.nil (ws (Ab 9 0 (RW.nil (ws (Ab 5 0 (Gc h (JW _) (fun _=>rfl) (fun v1 gv1 h=>?_)))))))))))));refine Ab 3 0 (RW.nil (ws (Ab 1 0 (Gc h (JW _) (fun _=>rfl) (fun v2 gv2 h=>Ab 2 0 (RW.nil (Wp.seq (Wp.seq (B3 h [0,4,5,7,59] [.box 7,.box 11] (fun a=>(XK xT b x1 v1 v2 a)) ?_ ?_)))))))))
   ·intro a h;refine Ax (Ab 5 0 (Ba 55 h (fun h=>?_) (fun h=>?_)))
    ·refine Ab 4 0 (RW.nil ?_);cases h;exact⟨_,rfl,A4⟩
    refine Ab 1 0 (RW.c 0 h (S0 _) (fun v3 gv3 h=>Ab 2 0 (RW.nil ?_)));cases h;exact⟨_,rfl,A4⟩
   intro j2 h E hE;refine AE hE (wc h (fun h=>?_) (fun h=>?_))
   ·refine ws (Ab 3 2 (RW.nil ?_));cases h;replace h:some _=some _:=hk1 _ rfl;cases h;exact Wp.ret ⟨.inr rfl,BJ (by kernel_rfl)⟩
   refine Wp.skip (Ax (Ab 3 0 (bd h fun q1 gq1 h=>Dl (EQ Ww (fun _=>rfl) b gq1) (Ab 1 1 (RW.nil ?_)))));cases h;exact⟨_,rfl,A4⟩
  refine Wp.exit ?_;cases h;exact⟨_,rfl,A4⟩
 intro v4 h E hE;refine AE hE (ws (Ab 3 2 (RW.nil ?_)));cases h;exact Wp.ret ⟨.inr rfl,BJ (by kernel_rfl)⟩
def mR (a:List Aq) (b:Int) (z1:Int) (z2:ByteArray) (z3:Int) (z4:Int):St:=AG [(0,(.one (.sl false 54 8 (Ah Gb a)))),(1,(I b)),(4,(.one (.ptr (.box 4) 0 [] 0))),(6,(.one (.ptr (.box 6) 0 [] 0))),(7,(I z1)),(8,(Y z2)),(9,(I z3))] [(.box 4,[.int .i64 0,.int .i64 0,.sl true 99 4 (Ah Ni [])]),(.box 6,[.int .i64 b,.int .i64 z4,.sl true 99 4 (Ah Ni [])])]
def mQ (a:Int) (z5:ByteArray) (z6:Int):St:=AG [(4,(.one (.ptr (.box 4) 0 [] 0))),(6,(.one (.ptr (.box 6) 0 [] 0))),(8,(Y z5))] [(.box 4,[.int .i64 0,.int .i64 0,.sl true 99 4 (Ah Ni [])]),(.box 6,[.int .i64 a,.int .i64 z6,.sl true 99 4 (Ah Ni [])])]
def mP (e:List Aq) (f:Int) (a:Int) (b:ByteArray) (c:Int) (d:Int) (z7:Bool):St:=AG [(0,(.one (.sl false 54 8 (Ah Gb e)))),(1,(I f)),(4,(.one (.ptr (.box 4) 0 [] 0))),(6,(.one (.ptr (.box 6) 0 [] 0))),(7,(I a)),(8,(Y b)),(9,(I c)),(23,(B z7))] [(.box 4,[.int .i64 0,.int .i64 0,.sl true 99 4 (Ah Ni [])]),(.box 6,[.int .i64 f,.int .i64 d,.sl true 99 4 (Ah Ni [])])]
def mO (b:List Aq) (c:Int) (a:Int) (z8:Int) (z9:ByteArray) (z10:Bool) (z11:Int) (z12:Int):St:=AG [(0,(.one (.sl false 54 8 (Ah Gb b)))),(1,(I c)),(4,(.one (.ptr (.box 4) 0 [] 0))),(6,(.one (.ptr (.box 6) 0 [] 0))),(7,(I z8)),(8,(Y z9)),(9,(I a)),(10,(B z10)),(11,(I z11))] [(.box 4,[.int .i64 0,.int .i64 0,.sl true 99 4 (Ah Ni [])]),(.box 6,[.int .i64 c,.int .i64 z12,.sl true 99 4 (Ah Ni [])])]
def mN (b:List Aq) (c:Int) (a:Int) (z13:Int) (z14:ByteArray) (z15:Bool) (z16:Int):St:=AG [(0,(.one (.sl false 54 8 (Ah Gb b)))),(1,(I c)),(4,(.one (.ptr (.box 4) 0 [] 0))),(6,(.one (.ptr (.box 6) 0 [] 0))),(7,(I z13)),(8,(Y z14)),(9,(I a)),(10,(B z15))] [(.box 4,[.int .i64 0,.int .i64 0,.sl true 99 4 (Ah Ni [])]),(.box 6,[.int .i64 c,.int .i64 z16,.sl true 99 4 (Ah Ni [])])]
def mM (f:List Aq) (g:Int) (c:Int) (a:Int) (d:ByteArray) (b:Bool) (h:Int) (e:Int) (z17:Bool):St:=AG [(0,(.one (.sl false 54 8 (Ah Gb f)))),(1,(I g)),(4,(.one (.ptr (.box 4) 0 [] 0))),(6,(.one (.ptr (.box 6) 0 [] 0))),(7,(I a)),(8,(Y d)),(9,(I c)),(10,(B b)),(11,(I h)),(33,(B z17))] [(.box 4,[.int .i64 0,.int .i64 0,.sl true 99 4 (Ah Ni [])]),(.box 6,[.int .i64 g,.int .i64 e,.sl true 99 4 (Ah Ni [])])]
def mL (f:List Aq) (g:Int) (c:Int) (a:Int) (d:ByteArray) (b:Bool) (h:Int) (e:Int) (x1:Aq) (z18:Bool):St:=AG [(0,(.one (.sl false 54 8 (Ah Gb f)))),(1,(I g)),(4,(.one (.ptr (.box 4) 0 [] 0))),(6,(.one (.ptr (.box 6) 0 [] 0))),(7,(I a)),(8,(Y d)),(9,(I c)),(10,(B b)),(11,(I h)),(12,(.one (.ptr (.box 12) 0 [] 0))),(65,(B z18))] [(.box 4,[.int .i64 0,.int .i64 0,.sl true 99 4 (Ah Ni [])]),(.box 6,[.int .i64 g,.int .i64 e,.sl true 99 4 (Ah Ni [])]),(.box 12,[.int .i64 x1.Page.Kind,.int .i64 x1.Page.Seq,.int .i64 x1.Page.Tx,.int .i64 x1.Page.Part,.int .i64 x1.Page.Count,.str x1.Page.Text])]
def mK (c:List Aq) (d:Int) (a:Int) (e:Int) (b:Int) (x1:Aq) (x2:ByteArray) (z19:Bool):St:=AG [(0,(.one (.sl false 54 8 (Ah Gb c)))),(1,(I d)),(4,(.one (.ptr (.box 4) 0 [] 0))),(6,(.one (.ptr (.box 6) 0 [] 0))),(7,(I x1.Page.Count)),(8,(Y x2)),(9,(I a)),(10,(B true)),(11,(I e)),(12,(.one (.ptr (.box 12) 0 [] 0))),(80,(B z19))] [(.box 4,[.int .i64 0,.int .i64 0,.sl true 99 4 (Ah Ni [])]),(.box 6,[.int .i64 d,.int .i64 b,.sl true 99 4 (Ah Ni [])]),(.box 12,[.int .i64 x1.Page.Kind,.int .i64 x1.Page.Seq,.int .i64 x1.Page.Tx,.int .i64 x1.Page.Part,.int .i64 x1.Page.Count,.str x1.Page.Text])]
theorem rY (b:List Aq) (e:Int) (r:Tx×Bool) (h:Rj b e=some r):Be Tryz.prog 149 [.sv (.one (.sl false 54 8 (Ah Gb b))),.sv (I e)] (.tup [(.agg [.int .i64 r.1.Num,.int .i64 r.1.Seq,.sl true 99 4 (Ah Ni r.1.Recs)]),(B r.2)]) (List.replicate 2 .gone):=by
 unfold Rj at h;refine gk Tryz.func149 rfl Tryz.ntmps149 (ws (Ab 2 0 (RW.nil (ws (Ab 4 0 (RW.nil (ws (Ab 1 0 (RW.nil (ws (Ab 1 0 (RW.nil (Wp.seq ?_)))))))))))));refine ws (Ab 1 0 (RW.nil (Fk h [0,1,4,6,7,8,9] [.box 4,.box 6] (fun s=>(mR b e s.1 s.2.1 s.2.2.1 s.2.2.2)) [4,6,8] [.box 4,.box 6] (fun s=>(mQ e s.1 s.2)) A4 ?_ ?_)))
 ·rintro⟨k,l,d,m⟩ o (h:Ma b e k l d m=some o) hk1;unfold Ma at h;refine Wp.seq (Wp.seq (B3 h [0,1,4,6,7,8,9,23] [.box 4,.box 6] (fun a=>(mP b e k l d m a)) ?_ ?_))
  ·intro a h;refine Ax (Ab 3 0 (Ba 19 h (fun h=>?_) (fun h=>?_)))
   ·refine Ab 4 0 (RW.nil ?_);cases h;exact⟨_,rfl,A4⟩
   refine Ab 4 0 (RW.nil ?_);cases h;exact⟨_,rfl,A4⟩
  intro j1 h E hE;refine AE hE (wc h (fun h=>?_) (fun h=>?_))
  ·refine Wp.skip (Wp.seq (Wp.block (ws (Ab 1 0 (RW.nil (Wp.seq (ws (Ab 1 0 (RW.nil (BO h [0,1,4,6,7,8,9,10,11] [.box 4,.box 6] (fun s=>(mO b e d s.1 s.2.1 s.2.2.1 s.2.2.2.1 s.2.2.2.2)) [0,1,4,6,7,8,9,10] [.box 4,.box 6] (fun s=>(mN b e d s.1 s.2.1 s.2.2.1 s.2.2.2)) A4 ?_ ?_))))))))))
   ·rintro⟨g,j,i,n,f⟩ o (h:H0 b e d g j i n f=some o);unfold H0 at h;refine Wp.seq (Wp.seq (B3 h [0,1,4,6,7,8,9,10,11,33] [.box 4,.box 6] (fun a=>(mM b e d g j i n f a)) ?_ ?_))
    ·intro a h;refine Ax (Ab 2 0 (RW.q (D5 DY b) (Ab 2 0 (Ba 30 h (fun h=>?_) (fun h=>?_)))))
     ·refine Ab 3 0 (RW.nil ?_);cases h;exact⟨_,rfl,A4⟩
     refine Ab 3 0 (RW.nil ?_);cases h;exact⟨_,rfl,A4⟩
    intro j2 h E hE;refine AE hE (wc h (fun h=>?_) (fun h=>?_))
    ·refine Wp.skip (Wp.seq (Wp.block (ws (Ab 2 0 (bd h fun x1 gx1 h=>RW.q (Cq DY gx1) (RW.q (DD DY gx1 0 2) (RW.q (Si DY gx1 2 6) (Ab 2 0 (RW.nil (Wp.seq (Wp.seq (B3 h [0,1,4,6,7,8,9,10,11,12,65] [.box 4,.box 6,.box 12] (fun a=>(mL b e d g j i n f x1 a)) ?_ ?_))))))))))))
     ·intro a h;refine Ax (Ab 4 0 (Ba 44 h (fun h=>?_) (fun h=>?_)))
      ·refine Ab 21 0 (RW.nil ?_);cases h;exact⟨_,rfl,A4⟩
      refine Ab 6 0 (Ba 50 h (fun h=>?_) (fun h=>?_))
      ·refine Ab 15 0 (RW.nil ?_);cases h;exact⟨_,rfl,A4⟩
      refine Ab 6 0 (Ba 56 h (fun h=>?_) (fun h=>?_))
      ·refine Ab 9 0 (RW.nil ?_);cases h;exact⟨_,rfl,A4⟩
      refine Ab 3 0 (Ba 59 h (fun h=>?_) (fun h=>?_))
      ·refine Ab 6 0 (RW.nil ?_);cases h;exact⟨_,rfl,A4⟩
      refine Ab 6 0 (RW.nil ?_);cases h;exact⟨_,rfl,A4⟩
     intro j3 h E hE;refine AE hE (wc h (fun h=>?_) (fun h=>?_))
     ·refine Wp.exit (Ax (Ab 3 0 (RW.nil ?_)));cases h;exact⟨_,rfl,A4⟩
     refine Wp.skip (ws (Ab 1 0 (RW.nil (ws (Ab 3 0 (RW.nil (ws (Ab 3 0 (bd h fun x2 gx2 h=>RW.q (Qg gx2) (Ab 1 0 (RW.nil (Wp.seq ?_))))))))))));refine B3 h [0,1,4,6,7,8,9,10,11,12,80] [.box 4,.box 6,.box 12] (fun a=>(mK b e d n f x1 x2 a)) ?_ ?_
     ·intro a h;refine Ax (Ab 3 0 (Ba 74 h (fun h=>?_) (fun h=>?_)))
      ·refine Ab 6 0 (RW.nil ?_);cases h;exact⟨_,rfl,A4⟩
      refine Ab 6 0 (RW.nil ?_);cases h;exact⟨_,rfl,A4⟩
     intro j4 h E hE;refine AE hE (wc h (fun h=>?_) (fun h=>?_))
     ·refine Ax (Ab 4 0 (RW.nil (Ax (Ab 3 0 (RW.nil ?_)))));cases h;exact⟨_,rfl,A4⟩
     refine Wp.skip (Ax (Ab 3 0 (RW.nil ?_)));cases h;exact⟨_,rfl,A4⟩
    refine Wp.exit ?_;cases h;exact⟨_,rfl,A4⟩
   intro v1 h E hE;refine AE hE (ws (Ab 2 0 (RW.nil (wc h (fun h=>?_) (fun h=>?_)))))
   ·refine ws (Ab 3 0 (RW.nil ?_));cases h;replace h:some _=some _:=hk1 _ rfl;cases h;exact Wp.ret ⟨.inr rfl,BJ (by kernel_rfl)⟩
   refine Wp.skip (Ax (Ab 3 0 (RW.nil ?_)));cases h;exact⟨_,rfl,A4⟩
  refine Wp.exit ?_;cases h;exact⟨_,rfl,A4⟩
 intro v2 h E hE;refine AE hE (ws (Ab 1 0 (RW.c 0 h (bU _) (fun v3 gv3 h=>Ab 5 9 (RW.nil (ws (Ab 3 0 (RW.nil (ws (Ab 4 0 (RW.nil ?_)))))))))));cases h;exact Wp.ret ⟨.inr rfl,BJ (by kernel_rfl)⟩
def O3 (o:Bool) (x:Tx):List TV:=[.int .i64 x.Num,.int .i64 x.Seq,.sl o 99 4 (Ah Ni x.Recs)]
theorem Il (o:Bool):∀x,(O3 o x).length=3:=fun _=>rfl
theorem AAG:∀l,BG (Ah (O3 true) l)=Ah (O3 false) l:=D6 (fun x=>by simp only [O3,BG,Lj,AA3])
theorem wF:∀l,AR (Ah (O3 true) l)=false:=K4 (fun x=>by simp [O3,AR,BB,AB2])
def iS (a:List Aq) (z1:List Int) (z2:Int):St:=AG [(0,(.one (.sl false 54 8 (Ah Gb a)))),(3,(.one (.sl true 3 1 (Ah c3 z1)))),(4,(I z2))] []
def iR (a:List Aq) (z3:List Int):St:=AG [(0,(.one (.sl false 54 8 (Ah Gb a)))),(3,(.one (.sl true 3 1 (Ah c3 z3))))] []
def iQ (b:List Aq) (a:List Int) (c:Int) (x1:Aq) (z4:List Int) (z5:Int):St:=AG [(0,(.one (.sl false 54 8 (Ah Gb b)))),(3,(.one (.sl true 3 1 (Ah c3 a)))),(4,(I c)),(5,(.one (.ptr (.box 5) 0 [] 0))),(6,(.one (.sl true 3 1 (Ah c3 z4)))),(7,(I z5))] [(.box 5,[.int .i64 x1.Page.Kind,.int .i64 x1.Page.Seq,.int .i64 x1.Page.Tx,.int .i64 x1.Page.Part,.int .i64 x1.Page.Count,.str x1.Page.Text])]
def iP (b:List Aq) (a:List Int) (c:Int) (x1:Aq) (z6:List Int):St:=AG [(0,(.one (.sl false 54 8 (Ah Gb b)))),(3,(.one (.sl true 3 1 (Ah c3 a)))),(4,(I c)),(5,(.one (.ptr (.box 5) 0 [] 0))),(6,(.one (.sl true 3 1 (Ah c3 z6))))] [(.box 5,[.int .i64 x1.Page.Kind,.int .i64 x1.Page.Seq,.int .i64 x1.Page.Tx,.int .i64 x1.Page.Part,.int .i64 x1.Page.Count,.str x1.Page.Text])]
def iO (b:List Aq) (a:List Int) (c:Int) (x1:Aq) (z7:List Int) (z8:Int):St:=AG [(0,(.one (.sl false 54 8 (Ah Gb b)))),(3,(.one (.sl true 3 1 (Ah c3 a)))),(4,(I c)),(5,(.one (.ptr (.box 5) 0 [] 0))),(6,(.one (.sl true 3 1 (Ah c3 z7)))),(8,(I z8))] [(.box 5,[.int .i64 x1.Page.Kind,.int .i64 x1.Page.Seq,.int .i64 x1.Page.Tx,.int .i64 x1.Page.Part,.int .i64 x1.Page.Count,.str x1.Page.Text])]
def iN (a:List Aq) (b:Int) (z9:List Int):St:=AG [(0,(.one (.sl false 54 8 (Ah Gb a)))),(4,(I b)),(6,(.one (.sl true 3 1 (Ah c3 z9))))] []
def iM (a:List Aq) (v3:List Int) (z10:List Tx) (z11:Int):St:=AG [(0,(.one (.sl false 54 8 (Ah Gb a)))),(3,(.one (.sl true 3 1 (Ah c3 v3)))),(9,(.one (.sl true 178 3 (Ah (O3 true) z10)))),(10,(I z11))] []
def iL (z12:List Tx):St:=AG [(9,(.one (.sl true 178 3 (Ah (O3 true) z12))))] []
theorem VT (a:List Aq) (r:List Tx) (h:Nw a=some r):Be Tryz.prog 126 [.sv (.one (.sl false 54 8 (Ah Gb a)))] (.one (.sl true 178 3 (Ah (O3 true) r))) (List.replicate 1 .gone):=by
 unfold Nw at h;refine gk Tryz.func126 rfl Tryz.ntmps126 (ws (Ab 1 0 (RW.nil (ws (Ab 2 2 (RW.nil (Wp.seq (ws (Ab 1 0 (RW.nil (BO h [0,3,4] [] (fun s=>(iS a s.1 s.2)) [0,3] [] (fun s=>(iR a s)) A4 ?_ ?_)))))))))))
 ·rintro⟨b,f⟩ o (h:H7 a b f=some o);unfold H7 at h;refine Wp.seq (ws (Ab 2 0 (RW.q (D5 DY a) (Ab 1 0 (RW.nil (wc h (fun h=>?_) (fun h=>?_)))))))
  ·refine Wp.skip (Wp.seq (Wp.block (ws (Ab 2 0 (bd h fun x1 gx1 h=>RW.q (Cq DY gx1) (RW.q (DD DY gx1 0 2) (RW.q (Si DY gx1 2 6) (Ab 2 0 (RW.nil (Wp.seq (ws (Ab 3 0 ?_))))))))))));refine RW.nil (wc h (fun h=>?_) (fun h=>?_))
   ·refine Wp.exit (Ax (Ab 3 0 (RW.nil ?_)));cases h;exact⟨_,rfl,A4⟩
   refine Wp.skip (ws (Ab 2 2 (RW.nil (Wp.seq (ws (Ab 1 0 (RW.nil (BO h [0,3,4,5,6,7] [.box 5] (fun s=>(iQ a b f x1 s.1 s.2)) [0,3,4,5,6] [.box 5] (fun s=>(iP a b f x1 s)) A4 ?_ ?_))))))))
   ·rintro⟨d,i⟩ o (h:IX b x1 d i=some o);unfold IX at h;refine Wp.seq (ws (Ab 2 0 (RW.q (D5 k3 b) (Ab 1 0 (RW.nil (wc h (fun h=>?_) (fun h=>?_)))))))
    ·refine Wp.skip (Wp.seq (Wp.block (Wp.seq (M3 mixed (DZ 2 (bd h fun x2 gx2 h=>SW.q (Cq k3 gx2) (SW.q (CN k3 gx2 0) (DZ 3 (SW.nil (wc h (fun h=>?_) (fun h=>?_)))))))))))
     ·refine Ax (Ab 3 0 (bd h fun x3 gx3 h=>RW.q (Cq k3 gx3) (RW.q (CN k3 gx3 0) (Ab 1 0 (bd h fun q1 gq1 h=>Dl (EQ k3 (fun _=>rfl) d gq1) (Ab 1 1 (RW.nil (Ax (Ab 3 0 (RW.nil ?_))))))))));cases h;exact⟨_,rfl,A4⟩
     refine Wp.skip (Ax (Ab 3 0 (RW.nil ?_)));cases h;exact⟨_,rfl,A4⟩
    refine Wp.exit ?_;cases h;exact⟨_,rfl,A4⟩
   intro v1 h E hE;refine AE hE (ws (Ab 4 0 (bd h fun q2 gq2 h=>Dl (EQ k3 (fun _=>rfl) v1 gq2) (Ab 1 1 (RW.nil (Wp.seq (ws (Ab 1 0 (RW.nil (BO h [0,3,4,5,6,8] [.box 5] (fun s=>(iO a b f x1 s.1 s.2)) [0,4,6] [] (fun s=>(iN a f s)) A4 ?_ ?_))))))))))
   ·rintro⟨e,j⟩ o (h:IW b x1 e j=some o);unfold IW at h;refine Wp.seq (ws (Ab 2 0 (RW.q (D5 k3 b) (Ab 1 0 (RW.nil (wc h (fun h=>?_) (fun h=>?_)))))))
    ·refine Wp.skip (Wp.seq (Wp.block (Wp.seq (M3 mixed (DZ 2 (bd h fun x4 gx4 h=>SW.q (Cq k3 gx4) (SW.q (CN k3 gx4 0) (DZ 3 (SW.nil (wc h (fun h=>?_) (fun h=>?_)))))))))))
     ·refine Ax (Ab 3 0 (bd h fun x5 gx5 h=>RW.q (Cq k3 gx5) (RW.q (CN k3 gx5 0) (Ab 1 0 (bd h fun q3 gq3 h=>Dl (EQ k3 (fun _=>rfl) e gq3) (Ab 1 1 (RW.nil (Ax (Ab 3 0 (RW.nil ?_))))))))));cases h;exact⟨_,rfl,A4⟩
     refine Wp.skip (Ax (Ab 3 0 (RW.nil ?_)));cases h;exact⟨_,rfl,A4⟩
    refine Wp.exit ?_;cases h;exact⟨_,rfl,A4⟩
   intro v2 h E hE;refine AE hE (Ax (Ab 2 2 (RW.nil (Ax (Ab 3 0 (RW.nil ?_))))));cases h;exact⟨_,rfl,A4⟩
  refine Wp.exit ?_;cases h;exact⟨_,rfl,A4⟩
 intro v3 h E hE;refine AE hE (ws (Ab 2 2 (RW.nil (Wp.seq (ws (Ab 1 0 (RW.nil (BO h [0,3,9,10] [] (fun s=>(iM a v3 s.1 s.2)) [9] [] (fun s=>(iL s)) A4 ?_ ?_))))))))
 ·rintro⟨g,k⟩ o (h:H6 a v3 g k=some o);unfold H6 at h;refine Wp.seq (ws (Ab 2 0 (RW.q (D5 k3 v3) (Ab 1 0 (RW.nil (wc h (fun h=>?_) (fun h=>?_)))))))
  ·refine Wp.skip (Wp.seq (Wp.block (ws (Ab 3 0 (bd h fun x6 gx6 h=>RW.q (Cq k3 gx6) (RW.q (CN k3 gx6 0) (RW.c 0 h (rY _ _) (fun v4 gv4 h=>Ab 6 1 (RW.nil (ws (Ab 1 0 (RW.nil ?_))))))))))));refine wc h (fun h=>?_) (fun h=>?_)
   ·refine Ax (Ab 3 0 (bd h fun q4 gq4 h=>Dl (oV (Il true) g [v4.1] gq4) (Ab 1 1 (RW.nil (Ax (Ab 3 0 (RW.nil ?_)))))));cases h;exact⟨_,rfl,A4⟩
   refine Wp.skip (Ax (Ab 3 0 (RW.nil ?_)));cases h;exact⟨_,rfl,A4⟩
  refine Wp.exit ?_;cases h;exact⟨_,rfl,A4⟩
 intro v5 h E hE;refine AE hE (ws (Ab 2 2 (RW.nil ?_)));cases h;exact Wp.ret ⟨.inr rfl,BJ (by kernel_rfl)⟩
def V8 (a:List Tx) (z1:Int) (z2:Int):St:=AG [(0,(.one (.sl false 178 3 (Ah (O3 false) a)))),(3,(I z1)),(4,(I z2))] []
def V7 (a:List Tx) (z3:Int):St:=AG [(0,(.one (.sl false 178 3 (Ah (O3 false) a)))),(3,(I z3))] []
def V6 (a:List Tx) (z4:List Tx) (z5:Int):St:=AG [(0,(.one (.sl false 178 3 (Ah (O3 false) a)))),(5,(.one (.sl true 178 3 (Ah (O3 true) z4)))),(6,(I z5))] []
def V5 (z6:List Tx):St:=AG [(5,(.one (.sl true 178 3 (Ah (O3 true) z6))))] []
theorem XH (a:List Tx) (r:List Tx) (h:KF a=some r):Be Tryz.prog 125 [.sv (.one (.sl false 178 3 (Ah (O3 false) a)))] (.one (.sl true 178 3 (Ah (O3 true) r))) (List.replicate 1 .gone):=by
 unfold KF at h;refine gk Tryz.func125 rfl Tryz.ntmps125 (ws (Ab 1 0 (RW.nil (ws (Ab 1 0 (RW.nil (Wp.seq (ws (Ab 1 0 (RW.nil (BO h [0,3,4] [] (fun s=>(V8 a s.1 s.2)) [0,3] [] (fun s=>(V7 a s)) A4 ?_ ?_)))))))))))
 ·rintro⟨c,d⟩ o (h:EV a c d=some o);unfold EV at h;refine Wp.seq (ws (Ab 2 0 (RW.q (D5 (Il false) a) (Ab 1 0 (RW.nil (wc h (fun h=>?_) (fun h=>?_)))))))
  ·refine Wp.skip (Wp.seq (Wp.block (ws (Ab 2 0 (bd h fun x1 gx1 h=>RW.q (Cq (Il false) gx1) (RW.q (DD (Il false) gx1 0 2) (RW.q (CN (Il false) gx1 2) (RW.q (D5 Ww x1.Recs) (Ab 2 0 (Ba 21 h (fun h=>?_) (fun h=>?_)))))))))))
   ·refine Ab 2 0 (bd h fun x2 gx2 h=>RW.q (Cq (Il false) gx2) (RW.q (DD (Il false) gx2 0 2) (RW.q (CN (Il false) gx2 2) (bd h fun x3 gx3 h=>RW.q (Cq Ww gx3) (RW.q (DD Ww gx3 0 0) (RW.q (CN Ww gx3 0) (Ab 2 0 (RW.nil (wc h (fun h=>?_) (fun h=>?_))))))))))
    ·refine Ax (Ab 2 0 (RW.nil (Ax (Ab 3 0 (RW.nil ?_)))));cases h;exact⟨_,rfl,A4⟩
    refine Wp.skip (Ax (Ab 3 0 (RW.nil ?_)));cases h;exact⟨_,rfl,A4⟩
   refine Ab 10 0 (RW.nil (wf (Wp.skip (Ax (Ab 3 0 (RW.nil ?_))))));cases h;exact⟨_,rfl,A4⟩
  refine Wp.exit ?_;cases h;exact⟨_,rfl,A4⟩
 intro v1 h E hE;refine AE hE (ws (Ab 2 2 (RW.nil (Wp.seq (ws (Ab 2 0 (RW.nil (BO h [0,5,6] [] (fun s=>(V6 a s.1 s.2)) [5] [] (fun s=>(V5 s)) A4 ?_ ?_))))))))
 ·rintro⟨b,e⟩ o (h:Gp a b e=some o);unfold Gp at h;refine Wp.seq (ws (Ab 2 0 (RW.q (D5 (Il false) a) (Ab 1 0 (RW.nil (wc h (fun h=>?_) (fun h=>?_)))))))
  ·refine Wp.skip (Wp.seq (Wp.block (ws (Ab 2 0 (bd h fun x4 gx4 h=>RW.q (Cq (Il false) gx4) (RW.q (Si (Il false) gx4 0 3) (Ab 2 0 (RW.nil (ws (Ab 3 0 (bd h fun q1 gq1 h=>Dl (EQ Ww (fun _=>rfl) [] gq1) ?_)))))))))));refine Ab 2 0 (RW.nil (Ax (Ab 3 0 (bd h fun q2 gq2 h=>Dl (oV (Il true) b [(Tx.mk x4.Num x4.Seq q1)] gq2) (Ab 1 1 (RW.nil (Ax (Ab 3 0 (RW.nil ?_)))))))));cases h;exact⟨_,rfl,A4⟩
  refine Wp.exit ?_;cases h;exact⟨_,rfl,A4⟩
 intro v2 h E hE;refine AE hE (ws (Ab 2 2 (RW.nil ?_)));cases h;exact Wp.ret ⟨.inr rfl,BJ (by kernel_rfl)⟩
def aH (xA:Arena) (z1:Int) (z2:List BX):St:=AG [(1,(.one (.ptr (.box 1) 0 [] 0))),(2,(.one (.ptr (.box 2) 0 [] 0))),(3,(.one (.ptr (.box 3) 0 [] 0))),(4,(I z1))] [(.box 1,[.sl false 150 2 (Ah (AN false) xA.Knots)]),(.box 2,[.sl true 150 2 (Ah (AN true) [])]),(.box 3,[.sl true 150 2 (Ah (AN true) z2)])]
def aG (z3:List BX):St:=AG [(2,(.one (.ptr (.box 2) 0 [] 0))),(3,(.one (.ptr (.box 3) 0 [] 0)))] [(.box 2,[.sl true 150 2 (Ah (AN true) [])]),(.box 3,[.sl true 150 2 (Ah (AN true) z3)])]
theorem Pa (xA:Arena) (r:Arena) (h:JV xA=some r):Be Tryz.prog 87 [.sv (.agg [.sl false 150 2 (Ah (AN false) xA.Knots)])] (.agg [.sl true 150 2 (Ah (AN true) r.Knots)]) (List.replicate 1 .gone):=by
 unfold JV at h;refine gk Tryz.func87 rfl Tryz.ntmps87 (ws (Ab 2 0 (RW.nil (ws (Ab 3 0 (RW.nil (Wp.seq (ws (Ab 1 0 (RW.nil (BO h [1,2,3,4] [.box 1,.box 2,.box 3] (fun s=>(aH xA s.1 s.2)) [2,3] [.box 2,.box 3] (fun s=>(aG s)) A4 ?_ ?_)))))))))))
 ·rintro⟨b,a⟩ o (h:HM xA b a=some o);unfold HM at h;refine Wp.seq (ws (Ab 3 0 (RW.q (D5 (CM false) xA.Knots) (Ab 1 0 (RW.nil (wc h (fun h=>?_) (fun h=>?_)))))))
  ·refine Wp.skip (Wp.seq (Wp.block (EL [18,20] mixed (fun c E h=>by rcases h with⟨h|h,_⟩<;>cases h) (AD [0,1,2,3,4] 0 (bd h fun x1 gx1 h=>KW.q 5 (Cq (CM false) gx1) (KW.q 6 (DD (CM false) gx1 0 0) (KW.q 7 (CN (CM false) gx1 0) (AD [9,10,11] 0 (bd h fun x2 gx2 h=>KW.q 12 (Cq (CM false) gx2) (KW.q 13 (DD (CM false) gx2 0 1) (KW.q 14 (CN (CM false) gx2 1) ?_)))))))))));refine BT 8 (pI (BT 15 (bd h fun q1 gq1 h=>fI (EQ k3 (fun _=>rfl) [] gq1) (AD [16,17] 0 (BT 18 (bd h fun q2 gq2 h=>YH (oV (CM true) a [(BX.mk x1.Leaf q1)] gq2) (AD [19,20] 0 (Ap (Ax (Ab 3 0 (RW.nil ?_)))))))))));cases h;exact⟨_,rfl,A4⟩
  refine Wp.exit ?_;cases h;exact⟨_,rfl,A4⟩
 intro v1 h E hE;refine AE hE (ws (Ab 2 0 (RW.nil ?_)));cases h;exact Wp.ret ⟨.inr rfl,BJ (by kernel_rfl)⟩
theorem F8 (xS:Store) (r:Store) (h:Ea xS=some r):Be Tryz.prog 57 [.sv (.agg [.sl false 39 2 (Ah CD xS.Vols),.sl false 150 2 (Ah (AN false) xS.Arena.Knots),.int .i64 xS.Next])] (.agg [.sl true 39 2 (Ah CD r.Vols),.sl true 150 2 (Ah (AN true) r.Arena.Knots),.int .i64 r.Next]) (List.replicate 1 .gone):=by
 unfold Ea at h;refine gk Tryz.func57 rfl Tryz.ntmps57 (ws (Ab 2 0 (RW.nil (Wp.seq (EL [10] mixed (fun c E h=>by rcases h with⟨h|h,_⟩<;>cases h) (AD [1,2,4,5,7,8] 0 (BT 0 (pI (BT 3 (bd h fun q1 gq1 h=>fI (EQ Em (fun _=>rfl) [] gq1) (BT 6 (KB.c 0 h (Pa _) (fun v1 gv1 h=>AD [9,10] 0 ?_)))))))))))));refine Ap ?_;cases h;exact Wp.ret ⟨.inr rfl,BJ (by kernel_rfl)⟩
def dF (xA:Arena) (z1:Int):St:=AG [(1,(.one (.ptr (.box 1) 0 [] 0))),(3,(I z1))] [(.box 1,[.sl false 150 2 (Ah (AN false) xA.Knots)])]
def dE:St:=AG [] []
def dD (xA:Arena) (a:Int) (x1:BX) (z2:Int):St:=AG [(1,(.one (.ptr (.box 1) 0 [] 0))),(3,(I a)),(4,(.one (.ptr (.box 4) 0 [] 0))),(5,(I z2))] [(.box 1,[.sl false 150 2 (Ah (AN false) xA.Knots)]),(.box 4,[.bool x1.Leaf,.sl false 3 1 (Ah c3 x1.Kids)])]
def dC (xA:Arena) (a:Int):St:=AG [(1,(.one (.ptr (.box 1) 0 [] 0))),(3,(I a))] [(.box 1,[.sl false 150 2 (Ah (AN false) xA.Knots)])]
def dB (xA:Arena) (a:Int) (x1:BX) (b:Int) (z3:Bool):St:=AG [(1,(.one (.ptr (.box 1) 0 [] 0))),(3,(I a)),(4,(.one (.ptr (.box 4) 0 [] 0))),(5,(I b)),(62,(B z3))] [(.box 1,[.sl false 150 2 (Ah (AN false) xA.Knots)]),(.box 4,[.bool x1.Leaf,.sl false 3 1 (Ah c3 x1.Kids)])]
theorem MJ (xA:Arena) (r:Bool) (h:F5 xA=some r):Be Tryz.prog 62 [.sv (.agg [.sl false 150 2 (Ah (AN false) xA.Knots)])] (B r) (List.replicate 1 .gone):=by
 unfold F5 at h;refine gk Tryz.func62 rfl Tryz.ntmps62 (ws (Ab 2 0 (RW.nil (Wp.seq (ws (Ab 1 0 (RW.nil (Fk h [1,3] [.box 1] (fun s=>(dF xA s)) [] [] (fun _=>dE) A4 ?_ ?_))))))))
 ·rintro b o (h:D0 xA b=some o) hk1;unfold D0 at h;refine Wp.seq (ws (Ab 3 0 (RW.q (D5 (CM false) xA.Knots) (Ab 1 0 (RW.nil (wc h (fun h=>?_) (fun h=>?_)))))))
  ·refine Wp.skip (Wp.seq (Wp.block (ws (Ab 3 0 (bd h fun x1 gx1 h=>RW.q (Cq (CM false) gx1) (RW.q (Si (CM false) gx1 0 2) (Ab 2 0 (RW.nil (Wp.seq (ws (Ab 2 0 (RW.q (D5 k3 x1.Kids) ?_))))))))))));refine Ab 1 0 (RW.nil (wc h (fun h=>?_) (fun h=>?_)))
   ·refine ws (Ab 1 0 (RW.nil ?_));cases h;replace h:some _=some _:=hk1 _ rfl;cases h;exact Wp.ret ⟨.inr rfl,BJ (by kernel_rfl)⟩
   refine Wp.skip (ws (Ab 1 0 (RW.nil (Fk h [1,3,4,5] [.box 1,.box 4] (fun s=>(dD xA b x1 s)) [1,3] [.box 1] (fun _=>(dC xA b)) A4 ?_ ?_))))
   ·rintro d o (h:Dz xA b x1 d=some o) hk2;unfold Dz at h;refine Wp.seq (ws (Ab 2 0 (RW.nil (wc h (fun h=>?_) (fun h=>?_)))))
    ·refine Wp.skip (Wp.seq (Wp.block (ws (Ab 3 0 (bd h fun x2 gx2 h=>RW.q (Cq k3 gx2) (RW.q (CN k3 gx2 0) (Ab 1 0 (RW.nil (Wp.seq (B3 h [1,3,4,5,62] [.box 1,.box 4] (fun a=>(dB xA b x1 d a)) ?_ ?_))))))))))
     ·intro a h;refine Ax (Ab 3 0 (Ba 34 h (fun h=>?_) (fun h=>?_)))
      ·refine Ab 4 0 (Ba 38 h (fun h=>?_) (fun h=>?_))
       ·refine Ab 24 0 (RW.nil ?_);cases h;exact⟨_,rfl,A4⟩
       refine Ab 4 0 (Ba 42 h (fun h=>?_) (fun h=>?_))
       ·refine Ab 4 0 (Ba 46 h (fun h=>?_) (fun h=>?_))
        ·refine Ab 3 0 (RW.c 0 h (BN _ _ _) (fun v1 gv1 h=>Ab 2 0 (Ba 52 h (fun h=>?_) (fun h=>?_))))
         ·refine Ab 10 0 (RW.nil ?_);cases h;exact⟨_,rfl,A4⟩
         refine Ab 3 0 (bd h fun x3 gx3 h=>RW.q (Cq (CM false) gx3) (RW.q (DD (CM false) gx3 0 0) (RW.q (CN (CM false) gx3 0) (Ab 4 0 (RW.nil ?_)))));cases h;exact⟨_,rfl,A4⟩
        refine Ab 16 0 (RW.nil ?_);cases h;exact⟨_,rfl,A4⟩
       refine Ab 20 0 (RW.nil ?_);cases h;exact⟨_,rfl,A4⟩
      refine Ab 8 0 (Ba 42 h (fun h=>?_) (fun h=>?_))
      ·refine Ab 4 0 (Ba 46 h (fun h=>?_) (fun h=>?_))
       ·refine Ab 3 0 (RW.c 0 h (BN _ _ _) (fun v2 gv2 h=>Ab 2 0 (Ba 52 h (fun h=>?_) (fun h=>?_))))
        ·refine Ab 10 0 (RW.nil ?_);cases h;exact⟨_,rfl,A4⟩
        refine Ab 3 0 (bd h fun x4 gx4 h=>RW.q (Cq (CM false) gx4) (RW.q (DD (CM false) gx4 0 0) (RW.q (CN (CM false) gx4 0) (Ab 4 0 (RW.nil ?_)))));cases h;exact⟨_,rfl,A4⟩
       refine Ab 16 0 (RW.nil ?_);cases h;exact⟨_,rfl,A4⟩
      refine Ab 20 0 (RW.nil ?_);cases h;exact⟨_,rfl,A4⟩
     intro j1 h E hE;refine AE hE (wc h (fun h=>?_) (fun h=>?_))
     ·refine ws (Ab 1 0 (RW.nil ?_));cases h;replace h:some _=some _:=hk2 _ rfl;cases h;replace h:some _=some _:=hk1 _ rfl;cases h;exact Wp.ret ⟨.inr rfl,BJ (by kernel_rfl)⟩
     refine Wp.skip (Ax (Ab 3 0 (RW.nil ?_)));cases h;exact⟨_,rfl,A4⟩
    refine Wp.exit ?_;cases h;exact⟨_,rfl,A4⟩
   intro v3 h E hE;refine AE hE (Ax (Ab 3 0 (RW.nil ?_)));cases h;exact⟨_,rfl,A4⟩
  refine Wp.exit ?_;cases h;exact⟨_,rfl,A4⟩
 intro v4 h E hE;refine AE hE (ws (Ab 1 0 (RW.nil ?_)));cases h;exact Wp.ret ⟨.inr rfl,BJ (by kernel_rfl)⟩
theorem KD (xA:Arena) (a:Int) (r:Bool) (h:Gm xA a=some r):Be Tryz.prog 63 [.sv (.agg [.sl false 150 2 (Ah (AN false) xA.Knots)]),.sv (I a)] (B r) (List.replicate 2 .gone):=by
 unfold Gm at h;refine gk Tryz.func63 rfl Tryz.ntmps63 (ws (Ab 2 0 (RW.nil (ws (Ab 3 0 (Ba 7 h (fun h=>?_) (fun h=>?_)))))))
 ·refine Ab 17 0 (RW.nil ?_);cases h;exact Wp.ret ⟨.inr rfl,BJ (by kernel_rfl)⟩
 refine Ab 3 0 (RW.q (D5 (CM false) xA.Knots) (Ab 1 0 (RW.c 0 h (BN _ _ _) (fun v1 gv1 h=>Ab 1 0 (Ba 14 h (fun h=>?_) (fun h=>?_))))))
 ·refine Ab 3 0 (bd h fun x1 gx1 h=>RW.q (Cq (CM false) gx1) (RW.q (DD (CM false) gx1 0 0) (RW.q (CN (CM false) gx1 0) (Ab 4 0 (RW.nil ?_)))));cases h;exact Wp.ret ⟨.inr rfl,BJ (by kernel_rfl)⟩
 refine Ab 10 0 (RW.nil ?_);cases h;exact Wp.ret ⟨.inr rfl,BJ (by kernel_rfl)⟩
theorem Vv (xA:Arena) (b:Int) (a:Int) (r:Int) (h:KE xA b a=some r):Be Tryz.prog 64 [.sv (.agg [.sl false 150 2 (Ah (AN false) xA.Knots)]),.sv (I b),.sv (I a)] (I r) (List.replicate 3 .gone):=by
 unfold KE at h;refine gk Tryz.func64 rfl Tryz.ntmps64 (ws (Ab 2 0 (RW.nil (Wp.seq (ws (Ab 2 0 (RW.nil (wc h (fun h=>?_) (fun h=>?_)))))))))
 ·refine ws (Ab 1 0 (RW.nil ?_));cases h;exact Wp.ret ⟨.inr rfl,BJ (by kernel_rfl)⟩
 refine Wp.skip (ws (Ab 3 0 (bd h fun x1 gx1 h=>RW.q (Cq (CM false) gx1) (RW.q (DD (CM false) gx1 0 1) (RW.q (CN (CM false) gx1 1) (Ab 2 0 (bd h fun x2 gx2 h=>RW.q (Cq k3 gx2) (RW.q (CN k3 gx2 0) (Ab 1 0 (RW.nil (Wp.seq ?_)))))))))));refine ws (Ab 2 0 (RW.nil (wc h (fun h=>?_) (fun h=>?_))))
 ·refine ws (Ab 1 0 (RW.nil ?_));cases h;exact Wp.ret ⟨.inr rfl,BJ (by kernel_rfl)⟩
 refine Wp.skip (ws (Ab 3 0 (bd h fun x3 gx3 h=>RW.q (Cq (CM false) gx3) (RW.q (DD (CM false) gx3 0 1) (RW.q (CN (CM false) gx3 1) (Ab 2 0 (bd h fun x4 gx4 h=>RW.q (Cq k3 gx4) (RW.q (CN k3 gx4 0) (Ab 1 0 (RW.nil ?_))))))))));cases h;exact Wp.ret ⟨.inr rfl,BJ (by kernel_rfl)⟩
def Xx (xS:Store) (z1:List Int) (z2:Int):St:=AG [(1,(.one (.ptr (.box 1) 0 [] 0))),(3,(.one (.sl true 3 1 (Ah c3 z1)))),(4,(I z2))] [(.box 1,[.sl false 39 2 (Ah CD xS.Vols),.sl false 150 2 (Ah (AN false) xS.Arena.Knots),.int .i64 xS.Next])]
def Xw (z3:List Int):St:=AG [(3,(.one (.sl true 3 1 (Ah c3 z3))))] []
theorem Lv (xS:Store) (r:List Int) (h:JT xS=some r):Be Tryz.prog 121 [.sv (.agg [.sl false 39 2 (Ah CD xS.Vols),.sl false 150 2 (Ah (AN false) xS.Arena.Knots),.int .i64 xS.Next])] (.one (.sl true 3 1 (Ah c3 r))) (List.replicate 1 .gone):=by
 unfold JT at h;refine gk Tryz.func121 rfl Tryz.ntmps121 (ws (Ab 2 0 (RW.nil (ws (Ab 2 2 (RW.nil (Wp.seq (ws (Ab 1 0 (RW.nil (BO h [1,3,4] [.box 1] (fun s=>(Xx xS s.1 s.2)) [3] [] (fun s=>(Xw s)) A4 ?_ ?_)))))))))))
 ·rintro⟨a,b⟩ o (h:FP xS a b=some o);unfold FP at h;refine Wp.seq (ws (Ab 3 0 (RW.q (D5 Em xS.Vols) (Ab 1 0 (RW.nil (wc h (fun h=>?_) (fun h=>?_)))))))
  ·refine Wp.skip (Wp.seq (Wp.block (Ax (Ab 4 0 (bd h fun x1 gx1 h=>RW.q (Cq Em gx1) (RW.q (DD Em gx1 0 1) (RW.q (CN Em gx1 1) (Ab 1 0 (bd h fun q1 gq1 h=>Dl (EQ k3 (fun _=>rfl) a gq1) (Ab 1 1 (RW.nil ?_)))))))))));refine Ax (Ab 3 0 (RW.nil ?_));cases h;exact⟨_,rfl,A4⟩
  refine Wp.exit ?_;cases h;exact⟨_,rfl,A4⟩
 intro v1 h E hE;refine AE hE (ws (Ab 2 2 (RW.nil ?_)));cases h;exact Wp.ret ⟨.inr rfl,BJ (by kernel_rfl)⟩
def c4 (x:Bool):List TV:=[.bool x]
theorem k4:∀x,(c4 x).length=1:=fun _=>rfl
theorem sh4:∀l,BG (Ah c4 l)=Ah c4 l:=D6 (fun _=>rfl)
theorem ns4:∀l,AR (Ah c4 l)=false:=K4 (fun _=>rfl)
def gL (xA:Arena) (a:Int) (z1:List Bool) (z2:Int):St:=AG [(1,(I a)),(2,(.one (.ptr (.box 2) 0 [] 0))),(5,(.one (.sl true 4 1 (Ah c4 z1)))),(6,(I z2))] [(.box 2,[.sl false 150 2 (Ah (AN false) xA.Knots)])]
def gK (z3:List Bool):St:=AG [(5,(.one (.sl true 4 1 (Ah c4 z3))))] []
theorem mJ (xA:Arena) (a:Int) (r:List Bool) (h:OZ xA a=some r):Be Tryz.prog 147 [.sv (.agg [.sl false 150 2 (Ah (AN false) xA.Knots)]),.sv (I a)] (.one (.sl true 4 1 (Ah c4 r))) (List.replicate 2 .gone):=by
 unfold OZ at h;refine gk Tryz.func147 rfl Tryz.ntmps147 (ws (Ab 2 0 (RW.nil (ws (Ab 2 0 (RW.q (D5 (CM false) xA.Knots) (bd h fun q1 gq1 h=>Dl (fmk k4 false gq1) (Ab 1 1 (RW.nil (Wp.seq (ws (Ab 2 0 ?_))))))))))));refine RW.nil (wc h (fun h=>?_) (fun h=>?_))
 ·refine ws (Ab 2 2 (RW.nil ?_));cases h;exact Wp.ret ⟨.inr rfl,BJ (by kernel_rfl)⟩
 refine Wp.skip (ws (Ab 2 0 (bd h fun x1 gx1 h=>RW.q (Cq k4 gx1) (Dl (Ow k4 gx1 0 0 true) (RW.nil (Wp.seq (ws (Ab 1 0 (RW.nil (BO h [1,2,5,6] [.box 2] (fun s=>(gL xA a s.1 s.2)) [5] [] (fun s=>(gK s)) A4 ?_ ?_))))))))))
 ·rintro⟨b,c⟩ o (h:Hz xA a b c=some o);unfold Hz at h;refine Wp.seq (ws (Ab 2 0 (RW.nil (wc h (fun h=>?_) (fun h=>?_)))))
  ·refine Wp.skip (Wp.seq (Wp.block (ws (Ab 3 0 (bd h fun x2 gx2 h=>RW.q (Cq (CM false) gx2) (RW.q (DD (CM false) gx2 0 1) (RW.q (CN (CM false) gx2 1) (Ab 1 0 (bd h fun x3 gx3 h=>RW.q (Cq k3 gx3) (RW.q (CN k3 gx3 0) (Ab 1 0 ?_)))))))))));refine RW.nil (wc h (fun h=>?_) (fun h=>?_))
   ·refine Ax (Ab 4 0 (bd h fun x4 gx4 h=>RW.q (Cq (CM false) gx4) (RW.q (DD (CM false) gx4 0 1) (RW.q (CN (CM false) gx4 1) (Ab 1 0 (bd h fun x5 gx5 h=>RW.q (Cq k3 gx5) (RW.q (CN k3 gx5 0) (bd h fun x6 gx6 h=>RW.q (Cq k4 gx6) (Dl (Ow k4 gx6 0 0 true) (RW.nil ?_))))))))));refine Ax (Ab 3 0 (RW.nil ?_));cases h;exact⟨_,rfl,A4⟩
   refine Wp.skip (Ax (Ab 3 0 (RW.nil ?_)));cases h;exact⟨_,rfl,A4⟩
  refine Wp.exit ?_;cases h;exact⟨_,rfl,A4⟩
 intro v1 h E hE;refine AE hE (ws (Ab 2 2 (RW.nil ?_)));cases h;exact Wp.ret ⟨.inr rfl,BJ (by kernel_rfl)⟩
def TY (xA:Arena) (a:List Int) (q1:List Int) (z1:Bool) (z2:Int):St:=AG [(1,(.one (.sl false 3 1 (Ah c3 a)))),(2,(.one (.ptr (.box 2) 0 [] 0))),(4,(.one (.ptr (.box 4) 0 [] 0))),(6,(.one (.sl true 3 1 (Ah c3 q1)))),(7,(B z1)),(8,(I z2))] [(.box 2,[.sl false 150 2 (Ah (AN false) xA.Knots)]),(.box 4,[.sl true 150 2 (Ah (AN true) [])])]
def TX (xA:Arena) (a:List Int) (q1:List Int) (z3:Bool):St:=AG [(1,(.one (.sl false 3 1 (Ah c3 a)))),(2,(.one (.ptr (.box 2) 0 [] 0))),(4,(.one (.ptr (.box 4) 0 [] 0))),(6,(.one (.sl true 3 1 (Ah c3 q1)))),(7,(B z3))] [(.box 2,[.sl false 150 2 (Ah (AN false) xA.Knots)]),(.box 4,[.sl true 150 2 (Ah (AN true) [])])]
def TW (xA:Arena) (a:List Int) (q1:List Int) (b:Bool) (c:Int) (z4:Bool):St:=AG [(1,(.one (.sl false 3 1 (Ah c3 a)))),(2,(.one (.ptr (.box 2) 0 [] 0))),(4,(.one (.ptr (.box 4) 0 [] 0))),(6,(.one (.sl true 3 1 (Ah c3 q1)))),(7,(B b)),(8,(I c)),(30,(B z4))] [(.box 2,[.sl false 150 2 (Ah (AN false) xA.Knots)]),(.box 4,[.sl true 150 2 (Ah (AN true) [])])]
def TU (xA:Arena) (a:List Int) (q1:List Int) (z5:List Bool) (z6:Int):St:=AG [(1,(.one (.sl false 3 1 (Ah c3 a)))),(2,(.one (.ptr (.box 2) 0 [] 0))),(4,(.one (.ptr (.box 4) 0 [] 0))),(6,(.one (.sl true 3 1 (Ah c3 q1)))),(9,(.one (.sl true 4 1 (Ah c4 z5)))),(10,(I z6))] [(.box 2,[.sl false 150 2 (Ah (AN false) xA.Knots)]),(.box 4,[.sl true 150 2 (Ah (AN true) [])])]
def TT (xA:Arena) (q1:List Int) (z7:List Bool):St:=AG [(2,(.one (.ptr (.box 2) 0 [] 0))),(4,(.one (.ptr (.box 4) 0 [] 0))),(6,(.one (.sl true 3 1 (Ah c3 q1)))),(9,(.one (.sl true 4 1 (Ah c4 z7))))] [(.box 2,[.sl false 150 2 (Ah (AN false) xA.Knots)]),(.box 4,[.sl true 150 2 (Ah (AN true) [])])]
def TS (xA:Arena) (a:List Int) (q1:List Int) (b:Int) (v5:List Bool) (z8:List Bool) (z9:Int):St:=AG [(1,(.one (.sl false 3 1 (Ah c3 a)))),(2,(.one (.ptr (.box 2) 0 [] 0))),(4,(.one (.ptr (.box 4) 0 [] 0))),(6,(.one (.sl true 3 1 (Ah c3 q1)))),(9,(.one (.sl true 4 1 (Ah c4 z8)))),(10,(I b)),(11,(.one (.sl true 4 1 (Ah c4 v5)))),(12,(I z9))] [(.box 2,[.sl false 150 2 (Ah (AN false) xA.Knots)]),(.box 4,[.sl true 150 2 (Ah (AN true) [])])]
def TR (xA:Arena) (a:List Int) (q1:List Int) (b:Int) (z10:List Bool):St:=AG [(1,(.one (.sl false 3 1 (Ah c3 a)))),(2,(.one (.ptr (.box 2) 0 [] 0))),(4,(.one (.ptr (.box 4) 0 [] 0))),(6,(.one (.sl true 3 1 (Ah c3 q1)))),(9,(.one (.sl true 4 1 (Ah c4 z10)))),(10,(I b))] [(.box 2,[.sl false 150 2 (Ah (AN false) xA.Knots)]),(.box 4,[.sl true 150 2 (Ah (AN true) [])])]
def TQ (xA:Arena) (q1:List Int) (v7:List Bool) (z11:List Int) (z12:Int) (z13:List BX):St:=AG [(2,(.one (.ptr (.box 2) 0 [] 0))),(4,(.one (.ptr (.box 4) 0 [] 0))),(6,(.one (.sl true 3 1 (Ah c3 q1)))),(9,(.one (.sl true 4 1 (Ah c4 v7)))),(13,(.one (.sl true 3 1 (Ah c3 z11)))),(14,(.one (.ptr (.box 14) 0 [] 0))),(15,(I z12))] [(.box 2,[.sl false 150 2 (Ah (AN false) xA.Knots)]),(.box 4,[.sl true 150 2 (Ah (AN true) [])]),(.box 14,[.sl true 150 2 (Ah (AN true) z13)])]
def TP (q1:List Int) (z14:List Int) (z15:List BX):St:=AG [(4,(.one (.ptr (.box 4) 0 [] 0))),(6,(.one (.sl true 3 1 (Ah c3 q1)))),(13,(.one (.sl true 3 1 (Ah c3 z14)))),(14,(.one (.ptr (.box 14) 0 [] 0)))] [(.box 4,[.sl true 150 2 (Ah (AN true) [])]),(.box 14,[.sl true 150 2 (Ah (AN true) z15)])]
def Sz (xA:Arena) (q1:List Int) (v7:List Bool) (a:List Int) (c:Int) (b:List BX) (z16:Bool) (z17:List Int):St:=AG [(2,(.one (.ptr (.box 2) 0 [] 0))),(4,(.one (.ptr (.box 4) 0 [] 0))),(6,(.one (.sl true 3 1 (Ah c3 q1)))),(9,(.one (.sl true 4 1 (Ah c4 v7)))),(13,(.one (.sl true 3 1 (Ah c3 a)))),(14,(.one (.ptr (.box 14) 0 [] 0))),(15,(I c)),(16,(.one (.ptr (.box 16) 0 [] 0)))] [(.box 2,[.sl false 150 2 (Ah (AN false) xA.Knots)]),(.box 4,[.sl true 150 2 (Ah (AN true) [])]),(.box 14,[.sl true 150 2 (Ah (AN true) b)]),(.box 16,[.bool z16,.sl true 3 1 (Ah c3 z17)])]
def Sy (xA:Arena) (q1:List Int) (v7:List Bool) (a:List Int) (c:Int) (b:List BX) (j2:Bool×List Int) (z18:Int) (z19:List Int):St:=AG [(2,(.one (.ptr (.box 2) 0 [] 0))),(4,(.one (.ptr (.box 4) 0 [] 0))),(6,(.one (.sl true 3 1 (Ah c3 q1)))),(9,(.one (.sl true 4 1 (Ah c4 v7)))),(13,(.one (.sl true 3 1 (Ah c3 a)))),(14,(.one (.ptr (.box 14) 0 [] 0))),(15,(I c)),(16,(.one (.ptr (.box 16) 0 [] 0))),(17,(I z18))] [(.box 2,[.sl false 150 2 (Ah (AN false) xA.Knots)]),(.box 4,[.sl true 150 2 (Ah (AN true) [])]),(.box 14,[.sl true 150 2 (Ah (AN true) b)]),(.box 16,[.bool j2.1,.sl true 3 1 (Ah c3 z19)])]
def Sx (xA:Arena) (q1:List Int) (v7:List Bool) (a:List Int) (c:Int) (b:List BX) (j2:Bool×List Int) (z20:List Int):St:=AG [(2,(.one (.ptr (.box 2) 0 [] 0))),(4,(.one (.ptr (.box 4) 0 [] 0))),(6,(.one (.sl true 3 1 (Ah c3 q1)))),(9,(.one (.sl true 4 1 (Ah c4 v7)))),(13,(.one (.sl true 3 1 (Ah c3 a)))),(14,(.one (.ptr (.box 14) 0 [] 0))),(15,(I c)),(16,(.one (.ptr (.box 16) 0 [] 0)))] [(.box 2,[.sl false 150 2 (Ah (AN false) xA.Knots)]),(.box 4,[.sl true 150 2 (Ah (AN true) [])]),(.box 14,[.sl true 150 2 (Ah (AN true) b)]),(.box 16,[.bool j2.1,.sl true 3 1 (Ah c3 z20)])]
def Sw (xA:Arena) (q1:List Int) (v7:List Bool) (a:List Int) (d:Int) (b:List BX) (j2:Bool×List Int) (e:Int) (c:List Int) (z21:Bool):St:=AG [(2,(.one (.ptr (.box 2) 0 [] 0))),(4,(.one (.ptr (.box 4) 0 [] 0))),(6,(.one (.sl true 3 1 (Ah c3 q1)))),(9,(.one (.sl true 4 1 (Ah c4 v7)))),(13,(.one (.sl true 3 1 (Ah c3 a)))),(14,(.one (.ptr (.box 14) 0 [] 0))),(15,(I d)),(16,(.one (.ptr (.box 16) 0 [] 0))),(17,(I e)),(117,(B z21))] [(.box 2,[.sl false 150 2 (Ah (AN false) xA.Knots)]),(.box 4,[.sl true 150 2 (Ah (AN true) [])]),(.box 14,[.sl true 150 2 (Ah (AN true) b)]),(.box 16,[.bool j2.1,.sl true 3 1 (Ah c3 c)])]
def Sv (v9:List Int×List BX) (z22:List Int) (z23:Int):St:=AG [(4,(.one (.ptr (.box 4) 0 [] 0))),(6,(.one (.sl true 3 1 (Ah c3 z22)))),(13,(.one (.sl true 3 1 (Ah c3 v9.1)))),(14,(.one (.ptr (.box 14) 0 [] 0))),(18,(I z23))] [(.box 4,[.sl true 150 2 (Ah (AN true) [])]),(.box 14,[.sl true 150 2 (Ah (AN true) v9.2)])]
def Su (v9:List Int×List BX) (z24:List Int):St:=AG [(4,(.one (.ptr (.box 4) 0 [] 0))),(6,(.one (.sl true 3 1 (Ah c3 z24)))),(14,(.one (.ptr (.box 14) 0 [] 0)))] [(.box 4,[.sl true 150 2 (Ah (AN true) [])]),(.box 14,[.sl true 150 2 (Ah (AN true) v9.2)])]
theorem Gn (xA:Arena) (b:List Int) (r:Arena×List Int) (h:HP xA b=some r):Be Tryz.prog 120 [.sv (.agg [.sl false 150 2 (Ah (AN false) xA.Knots)]),.sv (.one (.sl false 3 1 (Ah c3 b)))] (.tup [(.agg [.sl true 150 2 (Ah (AN true) r.1.Knots)]),(.one (.sl true 3 1 (Ah c3 r.2)))]) (List.replicate 2 .gone):=by
 unfold HP at h;refine gk Tryz.func120 rfl Tryz.ntmps120 (ws (Ab 3 0 (RW.nil (ws (Ab 2 0 (bd h fun q1 gq1 h=>Dl (EQ k3 (fun _=>rfl) [] gq1) (Ab 1 1 (RW.nil (ws (Ab 1 0 (RW.c 0 h (MJ _) (fun v1 gv1 h=>Ab 1 0 ?_))))))))))));refine RW.nil (Wp.seq (ws (Ab 1 0 (RW.nil (BO h [1,2,4,6,7,8] [.box 2,.box 4] (fun s=>(TY xA b q1 s.1 s.2)) [1,2,4,6,7] [.box 2,.box 4] (fun s=>(TX xA b q1 s)) A4 ?_ ?_)))))
 ·rintro⟨k,n⟩ o (h:E4 xA b k n=some o);unfold E4 at h;refine Wp.seq (Wp.seq (B3 h [1,2,4,6,7,8,30] [.box 2,.box 4] (fun a=>(TW xA b q1 k n a)) ?_ ?_))
  ·intro a h;refine Ax (Ab 2 0 (RW.q (D5 k3 b) (Ab 2 0 (Ba 28 h (fun h=>?_) (fun h=>?_)))))
   ·refine Ab 2 0 (RW.nil ?_);cases h;exact⟨_,rfl,A4⟩
   refine Ab 2 0 (RW.nil ?_);cases h;exact⟨_,rfl,A4⟩
  intro j1 h E hE;refine AE hE (wc h (fun h=>?_) (fun h=>?_))
  ·refine Wp.skip (Wp.seq (Wp.block (T7 5 mixed (DZ 3 (bd h fun x1 gx1 h=>SW.q (Cq k3 gx1) (SW.q (CN k3 gx1 0) (SW.nil (RW.c 0 h (KD _ _) (fun v2 gv2 h=>Ab 1 0 (RW.nil (Ax (Ab 3 0 ?_))))))))))));refine RW.nil ?_;cases h;exact⟨_,rfl,A4⟩
  refine Wp.exit ?_;cases h;exact⟨_,rfl,A4⟩
 intro v3 h E hE;refine AE hE (Wp.seq (ws (Ab 2 0 (RW.nil (wc h (fun h=>?_) (fun h=>?_))))))
 ·refine ws (Ab 1 0 (RW.c 0 h (Pa _) (fun v4 gv4 h=>Ab 3 4 (RW.nil ?_))));cases h;exact Wp.ret ⟨.inr rfl,BJ (by kernel_rfl)⟩
 refine Wp.skip (ws (Ab 2 0 (RW.q (D5 (CM false) xA.Knots) (bd h fun q2 gq2 h=>Dl (fmk k4 false gq2) (Ab 1 1 (RW.nil (Wp.seq (ws (Ab 1 0 (RW.nil (BO h [1,2,4,6,9,10] [.box 2,.box 4] (fun s=>(TU xA b q1 s.1 s.2)) [2,4,6,9] [.box 2,.box 4] (fun s=>(TT xA q1 s)) A4 ?_ ?_)))))))))))
 ·rintro⟨i,m⟩ o (h:E0 xA b i m=some o);unfold E0 at h;refine Wp.seq (ws (Ab 2 0 (RW.q (D5 k3 b) (Ab 1 0 (RW.nil (wc h (fun h=>?_) (fun h=>?_)))))))
  ·refine Wp.skip (Wp.seq (Wp.block (Wp.seq (T7 5 mixed (DZ 3 (bd h fun x2 gx2 h=>SW.q (Cq k3 gx2) (SW.q (CN k3 gx2 0) (SW.nil (RW.c 0 h (mJ _ _) (fun v5 gv5 h=>Ab 1 1 (RW.nil (ws ?_))))))))))));refine Ab 1 0 (RW.nil (BO h [1,2,4,6,9,10,11,12] [.box 2,.box 4] (fun s=>(TS xA b q1 m v5 s.1 s.2)) [1,2,4,6,9,10] [.box 2,.box 4] (fun s=>(TR xA b q1 m s)) A4 ?_ ?_))
   ·rintro⟨j,t⟩ o (h:Fy v5 j t=some o);unfold Fy at h;refine Wp.seq (ws (Ab 2 0 (RW.q (D5 k4 v5) (Ab 1 0 (RW.nil (wc h (fun h=>?_) (fun h=>?_)))))))
    ·refine Wp.skip (Wp.seq (Wp.block (Ax (Ab 4 0 (bd h fun x3 gx3 h=>RW.q (Cq k4 gx3) (RW.q (CN k4 gx3 0) (Ab 1 0 (Ba 72 h (fun h=>?_) (fun h=>?_)))))))))
     ·refine Ab 5 0 (bd h fun x4 gx4 h=>RW.q (Cq k4 gx4) (Dl (Ow k4 gx4 0 0 true) (RW.nil (Ax (Ab 3 0 (RW.nil ?_))))));cases h;exact⟨_,rfl,A4⟩
     refine Ab 2 0 (bd h fun x5 gx5 h=>RW.q (Cq k4 gx5) (RW.q (CN k4 gx5 0) (Ab 1 0 (bd h fun x6 gx6 h=>RW.q (Cq k4 gx6) (Dl (Ow k4 gx6 0 0 x5) (RW.nil (Ax (Ab 3 0 (RW.nil ?_)))))))));cases h;exact⟨_,rfl,A4⟩
    refine Wp.exit ?_;cases h;exact⟨_,rfl,A4⟩
   intro v6 h E hE;refine AE hE (Ax (Ab 3 0 (RW.nil ?_)));cases h;exact⟨_,rfl,A4⟩
  refine Wp.exit ?_;cases h;exact⟨_,rfl,A4⟩
 intro v7 h E hE;refine AE hE (ws (Ab 2 0 (RW.q (D5 (CM false) xA.Knots) (bd h fun q3 gq3 h=>Dl (fmk k3 0 gq3) (Ab 1 1 (RW.nil (ws (Ab 3 0 (RW.nil (Wp.seq (ws (Ab 1 0 ?_))))))))))));refine RW.nil (BO h [2,4,6,9,13,14,15] [.box 2,.box 4,.box 14] (fun s=>(TQ xA q1 v7 s.1 s.2.1 s.2.2)) [4,6,13,14] [.box 4,.box 14] (fun s=>(TP q1 s.1 s.2)) A4 ?_ ?_)
 ·rintro⟨e,g,d⟩ o (h:Ez xA v7 e g d=some o);unfold Ez at h;refine Wp.seq (ws (Ab 3 0 (RW.q (D5 (CM false) xA.Knots) (Ab 1 0 (RW.nil (wc h (fun h=>?_) (fun h=>?_)))))))
  ·refine Wp.skip (Wp.seq (Wp.block (Wp.seq (ws (Ab 2 0 (bd h fun x7 gx7 h=>RW.q (Cq k4 gx7) (RW.q (CN k4 gx7 0) (Ab 1 0 (RW.nil (wc h (fun h=>?_) (fun h=>?_)))))))))))
   ·refine Wp.exit (Ax (Ab 3 0 (RW.nil ?_)));cases h;exact⟨_,rfl,A4⟩
   refine Wp.skip (Wp.seq (B3 h [2,4,6,9,13,14,15,16] [.box 2,.box 4,.box 14,.box 16] (fun a=>(Sz xA q1 v7 e g d a.1 a.2)) ?_ ?_))
   ·intro a h;refine EL [16] mixed (fun c E h=>by rcases h with⟨h|h,_⟩<;>cases h) (AD [0,1,2] 0 (bd h fun x8 gx8 h=>KW.q 3 (Cq (CM false) gx8) (KW.q 4 (DD (CM false) gx8 0 0) (KW.q 5 (CN (CM false) gx8 0) (AD [7,8,9] 0 (bd h fun x9 gx9 h=>KW.q 10 (Cq (CM false) gx9) (KW.q 11 (DD (CM false) gx9 0 1) (KW.q 12 (CN (CM false) gx9 1) (Bi 6 15 ?_ ?_)))))))))
    ·refine pI (Bi 13 15 ?_ ?_)
     ·refine bd h fun q4 gq4 h=>fI (EQ k3 (fun _=>rfl) [] gq4) (AD [14,15,16] 0 (Ap ?_))
      cases h;exact⟨_,rfl,A4⟩
     refine KB.o false (BT 13 (bd h fun q5 gq5 h=>fI (EQ k3 (fun _=>rfl) [] gq5) (AD [14,16] 0 (Ap ?_))));cases h;exact⟨_,rfl,A4⟩
    refine KB.o false (BT 6 (pI (BT 13 (bd h fun q6 gq6 h=>fI (EQ k3 (fun _=>rfl) [] gq6) (AD [14,16] 0 (Ap ?_))))));cases h;exact⟨_,rfl,A4⟩
   intro j2 h E hE;refine AE hE (Wp.seq (ws (Ab 1 0 (RW.nil (BO h [2,4,6,9,13,14,15,16,17] [.box 2,.box 4,.box 14,.box 16] (fun s=>(Sy xA q1 v7 e g d j2 s.1 s.2)) [2,4,6,9,13,14,15,16] [.box 2,.box 4,.box 14,.box 16] (fun s=>(Sx xA q1 v7 e g d j2 s)) A4 ?_ ?_)))))
   ·rintro⟨p,l⟩ o (h:Ey e j2 p l=some o);unfold Ey at h;refine Wp.seq (Wp.seq (B3 h [2,4,6,9,13,14,15,16,17,117] [.box 2,.box 4,.box 14,.box 16] (fun a=>(Sw xA q1 v7 e g d j2 p l a)) ?_ ?_))
    ·intro a h;refine Ax (Ab 3 0 (Ba 113 h (fun h=>?_) (fun h=>?_)))
     ·refine Ab 4 0 (RW.nil ?_);cases h;exact⟨_,rfl,A4⟩
     refine Ab 4 0 (RW.nil ?_);cases h;exact⟨_,rfl,A4⟩
    intro j3 h E hE;refine AE hE (wc h (fun h=>?_) (fun h=>?_))
    ·refine Wp.skip (Wp.seq (Wp.block (ws (Ab 3 0 (bd h fun x10 gx10 h=>RW.q (Cq k3 gx10) (RW.q (CN k3 gx10 0) (Ab 1 0 (RW.nil (wc h (fun h=>?_) (fun h=>?_))))))))))
     ·refine T7 12 mixed (DZ 7 (bd h fun x11 gx11 h=>SW.q (Cq k3 gx11) (SW.q (CN k3 gx11 0) (bd h fun x12 gx12 h=>SW.q (Cq k3 gx12) (SW.q (CN k3 gx12 0) (bd h fun x13 gx13 h=>SW.q (Cq k3 gx13) (SW.nil (Dl (Ow k3 gx13 0 1 x12) (RW.nil (Ax ?_))))))))));refine Ab 3 0 (RW.nil ?_);cases h;exact⟨_,rfl,A4⟩
     refine Wp.skip (Ax (Ab 3 0 (RW.nil ?_)));cases h;exact⟨_,rfl,A4⟩
    refine Wp.exit ?_;cases h;exact⟨_,rfl,A4⟩
   intro v8 h E hE;refine AE hE (ws (Ab 4 0 (RW.q (D5 (CM true) d) (bd h fun x14 gx14 h=>RW.q (Cq k3 gx14) (Dl (Ow k3 gx14 0 0 (ln d)) (RW.nil (Ax (Ab 4 0 (bd h fun q7 gq7 h=>Dl (oV (CM true) d [(BX.mk j2.1 v8)] gq7) (Ab 2 0 (RW.nil ?_)))))))))));refine Ax (Ab 3 0 (RW.nil ?_));cases h;exact⟨_,rfl,A4⟩
  refine Wp.exit ?_;cases h;exact⟨_,rfl,A4⟩
 intro v9 h E hE;refine AE hE (Wp.seq (ws (Ab 1 0 (RW.nil (BO h [4,6,13,14,18] [.box 4,.box 14] (fun s=>(Sv v9 s.1 s.2)) [4,6,14] [.box 4,.box 14] (fun s=>(Su v9 s)) A4 ?_ ?_)))))
 ·rintro⟨f,u⟩ o (h:Ex v9 f u=some o);unfold Ex at h;refine Wp.seq (ws (Ab 2 0 (RW.q (D5 k3 f) (Ab 1 0 (RW.nil (wc h (fun h=>?_) (fun h=>?_)))))))
  ·refine Wp.skip (Wp.seq (Wp.block (ws (Ab 2 0 (bd h fun x15 gx15 h=>RW.q (Cq k3 gx15) (RW.q (CN k3 gx15 0) (Ab 1 0 (RW.nil (wc h (fun h=>?_) (fun h=>?_))))))))))
   ·refine Ax (Ab 5 0 (bd h fun x16 gx16 h=>RW.q (Cq k3 gx16) (RW.q (CN k3 gx16 0) (bd h fun x17 gx17 h=>RW.q (Cq k3 gx17) (RW.q (CN k3 gx17 0) (bd h fun x18 gx18 h=>RW.q (Cq k3 gx18) (Dl (Ow k3 gx18 0 0 x17) (RW.nil (Ax (Ab 3 0 ?_))))))))));refine RW.nil ?_;cases h;exact⟨_,rfl,A4⟩
   refine Wp.skip (Ax (Ab 3 0 (RW.nil ?_)));cases h;exact⟨_,rfl,A4⟩
  refine Wp.exit ?_;cases h;exact⟨_,rfl,A4⟩
 intro v10 h E hE;refine AE hE (ws (Ab 4 8 (RW.nil ?_)));cases h;exact Wp.ret ⟨.inr rfl,BJ (by kernel_rfl)⟩
def bE (xS:Store) (z1:Bool):St:=AG [(1,(.one (.ptr (.box 1) 0 [] 0))),(23,(B z1))] [(.box 1,[.sl false 39 2 (Ah CD xS.Vols),.sl false 150 2 (Ah (AN false) xS.Arena.Knots),.int .i64 xS.Next])]
def bD (xS:Store) (z2:Int):St:=AG [(1,(.one (.ptr (.box 1) 0 [] 0))),(3,(I z2))] [(.box 1,[.sl false 39 2 (Ah CD xS.Vols),.sl false 150 2 (Ah (AN false) xS.Arena.Knots),.int .i64 xS.Next])]
def bC (xS:Store):St:=AG [(1,(.one (.ptr (.box 1) 0 [] 0)))] [(.box 1,[.sl false 39 2 (Ah CD xS.Vols),.sl false 150 2 (Ah (AN false) xS.Arena.Knots),.int .i64 xS.Next])]
def bB (xS:Store) (a:Int) (x1:Vol) (z3:Bool):St:=AG [(1,(.one (.ptr (.box 1) 0 [] 0))),(3,(I a)),(4,(.one (.ptr (.box 4) 0 [] 0))),(63,(B z3))] [(.box 1,[.sl false 39 2 (Ah CD xS.Vols),.sl false 150 2 (Ah (AN false) xS.Arena.Knots),.int .i64 xS.Next]),(.box 4,[.int .i64 x1.Id,.int .i64 x1.Root])]
def bA (xS:Store) (a:Int) (x1:Vol) (z4:Int):St:=AG [(1,(.one (.ptr (.box 1) 0 [] 0))),(3,(I a)),(4,(.one (.ptr (.box 4) 0 [] 0))),(5,(I z4))] [(.box 1,[.sl false 39 2 (Ah CD xS.Vols),.sl false 150 2 (Ah (AN false) xS.Arena.Knots),.int .i64 xS.Next]),(.box 4,[.int .i64 x1.Id,.int .i64 x1.Root])]
def aZ (xS:Store) (a:Int):St:=AG [(1,(.one (.ptr (.box 1) 0 [] 0))),(3,(I a))] [(.box 1,[.sl false 39 2 (Ah CD xS.Vols),.sl false 150 2 (Ah (AN false) xS.Arena.Knots),.int .i64 xS.Next])]
def aY (xS:Store) (z5:List BX):St:=AG [(1,(.one (.ptr (.box 1) 0 [] 0))),(6,(.one (.ptr (.box 6) 0 [] 0)))] [(.box 1,[.sl false 39 2 (Ah CD xS.Vols),.sl false 150 2 (Ah (AN false) xS.Arena.Knots),.int .i64 xS.Next]),(.box 6,[.sl true 150 2 (Ah (AN true) z5)])]
theorem Tf (xS:Store) (r:Bool) (h:LG xS=some r):Be Tryz.prog 88 [.sv (.agg [.sl false 39 2 (Ah CD xS.Vols),.sl false 150 2 (Ah (AN false) xS.Arena.Knots),.int .i64 xS.Next])] (B r) (List.replicate 1 .gone):=by
 unfold LG at h;refine gk Tryz.func88 rfl Tryz.ntmps88 (ws (Ab 2 0 (RW.nil (Wp.seq (Wp.seq (B3 h [1,23] [.box 1] (fun a=>(bE xS a)) ?_ ?_))))))
 ·intro a h;refine Ax (Ab 2 0 (RW.q (D5 Em xS.Vols) (Ab 2 0 (Ba 12 h (fun h=>?_) (fun h=>?_)))))
  ·refine Ab 11 0 (RW.nil ?_);cases h;exact⟨_,rfl,A4⟩
  refine Ab 2 0 (RW.c 0 h (MJ _) (fun v1 gv1 h=>Ab 3 0 (Ba 18 h (fun h=>?_) (fun h=>?_))))
  ·refine Ab 5 0 (RW.nil ?_);cases h;exact⟨_,rfl,A4⟩
  refine Ab 2 0 (RW.c 0 h (BN _ _ _) (fun v2 gv2 h=>Ab 2 0 (RW.nil ?_)));cases h;exact⟨_,rfl,A4⟩
 intro j1 h E hE;refine AE hE (wc h (fun h=>?_) (fun h=>?_))
 ·refine ws (Ab 1 0 (RW.nil ?_));cases h;exact Wp.ret ⟨.inr rfl,BJ (by kernel_rfl)⟩
 refine Wp.skip (Wp.seq (ws (Ab 1 0 (RW.nil (Fk h [1,3] [.box 1] (fun s=>(bD xS s)) [1] [.box 1] (fun _=>(bC xS)) A4 ?_ ?_)))))
 ·rintro b o (h:GG xS b=some o) hk1;unfold GG at h;refine Wp.seq (ws (Ab 3 0 (RW.q (D5 Em xS.Vols) (Ab 1 0 (RW.nil (wc h (fun h=>?_) (fun h=>?_)))))))
  ·refine Wp.skip (Wp.seq (Wp.block (ws (Ab 3 0 (bd h fun x1 gx1 h=>RW.q (Cq Em gx1) (RW.q (Si Em gx1 0 2) (Ab 2 0 (RW.nil (Wp.seq (Wp.seq (B3 h [1,3,4,63] [.box 1,.box 4] (fun a=>(bB xS b x1 a)) ?_ ?_)))))))))))
   ·intro a h;refine EL [] mixed (fun c E h=>by rcases h with⟨h|h,_⟩<;>cases h) (AD [0,1] 0 (BT 2 (KB.c 0 h (BN _ _ _) (fun v3 gv3 h=>AD [3,4] 0 (Xb 40 h (fun h=>?_) (fun h=>?_))))))
    ·refine AD [5,6,7,8,9,10,11,12,13,14,15,16,17,18,19,20,21,22,23,24,25,26,27] 0 (Ap ?_);cases h;exact⟨_,rfl,A4⟩
    refine AD [5,6,7] 0 (Xb 43 h (fun h=>?_) (fun h=>?_))
    ·refine AD [8,9,10,11] 0 (bd h fun x2 gx2 h=>KW.q 12 (Cq Em gx2) (KW.q 13 (DD Em gx2 0 0) (KW.q 14 (CN Em gx2 0) (AD [15,16,17,18,19,20] 0 (Xb 56 h (fun h=>?_) (fun h=>?_))))))
     ·refine AD [21,22,23,24,25,26,27] 0 (Ap ?_);cases h;exact⟨_,rfl,A4⟩
     refine AD [21,22,23,24] 0 (BT 25 (KB.c 0 h (KD _ _) (fun v4 gv4 h=>AD [26,27] 0 (Ap ?_))));cases h;exact⟨_,rfl,A4⟩
    refine AD [8,9,10,11,12,13,14,15,16,17,18,19,20,21,22,23,24] 0 (BT 25 (KB.c 0 h (KD _ _) (fun v5 gv5 h=>AD [26,27] 0 (Ap ?_))));cases h;exact⟨_,rfl,A4⟩
   intro j2 h E hE;refine AE hE (wc h (fun h=>?_) (fun h=>?_))
   ·refine ws (Ab 1 0 (RW.nil ?_));cases h;replace h:some _=some _:=hk1 _ rfl;cases h;exact Wp.ret ⟨.inr rfl,BJ (by kernel_rfl)⟩
   refine Wp.skip (ws (Ab 1 0 (RW.nil (Fk h [1,3,4,5] [.box 1,.box 4] (fun s=>(bA xS b x1 s)) [1,3] [.box 1] (fun _=>(aZ xS b)) A4 ?_ ?_))))
   ·rintro d o (h:GF xS x1 d=some o) hk2;unfold GF at h;refine Wp.seq (ws (Ab 2 0 (RW.nil (wc h (fun h=>?_) (fun h=>?_)))))
    ·refine Wp.skip (Wp.seq (Wp.block (Wp.seq (EL [] mixed (fun c E h=>by rcases h with⟨h|h,_⟩<;>cases h) (AD [0,1,2,3,4,6,7] 0 (BT 5 (KB.c 0 h (Vv _ _ _) (fun v6 gv6 h=>AD [8] 0 (Ap (wc h (fun h=>?_) (fun h=>?_)))))))))))
     ·refine ws (Ab 1 0 (RW.nil ?_));cases h;replace h:some _=some _:=hk2 _ rfl;cases h;replace h:some _=some _:=hk1 _ rfl;cases h;exact Wp.ret ⟨.inr rfl,BJ (by kernel_rfl)⟩
     refine Wp.skip (Ax (Ab 3 0 (RW.nil ?_)));cases h;exact⟨_,rfl,A4⟩
    refine Wp.exit ?_;cases h;exact⟨_,rfl,A4⟩
   intro v7 h E hE;refine AE hE (Ax (Ab 3 0 (RW.nil ?_)));cases h;exact⟨_,rfl,A4⟩
  refine Wp.exit ?_;cases h;exact⟨_,rfl,A4⟩
 intro v8 h E hE;refine AE hE (Wp.seq (B3 h [1,6] [.box 1,.box 6] (fun a=>(aY xS a)) ?_ ?_))
 ·intro a h;refine EL [9] mixed (fun c E h=>by rcases h with⟨h|h,_⟩<;>cases h) (AD [0,1,2] 0 (Bi 3 8 ?_ ?_))
  ·refine KB.c 0 h (Lv _) (fun v9 gv9 h=>Bi 4 8 ?_ ?_)
   ·refine KB.c 0 h (gs (ca rfl (ca (co (cs (fZ _))) rfl)) (Gn _ _)) (fun v10 gv10 h=>Bi 5 8 ?_ ?_) (hc:=(.inr (fun v=>by simp [BE,BL,AR,BB,ns3,Lk])))
    ·refine KB.o true (Ky 6 (Bi 7 8 ?_ ?_))
     ·refine KB.o false (AD [8,9,10] 4 (Ap ?_));cases h;exact⟨_,rfl,A4⟩
     refine KB.o false (Bi 7 9 ?_ ?_)
     ·refine KB.o false (AD [9,10] 2 (Ap ?_));cases h;exact⟨_,rfl,A4⟩
     refine KB.o false (AD [7,10] 2 (Ap ?_));cases h;exact⟨_,rfl,A4⟩
    refine KB.o false (AD [5] 1 (Ky 6 (Bi 7 9 ?_ ?_)))
    ·refine KB.o false (AD [9,10] 2 (Ap ?_));cases h;exact⟨_,rfl,A4⟩
    refine KB.o false (AD [7,10] 2 (Ap ?_));cases h;exact⟨_,rfl,A4⟩
   refine KB.o false (BT 4 (KB.c 0 h (gs (ca rfl (ca (co (cs (fZ _))) rfl)) (Gn _ _)) (fun v11 gv11 h=>AD [5] 1 (Ky 6 (Bi 7 9 ?_ ?_))) (hc:=(.inr (fun v=>by simp [BE,BL,AR,BB,ns3,Lk])))))
   ·refine KB.o false (AD [9,10] 2 (Ap ?_));cases h;exact⟨_,rfl,A4⟩
   refine KB.o false (AD [7,10] 2 (Ap ?_));cases h;exact⟨_,rfl,A4⟩
  refine KB.o false (BT 3 (KB.c 0 h (Lv _) (fun v12 gv12 h=>BT 4 (KB.c 0 h (gs (ca rfl (ca (co (cs (fZ _))) rfl)) (Gn _ _)) (fun v13 gv13 h=>AD [5] 1 (Ky 6 (Bi 7 9 ?_ ?_))) (hc:=(.inr (fun v=>by simp [BE,BL,AR,BB,ns3,Lk])))))))
  ·refine KB.o false (AD [9,10] 2 (Ap ?_));cases h;exact⟨_,rfl,A4⟩
  refine KB.o false (AD [7,10] 2 (Ap ?_));cases h;exact⟨_,rfl,A4⟩
 intro j3 h E hE;refine AE hE (ws (Ab 2 0 (RW.q (D5 (CM true) j3) (Ab 3 0 (RW.q (D5 (CM false) xS.Arena.Knots) (Ab 2 0 (RW.nil ?_)))))));cases h;exact Wp.ret ⟨.inr rfl,BJ (by kernel_rfl)⟩
def mI (xS:Store) (a:Int) (z1:Int):St:=AG [(1,(I a)),(2,(.one (.ptr (.box 2) 0 [] 0))),(5,(I z1))] [(.box 2,[.sl false 39 2 (Ah CD xS.Vols),.sl false 150 2 (Ah (AN false) xS.Arena.Knots),.int .i64 xS.Next])]
def mH:St:=AG [] []
theorem JU (xS:Store) (a:Int) (r:Int) (h:Gd xS a=some r):Be Tryz.prog 32 [.sv (.agg [.sl false 39 2 (Ah CD xS.Vols),.sl false 150 2 (Ah (AN false) xS.Arena.Knots),.int .i64 xS.Next]),.sv (I a)] (I r) (List.replicate 2 .gone):=by
 unfold Gd at h;refine gk Tryz.func32 rfl Tryz.ntmps32 (ws (Ab 2 0 (RW.nil (Wp.seq (ws (Ab 1 0 (RW.nil (Fk h [1,2,5] [.box 2] (fun s=>(mI xS a s)) [] [] (fun _=>mH) A4 ?_ ?_))))))))
 ·rintro b o (h:I6 xS a b=some o) hk1;unfold I6 at h;refine Wp.seq (ws (Ab 3 0 (RW.q (D5 Em xS.Vols) (Ab 1 0 (RW.nil (wc h (fun h=>?_) (fun h=>?_)))))))
  ·refine Wp.skip (Wp.seq (Wp.block (ws (Ab 3 0 (bd h fun x1 gx1 h=>RW.q (Cq Em gx1) (RW.q (DD Em gx1 0 0) (RW.q (CN Em gx1 0) (Ab 2 0 (RW.nil (wc h (fun h=>?_) (fun h=>?_)))))))))))
   ·refine ws (Ab 2 0 (RW.nil ?_));cases h;replace h:some _=some _:=hk1 _ rfl;cases h;exact Wp.ret ⟨.inr rfl,BJ (by kernel_rfl)⟩
   refine Wp.skip (Ax (Ab 3 0 (RW.nil ?_)));cases h;exact⟨_,rfl,A4⟩
  refine Wp.exit ?_;cases h;exact⟨_,rfl,A4⟩
 intro v1 h E hE;refine AE hE (ws (Ab 1 0 (RW.nil ?_)));cases h;exact Wp.ret ⟨.inr rfl,BJ (by kernel_rfl)⟩
end Go.TI
