/- That they compute it. No condition. -/
import Derived.Test.YtpafpcbnmplkfaaGreatMOW1
set_option linter.unusedVariables false
set_option linter.unusedSimpArgs false
namespace Go.TI
open Go Go.Proofs
set_option maxRecDepth 100000
theorem Y3 (xF:Flash) (xB:Int) (r:Bool) (h:Qr xF xB=some r):AP Tryz.prog 179 [.sv (.agg (NK false xF)),.sv (I xB)] (B r) (rg 2):=by
 refine gk Tryz.func179 rfl Tryz.ntmps179 (ws (gw 2 0 (Ai 1 0 (RW.c 0 h (UV _) (λv1 gv1 h=>Ai 1 0 (AM 7 h (λh=>?_) (λh=>?_)))))))
 ·refine Ai 3 0 (RW.q (CT (BF false) xF.Blocks) (Ai 1 0 (RW.c 0 h (Fx _ _ _) (λv2 gv2 h=>Ai 2 0 (AM 15 h (λh=>?_) (λh=>?_))))))
  ·exact Ai 3 0 (CG (BF false) h (λx1 gx1 h=>RW.q (DH (BF false) gx1 0 0) (RW.q (CK (BF false) gx1 0) (gn 3 0 (Wp.ret (rr h▸rq))))))
  exact gn 9 0 (Wp.ret (rr h▸rq))
 exact gn 17 0 (Wp.ret (rr h▸rq))
def lT (xB:Int) (a:Int) (b:ByteArray) (v1:Flash) (z1:Bool):St:=AA [(1,(I xB)),(2,(I a)),(3,(Y b)),(8,(pb 8)),(10,(pb 10)),(37,(B z1))] [(.box 8,[C0 []]),(.box 10,[C0 v1.Blocks])]
theorem rZ (xF:Flash) (xB:Int) (d:Int) (b:ByteArray) (r:Flash×Bool) (h:QY xF xB d b=some r):AP Tryz.prog 132 [.sv (.agg (NK false xF)),.sv (I xB),.sv (I d),.sv (Y b)] (.tup [(.agg (NK true r.1)),(B r.2)]) (rg 4):=by
 refine gk Tryz.func132 rfl Tryz.ntmps132 (ws (gw 3 0 (Ai 1 0 (RW.c 0 h (NC _) (λv1 gv1 h=>gn 2 0 (Wp.seq (Fp h [1,2,3,8,10,37] [.box 8,.box 10] (λa=>(lT xB d b v1 a)) (λa h=>?_) (λj1 h=>?_))))))))
 ·refine Au (Ai 2 0 (RW.c 0 h (Y3 _ _) (λv2 gv2 h=>Ai 2 0 (AM 17 h (λh=>?_) (λh=>?_)))))
  ·exact gn 20 0 (jn h)
  refine Ai 1 0 (RW.c 0 h (Fx _ _ _) (λv3 gv3 h=>Ai 3 0 (AM 22 h (λh=>?_) (λh=>?_))))
  ·exact gn 15 0 (jn h)
  refine Ai 4 0 (CG (BF false) h (λx1 gx1 h=>RW.q (MW (BF false) gx1 0 3) (RW.c 0 h (R2 _) (λv4 gv4 h=>Ai 3 0 (AM 32 h (λh=>?_) (λh=>?_))))))
  ·exact gn 5 0 (jn h)
  exact Ai 2 0 (RW.c 0 h (Fx _ _ _) (λv5 gv5 h=>gn 2 0 (jn h)))
 refine wc h (λh=>?_) (λh=>?_)
 ·exact ws (gn 3 0 (Wp.ret (rr h▸rq)))
 exact Wp.skip (ws (Ai 3 0 (CG (BF true) h (λx2 gx2 h=>RW.q (DH (BF true) gx2 0 2) (RW.q (CK (BF true) gx2 2) (Ai 3 0 (bd h λx3 gx3 h=>RW.q (AFc DA gx3 (BF true) gx2 2) (CM (AGe DA gx3 0 0 (Leaf.mk 1 b) (BF true) gx2 2 (Block.mk x2.Bad x2.Wear (si x2.Leaves d (Leaf.mk 1 b)))) (RW.nil (ws (gn 3 0 (Wp.ret (rr h▸rq)))))))))))))
theorem VS (r:List Leaf) (h:KQ=some r):AP Tryz.prog 180 [] (.one (AF9 r)) (rg 0):=by
 exact gk Tryz.func180 rfl Tryz.ntmps180 (ws (gw 1 0 (bd h λq1 gq1 h=>CM (fmk DA (Leaf.mk 0 (bs [])) gq1) (gn 1 1 (Wp.ret (rr h▸rq))))))
def AA7 (xB:Int) (v1:Flash) (z1:Bool):St:=AA [(1,(I xB)),(4,(pb 4)),(6,(pb 6)),(21,(B z1))] [(.box 4,[C0 []]),(.box 6,[C0 v1.Blocks])]
theorem ACE (xF:Flash) (xB:Int) (r:Flash×Bool) (h:kS xF xB=some r):AP Tryz.prog 133 [.sv (.agg (NK false xF)),.sv (I xB)] (.tup [(.agg (NK true r.1)),(B r.2)]) (rg 2):=by
 refine gk Tryz.func133 rfl Tryz.ntmps133 (ws (gw 3 0 (Ai 1 0 (RW.c 0 h (NC _) (λv1 gv1 h=>gn 2 0 (Wp.seq (Fp h [1,4,6,21] [.box 4,.box 6] (λa=>(AA7 xB v1 a)) (λa h=>?_) (λj1 h=>?_))))))))
 ·refine Au (Ai 2 0 (RW.c 0 h (Y3 _ _) (λv2 gv2 h=>Ai 2 0 (AM 13 h (λh=>?_) (λh=>?_)))))
  ·exact gn 8 0 (jn h)
  exact Ai 3 0 (CG (BF false) h (λx1 gx1 h=>RW.q (DH (BF false) gx1 0 1) (RW.q (CK (BF false) gx1 1) (gn 2 0 (jn h)))))
 refine wc h (λh=>?_) (λh=>?_)
 ·exact ws (gn 3 0 (Wp.ret (rr h▸rq)))
 exact Wp.skip (Wp.seq (DM [6] mixed (λ_ _=>nP) (Bn [0,1,2] 0 (Br 3 (KB.c 0 h (VS) (λv3 gv3 h=>bd h λx2 gx2 h=>KW.q 4 (Js (BF true) gx2) (KW.q 5 (DH (BF true) gx2 0 2) (Br 6 (Lz (MY (BF true) gx2 2 0 (Block.mk x2.Bad x2.Wear v3)) (Bg (ws (Ai 3 0 (CG (BF true) h (λx3 gx3 h=>RW.q (DH (BF true) gx3 0 1) (RW.q (CK (BF true) gx3 1) (Ai 1 0 (CG (BF true) h (λx4 gx4 h=>RW.q (DH (BF true) gx4 0 1) (CM (MY (BF true) gx4 1 0 (Block.mk x4.Bad (ad x3.Wear 1) x4.Leaves)) (RW.nil (ws (gn 3 0 (Wp.ret (rr h▸rq))))))))))))))))))))))))
theorem YI (xF:Flash) (xS:Bi) (r:Flash×Bool) (h:Tg xF xS=some r):AP Tryz.prog 72 [.sv (.agg (NK false xF)),.sv (.agg (c80 xS))] (.tup [(.agg (NK true r.1)),(B r.2)]) (rg 2):=by
 refine gk Tryz.func72 rfl Tryz.ntmps72 (ws (gn 4 0 (Wp.seq (ws (gn 2 0 (Wp.block (ws (gn 2 0 (wc h (λh=>?_) (λh=>?_))))))))))
 ·exact ws (Ai 7 0 (RW.c 0 h (rZ _ _ _ _) (λv1 gv1 h=>gn 4 0 (Wp.ret (rr h▸rq)))))
 refine ws (gn 2 0 (wc h (λh=>?_) (λh=>?_)))
 ·exact ws (Ai 3 0 (RW.c 0 h (ACE _ _) (λv2 gv2 h=>gn 4 0 (Wp.ret (rr h▸rq)))))
 exact Wp.skip (ws (Ai 1 0 (RW.c 0 h (NC _) (λv3 gv3 h=>gn 2 0 (Wp.ret (rr h▸rq))))))
def Sd (xW:EU) (v1:ByteArray×Bool) (v2:Int×Int×Bool) (z1:Bool):St:=AA [(0,(px 0)),(7,(Y v1.1)),(9,(I v2.1)),(10,(I v2.2.1)),(39,(B z1))] [(.ext 0,[BL xW.f_.Blocks,FB xW.steps_])]
def Sc (xW:EU) (v1:ByteArray×Bool) (v2:Int×Int×Bool) (z2:Bool) (z3:List Block):St:=AA [(0,(px 0)),(12,(pb 12)),(13,(pb 13)),(14,(B z2))] [(.box 12,[i6 1,i6 v2.1,i6 v2.2.1,ts v1.1]),(.box 13,[C0 z3]),(.ext 0,[BL xW.f_.Blocks,FB xW.steps_])]
set_option maxHeartbeats 4000000 in
theorem JL (xW:EU) (xP:Page) (b:Int) (r:Bool×EU) (h:CV xW xP b=some r):AP Tryz.prog 31 [.ext [BL xW.f_.Blocks,FB xW.steps_],.sv (.agg (c65 xP)),.sv (I b)] (B r.1) (.ext [BL r.2.f_.Blocks,FB r.2.steps_]::rg 2):=by
 refine gkx Tryz.func31 rfl Tryz.ntmps31 (ws (gw 2 0 (Ai 1 0 (RW.c 0 h (mA _) (λv1 gv1 h=>gw 5 1 (Ai 4 0 (RW.c 0 h (r6 _) (λv2 gv2 h=>gn 7 1 (Wp.seq (Fp h [0,7,9,10,39] [.ext 0] (λa=>(Sd xW v1 v2 a)) (λa h=>?_) (λj1 h=>?_)))))))))))
 ·refine Au (Ai 3 0 (AM 31 h (λh=>?_) (λh=>?_)))
  ·exact gn 8 0 (jn h)
  refine Ai 4 0 (AM 35 h (λh=>?_) (λh=>?_))
  ·exact gn 4 0 (jn h)
  exact gn 4 0 (jn h)
 refine wc h (λh=>?_) (λh=>?_)
 ·exact ws (gn 1 0 (Wp.ret (rr h▸rx)))
 refine Wp.skip (ws (gn 6 0 (Fp h [0,12,13,14] [.box 12,.box 13,.ext 0] (λa=>(Sc xW v1 v2 a.1 a.2)) (λa h=>?_) (λj2 h=>?_))))
 ·refine DM [10] mixed (λ_ _=>nP) (Bn [0,1,2,3,4] 0 (Dq 5 9 ?_ ?_))
  ·exact KB.c 0 h (YI _ _) (λv4 gv4 h=>oj [6] h)
  exact KB.o false (Br 5 (KB.c 0 h (YI _ _) (λv5 gv5 h=>Bn [6] 1 (IY 7 (oj [] h)))))
 refine ws (gn 5 0 (Wp.seq (DM [7,10] mixed (λ_ _=>nP) (Bn [1,2,3,4,5] 0 (Dq 0 6 ?_ ?_)))))
 ·exact KB.o false (Bn [6] 0 (Br 7 (bd h λq1 gq1 h=>Lz (Dm QU (λ_=>rfl) xW.steps_ gq1) (Bn [8,9,10] 0 (Bg (ws (gn 2 0 (Wp.fz (.ext 0) 0 (Dh j2.2) (Wp.ret (rr h▸rx))))))))))
 refine KB.o false (Dq 0 7 ?_ ?_)
 ·exact KB.o false (Br 7 (bd h λq2 gq2 h=>Lz (Dm QU (λ_=>rfl) xW.steps_ gq2) (Bn [8,9,10] 0 (Bg (ws (gn 2 0 (Wp.fz (.ext 0) 0 (Dh j2.2) (Wp.ret (rr h▸rx)))))))))
 exact bd h λq3 gq3 h=>Lz (Dm QU (λ_=>rfl) xW.steps_ gq3) (Bn [0,8,9,10] 0 (Bg (ws (gn 2 0 (Wp.fz (.ext 0) 0 (Dh j2.2) (Wp.ret (rr h▸rx)))))))
def YF (xD:AE) (xB:Int) (v2:List Al) (z1:Int) (z2:List Block) (z3:List Bi):St:=AA [(1,(I xB)),(2,(pb 2)),(7,(pb 24)),(25,(.one (.view (.box 6) 0 [] 0))),(26,(I (ln v2))),(27,(I z1))] [(.box 2,[BL xD.Flash.Blocks,DN xD.Store.Vols,BP xD.Store.Arena.Knots,i6 xD.Store.Next,i6 xD.Seq,i6 xD.Tx,i6 xD.Base]),(.box 6,[GT v2]),(.box 24,[BL z2,FB z3])]
def YE (z4:List Block) (z5:List Bi):St:=AA [(7,(pb 24))] [(.box 24,[BL z4,FB z5])]
theorem bX (xD:AE) (xB:Int) (r:List Bi×Bool) (h:Ny xD xB=some r):AP Tryz.prog 8 [.sv (.agg (Sl false xD)),.sv (I xB)] (.tup [(.one (FB r.1)),(B r.2)]) (rg 2):=by
 refine gk Tryz.func8 rfl Tryz.ntmps8 (ws (gw 3 0 (Ai 5 0 (RW.c 0 h (eK _ _ _) (λv1 gv1 h=>gw 2 0 (Ai 1 0 (RW.srt h (.box 6) (λ_ h=>VX h) (λv2 gv2 h=>RW.nil (ws (gn 5 0 (Wp.seq (ws (Ai 1 0 (RW.q (CT Et v2) (gn 1 0 (Er h [1,2,7,25,26,27] [.box 2,.box 6,.box 24] (λs=>(YF xD xB v2 s.1 s.2.1 s.2.2)) [7] [.box 24] (λs=>(YE s.1 s.2)) Eu ?_ ?_))))))))) Et AGh)))))))
 ·rintro⟨y1,y01,y11⟩ o (h:HR xD xB v2 y1 y01 y11=some o) hk1;refine ws (gn 1 0 (Wp.seq (wc h (λh=>?_) (λh=>?_))))
  ·refine Wp.skip (Wp.seq (Wp.block (ws (Ai 1 0 (CG Et h (λx1 gx1 h=>RW.q (MW Et gx1 0 8) (gw 3 0 (gw 13 0 (Ai 3 0 (F5 h (JL _ _ _) (λ_=>rfl) (λv3 gv3 h=>gn 1 0 (wc h (λh=>?_) (λh=>?_)))))))))))))
   ·exact ws (gn 2 0 (Wp.ret (rr (jo h hk1)▸rq)))
   exact Wp.skip (Au (gn 2 0 (jl h)))
  exact Wp.exit (jx h)
 intro v4 h E hE;exact AY hE (ws (gn 6 16 (Wp.ret (rr h▸rq))))
def WC (xA:List Bi) (xB:List Bi) (z1:Int):St:=AA [(0,(.one (kI xA))),(1,(.one (kI xB))),(5,(I z1))] []
def WB:St:=AA [] []
theorem Zw (xA:List Bi) (xB:List Bi) (r:Bool) (h:Nc xA xB=some r):AP Tryz.prog 10 [.sv (.one (kI xA)),.sv (.one (kI xB))] (B r) (rg 2):=by
 refine gk Tryz.func10 rfl Tryz.ntmps10 (ws (gn 1 0 (Wp.seq (ws (Ai 1 0 (RW.q (CT QU xA) (Ai 1 0 (RW.q (CT QU xB) (gn 1 0 (wc h (λh=>?_) (λh=>?_)))))))))))
 ·exact ws (gn 1 0 (Wp.ret (rr h▸rq)))
 refine Wp.skip (Wp.seq (ws (gn 1 0 (Er h [0,1,5] [] (λs=>(WC xA xB s)) [] [] (λ_=>WB) Eu ?_ ?_))))
 ·rintro a o (h:Gt xA xB a=some o) hk1;refine Wp.seq (ws (Ai 2 0 (RW.q (CT QU xA) (gn 1 0 (wc h (λh=>?_) (λh=>?_))))))
  ·refine Wp.skip (Wp.seq (Wp.block (Wp.seq (Lw mixed (DI 2 (bd h λx1 gx1 h=>SW.q (Js QU gx1) (SW.q (MW QU gx1 0 4) (DI 2 (bd h λx2 gx2 h=>SW.q (Js QU gx2) (SW.q (MW QU gx2 0 4) (AGZ (peq (b:=((x1.Kind==x2.Kind)&&((x1.Block==x2.Block)&&((x1.Leaf==x2.Leaf)&&(seq x1.Text x2.Text&&true))))) (by kernel_rfl)) (SW.nil (wc h (λh=>?_) (λh=>?_))))))))))))))
   ·exact ws (gn 1 0 (Wp.ret (rr (jo h hk1)▸rq)))
   exact Wp.skip (Au (gn 3 0 (jl h)))
  exact Wp.exit (jx h)
 intro v1 h E hE;exact AY hE (ws (gn 1 0 (Wp.ret (rr h▸rq))))
def cB (xS:Store) (z1:List C3) (z2:Int):St:=AA [(1,(pb 1)),(3,(.one (EC z1))),(13,(.one (DN xS.Vols))),(14,(I (ln xS.Vols))),(15,(I z2))] [(.box 1,[DN xS.Vols,BP xS.Arena.Knots,i6 xS.Next])]
def cA (z3:List C3):St:=AA [(3,(.one (EC z3)))] []
def b9 (xS:Store) (y1:Int) (x1:Vol) (v1:List Int) (z4:List C3) (z5:Int):St:=AA [(1,(pb 1)),(3,(.one (EC z4))),(5,(pb 5)),(13,(.one (DN xS.Vols))),(14,(I (ln xS.Vols))),(15,(I y1)),(29,(.one (EO v1))),(30,(I (ln v1))),(31,(I z5))] [(.box 1,[DN xS.Vols,BP xS.Arena.Knots,i6 xS.Next]),(.box 5,[i6 x1.Id,i6 x1.Root])]
def bZ (xS:Store) (y1:Int) (z6:List C3):St:=AA [(1,(pb 1)),(3,(.one (EC z6))),(13,(.one (DN xS.Vols))),(14,(I (ln xS.Vols))),(15,(I y1))] [(.box 1,[DN xS.Vols,BP xS.Arena.Knots,i6 xS.Next])]
theorem mH (xS:Store) (r:List C3) (h:Pj xS=some r):AP Tryz.prog 38 [.sv (.agg (Sm false xS))] (.one (EC r)) (rg 1):=by
 refine gk Tryz.func38 rfl Tryz.ntmps38 (ws (gw 2 0 (gn 5 16 (Wp.seq (ws (Ai 2 0 (RW.q (CT E4 xS.Vols) (gn 1 0 (BM h [1,3,13,14,15] [.box 1] (λs=>(cB xS s.1 s.2)) [3] [] (λs=>(cA s)) Eu ?_ ?_)))))))))
 ·rintro⟨a,y1⟩ o (h:Hp xS a y1=some o);refine ws (gn 1 0 (Wp.seq (wc h (λh=>?_) (λh=>?_))))
  ·refine Wp.skip (Wp.seq (Wp.block (ws (CG E4 h (λx1 gx1 h=>RW.q (MW E4 gx1 0 2) (gw 2 0 (Ai 5 0 (bd h λq1 gq1 h=>CM (Dm I7 (λ_=>rfl) a gq1) (gw 1 1 (Ai 4 0 (RW.c 0 h (eM _ _) (λv1 gv1 h=>RW.q (CT k3 v1) (gn 1 0 (BM h [1,3,5,13,14,15,29,30,31] [.box 1,.box 5] (λs=>(b9 xS y1 x1 v1 s.1 s.2)) [1,3,13,14,15] [.box 1] (λs=>(bZ xS y1 s)) Eu ?_ ?_))))))))))))))
   ·rintro⟨b,y2⟩ o (h:Ho x1 v1 b y2=some o);refine ws (gn 1 0 (Wp.seq (wc h (λh=>?_) (λh=>?_))))
    ·refine Wp.skip (Wp.seq (Wp.block (ws (Ai 1 0 (CG k3 h (λx2 gx2 h=>RW.q (CK k3 gx2 0) (gw 2 0 (gn 2 0 (wc h (λh=>?_) (λh=>?_))))))))))
     ·exact Au (Ai 7 0 (bd h λq2 gq2 h=>CM (Dm I7 (λ_=>rfl) b gq2) (gn 1 1 (Au (gn 2 0 (jl h))))))
     exact Wp.skip (Au (gn 2 0 (jl h)))
    exact Wp.exit (jv h)
   intro v2 h E hE;exact AY hE (Au (gn 2 0 (jl h)))
  exact Wp.exit (jv h)
 intro v3 h E hE;exact AY hE (ws (gn 2 2 (Wp.ret (rr h▸rq))))
def wQ (z1:Bool):St:=AA [(2,(B z1))] []
def wP (xR:C3) (z2:Bool):St:=AA [(1,(pb 1)),(32,(B z2))] [(.box 1,[i6 xR.Kind,i6 xR.Vol,i6 xR.Arg,i6 xR.Chunk])]
theorem AA9 (xR:C3) (r:Bool) (h:Wu xR=some r):AP Tryz.prog 185 [.sv (.agg (Un xR))] (B r) (rg 1):=by
 refine gk Tryz.func185 rfl Tryz.ntmps185 (ws (gn 2 0 (Wp.seq (ws (gn 3 0 (wc h (λh=>?_) (λh=>?_)))))))
 ·refine Fp h [2] [] (λa=>(wQ a)) (λa h=>?_) (λj1 h=>?_)
  ·refine Au (Ai 4 0 (AM 9 h (λh=>?_) (λh=>?_)))
   ·refine Ai 2 0 (RW.c 0 h (Fx _ _ _) (λv1 gv1 h=>Ai 2 0 (AM 14 h (λh=>?_) (λh=>?_))))
    ·exact gn 5 0 (jn h)
    exact gn 5 0 (jn h)
   exact gn 10 0 (jn h)
  exact Wp.ret (rr h▸rq)
 refine Wp.skip (Wp.seq (Fp h [1,32] [.box 1] (λa=>(wP xR a)) (λa h=>?_) (λj2 h=>?_)))
 ·refine Au (Ai 2 0 (RW.c 0 h (Fx _ _ _) (λv2 gv2 h=>Ai 2 0 (AM 23 h (λh=>?_) (λh=>?_)))))
  ·exact gn 9 0 (jn h)
  refine Ai 4 0 (AM 27 h (λh=>?_) (λh=>?_))
  ·exact gn 5 0 (jn h)
  exact gn 5 0 (jn h)
 refine wc h (λh=>?_) (λh=>?_)
 ·exact ws (gn 1 0 (Wp.ret (rr h▸rq)))
 refine Wp.skip (Wp.seq (ws (gn 2 0 (Wp.block (ws (gn 2 0 (wc h (λh=>?_) (λh=>?_))))))))
 ·exact ws (Ai 2 0 (RW.c 0 h (Fx _ _ _) (λv3 gv3 h=>gn 1 0 (Wp.ret (rr h▸rq)))))
 refine ws (gn 2 0 (wc h (λh=>?_) (λh=>?_)))
 ·exact ws (gn 4 0 (Wp.ret (rr h▸rq)))
 refine ws (gn 2 0 (wc h (λh=>?_) (λh=>?_)))
 ·refine ws (Ai 2 0 (RW.c 0 h (Fx _ _ _) (λv4 gv4 h=>Ai 1 0 (AM 50 h (λh=>?_) (λh=>?_)))))
  ·exact Ai 2 0 (RW.c 0 h (Fx _ _ _) (λv5 gv5 h=>gn 2 0 (Wp.ret (rr h▸rq))))
  exact gn 5 0 (Wp.ret (rr h▸rq))
 refine ws (gn 2 0 (wc h (λh=>?_) (λh=>?_)))
 ·exact ws (Ai 2 0 (RW.c 0 h (Fx _ _ _) (λv6 gv6 h=>gn 1 0 (Wp.ret (rr h▸rq)))))
 exact Wp.skip (ws (gn 1 0 (Wp.ret (rr h▸rq))))
theorem rX (xR:C3) (r:ByteArray×Bool) (h:QX xR=some r):AP Tryz.prog 145 [.sv (.agg (Un xR))] (.tup [(Y r.1),(B r.2)]) (rg 1):=by
 refine gk Tryz.func145 rfl Tryz.ntmps145 (ws (gn 3 0 (Wp.seq (ws (Ai 1 0 (RW.c 0 h (AA9 _) (λv1 gv1 h=>gn 1 0 (wc h (λh=>?_) (λh=>?_)))))))))
 ·exact ws (gn 2 0 (Wp.ret (rr h▸rq)))
 refine Wp.skip (Wp.seq (DM [] mixed (λ_ _=>nP) (Bn [0,1,2,3,4,5,6,9,10,13,14] 0 (Dq 7 11 ?_ ?_))))
 ·exact KB.o false (KW.q 8 (tW (f:=c5) (λ_=>rfl) [(IntKind.u8.wrap (ad (ml 16 xR.Kind) xR.Vol))]) (Br 11 (KB.c 0 h (Du _) (λv2 gv2 h=>bd h λx1 gx1 h=>KW.q 12 (Fj gx1) (Br 15 (KB.c 0 h (Du _) (λv3 gv3 h=>bd h λx2 gx2 h=>KW.q 16 (Fj gx2) (Bn [17,18] 0 (Bg (Wp.ret (rr h▸rq)))))))))))
 refine KB.c 0 h (Du _) (λv4 gv4 h=>Dq 7 15 ?_ ?_)
 ·exact KB.o false (KW.q 8 (tW (f:=c5) (λ_=>rfl) [(IntKind.u8.wrap (ad (ml 16 xR.Kind) xR.Vol))]) (bd h λx3 gx3 h=>KW.q 12 (Fj gx3) (Br 15 (KB.c 0 h (Du _) (λv5 gv5 h=>bd h λx4 gx4 h=>KW.q 16 (Fj gx4) (Bn [17,18] 0 (Bg (Wp.ret (rr h▸rq)))))))))
 replace h:=AG4 (show((Ef xR.Chunk).bind λv6=>(HU (E9 [(IntKind.u8.wrap (ad (ml 16 xR.Kind) xR.Vol))]) v4).bind λx5=>(HU x5 v6).bind λx6=>some (x6,true))=((HU (E9 [(IntKind.u8.wrap (ad (ml 16 xR.Kind) xR.Vol))]) v4).bind λx3=>(Ef xR.Chunk).bind λv5=>(HU x3 v5).bind λx4=>some (x4,true))from AEs λz=>by simp only [Ar];exact⟨λ⟨v6,k0,x5,k1,x6,k2,z⟩=>⟨_,k1,_,k0,_,k2,z⟩,λ⟨x3,k0,v5,k1,x4,k2,z⟩=>⟨_,k1,_,k0,_,k2,z⟩⟩) h;exact KB.c 0 h (Du _) (λv6 gv6 h=>Bn [7] 0 (KW.q 8 (tW (f:=c5) (λ_=>rfl) [(IntKind.u8.wrap (ad (ml 16 xR.Kind) xR.Vol))]) (bd h λx5 gx5 h=>KW.q 12 (Fj gx5) (bd h λx6 gx6 h=>KW.q 16 (Fj gx6) (Bn [17,18] 0 (Bg (Wp.ret (rr h▸rq))))))))
def lC (b:Int) (c:Int) (a:List C3) (z1:List ByteArray) (z2:Int):St:=AA [(0,(I b)),(1,(I c)),(8,(.one (ot9 z1))),(19,(.one (NZ a))),(20,(I (ln a))),(21,(I z2))] []
def lB (a:Int) (b:Int) (z3:List ByteArray):St:=AA [(0,(I a)),(1,(I b)),(8,(.one (ot9 z3)))] []
def lA (b:Int) (c:Int) (a:List C3) (y1:Int) (v1:ByteArray×Bool) (z4:List ByteArray) (z5:Int):St:=AA [(0,(I b)),(1,(I c)),(8,(.one (ot9 z4))),(11,(Y v1.1)),(13,(I z5)),(19,(.one (NZ a))),(20,(I (ln a))),(21,(I y1))] []
def kZ (a:Int) (b:Int) (v2:List ByteArray) (z6:Bool):St:=AA [(0,(I a)),(1,(I b)),(8,(.one (ot9 v2))),(14,(I (ln v2))),(73,(B z6))] []
def kY (a:Int) (b:Int) (v2:List ByteArray) (z7:List Page) (z8:Int):St:=AA [(0,(I a)),(1,(I b)),(8,(.one (ot9 v2))),(14,(I (ln v2))),(15,(.one (TS z7))),(74,(.one (.view (.slot 8) 0 [] 0))),(75,(I (ln v2))),(76,(I z8))] []
def kX (z9:List Page):St:=AA [(15,(.one (TS z9)))] []
theorem rU (d:Int) (f:Int) (b:List C3) (r:List Page×Bool) (h:Oh d f b=some r):AP Tryz.prog 79 [.sv (I d),.sv (I f),.sv (.one (NZ b))] (.tup [(.one (TS r.1)),(B r.2)]) (rg 3):=by
 refine gk Tryz.func79 rfl Tryz.ntmps79 (ws (gw 2 0 (gn 2 2 (Wp.seq (ws (Ai 1 0 (RW.q (CT I7 b) (gn 1 0 (Er h [0,1,8,19,20,21] [] (λs=>(lC d f b s.1 s.2)) [0,1,8] [] (λs=>(lB d f s)) Eu ?_ ?_)))))))))
 ·rintro⟨e,y1⟩ o (h:Iu b e y1=some o) hk1;refine ws (gn 1 0 (Wp.seq (wc h (λh=>?_) (λh=>?_))))
  ·refine Wp.skip (Wp.seq (Wp.block (ws (CG I7 h (λx1 gx1 h=>RW.q (MW I7 gx1 0 4) (gw 2 0 (Ai 1 0 (RW.c 0 h (rX _) (λv1 gv1 h=>gn 5 1 (Wp.seq (ws (gn 2 0 (wc h (λh=>?_) (λh=>?_))))))))))))))
   ·exact ws (gn 2 0 (Wp.ret (rr (jo h hk1)▸rq)))
   refine Wp.skip (ws (Ai 1 0 (RW.q (CT k9 e) (gn 2 0 (Wp.seq (ws (Ai 2 0 (CG k9 h (λx2 gx2 h=>RW.q (CK k9 gx2 0) (gn 5 0 (Hc h [0,1,8,11,13,19,20,21] [] (λa=>(lA d f b y1 v1 a.1 a.2)) ?_ ?_)))))))))))
   ·intro a h;refine wc h (λh=>?_) (λh=>?_)
    ·exact ws (Ai 2 0 (bd h λq1 gq1 h=>CM (Dm k9 (λ_=>rfl) e gq1) (gn 1 1 (Au (gn 3 0 (jn h))))))
    exact Wp.skip (jn h)
   intro j1 h E hE;exact AY hE (Au (Ai 2 0 (CG k9 h (λx3 gx3 h=>RW.q (CK k9 gx3 0) (Ai 1 0 (bd h λx4 gx4 h=>RW.q (Fj gx4) (CG k9 h (λx5 gx5 h=>CM (MY k9 gx5 0 0 x4) (RW.nil (Au (gn 2 0 (jl h))))))))))))
  exact Wp.exit (jx h)
 intro v2 h E hE;refine AY hE (ws (Ai 1 0 (RW.q (CT k9 v2) (gn 1 0 (Wp.seq (Fp h [0,1,8,14,73] [] (λa=>(kZ d f v2 a)) (λa h=>?_) (λj2 h=>?_)))))))
 ·refine Au (Ai 3 0 (AM 61 h (λh=>?_) (λh=>?_)))
  ·exact gn 12 0 (jn h)
  refine Ai 4 0 (RW.c 0 h (Fx _ _ _) (λv3 gv3 h=>Ai 3 0 (AM 69 h (λh=>?_) (λh=>?_))))
  ·exact gn 4 0 (jn h)
  exact Ai 1 0 (RW.c 0 h (Fx _ _ _) (λv4 gv4 h=>gn 2 0 (jn h)))
 refine wc h (λh=>?_) (λh=>?_)
 ·exact ws (gn 2 0 (Wp.ret (rr h▸rq)))
 refine Wp.skip (ws (gn 1 0 (Wp.seq (ws (Ai 1 0 (RW.q (CT k9 v2) (gn 1 0 (BM h [0,1,8,14,15,74,75,76] [] (λs=>(kY d f v2 s.1 s.2)) [15] [] (λs=>(kX s)) Eu ?_ ?_))))))))
 ·rintro⟨g,y2⟩ o (h:JM d f v2 g y2=some o);refine ws (gn 1 0 (Wp.seq (wc h (λh=>?_) (λh=>?_))))
  ·exact Wp.skip (Wp.seq (Wp.block (ws (Ai 1 0 (CG k9 h (λx6 gx6 h=>RW.q (CK k9 gx6 0) (gn 2 0 (Au (Ai 10 0 (bd h λq2 gq2 h=>CM (Dm k65 (λ_=>rfl) g gq2) (gn 1 1 (Au (gn 2 0 (jl h))))))))))))))
  exact Wp.exit (jv h)
 intro v5 h E hE;exact AY hE (ws (gn 3 2 (Wp.ret (rr h▸rq))))
def VV (xD:AE) (a:List C3) (z1:Int) (z2:List Block) (z3:List Bi):St:=AA [(1,(.one (NZ a))),(3,(pb 3)),(8,(pb 21)),(9,(I z1))] [(.box 3,[BL xD.Flash.Blocks,DN xD.Store.Vols,BP xD.Store.Arena.Knots,i6 xD.Store.Next,i6 xD.Seq,i6 xD.Tx,i6 xD.Base]),(.box 21,[BL z2,FB z3])]
def VU (v2:List Page×Bool) (z4:Bool) (z5:Int) (z6:List Block) (z7:List Bi):St:=AA [(8,(pb 21)),(11,(.one (TS v2.1))),(12,(B z4)),(50,(.one (.view (.slot 11) 0 [] 0))),(51,(I (ln v2.1))),(52,(I z5))] [(.box 21,[BL z6,FB z7])]
def VT (z8:Bool) (z9:List Block) (z10:List Bi):St:=AA [(8,(pb 21)),(12,(B z8))] [(.box 21,[BL z9,FB z10])]
set_option maxHeartbeats 4000000 in
theorem Y7 (xD:AE) (b:List C3) (d:ByteArray) (r:List Bi×Bool) (h:LZ xD b d=some r):AP Tryz.prog 37 [.sv (.agg (Sl false xD)),.sv (.one (NZ b)),.sv (Y d)] (.tup [(.one (FB r.1)),(B r.2)]) (rg 3):=by
 refine gk Tryz.func37 rfl Tryz.ntmps37 (ws (gn 3 0 (Wp.seq (ws (Ai 1 0 (RW.q (CT I7 b) (gn 1 0 (wc h (λh=>?_) (λh=>?_)))))))))
 ·exact ws (gn 2 0 (Wp.ret (rr h▸rq)))
 refine Wp.skip (ws (gw 5 0 (gn 3 0 (Wp.seq (ws (gn 2 0 (AAp h [1,3,8,9] [.box 3,.box 21] (λa=>(VV xD b a.1 a.2.1 a.2.2)) ?_ ?_)))))))
 ·intro a h f;refine wc h (λh=>?_) (λh=>?_)
  ·refine ws (Ai 3 0 (RW.q (CT I7 b) (Ai 1 0 (CG I7 h (λx1 gx1 h=>RW.q (DH I7 gx1 0 3) (RW.q (CK I7 gx1 3) (gn 4 0 (Wp.seq (ws (Ai 2 0 (F5 h (JL _ _ _) (λ_=>rfl) (λv1 gv1 h=>gn 1 0 (wc h (λh=>?_) (λh=>?_))))))))))))))
   ·exact ws (gn 2 0 (Wp.ret (rr (jr h f)▸rq)))
   exact Wp.skip (Au (gn 3 0 (jm h)))
  exact Wp.skip (jm h)
 intro j1 h E hE;refine AY hE (ws (Ai 4 0 (RW.c 0 h (rU _ _ _) (λv2 gv2 h=>gn 5 9 (Wp.seq (ws (Ai 1 0 (RW.q (CT k65 v2.1) (gn 1 0 (BM h [8,11,12,50,51,52] [.box 21] (λs=>(VU v2 s.1 s.2.1 s.2.2.1 s.2.2.2)) [8,12] [.box 21] (λs=>(VT s.1 s.2.1 s.2.2)) Eu ?_ ?_))))))))))
 ·rintro⟨e,y1,y01,y11⟩ o (h:C9 v2 e y1 y01 y11=some o);refine ws (gn 1 0 (Wp.seq (wc h (λh=>?_) (λh=>?_))))
  ·refine Wp.skip (Wp.seq (Wp.block (ws (CG k65 h (λx2 gx2 h=>RW.q (MW k65 gx2 0 6) (gn 2 0 (Au (Ai 2 0 (AM 57 h (λh=>?_) (λh=>?_))))))))))
   ·exact Ai 2 0 (F5 h (JL _ _ _) (λ_=>rfl) (λv3 gv3 h=>gn 2 0 (Au (gn 2 0 (jl h)))))
   exact gn 5 0 (Au (gn 2 0 (jl h)))
  exact Wp.exit (jv h)
 intro v4 h E hE;refine AY hE (Wp.seq (ws (gn 2 0 (wc h (λh=>?_) (λh=>?_)))))
 ·exact ws (gn 2 0 (Wp.ret (rr h▸rq)))
 exact Wp.skip (ws (gn 6 16 (Wp.ret (rr h▸rq))))
theorem bY (xD:AE) (r:List Bi×Bool) (h:Nz xD=some r):AP Tryz.prog 12 [.sv (.agg (Sl false xD))] (.tup [(.one (FB r.1)),(B r.2)]) (rg 1):=by
 exact gk Tryz.func12 rfl Tryz.ntmps12 (ws (gn 3 0 (Wp.seq (DM [] mixed (λ_ _=>nP) (Bn [0,1,2] 0 (Br 3 (KB.c 0 h (mH _) (λv1 gv1 h=>Br 4 (KB.c 0 h (gs (ca rfl (ca (co (cs (zE _))) rfl)) (Y7 _ _ _)) (λv2 gv2 h=>IY 5 (IY 6 (Bn [7,8] 0 (Bg (Wp.ret (rr h▸rq)))))) (hc:=(.inr (λv=>by simp [BD,BQ,AR,BC,ADR,FB]))))))))))))
def bW (a:Int) (xB:Int) (v2:List Al) (z1:Int) (z2:Int):St:=AA [(2,(I a)),(3,(I xB)),(9,(I z1)),(18,(.one (GT v2))),(19,(I (ln v2))),(20,(I z2))] []
def bV (z3:Int):St:=AA [(9,(I z3))] []
def bU (a:Int) (xB:Int) (v2:List Al) (b:Int) (y1:Int) (z4:Bool):St:=AA [(2,(I a)),(3,(I xB)),(9,(I b)),(18,(.one (GT v2))),(19,(I (ln v2))),(20,(I y1)),(40,(B z4))] []
theorem Tf (xF:Flash) (xS:Store) (b:Int) (xB:Int) (r:Int) (h:K6 xF xS b xB=some r):AP Tryz.prog 15 [.sv (.agg (NK false xF)),.sv (.agg (Sm false xS)),.sv (I b),.sv (I xB)] (I r) (rg 4):=by
 refine gk Tryz.func15 rfl Tryz.ntmps15 (ws (gw 3 0 (Ai 3 0 (RW.c 0 h (eK _ _ _) (λv1 gv1 h=>RW.q (CT Et v1) (gn 1 0 (Wp.seq (ws (Ai 1 0 (RW.c 0 h (UT _) (λv2 gv2 h=>RW.q (CT Et v2) (gn 1 0 (BM h [2,3,9,18,19,20] [] (λs=>(bW b xB v2 s.1 s.2)) [9] [] (λs=>(bV s)) Eu ?_ ?_)))))))))))))
 ·rintro⟨d,y1⟩ o (h:IG b xB v2 d y1=some o);refine ws (gn 1 0 (Wp.seq (wc h (λh=>?_) (λh=>?_))))
  ·refine Wp.skip (Wp.seq (Wp.block (ws (CG Et h (λx1 gx1 h=>RW.q (MW Et gx1 0 8) (gn 2 0 (Fp h [2,3,9,18,19,20,40] [] (λa=>(bU b xB v2 d y1 a)) (λa h=>?_) (λj1 h=>?_))))))))
   ·refine Au (Ai 5 0 (AM 28 h (λh=>?_) (λh=>?_)))
    ·refine Ai 6 0 (AM 34 h (λh=>?_) (λh=>?_))
     ·exact gn 6 0 (jn h)
     exact gn 6 0 (jn h)
    exact gn 12 0 (jn h)
   refine wc h (λh=>?_) (λh=>?_)
   ·exact Au (gn 3 0 (Au (gn 2 0 (jl h))))
   exact Wp.skip (Au (gn 2 0 (jl h)))
  exact Wp.exit (jv h)
 intro v3 h E hE;exact AY hE (ws (gn 2 0 (Wp.ret (rr h▸rq))))
def WE (v2:AE) (x2:Int) (v4:List Bi×Bool) (z1:Bool):St:=AA [(3,(pb 3)),(4,(I x2)),(5,(.one (FB v4.1))),(6,(B v4.2)),(47,(B z1))] [(.box 3,[BL v2.Flash.Blocks,DN v2.Store.Vols,BP v2.Store.Arena.Knots,i6 v2.Store.Next,i6 v2.Seq,i6 v2.Tx,i6 v2.Base])]
theorem Zx (b:List Int) (r:Bool) (h:KV b=some r):AP Tryz.prog 3 [.sv (.one (PE b))] (B r) (rg 1):=by
 refine gk Tryz.func3 rfl Tryz.ntmps3 (ws (gn 1 0 (Wp.seq (ws (Ai 1 0 (RW.c 0 h (ADt _) (λv1 gv1 h=>RW.nil (wc h (λh=>?_) (λh=>?_)))))))))
 ·exact ws (gn 1 0 (Wp.ret (rr h▸rq)))
 refine Wp.skip (ws (Ai 1 0 (RW.c 0 h (XS _) (λv2 gv2 h=>gn 2 0 (Wp.seq (DM [] mixed (λ_ _=>nP) (Bn [0,4,5,6] 0 (KW.q 7 (CT (BF false) v2.Flash.Blocks) (Br 1 (KB.c 0 h (XR _) (λv3 gv3 h=>bd h λx1 gx1 h=>KW.q 2 (Js k3 gx1) (KW.q 3 (CK k3 gx1 0) (bd h λx2 gx2 h=>KW.q 8 (prm gx2) (Bn [9] 0 (Bg (ws (Ai 2 0 (RW.c 0 h (bX _ _) (λv4 gv4 h=>gw 5 9 (Ai 2 0 (RW.c 0 h (Ry _ _) (λv5 gv5 h=>gn 5 9 (Wp.seq (Fp h [3,4,5,6,47] [.box 3] (λa=>(WE v2 x2 v4 a)) (λa h=>?_) (λj1 h=>?_)))))))))))))))))))))))))
 ·refine Au (Ai 4 0 (AM 42 h (λh=>?_) (λh=>?_)))
  ·exact gn 5 0 (jn h)
  exact Ai 2 0 (RW.c 0 h (gs (ca (co (cs (ABO _))) (ca (co (cs (ABO _))) rfl)) (Zw _ _)) (λv6 gv6 h=>gn 2 0 (jn h)) (hc:=(.inr (λv=>rfl))))
 refine wc h (λh=>?_) (λh=>?_)
 ·exact ws (gn 1 0 (Wp.ret (rr h▸rq)))
 refine Wp.skip (Wp.seq (ws (gn 2 0 (wc h (λh=>?_) (λh=>?_)))))
 ·exact ws (Ai 1 0 (RW.q (CT QU v4.1) (gn 2 0 (Wp.ret (rr h▸rq)))))
 refine Wp.skip (ws (Ai 2 0 (RW.c 0 h (gs (ca rfl (ca (co (cs (ABO _))) rfl)) (OF _ _)) (λv7 gv7 h=>gw 2 0 (Ai 1 0 (RW.c 0 h (bY _) (λv8 gv8 h=>gw 5 9 (Ai 1 0 (RW.c 0 h (Rz _) (λv9 gv9 h=>gw 5 9 (Ai 4 0 (AM 69 h (λh=>?_) (λh=>?_)))))))))) (hc:=(.inr (λv=>by simp [BD,BQ,AR,BC,Yi,Yj,Lo,Dp,C0,Bw,Sl]))))))
 ·refine Ai 4 0 (RW.c 0 h (gs (ca (cC (ca (cs (Fq _)) (ca (cs (Dn _)) rfl))) rfl) (Rx _ _)) (λv10 gv10 h=>Ai 2 0 (AM 76 h (λh=>?_) (λh=>?_))) (hc:=(.inr (λv=>rfl))))
  ·refine Ai 5 0 (RW.c 0 h (gs (ca (cC (ca (cs (Dh _)) rfl)) (ca (cC (ca (cs (Fq _)) (ca (cs (Dn _)) rfl))) rfl)) (Tf _ _ _ _)) (λv11 gv11 h=>Ai 3 0 (AM 85 h (λh=>?_) (λh=>?_))) (hc:=(.inr (λv=>rfl))))
   ·refine Ai 1 0 (RW.q (CT QU v4.1) (Ai 5 0 (RW.c 0 h (Tf _ _ _ _) (λv12 gv12 h=>Ai 3 0 (AM 96 h (λh=>?_) (λh=>?_))))))
    ·refine Ai 3 0 (AM 99 h (λh=>?_) (λh=>?_))
     ·exact gn 6 0 (Wp.ret (rr h▸rq))
     exact Ai 1 0 (RW.q (CT QU v8.1) (gn 4 0 (Wp.ret (rr h▸rq))))
    exact gn 9 0 (Wp.ret (rr h▸rq))
   exact gn 20 0 (Wp.ret (rr h▸rq))
  exact gn 29 0 (Wp.ret (rr h▸rq))
 exact gn 36 0 (Wp.ret (rr h▸rq))
end Go.TI
