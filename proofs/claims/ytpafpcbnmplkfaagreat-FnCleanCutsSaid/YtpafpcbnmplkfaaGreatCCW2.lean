/- That they compute it. No condition. -/
import Derived.Test.YtpafpcbnmplkfaaGreatCCW1
set_option maxHeartbeats 4000000
set_option linter.unusedVariables false
set_option linter.unusedSimpArgs false
namespace Go.TI
open Go Go.Proofs
set_option maxRecDepth 100000
theorem pA (xP:Page) (r:ByteArray×Bool) (h:Pq xP=some r):AM Tryz.prog 70 [.sv (.agg (c65 xP))] (.tup [(Y r.1),(B r.2)]) (rg 1):=by
 refine gk Tryz.func70 rfl Tryz.ntmps70 (ws (gn 3 0 (Wp.seq (ws (Ah 1 0 (RW.c 0 h (Z8 _) (λv1 gv1 h=>gn 1 0 (wc h (λh=>?_) (λh=>?_)))))))))
 ·exact ws (gn 2 0 (Wp.ret (rr h▸rq)))
 refine Wp.skip (Wp.seq (Dr [] mixed (λ_ _=>nP) (Bf [0,1,2,5,6,9,10,13,14,17,18,21,22] 0 (Dj 3 7 ?_ ?_))))
 ·exact KB.o false (KW.q 4 (xO (f:=c5) (λ_=>rfl) [(IntKind.u8.wrap xP.Kind)]) (Bp 7 (KB.c 0 h (D1 _) (λv2 gv2 h=>bd h λx1 gx1 h=>KW.q 8 (Ff gx1) (Bp 11 (KB.c 0 h (D1 _) (λv3 gv3 h=>bd h λx2 gx2 h=>KW.q 12 (Ff gx2) (Bp 15 (KB.c 0 h (D1 _) (λv4 gv4 h=>bd h λx3 gx3 h=>KW.q 16 (Ff gx3) (Bp 19 (KB.c 0 h (D1 _) (λv5 gv5 h=>bd h λx4 gx4 h=>KW.q 20 (Ff gx4) (bd h λx5 gx5 h=>KW.q 23 (Ff gx5) (Bp 24 (KB.c 0 h (KF _) (λv6 gv6 h=>Hs 25 (Hs 26 (Bf [27,28] 0 (Bc (Wp.ret (rr h▸rq))))))))))))))))))))))
 refine KB.c 0 h (D1 _) (λv7 gv7 h=>Dj 3 11 ?_ ?_)
 ·exact KB.o false (KW.q 4 (xO (f:=c5) (λ_=>rfl) [(IntKind.u8.wrap xP.Kind)]) (bd h λx6 gx6 h=>KW.q 8 (Ff gx6) (Bp 11 (KB.c 0 h (D1 _) (λv8 gv8 h=>bd h λx7 gx7 h=>KW.q 12 (Ff gx7) (Bp 15 (KB.c 0 h (D1 _) (λv9 gv9 h=>bd h λx8 gx8 h=>KW.q 16 (Ff gx8) (Bp 19 (KB.c 0 h (D1 _) (λv10 gv10 h=>bd h λx9 gx9 h=>KW.q 20 (Ff gx9) (bd h λx10 gx10 h=>KW.q 23 (Ff gx10) (Bp 24 (KB.c 0 h (KF _) (λv11 gv11 h=>Hs 25 (Hs 26 (Bf [27,28] 0 (Bc (Wp.ret (rr h▸rq))))))))))))))))))))
 replace h:=AIT (show((Em xP.Tx).bind λv12=>(HH (EI [(IntKind.u8.wrap xP.Kind)]) v7).bind λx11=>(HH x11 v12).bind λx12=>(Em xP.Part).bind λv13=>(HH x12 v13).bind λx13=>(Em xP.Count).bind λv14=>(HH x13 v14).bind λx14=>(HH x14 xP.Text).bind λx15=>(HZ x15).bind λv15=>some (v15.1,v15.2))=((HH (EI [(IntKind.u8.wrap xP.Kind)]) v7).bind λx6=>(Em xP.Tx).bind λv8=>(HH x6 v8).bind λx7=>(Em xP.Part).bind λv9=>(HH x7 v9).bind λx8=>(Em xP.Count).bind λv10=>(HH x8 v10).bind λx9=>(HH x9 xP.Text).bind λx10=>(HZ x10).bind λv11=>some (v11.1,v11.2))from AGg λz=>by simp only [Au];exact⟨λ⟨v12,k0,x11,k1,x12,k2,v13,k3,x13,k4,v14,k5,x14,k6,x15,k7,v15,k8,z⟩=>⟨_,k1,_,k0,_,k2,_,k3,_,k4,_,k5,_,k6,_,k7,_,k8,z⟩,λ⟨x6,k0,v8,k1,x7,k2,v9,k3,x8,k4,v10,k5,x9,k6,x10,k7,v11,k8,z⟩=>⟨_,k1,_,k0,_,k2,_,k3,_,k4,_,k5,_,k6,_,k7,_,k8,z⟩⟩) h;refine KB.c 0 h (D1 _) (λv12 gv12 h=>Dj 3 15 ?_ ?_)
 ·exact KB.o false (KW.q 4 (xO (f:=c5) (λ_=>rfl) [(IntKind.u8.wrap xP.Kind)]) (bd h λx11 gx11 h=>KW.q 8 (Ff gx11) (bd h λx12 gx12 h=>KW.q 12 (Ff gx12) (Bp 15 (KB.c 0 h (D1 _) (λv13 gv13 h=>bd h λx13 gx13 h=>KW.q 16 (Ff gx13) (Bp 19 (KB.c 0 h (D1 _) (λv14 gv14 h=>bd h λx14 gx14 h=>KW.q 20 (Ff gx14) (bd h λx15 gx15 h=>KW.q 23 (Ff gx15) (Bp 24 (KB.c 0 h (KF _) (λv15 gv15 h=>Hs 25 (Hs 26 (Bf [27,28] 0 (Bc (Wp.ret (rr h▸rq))))))))))))))))))
 replace h:=AIT (show((Em xP.Part).bind λv16=>(HH (EI [(IntKind.u8.wrap xP.Kind)]) v7).bind λx16=>(HH x16 v12).bind λx17=>(HH x17 v16).bind λx18=>(Em xP.Count).bind λv17=>(HH x18 v17).bind λx19=>(HH x19 xP.Text).bind λx20=>(HZ x20).bind λv18=>some (v18.1,v18.2))=((HH (EI [(IntKind.u8.wrap xP.Kind)]) v7).bind λx11=>(HH x11 v12).bind λx12=>(Em xP.Part).bind λv13=>(HH x12 v13).bind λx13=>(Em xP.Count).bind λv14=>(HH x13 v14).bind λx14=>(HH x14 xP.Text).bind λx15=>(HZ x15).bind λv15=>some (v15.1,v15.2))from AGg λz=>by simp only [Au];exact⟨λ⟨v16,k0,x16,k1,x17,k2,x18,k3,v17,k4,x19,k5,x20,k6,v18,k7,z⟩=>⟨_,k1,_,k2,_,k0,_,k3,_,k4,_,k5,_,k6,_,k7,z⟩,λ⟨x11,k0,x12,k1,v13,k2,x13,k3,v14,k4,x14,k5,x15,k6,v15,k7,z⟩=>⟨_,k2,_,k0,_,k1,_,k3,_,k4,_,k5,_,k6,_,k7,z⟩⟩) h;refine KB.c 0 h (D1 _) (λv16 gv16 h=>Dj 3 19 ?_ ?_)
 ·exact KB.o false (KW.q 4 (xO (f:=c5) (λ_=>rfl) [(IntKind.u8.wrap xP.Kind)]) (bd h λx16 gx16 h=>KW.q 8 (Ff gx16) (bd h λx17 gx17 h=>KW.q 12 (Ff gx17) (bd h λx18 gx18 h=>KW.q 16 (Ff gx18) (Bp 19 (KB.c 0 h (D1 _) (λv17 gv17 h=>bd h λx19 gx19 h=>KW.q 20 (Ff gx19) (bd h λx20 gx20 h=>KW.q 23 (Ff gx20) (Bp 24 (KB.c 0 h (KF _) (λv18 gv18 h=>Hs 25 (Hs 26 (Bf [27,28] 0 (Bc (Wp.ret (rr h▸rq))))))))))))))))
 replace h:=AIT (show((Em xP.Count).bind λv19=>(HH (EI [(IntKind.u8.wrap xP.Kind)]) v7).bind λx21=>(HH x21 v12).bind λx22=>(HH x22 v16).bind λx23=>(HH x23 v19).bind λx24=>(HH x24 xP.Text).bind λx25=>(HZ x25).bind λv20=>some (v20.1,v20.2))=((HH (EI [(IntKind.u8.wrap xP.Kind)]) v7).bind λx16=>(HH x16 v12).bind λx17=>(HH x17 v16).bind λx18=>(Em xP.Count).bind λv17=>(HH x18 v17).bind λx19=>(HH x19 xP.Text).bind λx20=>(HZ x20).bind λv18=>some (v18.1,v18.2))from AGg λz=>by simp only [Au];exact⟨λ⟨v19,k0,x21,k1,x22,k2,x23,k3,x24,k4,x25,k5,v20,k6,z⟩=>⟨_,k1,_,k2,_,k3,_,k0,_,k4,_,k5,_,k6,z⟩,λ⟨x16,k0,x17,k1,x18,k2,v17,k3,x19,k4,x20,k5,v18,k6,z⟩=>⟨_,k3,_,k0,_,k1,_,k2,_,k4,_,k5,_,k6,z⟩⟩) h;exact KB.c 0 h (D1 _) (λv19 gv19 h=>Bf [3] 0 (KW.q 4 (xO (f:=c5) (λ_=>rfl) [(IntKind.u8.wrap xP.Kind)]) (bd h λx21 gx21 h=>KW.q 8 (Ff gx21) (bd h λx22 gx22 h=>KW.q 12 (Ff gx22) (bd h λx23 gx23 h=>KW.q 16 (Ff gx23) (bd h λx24 gx24 h=>KW.q 20 (Ff gx24) (bd h λx25 gx25 h=>KW.q 23 (Ff gx25) (Bp 24 (KB.c 0 h (KF _) (λv20 gv20 h=>Hs 25 (Hs 26 (Bf [27,28] 0 (Bc (Wp.ret (rr h▸rq)))))))))))))))
theorem AAq (xX:Leaf) (r:Bool) (h:uT xX=some r):AM Tryz.prog 178 [.sv (.agg (qA xX))] (B r) (rg 1):=by
 refine gk Tryz.func178 rfl Tryz.ntmps178 (ws (gn 2 0 (Wp.seq (ws (gn 2 0 (Wp.block (ws (gn 2 0 (wc h (λh=>?_) (λh=>?_))))))))))
 ·exact ws (gn 4 0 (Wp.ret (rr h▸rq)))
 refine ws (gn 2 0 (wc h (λh=>?_) (λh=>?_)))
 ·exact ws (Ah 3 0 (RW.c 0 h (FB _ _ _) (λv1 gv1 h=>gn 1 0 (Wp.ret (rr h▸rq)))))
 refine Wp.skip (ws (Ah 4 0 (AK 19 h (λh=>?_) (λh=>?_))))
 ·exact gn 6 0 (Wp.ret (rr h▸rq))
 exact gn 6 0 (Wp.ret (rr h▸rq))
def pG (xF:Flash) (z1:Int):St:=A7 [(1,(pb 1)),(8,(.one (Bz xF.Blocks))),(9,(I (ln xF.Blocks))),(10,(I z1))] [(.box 1,[Bz xF.Blocks])]
def pF (xF:Flash):St:=A7 [(1,(pb 1))] [(.box 1,[Bz xF.Blocks])]
def pE (xF:Flash) (y1:Int) (x1:Block) (z2:Bool):St:=A7 [(1,(pb 1)),(4,(pb 4)),(8,(.one (Bz xF.Blocks))),(9,(I (ln xF.Blocks))),(10,(I y1)),(23,(B z2))] [(.box 1,[Bz xF.Blocks]),(.box 4,[tb x1.Bad,i6 x1.Wear,Ny x1.Leaves])]
def pD (xF:Flash) (y1:Int) (x1:Block) (z3:Int):St:=A7 [(1,(pb 1)),(4,(pb 4)),(8,(.one (Bz xF.Blocks))),(9,(I (ln xF.Blocks))),(10,(I y1)),(25,(.one (Ny x1.Leaves))),(26,(I (ln x1.Leaves))),(27,(I z3))] [(.box 1,[Bz xF.Blocks]),(.box 4,[tb x1.Bad,i6 x1.Wear,Ny x1.Leaves])]
def pC (xF:Flash) (y1:Int):St:=A7 [(1,(pb 1)),(8,(.one (Bz xF.Blocks))),(9,(I (ln xF.Blocks))),(10,(I y1))] [(.box 1,[Bz xF.Blocks])]
def pB (xF:Flash) (y1:Int) (x1:Block) (y2:Int) (z4:Bool):St:=A7 [(1,(pb 1)),(4,(pb 4)),(8,(.one (Bz xF.Blocks))),(9,(I (ln xF.Blocks))),(10,(I y1)),(25,(.one (Ny x1.Leaves))),(26,(I (ln x1.Leaves))),(27,(I y2)),(53,(B z4))] [(.box 1,[Bz xF.Blocks]),(.box 4,[tb x1.Bad,i6 x1.Wear,Ny x1.Leaves])]
theorem We (xF:Flash) (r:Bool) (h:On xF=some r):AM Tryz.prog 129 [.sv (.agg (LH false xF))] (B r) (rg 1):=by
 refine gk Tryz.func129 rfl Tryz.ntmps129 (ws (gn 2 0 (Wp.seq (ws (Ah 2 0 (RW.q (CR (B5 false) xF.Blocks) (gn 1 0 (DA h [1,8,9,10] [.box 1] (λs=>(pG xF s)) [1] [.box 1] (λ_=>(pF xF)) DM ?_ ?_))))))))
 ·rintro y1 o (h:Mf xF y1=some o) hk1;refine ws (gn 1 0 (Wp.seq (wc h (λh=>?_) (λh=>?_))))
  ·refine Wp.skip (Wp.seq (Wp.block (ws (C9 (B5 false) h (λx1 gx1 h=>RW.q (L9 (B5 false) gx1 0 3) (gn 2 0 (Wp.seq (EA h [1,4,8,9,10,23] [.box 1,.box 4] (λa=>(pE xF y1 x1 a)) (λa h=>?_) (λj1 h=>?_)))))))))
   ·refine Ap (Ah 2 0 (RW.q (CR Dw x1.Leaves) (Ah 2 0 (AK 18 h (λh=>?_) (λh=>?_)))))
    ·exact gn 5 0 (jn h)
    exact Ah 2 0 (RW.c 0 h (FB _ _ _) (λv1 gv1 h=>gn 2 0 (jn h)))
   refine wc h (λh=>?_) (λh=>?_)
   ·exact ws (gn 1 0 (Wp.ret (rr (jo h hk1)▸rq)))
   refine Wp.skip (ws (Ah 2 0 (RW.q (CR Dw x1.Leaves) (gn 1 0 (DA h [1,4,8,9,10,25,26,27] [.box 1,.box 4] (λs=>(pD xF y1 x1 s)) [1,8,9,10] [.box 1] (λ_=>(pC xF y1)) DM ?_ ?_)))))
   ·rintro y2 o (h:Me x1 y2=some o) hk2;refine ws (gn 1 0 (Wp.seq (wc h (λh=>?_) (λh=>?_))))
    ·refine Wp.skip (Wp.seq (Wp.block (ws (Ah 1 0 (C9 Dw h (λx2 gx2 h=>RW.q (L9 Dw gx2 0 2) (gn 3 0 (EA h [1,4,8,9,10,25,26,27,53] [.box 1,.box 4] (λa=>(pB xF y1 x1 y2 a)) (λa h=>?_) (λj2 h=>?_)))))))))
     ·refine Ap (Ah 1 0 (RW.c 0 h (AAq _) (λv2 gv2 h=>Ah 2 0 (AK 35 h (λh=>?_) (λh=>?_)))))
      ·exact gn 18 0 (jn h)
      refine Ah 3 0 (AK 38 h (λh=>?_) (λh=>?_))
      ·refine Ah 4 0 (C9 Dw h (λx3 gx3 h=>RW.q (DB Dw gx3 0 0) (RW.q (CB Dw gx3 0) (Ah 3 0 (AK 48 h (λh=>?_) (λh=>?_))))))
       ·exact gn 5 0 (jn h)
       exact gn 5 0 (jn h)
      exact gn 15 0 (jn h)
     refine wc h (λh=>?_) (λh=>?_)
     ·exact ws (gn 1 0 (Wp.ret (rr (jo (jo h hk2) hk1)▸rq)))
     exact Wp.skip (Ap (gn 2 0 (jl h)))
    exact Wp.exit (jx h)
   intro v3 h E hE;exact AW hE (Ap (gn 2 0 (jl h)))
  exact Wp.exit (jx h)
 intro v4 h E hE;exact AW hE (ws (Ah 2 0 (RW.q (CR (B5 false) xF.Blocks) (RW.c 0 h (FB _ _ _) (λv5 gv5 h=>gn 1 0 (Wp.ret (rr h▸rq)))))))
def ZB (xF:Flash) (z1:Int):St:=A7 [(7,(.one (Bz xF.Blocks))),(8,(I (ln xF.Blocks))),(9,(I z1))] []
def ZA:St:=A7 [] []
def Z9 (xF:Flash) (y1:Int) (z2:Bool):St:=A7 [(3,(I y1)),(7,(.one (Bz xF.Blocks))),(8,(I (ln xF.Blocks))),(9,(I y1)),(29,(B z2))] []
theorem eP (xF:Flash) (r:Int) (h:N2 xF=some r):AM Tryz.prog 130 [.sv (.agg (LH false xF))] (I r) (rg 1):=by
 refine gk Tryz.func130 rfl Tryz.ntmps130 (ws (gn 2 0 (Wp.seq (ws (Ah 2 0 (RW.q (CR (B5 false) xF.Blocks) (gn 1 0 (DA h [7,8,9] [] (λs=>(ZB xF s)) [] [] (λ_=>ZA) DM ?_ ?_))))))))
 ·rintro y1 o (h:Ia xF y1=some o) hk1;refine ws (gn 1 0 (Wp.seq (wc h (λh=>?_) (λh=>?_))))
  ·refine Wp.skip (Wp.seq (Wp.block (ws (Ah 1 0 (C9 (B5 false) h (λx1 gx1 h=>RW.q (L9 (B5 false) gx1 0 3) (gw 3 0 (Ah 1 0 (RW.c 0 h (SF _) (λv1 gv1 h=>gn 1 0 (EA h [3,7,8,9,29] [] (λa=>(Z9 xF y1 a)) (λa h=>?_) (λj1 h=>?_))))))))))))
   ·refine Ap (Ah 4 0 (AK 19 h (λh=>?_) (λh=>?_)))
    ·refine Ah 4 0 (AK 23 h (λh=>?_) (λh=>?_))
     ·exact Ah 3 0 (RW.q (CR Dw x1.Leaves) (gn 2 0 (jn h)))
     exact gn 6 0 (jn h)
    exact gn 10 0 (jn h)
   refine wc h (λh=>?_) (λh=>?_)
   ·exact ws (gn 2 0 (Wp.ret (rr (jo h hk1)▸rq)))
   exact Wp.skip (Ap (gn 2 0 (jl h)))
  exact Wp.exit (jx h)
 intro v2 h E hE;exact AW hE (ws (gn 1 0 (Wp.ret (rr h▸rq))))
def ZD (xB:Block) (z1:Int):St:=A7 [(6,(.one (Ny xB.Leaves))),(7,(I (ln xB.Leaves))),(8,(I z1))] []
def ZC:St:=A7 [] []
theorem NL (xB:Block) (r:Int) (h:JB xB=some r):AM Tryz.prog 57 [.sv (.agg (Ut false xB))] (I r) (rg 1):=by
 refine gk Tryz.func57 rfl Tryz.ntmps57 (ws (gn 2 0 (Wp.seq (ws (Ah 2 0 (RW.q (CR Dw xB.Leaves) (gn 1 0 (DA h [6,7,8] [] (λs=>(ZD xB s)) [] [] (λ_=>ZC) DM ?_ ?_))))))))
 ·rintro y1 o (h:QP xB y1=some o) hk1;refine ws (gn 1 0 (Wp.seq (wc h (λh=>?_) (λh=>?_))))
  ·refine Wp.skip (Wp.seq (Wp.block (ws (Ah 1 0 (C9 Dw h (λx1 gx1 h=>RW.q (L9 Dw gx1 0 2) (gw 3 0 (gn 3 0 (wc h (λh=>?_) (λh=>?_))))))))))
   ·exact ws (gn 2 0 (Wp.ret (rr (jo h hk1)▸rq)))
   exact Wp.skip (Ap (gn 2 0 (jl h)))
  exact Wp.exit (jx h)
 intro v1 h E hE;exact AW hE (ws (gn 1 0 (Wp.ret (rr h▸rq))))
def Xh (xF:Flash) (z1:List Int) (z2:Int):St:=A7 [(3,(.one (Er z1))),(7,(.one (Bz xF.Blocks))),(8,(I (ln xF.Blocks))),(9,(I z2))] []
def Xg (z3:List Int):St:=A7 [(3,(.one (Er z3)))] []
def Xf (xF:Flash) (a:List Int) (y1:Int) (z4:Bool):St:=A7 [(3,(.one (Er a))),(4,(I y1)),(7,(.one (Bz xF.Blocks))),(8,(I (ln xF.Blocks))),(9,(I y1)),(24,(B z4))] []
theorem ZH (xF:Flash) (r:List Int) (h:Md xF=some r):AM Tryz.prog 131 [.sv (.agg (LH false xF))] (.one (Er r)) (rg 1):=by
 refine gk Tryz.func131 rfl Tryz.ntmps131 (ws (gw 2 0 (gn 1 0 (Wp.seq (ws (Ah 2 0 (RW.q (CR (B5 false) xF.Blocks) (gn 1 0 (BQ h [3,7,8,9] [] (λs=>(Xh xF s.1 s.2)) [3] [] (λs=>(Xg s)) DM ?_ ?_)))))))))
 ·rintro⟨b,y1⟩ o (h:Hp xF b y1=some o);refine ws (gn 1 0 (Wp.seq (wc h (λh=>?_) (λh=>?_))))
  ·refine Wp.skip (Wp.seq (Wp.block (ws (Ah 1 0 (C9 (B5 false) h (λx1 gx1 h=>RW.q (L9 (B5 false) gx1 0 3) (gn 3 0 (EA h [3,4,7,8,9,24] [] (λa=>(Xf xF b y1 a)) (λa h=>?_) (λj1 h=>?_)))))))))
   ·refine Dr [] mixed (λ_ _=>nP) (Bf [0,1,2,3] 0 (Sk 17 h (λh=>?_) (λh=>?_)))
    ·exact Bf [4,6,7] 0 (KW.q 8 (CR Dw x1.Leaves) (Bp 5 (KB.c 0 h (SF _) (λv1 gv1 h=>Bf [9,10] 0 (Bc (jn h))))))
    exact Bf [4,6,7,8,5,9,10] 0 (Bc (jn h))
   refine wc h (λh=>?_) (λh=>?_)
   ·exact Ap (Ah 3 0 (bd h λq1 gq1 h=>CI (Dk k3 (λ_=>rfl) b gq1) (gn 1 1 (Ap (gn 2 0 (jl h))))))
   exact Wp.skip (Ap (gn 2 0 (jl h)))
  exact Wp.exit (jv h)
 intro v2 h E hE;exact AW hE (ws (gn 2 2 (Wp.ret (rr h▸rq))))
def o9 (xF:Flash) (v4:List Int) (z1:Int) (z2:Int):St:=A7 [(1,(pb 1)),(6,(I z1)),(24,(.one (Er v4))),(25,(I (ln v4))),(26,(I z2))] [(.box 1,[Bz xF.Blocks])]
def o8 (z3:Int):St:=A7 [(6,(I z3))] []
theorem vE (xF:Flash) (r:Int×Int×Bool) (h:R4 xF=some r):AM Tryz.prog 71 [.sv (.agg (LH false xF))] (.tup [(I r.1),(I r.2.1),(B r.2.2)]) (rg 1):=by
 refine gk Tryz.func71 rfl Tryz.ntmps71 (ws (gn 4 0 (Wp.seq (ws (Ah 1 0 (RW.c 0 h (We _) (λv1 gv1 h=>gn 1 0 (wc h (λh=>?_) (λh=>?_)))))))))
 ·exact ws (gn 3 0 (Wp.ret (rr h▸rq)))
 refine Wp.skip (Wp.seq (ws (Ah 1 0 (RW.c 0 h (eP _) (λv2 gv2 h=>gw 1 0 (gn 2 0 (wc h (λh=>?_) (λh=>?_))))))))
 ·exact ws (Ah 4 0 (C9 (B5 false) h (λx1 gx1 h=>RW.q (L9 (B5 false) gx1 0 3) (RW.c 0 h (NL _) (λv3 gv3 h=>gn 3 0 (Wp.ret (rr h▸rq)))))))
 refine Wp.skip (ws (gn 1 0 (Wp.seq (ws (Ah 1 0 (RW.c 0 h (ZH _) (λv4 gv4 h=>RW.q (CR k3 v4) (gn 1 0 (BQ h [1,6,24,25,26] [.box 1] (λs=>(o9 xF v4 s.1 s.2)) [6] [] (λs=>(o8 s)) DM ?_ ?_)))))))))
 ·rintro⟨a,y1⟩ o (h:Gl xF v4 a y1=some o);refine ws (gn 1 0 (Wp.seq (wc h (λh=>?_) (λh=>?_))))
  ·refine Wp.skip (Wp.seq (Wp.block (ws (C9 k3 h (λx2 gx2 h=>RW.q (CB k3 gx2 0) (gn 1 0 (Wp.seq (Kt mixed (D3 3 (iX 32 h (λh=>?_) (λh=>?_)))))))))))
   ·exact D3 14 (SW.nil (wt (Ap (gn 2 0 (Ap (gn 2 0 (jl h)))))))
   refine D3 3 (bd h λx3 gx3 h=>SW.q (Iz (B5 false) gx3) (SW.q (DB (B5 false) gx3 0 1) (SW.q (CB (B5 false) gx3 1) (D3 3 (bd h λx4 gx4 h=>SW.q (Iz (B5 false) gx4) (SW.q (DB (B5 false) gx4 0 1) (SW.q (CB (B5 false) gx4 1) (D3 2 (SW.nil (wc h (λh=>?_) (λh=>?_)))))))))))
   ·exact Ap (gn 2 0 (Ap (gn 2 0 (jl h))))
   exact Wp.skip (Ap (gn 2 0 (jl h)))
  exact Wp.exit (jv h)
 intro v5 h E hE;refine AW hE (Wp.seq (ws (gn 2 0 (wc h (λh=>?_) (λh=>?_)))))
 ·exact ws (gn 3 0 (Wp.ret (rr h▸rq)))
 exact Wp.skip (ws (gn 4 0 (Wp.ret (rr h▸rq))))
def Z4 (xF:Flash) (z1:Int) (z2:List Block):St:=A7 [(2,(pb 2)),(3,(pb 3)),(7,(.one (Bz xF.Blocks))),(8,(I (ln xF.Blocks))),(9,(I z1))] [(.box 2,[BW []]),(.box 3,[BW z2])]
def Z3 (z3:List Block):St:=A7 [(2,(pb 2)),(3,(pb 3))] [(.box 2,[BW []]),(.box 3,[BW z3])]
theorem NJ (xF:Flash) (r:Flash) (h:Lt xF=some r):AM Tryz.prog 134 [.sv (.agg (LH false xF))] (.agg (LH true r)) (rg 1):=by
 refine gk Tryz.func134 rfl Tryz.ntmps134 (ws (gw 2 0 (gn 1 0 (Wp.seq (ws (Ah 2 0 (RW.q (CR (B5 false) xF.Blocks) (gn 1 0 (BQ h [2,3,7,8,9] [.box 2,.box 3] (λs=>(Z4 xF s.1 s.2)) [2,3] [.box 2,.box 3] (λs=>(Z3 s)) DM ?_ ?_)))))))))
 ·rintro⟨y1,a⟩ o (h:QL xF y1 a=some o);refine ws (gn 1 0 (Wp.seq (wc h (λh=>?_) (λh=>?_))))
  ·exact Wp.skip (Wp.seq (Wp.block (ws (C9 (B5 false) h (λx1 gx1 h=>RW.q (L9 (B5 false) gx1 0 3) (gw 2 0 (Ah 2 0 (bd h λq1 gq1 h=>CI (Dk Dw (λ_=>rfl) [] gq1) (gn 2 0 (Ap (Ah 4 0 (bd h λq2 gq2 h=>CI (pX (B5 true) a [(Block.mk x1.Bad x1.Wear q1)] gq2) (gn 2 0 (Ap (gn 2 0 (jl h))))))))))))))))
  exact Wp.exit (jv h)
 intro v1 h E hE;exact AW hE (ws (gn 2 0 (Wp.ret (rr h▸rq))))
theorem Zz (xF:Flash) (xB:Int) (r:Bool) (h:QJ xF xB=some r):AM Tryz.prog 179 [.sv (.agg (LH false xF)),.sv (I xB)] (B r) (rg 2):=by
 refine gk Tryz.func179 rfl Tryz.ntmps179 (ws (gw 2 0 (Ah 1 0 (RW.c 0 h (We _) (λv1 gv1 h=>Ah 1 0 (AK 7 h (λh=>?_) (λh=>?_)))))))
 ·refine Ah 3 0 (RW.q (CR (B5 false) xF.Blocks) (Ah 1 0 (RW.c 0 h (FB _ _ _) (λv2 gv2 h=>Ah 2 0 (AK 15 h (λh=>?_) (λh=>?_))))))
  ·exact Ah 3 0 (C9 (B5 false) h (λx1 gx1 h=>RW.q (DB (B5 false) gx1 0 0) (RW.q (CB (B5 false) gx1 0) (gn 3 0 (Wp.ret (rr h▸rq))))))
  exact gn 9 0 (Wp.ret (rr h▸rq))
 exact gn 17 0 (Wp.ret (rr h▸rq))
def o7 (xB:Int) (a:Int) (b:ByteArray) (v1:Flash) (z1:Bool):St:=A7 [(1,(I xB)),(2,(I a)),(3,(Y b)),(8,(pb 8)),(10,(pb 10)),(37,(B z1))] [(.box 8,[BW []]),(.box 10,[BW v1.Blocks])]
theorem vD (xF:Flash) (xB:Int) (d:Int) (b:ByteArray) (r:Flash×Bool) (h:R2 xF xB d b=some r):AM Tryz.prog 132 [.sv (.agg (LH false xF)),.sv (I xB),.sv (I d),.sv (Y b)] (.tup [(.agg (LH true r.1)),(B r.2)]) (rg 4):=by
 refine gk Tryz.func132 rfl Tryz.ntmps132 (ws (gw 3 0 (Ah 1 0 (RW.c 0 h (NJ _) (λv1 gv1 h=>gn 2 0 (Wp.seq (EA h [1,2,3,8,10,37] [.box 8,.box 10] (λa=>(o7 xB d b v1 a)) (λa h=>?_) (λj1 h=>?_))))))))
 ·refine Ap (Ah 2 0 (RW.c 0 h (Zz _ _) (λv2 gv2 h=>Ah 2 0 (AK 17 h (λh=>?_) (λh=>?_)))))
  ·exact gn 20 0 (jn h)
  refine Ah 1 0 (RW.c 0 h (FB _ _ _) (λv3 gv3 h=>Ah 3 0 (AK 22 h (λh=>?_) (λh=>?_))))
  ·exact gn 15 0 (jn h)
  refine Ah 4 0 (C9 (B5 false) h (λx1 gx1 h=>RW.q (L9 (B5 false) gx1 0 3) (RW.c 0 h (NL _) (λv4 gv4 h=>Ah 3 0 (AK 32 h (λh=>?_) (λh=>?_))))))
  ·exact gn 5 0 (jn h)
  exact Ah 2 0 (RW.c 0 h (FB _ _ _) (λv5 gv5 h=>gn 2 0 (jn h)))
 refine wc h (λh=>?_) (λh=>?_)
 ·exact ws (gn 3 0 (Wp.ret (rr h▸rq)))
 exact Wp.skip (ws (Ah 3 0 (C9 (B5 true) h (λx2 gx2 h=>RW.q (DB (B5 true) gx2 0 2) (RW.q (CB (B5 true) gx2 2) (Ah 3 0 (bd h λx3 gx3 h=>RW.q (ADP Dw gx3 (B5 true) gx2 2) (CI (AFV Dw gx3 0 0 (Leaf.mk 1 b) (B5 true) gx2 2 (Block.mk x2.Bad x2.Wear (si x2.Leaves d (Leaf.mk 1 b)))) (RW.nil (ws (gn 3 0 (Wp.ret (rr h▸rq)))))))))))))
theorem WZ (r:List Leaf) (h:KX=some r):AM Tryz.prog 180 [] (.one (AHZ r)) (rg 0):=by
 exact gk Tryz.func180 rfl Tryz.ntmps180 (ws (gw 1 0 (bd h λq1 gq1 h=>CI (fmk Dw (Leaf.mk 0 (bs [])) gq1) (gn 1 1 (Wp.ret (rr h▸rq))))))
def ACM (xB:Int) (v1:Flash) (z1:Bool):St:=A7 [(1,(I xB)),(4,(pb 4)),(6,(pb 6)),(21,(B z1))] [(.box 4,[BW []]),(.box 6,[BW v1.Blocks])]
theorem AEm (xF:Flash) (xB:Int) (r:Flash×Bool) (h:oB xF xB=some r):AM Tryz.prog 133 [.sv (.agg (LH false xF)),.sv (I xB)] (.tup [(.agg (LH true r.1)),(B r.2)]) (rg 2):=by
 refine gk Tryz.func133 rfl Tryz.ntmps133 (ws (gw 3 0 (Ah 1 0 (RW.c 0 h (NJ _) (λv1 gv1 h=>gn 2 0 (Wp.seq (EA h [1,4,6,21] [.box 4,.box 6] (λa=>(ACM xB v1 a)) (λa h=>?_) (λj1 h=>?_))))))))
 ·refine Ap (Ah 2 0 (RW.c 0 h (Zz _ _) (λv2 gv2 h=>Ah 2 0 (AK 13 h (λh=>?_) (λh=>?_)))))
  ·exact gn 8 0 (jn h)
  exact Ah 3 0 (C9 (B5 false) h (λx1 gx1 h=>RW.q (DB (B5 false) gx1 0 1) (RW.q (CB (B5 false) gx1 1) (gn 2 0 (jn h)))))
 refine wc h (λh=>?_) (λh=>?_)
 ·exact ws (gn 3 0 (Wp.ret (rr h▸rq)))
 exact Wp.skip (Wp.seq (Dr [6] mixed (λ_ _=>nP) (Bf [0,1,2] 0 (Bp 3 (KB.c 0 h (WZ) (λv3 gv3 h=>bd h λx2 gx2 h=>KW.q 4 (Iz (B5 true) gx2) (KW.q 5 (DB (B5 true) gx2 0 2) (Bp 6 (L5 (Nd (B5 true) gx2 2 0 (Block.mk x2.Bad x2.Wear v3)) (Bc (ws (Ah 3 0 (C9 (B5 true) h (λx3 gx3 h=>RW.q (DB (B5 true) gx3 0 1) (RW.q (CB (B5 true) gx3 1) (Ah 1 0 (C9 (B5 true) h (λx4 gx4 h=>RW.q (DB (B5 true) gx4 0 1) (CI (Nd (B5 true) gx4 1 0 (Block.mk x4.Bad (ad x3.Wear 1) x4.Leaves)) (RW.nil (ws (gn 3 0 (Wp.ret (rr h▸rq))))))))))))))))))))))))
theorem ZI (xF:Flash) (xS:Bb) (r:Flash×Bool) (h:Ud xF xS=some r):AM Tryz.prog 72 [.sv (.agg (LH false xF)),.sv (.agg (c80 xS))] (.tup [(.agg (LH true r.1)),(B r.2)]) (rg 2):=by
 refine gk Tryz.func72 rfl Tryz.ntmps72 (ws (gn 4 0 (Wp.seq (ws (gn 2 0 (Wp.block (ws (gn 2 0 (wc h (λh=>?_) (λh=>?_))))))))))
 ·exact ws (Ah 7 0 (RW.c 0 h (vD _ _ _ _) (λv1 gv1 h=>gn 4 0 (Wp.ret (rr h▸rq)))))
 refine ws (gn 2 0 (wc h (λh=>?_) (λh=>?_)))
 ·exact ws (Ah 3 0 (RW.c 0 h (AEm _ _) (λv2 gv2 h=>gn 4 0 (Wp.ret (rr h▸rq)))))
 exact Wp.skip (ws (Ah 1 0 (RW.c 0 h (NJ _) (λv3 gv3 h=>gn 2 0 (Wp.ret (rr h▸rq))))))
def SD (xW:EZ) (v1:ByteArray×Bool) (v2:Int×Int×Bool) (z1:Bool):St:=A7 [(0,(px 0)),(7,(Y v1.1)),(9,(I v2.1)),(10,(I v2.2.1)),(39,(B z1))] [(.ext 0,[Bz xW.f_.Blocks,F9 xW.steps_])]
def SC (xW:EZ) (v1:ByteArray×Bool) (v2:Int×Int×Bool) (z2:Bool) (z3:List Block):St:=A7 [(0,(px 0)),(12,(pb 12)),(13,(pb 13)),(14,(B z2))] [(.box 12,[i6 1,i6 v2.1,i6 v2.2.1,ts v1.1]),(.box 13,[BW z3]),(.ext 0,[Bz xW.f_.Blocks,F9 xW.steps_])]
theorem Ka (xW:EZ) (xP:Page) (b:Int) (r:Bool×EZ) (h:Db xW xP b=some r):AM Tryz.prog 31 [.ext [Bz xW.f_.Blocks,F9 xW.steps_],.sv (.agg (c65 xP)),.sv (I b)] (B r.1) (.ext [Bz r.2.f_.Blocks,F9 r.2.steps_]::rg 2):=by
 refine gkx Tryz.func31 rfl Tryz.ntmps31 (ws (gw 2 0 (Ah 1 0 (RW.c 0 h (pA _) (λv1 gv1 h=>gw 5 1 (Ah 4 0 (RW.c 0 h (vE _) (λv2 gv2 h=>gn 7 1 (Wp.seq (EA h [0,7,9,10,39] [.ext 0] (λa=>(SD xW v1 v2 a)) (λa h=>?_) (λj1 h=>?_)))))))))))
 ·refine Ap (Ah 3 0 (AK 31 h (λh=>?_) (λh=>?_)))
  ·exact gn 8 0 (jn h)
  refine Ah 4 0 (AK 35 h (λh=>?_) (λh=>?_))
  ·exact gn 4 0 (jn h)
  exact gn 4 0 (jn h)
 refine wc h (λh=>?_) (λh=>?_)
 ·exact ws (gn 1 0 (Wp.ret (rr h▸rx)))
 refine Wp.skip (ws (gn 6 0 (EA h [0,12,13,14] [.box 12,.box 13,.ext 0] (λa=>(SC xW v1 v2 a.1 a.2)) (λa h=>?_) (λj2 h=>?_))))
 ·refine Dr [10] mixed (λ_ _=>nP) (Bf [0,1,2,3,4] 0 (Dj 5 9 ?_ ?_))
  ·exact KB.c 0 h (ZI _ _) (λv4 gv4 h=>oj [6] h)
  exact KB.o false (Bp 5 (KB.c 0 h (ZI _ _) (λv5 gv5 h=>Bf [6] 1 (Hs 7 (oj [] h)))))
 refine ws (gn 5 0 (Wp.seq (Dr [7,10] mixed (λ_ _=>nP) (Bf [1,2,3,4,5] 0 (Dj 0 6 ?_ ?_)))))
 ·exact KB.o false (Bf [6] 0 (Bp 7 (bd h λq1 gq1 h=>L5 (Dk PF (λ_=>rfl) xW.steps_ gq1) (Bf [8,9,10] 0 (Bc (ws (gn 2 0 (Wp.fz (.ext 0) 0 (CZ j2.2) (Wp.ret (rr h▸rx))))))))))
 refine KB.o false (Dj 0 7 ?_ ?_)
 ·exact KB.o false (Bp 7 (bd h λq2 gq2 h=>L5 (Dk PF (λ_=>rfl) xW.steps_ gq2) (Bf [8,9,10] 0 (Bc (ws (gn 2 0 (Wp.fz (.ext 0) 0 (CZ j2.2) (Wp.ret (rr h▸rx)))))))))
 exact bd h λq3 gq3 h=>L5 (Dk PF (λ_=>rfl) xW.steps_ gq3) (Bf [0,8,9,10] 0 (Bc (ws (gn 2 0 (Wp.fz (.ext 0) 0 (CZ j2.2) (Wp.ret (rr h▸rx)))))))
theorem vC (xR:Cu) (r:ByteArray×Bool) (h:R1 xR=some r):AM Tryz.prog 145 [.sv (.agg (V5 xR))] (.tup [(Y r.1),(B r.2)]) (rg 1):=by
 refine gk Tryz.func145 rfl Tryz.ntmps145 (ws (gn 3 0 (Wp.seq (ws (Ah 1 0 (RW.c 0 h (iG _) (λv1 gv1 h=>gn 1 0 (wc h (λh=>?_) (λh=>?_)))))))))
 ·exact ws (gn 2 0 (Wp.ret (rr h▸rq)))
 refine Wp.skip (Wp.seq (Dr [] mixed (λ_ _=>nP) (Bf [0,1,2,3,4,5,6,9,10,13,14] 0 (Dj 7 11 ?_ ?_))))
 ·exact KB.o false (KW.q 8 (xO (f:=c5) (λ_=>rfl) [(IntKind.u8.wrap (ad (ml 16 xR.Kind) xR.Vol))]) (Bp 11 (KB.c 0 h (D1 _) (λv2 gv2 h=>bd h λx1 gx1 h=>KW.q 12 (Ff gx1) (Bp 15 (KB.c 0 h (D1 _) (λv3 gv3 h=>bd h λx2 gx2 h=>KW.q 16 (Ff gx2) (Bf [17,18] 0 (Bc (Wp.ret (rr h▸rq)))))))))))
 refine KB.c 0 h (D1 _) (λv4 gv4 h=>Dj 7 15 ?_ ?_)
 ·exact KB.o false (KW.q 8 (xO (f:=c5) (λ_=>rfl) [(IntKind.u8.wrap (ad (ml 16 xR.Kind) xR.Vol))]) (bd h λx3 gx3 h=>KW.q 12 (Ff gx3) (Bp 15 (KB.c 0 h (D1 _) (λv5 gv5 h=>bd h λx4 gx4 h=>KW.q 16 (Ff gx4) (Bf [17,18] 0 (Bc (Wp.ret (rr h▸rq)))))))))
 replace h:=AIT (show((Em xR.Chunk).bind λv6=>(HH (EI [(IntKind.u8.wrap (ad (ml 16 xR.Kind) xR.Vol))]) v4).bind λx5=>(HH x5 v6).bind λx6=>some (x6,true))=((HH (EI [(IntKind.u8.wrap (ad (ml 16 xR.Kind) xR.Vol))]) v4).bind λx3=>(Em xR.Chunk).bind λv5=>(HH x3 v5).bind λx4=>some (x4,true))from AGg λz=>by simp only [Au];exact⟨λ⟨v6,k0,x5,k1,x6,k2,z⟩=>⟨_,k1,_,k0,_,k2,z⟩,λ⟨x3,k0,v5,k1,x4,k2,z⟩=>⟨_,k1,_,k0,_,k2,z⟩⟩) h;exact KB.c 0 h (D1 _) (λv6 gv6 h=>Bf [7] 0 (KW.q 8 (xO (f:=c5) (λ_=>rfl) [(IntKind.u8.wrap (ad (ml 16 xR.Kind) xR.Vol))]) (bd h λx5 gx5 h=>KW.q 12 (Ff gx5) (bd h λx6 gx6 h=>KW.q 16 (Ff gx6) (Bf [17,18] 0 (Bc (Wp.ret (rr h▸rq))))))))
def oM (b:Int) (c:Int) (a:List Cu) (z1:List ByteArray) (z2:Int):St:=A7 [(0,(I b)),(1,(I c)),(8,(.one (ot9 z1))),(19,(.one (Oe a))),(20,(I (ln a))),(21,(I z2))] []
def oL (a:Int) (b:Int) (z3:List ByteArray):St:=A7 [(0,(I a)),(1,(I b)),(8,(.one (ot9 z3)))] []
def oJ (b:Int) (c:Int) (a:List Cu) (y1:Int) (v1:ByteArray×Bool) (z4:List ByteArray) (z5:Int):St:=A7 [(0,(I b)),(1,(I c)),(8,(.one (ot9 z4))),(11,(Y v1.1)),(13,(I z5)),(19,(.one (Oe a))),(20,(I (ln a))),(21,(I y1))] []
def oH (a:Int) (b:Int) (v2:List ByteArray) (z6:Bool):St:=A7 [(0,(I a)),(1,(I b)),(8,(.one (ot9 v2))),(14,(I (ln v2))),(73,(B z6))] []
def oG (a:Int) (b:Int) (v2:List ByteArray) (z7:List Page) (z8:Int):St:=A7 [(0,(I a)),(1,(I b)),(8,(.one (ot9 v2))),(14,(I (ln v2))),(15,(.one (Vl z7))),(74,(.one (.view (.slot 8) 0 [] 0))),(75,(I (ln v2))),(76,(I z8))] []
def oF (z9:List Page):St:=A7 [(15,(.one (Vl z9)))] []
theorem u9 (d:Int) (f:Int) (b:List Cu) (r:List Page×Bool) (h:Om d f b=some r):AM Tryz.prog 79 [.sv (I d),.sv (I f),.sv (.one (Oe b))] (.tup [(.one (Vl r.1)),(B r.2)]) (rg 3):=by
 refine gk Tryz.func79 rfl Tryz.ntmps79 (ws (gw 2 0 (gn 2 2 (Wp.seq (ws (Ah 1 0 (RW.q (CR Ho b) (gn 1 0 (DA h [0,1,8,19,20,21] [] (λs=>(oM d f b s.1 s.2)) [0,1,8] [] (λs=>(oL d f s)) DM ?_ ?_)))))))))
 ·rintro⟨e,y1⟩ o (h:I6 b e y1=some o) hk1;refine ws (gn 1 0 (Wp.seq (wc h (λh=>?_) (λh=>?_))))
  ·refine Wp.skip (Wp.seq (Wp.block (ws (C9 Ho h (λx1 gx1 h=>RW.q (L9 Ho gx1 0 4) (gw 2 0 (Ah 1 0 (RW.c 0 h (vC _) (λv1 gv1 h=>gn 5 1 (Wp.seq (ws (gn 2 0 (wc h (λh=>?_) (λh=>?_))))))))))))))
   ·exact ws (gn 2 0 (Wp.ret (rr (jo h hk1)▸rq)))
   refine Wp.skip (ws (Ah 1 0 (RW.q (CR k9 e) (gn 2 0 (Wp.seq (ws (Ah 2 0 (C9 k9 h (λx2 gx2 h=>RW.q (CB k9 gx2 0) (gn 5 0 (IE h [0,1,8,11,13,19,20,21] [] (λa=>(oJ d f b y1 v1 a.1 a.2)) ?_ ?_)))))))))))
   ·intro a h;refine wc h (λh=>?_) (λh=>?_)
    ·exact ws (Ah 2 0 (bd h λq1 gq1 h=>CI (Dk k9 (λ_=>rfl) e gq1) (gn 1 1 (Ap (gn 3 0 (jn h))))))
    exact Wp.skip (jn h)
   intro j1 h E hE;exact AW hE (Ap (Ah 2 0 (C9 k9 h (λx3 gx3 h=>RW.q (CB k9 gx3 0) (Ah 1 0 (bd h λx4 gx4 h=>RW.q (Ff gx4) (C9 k9 h (λx5 gx5 h=>CI (Nd k9 gx5 0 0 x4) (RW.nil (Ap (gn 2 0 (jl h))))))))))))
  exact Wp.exit (jx h)
 intro v2 h E hE;refine AW hE (ws (Ah 1 0 (RW.q (CR k9 v2) (gn 1 0 (Wp.seq (EA h [0,1,8,14,73] [] (λa=>(oH d f v2 a)) (λa h=>?_) (λj2 h=>?_)))))))
 ·refine Ap (Ah 3 0 (AK 61 h (λh=>?_) (λh=>?_)))
  ·exact gn 12 0 (jn h)
  refine Ah 4 0 (RW.c 0 h (FB _ _ _) (λv3 gv3 h=>Ah 3 0 (AK 69 h (λh=>?_) (λh=>?_))))
  ·exact gn 4 0 (jn h)
  exact Ah 1 0 (RW.c 0 h (FB _ _ _) (λv4 gv4 h=>gn 2 0 (jn h)))
 refine wc h (λh=>?_) (λh=>?_)
 ·exact ws (gn 2 0 (Wp.ret (rr h▸rq)))
 refine Wp.skip (ws (gn 1 0 (Wp.seq (ws (Ah 1 0 (RW.q (CR k9 v2) (gn 1 0 (BQ h [0,1,8,14,15,74,75,76] [] (λs=>(oG d f v2 s.1 s.2)) [15] [] (λs=>(oF s)) DM ?_ ?_))))))))
 ·rintro⟨g,y2⟩ o (h:Kc d f v2 g y2=some o);refine ws (gn 1 0 (Wp.seq (wc h (λh=>?_) (λh=>?_))))
  ·exact Wp.skip (Wp.seq (Wp.block (ws (Ah 1 0 (C9 k9 h (λx6 gx6 h=>RW.q (CB k9 gx6 0) (gn 2 0 (Ap (Ah 10 0 (bd h λq2 gq2 h=>CI (Dk k65 (λ_=>rfl) g gq2) (gn 1 1 (Ap (gn 2 0 (jl h))))))))))))))
  exact Wp.exit (jv h)
 intro v5 h E hE;exact AW hE (ws (gn 3 2 (Wp.ret (rr h▸rq))))
def Xc (xD:AH) (a:List Cu) (z1:Int) (z2:List Block) (z3:List Bb):St:=A7 [(1,(.one (Oe a))),(3,(pb 3)),(8,(pb 21)),(9,(I z1))] [(.box 3,[Bz xD.Flash.Blocks,Dp xD.Store.Vols,BB xD.Store.Arena.Knots,i6 xD.Store.Next,i6 xD.Seq,i6 xD.Tx,i6 xD.Base]),(.box 21,[Bz z2,F9 z3])]
def Xb (v2:List Page×Bool) (z4:Bool) (z5:Int) (z6:List Block) (z7:List Bb):St:=A7 [(8,(pb 21)),(11,(.one (Vl v2.1))),(12,(B z4)),(50,(.one (.view (.slot 11) 0 [] 0))),(51,(I (ln v2.1))),(52,(I z5))] [(.box 21,[Bz z6,F9 z7])]
def Xa (z8:Bool) (z9:List Block) (z10:List Bb):St:=A7 [(8,(pb 21)),(12,(B z8))] [(.box 21,[Bz z9,F9 z10])]
theorem Z7 (xD:AH) (b:List Cu) (d:ByteArray) (r:List Bb×Bool) (h:Mb xD b d=some r):AM Tryz.prog 37 [.sv (.agg (QZ false xD)),.sv (.one (Oe b)),.sv (Y d)] (.tup [(.one (F9 r.1)),(B r.2)]) (rg 3):=by
 refine gk Tryz.func37 rfl Tryz.ntmps37 (ws (gn 3 0 (Wp.seq (ws (Ah 1 0 (RW.q (CR Ho b) (gn 1 0 (wc h (λh=>?_) (λh=>?_)))))))))
 ·exact ws (gn 2 0 (Wp.ret (rr h▸rq)))
 refine Wp.skip (ws (gw 5 0 (gn 3 0 (Wp.seq (ws (gn 2 0 (AB0 h [1,3,8,9] [.box 3,.box 21] (λa=>(Xc xD b a.1 a.2.1 a.2.2)) ?_ ?_)))))))
 ·intro a h f;refine wc h (λh=>?_) (λh=>?_)
  ·refine ws (Ah 3 0 (RW.q (CR Ho b) (Ah 1 0 (C9 Ho h (λx1 gx1 h=>RW.q (DB Ho gx1 0 3) (RW.q (CB Ho gx1 3) (gn 4 0 (Wp.seq (ws (Ah 2 0 (FG h (Ka _ _ _) (λ_=>rfl) (λv1 gv1 h=>gn 1 0 (wc h (λh=>?_) (λh=>?_))))))))))))))
   ·exact ws (gn 2 0 (Wp.ret (rr (jr h f)▸rq)))
   exact Wp.skip (Ap (gn 3 0 (jm h)))
  exact Wp.skip (jm h)
 intro j1 h E hE;refine AW hE (ws (Ah 4 0 (RW.c 0 h (u9 _ _ _) (λv2 gv2 h=>gn 5 9 (Wp.seq (ws (Ah 1 0 (RW.q (CR k65 v2.1) (gn 1 0 (BQ h [8,11,12,50,51,52] [.box 21] (λs=>(Xb v2 s.1 s.2.1 s.2.2.1 s.2.2.2)) [8,12] [.box 21] (λs=>(Xa s.1 s.2.1 s.2.2)) DM ?_ ?_))))))))))
 ·rintro⟨e,y1,y01,y11⟩ o (h:CC v2 e y1 y01 y11=some o);refine ws (gn 1 0 (Wp.seq (wc h (λh=>?_) (λh=>?_))))
  ·refine Wp.skip (Wp.seq (Wp.block (ws (C9 k65 h (λx2 gx2 h=>RW.q (L9 k65 gx2 0 6) (gn 2 0 (Ap (Ah 2 0 (AK 57 h (λh=>?_) (λh=>?_))))))))))
   ·exact Ah 2 0 (FG h (Ka _ _ _) (λ_=>rfl) (λv3 gv3 h=>gn 2 0 (Ap (gn 2 0 (jl h)))))
   exact gn 5 0 (Ap (gn 2 0 (jl h)))
  exact Wp.exit (jv h)
 intro v4 h E hE;refine AW hE (Wp.seq (ws (gn 2 0 (wc h (λh=>?_) (λh=>?_)))))
 ·exact ws (gn 2 0 (Wp.ret (rr h▸rq)))
 exact Wp.skip (ws (gn 6 16 (Wp.ret (rr h▸rq))))
theorem eX (xD:AH) (r:List Bb×Bool) (h:N3 xD=some r):AM Tryz.prog 12 [.sv (.agg (QZ false xD))] (.tup [(.one (F9 r.1)),(B r.2)]) (rg 1):=by
 exact gk Tryz.func12 rfl Tryz.ntmps12 (ws (gn 3 0 (Wp.seq (Dr [] mixed (λ_ _=>nP) (Bf [0,1,2] 0 (Bp 3 (KB.c 0 h (pI _) (λv1 gv1 h=>Bp 4 (KB.c 0 h (gs (ca rfl (ca (co (cs (ABo _))) rfl)) (Z7 _ _ _)) (λv2 gv2 h=>Hs 5 (Hs 6 (Bf [7,8] 0 (Bc (Wp.ret (rr h▸rq)))))) (hc:=(.inr (λv=>by simp [BA,BD,AO,B4,AFB,F9]))))))))))))
def eC (xD:AH) (z1:Int) (z2:Int) (z3:Int):St:=A7 [(1,(pb 1)),(3,(I z1)),(4,(I z2)),(10,(.one (Bz xD.Flash.Blocks))),(11,(I (ln xD.Flash.Blocks))),(12,(I z3))] [(.box 1,[Bz xD.Flash.Blocks,Dp xD.Store.Vols,BB xD.Store.Arena.Knots,i6 xD.Store.Next,i6 xD.Seq,i6 xD.Tx,i6 xD.Base])]
def eB (z4:Int):St:=A7 [(3,(I z4))] []
def eA (xD:AH) (b:Int) (a:Int) (y1:Int) (z5:Bool):St:=A7 [(1,(pb 1)),(3,(I b)),(4,(I a)),(5,(I y1)),(10,(.one (Bz xD.Flash.Blocks))),(11,(I (ln xD.Flash.Blocks))),(12,(I y1)),(23,(B z5))] [(.box 1,[Bz xD.Flash.Blocks,Dp xD.Store.Vols,BB xD.Store.Arena.Knots,i6 xD.Store.Next,i6 xD.Seq,i6 xD.Tx,i6 xD.Base])]
def d9 (xD:AH) (b:Int) (a:Int) (y1:Int) (v2:Int) (z6:Bool):St:=A7 [(1,(pb 1)),(3,(I b)),(4,(I a)),(5,(I y1)),(7,(I v2)),(10,(.one (Bz xD.Flash.Blocks))),(11,(I (ln xD.Flash.Blocks))),(12,(I y1)),(48,(B z6))] [(.box 1,[Bz xD.Flash.Blocks,Dp xD.Store.Vols,BB xD.Store.Arena.Knots,i6 xD.Store.Next,i6 xD.Seq,i6 xD.Tx,i6 xD.Base])]
theorem TW (xD:AH) (r:Int) (h:MU xD=some r):AM Tryz.prog 22 [.sv (.agg (QZ false xD))] (I r) (rg 1):=by
 refine gk Tryz.func22 rfl Tryz.ntmps22 (ws (gw 2 0 (gn 2 0 (Wp.seq (ws (Ah 3 0 (RW.q (CR (B5 false) xD.Flash.Blocks) (gn 1 0 (BQ h [1,3,4,10,11,12] [.box 1] (λs=>(eC xD s.1 s.2.1 s.2.2)) [3] [] (λs=>(eB s)) DM ?_ ?_)))))))))
 ·rintro⟨d,b,y1⟩ o (h:Gw xD d b y1=some o);refine ws (gn 1 0 (Wp.seq (wc h (λh=>?_) (λh=>?_))))
  ·refine Wp.skip (Wp.seq (Wp.block (ws (Ah 1 0 (C9 (B5 false) h (λx1 gx1 h=>RW.q (L9 (B5 false) gx1 0 3) (gn 3 0 (Wp.seq (EA h [1,3,4,5,10,11,12,23] [.box 1] (λa=>(eA xD d b y1 a)) (λa h=>?_) (λj1 h=>?_))))))))))
   ·refine Ap (Ah 3 0 (AK 19 h (λh=>?_) (λh=>?_)))
    ·exact gn 4 0 (jn h)
    exact Ah 1 0 (RW.c 0 h (NL _) (λv1 gv1 h=>gn 2 0 (jn h)))
   refine wc h (λh=>?_) (λh=>?_)
   ·exact Wp.exit (Ap (gn 2 0 (jl h)))
   refine Wp.skip (ws (Ah 5 0 (RW.c 0 h (Mc _ _ _ _) (λv2 gv2 h=>gn 1 0 (EA h [1,3,4,5,7,10,11,12,48] [.box 1] (λa=>(d9 xD d b y1 v2 a)) (λa h=>?_) (λj2 h=>?_))))))
   ·refine Ap (Ah 8 0 (RW.c 0 h (Mc _ _ _ _) (λv3 gv3 h=>Ah 2 0 (AK 40 h (λh=>?_) (λh=>?_)))))
    ·refine Ah 4 0 (AK 44 h (λh=>?_) (λh=>?_))
     ·exact gn 4 0 (jn h)
     exact gn 4 0 (jn h)
    exact gn 8 0 (jn h)
   refine wc h (λh=>?_) (λh=>?_)
   ·exact Ap (gn 4 0 (Ap (gn 2 0 (jl h))))
   exact Wp.skip (Ap (gn 2 0 (jl h)))
  exact Wp.exit (jv h)
 intro v4 h E hE;exact AW hE (ws (gn 2 0 (Wp.ret (rr h▸rq))))
theorem Xd (n b g cap:Nat) (T:TypeId) (hb:b≠g):Jm Tryz.prog (K8 n b g cap 67 T 8 c67) (Nc BS) 30 #[.pointer (some ⟨b,0,none⟩)]:=by
 refine iA Tryz.func30 rfl rfl ?_;rintro l i j x y hx hy ⟨w,hI⟩;have hn:l.length=n:=hI.len;have hi:=ABQ hx;have hj:=ABQ hy;refine vR Tryz.func30 rfl rfl ?_;rw [Tryz.ntmps30];refine Wp.seq ?_;refine Wp.region ?_;refine H5.o 5 (B false) ?_;refine H5.nil ?_;refine Wp.seq ?_;refine SP mixed (by decide+kernel) ?_;refine Rb 6 (.hdr ⟨g,0,none⟩ n cap) (.slice (some ⟨g,0,none⟩) n cap) ?_ rfl nJ (λw=>by simp [CG]) rfl rfl rfl;refine If.o 7 (I i) ?_;refine qI (n:=n) 8 (m:=i) ?_ rfl Tryz.underlying61 rfl hi.1 (by omega) (by decide);refine VB (f:=1) 9 ?_ rfl Tryz.underlying67 rfl (by decide);refine Rb (x:=9) 10 (.int .i64 (BS x)) (.int .i64 (BS x)) ?_ rfl (nI (k:=1) (t:= .int .i64 (BS x)) Eo hx rfl hb (by rw [ABZ];rfl)) (λw=>by simp [CG]) rfl rfl rfl;refine Rb 11 (.hdr ⟨g,0,none⟩ n cap) (.slice (some ⟨g,0,none⟩) n cap) ?_ rfl nJ (λw=>by simp [CG]) rfl rfl rfl;refine If.o 12 (I j) ?_;refine qI (n:=n) 13 (m:=j) ?_ rfl Tryz.underlying61 rfl hj.1 (by omega) (by decide);refine VB (f:=1) 14 ?_ rfl Tryz.underlying67 rfl (by decide);refine Rb (x:=14) 15 (.int .i64 (BS y)) (.int .i64 (BS y)) ?_ rfl (nI (k:=1) (t:= .int .i64 (BS y)) Eo hy rfl hb (by rw [ABZ];rfl)) (λw=>by simp [CG]) rfl rfl rfl;refine If.o 16 (B (decide ((BS x)<(BS y)))) ?_;refine If.o 5 (B (decide ((BS x)<(BS y)))) ?_;refine If.nil ?_;exact Wp.ret ⟨.inr rfl,rfl,_,rfl⟩
theorem Xe {l r:List As} (h:Qn (Nc BS) l=some r):RF Tryz.prog 29 61 67 8 c67 30 l r:=by
 refine aZ Eo h Tryz.t61 Tryz.t67 rfl rfl (by kernel_rfl) rfl 25 (λw=>rfl) rfl Tryz.isAgg67 (enters_of Tryz.func30 rfl rfl) ?_ (λn b g cap T hb=>Xd n b g cap T hb);intro n
 match n with
 |0=>exact⟨107,by kernel_rfl,λh=>absurd h (by decide)⟩
 |1=>exact⟨108,by kernel_rfl,λh=>absurd h (by decide)⟩
 |n+2=>
  have hk:Go.Lib.swapperK (n+2) Tryz.t67 25=9:=rfl;rw [hk];exact⟨115,by kernel_rfl,λ_=>⟨by decide,false,λargs W=>run_callFunc_extern Tryz.func115 (by kernel_rfl) (by kernel_rfl) (by kernel_rfl) (e:=Extern.ReflectliteSwapper.swap false) (by kernel_rfl) args W⟩⟩
def ZF (xD:AH) (xB:Int) (v2:List As) (z1:Int) (z2:List Block) (z3:List Bb):St:=A7 [(1,(I xB)),(2,(pb 2)),(7,(pb 24)),(25,(.one (.view (.box 6) 0 [] 0))),(26,(I (ln v2))),(27,(I z1))] [(.box 2,[Bz xD.Flash.Blocks,Dp xD.Store.Vols,BB xD.Store.Arena.Knots,i6 xD.Store.Next,i6 xD.Seq,i6 xD.Tx,i6 xD.Base]),(.box 6,[Hg v2]),(.box 24,[Bz z2,F9 z3])]
def ZE (z4:List Block) (z5:List Bb):St:=A7 [(7,(pb 24))] [(.box 24,[Bz z4,F9 z5])]
theorem eV (xD:AH) (xB:Int) (r:List Bb×Bool) (h:Lu xD xB=some r):AM Tryz.prog 8 [.sv (.agg (QZ false xD)),.sv (I xB)] (.tup [(.one (F9 r.1)),(B r.2)]) (rg 2):=by
 refine gk Tryz.func8 rfl Tryz.ntmps8 (ws (gw 3 0 (Ah 5 0 (RW.c 0 h (iF _ _ _) (λv1 gv1 h=>gw 2 0 (Ah 1 0 (RW.srt h (.box 6) (λ_ h=>Xe h) (λv2 gv2 h=>RW.nil (ws (gn 5 0 (Wp.seq (ws (Ah 1 0 (RW.q (CR Eo v2) (gn 1 0 (DA h [1,2,7,25,26,27] [.box 2,.box 6,.box 24] (λs=>(ZF xD xB v2 s.1 s.2.1 s.2.2)) [7] [.box 24] (λs=>(ZE s.1 s.2)) DM ?_ ?_))))))))) Eo AH7)))))))
 ·rintro⟨y1,y01,y11⟩ o (h:Ib xD xB v2 y1 y01 y11=some o) hk1;refine ws (gn 1 0 (Wp.seq (wc h (λh=>?_) (λh=>?_))))
  ·refine Wp.skip (Wp.seq (Wp.block (ws (Ah 1 0 (C9 Eo h (λx1 gx1 h=>RW.q (L9 Eo gx1 0 8) (gw 3 0 (gw 13 0 (Ah 3 0 (FG h (Ka _ _ _) (λ_=>rfl) (λv3 gv3 h=>gn 1 0 (wc h (λh=>?_) (λh=>?_)))))))))))))
   ·exact ws (gn 2 0 (Wp.ret (rr (jo h hk1)▸rq)))
   exact Wp.skip (Ap (gn 2 0 (jl h)))
  exact Wp.exit (jx h)
 intro v4 h E hE;exact AW hE (ws (gn 6 16 (Wp.ret (rr h▸rq))))
theorem pH (xD:AH) (r:List Bb×Bool) (h:Ps xD=some r):AM Tryz.prog 16 [.sv (.agg (QZ false xD))] (.tup [(.one (F9 r.1)),(B r.2)]) (rg 1):=by
 refine gk Tryz.func16 rfl Tryz.ntmps16 (ws (gn 3 0 (Wp.seq (ws (Ah 1 0 (RW.c 0 h (QQ _) (λv1 gv1 h=>gw 1 1 (Ah 1 0 (RW.q (CR k3 v1) (gn 1 0 (wc h (λh=>?_) (λh=>?_))))))))))))
 ·exact ws (Ah 1 0 (C9 k3 h (λx1 gx1 h=>RW.q (CB k3 gx1 0) (gn 4 4 (Wp.ret (rr h▸rq))))))
 refine Wp.skip (Wp.seq (ws (Ah 1 0 (RW.c 0 h (d8 _) (λv2 gv2 h=>gn 1 0 (wc h (λh=>?_) (λh=>?_)))))))
 ·exact ws (Ah 1 0 (RW.c 0 h (eX _) (λv3 gv3 h=>gn 4 4 (Wp.ret (rr h▸rq)))))
 refine Wp.skip (ws (Ah 1 0 (RW.c 0 h (TW _) (λv4 gv4 h=>gn 1 0 (Wp.seq (ws (gn 2 0 (wc h (λh=>?_) (λh=>?_)))))))))
 ·exact ws (gn 2 0 (Wp.ret (rr h▸rq)))
 exact Wp.skip (ws (Ah 2 0 (RW.c 0 h (eV _ _) (λv5 gv5 h=>gn 4 4 (Wp.ret (rr h▸rq))))))
def XG (xA:List Bb) (xB:List Bb) (z1:Int):St:=A7 [(0,(.one (WY xA))),(1,(.one (WY xB))),(5,(I z1))] []
def XF:St:=A7 [] []
theorem aX (xA:List Bb) (xB:List Bb) (r:Bool) (h:Ni xA xB=some r):AM Tryz.prog 10 [.sv (.one (WY xA)),.sv (.one (WY xB))] (B r) (rg 2):=by
 refine gk Tryz.func10 rfl Tryz.ntmps10 (ws (gn 1 0 (Wp.seq (ws (Ah 1 0 (RW.q (CR PF xA) (Ah 1 0 (RW.q (CR PF xB) (gn 1 0 (wc h (λh=>?_) (λh=>?_)))))))))))
 ·exact ws (gn 1 0 (Wp.ret (rr h▸rq)))
 refine Wp.skip (Wp.seq (ws (gn 1 0 (DA h [0,1,5] [] (λs=>(XG xA xB s)) [] [] (λ_=>XF) DM ?_ ?_))))
 ·rintro a o (h:G5 xA xB a=some o) hk1;refine Wp.seq (ws (Ah 2 0 (RW.q (CR PF xA) (gn 1 0 (wc h (λh=>?_) (λh=>?_))))))
  ·refine Wp.skip (Wp.seq (Wp.block (Wp.seq (Kt mixed (D3 2 (bd h λx1 gx1 h=>SW.q (Iz PF gx1) (SW.q (L9 PF gx1 0 4) (D3 2 (bd h λx2 gx2 h=>SW.q (Iz PF gx2) (SW.q (L9 PF gx2 0 4) (AIO (peq (b:=((x1.Kind==x2.Kind)&&((x1.Block==x2.Block)&&((x1.Leaf==x2.Leaf)&&(seq x1.Text x2.Text&&true))))) (by kernel_rfl)) (SW.nil (wc h (λh=>?_) (λh=>?_))))))))))))))
   ·exact ws (gn 1 0 (Wp.ret (rr (jo h hk1)▸rq)))
   exact Wp.skip (Ap (gn 3 0 (jl h)))
  exact Wp.exit (jx h)
 intro v1 h E hE;exact AW hE (ws (gn 1 0 (Wp.ret (rr h▸rq))))
def WT (z1:List Int) (z2:Int) (z3:List Int) (z4:Int) (z5:Int):St:=A7 [(3,(pb 7)),(4,(.one (Er z1))),(5,(I z2))] [(.box 7,[PS z3,i6 z4,i6 z5])]
def WS (z6:List Int):St:=A7 [(4,(.one (Er z6)))] []
theorem YS (a:List Int) (r:List Int) (h:LV a=some r):AM Tryz.prog 7 [.sv (.one (PS a))] (.one (Er r)) (rg 1):=by
 refine gk Tryz.func7 rfl Tryz.ntmps7 (ws (gw 1 0 (Ah 1 0 (AGL h (Yx _) (λv1 gv1 h=>gw 1 0 (Ah 1 0 (FG h (Jw _) (λ_=>rfl) (λv2 gv2 h=>RW.nil (ws (gn 2 2 (Wp.seq (ws (gn 1 0 (BQ h [3,4,5] [.box 7] (λs=>(WT s.1 s.2.1 s.2.2.1 s.2.2.2.1 s.2.2.2.2)) [4] [] (λs=>(WS s)) DM ?_ ?_))))))))))))))
 ·rintro⟨b,c,y01,y11,y21⟩ o (h:Gd b c y01 y11 y21=some o);refine Wp.seq (ws (gn 2 0 (wc h (λh=>?_) (λh=>?_))))
  ·exact Wp.skip (Wp.seq (Wp.block (Ap (Ah 2 0 (FG h (Dm _ _) (λ_=>rfl) (λv3 gv3 h=>Ah 1 0 (bd h λq1 gq1 h=>CI (Dk k3 (λ_=>rfl) b gq1) (gn 1 1 (Ap (gn 3 0 (jl h)))))))))))
  exact Wp.exit (jv h)
 intro v4 h E hE;exact AW hE (ws (gn 2 2 (Wp.ret (rr h▸rq))))
def kP (xS:Bb) (z1:Int) (z2:List Block):St:=A7 [(3,(pb 3)),(4,(pb 4)),(8,(pb 8)),(9,(I z1))] [(.box 3,[i6 xS.Kind,i6 xS.Block,i6 xS.Leaf,ts xS.Text]),(.box 4,[BW []]),(.box 8,[BW z2])]
def kO (z3:List Block):St:=A7 [(4,(pb 4)),(8,(pb 8))] [(.box 4,[BW []]),(.box 8,[BW z3])]
theorem VS (xF:Flash) (xS:Bb) (r:Flash×Bool) (h:Rm xF xS=some r):AM Tryz.prog 49 [.sv (.agg (LH false xF)),.sv (.agg (c80 xS))] (.tup [(.agg (LH true r.1)),(B r.2)]) (rg 2):=by
 refine gk Tryz.func49 rfl Tryz.ntmps49 (ws (gw 4 0 (Ah 2 0 (RW.c 0 h (OR _ _) (λv1 gv1 h=>gw 6 1 (Ah 1 0 (RW.c 0 h (Fj _) (λv2 gv2 h=>gn 2 0 (Wp.seq (ws (gn 2 0 (wc h (λh=>?_) (λh=>?_)))))))))))))
 ·exact ws (gn 3 0 (Wp.ret (rr h▸rq)))
 refine Wp.skip (Wp.seq (ws (gn 3 0 (wc h (λh=>?_) (λh=>?_)))))
 ·exact Wp.seq (Sh 18 mixed (D3 4 (bd h λx1 gx1 h=>SW.q (Iz (B5 true) gx1) (SW.q (DB (B5 true) gx1 0 2) (SW.q (CB (B5 true) gx1 2) (D3 8 (bd h λx2 gx2 h=>SW.q (Vk gx2) (D3 1 (bd h λx3 gx3 h=>SW.q (ADP Dw gx3 (B5 true) gx1 2) (SW.nil (CI (AFV Dw gx3 0 0 (Leaf.mk 2 x2) (B5 true) gx1 2 (Block.mk x1.Bad x1.Wear (si x1.Leaves xS.Leaf (Leaf.mk 2 x2)))) (RW.nil (ws (gn 3 0 (Wp.ret (rr h▸rq))))))))))))))))
 refine Wp.skip (Wp.seq (ws (gn 1 0 (BQ h [3,4,8,9] [.box 3,.box 4,.box 8] (λs=>(kP xS s.1 s.2)) [4,8] [.box 4,.box 8] (λs=>(kO s)) DM ?_ ?_))))
 ·rintro⟨b,a⟩ o (h:Ir xS b a=some o);refine Wp.seq (ws (Ah 5 0 (C9 (B5 true) h (λx4 gx4 h=>RW.q (DB (B5 true) gx4 0 2) (RW.q (CB (B5 true) gx4 2) (RW.q (AHQ Dw x4.Leaves (B5 true) gx4 2) (gn 1 0 (wc h (λh=>?_) (λh=>?_)))))))))
  ·exact Wp.skip (Wp.seq (Wp.block (Ap (Ah 4 0 (C9 (B5 true) h (λx5 gx5 h=>RW.q (DB (B5 true) gx5 0 2) (RW.q (CB (B5 true) gx5 2) (Ah 2 0 (bd h λx6 gx6 h=>RW.q (ADP Dw gx6 (B5 true) gx5 2) (CI (AFV Dw gx6 0 0 (Leaf.mk 2 (bs [])) (B5 true) gx5 2 (Block.mk x5.Bad x5.Wear (si x5.Leaves b (Leaf.mk 2 (bs []))))) (RW.nil (Ap (gn 3 0 (jl h))))))))))))))
  exact Wp.exit (jv h)
 intro v3 h E hE;exact AW hE (ws (gn 3 0 (Wp.ret (rr h▸rq))))
def dJ (xF:Flash) (b:List Bb) (a:Int) (c:Bool) (z1:Int) (z2:List Block):St:=A7 [(1,(.one (WY b))),(2,(I a)),(3,(B c)),(4,(pb 4)),(8,(pb 8)),(10,(pb 10)),(11,(I z1))] [(.box 4,[Bz xF.Blocks]),(.box 8,[BW []]),(.box 10,[BW z2])]
def dI (xF:Flash) (b:List Bb) (a:Int) (j1:Int×List Block) (z3:Bool):St:=A7 [(1,(.one (WY b))),(2,(I a)),(4,(pb 4)),(8,(pb 8)),(10,(pb 10)),(41,(B z3))] [(.box 4,[Bz xF.Blocks]),(.box 8,[BW []]),(.box 10,[BW j1.2])]
def dH (xF:Flash) (z4:Bool) (z5:List Block):St:=A7 [(4,(pb 4)),(8,(pb 8)),(12,(pb 12)),(13,(B z4))] [(.box 4,[Bz xF.Blocks]),(.box 8,[BW []]),(.box 12,[BW z5])]
theorem T6 (xF:Flash) (b:List Bb) (d:Int) (e:Bool) (r:Flash×Bool) (h:OT xF b d e=some r):AM Tryz.prog 18 [.sv (.agg (LH false xF)),.sv (.one (WY b)),.sv (I d),.sv (B e)] (.tup [(.agg (LH true r.1)),(B r.2)]) (rg 4):=by
 refine gk Tryz.func18 rfl Tryz.ntmps18 (ws (gn 3 0 (Wp.seq (ws (Ah 2 0 (RW.q (CR PF b) (RW.c 0 h (BR _ _ _) (λv1 gv1 h=>gn 1 0 (wc h (λh=>?_) (λh=>?_))))))))))
 ·exact ws (Ah 1 0 (RW.c 0 h (Fj _) (λv2 gv2 h=>gn 2 0 (Wp.ret (rr h▸rq)))))
 refine Wp.skip (EA h [1,2,3,4,8,10,11] [.box 4,.box 8,.box 10] (λa=>(dJ xF b d e a.1 a.2)) (λa h=>?_) (λj1 h=>?_))
 ·refine Dr [9] mixed (λ_ _=>nP) (Bf [0,1,2] 0 (bd h λx1 gx1 h=>KW.q 3 (pdr PF 80 gx1) (Dj 4 8 ?_ ?_)))
  ·exact KB.c 0 h (Qv _ _) (λv4 gv4 h=>oj [5] h)
  exact KB.o false (Bp 4 (KB.c 0 h (Qv _ _) (λv5 gv5 h=>Bf [5] 1 (Hs 6 (oj [] h)))))
 refine Wp.seq (ws (gn 3 0 (wc h (λh=>?_) (λh=>?_))))
 ·exact ws (Ah 1 0 (RW.c 0 h (Fj _) (λv6 gv6 h=>gn 2 0 (Wp.ret (rr h▸rq)))))
 refine Wp.skip (Wp.seq (EA h [1,2,4,8,10,41] [.box 4,.box 8,.box 10] (λa=>(dI xF b d j1 a)) (λa h=>?_) (λj2 h=>?_)))
 ·refine Ap (Ah 3 0 (AK 36 h (λh=>?_) (λh=>?_)))
  ·exact gn 5 0 (jn h)
  exact Ah 2 0 (RW.q (CR PF b) (gn 2 0 (jn h)))
 refine wc h (λh=>?_) (λh=>?_)
 ·exact ws (gn 3 0 (Wp.ret (rr h▸rq)))
 refine Wp.skip (EA h [4,8,12,13] [.box 4,.box 8,.box 12] (λa=>(dH xF a.1 a.2)) (λa h=>?_) (λj3 h=>?_))
 ·refine Dr [10] mixed (λ_ _=>nP) (Bf [0,1,2] 0 (bd h λx2 gx2 h=>KW.q 3 (Iz PF gx2) (KW.q 4 (L9 PF gx2 0 4) (Dj 5 9 ?_ ?_))))
  ·exact KB.c 0 h (gs (ca (ZX (ca (cs (CZ _)) rfl)) rfl) (VS _ _)) (λv8 gv8 h=>oj [6] h) (hc:=(.inr (λv=>by simp [BA,BD,AO,B4,QD,BW,LH])))
  exact KB.o false (Bp 5 (KB.c 0 h (gs (ca (ZX (ca (cs (CZ _)) rfl)) rfl) (VS _ _)) (λv9 gv9 h=>Bf [6] 1 (Hs 7 (oj [] h))) (hc:=(.inr (λv=>by simp [BA,BD,AO,B4,QD,BW,LH])))))
 refine Wp.seq (ws (gn 2 0 (wc h (λh=>?_) (λh=>?_))))
 ·exact ws (Ah 1 0 (RW.c 0 h (Fj _) (λv10 gv10 h=>gn 2 0 (Wp.ret (rr h▸rq)))))
 exact Wp.skip (ws (gn 3 0 (Wp.ret (rr h▸rq))))
def UK (a:List Int) (v2:AH) (v3:List Bb×Bool) (z1:Bool):St:=A7 [(0,(.one (PS a))),(3,(pb 3)),(4,(.one (F9 v3.1))),(5,(B v3.2)),(42,(B z1))] [(.box 3,[Bz v2.Flash.Blocks,Dp v2.Store.Vols,BB v2.Store.Arena.Knots,i6 v2.Store.Next,i6 v2.Seq,i6 v2.Tx,i6 v2.Base])]
def UJ (v2:AH) (v6:List Int) (z2:Bool) (z3:List Block):St:=A7 [(3,(pb 3)),(8,(.one (Er v6))),(9,(pb 9)),(10,(B z2))] [(.box 3,[Bz v2.Flash.Blocks,Dp v2.Store.Vols,BB v2.Store.Arena.Knots,i6 v2.Store.Next,i6 v2.Seq,i6 v2.Tx,i6 v2.Base]),(.box 9,[BW z3])]
def UI (v2:AH) (v6:List Int) (v10:AH×Bool) (z4:Bool):St:=A7 [(3,(pb 3)),(8,(.one (Er v6))),(11,(pb 11)),(87,(B z4))] [(.box 3,[Bz v2.Flash.Blocks,Dp v2.Store.Vols,BB v2.Store.Arena.Knots,i6 v2.Store.Next,i6 v2.Seq,i6 v2.Tx,i6 v2.Base]),(.box 11,[BW v10.1.Flash.Blocks,Do v10.1.Store.Vols,By v10.1.Store.Arena.Knots,i6 v10.1.Store.Next,i6 v10.1.Seq,i6 v10.1.Tx,i6 v10.1.Base])]
def UH (v2:AH) (v6:List Int) (v10:AH×Bool) (z5:Int):St:=A7 [(3,(pb 3)),(8,(.one (Er v6))),(11,(pb 11)),(13,(I z5))] [(.box 3,[Bz v2.Flash.Blocks,Dp v2.Store.Vols,BB v2.Store.Arena.Knots,i6 v2.Store.Next,i6 v2.Seq,i6 v2.Tx,i6 v2.Base]),(.box 11,[BW v10.1.Flash.Blocks,Do v10.1.Store.Vols,By v10.1.Store.Arena.Knots,i6 v10.1.Store.Next,i6 v10.1.Seq,i6 v10.1.Tx,i6 v10.1.Base])]
def UG (v2:AH):St:=A7 [(3,(pb 3))] [(.box 3,[Bz v2.Flash.Blocks,Dp v2.Store.Vols,BB v2.Store.Arena.Knots,i6 v2.Store.Next,i6 v2.Seq,i6 v2.Tx,i6 v2.Base])]
def UF (v2:AH) (v15:List Int) (z6:Int):St:=A7 [(3,(pb 3)),(18,(.one (Er v15))),(19,(I z6))] [(.box 3,[Bz v2.Flash.Blocks,Dp v2.Store.Vols,BB v2.Store.Arena.Knots,i6 v2.Store.Next,i6 v2.Seq,i6 v2.Tx,i6 v2.Base])]
def UE (v2:AH):St:=A7 [(3,(pb 3))] [(.box 3,[Bz v2.Flash.Blocks,Dp v2.Store.Vols,BB v2.Store.Arena.Knots,i6 v2.Store.Next,i6 v2.Seq,i6 v2.Tx,i6 v2.Base])]
theorem Wz (b:List Int) (r:Bool) (h:IJ b=some r):AM Tryz.prog 4 [.sv (.one (PS b))] (B r) (rg 1):=by
 refine gk Tryz.func4 rfl Tryz.ntmps4 (ws (gn 1 0 (Wp.seq (ws (Ah 1 0 (RW.c 0 h (AFa _) (λv1 gv1 h=>RW.nil (wc h (λh=>?_) (λh=>?_)))))))))
 ·exact ws (gn 1 0 (Wp.ret (rr h▸rq)))
 refine Wp.skip (ws (Ah 1 0 (RW.c 0 h (YT _) (λv2 gv2 h=>gw 2 0 (Ah 1 0 (RW.c 0 h (pH _) (λv3 gv3 h=>gw 5 9 (Ah 1 0 (RW.c 0 h (T7 _) (λv4 gv4 h=>gn 5 9 (Wp.seq (EA h [0,3,4,5,42] [.box 3] (λa=>(UK b v2 v3 a)) (λa h=>?_) (λj1 h=>?_)))))))))))))
 ·refine Ap (Ah 4 0 (AK 37 h (λh=>?_) (λh=>?_)))
  ·exact gn 5 0 (jn h)
  exact Ah 2 0 (RW.c 0 h (gs (ca (co (cs (ACc _))) (ca (co (cs (ACc _))) rfl)) (aX _ _)) (λv5 gv5 h=>gn 2 0 (jn h)) (hc:=(.inr (λv=>rfl))))
 refine wc h (λh=>?_) (λh=>?_)
 ·exact ws (gn 1 0 (Wp.ret (rr h▸rq)))
 refine Wp.skip (Wp.seq (ws (gn 2 0 (wc h (λh=>?_) (λh=>?_)))))
 ·exact ws (Ah 1 0 (RW.q (CR PF v3.1) (gn 2 0 (Wp.ret (rr h▸rq)))))
 refine Wp.skip (ws (Ah 1 0 (RW.c 0 h (YS _) (λv6 gv6 h=>gn 1 1 (EA h [3,8,9,10] [.box 3,.box 9] (λa=>(UJ v2 v6 a.1 a.2)) (λa h=>?_) (λj2 h=>?_))))))
 ·refine Dr [20] mixed (λ_ _=>nP) (Bf [0,1,2,3] 0 (bd h λx1 gx1 h=>KW.q 4 (Iz k3 gx1) (KW.q 5 (CB k3 gx1 0) (Bf [6] 0 (KW.q 7 (CR PF v3.1) (Bf [8] 0 (bd h λx2 gx2 h=>KW.q 9 (prm gx2) (Bf [10] 0 (bd h λx3 gx3 h=>KW.q 11 (Iz k3 gx3) (KW.q 12 (CB k3 gx3 0) (Bf [13,14] 0 (Dj 15 19 ?_ ?_))))))))))))
  ·exact KB.c 0 h (gs (ca rfl (ca (co (cs (ACc _))) rfl)) (T6 _ _ _ _)) (λv8 gv8 h=>oj [16] h) (hc:=(.inr (λv=>by simp [BA,BD,AO,B4,QD,BW,LH])))
  exact KB.o false (Bp 15 (KB.c 0 h (gs (ca rfl (ca (co (cs (ACc _))) rfl)) (T6 _ _ _ _)) (λv9 gv9 h=>Bf [16] 1 (Hs 17 (oj [] h))) (hc:=(.inr (λv=>by simp [BA,BD,AO,B4,QD,BW,LH])))))
 refine ws (Ah 1 0 (RW.c 0 h (gs (ca (ZX (ca (cs (CZ _)) rfl)) rfl) (LT _)) (λv10 gv10 h=>gn 6 1 (Wp.seq (EA h [3,8,11,87] [.box 3,.box 11] (λa=>(UI v2 v6 v10 a)) (λa h=>?_) (λj3 h=>?_)))) (hc:=(.inr (λv=>by simp [BA,BD,AO,B4,Zh,QD,Lr,Do,BW,By,QZ])))))
 ·refine Ap (Ah 3 0 (AK 76 h (λh=>?_) (λh=>?_)))
  ·exact gn 11 0 (jn h)
  refine Ah 4 0 (AK 80 h (λh=>?_) (λh=>?_))
  ·exact gn 7 0 (jn h)
  exact Ah 4 0 (RW.c 0 h (gs (ca (ZX (ca (cs (Fz _)) (ca (cs (Dt _)) rfl))) rfl) (Sa _ _)) (λv11 gv11 h=>gn 2 0 (jn h)) (hc:=(.inr (λv=>rfl))))
 refine wc h (λh=>?_) (λh=>?_)
 ·exact ws (gn 1 0 (Wp.ret (rr h▸rq)))
 refine Wp.skip (Wp.seq (ws (gn 1 0 (DA h [3,8,11,13] [.box 3,.box 11] (λs=>(UH v2 v6 v10 s)) [3] [.box 3] (λ_=>(UG v2)) DM ?_ ?_))))
 ·rintro d o (h:Fs v2 v6 v10 d=some o) hk1;refine Wp.seq (ws (Ah 4 0 (RW.q (CR Es v2.Store.Vols) (gn 1 0 (wc h (λh=>?_) (λh=>?_))))))
  ·refine Wp.skip (Wp.seq (Wp.block (Wp.seq (Dr [] mixed (λ_ _=>nP) (Bf [0,1,2,3,4] 0 (bd h λx4 gx4 h=>KW.q 5 (Iz Es gx4) (KW.q 6 (DB Es gx4 0 0) (KW.q 7 (CB Es gx4 0) (Bf [8] 0 (bd h λx5 gx5 h=>KW.q 9 (Iz k3 gx5) (KW.q 10 (CB k3 gx5 0) (Bf [11] 0 (Bp 12 (KB.c 0 h (Sw _ _ _) (λv12 gv12 h=>Bf [13] 1 (Hs 14 (Hs 15 (Bf [16,17] 0 (Bc (Wp.seq (Dr [] mixed (λ_ _=>nP) (Bf [0,1,2,3,4] 0 (bd h λx6 gx6 h=>KW.q 5 (Iz Es gx6) (KW.q 6 (DB Es gx6 0 0) (KW.q 7 (CB Es gx6 0) (Bf [8] 0 ?_))))))))))))))))))))))))))
   refine bd h λx7 gx7 h=>KW.q 9 (Iz k3 gx7) (KW.q 10 (CB k3 gx7 0) (Bf [11] 0 (Bp 12 (KB.c 0 h (gs (ca (ZX (ca (cs (CZ _)) (ca (cs (Fz _)) (ca (cs (Dt _)) rfl)))) rfl) (Sw _ _ _)) (λv13 gv13 h=>Bf [13] 1 (Hs 14 (Hs 15 (Bf [16,17] 0 (Bc (ws (Ah 3 0 (AK 130 h (λh=>?_) (λh=>?_))))))))) (hc:=(.inr (λv=>rfl)))))))
   ·exact gn 4 0 (wt (ws (gn 1 0 (Wp.ret (rr (jo h hk1)▸rq)))))
   refine gn 4 0 (wc h (λh=>?_) (λh=>?_))
   ·exact ws (gn 1 0 (Wp.ret (rr (jo h hk1)▸rq)))
   exact Wp.skip (Ap (gn 3 0 (jl h)))
  exact Wp.exit (jx h)
 intro v14 h E hE;refine AW hE (ws (Ah 1 0 (RW.c 0 h (QQ _) (λv15 gv15 h=>gn 1 1 (Wp.seq (ws (gn 1 0 (DA h [3,18,19] [.box 3] (λs=>(UF v2 v15 s)) [3] [.box 3] (λ_=>(UE v2)) DM ?_ ?_))))))))
 ·rintro e o (h:Fq v2 v15 e=some o) hk1;refine Wp.seq (ws (Ah 2 0 (RW.q (CR k3 v15) (gn 1 0 (wc h (λh=>?_) (λh=>?_))))))
  ·refine Wp.skip (Wp.seq (Wp.block (Wp.seq (Sh 10 mixed (D3 8 (bd h λx8 gx8 h=>SW.q (Iz k3 gx8) (SW.q (CB k3 gx8 0) (SW.nil (RW.c 0 h (Mc _ _ _ _) (λv16 gv16 h=>gn 1 0 (wc h (λh=>?_) (λh=>?_))))))))))))
   ·exact ws (gn 1 0 (Wp.ret (rr (jo h hk1)▸rq)))
   exact Wp.skip (Ap (gn 3 0 (jl h)))
  exact Wp.exit (jx h)
 intro v17 h E hE;exact AW hE (Wp.seq (Dr [] mixed (λ_ _=>nP) (Bf [0,2] 0 (Bp 1 (KB.c 0 h (TW _) (λv18 gv18 h=>Bp 3 (KB.c 0 h (Tz _) (λv19 gv19 h=>Bf [4,5] 0 (Bc (Wp.ret (rr h▸rq)))))))))))
end Go.TI
