/- What functions of the given program compute. No condition. -/
import Derived.Test.YtpafpcbnmplkfaaGreatMOT5
set_option linter.unusedVariables false
set_option linter.unusedSimpArgs false
namespace Go.TI
open Go
noncomputable section
structure Vp where
 Kind:Int
 Vol:Int
 Sector:Int
 Of:Int
 Text:ByteArray
structure Shelf where
 Vol:Int
 Texts:List ByteArray
structure Bi where
 Kind:Int
 Block:Int
 Leaf:Int
 Text:ByteArray
structure Leaf where
 Is:Int
 Text:ByteArray
structure Block where
 Bad:Bool
 Wear:Int
 Leaves:List Leaf
structure Flash where
 Blocks:List Block
structure Vol where
 Id:Int
 Root:Int
structure Cb where
 Leaf:Bool
 Kids:List Int
structure Arena where
 Knots:List Cb
structure Store where
 Vols:List Vol
 Arena:Arena
 Next:Int
structure AE where
 Flash:Flash
 Store:Store
 Seq:Int
 Tx:Int
 Base:Int
structure C3 where
 Kind:Int
 Vol:Int
 Arg:Int
 Chunk:Int
structure World where
 AE:AE
 Codes:List Int
 Told:List ByteArray
 Model:List Shelf
 Steps:List Bi
structure BE where
 b_:List Int
 i_:Int
 h_:Int
structure ED where
 text_:ByteArray
 at_:Int
 bad_:Bool
structure Page where
 Kind:Int
 Seq:Int
 Tx:Int
 Part:Int
 Count:Int
 Text:ByteArray
structure Al where
 Block:Int
 Leaf:Int
 Page:Page
structure Tx where
 Num:Int
 Seq:Int
 Recs:List C3
structure Be where
 Back:Int
 Size:Int
 Text:ByteArray
structure EU where
 f_:Flash
 steps_:List Bi
def BZ (xX:Int) (a:Int) (b:Int):Option (Bool):=
 bif(decide (xX>=a))then(some (decide (xX<=b)))
 else(some false)
def Wn (xQ:Vp):Option (Bool):=
 ((BZ xQ.Kind 1 6).bind λv1=>
 bif(!v1)then(some true)
 else((BZ xQ.Vol 1 9).bind λv2=>
 bif(!v2)then(some true)
 else(bif(decide ((FJ xQ.Text)>64))then(some true)
 else(bif(xQ.Kind !=1)then(some (!(seq xQ.Text (bs []))))
 else(some false)))):Option (Bool)).bind λj1=>
 bif j1 then(some false)
 else(bif(xQ.Kind==4)then((bif(xQ.Sector==0)then((BZ xQ.Of 1 9).bind λv3=>
 some v3)
 else(some false):Option (Bool)).bind λj2=>
 some j2)
 else(bif(xQ.Of !=0)then(some false)
 else((bif(xQ.Kind==3)then(some true)
 else(some (xQ.Kind==5)):Option (Bool)).bind λj3=>
 bif j3 then(some (xQ.Sector==0))
 else((BZ xQ.Sector 0 15).bind λv4=>
 some v4))))
def Jt (xN:Int) (b:Int) (a:Int):Option (Bool):=
 bif(decide (xN>=b))then(some (decide (xN<=a)))
 else(some false)
def IB (xN:Int) (b:Int) (a:List Block):Option ((Int×List Block)⊕(List Block)):=
 bif(decide (b<xN))then((mk 24 (Leaf.mk 0 (bs [])) 4).bind λq1=>
 (ap 40 a [(Block.mk false 0 q1)]).bind λq2=>
 some (.inl ((ad b 1),q2)))
 else(some (.inr a))
def OK (xN:Int):Option (Flash×Bool):=
 (BZ xN 3 10).bind λv1=>
 bif(!v1)then(some ((Flash.mk []),false))
 else((Av (λs:Int×List Block=>IB xN s.1 s.2) (0,[])).bind λv2=>
 some ((Flash.mk v2),true))
def JB (xF:Flash) (b:Int) (a:List Block):Option ((Int×List Block)⊕(List Block)):=
 bif(decide (b<(ln xF.Blocks)))then((gi xF.Blocks b).bind λx1=>
 (ap 24 [] x1.Leaves).bind λq1=>
 (ap 40 a [(Block.mk x1.Bad x1.Wear q1)]).bind λq2=>
 some (.inl ((ad b 1),q2)))
 else(some (.inr a))
def Hg (xF:Flash):Option (Flash):=
 (Av (λs:Int×List Block=>JB xF s.1 s.2) (0,[])).bind λv1=>
 some (Flash.mk v1)
def Ml (xX:Leaf):Option (Bool):=
 bif(xX.Is==0)then(some (seq xX.Text (bs [])))
 else(bif(xX.Is==1)then((BZ (FJ xX.Text) 1 120).bind λv1=>
 some v1)
 else(bif(xX.Is==2)then(some (decide ((FJ xX.Text)<=120)))
 else(some false)))
def Ea (x1:Block) (a:Int):Option ((Int)⊕((Unit)⊕((Int)⊕((Unit)⊕(Bool))))):=
 bif(decide (a<(ln x1.Leaves)))then(((gi x1.Leaves a).bind λx2=>
 (Ml x2).bind λv2=>
 bif(!v2)then(some true)
 else(bif(decide (a>0))then((gi x1.Leaves (sb a 1)).bind λx3=>
 bif(x3.Is==0)then((gi x1.Leaves a).bind λx4=>
 some (x4.Is !=0))
 else(some false))
 else(some false)):Option (Bool)).bind λj2=>
 bif j2 then(some (.inr (.inr (.inr (.inr false)))))
 else(some (.inl (ad a 1))))
 else(some (.inr (.inl ())))
def Eb (xF:Flash) (a:Int):Option ((Int)⊕((Unit)⊕(Bool))):=
 bif(decide (a<(ln xF.Blocks)))then((gi xF.Blocks a).bind λx1=>
 (bif((ln x1.Leaves) !=4)then(some true)
 else((BZ x1.Wear 0 1000000000).bind λv1=>
 some (!v1)):Option (Bool)).bind λj1=>
 bif j1 then(some (.inr (.inr false)))
 else((Av (λs:Int=>Ea x1 s) 0).bind (Sum.elim (λv3=>(some (.inl (ad a 1)))) some)))
 else(some (.inr (.inl ())))
def FT (xF:Flash):Option (Bool):=
 (Av (λs:Int=>Eb xF s) 0).bind (Sum.elim (λv4=>((BZ (ln xF.Blocks) 3 10).bind λv5=>
 some v5)) some)
def DX (xB:Block) (a:Int):Option ((Int)⊕((Unit)⊕(Int))):=
 bif(decide (a<(ln xB.Leaves)))then((gi xB.Leaves a).bind λx1=>
 bif(x1.Is==0)then(some (.inr (.inr a)))
 else(some (.inl (ad a 1))))
 else(some (.inr (.inl ())))
def FZ (xB:Block):Option (Int):=
 (Av (λs:Int=>DX xB s) 0).bind (Sum.elim (λv1=>(some 4)) some)
def SF (xF:Flash) (xB:Int) (a:Int) (b:ByteArray):Option (Bool):=
 (BZ xB 0 (sb (ln xF.Blocks) 1)).bind λv1=>
 bif v1 then((gi xF.Blocks xB).bind λx1=>
 bif(!x1.Bad)then(bif(decide (a<4))then((gi xF.Blocks xB).bind λx2=>
 (FZ x2).bind λv2=>
 bif(a==v2)then((BZ (FJ b) 1 120).bind λv3=>
 some v3)
 else(some false))
 else(some false))
 else(some false))
 else(some false)
def Ku (xF:Flash) (xB:Int) (a:Int) (b:ByteArray):Option (Flash×Bool):=
 (Hg xF).bind λv1=>
 ((FT xF).bind λv2=>
 bif(!v2)then(some true)
 else((SF xF xB a b).bind λv3=>
 some (!v3)):Option (Bool)).bind λj1=>
 bif j1 then(some (v1,false))
 else((gi v1.Blocks xB).bind λx1=>
 (gi x1.Leaves a).bind λx2=>
 some ((Flash.mk (si v1.Blocks xB (Block.mk x1.Bad x1.Wear (si x1.Leaves a (Leaf.mk 1 b))))),true))
def RG (xF:Flash) (xB:Int):Option (Flash×Bool):=
 (Hg xF).bind λv1=>
 ((FT xF).bind λv2=>
 bif(!v2)then(some true)
 else((BZ xB 0 (sb (ln xF.Blocks) 1)).bind λv3=>
 bif(!v3)then(some true)
 else((gi xF.Blocks xB).bind λx1=>
 bif x1.Bad then(some true)
 else((gi xF.Blocks xB).bind λx2=>
 some (x2.Wear==1000000000)))):Option (Bool)).bind λj1=>
 bif j1 then(some (v1,false))
 else((gi xF.Blocks xB).bind λx3=>
 (mk 24 (Leaf.mk 0 (bs [])) 4).bind λq1=>
 (gi v1.Blocks xB).bind λx4=>
 some ((Flash.mk (si v1.Blocks xB (Block.mk false (ad x3.Wear 1) q1))),true))
def Ll (xF:Flash) (xS:Bi):Option (Flash×Bool):=
 bif(xS.Kind==1)then((Ku xF xS.Block xS.Leaf xS.Text).bind λv1=>
 some (v1.1,v1.2))
 else(bif(xS.Kind==2)then((RG xF xS.Block).bind λv2=>
 some (v2.1,v2.2))
 else((Hg xF).bind λv3=>
 some (v3,false)))
def Ga (b:List Bi) (c:Int) (a:List Block):Option ((Int×List Block)⊕((List Block)⊕((Flash×Int)))):=
 bif(decide (c<(ln b)))then(((gi b c).bind λx1=>
 (Ll (Flash.mk a) x1).bind λv3=>
 some (v3.2,v3.1.Blocks):Option (Bool×List Block)).bind λj1=>
 bif(!j1.1)then(some (.inr (.inr ((Flash.mk a),c))))
 else(some (.inl ((ad c 1),j1.2))))
 else(some (.inr (.inl a)))
def Mn (xF:Flash) (a:List Bi):Option (Flash×Int):=
 (Hg xF).bind λv1=>
 (Av (λs:Int×List Block=>Ga a s.1 s.2) (0,v1.Blocks)).bind (Sum.elim (λv5=>(some ((Flash.mk v5),(ln a)))) some)
def KQ:Option (List Leaf):=
 (mk 24 (Leaf.mk 0 (bs [])) 4).bind λq1=>
 some q1
def Qs (xF:Flash) (y1:Int) (a:List Block):Option ((Int×List Block)⊕(List Block)):=
 bif(decide (y1<(ln xF.Blocks)))then((gi xF.Blocks y1).bind λx1=>
 (ap 24 [] x1.Leaves).bind λq1=>
 (ap 40 a [(Block.mk x1.Bad x1.Wear q1)]).bind λq2=>
 some (.inl ((ad y1 1),q2)))
 else(some (.inr a))
def Lq (xF:Flash):Option (Flash):=
 (Av (λs:Int×List Block=>Qs xF s.1 s.2) (0,[])).bind λv1=>
 some (Flash.mk v1)
def rJ (xX:Leaf):Option (Bool):=
 bif(xX.Is==0)then(some (seq xX.Text (bs [])))
 else(bif(xX.Is==1)then((Jt (FJ xX.Text) 1 120).bind λv1=>
 some v1)
 else(bif(xX.Is==2)then(some (decide ((FJ xX.Text)<=120)))
 else(some false)))
def Mb (x1:Block) (y2:Int):Option ((Int)⊕((Unit)⊕((Int)⊕((Unit)⊕(Bool))))):=
 bif(decide (y2<(ln x1.Leaves)))then((gi x1.Leaves y2).bind λx2=>
 ((rJ x2).bind λv2=>
 bif(!v2)then(some true)
 else(bif(decide (y2>0))then((gi x1.Leaves (sb y2 1)).bind λx3=>
 bif(x3.Is==0)then(some (x2.Is !=0))
 else(some false))
 else(some false)):Option (Bool)).bind λj2=>
 bif j2 then(some (.inr (.inr (.inr (.inr false)))))
 else(some (.inl (ad y2 1))))
 else(some (.inr (.inl ())))
def Mc (xF:Flash) (y1:Int):Option ((Int)⊕((Unit)⊕(Bool))):=
 bif(decide (y1<(ln xF.Blocks)))then((gi xF.Blocks y1).bind λx1=>
 (bif((ln x1.Leaves) !=4)then(some true)
 else((Jt x1.Wear 0 1000000000).bind λv1=>
 some (!v1)):Option (Bool)).bind λj1=>
 bif j1 then(some (.inr (.inr false)))
 else((Av (λs:Int=>Mb x1 s) 0).bind (Sum.elim (λv3=>(some (.inl (ad y1 1)))) some)))
 else(some (.inr (.inl ())))
def Oi (xF:Flash):Option (Bool):=
 (Av (λs:Int=>Mc xF s) 0).bind (Sum.elim (λv4=>((Jt (ln xF.Blocks) 3 10).bind λv5=>
 some v5)) some)
def Qr (xF:Flash) (xB:Int):Option (Bool):=
 (Oi xF).bind λv1=>
 bif v1 then((Jt xB 0 (sb (ln xF.Blocks) 1)).bind λv2=>
 bif v2 then((gi xF.Blocks xB).bind λx1=>
 some (!x1.Bad))
 else(some false))
 else(some false)
def Qu (xB:Block) (y1:Int):Option ((Int)⊕((Unit)⊕(Int))):=
 bif(decide (y1<(ln xB.Leaves)))then((gi xB.Leaves y1).bind λx1=>
 bif(x1.Is==0)then(some (.inr (.inr y1)))
 else(some (.inl (ad y1 1))))
 else(some (.inr (.inl ())))
def Nx (xB:Block):Option (Int):=
 (Av (λs:Int=>Qu xB s) 0).bind (Sum.elim (λv1=>(some 4)) some)
def QY (xF:Flash) (xB:Int) (a:Int) (b:ByteArray):Option (Flash×Bool):=
 (Lq xF).bind λv1=>
 ((Qr xF xB).bind λv2=>
 bif(!v2)then(some true)
 else((Jt a 0 3).bind λv3=>
 bif(!v3)then(some true)
 else((gi xF.Blocks xB).bind λx1=>
 (Nx x1).bind λv4=>
 bif(a !=v4)then(some true)
 else((Jt (FJ b) 1 120).bind λv5=>
 some (!v5)))):Option (Bool)).bind λj1=>
 bif j1 then(some (v1,false))
 else((gi v1.Blocks xB).bind λx2=>
 (gi x2.Leaves a).bind λx3=>
 some ((Flash.mk (si v1.Blocks xB (Block.mk x2.Bad x2.Wear (si x2.Leaves a (Leaf.mk 1 b))))),true))
def kS (xF:Flash) (xB:Int):Option (Flash×Bool):=
 (Lq xF).bind λv1=>
 ((Qr xF xB).bind λv2=>
 bif(!v2)then(some true)
 else((gi xF.Blocks xB).bind λx1=>
 some (x1.Wear==1000000000)):Option (Bool)).bind λj1=>
 bif j1 then(some (v1,false))
 else((KQ).bind λv3=>
 (gi v1.Blocks xB).bind λx2=>
 (gi (si v1.Blocks xB (Block.mk x2.Bad x2.Wear v3)) xB).bind λx3=>
 (gi (si v1.Blocks xB (Block.mk x2.Bad x2.Wear v3)) xB).bind λx4=>
 some ((Flash.mk (si (si v1.Blocks xB (Block.mk x2.Bad x2.Wear v3)) xB (Block.mk x4.Bad (ad x3.Wear 1) x4.Leaves))),true))
def Tg (xF:Flash) (xS:Bi):Option (Flash×Bool):=
 bif(xS.Kind==1)then((QY xF xS.Block xS.Leaf xS.Text).bind λv1=>
 some (v1.1,v1.2))
 else(bif(xS.Kind==2)then((kS xF xS.Block).bind λv2=>
 some (v2.1,v2.2))
 else((Lq xF).bind λv3=>
 some (v3,false)))
def WD (a:List Int):Option (Bool):=
 some (decide ((ln a)>1048576))
def Jg (a:List Int) (c:Int) (b:Int):Option ((Int×Int)⊕(Int)):=
 (bif(decide (b<(ln a)))then(some (decide (b<4000)))
 else(some false):Option (Bool)).bind λj1=>
 bif j1 then((gi a b).bind λx1=>
 some (.inl ((ban .i64 (ad (ad (ml c 131) (IntKind.i64.wrap x1)) 7) 1073741823),(ad b 1))))
 else(some (.inr c))
def PV (a:List Int):Option (BE):=
 (Av (λs:Int×Int=>Jg a s.1 s.2) ((ad 36501 (ln a)),0)).bind λv1=>
 some (BE.mk a 0 v1)
def Ig (xC:BE):Option (Int×BE):=
 bif(decide (xC.i_<(ln xC.b_)))then((gi xC.b_ xC.i_).bind λx1=>
 some ((ban .i64 (ad (ban .i64 (bxo .i64 (Int.fdiv (ad (ml xC.h_ 6364136223846793005) 1442695040888963407) (2^(min (33:Int).toNat IntKind.i64.bits))) (Int.fdiv (ad (ml xC.h_ 6364136223846793005) 1442695040888963407) (2^(min (45:Int).toNat IntKind.i64.bits)))) 255) (IntKind.i64.wrap x1)) 255),(BE.mk xC.b_ (ad xC.i_ 1) (ad (ml xC.h_ 6364136223846793005) 1442695040888963407))))
 else(some ((ban .i64 (bxo .i64 (Int.fdiv (ad (ml xC.h_ 6364136223846793005) 1442695040888963407) (2^(min (33:Int).toNat IntKind.i64.bits))) (Int.fdiv (ad (ml xC.h_ 6364136223846793005) 1442695040888963407) (2^(min (45:Int).toNat IntKind.i64.bits)))) 255),(BE.mk xC.b_ xC.i_ (ad (ml xC.h_ 6364136223846793005) 1442695040888963407))))
def Dw (xC:BE) (xN:Int):Option (Int×BE):=
 bif(decide (xN<=0))then(some (0,xC))
 else(bif(decide (xN<=256))then((Ig xC).bind λv1=>
 (rm .i64 v1.1 xN).bind λx1=>
 some (x1,v1.2))
 else((Ig xC).bind λv2=>
 (Ig v2.2).bind λv3=>
 (Ig v3.2).bind λv4=>
 (Ig v4.2).bind λv5=>
 (rm .i64 (ad (ad (ad (ml v2.1 16777216) (ml v3.1 65536)) (ml v4.1 256)) v5.1) xN).bind λx2=>
 some (x2,v5.2)))
def OG (xF:Flash) (xB:Int) (a:Int):Option (ByteArray×Bool):=
 ((BZ xB 0 (sb (ln xF.Blocks) 1)).bind λv1=>
 bif(!v1)then(some true)
 else((gi xF.Blocks xB).bind λx1=>
 (BZ a 0 (sb (ln x1.Leaves) 1)).bind λv2=>
 bif(!v2)then(some true)
 else((gi xF.Blocks xB).bind λx2=>
 (gi x2.Leaves a).bind λx3=>
 some (x3.Is !=1))):Option (Bool)).bind λj1=>
 bif j1 then(some ((bs []),false))
 else((gi xF.Blocks xB).bind λx4=>
 (gi x4.Leaves a).bind λx5=>
 some (x5.Text,true))
def Ii (a:Int) (b:Int):Option ((Int×Int)⊕(Int)):=
 bif(decide (b<8))then(bif((Int.tmod a 2)==1)then(some (.inl ((xr (IntKind.u32.wrap (Int.tdiv a 2)) 3558460437),(ad b 1))))
 else(some (.inl ((IntKind.u32.wrap (Int.tdiv a 2)),(ad b 1)))))
 else(some (.inr a))
def JD (a:ByteArray) (b:Int) (c:Int):Option ((Int×Int)⊕(Int)):=
 bif(decide (c<(FJ a)))then((sx a c).bind λx1=>
 (Av (λs:Int×Int=>Ii s.1 s.2) ((xr b (IntKind.u32.wrap x1)),0)).bind λv1=>
 some (.inl (v1,(ad c 1))))
 else(some (.inr b))
def QG (b:Int) (a:ByteArray):Option (Int):=
 (Av (λs:Int×Int=>JD a s.1 s.2) (b,0)).bind λv2=>
 some v2
def Nl (a:ByteArray):Option (Int):=
 (QG 4294967295 a).bind λv1=>
 some v1
def Kp (xX:Int):Option (ByteArray):=
 some (E9 [(IntKind.u8.wrap (Int.fdiv xX (2^(min (24:Int).toNat IntKind.u32.bits)))),(IntKind.u8.wrap (Int.fdiv xX (2^(min (16:Int).toNat IntKind.u32.bits)))),(IntKind.u8.wrap (Int.fdiv xX (2^(min (8:Int).toNat IntKind.u32.bits)))),(IntKind.u8.wrap xX)])
def Kq (a:ByteArray):Option (ByteArray×Bool):=
 (bif(decide ((sb (FJ a) 4)<0))then(some true)
 else(bif(decide ((sb (FJ a) 4)>20000))then(some true)
 else((sub a (sb (FJ a) 4) (FJ a)).bind λx1=>
 (sub a 0 (sb (FJ a) 4)).bind λx2=>
 (Nl x2).bind λv1=>
 (Kp v1).bind λv2=>
 some (!(seq x1 v2)))):Option (Bool)).bind λj1=>
 bif j1 then(some ((bs []),false))
 else((sub a 0 (sb (FJ a) 4)).bind λx3=>
 some (x3,true))
def HF (b:Int) (a:List Int):Option ((Int×List Int)⊕(Int×List Int)):=
 bif(decide (b>127))then((ap 1 a [(IntKind.u8.wrap (ad (Int.tmod b 128) 128))]).bind λq1=>
 some (.inl ((qu b 128),q1)))
 else(some (.inr (b,a)))
def GW (xN:Int):Option (ByteArray):=
 (Av (λs:Int×List Int=>HF s.1 s.2) (xN,[])).bind λv1=>
 (ap 1 v1.2 [(IntKind.u8.wrap v1.1)]).bind λq2=>
 some (E9 q2)
def DC (b:ByteArray) (e:Int) (d:Int) (a:Int) (c:Int):Option ((Int×Int×Int)⊕((Unit)⊕((Int×Int×Bool)))):=
 (bif(decide (c<(FJ b)))then(some (decide (c<(ad e 5))))
 else(some false):Option (Bool)).bind λj1=>
 bif j1 then((sx b c).bind λx1=>
 (sx b c).bind λx2=>
 bif(decide (x2<128))then((bif(decide ((ad d (ml (Int.tmod (IntKind.i64.wrap x1) 128) a))>1000000000))then(some true)
 else((sub b e (ad c 1)).bind λx3=>
 (GW (ad d (ml (Int.tmod (IntKind.i64.wrap x1) 128) a))).bind λv2=>
 some (!(seq v2 x3))):Option (Bool)).bind λj2=>
 bif j2 then(some (.inr (.inr (0,0,false))))
 else(some (.inr (.inr ((ad d (ml (Int.tmod (IntKind.i64.wrap x1) 128) a)),(ad c 1),true)))))
 else(some (.inl ((ad d (ml (Int.tmod (IntKind.i64.wrap x1) 128) a)),(ml a 128),(ad c 1)))))
 else(some (.inr (.inl ())))
def Ji (a:ByteArray) (b:Int):Option (Int×Int×Bool):=
 (BZ b 0 (FJ a)).bind λv1=>
 bif(!v1)then(some (0,0,false))
 else((Av (λs:Int×Int×Int=>DC a b s.1 s.2.1 s.2.2) (0,1,b)).bind (Sum.elim (λv3=>(some (0,0,false))) some))
def EB (xC:ED):Option (Int×ED):=
 (Ji xC.text_ xC.at_).bind λv1=>
 (bif xC.bad_ then(some true)
 else(some (!v1.2.2)):Option (Bool)).bind λj1=>
 bif j1 then(some (0,(ED.mk xC.text_ xC.at_ true)))
 else(some (v1.1,(ED.mk xC.text_ v1.2.1 xC.bad_)))
def JH (xP:Page):Option (Bool):=
 ((BZ xP.Kind 1 2).bind λv1=>
 bif(!v1)then(some true)
 else((BZ xP.Seq 1 1000000000).bind λv2=>
 bif(!v2)then(some true)
 else((BZ xP.Tx 1 1000000000).bind λv3=>
 bif(!v3)then(some true)
 else((BZ xP.Count 1 9).bind λv4=>
 bif(!v4)then(some true)
 else((BZ xP.Part 0 (sb xP.Count 1)).bind λv5=>
 bif(!v5)then(some true)
 else(some (decide ((FJ xP.Text)>90))))))):Option (Bool)).bind λj1=>
 bif j1 then(some false)
 else(bif(xP.Kind==2)then(some true)
 else(some (xP.Count==1)))
def Jc (xN:Int):Option (ByteArray):=
 some (E9 [(IntKind.u8.wrap xN)])
def JE (a:ByteArray):Option (ByteArray×Bool):=
 bif(decide ((FJ a)>20000))then(some ((bs []),false))
 else((Nl a).bind λv1=>
 (Kp v1).bind λv2=>
 (HU a v2).bind λx1=>
 some (x1,true))
def Es (xP:Page):Option (ByteArray×Bool):=
 (JH xP).bind λv1=>
 bif(!v1)then(some ((bs []),false))
 else((Jc xP.Kind).bind λv2=>
 (GW xP.Seq).bind λv3=>
 (HU v2 v3).bind λx1=>
 (GW xP.Tx).bind λv4=>
 (HU x1 v4).bind λx2=>
 (GW xP.Part).bind λv5=>
 (HU x2 v5).bind λx3=>
 (GW xP.Count).bind λv6=>
 (HU x3 v6).bind λx4=>
 (HU x4 xP.Text).bind λx5=>
 (JE x5).bind λv7=>
 some (v7.1,v7.2))
def Fu (xT:ByteArray):Option (Page×Bool):=
 (Kq xT).bind λv1=>
 (bif(!v1.2)then(some true)
 else(some (decide ((FJ v1.1)<1))):Option (Bool)).bind λj1=>
 (EB (ED.mk v1.1 1 j1)).bind λv2=>
 (EB v2.2).bind λv3=>
 (EB v3.2).bind λv4=>
 (EB v4.2).bind λv5=>
 bif v5.2.bad_ then(some ((Page.mk 0 0 0 0 0 (bs [])),false))
 else((sx v1.1 0).bind λx1=>
 (sub v1.1 v5.2.at_ (FJ v1.1)).bind λx2=>
 (Es (Page.mk (IntKind.i64.wrap x1) v2.1 v3.1 v4.1 v5.1 x2)).bind λv6=>
 (bif(!v6.2)then(some true)
 else(some (!(seq v6.1 xT))):Option (Bool)).bind λj2=>
 bif j2 then(some ((Page.mk 0 0 0 0 0 (bs [])),false))
 else(some ((Page.mk (IntKind.i64.wrap x1) v2.1 v3.1 v4.1 v5.1 x2),true)))
def EW (xF:Flash) (c:Int) (a:List Al) (b:Int):Option ((List Al×Int)⊕(List Al)):=
 (gi xF.Blocks c).bind λx1=>
 bif(decide (b<(ln x1.Leaves)))then((OG xF c b).bind λv1=>
 (Fu v1.1).bind λv2=>
 (bif v1.2 then(some v2.2)
 else(some false):Option (Bool)).bind λj1=>
 bif j1 then((ap 72 a [(Al.mk c b v2.1)]).bind λq1=>
 some (.inl (q1,(ad b 1))))
 else(some (.inl (a,(ad b 1)))))
 else(some (.inr a))
def Ey (xF:Flash) (a:List Al) (b:Int):Option ((List Al×Int)⊕(List Al)):=
 bif(decide (b<(ln xF.Blocks)))then((Av (λs:List Al×Int=>EW xF b s.1 s.2) (a,0)).bind λv3=>
 some (.inl (v3,(ad b 1))))
 else(some (.inr a))
def JF (a:List Al) (b:Int):Option ((List Al×Int)⊕(List Al)):=
 (bif(decide (b>0))then((gi a (sb b 1)).bind λx2=>
 (gi a b).bind λx3=>
 some (decide (x2.Page.Seq>x3.Page.Seq)))
 else(some false):Option (Bool)).bind λj2=>
 bif j2 then((gi a b).bind λx4=>
 (gi a (sb b 1)).bind λx5=>
 (gi a b).bind λx6=>
 (gi (si a b x5) (sb b 1)).bind λx7=>
 some (.inl ((si (si a b x5) (sb b 1) x4),(sb b 1))))
 else(some (.inr a))
def JG (a:List Al) (b:Int):Option ((List Al×Int)⊕(List Al)):=
 bif(decide (b<(ln a)))then((Av (λs:List Al×Int=>JF s.1 s.2) (a,b)).bind λv5=>
 some (.inl (v5,(ad b 1))))
 else(some (.inr a))
def FP (xF:Flash):Option (List Al):=
 (Av (λs:List Al×Int=>Ey xF s.1 s.2) ([],0)).bind λv4=>
 (Av (λs:List Al×Int=>JG s.1 s.2) (v4,1)).bind λv6=>
 some v6
def OE:Option (Store):=
 some (Store.mk [] (Arena.mk []) 1)
def Nn (xR:C3):Option (Bool):=
 (BZ xR.Arg 0 1000000000).bind λv1=>
 bif(!v1)then(some false)
 else(bif(xR.Kind==1)then((bif(xR.Vol==0)then(some (xR.Chunk==0))
 else(some false):Option (Bool)).bind λj1=>
 some j1)
 else(((BZ xR.Kind 2 5).bind λv2=>
 bif(!v2)then(some true)
 else((BZ xR.Vol 1 9).bind λv3=>
 bif(!v3)then(some true)
 else(bif(xR.Kind !=4)then(some (xR.Chunk !=0))
 else(some false))):Option (Bool)).bind λj2=>
 bif j2 then(some false)
 else(bif(xR.Kind==2)then(some (decide (xR.Arg<=9)))
 else(bif(xR.Kind==3)then(some (xR.Arg==0))
 else(bif(xR.Kind==4)then(bif(decide (xR.Arg<16))then((BZ xR.Chunk 1 1000000000).bind λv4=>
 some v4)
 else(some false))
 else(some (decide (xR.Arg<16))))))))
def Ez (xT:ByteArray) (a:List C3) (y01:ByteArray) (y11:Int) (y21:Bool):Option ((List C3×ByteArray×Int×Bool)⊕((List C3)⊕((List C3×Bool)))):=
 (bif(decide (y11<(FJ xT)))then(some (!y21))
 else(some false):Option (Bool)).bind λj1=>
 bif j1 then((sx xT y11).bind λx1=>
 (EB (ED.mk y01 (ad y11 1) y21)).bind λv1=>
 (EB v1.2).bind λv2=>
 (bif v2.2.bad_ then(some true)
 else((Nn (C3.mk (qu (IntKind.i64.wrap x1) 16) (Int.tmod (IntKind.i64.wrap x1) 16) v1.1 v2.1)).bind λv3=>
 some (!v3)):Option (Bool)).bind λj2=>
 bif j2 then(some (.inr (.inr ([],false))))
 else((ap 32 a [(C3.mk (qu (IntKind.i64.wrap x1) 16) (Int.tmod (IntKind.i64.wrap x1) 16) v1.1 v2.1)]).bind λq1=>
 some (.inl (q1,v2.2.text_,v2.2.at_,v2.2.bad_))))
 else(some (.inr (.inl a)))
def Kt (xT:ByteArray):Option (List C3×Bool):=
 (Av (λs:List C3×ByteArray×Int×Bool=>Ez xT s.1 s.2.1 s.2.2.1 s.2.2.2) ([],xT,0,false)).bind (Sum.elim (λv4=>(some (v4,true))) some)
def IQ (f:List Al) (h:Int) (d:Int) (b:Int) (e:ByteArray) (c:Bool) (g:Int) (a:Int):Option ((Int×ByteArray×Bool×Int×Int)⊕(Int×ByteArray×Bool×Int)):=
 (bif(decide (g<(ln f)))then(some (!c))
 else(some false):Option (Bool)).bind λj2=>
 bif j2 then((gi f g).bind λx1=>
 (bif(x1.Page.Kind !=2)then(some true)
 else(bif(x1.Page.Tx !=h)then(some true)
 else(bif(x1.Page.Part !=d)then(some true)
 else(bif(decide (d>0))then(some (x1.Page.Count !=b))
 else(some false)))):Option (Bool)).bind λj3=>
 bif j3 then(some (.inl (b,e,c,(ad g 1),a)))
 else((HU e x1.Page.Text).bind λx2=>
 (bif(d==0)then(some true)
 else(some (decide (x1.Page.Seq<a))):Option (Bool)).bind λj4=>
 bif j4 then(some (.inl (x1.Page.Count,x2,true,(ad g 1),x1.Page.Seq)))
 else(some (.inl (x1.Page.Count,x2,true,(ad g 1),a)))))
 else(some (.inr (b,e,c,a)))
def OC (e:List Al) (f:Int) (b:Int) (c:ByteArray) (a:Int) (d:Int):Option ((Int×ByteArray×Int×Int)⊕((ByteArray×Int)⊕((Tx×Bool)))):=
 (bif(a==0)then(some true)
 else(some (decide (a<b))):Option (Bool)).bind λj1=>
 bif j1 then((Av (λs:Int×ByteArray×Bool×Int×Int=>IQ e f a s.1 s.2.1 s.2.2.1 s.2.2.2.1 s.2.2.2.2) (b,c,false,0,d)).bind λv1=>
 bif(!v1.2.2.1)then(some (.inr (.inr ((Tx.mk f v1.2.2.2 []),false))))
 else(some (.inl (v1.1,v1.2.1,(ad a 1),v1.2.2.2))))
 else(some (.inr (.inl (c,d))))
def Wj (a:List Al) (b:Int):Option (Tx×Bool):=
 (Av (λs:Int×ByteArray×Int×Int=>OC a b s.1 s.2.1 s.2.2.1 s.2.2.2) (0,(bs []),0,0)).bind (Sum.elim (λv2=>((Kt v2.1).bind λv3=>
 some ((Tx.mk b v2.2 v3.1),v3.2))) some)
def Lk (a:List Int) (x1:Al) (b:List Int) (c:Int):Option ((List Int×Int)⊕(List Int)):=
 bif(decide (c<(ln a)))then((gi a c).bind λx2=>
 bif(decide (x2<x1.Page.Tx))then((gi a c).bind λx3=>
 (ap 8 b [x3]).bind λq1=>
 some (.inl (q1,(ad c 1))))
 else(some (.inl (b,(ad c 1)))))
 else(some (.inr b))
def Lj (a:List Int) (x1:Al) (b:List Int) (c:Int):Option ((List Int×Int)⊕(List Int)):=
 bif(decide (c<(ln a)))then((gi a c).bind λx4=>
 bif(decide (x4>x1.Page.Tx))then((gi a c).bind λx5=>
 (ap 8 b [x5]).bind λq3=>
 some (.inl (q3,(ad c 1))))
 else(some (.inl (b,(ad c 1)))))
 else(some (.inr b))
def Jl (b:List Al) (a:List Int) (c:Int):Option ((List Int×Int)⊕(List Int)):=
 bif(decide (c<(ln b)))then((gi b c).bind λx1=>
 bif(x1.Page.Kind !=2)then(some (.inl (a,(ad c 1))))
 else((Av (λs:List Int×Int=>Lk a x1 s.1 s.2) ([],0)).bind λv1=>
 (ap 8 v1 [x1.Page.Tx]).bind λq2=>
 (Av (λs:List Int×Int=>Lj a x1 s.1 s.2) (q2,0)).bind λv2=>
 some (.inl (v2,(ad c 1)))))
 else(some (.inr a))
def Jk (c:List Al) (v3:List Int) (a:List Tx) (b:Int):Option ((List Tx×Int)⊕(List Tx)):=
 bif(decide (b<(ln v3)))then((gi v3 b).bind λx6=>
 (Wj c x6).bind λv4=>
 bif v4.2 then((ap 40 a [v4.1]).bind λq4=>
 some (.inl (q4,(ad b 1))))
 else(some (.inl (a,(ad b 1)))))
 else(some (.inr a))
def PX (a:List Al):Option (List Tx):=
 (Av (λs:List Int×Int=>Jl a s.1 s.2) ([],0)).bind λv3=>
 (Av (λs:List Tx×Int=>Jk a v3 s.1 s.2) ([],0)).bind λv5=>
 some v5
def Gz (a:List Tx) (c:Int) (b:Int):Option ((Int×Int)⊕(Int)):=
 bif(decide (b<(ln a)))then((gi a b).bind λx1=>
 bif(decide ((ln x1.Recs)>0))then((gi a b).bind λx2=>
 (gi x2.Recs 0).bind λx3=>
 bif(x3.Kind==1)then(some (.inl (b,(ad b 1))))
 else(some (.inl (c,(ad b 1)))))
 else(some (.inl (c,(ad b 1)))))
 else(some (.inr c))
def HG (a:List Tx) (b:List Tx) (c:Int):Option ((List Tx×Int)⊕(List Tx)):=
 bif(decide (c<(ln a)))then((gi a c).bind λx4=>
 (ap 32 [] x4.Recs).bind λq1=>
 (ap 40 b [(Tx.mk x4.Num x4.Seq q1)]).bind λq2=>
 some (.inl (q2,(ad c 1))))
 else(some (.inr b))
def Nm (a:List Tx):Option (List Tx):=
 (Av (λs:Int×Int=>Gz a s.1 s.2) (0,0)).bind λv1=>
 (Av (λs:List Tx×Int=>HG a s.1 s.2) ([],v1)).bind λv2=>
 some v2
def JA (xA:Arena) (b:Int) (a:List Cb):Option ((Int×List Cb)⊕(List Cb)):=
 bif(decide (b<(ln xA.Knots)))then((gi xA.Knots b).bind λx1=>
 (gi xA.Knots b).bind λx2=>
 (ap 8 [] x2.Kids).bind λq1=>
 (ap 32 a [(Cb.mk x1.Leaf q1)]).bind λq2=>
 some (.inl ((ad b 1),q2)))
 else(some (.inr a))
def Mk (xA:Arena):Option (Arena):=
 (Av (λs:Int×List Cb=>JA xA s.1 s.2) (0,[])).bind λv1=>
 some (Arena.mk v1)
def EM (xS:Store):Option (Store):=
 (ap 16 [] xS.Vols).bind λq1=>
 (Mk xS.Arena).bind λv1=>
 some (Store.mk q1 v1 xS.Next)
def Ec (xA:Arena) (b:Int) (x1:Cb) (a:Int):Option ((Int)⊕((Unit)⊕((Int)⊕((Unit)⊕(Bool))))):=
 bif(decide (a<4))then((gi x1.Kids a).bind λx2=>
 (bif x1.Leaf then(bif(decide (x2<0))then(some true)
 else(bif(!x1.Leaf)then(bif(x2 !=(-1))then((BZ x2 0 (sb b 1)).bind λv1=>
 bif(!v1)then(some true)
 else((gi xA.Knots x2).bind λx3=>
 some (!x3.Leaf)))
 else(some false))
 else(some false)))
 else(bif(!x1.Leaf)then(bif(x2 !=(-1))then((BZ x2 0 (sb b 1)).bind λv2=>
 bif(!v2)then(some true)
 else((gi xA.Knots x2).bind λx4=>
 some (!x4.Leaf)))
 else(some false))
 else(some false)):Option (Bool)).bind λj1=>
 bif j1 then(some (.inr (.inr (.inr (.inr false)))))
 else(some (.inl (ad a 1))))
 else(some (.inr (.inl ())))
def Ed (xA:Arena) (a:Int):Option ((Int)⊕((Unit)⊕(Bool))):=
 bif(decide (a<(ln xA.Knots)))then((gi xA.Knots a).bind λx1=>
 bif((ln x1.Kids) !=4)then(some (.inr (.inr false)))
 else((Av (λs:Int=>Ec xA a x1 s) 0).bind (Sum.elim (λv3=>(some (.inl (ad a 1)))) some)))
 else(some (.inr (.inl ())))
def G4 (xA:Arena):Option (Bool):=
 (Av (λs:Int=>Ed xA s) 0).bind (Sum.elim (λv4=>(some true)) some)
def Hf (xA:Arena) (a:Int):Option (Bool):=
 bif(a==(-1))then(some true)
 else((BZ a 0 (sb (ln xA.Knots) 1)).bind λv1=>
 bif v1 then((gi xA.Knots a).bind λx1=>
 some (!x1.Leaf))
 else(some false))
def M8 (xA:Arena) (b:Int) (a:Int):Option (Int):=
 bif(decide (b<0))then(some 0)
 else((gi xA.Knots b).bind λx1=>
 (gi x1.Kids (qu a 4)).bind λx2=>
 bif(decide (x2<0))then(some 0)
 else((gi xA.Knots x2).bind λx3=>
 (gi x3.Kids (Int.tmod a 4)).bind λx4=>
 some x4))
def He (xS:Store) (a:List Int) (b:Int):Option ((List Int×Int)⊕(List Int)):=
 bif(decide (b<(ln xS.Vols)))then((gi xS.Vols b).bind λx1=>
 (ap 8 a [x1.Root]).bind λq1=>
 some (.inl (q1,(ad b 1))))
 else(some (.inr a))
def M7 (xS:Store):Option (List Int):=
 (Av (λs:List Int×Int=>He xS s.1 s.2) ([],0)).bind λv1=>
 some v1
def Jb (xA:Arena) (b:Int) (a:List Bool) (c:Int):Option ((List Bool×Int)⊕(List Bool)):=
 bif(decide (c<4))then((gi xA.Knots b).bind λx2=>
 (gi x2.Kids c).bind λx3=>
 bif(decide (x3>=0))then((gi xA.Knots b).bind λx4=>
 (gi x4.Kids c).bind λx5=>
 (gi a x5).bind λx6=>
 some (.inl ((si a x5 true),(ad c 1))))
 else(some (.inl (a,(ad c 1)))))
 else(some (.inr a))
def SD (xA:Arena) (a:Int):Option (List Bool):=
 (mk 1 false (ln xA.Knots)).bind λq1=>
 bif(decide (a<0))then(some q1)
 else((gi q1 a).bind λx1=>
 (Av (λs:List Bool×Int=>Jb xA a s.1 s.2) ((si q1 a true),0)).bind λv1=>
 some v1)
def FO (xA:Arena) (a:List Int) (b:Bool) (c:Int):Option ((Bool×Int)⊕(Bool)):=
 (bif(decide (c<(ln a)))then(some b)
 else(some false):Option (Bool)).bind λj1=>
 bif j1 then((gi a c).bind λx1=>
 (Hf xA x1).bind λv2=>
 some (.inl (v2,(ad c 1))))
 else(some (.inr b))
def GX (v5:List Bool) (a:List Bool) (b:Int):Option ((List Bool×Int)⊕(List Bool)):=
 bif(decide (b<(ln v5)))then((gi a b).bind λx3=>
 bif x3 then((gi a b).bind λx4=>
 some (.inl ((si a b true),(ad b 1))))
 else((gi v5 b).bind λx5=>
 (gi a b).bind λx6=>
 some (.inl ((si a b x5),(ad b 1)))))
 else(some (.inr a))
def FN (xA:Arena) (a:List Int) (b:List Bool) (c:Int):Option ((List Bool×Int)⊕(List Bool)):=
 bif(decide (c<(ln a)))then((gi a c).bind λx2=>
 (SD xA x2).bind λv5=>
 (Av (λs:List Bool×Int=>GX v5 s.1 s.2) (b,0)).bind λv6=>
 some (.inl (v6,(ad c 1))))
 else(some (.inr b))
def FL (c:List Int) (j2:Bool×List Int) (b:Int) (a:List Int):Option ((Int×List Int)⊕(List Int)):=
 (bif(decide (b<4))then(some (!j2.1))
 else(some false):Option (Bool)).bind λj3=>
 bif j3 then((gi a b).bind λx10=>
 bif(decide (x10>=0))then((gi a b).bind λx11=>
 (gi c x11).bind λx12=>
 (gi a b).bind λx13=>
 some (.inl ((ad b 1),(si a b x12))))
 else(some (.inl ((ad b 1),a))))
 else(some (.inr a))
def FM (xA:Arena) (v7:List Bool) (a:List Int) (c:Int) (b:List Cb):Option ((List Int×Int×List Cb)⊕(List Int×List Cb)):=
 bif(decide (c<(ln xA.Knots)))then((gi v7 c).bind λx7=>
 bif(!x7)then(some (.inl (a,(ad c 1),b)))
 else(((gi xA.Knots c).bind λx8=>
 (gi xA.Knots c).bind λx9=>
 (ap 8 [] x9.Kids).bind λq4=>
 some (x8.Leaf,q4):Option (Bool×List Int)).bind λj2=>
 (Av (λs:Int×List Int=>FL a j2 s.1 s.2) (0,j2.2)).bind λv8=>
 (gi a c).bind λx14=>
 (ap 32 b [(Cb.mk j2.1 v8)]).bind λq7=>
 some (.inl ((si a c (ln b)),(ad c 1),q7))))
 else(some (.inr (a,b)))
def FK (v9:List Int×List Cb) (a:List Int) (b:Int):Option ((List Int×Int)⊕(List Int)):=
 bif(decide (b<(ln a)))then((gi a b).bind λx15=>
 bif(decide (x15>=0))then((gi a b).bind λx16=>
 (gi v9.1 x16).bind λx17=>
 (gi a b).bind λx18=>
 some (.inl ((si a b x17),(ad b 1))))
 else(some (.inl (a,(ad b 1)))))
 else(some (.inr a))
def JC (xA:Arena) (a:List Int):Option (Arena×List Int):=
 (ap 8 [] a).bind λq1=>
 (G4 xA).bind λv1=>
 (Av (λs:Bool×Int=>FO xA a s.1 s.2) (v1,0)).bind λv3=>
 bif(!v3)then((Mk xA).bind λv4=>
 some (v4,q1))
 else((mk 1 false (ln xA.Knots)).bind λq2=>
 (Av (λs:List Bool×Int=>FN xA a s.1 s.2) (q2,0)).bind λv7=>
 (mk 8 0 (ln xA.Knots)).bind λq3=>
 (Av (λs:List Int×Int×List Cb=>FM xA v7 s.1 s.2.1 s.2.2) (q3,0,[])).bind λv9=>
 (Av (λs:List Int×Int=>FK v9 s.1 s.2) (q1,0)).bind λv10=>
 some ((Arena.mk v9.2),v10))
def Ij (xS:Store) (x1:Vol) (a:Int):Option ((Int)⊕((Unit)⊕((Int)⊕((Unit)⊕(Bool))))):=
 bif(decide (a<16))then((M8 xS.Arena x1.Root a).bind λv6=>
 bif(decide (v6>=xS.Next))then(some (.inr (.inr (.inr (.inr false)))))
 else(some (.inl (ad a 1))))
 else(some (.inr (.inl ())))
def Ik (xS:Store) (a:Int):Option ((Int)⊕((Unit)⊕(Bool))):=
 bif(decide (a<(ln xS.Vols)))then((gi xS.Vols a).bind λx1=>
 ((BZ x1.Id 1 9).bind λv3=>
 bif(!v3)then(some true)
 else(bif(decide (a>0))then((gi xS.Vols (sb a 1)).bind λx2=>
 bif(decide (x2.Id>=x1.Id))then(some true)
 else((Hf xS.Arena x1.Root).bind λv4=>
 some (!v4)))
 else((Hf xS.Arena x1.Root).bind λv5=>
 some (!v5))):Option (Bool)).bind λj2=>
 bif j2 then(some (.inr (.inr false)))
 else((Av (λs:Int=>Ij xS x1 s) 0).bind (Sum.elim (λv7=>(some (.inl (ad a 1)))) some)))
 else(some (.inr (.inl ())))
def NV (xS:Store):Option (Bool):=
 (bif(decide ((ln xS.Vols)>3))then(some true)
 else((G4 xS.Arena).bind λv1=>
 bif(!v1)then(some true)
 else((BZ xS.Next 1 1000000000).bind λv2=>
 some (!v2))):Option (Bool)).bind λj1=>
 bif j1 then(some false)
 else((Av (λs:Int=>Ik xS s) 0).bind (Sum.elim (λv8=>(((M7 xS).bind λv10=>
 (JC xS.Arena v10).bind λv12=>
 some v12.1.Knots:Option (List Cb)).bind λj3=>
 some ((ln j3)==(ln xS.Arena.Knots)))) some))
def Kn (xS:Store) (b:Int) (a:Int):Option ((Int)⊕((Unit)⊕(Int))):=
 bif(decide (a<(ln xS.Vols)))then((gi xS.Vols a).bind λx1=>
 bif(x1.Id==b)then(some (.inr (.inr a)))
 else(some (.inl (ad a 1))))
 else(some (.inr (.inl ())))
def GQ (xS:Store) (a:Int):Option (Int):=
 (Av (λs:Int=>Kn xS a s) 0).bind (Sum.elim (λv1=>(some (-1))) some)
def Lc (xS:Store) (xR:C3) (a:List Vol) (b:Int):Option ((List Vol×Int)⊕(List Vol)):=
 bif(decide (b<(ln xS.Vols)))then((gi xS.Vols b).bind λx2=>
 bif(decide (x2.Id<xR.Vol))then((gi xS.Vols b).bind λx3=>
 (ap 16 a [x3]).bind λq1=>
 some (.inl (q1,(ad b 1))))
 else(some (.inl (a,(ad b 1)))))
 else(some (.inr a))
def Lb (xS:Store) (xR:C3) (a:List Vol) (b:Int):Option ((List Vol×Int)⊕(List Vol)):=
 bif(decide (b<(ln xS.Vols)))then((gi xS.Vols b).bind λx4=>
 bif(decide (x4.Id>xR.Vol))then((gi xS.Vols b).bind λx5=>
 (ap 16 a [x5]).bind λq3=>
 some (.inl (q3,(ad b 1))))
 else(some (.inl (a,(ad b 1)))))
 else(some (.inr a))
def M6 (xS:Store) (xR:C3):Option (Store×Bool):=
 (bif(decide (xR.Arg>0))then((GQ xS xR.Arg).bind λv1=>
 bif(decide (v1<0))then((EM xS).bind λv2=>
 some (.inr (v2,false)))
 else((gi xS.Vols v1).bind λx1=>
 some (.inl x1.Root)))
 else(some (.inl (-1))):Option ((Int)⊕((Store×Bool)))).bind (Sum.elim (λj1=>(((GQ xS xR.Vol).bind λv3=>
 bif(decide (v3>=0))then(some true)
 else(some ((ln xS.Vols)==3)):Option (Bool)).bind λj2=>
 bif j2 then((EM xS).bind λv4=>
 some (v4,false))
 else((EM xS).bind λv5=>
 (Av (λs:List Vol×Int=>Lc xS xR s.1 s.2) ([],0)).bind λv6=>
 (ap 16 v6 [(Vol.mk xR.Vol j1)]).bind λq2=>
 (Av (λs:List Vol×Int=>Lb xS xR s.1 s.2) (q2,0)).bind λv7=>
 some ((Store.mk v7 v5.Arena v5.Next),true)))) some)
def IA (j1:List Int×List Cb) (b:Int) (a:List Vol):Option ((Int×List Vol)⊕(List Vol)):=
 bif(decide (b<(ln a)))then((gi j1.1 b).bind λx1=>
 (gi a b).bind λx2=>
 some (.inl ((ad b 1),(si a b (Vol.mk x2.Id x1)))))
 else(some (.inr a))
def GP (xS:Store):Option (Store):=
 ((M7 xS).bind λv2=>
 (JC xS.Arena v2).bind λv4=>
 some (v4.2,v4.1.Knots):Option (List Int×List Cb)).bind λj1=>
 ((ap 16 [] xS.Vols).bind λq1=>
 some q1:Option (List Vol)).bind λj2=>
 (Av (λs:Int×List Vol=>IA j1 s.1 s.2) (0,j2)).bind λv8=>
 some (Store.mk v8 (Arena.mk j1.2) xS.Next)
def Wl (xA:Arena) (b:Int) (a:Int) (xN:Int):Option (Arena×Int):=
 (Mk xA).bind λv1=>
 ((G4 xA).bind λv2=>
 bif(!v2)then(some true)
 else((Hf xA b).bind λv3=>
 bif(!v3)then(some true)
 else((BZ a 0 15).bind λv4=>
 bif(!v4)then(some true)
 else(some (decide (xN<0))))):Option (Bool)).bind λj1=>
 bif j1 then(some (v1,b))
 else((mk 8 0 4).bind λq1=>
 (bif(decide (b>=0))then((gi xA.Knots b).bind λx1=>
 (ap 8 [] x1.Kids).bind λq2=>
 (gi q2 (qu a 4)).bind λx2=>
 bif(decide (x2>=0))then((gi xA.Knots x2).bind λx3=>
 (ap 8 [] x3.Kids).bind λq3=>
 some (q3,q2))
 else(some (q1,q2)))
 else(some (q1,[(-1),(-1),(-1),(-1)])):Option (List Int×List Int)).bind λj2=>
 (gi j2.1 (Int.tmod a 4)).bind λx4=>
 (gi j2.2 (qu a 4)).bind λx5=>
 (ap 32 v1.Knots [(Cb.mk true (si j2.1 (Int.tmod a 4) xN)),(Cb.mk false (si j2.2 (qu a 4) (ln v1.Knots)))]).bind λq4=>
 some ((Arena.mk q4),(sb (ln q4) 1)))
def Wm (xS:Store) (xR:C3):Option (Store×Bool):=
 ((NV xS).bind λv1=>
 bif(!v1)then(some true)
 else((Nn xR).bind λv2=>
 some (!v2)):Option (Bool)).bind λj1=>
 bif j1 then((EM xS).bind λv3=>
 some (v3,false))
 else(bif(xR.Kind==1)then((bif(xR.Arg==0)then(some 1)
 else(some xR.Arg):Option (Int)).bind λj2=>
 some ((Store.mk [] (Arena.mk []) j2),true))
 else(bif(xR.Kind==2)then((M6 xS xR).bind λv4=>
 some (v4.1,v4.2))
 else((GQ xS xR.Vol).bind λv5=>
 (bif(decide (v5<0))then(some true)
 else(some (xR.Chunk==1000000000)):Option (Bool)).bind λj3=>
 bif j3 then((EM xS).bind λv6=>
 some (v6,false))
 else((EM xS).bind λv7=>
 bif(xR.Kind==3)then((dr xS.Vols 0 v5).bind λx1=>
 (dr xS.Vols (ad v5 1) (ln xS.Vols)).bind λx2=>
 (ap 16 [] x1).bind λq1=>
 (ap 16 q1 x2).bind λq2=>
 (GP (Store.mk q2 v7.Arena v7.Next)).bind λv8=>
 some (v8,true))
 else(((gi xS.Vols v5).bind λx3=>
 (Wl xS.Arena x3.Root xR.Arg xR.Chunk).bind λv10=>
 some (v10.2,v10.1.Knots):Option (Int×List Cb)).bind λj4=>
 (gi v7.Vols v5).bind λx4=>
 bif(decide (xR.Chunk>=v7.Next))then((GP (Store.mk (si v7.Vols v5 (Vol.mk x4.Id j4.1)) (Arena.mk j4.2) (ad xR.Chunk 1))).bind λv12=>
 some (v12,true))
 else((GP (Store.mk (si v7.Vols v5 (Vol.mk x4.Id j4.1)) (Arena.mk j4.2) v7.Next)).bind λv13=>
 some (v13,true)))))))
def Hl (xS:Store) (d:List C3) (e:Int) (a:List Vol) (b:List Cb) (c:Int):Option ((Int×List Vol×List Cb×Int)⊕((List Vol×List Cb×Int)⊕((Store×Bool)))):=
 bif(decide (e<(ln d)))then(((gi d e).bind λx1=>
 (Wm (Store.mk a (Arena.mk b) c) x1).bind λv3=>
 some (v3.2,v3.1.Vols,v3.1.Arena.Knots,v3.1.Next):Option (Bool×List Vol×List Cb×Int)).bind λj1=>
 bif(!j1.1)then((EM xS).bind λv5=>
 some (.inr (.inr (v5,false))))
 else(some (.inl ((ad e 1),j1.2.1,j1.2.2.1,j1.2.2.2))))
 else(some (.inr (.inl (a,b,c))))
def OM (xS:Store) (a:List C3):Option (Store×Bool):=
 (EM xS).bind λv1=>
 (Av (λs:Int×List Vol×List Cb×Int=>Hl xS a s.1 s.2.1 s.2.2.1 s.2.2.2) (0,v1.Vols,v1.Arena.Knots,v1.Next)).bind (Sum.elim (λv6=>(some ((Store.mk v6.1 (Arena.mk v6.2.1) v6.2.2),true))) some)
def Hk (v2:List Al) (a:Int) (b:Int) (c:Int):Option ((Int×Int×Int)⊕(Int×Int)):=
 bif(decide (a<(ln v2)))then((gi v2 a).bind λx1=>
 (bif(decide (x1.Page.Seq>=b))then((gi v2 a).bind λx2=>
 some (ad x2.Page.Seq 1))
 else(some b):Option (Int)).bind λj1=>
 ((gi v2 a).bind λx3=>
 bif(x3.Page.Kind==2)then((gi v2 a).bind λx4=>
 some (decide (x4.Page.Tx>=c)))
 else(some false):Option (Bool)).bind λj2=>
 bif j2 then((gi v2 a).bind λx5=>
 some (.inl ((ad a 1),j1,(ad x5.Page.Tx 1))))
 else(some (.inl ((ad a 1),j1,c))))
 else(some (.inr (b,c)))
def Hj (v7:List Tx) (a:Int) (b:List Vol) (c:List Cb) (d:Int) (e:Int):Option ((Int×List Vol×List Cb×Int×Int)⊕(List Vol×List Cb×Int×Int)):=
 bif(decide (a<(ln v7)))then((bif(a==0)then((gi v7 a).bind λx6=>
 some x6.Num)
 else(some e):Option (Int)).bind λj3=>
 (gi v7 a).bind λx7=>
 (OM (Store.mk b (Arena.mk c) d) x7.Recs).bind λv8=>
 some (.inl ((ad a 1),v8.1.Vols,v8.1.Arena.Knots,v8.1.Next,j3)))
 else(some (.inr (b,c,d,e)))
def Fv (xF:Flash):Option (AE×Bool):=
 (FT xF).bind λv1=>
 bif(!v1)then(some ((AE.mk (Flash.mk []) (Store.mk [] (Arena.mk []) 0) 0 0 0),false))
 else((FP xF).bind λv2=>
 (Hg xF).bind λv3=>
 (OE).bind λv4=>
 (Av (λs:Int×Int×Int=>Hk v2 s.1 s.2.1 s.2.2) (0,1,1)).bind λv5=>
 (PX v2).bind λv6=>
 (Nm v6).bind λv7=>
 (Av (λs:Int×List Vol×List Cb×Int×Int=>Hj v7 s.1 s.2.1 s.2.2.1 s.2.2.2.1 s.2.2.2.2) (0,v4.Vols,v4.Arena.Knots,v4.Next,0)).bind λv9=>
 some ((AE.mk v3 (Store.mk v9.1 (Arena.mk v9.2.1) v9.2.2.1) v5.1 v5.2 v9.2.2.2),true))
def Np (a:Int):Option (AE×Bool):=
 (OK a).bind λv1=>
 bif(!v1.2)then(some ((AE.mk (Flash.mk []) (Store.mk [] (Arena.mk []) 0) 0 0 0),false))
 else((Fv v1.1).bind λv2=>
 some (v2.1,v2.2))
def LQ (xC:BE) (a:List Int):Option (Int×BE):=
 (Dw xC (ln a)).bind λv1=>
 (gi a v1.1).bind λx1=>
 some (x1,v1.2)
def Jf (xC:BE) (xN:Int):Option (Bool×BE):=
 (Dw xC xN).bind λv1=>
 some ((v1.1==0),v1.2)
def NU (xC:BE) (a:List ByteArray):Option (ByteArray×BE):=
 (Dw xC (ln a)).bind λv1=>
 (gi a v1.1).bind λx1=>
 some (x1,v1.2)
def QE (xC:BE):Option (ByteArray×BE):=
 (NU xC [(bs []),(bs [97]),(bs [98,98]),(bs [97,98,99,100,97,98,99,100,97,98,99,100]),(bs [104,101,108,108,111]),(bs [104,101,108,108,111,32,104,101,108,108,111,32,104,101,108,108,111]),(bs [122,122,122,122,122,122,122,122,122,122,122,122]),(bs [113,49]),(bs [113,50]),(bs [113,51])]).bind λv1=>
 some (v1.1,v1.2)
def QF (xC:BE) (xD:AE):Option (Vp×BE):=
 (LQ xC [1,1,1,1,1,1,2,3,4,5,6]).bind λv1=>
 (Dw v1.2 3).bind λv2=>
 (bif((ln xD.Store.Vols)==0)then(some (3,(ad 1 v2.1),v2.2.b_,v2.2.i_,v2.2.h_))
 else((bif(v1.1 !=3)then(bif(v1.1 !=4)then((Jf v2.2 8).bind λv3=>
 some ((!v3.1),v3.2.b_,v3.2.i_,v3.2.h_))
 else(some (false,v2.2.b_,v2.2.i_,v2.2.h_)))
 else(some (false,v2.2.b_,v2.2.i_,v2.2.h_)):Option (Bool×List Int×Int×Int)).bind λj2=>
 bif j2.1 then((Dw (BE.mk j2.2.1 j2.2.2.1 j2.2.2.2) (ln xD.Store.Vols)).bind λv7=>
 (gi xD.Store.Vols v7.1).bind λx1=>
 some (v1.1,x1.Id,v7.2.b_,v7.2.i_,v7.2.h_))
 else(some (v1.1,(ad 1 v2.1),j2.2.1,j2.2.2.1,j2.2.2.2))):Option (Int×Int×List Int×Int×Int)).bind λj1=>
 (bif(j1.1==5)then((Jf (BE.mk j1.2.2.1 j1.2.2.2.1 j1.2.2.2.2) 3).bind λv11=>
 some ((!v11.1),v11.2.b_,v11.2.i_,v11.2.h_))
 else(some (false,j1.2.2.1,j1.2.2.2.1,j1.2.2.2.2)):Option (Bool×List Int×Int×Int)).bind λj3=>
 (bif j3.1 then(some 1)
 else(some j1.1):Option (Int)).bind λj4=>
 (bif(j4==1)then((QE (BE.mk j3.2.1 j3.2.2.1 j3.2.2.2)).bind λv12=>
 (Dw v12.2 16).bind λv13=>
 some (v13.1,0,v12.1,v13.2.b_,v13.2.i_,v13.2.h_))
 else((bif(j4==2)then(some (j4==2))
 else(some (j4==6)):Option (Bool)).bind λj6=>
 bif j6 then((Dw (BE.mk j3.2.1 j3.2.2.1 j3.2.2.2) 16).bind λv14=>
 some (v14.1,0,(bs []),v14.2.b_,v14.2.i_,v14.2.h_))
 else(bif(j4==4)then((Dw (BE.mk j3.2.1 j3.2.2.1 j3.2.2.2) 3).bind λv15=>
 bif(decide ((ln xD.Store.Vols)>0))then((gi xD.Store.Vols 0).bind λx5=>
 some (0,x5.Id,(bs []),v15.2.b_,v15.2.i_,v15.2.h_))
 else(some (0,(ad 1 v15.1),(bs []),v15.2.b_,v15.2.i_,v15.2.h_)))
 else(some (0,0,(bs []),j3.2.1,j3.2.2.1,j3.2.2.2)))):Option (Int×Int×ByteArray×List Int×Int×Int)).bind λj5=>
 some ((Vp.mk j4 j1.2.1 j5.1 j5.2.1 j5.2.2.1),(BE.mk j5.2.2.2.1 j5.2.2.2.2.1 j5.2.2.2.2.2))
def NS (xD:AE):Option (AE):=
 (Hg xD.Flash).bind λv1=>
 (EM xD.Store).bind λv2=>
 some (AE.mk v1 v2 xD.Seq xD.Tx xD.Base)
def OJ (xA:Arena) (b:Int) (a:Int):Option (Int):=
 ((G4 xA).bind λv1=>
 bif(!v1)then(some true)
 else((Hf xA b).bind λv2=>
 bif(!v2)then(some true)
 else((BZ a 0 15).bind λv3=>
 some (!v3))):Option (Bool)).bind λj1=>
 bif j1 then(some 0)
 else((M8 xA b a).bind λv4=>
 some v4)
def GS (xA:Arena) (b:Int) (a:List Int) (c:Int):Option ((List Int×Int)⊕(List Int)):=
 bif(decide (c<16))then((OJ xA b c).bind λv1=>
 (ap 8 a [v1]).bind λq1=>
 some (.inl (q1,(ad c 1))))
 else(some (.inr a))
def IN (xA:Arena) (a:Int):Option (List Int):=
 (Av (λs:List Int×Int=>GS xA a s.1 s.2) ([],0)).bind λv2=>
 some v2
def Gw (xA:List Int) (xB:List Int) (a:Int):Option ((Int)⊕((Unit)⊕(Bool))):=
 bif(decide (a<(ln xA)))then((gi xA a).bind λx1=>
 (gi xB a).bind λx2=>
 bif(x1 !=x2)then(some (.inr (.inr false)))
 else(some (.inl (ad a 1))))
 else(some (.inr (.inl ())))
def KO (xA:List Int) (xB:List Int):Option (Bool):=
 bif((ln xA) !=(ln xB))then(some false)
 else((Av (λs:Int=>Gw xA xB s) 0).bind (Sum.elim (λv1=>(some true)) some))
def HI (xA:Store) (xB:Store) (a:Int):Option ((Int)⊕((Unit)⊕(Bool))):=
 bif(decide (a<(ln xA.Vols)))then((gi xA.Vols a).bind λx1=>
 (gi xB.Vols a).bind λx2=>
 bif(x1.Id !=x2.Id)then(some (.inr (.inr false)))
 else((gi xA.Vols a).bind λx3=>
 (gi xB.Vols a).bind λx4=>
 (IN xA.Arena x3.Root).bind λv1=>
 (IN xB.Arena x4.Root).bind λv2=>
 (KO v1 v2).bind λv3=>
 bif(!v3)then(some (.inr (.inr false)))
 else(some (.inl (ad a 1)))))
 else(some (.inr (.inl ())))
def Le (xA:Store) (xB:Store):Option (Bool):=
 (bif((ln xA.Vols) !=(ln xB.Vols))then(some true)
 else(some (xA.Next !=xB.Next)):Option (Bool)).bind λj1=>
 bif j1 then(some false)
 else((Av (λs:Int=>HI xA xB s) 0).bind (Sum.elim (λv4=>(some true)) some))
def ON (xD:AE):Option (Bool):=
 (Fv xD.Flash).bind λv1=>
 bif v1.2 then((Le v1.1.Store xD.Store).bind λv2=>
 bif v2 then(bif(v1.1.Seq==xD.Seq)then(bif(v1.1.Tx==xD.Tx)then(bif(v1.1.Base==xD.Base)then((NV xD.Store).bind λv3=>
 some v3)
 else(some false))
 else(some false))
 else(some false))
 else(some false))
 else(some false)
def HE (a:List Int) (xX:Int) (b:List Int) (c:Int):Option ((List Int×Int)⊕(List Int)):=
 bif(decide (c<(ln a)))then((gi a c).bind λx1=>
 bif(decide (x1<xX))then((gi a c).bind λx2=>
 (ap 8 b [x2]).bind λq1=>
 some (.inl (q1,(ad c 1))))
 else(some (.inl (b,(ad c 1)))))
 else(some (.inr b))
def Gx (a:List Int) (xX:Int) (b:List Int) (c:Int):Option ((List Int×Int)⊕(List Int)):=
 bif(decide (c<(ln a)))then((gi a c).bind λx3=>
 bif(decide (x3>xX))then((gi a c).bind λx4=>
 (ap 8 b [x4]).bind λq3=>
 some (.inl (q3,(ad c 1))))
 else(some (.inl (b,(ad c 1)))))
 else(some (.inr b))
def Nk (a:List Int) (xX:Int):Option (List Int):=
 (Av (λs:List Int×Int=>HE a xX s.1 s.2) ([],0)).bind λv1=>
 (bif(decide (xX>0))then((ap 8 v1 [xX]).bind λq2=>
 some q2)
 else(some v1):Option (List Int)).bind λj1=>
 (Av (λs:List Int×Int=>Gx a xX s.1 s.2) (j1,0)).bind λv2=>
 some v2
def Lh (v1:List Int) (a:List Int) (b:Int):Option ((List Int×Int)⊕(List Int)):=
 bif(decide (b<(ln v1)))then((gi v1 b).bind λx2=>
 (Nk a x2).bind λv2=>
 some (.inl (v2,(ad b 1))))
 else(some (.inr a))
def Li (xS:Store) (a:List Int) (b:Int):Option ((List Int×Int)⊕(List Int)):=
 bif(decide (b<(ln xS.Vols)))then((gi xS.Vols b).bind λx1=>
 (IN xS.Arena x1.Root).bind λv1=>
 (Av (λs:List Int×Int=>Lh v1 s.1 s.2) (a,0)).bind λv3=>
 some (.inl (v3,(ad b 1))))
 else(some (.inr a))
def G3 (xS:Store):Option (List Int):=
 (Av (λs:List Int×Int=>Li xS s.1 s.2) ([],0)).bind λv4=>
 some v4
def HB (a:List Al) (c:Int) (b:Int):Option ((Int)⊕((Unit)⊕((Al×Bool)))):=
 bif(decide (b>=0))then(((gi a b).bind λx1=>
 bif(x1.Page.Kind==1)then((gi a b).bind λx2=>
 some (x2.Page.Tx==c))
 else(some false):Option (Bool)).bind λj1=>
 bif j1 then((gi a b).bind λx3=>
 some (.inr (.inr (x3,true))))
 else(some (.inl (sb b 1))))
 else(some (.inr (.inl ())))
def La (a:List Al) (b:Int):Option (Al×Bool):=
 (Av (λs:Int=>HB a b s) (sb (ln a) 1)).bind (Sum.elim (λv1=>(some ((Al.mk 0 0 (Page.mk 0 0 0 0 0 (bs []))),false))) some)
def Cg (xT:ByteArray) (b:List Be) (a:Int):Option ((List Be×Int)⊕((List Be)⊕((List Be×Bool)))):=
 bif(decide (a<(FJ xT)))then((sx xT a).bind λx1=>
 bif(decide ((IntKind.i64.wrap x1)>128))then(bif(decide ((ad a 2)>(FJ xT)))then(some (.inr (.inr (b,false))))
 else((sx xT (ad a 1)).bind λx2=>
 (ap 32 b [(Be.mk (IntKind.i64.wrap x2) (sb (IntKind.i64.wrap x1) 128) (bs []))]).bind λq1=>
 some (.inl (q1,(ad a 2)))))
 else(bif(decide ((ad (ad a 1) (IntKind.i64.wrap x1))>(FJ xT)))then(some (.inr (.inr (b,false))))
 else((sub xT (ad a 1) (ad (ad a 1) (IntKind.i64.wrap x1))).bind λx3=>
 (ap 32 b [(Be.mk 0 0 x3)]).bind λq2=>
 some (.inl (q2,(ad (ad a 1) (IntKind.i64.wrap x1)))))))
 else(some (.inr (.inl b)))
def Je (xT:ByteArray):Option (List Be×Bool):=
 (Av (λs:List Be×Int=>Cg xT s.1 s.2) ([],0)).bind (Sum.elim (λv1=>(some (v1,true))) some)
def DV (x1:Be) (a:List Int) (b:Int):Option ((List Int×Int)⊕(List Int)):=
 bif(decide (b<x1.Size))then((gi a (sb (ln a) x1.Back)).bind λx2=>
 (ap 1 a [x2]).bind λq2=>
 some (.inl (q2,(ad b 1))))
 else(some (.inr a))
def DW (b:List Be) (a:List Int) (c:Int):Option ((List Int×Int)⊕((List Int)⊕((ByteArray×Bool)))):=
 bif(decide (c<(ln b)))then((gi b c).bind λx1=>
 (bif(x1.Back==0)then(((BZ (FJ x1.Text) 1 31).bind λv1=>
 bif(!v1)then(some true)
 else(some (x1.Size !=0)):Option (Bool)).bind λj2=>
 bif j2 then(some (.inr (.inr (.inr ((bs []),false)))))
 else((ap 1 a (uK x1.Text)).bind λq1=>
 some (.inl q1)))
 else(((BZ x1.Back 1 (ln a)).bind λv2=>
 bif(!v2)then(some true)
 else((BZ x1.Size 1 31).bind λv3=>
 bif(!v3)then(some true)
 else(some (!(seq x1.Text (bs []))))):Option (Bool)).bind λj3=>
 bif j3 then(some (.inr (.inr (.inr ((bs []),false)))))
 else((Av (λs:List Int×Int=>DV x1 s.1 s.2) (a,0)).bind λv4=>
 some (.inl v4))):Option ((List Int)⊕((List Int×Int)⊕((List Int)⊕((ByteArray×Bool)))))).bind (Sum.elim (λj1=>(bif(decide ((ln j1)>64))then(some (.inr (.inr ((bs []),false))))
 else(some (.inl (j1,(ad c 1)))))) some))
 else(some (.inr (.inl a)))
def FQ (a:List Be):Option (ByteArray×Bool):=
 (Av (λs:List Int×Int=>DW a s.1 s.2) ([],0)).bind (Sum.elim (λv5=>(some ((E9 v5),true))) some)
def Hh (xS:ByteArray) (b:Int) (c:Int) (a:Int):Option ((Int)⊕(Int)):=
 (bif(decide (a<31))then(bif(decide ((ad c a)<(FJ xS)))then((sx xS (ad b a)).bind λx1=>
 (sx xS (ad c a)).bind λx2=>
 some (x1==x2))
 else(some false))
 else(some false):Option (Bool)).bind λj1=>
 bif j1 then(some (.inl (ad a 1)))
 else(some (.inr a))
def M9 (xS:ByteArray) (a:Int) (b:Int):Option (Int):=
 (Av (λs:Int=>Hh xS a b s) 0).bind λv1=>
 some v1
def Ex (xS:ByteArray) (d:Int) (b:Int) (c:Int) (a:Int):Option ((Int×Int×Int)⊕(Int×Int)):=
 bif(decide (a>=0))then((M9 xS a d).bind λv1=>
 (bif(decide (v1>=4))then(some (decide (v1>b)))
 else(some false):Option (Bool)).bind λj1=>
 bif j1 then(some (.inl (v1,(sb d a),(sb a 1))))
 else(some (.inl (b,c,(sb a 1)))))
 else(some (.inr (b,c)))
def Cx (xS:ByteArray) (a:List Be) (b:Int):Option ((List Be×Int)⊕(List Be)):=
 bif(decide (b<(FJ xS)))then((Av (λs:Int×Int×Int=>Ex xS b s.1 s.2.1 s.2.2) (0,0,(sb b 1))).bind λv2=>
 bif(decide (v2.1>0))then((ap 32 a [(Be.mk v2.2 v2.1 (bs []))]).bind λq1=>
 some (.inl (q1,(ad b v2.1))))
 else((bif(decide ((sb (ln a) 1)>=0))then((gi a (sb (ln a) 1)).bind λx1=>
 bif(x1.Back==0)then((gi a (sb (ln a) 1)).bind λx2=>
 some (decide ((FJ x2.Text)<31)))
 else(some false))
 else(some false):Option (Bool)).bind λj2=>
 bif j2 then((gi a (sb (ln a) 1)).bind λx3=>
 (sub xS b (ad b 1)).bind λx4=>
 (HU x3.Text x4).bind λx5=>
 (gi a (sb (ln a) 1)).bind λx6=>
 some (.inl ((si a (sb (ln a) 1) (Be.mk x6.Back x6.Size x5)),(ad b 1))))
 else((sub xS b (ad b 1)).bind λx7=>
 (ap 32 a [(Be.mk 0 0 x7)]).bind λq2=>
 some (.inl (q2,(ad b 1))))))
 else(some (.inr a))
def Kr (xS:ByteArray):Option (List Be):=
 bif(decide ((FJ xS)>64))then(some [])
 else((Av (λs:List Be×Int=>Cx xS s.1 s.2) ([],0)).bind λv3=>
 some v3)
def E0 (v1:List Be) (b:ByteArray) (a:Int):Option ((ByteArray×Int)⊕(ByteArray)):=
 bif(decide (a<(ln v1)))then((gi v1 a).bind λx1=>
 bif(x1.Back==0)then((HU b (E9 [(IntKind.u8.wrap (FJ x1.Text))])).bind λx2=>
 (HU x2 x1.Text).bind λx3=>
 some (.inl (x3,(ad a 1))))
 else((HU b (E9 [(IntKind.u8.wrap (ad 128 x1.Size)),(IntKind.u8.wrap x1.Back)])).bind λx4=>
 some (.inl (x4,(ad a 1)))))
 else(some (.inr b))
def EQ (xS:ByteArray):Option (ByteArray×Bool):=
 bif(decide ((FJ xS)>64))then(some ((bs []),false))
 else((Kr xS).bind λv1=>
 (Av (λs:ByteArray×Int=>E0 v1 s.1 s.2) ((bs [122]),0)).bind λv2=>
 bif(decide ((ad (FJ xS) 1)<=(FJ v2)))then((HU (bs [114]) xS).bind λx5=>
 some (x5,true))
 else(some (v2,true)))
def FY (xT:ByteArray):Option (ByteArray×Bool):=
 bif((FJ xT)==0)then(some ((bs []),false))
 else((sub xT 1 (FJ xT)).bind λx1=>
 (sx xT 0).bind λx2=>
 (bif(x2==122)then((sub xT 1 (FJ xT)).bind λx3=>
 (Je x3).bind λv1=>
 (FQ v1.1).bind λv2=>
 bif(!v1.2)then(some (.inr ((bs []),false)))
 else(bif(!v2.2)then(some (.inr ((bs []),false)))
 else(some (.inl v2.1))))
 else(some (.inl x1)):Option ((ByteArray)⊕((ByteArray×Bool)))).bind (Sum.elim (λj1=>((EQ j1).bind λv3=>
 (bif(!v3.2)then(some true)
 else(some (!(seq v3.1 xT))):Option (Bool)).bind λj2=>
 bif j2 then(some ((bs []),false))
 else(some (j1,true)))) some))
def NT (b:List Al) (a:Int):Option (ByteArray×Bool):=
 (La b a).bind λv1=>
 bif(!v1.2)then(some ((bs []),false))
 else((FY v1.1.Page.Text).bind λv2=>
 some (v2.1,v2.2))
def If (c:List Al) (a:List Int) (d:ByteArray) (b:Int):Option ((Int)⊕((Unit)⊕(Int))):=
 bif(decide (b<(ln a)))then((gi a b).bind λx1=>
 (NT c x1).bind λv1=>
 (bif v1.2 then(some (seq v1.1 d))
 else(some false):Option (Bool)).bind λj1=>
 bif j1 then((gi a b).bind λx2=>
 some (.inr (.inr x2)))
 else(some (.inl (ad b 1))))
 else(some (.inr (.inl ())))
def TB (a:List Al) (b:List Int) (c:ByteArray):Option (Int):=
 (Av (λs:Int=>If a b c s) 0).bind (Sum.elim (λv2=>(some 0)) some)
def OL (xF:Flash) (a:List Int) (b:ByteArray):Option (Int):=
 (FP xF).bind λv1=>
 (TB v1 a b).bind λv2=>
 some v2
def MB (xD:AE) (xQ:Vp):Option (List C3×ByteArray×Int):=
 (Wn xQ).bind λv1=>
 bif(!v1)then(some ([],(bs []),3))
 else((GQ xD.Store xQ.Vol).bind λv2=>
 (bif(xQ.Kind==3)then(some true)
 else(some (xQ.Kind==4)):Option (Bool)).bind λj1=>
 bif j1 then(bif(decide (v2>=0))then(some ([],(bs []),2))
 else((bif(xQ.Kind==4)then((GQ xD.Store xQ.Of).bind λv3=>
 some (decide (v3<0)))
 else(some false):Option (Bool)).bind λj2=>
 bif j2 then(some ([],(bs []),1))
 else(bif(decide ((ln xD.Store.Vols)>=3))then(some ([],(bs []),4))
 else(some ([(C3.mk 2 xQ.Vol xQ.Of 0)],(bs []),0)))))
 else(bif(!(decide (v2>=0)))then(some ([],(bs []),1))
 else(bif(xQ.Kind==1)then((G3 xD.Store).bind λv4=>
 (OL xD.Flash v4 xQ.Text).bind λv5=>
 (bif(v5==0)then((EQ xQ.Text).bind λv6=>
 some (xD.Store.Next,v6.1))
 else(some (v5,(bs []))):Option (Int×ByteArray)).bind λj3=>
 some ([(C3.mk 4 xQ.Vol xQ.Sector j3.1)],j3.2,0))
 else(bif(xQ.Kind==2)then(some ([(C3.mk 5 xQ.Vol xQ.Sector 0)],(bs []),0))
 else(bif(xQ.Kind==5)then(some ([(C3.mk 3 xQ.Vol 0 0)],(bs []),0))
 else(some ([],(bs []),0)))))))
def NW (xS:Store) (b:Int) (a:Int):Option (Int):=
 (GQ xS b).bind λv1=>
 bif(decide (v1<0))then(some 0)
 else((gi xS.Vols v1).bind λx1=>
 (OJ xS.Arena x1.Root a).bind λv2=>
 some v2)
def Mj (c:List Al) (xS:Store) (b:Int) (a:Int):Option (ByteArray×Bool):=
 (GQ xS b).bind λv1=>
 bif(decide (v1<0))then(some ((bs []),false))
 else((NW xS b a).bind λv2=>
 bif(v2==0)then(some ((bs []),true))
 else((NT c v2).bind λv3=>
 some (v3.1,v3.2)))
def X7 (xD:AE) (b:Int) (a:Int):Option (ByteArray×Bool):=
 (FP xD.Flash).bind λv1=>
 (Mj v1 xD.Store b a).bind λv2=>
 some (v2.1,v2.2)
def Lf (xF:Flash) (c:Int) (b:Int) (a:Int):Option ((Int×Int)⊕(Int)):=
 (gi xF.Blocks c).bind λx1=>
 bif(decide (a<(ln x1.Leaves)))then((gi xF.Blocks c).bind λx2=>
 bif(!x2.Bad)then((gi xF.Blocks c).bind λx3=>
 (gi x3.Leaves a).bind λx4=>
 bif(x4.Is==0)then(some (.inl ((ad b 1),(ad a 1))))
 else(some (.inl (b,(ad a 1)))))
 else(some (.inl (b,(ad a 1)))))
 else(some (.inr b))
def Lg (xF:Flash) (b:Int) (a:Int):Option ((Int×Int)⊕(Int)):=
 bif(decide (a<(ln xF.Blocks)))then((Av (λs:Int×Int=>Lf xF a s.1 s.2) (b,0)).bind λv1=>
 some (.inl (v1,(ad a 1))))
 else(some (.inr b))
def MA (xF:Flash):Option (Int):=
 (Av (λs:Int×Int=>Lg xF s.1 s.2) (0,0)).bind λv2=>
 some v2
def HD (c:List Al) (d:Int) (a:List Bool) (b:Int):Option ((List Bool×Int)⊕(List Bool)):=
 bif(decide (b<(ln c)))then((gi c b).bind λx1=>
 bif(x1.Page.Kind==2)then((gi c b).bind λx2=>
 (gi a b).bind λx3=>
 some (.inl ((si a b (decide (x2.Page.Tx>=d))),(ad b 1))))
 else((gi a b).bind λx4=>
 some (.inl ((si a b false),(ad b 1)))))
 else(some (.inr a))
def Ft (c:List Al) (d:List Int) (e:Int) (a:List Bool) (b:Int):Option ((List Bool×Int)⊕(List Bool)):=
 bif(decide (b>=0))then(((gi c b).bind λx5=>
 bif(x5.Page.Kind==1)then((gi c b).bind λx6=>
 (gi d e).bind λx7=>
 some (x6.Page.Tx==x7))
 else(some false):Option (Bool)).bind λj1=>
 bif j1 then((gi a b).bind λx8=>
 some (.inl ((si a b true),(sb (-1) 1))))
 else(some (.inl (a,(sb b 1)))))
 else(some (.inr a))
def HC (a:List Al) (b:List Int) (c:List Bool) (d:Int):Option ((List Bool×Int)⊕(List Bool)):=
 bif(decide (d<(ln b)))then((Av (λs:List Bool×Int=>Ft a b d s.1 s.2) (c,(sb (ln a) 1))).bind λv2=>
 some (.inl (v2,(ad d 1))))
 else(some (.inr c))
def GH (a:List Al) (b:List Int) (c:Int):Option (List Bool):=
 (mk 1 false (ln a)).bind λq1=>
 (Av (λs:List Bool×Int=>HD a c s.1 s.2) (q1,0)).bind λv1=>
 (Av (λs:List Bool×Int=>HC a b s.1 s.2) (v1,0)).bind λv3=>
 some v3
def I9 (xB:Block) (a:Int):Option ((Int)⊕((Unit)⊕(Bool))):=
 bif(decide (a<(ln xB.Leaves)))then((gi xB.Leaves a).bind λx1=>
 bif(x1.Is !=0)then(some (.inr (.inr false)))
 else(some (.inl (ad a 1))))
 else(some (.inr (.inl ())))
def O9 (xB:Block):Option (Bool):=
 (Av (λs:Int=>I9 xB s) 0).bind (Sum.elim (λv1=>(some true)) some)
def M5 (b:List Al) (c:List Bool) (xB:Int) (d:Int) (a:Int):Option ((Int×Int)⊕(Int)):=
 bif(decide (a<(ln b)))then((gi c a).bind λx1=>
 bif x1 then((gi b a).bind λx2=>
 bif(x2.Block==xB)then(some (.inl ((ad d 1),(ad a 1))))
 else(some (.inl (d,(ad a 1)))))
 else(some (.inl (d,(ad a 1)))))
 else(some (.inr d))
def Ni (b:List Al) (a:List Bool) (xB:Int):Option (Int):=
 (Av (λs:Int×Int=>M5 b a xB s.1 s.2) (0,0)).bind λv1=>
 some v1
def FV (xD:AE) (v1:List Al) (v3:List Bool) (a:List Int) (b:Int):Option ((List Int×Int)⊕(List Int)):=
 bif(decide (b<(ln xD.Flash.Blocks)))then((gi xD.Flash.Blocks b).bind λx1=>
 (bif(!x1.Bad)then((O9 x1).bind λv4=>
 bif(!v4)then((Ni v1 v3 b).bind λv5=>
 some (v5==0))
 else(some false))
 else(some false):Option (Bool)).bind λj1=>
 bif j1 then((ap 8 a [b]).bind λq1=>
 some (.inl (q1,(ad b 1))))
 else(some (.inl (a,(ad b 1)))))
 else(some (.inr a))
def LU (xD:AE):Option (List Int):=
 (FP xD.Flash).bind λv1=>
 (G3 xD.Store).bind λv2=>
 (GH v1 v2 xD.Base).bind λv3=>
 (Av (λs:List Int×Int=>FV xD v1 v3 s.1 s.2) ([],0)).bind λv6=>
 some v6
def Hd (xD:AE) (v2:List Tx) (a:Int):Option ((Int)⊕((Unit)⊕(Bool))):=
 bif(decide (a<(ln v2)))then((gi v2 a).bind λx1=>
 bif(x1.Num==xD.Base)then((gi v2 a).bind λx2=>
 bif(decide ((ln x2.Recs)>0))then((gi v2 a).bind λx3=>
 (gi x3.Recs 0).bind λx4=>
 some (.inr (.inr (x4.Kind==1))))
 else(some (.inr (.inr false))))
 else(some (.inl (ad a 1))))
 else(some (.inr (.inl ())))
def OA (xD:AE):Option (Bool):=
 bif(xD.Base !=(sb xD.Tx 1))then(some false)
 else((FP xD.Flash).bind λv1=>
 (PX v1).bind λv2=>
 (Av (λs:Int=>Hd xD v2 s) 0).bind (Sum.elim (λv3=>(some false)) some))
def D8 (xS:Store) (c:Int) (v1:List Int) (a:List C3) (b:Int):Option ((List C3×Int)⊕(List C3)):=
 bif(decide (b<(ln v1)))then((gi v1 b).bind λx3=>
 bif(decide (x3>0))then((gi xS.Vols c).bind λx4=>
 (gi v1 b).bind λx5=>
 (ap 32 a [(C3.mk 4 x4.Id b x5)]).bind λq2=>
 some (.inl (q2,(ad b 1))))
 else(some (.inl (a,(ad b 1)))))
 else(some (.inr a))
def D9 (xS:Store) (a:List C3) (b:Int):Option ((List C3×Int)⊕(List C3)):=
 bif(decide (b<(ln xS.Vols)))then((gi xS.Vols b).bind λx1=>
 (ap 32 a [(C3.mk 2 x1.Id 0 0)]).bind λq1=>
 (gi xS.Vols b).bind λx2=>
 (IN xS.Arena x2.Root).bind λv1=>
 (Av (λs:List C3×Int=>D8 xS b v1 s.1 s.2) (q1,0)).bind λv2=>
 some (.inl (v2,(ad b 1))))
 else(some (.inr a))
def Kx (xS:Store):Option (List C3):=
 (Av (λs:List C3×Int=>D9 xS s.1 s.2) ([(C3.mk 1 0 xS.Next 0)],0)).bind λv3=>
 some v3
def G0 (xF:Flash) (d:Int) (b:Int) (c:Int) (a:Int):Option ((Int×Int×Int)⊕(Int×Int)):=
 (gi xF.Blocks d).bind λx1=>
 bif(decide (a<(ln x1.Leaves)))then((gi xF.Blocks d).bind λx2=>
 (gi x2.Leaves a).bind λx3=>
 bif(x3.Is==0)then(some (.inl ((ad b 1),c,(ad a 1))))
 else(some (.inl (b,(ad c 1),(ad a 1)))))
 else(some (.inr (b,c)))
def D7 (xF:Flash) (a:Int):Option ((Int)⊕((Unit)⊕(Int))):=
 bif(decide (a<(ln xF.Blocks)))then((Av (λs:Int×Int×Int=>G0 xF a s.1 s.2.1 s.2.2) (0,0,0)).bind λv1=>
 ((gi xF.Blocks a).bind λx4=>
 bif(!x4.Bad)then(bif(decide (v1.1>0))then(some (decide (v1.2>0)))
 else(some false))
 else(some false):Option (Bool)).bind λj1=>
 bif j1 then(some (.inr (.inr a)))
 else(some (.inl (ad a 1))))
 else(some (.inr (.inl ())))
def Jj (xF:Flash):Option (Int):=
 (Av (λs:Int=>D7 xF s) 0).bind (Sum.elim (λv2=>(some (-1))) some)
def FR (xF:Flash) (c:Int) (a:Bool) (b:Int):Option ((Bool×Int)⊕(Bool)):=
 (gi xF.Blocks c).bind λx2=>
 bif(decide (b<(ln x2.Leaves)))then(bif a then((gi xF.Blocks c).bind λx3=>
 (gi x3.Leaves b).bind λx4=>
 some (.inl ((x4.Is==0),(ad b 1))))
 else(some (.inl (false,(ad b 1)))))
 else(some (.inr a))
def GY (xF:Flash) (a:List Int) (b:Int):Option ((List Int×Int)⊕(List Int)):=
 bif(decide (b<(ln xF.Blocks)))then((gi xF.Blocks b).bind λx1=>
 (Av (λs:Bool×Int=>FR xF b s.1 s.2) ((!x1.Bad),0)).bind λv1=>
 bif v1 then((ap 8 a [b]).bind λq1=>
 some (.inl (q1,(ad b 1))))
 else(some (.inl (a,(ad b 1)))))
 else(some (.inr a))
def LR (xF:Flash):Option (List Int):=
 (Av (λs:List Int×Int=>GY xF s.1 s.2) ([],0)).bind λv2=>
 some v2
def EX (xF:Flash) (v4:List Int) (a:Int) (b:Int):Option ((Int×Int)⊕(Int)):=
 bif(decide (b<(ln v4)))then((gi v4 b).bind λx3=>
 (gi xF.Blocks x3).bind λx4=>
 (gi xF.Blocks a).bind λx5=>
 bif(decide (x4.Wear<x5.Wear))then((gi v4 b).bind λx6=>
 some (.inl (x6,(ad b 1))))
 else(some (.inl (a,(ad b 1)))))
 else(some (.inr a))
def Kv (xF:Flash):Option (Int×Int×Bool):=
 (FT xF).bind λv1=>
 bif(!v1)then(some (0,0,false))
 else((Jj xF).bind λv2=>
 bif(decide (v2>=0))then((gi xF.Blocks v2).bind λx1=>
 (FZ x1).bind λv3=>
 some (v2,v3,true))
 else((LR xF).bind λv4=>
 bif((ln v4)==0)then(some (0,0,false))
 else((gi v4 0).bind λx2=>
 (Av (λs:Int×Int=>EX xF v4 s.1 s.2) (x2,1)).bind λv5=>
 some (v5,0,true))))
def DK (xF:Flash) (a:List Bi) (xP:Page):Option (Flash×List Bi×Bool):=
 (Es xP).bind λv1=>
 (Kv xF).bind λv2=>
 (bif(!v1.2)then(some true)
 else(some (!v2.2.2)):Option (Bool)).bind λj1=>
 bif j1 then(some (xF,a,false))
 else((Ll xF (Bi.mk 1 v2.1 v2.2.1 v1.1)).bind λv3=>
 ((ap 40 a [(Bi.mk 1 v2.1 v2.2.1 v1.1)]).bind λq4=>
 some q4:Option (List Bi)).bind λj2=>
 some (v3.1,j2,v3.2))
def Mm (xR:C3):Option (ByteArray×Bool):=
 (Nn xR).bind λv1=>
 bif(!v1)then(some ((bs []),false))
 else((Jc (ad (ml 16 xR.Kind) xR.Vol)).bind λv2=>
 (GW xR.Arg).bind λv3=>
 (HU v2 v3).bind λx1=>
 (GW xR.Chunk).bind λv4=>
 (HU x1 v4).bind λx2=>
 some (x2,true))
def DU (b:List C3) (a:List ByteArray) (c:Int):Option ((List ByteArray×Int)⊕((List ByteArray)⊕((List Page×Bool)))):=
 bif(decide (c<(ln b)))then((gi b c).bind λx1=>
 (Mm x1).bind λv1=>
 bif(!v1.2)then(some (.inr (.inr ([],false))))
 else((gi a (sb (ln a) 1)).bind λx2=>
 bif(decide ((ad (FJ x2) (FJ v1.1))>90))then((ap 16 a [v1.1]).bind λq1=>
 some (.inl (q1,(ad c 1))))
 else((gi a (sb (ln a) 1)).bind λx3=>
 (HU x3 v1.1).bind λx4=>
 (gi a (sb (ln a) 1)).bind λx5=>
 some (.inl ((si a (sb (ln a) 1) x4),(ad c 1))))))
 else(some (.inr (.inl a)))
def EV (c:Int) (d:Int) (v2:List ByteArray) (a:List Page) (b:Int):Option ((List Page×Int)⊕(List Page)):=
 bif(decide (b<(ln v2)))then((gi v2 b).bind λx6=>
 (ap 56 a [(Page.mk 2 (ad c b) d b (ln v2) x6)]).bind λq2=>
 some (.inl (q2,(ad b 1))))
 else(some (.inr a))
def Ih (a:Int) (c:Int) (b:List C3):Option (List Page×Bool):=
 (Av (λs:List ByteArray×Int=>DU b s.1 s.2) ([(bs [])],0)).bind (Sum.elim (λv2=>((bif(decide ((ln v2)>9))then(some true)
 else((BZ a 1 (ad (sb 1000000000 (ln v2)) 1)).bind λv3=>
 bif(!v3)then(some true)
 else((BZ c 1 1000000000).bind λv4=>
 some (!v4))):Option (Bool)).bind λj1=>
 bif j1 then(some ([],false))
 else((Av (λs:List Page×Int=>EV a c v2 s.1 s.2) ([],0)).bind λv5=>
 some (v5,true)))) some)
def Cn (v2:List Page×Bool) (a:List Bi) (b:Bool) (c:Int) (d:List Block):Option ((List Bi×Bool×Int×List Block)⊕(List Bi×Bool)):=
 (bif(decide (c<(ln v2.1)))then(some b)
 else(some false):Option (Bool)).bind λj3=>
 bif j3 then(((gi v2.1 c).bind λx2=>
 (DK (Flash.mk d) a x2).bind λv3=>
 some (v3.2.1,v3.2.2,v3.1.Blocks):Option (List Bi×Bool×List Block)).bind λj4=>
 some (.inl (j4.1,j4.2.1,(ad c 1),j4.2.2)))
 else(some (.inr (a,b)))
def DT (xD:AE) (a:List C3) (b:ByteArray):Option (List Bi×Bool):=
 bif((ln a)==0)then(some ([],true))
 else((bif(!(seq b (bs [])))then(((gi a (sb (ln a) 1)).bind λx1=>
 (DK xD.Flash [] (Page.mk 1 xD.Seq x1.Chunk 0 1 b)).bind λv1=>
 some (v1.2.1,v1.2.2,v1.1.Blocks):Option (List Bi×Bool×List Block)).bind λj2=>
 some (j2.1,(ad xD.Seq 1),j2.2.1,j2.2.2))
 else(some ([],xD.Seq,true,xD.Flash.Blocks)):Option (List Bi×Int×Bool×List Block)).bind λj1=>
 (Ih j1.2.1 xD.Tx a).bind λv2=>
 (Av (λs:List Bi×Bool×Int×List Block=>Cn v2 s.1 s.2.1 s.2.2.1 s.2.2.2) (j1.1,j1.2.2.1,0,j1.2.2.2)).bind λv4=>
 (bif(!v4.2)then(some true)
 else(some (!v2.2)):Option (Bool)).bind λj5=>
 bif j5 then(some ([],false))
 else(some (v4.1,true)))
def Jm (xD:AE):Option (List Bi×Bool):=
 (Kx xD.Store).bind λv1=>
 (DT xD v1 (bs [])).bind λv2=>
 some (v2.1,v2.2)
def Hi (xD:AE) (v1:List Al) (v3:List Bool) (v4:List Bool) (c:Int) (a:Int) (b:Int):Option ((Int×Int×Int)⊕(Int)):=
 bif(decide (b<(ln xD.Flash.Blocks)))then((gi xD.Flash.Blocks b).bind λx1=>
 (Ni v1 v3 b).bind λv5=>
 (bif(!x1.Bad)then((FZ x1).bind λv6=>
 bif(v6==4)then((Ni v1 v4 b).bind λv7=>
 bif(v5==v7)then(bif(decide (v5>=1))then(some (decide (v5<a)))
 else(some false))
 else(some false))
 else(some false))
 else(some false):Option (Bool)).bind λj1=>
 bif j1 then(some (.inl (b,v5,(ad b 1))))
 else(some (.inl (c,a,(ad b 1)))))
 else(some (.inr c))
def OD (xD:AE):Option (Int):=
 (FP xD.Flash).bind λv1=>
 (G3 xD.Store).bind λv2=>
 (GH v1 v2 xD.Base).bind λv3=>
 (GH v1 v2 1000000000).bind λv4=>
 (Av (λs:Int×Int×Int=>Hi xD v1 v3 v4 s.1 s.2.1 s.2.2) ((-1),4,0)).bind λv8=>
 some v8
def DY (xB:Int) (v1:List Al) (v3:List Bool) (e:Int) (a:List Bi) (b:Int) (c:Int) (d:List Block):Option ((List Bi×Int×Int×List Block)⊕((List Bi×Int×List Block)⊕((List Bi×Int×Int×List Block)⊕((List Bi)⊕((List Bi×Bool)))))):=
 bif(decide (c<(ln v1)))then(((gi v3 c).bind λx1=>
 bif(!x1)then(some true)
 else((gi v1 c).bind λx2=>
 bif(x2.Block !=xB)then(some true)
 else((gi v1 c).bind λx3=>
 some (x3.Leaf !=e))):Option (Bool)).bind λj1=>
 bif j1 then(some (.inl (a,b,(ad c 1),d)))
 else((gi v1 c).bind λx4=>
 (DK (Flash.mk d) a (Page.mk x4.Page.Kind b x4.Page.Tx x4.Page.Part x4.Page.Count x4.Page.Text)).bind λv4=>
 (bif(!v4.2.2)then(some true)
 else((gi v4.2.1 (sb (ln v4.2.1) 1)).bind λx5=>
 some (x5.Block==xB)):Option (Bool)).bind λj2=>
 bif j2 then(some (.inr (.inr (.inr (.inr ([],false))))))
 else(some (.inl (v4.2.1,(ad b 1),(ad c 1),v4.1.Blocks)))))
 else(some (.inr (.inl (a,b,d))))
def DZ (xB:Int) (v1:List Al) (v3:List Bool) (b:List Bi) (c:Int) (a:Int) (d:List Block):Option ((List Bi×Int×Int×List Block)⊕((List Bi)⊕((List Bi×Bool)))):=
 bif(decide (a<4))then((Av (λs:List Bi×Int×Int×List Block=>DY xB v1 v3 a s.1 s.2.1 s.2.2.1 s.2.2.2) (b,c,0,d)).bind (Sum.elim (λv5=>(some (.inl (v5.1,v5.2.1,(ad a 1),v5.2.2)))) some))
 else(some (.inr (.inl b)))
def GI (xD:AE) (xB:Int):Option (List Bi×Bool):=
 (FP xD.Flash).bind λv1=>
 (G3 xD.Store).bind λv2=>
 (GH v1 v2 1000000001).bind λv3=>
 (Av (λs:List Bi×Int×Int×List Block=>DZ xB v1 v3 s.1 s.2.1 s.2.2.1 s.2.2.2) ([],xD.Seq,0,xD.Flash.Blocks)).bind (Sum.elim (λv6=>(some (v6,true))) some)
def OO (xD:AE):Option (List Bi×Bool):=
 (LU xD).bind λv1=>
 bif(decide ((ln v1)>0))then((gi v1 0).bind λx1=>
 some ([(Bi.mk 2 x1 0 (bs []))],true))
 else((OA xD).bind λv2=>
 bif(!v2)then((Jm xD).bind λv3=>
 some (v3.1,v3.2))
 else((OD xD).bind λv4=>
 bif(decide (v4<0))then(some ([],false))
 else((GI xD v4).bind λv5=>
 some (v5.1,v5.2))))
def GR (xD:AE) (a:List Bi):Option (AE):=
 (Mn xD.Flash a).bind λv1=>
 (Fv v1.1).bind λv2=>
 some v2.1
def Hm (i:Int) (h:List Bi) (j:Int) (a:List Block) (b:List Vol) (c:List Cb) (d:Int) (e:Int) (f:Int) (g:Int):Option ((List Bi×Int×List Block×List Vol×List Cb×Int×Int×Int×Int)⊕((List Bi×List Block×List Vol×List Cb×Int×Int×Int×Int)⊕((AE×List Bi)))):=
 (bif(decide (j<i))then(bif(decide (j<20))then((MA (Flash.mk a)).bind λv2=>
 some (decide (v2<12)))
 else(some false))
 else(some false):Option (Bool)).bind λj1=>
 bif j1 then((OO (AE.mk (Flash.mk a) (Store.mk b (Arena.mk c) d) e f g)).bind λv3=>
 bif(!v3.2)then(some (.inr (.inr ((AE.mk (Flash.mk a) (Store.mk b (Arena.mk c) d) e f g),h))))
 else((GR (AE.mk (Flash.mk a) (Store.mk b (Arena.mk c) d) e f g) v3.1).bind λv4=>
 (ap 40 h v3.1).bind λq1=>
 some (.inl (q1,(ad j 1),v4.Flash.Blocks,v4.Store.Vols,v4.Store.Arena.Knots,v4.Store.Next,v4.Seq,v4.Tx,v4.Base))))
 else(some (.inr (.inl (h,a,b,c,d,e,f,g))))
def MD (xD:AE) (a:Int):Option (AE×List Bi):=
 (NS xD).bind λv1=>
 (Av (λs:List Bi×Int×List Block×List Vol×List Cb×Int×Int×Int×Int=>Hm a s.1 s.2.1 s.2.2.1 s.2.2.2.1 s.2.2.2.2.1 s.2.2.2.2.2.1 s.2.2.2.2.2.2.1 s.2.2.2.2.2.2.2.1 s.2.2.2.2.2.2.2.2) ([],0,v1.Flash.Blocks,v1.Store.Vols,v1.Store.Arena.Knots,v1.Store.Next,v1.Seq,v1.Tx,v1.Base)).bind (Sum.elim (λv5=>(some ((AE.mk (Flash.mk v5.2.1) (Store.mk v5.2.2.1 (Arena.mk v5.2.2.2.1) v5.2.2.2.2.1) v5.2.2.2.2.2.1 v5.2.2.2.2.2.2.1 v5.2.2.2.2.2.2.2),v5.1))) some)
def Wk (xD:AE) (xQ:Vp):Option (AE×List Bi×ByteArray×Int):=
 (NS xD).bind λv1=>
 (ON xD).bind λv2=>
 bif(!v2)then(some (v1,[],(bs []),5))
 else((MB xD xQ).bind λv3=>
 bif(v3.2.2 !=0)then(some (v1,[],(bs []),v3.2.2))
 else(bif(xQ.Kind==6)then((X7 xD xQ.Vol xQ.Sector).bind λv4=>
 bif(!v4.2)then(some (v1,[],(bs []),1))
 else(some (v1,[],v4.1,0)))
 else((MA xD.Flash).bind λv5=>
 (bif(decide (v5<12))then((MD xD 20).bind λv6=>
 some (v6.2,v6.1.Flash.Blocks,v6.1.Store.Vols,v6.1.Store.Arena.Knots,v6.1.Store.Next,v6.1.Seq,v6.1.Tx,v6.1.Base))
 else(some ([],v1.Flash.Blocks,v1.Store.Vols,v1.Store.Arena.Knots,v1.Store.Next,v1.Seq,v1.Tx,v1.Base)):Option (List Bi×List Block×List Vol×List Cb×Int×Int×Int×Int)).bind λj1=>
 (MB (AE.mk (Flash.mk j1.2.1) (Store.mk j1.2.2.1 (Arena.mk j1.2.2.2.1) j1.2.2.2.2.1) j1.2.2.2.2.2.1 j1.2.2.2.2.2.2.1 j1.2.2.2.2.2.2.2) xQ).bind λv7=>
 (DT (AE.mk (Flash.mk j1.2.1) (Store.mk j1.2.2.1 (Arena.mk j1.2.2.2.1) j1.2.2.2.2.1) j1.2.2.2.2.2.1 j1.2.2.2.2.2.2.1 j1.2.2.2.2.2.2.2) v7.1 v7.2.1).bind λv8=>
 (bif(!v8.2)then(some true)
 else((MA (Flash.mk j1.2.1)).bind λv9=>
 some (decide (v9<8))):Option (Bool)).bind λj2=>
 bif j2 then(some ((AE.mk (Flash.mk j1.2.1) (Store.mk j1.2.2.1 (Arena.mk j1.2.2.2.1) j1.2.2.2.2.1) j1.2.2.2.2.2.1 j1.2.2.2.2.2.2.1 j1.2.2.2.2.2.2.2),j1.1,(bs []),4))
 else((GR (AE.mk (Flash.mk j1.2.1) (Store.mk j1.2.2.1 (Arena.mk j1.2.2.2.1) j1.2.2.2.2.1) j1.2.2.2.2.2.1 j1.2.2.2.2.2.2.1 j1.2.2.2.2.2.2.2) v8.1).bind λv10=>
 (ap 40 j1.1 v8.1).bind λq1=>
 some (v10,q1,(bs []),0)))))
def Gv (h:Int) (a:List Block) (b:List Vol) (c:List Cb) (d:Int) (e:Int) (f:Int) (g:Int) (i:List Int) (j:Int) (k:Int):Option ((Int×List Block×List Vol×List Cb×Int×Int×Int×Int×List Int×Int×Int)⊕(List Block×List Vol×List Cb×Int×Int×Int×Int×List Int×Int×Int)):=
 (Dw (BE.mk i j k) 12).bind λv3=>
 bif(decide (h<v3.1))then(((QF v3.2 (AE.mk (Flash.mk a) (Store.mk b (Arena.mk c) d) e f g)).bind λv5=>
 (Wk (AE.mk (Flash.mk a) (Store.mk b (Arena.mk c) d) e f g) v5.1).bind λv6=>
 some (v6.1.Flash.Blocks,v6.1.Store.Vols,v6.1.Store.Arena.Knots,v6.1.Store.Next,v6.1.Seq,v6.1.Tx,v6.1.Base,v5.2.b_,v5.2.i_,v5.2.h_):Option (List Block×List Vol×List Cb×Int×Int×Int×Int×List Int×Int×Int)).bind λj1=>
 some (.inl ((ad h 1),j1.1,j1.2.1,j1.2.2.1,j1.2.2.2.1,j1.2.2.2.2.1,j1.2.2.2.2.2.1,j1.2.2.2.2.2.2.1,j1.2.2.2.2.2.2.2.1,j1.2.2.2.2.2.2.2.2.1,j1.2.2.2.2.2.2.2.2.2)))
 else(some (.inr (a,b,c,d,e,f,g,v3.2.b_,v3.2.i_,v3.2.h_)))
def Nj (xC:BE):Option (AE×BE):=
 (Dw xC 4).bind λv1=>
 (Np (ad 5 v1.1)).bind λv2=>
 (Av (λs:Int×List Block×List Vol×List Cb×Int×Int×Int×Int×List Int×Int×Int=>Gv s.1 s.2.1 s.2.2.1 s.2.2.2.1 s.2.2.2.2.1 s.2.2.2.2.2.1 s.2.2.2.2.2.2.1 s.2.2.2.2.2.2.2.1 s.2.2.2.2.2.2.2.2.1 s.2.2.2.2.2.2.2.2.2.1 s.2.2.2.2.2.2.2.2.2.2) (0,v2.1.Flash.Blocks,v2.1.Store.Vols,v2.1.Store.Arena.Knots,v2.1.Store.Next,v2.1.Seq,v2.1.Tx,v2.1.Base,v1.2.b_,v1.2.i_,v1.2.h_)).bind λv9=>
 some ((AE.mk (Flash.mk v9.1) (Store.mk v9.2.1 (Arena.mk v9.2.2.1) v9.2.2.2.1) v9.2.2.2.2.1 v9.2.2.2.2.2.1 v9.2.2.2.2.2.2.1),(BE.mk v9.2.2.2.2.2.2.2.1 v9.2.2.2.2.2.2.2.2.1 v9.2.2.2.2.2.2.2.2.2))
def LT (a:List Int):Option (AE):=
 (PV a).bind λv1=>
 (Nj v1).bind λv2=>
 some v2.1
def Iv (a:Int) (y1:Int):Option ((Int×Int)⊕(Int)):=
 bif(decide (y1<8))then(bif((an a 1)==1)then(some (.inl ((xr (Int.fdiv a (2^(min (1:Int).toNat IntKind.u32.bits))) 3558460437),(ad y1 1))))
 else(some (.inl ((Int.fdiv a (2^(min (1:Int).toNat IntKind.u32.bits))),(ad y1 1)))))
 else(some (.inr a))
def JN (a:ByteArray) (b:Int) (c:Int):Option ((Int×Int)⊕(Int)):=
 bif(decide (c<(FJ a)))then((sx a c).bind λx1=>
 (Av (λs:Int×Int=>Iv s.1 s.2) ((xr b (IntKind.u32.wrap x1)),0)).bind λv1=>
 some (.inl (v1,(ad c 1))))
 else(some (.inr b))
def QW (b:Int) (a:ByteArray):Option (Int):=
 (Av (λs:Int×Int=>JN a s.1 s.2) (b,0)).bind λv2=>
 some v2
def Wt (a:ByteArray):Option (Int):=
 (QW 4294967295 a).bind λv1=>
 some v1
def HP (a:ByteArray):Option (ByteArray×Bool):=
 bif(decide ((FJ a)>20000))then(some ((bs []),false))
 else((Wt a).bind λv1=>
 (HU a (E9 [(IntKind.u8.wrap (Int.fdiv v1 (2^(min (24:Int).toNat IntKind.u32.bits)))),(IntKind.u8.wrap (Int.fdiv v1 (2^(min (16:Int).toNat IntKind.u32.bits)))),(IntKind.u8.wrap (Int.fdiv v1 (2^(min (8:Int).toNat IntKind.u32.bits)))),(IntKind.u8.wrap v1)])).bind λx1=>
 some (x1,true))
def Pe (a:ByteArray):Option (ByteArray×Bool):=
 bif(decide ((FJ a)<4))then(some ((bs []),false))
 else((sub a 0 (sb (FJ a) 4)).bind λx1=>
 (HP x1).bind λv1=>
 (bif(!v1.2)then(some true)
 else(some (!(seq v1.1 a))):Option (Bool)).bind λj1=>
 bif j1 then(some ((bs []),false))
 else(some (x1,true)))
def GV (b:ByteArray) (c:Int) (d:Int) (a:Int):Option ((Int×Int)⊕((Unit)⊕((Int×Int×Bool)))):=
 (bif(decide (a<5))then(bif(decide (c>=0))then(some (decide (c<(sb (FJ b) a))))
 else(some false))
 else(some false):Option (Bool)).bind λj1=>
 bif j1 then((sx b (ad c a)).bind λx1=>
 (shl .i64 (Int.tmod (IntKind.i64.wrap x1) 128) (ml 7 a)).bind λx2=>
 bif(decide ((IntKind.i64.wrap x1)>=128))then(some (.inl ((ad d x2),(ad a 1))))
 else((bif((IntKind.i64.wrap x1)==0)then(bif(decide (a>0))then(some true)
 else(some (decide ((ad d x2)>1000000000))))
 else(some (decide ((ad d x2)>1000000000))):Option (Bool)).bind λj2=>
 bif j2 then(some (.inr (.inr (0,0,false))))
 else(some (.inr (.inr ((ad d x2),(ad (ad c a) 1),true))))))
 else(some (.inr (.inl ())))
def Mr (a:ByteArray) (b:Int):Option (Int×Int×Bool):=
 (Av (λs:Int×Int=>GV a b s.1 s.2) (0,0)).bind (Sum.elim (λv1=>(some (0,0,false))) some)
def Qt (xP:Page):Option (Bool):=
 ((Jt xP.Seq 1 1000000000).bind λv1=>
 bif(!v1)then(some true)
 else((Jt xP.Tx 1 1000000000).bind λv2=>
 bif(!v2)then(some true)
 else((Jt xP.Count 1 9).bind λv3=>
 bif(!v3)then(some true)
 else((Jt xP.Part 0 (sb xP.Count 1)).bind λv4=>
 bif(!v4)then(some true)
 else(some (decide ((FJ xP.Text)>90)))))):Option (Bool)).bind λj1=>
 bif j1 then(some false)
 else(bif(xP.Kind==2)then(some true)
 else(bif(xP.Kind==1)then(some (xP.Count==1))
 else(some false)))
def E5 (v1:ByteArray×Bool) (e:Int) (y1:Int) (a:Int) (b:Int) (c:Int) (d:Int):Option ((Int×Int×Int×Int×Int×Int)⊕((Int×Int×Int×Int×Int)⊕((Page×Bool)))):=
 bif(decide (y1<4))then((Mr v1.1 e).bind λv2=>
 bif(!v2.2.2)then(some (.inr (.inr ((Page.mk 0 0 0 0 0 (bs [])),false))))
 else(bif(y1==0)then(some (.inl (v2.2.1,(ad y1 1),v2.1,b,c,d)))
 else(bif(y1==1)then(some (.inl (v2.2.1,(ad y1 1),a,v2.1,c,d)))
 else(bif(y1==2)then(some (.inl (v2.2.1,(ad y1 1),a,b,v2.1,d)))
 else(bif(y1==3)then(some (.inl (v2.2.1,(ad y1 1),a,b,c,v2.1)))
 else none)))))
 else(some (.inr (.inl (e,a,b,c,d))))
def Pf (xT:ByteArray):Option (Page×Bool):=
 (Pe xT).bind λv1=>
 (bif(!v1.2)then(some true)
 else(some (seq v1.1 (bs []))):Option (Bool)).bind λj1=>
 bif j1 then(some ((Page.mk 0 0 0 0 0 (bs [])),false))
 else((Av (λs:Int×Int×Int×Int×Int×Int=>E5 v1 s.1 s.2.1 s.2.2.1 s.2.2.2.1 s.2.2.2.2.1 s.2.2.2.2.2) (1,0,0,0,0,0)).bind (Sum.elim (λv3=>((sx v1.1 0).bind λx1=>
 (sub v1.1 v3.1 (FJ v1.1)).bind λx2=>
 (Qt (Page.mk (IntKind.i64.wrap x1) v3.2.1 v3.2.2.1 v3.2.2.2.1 v3.2.2.2.2 x2)).bind λv4=>
 bif(!v4)then(some ((Page.mk 0 0 0 0 0 (bs [])),false))
 else(some ((Page.mk (IntKind.i64.wrap x1) v3.2.1 v3.2.2.1 v3.2.2.2.1 v3.2.2.2.2 x2),true)))) some))
def BJ (x:Al):Int:=x.Page.Seq
def JO (y1:Int) (x1:Block) (y2:Int) (a:List Al):Option ((Int×List Al)⊕(List Al)):=
 bif(decide (y2<(ln x1.Leaves)))then((gi x1.Leaves y2).bind λx2=>
 (Pf x2.Text).bind λv1=>
 (bif v1.2 then(some (x2.Is==1))
 else(some false):Option (Bool)).bind λj1=>
 bif j1 then((ap 72 a [(Al.mk y1 y2 v1.1)]).bind λq1=>
 some (.inl ((ad y2 1),q1)))
 else(some (.inl ((ad y2 1),a))))
 else(some (.inr a))
def Iw (xF:Flash) (y1:Int) (a:List Al):Option ((Int×List Al)⊕(List Al)):=
 bif(decide (y1<(ln xF.Blocks)))then((gi xF.Blocks y1).bind λx1=>
 (Av (λs:Int×List Al=>JO y1 x1 s.1 s.2) (0,a)).bind λv2=>
 some (.inl ((ad y1 1),v2)))
 else(some (.inr a))
def Ix (xF:Flash):Option (List Al):=
 (Av (λs:Int×List Al=>Iw xF s.1 s.2) (0,[])).bind λv3=>
 (Dt (MX BJ) v3 (ln v3)).bind λv4=>
 some v4
def Wu (xR:C3):Option (Bool):=
 bif(xR.Kind==1)then((bif(xR.Vol==0)then((Jt xR.Arg 0 1000000000).bind λv1=>
 bif v1 then(some (xR.Chunk==0))
 else(some false))
 else(some false):Option (Bool)).bind λj1=>
 some j1)
 else(((Jt xR.Vol 1 9).bind λv2=>
 bif(!v2)then(some true)
 else(bif(xR.Kind !=4)then(some (xR.Chunk !=0))
 else(some false)):Option (Bool)).bind λj2=>
 bif j2 then(some false)
 else(bif(xR.Kind==2)then((Jt xR.Arg 0 9).bind λv3=>
 some v3)
 else(bif(xR.Kind==3)then(some (xR.Arg==0))
 else(bif(xR.Kind==4)then((Jt xR.Arg 0 15).bind λv4=>
 bif v4 then((Jt xR.Chunk 1 1000000000).bind λv5=>
 some v5)
 else(some false))
 else(bif(xR.Kind==5)then((Jt xR.Arg 0 15).bind λv6=>
 some v6)
 else(some false))))))
def Md (xA:Arena) (y1:Int) (x1:Cb) (y2:Int):Option ((Int)⊕((Unit)⊕((Int)⊕((Unit)⊕(Bool))))):=
 bif(decide (y2<(ln x1.Kids)))then((gi x1.Kids y2).bind λx2=>
 (bif x1.Leaf then(bif(decide (x2<0))then(some true)
 else(bif(!x1.Leaf)then(bif(x2 !=(-1))then((Jt x2 0 (sb y1 1)).bind λv1=>
 bif(!v1)then(some true)
 else((gi xA.Knots x2).bind λx3=>
 some (!x3.Leaf)))
 else(some false))
 else(some false)))
 else(bif(!x1.Leaf)then(bif(x2 !=(-1))then((Jt x2 0 (sb y1 1)).bind λv2=>
 bif(!v2)then(some true)
 else((gi xA.Knots x2).bind λx4=>
 some (!x4.Leaf)))
 else(some false))
 else(some false)):Option (Bool)).bind λj1=>
 bif j1 then(some (.inr (.inr (.inr (.inr false)))))
 else(some (.inl (ad y2 1))))
 else(some (.inr (.inl ())))
def Me (xA:Arena) (y1:Int):Option ((Int)⊕((Unit)⊕(Bool))):=
 bif(decide (y1<(ln xA.Knots)))then((gi xA.Knots y1).bind λx1=>
 bif((ln x1.Kids) !=4)then(some (.inr (.inr false)))
 else((Av (λs:Int=>Md xA y1 x1 s) 0).bind (Sum.elim (λv3=>(some (.inl (ad y1 1)))) some)))
 else(some (.inr (.inl ())))
def Rb (xA:Arena):Option (Bool):=
 (Av (λs:Int=>Me xA s) 0).bind (Sum.elim (λv4=>(some true)) some)
def Tb (xA:Arena) (a:Int):Option (Bool):=
 (Jt a 0 (sb (ln xA.Knots) 1)).bind λv1=>
 bif v1 then((gi xA.Knots a).bind λx1=>
 some (!x1.Leaf))
 else(some false)
def Se (xA:Arena) (b:Int) (a:Int):Option (Int):=
 (gi xA.Knots b).bind λx1=>
 (gi x1.Kids (qu a 4)).bind λx2=>
 bif(decide (x2<0))then(some 0)
 else((gi xA.Knots x2).bind λx3=>
 (gi x3.Kids (Int.tmod a 4)).bind λx4=>
 some x4)
def Wv (xA:Arena) (b:Int) (a:Int):Option (Int):=
 ((Jt a 0 15).bind λv1=>
 bif(!v1)then(some true)
 else((Tb xA b).bind λv2=>
 bif(!v2)then(some true)
 else((Rb xA).bind λv3=>
 some (!v3))):Option (Bool)).bind λj1=>
 bif j1 then(some 0)
 else((Se xA b a).bind λv4=>
 some v4)
def MO (xA:Arena) (b:Int) (a:List Int) (y1:Int):Option ((List Int×Int)⊕(List Int)):=
 bif(decide (y1<16))then((Wv xA b y1).bind λv1=>
 (ap 8 a [v1]).bind λq1=>
 some (.inl (q1,(ad y1 1))))
 else(some (.inr a))
def Th (xA:Arena) (a:Int):Option (List Int):=
 (Av (λs:List Int×Int=>MO xA a s.1 s.2) ([],0)).bind λv2=>
 some v2
def IE (v1:List Int) (a:List Int) (y2:Int):Option ((List Int×Int)⊕(List Int)):=
 bif(decide (y2<(ln v1)))then((gi v1 y2).bind λx2=>
 bif(decide (x2>0))then((ap 8 a [x2]).bind λq1=>
 some (.inl (q1,(ad y2 1))))
 else(some (.inl (a,(ad y2 1)))))
 else(some (.inr a))
def IF (xS:Store) (a:List Int) (y1:Int):Option ((List Int×Int)⊕(List Int)):=
 bif(decide (y1<(ln xS.Vols)))then((gi xS.Vols y1).bind λx1=>
 (Th xS.Arena x1.Root).bind λv1=>
 (Av (λs:List Int×Int=>IE v1 s.1 s.2) (a,0)).bind λv2=>
 some (.inl (v2,(ad y1 1))))
 else(some (.inr a))
def Pc (xS:Store):Option (List Int):=
 (Av (λs:List Int×Int=>IF xS s.1 s.2) ([],0)).bind λv3=>
 some v3
def Ls (v2:List Int) (a:List Int) (y1:Int):Option ((List Int×Int)⊕(List Int)):=
 bif(decide (y1<(ln v2)))then((gi v2 y1).bind λx1=>
 (bif(y1==0)then(some true)
 else((gi v2 (sb y1 1)).bind λx2=>
 some (x2 !=x1)):Option (Bool)).bind λj1=>
 bif j1 then((ap 8 a [x1]).bind λq1=>
 some (.inl (q1,(ad y1 1))))
 else(some (.inl (a,(ad y1 1)))))
 else(some (.inr a))
def Lt (xS:Store):Option (List Int):=
 (Pc xS).bind λv1=>
 (WU v1).bind λv2=>
 (Av (λs:List Int×Int=>Ls v2 s.1 s.2) ([],0)).bind λv3=>
 some v3
def Jp (j:Int) (v1:List Al) (i:Bool) (y1:Int) (b:Int) (c:Int) (d:Int) (a:Int) (e:Int) (f:Int) (g:Int) (h:ByteArray):Option ((Bool×Int×Int×Int×Int×Int×Int×Int×Int×ByteArray)⊕(Bool×Int×Int×Int×Int×Int×Int×Int×ByteArray)):=
 bif(decide (y1<(ln v1)))then((gi v1 y1).bind λx1=>
 (bif(x1.Page.Kind==1)then(bif(x1.Page.Tx==j)then(bif(!i)then(some true)
 else(some (decide (x1.Page.Seq>=a))))
 else(some false))
 else(some false):Option (Bool)).bind λj1=>
 bif j1 then(some (.inl (true,(ad y1 1),x1.Block,x1.Leaf,x1.Page.Kind,x1.Page.Seq,x1.Page.Tx,x1.Page.Part,x1.Page.Count,x1.Page.Text)))
 else(some (.inl (i,(ad y1 1),b,c,d,a,e,f,g,h))))
 else(some (.inr (i,b,c,d,a,e,f,g,h)))
def Tc (xF:Flash) (a:Int):Option (Al×Bool):=
 (Ix xF).bind λv1=>
 (Av (λs:Bool×Int×Int×Int×Int×Int×Int×Int×Int×ByteArray=>Jp a v1 s.1 s.2.1 s.2.2.1 s.2.2.2.1 s.2.2.2.2.1 s.2.2.2.2.2.1 s.2.2.2.2.2.2.1 s.2.2.2.2.2.2.2.1 s.2.2.2.2.2.2.2.2.1 s.2.2.2.2.2.2.2.2.2) (false,0,0,0,0,0,0,0,0,(bs []))).bind λv2=>
 some ((Al.mk v2.2.1 v2.2.2.1 (Page.mk v2.2.2.2.1 v2.2.2.2.2.1 v2.2.2.2.2.2.1 v2.2.2.2.2.2.2.1 v2.2.2.2.2.2.2.2.1 v2.2.2.2.2.2.2.2.2)),v2.1)
def DP (a:ByteArray) (b:List Be):Option ((ByteArray×List Be)⊕((List Be)⊕((List Be×Bool)))):=
 bif(!(seq a (bs [])))then((sx a 0).bind λx1=>
 (bif(decide ((IntKind.i64.wrap x1)>=128))then(some (decide ((FJ a)>=2)))
 else(some false):Option (Bool)).bind λj1=>
 bif j1 then((sx a 1).bind λx2=>
 (ap 32 b [(Be.mk (IntKind.i64.wrap x2) (sb (IntKind.i64.wrap x1) 128) (bs []))]).bind λq1=>
 (sub a 2 (FJ a)).bind λx3=>
 some (.inl (x3,q1)))
 else((bif(decide ((IntKind.i64.wrap x1)<128))then(some (decide ((IntKind.i64.wrap x1)<(FJ a))))
 else(some false):Option (Bool)).bind λj2=>
 bif j2 then((sub a 1 (ad 1 (IntKind.i64.wrap x1))).bind λx4=>
 (ap 32 b [(Be.mk 0 0 x4)]).bind λq2=>
 (sub a (ad 1 (IntKind.i64.wrap x1)) (FJ a)).bind λx5=>
 some (.inl (x5,q2)))
 else(some (.inr (.inr ([],false))))))
 else(some (.inr (.inl b)))
def Sb (xT:ByteArray):Option (List Be×Bool):=
 (Av (λs:ByteArray×List Be=>DP s.1 s.2) (xT,[])).bind (Sum.elim (λv1=>(some (v1,true))) some)
def Te (x1:Be) (a:List Int) (y2:Int):Option ((List Int×Int)⊕(List Int)):=
 bif(decide (y2<x1.Size))then((gi a (sb (ln a) x1.Back)).bind λx2=>
 (ap 1 a [x2]).bind λq2=>
 some (.inl (q2,(ad y2 1))))
 else(some (.inr a))
def Pg (b:List Be) (a:List Int) (y1:Int):Option ((List Int×Int)⊕((List Int)⊕((ByteArray×Bool)))):=
 bif(decide (y1<(ln b)))then((gi b y1).bind λx1=>
 (bif(x1.Back==0)then((bif(x1.Size !=0)then(some true)
 else((Jt (FJ x1.Text) 1 31).bind λv1=>
 some (!v1)):Option (Bool)).bind λj2=>
 bif j2 then(some (.inr (.inr (.inr ((bs []),false)))))
 else((aps a x1.Text).bind λq1=>
 some (.inl q1)))
 else(((Jt x1.Back 1 (ln a)).bind λv2=>
 bif(!v2)then(some true)
 else((Jt x1.Size 1 31).bind λv3=>
 bif(!v3)then(some true)
 else(some (!(seq x1.Text (bs []))))):Option (Bool)).bind λj3=>
 bif j3 then(some (.inr (.inr (.inr ((bs []),false)))))
 else((Av (λs:List Int×Int=>Te x1 s.1 s.2) (a,0)).bind λv4=>
 some (.inl v4))):Option ((List Int)⊕((List Int×Int)⊕((List Int)⊕((ByteArray×Bool)))))).bind (Sum.elim (λj1=>(bif(decide ((ln j1)>64))then(some (.inr (.inr ((bs []),false))))
 else(some (.inl (j1,(ad y1 1)))))) some))
 else(some (.inr (.inl a)))
def QZ (a:List Be):Option (ByteArray×Bool):=
 (Av (λs:List Int×Int=>Pg a s.1 s.2) ([],0)).bind (Sum.elim (λv5=>(some ((E9 v5),true))) some)
def Gd (xS:ByteArray) (c:Int) (b:Int) (a:Int):Option ((Int)⊕(Int)):=
 (bif(decide (a<31))then(bif(decide ((ad c a)<(FJ xS)))then((sx xS (ad b a)).bind λx1=>
 (sx xS (ad c a)).bind λx2=>
 some (x1==x2))
 else(some false))
 else(some false):Option (Bool)).bind λj1=>
 bif j1 then(some (.inl (ad a 1)))
 else(some (.inr a))
def It (xS:ByteArray) (d:Int) (b:Int) (c:Int) (a:Int):Option ((Int×Int×Int)⊕(Int×Int)):=
 bif(decide (a>=0))then((Av (λs:Int=>Gd xS d a s) 0).bind λv1=>
 (bif(decide (v1>=4))then(some (decide (v1>b)))
 else(some false):Option (Bool)).bind λj2=>
 bif j2 then(some (.inl (v1,(sb d a),(sb a 1))))
 else(some (.inl (b,c,(sb a 1)))))
 else(some (.inr (b,c)))
def TZ (xS:ByteArray) (a:Int):Option (Int×Int):=
 (Av (λs:Int×Int×Int=>It xS a s.1 s.2.1 s.2.2) (0,0,(sb a 1))).bind λv2=>
 some (v2.1,v2.2)
def ND (xS:ByteArray) (a:List Be) (b:Int):Option ((List Be×Int)⊕(List Be)):=
 bif(decide (b<(FJ xS)))then((TZ xS b).bind λv1=>
 bif(decide (v1.1>0))then((ap 32 a [(Be.mk v1.2 v1.1 (bs []))]).bind λq1=>
 some (.inl (q1,(ad b v1.1))))
 else((bif(decide ((sb (ln a) 1)<0))then(some true)
 else((gi a (sb (ln a) 1)).bind λx1=>
 bif(decide (x1.Back>0))then(some true)
 else((gi a (sb (ln a) 1)).bind λx2=>
 some (decide ((FJ x2.Text)>=31)))):Option (Bool)).bind λj1=>
 (bif j1 then((ap 32 a [(Be.mk 0 0 (bs []))]).bind λq2=>
 some (q2,(ad (sb (ln a) 1) 1)))
 else(some (a,(sb (ln a) 1))):Option (List Be×Int)).bind λj2=>
 (gi j2.1 j2.2).bind λx3=>
 (sub xS b (ad b 1)).bind λx4=>
 (HU x3.Text x4).bind λx5=>
 (gi j2.1 j2.2).bind λx6=>
 some (.inl ((si j2.1 j2.2 (Be.mk x6.Back x6.Size x5)),(ad b 1)))))
 else(some (.inr a))
def Sf (xS:ByteArray):Option (List Be):=
 bif(decide ((FJ xS)>64))then(some [])
 else((Av (λs:List Be×Int=>ND xS s.1 s.2) ([],0)).bind λv2=>
 some v2)
def KR (v1:List Be) (a:List Int) (y1:Int):Option ((List Int×Int)⊕(List Int)):=
 bif(decide (y1<(ln v1)))then((gi v1 y1).bind λx1=>
 (bif(decide (x1.Back>0))then((ap 1 a [(IntKind.u8.wrap (ad 128 x1.Size)),(IntKind.u8.wrap x1.Back)]).bind λq1=>
 some q1)
 else((ap 1 a [(IntKind.u8.wrap (FJ x1.Text))]).bind λq4=>
 (aps q4 x1.Text).bind λq5=>
 some q5):Option (List Int)).bind λj1=>
 some (.inl (j1,(ad y1 1))))
 else(some (.inr a))
def Pi (xS:ByteArray):Option (ByteArray×Bool):=
 bif(decide ((FJ xS)>64))then(some ((bs []),false))
 else((Sf xS).bind λv1=>
 (Av (λs:List Int×Int=>KR v1 s.1 s.2) ([122],0)).bind λv2=>
 bif(decide ((ad (FJ xS) 1)<=(ln v2)))then((HU (bs [114]) xS).bind λx2=>
 some (x2,true))
 else(some ((E9 v2),true)))
def Td (xT:ByteArray):Option (ByteArray×Bool):=
 bif(seq xT (bs []))then(some ((bs []),false))
 else((sub xT 1 (FJ xT)).bind λx1=>
 (sx xT 0).bind λx2=>
 (bif(x2 !=114)then((Sb x1).bind λv1=>
 (QZ v1.1).bind λv2=>
 bif(!v1.2)then(some (.inr ((bs []),false)))
 else(bif(!v2.2)then(some (.inr ((bs []),false)))
 else(some (.inl v2.1))))
 else(some (.inl x1)):Option ((ByteArray)⊕((ByteArray×Bool)))).bind (Sum.elim (λj1=>((Pi j1).bind λv3=>
 (bif(!v3.2)then(some true)
 else(some (!(seq v3.1 xT))):Option (Bool)).bind λj2=>
 bif j2 then(some ((bs []),false))
 else(some (j1,true)))) some))
def GL (xB:Block) (a:Int) (y1:Int):Option ((Int×Int)⊕(Int)):=
 bif(decide (y1<(ln xB.Leaves)))then((gi xB.Leaves y1).bind λx1=>
 bif(x1.Is==0)then(some (.inl ((ad a 1),(ad y1 1))))
 else(some (.inl (a,(ad y1 1)))))
 else(some (.inr a))
def Lr (xB:Block):Option (Int):=
 (Av (λs:Int×Int=>GL xB s.1 s.2) (0,0)).bind λv1=>
 some v1
def Nv (xF:Flash) (a:Int) (y1:Int):Option ((Int×Int)⊕(Int)):=
 bif(decide (y1<(ln xF.Blocks)))then((gi xF.Blocks y1).bind λx1=>
 bif(!x1.Bad)then((Lr x1).bind λv1=>
 some (.inl ((ad a v1),(ad y1 1))))
 else(some (.inl (a,(ad y1 1)))))
 else(some (.inr a))
def rW (xF:Flash):Option (Int):=
 (Av (λs:Int×Int=>Nv xF s.1 s.2) (0,0)).bind λv2=>
 some v2
def Gm (xF:Flash) (xB:Int) (v1:List Int) (a:List Al) (y1:Int):Option ((List Al×Int)⊕(List Al)):=
 bif(decide (y1<(ln v1)))then((gi v1 y1).bind λx1=>
 (Tc xF x1).bind λv2=>
 (bif v2.2 then(some (v2.1.Block==xB))
 else(some false):Option (Bool)).bind λj1=>
 bif j1 then((ap 72 a [v2.1]).bind λq1=>
 some (.inl (q1,(ad y1 1))))
 else(some (.inl (a,(ad y1 1)))))
 else(some (.inr a))
def QV (xF:Flash) (xS:Store) (xB:Int):Option (List Al):=
 (Lt xS).bind λv1=>
 (Av (λs:List Al×Int=>Gm xF xB v1 s.1 s.2) ([],0)).bind λv3=>
 some v3
def IG (a:Int) (xB:Int) (v2:List Al) (b:Int) (y1:Int):Option ((Int×Int)⊕(Int)):=
 bif(decide (y1<(ln v2)))then((gi v2 y1).bind λx1=>
 (bif(x1.Block==xB)then(bif(x1.Page.Kind==2)then(some (decide (x1.Page.Tx>=a)))
 else(some false))
 else(some false):Option (Bool)).bind λj1=>
 bif j1 then(some (.inl ((ad b 1),(ad y1 1))))
 else(some (.inl (b,(ad y1 1)))))
 else(some (.inr b))
def K6 (xF:Flash) (xS:Store) (a:Int) (xB:Int):Option (Int):=
 (QV xF xS xB).bind λv1=>
 (Ix xF).bind λv2=>
 (Av (λs:Int×Int=>IG a xB v2 s.1 s.2) ((ln v1),0)).bind λv3=>
 some v3
def Ho (x1:Vol) (v1:List Int) (a:List C3) (y2:Int):Option ((List C3×Int)⊕(List C3)):=
 bif(decide (y2<(ln v1)))then((gi v1 y2).bind λx2=>
 bif(decide (x2>0))then((ap 32 a [(C3.mk 4 x1.Id y2 x2)]).bind λq2=>
 some (.inl (q2,(ad y2 1))))
 else(some (.inl (a,(ad y2 1)))))
 else(some (.inr a))
def Hp (xS:Store) (a:List C3) (y1:Int):Option ((List C3×Int)⊕(List C3)):=
 bif(decide (y1<(ln xS.Vols)))then((gi xS.Vols y1).bind λx1=>
 (ap 32 a [(C3.mk 2 x1.Id 0 0)]).bind λq1=>
 (Th xS.Arena x1.Root).bind λv1=>
 (Av (λs:List C3×Int=>Ho x1 v1 s.1 s.2) (q1,0)).bind λv2=>
 some (.inl (v2,(ad y1 1))))
 else(some (.inr a))
def Pj (xS:Store):Option (List C3):=
 (Av (λs:List C3×Int=>Hp xS s.1 s.2) ([(C3.mk 1 0 xS.Next 0)],0)).bind λv3=>
 some v3
def Pd (b:Int) (a:List Int):Option ((Int×List Int)⊕(Int×List Int)):=
 bif(decide (b>127))then((ap 1 a [(IntKind.u8.wrap (ad (Int.tmod b 128) 128))]).bind λq1=>
 some (.inl ((qu b 128),q1)))
 else(some (.inr (b,a)))
def Uc (xN:Int):Option (ByteArray×Bool):=
 (Jt xN 0 1000000000).bind λv1=>
 bif(!v1)then(some ((bs []),false))
 else((Av (λs:Int×List Int=>Pd s.1 s.2) (xN,[])).bind λv2=>
 (ap 1 v2.2 [(IntKind.u8.wrap v2.1)]).bind λq2=>
 some ((E9 q2),true))
def Ef (xN:Int):Option (ByteArray):=
 (Uc xN).bind λv1=>
 some v1.1
def Ph (xP:Page):Option (ByteArray×Bool):=
 (Qt xP).bind λv1=>
 bif(!v1)then(some ((bs []),false))
 else((Ef xP.Seq).bind λv2=>
 (HU (E9 [(IntKind.u8.wrap xP.Kind)]) v2).bind λx1=>
 (Ef xP.Tx).bind λv3=>
 (HU x1 v3).bind λx2=>
 (Ef xP.Part).bind λv4=>
 (HU x2 v4).bind λx3=>
 (Ef xP.Count).bind λv5=>
 (HU x3 v5).bind λx4=>
 (HU x4 xP.Text).bind λx5=>
 (HP x5).bind λv6=>
 some (v6.1,v6.2))
def HQ (xF:Flash) (y1:Int):Option ((Int)⊕((Unit)⊕(Int))):=
 bif(decide (y1<(ln xF.Blocks)))then((gi xF.Blocks y1).bind λx1=>
 (Lr x1).bind λv1=>
 (bif(!x1.Bad)then(bif(decide (v1>0))then(some (decide (v1<(ln x1.Leaves))))
 else(some false))
 else(some false):Option (Bool)).bind λj1=>
 bif j1 then(some (.inr (.inr y1)))
 else(some (.inl (ad y1 1))))
 else(some (.inr (.inl ())))
def Nw (xF:Flash):Option (Int):=
 (Av (λs:Int=>HQ xF s) 0).bind (Sum.elim (λv2=>(some (-1))) some)
def Ha (xF:Flash) (a:List Int) (y1:Int):Option ((List Int×Int)⊕(List Int)):=
 bif(decide (y1<(ln xF.Blocks)))then((gi xF.Blocks y1).bind λx1=>
 (bif(!x1.Bad)then((Lr x1).bind λv1=>
 some (v1==(ln x1.Leaves)))
 else(some false):Option (Bool)).bind λj1=>
 bif j1 then((ap 8 a [y1]).bind λq1=>
 some (.inl (q1,(ad y1 1))))
 else(some (.inl (a,(ad y1 1)))))
 else(some (.inr a))
def Ma (xF:Flash):Option (List Int):=
 (Av (λs:List Int×Int=>Ha xF s.1 s.2) ([],0)).bind λv2=>
 some v2
def Ge (xF:Flash) (v4:List Int) (a:Int) (y1:Int):Option ((Int×Int)⊕(Int)):=
 bif(decide (y1<(ln v4)))then((gi v4 y1).bind λx2=>
 bif(decide (a<0))then(some (.inl (x2,(ad y1 1))))
 else((gi xF.Blocks x2).bind λx3=>
 (gi xF.Blocks a).bind λx4=>
 bif(decide (x3.Wear<x4.Wear))then(some (.inl (x2,(ad y1 1))))
 else(some (.inl (a,(ad y1 1))))))
 else(some (.inr a))
def Ra (xF:Flash):Option (Int×Int×Bool):=
 (Oi xF).bind λv1=>
 bif(!v1)then(some (0,0,false))
 else((Nw xF).bind λv2=>
 bif(decide (v2>=0))then((gi xF.Blocks v2).bind λx1=>
 (Nx x1).bind λv3=>
 some (v2,v3,true))
 else((Ma xF).bind λv4=>
 (Av (λs:Int×Int=>Ge xF v4 s.1 s.2) ((-1),0)).bind λv5=>
 bif(decide (v5<0))then(some (0,0,false))
 else(some (v5,0,true))))
def CV (xW:EU) (xP:Page) (a:Int):Option (Bool×EU):=
 (Ph xP).bind λv1=>
 (Ra xW.f_).bind λv2=>
 (bif(!v1.2)then(some true)
 else(bif(!v2.2.2)then(some true)
 else(some (v2.1==a))):Option (Bool)).bind λj1=>
 bif j1 then(some (false,xW))
 else(((Tg xW.f_ (Bi.mk 1 v2.1 v2.2.1 v1.1)).bind λv4=>
 some (v4.2,v4.1.Blocks):Option (Bool×List Block)).bind λj2=>
 (ap 40 xW.steps_ [(Bi.mk 1 v2.1 v2.2.1 v1.1)]).bind λq1=>
 some (j2.1,(EU.mk (Flash.mk j2.2) q1)))
def QX (xR:C3):Option (ByteArray×Bool):=
 (Wu xR).bind λv1=>
 bif(!v1)then(some ((bs []),false))
 else((Ef xR.Arg).bind λv2=>
 (HU (E9 [(IntKind.u8.wrap (ad (ml 16 xR.Kind) xR.Vol))]) v2).bind λx1=>
 (Ef xR.Chunk).bind λv3=>
 (HU x1 v3).bind λx2=>
 some (x2,true))
def Iu (b:List C3) (a:List ByteArray) (y1:Int):Option ((List ByteArray×Int)⊕((List ByteArray)⊕((List Page×Bool)))):=
 bif(decide (y1<(ln b)))then((gi b y1).bind λx1=>
 (QX x1).bind λv1=>
 bif(!v1.2)then(some (.inr (.inr ([],false))))
 else((gi a (sb (ln a) 1)).bind λx2=>
 (bif(decide ((ad (FJ x2) (FJ v1.1))>90))then((ap 16 a [(bs [])]).bind λq1=>
 some (q1,(ad (sb (ln a) 1) 1)))
 else(some (a,(sb (ln a) 1))):Option (List ByteArray×Int)).bind λj1=>
 (gi j1.1 j1.2).bind λx3=>
 (HU x3 v1.1).bind λx4=>
 (gi j1.1 j1.2).bind λx5=>
 some (.inl ((si j1.1 j1.2 x4),(ad y1 1)))))
 else(some (.inr (.inl a)))
def JM (b:Int) (c:Int) (v2:List ByteArray) (a:List Page) (y2:Int):Option ((List Page×Int)⊕(List Page)):=
 bif(decide (y2<(ln v2)))then((gi v2 y2).bind λx6=>
 (ap 56 a [(Page.mk 2 (ad b y2) c y2 (ln v2) x6)]).bind λq2=>
 some (.inl (q2,(ad y2 1))))
 else(some (.inr a))
def Oh (a:Int) (c:Int) (b:List C3):Option (List Page×Bool):=
 (Av (λs:List ByteArray×Int=>Iu b s.1 s.2) ([(bs [])],0)).bind (Sum.elim (λv2=>((bif(decide ((ln v2)>9))then(some true)
 else((Jt a 1 (ad (sb 1000000000 (ln v2)) 1)).bind λv3=>
 bif(!v3)then(some true)
 else((Jt c 1 1000000000).bind λv4=>
 some (!v4))):Option (Bool)).bind λj2=>
 bif j2 then(some ([],false))
 else((Av (λs:List Page×Int=>JM a c v2 s.1 s.2) ([],0)).bind λv5=>
 some (v5,true)))) some)
def C9 (v2:List Page×Bool) (a:Bool) (y1:Int) (y01:List Block) (y11:List Bi):Option ((Bool×Int×List Block×List Bi)⊕(Bool×List Block×List Bi)):=
 bif(decide (y1<(ln v2.1)))then((gi v2.1 y1).bind λx2=>
 bif a then((CV (EU.mk (Flash.mk y01) y11) x2 (-1)).bind λv3=>
 some (.inl (v3.1,(ad y1 1),v3.2.f_.Blocks,v3.2.steps_)))
 else(some (.inl (false,(ad y1 1),y01,y11))))
 else(some (.inr (a,y01,y11)))
def LZ (xD:AE) (a:List C3) (b:ByteArray):Option (List Bi×Bool):=
 bif((ln a)==0)then(some ([],true))
 else((bif(!(seq b (bs [])))then((gi a (sb (ln a) 1)).bind λx1=>
 (CV (EU.mk xD.Flash []) (Page.mk 1 xD.Seq x1.Chunk 0 1 b) (-1)).bind λv1=>
 bif(!v1.1)then(some (.inr ([],false)))
 else(some (.inl ((ad xD.Seq 1),v1.2.f_.Blocks,v1.2.steps_))))
 else(some (.inl (xD.Seq,xD.Flash.Blocks,[]))):Option ((Int×List Block×List Bi)⊕((List Bi×Bool)))).bind (Sum.elim (λj1=>((Oh j1.1 xD.Tx a).bind λv2=>
 (Av (λs:Bool×Int×List Block×List Bi=>C9 v2 s.1 s.2.1 s.2.2.1 s.2.2.2) (v2.2,0,j1.2.1,j1.2.2)).bind λv4=>
 bif(!v4.1)then(some ([],false))
 else(some (v4.2.2,true)))) some))
def Nz (xD:AE):Option (List Bi×Bool):=
 (Pj xD.Store).bind λv1=>
 (LZ xD v1 (bs [])).bind λv2=>
 some (v2.1,v2.2)
def BS (x:Al):Int:=x.Leaf
def HR (xD:AE) (xB:Int) (v2:List Al) (y1:Int) (y01:List Block) (y11:List Bi):Option ((Int×List Block×List Bi)⊕((List Block×List Bi)⊕((List Bi×Bool)))):=
 bif(decide (y1<(ln v2)))then((gi v2 y1).bind λx1=>
 (CV (EU.mk (Flash.mk y01) y11) (Page.mk 1 (ad xD.Seq y1) x1.Page.Tx 0 1 x1.Page.Text) xB).bind λv3=>
 bif(!v3.1)then(some (.inr (.inr ([],false))))
 else(some (.inl ((ad y1 1),v3.2.f_.Blocks,v3.2.steps_))))
 else(some (.inr (.inl (y01,y11))))
def Ny (xD:AE) (xB:Int):Option (List Bi×Bool):=
 (QV xD.Flash xD.Store xB).bind λv1=>
 (PQ (MX BS) v1).bind λv2=>
 (Av (λs:Int×List Block×List Bi=>HR xD xB v2 s.1 s.2.1 s.2.2) (0,xD.Flash.Blocks,[])).bind (Sum.elim (λv4=>(some (v4.2,true))) some)
def Gt (xA:List Bi) (xB:List Bi) (a:Int):Option ((Int)⊕((Unit)⊕(Bool))):=
 bif(decide (a<(ln xA)))then((gi xA a).bind λx1=>
 (gi xB a).bind λx2=>
 bif(!((x1.Kind==x2.Kind)&&((x1.Block==x2.Block)&&((x1.Leaf==x2.Leaf)&&(seq x1.Text x2.Text&&true)))))then(some (.inr (.inr false)))
 else(some (.inl (ad a 1))))
 else(some (.inr (.inl ())))
def Nc (xA:List Bi) (xB:List Bi):Option (Bool):=
 bif((ln xA) !=(ln xB))then(some false)
 else((Av (λs:Int=>Gt xA xB s) 0).bind (Sum.elim (λv1=>(some true)) some))
def FU (a:List Int) (b:Int) (y01:List Int) (y11:Int) (y21:Int):Option ((List Int×Int×List Int×Int×Int)⊕(List Int)):=
 bif(decide (b<12))then((Dw (BE.mk y01 y11 y21) 10000).bind λv3=>
 (ap 8 a [v3.1]).bind λq1=>
 some (.inl (q1,(ad b 1),v3.2.b_,v3.2.i_,v3.2.h_)))
 else(some (.inr a))
def LS (a:List Int):Option (List Int):=
 (PV a).bind λv1=>
 (Ig v1).bind λv2=>
 (Av (λs:List Int×Int×List Int×Int×Int=>FU s.1 s.2.1 s.2.2.1 s.2.2.2.1 s.2.2.2.2) ([],0,v2.2.b_,v2.2.i_,v2.2.h_)).bind λv4=>
 some v4
def XG (xF:Flash) (xS:Store) (a:Int) (xB:Int):Option (Int):=
 (FP xF).bind λv1=>
 (G3 xS).bind λv2=>
 (GH v1 v2 a).bind λv3=>
 (Ni v1 v3 xB).bind λv4=>
 some v4
def KV (a:List Int):Option (Bool):=
 (WD a).bind λv1=>
 bif v1 then(some true)
 else((LT a).bind λv2=>
 (LS a).bind λv3=>
 (gi v3 0).bind λx1=>
 (rm .i64 x1 (ln v2.Flash.Blocks)).bind λx2=>
 (Ny v2 x2).bind λv4=>
 (GI v2 x2).bind λv5=>
 (bif(!(v4.2==v5.2))then(some true)
 else((Nc v4.1 v5.1).bind λv6=>
 some (!v6)):Option (Bool)).bind λj1=>
 bif j1 then(some false)
 else(bif(!v4.2)then(some ((ln v4.1)==0))
 else((GR v2 v4.1).bind λv7=>
 (Nz v2).bind λv8=>
 (Jm v2).bind λv9=>
 bif(v8.2==v9.2)then((Le v7.Store v2.Store).bind λv10=>
 bif v10 then((K6 v7.Flash v7.Store 1000000000 x2).bind λv11=>
 bif(v11==0)then((K6 v2.Flash v2.Store 1000000000 x2).bind λv12=>
 bif((ln v4.1)==v12)then(bif(!v8.2)then(some true)
 else(some (decide ((ln v8.1)>=1))))
 else(some false))
 else(some false))
 else(some false))
 else(some false))))
end
end Go.TI
