/- What functions of the given program compute. No condition. -/
import Derived.Test.YtdhemppeejlbeabGreatORT5
namespace Go.TI
open Go
noncomputable section
structure dC where
 Kind:Int
 Vol:Int
 Sector:Int
 Of:Int
 Text:ByteArray
structure Shelf where
 Vol:Int
 Texts:List ByteArray
structure BY where
 Kind:Int
 Block:Int
 Leaf:Int
 Text:ByteArray
structure Leaf where
 Is:Int
 Text:ByteArray
structure Block where
 Bad:Bool
 Wear:Int
 Leaves:List Leaf
structure Flash where
 Blocks:List Block
structure Vol where
 Id:Int
 Root:Int
structure BI where
 Leaf:Bool
 Kids:List Int
structure Arena where
 Knots:List BI
structure Store where
 Vols:List Vol
 Arena:Arena
 Next:Int
structure Bc where
 Flash:Flash
 Store:Store
 Seq:Int
 Tx:Int
 Base:Int
structure Dk where
 Kind:Int
 Vol:Int
 Arg:Int
 Chunk:Int
structure World where
 Bc:Bc
 Codes:List Int
 Told:List ByteArray
 Model:List Shelf
 Steps:List BY
structure Cf where
 b_:List Int
 i_:Int
 h_:Int
structure El where
 text_:ByteArray
 at_:Int
 bad_:Bool
structure Page where
 Kind:Int
 Seq:Int
 Tx:Int
 Part:Int
 Count:Int
 Text:ByteArray
structure A4 where
 Block:Int
 Leaf:Int
 Page:Page
structure Tx where
 Num:Int
 Seq:Int
 Recs:List Dk
structure Bi where
 Back:Int
 Size:Int
 Text:ByteArray
def Cc (xX:Int) (a:Int) (b:Int):Option (Bool):=
 bif(decide (xX>=a))then(some (decide (xX<=b)))
 else(some false)
def VB (xQ:dC):Option (Bool):=
 ((Cc xQ.Kind 1 6).bind λv1=>
 bif(!v1)then(some true)
 else((Cc xQ.Vol 1 9).bind λv2=>
 bif(!v2)then(some true)
 else(bif(decide ((Gi xQ.Text)>64))then(some true)
 else(bif(xQ.Kind !=1)then(some (!(seq xQ.Text (bs []))))
 else(some false)))):Option (Bool)).bind λj1=>
 bif j1 then(some false)
 else(bif(xQ.Kind==4)then((bif(xQ.Sector==0)then((Cc xQ.Of 1 9).bind λv3=>
 some v3)
 else(some false):Option (Bool)).bind λj2=>
 some j2)
 else(bif(xQ.Of !=0)then(some false)
 else((bif(xQ.Kind==3)then(some true)
 else(some (xQ.Kind==5)):Option (Bool)).bind λj3=>
 bif j3 then(some (xQ.Sector==0))
 else((Cc xQ.Sector 0 15).bind λv4=>
 some v4))))
def Jc (xN:Int) (b:Int) (a:Int):Option (Bool):=
 bif(decide (xN>=b))then(some (decide (xN<=a)))
 else(some false)
def IK (xN:Int) (b:Int) (a:List Block):Option ((Int×List Block)⊕(List Block)):=
 bif(decide (b<xN))then((mk 24 (Leaf.mk 0 (bs [])) 4).bind λq1=>
 (ap 40 a [(Block.mk false 0 q1)]).bind λq2=>
 some (.inl ((ad b 1),q2)))
 else(some (.inr a))
def O2 (xN:Int):Option (Flash×Bool):=
 (Cc xN 3 10).bind λv1=>
 bif(!v1)then(some ((Flash.mk []),false))
 else((Av (λs:Int×List Block=>IK xN s.1 s.2) (0,[])).bind λv2=>
 some ((Flash.mk v2),true))
def JE (xF:Flash) (b:Int) (a:List Block):Option ((Int×List Block)⊕(List Block)):=
 bif(decide (b<(ln xF.Blocks)))then((gi xF.Blocks b).bind λx1=>
 (ap 24 [] x1.Leaves).bind λq1=>
 (ap 40 a [(Block.mk x1.Bad x1.Wear q1)]).bind λq2=>
 some (.inl ((ad b 1),q2)))
 else(some (.inr a))
def Hn (xF:Flash):Option (Flash):=
 (Av (λs:Int×List Block=>JE xF s.1 s.2) (0,[])).bind λv1=>
 some (Flash.mk v1)
def QH (xX:Leaf):Option (Bool):=
 bif(xX.Is==0)then(some (seq xX.Text (bs [])))
 else(bif(xX.Is==1)then((Cc (Gi xX.Text) 1 120).bind λv1=>
 some v1)
 else(bif(xX.Is==2)then(some (decide ((Gi xX.Text)<=120)))
 else(some false)))
def FL (x1:Block) (a:Int):Option ((Int)⊕((Unit)⊕((Int)⊕((Unit)⊕(Bool))))):=
 bif(decide (a<(ln x1.Leaves)))then(((gi x1.Leaves a).bind λx2=>
 (QH x2).bind λv2=>
 bif(!v2)then(some true)
 else(bif(decide (a>0))then((gi x1.Leaves (sb a 1)).bind λx3=>
 bif(x3.Is==0)then((gi x1.Leaves a).bind λx4=>
 some (x4.Is !=0))
 else(some false))
 else(some false)):Option (Bool)).bind λj2=>
 bif j2 then(some (.inr (.inr (.inr (.inr false)))))
 else(some (.inl (ad a 1))))
 else(some (.inr (.inl ())))
def FM (xF:Flash) (a:Int):Option ((Int)⊕((Unit)⊕(Bool))):=
 bif(decide (a<(ln xF.Blocks)))then((gi xF.Blocks a).bind λx1=>
 (bif((ln x1.Leaves) !=4)then(some true)
 else((Cc x1.Wear 0 1000000000).bind λv1=>
 some (!v1)):Option (Bool)).bind λj1=>
 bif j1 then(some (.inr (.inr false)))
 else((Av (λs:Int=>FL x1 s) 0).bind (Sum.elim (λv3=>(some (.inl (ad a 1)))) some)))
 else(some (.inr (.inl ())))
def Hr (xF:Flash):Option (Bool):=
 (Av (λs:Int=>FM xF s) 0).bind (Sum.elim (λv4=>((Cc (ln xF.Blocks) 3 10).bind λv5=>
 some v5)) some)
def G0 (xB:Block) (a:Int):Option ((Int)⊕((Unit)⊕(Int))):=
 bif(decide (a<(ln xB.Leaves)))then((gi xB.Leaves a).bind λx1=>
 bif(x1.Is==0)then(some (.inr (.inr a)))
 else(some (.inl (ad a 1))))
 else(some (.inr (.inl ())))
def Jr (xB:Block):Option (Int):=
 (Av (λs:Int=>G0 xB s) 0).bind (Sum.elim (λv1=>(some 4)) some)
def Wy (xF:Flash) (xB:Int) (a:Int) (b:ByteArray):Option (Bool):=
 (Cc xB 0 (sb (ln xF.Blocks) 1)).bind λv1=>
 bif v1 then((gi xF.Blocks xB).bind λx1=>
 bif(!x1.Bad)then(bif(decide (a<4))then((gi xF.Blocks xB).bind λx2=>
 (Jr x2).bind λv2=>
 bif(a==v2)then((Cc (Gi b) 1 120).bind λv3=>
 some v3)
 else(some false))
 else(some false))
 else(some false))
 else(some false)
def N9 (xF:Flash) (xB:Int) (a:Int) (b:ByteArray):Option (Flash×Bool):=
 (Hn xF).bind λv1=>
 ((Hr xF).bind λv2=>
 bif(!v2)then(some true)
 else((Wy xF xB a b).bind λv3=>
 some (!v3)):Option (Bool)).bind λj1=>
 bif j1 then(some (v1,false))
 else((gi v1.Blocks xB).bind λx1=>
 (gi x1.Leaves a).bind λx2=>
 some ((Flash.mk (si v1.Blocks xB (Block.mk x1.Bad x1.Wear (si x1.Leaves a (Leaf.mk 1 b))))),true))
def W0 (xF:Flash) (xB:Int):Option (Flash×Bool):=
 (Hn xF).bind λv1=>
 ((Hr xF).bind λv2=>
 bif(!v2)then(some true)
 else((Cc xB 0 (sb (ln xF.Blocks) 1)).bind λv3=>
 bif(!v3)then(some true)
 else((gi xF.Blocks xB).bind λx1=>
 bif x1.Bad then(some true)
 else((gi xF.Blocks xB).bind λx2=>
 some (x2.Wear==1000000000)))):Option (Bool)).bind λj1=>
 bif j1 then(some (v1,false))
 else((gi xF.Blocks xB).bind λx3=>
 (mk 24 (Leaf.mk 0 (bs [])) 4).bind λq1=>
 (gi v1.Blocks xB).bind λx4=>
 some ((Flash.mk (si v1.Blocks xB (Block.mk false (ad x3.Wear 1) q1))),true))
def NB (xF:Flash) (xS:BY):Option (Flash×Bool):=
 bif(xS.Kind==1)then((N9 xF xS.Block xS.Leaf xS.Text).bind λv1=>
 some (v1.1,v1.2))
 else(bif(xS.Kind==2)then((W0 xF xS.Block).bind λv2=>
 some (v2.1,v2.2))
 else((Hn xF).bind λv3=>
 some (v3,false)))
def Iu (b:List BY) (c:Int) (a:List Block):Option ((Int×List Block)⊕((List Block)⊕((Flash×Int)))):=
 bif(decide (c<(ln b)))then(((gi b c).bind λx1=>
 (NB (Flash.mk a) x1).bind λv3=>
 some (v3.2,v3.1.Blocks):Option (Bool×List Block)).bind λj1=>
 bif(!j1.1)then(some (.inr (.inr ((Flash.mk a),c))))
 else(some (.inl ((ad c 1),j1.2))))
 else(some (.inr (.inl a)))
def Mb (xF:Flash) (a:List BY):Option (Flash×Int):=
 (Hn xF).bind λv1=>
 (Av (λs:Int×List Block=>Iu a s.1 s.2) (0,v1.Blocks)).bind (Sum.elim (λv5=>(some ((Flash.mk v5),(ln a)))) some)
def Qn (xF:Flash) (y1:Int) (a:List Block):Option ((Int×List Block)⊕(List Block)):=
 bif(decide (y1<(ln xF.Blocks)))then((gi xF.Blocks y1).bind λx1=>
 (ap 24 [] x1.Leaves).bind λq1=>
 (ap 40 a [(Block.mk x1.Bad x1.Wear q1)]).bind λq2=>
 some (.inl ((ad y1 1),q2)))
 else(some (.inr a))
def Qo (xF:Flash):Option (Flash):=
 (Av (λs:Int×List Block=>Qn xF s.1 s.2) (0,[])).bind λv1=>
 some (Flash.mk v1)
def fD (xX:Leaf):Option (Bool):=
 bif(xX.Is==0)then(some (seq xX.Text (bs [])))
 else(bif(xX.Is==1)then((Jc (Gi xX.Text) 1 120).bind λv1=>
 some v1)
 else(bif(xX.Is==2)then(some (decide ((Gi xX.Text)<=120)))
 else(some false)))
def LS (x1:Block) (y2:Int):Option ((Int)⊕((Unit)⊕((Int)⊕((Unit)⊕(Bool))))):=
 bif(decide (y2<(ln x1.Leaves)))then((gi x1.Leaves y2).bind λx2=>
 ((fD x2).bind λv2=>
 bif(!v2)then(some true)
 else(bif(decide (y2>0))then((gi x1.Leaves (sb y2 1)).bind λx3=>
 bif(x3.Is==0)then(some (x2.Is !=0))
 else(some false))
 else(some false)):Option (Bool)).bind λj2=>
 bif j2 then(some (.inr (.inr (.inr (.inr false)))))
 else(some (.inl (ad y2 1))))
 else(some (.inr (.inl ())))
def LT (xF:Flash) (y1:Int):Option ((Int)⊕((Unit)⊕(Bool))):=
 bif(decide (y1<(ln xF.Blocks)))then((gi xF.Blocks y1).bind λx1=>
 (bif((ln x1.Leaves) !=4)then(some true)
 else((Jc x1.Wear 0 1000000000).bind λv1=>
 some (!v1)):Option (Bool)).bind λj1=>
 bif j1 then(some (.inr (.inr false)))
 else((Av (λs:Int=>LS x1 s) 0).bind (Sum.elim (λv3=>(some (.inl (ad y1 1)))) some)))
 else(some (.inr (.inl ())))
def Rb (xF:Flash):Option (Bool):=
 (Av (λs:Int=>LT xF s) 0).bind (Sum.elim (λv4=>((Jc (ln xF.Blocks) 3 10).bind λv5=>
 some v5)) some)
def Wd (a:List Int):Option (Bool):=
 some (decide ((ln a)>1048576))
def Jo (a:List Int) (c:Int) (b:Int):Option ((Int×Int)⊕(Int)):=
 (bif(decide (b<(ln a)))then(some (decide (b<4000)))
 else(some false):Option (Bool)).bind λj1=>
 bif j1 then((gi a b).bind λx1=>
 some (.inl ((zI .i64 (ad (ad (ml c 131) (IntKind.i64.wrap x1)) 7) 1073741823),(ad b 1))))
 else(some (.inr c))
def SF (a:List Int):Option (Cf):=
 (Av (λs:Int×Int=>Jo a s.1 s.2) ((ad 36501 (ln a)),0)).bind λv1=>
 some (Cf.mk a 0 v1)
def Jp (xC:Cf):Option (Int×Cf):=
 bif(decide (xC.i_<(ln xC.b_)))then((gi xC.b_ xC.i_).bind λx1=>
 some ((zI .i64 (ad (zI .i64 (bxo .i64 (Int.fdiv (ad (ml xC.h_ 6364136223846793005) 1442695040888963407) (2^(min (33:Int).toNat IntKind.i64.bits))) (Int.fdiv (ad (ml xC.h_ 6364136223846793005) 1442695040888963407) (2^(min (45:Int).toNat IntKind.i64.bits)))) 255) (IntKind.i64.wrap x1)) 255),(Cf.mk xC.b_ (ad xC.i_ 1) (ad (ml xC.h_ 6364136223846793005) 1442695040888963407))))
 else(some ((zI .i64 (bxo .i64 (Int.fdiv (ad (ml xC.h_ 6364136223846793005) 1442695040888963407) (2^(min (33:Int).toNat IntKind.i64.bits))) (Int.fdiv (ad (ml xC.h_ 6364136223846793005) 1442695040888963407) (2^(min (45:Int).toNat IntKind.i64.bits)))) 255),(Cf.mk xC.b_ xC.i_ (ad (ml xC.h_ 6364136223846793005) 1442695040888963407))))
def DM (xC:Cf) (xN:Int):Option (Int×Cf):=
 bif(decide (xN<=0))then(some (0,xC))
 else(bif(decide (xN<=256))then((Jp xC).bind λv1=>
 (rm .i64 v1.1 xN).bind λx1=>
 some (x1,v1.2))
 else((Jp xC).bind λv2=>
 (Jp v2.2).bind λv3=>
 (Jp v3.2).bind λv4=>
 (Jp v4.2).bind λv5=>
 (rm .i64 (ad (ad (ad (ml v2.1 16777216) (ml v3.1 65536)) (ml v4.1 256)) v5.1) xN).bind λx2=>
 some (x2,v5.2)))
def Ox (xF:Flash) (xB:Int) (a:Int):Option (ByteArray×Bool):=
 ((Cc xB 0 (sb (ln xF.Blocks) 1)).bind λv1=>
 bif(!v1)then(some true)
 else((gi xF.Blocks xB).bind λx1=>
 (Cc a 0 (sb (ln x1.Leaves) 1)).bind λv2=>
 bif(!v2)then(some true)
 else((gi xF.Blocks xB).bind λx2=>
 (gi x2.Leaves a).bind λx3=>
 some (x3.Is !=1))):Option (Bool)).bind λj1=>
 bif j1 then(some ((bs []),false))
 else((gi xF.Blocks xB).bind λx4=>
 (gi x4.Leaves a).bind λx5=>
 some (x5.Text,true))
def Iq (a:Int) (b:Int):Option ((Int×Int)⊕(Int)):=
 bif(decide (b<8))then(bif((Int.tmod a 2)==1)then(some (.inl ((xr (IntKind.u32.wrap (Int.tdiv a 2)) 3558460437),(ad b 1))))
 else(some (.inl ((IntKind.u32.wrap (Int.tdiv a 2)),(ad b 1)))))
 else(some (.inr a))
def JH (a:ByteArray) (b:Int) (c:Int):Option ((Int×Int)⊕(Int)):=
 bif(decide (c<(Gi a)))then((sx a c).bind λx1=>
 (Av (λs:Int×Int=>Iq s.1 s.2) ((xr b (IntKind.u32.wrap x1)),0)).bind λv1=>
 some (.inl (v1,(ad c 1))))
 else(some (.inr b))
def QI (b:Int) (a:ByteArray):Option (Int):=
 (Av (λs:Int×Int=>JH a s.1 s.2) (b,0)).bind λv2=>
 some v2
def MR (a:ByteArray):Option (Int):=
 (QI 4294967295 a).bind λv1=>
 some v1
def Kq (xX:Int):Option (ByteArray):=
 some (HC [(IntKind.u8.wrap (Int.fdiv xX (2^(min (24:Int).toNat IntKind.u32.bits)))),(IntKind.u8.wrap (Int.fdiv xX (2^(min (16:Int).toNat IntKind.u32.bits)))),(IntKind.u8.wrap (Int.fdiv xX (2^(min (8:Int).toNat IntKind.u32.bits)))),(IntKind.u8.wrap xX)])
def Kr (a:ByteArray):Option (ByteArray×Bool):=
 (bif(decide ((sb (Gi a) 4)<0))then(some true)
 else(bif(decide ((sb (Gi a) 4)>20000))then(some true)
 else((sub a (sb (Gi a) 4) (Gi a)).bind λx1=>
 (sub a 0 (sb (Gi a) 4)).bind λx2=>
 (MR x2).bind λv1=>
 (Kq v1).bind λv2=>
 some (!(seq x1 v2)))):Option (Bool)).bind λj1=>
 bif j1 then(some ((bs []),false))
 else((sub a 0 (sb (Gi a) 4)).bind λx3=>
 some (x3,true))
def PL (b:Int) (a:List Int):Option ((Int×List Int)⊕(Int×List Int)):=
 bif(decide (b>127))then((ap 1 a [(IntKind.u8.wrap (ad (Int.tmod b 128) 128))]).bind λq1=>
 some (.inl ((qu b 128),q1)))
 else(some (.inr (b,a)))
def II (xN:Int):Option (ByteArray):=
 (Av (λs:Int×List Int=>PL s.1 s.2) (xN,[])).bind λv1=>
 (ap 1 v1.2 [(IntKind.u8.wrap v1.1)]).bind λq2=>
 some (HC q2)
def DK (b:ByteArray) (e:Int) (d:Int) (a:Int) (c:Int):Option ((Int×Int×Int)⊕((Unit)⊕((Int×Int×Bool)))):=
 (bif(decide (c<(Gi b)))then(some (decide (c<(ad e 5))))
 else(some false):Option (Bool)).bind λj1=>
 bif j1 then((sx b c).bind λx1=>
 (sx b c).bind λx2=>
 bif(decide (x2<128))then((bif(decide ((ad d (ml (Int.tmod (IntKind.i64.wrap x1) 128) a))>1000000000))then(some true)
 else((sub b e (ad c 1)).bind λx3=>
 (II (ad d (ml (Int.tmod (IntKind.i64.wrap x1) 128) a))).bind λv2=>
 some (!(seq v2 x3))):Option (Bool)).bind λj2=>
 bif j2 then(some (.inr (.inr (0,0,false))))
 else(some (.inr (.inr ((ad d (ml (Int.tmod (IntKind.i64.wrap x1) 128) a)),(ad c 1),true)))))
 else(some (.inl ((ad d (ml (Int.tmod (IntKind.i64.wrap x1) 128) a)),(ml a 128),(ad c 1)))))
 else(some (.inr (.inl ())))
def Jq (a:ByteArray) (b:Int):Option (Int×Int×Bool):=
 (Cc b 0 (Gi a)).bind λv1=>
 bif(!v1)then(some (0,0,false))
 else((Av (λs:Int×Int×Int=>DK a b s.1 s.2.1 s.2.2) (0,1,b)).bind (Sum.elim (λv3=>(some (0,0,false))) some))
def Do (xC:El):Option (Int×El):=
 (Jq xC.text_ xC.at_).bind λv1=>
 (bif xC.bad_ then(some true)
 else(some (!v1.2.2)):Option (Bool)).bind λj1=>
 bif j1 then(some (0,(El.mk xC.text_ xC.at_ true)))
 else(some (v1.1,(El.mk xC.text_ v1.2.1 xC.bad_)))
def JM (xP:Page):Option (Bool):=
 ((Cc xP.Kind 1 2).bind λv1=>
 bif(!v1)then(some true)
 else((Cc xP.Seq 1 1000000000).bind λv2=>
 bif(!v2)then(some true)
 else((Cc xP.Tx 1 1000000000).bind λv3=>
 bif(!v3)then(some true)
 else((Cc xP.Count 1 9).bind λv4=>
 bif(!v4)then(some true)
 else((Cc xP.Part 0 (sb xP.Count 1)).bind λv5=>
 bif(!v5)then(some true)
 else(some (decide ((Gi xP.Text)>90))))))):Option (Bool)).bind λj1=>
 bif j1 then(some false)
 else(bif(xP.Kind==2)then(some true)
 else(some (xP.Count==1)))
def LZ (xN:Int):Option (ByteArray):=
 some (HC [(IntKind.u8.wrap xN)])
def JI (a:ByteArray):Option (ByteArray×Bool):=
 bif(decide ((Gi a)>20000))then(some ((bs []),false))
 else((MR a).bind λv1=>
 (Kq v1).bind λv2=>
 (TB a v2).bind λx1=>
 some (x1,true))
def EY (xP:Page):Option (ByteArray×Bool):=
 (JM xP).bind λv1=>
 bif(!v1)then(some ((bs []),false))
 else((LZ xP.Kind).bind λv2=>
 (II xP.Seq).bind λv3=>
 (TB v2 v3).bind λx1=>
 (II xP.Tx).bind λv4=>
 (TB x1 v4).bind λx2=>
 (II xP.Part).bind λv5=>
 (TB x2 v5).bind λx3=>
 (II xP.Count).bind λv6=>
 (TB x3 v6).bind λx4=>
 (TB x4 xP.Text).bind λx5=>
 (JI x5).bind λv7=>
 some (v7.1,v7.2))
def EX (xT:ByteArray):Option (Page×Bool):=
 (Kr xT).bind λv1=>
 (bif(!v1.2)then(some true)
 else(some (decide ((Gi v1.1)<1))):Option (Bool)).bind λj1=>
 (Do (El.mk v1.1 1 j1)).bind λv2=>
 (Do v2.2).bind λv3=>
 (Do v3.2).bind λv4=>
 (Do v4.2).bind λv5=>
 bif v5.2.bad_ then(some ((Page.mk 0 0 0 0 0 (bs [])),false))
 else((sx v1.1 0).bind λx1=>
 (sub v1.1 v5.2.at_ (Gi v1.1)).bind λx2=>
 (EY (Page.mk (IntKind.i64.wrap x1) v2.1 v3.1 v4.1 v5.1 x2)).bind λv6=>
 (bif(!v6.2)then(some true)
 else(some (!(seq v6.1 xT))):Option (Bool)).bind λj2=>
 bif j2 then(some ((Page.mk 0 0 0 0 0 (bs [])),false))
 else(some ((Page.mk (IntKind.i64.wrap x1) v2.1 v3.1 v4.1 v5.1 x2),true)))
def EN (xF:Flash) (c:Int) (a:List A4) (b:Int):Option ((List A4×Int)⊕(List A4)):=
 (gi xF.Blocks c).bind λx1=>
 bif(decide (b<(ln x1.Leaves)))then((Ox xF c b).bind λv1=>
 (EX v1.1).bind λv2=>
 (bif v1.2 then(some v2.2)
 else(some false):Option (Bool)).bind λj1=>
 bif j1 then((ap 72 a [(A4.mk c b v2.1)]).bind λq1=>
 some (.inl (q1,(ad b 1))))
 else(some (.inl (a,(ad b 1)))))
 else(some (.inr a))
def Et (xF:Flash) (a:List A4) (b:Int):Option ((List A4×Int)⊕(List A4)):=
 bif(decide (b<(ln xF.Blocks)))then((Av (λs:List A4×Int=>EN xF b s.1 s.2) (a,0)).bind λv3=>
 some (.inl (v3,(ad b 1))))
 else(some (.inr a))
def JJ (a:List A4) (b:Int):Option ((List A4×Int)⊕(List A4)):=
 (bif(decide (b>0))then((gi a (sb b 1)).bind λx2=>
 (gi a b).bind λx3=>
 some (decide (x2.Page.Seq>x3.Page.Seq)))
 else(some false):Option (Bool)).bind λj2=>
 bif j2 then((gi a b).bind λx4=>
 (gi a (sb b 1)).bind λx5=>
 (gi a b).bind λx6=>
 (gi (si a b x5) (sb b 1)).bind λx7=>
 some (.inl ((si (si a b x5) (sb b 1) x4),(sb b 1))))
 else(some (.inr a))
def JK (a:List A4) (b:Int):Option ((List A4×Int)⊕(List A4)):=
 bif(decide (b<(ln a)))then((Av (λs:List A4×Int=>JJ s.1 s.2) (a,b)).bind λv5=>
 some (.inl (v5,(ad b 1))))
 else(some (.inr a))
def Gx (xF:Flash):Option (List A4):=
 (Av (λs:List A4×Int=>Et xF s.1 s.2) ([],0)).bind λv4=>
 (Av (λs:List A4×Int=>JK s.1 s.2) (v4,1)).bind λv6=>
 some v6
def Ms:Option (Store):=
 some (Store.mk [] (Arena.mk []) 1)
def MT (xR:Dk):Option (Bool):=
 (Cc xR.Arg 0 1000000000).bind λv1=>
 bif(!v1)then(some false)
 else(bif(xR.Kind==1)then((bif(xR.Vol==0)then(some (xR.Chunk==0))
 else(some false):Option (Bool)).bind λj1=>
 some j1)
 else(((Cc xR.Kind 2 5).bind λv2=>
 bif(!v2)then(some true)
 else((Cc xR.Vol 1 9).bind λv3=>
 bif(!v3)then(some true)
 else(bif(xR.Kind !=4)then(some (xR.Chunk !=0))
 else(some false))):Option (Bool)).bind λj2=>
 bif j2 then(some false)
 else(bif(xR.Kind==2)then(some (decide (xR.Arg<=9)))
 else(bif(xR.Kind==3)then(some (xR.Arg==0))
 else(bif(xR.Kind==4)then(bif(decide (xR.Arg<16))then((Cc xR.Chunk 1 1000000000).bind λv4=>
 some v4)
 else(some false))
 else(some (decide (xR.Arg<16))))))))
def DG (xT:ByteArray) (a:List Dk) (y01:ByteArray) (y11:Int) (y21:Bool):Option ((List Dk×ByteArray×Int×Bool)⊕((List Dk)⊕((List Dk×Bool)))):=
 (bif(decide (y11<(Gi xT)))then(some (!y21))
 else(some false):Option (Bool)).bind λj1=>
 bif j1 then((sx xT y11).bind λx1=>
 (Do (El.mk y01 (ad y11 1) y21)).bind λv1=>
 (Do v1.2).bind λv2=>
 (bif v2.2.bad_ then(some true)
 else((MT (Dk.mk (qu (IntKind.i64.wrap x1) 16) (Int.tmod (IntKind.i64.wrap x1) 16) v1.1 v2.1)).bind λv3=>
 some (!v3)):Option (Bool)).bind λj2=>
 bif j2 then(some (.inr (.inr ([],false))))
 else((ap 32 a [(Dk.mk (qu (IntKind.i64.wrap x1) 16) (Int.tmod (IntKind.i64.wrap x1) 16) v1.1 v2.1)]).bind λq1=>
 some (.inl (q1,v2.2.text_,v2.2.at_,v2.2.bad_))))
 else(some (.inr (.inl a)))
def HS (xT:ByteArray):Option (List Dk×Bool):=
 (Av (λs:List Dk×ByteArray×Int×Bool=>DG xT s.1 s.2.1 s.2.2.1 s.2.2.2) ([],xT,0,false)).bind (Sum.elim (λv4=>(some (v4,true))) some)
def IX (f:List A4) (h:Int) (d:Int) (b:Int) (e:ByteArray) (c:Bool) (g:Int) (a:Int):Option ((Int×ByteArray×Bool×Int×Int)⊕(Int×ByteArray×Bool×Int)):=
 (bif(decide (g<(ln f)))then(some (!c))
 else(some false):Option (Bool)).bind λj2=>
 bif j2 then((gi f g).bind λx1=>
 (bif(x1.Page.Kind !=2)then(some true)
 else(bif(x1.Page.Tx !=h)then(some true)
 else(bif(x1.Page.Part !=d)then(some true)
 else(bif(decide (d>0))then(some (x1.Page.Count !=b))
 else(some false)))):Option (Bool)).bind λj3=>
 bif j3 then(some (.inl (b,e,c,(ad g 1),a)))
 else((TB e x1.Page.Text).bind λx2=>
 (bif(d==0)then(some true)
 else(some (decide (x1.Page.Seq<a))):Option (Bool)).bind λj4=>
 bif j4 then(some (.inl (x1.Page.Count,x2,true,(ad g 1),x1.Page.Seq)))
 else(some (.inl (x1.Page.Count,x2,true,(ad g 1),a)))))
 else(some (.inr (b,e,c,a)))
def Ot (e:List A4) (f:Int) (b:Int) (c:ByteArray) (a:Int) (d:Int):Option ((Int×ByteArray×Int×Int)⊕((ByteArray×Int)⊕((Tx×Bool)))):=
 (bif(a==0)then(some true)
 else(some (decide (a<b))):Option (Bool)).bind λj1=>
 bif j1 then((Av (λs:Int×ByteArray×Bool×Int×Int=>IX e f a s.1 s.2.1 s.2.2.1 s.2.2.2.1 s.2.2.2.2) (b,c,false,0,d)).bind λv1=>
 bif(!v1.2.2.1)then(some (.inr (.inr ((Tx.mk f v1.2.2.2 []),false))))
 else(some (.inl (v1.1,v1.2.1,(ad a 1),v1.2.2.2))))
 else(some (.inr (.inl (c,d))))
def V8 (a:List A4) (b:Int):Option (Tx×Bool):=
 (Av (λs:Int×ByteArray×Int×Int=>Ot a b s.1 s.2.1 s.2.2.1 s.2.2.2) (0,(bs []),0,0)).bind (Sum.elim (λv2=>((HS v2.1).bind λv3=>
 some ((Tx.mk b v2.2 v3.1),v3.2))) some)
def Lh (a:List Int) (x1:A4) (b:List Int) (c:Int):Option ((List Int×Int)⊕(List Int)):=
 bif(decide (c<(ln a)))then((gi a c).bind λx2=>
 bif(decide (x2<x1.Page.Tx))then((gi a c).bind λx3=>
 (ap 8 b [x3]).bind λq1=>
 some (.inl (q1,(ad c 1))))
 else(some (.inl (b,(ad c 1)))))
 else(some (.inr b))
def Lg (a:List Int) (x1:A4) (b:List Int) (c:Int):Option ((List Int×Int)⊕(List Int)):=
 bif(decide (c<(ln a)))then((gi a c).bind λx4=>
 bif(decide (x4>x1.Page.Tx))then((gi a c).bind λx5=>
 (ap 8 b [x5]).bind λq3=>
 some (.inl (q3,(ad c 1))))
 else(some (.inl (b,(ad c 1)))))
 else(some (.inr b))
def Jt (b:List A4) (a:List Int) (c:Int):Option ((List Int×Int)⊕(List Int)):=
 bif(decide (c<(ln b)))then((gi b c).bind λx1=>
 bif(x1.Page.Kind !=2)then(some (.inl (a,(ad c 1))))
 else((Av (λs:List Int×Int=>Lh a x1 s.1 s.2) ([],0)).bind λv1=>
 (ap 8 v1 [x1.Page.Tx]).bind λq2=>
 (Av (λs:List Int×Int=>Lg a x1 s.1 s.2) (q2,0)).bind λv2=>
 some (.inl (v2,(ad c 1)))))
 else(some (.inr a))
def Js (c:List A4) (v3:List Int) (a:List Tx) (b:Int):Option ((List Tx×Int)⊕(List Tx)):=
 bif(decide (b<(ln v3)))then((gi v3 b).bind λx6=>
 (V8 c x6).bind λv4=>
 bif v4.2 then((ap 40 a [v4.1]).bind λq4=>
 some (.inl (q4,(ad b 1))))
 else(some (.inl (a,(ad b 1)))))
 else(some (.inr a))
def PP (a:List A4):Option (List Tx):=
 (Av (λs:List Int×Int=>Jt a s.1 s.2) ([],0)).bind λv3=>
 (Av (λs:List Tx×Int=>Js a v3 s.1 s.2) ([],0)).bind λv5=>
 some v5
def Gw (a:List Tx) (c:Int) (b:Int):Option ((Int×Int)⊕(Int)):=
 bif(decide (b<(ln a)))then((gi a b).bind λx1=>
 bif(decide ((ln x1.Recs)>0))then((gi a b).bind λx2=>
 (gi x2.Recs 0).bind λx3=>
 bif(x3.Kind==1)then(some (.inl (b,(ad b 1))))
 else(some (.inl (c,(ad b 1)))))
 else(some (.inl (c,(ad b 1)))))
 else(some (.inr c))
def HP (a:List Tx) (b:List Tx) (c:Int):Option ((List Tx×Int)⊕(List Tx)):=
 bif(decide (c<(ln a)))then((gi a c).bind λx4=>
 (ap 32 [] x4.Recs).bind λq1=>
 (ap 40 b [(Tx.mk x4.Num x4.Seq q1)]).bind λq2=>
 some (.inl (q2,(ad c 1))))
 else(some (.inr b))
def MS (a:List Tx):Option (List Tx):=
 (Av (λs:Int×Int=>Gw a s.1 s.2) (0,0)).bind λv1=>
 (Av (λs:List Tx×Int=>HP a s.1 s.2) ([],v1)).bind λv2=>
 some v2
def JD (xA:Arena) (b:Int) (a:List BI):Option ((Int×List BI)⊕(List BI)):=
 bif(decide (b<(ln xA.Knots)))then((gi xA.Knots b).bind λx1=>
 (gi xA.Knots b).bind λx2=>
 (ap 8 [] x2.Kids).bind λq1=>
 (ap 32 a [(BI.mk x1.Leaf q1)]).bind λq2=>
 some (.inl ((ad b 1),q2)))
 else(some (.inr a))
def LY (xA:Arena):Option (Arena):=
 (Av (λs:Int×List BI=>JD xA s.1 s.2) (0,[])).bind λv1=>
 some (Arena.mk v1)
def DZ (xS:Store):Option (Store):=
 (ap 16 [] xS.Vols).bind λq1=>
 (LY xS.Arena).bind λv1=>
 some (Store.mk q1 v1 xS.Next)
def DW (xA:Arena) (b:Int) (x1:BI) (a:Int):Option ((Int)⊕((Unit)⊕((Int)⊕((Unit)⊕(Bool))))):=
 bif(decide (a<4))then((gi x1.Kids a).bind λx2=>
 (bif x1.Leaf then(bif(decide (x2<0))then(some true)
 else(bif(!x1.Leaf)then(bif(x2 !=(-1))then((Cc x2 0 (sb b 1)).bind λv1=>
 bif(!v1)then(some true)
 else((gi xA.Knots x2).bind λx3=>
 some (!x3.Leaf)))
 else(some false))
 else(some false)))
 else(bif(!x1.Leaf)then(bif(x2 !=(-1))then((Cc x2 0 (sb b 1)).bind λv2=>
 bif(!v2)then(some true)
 else((gi xA.Knots x2).bind λx4=>
 some (!x4.Leaf)))
 else(some false))
 else(some false)):Option (Bool)).bind λj1=>
 bif j1 then(some (.inr (.inr (.inr (.inr false)))))
 else(some (.inl (ad a 1))))
 else(some (.inr (.inl ())))
def DX (xA:Arena) (a:Int):Option ((Int)⊕((Unit)⊕(Bool))):=
 bif(decide (a<(ln xA.Knots)))then((gi xA.Knots a).bind λx1=>
 bif((ln x1.Kids) !=4)then(some (.inr (.inr false)))
 else((Av (λs:Int=>DW xA a x1 s) 0).bind (Sum.elim (λv3=>(some (.inl (ad a 1)))) some)))
 else(some (.inr (.inl ())))
def G5 (xA:Arena):Option (Bool):=
 (Av (λs:Int=>DX xA s) 0).bind (Sum.elim (λv4=>(some true)) some)
def Hm (xA:Arena) (a:Int):Option (Bool):=
 bif(a==(-1))then(some true)
 else((Cc a 0 (sb (ln xA.Knots) 1)).bind λv1=>
 bif v1 then((gi xA.Knots a).bind λx1=>
 some (!x1.Leaf))
 else(some false))
def Mq (xA:Arena) (b:Int) (a:Int):Option (Int):=
 bif(decide (b<0))then(some 0)
 else((gi xA.Knots b).bind λx1=>
 (gi x1.Kids (qu a 4)).bind λx2=>
 bif(decide (x2<0))then(some 0)
 else((gi xA.Knots x2).bind λx3=>
 (gi x3.Kids (Int.tmod a 4)).bind λx4=>
 some x4))
def Hl (xS:Store) (a:List Int) (b:Int):Option ((List Int×Int)⊕(List Int)):=
 bif(decide (b<(ln xS.Vols)))then((gi xS.Vols b).bind λx1=>
 (ap 8 a [x1.Root]).bind λq1=>
 some (.inl (q1,(ad b 1))))
 else(some (.inr a))
def Mp (xS:Store):Option (List Int):=
 (Av (λs:List Int×Int=>Hl xS s.1 s.2) ([],0)).bind λv1=>
 some v1
def Jk (xA:Arena) (b:Int) (a:List Bool) (c:Int):Option ((List Bool×Int)⊕(List Bool)):=
 bif(decide (c<4))then((gi xA.Knots b).bind λx2=>
 (gi x2.Kids c).bind λx3=>
 bif(decide (x3>=0))then((gi xA.Knots b).bind λx4=>
 (gi x4.Kids c).bind λx5=>
 (gi a x5).bind λx6=>
 some (.inl ((si a x5 true),(ad c 1))))
 else(some (.inl (a,(ad c 1)))))
 else(some (.inr a))
def SD (xA:Arena) (a:Int):Option (List Bool):=
 (mk 1 false (ln xA.Knots)).bind λq1=>
 bif(decide (a<0))then(some q1)
 else((gi q1 a).bind λx1=>
 (Av (λs:List Bool×Int=>Jk xA a s.1 s.2) ((si q1 a true),0)).bind λv1=>
 some v1)
def Fx (xA:Arena) (a:List Int) (b:Bool) (c:Int):Option ((Bool×Int)⊕(Bool)):=
 (bif(decide (c<(ln a)))then(some b)
 else(some false):Option (Bool)).bind λj1=>
 bif j1 then((gi a c).bind λx1=>
 (Hm xA x1).bind λv2=>
 some (.inl (v2,(ad c 1))))
 else(some (.inr b))
def Hg (v5:List Bool) (a:List Bool) (b:Int):Option ((List Bool×Int)⊕(List Bool)):=
 bif(decide (b<(ln v5)))then((gi a b).bind λx3=>
 bif x3 then((gi a b).bind λx4=>
 some (.inl ((si a b true),(ad b 1))))
 else((gi v5 b).bind λx5=>
 (gi a b).bind λx6=>
 some (.inl ((si a b x5),(ad b 1)))))
 else(some (.inr a))
def Fw (xA:Arena) (a:List Int) (b:List Bool) (c:Int):Option ((List Bool×Int)⊕(List Bool)):=
 bif(decide (c<(ln a)))then((gi a c).bind λx2=>
 (SD xA x2).bind λv5=>
 (Av (λs:List Bool×Int=>Hg v5 s.1 s.2) (b,0)).bind λv6=>
 some (.inl (v6,(ad c 1))))
 else(some (.inr b))
def Fu (c:List Int) (j2:Bool×List Int) (b:Int) (a:List Int):Option ((Int×List Int)⊕(List Int)):=
 (bif(decide (b<4))then(some (!j2.1))
 else(some false):Option (Bool)).bind λj3=>
 bif j3 then((gi a b).bind λx10=>
 bif(decide (x10>=0))then((gi a b).bind λx11=>
 (gi c x11).bind λx12=>
 (gi a b).bind λx13=>
 some (.inl ((ad b 1),(si a b x12))))
 else(some (.inl ((ad b 1),a))))
 else(some (.inr a))
def Fv (xA:Arena) (v7:List Bool) (a:List Int) (c:Int) (b:List BI):Option ((List Int×Int×List BI)⊕(List Int×List BI)):=
 bif(decide (c<(ln xA.Knots)))then((gi v7 c).bind λx7=>
 bif(!x7)then(some (.inl (a,(ad c 1),b)))
 else(((gi xA.Knots c).bind λx8=>
 (gi xA.Knots c).bind λx9=>
 (ap 8 [] x9.Kids).bind λq4=>
 some (x8.Leaf,q4):Option (Bool×List Int)).bind λj2=>
 (Av (λs:Int×List Int=>Fu a j2 s.1 s.2) (0,j2.2)).bind λv8=>
 (gi a c).bind λx14=>
 (ap 32 b [(BI.mk j2.1 v8)]).bind λq7=>
 some (.inl ((si a c (ln b)),(ad c 1),q7))))
 else(some (.inr (a,b)))
def Ft (v9:List Int×List BI) (a:List Int) (b:Int):Option ((List Int×Int)⊕(List Int)):=
 bif(decide (b<(ln a)))then((gi a b).bind λx15=>
 bif(decide (x15>=0))then((gi a b).bind λx16=>
 (gi v9.1 x16).bind λx17=>
 (gi a b).bind λx18=>
 some (.inl ((si a b x17),(ad b 1))))
 else(some (.inl (a,(ad b 1)))))
 else(some (.inr a))
def JG (xA:Arena) (a:List Int):Option (Arena×List Int):=
 (ap 8 [] a).bind λq1=>
 (G5 xA).bind λv1=>
 (Av (λs:Bool×Int=>Fx xA a s.1 s.2) (v1,0)).bind λv3=>
 bif(!v3)then((LY xA).bind λv4=>
 some (v4,q1))
 else((mk 1 false (ln xA.Knots)).bind λq2=>
 (Av (λs:List Bool×Int=>Fw xA a s.1 s.2) (q2,0)).bind λv7=>
 (mk 8 0 (ln xA.Knots)).bind λq3=>
 (Av (λs:List Int×Int×List BI=>Fv xA v7 s.1 s.2.1 s.2.2) (q3,0,[])).bind λv9=>
 (Av (λs:List Int×Int=>Ft v9 s.1 s.2) (q1,0)).bind λv10=>
 some ((Arena.mk v9.2),v10))
def Ir (xS:Store) (x1:Vol) (a:Int):Option ((Int)⊕((Unit)⊕((Int)⊕((Unit)⊕(Bool))))):=
 bif(decide (a<16))then((Mq xS.Arena x1.Root a).bind λv6=>
 bif(decide (v6>=xS.Next))then(some (.inr (.inr (.inr (.inr false)))))
 else(some (.inl (ad a 1))))
 else(some (.inr (.inl ())))
def It (xS:Store) (a:Int):Option ((Int)⊕((Unit)⊕(Bool))):=
 bif(decide (a<(ln xS.Vols)))then((gi xS.Vols a).bind λx1=>
 ((Cc x1.Id 1 9).bind λv3=>
 bif(!v3)then(some true)
 else(bif(decide (a>0))then((gi xS.Vols (sb a 1)).bind λx2=>
 bif(decide (x2.Id>=x1.Id))then(some true)
 else((Hm xS.Arena x1.Root).bind λv4=>
 some (!v4)))
 else((Hm xS.Arena x1.Root).bind λv5=>
 some (!v5))):Option (Bool)).bind λj2=>
 bif j2 then(some (.inr (.inr false)))
 else((Av (λs:Int=>Ir xS x1 s) 0).bind (Sum.elim (λv7=>(some (.inl (ad a 1)))) some)))
 else(some (.inr (.inl ())))
def N8 (xS:Store):Option (Bool):=
 (bif(decide ((ln xS.Vols)>3))then(some true)
 else((G5 xS.Arena).bind λv1=>
 bif(!v1)then(some true)
 else((Cc xS.Next 1 1000000000).bind λv2=>
 some (!v2))):Option (Bool)).bind λj1=>
 bif j1 then(some false)
 else((Av (λs:Int=>It xS s) 0).bind (Sum.elim (λv8=>(((Mp xS).bind λv10=>
 (JG xS.Arena v10).bind λv12=>
 some v12.1.Knots:Option (List BI)).bind λj3=>
 some ((ln j3)==(ln xS.Arena.Knots)))) some))
def Ko (xS:Store) (b:Int) (a:Int):Option ((Int)⊕((Unit)⊕(Int))):=
 bif(decide (a<(ln xS.Vols)))then((gi xS.Vols a).bind λx1=>
 bif(x1.Id==b)then(some (.inr (.inr a)))
 else(some (.inl (ad a 1))))
 else(some (.inr (.inl ())))
def Er (xS:Store) (a:Int):Option (Int):=
 (Av (λs:Int=>Ko xS a s) 0).bind (Sum.elim (λv1=>(some (-1))) some)
def GR (xS:Store) (xR:Dk) (a:List Vol) (b:Int):Option ((List Vol×Int)⊕(List Vol)):=
 bif(decide (b<(ln xS.Vols)))then((gi xS.Vols b).bind λx2=>
 bif(decide (x2.Id<xR.Vol))then((gi xS.Vols b).bind λx3=>
 (ap 16 a [x3]).bind λq1=>
 some (.inl (q1,(ad b 1))))
 else(some (.inl (a,(ad b 1)))))
 else(some (.inr a))
def GQ (xS:Store) (xR:Dk) (a:List Vol) (b:Int):Option ((List Vol×Int)⊕(List Vol)):=
 bif(decide (b<(ln xS.Vols)))then((gi xS.Vols b).bind λx4=>
 bif(decide (x4.Id>xR.Vol))then((gi xS.Vols b).bind λx5=>
 (ap 16 a [x5]).bind λq3=>
 some (.inl (q3,(ad b 1))))
 else(some (.inl (a,(ad b 1)))))
 else(some (.inr a))
def FE (xS:Store) (xR:Dk):Option (Store×Bool):=
 (bif(decide (xR.Arg>0))then((Er xS xR.Arg).bind λv1=>
 bif(decide (v1<0))then((DZ xS).bind λv2=>
 some (.inr (v2,false)))
 else((gi xS.Vols v1).bind λx1=>
 some (.inl x1.Root)))
 else(some (.inl (-1))):Option ((Int)⊕((Store×Bool)))).bind (Sum.elim (λj1=>(((Er xS xR.Vol).bind λv3=>
 bif(decide (v3>=0))then(some true)
 else(some ((ln xS.Vols)==3)):Option (Bool)).bind λj2=>
 bif j2 then((DZ xS).bind λv4=>
 some (v4,false))
 else((DZ xS).bind λv5=>
 (Av (λs:List Vol×Int=>GR xS xR s.1 s.2) ([],0)).bind λv6=>
 (ap 16 v6 [(Vol.mk xR.Vol j1)]).bind λq2=>
 (Av (λs:List Vol×Int=>GQ xS xR s.1 s.2) (q2,0)).bind λv7=>
 some ((Store.mk v7 v5.Arena v5.Next),true)))) some)
def IH (j1:List Int×List BI) (b:Int) (a:List Vol):Option ((Int×List Vol)⊕(List Vol)):=
 bif(decide (b<(ln a)))then((gi j1.1 b).bind λx1=>
 (gi a b).bind λx2=>
 some (.inl ((ad b 1),(si a b (Vol.mk x2.Id x1)))))
 else(some (.inr a))
def GZ (xS:Store):Option (Store):=
 ((Mp xS).bind λv2=>
 (JG xS.Arena v2).bind λv4=>
 some (v4.2,v4.1.Knots):Option (List Int×List BI)).bind λj1=>
 ((ap 16 [] xS.Vols).bind λq1=>
 some q1:Option (List Vol)).bind λj2=>
 (Av (λs:Int×List Vol=>IH j1 s.1 s.2) (0,j2)).bind λv8=>
 some (Store.mk v8 (Arena.mk j1.2) xS.Next)
def VA (xA:Arena) (b:Int) (a:Int) (xN:Int):Option (Arena×Int):=
 (LY xA).bind λv1=>
 ((G5 xA).bind λv2=>
 bif(!v2)then(some true)
 else((Hm xA b).bind λv3=>
 bif(!v3)then(some true)
 else((Cc a 0 15).bind λv4=>
 bif(!v4)then(some true)
 else(some (decide (xN<0))))):Option (Bool)).bind λj1=>
 bif j1 then(some (v1,b))
 else((mk 8 0 4).bind λq1=>
 (bif(decide (b>=0))then((gi xA.Knots b).bind λx1=>
 (ap 8 [] x1.Kids).bind λq2=>
 (gi q2 (qu a 4)).bind λx2=>
 bif(decide (x2>=0))then((gi xA.Knots x2).bind λx3=>
 (ap 8 [] x3.Kids).bind λq3=>
 some (q3,q2))
 else(some (q1,q2)))
 else(some (q1,[(-1),(-1),(-1),(-1)])):Option (List Int×List Int)).bind λj2=>
 (gi j2.1 (Int.tmod a 4)).bind λx4=>
 (gi j2.2 (qu a 4)).bind λx5=>
 (ap 32 v1.Knots [(BI.mk true (si j2.1 (Int.tmod a 4) xN)),(BI.mk false (si j2.2 (qu a 4) (ln v1.Knots)))]).bind λq4=>
 some ((Arena.mk q4),(sb (ln q4) 1)))
def QK (xS:Store) (xR:Dk):Option (Store×Bool):=
 ((N8 xS).bind λv1=>
 bif(!v1)then(some true)
 else((MT xR).bind λv2=>
 some (!v2)):Option (Bool)).bind λj1=>
 bif j1 then((DZ xS).bind λv3=>
 some (v3,false))
 else(bif(xR.Kind==1)then((bif(xR.Arg==0)then(some 1)
 else(some xR.Arg):Option (Int)).bind λj2=>
 some ((Store.mk [] (Arena.mk []) j2),true))
 else(bif(xR.Kind==2)then((FE xS xR).bind λv4=>
 some (v4.1,v4.2))
 else((Er xS xR.Vol).bind λv5=>
 (bif(decide (v5<0))then(some true)
 else(some (xR.Chunk==1000000000)):Option (Bool)).bind λj3=>
 bif j3 then((DZ xS).bind λv6=>
 some (v6,false))
 else((DZ xS).bind λv7=>
 bif(xR.Kind==3)then((dr xS.Vols 0 v5).bind λx1=>
 (dr xS.Vols (ad v5 1) (ln xS.Vols)).bind λx2=>
 (ap 16 [] x1).bind λq1=>
 (ap 16 q1 x2).bind λq2=>
 (GZ (Store.mk q2 v7.Arena v7.Next)).bind λv8=>
 some (v8,true))
 else(((gi xS.Vols v5).bind λx3=>
 (VA xS.Arena x3.Root xR.Arg xR.Chunk).bind λv10=>
 some (v10.2,v10.1.Knots):Option (Int×List BI)).bind λj4=>
 (gi v7.Vols v5).bind λx4=>
 bif(decide (xR.Chunk>=v7.Next))then((GZ (Store.mk (si v7.Vols v5 (Vol.mk x4.Id j4.1)) (Arena.mk j4.2) (ad xR.Chunk 1))).bind λv12=>
 some (v12,true))
 else((GZ (Store.mk (si v7.Vols v5 (Vol.mk x4.Id j4.1)) (Arena.mk j4.2) v7.Next)).bind λv13=>
 some (v13,true)))))))
def DH (xS:Store) (d:List Dk) (e:Int) (a:List Vol) (b:List BI) (c:Int):Option ((Int×List Vol×List BI×Int)⊕((List Vol×List BI×Int)⊕((Store×Bool)))):=
 bif(decide (e<(ln d)))then(((gi d e).bind λx1=>
 (QK (Store.mk a (Arena.mk b) c) x1).bind λv3=>
 some (v3.2,v3.1.Vols,v3.1.Arena.Knots,v3.1.Next):Option (Bool×List Vol×List BI×Int)).bind λj1=>
 bif(!j1.1)then((DZ xS).bind λv5=>
 some (.inr (.inr (v5,false))))
 else(some (.inl ((ad e 1),j1.2.1,j1.2.2.1,j1.2.2.2))))
 else(some (.inr (.inl (a,b,c))))
def Ku (xS:Store) (a:List Dk):Option (Store×Bool):=
 (DZ xS).bind λv1=>
 (Av (λs:Int×List Vol×List BI×Int=>DH xS a s.1 s.2.1 s.2.2.1 s.2.2.2) (0,v1.Vols,v1.Arena.Knots,v1.Next)).bind (Sum.elim (λv6=>(some ((Store.mk v6.1 (Arena.mk v6.2.1) v6.2.2),true))) some)
def Hq (v2:List A4) (a:Int) (b:Int) (c:Int):Option ((Int×Int×Int)⊕(Int×Int)):=
 bif(decide (a<(ln v2)))then((gi v2 a).bind λx1=>
 (bif(decide (x1.Page.Seq>=b))then((gi v2 a).bind λx2=>
 some (ad x2.Page.Seq 1))
 else(some b):Option (Int)).bind λj1=>
 ((gi v2 a).bind λx3=>
 bif(x3.Page.Kind==2)then((gi v2 a).bind λx4=>
 some (decide (x4.Page.Tx>=c)))
 else(some false):Option (Bool)).bind λj2=>
 bif j2 then((gi v2 a).bind λx5=>
 some (.inl ((ad a 1),j1,(ad x5.Page.Tx 1))))
 else(some (.inl ((ad a 1),j1,c))))
 else(some (.inr (b,c)))
def Dt (v7:List Tx) (a:Int) (b:List Vol) (c:List BI) (d:Int) (e:Int):Option ((Int×List Vol×List BI×Int×Int)⊕(List Vol×List BI×Int×Int)):=
 bif(decide (a<(ln v7)))then((bif(a==0)then((gi v7 a).bind λx6=>
 some x6.Num)
 else(some e):Option (Int)).bind λj3=>
 (gi v7 a).bind λx7=>
 (Ku (Store.mk b (Arena.mk c) d) x7.Recs).bind λv8=>
 some (.inl ((ad a 1),v8.1.Vols,v8.1.Arena.Knots,v8.1.Next,j3)))
 else(some (.inr (b,c,d,e)))
def CP (xF:Flash):Option (Bc×Bool):=
 (Hr xF).bind λv1=>
 bif(!v1)then(some ((Bc.mk (Flash.mk []) (Store.mk [] (Arena.mk []) 0) 0 0 0),false))
 else((Gx xF).bind λv2=>
 (Hn xF).bind λv3=>
 (Ms).bind λv4=>
 (Av (λs:Int×Int×Int=>Hq v2 s.1 s.2.1 s.2.2) (0,1,1)).bind λv5=>
 (PP v2).bind λv6=>
 (MS v6).bind λv7=>
 (Av (λs:Int×List Vol×List BI×Int×Int=>Dt v7 s.1 s.2.1 s.2.2.1 s.2.2.2.1 s.2.2.2.2) (0,v4.Vols,v4.Arena.Knots,v4.Next,0)).bind λv9=>
 some ((Bc.mk v3 (Store.mk v9.1 (Arena.mk v9.2.1) v9.2.2.1) v5.1 v5.2 v9.2.2.2),true))
def MX (a:Int):Option (Bc×Bool):=
 (O2 a).bind λv1=>
 bif(!v1.2)then(some ((Bc.mk (Flash.mk []) (Store.mk [] (Arena.mk []) 0) 0 0 0),false))
 else((CP v1.1).bind λv2=>
 some (v2.1,v2.2))
def LJ (xC:Cf) (a:List Int):Option (Int×Cf):=
 (DM xC (ln a)).bind λv1=>
 (gi a v1.1).bind λx1=>
 some (x1,v1.2)
def Jn (xC:Cf) (xN:Int):Option (Bool×Cf):=
 (DM xC xN).bind λv1=>
 some ((v1.1==0),v1.2)
def N6 (xC:Cf) (a:List ByteArray):Option (ByteArray×Cf):=
 (DM xC (ln a)).bind λv1=>
 (gi a v1.1).bind λx1=>
 some (x1,v1.2)
def QE (xC:Cf):Option (ByteArray×Cf):=
 (N6 xC [(bs []),(bs [97]),(bs [98,98]),(bs [97,98,99,100,97,98,99,100,97,98,99,100]),(bs [104,101,108,108,111]),(bs [104,101,108,108,111,32,104,101,108,108,111,32,104,101,108,108,111]),(bs [122,122,122,122,122,122,122,122,122,122,122,122]),(bs [113,49]),(bs [113,50]),(bs [113,51])]).bind λv1=>
 some (v1.1,v1.2)
def QF (xC:Cf) (xD:Bc):Option (dC×Cf):=
 (LJ xC [1,1,1,1,1,1,2,3,4,5,6]).bind λv1=>
 (DM v1.2 3).bind λv2=>
 (bif((ln xD.Store.Vols)==0)then(some (3,(ad 1 v2.1),v2.2.b_,v2.2.i_,v2.2.h_))
 else((bif(v1.1 !=3)then(bif(v1.1 !=4)then((Jn v2.2 8).bind λv3=>
 some ((!v3.1),v3.2.b_,v3.2.i_,v3.2.h_))
 else(some (false,v2.2.b_,v2.2.i_,v2.2.h_)))
 else(some (false,v2.2.b_,v2.2.i_,v2.2.h_)):Option (Bool×List Int×Int×Int)).bind λj2=>
 bif j2.1 then((DM (Cf.mk j2.2.1 j2.2.2.1 j2.2.2.2) (ln xD.Store.Vols)).bind λv7=>
 (gi xD.Store.Vols v7.1).bind λx1=>
 some (v1.1,x1.Id,v7.2.b_,v7.2.i_,v7.2.h_))
 else(some (v1.1,(ad 1 v2.1),j2.2.1,j2.2.2.1,j2.2.2.2))):Option (Int×Int×List Int×Int×Int)).bind λj1=>
 (bif(j1.1==5)then((Jn (Cf.mk j1.2.2.1 j1.2.2.2.1 j1.2.2.2.2) 3).bind λv11=>
 some ((!v11.1),v11.2.b_,v11.2.i_,v11.2.h_))
 else(some (false,j1.2.2.1,j1.2.2.2.1,j1.2.2.2.2)):Option (Bool×List Int×Int×Int)).bind λj3=>
 (bif j3.1 then(some 1)
 else(some j1.1):Option (Int)).bind λj4=>
 (bif(j4==1)then((QE (Cf.mk j3.2.1 j3.2.2.1 j3.2.2.2)).bind λv12=>
 (DM v12.2 16).bind λv13=>
 some (v13.1,0,v12.1,v13.2.b_,v13.2.i_,v13.2.h_))
 else((bif(j4==2)then(some (j4==2))
 else(some (j4==6)):Option (Bool)).bind λj6=>
 bif j6 then((DM (Cf.mk j3.2.1 j3.2.2.1 j3.2.2.2) 16).bind λv14=>
 some (v14.1,0,(bs []),v14.2.b_,v14.2.i_,v14.2.h_))
 else(bif(j4==4)then((DM (Cf.mk j3.2.1 j3.2.2.1 j3.2.2.2) 3).bind λv15=>
 bif(decide ((ln xD.Store.Vols)>0))then((gi xD.Store.Vols 0).bind λx5=>
 some (0,x5.Id,(bs []),v15.2.b_,v15.2.i_,v15.2.h_))
 else(some (0,(ad 1 v15.1),(bs []),v15.2.b_,v15.2.i_,v15.2.h_)))
 else(some (0,0,(bs []),j3.2.1,j3.2.2.1,j3.2.2.2)))):Option (Int×Int×ByteArray×List Int×Int×Int)).bind λj5=>
 some ((dC.mk j4 j1.2.1 j5.1 j5.2.1 j5.2.2.1),(Cf.mk j5.2.2.2.1 j5.2.2.2.2.1 j5.2.2.2.2.2))
def N5 (xD:Bc):Option (Bc):=
 (Hn xD.Flash).bind λv1=>
 (DZ xD.Store).bind λv2=>
 some (Bc.mk v1 v2 xD.Seq xD.Tx xD.Base)
def O1 (xA:Arena) (b:Int) (a:Int):Option (Int):=
 ((G5 xA).bind λv1=>
 bif(!v1)then(some true)
 else((Hm xA b).bind λv2=>
 bif(!v2)then(some true)
 else((Cc a 0 15).bind λv3=>
 some (!v3))):Option (Bool)).bind λj1=>
 bif j1 then(some 0)
 else((Mq xA b a).bind λv4=>
 some v4)
def Ha (xA:Arena) (b:Int) (a:List Int) (c:Int):Option ((List Int×Int)⊕(List Int)):=
 bif(decide (c<16))then((O1 xA b c).bind λv1=>
 (ap 8 a [v1]).bind λq1=>
 some (.inl (q1,(ad c 1))))
 else(some (.inr a))
def IV (xA:Arena) (a:Int):Option (List Int):=
 (Av (λs:List Int×Int=>Ha xA a s.1 s.2) ([],0)).bind λv2=>
 some v2
def Gt (xA:List Int) (xB:List Int) (a:Int):Option ((Int)⊕((Unit)⊕(Bool))):=
 bif(decide (a<(ln xA)))then((gi xA a).bind λx1=>
 (gi xB a).bind λx2=>
 bif(x1 !=x2)then(some (.inr (.inr false)))
 else(some (.inl (ad a 1))))
 else(some (.inr (.inl ())))
def KG (xA:List Int) (xB:List Int):Option (Bool):=
 bif((ln xA) !=(ln xB))then(some false)
 else((Av (λs:Int=>Gt xA xB s) 0).bind (Sum.elim (λv1=>(some true)) some))
def HR (xA:Store) (xB:Store) (a:Int):Option ((Int)⊕((Unit)⊕(Bool))):=
 bif(decide (a<(ln xA.Vols)))then((gi xA.Vols a).bind λx1=>
 (gi xB.Vols a).bind λx2=>
 bif(x1.Id !=x2.Id)then(some (.inr (.inr false)))
 else((gi xA.Vols a).bind λx3=>
 (gi xB.Vols a).bind λx4=>
 (IV xA.Arena x3.Root).bind λv1=>
 (IV xB.Arena x4.Root).bind λv2=>
 (KG v1 v2).bind λv3=>
 bif(!v3)then(some (.inr (.inr false)))
 else(some (.inl (ad a 1)))))
 else(some (.inr (.inl ())))
def Lb (xA:Store) (xB:Store):Option (Bool):=
 (bif((ln xA.Vols) !=(ln xB.Vols))then(some true)
 else(some (xA.Next !=xB.Next)):Option (Bool)).bind λj1=>
 bif j1 then(some false)
 else((Av (λs:Int=>HR xA xB s) 0).bind (Sum.elim (λv4=>(some true)) some))
def O4 (xD:Bc):Option (Bool):=
 (CP xD.Flash).bind λv1=>
 bif v1.2 then((Lb v1.1.Store xD.Store).bind λv2=>
 bif v2 then(bif(v1.1.Seq==xD.Seq)then(bif(v1.1.Tx==xD.Tx)then(bif(v1.1.Base==xD.Base)then((N8 xD.Store).bind λv3=>
 some v3)
 else(some false))
 else(some false))
 else(some false))
 else(some false))
 else(some false)
def HO (a:List Int) (xX:Int) (b:List Int) (c:Int):Option ((List Int×Int)⊕(List Int)):=
 bif(decide (c<(ln a)))then((gi a c).bind λx1=>
 bif(decide (x1<xX))then((gi a c).bind λx2=>
 (ap 8 b [x2]).bind λq1=>
 some (.inl (q1,(ad c 1))))
 else(some (.inl (b,(ad c 1)))))
 else(some (.inr b))
def Gu (a:List Int) (xX:Int) (b:List Int) (c:Int):Option ((List Int×Int)⊕(List Int)):=
 bif(decide (c<(ln a)))then((gi a c).bind λx3=>
 bif(decide (x3>xX))then((gi a c).bind λx4=>
 (ap 8 b [x4]).bind λq3=>
 some (.inl (q3,(ad c 1))))
 else(some (.inl (b,(ad c 1)))))
 else(some (.inr b))
def MQ (a:List Int) (xX:Int):Option (List Int):=
 (Av (λs:List Int×Int=>HO a xX s.1 s.2) ([],0)).bind λv1=>
 (bif(decide (xX>0))then((ap 8 v1 [xX]).bind λq2=>
 some q2)
 else(some v1):Option (List Int)).bind λj1=>
 (Av (λs:List Int×Int=>Gu a xX s.1 s.2) (j1,0)).bind λv2=>
 some v2
def Ld (v1:List Int) (a:List Int) (b:Int):Option ((List Int×Int)⊕(List Int)):=
 bif(decide (b<(ln v1)))then((gi v1 b).bind λx2=>
 (MQ a x2).bind λv2=>
 some (.inl (v2,(ad b 1))))
 else(some (.inr a))
def Le (xS:Store) (a:List Int) (b:Int):Option ((List Int×Int)⊕(List Int)):=
 bif(decide (b<(ln xS.Vols)))then((gi xS.Vols b).bind λx1=>
 (IV xS.Arena x1.Root).bind λv1=>
 (Av (λs:List Int×Int=>Ld v1 s.1 s.2) (a,0)).bind λv3=>
 some (.inl (v3,(ad b 1))))
 else(some (.inr a))
def Lf (xS:Store):Option (List Int):=
 (Av (λs:List Int×Int=>Le xS s.1 s.2) ([],0)).bind λv4=>
 some v4
def HK (a:List A4) (c:Int) (b:Int):Option ((Int)⊕((Unit)⊕((A4×Bool)))):=
 bif(decide (b>=0))then(((gi a b).bind λx1=>
 bif(x1.Page.Kind==1)then((gi a b).bind λx2=>
 some (x2.Page.Tx==c))
 else(some false):Option (Bool)).bind λj1=>
 bif j1 then((gi a b).bind λx3=>
 some (.inr (.inr (x3,true))))
 else(some (.inl (sb b 1))))
 else(some (.inr (.inl ())))
def KY (a:List A4) (b:Int):Option (A4×Bool):=
 (Av (λs:Int=>HK a b s) (sb (ln a) 1)).bind (Sum.elim (λv1=>(some ((A4.mk 0 0 (Page.mk 0 0 0 0 0 (bs []))),false))) some)
def Ce (xT:ByteArray) (b:List Bi) (a:Int):Option ((List Bi×Int)⊕((List Bi)⊕((List Bi×Bool)))):=
 bif(decide (a<(Gi xT)))then((sx xT a).bind λx1=>
 bif(decide ((IntKind.i64.wrap x1)>128))then(bif(decide ((ad a 2)>(Gi xT)))then(some (.inr (.inr (b,false))))
 else((sx xT (ad a 1)).bind λx2=>
 (ap 32 b [(Bi.mk (IntKind.i64.wrap x2) (sb (IntKind.i64.wrap x1) 128) (bs []))]).bind λq1=>
 some (.inl (q1,(ad a 2)))))
 else(bif(decide ((ad (ad a 1) (IntKind.i64.wrap x1))>(Gi xT)))then(some (.inr (.inr (b,false))))
 else((sub xT (ad a 1) (ad (ad a 1) (IntKind.i64.wrap x1))).bind λx3=>
 (ap 32 b [(Bi.mk 0 0 x3)]).bind λq2=>
 some (.inl (q2,(ad (ad a 1) (IntKind.i64.wrap x1)))))))
 else(some (.inr (.inl b)))
def Jm (xT:ByteArray):Option (List Bi×Bool):=
 (Av (λs:List Bi×Int=>Ce xT s.1 s.2) ([],0)).bind (Sum.elim (λv1=>(some (v1,true))) some)
def DU (x1:Bi) (a:List Int) (b:Int):Option ((List Int×Int)⊕(List Int)):=
 bif(decide (b<x1.Size))then((gi a (sb (ln a) x1.Back)).bind λx2=>
 (ap 1 a [x2]).bind λq2=>
 some (.inl (q2,(ad b 1))))
 else(some (.inr a))
def DV (b:List Bi) (a:List Int) (c:Int):Option ((List Int×Int)⊕((List Int)⊕((ByteArray×Bool)))):=
 bif(decide (c<(ln b)))then((gi b c).bind λx1=>
 (bif(x1.Back==0)then(((Cc (Gi x1.Text) 1 31).bind λv1=>
 bif(!v1)then(some true)
 else(some (x1.Size !=0)):Option (Bool)).bind λj2=>
 bif j2 then(some (.inr (.inr (.inr ((bs []),false)))))
 else((ap 1 a (iD x1.Text)).bind λq1=>
 some (.inl q1)))
 else(((Cc x1.Back 1 (ln a)).bind λv2=>
 bif(!v2)then(some true)
 else((Cc x1.Size 1 31).bind λv3=>
 bif(!v3)then(some true)
 else(some (!(seq x1.Text (bs []))))):Option (Bool)).bind λj3=>
 bif j3 then(some (.inr (.inr (.inr ((bs []),false)))))
 else((Av (λs:List Int×Int=>DU x1 s.1 s.2) (a,0)).bind λv4=>
 some (.inl v4))):Option ((List Int)⊕((List Int×Int)⊕((List Int)⊕((ByteArray×Bool)))))).bind (Sum.elim (λj1=>(bif(decide ((ln j1)>64))then(some (.inr (.inr ((bs []),false))))
 else(some (.inl (j1,(ad c 1)))))) some))
 else(some (.inr (.inl a)))
def Fy (a:List Bi):Option (ByteArray×Bool):=
 (Av (λs:List Int×Int=>DV a s.1 s.2) ([],0)).bind (Sum.elim (λv5=>(some ((HC v5),true))) some)
def Ho (xS:ByteArray) (b:Int) (c:Int) (a:Int):Option ((Int)⊕(Int)):=
 (bif(decide (a<31))then(bif(decide ((ad c a)<(Gi xS)))then((sx xS (ad b a)).bind λx1=>
 (sx xS (ad c a)).bind λx2=>
 some (x1==x2))
 else(some false))
 else(some false):Option (Bool)).bind λj1=>
 bif j1 then(some (.inl (ad a 1)))
 else(some (.inr a))
def Mr (xS:ByteArray) (a:Int) (b:Int):Option (Int):=
 (Av (λs:Int=>Ho xS a b s) 0).bind λv1=>
 some v1
def Es (xS:ByteArray) (d:Int) (b:Int) (c:Int) (a:Int):Option ((Int×Int×Int)⊕(Int×Int)):=
 bif(decide (a>=0))then((Mr xS a d).bind λv1=>
 (bif(decide (v1>=4))then(some (decide (v1>b)))
 else(some false):Option (Bool)).bind λj1=>
 bif j1 then(some (.inl (v1,(sb d a),(sb a 1))))
 else(some (.inl (b,c,(sb a 1)))))
 else(some (.inr (b,c)))
def Cs (xS:ByteArray) (a:List Bi) (b:Int):Option ((List Bi×Int)⊕(List Bi)):=
 bif(decide (b<(Gi xS)))then((Av (λs:Int×Int×Int=>Es xS b s.1 s.2.1 s.2.2) (0,0,(sb b 1))).bind λv2=>
 bif(decide (v2.1>0))then((ap 32 a [(Bi.mk v2.2 v2.1 (bs []))]).bind λq1=>
 some (.inl (q1,(ad b v2.1))))
 else((bif(decide ((sb (ln a) 1)>=0))then((gi a (sb (ln a) 1)).bind λx1=>
 bif(x1.Back==0)then((gi a (sb (ln a) 1)).bind λx2=>
 some (decide ((Gi x2.Text)<31)))
 else(some false))
 else(some false):Option (Bool)).bind λj2=>
 bif j2 then((gi a (sb (ln a) 1)).bind λx3=>
 (sub xS b (ad b 1)).bind λx4=>
 (TB x3.Text x4).bind λx5=>
 (gi a (sb (ln a) 1)).bind λx6=>
 some (.inl ((si a (sb (ln a) 1) (Bi.mk x6.Back x6.Size x5)),(ad b 1))))
 else((sub xS b (ad b 1)).bind λx7=>
 (ap 32 a [(Bi.mk 0 0 x7)]).bind λq2=>
 some (.inl (q2,(ad b 1))))))
 else(some (.inr a))
def Kt (xS:ByteArray):Option (List Bi):=
 bif(decide ((Gi xS)>64))then(some [])
 else((Av (λs:List Bi×Int=>Cs xS s.1 s.2) ([],0)).bind λv3=>
 some v3)
def Eu (v1:List Bi) (b:ByteArray) (a:Int):Option ((ByteArray×Int)⊕(ByteArray)):=
 bif(decide (a<(ln v1)))then((gi v1 a).bind λx1=>
 bif(x1.Back==0)then((TB b (HC [(IntKind.u8.wrap (Gi x1.Text))])).bind λx2=>
 (TB x2 x1.Text).bind λx3=>
 some (.inl (x3,(ad a 1))))
 else((TB b (HC [(IntKind.u8.wrap (ad 128 x1.Size)),(IntKind.u8.wrap x1.Back)])).bind λx4=>
 some (.inl (x4,(ad a 1)))))
 else(some (.inr b))
def Dp (xS:ByteArray):Option (ByteArray×Bool):=
 bif(decide ((Gi xS)>64))then(some ((bs []),false))
 else((Kt xS).bind λv1=>
 (Av (λs:ByteArray×Int=>Eu v1 s.1 s.2) ((bs [122]),0)).bind λv2=>
 bif(decide ((ad (Gi xS) 1)<=(Gi v2)))then((TB (bs [114]) xS).bind λx5=>
 some (x5,true))
 else(some (v2,true)))
def FI (xT:ByteArray):Option (ByteArray×Bool):=
 bif((Gi xT)==0)then(some ((bs []),false))
 else((sub xT 1 (Gi xT)).bind λx1=>
 (sx xT 0).bind λx2=>
 (bif(x2==122)then((sub xT 1 (Gi xT)).bind λx3=>
 (Jm x3).bind λv1=>
 (Fy v1.1).bind λv2=>
 bif(!v1.2)then(some (.inr ((bs []),false)))
 else(bif(!v2.2)then(some (.inr ((bs []),false)))
 else(some (.inl v2.1))))
 else(some (.inl x1)):Option ((ByteArray)⊕((ByteArray×Bool)))).bind (Sum.elim (λj1=>((Dp j1).bind λv3=>
 (bif(!v3.2)then(some true)
 else(some (!(seq v3.1 xT))):Option (Bool)).bind λj2=>
 bif j2 then(some ((bs []),false))
 else(some (j1,true)))) some))
def Km (b:List A4) (a:Int):Option (ByteArray×Bool):=
 (KY b a).bind λv1=>
 bif(!v1.2)then(some ((bs []),false))
 else((FI v1.1.Page.Text).bind λv2=>
 some (v2.1,v2.2))
def Im (c:List A4) (a:List Int) (d:ByteArray) (b:Int):Option ((Int)⊕((Unit)⊕(Int))):=
 bif(decide (b<(ln a)))then((gi a b).bind λx1=>
 (Km c x1).bind λv1=>
 (bif v1.2 then(some (seq v1.1 d))
 else(some false):Option (Bool)).bind λj1=>
 bif j1 then((gi a b).bind λx2=>
 some (.inr (.inr x2)))
 else(some (.inl (ad b 1))))
 else(some (.inr (.inl ())))
def TL (a:List A4) (b:List Int) (c:ByteArray):Option (Int):=
 (Av (λs:Int=>Im a b c s) 0).bind (Sum.elim (λv2=>(some 0)) some)
def O3 (xF:Flash) (a:List Int) (b:ByteArray):Option (Int):=
 (Gx xF).bind λv1=>
 (TL v1 a b).bind λv2=>
 some v2
def Mt (xD:Bc) (xQ:dC):Option (List Dk×ByteArray×Int):=
 (VB xQ).bind λv1=>
 bif(!v1)then(some ([],(bs []),3))
 else((Er xD.Store xQ.Vol).bind λv2=>
 (bif(xQ.Kind==3)then(some true)
 else(some (xQ.Kind==4)):Option (Bool)).bind λj1=>
 bif j1 then(bif(decide (v2>=0))then(some ([],(bs []),2))
 else((bif(xQ.Kind==4)then((Er xD.Store xQ.Of).bind λv3=>
 some (decide (v3<0)))
 else(some false):Option (Bool)).bind λj2=>
 bif j2 then(some ([],(bs []),1))
 else(bif(decide ((ln xD.Store.Vols)>=3))then(some ([],(bs []),4))
 else(some ([(Dk.mk 2 xQ.Vol xQ.Of 0)],(bs []),0)))))
 else(bif(!(decide (v2>=0)))then(some ([],(bs []),1))
 else(bif(xQ.Kind==1)then((Lf xD.Store).bind λv4=>
 (O3 xD.Flash v4 xQ.Text).bind λv5=>
 (bif(v5==0)then((Dp xQ.Text).bind λv6=>
 some (xD.Store.Next,v6.1))
 else(some (v5,(bs []))):Option (Int×ByteArray)).bind λj3=>
 some ([(Dk.mk 4 xQ.Vol xQ.Sector j3.1)],j3.2,0))
 else(bif(xQ.Kind==2)then(some ([(Dk.mk 5 xQ.Vol xQ.Sector 0)],(bs []),0))
 else(bif(xQ.Kind==5)then(some ([(Dk.mk 3 xQ.Vol 0 0)],(bs []),0))
 else(some ([],(bs []),0)))))))
def NC (xS:Store) (b:Int) (a:Int):Option (Int):=
 (Er xS b).bind λv1=>
 bif(decide (v1<0))then(some 0)
 else((gi xS.Vols v1).bind λx1=>
 (O1 xS.Arena x1.Root a).bind λv2=>
 some v2)
def LX (c:List A4) (xS:Store) (b:Int) (a:Int):Option (ByteArray×Bool):=
 (Er xS b).bind λv1=>
 bif(decide (v1<0))then(some ((bs []),false))
 else((NC xS b a).bind λv2=>
 bif(v2==0)then(some ((bs []),true))
 else((Km c v2).bind λv3=>
 some (v3.1,v3.2)))
def W4 (xD:Bc) (b:Int) (a:Int):Option (ByteArray×Bool):=
 (Gx xD.Flash).bind λv1=>
 (LX v1 xD.Store b a).bind λv2=>
 some (v2.1,v2.2)
def FJ (xF:Flash) (c:Int) (b:Int) (a:Int):Option ((Int×Int)⊕(Int)):=
 (gi xF.Blocks c).bind λx1=>
 bif(decide (a<(ln x1.Leaves)))then((gi xF.Blocks c).bind λx2=>
 bif(!x2.Bad)then((gi xF.Blocks c).bind λx3=>
 (gi x3.Leaves a).bind λx4=>
 bif(x4.Is==0)then(some (.inl ((ad b 1),(ad a 1))))
 else(some (.inl (b,(ad a 1)))))
 else(some (.inl (b,(ad a 1)))))
 else(some (.inr b))
def FK (xF:Flash) (b:Int) (a:Int):Option ((Int×Int)⊕(Int)):=
 bif(decide (a<(ln xF.Blocks)))then((Av (λs:Int×Int=>FJ xF a s.1 s.2) (b,0)).bind λv1=>
 some (.inl (v1,(ad a 1))))
 else(some (.inr b))
def IJ (xF:Flash):Option (Int):=
 (Av (λs:Int×Int=>FK xF s.1 s.2) (0,0)).bind λv2=>
 some v2
def HM (c:List A4) (d:Int) (a:List Bool) (b:Int):Option ((List Bool×Int)⊕(List Bool)):=
 bif(decide (b<(ln c)))then((gi c b).bind λx1=>
 bif(x1.Page.Kind==2)then((gi c b).bind λx2=>
 (gi a b).bind λx3=>
 some (.inl ((si a b (decide (x2.Page.Tx>=d))),(ad b 1))))
 else((gi a b).bind λx4=>
 some (.inl ((si a b false),(ad b 1)))))
 else(some (.inr a))
def EW (c:List A4) (d:List Int) (e:Int) (a:List Bool) (b:Int):Option ((List Bool×Int)⊕(List Bool)):=
 bif(decide (b>=0))then(((gi c b).bind λx5=>
 bif(x5.Page.Kind==1)then((gi c b).bind λx6=>
 (gi d e).bind λx7=>
 some (x6.Page.Tx==x7))
 else(some false):Option (Bool)).bind λj1=>
 bif j1 then((gi a b).bind λx8=>
 some (.inl ((si a b true),(sb (-1) 1))))
 else(some (.inl (a,(sb b 1)))))
 else(some (.inr a))
def HL (a:List A4) (b:List Int) (c:List Bool) (d:Int):Option ((List Bool×Int)⊕(List Bool)):=
 bif(decide (d<(ln b)))then((Av (λs:List Bool×Int=>EW a b d s.1 s.2) (c,(sb (ln a) 1))).bind λv2=>
 some (.inl (v2,(ad d 1))))
 else(some (.inr c))
def HN (a:List A4) (b:List Int) (c:Int):Option (List Bool):=
 (mk 1 false (ln a)).bind λq1=>
 (Av (λs:List Bool×Int=>HM a c s.1 s.2) (q1,0)).bind λv1=>
 (Av (λs:List Bool×Int=>HL a b s.1 s.2) (v1,0)).bind λv3=>
 some v3
def IF (xB:Block) (a:Int):Option ((Int)⊕((Unit)⊕(Bool))):=
 bif(decide (a<(ln xB.Leaves)))then((gi xB.Leaves a).bind λx1=>
 bif(x1.Is !=0)then(some (.inr (.inr false)))
 else(some (.inl (ad a 1))))
 else(some (.inr (.inl ())))
def Oo (xB:Block):Option (Bool):=
 (Av (λs:Int=>IF xB s) 0).bind (Sum.elim (λv1=>(some true)) some)
def Mo (b:List A4) (c:List Bool) (xB:Int) (d:Int) (a:Int):Option ((Int×Int)⊕(Int)):=
 bif(decide (a<(ln b)))then((gi c a).bind λx1=>
 bif x1 then((gi b a).bind λx2=>
 bif(x2.Block==xB)then(some (.inl ((ad d 1),(ad a 1))))
 else(some (.inl (d,(ad a 1)))))
 else(some (.inl (d,(ad a 1)))))
 else(some (.inr d))
def QG (b:List A4) (a:List Bool) (xB:Int):Option (Int):=
 (Av (λs:Int×Int=>Mo b a xB s.1 s.2) (0,0)).bind λv1=>
 some v1
def F5 (xD:Bc) (v1:List A4) (v3:List Bool) (a:List Int) (b:Int):Option ((List Int×Int)⊕(List Int)):=
 bif(decide (b<(ln xD.Flash.Blocks)))then((gi xD.Flash.Blocks b).bind λx1=>
 (bif(!x1.Bad)then((Oo x1).bind λv4=>
 bif(!v4)then((QG v1 v3 b).bind λv5=>
 some (v5==0))
 else(some false))
 else(some false):Option (Bool)).bind λj1=>
 bif j1 then((ap 8 a [b]).bind λq1=>
 some (.inl (q1,(ad b 1))))
 else(some (.inl (a,(ad b 1)))))
 else(some (.inr a))
def LN (xD:Bc):Option (List Int):=
 (Gx xD.Flash).bind λv1=>
 (Lf xD.Store).bind λv2=>
 (HN v1 v2 xD.Base).bind λv3=>
 (Av (λs:List Int×Int=>F5 xD v1 v3 s.1 s.2) ([],0)).bind λv6=>
 some v6
def Hk (xD:Bc) (v2:List Tx) (a:Int):Option ((Int)⊕((Unit)⊕(Bool))):=
 bif(decide (a<(ln v2)))then((gi v2 a).bind λx1=>
 bif(x1.Num==xD.Base)then((gi v2 a).bind λx2=>
 bif(decide ((ln x2.Recs)>0))then((gi v2 a).bind λx3=>
 (gi x3.Recs 0).bind λx4=>
 some (.inr (.inr (x4.Kind==1))))
 else(some (.inr (.inr false))))
 else(some (.inl (ad a 1))))
 else(some (.inr (.inl ())))
def Oq (xD:Bc):Option (Bool):=
 bif(xD.Base !=(sb xD.Tx 1))then(some false)
 else((Gx xD.Flash).bind λv1=>
 (PP v1).bind λv2=>
 (Av (λs:Int=>Hk xD v2 s) 0).bind (Sum.elim (λv3=>(some false)) some))
def Ht (xS:Store) (c:Int) (v1:List Int) (a:List Dk) (b:Int):Option ((List Dk×Int)⊕(List Dk)):=
 bif(decide (b<(ln v1)))then((gi v1 b).bind λx3=>
 bif(decide (x3>0))then((gi xS.Vols c).bind λx4=>
 (gi v1 b).bind λx5=>
 (ap 32 a [(Dk.mk 4 x4.Id b x5)]).bind λq2=>
 some (.inl (q2,(ad b 1))))
 else(some (.inl (a,(ad b 1)))))
 else(some (.inr a))
def Hu (xS:Store) (a:List Dk) (b:Int):Option ((List Dk×Int)⊕(List Dk)):=
 bif(decide (b<(ln xS.Vols)))then((gi xS.Vols b).bind λx1=>
 (ap 32 a [(Dk.mk 2 x1.Id 0 0)]).bind λq1=>
 (gi xS.Vols b).bind λx2=>
 (IV xS.Arena x2.Root).bind λv1=>
 (Av (λs:List Dk×Int=>Ht xS b v1 s.1 s.2) (q1,0)).bind λv2=>
 some (.inl (v2,(ad b 1))))
 else(some (.inr a))
def O6 (xS:Store):Option (List Dk):=
 (Av (λs:List Dk×Int=>Hu xS s.1 s.2) ([(Dk.mk 1 0 xS.Next 0)],0)).bind λv3=>
 some v3
def Gy (xF:Flash) (d:Int) (b:Int) (c:Int) (a:Int):Option ((Int×Int×Int)⊕(Int×Int)):=
 (gi xF.Blocks d).bind λx1=>
 bif(decide (a<(ln x1.Leaves)))then((gi xF.Blocks d).bind λx2=>
 (gi x2.Leaves a).bind λx3=>
 bif(x3.Is==0)then(some (.inl ((ad b 1),c,(ad a 1))))
 else(some (.inl (b,(ad c 1),(ad a 1)))))
 else(some (.inr (b,c)))
def Gz (xF:Flash) (a:Int):Option ((Int)⊕((Unit)⊕(Int))):=
 bif(decide (a<(ln xF.Blocks)))then((Av (λs:Int×Int×Int=>Gy xF a s.1 s.2.1 s.2.2) (0,0,0)).bind λv1=>
 ((gi xF.Blocks a).bind λx4=>
 bif(!x4.Bad)then(bif(decide (v1.1>0))then(some (decide (v1.2>0)))
 else(some false))
 else(some false):Option (Bool)).bind λj1=>
 bif j1 then(some (.inr (.inr a)))
 else(some (.inl (ad a 1))))
 else(some (.inr (.inl ())))
def MU (xF:Flash):Option (Int):=
 (Av (λs:Int=>Gz xF s) 0).bind (Sum.elim (λv2=>(some (-1))) some)
def Fz (xF:Flash) (c:Int) (a:Bool) (b:Int):Option ((Bool×Int)⊕(Bool)):=
 (gi xF.Blocks c).bind λx2=>
 bif(decide (b<(ln x2.Leaves)))then(bif a then((gi xF.Blocks c).bind λx3=>
 (gi x3.Leaves b).bind λx4=>
 some (.inl ((x4.Is==0),(ad b 1))))
 else(some (.inl (false,(ad b 1)))))
 else(some (.inr a))
def Hh (xF:Flash) (a:List Int) (b:Int):Option ((List Int×Int)⊕(List Int)):=
 bif(decide (b<(ln xF.Blocks)))then((gi xF.Blocks b).bind λx1=>
 (Av (λs:Bool×Int=>Fz xF b s.1 s.2) ((!x1.Bad),0)).bind λv1=>
 bif v1 then((ap 8 a [b]).bind λq1=>
 some (.inl (q1,(ad b 1))))
 else(some (.inl (a,(ad b 1)))))
 else(some (.inr a))
def LL (xF:Flash):Option (List Int):=
 (Av (λs:List Int×Int=>Hh xF s.1 s.2) ([],0)).bind λv2=>
 some v2
def JL (xF:Flash) (v4:List Int) (a:Int) (b:Int):Option ((Int×Int)⊕(Int)):=
 bif(decide (b<(ln v4)))then((gi v4 b).bind λx3=>
 (gi xF.Blocks x3).bind λx4=>
 (gi xF.Blocks a).bind λx5=>
 bif(decide (x4.Wear<x5.Wear))then((gi v4 b).bind λx6=>
 some (.inl (x6,(ad b 1))))
 else(some (.inl (a,(ad b 1)))))
 else(some (.inr a))
def NA (xF:Flash):Option (Int×Int×Bool):=
 (Hr xF).bind λv1=>
 bif(!v1)then(some (0,0,false))
 else((MU xF).bind λv2=>
 bif(decide (v2>=0))then((gi xF.Blocks v2).bind λx1=>
 (Jr x1).bind λv3=>
 some (v2,v3,true))
 else((LL xF).bind λv4=>
 bif((ln v4)==0)then(some (0,0,false))
 else((gi v4 0).bind λx2=>
 (Av (λs:Int×Int=>JL xF v4 s.1 s.2) (x2,1)).bind λv5=>
 some (v5,0,true))))
def Gr (xF:Flash) (a:List BY) (xP:Page):Option (Flash×List BY×Bool):=
 (EY xP).bind λv1=>
 (NA xF).bind λv2=>
 (bif(!v1.2)then(some true)
 else(some (!v2.2.2)):Option (Bool)).bind λj1=>
 bif j1 then(some (xF,a,false))
 else((NB xF (BY.mk 1 v2.1 v2.2.1 v1.1)).bind λv3=>
 ((ap 40 a [(BY.mk 1 v2.1 v2.2.1 v1.1)]).bind λq4=>
 some q4:Option (List BY)).bind λj2=>
 some (v3.1,j2,v3.2))
def QJ (xR:Dk):Option (ByteArray×Bool):=
 (MT xR).bind λv1=>
 bif(!v1)then(some ((bs []),false))
 else((LZ (ad (ml 16 xR.Kind) xR.Vol)).bind λv2=>
 (II xR.Arg).bind λv3=>
 (TB v2 v3).bind λx1=>
 (II xR.Chunk).bind λv4=>
 (TB x1 v4).bind λx2=>
 some (x2,true))
def Ip (b:List Dk) (a:List ByteArray) (c:Int):Option ((List ByteArray×Int)⊕((List ByteArray)⊕((List Page×Bool)))):=
 bif(decide (c<(ln b)))then((gi b c).bind λx1=>
 (QJ x1).bind λv1=>
 bif(!v1.2)then(some (.inr (.inr ([],false))))
 else((gi a (sb (ln a) 1)).bind λx2=>
 bif(decide ((ad (Gi x2) (Gi v1.1))>90))then((ap 16 a [v1.1]).bind λq1=>
 some (.inl (q1,(ad c 1))))
 else((gi a (sb (ln a) 1)).bind λx3=>
 (TB x3 v1.1).bind λx4=>
 (gi a (sb (ln a) 1)).bind λx5=>
 some (.inl ((si a (sb (ln a) 1) x4),(ad c 1))))))
 else(some (.inr (.inl a)))
def Io (c:Int) (d:Int) (v2:List ByteArray) (a:List Page) (b:Int):Option ((List Page×Int)⊕(List Page)):=
 bif(decide (b<(ln v2)))then((gi v2 b).bind λx6=>
 (ap 56 a [(Page.mk 2 (ad c b) d b (ln v2) x6)]).bind λq2=>
 some (.inl (q2,(ad b 1))))
 else(some (.inr a))
def N7 (a:Int) (c:Int) (b:List Dk):Option (List Page×Bool):=
 (Av (λs:List ByteArray×Int=>Ip b s.1 s.2) ([(bs [])],0)).bind (Sum.elim (λv2=>((bif(decide ((ln v2)>9))then(some true)
 else((Cc a 1 (ad (sb 1000000000 (ln v2)) 1)).bind λv3=>
 bif(!v3)then(some true)
 else((Cc c 1 1000000000).bind λv4=>
 some (!v4))):Option (Bool)).bind λj1=>
 bif j1 then(some ([],false))
 else((Av (λs:List Page×Int=>Io a c v2 s.1 s.2) ([],0)).bind λv5=>
 some (v5,true)))) some)
def Ds (v2:List Page×Bool) (a:List BY) (b:Bool) (c:Int) (d:List Block):Option ((List BY×Bool×Int×List Block)⊕(List BY×Bool)):=
 (bif(decide (c<(ln v2.1)))then(some b)
 else(some false):Option (Bool)).bind λj3=>
 bif j3 then(((gi v2.1 c).bind λx2=>
 (Gr (Flash.mk d) a x2).bind λv3=>
 some (v3.2.1,v3.2.2,v3.1.Blocks):Option (List BY×Bool×List Block)).bind λj4=>
 some (.inl (j4.1,j4.2.1,(ad c 1),j4.2.2)))
 else(some (.inr (a,b)))
def Dh (xD:Bc) (a:List Dk) (b:ByteArray):Option (List BY×Bool):=
 bif((ln a)==0)then(some ([],true))
 else((bif(!(seq b (bs [])))then(((gi a (sb (ln a) 1)).bind λx1=>
 (Gr xD.Flash [] (Page.mk 1 xD.Seq x1.Chunk 0 1 b)).bind λv1=>
 some (v1.2.1,v1.2.2,v1.1.Blocks):Option (List BY×Bool×List Block)).bind λj2=>
 some (j2.1,(ad xD.Seq 1),j2.2.1,j2.2.2))
 else(some ([],xD.Seq,true,xD.Flash.Blocks)):Option (List BY×Int×Bool×List Block)).bind λj1=>
 (N7 j1.2.1 xD.Tx a).bind λv2=>
 (Av (λs:List BY×Bool×Int×List Block=>Ds v2 s.1 s.2.1 s.2.2.1 s.2.2.2) (j1.1,j1.2.2.1,0,j1.2.2.2)).bind λv4=>
 (bif(!v4.2)then(some true)
 else(some (!v2.2)):Option (Bool)).bind λj5=>
 bif j5 then(some ([],false))
 else(some (v4.1,true)))
def PR (xD:Bc):Option (List BY×Bool):=
 (O6 xD.Store).bind λv1=>
 (Dh xD v1 (bs [])).bind λv2=>
 some (v2.1,v2.2)
def Hp (xD:Bc) (v1:List A4) (v3:List Bool) (v4:List Bool) (c:Int) (a:Int) (b:Int):Option ((Int×Int×Int)⊕(Int)):=
 bif(decide (b<(ln xD.Flash.Blocks)))then((gi xD.Flash.Blocks b).bind λx1=>
 (QG v1 v3 b).bind λv5=>
 (bif(!x1.Bad)then((Jr x1).bind λv6=>
 bif(v6==4)then((QG v1 v4 b).bind λv7=>
 bif(v5==v7)then(bif(decide (v5>=1))then(some (decide (v5<a)))
 else(some false))
 else(some false))
 else(some false))
 else(some false):Option (Bool)).bind λj1=>
 bif j1 then(some (.inl (b,v5,(ad b 1))))
 else(some (.inl (c,a,(ad b 1)))))
 else(some (.inr c))
def Ou (xD:Bc):Option (Int):=
 (Gx xD.Flash).bind λv1=>
 (Lf xD.Store).bind λv2=>
 (HN v1 v2 xD.Base).bind λv3=>
 (HN v1 v2 1000000000).bind λv4=>
 (Av (λs:Int×Int×Int=>Hp xD v1 v3 v4 s.1 s.2.1 s.2.2) ((-1),4,0)).bind λv8=>
 some v8
def G3 (xB:Int) (v1:List A4) (v3:List Bool) (e:Int) (a:List BY) (b:Int) (c:Int) (d:List Block):Option ((List BY×Int×Int×List Block)⊕((List BY×Int×List Block)⊕((List BY×Int×Int×List Block)⊕((List BY)⊕((List BY×Bool)))))):=
 bif(decide (c<(ln v1)))then(((gi v3 c).bind λx1=>
 bif(!x1)then(some true)
 else((gi v1 c).bind λx2=>
 bif(x2.Block !=xB)then(some true)
 else((gi v1 c).bind λx3=>
 some (x3.Leaf !=e))):Option (Bool)).bind λj1=>
 bif j1 then(some (.inl (a,b,(ad c 1),d)))
 else((gi v1 c).bind λx4=>
 (Gr (Flash.mk d) a (Page.mk x4.Page.Kind b x4.Page.Tx x4.Page.Part x4.Page.Count x4.Page.Text)).bind λv4=>
 (bif(!v4.2.2)then(some true)
 else((gi v4.2.1 (sb (ln v4.2.1) 1)).bind λx5=>
 some (x5.Block==xB)):Option (Bool)).bind λj2=>
 bif j2 then(some (.inr (.inr (.inr (.inr ([],false))))))
 else(some (.inl (v4.2.1,(ad b 1),(ad c 1),v4.1.Blocks)))))
 else(some (.inr (.inl (a,b,d))))
def G4 (xB:Int) (v1:List A4) (v3:List Bool) (b:List BY) (c:Int) (a:Int) (d:List Block):Option ((List BY×Int×Int×List Block)⊕((List BY)⊕((List BY×Bool)))):=
 bif(decide (a<4))then((Av (λs:List BY×Int×Int×List Block=>G3 xB v1 v3 a s.1 s.2.1 s.2.2.1 s.2.2.2) (b,c,0,d)).bind (Sum.elim (λv5=>(some (.inl (v5.1,v5.2.1,(ad a 1),v5.2.2)))) some))
 else(some (.inr (.inl b)))
def Lc (xD:Bc) (xB:Int):Option (List BY×Bool):=
 (Gx xD.Flash).bind λv1=>
 (Lf xD.Store).bind λv2=>
 (HN v1 v2 1000000001).bind λv3=>
 (Av (λs:List BY×Int×Int×List Block=>G4 xB v1 v3 s.1 s.2.1 s.2.2.1 s.2.2.2) ([],xD.Seq,0,xD.Flash.Blocks)).bind (Sum.elim (λv6=>(some (v6,true))) some)
def O5 (xD:Bc):Option (List BY×Bool):=
 (LN xD).bind λv1=>
 bif(decide ((ln v1)>0))then((gi v1 0).bind λx1=>
 some ([(BY.mk 2 x1 0 (bs []))],true))
 else((Oq xD).bind λv2=>
 bif(!v2)then((PR xD).bind λv3=>
 some (v3.1,v3.2))
 else((Ou xD).bind λv4=>
 bif(decide (v4<0))then(some ([],false))
 else((Lc xD v4).bind λv5=>
 some (v5.1,v5.2))))
def IZ (xD:Bc) (a:List BY):Option (Bc):=
 (Mb xD.Flash a).bind λv1=>
 (CP v1.1).bind λv2=>
 some v2.1
def Hs (i:Int) (h:List BY) (j:Int) (a:List Block) (b:List Vol) (c:List BI) (d:Int) (e:Int) (f:Int) (g:Int):Option ((List BY×Int×List Block×List Vol×List BI×Int×Int×Int×Int)⊕((List BY×List Block×List Vol×List BI×Int×Int×Int×Int)⊕((Bc×List BY)))):=
 (bif(decide (j<i))then(bif(decide (j<20))then((IJ (Flash.mk a)).bind λv2=>
 some (decide (v2<12)))
 else(some false))
 else(some false):Option (Bool)).bind λj1=>
 bif j1 then((O5 (Bc.mk (Flash.mk a) (Store.mk b (Arena.mk c) d) e f g)).bind λv3=>
 bif(!v3.2)then(some (.inr (.inr ((Bc.mk (Flash.mk a) (Store.mk b (Arena.mk c) d) e f g),h))))
 else((IZ (Bc.mk (Flash.mk a) (Store.mk b (Arena.mk c) d) e f g) v3.1).bind λv4=>
 (ap 40 h v3.1).bind λq1=>
 some (.inl (q1,(ad j 1),v4.Flash.Blocks,v4.Store.Vols,v4.Store.Arena.Knots,v4.Store.Next,v4.Seq,v4.Tx,v4.Base))))
 else(some (.inr (.inl (h,a,b,c,d,e,f,g))))
def Mv (xD:Bc) (a:Int):Option (Bc×List BY):=
 (N5 xD).bind λv1=>
 (Av (λs:List BY×Int×List Block×List Vol×List BI×Int×Int×Int×Int=>Hs a s.1 s.2.1 s.2.2.1 s.2.2.2.1 s.2.2.2.2.1 s.2.2.2.2.2.1 s.2.2.2.2.2.2.1 s.2.2.2.2.2.2.2.1 s.2.2.2.2.2.2.2.2) ([],0,v1.Flash.Blocks,v1.Store.Vols,v1.Store.Arena.Knots,v1.Store.Next,v1.Seq,v1.Tx,v1.Base)).bind (Sum.elim (λv5=>(some ((Bc.mk (Flash.mk v5.2.1) (Store.mk v5.2.2.1 (Arena.mk v5.2.2.2.1) v5.2.2.2.2.1) v5.2.2.2.2.2.1 v5.2.2.2.2.2.2.1 v5.2.2.2.2.2.2.2),v5.1))) some)
def V9 (xD:Bc) (xQ:dC):Option (Bc×List BY×ByteArray×Int):=
 (N5 xD).bind λv1=>
 (O4 xD).bind λv2=>
 bif(!v2)then(some (v1,[],(bs []),5))
 else((Mt xD xQ).bind λv3=>
 bif(v3.2.2 !=0)then(some (v1,[],(bs []),v3.2.2))
 else(bif(xQ.Kind==6)then((W4 xD xQ.Vol xQ.Sector).bind λv4=>
 bif(!v4.2)then(some (v1,[],(bs []),1))
 else(some (v1,[],v4.1,0)))
 else((IJ xD.Flash).bind λv5=>
 (bif(decide (v5<12))then((Mv xD 20).bind λv6=>
 some (v6.2,v6.1.Flash.Blocks,v6.1.Store.Vols,v6.1.Store.Arena.Knots,v6.1.Store.Next,v6.1.Seq,v6.1.Tx,v6.1.Base))
 else(some ([],v1.Flash.Blocks,v1.Store.Vols,v1.Store.Arena.Knots,v1.Store.Next,v1.Seq,v1.Tx,v1.Base)):Option (List BY×List Block×List Vol×List BI×Int×Int×Int×Int)).bind λj1=>
 (Mt (Bc.mk (Flash.mk j1.2.1) (Store.mk j1.2.2.1 (Arena.mk j1.2.2.2.1) j1.2.2.2.2.1) j1.2.2.2.2.2.1 j1.2.2.2.2.2.2.1 j1.2.2.2.2.2.2.2) xQ).bind λv7=>
 (Dh (Bc.mk (Flash.mk j1.2.1) (Store.mk j1.2.2.1 (Arena.mk j1.2.2.2.1) j1.2.2.2.2.1) j1.2.2.2.2.2.1 j1.2.2.2.2.2.2.1 j1.2.2.2.2.2.2.2) v7.1 v7.2.1).bind λv8=>
 (bif(!v8.2)then(some true)
 else((IJ (Flash.mk j1.2.1)).bind λv9=>
 some (decide (v9<8))):Option (Bool)).bind λj2=>
 bif j2 then(some ((Bc.mk (Flash.mk j1.2.1) (Store.mk j1.2.2.1 (Arena.mk j1.2.2.2.1) j1.2.2.2.2.1) j1.2.2.2.2.2.1 j1.2.2.2.2.2.2.1 j1.2.2.2.2.2.2.2),j1.1,(bs []),4))
 else((IZ (Bc.mk (Flash.mk j1.2.1) (Store.mk j1.2.2.1 (Arena.mk j1.2.2.2.1) j1.2.2.2.2.1) j1.2.2.2.2.2.1 j1.2.2.2.2.2.2.1 j1.2.2.2.2.2.2.2) v8.1).bind λv10=>
 (ap 40 j1.1 v8.1).bind λq1=>
 some (v10,q1,(bs []),0)))))
def Gs (h:Int) (a:List Block) (b:List Vol) (c:List BI) (d:Int) (e:Int) (f:Int) (g:Int) (i:List Int) (j:Int) (k:Int):Option ((Int×List Block×List Vol×List BI×Int×Int×Int×Int×List Int×Int×Int)⊕(List Block×List Vol×List BI×Int×Int×Int×Int×List Int×Int×Int)):=
 (DM (Cf.mk i j k) 12).bind λv3=>
 bif(decide (h<v3.1))then(((QF v3.2 (Bc.mk (Flash.mk a) (Store.mk b (Arena.mk c) d) e f g)).bind λv5=>
 (V9 (Bc.mk (Flash.mk a) (Store.mk b (Arena.mk c) d) e f g) v5.1).bind λv6=>
 some (v6.1.Flash.Blocks,v6.1.Store.Vols,v6.1.Store.Arena.Knots,v6.1.Store.Next,v6.1.Seq,v6.1.Tx,v6.1.Base,v5.2.b_,v5.2.i_,v5.2.h_):Option (List Block×List Vol×List BI×Int×Int×Int×Int×List Int×Int×Int)).bind λj1=>
 some (.inl ((ad h 1),j1.1,j1.2.1,j1.2.2.1,j1.2.2.2.1,j1.2.2.2.2.1,j1.2.2.2.2.2.1,j1.2.2.2.2.2.2.1,j1.2.2.2.2.2.2.2.1,j1.2.2.2.2.2.2.2.2.1,j1.2.2.2.2.2.2.2.2.2)))
 else(some (.inr (a,b,c,d,e,f,g,v3.2.b_,v3.2.i_,v3.2.h_)))
def MP (xC:Cf):Option (Bc×Cf):=
 (DM xC 4).bind λv1=>
 (MX (ad 5 v1.1)).bind λv2=>
 (Av (λs:Int×List Block×List Vol×List BI×Int×Int×Int×Int×List Int×Int×Int=>Gs s.1 s.2.1 s.2.2.1 s.2.2.2.1 s.2.2.2.2.1 s.2.2.2.2.2.1 s.2.2.2.2.2.2.1 s.2.2.2.2.2.2.2.1 s.2.2.2.2.2.2.2.2.1 s.2.2.2.2.2.2.2.2.2.1 s.2.2.2.2.2.2.2.2.2.2) (0,v2.1.Flash.Blocks,v2.1.Store.Vols,v2.1.Store.Arena.Knots,v2.1.Store.Next,v2.1.Seq,v2.1.Tx,v2.1.Base,v1.2.b_,v1.2.i_,v1.2.h_)).bind λv9=>
 some ((Bc.mk (Flash.mk v9.1) (Store.mk v9.2.1 (Arena.mk v9.2.2.1) v9.2.2.2.1) v9.2.2.2.2.1 v9.2.2.2.2.2.1 v9.2.2.2.2.2.2.1),(Cf.mk v9.2.2.2.2.2.2.2.1 v9.2.2.2.2.2.2.2.2.1 v9.2.2.2.2.2.2.2.2.2))
def LM (a:List Int):Option (Bc):=
 (SF a).bind λv1=>
 (MP v1).bind λv2=>
 some v2.1
def Ia (xL:List Int):Option (List Int):=
 (ap 8 [] xL).bind λq1=>
 some q1
def Ib (xA:Arena) (y1:Int) (a:List BI):Option ((Int×List BI)⊕(List BI)):=
 bif(decide (y1<(ln xA.Knots)))then((gi xA.Knots y1).bind λx1=>
 (Ia x1.Kids).bind λv1=>
 (ap 32 a [(BI.mk x1.Leaf v1)]).bind λq1=>
 some (.inl ((ad y1 1),q1)))
 else(some (.inr a))
def Ic (xA:Arena):Option (Arena):=
 (Av (λs:Int×List BI=>Ib xA s.1 s.2) (0,[])).bind λv2=>
 some (Arena.mk v2)
def HZ (xS:Store):Option (Store):=
 (ap 16 [] xS.Vols).bind λq1=>
 (Ic xS.Arena).bind λv1=>
 some (Store.mk q1 v1 xS.Next)
def I2 (a:Int) (y1:Int):Option ((Int×Int)⊕(Int)):=
 bif(decide (y1<8))then(bif((an a 1)==1)then(some (.inl ((xr (Int.fdiv a (2^(min (1:Int).toNat IntKind.u32.bits))) 3558460437),(ad y1 1))))
 else(some (.inl ((Int.fdiv a (2^(min (1:Int).toNat IntKind.u32.bits))),(ad y1 1)))))
 else(some (.inr a))
def JU (a:ByteArray) (b:Int) (c:Int):Option ((Int×Int)⊕(Int)):=
 bif(decide (c<(Gi a)))then((sx a c).bind λx1=>
 (Av (λs:Int×Int=>I2 s.1 s.2) ((xr b (IntKind.u32.wrap x1)),0)).bind λv1=>
 some (.inl (v1,(ad c 1))))
 else(some (.inr b))
def QY (b:Int) (a:ByteArray):Option (Int):=
 (Av (λs:Int×Int=>JU a s.1 s.2) (b,0)).bind λv2=>
 some v2
def VK (a:ByteArray):Option (Int):=
 (QY 4294967295 a).bind λv1=>
 some v1
def Tl (a:ByteArray):Option (ByteArray×Bool):=
 bif(decide ((Gi a)>20000))then(some ((bs []),false))
 else((VK a).bind λv1=>
 (TB a (HC [(IntKind.u8.wrap (Int.fdiv v1 (2^(min (24:Int).toNat IntKind.u32.bits)))),(IntKind.u8.wrap (Int.fdiv v1 (2^(min (16:Int).toNat IntKind.u32.bits)))),(IntKind.u8.wrap (Int.fdiv v1 (2^(min (8:Int).toNat IntKind.u32.bits)))),(IntKind.u8.wrap v1)])).bind λx1=>
 some (x1,true))
def OP (a:ByteArray):Option (ByteArray×Bool):=
 bif(decide ((Gi a)<4))then(some ((bs []),false))
 else((sub a 0 (sb (Gi a) 4)).bind λx1=>
 (Tl x1).bind λv1=>
 (bif(!v1.2)then(some true)
 else(some (!(seq v1.1 a))):Option (Bool)).bind λj1=>
 bif j1 then(some ((bs []),false))
 else(some (x1,true)))
def Hf (b:ByteArray) (c:Int) (d:Int) (a:Int):Option ((Int×Int)⊕((Unit)⊕((Int×Int×Bool)))):=
 (bif(decide (a<5))then(bif(decide (c>=0))then(some (decide (c<(sb (Gi b) a))))
 else(some false))
 else(some false):Option (Bool)).bind λj1=>
 bif j1 then((sx b (ad c a)).bind λx1=>
 (shl .i64 (Int.tmod (IntKind.i64.wrap x1) 128) (ml 7 a)).bind λx2=>
 bif(decide ((IntKind.i64.wrap x1)>=128))then(some (.inl ((ad d x2),(ad a 1))))
 else((bif((IntKind.i64.wrap x1)==0)then(bif(decide (a>0))then(some true)
 else(some (decide ((ad d x2)>1000000000))))
 else(some (decide ((ad d x2)>1000000000))):Option (Bool)).bind λj2=>
 bif j2 then(some (.inr (.inr (0,0,false))))
 else(some (.inr (.inr ((ad d x2),(ad (ad c a) 1),true))))))
 else(some (.inr (.inl ())))
def J0 (a:ByteArray) (b:Int):Option (Int×Int×Bool):=
 (Av (λs:Int×Int=>Hf a b s.1 s.2) (0,0)).bind (Sum.elim (λv1=>(some (0,0,false))) some)
def Tm (xP:Page):Option (Bool):=
 ((Jc xP.Seq 1 1000000000).bind λv1=>
 bif(!v1)then(some true)
 else((Jc xP.Tx 1 1000000000).bind λv2=>
 bif(!v2)then(some true)
 else((Jc xP.Count 1 9).bind λv3=>
 bif(!v3)then(some true)
 else((Jc xP.Part 0 (sb xP.Count 1)).bind λv4=>
 bif(!v4)then(some true)
 else(some (decide ((Gi xP.Text)>90)))))):Option (Bool)).bind λj1=>
 bif j1 then(some false)
 else(bif(xP.Kind==2)then(some true)
 else(bif(xP.Kind==1)then(some (xP.Count==1))
 else(some false)))
def Ew (v1:ByteArray×Bool) (e:Int) (y1:Int) (a:Int) (b:Int) (c:Int) (d:Int):Option ((Int×Int×Int×Int×Int×Int)⊕((Int×Int×Int×Int×Int)⊕((Page×Bool)))):=
 bif(decide (y1<4))then((J0 v1.1 e).bind λv2=>
 bif(!v2.2.2)then(some (.inr (.inr ((Page.mk 0 0 0 0 0 (bs [])),false))))
 else(bif(y1==0)then(some (.inl (v2.2.1,(ad y1 1),v2.1,b,c,d)))
 else(bif(y1==1)then(some (.inl (v2.2.1,(ad y1 1),a,v2.1,c,d)))
 else(bif(y1==2)then(some (.inl (v2.2.1,(ad y1 1),a,b,v2.1,d)))
 else(bif(y1==3)then(some (.inl (v2.2.1,(ad y1 1),a,b,c,v2.1)))
 else none)))))
 else(some (.inr (.inl (e,a,b,c,d))))
def OU (xT:ByteArray):Option (Page×Bool):=
 (OP xT).bind λv1=>
 (bif(!v1.2)then(some true)
 else(some (seq v1.1 (bs []))):Option (Bool)).bind λj1=>
 bif j1 then(some ((Page.mk 0 0 0 0 0 (bs [])),false))
 else((Av (λs:Int×Int×Int×Int×Int×Int=>Ew v1 s.1 s.2.1 s.2.2.1 s.2.2.2.1 s.2.2.2.2.1 s.2.2.2.2.2) (1,0,0,0,0,0)).bind (Sum.elim (λv3=>((sx v1.1 0).bind λx1=>
 (sub v1.1 v3.1 (Gi v1.1)).bind λx2=>
 (Tm (Page.mk (IntKind.i64.wrap x1) v3.2.1 v3.2.2.1 v3.2.2.2.1 v3.2.2.2.2 x2)).bind λv4=>
 bif(!v4)then(some ((Page.mk 0 0 0 0 0 (bs [])),false))
 else(some ((Page.mk (IntKind.i64.wrap x1) v3.2.1 v3.2.2.1 v3.2.2.2.1 v3.2.2.2.2 x2),true)))) some))
def BG (x:A4):Int:=x.Page.Seq
def JV (y1:Int) (x1:Block) (y2:Int) (a:List A4):Option ((Int×List A4)⊕(List A4)):=
 bif(decide (y2<(ln x1.Leaves)))then((gi x1.Leaves y2).bind λx2=>
 (OU x2.Text).bind λv1=>
 (bif v1.2 then(some (x2.Is==1))
 else(some false):Option (Bool)).bind λj1=>
 bif j1 then((ap 72 a [(A4.mk y1 y2 v1.1)]).bind λq1=>
 some (.inl ((ad y2 1),q1)))
 else(some (.inl ((ad y2 1),a))))
 else(some (.inr a))
def I6 (xF:Flash) (y1:Int) (a:List A4):Option ((Int×List A4)⊕(List A4)):=
 bif(decide (y1<(ln xF.Blocks)))then((gi xF.Blocks y1).bind λx1=>
 (Av (λs:Int×List A4=>JV y1 x1 s.1 s.2) (0,a)).bind λv2=>
 some (.inl ((ad y1 1),v2)))
 else(some (.inr a))
def Hx (xF:Flash):Option (List A4):=
 (Av (λs:Int×List A4=>I6 xF s.1 s.2) (0,[])).bind λv3=>
 (Dw (ME BG) v3 (ln v3)).bind λv4=>
 some v4
def OS:Option (Store):=
 some (Store.mk [] (Arena.mk []) 1)
def I7 (v1:List A4) (a:Int) (y1:Int):Option ((Int×Int)⊕(Int)):=
 bif(decide (y1<(ln v1)))then((gi v1 y1).bind λx1=>
 some (.inl ((if x1.Page.Seq>a then x1.Page.Seq else a),(ad y1 1))))
 else(some (.inr a))
def Ra (xF:Flash):Option (Int):=
 (Hx xF).bind λv1=>
 (Av (λs:Int×Int=>I7 v1 s.1 s.2) (0,0)).bind λv2=>
 some v2
def Jy (xL:List Int) (xN:Int) (y1:Int):Option ((Int)⊕((Unit)⊕(Bool))):=
 bif(decide (y1<(ln xL)))then((gi xL y1).bind λx1=>
 bif(x1==xN)then(some (.inr (.inr true)))
 else(some (.inl (ad y1 1))))
 else(some (.inr (.inl ())))
def M6 (xL:List Int) (xN:Int):Option (Bool):=
 (Av (λs:Int=>Jy xL xN s) 0).bind (Sum.elim (λv1=>(some false)) some)
def Jx (b:List A4) (d:Int) (c:Int) (a:Int) (y1:Int):Option ((Int)⊕((Unit)⊕((Page×Bool)))):=
 bif(decide (y1<(ln b)))then((gi b y1).bind λx1=>
 (bif(x1.Page.Kind==2)then(bif(x1.Page.Tx==d)then(bif(x1.Page.Part==c)then(bif(a==0)then(some true)
 else(some (x1.Page.Count==a)))
 else(some false))
 else(some false))
 else(some false):Option (Bool)).bind λj1=>
 bif j1 then(some (.inr (.inr (x1.Page,true))))
 else(some (.inl (ad y1 1))))
 else(some (.inr (.inl ())))
def Qk (b:List A4) (d:Int) (c:Int) (a:Int):Option (Page×Bool):=
 (Av (λs:Int=>Jx b d c a s) 0).bind (Sum.elim (λv1=>(some ((Page.mk 0 0 0 0 0 (bs [])),false))) some)
def QZ (xR:Dk):Option (Bool):=
 bif(xR.Kind==1)then((bif(xR.Vol==0)then((Jc xR.Arg 0 1000000000).bind λv1=>
 bif v1 then(some (xR.Chunk==0))
 else(some false))
 else(some false):Option (Bool)).bind λj1=>
 some j1)
 else(((Jc xR.Vol 1 9).bind λv2=>
 bif(!v2)then(some true)
 else(bif(xR.Kind !=4)then(some (xR.Chunk !=0))
 else(some false)):Option (Bool)).bind λj2=>
 bif j2 then(some false)
 else(bif(xR.Kind==2)then((Jc xR.Arg 0 9).bind λv3=>
 some v3)
 else(bif(xR.Kind==3)then(some (xR.Arg==0))
 else(bif(xR.Kind==4)then((Jc xR.Arg 0 15).bind λv4=>
 bif v4 then((Jc xR.Chunk 1 1000000000).bind λv5=>
 some v5)
 else(some false))
 else(bif(xR.Kind==5)then((Jc xR.Arg 0 15).bind λv6=>
 some v6)
 else(some false))))))
def KP (xT:ByteArray) (b:List Dk) (a:Int):Option ((List Dk×Int)⊕((List Dk)⊕((List Dk×Bool)))):=
 bif(decide (a<(Gi xT)))then((J0 xT (ad a 1)).bind λv1=>
 (J0 xT v1.2.1).bind λv2=>
 (sx xT a).bind λx1=>
 (sx xT a).bind λx2=>
 (bif(!v1.2.2)then(some true)
 else(bif(!v2.2.2)then(some true)
 else((QZ (Dk.mk (qu (IntKind.i64.wrap x1) 16) (Int.tmod (IntKind.i64.wrap x2) 16) v1.1 v2.1)).bind λv3=>
 some (!v3))):Option (Bool)).bind λj1=>
 bif j1 then(some (.inr (.inr ([],false))))
 else((ap 32 b [(Dk.mk (qu (IntKind.i64.wrap x1) 16) (Int.tmod (IntKind.i64.wrap x2) 16) v1.1 v2.1)]).bind λq1=>
 some (.inl (q1,v2.2.1))))
 else(some (.inr (.inl b)))
def OT (xT:ByteArray):Option (List Dk×Bool):=
 (Av (λs:List Dk×Int=>KP xT s.1 s.2) ([],0)).bind (Sum.elim (λv4=>(some (v4,true))) some)
def KK (d:List A4) (e:Int) (v1:Page×Bool) (c:ByteArray) (b:Int) (a:Int):Option ((ByteArray×Int×Int)⊕((ByteArray×Int)⊕((Tx×Bool)))):=
 bif(decide (a<v1.1.Count))then((Qk d e a v1.1.Count).bind λv2=>
 bif(!v2.2)then(some (.inr (.inr ((Tx.mk 0 0 []),false))))
 else((TB c v2.1.Text).bind λx1=>
 some (.inl (x1,(if v2.1.Seq<b then v2.1.Seq else b),(ad a 1)))))
 else(some (.inr (.inl (c,b))))
def OO (a:List A4) (b:Int):Option (Tx×Bool):=
 (Qk a b 0 0).bind λv1=>
 bif(!v1.2)then(some ((Tx.mk 0 0 []),false))
 else((Av (λs:ByteArray×Int×Int=>KK a b v1 s.1 s.2.1 s.2.2) (v1.1.Text,v1.1.Seq,1)).bind (Sum.elim (λv3=>((OT v3.1).bind λv4=>
 some ((Tx.mk b v3.2 v4.1),v4.2))) some))
def J5 (b:List A4) (a:List Int) (y1:Int):Option ((List Int×Int)⊕(List Int)):=
 bif(decide (y1<(ln b)))then((gi b y1).bind λx1=>
 (bif(x1.Page.Kind==2)then((M6 a x1.Page.Tx).bind λv1=>
 some (!v1))
 else(some false):Option (Bool)).bind λj1=>
 bif j1 then((ap 8 a [x1.Page.Tx]).bind λq1=>
 some (.inl (q1,(ad y1 1))))
 else(some (.inl (a,(ad y1 1)))))
 else(some (.inr a))
def J4 (b:List A4) (v3:List Int) (a:List Tx) (y2:Int):Option ((List Tx×Int)⊕(List Tx)):=
 bif(decide (y2<(ln v3)))then((gi v3 y2).bind λx2=>
 (OO b x2).bind λv4=>
 bif v4.2 then((ap 40 a [v4.1]).bind λq2=>
 some (.inl (q2,(ad y2 1))))
 else(some (.inl (a,(ad y2 1)))))
 else(some (.inr a))
def Tn (a:List A4):Option (List Tx):=
 (Av (λs:List Int×Int=>J5 a s.1 s.2) ([],0)).bind λv2=>
 (Wv v2).bind λv3=>
 (Av (λs:List Tx×Int=>J4 a v3 s.1 s.2) ([],0)).bind λv5=>
 some v5
def Tj (xT:Tx):Option (Bool):=
 bif(decide ((ln xT.Recs)>0))then((gi xT.Recs 0).bind λx1=>
 some (x1.Kind==1))
 else(some false)
def GC (b:List Tx) (a:Int) (y1:Int):Option ((Int×Int)⊕(Int)):=
 bif(decide (y1<(ln b)))then((gi b y1).bind λx1=>
 (Tj x1).bind λv1=>
 bif v1 then(some (.inl (y1,(ad y1 1))))
 else(some (.inl (a,(ad y1 1)))))
 else(some (.inr a))
def GB (x2:List Tx) (a:List Tx) (y2:Int):Option ((List Tx×Int)⊕(List Tx)):=
 bif(decide (y2<(ln x2)))then((gi x2 y2).bind λx3=>
 (ap 32 [] x3.Recs).bind λq1=>
 (ap 40 a [(Tx.mk x3.Num x3.Seq q1)]).bind λq2=>
 some (.inl (q2,(ad y2 1))))
 else(some (.inr a))
def Nf (a:List Tx):Option (List Tx):=
 (Av (λs:Int×Int=>GC a s.1 s.2) (0,0)).bind λv2=>
 (dr a v2 (ln a)).bind λx2=>
 (Av (λs:List Tx×Int=>GB x2 s.1 s.2) ([],0)).bind λv3=>
 some v3
def LU (xA:Arena) (y1:Int) (x1:BI) (y2:Int):Option ((Int)⊕((Unit)⊕((Int)⊕((Unit)⊕(Bool))))):=
 bif(decide (y2<(ln x1.Kids)))then((gi x1.Kids y2).bind λx2=>
 (bif x1.Leaf then(bif(decide (x2<0))then(some true)
 else(bif(!x1.Leaf)then(bif(x2 !=(-1))then((Jc x2 0 (sb y1 1)).bind λv1=>
 bif(!v1)then(some true)
 else((gi xA.Knots x2).bind λx3=>
 some (!x3.Leaf)))
 else(some false))
 else(some false)))
 else(bif(!x1.Leaf)then(bif(x2 !=(-1))then((Jc x2 0 (sb y1 1)).bind λv2=>
 bif(!v2)then(some true)
 else((gi xA.Knots x2).bind λx4=>
 some (!x4.Leaf)))
 else(some false))
 else(some false)):Option (Bool)).bind λj1=>
 bif j1 then(some (.inr (.inr (.inr (.inr false)))))
 else(some (.inl (ad y2 1))))
 else(some (.inr (.inl ())))
def LV (xA:Arena) (y1:Int):Option ((Int)⊕((Unit)⊕(Bool))):=
 bif(decide (y1<(ln xA.Knots)))then((gi xA.Knots y1).bind λx1=>
 bif((ln x1.Kids) !=4)then(some (.inr (.inr false)))
 else((Av (λs:Int=>LU xA y1 x1 s) 0).bind (Sum.elim (λv3=>(some (.inl (ad y1 1)))) some)))
 else(some (.inr (.inl ())))
def I8 (xA:Arena):Option (Bool):=
 (Av (λs:Int=>LV xA s) 0).bind (Sum.elim (λv4=>(some true)) some)
def G9 (xA:Arena) (a:Int):Option (Bool):=
 (Jc a 0 (sb (ln xA.Knots) 1)).bind λv1=>
 bif v1 then((gi xA.Knots a).bind λx1=>
 some (!x1.Leaf))
 else(some false)
def JT (xA:Arena) (x1:BI) (a:List Int) (y1:Int):Option ((List Int×Int)⊕(List Int)):=
 bif(decide (y1<(ln x1.Kids)))then((gi x1.Kids y1).bind λx2=>
 ((Jc x2 0 (sb (ln xA.Knots) 1)).bind λv2=>
 bif v2 then((M6 a x2).bind λv3=>
 some (!v3))
 else(some false):Option (Bool)).bind λj1=>
 bif j1 then((ap 8 a [x2]).bind λq1=>
 some (.inl (q1,(ad y1 1))))
 else(some (.inl (a,(ad y1 1)))))
 else(some (.inr a))
def NL (xA:Arena) (a:Int):Option (List Int):=
 (G9 xA a).bind λv1=>
 bif(!v1)then(some [])
 else((gi xA.Knots a).bind λx1=>
 (Av (λs:List Int×Int=>JT xA x1 s.1 s.2) ([a],0)).bind λv4=>
 some v4)
def I5 (xS:Store) (a:List Int) (y1:Int):Option ((List Int×Int)⊕((List Int)⊕(Bool))):=
 bif(decide (y1<(ln xS.Vols)))then((gi xS.Vols y1).bind λx1=>
 ((Jc x1.Id 1 9).bind λv3=>
 bif(!v3)then(some true)
 else(bif(decide (y1>0))then((gi xS.Vols (sb y1 1)).bind λx2=>
 bif(decide (x2.Id>=x1.Id))then(some true)
 else(bif(x1.Root !=(-1))then((G9 xS.Arena x1.Root).bind λv4=>
 some (!v4))
 else(some false)))
 else(bif(x1.Root !=(-1))then((G9 xS.Arena x1.Root).bind λv5=>
 some (!v5))
 else(some false))):Option (Bool)).bind λj2=>
 bif j2 then(some (.inr (.inr false)))
 else((NL xS.Arena x1.Root).bind λv6=>
 (ap 8 a v6).bind λq1=>
 some (.inl (q1,(ad y1 1)))))
 else(some (.inr (.inl a)))
def I3 (xS:Store) (x3:BI) (y3:Int):Option ((Int)⊕((Unit)⊕((Int)⊕((Unit)⊕(Bool))))):=
 bif(decide (y3<(ln x3.Kids)))then((gi x3.Kids y3).bind λx4=>
 bif x3.Leaf then(bif(decide (x4>=xS.Next))then(some (.inr (.inr (.inr (.inr false)))))
 else(some (.inl (ad y3 1))))
 else(some (.inl (ad y3 1))))
 else(some (.inr (.inl ())))
def I4 (xS:Store) (v7:List Int) (y2:Int):Option ((Int)⊕((Unit)⊕(Bool))):=
 bif(decide (y2<(ln xS.Arena.Knots)))then((gi xS.Arena.Knots y2).bind λx3=>
 (M6 v7 y2).bind λv8=>
 bif(!v8)then(some (.inr (.inr false)))
 else((Av (λs:Int=>I3 xS x3 s) 0).bind (Sum.elim (λv9=>(some (.inl (ad y2 1)))) some)))
 else(some (.inr (.inl ())))
def NN (xS:Store):Option (Bool):=
 (bif(decide ((ln xS.Vols)>3))then(some true)
 else((I8 xS.Arena).bind λv1=>
 bif(!v1)then(some true)
 else((Jc xS.Next 1 1000000000).bind λv2=>
 some (!v2))):Option (Bool)).bind λj1=>
 bif j1 then(some false)
 else((Av (λs:List Int×Int=>I5 xS s.1 s.2) ([],0)).bind (Sum.elim (λv7=>((Av (λs:Int=>I4 xS v7 s) 0).bind (Sum.elim (λv10=>(some true)) some))) some))
def Xc (xS:Store) (a:Int) (y1:Int):Option ((Int)⊕((Unit)⊕(Int))):=
 bif(decide (y1<(ln xS.Vols)))then((gi xS.Vols y1).bind λx1=>
 bif(x1.Id==a)then(some (.inr (.inr y1)))
 else(some (.inl (ad y1 1))))
 else(some (.inr (.inl ())))
def QW (xS:Store) (a:Int):Option (Int):=
 (Av (λs:Int=>Xc xS a s) 0).bind (Sum.elim (λv1=>(some (-1))) some)
def Bg (x:Vol):Int:=x.Id
def E0 (xS:Store) (a:Int) (b:Int):Option (Bool×Store):=
 (bif(b !=0)then((QW xS b).bind λv1=>
 bif(decide (v1<0))then(some (.inr (false,xS)))
 else((gi xS.Vols v1).bind λx1=>
 some (.inl x1.Root)))
 else(some (.inl (-1))):Option ((Int)⊕((Bool×Store)))).bind (Sum.elim (λj1=>(((QW xS a).bind λv2=>
 bif(decide (v2>=0))then(some true)
 else(some (decide ((ln xS.Vols)>=3))):Option (Bool)).bind λj2=>
 bif j2 then(some (false,xS))
 else(((ap 16 xS.Vols [(Vol.mk a j1)]).bind λq1=>
 some q1:Option (List Vol)).bind λj3=>
 (On (ME Bg) j3).bind λv3=>
 some (true,(Store.mk v3 xS.Arena xS.Next))))) some)
def VL (xA:Arena) (b:Int) (a:Int) (xN:Int):Option (Arena×Int):=
 (Ic xA).bind λv1=>
 (bif(b !=(-1))then((G9 xA b).bind λv2=>
 bif(!v2)then(some true)
 else((Jc a 0 15).bind λv3=>
 bif(!v3)then(some true)
 else(bif(decide (xN<0))then(some true)
 else((I8 xA).bind λv4=>
 some (!v4)))))
 else((Jc a 0 15).bind λv5=>
 bif(!v5)then(some true)
 else(bif(decide (xN<0))then(some true)
 else((I8 xA).bind λv6=>
 some (!v6)))):Option (Bool)).bind λj1=>
 bif j1 then(some (v1,b))
 else((mk 8 0 4).bind λq1=>
 (bif(decide (b>=0))then((gi xA.Knots b).bind λx1=>
 (Ia x1.Kids).bind λv7=>
 some v7)
 else(some [(-1),(-1),(-1),(-1)]):Option (List Int)).bind λj2=>
 (gi j2 (qu a 4)).bind λx2=>
 (bif(decide (x2>=0))then((gi xA.Knots x2).bind λx3=>
 (Ia x3.Kids).bind λv8=>
 some v8)
 else(some q1):Option (List Int)).bind λj3=>
 (gi j3 (Int.tmod a 4)).bind λx4=>
 (gi j2 (qu a 4)).bind λx5=>
 (ap 32 v1.Knots [(BI.mk true (si j3 (Int.tmod a 4) xN)),(BI.mk false (si j2 (qu a 4) (ln xA.Knots)))]).bind λq2=>
 some ((Arena.mk q2),(ad (ln xA.Knots) 1)))
def Nx (xS:Store) (xR:Dk):Option (Bool×Store):=
 bif(xR.Kind==1)then(some (true,(Store.mk [] (Arena.mk []) (if 1>xR.Arg then 1 else xR.Arg))))
 else(bif(xR.Kind==2)then((E0 xS xR.Vol xR.Arg).bind λv1=>
 some (v1.1,v1.2))
 else((QW xS xR.Vol).bind λv2=>
 (bif(decide (v2<0))then(some true)
 else(some (xR.Chunk==1000000000)):Option (Bool)).bind λj1=>
 bif j1 then(some (false,xS))
 else(bif(xR.Kind==3)then(((dr xS.Vols 0 v2).bind λx1=>
 (dr xS.Vols (ad v2 1) (ln xS.Vols)).bind λx2=>
 (ap 16 [] x1).bind λq2=>
 (ap 16 q2 x2).bind λq3=>
 some q3:Option (List Vol)).bind λj2=>
 some (true,(Store.mk j2 xS.Arena xS.Next)))
 else(((gi xS.Vols v2).bind λx3=>
 (VL xS.Arena x3.Root xR.Arg xR.Chunk).bind λv4=>
 some (v4.2,v4.1.Knots):Option (Int×List BI)).bind λj3=>
 (gi xS.Vols v2).bind λx4=>
 some (true,(Store.mk (si xS.Vols v2 (Vol.mk x4.Id j3.1)) (Arena.mk j3.2) (if(ad xR.Chunk 1)>xS.Next then(ad xR.Chunk 1)else xS.Next)))))))
def F9 (xA:Arena) (a:List Int) (v1:List Int) (b:List Int) (y1:Int):Option ((List Int×Int)⊕((List Int)⊕((Arena×List Int)))):=
 bif(decide (y1<(ln a)))then((gi a y1).bind λx1=>
 (bif(x1 !=(-1))then((G9 xA x1).bind λv2=>
 some (!v2))
 else(some false):Option (Bool)).bind λj1=>
 bif j1 then((Ic xA).bind λv3=>
 some (.inr (.inr (v3,v1))))
 else((NL xA x1).bind λv4=>
 (ap 8 b v4).bind λq1=>
 some (.inl (q1,(ad y1 1)))))
 else(some (.inr (.inl b)))
def F7 (c:List Int) (y2:Int) (b:List BI) (x2:BI) (y3:Int) (a:List Int):Option ((Int×List Int)⊕(List Int)):=
 bif(decide (y3<(ln x2.Kids)))then((gi x2.Kids y3).bind λx4=>
 (bif(!x2.Leaf)then(some (decide (x4>=0)))
 else(some false):Option (Bool)).bind λj3=>
 bif j3 then((gi (si c y2 (ln b)) x4).bind λx5=>
 (gi a y3).bind λx6=>
 some (.inl ((ad y3 1),(si a y3 x5))))
 else(some (.inl ((ad y3 1),a))))
 else(some (.inr a))
def F8 (xA:Arena) (v5:List Int) (b:List Int) (y2:Int) (a:List BI):Option ((List Int×Int×List BI)⊕(List Int×List BI)):=
 bif(decide (y2<(ln xA.Knots)))then((gi xA.Knots y2).bind λx2=>
 (M6 v5 y2).bind λv8=>
 bif(!v8)then(some (.inl (b,(ad y2 1),a)))
 else((gi b y2).bind λx3=>
 ((Ia x2.Kids).bind λv10=>
 some v10:Option (List Int)).bind λj2=>
 (Av (λs:Int×List Int=>F7 b y2 a x2 s.1 s.2) (0,j2)).bind λv12=>
 (ap 32 a [(BI.mk x2.Leaf v12)]).bind λq3=>
 some (.inl ((si b y2 (ln a)),(ad y2 1),q3))))
 else(some (.inr (b,a)))
def Ec (b:List Int) (v13:List Int×List BI) (a:List Int) (y4:Int):Option ((List Int×Int)⊕(List Int)):=
 bif(decide (y4<(ln b)))then((gi b y4).bind λx7=>
 bif(decide (x7>=0))then((gi v13.1 x7).bind λx8=>
 (gi a y4).bind λx9=>
 some (.inl ((si a y4 x8),(ad y4 1))))
 else(some (.inl (a,(ad y4 1)))))
 else(some (.inr a))
def LQ (xA:Arena) (a:List Int):Option (Arena×List Int):=
 (Ia a).bind λv1=>
 (Av (λs:List Int×Int=>F9 xA a v1 s.1 s.2) ([],0)).bind (Sum.elim (λv5=>((I8 xA).bind λv6=>
 bif(!v6)then((Ic xA).bind λv7=>
 some (v7,v1))
 else((mk 8 0 (ln xA.Knots)).bind λq2=>
 (Av (λs:List Int×Int×List BI=>F8 xA v5 s.1 s.2.1 s.2.2) (q2,0,[])).bind λv13=>
 (Av (λs:List Int×Int=>Ec a v13 s.1 s.2) (v1,0)).bind λv14=>
 some ((Arena.mk v13.2),v14)))) some)
def ET (xS:Store) (a:List Int) (y1:Int):Option ((List Int×Int)⊕(List Int)):=
 bif(decide (y1<(ln xS.Vols)))then((gi xS.Vols y1).bind λx1=>
 (ap 8 a [x1.Root]).bind λq1=>
 some (.inl (q1,(ad y1 1))))
 else(some (.inr a))
def GA (xS:Store) (v2:Arena×List Int) (y2:Int) (a:List Vol):Option ((Int×List Vol)⊕(List Vol)):=
 bif(decide (y2<(ln xS.Vols)))then((gi v2.2 y2).bind λx2=>
 (gi a y2).bind λx3=>
 some (.inl ((ad y2 1),(si a y2 (Vol.mk x3.Id x2)))))
 else(some (.inr a))
def KO (xS:Store):Option (Store):=
 (Av (λs:List Int×Int=>ET xS s.1 s.2) ([],0)).bind λv1=>
 (LQ xS.Arena v1).bind λv2=>
 (Av (λs:Int×List Vol=>GA xS v2 s.1 s.2) (0,xS.Vols)).bind λv3=>
 some (Store.mk v3 v2.1 xS.Next)
def VN (xS:Store) (xR:Dk):Option (Store×Bool):=
 (HZ xS).bind λv1=>
 ((NN xS).bind λv2=>
 bif(!v2)then(some (true,v1.Vols,v1.Arena.Knots,v1.Next))
 else((QZ xR).bind λv3=>
 bif(!v3)then(some (true,v1.Vols,v1.Arena.Knots,v1.Next))
 else((Nx v1 xR).bind λv4=>
 some ((!v4.1),v4.2.Vols,v4.2.Arena.Knots,v4.2.Next))):Option (Bool×List Vol×List BI×Int)).bind λj1=>
 bif j1.1 then((HZ xS).bind λv5=>
 some (v5,false))
 else((KO (Store.mk j1.2.1 (Arena.mk j1.2.2.1) j1.2.2.2)).bind λv6=>
 some (v6,true))
def Hz (xS:Store) (d:List Dk) (y1:Int) (a:List Vol) (b:List BI) (c:Int):Option ((Int×List Vol×List BI×Int)⊕((List Vol×List BI×Int)⊕((Store×Bool)))):=
 bif(decide (y1<(ln d)))then((gi d y1).bind λx1=>
 (VN (Store.mk a (Arena.mk b) c) x1).bind λv2=>
 bif(!v2.2)then((HZ xS).bind λv3=>
 some (.inr (.inr (v3,false))))
 else(some (.inl ((ad y1 1),v2.1.Vols,v2.1.Arena.Knots,v2.1.Next))))
 else(some (.inr (.inl (a,b,c))))
def OX (xS:Store) (a:List Dk):Option (Store×Bool):=
 (HZ xS).bind λv1=>
 (Av (λs:Int×List Vol×List BI×Int=>Hz xS a s.1 s.2.1 s.2.2.1 s.2.2.2) (0,v1.Vols,v1.Arena.Knots,v1.Next)).bind (Sum.elim (λv4=>(some ((Store.mk v4.1 (Arena.mk v4.2.1) v4.2.2),true))) some)
def Hy (v2:List A4) (y1:Int) (a:Int):Option ((Int×Int)⊕(Int)):=
 bif(decide (y1<(ln v2)))then((gi v2 y1).bind λx1=>
 bif(x1.Page.Kind==2)then(some (.inl ((ad y1 1),(if(ad x1.Page.Tx 1)>a then(ad x1.Page.Tx 1)else a))))
 else(some (.inl ((ad y1 1),a))))
 else(some (.inr a))
def Gb (v17:List Tx) (y2:Int) (a:List Vol) (b:List BI) (c:Int) (d:Int):Option ((Int×List Vol×List BI×Int×Int)⊕(List Vol×List BI×Int×Int)):=
 bif(decide (y2<(ln v17)))then((gi v17 y2).bind λx2=>
 (bif(y2==0)then(some x2.Num)
 else(some d):Option (Int)).bind λj2=>
 (OX (Store.mk a (Arena.mk b) c) x2.Recs).bind λv18=>
 bif v18.2 then(some (.inl ((ad y2 1),v18.1.Vols,v18.1.Arena.Knots,v18.1.Next,j2)))
 else(some (.inl ((ad y2 1),a,b,c,j2))))
 else(some (.inr (a,b,c,d)))
def K0 (xF:Flash):Option (Bc×Bool):=
 (Rb xF).bind λv1=>
 bif(!v1)then(some ((Bc.mk (Flash.mk []) (Store.mk [] (Arena.mk []) 0) 0 0 0),false))
 else((Hx xF).bind λv2=>
 ((Qo xF).bind λv4=>
 (OS).bind λv6=>
 (Ra xF).bind λv8=>
 some (v4.Blocks,v6.Vols,v6.Arena.Knots,v6.Next,(ad v8 1)):Option (List Block×List Vol×List BI×Int×Int)).bind λj1=>
 (Av (λs:Int×Int=>Hy v2 s.1 s.2) (0,1)).bind λv15=>
 (Tn v2).bind λv16=>
 (Nf v16).bind λv17=>
 (Av (λs:Int×List Vol×List BI×Int×Int=>Gb v17 s.1 s.2.1 s.2.2.1 s.2.2.2.1 s.2.2.2.2) (0,j1.2.1,j1.2.2.1,j1.2.2.2.1,0)).bind λv19=>
 some ((Bc.mk (Flash.mk j1.1) (Store.mk v19.1 (Arena.mk v19.2.1) v19.2.2.1) j1.2.2.2.2 v15 v19.2.2.2),true))
def Sa (xA:Arena) (b:Int) (a:Int):Option (Int):=
 (gi xA.Knots b).bind λx1=>
 (gi x1.Kids (qu a 4)).bind λx2=>
 bif(decide (x2<0))then(some 0)
 else((gi xA.Knots x2).bind λx3=>
 (gi x3.Kids (Int.tmod a 4)).bind λx4=>
 some x4)
def VM (xA:Arena) (b:Int) (a:Int):Option (Int):=
 ((Jc a 0 15).bind λv1=>
 bif(!v1)then(some true)
 else((G9 xA b).bind λv2=>
 bif(!v2)then(some true)
 else((I8 xA).bind λv3=>
 some (!v3))):Option (Bool)).bind λj1=>
 bif j1 then(some 0)
 else((Sa xA b a).bind λv4=>
 some v4)
def M8 (xA:Arena) (b:Int) (a:List Int) (y1:Int):Option ((List Int×Int)⊕(List Int)):=
 bif(decide (y1<16))then((VM xA b y1).bind λv1=>
 (ap 8 a [v1]).bind λq1=>
 some (.inl (q1,(ad y1 1))))
 else(some (.inr a))
def Rc (xA:Arena) (a:Int):Option (List Int):=
 (Av (λs:List Int×Int=>M8 xA a s.1 s.2) ([],0)).bind λv2=>
 some v2
def GD (v1:List Int) (v2:List Int) (y2:Int):Option ((Int)⊕((Unit)⊕((Int)⊕((Unit)⊕(Bool))))):=
 bif(decide (y2<(ln v2)))then((gi v2 y2).bind λx3=>
 (gi v1 y2).bind λx4=>
 bif(x3 !=x4)then(some (.inr (.inr (.inr (.inr false)))))
 else(some (.inl (ad y2 1))))
 else(some (.inr (.inl ())))
def GE (xA:Store) (xB:Store) (y1:Int):Option ((Int)⊕((Unit)⊕(Bool))):=
 bif(decide (y1<(ln xA.Vols)))then((gi xA.Vols y1).bind λx1=>
 (gi xB.Vols y1).bind λx2=>
 (Rc xB.Arena x2.Root).bind λv1=>
 bif(x1.Id !=x2.Id)then(some (.inr (.inr false)))
 else((Rc xA.Arena x1.Root).bind λv2=>
 (Av (λs:Int=>GD v1 v2 s) 0).bind (Sum.elim (λv3=>(some (.inl (ad y1 1)))) some)))
 else(some (.inr (.inl ())))
def Ng (xA:Store) (xB:Store):Option (Bool):=
 (bif((ln xA.Vols) !=(ln xB.Vols))then(some true)
 else(some (xA.Next !=xB.Next)):Option (Bool)).bind λj1=>
 bif j1 then(some false)
 else((Av (λs:Int=>GE xA xB s) 0).bind (Sum.elim (λv4=>(some true)) some))
def OY (xD:Bc):Option (Bool):=
 (K0 xD.Flash).bind λv1=>
 bif v1.2 then((NN xD.Store).bind λv2=>
 bif v2 then((Ng v1.1.Store xD.Store).bind λv3=>
 bif v3 then(bif(v1.1.Seq==xD.Seq)then(bif(v1.1.Tx==xD.Tx)then(some (v1.1.Base==xD.Base))
 else(some false))
 else(some false))
 else(some false))
 else(some false))
 else(some false)
def Jz (j:Int) (v1:List A4) (i:Bool) (y1:Int) (b:Int) (c:Int) (d:Int) (a:Int) (e:Int) (f:Int) (g:Int) (h:ByteArray):Option ((Bool×Int×Int×Int×Int×Int×Int×Int×Int×ByteArray)⊕(Bool×Int×Int×Int×Int×Int×Int×Int×ByteArray)):=
 bif(decide (y1<(ln v1)))then((gi v1 y1).bind λx1=>
 (bif(x1.Page.Kind==1)then(bif(x1.Page.Tx==j)then(bif(!i)then(some true)
 else(some (decide (x1.Page.Seq>=a))))
 else(some false))
 else(some false):Option (Bool)).bind λj1=>
 bif j1 then(some (.inl (true,(ad y1 1),x1.Block,x1.Leaf,x1.Page.Kind,x1.Page.Seq,x1.Page.Tx,x1.Page.Part,x1.Page.Count,x1.Page.Text)))
 else(some (.inl (i,(ad y1 1),b,c,d,a,e,f,g,h))))
 else(some (.inr (i,b,c,d,a,e,f,g,h)))
def Tk (xF:Flash) (a:Int):Option (A4×Bool):=
 (Hx xF).bind λv1=>
 (Av (λs:Bool×Int×Int×Int×Int×Int×Int×Int×Int×ByteArray=>Jz a v1 s.1 s.2.1 s.2.2.1 s.2.2.2.1 s.2.2.2.2.1 s.2.2.2.2.2.1 s.2.2.2.2.2.2.1 s.2.2.2.2.2.2.2.1 s.2.2.2.2.2.2.2.2.1 s.2.2.2.2.2.2.2.2.2) (false,0,0,0,0,0,0,0,0,(bs []))).bind λv2=>
 some ((A4.mk v2.2.1 v2.2.2.1 (Page.mk v2.2.2.2.1 v2.2.2.2.2.1 v2.2.2.2.2.2.1 v2.2.2.2.2.2.2.1 v2.2.2.2.2.2.2.2.1 v2.2.2.2.2.2.2.2.2)),v2.1)
def DJ (a:ByteArray) (b:List Bi):Option ((ByteArray×List Bi)⊕((List Bi)⊕((List Bi×Bool)))):=
 bif(!(seq a (bs [])))then((sx a 0).bind λx1=>
 (bif(decide ((IntKind.i64.wrap x1)>=128))then(some (decide ((Gi a)>=2)))
 else(some false):Option (Bool)).bind λj1=>
 bif j1 then((sx a 1).bind λx2=>
 (ap 32 b [(Bi.mk (IntKind.i64.wrap x2) (sb (IntKind.i64.wrap x1) 128) (bs []))]).bind λq1=>
 (sub a 2 (Gi a)).bind λx3=>
 some (.inl (x3,q1)))
 else((bif(decide ((IntKind.i64.wrap x1)<128))then(some (decide ((IntKind.i64.wrap x1)<(Gi a))))
 else(some false):Option (Bool)).bind λj2=>
 bif j2 then((sub a 1 (ad 1 (IntKind.i64.wrap x1))).bind λx4=>
 (ap 32 b [(Bi.mk 0 0 x4)]).bind λq2=>
 (sub a (ad 1 (IntKind.i64.wrap x1)) (Gi a)).bind λx5=>
 some (.inl (x5,q2)))
 else(some (.inr (.inr ([],false))))))
 else(some (.inr (.inl b)))
def OM (xT:ByteArray):Option (List Bi×Bool):=
 (Av (λs:ByteArray×List Bi=>DJ s.1 s.2) (xT,[])).bind (Sum.elim (λv1=>(some (v1,true))) some)
def OV (x1:Bi) (a:List Int) (y2:Int):Option ((List Int×Int)⊕(List Int)):=
 bif(decide (y2<x1.Size))then((gi a (sb (ln a) x1.Back)).bind λx2=>
 (ap 1 a [x2]).bind λq2=>
 some (.inl (q2,(ad y2 1))))
 else(some (.inr a))
def LR (b:List Bi) (a:List Int) (y1:Int):Option ((List Int×Int)⊕((List Int)⊕((ByteArray×Bool)))):=
 bif(decide (y1<(ln b)))then((gi b y1).bind λx1=>
 (bif(x1.Back==0)then((bif(x1.Size !=0)then(some true)
 else((Jc (Gi x1.Text) 1 31).bind λv1=>
 some (!v1)):Option (Bool)).bind λj2=>
 bif j2 then(some (.inr (.inr (.inr ((bs []),false)))))
 else((aps a x1.Text).bind λq1=>
 some (.inl q1)))
 else(((Jc x1.Back 1 (ln a)).bind λv2=>
 bif(!v2)then(some true)
 else((Jc x1.Size 1 31).bind λv3=>
 bif(!v3)then(some true)
 else(some (!(seq x1.Text (bs []))))):Option (Bool)).bind λj3=>
 bif j3 then(some (.inr (.inr (.inr ((bs []),false)))))
 else((Av (λs:List Int×Int=>OV x1 s.1 s.2) (a,0)).bind λv4=>
 some (.inl v4))):Option ((List Int)⊕((List Int×Int)⊕((List Int)⊕((ByteArray×Bool)))))).bind (Sum.elim (λj1=>(bif(decide ((ln j1)>64))then(some (.inr (.inr ((bs []),false))))
 else(some (.inl (j1,(ad y1 1)))))) some))
 else(some (.inr (.inl a)))
def NO (a:List Bi):Option (ByteArray×Bool):=
 (Av (λs:List Int×Int=>LR a s.1 s.2) ([],0)).bind (Sum.elim (λv5=>(some ((HC v5),true))) some)
def EO (xS:ByteArray) (c:Int) (b:Int) (a:Int):Option ((Int)⊕(Int)):=
 (bif(decide (a<31))then(bif(decide ((ad c a)<(Gi xS)))then((sx xS (ad b a)).bind λx1=>
 (sx xS (ad c a)).bind λx2=>
 some (x1==x2))
 else(some false))
 else(some false):Option (Bool)).bind λj1=>
 bif j1 then(some (.inl (ad a 1)))
 else(some (.inr a))
def He (xS:ByteArray) (d:Int) (b:Int) (c:Int) (a:Int):Option ((Int×Int×Int)⊕(Int×Int)):=
 bif(decide (a>=0))then((Av (λs:Int=>EO xS d a s) 0).bind λv1=>
 (bif(decide (v1>=4))then(some (decide (v1>b)))
 else(some false):Option (Bool)).bind λj2=>
 bif j2 then(some (.inl (v1,(sb d a),(sb a 1))))
 else(some (.inl (b,c,(sb a 1)))))
 else(some (.inr (b,c)))
def QX (xS:ByteArray) (a:Int):Option (Int×Int):=
 (Av (λs:Int×Int×Int=>He xS a s.1 s.2.1 s.2.2) (0,0,(sb a 1))).bind λv2=>
 some (v2.1,v2.2)
def KN (xS:ByteArray) (a:List Bi) (b:Int):Option ((List Bi×Int)⊕(List Bi)):=
 bif(decide (b<(Gi xS)))then((QX xS b).bind λv1=>
 bif(decide (v1.1>0))then((ap 32 a [(Bi.mk v1.2 v1.1 (bs []))]).bind λq1=>
 some (.inl (q1,(ad b v1.1))))
 else((bif(decide ((sb (ln a) 1)<0))then(some true)
 else((gi a (sb (ln a) 1)).bind λx1=>
 bif(decide (x1.Back>0))then(some true)
 else((gi a (sb (ln a) 1)).bind λx2=>
 some (decide ((Gi x2.Text)>=31)))):Option (Bool)).bind λj1=>
 (bif j1 then((ap 32 a [(Bi.mk 0 0 (bs []))]).bind λq2=>
 some (q2,(ad (sb (ln a) 1) 1)))
 else(some (a,(sb (ln a) 1))):Option (List Bi×Int)).bind λj2=>
 (gi j2.1 j2.2).bind λx3=>
 (sub xS b (ad b 1)).bind λx4=>
 (TB x3.Text x4).bind λx5=>
 (gi j2.1 j2.2).bind λx6=>
 some (.inl ((si j2.1 j2.2 (Bi.mk x6.Back x6.Size x5)),(ad b 1)))))
 else(some (.inr a))
def OQ (xS:ByteArray):Option (List Bi):=
 bif(decide ((Gi xS)>64))then(some [])
 else((Av (λs:List Bi×Int=>KN xS s.1 s.2) ([],0)).bind λv2=>
 some v2)
def IP (v1:List Bi) (a:List Int) (y1:Int):Option ((List Int×Int)⊕(List Int)):=
 bif(decide (y1<(ln v1)))then((gi v1 y1).bind λx1=>
 (bif(decide (x1.Back>0))then((ap 1 a [(IntKind.u8.wrap (ad 128 x1.Size)),(IntKind.u8.wrap x1.Back)]).bind λq1=>
 some q1)
 else((ap 1 a [(IntKind.u8.wrap (Gi x1.Text))]).bind λq4=>
 (aps q4 x1.Text).bind λq5=>
 some q5):Option (List Int)).bind λj1=>
 some (.inl (j1,(ad y1 1))))
 else(some (.inr a))
def M7 (xS:ByteArray):Option (ByteArray×Bool):=
 bif(decide ((Gi xS)>64))then(some ((bs []),false))
 else((OQ xS).bind λv1=>
 (Av (λs:List Int×Int=>IP v1 s.1 s.2) ([122],0)).bind λv2=>
 bif(decide ((ad (Gi xS) 1)<=(ln v2)))then((TB (bs [114]) xS).bind λx2=>
 some (x2,true))
 else(some ((HC v2),true)))
def LP (xT:ByteArray):Option (ByteArray×Bool):=
 bif(seq xT (bs []))then(some ((bs []),false))
 else((sub xT 1 (Gi xT)).bind λx1=>
 (sx xT 0).bind λx2=>
 (bif(x2 !=114)then((OM x1).bind λv1=>
 (NO v1.1).bind λv2=>
 bif(!v1.2)then(some (.inr ((bs []),false)))
 else(bif(!v2.2)then(some (.inr ((bs []),false)))
 else(some (.inl v2.1))))
 else(some (.inl x1)):Option ((ByteArray)⊕((ByteArray×Bool)))).bind (Sum.elim (λj1=>((M7 j1).bind λv3=>
 (bif(!v3.2)then(some true)
 else(some (!(seq v3.1 xT))):Option (Bool)).bind λj2=>
 bif j2 then(some ((bs []),false))
 else(some (j1,true)))) some))
def Ln (xF:Flash) (a:Int):Option (ByteArray×Bool):=
 (Tk xF a).bind λv1=>
 bif(!v1.2)then(some ((bs []),false))
 else((LP v1.1.Page.Text).bind λv2=>
 some (v2.1,v2.2))
def Ie (xB:Block) (a:Int) (y1:Int):Option ((Int×Int)⊕(Int)):=
 bif(decide (y1<(ln xB.Leaves)))then((gi xB.Leaves y1).bind λx1=>
 bif(x1.Is==0)then(some (.inl ((ad a 1),(ad y1 1))))
 else(some (.inl (a,(ad y1 1)))))
 else(some (.inr a))
def NM (xB:Block):Option (Int):=
 (Av (λs:Int×Int=>Ie xB s.1 s.2) (0,0)).bind λv1=>
 some v1
def Nh (xF:Flash) (a:Int) (y1:Int):Option ((Int×Int)⊕(Int)):=
 bif(decide (y1<(ln xF.Blocks)))then((gi xF.Blocks y1).bind λx1=>
 bif(!x1.Bad)then((NM x1).bind λv1=>
 some (.inl ((ad a v1),(ad y1 1))))
 else(some (.inl (a,(ad y1 1)))))
 else(some (.inr a))
def fF (xF:Flash):Option (Int):=
 (Av (λs:Int×Int=>Nh xF s.1 s.2) (0,0)).bind λv2=>
 some v2
def IW (xF:Flash) (a:List Int) (y1:Int):Option ((List Int×Int)⊕(List Int)):=
 bif(decide (y1<(ln xF.Blocks)))then((gi xF.Blocks y1).bind λx1=>
 (bif(!x1.Bad)then((NM x1).bind λv1=>
 some (v1==(ln x1.Leaves)))
 else(some false):Option (Bool)).bind λj1=>
 bif j1 then((ap 8 a [y1]).bind λq1=>
 some (.inl (q1,(ad y1 1))))
 else(some (.inl (a,(ad y1 1)))))
 else(some (.inr a))
def To (xF:Flash):Option (List Int):=
 (Av (λs:List Int×Int=>IW xF s.1 s.2) ([],0)).bind λv2=>
 some v2
def KU (a:List Int):Option (Bool):=
 (Wd a).bind λv1=>
 bif v1 then(some true)
 else((LM a).bind λv2=>
 (IJ v2.Flash).bind λv3=>
 bif(decide (v3<4))then((OY v2).bind λv4=>
 some v4)
 else((Dp (bs [111,114,112,104,97,110])).bind λv5=>
 (Dp (bs [110,101,119,101,114])).bind λv6=>
 (Dh v2 [(Dk.mk 4 1 0 v2.Store.Next)] v5.1).bind λv7=>
 ((dr v7.1 0 1).bind λx1=>
 (Mb v2.Flash x1).bind λv9=>
 some v9.1.Blocks:Option (List Block)).bind λj1=>
 (K0 (Flash.mk j1)).bind λv11=>
 (Dh v11.1 [(Dk.mk 4 1 0 v2.Store.Next)] v6.1).bind λv12=>
 (Mb v11.1.Flash v12.1).bind λv13=>
 (K0 v13.1).bind λv14=>
 (Ln v14.1.Flash v2.Store.Next).bind λv15=>
 bif v7.2 then(bif v11.2 then(bif v12.2 then(bif v14.2 then((Lb v11.1.Store v2.Store).bind λv16=>
 bif v16 then(bif(v11.1.Seq==(ad v2.Seq 1))then(bif v15.2 then(some (seq v15.1 (bs [110,101,119,101,114])))
 else(some false))
 else(some false))
 else(some false))
 else(some false))
 else(some false))
 else(some false))
 else(some false)))
end
end Go.TI
