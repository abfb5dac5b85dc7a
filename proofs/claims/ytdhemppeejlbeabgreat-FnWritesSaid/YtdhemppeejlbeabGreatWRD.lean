/- What functions of the given program compute. No condition. -/
import Derived.Test.YtdhemppeejlbeabGreatWRT5
namespace Go.TI
open Go
noncomputable section
structure Y7 where
 Kind:Int
 Vol:Int
 Sector:Int
 Of:Int
 Text:ByteArray
structure Shelf where
 Vol:Int
 Texts:List ByteArray
structure Bu where
 Kind:Int
 Block:Int
 Leaf:Int
 Text:ByteArray
structure Leaf where
 Is:Int
 Text:ByteArray
structure Block where
 Bad:Bool
 Wear:Int
 Leaves:List Leaf
structure Flash where
 Blocks:List Block
structure Vol where
 Id:Int
 Root:Int
structure BL where
 Leaf:Bool
 Kids:List Int
structure Arena where
 Knots:List BL
structure Store where
 Vols:List Vol
 Arena:Arena
 Next:Int
structure Bc where
 Flash:Flash
 Store:Store
 Seq:Int
 Tx:Int
 Base:Int
structure De where
 Kind:Int
 Vol:Int
 Arg:Int
 Chunk:Int
structure World where
 Bc:Bc
 Codes:List Int
 Told:List ByteArray
 Model:List Shelf
 Steps:List Bu
structure Ce where
 b_:List Int
 i_:Int
 h_:Int
structure E0 where
 text_:ByteArray
 at_:Int
 bad_:Bool
structure Page where
 Kind:Int
 Seq:Int
 Tx:Int
 Part:Int
 Count:Int
 Text:ByteArray
structure A8 where
 Block:Int
 Leaf:Int
 Page:Page
structure Tx where
 Num:Int
 Seq:Int
 Recs:List De
structure Bp where
 Back:Int
 Size:Int
 Text:ByteArray
structure LY where
 f_:Flash
 steps_:List Bu
def BX (xX:Int) (a:Int) (b:Int):Option (Bool):=
 bif(decide (xX>=a))then(some (decide (xX<=b)))
 else(some false)
def Wr (xQ:Y7):Option (Bool):=
 ((BX xQ.Kind 1 6).bind λv1=>
 bif(!v1)then(some true)
 else((BX xQ.Vol 1 9).bind λv2=>
 bif(!v2)then(some true)
 else(bif(decide ((Fz xQ.Text)>64))then(some true)
 else(bif(xQ.Kind !=1)then(some (!(seq xQ.Text (bs []))))
 else(some false)))):Option (Bool)).bind λj1=>
 bif j1 then(some false)
 else(bif(xQ.Kind==4)then((bif(xQ.Sector==0)then((BX xQ.Of 1 9).bind λv3=>
 some v3)
 else(some false):Option (Bool)).bind λj2=>
 some j2)
 else(bif(xQ.Of !=0)then(some false)
 else((bif(xQ.Kind==3)then(some true)
 else(some (xQ.Kind==5)):Option (Bool)).bind λj3=>
 bif j3 then(some (xQ.Sector==0))
 else((BX xQ.Sector 0 15).bind λv4=>
 some v4))))
def HF (xN:Int) (b:Int) (a:Int):Option (Bool):=
 bif(decide (xN>=b))then(some (decide (xN<=a)))
 else(some false)
def IZ (xN:Int) (b:Int) (a:List Block):Option ((Int×List Block)⊕(List Block)):=
 bif(decide (b<xN))then((mk 24 (Leaf.mk 0 (bs [])) 4).bind λq1=>
 (ap 40 a [(Block.mk false 0 q1)]).bind λq2=>
 some (.inl ((ad b 1),q2)))
 else(some (.inr a))
def OS (xN:Int):Option (Flash×Bool):=
 (BX xN 3 10).bind λv1=>
 bif(!v1)then(some ((Flash.mk []),false))
 else((Au (λs:Int×List Block=>IZ xN s.1 s.2) (0,[])).bind λv2=>
 some ((Flash.mk v2),true))
def JW (xF:Flash) (b:Int) (a:List Block):Option ((Int×List Block)⊕(List Block)):=
 bif(decide (b<(ln xF.Blocks)))then((gi xF.Blocks b).bind λx1=>
 (ap 24 [] x1.Leaves).bind λq1=>
 (ap 40 a [(Block.mk x1.Bad x1.Wear q1)]).bind λq2=>
 some (.inl ((ad b 1),q2)))
 else(some (.inr a))
def EL (xF:Flash):Option (Flash):=
 (Au (λs:Int×List Block=>JW xF s.1 s.2) (0,[])).bind λv1=>
 some (Flash.mk v1)
def Ms (xX:Leaf):Option (Bool):=
 bif(xX.Is==0)then(some (seq xX.Text (bs [])))
 else(bif(xX.Is==1)then((BX (Fz xX.Text) 1 120).bind λv1=>
 some v1)
 else(bif(xX.Is==2)then(some (decide ((Fz xX.Text)<=120)))
 else(some false)))
def Eg (x1:Block) (a:Int):Option ((Int)⊕((Unit)⊕((Int)⊕((Unit)⊕(Bool))))):=
 bif(decide (a<(ln x1.Leaves)))then(((gi x1.Leaves a).bind λx2=>
 (Ms x2).bind λv2=>
 bif(!v2)then(some true)
 else(bif(decide (a>0))then((gi x1.Leaves (sb a 1)).bind λx3=>
 bif(x3.Is==0)then((gi x1.Leaves a).bind λx4=>
 some (x4.Is !=0))
 else(some false))
 else(some false)):Option (Bool)).bind λj2=>
 bif j2 then(some (.inr (.inr (.inr (.inr false)))))
 else(some (.inl (ad a 1))))
 else(some (.inr (.inl ())))
def Eh (xF:Flash) (a:Int):Option ((Int)⊕((Unit)⊕(Bool))):=
 bif(decide (a<(ln xF.Blocks)))then((gi xF.Blocks a).bind λx1=>
 (bif((ln x1.Leaves) !=4)then(some true)
 else((BX x1.Wear 0 1000000000).bind λv1=>
 some (!v1)):Option (Bool)).bind λj1=>
 bif j1 then(some (.inr (.inr false)))
 else((Au (λs:Int=>Eg x1 s) 0).bind (Sum.elim (λv3=>(some (.inl (ad a 1)))) some)))
 else(some (.inr (.inl ())))
def FN (xF:Flash):Option (Bool):=
 (Au (λs:Int=>Eh xF s) 0).bind (Sum.elim (λv4=>((BX (ln xF.Blocks) 3 10).bind λv5=>
 some v5)) some)
def Ef (xB:Block) (a:Int):Option ((Int)⊕((Unit)⊕(Int))):=
 bif(decide (a<(ln xB.Leaves)))then((gi xB.Leaves a).bind λx1=>
 bif(x1.Is==0)then(some (.inr (.inr a)))
 else(some (.inl (ad a 1))))
 else(some (.inr (.inl ())))
def Gb (xB:Block):Option (Int):=
 (Au (λs:Int=>Ef xB s) 0).bind (Sum.elim (λv1=>(some 4)) some)
def Ty (xF:Flash) (xB:Int) (a:Int) (b:ByteArray):Option (Bool):=
 (BX xB 0 (sb (ln xF.Blocks) 1)).bind λv1=>
 bif v1 then((gi xF.Blocks xB).bind λx1=>
 bif(!x1.Bad)then(bif(decide (a<4))then((gi xF.Blocks xB).bind λx2=>
 (Gb x2).bind λv2=>
 bif(a==v2)then((BX (Fz b) 1 120).bind λv3=>
 some v3)
 else(some false))
 else(some false))
 else(some false))
 else(some false)
def KF (xF:Flash) (xB:Int) (a:Int) (b:ByteArray):Option (Flash×Bool):=
 (EL xF).bind λv1=>
 ((FN xF).bind λv2=>
 bif(!v2)then(some true)
 else((Ty xF xB a b).bind λv3=>
 some (!v3)):Option (Bool)).bind λj1=>
 bif j1 then(some (v1,false))
 else((gi v1.Blocks xB).bind λx1=>
 (gi x1.Leaves a).bind λx2=>
 some ((Flash.mk (si v1.Blocks xB (Block.mk x1.Bad x1.Wear (si x1.Leaves a (Leaf.mk 1 b))))),true))
def Sy (xF:Flash) (xB:Int):Option (Flash×Bool):=
 (EL xF).bind λv1=>
 ((FN xF).bind λv2=>
 bif(!v2)then(some true)
 else((BX xB 0 (sb (ln xF.Blocks) 1)).bind λv3=>
 bif(!v3)then(some true)
 else((gi xF.Blocks xB).bind λx1=>
 bif x1.Bad then(some true)
 else((gi xF.Blocks xB).bind λx2=>
 some (x2.Wear==1000000000)))):Option (Bool)).bind λj1=>
 bif j1 then(some (v1,false))
 else((gi xF.Blocks xB).bind λx3=>
 (mk 24 (Leaf.mk 0 (bs [])) 4).bind λq1=>
 (gi v1.Blocks xB).bind λx4=>
 some ((Flash.mk (si v1.Blocks xB (Block.mk false (ad x3.Wear 1) q1))),true))
def Ja (xF:Flash) (xS:Bu):Option (Flash×Bool):=
 bif(xS.Kind==1)then((KF xF xS.Block xS.Leaf xS.Text).bind λv1=>
 some (v1.1,v1.2))
 else(bif(xS.Kind==2)then((Sy xF xS.Block).bind λv2=>
 some (v2.1,v2.2))
 else((EL xF).bind λv3=>
 some (v3,false)))
def D5 (b:List Bu) (c:Int) (a:List Block):Option ((Int×List Block)⊕((List Block)⊕((Flash×Int)))):=
 bif(decide (c<(ln b)))then(((gi b c).bind λx1=>
 (Ja (Flash.mk a) x1).bind λv3=>
 some (v3.2,v3.1.Blocks):Option (Bool×List Block)).bind λj1=>
 bif(!j1.1)then(some (.inr (.inr ((Flash.mk a),c))))
 else(some (.inl ((ad c 1),j1.2))))
 else(some (.inr (.inl a)))
def H1 (xF:Flash) (a:List Bu):Option (Flash×Int):=
 (EL xF).bind λv1=>
 (Au (λs:Int×List Block=>D5 a s.1 s.2) (0,v1.Blocks)).bind (Sum.elim (λv5=>(some ((Flash.mk v5),(ln a)))) some)
def Lf:Option (List Leaf):=
 (mk 24 (Leaf.mk 0 (bs [])) 4).bind λq1=>
 some q1
def QP (xF:Flash) (y1:Int) (a:List Block):Option ((Int×List Block)⊕(List Block)):=
 bif(decide (y1<(ln xF.Blocks)))then((gi xF.Blocks y1).bind λx1=>
 (ap 24 [] x1.Leaves).bind λq1=>
 (ap 40 a [(Block.mk x1.Bad x1.Wear q1)]).bind λq2=>
 some (.inl ((ad y1 1),q2)))
 else(some (.inr a))
def Il (xF:Flash):Option (Flash):=
 (Au (λs:Int×List Block=>QP xF s.1 s.2) (0,[])).bind λv1=>
 some (Flash.mk v1)
def gL (xX:Leaf):Option (Bool):=
 bif(xX.Is==0)then(some (seq xX.Text (bs [])))
 else(bif(xX.Is==1)then((HF (Fz xX.Text) 1 120).bind λv1=>
 some v1)
 else(bif(xX.Is==2)then(some (decide ((Fz xX.Text)<=120)))
 else(some false)))
def Ml (x1:Block) (y2:Int):Option ((Int)⊕((Unit)⊕((Int)⊕((Unit)⊕(Bool))))):=
 bif(decide (y2<(ln x1.Leaves)))then((gi x1.Leaves y2).bind λx2=>
 ((gL x2).bind λv2=>
 bif(!v2)then(some true)
 else(bif(decide (y2>0))then((gi x1.Leaves (sb y2 1)).bind λx3=>
 bif(x3.Is==0)then(some (x2.Is !=0))
 else(some false))
 else(some false)):Option (Bool)).bind λj2=>
 bif j2 then(some (.inr (.inr (.inr (.inr false)))))
 else(some (.inl (ad y2 1))))
 else(some (.inr (.inl ())))
def Mm (xF:Flash) (y1:Int):Option ((Int)⊕((Unit)⊕(Bool))):=
 bif(decide (y1<(ln xF.Blocks)))then((gi xF.Blocks y1).bind λx1=>
 (bif((ln x1.Leaves) !=4)then(some true)
 else((HF x1.Wear 0 1000000000).bind λv1=>
 some (!v1)):Option (Bool)).bind λj1=>
 bif j1 then(some (.inr (.inr false)))
 else((Au (λs:Int=>Ml x1 s) 0).bind (Sum.elim (λv3=>(some (.inl (ad y1 1)))) some)))
 else(some (.inr (.inl ())))
def Mx (xF:Flash):Option (Bool):=
 (Au (λs:Int=>Mm xF s) 0).bind (Sum.elim (λv4=>((HF (ln xF.Blocks) 3 10).bind λv5=>
 some v5)) some)
def QL (xF:Flash) (xB:Int):Option (Bool):=
 (Mx xF).bind λv1=>
 bif v1 then((HF xB 0 (sb (ln xF.Blocks) 1)).bind λv2=>
 bif v2 then((gi xF.Blocks xB).bind λx1=>
 some (!x1.Bad))
 else(some false))
 else(some false)
def QT (xB:Block) (y1:Int):Option ((Int)⊕((Unit)⊕(Int))):=
 bif(decide (y1<(ln xB.Leaves)))then((gi xB.Leaves y1).bind λx1=>
 bif(x1.Is==0)then(some (.inr (.inr y1)))
 else(some (.inl (ad y1 1))))
 else(some (.inr (.inl ())))
def N9 (xB:Block):Option (Int):=
 (Au (λs:Int=>QT xB s) 0).bind (Sum.elim (λv1=>(some 4)) some)
def RB (xF:Flash) (xB:Int) (a:Int) (b:ByteArray):Option (Flash×Bool):=
 (Il xF).bind λv1=>
 ((QL xF xB).bind λv2=>
 bif(!v2)then(some true)
 else((HF a 0 3).bind λv3=>
 bif(!v3)then(some true)
 else((gi xF.Blocks xB).bind λx1=>
 (N9 x1).bind λv4=>
 bif(a !=v4)then(some true)
 else((HF (Fz b) 1 120).bind λv5=>
 some (!v5)))):Option (Bool)).bind λj1=>
 bif j1 then(some (v1,false))
 else((gi v1.Blocks xB).bind λx2=>
 (gi x2.Leaves a).bind λx3=>
 some ((Flash.mk (si v1.Blocks xB (Block.mk x2.Bad x2.Wear (si x2.Leaves a (Leaf.mk 1 b))))),true))
def dA (xF:Flash) (xB:Int):Option (Flash×Bool):=
 (Il xF).bind λv1=>
 ((QL xF xB).bind λv2=>
 bif(!v2)then(some true)
 else((gi xF.Blocks xB).bind λx1=>
 some (x1.Wear==1000000000)):Option (Bool)).bind λj1=>
 bif j1 then(some (v1,false))
 else((Lf).bind λv3=>
 (gi v1.Blocks xB).bind λx2=>
 (gi (si v1.Blocks xB (Block.mk x2.Bad x2.Wear v3)) xB).bind λx3=>
 (gi (si v1.Blocks xB (Block.mk x2.Bad x2.Wear v3)) xB).bind λx4=>
 some ((Flash.mk (si (si v1.Blocks xB (Block.mk x2.Bad x2.Wear v3)) xB (Block.mk x4.Bad (ad x3.Wear 1) x4.Leaves))),true))
def QV (xF:Flash) (xS:Bu):Option (Flash×Bool):=
 bif(xS.Kind==1)then((RB xF xS.Block xS.Leaf xS.Text).bind λv1=>
 some (v1.1,v1.2))
 else(bif(xS.Kind==2)then((dA xF xS.Block).bind λv2=>
 some (v2.1,v2.2))
 else((Il xF).bind λv3=>
 some (v3,false)))
def Km (b:List Bu) (y1:Int) (a:List Block):Option ((Int×List Block)⊕((List Block)⊕((Flash×Int)))):=
 bif(decide (y1<(ln b)))then((gi b y1).bind λx1=>
 (QV (Flash.mk a) x1).bind λv2=>
 bif(!v2.2)then(some (.inr (.inr ((Flash.mk a),y1))))
 else(some (.inl ((ad y1 1),v2.1.Blocks))))
 else(some (.inr (.inl a)))
def RF (xF:Flash) (a:List Bu):Option (Flash×Int):=
 (Il xF).bind λv1=>
 (Au (λs:Int×List Block=>Km a s.1 s.2) (0,v1.Blocks)).bind (Sum.elim (λv3=>(some ((Flash.mk v3),(ln a)))) some)
def WG (a:List Int):Option (Bool):=
 some (decide ((ln a)>1048576))
def J7 (a:List Int) (c:Int) (b:Int):Option ((Int×Int)⊕(Int)):=
 (bif(decide (b<(ln a)))then(some (decide (b<4000)))
 else(some false):Option (Bool)).bind λj1=>
 bif j1 then((gi a b).bind λx1=>
 some (.inl ((ban .i64 (ad (ad (ml c 131) (IntKind.i64.wrap x1)) 7) 1073741823),(ad b 1))))
 else(some (.inr c))
def Qq (a:List Int):Option (Ce):=
 (Au (λs:Int×Int=>J7 a s.1 s.2) ((ad 36501 (ln a)),0)).bind λv1=>
 some (Ce.mk a 0 v1)
def J8 (xC:Ce):Option (Int×Ce):=
 bif(decide (xC.i_<(ln xC.b_)))then((gi xC.b_ xC.i_).bind λx1=>
 some ((ban .i64 (ad (ban .i64 (bxo .i64 (Int.fdiv (ad (ml xC.h_ 6364136223846793005) 1442695040888963407) (2^(min (33:Int).toNat IntKind.i64.bits))) (Int.fdiv (ad (ml xC.h_ 6364136223846793005) 1442695040888963407) (2^(min (45:Int).toNat IntKind.i64.bits)))) 255) (IntKind.i64.wrap x1)) 255),(Ce.mk xC.b_ (ad xC.i_ 1) (ad (ml xC.h_ 6364136223846793005) 1442695040888963407))))
 else(some ((ban .i64 (bxo .i64 (Int.fdiv (ad (ml xC.h_ 6364136223846793005) 1442695040888963407) (2^(min (33:Int).toNat IntKind.i64.bits))) (Int.fdiv (ad (ml xC.h_ 6364136223846793005) 1442695040888963407) (2^(min (45:Int).toNat IntKind.i64.bits)))) 255),(Ce.mk xC.b_ xC.i_ (ad (ml xC.h_ 6364136223846793005) 1442695040888963407))))
def DS (xC:Ce) (xN:Int):Option (Int×Ce):=
 bif(decide (xN<=0))then(some (0,xC))
 else(bif(decide (xN<=256))then((J8 xC).bind λv1=>
 (rm .i64 v1.1 xN).bind λx1=>
 some (x1,v1.2))
 else((J8 xC).bind λv2=>
 (J8 v2.2).bind λv3=>
 (J8 v3.2).bind λv4=>
 (J8 v4.2).bind λv5=>
 (rm .i64 (ad (ad (ad (ml v2.1 16777216) (ml v3.1 65536)) (ml v4.1 256)) v5.1) xN).bind λx2=>
 some (x2,v5.2)))
def OP (xF:Flash) (xB:Int) (a:Int):Option (ByteArray×Bool):=
 ((BX xB 0 (sb (ln xF.Blocks) 1)).bind λv1=>
 bif(!v1)then(some true)
 else((gi xF.Blocks xB).bind λx1=>
 (BX a 0 (sb (ln x1.Leaves) 1)).bind λv2=>
 bif(!v2)then(some true)
 else((gi xF.Blocks xB).bind λx2=>
 (gi x2.Leaves a).bind λx3=>
 some (x3.Is !=1))):Option (Bool)).bind λj1=>
 bif j1 then(some ((bs []),false))
 else((gi xF.Blocks xB).bind λx4=>
 (gi x4.Leaves a).bind λx5=>
 some (x5.Text,true))
def I5 (a:Int) (b:Int):Option ((Int×Int)⊕(Int)):=
 bif(decide (b<8))then(bif((Int.tmod a 2)==1)then(some (.inl ((xr (IntKind.u32.wrap (Int.tdiv a 2)) 3558460437),(ad b 1))))
 else(some (.inl ((IntKind.u32.wrap (Int.tdiv a 2)),(ad b 1)))))
 else(some (.inr a))
def JY (a:ByteArray) (b:Int) (c:Int):Option ((Int×Int)⊕(Int)):=
 bif(decide (c<(Fz a)))then((sx a c).bind λx1=>
 (Au (λs:Int×Int=>I5 s.1 s.2) ((xr b (IntKind.u32.wrap x1)),0)).bind λv1=>
 some (.inl (v1,(ad c 1))))
 else(some (.inr b))
def Rt (b:Int) (a:ByteArray):Option (Int):=
 (Au (λs:Int×Int=>JY a s.1 s.2) (b,0)).bind λv2=>
 some v2
def Nu (a:ByteArray):Option (Int):=
 (Rt 4294967295 a).bind λv1=>
 some v1
def KC (xX:Int):Option (ByteArray):=
 some (EG [(IntKind.u8.wrap (Int.fdiv xX (2^(min (24:Int).toNat IntKind.u32.bits)))),(IntKind.u8.wrap (Int.fdiv xX (2^(min (16:Int).toNat IntKind.u32.bits)))),(IntKind.u8.wrap (Int.fdiv xX (2^(min (8:Int).toNat IntKind.u32.bits)))),(IntKind.u8.wrap xX)])
def KD (a:ByteArray):Option (ByteArray×Bool):=
 (bif(decide ((sb (Fz a) 4)<0))then(some true)
 else(bif(decide ((sb (Fz a) 4)>20000))then(some true)
 else((sub a (sb (Fz a) 4) (Fz a)).bind λx1=>
 (sub a 0 (sb (Fz a) 4)).bind λx2=>
 (Nu x2).bind λv1=>
 (KC v1).bind λv2=>
 some (!(seq x1 v2)))):Option (Bool)).bind λj1=>
 bif j1 then(some ((bs []),false))
 else((sub a 0 (sb (Fz a) 4)).bind λx3=>
 some (x3,true))
def HY (b:Int) (a:List Int):Option ((Int×List Int)⊕(Int×List Int)):=
 bif(decide (b>127))then((ap 1 a [(IntKind.u8.wrap (ad (Int.tmod b 128) 128))]).bind λq1=>
 some (.inl ((qu b 128),q1)))
 else(some (.inr (b,a)))
def Hm (xN:Int):Option (ByteArray):=
 (Au (λs:Int×List Int=>HY s.1 s.2) (xN,[])).bind λv1=>
 (ap 1 v1.2 [(IntKind.u8.wrap v1.1)]).bind λq2=>
 some (EG q2)
def DP (b:ByteArray) (e:Int) (d:Int) (a:Int) (c:Int):Option ((Int×Int×Int)⊕((Unit)⊕((Int×Int×Bool)))):=
 (bif(decide (c<(Fz b)))then(some (decide (c<(ad e 5))))
 else(some false):Option (Bool)).bind λj1=>
 bif j1 then((sx b c).bind λx1=>
 (sx b c).bind λx2=>
 bif(decide (x2<128))then((bif(decide ((ad d (ml (Int.tmod (IntKind.i64.wrap x1) 128) a))>1000000000))then(some true)
 else((sub b e (ad c 1)).bind λx3=>
 (Hm (ad d (ml (Int.tmod (IntKind.i64.wrap x1) 128) a))).bind λv2=>
 some (!(seq v2 x3))):Option (Bool)).bind λj2=>
 bif j2 then(some (.inr (.inr (0,0,false))))
 else(some (.inr (.inr ((ad d (ml (Int.tmod (IntKind.i64.wrap x1) 128) a)),(ad c 1),true)))))
 else(some (.inl ((ad d (ml (Int.tmod (IntKind.i64.wrap x1) 128) a)),(ml a 128),(ad c 1)))))
 else(some (.inr (.inl ())))
def JA (a:ByteArray) (b:Int):Option (Int×Int×Bool):=
 (BX b 0 (Fz a)).bind λv1=>
 bif(!v1)then(some (0,0,false))
 else((Au (λs:Int×Int×Int=>DP a b s.1 s.2.1 s.2.2) (0,1,b)).bind (Sum.elim (λv3=>(some (0,0,false))) some))
def Du (xC:E0):Option (Int×E0):=
 (JA xC.text_ xC.at_).bind λv1=>
 (bif xC.bad_ then(some true)
 else(some (!v1.2.2)):Option (Bool)).bind λj1=>
 bif j1 then(some (0,(E0.mk xC.text_ xC.at_ true)))
 else(some (v1.1,(E0.mk xC.text_ v1.2.1 xC.bad_)))
def Kc (xP:Page):Option (Bool):=
 ((BX xP.Kind 1 2).bind λv1=>
 bif(!v1)then(some true)
 else((BX xP.Seq 1 1000000000).bind λv2=>
 bif(!v2)then(some true)
 else((BX xP.Tx 1 1000000000).bind λv3=>
 bif(!v3)then(some true)
 else((BX xP.Count 1 9).bind λv4=>
 bif(!v4)then(some true)
 else((BX xP.Part 0 (sb xP.Count 1)).bind λv5=>
 bif(!v5)then(some true)
 else(some (decide ((Fz xP.Text)>90))))))):Option (Bool)).bind λj1=>
 bif j1 then(some false)
 else(bif(xP.Kind==2)then(some true)
 else(some (xP.Count==1)))
def J4 (xN:Int):Option (ByteArray):=
 some (EG [(IntKind.u8.wrap xN)])
def JZ (a:ByteArray):Option (ByteArray×Bool):=
 bif(decide ((Fz a)>20000))then(some ((bs []),false))
 else((Nu a).bind λv1=>
 (KC v1).bind λv2=>
 (HO a v2).bind λx1=>
 some (x1,true))
def Ez (xP:Page):Option (ByteArray×Bool):=
 (Kc xP).bind λv1=>
 bif(!v1)then(some ((bs []),false))
 else((J4 xP.Kind).bind λv2=>
 (Hm xP.Seq).bind λv3=>
 (HO v2 v3).bind λx1=>
 (Hm xP.Tx).bind λv4=>
 (HO x1 v4).bind λx2=>
 (Hm xP.Part).bind λv5=>
 (HO x2 v5).bind λx3=>
 (Hm xP.Count).bind λv6=>
 (HO x3 v6).bind λx4=>
 (HO x4 xP.Text).bind λx5=>
 (JZ x5).bind λv7=>
 some (v7.1,v7.2))
def Fq (xT:ByteArray):Option (Page×Bool):=
 (KD xT).bind λv1=>
 (bif(!v1.2)then(some true)
 else(some (decide ((Fz v1.1)<1))):Option (Bool)).bind λj1=>
 (Du (E0.mk v1.1 1 j1)).bind λv2=>
 (Du v2.2).bind λv3=>
 (Du v3.2).bind λv4=>
 (Du v4.2).bind λv5=>
 bif v5.2.bad_ then(some ((Page.mk 0 0 0 0 0 (bs [])),false))
 else((sx v1.1 0).bind λx1=>
 (sub v1.1 v5.2.at_ (Fz v1.1)).bind λx2=>
 (Ez (Page.mk (IntKind.i64.wrap x1) v2.1 v3.1 v4.1 v5.1 x2)).bind λv6=>
 (bif(!v6.2)then(some true)
 else(some (!(seq v6.1 xT))):Option (Bool)).bind λj2=>
 bif j2 then(some ((Page.mk 0 0 0 0 0 (bs [])),false))
 else(some ((Page.mk (IntKind.i64.wrap x1) v2.1 v3.1 v4.1 v5.1 x2),true)))
def EX (xF:Flash) (c:Int) (a:List A8) (b:Int):Option ((List A8×Int)⊕(List A8)):=
 (gi xF.Blocks c).bind λx1=>
 bif(decide (b<(ln x1.Leaves)))then((OP xF c b).bind λv1=>
 (Fq v1.1).bind λv2=>
 (bif v1.2 then(some v2.2)
 else(some false):Option (Bool)).bind λj1=>
 bif j1 then((ap 72 a [(A8.mk c b v2.1)]).bind λq1=>
 some (.inl (q1,(ad b 1))))
 else(some (.inl (a,(ad b 1)))))
 else(some (.inr a))
def EA (xF:Flash) (a:List A8) (b:Int):Option ((List A8×Int)⊕(List A8)):=
 bif(decide (b<(ln xF.Blocks)))then((Au (λs:List A8×Int=>EX xF b s.1 s.2) (a,0)).bind λv3=>
 some (.inl (v3,(ad b 1))))
 else(some (.inr a))
def Ka (a:List A8) (b:Int):Option ((List A8×Int)⊕(List A8)):=
 (bif(decide (b>0))then((gi a (sb b 1)).bind λx2=>
 (gi a b).bind λx3=>
 some (decide (x2.Page.Seq>x3.Page.Seq)))
 else(some false):Option (Bool)).bind λj2=>
 bif j2 then((gi a b).bind λx4=>
 (gi a (sb b 1)).bind λx5=>
 (gi a b).bind λx6=>
 (gi (si a b x5) (sb b 1)).bind λx7=>
 some (.inl ((si (si a b x5) (sb b 1) x4),(sb b 1))))
 else(some (.inr a))
def Kb (a:List A8) (b:Int):Option ((List A8×Int)⊕(List A8)):=
 bif(decide (b<(ln a)))then((Au (λs:List A8×Int=>Ka s.1 s.2) (a,b)).bind λv5=>
 some (.inl (v5,(ad b 1))))
 else(some (.inr a))
def GB (xF:Flash):Option (List A8):=
 (Au (λs:List A8×Int=>EA xF s.1 s.2) ([],0)).bind λv4=>
 (Au (λs:List A8×Int=>Kb s.1 s.2) (v4,1)).bind λv6=>
 some v6
def ME:Option (Store):=
 some (Store.mk [] (Arena.mk []) 1)
def Nw (xR:De):Option (Bool):=
 (BX xR.Arg 0 1000000000).bind λv1=>
 bif(!v1)then(some false)
 else(bif(xR.Kind==1)then((bif(xR.Vol==0)then(some (xR.Chunk==0))
 else(some false):Option (Bool)).bind λj1=>
 some j1)
 else(((BX xR.Kind 2 5).bind λv2=>
 bif(!v2)then(some true)
 else((BX xR.Vol 1 9).bind λv3=>
 bif(!v3)then(some true)
 else(bif(xR.Kind !=4)then(some (xR.Chunk !=0))
 else(some false))):Option (Bool)).bind λj2=>
 bif j2 then(some false)
 else(bif(xR.Kind==2)then(some (decide (xR.Arg<=9)))
 else(bif(xR.Kind==3)then(some (xR.Arg==0))
 else(bif(xR.Kind==4)then(bif(decide (xR.Arg<16))then((BX xR.Chunk 1 1000000000).bind λv4=>
 some v4)
 else(some false))
 else(some (decide (xR.Arg<16))))))))
def DM (xT:ByteArray) (a:List De) (y01:ByteArray) (y11:Int) (y21:Bool):Option ((List De×ByteArray×Int×Bool)⊕((List De)⊕((List De×Bool)))):=
 (bif(decide (y11<(Fz xT)))then(some (!y21))
 else(some false):Option (Bool)).bind λj1=>
 bif j1 then((sx xT y11).bind λx1=>
 (Du (E0.mk y01 (ad y11 1) y21)).bind λv1=>
 (Du v1.2).bind λv2=>
 (bif v2.2.bad_ then(some true)
 else((Nw (De.mk (qu (IntKind.i64.wrap x1) 16) (Int.tmod (IntKind.i64.wrap x1) 16) v1.1 v2.1)).bind λv3=>
 some (!v3)):Option (Bool)).bind λj2=>
 bif j2 then(some (.inr (.inr ([],false))))
 else((ap 32 a [(De.mk (qu (IntKind.i64.wrap x1) 16) (Int.tmod (IntKind.i64.wrap x1) 16) v1.1 v2.1)]).bind λq1=>
 some (.inl (q1,v2.2.text_,v2.2.at_,v2.2.bad_))))
 else(some (.inr (.inl a)))
def Ic (xT:ByteArray):Option (List De×Bool):=
 (Au (λs:List De×ByteArray×Int×Bool=>DM xT s.1 s.2.1 s.2.2.1 s.2.2.2) ([],xT,0,false)).bind (Sum.elim (λv4=>(some (v4,true))) some)
def Jo (f:List A8) (h:Int) (d:Int) (b:Int) (e:ByteArray) (c:Bool) (g:Int) (a:Int):Option ((Int×ByteArray×Bool×Int×Int)⊕(Int×ByteArray×Bool×Int)):=
 (bif(decide (g<(ln f)))then(some (!c))
 else(some false):Option (Bool)).bind λj2=>
 bif j2 then((gi f g).bind λx1=>
 (bif(x1.Page.Kind !=2)then(some true)
 else(bif(x1.Page.Tx !=h)then(some true)
 else(bif(x1.Page.Part !=d)then(some true)
 else(bif(decide (d>0))then(some (x1.Page.Count !=b))
 else(some false)))):Option (Bool)).bind λj3=>
 bif j3 then(some (.inl (b,e,c,(ad g 1),a)))
 else((HO e x1.Page.Text).bind λx2=>
 (bif(d==0)then(some true)
 else(some (decide (x1.Page.Seq<a))):Option (Bool)).bind λj4=>
 bif j4 then(some (.inl (x1.Page.Count,x2,true,(ad g 1),x1.Page.Seq)))
 else(some (.inl (x1.Page.Count,x2,true,(ad g 1),a)))))
 else(some (.inr (b,e,c,a)))
def OM (e:List A8) (f:Int) (b:Int) (c:ByteArray) (a:Int) (d:Int):Option ((Int×ByteArray×Int×Int)⊕((ByteArray×Int)⊕((Tx×Bool)))):=
 (bif(a==0)then(some true)
 else(some (decide (a<b))):Option (Bool)).bind λj1=>
 bif j1 then((Au (λs:Int×ByteArray×Bool×Int×Int=>Jo e f a s.1 s.2.1 s.2.2.1 s.2.2.2.1 s.2.2.2.2) (b,c,false,0,d)).bind λv1=>
 bif(!v1.2.2.1)then(some (.inr (.inr ((Tx.mk f v1.2.2.2 []),false))))
 else(some (.inl (v1.1,v1.2.1,(ad a 1),v1.2.2.2))))
 else(some (.inr (.inl (c,d))))
def Wn (a:List A8) (b:Int):Option (Tx×Bool):=
 (Au (λs:Int×ByteArray×Int×Int=>OM a b s.1 s.2.1 s.2.2.1 s.2.2.2) (0,(bs []),0,0)).bind (Sum.elim (λv2=>((Ic v2.1).bind λv3=>
 some ((Tx.mk b v2.2 v3.1),v3.2))) some)
def L3 (a:List Int) (x1:A8) (b:List Int) (c:Int):Option ((List Int×Int)⊕(List Int)):=
 bif(decide (c<(ln a)))then((gi a c).bind λx2=>
 bif(decide (x2<x1.Page.Tx))then((gi a c).bind λx3=>
 (ap 8 b [x3]).bind λq1=>
 some (.inl (q1,(ad c 1))))
 else(some (.inl (b,(ad c 1)))))
 else(some (.inr b))
def L0 (a:List Int) (x1:A8) (b:List Int) (c:Int):Option ((List Int×Int)⊕(List Int)):=
 bif(decide (c<(ln a)))then((gi a c).bind λx4=>
 bif(decide (x4>x1.Page.Tx))then((gi a c).bind λx5=>
 (ap 8 b [x5]).bind λq3=>
 some (.inl (q3,(ad c 1))))
 else(some (.inl (b,(ad c 1)))))
 else(some (.inr b))
def JD (b:List A8) (a:List Int) (c:Int):Option ((List Int×Int)⊕(List Int)):=
 bif(decide (c<(ln b)))then((gi b c).bind λx1=>
 bif(x1.Page.Kind !=2)then(some (.inl (a,(ad c 1))))
 else((Au (λs:List Int×Int=>L3 a x1 s.1 s.2) ([],0)).bind λv1=>
 (ap 8 v1 [x1.Page.Tx]).bind λq2=>
 (Au (λs:List Int×Int=>L0 a x1 s.1 s.2) (q2,0)).bind λv2=>
 some (.inl (v2,(ad c 1)))))
 else(some (.inr a))
def JC (c:List A8) (v3:List Int) (a:List Tx) (b:Int):Option ((List Tx×Int)⊕(List Tx)):=
 bif(decide (b<(ln v3)))then((gi v3 b).bind λx6=>
 (Wn c x6).bind λv4=>
 bif v4.2 then((ap 40 a [v4.1]).bind λq4=>
 some (.inl (q4,(ad b 1))))
 else(some (.inl (a,(ad b 1)))))
 else(some (.inr a))
def Qu (a:List A8):Option (List Tx):=
 (Au (λs:List Int×Int=>JD a s.1 s.2) ([],0)).bind λv3=>
 (Au (λs:List Tx×Int=>JC a v3 s.1 s.2) ([],0)).bind λv5=>
 some v5
def GA (a:List Tx) (c:Int) (b:Int):Option ((Int×Int)⊕(Int)):=
 bif(decide (b<(ln a)))then((gi a b).bind λx1=>
 bif(decide ((ln x1.Recs)>0))then((gi a b).bind λx2=>
 (gi x2.Recs 0).bind λx3=>
 bif(x3.Kind==1)then(some (.inl (b,(ad b 1))))
 else(some (.inl (c,(ad b 1)))))
 else(some (.inl (c,(ad b 1)))))
 else(some (.inr c))
def HZ (a:List Tx) (b:List Tx) (c:Int):Option ((List Tx×Int)⊕(List Tx)):=
 bif(decide (c<(ln a)))then((gi a c).bind λx4=>
 (ap 32 [] x4.Recs).bind λq1=>
 (ap 40 b [(Tx.mk x4.Num x4.Seq q1)]).bind λq2=>
 some (.inl (q2,(ad c 1))))
 else(some (.inr b))
def Nv (a:List Tx):Option (List Tx):=
 (Au (λs:Int×Int=>GA a s.1 s.2) (0,0)).bind λv1=>
 (Au (λs:List Tx×Int=>HZ a s.1 s.2) ([],v1)).bind λv2=>
 some v2
def JV (xA:Arena) (b:Int) (a:List BL):Option ((Int×List BL)⊕(List BL)):=
 bif(decide (b<(ln xA.Knots)))then((gi xA.Knots b).bind λx1=>
 (gi xA.Knots b).bind λx2=>
 (ap 8 [] x2.Kids).bind λq1=>
 (ap 32 a [(BL.mk x1.Leaf q1)]).bind λq2=>
 some (.inl ((ad b 1),q2)))
 else(some (.inr a))
def Mr (xA:Arena):Option (Arena):=
 (Au (λs:Int×List BL=>JV xA s.1 s.2) (0,[])).bind λv1=>
 some (Arena.mk v1)
def El (xS:Store):Option (Store):=
 (ap 16 [] xS.Vols).bind λq1=>
 (Mr xS.Arena).bind λv1=>
 some (Store.mk q1 v1 xS.Next)
def Ei (xA:Arena) (b:Int) (x1:BL) (a:Int):Option ((Int)⊕((Unit)⊕((Int)⊕((Unit)⊕(Bool))))):=
 bif(decide (a<4))then((gi x1.Kids a).bind λx2=>
 (bif x1.Leaf then(bif(decide (x2<0))then(some true)
 else(bif(!x1.Leaf)then(bif(x2 !=(-1))then((BX x2 0 (sb b 1)).bind λv1=>
 bif(!v1)then(some true)
 else((gi xA.Knots x2).bind λx3=>
 some (!x3.Leaf)))
 else(some false))
 else(some false)))
 else(bif(!x1.Leaf)then(bif(x2 !=(-1))then((BX x2 0 (sb b 1)).bind λv2=>
 bif(!v2)then(some true)
 else((gi xA.Knots x2).bind λx4=>
 some (!x4.Leaf)))
 else(some false))
 else(some false)):Option (Bool)).bind λj1=>
 bif j1 then(some (.inr (.inr (.inr (.inr false)))))
 else(some (.inl (ad a 1))))
 else(some (.inr (.inl ())))
def Ej (xA:Arena) (a:Int):Option ((Int)⊕((Unit)⊕(Bool))):=
 bif(decide (a<(ln xA.Knots)))then((gi xA.Knots a).bind λx1=>
 bif((ln x1.Kids) !=4)then(some (.inr (.inr false)))
 else((Au (λs:Int=>Ei xA a x1 s) 0).bind (Sum.elim (λv3=>(some (.inl (ad a 1)))) some)))
 else(some (.inr (.inl ())))
def GF (xA:Arena):Option (Bool):=
 (Au (λs:Int=>Ej xA s) 0).bind (Sum.elim (λv4=>(some true)) some)
def Hx (xA:Arena) (a:Int):Option (Bool):=
 bif(a==(-1))then(some true)
 else((BX a 0 (sb (ln xA.Knots) 1)).bind λv1=>
 bif v1 then((gi xA.Knots a).bind λx1=>
 some (!x1.Leaf))
 else(some false))
def MB (xA:Arena) (b:Int) (a:Int):Option (Int):=
 bif(decide (b<0))then(some 0)
 else((gi xA.Knots b).bind λx1=>
 (gi x1.Kids (qu a 4)).bind λx2=>
 bif(decide (x2<0))then(some 0)
 else((gi xA.Knots x2).bind λx3=>
 (gi x3.Kids (Int.tmod a 4)).bind λx4=>
 some x4))
def Hw (xS:Store) (a:List Int) (b:Int):Option ((List Int×Int)⊕(List Int)):=
 bif(decide (b<(ln xS.Vols)))then((gi xS.Vols b).bind λx1=>
 (ap 8 a [x1.Root]).bind λq1=>
 some (.inl (q1,(ad b 1))))
 else(some (.inr a))
def MA (xS:Store):Option (List Int):=
 (Au (λs:List Int×Int=>Hw xS s.1 s.2) ([],0)).bind λv1=>
 some v1
def J0 (xA:Arena) (b:Int) (a:List Bool) (c:Int):Option ((List Bool×Int)⊕(List Bool)):=
 bif(decide (c<4))then((gi xA.Knots b).bind λx2=>
 (gi x2.Kids c).bind λx3=>
 bif(decide (x3>=0))then((gi xA.Knots b).bind λx4=>
 (gi x4.Kids c).bind λx5=>
 (gi a x5).bind λx6=>
 some (.inl ((si a x5 true),(ad c 1))))
 else(some (.inl (a,(ad c 1)))))
 else(some (.inr a))
def Tv (xA:Arena) (a:Int):Option (List Bool):=
 (mk 1 false (ln xA.Knots)).bind λq1=>
 bif(decide (a<0))then(some q1)
 else((gi q1 a).bind λx1=>
 (Au (λs:List Bool×Int=>J0 xA a s.1 s.2) ((si q1 a true),0)).bind λv1=>
 some v1)
def FK (xA:Arena) (a:List Int) (b:Bool) (c:Int):Option ((Bool×Int)⊕(Bool)):=
 (bif(decide (c<(ln a)))then(some b)
 else(some false):Option (Bool)).bind λj1=>
 bif j1 then((gi a c).bind λx1=>
 (Hx xA x1).bind λv2=>
 some (.inl (v2,(ad c 1))))
 else(some (.inr b))
def Hn (v5:List Bool) (a:List Bool) (b:Int):Option ((List Bool×Int)⊕(List Bool)):=
 bif(decide (b<(ln v5)))then((gi a b).bind λx3=>
 bif x3 then((gi a b).bind λx4=>
 some (.inl ((si a b true),(ad b 1))))
 else((gi v5 b).bind λx5=>
 (gi a b).bind λx6=>
 some (.inl ((si a b x5),(ad b 1)))))
 else(some (.inr a))
def FJ (xA:Arena) (a:List Int) (b:List Bool) (c:Int):Option ((List Bool×Int)⊕(List Bool)):=
 bif(decide (c<(ln a)))then((gi a c).bind λx2=>
 (Tv xA x2).bind λv5=>
 (Au (λs:List Bool×Int=>Hn v5 s.1 s.2) (b,0)).bind λv6=>
 some (.inl (v6,(ad c 1))))
 else(some (.inr b))
def FH (c:List Int) (j2:Bool×List Int) (b:Int) (a:List Int):Option ((Int×List Int)⊕(List Int)):=
 (bif(decide (b<4))then(some (!j2.1))
 else(some false):Option (Bool)).bind λj3=>
 bif j3 then((gi a b).bind λx10=>
 bif(decide (x10>=0))then((gi a b).bind λx11=>
 (gi c x11).bind λx12=>
 (gi a b).bind λx13=>
 some (.inl ((ad b 1),(si a b x12))))
 else(some (.inl ((ad b 1),a))))
 else(some (.inr a))
def FI (xA:Arena) (v7:List Bool) (a:List Int) (c:Int) (b:List BL):Option ((List Int×Int×List BL)⊕(List Int×List BL)):=
 bif(decide (c<(ln xA.Knots)))then((gi v7 c).bind λx7=>
 bif(!x7)then(some (.inl (a,(ad c 1),b)))
 else(((gi xA.Knots c).bind λx8=>
 (gi xA.Knots c).bind λx9=>
 (ap 8 [] x9.Kids).bind λq4=>
 some (x8.Leaf,q4):Option (Bool×List Int)).bind λj2=>
 (Au (λs:Int×List Int=>FH a j2 s.1 s.2) (0,j2.2)).bind λv8=>
 (gi a c).bind λx14=>
 (ap 32 b [(BL.mk j2.1 v8)]).bind λq7=>
 some (.inl ((si a c (ln b)),(ad c 1),q7))))
 else(some (.inr (a,b)))
def FG (v9:List Int×List BL) (a:List Int) (b:Int):Option ((List Int×Int)⊕(List Int)):=
 bif(decide (b<(ln a)))then((gi a b).bind λx15=>
 bif(decide (x15>=0))then((gi a b).bind λx16=>
 (gi v9.1 x16).bind λx17=>
 (gi a b).bind λx18=>
 some (.inl ((si a b x17),(ad b 1))))
 else(some (.inl (a,(ad b 1)))))
 else(some (.inr a))
def JX (xA:Arena) (a:List Int):Option (Arena×List Int):=
 (ap 8 [] a).bind λq1=>
 (GF xA).bind λv1=>
 (Au (λs:Bool×Int=>FK xA a s.1 s.2) (v1,0)).bind λv3=>
 bif(!v3)then((Mr xA).bind λv4=>
 some (v4,q1))
 else((mk 1 false (ln xA.Knots)).bind λq2=>
 (Au (λs:List Bool×Int=>FJ xA a s.1 s.2) (q2,0)).bind λv7=>
 (mk 8 0 (ln xA.Knots)).bind λq3=>
 (Au (λs:List Int×Int×List BL=>FI xA v7 s.1 s.2.1 s.2.2) (q3,0,[])).bind λv9=>
 (Au (λs:List Int×Int=>FG v9 s.1 s.2) (q1,0)).bind λv10=>
 some ((Arena.mk v9.2),v10))
def I6 (xS:Store) (x1:Vol) (a:Int):Option ((Int)⊕((Unit)⊕((Int)⊕((Unit)⊕(Bool))))):=
 bif(decide (a<16))then((MB xS.Arena x1.Root a).bind λv6=>
 bif(decide (v6>=xS.Next))then(some (.inr (.inr (.inr (.inr false)))))
 else(some (.inl (ad a 1))))
 else(some (.inr (.inl ())))
def I7 (xS:Store) (a:Int):Option ((Int)⊕((Unit)⊕(Bool))):=
 bif(decide (a<(ln xS.Vols)))then((gi xS.Vols a).bind λx1=>
 ((BX x1.Id 1 9).bind λv3=>
 bif(!v3)then(some true)
 else(bif(decide (a>0))then((gi xS.Vols (sb a 1)).bind λx2=>
 bif(decide (x2.Id>=x1.Id))then(some true)
 else((Hx xS.Arena x1.Root).bind λv4=>
 some (!v4)))
 else((Hx xS.Arena x1.Root).bind λv5=>
 some (!v5))):Option (Bool)).bind λj2=>
 bif j2 then(some (.inr (.inr false)))
 else((Au (λs:Int=>I6 xS x1 s) 0).bind (Sum.elim (λv7=>(some (.inl (ad a 1)))) some)))
 else(some (.inr (.inl ())))
def Og (xS:Store):Option (Bool):=
 (bif(decide ((ln xS.Vols)>3))then(some true)
 else((GF xS.Arena).bind λv1=>
 bif(!v1)then(some true)
 else((BX xS.Next 1 1000000000).bind λv2=>
 some (!v2))):Option (Bool)).bind λj1=>
 bif j1 then(some false)
 else((Au (λs:Int=>I7 xS s) 0).bind (Sum.elim (λv8=>(((MA xS).bind λv10=>
 (JX xS.Arena v10).bind λv12=>
 some v12.1.Knots:Option (List BL)).bind λj3=>
 some ((ln j3)==(ln xS.Arena.Knots)))) some))
def K9 (xS:Store) (b:Int) (a:Int):Option ((Int)⊕((Unit)⊕(Int))):=
 bif(decide (a<(ln xS.Vols)))then((gi xS.Vols a).bind λx1=>
 bif(x1.Id==b)then(some (.inr (.inr a)))
 else(some (.inl (ad a 1))))
 else(some (.inr (.inl ())))
def Eb (xS:Store) (a:Int):Option (Int):=
 (Au (λs:Int=>K9 xS a s) 0).bind (Sum.elim (λv1=>(some (-1))) some)
def GW (xS:Store) (xR:De) (a:List Vol) (b:Int):Option ((List Vol×Int)⊕(List Vol)):=
 bif(decide (b<(ln xS.Vols)))then((gi xS.Vols b).bind λx2=>
 bif(decide (x2.Id<xR.Vol))then((gi xS.Vols b).bind λx3=>
 (ap 16 a [x3]).bind λq1=>
 some (.inl (q1,(ad b 1))))
 else(some (.inl (a,(ad b 1)))))
 else(some (.inr a))
def GV (xS:Store) (xR:De) (a:List Vol) (b:Int):Option ((List Vol×Int)⊕(List Vol)):=
 bif(decide (b<(ln xS.Vols)))then((gi xS.Vols b).bind λx4=>
 bif(decide (x4.Id>xR.Vol))then((gi xS.Vols b).bind λx5=>
 (ap 16 a [x5]).bind λq3=>
 some (.inl (q3,(ad b 1))))
 else(some (.inl (a,(ad b 1)))))
 else(some (.inr a))
def FX (xS:Store) (xR:De):Option (Store×Bool):=
 (bif(decide (xR.Arg>0))then((Eb xS xR.Arg).bind λv1=>
 bif(decide (v1<0))then((El xS).bind λv2=>
 some (.inr (v2,false)))
 else((gi xS.Vols v1).bind λx1=>
 some (.inl x1.Root)))
 else(some (.inl (-1))):Option ((Int)⊕((Store×Bool)))).bind (Sum.elim (λj1=>(((Eb xS xR.Vol).bind λv3=>
 bif(decide (v3>=0))then(some true)
 else(some ((ln xS.Vols)==3)):Option (Bool)).bind λj2=>
 bif j2 then((El xS).bind λv4=>
 some (v4,false))
 else((El xS).bind λv5=>
 (Au (λs:List Vol×Int=>GW xS xR s.1 s.2) ([],0)).bind λv6=>
 (ap 16 v6 [(Vol.mk xR.Vol j1)]).bind λq2=>
 (Au (λs:List Vol×Int=>GV xS xR s.1 s.2) (q2,0)).bind λv7=>
 some ((Store.mk v7 v5.Arena v5.Next),true)))) some)
def IX (j1:List Int×List BL) (b:Int) (a:List Vol):Option ((Int×List Vol)⊕(List Vol)):=
 bif(decide (b<(ln a)))then((gi j1.1 b).bind λx1=>
 (gi a b).bind λx2=>
 some (.inl ((ad b 1),(si a b (Vol.mk x2.Id x1)))))
 else(some (.inr a))
def Hf (xS:Store):Option (Store):=
 ((MA xS).bind λv2=>
 (JX xS.Arena v2).bind λv4=>
 some (v4.2,v4.1.Knots):Option (List Int×List BL)).bind λj1=>
 ((ap 16 [] xS.Vols).bind λq1=>
 some q1:Option (List Vol)).bind λj2=>
 (Au (λs:Int×List Vol=>IX j1 s.1 s.2) (0,j2)).bind λv8=>
 some (Store.mk v8 (Arena.mk j1.2) xS.Next)
def Wq (xA:Arena) (b:Int) (a:Int) (xN:Int):Option (Arena×Int):=
 (Mr xA).bind λv1=>
 ((GF xA).bind λv2=>
 bif(!v2)then(some true)
 else((Hx xA b).bind λv3=>
 bif(!v3)then(some true)
 else((BX a 0 15).bind λv4=>
 bif(!v4)then(some true)
 else(some (decide (xN<0))))):Option (Bool)).bind λj1=>
 bif j1 then(some (v1,b))
 else((mk 8 0 4).bind λq1=>
 (bif(decide (b>=0))then((gi xA.Knots b).bind λx1=>
 (ap 8 [] x1.Kids).bind λq2=>
 (gi q2 (qu a 4)).bind λx2=>
 bif(decide (x2>=0))then((gi xA.Knots x2).bind λx3=>
 (ap 8 [] x3.Kids).bind λq3=>
 some (q3,q2))
 else(some (q1,q2)))
 else(some (q1,[(-1),(-1),(-1),(-1)])):Option (List Int×List Int)).bind λj2=>
 (gi j2.1 (Int.tmod a 4)).bind λx4=>
 (gi j2.2 (qu a 4)).bind λx5=>
 (ap 32 v1.Knots [(BL.mk true (si j2.1 (Int.tmod a 4) xN)),(BL.mk false (si j2.2 (qu a 4) (ln v1.Knots)))]).bind λq4=>
 some ((Arena.mk q4),(sb (ln q4) 1)))
def Ru (xS:Store) (xR:De):Option (Store×Bool):=
 ((Og xS).bind λv1=>
 bif(!v1)then(some true)
 else((Nw xR).bind λv2=>
 some (!v2)):Option (Bool)).bind λj1=>
 bif j1 then((El xS).bind λv3=>
 some (v3,false))
 else(bif(xR.Kind==1)then((bif(xR.Arg==0)then(some 1)
 else(some xR.Arg):Option (Int)).bind λj2=>
 some ((Store.mk [] (Arena.mk []) j2),true))
 else(bif(xR.Kind==2)then((FX xS xR).bind λv4=>
 some (v4.1,v4.2))
 else((Eb xS xR.Vol).bind λv5=>
 (bif(decide (v5<0))then(some true)
 else(some (xR.Chunk==1000000000)):Option (Bool)).bind λj3=>
 bif j3 then((El xS).bind λv6=>
 some (v6,false))
 else((El xS).bind λv7=>
 bif(xR.Kind==3)then((dr xS.Vols 0 v5).bind λx1=>
 (dr xS.Vols (ad v5 1) (ln xS.Vols)).bind λx2=>
 (ap 16 [] x1).bind λq1=>
 (ap 16 q1 x2).bind λq2=>
 (Hf (Store.mk q2 v7.Arena v7.Next)).bind λv8=>
 some (v8,true))
 else(((gi xS.Vols v5).bind λx3=>
 (Wq xS.Arena x3.Root xR.Arg xR.Chunk).bind λv10=>
 some (v10.2,v10.1.Knots):Option (Int×List BL)).bind λj4=>
 (gi v7.Vols v5).bind λx4=>
 bif(decide (xR.Chunk>=v7.Next))then((Hf (Store.mk (si v7.Vols v5 (Vol.mk x4.Id j4.1)) (Arena.mk j4.2) (ad xR.Chunk 1))).bind λv12=>
 some (v12,true))
 else((Hf (Store.mk (si v7.Vols v5 (Vol.mk x4.Id j4.1)) (Arena.mk j4.2) v7.Next)).bind λv13=>
 some (v13,true)))))))
def DO (xS:Store) (d:List De) (e:Int) (a:List Vol) (b:List BL) (c:Int):Option ((Int×List Vol×List BL×Int)⊕((List Vol×List BL×Int)⊕((Store×Bool)))):=
 bif(decide (e<(ln d)))then(((gi d e).bind λx1=>
 (Ru (Store.mk a (Arena.mk b) c) x1).bind λv3=>
 some (v3.2,v3.1.Vols,v3.1.Arena.Knots,v3.1.Next):Option (Bool×List Vol×List BL×Int)).bind λj1=>
 bif(!j1.1)then((El xS).bind λv5=>
 some (.inr (.inr (v5,false))))
 else(some (.inl ((ad e 1),j1.2.1,j1.2.2.1,j1.2.2.2))))
 else(some (.inr (.inl (a,b,c))))
def Jq (xS:Store) (a:List De):Option (Store×Bool):=
 (El xS).bind λv1=>
 (Au (λs:Int×List Vol×List BL×Int=>DO xS a s.1 s.2.1 s.2.2.1 s.2.2.2) (0,v1.Vols,v1.Arena.Knots,v1.Next)).bind (Sum.elim (λv6=>(some ((Store.mk v6.1 (Arena.mk v6.2.1) v6.2.2),true))) some)
def H0 (v2:List A8) (a:Int) (b:Int) (c:Int):Option ((Int×Int×Int)⊕(Int×Int)):=
 bif(decide (a<(ln v2)))then((gi v2 a).bind λx1=>
 (bif(decide (x1.Page.Seq>=b))then((gi v2 a).bind λx2=>
 some (ad x2.Page.Seq 1))
 else(some b):Option (Int)).bind λj1=>
 ((gi v2 a).bind λx3=>
 bif(x3.Page.Kind==2)then((gi v2 a).bind λx4=>
 some (decide (x4.Page.Tx>=c)))
 else(some false):Option (Bool)).bind λj2=>
 bif j2 then((gi v2 a).bind λx5=>
 some (.inl ((ad a 1),j1,(ad x5.Page.Tx 1))))
 else(some (.inl ((ad a 1),j1,c))))
 else(some (.inr (b,c)))
def Dy (v7:List Tx) (a:Int) (b:List Vol) (c:List BL) (d:Int) (e:Int):Option ((Int×List Vol×List BL×Int×Int)⊕(List Vol×List BL×Int×Int)):=
 bif(decide (a<(ln v7)))then((bif(a==0)then((gi v7 a).bind λx6=>
 some x6.Num)
 else(some e):Option (Int)).bind λj3=>
 (gi v7 a).bind λx7=>
 (Jq (Store.mk b (Arena.mk c) d) x7.Recs).bind λv8=>
 some (.inl ((ad a 1),v8.1.Vols,v8.1.Arena.Knots,v8.1.Next,j3)))
 else(some (.inr (b,c,d,e)))
def CL (xF:Flash):Option (Bc×Bool):=
 (FN xF).bind λv1=>
 bif(!v1)then(some ((Bc.mk (Flash.mk []) (Store.mk [] (Arena.mk []) 0) 0 0 0),false))
 else((GB xF).bind λv2=>
 (EL xF).bind λv3=>
 (ME).bind λv4=>
 (Au (λs:Int×Int×Int=>H0 v2 s.1 s.2.1 s.2.2) (0,1,1)).bind λv5=>
 (Qu v2).bind λv6=>
 (Nv v6).bind λv7=>
 (Au (λs:Int×List Vol×List BL×Int×Int=>Dy v7 s.1 s.2.1 s.2.2.1 s.2.2.2.1 s.2.2.2.2) (0,v4.Vols,v4.Arena.Knots,v4.Next,0)).bind λv9=>
 some ((Bc.mk v3 (Store.mk v9.1 (Arena.mk v9.2.1) v9.2.2.1) v5.1 v5.2 v9.2.2.2),true))
def Nz (a:Int):Option (Bc×Bool):=
 (OS a).bind λv1=>
 bif(!v1.2)then(some ((Bc.mk (Flash.mk []) (Store.mk [] (Arena.mk []) 0) 0 0 0),false))
 else((CL v1.1).bind λv2=>
 some (v2.1,v2.2))
def Mc (xC:Ce) (a:List Int):Option (Int×Ce):=
 (DS xC (ln a)).bind λv1=>
 (gi a v1.1).bind λx1=>
 some (x1,v1.2)
def J6 (xC:Ce) (xN:Int):Option (Bool×Ce):=
 (DS xC xN).bind λv1=>
 some ((v1.1==0),v1.2)
def Oe (xC:Ce) (a:List ByteArray):Option (ByteArray×Ce):=
 (DS xC (ln a)).bind λv1=>
 (gi a v1.1).bind λx1=>
 some (x1,v1.2)
def Rq (xC:Ce):Option (ByteArray×Ce):=
 (Oe xC [(bs []),(bs [97]),(bs [98,98]),(bs [97,98,99,100,97,98,99,100,97,98,99,100]),(bs [104,101,108,108,111]),(bs [104,101,108,108,111,32,104,101,108,108,111,32,104,101,108,108,111]),(bs [122,122,122,122,122,122,122,122,122,122,122,122]),(bs [113,49]),(bs [113,50]),(bs [113,51])]).bind λv1=>
 some (v1.1,v1.2)
def Ob (xC:Ce) (xD:Bc):Option (Y7×Ce):=
 (Mc xC [1,1,1,1,1,1,2,3,4,5,6]).bind λv1=>
 (DS v1.2 3).bind λv2=>
 (bif((ln xD.Store.Vols)==0)then(some (3,(ad 1 v2.1),v2.2.b_,v2.2.i_,v2.2.h_))
 else((bif(v1.1 !=3)then(bif(v1.1 !=4)then((J6 v2.2 8).bind λv3=>
 some ((!v3.1),v3.2.b_,v3.2.i_,v3.2.h_))
 else(some (false,v2.2.b_,v2.2.i_,v2.2.h_)))
 else(some (false,v2.2.b_,v2.2.i_,v2.2.h_)):Option (Bool×List Int×Int×Int)).bind λj2=>
 bif j2.1 then((DS (Ce.mk j2.2.1 j2.2.2.1 j2.2.2.2) (ln xD.Store.Vols)).bind λv7=>
 (gi xD.Store.Vols v7.1).bind λx1=>
 some (v1.1,x1.Id,v7.2.b_,v7.2.i_,v7.2.h_))
 else(some (v1.1,(ad 1 v2.1),j2.2.1,j2.2.2.1,j2.2.2.2))):Option (Int×Int×List Int×Int×Int)).bind λj1=>
 (bif(j1.1==5)then((J6 (Ce.mk j1.2.2.1 j1.2.2.2.1 j1.2.2.2.2) 3).bind λv11=>
 some ((!v11.1),v11.2.b_,v11.2.i_,v11.2.h_))
 else(some (false,j1.2.2.1,j1.2.2.2.1,j1.2.2.2.2)):Option (Bool×List Int×Int×Int)).bind λj3=>
 (bif j3.1 then(some 1)
 else(some j1.1):Option (Int)).bind λj4=>
 (bif(j4==1)then((Rq (Ce.mk j3.2.1 j3.2.2.1 j3.2.2.2)).bind λv12=>
 (DS v12.2 16).bind λv13=>
 some (v13.1,0,v12.1,v13.2.b_,v13.2.i_,v13.2.h_))
 else((bif(j4==2)then(some (j4==2))
 else(some (j4==6)):Option (Bool)).bind λj6=>
 bif j6 then((DS (Ce.mk j3.2.1 j3.2.2.1 j3.2.2.2) 16).bind λv14=>
 some (v14.1,0,(bs []),v14.2.b_,v14.2.i_,v14.2.h_))
 else(bif(j4==4)then((DS (Ce.mk j3.2.1 j3.2.2.1 j3.2.2.2) 3).bind λv15=>
 bif(decide ((ln xD.Store.Vols)>0))then((gi xD.Store.Vols 0).bind λx5=>
 some (0,x5.Id,(bs []),v15.2.b_,v15.2.i_,v15.2.h_))
 else(some (0,(ad 1 v15.1),(bs []),v15.2.b_,v15.2.i_,v15.2.h_)))
 else(some (0,0,(bs []),j3.2.1,j3.2.2.1,j3.2.2.2)))):Option (Int×Int×ByteArray×List Int×Int×Int)).bind λj5=>
 some ((Y7.mk j4 j1.2.1 j5.1 j5.2.1 j5.2.2.1),(Ce.mk j5.2.2.2.1 j5.2.2.2.2.1 j5.2.2.2.2.2))
def Oc (xD:Bc):Option (Bc):=
 (EL xD.Flash).bind λv1=>
 (El xD.Store).bind λv2=>
 some (Bc.mk v1 v2 xD.Seq xD.Tx xD.Base)
def OR (xA:Arena) (b:Int) (a:Int):Option (Int):=
 ((GF xA).bind λv1=>
 bif(!v1)then(some true)
 else((Hx xA b).bind λv2=>
 bif(!v2)then(some true)
 else((BX a 0 15).bind λv3=>
 some (!v3))):Option (Bool)).bind λj1=>
 bif j1 then(some 0)
 else((MB xA b a).bind λv4=>
 some v4)
def Hh (xA:Arena) (b:Int) (a:List Int) (c:Int):Option ((List Int×Int)⊕(List Int)):=
 bif(decide (c<16))then((OR xA b c).bind λv1=>
 (ap 8 a [v1]).bind λq1=>
 some (.inl (q1,(ad c 1))))
 else(some (.inr a))
def Jm (xA:Arena) (a:Int):Option (List Int):=
 (Au (λs:List Int×Int=>Hh xA a s.1 s.2) ([],0)).bind λv2=>
 some v2
def G7 (xA:List Int) (xB:List Int) (a:Int):Option ((Int)⊕((Unit)⊕(Bool))):=
 bif(decide (a<(ln xA)))then((gi xA a).bind λx1=>
 (gi xB a).bind λx2=>
 bif(x1 !=x2)then(some (.inr (.inr false)))
 else(some (.inl (ad a 1))))
 else(some (.inr (.inl ())))
def KZ (xA:List Int) (xB:List Int):Option (Bool):=
 bif((ln xA) !=(ln xB))then(some false)
 else((Au (λs:Int=>G7 xA xB s) 0).bind (Sum.elim (λv1=>(some true)) some))
def Ib (xA:Store) (xB:Store) (a:Int):Option ((Int)⊕((Unit)⊕(Bool))):=
 bif(decide (a<(ln xA.Vols)))then((gi xA.Vols a).bind λx1=>
 (gi xB.Vols a).bind λx2=>
 bif(x1.Id !=x2.Id)then(some (.inr (.inr false)))
 else((gi xA.Vols a).bind λx3=>
 (gi xB.Vols a).bind λx4=>
 (Jm xA.Arena x3.Root).bind λv1=>
 (Jm xB.Arena x4.Root).bind λv2=>
 (KZ v1 v2).bind λv3=>
 bif(!v3)then(some (.inr (.inr false)))
 else(some (.inl (ad a 1)))))
 else(some (.inr (.inl ())))
def J9 (xA:Store) (xB:Store):Option (Bool):=
 (bif((ln xA.Vols) !=(ln xB.Vols))then(some true)
 else(some (xA.Next !=xB.Next)):Option (Bool)).bind λj1=>
 bif j1 then(some false)
 else((Au (λs:Int=>Ib xA xB s) 0).bind (Sum.elim (λv4=>(some true)) some))
def MI (xD:Bc):Option (Bool):=
 (CL xD.Flash).bind λv1=>
 bif v1.2 then((J9 v1.1.Store xD.Store).bind λv2=>
 bif v2 then(bif(v1.1.Seq==xD.Seq)then(bif(v1.1.Tx==xD.Tx)then(bif(v1.1.Base==xD.Base)then((Og xD.Store).bind λv3=>
 some v3)
 else(some false))
 else(some false))
 else(some false))
 else(some false))
 else(some false)
def HX (a:List Int) (xX:Int) (b:List Int) (c:Int):Option ((List Int×Int)⊕(List Int)):=
 bif(decide (c<(ln a)))then((gi a c).bind λx1=>
 bif(decide (x1<xX))then((gi a c).bind λx2=>
 (ap 8 b [x2]).bind λq1=>
 some (.inl (q1,(ad c 1))))
 else(some (.inl (b,(ad c 1)))))
 else(some (.inr b))
def G8 (a:List Int) (xX:Int) (b:List Int) (c:Int):Option ((List Int×Int)⊕(List Int)):=
 bif(decide (c<(ln a)))then((gi a c).bind λx3=>
 bif(decide (x3>xX))then((gi a c).bind λx4=>
 (ap 8 b [x4]).bind λq3=>
 some (.inl (q3,(ad c 1))))
 else(some (.inl (b,(ad c 1)))))
 else(some (.inr b))
def Nt (a:List Int) (xX:Int):Option (List Int):=
 (Au (λs:List Int×Int=>HX a xX s.1 s.2) ([],0)).bind λv1=>
 (bif(decide (xX>0))then((ap 8 v1 [xX]).bind λq2=>
 some q2)
 else(some v1):Option (List Int)).bind λj1=>
 (Au (λs:List Int×Int=>G8 a xX s.1 s.2) (j1,0)).bind λv2=>
 some v2
def Lw (v1:List Int) (a:List Int) (b:Int):Option ((List Int×Int)⊕(List Int)):=
 bif(decide (b<(ln v1)))then((gi v1 b).bind λx2=>
 (Nt a x2).bind λv2=>
 some (.inl (v2,(ad b 1))))
 else(some (.inr a))
def Lx (xS:Store) (a:List Int) (b:Int):Option ((List Int×Int)⊕(List Int)):=
 bif(decide (b<(ln xS.Vols)))then((gi xS.Vols b).bind λx1=>
 (Jm xS.Arena x1.Root).bind λv1=>
 (Au (λs:List Int×Int=>Lw v1 s.1 s.2) (a,0)).bind λv3=>
 some (.inl (v3,(ad b 1))))
 else(some (.inr a))
def Lz (xS:Store):Option (List Int):=
 (Au (λs:List Int×Int=>Lx xS s.1 s.2) ([],0)).bind λv4=>
 some v4
def HT (a:List A8) (c:Int) (b:Int):Option ((Int)⊕((Unit)⊕((A8×Bool)))):=
 bif(decide (b>=0))then(((gi a b).bind λx1=>
 bif(x1.Page.Kind==1)then((gi a b).bind λx2=>
 some (x2.Page.Tx==c))
 else(some false):Option (Bool)).bind λj1=>
 bif j1 then((gi a b).bind λx3=>
 some (.inr (.inr (x3,true))))
 else(some (.inl (sb b 1))))
 else(some (.inr (.inl ())))
def Lp (a:List A8) (b:Int):Option (A8×Bool):=
 (Au (λs:Int=>HT a b s) (sb (ln a) 1)).bind (Sum.elim (λv1=>(some ((A8.mk 0 0 (Page.mk 0 0 0 0 0 (bs []))),false))) some)
def Cd (xT:ByteArray) (b:List Bp) (a:Int):Option ((List Bp×Int)⊕((List Bp)⊕((List Bp×Bool)))):=
 bif(decide (a<(Fz xT)))then((sx xT a).bind λx1=>
 bif(decide ((IntKind.i64.wrap x1)>128))then(bif(decide ((ad a 2)>(Fz xT)))then(some (.inr (.inr (b,false))))
 else((sx xT (ad a 1)).bind λx2=>
 (ap 32 b [(Bp.mk (IntKind.i64.wrap x2) (sb (IntKind.i64.wrap x1) 128) (bs []))]).bind λq1=>
 some (.inl (q1,(ad a 2)))))
 else(bif(decide ((ad (ad a 1) (IntKind.i64.wrap x1))>(Fz xT)))then(some (.inr (.inr (b,false))))
 else((sub xT (ad a 1) (ad (ad a 1) (IntKind.i64.wrap x1))).bind λx3=>
 (ap 32 b [(Bp.mk 0 0 x3)]).bind λq2=>
 some (.inl (q2,(ad (ad a 1) (IntKind.i64.wrap x1)))))))
 else(some (.inr (.inl b)))
def J5 (xT:ByteArray):Option (List Bp×Bool):=
 (Au (λs:List Bp×Int=>Cd xT s.1 s.2) ([],0)).bind (Sum.elim (λv1=>(some (v1,true))) some)
def Ed (x1:Bp) (a:List Int) (b:Int):Option ((List Int×Int)⊕(List Int)):=
 bif(decide (b<x1.Size))then((gi a (sb (ln a) x1.Back)).bind λx2=>
 (ap 1 a [x2]).bind λq2=>
 some (.inl (q2,(ad b 1))))
 else(some (.inr a))
def Ee (b:List Bp) (a:List Int) (c:Int):Option ((List Int×Int)⊕((List Int)⊕((ByteArray×Bool)))):=
 bif(decide (c<(ln b)))then((gi b c).bind λx1=>
 (bif(x1.Back==0)then(((BX (Fz x1.Text) 1 31).bind λv1=>
 bif(!v1)then(some true)
 else(some (x1.Size !=0)):Option (Bool)).bind λj2=>
 bif j2 then(some (.inr (.inr (.inr ((bs []),false)))))
 else((ap 1 a (jU x1.Text)).bind λq1=>
 some (.inl q1)))
 else(((BX x1.Back 1 (ln a)).bind λv2=>
 bif(!v2)then(some true)
 else((BX x1.Size 1 31).bind λv3=>
 bif(!v3)then(some true)
 else(some (!(seq x1.Text (bs []))))):Option (Bool)).bind λj3=>
 bif j3 then(some (.inr (.inr (.inr ((bs []),false)))))
 else((Au (λs:List Int×Int=>Ed x1 s.1 s.2) (a,0)).bind λv4=>
 some (.inl v4))):Option ((List Int)⊕((List Int×Int)⊕((List Int)⊕((ByteArray×Bool)))))).bind (Sum.elim (λj1=>(bif(decide ((ln j1)>64))then(some (.inr (.inr ((bs []),false))))
 else(some (.inl (j1,(ad c 1)))))) some))
 else(some (.inr (.inl a)))
def FL (a:List Bp):Option (ByteArray×Bool):=
 (Au (λs:List Int×Int=>Ee a s.1 s.2) ([],0)).bind (Sum.elim (λv5=>(some ((EG v5),true))) some)
def Hy (xS:ByteArray) (b:Int) (c:Int) (a:Int):Option ((Int)⊕(Int)):=
 (bif(decide (a<31))then(bif(decide ((ad c a)<(Fz xS)))then((sx xS (ad b a)).bind λx1=>
 (sx xS (ad c a)).bind λx2=>
 some (x1==x2))
 else(some false))
 else(some false):Option (Bool)).bind λj1=>
 bif j1 then(some (.inl (ad a 1)))
 else(some (.inr a))
def MC (xS:ByteArray) (a:Int) (b:Int):Option (Int):=
 (Au (λs:Int=>Hy xS a b s) 0).bind λv1=>
 some v1
def E9 (xS:ByteArray) (d:Int) (b:Int) (c:Int) (a:Int):Option ((Int×Int×Int)⊕(Int×Int)):=
 bif(decide (a>=0))then((MC xS a d).bind λv1=>
 (bif(decide (v1>=4))then(some (decide (v1>b)))
 else(some false):Option (Bool)).bind λj1=>
 bif j1 then(some (.inl (v1,(sb d a),(sb a 1))))
 else(some (.inl (b,c,(sb a 1)))))
 else(some (.inr (b,c)))
def Cx (xS:ByteArray) (a:List Bp) (b:Int):Option ((List Bp×Int)⊕(List Bp)):=
 bif(decide (b<(Fz xS)))then((Au (λs:Int×Int×Int=>E9 xS b s.1 s.2.1 s.2.2) (0,0,(sb b 1))).bind λv2=>
 bif(decide (v2.1>0))then((ap 32 a [(Bp.mk v2.2 v2.1 (bs []))]).bind λq1=>
 some (.inl (q1,(ad b v2.1))))
 else((bif(decide ((sb (ln a) 1)>=0))then((gi a (sb (ln a) 1)).bind λx1=>
 bif(x1.Back==0)then((gi a (sb (ln a) 1)).bind λx2=>
 some (decide ((Fz x2.Text)<31)))
 else(some false))
 else(some false):Option (Bool)).bind λj2=>
 bif j2 then((gi a (sb (ln a) 1)).bind λx3=>
 (sub xS b (ad b 1)).bind λx4=>
 (HO x3.Text x4).bind λx5=>
 (gi a (sb (ln a) 1)).bind λx6=>
 some (.inl ((si a (sb (ln a) 1) (Bp.mk x6.Back x6.Size x5)),(ad b 1))))
 else((sub xS b (ad b 1)).bind λx7=>
 (ap 32 a [(Bp.mk 0 0 x7)]).bind λq2=>
 some (.inl (q2,(ad b 1))))))
 else(some (.inr a))
def KE (xS:ByteArray):Option (List Bp):=
 bif(decide ((Fz xS)>64))then(some [])
 else((Au (λs:List Bp×Int=>Cx xS s.1 s.2) ([],0)).bind λv3=>
 some v3)
def EB (v1:List Bp) (b:ByteArray) (a:Int):Option ((ByteArray×Int)⊕(ByteArray)):=
 bif(decide (a<(ln v1)))then((gi v1 a).bind λx1=>
 bif(x1.Back==0)then((HO b (EG [(IntKind.u8.wrap (Fz x1.Text))])).bind λx2=>
 (HO x2 x1.Text).bind λx3=>
 some (.inl (x3,(ad a 1))))
 else((HO b (EG [(IntKind.u8.wrap (ad 128 x1.Size)),(IntKind.u8.wrap x1.Back)])).bind λx4=>
 some (.inl (x4,(ad a 1)))))
 else(some (.inr b))
def EM (xS:ByteArray):Option (ByteArray×Bool):=
 bif(decide ((Fz xS)>64))then(some ((bs []),false))
 else((KE xS).bind λv1=>
 (Au (λs:ByteArray×Int=>EB v1 s.1 s.2) ((bs [122]),0)).bind λv2=>
 bif(decide ((ad (Fz xS) 1)<=(Fz v2)))then((HO (bs [114]) xS).bind λx5=>
 some (x5,true))
 else(some (v2,true)))
def Ga (xT:ByteArray):Option (ByteArray×Bool):=
 bif((Fz xT)==0)then(some ((bs []),false))
 else((sub xT 1 (Fz xT)).bind λx1=>
 (sx xT 0).bind λx2=>
 (bif(x2==122)then((sub xT 1 (Fz xT)).bind λx3=>
 (J5 x3).bind λv1=>
 (FL v1.1).bind λv2=>
 bif(!v1.2)then(some (.inr ((bs []),false)))
 else(bif(!v2.2)then(some (.inr ((bs []),false)))
 else(some (.inl v2.1))))
 else(some (.inl x1)):Option ((ByteArray)⊕((ByteArray×Bool)))).bind (Sum.elim (λj1=>((EM j1).bind λv3=>
 (bif(!v3.2)then(some true)
 else(some (!(seq v3.1 xT))):Option (Bool)).bind λj2=>
 bif j2 then(some ((bs []),false))
 else(some (j1,true)))) some))
def Od (b:List A8) (a:Int):Option (ByteArray×Bool):=
 (Lp b a).bind λv1=>
 bif(!v1.2)then(some ((bs []),false))
 else((Ga v1.1.Page.Text).bind λv2=>
 some (v2.1,v2.2))
def I2 (c:List A8) (a:List Int) (d:ByteArray) (b:Int):Option ((Int)⊕((Unit)⊕(Int))):=
 bif(decide (b<(ln a)))then((gi a b).bind λx1=>
 (Od c x1).bind λv1=>
 (bif v1.2 then(some (seq v1.1 d))
 else(some false):Option (Bool)).bind λj1=>
 bif j1 then((gi a b).bind λx2=>
 some (.inr (.inr x2)))
 else(some (.inl (ad b 1))))
 else(some (.inr (.inl ())))
def U8 (a:List A8) (b:List Int) (c:ByteArray):Option (Int):=
 (Au (λs:Int=>I2 a b c s) 0).bind (Sum.elim (λv2=>(some 0)) some)
def OT (xF:Flash) (a:List Int) (b:ByteArray):Option (Int):=
 (GB xF).bind λv1=>
 (U8 v1 a b).bind λv2=>
 some v2
def IY (xD:Bc) (xQ:Y7):Option (List De×ByteArray×Int):=
 (Wr xQ).bind λv1=>
 bif(!v1)then(some ([],(bs []),3))
 else((Eb xD.Store xQ.Vol).bind λv2=>
 (bif(xQ.Kind==3)then(some true)
 else(some (xQ.Kind==4)):Option (Bool)).bind λj1=>
 bif j1 then(bif(decide (v2>=0))then(some ([],(bs []),2))
 else((bif(xQ.Kind==4)then((Eb xD.Store xQ.Of).bind λv3=>
 some (decide (v3<0)))
 else(some false):Option (Bool)).bind λj2=>
 bif j2 then(some ([],(bs []),1))
 else(bif(decide ((ln xD.Store.Vols)>=3))then(some ([],(bs []),4))
 else(some ([(De.mk 2 xQ.Vol xQ.Of 0)],(bs []),0)))))
 else(bif(!(decide (v2>=0)))then(some ([],(bs []),1))
 else(bif(xQ.Kind==1)then((Lz xD.Store).bind λv4=>
 (OT xD.Flash v4 xQ.Text).bind λv5=>
 (bif(v5==0)then((EM xQ.Text).bind λv6=>
 some (xD.Store.Next,v6.1))
 else(some (v5,(bs []))):Option (Int×ByteArray)).bind λj3=>
 some ([(De.mk 4 xQ.Vol xQ.Sector j3.1)],j3.2,0))
 else(bif(xQ.Kind==2)then(some ([(De.mk 5 xQ.Vol xQ.Sector 0)],(bs []),0))
 else(bif(xQ.Kind==5)then(some ([(De.mk 3 xQ.Vol 0 0)],(bs []),0))
 else(some ([],(bs []),0)))))))
def Oh (xS:Store) (b:Int) (a:Int):Option (Int):=
 (Eb xS b).bind λv1=>
 bif(decide (v1<0))then(some 0)
 else((gi xS.Vols v1).bind λx1=>
 (OR xS.Arena x1.Root a).bind λv2=>
 some v2)
def Mq (c:List A8) (xS:Store) (b:Int) (a:Int):Option (ByteArray×Bool):=
 (Eb xS b).bind λv1=>
 bif(decide (v1<0))then(some ((bs []),false))
 else((Oh xS b a).bind λv2=>
 bif(v2==0)then(some ((bs []),true))
 else((Od c v2).bind λv3=>
 some (v3.1,v3.2)))
def Xg (xD:Bc) (b:Int) (a:Int):Option (ByteArray×Bool):=
 (GB xD.Flash).bind λv1=>
 (Mq v1 xD.Store b a).bind λv2=>
 some (v2.1,v2.2)
def Lt (xF:Flash) (c:Int) (b:Int) (a:Int):Option ((Int×Int)⊕(Int)):=
 (gi xF.Blocks c).bind λx1=>
 bif(decide (a<(ln x1.Leaves)))then((gi xF.Blocks c).bind λx2=>
 bif(!x2.Bad)then((gi xF.Blocks c).bind λx3=>
 (gi x3.Leaves a).bind λx4=>
 bif(x4.Is==0)then(some (.inl ((ad b 1),(ad a 1))))
 else(some (.inl (b,(ad a 1)))))
 else(some (.inl (b,(ad a 1)))))
 else(some (.inr b))
def Lu (xF:Flash) (b:Int) (a:Int):Option ((Int×Int)⊕(Int)):=
 bif(decide (a<(ln xF.Blocks)))then((Au (λs:Int×Int=>Lt xF a s.1 s.2) (b,0)).bind λv1=>
 some (.inl (v1,(ad a 1))))
 else(some (.inr b))
def MF (xF:Flash):Option (Int):=
 (Au (λs:Int×Int=>Lu xF s.1 s.2) (0,0)).bind λv2=>
 some v2
def HV (c:List A8) (d:Int) (a:List Bool) (b:Int):Option ((List Bool×Int)⊕(List Bool)):=
 bif(decide (b<(ln c)))then((gi c b).bind λx1=>
 bif(x1.Page.Kind==2)then((gi c b).bind λx2=>
 (gi a b).bind λx3=>
 some (.inl ((si a b (decide (x2.Page.Tx>=d))),(ad b 1))))
 else((gi a b).bind λx4=>
 some (.inl ((si a b false),(ad b 1)))))
 else(some (.inr a))
def Fo (c:List A8) (d:List Int) (e:Int) (a:List Bool) (b:Int):Option ((List Bool×Int)⊕(List Bool)):=
 bif(decide (b>=0))then(((gi c b).bind λx5=>
 bif(x5.Page.Kind==1)then((gi c b).bind λx6=>
 (gi d e).bind λx7=>
 some (x6.Page.Tx==x7))
 else(some false):Option (Bool)).bind λj1=>
 bif j1 then((gi a b).bind λx8=>
 some (.inl ((si a b true),(sb (-1) 1))))
 else(some (.inl (a,(sb b 1)))))
 else(some (.inr a))
def HU (a:List A8) (b:List Int) (c:List Bool) (d:Int):Option ((List Bool×Int)⊕(List Bool)):=
 bif(decide (d<(ln b)))then((Au (λs:List Bool×Int=>Fo a b d s.1 s.2) (c,(sb (ln a) 1))).bind λv2=>
 some (.inl (v2,(ad d 1))))
 else(some (.inr c))
def HW (a:List A8) (b:List Int) (c:Int):Option (List Bool):=
 (mk 1 false (ln a)).bind λq1=>
 (Au (λs:List Bool×Int=>HV a c s.1 s.2) (q1,0)).bind λv1=>
 (Au (λs:List Bool×Int=>HU a b s.1 s.2) (v1,0)).bind λv3=>
 some v3
def IV (xB:Block) (a:Int):Option ((Int)⊕((Unit)⊕(Bool))):=
 bif(decide (a<(ln xB.Leaves)))then((gi xB.Leaves a).bind λx1=>
 bif(x1.Is !=0)then(some (.inr (.inr false)))
 else(some (.inl (ad a 1))))
 else(some (.inr (.inl ())))
def OJ (xB:Block):Option (Bool):=
 (Au (λs:Int=>IV xB s) 0).bind (Sum.elim (λv1=>(some true)) some)
def M9 (b:List A8) (c:List Bool) (xB:Int) (d:Int) (a:Int):Option ((Int×Int)⊕(Int)):=
 bif(decide (a<(ln b)))then((gi c a).bind λx1=>
 bif x1 then((gi b a).bind λx2=>
 bif(x2.Block==xB)then(some (.inl ((ad d 1),(ad a 1))))
 else(some (.inl (d,(ad a 1)))))
 else(some (.inl (d,(ad a 1)))))
 else(some (.inr d))
def Rr (b:List A8) (a:List Bool) (xB:Int):Option (Int):=
 (Au (λs:Int×Int=>M9 b a xB s.1 s.2) (0,0)).bind λv1=>
 some v1
def FO (xD:Bc) (v1:List A8) (v3:List Bool) (a:List Int) (b:Int):Option ((List Int×Int)⊕(List Int)):=
 bif(decide (b<(ln xD.Flash.Blocks)))then((gi xD.Flash.Blocks b).bind λx1=>
 (bif(!x1.Bad)then((OJ x1).bind λv4=>
 bif(!v4)then((Rr v1 v3 b).bind λv5=>
 some (v5==0))
 else(some false))
 else(some false):Option (Bool)).bind λj1=>
 bif j1 then((ap 8 a [b]).bind λq1=>
 some (.inl (q1,(ad b 1))))
 else(some (.inl (a,(ad b 1)))))
 else(some (.inr a))
def Mg (xD:Bc):Option (List Int):=
 (GB xD.Flash).bind λv1=>
 (Lz xD.Store).bind λv2=>
 (HW v1 v2 xD.Base).bind λv3=>
 (Au (λs:List Int×Int=>FO xD v1 v3 s.1 s.2) ([],0)).bind λv6=>
 some v6
def Hv (xD:Bc) (v2:List Tx) (a:Int):Option ((Int)⊕((Unit)⊕(Bool))):=
 bif(decide (a<(ln v2)))then((gi v2 a).bind λx1=>
 bif(x1.Num==xD.Base)then((gi v2 a).bind λx2=>
 bif(decide ((ln x2.Recs)>0))then((gi v2 a).bind λx3=>
 (gi x3.Recs 0).bind λx4=>
 some (.inr (.inr (x4.Kind==1))))
 else(some (.inr (.inr false))))
 else(some (.inl (ad a 1))))
 else(some (.inr (.inl ())))
def OK (xD:Bc):Option (Bool):=
 bif(xD.Base !=(sb xD.Tx 1))then(some false)
 else((GB xD.Flash).bind λv1=>
 (Qu v1).bind λv2=>
 (Au (λs:Int=>Hv xD v2 s) 0).bind (Sum.elim (λv3=>(some false)) some))
def H4 (xS:Store) (c:Int) (v1:List Int) (a:List De) (b:Int):Option ((List De×Int)⊕(List De)):=
 bif(decide (b<(ln v1)))then((gi v1 b).bind λx3=>
 bif(decide (x3>0))then((gi xS.Vols c).bind λx4=>
 (gi v1 b).bind λx5=>
 (ap 32 a [(De.mk 4 x4.Id b x5)]).bind λq2=>
 some (.inl (q2,(ad b 1))))
 else(some (.inl (a,(ad b 1)))))
 else(some (.inr a))
def H5 (xS:Store) (a:List De) (b:Int):Option ((List De×Int)⊕(List De)):=
 bif(decide (b<(ln xS.Vols)))then((gi xS.Vols b).bind λx1=>
 (ap 32 a [(De.mk 2 x1.Id 0 0)]).bind λq1=>
 (gi xS.Vols b).bind λx2=>
 (Jm xS.Arena x2.Root).bind λv1=>
 (Au (λs:List De×Int=>H4 xS b v1 s.1 s.2) (q1,0)).bind λv2=>
 some (.inl (v2,(ad b 1))))
 else(some (.inr a))
def OY (xS:Store):Option (List De):=
 (Au (λs:List De×Int=>H5 xS s.1 s.2) ([(De.mk 1 0 xS.Next 0)],0)).bind λv3=>
 some v3
def GC (xF:Flash) (d:Int) (b:Int) (c:Int) (a:Int):Option ((Int×Int×Int)⊕(Int×Int)):=
 (gi xF.Blocks d).bind λx1=>
 bif(decide (a<(ln x1.Leaves)))then((gi xF.Blocks d).bind λx2=>
 (gi x2.Leaves a).bind λx3=>
 bif(x3.Is==0)then(some (.inl ((ad b 1),c,(ad a 1))))
 else(some (.inl (b,(ad c 1),(ad a 1)))))
 else(some (.inr (b,c)))
def DN (xF:Flash) (a:Int):Option ((Int)⊕((Unit)⊕(Int))):=
 bif(decide (a<(ln xF.Blocks)))then((Au (λs:Int×Int×Int=>GC xF a s.1 s.2.1 s.2.2) (0,0,0)).bind λv1=>
 ((gi xF.Blocks a).bind λx4=>
 bif(!x4.Bad)then(bif(decide (v1.1>0))then(some (decide (v1.2>0)))
 else(some false))
 else(some false):Option (Bool)).bind λj1=>
 bif j1 then(some (.inr (.inr a)))
 else(some (.inl (ad a 1))))
 else(some (.inr (.inl ())))
def JB (xF:Flash):Option (Int):=
 (Au (λs:Int=>DN xF s) 0).bind (Sum.elim (λv2=>(some (-1))) some)
def FM (xF:Flash) (c:Int) (a:Bool) (b:Int):Option ((Bool×Int)⊕(Bool)):=
 (gi xF.Blocks c).bind λx2=>
 bif(decide (b<(ln x2.Leaves)))then(bif a then((gi xF.Blocks c).bind λx3=>
 (gi x3.Leaves b).bind λx4=>
 some (.inl ((x4.Is==0),(ad b 1))))
 else(some (.inl (false,(ad b 1)))))
 else(some (.inr a))
def Ho (xF:Flash) (a:List Int) (b:Int):Option ((List Int×Int)⊕(List Int)):=
 bif(decide (b<(ln xF.Blocks)))then((gi xF.Blocks b).bind λx1=>
 (Au (λs:Bool×Int=>FM xF b s.1 s.2) ((!x1.Bad),0)).bind λv1=>
 bif v1 then((ap 8 a [b]).bind λq1=>
 some (.inl (q1,(ad b 1))))
 else(some (.inl (a,(ad b 1)))))
 else(some (.inr a))
def Me (xF:Flash):Option (List Int):=
 (Au (λs:List Int×Int=>Ho xF s.1 s.2) ([],0)).bind λv2=>
 some v2
def EY (xF:Flash) (v4:List Int) (a:Int) (b:Int):Option ((Int×Int)⊕(Int)):=
 bif(decide (b<(ln v4)))then((gi v4 b).bind λx3=>
 (gi xF.Blocks x3).bind λx4=>
 (gi xF.Blocks a).bind λx5=>
 bif(decide (x4.Wear<x5.Wear))then((gi v4 b).bind λx6=>
 some (.inl (x6,(ad b 1))))
 else(some (.inl (a,(ad b 1)))))
 else(some (.inr a))
def KG (xF:Flash):Option (Int×Int×Bool):=
 (FN xF).bind λv1=>
 bif(!v1)then(some (0,0,false))
 else((JB xF).bind λv2=>
 bif(decide (v2>=0))then((gi xF.Blocks v2).bind λx1=>
 (Gb x1).bind λv3=>
 some (v2,v3,true))
 else((Me xF).bind λv4=>
 bif((ln v4)==0)then(some (0,0,false))
 else((gi v4 0).bind λx2=>
 (Au (λs:Int×Int=>EY xF v4 s.1 s.2) (x2,1)).bind λv5=>
 some (v5,0,true))))
def Hl (xF:Flash) (a:List Bu) (xP:Page):Option (Flash×List Bu×Bool):=
 (Ez xP).bind λv1=>
 (KG xF).bind λv2=>
 (bif(!v1.2)then(some true)
 else(some (!v2.2.2)):Option (Bool)).bind λj1=>
 bif j1 then(some (xF,a,false))
 else((Ja xF (Bu.mk 1 v2.1 v2.2.1 v1.1)).bind λv3=>
 ((ap 40 a [(Bu.mk 1 v2.1 v2.2.1 v1.1)]).bind λq4=>
 some q4:Option (List Bu)).bind λj2=>
 some (v3.1,j2,v3.2))
def Mt (xR:De):Option (ByteArray×Bool):=
 (Nw xR).bind λv1=>
 bif(!v1)then(some ((bs []),false))
 else((J4 (ad (ml 16 xR.Kind) xR.Vol)).bind λv2=>
 (Hm xR.Arg).bind λv3=>
 (HO v2 v3).bind λx1=>
 (Hm xR.Chunk).bind λv4=>
 (HO x1 v4).bind λx2=>
 some (x2,true))
def Ec (b:List De) (a:List ByteArray) (c:Int):Option ((List ByteArray×Int)⊕((List ByteArray)⊕((List Page×Bool)))):=
 bif(decide (c<(ln b)))then((gi b c).bind λx1=>
 (Mt x1).bind λv1=>
 bif(!v1.2)then(some (.inr (.inr ([],false))))
 else((gi a (sb (ln a) 1)).bind λx2=>
 bif(decide ((ad (Fz x2) (Fz v1.1))>90))then((ap 16 a [v1.1]).bind λq1=>
 some (.inl (q1,(ad c 1))))
 else((gi a (sb (ln a) 1)).bind λx3=>
 (HO x3 v1.1).bind λx4=>
 (gi a (sb (ln a) 1)).bind λx5=>
 some (.inl ((si a (sb (ln a) 1) x4),(ad c 1))))))
 else(some (.inr (.inl a)))
def EW (c:Int) (d:Int) (v2:List ByteArray) (a:List Page) (b:Int):Option ((List Page×Int)⊕(List Page)):=
 bif(decide (b<(ln v2)))then((gi v2 b).bind λx6=>
 (ap 56 a [(Page.mk 2 (ad c b) d b (ln v2) x6)]).bind λq2=>
 some (.inl (q2,(ad b 1))))
 else(some (.inr a))
def I3 (a:Int) (c:Int) (b:List De):Option (List Page×Bool):=
 (Au (λs:List ByteArray×Int=>Ec b s.1 s.2) ([(bs [])],0)).bind (Sum.elim (λv2=>((bif(decide ((ln v2)>9))then(some true)
 else((BX a 1 (ad (sb 1000000000 (ln v2)) 1)).bind λv3=>
 bif(!v3)then(some true)
 else((BX c 1 1000000000).bind λv4=>
 some (!v4))):Option (Bool)).bind λj1=>
 bif j1 then(some ([],false))
 else((Au (λs:List Page×Int=>EW a c v2 s.1 s.2) ([],0)).bind λv5=>
 some (v5,true)))) some)
def Ci (v2:List Page×Bool) (a:List Bu) (b:Bool) (c:Int) (d:List Block):Option ((List Bu×Bool×Int×List Block)⊕(List Bu×Bool)):=
 (bif(decide (c<(ln v2.1)))then(some b)
 else(some false):Option (Bool)).bind λj3=>
 bif j3 then(((gi v2.1 c).bind λx2=>
 (Hl (Flash.mk d) a x2).bind λv3=>
 some (v3.2.1,v3.2.2,v3.1.Blocks):Option (List Bu×Bool×List Block)).bind λj4=>
 some (.inl (j4.1,j4.2.1,(ad c 1),j4.2.2)))
 else(some (.inr (a,b)))
def D4 (xD:Bc) (a:List De) (b:ByteArray):Option (List Bu×Bool):=
 bif((ln a)==0)then(some ([],true))
 else((bif(!(seq b (bs [])))then(((gi a (sb (ln a) 1)).bind λx1=>
 (Hl xD.Flash [] (Page.mk 1 xD.Seq x1.Chunk 0 1 b)).bind λv1=>
 some (v1.2.1,v1.2.2,v1.1.Blocks):Option (List Bu×Bool×List Block)).bind λj2=>
 some (j2.1,(ad xD.Seq 1),j2.2.1,j2.2.2))
 else(some ([],xD.Seq,true,xD.Flash.Blocks)):Option (List Bu×Int×Bool×List Block)).bind λj1=>
 (I3 j1.2.1 xD.Tx a).bind λv2=>
 (Au (λs:List Bu×Bool×Int×List Block=>Ci v2 s.1 s.2.1 s.2.2.1 s.2.2.2) (j1.1,j1.2.2.1,0,j1.2.2.2)).bind λv4=>
 (bif(!v4.2)then(some true)
 else(some (!v2.2)):Option (Bool)).bind λj5=>
 bif j5 then(some ([],false))
 else(some (v4.1,true)))
def Qw (xD:Bc):Option (List Bu×Bool):=
 (OY xD.Store).bind λv1=>
 (D4 xD v1 (bs [])).bind λv2=>
 some (v2.1,v2.2)
def Hz (xD:Bc) (v1:List A8) (v3:List Bool) (v4:List Bool) (c:Int) (a:Int) (b:Int):Option ((Int×Int×Int)⊕(Int)):=
 bif(decide (b<(ln xD.Flash.Blocks)))then((gi xD.Flash.Blocks b).bind λx1=>
 (Rr v1 v3 b).bind λv5=>
 (bif(!x1.Bad)then((Gb x1).bind λv6=>
 bif(v6==4)then((Rr v1 v4 b).bind λv7=>
 bif(v5==v7)then(bif(decide (v5>=1))then(some (decide (v5<a)))
 else(some false))
 else(some false))
 else(some false))
 else(some false):Option (Bool)).bind λj1=>
 bif j1 then(some (.inl (b,v5,(ad b 1))))
 else(some (.inl (c,a,(ad b 1)))))
 else(some (.inr c))
def ON (xD:Bc):Option (Int):=
 (GB xD.Flash).bind λv1=>
 (Lz xD.Store).bind λv2=>
 (HW v1 v2 xD.Base).bind λv3=>
 (HW v1 v2 1000000000).bind λv4=>
 (Au (λs:Int×Int×Int=>Hz xD v1 v3 v4 s.1 s.2.1 s.2.2) ((-1),4,0)).bind λv8=>
 some v8
def GD (xB:Int) (v1:List A8) (v3:List Bool) (e:Int) (a:List Bu) (b:Int) (c:Int) (d:List Block):Option ((List Bu×Int×Int×List Block)⊕((List Bu×Int×List Block)⊕((List Bu×Int×Int×List Block)⊕((List Bu)⊕((List Bu×Bool)))))):=
 bif(decide (c<(ln v1)))then(((gi v3 c).bind λx1=>
 bif(!x1)then(some true)
 else((gi v1 c).bind λx2=>
 bif(x2.Block !=xB)then(some true)
 else((gi v1 c).bind λx3=>
 some (x3.Leaf !=e))):Option (Bool)).bind λj1=>
 bif j1 then(some (.inl (a,b,(ad c 1),d)))
 else((gi v1 c).bind λx4=>
 (Hl (Flash.mk d) a (Page.mk x4.Page.Kind b x4.Page.Tx x4.Page.Part x4.Page.Count x4.Page.Text)).bind λv4=>
 (bif(!v4.2.2)then(some true)
 else((gi v4.2.1 (sb (ln v4.2.1) 1)).bind λx5=>
 some (x5.Block==xB)):Option (Bool)).bind λj2=>
 bif j2 then(some (.inr (.inr (.inr (.inr ([],false))))))
 else(some (.inl (v4.2.1,(ad b 1),(ad c 1),v4.1.Blocks)))))
 else(some (.inr (.inl (a,b,d))))
def GE (xB:Int) (v1:List A8) (v3:List Bool) (b:List Bu) (c:Int) (a:Int) (d:List Block):Option ((List Bu×Int×Int×List Block)⊕((List Bu)⊕((List Bu×Bool)))):=
 bif(decide (a<4))then((Au (λs:List Bu×Int×Int×List Block=>GD xB v1 v3 a s.1 s.2.1 s.2.2.1 s.2.2.2) (b,c,0,d)).bind (Sum.elim (λv5=>(some (.inl (v5.1,v5.2.1,(ad a 1),v5.2.2)))) some))
 else(some (.inr (.inl b)))
def Lv (xD:Bc) (xB:Int):Option (List Bu×Bool):=
 (GB xD.Flash).bind λv1=>
 (Lz xD.Store).bind λv2=>
 (HW v1 v2 1000000001).bind λv3=>
 (Au (λs:List Bu×Int×Int×List Block=>GE xB v1 v3 s.1 s.2.1 s.2.2.1 s.2.2.2) ([],xD.Seq,0,xD.Flash.Blocks)).bind (Sum.elim (λv6=>(some (v6,true))) some)
def OX (xD:Bc):Option (List Bu×Bool):=
 (Mg xD).bind λv1=>
 bif(decide ((ln v1)>0))then((gi v1 0).bind λx1=>
 some ([(Bu.mk 2 x1 0 (bs []))],true))
 else((OK xD).bind λv2=>
 bif(!v2)then((Qw xD).bind λv3=>
 some (v3.1,v3.2))
 else((ON xD).bind λv4=>
 bif(decide (v4<0))then(some ([],false))
 else((Lv xD v4).bind λv5=>
 some (v5.1,v5.2))))
def Hg (xD:Bc) (a:List Bu):Option (Bc):=
 (H1 xD.Flash a).bind λv1=>
 (CL v1.1).bind λv2=>
 some v2.1
def H3 (i:Int) (h:List Bu) (j:Int) (a:List Block) (b:List Vol) (c:List BL) (d:Int) (e:Int) (f:Int) (g:Int):Option ((List Bu×Int×List Block×List Vol×List BL×Int×Int×Int×Int)⊕((List Bu×List Block×List Vol×List BL×Int×Int×Int×Int)⊕((Bc×List Bu)))):=
 (bif(decide (j<i))then(bif(decide (j<20))then((MF (Flash.mk a)).bind λv2=>
 some (decide (v2<12)))
 else(some false))
 else(some false):Option (Bool)).bind λj1=>
 bif j1 then((OX (Bc.mk (Flash.mk a) (Store.mk b (Arena.mk c) d) e f g)).bind λv3=>
 bif(!v3.2)then(some (.inr (.inr ((Bc.mk (Flash.mk a) (Store.mk b (Arena.mk c) d) e f g),h))))
 else((Hg (Bc.mk (Flash.mk a) (Store.mk b (Arena.mk c) d) e f g) v3.1).bind λv4=>
 (ap 40 h v3.1).bind λq1=>
 some (.inl (q1,(ad j 1),v4.Flash.Blocks,v4.Store.Vols,v4.Store.Arena.Knots,v4.Store.Next,v4.Seq,v4.Tx,v4.Base))))
 else(some (.inr (.inl (h,a,b,c,d,e,f,g))))
def MJ (xD:Bc) (a:Int):Option (Bc×List Bu):=
 (Oc xD).bind λv1=>
 (Au (λs:List Bu×Int×List Block×List Vol×List BL×Int×Int×Int×Int=>H3 a s.1 s.2.1 s.2.2.1 s.2.2.2.1 s.2.2.2.2.1 s.2.2.2.2.2.1 s.2.2.2.2.2.2.1 s.2.2.2.2.2.2.2.1 s.2.2.2.2.2.2.2.2) ([],0,v1.Flash.Blocks,v1.Store.Vols,v1.Store.Arena.Knots,v1.Store.Next,v1.Seq,v1.Tx,v1.Base)).bind (Sum.elim (λv5=>(some ((Bc.mk (Flash.mk v5.2.1) (Store.mk v5.2.2.1 (Arena.mk v5.2.2.2.1) v5.2.2.2.2.1) v5.2.2.2.2.2.1 v5.2.2.2.2.2.2.1 v5.2.2.2.2.2.2.2),v5.1))) some)
def Wo (xD:Bc) (xQ:Y7):Option (Bc×List Bu×ByteArray×Int):=
 (Oc xD).bind λv1=>
 (MI xD).bind λv2=>
 bif(!v2)then(some (v1,[],(bs []),5))
 else((IY xD xQ).bind λv3=>
 bif(v3.2.2 !=0)then(some (v1,[],(bs []),v3.2.2))
 else(bif(xQ.Kind==6)then((Xg xD xQ.Vol xQ.Sector).bind λv4=>
 bif(!v4.2)then(some (v1,[],(bs []),1))
 else(some (v1,[],v4.1,0)))
 else((MF xD.Flash).bind λv5=>
 (bif(decide (v5<12))then((MJ xD 20).bind λv6=>
 some (v6.2,v6.1.Flash.Blocks,v6.1.Store.Vols,v6.1.Store.Arena.Knots,v6.1.Store.Next,v6.1.Seq,v6.1.Tx,v6.1.Base))
 else(some ([],v1.Flash.Blocks,v1.Store.Vols,v1.Store.Arena.Knots,v1.Store.Next,v1.Seq,v1.Tx,v1.Base)):Option (List Bu×List Block×List Vol×List BL×Int×Int×Int×Int)).bind λj1=>
 (IY (Bc.mk (Flash.mk j1.2.1) (Store.mk j1.2.2.1 (Arena.mk j1.2.2.2.1) j1.2.2.2.2.1) j1.2.2.2.2.2.1 j1.2.2.2.2.2.2.1 j1.2.2.2.2.2.2.2) xQ).bind λv7=>
 (D4 (Bc.mk (Flash.mk j1.2.1) (Store.mk j1.2.2.1 (Arena.mk j1.2.2.2.1) j1.2.2.2.2.1) j1.2.2.2.2.2.1 j1.2.2.2.2.2.2.1 j1.2.2.2.2.2.2.2) v7.1 v7.2.1).bind λv8=>
 (bif(!v8.2)then(some true)
 else((MF (Flash.mk j1.2.1)).bind λv9=>
 some (decide (v9<8))):Option (Bool)).bind λj2=>
 bif j2 then(some ((Bc.mk (Flash.mk j1.2.1) (Store.mk j1.2.2.1 (Arena.mk j1.2.2.2.1) j1.2.2.2.2.1) j1.2.2.2.2.2.1 j1.2.2.2.2.2.2.1 j1.2.2.2.2.2.2.2),j1.1,(bs []),4))
 else((Hg (Bc.mk (Flash.mk j1.2.1) (Store.mk j1.2.2.1 (Arena.mk j1.2.2.2.1) j1.2.2.2.2.1) j1.2.2.2.2.2.1 j1.2.2.2.2.2.2.1 j1.2.2.2.2.2.2.2) v8.1).bind λv10=>
 (ap 40 j1.1 v8.1).bind λq1=>
 some (v10,q1,(bs []),0)))))
def G6 (h:Int) (a:List Block) (b:List Vol) (c:List BL) (d:Int) (e:Int) (f:Int) (g:Int) (i:List Int) (j:Int) (k:Int):Option ((Int×List Block×List Vol×List BL×Int×Int×Int×Int×List Int×Int×Int)⊕(List Block×List Vol×List BL×Int×Int×Int×Int×List Int×Int×Int)):=
 (DS (Ce.mk i j k) 12).bind λv3=>
 bif(decide (h<v3.1))then(((Ob v3.2 (Bc.mk (Flash.mk a) (Store.mk b (Arena.mk c) d) e f g)).bind λv5=>
 (Wo (Bc.mk (Flash.mk a) (Store.mk b (Arena.mk c) d) e f g) v5.1).bind λv6=>
 some (v6.1.Flash.Blocks,v6.1.Store.Vols,v6.1.Store.Arena.Knots,v6.1.Store.Next,v6.1.Seq,v6.1.Tx,v6.1.Base,v5.2.b_,v5.2.i_,v5.2.h_):Option (List Block×List Vol×List BL×Int×Int×Int×Int×List Int×Int×Int)).bind λj1=>
 some (.inl ((ad h 1),j1.1,j1.2.1,j1.2.2.1,j1.2.2.2.1,j1.2.2.2.2.1,j1.2.2.2.2.2.1,j1.2.2.2.2.2.2.1,j1.2.2.2.2.2.2.2.1,j1.2.2.2.2.2.2.2.2.1,j1.2.2.2.2.2.2.2.2.2)))
 else(some (.inr (a,b,c,d,e,f,g,v3.2.b_,v3.2.i_,v3.2.h_)))
def Lq (xC:Ce):Option (Bc×Ce):=
 (DS xC 4).bind λv1=>
 (Nz (ad 5 v1.1)).bind λv2=>
 (Au (λs:Int×List Block×List Vol×List BL×Int×Int×Int×Int×List Int×Int×Int=>G6 s.1 s.2.1 s.2.2.1 s.2.2.2.1 s.2.2.2.2.1 s.2.2.2.2.2.1 s.2.2.2.2.2.2.1 s.2.2.2.2.2.2.2.1 s.2.2.2.2.2.2.2.2.1 s.2.2.2.2.2.2.2.2.2.1 s.2.2.2.2.2.2.2.2.2.2) (0,v2.1.Flash.Blocks,v2.1.Store.Vols,v2.1.Store.Arena.Knots,v2.1.Store.Next,v2.1.Seq,v2.1.Tx,v2.1.Base,v1.2.b_,v1.2.i_,v1.2.h_)).bind λv9=>
 some ((Bc.mk (Flash.mk v9.1) (Store.mk v9.2.1 (Arena.mk v9.2.2.1) v9.2.2.2.1) v9.2.2.2.2.1 v9.2.2.2.2.2.1 v9.2.2.2.2.2.2.1),(Ce.mk v9.2.2.2.2.2.2.2.1 v9.2.2.2.2.2.2.2.2.1 v9.2.2.2.2.2.2.2.2.2))
def Mf (a:List Int):Option (Bc):=
 (Qq a).bind λv1=>
 (Lq v1).bind λv2=>
 some v2.1
def Rv (a:List Int):Option (Y7):=
 (Qq a).bind λv1=>
 (Lq v1).bind λv2=>
 (Ob v2.2 v2.1).bind λv3=>
 some v3.1
def Ik (xL:List Int):Option (List Int):=
 (ap 8 [] xL).bind λq1=>
 some q1
def Im (xA:Arena) (y1:Int) (a:List BL):Option ((Int×List BL)⊕(List BL)):=
 bif(decide (y1<(ln xA.Knots)))then((gi xA.Knots y1).bind λx1=>
 (Ik x1.Kids).bind λv1=>
 (ap 32 a [(BL.mk x1.Leaf v1)]).bind λq1=>
 some (.inl ((ad y1 1),q1)))
 else(some (.inr a))
def Io (xA:Arena):Option (Arena):=
 (Au (λs:Int×List BL=>Im xA s.1 s.2) (0,[])).bind λv2=>
 some (Arena.mk v2)
def Ij (xS:Store):Option (Store):=
 (ap 16 [] xS.Vols).bind λq1=>
 (Io xS.Arena).bind λv1=>
 some (Store.mk q1 v1 xS.Next)
def IG (a:Int) (y1:Int):Option ((Int×Int)⊕(Int)):=
 bif(decide (y1<8))then(bif((an a 1)==1)then(some (.inl ((xr (Int.fdiv a (2^(min (1:Int).toNat IntKind.u32.bits))) 3558460437),(ad y1 1))))
 else(some (.inl ((Int.fdiv a (2^(min (1:Int).toNat IntKind.u32.bits))),(ad y1 1)))))
 else(some (.inr a))
def Kk (a:ByteArray) (b:Int) (c:Int):Option ((Int×Int)⊕(Int)):=
 bif(decide (c<(Fz a)))then((sx a c).bind λx1=>
 (Au (λs:Int×Int=>IG s.1 s.2) ((xr b (IntKind.u32.wrap x1)),0)).bind λv1=>
 some (.inl (v1,(ad c 1))))
 else(some (.inr b))
def R8 (b:Int) (a:ByteArray):Option (Int):=
 (Au (λs:Int×Int=>Kk a s.1 s.2) (b,0)).bind λv2=>
 some v2
def Wz (a:ByteArray):Option (Int):=
 (R8 4294967295 a).bind λv1=>
 some v1
def Ip (a:ByteArray):Option (ByteArray×Bool):=
 bif(decide ((Fz a)>20000))then(some ((bs []),false))
 else((Wz a).bind λv1=>
 (HO a (EG [(IntKind.u8.wrap (Int.fdiv v1 (2^(min (24:Int).toNat IntKind.u32.bits)))),(IntKind.u8.wrap (Int.fdiv v1 (2^(min (16:Int).toNat IntKind.u32.bits)))),(IntKind.u8.wrap (Int.fdiv v1 (2^(min (8:Int).toNat IntKind.u32.bits)))),(IntKind.u8.wrap v1)])).bind λx1=>
 some (x1,true))
def Pq (a:ByteArray):Option (ByteArray×Bool):=
 bif(decide ((Fz a)<4))then(some ((bs []),false))
 else((sub a 0 (sb (Fz a) 4)).bind λx1=>
 (Ip x1).bind λv1=>
 (bif(!v1.2)then(some true)
 else(some (!(seq v1.1 a))):Option (Bool)).bind λj1=>
 bif j1 then(some ((bs []),false))
 else(some (x1,true)))
def Hk (b:ByteArray) (c:Int) (d:Int) (a:Int):Option ((Int×Int)⊕((Unit)⊕((Int×Int×Bool)))):=
 (bif(decide (a<5))then(bif(decide (c>=0))then(some (decide (c<(sb (Fz b) a))))
 else(some false))
 else(some false):Option (Bool)).bind λj1=>
 bif j1 then((sx b (ad c a)).bind λx1=>
 (shl .i64 (Int.tmod (IntKind.i64.wrap x1) 128) (ml 7 a)).bind λx2=>
 bif(decide ((IntKind.i64.wrap x1)>=128))then(some (.inl ((ad d x2),(ad a 1))))
 else((bif((IntKind.i64.wrap x1)==0)then(bif(decide (a>0))then(some true)
 else(some (decide ((ad d x2)>1000000000))))
 else(some (decide ((ad d x2)>1000000000))):Option (Bool)).bind λj2=>
 bif j2 then(some (.inr (.inr (0,0,false))))
 else(some (.inr (.inr ((ad d x2),(ad (ad c a) 1),true))))))
 else(some (.inr (.inl ())))
def JJ (a:ByteArray) (b:Int):Option (Int×Int×Bool):=
 (Au (λs:Int×Int=>Hk a b s.1 s.2) (0,0)).bind (Sum.elim (λv1=>(some (0,0,false))) some)
def QS (xP:Page):Option (Bool):=
 ((HF xP.Seq 1 1000000000).bind λv1=>
 bif(!v1)then(some true)
 else((HF xP.Tx 1 1000000000).bind λv2=>
 bif(!v2)then(some true)
 else((HF xP.Count 1 9).bind λv3=>
 bif(!v3)then(some true)
 else((HF xP.Part 0 (sb xP.Count 1)).bind λv4=>
 bif(!v4)then(some true)
 else(some (decide ((Fz xP.Text)>90)))))):Option (Bool)).bind λj1=>
 bif j1 then(some false)
 else(bif(xP.Kind==2)then(some true)
 else(bif(xP.Kind==1)then(some (xP.Count==1))
 else(some false)))
def ED (v1:ByteArray×Bool) (e:Int) (y1:Int) (a:Int) (b:Int) (c:Int) (d:Int):Option ((Int×Int×Int×Int×Int×Int)⊕((Int×Int×Int×Int×Int)⊕((Page×Bool)))):=
 bif(decide (y1<4))then((JJ v1.1 e).bind λv2=>
 bif(!v2.2.2)then(some (.inr (.inr ((Page.mk 0 0 0 0 0 (bs [])),false))))
 else(bif(y1==0)then(some (.inl (v2.2.1,(ad y1 1),v2.1,b,c,d)))
 else(bif(y1==1)then(some (.inl (v2.2.1,(ad y1 1),a,v2.1,c,d)))
 else(bif(y1==2)then(some (.inl (v2.2.1,(ad y1 1),a,b,v2.1,d)))
 else(bif(y1==3)then(some (.inl (v2.2.1,(ad y1 1),a,b,c,v2.1)))
 else none)))))
 else(some (.inr (.inl (e,a,b,c,d))))
def Pw (xT:ByteArray):Option (Page×Bool):=
 (Pq xT).bind λv1=>
 (bif(!v1.2)then(some true)
 else(some (seq v1.1 (bs []))):Option (Bool)).bind λj1=>
 bif j1 then(some ((Page.mk 0 0 0 0 0 (bs [])),false))
 else((Au (λs:Int×Int×Int×Int×Int×Int=>ED v1 s.1 s.2.1 s.2.2.1 s.2.2.2.1 s.2.2.2.2.1 s.2.2.2.2.2) (1,0,0,0,0,0)).bind (Sum.elim (λv3=>((sx v1.1 0).bind λx1=>
 (sub v1.1 v3.1 (Fz v1.1)).bind λx2=>
 (QS (Page.mk (IntKind.i64.wrap x1) v3.2.1 v3.2.2.1 v3.2.2.2.1 v3.2.2.2.2 x2)).bind λv4=>
 bif(!v4)then(some ((Page.mk 0 0 0 0 0 (bs [])),false))
 else(some ((Page.mk (IntKind.i64.wrap x1) v3.2.1 v3.2.2.1 v3.2.2.2.1 v3.2.2.2.2 x2),true)))) some))
def BT (x:A8):Int:=x.Page.Seq
def Kl (y1:Int) (x1:Block) (y2:Int) (a:List A8):Option ((Int×List A8)⊕(List A8)):=
 bif(decide (y2<(ln x1.Leaves)))then((gi x1.Leaves y2).bind λx2=>
 (Pw x2.Text).bind λv1=>
 (bif v1.2 then(some (x2.Is==1))
 else(some false):Option (Bool)).bind λj1=>
 bif j1 then((ap 72 a [(A8.mk y1 y2 v1.1)]).bind λq1=>
 some (.inl ((ad y2 1),q1)))
 else(some (.inl ((ad y2 1),a))))
 else(some (.inr a))
def IK (xF:Flash) (y1:Int) (a:List A8):Option ((Int×List A8)⊕(List A8)):=
 bif(decide (y1<(ln xF.Blocks)))then((gi xF.Blocks y1).bind λx1=>
 (Au (λs:Int×List A8=>Kl y1 x1 s.1 s.2) (0,a)).bind λv2=>
 some (.inl ((ad y1 1),v2)))
 else(some (.inr a))
def JI (xF:Flash):Option (List A8):=
 (Au (λs:Int×List A8=>IK xF s.1 s.2) (0,[])).bind λv3=>
 (D1 (Nj BT) v3 (ln v3)).bind λv4=>
 some v4
def Ps:Option (Store):=
 some (Store.mk [] (Arena.mk []) 1)
def IL (v1:List A8) (a:Int) (y1:Int):Option ((Int×Int)⊕(Int)):=
 bif(decide (y1<(ln v1)))then((gi v1 y1).bind λx1=>
 some (.inl ((if x1.Page.Seq>a then x1.Page.Seq else a),(ad y1 1))))
 else(some (.inr a))
def RE (xF:Flash):Option (Int):=
 (JI xF).bind λv1=>
 (Au (λs:Int×Int=>IL v1 s.1 s.2) (0,0)).bind λv2=>
 some v2
def JH (xL:List Int) (xN:Int) (y1:Int):Option ((Int)⊕((Unit)⊕(Bool))):=
 bif(decide (y1<(ln xL)))then((gi xL y1).bind λx1=>
 bif(x1==xN)then(some (.inr (.inr true)))
 else(some (.inl (ad y1 1))))
 else(some (.inr (.inl ())))
def MY (xL:List Int) (xN:Int):Option (Bool):=
 (Au (λs:Int=>JH xL xN s) 0).bind (Sum.elim (λv1=>(some false)) some)
def JG (b:List A8) (d:Int) (c:Int) (a:Int) (y1:Int):Option ((Int)⊕((Unit)⊕((Page×Bool)))):=
 bif(decide (y1<(ln b)))then((gi b y1).bind λx1=>
 (bif(x1.Page.Kind==2)then(bif(x1.Page.Tx==d)then(bif(x1.Page.Part==c)then(bif(a==0)then(some true)
 else(some (x1.Page.Count==a)))
 else(some false))
 else(some false))
 else(some false):Option (Bool)).bind λj1=>
 bif j1 then(some (.inr (.inr (x1.Page,true))))
 else(some (.inl (ad y1 1))))
 else(some (.inr (.inl ())))
def QM (b:List A8) (d:Int) (c:Int) (a:Int):Option (Page×Bool):=
 (Au (λs:Int=>JG b d c a s) 0).bind (Sum.elim (λv1=>(some ((Page.mk 0 0 0 0 0 (bs [])),false))) some)
def Pu (xR:De):Option (Bool):=
 bif(xR.Kind==1)then((bif(xR.Vol==0)then((HF xR.Arg 0 1000000000).bind λv1=>
 bif v1 then(some (xR.Chunk==0))
 else(some false))
 else(some false):Option (Bool)).bind λj1=>
 some j1)
 else(((HF xR.Vol 1 9).bind λv2=>
 bif(!v2)then(some true)
 else(bif(xR.Kind !=4)then(some (xR.Chunk !=0))
 else(some false)):Option (Bool)).bind λj2=>
 bif j2 then(some false)
 else(bif(xR.Kind==2)then((HF xR.Arg 0 9).bind λv3=>
 some v3)
 else(bif(xR.Kind==3)then(some (xR.Arg==0))
 else(bif(xR.Kind==4)then((HF xR.Arg 0 15).bind λv4=>
 bif v4 then((HF xR.Chunk 1 1000000000).bind λv5=>
 some v5)
 else(some false))
 else(bif(xR.Kind==5)then((HF xR.Arg 0 15).bind λv6=>
 some v6)
 else(some false))))))
def Lh (xT:ByteArray) (b:List De) (a:Int):Option ((List De×Int)⊕((List De)⊕((List De×Bool)))):=
 bif(decide (a<(Fz xT)))then((JJ xT (ad a 1)).bind λv1=>
 (JJ xT v1.2.1).bind λv2=>
 (sx xT a).bind λx1=>
 (sx xT a).bind λx2=>
 (bif(!v1.2.2)then(some true)
 else(bif(!v2.2.2)then(some true)
 else((Pu (De.mk (qu (IntKind.i64.wrap x1) 16) (Int.tmod (IntKind.i64.wrap x2) 16) v1.1 v2.1)).bind λv3=>
 some (!v3))):Option (Bool)).bind λj1=>
 bif j1 then(some (.inr (.inr ([],false))))
 else((ap 32 b [(De.mk (qu (IntKind.i64.wrap x1) 16) (Int.tmod (IntKind.i64.wrap x2) 16) v1.1 v2.1)]).bind λq1=>
 some (.inl (q1,v2.2.1))))
 else(some (.inr (.inl b)))
def Pv (xT:ByteArray):Option (List De×Bool):=
 (Au (λs:List De×Int=>Lh xT s.1 s.2) ([],0)).bind (Sum.elim (λv4=>(some (v4,true))) some)
def Lc (d:List A8) (e:Int) (v1:Page×Bool) (c:ByteArray) (b:Int) (a:Int):Option ((ByteArray×Int×Int)⊕((ByteArray×Int)⊕((Tx×Bool)))):=
 bif(decide (a<v1.1.Count))then((QM d e a v1.1.Count).bind λv2=>
 bif(!v2.2)then(some (.inr (.inr ((Tx.mk 0 0 []),false))))
 else((HO c v2.1.Text).bind λx1=>
 some (.inl (x1,(if v2.1.Seq<b then v2.1.Seq else b),(ad a 1)))))
 else(some (.inr (.inl (c,b))))
def Po (a:List A8) (b:Int):Option (Tx×Bool):=
 (QM a b 0 0).bind λv1=>
 bif(!v1.2)then(some ((Tx.mk 0 0 []),false))
 else((Au (λs:ByteArray×Int×Int=>Lc a b v1 s.1 s.2.1 s.2.2) (v1.1.Text,v1.1.Seq,1)).bind (Sum.elim (λv3=>((Pv v3.1).bind λv4=>
 some ((Tx.mk b v3.2 v4.1),v4.2))) some))
def JL (b:List A8) (a:List Int) (y1:Int):Option ((List Int×Int)⊕(List Int)):=
 bif(decide (y1<(ln b)))then((gi b y1).bind λx1=>
 (bif(x1.Page.Kind==2)then((MY a x1.Page.Tx).bind λv1=>
 some (!v1))
 else(some false):Option (Bool)).bind λj1=>
 bif j1 then((ap 8 a [x1.Page.Tx]).bind λq1=>
 some (.inl (q1,(ad y1 1))))
 else(some (.inl (a,(ad y1 1)))))
 else(some (.inr a))
def JK (b:List A8) (v3:List Int) (a:List Tx) (y2:Int):Option ((List Tx×Int)⊕(List Tx)):=
 bif(decide (y2<(ln v3)))then((gi v3 y2).bind λx2=>
 (Po b x2).bind λv4=>
 bif v4.2 then((ap 40 a [v4.1]).bind λq2=>
 some (.inl (q2,(ad y2 1))))
 else(some (.inl (a,(ad y2 1)))))
 else(some (.inr a))
def TX (a:List A8):Option (List Tx):=
 (Au (λs:List Int×Int=>JL a s.1 s.2) ([],0)).bind λv2=>
 (WY v2).bind λv3=>
 (Au (λs:List Tx×Int=>JK a v3 s.1 s.2) ([],0)).bind λv5=>
 some v5
def TT (xT:Tx):Option (Bool):=
 bif(decide ((ln xT.Recs)>0))then((gi xT.Recs 0).bind λx1=>
 some (x1.Kind==1))
 else(some false)
def GL (b:List Tx) (a:Int) (y1:Int):Option ((Int×Int)⊕(Int)):=
 bif(decide (y1<(ln b)))then((gi b y1).bind λx1=>
 (TT x1).bind λv1=>
 bif v1 then(some (.inl (y1,(ad y1 1))))
 else(some (.inl (a,(ad y1 1)))))
 else(some (.inr a))
def GK (x2:List Tx) (a:List Tx) (y2:Int):Option ((List Tx×Int)⊕(List Tx)):=
 bif(decide (y2<(ln x2)))then((gi x2 y2).bind λx3=>
 (ap 32 [] x3.Recs).bind λq1=>
 (ap 40 a [(Tx.mk x3.Num x3.Seq q1)]).bind λq2=>
 some (.inl (q2,(ad y2 1))))
 else(some (.inr a))
def N6 (a:List Tx):Option (List Tx):=
 (Au (λs:Int×Int=>GL a s.1 s.2) (0,0)).bind λv2=>
 (dr a v2 (ln a)).bind λx2=>
 (Au (λs:List Tx×Int=>GK x2 s.1 s.2) ([],0)).bind λv3=>
 some v3
def Mn (xA:Arena) (y1:Int) (x1:BL) (y2:Int):Option ((Int)⊕((Unit)⊕((Int)⊕((Unit)⊕(Bool))))):=
 bif(decide (y2<(ln x1.Kids)))then((gi x1.Kids y2).bind λx2=>
 (bif x1.Leaf then(bif(decide (x2<0))then(some true)
 else(bif(!x1.Leaf)then(bif(x2 !=(-1))then((HF x2 0 (sb y1 1)).bind λv1=>
 bif(!v1)then(some true)
 else((gi xA.Knots x2).bind λx3=>
 some (!x3.Leaf)))
 else(some false))
 else(some false)))
 else(bif(!x1.Leaf)then(bif(x2 !=(-1))then((HF x2 0 (sb y1 1)).bind λv2=>
 bif(!v2)then(some true)
 else((gi xA.Knots x2).bind λx4=>
 some (!x4.Leaf)))
 else(some false))
 else(some false)):Option (Bool)).bind λj1=>
 bif j1 then(some (.inr (.inr (.inr (.inr false)))))
 else(some (.inl (ad y2 1))))
 else(some (.inr (.inl ())))
def Mo (xA:Arena) (y1:Int):Option ((Int)⊕((Unit)⊕(Bool))):=
 bif(decide (y1<(ln xA.Knots)))then((gi xA.Knots y1).bind λx1=>
 bif((ln x1.Kids) !=4)then(some (.inr (.inr false)))
 else((Au (λs:Int=>Mn xA y1 x1 s) 0).bind (Sum.elim (λv3=>(some (.inl (ad y1 1)))) some)))
 else(some (.inr (.inl ())))
def IM (xA:Arena):Option (Bool):=
 (Au (λs:Int=>Mo xA s) 0).bind (Sum.elim (λv4=>(some true)) some)
def GI (xA:Arena) (a:Int):Option (Bool):=
 (HF a 0 (sb (ln xA.Knots) 1)).bind λv1=>
 bif v1 then((gi xA.Knots a).bind λx1=>
 some (!x1.Leaf))
 else(some false)
def Ki (xA:Arena) (x1:BL) (a:List Int) (y1:Int):Option ((List Int×Int)⊕(List Int)):=
 bif(decide (y1<(ln x1.Kids)))then((gi x1.Kids y1).bind λx2=>
 ((HF x2 0 (sb (ln xA.Knots) 1)).bind λv2=>
 bif v2 then((MY a x2).bind λv3=>
 some (!v3))
 else(some false):Option (Bool)).bind λj1=>
 bif j1 then((ap 8 a [x2]).bind λq1=>
 some (.inl (q1,(ad y1 1))))
 else(some (.inl (a,(ad y1 1)))))
 else(some (.inr a))
def Ou (xA:Arena) (a:Int):Option (List Int):=
 (GI xA a).bind λv1=>
 bif(!v1)then(some [])
 else((gi xA.Knots a).bind λx1=>
 (Au (λs:List Int×Int=>Ki xA x1 s.1 s.2) ([a],0)).bind λv4=>
 some v4)
def IJ (xS:Store) (a:List Int) (y1:Int):Option ((List Int×Int)⊕((List Int)⊕(Bool))):=
 bif(decide (y1<(ln xS.Vols)))then((gi xS.Vols y1).bind λx1=>
 ((HF x1.Id 1 9).bind λv3=>
 bif(!v3)then(some true)
 else(bif(decide (y1>0))then((gi xS.Vols (sb y1 1)).bind λx2=>
 bif(decide (x2.Id>=x1.Id))then(some true)
 else(bif(x1.Root !=(-1))then((GI xS.Arena x1.Root).bind λv4=>
 some (!v4))
 else(some false)))
 else(bif(x1.Root !=(-1))then((GI xS.Arena x1.Root).bind λv5=>
 some (!v5))
 else(some false))):Option (Bool)).bind λj2=>
 bif j2 then(some (.inr (.inr false)))
 else((Ou xS.Arena x1.Root).bind λv6=>
 (ap 8 a v6).bind λq1=>
 some (.inl (q1,(ad y1 1)))))
 else(some (.inr (.inl a)))
def IH (xS:Store) (x3:BL) (y3:Int):Option ((Int)⊕((Unit)⊕((Int)⊕((Unit)⊕(Bool))))):=
 bif(decide (y3<(ln x3.Kids)))then((gi x3.Kids y3).bind λx4=>
 bif x3.Leaf then(bif(decide (x4>=xS.Next))then(some (.inr (.inr (.inr (.inr false)))))
 else(some (.inl (ad y3 1))))
 else(some (.inl (ad y3 1))))
 else(some (.inr (.inl ())))
def II (xS:Store) (v7:List Int) (y2:Int):Option ((Int)⊕((Unit)⊕(Bool))):=
 bif(decide (y2<(ln xS.Arena.Knots)))then((gi xS.Arena.Knots y2).bind λx3=>
 (MY v7 y2).bind λv8=>
 bif(!v8)then(some (.inr (.inr false)))
 else((Au (λs:Int=>IH xS x3 s) 0).bind (Sum.elim (λv9=>(some (.inl (ad y2 1)))) some)))
 else(some (.inr (.inl ())))
def R9 (xS:Store):Option (Bool):=
 (bif(decide ((ln xS.Vols)>3))then(some true)
 else((IM xS.Arena).bind λv1=>
 bif(!v1)then(some true)
 else((HF xS.Next 1 1000000000).bind λv2=>
 some (!v2))):Option (Bool)).bind λj1=>
 bif j1 then(some false)
 else((Au (λs:List Int×Int=>IJ xS s.1 s.2) ([],0)).bind (Sum.elim (λv7=>((Au (λs:Int=>II xS v7 s) 0).bind (Sum.elim (λv10=>(some true)) some))) some))
def XG (xS:Store) (a:Int) (y1:Int):Option ((Int)⊕((Unit)⊕(Int))):=
 bif(decide (y1<(ln xS.Vols)))then((gi xS.Vols y1).bind λx1=>
 bif(x1.Id==a)then(some (.inr (.inr y1)))
 else(some (.inl (ad y1 1))))
 else(some (.inr (.inl ())))
def R7 (xS:Store) (a:Int):Option (Int):=
 (Au (λs:Int=>XG xS a s) 0).bind (Sum.elim (λv1=>(some (-1))) some)
def Bf (x:Vol):Int:=x.Id
def EH (xS:Store) (a:Int) (b:Int):Option (Bool×Store):=
 (bif(b !=0)then((R7 xS b).bind λv1=>
 bif(decide (v1<0))then(some (.inr (false,xS)))
 else((gi xS.Vols v1).bind λx1=>
 some (.inl x1.Root)))
 else(some (.inl (-1))):Option ((Int)⊕((Bool×Store)))).bind (Sum.elim (λj1=>(((R7 xS a).bind λv2=>
 bif(decide (v2>=0))then(some true)
 else(some (decide ((ln xS.Vols)>=3))):Option (Bool)).bind λj2=>
 bif j2 then(some (false,xS))
 else(((ap 16 xS.Vols [(Vol.mk a j1)]).bind λq1=>
 some q1:Option (List Vol)).bind λj3=>
 (OI (Nj Bf) j3).bind λv3=>
 some (true,(Store.mk v3 xS.Arena xS.Next))))) some)
def W0 (xA:Arena) (b:Int) (a:Int) (xN:Int):Option (Arena×Int):=
 (Io xA).bind λv1=>
 (bif(b !=(-1))then((GI xA b).bind λv2=>
 bif(!v2)then(some true)
 else((HF a 0 15).bind λv3=>
 bif(!v3)then(some true)
 else(bif(decide (xN<0))then(some true)
 else((IM xA).bind λv4=>
 some (!v4)))))
 else((HF a 0 15).bind λv5=>
 bif(!v5)then(some true)
 else(bif(decide (xN<0))then(some true)
 else((IM xA).bind λv6=>
 some (!v6)))):Option (Bool)).bind λj1=>
 bif j1 then(some (v1,b))
 else((mk 8 0 4).bind λq1=>
 (bif(decide (b>=0))then((gi xA.Knots b).bind λx1=>
 (Ik x1.Kids).bind λv7=>
 some v7)
 else(some [(-1),(-1),(-1),(-1)]):Option (List Int)).bind λj2=>
 (gi j2 (qu a 4)).bind λx2=>
 (bif(decide (x2>=0))then((gi xA.Knots x2).bind λx3=>
 (Ik x3.Kids).bind λv8=>
 some v8)
 else(some q1):Option (List Int)).bind λj3=>
 (gi j3 (Int.tmod a 4)).bind λx4=>
 (gi j2 (qu a 4)).bind λx5=>
 (ap 32 v1.Knots [(BL.mk true (si j3 (Int.tmod a 4) xN)),(BL.mk false (si j2 (qu a 4) (ln xA.Knots)))]).bind λq2=>
 some ((Arena.mk q2),(ad (ln xA.Knots) 1)))
def NU (xS:Store) (xR:De):Option (Bool×Store):=
 bif(xR.Kind==1)then(some (true,(Store.mk [] (Arena.mk []) (if 1>xR.Arg then 1 else xR.Arg))))
 else(bif(xR.Kind==2)then((EH xS xR.Vol xR.Arg).bind λv1=>
 some (v1.1,v1.2))
 else((R7 xS xR.Vol).bind λv2=>
 (bif(decide (v2<0))then(some true)
 else(some (xR.Chunk==1000000000)):Option (Bool)).bind λj1=>
 bif j1 then(some (false,xS))
 else(bif(xR.Kind==3)then(((dr xS.Vols 0 v2).bind λx1=>
 (dr xS.Vols (ad v2 1) (ln xS.Vols)).bind λx2=>
 (ap 16 [] x1).bind λq2=>
 (ap 16 q2 x2).bind λq3=>
 some q3:Option (List Vol)).bind λj2=>
 some (true,(Store.mk j2 xS.Arena xS.Next)))
 else(((gi xS.Vols v2).bind λx3=>
 (W0 xS.Arena x3.Root xR.Arg xR.Chunk).bind λv4=>
 some (v4.2,v4.1.Knots):Option (Int×List BL)).bind λj3=>
 (gi xS.Vols v2).bind λx4=>
 some (true,(Store.mk (si xS.Vols v2 (Vol.mk x4.Id j3.1)) (Arena.mk j3.2) (if(ad xR.Chunk 1)>xS.Next then(ad xR.Chunk 1)else xS.Next)))))))
def FT (xA:Arena) (a:List Int) (v1:List Int) (b:List Int) (y1:Int):Option ((List Int×Int)⊕((List Int)⊕((Arena×List Int)))):=
 bif(decide (y1<(ln a)))then((gi a y1).bind λx1=>
 (bif(x1 !=(-1))then((GI xA x1).bind λv2=>
 some (!v2))
 else(some false):Option (Bool)).bind λj1=>
 bif j1 then((Io xA).bind λv3=>
 some (.inr (.inr (v3,v1))))
 else((Ou xA x1).bind λv4=>
 (ap 8 b v4).bind λq1=>
 some (.inl (q1,(ad y1 1)))))
 else(some (.inr (.inl b)))
def FQ (c:List Int) (y2:Int) (b:List BL) (x2:BL) (y3:Int) (a:List Int):Option ((Int×List Int)⊕(List Int)):=
 bif(decide (y3<(ln x2.Kids)))then((gi x2.Kids y3).bind λx4=>
 (bif(!x2.Leaf)then(some (decide (x4>=0)))
 else(some false):Option (Bool)).bind λj3=>
 bif j3 then((gi (si c y2 (ln b)) x4).bind λx5=>
 (gi a y3).bind λx6=>
 some (.inl ((ad y3 1),(si a y3 x5))))
 else(some (.inl ((ad y3 1),a))))
 else(some (.inr a))
def FR (xA:Arena) (v5:List Int) (b:List Int) (y2:Int) (a:List BL):Option ((List Int×Int×List BL)⊕(List Int×List BL)):=
 bif(decide (y2<(ln xA.Knots)))then((gi xA.Knots y2).bind λx2=>
 (MY v5 y2).bind λv8=>
 bif(!v8)then(some (.inl (b,(ad y2 1),a)))
 else((gi b y2).bind λx3=>
 ((Ik x2.Kids).bind λv10=>
 some v10:Option (List Int)).bind λj2=>
 (Au (λs:Int×List Int=>FQ b y2 a x2 s.1 s.2) (0,j2)).bind λv12=>
 (ap 32 a [(BL.mk x2.Leaf v12)]).bind λq3=>
 some (.inl ((si b y2 (ln a)),(ad y2 1),q3))))
 else(some (.inr (b,a)))
def Eo (b:List Int) (v13:List Int×List BL) (a:List Int) (y4:Int):Option ((List Int×Int)⊕(List Int)):=
 bif(decide (y4<(ln b)))then((gi b y4).bind λx7=>
 bif(decide (x7>=0))then((gi v13.1 x7).bind λx8=>
 (gi a y4).bind λx9=>
 some (.inl ((si a y4 x8),(ad y4 1))))
 else(some (.inl (a,(ad y4 1)))))
 else(some (.inr a))
def Mj (xA:Arena) (a:List Int):Option (Arena×List Int):=
 (Ik a).bind λv1=>
 (Au (λs:List Int×Int=>FT xA a v1 s.1 s.2) ([],0)).bind (Sum.elim (λv5=>((IM xA).bind λv6=>
 bif(!v6)then((Io xA).bind λv7=>
 some (v7,v1))
 else((mk 8 0 (ln xA.Knots)).bind λq2=>
 (Au (λs:List Int×Int×List BL=>FR xA v5 s.1 s.2.1 s.2.2) (q2,0,[])).bind λv13=>
 (Au (λs:List Int×Int=>Eo a v13 s.1 s.2) (v1,0)).bind λv14=>
 some ((Arena.mk v13.2),v14)))) some)
def Fj (xS:Store) (a:List Int) (y1:Int):Option ((List Int×Int)⊕(List Int)):=
 bif(decide (y1<(ln xS.Vols)))then((gi xS.Vols y1).bind λx1=>
 (ap 8 a [x1.Root]).bind λq1=>
 some (.inl (q1,(ad y1 1))))
 else(some (.inr a))
def GJ (xS:Store) (v2:Arena×List Int) (y2:Int) (a:List Vol):Option ((Int×List Vol)⊕(List Vol)):=
 bif(decide (y2<(ln xS.Vols)))then((gi v2.2 y2).bind λx2=>
 (gi a y2).bind λx3=>
 some (.inl ((ad y2 1),(si a y2 (Vol.mk x3.Id x2)))))
 else(some (.inr a))
def Lg (xS:Store):Option (Store):=
 (Au (λs:List Int×Int=>Fj xS s.1 s.2) ([],0)).bind λv1=>
 (Mj xS.Arena v1).bind λv2=>
 (Au (λs:Int×List Vol=>GJ xS v2 s.1 s.2) (0,xS.Vols)).bind λv3=>
 some (Store.mk v3 v2.1 xS.Next)
def W1 (xS:Store) (xR:De):Option (Store×Bool):=
 (Ij xS).bind λv1=>
 ((R9 xS).bind λv2=>
 bif(!v2)then(some (true,v1.Vols,v1.Arena.Knots,v1.Next))
 else((Pu xR).bind λv3=>
 bif(!v3)then(some (true,v1.Vols,v1.Arena.Knots,v1.Next))
 else((NU v1 xR).bind λv4=>
 some ((!v4.1),v4.2.Vols,v4.2.Arena.Knots,v4.2.Next))):Option (Bool×List Vol×List BL×Int)).bind λj1=>
 bif j1.1 then((Ij xS).bind λv5=>
 some (v5,false))
 else((Lg (Store.mk j1.2.1 (Arena.mk j1.2.2.1) j1.2.2.2)).bind λv6=>
 some (v6,true))
def HA (xS:Store) (d:List De) (y1:Int) (a:List Vol) (b:List BL) (c:Int):Option ((Int×List Vol×List BL×Int)⊕((List Vol×List BL×Int)⊕((Store×Bool)))):=
 bif(decide (y1<(ln d)))then((gi d y1).bind λx1=>
 (W1 (Store.mk a (Arena.mk b) c) x1).bind λv2=>
 bif(!v2.2)then((Ij xS).bind λv3=>
 some (.inr (.inr (v3,false))))
 else(some (.inl ((ad y1 1),v2.1.Vols,v2.1.Arena.Knots,v2.1.Next))))
 else(some (.inr (.inl (a,b,c))))
def P2 (xS:Store) (a:List De):Option (Store×Bool):=
 (Ij xS).bind λv1=>
 (Au (λs:Int×List Vol×List BL×Int=>HA xS a s.1 s.2.1 s.2.2.1 s.2.2.2) (0,v1.Vols,v1.Arena.Knots,v1.Next)).bind (Sum.elim (λv4=>(some ((Store.mk v4.1 (Arena.mk v4.2.1) v4.2.2),true))) some)
def H9 (v2:List A8) (y1:Int) (a:Int):Option ((Int×Int)⊕(Int)):=
 bif(decide (y1<(ln v2)))then((gi v2 y1).bind λx1=>
 bif(x1.Page.Kind==2)then(some (.inl ((ad y1 1),(if(ad x1.Page.Tx 1)>a then(ad x1.Page.Tx 1)else a))))
 else(some (.inl ((ad y1 1),a))))
 else(some (.inr a))
def Gq (v17:List Tx) (y2:Int) (a:List Vol) (b:List BL) (c:Int) (d:Int):Option ((Int×List Vol×List BL×Int×Int)⊕(List Vol×List BL×Int×Int)):=
 bif(decide (y2<(ln v17)))then((gi v17 y2).bind λx2=>
 (bif(y2==0)then(some x2.Num)
 else(some d):Option (Int)).bind λj2=>
 (P2 (Store.mk a (Arena.mk b) c) x2.Recs).bind λv18=>
 bif v18.2 then(some (.inl ((ad y2 1),v18.1.Vols,v18.1.Arena.Knots,v18.1.Next,j2)))
 else(some (.inl ((ad y2 1),a,b,c,j2))))
 else(some (.inr (a,b,c,d)))
def P1 (xF:Flash):Option (Bc×Bool):=
 (Mx xF).bind λv1=>
 bif(!v1)then(some ((Bc.mk (Flash.mk []) (Store.mk [] (Arena.mk []) 0) 0 0 0),false))
 else((JI xF).bind λv2=>
 ((Il xF).bind λv4=>
 (Ps).bind λv6=>
 (RE xF).bind λv8=>
 some (v4.Blocks,v6.Vols,v6.Arena.Knots,v6.Next,(ad v8 1)):Option (List Block×List Vol×List BL×Int×Int)).bind λj1=>
 (Au (λs:Int×Int=>H9 v2 s.1 s.2) (0,1)).bind λv15=>
 (TX v2).bind λv16=>
 (N6 v16).bind λv17=>
 (Au (λs:Int×List Vol×List BL×Int×Int=>Gq v17 s.1 s.2.1 s.2.2.1 s.2.2.2.1 s.2.2.2.2) (0,j1.2.1,j1.2.2.1,j1.2.2.2.1,0)).bind λv19=>
 some ((Bc.mk (Flash.mk j1.1) (Store.mk v19.1 (Arena.mk v19.2.1) v19.2.2.1) j1.2.2.2.2 v15 v19.2.2.2),true))
def XI (xA:Arena) (b:Int) (a:Int):Option (Int):=
 (gi xA.Knots b).bind λx1=>
 (gi x1.Kids (qu a 4)).bind λx2=>
 bif(decide (x2<0))then(some 0)
 else((gi xA.Knots x2).bind λx3=>
 (gi x3.Kids (Int.tmod a 4)).bind λx4=>
 some x4)
def dJ (xA:Arena) (b:Int) (a:Int):Option (Int):=
 ((HF a 0 15).bind λv1=>
 bif(!v1)then(some true)
 else((GI xA b).bind λv2=>
 bif(!v2)then(some true)
 else((IM xA).bind λv3=>
 some (!v3))):Option (Bool)).bind λj1=>
 bif j1 then(some 0)
 else((XI xA b a).bind λv4=>
 some v4)
def P4 (xA:Arena) (b:Int) (a:List Int) (y1:Int):Option ((List Int×Int)⊕(List Int)):=
 bif(decide (y1<16))then((dJ xA b y1).bind λv1=>
 (ap 8 a [v1]).bind λq1=>
 some (.inl (q1,(ad y1 1))))
 else(some (.inr a))
def oE (xA:Arena) (a:Int):Option (List Int):=
 (Au (λs:List Int×Int=>P4 xA a s.1 s.2) ([],0)).bind λv2=>
 some v2
def DX (a:ByteArray) (b:List Bp):Option ((ByteArray×List Bp)⊕((List Bp)⊕((List Bp×Bool)))):=
 bif(!(seq a (bs [])))then((sx a 0).bind λx1=>
 (bif(decide ((IntKind.i64.wrap x1)>=128))then(some (decide ((Fz a)>=2)))
 else(some false):Option (Bool)).bind λj1=>
 bif j1 then((sx a 1).bind λx2=>
 (ap 32 b [(Bp.mk (IntKind.i64.wrap x2) (sb (IntKind.i64.wrap x1) 128) (bs []))]).bind λq1=>
 (sub a 2 (Fz a)).bind λx3=>
 some (.inl (x3,q1)))
 else((bif(decide ((IntKind.i64.wrap x1)<128))then(some (decide ((IntKind.i64.wrap x1)<(Fz a))))
 else(some false):Option (Bool)).bind λj2=>
 bif j2 then((sub a 1 (ad 1 (IntKind.i64.wrap x1))).bind λx4=>
 (ap 32 b [(Bp.mk 0 0 x4)]).bind λq2=>
 (sub a (ad 1 (IntKind.i64.wrap x1)) (Fz a)).bind λx5=>
 some (.inl (x5,q2)))
 else(some (.inr (.inr ([],false))))))
 else(some (.inr (.inl b)))
def SD (xT:ByteArray):Option (List Bp×Bool):=
 (Au (λs:ByteArray×List Bp=>DX s.1 s.2) (xT,[])).bind (Sum.elim (λv1=>(some (v1,true))) some)
def TW (x1:Bp) (a:List Int) (y2:Int):Option ((List Int×Int)⊕(List Int)):=
 bif(decide (y2<x1.Size))then((gi a (sb (ln a) x1.Back)).bind λx2=>
 (ap 1 a [x2]).bind λq2=>
 some (.inl (q2,(ad y2 1))))
 else(some (.inr a))
def Px (b:List Bp) (a:List Int) (y1:Int):Option ((List Int×Int)⊕((List Int)⊕((ByteArray×Bool)))):=
 bif(decide (y1<(ln b)))then((gi b y1).bind λx1=>
 (bif(x1.Back==0)then((bif(x1.Size !=0)then(some true)
 else((HF (Fz x1.Text) 1 31).bind λv1=>
 some (!v1)):Option (Bool)).bind λj2=>
 bif j2 then(some (.inr (.inr (.inr ((bs []),false)))))
 else((aps a x1.Text).bind λq1=>
 some (.inl q1)))
 else(((HF x1.Back 1 (ln a)).bind λv2=>
 bif(!v2)then(some true)
 else((HF x1.Size 1 31).bind λv3=>
 bif(!v3)then(some true)
 else(some (!(seq x1.Text (bs []))))):Option (Bool)).bind λj3=>
 bif j3 then(some (.inr (.inr (.inr ((bs []),false)))))
 else((Au (λs:List Int×Int=>TW x1 s.1 s.2) (a,0)).bind λv4=>
 some (.inl v4))):Option ((List Int)⊕((List Int×Int)⊕((List Int)⊕((ByteArray×Bool)))))).bind (Sum.elim (λj1=>(bif(decide ((ln j1)>64))then(some (.inr (.inr ((bs []),false))))
 else(some (.inl (j1,(ad y1 1)))))) some))
 else(some (.inr (.inl a)))
def RC (a:List Bp):Option (ByteArray×Bool):=
 (Au (λs:List Int×Int=>Px a s.1 s.2) ([],0)).bind (Sum.elim (λv5=>(some ((EG v5),true))) some)
def Gf (xS:ByteArray) (c:Int) (b:Int) (a:Int):Option ((Int)⊕(Int)):=
 (bif(decide (a<31))then(bif(decide ((ad c a)<(Fz xS)))then((sx xS (ad b a)).bind λx1=>
 (sx xS (ad c a)).bind λx2=>
 some (x1==x2))
 else(some false))
 else(some false):Option (Bool)).bind λj1=>
 bif j1 then(some (.inl (ad a 1)))
 else(some (.inr a))
def ID (xS:ByteArray) (d:Int) (b:Int) (c:Int) (a:Int):Option ((Int×Int×Int)⊕(Int×Int)):=
 bif(decide (a>=0))then((Au (λs:Int=>Gf xS d a s) 0).bind λv1=>
 (bif(decide (v1>=4))then(some (decide (v1>b)))
 else(some false):Option (Bool)).bind λj2=>
 bif j2 then(some (.inl (v1,(sb d a),(sb a 1))))
 else(some (.inl (b,c,(sb a 1)))))
 else(some (.inr (b,c)))
def UW (xS:ByteArray) (a:Int):Option (Int×Int):=
 (Au (λs:Int×Int×Int=>ID xS a s.1 s.2.1 s.2.2) (0,0,(sb a 1))).bind λv2=>
 some (v2.1,v2.2)
def NT (xS:ByteArray) (a:List Bp) (b:Int):Option ((List Bp×Int)⊕(List Bp)):=
 bif(decide (b<(Fz xS)))then((UW xS b).bind λv1=>
 bif(decide (v1.1>0))then((ap 32 a [(Bp.mk v1.2 v1.1 (bs []))]).bind λq1=>
 some (.inl (q1,(ad b v1.1))))
 else((bif(decide ((sb (ln a) 1)<0))then(some true)
 else((gi a (sb (ln a) 1)).bind λx1=>
 bif(decide (x1.Back>0))then(some true)
 else((gi a (sb (ln a) 1)).bind λx2=>
 some (decide ((Fz x2.Text)>=31)))):Option (Bool)).bind λj1=>
 (bif j1 then((ap 32 a [(Bp.mk 0 0 (bs []))]).bind λq2=>
 some (q2,(ad (sb (ln a) 1) 1)))
 else(some (a,(sb (ln a) 1))):Option (List Bp×Int)).bind λj2=>
 (gi j2.1 j2.2).bind λx3=>
 (sub xS b (ad b 1)).bind λx4=>
 (HO x3.Text x4).bind λx5=>
 (gi j2.1 j2.2).bind λx6=>
 some (.inl ((si j2.1 j2.2 (Bp.mk x6.Back x6.Size x5)),(ad b 1)))))
 else(some (.inr a))
def SE (xS:ByteArray):Option (List Bp):=
 bif(decide ((Fz xS)>64))then(some [])
 else((Au (λs:List Bp×Int=>NT xS s.1 s.2) ([],0)).bind λv2=>
 some v2)
def Li (v1:List Bp) (a:List Int) (y1:Int):Option ((List Int×Int)⊕(List Int)):=
 bif(decide (y1<(ln v1)))then((gi v1 y1).bind λx1=>
 (bif(decide (x1.Back>0))then((ap 1 a [(IntKind.u8.wrap (ad 128 x1.Size)),(IntKind.u8.wrap x1.Back)]).bind λq1=>
 some q1)
 else((ap 1 a [(IntKind.u8.wrap (Fz x1.Text))]).bind λq4=>
 (aps q4 x1.Text).bind λq5=>
 some q5):Option (List Int)).bind λj1=>
 some (.inl (j1,(ad y1 1))))
 else(some (.inr a))
def Pz (xS:ByteArray):Option (ByteArray×Bool):=
 bif(decide ((Fz xS)>64))then(some ((bs []),false))
 else((SE xS).bind λv1=>
 (Au (λs:List Int×Int=>Li v1 s.1 s.2) ([122],0)).bind λv2=>
 bif(decide ((ad (Fz xS) 1)<=(ln v2)))then((HO (bs [114]) xS).bind λx2=>
 some (x2,true))
 else(some ((EG v2),true)))
def TU (xT:ByteArray):Option (ByteArray×Bool):=
 bif(seq xT (bs []))then(some ((bs []),false))
 else((sub xT 1 (Fz xT)).bind λx1=>
 (sx xT 0).bind λx2=>
 (bif(x2 !=114)then((SD x1).bind λv1=>
 (RC v1.1).bind λv2=>
 bif(!v1.2)then(some (.inr ((bs []),false)))
 else(bif(!v2.2)then(some (.inr ((bs []),false)))
 else(some (.inl v2.1))))
 else(some (.inl x1)):Option ((ByteArray)⊕((ByteArray×Bool)))).bind (Sum.elim (λj1=>((Pz j1).bind λv3=>
 (bif(!v3.2)then(some true)
 else(some (!(seq v3.1 xT))):Option (Bool)).bind λj2=>
 bif j2 then(some ((bs []),false))
 else(some (j1,true)))) some))
def GZ (xB:Block) (a:Int) (y1:Int):Option ((Int×Int)⊕(Int)):=
 bif(decide (y1<(ln xB.Leaves)))then((gi xB.Leaves y1).bind λx1=>
 bif(x1.Is==0)then(some (.inl ((ad a 1),(ad y1 1))))
 else(some (.inl (a,(ad y1 1)))))
 else(some (.inr a))
def L7 (xB:Block):Option (Int):=
 (Au (λs:Int×Int=>GZ xB s.1 s.2) (0,0)).bind λv1=>
 some v1
def N7 (xF:Flash) (a:Int) (y1:Int):Option ((Int×Int)⊕(Int)):=
 bif(decide (y1<(ln xF.Blocks)))then((gi xF.Blocks y1).bind λx1=>
 bif(!x1.Bad)then((L7 x1).bind λv1=>
 some (.inl ((ad a v1),(ad y1 1))))
 else(some (.inl (a,(ad y1 1)))))
 else(some (.inr a))
def gR (xF:Flash):Option (Int):=
 (Au (λs:Int×Int=>N7 xF s.1 s.2) (0,0)).bind λv2=>
 some v2
def Pp (b:Int) (a:List Int):Option ((Int×List Int)⊕(Int×List Int)):=
 bif(decide (b>127))then((ap 1 a [(IntKind.u8.wrap (ad (Int.tmod b 128) 128))]).bind λq1=>
 some (.inl ((qu b 128),q1)))
 else(some (.inr (b,a)))
def UX (xN:Int):Option (ByteArray×Bool):=
 (HF xN 0 1000000000).bind λv1=>
 bif(!v1)then(some ((bs []),false))
 else((Au (λs:Int×List Int=>Pp s.1 s.2) (xN,[])).bind λv2=>
 (ap 1 v2.2 [(IntKind.u8.wrap v2.1)]).bind λq2=>
 some ((EG q2),true))
def Ek (xN:Int):Option (ByteArray):=
 (UX xN).bind λv1=>
 some v1.1
def Py (xP:Page):Option (ByteArray×Bool):=
 (QS xP).bind λv1=>
 bif(!v1)then(some ((bs []),false))
 else((Ek xP.Seq).bind λv2=>
 (HO (EG [(IntKind.u8.wrap xP.Kind)]) v2).bind λx1=>
 (Ek xP.Tx).bind λv3=>
 (HO x1 v3).bind λx2=>
 (Ek xP.Part).bind λv4=>
 (HO x2 v4).bind λx3=>
 (Ek xP.Count).bind λv5=>
 (HO x3 v5).bind λx4=>
 (HO x4 xP.Text).bind λx5=>
 (Ip x5).bind λv6=>
 some (v6.1,v6.2))
def Iq (xF:Flash) (y1:Int):Option ((Int)⊕((Unit)⊕(Int))):=
 bif(decide (y1<(ln xF.Blocks)))then((gi xF.Blocks y1).bind λx1=>
 (L7 x1).bind λv1=>
 (bif(!x1.Bad)then(bif(decide (v1>0))then(some (decide (v1<(ln x1.Leaves))))
 else(some false))
 else(some false):Option (Bool)).bind λj1=>
 bif j1 then(some (.inr (.inr y1)))
 else(some (.inl (ad y1 1))))
 else(some (.inr (.inl ())))
def N8 (xF:Flash):Option (Int):=
 (Au (λs:Int=>Iq xF s) 0).bind (Sum.elim (λv2=>(some (-1))) some)
def Ht (xF:Flash) (a:List Int) (y1:Int):Option ((List Int×Int)⊕(List Int)):=
 bif(decide (y1<(ln xF.Blocks)))then((gi xF.Blocks y1).bind λx1=>
 (bif(!x1.Bad)then((L7 x1).bind λv1=>
 some (v1==(ln x1.Leaves)))
 else(some false):Option (Bool)).bind λj1=>
 bif j1 then((ap 8 a [y1]).bind λq1=>
 some (.inl (q1,(ad y1 1))))
 else(some (.inl (a,(ad y1 1)))))
 else(some (.inr a))
def Mk (xF:Flash):Option (List Int):=
 (Au (λs:List Int×Int=>Ht xF s.1 s.2) ([],0)).bind λv2=>
 some v2
def Gg (xF:Flash) (v4:List Int) (a:Int) (y1:Int):Option ((Int×Int)⊕(Int)):=
 bif(decide (y1<(ln v4)))then((gi v4 y1).bind λx2=>
 bif(decide (a<0))then(some (.inl (x2,(ad y1 1))))
 else((gi xF.Blocks x2).bind λx3=>
 (gi xF.Blocks a).bind λx4=>
 bif(decide (x3.Wear<x4.Wear))then(some (.inl (x2,(ad y1 1))))
 else(some (.inl (a,(ad y1 1))))))
 else(some (.inr a))
def RD (xF:Flash):Option (Int×Int×Bool):=
 (Mx xF).bind λv1=>
 bif(!v1)then(some (0,0,false))
 else((N8 xF).bind λv2=>
 bif(decide (v2>=0))then((gi xF.Blocks v2).bind λx1=>
 (N9 x1).bind λv3=>
 some (v2,v3,true))
 else((Mk xF).bind λv4=>
 (Au (λs:Int×Int=>Gg xF v4 s.1 s.2) ((-1),0)).bind λv5=>
 bif(decide (v5<0))then(some (0,0,false))
 else(some (v5,0,true))))
def Hs (xW:LY) (xP:Page) (a:Int):Option (Bool×LY):=
 (Py xP).bind λv1=>
 (RD xW.f_).bind λv2=>
 (bif(!v1.2)then(some true)
 else(bif(!v2.2.2)then(some true)
 else(some (v2.1==a))):Option (Bool)).bind λj1=>
 bif j1 then(some (false,xW))
 else(((QV xW.f_ (Bu.mk 1 v2.1 v2.2.1 v1.1)).bind λv4=>
 some (v4.2,v4.1.Blocks):Option (Bool×List Block)).bind λj2=>
 (ap 40 xW.steps_ [(Bu.mk 1 v2.1 v2.2.1 v1.1)]).bind λq1=>
 some (j2.1,(LY.mk (Flash.mk j2.2) q1)))
def RA (xR:De):Option (ByteArray×Bool):=
 (Pu xR).bind λv1=>
 bif(!v1)then(some ((bs []),false))
 else((Ek xR.Arg).bind λv2=>
 (HO (EG [(IntKind.u8.wrap (ad (ml 16 xR.Kind) xR.Vol))]) v2).bind λx1=>
 (Ek xR.Chunk).bind λv3=>
 (HO x1 v3).bind λx2=>
 some (x2,true))
def IF (b:List De) (a:List ByteArray) (y1:Int):Option ((List ByteArray×Int)⊕((List ByteArray)⊕((List Page×Bool)))):=
 bif(decide (y1<(ln b)))then((gi b y1).bind λx1=>
 (RA x1).bind λv1=>
 bif(!v1.2)then(some (.inr (.inr ([],false))))
 else((gi a (sb (ln a) 1)).bind λx2=>
 (bif(decide ((ad (Fz x2) (Fz v1.1))>90))then((ap 16 a [(bs [])]).bind λq1=>
 some (q1,(ad (sb (ln a) 1) 1)))
 else(some (a,(sb (ln a) 1))):Option (List ByteArray×Int)).bind λj1=>
 (gi j1.1 j1.2).bind λx3=>
 (HO x3 v1.1).bind λx4=>
 (gi j1.1 j1.2).bind λx5=>
 some (.inl ((si j1.1 j1.2 x4),(ad y1 1)))))
 else(some (.inr (.inl a)))
def Kj (b:Int) (c:Int) (v2:List ByteArray) (a:List Page) (y2:Int):Option ((List Page×Int)⊕(List Page)):=
 bif(decide (y2<(ln v2)))then((gi v2 y2).bind λx6=>
 (ap 56 a [(Page.mk 2 (ad b y2) c y2 (ln v2) x6)]).bind λq2=>
 some (.inl (q2,(ad y2 1))))
 else(some (.inr a))
def Ov (a:Int) (c:Int) (b:List De):Option (List Page×Bool):=
 (Au (λs:List ByteArray×Int=>IF b s.1 s.2) ([(bs [])],0)).bind (Sum.elim (λv2=>((bif(decide ((ln v2)>9))then(some true)
 else((HF a 1 (ad (sb 1000000000 (ln v2)) 1)).bind λv3=>
 bif(!v3)then(some true)
 else((HF c 1 1000000000).bind λv4=>
 some (!v4))):Option (Bool)).bind λj2=>
 bif j2 then(some ([],false))
 else((Au (λs:List Page×Int=>Kj a c v2 s.1 s.2) ([],0)).bind λv5=>
 some (v5,true)))) some)
def CD (v2:List Page×Bool) (a:Bool) (y1:Int) (y01:List Block) (y11:List Bu):Option ((Bool×Int×List Block×List Bu)⊕(Bool×List Block×List Bu)):=
 bif(decide (y1<(ln v2.1)))then((gi v2.1 y1).bind λx2=>
 bif a then((Hs (LY.mk (Flash.mk y01) y11) x2 (-1)).bind λv3=>
 some (.inl (v3.1,(ad y1 1),v3.2.f_.Blocks,v3.2.steps_)))
 else(some (.inl (false,(ad y1 1),y01,y11))))
 else(some (.inr (a,y01,y11)))
def Mi (xD:Bc) (a:List De) (b:ByteArray):Option (List Bu×Bool):=
 bif((ln a)==0)then(some ([],true))
 else((bif(!(seq b (bs [])))then((gi a (sb (ln a) 1)).bind λx1=>
 (Hs (LY.mk xD.Flash []) (Page.mk 1 xD.Seq x1.Chunk 0 1 b) (-1)).bind λv1=>
 bif(!v1.1)then(some (.inr ([],false)))
 else(some (.inl ((ad xD.Seq 1),v1.2.f_.Blocks,v1.2.steps_))))
 else(some (.inl (xD.Seq,xD.Flash.Blocks,[]))):Option ((Int×List Block×List Bu)⊕((List Bu×Bool)))).bind (Sum.elim (λj1=>((Ov j1.1 xD.Tx a).bind λv2=>
 (Au (λs:Bool×Int×List Block×List Bu=>CD v2 s.1 s.2.1 s.2.2.1 s.2.2.2) (v2.2,0,j1.2.1,j1.2.2)).bind λv4=>
 bif(!v4.1)then(some ([],false))
 else(some (v4.2.2,true)))) some))
def Pt (xD:Bc) (a:List Bu):Option (Bc):=
 (RF xD.Flash a).bind λv1=>
 (P1 v1.1).bind λv2=>
 some v2.1
def G4 (xA:List Bu) (xB:List Bu) (a:Int):Option ((Int)⊕((Unit)⊕(Bool))):=
 bif(decide (a<(ln xA)))then((gi xA a).bind λx1=>
 (gi xB a).bind λx2=>
 bif(!((x1.Kind==x2.Kind)&&((x1.Block==x2.Block)&&((x1.Leaf==x2.Leaf)&&(seq x1.Text x2.Text&&true)))))then(some (.inr (.inr false)))
 else(some (.inl (ad a 1))))
 else(some (.inr (.inl ())))
def Lm (xA:List Bu) (xB:List Bu):Option (Bool):=
 bif((ln xA) !=(ln xB))then(some false)
 else((Au (λs:Int=>G4 xA xB s) 0).bind (Sum.elim (λv1=>(some true)) some))
def I4 (xS:Bu) (b:Int) (a:List Block):Option ((Int×List Block)⊕(List Block)):=
 (gi a xS.Block).bind λx4=>
 bif(decide (b<(ln x4.Leaves)))then((gi a xS.Block).bind λx5=>
 (gi x5.Leaves b).bind λx6=>
 some (.inl ((ad b 1),(si a xS.Block (Block.mk x5.Bad x5.Wear (si x5.Leaves b (Leaf.mk 2 (bs []))))))))
 else(some (.inr a))
def Rs (xF:Flash) (xS:Bu):Option (Flash×Bool):=
 (Ja xF xS).bind λv1=>
 (EL xF).bind λv2=>
 bif(!v1.2)then(some (v2,false))
 else(bif(xS.Kind==1)then((gi v2.Blocks xS.Block).bind λx1=>
 (sub xS.Text 0 (qu (Fz xS.Text) 2)).bind λx2=>
 (gi x1.Leaves xS.Leaf).bind λx3=>
 some ((Flash.mk (si v2.Blocks xS.Block (Block.mk x1.Bad x1.Wear (si x1.Leaves xS.Leaf (Leaf.mk 2 x2))))),true))
 else((Au (λs:Int×List Block=>I4 xS s.1 s.2) (0,v2.Blocks)).bind λv3=>
 some ((Flash.mk v3),true)))
def OW (xF:Flash) (b:List Bu) (a:Int) (c:Bool):Option (Flash×Bool):=
 (BX a 0 (ln b)).bind λv1=>
 bif(!v1)then((EL xF).bind λv2=>
 some (v2,false))
 else(((dr b 0 a).bind λx1=>
 (H1 xF x1).bind λv4=>
 some (v4.2,v4.1.Blocks):Option (Int×List Block)).bind λj1=>
 bif(decide (j1.1<a))then((EL xF).bind λv6=>
 some (v6,false))
 else((bif(!c)then(some true)
 else(some (a==(ln b))):Option (Bool)).bind λj2=>
 bif j2 then(some ((Flash.mk j1.2),true))
 else(((gi b a).bind λx2=>
 (Rs (Flash.mk j1.2) x2).bind λv8=>
 some (v8.2,v8.1.Blocks):Option (Bool×List Block)).bind λj3=>
 bif(!j3.1)then((EL xF).bind λv10=>
 some (v10,false))
 else(some ((Flash.mk j3.2),true)))))
def M3 (a:List Int):Option (Bool):=
 (WG a).bind λv1=>
 bif v1 then(some true)
 else((Mf a).bind λv2=>
 (Rv a).bind λv3=>
 (IY v2 v3).bind λv4=>
 (Mi v2 v4.1 v4.2.1).bind λv5=>
 (D4 v2 v4.1 v4.2.1).bind λv6=>
 (bif(!(v5.2==v6.2))then(some true)
 else((Lm v5.1 v6.1).bind λv7=>
 some (!v7)):Option (Bool)).bind λj1=>
 bif j1 then(some false)
 else((bif(!v5.2)then(some true)
 else(bif(v4.2.2 !=0)then(some true)
 else(some ((ln v4.1)==0))):Option (Bool)).bind λj2=>
 bif j2 then(some ((ln v5.1)==0))
 else((Pt v2 v5.1).bind λv8=>
 (Jq v2.Store v4.1).bind λv9=>
 (OW v2.Flash v5.1 (sb (ln v5.1) 1) true).bind λv10=>
 (CL v10.1).bind λv11=>
 (H1 v2.Flash v5.1).bind λv12=>
 bif v9.2 then(bif(v12.2==(ln v5.1))then((J9 v8.Store v9.1).bind λv13=>
 bif v13 then((MI v8).bind λv14=>
 bif v14 then(bif v10.2 then(bif v11.2 then((J9 v11.1.Store v2.Store).bind λv15=>
 some v15)
 else(some false))
 else(some false))
 else(some false))
 else(some false))
 else(some false))
 else(some false))))
end
end Go.TI
