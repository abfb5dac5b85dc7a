/- What functions of the given program compute. No condition. -/
import Derived.Test.YtpafpcbnmplkfaaGreatCCT5
namespace Go.TI
open Go
noncomputable section
structure Wy where
 Kind:Int
 Vol:Int
 Sector:Int
 Of:Int
 Text:ByteArray
structure Shelf where
 Vol:Int
 Texts:List ByteArray
structure Bb where
 Kind:Int
 Block:Int
 Leaf:Int
 Text:ByteArray
structure Leaf where
 Is:Int
 Text:ByteArray
structure Block where
 Bad:Bool
 Wear:Int
 Leaves:List Leaf
structure Flash where
 Blocks:List Block
structure Vol where
 Id:Int
 Root:Int
structure Cc where
 Leaf:Bool
 Kids:List Int
structure Arena where
 Knots:List Cc
structure Store where
 Vols:List Vol
 Arena:Arena
 Next:Int
structure AH where
 Flash:Flash
 Store:Store
 Seq:Int
 Tx:Int
 Base:Int
structure Cu where
 Kind:Int
 Vol:Int
 Arg:Int
 Chunk:Int
structure World where
 AH:AH
 Codes:List Int
 Told:List ByteArray
 Model:List Shelf
 Steps:List Bb
structure BZ where
 b_:List Int
 i_:Int
 h_:Int
structure D0 where
 text_:ByteArray
 at_:Int
 bad_:Bool
structure Page where
 Kind:Int
 Seq:Int
 Tx:Int
 Part:Int
 Count:Int
 Text:ByteArray
structure As where
 Block:Int
 Leaf:Int
 Page:Page
structure Tx where
 Num:Int
 Seq:Int
 Recs:List Cu
structure Bg where
 Back:Int
 Size:Int
 Text:ByteArray
structure EZ where
 f_:Flash
 steps_:List Bb
def BY (xX:Int) (a:Int) (b:Int):Option (Bool):=
 bif(decide (xX>=a))then(some (decide (xX<=b)))
 else(some false)
def Xx (xQ:Wy):Option (Bool):=
 ((BY xQ.Kind 1 6).bind λv1=>
 bif(!v1)then(some true)
 else((BY xQ.Vol 1 9).bind λv2=>
 bif(!v2)then(some true)
 else(bif(decide ((FL xQ.Text)>64))then(some true)
 else(bif(xQ.Kind !=1)then(some (!(seq xQ.Text (bs []))))
 else(some false)))):Option (Bool)).bind λj1=>
 bif j1 then(some false)
 else(bif(xQ.Kind==4)then((bif(xQ.Sector==0)then((BY xQ.Of 1 9).bind λv3=>
 some v3)
 else(some false):Option (Bool)).bind λj2=>
 some j2)
 else(bif(xQ.Of !=0)then(some false)
 else((bif(xQ.Kind==3)then(some true)
 else(some (xQ.Kind==5)):Option (Bool)).bind λj3=>
 bif j3 then(some (xQ.Sector==0))
 else((BY xQ.Sector 0 15).bind λv4=>
 some v4))))
def JI (xN:Int) (b:Int) (a:Int):Option (Bool):=
 bif(decide (xN>=b))then(some (decide (xN<=a)))
 else(some false)
def IM (xN:Int) (b:Int) (a:List Block):Option ((Int×List Block)⊕(List Block)):=
 bif(decide (b<xN))then((mk 24 (Leaf.mk 0 (bs [])) 4).bind λq1=>
 (ap 40 a [(Block.mk false 0 q1)]).bind λq2=>
 some (.inl ((ad b 1),q2)))
 else(some (.inr a))
def OO (xN:Int):Option (Flash×Bool):=
 (BY xN 3 10).bind λv1=>
 bif(!v1)then(some ((Flash.mk []),false))
 else((Aw (λs:Int×List Block=>IM xN s.1 s.2) (0,[])).bind λv2=>
 some ((Flash.mk v2),true))
def JQ (xF:Flash) (b:Int) (a:List Block):Option ((Int×List Block)⊕(List Block)):=
 bif(decide (b<(ln xF.Blocks)))then((gi xF.Blocks b).bind λx1=>
 (ap 24 [] x1.Leaves).bind λq1=>
 (ap 40 a [(Block.mk x1.Bad x1.Wear q1)]).bind λq2=>
 some (.inl ((ad b 1),q2)))
 else(some (.inr a))
def EP (xF:Flash):Option (Flash):=
 (Aw (λs:Int×List Block=>JQ xF s.1 s.2) (0,[])).bind λv1=>
 some (Flash.mk v1)
def Mm (xX:Leaf):Option (Bool):=
 bif(xX.Is==0)then(some (seq xX.Text (bs [])))
 else(bif(xX.Is==1)then((BY (FL xX.Text) 1 120).bind λv1=>
 some v1)
 else(bif(xX.Is==2)then(some (decide ((FL xX.Text)<=120)))
 else(some false)))
def Ei (x1:Block) (a:Int):Option ((Int)⊕((Unit)⊕((Int)⊕((Unit)⊕(Bool))))):=
 bif(decide (a<(ln x1.Leaves)))then(((gi x1.Leaves a).bind λx2=>
 (Mm x2).bind λv2=>
 bif(!v2)then(some true)
 else(bif(decide (a>0))then((gi x1.Leaves (sb a 1)).bind λx3=>
 bif(x3.Is==0)then((gi x1.Leaves a).bind λx4=>
 some (x4.Is !=0))
 else(some false))
 else(some false)):Option (Bool)).bind λj2=>
 bif j2 then(some (.inr (.inr (.inr (.inr false)))))
 else(some (.inl (ad a 1))))
 else(some (.inr (.inl ())))
def Ej (xF:Flash) (a:Int):Option ((Int)⊕((Unit)⊕(Bool))):=
 bif(decide (a<(ln xF.Blocks)))then((gi xF.Blocks a).bind λx1=>
 (bif((ln x1.Leaves) !=4)then(some true)
 else((BY x1.Wear 0 1000000000).bind λv1=>
 some (!v1)):Option (Bool)).bind λj1=>
 bif j1 then(some (.inr (.inr false)))
 else((Aw (λs:Int=>Ei x1 s) 0).bind (Sum.elim (λv3=>(some (.inl (ad a 1)))) some)))
 else(some (.inr (.inl ())))
def Gc (xF:Flash):Option (Bool):=
 (Aw (λs:Int=>Ej xF s) 0).bind (Sum.elim (λv4=>((BY (ln xF.Blocks) 3 10).bind λv5=>
 some v5)) some)
def Ef (xB:Block) (a:Int):Option ((Int)⊕((Unit)⊕(Int))):=
 bif(decide (a<(ln xB.Leaves)))then((gi xB.Leaves a).bind λx1=>
 bif(x1.Is==0)then(some (.inr (.inr a)))
 else(some (.inl (ad a 1))))
 else(some (.inr (.inl ())))
def Fk (xB:Block):Option (Int):=
 (Aw (λs:Int=>Ef xB s) 0).bind (Sum.elim (λv1=>(some 4)) some)
def Ty (xF:Flash) (xB:Int) (a:Int) (b:ByteArray):Option (Bool):=
 (BY xB 0 (sb (ln xF.Blocks) 1)).bind λv1=>
 bif v1 then((gi xF.Blocks xB).bind λx1=>
 bif(!x1.Bad)then(bif(decide (a<4))then((gi xF.Blocks xB).bind λx2=>
 (Fk x2).bind λv2=>
 bif(a==v2)then((BY (FL b) 1 120).bind λv3=>
 some v3)
 else(some false))
 else(some false))
 else(some false))
 else(some false)
def K5 (xF:Flash) (xB:Int) (a:Int) (b:ByteArray):Option (Flash×Bool):=
 (EP xF).bind λv1=>
 ((Gc xF).bind λv2=>
 bif(!v2)then(some true)
 else((Ty xF xB a b).bind λv3=>
 some (!v3)):Option (Bool)).bind λj1=>
 bif j1 then(some (v1,false))
 else((gi v1.Blocks xB).bind λx1=>
 (gi x1.Leaves a).bind λx2=>
 some ((Flash.mk (si v1.Blocks xB (Block.mk x1.Bad x1.Wear (si x1.Leaves a (Leaf.mk 1 b))))),true))
def Su (xF:Flash) (xB:Int):Option (Flash×Bool):=
 (EP xF).bind λv1=>
 ((Gc xF).bind λv2=>
 bif(!v2)then(some true)
 else((BY xB 0 (sb (ln xF.Blocks) 1)).bind λv3=>
 bif(!v3)then(some true)
 else((gi xF.Blocks xB).bind λx1=>
 bif x1.Bad then(some true)
 else((gi xF.Blocks xB).bind λx2=>
 some (x2.Wear==1000000000)))):Option (Bool)).bind λj1=>
 bif j1 then(some (v1,false))
 else((gi xF.Blocks xB).bind λx3=>
 (mk 24 (Leaf.mk 0 (bs [])) 4).bind λq1=>
 (gi v1.Blocks xB).bind λx4=>
 some ((Flash.mk (si v1.Blocks xB (Block.mk false (ad x3.Wear 1) q1))),true))
def IN (xF:Flash) (xS:Bb):Option (Flash×Bool):=
 bif(xS.Kind==1)then((K5 xF xS.Block xS.Leaf xS.Text).bind λv1=>
 some (v1.1,v1.2))
 else(bif(xS.Kind==2)then((Su xF xS.Block).bind λv2=>
 some (v2.1,v2.2))
 else((EP xF).bind λv3=>
 some (v3,false)))
def Iw (b:List Bb) (c:Int) (a:List Block):Option ((Int×List Block)⊕((List Block)⊕((Flash×Int)))):=
 bif(decide (c<(ln b)))then(((gi b c).bind λx1=>
 (IN (Flash.mk a) x1).bind λv3=>
 some (v3.2,v3.1.Blocks):Option (Bool×List Block)).bind λj1=>
 bif(!j1.1)then(some (.inr (.inr ((Flash.mk a),c))))
 else(some (.inl ((ad c 1),j1.2))))
 else(some (.inr (.inl a)))
def Oa (xF:Flash) (a:List Bb):Option (Flash×Int):=
 (EP xF).bind λv1=>
 (Aw (λs:Int×List Block=>Iw a s.1 s.2) (0,v1.Blocks)).bind (Sum.elim (λv5=>(some ((Flash.mk v5),(ln a)))) some)
def KX:Option (List Leaf):=
 (mk 24 (Leaf.mk 0 (bs [])) 4).bind λq1=>
 some q1
def QL (xF:Flash) (y1:Int) (a:List Block):Option ((Int×List Block)⊕(List Block)):=
 bif(decide (y1<(ln xF.Blocks)))then((gi xF.Blocks y1).bind λx1=>
 (ap 24 [] x1.Leaves).bind λq1=>
 (ap 40 a [(Block.mk x1.Bad x1.Wear q1)]).bind λq2=>
 some (.inl ((ad y1 1),q2)))
 else(some (.inr a))
def Lt (xF:Flash):Option (Flash):=
 (Aw (λs:Int×List Block=>QL xF s.1 s.2) (0,[])).bind λv1=>
 some (Flash.mk v1)
def uT (xX:Leaf):Option (Bool):=
 bif(xX.Is==0)then(some (seq xX.Text (bs [])))
 else(bif(xX.Is==1)then((JI (FL xX.Text) 1 120).bind λv1=>
 some v1)
 else(bif(xX.Is==2)then(some (decide ((FL xX.Text)<=120)))
 else(some false)))
def Me (x1:Block) (y2:Int):Option ((Int)⊕((Unit)⊕((Int)⊕((Unit)⊕(Bool))))):=
 bif(decide (y2<(ln x1.Leaves)))then((gi x1.Leaves y2).bind λx2=>
 ((uT x2).bind λv2=>
 bif(!v2)then(some true)
 else(bif(decide (y2>0))then((gi x1.Leaves (sb y2 1)).bind λx3=>
 bif(x3.Is==0)then(some (x2.Is !=0))
 else(some false))
 else(some false)):Option (Bool)).bind λj2=>
 bif j2 then(some (.inr (.inr (.inr (.inr false)))))
 else(some (.inl (ad y2 1))))
 else(some (.inr (.inl ())))
def Mf (xF:Flash) (y1:Int):Option ((Int)⊕((Unit)⊕(Bool))):=
 bif(decide (y1<(ln xF.Blocks)))then((gi xF.Blocks y1).bind λx1=>
 (bif((ln x1.Leaves) !=4)then(some true)
 else((JI x1.Wear 0 1000000000).bind λv1=>
 some (!v1)):Option (Bool)).bind λj1=>
 bif j1 then(some (.inr (.inr false)))
 else((Aw (λs:Int=>Me x1 s) 0).bind (Sum.elim (λv3=>(some (.inl (ad y1 1)))) some)))
 else(some (.inr (.inl ())))
def On (xF:Flash):Option (Bool):=
 (Aw (λs:Int=>Mf xF s) 0).bind (Sum.elim (λv4=>((JI (ln xF.Blocks) 3 10).bind λv5=>
 some v5)) some)
def QJ (xF:Flash) (xB:Int):Option (Bool):=
 (On xF).bind λv1=>
 bif v1 then((JI xB 0 (sb (ln xF.Blocks) 1)).bind λv2=>
 bif v2 then((gi xF.Blocks xB).bind λx1=>
 some (!x1.Bad))
 else(some false))
 else(some false)
def QP (xB:Block) (y1:Int):Option ((Int)⊕((Unit)⊕(Int))):=
 bif(decide (y1<(ln xB.Leaves)))then((gi xB.Leaves y1).bind λx1=>
 bif(x1.Is==0)then(some (.inr (.inr y1)))
 else(some (.inl (ad y1 1))))
 else(some (.inr (.inl ())))
def JB (xB:Block):Option (Int):=
 (Aw (λs:Int=>QP xB s) 0).bind (Sum.elim (λv1=>(some 4)) some)
def R2 (xF:Flash) (xB:Int) (a:Int) (b:ByteArray):Option (Flash×Bool):=
 (Lt xF).bind λv1=>
 ((QJ xF xB).bind λv2=>
 bif(!v2)then(some true)
 else((JI a 0 3).bind λv3=>
 bif(!v3)then(some true)
 else((gi xF.Blocks xB).bind λx1=>
 (JB x1).bind λv4=>
 bif(a !=v4)then(some true)
 else((JI (FL b) 1 120).bind λv5=>
 some (!v5)))):Option (Bool)).bind λj1=>
 bif j1 then(some (v1,false))
 else((gi v1.Blocks xB).bind λx2=>
 (gi x2.Leaves a).bind λx3=>
 some ((Flash.mk (si v1.Blocks xB (Block.mk x2.Bad x2.Wear (si x2.Leaves a (Leaf.mk 1 b))))),true))
def oB (xF:Flash) (xB:Int):Option (Flash×Bool):=
 (Lt xF).bind λv1=>
 ((QJ xF xB).bind λv2=>
 bif(!v2)then(some true)
 else((gi xF.Blocks xB).bind λx1=>
 some (x1.Wear==1000000000)):Option (Bool)).bind λj1=>
 bif j1 then(some (v1,false))
 else((KX).bind λv3=>
 (gi v1.Blocks xB).bind λx2=>
 (gi (si v1.Blocks xB (Block.mk x2.Bad x2.Wear v3)) xB).bind λx3=>
 (gi (si v1.Blocks xB (Block.mk x2.Bad x2.Wear v3)) xB).bind λx4=>
 some ((Flash.mk (si (si v1.Blocks xB (Block.mk x2.Bad x2.Wear v3)) xB (Block.mk x4.Bad (ad x3.Wear 1) x4.Leaves))),true))
def Ud (xF:Flash) (xS:Bb):Option (Flash×Bool):=
 bif(xS.Kind==1)then((R2 xF xS.Block xS.Leaf xS.Text).bind λv1=>
 some (v1.1,v1.2))
 else(bif(xS.Kind==2)then((oB xF xS.Block).bind λv2=>
 some (v2.1,v2.2))
 else((Lt xF).bind λv3=>
 some (v3,false)))
def XH (a:List Int):Option (Bool):=
 some (decide ((ln a)>1048576))
def Jv (a:List Int) (c:Int) (b:Int):Option ((Int×Int)⊕(Int)):=
 (bif(decide (b<(ln a)))then(some (decide (b<4000)))
 else(some false):Option (Bool)).bind λj1=>
 bif j1 then((gi a b).bind λx1=>
 some (.inl ((ban .i64 (ad (ad (ml c 131) (IntKind.i64.wrap x1)) 7) 1073741823),(ad b 1))))
 else(some (.inr c))
def Qr (a:List Int):Option (BZ):=
 (Aw (λs:Int×Int=>Jv a s.1 s.2) ((ad 36501 (ln a)),0)).bind λv1=>
 some (BZ.mk a 0 v1)
def Ip (xC:BZ):Option (Int×BZ):=
 bif(decide (xC.i_<(ln xC.b_)))then((gi xC.b_ xC.i_).bind λx1=>
 some ((ban .i64 (ad (ban .i64 (bxo .i64 (Int.fdiv (ad (ml xC.h_ 6364136223846793005) 1442695040888963407) (2^(min (33:Int).toNat IntKind.i64.bits))) (Int.fdiv (ad (ml xC.h_ 6364136223846793005) 1442695040888963407) (2^(min (45:Int).toNat IntKind.i64.bits)))) 255) (IntKind.i64.wrap x1)) 255),(BZ.mk xC.b_ (ad xC.i_ 1) (ad (ml xC.h_ 6364136223846793005) 1442695040888963407))))
 else(some ((ban .i64 (bxo .i64 (Int.fdiv (ad (ml xC.h_ 6364136223846793005) 1442695040888963407) (2^(min (33:Int).toNat IntKind.i64.bits))) (Int.fdiv (ad (ml xC.h_ 6364136223846793005) 1442695040888963407) (2^(min (45:Int).toNat IntKind.i64.bits)))) 255),(BZ.mk xC.b_ xC.i_ (ad (ml xC.h_ 6364136223846793005) 1442695040888963407))))
def D7 (xC:BZ) (xN:Int):Option (Int×BZ):=
 bif(decide (xN<=0))then(some (0,xC))
 else(bif(decide (xN<=256))then((Ip xC).bind λv1=>
 (rm .i64 v1.1 xN).bind λx1=>
 some (x1,v1.2))
 else((Ip xC).bind λv2=>
 (Ip v2.2).bind λv3=>
 (Ip v3.2).bind λv4=>
 (Ip v4.2).bind λv5=>
 (rm .i64 (ad (ad (ad (ml v2.1 16777216) (ml v3.1 65536)) (ml v4.1 256)) v5.1) xN).bind λx2=>
 some (x2,v5.2)))
def OL (xF:Flash) (xB:Int) (a:Int):Option (ByteArray×Bool):=
 ((BY xB 0 (sb (ln xF.Blocks) 1)).bind λv1=>
 bif(!v1)then(some true)
 else((gi xF.Blocks xB).bind λx1=>
 (BY a 0 (sb (ln x1.Leaves) 1)).bind λv2=>
 bif(!v2)then(some true)
 else((gi xF.Blocks xB).bind λx2=>
 (gi x2.Leaves a).bind λx3=>
 some (x3.Is !=1))):Option (Bool)).bind λj1=>
 bif j1 then(some ((bs []),false))
 else((gi xF.Blocks xB).bind λx4=>
 (gi x4.Leaves a).bind λx5=>
 some (x5.Text,true))
def It (a:Int) (b:Int):Option ((Int×Int)⊕(Int)):=
 bif(decide (b<8))then(bif((Int.tmod a 2)==1)then(some (.inl ((xr (IntKind.u32.wrap (Int.tdiv a 2)) 3558460437),(ad b 1))))
 else(some (.inl ((IntKind.u32.wrap (Int.tdiv a 2)),(ad b 1)))))
 else(some (.inr a))
def JS (a:ByteArray) (b:Int) (c:Int):Option ((Int×Int)⊕(Int)):=
 bif(decide (c<(FL a)))then((sx a c).bind λx1=>
 (Aw (λs:Int×Int=>It s.1 s.2) ((xr b (IntKind.u32.wrap x1)),0)).bind λv1=>
 some (.inl (v1,(ad c 1))))
 else(some (.inr b))
def Rn (b:Int) (a:ByteArray):Option (Int):=
 (Aw (λs:Int×Int=>JS a s.1 s.2) (b,0)).bind λv2=>
 some v2
def Nq (a:ByteArray):Option (Int):=
 (Rn 4294967295 a).bind λv1=>
 some v1
def K2 (xX:Int):Option (ByteArray):=
 some (EI [(IntKind.u8.wrap (Int.fdiv xX (2^(min (24:Int).toNat IntKind.u32.bits)))),(IntKind.u8.wrap (Int.fdiv xX (2^(min (16:Int).toNat IntKind.u32.bits)))),(IntKind.u8.wrap (Int.fdiv xX (2^(min (8:Int).toNat IntKind.u32.bits)))),(IntKind.u8.wrap xX)])
def K3 (a:ByteArray):Option (ByteArray×Bool):=
 (bif(decide ((sb (FL a) 4)<0))then(some true)
 else(bif(decide ((sb (FL a) 4)>20000))then(some true)
 else((sub a (sb (FL a) 4) (FL a)).bind λx1=>
 (sub a 0 (sb (FL a) 4)).bind λx2=>
 (Nq x2).bind λv1=>
 (K2 v1).bind λv2=>
 some (!(seq x1 v2)))):Option (Bool)).bind λj1=>
 bif j1 then(some ((bs []),false))
 else((sub a 0 (sb (FL a) 4)).bind λx3=>
 some (x3,true))
def HQ (b:Int) (a:List Int):Option ((Int×List Int)⊕(Int×List Int)):=
 bif(decide (b>127))then((ap 1 a [(IntKind.u8.wrap (ad (Int.tmod b 128) 128))]).bind λq1=>
 some (.inl ((qu b 128),q1)))
 else(some (.inr (b,a)))
def Hk (xN:Int):Option (ByteArray):=
 (Aw (λs:Int×List Int=>HQ s.1 s.2) (xN,[])).bind λv1=>
 (ap 1 v1.2 [(IntKind.u8.wrap v1.1)]).bind λq2=>
 some (EI q2)
def DK (b:ByteArray) (e:Int) (d:Int) (a:Int) (c:Int):Option ((Int×Int×Int)⊕((Unit)⊕((Int×Int×Bool)))):=
 (bif(decide (c<(FL b)))then(some (decide (c<(ad e 5))))
 else(some false):Option (Bool)).bind λj1=>
 bif j1 then((sx b c).bind λx1=>
 (sx b c).bind λx2=>
 bif(decide (x2<128))then((bif(decide ((ad d (ml (Int.tmod (IntKind.i64.wrap x1) 128) a))>1000000000))then(some true)
 else((sub b e (ad c 1)).bind λx3=>
 (Hk (ad d (ml (Int.tmod (IntKind.i64.wrap x1) 128) a))).bind λv2=>
 some (!(seq v2 x3))):Option (Bool)).bind λj2=>
 bif j2 then(some (.inr (.inr (0,0,false))))
 else(some (.inr (.inr ((ad d (ml (Int.tmod (IntKind.i64.wrap x1) 128) a)),(ad c 1),true)))))
 else(some (.inl ((ad d (ml (Int.tmod (IntKind.i64.wrap x1) 128) a)),(ml a 128),(ad c 1)))))
 else(some (.inr (.inl ())))
def Jx (a:ByteArray) (b:Int):Option (Int×Int×Bool):=
 (BY b 0 (FL a)).bind λv1=>
 bif(!v1)then(some (0,0,false))
 else((Aw (λs:Int×Int×Int=>DK a b s.1 s.2.1 s.2.2) (0,1,b)).bind (Sum.elim (λv3=>(some (0,0,false))) some))
def Du (xC:D0):Option (Int×D0):=
 (Jx xC.text_ xC.at_).bind λv1=>
 (bif xC.bad_ then(some true)
 else(some (!v1.2.2)):Option (Bool)).bind λj1=>
 bif j1 then(some (0,(D0.mk xC.text_ xC.at_ true)))
 else(some (v1.1,(D0.mk xC.text_ v1.2.1 xC.bad_)))
def JW (xP:Page):Option (Bool):=
 ((BY xP.Kind 1 2).bind λv1=>
 bif(!v1)then(some true)
 else((BY xP.Seq 1 1000000000).bind λv2=>
 bif(!v2)then(some true)
 else((BY xP.Tx 1 1000000000).bind λv3=>
 bif(!v3)then(some true)
 else((BY xP.Count 1 9).bind λv4=>
 bif(!v4)then(some true)
 else((BY xP.Part 0 (sb xP.Count 1)).bind λv5=>
 bif(!v5)then(some true)
 else(some (decide ((FL xP.Text)>90))))))):Option (Bool)).bind λj1=>
 bif j1 then(some false)
 else(bif(xP.Kind==2)then(some true)
 else(some (xP.Count==1)))
def Js (xN:Int):Option (ByteArray):=
 some (EI [(IntKind.u8.wrap xN)])
def JT (a:ByteArray):Option (ByteArray×Bool):=
 bif(decide ((FL a)>20000))then(some ((bs []),false))
 else((Nq a).bind λv1=>
 (K2 v1).bind λv2=>
 (HH a v2).bind λx1=>
 some (x1,true))
def E5 (xP:Page):Option (ByteArray×Bool):=
 (JW xP).bind λv1=>
 bif(!v1)then(some ((bs []),false))
 else((Js xP.Kind).bind λv2=>
 (Hk xP.Seq).bind λv3=>
 (HH v2 v3).bind λx1=>
 (Hk xP.Tx).bind λv4=>
 (HH x1 v4).bind λx2=>
 (Hk xP.Part).bind λv5=>
 (HH x2 v5).bind λx3=>
 (Hk xP.Count).bind λv6=>
 (HH x3 v6).bind λx4=>
 (HH x4 xP.Text).bind λx5=>
 (JT x5).bind λv7=>
 some (v7.1,v7.2))
def F7 (xT:ByteArray):Option (Page×Bool):=
 (K3 xT).bind λv1=>
 (bif(!v1.2)then(some true)
 else(some (decide ((FL v1.1)<1))):Option (Bool)).bind λj1=>
 (Du (D0.mk v1.1 1 j1)).bind λv2=>
 (Du v2.2).bind λv3=>
 (Du v3.2).bind λv4=>
 (Du v4.2).bind λv5=>
 bif v5.2.bad_ then(some ((Page.mk 0 0 0 0 0 (bs [])),false))
 else((sx v1.1 0).bind λx1=>
 (sub v1.1 v5.2.at_ (FL v1.1)).bind λx2=>
 (E5 (Page.mk (IntKind.i64.wrap x1) v2.1 v3.1 v4.1 v5.1 x2)).bind λv6=>
 (bif(!v6.2)then(some true)
 else(some (!(seq v6.1 xT))):Option (Bool)).bind λj2=>
 bif j2 then(some ((Page.mk 0 0 0 0 0 (bs [])),false))
 else(some ((Page.mk (IntKind.i64.wrap x1) v2.1 v3.1 v4.1 v5.1 x2),true)))
def Fd (xF:Flash) (c:Int) (a:List As) (b:Int):Option ((List As×Int)⊕(List As)):=
 (gi xF.Blocks c).bind λx1=>
 bif(decide (b<(ln x1.Leaves)))then((OL xF c b).bind λv1=>
 (F7 v1.1).bind λv2=>
 (bif v1.2 then(some v2.2)
 else(some false):Option (Bool)).bind λj1=>
 bif j1 then((ap 72 a [(As.mk c b v2.1)]).bind λq1=>
 some (.inl (q1,(ad b 1))))
 else(some (.inl (a,(ad b 1)))))
 else(some (.inr a))
def EC (xF:Flash) (a:List As) (b:Int):Option ((List As×Int)⊕(List As)):=
 bif(decide (b<(ln xF.Blocks)))then((Aw (λs:List As×Int=>Fd xF b s.1 s.2) (a,0)).bind λv3=>
 some (.inl (v3,(ad b 1))))
 else(some (.inr a))
def JU (a:List As) (b:Int):Option ((List As×Int)⊕(List As)):=
 (bif(decide (b>0))then((gi a (sb b 1)).bind λx2=>
 (gi a b).bind λx3=>
 some (decide (x2.Page.Seq>x3.Page.Seq)))
 else(some false):Option (Bool)).bind λj2=>
 bif j2 then((gi a b).bind λx4=>
 (gi a (sb b 1)).bind λx5=>
 (gi a b).bind λx6=>
 (gi (si a b x5) (sb b 1)).bind λx7=>
 some (.inl ((si (si a b x5) (sb b 1) x4),(sb b 1))))
 else(some (.inr a))
def JV (a:List As) (b:Int):Option ((List As×Int)⊕(List As)):=
 bif(decide (b<(ln a)))then((Aw (λs:List As×Int=>JU s.1 s.2) (a,b)).bind λv5=>
 some (.inl (v5,(ad b 1))))
 else(some (.inr a))
def FZ (xF:Flash):Option (List As):=
 (Aw (λs:List As×Int=>EC xF s.1 s.2) ([],0)).bind λv4=>
 (Aw (λs:List As×Int=>JV s.1 s.2) (v4,1)).bind λv6=>
 some v6
def OJ:Option (Store):=
 some (Store.mk [] (Arena.mk []) 1)
def Ns (xR:Cu):Option (Bool):=
 (BY xR.Arg 0 1000000000).bind λv1=>
 bif(!v1)then(some false)
 else(bif(xR.Kind==1)then((bif(xR.Vol==0)then(some (xR.Chunk==0))
 else(some false):Option (Bool)).bind λj1=>
 some j1)
 else(((BY xR.Kind 2 5).bind λv2=>
 bif(!v2)then(some true)
 else((BY xR.Vol 1 9).bind λv3=>
 bif(!v3)then(some true)
 else(bif(xR.Kind !=4)then(some (xR.Chunk !=0))
 else(some false))):Option (Bool)).bind λj2=>
 bif j2 then(some false)
 else(bif(xR.Kind==2)then(some (decide (xR.Arg<=9)))
 else(bif(xR.Kind==3)then(some (xR.Arg==0))
 else(bif(xR.Kind==4)then(bif(decide (xR.Arg<16))then((BY xR.Chunk 1 1000000000).bind λv4=>
 some v4)
 else(some false))
 else(some (decide (xR.Arg<16))))))))
def DG (xT:ByteArray) (a:List Cu) (y01:ByteArray) (y11:Int) (y21:Bool):Option ((List Cu×ByteArray×Int×Bool)⊕((List Cu)⊕((List Cu×Bool)))):=
 (bif(decide (y11<(FL xT)))then(some (!y21))
 else(some false):Option (Bool)).bind λj1=>
 bif j1 then((sx xT y11).bind λx1=>
 (Du (D0.mk y01 (ad y11 1) y21)).bind λv1=>
 (Du v1.2).bind λv2=>
 (bif v2.2.bad_ then(some true)
 else((Ns (Cu.mk (qu (IntKind.i64.wrap x1) 16) (Int.tmod (IntKind.i64.wrap x1) 16) v1.1 v2.1)).bind λv3=>
 some (!v3)):Option (Bool)).bind λj2=>
 bif j2 then(some (.inr (.inr ([],false))))
 else((ap 32 a [(Cu.mk (qu (IntKind.i64.wrap x1) 16) (Int.tmod (IntKind.i64.wrap x1) 16) v1.1 v2.1)]).bind λq1=>
 some (.inl (q1,v2.2.text_,v2.2.at_,v2.2.bad_))))
 else(some (.inr (.inl a)))
def HU (xT:ByteArray):Option (List Cu×Bool):=
 (Aw (λs:List Cu×ByteArray×Int×Bool=>DG xT s.1 s.2.1 s.2.2.1 s.2.2.2) ([],xT,0,false)).bind (Sum.elim (λv4=>(some (v4,true))) some)
def Je (f:List As) (h:Int) (d:Int) (b:Int) (e:ByteArray) (c:Bool) (g:Int) (a:Int):Option ((Int×ByteArray×Bool×Int×Int)⊕(Int×ByteArray×Bool×Int)):=
 (bif(decide (g<(ln f)))then(some (!c))
 else(some false):Option (Bool)).bind λj2=>
 bif j2 then((gi f g).bind λx1=>
 (bif(x1.Page.Kind !=2)then(some true)
 else(bif(x1.Page.Tx !=h)then(some true)
 else(bif(x1.Page.Part !=d)then(some true)
 else(bif(decide (d>0))then(some (x1.Page.Count !=b))
 else(some false)))):Option (Bool)).bind λj3=>
 bif j3 then(some (.inl (b,e,c,(ad g 1),a)))
 else((HH e x1.Page.Text).bind λx2=>
 (bif(d==0)then(some true)
 else(some (decide (x1.Page.Seq<a))):Option (Bool)).bind λj4=>
 bif j4 then(some (.inl (x1.Page.Count,x2,true,(ad g 1),x1.Page.Seq)))
 else(some (.inl (x1.Page.Count,x2,true,(ad g 1),a)))))
 else(some (.inr (b,e,c,a)))
def OI (e:List As) (f:Int) (b:Int) (c:ByteArray) (a:Int) (d:Int):Option ((Int×ByteArray×Int×Int)⊕((ByteArray×Int)⊕((Tx×Bool)))):=
 (bif(a==0)then(some true)
 else(some (decide (a<b))):Option (Bool)).bind λj1=>
 bif j1 then((Aw (λs:Int×ByteArray×Bool×Int×Int=>Je e f a s.1 s.2.1 s.2.2.1 s.2.2.2.1 s.2.2.2.2) (b,c,false,0,d)).bind λv1=>
 bif(!v1.2.2.1)then(some (.inr (.inr ((Tx.mk f v1.2.2.2 []),false))))
 else(some (.inl (v1.1,v1.2.1,(ad a 1),v1.2.2.2))))
 else(some (.inr (.inl (c,d))))
def Xs (a:List As) (b:Int):Option (Tx×Bool):=
 (Aw (λs:Int×ByteArray×Int×Int=>OI a b s.1 s.2.1 s.2.2.1 s.2.2.2) (0,(bs []),0,0)).bind (Sum.elim (λv2=>((HU v2.1).bind λv3=>
 some ((Tx.mk b v2.2 v3.1),v3.2))) some)
def Ln (a:List Int) (x1:As) (b:List Int) (c:Int):Option ((List Int×Int)⊕(List Int)):=
 bif(decide (c<(ln a)))then((gi a c).bind λx2=>
 bif(decide (x2<x1.Page.Tx))then((gi a c).bind λx3=>
 (ap 8 b [x3]).bind λq1=>
 some (.inl (q1,(ad c 1))))
 else(some (.inl (b,(ad c 1)))))
 else(some (.inr b))
def Lm (a:List Int) (x1:As) (b:List Int) (c:Int):Option ((List Int×Int)⊕(List Int)):=
 bif(decide (c<(ln a)))then((gi a c).bind λx4=>
 bif(decide (x4>x1.Page.Tx))then((gi a c).bind λx5=>
 (ap 8 b [x5]).bind λq3=>
 some (.inl (q3,(ad c 1))))
 else(some (.inl (b,(ad c 1)))))
 else(some (.inr b))
def J0 (b:List As) (a:List Int) (c:Int):Option ((List Int×Int)⊕(List Int)):=
 bif(decide (c<(ln b)))then((gi b c).bind λx1=>
 bif(x1.Page.Kind !=2)then(some (.inl (a,(ad c 1))))
 else((Aw (λs:List Int×Int=>Ln a x1 s.1 s.2) ([],0)).bind λv1=>
 (ap 8 v1 [x1.Page.Tx]).bind λq2=>
 (Aw (λs:List Int×Int=>Lm a x1 s.1 s.2) (q2,0)).bind λv2=>
 some (.inl (v2,(ad c 1)))))
 else(some (.inr a))
def Jz (c:List As) (v3:List Int) (a:List Tx) (b:Int):Option ((List Tx×Int)⊕(List Tx)):=
 bif(decide (b<(ln v3)))then((gi v3 b).bind λx6=>
 (Xs c x6).bind λv4=>
 bif v4.2 then((ap 40 a [v4.1]).bind λq4=>
 some (.inl (q4,(ad b 1))))
 else(some (.inl (a,(ad b 1)))))
 else(some (.inr a))
def Qu (a:List As):Option (List Tx):=
 (Aw (λs:List Int×Int=>J0 a s.1 s.2) ([],0)).bind λv3=>
 (Aw (λs:List Tx×Int=>Jz a v3 s.1 s.2) ([],0)).bind λv5=>
 some v5
def GC (a:List Tx) (c:Int) (b:Int):Option ((Int×Int)⊕(Int)):=
 bif(decide (b<(ln a)))then((gi a b).bind λx1=>
 bif(decide ((ln x1.Recs)>0))then((gi a b).bind λx2=>
 (gi x2.Recs 0).bind λx3=>
 bif(x3.Kind==1)then(some (.inl (b,(ad b 1))))
 else(some (.inl (c,(ad b 1)))))
 else(some (.inl (c,(ad b 1)))))
 else(some (.inr c))
def HR (a:List Tx) (b:List Tx) (c:Int):Option ((List Tx×Int)⊕(List Tx)):=
 bif(decide (c<(ln a)))then((gi a c).bind λx4=>
 (ap 32 [] x4.Recs).bind λq1=>
 (ap 40 b [(Tx.mk x4.Num x4.Seq q1)]).bind λq2=>
 some (.inl (q2,(ad c 1))))
 else(some (.inr b))
def Nr (a:List Tx):Option (List Tx):=
 (Aw (λs:Int×Int=>GC a s.1 s.2) (0,0)).bind λv1=>
 (Aw (λs:List Tx×Int=>HR a s.1 s.2) ([],v1)).bind λv2=>
 some v2
def JP (xA:Arena) (b:Int) (a:List Cc):Option ((Int×List Cc)⊕(List Cc)):=
 bif(decide (b<(ln xA.Knots)))then((gi xA.Knots b).bind λx1=>
 (gi xA.Knots b).bind λx2=>
 (ap 8 [] x2.Kids).bind λq1=>
 (ap 32 a [(Cc.mk x1.Leaf q1)]).bind λq2=>
 some (.inl ((ad b 1),q2)))
 else(some (.inr a))
def Ml (xA:Arena):Option (Arena):=
 (Aw (λs:Int×List Cc=>JP xA s.1 s.2) (0,[])).bind λv1=>
 some (Arena.mk v1)
def EO (xS:Store):Option (Store):=
 (ap 16 [] xS.Vols).bind λq1=>
 (Ml xS.Arena).bind λv1=>
 some (Store.mk q1 v1 xS.Next)
def Ek (xA:Arena) (b:Int) (x1:Cc) (a:Int):Option ((Int)⊕((Unit)⊕((Int)⊕((Unit)⊕(Bool))))):=
 bif(decide (a<4))then((gi x1.Kids a).bind λx2=>
 (bif x1.Leaf then(bif(decide (x2<0))then(some true)
 else(bif(!x1.Leaf)then(bif(x2 !=(-1))then((BY x2 0 (sb b 1)).bind λv1=>
 bif(!v1)then(some true)
 else((gi xA.Knots x2).bind λx3=>
 some (!x3.Leaf)))
 else(some false))
 else(some false)))
 else(bif(!x1.Leaf)then(bif(x2 !=(-1))then((BY x2 0 (sb b 1)).bind λv2=>
 bif(!v2)then(some true)
 else((gi xA.Knots x2).bind λx4=>
 some (!x4.Leaf)))
 else(some false))
 else(some false)):Option (Bool)).bind λj1=>
 bif j1 then(some (.inr (.inr (.inr (.inr false)))))
 else(some (.inl (ad a 1))))
 else(some (.inr (.inl ())))
def El (xA:Arena) (a:Int):Option ((Int)⊕((Unit)⊕(Bool))):=
 bif(decide (a<(ln xA.Knots)))then((gi xA.Knots a).bind λx1=>
 bif((ln x1.Kids) !=4)then(some (.inr (.inr false)))
 else((Aw (λs:Int=>Ek xA a x1 s) 0).bind (Sum.elim (λv3=>(some (.inl (ad a 1)))) some)))
 else(some (.inr (.inl ())))
def GF (xA:Arena):Option (Bool):=
 (Aw (λs:Int=>El xA s) 0).bind (Sum.elim (λv4=>(some true)) some)
def Hu (xA:Arena) (a:Int):Option (Bool):=
 bif(a==(-1))then(some true)
 else((BY a 0 (sb (ln xA.Knots) 1)).bind λv1=>
 bif v1 then((gi xA.Knots a).bind λx1=>
 some (!x1.Leaf))
 else(some false))
def MD (xA:Arena) (b:Int) (a:Int):Option (Int):=
 bif(decide (b<0))then(some 0)
 else((gi xA.Knots b).bind λx1=>
 (gi x1.Kids (qu a 4)).bind λx2=>
 bif(decide (x2<0))then(some 0)
 else((gi xA.Knots x2).bind λx3=>
 (gi x3.Kids (Int.tmod a 4)).bind λx4=>
 some x4))
def Ht (xS:Store) (a:List Int) (b:Int):Option ((List Int×Int)⊕(List Int)):=
 bif(decide (b<(ln xS.Vols)))then((gi xS.Vols b).bind λx1=>
 (ap 8 a [x1.Root]).bind λq1=>
 some (.inl (q1,(ad b 1))))
 else(some (.inr a))
def MC (xS:Store):Option (List Int):=
 (Aw (λs:List Int×Int=>Ht xS s.1 s.2) ([],0)).bind λv1=>
 some v1
def Jr (xA:Arena) (b:Int) (a:List Bool) (c:Int):Option ((List Bool×Int)⊕(List Bool)):=
 bif(decide (c<4))then((gi xA.Knots b).bind λx2=>
 (gi x2.Kids c).bind λx3=>
 bif(decide (x3>=0))then((gi xA.Knots b).bind λx4=>
 (gi x4.Kids c).bind λx5=>
 (gi a x5).bind λx6=>
 some (.inl ((si a x5 true),(ad c 1))))
 else(some (.inl (a,(ad c 1)))))
 else(some (.inr a))
def Tv (xA:Arena) (a:Int):Option (List Bool):=
 (mk 1 false (ln xA.Knots)).bind λq1=>
 bif(decide (a<0))then(some q1)
 else((gi q1 a).bind λx1=>
 (Aw (λs:List Bool×Int=>Jr xA a s.1 s.2) ((si q1 a true),0)).bind λv1=>
 some v1)
def FY (xA:Arena) (a:List Int) (b:Bool) (c:Int):Option ((Bool×Int)⊕(Bool)):=
 (bif(decide (c<(ln a)))then(some b)
 else(some false):Option (Bool)).bind λj1=>
 bif j1 then((gi a c).bind λx1=>
 (Hu xA x1).bind λv2=>
 some (.inl (v2,(ad c 1))))
 else(some (.inr b))
def Hl (v5:List Bool) (a:List Bool) (b:Int):Option ((List Bool×Int)⊕(List Bool)):=
 bif(decide (b<(ln v5)))then((gi a b).bind λx3=>
 bif x3 then((gi a b).bind λx4=>
 some (.inl ((si a b true),(ad b 1))))
 else((gi v5 b).bind λx5=>
 (gi a b).bind λx6=>
 some (.inl ((si a b x5),(ad b 1)))))
 else(some (.inr a))
def FX (xA:Arena) (a:List Int) (b:List Bool) (c:Int):Option ((List Bool×Int)⊕(List Bool)):=
 bif(decide (c<(ln a)))then((gi a c).bind λx2=>
 (Tv xA x2).bind λv5=>
 (Aw (λs:List Bool×Int=>Hl v5 s.1 s.2) (b,0)).bind λv6=>
 some (.inl (v6,(ad c 1))))
 else(some (.inr b))
def FV (c:List Int) (j2:Bool×List Int) (b:Int) (a:List Int):Option ((Int×List Int)⊕(List Int)):=
 (bif(decide (b<4))then(some (!j2.1))
 else(some false):Option (Bool)).bind λj3=>
 bif j3 then((gi a b).bind λx10=>
 bif(decide (x10>=0))then((gi a b).bind λx11=>
 (gi c x11).bind λx12=>
 (gi a b).bind λx13=>
 some (.inl ((ad b 1),(si a b x12))))
 else(some (.inl ((ad b 1),a))))
 else(some (.inr a))
def FW (xA:Arena) (v7:List Bool) (a:List Int) (c:Int) (b:List Cc):Option ((List Int×Int×List Cc)⊕(List Int×List Cc)):=
 bif(decide (c<(ln xA.Knots)))then((gi v7 c).bind λx7=>
 bif(!x7)then(some (.inl (a,(ad c 1),b)))
 else(((gi xA.Knots c).bind λx8=>
 (gi xA.Knots c).bind λx9=>
 (ap 8 [] x9.Kids).bind λq4=>
 some (x8.Leaf,q4):Option (Bool×List Int)).bind λj2=>
 (Aw (λs:Int×List Int=>FV a j2 s.1 s.2) (0,j2.2)).bind λv8=>
 (gi a c).bind λx14=>
 (ap 32 b [(Cc.mk j2.1 v8)]).bind λq7=>
 some (.inl ((si a c (ln b)),(ad c 1),q7))))
 else(some (.inr (a,b)))
def FU (v9:List Int×List Cc) (a:List Int) (b:Int):Option ((List Int×Int)⊕(List Int)):=
 bif(decide (b<(ln a)))then((gi a b).bind λx15=>
 bif(decide (x15>=0))then((gi a b).bind λx16=>
 (gi v9.1 x16).bind λx17=>
 (gi a b).bind λx18=>
 some (.inl ((si a b x17),(ad b 1))))
 else(some (.inl (a,(ad b 1)))))
 else(some (.inr a))
def JR (xA:Arena) (a:List Int):Option (Arena×List Int):=
 (ap 8 [] a).bind λq1=>
 (GF xA).bind λv1=>
 (Aw (λs:Bool×Int=>FY xA a s.1 s.2) (v1,0)).bind λv3=>
 bif(!v3)then((Ml xA).bind λv4=>
 some (v4,q1))
 else((mk 1 false (ln xA.Knots)).bind λq2=>
 (Aw (λs:List Bool×Int=>FX xA a s.1 s.2) (q2,0)).bind λv7=>
 (mk 8 0 (ln xA.Knots)).bind λq3=>
 (Aw (λs:List Int×Int×List Cc=>FW xA v7 s.1 s.2.1 s.2.2) (q3,0,[])).bind λv9=>
 (Aw (λs:List Int×Int=>FU v9 s.1 s.2) (q1,0)).bind λv10=>
 some ((Arena.mk v9.2),v10))
def Iu (xS:Store) (x1:Vol) (a:Int):Option ((Int)⊕((Unit)⊕((Int)⊕((Unit)⊕(Bool))))):=
 bif(decide (a<16))then((MD xS.Arena x1.Root a).bind λv6=>
 bif(decide (v6>=xS.Next))then(some (.inr (.inr (.inr (.inr false)))))
 else(some (.inl (ad a 1))))
 else(some (.inr (.inl ())))
def Iv (xS:Store) (a:Int):Option ((Int)⊕((Unit)⊕(Bool))):=
 bif(decide (a<(ln xS.Vols)))then((gi xS.Vols a).bind λx1=>
 ((BY x1.Id 1 9).bind λv3=>
 bif(!v3)then(some true)
 else(bif(decide (a>0))then((gi xS.Vols (sb a 1)).bind λx2=>
 bif(decide (x2.Id>=x1.Id))then(some true)
 else((Hu xS.Arena x1.Root).bind λv4=>
 some (!v4)))
 else((Hu xS.Arena x1.Root).bind λv5=>
 some (!v5))):Option (Bool)).bind λj2=>
 bif j2 then(some (.inr (.inr false)))
 else((Aw (λs:Int=>Iu xS x1 s) 0).bind (Sum.elim (λv7=>(some (.inl (ad a 1)))) some)))
 else(some (.inr (.inl ())))
def NZ (xS:Store):Option (Bool):=
 (bif(decide ((ln xS.Vols)>3))then(some true)
 else((GF xS.Arena).bind λv1=>
 bif(!v1)then(some true)
 else((BY xS.Next 1 1000000000).bind λv2=>
 some (!v2))):Option (Bool)).bind λj1=>
 bif j1 then(some false)
 else((Aw (λs:Int=>Iv xS s) 0).bind (Sum.elim (λv8=>(((MC xS).bind λv10=>
 (JR xS.Arena v10).bind λv12=>
 some v12.1.Knots:Option (List Cc)).bind λj3=>
 some ((ln j3)==(ln xS.Arena.Knots)))) some))
def K0 (xS:Store) (b:Int) (a:Int):Option ((Int)⊕((Unit)⊕(Int))):=
 bif(decide (a<(ln xS.Vols)))then((gi xS.Vols a).bind λx1=>
 bif(x1.Id==b)then(some (.inr (.inr a)))
 else(some (.inl (ad a 1))))
 else(some (.inr (.inl ())))
def He (xS:Store) (a:Int):Option (Int):=
 (Aw (λs:Int=>K0 xS a s) 0).bind (Sum.elim (λv1=>(some (-1))) some)
def Lf (xS:Store) (xR:Cu) (a:List Vol) (b:Int):Option ((List Vol×Int)⊕(List Vol)):=
 bif(decide (b<(ln xS.Vols)))then((gi xS.Vols b).bind λx2=>
 bif(decide (x2.Id<xR.Vol))then((gi xS.Vols b).bind λx3=>
 (ap 16 a [x3]).bind λq1=>
 some (.inl (q1,(ad b 1))))
 else(some (.inl (a,(ad b 1)))))
 else(some (.inr a))
def Le (xS:Store) (xR:Cu) (a:List Vol) (b:Int):Option ((List Vol×Int)⊕(List Vol)):=
 bif(decide (b<(ln xS.Vols)))then((gi xS.Vols b).bind λx4=>
 bif(decide (x4.Id>xR.Vol))then((gi xS.Vols b).bind λx5=>
 (ap 16 a [x5]).bind λq3=>
 some (.inl (q3,(ad b 1))))
 else(some (.inl (a,(ad b 1)))))
 else(some (.inr a))
def MB (xS:Store) (xR:Cu):Option (Store×Bool):=
 (bif(decide (xR.Arg>0))then((He xS xR.Arg).bind λv1=>
 bif(decide (v1<0))then((EO xS).bind λv2=>
 some (.inr (v2,false)))
 else((gi xS.Vols v1).bind λx1=>
 some (.inl x1.Root)))
 else(some (.inl (-1))):Option ((Int)⊕((Store×Bool)))).bind (Sum.elim (λj1=>(((He xS xR.Vol).bind λv3=>
 bif(decide (v3>=0))then(some true)
 else(some ((ln xS.Vols)==3)):Option (Bool)).bind λj2=>
 bif j2 then((EO xS).bind λv4=>
 some (v4,false))
 else((EO xS).bind λv5=>
 (Aw (λs:List Vol×Int=>Lf xS xR s.1 s.2) ([],0)).bind λv6=>
 (ap 16 v6 [(Vol.mk xR.Vol j1)]).bind λq2=>
 (Aw (λs:List Vol×Int=>Le xS xR s.1 s.2) (q2,0)).bind λv7=>
 some ((Store.mk v7 v5.Arena v5.Next),true)))) some)
def IL (j1:List Int×List Cc) (b:Int) (a:List Vol):Option ((Int×List Vol)⊕(List Vol)):=
 bif(decide (b<(ln a)))then((gi j1.1 b).bind λx1=>
 (gi a b).bind λx2=>
 some (.inl ((ad b 1),(si a b (Vol.mk x2.Id x1)))))
 else(some (.inr a))
def Hd (xS:Store):Option (Store):=
 ((MC xS).bind λv2=>
 (JR xS.Arena v2).bind λv4=>
 some (v4.2,v4.1.Knots):Option (List Int×List Cc)).bind λj1=>
 ((ap 16 [] xS.Vols).bind λq1=>
 some q1:Option (List Vol)).bind λj2=>
 (Aw (λs:Int×List Vol=>IL j1 s.1 s.2) (0,j2)).bind λv8=>
 some (Store.mk v8 (Arena.mk j1.2) xS.Next)
def Xv (xA:Arena) (b:Int) (a:Int) (xN:Int):Option (Arena×Int):=
 (Ml xA).bind λv1=>
 ((GF xA).bind λv2=>
 bif(!v2)then(some true)
 else((Hu xA b).bind λv3=>
 bif(!v3)then(some true)
 else((BY a 0 15).bind λv4=>
 bif(!v4)then(some true)
 else(some (decide (xN<0))))):Option (Bool)).bind λj1=>
 bif j1 then(some (v1,b))
 else((mk 8 0 4).bind λq1=>
 (bif(decide (b>=0))then((gi xA.Knots b).bind λx1=>
 (ap 8 [] x1.Kids).bind λq2=>
 (gi q2 (qu a 4)).bind λx2=>
 bif(decide (x2>=0))then((gi xA.Knots x2).bind λx3=>
 (ap 8 [] x3.Kids).bind λq3=>
 some (q3,q2))
 else(some (q1,q2)))
 else(some (q1,[(-1),(-1),(-1),(-1)])):Option (List Int×List Int)).bind λj2=>
 (gi j2.1 (Int.tmod a 4)).bind λx4=>
 (gi j2.2 (qu a 4)).bind λx5=>
 (ap 32 v1.Knots [(Cc.mk true (si j2.1 (Int.tmod a 4) xN)),(Cc.mk false (si j2.2 (qu a 4) (ln v1.Knots)))]).bind λq4=>
 some ((Arena.mk q4),(sb (ln q4) 1)))
def Xw (xS:Store) (xR:Cu):Option (Store×Bool):=
 ((NZ xS).bind λv1=>
 bif(!v1)then(some true)
 else((Ns xR).bind λv2=>
 some (!v2)):Option (Bool)).bind λj1=>
 bif j1 then((EO xS).bind λv3=>
 some (v3,false))
 else(bif(xR.Kind==1)then((bif(xR.Arg==0)then(some 1)
 else(some xR.Arg):Option (Int)).bind λj2=>
 some ((Store.mk [] (Arena.mk []) j2),true))
 else(bif(xR.Kind==2)then((MB xS xR).bind λv4=>
 some (v4.1,v4.2))
 else((He xS xR.Vol).bind λv5=>
 (bif(decide (v5<0))then(some true)
 else(some (xR.Chunk==1000000000)):Option (Bool)).bind λj3=>
 bif j3 then((EO xS).bind λv6=>
 some (v6,false))
 else((EO xS).bind λv7=>
 bif(xR.Kind==3)then((dr xS.Vols 0 v5).bind λx1=>
 (dr xS.Vols (ad v5 1) (ln xS.Vols)).bind λx2=>
 (ap 16 [] x1).bind λq1=>
 (ap 16 q1 x2).bind λq2=>
 (Hd (Store.mk q2 v7.Arena v7.Next)).bind λv8=>
 some (v8,true))
 else(((gi xS.Vols v5).bind λx3=>
 (Xv xS.Arena x3.Root xR.Arg xR.Chunk).bind λv10=>
 some (v10.2,v10.1.Knots):Option (Int×List Cc)).bind λj4=>
 (gi v7.Vols v5).bind λx4=>
 bif(decide (xR.Chunk>=v7.Next))then((Hd (Store.mk (si v7.Vols v5 (Vol.mk x4.Id j4.1)) (Arena.mk j4.2) (ad xR.Chunk 1))).bind λv12=>
 some (v12,true))
 else((Hd (Store.mk (si v7.Vols v5 (Vol.mk x4.Id j4.1)) (Arena.mk j4.2) v7.Next)).bind λv13=>
 some (v13,true)))))))
def Hy (xS:Store) (d:List Cu) (e:Int) (a:List Vol) (b:List Cc) (c:Int):Option ((Int×List Vol×List Cc×Int)⊕((List Vol×List Cc×Int)⊕((Store×Bool)))):=
 bif(decide (e<(ln d)))then(((gi d e).bind λx1=>
 (Xw (Store.mk a (Arena.mk b) c) x1).bind λv3=>
 some (v3.2,v3.1.Vols,v3.1.Arena.Knots,v3.1.Next):Option (Bool×List Vol×List Cc×Int)).bind λj1=>
 bif(!j1.1)then((EO xS).bind λv5=>
 some (.inr (.inr (v5,false))))
 else(some (.inl ((ad e 1),j1.2.1,j1.2.2.1,j1.2.2.2))))
 else(some (.inr (.inl (a,b,c))))
def OQ (xS:Store) (a:List Cu):Option (Store×Bool):=
 (EO xS).bind λv1=>
 (Aw (λs:Int×List Vol×List Cc×Int=>Hy xS a s.1 s.2.1 s.2.2.1 s.2.2.2) (0,v1.Vols,v1.Arena.Knots,v1.Next)).bind (Sum.elim (λv6=>(some ((Store.mk v6.1 (Arena.mk v6.2.1) v6.2.2),true))) some)
def Hx (v2:List As) (a:Int) (b:Int) (c:Int):Option ((Int×Int×Int)⊕(Int×Int)):=
 bif(decide (a<(ln v2)))then((gi v2 a).bind λx1=>
 (bif(decide (x1.Page.Seq>=b))then((gi v2 a).bind λx2=>
 some (ad x2.Page.Seq 1))
 else(some b):Option (Int)).bind λj1=>
 ((gi v2 a).bind λx3=>
 bif(x3.Page.Kind==2)then((gi v2 a).bind λx4=>
 some (decide (x4.Page.Tx>=c)))
 else(some false):Option (Bool)).bind λj2=>
 bif j2 then((gi v2 a).bind λx5=>
 some (.inl ((ad a 1),j1,(ad x5.Page.Tx 1))))
 else(some (.inl ((ad a 1),j1,c))))
 else(some (.inr (b,c)))
def Hw (v7:List Tx) (a:Int) (b:List Vol) (c:List Cc) (d:Int) (e:Int):Option ((Int×List Vol×List Cc×Int×Int)⊕(List Vol×List Cc×Int×Int)):=
 bif(decide (a<(ln v7)))then((bif(a==0)then((gi v7 a).bind λx6=>
 some x6.Num)
 else(some e):Option (Int)).bind λj3=>
 (gi v7 a).bind λx7=>
 (OQ (Store.mk b (Arena.mk c) d) x7.Recs).bind λv8=>
 some (.inl ((ad a 1),v8.1.Vols,v8.1.Arena.Knots,v8.1.Next,j3)))
 else(some (.inr (b,c,d,e)))
def D8 (xF:Flash):Option (AH×Bool):=
 (Gc xF).bind λv1=>
 bif(!v1)then(some ((AH.mk (Flash.mk []) (Store.mk [] (Arena.mk []) 0) 0 0 0),false))
 else((FZ xF).bind λv2=>
 (EP xF).bind λv3=>
 (OJ).bind λv4=>
 (Aw (λs:Int×Int×Int=>Hx v2 s.1 s.2.1 s.2.2) (0,1,1)).bind λv5=>
 (Qu v2).bind λv6=>
 (Nr v6).bind λv7=>
 (Aw (λs:Int×List Vol×List Cc×Int×Int=>Hw v7 s.1 s.2.1 s.2.2.1 s.2.2.2.1 s.2.2.2.2) (0,v4.Vols,v4.Arena.Knots,v4.Next,0)).bind λv9=>
 some ((AH.mk v3 (Store.mk v9.1 (Arena.mk v9.2.1) v9.2.2.1) v5.1 v5.2 v9.2.2.2),true))
def Nu (a:Int):Option (AH×Bool):=
 (OO a).bind λv1=>
 bif(!v1.2)then(some ((AH.mk (Flash.mk []) (Store.mk [] (Arena.mk []) 0) 0 0 0),false))
 else((D8 v1.1).bind λv2=>
 some (v2.1,v2.2))
def LS (xC:BZ) (a:List Int):Option (Int×BZ):=
 (D7 xC (ln a)).bind λv1=>
 (gi a v1.1).bind λx1=>
 some (x1,v1.2)
def Ju (xC:BZ) (xN:Int):Option (Bool×BZ):=
 (D7 xC xN).bind λv1=>
 some ((v1.1==0),v1.2)
def NY (xC:BZ) (a:List ByteArray):Option (ByteArray×BZ):=
 (D7 xC (ln a)).bind λv1=>
 (gi a v1.1).bind λx1=>
 some (x1,v1.2)
def Rk (xC:BZ):Option (ByteArray×BZ):=
 (NY xC [(bs []),(bs [97]),(bs [98,98]),(bs [97,98,99,100,97,98,99,100,97,98,99,100]),(bs [104,101,108,108,111]),(bs [104,101,108,108,111,32,104,101,108,108,111,32,104,101,108,108,111]),(bs [122,122,122,122,122,122,122,122,122,122,122,122]),(bs [113,49]),(bs [113,50]),(bs [113,51])]).bind λv1=>
 some (v1.1,v1.2)
def Rl (xC:BZ) (xD:AH):Option (Wy×BZ):=
 (LS xC [1,1,1,1,1,1,2,3,4,5,6]).bind λv1=>
 (D7 v1.2 3).bind λv2=>
 (bif((ln xD.Store.Vols)==0)then(some (3,(ad 1 v2.1),v2.2.b_,v2.2.i_,v2.2.h_))
 else((bif(v1.1 !=3)then(bif(v1.1 !=4)then((Ju v2.2 8).bind λv3=>
 some ((!v3.1),v3.2.b_,v3.2.i_,v3.2.h_))
 else(some (false,v2.2.b_,v2.2.i_,v2.2.h_)))
 else(some (false,v2.2.b_,v2.2.i_,v2.2.h_)):Option (Bool×List Int×Int×Int)).bind λj2=>
 bif j2.1 then((D7 (BZ.mk j2.2.1 j2.2.2.1 j2.2.2.2) (ln xD.Store.Vols)).bind λv7=>
 (gi xD.Store.Vols v7.1).bind λx1=>
 some (v1.1,x1.Id,v7.2.b_,v7.2.i_,v7.2.h_))
 else(some (v1.1,(ad 1 v2.1),j2.2.1,j2.2.2.1,j2.2.2.2))):Option (Int×Int×List Int×Int×Int)).bind λj1=>
 (bif(j1.1==5)then((Ju (BZ.mk j1.2.2.1 j1.2.2.2.1 j1.2.2.2.2) 3).bind λv11=>
 some ((!v11.1),v11.2.b_,v11.2.i_,v11.2.h_))
 else(some (false,j1.2.2.1,j1.2.2.2.1,j1.2.2.2.2)):Option (Bool×List Int×Int×Int)).bind λj3=>
 (bif j3.1 then(some 1)
 else(some j1.1):Option (Int)).bind λj4=>
 (bif(j4==1)then((Rk (BZ.mk j3.2.1 j3.2.2.1 j3.2.2.2)).bind λv12=>
 (D7 v12.2 16).bind λv13=>
 some (v13.1,0,v12.1,v13.2.b_,v13.2.i_,v13.2.h_))
 else((bif(j4==2)then(some (j4==2))
 else(some (j4==6)):Option (Bool)).bind λj6=>
 bif j6 then((D7 (BZ.mk j3.2.1 j3.2.2.1 j3.2.2.2) 16).bind λv14=>
 some (v14.1,0,(bs []),v14.2.b_,v14.2.i_,v14.2.h_))
 else(bif(j4==4)then((D7 (BZ.mk j3.2.1 j3.2.2.1 j3.2.2.2) 3).bind λv15=>
 bif(decide ((ln xD.Store.Vols)>0))then((gi xD.Store.Vols 0).bind λx5=>
 some (0,x5.Id,(bs []),v15.2.b_,v15.2.i_,v15.2.h_))
 else(some (0,(ad 1 v15.1),(bs []),v15.2.b_,v15.2.i_,v15.2.h_)))
 else(some (0,0,(bs []),j3.2.1,j3.2.2.1,j3.2.2.2)))):Option (Int×Int×ByteArray×List Int×Int×Int)).bind λj5=>
 some ((Wy.mk j4 j1.2.1 j5.1 j5.2.1 j5.2.2.1),(BZ.mk j5.2.2.2.1 j5.2.2.2.2.1 j5.2.2.2.2.2))
def NW (xD:AH):Option (AH):=
 (EP xD.Flash).bind λv1=>
 (EO xD.Store).bind λv2=>
 some (AH.mk v1 v2 xD.Seq xD.Tx xD.Base)
def ON (xA:Arena) (b:Int) (a:Int):Option (Int):=
 ((GF xA).bind λv1=>
 bif(!v1)then(some true)
 else((Hu xA b).bind λv2=>
 bif(!v2)then(some true)
 else((BY a 0 15).bind λv3=>
 some (!v3))):Option (Bool)).bind λj1=>
 bif j1 then(some 0)
 else((MD xA b a).bind λv4=>
 some v4)
def Hf (xA:Arena) (b:Int) (a:List Int) (c:Int):Option ((List Int×Int)⊕(List Int)):=
 bif(decide (c<16))then((ON xA b c).bind λv1=>
 (ap 8 a [v1]).bind λq1=>
 some (.inl (q1,(ad c 1))))
 else(some (.inr a))
def Jb (xA:Arena) (a:Int):Option (List Int):=
 (Aw (λs:List Int×Int=>Hf xA a s.1 s.2) ([],0)).bind λv2=>
 some v2
def G9 (xA:List Int) (xB:List Int) (a:Int):Option ((Int)⊕((Unit)⊕(Bool))):=
 bif(decide (a<(ln xA)))then((gi xA a).bind λx1=>
 (gi xB a).bind λx2=>
 bif(x1 !=x2)then(some (.inr (.inr false)))
 else(some (.inl (ad a 1))))
 else(some (.inr (.inl ())))
def KT (xA:List Int) (xB:List Int):Option (Bool):=
 bif((ln xA) !=(ln xB))then(some false)
 else((Aw (λs:Int=>G9 xA xB s) 0).bind (Sum.elim (λv1=>(some true)) some))
def HT (xA:Store) (xB:Store) (a:Int):Option ((Int)⊕((Unit)⊕(Bool))):=
 bif(decide (a<(ln xA.Vols)))then((gi xA.Vols a).bind λx1=>
 (gi xB.Vols a).bind λx2=>
 bif(x1.Id !=x2.Id)then(some (.inr (.inr false)))
 else((gi xA.Vols a).bind λx3=>
 (gi xB.Vols a).bind λx4=>
 (Jb xA.Arena x3.Root).bind λv1=>
 (Jb xB.Arena x4.Root).bind λv2=>
 (KT v1 v2).bind λv3=>
 bif(!v3)then(some (.inr (.inr false)))
 else(some (.inl (ad a 1)))))
 else(some (.inr (.inl ())))
def Lh (xA:Store) (xB:Store):Option (Bool):=
 (bif((ln xA.Vols) !=(ln xB.Vols))then(some true)
 else(some (xA.Next !=xB.Next)):Option (Bool)).bind λj1=>
 bif j1 then(some false)
 else((Aw (λs:Int=>HT xA xB s) 0).bind (Sum.elim (λv4=>(some true)) some))
def OS (xD:AH):Option (Bool):=
 (D8 xD.Flash).bind λv1=>
 bif v1.2 then((Lh v1.1.Store xD.Store).bind λv2=>
 bif v2 then(bif(v1.1.Seq==xD.Seq)then(bif(v1.1.Tx==xD.Tx)then(bif(v1.1.Base==xD.Base)then((NZ xD.Store).bind λv3=>
 some v3)
 else(some false))
 else(some false))
 else(some false))
 else(some false))
 else(some false)
def HP (a:List Int) (xX:Int) (b:List Int) (c:Int):Option ((List Int×Int)⊕(List Int)):=
 bif(decide (c<(ln a)))then((gi a c).bind λx1=>
 bif(decide (x1<xX))then((gi a c).bind λx2=>
 (ap 8 b [x2]).bind λq1=>
 some (.inl (q1,(ad c 1))))
 else(some (.inl (b,(ad c 1)))))
 else(some (.inr b))
def GA (a:List Int) (xX:Int) (b:List Int) (c:Int):Option ((List Int×Int)⊕(List Int)):=
 bif(decide (c<(ln a)))then((gi a c).bind λx3=>
 bif(decide (x3>xX))then((gi a c).bind λx4=>
 (ap 8 b [x4]).bind λq3=>
 some (.inl (q3,(ad c 1))))
 else(some (.inl (b,(ad c 1)))))
 else(some (.inr b))
def Np (a:List Int) (xX:Int):Option (List Int):=
 (Aw (λs:List Int×Int=>HP a xX s.1 s.2) ([],0)).bind λv1=>
 (bif(decide (xX>0))then((ap 8 v1 [xX]).bind λq2=>
 some q2)
 else(some v1):Option (List Int)).bind λj1=>
 (Aw (λs:List Int×Int=>GA a xX s.1 s.2) (j1,0)).bind λv2=>
 some v2
def Lk (v1:List Int) (a:List Int) (b:Int):Option ((List Int×Int)⊕(List Int)):=
 bif(decide (b<(ln v1)))then((gi v1 b).bind λx2=>
 (Np a x2).bind λv2=>
 some (.inl (v2,(ad b 1))))
 else(some (.inr a))
def Ll (xS:Store) (a:List Int) (b:Int):Option ((List Int×Int)⊕(List Int)):=
 bif(decide (b<(ln xS.Vols)))then((gi xS.Vols b).bind λx1=>
 (Jb xS.Arena x1.Root).bind λv1=>
 (Aw (λs:List Int×Int=>Lk v1 s.1 s.2) (a,0)).bind λv3=>
 some (.inl (v3,(ad b 1))))
 else(some (.inr a))
def GE (xS:Store):Option (List Int):=
 (Aw (λs:List Int×Int=>Ll xS s.1 s.2) ([],0)).bind λv4=>
 some v4
def HM (a:List As) (c:Int) (b:Int):Option ((Int)⊕((Unit)⊕((As×Bool)))):=
 bif(decide (b>=0))then(((gi a b).bind λx1=>
 bif(x1.Page.Kind==1)then((gi a b).bind λx2=>
 some (x2.Page.Tx==c))
 else(some false):Option (Bool)).bind λj1=>
 bif j1 then((gi a b).bind λx3=>
 some (.inr (.inr (x3,true))))
 else(some (.inl (sb b 1))))
 else(some (.inr (.inl ())))
def Ld (a:List As) (b:Int):Option (As×Bool):=
 (Aw (λs:Int=>HM a b s) (sb (ln a) 1)).bind (Sum.elim (λv1=>(some ((As.mk 0 0 (Page.mk 0 0 0 0 0 (bs []))),false))) some)
def Ci (xT:ByteArray) (b:List Bg) (a:Int):Option ((List Bg×Int)⊕((List Bg)⊕((List Bg×Bool)))):=
 bif(decide (a<(FL xT)))then((sx xT a).bind λx1=>
 bif(decide ((IntKind.i64.wrap x1)>128))then(bif(decide ((ad a 2)>(FL xT)))then(some (.inr (.inr (b,false))))
 else((sx xT (ad a 1)).bind λx2=>
 (ap 32 b [(Bg.mk (IntKind.i64.wrap x2) (sb (IntKind.i64.wrap x1) 128) (bs []))]).bind λq1=>
 some (.inl (q1,(ad a 2)))))
 else(bif(decide ((ad (ad a 1) (IntKind.i64.wrap x1))>(FL xT)))then(some (.inr (.inr (b,false))))
 else((sub xT (ad a 1) (ad (ad a 1) (IntKind.i64.wrap x1))).bind λx3=>
 (ap 32 b [(Bg.mk 0 0 x3)]).bind λq2=>
 some (.inl (q2,(ad (ad a 1) (IntKind.i64.wrap x1)))))))
 else(some (.inr (.inl b)))
def Jt (xT:ByteArray):Option (List Bg×Bool):=
 (Aw (λs:List Bg×Int=>Ci xT s.1 s.2) ([],0)).bind (Sum.elim (λv1=>(some (v1,true))) some)
def Ed (x1:Bg) (a:List Int) (b:Int):Option ((List Int×Int)⊕(List Int)):=
 bif(decide (b<x1.Size))then((gi a (sb (ln a) x1.Back)).bind λx2=>
 (ap 1 a [x2]).bind λq2=>
 some (.inl (q2,(ad b 1))))
 else(some (.inr a))
def Ee (b:List Bg) (a:List Int) (c:Int):Option ((List Int×Int)⊕((List Int)⊕((ByteArray×Bool)))):=
 bif(decide (c<(ln b)))then((gi b c).bind λx1=>
 (bif(x1.Back==0)then(((BY (FL x1.Text) 1 31).bind λv1=>
 bif(!v1)then(some true)
 else(some (x1.Size !=0)):Option (Bool)).bind λj2=>
 bif j2 then(some (.inr (.inr (.inr ((bs []),false)))))
 else((ap 1 a (yL x1.Text)).bind λq1=>
 some (.inl q1)))
 else(((BY x1.Back 1 (ln a)).bind λv2=>
 bif(!v2)then(some true)
 else((BY x1.Size 1 31).bind λv3=>
 bif(!v3)then(some true)
 else(some (!(seq x1.Text (bs []))))):Option (Bool)).bind λj3=>
 bif j3 then(some (.inr (.inr (.inr ((bs []),false)))))
 else((Aw (λs:List Int×Int=>Ed x1 s.1 s.2) (a,0)).bind λv4=>
 some (.inl v4))):Option ((List Int)⊕((List Int×Int)⊕((List Int)⊕((ByteArray×Bool)))))).bind (Sum.elim (λj1=>(bif(decide ((ln j1)>64))then(some (.inr (.inr ((bs []),false))))
 else(some (.inl (j1,(ad c 1)))))) some))
 else(some (.inr (.inl a)))
def Ga (a:List Bg):Option (ByteArray×Bool):=
 (Aw (λs:List Int×Int=>Ee a s.1 s.2) ([],0)).bind (Sum.elim (λv5=>(some ((EI v5),true))) some)
def Hv (xS:ByteArray) (b:Int) (c:Int) (a:Int):Option ((Int)⊕(Int)):=
 (bif(decide (a<31))then(bif(decide ((ad c a)<(FL xS)))then((sx xS (ad b a)).bind λx1=>
 (sx xS (ad c a)).bind λx2=>
 some (x1==x2))
 else(some false))
 else(some false):Option (Bool)).bind λj1=>
 bif j1 then(some (.inl (ad a 1)))
 else(some (.inr a))
def ME (xS:ByteArray) (a:Int) (b:Int):Option (Int):=
 (Aw (λs:Int=>Hv xS a b s) 0).bind λv1=>
 some v1
def EB (xS:ByteArray) (d:Int) (b:Int) (c:Int) (a:Int):Option ((Int×Int×Int)⊕(Int×Int)):=
 bif(decide (a>=0))then((ME xS a d).bind λv1=>
 (bif(decide (v1>=4))then(some (decide (v1>b)))
 else(some false):Option (Bool)).bind λj1=>
 bif j1 then(some (.inl (v1,(sb d a),(sb a 1))))
 else(some (.inl (b,c,(sb a 1)))))
 else(some (.inr (b,c)))
def C0 (xS:ByteArray) (a:List Bg) (b:Int):Option ((List Bg×Int)⊕(List Bg)):=
 bif(decide (b<(FL xS)))then((Aw (λs:Int×Int×Int=>EB xS b s.1 s.2.1 s.2.2) (0,0,(sb b 1))).bind λv2=>
 bif(decide (v2.1>0))then((ap 32 a [(Bg.mk v2.2 v2.1 (bs []))]).bind λq1=>
 some (.inl (q1,(ad b v2.1))))
 else((bif(decide ((sb (ln a) 1)>=0))then((gi a (sb (ln a) 1)).bind λx1=>
 bif(x1.Back==0)then((gi a (sb (ln a) 1)).bind λx2=>
 some (decide ((FL x2.Text)<31)))
 else(some false))
 else(some false):Option (Bool)).bind λj2=>
 bif j2 then((gi a (sb (ln a) 1)).bind λx3=>
 (sub xS b (ad b 1)).bind λx4=>
 (HH x3.Text x4).bind λx5=>
 (gi a (sb (ln a) 1)).bind λx6=>
 some (.inl ((si a (sb (ln a) 1) (Bg.mk x6.Back x6.Size x5)),(ad b 1))))
 else((sub xS b (ad b 1)).bind λx7=>
 (ap 32 a [(Bg.mk 0 0 x7)]).bind λq2=>
 some (.inl (q2,(ad b 1))))))
 else(some (.inr a))
def K4 (xS:ByteArray):Option (List Bg):=
 bif(decide ((FL xS)>64))then(some [])
 else((Aw (λs:List Bg×Int=>C0 xS s.1 s.2) ([],0)).bind λv3=>
 some v3)
def ED (v1:List Bg) (b:ByteArray) (a:Int):Option ((ByteArray×Int)⊕(ByteArray)):=
 bif(decide (a<(ln v1)))then((gi v1 a).bind λx1=>
 bif(x1.Back==0)then((HH b (EI [(IntKind.u8.wrap (FL x1.Text))])).bind λx2=>
 (HH x2 x1.Text).bind λx3=>
 some (.inl (x3,(ad a 1))))
 else((HH b (EI [(IntKind.u8.wrap (ad 128 x1.Size)),(IntKind.u8.wrap x1.Back)])).bind λx4=>
 some (.inl (x4,(ad a 1)))))
 else(some (.inr b))
def ES (xS:ByteArray):Option (ByteArray×Bool):=
 bif(decide ((FL xS)>64))then(some ((bs []),false))
 else((K4 xS).bind λv1=>
 (Aw (λs:ByteArray×Int=>ED v1 s.1 s.2) ((bs [122]),0)).bind λv2=>
 bif(decide ((ad (FL xS) 1)<=(FL v2)))then((HH (bs [114]) xS).bind λx5=>
 some (x5,true))
 else(some (v2,true)))
def Gh (xT:ByteArray):Option (ByteArray×Bool):=
 bif((FL xT)==0)then(some ((bs []),false))
 else((sub xT 1 (FL xT)).bind λx1=>
 (sx xT 0).bind λx2=>
 (bif(x2==122)then((sub xT 1 (FL xT)).bind λx3=>
 (Jt x3).bind λv1=>
 (Ga v1.1).bind λv2=>
 bif(!v1.2)then(some (.inr ((bs []),false)))
 else(bif(!v2.2)then(some (.inr ((bs []),false)))
 else(some (.inl v2.1))))
 else(some (.inl x1)):Option ((ByteArray)⊕((ByteArray×Bool)))).bind (Sum.elim (λj1=>((ES j1).bind λv3=>
 (bif(!v3.2)then(some true)
 else(some (!(seq v3.1 xT))):Option (Bool)).bind λj2=>
 bif j2 then(some ((bs []),false))
 else(some (j1,true)))) some))
def NX (b:List As) (a:Int):Option (ByteArray×Bool):=
 (Ld b a).bind λv1=>
 bif(!v1.2)then(some ((bs []),false))
 else((Gh v1.1.Page.Text).bind λv2=>
 some (v2.1,v2.2))
def Io (c:List As) (a:List Int) (d:ByteArray) (b:Int):Option ((Int)⊕((Unit)⊕(Int))):=
 bif(decide (b<(ln a)))then((gi a b).bind λx1=>
 (NX c x1).bind λv1=>
 (bif v1.2 then(some (seq v1.1 d))
 else(some false):Option (Bool)).bind λj1=>
 bif j1 then((gi a b).bind λx2=>
 some (.inr (.inr x2)))
 else(some (.inl (ad b 1))))
 else(some (.inr (.inl ())))
def UT (a:List As) (b:List Int) (c:ByteArray):Option (Int):=
 (Aw (λs:Int=>Io a b c s) 0).bind (Sum.elim (λv2=>(some 0)) some)
def OP (xF:Flash) (a:List Int) (b:ByteArray):Option (Int):=
 (FZ xF).bind λv1=>
 (UT v1 a b).bind λv2=>
 some v2
def MH (xD:AH) (xQ:Wy):Option (List Cu×ByteArray×Int):=
 (Xx xQ).bind λv1=>
 bif(!v1)then(some ([],(bs []),3))
 else((He xD.Store xQ.Vol).bind λv2=>
 (bif(xQ.Kind==3)then(some true)
 else(some (xQ.Kind==4)):Option (Bool)).bind λj1=>
 bif j1 then(bif(decide (v2>=0))then(some ([],(bs []),2))
 else((bif(xQ.Kind==4)then((He xD.Store xQ.Of).bind λv3=>
 some (decide (v3<0)))
 else(some false):Option (Bool)).bind λj2=>
 bif j2 then(some ([],(bs []),1))
 else(bif(decide ((ln xD.Store.Vols)>=3))then(some ([],(bs []),4))
 else(some ([(Cu.mk 2 xQ.Vol xQ.Of 0)],(bs []),0)))))
 else(bif(!(decide (v2>=0)))then(some ([],(bs []),1))
 else(bif(xQ.Kind==1)then((GE xD.Store).bind λv4=>
 (OP xD.Flash v4 xQ.Text).bind λv5=>
 (bif(v5==0)then((ES xQ.Text).bind λv6=>
 some (xD.Store.Next,v6.1))
 else(some (v5,(bs []))):Option (Int×ByteArray)).bind λj3=>
 some ([(Cu.mk 4 xQ.Vol xQ.Sector j3.1)],j3.2,0))
 else(bif(xQ.Kind==2)then(some ([(Cu.mk 5 xQ.Vol xQ.Sector 0)],(bs []),0))
 else(bif(xQ.Kind==5)then(some ([(Cu.mk 3 xQ.Vol 0 0)],(bs []),0))
 else(some ([],(bs []),0)))))))
def Ob (xS:Store) (b:Int) (a:Int):Option (Int):=
 (He xS b).bind λv1=>
 bif(decide (v1<0))then(some 0)
 else((gi xS.Vols v1).bind λx1=>
 (ON xS.Arena x1.Root a).bind λv2=>
 some v2)
def G7 (c:List As) (xS:Store) (b:Int) (a:Int):Option (ByteArray×Bool):=
 (He xS b).bind λv1=>
 bif(decide (v1<0))then(some ((bs []),false))
 else((Ob xS b a).bind λv2=>
 bif(v2==0)then(some ((bs []),true))
 else((NX c v2).bind λv3=>
 some (v3.1,v3.2)))
def MG (xD:AH) (b:Int) (a:Int):Option (ByteArray×Bool):=
 (FZ xD.Flash).bind λv1=>
 (G7 v1 xD.Store b a).bind λv2=>
 some (v2.1,v2.2)
def Li (xF:Flash) (c:Int) (b:Int) (a:Int):Option ((Int×Int)⊕(Int)):=
 (gi xF.Blocks c).bind λx1=>
 bif(decide (a<(ln x1.Leaves)))then((gi xF.Blocks c).bind λx2=>
 bif(!x2.Bad)then((gi xF.Blocks c).bind λx3=>
 (gi x3.Leaves a).bind λx4=>
 bif(x4.Is==0)then(some (.inl ((ad b 1),(ad a 1))))
 else(some (.inl (b,(ad a 1)))))
 else(some (.inl (b,(ad a 1)))))
 else(some (.inr b))
def Lj (xF:Flash) (b:Int) (a:Int):Option ((Int×Int)⊕(Int)):=
 bif(decide (a<(ln xF.Blocks)))then((Aw (λs:Int×Int=>Li xF a s.1 s.2) (b,0)).bind λv1=>
 some (.inl (v1,(ad a 1))))
 else(some (.inr b))
def MF (xF:Flash):Option (Int):=
 (Aw (λs:Int×Int=>Lj xF s.1 s.2) (0,0)).bind λv2=>
 some v2
def HO (c:List As) (d:Int) (a:List Bool) (b:Int):Option ((List Bool×Int)⊕(List Bool)):=
 bif(decide (b<(ln c)))then((gi c b).bind λx1=>
 bif(x1.Page.Kind==2)then((gi c b).bind λx2=>
 (gi a b).bind λx3=>
 some (.inl ((si a b (decide (x2.Page.Tx>=d))),(ad b 1))))
 else((gi a b).bind λx4=>
 some (.inl ((si a b false),(ad b 1)))))
 else(some (.inr a))
def F6 (c:List As) (d:List Int) (e:Int) (a:List Bool) (b:Int):Option ((List Bool×Int)⊕(List Bool)):=
 bif(decide (b>=0))then(((gi c b).bind λx5=>
 bif(x5.Page.Kind==1)then((gi c b).bind λx6=>
 (gi d e).bind λx7=>
 some (x6.Page.Tx==x7))
 else(some false):Option (Bool)).bind λj1=>
 bif j1 then((gi a b).bind λx8=>
 some (.inl ((si a b true),(sb (-1) 1))))
 else(some (.inl (a,(sb b 1)))))
 else(some (.inr a))
def HN (a:List As) (b:List Int) (c:List Bool) (d:Int):Option ((List Bool×Int)⊕(List Bool)):=
 bif(decide (d<(ln b)))then((Aw (λs:List Bool×Int=>F6 a b d s.1 s.2) (c,(sb (ln a) 1))).bind λv2=>
 some (.inl (v2,(ad d 1))))
 else(some (.inr c))
def GU (a:List As) (b:List Int) (c:Int):Option (List Bool):=
 (mk 1 false (ln a)).bind λq1=>
 (Aw (λs:List Bool×Int=>HO a c s.1 s.2) (q1,0)).bind λv1=>
 (Aw (λs:List Bool×Int=>HN a b s.1 s.2) (v1,0)).bind λv3=>
 some v3
def IK (xB:Block) (a:Int):Option ((Int)⊕((Unit)⊕(Bool))):=
 bif(decide (a<(ln xB.Leaves)))then((gi xB.Leaves a).bind λx1=>
 bif(x1.Is !=0)then(some (.inr (.inr false)))
 else(some (.inl (ad a 1))))
 else(some (.inr (.inl ())))
def M9 (xB:Block):Option (Bool):=
 (Aw (λs:Int=>IK xB s) 0).bind (Sum.elim (λv1=>(some true)) some)
def MA (b:List As) (c:List Bool) (xB:Int) (d:Int) (a:Int):Option ((Int×Int)⊕(Int)):=
 bif(decide (a<(ln b)))then((gi c a).bind λx1=>
 bif x1 then((gi b a).bind λx2=>
 bif(x2.Block==xB)then(some (.inl ((ad d 1),(ad a 1))))
 else(some (.inl (d,(ad a 1)))))
 else(some (.inl (d,(ad a 1)))))
 else(some (.inr d))
def LO (b:List As) (a:List Bool) (xB:Int):Option (Int):=
 (Aw (λs:Int×Int=>MA b a xB s.1 s.2) (0,0)).bind λv1=>
 some v1
def DL (xD:AH) (v1:List As) (v3:List Bool) (a:List Int) (b:Int):Option ((List Int×Int)⊕(List Int)):=
 bif(decide (b<(ln xD.Flash.Blocks)))then((gi xD.Flash.Blocks b).bind λx1=>
 (bif(!x1.Bad)then((M9 x1).bind λv4=>
 bif(!v4)then((LO v1 v3 b).bind λv5=>
 some (v5==0))
 else(some false))
 else(some false):Option (Bool)).bind λj1=>
 bif j1 then((ap 8 a [b]).bind λq1=>
 some (.inl (q1,(ad b 1))))
 else(some (.inl (a,(ad b 1)))))
 else(some (.inr a))
def Ix (xD:AH):Option (List Int):=
 (FZ xD.Flash).bind λv1=>
 (GE xD.Store).bind λv2=>
 (GU v1 v2 xD.Base).bind λv3=>
 (Aw (λs:List Int×Int=>DL xD v1 v3 s.1 s.2) ([],0)).bind λv6=>
 some v6
def Fi (xD:AH) (v2:List Tx) (a:Int):Option ((Int)⊕((Unit)⊕(Bool))):=
 bif(decide (a<(ln v2)))then((gi v2 a).bind λx1=>
 bif(x1.Num==xD.Base)then((gi v2 a).bind λx2=>
 bif(decide ((ln x2.Recs)>0))then((gi v2 a).bind λx3=>
 (gi x3.Recs 0).bind λx4=>
 some (.inr (.inr (x4.Kind==1))))
 else(some (.inr (.inr false))))
 else(some (.inl (ad a 1))))
 else(some (.inr (.inl ())))
def Ky (xD:AH):Option (Bool):=
 bif(xD.Base !=(sb xD.Tx 1))then(some false)
 else((FZ xD.Flash).bind λv1=>
 (Qu v1).bind λv2=>
 (Aw (λs:Int=>Fi xD v2 s) 0).bind (Sum.elim (λv3=>(some false)) some))
def DI (xS:Store) (c:Int) (v1:List Int) (a:List Cu) (b:Int):Option ((List Cu×Int)⊕(List Cu)):=
 bif(decide (b<(ln v1)))then((gi v1 b).bind λx3=>
 bif(decide (x3>0))then((gi xS.Vols c).bind λx4=>
 (gi v1 b).bind λx5=>
 (ap 32 a [(Cu.mk 4 x4.Id b x5)]).bind λq2=>
 some (.inl (q2,(ad b 1))))
 else(some (.inl (a,(ad b 1)))))
 else(some (.inr a))
def DJ (xS:Store) (a:List Cu) (b:Int):Option ((List Cu×Int)⊕(List Cu)):=
 bif(decide (b<(ln xS.Vols)))then((gi xS.Vols b).bind λx1=>
 (ap 32 a [(Cu.mk 2 x1.Id 0 0)]).bind λq1=>
 (gi xS.Vols b).bind λx2=>
 (Jb xS.Arena x2.Root).bind λv1=>
 (Aw (λs:List Cu×Int=>DI xS b v1 s.1 s.2) (q1,0)).bind λv2=>
 some (.inl (v2,(ad b 1))))
 else(some (.inr a))
def K7 (xS:Store):Option (List Cu):=
 (Aw (λs:List Cu×Int=>DJ xS s.1 s.2) ([(Cu.mk 1 0 xS.Next 0)],0)).bind λv3=>
 some v3
def GD (xF:Flash) (d:Int) (b:Int) (c:Int) (a:Int):Option ((Int×Int×Int)⊕(Int×Int)):=
 (gi xF.Blocks d).bind λx1=>
 bif(decide (a<(ln x1.Leaves)))then((gi xF.Blocks d).bind λx2=>
 (gi x2.Leaves a).bind λx3=>
 bif(x3.Is==0)then(some (.inl ((ad b 1),c,(ad a 1))))
 else(some (.inl (b,(ad c 1),(ad a 1)))))
 else(some (.inr (b,c)))
def DH (xF:Flash) (a:Int):Option ((Int)⊕((Unit)⊕(Int))):=
 bif(decide (a<(ln xF.Blocks)))then((Aw (λs:Int×Int×Int=>GD xF a s.1 s.2.1 s.2.2) (0,0,0)).bind λv1=>
 ((gi xF.Blocks a).bind λx4=>
 bif(!x4.Bad)then(bif(decide (v1.1>0))then(some (decide (v1.2>0)))
 else(some false))
 else(some false):Option (Bool)).bind λj1=>
 bif j1 then(some (.inr (.inr a)))
 else(some (.inl (ad a 1))))
 else(some (.inr (.inl ())))
def Jy (xF:Flash):Option (Int):=
 (Aw (λs:Int=>DH xF s) 0).bind (Sum.elim (λv2=>(some (-1))) some)
def Gb (xF:Flash) (c:Int) (a:Bool) (b:Int):Option ((Bool×Int)⊕(Bool)):=
 (gi xF.Blocks c).bind λx2=>
 bif(decide (b<(ln x2.Leaves)))then(bif a then((gi xF.Blocks c).bind λx3=>
 (gi x3.Leaves b).bind λx4=>
 some (.inl ((x4.Is==0),(ad b 1))))
 else(some (.inl (false,(ad b 1)))))
 else(some (.inr a))
def Hm (xF:Flash) (a:List Int) (b:Int):Option ((List Int×Int)⊕(List Int)):=
 bif(decide (b<(ln xF.Blocks)))then((gi xF.Blocks b).bind λx1=>
 (Aw (λs:Bool×Int=>Gb xF b s.1 s.2) ((!x1.Bad),0)).bind λv1=>
 bif v1 then((ap 8 a [b]).bind λq1=>
 some (.inl (q1,(ad b 1))))
 else(some (.inl (a,(ad b 1)))))
 else(some (.inr a))
def LU (xF:Flash):Option (List Int):=
 (Aw (λs:List Int×Int=>Hm xF s.1 s.2) ([],0)).bind λv2=>
 some v2
def Fe (xF:Flash) (v4:List Int) (a:Int) (b:Int):Option ((Int×Int)⊕(Int)):=
 bif(decide (b<(ln v4)))then((gi v4 b).bind λx3=>
 (gi xF.Blocks x3).bind λx4=>
 (gi xF.Blocks a).bind λx5=>
 bif(decide (x4.Wear<x5.Wear))then((gi v4 b).bind λx6=>
 some (.inl (x6,(ad b 1))))
 else(some (.inl (a,(ad b 1)))))
 else(some (.inr a))
def K6 (xF:Flash):Option (Int×Int×Bool):=
 (Gc xF).bind λv1=>
 bif(!v1)then(some (0,0,false))
 else((Jy xF).bind λv2=>
 bif(decide (v2>=0))then((gi xF.Blocks v2).bind λx1=>
 (Fk x1).bind λv3=>
 some (v2,v3,true))
 else((LU xF).bind λv4=>
 bif((ln v4)==0)then(some (0,0,false))
 else((gi v4 0).bind λx2=>
 (Aw (λs:Int×Int=>Fe xF v4 s.1 s.2) (x2,1)).bind λv5=>
 some (v5,0,true))))
def DR (xF:Flash) (a:List Bb) (xP:Page):Option (Flash×List Bb×Bool):=
 (E5 xP).bind λv1=>
 (K6 xF).bind λv2=>
 (bif(!v1.2)then(some true)
 else(some (!v2.2.2)):Option (Bool)).bind λj1=>
 bif j1 then(some (xF,a,false))
 else((IN xF (Bb.mk 1 v2.1 v2.2.1 v1.1)).bind λv3=>
 ((ap 40 a [(Bb.mk 1 v2.1 v2.2.1 v1.1)]).bind λq4=>
 some q4:Option (List Bb)).bind λj2=>
 some (v3.1,j2,v3.2))
def Mn (xR:Cu):Option (ByteArray×Bool):=
 (Ns xR).bind λv1=>
 bif(!v1)then(some ((bs []),false))
 else((Js (ad (ml 16 xR.Kind) xR.Vol)).bind λv2=>
 (Hk xR.Arg).bind λv3=>
 (HH v2 v3).bind λx1=>
 (Hk xR.Chunk).bind λv4=>
 (HH x1 v4).bind λx2=>
 some (x2,true))
def Ec (b:List Cu) (a:List ByteArray) (c:Int):Option ((List ByteArray×Int)⊕((List ByteArray)⊕((List Page×Bool)))):=
 bif(decide (c<(ln b)))then((gi b c).bind λx1=>
 (Mn x1).bind λv1=>
 bif(!v1.2)then(some (.inr (.inr ([],false))))
 else((gi a (sb (ln a) 1)).bind λx2=>
 bif(decide ((ad (FL x2) (FL v1.1))>90))then((ap 16 a [v1.1]).bind λq1=>
 some (.inl (q1,(ad c 1))))
 else((gi a (sb (ln a) 1)).bind λx3=>
 (HH x3 v1.1).bind λx4=>
 (gi a (sb (ln a) 1)).bind λx5=>
 some (.inl ((si a (sb (ln a) 1) x4),(ad c 1))))))
 else(some (.inr (.inl a)))
def Fc (c:Int) (d:Int) (v2:List ByteArray) (a:List Page) (b:Int):Option ((List Page×Int)⊕(List Page)):=
 bif(decide (b<(ln v2)))then((gi v2 b).bind λx6=>
 (ap 56 a [(Page.mk 2 (ad c b) d b (ln v2) x6)]).bind λq2=>
 some (.inl (q2,(ad b 1))))
 else(some (.inr a))
def Iq (a:Int) (c:Int) (b:List Cu):Option (List Page×Bool):=
 (Aw (λs:List ByteArray×Int=>Ec b s.1 s.2) ([(bs [])],0)).bind (Sum.elim (λv2=>((bif(decide ((ln v2)>9))then(some true)
 else((BY a 1 (ad (sb 1000000000 (ln v2)) 1)).bind λv3=>
 bif(!v3)then(some true)
 else((BY c 1 1000000000).bind λv4=>
 some (!v4))):Option (Bool)).bind λj1=>
 bif j1 then(some ([],false))
 else((Aw (λs:List Page×Int=>Fc a c v2 s.1 s.2) ([],0)).bind λv5=>
 some (v5,true)))) some)
def Cn (v2:List Page×Bool) (a:List Bb) (b:Bool) (c:Int) (d:List Block):Option ((List Bb×Bool×Int×List Block)⊕(List Bb×Bool)):=
 (bif(decide (c<(ln v2.1)))then(some b)
 else(some false):Option (Bool)).bind λj3=>
 bif j3 then(((gi v2.1 c).bind λx2=>
 (DR (Flash.mk d) a x2).bind λv3=>
 some (v3.2.1,v3.2.2,v3.1.Blocks):Option (List Bb×Bool×List Block)).bind λj4=>
 some (.inl (j4.1,j4.2.1,(ad c 1),j4.2.2)))
 else(some (.inr (a,b)))
def Eb (xD:AH) (a:List Cu) (b:ByteArray):Option (List Bb×Bool):=
 bif((ln a)==0)then(some ([],true))
 else((bif(!(seq b (bs [])))then(((gi a (sb (ln a) 1)).bind λx1=>
 (DR xD.Flash [] (Page.mk 1 xD.Seq x1.Chunk 0 1 b)).bind λv1=>
 some (v1.2.1,v1.2.2,v1.1.Blocks):Option (List Bb×Bool×List Block)).bind λj2=>
 some (j2.1,(ad xD.Seq 1),j2.2.1,j2.2.2))
 else(some ([],xD.Seq,true,xD.Flash.Blocks)):Option (List Bb×Int×Bool×List Block)).bind λj1=>
 (Iq j1.2.1 xD.Tx a).bind λv2=>
 (Aw (λs:List Bb×Bool×Int×List Block=>Cn v2 s.1 s.2.1 s.2.2.1 s.2.2.2) (j1.1,j1.2.2.1,0,j1.2.2.2)).bind λv4=>
 (bif(!v4.2)then(some true)
 else(some (!v2.2)):Option (Bool)).bind λj5=>
 bif j5 then(some ([],false))
 else(some (v4.1,true)))
def Lo (xD:AH):Option (List Bb×Bool):=
 (K7 xD.Store).bind λv1=>
 (Eb xD v1 (bs [])).bind λv2=>
 some (v2.1,v2.2)
def De (xD:AH) (v1:List As) (v3:List Bool) (v4:List Bool) (c:Int) (a:Int) (b:Int):Option ((Int×Int×Int)⊕(Int)):=
 bif(decide (b<(ln xD.Flash.Blocks)))then((gi xD.Flash.Blocks b).bind λx1=>
 (LO v1 v3 b).bind λv5=>
 (bif(!x1.Bad)then((Fk x1).bind λv6=>
 bif(v6==4)then((LO v1 v4 b).bind λv7=>
 bif(v5==v7)then(bif(decide (v5>=1))then(some (decide (v5<a)))
 else(some false))
 else(some false))
 else(some false))
 else(some false):Option (Bool)).bind λj1=>
 bif j1 then(some (.inl (b,v5,(ad b 1))))
 else(some (.inl (c,a,(ad b 1)))))
 else(some (.inr c))
def Jg (xD:AH):Option (Int):=
 (FZ xD.Flash).bind λv1=>
 (GE xD.Store).bind λv2=>
 (GU v1 v2 xD.Base).bind λv3=>
 (GU v1 v2 1000000000).bind λv4=>
 (Aw (λs:Int×Int×Int=>De xD v1 v3 v4 s.1 s.2.1 s.2.2) ((-1),4,0)).bind λv8=>
 some v8
def Eg (xB:Int) (v1:List As) (v3:List Bool) (e:Int) (a:List Bb) (b:Int) (c:Int) (d:List Block):Option ((List Bb×Int×Int×List Block)⊕((List Bb×Int×List Block)⊕((List Bb×Int×Int×List Block)⊕((List Bb)⊕((List Bb×Bool)))))):=
 bif(decide (c<(ln v1)))then(((gi v3 c).bind λx1=>
 bif(!x1)then(some true)
 else((gi v1 c).bind λx2=>
 bif(x2.Block !=xB)then(some true)
 else((gi v1 c).bind λx3=>
 some (x3.Leaf !=e))):Option (Bool)).bind λj1=>
 bif j1 then(some (.inl (a,b,(ad c 1),d)))
 else((gi v1 c).bind λx4=>
 (DR (Flash.mk d) a (Page.mk x4.Page.Kind b x4.Page.Tx x4.Page.Part x4.Page.Count x4.Page.Text)).bind λv4=>
 (bif(!v4.2.2)then(some true)
 else((gi v4.2.1 (sb (ln v4.2.1) 1)).bind λx5=>
 some (x5.Block==xB)):Option (Bool)).bind λj2=>
 bif j2 then(some (.inr (.inr (.inr (.inr ([],false))))))
 else(some (.inl (v4.2.1,(ad b 1),(ad c 1),v4.1.Blocks)))))
 else(some (.inr (.inl (a,b,d))))
def Eh (xB:Int) (v1:List As) (v3:List Bool) (b:List Bb) (c:Int) (a:Int) (d:List Block):Option ((List Bb×Int×Int×List Block)⊕((List Bb)⊕((List Bb×Bool)))):=
 bif(decide (a<4))then((Aw (λs:List Bb×Int×Int×List Block=>Eg xB v1 v3 a s.1 s.2.1 s.2.2.1 s.2.2.2) (b,c,0,d)).bind (Sum.elim (λv5=>(some (.inl (v5.1,v5.2.1,(ad a 1),v5.2.2)))) some))
 else(some (.inr (.inl b)))
def GV (xD:AH) (xB:Int):Option (List Bb×Bool):=
 (FZ xD.Flash).bind λv1=>
 (GE xD.Store).bind λv2=>
 (GU v1 v2 1000000001).bind λv3=>
 (Aw (λs:List Bb×Int×Int×List Block=>Eh xB v1 v3 s.1 s.2.1 s.2.2.1 s.2.2.2) ([],xD.Seq,0,xD.Flash.Blocks)).bind (Sum.elim (λv6=>(some (v6,true))) some)
def Jj (xD:AH):Option (List Bb×Bool):=
 (Ix xD).bind λv1=>
 bif(decide ((ln v1)>0))then((gi v1 0).bind λx1=>
 some ([(Bb.mk 2 x1 0 (bs []))],true))
 else((Ky xD).bind λv2=>
 bif(!v2)then((Lo xD).bind λv3=>
 some (v3.1,v3.2))
 else((Jg xD).bind λv4=>
 bif(decide (v4<0))then(some ([],false))
 else((GV xD v4).bind λv5=>
 some (v5.1,v5.2))))
def Jh (xD:AH) (a:List Bb):Option (AH):=
 (Oa xD.Flash a).bind λv1=>
 (D8 v1.1).bind λv2=>
 some v2.1
def Hz (i:Int) (h:List Bb) (j:Int) (a:List Block) (b:List Vol) (c:List Cc) (d:Int) (e:Int) (f:Int) (g:Int):Option ((List Bb×Int×List Block×List Vol×List Cc×Int×Int×Int×Int)⊕((List Bb×List Block×List Vol×List Cc×Int×Int×Int×Int)⊕((AH×List Bb)))):=
 (bif(decide (j<i))then(bif(decide (j<20))then((MF (Flash.mk a)).bind λv2=>
 some (decide (v2<12)))
 else(some false))
 else(some false):Option (Bool)).bind λj1=>
 bif j1 then((Jj (AH.mk (Flash.mk a) (Store.mk b (Arena.mk c) d) e f g)).bind λv3=>
 bif(!v3.2)then(some (.inr (.inr ((AH.mk (Flash.mk a) (Store.mk b (Arena.mk c) d) e f g),h))))
 else((Jh (AH.mk (Flash.mk a) (Store.mk b (Arena.mk c) d) e f g) v3.1).bind λv4=>
 (ap 40 h v3.1).bind λq1=>
 some (.inl (q1,(ad j 1),v4.Flash.Blocks,v4.Store.Vols,v4.Store.Arena.Knots,v4.Store.Next,v4.Seq,v4.Tx,v4.Base))))
 else(some (.inr (.inl (h,a,b,c,d,e,f,g))))
def MI (xD:AH) (a:Int):Option (AH×List Bb):=
 (NW xD).bind λv1=>
 (Aw (λs:List Bb×Int×List Block×List Vol×List Cc×Int×Int×Int×Int=>Hz a s.1 s.2.1 s.2.2.1 s.2.2.2.1 s.2.2.2.2.1 s.2.2.2.2.2.1 s.2.2.2.2.2.2.1 s.2.2.2.2.2.2.2.1 s.2.2.2.2.2.2.2.2) ([],0,v1.Flash.Blocks,v1.Store.Vols,v1.Store.Arena.Knots,v1.Store.Next,v1.Seq,v1.Tx,v1.Base)).bind (Sum.elim (λv5=>(some ((AH.mk (Flash.mk v5.2.1) (Store.mk v5.2.2.1 (Arena.mk v5.2.2.2.1) v5.2.2.2.2.1) v5.2.2.2.2.2.1 v5.2.2.2.2.2.2.1 v5.2.2.2.2.2.2.2),v5.1))) some)
def Xt (xD:AH) (xQ:Wy):Option (AH×List Bb×ByteArray×Int):=
 (NW xD).bind λv1=>
 (OS xD).bind λv2=>
 bif(!v2)then(some (v1,[],(bs []),5))
 else((MH xD xQ).bind λv3=>
 bif(v3.2.2 !=0)then(some (v1,[],(bs []),v3.2.2))
 else(bif(xQ.Kind==6)then((MG xD xQ.Vol xQ.Sector).bind λv4=>
 bif(!v4.2)then(some (v1,[],(bs []),1))
 else(some (v1,[],v4.1,0)))
 else((MF xD.Flash).bind λv5=>
 (bif(decide (v5<12))then((MI xD 20).bind λv6=>
 some (v6.2,v6.1.Flash.Blocks,v6.1.Store.Vols,v6.1.Store.Arena.Knots,v6.1.Store.Next,v6.1.Seq,v6.1.Tx,v6.1.Base))
 else(some ([],v1.Flash.Blocks,v1.Store.Vols,v1.Store.Arena.Knots,v1.Store.Next,v1.Seq,v1.Tx,v1.Base)):Option (List Bb×List Block×List Vol×List Cc×Int×Int×Int×Int)).bind λj1=>
 (MH (AH.mk (Flash.mk j1.2.1) (Store.mk j1.2.2.1 (Arena.mk j1.2.2.2.1) j1.2.2.2.2.1) j1.2.2.2.2.2.1 j1.2.2.2.2.2.2.1 j1.2.2.2.2.2.2.2) xQ).bind λv7=>
 (Eb (AH.mk (Flash.mk j1.2.1) (Store.mk j1.2.2.1 (Arena.mk j1.2.2.2.1) j1.2.2.2.2.1) j1.2.2.2.2.2.1 j1.2.2.2.2.2.2.1 j1.2.2.2.2.2.2.2) v7.1 v7.2.1).bind λv8=>
 (bif(!v8.2)then(some true)
 else((MF (Flash.mk j1.2.1)).bind λv9=>
 some (decide (v9<8))):Option (Bool)).bind λj2=>
 bif j2 then(some ((AH.mk (Flash.mk j1.2.1) (Store.mk j1.2.2.1 (Arena.mk j1.2.2.2.1) j1.2.2.2.2.1) j1.2.2.2.2.2.1 j1.2.2.2.2.2.2.1 j1.2.2.2.2.2.2.2),j1.1,(bs []),4))
 else((Jh (AH.mk (Flash.mk j1.2.1) (Store.mk j1.2.2.1 (Arena.mk j1.2.2.2.1) j1.2.2.2.2.1) j1.2.2.2.2.2.1 j1.2.2.2.2.2.2.1 j1.2.2.2.2.2.2.2) v8.1).bind λv10=>
 (ap 40 j1.1 v8.1).bind λq1=>
 some (v10,q1,(bs []),0)))))
def G8 (h:Int) (a:List Block) (b:List Vol) (c:List Cc) (d:Int) (e:Int) (f:Int) (g:Int) (i:List Int) (j:Int) (k:Int):Option ((Int×List Block×List Vol×List Cc×Int×Int×Int×Int×List Int×Int×Int)⊕(List Block×List Vol×List Cc×Int×Int×Int×Int×List Int×Int×Int)):=
 (D7 (BZ.mk i j k) 12).bind λv3=>
 bif(decide (h<v3.1))then(((Rl v3.2 (AH.mk (Flash.mk a) (Store.mk b (Arena.mk c) d) e f g)).bind λv5=>
 (Xt (AH.mk (Flash.mk a) (Store.mk b (Arena.mk c) d) e f g) v5.1).bind λv6=>
 some (v6.1.Flash.Blocks,v6.1.Store.Vols,v6.1.Store.Arena.Knots,v6.1.Store.Next,v6.1.Seq,v6.1.Tx,v6.1.Base,v5.2.b_,v5.2.i_,v5.2.h_):Option (List Block×List Vol×List Cc×Int×Int×Int×Int×List Int×Int×Int)).bind λj1=>
 some (.inl ((ad h 1),j1.1,j1.2.1,j1.2.2.1,j1.2.2.2.1,j1.2.2.2.2.1,j1.2.2.2.2.2.1,j1.2.2.2.2.2.2.1,j1.2.2.2.2.2.2.2.1,j1.2.2.2.2.2.2.2.2.1,j1.2.2.2.2.2.2.2.2.2)))
 else(some (.inr (a,b,c,d,e,f,g,v3.2.b_,v3.2.i_,v3.2.h_)))
def No (xC:BZ):Option (AH×BZ):=
 (D7 xC 4).bind λv1=>
 (Nu (ad 5 v1.1)).bind λv2=>
 (Aw (λs:Int×List Block×List Vol×List Cc×Int×Int×Int×Int×List Int×Int×Int=>G8 s.1 s.2.1 s.2.2.1 s.2.2.2.1 s.2.2.2.2.1 s.2.2.2.2.2.1 s.2.2.2.2.2.2.1 s.2.2.2.2.2.2.2.1 s.2.2.2.2.2.2.2.2.1 s.2.2.2.2.2.2.2.2.2.1 s.2.2.2.2.2.2.2.2.2.2) (0,v2.1.Flash.Blocks,v2.1.Store.Vols,v2.1.Store.Arena.Knots,v2.1.Store.Next,v2.1.Seq,v2.1.Tx,v2.1.Base,v1.2.b_,v1.2.i_,v1.2.h_)).bind λv9=>
 some ((AH.mk (Flash.mk v9.1) (Store.mk v9.2.1 (Arena.mk v9.2.2.1) v9.2.2.2.1) v9.2.2.2.2.1 v9.2.2.2.2.2.1 v9.2.2.2.2.2.2.1),(BZ.mk v9.2.2.2.2.2.2.2.1 v9.2.2.2.2.2.2.2.2.1 v9.2.2.2.2.2.2.2.2.2))
def LW (a:List Int):Option (AH):=
 (Qr a).bind λv1=>
 (No v1).bind λv2=>
 some v2.1
def I7 (a:Int) (y1:Int):Option ((Int×Int)⊕(Int)):=
 bif(decide (y1<8))then(bif((an a 1)==1)then(some (.inl ((xr (Int.fdiv a (2^(min (1:Int).toNat IntKind.u32.bits))) 3558460437),(ad y1 1))))
 else(some (.inl ((Int.fdiv a (2^(min (1:Int).toNat IntKind.u32.bits))),(ad y1 1)))))
 else(some (.inr a))
def Kd (a:ByteArray) (b:Int) (c:Int):Option ((Int×Int)⊕(Int)):=
 bif(decide (c<(FL a)))then((sx a c).bind λx1=>
 (Aw (λs:Int×Int=>I7 s.1 s.2) ((xr b (IntKind.u32.wrap x1)),0)).bind λv1=>
 some (.inl (v1,(ad c 1))))
 else(some (.inr b))
def R0 (b:Int) (a:ByteArray):Option (Int):=
 (Aw (λs:Int×Int=>Kd a s.1 s.2) (b,0)).bind λv2=>
 some v2
def X3 (a:ByteArray):Option (Int):=
 (R0 4294967295 a).bind λv1=>
 some v1
def HZ (a:ByteArray):Option (ByteArray×Bool):=
 bif(decide ((FL a)>20000))then(some ((bs []),false))
 else((X3 a).bind λv1=>
 (HH a (EI [(IntKind.u8.wrap (Int.fdiv v1 (2^(min (24:Int).toNat IntKind.u32.bits)))),(IntKind.u8.wrap (Int.fdiv v1 (2^(min (16:Int).toNat IntKind.u32.bits)))),(IntKind.u8.wrap (Int.fdiv v1 (2^(min (8:Int).toNat IntKind.u32.bits)))),(IntKind.u8.wrap v1)])).bind λx1=>
 some (x1,true))
def Pm (a:ByteArray):Option (ByteArray×Bool):=
 bif(decide ((FL a)<4))then(some ((bs []),false))
 else((sub a 0 (sb (FL a) 4)).bind λx1=>
 (HZ x1).bind λv1=>
 (bif(!v1.2)then(some true)
 else(some (!(seq v1.1 a))):Option (Bool)).bind λj1=>
 bif j1 then(some ((bs []),false))
 else(some (x1,true)))
def Hi (b:ByteArray) (c:Int) (d:Int) (a:Int):Option ((Int×Int)⊕((Unit)⊕((Int×Int×Bool)))):=
 (bif(decide (a<5))then(bif(decide (c>=0))then(some (decide (c<(sb (FL b) a))))
 else(some false))
 else(some false):Option (Bool)).bind λj1=>
 bif j1 then((sx b (ad c a)).bind λx1=>
 (shl .i64 (Int.tmod (IntKind.i64.wrap x1) 128) (ml 7 a)).bind λx2=>
 bif(decide ((IntKind.i64.wrap x1)>=128))then(some (.inl ((ad d x2),(ad a 1))))
 else((bif((IntKind.i64.wrap x1)==0)then(bif(decide (a>0))then(some true)
 else(some (decide ((ad d x2)>1000000000))))
 else(some (decide ((ad d x2)>1000000000))):Option (Bool)).bind λj2=>
 bif j2 then(some (.inr (.inr (0,0,false))))
 else(some (.inr (.inr ((ad d x2),(ad (ad c a) 1),true))))))
 else(some (.inr (.inl ())))
def JA (a:ByteArray) (b:Int):Option (Int×Int×Bool):=
 (Aw (λs:Int×Int=>Hi a b s.1 s.2) (0,0)).bind (Sum.elim (λv1=>(some (0,0,false))) some)
def QO (xP:Page):Option (Bool):=
 ((JI xP.Seq 1 1000000000).bind λv1=>
 bif(!v1)then(some true)
 else((JI xP.Tx 1 1000000000).bind λv2=>
 bif(!v2)then(some true)
 else((JI xP.Count 1 9).bind λv3=>
 bif(!v3)then(some true)
 else((JI xP.Part 0 (sb xP.Count 1)).bind λv4=>
 bif(!v4)then(some true)
 else(some (decide ((FL xP.Text)>90)))))):Option (Bool)).bind λj1=>
 bif j1 then(some false)
 else(bif(xP.Kind==2)then(some true)
 else(bif(xP.Kind==1)then(some (xP.Count==1))
 else(some false)))
def EE (v1:ByteArray×Bool) (e:Int) (y1:Int) (a:Int) (b:Int) (c:Int) (d:Int):Option ((Int×Int×Int×Int×Int×Int)⊕((Int×Int×Int×Int×Int)⊕((Page×Bool)))):=
 bif(decide (y1<4))then((JA v1.1 e).bind λv2=>
 bif(!v2.2.2)then(some (.inr (.inr ((Page.mk 0 0 0 0 0 (bs [])),false))))
 else(bif(y1==0)then(some (.inl (v2.2.1,(ad y1 1),v2.1,b,c,d)))
 else(bif(y1==1)then(some (.inl (v2.2.1,(ad y1 1),a,v2.1,c,d)))
 else(bif(y1==2)then(some (.inl (v2.2.1,(ad y1 1),a,b,v2.1,d)))
 else(bif(y1==3)then(some (.inl (v2.2.1,(ad y1 1),a,b,c,v2.1)))
 else none)))))
 else(some (.inr (.inl (e,a,b,c,d))))
def Po (xT:ByteArray):Option (Page×Bool):=
 (Pm xT).bind λv1=>
 (bif(!v1.2)then(some true)
 else(some (seq v1.1 (bs []))):Option (Bool)).bind λj1=>
 bif j1 then(some ((Page.mk 0 0 0 0 0 (bs [])),false))
 else((Aw (λs:Int×Int×Int×Int×Int×Int=>EE v1 s.1 s.2.1 s.2.2.1 s.2.2.2.1 s.2.2.2.2.1 s.2.2.2.2.2) (1,0,0,0,0,0)).bind (Sum.elim (λv3=>((sx v1.1 0).bind λx1=>
 (sub v1.1 v3.1 (FL v1.1)).bind λx2=>
 (QO (Page.mk (IntKind.i64.wrap x1) v3.2.1 v3.2.2.1 v3.2.2.2.1 v3.2.2.2.2 x2)).bind λv4=>
 bif(!v4)then(some ((Page.mk 0 0 0 0 0 (bs [])),false))
 else(some ((Page.mk (IntKind.i64.wrap x1) v3.2.1 v3.2.2.1 v3.2.2.2.1 v3.2.2.2.2 x2),true)))) some))
def BO (x:As):Int:=x.Page.Seq
def Ke (y1:Int) (x1:Block) (y2:Int) (a:List As):Option ((Int×List As)⊕(List As)):=
 bif(decide (y2<(ln x1.Leaves)))then((gi x1.Leaves y2).bind λx2=>
 (Po x2.Text).bind λv1=>
 (bif v1.2 then(some (x2.Is==1))
 else(some false):Option (Bool)).bind λj1=>
 bif j1 then((ap 72 a [(As.mk y1 y2 v1.1)]).bind λq1=>
 some (.inl ((ad y2 1),q1)))
 else(some (.inl ((ad y2 1),a))))
 else(some (.inr a))
def I8 (xF:Flash) (y1:Int) (a:List As):Option ((Int×List As)⊕(List As)):=
 bif(decide (y1<(ln xF.Blocks)))then((gi xF.Blocks y1).bind λx1=>
 (Aw (λs:Int×List As=>Ke y1 x1 s.1 s.2) (0,a)).bind λv2=>
 some (.inl ((ad y1 1),v2)))
 else(some (.inr a))
def H1 (xF:Flash):Option (List As):=
 (Aw (λs:Int×List As=>I8 xF s.1 s.2) (0,[])).bind λv3=>
 (Dz (Nc BO) v3 (ln v3)).bind λv4=>
 some v4
def J8 (xL:List Int) (xN:Int) (y1:Int):Option ((Int)⊕((Unit)⊕(Bool))):=
 bif(decide (y1<(ln xL)))then((gi xL y1).bind λx1=>
 bif(x1==xN)then(some (.inr (.inr true)))
 else(some (.inl (ad y1 1))))
 else(some (.inr (.inl ())))
def TT (xL:List Int) (xN:Int):Option (Bool):=
 (Aw (λs:Int=>J8 xL xN s) 0).bind (Sum.elim (λv1=>(some false)) some)
def J7 (b:List As) (d:Int) (c:Int) (a:Int) (y1:Int):Option ((Int)⊕((Unit)⊕((Page×Bool)))):=
 bif(decide (y1<(ln b)))then((gi b y1).bind λx1=>
 (bif(x1.Page.Kind==2)then(bif(x1.Page.Tx==d)then(bif(x1.Page.Part==c)then(bif(a==0)then(some true)
 else(some (x1.Page.Count==a)))
 else(some false))
 else(some false))
 else(some false):Option (Bool)).bind λj1=>
 bif j1 then(some (.inr (.inr (x1.Page,true))))
 else(some (.inl (ad y1 1))))
 else(some (.inr (.inl ())))
def QK (b:List As) (d:Int) (c:Int) (a:Int):Option (Page×Bool):=
 (Aw (λs:Int=>J7 b d c a s) 0).bind (Sum.elim (λv1=>(some ((Page.mk 0 0 0 0 0 (bs [])),false))) some)
def TY (xR:Cu):Option (Bool):=
 bif(xR.Kind==1)then((bif(xR.Vol==0)then((JI xR.Arg 0 1000000000).bind λv1=>
 bif v1 then(some (xR.Chunk==0))
 else(some false))
 else(some false):Option (Bool)).bind λj1=>
 some j1)
 else(((JI xR.Vol 1 9).bind λv2=>
 bif(!v2)then(some true)
 else(bif(xR.Kind !=4)then(some (xR.Chunk !=0))
 else(some false)):Option (Bool)).bind λj2=>
 bif j2 then(some false)
 else(bif(xR.Kind==2)then((JI xR.Arg 0 9).bind λv3=>
 some v3)
 else(bif(xR.Kind==3)then(some (xR.Arg==0))
 else(bif(xR.Kind==4)then((JI xR.Arg 0 15).bind λv4=>
 bif v4 then((JI xR.Chunk 1 1000000000).bind λv5=>
 some v5)
 else(some false))
 else(bif(xR.Kind==5)then((JI xR.Arg 0 15).bind λv6=>
 some v6)
 else(some false))))))
def KY (xT:ByteArray) (b:List Cu) (a:Int):Option ((List Cu×Int)⊕((List Cu)⊕((List Cu×Bool)))):=
 bif(decide (a<(FL xT)))then((JA xT (ad a 1)).bind λv1=>
 (JA xT v1.2.1).bind λv2=>
 (sx xT a).bind λx1=>
 (sx xT a).bind λx2=>
 (bif(!v1.2.2)then(some true)
 else(bif(!v2.2.2)then(some true)
 else((TY (Cu.mk (qu (IntKind.i64.wrap x1) 16) (Int.tmod (IntKind.i64.wrap x2) 16) v1.1 v2.1)).bind λv3=>
 some (!v3))):Option (Bool)).bind λj1=>
 bif j1 then(some (.inr (.inr ([],false))))
 else((ap 32 b [(Cu.mk (qu (IntKind.i64.wrap x1) 16) (Int.tmod (IntKind.i64.wrap x2) 16) v1.1 v2.1)]).bind λq1=>
 some (.inl (q1,v2.2.1))))
 else(some (.inr (.inl b)))
def Pn (xT:ByteArray):Option (List Cu×Bool):=
 (Aw (λs:List Cu×Int=>KY xT s.1 s.2) ([],0)).bind (Sum.elim (λv4=>(some (v4,true))) some)
def KV (d:List As) (e:Int) (v1:Page×Bool) (c:ByteArray) (b:Int) (a:Int):Option ((ByteArray×Int×Int)⊕((ByteArray×Int)⊕((Tx×Bool)))):=
 bif(decide (a<v1.1.Count))then((QK d e a v1.1.Count).bind λv2=>
 bif(!v2.2)then(some (.inr (.inr ((Tx.mk 0 0 []),false))))
 else((HH c v2.1.Text).bind λx1=>
 some (.inl (x1,(if v2.1.Seq<b then v2.1.Seq else b),(ad a 1)))))
 else(some (.inr (.inl (c,b))))
def Pi (a:List As) (b:Int):Option (Tx×Bool):=
 (QK a b 0 0).bind λv1=>
 bif(!v1.2)then(some ((Tx.mk 0 0 []),false))
 else((Aw (λs:ByteArray×Int×Int=>KV a b v1 s.1 s.2.1 s.2.2) (v1.1.Text,v1.1.Seq,1)).bind (Sum.elim (λv3=>((Pn v3.1).bind λv4=>
 some ((Tx.mk b v3.2 v4.1),v4.2))) some))
def JD (b:List As) (a:List Int) (y1:Int):Option ((List Int×Int)⊕(List Int)):=
 bif(decide (y1<(ln b)))then((gi b y1).bind λx1=>
 (bif(x1.Page.Kind==2)then((TT a x1.Page.Tx).bind λv1=>
 some (!v1))
 else(some false):Option (Bool)).bind λj1=>
 bif j1 then((ap 8 a [x1.Page.Tx]).bind λq1=>
 some (.inl (q1,(ad y1 1))))
 else(some (.inl (a,(ad y1 1)))))
 else(some (.inr a))
def JC (b:List As) (v3:List Int) (a:List Tx) (y2:Int):Option ((List Tx×Int)⊕(List Tx)):=
 bif(decide (y2<(ln v3)))then((gi v3 y2).bind λx2=>
 (Pi b x2).bind λv4=>
 bif v4.2 then((ap 40 a [v4.1]).bind λq2=>
 some (.inl (q2,(ad y2 1))))
 else(some (.inl (a,(ad y2 1)))))
 else(some (.inr a))
def Uc (a:List As):Option (List Tx):=
 (Aw (λs:List Int×Int=>JD a s.1 s.2) ([],0)).bind λv2=>
 (Tq v2).bind λv3=>
 (Aw (λs:List Tx×Int=>JC a v3 s.1 s.2) ([],0)).bind λv5=>
 some v5
def TS (xT:Tx):Option (Bool):=
 bif(decide ((ln xT.Recs)>0))then((gi xT.Recs 0).bind λx1=>
 some (x1.Kind==1))
 else(some false)
def Mg (xA:Arena) (y1:Int) (x1:Cc) (y2:Int):Option ((Int)⊕((Unit)⊕((Int)⊕((Unit)⊕(Bool))))):=
 bif(decide (y2<(ln x1.Kids)))then((gi x1.Kids y2).bind λx2=>
 (bif x1.Leaf then(bif(decide (x2<0))then(some true)
 else(bif(!x1.Leaf)then(bif(x2 !=(-1))then((JI x2 0 (sb y1 1)).bind λv1=>
 bif(!v1)then(some true)
 else((gi xA.Knots x2).bind λx3=>
 some (!x3.Leaf)))
 else(some false))
 else(some false)))
 else(bif(!x1.Leaf)then(bif(x2 !=(-1))then((JI x2 0 (sb y1 1)).bind λv2=>
 bif(!v2)then(some true)
 else((gi xA.Knots x2).bind λx4=>
 some (!x4.Leaf)))
 else(some false))
 else(some false)):Option (Bool)).bind λj1=>
 bif j1 then(some (.inr (.inr (.inr (.inr false)))))
 else(some (.inl (ad y2 1))))
 else(some (.inr (.inl ())))
def Mh (xA:Arena) (y1:Int):Option ((Int)⊕((Unit)⊕(Bool))):=
 bif(decide (y1<(ln xA.Knots)))then((gi xA.Knots y1).bind λx1=>
 bif((ln x1.Kids) !=4)then(some (.inr (.inr false)))
 else((Aw (λs:Int=>Mg xA y1 x1 s) 0).bind (Sum.elim (λv3=>(some (.inl (ad y1 1)))) some)))
 else(some (.inr (.inl ())))
def R5 (xA:Arena):Option (Bool):=
 (Aw (λs:Int=>Mh xA s) 0).bind (Sum.elim (λv4=>(some true)) some)
def TR (xA:Arena) (a:Int):Option (Bool):=
 (JI a 0 (sb (ln xA.Knots) 1)).bind λv1=>
 bif v1 then((gi xA.Knots a).bind λx1=>
 some (!x1.Leaf))
 else(some false)
def SE (xA:Arena) (b:Int) (a:Int):Option (Int):=
 (gi xA.Knots b).bind λx1=>
 (gi x1.Kids (qu a 4)).bind λx2=>
 bif(decide (x2<0))then(some 0)
 else((gi xA.Knots x2).bind λx3=>
 (gi x3.Kids (Int.tmod a 4)).bind λx4=>
 some x4)
def X4 (xA:Arena) (b:Int) (a:Int):Option (Int):=
 ((JI a 0 15).bind λv1=>
 bif(!v1)then(some true)
 else((TR xA b).bind λv2=>
 bif(!v2)then(some true)
 else((R5 xA).bind λv3=>
 some (!v3))):Option (Bool)).bind λj1=>
 bif j1 then(some 0)
 else((SE xA b a).bind λv4=>
 some v4)
def MV (xA:Arena) (b:Int) (a:List Int) (y1:Int):Option ((List Int×Int)⊕(List Int)):=
 bif(decide (y1<16))then((X4 xA b y1).bind λv1=>
 (ap 8 a [v1]).bind λq1=>
 some (.inl (q1,(ad y1 1))))
 else(some (.inr a))
def Ue (xA:Arena) (a:Int):Option (List Int):=
 (Aw (λs:List Int×Int=>MV xA a s.1 s.2) ([],0)).bind λv2=>
 some v2
def IS (v1:List Int) (a:List Int) (y2:Int):Option ((List Int×Int)⊕(List Int)):=
 bif(decide (y2<(ln v1)))then((gi v1 y2).bind λx2=>
 bif(decide (x2>0))then((ap 8 a [x2]).bind λq1=>
 some (.inl (q1,(ad y2 1))))
 else(some (.inl (a,(ad y2 1)))))
 else(some (.inr a))
def IT (xS:Store) (a:List Int) (y1:Int):Option ((List Int×Int)⊕(List Int)):=
 bif(decide (y1<(ln xS.Vols)))then((gi xS.Vols y1).bind λx1=>
 (Ue xS.Arena x1.Root).bind λv1=>
 (Aw (λs:List Int×Int=>IS v1 s.1 s.2) (a,0)).bind λv2=>
 some (.inl (v2,(ad y1 1))))
 else(some (.inr a))
def Pj (xS:Store):Option (List Int):=
 (Aw (λs:List Int×Int=>IT xS s.1 s.2) ([],0)).bind λv3=>
 some v3
def Lv (v2:List Int) (a:List Int) (y1:Int):Option ((List Int×Int)⊕(List Int)):=
 bif(decide (y1<(ln v2)))then((gi v2 y1).bind λx1=>
 (bif(y1==0)then(some true)
 else((gi v2 (sb y1 1)).bind λx2=>
 some (x2 !=x1)):Option (Bool)).bind λj1=>
 bif j1 then((ap 8 a [x1]).bind λq1=>
 some (.inl (q1,(ad y1 1))))
 else(some (.inl (a,(ad y1 1)))))
 else(some (.inr a))
def Lw (xS:Store):Option (List Int):=
 (Pj xS).bind λv1=>
 (Tq v1).bind λv2=>
 (Aw (λs:List Int×Int=>Lv v2 s.1 s.2) ([],0)).bind λv3=>
 some v3
def J9 (j:Int) (v1:List As) (i:Bool) (y1:Int) (b:Int) (c:Int) (d:Int) (a:Int) (e:Int) (f:Int) (g:Int) (h:ByteArray):Option ((Bool×Int×Int×Int×Int×Int×Int×Int×Int×ByteArray)⊕(Bool×Int×Int×Int×Int×Int×Int×Int×ByteArray)):=
 bif(decide (y1<(ln v1)))then((gi v1 y1).bind λx1=>
 (bif(x1.Page.Kind==1)then(bif(x1.Page.Tx==j)then(bif(!i)then(some true)
 else(some (decide (x1.Page.Seq>=a))))
 else(some false))
 else(some false):Option (Bool)).bind λj1=>
 bif j1 then(some (.inl (true,(ad y1 1),x1.Block,x1.Leaf,x1.Page.Kind,x1.Page.Seq,x1.Page.Tx,x1.Page.Part,x1.Page.Count,x1.Page.Text)))
 else(some (.inl (i,(ad y1 1),b,c,d,a,e,f,g,h))))
 else(some (.inr (i,b,c,d,a,e,f,g,h)))
def TU (xF:Flash) (a:Int):Option (As×Bool):=
 (H1 xF).bind λv1=>
 (Aw (λs:Bool×Int×Int×Int×Int×Int×Int×Int×Int×ByteArray=>J9 a v1 s.1 s.2.1 s.2.2.1 s.2.2.2.1 s.2.2.2.2.1 s.2.2.2.2.2.1 s.2.2.2.2.2.2.1 s.2.2.2.2.2.2.2.1 s.2.2.2.2.2.2.2.2.1 s.2.2.2.2.2.2.2.2.2) (false,0,0,0,0,0,0,0,0,(bs []))).bind λv2=>
 some ((As.mk v2.2.1 v2.2.2.1 (Page.mk v2.2.2.2.1 v2.2.2.2.2.1 v2.2.2.2.2.2.1 v2.2.2.2.2.2.2.1 v2.2.2.2.2.2.2.2.1 v2.2.2.2.2.2.2.2.2)),v2.1)
def DW (a:ByteArray) (b:List Bg):Option ((ByteArray×List Bg)⊕((List Bg)⊕((List Bg×Bool)))):=
 bif(!(seq a (bs [])))then((sx a 0).bind λx1=>
 (bif(decide ((IntKind.i64.wrap x1)>=128))then(some (decide ((FL a)>=2)))
 else(some false):Option (Bool)).bind λj1=>
 bif j1 then((sx a 1).bind λx2=>
 (ap 32 b [(Bg.mk (IntKind.i64.wrap x2) (sb (IntKind.i64.wrap x1) 128) (bs []))]).bind λq1=>
 (sub a 2 (FL a)).bind λx3=>
 some (.inl (x3,q1)))
 else((bif(decide ((IntKind.i64.wrap x1)<128))then(some (decide ((IntKind.i64.wrap x1)<(FL a))))
 else(some false):Option (Bool)).bind λj2=>
 bif j2 then((sub a 1 (ad 1 (IntKind.i64.wrap x1))).bind λx4=>
 (ap 32 b [(Bg.mk 0 0 x4)]).bind λq2=>
 (sub a (ad 1 (IntKind.i64.wrap x1)) (FL a)).bind λx5=>
 some (.inl (x5,q2)))
 else(some (.inr (.inr ([],false))))))
 else(some (.inr (.inl b)))
def SB (xT:ByteArray):Option (List Bg×Bool):=
 (Aw (λs:ByteArray×List Bg=>DW s.1 s.2) (xT,[])).bind (Sum.elim (λv1=>(some (v1,true))) some)
def TZ (x1:Bg) (a:List Int) (y2:Int):Option ((List Int×Int)⊕(List Int)):=
 bif(decide (y2<x1.Size))then((gi a (sb (ln a) x1.Back)).bind λx2=>
 (ap 1 a [x2]).bind λq2=>
 some (.inl (q2,(ad y2 1))))
 else(some (.inr a))
def Pp (b:List Bg) (a:List Int) (y1:Int):Option ((List Int×Int)⊕((List Int)⊕((ByteArray×Bool)))):=
 bif(decide (y1<(ln b)))then((gi b y1).bind λx1=>
 (bif(x1.Back==0)then((bif(x1.Size !=0)then(some true)
 else((JI (FL x1.Text) 1 31).bind λv1=>
 some (!v1)):Option (Bool)).bind λj2=>
 bif j2 then(some (.inr (.inr (.inr ((bs []),false)))))
 else((aps a x1.Text).bind λq1=>
 some (.inl q1)))
 else(((JI x1.Back 1 (ln a)).bind λv2=>
 bif(!v2)then(some true)
 else((JI x1.Size 1 31).bind λv3=>
 bif(!v3)then(some true)
 else(some (!(seq x1.Text (bs []))))):Option (Bool)).bind λj3=>
 bif j3 then(some (.inr (.inr (.inr ((bs []),false)))))
 else((Aw (λs:List Int×Int=>TZ x1 s.1 s.2) (a,0)).bind λv4=>
 some (.inl v4))):Option ((List Int)⊕((List Int×Int)⊕((List Int)⊕((ByteArray×Bool)))))).bind (Sum.elim (λj1=>(bif(decide ((ln j1)>64))then(some (.inr (.inr ((bs []),false))))
 else(some (.inl (j1,(ad y1 1)))))) some))
 else(some (.inr (.inl a)))
def R3 (a:List Bg):Option (ByteArray×Bool):=
 (Aw (λs:List Int×Int=>Pp a s.1 s.2) ([],0)).bind (Sum.elim (λv5=>(some ((EI v5),true))) some)
def Gk (xS:ByteArray) (c:Int) (b:Int) (a:Int):Option ((Int)⊕(Int)):=
 (bif(decide (a<31))then(bif(decide ((ad c a)<(FL xS)))then((sx xS (ad b a)).bind λx1=>
 (sx xS (ad c a)).bind λx2=>
 some (x1==x2))
 else(some false))
 else(some false):Option (Bool)).bind λj1=>
 bif j1 then(some (.inl (ad a 1)))
 else(some (.inr a))
def I5 (xS:ByteArray) (d:Int) (b:Int) (c:Int) (a:Int):Option ((Int×Int×Int)⊕(Int×Int)):=
 bif(decide (a>=0))then((Aw (λs:Int=>Gk xS d a s) 0).bind λv1=>
 (bif(decide (v1>=4))then(some (decide (v1>b)))
 else(some false):Option (Bool)).bind λj2=>
 bif j2 then(some (.inl (v1,(sb d a),(sb a 1))))
 else(some (.inl (b,c,(sb a 1)))))
 else(some (.inr (b,c)))
def Vt (xS:ByteArray) (a:Int):Option (Int×Int):=
 (Aw (λs:Int×Int×Int=>I5 xS a s.1 s.2.1 s.2.2) (0,0,(sb a 1))).bind λv2=>
 some (v2.1,v2.2)
def NK (xS:ByteArray) (a:List Bg) (b:Int):Option ((List Bg×Int)⊕(List Bg)):=
 bif(decide (b<(FL xS)))then((Vt xS b).bind λv1=>
 bif(decide (v1.1>0))then((ap 32 a [(Bg.mk v1.2 v1.1 (bs []))]).bind λq1=>
 some (.inl (q1,(ad b v1.1))))
 else((bif(decide ((sb (ln a) 1)<0))then(some true)
 else((gi a (sb (ln a) 1)).bind λx1=>
 bif(decide (x1.Back>0))then(some true)
 else((gi a (sb (ln a) 1)).bind λx2=>
 some (decide ((FL x2.Text)>=31)))):Option (Bool)).bind λj1=>
 (bif j1 then((ap 32 a [(Bg.mk 0 0 (bs []))]).bind λq2=>
 some (q2,(ad (sb (ln a) 1) 1)))
 else(some (a,(sb (ln a) 1))):Option (List Bg×Int)).bind λj2=>
 (gi j2.1 j2.2).bind λx3=>
 (sub xS b (ad b 1)).bind λx4=>
 (HH x3.Text x4).bind λx5=>
 (gi j2.1 j2.2).bind λx6=>
 some (.inl ((si j2.1 j2.2 (Bg.mk x6.Back x6.Size x5)),(ad b 1)))))
 else(some (.inr a))
def SG (xS:ByteArray):Option (List Bg):=
 bif(decide ((FL xS)>64))then(some [])
 else((Aw (λs:List Bg×Int=>NK xS s.1 s.2) ([],0)).bind λv2=>
 some v2)
def KZ (v1:List Bg) (a:List Int) (y1:Int):Option ((List Int×Int)⊕(List Int)):=
 bif(decide (y1<(ln v1)))then((gi v1 y1).bind λx1=>
 (bif(decide (x1.Back>0))then((ap 1 a [(IntKind.u8.wrap (ad 128 x1.Size)),(IntKind.u8.wrap x1.Back)]).bind λq1=>
 some q1)
 else((ap 1 a [(IntKind.u8.wrap (FL x1.Text))]).bind λq4=>
 (aps q4 x1.Text).bind λq5=>
 some q5):Option (List Int)).bind λj1=>
 some (.inl (j1,(ad y1 1))))
 else(some (.inr a))
def Pr (xS:ByteArray):Option (ByteArray×Bool):=
 bif(decide ((FL xS)>64))then(some ((bs []),false))
 else((SG xS).bind λv1=>
 (Aw (λs:List Int×Int=>KZ v1 s.1 s.2) ([122],0)).bind λv2=>
 bif(decide ((ad (FL xS) 1)<=(ln v2)))then((HH (bs [114]) xS).bind λx2=>
 some (x2,true))
 else(some ((EI v2),true)))
def TX (xT:ByteArray):Option (ByteArray×Bool):=
 bif(seq xT (bs []))then(some ((bs []),false))
 else((sub xT 1 (FL xT)).bind λx1=>
 (sx xT 0).bind λx2=>
 (bif(x2 !=114)then((SB x1).bind λv1=>
 (R3 v1.1).bind λv2=>
 bif(!v1.2)then(some (.inr ((bs []),false)))
 else(bif(!v2.2)then(some (.inr ((bs []),false)))
 else(some (.inl v2.1))))
 else(some (.inl x1)):Option ((ByteArray)⊕((ByteArray×Bool)))).bind (Sum.elim (λj1=>((Pr j1).bind λv3=>
 (bif(!v3.2)then(some true)
 else(some (!(seq v3.1 xT))):Option (Bool)).bind λj2=>
 bif j2 then(some ((bs []),false))
 else(some (j1,true)))) some))
def GY (xB:Block) (a:Int) (y1:Int):Option ((Int×Int)⊕(Int)):=
 bif(decide (y1<(ln xB.Leaves)))then((gi xB.Leaves y1).bind λx1=>
 bif(x1.Is==0)then(some (.inl ((ad a 1),(ad y1 1))))
 else(some (.inl (a,(ad y1 1)))))
 else(some (.inr a))
def HY (xB:Block):Option (Int):=
 (Aw (λs:Int×Int=>GY xB s.1 s.2) (0,0)).bind λv1=>
 some v1
def N1 (xF:Flash) (a:Int) (y1:Int):Option ((Int×Int)⊕(Int)):=
 bif(decide (y1<(ln xF.Blocks)))then((gi xF.Blocks y1).bind λx1=>
 bif(!x1.Bad)then((HY x1).bind λv1=>
 some (.inl ((ad a v1),(ad y1 1))))
 else(some (.inl (a,(ad y1 1)))))
 else(some (.inr a))
def vB (xF:Flash):Option (Int):=
 (Aw (λs:Int×Int=>N1 xF s.1 s.2) (0,0)).bind λv2=>
 some v2
def Gv (xF:Flash) (xB:Int) (v1:List Int) (a:List As) (y1:Int):Option ((List As×Int)⊕(List As)):=
 bif(decide (y1<(ln v1)))then((gi v1 y1).bind λx1=>
 (TU xF x1).bind λv2=>
 (bif v2.2 then(some (v2.1.Block==xB))
 else(some false):Option (Bool)).bind λj1=>
 bif j1 then((ap 72 a [v2.1]).bind λq1=>
 some (.inl (q1,(ad y1 1))))
 else(some (.inl (a,(ad y1 1)))))
 else(some (.inr a))
def Rz (xF:Flash) (xS:Store) (xB:Int):Option (List As):=
 (Lw xS).bind λv1=>
 (Aw (λs:List As×Int=>Gv xF xB v1 s.1 s.2) ([],0)).bind λv3=>
 some v3
def IU (a:Int) (xB:Int) (v2:List As) (b:Int) (y1:Int):Option ((Int×Int)⊕(Int)):=
 bif(decide (y1<(ln v2)))then((gi v2 y1).bind λx1=>
 (bif(x1.Block==xB)then(bif(x1.Page.Kind==2)then(some (decide (x1.Page.Tx>=a)))
 else(some false))
 else(some false):Option (Bool)).bind λj1=>
 bif j1 then(some (.inl ((ad b 1),(ad y1 1))))
 else(some (.inl (b,(ad y1 1)))))
 else(some (.inr b))
def FC (xF:Flash) (xS:Store) (a:Int) (xB:Int):Option (Int):=
 (Rz xF xS xB).bind λv1=>
 (H1 xF).bind λv2=>
 (Aw (λs:Int×Int=>IU a xB v2 s.1 s.2) ((ln v1),0)).bind λv3=>
 some v3
def Hq (xD:AH) (a:List Int) (y1:Int):Option ((List Int×Int)⊕(List Int)):=
 bif(decide (y1<(ln xD.Flash.Blocks)))then((gi xD.Flash.Blocks y1).bind λx1=>
 (bif(!x1.Bad)then((HY x1).bind λv1=>
 bif(decide (v1<(ln x1.Leaves)))then((FC xD.Flash xD.Store xD.Base y1).bind λv2=>
 some (v2==0))
 else(some false))
 else(some false):Option (Bool)).bind λj1=>
 bif j1 then((ap 8 a [y1]).bind λq1=>
 some (.inl (q1,(ad y1 1))))
 else(some (.inl (a,(ad y1 1)))))
 else(some (.inr a))
def Kf (xD:AH):Option (List Int):=
 (Aw (λs:List Int×Int=>Hq xD s.1 s.2) ([],0)).bind λv3=>
 some v3
def Kb (xD:AH) (v2:List Tx) (y1:Int):Option ((Int)⊕((Unit)⊕(Bool))):=
 bif(decide (y1<(ln v2)))then((gi v2 y1).bind λx1=>
 bif(x1.Num==xD.Base)then((TS x1).bind λv3=>
 some (.inr (.inr v3)))
 else(some (.inl (ad y1 1))))
 else(some (.inr (.inl ())))
def N0 (xD:AH):Option (Bool):=
 bif(xD.Base !=(sb xD.Tx 1))then(some false)
 else((H1 xD.Flash).bind λv1=>
 (Uc v1).bind λv2=>
 (Aw (λs:Int=>Kb xD v2 s) 0).bind (Sum.elim (λv4=>(some false)) some))
def H3 (x1:Vol) (v1:List Int) (a:List Cu) (y2:Int):Option ((List Cu×Int)⊕(List Cu)):=
 bif(decide (y2<(ln v1)))then((gi v1 y2).bind λx2=>
 bif(decide (x2>0))then((ap 32 a [(Cu.mk 4 x1.Id y2 x2)]).bind λq2=>
 some (.inl (q2,(ad y2 1))))
 else(some (.inl (a,(ad y2 1)))))
 else(some (.inr a))
def H4 (xS:Store) (a:List Cu) (y1:Int):Option ((List Cu×Int)⊕(List Cu)):=
 bif(decide (y1<(ln xS.Vols)))then((gi xS.Vols y1).bind λx1=>
 (ap 32 a [(Cu.mk 2 x1.Id 0 0)]).bind λq1=>
 (Ue xS.Arena x1.Root).bind λv1=>
 (Aw (λs:List Cu×Int=>H3 x1 v1 s.1 s.2) (q1,0)).bind λv2=>
 some (.inl (v2,(ad y1 1))))
 else(some (.inr a))
def Pt (xS:Store):Option (List Cu):=
 (Aw (λs:List Cu×Int=>H4 xS s.1 s.2) ([(Cu.mk 1 0 xS.Next 0)],0)).bind λv3=>
 some v3
def Pk (b:Int) (a:List Int):Option ((Int×List Int)⊕(Int×List Int)):=
 bif(decide (b>127))then((ap 1 a [(IntKind.u8.wrap (ad (Int.tmod b 128) 128))]).bind λq1=>
 some (.inl ((qu b 128),q1)))
 else(some (.inr (b,a)))
def Vu (xN:Int):Option (ByteArray×Bool):=
 (JI xN 0 1000000000).bind λv1=>
 bif(!v1)then(some ((bs []),false))
 else((Aw (λs:Int×List Int=>Pk s.1 s.2) (xN,[])).bind λv2=>
 (ap 1 v2.2 [(IntKind.u8.wrap v2.1)]).bind λq2=>
 some ((EI q2),true))
def Em (xN:Int):Option (ByteArray):=
 (Vu xN).bind λv1=>
 some v1.1
def Pq (xP:Page):Option (ByteArray×Bool):=
 (QO xP).bind λv1=>
 bif(!v1)then(some ((bs []),false))
 else((Em xP.Seq).bind λv2=>
 (HH (EI [(IntKind.u8.wrap xP.Kind)]) v2).bind λx1=>
 (Em xP.Tx).bind λv3=>
 (HH x1 v3).bind λx2=>
 (Em xP.Part).bind λv4=>
 (HH x2 v4).bind λx3=>
 (Em xP.Count).bind λv5=>
 (HH x3 v5).bind λx4=>
 (HH x4 xP.Text).bind λx5=>
 (HZ x5).bind λv6=>
 some (v6.1,v6.2))
def Ia (xF:Flash) (y1:Int):Option ((Int)⊕((Unit)⊕(Int))):=
 bif(decide (y1<(ln xF.Blocks)))then((gi xF.Blocks y1).bind λx1=>
 (HY x1).bind λv1=>
 (bif(!x1.Bad)then(bif(decide (v1>0))then(some (decide (v1<(ln x1.Leaves))))
 else(some false))
 else(some false):Option (Bool)).bind λj1=>
 bif j1 then(some (.inr (.inr y1)))
 else(some (.inl (ad y1 1))))
 else(some (.inr (.inl ())))
def N2 (xF:Flash):Option (Int):=
 (Aw (λs:Int=>Ia xF s) 0).bind (Sum.elim (λv2=>(some (-1))) some)
def Hp (xF:Flash) (a:List Int) (y1:Int):Option ((List Int×Int)⊕(List Int)):=
 bif(decide (y1<(ln xF.Blocks)))then((gi xF.Blocks y1).bind λx1=>
 (bif(!x1.Bad)then((HY x1).bind λv1=>
 some (v1==(ln x1.Leaves)))
 else(some false):Option (Bool)).bind λj1=>
 bif j1 then((ap 8 a [y1]).bind λq1=>
 some (.inl (q1,(ad y1 1))))
 else(some (.inl (a,(ad y1 1)))))
 else(some (.inr a))
def Md (xF:Flash):Option (List Int):=
 (Aw (λs:List Int×Int=>Hp xF s.1 s.2) ([],0)).bind λv2=>
 some v2
def Gl (xF:Flash) (v4:List Int) (a:Int) (y1:Int):Option ((Int×Int)⊕(Int)):=
 bif(decide (y1<(ln v4)))then((gi v4 y1).bind λx2=>
 bif(decide (a<0))then(some (.inl (x2,(ad y1 1))))
 else((gi xF.Blocks x2).bind λx3=>
 (gi xF.Blocks a).bind λx4=>
 bif(decide (x3.Wear<x4.Wear))then(some (.inl (x2,(ad y1 1))))
 else(some (.inl (a,(ad y1 1))))))
 else(some (.inr a))
def R4 (xF:Flash):Option (Int×Int×Bool):=
 (On xF).bind λv1=>
 bif(!v1)then(some (0,0,false))
 else((N2 xF).bind λv2=>
 bif(decide (v2>=0))then((gi xF.Blocks v2).bind λx1=>
 (JB x1).bind λv3=>
 some (v2,v3,true))
 else((Md xF).bind λv4=>
 (Aw (λs:Int×Int=>Gl xF v4 s.1 s.2) ((-1),0)).bind λv5=>
 bif(decide (v5<0))then(some (0,0,false))
 else(some (v5,0,true))))
def Db (xW:EZ) (xP:Page) (a:Int):Option (Bool×EZ):=
 (Pq xP).bind λv1=>
 (R4 xW.f_).bind λv2=>
 (bif(!v1.2)then(some true)
 else(bif(!v2.2.2)then(some true)
 else(some (v2.1==a))):Option (Bool)).bind λj1=>
 bif j1 then(some (false,xW))
 else(((Ud xW.f_ (Bb.mk 1 v2.1 v2.2.1 v1.1)).bind λv4=>
 some (v4.2,v4.1.Blocks):Option (Bool×List Block)).bind λj2=>
 (ap 40 xW.steps_ [(Bb.mk 1 v2.1 v2.2.1 v1.1)]).bind λq1=>
 some (j2.1,(EZ.mk (Flash.mk j2.2) q1)))
def R1 (xR:Cu):Option (ByteArray×Bool):=
 (TY xR).bind λv1=>
 bif(!v1)then(some ((bs []),false))
 else((Em xR.Arg).bind λv2=>
 (HH (EI [(IntKind.u8.wrap (ad (ml 16 xR.Kind) xR.Vol))]) v2).bind λx1=>
 (Em xR.Chunk).bind λv3=>
 (HH x1 v3).bind λx2=>
 some (x2,true))
def I6 (b:List Cu) (a:List ByteArray) (y1:Int):Option ((List ByteArray×Int)⊕((List ByteArray)⊕((List Page×Bool)))):=
 bif(decide (y1<(ln b)))then((gi b y1).bind λx1=>
 (R1 x1).bind λv1=>
 bif(!v1.2)then(some (.inr (.inr ([],false))))
 else((gi a (sb (ln a) 1)).bind λx2=>
 (bif(decide ((ad (FL x2) (FL v1.1))>90))then((ap 16 a [(bs [])]).bind λq1=>
 some (q1,(ad (sb (ln a) 1) 1)))
 else(some (a,(sb (ln a) 1))):Option (List ByteArray×Int)).bind λj1=>
 (gi j1.1 j1.2).bind λx3=>
 (HH x3 v1.1).bind λx4=>
 (gi j1.1 j1.2).bind λx5=>
 some (.inl ((si j1.1 j1.2 x4),(ad y1 1)))))
 else(some (.inr (.inl a)))
def Kc (b:Int) (c:Int) (v2:List ByteArray) (a:List Page) (y2:Int):Option ((List Page×Int)⊕(List Page)):=
 bif(decide (y2<(ln v2)))then((gi v2 y2).bind λx6=>
 (ap 56 a [(Page.mk 2 (ad b y2) c y2 (ln v2) x6)]).bind λq2=>
 some (.inl (q2,(ad y2 1))))
 else(some (.inr a))
def Om (a:Int) (c:Int) (b:List Cu):Option (List Page×Bool):=
 (Aw (λs:List ByteArray×Int=>I6 b s.1 s.2) ([(bs [])],0)).bind (Sum.elim (λv2=>((bif(decide ((ln v2)>9))then(some true)
 else((JI a 1 (ad (sb 1000000000 (ln v2)) 1)).bind λv3=>
 bif(!v3)then(some true)
 else((JI c 1 1000000000).bind λv4=>
 some (!v4))):Option (Bool)).bind λj2=>
 bif j2 then(some ([],false))
 else((Aw (λs:List Page×Int=>Kc a c v2 s.1 s.2) ([],0)).bind λv5=>
 some (v5,true)))) some)
def CC (v2:List Page×Bool) (a:Bool) (y1:Int) (y01:List Block) (y11:List Bb):Option ((Bool×Int×List Block×List Bb)⊕(Bool×List Block×List Bb)):=
 bif(decide (y1<(ln v2.1)))then((gi v2.1 y1).bind λx2=>
 bif a then((Db (EZ.mk (Flash.mk y01) y11) x2 (-1)).bind λv3=>
 some (.inl (v3.1,(ad y1 1),v3.2.f_.Blocks,v3.2.steps_)))
 else(some (.inl (false,(ad y1 1),y01,y11))))
 else(some (.inr (a,y01,y11)))
def Mb (xD:AH) (a:List Cu) (b:ByteArray):Option (List Bb×Bool):=
 bif((ln a)==0)then(some ([],true))
 else((bif(!(seq b (bs [])))then((gi a (sb (ln a) 1)).bind λx1=>
 (Db (EZ.mk xD.Flash []) (Page.mk 1 xD.Seq x1.Chunk 0 1 b) (-1)).bind λv1=>
 bif(!v1.1)then(some (.inr ([],false)))
 else(some (.inl ((ad xD.Seq 1),v1.2.f_.Blocks,v1.2.steps_))))
 else(some (.inl (xD.Seq,xD.Flash.Blocks,[]))):Option ((Int×List Block×List Bb)⊕((List Bb×Bool)))).bind (Sum.elim (λj1=>((Om j1.1 xD.Tx a).bind λv2=>
 (Aw (λs:Bool×Int×List Block×List Bb=>CC v2 s.1 s.2.1 s.2.2.1 s.2.2.2) (v2.2,0,j1.2.1,j1.2.2)).bind λv4=>
 bif(!v4.1)then(some ([],false))
 else(some (v4.2.2,true)))) some))
def N3 (xD:AH):Option (List Bb×Bool):=
 (Pt xD.Store).bind λv1=>
 (Mb xD v1 (bs [])).bind λv2=>
 some (v2.1,v2.2)
def Gw (xD:AH) (b:Int) (a:Int) (y1:Int):Option ((Int×Int×Int)⊕(Int)):=
 bif(decide (y1<(ln xD.Flash.Blocks)))then((gi xD.Flash.Blocks y1).bind λx1=>
 (bif x1.Bad then(some true)
 else((JB x1).bind λv1=>
 some (decide (v1<4))):Option (Bool)).bind λj1=>
 bif j1 then(some (.inl (b,a,(ad y1 1))))
 else((FC xD.Flash xD.Store 1000000000 y1).bind λv2=>
 ((FC xD.Flash xD.Store xD.Base y1).bind λv3=>
 bif(v2==v3)then(bif(decide (v2>=1))then(some (decide (v2<a)))
 else(some false))
 else(some false):Option (Bool)).bind λj2=>
 bif j2 then(some (.inl (y1,v2,(ad y1 1))))
 else(some (.inl (b,a,(ad y1 1))))))
 else(some (.inr b))
def MU (xD:AH):Option (Int):=
 (Aw (λs:Int×Int×Int=>Gw xD s.1 s.2.1 s.2.2) ((-1),4,0)).bind λv4=>
 some v4
def BS (x:As):Int:=x.Leaf
def Ib (xD:AH) (xB:Int) (v2:List As) (y1:Int) (y01:List Block) (y11:List Bb):Option ((Int×List Block×List Bb)⊕((List Block×List Bb)⊕((List Bb×Bool)))):=
 bif(decide (y1<(ln v2)))then((gi v2 y1).bind λx1=>
 (Db (EZ.mk (Flash.mk y01) y11) (Page.mk 1 (ad xD.Seq y1) x1.Page.Tx 0 1 x1.Page.Text) xB).bind λv3=>
 bif(!v3.1)then(some (.inr (.inr ([],false))))
 else(some (.inl ((ad y1 1),v3.2.f_.Blocks,v3.2.steps_))))
 else(some (.inr (.inl (y01,y11))))
def Lu (xD:AH) (xB:Int):Option (List Bb×Bool):=
 (Rz xD.Flash xD.Store xB).bind λv1=>
 (Qn (Nc BS) v1).bind λv2=>
 (Aw (λs:Int×List Block×List Bb=>Ib xD xB v2 s.1 s.2.1 s.2.2) (0,xD.Flash.Blocks,[])).bind (Sum.elim (λv4=>(some (v4.2,true))) some)
def Ps (xD:AH):Option (List Bb×Bool):=
 (Kf xD).bind λv1=>
 bif(decide ((ln v1)>0))then((gi v1 0).bind λx1=>
 some ([(Bb.mk 2 x1 0 (bs []))],true))
 else((N0 xD).bind λv2=>
 bif(!v2)then((N3 xD).bind λv3=>
 some (v3.1,v3.2))
 else((MU xD).bind λv4=>
 bif(decide (v4<0))then(some ([],false))
 else((Lu xD v4).bind λv5=>
 some (v5.1,v5.2))))
def G5 (xA:List Bb) (xB:List Bb) (a:Int):Option ((Int)⊕((Unit)⊕(Bool))):=
 bif(decide (a<(ln xA)))then((gi xA a).bind λx1=>
 (gi xB a).bind λx2=>
 bif(!((x1.Kind==x2.Kind)&&((x1.Block==x2.Block)&&((x1.Leaf==x2.Leaf)&&(seq x1.Text x2.Text&&true)))))then(some (.inr (.inr false)))
 else(some (.inl (ad a 1))))
 else(some (.inr (.inl ())))
def Ni (xA:List Bb) (xB:List Bb):Option (Bool):=
 bif((ln xA) !=(ln xB))then(some false)
 else((Aw (λs:Int=>G5 xA xB s) 0).bind (Sum.elim (λv1=>(some true)) some))
def Gd (a:List Int) (b:Int) (y01:List Int) (y11:Int) (y21:Int):Option ((List Int×Int×List Int×Int×Int)⊕(List Int)):=
 bif(decide (b<12))then((D7 (BZ.mk y01 y11 y21) 10000).bind λv3=>
 (ap 8 a [v3.1]).bind λq1=>
 some (.inl (q1,(ad b 1),v3.2.b_,v3.2.i_,v3.2.h_)))
 else(some (.inr a))
def LV (a:List Int):Option (List Int):=
 (Qr a).bind λv1=>
 (Ip v1).bind λv2=>
 (Aw (λs:List Int×Int×List Int×Int×Int=>Gd s.1 s.2.1 s.2.2.1 s.2.2.2.1 s.2.2.2.2) ([],0,v2.2.b_,v2.2.i_,v2.2.h_)).bind λv4=>
 some v4
def Ir (xS:Bb) (b:Int) (a:List Block):Option ((Int×List Block)⊕(List Block)):=
 (gi a xS.Block).bind λx4=>
 bif(decide (b<(ln x4.Leaves)))then((gi a xS.Block).bind λx5=>
 (gi x5.Leaves b).bind λx6=>
 some (.inl ((ad b 1),(si a xS.Block (Block.mk x5.Bad x5.Wear (si x5.Leaves b (Leaf.mk 2 (bs []))))))))
 else(some (.inr a))
def Rm (xF:Flash) (xS:Bb):Option (Flash×Bool):=
 (IN xF xS).bind λv1=>
 (EP xF).bind λv2=>
 bif(!v1.2)then(some (v2,false))
 else(bif(xS.Kind==1)then((gi v2.Blocks xS.Block).bind λx1=>
 (sub xS.Text 0 (qu (FL xS.Text) 2)).bind λx2=>
 (gi x1.Leaves xS.Leaf).bind λx3=>
 some ((Flash.mk (si v2.Blocks xS.Block (Block.mk x1.Bad x1.Wear (si x1.Leaves xS.Leaf (Leaf.mk 2 x2))))),true))
 else((Aw (λs:Int×List Block=>Ir xS s.1 s.2) (0,v2.Blocks)).bind λv3=>
 some ((Flash.mk v3),true)))
def OT (xF:Flash) (b:List Bb) (a:Int) (c:Bool):Option (Flash×Bool):=
 (BY a 0 (ln b)).bind λv1=>
 bif(!v1)then((EP xF).bind λv2=>
 some (v2,false))
 else(((dr b 0 a).bind λx1=>
 (Oa xF x1).bind λv4=>
 some (v4.2,v4.1.Blocks):Option (Int×List Block)).bind λj1=>
 bif(decide (j1.1<a))then((EP xF).bind λv6=>
 some (v6,false))
 else((bif(!c)then(some true)
 else(some (a==(ln b))):Option (Bool)).bind λj2=>
 bif j2 then(some ((Flash.mk j1.2),true))
 else(((gi b a).bind λx2=>
 (Rm (Flash.mk j1.2) x2).bind λv8=>
 some (v8.2,v8.1.Blocks):Option (Bool×List Block)).bind λj3=>
 bif(!j3.1)then((EP xF).bind λv10=>
 some (v10,false))
 else(some ((Flash.mk j3.2),true)))))
def YH (xF:Flash) (xS:Store) (a:Int) (xB:Int):Option (Int):=
 (FZ xF).bind λv1=>
 (GE xS).bind λv2=>
 (GU v1 v2 a).bind λv3=>
 (LO v1 v3 xB).bind λv4=>
 some v4
def Fs (v2:AH) (v6:List Int) (v10:AH×Bool) (a:Int):Option ((Int)⊕((Unit)⊕(Bool))):=
 bif(decide (a<(ln v2.Store.Vols)))then((gi v2.Store.Vols a).bind λx4=>
 (gi v6 2).bind λx5=>
 (MG v2 x4.Id (Int.tmod x5 16)).bind λv12=>
 (gi v2.Store.Vols a).bind λx6=>
 (gi v6 2).bind λx7=>
 (MG v10.1 x6.Id (Int.tmod x7 16)).bind λv13=>
 bif(!v13.2)then(some (.inr (.inr false)))
 else(bif(!(seq v12.1 v13.1))then(some (.inr (.inr false)))
 else(some (.inl (ad a 1)))))
 else(some (.inr (.inl ())))
def Fq (v2:AH) (v15:List Int) (a:Int):Option ((Int)⊕((Unit)⊕(Bool))):=
 bif(decide (a<(ln v15)))then((gi v15 a).bind λx8=>
 (FC v2.Flash v2.Store v2.Base x8).bind λv16=>
 bif(v16 !=0)then(some (.inr (.inr false)))
 else(some (.inl (ad a 1))))
 else(some (.inr (.inl ())))
def IJ (a:List Int):Option (Bool):=
 (XH a).bind λv1=>
 bif v1 then(some true)
 else((LW a).bind λv2=>
 (Ps v2).bind λv3=>
 (Jj v2).bind λv4=>
 (bif(!(v3.2==v4.2))then(some true)
 else((Ni v3.1 v4.1).bind λv5=>
 some (!v5)):Option (Bool)).bind λj1=>
 bif j1 then(some false)
 else(bif(!v3.2)then(some ((ln v3.1)==0))
 else((LV a).bind λv6=>
 ((gi v6 0).bind λx1=>
 (rm .i64 x1 (ad (ln v3.1) 1)).bind λx2=>
 (gi v6 1).bind λx3=>
 (OT v2.Flash v3.1 x2 ((Int.tmod x3 2)==1)).bind λv8=>
 some (v8.2,v8.1.Blocks):Option (Bool×List Block)).bind λj2=>
 (D8 (Flash.mk j2.2)).bind λv10=>
 (bif(!j2.1)then(some true)
 else(bif(!v10.2)then(some true)
 else((Lh v10.1.Store v2.Store).bind λv11=>
 some (!v11))):Option (Bool)).bind λj3=>
 bif j3 then(some false)
 else((Aw (λs:Int=>Fs v2 v6 v10 s) 0).bind (Sum.elim (λv14=>((Kf v2).bind λv15=>
 (Aw (λs:Int=>Fq v2 v15 s) 0).bind (Sum.elim (λv17=>((MU v2).bind λv18=>
 (Jg v2).bind λv19=>
 some (v18==v19))) some))) some)))))
end
end Go.TI
