/- What functions of the given program compute. No condition. -/
import Derived.Test.YtdhemppeejlbeaaGreatMTT5
namespace Go.TI
open Go
noncomputable section
structure cC where
 Kind:Int
 Vol:Int
 Sector:Int
 Of:Int
 Text:ByteArray
structure Shelf where
 Vol:Int
 Texts:List ByteArray
structure Cc where
 Kind:Int
 Block:Int
 Leaf:Int
 Text:ByteArray
structure Leaf where
 Is:Int
 Text:ByteArray
structure Block where
 Bad:Bool
 Wear:Int
 Leaves:List Leaf
structure Flash where
 Blocks:List Block
structure Vol where
 Id:Int
 Root:Int
structure BI where
 Leaf:Bool
 Kids:List Int
structure Arena where
 Knots:List BI
structure Store where
 Vols:List Vol
 Arena:Arena
 Next:Int
structure Ba where
 Flash:Flash
 Store:Store
 Seq:Int
 Tx:Int
 Base:Int
structure Ds where
 Kind:Int
 Vol:Int
 Arg:Int
 Chunk:Int
structure World where
 Ba:Ba
 Codes:List Int
 Told:List ByteArray
 Model:List Shelf
 Steps:List Cc
structure BN where
 b_:List Int
 i_:Int
 h_:Int
structure Ej where
 text_:ByteArray
 at_:Int
 bad_:Bool
structure Page where
 Kind:Int
 Seq:Int
 Tx:Int
 Part:Int
 Count:Int
 Text:ByteArray
structure A4 where
 Block:Int
 Leaf:Int
 Page:Page
structure Tx where
 Num:Int
 Seq:Int
 Recs:List Ds
structure Bj where
 Back:Int
 Size:Int
 Text:ByteArray
def BY (xX:Int) (a:Int) (b:Int):Option (Bool):=
 bif(decide (xX>=a))then(some (decide (xX<=b)))
 else(some false)
def Vy (xQ:cC):Option (Bool):=
 ((BY xQ.Kind 1 6).bind λv1=>
 bif(!v1)then(some true)
 else((BY xQ.Vol 1 9).bind λv2=>
 bif(!v2)then(some true)
 else(bif(decide ((Gb xQ.Text)>64))then(some true)
 else(bif(xQ.Kind !=1)then(some (!(seq xQ.Text (bs []))))
 else(some false)))):Option (Bool)).bind λj1=>
 bif j1 then(some false)
 else(bif(xQ.Kind==4)then((bif(xQ.Sector==0)then((BY xQ.Of 1 9).bind λv3=>
 some v3)
 else(some false):Option (Bool)).bind λj2=>
 some j2)
 else(bif(xQ.Of !=0)then(some false)
 else((bif(xQ.Kind==3)then(some true)
 else(some (xQ.Kind==5)):Option (Bool)).bind λj3=>
 bif j3 then(some (xQ.Sector==0))
 else((BY xQ.Sector 0 15).bind λv4=>
 some v4))))
def IE (xN:Int) (b:Int) (a:Int):Option (Bool):=
 bif(decide (xN>=b))then(some (decide (xN<=a)))
 else(some false)
def FT (xN:Int) (b:Int) (a:List Block):Option ((Int×List Block)⊕(List Block)):=
 bif(decide (b<xN))then((mk 24 (Leaf.mk 0 (bs [])) 4).bind λq1=>
 (ap 40 a [(Block.mk false 0 q1)]).bind λq2=>
 some (.inl ((ad b 1),q2)))
 else(some (.inr a))
def Kj (xN:Int):Option (Flash×Bool):=
 (BY xN 3 10).bind λv1=>
 bif(!v1)then(some ((Flash.mk []),false))
 else((Au (λs:Int×List Block=>FT xN s.1 s.2) (0,[])).bind λv2=>
 some ((Flash.mk v2),true))
def J6 (xF:Flash) (b:Int) (a:List Block):Option ((Int×List Block)⊕(List Block)):=
 bif(decide (b<(ln xF.Blocks)))then((gi xF.Blocks b).bind λx1=>
 (ap 24 [] x1.Leaves).bind λq1=>
 (ap 40 a [(Block.mk x1.Bad x1.Wear q1)]).bind λq2=>
 some (.inl ((ad b 1),q2)))
 else(some (.inr a))
def Hd (xF:Flash):Option (Flash):=
 (Au (λs:Int×List Block=>J6 xF s.1 s.2) (0,[])).bind λv1=>
 some (Flash.mk v1)
def Qx (xX:Leaf):Option (Bool):=
 bif(xX.Is==0)then(some (seq xX.Text (bs [])))
 else(bif(xX.Is==1)then((BY (Gb xX.Text) 1 120).bind λv1=>
 some v1)
 else(bif(xX.Is==2)then(some (decide ((Gb xX.Text)<=120)))
 else(some false)))
def FE (x1:Block) (a:Int):Option ((Int)⊕((Unit)⊕((Int)⊕((Unit)⊕(Bool))))):=
 bif(decide (a<(ln x1.Leaves)))then(((gi x1.Leaves a).bind λx2=>
 (Qx x2).bind λv2=>
 bif(!v2)then(some true)
 else(bif(decide (a>0))then((gi x1.Leaves (sb a 1)).bind λx3=>
 bif(x3.Is==0)then((gi x1.Leaves a).bind λx4=>
 some (x4.Is !=0))
 else(some false))
 else(some false)):Option (Bool)).bind λj2=>
 bif j2 then(some (.inr (.inr (.inr (.inr false)))))
 else(some (.inl (ad a 1))))
 else(some (.inr (.inl ())))
def FG (xF:Flash) (a:Int):Option ((Int)⊕((Unit)⊕(Bool))):=
 bif(decide (a<(ln xF.Blocks)))then((gi xF.Blocks a).bind λx1=>
 (bif((ln x1.Leaves) !=4)then(some true)
 else((BY x1.Wear 0 1000000000).bind λv1=>
 some (!v1)):Option (Bool)).bind λj1=>
 bif j1 then(some (.inr (.inr false)))
 else((Au (λs:Int=>FE x1 s) 0).bind (Sum.elim (λv3=>(some (.inl (ad a 1)))) some)))
 else(some (.inr (.inl ())))
def Hh (xF:Flash):Option (Bool):=
 (Au (λs:Int=>FG xF s) 0).bind (Sum.elim (λv4=>((BY (ln xF.Blocks) 3 10).bind λv5=>
 some v5)) some)
def Gq (xB:Block) (a:Int):Option ((Int)⊕((Unit)⊕(Int))):=
 bif(decide (a<(ln xB.Leaves)))then((gi xB.Leaves a).bind λx1=>
 bif(x1.Is==0)then(some (.inr (.inr a)))
 else(some (.inl (ad a 1))))
 else(some (.inr (.inl ())))
def Ji (xB:Block):Option (Int):=
 (Au (λs:Int=>Gq xB s) 0).bind (Sum.elim (λv1=>(some 4)) some)
def Wl (xF:Flash) (xB:Int) (a:Int) (b:ByteArray):Option (Bool):=
 (BY xB 0 (sb (ln xF.Blocks) 1)).bind λv1=>
 bif v1 then((gi xF.Blocks xB).bind λx1=>
 bif(!x1.Bad)then(bif(decide (a<4))then((gi xF.Blocks xB).bind λx2=>
 (Ji x2).bind λv2=>
 bif(a==v2)then((BY (Gb b) 1 120).bind λv3=>
 some v3)
 else(some false))
 else(some false))
 else(some false))
 else(some false)
def N0 (xF:Flash) (xB:Int) (a:Int) (b:ByteArray):Option (Flash×Bool):=
 (Hd xF).bind λv1=>
 ((Hh xF).bind λv2=>
 bif(!v2)then(some true)
 else((Wl xF xB a b).bind λv3=>
 some (!v3)):Option (Bool)).bind λj1=>
 bif j1 then(some (v1,false))
 else((gi v1.Blocks xB).bind λx1=>
 (gi x1.Leaves a).bind λx2=>
 some ((Flash.mk (si v1.Blocks xB (Block.mk x1.Bad x1.Wear (si x1.Leaves a (Leaf.mk 1 b))))),true))
def Wn (xF:Flash) (xB:Int):Option (Flash×Bool):=
 (Hd xF).bind λv1=>
 ((Hh xF).bind λv2=>
 bif(!v2)then(some true)
 else((BY xB 0 (sb (ln xF.Blocks) 1)).bind λv3=>
 bif(!v3)then(some true)
 else((gi xF.Blocks xB).bind λx1=>
 bif x1.Bad then(some true)
 else((gi xF.Blocks xB).bind λx2=>
 some (x2.Wear==1000000000)))):Option (Bool)).bind λj1=>
 bif j1 then(some (v1,false))
 else((gi xF.Blocks xB).bind λx3=>
 (mk 24 (Leaf.mk 0 (bs [])) 4).bind λq1=>
 (gi v1.Blocks xB).bind λx4=>
 some ((Flash.mk (si v1.Blocks xB (Block.mk false (ad x3.Wear 1) q1))),true))
def N2 (xF:Flash) (xS:Cc):Option (Flash×Bool):=
 bif(xS.Kind==1)then((N0 xF xS.Block xS.Leaf xS.Text).bind λv1=>
 some (v1.1,v1.2))
 else(bif(xS.Kind==2)then((Wn xF xS.Block).bind λv2=>
 some (v2.1,v2.2))
 else((Hd xF).bind λv3=>
 some (v3,false)))
def Ie (b:List Cc) (c:Int) (a:List Block):Option ((Int×List Block)⊕((List Block)⊕((Flash×Int)))):=
 bif(decide (c<(ln b)))then(((gi b c).bind λx1=>
 (N2 (Flash.mk a) x1).bind λv3=>
 some (v3.2,v3.1.Blocks):Option (Bool×List Block)).bind λj1=>
 bif(!j1.1)then(some (.inr (.inr ((Flash.mk a),c))))
 else(some (.inl ((ad c 1),j1.2))))
 else(some (.inr (.inl a)))
def Q4 (xF:Flash) (a:List Cc):Option (Flash×Int):=
 (Hd xF).bind λv1=>
 (Au (λs:Int×List Block=>Ie a s.1 s.2) (0,v1.Blocks)).bind (Sum.elim (λv5=>(some ((Flash.mk v5),(ln a)))) some)
def KA:Option (List Leaf):=
 (mk 24 (Leaf.mk 0 (bs [])) 4).bind λq1=>
 some q1
def KF (xN:Int) (y1:Int) (a:List Block):Option ((Int×List Block)⊕(List Block)):=
 bif(decide (y1<xN))then((KA).bind λv2=>
 (ap 40 a [(Block.mk false 0 v2)]).bind λq1=>
 some (.inl ((ad y1 1),q1)))
 else(some (.inr a))
def OI (xN:Int):Option (Flash×Bool):=
 (IE xN 3 10).bind λv1=>
 bif(!v1)then(some ((Flash.mk []),false))
 else((Au (λs:Int×List Block=>KF xN s.1 s.2) (0,[])).bind λv3=>
 some ((Flash.mk v3),true))
def PZ (xF:Flash) (y1:Int) (a:List Block):Option ((Int×List Block)⊕(List Block)):=
 bif(decide (y1<(ln xF.Blocks)))then((gi xF.Blocks y1).bind λx1=>
 (ap 24 [] x1.Leaves).bind λq1=>
 (ap 40 a [(Block.mk x1.Bad x1.Wear q1)]).bind λq2=>
 some (.inl ((ad y1 1),q2)))
 else(some (.inr a))
def Qa (xF:Flash):Option (Flash):=
 (Au (λs:Int×List Block=>PZ xF s.1 s.2) (0,[])).bind λv1=>
 some (Flash.mk v1)
def eK (xX:Leaf):Option (Bool):=
 bif(xX.Is==0)then(some (seq xX.Text (bs [])))
 else(bif(xX.Is==1)then((IE (Gb xX.Text) 1 120).bind λv1=>
 some v1)
 else(bif(xX.Is==2)then(some (decide ((Gb xX.Text)<=120)))
 else(some false)))
def LF (x1:Block) (y2:Int):Option ((Int)⊕((Unit)⊕((Int)⊕((Unit)⊕(Bool))))):=
 bif(decide (y2<(ln x1.Leaves)))then((gi x1.Leaves y2).bind λx2=>
 ((eK x2).bind λv2=>
 bif(!v2)then(some true)
 else(bif(decide (y2>0))then((gi x1.Leaves (sb y2 1)).bind λx3=>
 bif(x3.Is==0)then(some (x2.Is !=0))
 else(some false))
 else(some false)):Option (Bool)).bind λj2=>
 bif j2 then(some (.inr (.inr (.inr (.inr false)))))
 else(some (.inl (ad y2 1))))
 else(some (.inr (.inl ())))
def LG (xF:Flash) (y1:Int):Option ((Int)⊕((Unit)⊕(Bool))):=
 bif(decide (y1<(ln xF.Blocks)))then((gi xF.Blocks y1).bind λx1=>
 (bif((ln x1.Leaves) !=4)then(some true)
 else((IE x1.Wear 0 1000000000).bind λv1=>
 some (!v1)):Option (Bool)).bind λj1=>
 bif j1 then(some (.inr (.inr false)))
 else((Au (λs:Int=>LF x1 s) 0).bind (Sum.elim (λv3=>(some (.inl (ad y1 1)))) some)))
 else(some (.inr (.inl ())))
def QM (xF:Flash):Option (Bool):=
 (Au (λs:Int=>LG xF s) 0).bind (Sum.elim (λv4=>((IE (ln xF.Blocks) 3 10).bind λv5=>
 some v5)) some)
def VP (a:List Int):Option (Bool):=
 some (decide ((ln a)>1048576))
def Jf (a:List Int) (c:Int) (b:Int):Option ((Int×Int)⊕(Int)):=
 (bif(decide (b<(ln a)))then(some (decide (b<4000)))
 else(some false):Option (Bool)).bind λj1=>
 bif j1 then((gi a b).bind λx1=>
 some (.inl ((yF .i64 (ad (ad (ml c 131) (IntKind.i64.wrap x1)) 7) 1073741823),(ad b 1))))
 else(some (.inr c))
def Sz (a:List Int):Option (BN):=
 (Au (λs:Int×Int=>Jf a s.1 s.2) ((ad 36501 (ln a)),0)).bind λv1=>
 some (BN.mk a 0 v1)
def Jg (xC:BN):Option (Int×BN):=
 bif(decide (xC.i_<(ln xC.b_)))then((gi xC.b_ xC.i_).bind λx1=>
 some ((yF .i64 (ad (yF .i64 (bxo .i64 (Int.fdiv (ad (ml xC.h_ 6364136223846793005) 1442695040888963407) (2^(min (33:Int).toNat IntKind.i64.bits))) (Int.fdiv (ad (ml xC.h_ 6364136223846793005) 1442695040888963407) (2^(min (45:Int).toNat IntKind.i64.bits)))) 255) (IntKind.i64.wrap x1)) 255),(BN.mk xC.b_ (ad xC.i_ 1) (ad (ml xC.h_ 6364136223846793005) 1442695040888963407))))
 else(some ((yF .i64 (bxo .i64 (Int.fdiv (ad (ml xC.h_ 6364136223846793005) 1442695040888963407) (2^(min (33:Int).toNat IntKind.i64.bits))) (Int.fdiv (ad (ml xC.h_ 6364136223846793005) 1442695040888963407) (2^(min (45:Int).toNat IntKind.i64.bits)))) 255),(BN.mk xC.b_ xC.i_ (ad (ml xC.h_ 6364136223846793005) 1442695040888963407))))
def DJ (xC:BN) (xN:Int):Option (Int×BN):=
 bif(decide (xN<=0))then(some (0,xC))
 else(bif(decide (xN<=256))then((Jg xC).bind λv1=>
 (rm .i64 v1.1 xN).bind λx1=>
 some (x1,v1.2))
 else((Jg xC).bind λv2=>
 (Jg v2.2).bind λv3=>
 (Jg v3.2).bind λv4=>
 (Jg v4.2).bind λv5=>
 (rm .i64 (ad (ad (ad (ml v2.1 16777216) (ml v3.1 65536)) (ml v4.1 256)) v5.1) xN).bind λx2=>
 some (x2,v5.2)))
def Ok (xF:Flash) (xB:Int) (a:Int):Option (ByteArray×Bool):=
 ((BY xB 0 (sb (ln xF.Blocks) 1)).bind λv1=>
 bif(!v1)then(some true)
 else((gi xF.Blocks xB).bind λx1=>
 (BY a 0 (sb (ln x1.Leaves) 1)).bind λv2=>
 bif(!v2)then(some true)
 else((gi xF.Blocks xB).bind λx2=>
 (gi x2.Leaves a).bind λx3=>
 some (x3.Is !=1))):Option (Bool)).bind λj1=>
 bif j1 then(some ((bs []),false))
 else((gi xF.Blocks xB).bind λx4=>
 (gi x4.Leaves a).bind λx5=>
 some (x5.Text,true))
def Ia (a:Int) (b:Int):Option ((Int×Int)⊕(Int)):=
 bif(decide (b<8))then(bif((Int.tmod a 2)==1)then(some (.inl ((xr (IntKind.u32.wrap (Int.tdiv a 2)) 3558460437),(ad b 1))))
 else(some (.inl ((IntKind.u32.wrap (Int.tdiv a 2)),(ad b 1)))))
 else(some (.inr a))
def J8 (a:ByteArray) (b:Int) (c:Int):Option ((Int×Int)⊕(Int)):=
 bif(decide (c<(Gb a)))then((sx a c).bind λx1=>
 (Au (λs:Int×Int=>Ia s.1 s.2) ((xr b (IntKind.u32.wrap x1)),0)).bind λv1=>
 some (.inl (v1,(ad c 1))))
 else(some (.inr b))
def Qy (b:Int) (a:ByteArray):Option (Int):=
 (Au (λs:Int×Int=>J8 a s.1 s.2) (b,0)).bind λv2=>
 some v2
def MH (a:ByteArray):Option (Int):=
 (Qy 4294967295 a).bind λv1=>
 some v1
def Kg (xX:Int):Option (ByteArray):=
 some (Hz [(IntKind.u8.wrap (Int.fdiv xX (2^(min (24:Int).toNat IntKind.u32.bits)))),(IntKind.u8.wrap (Int.fdiv xX (2^(min (16:Int).toNat IntKind.u32.bits)))),(IntKind.u8.wrap (Int.fdiv xX (2^(min (8:Int).toNat IntKind.u32.bits)))),(IntKind.u8.wrap xX)])
def Kh (a:ByteArray):Option (ByteArray×Bool):=
 (bif(decide ((sb (Gb a) 4)<0))then(some true)
 else(bif(decide ((sb (Gb a) 4)>20000))then(some true)
 else((sub a (sb (Gb a) 4) (Gb a)).bind λx1=>
 (sub a 0 (sb (Gb a) 4)).bind λx2=>
 (MH x2).bind λv1=>
 (Kg v1).bind λv2=>
 some (!(seq x1 v2)))):Option (Bool)).bind λj1=>
 bif j1 then(some ((bs []),false))
 else((sub a 0 (sb (Gb a) 4)).bind λx3=>
 some (x3,true))
def P5 (b:Int) (a:List Int):Option ((Int×List Int)⊕(Int×List Int)):=
 bif(decide (b>127))then((ap 1 a [(IntKind.u8.wrap (ad (Int.tmod b 128) 128))]).bind λq1=>
 some (.inl ((qu b 128),q1)))
 else(some (.inr (b,a)))
def I8 (xN:Int):Option (ByteArray):=
 (Au (λs:Int×List Int=>P5 s.1 s.2) (xN,[])).bind λv1=>
 (ap 1 v1.2 [(IntKind.u8.wrap v1.1)]).bind λq2=>
 some (Hz q2)
def DH (b:ByteArray) (e:Int) (d:Int) (a:Int) (c:Int):Option ((Int×Int×Int)⊕((Unit)⊕((Int×Int×Bool)))):=
 (bif(decide (c<(Gb b)))then(some (decide (c<(ad e 5))))
 else(some false):Option (Bool)).bind λj1=>
 bif j1 then((sx b c).bind λx1=>
 (sx b c).bind λx2=>
 bif(decide (x2<128))then((bif(decide ((ad d (ml (Int.tmod (IntKind.i64.wrap x1) 128) a))>1000000000))then(some true)
 else((sub b e (ad c 1)).bind λx3=>
 (I8 (ad d (ml (Int.tmod (IntKind.i64.wrap x1) 128) a))).bind λv2=>
 some (!(seq v2 x3))):Option (Bool)).bind λj2=>
 bif j2 then(some (.inr (.inr (0,0,false))))
 else(some (.inr (.inr ((ad d (ml (Int.tmod (IntKind.i64.wrap x1) 128) a)),(ad c 1),true)))))
 else(some (.inl ((ad d (ml (Int.tmod (IntKind.i64.wrap x1) 128) a)),(ml a 128),(ad c 1)))))
 else(some (.inr (.inl ())))
def Jh (a:ByteArray) (b:Int):Option (Int×Int×Bool):=
 (BY b 0 (Gb a)).bind λv1=>
 bif(!v1)then(some (0,0,false))
 else((Au (λs:Int×Int×Int=>DH a b s.1 s.2.1 s.2.2) (0,1,b)).bind (Sum.elim (λv3=>(some (0,0,false))) some))
def Do (xC:Ej):Option (Int×Ej):=
 (Jh xC.text_ xC.at_).bind λv1=>
 (bif xC.bad_ then(some true)
 else(some (!v1.2.2)):Option (Bool)).bind λj1=>
 bif j1 then(some (0,(Ej.mk xC.text_ xC.at_ true)))
 else(some (v1.1,(Ej.mk xC.text_ v1.2.1 xC.bad_)))
def JD (xP:Page):Option (Bool):=
 ((BY xP.Kind 1 2).bind λv1=>
 bif(!v1)then(some true)
 else((BY xP.Seq 1 1000000000).bind λv2=>
 bif(!v2)then(some true)
 else((BY xP.Tx 1 1000000000).bind λv3=>
 bif(!v3)then(some true)
 else((BY xP.Count 1 9).bind λv4=>
 bif(!v4)then(some true)
 else((BY xP.Part 0 (sb xP.Count 1)).bind λv5=>
 bif(!v5)then(some true)
 else(some (decide ((Gb xP.Text)>90))))))):Option (Bool)).bind λj1=>
 bif j1 then(some false)
 else(bif(xP.Kind==2)then(some true)
 else(some (xP.Count==1)))
def LN (xN:Int):Option (ByteArray):=
 some (Hz [(IntKind.u8.wrap xN)])
def J9 (a:ByteArray):Option (ByteArray×Bool):=
 bif(decide ((Gb a)>20000))then(some ((bs []),false))
 else((MH a).bind λv1=>
 (Kg v1).bind λv2=>
 (Ty a v2).bind λx1=>
 some (x1,true))
def EQ (xP:Page):Option (ByteArray×Bool):=
 (JD xP).bind λv1=>
 bif(!v1)then(some ((bs []),false))
 else((LN xP.Kind).bind λv2=>
 (I8 xP.Seq).bind λv3=>
 (Ty v2 v3).bind λx1=>
 (I8 xP.Tx).bind λv4=>
 (Ty x1 v4).bind λx2=>
 (I8 xP.Part).bind λv5=>
 (Ty x2 v5).bind λx3=>
 (I8 xP.Count).bind λv6=>
 (Ty x3 v6).bind λx4=>
 (Ty x4 xP.Text).bind λx5=>
 (J9 x5).bind λv7=>
 some (v7.1,v7.2))
def EP (xT:ByteArray):Option (Page×Bool):=
 (Kh xT).bind λv1=>
 (bif(!v1.2)then(some true)
 else(some (decide ((Gb v1.1)<1))):Option (Bool)).bind λj1=>
 (Do (Ej.mk v1.1 1 j1)).bind λv2=>
 (Do v2.2).bind λv3=>
 (Do v3.2).bind λv4=>
 (Do v4.2).bind λv5=>
 bif v5.2.bad_ then(some ((Page.mk 0 0 0 0 0 (bs [])),false))
 else((sx v1.1 0).bind λx1=>
 (sub v1.1 v5.2.at_ (Gb v1.1)).bind λx2=>
 (EQ (Page.mk (IntKind.i64.wrap x1) v2.1 v3.1 v4.1 v5.1 x2)).bind λv6=>
 (bif(!v6.2)then(some true)
 else(some (!(seq v6.1 xT))):Option (Bool)).bind λj2=>
 bif j2 then(some ((Page.mk 0 0 0 0 0 (bs [])),false))
 else(some ((Page.mk (IntKind.i64.wrap x1) v2.1 v3.1 v4.1 v5.1 x2),true)))
def EG (xF:Flash) (c:Int) (a:List A4) (b:Int):Option ((List A4×Int)⊕(List A4)):=
 (gi xF.Blocks c).bind λx1=>
 bif(decide (b<(ln x1.Leaves)))then((Ok xF c b).bind λv1=>
 (EP v1.1).bind λv2=>
 (bif v1.2 then(some v2.2)
 else(some false):Option (Bool)).bind λj1=>
 bif j1 then((ap 72 a [(A4.mk c b v2.1)]).bind λq1=>
 some (.inl (q1,(ad b 1))))
 else(some (.inl (a,(ad b 1)))))
 else(some (.inr a))
def Es (xF:Flash) (a:List A4) (b:Int):Option ((List A4×Int)⊕(List A4)):=
 bif(decide (b<(ln xF.Blocks)))then((Au (λs:List A4×Int=>EG xF b s.1 s.2) (a,0)).bind λv3=>
 some (.inl (v3,(ad b 1))))
 else(some (.inr a))
def JA (a:List A4) (b:Int):Option ((List A4×Int)⊕(List A4)):=
 (bif(decide (b>0))then((gi a (sb b 1)).bind λx2=>
 (gi a b).bind λx3=>
 some (decide (x2.Page.Seq>x3.Page.Seq)))
 else(some false):Option (Bool)).bind λj2=>
 bif j2 then((gi a b).bind λx4=>
 (gi a (sb b 1)).bind λx5=>
 (gi a b).bind λx6=>
 (gi (si a b x5) (sb b 1)).bind λx7=>
 some (.inl ((si (si a b x5) (sb b 1) x4),(sb b 1))))
 else(some (.inr a))
def JB (a:List A4) (b:Int):Option ((List A4×Int)⊕(List A4)):=
 bif(decide (b<(ln a)))then((Au (λs:List A4×Int=>JA s.1 s.2) (a,b)).bind λv5=>
 some (.inl (v5,(ad b 1))))
 else(some (.inr a))
def Ft (xF:Flash):Option (List A4):=
 (Au (λs:List A4×Int=>Es xF s.1 s.2) ([],0)).bind λv4=>
 (Au (λs:List A4×Int=>JB s.1 s.2) (v4,1)).bind λv6=>
 some v6
def Mh:Option (Store):=
 some (Store.mk [] (Arena.mk []) 1)
def MJ (xR:Ds):Option (Bool):=
 (BY xR.Arg 0 1000000000).bind λv1=>
 bif(!v1)then(some false)
 else(bif(xR.Kind==1)then((bif(xR.Vol==0)then(some (xR.Chunk==0))
 else(some false):Option (Bool)).bind λj1=>
 some j1)
 else(((BY xR.Kind 2 5).bind λv2=>
 bif(!v2)then(some true)
 else((BY xR.Vol 1 9).bind λv3=>
 bif(!v3)then(some true)
 else(bif(xR.Kind !=4)then(some (xR.Chunk !=0))
 else(some false))):Option (Bool)).bind λj2=>
 bif j2 then(some false)
 else(bif(xR.Kind==2)then(some (decide (xR.Arg<=9)))
 else(bif(xR.Kind==3)then(some (xR.Arg==0))
 else(bif(xR.Kind==4)then(bif(decide (xR.Arg<16))then((BY xR.Chunk 1 1000000000).bind λv4=>
 some v4)
 else(some false))
 else(some (decide (xR.Arg<16))))))))
def DD (xT:ByteArray) (a:List Ds) (y01:ByteArray) (y11:Int) (y21:Bool):Option ((List Ds×ByteArray×Int×Bool)⊕((List Ds)⊕((List Ds×Bool)))):=
 (bif(decide (y11<(Gb xT)))then(some (!y21))
 else(some false):Option (Bool)).bind λj1=>
 bif j1 then((sx xT y11).bind λx1=>
 (Do (Ej.mk y01 (ad y11 1) y21)).bind λv1=>
 (Do v1.2).bind λv2=>
 (bif v2.2.bad_ then(some true)
 else((MJ (Ds.mk (qu (IntKind.i64.wrap x1) 16) (Int.tmod (IntKind.i64.wrap x1) 16) v1.1 v2.1)).bind λv3=>
 some (!v3)):Option (Bool)).bind λj2=>
 bif j2 then(some (.inr (.inr ([],false))))
 else((ap 32 a [(Ds.mk (qu (IntKind.i64.wrap x1) 16) (Int.tmod (IntKind.i64.wrap x1) 16) v1.1 v2.1)]).bind λq1=>
 some (.inl (q1,v2.2.text_,v2.2.at_,v2.2.bad_))))
 else(some (.inr (.inl a)))
def HF (xT:ByteArray):Option (List Ds×Bool):=
 (Au (λs:List Ds×ByteArray×Int×Bool=>DD xT s.1 s.2.1 s.2.2.1 s.2.2.2) ([],xT,0,false)).bind (Sum.elim (λv4=>(some (v4,true))) some)
def IR (f:List A4) (h:Int) (d:Int) (b:Int) (e:ByteArray) (c:Bool) (g:Int) (a:Int):Option ((Int×ByteArray×Bool×Int×Int)⊕(Int×ByteArray×Bool×Int)):=
 (bif(decide (g<(ln f)))then(some (!c))
 else(some false):Option (Bool)).bind λj2=>
 bif j2 then((gi f g).bind λx1=>
 (bif(x1.Page.Kind !=2)then(some true)
 else(bif(x1.Page.Tx !=h)then(some true)
 else(bif(x1.Page.Part !=d)then(some true)
 else(bif(decide (d>0))then(some (x1.Page.Count !=b))
 else(some false)))):Option (Bool)).bind λj3=>
 bif j3 then(some (.inl (b,e,c,(ad g 1),a)))
 else((Ty e x1.Page.Text).bind λx2=>
 (bif(d==0)then(some true)
 else(some (decide (x1.Page.Seq<a))):Option (Bool)).bind λj4=>
 bif j4 then(some (.inl (x1.Page.Count,x2,true,(ad g 1),x1.Page.Seq)))
 else(some (.inl (x1.Page.Count,x2,true,(ad g 1),a)))))
 else(some (.inr (b,e,c,a)))
def Oh (e:List A4) (f:Int) (b:Int) (c:ByteArray) (a:Int) (d:Int):Option ((Int×ByteArray×Int×Int)⊕((ByteArray×Int)⊕((Tx×Bool)))):=
 (bif(a==0)then(some true)
 else(some (decide (a<b))):Option (Bool)).bind λj1=>
 bif j1 then((Au (λs:Int×ByteArray×Bool×Int×Int=>IR e f a s.1 s.2.1 s.2.2.1 s.2.2.2.1 s.2.2.2.2) (b,c,false,0,d)).bind λv1=>
 bif(!v1.2.2.1)then(some (.inr (.inr ((Tx.mk f v1.2.2.2 []),false))))
 else(some (.inl (v1.1,v1.2.1,(ad a 1),v1.2.2.2))))
 else(some (.inr (.inl (c,d))))
def Vv (a:List A4) (b:Int):Option (Tx×Bool):=
 (Au (λs:Int×ByteArray×Int×Int=>Oh a b s.1 s.2.1 s.2.2.1 s.2.2.2) (0,(bs []),0,0)).bind (Sum.elim (λv2=>((HF v2.1).bind λv3=>
 some ((Tx.mk b v2.2 v3.1),v3.2))) some)
def KX (a:List Int) (x1:A4) (b:List Int) (c:Int):Option ((List Int×Int)⊕(List Int)):=
 bif(decide (c<(ln a)))then((gi a c).bind λx2=>
 bif(decide (x2<x1.Page.Tx))then((gi a c).bind λx3=>
 (ap 8 b [x3]).bind λq1=>
 some (.inl (q1,(ad c 1))))
 else(some (.inl (b,(ad c 1)))))
 else(some (.inr b))
def KV (a:List Int) (x1:A4) (b:List Int) (c:Int):Option ((List Int×Int)⊕(List Int)):=
 bif(decide (c<(ln a)))then((gi a c).bind λx4=>
 bif(decide (x4>x1.Page.Tx))then((gi a c).bind λx5=>
 (ap 8 b [x5]).bind λq3=>
 some (.inl (q3,(ad c 1))))
 else(some (.inl (b,(ad c 1)))))
 else(some (.inr b))
def Jk (b:List A4) (a:List Int) (c:Int):Option ((List Int×Int)⊕(List Int)):=
 bif(decide (c<(ln b)))then((gi b c).bind λx1=>
 bif(x1.Page.Kind !=2)then(some (.inl (a,(ad c 1))))
 else((Au (λs:List Int×Int=>KX a x1 s.1 s.2) ([],0)).bind λv1=>
 (ap 8 v1 [x1.Page.Tx]).bind λq2=>
 (Au (λs:List Int×Int=>KV a x1 s.1 s.2) (q2,0)).bind λv2=>
 some (.inl (v2,(ad c 1)))))
 else(some (.inr a))
def Jj (c:List A4) (v3:List Int) (a:List Tx) (b:Int):Option ((List Tx×Int)⊕(List Tx)):=
 bif(decide (b<(ln v3)))then((gi v3 b).bind λx6=>
 (Vv c x6).bind λv4=>
 bif v4.2 then((ap 40 a [v4.1]).bind λq4=>
 some (.inl (q4,(ad b 1))))
 else(some (.inl (a,(ad b 1)))))
 else(some (.inr a))
def PA (a:List A4):Option (List Tx):=
 (Au (λs:List Int×Int=>Jk a s.1 s.2) ([],0)).bind λv3=>
 (Au (λs:List Tx×Int=>Jj a v3 s.1 s.2) ([],0)).bind λv5=>
 some v5
def Gm (a:List Tx) (c:Int) (b:Int):Option ((Int×Int)⊕(Int)):=
 bif(decide (b<(ln a)))then((gi a b).bind λx1=>
 bif(decide ((ln x1.Recs)>0))then((gi a b).bind λx2=>
 (gi x2.Recs 0).bind λx3=>
 bif(x3.Kind==1)then(some (.inl (b,(ad b 1))))
 else(some (.inl (c,(ad b 1)))))
 else(some (.inl (c,(ad b 1)))))
 else(some (.inr c))
def HD (a:List Tx) (b:List Tx) (c:Int):Option ((List Tx×Int)⊕(List Tx)):=
 bif(decide (c<(ln a)))then((gi a c).bind λx4=>
 (ap 32 [] x4.Recs).bind λq1=>
 (ap 40 b [(Tx.mk x4.Num x4.Seq q1)]).bind λq2=>
 some (.inl (q2,(ad c 1))))
 else(some (.inr b))
def MI (a:List Tx):Option (List Tx):=
 (Au (λs:Int×Int=>Gm a s.1 s.2) (0,0)).bind λv1=>
 (Au (λs:List Tx×Int=>HD a s.1 s.2) ([],v1)).bind λv2=>
 some v2
def J5 (xA:Arena) (b:Int) (a:List BI):Option ((Int×List BI)⊕(List BI)):=
 bif(decide (b<(ln xA.Knots)))then((gi xA.Knots b).bind λx1=>
 (gi xA.Knots b).bind λx2=>
 (ap 8 [] x2.Kids).bind λq1=>
 (ap 32 a [(BI.mk x1.Leaf q1)]).bind λq2=>
 some (.inl ((ad b 1),q2)))
 else(some (.inr a))
def LM (xA:Arena):Option (Arena):=
 (Au (λs:Int×List BI=>J5 xA s.1 s.2) (0,[])).bind λv1=>
 some (Arena.mk v1)
def DZ (xS:Store):Option (Store):=
 (ap 16 [] xS.Vols).bind λq1=>
 (LM xS.Arena).bind λv1=>
 some (Store.mk q1 v1 xS.Next)
def DW (xA:Arena) (b:Int) (x1:BI) (a:Int):Option ((Int)⊕((Unit)⊕((Int)⊕((Unit)⊕(Bool))))):=
 bif(decide (a<4))then((gi x1.Kids a).bind λx2=>
 (bif x1.Leaf then(bif(decide (x2<0))then(some true)
 else(bif(!x1.Leaf)then(bif(x2 !=(-1))then((BY x2 0 (sb b 1)).bind λv1=>
 bif(!v1)then(some true)
 else((gi xA.Knots x2).bind λx3=>
 some (!x3.Leaf)))
 else(some false))
 else(some false)))
 else(bif(!x1.Leaf)then(bif(x2 !=(-1))then((BY x2 0 (sb b 1)).bind λv2=>
 bif(!v2)then(some true)
 else((gi xA.Knots x2).bind λx4=>
 some (!x4.Leaf)))
 else(some false))
 else(some false)):Option (Bool)).bind λj1=>
 bif j1 then(some (.inr (.inr (.inr (.inr false)))))
 else(some (.inl (ad a 1))))
 else(some (.inr (.inl ())))
def DX (xA:Arena) (a:Int):Option ((Int)⊕((Unit)⊕(Bool))):=
 bif(decide (a<(ln xA.Knots)))then((gi xA.Knots a).bind λx1=>
 bif((ln x1.Kids) !=4)then(some (.inr (.inr false)))
 else((Au (λs:Int=>DW xA a x1 s) 0).bind (Sum.elim (λv3=>(some (.inl (ad a 1)))) some)))
 else(some (.inr (.inl ())))
def Gt (xA:Arena):Option (Bool):=
 (Au (λs:Int=>DX xA s) 0).bind (Sum.elim (λv4=>(some true)) some)
def Hc (xA:Arena) (a:Int):Option (Bool):=
 bif(a==(-1))then(some true)
 else((BY a 0 (sb (ln xA.Knots) 1)).bind λv1=>
 bif v1 then((gi xA.Knots a).bind λx1=>
 some (!x1.Leaf))
 else(some false))
def Mf (xA:Arena) (b:Int) (a:Int):Option (Int):=
 bif(decide (b<0))then(some 0)
 else((gi xA.Knots b).bind λx1=>
 (gi x1.Kids (qu a 4)).bind λx2=>
 bif(decide (x2<0))then(some 0)
 else((gi xA.Knots x2).bind λx3=>
 (gi x3.Kids (Int.tmod a 4)).bind λx4=>
 some x4))
def Hb (xS:Store) (a:List Int) (b:Int):Option ((List Int×Int)⊕(List Int)):=
 bif(decide (b<(ln xS.Vols)))then((gi xS.Vols b).bind λx1=>
 (ap 8 a [x1.Root]).bind λq1=>
 some (.inl (q1,(ad b 1))))
 else(some (.inr a))
def Me (xS:Store):Option (List Int):=
 (Au (λs:List Int×Int=>Hb xS s.1 s.2) ([],0)).bind λv1=>
 some v1
def Jb (xA:Arena) (b:Int) (a:List Bool) (c:Int):Option ((List Bool×Int)⊕(List Bool)):=
 bif(decide (c<4))then((gi xA.Knots b).bind λx2=>
 (gi x2.Kids c).bind λx3=>
 bif(decide (x3>=0))then((gi xA.Knots b).bind λx4=>
 (gi x4.Kids c).bind λx5=>
 (gi a x5).bind λx6=>
 some (.inl ((si a x5 true),(ad c 1))))
 else(some (.inl (a,(ad c 1)))))
 else(some (.inr a))
def Sx (xA:Arena) (a:Int):Option (List Bool):=
 (mk 1 false (ln xA.Knots)).bind λq1=>
 bif(decide (a<0))then(some q1)
 else((gi q1 a).bind λx1=>
 (Au (λs:List Bool×Int=>Jb xA a s.1 s.2) ((si q1 a true),0)).bind λv1=>
 some v1)
def Fs (xA:Arena) (a:List Int) (b:Bool) (c:Int):Option ((Bool×Int)⊕(Bool)):=
 (bif(decide (c<(ln a)))then(some b)
 else(some false):Option (Bool)).bind λj1=>
 bif j1 then((gi a c).bind λx1=>
 (Hc xA x1).bind λv2=>
 some (.inl (v2,(ad c 1))))
 else(some (.inr b))
def GV (v5:List Bool) (a:List Bool) (b:Int):Option ((List Bool×Int)⊕(List Bool)):=
 bif(decide (b<(ln v5)))then((gi a b).bind λx3=>
 bif x3 then((gi a b).bind λx4=>
 some (.inl ((si a b true),(ad b 1))))
 else((gi v5 b).bind λx5=>
 (gi a b).bind λx6=>
 some (.inl ((si a b x5),(ad b 1)))))
 else(some (.inr a))
def Fq (xA:Arena) (a:List Int) (b:List Bool) (c:Int):Option ((List Bool×Int)⊕(List Bool)):=
 bif(decide (c<(ln a)))then((gi a c).bind λx2=>
 (Sx xA x2).bind λv5=>
 (Au (λs:List Bool×Int=>GV v5 s.1 s.2) (b,0)).bind λv6=>
 some (.inl (v6,(ad c 1))))
 else(some (.inr b))
def Fo (c:List Int) (j2:Bool×List Int) (b:Int) (a:List Int):Option ((Int×List Int)⊕(List Int)):=
 (bif(decide (b<4))then(some (!j2.1))
 else(some false):Option (Bool)).bind λj3=>
 bif j3 then((gi a b).bind λx10=>
 bif(decide (x10>=0))then((gi a b).bind λx11=>
 (gi c x11).bind λx12=>
 (gi a b).bind λx13=>
 some (.inl ((ad b 1),(si a b x12))))
 else(some (.inl ((ad b 1),a))))
 else(some (.inr a))
def Fp (xA:Arena) (v7:List Bool) (a:List Int) (c:Int) (b:List BI):Option ((List Int×Int×List BI)⊕(List Int×List BI)):=
 bif(decide (c<(ln xA.Knots)))then((gi v7 c).bind λx7=>
 bif(!x7)then(some (.inl (a,(ad c 1),b)))
 else(((gi xA.Knots c).bind λx8=>
 (gi xA.Knots c).bind λx9=>
 (ap 8 [] x9.Kids).bind λq4=>
 some (x8.Leaf,q4):Option (Bool×List Int)).bind λj2=>
 (Au (λs:Int×List Int=>Fo a j2 s.1 s.2) (0,j2.2)).bind λv8=>
 (gi a c).bind λx14=>
 (ap 32 b [(BI.mk j2.1 v8)]).bind λq7=>
 some (.inl ((si a c (ln b)),(ad c 1),q7))))
 else(some (.inr (a,b)))
def Fl (v9:List Int×List BI) (a:List Int) (b:Int):Option ((List Int×Int)⊕(List Int)):=
 bif(decide (b<(ln a)))then((gi a b).bind λx15=>
 bif(decide (x15>=0))then((gi a b).bind λx16=>
 (gi v9.1 x16).bind λx17=>
 (gi a b).bind λx18=>
 some (.inl ((si a b x17),(ad b 1))))
 else(some (.inl (a,(ad b 1)))))
 else(some (.inr a))
def J7 (xA:Arena) (a:List Int):Option (Arena×List Int):=
 (ap 8 [] a).bind λq1=>
 (Gt xA).bind λv1=>
 (Au (λs:Bool×Int=>Fs xA a s.1 s.2) (v1,0)).bind λv3=>
 bif(!v3)then((LM xA).bind λv4=>
 some (v4,q1))
 else((mk 1 false (ln xA.Knots)).bind λq2=>
 (Au (λs:List Bool×Int=>Fq xA a s.1 s.2) (q2,0)).bind λv7=>
 (mk 8 0 (ln xA.Knots)).bind λq3=>
 (Au (λs:List Int×Int×List BI=>Fp xA v7 s.1 s.2.1 s.2.2) (q3,0,[])).bind λv9=>
 (Au (λs:List Int×Int=>Fl v9 s.1 s.2) (q1,0)).bind λv10=>
 some ((Arena.mk v9.2),v10))
def Ib (xS:Store) (x1:Vol) (a:Int):Option ((Int)⊕((Unit)⊕((Int)⊕((Unit)⊕(Bool))))):=
 bif(decide (a<16))then((Mf xS.Arena x1.Root a).bind λv6=>
 bif(decide (v6>=xS.Next))then(some (.inr (.inr (.inr (.inr false)))))
 else(some (.inl (ad a 1))))
 else(some (.inr (.inl ())))
def Ic (xS:Store) (a:Int):Option ((Int)⊕((Unit)⊕(Bool))):=
 bif(decide (a<(ln xS.Vols)))then((gi xS.Vols a).bind λx1=>
 ((BY x1.Id 1 9).bind λv3=>
 bif(!v3)then(some true)
 else(bif(decide (a>0))then((gi xS.Vols (sb a 1)).bind λx2=>
 bif(decide (x2.Id>=x1.Id))then(some true)
 else((Hc xS.Arena x1.Root).bind λv4=>
 some (!v4)))
 else((Hc xS.Arena x1.Root).bind λv5=>
 some (!v5))):Option (Bool)).bind λj2=>
 bif j2 then(some (.inr (.inr false)))
 else((Au (λs:Int=>Ib xS x1 s) 0).bind (Sum.elim (λv7=>(some (.inl (ad a 1)))) some)))
 else(some (.inr (.inl ())))
def Nz (xS:Store):Option (Bool):=
 (bif(decide ((ln xS.Vols)>3))then(some true)
 else((Gt xS.Arena).bind λv1=>
 bif(!v1)then(some true)
 else((BY xS.Next 1 1000000000).bind λv2=>
 some (!v2))):Option (Bool)).bind λj1=>
 bif j1 then(some false)
 else((Au (λs:Int=>Ic xS s) 0).bind (Sum.elim (λv8=>(((Me xS).bind λv10=>
 (J7 xS.Arena v10).bind λv12=>
 some v12.1.Knots:Option (List BI)).bind λj3=>
 some ((ln j3)==(ln xS.Arena.Knots)))) some))
def Ke (xS:Store) (b:Int) (a:Int):Option ((Int)⊕((Unit)⊕(Int))):=
 bif(decide (a<(ln xS.Vols)))then((gi xS.Vols a).bind λx1=>
 bif(x1.Id==b)then(some (.inr (.inr a)))
 else(some (.inl (ad a 1))))
 else(some (.inr (.inl ())))
def Eq (xS:Store) (a:Int):Option (Int):=
 (Au (λs:Int=>Ke xS a s) 0).bind (Sum.elim (λv1=>(some (-1))) some)
def GF (xS:Store) (xR:Ds) (a:List Vol) (b:Int):Option ((List Vol×Int)⊕(List Vol)):=
 bif(decide (b<(ln xS.Vols)))then((gi xS.Vols b).bind λx2=>
 bif(decide (x2.Id<xR.Vol))then((gi xS.Vols b).bind λx3=>
 (ap 16 a [x3]).bind λq1=>
 some (.inl (q1,(ad b 1))))
 else(some (.inl (a,(ad b 1)))))
 else(some (.inr a))
def GE (xS:Store) (xR:Ds) (a:List Vol) (b:Int):Option ((List Vol×Int)⊕(List Vol)):=
 bif(decide (b<(ln xS.Vols)))then((gi xS.Vols b).bind λx4=>
 bif(decide (x4.Id>xR.Vol))then((gi xS.Vols b).bind λx5=>
 (ap 16 a [x5]).bind λq3=>
 some (.inl (q3,(ad b 1))))
 else(some (.inl (a,(ad b 1)))))
 else(some (.inr a))
def F9 (xS:Store) (xR:Ds):Option (Store×Bool):=
 (bif(decide (xR.Arg>0))then((Eq xS xR.Arg).bind λv1=>
 bif(decide (v1<0))then((DZ xS).bind λv2=>
 some (.inr (v2,false)))
 else((gi xS.Vols v1).bind λx1=>
 some (.inl x1.Root)))
 else(some (.inl (-1))):Option ((Int)⊕((Store×Bool)))).bind (Sum.elim (λj1=>(((Eq xS xR.Vol).bind λv3=>
 bif(decide (v3>=0))then(some true)
 else(some ((ln xS.Vols)==3)):Option (Bool)).bind λj2=>
 bif j2 then((DZ xS).bind λv4=>
 some (v4,false))
 else((DZ xS).bind λv5=>
 (Au (λs:List Vol×Int=>GF xS xR s.1 s.2) ([],0)).bind λv6=>
 (ap 16 v6 [(Vol.mk xR.Vol j1)]).bind λq2=>
 (Au (λs:List Vol×Int=>GE xS xR s.1 s.2) (q2,0)).bind λv7=>
 some ((Store.mk v7 v5.Arena v5.Next),true)))) some)
def I7 (j1:List Int×List BI) (b:Int) (a:List Vol):Option ((Int×List Vol)⊕(List Vol)):=
 bif(decide (b<(ln a)))then((gi j1.1 b).bind λx1=>
 (gi a b).bind λx2=>
 some (.inl ((ad b 1),(si a b (Vol.mk x2.Id x1)))))
 else(some (.inr a))
def GP (xS:Store):Option (Store):=
 ((Me xS).bind λv2=>
 (J7 xS.Arena v2).bind λv4=>
 some (v4.2,v4.1.Knots):Option (List Int×List BI)).bind λj1=>
 ((ap 16 [] xS.Vols).bind λq1=>
 some q1:Option (List Vol)).bind λj2=>
 (Au (λs:Int×List Vol=>I7 j1 s.1 s.2) (0,j2)).bind λv8=>
 some (Store.mk v8 (Arena.mk j1.2) xS.Next)
def Vx (xA:Arena) (b:Int) (a:Int) (xN:Int):Option (Arena×Int):=
 (LM xA).bind λv1=>
 ((Gt xA).bind λv2=>
 bif(!v2)then(some true)
 else((Hc xA b).bind λv3=>
 bif(!v3)then(some true)
 else((BY a 0 15).bind λv4=>
 bif(!v4)then(some true)
 else(some (decide (xN<0))))):Option (Bool)).bind λj1=>
 bif j1 then(some (v1,b))
 else((mk 8 0 4).bind λq1=>
 (bif(decide (b>=0))then((gi xA.Knots b).bind λx1=>
 (ap 8 [] x1.Kids).bind λq2=>
 (gi q2 (qu a 4)).bind λx2=>
 bif(decide (x2>=0))then((gi xA.Knots x2).bind λx3=>
 (ap 8 [] x3.Kids).bind λq3=>
 some (q3,q2))
 else(some (q1,q2)))
 else(some (q1,[(-1),(-1),(-1),(-1)])):Option (List Int×List Int)).bind λj2=>
 (gi j2.1 (Int.tmod a 4)).bind λx4=>
 (gi j2.2 (qu a 4)).bind λx5=>
 (ap 32 v1.Knots [(BI.mk true (si j2.1 (Int.tmod a 4) xN)),(BI.mk false (si j2.2 (qu a 4) (ln v1.Knots)))]).bind λq4=>
 some ((Arena.mk q4),(sb (ln q4) 1)))
def Q3 (xS:Store) (xR:Ds):Option (Store×Bool):=
 ((Nz xS).bind λv1=>
 bif(!v1)then(some true)
 else((MJ xR).bind λv2=>
 some (!v2)):Option (Bool)).bind λj1=>
 bif j1 then((DZ xS).bind λv3=>
 some (v3,false))
 else(bif(xR.Kind==1)then((bif(xR.Arg==0)then(some 1)
 else(some xR.Arg):Option (Int)).bind λj2=>
 some ((Store.mk [] (Arena.mk []) j2),true))
 else(bif(xR.Kind==2)then((F9 xS xR).bind λv4=>
 some (v4.1,v4.2))
 else((Eq xS xR.Vol).bind λv5=>
 (bif(decide (v5<0))then(some true)
 else(some (xR.Chunk==1000000000)):Option (Bool)).bind λj3=>
 bif j3 then((DZ xS).bind λv6=>
 some (v6,false))
 else((DZ xS).bind λv7=>
 bif(xR.Kind==3)then((dr xS.Vols 0 v5).bind λx1=>
 (dr xS.Vols (ad v5 1) (ln xS.Vols)).bind λx2=>
 (ap 16 [] x1).bind λq1=>
 (ap 16 q1 x2).bind λq2=>
 (GP (Store.mk q2 v7.Arena v7.Next)).bind λv8=>
 some (v8,true))
 else(((gi xS.Vols v5).bind λx3=>
 (Vx xS.Arena x3.Root xR.Arg xR.Chunk).bind λv10=>
 some (v10.2,v10.1.Knots):Option (Int×List BI)).bind λj4=>
 (gi v7.Vols v5).bind λx4=>
 bif(decide (xR.Chunk>=v7.Next))then((GP (Store.mk (si v7.Vols v5 (Vol.mk x4.Id j4.1)) (Arena.mk j4.2) (ad xR.Chunk 1))).bind λv12=>
 some (v12,true))
 else((GP (Store.mk (si v7.Vols v5 (Vol.mk x4.Id j4.1)) (Arena.mk j4.2) v7.Next)).bind λv13=>
 some (v13,true)))))))
def DE (xS:Store) (d:List Ds) (e:Int) (a:List Vol) (b:List BI) (c:Int):Option ((Int×List Vol×List BI×Int)⊕((List Vol×List BI×Int)⊕((Store×Bool)))):=
 bif(decide (e<(ln d)))then(((gi d e).bind λx1=>
 (Q3 (Store.mk a (Arena.mk b) c) x1).bind λv3=>
 some (v3.2,v3.1.Vols,v3.1.Arena.Knots,v3.1.Next):Option (Bool×List Vol×List BI×Int)).bind λj1=>
 bif(!j1.1)then((DZ xS).bind λv5=>
 some (.inr (.inr (v5,false))))
 else(some (.inl ((ad e 1),j1.2.1,j1.2.2.1,j1.2.2.2))))
 else(some (.inr (.inl (a,b,c))))
def Kk (xS:Store) (a:List Ds):Option (Store×Bool):=
 (DZ xS).bind λv1=>
 (Au (λs:Int×List Vol×List BI×Int=>DE xS a s.1 s.2.1 s.2.2.1 s.2.2.2) (0,v1.Vols,v1.Arena.Knots,v1.Next)).bind (Sum.elim (λv6=>(some ((Store.mk v6.1 (Arena.mk v6.2.1) v6.2.2),true))) some)
def Hg (v2:List A4) (a:Int) (b:Int) (c:Int):Option ((Int×Int×Int)⊕(Int×Int)):=
 bif(decide (a<(ln v2)))then((gi v2 a).bind λx1=>
 (bif(decide (x1.Page.Seq>=b))then((gi v2 a).bind λx2=>
 some (ad x2.Page.Seq 1))
 else(some b):Option (Int)).bind λj1=>
 ((gi v2 a).bind λx3=>
 bif(x3.Page.Kind==2)then((gi v2 a).bind λx4=>
 some (decide (x4.Page.Tx>=c)))
 else(some false):Option (Bool)).bind λj2=>
 bif j2 then((gi v2 a).bind λx5=>
 some (.inl ((ad a 1),j1,(ad x5.Page.Tx 1))))
 else(some (.inl ((ad a 1),j1,c))))
 else(some (.inr (b,c)))
def Dr (v7:List Tx) (a:Int) (b:List Vol) (c:List BI) (d:Int) (e:Int):Option ((Int×List Vol×List BI×Int×Int)⊕(List Vol×List BI×Int×Int)):=
 bif(decide (a<(ln v7)))then((bif(a==0)then((gi v7 a).bind λx6=>
 some x6.Num)
 else(some e):Option (Int)).bind λj3=>
 (gi v7 a).bind λx7=>
 (Kk (Store.mk b (Arena.mk c) d) x7.Recs).bind λv8=>
 some (.inl ((ad a 1),v8.1.Vols,v8.1.Arena.Knots,v8.1.Next,j3)))
 else(some (.inr (b,c,d,e)))
def CL (xF:Flash):Option (Ba×Bool):=
 (Hh xF).bind λv1=>
 bif(!v1)then(some ((Ba.mk (Flash.mk []) (Store.mk [] (Arena.mk []) 0) 0 0 0),false))
 else((Ft xF).bind λv2=>
 (Hd xF).bind λv3=>
 (Mh).bind λv4=>
 (Au (λs:Int×Int×Int=>Hg v2 s.1 s.2.1 s.2.2) (0,1,1)).bind λv5=>
 (PA v2).bind λv6=>
 (MI v6).bind λv7=>
 (Au (λs:Int×List Vol×List BI×Int×Int=>Dr v7 s.1 s.2.1 s.2.2.1 s.2.2.2.1 s.2.2.2.2) (0,v4.Vols,v4.Arena.Knots,v4.Next,0)).bind λv9=>
 some ((Ba.mk v3 (Store.mk v9.1 (Arena.mk v9.2.1) v9.2.2.1) v5.1 v5.2 v9.2.2.2),true))
def KY (a:Int):Option (Ba×Bool):=
 (Kj a).bind λv1=>
 bif(!v1.2)then(some ((Ba.mk (Flash.mk []) (Store.mk [] (Arena.mk []) 0) 0 0 0),false))
 else((CL v1.1).bind λv2=>
 some (v2.1,v2.2))
def L9 (xC:BN) (a:List Int):Option (Int×BN):=
 (DJ xC (ln a)).bind λv1=>
 (gi a v1.1).bind λx1=>
 some (x1,v1.2)
def Je (xC:BN) (xN:Int):Option (Bool×BN):=
 (DJ xC xN).bind λv1=>
 some ((v1.1==0),v1.2)
def Nx (xC:BN) (a:List ByteArray):Option (ByteArray×BN):=
 (DJ xC (ln a)).bind λv1=>
 (gi a v1.1).bind λx1=>
 some (x1,v1.2)
def Qu (xC:BN):Option (ByteArray×BN):=
 (Nx xC [(bs []),(bs [97]),(bs [98,98]),(bs [97,98,99,100,97,98,99,100,97,98,99,100]),(bs [104,101,108,108,111]),(bs [104,101,108,108,111,32,104,101,108,108,111,32,104,101,108,108,111]),(bs [122,122,122,122,122,122,122,122,122,122,122,122]),(bs [113,49]),(bs [113,50]),(bs [113,51])]).bind λv1=>
 some (v1.1,v1.2)
def Qv (xC:BN) (xD:Ba):Option (cC×BN):=
 (L9 xC [1,1,1,1,1,1,2,3,4,5,6]).bind λv1=>
 (DJ v1.2 3).bind λv2=>
 (bif((ln xD.Store.Vols)==0)then(some (3,(ad 1 v2.1),v2.2.b_,v2.2.i_,v2.2.h_))
 else((bif(v1.1 !=3)then(bif(v1.1 !=4)then((Je v2.2 8).bind λv3=>
 some ((!v3.1),v3.2.b_,v3.2.i_,v3.2.h_))
 else(some (false,v2.2.b_,v2.2.i_,v2.2.h_)))
 else(some (false,v2.2.b_,v2.2.i_,v2.2.h_)):Option (Bool×List Int×Int×Int)).bind λj2=>
 bif j2.1 then((DJ (BN.mk j2.2.1 j2.2.2.1 j2.2.2.2) (ln xD.Store.Vols)).bind λv7=>
 (gi xD.Store.Vols v7.1).bind λx1=>
 some (v1.1,x1.Id,v7.2.b_,v7.2.i_,v7.2.h_))
 else(some (v1.1,(ad 1 v2.1),j2.2.1,j2.2.2.1,j2.2.2.2))):Option (Int×Int×List Int×Int×Int)).bind λj1=>
 (bif(j1.1==5)then((Je (BN.mk j1.2.2.1 j1.2.2.2.1 j1.2.2.2.2) 3).bind λv11=>
 some ((!v11.1),v11.2.b_,v11.2.i_,v11.2.h_))
 else(some (false,j1.2.2.1,j1.2.2.2.1,j1.2.2.2.2)):Option (Bool×List Int×Int×Int)).bind λj3=>
 (bif j3.1 then(some 1)
 else(some j1.1):Option (Int)).bind λj4=>
 (bif(j4==1)then((Qu (BN.mk j3.2.1 j3.2.2.1 j3.2.2.2)).bind λv12=>
 (DJ v12.2 16).bind λv13=>
 some (v13.1,0,v12.1,v13.2.b_,v13.2.i_,v13.2.h_))
 else((bif(j4==2)then(some (j4==2))
 else(some (j4==6)):Option (Bool)).bind λj6=>
 bif j6 then((DJ (BN.mk j3.2.1 j3.2.2.1 j3.2.2.2) 16).bind λv14=>
 some (v14.1,0,(bs []),v14.2.b_,v14.2.i_,v14.2.h_))
 else(bif(j4==4)then((DJ (BN.mk j3.2.1 j3.2.2.1 j3.2.2.2) 3).bind λv15=>
 bif(decide ((ln xD.Store.Vols)>0))then((gi xD.Store.Vols 0).bind λx5=>
 some (0,x5.Id,(bs []),v15.2.b_,v15.2.i_,v15.2.h_))
 else(some (0,(ad 1 v15.1),(bs []),v15.2.b_,v15.2.i_,v15.2.h_)))
 else(some (0,0,(bs []),j3.2.1,j3.2.2.1,j3.2.2.2)))):Option (Int×Int×ByteArray×List Int×Int×Int)).bind λj5=>
 some ((cC.mk j4 j1.2.1 j5.1 j5.2.1 j5.2.2.1),(BN.mk j5.2.2.2.1 j5.2.2.2.2.1 j5.2.2.2.2.2))
def Nv (xD:Ba):Option (Ba):=
 (Hd xD.Flash).bind λv1=>
 (DZ xD.Store).bind λv2=>
 some (Ba.mk v1 v2 xD.Seq xD.Tx xD.Base)
def Oo (xA:Arena) (b:Int) (a:Int):Option (Int):=
 ((Gt xA).bind λv1=>
 bif(!v1)then(some true)
 else((Hc xA b).bind λv2=>
 bif(!v2)then(some true)
 else((BY a 0 15).bind λv3=>
 some (!v3))):Option (Bool)).bind λj1=>
 bif j1 then(some 0)
 else((Mf xA b a).bind λv4=>
 some v4)
def GQ (xA:Arena) (b:Int) (a:List Int) (c:Int):Option ((List Int×Int)⊕(List Int)):=
 bif(decide (c<16))then((Oo xA b c).bind λv1=>
 (ap 8 a [v1]).bind λq1=>
 some (.inl (q1,(ad c 1))))
 else(some (.inr a))
def IN (xA:Arena) (a:Int):Option (List Int):=
 (Au (λs:List Int×Int=>GQ xA a s.1 s.2) ([],0)).bind λv2=>
 some v2
def Gj (xA:List Int) (xB:List Int) (a:Int):Option ((Int)⊕((Unit)⊕(Bool))):=
 bif(decide (a<(ln xA)))then((gi xA a).bind λx1=>
 (gi xB a).bind λx2=>
 bif(x1 !=x2)then(some (.inr (.inr false)))
 else(some (.inl (ad a 1))))
 else(some (.inr (.inl ())))
def K4 (xA:List Int) (xB:List Int):Option (Bool):=
 bif((ln xA) !=(ln xB))then(some false)
 else((Au (λs:Int=>Gj xA xB s) 0).bind (Sum.elim (λv1=>(some true)) some))
def HE (xA:Store) (xB:Store) (a:Int):Option ((Int)⊕((Unit)⊕(Bool))):=
 bif(decide (a<(ln xA.Vols)))then((gi xA.Vols a).bind λx1=>
 (gi xB.Vols a).bind λx2=>
 bif(x1.Id !=x2.Id)then(some (.inr (.inr false)))
 else((gi xA.Vols a).bind λx3=>
 (gi xB.Vols a).bind λx4=>
 (IN xA.Arena x3.Root).bind λv1=>
 (IN xB.Arena x4.Root).bind λv2=>
 (K4 v1 v2).bind λv3=>
 bif(!v3)then(some (.inr (.inr false)))
 else(some (.inl (ad a 1)))))
 else(some (.inr (.inl ())))
def KO (xA:Store) (xB:Store):Option (Bool):=
 (bif((ln xA.Vols) !=(ln xB.Vols))then(some true)
 else(some (xA.Next !=xB.Next)):Option (Bool)).bind λj1=>
 bif j1 then(some false)
 else((Au (λs:Int=>HE xA xB s) 0).bind (Sum.elim (λv4=>(some true)) some))
def Or (xD:Ba):Option (Bool):=
 (CL xD.Flash).bind λv1=>
 bif v1.2 then((KO v1.1.Store xD.Store).bind λv2=>
 bif v2 then(bif(v1.1.Seq==xD.Seq)then(bif(v1.1.Tx==xD.Tx)then(bif(v1.1.Base==xD.Base)then((Nz xD.Store).bind λv3=>
 some v3)
 else(some false))
 else(some false))
 else(some false))
 else(some false))
 else(some false)
def HC (a:List Int) (xX:Int) (b:List Int) (c:Int):Option ((List Int×Int)⊕(List Int)):=
 bif(decide (c<(ln a)))then((gi a c).bind λx1=>
 bif(decide (x1<xX))then((gi a c).bind λx2=>
 (ap 8 b [x2]).bind λq1=>
 some (.inl (q1,(ad c 1))))
 else(some (.inl (b,(ad c 1)))))
 else(some (.inr b))
def Gk (a:List Int) (xX:Int) (b:List Int) (c:Int):Option ((List Int×Int)⊕(List Int)):=
 bif(decide (c<(ln a)))then((gi a c).bind λx3=>
 bif(decide (x3>xX))then((gi a c).bind λx4=>
 (ap 8 b [x4]).bind λq3=>
 some (.inl (q3,(ad c 1))))
 else(some (.inl (b,(ad c 1)))))
 else(some (.inr b))
def MG (a:List Int) (xX:Int):Option (List Int):=
 (Au (λs:List Int×Int=>HC a xX s.1 s.2) ([],0)).bind λv1=>
 (bif(decide (xX>0))then((ap 8 v1 [xX]).bind λq2=>
 some q2)
 else(some v1):Option (List Int)).bind λj1=>
 (Au (λs:List Int×Int=>Gk a xX s.1 s.2) (j1,0)).bind λv2=>
 some v2
def KS (v1:List Int) (a:List Int) (b:Int):Option ((List Int×Int)⊕(List Int)):=
 bif(decide (b<(ln v1)))then((gi v1 b).bind λx2=>
 (MG a x2).bind λv2=>
 some (.inl (v2,(ad b 1))))
 else(some (.inr a))
def KT (xS:Store) (a:List Int) (b:Int):Option ((List Int×Int)⊕(List Int)):=
 bif(decide (b<(ln xS.Vols)))then((gi xS.Vols b).bind λx1=>
 (IN xS.Arena x1.Root).bind λv1=>
 (Au (λs:List Int×Int=>KS v1 s.1 s.2) (a,0)).bind λv3=>
 some (.inl (v3,(ad b 1))))
 else(some (.inr a))
def KU (xS:Store):Option (List Int):=
 (Au (λs:List Int×Int=>KT xS s.1 s.2) ([],0)).bind λv4=>
 some v4
def H8 (a:List A4) (c:Int) (b:Int):Option ((Int)⊕((Unit)⊕((A4×Bool)))):=
 bif(decide (b>=0))then(((gi a b).bind λx1=>
 bif(x1.Page.Kind==1)then((gi a b).bind λx2=>
 some (x2.Page.Tx==c))
 else(some false):Option (Bool)).bind λj1=>
 bif j1 then((gi a b).bind λx3=>
 some (.inr (.inr (x3,true))))
 else(some (.inl (sb b 1))))
 else(some (.inr (.inl ())))
def KL (a:List A4) (b:Int):Option (A4×Bool):=
 (Au (λs:Int=>H8 a b s) (sb (ln a) 1)).bind (Sum.elim (λv1=>(some ((A4.mk 0 0 (Page.mk 0 0 0 0 0 (bs []))),false))) some)
def Cd (xT:ByteArray) (b:List Bj) (a:Int):Option ((List Bj×Int)⊕((List Bj)⊕((List Bj×Bool)))):=
 bif(decide (a<(Gb xT)))then((sx xT a).bind λx1=>
 bif(decide ((IntKind.i64.wrap x1)>128))then(bif(decide ((ad a 2)>(Gb xT)))then(some (.inr (.inr (b,false))))
 else((sx xT (ad a 1)).bind λx2=>
 (ap 32 b [(Bj.mk (IntKind.i64.wrap x2) (sb (IntKind.i64.wrap x1) 128) (bs []))]).bind λq1=>
 some (.inl (q1,(ad a 2)))))
 else(bif(decide ((ad (ad a 1) (IntKind.i64.wrap x1))>(Gb xT)))then(some (.inr (.inr (b,false))))
 else((sub xT (ad a 1) (ad (ad a 1) (IntKind.i64.wrap x1))).bind λx3=>
 (ap 32 b [(Bj.mk 0 0 x3)]).bind λq2=>
 some (.inl (q2,(ad (ad a 1) (IntKind.i64.wrap x1)))))))
 else(some (.inr (.inl b)))
def Jd (xT:ByteArray):Option (List Bj×Bool):=
 (Au (λs:List Bj×Int=>Cd xT s.1 s.2) ([],0)).bind (Sum.elim (λv1=>(some (v1,true))) some)
def DU (x1:Bj) (a:List Int) (b:Int):Option ((List Int×Int)⊕(List Int)):=
 bif(decide (b<x1.Size))then((gi a (sb (ln a) x1.Back)).bind λx2=>
 (ap 1 a [x2]).bind λq2=>
 some (.inl (q2,(ad b 1))))
 else(some (.inr a))
def DV (b:List Bj) (a:List Int) (c:Int):Option ((List Int×Int)⊕((List Int)⊕((ByteArray×Bool)))):=
 bif(decide (c<(ln b)))then((gi b c).bind λx1=>
 (bif(x1.Back==0)then(((BY (Gb x1.Text) 1 31).bind λv1=>
 bif(!v1)then(some true)
 else(some (x1.Size !=0)):Option (Bool)).bind λj2=>
 bif j2 then(some (.inr (.inr (.inr ((bs []),false)))))
 else((ap 1 a (gP x1.Text)).bind λq1=>
 some (.inl q1)))
 else(((BY x1.Back 1 (ln a)).bind λv2=>
 bif(!v2)then(some true)
 else((BY x1.Size 1 31).bind λv3=>
 bif(!v3)then(some true)
 else(some (!(seq x1.Text (bs []))))):Option (Bool)).bind λj3=>
 bif j3 then(some (.inr (.inr (.inr ((bs []),false)))))
 else((Au (λs:List Int×Int=>DU x1 s.1 s.2) (a,0)).bind λv4=>
 some (.inl v4))):Option ((List Int)⊕((List Int×Int)⊕((List Int)⊕((ByteArray×Bool)))))).bind (Sum.elim (λj1=>(bif(decide ((ln j1)>64))then(some (.inr (.inr ((bs []),false))))
 else(some (.inl (j1,(ad c 1)))))) some))
 else(some (.inr (.inl a)))
def Fu (a:List Bj):Option (ByteArray×Bool):=
 (Au (λs:List Int×Int=>DV a s.1 s.2) ([],0)).bind (Sum.elim (λv5=>(some ((Hz v5),true))) some)
def He (xS:ByteArray) (b:Int) (c:Int) (a:Int):Option ((Int)⊕(Int)):=
 (bif(decide (a<31))then(bif(decide ((ad c a)<(Gb xS)))then((sx xS (ad b a)).bind λx1=>
 (sx xS (ad c a)).bind λx2=>
 some (x1==x2))
 else(some false))
 else(some false):Option (Bool)).bind λj1=>
 bif j1 then(some (.inl (ad a 1)))
 else(some (.inr a))
def Mg (xS:ByteArray) (a:Int) (b:Int):Option (Int):=
 (Au (λs:Int=>He xS a b s) 0).bind λv1=>
 some v1
def Er (xS:ByteArray) (d:Int) (b:Int) (c:Int) (a:Int):Option ((Int×Int×Int)⊕(Int×Int)):=
 bif(decide (a>=0))then((Mg xS a d).bind λv1=>
 (bif(decide (v1>=4))then(some (decide (v1>b)))
 else(some false):Option (Bool)).bind λj1=>
 bif j1 then(some (.inl (v1,(sb d a),(sb a 1))))
 else(some (.inl (b,c,(sb a 1)))))
 else(some (.inr (b,c)))
def Cu (xS:ByteArray) (a:List Bj) (b:Int):Option ((List Bj×Int)⊕(List Bj)):=
 bif(decide (b<(Gb xS)))then((Au (λs:Int×Int×Int=>Er xS b s.1 s.2.1 s.2.2) (0,0,(sb b 1))).bind λv2=>
 bif(decide (v2.1>0))then((ap 32 a [(Bj.mk v2.2 v2.1 (bs []))]).bind λq1=>
 some (.inl (q1,(ad b v2.1))))
 else((bif(decide ((sb (ln a) 1)>=0))then((gi a (sb (ln a) 1)).bind λx1=>
 bif(x1.Back==0)then((gi a (sb (ln a) 1)).bind λx2=>
 some (decide ((Gb x2.Text)<31)))
 else(some false))
 else(some false):Option (Bool)).bind λj2=>
 bif j2 then((gi a (sb (ln a) 1)).bind λx3=>
 (sub xS b (ad b 1)).bind λx4=>
 (Ty x3.Text x4).bind λx5=>
 (gi a (sb (ln a) 1)).bind λx6=>
 some (.inl ((si a (sb (ln a) 1) (Bj.mk x6.Back x6.Size x5)),(ad b 1))))
 else((sub xS b (ad b 1)).bind λx7=>
 (ap 32 a [(Bj.mk 0 0 x7)]).bind λq2=>
 some (.inl (q2,(ad b 1))))))
 else(some (.inr a))
def Ki (xS:ByteArray):Option (List Bj):=
 bif(decide ((Gb xS)>64))then(some [])
 else((Au (λs:List Bj×Int=>Cu xS s.1 s.2) ([],0)).bind λv3=>
 some v3)
def Et (v1:List Bj) (b:ByteArray) (a:Int):Option ((ByteArray×Int)⊕(ByteArray)):=
 bif(decide (a<(ln v1)))then((gi v1 a).bind λx1=>
 bif(x1.Back==0)then((Ty b (Hz [(IntKind.u8.wrap (Gb x1.Text))])).bind λx2=>
 (Ty x2 x1.Text).bind λx3=>
 some (.inl (x3,(ad a 1))))
 else((Ty b (Hz [(IntKind.u8.wrap (ad 128 x1.Size)),(IntKind.u8.wrap x1.Back)])).bind λx4=>
 some (.inl (x4,(ad a 1)))))
 else(some (.inr b))
def E7 (xS:ByteArray):Option (ByteArray×Bool):=
 bif(decide ((Gb xS)>64))then(some ((bs []),false))
 else((Ki xS).bind λv1=>
 (Au (λs:ByteArray×Int=>Et v1 s.1 s.2) ((bs [122]),0)).bind λv2=>
 bif(decide ((ad (Gb xS) 1)<=(Gb v2)))then((Ty (bs [114]) xS).bind λx5=>
 some (x5,true))
 else(some (v2,true)))
def FD (xT:ByteArray):Option (ByteArray×Bool):=
 bif((Gb xT)==0)then(some ((bs []),false))
 else((sub xT 1 (Gb xT)).bind λx1=>
 (sx xT 0).bind λx2=>
 (bif(x2==122)then((sub xT 1 (Gb xT)).bind λx3=>
 (Jd x3).bind λv1=>
 (Fu v1.1).bind λv2=>
 bif(!v1.2)then(some (.inr ((bs []),false)))
 else(bif(!v2.2)then(some (.inr ((bs []),false)))
 else(some (.inl v2.1))))
 else(some (.inl x1)):Option ((ByteArray)⊕((ByteArray×Bool)))).bind (Sum.elim (λj1=>((E7 j1).bind λv3=>
 (bif(!v3.2)then(some true)
 else(some (!(seq v3.1 xT))):Option (Bool)).bind λj2=>
 bif j2 then(some ((bs []),false))
 else(some (j1,true)))) some))
def Nw (b:List A4) (a:Int):Option (ByteArray×Bool):=
 (KL b a).bind λv1=>
 bif(!v1.2)then(some ((bs []),false))
 else((FD v1.1.Page.Text).bind λv2=>
 some (v2.1,v2.2))
def HX (c:List A4) (a:List Int) (d:ByteArray) (b:Int):Option ((Int)⊕((Unit)⊕(Int))):=
 bif(decide (b<(ln a)))then((gi a b).bind λx1=>
 (Nw c x1).bind λv1=>
 (bif v1.2 then(some (seq v1.1 d))
 else(some false):Option (Bool)).bind λj1=>
 bif j1 then((gi a b).bind λx2=>
 some (.inr (.inr x2)))
 else(some (.inl (ad b 1))))
 else(some (.inr (.inl ())))
def T9 (a:List A4) (b:List Int) (c:ByteArray):Option (Int):=
 (Au (λs:Int=>HX a b c s) 0).bind (Sum.elim (λv2=>(some 0)) some)
def Oq (xF:Flash) (a:List Int) (b:ByteArray):Option (Int):=
 (Ft xF).bind λv1=>
 (T9 v1 a b).bind λv2=>
 some v2
def Mj (xD:Ba) (xQ:cC):Option (List Ds×ByteArray×Int):=
 (Vy xQ).bind λv1=>
 bif(!v1)then(some ([],(bs []),3))
 else((Eq xD.Store xQ.Vol).bind λv2=>
 (bif(xQ.Kind==3)then(some true)
 else(some (xQ.Kind==4)):Option (Bool)).bind λj1=>
 bif j1 then(bif(decide (v2>=0))then(some ([],(bs []),2))
 else((bif(xQ.Kind==4)then((Eq xD.Store xQ.Of).bind λv3=>
 some (decide (v3<0)))
 else(some false):Option (Bool)).bind λj2=>
 bif j2 then(some ([],(bs []),1))
 else(bif(decide ((ln xD.Store.Vols)>=3))then(some ([],(bs []),4))
 else(some ([(Ds.mk 2 xQ.Vol xQ.Of 0)],(bs []),0)))))
 else(bif(!(decide (v2>=0)))then(some ([],(bs []),1))
 else(bif(xQ.Kind==1)then((KU xD.Store).bind λv4=>
 (Oq xD.Flash v4 xQ.Text).bind λv5=>
 (bif(v5==0)then((E7 xQ.Text).bind λv6=>
 some (xD.Store.Next,v6.1))
 else(some (v5,(bs []))):Option (Int×ByteArray)).bind λj3=>
 some ([(Ds.mk 4 xQ.Vol xQ.Sector j3.1)],j3.2,0))
 else(bif(xQ.Kind==2)then(some ([(Ds.mk 5 xQ.Vol xQ.Sector 0)],(bs []),0))
 else(bif(xQ.Kind==5)then(some ([(Ds.mk 3 xQ.Vol 0 0)],(bs []),0))
 else(some ([],(bs []),0)))))))
def N3 (xS:Store) (b:Int) (a:Int):Option (Int):=
 (Eq xS b).bind λv1=>
 bif(decide (v1<0))then(some 0)
 else((gi xS.Vols v1).bind λx1=>
 (Oo xS.Arena x1.Root a).bind λv2=>
 some v2)
def LL (c:List A4) (xS:Store) (b:Int) (a:Int):Option (ByteArray×Bool):=
 (Eq xS b).bind λv1=>
 bif(decide (v1<0))then(some ((bs []),false))
 else((N3 xS b a).bind λv2=>
 bif(v2==0)then(some ((bs []),true))
 else((Nw c v2).bind λv3=>
 some (v3.1,v3.2)))
def Wr (xD:Ba) (b:Int) (a:Int):Option (ByteArray×Bool):=
 (Ft xD.Flash).bind λv1=>
 (LL v1 xD.Store b a).bind λv2=>
 some (v2.1,v2.2)
def KP (xF:Flash) (c:Int) (b:Int) (a:Int):Option ((Int×Int)⊕(Int)):=
 (gi xF.Blocks c).bind λx1=>
 bif(decide (a<(ln x1.Leaves)))then((gi xF.Blocks c).bind λx2=>
 bif(!x2.Bad)then((gi xF.Blocks c).bind λx3=>
 (gi x3.Leaves a).bind λx4=>
 bif(x4.Is==0)then(some (.inl ((ad b 1),(ad a 1))))
 else(some (.inl (b,(ad a 1)))))
 else(some (.inl (b,(ad a 1)))))
 else(some (.inr b))
def KQ (xF:Flash) (b:Int) (a:Int):Option ((Int×Int)⊕(Int)):=
 bif(decide (a<(ln xF.Blocks)))then((Au (λs:Int×Int=>KP xF a s.1 s.2) (b,0)).bind λv1=>
 some (.inl (v1,(ad a 1))))
 else(some (.inr b))
def Mi (xF:Flash):Option (Int):=
 (Au (λs:Int×Int=>KQ xF s.1 s.2) (0,0)).bind λv2=>
 some v2
def HA (c:List A4) (d:Int) (a:List Bool) (b:Int):Option ((List Bool×Int)⊕(List Bool)):=
 bif(decide (b<(ln c)))then((gi c b).bind λx1=>
 bif(x1.Page.Kind==2)then((gi c b).bind λx2=>
 (gi a b).bind λx3=>
 some (.inl ((si a b (decide (x2.Page.Tx>=d))),(ad b 1))))
 else((gi a b).bind λx4=>
 some (.inl ((si a b false),(ad b 1)))))
 else(some (.inr a))
def EO (c:List A4) (d:List Int) (e:Int) (a:List Bool) (b:Int):Option ((List Bool×Int)⊕(List Bool)):=
 bif(decide (b>=0))then(((gi c b).bind λx5=>
 bif(x5.Page.Kind==1)then((gi c b).bind λx6=>
 (gi d e).bind λx7=>
 some (x6.Page.Tx==x7))
 else(some false):Option (Bool)).bind λj1=>
 bif j1 then((gi a b).bind λx8=>
 some (.inl ((si a b true),(sb (-1) 1))))
 else(some (.inl (a,(sb b 1)))))
 else(some (.inr a))
def H9 (a:List A4) (b:List Int) (c:List Bool) (d:Int):Option ((List Bool×Int)⊕(List Bool)):=
 bif(decide (d<(ln b)))then((Au (λs:List Bool×Int=>EO a b d s.1 s.2) (c,(sb (ln a) 1))).bind λv2=>
 some (.inl (v2,(ad d 1))))
 else(some (.inr c))
def HB (a:List A4) (b:List Int) (c:Int):Option (List Bool):=
 (mk 1 false (ln a)).bind λq1=>
 (Au (λs:List Bool×Int=>HA a c s.1 s.2) (q1,0)).bind λv1=>
 (Au (λs:List Bool×Int=>H9 a b s.1 s.2) (v1,0)).bind λv3=>
 some v3
def I4 (xB:Block) (a:Int):Option ((Int)⊕((Unit)⊕(Bool))):=
 bif(decide (a<(ln xB.Leaves)))then((gi xB.Leaves a).bind λx1=>
 bif(x1.Is !=0)then(some (.inr (.inr false)))
 else(some (.inl (ad a 1))))
 else(some (.inr (.inl ())))
def Od (xB:Block):Option (Bool):=
 (Au (λs:Int=>I4 xB s) 0).bind (Sum.elim (λv1=>(some true)) some)
def Md (b:List A4) (c:List Bool) (xB:Int) (d:Int) (a:Int):Option ((Int×Int)⊕(Int)):=
 bif(decide (a<(ln b)))then((gi c a).bind λx1=>
 bif x1 then((gi b a).bind λx2=>
 bif(x2.Block==xB)then(some (.inl ((ad d 1),(ad a 1))))
 else(some (.inl (d,(ad a 1)))))
 else(some (.inl (d,(ad a 1)))))
 else(some (.inr d))
def Qw (b:List A4) (a:List Bool) (xB:Int):Option (Int):=
 (Au (λs:Int×Int=>Md b a xB s.1 s.2) (0,0)).bind λv1=>
 some v1
def Fw (xD:Ba) (v1:List A4) (v3:List Bool) (a:List Int) (b:Int):Option ((List Int×Int)⊕(List Int)):=
 bif(decide (b<(ln xD.Flash.Blocks)))then((gi xD.Flash.Blocks b).bind λx1=>
 (bif(!x1.Bad)then((Od x1).bind λv4=>
 bif(!v4)then((Qw v1 v3 b).bind λv5=>
 some (v5==0))
 else(some false))
 else(some false):Option (Bool)).bind λj1=>
 bif j1 then((ap 8 a [b]).bind λq1=>
 some (.inl (q1,(ad b 1))))
 else(some (.inl (a,(ad b 1)))))
 else(some (.inr a))
def LC (xD:Ba):Option (List Int):=
 (Ft xD.Flash).bind λv1=>
 (KU xD.Store).bind λv2=>
 (HB v1 v2 xD.Base).bind λv3=>
 (Au (λs:List Int×Int=>Fw xD v1 v3 s.1 s.2) ([],0)).bind λv6=>
 some v6
def Ha (xD:Ba) (v2:List Tx) (a:Int):Option ((Int)⊕((Unit)⊕(Bool))):=
 bif(decide (a<(ln v2)))then((gi v2 a).bind λx1=>
 bif(x1.Num==xD.Base)then((gi v2 a).bind λx2=>
 bif(decide ((ln x2.Recs)>0))then((gi v2 a).bind λx3=>
 (gi x3.Recs 0).bind λx4=>
 some (.inr (.inr (x4.Kind==1))))
 else(some (.inr (.inr false))))
 else(some (.inl (ad a 1))))
 else(some (.inr (.inl ())))
def Oe (xD:Ba):Option (Bool):=
 bif(xD.Base !=(sb xD.Tx 1))then(some false)
 else((Ft xD.Flash).bind λv1=>
 (PA v1).bind λv2=>
 (Au (λs:Int=>Ha xD v2 s) 0).bind (Sum.elim (λv3=>(some false)) some))
def Hj (xS:Store) (c:Int) (v1:List Int) (a:List Ds) (b:Int):Option ((List Ds×Int)⊕(List Ds)):=
 bif(decide (b<(ln v1)))then((gi v1 b).bind λx3=>
 bif(decide (x3>0))then((gi xS.Vols c).bind λx4=>
 (gi v1 b).bind λx5=>
 (ap 32 a [(Ds.mk 4 x4.Id b x5)]).bind λq2=>
 some (.inl (q2,(ad b 1))))
 else(some (.inl (a,(ad b 1)))))
 else(some (.inr a))
def Hk (xS:Store) (a:List Ds) (b:Int):Option ((List Ds×Int)⊕(List Ds)):=
 bif(decide (b<(ln xS.Vols)))then((gi xS.Vols b).bind λx1=>
 (ap 32 a [(Ds.mk 2 x1.Id 0 0)]).bind λq1=>
 (gi xS.Vols b).bind λx2=>
 (IN xS.Arena x2.Root).bind λv1=>
 (Au (λs:List Ds×Int=>Hj xS b v1 s.1 s.2) (q1,0)).bind λv2=>
 some (.inl (v2,(ad b 1))))
 else(some (.inr a))
def Ou (xS:Store):Option (List Ds):=
 (Au (λs:List Ds×Int=>Hk xS s.1 s.2) ([(Ds.mk 1 0 xS.Next 0)],0)).bind λv3=>
 some v3
def Gn (xF:Flash) (d:Int) (b:Int) (c:Int) (a:Int):Option ((Int×Int×Int)⊕(Int×Int)):=
 (gi xF.Blocks d).bind λx1=>
 bif(decide (a<(ln x1.Leaves)))then((gi xF.Blocks d).bind λx2=>
 (gi x2.Leaves a).bind λx3=>
 bif(x3.Is==0)then(some (.inl ((ad b 1),c,(ad a 1))))
 else(some (.inl (b,(ad c 1),(ad a 1)))))
 else(some (.inr (b,c)))
def Gp (xF:Flash) (a:Int):Option ((Int)⊕((Unit)⊕(Int))):=
 bif(decide (a<(ln xF.Blocks)))then((Au (λs:Int×Int×Int=>Gn xF a s.1 s.2.1 s.2.2) (0,0,0)).bind λv1=>
 ((gi xF.Blocks a).bind λx4=>
 bif(!x4.Bad)then(bif(decide (v1.1>0))then(some (decide (v1.2>0)))
 else(some false))
 else(some false):Option (Bool)).bind λj1=>
 bif j1 then(some (.inr (.inr a)))
 else(some (.inl (ad a 1))))
 else(some (.inr (.inl ())))
def MK (xF:Flash):Option (Int):=
 (Au (λs:Int=>Gp xF s) 0).bind (Sum.elim (λv2=>(some (-1))) some)
def Fv (xF:Flash) (c:Int) (a:Bool) (b:Int):Option ((Bool×Int)⊕(Bool)):=
 (gi xF.Blocks c).bind λx2=>
 bif(decide (b<(ln x2.Leaves)))then(bif a then((gi xF.Blocks c).bind λx3=>
 (gi x3.Leaves b).bind λx4=>
 some (.inl ((x4.Is==0),(ad b 1))))
 else(some (.inl (false,(ad b 1)))))
 else(some (.inr a))
def GW (xF:Flash) (a:List Int) (b:Int):Option ((List Int×Int)⊕(List Int)):=
 bif(decide (b<(ln xF.Blocks)))then((gi xF.Blocks b).bind λx1=>
 (Au (λs:Bool×Int=>Fv xF b s.1 s.2) ((!x1.Bad),0)).bind λv1=>
 bif v1 then((ap 8 a [b]).bind λq1=>
 some (.inl (q1,(ad b 1))))
 else(some (.inl (a,(ad b 1)))))
 else(some (.inr a))
def LA (xF:Flash):Option (List Int):=
 (Au (λs:List Int×Int=>GW xF s.1 s.2) ([],0)).bind λv2=>
 some v2
def JC (xF:Flash) (v4:List Int) (a:Int) (b:Int):Option ((Int×Int)⊕(Int)):=
 bif(decide (b<(ln v4)))then((gi v4 b).bind λx3=>
 (gi xF.Blocks x3).bind λx4=>
 (gi xF.Blocks a).bind λx5=>
 bif(decide (x4.Wear<x5.Wear))then((gi v4 b).bind λx6=>
 some (.inl (x6,(ad b 1))))
 else(some (.inl (a,(ad b 1)))))
 else(some (.inr a))
def N1 (xF:Flash):Option (Int×Int×Bool):=
 (Hh xF).bind λv1=>
 bif(!v1)then(some (0,0,false))
 else((MK xF).bind λv2=>
 bif(decide (v2>=0))then((gi xF.Blocks v2).bind λx1=>
 (Ji x1).bind λv3=>
 some (v2,v3,true))
 else((LA xF).bind λv4=>
 bif((ln v4)==0)then(some (0,0,false))
 else((gi v4 0).bind λx2=>
 (Au (λs:Int×Int=>JC xF v4 s.1 s.2) (x2,1)).bind λv5=>
 some (v5,0,true))))
def I5 (xF:Flash) (a:List Cc) (xP:Page):Option (Flash×List Cc×Bool):=
 (EQ xP).bind λv1=>
 (N1 xF).bind λv2=>
 (bif(!v1.2)then(some true)
 else(some (!v2.2.2)):Option (Bool)).bind λj1=>
 bif j1 then(some (xF,a,false))
 else((N2 xF (Cc.mk 1 v2.1 v2.2.1 v1.1)).bind λv3=>
 ((ap 40 a [(Cc.mk 1 v2.1 v2.2.1 v1.1)]).bind λq4=>
 some q4:Option (List Cc)).bind λj2=>
 some (v3.1,j2,v3.2))
def Qz (xR:Ds):Option (ByteArray×Bool):=
 (MJ xR).bind λv1=>
 bif(!v1)then(some ((bs []),false))
 else((LN (ad (ml 16 xR.Kind) xR.Vol)).bind λv2=>
 (I8 xR.Arg).bind λv3=>
 (Ty v2 v3).bind λx1=>
 (I8 xR.Chunk).bind λv4=>
 (Ty x1 v4).bind λx2=>
 some (x2,true))
def HZ (b:List Ds) (a:List ByteArray) (c:Int):Option ((List ByteArray×Int)⊕((List ByteArray)⊕((List Page×Bool)))):=
 bif(decide (c<(ln b)))then((gi b c).bind λx1=>
 (Qz x1).bind λv1=>
 bif(!v1.2)then(some (.inr (.inr ([],false))))
 else((gi a (sb (ln a) 1)).bind λx2=>
 bif(decide ((ad (Gb x2) (Gb v1.1))>90))then((ap 16 a [v1.1]).bind λq1=>
 some (.inl (q1,(ad c 1))))
 else((gi a (sb (ln a) 1)).bind λx3=>
 (Ty x3 v1.1).bind λx4=>
 (gi a (sb (ln a) 1)).bind λx5=>
 some (.inl ((si a (sb (ln a) 1) x4),(ad c 1))))))
 else(some (.inr (.inl a)))
def HY (c:Int) (d:Int) (v2:List ByteArray) (a:List Page) (b:Int):Option ((List Page×Int)⊕(List Page)):=
 bif(decide (b<(ln v2)))then((gi v2 b).bind λx6=>
 (ap 56 a [(Page.mk 2 (ad c b) d b (ln v2) x6)]).bind λq2=>
 some (.inl (q2,(ad b 1))))
 else(some (.inr a))
def Ny (a:Int) (c:Int) (b:List Ds):Option (List Page×Bool):=
 (Au (λs:List ByteArray×Int=>HZ b s.1 s.2) ([(bs [])],0)).bind (Sum.elim (λv2=>((bif(decide ((ln v2)>9))then(some true)
 else((BY a 1 (ad (sb 1000000000 (ln v2)) 1)).bind λv3=>
 bif(!v3)then(some true)
 else((BY c 1 1000000000).bind λv4=>
 some (!v4))):Option (Bool)).bind λj1=>
 bif j1 then(some ([],false))
 else((Au (λs:List Page×Int=>HY a c v2 s.1 s.2) ([],0)).bind λv5=>
 some (v5,true)))) some)
def Fk (v2:List Page×Bool) (a:List Cc) (b:Bool) (c:Int) (d:List Block):Option ((List Cc×Bool×Int×List Block)⊕(List Cc×Bool)):=
 (bif(decide (c<(ln v2.1)))then(some b)
 else(some false):Option (Bool)).bind λj3=>
 bif j3 then(((gi v2.1 c).bind λx2=>
 (I5 (Flash.mk d) a x2).bind λv3=>
 some (v3.2.1,v3.2.2,v3.1.Blocks):Option (List Cc×Bool×List Block)).bind λj4=>
 some (.inl (j4.1,j4.2.1,(ad c 1),j4.2.2)))
 else(some (.inr (a,b)))
def EF (xD:Ba) (a:List Ds) (b:ByteArray):Option (List Cc×Bool):=
 bif((ln a)==0)then(some ([],true))
 else((bif(!(seq b (bs [])))then(((gi a (sb (ln a) 1)).bind λx1=>
 (I5 xD.Flash [] (Page.mk 1 xD.Seq x1.Chunk 0 1 b)).bind λv1=>
 some (v1.2.1,v1.2.2,v1.1.Blocks):Option (List Cc×Bool×List Block)).bind λj2=>
 some (j2.1,(ad xD.Seq 1),j2.2.1,j2.2.2))
 else(some ([],xD.Seq,true,xD.Flash.Blocks)):Option (List Cc×Int×Bool×List Block)).bind λj1=>
 (Ny j1.2.1 xD.Tx a).bind λv2=>
 (Au (λs:List Cc×Bool×Int×List Block=>Fk v2 s.1 s.2.1 s.2.2.1 s.2.2.2) (j1.1,j1.2.2.1,0,j1.2.2.2)).bind λv4=>
 (bif(!v4.2)then(some true)
 else(some (!v2.2)):Option (Bool)).bind λj5=>
 bif j5 then(some ([],false))
 else(some (v4.1,true)))
def PB (xD:Ba):Option (List Cc×Bool):=
 (Ou xD.Store).bind λv1=>
 (EF xD v1 (bs [])).bind λv2=>
 some (v2.1,v2.2)
def Hf (xD:Ba) (v1:List A4) (v3:List Bool) (v4:List Bool) (c:Int) (a:Int) (b:Int):Option ((Int×Int×Int)⊕(Int)):=
 bif(decide (b<(ln xD.Flash.Blocks)))then((gi xD.Flash.Blocks b).bind λx1=>
 (Qw v1 v3 b).bind λv5=>
 (bif(!x1.Bad)then((Ji x1).bind λv6=>
 bif(v6==4)then((Qw v1 v4 b).bind λv7=>
 bif(v5==v7)then(bif(decide (v5>=1))then(some (decide (v5<a)))
 else(some false))
 else(some false))
 else(some false))
 else(some false):Option (Bool)).bind λj1=>
 bif j1 then(some (.inl (b,v5,(ad b 1))))
 else(some (.inl (c,a,(ad b 1)))))
 else(some (.inr c))
def Oi (xD:Ba):Option (Int):=
 (Ft xD.Flash).bind λv1=>
 (KU xD.Store).bind λv2=>
 (HB v1 v2 xD.Base).bind λv3=>
 (HB v1 v2 1000000000).bind λv4=>
 (Au (λs:Int×Int×Int=>Hf xD v1 v3 v4 s.1 s.2.1 s.2.2) ((-1),4,0)).bind λv8=>
 some v8
def Gr (xB:Int) (v1:List A4) (v3:List Bool) (e:Int) (a:List Cc) (b:Int) (c:Int) (d:List Block):Option ((List Cc×Int×Int×List Block)⊕((List Cc×Int×List Block)⊕((List Cc×Int×Int×List Block)⊕((List Cc)⊕((List Cc×Bool)))))):=
 bif(decide (c<(ln v1)))then(((gi v3 c).bind λx1=>
 bif(!x1)then(some true)
 else((gi v1 c).bind λx2=>
 bif(x2.Block !=xB)then(some true)
 else((gi v1 c).bind λx3=>
 some (x3.Leaf !=e))):Option (Bool)).bind λj1=>
 bif j1 then(some (.inl (a,b,(ad c 1),d)))
 else((gi v1 c).bind λx4=>
 (I5 (Flash.mk d) a (Page.mk x4.Page.Kind b x4.Page.Tx x4.Page.Part x4.Page.Count x4.Page.Text)).bind λv4=>
 (bif(!v4.2.2)then(some true)
 else((gi v4.2.1 (sb (ln v4.2.1) 1)).bind λx5=>
 some (x5.Block==xB)):Option (Bool)).bind λj2=>
 bif j2 then(some (.inr (.inr (.inr (.inr ([],false))))))
 else(some (.inl (v4.2.1,(ad b 1),(ad c 1),v4.1.Blocks)))))
 else(some (.inr (.inl (a,b,d))))
def Gs (xB:Int) (v1:List A4) (v3:List Bool) (b:List Cc) (c:Int) (a:Int) (d:List Block):Option ((List Cc×Int×Int×List Block)⊕((List Cc)⊕((List Cc×Bool)))):=
 bif(decide (a<4))then((Au (λs:List Cc×Int×Int×List Block=>Gr xB v1 v3 a s.1 s.2.1 s.2.2.1 s.2.2.2) (b,c,0,d)).bind (Sum.elim (λv5=>(some (.inl (v5.1,v5.2.1,(ad a 1),v5.2.2)))) some))
 else(some (.inr (.inl b)))
def KR (xD:Ba) (xB:Int):Option (List Cc×Bool):=
 (Ft xD.Flash).bind λv1=>
 (KU xD.Store).bind λv2=>
 (HB v1 v2 1000000001).bind λv3=>
 (Au (λs:List Cc×Int×Int×List Block=>Gs xB v1 v3 s.1 s.2.1 s.2.2.1 s.2.2.2) ([],xD.Seq,0,xD.Flash.Blocks)).bind (Sum.elim (λv6=>(some (v6,true))) some)
def Ot (xD:Ba):Option (List Cc×Bool):=
 (LC xD).bind λv1=>
 bif(decide ((ln v1)>0))then((gi v1 0).bind λx1=>
 some ([(Cc.mk 2 x1 0 (bs []))],true))
 else((Oe xD).bind λv2=>
 bif(!v2)then((PB xD).bind λv3=>
 some (v3.1,v3.2))
 else((Oi xD).bind λv4=>
 bif(decide (v4<0))then(some ([],false))
 else((KR xD v4).bind λv5=>
 some (v5.1,v5.2))))
def IT (xD:Ba) (a:List Cc):Option (Ba):=
 (Q4 xD.Flash a).bind λv1=>
 (CL v1.1).bind λv2=>
 some v2.1
def Hi (i:Int) (h:List Cc) (j:Int) (a:List Block) (b:List Vol) (c:List BI) (d:Int) (e:Int) (f:Int) (g:Int):Option ((List Cc×Int×List Block×List Vol×List BI×Int×Int×Int×Int)⊕((List Cc×List Block×List Vol×List BI×Int×Int×Int×Int)⊕((Ba×List Cc)))):=
 (bif(decide (j<i))then(bif(decide (j<20))then((Mi (Flash.mk a)).bind λv2=>
 some (decide (v2<12)))
 else(some false))
 else(some false):Option (Bool)).bind λj1=>
 bif j1 then((Ot (Ba.mk (Flash.mk a) (Store.mk b (Arena.mk c) d) e f g)).bind λv3=>
 bif(!v3.2)then(some (.inr (.inr ((Ba.mk (Flash.mk a) (Store.mk b (Arena.mk c) d) e f g),h))))
 else((IT (Ba.mk (Flash.mk a) (Store.mk b (Arena.mk c) d) e f g) v3.1).bind λv4=>
 (ap 40 h v3.1).bind λq1=>
 some (.inl (q1,(ad j 1),v4.Flash.Blocks,v4.Store.Vols,v4.Store.Arena.Knots,v4.Store.Next,v4.Seq,v4.Tx,v4.Base))))
 else(some (.inr (.inl (h,a,b,c,d,e,f,g))))
def Ml (xD:Ba) (a:Int):Option (Ba×List Cc):=
 (Nv xD).bind λv1=>
 (Au (λs:List Cc×Int×List Block×List Vol×List BI×Int×Int×Int×Int=>Hi a s.1 s.2.1 s.2.2.1 s.2.2.2.1 s.2.2.2.2.1 s.2.2.2.2.2.1 s.2.2.2.2.2.2.1 s.2.2.2.2.2.2.2.1 s.2.2.2.2.2.2.2.2) ([],0,v1.Flash.Blocks,v1.Store.Vols,v1.Store.Arena.Knots,v1.Store.Next,v1.Seq,v1.Tx,v1.Base)).bind (Sum.elim (λv5=>(some ((Ba.mk (Flash.mk v5.2.1) (Store.mk v5.2.2.1 (Arena.mk v5.2.2.2.1) v5.2.2.2.2.1) v5.2.2.2.2.2.1 v5.2.2.2.2.2.2.1 v5.2.2.2.2.2.2.2),v5.1))) some)
def Vw (xD:Ba) (xQ:cC):Option (Ba×List Cc×ByteArray×Int):=
 (Nv xD).bind λv1=>
 (Or xD).bind λv2=>
 bif(!v2)then(some (v1,[],(bs []),5))
 else((Mj xD xQ).bind λv3=>
 bif(v3.2.2 !=0)then(some (v1,[],(bs []),v3.2.2))
 else(bif(xQ.Kind==6)then((Wr xD xQ.Vol xQ.Sector).bind λv4=>
 bif(!v4.2)then(some (v1,[],(bs []),1))
 else(some (v1,[],v4.1,0)))
 else((Mi xD.Flash).bind λv5=>
 (bif(decide (v5<12))then((Ml xD 20).bind λv6=>
 some (v6.2,v6.1.Flash.Blocks,v6.1.Store.Vols,v6.1.Store.Arena.Knots,v6.1.Store.Next,v6.1.Seq,v6.1.Tx,v6.1.Base))
 else(some ([],v1.Flash.Blocks,v1.Store.Vols,v1.Store.Arena.Knots,v1.Store.Next,v1.Seq,v1.Tx,v1.Base)):Option (List Cc×List Block×List Vol×List BI×Int×Int×Int×Int)).bind λj1=>
 (Mj (Ba.mk (Flash.mk j1.2.1) (Store.mk j1.2.2.1 (Arena.mk j1.2.2.2.1) j1.2.2.2.2.1) j1.2.2.2.2.2.1 j1.2.2.2.2.2.2.1 j1.2.2.2.2.2.2.2) xQ).bind λv7=>
 (EF (Ba.mk (Flash.mk j1.2.1) (Store.mk j1.2.2.1 (Arena.mk j1.2.2.2.1) j1.2.2.2.2.1) j1.2.2.2.2.2.1 j1.2.2.2.2.2.2.1 j1.2.2.2.2.2.2.2) v7.1 v7.2.1).bind λv8=>
 (bif(!v8.2)then(some true)
 else((Mi (Flash.mk j1.2.1)).bind λv9=>
 some (decide (v9<8))):Option (Bool)).bind λj2=>
 bif j2 then(some ((Ba.mk (Flash.mk j1.2.1) (Store.mk j1.2.2.1 (Arena.mk j1.2.2.2.1) j1.2.2.2.2.1) j1.2.2.2.2.2.1 j1.2.2.2.2.2.2.1 j1.2.2.2.2.2.2.2),j1.1,(bs []),4))
 else((IT (Ba.mk (Flash.mk j1.2.1) (Store.mk j1.2.2.1 (Arena.mk j1.2.2.2.1) j1.2.2.2.2.1) j1.2.2.2.2.2.1 j1.2.2.2.2.2.2.1 j1.2.2.2.2.2.2.2) v8.1).bind λv10=>
 (ap 40 j1.1 v8.1).bind λq1=>
 some (v10,q1,(bs []),0)))))
def Gi (h:Int) (a:List Block) (b:List Vol) (c:List BI) (d:Int) (e:Int) (f:Int) (g:Int) (i:List Int) (j:Int) (k:Int):Option ((Int×List Block×List Vol×List BI×Int×Int×Int×Int×List Int×Int×Int)⊕(List Block×List Vol×List BI×Int×Int×Int×Int×List Int×Int×Int)):=
 (DJ (BN.mk i j k) 12).bind λv3=>
 bif(decide (h<v3.1))then(((Qv v3.2 (Ba.mk (Flash.mk a) (Store.mk b (Arena.mk c) d) e f g)).bind λv5=>
 (Vw (Ba.mk (Flash.mk a) (Store.mk b (Arena.mk c) d) e f g) v5.1).bind λv6=>
 some (v6.1.Flash.Blocks,v6.1.Store.Vols,v6.1.Store.Arena.Knots,v6.1.Store.Next,v6.1.Seq,v6.1.Tx,v6.1.Base,v5.2.b_,v5.2.i_,v5.2.h_):Option (List Block×List Vol×List BI×Int×Int×Int×Int×List Int×Int×Int)).bind λj1=>
 some (.inl ((ad h 1),j1.1,j1.2.1,j1.2.2.1,j1.2.2.2.1,j1.2.2.2.2.1,j1.2.2.2.2.2.1,j1.2.2.2.2.2.2.1,j1.2.2.2.2.2.2.2.1,j1.2.2.2.2.2.2.2.2.1,j1.2.2.2.2.2.2.2.2.2)))
 else(some (.inr (a,b,c,d,e,f,g,v3.2.b_,v3.2.i_,v3.2.h_)))
def MF (xC:BN):Option (Ba×BN):=
 (DJ xC 4).bind λv1=>
 (KY (ad 5 v1.1)).bind λv2=>
 (Au (λs:Int×List Block×List Vol×List BI×Int×Int×Int×Int×List Int×Int×Int=>Gi s.1 s.2.1 s.2.2.1 s.2.2.2.1 s.2.2.2.2.1 s.2.2.2.2.2.1 s.2.2.2.2.2.2.1 s.2.2.2.2.2.2.2.1 s.2.2.2.2.2.2.2.2.1 s.2.2.2.2.2.2.2.2.2.1 s.2.2.2.2.2.2.2.2.2.2) (0,v2.1.Flash.Blocks,v2.1.Store.Vols,v2.1.Store.Arena.Knots,v2.1.Store.Next,v2.1.Seq,v2.1.Tx,v2.1.Base,v1.2.b_,v1.2.i_,v1.2.h_)).bind λv9=>
 some ((Ba.mk (Flash.mk v9.1) (Store.mk v9.2.1 (Arena.mk v9.2.2.1) v9.2.2.2.1) v9.2.2.2.2.1 v9.2.2.2.2.2.1 v9.2.2.2.2.2.2.1),(BN.mk v9.2.2.2.2.2.2.2.1 v9.2.2.2.2.2.2.2.2.1 v9.2.2.2.2.2.2.2.2.2))
def LB (a:List Int):Option (Ba):=
 (Sz a).bind λv1=>
 (MF v1).bind λv2=>
 some v2.1
def HM (xL:List Int):Option (List Int):=
 (ap 8 [] xL).bind λq1=>
 some q1
def HN (xA:Arena) (y1:Int) (a:List BI):Option ((Int×List BI)⊕(List BI)):=
 bif(decide (y1<(ln xA.Knots)))then((gi xA.Knots y1).bind λx1=>
 (HM x1.Kids).bind λv1=>
 (ap 32 a [(BI.mk x1.Leaf v1)]).bind λq1=>
 some (.inl ((ad y1 1),q1)))
 else(some (.inr a))
def HO (xA:Arena):Option (Arena):=
 (Au (λs:Int×List BI=>HN xA s.1 s.2) (0,[])).bind λv2=>
 some (Arena.mk v2)
def HL (xS:Store):Option (Store):=
 (ap 16 [] xS.Vols).bind λq1=>
 (HO xS.Arena).bind λv1=>
 some (Store.mk q1 v1 xS.Next)
def Ik (a:Int) (y1:Int):Option ((Int×Int)⊕(Int)):=
 bif(decide (y1<8))then(bif((an a 1)==1)then(some (.inl ((xr (Int.fdiv a (2^(min (1:Int).toNat IntKind.u32.bits))) 3558460437),(ad y1 1))))
 else(some (.inl ((Int.fdiv a (2^(min (1:Int).toNat IntKind.u32.bits))),(ad y1 1)))))
 else(some (.inr a))
def JK (a:ByteArray) (b:Int) (c:Int):Option ((Int×Int)⊕(Int)):=
 bif(decide (c<(Gb a)))then((sx a c).bind λx1=>
 (Au (λs:Int×Int=>Ik s.1 s.2) ((xr b (IntKind.u32.wrap x1)),0)).bind λv1=>
 some (.inl (v1,(ad c 1))))
 else(some (.inr b))
def QI (b:Int) (a:ByteArray):Option (Int):=
 (Au (λs:Int×Int=>JK a s.1 s.2) (b,0)).bind λv2=>
 some v2
def V7 (a:ByteArray):Option (Int):=
 (QI 4294967295 a).bind λv1=>
 some v1
def ST (a:ByteArray):Option (ByteArray×Bool):=
 bif(decide ((Gb a)>20000))then(some ((bs []),false))
 else((V7 a).bind λv1=>
 (Ty a (Hz [(IntKind.u8.wrap (Int.fdiv v1 (2^(min (24:Int).toNat IntKind.u32.bits)))),(IntKind.u8.wrap (Int.fdiv v1 (2^(min (16:Int).toNat IntKind.u32.bits)))),(IntKind.u8.wrap (Int.fdiv v1 (2^(min (8:Int).toNat IntKind.u32.bits)))),(IntKind.u8.wrap v1)])).bind λx1=>
 some (x1,true))
def OA (a:ByteArray):Option (ByteArray×Bool):=
 bif(decide ((Gb a)<4))then(some ((bs []),false))
 else((sub a 0 (sb (Gb a) 4)).bind λx1=>
 (ST x1).bind λv1=>
 (bif(!v1.2)then(some true)
 else(some (!(seq v1.1 a))):Option (Bool)).bind λj1=>
 bif j1 then(some ((bs []),false))
 else(some (x1,true)))
def GU (b:ByteArray) (c:Int) (d:Int) (a:Int):Option ((Int×Int)⊕((Unit)⊕((Int×Int×Bool)))):=
 (bif(decide (a<5))then(bif(decide (c>=0))then(some (decide (c<(sb (Gb b) a))))
 else(some false))
 else(some false):Option (Bool)).bind λj1=>
 bif j1 then((sx b (ad c a)).bind λx1=>
 (shl .i64 (Int.tmod (IntKind.i64.wrap x1) 128) (ml 7 a)).bind λx2=>
 bif(decide ((IntKind.i64.wrap x1)>=128))then(some (.inl ((ad d x2),(ad a 1))))
 else((bif((IntKind.i64.wrap x1)==0)then(bif(decide (a>0))then(some true)
 else(some (decide ((ad d x2)>1000000000))))
 else(some (decide ((ad d x2)>1000000000))):Option (Bool)).bind λj2=>
 bif j2 then(some (.inr (.inr (0,0,false))))
 else(some (.inr (.inr ((ad d x2),(ad (ad c a) 1),true))))))
 else(some (.inr (.inl ())))
def Jr (a:ByteArray) (b:Int):Option (Int×Int×Bool):=
 (Au (λs:Int×Int=>GU a b s.1 s.2) (0,0)).bind (Sum.elim (λv1=>(some (0,0,false))) some)
def SX (xP:Page):Option (Bool):=
 ((IE xP.Seq 1 1000000000).bind λv1=>
 bif(!v1)then(some true)
 else((IE xP.Tx 1 1000000000).bind λv2=>
 bif(!v2)then(some true)
 else((IE xP.Count 1 9).bind λv3=>
 bif(!v3)then(some true)
 else((IE xP.Part 0 (sb xP.Count 1)).bind λv4=>
 bif(!v4)then(some true)
 else(some (decide ((Gb xP.Text)>90)))))):Option (Bool)).bind λj1=>
 bif j1 then(some false)
 else(bif(xP.Kind==2)then(some true)
 else(bif(xP.Kind==1)then(some (xP.Count==1))
 else(some false)))
def Ev (v1:ByteArray×Bool) (e:Int) (y1:Int) (a:Int) (b:Int) (c:Int) (d:Int):Option ((Int×Int×Int×Int×Int×Int)⊕((Int×Int×Int×Int×Int)⊕((Page×Bool)))):=
 bif(decide (y1<4))then((Jr v1.1 e).bind λv2=>
 bif(!v2.2.2)then(some (.inr (.inr ((Page.mk 0 0 0 0 0 (bs [])),false))))
 else(bif(y1==0)then(some (.inl (v2.2.1,(ad y1 1),v2.1,b,c,d)))
 else(bif(y1==1)then(some (.inl (v2.2.1,(ad y1 1),a,v2.1,c,d)))
 else(bif(y1==2)then(some (.inl (v2.2.1,(ad y1 1),a,b,v2.1,d)))
 else(bif(y1==3)then(some (.inl (v2.2.1,(ad y1 1),a,b,c,v2.1)))
 else none)))))
 else(some (.inr (.inl (e,a,b,c,d))))
def OE (xT:ByteArray):Option (Page×Bool):=
 (OA xT).bind λv1=>
 (bif(!v1.2)then(some true)
 else(some (seq v1.1 (bs []))):Option (Bool)).bind λj1=>
 bif j1 then(some ((Page.mk 0 0 0 0 0 (bs [])),false))
 else((Au (λs:Int×Int×Int×Int×Int×Int=>Ev v1 s.1 s.2.1 s.2.2.1 s.2.2.2.1 s.2.2.2.2.1 s.2.2.2.2.2) (1,0,0,0,0,0)).bind (Sum.elim (λv3=>((sx v1.1 0).bind λx1=>
 (sub v1.1 v3.1 (Gb v1.1)).bind λx2=>
 (SX (Page.mk (IntKind.i64.wrap x1) v3.2.1 v3.2.2.1 v3.2.2.2.1 v3.2.2.2.2 x2)).bind λv4=>
 bif(!v4)then(some ((Page.mk 0 0 0 0 0 (bs [])),false))
 else(some ((Page.mk (IntKind.i64.wrap x1) v3.2.1 v3.2.2.1 v3.2.2.2.1 v3.2.2.2.2 x2),true)))) some))
def BQ (x:A4):Int:=x.Page.Seq
def JL (y1:Int) (x1:Block) (y2:Int) (a:List A4):Option ((Int×List A4)⊕(List A4)):=
 bif(decide (y2<(ln x1.Leaves)))then((gi x1.Leaves y2).bind λx2=>
 (OE x2.Text).bind λv1=>
 (bif v1.2 then(some (x2.Is==1))
 else(some false):Option (Bool)).bind λj1=>
 bif j1 then((ap 72 a [(A4.mk y1 y2 v1.1)]).bind λq1=>
 some (.inl ((ad y2 1),q1)))
 else(some (.inl ((ad y2 1),a))))
 else(some (.inr a))
def Ip (xF:Flash) (y1:Int) (a:List A4):Option ((Int×List A4)⊕(List A4)):=
 bif(decide (y1<(ln xF.Blocks)))then((gi xF.Blocks y1).bind λx1=>
 (Au (λs:Int×List A4=>JL y1 x1 s.1 s.2) (0,a)).bind λv2=>
 some (.inl ((ad y1 1),v2)))
 else(some (.inr a))
def Jq (xF:Flash):Option (List A4):=
 (Au (λs:Int×List A4=>Ip xF s.1 s.2) (0,[])).bind λv3=>
 (Du (M8 BQ) v3 (ln v3)).bind λv4=>
 some v4
def OC:Option (Store):=
 some (Store.mk [] (Arena.mk []) 1)
def Iq (v1:List A4) (a:Int) (y1:Int):Option ((Int×Int)⊕(Int)):=
 bif(decide (y1<(ln v1)))then((gi v1 y1).bind λx1=>
 some (.inl ((if x1.Page.Seq>a then x1.Page.Seq else a),(ad y1 1))))
 else(some (.inr a))
def QL (xF:Flash):Option (Int):=
 (Jq xF).bind λv1=>
 (Au (λs:Int×Int=>Iq v1 s.1 s.2) (0,0)).bind λv2=>
 some v2
def Jp (xL:List Int) (xN:Int) (y1:Int):Option ((Int)⊕((Unit)⊕(Bool))):=
 bif(decide (y1<(ln xL)))then((gi xL y1).bind λx1=>
 bif(x1==xN)then(some (.inr (.inr true)))
 else(some (.inl (ad y1 1))))
 else(some (.inr (.inl ())))
def My (xL:List Int) (xN:Int):Option (Bool):=
 (Au (λs:Int=>Jp xL xN s) 0).bind (Sum.elim (λv1=>(some false)) some)
def Jo (b:List A4) (d:Int) (c:Int) (a:Int) (y1:Int):Option ((Int)⊕((Unit)⊕((Page×Bool)))):=
 bif(decide (y1<(ln b)))then((gi b y1).bind λx1=>
 (bif(x1.Page.Kind==2)then(bif(x1.Page.Tx==d)then(bif(x1.Page.Part==c)then(bif(a==0)then(some true)
 else(some (x1.Page.Count==a)))
 else(some false))
 else(some false))
 else(some false):Option (Bool)).bind λj1=>
 bif j1 then(some (.inr (.inr (x1.Page,true))))
 else(some (.inl (ad y1 1))))
 else(some (.inr (.inl ())))
def PW (b:List A4) (d:Int) (c:Int) (a:Int):Option (Page×Bool):=
 (Au (λs:Int=>Jo b d c a s) 0).bind (Sum.elim (λv1=>(some ((Page.mk 0 0 0 0 0 (bs [])),false))) some)
def QJ (xR:Ds):Option (Bool):=
 bif(xR.Kind==1)then((bif(xR.Vol==0)then((IE xR.Arg 0 1000000000).bind λv1=>
 bif v1 then(some (xR.Chunk==0))
 else(some false))
 else(some false):Option (Bool)).bind λj1=>
 some j1)
 else(((IE xR.Vol 1 9).bind λv2=>
 bif(!v2)then(some true)
 else(bif(xR.Kind !=4)then(some (xR.Chunk !=0))
 else(some false)):Option (Bool)).bind λj2=>
 bif j2 then(some false)
 else(bif(xR.Kind==2)then((IE xR.Arg 0 9).bind λv3=>
 some v3)
 else(bif(xR.Kind==3)then(some (xR.Arg==0))
 else(bif(xR.Kind==4)then((IE xR.Arg 0 15).bind λv4=>
 bif v4 then((IE xR.Chunk 1 1000000000).bind λv5=>
 some v5)
 else(some false))
 else(bif(xR.Kind==5)then((IE xR.Arg 0 15).bind λv6=>
 some v6)
 else(some false))))))
def KD (xT:ByteArray) (b:List Ds) (a:Int):Option ((List Ds×Int)⊕((List Ds)⊕((List Ds×Bool)))):=
 bif(decide (a<(Gb xT)))then((Jr xT (ad a 1)).bind λv1=>
 (Jr xT v1.2.1).bind λv2=>
 (sx xT a).bind λx1=>
 (sx xT a).bind λx2=>
 (bif(!v1.2.2)then(some true)
 else(bif(!v2.2.2)then(some true)
 else((QJ (Ds.mk (qu (IntKind.i64.wrap x1) 16) (Int.tmod (IntKind.i64.wrap x2) 16) v1.1 v2.1)).bind λv3=>
 some (!v3))):Option (Bool)).bind λj1=>
 bif j1 then(some (.inr (.inr ([],false))))
 else((ap 32 b [(Ds.mk (qu (IntKind.i64.wrap x1) 16) (Int.tmod (IntKind.i64.wrap x2) 16) v1.1 v2.1)]).bind λq1=>
 some (.inl (q1,v2.2.1))))
 else(some (.inr (.inl b)))
def OD (xT:ByteArray):Option (List Ds×Bool):=
 (Au (λs:List Ds×Int=>KD xT s.1 s.2) ([],0)).bind (Sum.elim (λv4=>(some (v4,true))) some)
def K7 (d:List A4) (e:Int) (v1:Page×Bool) (c:ByteArray) (b:Int) (a:Int):Option ((ByteArray×Int×Int)⊕((ByteArray×Int)⊕((Tx×Bool)))):=
 bif(decide (a<v1.1.Count))then((PW d e a v1.1.Count).bind λv2=>
 bif(!v2.2)then(some (.inr (.inr ((Tx.mk 0 0 []),false))))
 else((Ty c v2.1.Text).bind λx1=>
 some (.inl (x1,(if v2.1.Seq<b then v2.1.Seq else b),(ad a 1)))))
 else(some (.inr (.inl (c,b))))
def O9 (a:List A4) (b:Int):Option (Tx×Bool):=
 (PW a b 0 0).bind λv1=>
 bif(!v1.2)then(some ((Tx.mk 0 0 []),false))
 else((Au (λs:ByteArray×Int×Int=>K7 a b v1 s.1 s.2.1 s.2.2) (v1.1.Text,v1.1.Seq,1)).bind (Sum.elim (λv3=>((OD v3.1).bind λv4=>
 some ((Tx.mk b v3.2 v4.1),v4.2))) some))
def Jt (b:List A4) (a:List Int) (y1:Int):Option ((List Int×Int)⊕(List Int)):=
 bif(decide (y1<(ln b)))then((gi b y1).bind λx1=>
 (bif(x1.Page.Kind==2)then((My a x1.Page.Tx).bind λv1=>
 some (!v1))
 else(some false):Option (Bool)).bind λj1=>
 bif j1 then((ap 8 a [x1.Page.Tx]).bind λq1=>
 some (.inl (q1,(ad y1 1))))
 else(some (.inl (a,(ad y1 1)))))
 else(some (.inr a))
def Js (b:List A4) (v3:List Int) (a:List Tx) (y2:Int):Option ((List Tx×Int)⊕(List Tx)):=
 bif(decide (y2<(ln v3)))then((gi v3 y2).bind λx2=>
 (O9 b x2).bind λv4=>
 bif v4.2 then((ap 40 a [v4.1]).bind λq2=>
 some (.inl (q2,(ad y2 1))))
 else(some (.inl (a,(ad y2 1)))))
 else(some (.inr a))
def SY (a:List A4):Option (List Tx):=
 (Au (λs:List Int×Int=>Jt a s.1 s.2) ([],0)).bind λv2=>
 (Wh v2).bind λv3=>
 (Au (λs:List Tx×Int=>Js a v3 s.1 s.2) ([],0)).bind λv5=>
 some v5
def SQ (xT:Tx):Option (Bool):=
 bif(decide ((ln xT.Recs)>0))then((gi xT.Recs 0).bind λx1=>
 some (x1.Kind==1))
 else(some false)
def Gz (b:List Tx) (a:Int) (y1:Int):Option ((Int×Int)⊕(Int)):=
 bif(decide (y1<(ln b)))then((gi b y1).bind λx1=>
 (SQ x1).bind λv1=>
 bif v1 then(some (.inl (y1,(ad y1 1))))
 else(some (.inl (a,(ad y1 1)))))
 else(some (.inr a))
def Gy (x2:List Tx) (a:List Tx) (y2:Int):Option ((List Tx×Int)⊕(List Tx)):=
 bif(decide (y2<(ln x2)))then((gi x2 y2).bind λx3=>
 (ap 32 [] x3.Recs).bind λq1=>
 (ap 40 a [(Tx.mk x3.Num x3.Seq q1)]).bind λq2=>
 some (.inl (q2,(ad y2 1))))
 else(some (.inr a))
def MR (a:List Tx):Option (List Tx):=
 (Au (λs:Int×Int=>Gz a s.1 s.2) (0,0)).bind λv2=>
 (dr a v2 (ln a)).bind λx2=>
 (Au (λs:List Tx×Int=>Gy x2 s.1 s.2) ([],0)).bind λv3=>
 some v3
def LH (xA:Arena) (y1:Int) (x1:BI) (y2:Int):Option ((Int)⊕((Unit)⊕((Int)⊕((Unit)⊕(Bool))))):=
 bif(decide (y2<(ln x1.Kids)))then((gi x1.Kids y2).bind λx2=>
 (bif x1.Leaf then(bif(decide (x2<0))then(some true)
 else(bif(!x1.Leaf)then(bif(x2 !=(-1))then((IE x2 0 (sb y1 1)).bind λv1=>
 bif(!v1)then(some true)
 else((gi xA.Knots x2).bind λx3=>
 some (!x3.Leaf)))
 else(some false))
 else(some false)))
 else(bif(!x1.Leaf)then(bif(x2 !=(-1))then((IE x2 0 (sb y1 1)).bind λv2=>
 bif(!v2)then(some true)
 else((gi xA.Knots x2).bind λx4=>
 some (!x4.Leaf)))
 else(some false))
 else(some false)):Option (Bool)).bind λj1=>
 bif j1 then(some (.inr (.inr (.inr (.inr false)))))
 else(some (.inl (ad y2 1))))
 else(some (.inr (.inl ())))
def LI (xA:Arena) (y1:Int):Option ((Int)⊕((Unit)⊕(Bool))):=
 bif(decide (y1<(ln xA.Knots)))then((gi xA.Knots y1).bind λx1=>
 bif((ln x1.Kids) !=4)then(some (.inr (.inr false)))
 else((Au (λs:Int=>LH xA y1 x1 s) 0).bind (Sum.elim (λv3=>(some (.inl (ad y1 1)))) some)))
 else(some (.inr (.inl ())))
def Ir (xA:Arena):Option (Bool):=
 (Au (λs:Int=>LI xA s) 0).bind (Sum.elim (λv4=>(some true)) some)
def Gw (xA:Arena) (a:Int):Option (Bool):=
 (IE a 0 (sb (ln xA.Knots) 1)).bind λv1=>
 bif v1 then((gi xA.Knots a).bind λx1=>
 some (!x1.Leaf))
 else(some false)
def JJ (xA:Arena) (x1:BI) (a:List Int) (y1:Int):Option ((List Int×Int)⊕(List Int)):=
 bif(decide (y1<(ln x1.Kids)))then((gi x1.Kids y1).bind λx2=>
 ((IE x2 0 (sb (ln xA.Knots) 1)).bind λv2=>
 bif v2 then((My a x2).bind λv3=>
 some (!v3))
 else(some false):Option (Bool)).bind λj1=>
 bif j1 then((ap 8 a [x2]).bind λq1=>
 some (.inl (q1,(ad y1 1))))
 else(some (.inl (a,(ad y1 1)))))
 else(some (.inr a))
def ND (xA:Arena) (a:Int):Option (List Int):=
 (Gw xA a).bind λv1=>
 bif(!v1)then(some [])
 else((gi xA.Knots a).bind λx1=>
 (Au (λs:List Int×Int=>JJ xA x1 s.1 s.2) ([a],0)).bind λv4=>
 some v4)
def Io (xS:Store) (a:List Int) (y1:Int):Option ((List Int×Int)⊕((List Int)⊕(Bool))):=
 bif(decide (y1<(ln xS.Vols)))then((gi xS.Vols y1).bind λx1=>
 ((IE x1.Id 1 9).bind λv3=>
 bif(!v3)then(some true)
 else(bif(decide (y1>0))then((gi xS.Vols (sb y1 1)).bind λx2=>
 bif(decide (x2.Id>=x1.Id))then(some true)
 else(bif(x1.Root !=(-1))then((Gw xS.Arena x1.Root).bind λv4=>
 some (!v4))
 else(some false)))
 else(bif(x1.Root !=(-1))then((Gw xS.Arena x1.Root).bind λv5=>
 some (!v5))
 else(some false))):Option (Bool)).bind λj2=>
 bif j2 then(some (.inr (.inr false)))
 else((ND xS.Arena x1.Root).bind λv6=>
 (ap 8 a v6).bind λq1=>
 some (.inl (q1,(ad y1 1)))))
 else(some (.inr (.inl a)))
def Il (xS:Store) (x3:BI) (y3:Int):Option ((Int)⊕((Unit)⊕((Int)⊕((Unit)⊕(Bool))))):=
 bif(decide (y3<(ln x3.Kids)))then((gi x3.Kids y3).bind λx4=>
 bif x3.Leaf then(bif(decide (x4>=xS.Next))then(some (.inr (.inr (.inr (.inr false)))))
 else(some (.inl (ad y3 1))))
 else(some (.inl (ad y3 1))))
 else(some (.inr (.inl ())))
def Im (xS:Store) (v7:List Int) (y2:Int):Option ((Int)⊕((Unit)⊕(Bool))):=
 bif(decide (y2<(ln xS.Arena.Knots)))then((gi xS.Arena.Knots y2).bind λx3=>
 (My v7 y2).bind λv8=>
 bif(!v8)then(some (.inr (.inr false)))
 else((Au (λs:Int=>Il xS x3 s) 0).bind (Sum.elim (λv9=>(some (.inl (ad y2 1)))) some)))
 else(some (.inr (.inl ())))
def NF (xS:Store):Option (Bool):=
 (bif(decide ((ln xS.Vols)>3))then(some true)
 else((Ir xS.Arena).bind λv1=>
 bif(!v1)then(some true)
 else((IE xS.Next 1 1000000000).bind λv2=>
 some (!v2))):Option (Bool)).bind λj1=>
 bif j1 then(some false)
 else((Au (λs:List Int×Int=>Io xS s.1 s.2) ([],0)).bind (Sum.elim (λv7=>((Au (λs:Int=>Im xS v7 s) 0).bind (Sum.elim (λv10=>(some true)) some))) some))
def WS (xS:Store) (a:Int) (y1:Int):Option ((Int)⊕((Unit)⊕(Int))):=
 bif(decide (y1<(ln xS.Vols)))then((gi xS.Vols y1).bind λx1=>
 bif(x1.Id==a)then(some (.inr (.inr y1)))
 else(some (.inl (ad y1 1))))
 else(some (.inr (.inl ())))
def QH (xS:Store) (a:Int):Option (Int):=
 (Au (λs:Int=>WS xS a s) 0).bind (Sum.elim (λv1=>(some (-1))) some)
def Bf (x:Vol):Int:=x.Id
def Ey (xS:Store) (a:Int) (b:Int):Option (Bool×Store):=
 (bif(b !=0)then((QH xS b).bind λv1=>
 bif(decide (v1<0))then(some (.inr (false,xS)))
 else((gi xS.Vols v1).bind λx1=>
 some (.inl x1.Root)))
 else(some (.inl (-1))):Option ((Int)⊕((Bool×Store)))).bind (Sum.elim (λj1=>(((QH xS a).bind λv2=>
 bif(decide (v2>=0))then(some true)
 else(some (decide ((ln xS.Vols)>=3))):Option (Bool)).bind λj2=>
 bif j2 then(some (false,xS))
 else(((ap 16 xS.Vols [(Vol.mk a j1)]).bind λq1=>
 some q1:Option (List Vol)).bind λj3=>
 (Oc (M8 Bf) j3).bind λv3=>
 some (true,(Store.mk v3 xS.Arena xS.Next))))) some)
def V8 (xA:Arena) (b:Int) (a:Int) (xN:Int):Option (Arena×Int):=
 (HO xA).bind λv1=>
 (bif(b !=(-1))then((Gw xA b).bind λv2=>
 bif(!v2)then(some true)
 else((IE a 0 15).bind λv3=>
 bif(!v3)then(some true)
 else(bif(decide (xN<0))then(some true)
 else((Ir xA).bind λv4=>
 some (!v4)))))
 else((IE a 0 15).bind λv5=>
 bif(!v5)then(some true)
 else(bif(decide (xN<0))then(some true)
 else((Ir xA).bind λv6=>
 some (!v6)))):Option (Bool)).bind λj1=>
 bif j1 then(some (v1,b))
 else((mk 8 0 4).bind λq1=>
 (bif(decide (b>=0))then((gi xA.Knots b).bind λx1=>
 (HM x1.Kids).bind λv7=>
 some v7)
 else(some [(-1),(-1),(-1),(-1)]):Option (List Int)).bind λj2=>
 (gi j2 (qu a 4)).bind λx2=>
 (bif(decide (x2>=0))then((gi xA.Knots x2).bind λx3=>
 (HM x3.Kids).bind λv8=>
 some v8)
 else(some q1):Option (List Int)).bind λj3=>
 (gi j3 (Int.tmod a 4)).bind λx4=>
 (gi j2 (qu a 4)).bind λx5=>
 (ap 32 v1.Knots [(BI.mk true (si j3 (Int.tmod a 4) xN)),(BI.mk false (si j2 (qu a 4) (ln xA.Knots)))]).bind λq2=>
 some ((Arena.mk q2),(ad (ln xA.Knots) 1)))
def Nm (xS:Store) (xR:Ds):Option (Bool×Store):=
 bif(xR.Kind==1)then(some (true,(Store.mk [] (Arena.mk []) (if 1>xR.Arg then 1 else xR.Arg))))
 else(bif(xR.Kind==2)then((Ey xS xR.Vol xR.Arg).bind λv1=>
 some (v1.1,v1.2))
 else((QH xS xR.Vol).bind λv2=>
 (bif(decide (v2<0))then(some true)
 else(some (xR.Chunk==1000000000)):Option (Bool)).bind λj1=>
 bif j1 then(some (false,xS))
 else(bif(xR.Kind==3)then(((dr xS.Vols 0 v2).bind λx1=>
 (dr xS.Vols (ad v2 1) (ln xS.Vols)).bind λx2=>
 (ap 16 [] x1).bind λq2=>
 (ap 16 q2 x2).bind λq3=>
 some q3:Option (List Vol)).bind λj2=>
 some (true,(Store.mk j2 xS.Arena xS.Next)))
 else(((gi xS.Vols v2).bind λx3=>
 (V8 xS.Arena x3.Root xR.Arg xR.Chunk).bind λv4=>
 some (v4.2,v4.1.Knots):Option (Int×List BI)).bind λj3=>
 (gi xS.Vols v2).bind λx4=>
 some (true,(Store.mk (si xS.Vols v2 (Vol.mk x4.Id j3.1)) (Arena.mk j3.2) (if(ad xR.Chunk 1)>xS.Next then(ad xR.Chunk 1)else xS.Next)))))))
def F5 (xA:Arena) (a:List Int) (v1:List Int) (b:List Int) (y1:Int):Option ((List Int×Int)⊕((List Int)⊕((Arena×List Int)))):=
 bif(decide (y1<(ln a)))then((gi a y1).bind λx1=>
 (bif(x1 !=(-1))then((Gw xA x1).bind λv2=>
 some (!v2))
 else(some false):Option (Bool)).bind λj1=>
 bif j1 then((HO xA).bind λv3=>
 some (.inr (.inr (v3,v1))))
 else((ND xA x1).bind λv4=>
 (ap 8 b v4).bind λq1=>
 some (.inl (q1,(ad y1 1)))))
 else(some (.inr (.inl b)))
def Fy (c:List Int) (y2:Int) (b:List BI) (x2:BI) (y3:Int) (a:List Int):Option ((Int×List Int)⊕(List Int)):=
 bif(decide (y3<(ln x2.Kids)))then((gi x2.Kids y3).bind λx4=>
 (bif(!x2.Leaf)then(some (decide (x4>=0)))
 else(some false):Option (Bool)).bind λj3=>
 bif j3 then((gi (si c y2 (ln b)) x4).bind λx5=>
 (gi a y3).bind λx6=>
 some (.inl ((ad y3 1),(si a y3 x5))))
 else(some (.inl ((ad y3 1),a))))
 else(some (.inr a))
def Fz (xA:Arena) (v5:List Int) (b:List Int) (y2:Int) (a:List BI):Option ((List Int×Int×List BI)⊕(List Int×List BI)):=
 bif(decide (y2<(ln xA.Knots)))then((gi xA.Knots y2).bind λx2=>
 (My v5 y2).bind λv8=>
 bif(!v8)then(some (.inl (b,(ad y2 1),a)))
 else((gi b y2).bind λx3=>
 ((HM x2.Kids).bind λv10=>
 some v10:Option (List Int)).bind λj2=>
 (Au (λs:Int×List Int=>Fy b y2 a x2 s.1 s.2) (0,j2)).bind λv12=>
 (ap 32 a [(BI.mk x2.Leaf v12)]).bind λq3=>
 some (.inl ((si b y2 (ln a)),(ad y2 1),q3))))
 else(some (.inr (b,a)))
def Ec (b:List Int) (v13:List Int×List BI) (a:List Int) (y4:Int):Option ((List Int×Int)⊕(List Int)):=
 bif(decide (y4<(ln b)))then((gi b y4).bind λx7=>
 bif(decide (x7>=0))then((gi v13.1 x7).bind λx8=>
 (gi a y4).bind λx9=>
 some (.inl ((si a y4 x8),(ad y4 1))))
 else(some (.inl (a,(ad y4 1)))))
 else(some (.inr a))
def LE (xA:Arena) (a:List Int):Option (Arena×List Int):=
 (HM a).bind λv1=>
 (Au (λs:List Int×Int=>F5 xA a v1 s.1 s.2) ([],0)).bind (Sum.elim (λv5=>((Ir xA).bind λv6=>
 bif(!v6)then((HO xA).bind λv7=>
 some (v7,v1))
 else((mk 8 0 (ln xA.Knots)).bind λq2=>
 (Au (λs:List Int×Int×List BI=>Fz xA v5 s.1 s.2.1 s.2.2) (q2,0,[])).bind λv13=>
 (Au (λs:List Int×Int=>Ec a v13 s.1 s.2) (v1,0)).bind λv14=>
 some ((Arena.mk v13.2),v14)))) some)
def EL (xS:Store) (a:List Int) (y1:Int):Option ((List Int×Int)⊕(List Int)):=
 bif(decide (y1<(ln xS.Vols)))then((gi xS.Vols y1).bind λx1=>
 (ap 8 a [x1.Root]).bind λq1=>
 some (.inl (q1,(ad y1 1))))
 else(some (.inr a))
def Gx (xS:Store) (v2:Arena×List Int) (y2:Int) (a:List Vol):Option ((Int×List Vol)⊕(List Vol)):=
 bif(decide (y2<(ln xS.Vols)))then((gi v2.2 y2).bind λx2=>
 (gi a y2).bind λx3=>
 some (.inl ((ad y2 1),(si a y2 (Vol.mk x3.Id x2)))))
 else(some (.inr a))
def KC (xS:Store):Option (Store):=
 (Au (λs:List Int×Int=>EL xS s.1 s.2) ([],0)).bind λv1=>
 (LE xS.Arena v1).bind λv2=>
 (Au (λs:Int×List Vol=>Gx xS v2 s.1 s.2) (0,xS.Vols)).bind λv3=>
 some (Store.mk v3 v2.1 xS.Next)
def VA (xS:Store) (xR:Ds):Option (Store×Bool):=
 (HL xS).bind λv1=>
 ((NF xS).bind λv2=>
 bif(!v2)then(some (true,v1.Vols,v1.Arena.Knots,v1.Next))
 else((QJ xR).bind λv3=>
 bif(!v3)then(some (true,v1.Vols,v1.Arena.Knots,v1.Next))
 else((Nm v1 xR).bind λv4=>
 some ((!v4.1),v4.2.Vols,v4.2.Arena.Knots,v4.2.Next))):Option (Bool×List Vol×List BI×Int)).bind λj1=>
 bif j1.1 then((HL xS).bind λv5=>
 some (v5,false))
 else((KC (Store.mk j1.2.1 (Arena.mk j1.2.2.1) j1.2.2.2)).bind λv6=>
 some (v6,true))
def Ho (xS:Store) (d:List Ds) (y1:Int) (a:List Vol) (b:List BI) (c:Int):Option ((Int×List Vol×List BI×Int)⊕((List Vol×List BI×Int)⊕((Store×Bool)))):=
 bif(decide (y1<(ln d)))then((gi d y1).bind λx1=>
 (VA (Store.mk a (Arena.mk b) c) x1).bind λv2=>
 bif(!v2.2)then((HL xS).bind λv3=>
 some (.inr (.inr (v3,false))))
 else(some (.inl ((ad y1 1),v2.1.Vols,v2.1.Arena.Knots,v2.1.Next))))
 else(some (.inr (.inl (a,b,c))))
def OJ (xS:Store) (a:List Ds):Option (Store×Bool):=
 (HL xS).bind λv1=>
 (Au (λs:Int×List Vol×List BI×Int=>Ho xS a s.1 s.2.1 s.2.2.1 s.2.2.2) (0,v1.Vols,v1.Arena.Knots,v1.Next)).bind (Sum.elim (λv4=>(some ((Store.mk v4.1 (Arena.mk v4.2.1) v4.2.2),true))) some)
def Hn (v2:List A4) (y1:Int) (a:Int):Option ((Int×Int)⊕(Int)):=
 bif(decide (y1<(ln v2)))then((gi v2 y1).bind λx1=>
 bif(x1.Page.Kind==2)then(some (.inl ((ad y1 1),(if(ad x1.Page.Tx 1)>a then(ad x1.Page.Tx 1)else a))))
 else(some (.inl ((ad y1 1),a))))
 else(some (.inr a))
def FW (v17:List Tx) (y2:Int) (a:List Vol) (b:List BI) (c:Int) (d:Int):Option ((Int×List Vol×List BI×Int×Int)⊕(List Vol×List BI×Int×Int)):=
 bif(decide (y2<(ln v17)))then((gi v17 y2).bind λx2=>
 (bif(y2==0)then(some x2.Num)
 else(some d):Option (Int)).bind λj2=>
 (OJ (Store.mk a (Arena.mk b) c) x2.Recs).bind λv18=>
 bif v18.2 then(some (.inl ((ad y2 1),v18.1.Vols,v18.1.Arena.Knots,v18.1.Next,j2)))
 else(some (.inl ((ad y2 1),a,b,c,j2))))
 else(some (.inr (a,b,c,d)))
def Kq (xF:Flash):Option (Ba×Bool):=
 (QM xF).bind λv1=>
 bif(!v1)then(some ((Ba.mk (Flash.mk []) (Store.mk [] (Arena.mk []) 0) 0 0 0),false))
 else((Jq xF).bind λv2=>
 ((Qa xF).bind λv4=>
 (OC).bind λv6=>
 (QL xF).bind λv8=>
 some (v4.Blocks,v6.Vols,v6.Arena.Knots,v6.Next,(ad v8 1)):Option (List Block×List Vol×List BI×Int×Int)).bind λj1=>
 (Au (λs:Int×Int=>Hn v2 s.1 s.2) (0,1)).bind λv15=>
 (SY v2).bind λv16=>
 (MR v16).bind λv17=>
 (Au (λs:Int×List Vol×List BI×Int×Int=>FW v17 s.1 s.2.1 s.2.2.1 s.2.2.2.1 s.2.2.2.2) (0,j1.2.1,j1.2.2.1,j1.2.2.2.1,0)).bind λv19=>
 some ((Ba.mk (Flash.mk j1.1) (Store.mk v19.1 (Arena.mk v19.2.1) v19.2.2.1) j1.2.2.2.2 v15 v19.2.2.2),true))
def RG (xA:Arena) (b:Int) (a:Int):Option (Int):=
 (gi xA.Knots b).bind λx1=>
 (gi x1.Kids (qu a 4)).bind λx2=>
 bif(decide (x2<0))then(some 0)
 else((gi xA.Knots x2).bind λx3=>
 (gi x3.Kids (Int.tmod a 4)).bind λx4=>
 some x4)
def V9 (xA:Arena) (b:Int) (a:Int):Option (Int):=
 ((IE a 0 15).bind λv1=>
 bif(!v1)then(some true)
 else((Gw xA b).bind λv2=>
 bif(!v2)then(some true)
 else((Ir xA).bind λv3=>
 some (!v3))):Option (Bool)).bind λj1=>
 bif j1 then(some 0)
 else((RG xA b a).bind λv4=>
 some v4)
def M0 (xA:Arena) (b:Int) (a:List Int) (y1:Int):Option ((List Int×Int)⊕(List Int)):=
 bif(decide (y1<16))then((V9 xA b y1).bind λv1=>
 (ap 8 a [v1]).bind λq1=>
 some (.inl (q1,(ad y1 1))))
 else(some (.inr a))
def QN (xA:Arena) (a:Int):Option (List Int):=
 (Au (λs:List Int×Int=>M0 xA a s.1 s.2) ([],0)).bind λv2=>
 some v2
def G0 (v1:List Int) (v2:List Int) (y2:Int):Option ((Int)⊕((Unit)⊕((Int)⊕((Unit)⊕(Bool))))):=
 bif(decide (y2<(ln v2)))then((gi v2 y2).bind λx3=>
 (gi v1 y2).bind λx4=>
 bif(x3 !=x4)then(some (.inr (.inr (.inr (.inr false)))))
 else(some (.inl (ad y2 1))))
 else(some (.inr (.inl ())))
def G3 (xA:Store) (xB:Store) (y1:Int):Option ((Int)⊕((Unit)⊕(Bool))):=
 bif(decide (y1<(ln xA.Vols)))then((gi xA.Vols y1).bind λx1=>
 (gi xB.Vols y1).bind λx2=>
 (QN xB.Arena x2.Root).bind λv1=>
 bif(x1.Id !=x2.Id)then(some (.inr (.inr false)))
 else((QN xA.Arena x1.Root).bind λv2=>
 (Au (λs:Int=>G0 v1 v2 s) 0).bind (Sum.elim (λv3=>(some (.inl (ad y1 1)))) some)))
 else(some (.inr (.inl ())))
def MS (xA:Store) (xB:Store):Option (Bool):=
 (bif((ln xA.Vols) !=(ln xB.Vols))then(some true)
 else(some (xA.Next !=xB.Next)):Option (Bool)).bind λj1=>
 bif j1 then(some false)
 else((Au (λs:Int=>G3 xA xB s) 0).bind (Sum.elim (λv4=>(some true)) some))
def Mz (xD:Ba):Option (Bool):=
 (Kq xD.Flash).bind λv1=>
 bif v1.2 then((NF xD.Store).bind λv2=>
 bif v2 then((MS v1.1.Store xD.Store).bind λv3=>
 bif v3 then(bif(v1.1.Seq==xD.Seq)then(bif(v1.1.Tx==xD.Tx)then(some (v1.1.Base==xD.Base))
 else(some false))
 else(some false))
 else(some false))
 else(some false))
 else(some false)
def DQ (a:ByteArray) (b:List Bj):Option ((ByteArray×List Bj)⊕((List Bj)⊕((List Bj×Bool)))):=
 bif(!(seq a (bs [])))then((sx a 0).bind λx1=>
 (bif(decide ((IntKind.i64.wrap x1)>=128))then(some (decide ((Gb a)>=2)))
 else(some false):Option (Bool)).bind λj1=>
 bif j1 then((sx a 1).bind λx2=>
 (ap 32 b [(Bj.mk (IntKind.i64.wrap x2) (sb (IntKind.i64.wrap x1) 128) (bs []))]).bind λq1=>
 (sub a 2 (Gb a)).bind λx3=>
 some (.inl (x3,q1)))
 else((bif(decide ((IntKind.i64.wrap x1)<128))then(some (decide ((IntKind.i64.wrap x1)<(Gb a))))
 else(some false):Option (Bool)).bind λj2=>
 bif j2 then((sub a 1 (ad 1 (IntKind.i64.wrap x1))).bind λx4=>
 (ap 32 b [(Bj.mk 0 0 x4)]).bind λq2=>
 (sub a (ad 1 (IntKind.i64.wrap x1)) (Gb a)).bind λx5=>
 some (.inl (x5,q2)))
 else(some (.inr (.inr ([],false))))))
 else(some (.inr (.inl b)))
def RF (xT:ByteArray):Option (List Bj×Bool):=
 (Au (λs:ByteArray×List Bj=>DQ s.1 s.2) (xT,[])).bind (Sum.elim (λv1=>(some (v1,true))) some)
def SU (x1:Bj) (a:List Int) (y2:Int):Option ((List Int×Int)⊕(List Int)):=
 bif(decide (y2<x1.Size))then((gi a (sb (ln a) x1.Back)).bind λx2=>
 (ap 1 a [x2]).bind λq2=>
 some (.inl (q2,(ad y2 1))))
 else(some (.inr a))
def OF (b:List Bj) (a:List Int) (y1:Int):Option ((List Int×Int)⊕((List Int)⊕((ByteArray×Bool)))):=
 bif(decide (y1<(ln b)))then((gi b y1).bind λx1=>
 (bif(x1.Back==0)then((bif(x1.Size !=0)then(some true)
 else((IE (Gb x1.Text) 1 31).bind λv1=>
 some (!v1)):Option (Bool)).bind λj2=>
 bif j2 then(some (.inr (.inr (.inr ((bs []),false)))))
 else((aps a x1.Text).bind λq1=>
 some (.inl q1)))
 else(((IE x1.Back 1 (ln a)).bind λv2=>
 bif(!v2)then(some true)
 else((IE x1.Size 1 31).bind λv3=>
 bif(!v3)then(some true)
 else(some (!(seq x1.Text (bs []))))):Option (Bool)).bind λj3=>
 bif j3 then(some (.inr (.inr (.inr ((bs []),false)))))
 else((Au (λs:List Int×Int=>SU x1 s.1 s.2) (a,0)).bind λv4=>
 some (.inl v4))):Option ((List Int)⊕((List Int×Int)⊕((List Int)⊕((ByteArray×Bool)))))).bind (Sum.elim (λj1=>(bif(decide ((ln j1)>64))then(some (.inr (.inr ((bs []),false))))
 else(some (.inl (j1,(ad y1 1)))))) some))
 else(some (.inr (.inl a)))
def QK (a:List Bj):Option (ByteArray×Bool):=
 (Au (λs:List Int×Int=>OF a s.1 s.2) ([],0)).bind (Sum.elim (λv5=>(some ((Hz v5),true))) some)
def FJ (xS:ByteArray) (c:Int) (b:Int) (a:Int):Option ((Int)⊕(Int)):=
 (bif(decide (a<31))then(bif(decide ((ad c a)<(Gb xS)))then((sx xS (ad b a)).bind λx1=>
 (sx xS (ad c a)).bind λx2=>
 some (x1==x2))
 else(some false))
 else(some false):Option (Bool)).bind λj1=>
 bif j1 then(some (.inl (ad a 1)))
 else(some (.inr a))
def Ii (xS:ByteArray) (d:Int) (b:Int) (c:Int) (a:Int):Option ((Int×Int×Int)⊕(Int×Int)):=
 bif(decide (a>=0))then((Au (λs:Int=>FJ xS d a s) 0).bind λv1=>
 (bif(decide (v1>=4))then(some (decide (v1>b)))
 else(some false):Option (Bool)).bind λj2=>
 bif j2 then(some (.inl (v1,(sb d a),(sb a 1))))
 else(some (.inl (b,c,(sb a 1)))))
 else(some (.inr (b,c)))
def TQ (xS:ByteArray) (a:Int):Option (Int×Int):=
 (Au (λs:Int×Int×Int=>Ii xS a s.1 s.2.1 s.2.2) (0,0,(sb a 1))).bind λv2=>
 some (v2.1,v2.2)
def Nl (xS:ByteArray) (a:List Bj) (b:Int):Option ((List Bj×Int)⊕(List Bj)):=
 bif(decide (b<(Gb xS)))then((TQ xS b).bind λv1=>
 bif(decide (v1.1>0))then((ap 32 a [(Bj.mk v1.2 v1.1 (bs []))]).bind λq1=>
 some (.inl (q1,(ad b v1.1))))
 else((bif(decide ((sb (ln a) 1)<0))then(some true)
 else((gi a (sb (ln a) 1)).bind λx1=>
 bif(decide (x1.Back>0))then(some true)
 else((gi a (sb (ln a) 1)).bind λx2=>
 some (decide ((Gb x2.Text)>=31)))):Option (Bool)).bind λj1=>
 (bif j1 then((ap 32 a [(Bj.mk 0 0 (bs []))]).bind λq2=>
 some (q2,(ad (sb (ln a) 1) 1)))
 else(some (a,(sb (ln a) 1))):Option (List Bj×Int)).bind λj2=>
 (gi j2.1 j2.2).bind λx3=>
 (sub xS b (ad b 1)).bind λx4=>
 (Ty x3.Text x4).bind λx5=>
 (gi j2.1 j2.2).bind λx6=>
 some (.inl ((si j2.1 j2.2 (Bj.mk x6.Back x6.Size x5)),(ad b 1)))))
 else(some (.inr a))
def RH (xS:ByteArray):Option (List Bj):=
 bif(decide ((Gb xS)>64))then(some [])
 else((Au (λs:List Bj×Int=>Nl xS s.1 s.2) ([],0)).bind λv2=>
 some v2)
def KE (v1:List Bj) (a:List Int) (y1:Int):Option ((List Int×Int)⊕(List Int)):=
 bif(decide (y1<(ln v1)))then((gi v1 y1).bind λx1=>
 (bif(decide (x1.Back>0))then((ap 1 a [(IntKind.u8.wrap (ad 128 x1.Size)),(IntKind.u8.wrap x1.Back)]).bind λq1=>
 some q1)
 else((ap 1 a [(IntKind.u8.wrap (Gb x1.Text))]).bind λq4=>
 (aps q4 x1.Text).bind λq5=>
 some q5):Option (List Int)).bind λj1=>
 some (.inl (j1,(ad y1 1))))
 else(some (.inr a))
def OG (xS:ByteArray):Option (ByteArray×Bool):=
 bif(decide ((Gb xS)>64))then(some ((bs []),false))
 else((RH xS).bind λv1=>
 (Au (λs:List Int×Int=>KE v1 s.1 s.2) ([122],0)).bind λv2=>
 bif(decide ((ad (Gb xS) 1)<=(ln v2)))then((Ty (bs [114]) xS).bind λx2=>
 some (x2,true))
 else(some ((Hz v2),true)))
def SS (xT:ByteArray):Option (ByteArray×Bool):=
 bif(seq xT (bs []))then(some ((bs []),false))
 else((sub xT 1 (Gb xT)).bind λx1=>
 (sx xT 0).bind λx2=>
 (bif(x2 !=114)then((RF x1).bind λv1=>
 (QK v1.1).bind λv2=>
 bif(!v1.2)then(some (.inr ((bs []),false)))
 else(bif(!v2.2)then(some (.inr ((bs []),false)))
 else(some (.inl v2.1))))
 else(some (.inl x1)):Option ((ByteArray)⊕((ByteArray×Bool)))).bind (Sum.elim (λj1=>((OG j1).bind λv3=>
 (bif(!v3.2)then(some true)
 else(some (!(seq v3.1 xT))):Option (Bool)).bind λj2=>
 bif j2 then(some ((bs []),false))
 else(some (j1,true)))) some))
def HP (xB:Block) (a:Int) (y1:Int):Option ((Int×Int)⊕(Int)):=
 bif(decide (y1<(ln xB.Leaves)))then((gi xB.Leaves y1).bind λx1=>
 bif(x1.Is==0)then(some (.inl ((ad a 1),(ad y1 1))))
 else(some (.inl (a,(ad y1 1)))))
 else(some (.inr a))
def NE (xB:Block):Option (Int):=
 (Au (λs:Int×Int=>HP xB s.1 s.2) (0,0)).bind λv1=>
 some v1
def MT (xF:Flash) (a:Int) (y1:Int):Option ((Int×Int)⊕(Int)):=
 bif(decide (y1<(ln xF.Blocks)))then((gi xF.Blocks y1).bind λx1=>
 bif(!x1.Bad)then((NE x1).bind λv1=>
 some (.inl ((ad a v1),(ad y1 1))))
 else(some (.inl (a,(ad y1 1)))))
 else(some (.inr a))
def eN (xF:Flash):Option (Int):=
 (Au (λs:Int×Int=>MT xF s.1 s.2) (0,0)).bind λv2=>
 some v2
def IQ (xF:Flash) (a:List Int) (y1:Int):Option ((List Int×Int)⊕(List Int)):=
 bif(decide (y1<(ln xF.Blocks)))then((gi xF.Blocks y1).bind λx1=>
 (bif(!x1.Bad)then((NE x1).bind λv1=>
 some (v1==(ln x1.Leaves)))
 else(some false):Option (Bool)).bind λj1=>
 bif j1 then((ap 8 a [y1]).bind λq1=>
 some (.inl (q1,(ad y1 1))))
 else(some (.inl (a,(ad y1 1)))))
 else(some (.inr a))
def SZ (xF:Flash):Option (List Int):=
 (Au (λs:List Int×Int=>IQ xF s.1 s.2) ([],0)).bind λv2=>
 some v2
def MV (a:Int):Option (Ba×Bool):=
 (OI a).bind λv1=>
 bif(!v1.2)then(some ((Ba.mk (Flash.mk []) (Store.mk [] (Arena.mk []) 0) 0 0 0),false))
 else((Kq v1.1).bind λv2=>
 some (v2.1,v2.2))
def GZ (v3:Ba×Bool) (v4:List A4) (a:Int):Option ((Int)⊕((Unit)⊕(Bool))):=
 bif(decide (a<(ln v4)))then(((gi v4 a).bind λx1=>
 bif(decide (x1.Page.Seq>=v3.1.Seq))then(some true)
 else((gi v4 a).bind λx2=>
 bif(x2.Page.Kind==2)then((gi v4 a).bind λx3=>
 some (decide (x3.Page.Tx>=v3.1.Tx)))
 else(some false)):Option (Bool)).bind λj1=>
 bif j1 then(some (.inr (.inr false)))
 else(some (.inl (ad a 1))))
 else(some (.inr (.inl ())))
def LW (a:List Int):Option (Bool):=
 (VP a).bind λv1=>
 bif v1 then(some true)
 else((LB a).bind λv2=>
 (Kq v2.Flash).bind λv3=>
 (Ft v2.Flash).bind λv4=>
 (Au (λs:Int=>GZ v3 v4 s) 0).bind (Sum.elim (λv5=>((MV 5).bind λv6=>
 (bif v3.2 then(bif v6.2 then((Mz v2).bind λv7=>
 bif v7 then((Mz v3.1).bind λv8=>
 bif v8 then((KO v3.1.Store v2.Store).bind λv9=>
 bif v9 then(bif(v3.1.Seq==v2.Seq)then(bif(v3.1.Tx==v2.Tx)then(bif(v3.1.Base==v2.Base)then(bif((ln v6.1.Store.Vols)==0)then(some (v6.1.Seq==1))
 else(some false))
 else(some false))
 else(some false))
 else(some false))
 else(some false))
 else(some false))
 else(some false))
 else(some false))
 else(some false):Option (Bool)).bind λj2=>
 some j2)) some))
end
end Go.TI
