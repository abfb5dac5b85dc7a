/- What functions of the given program compute. No condition. -/
import Derived.Test.YtiemmklnnjembaaGreatROT4
namespace Go.TI
open Go
noncomputable section
structure QR where
 Kind:Int
 Vol:Int
 Sector:Int
 Of:Int
 Text:ByteArray
structure Shelf where
 Vol:Int
 Texts:List ByteArray
structure BI where
 Kind:Int
 Block:Int
 Leaf:Int
 Text:ByteArray
structure Leaf where
 Is:Int
 Text:ByteArray
structure Block where
 Bad:Bool
 Wear:Int
 Leaves:List Leaf
structure Flash where
 Blocks:List Block
structure Vol where
 Id:Int
 Root:Int
structure BU where
 Leaf:Bool
 Kids:List Int
structure Arena where
 Knots:List BU
structure Store where
 Vols:List Vol
 Arena:Arena
 Next:Int
structure AH where
 Flash:Flash
 Store:Store
 Seq:Int
 Tx:Int
 Base:Int
structure Dk where
 Kind:Int
 Vol:Int
 Arg:Int
 Chunk:Int
structure World where
 AH:AH
 Codes:List Int
 Told:List ByteArray
 Model:List Shelf
 Steps:List BI
structure BE where
 b_:List Int
 i_:Int
 h_:Int
structure E7 where
 text_:ByteArray
 at_:Int
 bad_:Bool
structure Page where
 Kind:Int
 Seq:Int
 Tx:Int
 Part:Int
 Count:Int
 Text:ByteArray
structure Ar where
 Block:Int
 Leaf:Int
 Page:Page
structure Tx where
 Num:Int
 Seq:Int
 Recs:List Dk
structure AO where
 Back:Int
 Size:Int
 Text:ByteArray
def BN (xX:Int) (a:Int) (b:Int):Option (Bool):=
 bif(decide (xX>=a))then(some (decide (xX<=b)))
 else(some false)
def Rs (xQ:QR):Option (Bool):=
 ((BN xQ.Kind 1 6).bind fun v1=>
 bif(!v1)then(some true)
 else((BN xQ.Vol 1 9).bind fun v2=>
 bif(!v2)then(some true)
 else(bif(decide ((FZ xQ.Text)>64))then(some true)
 else(bif(xQ.Kind !=1)then(some (!(seq xQ.Text (bs []))))
 else(some false)))):Option (Bool)).bind fun j1=>
 bif j1 then(some false)
 else(bif(xQ.Kind==4)then((bif(xQ.Sector==0)then((BN xQ.Of 1 9).bind fun v3=>
 some v3)
 else(some false):Option (Bool)).bind fun j2=>
 some j2)
 else(bif(xQ.Of !=0)then(some false)
 else((bif(xQ.Kind==3)then(some true)
 else(some (xQ.Kind==5)):Option (Bool)).bind fun j3=>
 bif j3 then(some (xQ.Sector==0))
 else((BN xQ.Sector 0 15).bind fun v4=>
 some v4))))
def OE (xN:Int) (b:Int) (a:Int):Option (Bool):=
 bif(decide (xN>=b))then(some (decide (xN<=a)))
 else(some false)
def eD (xQ:QR):Option (Bool):=
 ((OE xQ.Kind 1 6).bind fun v1=>
 bif(!v1)then(some true)
 else((OE xQ.Vol 1 9).bind fun v2=>
 some (!v2)):Option (Bool)).bind fun j1=>
 bif j1 then(some false)
 else((bif(xQ.Kind==1)then(some (15,0,64))
 else(bif(xQ.Kind==2)then(bif(xQ.Kind==2)then(some (15,0,0))
 else(bif(xQ.Kind==4)then(some (0,9,0))
 else(some (0,0,0))))
 else(bif(xQ.Kind==6)then(some (15,0,0))
 else(bif(xQ.Kind==4)then(some (0,9,0))
 else(some (0,0,0))))):Option (Int×Int×Int)).bind fun j2=>
 (OE xQ.Sector 0 j2.1).bind fun v3=>
 bif v3 then((OE xQ.Of (if 1<j2.2.1 then 1 else j2.2.1) j2.2.1).bind fun v4=>
 bif v4 then(some (decide ((FZ xQ.Text)<=j2.2.2)))
 else(some false))
 else(some false))
def GW (xN:Int) (b:Int) (a:List Block):Option ((Int×List Block)⊕(List Block)):=
 bif(decide (b<xN))then((mk 24 (Leaf.mk 0 (bs [])) 4).bind fun q1=>
 (ap 40 a [(Block.mk false 0 q1)]).bind fun q2=>
 some (.inl ((ad b 1),q2)))
 else(some (.inr a))
def LZ (xN:Int):Option (Flash×Bool):=
 (BN xN 3 10).bind fun v1=>
 bif(!v1)then(some ((Flash.mk []),false))
 else((A0 (fun s:Int×List Block=>GW xN s.1 s.2) (0,[])).bind fun v2=>
 some ((Flash.mk v2),true))
def HJ (xF:Flash) (b:Int) (a:List Block):Option ((Int×List Block)⊕(List Block)):=
 bif(decide (b<(ln xF.Blocks)))then((gi xF.Blocks b).bind fun x1=>
 (ap 24 [] x1.Leaves).bind fun q1=>
 (ap 40 a [(Block.mk x1.Bad x1.Wear q1)]).bind fun q2=>
 some (.inl ((ad b 1),q2)))
 else(some (.inr a))
def GV (xF:Flash):Option (Flash):=
 (A0 (fun s:Int×List Block=>HJ xF s.1 s.2) (0,[])).bind fun v1=>
 some (Flash.mk v1)
def Nk (xX:Leaf):Option (Bool):=
 bif(xX.Is==0)then(some (seq xX.Text (bs [])))
 else(bif(xX.Is==1)then((BN (FZ xX.Text) 1 120).bind fun v1=>
 some v1)
 else(bif(xX.Is==2)then(some (decide ((FZ xX.Text)<=120)))
 else(some false)))
def GG (x1:Block) (a:Int):Option ((Int)⊕((Unit)⊕((Int)⊕((Unit)⊕(Bool))))):=
 bif(decide (a<(ln x1.Leaves)))then(((gi x1.Leaves a).bind fun x2=>
 (Nk x2).bind fun v2=>
 bif(!v2)then(some true)
 else(bif(decide (a>0))then((gi x1.Leaves (sb a 1)).bind fun x3=>
 bif(x3.Is==0)then((gi x1.Leaves a).bind fun x4=>
 some (x4.Is !=0))
 else(some false))
 else(some false)):Option (Bool)).bind fun j2=>
 bif j2 then(some (.inr (.inr (.inr (.inr false)))))
 else(some (.inl (ad a 1))))
 else(some (.inr (.inl ())))
def GH (xF:Flash) (a:Int):Option ((Int)⊕((Unit)⊕(Bool))):=
 bif(decide (a<(ln xF.Blocks)))then((gi xF.Blocks a).bind fun x1=>
 (bif((ln x1.Leaves) !=4)then(some true)
 else((BN x1.Wear 0 1000000000).bind fun v1=>
 some (!v1)):Option (Bool)).bind fun j1=>
 bif j1 then(some (.inr (.inr false)))
 else((A0 (fun s:Int=>GG x1 s) 0).bind (Sum.elim (fun v3=>(some (.inl (ad a 1)))) some)))
 else(some (.inr (.inl ())))
def HS (xF:Flash):Option (Bool):=
 (A0 (fun s:Int=>GH xF s) 0).bind (Sum.elim (fun v4=>((BN (ln xF.Blocks) 3 10).bind fun v5=>
 some v5)) some)
def EY (xB:Block) (a:Int):Option ((Int)⊕((Unit)⊕(Int))):=
 bif(decide (a<(ln xB.Leaves)))then((gi xB.Leaves a).bind fun x1=>
 bif(x1.Is==0)then(some (.inr (.inr a)))
 else(some (.inl (ad a 1))))
 else(some (.inr (.inl ())))
def Hz (xB:Block):Option (Int):=
 (A0 (fun s:Int=>EY xB s) 0).bind (Sum.elim (fun v1=>(some 4)) some)
def Rj (xF:Flash) (xB:Int) (a:Int) (b:ByteArray):Option (Bool):=
 (BN xB 0 (sb (ln xF.Blocks) 1)).bind fun v1=>
 bif v1 then((gi xF.Blocks xB).bind fun x1=>
 bif(!x1.Bad)then(bif(decide (a<4))then((gi xF.Blocks xB).bind fun x2=>
 (Hz x2).bind fun v2=>
 bif(a==v2)then((BN (FZ b) 1 120).bind fun v3=>
 some v3)
 else(some false))
 else(some false))
 else(some false))
 else(some false)
def LC (xF:Flash) (xB:Int) (a:Int) (b:ByteArray):Option (Flash×Bool):=
 (GV xF).bind fun v1=>
 ((HS xF).bind fun v2=>
 bif(!v2)then(some true)
 else((Rj xF xB a b).bind fun v3=>
 some (!v3)):Option (Bool)).bind fun j1=>
 bif j1 then(some (v1,false))
 else((gi v1.Blocks xB).bind fun x1=>
 (gi x1.Leaves a).bind fun x2=>
 some ((Flash.mk (si v1.Blocks xB (Block.mk x1.Bad x1.Wear (si x1.Leaves a (Leaf.mk 1 b))))),true))
def Sm (xF:Flash) (xB:Int):Option (Flash×Bool):=
 (GV xF).bind fun v1=>
 ((HS xF).bind fun v2=>
 bif(!v2)then(some true)
 else((BN xB 0 (sb (ln xF.Blocks) 1)).bind fun v3=>
 bif(!v3)then(some true)
 else((gi xF.Blocks xB).bind fun x1=>
 bif x1.Bad then(some true)
 else((gi xF.Blocks xB).bind fun x2=>
 some (x2.Wear==1000000000)))):Option (Bool)).bind fun j1=>
 bif j1 then(some (v1,false))
 else((gi xF.Blocks xB).bind fun x3=>
 (mk 24 (Leaf.mk 0 (bs [])) 4).bind fun q1=>
 (gi v1.Blocks xB).bind fun x4=>
 some ((Flash.mk (si v1.Blocks xB (Block.mk false (ad x3.Wear 1) q1))),true))
def Mc (xF:Flash) (xS:BI):Option (Flash×Bool):=
 bif(xS.Kind==1)then((LC xF xS.Block xS.Leaf xS.Text).bind fun v1=>
 some (v1.1,v1.2))
 else(bif(xS.Kind==2)then((Sm xF xS.Block).bind fun v2=>
 some (v2.1,v2.2))
 else((GV xF).bind fun v3=>
 some (v3,false)))
def EF (b:List BI) (c:Int) (a:List Block):Option ((Int×List Block)⊕((List Block)⊕((Flash×Int)))):=
 bif(decide (c<(ln b)))then(((gi b c).bind fun x1=>
 (Mc (Flash.mk a) x1).bind fun v2=>
 some (v2.2,v2.1.Blocks):Option (Bool×List Block)).bind fun j1=>
 bif(!j1.1)then(some (.inr (.inr ((Flash.mk a),c))))
 else(some (.inl ((ad c 1),j1.2))))
 else(some (.inr (.inl a)))
def JR (xF:Flash) (a:List BI):Option (Flash×Int):=
 (GV xF).bind fun v1=>
 (A0 (fun s:Int×List Block=>EF a s.1 s.2) (0,v1.Blocks)).bind (Sum.elim (fun v4=>(some ((Flash.mk v4),(ln a)))) some)
def Uz (a:List Int):Option (Bool):=
 some (decide ((ln a)>1048576))
def Hy (a:List Int) (c:Int) (b:Int):Option ((Int×Int)⊕(Int)):=
 (bif(decide (b<(ln a)))then(some (decide (b<4000)))
 else(some false):Option (Bool)).bind fun j1=>
 bif j1 then((gi a b).bind fun x1=>
 some (.inl ((ban .i64 (ad (ad (ml c 131) (IntKind.i64.wrap x1)) 7) 1073741823),(ad b 1))))
 else(some (.inr c))
def OX (a:List Int):Option (BE):=
 (A0 (fun s:Int×Int=>Hy a s.1 s.2) ((ad 36501 (ln a)),0)).bind fun v1=>
 some (BE.mk a 0 v1)
def HL (xC:BE):Option (Int×BE):=
 bif(decide (xC.i_<(ln xC.b_)))then((gi xC.b_ xC.i_).bind fun x1=>
 some ((ban .i64 (ad (ban .i64 (bxo .i64 (Int.fdiv (ad (ml xC.h_ 6364136223846793005) 1442695040888963407) (2^(min (33:Int).toNat IntKind.i64.bits))) (Int.fdiv (ad (ml xC.h_ 6364136223846793005) 1442695040888963407) (2^(min (45:Int).toNat IntKind.i64.bits)))) 255) (IntKind.i64.wrap x1)) 255),(BE.mk xC.b_ (ad xC.i_ 1) (ad (ml xC.h_ 6364136223846793005) 1442695040888963407))))
 else(some ((ban .i64 (bxo .i64 (Int.fdiv (ad (ml xC.h_ 6364136223846793005) 1442695040888963407) (2^(min (33:Int).toNat IntKind.i64.bits))) (Int.fdiv (ad (ml xC.h_ 6364136223846793005) 1442695040888963407) (2^(min (45:Int).toNat IntKind.i64.bits)))) 255),(BE.mk xC.b_ xC.i_ (ad (ml xC.h_ 6364136223846793005) 1442695040888963407))))
def Dm (xC:BE) (xN:Int):Option (Int×BE):=
 bif(decide (xN<=0))then(some (0,xC))
 else(bif(decide (xN<=256))then((HL xC).bind fun v1=>
 (rm .i64 v1.1 xN).bind fun x1=>
 some (x1,v1.2))
 else((HL xC).bind fun v2=>
 (HL v2.2).bind fun v3=>
 (HL v3.2).bind fun v4=>
 (HL v4.2).bind fun v5=>
 (rm .i64 (ad (ad (ad (ml v2.1 16777216) (ml v3.1 65536)) (ml v4.1 256)) v5.1) xN).bind fun x2=>
 some (x2,v5.2)))
def LX (xF:Flash) (xB:Int) (a:Int):Option (ByteArray×Bool):=
 ((BN xB 0 (sb (ln xF.Blocks) 1)).bind fun v1=>
 bif(!v1)then(some true)
 else((gi xF.Blocks xB).bind fun x1=>
 (BN a 0 (sb (ln x1.Leaves) 1)).bind fun v2=>
 bif(!v2)then(some true)
 else((gi xF.Blocks xB).bind fun x2=>
 (gi x2.Leaves a).bind fun x3=>
 some (x3.Is !=1))):Option (Bool)).bind fun j1=>
 bif j1 then(some ((bs []),false))
 else((gi xF.Blocks xB).bind fun x4=>
 (gi x4.Leaves a).bind fun x5=>
 some (x5.Text,true))
def GC (a:Int) (b:Int):Option ((Int×Int)⊕(Int)):=
 bif(decide (b<8))then(bif((Int.tmod a 2)==1)then(some (.inl ((xr (IntKind.u32.wrap (Int.tdiv a 2)) 3558460437),(ad b 1))))
 else(some (.inl ((IntKind.u32.wrap (Int.tdiv a 2)),(ad b 1)))))
 else(some (.inr a))
def HN (a:ByteArray) (b:Int) (c:Int):Option ((Int×Int)⊕(Int)):=
 bif(decide (c<(FZ a)))then((sx a c).bind fun x1=>
 (A0 (fun s:Int×Int=>GC s.1 s.2) ((xr b (IntKind.u32.wrap x1)),0)).bind fun v1=>
 some (.inl (v1,(ad c 1))))
 else(some (.inr b))
def Nl (b:Int) (a:ByteArray):Option (Int):=
 (A0 (fun s:Int×Int=>HN a s.1 s.2) (b,0)).bind fun v2=>
 some v2
def Lx (a:ByteArray):Option (Int):=
 (Nl 4294967295 a).bind fun v1=>
 some v1
def JQ (xX:Int):Option (ByteArray):=
 some (Hh [(IntKind.u8.wrap (Int.fdiv xX (2^(min (24:Int).toNat IntKind.u32.bits)))),(IntKind.u8.wrap (Int.fdiv xX (2^(min (16:Int).toNat IntKind.u32.bits)))),(IntKind.u8.wrap (Int.fdiv xX (2^(min (8:Int).toNat IntKind.u32.bits)))),(IntKind.u8.wrap xX)])
def I2 (a:ByteArray):Option (ByteArray×Bool):=
 (bif(decide ((sb (FZ a) 4)<0))then(some true)
 else(bif(decide ((sb (FZ a) 4)>20000))then(some true)
 else((sub a (sb (FZ a) 4) (FZ a)).bind fun x1=>
 (sub a 0 (sb (FZ a) 4)).bind fun x2=>
 (Lx x2).bind fun v1=>
 (JQ v1).bind fun v2=>
 some (!(seq x1 v2)))):Option (Bool)).bind fun j1=>
 bif j1 then(some ((bs []),false))
 else((sub a 0 (sb (FZ a) 4)).bind fun x3=>
 some (x3,true))
def MB (b:Int) (a:List Int):Option ((Int×List Int)⊕(Int×List Int)):=
 bif(decide (b>127))then((ap 1 a [(IntKind.u8.wrap (ad (Int.tmod b 128) 128))]).bind fun q1=>
 some (.inl ((qu b 128),q1)))
 else(some (.inr (b,a)))
def Hx (xN:Int):Option (ByteArray):=
 (A0 (fun s:Int×List Int=>MB s.1 s.2) (xN,[])).bind fun v1=>
 (ap 1 v1.2 [(IntKind.u8.wrap v1.1)]).bind fun q2=>
 some (Hh q2)
def Df (b:ByteArray) (e:Int) (d:Int) (a:Int) (c:Int):Option ((Int×Int×Int)⊕((Unit)⊕((Int×Int×Bool)))):=
 (bif(decide (c<(FZ b)))then(some (decide (c<(ad e 5))))
 else(some false):Option (Bool)).bind fun j1=>
 bif j1 then((sx b c).bind fun x1=>
 (sx b c).bind fun x2=>
 bif(decide (x2<128))then((bif(decide ((ad d (ml (Int.tmod (IntKind.i64.wrap x1) 128) a))>1000000000))then(some true)
 else((sub b e (ad c 1)).bind fun x3=>
 (Hx (ad d (ml (Int.tmod (IntKind.i64.wrap x1) 128) a))).bind fun v2=>
 some (!(seq v2 x3))):Option (Bool)).bind fun j2=>
 bif j2 then(some (.inr (.inr (0,0,false))))
 else(some (.inr (.inr ((ad d (ml (Int.tmod (IntKind.i64.wrap x1) 128) a)),(ad c 1),true)))))
 else(some (.inl ((ad d (ml (Int.tmod (IntKind.i64.wrap x1) 128) a)),(ml a 128),(ad c 1)))))
 else(some (.inr (.inl ())))
def HQ (a:ByteArray) (b:Int):Option (Int×Int×Bool):=
 (BN b 0 (FZ a)).bind fun v1=>
 bif(!v1)then(some (0,0,false))
 else((A0 (fun s:Int×Int×Int=>Df a b s.1 s.2.1 s.2.2) (0,1,b)).bind (Sum.elim (fun v3=>(some (0,0,false))) some))
def DW (xC:E7):Option (Int×E7):=
 (HQ xC.text_ xC.at_).bind fun v1=>
 (bif xC.bad_ then(some true)
 else(some (!v1.2.2)):Option (Bool)).bind fun j1=>
 bif j1 then(some (0,(E7.mk xC.text_ xC.at_ true)))
 else(some (v1.1,(E7.mk xC.text_ v1.2.1 xC.bad_)))
def Io (xP:Page):Option (Bool):=
 ((BN xP.Kind 1 2).bind fun v1=>
 bif(!v1)then(some true)
 else((BN xP.Seq 1 1000000000).bind fun v2=>
 bif(!v2)then(some true)
 else((BN xP.Tx 1 1000000000).bind fun v3=>
 bif(!v3)then(some true)
 else((BN xP.Count 1 9).bind fun v4=>
 bif(!v4)then(some true)
 else((BN xP.Part 0 (sb xP.Count 1)).bind fun v5=>
 bif(!v5)then(some true)
 else(some (decide ((FZ xP.Text)>90))))))):Option (Bool)).bind fun j1=>
 bif j1 then(some false)
 else(bif(xP.Kind==2)then(some true)
 else(some (xP.Count==1)))
def L8 (xN:Int):Option (ByteArray):=
 some (Hh [(IntKind.u8.wrap xN)])
def In (a:ByteArray):Option (ByteArray×Bool):=
 bif(decide ((FZ a)>20000))then(some ((bs []),false))
 else((Lx a).bind fun v1=>
 (JQ v1).bind fun v2=>
 (SA a v2).bind fun x1=>
 some (x1,true))
def E0 (xP:Page):Option (ByteArray×Bool):=
 (Io xP).bind fun v1=>
 bif(!v1)then(some ((bs []),false))
 else((L8 xP.Kind).bind fun v2=>
 (Hx xP.Seq).bind fun v3=>
 (SA v2 v3).bind fun x1=>
 (Hx xP.Tx).bind fun v4=>
 (SA x1 v4).bind fun x2=>
 (Hx xP.Part).bind fun v5=>
 (SA x2 v5).bind fun x3=>
 (Hx xP.Count).bind fun v6=>
 (SA x3 v6).bind fun x4=>
 (SA x4 xP.Text).bind fun x5=>
 (In x5).bind fun v7=>
 some (v7.1,v7.2))
def Ez (xT:ByteArray):Option (Page×Bool):=
 (I2 xT).bind fun v1=>
 (bif(!v1.2)then(some true)
 else(some (decide ((FZ v1.1)<1))):Option (Bool)).bind fun j1=>
 (DW (E7.mk v1.1 1 j1)).bind fun v2=>
 (DW v2.2).bind fun v3=>
 (DW v3.2).bind fun v4=>
 (DW v4.2).bind fun v5=>
 bif v5.2.bad_ then(some ((Page.mk 0 0 0 0 0 (bs [])),false))
 else((sx v1.1 0).bind fun x1=>
 (sub v1.1 v5.2.at_ (FZ v1.1)).bind fun x2=>
 (E0 (Page.mk (IntKind.i64.wrap x1) v2.1 v3.1 v4.1 v5.1 x2)).bind fun v6=>
 (bif(!v6.2)then(some true)
 else(some (!(seq v6.1 xT))):Option (Bool)).bind fun j2=>
 bif j2 then(some ((Page.mk 0 0 0 0 0 (bs [])),false))
 else(some ((Page.mk (IntKind.i64.wrap x1) v2.1 v3.1 v4.1 v5.1 x2),true)))
def Ef (xF:Flash) (c:Int) (a:List Ar) (b:Int):Option ((List Ar×Int)⊕(List Ar)):=
 (gi xF.Blocks c).bind fun x1=>
 bif(decide (b<(ln x1.Leaves)))then((LX xF c b).bind fun v1=>
 (Ez v1.1).bind fun v2=>
 (bif v1.2 then(some v2.2)
 else(some false):Option (Bool)).bind fun j1=>
 bif j1 then((ap 72 a [(Ar.mk c b v2.1)]).bind fun q1=>
 some (.inl (q1,(ad b 1))))
 else(some (.inl (a,(ad b 1)))))
 else(some (.inr a))
def DJ (xF:Flash) (a:List Ar) (b:Int):Option ((List Ar×Int)⊕(List Ar)):=
 bif(decide (b<(ln xF.Blocks)))then((A0 (fun s:List Ar×Int=>Ef xF b s.1 s.2) (a,0)).bind fun v3=>
 some (.inl (v3,(ad b 1))))
 else(some (.inr a))
def HO (a:List Ar) (b:Int):Option ((List Ar×Int)⊕(List Ar)):=
 (bif(decide (b>0))then((gi a (sb b 1)).bind fun x2=>
 (gi a b).bind fun x3=>
 some (decide (x2.Page.Seq>x3.Page.Seq)))
 else(some false):Option (Bool)).bind fun j2=>
 bif j2 then((gi a b).bind fun x4=>
 (gi a (sb b 1)).bind fun x5=>
 (gi a b).bind fun x6=>
 (gi (si a b x5) (sb b 1)).bind fun x7=>
 some (.inl ((si (si a b x5) (sb b 1) x4),(sb b 1))))
 else(some (.inr a))
def HP (a:List Ar) (b:Int):Option ((List Ar×Int)⊕(List Ar)):=
 bif(decide (b<(ln a)))then((A0 (fun s:List Ar×Int=>HO s.1 s.2) (a,b)).bind fun v5=>
 some (.inl (v5,(ad b 1))))
 else(some (.inr a))
def EL (xF:Flash):Option (List Ar):=
 (A0 (fun s:List Ar×Int=>DJ xF s.1 s.2) ([],0)).bind fun v4=>
 (A0 (fun s:List Ar×Int=>HP s.1 s.2) (v4,1)).bind fun v6=>
 some v6
def NQ:Option (Store):=
 some (Store.mk [] (Arena.mk []) 1)
def NR (xR:Dk):Option (Bool):=
 (BN xR.Arg 0 1000000000).bind fun v1=>
 bif(!v1)then(some false)
 else(bif(xR.Kind==1)then((bif(xR.Vol==0)then(some (xR.Chunk==0))
 else(some false):Option (Bool)).bind fun j1=>
 some j1)
 else(((BN xR.Kind 2 5).bind fun v2=>
 bif(!v2)then(some true)
 else((BN xR.Vol 1 9).bind fun v3=>
 bif(!v3)then(some true)
 else(bif(xR.Kind !=4)then(some (xR.Chunk !=0))
 else(some false))):Option (Bool)).bind fun j2=>
 bif j2 then(some false)
 else(bif(xR.Kind==2)then(some (decide (xR.Arg<=9)))
 else(bif(xR.Kind==3)then(some (xR.Arg==0))
 else(bif(xR.Kind==4)then(bif(decide (xR.Arg<16))then((BN xR.Chunk 1 1000000000).bind fun v4=>
 some v4)
 else(some false))
 else(some (decide (xR.Arg<16))))))))
def DF (xT:ByteArray) (a:List Dk) (y01:ByteArray) (y11:Int) (y21:Bool):Option ((List Dk×ByteArray×Int×Bool)⊕((List Dk)⊕((List Dk×Bool)))):=
 (bif(decide (y11<(FZ xT)))then(some (!y21))
 else(some false):Option (Bool)).bind fun j1=>
 bif j1 then((sx xT y11).bind fun x1=>
 (DW (E7.mk y01 (ad y11 1) y21)).bind fun v1=>
 (DW v1.2).bind fun v2=>
 (bif v2.2.bad_ then(some true)
 else((NR (Dk.mk (qu (IntKind.i64.wrap x1) 16) (Int.tmod (IntKind.i64.wrap x1) 16) v1.1 v2.1)).bind fun v3=>
 some (!v3)):Option (Bool)).bind fun j2=>
 bif j2 then(some (.inr (.inr ([],false))))
 else((ap 32 a [(Dk.mk (qu (IntKind.i64.wrap x1) 16) (Int.tmod (IntKind.i64.wrap x1) 16) v1.1 v2.1)]).bind fun q1=>
 some (.inl (q1,v2.2.text_,v2.2.at_,v2.2.bad_))))
 else(some (.inr (.inl a)))
def I4 (xT:ByteArray):Option (List Dk×Bool):=
 (A0 (fun s:List Dk×ByteArray×Int×Bool=>DF xT s.1 s.2.1 s.2.2.1 s.2.2.2) ([],xT,0,false)).bind (Sum.elim (fun v4=>(some (v4,true))) some)
def Hv (f:List Ar) (h:Int) (d:Int) (b:Int) (e:ByteArray) (c:Bool) (g:Int) (a:Int):Option ((Int×ByteArray×Bool×Int×Int)⊕(Int×ByteArray×Bool×Int)):=
 (bif(decide (g<(ln f)))then(some (!c))
 else(some false):Option (Bool)).bind fun j2=>
 bif j2 then((gi f g).bind fun x1=>
 (bif(x1.Page.Kind !=2)then(some true)
 else(bif(x1.Page.Tx !=h)then(some true)
 else(bif(x1.Page.Part !=d)then(some true)
 else(bif(decide (d>0))then(some (x1.Page.Count !=b))
 else(some false)))):Option (Bool)).bind fun j3=>
 bif j3 then(some (.inl (b,e,c,(ad g 1),a)))
 else((SA e x1.Page.Text).bind fun x2=>
 (bif(d==0)then(some true)
 else(some (decide (x1.Page.Seq<a))):Option (Bool)).bind fun j4=>
 bif j4 then(some (.inl (x1.Page.Count,x2,true,(ad g 1),x1.Page.Seq)))
 else(some (.inl (x1.Page.Count,x2,true,(ad g 1),a)))))
 else(some (.inr (b,e,c,a)))
def LV (e:List Ar) (f:Int) (b:Int) (c:ByteArray) (a:Int) (d:Int):Option ((Int×ByteArray×Int×Int)⊕((ByteArray×Int)⊕((Tx×Bool)))):=
 (bif(a==0)then(some true)
 else(some (decide (a<b))):Option (Bool)).bind fun j1=>
 bif j1 then((A0 (fun s:Int×ByteArray×Bool×Int×Int=>Hv e f a s.1 s.2.1 s.2.2.1 s.2.2.2.1 s.2.2.2.2) (b,c,false,0,d)).bind fun v1=>
 bif(!v1.2.2.1)then(some (.inr (.inr ((Tx.mk f v1.2.2.2 []),false))))
 else(some (.inl (v1.1,v1.2.1,(ad a 1),v1.2.2.2))))
 else(some (.inr (.inl (c,d))))
def Ri (a:List Ar) (b:Int):Option (Tx×Bool):=
 (A0 (fun s:Int×ByteArray×Int×Int=>LV a b s.1 s.2.1 s.2.2.1 s.2.2.2) (0,(bs []),0,0)).bind (Sum.elim (fun v2=>((I4 v2.1).bind fun v3=>
 some ((Tx.mk b v2.2 v3.1),v3.2))) some)
def IQ (a:List Int) (x1:Ar) (b:List Int) (c:Int):Option ((List Int×Int)⊕(List Int)):=
 bif(decide (c<(ln a)))then((gi a c).bind fun x2=>
 bif(decide (x2<x1.Page.Tx))then((gi a c).bind fun x3=>
 (ap 8 b [x3]).bind fun q1=>
 some (.inl (q1,(ad c 1))))
 else(some (.inl (b,(ad c 1)))))
 else(some (.inr b))
def IP (a:List Int) (x1:Ar) (b:List Int) (c:Int):Option ((List Int×Int)⊕(List Int)):=
 bif(decide (c<(ln a)))then((gi a c).bind fun x4=>
 bif(decide (x4>x1.Page.Tx))then((gi a c).bind fun x5=>
 (ap 8 b [x5]).bind fun q3=>
 some (.inl (q3,(ad c 1))))
 else(some (.inl (b,(ad c 1)))))
 else(some (.inr b))
def H1 (b:List Ar) (a:List Int) (c:Int):Option ((List Int×Int)⊕(List Int)):=
 bif(decide (c<(ln b)))then((gi b c).bind fun x1=>
 bif(x1.Page.Kind !=2)then(some (.inl (a,(ad c 1))))
 else((A0 (fun s:List Int×Int=>IQ a x1 s.1 s.2) ([],0)).bind fun v1=>
 (ap 8 v1 [x1.Page.Tx]).bind fun q2=>
 (A0 (fun s:List Int×Int=>IP a x1 s.1 s.2) (q2,0)).bind fun v2=>
 some (.inl (v2,(ad c 1)))))
 else(some (.inr a))
def H0 (c:List Ar) (v3:List Int) (a:List Tx) (b:Int):Option ((List Tx×Int)⊕(List Tx)):=
 bif(decide (b<(ln v3)))then((gi v3 b).bind fun x6=>
 (Ri c x6).bind fun v4=>
 bif v4.2 then((ap 40 a [v4.1]).bind fun q4=>
 some (.inl (q4,(ad b 1))))
 else(some (.inl (a,(ad b 1)))))
 else(some (.inr a))
def Nn (a:List Ar):Option (List Tx):=
 (A0 (fun s:List Int×Int=>H1 a s.1 s.2) ([],0)).bind fun v3=>
 (A0 (fun s:List Tx×Int=>H0 a v3 s.1 s.2) ([],0)).bind fun v5=>
 some v5
def EV (a:List Tx) (c:Int) (b:Int):Option ((Int×Int)⊕(Int)):=
 bif(decide (b<(ln a)))then((gi a b).bind fun x1=>
 bif(decide ((ln x1.Recs)>0))then((gi a b).bind fun x2=>
 (gi x2.Recs 0).bind fun x3=>
 bif(x3.Kind==1)then(some (.inl (b,(ad b 1))))
 else(some (.inl (c,(ad b 1)))))
 else(some (.inl (c,(ad b 1)))))
 else(some (.inr c))
def Gj (a:List Tx) (b:List Tx) (c:Int):Option ((List Tx×Int)⊕(List Tx)):=
 bif(decide (c<(ln a)))then((gi a c).bind fun x4=>
 (ap 32 [] x4.Recs).bind fun q1=>
 (ap 40 b [(Tx.mk x4.Num x4.Seq q1)]).bind fun q2=>
 some (.inl (q2,(ad c 1))))
 else(some (.inr b))
def K8 (a:List Tx):Option (List Tx):=
 (A0 (fun s:Int×Int=>EV a s.1 s.2) (0,0)).bind fun v1=>
 (A0 (fun s:List Tx×Int=>Gj a s.1 s.2) ([],v1)).bind fun v2=>
 some v2
def HI (xA:Arena) (b:Int) (a:List BU):Option ((Int×List BU)⊕(List BU)):=
 bif(decide (b<(ln xA.Knots)))then((gi xA.Knots b).bind fun x1=>
 (gi xA.Knots b).bind fun x2=>
 (ap 8 [] x2.Kids).bind fun q1=>
 (ap 32 a [(BU.mk x1.Leaf q1)]).bind fun q2=>
 some (.inl ((ad b 1),q2)))
 else(some (.inr a))
def JN (xA:Arena):Option (Arena):=
 (A0 (fun s:Int×List BU=>HI xA s.1 s.2) (0,[])).bind fun v1=>
 some (Arena.mk v1)
def DZ (xS:Store):Option (Store):=
 (ap 16 [] xS.Vols).bind fun q1=>
 (JN xS.Arena).bind fun v1=>
 some (Store.mk q1 v1 xS.Next)
def D0 (xA:Arena) (b:Int) (x1:BU) (a:Int):Option ((Int)⊕((Unit)⊕((Int)⊕((Unit)⊕(Bool))))):=
 bif(decide (a<4))then((gi x1.Kids a).bind fun x2=>
 (bif x1.Leaf then(bif(decide (x2<0))then(some true)
 else(bif(!x1.Leaf)then(bif(x2 !=(-1))then((BN x2 0 (sb b 1)).bind fun v1=>
 bif(!v1)then(some true)
 else((gi xA.Knots x2).bind fun x3=>
 some (!x3.Leaf)))
 else(some false))
 else(some false)))
 else(bif(!x1.Leaf)then(bif(x2 !=(-1))then((BN x2 0 (sb b 1)).bind fun v2=>
 bif(!v2)then(some true)
 else((gi xA.Knots x2).bind fun x4=>
 some (!x4.Leaf)))
 else(some false))
 else(some false)):Option (Bool)).bind fun j1=>
 bif j1 then(some (.inr (.inr (.inr (.inr false)))))
 else(some (.inl (ad a 1))))
 else(some (.inr (.inl ())))
def D1 (xA:Arena) (a:Int):Option ((Int)⊕((Unit)⊕(Bool))):=
 bif(decide (a<(ln xA.Knots)))then((gi xA.Knots a).bind fun x1=>
 bif((ln x1.Kids) !=4)then(some (.inr (.inr false)))
 else((A0 (fun s:Int=>D0 xA a x1 s) 0).bind (Sum.elim (fun v3=>(some (.inl (ad a 1)))) some)))
 else(some (.inr (.inl ())))
def F6 (xA:Arena):Option (Bool):=
 (A0 (fun s:Int=>D1 xA s) 0).bind (Sum.elim (fun v4=>(some true)) some)
def Gh (xA:Arena) (a:Int):Option (Bool):=
 bif(a==(-1))then(some true)
 else((BN a 0 (sb (ln xA.Knots) 1)).bind fun v1=>
 bif v1 then((gi xA.Knots a).bind fun x1=>
 some (!x1.Leaf))
 else(some false))
def K6 (xA:Arena) (b:Int) (a:Int):Option (Int):=
 bif(decide (b<0))then(some 0)
 else((gi xA.Knots b).bind fun x1=>
 (gi x1.Kids (qu a 4)).bind fun x2=>
 bif(decide (x2<0))then(some 0)
 else((gi xA.Knots x2).bind fun x3=>
 (gi x3.Kids (Int.tmod a 4)).bind fun x4=>
 some x4))
def FM (xS:Store) (a:List Int) (b:Int):Option ((List Int×Int)⊕(List Int)):=
 bif(decide (b<(ln xS.Vols)))then((gi xS.Vols b).bind fun x1=>
 (ap 8 a [x1.Root]).bind fun q1=>
 some (.inl (q1,(ad b 1))))
 else(some (.inr a))
def JL (xS:Store):Option (List Int):=
 (A0 (fun s:List Int×Int=>FM xS s.1 s.2) ([],0)).bind fun v1=>
 some v1
def Hu (xA:Arena) (b:Int) (a:List Bool) (c:Int):Option ((List Bool×Int)⊕(List Bool)):=
 bif(decide (c<4))then((gi xA.Knots b).bind fun x2=>
 (gi x2.Kids c).bind fun x3=>
 bif(decide (x3>=0))then((gi xA.Knots b).bind fun x4=>
 (gi x4.Kids c).bind fun x5=>
 (gi a x5).bind fun x6=>
 some (.inl ((si a x5 true),(ad c 1))))
 else(some (.inl (a,(ad c 1)))))
 else(some (.inr a))
def OV (xA:Arena) (a:Int):Option (List Bool):=
 (mk 1 false (ln xA.Knots)).bind fun q1=>
 bif(decide (a<0))then(some q1)
 else((gi q1 a).bind fun x1=>
 (A0 (fun s:List Bool×Int=>Hu xA a s.1 s.2) ((si q1 a true),0)).bind fun v1=>
 some v1)
def Ey (xA:Arena) (a:List Int) (b:Bool) (c:Int):Option ((Bool×Int)⊕(Bool)):=
 (bif(decide (c<(ln a)))then(some b)
 else(some false):Option (Bool)).bind fun j1=>
 bif j1 then((gi a c).bind fun x1=>
 (Gh xA x1).bind fun v2=>
 some (.inl (v2,(ad c 1))))
 else(some (.inr b))
def Fz (v5:List Bool) (a:List Bool) (b:Int):Option ((List Bool×Int)⊕(List Bool)):=
 bif(decide (b<(ln v5)))then((gi a b).bind fun x3=>
 bif x3 then((gi a b).bind fun x4=>
 some (.inl ((si a b true),(ad b 1))))
 else((gi v5 b).bind fun x5=>
 (gi a b).bind fun x6=>
 some (.inl ((si a b x5),(ad b 1)))))
 else(some (.inr a))
def Ex (xA:Arena) (a:List Int) (b:List Bool) (c:Int):Option ((List Bool×Int)⊕(List Bool)):=
 bif(decide (c<(ln a)))then((gi a c).bind fun x2=>
 (OV xA x2).bind fun v5=>
 (A0 (fun s:List Bool×Int=>Fz v5 s.1 s.2) (b,0)).bind fun v6=>
 some (.inl (v6,(ad c 1))))
 else(some (.inr b))
def Ev (c:List Int) (j2:Bool×List Int) (b:Int) (a:List Int):Option ((Int×List Int)⊕(List Int)):=
 (bif(decide (b<4))then(some (!j2.1))
 else(some false):Option (Bool)).bind fun j3=>
 bif j3 then((gi a b).bind fun x10=>
 bif(decide (x10>=0))then((gi a b).bind fun x11=>
 (gi c x11).bind fun x12=>
 (gi a b).bind fun x13=>
 some (.inl ((ad b 1),(si a b x12))))
 else(some (.inl ((ad b 1),a))))
 else(some (.inr a))
def Ew (xA:Arena) (v7:List Bool) (a:List Int) (c:Int) (b:List BU):Option ((List Int×Int×List BU)⊕(List Int×List BU)):=
 bif(decide (c<(ln xA.Knots)))then((gi v7 c).bind fun x7=>
 bif(!x7)then(some (.inl (a,(ad c 1),b)))
 else(((gi xA.Knots c).bind fun x8=>
 (gi xA.Knots c).bind fun x9=>
 (ap 8 [] x9.Kids).bind fun q4=>
 some (x8.Leaf,q4):Option (Bool×List Int)).bind fun j2=>
 (A0 (fun s:Int×List Int=>Ev a j2 s.1 s.2) (0,j2.2)).bind fun v8=>
 (gi a c).bind fun x14=>
 (ap 32 b [(BU.mk j2.1 v8)]).bind fun q7=>
 some (.inl ((si a c (ln b)),(ad c 1),q7))))
 else(some (.inr (a,b)))
def Eu (v9:List Int×List BU) (a:List Int) (b:Int):Option ((List Int×Int)⊕(List Int)):=
 bif(decide (b<(ln a)))then((gi a b).bind fun x15=>
 bif(decide (x15>=0))then((gi a b).bind fun x16=>
 (gi v9.1 x16).bind fun x17=>
 (gi a b).bind fun x18=>
 some (.inl ((si a b x17),(ad b 1))))
 else(some (.inl (a,(ad b 1)))))
 else(some (.inr a))
def HM (xA:Arena) (a:List Int):Option (Arena×List Int):=
 (ap 8 [] a).bind fun q1=>
 (F6 xA).bind fun v1=>
 (A0 (fun s:Bool×Int=>Ey xA a s.1 s.2) (v1,0)).bind fun v3=>
 bif(!v3)then((JN xA).bind fun v4=>
 some (v4,q1))
 else((mk 1 false (ln xA.Knots)).bind fun q2=>
 (A0 (fun s:List Bool×Int=>Ex xA a s.1 s.2) (q2,0)).bind fun v7=>
 (mk 8 0 (ln xA.Knots)).bind fun q3=>
 (A0 (fun s:List Int×Int×List BU=>Ew xA v7 s.1 s.2.1 s.2.2) (q3,0,[])).bind fun v9=>
 (A0 (fun s:List Int×Int=>Eu v9 s.1 s.2) (q1,0)).bind fun v10=>
 some ((Arena.mk v9.2),v10))
def GD (xS:Store) (x1:Vol) (a:Int):Option ((Int)⊕((Unit)⊕((Int)⊕((Unit)⊕(Bool))))):=
 bif(decide (a<16))then((K6 xS.Arena x1.Root a).bind fun v6=>
 bif(decide (v6>=xS.Next))then(some (.inr (.inr (.inr (.inr false)))))
 else(some (.inl (ad a 1))))
 else(some (.inr (.inl ())))
def GE (xS:Store) (a:Int):Option ((Int)⊕((Unit)⊕(Bool))):=
 bif(decide (a<(ln xS.Vols)))then((gi xS.Vols a).bind fun x1=>
 ((BN x1.Id 1 9).bind fun v3=>
 bif(!v3)then(some true)
 else(bif(decide (a>0))then((gi xS.Vols (sb a 1)).bind fun x2=>
 bif(decide (x2.Id>=x1.Id))then(some true)
 else((Gh xS.Arena x1.Root).bind fun v4=>
 some (!v4)))
 else((Gh xS.Arena x1.Root).bind fun v5=>
 some (!v5))):Option (Bool)).bind fun j2=>
 bif j2 then(some (.inr (.inr false)))
 else((A0 (fun s:Int=>GD xS x1 s) 0).bind (Sum.elim (fun v7=>(some (.inl (ad a 1)))) some)))
 else(some (.inr (.inl ())))
def LB (xS:Store):Option (Bool):=
 (bif(decide ((ln xS.Vols)>3))then(some true)
 else((F6 xS.Arena).bind fun v1=>
 bif(!v1)then(some true)
 else((BN xS.Next 1 1000000000).bind fun v2=>
 some (!v2))):Option (Bool)).bind fun j1=>
 bif j1 then(some false)
 else((A0 (fun s:Int=>GE xS s) 0).bind (Sum.elim (fun v8=>(((JL xS).bind fun v9=>
 (HM xS.Arena v9).bind fun v10=>
 some v10.1.Knots:Option (List BU)).bind fun j3=>
 some ((ln j3)==(ln xS.Arena.Knots)))) some))
def EU (xS:Store) (b:Int) (a:Int):Option ((Int)⊕((Unit)⊕(Int))):=
 bif(decide (a<(ln xS.Vols)))then((gi xS.Vols a).bind fun x1=>
 bif(x1.Id==b)then(some (.inr (.inr a)))
 else(some (.inl (ad a 1))))
 else(some (.inr (.inl ())))
def ED (xS:Store) (a:Int):Option (Int):=
 (A0 (fun s:Int=>EU xS a s) 0).bind (Sum.elim (fun v1=>(some (-1))) some)
def IH (xS:Store) (xR:Dk) (a:List Vol) (b:Int):Option ((List Vol×Int)⊕(List Vol)):=
 bif(decide (b<(ln xS.Vols)))then((gi xS.Vols b).bind fun x2=>
 bif(decide (x2.Id<xR.Vol))then((gi xS.Vols b).bind fun x3=>
 (ap 16 a [x3]).bind fun q1=>
 some (.inl (q1,(ad b 1))))
 else(some (.inl (a,(ad b 1)))))
 else(some (.inr a))
def IG (xS:Store) (xR:Dk) (a:List Vol) (b:Int):Option ((List Vol×Int)⊕(List Vol)):=
 bif(decide (b<(ln xS.Vols)))then((gi xS.Vols b).bind fun x4=>
 bif(decide (x4.Id>xR.Vol))then((gi xS.Vols b).bind fun x5=>
 (ap 16 a [x5]).bind fun q3=>
 some (.inl (q3,(ad b 1))))
 else(some (.inl (a,(ad b 1)))))
 else(some (.inr a))
def K3 (xS:Store) (xR:Dk):Option (Store×Bool):=
 (bif(decide (xR.Arg>0))then((ED xS xR.Arg).bind fun v1=>
 bif(decide (v1<0))then((DZ xS).bind fun v2=>
 some (.inr (v2,false)))
 else((gi xS.Vols v1).bind fun x1=>
 some (.inl x1.Root)))
 else(some (.inl (-1))):Option ((Int)⊕((Store×Bool)))).bind (Sum.elim (fun j1=>(((ED xS xR.Vol).bind fun v3=>
 bif(decide (v3>=0))then(some true)
 else(some ((ln xS.Vols)==3)):Option (Bool)).bind fun j2=>
 bif j2 then((DZ xS).bind fun v4=>
 some (v4,false))
 else((DZ xS).bind fun v5=>
 (A0 (fun s:List Vol×Int=>IH xS xR s.1 s.2) ([],0)).bind fun v6=>
 (ap 16 v6 [(Vol.mk xR.Vol j1)]).bind fun q2=>
 (A0 (fun s:List Vol×Int=>IG xS xR s.1 s.2) (q2,0)).bind fun v7=>
 some ((Store.mk v7 v5.Arena v5.Next),true)))) some)
def GU (j1:List Int×List BU) (b:Int) (a:List Vol):Option ((Int×List Vol)⊕(List Vol)):=
 bif(decide (b<(ln a)))then((gi j1.1 b).bind fun x1=>
 (gi a b).bind fun x2=>
 some (.inl ((ad b 1),(si a b (Vol.mk x2.Id x1)))))
 else(some (.inr a))
def FL (xS:Store):Option (Store):=
 ((JL xS).bind fun v1=>
 (HM xS.Arena v1).bind fun v2=>
 some (v2.2,v2.1.Knots):Option (List Int×List BU)).bind fun j1=>
 ((ap 16 [] xS.Vols).bind fun q1=>
 some q1:Option (List Vol)).bind fun j2=>
 (A0 (fun s:Int×List Vol=>GU j1 s.1 s.2) (0,j2)).bind fun v6=>
 some (Store.mk v6 (Arena.mk j1.2) xS.Next)
def Rn (xA:Arena) (b:Int) (a:Int) (xN:Int):Option (Arena×Int):=
 (JN xA).bind fun v1=>
 ((F6 xA).bind fun v2=>
 bif(!v2)then(some true)
 else((Gh xA b).bind fun v3=>
 bif(!v3)then(some true)
 else((BN a 0 15).bind fun v4=>
 bif(!v4)then(some true)
 else(some (decide (xN<0))))):Option (Bool)).bind fun j1=>
 bif j1 then(some (v1,b))
 else((mk 8 0 4).bind fun q1=>
 (bif(decide (b>=0))then((gi xA.Knots b).bind fun x1=>
 (ap 8 [] x1.Kids).bind fun q2=>
 (gi q2 (qu a 4)).bind fun x2=>
 bif(decide (x2>=0))then((gi xA.Knots x2).bind fun x3=>
 (ap 8 [] x3.Kids).bind fun q3=>
 some (q3,q2))
 else(some (q1,q2)))
 else(some (q1,[(-1),(-1),(-1),(-1)])):Option (List Int×List Int)).bind fun j2=>
 (gi j2.1 (Int.tmod a 4)).bind fun x4=>
 (gi j2.2 (qu a 4)).bind fun x5=>
 (ap 32 v1.Knots [(BU.mk true (si j2.1 (Int.tmod a 4) xN)),(BU.mk false (si j2.2 (qu a 4) (ln v1.Knots)))]).bind fun q4=>
 some ((Arena.mk q4),(sb (ln q4) 1)))
def Rr (xS:Store) (xR:Dk):Option (Store×Bool):=
 ((LB xS).bind fun v1=>
 bif(!v1)then(some true)
 else((NR xR).bind fun v2=>
 some (!v2)):Option (Bool)).bind fun j1=>
 bif j1 then((DZ xS).bind fun v3=>
 some (v3,false))
 else(bif(xR.Kind==1)then((bif(xR.Arg==0)then(some 1)
 else(some xR.Arg):Option (Int)).bind fun j2=>
 some ((Store.mk [] (Arena.mk []) j2),true))
 else(bif(xR.Kind==2)then((K3 xS xR).bind fun v4=>
 some (v4.1,v4.2))
 else((ED xS xR.Vol).bind fun v5=>
 (bif(decide (v5<0))then(some true)
 else(some (xR.Chunk==1000000000)):Option (Bool)).bind fun j3=>
 bif j3 then((DZ xS).bind fun v6=>
 some (v6,false))
 else((DZ xS).bind fun v7=>
 bif(xR.Kind==3)then((dr xS.Vols 0 v5).bind fun x1=>
 (dr xS.Vols (ad v5 1) (ln xS.Vols)).bind fun x2=>
 (ap 16 [] x1).bind fun q1=>
 (ap 16 q1 x2).bind fun q2=>
 (FL (Store.mk q2 v7.Arena v7.Next)).bind fun v8=>
 some (v8,true))
 else(((gi xS.Vols v5).bind fun x3=>
 (Rn xS.Arena x3.Root xR.Arg xR.Chunk).bind fun v9=>
 some (v9.2,v9.1.Knots):Option (Int×List BU)).bind fun j4=>
 (gi v7.Vols v5).bind fun x4=>
 bif(decide (xR.Chunk>=v7.Next))then((FL (Store.mk (si v7.Vols v5 (Vol.mk x4.Id j4.1)) (Arena.mk j4.2) (ad xR.Chunk 1))).bind fun v11=>
 some (v11,true))
 else((FL (Store.mk (si v7.Vols v5 (Vol.mk x4.Id j4.1)) (Arena.mk j4.2) v7.Next)).bind fun v12=>
 some (v12,true)))))))
def FR (xS:Store) (d:List Dk) (e:Int) (a:List Vol) (b:List BU) (c:Int):Option ((Int×List Vol×List BU×Int)⊕((List Vol×List BU×Int)⊕((Store×Bool)))):=
 bif(decide (e<(ln d)))then(((gi d e).bind fun x1=>
 (Rr (Store.mk a (Arena.mk b) c) x1).bind fun v2=>
 some (v2.2,v2.1.Vols,v2.1.Arena.Knots,v2.1.Next):Option (Bool×List Vol×List BU×Int)).bind fun j1=>
 bif(!j1.1)then((DZ xS).bind fun v4=>
 some (.inr (.inr (v4,false))))
 else(some (.inl ((ad e 1),j1.2.1,j1.2.2.1,j1.2.2.2))))
 else(some (.inr (.inl (a,b,c))))
def Mb (xS:Store) (a:List Dk):Option (Store×Bool):=
 (DZ xS).bind fun v1=>
 (A0 (fun s:Int×List Vol×List BU×Int=>FR xS a s.1 s.2.1 s.2.2.1 s.2.2.2) (0,v1.Vols,v1.Arena.Knots,v1.Next)).bind (Sum.elim (fun v5=>(some ((Store.mk v5.1 (Arena.mk v5.2.1) v5.2.2),true))) some)
def FQ (v2:List Ar) (a:Int) (b:Int) (c:Int):Option ((Int×Int×Int)⊕(Int×Int)):=
 bif(decide (a<(ln v2)))then((gi v2 a).bind fun x1=>
 (bif(decide (x1.Page.Seq>=b))then((gi v2 a).bind fun x2=>
 some (ad x2.Page.Seq 1))
 else(some b):Option (Int)).bind fun j1=>
 ((gi v2 a).bind fun x3=>
 bif(x3.Page.Kind==2)then((gi v2 a).bind fun x4=>
 some (decide (x4.Page.Tx>=c)))
 else(some false):Option (Bool)).bind fun j2=>
 bif j2 then((gi v2 a).bind fun x5=>
 some (.inl ((ad a 1),j1,(ad x5.Page.Tx 1))))
 else(some (.inl ((ad a 1),j1,c))))
 else(some (.inr (b,c)))
def FP (v7:List Tx) (a:Int) (b:List Vol) (c:List BU) (d:Int) (e:Int):Option ((Int×List Vol×List BU×Int×Int)⊕(List Vol×List BU×Int×Int)):=
 bif(decide (a<(ln v7)))then((bif(a==0)then((gi v7 a).bind fun x6=>
 some x6.Num)
 else(some e):Option (Int)).bind fun j3=>
 (gi v7 a).bind fun x7=>
 (Mb (Store.mk b (Arena.mk c) d) x7.Recs).bind fun v8=>
 some (.inl ((ad a 1),v8.1.Vols,v8.1.Arena.Knots,v8.1.Next,j3)))
 else(some (.inr (b,c,d,e)))
def E4 (xF:Flash):Option (AH×Bool):=
 (HS xF).bind fun v1=>
 bif(!v1)then(some ((AH.mk (Flash.mk []) (Store.mk [] (Arena.mk []) 0) 0 0 0),false))
 else((EL xF).bind fun v2=>
 (GV xF).bind fun v3=>
 (NQ).bind fun v4=>
 (A0 (fun s:Int×Int×Int=>FQ v2 s.1 s.2.1 s.2.2) (0,1,1)).bind fun v5=>
 (Nn v2).bind fun v6=>
 (K8 v6).bind fun v7=>
 (A0 (fun s:Int×List Vol×List BU×Int×Int=>FP v7 s.1 s.2.1 s.2.2.1 s.2.2.2.1 s.2.2.2.2) (0,v4.Vols,v4.Arena.Knots,v4.Next,0)).bind fun v9=>
 some ((AH.mk v3 (Store.mk v9.1 (Arena.mk v9.2.1) v9.2.2.1) v5.1 v5.2 v9.2.2.2),true))
def KE (a:Int):Option (AH×Bool):=
 (LZ a).bind fun v1=>
 bif(!v1.2)then(some ((AH.mk (Flash.mk []) (Store.mk [] (Arena.mk []) 0) 0 0 0),false))
 else((E4 v1.1).bind fun v2=>
 some (v2.1,v2.2))
def Jj (xC:BE) (a:List Int):Option (Int×BE):=
 (Dm xC (ln a)).bind fun v1=>
 (gi a v1.1).bind fun x1=>
 some (x1,v1.2)
def HK (xC:BE) (xN:Int):Option (Bool×BE):=
 (Dm xC xN).bind fun v1=>
 some ((v1.1==0),v1.2)
def L9 (xC:BE) (a:List ByteArray):Option (ByteArray×BE):=
 (Dm xC (ln a)).bind fun v1=>
 (gi a v1.1).bind fun x1=>
 some (x1,v1.2)
def Ni (xC:BE):Option (ByteArray×BE):=
 (L9 xC [(bs []),(bs [97]),(bs [98,98]),(bs [97,98,99,100,97,98,99,100,97,98,99,100]),(bs [104,101,108,108,111]),(bs [104,101,108,108,111,32,104,101,108,108,111,32,104,101,108,108,111]),(bs [122,122,122,122,122,122,122,122,122,122,122,122]),(bs [113,49]),(bs [113,50]),(bs [113,51])]).bind fun v1=>
 some (v1.1,v1.2)
def Nj (xC:BE) (xD:AH):Option (QR×BE):=
 (Jj xC [1,1,1,1,1,1,2,3,4,5,6]).bind fun v1=>
 (Dm v1.2 3).bind fun v2=>
 (bif((ln xD.Store.Vols)==0)then(some (3,(ad 1 v2.1),v2.2.b_,v2.2.i_,v2.2.h_))
 else((bif(v1.1 !=3)then(bif(v1.1 !=4)then((HK v2.2 8).bind fun v3=>
 some ((!v3.1),v3.2.b_,v3.2.i_,v3.2.h_))
 else(some (false,v2.2.b_,v2.2.i_,v2.2.h_)))
 else(some (false,v2.2.b_,v2.2.i_,v2.2.h_)):Option (Bool×List Int×Int×Int)).bind fun j2=>
 bif j2.1 then((Dm (BE.mk j2.2.1 j2.2.2.1 j2.2.2.2) (ln xD.Store.Vols)).bind fun v4=>
 (gi xD.Store.Vols v4.1).bind fun x1=>
 some (v1.1,x1.Id,v4.2.b_,v4.2.i_,v4.2.h_))
 else(some (v1.1,(ad 1 v2.1),j2.2.1,j2.2.2.1,j2.2.2.2))):Option (Int×Int×List Int×Int×Int)).bind fun j1=>
 (bif(j1.1==5)then((HK (BE.mk j1.2.2.1 j1.2.2.2.1 j1.2.2.2.2) 3).bind fun v8=>
 some ((!v8.1),v8.2.b_,v8.2.i_,v8.2.h_))
 else(some (false,j1.2.2.1,j1.2.2.2.1,j1.2.2.2.2)):Option (Bool×List Int×Int×Int)).bind fun j3=>
 (bif j3.1 then(some 1)
 else(some j1.1):Option (Int)).bind fun j4=>
 (bif(j4==1)then((Ni (BE.mk j3.2.1 j3.2.2.1 j3.2.2.2)).bind fun v9=>
 (Dm v9.2 16).bind fun v10=>
 some (v10.1,0,v9.1,v10.2.b_,v10.2.i_,v10.2.h_))
 else((bif(j4==2)then(some (j4==2))
 else(some (j4==6)):Option (Bool)).bind fun j6=>
 bif j6 then((Dm (BE.mk j3.2.1 j3.2.2.1 j3.2.2.2) 16).bind fun v11=>
 some (v11.1,0,(bs []),v11.2.b_,v11.2.i_,v11.2.h_))
 else(bif(j4==4)then((Dm (BE.mk j3.2.1 j3.2.2.1 j3.2.2.2) 3).bind fun v12=>
 bif(decide ((ln xD.Store.Vols)>0))then((gi xD.Store.Vols 0).bind fun x5=>
 some (0,x5.Id,(bs []),v12.2.b_,v12.2.i_,v12.2.h_))
 else(some (0,(ad 1 v12.1),(bs []),v12.2.b_,v12.2.i_,v12.2.h_)))
 else(some (0,0,(bs []),j3.2.1,j3.2.2.1,j3.2.2.2)))):Option (Int×Int×ByteArray×List Int×Int×Int)).bind fun j5=>
 some ((QR.mk j4 j1.2.1 j5.1 j5.2.1 j5.2.2.1),(BE.mk j5.2.2.2.1 j5.2.2.2.2.1 j5.2.2.2.2.2))
def L7 (xD:AH):Option (AH):=
 (GV xD.Flash).bind fun v1=>
 (DZ xD.Store).bind fun v2=>
 some (AH.mk v1 v2 xD.Seq xD.Tx xD.Base)
def MC (xA:Arena) (b:Int) (a:Int):Option (Int):=
 ((F6 xA).bind fun v1=>
 bif(!v1)then(some true)
 else((Gh xA b).bind fun v2=>
 bif(!v2)then(some true)
 else((BN a 0 15).bind fun v3=>
 some (!v3))):Option (Bool)).bind fun j1=>
 bif j1 then(some 0)
 else((K6 xA b a).bind fun v4=>
 some v4)
def FW (xA:Arena) (b:Int) (a:List Int) (c:Int):Option ((List Int×Int)⊕(List Int)):=
 bif(decide (c<16))then((MC xA b c).bind fun v1=>
 (ap 8 a [v1]).bind fun q1=>
 some (.inl (q1,(ad c 1))))
 else(some (.inr a))
def HU (xA:Arena) (a:Int):Option (List Int):=
 (A0 (fun s:List Int×Int=>FW xA a s.1 s.2) ([],0)).bind fun v2=>
 some v2
def EK (xA:List Int) (xB:List Int) (a:Int):Option ((Int)⊕((Unit)⊕(Bool))):=
 bif(decide (a<(ln xA)))then((gi xA a).bind fun x1=>
 (gi xB a).bind fun x2=>
 bif(x1 !=x2)then(some (.inr (.inr false)))
 else(some (.inl (ad a 1))))
 else(some (.inr (.inl ())))
def Im (xA:List Int) (xB:List Int):Option (Bool):=
 bif((ln xA) !=(ln xB))then(some false)
 else((A0 (fun s:Int=>EK xA xB s) 0).bind (Sum.elim (fun v1=>(some true)) some))
def Gk (xA:Store) (xB:Store) (a:Int):Option ((Int)⊕((Unit)⊕(Bool))):=
 bif(decide (a<(ln xA.Vols)))then((gi xA.Vols a).bind fun x1=>
 (gi xB.Vols a).bind fun x2=>
 bif(x1.Id !=x2.Id)then(some (.inr (.inr false)))
 else((gi xA.Vols a).bind fun x3=>
 (gi xB.Vols a).bind fun x4=>
 (HU xA.Arena x3.Root).bind fun v1=>
 (HU xB.Arena x4.Root).bind fun v2=>
 (Im v1 v2).bind fun v3=>
 bif(!v3)then(some (.inr (.inr false)))
 else(some (.inl (ad a 1)))))
 else(some (.inr (.inl ())))
def K9 (xA:Store) (xB:Store):Option (Bool):=
 (bif((ln xA.Vols) !=(ln xB.Vols))then(some true)
 else(some (xA.Next !=xB.Next)):Option (Bool)).bind fun j1=>
 bif j1 then(some false)
 else((A0 (fun s:Int=>Gk xA xB s) 0).bind (Sum.elim (fun v4=>(some true)) some))
def Md (xD:AH):Option (Bool):=
 (E4 xD.Flash).bind fun v1=>
 bif v1.2 then((K9 v1.1.Store xD.Store).bind fun v2=>
 bif v2 then(bif(v1.1.Seq==xD.Seq)then(bif(v1.1.Tx==xD.Tx)then(bif(v1.1.Base==xD.Base)then((LB xD.Store).bind fun v3=>
 some v3)
 else(some false))
 else(some false))
 else(some false))
 else(some false))
 else(some false)
def Gg (a:List Int) (xX:Int) (b:List Int) (c:Int):Option ((List Int×Int)⊕(List Int)):=
 bif(decide (c<(ln a)))then((gi a c).bind fun x1=>
 bif(decide (x1<xX))then((gi a c).bind fun x2=>
 (ap 8 b [x2]).bind fun q1=>
 some (.inl (q1,(ad c 1))))
 else(some (.inl (b,(ad c 1)))))
 else(some (.inr b))
def ET (a:List Int) (xX:Int) (b:List Int) (c:Int):Option ((List Int×Int)⊕(List Int)):=
 bif(decide (c<(ln a)))then((gi a c).bind fun x3=>
 bif(decide (x3>xX))then((gi a c).bind fun x4=>
 (ap 8 b [x4]).bind fun q3=>
 some (.inl (q3,(ad c 1))))
 else(some (.inl (b,(ad c 1)))))
 else(some (.inr b))
def K4 (a:List Int) (xX:Int):Option (List Int):=
 (A0 (fun s:List Int×Int=>Gg a xX s.1 s.2) ([],0)).bind fun v1=>
 (bif(decide (xX>0))then((ap 8 v1 [xX]).bind fun q2=>
 some q2)
 else(some v1):Option (List Int)).bind fun j1=>
 (A0 (fun s:List Int×Int=>ET a xX s.1 s.2) (j1,0)).bind fun v2=>
 some v2
def IM (v1:List Int) (a:List Int) (b:Int):Option ((List Int×Int)⊕(List Int)):=
 bif(decide (b<(ln v1)))then((gi v1 b).bind fun x2=>
 (K4 a x2).bind fun v2=>
 some (.inl (v2,(ad b 1))))
 else(some (.inr a))
def IN (xS:Store) (a:List Int) (b:Int):Option ((List Int×Int)⊕(List Int)):=
 bif(decide (b<(ln xS.Vols)))then((gi xS.Vols b).bind fun x1=>
 (HU xS.Arena x1.Root).bind fun v1=>
 (A0 (fun s:List Int×Int=>IM v1 s.1 s.2) (a,0)).bind fun v3=>
 some (.inl (v3,(ad b 1))))
 else(some (.inr a))
def Jl (xS:Store):Option (List Int):=
 (A0 (fun s:List Int×Int=>IN xS s.1 s.2) ([],0)).bind fun v4=>
 some v4
def Gd (a:List Ar) (c:Int) (b:Int):Option ((Int)⊕((Unit)⊕((Ar×Bool)))):=
 bif(decide (b>=0))then(((gi a b).bind fun x1=>
 bif(x1.Page.Kind==1)then((gi a b).bind fun x2=>
 some (x2.Page.Tx==c))
 else(some false):Option (Bool)).bind fun j1=>
 bif j1 then((gi a b).bind fun x3=>
 some (.inr (.inr (x3,true))))
 else(some (.inl (sb b 1))))
 else(some (.inr (.inl ())))
def IF (a:List Ar) (b:Int):Option (Ar×Bool):=
 (A0 (fun s:Int=>Gd a b s) (sb (ln a) 1)).bind (Sum.elim (fun v1=>(some ((Ar.mk 0 0 (Page.mk 0 0 0 0 0 (bs []))),false))) some)
def BR (xT:ByteArray) (b:List AO) (a:Int):Option ((List AO×Int)⊕((List AO)⊕((List AO×Bool)))):=
 bif(decide (a<(FZ xT)))then((sx xT a).bind fun x1=>
 bif(decide ((IntKind.i64.wrap x1)>128))then(bif(decide ((ad a 2)>(FZ xT)))then(some (.inr (.inr (b,false))))
 else((sx xT (ad a 1)).bind fun x2=>
 (ap 32 b [(AO.mk (IntKind.i64.wrap x2) (sb (IntKind.i64.wrap x1) 128) (bs []))]).bind fun q1=>
 some (.inl (q1,(ad a 2)))))
 else(bif(decide ((ad (ad a 1) (IntKind.i64.wrap x1))>(FZ xT)))then(some (.inr (.inr (b,false))))
 else((sub xT (ad a 1) (ad (ad a 1) (IntKind.i64.wrap x1))).bind fun x3=>
 (ap 32 b [(AO.mk 0 0 x3)]).bind fun q2=>
 some (.inl (q2,(ad (ad a 1) (IntKind.i64.wrap x1)))))))
 else(some (.inr (.inl b)))
def Hw (xT:ByteArray):Option (List AO×Bool):=
 (A0 (fun s:List AO×Int=>BR xT s.1 s.2) ([],0)).bind (Sum.elim (fun v1=>(some (v1,true))) some)
def Dy (x1:AO) (a:List Int) (b:Int):Option ((List Int×Int)⊕(List Int)):=
 bif(decide (b<x1.Size))then((gi a (sb (ln a) x1.Back)).bind fun x2=>
 (ap 1 a [x2]).bind fun q2=>
 some (.inl (q2,(ad b 1))))
 else(some (.inr a))
def Dz (b:List AO) (a:List Int) (c:Int):Option ((List Int×Int)⊕((List Int)⊕((ByteArray×Bool)))):=
 bif(decide (c<(ln b)))then((gi b c).bind fun x1=>
 (bif(x1.Back==0)then(((BN (FZ x1.Text) 1 31).bind fun v1=>
 bif(!v1)then(some true)
 else(some (x1.Size !=0)):Option (Bool)).bind fun j2=>
 bif j2 then(some (.inr (.inr (.inr ((bs []),false)))))
 else((ap 1 a (mG x1.Text)).bind fun q1=>
 some (.inl q1)))
 else(((BN x1.Back 1 (ln a)).bind fun v2=>
 bif(!v2)then(some true)
 else((BN x1.Size 1 31).bind fun v3=>
 bif(!v3)then(some true)
 else(some (!(seq x1.Text (bs []))))):Option (Bool)).bind fun j3=>
 bif j3 then(some (.inr (.inr (.inr ((bs []),false)))))
 else((A0 (fun s:List Int×Int=>Dy x1 s.1 s.2) (a,0)).bind fun v4=>
 some (.inl v4))):Option ((List Int)⊕((List Int×Int)⊕((List Int)⊕((ByteArray×Bool)))))).bind (Sum.elim (fun j1=>(bif(decide ((ln j1)>64))then(some (.inr (.inr ((bs []),false))))
 else(some (.inl (j1,(ad c 1)))))) some))
 else(some (.inr (.inl a)))
def EM (a:List AO):Option (ByteArray×Bool):=
 (A0 (fun s:List Int×Int=>Dz a s.1 s.2) ([],0)).bind (Sum.elim (fun v5=>(some ((Hh v5),true))) some)
def FN (xS:ByteArray) (b:Int) (c:Int) (a:Int):Option ((Int)⊕(Int)):=
 (bif(decide (a<31))then(bif(decide ((ad c a)<(FZ xS)))then((sx xS (ad b a)).bind fun x1=>
 (sx xS (ad c a)).bind fun x2=>
 some (x1==x2))
 else(some false))
 else(some false):Option (Bool)).bind fun j1=>
 bif j1 then(some (.inl (ad a 1)))
 else(some (.inr a))
def JP (xS:ByteArray) (a:Int) (b:Int):Option (Int):=
 (A0 (fun s:Int=>FN xS a b s) 0).bind fun v1=>
 some v1
def DE (xS:ByteArray) (d:Int) (b:Int) (c:Int) (a:Int):Option ((Int×Int×Int)⊕(Int×Int)):=
 bif(decide (a>=0))then((JP xS a d).bind fun v1=>
 (bif(decide (v1>=4))then(some (decide (v1>b)))
 else(some false):Option (Bool)).bind fun j1=>
 bif j1 then(some (.inl (v1,(sb d a),(sb a 1))))
 else(some (.inl (b,c,(sb a 1)))))
 else(some (.inr (b,c)))
def Ci (xS:ByteArray) (a:List AO) (b:Int):Option ((List AO×Int)⊕(List AO)):=
 bif(decide (b<(FZ xS)))then((A0 (fun s:Int×Int×Int=>DE xS b s.1 s.2.1 s.2.2) (0,0,(sb b 1))).bind fun v2=>
 bif(decide (v2.1>0))then((ap 32 a [(AO.mk v2.2 v2.1 (bs []))]).bind fun q1=>
 some (.inl (q1,(ad b v2.1))))
 else((bif(decide ((sb (ln a) 1)>=0))then((gi a (sb (ln a) 1)).bind fun x1=>
 bif(x1.Back==0)then((gi a (sb (ln a) 1)).bind fun x2=>
 some (decide ((FZ x2.Text)<31)))
 else(some false))
 else(some false):Option (Bool)).bind fun j2=>
 bif j2 then((gi a (sb (ln a) 1)).bind fun x3=>
 (sub xS b (ad b 1)).bind fun x4=>
 (SA x3.Text x4).bind fun x5=>
 (gi a (sb (ln a) 1)).bind fun x6=>
 some (.inl ((si a (sb (ln a) 1) (AO.mk x6.Back x6.Size x5)),(ad b 1))))
 else((sub xS b (ad b 1)).bind fun x7=>
 (ap 32 a [(AO.mk 0 0 x7)]).bind fun q2=>
 some (.inl (q2,(ad b 1))))))
 else(some (.inr a))
def I3 (xS:ByteArray):Option (List AO):=
 bif(decide ((FZ xS)>64))then(some [])
 else((A0 (fun s:List AO×Int=>Ci xS s.1 s.2) ([],0)).bind fun v3=>
 some v3)
def DG (v1:List AO) (b:ByteArray) (a:Int):Option ((ByteArray×Int)⊕(ByteArray)):=
 bif(decide (a<(ln v1)))then((gi v1 a).bind fun x1=>
 bif(x1.Back==0)then((SA b (Hh [(IntKind.u8.wrap (FZ x1.Text))])).bind fun x2=>
 (SA x2 x1.Text).bind fun x3=>
 some (.inl (x3,(ad a 1))))
 else((SA b (Hh [(IntKind.u8.wrap (ad 128 x1.Size)),(IntKind.u8.wrap x1.Back)])).bind fun x4=>
 some (.inl (x4,(ad a 1)))))
 else(some (.inr b))
def Ea (xS:ByteArray):Option (ByteArray×Bool):=
 bif(decide ((FZ xS)>64))then(some ((bs []),false))
 else((I3 xS).bind fun v1=>
 (A0 (fun s:ByteArray×Int=>DG v1 s.1 s.2) ((bs [122]),0)).bind fun v2=>
 bif(decide ((ad (FZ xS) 1)<=(FZ v2)))then((SA (bs [114]) xS).bind fun x5=>
 some (x5,true))
 else(some (v2,true)))
def EE (xT:ByteArray):Option (ByteArray×Bool):=
 bif((FZ xT)==0)then(some ((bs []),false))
 else((sub xT 1 (FZ xT)).bind fun x1=>
 (sx xT 0).bind fun x2=>
 (bif(x2==122)then((sub xT 1 (FZ xT)).bind fun x3=>
 (Hw x3).bind fun v1=>
 (EM v1.1).bind fun v2=>
 bif(!v1.2)then(some (.inr ((bs []),false)))
 else(bif(!v2.2)then(some (.inr ((bs []),false)))
 else(some (.inl v2.1))))
 else(some (.inl x1)):Option ((ByteArray)⊕((ByteArray×Bool)))).bind (Sum.elim (fun j1=>((Ea j1).bind fun v3=>
 (bif(!v3.2)then(some true)
 else(some (!(seq v3.1 xT))):Option (Bool)).bind fun j2=>
 bif j2 then(some ((bs []),false))
 else(some (j1,true)))) some))
def HH (b:List Ar) (a:Int):Option (ByteArray×Bool):=
 (IF b a).bind fun v1=>
 bif(!v1.2)then(some ((bs []),false))
 else((EE v1.1.Page.Text).bind fun v2=>
 some (v2.1,v2.2))
def G9 (c:List Ar) (a:List Int) (d:ByteArray) (b:Int):Option ((Int)⊕((Unit)⊕(Int))):=
 bif(decide (b<(ln a)))then((gi a b).bind fun x1=>
 (HH c x1).bind fun v1=>
 (bif v1.2 then(some (seq v1.1 d))
 else(some false):Option (Bool)).bind fun j1=>
 bif j1 then((gi a b).bind fun x2=>
 some (.inr (.inr x2)))
 else(some (.inl (ad b 1))))
 else(some (.inr (.inl ())))
def P8 (a:List Ar) (b:List Int) (c:ByteArray):Option (Int):=
 (A0 (fun s:Int=>G9 a b c s) 0).bind (Sum.elim (fun v2=>(some 0)) some)
def Ma (xF:Flash) (a:List Int) (b:ByteArray):Option (Int):=
 (EL xF).bind fun v1=>
 (P8 v1 a b).bind fun v2=>
 some v2
def KC (xD:AH) (xQ:QR):Option (List Dk×ByteArray×Int):=
 (Rs xQ).bind fun v1=>
 bif(!v1)then(some ([],(bs []),3))
 else((ED xD.Store xQ.Vol).bind fun v2=>
 (bif(xQ.Kind==3)then(some true)
 else(some (xQ.Kind==4)):Option (Bool)).bind fun j1=>
 bif j1 then(bif(decide (v2>=0))then(some ([],(bs []),2))
 else((bif(xQ.Kind==4)then((ED xD.Store xQ.Of).bind fun v3=>
 some (decide (v3<0)))
 else(some false):Option (Bool)).bind fun j2=>
 bif j2 then(some ([],(bs []),1))
 else(bif(decide ((ln xD.Store.Vols)>=3))then(some ([],(bs []),4))
 else(some ([(Dk.mk 2 xQ.Vol xQ.Of 0)],(bs []),0)))))
 else(bif(!(decide (v2>=0)))then(some ([],(bs []),1))
 else(bif(xQ.Kind==1)then((Jl xD.Store).bind fun v4=>
 (Ma xD.Flash v4 xQ.Text).bind fun v5=>
 (bif(v5==0)then((Ea xQ.Text).bind fun v6=>
 some (xD.Store.Next,v6.1))
 else(some (v5,(bs []))):Option (Int×ByteArray)).bind fun j3=>
 some ([(Dk.mk 4 xQ.Vol xQ.Sector j3.1)],j3.2,0))
 else(bif(xQ.Kind==2)then(some ([(Dk.mk 5 xQ.Vol xQ.Sector 0)],(bs []),0))
 else(bif(xQ.Kind==5)then(some ([(Dk.mk 3 xQ.Vol 0 0)],(bs []),0))
 else(some ([],(bs []),0)))))))
def HT (xS:Store) (b:Int) (a:Int):Option (Int):=
 (ED xS b).bind fun v1=>
 bif(decide (v1<0))then(some 0)
 else((gi xS.Vols v1).bind fun x1=>
 (MC xS.Arena x1.Root a).bind fun v2=>
 some v2)
def GT (c:List Ar) (xS:Store) (b:Int) (a:Int):Option (ByteArray×Bool):=
 (ED xS b).bind fun v1=>
 bif(decide (v1<0))then(some ((bs []),false))
 else((HT xS b a).bind fun v2=>
 bif(v2==0)then(some ((bs []),true))
 else((HH c v2).bind fun v3=>
 some (v3.1,v3.2)))
def Rm (xD:AH) (b:Int) (a:Int):Option (ByteArray×Bool):=
 (EL xD.Flash).bind fun v1=>
 (GT v1 xD.Store b a).bind fun v2=>
 some (v2.1,v2.2)
def IJ (xF:Flash) (c:Int) (b:Int) (a:Int):Option ((Int×Int)⊕(Int)):=
 (gi xF.Blocks c).bind fun x1=>
 bif(decide (a<(ln x1.Leaves)))then((gi xF.Blocks c).bind fun x2=>
 bif(!x2.Bad)then((gi xF.Blocks c).bind fun x3=>
 (gi x3.Leaves a).bind fun x4=>
 bif(x4.Is==0)then(some (.inl ((ad b 1),(ad a 1))))
 else(some (.inl (b,(ad a 1)))))
 else(some (.inl (b,(ad a 1)))))
 else(some (.inr b))
def IK (xF:Flash) (b:Int) (a:Int):Option ((Int×Int)⊕(Int)):=
 bif(decide (a<(ln xF.Blocks)))then((A0 (fun s:Int×Int=>IJ xF a s.1 s.2) (b,0)).bind fun v1=>
 some (.inl (v1,(ad a 1))))
 else(some (.inr b))
def KA (xF:Flash):Option (Int):=
 (A0 (fun s:Int×Int=>IK xF s.1 s.2) (0,0)).bind fun v2=>
 some v2
def Gf (c:List Ar) (d:Int) (a:List Bool) (b:Int):Option ((List Bool×Int)⊕(List Bool)):=
 bif(decide (b<(ln c)))then((gi c b).bind fun x1=>
 bif(x1.Page.Kind==2)then((gi c b).bind fun x2=>
 (gi a b).bind fun x3=>
 some (.inl ((si a b (decide (x2.Page.Tx>=d))),(ad b 1))))
 else((gi a b).bind fun x4=>
 some (.inl ((si a b false),(ad b 1)))))
 else(some (.inr a))
def Ej (c:List Ar) (d:List Int) (e:Int) (a:List Bool) (b:Int):Option ((List Bool×Int)⊕(List Bool)):=
 bif(decide (b>=0))then(((gi c b).bind fun x5=>
 bif(x5.Page.Kind==1)then((gi c b).bind fun x6=>
 (gi d e).bind fun x7=>
 some (x6.Page.Tx==x7))
 else(some false):Option (Bool)).bind fun j1=>
 bif j1 then((gi a b).bind fun x8=>
 some (.inl ((si a b true),(sb (-1) 1))))
 else(some (.inl (a,(sb b 1)))))
 else(some (.inr a))
def Ge (a:List Ar) (b:List Int) (c:List Bool) (d:Int):Option ((List Bool×Int)⊕(List Bool)):=
 bif(decide (d<(ln b)))then((A0 (fun s:List Bool×Int=>Ej a b d s.1 s.2) (c,(sb (ln a) 1))).bind fun v2=>
 some (.inl (v2,(ad d 1))))
 else(some (.inr c))
def Gz (a:List Ar) (b:List Int) (c:Int):Option (List Bool):=
 (mk 1 false (ln a)).bind fun q1=>
 (A0 (fun s:List Bool×Int=>Gf a c s.1 s.2) (q1,0)).bind fun v1=>
 (A0 (fun s:List Bool×Int=>Ge a b s.1 s.2) (v1,0)).bind fun v3=>
 some v3
def GS (xB:Block) (a:Int):Option ((Int)⊕((Unit)⊕(Bool))):=
 bif(decide (a<(ln xB.Leaves)))then((gi xB.Leaves a).bind fun x1=>
 bif(x1.Is !=0)then(some (.inr (.inr false)))
 else(some (.inl (ad a 1))))
 else(some (.inr (.inl ())))
def LT (xB:Block):Option (Bool):=
 (A0 (fun s:Int=>GS xB s) 0).bind (Sum.elim (fun v1=>(some true)) some)
def JK (b:List Ar) (c:List Bool) (xB:Int) (d:Int) (a:Int):Option ((Int×Int)⊕(Int)):=
 bif(decide (a<(ln b)))then((gi c a).bind fun x1=>
 bif x1 then((gi b a).bind fun x2=>
 bif(x2.Block==xB)then(some (.inl ((ad d 1),(ad a 1))))
 else(some (.inl (d,(ad a 1)))))
 else(some (.inl (d,(ad a 1)))))
 else(some (.inr d))
def NO (b:List Ar) (a:List Bool) (xB:Int):Option (Int):=
 (A0 (fun s:Int×Int=>JK b a xB s.1 s.2) (0,0)).bind fun v1=>
 some v1
def E6 (xD:AH) (v1:List Ar) (v3:List Bool) (a:List Int) (b:Int):Option ((List Int×Int)⊕(List Int)):=
 bif(decide (b<(ln xD.Flash.Blocks)))then((gi xD.Flash.Blocks b).bind fun x1=>
 (bif(!x1.Bad)then((LT x1).bind fun v4=>
 bif(!v4)then((NO v1 v3 b).bind fun v5=>
 some (v5==0))
 else(some false))
 else(some false):Option (Bool)).bind fun j1=>
 bif j1 then((ap 8 a [b]).bind fun q1=>
 some (.inl (q1,(ad b 1))))
 else(some (.inl (a,(ad b 1)))))
 else(some (.inr a))
def Jo (xD:AH):Option (List Int):=
 (EL xD.Flash).bind fun v1=>
 (Jl xD.Store).bind fun v2=>
 (Gz v1 v2 xD.Base).bind fun v3=>
 (A0 (fun s:List Int×Int=>E6 xD v1 v3 s.1 s.2) ([],0)).bind fun v6=>
 some v6
def FK (xD:AH) (v2:List Tx) (a:Int):Option ((Int)⊕((Unit)⊕(Bool))):=
 bif(decide (a<(ln v2)))then((gi v2 a).bind fun x1=>
 bif(x1.Num==xD.Base)then((gi v2 a).bind fun x2=>
 bif(decide ((ln x2.Recs)>0))then((gi v2 a).bind fun x3=>
 (gi x3.Recs 0).bind fun x4=>
 some (.inr (.inr (x4.Kind==1))))
 else(some (.inr (.inr false))))
 else(some (.inl (ad a 1))))
 else(some (.inr (.inl ())))
def LU (xD:AH):Option (Bool):=
 bif(xD.Base !=(sb xD.Tx 1))then(some false)
 else((EL xD.Flash).bind fun v1=>
 (Nn v1).bind fun v2=>
 (A0 (fun s:Int=>FK xD v2 s) 0).bind (Sum.elim (fun v3=>(some false)) some))
def FU (xS:Store) (c:Int) (v1:List Int) (a:List Dk) (b:Int):Option ((List Dk×Int)⊕(List Dk)):=
 bif(decide (b<(ln v1)))then((gi v1 b).bind fun x3=>
 bif(decide (x3>0))then((gi xS.Vols c).bind fun x4=>
 (gi v1 b).bind fun x5=>
 (ap 32 a [(Dk.mk 4 x4.Id b x5)]).bind fun q2=>
 some (.inl (q2,(ad b 1))))
 else(some (.inl (a,(ad b 1)))))
 else(some (.inr a))
def FV (xS:Store) (a:List Dk) (b:Int):Option ((List Dk×Int)⊕(List Dk)):=
 bif(decide (b<(ln xS.Vols)))then((gi xS.Vols b).bind fun x1=>
 (ap 32 a [(Dk.mk 2 x1.Id 0 0)]).bind fun q1=>
 (gi xS.Vols b).bind fun x2=>
 (HU xS.Arena x2.Root).bind fun v1=>
 (A0 (fun s:List Dk×Int=>FU xS b v1 s.1 s.2) (q1,0)).bind fun v2=>
 some (.inl (v2,(ad b 1))))
 else(some (.inr a))
def Mf (xS:Store):Option (List Dk):=
 (A0 (fun s:List Dk×Int=>FV xS s.1 s.2) ([(Dk.mk 1 0 xS.Next 0)],0)).bind fun v3=>
 some v3
def EW (xF:Flash) (d:Int) (b:Int) (c:Int) (a:Int):Option ((Int×Int×Int)⊕(Int×Int)):=
 (gi xF.Blocks d).bind fun x1=>
 bif(decide (a<(ln x1.Leaves)))then((gi xF.Blocks d).bind fun x2=>
 (gi x2.Leaves a).bind fun x3=>
 bif(x3.Is==0)then(some (.inl ((ad b 1),c,(ad a 1))))
 else(some (.inl (b,(ad c 1),(ad a 1)))))
 else(some (.inr (b,c)))
def EX (xF:Flash) (a:Int):Option ((Int)⊕((Unit)⊕(Int))):=
 bif(decide (a<(ln xF.Blocks)))then((A0 (fun s:Int×Int×Int=>EW xF a s.1 s.2.1 s.2.2) (0,0,0)).bind fun v1=>
 ((gi xF.Blocks a).bind fun x4=>
 bif(!x4.Bad)then(bif(decide (v1.1>0))then(some (decide (v1.2>0)))
 else(some false))
 else(some false):Option (Bool)).bind fun j1=>
 bif j1 then(some (.inr (.inr a)))
 else(some (.inl (ad a 1))))
 else(some (.inr (.inl ())))
def KD (xF:Flash):Option (Int):=
 (A0 (fun s:Int=>EX xF s) 0).bind (Sum.elim (fun v2=>(some (-1))) some)
def E5 (xF:Flash) (c:Int) (a:Bool) (b:Int):Option ((Bool×Int)⊕(Bool)):=
 (gi xF.Blocks c).bind fun x2=>
 bif(decide (b<(ln x2.Leaves)))then(bif a then((gi xF.Blocks c).bind fun x3=>
 (gi x3.Leaves b).bind fun x4=>
 some (.inl ((x4.Is==0),(ad b 1))))
 else(some (.inl (false,(ad b 1)))))
 else(some (.inr a))
def F5 (xF:Flash) (a:List Int) (b:Int):Option ((List Int×Int)⊕(List Int)):=
 bif(decide (b<(ln xF.Blocks)))then((gi xF.Blocks b).bind fun x1=>
 (A0 (fun s:Bool×Int=>E5 xF b s.1 s.2) ((!x1.Bad),0)).bind fun v1=>
 bif v1 then((ap 8 a [b]).bind fun q1=>
 some (.inl (q1,(ad b 1))))
 else(some (.inl (a,(ad b 1)))))
 else(some (.inr a))
def Jm (xF:Flash):Option (List Int):=
 (A0 (fun s:List Int×Int=>F5 xF s.1 s.2) ([],0)).bind fun v2=>
 some v2
def HR (xF:Flash) (v4:List Int) (a:Int) (b:Int):Option ((Int×Int)⊕(Int)):=
 bif(decide (b<(ln v4)))then((gi v4 b).bind fun x3=>
 (gi xF.Blocks x3).bind fun x4=>
 (gi xF.Blocks a).bind fun x5=>
 bif(decide (x4.Wear<x5.Wear))then((gi v4 b).bind fun x6=>
 some (.inl (x6,(ad b 1))))
 else(some (.inl (a,(ad b 1)))))
 else(some (.inr a))
def LD (xF:Flash):Option (Int×Int×Bool):=
 (HS xF).bind fun v1=>
 bif(!v1)then(some (0,0,false))
 else((KD xF).bind fun v2=>
 bif(decide (v2>=0))then((gi xF.Blocks v2).bind fun x1=>
 (Hz x1).bind fun v3=>
 some (v2,v3,true))
 else((Jm xF).bind fun v4=>
 bif((ln v4)==0)then(some (0,0,false))
 else((gi v4 0).bind fun x2=>
 (A0 (fun s:Int×Int=>HR xF v4 s.1 s.2) (x2,1)).bind fun v5=>
 some (v5,0,true))))
def Ht (xF:Flash) (a:List BI) (xP:Page):Option (Flash×List BI×Bool):=
 (E0 xP).bind fun v1=>
 (LD xF).bind fun v2=>
 (bif(!v1.2)then(some true)
 else(some (!v2.2.2)):Option (Bool)).bind fun j1=>
 bif j1 then(some (xF,a,false))
 else((Mc xF (BI.mk 1 v2.1 v2.2.1 v1.1)).bind fun v3=>
 ((ap 40 a [(BI.mk 1 v2.1 v2.2.1 v1.1)]).bind fun q1=>
 some q1:Option (List BI)).bind fun j2=>
 some (v3.1,j2,v3.2))
def Nm (xR:Dk):Option (ByteArray×Bool):=
 (NR xR).bind fun v1=>
 bif(!v1)then(some ((bs []),false))
 else((L8 (ad (ml 16 xR.Kind) xR.Vol)).bind fun v2=>
 (Hx xR.Arg).bind fun v3=>
 (SA v2 v3).bind fun x1=>
 (Hx xR.Chunk).bind fun v4=>
 (SA x1 v4).bind fun x2=>
 some (x2,true))
def GB (b:List Dk) (a:List ByteArray) (c:Int):Option ((List ByteArray×Int)⊕((List ByteArray)⊕((List Page×Bool)))):=
 bif(decide (c<(ln b)))then((gi b c).bind fun x1=>
 (Nm x1).bind fun v1=>
 bif(!v1.2)then(some (.inr (.inr ([],false))))
 else((gi a (sb (ln a) 1)).bind fun x2=>
 bif(decide ((ad (FZ x2) (FZ v1.1))>90))then((ap 16 a [v1.1]).bind fun q1=>
 some (.inl (q1,(ad c 1))))
 else((gi a (sb (ln a) 1)).bind fun x3=>
 (SA x3 v1.1).bind fun x4=>
 (gi a (sb (ln a) 1)).bind fun x5=>
 some (.inl ((si a (sb (ln a) 1) x4),(ad c 1))))))
 else(some (.inr (.inl a)))
def GA (c:Int) (d:Int) (v2:List ByteArray) (a:List Page) (b:Int):Option ((List Page×Int)⊕(List Page)):=
 bif(decide (b<(ln v2)))then((gi v2 b).bind fun x6=>
 (ap 56 a [(Page.mk 2 (ad c b) d b (ln v2) x6)]).bind fun q2=>
 some (.inl (q2,(ad b 1))))
 else(some (.inr a))
def LA (a:Int) (c:Int) (b:List Dk):Option (List Page×Bool):=
 (A0 (fun s:List ByteArray×Int=>GB b s.1 s.2) ([(bs [])],0)).bind (Sum.elim (fun v2=>((bif(decide ((ln v2)>9))then(some true)
 else((BN a 1 (ad (sb 1000000000 (ln v2)) 1)).bind fun v3=>
 bif(!v3)then(some true)
 else((BN c 1 1000000000).bind fun v4=>
 some (!v4))):Option (Bool)).bind fun j1=>
 bif j1 then(some ([],false))
 else((A0 (fun s:List Page×Int=>GA a c v2 s.1 s.2) ([],0)).bind fun v5=>
 some (v5,true)))) some)
def Et (v2:List Page×Bool) (a:List BI) (b:Bool) (c:Int) (d:List Block):Option ((List BI×Bool×Int×List Block)⊕(List BI×Bool)):=
 (bif(decide (c<(ln v2.1)))then(some b)
 else(some false):Option (Bool)).bind fun j3=>
 bif j3 then(((gi v2.1 c).bind fun x2=>
 (Ht (Flash.mk d) a x2).bind fun v3=>
 some (v3.2.1,v3.2.2,v3.1.Blocks):Option (List BI×Bool×List Block)).bind fun j4=>
 some (.inl (j4.1,j4.2.1,(ad c 1),j4.2.2)))
 else(some (.inr (a,b)))
def Ee (xD:AH) (a:List Dk) (b:ByteArray):Option (List BI×Bool):=
 bif((ln a)==0)then(some ([],true))
 else((bif(!(seq b (bs [])))then(((gi a (sb (ln a) 1)).bind fun x1=>
 (Ht xD.Flash [] (Page.mk 1 xD.Seq x1.Chunk 0 1 b)).bind fun v1=>
 some (v1.2.1,v1.2.2,v1.1.Blocks):Option (List BI×Bool×List Block)).bind fun j2=>
 some (j2.1,(ad xD.Seq 1),j2.2.1,j2.2.2))
 else(some ([],xD.Seq,true,xD.Flash.Blocks)):Option (List BI×Int×Bool×List Block)).bind fun j1=>
 (LA j1.2.1 xD.Tx a).bind fun v2=>
 (A0 (fun s:List BI×Bool×Int×List Block=>Et v2 s.1 s.2.1 s.2.2.1 s.2.2.2) (j1.1,j1.2.2.1,0,j1.2.2.2)).bind fun v4=>
 (bif(!v4.2)then(some true)
 else(some (!v2.2)):Option (Bool)).bind fun j5=>
 bif j5 then(some ([],false))
 else(some (v4.1,true)))
def ME (xD:AH):Option (List BI×Bool):=
 (Mf xD.Store).bind fun v1=>
 (Ee xD v1 (bs [])).bind fun v2=>
 some (v2.1,v2.2)
def FO (xD:AH) (v1:List Ar) (v3:List Bool) (v4:List Bool) (c:Int) (a:Int) (b:Int):Option ((Int×Int×Int)⊕(Int)):=
 bif(decide (b<(ln xD.Flash.Blocks)))then((gi xD.Flash.Blocks b).bind fun x1=>
 (NO v1 v3 b).bind fun v5=>
 (bif(!x1.Bad)then((Hz x1).bind fun v6=>
 bif(v6==4)then((NO v1 v4 b).bind fun v7=>
 bif(v5==v7)then(bif(decide (v5>=1))then(some (decide (v5<a)))
 else(some false))
 else(some false))
 else(some false))
 else(some false):Option (Bool)).bind fun j1=>
 bif j1 then(some (.inl (b,v5,(ad b 1))))
 else(some (.inl (c,a,(ad b 1)))))
 else(some (.inr c))
def LW (xD:AH):Option (Int):=
 (EL xD.Flash).bind fun v1=>
 (Jl xD.Store).bind fun v2=>
 (Gz v1 v2 xD.Base).bind fun v3=>
 (Gz v1 v2 1000000000).bind fun v4=>
 (A0 (fun s:Int×Int×Int=>FO xD v1 v3 v4 s.1 s.2.1 s.2.2) ((-1),4,0)).bind fun v8=>
 some v8
def EZ (xB:Int) (v1:List Ar) (v3:List Bool) (e:Int) (a:List BI) (b:Int) (c:Int) (d:List Block):Option ((List BI×Int×Int×List Block)⊕((List BI×Int×List Block)⊕((List BI×Int×Int×List Block)⊕((List BI)⊕((List BI×Bool)))))):=
 bif(decide (c<(ln v1)))then(((gi v3 c).bind fun x1=>
 bif(!x1)then(some true)
 else((gi v1 c).bind fun x2=>
 bif(x2.Block !=xB)then(some true)
 else((gi v1 c).bind fun x3=>
 some (x3.Leaf !=e))):Option (Bool)).bind fun j1=>
 bif j1 then(some (.inl (a,b,(ad c 1),d)))
 else((gi v1 c).bind fun x4=>
 (Ht (Flash.mk d) a (Page.mk x4.Page.Kind b x4.Page.Tx x4.Page.Part x4.Page.Count x4.Page.Text)).bind fun v4=>
 (bif(!v4.2.2)then(some true)
 else((gi v4.2.1 (sb (ln v4.2.1) 1)).bind fun x5=>
 some (x5.Block==xB)):Option (Bool)).bind fun j2=>
 bif j2 then(some (.inr (.inr (.inr (.inr ([],false))))))
 else(some (.inl (v4.2.1,(ad b 1),(ad c 1),v4.1.Blocks)))))
 else(some (.inr (.inl (a,b,d))))
def Fc (xB:Int) (v1:List Ar) (v3:List Bool) (b:List BI) (c:Int) (a:Int) (d:List Block):Option ((List BI×Int×Int×List Block)⊕((List BI)⊕((List BI×Bool)))):=
 bif(decide (a<4))then((A0 (fun s:List BI×Int×Int×List Block=>EZ xB v1 v3 a s.1 s.2.1 s.2.2.1 s.2.2.2) (b,c,0,d)).bind (Sum.elim (fun v5=>(some (.inl (v5.1,v5.2.1,(ad a 1),v5.2.2)))) some))
 else(some (.inr (.inl b)))
def IL (xD:AH) (xB:Int):Option (List BI×Bool):=
 (EL xD.Flash).bind fun v1=>
 (Jl xD.Store).bind fun v2=>
 (Gz v1 v2 1000000001).bind fun v3=>
 (A0 (fun s:List BI×Int×Int×List Block=>Fc xB v1 v3 s.1 s.2.1 s.2.2.1 s.2.2.2) ([],xD.Seq,0,xD.Flash.Blocks)).bind (Sum.elim (fun v6=>(some (v6,true))) some)
def Me (xD:AH):Option (List BI×Bool):=
 (Jo xD).bind fun v1=>
 bif(decide ((ln v1)>0))then((gi v1 0).bind fun x1=>
 some ([(BI.mk 2 x1 0 (bs []))],true))
 else((LU xD).bind fun v2=>
 bif(!v2)then((ME xD).bind fun v3=>
 some (v3.1,v3.2))
 else((LW xD).bind fun v4=>
 bif(decide (v4<0))then(some ([],false))
 else((IL xD v4).bind fun v5=>
 some (v5.1,v5.2))))
def GF (xD:AH) (a:List BI):Option (AH):=
 (JR xD.Flash a).bind fun v1=>
 (E4 v1.1).bind fun v2=>
 some v2.1
def FT (i:Int) (h:List BI) (j:Int) (a:List Block) (b:List Vol) (c:List BU) (d:Int) (e:Int) (f:Int) (g:Int):Option ((List BI×Int×List Block×List Vol×List BU×Int×Int×Int×Int)⊕((List BI×List Block×List Vol×List BU×Int×Int×Int×Int)⊕((AH×List BI)))):=
 (bif(decide (j<i))then(bif(decide (j<20))then((KA (Flash.mk a)).bind fun v2=>
 some (decide (v2<12)))
 else(some false))
 else(some false):Option (Bool)).bind fun j1=>
 bif j1 then((Me (AH.mk (Flash.mk a) (Store.mk b (Arena.mk c) d) e f g)).bind fun v3=>
 bif(!v3.2)then(some (.inr (.inr ((AH.mk (Flash.mk a) (Store.mk b (Arena.mk c) d) e f g),h))))
 else((GF (AH.mk (Flash.mk a) (Store.mk b (Arena.mk c) d) e f g) v3.1).bind fun v4=>
 (ap 40 h v3.1).bind fun q1=>
 some (.inl (q1,(ad j 1),v4.Flash.Blocks,v4.Store.Vols,v4.Store.Arena.Knots,v4.Store.Next,v4.Seq,v4.Tx,v4.Base))))
 else(some (.inr (.inl (h,a,b,c,d,e,f,g))))
def JS (xD:AH) (a:Int):Option (AH×List BI):=
 (L7 xD).bind fun v1=>
 (A0 (fun s:List BI×Int×List Block×List Vol×List BU×Int×Int×Int×Int=>FT a s.1 s.2.1 s.2.2.1 s.2.2.2.1 s.2.2.2.2.1 s.2.2.2.2.2.1 s.2.2.2.2.2.2.1 s.2.2.2.2.2.2.2.1 s.2.2.2.2.2.2.2.2) ([],0,v1.Flash.Blocks,v1.Store.Vols,v1.Store.Arena.Knots,v1.Store.Next,v1.Seq,v1.Tx,v1.Base)).bind (Sum.elim (fun v5=>(some ((AH.mk (Flash.mk v5.2.1) (Store.mk v5.2.2.1 (Arena.mk v5.2.2.2.1) v5.2.2.2.2.1) v5.2.2.2.2.2.1 v5.2.2.2.2.2.2.1 v5.2.2.2.2.2.2.2),v5.1))) some)
def Rl (xD:AH) (xQ:QR):Option (AH×List BI×ByteArray×Int):=
 (L7 xD).bind fun v1=>
 (Md xD).bind fun v2=>
 bif(!v2)then(some (v1,[],(bs []),5))
 else((KC xD xQ).bind fun v3=>
 bif(v3.2.2 !=0)then(some (v1,[],(bs []),v3.2.2))
 else(bif(xQ.Kind==6)then((Rm xD xQ.Vol xQ.Sector).bind fun v4=>
 bif(!v4.2)then(some (v1,[],(bs []),1))
 else(some (v1,[],v4.1,0)))
 else((KA xD.Flash).bind fun v5=>
 (bif(decide (v5<12))then((JS xD 20).bind fun v6=>
 some (v6.2,v6.1.Flash.Blocks,v6.1.Store.Vols,v6.1.Store.Arena.Knots,v6.1.Store.Next,v6.1.Seq,v6.1.Tx,v6.1.Base))
 else(some ([],v1.Flash.Blocks,v1.Store.Vols,v1.Store.Arena.Knots,v1.Store.Next,v1.Seq,v1.Tx,v1.Base)):Option (List BI×List Block×List Vol×List BU×Int×Int×Int×Int)).bind fun j1=>
 (KC (AH.mk (Flash.mk j1.2.1) (Store.mk j1.2.2.1 (Arena.mk j1.2.2.2.1) j1.2.2.2.2.1) j1.2.2.2.2.2.1 j1.2.2.2.2.2.2.1 j1.2.2.2.2.2.2.2) xQ).bind fun v7=>
 (Ee (AH.mk (Flash.mk j1.2.1) (Store.mk j1.2.2.1 (Arena.mk j1.2.2.2.1) j1.2.2.2.2.1) j1.2.2.2.2.2.1 j1.2.2.2.2.2.2.1 j1.2.2.2.2.2.2.2) v7.1 v7.2.1).bind fun v8=>
 (bif(!v8.2)then(some true)
 else((KA (Flash.mk j1.2.1)).bind fun v9=>
 some (decide (v9<8))):Option (Bool)).bind fun j2=>
 bif j2 then(some ((AH.mk (Flash.mk j1.2.1) (Store.mk j1.2.2.1 (Arena.mk j1.2.2.2.1) j1.2.2.2.2.1) j1.2.2.2.2.2.1 j1.2.2.2.2.2.2.1 j1.2.2.2.2.2.2.2),j1.1,(bs []),4))
 else((GF (AH.mk (Flash.mk j1.2.1) (Store.mk j1.2.2.1 (Arena.mk j1.2.2.2.1) j1.2.2.2.2.1) j1.2.2.2.2.2.1 j1.2.2.2.2.2.2.1 j1.2.2.2.2.2.2.2) v8.1).bind fun v10=>
 (ap 40 j1.1 v8.1).bind fun q1=>
 some (v10,q1,(bs []),0)))))
def ES (h:Int) (a:List Block) (b:List Vol) (c:List BU) (d:Int) (e:Int) (f:Int) (g:Int) (i:List Int) (j:Int) (k:Int):Option ((Int×List Block×List Vol×List BU×Int×Int×Int×Int×List Int×Int×Int)⊕(List Block×List Vol×List BU×Int×Int×Int×Int×List Int×Int×Int)):=
 (Dm (BE.mk i j k) 12).bind fun v3=>
 bif(decide (h<v3.1))then(((Nj v3.2 (AH.mk (Flash.mk a) (Store.mk b (Arena.mk c) d) e f g)).bind fun v4=>
 (Rl (AH.mk (Flash.mk a) (Store.mk b (Arena.mk c) d) e f g) v4.1).bind fun v5=>
 some (v5.1.Flash.Blocks,v5.1.Store.Vols,v5.1.Store.Arena.Knots,v5.1.Store.Next,v5.1.Seq,v5.1.Tx,v5.1.Base,v4.2.b_,v4.2.i_,v4.2.h_):Option (List Block×List Vol×List BU×Int×Int×Int×Int×List Int×Int×Int)).bind fun j1=>
 some (.inl ((ad h 1),j1.1,j1.2.1,j1.2.2.1,j1.2.2.2.1,j1.2.2.2.2.1,j1.2.2.2.2.2.1,j1.2.2.2.2.2.2.1,j1.2.2.2.2.2.2.2.1,j1.2.2.2.2.2.2.2.2.1,j1.2.2.2.2.2.2.2.2.2)))
 else(some (.inr (a,b,c,d,e,f,g,v3.2.b_,v3.2.i_,v3.2.h_)))
def K2 (xC:BE):Option (AH×BE):=
 (Dm xC 4).bind fun v1=>
 (KE (ad 5 v1.1)).bind fun v2=>
 (A0 (fun s:Int×List Block×List Vol×List BU×Int×Int×Int×Int×List Int×Int×Int=>ES s.1 s.2.1 s.2.2.1 s.2.2.2.1 s.2.2.2.2.1 s.2.2.2.2.2.1 s.2.2.2.2.2.2.1 s.2.2.2.2.2.2.2.1 s.2.2.2.2.2.2.2.2.1 s.2.2.2.2.2.2.2.2.2.1 s.2.2.2.2.2.2.2.2.2.2) (0,v2.1.Flash.Blocks,v2.1.Store.Vols,v2.1.Store.Arena.Knots,v2.1.Store.Next,v2.1.Seq,v2.1.Tx,v2.1.Base,v1.2.b_,v1.2.i_,v1.2.h_)).bind fun v8=>
 some ((AH.mk (Flash.mk v8.1) (Store.mk v8.2.1 (Arena.mk v8.2.2.1) v8.2.2.2.1) v8.2.2.2.2.1 v8.2.2.2.2.2.1 v8.2.2.2.2.2.2.1),(BE.mk v8.2.2.2.2.2.2.2.1 v8.2.2.2.2.2.2.2.2.1 v8.2.2.2.2.2.2.2.2.2))
def Jn (a:List Int):Option (AH):=
 (OX a).bind fun v1=>
 (K2 v1).bind fun v2=>
 some v2.1
def GJ (a:Int) (y1:Int):Option ((Int×Int)⊕(Int)):=
 bif(decide (y1<8))then(bif((an a 1)==1)then(some (.inl ((xr (Int.fdiv a (2^(min (1:Int).toNat IntKind.u32.bits))) 3558460437),(ad y1 1))))
 else(some (.inl ((Int.fdiv a (2^(min (1:Int).toNat IntKind.u32.bits))),(ad y1 1)))))
 else(some (.inr a))
def HY (a:ByteArray) (b:Int) (c:Int):Option ((Int×Int)⊕(Int)):=
 bif(decide (c<(FZ a)))then((sx a c).bind fun x1=>
 (A0 (fun s:Int×Int=>GJ s.1 s.2) ((xr b (IntKind.u32.wrap x1)),0)).bind fun v1=>
 some (.inl (v1,(ad c 1))))
 else(some (.inr b))
def Nw (b:Int) (a:ByteArray):Option (Int):=
 (A0 (fun s:Int×Int=>HY a s.1 s.2) (b,0)).bind fun v2=>
 some v2
def RA (a:ByteArray):Option (Int):=
 (Nw 4294967295 a).bind fun v1=>
 some v1
def Pr (a:ByteArray):Option (ByteArray×Bool):=
 bif(decide ((FZ a)>20000))then(some ((bs []),false))
 else((RA a).bind fun v1=>
 (SA a (Hh [(IntKind.u8.wrap (Int.fdiv v1 (2^(min (24:Int).toNat IntKind.u32.bits)))),(IntKind.u8.wrap (Int.fdiv v1 (2^(min (16:Int).toNat IntKind.u32.bits)))),(IntKind.u8.wrap (Int.fdiv v1 (2^(min (8:Int).toNat IntKind.u32.bits)))),(IntKind.u8.wrap v1)])).bind fun x1=>
 some (x1,true))
def Mq (a:ByteArray):Option (ByteArray×Bool):=
 bif(decide ((FZ a)<4))then(some ((bs []),false))
 else((sub a 0 (sb (FZ a) 4)).bind fun x1=>
 (Pr x1).bind fun v1=>
 (bif(!v1.2)then(some true)
 else(some (!(seq v1.1 a))):Option (Bool)).bind fun j1=>
 bif j1 then(some ((bs []),false))
 else(some (x1,true)))
def FD (b:ByteArray) (c:Int) (d:Int) (a:Int):Option ((Int×Int)⊕((Unit)⊕((Int×Int×Bool)))):=
 (bif(decide (a<5))then(bif(decide (c>=0))then(some (decide (c<(sb (FZ b) a))))
 else(some false))
 else(some false):Option (Bool)).bind fun j1=>
 bif j1 then((sx b (ad c a)).bind fun x1=>
 (shl .i64 (Int.tmod (IntKind.i64.wrap x1) 128) (ml 7 a)).bind fun x2=>
 bif(decide ((IntKind.i64.wrap x1)>=128))then(some (.inl ((ad d x2),(ad a 1))))
 else((bif((IntKind.i64.wrap x1)==0)then(bif(decide (a>0))then(some true)
 else(some (decide ((ad d x2)>1000000000))))
 else(some (decide ((ad d x2)>1000000000))):Option (Bool)).bind fun j2=>
 bif j2 then(some (.inr (.inr (0,0,false))))
 else(some (.inr (.inr ((ad d x2),(ad (ad c a) 1),true))))))
 else(some (.inr (.inl ())))
def JZ (a:ByteArray) (b:Int):Option (Int×Int×Bool):=
 (A0 (fun s:Int×Int=>FD a b s.1 s.2) (0,0)).bind (Sum.elim (fun v1=>(some (0,0,false))) some)
def Ps (xP:Page):Option (Bool):=
 ((OE xP.Seq 1 1000000000).bind fun v1=>
 bif(!v1)then(some true)
 else((OE xP.Tx 1 1000000000).bind fun v2=>
 bif(!v2)then(some true)
 else((OE xP.Count 1 9).bind fun v3=>
 bif(!v3)then(some true)
 else((OE xP.Part 0 (sb xP.Count 1)).bind fun v4=>
 bif(!v4)then(some true)
 else(some (decide ((FZ xP.Text)>90)))))):Option (Bool)).bind fun j1=>
 bif j1 then(some false)
 else(bif(xP.Kind==2)then(some true)
 else(bif(xP.Kind==1)then(some (xP.Count==1))
 else(some false)))
def DH (v1:ByteArray×Bool) (e:Int) (y1:Int) (a:Int) (b:Int) (c:Int) (d:Int):Option ((Int×Int×Int×Int×Int×Int)⊕((Int×Int×Int×Int×Int)⊕((Page×Bool)))):=
 bif(decide (y1<4))then((JZ v1.1 e).bind fun v2=>
 bif(!v2.2.2)then(some (.inr (.inr ((Page.mk 0 0 0 0 0 (bs [])),false))))
 else(bif(y1==0)then(some (.inl (v2.2.1,(ad y1 1),v2.1,b,c,d)))
 else(bif(y1==1)then(some (.inl (v2.2.1,(ad y1 1),a,v2.1,c,d)))
 else(bif(y1==2)then(some (.inl (v2.2.1,(ad y1 1),a,b,v2.1,d)))
 else(bif(y1==3)then(some (.inl (v2.2.1,(ad y1 1),a,b,c,v2.1)))
 else none)))))
 else(some (.inr (.inl (e,a,b,c,d))))
def Ms (xT:ByteArray):Option (Page×Bool):=
 (Mq xT).bind fun v1=>
 (bif(!v1.2)then(some true)
 else(some (seq v1.1 (bs []))):Option (Bool)).bind fun j1=>
 bif j1 then(some ((Page.mk 0 0 0 0 0 (bs [])),false))
 else((A0 (fun s:Int×Int×Int×Int×Int×Int=>DH v1 s.1 s.2.1 s.2.2.1 s.2.2.2.1 s.2.2.2.2.1 s.2.2.2.2.2) (1,0,0,0,0,0)).bind (Sum.elim (fun v3=>((sx v1.1 0).bind fun x1=>
 (sub v1.1 v3.1 (FZ v1.1)).bind fun x2=>
 (Ps (Page.mk (IntKind.i64.wrap x1) v3.2.1 v3.2.2.1 v3.2.2.2.1 v3.2.2.2.2 x2)).bind fun v4=>
 bif(!v4)then(some ((Page.mk 0 0 0 0 0 (bs [])),false))
 else(some ((Page.mk (IntKind.i64.wrap x1) v3.2.1 v3.2.2.1 v3.2.2.2.1 v3.2.2.2.2 x2),true)))) some))
def BG (x:Ar):Int:=x.Page.Seq
def HZ (y1:Int) (x1:Block) (y2:Int) (a:List Ar):Option ((Int×List Ar)⊕(List Ar)):=
 bif(decide (y2<(ln x1.Leaves)))then((gi x1.Leaves y2).bind fun x2=>
 (Ms x2.Text).bind fun v1=>
 (bif v1.2 then(some (x2.Is==1))
 else(some false):Option (Bool)).bind fun j1=>
 bif j1 then((ap 72 a [(Ar.mk y1 y2 v1.1)]).bind fun q1=>
 some (.inl ((ad y2 1),q1)))
 else(some (.inl ((ad y2 1),a))))
 else(some (.inr a))
def GK (xF:Flash) (y1:Int) (a:List Ar):Option ((Int×List Ar)⊕(List Ar)):=
 bif(decide (y1<(ln xF.Blocks)))then((gi xF.Blocks y1).bind fun x1=>
 (A0 (fun s:Int×List Ar=>HZ y1 x1 s.1 s.2) (0,a)).bind fun v2=>
 some (.inl ((ad y1 1),v2)))
 else(some (.inr a))
def Ia (xF:Flash):Option (List Ar):=
 (A0 (fun s:Int×List Ar=>GK xF s.1 s.2) (0,[])).bind fun v3=>
 (Dd (NE BG) v3 (ln v3)).bind fun v4=>
 some v4
def Jv (xA:Arena) (y1:Int) (x1:BU) (y2:Int):Option ((Int)⊕((Unit)⊕((Int)⊕((Unit)⊕(Bool))))):=
 bif(decide (y2<(ln x1.Kids)))then((gi x1.Kids y2).bind fun x2=>
 (bif x1.Leaf then(bif(decide (x2<0))then(some true)
 else(bif(!x1.Leaf)then(bif(x2 !=(-1))then((OE x2 0 (sb y1 1)).bind fun v1=>
 bif(!v1)then(some true)
 else((gi xA.Knots x2).bind fun x3=>
 some (!x3.Leaf)))
 else(some false))
 else(some false)))
 else(bif(!x1.Leaf)then(bif(x2 !=(-1))then((OE x2 0 (sb y1 1)).bind fun v2=>
 bif(!v2)then(some true)
 else((gi xA.Knots x2).bind fun x4=>
 some (!x4.Leaf)))
 else(some false))
 else(some false)):Option (Bool)).bind fun j1=>
 bif j1 then(some (.inr (.inr (.inr (.inr false)))))
 else(some (.inl (ad y2 1))))
 else(some (.inr (.inl ())))
def Jw (xA:Arena) (y1:Int):Option ((Int)⊕((Unit)⊕(Bool))):=
 bif(decide (y1<(ln xA.Knots)))then((gi xA.Knots y1).bind fun x1=>
 bif((ln x1.Kids) !=4)then(some (.inr (.inr false)))
 else((A0 (fun s:Int=>Jv xA y1 x1 s) 0).bind (Sum.elim (fun v3=>(some (.inl (ad y1 1)))) some)))
 else(some (.inr (.inl ())))
def Ny (xA:Arena):Option (Bool):=
 (A0 (fun s:Int=>Jw xA s) 0).bind (Sum.elim (fun v4=>(some true)) some)
def Pp (xA:Arena) (a:Int):Option (Bool):=
 (OE a 0 (sb (ln xA.Knots) 1)).bind fun v1=>
 bif v1 then((gi xA.Knots a).bind fun x1=>
 some (!x1.Leaf))
 else(some false)
def QF (xS:Store) (a:Int) (y1:Int):Option ((Int)⊕((Unit)⊕(Int))):=
 bif(decide (y1<(ln xS.Vols)))then((gi xS.Vols y1).bind fun x1=>
 bif(x1.Id==a)then(some (.inr (.inr y1)))
 else(some (.inl (ad y1 1))))
 else(some (.inr (.inl ())))
def PK (xS:Store) (a:Int):Option (Int):=
 (A0 (fun s:Int=>QF xS a s) 0).bind (Sum.elim (fun v1=>(some (-1))) some)
def Ok (xA:Arena) (b:Int) (a:Int):Option (Int):=
 (gi xA.Knots b).bind fun x1=>
 (gi x1.Kids (qu a 4)).bind fun x2=>
 bif(decide (x2<0))then(some 0)
 else((gi xA.Knots x2).bind fun x3=>
 (gi x3.Kids (Int.tmod a 4)).bind fun x4=>
 some x4)
def PL (xA:Arena) (b:Int) (a:Int):Option (Int):=
 ((OE a 0 15).bind fun v1=>
 bif(!v1)then(some true)
 else((Pp xA b).bind fun v2=>
 bif(!v2)then(some true)
 else((Ny xA).bind fun v3=>
 some (!v3))):Option (Bool)).bind fun j1=>
 bif j1 then(some 0)
 else((Ok xA b a).bind fun v4=>
 some v4)
def Ol (xA:Arena) (b:Int) (a:List Int) (y1:Int):Option ((List Int×Int)⊕(List Int)):=
 bif(decide (y1<16))then((PL xA b y1).bind fun v1=>
 (ap 8 a [v1]).bind fun q1=>
 some (.inl (q1,(ad y1 1))))
 else(some (.inr a))
def rC (xA:Arena) (a:Int):Option (List Int):=
 (A0 (fun s:List Int×Int=>Ol xA a s.1 s.2) ([],0)).bind fun v2=>
 some v2
def H8 (j:Int) (v1:List Ar) (i:Bool) (y1:Int) (b:Int) (c:Int) (d:Int) (a:Int) (e:Int) (f:Int) (g:Int) (h:ByteArray):Option ((Bool×Int×Int×Int×Int×Int×Int×Int×Int×ByteArray)⊕(Bool×Int×Int×Int×Int×Int×Int×Int×ByteArray)):=
 bif(decide (y1<(ln v1)))then((gi v1 y1).bind fun x1=>
 (bif(x1.Page.Kind==1)then(bif(x1.Page.Tx==j)then(bif(!i)then(some true)
 else(some (decide (x1.Page.Seq>=a))))
 else(some false))
 else(some false):Option (Bool)).bind fun j1=>
 bif j1 then(some (.inl (true,(ad y1 1),x1.Block,x1.Leaf,x1.Page.Kind,x1.Page.Seq,x1.Page.Tx,x1.Page.Part,x1.Page.Count,x1.Page.Text)))
 else(some (.inl (i,(ad y1 1),b,c,d,a,e,f,g,h))))
 else(some (.inr (i,b,c,d,a,e,f,g,h)))
def Pq (xF:Flash) (a:Int):Option (Ar×Bool):=
 (Ia xF).bind fun v1=>
 (A0 (fun s:Bool×Int×Int×Int×Int×Int×Int×Int×Int×ByteArray=>H8 a v1 s.1 s.2.1 s.2.2.1 s.2.2.2.1 s.2.2.2.2.1 s.2.2.2.2.2.1 s.2.2.2.2.2.2.1 s.2.2.2.2.2.2.2.1 s.2.2.2.2.2.2.2.2.1 s.2.2.2.2.2.2.2.2.2) (false,0,0,0,0,0,0,0,0,(bs []))).bind fun v2=>
 some ((Ar.mk v2.2.1 v2.2.2.1 (Page.mk v2.2.2.2.1 v2.2.2.2.2.1 v2.2.2.2.2.2.1 v2.2.2.2.2.2.2.1 v2.2.2.2.2.2.2.2.1 v2.2.2.2.2.2.2.2.2)),v2.1)
def CZ (a:ByteArray) (b:List AO):Option ((ByteArray×List AO)⊕((List AO)⊕((List AO×Bool)))):=
 bif(!(seq a (bs [])))then((sx a 0).bind fun x1=>
 (bif(decide ((IntKind.i64.wrap x1)>=128))then(some (decide ((FZ a)>=2)))
 else(some false):Option (Bool)).bind fun j1=>
 bif j1 then((sx a 1).bind fun x2=>
 (ap 32 b [(AO.mk (IntKind.i64.wrap x2) (sb (IntKind.i64.wrap x1) 128) (bs []))]).bind fun q1=>
 (sub a 2 (FZ a)).bind fun x3=>
 some (.inl (x3,q1)))
 else((bif(decide ((IntKind.i64.wrap x1)<128))then(some (decide ((IntKind.i64.wrap x1)<(FZ a))))
 else(some false):Option (Bool)).bind fun j2=>
 bif j2 then((sub a 1 (ad 1 (IntKind.i64.wrap x1))).bind fun x4=>
 (ap 32 b [(AO.mk 0 0 x4)]).bind fun q2=>
 (sub a (ad 1 (IntKind.i64.wrap x1)) (FZ a)).bind fun x5=>
 some (.inl (x5,q2)))
 else(some (.inr (.inr ([],false))))))
 else(some (.inr (.inl b)))
def Mp (xT:ByteArray):Option (List AO×Bool):=
 (A0 (fun s:ByteArray×List AO=>CZ s.1 s.2) (xT,[])).bind (Sum.elim (fun v1=>(some (v1,true))) some)
def L3 (x1:AO) (a:List Int) (y2:Int):Option ((List Int×Int)⊕(List Int)):=
 bif(decide (y2<x1.Size))then((gi a (sb (ln a) x1.Back)).bind fun x2=>
 (ap 1 a [x2]).bind fun q2=>
 some (.inl (q2,(ad y2 1))))
 else(some (.inr a))
def Ju (b:List AO) (a:List Int) (y1:Int):Option ((List Int×Int)⊕((List Int)⊕((ByteArray×Bool)))):=
 bif(decide (y1<(ln b)))then((gi b y1).bind fun x1=>
 (bif(x1.Back==0)then((bif(x1.Size !=0)then(some true)
 else((OE (FZ x1.Text) 1 31).bind fun v1=>
 some (!v1)):Option (Bool)).bind fun j2=>
 bif j2 then(some (.inr (.inr (.inr ((bs []),false)))))
 else((aps a x1.Text).bind fun q1=>
 some (.inl q1)))
 else(((OE x1.Back 1 (ln a)).bind fun v2=>
 bif(!v2)then(some true)
 else((OE x1.Size 1 31).bind fun v3=>
 bif(!v3)then(some true)
 else(some (!(seq x1.Text (bs []))))):Option (Bool)).bind fun j3=>
 bif j3 then(some (.inr (.inr (.inr ((bs []),false)))))
 else((A0 (fun s:List Int×Int=>L3 x1 s.1 s.2) (a,0)).bind fun v4=>
 some (.inl v4))):Option ((List Int)⊕((List Int×Int)⊕((List Int)⊕((ByteArray×Bool)))))).bind (Sum.elim (fun j1=>(bif(decide ((ln j1)>64))then(some (.inr (.inr ((bs []),false))))
 else(some (.inl (j1,(ad y1 1)))))) some))
 else(some (.inr (.inl a)))
def LG (a:List AO):Option (ByteArray×Bool):=
 (A0 (fun s:List Int×Int=>Ju a s.1 s.2) ([],0)).bind (Sum.elim (fun v5=>(some ((Hh v5),true))) some)
def Eg (xS:ByteArray) (c:Int) (b:Int) (a:Int):Option ((Int)⊕(Int)):=
 (bif(decide (a<31))then(bif(decide ((ad c a)<(FZ xS)))then((sx xS (ad b a)).bind fun x1=>
 (sx xS (ad c a)).bind fun x2=>
 some (x1==x2))
 else(some false))
 else(some false):Option (Bool)).bind fun j1=>
 bif j1 then(some (.inl (ad a 1)))
 else(some (.inr a))
def FC (xS:ByteArray) (d:Int) (b:Int) (c:Int) (a:Int):Option ((Int×Int×Int)⊕(Int×Int)):=
 bif(decide (a>=0))then((A0 (fun s:Int=>Eg xS d a s) 0).bind fun v1=>
 (bif(decide (v1>=4))then(some (decide (v1>b)))
 else(some false):Option (Bool)).bind fun j2=>
 bif j2 then(some (.inl (v1,(sb d a),(sb a 1))))
 else(some (.inl (b,c,(sb a 1)))))
 else(some (.inr (b,c)))
def Nu (xS:ByteArray) (a:Int):Option (Int×Int):=
 (A0 (fun s:Int×Int×Int=>FC xS a s.1 s.2.1 s.2.2) (0,0,(sb a 1))).bind fun v2=>
 some (v2.1,v2.2)
def Iq (xS:ByteArray) (a:List AO) (b:Int):Option ((List AO×Int)⊕(List AO)):=
 bif(decide (b<(FZ xS)))then((Nu xS b).bind fun v1=>
 bif(decide (v1.1>0))then((ap 32 a [(AO.mk v1.2 v1.1 (bs []))]).bind fun q1=>
 some (.inl (q1,(ad b v1.1))))
 else((bif(decide ((sb (ln a) 1)<0))then(some true)
 else((gi a (sb (ln a) 1)).bind fun x1=>
 bif(decide (x1.Back>0))then(some true)
 else((gi a (sb (ln a) 1)).bind fun x2=>
 some (decide ((FZ x2.Text)>=31)))):Option (Bool)).bind fun j1=>
 (bif j1 then((ap 32 a [(AO.mk 0 0 (bs []))]).bind fun q2=>
 some (q2,(ad (sb (ln a) 1) 1)))
 else(some (a,(sb (ln a) 1))):Option (List AO×Int)).bind fun j2=>
 (gi j2.1 j2.2).bind fun x3=>
 (sub xS b (ad b 1)).bind fun x4=>
 (SA x3.Text x4).bind fun x5=>
 (gi j2.1 j2.2).bind fun x6=>
 some (.inl ((si j2.1 j2.2 (AO.mk x6.Back x6.Size x5)),(ad b 1)))))
 else(some (.inr a))
def Mr (xS:ByteArray):Option (List AO):=
 bif(decide ((FZ xS)>64))then(some [])
 else((A0 (fun s:List AO×Int=>Iq xS s.1 s.2) ([],0)).bind fun v2=>
 some v2)
def GY (v1:List AO) (a:List Int) (y1:Int):Option ((List Int×Int)⊕(List Int)):=
 bif(decide (y1<(ln v1)))then((gi v1 y1).bind fun x1=>
 (bif(decide (x1.Back>0))then((ap 1 a [(IntKind.u8.wrap (ad 128 x1.Size)),(IntKind.u8.wrap x1.Back)]).bind fun q1=>
 some q1)
 else((ap 1 a [(IntKind.u8.wrap (FZ x1.Text))]).bind fun q2=>
 (aps q2 x1.Text).bind fun q3=>
 some q3):Option (List Int)).bind fun j1=>
 some (.inl (j1,(ad y1 1))))
 else(some (.inr a))
def Ka (xS:ByteArray):Option (ByteArray×Bool):=
 bif(decide ((FZ xS)>64))then(some ((bs []),false))
 else((Mr xS).bind fun v1=>
 (A0 (fun s:List Int×Int=>GY v1 s.1 s.2) ([122],0)).bind fun v2=>
 bif(decide ((ad (FZ xS) 1)<=(ln v2)))then((SA (bs [114]) xS).bind fun x2=>
 some (x2,true))
 else(some ((Hh v2),true)))
def Jt (xT:ByteArray):Option (ByteArray×Bool):=
 bif(seq xT (bs []))then(some ((bs []),false))
 else((sub xT 1 (FZ xT)).bind fun x1=>
 (sx xT 0).bind fun x2=>
 (bif(x2 !=114)then((Mp x1).bind fun v1=>
 (LG v1.1).bind fun v2=>
 bif(!v1.2)then(some (.inr ((bs []),false)))
 else(bif(!v2.2)then(some (.inr ((bs []),false)))
 else(some (.inl v2.1))))
 else(some (.inl x1)):Option ((ByteArray)⊕((ByteArray×Bool)))).bind (Sum.elim (fun j1=>((Ka j1).bind fun v3=>
 (bif(!v3.2)then(some true)
 else(some (!(seq v3.1 xT))):Option (Bool)).bind fun j2=>
 bif j2 then(some ((bs []),false))
 else(some (j1,true)))) some))
def KM (xF:Flash) (a:Int):Option (ByteArray×Bool):=
 (Pq xF a).bind fun v1=>
 bif(!v1.2)then(some ((bs []),false))
 else((Jt v1.1.Page.Text).bind fun v2=>
 some (v2.1,v2.2))
def Nx (xS:Store) (b:Int) (a:Int):Option (Int):=
 (PK xS b).bind fun v1=>
 bif(decide (v1<0))then(some 0)
 else((gi xS.Vols v1).bind fun x1=>
 (PL xS.Arena x1.Root a).bind fun v2=>
 some v2)
def KL (xD:AH) (b:Int) (a:Int):Option (ByteArray×Bool):=
 (PK xD.Store b).bind fun v1=>
 bif(decide (v1<0))then(some ((bs []),false))
 else((Nx xD.Store b a).bind fun v2=>
 bif(v2==0)then(some ((bs []),true))
 else((KM xD.Flash v2).bind fun v3=>
 some (v3.1,v3.2)))
def H9 (xB:Block) (a:Int) (y1:Int):Option ((Int×Int)⊕(Int)):=
 bif(decide (y1<(ln xB.Leaves)))then((gi xB.Leaves y1).bind fun x1=>
 bif(x1.Is==0)then(some (.inl ((ad a 1),(ad y1 1))))
 else(some (.inl (a,(ad y1 1)))))
 else(some (.inr a))
def Nv (xB:Block):Option (Int):=
 (A0 (fun s:Int×Int=>H9 xB s.1 s.2) (0,0)).bind fun v1=>
 some v1
def MJ (xF:Flash) (a:Int) (y1:Int):Option ((Int×Int)⊕(Int)):=
 bif(decide (y1<(ln xF.Blocks)))then((gi xF.Blocks y1).bind fun x1=>
 bif(!x1.Bad)then((Nv x1).bind fun v1=>
 some (.inl ((ad a v1),(ad y1 1))))
 else(some (.inl (a,(ad y1 1)))))
 else(some (.inr a))
def jV (xF:Flash):Option (Int):=
 (A0 (fun s:Int×Int=>MJ xF s.1 s.2) (0,0)).bind fun v2=>
 some v2
def Ix (xF:Flash) (a:List Int) (y1:Int):Option ((List Int×Int)⊕(List Int)):=
 bif(decide (y1<(ln xF.Blocks)))then((gi xF.Blocks y1).bind fun x1=>
 (bif(!x1.Bad)then((Nv x1).bind fun v1=>
 some (v1==(ln x1.Leaves)))
 else(some false):Option (Bool)).bind fun j1=>
 bif j1 then((ap 8 a [y1]).bind fun q1=>
 some (.inl (q1,(ad y1 1))))
 else(some (.inl (a,(ad y1 1)))))
 else(some (.inr a))
def RG (xF:Flash):Option (List Int):=
 (A0 (fun s:List Int×Int=>Ix xF s.1 s.2) ([],0)).bind fun v2=>
 some v2
def KF (xF:Flash) (a:Int):Option (ByteArray×Bool):=
 (EL xF).bind fun v1=>
 (HH v1 a).bind fun v2=>
 some (v2.1,v2.2)
def EP (v2:AH) (b:Int) (a:Int):Option ((Int)⊕((Unit)⊕((Int)⊕((Unit)⊕(Bool))))):=
 bif(decide (a<16))then((gi v2.Store.Vols b).bind fun x1=>
 (KL v2 x1.Id a).bind fun v3=>
 (gi v2.Store.Vols b).bind fun x2=>
 (HT v2.Store x2.Id a).bind fun v4=>
 (KF v2.Flash v4).bind fun v5=>
 (bif(!v3.2)then(some true)
 else(bif(v4==0)then(bif(!(seq v3.1 (bs [])))then(some true)
 else(bif(decide (v4>0))then(some (!(seq v3.1 v5.1)))
 else(some false)))
 else(bif(decide (v4>0))then(some (!(seq v3.1 v5.1)))
 else(some false))):Option (Bool)).bind fun j1=>
 bif j1 then(some (.inr (.inr (.inr (.inr false)))))
 else(some (.inl (ad a 1))))
 else(some (.inr (.inl ())))
def EQ (v2:AH) (a:Int):Option ((Int)⊕((Unit)⊕(Bool))):=
 bif(decide (a<(ln v2.Store.Vols)))then((A0 (fun s:Int=>EP v2 a s) 0).bind (Sum.elim (fun v6=>(some (.inl (ad a 1)))) some))
 else(some (.inr (.inl ())))
def ID (a:List Int):Option (Bool):=
 (Uz a).bind fun v1=>
 bif v1 then(some true)
 else((Jn a).bind fun v2=>
 (A0 (fun s:Int=>EQ v2 s) 0).bind (Sum.elim (fun v7=>((KL v2 8 0).bind fun v8=>
 bif(!v8.2)then((eD (QR.mk 6 8 0 0 (bs []))).bind fun v9=>
 some v9)
 else(some false))) some))
end
end Go.TI
