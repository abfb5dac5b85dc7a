/- What functions of the given program compute. No condition. -/
import Derived.Test.YtiemmklnnjembaaGreatNET5
namespace Go.TI
open Go
noncomputable section
structure Xe where
 Kind:Int
 Vol:Int
 Sector:Int
 Of:Int
 Text:ByteArray
structure Shelf where
 Vol:Int
 Texts:List ByteArray
structure BI where
 Kind:Int
 Block:Int
 Leaf:Int
 Text:ByteArray
structure Leaf where
 Is:Int
 Text:ByteArray
structure Block where
 Bad:Bool
 Wear:Int
 Leaves:List Leaf
structure Flash where
 Blocks:List Block
structure Vol where
 Id:Int
 Root:Int
structure BX where
 Leaf:Bool
 Kids:List Int
structure Arena where
 Knots:List BX
structure Store where
 Vols:List Vol
 Arena:Arena
 Next:Int
structure AM where
 Flash:Flash
 Store:Store
 Seq:Int
 Tx:Int
 Base:Int
structure Dk where
 Kind:Int
 Vol:Int
 Arg:Int
 Chunk:Int
structure World where
 AM:AM
 Codes:List Int
 Told:List ByteArray
 Model:List Shelf
 Steps:List BI
structure BA where
 b_:List Int
 i_:Int
 h_:Int
structure EB where
 text_:ByteArray
 at_:Int
 bad_:Bool
structure Page where
 Kind:Int
 Seq:Int
 Tx:Int
 Part:Int
 Count:Int
 Text:ByteArray
structure Aq where
 Block:Int
 Leaf:Int
 Page:Page
structure Tx where
 Num:Int
 Seq:Int
 Recs:List Dk
structure Bf where
 Back:Int
 Size:Int
 Text:ByteArray
def BR (xX:Int) (a:Int) (b:Int):Option (Bool):=
 bif(decide (xX>=a))then(some (decide (xX<=b)))
 else(some false)
def Rt (xQ:Xe):Option (Bool):=
 ((BR xQ.Kind 1 6).bind fun v1=>
 bif(!v1)then(some true)
 else((BR xQ.Vol 1 9).bind fun v2=>
 bif(!v2)then(some true)
 else(bif(decide ((Gg xQ.Text)>64))then(some true)
 else(bif(xQ.Kind !=1)then(some (!(seq xQ.Text (bs []))))
 else(some false)))):Option (Bool)).bind fun j1=>
 bif j1 then(some false)
 else(bif(xQ.Kind==4)then((bif(xQ.Sector==0)then((BR xQ.Of 1 9).bind fun v3=>
 some v3)
 else(some false):Option (Bool)).bind fun j2=>
 some j2)
 else(bif(xQ.Of !=0)then(some false)
 else((bif(xQ.Kind==3)then(some true)
 else(some (xQ.Kind==5)):Option (Bool)).bind fun j3=>
 bif j3 then(some (xQ.Sector==0))
 else((BR xQ.Sector 0 15).bind fun v4=>
 some v4))))
def RB (xN:Int) (b:Int) (a:Int):Option (Bool):=
 bif(decide (xN>=b))then(some (decide (xN<=a)))
 else(some false)
def GX (xN:Int) (b:Int) (a:List Block):Option ((Int×List Block)⊕(List Block)):=
 bif(decide (b<xN))then((mk 24 (Leaf.mk 0 (bs [])) 4).bind fun q1=>
 (ap 40 a [(Block.mk false 0 q1)]).bind fun q2=>
 some (.inl ((ad b 1),q2)))
 else(some (.inr a))
def Mg (xN:Int):Option (Flash×Bool):=
 (BR xN 3 10).bind fun v1=>
 bif(!v1)then(some ((Flash.mk []),false))
 else((A0 (fun s:Int×List Block=>GX xN s.1 s.2) (0,[])).bind fun v2=>
 some ((Flash.mk v2),true))
def HN (xF:Flash) (b:Int) (a:List Block):Option ((Int×List Block)⊕(List Block)):=
 bif(decide (b<(ln xF.Blocks)))then((gi xF.Blocks b).bind fun x1=>
 (ap 24 [] x1.Leaves).bind fun q1=>
 (ap 40 a [(Block.mk x1.Bad x1.Wear q1)]).bind fun q2=>
 some (.inl ((ad b 1),q2)))
 else(some (.inr a))
def GV (xF:Flash):Option (Flash):=
 (A0 (fun s:Int×List Block=>HN xF s.1 s.2) (0,[])).bind fun v1=>
 some (Flash.mk v1)
def Nq (xX:Leaf):Option (Bool):=
 bif(xX.Is==0)then(some (seq xX.Text (bs [])))
 else(bif(xX.Is==1)then((BR (Gg xX.Text) 1 120).bind fun v1=>
 some v1)
 else(bif(xX.Is==2)then(some (decide ((Gg xX.Text)<=120)))
 else(some false)))
def GI (x1:Block) (a:Int):Option ((Int)⊕((Unit)⊕((Int)⊕((Unit)⊕(Bool))))):=
 bif(decide (a<(ln x1.Leaves)))then(((gi x1.Leaves a).bind fun x2=>
 (Nq x2).bind fun v2=>
 bif(!v2)then(some true)
 else(bif(decide (a>0))then((gi x1.Leaves (sb a 1)).bind fun x3=>
 bif(x3.Is==0)then((gi x1.Leaves a).bind fun x4=>
 some (x4.Is !=0))
 else(some false))
 else(some false)):Option (Bool)).bind fun j2=>
 bif j2 then(some (.inr (.inr (.inr (.inr false)))))
 else(some (.inl (ad a 1))))
 else(some (.inr (.inl ())))
def GJ (xF:Flash) (a:Int):Option ((Int)⊕((Unit)⊕(Bool))):=
 bif(decide (a<(ln xF.Blocks)))then((gi xF.Blocks a).bind fun x1=>
 (bif((ln x1.Leaves) !=4)then(some true)
 else((BR x1.Wear 0 1000000000).bind fun v1=>
 some (!v1)):Option (Bool)).bind fun j1=>
 bif j1 then(some (.inr (.inr false)))
 else((A0 (fun s:Int=>GI x1 s) 0).bind (Sum.elim (fun v3=>(some (.inl (ad a 1)))) some)))
 else(some (.inr (.inl ())))
def HV (xF:Flash):Option (Bool):=
 (A0 (fun s:Int=>GJ xF s) 0).bind (Sum.elim (fun v4=>((BR (ln xF.Blocks) 3 10).bind fun v5=>
 some v5)) some)
def EY (xB:Block) (a:Int):Option ((Int)⊕((Unit)⊕(Int))):=
 bif(decide (a<(ln xB.Leaves)))then((gi xB.Leaves a).bind fun x1=>
 bif(x1.Is==0)then(some (.inr (.inr a)))
 else(some (.inl (ad a 1))))
 else(some (.inr (.inl ())))
def H5 (xB:Block):Option (Int):=
 (A0 (fun s:Int=>EY xB s) 0).bind (Sum.elim (fun v1=>(some 4)) some)
def Rk (xF:Flash) (xB:Int) (a:Int) (b:ByteArray):Option (Bool):=
 (BR xB 0 (sb (ln xF.Blocks) 1)).bind fun v1=>
 bif v1 then((gi xF.Blocks xB).bind fun x1=>
 bif(!x1.Bad)then(bif(decide (a<4))then((gi xF.Blocks xB).bind fun x2=>
 (H5 x2).bind fun v2=>
 bif(a==v2)then((BR (Gg b) 1 120).bind fun v3=>
 some v3)
 else(some false))
 else(some false))
 else(some false))
 else(some false)
def LH (xF:Flash) (xB:Int) (a:Int) (b:ByteArray):Option (Flash×Bool):=
 (GV xF).bind fun v1=>
 ((HV xF).bind fun v2=>
 bif(!v2)then(some true)
 else((Rk xF xB a b).bind fun v3=>
 some (!v3)):Option (Bool)).bind fun j1=>
 bif j1 then(some (v1,false))
 else((gi v1.Blocks xB).bind fun x1=>
 (gi x1.Leaves a).bind fun x2=>
 some ((Flash.mk (si v1.Blocks xB (Block.mk x1.Bad x1.Wear (si x1.Leaves a (Leaf.mk 1 b))))),true))
def Ss (xF:Flash) (xB:Int):Option (Flash×Bool):=
 (GV xF).bind fun v1=>
 ((HV xF).bind fun v2=>
 bif(!v2)then(some true)
 else((BR xB 0 (sb (ln xF.Blocks) 1)).bind fun v3=>
 bif(!v3)then(some true)
 else((gi xF.Blocks xB).bind fun x1=>
 bif x1.Bad then(some true)
 else((gi xF.Blocks xB).bind fun x2=>
 some (x2.Wear==1000000000)))):Option (Bool)).bind fun j1=>
 bif j1 then(some (v1,false))
 else((gi xF.Blocks xB).bind fun x3=>
 (mk 24 (Leaf.mk 0 (bs [])) 4).bind fun q1=>
 (gi v1.Blocks xB).bind fun x4=>
 some ((Flash.mk (si v1.Blocks xB (Block.mk false (ad x3.Wear 1) q1))),true))
def Mj (xF:Flash) (xS:BI):Option (Flash×Bool):=
 bif(xS.Kind==1)then((LH xF xS.Block xS.Leaf xS.Text).bind fun v1=>
 some (v1.1,v1.2))
 else(bif(xS.Kind==2)then((Ss xF xS.Block).bind fun v2=>
 some (v2.1,v2.2))
 else((GV xF).bind fun v3=>
 some (v3,false)))
def EH (b:List BI) (c:Int) (a:List Block):Option ((Int×List Block)⊕((List Block)⊕((Flash×Int)))):=
 bif(decide (c<(ln b)))then(((gi b c).bind fun x1=>
 (Mj (Flash.mk a) x1).bind fun v2=>
 some (v2.2,v2.1.Blocks):Option (Bool×List Block)).bind fun j1=>
 bif(!j1.1)then(some (.inr (.inr ((Flash.mk a),c))))
 else(some (.inl ((ad c 1),j1.2))))
 else(some (.inr (.inl a)))
def Ka (xF:Flash) (a:List BI):Option (Flash×Int):=
 (GV xF).bind fun v1=>
 (A0 (fun s:Int×List Block=>EH a s.1 s.2) (0,v1.Blocks)).bind (Sum.elim (fun v4=>(some ((Flash.mk v4),(ln a)))) some)
def UJ (a:List Int):Option (Bool):=
 some (decide ((ln a)>1048576))
def H4 (a:List Int) (c:Int) (b:Int):Option ((Int×Int)⊕(Int)):=
 (bif(decide (b<(ln a)))then(some (decide (b<4000)))
 else(some false):Option (Bool)).bind fun j1=>
 bif j1 then((gi a b).bind fun x1=>
 some (.inl ((ban .i64 (ad (ad (ml c 131) (IntKind.i64.wrap x1)) 7) 1073741823),(ad b 1))))
 else(some (.inr c))
def Ns (a:List Int):Option (BA):=
 (A0 (fun s:Int×Int=>H4 a s.1 s.2) ((ad 36501 (ln a)),0)).bind fun v1=>
 some (BA.mk a 0 v1)
def GW (xC:BA):Option (Int×BA):=
 bif(decide (xC.i_<(ln xC.b_)))then((gi xC.b_ xC.i_).bind fun x1=>
 some ((ban .i64 (ad (ban .i64 (bxo .i64 (Int.fdiv (ad (ml xC.h_ 6364136223846793005) 1442695040888963407) (2^(min (33:Int).toNat IntKind.i64.bits))) (Int.fdiv (ad (ml xC.h_ 6364136223846793005) 1442695040888963407) (2^(min (45:Int).toNat IntKind.i64.bits)))) 255) (IntKind.i64.wrap x1)) 255),(BA.mk xC.b_ (ad xC.i_ 1) (ad (ml xC.h_ 6364136223846793005) 1442695040888963407))))
 else(some ((ban .i64 (bxo .i64 (Int.fdiv (ad (ml xC.h_ 6364136223846793005) 1442695040888963407) (2^(min (33:Int).toNat IntKind.i64.bits))) (Int.fdiv (ad (ml xC.h_ 6364136223846793005) 1442695040888963407) (2^(min (45:Int).toNat IntKind.i64.bits)))) 255),(BA.mk xC.b_ xC.i_ (ad (ml xC.h_ 6364136223846793005) 1442695040888963407))))
def Db (xC:BA) (xN:Int):Option (Int×BA):=
 bif(decide (xN<=0))then(some (0,xC))
 else(bif(decide (xN<=256))then((GW xC).bind fun v1=>
 (rm .i64 v1.1 xN).bind fun x1=>
 some (x1,v1.2))
 else((GW xC).bind fun v2=>
 (GW v2.2).bind fun v3=>
 (GW v3.2).bind fun v4=>
 (GW v4.2).bind fun v5=>
 (rm .i64 (ad (ad (ad (ml v2.1 16777216) (ml v3.1 65536)) (ml v4.1 256)) v5.1) xN).bind fun x2=>
 some (x2,v5.2)))
def Mc (xF:Flash) (xB:Int) (a:Int):Option (ByteArray×Bool):=
 ((BR xB 0 (sb (ln xF.Blocks) 1)).bind fun v1=>
 bif(!v1)then(some true)
 else((gi xF.Blocks xB).bind fun x1=>
 (BR a 0 (sb (ln x1.Leaves) 1)).bind fun v2=>
 bif(!v2)then(some true)
 else((gi xF.Blocks xB).bind fun x2=>
 (gi x2.Leaves a).bind fun x3=>
 some (x3.Is !=1))):Option (Bool)).bind fun j1=>
 bif j1 then(some ((bs []),false))
 else((gi xF.Blocks xB).bind fun x4=>
 (gi x4.Leaves a).bind fun x5=>
 some (x5.Text,true))
def GE (a:Int) (b:Int):Option ((Int×Int)⊕(Int)):=
 bif(decide (b<8))then(bif((Int.tmod a 2)==1)then(some (.inl ((xr (IntKind.u32.wrap (Int.tdiv a 2)) 3558460437),(ad b 1))))
 else(some (.inl ((IntKind.u32.wrap (Int.tdiv a 2)),(ad b 1)))))
 else(some (.inr a))
def HQ (a:ByteArray) (b:Int) (c:Int):Option ((Int×Int)⊕(Int)):=
 bif(decide (c<(Gg a)))then((sx a c).bind fun x1=>
 (A0 (fun s:Int×Int=>GE s.1 s.2) ((xr b (IntKind.u32.wrap x1)),0)).bind fun v1=>
 some (.inl (v1,(ad c 1))))
 else(some (.inr b))
def Nu (b:Int) (a:ByteArray):Option (Int):=
 (A0 (fun s:Int×Int=>HQ a s.1 s.2) (b,0)).bind fun v2=>
 some v2
def Lz (a:ByteArray):Option (Int):=
 (Nu 4294967295 a).bind fun v1=>
 some v1
def JY (xX:Int):Option (ByteArray):=
 some (Hm [(IntKind.u8.wrap (Int.fdiv xX (2^(min (24:Int).toNat IntKind.u32.bits)))),(IntKind.u8.wrap (Int.fdiv xX (2^(min (16:Int).toNat IntKind.u32.bits)))),(IntKind.u8.wrap (Int.fdiv xX (2^(min (8:Int).toNat IntKind.u32.bits)))),(IntKind.u8.wrap xX)])
def I8 (a:ByteArray):Option (ByteArray×Bool):=
 (bif(decide ((sb (Gg a) 4)<0))then(some true)
 else(bif(decide ((sb (Gg a) 4)>20000))then(some true)
 else((sub a (sb (Gg a) 4) (Gg a)).bind fun x1=>
 (sub a 0 (sb (Gg a) 4)).bind fun x2=>
 (Lz x2).bind fun v1=>
 (JY v1).bind fun v2=>
 some (!(seq x1 v2)))):Option (Bool)).bind fun j1=>
 bif j1 then(some ((bs []),false))
 else((sub a 0 (sb (Gg a) 4)).bind fun x3=>
 some (x3,true))
def MF (b:Int) (a:List Int):Option ((Int×List Int)⊕(Int×List Int)):=
 bif(decide (b>127))then((ap 1 a [(IntKind.u8.wrap (ad (Int.tmod b 128) 128))]).bind fun q1=>
 some (.inl ((qu b 128),q1)))
 else(some (.inr (b,a)))
def H3 (xN:Int):Option (ByteArray):=
 (A0 (fun s:Int×List Int=>MF s.1 s.2) (xN,[])).bind fun v1=>
 (ap 1 v1.2 [(IntKind.u8.wrap v1.1)]).bind fun q2=>
 some (Hm q2)
def Df (b:ByteArray) (e:Int) (d:Int) (a:Int) (c:Int):Option ((Int×Int×Int)⊕((Unit)⊕((Int×Int×Bool)))):=
 (bif(decide (c<(Gg b)))then(some (decide (c<(ad e 5))))
 else(some false):Option (Bool)).bind fun j1=>
 bif j1 then((sx b c).bind fun x1=>
 (sx b c).bind fun x2=>
 bif(decide (x2<128))then((bif(decide ((ad d (ml (Int.tmod (IntKind.i64.wrap x1) 128) a))>1000000000))then(some true)
 else((sub b e (ad c 1)).bind fun x3=>
 (H3 (ad d (ml (Int.tmod (IntKind.i64.wrap x1) 128) a))).bind fun v2=>
 some (!(seq v2 x3))):Option (Bool)).bind fun j2=>
 bif j2 then(some (.inr (.inr (0,0,false))))
 else(some (.inr (.inr ((ad d (ml (Int.tmod (IntKind.i64.wrap x1) 128) a)),(ad c 1),true)))))
 else(some (.inl ((ad d (ml (Int.tmod (IntKind.i64.wrap x1) 128) a)),(ml a 128),(ad c 1)))))
 else(some (.inr (.inl ())))
def HT (a:ByteArray) (b:Int):Option (Int×Int×Bool):=
 (BR b 0 (Gg a)).bind fun v1=>
 bif(!v1)then(some (0,0,false))
 else((A0 (fun s:Int×Int×Int=>Df a b s.1 s.2.1 s.2.2) (0,1,b)).bind (Sum.elim (fun v3=>(some (0,0,false))) some))
def DW (xC:EB):Option (Int×EB):=
 (HT xC.text_ xC.at_).bind fun v1=>
 (bif xC.bad_ then(some true)
 else(some (!v1.2.2)):Option (Bool)).bind fun j1=>
 bif j1 then(some (0,(EB.mk xC.text_ xC.at_ true)))
 else(some (v1.1,(EB.mk xC.text_ v1.2.1 xC.bad_)))
def It (xP:Page):Option (Bool):=
 ((BR xP.Kind 1 2).bind fun v1=>
 bif(!v1)then(some true)
 else((BR xP.Seq 1 1000000000).bind fun v2=>
 bif(!v2)then(some true)
 else((BR xP.Tx 1 1000000000).bind fun v3=>
 bif(!v3)then(some true)
 else((BR xP.Count 1 9).bind fun v4=>
 bif(!v4)then(some true)
 else((BR xP.Part 0 (sb xP.Count 1)).bind fun v5=>
 bif(!v5)then(some true)
 else(some (decide ((Gg xP.Text)>90))))))):Option (Bool)).bind fun j1=>
 bif j1 then(some false)
 else(bif(xP.Kind==2)then(some true)
 else(some (xP.Count==1)))
def LE (xN:Int):Option (ByteArray):=
 some (Hm [(IntKind.u8.wrap xN)])
def Ir (a:ByteArray):Option (ByteArray×Bool):=
 bif(decide ((Gg a)>20000))then(some ((bs []),false))
 else((Lz a).bind fun v1=>
 (JY v1).bind fun v2=>
 (SI a v2).bind fun x1=>
 some (x1,true))
def E6 (xP:Page):Option (ByteArray×Bool):=
 (It xP).bind fun v1=>
 bif(!v1)then(some ((bs []),false))
 else((LE xP.Kind).bind fun v2=>
 (H3 xP.Seq).bind fun v3=>
 (SI v2 v3).bind fun x1=>
 (H3 xP.Tx).bind fun v4=>
 (SI x1 v4).bind fun x2=>
 (H3 xP.Part).bind fun v5=>
 (SI x2 v5).bind fun x3=>
 (H3 xP.Count).bind fun v6=>
 (SI x3 v6).bind fun x4=>
 (SI x4 xP.Text).bind fun x5=>
 (Ir x5).bind fun v7=>
 some (v7.1,v7.2))
def E5 (xT:ByteArray):Option (Page×Bool):=
 (I8 xT).bind fun v1=>
 (bif(!v1.2)then(some true)
 else(some (decide ((Gg v1.1)<1))):Option (Bool)).bind fun j1=>
 (DW (EB.mk v1.1 1 j1)).bind fun v2=>
 (DW v2.2).bind fun v3=>
 (DW v3.2).bind fun v4=>
 (DW v4.2).bind fun v5=>
 bif v5.2.bad_ then(some ((Page.mk 0 0 0 0 0 (bs [])),false))
 else((sx v1.1 0).bind fun x1=>
 (sub v1.1 v5.2.at_ (Gg v1.1)).bind fun x2=>
 (E6 (Page.mk (IntKind.i64.wrap x1) v2.1 v3.1 v4.1 v5.1 x2)).bind fun v6=>
 (bif(!v6.2)then(some true)
 else(some (!(seq v6.1 xT))):Option (Bool)).bind fun j2=>
 bif j2 then(some ((Page.mk 0 0 0 0 0 (bs [])),false))
 else(some ((Page.mk (IntKind.i64.wrap x1) v2.1 v3.1 v4.1 v5.1 x2),true)))
def Ei (xF:Flash) (c:Int) (a:List Aq) (b:Int):Option ((List Aq×Int)⊕(List Aq)):=
 (gi xF.Blocks c).bind fun x1=>
 bif(decide (b<(ln x1.Leaves)))then((Mc xF c b).bind fun v1=>
 (E5 v1.1).bind fun v2=>
 (bif v1.2 then(some v2.2)
 else(some false):Option (Bool)).bind fun j1=>
 bif j1 then((ap 72 a [(Aq.mk c b v2.1)]).bind fun q1=>
 some (.inl (q1,(ad b 1))))
 else(some (.inl (a,(ad b 1)))))
 else(some (.inr a))
def DM (xF:Flash) (a:List Aq) (b:Int):Option ((List Aq×Int)⊕(List Aq)):=
 bif(decide (b<(ln xF.Blocks)))then((A0 (fun s:List Aq×Int=>Ei xF b s.1 s.2) (a,0)).bind fun v3=>
 some (.inl (v3,(ad b 1))))
 else(some (.inr a))
def HR (a:List Aq) (b:Int):Option ((List Aq×Int)⊕(List Aq)):=
 (bif(decide (b>0))then((gi a (sb b 1)).bind fun x2=>
 (gi a b).bind fun x3=>
 some (decide (x2.Page.Seq>x3.Page.Seq)))
 else(some false):Option (Bool)).bind fun j2=>
 bif j2 then((gi a b).bind fun x4=>
 (gi a (sb b 1)).bind fun x5=>
 (gi a b).bind fun x6=>
 (gi (si a b x5) (sb b 1)).bind fun x7=>
 some (.inl ((si (si a b x5) (sb b 1) x4),(sb b 1))))
 else(some (.inr a))
def HS (a:List Aq) (b:Int):Option ((List Aq×Int)⊕(List Aq)):=
 bif(decide (b<(ln a)))then((A0 (fun s:List Aq×Int=>HR s.1 s.2) (a,b)).bind fun v5=>
 some (.inl (v5,(ad b 1))))
 else(some (.inr a))
def Et (xF:Flash):Option (List Aq):=
 (A0 (fun s:List Aq×Int=>DM xF s.1 s.2) ([],0)).bind fun v4=>
 (A0 (fun s:List Aq×Int=>HS s.1 s.2) (v4,1)).bind fun v6=>
 some v6
def NX:Option (Store):=
 some (Store.mk [] (Arena.mk []) 1)
def NY (xR:Dk):Option (Bool):=
 (BR xR.Arg 0 1000000000).bind fun v1=>
 bif(!v1)then(some false)
 else(bif(xR.Kind==1)then((bif(xR.Vol==0)then(some (xR.Chunk==0))
 else(some false):Option (Bool)).bind fun j1=>
 some j1)
 else(((BR xR.Kind 2 5).bind fun v2=>
 bif(!v2)then(some true)
 else((BR xR.Vol 1 9).bind fun v3=>
 bif(!v3)then(some true)
 else(bif(xR.Kind !=4)then(some (xR.Chunk !=0))
 else(some false))):Option (Bool)).bind fun j2=>
 bif j2 then(some false)
 else(bif(xR.Kind==2)then(some (decide (xR.Arg<=9)))
 else(bif(xR.Kind==3)then(some (xR.Arg==0))
 else(bif(xR.Kind==4)then(bif(decide (xR.Arg<16))then((BR xR.Chunk 1 1000000000).bind fun v4=>
 some v4)
 else(some false))
 else(some (decide (xR.Arg<16))))))))
def DF (xT:ByteArray) (a:List Dk) (y01:ByteArray) (y11:Int) (y21:Bool):Option ((List Dk×ByteArray×Int×Bool)⊕((List Dk)⊕((List Dk×Bool)))):=
 (bif(decide (y11<(Gg xT)))then(some (!y21))
 else(some false):Option (Bool)).bind fun j1=>
 bif j1 then((sx xT y11).bind fun x1=>
 (DW (EB.mk y01 (ad y11 1) y21)).bind fun v1=>
 (DW v1.2).bind fun v2=>
 (bif v2.2.bad_ then(some true)
 else((NY (Dk.mk (qu (IntKind.i64.wrap x1) 16) (Int.tmod (IntKind.i64.wrap x1) 16) v1.1 v2.1)).bind fun v3=>
 some (!v3)):Option (Bool)).bind fun j2=>
 bif j2 then(some (.inr (.inr ([],false))))
 else((ap 32 a [(Dk.mk (qu (IntKind.i64.wrap x1) 16) (Int.tmod (IntKind.i64.wrap x1) 16) v1.1 v2.1)]).bind fun q1=>
 some (.inl (q1,v2.2.text_,v2.2.at_,v2.2.bad_))))
 else(some (.inr (.inl a)))
def IA (xT:ByteArray):Option (List Dk×Bool):=
 (A0 (fun s:List Dk×ByteArray×Int×Bool=>DF xT s.1 s.2.1 s.2.2.1 s.2.2.2) ([],xT,0,false)).bind (Sum.elim (fun v4=>(some (v4,true))) some)
def H0 (f:List Aq) (h:Int) (d:Int) (b:Int) (e:ByteArray) (c:Bool) (g:Int) (a:Int):Option ((Int×ByteArray×Bool×Int×Int)⊕(Int×ByteArray×Bool×Int)):=
 (bif(decide (g<(ln f)))then(some (!c))
 else(some false):Option (Bool)).bind fun j2=>
 bif j2 then((gi f g).bind fun x1=>
 (bif(x1.Page.Kind !=2)then(some true)
 else(bif(x1.Page.Tx !=h)then(some true)
 else(bif(x1.Page.Part !=d)then(some true)
 else(bif(decide (d>0))then(some (x1.Page.Count !=b))
 else(some false)))):Option (Bool)).bind fun j3=>
 bif j3 then(some (.inl (b,e,c,(ad g 1),a)))
 else((SI e x1.Page.Text).bind fun x2=>
 (bif(d==0)then(some true)
 else(some (decide (x1.Page.Seq<a))):Option (Bool)).bind fun j4=>
 bif j4 then(some (.inl (x1.Page.Count,x2,true,(ad g 1),x1.Page.Seq)))
 else(some (.inl (x1.Page.Count,x2,true,(ad g 1),a)))))
 else(some (.inr (b,e,c,a)))
def Ma (e:List Aq) (f:Int) (b:Int) (c:ByteArray) (a:Int) (d:Int):Option ((Int×ByteArray×Int×Int)⊕((ByteArray×Int)⊕((Tx×Bool)))):=
 (bif(a==0)then(some true)
 else(some (decide (a<b))):Option (Bool)).bind fun j1=>
 bif j1 then((A0 (fun s:Int×ByteArray×Bool×Int×Int=>H0 e f a s.1 s.2.1 s.2.2.1 s.2.2.2.1 s.2.2.2.2) (b,c,false,0,d)).bind fun v1=>
 bif(!v1.2.2.1)then(some (.inr (.inr ((Tx.mk f v1.2.2.2 []),false))))
 else(some (.inl (v1.1,v1.2.1,(ad a 1),v1.2.2.2))))
 else(some (.inr (.inl (c,d))))
def Rj (a:List Aq) (b:Int):Option (Tx×Bool):=
 (A0 (fun s:Int×ByteArray×Int×Int=>Ma a b s.1 s.2.1 s.2.2.1 s.2.2.2) (0,(bs []),0,0)).bind (Sum.elim (fun v2=>((IA v2.1).bind fun v3=>
 some ((Tx.mk b v2.2 v3.1),v3.2))) some)
def IX (a:List Int) (x1:Aq) (b:List Int) (c:Int):Option ((List Int×Int)⊕(List Int)):=
 bif(decide (c<(ln a)))then((gi a c).bind fun x2=>
 bif(decide (x2<x1.Page.Tx))then((gi a c).bind fun x3=>
 (ap 8 b [x3]).bind fun q1=>
 some (.inl (q1,(ad c 1))))
 else(some (.inl (b,(ad c 1)))))
 else(some (.inr b))
def IW (a:List Int) (x1:Aq) (b:List Int) (c:Int):Option ((List Int×Int)⊕(List Int)):=
 bif(decide (c<(ln a)))then((gi a c).bind fun x4=>
 bif(decide (x4>x1.Page.Tx))then((gi a c).bind fun x5=>
 (ap 8 b [x5]).bind fun q3=>
 some (.inl (q3,(ad c 1))))
 else(some (.inl (b,(ad c 1)))))
 else(some (.inr b))
def H7 (b:List Aq) (a:List Int) (c:Int):Option ((List Int×Int)⊕(List Int)):=
 bif(decide (c<(ln b)))then((gi b c).bind fun x1=>
 bif(x1.Page.Kind !=2)then(some (.inl (a,(ad c 1))))
 else((A0 (fun s:List Int×Int=>IX a x1 s.1 s.2) ([],0)).bind fun v1=>
 (ap 8 v1 [x1.Page.Tx]).bind fun q2=>
 (A0 (fun s:List Int×Int=>IW a x1 s.1 s.2) (q2,0)).bind fun v2=>
 some (.inl (v2,(ad c 1)))))
 else(some (.inr a))
def H6 (c:List Aq) (v3:List Int) (a:List Tx) (b:Int):Option ((List Tx×Int)⊕(List Tx)):=
 bif(decide (b<(ln v3)))then((gi v3 b).bind fun x6=>
 (Rj c x6).bind fun v4=>
 bif v4.2 then((ap 40 a [v4.1]).bind fun q4=>
 some (.inl (q4,(ad b 1))))
 else(some (.inl (a,(ad b 1)))))
 else(some (.inr a))
def Nw (a:List Aq):Option (List Tx):=
 (A0 (fun s:List Int×Int=>H7 a s.1 s.2) ([],0)).bind fun v3=>
 (A0 (fun s:List Tx×Int=>H6 a v3 s.1 s.2) ([],0)).bind fun v5=>
 some v5
def EV (a:List Tx) (c:Int) (b:Int):Option ((Int×Int)⊕(Int)):=
 bif(decide (b<(ln a)))then((gi a b).bind fun x1=>
 bif(decide ((ln x1.Recs)>0))then((gi a b).bind fun x2=>
 (gi x2.Recs 0).bind fun x3=>
 bif(x3.Kind==1)then(some (.inl (b,(ad b 1))))
 else(some (.inl (c,(ad b 1)))))
 else(some (.inl (c,(ad b 1)))))
 else(some (.inr c))
def Gp (a:List Tx) (b:List Tx) (c:Int):Option ((List Tx×Int)⊕(List Tx)):=
 bif(decide (c<(ln a)))then((gi a c).bind fun x4=>
 (ap 32 [] x4.Recs).bind fun q1=>
 (ap 40 b [(Tx.mk x4.Num x4.Seq q1)]).bind fun q2=>
 some (.inl (q2,(ad c 1))))
 else(some (.inr b))
def KF (a:List Tx):Option (List Tx):=
 (A0 (fun s:Int×Int=>EV a s.1 s.2) (0,0)).bind fun v1=>
 (A0 (fun s:List Tx×Int=>Gp a s.1 s.2) ([],v1)).bind fun v2=>
 some v2
def HM (xA:Arena) (b:Int) (a:List BX):Option ((Int×List BX)⊕(List BX)):=
 bif(decide (b<(ln xA.Knots)))then((gi xA.Knots b).bind fun x1=>
 (gi xA.Knots b).bind fun x2=>
 (ap 8 [] x2.Kids).bind fun q1=>
 (ap 32 a [(BX.mk x1.Leaf q1)]).bind fun q2=>
 some (.inl ((ad b 1),q2)))
 else(some (.inr a))
def JV (xA:Arena):Option (Arena):=
 (A0 (fun s:Int×List BX=>HM xA s.1 s.2) (0,[])).bind fun v1=>
 some (Arena.mk v1)
def Ea (xS:Store):Option (Store):=
 (ap 16 [] xS.Vols).bind fun q1=>
 (JV xS.Arena).bind fun v1=>
 some (Store.mk q1 v1 xS.Next)
def Dz (xA:Arena) (b:Int) (x1:BX) (a:Int):Option ((Int)⊕((Unit)⊕((Int)⊕((Unit)⊕(Bool))))):=
 bif(decide (a<4))then((gi x1.Kids a).bind fun x2=>
 (bif x1.Leaf then(bif(decide (x2<0))then(some true)
 else(bif(!x1.Leaf)then(bif(x2 !=(-1))then((BR x2 0 (sb b 1)).bind fun v1=>
 bif(!v1)then(some true)
 else((gi xA.Knots x2).bind fun x3=>
 some (!x3.Leaf)))
 else(some false))
 else(some false)))
 else(bif(!x1.Leaf)then(bif(x2 !=(-1))then((BR x2 0 (sb b 1)).bind fun v2=>
 bif(!v2)then(some true)
 else((gi xA.Knots x2).bind fun x4=>
 some (!x4.Leaf)))
 else(some false))
 else(some false)):Option (Bool)).bind fun j1=>
 bif j1 then(some (.inr (.inr (.inr (.inr false)))))
 else(some (.inl (ad a 1))))
 else(some (.inr (.inl ())))
def D0 (xA:Arena) (a:Int):Option ((Int)⊕((Unit)⊕(Bool))):=
 bif(decide (a<(ln xA.Knots)))then((gi xA.Knots a).bind fun x1=>
 bif((ln x1.Kids) !=4)then(some (.inr (.inr false)))
 else((A0 (fun s:Int=>Dz xA a x1 s) 0).bind (Sum.elim (fun v3=>(some (.inl (ad a 1)))) some)))
 else(some (.inr (.inl ())))
def F5 (xA:Arena):Option (Bool):=
 (A0 (fun s:Int=>D0 xA s) 0).bind (Sum.elim (fun v4=>(some true)) some)
def Gm (xA:Arena) (a:Int):Option (Bool):=
 bif(a==(-1))then(some true)
 else((BR a 0 (sb (ln xA.Knots) 1)).bind fun v1=>
 bif v1 then((gi xA.Knots a).bind fun x1=>
 some (!x1.Leaf))
 else(some false))
def KE (xA:Arena) (b:Int) (a:Int):Option (Int):=
 bif(decide (b<0))then(some 0)
 else((gi xA.Knots b).bind fun x1=>
 (gi x1.Kids (qu a 4)).bind fun x2=>
 bif(decide (x2<0))then(some 0)
 else((gi xA.Knots x2).bind fun x3=>
 (gi x3.Kids (Int.tmod a 4)).bind fun x4=>
 some x4))
def FP (xS:Store) (a:List Int) (b:Int):Option ((List Int×Int)⊕(List Int)):=
 bif(decide (b<(ln xS.Vols)))then((gi xS.Vols b).bind fun x1=>
 (ap 8 a [x1.Root]).bind fun q1=>
 some (.inl (q1,(ad b 1))))
 else(some (.inr a))
def JT (xS:Store):Option (List Int):=
 (A0 (fun s:List Int×Int=>FP xS s.1 s.2) ([],0)).bind fun v1=>
 some v1
def Hz (xA:Arena) (b:Int) (a:List Bool) (c:Int):Option ((List Bool×Int)⊕(List Bool)):=
 bif(decide (c<4))then((gi xA.Knots b).bind fun x2=>
 (gi x2.Kids c).bind fun x3=>
 bif(decide (x3>=0))then((gi xA.Knots b).bind fun x4=>
 (gi x4.Kids c).bind fun x5=>
 (gi a x5).bind fun x6=>
 some (.inl ((si a x5 true),(ad c 1))))
 else(some (.inl (a,(ad c 1)))))
 else(some (.inr a))
def OZ (xA:Arena) (a:Int):Option (List Bool):=
 (mk 1 false (ln xA.Knots)).bind fun q1=>
 bif(decide (a<0))then(some q1)
 else((gi q1 a).bind fun x1=>
 (A0 (fun s:List Bool×Int=>Hz xA a s.1 s.2) ((si q1 a true),0)).bind fun v1=>
 some v1)
def E4 (xA:Arena) (a:List Int) (b:Bool) (c:Int):Option ((Bool×Int)⊕(Bool)):=
 (bif(decide (c<(ln a)))then(some b)
 else(some false):Option (Bool)).bind fun j1=>
 bif j1 then((gi a c).bind fun x1=>
 (Gm xA x1).bind fun v2=>
 some (.inl (v2,(ad c 1))))
 else(some (.inr b))
def Fy (v5:List Bool) (a:List Bool) (b:Int):Option ((List Bool×Int)⊕(List Bool)):=
 bif(decide (b<(ln v5)))then((gi a b).bind fun x3=>
 bif x3 then((gi a b).bind fun x4=>
 some (.inl ((si a b true),(ad b 1))))
 else((gi v5 b).bind fun x5=>
 (gi a b).bind fun x6=>
 some (.inl ((si a b x5),(ad b 1)))))
 else(some (.inr a))
def E0 (xA:Arena) (a:List Int) (b:List Bool) (c:Int):Option ((List Bool×Int)⊕(List Bool)):=
 bif(decide (c<(ln a)))then((gi a c).bind fun x2=>
 (OZ xA x2).bind fun v5=>
 (A0 (fun s:List Bool×Int=>Fy v5 s.1 s.2) (b,0)).bind fun v6=>
 some (.inl (v6,(ad c 1))))
 else(some (.inr b))
def Ey (c:List Int) (j2:Bool×List Int) (b:Int) (a:List Int):Option ((Int×List Int)⊕(List Int)):=
 (bif(decide (b<4))then(some (!j2.1))
 else(some false):Option (Bool)).bind fun j3=>
 bif j3 then((gi a b).bind fun x10=>
 bif(decide (x10>=0))then((gi a b).bind fun x11=>
 (gi c x11).bind fun x12=>
 (gi a b).bind fun x13=>
 some (.inl ((ad b 1),(si a b x12))))
 else(some (.inl ((ad b 1),a))))
 else(some (.inr a))
def Ez (xA:Arena) (v7:List Bool) (a:List Int) (c:Int) (b:List BX):Option ((List Int×Int×List BX)⊕(List Int×List BX)):=
 bif(decide (c<(ln xA.Knots)))then((gi v7 c).bind fun x7=>
 bif(!x7)then(some (.inl (a,(ad c 1),b)))
 else(((gi xA.Knots c).bind fun x8=>
 (gi xA.Knots c).bind fun x9=>
 (ap 8 [] x9.Kids).bind fun q4=>
 some (x8.Leaf,q4):Option (Bool×List Int)).bind fun j2=>
 (A0 (fun s:Int×List Int=>Ey a j2 s.1 s.2) (0,j2.2)).bind fun v8=>
 (gi a c).bind fun x14=>
 (ap 32 b [(BX.mk j2.1 v8)]).bind fun q7=>
 some (.inl ((si a c (ln b)),(ad c 1),q7))))
 else(some (.inr (a,b)))
def Ex (v9:List Int×List BX) (a:List Int) (b:Int):Option ((List Int×Int)⊕(List Int)):=
 bif(decide (b<(ln a)))then((gi a b).bind fun x15=>
 bif(decide (x15>=0))then((gi a b).bind fun x16=>
 (gi v9.1 x16).bind fun x17=>
 (gi a b).bind fun x18=>
 some (.inl ((si a b x17),(ad b 1))))
 else(some (.inl (a,(ad b 1)))))
 else(some (.inr a))
def HP (xA:Arena) (a:List Int):Option (Arena×List Int):=
 (ap 8 [] a).bind fun q1=>
 (F5 xA).bind fun v1=>
 (A0 (fun s:Bool×Int=>E4 xA a s.1 s.2) (v1,0)).bind fun v3=>
 bif(!v3)then((JV xA).bind fun v4=>
 some (v4,q1))
 else((mk 1 false (ln xA.Knots)).bind fun q2=>
 (A0 (fun s:List Bool×Int=>E0 xA a s.1 s.2) (q2,0)).bind fun v7=>
 (mk 8 0 (ln xA.Knots)).bind fun q3=>
 (A0 (fun s:List Int×Int×List BX=>Ez xA v7 s.1 s.2.1 s.2.2) (q3,0,[])).bind fun v9=>
 (A0 (fun s:List Int×Int=>Ex v9 s.1 s.2) (q1,0)).bind fun v10=>
 some ((Arena.mk v9.2),v10))
def GF (xS:Store) (x1:Vol) (a:Int):Option ((Int)⊕((Unit)⊕((Int)⊕((Unit)⊕(Bool))))):=
 bif(decide (a<16))then((KE xS.Arena x1.Root a).bind fun v6=>
 bif(decide (v6>=xS.Next))then(some (.inr (.inr (.inr (.inr false)))))
 else(some (.inl (ad a 1))))
 else(some (.inr (.inl ())))
def GG (xS:Store) (a:Int):Option ((Int)⊕((Unit)⊕(Bool))):=
 bif(decide (a<(ln xS.Vols)))then((gi xS.Vols a).bind fun x1=>
 ((BR x1.Id 1 9).bind fun v3=>
 bif(!v3)then(some true)
 else(bif(decide (a>0))then((gi xS.Vols (sb a 1)).bind fun x2=>
 bif(decide (x2.Id>=x1.Id))then(some true)
 else((Gm xS.Arena x1.Root).bind fun v4=>
 some (!v4)))
 else((Gm xS.Arena x1.Root).bind fun v5=>
 some (!v5))):Option (Bool)).bind fun j2=>
 bif j2 then(some (.inr (.inr false)))
 else((A0 (fun s:Int=>GF xS x1 s) 0).bind (Sum.elim (fun v7=>(some (.inl (ad a 1)))) some)))
 else(some (.inr (.inl ())))
def LG (xS:Store):Option (Bool):=
 (bif(decide ((ln xS.Vols)>3))then(some true)
 else((F5 xS.Arena).bind fun v1=>
 bif(!v1)then(some true)
 else((BR xS.Next 1 1000000000).bind fun v2=>
 some (!v2))):Option (Bool)).bind fun j1=>
 bif j1 then(some false)
 else((A0 (fun s:Int=>GG xS s) 0).bind (Sum.elim (fun v8=>(((JT xS).bind fun v9=>
 (HP xS.Arena v9).bind fun v10=>
 some v10.1.Knots:Option (List BX)).bind fun j3=>
 some ((ln j3)==(ln xS.Arena.Knots)))) some))
def I6 (xS:Store) (b:Int) (a:Int):Option ((Int)⊕((Unit)⊕(Int))):=
 bif(decide (a<(ln xS.Vols)))then((gi xS.Vols a).bind fun x1=>
 bif(x1.Id==b)then(some (.inr (.inr a)))
 else(some (.inl (ad a 1))))
 else(some (.inr (.inl ())))
def Gd (xS:Store) (a:Int):Option (Int):=
 (A0 (fun s:Int=>I6 xS a s) 0).bind (Sum.elim (fun v1=>(some (-1))) some)
def IN (xS:Store) (xR:Dk) (a:List Vol) (b:Int):Option ((List Vol×Int)⊕(List Vol)):=
 bif(decide (b<(ln xS.Vols)))then((gi xS.Vols b).bind fun x2=>
 bif(decide (x2.Id<xR.Vol))then((gi xS.Vols b).bind fun x3=>
 (ap 16 a [x3]).bind fun q1=>
 some (.inl (q1,(ad b 1))))
 else(some (.inl (a,(ad b 1)))))
 else(some (.inr a))
def IM (xS:Store) (xR:Dk) (a:List Vol) (b:Int):Option ((List Vol×Int)⊕(List Vol)):=
 bif(decide (b<(ln xS.Vols)))then((gi xS.Vols b).bind fun x4=>
 bif(decide (x4.Id>xR.Vol))then((gi xS.Vols b).bind fun x5=>
 (ap 16 a [x5]).bind fun q3=>
 some (.inl (q3,(ad b 1))))
 else(some (.inl (a,(ad b 1)))))
 else(some (.inr a))
def KA (xS:Store) (xR:Dk):Option (Store×Bool):=
 (bif(decide (xR.Arg>0))then((Gd xS xR.Arg).bind fun v1=>
 bif(decide (v1<0))then((Ea xS).bind fun v2=>
 some (.inr (v2,false)))
 else((gi xS.Vols v1).bind fun x1=>
 some (.inl x1.Root)))
 else(some (.inl (-1))):Option ((Int)⊕((Store×Bool)))).bind (Sum.elim (fun j1=>(((Gd xS xR.Vol).bind fun v3=>
 bif(decide (v3>=0))then(some true)
 else(some ((ln xS.Vols)==3)):Option (Bool)).bind fun j2=>
 bif j2 then((Ea xS).bind fun v4=>
 some (v4,false))
 else((Ea xS).bind fun v5=>
 (A0 (fun s:List Vol×Int=>IN xS xR s.1 s.2) ([],0)).bind fun v6=>
 (ap 16 v6 [(Vol.mk xR.Vol j1)]).bind fun q2=>
 (A0 (fun s:List Vol×Int=>IM xS xR s.1 s.2) (q2,0)).bind fun v7=>
 some ((Store.mk v7 v5.Arena v5.Next),true)))) some)
def GU (j1:List Int×List BX) (b:Int) (a:List Vol):Option ((Int×List Vol)⊕(List Vol)):=
 bif(decide (b<(ln a)))then((gi j1.1 b).bind fun x1=>
 (gi a b).bind fun x2=>
 some (.inl ((ad b 1),(si a b (Vol.mk x2.Id x1)))))
 else(some (.inr a))
def FO (xS:Store):Option (Store):=
 ((JT xS).bind fun v1=>
 (HP xS.Arena v1).bind fun v2=>
 some (v2.2,v2.1.Knots):Option (List Int×List BX)).bind fun j1=>
 ((ap 16 [] xS.Vols).bind fun q1=>
 some q1:Option (List Vol)).bind fun j2=>
 (A0 (fun s:Int×List Vol=>GU j1 s.1 s.2) (0,j2)).bind fun v6=>
 some (Store.mk v6 (Arena.mk j1.2) xS.Next)
def Ro (xA:Arena) (b:Int) (a:Int) (xN:Int):Option (Arena×Int):=
 (JV xA).bind fun v1=>
 ((F5 xA).bind fun v2=>
 bif(!v2)then(some true)
 else((Gm xA b).bind fun v3=>
 bif(!v3)then(some true)
 else((BR a 0 15).bind fun v4=>
 bif(!v4)then(some true)
 else(some (decide (xN<0))))):Option (Bool)).bind fun j1=>
 bif j1 then(some (v1,b))
 else((mk 8 0 4).bind fun q1=>
 (bif(decide (b>=0))then((gi xA.Knots b).bind fun x1=>
 (ap 8 [] x1.Kids).bind fun q2=>
 (gi q2 (qu a 4)).bind fun x2=>
 bif(decide (x2>=0))then((gi xA.Knots x2).bind fun x3=>
 (ap 8 [] x3.Kids).bind fun q3=>
 some (q3,q2))
 else(some (q1,q2)))
 else(some (q1,[(-1),(-1),(-1),(-1)])):Option (List Int×List Int)).bind fun j2=>
 (gi j2.1 (Int.tmod a 4)).bind fun x4=>
 (gi j2.2 (qu a 4)).bind fun x5=>
 (ap 32 v1.Knots [(BX.mk true (si j2.1 (Int.tmod a 4) xN)),(BX.mk false (si j2.2 (qu a 4) (ln v1.Knots)))]).bind fun q4=>
 some ((Arena.mk q4),(sb (ln q4) 1)))
def Rs (xS:Store) (xR:Dk):Option (Store×Bool):=
 ((LG xS).bind fun v1=>
 bif(!v1)then(some true)
 else((NY xR).bind fun v2=>
 some (!v2)):Option (Bool)).bind fun j1=>
 bif j1 then((Ea xS).bind fun v3=>
 some (v3,false))
 else(bif(xR.Kind==1)then((bif(xR.Arg==0)then(some 1)
 else(some xR.Arg):Option (Int)).bind fun j2=>
 some ((Store.mk [] (Arena.mk []) j2),true))
 else(bif(xR.Kind==2)then((KA xS xR).bind fun v4=>
 some (v4.1,v4.2))
 else((Gd xS xR.Vol).bind fun v5=>
 (bif(decide (v5<0))then(some true)
 else(some (xR.Chunk==1000000000)):Option (Bool)).bind fun j3=>
 bif j3 then((Ea xS).bind fun v6=>
 some (v6,false))
 else((Ea xS).bind fun v7=>
 bif(xR.Kind==3)then((dr xS.Vols 0 v5).bind fun x1=>
 (dr xS.Vols (ad v5 1) (ln xS.Vols)).bind fun x2=>
 (ap 16 [] x1).bind fun q1=>
 (ap 16 q1 x2).bind fun q2=>
 (FO (Store.mk q2 v7.Arena v7.Next)).bind fun v8=>
 some (v8,true))
 else(((gi xS.Vols v5).bind fun x3=>
 (Ro xS.Arena x3.Root xR.Arg xR.Chunk).bind fun v9=>
 some (v9.2,v9.1.Knots):Option (Int×List BX)).bind fun j4=>
 (gi v7.Vols v5).bind fun x4=>
 bif(decide (xR.Chunk>=v7.Next))then((FO (Store.mk (si v7.Vols v5 (Vol.mk x4.Id j4.1)) (Arena.mk j4.2) (ad xR.Chunk 1))).bind fun v11=>
 some (v11,true))
 else((FO (Store.mk (si v7.Vols v5 (Vol.mk x4.Id j4.1)) (Arena.mk j4.2) v7.Next)).bind fun v12=>
 some (v12,true)))))))
def FV (xS:Store) (d:List Dk) (e:Int) (a:List Vol) (b:List BX) (c:Int):Option ((Int×List Vol×List BX×Int)⊕((List Vol×List BX×Int)⊕((Store×Bool)))):=
 bif(decide (e<(ln d)))then(((gi d e).bind fun x1=>
 (Rs (Store.mk a (Arena.mk b) c) x1).bind fun v2=>
 some (v2.2,v2.1.Vols,v2.1.Arena.Knots,v2.1.Next):Option (Bool×List Vol×List BX×Int)).bind fun j1=>
 bif(!j1.1)then((Ea xS).bind fun v4=>
 some (.inr (.inr (v4,false))))
 else(some (.inl ((ad e 1),j1.2.1,j1.2.2.1,j1.2.2.2))))
 else(some (.inr (.inl (a,b,c))))
def Mi (xS:Store) (a:List Dk):Option (Store×Bool):=
 (Ea xS).bind fun v1=>
 (A0 (fun s:Int×List Vol×List BX×Int=>FV xS a s.1 s.2.1 s.2.2.1 s.2.2.2) (0,v1.Vols,v1.Arena.Knots,v1.Next)).bind (Sum.elim (fun v5=>(some ((Store.mk v5.1 (Arena.mk v5.2.1) v5.2.2),true))) some)
def FU (v2:List Aq) (a:Int) (b:Int) (c:Int):Option ((Int×Int×Int)⊕(Int×Int)):=
 bif(decide (a<(ln v2)))then((gi v2 a).bind fun x1=>
 (bif(decide (x1.Page.Seq>=b))then((gi v2 a).bind fun x2=>
 some (ad x2.Page.Seq 1))
 else(some b):Option (Int)).bind fun j1=>
 ((gi v2 a).bind fun x3=>
 bif(x3.Page.Kind==2)then((gi v2 a).bind fun x4=>
 some (decide (x4.Page.Tx>=c)))
 else(some false):Option (Bool)).bind fun j2=>
 bif j2 then((gi v2 a).bind fun x5=>
 some (.inl ((ad a 1),j1,(ad x5.Page.Tx 1))))
 else(some (.inl ((ad a 1),j1,c))))
 else(some (.inr (b,c)))
def FT (v7:List Tx) (a:Int) (b:List Vol) (c:List BX) (d:Int) (e:Int):Option ((Int×List Vol×List BX×Int×Int)⊕(List Vol×List BX×Int×Int)):=
 bif(decide (a<(ln v7)))then((bif(a==0)then((gi v7 a).bind fun x6=>
 some x6.Num)
 else(some e):Option (Int)).bind fun j3=>
 (gi v7 a).bind fun x7=>
 (Mi (Store.mk b (Arena.mk c) d) x7.Recs).bind fun v8=>
 some (.inl ((ad a 1),v8.1.Vols,v8.1.Arena.Knots,v8.1.Next,j3)))
 else(some (.inr (b,c,d,e)))
def E7 (xF:Flash):Option (AM×Bool):=
 (HV xF).bind fun v1=>
 bif(!v1)then(some ((AM.mk (Flash.mk []) (Store.mk [] (Arena.mk []) 0) 0 0 0),false))
 else((Et xF).bind fun v2=>
 (GV xF).bind fun v3=>
 (NX).bind fun v4=>
 (A0 (fun s:Int×Int×Int=>FU v2 s.1 s.2.1 s.2.2) (0,1,1)).bind fun v5=>
 (Nw v2).bind fun v6=>
 (KF v6).bind fun v7=>
 (A0 (fun s:Int×List Vol×List BX×Int×Int=>FT v7 s.1 s.2.1 s.2.2.1 s.2.2.2.1 s.2.2.2.2) (0,v4.Vols,v4.Arena.Knots,v4.Next,0)).bind fun v9=>
 some ((AM.mk v3 (Store.mk v9.1 (Arena.mk v9.2.1) v9.2.2.1) v5.1 v5.2 v9.2.2.2),true))
def KK (a:Int):Option (AM×Bool):=
 (Mg a).bind fun v1=>
 bif(!v1.2)then(some ((AM.mk (Flash.mk []) (Store.mk [] (Arena.mk []) 0) 0 0 0),false))
 else((E7 v1.1).bind fun v2=>
 some (v2.1,v2.2))
def Jt (xC:BA) (a:List Int):Option (Int×BA):=
 (Db xC (ln a)).bind fun v1=>
 (gi a v1.1).bind fun x1=>
 some (x1,v1.2)
def HO (xC:BA) (xN:Int):Option (Bool×BA):=
 (Db xC xN).bind fun v1=>
 some ((v1.1==0),v1.2)
def Nr (xC:BA) (a:List ByteArray):Option (ByteArray×BA):=
 (Db xC (ln a)).bind fun v1=>
 (gi a v1.1).bind fun x1=>
 some (x1,v1.2)
def No (xC:BA):Option (ByteArray×BA):=
 (Nr xC [(bs []),(bs [97]),(bs [98,98]),(bs [97,98,99,100,97,98,99,100,97,98,99,100]),(bs [104,101,108,108,111]),(bs [104,101,108,108,111,32,104,101,108,108,111,32,104,101,108,108,111]),(bs [122,122,122,122,122,122,122,122,122,122,122,122]),(bs [113,49]),(bs [113,50]),(bs [113,51])]).bind fun v1=>
 some (v1.1,v1.2)
def Np (xC:BA) (xD:AM):Option (Xe×BA):=
 (Jt xC [1,1,1,1,1,1,2,3,4,5,6]).bind fun v1=>
 (Db v1.2 3).bind fun v2=>
 (bif((ln xD.Store.Vols)==0)then(some (3,(ad 1 v2.1),v2.2.b_,v2.2.i_,v2.2.h_))
 else((bif(v1.1 !=3)then(bif(v1.1 !=4)then((HO v2.2 8).bind fun v3=>
 some ((!v3.1),v3.2.b_,v3.2.i_,v3.2.h_))
 else(some (false,v2.2.b_,v2.2.i_,v2.2.h_)))
 else(some (false,v2.2.b_,v2.2.i_,v2.2.h_)):Option (Bool×List Int×Int×Int)).bind fun j2=>
 bif j2.1 then((Db (BA.mk j2.2.1 j2.2.2.1 j2.2.2.2) (ln xD.Store.Vols)).bind fun v4=>
 (gi xD.Store.Vols v4.1).bind fun x1=>
 some (v1.1,x1.Id,v4.2.b_,v4.2.i_,v4.2.h_))
 else(some (v1.1,(ad 1 v2.1),j2.2.1,j2.2.2.1,j2.2.2.2))):Option (Int×Int×List Int×Int×Int)).bind fun j1=>
 (bif(j1.1==5)then((HO (BA.mk j1.2.2.1 j1.2.2.2.1 j1.2.2.2.2) 3).bind fun v8=>
 some ((!v8.1),v8.2.b_,v8.2.i_,v8.2.h_))
 else(some (false,j1.2.2.1,j1.2.2.2.1,j1.2.2.2.2)):Option (Bool×List Int×Int×Int)).bind fun j3=>
 (bif j3.1 then(some 1)
 else(some j1.1):Option (Int)).bind fun j4=>
 (bif(j4==1)then((No (BA.mk j3.2.1 j3.2.2.1 j3.2.2.2)).bind fun v9=>
 (Db v9.2 16).bind fun v10=>
 some (v10.1,0,v9.1,v10.2.b_,v10.2.i_,v10.2.h_))
 else((bif(j4==2)then(some (j4==2))
 else(some (j4==6)):Option (Bool)).bind fun j6=>
 bif j6 then((Db (BA.mk j3.2.1 j3.2.2.1 j3.2.2.2) 16).bind fun v11=>
 some (v11.1,0,(bs []),v11.2.b_,v11.2.i_,v11.2.h_))
 else(bif(j4==4)then((Db (BA.mk j3.2.1 j3.2.2.1 j3.2.2.2) 3).bind fun v12=>
 bif(decide ((ln xD.Store.Vols)>0))then((gi xD.Store.Vols 0).bind fun x5=>
 some (0,x5.Id,(bs []),v12.2.b_,v12.2.i_,v12.2.h_))
 else(some (0,(ad 1 v12.1),(bs []),v12.2.b_,v12.2.i_,v12.2.h_)))
 else(some (0,0,(bs []),j3.2.1,j3.2.2.1,j3.2.2.2)))):Option (Int×Int×ByteArray×List Int×Int×Int)).bind fun j5=>
 some ((Xe.mk j4 j1.2.1 j5.1 j5.2.1 j5.2.2.1),(BA.mk j5.2.2.2.1 j5.2.2.2.2.1 j5.2.2.2.2.2))
def LC (xD:AM):Option (AM):=
 (GV xD.Flash).bind fun v1=>
 (Ea xD.Store).bind fun v2=>
 some (AM.mk v1 v2 xD.Seq xD.Tx xD.Base)
def MG (xA:Arena) (b:Int) (a:Int):Option (Int):=
 ((F5 xA).bind fun v1=>
 bif(!v1)then(some true)
 else((Gm xA b).bind fun v2=>
 bif(!v2)then(some true)
 else((BR a 0 15).bind fun v3=>
 some (!v3))):Option (Bool)).bind fun j1=>
 bif j1 then(some 0)
 else((KE xA b a).bind fun v4=>
 some v4)
def FZ (xA:Arena) (b:Int) (a:List Int) (c:Int):Option ((List Int×Int)⊕(List Int)):=
 bif(decide (c<16))then((MG xA b c).bind fun v1=>
 (ap 8 a [v1]).bind fun q1=>
 some (.inl (q1,(ad c 1))))
 else(some (.inr a))
def HW (xA:Arena) (a:Int):Option (List Int):=
 (A0 (fun s:List Int×Int=>FZ xA a s.1 s.2) ([],0)).bind fun v2=>
 some v2
def EO (xA:List Int) (xB:List Int) (a:Int):Option ((Int)⊕((Unit)⊕(Bool))):=
 bif(decide (a<(ln xA)))then((gi xA a).bind fun x1=>
 (gi xB a).bind fun x2=>
 bif(x1 !=x2)then(some (.inr (.inr false)))
 else(some (.inl (ad a 1))))
 else(some (.inr (.inl ())))
def Iq (xA:List Int) (xB:List Int):Option (Bool):=
 bif((ln xA) !=(ln xB))then(some false)
 else((A0 (fun s:Int=>EO xA xB s) 0).bind (Sum.elim (fun v1=>(some true)) some))
def Gq (xA:Store) (xB:Store) (a:Int):Option ((Int)⊕((Unit)⊕(Bool))):=
 bif(decide (a<(ln xA.Vols)))then((gi xA.Vols a).bind fun x1=>
 (gi xB.Vols a).bind fun x2=>
 bif(x1.Id !=x2.Id)then(some (.inr (.inr false)))
 else((gi xA.Vols a).bind fun x3=>
 (gi xB.Vols a).bind fun x4=>
 (HW xA.Arena x3.Root).bind fun v1=>
 (HW xB.Arena x4.Root).bind fun v2=>
 (Iq v1 v2).bind fun v3=>
 bif(!v3)then(some (.inr (.inr false)))
 else(some (.inl (ad a 1)))))
 else(some (.inr (.inl ())))
def KG (xA:Store) (xB:Store):Option (Bool):=
 (bif((ln xA.Vols) !=(ln xB.Vols))then(some true)
 else(some (xA.Next !=xB.Next)):Option (Bool)).bind fun j1=>
 bif j1 then(some false)
 else((A0 (fun s:Int=>Gq xA xB s) 0).bind (Sum.elim (fun v4=>(some true)) some))
def Mk (xD:AM):Option (Bool):=
 (E7 xD.Flash).bind fun v1=>
 bif v1.2 then((KG v1.1.Store xD.Store).bind fun v2=>
 bif v2 then(bif(v1.1.Seq==xD.Seq)then(bif(v1.1.Tx==xD.Tx)then(bif(v1.1.Base==xD.Base)then((LG xD.Store).bind fun v3=>
 some v3)
 else(some false))
 else(some false))
 else(some false))
 else(some false))
 else(some false)
def Gl (a:List Int) (xX:Int) (b:List Int) (c:Int):Option ((List Int×Int)⊕(List Int)):=
 bif(decide (c<(ln a)))then((gi a c).bind fun x1=>
 bif(decide (x1<xX))then((gi a c).bind fun x2=>
 (ap 8 b [x2]).bind fun q1=>
 some (.inl (q1,(ad c 1))))
 else(some (.inl (b,(ad c 1)))))
 else(some (.inr b))
def EU (a:List Int) (xX:Int) (b:List Int) (c:Int):Option ((List Int×Int)⊕(List Int)):=
 bif(decide (c<(ln a)))then((gi a c).bind fun x3=>
 bif(decide (x3>xX))then((gi a c).bind fun x4=>
 (ap 8 b [x4]).bind fun q3=>
 some (.inl (q3,(ad c 1))))
 else(some (.inl (b,(ad c 1)))))
 else(some (.inr b))
def KC (a:List Int) (xX:Int):Option (List Int):=
 (A0 (fun s:List Int×Int=>Gl a xX s.1 s.2) ([],0)).bind fun v1=>
 (bif(decide (xX>0))then((ap 8 v1 [xX]).bind fun q2=>
 some q2)
 else(some v1):Option (List Int)).bind fun j1=>
 (A0 (fun s:List Int×Int=>EU a xX s.1 s.2) (j1,0)).bind fun v2=>
 some v2
def IU (v1:List Int) (a:List Int) (b:Int):Option ((List Int×Int)⊕(List Int)):=
 bif(decide (b<(ln v1)))then((gi v1 b).bind fun x2=>
 (KC a x2).bind fun v2=>
 some (.inl (v2,(ad b 1))))
 else(some (.inr a))
def IV (xS:Store) (a:List Int) (b:Int):Option ((List Int×Int)⊕(List Int)):=
 bif(decide (b<(ln xS.Vols)))then((gi xS.Vols b).bind fun x1=>
 (HW xS.Arena x1.Root).bind fun v1=>
 (A0 (fun s:List Int×Int=>IU v1 s.1 s.2) (a,0)).bind fun v3=>
 some (.inl (v3,(ad b 1))))
 else(some (.inr a))
def GP (xS:Store):Option (List Int):=
 (A0 (fun s:List Int×Int=>IV xS s.1 s.2) ([],0)).bind fun v4=>
 some v4
def Gi (a:List Aq) (c:Int) (b:Int):Option ((Int)⊕((Unit)⊕((Aq×Bool)))):=
 bif(decide (b>=0))then(((gi a b).bind fun x1=>
 bif(x1.Page.Kind==1)then((gi a b).bind fun x2=>
 some (x2.Page.Tx==c))
 else(some false):Option (Bool)).bind fun j1=>
 bif j1 then((gi a b).bind fun x3=>
 some (.inr (.inr (x3,true))))
 else(some (.inl (sb b 1))))
 else(some (.inr (.inl ())))
def IL (a:List Aq) (b:Int):Option (Aq×Bool):=
 (A0 (fun s:Int=>Gi a b s) (sb (ln a) 1)).bind (Sum.elim (fun v1=>(some ((Aq.mk 0 0 (Page.mk 0 0 0 0 0 (bs []))),false))) some)
def BU (xT:ByteArray) (b:List Bf) (a:Int):Option ((List Bf×Int)⊕((List Bf)⊕((List Bf×Bool)))):=
 bif(decide (a<(Gg xT)))then((sx xT a).bind fun x1=>
 bif(decide ((IntKind.i64.wrap x1)>128))then(bif(decide ((ad a 2)>(Gg xT)))then(some (.inr (.inr (b,false))))
 else((sx xT (ad a 1)).bind fun x2=>
 (ap 32 b [(Bf.mk (IntKind.i64.wrap x2) (sb (IntKind.i64.wrap x1) 128) (bs []))]).bind fun q1=>
 some (.inl (q1,(ad a 2)))))
 else(bif(decide ((ad (ad a 1) (IntKind.i64.wrap x1))>(Gg xT)))then(some (.inr (.inr (b,false))))
 else((sub xT (ad a 1) (ad (ad a 1) (IntKind.i64.wrap x1))).bind fun x3=>
 (ap 32 b [(Bf.mk 0 0 x3)]).bind fun q2=>
 some (.inl (q2,(ad (ad a 1) (IntKind.i64.wrap x1)))))))
 else(some (.inr (.inl b)))
def H1 (xT:ByteArray):Option (List Bf×Bool):=
 (A0 (fun s:List Bf×Int=>BU xT s.1 s.2) ([],0)).bind (Sum.elim (fun v1=>(some (v1,true))) some)
def Dx (x1:Bf) (a:List Int) (b:Int):Option ((List Int×Int)⊕(List Int)):=
 bif(decide (b<x1.Size))then((gi a (sb (ln a) x1.Back)).bind fun x2=>
 (ap 1 a [x2]).bind fun q2=>
 some (.inl (q2,(ad b 1))))
 else(some (.inr a))
def Dy (b:List Bf) (a:List Int) (c:Int):Option ((List Int×Int)⊕((List Int)⊕((ByteArray×Bool)))):=
 bif(decide (c<(ln b)))then((gi b c).bind fun x1=>
 (bif(x1.Back==0)then(((BR (Gg x1.Text) 1 31).bind fun v1=>
 bif(!v1)then(some true)
 else(some (x1.Size !=0)):Option (Bool)).bind fun j2=>
 bif j2 then(some (.inr (.inr (.inr ((bs []),false)))))
 else((ap 1 a (mD x1.Text)).bind fun q1=>
 some (.inl q1)))
 else(((BR x1.Back 1 (ln a)).bind fun v2=>
 bif(!v2)then(some true)
 else((BR x1.Size 1 31).bind fun v3=>
 bif(!v3)then(some true)
 else(some (!(seq x1.Text (bs []))))):Option (Bool)).bind fun j3=>
 bif j3 then(some (.inr (.inr (.inr ((bs []),false)))))
 else((A0 (fun s:List Int×Int=>Dx x1 s.1 s.2) (a,0)).bind fun v4=>
 some (.inl v4))):Option ((List Int)⊕((List Int×Int)⊕((List Int)⊕((ByteArray×Bool)))))).bind (Sum.elim (fun j1=>(bif(decide ((ln j1)>64))then(some (.inr (.inr ((bs []),false))))
 else(some (.inl (j1,(ad c 1)))))) some))
 else(some (.inr (.inl a)))
def EP (a:List Bf):Option (ByteArray×Bool):=
 (A0 (fun s:List Int×Int=>Dy a s.1 s.2) ([],0)).bind (Sum.elim (fun v5=>(some ((Hm v5),true))) some)
def FQ (xS:ByteArray) (b:Int) (c:Int) (a:Int):Option ((Int)⊕(Int)):=
 (bif(decide (a<31))then(bif(decide ((ad c a)<(Gg xS)))then((sx xS (ad b a)).bind fun x1=>
 (sx xS (ad c a)).bind fun x2=>
 some (x1==x2))
 else(some false))
 else(some false):Option (Bool)).bind fun j1=>
 bif j1 then(some (.inl (ad a 1)))
 else(some (.inr a))
def JX (xS:ByteArray) (a:Int) (b:Int):Option (Int):=
 (A0 (fun s:Int=>FQ xS a b s) 0).bind fun v1=>
 some v1
def DE (xS:ByteArray) (d:Int) (b:Int) (c:Int) (a:Int):Option ((Int×Int×Int)⊕(Int×Int)):=
 bif(decide (a>=0))then((JX xS a d).bind fun v1=>
 (bif(decide (v1>=4))then(some (decide (v1>b)))
 else(some false):Option (Bool)).bind fun j1=>
 bif j1 then(some (.inl (v1,(sb d a),(sb a 1))))
 else(some (.inl (b,c,(sb a 1)))))
 else(some (.inr (b,c)))
def Cl (xS:ByteArray) (a:List Bf) (b:Int):Option ((List Bf×Int)⊕(List Bf)):=
 bif(decide (b<(Gg xS)))then((A0 (fun s:Int×Int×Int=>DE xS b s.1 s.2.1 s.2.2) (0,0,(sb b 1))).bind fun v2=>
 bif(decide (v2.1>0))then((ap 32 a [(Bf.mk v2.2 v2.1 (bs []))]).bind fun q1=>
 some (.inl (q1,(ad b v2.1))))
 else((bif(decide ((sb (ln a) 1)>=0))then((gi a (sb (ln a) 1)).bind fun x1=>
 bif(x1.Back==0)then((gi a (sb (ln a) 1)).bind fun x2=>
 some (decide ((Gg x2.Text)<31)))
 else(some false))
 else(some false):Option (Bool)).bind fun j2=>
 bif j2 then((gi a (sb (ln a) 1)).bind fun x3=>
 (sub xS b (ad b 1)).bind fun x4=>
 (SI x3.Text x4).bind fun x5=>
 (gi a (sb (ln a) 1)).bind fun x6=>
 some (.inl ((si a (sb (ln a) 1) (Bf.mk x6.Back x6.Size x5)),(ad b 1))))
 else((sub xS b (ad b 1)).bind fun x7=>
 (ap 32 a [(Bf.mk 0 0 x7)]).bind fun q2=>
 some (.inl (q2,(ad b 1))))))
 else(some (.inr a))
def I9 (xS:ByteArray):Option (List Bf):=
 bif(decide ((Gg xS)>64))then(some [])
 else((A0 (fun s:List Bf×Int=>Cl xS s.1 s.2) ([],0)).bind fun v3=>
 some v3)
def DG (v1:List Bf) (b:ByteArray) (a:Int):Option ((ByteArray×Int)⊕(ByteArray)):=
 bif(decide (a<(ln v1)))then((gi v1 a).bind fun x1=>
 bif(x1.Back==0)then((SI b (Hm [(IntKind.u8.wrap (Gg x1.Text))])).bind fun x2=>
 (SI x2 x1.Text).bind fun x3=>
 some (.inl (x3,(ad a 1))))
 else((SI b (Hm [(IntKind.u8.wrap (ad 128 x1.Size)),(IntKind.u8.wrap x1.Back)])).bind fun x4=>
 some (.inl (x4,(ad a 1)))))
 else(some (.inr b))
def Eb (xS:ByteArray):Option (ByteArray×Bool):=
 bif(decide ((Gg xS)>64))then(some ((bs []),false))
 else((I9 xS).bind fun v1=>
 (A0 (fun s:ByteArray×Int=>DG v1 s.1 s.2) ((bs [122]),0)).bind fun v2=>
 bif(decide ((ad (Gg xS) 1)<=(Gg v2)))then((SI (bs [114]) xS).bind fun x5=>
 some (x5,true))
 else(some (v2,true)))
def EG (xT:ByteArray):Option (ByteArray×Bool):=
 bif((Gg xT)==0)then(some ((bs []),false))
 else((sub xT 1 (Gg xT)).bind fun x1=>
 (sx xT 0).bind fun x2=>
 (bif(x2==122)then((sub xT 1 (Gg xT)).bind fun x3=>
 (H1 x3).bind fun v1=>
 (EP v1.1).bind fun v2=>
 bif(!v1.2)then(some (.inr ((bs []),false)))
 else(bif(!v2.2)then(some (.inr ((bs []),false)))
 else(some (.inl v2.1))))
 else(some (.inl x1)):Option ((ByteArray)⊕((ByteArray×Bool)))).bind (Sum.elim (fun j1=>((Eb j1).bind fun v3=>
 (bif(!v3.2)then(some true)
 else(some (!(seq v3.1 xT))):Option (Bool)).bind fun j2=>
 bif j2 then(some ((bs []),false))
 else(some (j1,true)))) some))
def LD (b:List Aq) (a:Int):Option (ByteArray×Bool):=
 (IL b a).bind fun v1=>
 bif(!v1.2)then(some ((bs []),false))
 else((EG v1.1.Page.Text).bind fun v2=>
 some (v2.1,v2.2))
def GB (c:List Aq) (a:List Int) (d:ByteArray) (b:Int):Option ((Int)⊕((Unit)⊕(Int))):=
 bif(decide (b<(ln a)))then((gi a b).bind fun x1=>
 (LD c x1).bind fun v1=>
 (bif v1.2 then(some (seq v1.1 d))
 else(some false):Option (Bool)).bind fun j1=>
 bif j1 then((gi a b).bind fun x2=>
 some (.inr (.inr x2)))
 else(some (.inl (ad b 1))))
 else(some (.inr (.inl ())))
def PF (a:List Aq) (b:List Int) (c:ByteArray):Option (Int):=
 (A0 (fun s:Int=>GB a b c s) 0).bind (Sum.elim (fun v2=>(some 0)) some)
def Mh (xF:Flash) (a:List Int) (b:ByteArray):Option (Int):=
 (Et xF).bind fun v1=>
 (PF v1 a b).bind fun v2=>
 some v2
def KI (xD:AM) (xQ:Xe):Option (List Dk×ByteArray×Int):=
 (Rt xQ).bind fun v1=>
 bif(!v1)then(some ([],(bs []),3))
 else((Gd xD.Store xQ.Vol).bind fun v2=>
 (bif(xQ.Kind==3)then(some true)
 else(some (xQ.Kind==4)):Option (Bool)).bind fun j1=>
 bif j1 then(bif(decide (v2>=0))then(some ([],(bs []),2))
 else((bif(xQ.Kind==4)then((Gd xD.Store xQ.Of).bind fun v3=>
 some (decide (v3<0)))
 else(some false):Option (Bool)).bind fun j2=>
 bif j2 then(some ([],(bs []),1))
 else(bif(decide ((ln xD.Store.Vols)>=3))then(some ([],(bs []),4))
 else(some ([(Dk.mk 2 xQ.Vol xQ.Of 0)],(bs []),0)))))
 else(bif(!(decide (v2>=0)))then(some ([],(bs []),1))
 else(bif(xQ.Kind==1)then((GP xD.Store).bind fun v4=>
 (Mh xD.Flash v4 xQ.Text).bind fun v5=>
 (bif(v5==0)then((Eb xQ.Text).bind fun v6=>
 some (xD.Store.Next,v6.1))
 else(some (v5,(bs []))):Option (Int×ByteArray)).bind fun j3=>
 some ([(Dk.mk 4 xQ.Vol xQ.Sector j3.1)],j3.2,0))
 else(bif(xQ.Kind==2)then(some ([(Dk.mk 5 xQ.Vol xQ.Sector 0)],(bs []),0))
 else(bif(xQ.Kind==5)then(some ([(Dk.mk 3 xQ.Vol 0 0)],(bs []),0))
 else(some ([],(bs []),0)))))))
def LJ (xS:Store) (b:Int) (a:Int):Option (Int):=
 (Gd xS b).bind fun v1=>
 bif(decide (v1<0))then(some 0)
 else((gi xS.Vols v1).bind fun x1=>
 (MG xS.Arena x1.Root a).bind fun v2=>
 some v2)
def JR (c:List Aq) (xS:Store) (b:Int) (a:Int):Option (ByteArray×Bool):=
 (Gd xS b).bind fun v1=>
 bif(decide (v1<0))then(some ((bs []),false))
 else((LJ xS b a).bind fun v2=>
 bif(v2==0)then(some ((bs []),true))
 else((LD c v2).bind fun v3=>
 some (v3.1,v3.2)))
def Rn (xD:AM) (b:Int) (a:Int):Option (ByteArray×Bool):=
 (Et xD.Flash).bind fun v1=>
 (JR v1 xD.Store b a).bind fun v2=>
 some (v2.1,v2.2)
def IR (xF:Flash) (c:Int) (b:Int) (a:Int):Option ((Int×Int)⊕(Int)):=
 (gi xF.Blocks c).bind fun x1=>
 bif(decide (a<(ln x1.Leaves)))then((gi xF.Blocks c).bind fun x2=>
 bif(!x2.Bad)then((gi xF.Blocks c).bind fun x3=>
 (gi x3.Leaves a).bind fun x4=>
 bif(x4.Is==0)then(some (.inl ((ad b 1),(ad a 1))))
 else(some (.inl (b,(ad a 1)))))
 else(some (.inl (b,(ad a 1)))))
 else(some (.inr b))
def IS (xF:Flash) (b:Int) (a:Int):Option ((Int×Int)⊕(Int)):=
 bif(decide (a<(ln xF.Blocks)))then((A0 (fun s:Int×Int=>IR xF a s.1 s.2) (b,0)).bind fun v1=>
 some (.inl (v1,(ad a 1))))
 else(some (.inr b))
def KH (xF:Flash):Option (Int):=
 (A0 (fun s:Int×Int=>IS xF s.1 s.2) (0,0)).bind fun v2=>
 some v2
def Gk (c:List Aq) (d:Int) (a:List Bool) (b:Int):Option ((List Bool×Int)⊕(List Bool)):=
 bif(decide (b<(ln c)))then((gi c b).bind fun x1=>
 bif(x1.Page.Kind==2)then((gi c b).bind fun x2=>
 (gi a b).bind fun x3=>
 some (.inl ((si a b (decide (x2.Page.Tx>=d))),(ad b 1))))
 else((gi a b).bind fun x4=>
 some (.inl ((si a b false),(ad b 1)))))
 else(some (.inr a))
def Ek (c:List Aq) (d:List Int) (e:Int) (a:List Bool) (b:Int):Option ((List Bool×Int)⊕(List Bool)):=
 bif(decide (b>=0))then(((gi c b).bind fun x5=>
 bif(x5.Page.Kind==1)then((gi c b).bind fun x6=>
 (gi d e).bind fun x7=>
 some (x6.Page.Tx==x7))
 else(some false):Option (Bool)).bind fun j1=>
 bif j1 then((gi a b).bind fun x8=>
 some (.inl ((si a b true),(sb (-1) 1))))
 else(some (.inl (a,(sb b 1)))))
 else(some (.inr a))
def Gj (a:List Aq) (b:List Int) (c:List Bool) (d:Int):Option ((List Bool×Int)⊕(List Bool)):=
 bif(decide (d<(ln b)))then((A0 (fun s:List Bool×Int=>Ek a b d s.1 s.2) (c,(sb (ln a) 1))).bind fun v2=>
 some (.inl (v2,(ad d 1))))
 else(some (.inr c))
def F7 (a:List Aq) (b:List Int) (c:Int):Option (List Bool):=
 (mk 1 false (ln a)).bind fun q1=>
 (A0 (fun s:List Bool×Int=>Gk a c s.1 s.2) (q1,0)).bind fun v1=>
 (A0 (fun s:List Bool×Int=>Gj a b s.1 s.2) (v1,0)).bind fun v3=>
 some v3
def GT (xB:Block) (a:Int):Option ((Int)⊕((Unit)⊕(Bool))):=
 bif(decide (a<(ln xB.Leaves)))then((gi xB.Leaves a).bind fun x1=>
 bif(x1.Is !=0)then(some (.inr (.inr false)))
 else(some (.inl (ad a 1))))
 else(some (.inr (.inl ())))
def LY (xB:Block):Option (Bool):=
 (A0 (fun s:Int=>GT xB s) 0).bind (Sum.elim (fun v1=>(some true)) some)
def JS (b:List Aq) (c:List Bool) (xB:Int) (d:Int) (a:Int):Option ((Int×Int)⊕(Int)):=
 bif(decide (a<(ln b)))then((gi c a).bind fun x1=>
 bif x1 then((gi b a).bind fun x2=>
 bif(x2.Block==xB)then(some (.inl ((ad d 1),(ad a 1))))
 else(some (.inl (d,(ad a 1)))))
 else(some (.inl (d,(ad a 1)))))
 else(some (.inr d))
def Lu (b:List Aq) (a:List Bool) (xB:Int):Option (Int):=
 (A0 (fun s:Int×Int=>JS b a xB s.1 s.2) (0,0)).bind fun v1=>
 some v1
def EA (xD:AM) (v1:List Aq) (v3:List Bool) (a:List Int) (b:Int):Option ((List Int×Int)⊕(List Int)):=
 bif(decide (b<(ln xD.Flash.Blocks)))then((gi xD.Flash.Blocks b).bind fun x1=>
 (bif(!x1.Bad)then((LY x1).bind fun v4=>
 bif(!v4)then((Lu v1 v3 b).bind fun v5=>
 some (v5==0))
 else(some false))
 else(some false):Option (Bool)).bind fun j1=>
 bif j1 then((ap 8 a [b]).bind fun q1=>
 some (.inl (q1,(ad b 1))))
 else(some (.inl (a,(ad b 1)))))
 else(some (.inr a))
def Jy (xD:AM):Option (List Int):=
 (Et xD.Flash).bind fun v1=>
 (GP xD.Store).bind fun v2=>
 (F7 v1 v2 xD.Base).bind fun v3=>
 (A0 (fun s:List Int×Int=>EA xD v1 v3 s.1 s.2) ([],0)).bind fun v6=>
 some v6
def FN (xD:AM) (v2:List Tx) (a:Int):Option ((Int)⊕((Unit)⊕(Bool))):=
 bif(decide (a<(ln v2)))then((gi v2 a).bind fun x1=>
 bif(x1.Num==xD.Base)then((gi v2 a).bind fun x2=>
 bif(decide ((ln x2.Recs)>0))then((gi v2 a).bind fun x3=>
 (gi x3.Recs 0).bind fun x4=>
 some (.inr (.inr (x4.Kind==1))))
 else(some (.inr (.inr false))))
 else(some (.inl (ad a 1))))
 else(some (.inr (.inl ())))
def LZ (xD:AM):Option (Bool):=
 bif(xD.Base !=(sb xD.Tx 1))then(some false)
 else((Et xD.Flash).bind fun v1=>
 (Nw v1).bind fun v2=>
 (A0 (fun s:Int=>FN xD v2 s) 0).bind (Sum.elim (fun v3=>(some false)) some))
def FX (xS:Store) (c:Int) (v1:List Int) (a:List Dk) (b:Int):Option ((List Dk×Int)⊕(List Dk)):=
 bif(decide (b<(ln v1)))then((gi v1 b).bind fun x3=>
 bif(decide (x3>0))then((gi xS.Vols c).bind fun x4=>
 (gi v1 b).bind fun x5=>
 (ap 32 a [(Dk.mk 4 x4.Id b x5)]).bind fun q2=>
 some (.inl (q2,(ad b 1))))
 else(some (.inl (a,(ad b 1)))))
 else(some (.inr a))
def FY (xS:Store) (a:List Dk) (b:Int):Option ((List Dk×Int)⊕(List Dk)):=
 bif(decide (b<(ln xS.Vols)))then((gi xS.Vols b).bind fun x1=>
 (ap 32 a [(Dk.mk 2 x1.Id 0 0)]).bind fun q1=>
 (gi xS.Vols b).bind fun x2=>
 (HW xS.Arena x2.Root).bind fun v1=>
 (A0 (fun s:List Dk×Int=>FX xS b v1 s.1 s.2) (q1,0)).bind fun v2=>
 some (.inl (v2,(ad b 1))))
 else(some (.inr a))
def Mm (xS:Store):Option (List Dk):=
 (A0 (fun s:List Dk×Int=>FY xS s.1 s.2) ([(Dk.mk 1 0 xS.Next 0)],0)).bind fun v3=>
 some v3
def EW (xF:Flash) (d:Int) (b:Int) (c:Int) (a:Int):Option ((Int×Int×Int)⊕(Int×Int)):=
 (gi xF.Blocks d).bind fun x1=>
 bif(decide (a<(ln x1.Leaves)))then((gi xF.Blocks d).bind fun x2=>
 (gi x2.Leaves a).bind fun x3=>
 bif(x3.Is==0)then(some (.inl ((ad b 1),c,(ad a 1))))
 else(some (.inl (b,(ad c 1),(ad a 1)))))
 else(some (.inr (b,c)))
def EX (xF:Flash) (a:Int):Option ((Int)⊕((Unit)⊕(Int))):=
 bif(decide (a<(ln xF.Blocks)))then((A0 (fun s:Int×Int×Int=>EW xF a s.1 s.2.1 s.2.2) (0,0,0)).bind fun v1=>
 ((gi xF.Blocks a).bind fun x4=>
 bif(!x4.Bad)then(bif(decide (v1.1>0))then(some (decide (v1.2>0)))
 else(some false))
 else(some false):Option (Bool)).bind fun j1=>
 bif j1 then(some (.inr (.inr a)))
 else(some (.inl (ad a 1))))
 else(some (.inr (.inl ())))
def KJ (xF:Flash):Option (Int):=
 (A0 (fun s:Int=>EX xF s) 0).bind (Sum.elim (fun v2=>(some (-1))) some)
def E8 (xF:Flash) (c:Int) (a:Bool) (b:Int):Option ((Bool×Int)⊕(Bool)):=
 (gi xF.Blocks c).bind fun x2=>
 bif(decide (b<(ln x2.Leaves)))then(bif a then((gi xF.Blocks c).bind fun x3=>
 (gi x3.Leaves b).bind fun x4=>
 some (.inl ((x4.Is==0),(ad b 1))))
 else(some (.inl (false,(ad b 1)))))
 else(some (.inr a))
def Fz (xF:Flash) (a:List Int) (b:Int):Option ((List Int×Int)⊕(List Int)):=
 bif(decide (b<(ln xF.Blocks)))then((gi xF.Blocks b).bind fun x1=>
 (A0 (fun s:Bool×Int=>E8 xF b s.1 s.2) ((!x1.Bad),0)).bind fun v1=>
 bif v1 then((ap 8 a [b]).bind fun q1=>
 some (.inl (q1,(ad b 1))))
 else(some (.inl (a,(ad b 1)))))
 else(some (.inr a))
def Jv (xF:Flash):Option (List Int):=
 (A0 (fun s:List Int×Int=>Fz xF s.1 s.2) ([],0)).bind fun v2=>
 some v2
def HU (xF:Flash) (v4:List Int) (a:Int) (b:Int):Option ((Int×Int)⊕(Int)):=
 bif(decide (b<(ln v4)))then((gi v4 b).bind fun x3=>
 (gi xF.Blocks x3).bind fun x4=>
 (gi xF.Blocks a).bind fun x5=>
 bif(decide (x4.Wear<x5.Wear))then((gi v4 b).bind fun x6=>
 some (.inl (x6,(ad b 1))))
 else(some (.inl (a,(ad b 1)))))
 else(some (.inr a))
def LI (xF:Flash):Option (Int×Int×Bool):=
 (HV xF).bind fun v1=>
 bif(!v1)then(some (0,0,false))
 else((KJ xF).bind fun v2=>
 bif(decide (v2>=0))then((gi xF.Blocks v2).bind fun x1=>
 (H5 x1).bind fun v3=>
 some (v2,v3,true))
 else((Jv xF).bind fun v4=>
 bif((ln v4)==0)then(some (0,0,false))
 else((gi v4 0).bind fun x2=>
 (A0 (fun s:Int×Int=>HU xF v4 s.1 s.2) (x2,1)).bind fun v5=>
 some (v5,0,true))))
def Hy (xF:Flash) (a:List BI) (xP:Page):Option (Flash×List BI×Bool):=
 (E6 xP).bind fun v1=>
 (LI xF).bind fun v2=>
 (bif(!v1.2)then(some true)
 else(some (!v2.2.2)):Option (Bool)).bind fun j1=>
 bif j1 then(some (xF,a,false))
 else((Mj xF (BI.mk 1 v2.1 v2.2.1 v1.1)).bind fun v3=>
 ((ap 40 a [(BI.mk 1 v2.1 v2.2.1 v1.1)]).bind fun q1=>
 some q1:Option (List BI)).bind fun j2=>
 some (v3.1,j2,v3.2))
def Nv (xR:Dk):Option (ByteArray×Bool):=
 (NY xR).bind fun v1=>
 bif(!v1)then(some ((bs []),false))
 else((LE (ad (ml 16 xR.Kind) xR.Vol)).bind fun v2=>
 (H3 xR.Arg).bind fun v3=>
 (SI v2 v3).bind fun x1=>
 (H3 xR.Chunk).bind fun v4=>
 (SI x1 v4).bind fun x2=>
 some (x2,true))
def GD (b:List Dk) (a:List ByteArray) (c:Int):Option ((List ByteArray×Int)⊕((List ByteArray)⊕((List Page×Bool)))):=
 bif(decide (c<(ln b)))then((gi b c).bind fun x1=>
 (Nv x1).bind fun v1=>
 bif(!v1.2)then(some (.inr (.inr ([],false))))
 else((gi a (sb (ln a) 1)).bind fun x2=>
 bif(decide ((ad (Gg x2) (Gg v1.1))>90))then((ap 16 a [v1.1]).bind fun q1=>
 some (.inl (q1,(ad c 1))))
 else((gi a (sb (ln a) 1)).bind fun x3=>
 (SI x3 v1.1).bind fun x4=>
 (gi a (sb (ln a) 1)).bind fun x5=>
 some (.inl ((si a (sb (ln a) 1) x4),(ad c 1))))))
 else(some (.inr (.inl a)))
def GC (c:Int) (d:Int) (v2:List ByteArray) (a:List Page) (b:Int):Option ((List Page×Int)⊕(List Page)):=
 bif(decide (b<(ln v2)))then((gi v2 b).bind fun x6=>
 (ap 56 a [(Page.mk 2 (ad c b) d b (ln v2) x6)]).bind fun q2=>
 some (.inl (q2,(ad b 1))))
 else(some (.inr a))
def LF (a:Int) (c:Int) (b:List Dk):Option (List Page×Bool):=
 (A0 (fun s:List ByteArray×Int=>GD b s.1 s.2) ([(bs [])],0)).bind (Sum.elim (fun v2=>((bif(decide ((ln v2)>9))then(some true)
 else((BR a 1 (ad (sb 1000000000 (ln v2)) 1)).bind fun v3=>
 bif(!v3)then(some true)
 else((BR c 1 1000000000).bind fun v4=>
 some (!v4))):Option (Bool)).bind fun j1=>
 bif j1 then(some ([],false))
 else((A0 (fun s:List Page×Int=>GC a c v2 s.1 s.2) ([],0)).bind fun v5=>
 some (v5,true)))) some)
def Ew (v2:List Page×Bool) (a:List BI) (b:Bool) (c:Int) (d:List Block):Option ((List BI×Bool×Int×List Block)⊕(List BI×Bool)):=
 (bif(decide (c<(ln v2.1)))then(some b)
 else(some false):Option (Bool)).bind fun j3=>
 bif j3 then(((gi v2.1 c).bind fun x2=>
 (Hy (Flash.mk d) a x2).bind fun v3=>
 some (v3.2.1,v3.2.2,v3.1.Blocks):Option (List BI×Bool×List Block)).bind fun j4=>
 some (.inl (j4.1,j4.2.1,(ad c 1),j4.2.2)))
 else(some (.inr (a,b)))
def Eh (xD:AM) (a:List Dk) (b:ByteArray):Option (List BI×Bool):=
 bif((ln a)==0)then(some ([],true))
 else((bif(!(seq b (bs [])))then(((gi a (sb (ln a) 1)).bind fun x1=>
 (Hy xD.Flash [] (Page.mk 1 xD.Seq x1.Chunk 0 1 b)).bind fun v1=>
 some (v1.2.1,v1.2.2,v1.1.Blocks):Option (List BI×Bool×List Block)).bind fun j2=>
 some (j2.1,(ad xD.Seq 1),j2.2.1,j2.2.2))
 else(some ([],xD.Seq,true,xD.Flash.Blocks)):Option (List BI×Int×Bool×List Block)).bind fun j1=>
 (LF j1.2.1 xD.Tx a).bind fun v2=>
 (A0 (fun s:List BI×Bool×Int×List Block=>Ew v2 s.1 s.2.1 s.2.2.1 s.2.2.2) (j1.1,j1.2.2.1,0,j1.2.2.2)).bind fun v4=>
 (bif(!v4.2)then(some true)
 else(some (!v2.2)):Option (Bool)).bind fun j5=>
 bif j5 then(some ([],false))
 else(some (v4.1,true)))
def MI (xD:AM):Option (List BI×Bool):=
 (Mm xD.Store).bind fun v1=>
 (Eh xD v1 (bs [])).bind fun v2=>
 some (v2.1,v2.2)
def FR (xD:AM) (v1:List Aq) (v3:List Bool) (v4:List Bool) (c:Int) (a:Int) (b:Int):Option ((Int×Int×Int)⊕(Int)):=
 bif(decide (b<(ln xD.Flash.Blocks)))then((gi xD.Flash.Blocks b).bind fun x1=>
 (Lu v1 v3 b).bind fun v5=>
 (bif(!x1.Bad)then((H5 x1).bind fun v6=>
 bif(v6==4)then((Lu v1 v4 b).bind fun v7=>
 bif(v5==v7)then(bif(decide (v5>=1))then(some (decide (v5<a)))
 else(some false))
 else(some false))
 else(some false))
 else(some false):Option (Bool)).bind fun j1=>
 bif j1 then(some (.inl (b,v5,(ad b 1))))
 else(some (.inl (c,a,(ad b 1)))))
 else(some (.inr c))
def Mb (xD:AM):Option (Int):=
 (Et xD.Flash).bind fun v1=>
 (GP xD.Store).bind fun v2=>
 (F7 v1 v2 xD.Base).bind fun v3=>
 (F7 v1 v2 1000000000).bind fun v4=>
 (A0 (fun s:Int×Int×Int=>FR xD v1 v3 v4 s.1 s.2.1 s.2.2) ((-1),4,0)).bind fun v8=>
 some v8
def EZ (xB:Int) (v1:List Aq) (v3:List Bool) (e:Int) (a:List BI) (b:Int) (c:Int) (d:List Block):Option ((List BI×Int×Int×List Block)⊕((List BI×Int×List Block)⊕((List BI×Int×Int×List Block)⊕((List BI)⊕((List BI×Bool)))))):=
 bif(decide (c<(ln v1)))then(((gi v3 c).bind fun x1=>
 bif(!x1)then(some true)
 else((gi v1 c).bind fun x2=>
 bif(x2.Block !=xB)then(some true)
 else((gi v1 c).bind fun x3=>
 some (x3.Leaf !=e))):Option (Bool)).bind fun j1=>
 bif j1 then(some (.inl (a,b,(ad c 1),d)))
 else((gi v1 c).bind fun x4=>
 (Hy (Flash.mk d) a (Page.mk x4.Page.Kind b x4.Page.Tx x4.Page.Part x4.Page.Count x4.Page.Text)).bind fun v4=>
 (bif(!v4.2.2)then(some true)
 else((gi v4.2.1 (sb (ln v4.2.1) 1)).bind fun x5=>
 some (x5.Block==xB)):Option (Bool)).bind fun j2=>
 bif j2 then(some (.inr (.inr (.inr (.inr ([],false))))))
 else(some (.inl (v4.2.1,(ad b 1),(ad c 1),v4.1.Blocks)))))
 else(some (.inr (.inl (a,b,d))))
def Fc (xB:Int) (v1:List Aq) (v3:List Bool) (b:List BI) (c:Int) (a:Int) (d:List Block):Option ((List BI×Int×Int×List Block)⊕((List BI)⊕((List BI×Bool)))):=
 bif(decide (a<4))then((A0 (fun s:List BI×Int×Int×List Block=>EZ xB v1 v3 a s.1 s.2.1 s.2.2.1 s.2.2.2) (b,c,0,d)).bind (Sum.elim (fun v5=>(some (.inl (v5.1,v5.2.1,(ad a 1),v5.2.2)))) some))
 else(some (.inr (.inl b)))
def IT (xD:AM) (xB:Int):Option (List BI×Bool):=
 (Et xD.Flash).bind fun v1=>
 (GP xD.Store).bind fun v2=>
 (F7 v1 v2 1000000001).bind fun v3=>
 (A0 (fun s:List BI×Int×Int×List Block=>Fc xB v1 v3 s.1 s.2.1 s.2.2.1 s.2.2.2) ([],xD.Seq,0,xD.Flash.Blocks)).bind (Sum.elim (fun v6=>(some (v6,true))) some)
def Ml (xD:AM):Option (List BI×Bool):=
 (Jy xD).bind fun v1=>
 bif(decide ((ln v1)>0))then((gi v1 0).bind fun x1=>
 some ([(BI.mk 2 x1 0 (bs []))],true))
 else((LZ xD).bind fun v2=>
 bif(!v2)then((MI xD).bind fun v3=>
 some (v3.1,v3.2))
 else((Mb xD).bind fun v4=>
 bif(decide (v4<0))then(some ([],false))
 else((IT xD v4).bind fun v5=>
 some (v5.1,v5.2))))
def GH (xD:AM) (a:List BI):Option (AM):=
 (Ka xD.Flash a).bind fun v1=>
 (E7 v1.1).bind fun v2=>
 some v2.1
def FW (i:Int) (h:List BI) (j:Int) (a:List Block) (b:List Vol) (c:List BX) (d:Int) (e:Int) (f:Int) (g:Int):Option ((List BI×Int×List Block×List Vol×List BX×Int×Int×Int×Int)⊕((List BI×List Block×List Vol×List BX×Int×Int×Int×Int)⊕((AM×List BI)))):=
 (bif(decide (j<i))then(bif(decide (j<20))then((KH (Flash.mk a)).bind fun v2=>
 some (decide (v2<12)))
 else(some false))
 else(some false):Option (Bool)).bind fun j1=>
 bif j1 then((Ml (AM.mk (Flash.mk a) (Store.mk b (Arena.mk c) d) e f g)).bind fun v3=>
 bif(!v3.2)then(some (.inr (.inr ((AM.mk (Flash.mk a) (Store.mk b (Arena.mk c) d) e f g),h))))
 else((GH (AM.mk (Flash.mk a) (Store.mk b (Arena.mk c) d) e f g) v3.1).bind fun v4=>
 (ap 40 h v3.1).bind fun q1=>
 some (.inl (q1,(ad j 1),v4.Flash.Blocks,v4.Store.Vols,v4.Store.Arena.Knots,v4.Store.Next,v4.Seq,v4.Tx,v4.Base))))
 else(some (.inr (.inl (h,a,b,c,d,e,f,g))))
def Kb (xD:AM) (a:Int):Option (AM×List BI):=
 (LC xD).bind fun v1=>
 (A0 (fun s:List BI×Int×List Block×List Vol×List BX×Int×Int×Int×Int=>FW a s.1 s.2.1 s.2.2.1 s.2.2.2.1 s.2.2.2.2.1 s.2.2.2.2.2.1 s.2.2.2.2.2.2.1 s.2.2.2.2.2.2.2.1 s.2.2.2.2.2.2.2.2) ([],0,v1.Flash.Blocks,v1.Store.Vols,v1.Store.Arena.Knots,v1.Store.Next,v1.Seq,v1.Tx,v1.Base)).bind (Sum.elim (fun v5=>(some ((AM.mk (Flash.mk v5.2.1) (Store.mk v5.2.2.1 (Arena.mk v5.2.2.2.1) v5.2.2.2.2.1) v5.2.2.2.2.2.1 v5.2.2.2.2.2.2.1 v5.2.2.2.2.2.2.2),v5.1))) some)
def Rm (xD:AM) (xQ:Xe):Option (AM×List BI×ByteArray×Int):=
 (LC xD).bind fun v1=>
 (Mk xD).bind fun v2=>
 bif(!v2)then(some (v1,[],(bs []),5))
 else((KI xD xQ).bind fun v3=>
 bif(v3.2.2 !=0)then(some (v1,[],(bs []),v3.2.2))
 else(bif(xQ.Kind==6)then((Rn xD xQ.Vol xQ.Sector).bind fun v4=>
 bif(!v4.2)then(some (v1,[],(bs []),1))
 else(some (v1,[],v4.1,0)))
 else((KH xD.Flash).bind fun v5=>
 (bif(decide (v5<12))then((Kb xD 20).bind fun v6=>
 some (v6.2,v6.1.Flash.Blocks,v6.1.Store.Vols,v6.1.Store.Arena.Knots,v6.1.Store.Next,v6.1.Seq,v6.1.Tx,v6.1.Base))
 else(some ([],v1.Flash.Blocks,v1.Store.Vols,v1.Store.Arena.Knots,v1.Store.Next,v1.Seq,v1.Tx,v1.Base)):Option (List BI×List Block×List Vol×List BX×Int×Int×Int×Int)).bind fun j1=>
 (KI (AM.mk (Flash.mk j1.2.1) (Store.mk j1.2.2.1 (Arena.mk j1.2.2.2.1) j1.2.2.2.2.1) j1.2.2.2.2.2.1 j1.2.2.2.2.2.2.1 j1.2.2.2.2.2.2.2) xQ).bind fun v7=>
 (Eh (AM.mk (Flash.mk j1.2.1) (Store.mk j1.2.2.1 (Arena.mk j1.2.2.2.1) j1.2.2.2.2.1) j1.2.2.2.2.2.1 j1.2.2.2.2.2.2.1 j1.2.2.2.2.2.2.2) v7.1 v7.2.1).bind fun v8=>
 (bif(!v8.2)then(some true)
 else((KH (Flash.mk j1.2.1)).bind fun v9=>
 some (decide (v9<8))):Option (Bool)).bind fun j2=>
 bif j2 then(some ((AM.mk (Flash.mk j1.2.1) (Store.mk j1.2.2.1 (Arena.mk j1.2.2.2.1) j1.2.2.2.2.1) j1.2.2.2.2.2.1 j1.2.2.2.2.2.2.1 j1.2.2.2.2.2.2.2),j1.1,(bs []),4))
 else((GH (AM.mk (Flash.mk j1.2.1) (Store.mk j1.2.2.1 (Arena.mk j1.2.2.2.1) j1.2.2.2.2.1) j1.2.2.2.2.2.1 j1.2.2.2.2.2.2.1 j1.2.2.2.2.2.2.2) v8.1).bind fun v10=>
 (ap 40 j1.1 v8.1).bind fun q1=>
 some (v10,q1,(bs []),0)))))
def ET (h:Int) (a:List Block) (b:List Vol) (c:List BX) (d:Int) (e:Int) (f:Int) (g:Int) (i:List Int) (j:Int) (k:Int):Option ((Int×List Block×List Vol×List BX×Int×Int×Int×Int×List Int×Int×Int)⊕(List Block×List Vol×List BX×Int×Int×Int×Int×List Int×Int×Int)):=
 (Db (BA.mk i j k) 12).bind fun v3=>
 bif(decide (h<v3.1))then(((Np v3.2 (AM.mk (Flash.mk a) (Store.mk b (Arena.mk c) d) e f g)).bind fun v4=>
 (Rm (AM.mk (Flash.mk a) (Store.mk b (Arena.mk c) d) e f g) v4.1).bind fun v5=>
 some (v5.1.Flash.Blocks,v5.1.Store.Vols,v5.1.Store.Arena.Knots,v5.1.Store.Next,v5.1.Seq,v5.1.Tx,v5.1.Base,v4.2.b_,v4.2.i_,v4.2.h_):Option (List Block×List Vol×List BX×Int×Int×Int×Int×List Int×Int×Int)).bind fun j1=>
 some (.inl ((ad h 1),j1.1,j1.2.1,j1.2.2.1,j1.2.2.2.1,j1.2.2.2.2.1,j1.2.2.2.2.2.1,j1.2.2.2.2.2.2.1,j1.2.2.2.2.2.2.2.1,j1.2.2.2.2.2.2.2.2.1,j1.2.2.2.2.2.2.2.2.2)))
 else(some (.inr (a,b,c,d,e,f,g,v3.2.b_,v3.2.i_,v3.2.h_)))
def K9 (xC:BA):Option (AM×BA):=
 (Db xC 4).bind fun v1=>
 (KK (ad 5 v1.1)).bind fun v2=>
 (A0 (fun s:Int×List Block×List Vol×List BX×Int×Int×Int×Int×List Int×Int×Int=>ET s.1 s.2.1 s.2.2.1 s.2.2.2.1 s.2.2.2.2.1 s.2.2.2.2.2.1 s.2.2.2.2.2.2.1 s.2.2.2.2.2.2.2.1 s.2.2.2.2.2.2.2.2.1 s.2.2.2.2.2.2.2.2.2.1 s.2.2.2.2.2.2.2.2.2.2) (0,v2.1.Flash.Blocks,v2.1.Store.Vols,v2.1.Store.Arena.Knots,v2.1.Store.Next,v2.1.Seq,v2.1.Tx,v2.1.Base,v1.2.b_,v1.2.i_,v1.2.h_)).bind fun v8=>
 some ((AM.mk (Flash.mk v8.1) (Store.mk v8.2.1 (Arena.mk v8.2.2.1) v8.2.2.2.1) v8.2.2.2.2.1 v8.2.2.2.2.2.1 v8.2.2.2.2.2.2.1),(BA.mk v8.2.2.2.2.2.2.2.1 v8.2.2.2.2.2.2.2.2.1 v8.2.2.2.2.2.2.2.2.2))
def Jx (a:List Int):Option (AM):=
 (Ns a).bind fun v1=>
 (K9 v1).bind fun v2=>
 some v2.1
def GL (a:Int) (y1:Int):Option ((Int×Int)⊕(Int)):=
 bif(decide (y1<8))then(bif((an a 1)==1)then(some (.inl ((xr (Int.fdiv a (2^(min (1:Int).toNat IntKind.u32.bits))) 3558460437),(ad y1 1))))
 else(some (.inl ((Int.fdiv a (2^(min (1:Int).toNat IntKind.u32.bits))),(ad y1 1)))))
 else(some (.inr a))
def Ib (a:ByteArray) (b:Int) (c:Int):Option ((Int×Int)⊕(Int)):=
 bif(decide (c<(Gg a)))then((sx a c).bind fun x1=>
 (A0 (fun s:Int×Int=>GL s.1 s.2) ((xr b (IntKind.u32.wrap x1)),0)).bind fun v1=>
 some (.inl (v1,(ad c 1))))
 else(some (.inr b))
def N5 (b:Int) (a:ByteArray):Option (Int):=
 (A0 (fun s:Int×Int=>Ib a s.1 s.2) (b,0)).bind fun v2=>
 some v2
def RD (a:ByteArray):Option (Int):=
 (N5 4294967295 a).bind fun v1=>
 some v1
def Pv (a:ByteArray):Option (ByteArray×Bool):=
 bif(decide ((Gg a)>20000))then(some ((bs []),false))
 else((RD a).bind fun v1=>
 (SI a (Hm [(IntKind.u8.wrap (Int.fdiv v1 (2^(min (24:Int).toNat IntKind.u32.bits)))),(IntKind.u8.wrap (Int.fdiv v1 (2^(min (16:Int).toNat IntKind.u32.bits)))),(IntKind.u8.wrap (Int.fdiv v1 (2^(min (8:Int).toNat IntKind.u32.bits)))),(IntKind.u8.wrap v1)])).bind fun x1=>
 some (x1,true))
def My (a:ByteArray):Option (ByteArray×Bool):=
 bif(decide ((Gg a)<4))then(some ((bs []),false))
 else((sub a 0 (sb (Gg a) 4)).bind fun x1=>
 (Pv x1).bind fun v1=>
 (bif(!v1.2)then(some true)
 else(some (!(seq v1.1 a))):Option (Bool)).bind fun j1=>
 bif j1 then(some ((bs []),false))
 else(some (x1,true)))
def FE (b:ByteArray) (c:Int) (d:Int) (a:Int):Option ((Int×Int)⊕((Unit)⊕((Int×Int×Bool)))):=
 (bif(decide (a<5))then(bif(decide (c>=0))then(some (decide (c<(sb (Gg b) a))))
 else(some false))
 else(some false):Option (Bool)).bind fun j1=>
 bif j1 then((sx b (ad c a)).bind fun x1=>
 (shl .i64 (Int.tmod (IntKind.i64.wrap x1) 128) (ml 7 a)).bind fun x2=>
 bif(decide ((IntKind.i64.wrap x1)>=128))then(some (.inl ((ad d x2),(ad a 1))))
 else((bif((IntKind.i64.wrap x1)==0)then(bif(decide (a>0))then(some true)
 else(some (decide ((ad d x2)>1000000000))))
 else(some (decide ((ad d x2)>1000000000))):Option (Bool)).bind fun j2=>
 bif j2 then(some (.inr (.inr (0,0,false))))
 else(some (.inr (.inr ((ad d x2),(ad (ad c a) 1),true))))))
 else(some (.inr (.inl ())))
def Kj (a:ByteArray) (b:Int):Option (Int×Int×Bool):=
 (A0 (fun s:Int×Int=>FE a b s.1 s.2) (0,0)).bind (Sum.elim (fun v1=>(some (0,0,false))) some)
def Pw (xP:Page):Option (Bool):=
 ((RB xP.Seq 1 1000000000).bind fun v1=>
 bif(!v1)then(some true)
 else((RB xP.Tx 1 1000000000).bind fun v2=>
 bif(!v2)then(some true)
 else((RB xP.Count 1 9).bind fun v3=>
 bif(!v3)then(some true)
 else((RB xP.Part 0 (sb xP.Count 1)).bind fun v4=>
 bif(!v4)then(some true)
 else(some (decide ((Gg xP.Text)>90)))))):Option (Bool)).bind fun j1=>
 bif j1 then(some false)
 else(bif(xP.Kind==2)then(some true)
 else(bif(xP.Kind==1)then(some (xP.Count==1))
 else(some false)))
def DI (v1:ByteArray×Bool) (e:Int) (y1:Int) (a:Int) (b:Int) (c:Int) (d:Int):Option ((Int×Int×Int×Int×Int×Int)⊕((Int×Int×Int×Int×Int)⊕((Page×Bool)))):=
 bif(decide (y1<4))then((Kj v1.1 e).bind fun v2=>
 bif(!v2.2.2)then(some (.inr (.inr ((Page.mk 0 0 0 0 0 (bs [])),false))))
 else(bif(y1==0)then(some (.inl (v2.2.1,(ad y1 1),v2.1,b,c,d)))
 else(bif(y1==1)then(some (.inl (v2.2.1,(ad y1 1),a,v2.1,c,d)))
 else(bif(y1==2)then(some (.inl (v2.2.1,(ad y1 1),a,b,v2.1,d)))
 else(bif(y1==3)then(some (.inl (v2.2.1,(ad y1 1),a,b,c,v2.1)))
 else none)))))
 else(some (.inr (.inl (e,a,b,c,d))))
def Mz (xT:ByteArray):Option (Page×Bool):=
 (My xT).bind fun v1=>
 (bif(!v1.2)then(some true)
 else(some (seq v1.1 (bs []))):Option (Bool)).bind fun j1=>
 bif j1 then(some ((Page.mk 0 0 0 0 0 (bs [])),false))
 else((A0 (fun s:Int×Int×Int×Int×Int×Int=>DI v1 s.1 s.2.1 s.2.2.1 s.2.2.2.1 s.2.2.2.2.1 s.2.2.2.2.2) (1,0,0,0,0,0)).bind (Sum.elim (fun v3=>((sx v1.1 0).bind fun x1=>
 (sub v1.1 v3.1 (Gg v1.1)).bind fun x2=>
 (Pw (Page.mk (IntKind.i64.wrap x1) v3.2.1 v3.2.2.1 v3.2.2.2.1 v3.2.2.2.2 x2)).bind fun v4=>
 bif(!v4)then(some ((Page.mk 0 0 0 0 0 (bs [])),false))
 else(some ((Page.mk (IntKind.i64.wrap x1) v3.2.1 v3.2.2.1 v3.2.2.2.1 v3.2.2.2.2 x2),true)))) some))
def BF (x:Aq):Int:=x.Page.Seq
def Ic (y1:Int) (x1:Block) (y2:Int) (a:List Aq):Option ((Int×List Aq)⊕(List Aq)):=
 bif(decide (y2<(ln x1.Leaves)))then((gi x1.Leaves y2).bind fun x2=>
 (Mz x2.Text).bind fun v1=>
 (bif v1.2 then(some (x2.Is==1))
 else(some false):Option (Bool)).bind fun j1=>
 bif j1 then((ap 72 a [(Aq.mk y1 y2 v1.1)]).bind fun q1=>
 some (.inl ((ad y2 1),q1)))
 else(some (.inl ((ad y2 1),a))))
 else(some (.inr a))
def GM (xF:Flash) (y1:Int) (a:List Aq):Option ((Int×List Aq)⊕(List Aq)):=
 bif(decide (y1<(ln xF.Blocks)))then((gi xF.Blocks y1).bind fun x1=>
 (A0 (fun s:Int×List Aq=>Ic y1 x1 s.1 s.2) (0,a)).bind fun v2=>
 some (.inl ((ad y1 1),v2)))
 else(some (.inr a))
def Hb (xF:Flash):Option (List Aq):=
 (A0 (fun s:Int×List Aq=>GM xF s.1 s.2) (0,[])).bind fun v3=>
 (De (NM BF) v3 (ln v3)).bind fun v4=>
 some v4
def J5 (xA:Arena) (y1:Int) (x1:BX) (y2:Int):Option ((Int)⊕((Unit)⊕((Int)⊕((Unit)⊕(Bool))))):=
 bif(decide (y2<(ln x1.Kids)))then((gi x1.Kids y2).bind fun x2=>
 (bif x1.Leaf then(bif(decide (x2<0))then(some true)
 else(bif(!x1.Leaf)then(bif(x2 !=(-1))then((RB x2 0 (sb y1 1)).bind fun v1=>
 bif(!v1)then(some true)
 else((gi xA.Knots x2).bind fun x3=>
 some (!x3.Leaf)))
 else(some false))
 else(some false)))
 else(bif(!x1.Leaf)then(bif(x2 !=(-1))then((RB x2 0 (sb y1 1)).bind fun v2=>
 bif(!v2)then(some true)
 else((gi xA.Knots x2).bind fun x4=>
 some (!x4.Leaf)))
 else(some false))
 else(some false)):Option (Bool)).bind fun j1=>
 bif j1 then(some (.inr (.inr (.inr (.inr false)))))
 else(some (.inl (ad y2 1))))
 else(some (.inr (.inl ())))
def J6 (xA:Arena) (y1:Int):Option ((Int)⊕((Unit)⊕(Bool))):=
 bif(decide (y1<(ln xA.Knots)))then((gi xA.Knots y1).bind fun x1=>
 bif((ln x1.Kids) !=4)then(some (.inr (.inr false)))
 else((A0 (fun s:Int=>J5 xA y1 x1 s) 0).bind (Sum.elim (fun v3=>(some (.inl (ad y1 1)))) some)))
 else(some (.inr (.inl ())))
def N6 (xA:Arena):Option (Bool):=
 (A0 (fun s:Int=>J6 xA s) 0).bind (Sum.elim (fun v4=>(some true)) some)
def Ps (xA:Arena) (a:Int):Option (Bool):=
 (RB a 0 (sb (ln xA.Knots) 1)).bind fun v1=>
 bif v1 then((gi xA.Knots a).bind fun x1=>
 some (!x1.Leaf))
 else(some false)
def Oq (xA:Arena) (b:Int) (a:Int):Option (Int):=
 (gi xA.Knots b).bind fun x1=>
 (gi x1.Kids (qu a 4)).bind fun x2=>
 bif(decide (x2<0))then(some 0)
 else((gi xA.Knots x2).bind fun x3=>
 (gi x3.Kids (Int.tmod a 4)).bind fun x4=>
 some x4)
def RK (xA:Arena) (b:Int) (a:Int):Option (Int):=
 ((RB a 0 15).bind fun v1=>
 bif(!v1)then(some true)
 else((Ps xA b).bind fun v2=>
 bif(!v2)then(some true)
 else((N6 xA).bind fun v3=>
 some (!v3))):Option (Bool)).bind fun j1=>
 bif j1 then(some 0)
 else((Oq xA b a).bind fun v4=>
 some v4)
def Kl (xA:Arena) (b:Int) (a:List Int) (y1:Int):Option ((List Int×Int)⊕(List Int)):=
 bif(decide (y1<16))then((RK xA b y1).bind fun v1=>
 (ap 8 a [v1]).bind fun q1=>
 some (.inl (q1,(ad y1 1))))
 else(some (.inr a))
def RM (xA:Arena) (a:Int):Option (List Int):=
 (A0 (fun s:List Int×Int=>Kl xA a s.1 s.2) ([],0)).bind fun v2=>
 some v2
def GZ (v1:List Int) (a:List Int) (y2:Int):Option ((List Int×Int)⊕(List Int)):=
 bif(decide (y2<(ln v1)))then((gi v1 y2).bind fun x2=>
 bif(decide (x2>0))then((ap 8 a [x2]).bind fun q1=>
 some (.inl (q1,(ad y2 1))))
 else(some (.inl (a,(ad y2 1)))))
 else(some (.inr a))
def Ha (xS:Store) (a:List Int) (y1:Int):Option ((List Int×Int)⊕(List Int)):=
 bif(decide (y1<(ln xS.Vols)))then((gi xS.Vols y1).bind fun x1=>
 (RM xS.Arena x1.Root).bind fun v1=>
 (A0 (fun s:List Int×Int=>GZ v1 s.1 s.2) (a,0)).bind fun v2=>
 some (.inl (v2,(ad y1 1))))
 else(some (.inr a))
def Mx (xS:Store):Option (List Int):=
 (A0 (fun s:List Int×Int=>Ha xS s.1 s.2) ([],0)).bind fun v3=>
 some v3
def Jd (v2:List Int) (a:List Int) (y1:Int):Option ((List Int×Int)⊕(List Int)):=
 bif(decide (y1<(ln v2)))then((gi v2 y1).bind fun x1=>
 (bif(y1==0)then(some true)
 else((gi v2 (sb y1 1)).bind fun x2=>
 some (x2 !=x1)):Option (Bool)).bind fun j1=>
 bif j1 then((ap 8 a [x1]).bind fun q1=>
 some (.inl (q1,(ad y1 1))))
 else(some (.inl (a,(ad y1 1)))))
 else(some (.inr a))
def KO (xS:Store):Option (List Int):=
 (Mx xS).bind fun v1=>
 (fX v1).bind fun v2=>
 (A0 (fun s:List Int×Int=>Jd v2 s.1 s.2) ([],0)).bind fun v3=>
 some v3
def HC (j:Int) (v1:List Aq) (i:Bool) (y1:Int) (b:Int) (c:Int) (d:Int) (a:Int) (e:Int) (f:Int) (g:Int) (h:ByteArray):Option ((Bool×Int×Int×Int×Int×Int×Int×Int×Int×ByteArray)⊕(Bool×Int×Int×Int×Int×Int×Int×Int×ByteArray)):=
 bif(decide (y1<(ln v1)))then((gi v1 y1).bind fun x1=>
 (bif(x1.Page.Kind==1)then(bif(x1.Page.Tx==j)then(bif(!i)then(some true)
 else(some (decide (x1.Page.Seq>=a))))
 else(some false))
 else(some false):Option (Bool)).bind fun j1=>
 bif j1 then(some (.inl (true,(ad y1 1),x1.Block,x1.Leaf,x1.Page.Kind,x1.Page.Seq,x1.Page.Tx,x1.Page.Part,x1.Page.Count,x1.Page.Text)))
 else(some (.inl (i,(ad y1 1),b,c,d,a,e,f,g,h))))
 else(some (.inr (i,b,c,d,a,e,f,g,h)))
def Pu (xF:Flash) (a:Int):Option (Aq×Bool):=
 (Hb xF).bind fun v1=>
 (A0 (fun s:Bool×Int×Int×Int×Int×Int×Int×Int×Int×ByteArray=>HC a v1 s.1 s.2.1 s.2.2.1 s.2.2.2.1 s.2.2.2.2.1 s.2.2.2.2.2.1 s.2.2.2.2.2.2.1 s.2.2.2.2.2.2.2.1 s.2.2.2.2.2.2.2.2.1 s.2.2.2.2.2.2.2.2.2) (false,0,0,0,0,0,0,0,0,(bs []))).bind fun v2=>
 some ((Aq.mk v2.2.1 v2.2.2.1 (Page.mk v2.2.2.2.1 v2.2.2.2.2.1 v2.2.2.2.2.2.1 v2.2.2.2.2.2.2.1 v2.2.2.2.2.2.2.2.1 v2.2.2.2.2.2.2.2.2)),v2.1)
def DH (a:ByteArray) (b:List Bf):Option ((ByteArray×List Bf)⊕((List Bf)⊕((List Bf×Bool)))):=
 bif(!(seq a (bs [])))then((sx a 0).bind fun x1=>
 (bif(decide ((IntKind.i64.wrap x1)>=128))then(some (decide ((Gg a)>=2)))
 else(some false):Option (Bool)).bind fun j1=>
 bif j1 then((sx a 1).bind fun x2=>
 (ap 32 b [(Bf.mk (IntKind.i64.wrap x2) (sb (IntKind.i64.wrap x1) 128) (bs []))]).bind fun q1=>
 (sub a 2 (Gg a)).bind fun x3=>
 some (.inl (x3,q1)))
 else((bif(decide ((IntKind.i64.wrap x1)<128))then(some (decide ((IntKind.i64.wrap x1)<(Gg a))))
 else(some false):Option (Bool)).bind fun j2=>
 bif j2 then((sub a 1 (ad 1 (IntKind.i64.wrap x1))).bind fun x4=>
 (ap 32 b [(Bf.mk 0 0 x4)]).bind fun q2=>
 (sub a (ad 1 (IntKind.i64.wrap x1)) (Gg a)).bind fun x5=>
 some (.inl (x5,q2)))
 else(some (.inr (.inr ([],false))))))
 else(some (.inr (.inl b)))
def QI (xT:ByteArray):Option (List Bf×Bool):=
 (A0 (fun s:ByteArray×List Bf=>DH s.1 s.2) (xT,[])).bind (Sum.elim (fun v1=>(some (v1,true))) some)
def RJ (x1:Bf) (a:List Int) (y2:Int):Option ((List Int×Int)⊕(List Int)):=
 bif(decide (y2<x1.Size))then((gi a (sb (ln a) x1.Back)).bind fun x2=>
 (ap 1 a [x2]).bind fun q2=>
 some (.inl (q2,(ad y2 1))))
 else(some (.inr a))
def Or (b:List Bf) (a:List Int) (y1:Int):Option ((List Int×Int)⊕((List Int)⊕((ByteArray×Bool)))):=
 bif(decide (y1<(ln b)))then((gi b y1).bind fun x1=>
 (bif(x1.Back==0)then((bif(x1.Size !=0)then(some true)
 else((RB (Gg x1.Text) 1 31).bind fun v1=>
 some (!v1)):Option (Bool)).bind fun j2=>
 bif j2 then(some (.inr (.inr (.inr ((bs []),false)))))
 else((aps a x1.Text).bind fun q1=>
 some (.inl q1)))
 else(((RB x1.Back 1 (ln a)).bind fun v2=>
 bif(!v2)then(some true)
 else((RB x1.Size 1 31).bind fun v3=>
 bif(!v3)then(some true)
 else(some (!(seq x1.Text (bs []))))):Option (Bool)).bind fun j3=>
 bif j3 then(some (.inr (.inr (.inr ((bs []),false)))))
 else((A0 (fun s:List Int×Int=>RJ x1 s.1 s.2) (a,0)).bind fun v4=>
 some (.inl v4))):Option ((List Int)⊕((List Int×Int)⊕((List Int)⊕((ByteArray×Bool)))))).bind (Sum.elim (fun j1=>(bif(decide ((ln j1)>64))then(some (.inr (.inr ((bs []),false))))
 else(some (.inl (j1,(ad y1 1)))))) some))
 else(some (.inr (.inl a)))
def PR (a:List Bf):Option (ByteArray×Bool):=
 (A0 (fun s:List Int×Int=>Or a s.1 s.2) ([],0)).bind (Sum.elim (fun v5=>(some ((Hm v5),true))) some)
def FD (xS:ByteArray) (c:Int) (b:Int) (a:Int):Option ((Int)⊕(Int)):=
 (bif(decide (a<31))then(bif(decide ((ad c a)<(Gg xS)))then((sx xS (ad b a)).bind fun x1=>
 (sx xS (ad c a)).bind fun x2=>
 some (x1==x2))
 else(some false))
 else(some false):Option (Bool)).bind fun j1=>
 bif j1 then(some (.inl (ad a 1)))
 else(some (.inr a))
def Ia (xS:ByteArray) (d:Int) (b:Int) (c:Int) (a:Int):Option ((Int×Int×Int)⊕(Int×Int)):=
 bif(decide (a>=0))then((A0 (fun s:Int=>FD xS d a s) 0).bind fun v1=>
 (bif(decide (v1>=4))then(some (decide (v1>b)))
 else(some false):Option (Bool)).bind fun j2=>
 bif j2 then(some (.inl (v1,(sb d a),(sb a 1))))
 else(some (.inl (b,c,(sb a 1)))))
 else(some (.inr (b,c)))
def SA (xS:ByteArray) (a:Int):Option (Int×Int):=
 (A0 (fun s:Int×Int×Int=>Ia xS a s.1 s.2.1 s.2.2) (0,0,(sb a 1))).bind fun v2=>
 some (v2.1,v2.2)
def Nd (xS:ByteArray) (a:List Bf) (b:Int):Option ((List Bf×Int)⊕(List Bf)):=
 bif(decide (b<(Gg xS)))then((SA xS b).bind fun v1=>
 bif(decide (v1.1>0))then((ap 32 a [(Bf.mk v1.2 v1.1 (bs []))]).bind fun q1=>
 some (.inl (q1,(ad b v1.1))))
 else((bif(decide ((sb (ln a) 1)<0))then(some true)
 else((gi a (sb (ln a) 1)).bind fun x1=>
 bif(decide (x1.Back>0))then(some true)
 else((gi a (sb (ln a) 1)).bind fun x2=>
 some (decide ((Gg x2.Text)>=31)))):Option (Bool)).bind fun j1=>
 (bif j1 then((ap 32 a [(Bf.mk 0 0 (bs []))]).bind fun q2=>
 some (q2,(ad (sb (ln a) 1) 1)))
 else(some (a,(sb (ln a) 1))):Option (List Bf×Int)).bind fun j2=>
 (gi j2.1 j2.2).bind fun x3=>
 (sub xS b (ad b 1)).bind fun x4=>
 (SI x3.Text x4).bind fun x5=>
 (gi j2.1 j2.2).bind fun x6=>
 some (.inl ((si j2.1 j2.2 (Bf.mk x6.Back x6.Size x5)),(ad b 1)))))
 else(some (.inr a))
def QJ (xS:ByteArray):Option (List Bf):=
 bif(decide ((Gg xS)>64))then(some [])
 else((A0 (fun s:List Bf×Int=>Nd xS s.1 s.2) ([],0)).bind fun v2=>
 some v2)
def K5 (v1:List Bf) (a:List Int) (y1:Int):Option ((List Int×Int)⊕(List Int)):=
 bif(decide (y1<(ln v1)))then((gi v1 y1).bind fun x1=>
 (bif(decide (x1.Back>0))then((ap 1 a [(IntKind.u8.wrap (ad 128 x1.Size)),(IntKind.u8.wrap x1.Back)]).bind fun q1=>
 some q1)
 else((ap 1 a [(IntKind.u8.wrap (Gg x1.Text))]).bind fun q2=>
 (aps q2 x1.Text).bind fun q3=>
 some q3):Option (List Int)).bind fun j1=>
 some (.inl (j1,(ad y1 1))))
 else(some (.inr a))
def Ot (xS:ByteArray):Option (ByteArray×Bool):=
 bif(decide ((Gg xS)>64))then(some ((bs []),false))
 else((QJ xS).bind fun v1=>
 (A0 (fun s:List Int×Int=>K5 v1 s.1 s.2) ([122],0)).bind fun v2=>
 bif(decide ((ad (Gg xS) 1)<=(ln v2)))then((SI (bs [114]) xS).bind fun x2=>
 some (x2,true))
 else(some ((Hm v2),true)))
def RC (xT:ByteArray):Option (ByteArray×Bool):=
 bif(seq xT (bs []))then(some ((bs []),false))
 else((sub xT 1 (Gg xT)).bind fun x1=>
 (sx xT 0).bind fun x2=>
 (bif(x2 !=114)then((QI x1).bind fun v1=>
 (PR v1.1).bind fun v2=>
 bif(!v1.2)then(some (.inr ((bs []),false)))
 else(bif(!v2.2)then(some (.inr ((bs []),false)))
 else(some (.inl v2.1))))
 else(some (.inl x1)):Option ((ByteArray)⊕((ByteArray×Bool)))).bind (Sum.elim (fun j1=>((Ot j1).bind fun v3=>
 (bif(!v3.2)then(some true)
 else(some (!(seq v3.1 xT))):Option (Bool)).bind fun j2=>
 bif j2 then(some ((bs []),false))
 else(some (j1,true)))) some))
def HD (xB:Block) (a:Int) (y1:Int):Option ((Int×Int)⊕(Int)):=
 bif(decide (y1<(ln xB.Leaves)))then((gi xB.Leaves y1).bind fun x1=>
 bif(x1.Is==0)then(some (.inl ((ad a 1),(ad y1 1))))
 else(some (.inl (a,(ad y1 1)))))
 else(some (.inr a))
def N4 (xB:Block):Option (Int):=
 (A0 (fun s:Int×Int=>HD xB s.1 s.2) (0,0)).bind fun v1=>
 some v1
def MN (xF:Flash) (a:Int) (y1:Int):Option ((Int×Int)⊕(Int)):=
 bif(decide (y1<(ln xF.Blocks)))then((gi xF.Blocks y1).bind fun x1=>
 bif(!x1.Bad)then((N4 x1).bind fun v1=>
 some (.inl ((ad a v1),(ad y1 1))))
 else(some (.inl (a,(ad y1 1)))))
 else(some (.inr a))
def jX (xF:Flash):Option (Int):=
 (A0 (fun s:Int×Int=>MN xF s.1 s.2) (0,0)).bind fun v2=>
 some v2
def ID (xF:Flash) (xB:Int) (v1:List Int) (a:List Aq) (y1:Int):Option ((List Aq×Int)⊕(List Aq)):=
 bif(decide (y1<(ln v1)))then((gi v1 y1).bind fun x1=>
 (Pu xF x1).bind fun v2=>
 (bif v2.2 then(some (v2.1.Block==xB))
 else(some false):Option (Bool)).bind fun j1=>
 bif j1 then((ap 72 a [v2.1]).bind fun q1=>
 some (.inl (q1,(ad y1 1))))
 else(some (.inl (a,(ad y1 1)))))
 else(some (.inr a))
def Uz (xF:Flash) (xS:Store) (xB:Int):Option (List Aq):=
 (KO xS).bind fun v1=>
 (A0 (fun s:List Aq×Int=>ID xF xB v1 s.1 s.2) ([],0)).bind fun v3=>
 some v3
def Hc (a:Int) (xB:Int) (v2:List Aq) (b:Int) (y1:Int):Option ((Int×Int)⊕(Int)):=
 bif(decide (y1<(ln v2)))then((gi v2 y1).bind fun x1=>
 (bif(x1.Block==xB)then(bif(x1.Page.Kind==2)then(some (decide (x1.Page.Tx>=a)))
 else(some false))
 else(some false):Option (Bool)).bind fun j1=>
 bif j1 then(some (.inl ((ad b 1),(ad y1 1))))
 else(some (.inl (b,(ad y1 1)))))
 else(some (.inr b))
def Kk (xF:Flash) (xS:Store) (a:Int) (xB:Int):Option (Int):=
 (Uz xF xS xB).bind fun v1=>
 (Hb xF).bind fun v2=>
 (A0 (fun s:Int×Int=>Hc a xB v2 s.1 s.2) ((ln v1),0)).bind fun v3=>
 some v3
def I4 (xF:Flash) (a:List Int) (y1:Int):Option ((List Int×Int)⊕(List Int)):=
 bif(decide (y1<(ln xF.Blocks)))then((gi xF.Blocks y1).bind fun x1=>
 (bif(!x1.Bad)then((N4 x1).bind fun v1=>
 some (v1==(ln x1.Leaves)))
 else(some false):Option (Bool)).bind fun j1=>
 bif j1 then((ap 8 a [y1]).bind fun q1=>
 some (.inl (q1,(ad y1 1))))
 else(some (.inl (a,(ad y1 1)))))
 else(some (.inr a))
def RL (xF:Flash):Option (List Int):=
 (A0 (fun s:List Int×Int=>I4 xF s.1 s.2) ([],0)).bind fun v2=>
 some v2
def E9 (a:List Int) (b:Int) (y01:List Int) (y11:Int) (y21:Int):Option ((List Int×Int×List Int×Int×Int)⊕(List Int)):=
 bif(decide (b<12))then((Db (BA.mk y01 y11 y21) 10000).bind fun v3=>
 (ap 8 a [v3.1]).bind fun q1=>
 some (.inl (q1,(ad b 1),v3.2.b_,v3.2.i_,v3.2.h_)))
 else(some (.inr a))
def Jw (a:List Int):Option (List Int):=
 (Ns a).bind fun v1=>
 (GW v1).bind fun v2=>
 (A0 (fun s:List Int×Int×List Int×Int×Int=>E9 s.1 s.2.1 s.2.2.1 s.2.2.2.1 s.2.2.2.2) ([],0,v2.2.b_,v2.2.i_,v2.2.h_)).bind fun v4=>
 some v4
def Me (xF:Flash) (xS:Store) (a:Int) (xB:Int):Option (Int):=
 (Et xF).bind fun v1=>
 (GP xS).bind fun v2=>
 (F7 v1 v2 a).bind fun v3=>
 (Lu v1 v3 xB).bind fun v4=>
 some v4
def FL (v2:AM) (x1:Int) (b:Int) (a:Int):Option ((Int×Int)⊕((Int)⊕(Bool))):=
 bif(decide (a<(ln v2.Flash.Blocks)))then((Kk v2.Flash v2.Store (Int.tmod x1 12) a).bind fun v5=>
 (Me v2.Flash v2.Store (Int.tmod x1 12) a).bind fun v6=>
 bif(v5 !=v6)then(some (.inr (.inr false)))
 else(some (.inl ((ad b v5),(ad a 1)))))
 else(some (.inr (.inl b)))
def GS (v3:List Aq) (x1:Int) (a:Int) (b:Int):Option ((Int×Int)⊕(Int)):=
 bif(decide (b<(ln v3)))then((gi v3 b).bind fun x2=>
 bif(x2.Page.Kind==2)then((gi v3 b).bind fun x3=>
 bif(decide (x3.Page.Tx>=(Int.tmod x1 12)))then(some (.inl ((ad a 1),(ad b 1))))
 else(some (.inl (a,(ad b 1)))))
 else(some (.inl (a,(ad b 1)))))
 else(some (.inr a))
def JM (a:List Int):Option (Bool):=
 (UJ a).bind fun v1=>
 bif v1 then(some true)
 else((Jx a).bind fun v2=>
 (Et v2.Flash).bind fun v3=>
 (Jw a).bind fun v4=>
 (gi v4 0).bind fun x1=>
 (A0 (fun s:Int×Int=>FL v2 x1 s.1 s.2) (0,0)).bind (Sum.elim (fun v7=>((GP v2.Store).bind fun v8=>
 (A0 (fun s:Int×Int=>GS v3 x1 s.1 s.2) ((ln v8),0)).bind fun v9=>
 some (v7==v9))) some))
end
end Go.TI
