/- What functions of the given program compute. No condition. -/
import Derived.Test.YtiemmklnnjembaaGreatPLT5
namespace Go.TI
open Go
noncomputable section
structure Mm where
 Kind:Int
 Vol:Int
 Sector:Int
 Of:Int
 Text:ByteArray
structure Shelf where
 Vol:Int
 Texts:List ByteArray
structure BE where
 Kind:Int
 Block:Int
 Leaf:Int
 Text:ByteArray
structure Leaf where
 Is:Int
 Text:ByteArray
structure Block where
 Bad:Bool
 Wear:Int
 Leaves:List Leaf
structure Flash where
 Blocks:List Block
structure Vol where
 Id:Int
 Root:Int
structure BR where
 Leaf:Bool
 Kids:List Int
structure Arena where
 Knots:List BR
structure Store where
 Vols:List Vol
 Arena:Arena
 Next:Int
structure AF where
 Flash:Flash
 Store:Store
 Seq:Int
 Tx:Int
 Base:Int
structure CD where
 Kind:Int
 Vol:Int
 Arg:Int
 Chunk:Int
structure World where
 AF:AF
 Codes:List Int
 Told:List ByteArray
 Model:List Shelf
 Steps:List BE
structure BD where
 b_:List Int
 i_:Int
 h_:Int
structure Ej where
 text_:ByteArray
 at_:Int
 bad_:Bool
structure Page where
 Kind:Int
 Seq:Int
 Tx:Int
 Part:Int
 Count:Int
 Text:ByteArray
structure Ap where
 Block:Int
 Leaf:Int
 Page:Page
structure Tx where
 Num:Int
 Seq:Int
 Recs:List CD
structure AK where
 Back:Int
 Size:Int
 Text:ByteArray
def BK (xX:Int) (a:Int) (b:Int):Option (Bool):=
 bif(decide (xX>=a))then(some (decide (xX<=b)))
 else(some false)
def HF (xQ:Mm):Option (Bool):=
 ((BK xQ.Kind 1 6).bind fun v1=>
 bif(!v1)then(some true)
 else((BK xQ.Vol 1 9).bind fun v2=>
 bif(!v2)then(some true)
 else(bif(decide ((FE xQ.Text)>64))then(some true)
 else(bif(xQ.Kind !=1)then(some (!(seq xQ.Text (bs []))))
 else(some false)))):Option (Bool)).bind fun j1=>
 bif j1 then(some false)
 else(bif(xQ.Kind==4)then((bif(xQ.Sector==0)then((BK xQ.Of 1 9).bind fun v3=>
 some v3)
 else(some false):Option (Bool)).bind fun j2=>
 some j2)
 else(bif(xQ.Of !=0)then(some false)
 else((bif(xQ.Kind==3)then(some true)
 else(some (xQ.Kind==5)):Option (Bool)).bind fun j3=>
 bif j3 then(some (xQ.Sector==0))
 else((BK xQ.Sector 0 15).bind fun v4=>
 some v4))))
def Or (xN:Int) (b:Int) (a:Int):Option (Bool):=
 bif(decide (xN>=b))then(some (decide (xN<=a)))
 else(some false)
def Sa (xQ:Mm):Option (Bool):=
 ((Or xQ.Kind 1 6).bind fun v1=>
 bif(!v1)then(some true)
 else((Or xQ.Vol 1 9).bind fun v2=>
 some (!v2)):Option (Bool)).bind fun j1=>
 bif j1 then(some false)
 else((bif(xQ.Kind==1)then(some (15,0,64))
 else(bif(xQ.Kind==2)then(bif(xQ.Kind==2)then(some (15,0,0))
 else(bif(xQ.Kind==4)then(some (0,9,0))
 else(some (0,0,0))))
 else(bif(xQ.Kind==6)then(some (15,0,0))
 else(bif(xQ.Kind==4)then(some (0,9,0))
 else(some (0,0,0))))):Option (Int×Int×Int)).bind fun j2=>
 (Or xQ.Sector 0 j2.1).bind fun v3=>
 bif v3 then((Or xQ.Of (if 1<j2.2.1 then 1 else j2.2.1) j2.2.1).bind fun v4=>
 bif v4 then(some (decide ((FE xQ.Text)<=j2.2.2)))
 else(some false))
 else(some false))
def HZ (xN:Int) (b:Int) (a:List Block):Option ((Int×List Block)⊕(List Block)):=
 bif(decide (b<xN))then((mk 24 (Leaf.mk 0 (bs [])) 4).bind fun q1=>
 (ap 40 a [(Block.mk false 0 q1)]).bind fun q2=>
 some (.inl ((ad b 1),q2)))
 else(some (.inr a))
def NV (xN:Int):Option (Flash×Bool):=
 (BK xN 3 10).bind fun v1=>
 bif(!v1)then(some ((Flash.mk []),false))
 else((Az (fun s:Int×List Block=>HZ xN s.1 s.2) (0,[])).bind fun v2=>
 some ((Flash.mk v2),true))
def Jd (xF:Flash) (b:Int) (a:List Block):Option ((Int×List Block)⊕(List Block)):=
 bif(decide (b<(ln xF.Blocks)))then((gi xF.Blocks b).bind fun x1=>
 (ap 24 [] x1.Leaves).bind fun q1=>
 (ap 40 a [(Block.mk x1.Bad x1.Wear q1)]).bind fun q2=>
 some (.inl ((ad b 1),q2)))
 else(some (.inr a))
def H7 (xF:Flash):Option (Flash):=
 (Az (fun s:Int×List Block=>Jd xF s.1 s.2) (0,[])).bind fun v1=>
 some (Flash.mk v1)
def PM (xX:Leaf):Option (Bool):=
 bif(xX.Is==0)then(some (seq xX.Text (bs [])))
 else(bif(xX.Is==1)then((BK (FE xX.Text) 1 120).bind fun v1=>
 some v1)
 else(bif(xX.Is==2)then(some (decide ((FE xX.Text)<=120)))
 else(some false)))
def HD (x1:Block) (a:Int):Option ((Int)⊕((Unit)⊕((Int)⊕((Unit)⊕(Bool))))):=
 bif(decide (a<(ln x1.Leaves)))then(((gi x1.Leaves a).bind fun x2=>
 (PM x2).bind fun v2=>
 bif(!v2)then(some true)
 else(bif(decide (a>0))then((gi x1.Leaves (sb a 1)).bind fun x3=>
 bif(x3.Is==0)then((gi x1.Leaves a).bind fun x4=>
 some (x4.Is !=0))
 else(some false))
 else(some false)):Option (Bool)).bind fun j2=>
 bif j2 then(some (.inr (.inr (.inr (.inr false)))))
 else(some (.inl (ad a 1))))
 else(some (.inr (.inl ())))
def HE (xF:Flash) (a:Int):Option ((Int)⊕((Unit)⊕(Bool))):=
 bif(decide (a<(ln xF.Blocks)))then((gi xF.Blocks a).bind fun x1=>
 (bif((ln x1.Leaves) !=4)then(some true)
 else((BK x1.Wear 0 1000000000).bind fun v1=>
 some (!v1)):Option (Bool)).bind fun j1=>
 bif j1 then(some (.inr (.inr false)))
 else((Az (fun s:Int=>HD x1 s) 0).bind (Sum.elim (fun v3=>(some (.inl (ad a 1)))) some)))
 else(some (.inr (.inl ())))
def IF (xF:Flash):Option (Bool):=
 (Az (fun s:Int=>HE xF s) 0).bind (Sum.elim (fun v4=>((BK (ln xF.Blocks) 3 10).bind fun v5=>
 some v5)) some)
def FX (xB:Block) (a:Int):Option ((Int)⊕((Unit)⊕(Int))):=
 bif(decide (a<(ln xB.Leaves)))then((gi xB.Leaves a).bind fun x1=>
 bif(x1.Is==0)then(some (.inr (.inr a)))
 else(some (.inl (ad a 1))))
 else(some (.inr (.inl ())))
def IC (xB:Block):Option (Int):=
 (Az (fun s:Int=>FX xB s) 0).bind (Sum.elim (fun v1=>(some 4)) some)
def VU (xF:Flash) (xB:Int) (a:Int) (b:ByteArray):Option (Bool):=
 (BK xB 0 (sb (ln xF.Blocks) 1)).bind fun v1=>
 bif v1 then((gi xF.Blocks xB).bind fun x1=>
 bif(!x1.Bad)then(bif(decide (a<4))then((gi xF.Blocks xB).bind fun x2=>
 (IC x2).bind fun v2=>
 bif(a==v2)then((BK (FE b) 1 120).bind fun v3=>
 some v3)
 else(some false))
 else(some false))
 else(some false))
 else(some false)
def Nh (xF:Flash) (xB:Int) (a:Int) (b:ByteArray):Option (Flash×Bool):=
 (H7 xF).bind fun v1=>
 ((IF xF).bind fun v2=>
 bif(!v2)then(some true)
 else((VU xF xB a b).bind fun v3=>
 some (!v3)):Option (Bool)).bind fun j1=>
 bif j1 then(some (v1,false))
 else((gi v1.Blocks xB).bind fun x1=>
 (gi x1.Leaves a).bind fun x2=>
 some ((Flash.mk (si v1.Blocks xB (Block.mk x1.Bad x1.Wear (si x1.Leaves a (Leaf.mk 1 b))))),true))
def VZ (xF:Flash) (xB:Int):Option (Flash×Bool):=
 (H7 xF).bind fun v1=>
 ((IF xF).bind fun v2=>
 bif(!v2)then(some true)
 else((BK xB 0 (sb (ln xF.Blocks) 1)).bind fun v3=>
 bif(!v3)then(some true)
 else((gi xF.Blocks xB).bind fun x1=>
 bif x1.Bad then(some true)
 else((gi xF.Blocks xB).bind fun x2=>
 some (x2.Wear==1000000000)))):Option (Bool)).bind fun j1=>
 bif j1 then(some (v1,false))
 else((gi xF.Blocks xB).bind fun x3=>
 (mk 24 (Leaf.mk 0 (bs [])) 4).bind fun q1=>
 (gi v1.Blocks xB).bind fun x4=>
 some ((Flash.mk (si v1.Blocks xB (Block.mk false (ad x3.Wear 1) q1))),true))
def Nj (xF:Flash) (xS:BE):Option (Flash×Bool):=
 bif(xS.Kind==1)then((Nh xF xS.Block xS.Leaf xS.Text).bind fun v1=>
 some (v1.1,v1.2))
 else(bif(xS.Kind==2)then((VZ xF xS.Block).bind fun v2=>
 some (v2.1,v2.2))
 else((H7 xF).bind fun v3=>
 some (v3,false)))
def F5 (b:List BE) (c:Int) (a:List Block):Option ((Int×List Block)⊕((List Block)⊕((Flash×Int)))):=
 bif(decide (c<(ln b)))then(((gi b c).bind fun x1=>
 (Nj (Flash.mk a) x1).bind fun v2=>
 some (v2.2,v2.1.Blocks):Option (Bool×List Block)).bind fun j1=>
 bif(!j1.1)then(some (.inr (.inr ((Flash.mk a),c))))
 else(some (.inl ((ad c 1),j1.2))))
 else(some (.inr (.inl a)))
def L7 (xF:Flash) (a:List BE):Option (Flash×Int):=
 (H7 xF).bind fun v1=>
 (Az (fun s:Int×List Block=>F5 a s.1 s.2) (0,v1.Blocks)).bind (Sum.elim (fun v4=>(some ((Flash.mk v4),(ln a)))) some)
def Vq (a:List Int):Option (Bool):=
 some (decide ((ln a)>1048576))
def I9 (a:List Int) (c:Int) (b:Int):Option ((Int×Int)⊕(Int)):=
 (bif(decide (b<(ln a)))then(some (decide (b<4000)))
 else(some false):Option (Bool)).bind fun j1=>
 bif j1 then((gi a b).bind fun x1=>
 some (.inl ((ban .i64 (ad (ad (ml c 131) (IntKind.i64.wrap x1)) 7) 1073741823),(ad b 1))))
 else(some (.inr c))
def Pi (a:List Int):Option (BD):=
 (Az (fun s:Int×Int=>I9 a s.1 s.2) ((ad 36501 (ln a)),0)).bind fun v1=>
 some (BD.mk a 0 v1)
def IA (xC:BD):Option (Int×BD):=
 bif(decide (xC.i_<(ln xC.b_)))then((gi xC.b_ xC.i_).bind fun x1=>
 some ((ban .i64 (ad (ban .i64 (bxo .i64 (Int.fdiv (ad (ml xC.h_ 6364136223846793005) 1442695040888963407) (2^(min (33:Int).toNat IntKind.i64.bits))) (Int.fdiv (ad (ml xC.h_ 6364136223846793005) 1442695040888963407) (2^(min (45:Int).toNat IntKind.i64.bits)))) 255) (IntKind.i64.wrap x1)) 255),(BD.mk xC.b_ (ad xC.i_ 1) (ad (ml xC.h_ 6364136223846793005) 1442695040888963407))))
 else(some ((ban .i64 (bxo .i64 (Int.fdiv (ad (ml xC.h_ 6364136223846793005) 1442695040888963407) (2^(min (33:Int).toNat IntKind.i64.bits))) (Int.fdiv (ad (ml xC.h_ 6364136223846793005) 1442695040888963407) (2^(min (45:Int).toNat IntKind.i64.bits)))) 255),(BD.mk xC.b_ xC.i_ (ad (ml xC.h_ 6364136223846793005) 1442695040888963407))))
def D1 (xC:BD) (xN:Int):Option (Int×BD):=
 bif(decide (xN<=0))then(some (0,xC))
 else(bif(decide (xN<=256))then((IA xC).bind fun v1=>
 (rm .i64 v1.1 xN).bind fun x1=>
 some (x1,v1.2))
 else((IA xC).bind fun v2=>
 (IA v2.2).bind fun v3=>
 (IA v3.2).bind fun v4=>
 (IA v4.2).bind fun v5=>
 (rm .i64 (ad (ad (ad (ml v2.1 16777216) (ml v3.1 65536)) (ml v4.1 256)) v5.1) xN).bind fun x2=>
 some (x2,v5.2)))
def NR (xF:Flash) (xB:Int) (a:Int):Option (ByteArray×Bool):=
 ((BK xB 0 (sb (ln xF.Blocks) 1)).bind fun v1=>
 bif(!v1)then(some true)
 else((gi xF.Blocks xB).bind fun x1=>
 (BK a 0 (sb (ln x1.Leaves) 1)).bind fun v2=>
 bif(!v2)then(some true)
 else((gi xF.Blocks xB).bind fun x2=>
 (gi x2.Leaves a).bind fun x3=>
 some (x3.Is !=1))):Option (Bool)).bind fun j1=>
 bif j1 then(some ((bs []),false))
 else((gi xF.Blocks xB).bind fun x4=>
 (gi x4.Leaves a).bind fun x5=>
 some (x5.Text,true))
def HA (a:Int) (b:Int):Option ((Int×Int)⊕(Int)):=
 bif(decide (b<8))then(bif((Int.tmod a 2)==1)then(some (.inl ((xr (IntKind.u32.wrap (Int.tdiv a 2)) 3558460437),(ad b 1))))
 else(some (.inl ((IntKind.u32.wrap (Int.tdiv a 2)),(ad b 1)))))
 else(some (.inr a))
def Jf (a:ByteArray) (b:Int) (c:Int):Option ((Int×Int)⊕(Int)):=
 bif(decide (c<(FE a)))then((sx a c).bind fun x1=>
 (Az (fun s:Int×Int=>HA s.1 s.2) ((xr b (IntKind.u32.wrap x1)),0)).bind fun v1=>
 some (.inl (v1,(ad c 1))))
 else(some (.inr b))
def PN (b:Int) (a:ByteArray):Option (Int):=
 (Az (fun s:Int×Int=>Jf a s.1 s.2) (b,0)).bind fun v2=>
 some v2
def Mx (a:ByteArray):Option (Int):=
 (PN 4294967295 a).bind fun v1=>
 some v1
def JK (xX:Int):Option (ByteArray):=
 some (GV [(IntKind.u8.wrap (Int.fdiv xX (2^(min (24:Int).toNat IntKind.u32.bits)))),(IntKind.u8.wrap (Int.fdiv xX (2^(min (16:Int).toNat IntKind.u32.bits)))),(IntKind.u8.wrap (Int.fdiv xX (2^(min (8:Int).toNat IntKind.u32.bits)))),(IntKind.u8.wrap xX)])
def JL (a:ByteArray):Option (ByteArray×Bool):=
 (bif(decide ((sb (FE a) 4)<0))then(some true)
 else(bif(decide ((sb (FE a) 4)>20000))then(some true)
 else((sub a (sb (FE a) 4) (FE a)).bind fun x1=>
 (sub a 0 (sb (FE a) 4)).bind fun x2=>
 (Mx x2).bind fun v1=>
 (JK v1).bind fun v2=>
 some (!(seq x1 v2)))):Option (Bool)).bind fun j1=>
 bif j1 then(some ((bs []),false))
 else((sub a 0 (sb (FE a) 4)).bind fun x3=>
 some (x3,true))
def Ph (b:Int) (a:List Int):Option ((Int×List Int)⊕(Int×List Int)):=
 bif(decide (b>127))then((ap 1 a [(IntKind.u8.wrap (ad (Int.tmod b 128) 128))]).bind fun q1=>
 some (.inl ((qu b 128),q1)))
 else(some (.inr (b,a)))
def HY (xN:Int):Option (ByteArray):=
 (Az (fun s:Int×List Int=>Ph s.1 s.2) (xN,[])).bind fun v1=>
 (ap 1 v1.2 [(IntKind.u8.wrap v1.1)]).bind fun q2=>
 some (GV q2)
def Dw (b:ByteArray) (e:Int) (d:Int) (a:Int) (c:Int):Option ((Int×Int×Int)⊕((Unit)⊕((Int×Int×Bool)))):=
 (bif(decide (c<(FE b)))then(some (decide (c<(ad e 5))))
 else(some false):Option (Bool)).bind fun j1=>
 bif j1 then((sx b c).bind fun x1=>
 (sx b c).bind fun x2=>
 bif(decide (x2<128))then((bif(decide ((ad d (ml (Int.tmod (IntKind.i64.wrap x1) 128) a))>1000000000))then(some true)
 else((sub b e (ad c 1)).bind fun x3=>
 (HY (ad d (ml (Int.tmod (IntKind.i64.wrap x1) 128) a))).bind fun v2=>
 some (!(seq v2 x3))):Option (Bool)).bind fun j2=>
 bif j2 then(some (.inr (.inr (0,0,false))))
 else(some (.inr (.inr ((ad d (ml (Int.tmod (IntKind.i64.wrap x1) 128) a)),(ad c 1),true)))))
 else(some (.inl ((ad d (ml (Int.tmod (IntKind.i64.wrap x1) 128) a)),(ml a 128),(ad c 1)))))
 else(some (.inr (.inl ())))
def IB (a:ByteArray) (b:Int):Option (Int×Int×Bool):=
 (BK b 0 (FE a)).bind fun v1=>
 bif(!v1)then(some (0,0,false))
 else((Az (fun s:Int×Int×Int=>Dw a b s.1 s.2.1 s.2.2) (0,1,b)).bind (Sum.elim (fun v3=>(some (0,0,false))) some))
def Ei (xC:Ej):Option (Int×Ej):=
 (IB xC.text_ xC.at_).bind fun v1=>
 (bif xC.bad_ then(some true)
 else(some (!v1.2.2)):Option (Bool)).bind fun j1=>
 bif j1 then(some (0,(Ej.mk xC.text_ xC.at_ true)))
 else(some (v1.1,(Ej.mk xC.text_ v1.2.1 xC.bad_)))
def Jl (xP:Page):Option (Bool):=
 ((BK xP.Kind 1 2).bind fun v1=>
 bif(!v1)then(some true)
 else((BK xP.Seq 1 1000000000).bind fun v2=>
 bif(!v2)then(some true)
 else((BK xP.Tx 1 1000000000).bind fun v3=>
 bif(!v3)then(some true)
 else((BK xP.Count 1 9).bind fun v4=>
 bif(!v4)then(some true)
 else((BK xP.Part 0 (sb xP.Count 1)).bind fun v5=>
 bif(!v5)then(some true)
 else(some (decide ((FE xP.Text)>90))))))):Option (Bool)).bind fun j1=>
 bif j1 then(some false)
 else(bif(xP.Kind==2)then(some true)
 else(some (xP.Count==1)))
def L6 (xN:Int):Option (ByteArray):=
 some (GV [(IntKind.u8.wrap xN)])
def Jh (a:ByteArray):Option (ByteArray×Bool):=
 bif(decide ((FE a)>20000))then(some ((bs []),false))
 else((Mx a).bind fun v1=>
 (JK v1).bind fun v2=>
 (Td a v2).bind fun x1=>
 some (x1,true))
def EL (xP:Page):Option (ByteArray×Bool):=
 (Jl xP).bind fun v1=>
 bif(!v1)then(some ((bs []),false))
 else((L6 xP.Kind).bind fun v2=>
 (HY xP.Seq).bind fun v3=>
 (Td v2 v3).bind fun x1=>
 (HY xP.Tx).bind fun v4=>
 (Td x1 v4).bind fun x2=>
 (HY xP.Part).bind fun v5=>
 (Td x2 v5).bind fun x3=>
 (HY xP.Count).bind fun v6=>
 (Td x3 v6).bind fun x4=>
 (Td x4 xP.Text).bind fun x5=>
 (Jh x5).bind fun v7=>
 some (v7.1,v7.2))
def EK (xT:ByteArray):Option (Page×Bool):=
 (JL xT).bind fun v1=>
 (bif(!v1.2)then(some true)
 else(some (decide ((FE v1.1)<1))):Option (Bool)).bind fun j1=>
 (Ei (Ej.mk v1.1 1 j1)).bind fun v2=>
 (Ei v2.2).bind fun v3=>
 (Ei v3.2).bind fun v4=>
 (Ei v4.2).bind fun v5=>
 bif v5.2.bad_ then(some ((Page.mk 0 0 0 0 0 (bs [])),false))
 else((sx v1.1 0).bind fun x1=>
 (sub v1.1 v5.2.at_ (FE v1.1)).bind fun x2=>
 (EL (Page.mk (IntKind.i64.wrap x1) v2.1 v3.1 v4.1 v5.1 x2)).bind fun v6=>
 (bif(!v6.2)then(some true)
 else(some (!(seq v6.1 xT))):Option (Bool)).bind fun j2=>
 bif j2 then(some ((Page.mk 0 0 0 0 0 (bs [])),false))
 else(some ((Page.mk (IntKind.i64.wrap x1) v2.1 v3.1 v4.1 v5.1 x2),true)))
def E8 (xF:Flash) (c:Int) (a:List Ap) (b:Int):Option ((List Ap×Int)⊕(List Ap)):=
 (gi xF.Blocks c).bind fun x1=>
 bif(decide (b<(ln x1.Leaves)))then((NR xF c b).bind fun v1=>
 (EK v1.1).bind fun v2=>
 (bif v1.2 then(some v2.2)
 else(some false):Option (Bool)).bind fun j1=>
 bif j1 then((ap 72 a [(Ap.mk c b v2.1)]).bind fun q1=>
 some (.inl (q1,(ad b 1))))
 else(some (.inl (a,(ad b 1)))))
 else(some (.inr a))
def Ec (xF:Flash) (a:List Ap) (b:Int):Option ((List Ap×Int)⊕(List Ap)):=
 bif(decide (b<(ln xF.Blocks)))then((Az (fun s:List Ap×Int=>E8 xF b s.1 s.2) (a,0)).bind fun v3=>
 some (.inl (v3,(ad b 1))))
 else(some (.inr a))
def Ji (a:List Ap) (b:Int):Option ((List Ap×Int)⊕(List Ap)):=
 (bif(decide (b>0))then((gi a (sb b 1)).bind fun x2=>
 (gi a b).bind fun x3=>
 some (decide (x2.Page.Seq>x3.Page.Seq)))
 else(some false):Option (Bool)).bind fun j2=>
 bif j2 then((gi a b).bind fun x4=>
 (gi a (sb b 1)).bind fun x5=>
 (gi a b).bind fun x6=>
 (gi (si a b x5) (sb b 1)).bind fun x7=>
 some (.inl ((si (si a b x5) (sb b 1) x4),(sb b 1))))
 else(some (.inr a))
def Jj (a:List Ap) (b:Int):Option ((List Ap×Int)⊕(List Ap)):=
 bif(decide (b<(ln a)))then((Az (fun s:List Ap×Int=>Ji s.1 s.2) (a,b)).bind fun v5=>
 some (.inl (v5,(ad b 1))))
 else(some (.inr a))
def FT (xF:Flash):Option (List Ap):=
 (Az (fun s:List Ap×Int=>Ec xF s.1 s.2) ([],0)).bind fun v4=>
 (Az (fun s:List Ap×Int=>Jj s.1 s.2) (v4,1)).bind fun v6=>
 some v6
def NQ:Option (Store):=
 some (Store.mk [] (Arena.mk []) 1)
def PQ (xR:CD):Option (Bool):=
 (BK xR.Arg 0 1000000000).bind fun v1=>
 bif(!v1)then(some false)
 else(bif(xR.Kind==1)then((bif(xR.Vol==0)then(some (xR.Chunk==0))
 else(some false):Option (Bool)).bind fun j1=>
 some j1)
 else(((BK xR.Kind 2 5).bind fun v2=>
 bif(!v2)then(some true)
 else((BK xR.Vol 1 9).bind fun v3=>
 bif(!v3)then(some true)
 else(bif(xR.Kind !=4)then(some (xR.Chunk !=0))
 else(some false))):Option (Bool)).bind fun j2=>
 bif j2 then(some false)
 else(bif(xR.Kind==2)then(some (decide (xR.Arg<=9)))
 else(bif(xR.Kind==3)then(some (xR.Arg==0))
 else(bif(xR.Kind==4)then(bif(decide (xR.Arg<16))then((BK xR.Chunk 1 1000000000).bind fun v4=>
 some v4)
 else(some false))
 else(some (decide (xR.Arg<16))))))))
def Ed (xT:ByteArray) (a:List CD) (y01:ByteArray) (y11:Int) (y21:Bool):Option ((List CD×ByteArray×Int×Bool)⊕((List CD)⊕((List CD×Bool)))):=
 (bif(decide (y11<(FE xT)))then(some (!y21))
 else(some false):Option (Bool)).bind fun j1=>
 bif j1 then((sx xT y11).bind fun x1=>
 (Ei (Ej.mk y01 (ad y11 1) y21)).bind fun v1=>
 (Ei v1.2).bind fun v2=>
 (bif v2.2.bad_ then(some true)
 else((PQ (CD.mk (qu (IntKind.i64.wrap x1) 16) (Int.tmod (IntKind.i64.wrap x1) 16) v1.1 v2.1)).bind fun v3=>
 some (!v3)):Option (Bool)).bind fun j2=>
 bif j2 then(some (.inr (.inr ([],false))))
 else((ap 32 a [(CD.mk (qu (IntKind.i64.wrap x1) 16) (Int.tmod (IntKind.i64.wrap x1) 16) v1.1 v2.1)]).bind fun q1=>
 some (.inl (q1,v2.2.text_,v2.2.at_,v2.2.bad_))))
 else(some (.inr (.inl a)))
def JN (xT:ByteArray):Option (List CD×Bool):=
 (Az (fun s:List CD×ByteArray×Int×Bool=>Ed xT s.1 s.2.1 s.2.2.1 s.2.2.2) ([],xT,0,false)).bind (Sum.elim (fun v4=>(some (v4,true))) some)
def Ir (f:List Ap) (h:Int) (d:Int) (b:Int) (e:ByteArray) (c:Bool) (g:Int) (a:Int):Option ((Int×ByteArray×Bool×Int×Int)⊕(Int×ByteArray×Bool×Int)):=
 (bif(decide (g<(ln f)))then(some (!c))
 else(some false):Option (Bool)).bind fun j2=>
 bif j2 then((gi f g).bind fun x1=>
 (bif(x1.Page.Kind !=2)then(some true)
 else(bif(x1.Page.Tx !=h)then(some true)
 else(bif(x1.Page.Part !=d)then(some true)
 else(bif(decide (d>0))then(some (x1.Page.Count !=b))
 else(some false)))):Option (Bool)).bind fun j3=>
 bif j3 then(some (.inl (b,e,c,(ad g 1),a)))
 else((Td e x1.Page.Text).bind fun x2=>
 (bif(d==0)then(some true)
 else(some (decide (x1.Page.Seq<a))):Option (Bool)).bind fun j4=>
 bif j4 then(some (.inl (x1.Page.Count,x2,true,(ad g 1),x1.Page.Seq)))
 else(some (.inl (x1.Page.Count,x2,true,(ad g 1),a)))))
 else(some (.inr (b,e,c,a)))
def NO (e:List Ap) (f:Int) (b:Int) (c:ByteArray) (a:Int) (d:Int):Option ((Int×ByteArray×Int×Int)⊕((ByteArray×Int)⊕((Tx×Bool)))):=
 (bif(a==0)then(some true)
 else(some (decide (a<b))):Option (Bool)).bind fun j1=>
 bif j1 then((Az (fun s:Int×ByteArray×Bool×Int×Int=>Ir e f a s.1 s.2.1 s.2.2.1 s.2.2.2.1 s.2.2.2.2) (b,c,false,0,d)).bind fun v1=>
 bif(!v1.2.2.1)then(some (.inr (.inr ((Tx.mk f v1.2.2.2 []),false))))
 else(some (.inl (v1.1,v1.2.1,(ad a 1),v1.2.2.2))))
 else(some (.inr (.inl (c,d))))
def UN (a:List Ap) (b:Int):Option (Tx×Bool):=
 (Az (fun s:Int×ByteArray×Int×Int=>NO a b s.1 s.2.1 s.2.2.1 s.2.2.2) (0,(bs []),0,0)).bind (Sum.elim (fun v2=>((JN v2.1).bind fun v3=>
 some ((Tx.mk b v2.2 v3.1),v3.2))) some)
def K8 (a:List Int) (x1:Ap) (b:List Int) (c:Int):Option ((List Int×Int)⊕(List Int)):=
 bif(decide (c<(ln a)))then((gi a c).bind fun x2=>
 bif(decide (x2<x1.Page.Tx))then((gi a c).bind fun x3=>
 (ap 8 b [x3]).bind fun q1=>
 some (.inl (q1,(ad c 1))))
 else(some (.inl (b,(ad c 1)))))
 else(some (.inr b))
def K7 (a:List Int) (x1:Ap) (b:List Int) (c:Int):Option ((List Int×Int)⊕(List Int)):=
 bif(decide (c<(ln a)))then((gi a c).bind fun x4=>
 bif(decide (x4>x1.Page.Tx))then((gi a c).bind fun x5=>
 (ap 8 b [x5]).bind fun q3=>
 some (.inl (q3,(ad c 1))))
 else(some (.inl (b,(ad c 1)))))
 else(some (.inr b))
def IE (b:List Ap) (a:List Int) (c:Int):Option ((List Int×Int)⊕(List Int)):=
 bif(decide (c<(ln b)))then((gi b c).bind fun x1=>
 bif(x1.Page.Kind !=2)then(some (.inl (a,(ad c 1))))
 else((Az (fun s:List Int×Int=>K8 a x1 s.1 s.2) ([],0)).bind fun v1=>
 (ap 8 v1 [x1.Page.Tx]).bind fun q2=>
 (Az (fun s:List Int×Int=>K7 a x1 s.1 s.2) (q2,0)).bind fun v2=>
 some (.inl (v2,(ad c 1)))))
 else(some (.inr a))
def ID (c:List Ap) (v3:List Int) (a:List Tx) (b:Int):Option ((List Tx×Int)⊕(List Tx)):=
 bif(decide (b<(ln v3)))then((gi v3 b).bind fun x6=>
 (UN c x6).bind fun v4=>
 bif v4.2 then((ap 40 a [v4.1]).bind fun q4=>
 some (.inl (q4,(ad b 1))))
 else(some (.inl (a,(ad b 1)))))
 else(some (.inr a))
def Pk (a:List Ap):Option (List Tx):=
 (Az (fun s:List Int×Int=>IE a s.1 s.2) ([],0)).bind fun v3=>
 (Az (fun s:List Tx×Int=>ID a v3 s.1 s.2) ([],0)).bind fun v5=>
 some v5
def FR (a:List Tx) (c:Int) (b:Int):Option ((Int×Int)⊕(Int)):=
 bif(decide (b<(ln a)))then((gi a b).bind fun x1=>
 bif(decide ((ln x1.Recs)>0))then((gi a b).bind fun x2=>
 (gi x2.Recs 0).bind fun x3=>
 bif(x3.Kind==1)then(some (.inl (b,(ad b 1))))
 else(some (.inl (c,(ad b 1)))))
 else(some (.inl (c,(ad b 1)))))
 else(some (.inr c))
def Hp (a:List Tx) (b:List Tx) (c:Int):Option ((List Tx×Int)⊕(List Tx)):=
 bif(decide (c<(ln a)))then((gi a c).bind fun x4=>
 (ap 32 [] x4.Recs).bind fun q1=>
 (ap 40 b [(Tx.mk x4.Num x4.Seq q1)]).bind fun q2=>
 some (.inl (q2,(ad c 1))))
 else(some (.inr b))
def My (a:List Tx):Option (List Tx):=
 (Az (fun s:Int×Int=>FR a s.1 s.2) (0,0)).bind fun v1=>
 (Az (fun s:List Tx×Int=>Hp a s.1 s.2) ([],v1)).bind fun v2=>
 some v2
def Jc (xA:Arena) (b:Int) (a:List BR):Option ((Int×List BR)⊕(List BR)):=
 bif(decide (b<(ln xA.Knots)))then((gi xA.Knots b).bind fun x1=>
 (gi xA.Knots b).bind fun x2=>
 (ap 8 [] x2.Kids).bind fun q1=>
 (ap 32 a [(BR.mk x1.Leaf q1)]).bind fun q2=>
 some (.inl ((ad b 1),q2)))
 else(some (.inr a))
def L5 (xA:Arena):Option (Arena):=
 (Az (fun s:Int×List BR=>Jc xA s.1 s.2) (0,[])).bind fun v1=>
 some (Arena.mk v1)
def Er (xS:Store):Option (Store):=
 (ap 16 [] xS.Vols).bind fun q1=>
 (L5 xS.Arena).bind fun v1=>
 some (Store.mk q1 v1 xS.Next)
def DG (xA:Arena) (b:Int) (x1:BR) (a:Int):Option ((Int)⊕((Unit)⊕((Int)⊕((Unit)⊕(Bool))))):=
 bif(decide (a<4))then((gi x1.Kids a).bind fun x2=>
 (bif x1.Leaf then(bif(decide (x2<0))then(some true)
 else(bif(!x1.Leaf)then(bif(x2 !=(-1))then((BK x2 0 (sb b 1)).bind fun v1=>
 bif(!v1)then(some true)
 else((gi xA.Knots x2).bind fun x3=>
 some (!x3.Leaf)))
 else(some false))
 else(some false)))
 else(bif(!x1.Leaf)then(bif(x2 !=(-1))then((BK x2 0 (sb b 1)).bind fun v2=>
 bif(!v2)then(some true)
 else((gi xA.Knots x2).bind fun x4=>
 some (!x4.Leaf)))
 else(some false))
 else(some false)):Option (Bool)).bind fun j1=>
 bif j1 then(some (.inr (.inr (.inr (.inr false)))))
 else(some (.inl (ad a 1))))
 else(some (.inr (.inl ())))
def DH (xA:Arena) (a:Int):Option ((Int)⊕((Unit)⊕(Bool))):=
 bif(decide (a<(ln xA.Knots)))then((gi xA.Knots a).bind fun x1=>
 bif((ln x1.Kids) !=4)then(some (.inr (.inr false)))
 else((Az (fun s:Int=>DG xA a x1 s) 0).bind (Sum.elim (fun v3=>(some (.inl (ad a 1)))) some)))
 else(some (.inr (.inl ())))
def Ga (xA:Arena):Option (Bool):=
 (Az (fun s:Int=>DH xA s) 0).bind (Sum.elim (fun v4=>(some true)) some)
def GB (xA:Arena) (a:Int):Option (Bool):=
 bif(a==(-1))then(some true)
 else((BK a 0 (sb (ln xA.Knots) 1)).bind fun v1=>
 bif v1 then((gi xA.Knots a).bind fun x1=>
 some (!x1.Leaf))
 else(some false))
def LP (xA:Arena) (b:Int) (a:Int):Option (Int):=
 bif(decide (b<0))then(some 0)
 else((gi xA.Knots b).bind fun x1=>
 (gi x1.Kids (qu a 4)).bind fun x2=>
 bif(decide (x2<0))then(some 0)
 else((gi xA.Knots x2).bind fun x3=>
 (gi x3.Kids (Int.tmod a 4)).bind fun x4=>
 some x4))
def GA (xS:Store) (a:List Int) (b:Int):Option ((List Int×Int)⊕(List Int)):=
 bif(decide (b<(ln xS.Vols)))then((gi xS.Vols b).bind fun x1=>
 (ap 8 a [x1.Root]).bind fun q1=>
 some (.inl (q1,(ad b 1))))
 else(some (.inr a))
def LO (xS:Store):Option (List Int):=
 (Az (fun s:List Int×Int=>GA xS s.1 s.2) ([],0)).bind fun v1=>
 some v1
def I5 (xA:Arena) (b:Int) (a:List Bool) (c:Int):Option ((List Bool×Int)⊕(List Bool)):=
 bif(decide (c<4))then((gi xA.Knots b).bind fun x2=>
 (gi x2.Kids c).bind fun x3=>
 bif(decide (x3>=0))then((gi xA.Knots b).bind fun x4=>
 (gi x4.Kids c).bind fun x5=>
 (gi a x5).bind fun x6=>
 some (.inl ((si a x5 true),(ad c 1))))
 else(some (.inl (a,(ad c 1)))))
 else(some (.inr a))
def Rz (xA:Arena) (a:Int):Option (List Bool):=
 (mk 1 false (ln xA.Knots)).bind fun q1=>
 bif(decide (a<0))then(some q1)
 else((gi q1 a).bind fun x1=>
 (Az (fun s:List Bool×Int=>I5 xA a s.1 s.2) ((si q1 a true),0)).bind fun v1=>
 some v1)
def Ft (xA:Arena) (a:List Int) (b:Bool) (c:Int):Option ((Bool×Int)⊕(Bool)):=
 (bif(decide (c<(ln a)))then(some b)
 else(some false):Option (Bool)).bind fun j1=>
 bif j1 then((gi a c).bind fun x1=>
 (GB xA x1).bind fun v2=>
 some (.inl (v2,(ad c 1))))
 else(some (.inr b))
def G0 (v5:List Bool) (a:List Bool) (b:Int):Option ((List Bool×Int)⊕(List Bool)):=
 bif(decide (b<(ln v5)))then((gi a b).bind fun x3=>
 bif x3 then((gi a b).bind fun x4=>
 some (.inl ((si a b true),(ad b 1))))
 else((gi v5 b).bind fun x5=>
 (gi a b).bind fun x6=>
 some (.inl ((si a b x5),(ad b 1)))))
 else(some (.inr a))
def Fs (xA:Arena) (a:List Int) (b:List Bool) (c:Int):Option ((List Bool×Int)⊕(List Bool)):=
 bif(decide (c<(ln a)))then((gi a c).bind fun x2=>
 (Rz xA x2).bind fun v5=>
 (Az (fun s:List Bool×Int=>G0 v5 s.1 s.2) (b,0)).bind fun v6=>
 some (.inl (v6,(ad c 1))))
 else(some (.inr b))
def Fp (c:List Int) (j2:Bool×List Int) (b:Int) (a:List Int):Option ((Int×List Int)⊕(List Int)):=
 (bif(decide (b<4))then(some (!j2.1))
 else(some false):Option (Bool)).bind fun j3=>
 bif j3 then((gi a b).bind fun x10=>
 bif(decide (x10>=0))then((gi a b).bind fun x11=>
 (gi c x11).bind fun x12=>
 (gi a b).bind fun x13=>
 some (.inl ((ad b 1),(si a b x12))))
 else(some (.inl ((ad b 1),a))))
 else(some (.inr a))
def Fq (xA:Arena) (v7:List Bool) (a:List Int) (c:Int) (b:List BR):Option ((List Int×Int×List BR)⊕(List Int×List BR)):=
 bif(decide (c<(ln xA.Knots)))then((gi v7 c).bind fun x7=>
 bif(!x7)then(some (.inl (a,(ad c 1),b)))
 else(((gi xA.Knots c).bind fun x8=>
 (gi xA.Knots c).bind fun x9=>
 (ap 8 [] x9.Kids).bind fun q4=>
 some (x8.Leaf,q4):Option (Bool×List Int)).bind fun j2=>
 (Az (fun s:Int×List Int=>Fp a j2 s.1 s.2) (0,j2.2)).bind fun v8=>
 (gi a c).bind fun x14=>
 (ap 32 b [(BR.mk j2.1 v8)]).bind fun q7=>
 some (.inl ((si a c (ln b)),(ad c 1),q7))))
 else(some (.inr (a,b)))
def Fo (v9:List Int×List BR) (a:List Int) (b:Int):Option ((List Int×Int)⊕(List Int)):=
 bif(decide (b<(ln a)))then((gi a b).bind fun x15=>
 bif(decide (x15>=0))then((gi a b).bind fun x16=>
 (gi v9.1 x16).bind fun x17=>
 (gi a b).bind fun x18=>
 some (.inl ((si a b x17),(ad b 1))))
 else(some (.inl (a,(ad b 1)))))
 else(some (.inr a))
def Je (xA:Arena) (a:List Int):Option (Arena×List Int):=
 (ap 8 [] a).bind fun q1=>
 (Ga xA).bind fun v1=>
 (Az (fun s:Bool×Int=>Ft xA a s.1 s.2) (v1,0)).bind fun v3=>
 bif(!v3)then((L5 xA).bind fun v4=>
 some (v4,q1))
 else((mk 1 false (ln xA.Knots)).bind fun q2=>
 (Az (fun s:List Bool×Int=>Fs xA a s.1 s.2) (q2,0)).bind fun v7=>
 (mk 8 0 (ln xA.Knots)).bind fun q3=>
 (Az (fun s:List Int×Int×List BR=>Fq xA v7 s.1 s.2.1 s.2.2) (q3,0,[])).bind fun v9=>
 (Az (fun s:List Int×Int=>Fo v9 s.1 s.2) (q1,0)).bind fun v10=>
 some ((Arena.mk v9.2),v10))
def HB (xS:Store) (x1:Vol) (a:Int):Option ((Int)⊕((Unit)⊕((Int)⊕((Unit)⊕(Bool))))):=
 bif(decide (a<16))then((LP xS.Arena x1.Root a).bind fun v6=>
 bif(decide (v6>=xS.Next))then(some (.inr (.inr (.inr (.inr false)))))
 else(some (.inl (ad a 1))))
 else(some (.inr (.inl ())))
def HC (xS:Store) (a:Int):Option ((Int)⊕((Unit)⊕(Bool))):=
 bif(decide (a<(ln xS.Vols)))then((gi xS.Vols a).bind fun x1=>
 ((BK x1.Id 1 9).bind fun v3=>
 bif(!v3)then(some true)
 else(bif(decide (a>0))then((gi xS.Vols (sb a 1)).bind fun x2=>
 bif(decide (x2.Id>=x1.Id))then(some true)
 else((GB xS.Arena x1.Root).bind fun v4=>
 some (!v4)))
 else((GB xS.Arena x1.Root).bind fun v5=>
 some (!v5))):Option (Bool)).bind fun j2=>
 bif j2 then(some (.inr (.inr false)))
 else((Az (fun s:Int=>HB xS x1 s) 0).bind (Sum.elim (fun v7=>(some (.inl (ad a 1)))) some)))
 else(some (.inr (.inl ())))
def Ng (xS:Store):Option (Bool):=
 (bif(decide ((ln xS.Vols)>3))then(some true)
 else((Ga xS.Arena).bind fun v1=>
 bif(!v1)then(some true)
 else((BK xS.Next 1 1000000000).bind fun v2=>
 some (!v2))):Option (Bool)).bind fun j1=>
 bif j1 then(some false)
 else((Az (fun s:Int=>HC xS s) 0).bind (Sum.elim (fun v8=>(((LO xS).bind fun v9=>
 (Je xS.Arena v9).bind fun v10=>
 some v10.1.Knots:Option (List BR)).bind fun j3=>
 some ((ln j3)==(ln xS.Arena.Knots)))) some))
def FH (xS:Store) (b:Int) (a:Int):Option ((Int)⊕((Unit)⊕(Int))):=
 bif(decide (a<(ln xS.Vols)))then((gi xS.Vols a).bind fun x1=>
 bif(x1.Id==b)then(some (.inr (.inr a)))
 else(some (.inl (ad a 1))))
 else(some (.inr (.inl ())))
def Es (xS:Store) (a:Int):Option (Int):=
 (Az (fun s:Int=>FH xS a s) 0).bind (Sum.elim (fun v1=>(some (-1))) some)
def Kz (xS:Store) (xR:CD) (a:List Vol) (b:Int):Option ((List Vol×Int)⊕(List Vol)):=
 bif(decide (b<(ln xS.Vols)))then((gi xS.Vols b).bind fun x2=>
 bif(decide (x2.Id<xR.Vol))then((gi xS.Vols b).bind fun x3=>
 (ap 16 a [x3]).bind fun q1=>
 some (.inl (q1,(ad b 1))))
 else(some (.inl (a,(ad b 1)))))
 else(some (.inr a))
def Ky (xS:Store) (xR:CD) (a:List Vol) (b:Int):Option ((List Vol×Int)⊕(List Vol)):=
 bif(decide (b<(ln xS.Vols)))then((gi xS.Vols b).bind fun x4=>
 bif(decide (x4.Id>xR.Vol))then((gi xS.Vols b).bind fun x5=>
 (ap 16 a [x5]).bind fun q3=>
 some (.inl (q3,(ad b 1))))
 else(some (.inl (a,(ad b 1)))))
 else(some (.inr a))
def LN (xS:Store) (xR:CD):Option (Store×Bool):=
 (bif(decide (xR.Arg>0))then((Es xS xR.Arg).bind fun v1=>
 bif(decide (v1<0))then((Er xS).bind fun v2=>
 some (.inr (v2,false)))
 else((gi xS.Vols v1).bind fun x1=>
 some (.inl x1.Root)))
 else(some (.inl (-1))):Option ((Int)⊕((Store×Bool)))).bind (Sum.elim (fun j1=>(((Es xS xR.Vol).bind fun v3=>
 bif(decide (v3>=0))then(some true)
 else(some ((ln xS.Vols)==3)):Option (Bool)).bind fun j2=>
 bif j2 then((Er xS).bind fun v4=>
 some (v4,false))
 else((Er xS).bind fun v5=>
 (Az (fun s:List Vol×Int=>Kz xS xR s.1 s.2) ([],0)).bind fun v6=>
 (ap 16 v6 [(Vol.mk xR.Vol j1)]).bind fun q2=>
 (Az (fun s:List Vol×Int=>Ky xS xR s.1 s.2) (q2,0)).bind fun v7=>
 some ((Store.mk v7 v5.Arena v5.Next),true)))) some)
def HX (j1:List Int×List BR) (b:Int) (a:List Vol):Option ((Int×List Vol)⊕(List Vol)):=
 bif(decide (b<(ln a)))then((gi j1.1 b).bind fun x1=>
 (gi a b).bind fun x2=>
 some (.inl ((ad b 1),(si a b (Vol.mk x2.Id x1)))))
 else(some (.inr a))
def Gr (xS:Store):Option (Store):=
 ((LO xS).bind fun v1=>
 (Je xS.Arena v1).bind fun v2=>
 some (v2.2,v2.1.Knots):Option (List Int×List BR)).bind fun j1=>
 ((ap 16 [] xS.Vols).bind fun q1=>
 some q1:Option (List Vol)).bind fun j2=>
 (Az (fun s:Int×List Vol=>HX j1 s.1 s.2) (0,j2)).bind fun v6=>
 some (Store.mk v6 (Arena.mk j1.2) xS.Next)
def UP (xA:Arena) (b:Int) (a:Int) (xN:Int):Option (Arena×Int):=
 (L5 xA).bind fun v1=>
 ((Ga xA).bind fun v2=>
 bif(!v2)then(some true)
 else((GB xA b).bind fun v3=>
 bif(!v3)then(some true)
 else((BK a 0 15).bind fun v4=>
 bif(!v4)then(some true)
 else(some (decide (xN<0))))):Option (Bool)).bind fun j1=>
 bif j1 then(some (v1,b))
 else((mk 8 0 4).bind fun q1=>
 (bif(decide (b>=0))then((gi xA.Knots b).bind fun x1=>
 (ap 8 [] x1.Kids).bind fun q2=>
 (gi q2 (qu a 4)).bind fun x2=>
 bif(decide (x2>=0))then((gi xA.Knots x2).bind fun x3=>
 (ap 8 [] x3.Kids).bind fun q3=>
 some (q3,q2))
 else(some (q1,q2)))
 else(some (q1,[(-1),(-1),(-1),(-1)])):Option (List Int×List Int)).bind fun j2=>
 (gi j2.1 (Int.tmod a 4)).bind fun x4=>
 (gi j2.2 (qu a 4)).bind fun x5=>
 (ap 32 v1.Knots [(BR.mk true (si j2.1 (Int.tmod a 4) xN)),(BR.mk false (si j2.2 (qu a 4) (ln v1.Knots)))]).bind fun q4=>
 some ((Arena.mk q4),(sb (ln q4) 1)))
def UQ (xS:Store) (xR:CD):Option (Store×Bool):=
 ((Ng xS).bind fun v1=>
 bif(!v1)then(some true)
 else((PQ xR).bind fun v2=>
 some (!v2)):Option (Bool)).bind fun j1=>
 bif j1 then((Er xS).bind fun v3=>
 some (v3,false))
 else(bif(xR.Kind==1)then((bif(xR.Arg==0)then(some 1)
 else(some xR.Arg):Option (Int)).bind fun j2=>
 some ((Store.mk [] (Arena.mk []) j2),true))
 else(bif(xR.Kind==2)then((LN xS xR).bind fun v4=>
 some (v4.1,v4.2))
 else((Es xS xR.Vol).bind fun v5=>
 (bif(decide (v5<0))then(some true)
 else(some (xR.Chunk==1000000000)):Option (Bool)).bind fun j3=>
 bif j3 then((Er xS).bind fun v6=>
 some (v6,false))
 else((Er xS).bind fun v7=>
 bif(xR.Kind==3)then((dr xS.Vols 0 v5).bind fun x1=>
 (dr xS.Vols (ad v5 1) (ln xS.Vols)).bind fun x2=>
 (ap 16 [] x1).bind fun q1=>
 (ap 16 q1 x2).bind fun q2=>
 (Gr (Store.mk q2 v7.Arena v7.Next)).bind fun v8=>
 some (v8,true))
 else(((gi xS.Vols v5).bind fun x3=>
 (UP xS.Arena x3.Root xR.Arg xR.Chunk).bind fun v9=>
 some (v9.2,v9.1.Knots):Option (Int×List BR)).bind fun j4=>
 (gi v7.Vols v5).bind fun x4=>
 bif(decide (xR.Chunk>=v7.Next))then((Gr (Store.mk (si v7.Vols v5 (Vol.mk x4.Id j4.1)) (Arena.mk j4.2) (ad xR.Chunk 1))).bind fun v11=>
 some (v11,true))
 else((Gr (Store.mk (si v7.Vols v5 (Vol.mk x4.Id j4.1)) (Arena.mk j4.2) v7.Next)).bind fun v12=>
 some (v12,true)))))))
def GG (xS:Store) (d:List CD) (e:Int) (a:List Vol) (b:List BR) (c:Int):Option ((Int×List Vol×List BR×Int)⊕((List Vol×List BR×Int)⊕((Store×Bool)))):=
 bif(decide (e<(ln d)))then(((gi d e).bind fun x1=>
 (UQ (Store.mk a (Arena.mk b) c) x1).bind fun v2=>
 some (v2.2,v2.1.Vols,v2.1.Arena.Knots,v2.1.Next):Option (Bool×List Vol×List BR×Int)).bind fun j1=>
 bif(!j1.1)then((Er xS).bind fun v4=>
 some (.inr (.inr (v4,false))))
 else(some (.inl ((ad e 1),j1.2.1,j1.2.2.1,j1.2.2.2))))
 else(some (.inr (.inl (a,b,c))))
def JP (xS:Store) (a:List CD):Option (Store×Bool):=
 (Er xS).bind fun v1=>
 (Az (fun s:Int×List Vol×List BR×Int=>GG xS a s.1 s.2.1 s.2.2.1 s.2.2.2) (0,v1.Vols,v1.Arena.Knots,v1.Next)).bind (Sum.elim (fun v5=>(some ((Store.mk v5.1 (Arena.mk v5.2.1) v5.2.2),true))) some)
def GF (v2:List Ap) (a:Int) (b:Int) (c:Int):Option ((Int×Int×Int)⊕(Int×Int)):=
 bif(decide (a<(ln v2)))then((gi v2 a).bind fun x1=>
 (bif(decide (x1.Page.Seq>=b))then((gi v2 a).bind fun x2=>
 some (ad x2.Page.Seq 1))
 else(some b):Option (Int)).bind fun j1=>
 ((gi v2 a).bind fun x3=>
 bif(x3.Page.Kind==2)then((gi v2 a).bind fun x4=>
 some (decide (x4.Page.Tx>=c)))
 else(some false):Option (Bool)).bind fun j2=>
 bif j2 then((gi v2 a).bind fun x5=>
 some (.inl ((ad a 1),j1,(ad x5.Page.Tx 1))))
 else(some (.inl ((ad a 1),j1,c))))
 else(some (.inr (b,c)))
def GE (v7:List Tx) (a:Int) (b:List Vol) (c:List BR) (d:Int) (e:Int):Option ((Int×List Vol×List BR×Int×Int)⊕(List Vol×List BR×Int×Int)):=
 bif(decide (a<(ln v7)))then((bif(a==0)then((gi v7 a).bind fun x6=>
 some x6.Num)
 else(some e):Option (Int)).bind fun j3=>
 (gi v7 a).bind fun x7=>
 (JP (Store.mk b (Arena.mk c) d) x7.Recs).bind fun v8=>
 some (.inl ((ad a 1),v8.1.Vols,v8.1.Arena.Knots,v8.1.Next,j3)))
 else(some (.inr (b,c,d,e)))
def EM (xF:Flash):Option (AF×Bool):=
 (IF xF).bind fun v1=>
 bif(!v1)then(some ((AF.mk (Flash.mk []) (Store.mk [] (Arena.mk []) 0) 0 0 0),false))
 else((FT xF).bind fun v2=>
 (H7 xF).bind fun v3=>
 (NQ).bind fun v4=>
 (Az (fun s:Int×Int×Int=>GF v2 s.1 s.2.1 s.2.2) (0,1,1)).bind fun v5=>
 (Pk v2).bind fun v6=>
 (My v6).bind fun v7=>
 (Az (fun s:Int×List Vol×List BR×Int×Int=>GE v7 s.1 s.2.1 s.2.2.1 s.2.2.2.1 s.2.2.2.2) (0,v4.Vols,v4.Arena.Knots,v4.Next,0)).bind fun v9=>
 some ((AF.mk v3 (Store.mk v9.1 (Arena.mk v9.2.1) v9.2.2.1) v5.1 v5.2 v9.2.2.2),true))
def M2 (a:Int):Option (AF×Bool):=
 (NV a).bind fun v1=>
 bif(!v1.2)then(some ((AF.mk (Flash.mk []) (Store.mk [] (Arena.mk []) 0) 0 0 0),false))
 else((EM v1.1).bind fun v2=>
 some (v2.1,v2.2))
def Ll (xC:BD) (a:List Int):Option (Int×BD):=
 (D1 xC (ln a)).bind fun v1=>
 (gi a v1.1).bind fun x1=>
 some (x1,v1.2)
def I8 (xC:BD) (xN:Int):Option (Bool×BD):=
 (D1 xC xN).bind fun v1=>
 some ((v1.1==0),v1.2)
def Nc (xC:BD) (a:List ByteArray):Option (ByteArray×BD):=
 (D1 xC (ln a)).bind fun v1=>
 (gi a v1.1).bind fun x1=>
 some (x1,v1.2)
def PJ (xC:BD):Option (ByteArray×BD):=
 (Nc xC [(bs []),(bs [97]),(bs [98,98]),(bs [97,98,99,100,97,98,99,100,97,98,99,100]),(bs [104,101,108,108,111]),(bs [104,101,108,108,111,32,104,101,108,108,111,32,104,101,108,108,111]),(bs [122,122,122,122,122,122,122,122,122,122,122,122]),(bs [113,49]),(bs [113,50]),(bs [113,51])]).bind fun v1=>
 some (v1.1,v1.2)
def Na (xC:BD) (xD:AF):Option (Mm×BD):=
 (Ll xC [1,1,1,1,1,1,2,3,4,5,6]).bind fun v1=>
 (D1 v1.2 3).bind fun v2=>
 (bif((ln xD.Store.Vols)==0)then(some (3,(ad 1 v2.1),v2.2.b_,v2.2.i_,v2.2.h_))
 else((bif(v1.1 !=3)then(bif(v1.1 !=4)then((I8 v2.2 8).bind fun v3=>
 some ((!v3.1),v3.2.b_,v3.2.i_,v3.2.h_))
 else(some (false,v2.2.b_,v2.2.i_,v2.2.h_)))
 else(some (false,v2.2.b_,v2.2.i_,v2.2.h_)):Option (Bool×List Int×Int×Int)).bind fun j2=>
 bif j2.1 then((D1 (BD.mk j2.2.1 j2.2.2.1 j2.2.2.2) (ln xD.Store.Vols)).bind fun v4=>
 (gi xD.Store.Vols v4.1).bind fun x1=>
 some (v1.1,x1.Id,v4.2.b_,v4.2.i_,v4.2.h_))
 else(some (v1.1,(ad 1 v2.1),j2.2.1,j2.2.2.1,j2.2.2.2))):Option (Int×Int×List Int×Int×Int)).bind fun j1=>
 (bif(j1.1==5)then((I8 (BD.mk j1.2.2.1 j1.2.2.2.1 j1.2.2.2.2) 3).bind fun v8=>
 some ((!v8.1),v8.2.b_,v8.2.i_,v8.2.h_))
 else(some (false,j1.2.2.1,j1.2.2.2.1,j1.2.2.2.2)):Option (Bool×List Int×Int×Int)).bind fun j3=>
 (bif j3.1 then(some 1)
 else(some j1.1):Option (Int)).bind fun j4=>
 (bif(j4==1)then((PJ (BD.mk j3.2.1 j3.2.2.1 j3.2.2.2)).bind fun v9=>
 (D1 v9.2 16).bind fun v10=>
 some (v10.1,0,v9.1,v10.2.b_,v10.2.i_,v10.2.h_))
 else((bif(j4==2)then(some (j4==2))
 else(some (j4==6)):Option (Bool)).bind fun j6=>
 bif j6 then((D1 (BD.mk j3.2.1 j3.2.2.1 j3.2.2.2) 16).bind fun v11=>
 some (v11.1,0,(bs []),v11.2.b_,v11.2.i_,v11.2.h_))
 else(bif(j4==4)then((D1 (BD.mk j3.2.1 j3.2.2.1 j3.2.2.2) 3).bind fun v12=>
 bif(decide ((ln xD.Store.Vols)>0))then((gi xD.Store.Vols 0).bind fun x5=>
 some (0,x5.Id,(bs []),v12.2.b_,v12.2.i_,v12.2.h_))
 else(some (0,(ad 1 v12.1),(bs []),v12.2.b_,v12.2.i_,v12.2.h_)))
 else(some (0,0,(bs []),j3.2.1,j3.2.2.1,j3.2.2.2)))):Option (Int×Int×ByteArray×List Int×Int×Int)).bind fun j5=>
 some ((Mm.mk j4 j1.2.1 j5.1 j5.2.1 j5.2.2.1),(BD.mk j5.2.2.2.1 j5.2.2.2.2.1 j5.2.2.2.2.2))
def Nb (xD:AF):Option (AF):=
 (H7 xD.Flash).bind fun v1=>
 (Er xD.Store).bind fun v2=>
 some (AF.mk v1 v2 xD.Seq xD.Tx xD.Base)
def NU (xA:Arena) (b:Int) (a:Int):Option (Int):=
 ((Ga xA).bind fun v1=>
 bif(!v1)then(some true)
 else((GB xA b).bind fun v2=>
 bif(!v2)then(some true)
 else((BK a 0 15).bind fun v3=>
 some (!v3))):Option (Bool)).bind fun j1=>
 bif j1 then(some 0)
 else((LP xA b a).bind fun v4=>
 some v4)
def Gs (xA:Arena) (b:Int) (a:List Int) (c:Int):Option ((List Int×Int)⊕(List Int)):=
 bif(decide (c<16))then((NU xA b c).bind fun v1=>
 (ap 8 a [v1]).bind fun q1=>
 some (.inl (q1,(ad c 1))))
 else(some (.inr a))
def Ip (xA:Arena) (a:Int):Option (List Int):=
 (Az (fun s:List Int×Int=>Gs xA a s.1 s.2) ([],0)).bind fun v2=>
 some v2
def FO (xA:List Int) (xB:List Int) (a:Int):Option ((Int)⊕((Unit)⊕(Bool))):=
 bif(decide (a<(ln xA)))then((gi xA a).bind fun x1=>
 (gi xB a).bind fun x2=>
 bif(x1 !=x2)then(some (.inr (.inr false)))
 else(some (.inl (ad a 1))))
 else(some (.inr (.inl ())))
def Kp (xA:List Int) (xB:List Int):Option (Bool):=
 bif((ln xA) !=(ln xB))then(some false)
 else((Az (fun s:Int=>FO xA xB s) 0).bind (Sum.elim (fun v1=>(some true)) some))
def Hr (xA:Store) (xB:Store) (a:Int):Option ((Int)⊕((Unit)⊕(Bool))):=
 bif(decide (a<(ln xA.Vols)))then((gi xA.Vols a).bind fun x1=>
 (gi xB.Vols a).bind fun x2=>
 bif(x1.Id !=x2.Id)then(some (.inr (.inr false)))
 else((gi xA.Vols a).bind fun x3=>
 (gi xB.Vols a).bind fun x4=>
 (Ip xA.Arena x3.Root).bind fun v1=>
 (Ip xB.Arena x4.Root).bind fun v2=>
 (Kp v1 v2).bind fun v3=>
 bif(!v3)then(some (.inr (.inr false)))
 else(some (.inl (ad a 1)))))
 else(some (.inr (.inl ())))
def Mz (xA:Store) (xB:Store):Option (Bool):=
 (bif((ln xA.Vols) !=(ln xB.Vols))then(some true)
 else(some (xA.Next !=xB.Next)):Option (Bool)).bind fun j1=>
 bif j1 then(some false)
 else((Az (fun s:Int=>Hr xA xB s) 0).bind (Sum.elim (fun v4=>(some true)) some))
def NW (xD:AF):Option (Bool):=
 (EM xD.Flash).bind fun v1=>
 bif v1.2 then((Mz v1.1.Store xD.Store).bind fun v2=>
 bif v2 then(bif(v1.1.Seq==xD.Seq)then(bif(v1.1.Tx==xD.Tx)then(bif(v1.1.Base==xD.Base)then((Ng xD.Store).bind fun v3=>
 some v3)
 else(some false))
 else(some false))
 else(some false))
 else(some false))
 else(some false)
def Hm (a:List Int) (xX:Int) (b:List Int) (c:Int):Option ((List Int×Int)⊕(List Int)):=
 bif(decide (c<(ln a)))then((gi a c).bind fun x1=>
 bif(decide (x1<xX))then((gi a c).bind fun x2=>
 (ap 8 b [x2]).bind fun q1=>
 some (.inl (q1,(ad c 1))))
 else(some (.inl (b,(ad c 1)))))
 else(some (.inr b))
def FP (a:List Int) (xX:Int) (b:List Int) (c:Int):Option ((List Int×Int)⊕(List Int)):=
 bif(decide (c<(ln a)))then((gi a c).bind fun x3=>
 bif(decide (x3>xX))then((gi a c).bind fun x4=>
 (ap 8 b [x4]).bind fun q3=>
 some (.inl (q3,(ad c 1))))
 else(some (.inl (b,(ad c 1)))))
 else(some (.inr b))
def Mw (a:List Int) (xX:Int):Option (List Int):=
 (Az (fun s:List Int×Int=>Hm a xX s.1 s.2) ([],0)).bind fun v1=>
 (bif(decide (xX>0))then((ap 8 v1 [xX]).bind fun q2=>
 some q2)
 else(some v1):Option (List Int)).bind fun j1=>
 (Az (fun s:List Int×Int=>FP a xX s.1 s.2) (j1,0)).bind fun v2=>
 some v2
def K5 (v1:List Int) (a:List Int) (b:Int):Option ((List Int×Int)⊕(List Int)):=
 bif(decide (b<(ln v1)))then((gi v1 b).bind fun x2=>
 (Mw a x2).bind fun v2=>
 some (.inl (v2,(ad b 1))))
 else(some (.inr a))
def K6 (xS:Store) (a:List Int) (b:Int):Option ((List Int×Int)⊕(List Int)):=
 bif(decide (b<(ln xS.Vols)))then((gi xS.Vols b).bind fun x1=>
 (Ip xS.Arena x1.Root).bind fun v1=>
 (Az (fun s:List Int×Int=>K5 v1 s.1 s.2) (a,0)).bind fun v3=>
 some (.inl (v3,(ad b 1))))
 else(some (.inr a))
def Jm (xS:Store):Option (List Int):=
 (Az (fun s:List Int×Int=>K6 xS s.1 s.2) ([],0)).bind fun v4=>
 some v4
def Hi (a:List Ap) (c:Int) (b:Int):Option ((Int)⊕((Unit)⊕((Ap×Bool)))):=
 bif(decide (b>=0))then(((gi a b).bind fun x1=>
 bif(x1.Page.Kind==1)then((gi a b).bind fun x2=>
 some (x2.Page.Tx==c))
 else(some false):Option (Bool)).bind fun j1=>
 bif j1 then((gi a b).bind fun x3=>
 some (.inr (.inr (x3,true))))
 else(some (.inl (sb b 1))))
 else(some (.inr (.inl ())))
def Kw (a:List Ap) (b:Int):Option (Ap×Bool):=
 (Az (fun s:Int=>Hi a b s) (sb (ln a) 1)).bind (Sum.elim (fun v1=>(some ((Ap.mk 0 0 (Page.mk 0 0 0 0 0 (bs []))),false))) some)
def BV (xT:ByteArray) (b:List AK) (a:Int):Option ((List AK×Int)⊕((List AK)⊕((List AK×Bool)))):=
 bif(decide (a<(FE xT)))then((sx xT a).bind fun x1=>
 bif(decide ((IntKind.i64.wrap x1)>128))then(bif(decide ((ad a 2)>(FE xT)))then(some (.inr (.inr (b,false))))
 else((sx xT (ad a 1)).bind fun x2=>
 (ap 32 b [(AK.mk (IntKind.i64.wrap x2) (sb (IntKind.i64.wrap x1) 128) (bs []))]).bind fun q1=>
 some (.inl (q1,(ad a 2)))))
 else(bif(decide ((ad (ad a 1) (IntKind.i64.wrap x1))>(FE xT)))then(some (.inr (.inr (b,false))))
 else((sub xT (ad a 1) (ad (ad a 1) (IntKind.i64.wrap x1))).bind fun x3=>
 (ap 32 b [(AK.mk 0 0 x3)]).bind fun q2=>
 some (.inl (q2,(ad (ad a 1) (IntKind.i64.wrap x1)))))))
 else(some (.inr (.inl b)))
def I7 (xT:ByteArray):Option (List AK×Bool):=
 (Az (fun s:List AK×Int=>BV xT s.1 s.2) ([],0)).bind (Sum.elim (fun v1=>(some (v1,true))) some)
def DE (x1:AK) (a:List Int) (b:Int):Option ((List Int×Int)⊕(List Int)):=
 bif(decide (b<x1.Size))then((gi a (sb (ln a) x1.Back)).bind fun x2=>
 (ap 1 a [x2]).bind fun q2=>
 some (.inl (q2,(ad b 1))))
 else(some (.inr a))
def DF (b:List AK) (a:List Int) (c:Int):Option ((List Int×Int)⊕((List Int)⊕((ByteArray×Bool)))):=
 bif(decide (c<(ln b)))then((gi b c).bind fun x1=>
 (bif(x1.Back==0)then(((BK (FE x1.Text) 1 31).bind fun v1=>
 bif(!v1)then(some true)
 else(some (x1.Size !=0)):Option (Bool)).bind fun j2=>
 bif j2 then(some (.inr (.inr (.inr ((bs []),false)))))
 else((ap 1 a (o9 x1.Text)).bind fun q1=>
 some (.inl q1)))
 else(((BK x1.Back 1 (ln a)).bind fun v2=>
 bif(!v2)then(some true)
 else((BK x1.Size 1 31).bind fun v3=>
 bif(!v3)then(some true)
 else(some (!(seq x1.Text (bs []))))):Option (Bool)).bind fun j3=>
 bif j3 then(some (.inr (.inr (.inr ((bs []),false)))))
 else((Az (fun s:List Int×Int=>DE x1 s.1 s.2) (a,0)).bind fun v4=>
 some (.inl v4))):Option ((List Int)⊕((List Int×Int)⊕((List Int)⊕((ByteArray×Bool)))))).bind (Sum.elim (fun j1=>(bif(decide ((ln j1)>64))then(some (.inr (.inr ((bs []),false))))
 else(some (.inl (j1,(ad c 1)))))) some))
 else(some (.inr (.inl a)))
def Fu (a:List AK):Option (ByteArray×Bool):=
 (Az (fun s:List Int×Int=>DF a s.1 s.2) ([],0)).bind (Sum.elim (fun v5=>(some ((GV v5),true))) some)
def GC (xS:ByteArray) (b:Int) (c:Int) (a:Int):Option ((Int)⊕(Int)):=
 (bif(decide (a<31))then(bif(decide ((ad c a)<(FE xS)))then((sx xS (ad b a)).bind fun x1=>
 (sx xS (ad c a)).bind fun x2=>
 some (x1==x2))
 else(some false))
 else(some false):Option (Bool)).bind fun j1=>
 bif j1 then(some (.inl (ad a 1)))
 else(some (.inr a))
def LQ (xS:ByteArray) (a:Int) (b:Int):Option (Int):=
 (Az (fun s:Int=>GC xS a b s) 0).bind fun v1=>
 some v1
def Eb (xS:ByteArray) (d:Int) (b:Int) (c:Int) (a:Int):Option ((Int×Int×Int)⊕(Int×Int)):=
 bif(decide (a>=0))then((LQ xS a d).bind fun v1=>
 (bif(decide (v1>=4))then(some (decide (v1>b)))
 else(some false):Option (Bool)).bind fun j1=>
 bif j1 then(some (.inl (v1,(sb d a),(sb a 1))))
 else(some (.inl (b,c,(sb a 1)))))
 else(some (.inr (b,c)))
def Ck (xS:ByteArray) (a:List AK) (b:Int):Option ((List AK×Int)⊕(List AK)):=
 bif(decide (b<(FE xS)))then((Az (fun s:Int×Int×Int=>Eb xS b s.1 s.2.1 s.2.2) (0,0,(sb b 1))).bind fun v2=>
 bif(decide (v2.1>0))then((ap 32 a [(AK.mk v2.2 v2.1 (bs []))]).bind fun q1=>
 some (.inl (q1,(ad b v2.1))))
 else((bif(decide ((sb (ln a) 1)>=0))then((gi a (sb (ln a) 1)).bind fun x1=>
 bif(x1.Back==0)then((gi a (sb (ln a) 1)).bind fun x2=>
 some (decide ((FE x2.Text)<31)))
 else(some false))
 else(some false):Option (Bool)).bind fun j2=>
 bif j2 then((gi a (sb (ln a) 1)).bind fun x3=>
 (sub xS b (ad b 1)).bind fun x4=>
 (Td x3.Text x4).bind fun x5=>
 (gi a (sb (ln a) 1)).bind fun x6=>
 some (.inl ((si a (sb (ln a) 1) (AK.mk x6.Back x6.Size x5)),(ad b 1))))
 else((sub xS b (ad b 1)).bind fun x7=>
 (ap 32 a [(AK.mk 0 0 x7)]).bind fun q2=>
 some (.inl (q2,(ad b 1))))))
 else(some (.inr a))
def JM (xS:ByteArray):Option (List AK):=
 bif(decide ((FE xS)>64))then(some [])
 else((Az (fun s:List AK×Int=>Ck xS s.1 s.2) ([],0)).bind fun v3=>
 some v3)
def Ee (v1:List AK) (b:ByteArray) (a:Int):Option ((ByteArray×Int)⊕(ByteArray)):=
 bif(decide (a<(ln v1)))then((gi v1 a).bind fun x1=>
 bif(x1.Back==0)then((Td b (GV [(IntKind.u8.wrap (FE x1.Text))])).bind fun x2=>
 (Td x2 x1.Text).bind fun x3=>
 some (.inl (x3,(ad a 1))))
 else((Td b (GV [(IntKind.u8.wrap (ad 128 x1.Size)),(IntKind.u8.wrap x1.Back)])).bind fun x4=>
 some (.inl (x4,(ad a 1)))))
 else(some (.inr b))
def Ew (xS:ByteArray):Option (ByteArray×Bool):=
 bif(decide ((FE xS)>64))then(some ((bs []),false))
 else((JM xS).bind fun v1=>
 (Az (fun s:ByteArray×Int=>Ee v1 s.1 s.2) ((bs [122]),0)).bind fun v2=>
 bif(decide ((ad (FE xS) 1)<=(FE v2)))then((Td (bs [114]) xS).bind fun x5=>
 some (x5,true))
 else(some (v2,true)))
def Fz (xT:ByteArray):Option (ByteArray×Bool):=
 bif((FE xT)==0)then(some ((bs []),false))
 else((sub xT 1 (FE xT)).bind fun x1=>
 (sx xT 0).bind fun x2=>
 (bif(x2==122)then((sub xT 1 (FE xT)).bind fun x3=>
 (I7 x3).bind fun v1=>
 (Fu v1.1).bind fun v2=>
 bif(!v1.2)then(some (.inr ((bs []),false)))
 else(bif(!v2.2)then(some (.inr ((bs []),false)))
 else(some (.inl v2.1))))
 else(some (.inl x1)):Option ((ByteArray)⊕((ByteArray×Bool)))).bind (Sum.elim (fun j1=>((Ew j1).bind fun v3=>
 (bif(!v3.2)then(some true)
 else(some (!(seq v3.1 xT))):Option (Bool)).bind fun j2=>
 bif j2 then(some ((bs []),false))
 else(some (j1,true)))) some))
def JH (b:List Ap) (a:Int):Option (ByteArray×Bool):=
 (Kw b a).bind fun v1=>
 bif(!v1.2)then(some ((bs []),false))
 else((Fz v1.1.Page.Text).bind fun v2=>
 some (v2.1,v2.2))
def Ea (c:List Ap) (a:List Int) (d:ByteArray) (b:Int):Option ((Int)⊕((Unit)⊕(Int))):=
 bif(decide (b<(ln a)))then((gi a b).bind fun x1=>
 (JH c x1).bind fun v1=>
 (bif v1.2 then(some (seq v1.1 d))
 else(some false):Option (Bool)).bind fun j1=>
 bif j1 then((gi a b).bind fun x2=>
 some (.inr (.inr x2)))
 else(some (.inl (ad b 1))))
 else(some (.inr (.inl ())))
def PK (a:List Ap) (b:List Int) (c:ByteArray):Option (Int):=
 (Az (fun s:Int=>Ea a b c s) 0).bind (Sum.elim (fun v2=>(some 0)) some)
def JO (xF:Flash) (a:List Int) (b:ByteArray):Option (Int):=
 (FT xF).bind fun v1=>
 (PK v1 a b).bind fun v2=>
 some v2
def FU (xD:AF) (xQ:Mm):Option (List CD×ByteArray×Int):=
 (HF xQ).bind fun v1=>
 bif(!v1)then(some ([],(bs []),3))
 else((Es xD.Store xQ.Vol).bind fun v2=>
 (bif(xQ.Kind==3)then(some true)
 else(some (xQ.Kind==4)):Option (Bool)).bind fun j1=>
 bif j1 then(bif(decide (v2>=0))then(some ([],(bs []),2))
 else((bif(xQ.Kind==4)then((Es xD.Store xQ.Of).bind fun v3=>
 some (decide (v3<0)))
 else(some false):Option (Bool)).bind fun j2=>
 bif j2 then(some ([],(bs []),1))
 else(bif(decide ((ln xD.Store.Vols)>=3))then(some ([],(bs []),4))
 else(some ([(CD.mk 2 xQ.Vol xQ.Of 0)],(bs []),0)))))
 else(bif(!(decide (v2>=0)))then(some ([],(bs []),1))
 else(bif(xQ.Kind==1)then((Jm xD.Store).bind fun v4=>
 (JO xD.Flash v4 xQ.Text).bind fun v5=>
 (bif(v5==0)then((Ew xQ.Text).bind fun v6=>
 some (xD.Store.Next,v6.1))
 else(some (v5,(bs []))):Option (Int×ByteArray)).bind fun j3=>
 some ([(CD.mk 4 xQ.Vol xQ.Sector j3.1)],j3.2,0))
 else(bif(xQ.Kind==2)then(some ([(CD.mk 5 xQ.Vol xQ.Sector 0)],(bs []),0))
 else(bif(xQ.Kind==5)then(some ([(CD.mk 3 xQ.Vol 0 0)],(bs []),0))
 else(some ([],(bs []),0)))))))
def Nk (xS:Store) (b:Int) (a:Int):Option (Int):=
 (Es xS b).bind fun v1=>
 bif(decide (v1<0))then(some 0)
 else((gi xS.Vols v1).bind fun x1=>
 (NU xS.Arena x1.Root a).bind fun v2=>
 some v2)
def L4 (c:List Ap) (xS:Store) (b:Int) (a:Int):Option (ByteArray×Bool):=
 (Es xS b).bind fun v1=>
 bif(decide (v1<0))then(some ((bs []),false))
 else((Nk xS b a).bind fun v2=>
 bif(v2==0)then(some ((bs []),true))
 else((JH c v2).bind fun v3=>
 some (v3.1,v3.2)))
def Wk (xD:AF) (b:Int) (a:Int):Option (ByteArray×Bool):=
 (FT xD.Flash).bind fun v1=>
 (L4 v1 xD.Store b a).bind fun v2=>
 some (v2.1,v2.2)
def K2 (xF:Flash) (c:Int) (b:Int) (a:Int):Option ((Int×Int)⊕(Int)):=
 (gi xF.Blocks c).bind fun x1=>
 bif(decide (a<(ln x1.Leaves)))then((gi xF.Blocks c).bind fun x2=>
 bif(!x2.Bad)then((gi xF.Blocks c).bind fun x3=>
 (gi x3.Leaves a).bind fun x4=>
 bif(x4.Is==0)then(some (.inl ((ad b 1),(ad a 1))))
 else(some (.inl (b,(ad a 1)))))
 else(some (.inl (b,(ad a 1)))))
 else(some (.inr b))
def K3 (xF:Flash) (b:Int) (a:Int):Option ((Int×Int)⊕(Int)):=
 bif(decide (a<(ln xF.Blocks)))then((Az (fun s:Int×Int=>K2 xF a s.1 s.2) (b,0)).bind fun v1=>
 some (.inl (v1,(ad a 1))))
 else(some (.inr b))
def LR (xF:Flash):Option (Int):=
 (Az (fun s:Int×Int=>K3 xF s.1 s.2) (0,0)).bind fun v2=>
 some v2
def Hk (c:List Ap) (d:Int) (a:List Bool) (b:Int):Option ((List Bool×Int)⊕(List Bool)):=
 bif(decide (b<(ln c)))then((gi c b).bind fun x1=>
 bif(x1.Page.Kind==2)then((gi c b).bind fun x2=>
 (gi a b).bind fun x3=>
 some (.inl ((si a b (decide (x2.Page.Tx>=d))),(ad b 1))))
 else((gi a b).bind fun x4=>
 some (.inl ((si a b false),(ad b 1)))))
 else(some (.inr a))
def EJ (c:List Ap) (d:List Int) (e:Int) (a:List Bool) (b:Int):Option ((List Bool×Int)⊕(List Bool)):=
 bif(decide (b>=0))then(((gi c b).bind fun x5=>
 bif(x5.Page.Kind==1)then((gi c b).bind fun x6=>
 (gi d e).bind fun x7=>
 some (x6.Page.Tx==x7))
 else(some false):Option (Bool)).bind fun j1=>
 bif j1 then((gi a b).bind fun x8=>
 some (.inl ((si a b true),(sb (-1) 1))))
 else(some (.inl (a,(sb b 1)))))
 else(some (.inr a))
def Hj (a:List Ap) (b:List Int) (c:List Bool) (d:Int):Option ((List Bool×Int)⊕(List Bool)):=
 bif(decide (d<(ln b)))then((Az (fun s:List Bool×Int=>EJ a b d s.1 s.2) (c,(sb (ln a) 1))).bind fun v2=>
 some (.inl (v2,(ad d 1))))
 else(some (.inr c))
def Hl (a:List Ap) (b:List Int) (c:Int):Option (List Bool):=
 (mk 1 false (ln a)).bind fun q1=>
 (Az (fun s:List Bool×Int=>Hk a c s.1 s.2) (q1,0)).bind fun v1=>
 (Az (fun s:List Bool×Int=>Hj a b s.1 s.2) (v1,0)).bind fun v3=>
 some v3
def HW (xB:Block) (a:Int):Option ((Int)⊕((Unit)⊕(Bool))):=
 bif(decide (a<(ln xB.Leaves)))then((gi xB.Leaves a).bind fun x1=>
 bif(x1.Is !=0)then(some (.inr (.inr false)))
 else(some (.inl (ad a 1))))
 else(some (.inr (.inl ())))
def NL (xB:Block):Option (Bool):=
 (Az (fun s:Int=>HW xB s) 0).bind (Sum.elim (fun v1=>(some true)) some)
def LM (b:List Ap) (c:List Bool) (xB:Int) (d:Int) (a:Int):Option ((Int×Int)⊕(Int)):=
 bif(decide (a<(ln b)))then((gi c a).bind fun x1=>
 bif x1 then((gi b a).bind fun x2=>
 bif(x2.Block==xB)then(some (.inl ((ad d 1),(ad a 1))))
 else(some (.inl (d,(ad a 1)))))
 else(some (.inl (d,(ad a 1)))))
 else(some (.inr d))
def PL (b:List Ap) (a:List Bool) (xB:Int):Option (Int):=
 (Az (fun s:Int×Int=>LM b a xB s.1 s.2) (0,0)).bind fun v1=>
 some v1
def Fw (xD:AF) (v1:List Ap) (v3:List Bool) (a:List Int) (b:Int):Option ((List Int×Int)⊕(List Int)):=
 bif(decide (b<(ln xD.Flash.Blocks)))then((gi xD.Flash.Blocks b).bind fun x1=>
 (bif(!x1.Bad)then((NL x1).bind fun v4=>
 bif(!v4)then((PL v1 v3 b).bind fun v5=>
 some (v5==0))
 else(some false))
 else(some false):Option (Bool)).bind fun j1=>
 bif j1 then((ap 8 a [b]).bind fun q1=>
 some (.inl (q1,(ad b 1))))
 else(some (.inl (a,(ad b 1)))))
 else(some (.inr a))
def Lo (xD:AF):Option (List Int):=
 (FT xD.Flash).bind fun v1=>
 (Jm xD.Store).bind fun v2=>
 (Hl v1 v2 xD.Base).bind fun v3=>
 (Az (fun s:List Int×Int=>Fw xD v1 v3 s.1 s.2) ([],0)).bind fun v6=>
 some v6
def G9 (xD:AF) (v2:List Tx) (a:Int):Option ((Int)⊕((Unit)⊕(Bool))):=
 bif(decide (a<(ln v2)))then((gi v2 a).bind fun x1=>
 bif(x1.Num==xD.Base)then((gi v2 a).bind fun x2=>
 bif(decide ((ln x2.Recs)>0))then((gi v2 a).bind fun x3=>
 (gi x3.Recs 0).bind fun x4=>
 some (.inr (.inr (x4.Kind==1))))
 else(some (.inr (.inr false))))
 else(some (.inl (ad a 1))))
 else(some (.inr (.inl ())))
def NM (xD:AF):Option (Bool):=
 bif(xD.Base !=(sb xD.Tx 1))then(some false)
 else((FT xD.Flash).bind fun v1=>
 (Pk v1).bind fun v2=>
 (Az (fun s:Int=>G9 xD v2 s) 0).bind (Sum.elim (fun v3=>(some false)) some))
def GI (xS:Store) (c:Int) (v1:List Int) (a:List CD) (b:Int):Option ((List CD×Int)⊕(List CD)):=
 bif(decide (b<(ln v1)))then((gi v1 b).bind fun x3=>
 bif(decide (x3>0))then((gi xS.Vols c).bind fun x4=>
 (gi v1 b).bind fun x5=>
 (ap 32 a [(CD.mk 4 x4.Id b x5)]).bind fun q2=>
 some (.inl (q2,(ad b 1))))
 else(some (.inl (a,(ad b 1)))))
 else(some (.inr a))
def GJ (xS:Store) (a:List CD) (b:Int):Option ((List CD×Int)⊕(List CD)):=
 bif(decide (b<(ln xS.Vols)))then((gi xS.Vols b).bind fun x1=>
 (ap 32 a [(CD.mk 2 x1.Id 0 0)]).bind fun q1=>
 (gi xS.Vols b).bind fun x2=>
 (Ip xS.Arena x2.Root).bind fun v1=>
 (Az (fun s:List CD×Int=>GI xS b v1 s.1 s.2) (q1,0)).bind fun v2=>
 some (.inl (v2,(ad b 1))))
 else(some (.inr a))
def NY (xS:Store):Option (List CD):=
 (Az (fun s:List CD×Int=>GJ xS s.1 s.2) ([(CD.mk 1 0 xS.Next 0)],0)).bind fun v3=>
 some v3
def FV (xF:Flash) (d:Int) (b:Int) (c:Int) (a:Int):Option ((Int×Int×Int)⊕(Int×Int)):=
 (gi xF.Blocks d).bind fun x1=>
 bif(decide (a<(ln x1.Leaves)))then((gi xF.Blocks d).bind fun x2=>
 (gi x2.Leaves a).bind fun x3=>
 bif(x3.Is==0)then(some (.inl ((ad b 1),c,(ad a 1))))
 else(some (.inl (b,(ad c 1),(ad a 1)))))
 else(some (.inr (b,c)))
def FW (xF:Flash) (a:Int):Option ((Int)⊕((Unit)⊕(Int))):=
 bif(decide (a<(ln xF.Blocks)))then((Az (fun s:Int×Int×Int=>FV xF a s.1 s.2.1 s.2.2) (0,0,0)).bind fun v1=>
 ((gi xF.Blocks a).bind fun x4=>
 bif(!x4.Bad)then(bif(decide (v1.1>0))then(some (decide (v1.2>0)))
 else(some false))
 else(some false):Option (Bool)).bind fun j1=>
 bif j1 then(some (.inr (.inr a)))
 else(some (.inl (ad a 1))))
 else(some (.inr (.inl ())))
def M0 (xF:Flash):Option (Int):=
 (Az (fun s:Int=>FW xF s) 0).bind (Sum.elim (fun v2=>(some (-1))) some)
def Fv (xF:Flash) (c:Int) (a:Bool) (b:Int):Option ((Bool×Int)⊕(Bool)):=
 (gi xF.Blocks c).bind fun x2=>
 bif(decide (b<(ln x2.Leaves)))then(bif a then((gi xF.Blocks c).bind fun x3=>
 (gi x3.Leaves b).bind fun x4=>
 some (.inl ((x4.Is==0),(ad b 1))))
 else(some (.inl (false,(ad b 1)))))
 else(some (.inr a))
def G3 (xF:Flash) (a:List Int) (b:Int):Option ((List Int×Int)⊕(List Int)):=
 bif(decide (b<(ln xF.Blocks)))then((gi xF.Blocks b).bind fun x1=>
 (Az (fun s:Bool×Int=>Fv xF b s.1 s.2) ((!x1.Bad),0)).bind fun v1=>
 bif v1 then((ap 8 a [b]).bind fun q1=>
 some (.inl (q1,(ad b 1))))
 else(some (.inl (a,(ad b 1)))))
 else(some (.inr a))
def Lm (xF:Flash):Option (List Int):=
 (Az (fun s:List Int×Int=>G3 xF s.1 s.2) ([],0)).bind fun v2=>
 some v2
def Jk (xF:Flash) (v4:List Int) (a:Int) (b:Int):Option ((Int×Int)⊕(Int)):=
 bif(decide (b<(ln v4)))then((gi v4 b).bind fun x3=>
 (gi xF.Blocks x3).bind fun x4=>
 (gi xF.Blocks a).bind fun x5=>
 bif(decide (x4.Wear<x5.Wear))then((gi v4 b).bind fun x6=>
 some (.inl (x6,(ad b 1))))
 else(some (.inl (a,(ad b 1)))))
 else(some (.inr a))
def Ni (xF:Flash):Option (Int×Int×Bool):=
 (IF xF).bind fun v1=>
 bif(!v1)then(some (0,0,false))
 else((M0 xF).bind fun v2=>
 bif(decide (v2>=0))then((gi xF.Blocks v2).bind fun x1=>
 (IC x1).bind fun v3=>
 some (v2,v3,true))
 else((Lm xF).bind fun v4=>
 bif((ln v4)==0)then(some (0,0,false))
 else((gi v4 0).bind fun x2=>
 (Az (fun s:Int×Int=>Jk xF v4 s.1 s.2) (x2,1)).bind fun v5=>
 some (v5,0,true))))
def Hh (xF:Flash) (a:List BE) (xP:Page):Option (Flash×List BE×Bool):=
 (EL xP).bind fun v1=>
 (Ni xF).bind fun v2=>
 (bif(!v1.2)then(some true)
 else(some (!v2.2.2)):Option (Bool)).bind fun j1=>
 bif j1 then(some (xF,a,false))
 else((Nj xF (BE.mk 1 v2.1 v2.2.1 v1.1)).bind fun v3=>
 ((ap 40 a [(BE.mk 1 v2.1 v2.2.1 v1.1)]).bind fun q1=>
 some q1:Option (List BE)).bind fun j2=>
 some (v3.1,j2,v3.2))
def PO (xR:CD):Option (ByteArray×Bool):=
 (PQ xR).bind fun v1=>
 bif(!v1)then(some ((bs []),false))
 else((L6 (ad (ml 16 xR.Kind) xR.Vol)).bind fun v2=>
 (HY xR.Arg).bind fun v3=>
 (Td v2 v3).bind fun x1=>
 (HY xR.Chunk).bind fun v4=>
 (Td x1 v4).bind fun x2=>
 some (x2,true))
def H9 (b:List CD) (a:List ByteArray) (c:Int):Option ((List ByteArray×Int)⊕((List ByteArray)⊕((List Page×Bool)))):=
 bif(decide (c<(ln b)))then((gi b c).bind fun x1=>
 (PO x1).bind fun v1=>
 bif(!v1.2)then(some (.inr (.inr ([],false))))
 else((gi a (sb (ln a) 1)).bind fun x2=>
 bif(decide ((ad (FE x2) (FE v1.1))>90))then((ap 16 a [v1.1]).bind fun q1=>
 some (.inl (q1,(ad c 1))))
 else((gi a (sb (ln a) 1)).bind fun x3=>
 (Td x3 v1.1).bind fun x4=>
 (gi a (sb (ln a) 1)).bind fun x5=>
 some (.inl ((si a (sb (ln a) 1) x4),(ad c 1))))))
 else(some (.inr (.inl a)))
def H8 (c:Int) (d:Int) (v2:List ByteArray) (a:List Page) (b:Int):Option ((List Page×Int)⊕(List Page)):=
 bif(decide (b<(ln v2)))then((gi v2 b).bind fun x6=>
 (ap 56 a [(Page.mk 2 (ad c b) d b (ln v2) x6)]).bind fun q2=>
 some (.inl (q2,(ad b 1))))
 else(some (.inr a))
def Nf (a:Int) (c:Int) (b:List CD):Option (List Page×Bool):=
 (Az (fun s:List ByteArray×Int=>H9 b s.1 s.2) ([(bs [])],0)).bind (Sum.elim (fun v2=>((bif(decide ((ln v2)>9))then(some true)
 else((BK a 1 (ad (sb 1000000000 (ln v2)) 1)).bind fun v3=>
 bif(!v3)then(some true)
 else((BK c 1 1000000000).bind fun v4=>
 some (!v4))):Option (Bool)).bind fun j1=>
 bif j1 then(some ([],false))
 else((Az (fun s:List Page×Int=>H8 a c v2 s.1 s.2) ([],0)).bind fun v5=>
 some (v5,true)))) some)
def Fl (v2:List Page×Bool) (a:List BE) (b:Bool) (c:Int) (d:List Block):Option ((List BE×Bool×Int×List Block)⊕(List BE×Bool)):=
 (bif(decide (c<(ln v2.1)))then(some b)
 else(some false):Option (Bool)).bind fun j3=>
 bif j3 then(((gi v2.1 c).bind fun x2=>
 (Hh (Flash.mk d) a x2).bind fun v3=>
 some (v3.2.1,v3.2.2,v3.1.Blocks):Option (List BE×Bool×List Block)).bind fun j4=>
 some (.inl (j4.1,j4.2.1,(ad c 1),j4.2.2)))
 else(some (.inr (a,b)))
def E7 (xD:AF) (a:List CD) (b:ByteArray):Option (List BE×Bool):=
 bif((ln a)==0)then(some ([],true))
 else((bif(!(seq b (bs [])))then(((gi a (sb (ln a) 1)).bind fun x1=>
 (Hh xD.Flash [] (Page.mk 1 xD.Seq x1.Chunk 0 1 b)).bind fun v1=>
 some (v1.2.1,v1.2.2,v1.1.Blocks):Option (List BE×Bool×List Block)).bind fun j2=>
 some (j2.1,(ad xD.Seq 1),j2.2.1,j2.2.2))
 else(some ([],xD.Seq,true,xD.Flash.Blocks)):Option (List BE×Int×Bool×List Block)).bind fun j1=>
 (Nf j1.2.1 xD.Tx a).bind fun v2=>
 (Az (fun s:List BE×Bool×Int×List Block=>Fl v2 s.1 s.2.1 s.2.2.1 s.2.2.2) (j1.1,j1.2.2.1,0,j1.2.2.2)).bind fun v4=>
 (bif(!v4.2)then(some true)
 else(some (!v2.2)):Option (Bool)).bind fun j5=>
 bif j5 then(some ([],false))
 else(some (v4.1,true)))
def Pm (xD:AF):Option (List BE×Bool):=
 (NY xD.Store).bind fun v1=>
 (E7 xD v1 (bs [])).bind fun v2=>
 some (v2.1,v2.2)
def GD (xD:AF) (v1:List Ap) (v3:List Bool) (v4:List Bool) (c:Int) (a:Int) (b:Int):Option ((Int×Int×Int)⊕(Int)):=
 bif(decide (b<(ln xD.Flash.Blocks)))then((gi xD.Flash.Blocks b).bind fun x1=>
 (PL v1 v3 b).bind fun v5=>
 (bif(!x1.Bad)then((IC x1).bind fun v6=>
 bif(v6==4)then((PL v1 v4 b).bind fun v7=>
 bif(v5==v7)then(bif(decide (v5>=1))then(some (decide (v5<a)))
 else(some false))
 else(some false))
 else(some false))
 else(some false):Option (Bool)).bind fun j1=>
 bif j1 then(some (.inl (b,v5,(ad b 1))))
 else(some (.inl (c,a,(ad b 1)))))
 else(some (.inr c))
def NP (xD:AF):Option (Int):=
 (FT xD.Flash).bind fun v1=>
 (Jm xD.Store).bind fun v2=>
 (Hl v1 v2 xD.Base).bind fun v3=>
 (Hl v1 v2 1000000000).bind fun v4=>
 (Az (fun s:Int×Int×Int=>GD xD v1 v3 v4 s.1 s.2.1 s.2.2) ((-1),4,0)).bind fun v8=>
 some v8
def FY (xB:Int) (v1:List Ap) (v3:List Bool) (e:Int) (a:List BE) (b:Int) (c:Int) (d:List Block):Option ((List BE×Int×Int×List Block)⊕((List BE×Int×List Block)⊕((List BE×Int×Int×List Block)⊕((List BE)⊕((List BE×Bool)))))):=
 bif(decide (c<(ln v1)))then(((gi v3 c).bind fun x1=>
 bif(!x1)then(some true)
 else((gi v1 c).bind fun x2=>
 bif(x2.Block !=xB)then(some true)
 else((gi v1 c).bind fun x3=>
 some (x3.Leaf !=e))):Option (Bool)).bind fun j1=>
 bif j1 then(some (.inl (a,b,(ad c 1),d)))
 else((gi v1 c).bind fun x4=>
 (Hh (Flash.mk d) a (Page.mk x4.Page.Kind b x4.Page.Tx x4.Page.Part x4.Page.Count x4.Page.Text)).bind fun v4=>
 (bif(!v4.2.2)then(some true)
 else((gi v4.2.1 (sb (ln v4.2.1) 1)).bind fun x5=>
 some (x5.Block==xB)):Option (Bool)).bind fun j2=>
 bif j2 then(some (.inr (.inr (.inr (.inr ([],false))))))
 else(some (.inl (v4.2.1,(ad b 1),(ad c 1),v4.1.Blocks)))))
 else(some (.inr (.inl (a,b,d))))
def FZ (xB:Int) (v1:List Ap) (v3:List Bool) (b:List BE) (c:Int) (a:Int) (d:List Block):Option ((List BE×Int×Int×List Block)⊕((List BE)⊕((List BE×Bool)))):=
 bif(decide (a<4))then((Az (fun s:List BE×Int×Int×List Block=>FY xB v1 v3 a s.1 s.2.1 s.2.2.1 s.2.2.2) (b,c,0,d)).bind (Sum.elim (fun v5=>(some (.inl (v5.1,v5.2.1,(ad a 1),v5.2.2)))) some))
 else(some (.inr (.inl b)))
def K4 (xD:AF) (xB:Int):Option (List BE×Bool):=
 (FT xD.Flash).bind fun v1=>
 (Jm xD.Store).bind fun v2=>
 (Hl v1 v2 1000000001).bind fun v3=>
 (Az (fun s:List BE×Int×Int×List Block=>FZ xB v1 v3 s.1 s.2.1 s.2.2.1 s.2.2.2) ([],xD.Seq,0,xD.Flash.Blocks)).bind (Sum.elim (fun v6=>(some (v6,true))) some)
def NX (xD:AF):Option (List BE×Bool):=
 (Lo xD).bind fun v1=>
 bif(decide ((ln v1)>0))then((gi v1 0).bind fun x1=>
 some ([(BE.mk 2 x1 0 (bs []))],true))
 else((NM xD).bind fun v2=>
 bif(!v2)then((Pm xD).bind fun v3=>
 some (v3.1,v3.2))
 else((NP xD).bind fun v4=>
 bif(decide (v4<0))then(some ([],false))
 else((K4 xD v4).bind fun v5=>
 some (v5.1,v5.2))))
def Ho (xD:AF) (a:List BE):Option (AF):=
 (L7 xD.Flash a).bind fun v1=>
 (EM v1.1).bind fun v2=>
 some v2.1
def GH (i:Int) (h:List BE) (j:Int) (a:List Block) (b:List Vol) (c:List BR) (d:Int) (e:Int) (f:Int) (g:Int):Option ((List BE×Int×List Block×List Vol×List BR×Int×Int×Int×Int)⊕((List BE×List Block×List Vol×List BR×Int×Int×Int×Int)⊕((AF×List BE)))):=
 (bif(decide (j<i))then(bif(decide (j<20))then((LR (Flash.mk a)).bind fun v2=>
 some (decide (v2<12)))
 else(some false))
 else(some false):Option (Bool)).bind fun j1=>
 bif j1 then((NX (AF.mk (Flash.mk a) (Store.mk b (Arena.mk c) d) e f g)).bind fun v3=>
 bif(!v3.2)then(some (.inr (.inr ((AF.mk (Flash.mk a) (Store.mk b (Arena.mk c) d) e f g),h))))
 else((Ho (AF.mk (Flash.mk a) (Store.mk b (Arena.mk c) d) e f g) v3.1).bind fun v4=>
 (ap 40 h v3.1).bind fun q1=>
 some (.inl (q1,(ad j 1),v4.Flash.Blocks,v4.Store.Vols,v4.Store.Arena.Knots,v4.Store.Next,v4.Seq,v4.Tx,v4.Base))))
 else(some (.inr (.inl (h,a,b,c,d,e,f,g))))
def LU (xD:AF) (a:Int):Option (AF×List BE):=
 (Nb xD).bind fun v1=>
 (Az (fun s:List BE×Int×List Block×List Vol×List BR×Int×Int×Int×Int=>GH a s.1 s.2.1 s.2.2.1 s.2.2.2.1 s.2.2.2.2.1 s.2.2.2.2.2.1 s.2.2.2.2.2.2.1 s.2.2.2.2.2.2.2.1 s.2.2.2.2.2.2.2.2) ([],0,v1.Flash.Blocks,v1.Store.Vols,v1.Store.Arena.Knots,v1.Store.Next,v1.Seq,v1.Tx,v1.Base)).bind (Sum.elim (fun v5=>(some ((AF.mk (Flash.mk v5.2.1) (Store.mk v5.2.2.1 (Arena.mk v5.2.2.2.1) v5.2.2.2.2.1) v5.2.2.2.2.2.1 v5.2.2.2.2.2.2.1 v5.2.2.2.2.2.2.2),v5.1))) some)
def UO (xD:AF) (xQ:Mm):Option (AF×List BE×ByteArray×Int):=
 (Nb xD).bind fun v1=>
 (NW xD).bind fun v2=>
 bif(!v2)then(some (v1,[],(bs []),5))
 else((FU xD xQ).bind fun v3=>
 bif(v3.2.2 !=0)then(some (v1,[],(bs []),v3.2.2))
 else(bif(xQ.Kind==6)then((Wk xD xQ.Vol xQ.Sector).bind fun v4=>
 bif(!v4.2)then(some (v1,[],(bs []),1))
 else(some (v1,[],v4.1,0)))
 else((LR xD.Flash).bind fun v5=>
 (bif(decide (v5<12))then((LU xD 20).bind fun v6=>
 some (v6.2,v6.1.Flash.Blocks,v6.1.Store.Vols,v6.1.Store.Arena.Knots,v6.1.Store.Next,v6.1.Seq,v6.1.Tx,v6.1.Base))
 else(some ([],v1.Flash.Blocks,v1.Store.Vols,v1.Store.Arena.Knots,v1.Store.Next,v1.Seq,v1.Tx,v1.Base)):Option (List BE×List Block×List Vol×List BR×Int×Int×Int×Int)).bind fun j1=>
 (FU (AF.mk (Flash.mk j1.2.1) (Store.mk j1.2.2.1 (Arena.mk j1.2.2.2.1) j1.2.2.2.2.1) j1.2.2.2.2.2.1 j1.2.2.2.2.2.2.1 j1.2.2.2.2.2.2.2) xQ).bind fun v7=>
 (E7 (AF.mk (Flash.mk j1.2.1) (Store.mk j1.2.2.1 (Arena.mk j1.2.2.2.1) j1.2.2.2.2.1) j1.2.2.2.2.2.1 j1.2.2.2.2.2.2.1 j1.2.2.2.2.2.2.2) v7.1 v7.2.1).bind fun v8=>
 (bif(!v8.2)then(some true)
 else((LR (Flash.mk j1.2.1)).bind fun v9=>
 some (decide (v9<8))):Option (Bool)).bind fun j2=>
 bif j2 then(some ((AF.mk (Flash.mk j1.2.1) (Store.mk j1.2.2.1 (Arena.mk j1.2.2.2.1) j1.2.2.2.2.1) j1.2.2.2.2.2.1 j1.2.2.2.2.2.2.1 j1.2.2.2.2.2.2.2),j1.1,(bs []),4))
 else((Ho (AF.mk (Flash.mk j1.2.1) (Store.mk j1.2.2.1 (Arena.mk j1.2.2.2.1) j1.2.2.2.2.1) j1.2.2.2.2.2.1 j1.2.2.2.2.2.2.1 j1.2.2.2.2.2.2.2) v8.1).bind fun v10=>
 (ap 40 j1.1 v8.1).bind fun q1=>
 some (v10,q1,(bs []),0)))))
def FN (h:Int) (a:List Block) (b:List Vol) (c:List BR) (d:Int) (e:Int) (f:Int) (g:Int) (i:List Int) (j:Int) (k:Int):Option ((Int×List Block×List Vol×List BR×Int×Int×Int×Int×List Int×Int×Int)⊕(List Block×List Vol×List BR×Int×Int×Int×Int×List Int×Int×Int)):=
 (D1 (BD.mk i j k) 12).bind fun v3=>
 bif(decide (h<v3.1))then(((Na v3.2 (AF.mk (Flash.mk a) (Store.mk b (Arena.mk c) d) e f g)).bind fun v4=>
 (UO (AF.mk (Flash.mk a) (Store.mk b (Arena.mk c) d) e f g) v4.1).bind fun v5=>
 some (v5.1.Flash.Blocks,v5.1.Store.Vols,v5.1.Store.Arena.Knots,v5.1.Store.Next,v5.1.Seq,v5.1.Tx,v5.1.Base,v4.2.b_,v4.2.i_,v4.2.h_):Option (List Block×List Vol×List BR×Int×Int×Int×Int×List Int×Int×Int)).bind fun j1=>
 some (.inl ((ad h 1),j1.1,j1.2.1,j1.2.2.1,j1.2.2.2.1,j1.2.2.2.2.1,j1.2.2.2.2.2.1,j1.2.2.2.2.2.2.1,j1.2.2.2.2.2.2.2.1,j1.2.2.2.2.2.2.2.2.1,j1.2.2.2.2.2.2.2.2.2)))
 else(some (.inr (a,b,c,d,e,f,g,v3.2.b_,v3.2.i_,v3.2.h_)))
def Kx (xC:BD):Option (AF×BD):=
 (D1 xC 4).bind fun v1=>
 (M2 (ad 5 v1.1)).bind fun v2=>
 (Az (fun s:Int×List Block×List Vol×List BR×Int×Int×Int×Int×List Int×Int×Int=>FN s.1 s.2.1 s.2.2.1 s.2.2.2.1 s.2.2.2.2.1 s.2.2.2.2.2.1 s.2.2.2.2.2.2.1 s.2.2.2.2.2.2.2.1 s.2.2.2.2.2.2.2.2.1 s.2.2.2.2.2.2.2.2.2.1 s.2.2.2.2.2.2.2.2.2.2) (0,v2.1.Flash.Blocks,v2.1.Store.Vols,v2.1.Store.Arena.Knots,v2.1.Store.Next,v2.1.Seq,v2.1.Tx,v2.1.Base,v1.2.b_,v1.2.i_,v1.2.h_)).bind fun v8=>
 some ((AF.mk (Flash.mk v8.1) (Store.mk v8.2.1 (Arena.mk v8.2.2.1) v8.2.2.2.1) v8.2.2.2.2.1 v8.2.2.2.2.2.1 v8.2.2.2.2.2.2.1),(BD.mk v8.2.2.2.2.2.2.2.1 v8.2.2.2.2.2.2.2.2.1 v8.2.2.2.2.2.2.2.2.2))
def Ln (a:List Int):Option (AF):=
 (Pi a).bind fun v1=>
 (Kx v1).bind fun v2=>
 some v2.1
def PR (a:List Int):Option (Mm):=
 (Pi a).bind fun v1=>
 (Kx v1).bind fun v2=>
 (Na v2.2 v2.1).bind fun v3=>
 some v3.1
def HI (a:Int) (y1:Int):Option ((Int×Int)⊕(Int)):=
 bif(decide (y1<8))then(bif((an a 1)==1)then(some (.inl ((xr (Int.fdiv a (2^(min (1:Int).toNat IntKind.u32.bits))) 3558460437),(ad y1 1))))
 else(some (.inl ((Int.fdiv a (2^(min (1:Int).toNat IntKind.u32.bits))),(ad y1 1)))))
 else(some (.inr a))
def Js (a:ByteArray) (b:Int) (c:Int):Option ((Int×Int)⊕(Int)):=
 bif(decide (c<(FE a)))then((sx a c).bind fun x1=>
 (Az (fun s:Int×Int=>HI s.1 s.2) ((xr b (IntKind.u32.wrap x1)),0)).bind fun v1=>
 some (.inl (v1,(ad c 1))))
 else(some (.inr b))
def Qc (b:Int) (a:ByteArray):Option (Int):=
 (Az (fun s:Int×Int=>Js a s.1 s.2) (b,0)).bind fun v2=>
 some v2
def Va (a:ByteArray):Option (Int):=
 (Qc 4294967295 a).bind fun v1=>
 some v1
def RQ (a:ByteArray):Option (ByteArray×Bool):=
 bif(decide ((FE a)>20000))then(some ((bs []),false))
 else((Va a).bind fun v1=>
 (Td a (GV [(IntKind.u8.wrap (Int.fdiv v1 (2^(min (24:Int).toNat IntKind.u32.bits)))),(IntKind.u8.wrap (Int.fdiv v1 (2^(min (16:Int).toNat IntKind.u32.bits)))),(IntKind.u8.wrap (Int.fdiv v1 (2^(min (8:Int).toNat IntKind.u32.bits)))),(IntKind.u8.wrap v1)])).bind fun x1=>
 some (x1,true))
def Ou (a:ByteArray):Option (ByteArray×Bool):=
 bif(decide ((FE a)<4))then(some ((bs []),false))
 else((sub a 0 (sb (FE a) 4)).bind fun x1=>
 (RQ x1).bind fun v1=>
 (bif(!v1.2)then(some true)
 else(some (!(seq v1.1 a))):Option (Bool)).bind fun j1=>
 bif j1 then(some ((bs []),false))
 else(some (x1,true)))
def Gw (b:ByteArray) (c:Int) (d:Int) (a:Int):Option ((Int×Int)⊕((Unit)⊕((Int×Int×Bool)))):=
 (bif(decide (a<5))then(bif(decide (c>=0))then(some (decide (c<(sb (FE b) a))))
 else(some false))
 else(some false):Option (Bool)).bind fun j1=>
 bif j1 then((sx b (ad c a)).bind fun x1=>
 (shl .i64 (Int.tmod (IntKind.i64.wrap x1) 128) (ml 7 a)).bind fun x2=>
 bif(decide ((IntKind.i64.wrap x1)>=128))then(some (.inl ((ad d x2),(ad a 1))))
 else((bif((IntKind.i64.wrap x1)==0)then(bif(decide (a>0))then(some true)
 else(some (decide ((ad d x2)>1000000000))))
 else(some (decide ((ad d x2)>1000000000))):Option (Bool)).bind fun j2=>
 bif j2 then(some (.inr (.inr (0,0,false))))
 else(some (.inr (.inr ((ad d x2),(ad (ad c a) 1),true))))))
 else(some (.inr (.inl ())))
def LA (a:ByteArray) (b:Int):Option (Int×Int×Bool):=
 (Az (fun s:Int×Int=>Gw a b s.1 s.2) (0,0)).bind (Sum.elim (fun v1=>(some (0,0,false))) some)
def RX (xP:Page):Option (Bool):=
 ((Or xP.Seq 1 1000000000).bind fun v1=>
 bif(!v1)then(some true)
 else((Or xP.Tx 1 1000000000).bind fun v2=>
 bif(!v2)then(some true)
 else((Or xP.Count 1 9).bind fun v3=>
 bif(!v3)then(some true)
 else((Or xP.Part 0 (sb xP.Count 1)).bind fun v4=>
 bif(!v4)then(some true)
 else(some (decide ((FE xP.Text)>90)))))):Option (Bool)).bind fun j1=>
 bif j1 then(some false)
 else(bif(xP.Kind==2)then(some true)
 else(bif(xP.Kind==1)then(some (xP.Count==1))
 else(some false)))
def Ef (v1:ByteArray×Bool) (e:Int) (y1:Int) (a:Int) (b:Int) (c:Int) (d:Int):Option ((Int×Int×Int×Int×Int×Int)⊕((Int×Int×Int×Int×Int)⊕((Page×Bool)))):=
 bif(decide (y1<4))then((LA v1.1 e).bind fun v2=>
 bif(!v2.2.2)then(some (.inr (.inr ((Page.mk 0 0 0 0 0 (bs [])),false))))
 else(bif(y1==0)then(some (.inl (v2.2.1,(ad y1 1),v2.1,b,c,d)))
 else(bif(y1==1)then(some (.inl (v2.2.1,(ad y1 1),a,v2.1,c,d)))
 else(bif(y1==2)then(some (.inl (v2.2.1,(ad y1 1),a,b,v2.1,d)))
 else(bif(y1==3)then(some (.inl (v2.2.1,(ad y1 1),a,b,c,v2.1)))
 else none)))))
 else(some (.inr (.inl (e,a,b,c,d))))
def Ow (xT:ByteArray):Option (Page×Bool):=
 (Ou xT).bind fun v1=>
 (bif(!v1.2)then(some true)
 else(some (seq v1.1 (bs []))):Option (Bool)).bind fun j1=>
 bif j1 then(some ((Page.mk 0 0 0 0 0 (bs [])),false))
 else((Az (fun s:Int×Int×Int×Int×Int×Int=>Ef v1 s.1 s.2.1 s.2.2.1 s.2.2.2.1 s.2.2.2.2.1 s.2.2.2.2.2) (1,0,0,0,0,0)).bind (Sum.elim (fun v3=>((sx v1.1 0).bind fun x1=>
 (sub v1.1 v3.1 (FE v1.1)).bind fun x2=>
 (RX (Page.mk (IntKind.i64.wrap x1) v3.2.1 v3.2.2.1 v3.2.2.2.1 v3.2.2.2.2 x2)).bind fun v4=>
 bif(!v4)then(some ((Page.mk 0 0 0 0 0 (bs [])),false))
 else(some ((Page.mk (IntKind.i64.wrap x1) v3.2.1 v3.2.2.1 v3.2.2.2.1 v3.2.2.2.2 x2),true)))) some))
def BF (x:Ap):Int:=x.Page.Seq
def HJ (y1:Int) (x1:Block) (y2:Int) (a:List Ap):Option ((Int×List Ap)⊕(List Ap)):=
 bif(decide (y2<(ln x1.Leaves)))then((gi x1.Leaves y2).bind fun x2=>
 (Ow x2.Text).bind fun v1=>
 (bif v1.2 then(some (x2.Is==1))
 else(some false):Option (Bool)).bind fun j1=>
 bif j1 then((ap 72 a [(Ap.mk y1 y2 v1.1)]).bind fun q1=>
 some (.inl ((ad y2 1),q1)))
 else(some (.inl ((ad y2 1),a))))
 else(some (.inr a))
def Gv (xF:Flash) (y1:Int) (a:List Ap):Option ((Int×List Ap)⊕(List Ap)):=
 bif(decide (y1<(ln xF.Blocks)))then((gi xF.Blocks y1).bind fun x1=>
 (Az (fun s:Int×List Ap=>HJ y1 x1 s.1 s.2) (0,a)).bind fun v2=>
 some (.inl ((ad y1 1),v2)))
 else(some (.inr a))
def HK (xF:Flash):Option (List Ap):=
 (Az (fun s:Int×List Ap=>Gv xF s.1 s.2) (0,[])).bind fun v3=>
 (Dd (NA BF) v3 (ln v3)).bind fun v4=>
 some v4
def Lv (xA:Arena) (y1:Int) (x1:BR) (y2:Int):Option ((Int)⊕((Unit)⊕((Int)⊕((Unit)⊕(Bool))))):=
 bif(decide (y2<(ln x1.Kids)))then((gi x1.Kids y2).bind fun x2=>
 (bif x1.Leaf then(bif(decide (x2<0))then(some true)
 else(bif(!x1.Leaf)then(bif(x2 !=(-1))then((Or x2 0 (sb y1 1)).bind fun v1=>
 bif(!v1)then(some true)
 else((gi xA.Knots x2).bind fun x3=>
 some (!x3.Leaf)))
 else(some false))
 else(some false)))
 else(bif(!x1.Leaf)then(bif(x2 !=(-1))then((Or x2 0 (sb y1 1)).bind fun v2=>
 bif(!v2)then(some true)
 else((gi xA.Knots x2).bind fun x4=>
 some (!x4.Leaf)))
 else(some false))
 else(some false)):Option (Bool)).bind fun j1=>
 bif j1 then(some (.inr (.inr (.inr (.inr false)))))
 else(some (.inl (ad y2 1))))
 else(some (.inr (.inl ())))
def Lw (xA:Arena) (y1:Int):Option ((Int)⊕((Unit)⊕(Bool))):=
 bif(decide (y1<(ln xA.Knots)))then((gi xA.Knots y1).bind fun x1=>
 bif((ln x1.Kids) !=4)then(some (.inr (.inr false)))
 else((Az (fun s:Int=>Lv xA y1 x1 s) 0).bind (Sum.elim (fun v3=>(some (.inl (ad y1 1)))) some)))
 else(some (.inr (.inl ())))
def Qd (xA:Arena):Option (Bool):=
 (Az (fun s:Int=>Lw xA s) 0).bind (Sum.elim (fun v4=>(some true)) some)
def RO (xA:Arena) (a:Int):Option (Bool):=
 (Or a 0 (sb (ln xA.Knots) 1)).bind fun v1=>
 bif v1 then((gi xA.Knots a).bind fun x1=>
 some (!x1.Leaf))
 else(some false)
def WY (xS:Store) (a:Int) (y1:Int):Option ((Int)⊕((Unit)⊕(Int))):=
 bif(decide (y1<(ln xS.Vols)))then((gi xS.Vols y1).bind fun x1=>
 bif(x1.Id==a)then(some (.inr (.inr y1)))
 else(some (.inl (ad y1 1))))
 else(some (.inr (.inl ())))
def RN (xS:Store) (a:Int):Option (Int):=
 (Az (fun s:Int=>WY xS a s) 0).bind (Sum.elim (fun v1=>(some (-1))) some)
def QZ (xA:Arena) (b:Int) (a:Int):Option (Int):=
 (gi xA.Knots b).bind fun x1=>
 (gi x1.Kids (qu a 4)).bind fun x2=>
 bif(decide (x2<0))then(some 0)
 else((gi xA.Knots x2).bind fun x3=>
 (gi x3.Kids (Int.tmod a 4)).bind fun x4=>
 some x4)
def Vb (xA:Arena) (b:Int) (a:Int):Option (Int):=
 ((Or a 0 15).bind fun v1=>
 bif(!v1)then(some true)
 else((RO xA b).bind fun v2=>
 bif(!v2)then(some true)
 else((Qd xA).bind fun v3=>
 some (!v3))):Option (Bool)).bind fun j1=>
 bif j1 then(some 0)
 else((QZ xA b a).bind fun v4=>
 some v4)
def Md (xA:Arena) (b:Int) (a:List Int) (y1:Int):Option ((List Int×Int)⊕(List Int)):=
 bif(decide (y1<16))then((Vb xA b y1).bind fun v1=>
 (ap 8 a [v1]).bind fun q1=>
 some (.inl (q1,(ad y1 1))))
 else(some (.inr a))
def Vc (xA:Arena) (a:Int):Option (List Int):=
 (Az (fun s:List Int×Int=>Md xA a s.1 s.2) ([],0)).bind fun v2=>
 some v2
def ST (xS:Store) (xQ:Mm):Option (Int):=
 (RN xS xQ.Vol).bind fun v1=>
 (bif(xQ.Kind !=3)then(some (xQ.Kind !=4))
 else(some false):Option (Bool)).bind fun j1=>
 bif j1 then(bif(!(decide (v1>=0)))then(some 1)
 else(some 0))
 else(bif(decide (v1>=0))then(some 2)
 else((bif(xQ.Kind==4)then((RN xS xQ.Of).bind fun v2=>
 some (decide (v2<0)))
 else(some false):Option (Bool)).bind fun j2=>
 bif j2 then(some 1)
 else(bif(decide ((ln xS.Vols)>=3))then(some 4)
 else(some 0))))
def Ic (v1:List Int) (a:List Int) (y2:Int):Option ((List Int×Int)⊕(List Int)):=
 bif(decide (y2<(ln v1)))then((gi v1 y2).bind fun x2=>
 bif(decide (x2>0))then((ap 8 a [x2]).bind fun q1=>
 some (.inl (q1,(ad y2 1))))
 else(some (.inl (a,(ad y2 1)))))
 else(some (.inr a))
def Ie (xS:Store) (a:List Int) (y1:Int):Option ((List Int×Int)⊕(List Int)):=
 bif(decide (y1<(ln xS.Vols)))then((gi xS.Vols y1).bind fun x1=>
 (Vc xS.Arena x1.Root).bind fun v1=>
 (Az (fun s:List Int×Int=>Ic v1 s.1 s.2) (a,0)).bind fun v2=>
 some (.inl (v2,(ad y1 1))))
 else(some (.inr a))
def Ot (xS:Store):Option (List Int):=
 (Az (fun s:List Int×Int=>Ie xS s.1 s.2) ([],0)).bind fun v3=>
 some v3
def IM (v2:List Int) (a:List Int) (y1:Int):Option ((List Int×Int)⊕(List Int)):=
 bif(decide (y1<(ln v2)))then((gi v2 y1).bind fun x1=>
 (bif(y1==0)then(some true)
 else((gi v2 (sb y1 1)).bind fun x2=>
 some (x2 !=x1)):Option (Bool)).bind fun j1=>
 bif j1 then((ap 8 a [x1]).bind fun q1=>
 some (.inl (q1,(ad y1 1))))
 else(some (.inl (a,(ad y1 1)))))
 else(some (.inr a))
def Nv (xS:Store):Option (List Int):=
 (Ot xS).bind fun v1=>
 (jF v1).bind fun v2=>
 (Az (fun s:List Int×Int=>IM v2 s.1 s.2) ([],0)).bind fun v3=>
 some v3
def IL (j:Int) (v1:List Ap) (i:Bool) (y1:Int) (b:Int) (c:Int) (d:Int) (a:Int) (e:Int) (f:Int) (g:Int) (h:ByteArray):Option ((Bool×Int×Int×Int×Int×Int×Int×Int×Int×ByteArray)⊕(Bool×Int×Int×Int×Int×Int×Int×Int×ByteArray)):=
 bif(decide (y1<(ln v1)))then((gi v1 y1).bind fun x1=>
 (bif(x1.Page.Kind==1)then(bif(x1.Page.Tx==j)then(bif(!i)then(some true)
 else(some (decide (x1.Page.Seq>=a))))
 else(some false))
 else(some false):Option (Bool)).bind fun j1=>
 bif j1 then(some (.inl (true,(ad y1 1),x1.Block,x1.Leaf,x1.Page.Kind,x1.Page.Seq,x1.Page.Tx,x1.Page.Part,x1.Page.Count,x1.Page.Text)))
 else(some (.inl (i,(ad y1 1),b,c,d,a,e,f,g,h))))
 else(some (.inr (i,b,c,d,a,e,f,g,h)))
def RP (xF:Flash) (a:Int):Option (Ap×Bool):=
 (HK xF).bind fun v1=>
 (Az (fun s:Bool×Int×Int×Int×Int×Int×Int×Int×Int×ByteArray=>IL a v1 s.1 s.2.1 s.2.2.1 s.2.2.2.1 s.2.2.2.2.1 s.2.2.2.2.2.1 s.2.2.2.2.2.2.1 s.2.2.2.2.2.2.2.1 s.2.2.2.2.2.2.2.2.1 s.2.2.2.2.2.2.2.2.2) (false,0,0,0,0,0,0,0,0,(bs []))).bind fun v2=>
 some ((Ap.mk v2.2.1 v2.2.2.1 (Page.mk v2.2.2.2.1 v2.2.2.2.2.1 v2.2.2.2.2.2.1 v2.2.2.2.2.2.2.1 v2.2.2.2.2.2.2.2.1 v2.2.2.2.2.2.2.2.2)),v2.1)
def Du (a:ByteArray) (b:List AK):Option ((ByteArray×List AK)⊕((List AK)⊕((List AK×Bool)))):=
 bif(!(seq a (bs [])))then((sx a 0).bind fun x1=>
 (bif(decide ((IntKind.i64.wrap x1)>=128))then(some (decide ((FE a)>=2)))
 else(some false):Option (Bool)).bind fun j1=>
 bif j1 then((sx a 1).bind fun x2=>
 (ap 32 b [(AK.mk (IntKind.i64.wrap x2) (sb (IntKind.i64.wrap x1) 128) (bs []))]).bind fun q1=>
 (sub a 2 (FE a)).bind fun x3=>
 some (.inl (x3,q1)))
 else((bif(decide ((IntKind.i64.wrap x1)<128))then(some (decide ((IntKind.i64.wrap x1)<(FE a))))
 else(some false):Option (Bool)).bind fun j2=>
 bif j2 then((sub a 1 (ad 1 (IntKind.i64.wrap x1))).bind fun x4=>
 (ap 32 b [(AK.mk 0 0 x4)]).bind fun q2=>
 (sub a (ad 1 (IntKind.i64.wrap x1)) (FE a)).bind fun x5=>
 some (.inl (x5,q2)))
 else(some (.inr (.inr ([],false))))))
 else(some (.inr (.inl b)))
def Oq (xT:ByteArray):Option (List AK×Bool):=
 (Az (fun s:ByteArray×List AK=>Du s.1 s.2) (xT,[])).bind (Sum.elim (fun v1=>(some (v1,true))) some)
def Ox (x1:AK) (a:List Int) (y2:Int):Option ((List Int×Int)⊕(List Int)):=
 bif(decide (y2<x1.Size))then((gi a (sb (ln a) x1.Back)).bind fun x2=>
 (ap 1 a [x2]).bind fun q2=>
 some (.inl (q2,(ad y2 1))))
 else(some (.inr a))
def Lu (b:List AK) (a:List Int) (y1:Int):Option ((List Int×Int)⊕((List Int)⊕((ByteArray×Bool)))):=
 bif(decide (y1<(ln b)))then((gi b y1).bind fun x1=>
 (bif(x1.Back==0)then((bif(x1.Size !=0)then(some true)
 else((Or (FE x1.Text) 1 31).bind fun v1=>
 some (!v1)):Option (Bool)).bind fun j2=>
 bif j2 then(some (.inr (.inr (.inr ((bs []),false)))))
 else((aps a x1.Text).bind fun q1=>
 some (.inl q1)))
 else(((Or x1.Back 1 (ln a)).bind fun v2=>
 bif(!v2)then(some true)
 else((Or x1.Size 1 31).bind fun v3=>
 bif(!v3)then(some true)
 else(some (!(seq x1.Text (bs []))))):Option (Bool)).bind fun j3=>
 bif j3 then(some (.inr (.inr (.inr ((bs []),false)))))
 else((Az (fun s:List Int×Int=>Ox x1 s.1 s.2) (a,0)).bind fun v4=>
 some (.inl v4))):Option ((List Int)⊕((List Int×Int)⊕((List Int)⊕((ByteArray×Bool)))))).bind (Sum.elim (fun j1=>(bif(decide ((ln j1)>64))then(some (.inr (.inr ((bs []),false))))
 else(some (.inl (j1,(ad y1 1)))))) some))
 else(some (.inr (.inl a)))
def Nu (a:List AK):Option (ByteArray×Bool):=
 (Az (fun s:List Int×Int=>Lu a s.1 s.2) ([],0)).bind (Sum.elim (fun v5=>(some ((GV v5),true))) some)
def EB (xS:ByteArray) (c:Int) (b:Int) (a:Int):Option ((Int)⊕(Int)):=
 (bif(decide (a<31))then(bif(decide ((ad c a)<(FE xS)))then((sx xS (ad b a)).bind fun x1=>
 (sx xS (ad c a)).bind fun x2=>
 some (x1==x2))
 else(some false))
 else(some false):Option (Bool)).bind fun j1=>
 bif j1 then(some (.inl (ad a 1)))
 else(some (.inr a))
def Gu (xS:ByteArray) (d:Int) (b:Int) (c:Int) (a:Int):Option ((Int×Int×Int)⊕(Int×Int)):=
 bif(decide (a>=0))then((Az (fun s:Int=>EB xS d a s) 0).bind fun v1=>
 (bif(decide (v1>=4))then(some (decide (v1>b)))
 else(some false):Option (Bool)).bind fun j2=>
 bif j2 then(some (.inl (v1,(sb d a),(sb a 1))))
 else(some (.inl (b,c,(sb a 1)))))
 else(some (.inr (b,c)))
def Qb (xS:ByteArray) (a:Int):Option (Int×Int):=
 (Az (fun s:Int×Int×Int=>Gu xS a s.1 s.2.1 s.2.2) (0,0,(sb a 1))).bind fun v2=>
 some (v2.1,v2.2)
def Kr (xS:ByteArray) (a:List AK) (b:Int):Option ((List AK×Int)⊕(List AK)):=
 bif(decide (b<(FE xS)))then((Qb xS b).bind fun v1=>
 bif(decide (v1.1>0))then((ap 32 a [(AK.mk v1.2 v1.1 (bs []))]).bind fun q1=>
 some (.inl (q1,(ad b v1.1))))
 else((bif(decide ((sb (ln a) 1)<0))then(some true)
 else((gi a (sb (ln a) 1)).bind fun x1=>
 bif(decide (x1.Back>0))then(some true)
 else((gi a (sb (ln a) 1)).bind fun x2=>
 some (decide ((FE x2.Text)>=31)))):Option (Bool)).bind fun j1=>
 (bif j1 then((ap 32 a [(AK.mk 0 0 (bs []))]).bind fun q2=>
 some (q2,(ad (sb (ln a) 1) 1)))
 else(some (a,(sb (ln a) 1))):Option (List AK×Int)).bind fun j2=>
 (gi j2.1 j2.2).bind fun x3=>
 (sub xS b (ad b 1)).bind fun x4=>
 (Td x3.Text x4).bind fun x5=>
 (gi j2.1 j2.2).bind fun x6=>
 some (.inl ((si j2.1 j2.2 (AK.mk x6.Back x6.Size x5)),(ad b 1)))))
 else(some (.inr a))
def Ov (xS:ByteArray):Option (List AK):=
 bif(decide ((FE xS)>64))then(some [])
 else((Az (fun s:List AK×Int=>Kr xS s.1 s.2) ([],0)).bind fun v2=>
 some v2)
def If (v1:List AK) (a:List Int) (y1:Int):Option ((List Int×Int)⊕(List Int)):=
 bif(decide (y1<(ln v1)))then((gi v1 y1).bind fun x1=>
 (bif(decide (x1.Back>0))then((ap 1 a [(IntKind.u8.wrap (ad 128 x1.Size)),(IntKind.u8.wrap x1.Back)]).bind fun q1=>
 some q1)
 else((ap 1 a [(IntKind.u8.wrap (FE x1.Text))]).bind fun q2=>
 (aps q2 x1.Text).bind fun q3=>
 some q3):Option (List Int)).bind fun j1=>
 some (.inl (j1,(ad y1 1))))
 else(some (.inr a))
def JW (xS:ByteArray):Option (ByteArray×Bool):=
 bif(decide ((FE xS)>64))then(some ((bs []),false))
 else((Ov xS).bind fun v1=>
 (Az (fun s:List Int×Int=>If v1 s.1 s.2) ([122],0)).bind fun v2=>
 bif(decide ((ad (FE xS) 1)<=(ln v2)))then((Td (bs [114]) xS).bind fun x2=>
 some (x2,true))
 else(some ((GV v2),true)))
def Lt (xT:ByteArray):Option (ByteArray×Bool):=
 bif(seq xT (bs []))then(some ((bs []),false))
 else((sub xT 1 (FE xT)).bind fun x1=>
 (sx xT 0).bind fun x2=>
 (bif(x2 !=114)then((Oq x1).bind fun v1=>
 (Nu v1.1).bind fun v2=>
 bif(!v1.2)then(some (.inr ((bs []),false)))
 else(bif(!v2.2)then(some (.inr ((bs []),false)))
 else(some (.inl v2.1))))
 else(some (.inl x1)):Option ((ByteArray)⊕((ByteArray×Bool)))).bind (Sum.elim (fun j1=>((JW j1).bind fun v3=>
 (bif(!v3.2)then(some true)
 else(some (!(seq v3.1 xT))):Option (Bool)).bind fun j2=>
 bif j2 then(some ((bs []),false))
 else(some (j1,true)))) some))
def M9 (xF:Flash) (a:Int):Option (ByteArray×Bool):=
 (RP xF a).bind fun v1=>
 bif(!v1.2)then(some ((bs []),false))
 else((Lt v1.1.Page.Text).bind fun v2=>
 some (v2.1,v2.2))
def Ig (xF:Flash) (a:List Int) (b:ByteArray) (y1:Int):Option ((Int)⊕((Unit)⊕(Int))):=
 bif(decide (y1<(ln a)))then((gi a y1).bind fun x1=>
 (M9 xF x1).bind fun v1=>
 bif v1.2 then(bif(seq v1.1 b)then(some (.inr (.inr x1)))
 else(some (.inl (ad y1 1))))
 else(some (.inl (ad y1 1))))
 else(some (.inr (.inl ())))
def Oy (xF:Flash) (a:List Int) (b:ByteArray):Option (Int):=
 (Az (fun s:Int=>Ig xF a b s) 0).bind (Sum.elim (fun v2=>(some 0)) some)
def Nt (xD:AF) (xQ:Mm):Option (List CD×ByteArray×Int):=
 (Sa xQ).bind fun v1=>
 bif(!v1)then(some ([],(bs []),3))
 else((ST xD.Store xQ).bind fun v2=>
 bif(v2 !=0)then(some ([],(bs []),v2))
 else(bif(xQ.Kind==1)then((Nv xD.Store).bind fun v3=>
 (Oy xD.Flash v3 xQ.Text).bind fun v4=>
 (bif(v4==0)then((JW xQ.Text).bind fun v5=>
 some (xD.Store.Next,v5.1))
 else(some (v4,(bs []))):Option (Int×ByteArray)).bind fun j1=>
 some ([(CD.mk 4 xQ.Vol xQ.Sector j1.1)],j1.2,0))
 else(bif(xQ.Kind==2)then(some ([(CD.mk 5 xQ.Vol xQ.Sector 0)],(bs []),0))
 else(bif(xQ.Kind==3)then(some ([(CD.mk 2 xQ.Vol 0 0)],(bs []),0))
 else(bif(xQ.Kind==4)then(some ([(CD.mk 2 xQ.Vol xQ.Of 0)],(bs []),0))
 else(bif(xQ.Kind==5)then(some ([(CD.mk 3 xQ.Vol 0 0)],(bs []),0))
 else(some ([],(bs []),0))))))))
def Hy (xB:Block) (a:Int) (y1:Int):Option ((Int×Int)⊕(Int)):=
 bif(decide (y1<(ln xB.Leaves)))then((gi xB.Leaves y1).bind fun x1=>
 bif(x1.Is==0)then(some (.inl ((ad a 1),(ad y1 1))))
 else(some (.inl (a,(ad y1 1)))))
 else(some (.inr a))
def Ns (xB:Block):Option (Int):=
 (Az (fun s:Int×Int=>Hy xB s.1 s.2) (0,0)).bind fun v1=>
 some v1
def M8 (xF:Flash) (a:Int) (y1:Int):Option ((Int×Int)⊕(Int)):=
 bif(decide (y1<(ln xF.Blocks)))then((gi xF.Blocks y1).bind fun x1=>
 bif(!x1.Bad)then((Ns x1).bind fun v1=>
 some (.inl ((ad a v1),(ad y1 1))))
 else(some (.inl (a,(ad y1 1)))))
 else(some (.inr a))
def m7 (xF:Flash):Option (Int):=
 (Az (fun s:Int×Int=>M8 xF s.1 s.2) (0,0)).bind fun v2=>
 some v2
def Iq (xF:Flash) (a:List Int) (y1:Int):Option ((List Int×Int)⊕(List Int)):=
 bif(decide (y1<(ln xF.Blocks)))then((gi xF.Blocks y1).bind fun x1=>
 (bif(!x1.Bad)then((Ns x1).bind fun v1=>
 some (v1==(ln x1.Leaves)))
 else(some false):Option (Bool)).bind fun j1=>
 bif j1 then((ap 8 a [y1]).bind fun q1=>
 some (.inl (q1,(ad y1 1))))
 else(some (.inl (a,(ad y1 1)))))
 else(some (.inr a))
def RZ (xF:Flash):Option (List Int):=
 (Az (fun s:List Int×Int=>Iq xF s.1 s.2) ([],0)).bind fun v2=>
 some v2
def G8 (xA:List CD) (xB:List CD) (a:Int):Option ((Int)⊕((Unit)⊕(Bool))):=
 bif(decide (a<(ln xA)))then((gi xA a).bind fun x1=>
 (gi xB a).bind fun x2=>
 bif(!((x1.Kind==x2.Kind)&&((x1.Vol==x2.Vol)&&((x1.Arg==x2.Arg)&&((x1.Chunk==x2.Chunk)&&true)))))then(some (.inr (.inr false)))
 else(some (.inl (ad a 1))))
 else(some (.inr (.inl ())))
def NE (xA:List CD) (xB:List CD):Option (Bool):=
 bif((ln xA) !=(ln xB))then(some false)
 else((Az (fun s:Int=>G8 xA xB s) 0).bind (Sum.elim (fun v1=>(some true)) some))
def MX (a:List Int):Option (Bool):=
 (Vq a).bind fun v1=>
 bif v1 then(some true)
 else((Ln a).bind fun v2=>
 (PR a).bind fun v3=>
 (Nt v2 v3).bind fun v4=>
 (FU v2 v3).bind fun v5=>
 (bif(v4.2.2 !=v5.2.2)then(some true)
 else(bif(!(seq v4.2.1 v5.2.1))then(some true)
 else((NE v4.1 v5.1).bind fun v6=>
 bif(!v6)then(some true)
 else((Sa v3).bind fun v7=>
 some (!v7)))):Option (Bool)).bind fun j1=>
 bif j1 then(some false)
 else(bif(v4.2.2 !=0)then((bif((ln v4.1)==0)then(some (seq v4.2.1 (bs [])))
 else(some false):Option (Bool)).bind fun j2=>
 some j2)
 else((JP v2.Store v4.1).bind fun v8=>
 (Nt v2 (Mm.mk 0 0 0 0 (bs []))).bind fun v9=>
 bif v8.2 then(bif(v9.2.2==3)then(bif(seq v4.2.1 (bs []))then(some (decide ((ln v4.1)<=1)))
 else(bif(v3.Kind==1)then(some (decide ((ln v4.1)<=1)))
 else(some false)))
 else(some false))
 else(some false))))
end
end Go.TI
