/- What functions of the given program compute. No condition. -/
import Derived.Test.YtiemmklnnjembaaGreatCHT5
namespace Go.TI
open Go
noncomputable section
structure TW where
 Kind:Int
 Vol:Int
 Sector:Int
 Of:Int
 Text:ByteArray
structure Shelf where
 Vol:Int
 Texts:List ByteArray
structure BD where
 Kind:Int
 Block:Int
 Leaf:Int
 Text:ByteArray
structure Leaf where
 Is:Int
 Text:ByteArray
structure Block where
 Bad:Bool
 Wear:Int
 Leaves:List Leaf
structure Flash where
 Blocks:List Block
structure Vol where
 Id:Int
 Root:Int
structure BU where
 Leaf:Bool
 Kids:List Int
structure Arena where
 Knots:List BU
structure Store where
 Vols:List Vol
 Arena:Arena
 Next:Int
structure AE where
 Flash:Flash
 Store:Store
 Seq:Int
 Tx:Int
 Base:Int
structure Df where
 Kind:Int
 Vol:Int
 Arg:Int
 Chunk:Int
structure World where
 AE:AE
 Codes:List Int
 Told:List ByteArray
 Model:List Shelf
 Steps:List BD
structure BC where
 b_:List Int
 i_:Int
 h_:Int
structure Ek where
 text_:ByteArray
 at_:Int
 bad_:Bool
structure Page where
 Kind:Int
 Seq:Int
 Tx:Int
 Part:Int
 Count:Int
 Text:ByteArray
structure Ak where
 Block:Int
 Leaf:Int
 Page:Page
structure Tx where
 Num:Int
 Seq:Int
 Recs:List Df
structure AJ where
 Back:Int
 Size:Int
 Text:ByteArray
def BR (xX:Int) (a:Int) (b:Int):Option (Bool):=
 bif(decide (xX>=a))then(some (decide (xX<=b)))
 else(some false)
def UP (xQ:TW):Option (Bool):=
 ((BR xQ.Kind 1 6).bind fun v1=>
 bif(!v1)then(some true)
 else((BR xQ.Vol 1 9).bind fun v2=>
 bif(!v2)then(some true)
 else(bif(decide ((FJ xQ.Text)>64))then(some true)
 else(bif(xQ.Kind !=1)then(some (!(seq xQ.Text (bs []))))
 else(some false)))):Option (Bool)).bind fun j1=>
 bif j1 then(some false)
 else(bif(xQ.Kind==4)then((bif(xQ.Sector==0)then((BR xQ.Of 1 9).bind fun v3=>
 some v3)
 else(some false):Option (Bool)).bind fun j2=>
 some j2)
 else(bif(xQ.Of !=0)then(some false)
 else((bif(xQ.Kind==3)then(some true)
 else(some (xQ.Kind==5)):Option (Bool)).bind fun j3=>
 bif j3 then(some (xQ.Sector==0))
 else((BR xQ.Sector 0 15).bind fun v4=>
 some v4))))
def ST (xN:Int) (b:Int) (a:Int):Option (Bool):=
 bif(decide (xN>=b))then(some (decide (xN<=a)))
 else(some false)
def HU (xN:Int) (b:Int) (a:List Block):Option ((Int×List Block)⊕(List Block)):=
 bif(decide (b<xN))then((mk 24 (Leaf.mk 0 (bs [])) 4).bind fun q1=>
 (ap 40 a [(Block.mk false 0 q1)]).bind fun q2=>
 some (.inl ((ad b 1),q2)))
 else(some (.inr a))
def NX (xN:Int):Option (Flash×Bool):=
 (BR xN 3 10).bind fun v1=>
 bif(!v1)then(some ((Flash.mk []),false))
 else((Az (fun s:Int×List Block=>HU xN s.1 s.2) (0,[])).bind fun v2=>
 some ((Flash.mk v2),true))
def Jd (xF:Flash) (b:Int) (a:List Block):Option ((Int×List Block)⊕(List Block)):=
 bif(decide (b<(ln xF.Blocks)))then((gi xF.Blocks b).bind fun x1=>
 (ap 24 [] x1.Leaves).bind fun q1=>
 (ap 40 a [(Block.mk x1.Bad x1.Wear q1)]).bind fun q2=>
 some (.inl ((ad b 1),q2)))
 else(some (.inr a))
def H3 (xF:Flash):Option (Flash):=
 (Az (fun s:Int×List Block=>Jd xF s.1 s.2) (0,[])).bind fun v1=>
 some (Flash.mk v1)
def PL (xX:Leaf):Option (Bool):=
 bif(xX.Is==0)then(some (seq xX.Text (bs [])))
 else(bif(xX.Is==1)then((BR (FJ xX.Text) 1 120).bind fun v1=>
 some v1)
 else(bif(xX.Is==2)then(some (decide ((FJ xX.Text)<=120)))
 else(some false)))
def H9 (x1:Block) (a:Int):Option ((Int)⊕((Unit)⊕((Int)⊕((Unit)⊕(Bool))))):=
 bif(decide (a<(ln x1.Leaves)))then(((gi x1.Leaves a).bind fun x2=>
 (PL x2).bind fun v2=>
 bif(!v2)then(some true)
 else(bif(decide (a>0))then((gi x1.Leaves (sb a 1)).bind fun x3=>
 bif(x3.Is==0)then((gi x1.Leaves a).bind fun x4=>
 some (x4.Is !=0))
 else(some false))
 else(some false)):Option (Bool)).bind fun j2=>
 bif j2 then(some (.inr (.inr (.inr (.inr false)))))
 else(some (.inl (ad a 1))))
 else(some (.inr (.inl ())))
def HA (xF:Flash) (a:Int):Option ((Int)⊕((Unit)⊕(Bool))):=
 bif(decide (a<(ln xF.Blocks)))then((gi xF.Blocks a).bind fun x1=>
 (bif((ln x1.Leaves) !=4)then(some true)
 else((BR x1.Wear 0 1000000000).bind fun v1=>
 some (!v1)):Option (Bool)).bind fun j1=>
 bif j1 then(some (.inr (.inr false)))
 else((Az (fun s:Int=>H9 x1 s) 0).bind (Sum.elim (fun v3=>(some (.inl (ad a 1)))) some)))
 else(some (.inr (.inl ())))
def ID (xF:Flash):Option (Bool):=
 (Az (fun s:Int=>HA xF s) 0).bind (Sum.elim (fun v4=>((BR (ln xF.Blocks) 3 10).bind fun v5=>
 some v5)) some)
def FT (xB:Block) (a:Int):Option ((Int)⊕((Unit)⊕(Int))):=
 bif(decide (a<(ln xB.Leaves)))then((gi xB.Leaves a).bind fun x1=>
 bif(x1.Is==0)then(some (.inr (.inr a)))
 else(some (.inl (ad a 1))))
 else(some (.inr (.inl ())))
def IA (xB:Block):Option (Int):=
 (Az (fun s:Int=>FT xB s) 0).bind (Sum.elim (fun v1=>(some 4)) some)
def VQ (xF:Flash) (xB:Int) (a:Int) (b:ByteArray):Option (Bool):=
 (BR xB 0 (sb (ln xF.Blocks) 1)).bind fun v1=>
 bif v1 then((gi xF.Blocks xB).bind fun x1=>
 bif(!x1.Bad)then(bif(decide (a<4))then((gi xF.Blocks xB).bind fun x2=>
 (IA x2).bind fun v2=>
 bif(a==v2)then((BR (FJ b) 1 120).bind fun v3=>
 some v3)
 else(some false))
 else(some false))
 else(some false))
 else(some false)
def Nl (xF:Flash) (xB:Int) (a:Int) (b:ByteArray):Option (Flash×Bool):=
 (H3 xF).bind fun v1=>
 ((ID xF).bind fun v2=>
 bif(!v2)then(some true)
 else((VQ xF xB a b).bind fun v3=>
 some (!v3)):Option (Bool)).bind fun j1=>
 bif j1 then(some (v1,false))
 else((gi v1.Blocks xB).bind fun x1=>
 (gi x1.Leaves a).bind fun x2=>
 some ((Flash.mk (si v1.Blocks xB (Block.mk x1.Bad x1.Wear (si x1.Leaves a (Leaf.mk 1 b))))),true))
def VU (xF:Flash) (xB:Int):Option (Flash×Bool):=
 (H3 xF).bind fun v1=>
 ((ID xF).bind fun v2=>
 bif(!v2)then(some true)
 else((BR xB 0 (sb (ln xF.Blocks) 1)).bind fun v3=>
 bif(!v3)then(some true)
 else((gi xF.Blocks xB).bind fun x1=>
 bif x1.Bad then(some true)
 else((gi xF.Blocks xB).bind fun x2=>
 some (x2.Wear==1000000000)))):Option (Bool)).bind fun j1=>
 bif j1 then(some (v1,false))
 else((gi xF.Blocks xB).bind fun x3=>
 (mk 24 (Leaf.mk 0 (bs [])) 4).bind fun q1=>
 (gi v1.Blocks xB).bind fun x4=>
 some ((Flash.mk (si v1.Blocks xB (Block.mk false (ad x3.Wear 1) q1))),true))
def Nn (xF:Flash) (xS:BD):Option (Flash×Bool):=
 bif(xS.Kind==1)then((Nl xF xS.Block xS.Leaf xS.Text).bind fun v1=>
 some (v1.1,v1.2))
 else(bif(xS.Kind==2)then((VU xF xS.Block).bind fun v2=>
 some (v2.1,v2.2))
 else((H3 xF).bind fun v3=>
 some (v3,false)))
def Fx (b:List BD) (c:Int) (a:List Block):Option ((Int×List Block)⊕((List Block)⊕((Flash×Int)))):=
 bif(decide (c<(ln b)))then(((gi b c).bind fun x1=>
 (Nn (Flash.mk a) x1).bind fun v2=>
 some (v2.2,v2.1.Blocks):Option (Bool×List Block)).bind fun j1=>
 bif(!j1.1)then(some (.inr (.inr ((Flash.mk a),c))))
 else(some (.inl ((ad c 1),j1.2))))
 else(some (.inr (.inl a)))
def L7 (xF:Flash) (a:List BD):Option (Flash×Int):=
 (H3 xF).bind fun v1=>
 (Az (fun s:Int×List Block=>Fx a s.1 s.2) (0,v1.Blocks)).bind (Sum.elim (fun v4=>(some ((Flash.mk v4),(ln a)))) some)
def Vn (a:List Int):Option (Bool):=
 some (decide ((ln a)>1048576))
def I7 (a:List Int) (c:Int) (b:Int):Option ((Int×Int)⊕(Int)):=
 (bif(decide (b<(ln a)))then(some (decide (b<4000)))
 else(some false):Option (Bool)).bind fun j1=>
 bif j1 then((gi a b).bind fun x1=>
 some (.inl ((ban .i64 (ad (ad (ml c 131) (IntKind.i64.wrap x1)) 7) 1073741823),(ad b 1))))
 else(some (.inr c))
def R2 (a:List Int):Option (BC):=
 (Az (fun s:Int×Int=>I7 a s.1 s.2) ((ad 36501 (ln a)),0)).bind fun v1=>
 some (BC.mk a 0 v1)
def I8 (xC:BC):Option (Int×BC):=
 bif(decide (xC.i_<(ln xC.b_)))then((gi xC.b_ xC.i_).bind fun x1=>
 some ((ban .i64 (ad (ban .i64 (bxo .i64 (Int.fdiv (ad (ml xC.h_ 6364136223846793005) 1442695040888963407) (2^(min (33:Int).toNat IntKind.i64.bits))) (Int.fdiv (ad (ml xC.h_ 6364136223846793005) 1442695040888963407) (2^(min (45:Int).toNat IntKind.i64.bits)))) 255) (IntKind.i64.wrap x1)) 255),(BC.mk xC.b_ (ad xC.i_ 1) (ad (ml xC.h_ 6364136223846793005) 1442695040888963407))))
 else(some ((ban .i64 (bxo .i64 (Int.fdiv (ad (ml xC.h_ 6364136223846793005) 1442695040888963407) (2^(min (33:Int).toNat IntKind.i64.bits))) (Int.fdiv (ad (ml xC.h_ 6364136223846793005) 1442695040888963407) (2^(min (45:Int).toNat IntKind.i64.bits)))) 255),(BC.mk xC.b_ xC.i_ (ad (ml xC.h_ 6364136223846793005) 1442695040888963407))))
def D0 (xC:BC) (xN:Int):Option (Int×BC):=
 bif(decide (xN<=0))then(some (0,xC))
 else(bif(decide (xN<=256))then((I8 xC).bind fun v1=>
 (rm .i64 v1.1 xN).bind fun x1=>
 some (x1,v1.2))
 else((I8 xC).bind fun v2=>
 (I8 v2.2).bind fun v3=>
 (I8 v3.2).bind fun v4=>
 (I8 v4.2).bind fun v5=>
 (rm .i64 (ad (ad (ad (ml v2.1 16777216) (ml v3.1 65536)) (ml v4.1 256)) v5.1) xN).bind fun x2=>
 some (x2,v5.2)))
def JN (xF:Flash) (xB:Int) (a:Int):Option (ByteArray×Bool):=
 ((BR xB 0 (sb (ln xF.Blocks) 1)).bind fun v1=>
 bif(!v1)then(some true)
 else((gi xF.Blocks xB).bind fun x1=>
 (BR a 0 (sb (ln x1.Leaves) 1)).bind fun v2=>
 bif(!v2)then(some true)
 else((gi xF.Blocks xB).bind fun x2=>
 (gi x2.Leaves a).bind fun x3=>
 some (x3.Is !=1))):Option (Bool)).bind fun j1=>
 bif j1 then(some ((bs []),false))
 else((gi xF.Blocks xB).bind fun x4=>
 (gi x4.Leaves a).bind fun x5=>
 some (x5.Text,true))
def H6 (a:Int) (b:Int):Option ((Int×Int)⊕(Int)):=
 bif(decide (b<8))then(bif((Int.tmod a 2)==1)then(some (.inl ((xr (IntKind.u32.wrap (Int.tdiv a 2)) 3558460437),(ad b 1))))
 else(some (.inl ((IntKind.u32.wrap (Int.tdiv a 2)),(ad b 1)))))
 else(some (.inr a))
def Jf (a:ByteArray) (b:Int) (c:Int):Option ((Int×Int)⊕(Int)):=
 bif(decide (c<(FJ a)))then((sx a c).bind fun x1=>
 (Az (fun s:Int×Int=>H6 s.1 s.2) ((xr b (IntKind.u32.wrap x1)),0)).bind fun v1=>
 some (.inl (v1,(ad c 1))))
 else(some (.inr b))
def PM (b:Int) (a:ByteArray):Option (Int):=
 (Az (fun s:Int×Int=>Jf a s.1 s.2) (b,0)).bind fun v2=>
 some v2
def M4 (a:ByteArray):Option (Int):=
 (PM 4294967295 a).bind fun v1=>
 some v1
def JJ (xX:Int):Option (ByteArray):=
 some (GS [(IntKind.u8.wrap (Int.fdiv xX (2^(min (24:Int).toNat IntKind.u32.bits)))),(IntKind.u8.wrap (Int.fdiv xX (2^(min (16:Int).toNat IntKind.u32.bits)))),(IntKind.u8.wrap (Int.fdiv xX (2^(min (8:Int).toNat IntKind.u32.bits)))),(IntKind.u8.wrap xX)])
def JK (a:ByteArray):Option (ByteArray×Bool):=
 (bif(decide ((sb (FJ a) 4)<0))then(some true)
 else(bif(decide ((sb (FJ a) 4)>20000))then(some true)
 else((sub a (sb (FJ a) 4) (FJ a)).bind fun x1=>
 (sub a 0 (sb (FJ a) 4)).bind fun x2=>
 (M4 x2).bind fun v1=>
 (JJ v1).bind fun v2=>
 some (!(seq x1 v2)))):Option (Bool)).bind fun j1=>
 bif j1 then(some ((bs []),false))
 else((sub a 0 (sb (FJ a) 4)).bind fun x3=>
 some (x3,true))
def Pe (b:Int) (a:List Int):Option ((Int×List Int)⊕(Int×List Int)):=
 bif(decide (b>127))then((ap 1 a [(IntKind.u8.wrap (ad (Int.tmod b 128) 128))]).bind fun q1=>
 some (.inl ((qu b 128),q1)))
 else(some (.inr (b,a)))
def HT (xN:Int):Option (ByteArray):=
 (Az (fun s:Int×List Int=>Pe s.1 s.2) (xN,[])).bind fun v1=>
 (ap 1 v1.2 [(IntKind.u8.wrap v1.1)]).bind fun q2=>
 some (GS q2)
def Dw (b:ByteArray) (e:Int) (d:Int) (a:Int) (c:Int):Option ((Int×Int×Int)⊕((Unit)⊕((Int×Int×Bool)))):=
 (bif(decide (c<(FJ b)))then(some (decide (c<(ad e 5))))
 else(some false):Option (Bool)).bind fun j1=>
 bif j1 then((sx b c).bind fun x1=>
 (sx b c).bind fun x2=>
 bif(decide (x2<128))then((bif(decide ((ad d (ml (Int.tmod (IntKind.i64.wrap x1) 128) a))>1000000000))then(some true)
 else((sub b e (ad c 1)).bind fun x3=>
 (HT (ad d (ml (Int.tmod (IntKind.i64.wrap x1) 128) a))).bind fun v2=>
 some (!(seq v2 x3))):Option (Bool)).bind fun j2=>
 bif j2 then(some (.inr (.inr (0,0,false))))
 else(some (.inr (.inr ((ad d (ml (Int.tmod (IntKind.i64.wrap x1) 128) a)),(ad c 1),true)))))
 else(some (.inl ((ad d (ml (Int.tmod (IntKind.i64.wrap x1) 128) a)),(ml a 128),(ad c 1)))))
 else(some (.inr (.inl ())))
def I9 (a:ByteArray) (b:Int):Option (Int×Int×Bool):=
 (BR b 0 (FJ a)).bind fun v1=>
 bif(!v1)then(some (0,0,false))
 else((Az (fun s:Int×Int×Int=>Dw a b s.1 s.2.1 s.2.2) (0,1,b)).bind (Sum.elim (fun v3=>(some (0,0,false))) some))
def Ej (xC:Ek):Option (Int×Ek):=
 (I9 xC.text_ xC.at_).bind fun v1=>
 (bif xC.bad_ then(some true)
 else(some (!v1.2.2)):Option (Bool)).bind fun j1=>
 bif j1 then(some (0,(Ek.mk xC.text_ xC.at_ true)))
 else(some (v1.1,(Ek.mk xC.text_ v1.2.1 xC.bad_)))
def Jl (xP:Page):Option (Bool):=
 ((BR xP.Kind 1 2).bind fun v1=>
 bif(!v1)then(some true)
 else((BR xP.Seq 1 1000000000).bind fun v2=>
 bif(!v2)then(some true)
 else((BR xP.Tx 1 1000000000).bind fun v3=>
 bif(!v3)then(some true)
 else((BR xP.Count 1 9).bind fun v4=>
 bif(!v4)then(some true)
 else((BR xP.Part 0 (sb xP.Count 1)).bind fun v5=>
 bif(!v5)then(some true)
 else(some (decide ((FJ xP.Text)>90))))))):Option (Bool)).bind fun j1=>
 bif j1 then(some false)
 else(bif(xP.Kind==2)then(some true)
 else(some (xP.Count==1)))
def L6 (xN:Int):Option (ByteArray):=
 some (GS [(IntKind.u8.wrap xN)])
def Jh (a:ByteArray):Option (ByteArray×Bool):=
 bif(decide ((FJ a)>20000))then(some ((bs []),false))
 else((M4 a).bind fun v1=>
 (JJ v1).bind fun v2=>
 (Tf a v2).bind fun x1=>
 some (x1,true))
def EK (xP:Page):Option (ByteArray×Bool):=
 (Jl xP).bind fun v1=>
 bif(!v1)then(some ((bs []),false))
 else((L6 xP.Kind).bind fun v2=>
 (HT xP.Seq).bind fun v3=>
 (Tf v2 v3).bind fun x1=>
 (HT xP.Tx).bind fun v4=>
 (Tf x1 v4).bind fun x2=>
 (HT xP.Part).bind fun v5=>
 (Tf x2 v5).bind fun x3=>
 (HT xP.Count).bind fun v6=>
 (Tf x3 v6).bind fun x4=>
 (Tf x4 xP.Text).bind fun x5=>
 (Jh x5).bind fun v7=>
 some (v7.1,v7.2))
def DX (xT:ByteArray):Option (Page×Bool):=
 (JK xT).bind fun v1=>
 (bif(!v1.2)then(some true)
 else(some (decide ((FJ v1.1)<1))):Option (Bool)).bind fun j1=>
 (Ej (Ek.mk v1.1 1 j1)).bind fun v2=>
 (Ej v2.2).bind fun v3=>
 (Ej v3.2).bind fun v4=>
 (Ej v4.2).bind fun v5=>
 bif v5.2.bad_ then(some ((Page.mk 0 0 0 0 0 (bs [])),false))
 else((sx v1.1 0).bind fun x1=>
 (sub v1.1 v5.2.at_ (FJ v1.1)).bind fun x2=>
 (EK (Page.mk (IntKind.i64.wrap x1) v2.1 v3.1 v4.1 v5.1 x2)).bind fun v6=>
 (bif(!v6.2)then(some true)
 else(some (!(seq v6.1 xT))):Option (Bool)).bind fun j2=>
 bif j2 then(some ((Page.mk 0 0 0 0 0 (bs [])),false))
 else(some ((Page.mk (IntKind.i64.wrap x1) v2.1 v3.1 v4.1 v5.1 x2),true)))
def E8 (xF:Flash) (c:Int) (a:List Ak) (b:Int):Option ((List Ak×Int)⊕(List Ak)):=
 (gi xF.Blocks c).bind fun x1=>
 bif(decide (b<(ln x1.Leaves)))then((JN xF c b).bind fun v1=>
 (DX v1.1).bind fun v2=>
 (bif v1.2 then(some v2.2)
 else(some false):Option (Bool)).bind fun j1=>
 bif j1 then((ap 72 a [(Ak.mk c b v2.1)]).bind fun q1=>
 some (.inl (q1,(ad b 1))))
 else(some (.inl (a,(ad b 1)))))
 else(some (.inr a))
def Ee (xF:Flash) (a:List Ak) (b:Int):Option ((List Ak×Int)⊕(List Ak)):=
 bif(decide (b<(ln xF.Blocks)))then((Az (fun s:List Ak×Int=>E8 xF b s.1 s.2) (a,0)).bind fun v3=>
 some (.inl (v3,(ad b 1))))
 else(some (.inr a))
def Ji (a:List Ak) (b:Int):Option ((List Ak×Int)⊕(List Ak)):=
 (bif(decide (b>0))then((gi a (sb b 1)).bind fun x2=>
 (gi a b).bind fun x3=>
 some (decide (x2.Page.Seq>x3.Page.Seq)))
 else(some false):Option (Bool)).bind fun j2=>
 bif j2 then((gi a b).bind fun x4=>
 (gi a (sb b 1)).bind fun x5=>
 (gi a b).bind fun x6=>
 (gi (si a b x5) (sb b 1)).bind fun x7=>
 some (.inl ((si (si a b x5) (sb b 1) x4),(sb b 1))))
 else(some (.inr a))
def Jj (a:List Ak) (b:Int):Option ((List Ak×Int)⊕(List Ak)):=
 bif(decide (b<(ln a)))then((Az (fun s:List Ak×Int=>Ji s.1 s.2) (a,b)).bind fun v5=>
 some (.inl (v5,(ad b 1))))
 else(some (.inr a))
def Fp (xF:Flash):Option (List Ak):=
 (Az (fun s:List Ak×Int=>Ee xF s.1 s.2) ([],0)).bind fun v4=>
 (Az (fun s:List Ak×Int=>Jj s.1 s.2) (v4,1)).bind fun v6=>
 some v6
def NU:Option (Store):=
 some (Store.mk [] (Arena.mk []) 1)
def PP (xR:Df):Option (Bool):=
 (BR xR.Arg 0 1000000000).bind fun v1=>
 bif(!v1)then(some false)
 else(bif(xR.Kind==1)then((bif(xR.Vol==0)then(some (xR.Chunk==0))
 else(some false):Option (Bool)).bind fun j1=>
 some j1)
 else(((BR xR.Kind 2 5).bind fun v2=>
 bif(!v2)then(some true)
 else((BR xR.Vol 1 9).bind fun v3=>
 bif(!v3)then(some true)
 else(bif(xR.Kind !=4)then(some (xR.Chunk !=0))
 else(some false))):Option (Bool)).bind fun j2=>
 bif j2 then(some false)
 else(bif(xR.Kind==2)then(some (decide (xR.Arg<=9)))
 else(bif(xR.Kind==3)then(some (xR.Arg==0))
 else(bif(xR.Kind==4)then(bif(decide (xR.Arg<16))then((BR xR.Chunk 1 1000000000).bind fun v4=>
 some v4)
 else(some false))
 else(some (decide (xR.Arg<16))))))))
def Ef (xT:ByteArray) (a:List Df) (y01:ByteArray) (y11:Int) (y21:Bool):Option ((List Df×ByteArray×Int×Bool)⊕((List Df)⊕((List Df×Bool)))):=
 (bif(decide (y11<(FJ xT)))then(some (!y21))
 else(some false):Option (Bool)).bind fun j1=>
 bif j1 then((sx xT y11).bind fun x1=>
 (Ej (Ek.mk y01 (ad y11 1) y21)).bind fun v1=>
 (Ej v1.2).bind fun v2=>
 (bif v2.2.bad_ then(some true)
 else((PP (Df.mk (qu (IntKind.i64.wrap x1) 16) (Int.tmod (IntKind.i64.wrap x1) 16) v1.1 v2.1)).bind fun v3=>
 some (!v3)):Option (Bool)).bind fun j2=>
 bif j2 then(some (.inr (.inr ([],false))))
 else((ap 32 a [(Df.mk (qu (IntKind.i64.wrap x1) 16) (Int.tmod (IntKind.i64.wrap x1) 16) v1.1 v2.1)]).bind fun q1=>
 some (.inl (q1,v2.2.text_,v2.2.at_,v2.2.bad_))))
 else(some (.inr (.inl a)))
def JM (xT:ByteArray):Option (List Df×Bool):=
 (Az (fun s:List Df×ByteArray×Int×Bool=>Ef xT s.1 s.2.1 s.2.2.1 s.2.2.2) ([],xT,0,false)).bind (Sum.elim (fun v4=>(some (v4,true))) some)
def Ip (f:List Ak) (h:Int) (d:Int) (b:Int) (e:ByteArray) (c:Bool) (g:Int) (a:Int):Option ((Int×ByteArray×Bool×Int×Int)⊕(Int×ByteArray×Bool×Int)):=
 (bif(decide (g<(ln f)))then(some (!c))
 else(some false):Option (Bool)).bind fun j2=>
 bif j2 then((gi f g).bind fun x1=>
 (bif(x1.Page.Kind !=2)then(some true)
 else(bif(x1.Page.Tx !=h)then(some true)
 else(bif(x1.Page.Part !=d)then(some true)
 else(bif(decide (d>0))then(some (x1.Page.Count !=b))
 else(some false)))):Option (Bool)).bind fun j3=>
 bif j3 then(some (.inl (b,e,c,(ad g 1),a)))
 else((Tf e x1.Page.Text).bind fun x2=>
 (bif(d==0)then(some true)
 else(some (decide (x1.Page.Seq<a))):Option (Bool)).bind fun j4=>
 bif j4 then(some (.inl (x1.Page.Count,x2,true,(ad g 1),x1.Page.Seq)))
 else(some (.inl (x1.Page.Count,x2,true,(ad g 1),a)))))
 else(some (.inr (b,e,c,a)))
def NS (e:List Ak) (f:Int) (b:Int) (c:ByteArray) (a:Int) (d:Int):Option ((Int×ByteArray×Int×Int)⊕((ByteArray×Int)⊕((Tx×Bool)))):=
 (bif(a==0)then(some true)
 else(some (decide (a<b))):Option (Bool)).bind fun j1=>
 bif j1 then((Az (fun s:Int×ByteArray×Bool×Int×Int=>Ip e f a s.1 s.2.1 s.2.2.1 s.2.2.2.1 s.2.2.2.2) (b,c,false,0,d)).bind fun v1=>
 bif(!v1.2.2.1)then(some (.inr (.inr ((Tx.mk f v1.2.2.2 []),false))))
 else(some (.inl (v1.1,v1.2.1,(ad a 1),v1.2.2.2))))
 else(some (.inr (.inl (c,d))))
def UL (a:List Ak) (b:Int):Option (Tx×Bool):=
 (Az (fun s:Int×ByteArray×Int×Int=>NS a b s.1 s.2.1 s.2.2.1 s.2.2.2) (0,(bs []),0,0)).bind (Sum.elim (fun v2=>((JM v2.1).bind fun v3=>
 some ((Tx.mk b v2.2 v3.1),v3.2))) some)
def K7 (a:List Int) (x1:Ak) (b:List Int) (c:Int):Option ((List Int×Int)⊕(List Int)):=
 bif(decide (c<(ln a)))then((gi a c).bind fun x2=>
 bif(decide (x2<x1.Page.Tx))then((gi a c).bind fun x3=>
 (ap 8 b [x3]).bind fun q1=>
 some (.inl (q1,(ad c 1))))
 else(some (.inl (b,(ad c 1)))))
 else(some (.inr b))
def K6 (a:List Int) (x1:Ak) (b:List Int) (c:Int):Option ((List Int×Int)⊕(List Int)):=
 bif(decide (c<(ln a)))then((gi a c).bind fun x4=>
 bif(decide (x4>x1.Page.Tx))then((gi a c).bind fun x5=>
 (ap 8 b [x5]).bind fun q3=>
 some (.inl (q3,(ad c 1))))
 else(some (.inl (b,(ad c 1)))))
 else(some (.inr b))
def IC (b:List Ak) (a:List Int) (c:Int):Option ((List Int×Int)⊕(List Int)):=
 bif(decide (c<(ln b)))then((gi b c).bind fun x1=>
 bif(x1.Page.Kind !=2)then(some (.inl (a,(ad c 1))))
 else((Az (fun s:List Int×Int=>K7 a x1 s.1 s.2) ([],0)).bind fun v1=>
 (ap 8 v1 [x1.Page.Tx]).bind fun q2=>
 (Az (fun s:List Int×Int=>K6 a x1 s.1 s.2) (q2,0)).bind fun v2=>
 some (.inl (v2,(ad c 1)))))
 else(some (.inr a))
def IB (c:List Ak) (v3:List Int) (a:List Tx) (b:Int):Option ((List Tx×Int)⊕(List Tx)):=
 bif(decide (b<(ln v3)))then((gi v3 b).bind fun x6=>
 (UL c x6).bind fun v4=>
 bif v4.2 then((ap 40 a [v4.1]).bind fun q4=>
 some (.inl (q4,(ad b 1))))
 else(some (.inl (a,(ad b 1)))))
 else(some (.inr a))
def Pg (a:List Ak):Option (List Tx):=
 (Az (fun s:List Int×Int=>IC a s.1 s.2) ([],0)).bind fun v3=>
 (Az (fun s:List Tx×Int=>IB a v3 s.1 s.2) ([],0)).bind fun v5=>
 some v5
def FP (a:List Tx) (c:Int) (b:Int):Option ((Int×Int)⊕(Int)):=
 bif(decide (b<(ln a)))then((gi a b).bind fun x1=>
 bif(decide ((ln x1.Recs)>0))then((gi a b).bind fun x2=>
 (gi x2.Recs 0).bind fun x3=>
 bif(x3.Kind==1)then(some (.inl (b,(ad b 1))))
 else(some (.inl (c,(ad b 1)))))
 else(some (.inl (c,(ad b 1)))))
 else(some (.inr c))
def Hk (a:List Tx) (b:List Tx) (c:Int):Option ((List Tx×Int)⊕(List Tx)):=
 bif(decide (c<(ln a)))then((gi a c).bind fun x4=>
 (ap 32 [] x4.Recs).bind fun q1=>
 (ap 40 b [(Tx.mk x4.Num x4.Seq q1)]).bind fun q2=>
 some (.inl (q2,(ad c 1))))
 else(some (.inr b))
def M5 (a:List Tx):Option (List Tx):=
 (Az (fun s:Int×Int=>FP a s.1 s.2) (0,0)).bind fun v1=>
 (Az (fun s:List Tx×Int=>Hk a s.1 s.2) ([],v1)).bind fun v2=>
 some v2
def Jc (xA:Arena) (b:Int) (a:List BU):Option ((Int×List BU)⊕(List BU)):=
 bif(decide (b<(ln xA.Knots)))then((gi xA.Knots b).bind fun x1=>
 (gi xA.Knots b).bind fun x2=>
 (ap 8 [] x2.Kids).bind fun q1=>
 (ap 32 a [(BU.mk x1.Leaf q1)]).bind fun q2=>
 some (.inl ((ad b 1),q2)))
 else(some (.inr a))
def L5 (xA:Arena):Option (Arena):=
 (Az (fun s:Int×List BU=>Jc xA s.1 s.2) (0,[])).bind fun v1=>
 some (Arena.mk v1)
def Ev (xS:Store):Option (Store):=
 (ap 16 [] xS.Vols).bind fun q1=>
 (L5 xS.Arena).bind fun v1=>
 some (Store.mk q1 v1 xS.Next)
def DE (xA:Arena) (b:Int) (x1:BU) (a:Int):Option ((Int)⊕((Unit)⊕((Int)⊕((Unit)⊕(Bool))))):=
 bif(decide (a<4))then((gi x1.Kids a).bind fun x2=>
 (bif x1.Leaf then(bif(decide (x2<0))then(some true)
 else(bif(!x1.Leaf)then(bif(x2 !=(-1))then((BR x2 0 (sb b 1)).bind fun v1=>
 bif(!v1)then(some true)
 else((gi xA.Knots x2).bind fun x3=>
 some (!x3.Leaf)))
 else(some false))
 else(some false)))
 else(bif(!x1.Leaf)then(bif(x2 !=(-1))then((BR x2 0 (sb b 1)).bind fun v2=>
 bif(!v2)then(some true)
 else((gi xA.Knots x2).bind fun x4=>
 some (!x4.Leaf)))
 else(some false))
 else(some false)):Option (Bool)).bind fun j1=>
 bif j1 then(some (.inr (.inr (.inr (.inr false)))))
 else(some (.inl (ad a 1))))
 else(some (.inr (.inl ())))
def DF (xA:Arena) (a:Int):Option ((Int)⊕((Unit)⊕(Bool))):=
 bif(decide (a<(ln xA.Knots)))then((gi xA.Knots a).bind fun x1=>
 bif((ln x1.Kids) !=4)then(some (.inr (.inr false)))
 else((Az (fun s:Int=>DE xA a x1 s) 0).bind (Sum.elim (fun v3=>(some (.inl (ad a 1)))) some)))
 else(some (.inr (.inl ())))
def FX (xA:Arena):Option (Bool):=
 (Az (fun s:Int=>DF xA s) 0).bind (Sum.elim (fun v4=>(some true)) some)
def GB (xA:Arena) (a:Int):Option (Bool):=
 bif(a==(-1))then(some true)
 else((BR a 0 (sb (ln xA.Knots) 1)).bind fun v1=>
 bif v1 then((gi xA.Knots a).bind fun x1=>
 some (!x1.Leaf))
 else(some false))
def LQ (xA:Arena) (b:Int) (a:Int):Option (Int):=
 bif(decide (b<0))then(some 0)
 else((gi xA.Knots b).bind fun x1=>
 (gi x1.Kids (qu a 4)).bind fun x2=>
 bif(decide (x2<0))then(some 0)
 else((gi xA.Knots x2).bind fun x3=>
 (gi x3.Kids (Int.tmod a 4)).bind fun x4=>
 some x4))
def GA (xS:Store) (a:List Int) (b:Int):Option ((List Int×Int)⊕(List Int)):=
 bif(decide (b<(ln xS.Vols)))then((gi xS.Vols b).bind fun x1=>
 (ap 8 a [x1.Root]).bind fun q1=>
 some (.inl (q1,(ad b 1))))
 else(some (.inr a))
def LP (xS:Store):Option (List Int):=
 (Az (fun s:List Int×Int=>GA xS s.1 s.2) ([],0)).bind fun v1=>
 some v1
def I3 (xA:Arena) (b:Int) (a:List Bool) (c:Int):Option ((List Bool×Int)⊕(List Bool)):=
 bif(decide (c<4))then((gi xA.Knots b).bind fun x2=>
 (gi x2.Kids c).bind fun x3=>
 bif(decide (x3>=0))then((gi xA.Knots b).bind fun x4=>
 (gi x4.Kids c).bind fun x5=>
 (gi a x5).bind fun x6=>
 some (.inl ((si a x5 true),(ad c 1))))
 else(some (.inl (a,(ad c 1)))))
 else(some (.inr a))
def R0 (xA:Arena) (a:Int):Option (List Bool):=
 (mk 1 false (ln xA.Knots)).bind fun q1=>
 bif(decide (a<0))then(some q1)
 else((gi q1 a).bind fun x1=>
 (Az (fun s:List Bool×Int=>I3 xA a s.1 s.2) ((si q1 a true),0)).bind fun v1=>
 some v1)
def Fo (xA:Arena) (a:List Int) (b:Bool) (c:Int):Option ((Bool×Int)⊕(Bool)):=
 (bif(decide (c<(ln a)))then(some b)
 else(some false):Option (Bool)).bind fun j1=>
 bif j1 then((gi a c).bind fun x1=>
 (GB xA x1).bind fun v2=>
 some (.inl (v2,(ad c 1))))
 else(some (.inr b))
def G3 (v5:List Bool) (a:List Bool) (b:Int):Option ((List Bool×Int)⊕(List Bool)):=
 bif(decide (b<(ln v5)))then((gi a b).bind fun x3=>
 bif x3 then((gi a b).bind fun x4=>
 some (.inl ((si a b true),(ad b 1))))
 else((gi v5 b).bind fun x5=>
 (gi a b).bind fun x6=>
 some (.inl ((si a b x5),(ad b 1)))))
 else(some (.inr a))
def Fl (xA:Arena) (a:List Int) (b:List Bool) (c:Int):Option ((List Bool×Int)⊕(List Bool)):=
 bif(decide (c<(ln a)))then((gi a c).bind fun x2=>
 (R0 xA x2).bind fun v5=>
 (Az (fun s:List Bool×Int=>G3 v5 s.1 s.2) (b,0)).bind fun v6=>
 some (.inl (v6,(ad c 1))))
 else(some (.inr b))
def Fj (c:List Int) (j2:Bool×List Int) (b:Int) (a:List Int):Option ((Int×List Int)⊕(List Int)):=
 (bif(decide (b<4))then(some (!j2.1))
 else(some false):Option (Bool)).bind fun j3=>
 bif j3 then((gi a b).bind fun x10=>
 bif(decide (x10>=0))then((gi a b).bind fun x11=>
 (gi c x11).bind fun x12=>
 (gi a b).bind fun x13=>
 some (.inl ((ad b 1),(si a b x12))))
 else(some (.inl ((ad b 1),a))))
 else(some (.inr a))
def Fk (xA:Arena) (v7:List Bool) (a:List Int) (c:Int) (b:List BU):Option ((List Int×Int×List BU)⊕(List Int×List BU)):=
 bif(decide (c<(ln xA.Knots)))then((gi v7 c).bind fun x7=>
 bif(!x7)then(some (.inl (a,(ad c 1),b)))
 else(((gi xA.Knots c).bind fun x8=>
 (gi xA.Knots c).bind fun x9=>
 (ap 8 [] x9.Kids).bind fun q4=>
 some (x8.Leaf,q4):Option (Bool×List Int)).bind fun j2=>
 (Az (fun s:Int×List Int=>Fj a j2 s.1 s.2) (0,j2.2)).bind fun v8=>
 (gi a c).bind fun x14=>
 (ap 32 b [(BU.mk j2.1 v8)]).bind fun q7=>
 some (.inl ((si a c (ln b)),(ad c 1),q7))))
 else(some (.inr (a,b)))
def Fi (v9:List Int×List BU) (a:List Int) (b:Int):Option ((List Int×Int)⊕(List Int)):=
 bif(decide (b<(ln a)))then((gi a b).bind fun x15=>
 bif(decide (x15>=0))then((gi a b).bind fun x16=>
 (gi v9.1 x16).bind fun x17=>
 (gi a b).bind fun x18=>
 some (.inl ((si a b x17),(ad b 1))))
 else(some (.inl (a,(ad b 1)))))
 else(some (.inr a))
def Je (xA:Arena) (a:List Int):Option (Arena×List Int):=
 (ap 8 [] a).bind fun q1=>
 (FX xA).bind fun v1=>
 (Az (fun s:Bool×Int=>Fo xA a s.1 s.2) (v1,0)).bind fun v3=>
 bif(!v3)then((L5 xA).bind fun v4=>
 some (v4,q1))
 else((mk 1 false (ln xA.Knots)).bind fun q2=>
 (Az (fun s:List Bool×Int=>Fl xA a s.1 s.2) (q2,0)).bind fun v7=>
 (mk 8 0 (ln xA.Knots)).bind fun q3=>
 (Az (fun s:List Int×Int×List BU=>Fk xA v7 s.1 s.2.1 s.2.2) (q3,0,[])).bind fun v9=>
 (Az (fun s:List Int×Int=>Fi v9 s.1 s.2) (q1,0)).bind fun v10=>
 some ((Arena.mk v9.2),v10))
def H7 (xS:Store) (x1:Vol) (a:Int):Option ((Int)⊕((Unit)⊕((Int)⊕((Unit)⊕(Bool))))):=
 bif(decide (a<16))then((LQ xS.Arena x1.Root a).bind fun v6=>
 bif(decide (v6>=xS.Next))then(some (.inr (.inr (.inr (.inr false)))))
 else(some (.inl (ad a 1))))
 else(some (.inr (.inl ())))
def H8 (xS:Store) (a:Int):Option ((Int)⊕((Unit)⊕(Bool))):=
 bif(decide (a<(ln xS.Vols)))then((gi xS.Vols a).bind fun x1=>
 ((BR x1.Id 1 9).bind fun v3=>
 bif(!v3)then(some true)
 else(bif(decide (a>0))then((gi xS.Vols (sb a 1)).bind fun x2=>
 bif(decide (x2.Id>=x1.Id))then(some true)
 else((GB xS.Arena x1.Root).bind fun v4=>
 some (!v4)))
 else((GB xS.Arena x1.Root).bind fun v5=>
 some (!v5))):Option (Bool)).bind fun j2=>
 bif j2 then(some (.inr (.inr false)))
 else((Az (fun s:Int=>H7 xS x1 s) 0).bind (Sum.elim (fun v7=>(some (.inl (ad a 1)))) some)))
 else(some (.inr (.inl ())))
def Nk (xS:Store):Option (Bool):=
 (bif(decide ((ln xS.Vols)>3))then(some true)
 else((FX xS.Arena).bind fun v1=>
 bif(!v1)then(some true)
 else((BR xS.Next 1 1000000000).bind fun v2=>
 some (!v2))):Option (Bool)).bind fun j1=>
 bif j1 then(some false)
 else((Az (fun s:Int=>H8 xS s) 0).bind (Sum.elim (fun v8=>(((LP xS).bind fun v9=>
 (Je xS.Arena v9).bind fun v10=>
 some v10.1.Knots:Option (List BU)).bind fun j3=>
 some ((ln j3)==(ln xS.Arena.Knots)))) some))
def JH (xS:Store) (b:Int) (a:Int):Option ((Int)⊕((Unit)⊕(Int))):=
 bif(decide (a<(ln xS.Vols)))then((gi xS.Vols a).bind fun x1=>
 bif(x1.Id==b)then(some (.inr (.inr a)))
 else(some (.inl (ad a 1))))
 else(some (.inr (.inl ())))
def Gt (xS:Store) (a:Int):Option (Int):=
 (Az (fun s:Int=>JH xS a s) 0).bind (Sum.elim (fun v1=>(some (-1))) some)
def Ky (xS:Store) (xR:Df) (a:List Vol) (b:Int):Option ((List Vol×Int)⊕(List Vol)):=
 bif(decide (b<(ln xS.Vols)))then((gi xS.Vols b).bind fun x2=>
 bif(decide (x2.Id<xR.Vol))then((gi xS.Vols b).bind fun x3=>
 (ap 16 a [x3]).bind fun q1=>
 some (.inl (q1,(ad b 1))))
 else(some (.inl (a,(ad b 1)))))
 else(some (.inr a))
def Kx (xS:Store) (xR:Df) (a:List Vol) (b:Int):Option ((List Vol×Int)⊕(List Vol)):=
 bif(decide (b<(ln xS.Vols)))then((gi xS.Vols b).bind fun x4=>
 bif(decide (x4.Id>xR.Vol))then((gi xS.Vols b).bind fun x5=>
 (ap 16 a [x5]).bind fun q3=>
 some (.inl (q3,(ad b 1))))
 else(some (.inl (a,(ad b 1)))))
 else(some (.inr a))
def LO (xS:Store) (xR:Df):Option (Store×Bool):=
 (bif(decide (xR.Arg>0))then((Gt xS xR.Arg).bind fun v1=>
 bif(decide (v1<0))then((Ev xS).bind fun v2=>
 some (.inr (v2,false)))
 else((gi xS.Vols v1).bind fun x1=>
 some (.inl x1.Root)))
 else(some (.inl (-1))):Option ((Int)⊕((Store×Bool)))).bind (Sum.elim (fun j1=>(((Gt xS xR.Vol).bind fun v3=>
 bif(decide (v3>=0))then(some true)
 else(some ((ln xS.Vols)==3)):Option (Bool)).bind fun j2=>
 bif j2 then((Ev xS).bind fun v4=>
 some (v4,false))
 else((Ev xS).bind fun v5=>
 (Az (fun s:List Vol×Int=>Ky xS xR s.1 s.2) ([],0)).bind fun v6=>
 (ap 16 v6 [(Vol.mk xR.Vol j1)]).bind fun q2=>
 (Az (fun s:List Vol×Int=>Kx xS xR s.1 s.2) (q2,0)).bind fun v7=>
 some ((Store.mk v7 v5.Arena v5.Next),true)))) some)
def HS (j1:List Int×List BU) (b:Int) (a:List Vol):Option ((Int×List Vol)⊕(List Vol)):=
 bif(decide (b<(ln a)))then((gi j1.1 b).bind fun x1=>
 (gi a b).bind fun x2=>
 some (.inl ((ad b 1),(si a b (Vol.mk x2.Id x1)))))
 else(some (.inr a))
def Gs (xS:Store):Option (Store):=
 ((LP xS).bind fun v1=>
 (Je xS.Arena v1).bind fun v2=>
 some (v2.2,v2.1.Knots):Option (List Int×List BU)).bind fun j1=>
 ((ap 16 [] xS.Vols).bind fun q1=>
 some q1:Option (List Vol)).bind fun j2=>
 (Az (fun s:Int×List Vol=>HS j1 s.1 s.2) (0,j2)).bind fun v6=>
 some (Store.mk v6 (Arena.mk j1.2) xS.Next)
def UN (xA:Arena) (b:Int) (a:Int) (xN:Int):Option (Arena×Int):=
 (L5 xA).bind fun v1=>
 ((FX xA).bind fun v2=>
 bif(!v2)then(some true)
 else((GB xA b).bind fun v3=>
 bif(!v3)then(some true)
 else((BR a 0 15).bind fun v4=>
 bif(!v4)then(some true)
 else(some (decide (xN<0))))):Option (Bool)).bind fun j1=>
 bif j1 then(some (v1,b))
 else((mk 8 0 4).bind fun q1=>
 (bif(decide (b>=0))then((gi xA.Knots b).bind fun x1=>
 (ap 8 [] x1.Kids).bind fun q2=>
 (gi q2 (qu a 4)).bind fun x2=>
 bif(decide (x2>=0))then((gi xA.Knots x2).bind fun x3=>
 (ap 8 [] x3.Kids).bind fun q3=>
 some (q3,q2))
 else(some (q1,q2)))
 else(some (q1,[(-1),(-1),(-1),(-1)])):Option (List Int×List Int)).bind fun j2=>
 (gi j2.1 (Int.tmod a 4)).bind fun x4=>
 (gi j2.2 (qu a 4)).bind fun x5=>
 (ap 32 v1.Knots [(BU.mk true (si j2.1 (Int.tmod a 4) xN)),(BU.mk false (si j2.2 (qu a 4) (ln v1.Knots)))]).bind fun q4=>
 some ((Arena.mk q4),(sb (ln q4) 1)))
def UO (xS:Store) (xR:Df):Option (Store×Bool):=
 ((Nk xS).bind fun v1=>
 bif(!v1)then(some true)
 else((PP xR).bind fun v2=>
 some (!v2)):Option (Bool)).bind fun j1=>
 bif j1 then((Ev xS).bind fun v3=>
 some (v3,false))
 else(bif(xR.Kind==1)then((bif(xR.Arg==0)then(some 1)
 else(some xR.Arg):Option (Int)).bind fun j2=>
 some ((Store.mk [] (Arena.mk []) j2),true))
 else(bif(xR.Kind==2)then((LO xS xR).bind fun v4=>
 some (v4.1,v4.2))
 else((Gt xS xR.Vol).bind fun v5=>
 (bif(decide (v5<0))then(some true)
 else(some (xR.Chunk==1000000000)):Option (Bool)).bind fun j3=>
 bif j3 then((Ev xS).bind fun v6=>
 some (v6,false))
 else((Ev xS).bind fun v7=>
 bif(xR.Kind==3)then((dr xS.Vols 0 v5).bind fun x1=>
 (dr xS.Vols (ad v5 1) (ln xS.Vols)).bind fun x2=>
 (ap 16 [] x1).bind fun q1=>
 (ap 16 q1 x2).bind fun q2=>
 (Gs (Store.mk q2 v7.Arena v7.Next)).bind fun v8=>
 some (v8,true))
 else(((gi xS.Vols v5).bind fun x3=>
 (UN xS.Arena x3.Root xR.Arg xR.Chunk).bind fun v9=>
 some (v9.2,v9.1.Knots):Option (Int×List BU)).bind fun j4=>
 (gi v7.Vols v5).bind fun x4=>
 bif(decide (xR.Chunk>=v7.Next))then((Gs (Store.mk (si v7.Vols v5 (Vol.mk x4.Id j4.1)) (Arena.mk j4.2) (ad xR.Chunk 1))).bind fun v11=>
 some (v11,true))
 else((Gs (Store.mk (si v7.Vols v5 (Vol.mk x4.Id j4.1)) (Arena.mk j4.2) v7.Next)).bind fun v12=>
 some (v12,true)))))))
def GG (xS:Store) (d:List Df) (e:Int) (a:List Vol) (b:List BU) (c:Int):Option ((Int×List Vol×List BU×Int)⊕((List Vol×List BU×Int)⊕((Store×Bool)))):=
 bif(decide (e<(ln d)))then(((gi d e).bind fun x1=>
 (UO (Store.mk a (Arena.mk b) c) x1).bind fun v2=>
 some (v2.2,v2.1.Vols,v2.1.Arena.Knots,v2.1.Next):Option (Bool×List Vol×List BU×Int)).bind fun j1=>
 bif(!j1.1)then((Ev xS).bind fun v4=>
 some (.inr (.inr (v4,false))))
 else(some (.inl ((ad e 1),j1.2.1,j1.2.2.1,j1.2.2.2))))
 else(some (.inr (.inl (a,b,c))))
def NY (xS:Store) (a:List Df):Option (Store×Bool):=
 (Ev xS).bind fun v1=>
 (Az (fun s:Int×List Vol×List BU×Int=>GG xS a s.1 s.2.1 s.2.2.1 s.2.2.2) (0,v1.Vols,v1.Arena.Knots,v1.Next)).bind (Sum.elim (fun v5=>(some ((Store.mk v5.1 (Arena.mk v5.2.1) v5.2.2),true))) some)
def GF (v2:List Ak) (a:Int) (b:Int) (c:Int):Option ((Int×Int×Int)⊕(Int×Int)):=
 bif(decide (a<(ln v2)))then((gi v2 a).bind fun x1=>
 (bif(decide (x1.Page.Seq>=b))then((gi v2 a).bind fun x2=>
 some (ad x2.Page.Seq 1))
 else(some b):Option (Int)).bind fun j1=>
 ((gi v2 a).bind fun x3=>
 bif(x3.Page.Kind==2)then((gi v2 a).bind fun x4=>
 some (decide (x4.Page.Tx>=c)))
 else(some false):Option (Bool)).bind fun j2=>
 bif j2 then((gi v2 a).bind fun x5=>
 some (.inl ((ad a 1),j1,(ad x5.Page.Tx 1))))
 else(some (.inl ((ad a 1),j1,c))))
 else(some (.inr (b,c)))
def GE (v7:List Tx) (a:Int) (b:List Vol) (c:List BU) (d:Int) (e:Int):Option ((Int×List Vol×List BU×Int×Int)⊕(List Vol×List BU×Int×Int)):=
 bif(decide (a<(ln v7)))then((bif(a==0)then((gi v7 a).bind fun x6=>
 some x6.Num)
 else(some e):Option (Int)).bind fun j3=>
 (gi v7 a).bind fun x7=>
 (NY (Store.mk b (Arena.mk c) d) x7.Recs).bind fun v8=>
 some (.inl ((ad a 1),v8.1.Vols,v8.1.Arena.Knots,v8.1.Next,j3)))
 else(some (.inr (b,c,d,e)))
def EL (xF:Flash):Option (AE×Bool):=
 (ID xF).bind fun v1=>
 bif(!v1)then(some ((AE.mk (Flash.mk []) (Store.mk [] (Arena.mk []) 0) 0 0 0),false))
 else((Fp xF).bind fun v2=>
 (H3 xF).bind fun v3=>
 (NU).bind fun v4=>
 (Az (fun s:Int×Int×Int=>GF v2 s.1 s.2.1 s.2.2) (0,1,1)).bind fun v5=>
 (Pg v2).bind fun v6=>
 (M5 v6).bind fun v7=>
 (Az (fun s:Int×List Vol×List BU×Int×Int=>GE v7 s.1 s.2.1 s.2.2.1 s.2.2.2.1 s.2.2.2.2) (0,v4.Vols,v4.Arena.Knots,v4.Next,0)).bind fun v9=>
 some ((AE.mk v3 (Store.mk v9.1 (Arena.mk v9.2.1) v9.2.2.1) v5.1 v5.2 v9.2.2.2),true))
def M9 (a:Int):Option (AE×Bool):=
 (NX a).bind fun v1=>
 bif(!v1.2)then(some ((AE.mk (Flash.mk []) (Store.mk [] (Arena.mk []) 0) 0 0 0),false))
 else((EL v1.1).bind fun v2=>
 some (v2.1,v2.2))
def Lk (xC:BC) (a:List Int):Option (Int×BC):=
 (D0 xC (ln a)).bind fun v1=>
 (gi a v1.1).bind fun x1=>
 some (x1,v1.2)
def I6 (xC:BC) (xN:Int):Option (Bool×BC):=
 (D0 xC xN).bind fun v1=>
 some ((v1.1==0),v1.2)
def Nh (xC:BC) (a:List ByteArray):Option (ByteArray×BC):=
 (D0 xC (ln a)).bind fun v1=>
 (gi a v1.1).bind fun x1=>
 some (x1,v1.2)
def PI (xC:BC):Option (ByteArray×BC):=
 (Nh xC [(bs []),(bs [97]),(bs [98,98]),(bs [97,98,99,100,97,98,99,100,97,98,99,100]),(bs [104,101,108,108,111]),(bs [104,101,108,108,111,32,104,101,108,108,111,32,104,101,108,108,111]),(bs [122,122,122,122,122,122,122,122,122,122,122,122]),(bs [113,49]),(bs [113,50]),(bs [113,51])]).bind fun v1=>
 some (v1.1,v1.2)
def PJ (xC:BC) (xD:AE):Option (TW×BC):=
 (Lk xC [1,1,1,1,1,1,2,3,4,5,6]).bind fun v1=>
 (D0 v1.2 3).bind fun v2=>
 (bif((ln xD.Store.Vols)==0)then(some (3,(ad 1 v2.1),v2.2.b_,v2.2.i_,v2.2.h_))
 else((bif(v1.1 !=3)then(bif(v1.1 !=4)then((I6 v2.2 8).bind fun v3=>
 some ((!v3.1),v3.2.b_,v3.2.i_,v3.2.h_))
 else(some (false,v2.2.b_,v2.2.i_,v2.2.h_)))
 else(some (false,v2.2.b_,v2.2.i_,v2.2.h_)):Option (Bool×List Int×Int×Int)).bind fun j2=>
 bif j2.1 then((D0 (BC.mk j2.2.1 j2.2.2.1 j2.2.2.2) (ln xD.Store.Vols)).bind fun v4=>
 (gi xD.Store.Vols v4.1).bind fun x1=>
 some (v1.1,x1.Id,v4.2.b_,v4.2.i_,v4.2.h_))
 else(some (v1.1,(ad 1 v2.1),j2.2.1,j2.2.2.1,j2.2.2.2))):Option (Int×Int×List Int×Int×Int)).bind fun j1=>
 (bif(j1.1==5)then((I6 (BC.mk j1.2.2.1 j1.2.2.2.1 j1.2.2.2.2) 3).bind fun v8=>
 some ((!v8.1),v8.2.b_,v8.2.i_,v8.2.h_))
 else(some (false,j1.2.2.1,j1.2.2.2.1,j1.2.2.2.2)):Option (Bool×List Int×Int×Int)).bind fun j3=>
 (bif j3.1 then(some 1)
 else(some j1.1):Option (Int)).bind fun j4=>
 (bif(j4==1)then((PI (BC.mk j3.2.1 j3.2.2.1 j3.2.2.2)).bind fun v9=>
 (D0 v9.2 16).bind fun v10=>
 some (v10.1,0,v9.1,v10.2.b_,v10.2.i_,v10.2.h_))
 else((bif(j4==2)then(some (j4==2))
 else(some (j4==6)):Option (Bool)).bind fun j6=>
 bif j6 then((D0 (BC.mk j3.2.1 j3.2.2.1 j3.2.2.2) 16).bind fun v11=>
 some (v11.1,0,(bs []),v11.2.b_,v11.2.i_,v11.2.h_))
 else(bif(j4==4)then((D0 (BC.mk j3.2.1 j3.2.2.1 j3.2.2.2) 3).bind fun v12=>
 bif(decide ((ln xD.Store.Vols)>0))then((gi xD.Store.Vols 0).bind fun x5=>
 some (0,x5.Id,(bs []),v12.2.b_,v12.2.i_,v12.2.h_))
 else(some (0,(ad 1 v12.1),(bs []),v12.2.b_,v12.2.i_,v12.2.h_)))
 else(some (0,0,(bs []),j3.2.1,j3.2.2.1,j3.2.2.2)))):Option (Int×Int×ByteArray×List Int×Int×Int)).bind fun j5=>
 some ((TW.mk j4 j1.2.1 j5.1 j5.2.1 j5.2.2.1),(BC.mk j5.2.2.2.1 j5.2.2.2.2.1 j5.2.2.2.2.2))
def Ng (xD:AE):Option (AE):=
 (H3 xD.Flash).bind fun v1=>
 (Ev xD.Store).bind fun v2=>
 some (AE.mk v1 v2 xD.Seq xD.Tx xD.Base)
def NW (xA:Arena) (b:Int) (a:Int):Option (Int):=
 ((FX xA).bind fun v1=>
 bif(!v1)then(some true)
 else((GB xA b).bind fun v2=>
 bif(!v2)then(some true)
 else((BR a 0 15).bind fun v3=>
 some (!v3))):Option (Bool)).bind fun j1=>
 bif j1 then(some 0)
 else((LQ xA b a).bind fun v4=>
 some v4)
def Gu (xA:Arena) (b:Int) (a:List Int) (c:Int):Option ((List Int×Int)⊕(List Int)):=
 bif(decide (c<16))then((NW xA b c).bind fun v1=>
 (ap 8 a [v1]).bind fun q1=>
 some (.inl (q1,(ad c 1))))
 else(some (.inr a))
def Il (xA:Arena) (a:Int):Option (List Int):=
 (Az (fun s:List Int×Int=>Gu xA a s.1 s.2) ([],0)).bind fun v2=>
 some v2
def FM (xA:List Int) (xB:List Int) (a:Int):Option ((Int)⊕((Unit)⊕(Bool))):=
 bif(decide (a<(ln xA)))then((gi xA a).bind fun x1=>
 (gi xB a).bind fun x2=>
 bif(x1 !=x2)then(some (.inr (.inr false)))
 else(some (.inl (ad a 1))))
 else(some (.inr (.inl ())))
def Kp (xA:List Int) (xB:List Int):Option (Bool):=
 bif((ln xA) !=(ln xB))then(some false)
 else((Az (fun s:Int=>FM xA xB s) 0).bind (Sum.elim (fun v1=>(some true)) some))
def Hm (xA:Store) (xB:Store) (a:Int):Option ((Int)⊕((Unit)⊕(Bool))):=
 bif(decide (a<(ln xA.Vols)))then((gi xA.Vols a).bind fun x1=>
 (gi xB.Vols a).bind fun x2=>
 bif(x1.Id !=x2.Id)then(some (.inr (.inr false)))
 else((gi xA.Vols a).bind fun x3=>
 (gi xB.Vols a).bind fun x4=>
 (Il xA.Arena x3.Root).bind fun v1=>
 (Il xB.Arena x4.Root).bind fun v2=>
 (Kp v1 v2).bind fun v3=>
 bif(!v3)then(some (.inr (.inr false)))
 else(some (.inl (ad a 1)))))
 else(some (.inr (.inl ())))
def M6 (xA:Store) (xB:Store):Option (Bool):=
 (bif((ln xA.Vols) !=(ln xB.Vols))then(some true)
 else(some (xA.Next !=xB.Next)):Option (Bool)).bind fun j1=>
 bif j1 then(some false)
 else((Az (fun s:Int=>Hm xA xB s) 0).bind (Sum.elim (fun v4=>(some true)) some))
def NZ (xD:AE):Option (Bool):=
 (EL xD.Flash).bind fun v1=>
 bif v1.2 then((M6 v1.1.Store xD.Store).bind fun v2=>
 bif v2 then(bif(v1.1.Seq==xD.Seq)then(bif(v1.1.Tx==xD.Tx)then(bif(v1.1.Base==xD.Base)then((Nk xD.Store).bind fun v3=>
 some v3)
 else(some false))
 else(some false))
 else(some false))
 else(some false))
 else(some false)
def Hi (a:List Int) (xX:Int) (b:List Int) (c:Int):Option ((List Int×Int)⊕(List Int)):=
 bif(decide (c<(ln a)))then((gi a c).bind fun x1=>
 bif(decide (x1<xX))then((gi a c).bind fun x2=>
 (ap 8 b [x2]).bind fun q1=>
 some (.inl (q1,(ad c 1))))
 else(some (.inl (b,(ad c 1)))))
 else(some (.inr b))
def FN (a:List Int) (xX:Int) (b:List Int) (c:Int):Option ((List Int×Int)⊕(List Int)):=
 bif(decide (c<(ln a)))then((gi a c).bind fun x3=>
 bif(decide (x3>xX))then((gi a c).bind fun x4=>
 (ap 8 b [x4]).bind fun q3=>
 some (.inl (q3,(ad c 1))))
 else(some (.inl (b,(ad c 1)))))
 else(some (.inr b))
def M3 (a:List Int) (xX:Int):Option (List Int):=
 (Az (fun s:List Int×Int=>Hi a xX s.1 s.2) ([],0)).bind fun v1=>
 (bif(decide (xX>0))then((ap 8 v1 [xX]).bind fun q2=>
 some q2)
 else(some v1):Option (List Int)).bind fun j1=>
 (Az (fun s:List Int×Int=>FN a xX s.1 s.2) (j1,0)).bind fun v2=>
 some v2
def K4 (v1:List Int) (a:List Int) (b:Int):Option ((List Int×Int)⊕(List Int)):=
 bif(decide (b<(ln v1)))then((gi v1 b).bind fun x2=>
 (M3 a x2).bind fun v2=>
 some (.inl (v2,(ad b 1))))
 else(some (.inr a))
def K5 (xS:Store) (a:List Int) (b:Int):Option ((List Int×Int)⊕(List Int)):=
 bif(decide (b<(ln xS.Vols)))then((gi xS.Vols b).bind fun x1=>
 (Il xS.Arena x1.Root).bind fun v1=>
 (Az (fun s:List Int×Int=>K4 v1 s.1 s.2) (a,0)).bind fun v3=>
 some (.inl (v3,(ad b 1))))
 else(some (.inr a))
def FW (xS:Store):Option (List Int):=
 (Az (fun s:List Int×Int=>K5 xS s.1 s.2) ([],0)).bind fun v4=>
 some v4
def Hf (a:List Ak) (c:Int) (b:Int):Option ((Int)⊕((Unit)⊕((Ak×Bool)))):=
 bif(decide (b>=0))then(((gi a b).bind fun x1=>
 bif(x1.Page.Kind==1)then((gi a b).bind fun x2=>
 some (x2.Page.Tx==c))
 else(some false):Option (Bool)).bind fun j1=>
 bif j1 then((gi a b).bind fun x3=>
 some (.inr (.inr (x3,true))))
 else(some (.inl (sb b 1))))
 else(some (.inr (.inl ())))
def Kw (a:List Ak) (b:Int):Option (Ak×Bool):=
 (Az (fun s:Int=>Hf a b s) (sb (ln a) 1)).bind (Sum.elim (fun v1=>(some ((Ak.mk 0 0 (Page.mk 0 0 0 0 0 (bs []))),false))) some)
def BY (xT:ByteArray) (b:List AJ) (a:Int):Option ((List AJ×Int)⊕((List AJ)⊕((List AJ×Bool)))):=
 bif(decide (a<(FJ xT)))then((sx xT a).bind fun x1=>
 bif(decide ((IntKind.i64.wrap x1)>128))then(bif(decide ((ad a 2)>(FJ xT)))then(some (.inr (.inr (b,false))))
 else((sx xT (ad a 1)).bind fun x2=>
 (ap 32 b [(AJ.mk (IntKind.i64.wrap x2) (sb (IntKind.i64.wrap x1) 128) (bs []))]).bind fun q1=>
 some (.inl (q1,(ad a 2)))))
 else(bif(decide ((ad (ad a 1) (IntKind.i64.wrap x1))>(FJ xT)))then(some (.inr (.inr (b,false))))
 else((sub xT (ad a 1) (ad (ad a 1) (IntKind.i64.wrap x1))).bind fun x3=>
 (ap 32 b [(AJ.mk 0 0 x3)]).bind fun q2=>
 some (.inl (q2,(ad (ad a 1) (IntKind.i64.wrap x1)))))))
 else(some (.inr (.inl b)))
def I5 (xT:ByteArray):Option (List AJ×Bool):=
 (Az (fun s:List AJ×Int=>BY xT s.1 s.2) ([],0)).bind (Sum.elim (fun v1=>(some (v1,true))) some)
def DC (x1:AJ) (a:List Int) (b:Int):Option ((List Int×Int)⊕(List Int)):=
 bif(decide (b<x1.Size))then((gi a (sb (ln a) x1.Back)).bind fun x2=>
 (ap 1 a [x2]).bind fun q2=>
 some (.inl (q2,(ad b 1))))
 else(some (.inr a))
def DD (b:List AJ) (a:List Int) (c:Int):Option ((List Int×Int)⊕((List Int)⊕((ByteArray×Bool)))):=
 bif(decide (c<(ln b)))then((gi b c).bind fun x1=>
 (bif(x1.Back==0)then(((BR (FJ x1.Text) 1 31).bind fun v1=>
 bif(!v1)then(some true)
 else(some (x1.Size !=0)):Option (Bool)).bind fun j2=>
 bif j2 then(some (.inr (.inr (.inr ((bs []),false)))))
 else((ap 1 a (oQ x1.Text)).bind fun q1=>
 some (.inl q1)))
 else(((BR x1.Back 1 (ln a)).bind fun v2=>
 bif(!v2)then(some true)
 else((BR x1.Size 1 31).bind fun v3=>
 bif(!v3)then(some true)
 else(some (!(seq x1.Text (bs []))))):Option (Bool)).bind fun j3=>
 bif j3 then(some (.inr (.inr (.inr ((bs []),false)))))
 else((Az (fun s:List Int×Int=>DC x1 s.1 s.2) (a,0)).bind fun v4=>
 some (.inl v4))):Option ((List Int)⊕((List Int×Int)⊕((List Int)⊕((ByteArray×Bool)))))).bind (Sum.elim (fun j1=>(bif(decide ((ln j1)>64))then(some (.inr (.inr ((bs []),false))))
 else(some (.inl (j1,(ad c 1)))))) some))
 else(some (.inr (.inl a)))
def Fq (a:List AJ):Option (ByteArray×Bool):=
 (Az (fun s:List Int×Int=>DD a s.1 s.2) ([],0)).bind (Sum.elim (fun v5=>(some ((GS v5),true))) some)
def GC (xS:ByteArray) (b:Int) (c:Int) (a:Int):Option ((Int)⊕(Int)):=
 (bif(decide (a<31))then(bif(decide ((ad c a)<(FJ xS)))then((sx xS (ad b a)).bind fun x1=>
 (sx xS (ad c a)).bind fun x2=>
 some (x1==x2))
 else(some false))
 else(some false):Option (Bool)).bind fun j1=>
 bif j1 then(some (.inl (ad a 1)))
 else(some (.inr a))
def LR (xS:ByteArray) (a:Int) (b:Int):Option (Int):=
 (Az (fun s:Int=>GC xS a b s) 0).bind fun v1=>
 some v1
def Ed (xS:ByteArray) (d:Int) (b:Int) (c:Int) (a:Int):Option ((Int×Int×Int)⊕(Int×Int)):=
 bif(decide (a>=0))then((LR xS a d).bind fun v1=>
 (bif(decide (v1>=4))then(some (decide (v1>b)))
 else(some false):Option (Bool)).bind fun j1=>
 bif j1 then(some (.inl (v1,(sb d a),(sb a 1))))
 else(some (.inl (b,c,(sb a 1)))))
 else(some (.inr (b,c)))
def Cm (xS:ByteArray) (a:List AJ) (b:Int):Option ((List AJ×Int)⊕(List AJ)):=
 bif(decide (b<(FJ xS)))then((Az (fun s:Int×Int×Int=>Ed xS b s.1 s.2.1 s.2.2) (0,0,(sb b 1))).bind fun v2=>
 bif(decide (v2.1>0))then((ap 32 a [(AJ.mk v2.2 v2.1 (bs []))]).bind fun q1=>
 some (.inl (q1,(ad b v2.1))))
 else((bif(decide ((sb (ln a) 1)>=0))then((gi a (sb (ln a) 1)).bind fun x1=>
 bif(x1.Back==0)then((gi a (sb (ln a) 1)).bind fun x2=>
 some (decide ((FJ x2.Text)<31)))
 else(some false))
 else(some false):Option (Bool)).bind fun j2=>
 bif j2 then((gi a (sb (ln a) 1)).bind fun x3=>
 (sub xS b (ad b 1)).bind fun x4=>
 (Tf x3.Text x4).bind fun x5=>
 (gi a (sb (ln a) 1)).bind fun x6=>
 some (.inl ((si a (sb (ln a) 1) (AJ.mk x6.Back x6.Size x5)),(ad b 1))))
 else((sub xS b (ad b 1)).bind fun x7=>
 (ap 32 a [(AJ.mk 0 0 x7)]).bind fun q2=>
 some (.inl (q2,(ad b 1))))))
 else(some (.inr a))
def JL (xS:ByteArray):Option (List AJ):=
 bif(decide ((FJ xS)>64))then(some [])
 else((Az (fun s:List AJ×Int=>Cm xS s.1 s.2) ([],0)).bind fun v3=>
 some v3)
def Eg (v1:List AJ) (b:ByteArray) (a:Int):Option ((ByteArray×Int)⊕(ByteArray)):=
 bif(decide (a<(ln v1)))then((gi v1 a).bind fun x1=>
 bif(x1.Back==0)then((Tf b (GS [(IntKind.u8.wrap (FJ x1.Text))])).bind fun x2=>
 (Tf x2 x1.Text).bind fun x3=>
 some (.inl (x3,(ad a 1))))
 else((Tf b (GS [(IntKind.u8.wrap (ad 128 x1.Size)),(IntKind.u8.wrap x1.Back)])).bind fun x4=>
 some (.inl (x4,(ad a 1)))))
 else(some (.inr b))
def Ez (xS:ByteArray):Option (ByteArray×Bool):=
 bif(decide ((FJ xS)>64))then(some ((bs []),false))
 else((JL xS).bind fun v1=>
 (Az (fun s:ByteArray×Int=>Eg v1 s.1 s.2) ((bs [122]),0)).bind fun v2=>
 bif(decide ((ad (FJ xS) 1)<=(FJ v2)))then((Tf (bs [114]) xS).bind fun x5=>
 some (x5,true))
 else(some (v2,true)))
def Fw (xT:ByteArray):Option (ByteArray×Bool):=
 bif((FJ xT)==0)then(some ((bs []),false))
 else((sub xT 1 (FJ xT)).bind fun x1=>
 (sx xT 0).bind fun x2=>
 (bif(x2==122)then((sub xT 1 (FJ xT)).bind fun x3=>
 (I5 x3).bind fun v1=>
 (Fq v1.1).bind fun v2=>
 bif(!v1.2)then(some (.inr ((bs []),false)))
 else(bif(!v2.2)then(some (.inr ((bs []),false)))
 else(some (.inl v2.1))))
 else(some (.inl x1)):Option ((ByteArray)⊕((ByteArray×Bool)))).bind (Sum.elim (fun j1=>((Ez j1).bind fun v3=>
 (bif(!v3.2)then(some true)
 else(some (!(seq v3.1 xT))):Option (Bool)).bind fun j2=>
 bif j2 then(some ((bs []),false))
 else(some (j1,true)))) some))
def JF (b:List Ak) (a:Int):Option (ByteArray×Bool):=
 (Kw b a).bind fun v1=>
 bif(!v1.2)then(some ((bs []),false))
 else((Fw v1.1.Page.Text).bind fun v2=>
 some (v2.1,v2.2))
def Ec (c:List Ak) (a:List Int) (d:ByteArray) (b:Int):Option ((Int)⊕((Unit)⊕(Int))):=
 bif(decide (b<(ln a)))then((gi a b).bind fun x1=>
 (JF c x1).bind fun v1=>
 (bif v1.2 then(some (seq v1.1 d))
 else(some false):Option (Bool)).bind fun j1=>
 bif j1 then((gi a b).bind fun x2=>
 some (.inr (.inr x2)))
 else(some (.inl (ad b 1))))
 else(some (.inr (.inl ())))
def PK (a:List Ak) (b:List Int) (c:ByteArray):Option (Int):=
 (Az (fun s:Int=>Ec a b c s) 0).bind (Sum.elim (fun v2=>(some 0)) some)
def JO (xF:Flash) (a:List Int) (b:ByteArray):Option (Int):=
 (Fp xF).bind fun v1=>
 (PK v1 a b).bind fun v2=>
 some v2
def LT (xD:AE) (xQ:TW):Option (List Df×ByteArray×Int):=
 (UP xQ).bind fun v1=>
 bif(!v1)then(some ([],(bs []),3))
 else((Gt xD.Store xQ.Vol).bind fun v2=>
 (bif(xQ.Kind==3)then(some true)
 else(some (xQ.Kind==4)):Option (Bool)).bind fun j1=>
 bif j1 then(bif(decide (v2>=0))then(some ([],(bs []),2))
 else((bif(xQ.Kind==4)then((Gt xD.Store xQ.Of).bind fun v3=>
 some (decide (v3<0)))
 else(some false):Option (Bool)).bind fun j2=>
 bif j2 then(some ([],(bs []),1))
 else(bif(decide ((ln xD.Store.Vols)>=3))then(some ([],(bs []),4))
 else(some ([(Df.mk 2 xQ.Vol xQ.Of 0)],(bs []),0)))))
 else(bif(!(decide (v2>=0)))then(some ([],(bs []),1))
 else(bif(xQ.Kind==1)then((FW xD.Store).bind fun v4=>
 (JO xD.Flash v4 xQ.Text).bind fun v5=>
 (bif(v5==0)then((Ez xQ.Text).bind fun v6=>
 some (xD.Store.Next,v6.1))
 else(some (v5,(bs []))):Option (Int×ByteArray)).bind fun j3=>
 some ([(Df.mk 4 xQ.Vol xQ.Sector j3.1)],j3.2,0))
 else(bif(xQ.Kind==2)then(some ([(Df.mk 5 xQ.Vol xQ.Sector 0)],(bs []),0))
 else(bif(xQ.Kind==5)then(some ([(Df.mk 3 xQ.Vol 0 0)],(bs []),0))
 else(some ([],(bs []),0)))))))
def No (xS:Store) (b:Int) (a:Int):Option (Int):=
 (Gt xS b).bind fun v1=>
 bif(decide (v1<0))then(some 0)
 else((gi xS.Vols v1).bind fun x1=>
 (NW xS.Arena x1.Root a).bind fun v2=>
 some v2)
def L4 (c:List Ak) (xS:Store) (b:Int) (a:Int):Option (ByteArray×Bool):=
 (Gt xS b).bind fun v1=>
 bif(decide (v1<0))then(some ((bs []),false))
 else((No xS b a).bind fun v2=>
 bif(v2==0)then(some ((bs []),true))
 else((JF c v2).bind fun v3=>
 some (v3.1,v3.2)))
def Wg (xD:AE) (b:Int) (a:Int):Option (ByteArray×Bool):=
 (Fp xD.Flash).bind fun v1=>
 (L4 v1 xD.Store b a).bind fun v2=>
 some (v2.1,v2.2)
def K1 (xF:Flash) (c:Int) (b:Int) (a:Int):Option ((Int×Int)⊕(Int)):=
 (gi xF.Blocks c).bind fun x1=>
 bif(decide (a<(ln x1.Leaves)))then((gi xF.Blocks c).bind fun x2=>
 bif(!x2.Bad)then((gi xF.Blocks c).bind fun x3=>
 (gi x3.Leaves a).bind fun x4=>
 bif(x4.Is==0)then(some (.inl ((ad b 1),(ad a 1))))
 else(some (.inl (b,(ad a 1)))))
 else(some (.inl (b,(ad a 1)))))
 else(some (.inr b))
def K2 (xF:Flash) (b:Int) (a:Int):Option ((Int×Int)⊕(Int)):=
 bif(decide (a<(ln xF.Blocks)))then((Az (fun s:Int×Int=>K1 xF a s.1 s.2) (b,0)).bind fun v1=>
 some (.inl (v1,(ad a 1))))
 else(some (.inr b))
def LS (xF:Flash):Option (Int):=
 (Az (fun s:Int×Int=>K2 xF s.1 s.2) (0,0)).bind fun v2=>
 some v2
def Hh (c:List Ak) (d:Int) (a:List Bool) (b:Int):Option ((List Bool×Int)⊕(List Bool)):=
 bif(decide (b<(ln c)))then((gi c b).bind fun x1=>
 bif(x1.Page.Kind==2)then((gi c b).bind fun x2=>
 (gi a b).bind fun x3=>
 some (.inl ((si a b (decide (x2.Page.Tx>=d))),(ad b 1))))
 else((gi a b).bind fun x4=>
 some (.inl ((si a b false),(ad b 1)))))
 else(some (.inr a))
def EJ (c:List Ak) (d:List Int) (e:Int) (a:List Bool) (b:Int):Option ((List Bool×Int)⊕(List Bool)):=
 bif(decide (b>=0))then(((gi c b).bind fun x5=>
 bif(x5.Page.Kind==1)then((gi c b).bind fun x6=>
 (gi d e).bind fun x7=>
 some (x6.Page.Tx==x7))
 else(some false):Option (Bool)).bind fun j1=>
 bif j1 then((gi a b).bind fun x8=>
 some (.inl ((si a b true),(sb (-1) 1))))
 else(some (.inl (a,(sb b 1)))))
 else(some (.inr a))
def Hg (a:List Ak) (b:List Int) (c:List Bool) (d:Int):Option ((List Bool×Int)⊕(List Bool)):=
 bif(decide (d<(ln b)))then((Az (fun s:List Bool×Int=>EJ a b d s.1 s.2) (c,(sb (ln a) 1))).bind fun v2=>
 some (.inl (v2,(ad d 1))))
 else(some (.inr c))
def Gk (a:List Ak) (b:List Int) (c:Int):Option (List Bool):=
 (mk 1 false (ln a)).bind fun q1=>
 (Az (fun s:List Bool×Int=>Hh a c s.1 s.2) (q1,0)).bind fun v1=>
 (Az (fun s:List Bool×Int=>Hg a b s.1 s.2) (v1,0)).bind fun v3=>
 some v3
def HR (xB:Block) (a:Int):Option ((Int)⊕((Unit)⊕(Bool))):=
 bif(decide (a<(ln xB.Leaves)))then((gi xB.Leaves a).bind fun x1=>
 bif(x1.Is !=0)then(some (.inr (.inr false)))
 else(some (.inl (ad a 1))))
 else(some (.inr (.inl ())))
def NP (xB:Block):Option (Bool):=
 (Az (fun s:Int=>HR xB s) 0).bind (Sum.elim (fun v1=>(some true)) some)
def LN (b:List Ak) (c:List Bool) (xB:Int) (d:Int) (a:Int):Option ((Int×Int)⊕(Int)):=
 bif(decide (a<(ln b)))then((gi c a).bind fun x1=>
 bif x1 then((gi b a).bind fun x2=>
 bif(x2.Block==xB)then(some (.inl ((ad d 1),(ad a 1))))
 else(some (.inl (d,(ad a 1)))))
 else(some (.inl (d,(ad a 1)))))
 else(some (.inr d))
def M1 (b:List Ak) (a:List Bool) (xB:Int):Option (Int):=
 (Az (fun s:Int×Int=>LN b a xB s.1 s.2) (0,0)).bind fun v1=>
 some v1
def Ft (xD:AE) (v1:List Ak) (v3:List Bool) (a:List Int) (b:Int):Option ((List Int×Int)⊕(List Int)):=
 bif(decide (b<(ln xD.Flash.Blocks)))then((gi xD.Flash.Blocks b).bind fun x1=>
 (bif(!x1.Bad)then((NP x1).bind fun v4=>
 bif(!v4)then((M1 v1 v3 b).bind fun v5=>
 some (v5==0))
 else(some false))
 else(some false):Option (Bool)).bind fun j1=>
 bif j1 then((ap 8 a [b]).bind fun q1=>
 some (.inl (q1,(ad b 1))))
 else(some (.inl (a,(ad b 1)))))
 else(some (.inr a))
def Ln (xD:AE):Option (List Int):=
 (Fp xD.Flash).bind fun v1=>
 (FW xD.Store).bind fun v2=>
 (Gk v1 v2 xD.Base).bind fun v3=>
 (Az (fun s:List Int×Int=>Ft xD v1 v3 s.1 s.2) ([],0)).bind fun v6=>
 some v6
def G9 (xD:AE) (v2:List Tx) (a:Int):Option ((Int)⊕((Unit)⊕(Bool))):=
 bif(decide (a<(ln v2)))then((gi v2 a).bind fun x1=>
 bif(x1.Num==xD.Base)then((gi v2 a).bind fun x2=>
 bif(decide ((ln x2.Recs)>0))then((gi v2 a).bind fun x3=>
 (gi x3.Recs 0).bind fun x4=>
 some (.inr (.inr (x4.Kind==1))))
 else(some (.inr (.inr false))))
 else(some (.inl (ad a 1))))
 else(some (.inr (.inl ())))
def NQ (xD:AE):Option (Bool):=
 bif(xD.Base !=(sb xD.Tx 1))then(some false)
 else((Fp xD.Flash).bind fun v1=>
 (Pg v1).bind fun v2=>
 (Az (fun s:Int=>G9 xD v2 s) 0).bind (Sum.elim (fun v3=>(some false)) some))
def GI (xS:Store) (c:Int) (v1:List Int) (a:List Df) (b:Int):Option ((List Df×Int)⊕(List Df)):=
 bif(decide (b<(ln v1)))then((gi v1 b).bind fun x3=>
 bif(decide (x3>0))then((gi xS.Vols c).bind fun x4=>
 (gi v1 b).bind fun x5=>
 (ap 32 a [(Df.mk 4 x4.Id b x5)]).bind fun q2=>
 some (.inl (q2,(ad b 1))))
 else(some (.inl (a,(ad b 1)))))
 else(some (.inr a))
def GJ (xS:Store) (a:List Df) (b:Int):Option ((List Df×Int)⊕(List Df)):=
 bif(decide (b<(ln xS.Vols)))then((gi xS.Vols b).bind fun x1=>
 (ap 32 a [(Df.mk 2 x1.Id 0 0)]).bind fun q1=>
 (gi xS.Vols b).bind fun x2=>
 (Il xS.Arena x2.Root).bind fun v1=>
 (Az (fun s:List Df×Int=>GI xS b v1 s.1 s.2) (q1,0)).bind fun v2=>
 some (.inl (v2,(ad b 1))))
 else(some (.inr a))
def Ob (xS:Store):Option (List Df):=
 (Az (fun s:List Df×Int=>GJ xS s.1 s.2) ([(Df.mk 1 0 xS.Next 0)],0)).bind fun v3=>
 some v3
def FQ (xF:Flash) (d:Int) (b:Int) (c:Int) (a:Int):Option ((Int×Int×Int)⊕(Int×Int)):=
 (gi xF.Blocks d).bind fun x1=>
 bif(decide (a<(ln x1.Leaves)))then((gi xF.Blocks d).bind fun x2=>
 (gi x2.Leaves a).bind fun x3=>
 bif(x3.Is==0)then(some (.inl ((ad b 1),c,(ad a 1))))
 else(some (.inl (b,(ad c 1),(ad a 1)))))
 else(some (.inr (b,c)))
def FR (xF:Flash) (a:Int):Option ((Int)⊕((Unit)⊕(Int))):=
 bif(decide (a<(ln xF.Blocks)))then((Az (fun s:Int×Int×Int=>FQ xF a s.1 s.2.1 s.2.2) (0,0,0)).bind fun v1=>
 ((gi xF.Blocks a).bind fun x4=>
 bif(!x4.Bad)then(bif(decide (v1.1>0))then(some (decide (v1.2>0)))
 else(some false))
 else(some false):Option (Bool)).bind fun j1=>
 bif j1 then(some (.inr (.inr a)))
 else(some (.inl (ad a 1))))
 else(some (.inr (.inl ())))
def M7 (xF:Flash):Option (Int):=
 (Az (fun s:Int=>FR xF s) 0).bind (Sum.elim (fun v2=>(some (-1))) some)
def Fs (xF:Flash) (c:Int) (a:Bool) (b:Int):Option ((Bool×Int)⊕(Bool)):=
 (gi xF.Blocks c).bind fun x2=>
 bif(decide (b<(ln x2.Leaves)))then(bif a then((gi xF.Blocks c).bind fun x3=>
 (gi x3.Leaves b).bind fun x4=>
 some (.inl ((x4.Is==0),(ad b 1))))
 else(some (.inl (false,(ad b 1)))))
 else(some (.inr a))
def G4 (xF:Flash) (a:List Int) (b:Int):Option ((List Int×Int)⊕(List Int)):=
 bif(decide (b<(ln xF.Blocks)))then((gi xF.Blocks b).bind fun x1=>
 (Az (fun s:Bool×Int=>Fs xF b s.1 s.2) ((!x1.Bad),0)).bind fun v1=>
 bif v1 then((ap 8 a [b]).bind fun q1=>
 some (.inl (q1,(ad b 1))))
 else(some (.inl (a,(ad b 1)))))
 else(some (.inr a))
def Ll (xF:Flash):Option (List Int):=
 (Az (fun s:List Int×Int=>G4 xF s.1 s.2) ([],0)).bind fun v2=>
 some v2
def Jk (xF:Flash) (v4:List Int) (a:Int) (b:Int):Option ((Int×Int)⊕(Int)):=
 bif(decide (b<(ln v4)))then((gi v4 b).bind fun x3=>
 (gi xF.Blocks x3).bind fun x4=>
 (gi xF.Blocks a).bind fun x5=>
 bif(decide (x4.Wear<x5.Wear))then((gi v4 b).bind fun x6=>
 some (.inl (x6,(ad b 1))))
 else(some (.inl (a,(ad b 1)))))
 else(some (.inr a))
def Nm (xF:Flash):Option (Int×Int×Bool):=
 (ID xF).bind fun v1=>
 bif(!v1)then(some (0,0,false))
 else((M7 xF).bind fun v2=>
 bif(decide (v2>=0))then((gi xF.Blocks v2).bind fun x1=>
 (IA x1).bind fun v3=>
 some (v2,v3,true))
 else((Ll xF).bind fun v4=>
 bif((ln v4)==0)then(some (0,0,false))
 else((gi v4 0).bind fun x2=>
 (Az (fun s:Int×Int=>Jk xF v4 s.1 s.2) (x2,1)).bind fun v5=>
 some (v5,0,true))))
def He (xF:Flash) (a:List BD) (xP:Page):Option (Flash×List BD×Bool):=
 (EK xP).bind fun v1=>
 (Nm xF).bind fun v2=>
 (bif(!v1.2)then(some true)
 else(some (!v2.2.2)):Option (Bool)).bind fun j1=>
 bif j1 then(some (xF,a,false))
 else((Nn xF (BD.mk 1 v2.1 v2.2.1 v1.1)).bind fun v3=>
 ((ap 40 a [(BD.mk 1 v2.1 v2.2.1 v1.1)]).bind fun q1=>
 some q1:Option (List BD)).bind fun j2=>
 some (v3.1,j2,v3.2))
def PN (xR:Df):Option (ByteArray×Bool):=
 (PP xR).bind fun v1=>
 bif(!v1)then(some ((bs []),false))
 else((L6 (ad (ml 16 xR.Kind) xR.Vol)).bind fun v2=>
 (HT xR.Arg).bind fun v3=>
 (Tf v2 v3).bind fun x1=>
 (HT xR.Chunk).bind fun v4=>
 (Tf x1 v4).bind fun x2=>
 some (x2,true))
def H5 (b:List Df) (a:List ByteArray) (c:Int):Option ((List ByteArray×Int)⊕((List ByteArray)⊕((List Page×Bool)))):=
 bif(decide (c<(ln b)))then((gi b c).bind fun x1=>
 (PN x1).bind fun v1=>
 bif(!v1.2)then(some (.inr (.inr ([],false))))
 else((gi a (sb (ln a) 1)).bind fun x2=>
 bif(decide ((ad (FJ x2) (FJ v1.1))>90))then((ap 16 a [v1.1]).bind fun q1=>
 some (.inl (q1,(ad c 1))))
 else((gi a (sb (ln a) 1)).bind fun x3=>
 (Tf x3 v1.1).bind fun x4=>
 (gi a (sb (ln a) 1)).bind fun x5=>
 some (.inl ((si a (sb (ln a) 1) x4),(ad c 1))))))
 else(some (.inr (.inl a)))
def H4 (c:Int) (d:Int) (v2:List ByteArray) (a:List Page) (b:Int):Option ((List Page×Int)⊕(List Page)):=
 bif(decide (b<(ln v2)))then((gi v2 b).bind fun x6=>
 (ap 56 a [(Page.mk 2 (ad c b) d b (ln v2) x6)]).bind fun q2=>
 some (.inl (q2,(ad b 1))))
 else(some (.inr a))
def Nj (a:Int) (c:Int) (b:List Df):Option (List Page×Bool):=
 (Az (fun s:List ByteArray×Int=>H5 b s.1 s.2) ([(bs [])],0)).bind (Sum.elim (fun v2=>((bif(decide ((ln v2)>9))then(some true)
 else((BR a 1 (ad (sb 1000000000 (ln v2)) 1)).bind fun v3=>
 bif(!v3)then(some true)
 else((BR c 1 1000000000).bind fun v4=>
 some (!v4))):Option (Bool)).bind fun j1=>
 bif j1 then(some ([],false))
 else((Az (fun s:List Page×Int=>H4 a c v2 s.1 s.2) ([],0)).bind fun v5=>
 some (v5,true)))) some)
def Fg (v2:List Page×Bool) (a:List BD) (b:Bool) (c:Int) (d:List Block):Option ((List BD×Bool×Int×List Block)⊕(List BD×Bool)):=
 (bif(decide (c<(ln v2.1)))then(some b)
 else(some false):Option (Bool)).bind fun j3=>
 bif j3 then(((gi v2.1 c).bind fun x2=>
 (He (Flash.mk d) a x2).bind fun v3=>
 some (v3.2.1,v3.2.2,v3.1.Blocks):Option (List BD×Bool×List Block)).bind fun j4=>
 some (.inl (j4.1,j4.2.1,(ad c 1),j4.2.2)))
 else(some (.inr (a,b)))
def E7 (xD:AE) (a:List Df) (b:ByteArray):Option (List BD×Bool):=
 bif((ln a)==0)then(some ([],true))
 else((bif(!(seq b (bs [])))then(((gi a (sb (ln a) 1)).bind fun x1=>
 (He xD.Flash [] (Page.mk 1 xD.Seq x1.Chunk 0 1 b)).bind fun v1=>
 some (v1.2.1,v1.2.2,v1.1.Blocks):Option (List BD×Bool×List Block)).bind fun j2=>
 some (j2.1,(ad xD.Seq 1),j2.2.1,j2.2.2))
 else(some ([],xD.Seq,true,xD.Flash.Blocks)):Option (List BD×Int×Bool×List Block)).bind fun j1=>
 (Nj j1.2.1 xD.Tx a).bind fun v2=>
 (Az (fun s:List BD×Bool×Int×List Block=>Fg v2 s.1 s.2.1 s.2.2.1 s.2.2.2) (j1.1,j1.2.2.1,0,j1.2.2.2)).bind fun v4=>
 (bif(!v4.2)then(some true)
 else(some (!v2.2)):Option (Bool)).bind fun j5=>
 bif j5 then(some ([],false))
 else(some (v4.1,true)))
def Ph (xD:AE):Option (List BD×Bool):=
 (Ob xD.Store).bind fun v1=>
 (E7 xD v1 (bs [])).bind fun v2=>
 some (v2.1,v2.2)
def GD (xD:AE) (v1:List Ak) (v3:List Bool) (v4:List Bool) (c:Int) (a:Int) (b:Int):Option ((Int×Int×Int)⊕(Int)):=
 bif(decide (b<(ln xD.Flash.Blocks)))then((gi xD.Flash.Blocks b).bind fun x1=>
 (M1 v1 v3 b).bind fun v5=>
 (bif(!x1.Bad)then((IA x1).bind fun v6=>
 bif(v6==4)then((M1 v1 v4 b).bind fun v7=>
 bif(v5==v7)then(bif(decide (v5>=1))then(some (decide (v5<a)))
 else(some false))
 else(some false))
 else(some false))
 else(some false):Option (Bool)).bind fun j1=>
 bif j1 then(some (.inl (b,v5,(ad b 1))))
 else(some (.inl (c,a,(ad b 1)))))
 else(some (.inr c))
def NT (xD:AE):Option (Int):=
 (Fp xD.Flash).bind fun v1=>
 (FW xD.Store).bind fun v2=>
 (Gk v1 v2 xD.Base).bind fun v3=>
 (Gk v1 v2 1000000000).bind fun v4=>
 (Az (fun s:Int×Int×Int=>GD xD v1 v3 v4 s.1 s.2.1 s.2.2) ((-1),4,0)).bind fun v8=>
 some v8
def FU (xB:Int) (v1:List Ak) (v3:List Bool) (e:Int) (a:List BD) (b:Int) (c:Int) (d:List Block):Option ((List BD×Int×Int×List Block)⊕((List BD×Int×List Block)⊕((List BD×Int×Int×List Block)⊕((List BD)⊕((List BD×Bool)))))):=
 bif(decide (c<(ln v1)))then(((gi v3 c).bind fun x1=>
 bif(!x1)then(some true)
 else((gi v1 c).bind fun x2=>
 bif(x2.Block !=xB)then(some true)
 else((gi v1 c).bind fun x3=>
 some (x3.Leaf !=e))):Option (Bool)).bind fun j1=>
 bif j1 then(some (.inl (a,b,(ad c 1),d)))
 else((gi v1 c).bind fun x4=>
 (He (Flash.mk d) a (Page.mk x4.Page.Kind b x4.Page.Tx x4.Page.Part x4.Page.Count x4.Page.Text)).bind fun v4=>
 (bif(!v4.2.2)then(some true)
 else((gi v4.2.1 (sb (ln v4.2.1) 1)).bind fun x5=>
 some (x5.Block==xB)):Option (Bool)).bind fun j2=>
 bif j2 then(some (.inr (.inr (.inr (.inr ([],false))))))
 else(some (.inl (v4.2.1,(ad b 1),(ad c 1),v4.1.Blocks)))))
 else(some (.inr (.inl (a,b,d))))
def FV (xB:Int) (v1:List Ak) (v3:List Bool) (b:List BD) (c:Int) (a:Int) (d:List Block):Option ((List BD×Int×Int×List Block)⊕((List BD)⊕((List BD×Bool)))):=
 bif(decide (a<4))then((Az (fun s:List BD×Int×Int×List Block=>FU xB v1 v3 a s.1 s.2.1 s.2.2.1 s.2.2.2) (b,c,0,d)).bind (Sum.elim (fun v5=>(some (.inl (v5.1,v5.2.1,(ad a 1),v5.2.2)))) some))
 else(some (.inr (.inl b)))
def K3 (xD:AE) (xB:Int):Option (List BD×Bool):=
 (Fp xD.Flash).bind fun v1=>
 (FW xD.Store).bind fun v2=>
 (Gk v1 v2 1000000001).bind fun v3=>
 (Az (fun s:List BD×Int×Int×List Block=>FV xB v1 v3 s.1 s.2.1 s.2.2.1 s.2.2.2) ([],xD.Seq,0,xD.Flash.Blocks)).bind (Sum.elim (fun v6=>(some (v6,true))) some)
def Oa (xD:AE):Option (List BD×Bool):=
 (Ln xD).bind fun v1=>
 bif(decide ((ln v1)>0))then((gi v1 0).bind fun x1=>
 some ([(BD.mk 2 x1 0 (bs []))],true))
 else((NQ xD).bind fun v2=>
 bif(!v2)then((Ph xD).bind fun v3=>
 some (v3.1,v3.2))
 else((NT xD).bind fun v4=>
 bif(decide (v4<0))then(some ([],false))
 else((K3 xD v4).bind fun v5=>
 some (v5.1,v5.2))))
def Hj (xD:AE) (a:List BD):Option (AE):=
 (L7 xD.Flash a).bind fun v1=>
 (EL v1.1).bind fun v2=>
 some v2.1
def GH (i:Int) (h:List BD) (j:Int) (a:List Block) (b:List Vol) (c:List BU) (d:Int) (e:Int) (f:Int) (g:Int):Option ((List BD×Int×List Block×List Vol×List BU×Int×Int×Int×Int)⊕((List BD×List Block×List Vol×List BU×Int×Int×Int×Int)⊕((AE×List BD)))):=
 (bif(decide (j<i))then(bif(decide (j<20))then((LS (Flash.mk a)).bind fun v2=>
 some (decide (v2<12)))
 else(some false))
 else(some false):Option (Bool)).bind fun j1=>
 bif j1 then((Oa (AE.mk (Flash.mk a) (Store.mk b (Arena.mk c) d) e f g)).bind fun v3=>
 bif(!v3.2)then(some (.inr (.inr ((AE.mk (Flash.mk a) (Store.mk b (Arena.mk c) d) e f g),h))))
 else((Hj (AE.mk (Flash.mk a) (Store.mk b (Arena.mk c) d) e f g) v3.1).bind fun v4=>
 (ap 40 h v3.1).bind fun q1=>
 some (.inl (q1,(ad j 1),v4.Flash.Blocks,v4.Store.Vols,v4.Store.Arena.Knots,v4.Store.Next,v4.Seq,v4.Tx,v4.Base))))
 else(some (.inr (.inl (h,a,b,c,d,e,f,g))))
def LX (xD:AE) (a:Int):Option (AE×List BD):=
 (Ng xD).bind fun v1=>
 (Az (fun s:List BD×Int×List Block×List Vol×List BU×Int×Int×Int×Int=>GH a s.1 s.2.1 s.2.2.1 s.2.2.2.1 s.2.2.2.2.1 s.2.2.2.2.2.1 s.2.2.2.2.2.2.1 s.2.2.2.2.2.2.2.1 s.2.2.2.2.2.2.2.2) ([],0,v1.Flash.Blocks,v1.Store.Vols,v1.Store.Arena.Knots,v1.Store.Next,v1.Seq,v1.Tx,v1.Base)).bind (Sum.elim (fun v5=>(some ((AE.mk (Flash.mk v5.2.1) (Store.mk v5.2.2.1 (Arena.mk v5.2.2.2.1) v5.2.2.2.2.1) v5.2.2.2.2.2.1 v5.2.2.2.2.2.2.1 v5.2.2.2.2.2.2.2),v5.1))) some)
def UM (xD:AE) (xQ:TW):Option (AE×List BD×ByteArray×Int):=
 (Ng xD).bind fun v1=>
 (NZ xD).bind fun v2=>
 bif(!v2)then(some (v1,[],(bs []),5))
 else((LT xD xQ).bind fun v3=>
 bif(v3.2.2 !=0)then(some (v1,[],(bs []),v3.2.2))
 else(bif(xQ.Kind==6)then((Wg xD xQ.Vol xQ.Sector).bind fun v4=>
 bif(!v4.2)then(some (v1,[],(bs []),1))
 else(some (v1,[],v4.1,0)))
 else((LS xD.Flash).bind fun v5=>
 (bif(decide (v5<12))then((LX xD 20).bind fun v6=>
 some (v6.2,v6.1.Flash.Blocks,v6.1.Store.Vols,v6.1.Store.Arena.Knots,v6.1.Store.Next,v6.1.Seq,v6.1.Tx,v6.1.Base))
 else(some ([],v1.Flash.Blocks,v1.Store.Vols,v1.Store.Arena.Knots,v1.Store.Next,v1.Seq,v1.Tx,v1.Base)):Option (List BD×List Block×List Vol×List BU×Int×Int×Int×Int)).bind fun j1=>
 (LT (AE.mk (Flash.mk j1.2.1) (Store.mk j1.2.2.1 (Arena.mk j1.2.2.2.1) j1.2.2.2.2.1) j1.2.2.2.2.2.1 j1.2.2.2.2.2.2.1 j1.2.2.2.2.2.2.2) xQ).bind fun v7=>
 (E7 (AE.mk (Flash.mk j1.2.1) (Store.mk j1.2.2.1 (Arena.mk j1.2.2.2.1) j1.2.2.2.2.1) j1.2.2.2.2.2.1 j1.2.2.2.2.2.2.1 j1.2.2.2.2.2.2.2) v7.1 v7.2.1).bind fun v8=>
 (bif(!v8.2)then(some true)
 else((LS (Flash.mk j1.2.1)).bind fun v9=>
 some (decide (v9<8))):Option (Bool)).bind fun j2=>
 bif j2 then(some ((AE.mk (Flash.mk j1.2.1) (Store.mk j1.2.2.1 (Arena.mk j1.2.2.2.1) j1.2.2.2.2.1) j1.2.2.2.2.2.1 j1.2.2.2.2.2.2.1 j1.2.2.2.2.2.2.2),j1.1,(bs []),4))
 else((Hj (AE.mk (Flash.mk j1.2.1) (Store.mk j1.2.2.1 (Arena.mk j1.2.2.2.1) j1.2.2.2.2.1) j1.2.2.2.2.2.1 j1.2.2.2.2.2.2.1 j1.2.2.2.2.2.2.2) v8.1).bind fun v10=>
 (ap 40 j1.1 v8.1).bind fun q1=>
 some (v10,q1,(bs []),0)))))
def FL (h:Int) (a:List Block) (b:List Vol) (c:List BU) (d:Int) (e:Int) (f:Int) (g:Int) (i:List Int) (j:Int) (k:Int):Option ((Int×List Block×List Vol×List BU×Int×Int×Int×Int×List Int×Int×Int)⊕(List Block×List Vol×List BU×Int×Int×Int×Int×List Int×Int×Int)):=
 (D0 (BC.mk i j k) 12).bind fun v3=>
 bif(decide (h<v3.1))then(((PJ v3.2 (AE.mk (Flash.mk a) (Store.mk b (Arena.mk c) d) e f g)).bind fun v4=>
 (UM (AE.mk (Flash.mk a) (Store.mk b (Arena.mk c) d) e f g) v4.1).bind fun v5=>
 some (v5.1.Flash.Blocks,v5.1.Store.Vols,v5.1.Store.Arena.Knots,v5.1.Store.Next,v5.1.Seq,v5.1.Tx,v5.1.Base,v4.2.b_,v4.2.i_,v4.2.h_):Option (List Block×List Vol×List BU×Int×Int×Int×Int×List Int×Int×Int)).bind fun j1=>
 some (.inl ((ad h 1),j1.1,j1.2.1,j1.2.2.1,j1.2.2.2.1,j1.2.2.2.2.1,j1.2.2.2.2.2.1,j1.2.2.2.2.2.2.1,j1.2.2.2.2.2.2.2.1,j1.2.2.2.2.2.2.2.2.1,j1.2.2.2.2.2.2.2.2.2)))
 else(some (.inr (a,b,c,d,e,f,g,v3.2.b_,v3.2.i_,v3.2.h_)))
def M2 (xC:BC):Option (AE×BC):=
 (D0 xC 4).bind fun v1=>
 (M9 (ad 5 v1.1)).bind fun v2=>
 (Az (fun s:Int×List Block×List Vol×List BU×Int×Int×Int×Int×List Int×Int×Int=>FL s.1 s.2.1 s.2.2.1 s.2.2.2.1 s.2.2.2.2.1 s.2.2.2.2.2.1 s.2.2.2.2.2.2.1 s.2.2.2.2.2.2.2.1 s.2.2.2.2.2.2.2.2.1 s.2.2.2.2.2.2.2.2.2.1 s.2.2.2.2.2.2.2.2.2.2) (0,v2.1.Flash.Blocks,v2.1.Store.Vols,v2.1.Store.Arena.Knots,v2.1.Store.Next,v2.1.Seq,v2.1.Tx,v2.1.Base,v1.2.b_,v1.2.i_,v1.2.h_)).bind fun v8=>
 some ((AE.mk (Flash.mk v8.1) (Store.mk v8.2.1 (Arena.mk v8.2.2.1) v8.2.2.2.1) v8.2.2.2.2.1 v8.2.2.2.2.2.1 v8.2.2.2.2.2.2.1),(BC.mk v8.2.2.2.2.2.2.2.1 v8.2.2.2.2.2.2.2.2.1 v8.2.2.2.2.2.2.2.2.2))
def Lm (a:List Int):Option (AE):=
 (R2 a).bind fun v1=>
 (M2 v1).bind fun v2=>
 some v2.1
def HE (a:Int) (y1:Int):Option ((Int×Int)⊕(Int)):=
 bif(decide (y1<8))then(bif((an a 1)==1)then(some (.inl ((xr (Int.fdiv a (2^(min (1:Int).toNat IntKind.u32.bits))) 3558460437),(ad y1 1))))
 else(some (.inl ((Int.fdiv a (2^(min (1:Int).toNat IntKind.u32.bits))),(ad y1 1)))))
 else(some (.inr a))
def Jp (a:ByteArray) (b:Int) (c:Int):Option ((Int×Int)⊕(Int)):=
 bif(decide (c<(FJ a)))then((sx a c).bind fun x1=>
 (Az (fun s:Int×Int=>HE s.1 s.2) ((xr b (IntKind.u32.wrap x1)),0)).bind fun v1=>
 some (.inl (v1,(ad c 1))))
 else(some (.inr b))
def Qb (b:Int) (a:ByteArray):Option (Int):=
 (Az (fun s:Int×Int=>Jp a s.1 s.2) (b,0)).bind fun v2=>
 some v2
def UX (a:ByteArray):Option (Int):=
 (Qb 4294967295 a).bind fun v1=>
 some v1
def RT (a:ByteArray):Option (ByteArray×Bool):=
 bif(decide ((FJ a)>20000))then(some ((bs []),false))
 else((UX a).bind fun v1=>
 (Tf a (GS [(IntKind.u8.wrap (Int.fdiv v1 (2^(min (24:Int).toNat IntKind.u32.bits)))),(IntKind.u8.wrap (Int.fdiv v1 (2^(min (16:Int).toNat IntKind.u32.bits)))),(IntKind.u8.wrap (Int.fdiv v1 (2^(min (8:Int).toNat IntKind.u32.bits)))),(IntKind.u8.wrap v1)])).bind fun x1=>
 some (x1,true))
def Ov (a:ByteArray):Option (ByteArray×Bool):=
 bif(decide ((FJ a)<4))then(some ((bs []),false))
 else((sub a 0 (sb (FJ a) 4)).bind fun x1=>
 (RT x1).bind fun v1=>
 (bif(!v1.2)then(some true)
 else(some (!(seq v1.1 a))):Option (Bool)).bind fun j1=>
 bif j1 then(some ((bs []),false))
 else(some (x1,true)))
def Gy (b:ByteArray) (c:Int) (d:Int) (a:Int):Option ((Int×Int)⊕((Unit)⊕((Int×Int×Bool)))):=
 (bif(decide (a<5))then(bif(decide (c>=0))then(some (decide (c<(sb (FJ b) a))))
 else(some false))
 else(some false):Option (Bool)).bind fun j1=>
 bif j1 then((sx b (ad c a)).bind fun x1=>
 (shl .i64 (Int.tmod (IntKind.i64.wrap x1) 128) (ml 7 a)).bind fun x2=>
 bif(decide ((IntKind.i64.wrap x1)>=128))then(some (.inl ((ad d x2),(ad a 1))))
 else((bif((IntKind.i64.wrap x1)==0)then(bif(decide (a>0))then(some true)
 else(some (decide ((ad d x2)>1000000000))))
 else(some (decide ((ad d x2)>1000000000))):Option (Bool)).bind fun j2=>
 bif j2 then(some (.inr (.inr (0,0,false))))
 else(some (.inr (.inr ((ad d x2),(ad (ad c a) 1),true))))))
 else(some (.inr (.inl ())))
def LA (a:ByteArray) (b:Int):Option (Int×Int×Bool):=
 (Az (fun s:Int×Int=>Gy a b s.1 s.2) (0,0)).bind (Sum.elim (fun v1=>(some (0,0,false))) some)
def Sa (xP:Page):Option (Bool):=
 ((ST xP.Seq 1 1000000000).bind fun v1=>
 bif(!v1)then(some true)
 else((ST xP.Tx 1 1000000000).bind fun v2=>
 bif(!v2)then(some true)
 else((ST xP.Count 1 9).bind fun v3=>
 bif(!v3)then(some true)
 else((ST xP.Part 0 (sb xP.Count 1)).bind fun v4=>
 bif(!v4)then(some true)
 else(some (decide ((FJ xP.Text)>90)))))):Option (Bool)).bind fun j1=>
 bif j1 then(some false)
 else(bif(xP.Kind==2)then(some true)
 else(bif(xP.Kind==1)then(some (xP.Count==1))
 else(some false)))
def Eh (v1:ByteArray×Bool) (e:Int) (y1:Int) (a:Int) (b:Int) (c:Int) (d:Int):Option ((Int×Int×Int×Int×Int×Int)⊕((Int×Int×Int×Int×Int)⊕((Page×Bool)))):=
 bif(decide (y1<4))then((LA v1.1 e).bind fun v2=>
 bif(!v2.2.2)then(some (.inr (.inr ((Page.mk 0 0 0 0 0 (bs [])),false))))
 else(bif(y1==0)then(some (.inl (v2.2.1,(ad y1 1),v2.1,b,c,d)))
 else(bif(y1==1)then(some (.inl (v2.2.1,(ad y1 1),a,v2.1,c,d)))
 else(bif(y1==2)then(some (.inl (v2.2.1,(ad y1 1),a,b,v2.1,d)))
 else(bif(y1==3)then(some (.inl (v2.2.1,(ad y1 1),a,b,c,v2.1)))
 else none)))))
 else(some (.inr (.inl (e,a,b,c,d))))
def Ox (xT:ByteArray):Option (Page×Bool):=
 (Ov xT).bind fun v1=>
 (bif(!v1.2)then(some true)
 else(some (seq v1.1 (bs []))):Option (Bool)).bind fun j1=>
 bif j1 then(some ((Page.mk 0 0 0 0 0 (bs [])),false))
 else((Az (fun s:Int×Int×Int×Int×Int×Int=>Eh v1 s.1 s.2.1 s.2.2.1 s.2.2.2.1 s.2.2.2.2.1 s.2.2.2.2.2) (1,0,0,0,0,0)).bind (Sum.elim (fun v3=>((sx v1.1 0).bind fun x1=>
 (sub v1.1 v3.1 (FJ v1.1)).bind fun x2=>
 (Sa (Page.mk (IntKind.i64.wrap x1) v3.2.1 v3.2.2.1 v3.2.2.2.1 v3.2.2.2.2 x2)).bind fun v4=>
 bif(!v4)then(some ((Page.mk 0 0 0 0 0 (bs [])),false))
 else(some ((Page.mk (IntKind.i64.wrap x1) v3.2.1 v3.2.2.1 v3.2.2.2.1 v3.2.2.2.2 x2),true)))) some))
def BF (x:Ak):Int:=x.Page.Seq
def HF (y1:Int) (x1:Block) (y2:Int) (a:List Ak):Option ((Int×List Ak)⊕(List Ak)):=
 bif(decide (y2<(ln x1.Leaves)))then((gi x1.Leaves y2).bind fun x2=>
 (Ox x2.Text).bind fun v1=>
 (bif v1.2 then(some (x2.Is==1))
 else(some false):Option (Bool)).bind fun j1=>
 bif j1 then((ap 72 a [(Ak.mk y1 y2 v1.1)]).bind fun q1=>
 some (.inl ((ad y2 1),q1)))
 else(some (.inl ((ad y2 1),a))))
 else(some (.inr a))
def Gx (xF:Flash) (y1:Int) (a:List Ak):Option ((Int×List Ak)⊕(List Ak)):=
 bif(decide (y1<(ln xF.Blocks)))then((gi xF.Blocks y1).bind fun x1=>
 (Az (fun s:Int×List Ak=>HF y1 x1 s.1 s.2) (0,a)).bind fun v2=>
 some (.inl ((ad y1 1),v2)))
 else(some (.inr a))
def GL (xF:Flash):Option (List Ak):=
 (Az (fun s:Int×List Ak=>Gx xF s.1 s.2) (0,[])).bind fun v3=>
 (Dc (NF BF) v3 (ln v3)).bind fun v4=>
 some v4
def Lu (xA:Arena) (y1:Int) (x1:BU) (y2:Int):Option ((Int)⊕((Unit)⊕((Int)⊕((Unit)⊕(Bool))))):=
 bif(decide (y2<(ln x1.Kids)))then((gi x1.Kids y2).bind fun x2=>
 (bif x1.Leaf then(bif(decide (x2<0))then(some true)
 else(bif(!x1.Leaf)then(bif(x2 !=(-1))then((ST x2 0 (sb y1 1)).bind fun v1=>
 bif(!v1)then(some true)
 else((gi xA.Knots x2).bind fun x3=>
 some (!x3.Leaf)))
 else(some false))
 else(some false)))
 else(bif(!x1.Leaf)then(bif(x2 !=(-1))then((ST x2 0 (sb y1 1)).bind fun v2=>
 bif(!v2)then(some true)
 else((gi xA.Knots x2).bind fun x4=>
 some (!x4.Leaf)))
 else(some false))
 else(some false)):Option (Bool)).bind fun j1=>
 bif j1 then(some (.inr (.inr (.inr (.inr false)))))
 else(some (.inl (ad y2 1))))
 else(some (.inr (.inl ())))
def Lv (xA:Arena) (y1:Int):Option ((Int)⊕((Unit)⊕(Bool))):=
 bif(decide (y1<(ln xA.Knots)))then((gi xA.Knots y1).bind fun x1=>
 bif((ln x1.Kids) !=4)then(some (.inr (.inr false)))
 else((Az (fun s:Int=>Lu xA y1 x1 s) 0).bind (Sum.elim (fun v3=>(some (.inl (ad y1 1)))) some)))
 else(some (.inr (.inl ())))
def Qc (xA:Arena):Option (Bool):=
 (Az (fun s:Int=>Lv xA s) 0).bind (Sum.elim (fun v4=>(some true)) some)
def RR (xA:Arena) (a:Int):Option (Bool):=
 (ST a 0 (sb (ln xA.Knots) 1)).bind fun v1=>
 bif v1 then((gi xA.Knots a).bind fun x1=>
 some (!x1.Leaf))
 else(some false)
def QW (xA:Arena) (b:Int) (a:Int):Option (Int):=
 (gi xA.Knots b).bind fun x1=>
 (gi x1.Kids (qu a 4)).bind fun x2=>
 bif(decide (x2<0))then(some 0)
 else((gi xA.Knots x2).bind fun x3=>
 (gi x3.Kids (Int.tmod a 4)).bind fun x4=>
 some x4)
def UY (xA:Arena) (b:Int) (a:Int):Option (Int):=
 ((ST a 0 15).bind fun v1=>
 bif(!v1)then(some true)
 else((RR xA b).bind fun v2=>
 bif(!v2)then(some true)
 else((Qc xA).bind fun v3=>
 some (!v3))):Option (Bool)).bind fun j1=>
 bif j1 then(some 0)
 else((QW xA b a).bind fun v4=>
 some v4)
def Mk (xA:Arena) (b:Int) (a:List Int) (y1:Int):Option ((List Int×Int)⊕(List Int)):=
 bif(decide (y1<16))then((UY xA b y1).bind fun v1=>
 (ap 8 a [v1]).bind fun q1=>
 some (.inl (q1,(ad y1 1))))
 else(some (.inr a))
def UZ (xA:Arena) (a:Int):Option (List Int):=
 (Az (fun s:List Int×Int=>Mk xA a s.1 s.2) ([],0)).bind fun v2=>
 some v2
def HX (v1:List Int) (a:List Int) (y2:Int):Option ((List Int×Int)⊕(List Int)):=
 bif(decide (y2<(ln v1)))then((gi v1 y2).bind fun x2=>
 bif(decide (x2>0))then((ap 8 a [x2]).bind fun q1=>
 some (.inl (q1,(ad y2 1))))
 else(some (.inl (a,(ad y2 1)))))
 else(some (.inr a))
def HY (xS:Store) (a:List Int) (y1:Int):Option ((List Int×Int)⊕(List Int)):=
 bif(decide (y1<(ln xS.Vols)))then((gi xS.Vols y1).bind fun x1=>
 (UZ xS.Arena x1.Root).bind fun v1=>
 (Az (fun s:List Int×Int=>HX v1 s.1 s.2) (a,0)).bind fun v2=>
 some (.inl (v2,(ad y1 1))))
 else(some (.inr a))
def Ou (xS:Store):Option (List Int):=
 (Az (fun s:List Int×Int=>HY xS s.1 s.2) ([],0)).bind fun v3=>
 some v3
def IK (v2:List Int) (a:List Int) (y1:Int):Option ((List Int×Int)⊕(List Int)):=
 bif(decide (y1<(ln v2)))then((gi v2 y1).bind fun x1=>
 (bif(y1==0)then(some true)
 else((gi v2 (sb y1 1)).bind fun x2=>
 some (x2 !=x1)):Option (Bool)).bind fun j1=>
 bif j1 then((ap 8 a [x1]).bind fun q1=>
 some (.inl (q1,(ad y1 1))))
 else(some (.inl (a,(ad y1 1)))))
 else(some (.inr a))
def KC (xS:Store):Option (List Int):=
 (Ou xS).bind fun v1=>
 (iY v1).bind fun v2=>
 (Az (fun s:List Int×Int=>IK v2 s.1 s.2) ([],0)).bind fun v3=>
 some v3
def IJ (j:Int) (v1:List Ak) (i:Bool) (y1:Int) (b:Int) (c:Int) (d:Int) (a:Int) (e:Int) (f:Int) (g:Int) (h:ByteArray):Option ((Bool×Int×Int×Int×Int×Int×Int×Int×Int×ByteArray)⊕(Bool×Int×Int×Int×Int×Int×Int×Int×ByteArray)):=
 bif(decide (y1<(ln v1)))then((gi v1 y1).bind fun x1=>
 (bif(x1.Page.Kind==1)then(bif(x1.Page.Tx==j)then(bif(!i)then(some true)
 else(some (decide (x1.Page.Seq>=a))))
 else(some false))
 else(some false):Option (Bool)).bind fun j1=>
 bif j1 then(some (.inl (true,(ad y1 1),x1.Block,x1.Leaf,x1.Page.Kind,x1.Page.Seq,x1.Page.Tx,x1.Page.Part,x1.Page.Count,x1.Page.Text)))
 else(some (.inl (i,(ad y1 1),b,c,d,a,e,f,g,h))))
 else(some (.inr (i,b,c,d,a,e,f,g,h)))
def Nw (xF:Flash) (a:Int):Option (Ak×Bool):=
 (GL xF).bind fun v1=>
 (Az (fun s:Bool×Int×Int×Int×Int×Int×Int×Int×Int×ByteArray=>IJ a v1 s.1 s.2.1 s.2.2.1 s.2.2.2.1 s.2.2.2.2.1 s.2.2.2.2.2.1 s.2.2.2.2.2.2.1 s.2.2.2.2.2.2.2.1 s.2.2.2.2.2.2.2.2.1 s.2.2.2.2.2.2.2.2.2) (false,0,0,0,0,0,0,0,0,(bs []))).bind fun v2=>
 some ((Ak.mk v2.2.1 v2.2.2.1 (Page.mk v2.2.2.2.1 v2.2.2.2.2.1 v2.2.2.2.2.2.1 v2.2.2.2.2.2.2.1 v2.2.2.2.2.2.2.2.1 v2.2.2.2.2.2.2.2.2)),v2.1)
def Dv (a:ByteArray) (b:List AJ):Option ((ByteArray×List AJ)⊕((List AJ)⊕((List AJ×Bool)))):=
 bif(!(seq a (bs [])))then((sx a 0).bind fun x1=>
 (bif(decide ((IntKind.i64.wrap x1)>=128))then(some (decide ((FJ a)>=2)))
 else(some false):Option (Bool)).bind fun j1=>
 bif j1 then((sx a 1).bind fun x2=>
 (ap 32 b [(AJ.mk (IntKind.i64.wrap x2) (sb (IntKind.i64.wrap x1) 128) (bs []))]).bind fun q1=>
 (sub a 2 (FJ a)).bind fun x3=>
 some (.inl (x3,q1)))
 else((bif(decide ((IntKind.i64.wrap x1)<128))then(some (decide ((IntKind.i64.wrap x1)<(FJ a))))
 else(some false):Option (Bool)).bind fun j2=>
 bif j2 then((sub a 1 (ad 1 (IntKind.i64.wrap x1))).bind fun x4=>
 (ap 32 b [(AJ.mk 0 0 x4)]).bind fun q2=>
 (sub a (ad 1 (IntKind.i64.wrap x1)) (FJ a)).bind fun x5=>
 some (.inl (x5,q2)))
 else(some (.inr (.inr ([],false))))))
 else(some (.inr (.inl b)))
def Ot (xT:ByteArray):Option (List AJ×Bool):=
 (Az (fun s:ByteArray×List AJ=>Dv s.1 s.2) (xT,[])).bind (Sum.elim (fun v1=>(some (v1,true))) some)
def Oy (x1:AJ) (a:List Int) (y2:Int):Option ((List Int×Int)⊕(List Int)):=
 bif(decide (y2<x1.Size))then((gi a (sb (ln a) x1.Back)).bind fun x2=>
 (ap 1 a [x2]).bind fun q2=>
 some (.inl (q2,(ad y2 1))))
 else(some (.inr a))
def Lt (b:List AJ) (a:List Int) (y1:Int):Option ((List Int×Int)⊕((List Int)⊕((ByteArray×Bool)))):=
 bif(decide (y1<(ln b)))then((gi b y1).bind fun x1=>
 (bif(x1.Back==0)then((bif(x1.Size !=0)then(some true)
 else((ST (FJ x1.Text) 1 31).bind fun v1=>
 some (!v1)):Option (Bool)).bind fun j2=>
 bif j2 then(some (.inr (.inr (.inr ((bs []),false)))))
 else((aps a x1.Text).bind fun q1=>
 some (.inl q1)))
 else(((ST x1.Back 1 (ln a)).bind fun v2=>
 bif(!v2)then(some true)
 else((ST x1.Size 1 31).bind fun v3=>
 bif(!v3)then(some true)
 else(some (!(seq x1.Text (bs []))))):Option (Bool)).bind fun j3=>
 bif j3 then(some (.inr (.inr (.inr ((bs []),false)))))
 else((Az (fun s:List Int×Int=>Oy x1 s.1 s.2) (a,0)).bind fun v4=>
 some (.inl v4))):Option ((List Int)⊕((List Int×Int)⊕((List Int)⊕((ByteArray×Bool)))))).bind (Sum.elim (fun j1=>(bif(decide ((ln j1)>64))then(some (.inr (.inr ((bs []),false))))
 else(some (.inl (j1,(ad y1 1)))))) some))
 else(some (.inr (.inl a)))
def Ny (a:List AJ):Option (ByteArray×Bool):=
 (Az (fun s:List Int×Int=>Lt a s.1 s.2) ([],0)).bind (Sum.elim (fun v5=>(some ((GS v5),true))) some)
def E9 (xS:ByteArray) (c:Int) (b:Int) (a:Int):Option ((Int)⊕(Int)):=
 (bif(decide (a<31))then(bif(decide ((ad c a)<(FJ xS)))then((sx xS (ad b a)).bind fun x1=>
 (sx xS (ad c a)).bind fun x2=>
 some (x1==x2))
 else(some false))
 else(some false):Option (Bool)).bind fun j1=>
 bif j1 then(some (.inl (ad a 1)))
 else(some (.inr a))
def Gw (xS:ByteArray) (d:Int) (b:Int) (c:Int) (a:Int):Option ((Int×Int×Int)⊕(Int×Int)):=
 bif(decide (a>=0))then((Az (fun s:Int=>E9 xS d a s) 0).bind fun v1=>
 (bif(decide (v1>=4))then(some (decide (v1>b)))
 else(some false):Option (Bool)).bind fun j2=>
 bif j2 then(some (.inl (v1,(sb d a),(sb a 1))))
 else(some (.inl (b,c,(sb a 1)))))
 else(some (.inr (b,c)))
def Qa (xS:ByteArray) (a:Int):Option (Int×Int):=
 (Az (fun s:Int×Int×Int=>Gw xS a s.1 s.2.1 s.2.2) (0,0,(sb a 1))).bind fun v2=>
 some (v2.1,v2.2)
def Kr (xS:ByteArray) (a:List AJ) (b:Int):Option ((List AJ×Int)⊕(List AJ)):=
 bif(decide (b<(FJ xS)))then((Qa xS b).bind fun v1=>
 bif(decide (v1.1>0))then((ap 32 a [(AJ.mk v1.2 v1.1 (bs []))]).bind fun q1=>
 some (.inl (q1,(ad b v1.1))))
 else((bif(decide ((sb (ln a) 1)<0))then(some true)
 else((gi a (sb (ln a) 1)).bind fun x1=>
 bif(decide (x1.Back>0))then(some true)
 else((gi a (sb (ln a) 1)).bind fun x2=>
 some (decide ((FJ x2.Text)>=31)))):Option (Bool)).bind fun j1=>
 (bif j1 then((ap 32 a [(AJ.mk 0 0 (bs []))]).bind fun q2=>
 some (q2,(ad (sb (ln a) 1) 1)))
 else(some (a,(sb (ln a) 1))):Option (List AJ×Int)).bind fun j2=>
 (gi j2.1 j2.2).bind fun x3=>
 (sub xS b (ad b 1)).bind fun x4=>
 (Tf x3.Text x4).bind fun x5=>
 (gi j2.1 j2.2).bind fun x6=>
 some (.inl ((si j2.1 j2.2 (AJ.mk x6.Back x6.Size x5)),(ad b 1)))))
 else(some (.inr a))
def Ow (xS:ByteArray):Option (List AJ):=
 bif(decide ((FJ xS)>64))then(some [])
 else((Az (fun s:List AJ×Int=>Kr xS s.1 s.2) ([],0)).bind fun v2=>
 some v2)
def HZ (v1:List AJ) (a:List Int) (y1:Int):Option ((List Int×Int)⊕(List Int)):=
 bif(decide (y1<(ln v1)))then((gi v1 y1).bind fun x1=>
 (bif(decide (x1.Back>0))then((ap 1 a [(IntKind.u8.wrap (ad 128 x1.Size)),(IntKind.u8.wrap x1.Back)]).bind fun q1=>
 some q1)
 else((ap 1 a [(IntKind.u8.wrap (FJ x1.Text))]).bind fun q2=>
 (aps q2 x1.Text).bind fun q3=>
 some q3):Option (List Int)).bind fun j1=>
 some (.inl (j1,(ad y1 1))))
 else(some (.inr a))
def Mi (xS:ByteArray):Option (ByteArray×Bool):=
 bif(decide ((FJ xS)>64))then(some ((bs []),false))
 else((Ow xS).bind fun v1=>
 (Az (fun s:List Int×Int=>HZ v1 s.1 s.2) ([122],0)).bind fun v2=>
 bif(decide ((ad (FJ xS) 1)<=(ln v2)))then((Tf (bs [114]) xS).bind fun x2=>
 some (x2,true))
 else(some ((GS v2),true)))
def Ls (xT:ByteArray):Option (ByteArray×Bool):=
 bif(seq xT (bs []))then(some ((bs []),false))
 else((sub xT 1 (FJ xT)).bind fun x1=>
 (sx xT 0).bind fun x2=>
 (bif(x2 !=114)then((Ot x1).bind fun v1=>
 (Ny v1.1).bind fun v2=>
 bif(!v1.2)then(some (.inr ((bs []),false)))
 else(bif(!v2.2)then(some (.inr ((bs []),false)))
 else(some (.inl v2.1))))
 else(some (.inl x1)):Option ((ByteArray)⊕((ByteArray×Bool)))).bind (Sum.elim (fun j1=>((Mi j1).bind fun v3=>
 (bif(!v3.2)then(some true)
 else(some (!(seq v3.1 xT))):Option (Bool)).bind fun j2=>
 bif j2 then(some ((bs []),false))
 else(some (j1,true)))) some))
def Ht (xF:Flash) (a:Int):Option (ByteArray×Bool):=
 (Nw xF a).bind fun v1=>
 bif(!v1.2)then(some ((bs []),false))
 else((Ls v1.1.Page.Text).bind fun v2=>
 some (v2.1,v2.2))
def Ib (xF:Flash) (a:List Int) (b:ByteArray) (y1:Int):Option ((Int)⊕((Unit)⊕(Int))):=
 bif(decide (y1<(ln a)))then((gi a y1).bind fun x1=>
 (Ht xF x1).bind fun v1=>
 bif v1.2 then(bif(seq v1.1 b)then(some (.inr (.inr x1)))
 else(some (.inl (ad y1 1))))
 else(some (.inl (ad y1 1))))
 else(some (.inr (.inl ())))
def JW (xF:Flash) (a:List Int) (b:ByteArray):Option (Int):=
 (Az (fun s:Int=>Ib xF a b s) 0).bind (Sum.elim (fun v2=>(some 0)) some)
def Hs (xB:Block) (a:Int) (y1:Int):Option ((Int×Int)⊕(Int)):=
 bif(decide (y1<(ln xB.Leaves)))then((gi xB.Leaves y1).bind fun x1=>
 bif(x1.Is==0)then(some (.inl ((ad a 1),(ad y1 1))))
 else(some (.inl (a,(ad y1 1)))))
 else(some (.inr a))
def Nx (xB:Block):Option (Int):=
 (Az (fun s:Int×Int=>Hs xB s.1 s.2) (0,0)).bind fun v1=>
 some v1
def MF (xF:Flash) (a:Int) (y1:Int):Option ((Int×Int)⊕(Int)):=
 bif(decide (y1<(ln xF.Blocks)))then((gi xF.Blocks y1).bind fun x1=>
 bif(!x1.Bad)then((Nx x1).bind fun v1=>
 some (.inl ((ad a v1),(ad y1 1))))
 else(some (.inl (a,(ad y1 1)))))
 else(some (.inr a))
def mO (xF:Flash):Option (Int):=
 (Az (fun s:Int×Int=>MF xF s.1 s.2) (0,0)).bind fun v2=>
 some v2
def JV (xF:Flash) (xB:Int) (v1:List Int) (a:List Ak) (y1:Int):Option ((List Ak×Int)⊕(List Ak)):=
 bif(decide (y1<(ln v1)))then((gi v1 y1).bind fun x1=>
 (Nw xF x1).bind fun v2=>
 (bif v2.2 then(some (v2.1.Block==xB))
 else(some false):Option (Bool)).bind fun j1=>
 bif j1 then((ap 72 a [v2.1]).bind fun q1=>
 some (.inl (q1,(ad y1 1))))
 else(some (.inl (a,(ad y1 1)))))
 else(some (.inr a))
def fO (xF:Flash) (xS:Store) (xB:Int):Option (List Ak):=
 (KC xS).bind fun v1=>
 (Az (fun s:List Ak×Int=>JV xF xB v1 s.1 s.2) ([],0)).bind fun v3=>
 some v3
def Ia (a:Int) (xB:Int) (v2:List Ak) (b:Int) (y1:Int):Option ((Int×Int)⊕(Int)):=
 bif(decide (y1<(ln v2)))then((gi v2 y1).bind fun x1=>
 (bif(x1.Block==xB)then(bif(x1.Page.Kind==2)then(some (decide (x1.Page.Tx>=a)))
 else(some false))
 else(some false):Option (Bool)).bind fun j1=>
 bif j1 then(some (.inl ((ad b 1),(ad y1 1))))
 else(some (.inl (b,(ad y1 1)))))
 else(some (.inr b))
def Mj (xF:Flash) (xS:Store) (a:Int) (xB:Int):Option (Int):=
 (fO xF xS xB).bind fun v1=>
 (GL xF).bind fun v2=>
 (Az (fun s:Int×Int=>Ia a xB v2 s.1 s.2) ((ln v1),0)).bind fun v3=>
 some v3
def Im (xF:Flash) (a:List Int) (y1:Int):Option ((List Int×Int)⊕(List Int)):=
 bif(decide (y1<(ln xF.Blocks)))then((gi xF.Blocks y1).bind fun x1=>
 (bif(!x1.Bad)then((Nx x1).bind fun v1=>
 some (v1==(ln x1.Leaves)))
 else(some false):Option (Bool)).bind fun j1=>
 bif j1 then((ap 8 a [y1]).bind fun q1=>
 some (.inl (q1,(ad y1 1))))
 else(some (.inl (a,(ad y1 1)))))
 else(some (.inr a))
def Sb (xF:Flash):Option (List Int):=
 (Az (fun s:List Int×Int=>Im xF s.1 s.2) ([],0)).bind fun v2=>
 some v2
def Wr (xF:Flash) (xS:Store) (a:Int) (xB:Int):Option (Int):=
 (Fp xF).bind fun v1=>
 (FW xS).bind fun v2=>
 (Gk v1 v2 a).bind fun v3=>
 (M1 v1 v3 xB).bind fun v4=>
 some v4
def RS (xF:Flash) (a:Int):Option (Int×Int×Bool):=
 (Nw xF a).bind fun v1=>
 some (v1.1.Block,v1.1.Leaf,v1.2)
def G8 (v2:AE) (v3:List Int) (a:Int):Option ((Int)⊕((Unit)⊕(Bool))):=
 bif(decide (a<(ln v3)))then((gi v3 a).bind fun x1=>
 (Ht v2.Flash x1).bind fun v4=>
 (gi v3 a).bind fun x2=>
 (RS v2.Flash x2).bind fun v5=>
 (JN v2.Flash v5.1 v5.2.1).bind fun v6=>
 (DX v6.1).bind fun v7=>
 (bif(!v4.2)then(some true)
 else(bif(!v5.2.2)then(some true)
 else(bif(!v6.2)then(some true)
 else(bif(!v7.2)then(some true)
 else((gi v3 a).bind fun x3=>
 bif(v7.1.Tx !=x3)then(some true)
 else((gi v3 a).bind fun x4=>
 (JW v2.Flash v3 v4.1).bind fun v8=>
 bif(v8 !=x4)then(some true)
 else((Mj v2.Flash v2.Store 1000000000 v5.1).bind fun v9=>
 some (decide (v9<1)))))))):Option (Bool)).bind fun j1=>
 bif j1 then(some (.inr (.inr false)))
 else(some (.inl (ad a 1))))
 else(some (.inr (.inl ())))
def LF (a:List Int):Option (Bool):=
 (Vn a).bind fun v1=>
 bif v1 then(some true)
 else((Lm a).bind fun v2=>
 (FW v2.Store).bind fun v3=>
 (Az (fun s:Int=>G8 v2 v3 s) 0).bind (Sum.elim (fun v10=>((Ht v2.Flash 999).bind fun v11=>
 bif(!v11.2)then((JW v2.Flash v3 (bs [110,101,118,101,114,32,115,97,105,100])).bind fun v12=>
 some (v12==0))
 else(some false))) some))
end
end Go.TI
