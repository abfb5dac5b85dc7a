/- Sorting. No condition. -/
import Derived.Test.YtpafpcbnmplkfaaGreatCCLY
import Derived.Test.YtpafpcbnmplkfaaGreatProg
import Derived.Lib.ReflectliteSlice
import Derived.WalkKit
import Derived.Below
import Derived.KernelRfl
import Derived.Shelf.Abstract
set_option maxRecDepth 100000
set_option maxHeartbeats 1000000
set_option linter.unusedVariables false
set_option linter.unusedSimpArgs false
namespace Go.TI
open Go Go.Proofs
variable {γ:Type} {g sf:FuncId} {capL capS:Array Value} {P:Program} {A:JG} {v:Int} {lt:γ->γ->Bool} {Am:List γ->JG} {l:List γ} {r:List γ}
def OG (Am:List γ->JG) (g sf:FuncId) (capL capS:Array Value) (xA:Int) (xB:Int) (xN:Int) (z1:Int) (z2:List γ):St:=Fl [(1,(I xA)),(2,(I xB)),(3,(I xN)),(4,(.one (.ptr (.box 4) 0 [] 0))),(8,(I z1))] [(.box 4,[.fn (.func g) #[] capL,.fn (.func sf) #[] capS])] (Am z2)
def OF (Am:List γ->JG) (g sf:FuncId) (capL capS:Array Value) (z3:List γ):St:=Fl [] [] (Am z3)
theorem H7 (b:Jm Tryz.prog Am lt g capL) (a:Na Tryz.prog Am sf capS) (hB:∀l l',(Am l).B=(Am l').B/\(Am l).pin=none) (xL:List γ) (xA:Int) (xB:Int) (xN:Int) (r:List γ) (h:Dh lt xL xA xB xN=some r):LE Tryz.prog 214 (Am xL) [.sv (.agg [.fn (.func g) #[] capL,.fn (.func sf) #[] capS]),.sv (I xA),.sv (I xB),.sv (I xN)] (Am r):=by
 unfold Dh at h;refine gka Tryz.func214 Tryz.ntmps214 hB (ws (gw 1 0 (gn 1 0 (BQ h [1,2,3,4,8] [.box 4] (λs=>(OG Am g sf capL capS xA xB xN s.1 s.2)) [] [] (λs=>(OF Am g sf capL capS s)) DM ?_ ?_))))
 ·rintro⟨c,d⟩ o (h:Ea lt xA xB xN c d=some o);refine Wp.seq (ws (gn 3 0 (wc h (λh=>?_) (λh=>?_))))
  ·exact Wp.skip (Wp.seq (Wp.block (Ap (Ah 8 0 (AB2 a hB h (λv1 h=>RW.nil (Ap (gn 3 0 (jl h)))))))))
  exact Wp.exit (jv h)
 intro v2 h E hE;exact nta h hE
def RQ (Am:List γ->JG) (g sf:FuncId) (capL capS:Array Value) (xM:Int) (z1:Int) (z2:Int) (z3:List γ):St:=Fl [(2,(I xM)),(4,(.one (.ptr (.box 4) 0 [] 0))),(8,(I z1)),(9,(I z2))] [(.box 4,[.fn (.func g) #[] capL,.fn (.func sf) #[] capS])] (Am z3)
def RP (Am:List γ->JG) (g sf:FuncId) (capL capS:Array Value) (xM:Int) (z4:Int) (z5:List γ):St:=Fl [(2,(I xM)),(4,(.one (.ptr (.box 4) 0 [] 0))),(8,(I z4))] [(.box 4,[.fn (.func g) #[] capL,.fn (.func sf) #[] capS])] (Am z5)
theorem Sq (a:Jm Tryz.prog Am lt g capL) (b:Na Tryz.prog Am sf capS) (hB:∀l l',(Am l).B=(Am l').B/\(Am l).pin=none) (xL:List γ) (xA:Int) (xM:Int) (xB:Int) (r:List γ) (h:Fv lt xL xA xM xB=some r):LE Tryz.prog 202 (Am xL) [.sv (.agg [.fn (.func g) #[] capL,.fn (.func sf) #[] capS]),.sv (I xA),.sv (I xM),.sv (I xB)] (Am r):=by
 unfold Fv at h;refine gka Tryz.func202 Tryz.ntmps202 hB (ws (gw 1 0 (gw 4 0 (gn 4 0 (sl1 h [2,4,8,9] [.box 4] (λs=>(RQ Am g sf capL capS xM s.1 s.2.1 s.2.2)) [2,4,8] [.box 4] (λs=>(RP Am g sf capL capS xM s.1 s.2)) ?_ (λv3 h=>?_))))))
 ·rintro⟨c,d,e⟩ o (h:EU lt xM c d e=some o);refine Wp.seq (ws (gn 3 0 (wc h (λh=>?_) (λh=>?_))))
  ·refine Wp.skip (Wp.block (ws (gn 3 0 (wc h (λh=>?_) (λh=>?_)))))
   ·exact ws (Ah 6 0 (Rd h hB (H7 a b hB _ _ _ _) (λv1 h=>RW.nil (Ap (gn 4 0 (jl h))))))
   exact ws (Ah 10 0 (Rd h hB (H7 a b hB _ _ _ _) (λv2 h=>RW.nil (Ap (gn 4 0 (jl h))))))
  exact Wp.exit (jv h)
 exact Ap (Ah 6 0 (Rd h hB (H7 a b hB _ _ _ _) (λv4 h=>RW.nil (ra h))))
def M6 (Am:List γ->JG) (g sf:FuncId) (capL capS:Array Value) (xA:Int) (xB:Int) (z1:Int) (z2:List γ):St:=Fl [(1,(I xA)),(2,(I xB)),(3,(.one (.ptr (.box 3) 0 [] 0))),(6,(I z1))] [(.box 3,[.fn (.func g) #[] capL,.fn (.func sf) #[] capS])] (Am z2)
def M5 (Am:List γ->JG) (g sf:FuncId) (capL capS:Array Value) (z3:List γ):St:=Fl [] [] (Am z3)
def M4 (Am:List γ->JG) (g sf:FuncId) (capL capS:Array Value) (xA:Int) (xB:Int) (a:Int) (z4:Int) (z5:List γ):St:=Fl [(1,(I xA)),(2,(I xB)),(3,(.one (.ptr (.box 3) 0 [] 0))),(6,(I a)),(7,(I z4))] [(.box 3,[.fn (.func g) #[] capL,.fn (.func sf) #[] capS])] (Am z5)
def M3 (Am:List γ->JG) (g sf:FuncId) (capL capS:Array Value) (xA:Int) (xB:Int) (a:Int) (z6:List γ):St:=Fl [(1,(I xA)),(2,(I xB)),(3,(.one (.ptr (.box 3) 0 [] 0))),(6,(I a))] [(.box 3,[.fn (.func g) #[] capL,.fn (.func sf) #[] capS])] (Am z6)
def M2 (Am:List γ->JG) (g sf:FuncId) (capL capS:Array Value) (xA:Int) (xB:Int) (a:Int) (b:Int) (c:List γ) (z7:Bool):St:=Fl [(1,(I xA)),(2,(I xB)),(3,(.one (.ptr (.box 3) 0 [] 0))),(6,(I a)),(7,(I b)),(26,(B z7))] [(.box 3,[.fn (.func g) #[] capL,.fn (.func sf) #[] capS])] (Am c)
theorem FP (c:Jm Tryz.prog Am lt g capL) (d:Na Tryz.prog Am sf capS) (hB:∀l l',(Am l).B=(Am l').B/\(Am l).pin=none) (xL:List γ) (xA:Int) (xB:Int) (r:List γ) (h:BT lt xL xA xB=some r):LE Tryz.prog 118 (Am xL) [.sv (.agg [.fn (.func g) #[] capL,.fn (.func sf) #[] capS]),.sv (I xA),.sv (I xB)] (Am r):=by
 unfold BT at h;refine gka Tryz.func118 Tryz.ntmps118 hB (ws (gw 1 0 (gn 3 0 (BQ h [1,2,3,6] [.box 3] (λs=>(M6 Am g sf capL capS xA xB s.1 s.2)) [] [] (λs=>(M5 Am g sf capL capS s)) DM ?_ ?_))))
 ·rintro⟨b,i⟩ o (h:Bv lt xA xB b i=some o);refine Wp.seq (ws (gn 3 0 (wc h (λh=>?_) (λh=>?_))))
  ·refine Wp.skip (Wp.seq (Wp.block (ws (gn 2 0 (BQ h [1,2,3,6,7] [.box 3] (λs=>(M4 Am g sf capL capS xA xB b s.1 s.2)) [1,2,3,6] [.box 3] (λs=>(M3 Am g sf capL capS xA xB b s)) DM ?_ ?_)))))
   ·rintro⟨e,f⟩ o (h:Bq lt xA e f=some o);refine Wp.seq (EA h [1,2,3,6,7,26] [.box 3] (λa=>(M2 Am g sf capL capS xA xB b e f a)) (λa h=>?_) (λj1 h=>?_))
    ·refine Ap (Ah 4 0 (AK 19 h (λh=>?_) (λh=>?_)))
     ·exact Ah 5 0 (AB3 c h (λv1 h=>gn 1 0 (jn h)))
     exact gn 7 0 (jn h)
    refine wc h (λh=>?_) (λh=>?_)
    ·exact Wp.skip (Wp.seq (Wp.block (Ap (Ah 5 0 (AB2 d hB h (λv2 h=>RW.nil (Ap (gn 3 0 (jl h)))))))))
    exact Wp.exit (jv h)
   intro v3 h E hE;exact AW hE (Ap (gn 3 0 (jl h)))
  exact Wp.exit (jv h)
 intro v4 h E hE;exact nta h hE
def PR (Am:List γ->JG) (g sf:FuncId) (capL capS:Array Value) (xL:List γ) (xA:Int) (z1:Int) (z2:Int):St:=Fl [(1,(I xA)),(4,(.one (.ptr (.box 4) 0 [] 0))),(8,(I z1)),(9,(I z2))] [(.box 4,[.fn (.func g) #[] capL,.fn (.func sf) #[] capS])] (Am xL)
def PQ (Am:List γ->JG) (g sf:FuncId) (capL capS:Array Value) (xL:List γ) (xA:Int) (z3:Int):St:=Fl [(1,(I xA)),(4,(.one (.ptr (.box 4) 0 [] 0))),(8,(I z3))] [(.box 4,[.fn (.func g) #[] capL,.fn (.func sf) #[] capS])] (Am xL)
def PP (Am:List γ->JG) (g sf:FuncId) (capL capS:Array Value) (v2:Int) (z4:Int) (z5:List γ):St:=Fl [(4,(.one (.ptr (.box 4) 0 [] 0))),(8,(I v2)),(11,(I z4))] [(.box 4,[.fn (.func g) #[] capL,.fn (.func sf) #[] capS])] (Am z5)
def PO (Am:List γ->JG) (g sf:FuncId) (capL capS:Array Value) (z6:List γ):St:=Fl [] [] (Am z6)
def PN (Am:List γ->JG) (g sf:FuncId) (capL capS:Array Value) (xL:List γ) (xM:Int) (z7:Int) (z8:Int):St:=Fl [(2,(I xM)),(4,(.one (.ptr (.box 4) 0 [] 0))),(12,(I z7)),(13,(I z8))] [(.box 4,[.fn (.func g) #[] capL,.fn (.func sf) #[] capS])] (Am xL)
def PM (Am:List γ->JG) (g sf:FuncId) (capL capS:Array Value) (xL:List γ) (xM:Int) (z9:Int):St:=Fl [(2,(I xM)),(4,(.one (.ptr (.box 4) 0 [] 0))),(12,(I z9))] [(.box 4,[.fn (.func g) #[] capL,.fn (.func sf) #[] capS])] (Am xL)
def PL (Am:List γ->JG) (g sf:FuncId) (capL capS:Array Value) (v6:Int) (z10:Int) (z11:List γ):St:=Fl [(4,(.one (.ptr (.box 4) 0 [] 0))),(12,(I v6)),(15,(I z10))] [(.box 4,[.fn (.func g) #[] capL,.fn (.func sf) #[] capS])] (Am z11)
def PK (Am:List γ->JG) (g sf:FuncId) (capL capS:Array Value) (z12:List γ):St:=Fl [] [] (Am z12)
def PJ (Am:List γ->JG) (g sf:FuncId) (capL capS:Array Value) (xL:List γ) (xA:Int) (xM:Int) (xB:Int) (z13:Int) (z14:Int):St:=Fl [(1,(I xA)),(2,(I xM)),(3,(I xB)),(4,(.one (.ptr (.box 4) 0 [] 0))),(16,(I (IntKind.i64.wrap (Int.fdiv (IntKind.u64.wrap (ad xA xB)) (2^(min (1:Int).toNat IntKind.u64.bits)))))),(17,(I (ad (IntKind.i64.wrap (Int.fdiv (IntKind.u64.wrap (ad xA xB)) (2^(min (1:Int).toNat IntKind.u64.bits)))) xM))),(18,(I z13)),(19,(I z14))] [(.box 4,[.fn (.func g) #[] capL,.fn (.func sf) #[] capS])] (Am xL)
def OE (Am:List γ->JG) (g sf:FuncId) (capL capS:Array Value) (xL:List γ) (xA:Int) (xM:Int) (xB:Int) (z15:Int) (z16:Int):St:=Fl [(1,(I xA)),(2,(I xM)),(3,(I xB)),(4,(.one (.ptr (.box 4) 0 [] 0))),(16,(I (IntKind.i64.wrap (Int.fdiv (IntKind.u64.wrap (ad xA xB)) (2^(min (1:Int).toNat IntKind.u64.bits)))))),(17,(I (ad (IntKind.i64.wrap (Int.fdiv (IntKind.u64.wrap (ad xA xB)) (2^(min (1:Int).toNat IntKind.u64.bits)))) xM))),(18,(I z15)),(19,(I z16)),(20,(I (sb (ad (IntKind.i64.wrap (Int.fdiv (IntKind.u64.wrap (ad xA xB)) (2^(min (1:Int).toNat IntKind.u64.bits)))) xM) 1)))] [(.box 4,[.fn (.func g) #[] capL,.fn (.func sf) #[] capS])] (Am xL)
def OD (Am:List γ->JG) (g sf:FuncId) (capL capS:Array Value) (xL:List γ) (xA:Int) (xM:Int) (xB:Int) (z17:Int):St:=Fl [(1,(I xA)),(2,(I xM)),(3,(I xB)),(4,(.one (.ptr (.box 4) 0 [] 0))),(16,(I (IntKind.i64.wrap (Int.fdiv (IntKind.u64.wrap (ad xA xB)) (2^(min (1:Int).toNat IntKind.u64.bits)))))),(17,(I (ad (IntKind.i64.wrap (Int.fdiv (IntKind.u64.wrap (ad xA xB)) (2^(min (1:Int).toNat IntKind.u64.bits)))) xM))),(18,(I z17))] [(.box 4,[.fn (.func g) #[] capL,.fn (.func sf) #[] capS])] (Am xL)
def OC (Am:List γ->JG) (g sf:FuncId) (capL capS:Array Value) (xL:List γ) (xA:Int) (xM:Int) (xB:Int) (v10:Int) (z18:Bool):St:=Fl [(1,(I xA)),(2,(I xM)),(3,(I xB)),(4,(.one (.ptr (.box 4) 0 [] 0))),(16,(I (IntKind.i64.wrap (Int.fdiv (IntKind.u64.wrap (ad xA xB)) (2^(min (1:Int).toNat IntKind.u64.bits)))))),(18,(I v10)),(22,(I (sb (ad (IntKind.i64.wrap (Int.fdiv (IntKind.u64.wrap (ad xA xB)) (2^(min (1:Int).toNat IntKind.u64.bits)))) xM) v10))),(145,(B z18))] [(.box 4,[.fn (.func g) #[] capL,.fn (.func sf) #[] capS])] (Am xL)
def OB (Am:List γ->JG) (g sf:FuncId) (capL capS:Array Value) (xA:Int) (xM:Int) (xB:Int) (v10:Int) (z19:List γ):St:=Fl [(1,(I xA)),(3,(I xB)),(4,(.one (.ptr (.box 4) 0 [] 0))),(16,(I (IntKind.i64.wrap (Int.fdiv (IntKind.u64.wrap (ad xA xB)) (2^(min (1:Int).toNat IntKind.u64.bits)))))),(18,(I v10)),(22,(I (sb (ad (IntKind.i64.wrap (Int.fdiv (IntKind.u64.wrap (ad xA xB)) (2^(min (1:Int).toNat IntKind.u64.bits)))) xM) v10)))] [(.box 4,[.fn (.func g) #[] capL,.fn (.func sf) #[] capS])] (Am z19)
def OA (Am:List γ->JG) (g sf:FuncId) (capL capS:Array Value) (xA:Int) (xM:Int) (xB:Int) (v10:Int) (j3:List γ) (z20:Bool):St:=Fl [(1,(I xA)),(3,(I xB)),(4,(.one (.ptr (.box 4) 0 [] 0))),(16,(I (IntKind.i64.wrap (Int.fdiv (IntKind.u64.wrap (ad xA xB)) (2^(min (1:Int).toNat IntKind.u64.bits)))))),(18,(I v10)),(22,(I (sb (ad (IntKind.i64.wrap (Int.fdiv (IntKind.u64.wrap (ad xA xB)) (2^(min (1:Int).toNat IntKind.u64.bits)))) xM) v10))),(158,(B z20))] [(.box 4,[.fn (.func g) #[] capL,.fn (.func sf) #[] capS])] (Am j3)
def O9 (Am:List γ->JG) (g sf:FuncId) (capL capS:Array Value) (xA:Int) (xM:Int) (xB:Int) (v10:Int) (z21:List γ):St:=Fl [(3,(I xB)),(4,(.one (.ptr (.box 4) 0 [] 0))),(16,(I (IntKind.i64.wrap (Int.fdiv (IntKind.u64.wrap (ad xA xB)) (2^(min (1:Int).toNat IntKind.u64.bits)))))),(22,(I (sb (ad (IntKind.i64.wrap (Int.fdiv (IntKind.u64.wrap (ad xA xB)) (2^(min (1:Int).toNat IntKind.u64.bits)))) xM) v10)))] [(.box 4,[.fn (.func g) #[] capL,.fn (.func sf) #[] capS])] (Am z21)
theorem HJ (b:Jm Tryz.prog Am lt g capL) (c:Na Tryz.prog Am sf capS) (hB:∀l l',(Am l).B=(Am l').B/\(Am l).pin=none):∀(n:Nat) (xL:List γ) (xA:Int) (xM:Int) (xB:Int) (r:List γ) (h:CM lt n xL xA xM xB=some r),LE Tryz.prog 189 (Am xL) [.sv (.agg [.fn (.func g) #[] capL,.fn (.func sf) #[] capS]),.sv (I xA),.sv (I xM),.sv (I xB)] (Am r)
 |0,xL,xA,xM,xB,r,h=>by cases h
 |n+1,xL,xA,xM,xB,r,h=>by
  have ih:=HJ b c hB n;rw [CM]at h;refine gka Tryz.func189 Tryz.ntmps189 hB (ws (gn 1 0 (Wp.seq (ws (gn 4 0 (wc h (λh=>?_) (λh=>?_)))))))
  ·refine ws (gw 2 0 (gn 2 0 (sl1 h [1,4,8,9] [.box 4] (λs=>(PR Am g sf capL capS xL xA s.1 s.2)) [1,4,8] [.box 4] (λs=>(PQ Am g sf capL capS xL xA s)) ?_ (λv2 h=>?_))))
   ·rintro⟨e,f⟩ o (h:E0 lt xL xA e f=some o);refine Wp.seq (ws (gn 3 0 (wc h (λh=>?_) (λh=>?_))))
    ·refine Wp.skip (Wp.block (ws (gw 7 0 (Ah 4 0 (AB3 b h (λv1 h=>RW.nil (wc h (λh=>?_) (λh=>?_))))))))
     ·exact Ap (gn 3 0 (jl h))
     exact Ap (gn 2 0 (jl h))
    exact Wp.exit (jv h)
   refine Wp.seq (ws (gn 2 0 (BQ h [4,8,11] [.box 4] (λs=>(PP Am g sf capL capS v2 s.1 s.2)) [] [] (λs=>(PO Am g sf capL capS s)) DM ?_ ?_)))
   ·rintro⟨i,j⟩ o (h:DD lt v2 i j=some o);refine Wp.seq (ws (gn 4 0 (wc h (λh=>?_) (λh=>?_))))
    ·exact Wp.skip (Wp.seq (Wp.block (Ap (Ah 5 0 (AB2 c hB h (λv3 h=>RW.nil (Ap (gn 3 0 (jl h)))))))))
    exact Wp.exit (jv h)
   intro v4 h E hE;exact AW hE (Wp.ret (ra h))
  refine Wp.skip (Wp.seq (ws (gn 4 0 (wc h (λh=>?_) (λh=>?_)))))
  ·refine ws (gw 2 0 (gn 2 0 (sl1 h [2,4,12,13] [.box 4] (λs=>(PN Am g sf capL capS xL xM s.1 s.2)) [2,4,12] [.box 4] (λs=>(PM Am g sf capL capS xL xM s)) ?_ (λv6 h=>?_))))
   ·rintro⟨k,m⟩ o (h:Ez lt xL xM k m=some o);refine Wp.seq (ws (gn 3 0 (wc h (λh=>?_) (λh=>?_))))
    ·refine Wp.skip (Wp.block (ws (gw 7 0 (Ah 4 0 (AB3 b h (λv5 h=>gn 1 0 (wc h (λh=>?_) (λh=>?_))))))))
     ·exact Ap (gn 3 0 (jl h))
     exact Ap (gn 2 0 (jl h))
    exact Wp.exit (jv h)
   refine Wp.seq (ws (gn 2 0 (BQ h [4,12,15] [.box 4] (λs=>(PL Am g sf capL capS v6 s.1 s.2)) [] [] (λs=>(PK Am g sf capL capS s)) DM ?_ ?_)))
   ·rintro⟨p,q⟩ o (h:DC lt v6 p q=some o);refine Wp.seq (ws (gn 3 0 (wc h (λh=>?_) (λh=>?_))))
    ·exact Wp.skip (Wp.seq (Wp.block (Ap (Ah 5 0 (AB2 c hB h (λv7 h=>RW.nil (Ap (gn 3 0 (jl h)))))))))
    exact Wp.exit (jv h)
   intro v8 h E hE;exact AW hE (Wp.ret (ra h))
  refine Wp.skip (ws (gw 7 0 (gw 4 0 (gn 2 0 (Wp.seq (ws (gn 3 0 (IE h [1,2,3,4,16,17,18,19] [.box 4] (λa=>(PJ Am g sf capL capS xL xA xM xB a.1 a.2)) ?_ ?_))))))))
  ·intro a h;refine wc h (λh=>?_) (λh=>?_)
   ·exact ws (gn 4 0 (Ap (gn 2 0 (jn h))))
   exact ws (gn 2 0 (Ap (gn 2 0 (jn h))))
  intro j1 h E hE;refine AW hE (ws (gn 3 0 (sl1 h [1,2,3,4,16,17,18,19,20] [.box 4] (λs=>(OE Am g sf capL capS xL xA xM xB s.1 s.2)) [1,2,3,4,16,17,18] [.box 4] (λs=>(OD Am g sf capL capS xL xA xM xB s)) ?_ (λv10 h=>?_))))
  ·rintro⟨d,t⟩ o (h:Ey lt xL xA xM xB d t=some o);refine Wp.seq (ws (gn 3 0 (wc h (λh=>?_) (λh=>?_))))
   ·refine Wp.skip (Wp.block (ws (gw 7 0 (Ah 6 0 (AB3 b h (λv9 h=>gn 1 0 (wc h (λh=>?_) (λh=>?_))))))))
    ·exact Ap (gn 3 0 (jl h))
    exact Ap (gn 2 0 (jl h))
   exact Wp.exit (jv h)
  refine ws (gn 4 0 (Wp.seq (EA h [1,2,3,4,16,18,22,145] [.box 4] (λa=>(OC Am g sf capL capS xL xA xM xB v10 a)) (λa h=>?_) (λj2 h=>?_))))
  ·refine Ap (Ah 4 0 (AK 141 h (λh=>?_) (λh=>?_)))
   ·exact gn 4 0 (jn h)
   exact gn 4 0 (jn h)
  refine IE h [1,3,4,16,18,22] [.box 4] (λa=>(OB Am g sf capL capS xA xM xB v10 a)) ?_ ?_
  ·intro a h;refine wc h (λh=>?_) (λh=>?_)
   ·exact Ap (Ah 4 0 (Rd h hB (Sq b c hB _ _ _ _) (λv11 h=>RW.nil (jn h))))
   exact Wp.skip (jn h)
  intro j3 h E hE;refine AW hE (Wp.seq (EA h [1,3,4,16,18,22,158] [.box 4] (λa=>(OA Am g sf capL capS xA xM xB v10 j3 a)) (λa h=>?_) (λj4 h=>?_)))
  ·refine Ap (Ah 4 0 (AK 154 h (λh=>?_) (λh=>?_)))
   ·exact gn 4 0 (jn h)
   exact gn 4 0 (jn h)
  refine IE h [3,4,16,22] [.box 4] (λa=>(O9 Am g sf capL capS xA xM xB v10 a)) ?_ ?_
  ·intro a h;refine wc h (λh=>?_) (λh=>?_)
   ·exact Ap (Ah 4 0 (Rd h hB (ih _ _ _ _) (λv12 h=>RW.nil (jn h))))
   exact Wp.skip (jn h)
  intro j5 h E hE;refine AW hE (ws (Ah 4 0 (AK 167 h (λh=>?_) (λh=>?_))))
  ·refine gn 4 0 (wc h (λh=>?_) (λh=>?_))
   ·exact Ap (Ah 4 0 (Rd h hB (ih _ _ _ _) (λv13 h=>RW.nil (ra h))))
   exact Wp.skip (ra h)
  exact gn 4 0 (wf (Wp.skip (ra h)))
def RO (Am:List γ->JG) (g sf:FuncId) (capL capS:Array Value) (xN:Int) (z1:Int) (z2:Int) (z3:List γ):St:=Fl [(1,(I xN)),(2,(.one (.ptr (.box 2) 0 [] 0))),(4,(I 20)),(5,(I z1)),(6,(I z2))] [(.box 2,[.fn (.func g) #[] capL,.fn (.func sf) #[] capS])] (Am z3)
def RN (Am:List γ->JG) (g sf:FuncId) (capL capS:Array Value) (xN:Int) (z4:Int) (z5:List γ):St:=Fl [(1,(I xN)),(2,(.one (.ptr (.box 2) 0 [] 0))),(4,(I 20)),(5,(I z4))] [(.box 2,[.fn (.func g) #[] capL,.fn (.func sf) #[] capS])] (Am z5)
def RM (Am:List γ->JG) (g sf:FuncId) (capL capS:Array Value) (xN:Int) (z6:Int) (z7:List γ):St:=Fl [(1,(I xN)),(2,(.one (.ptr (.box 2) 0 [] 0))),(4,(I z6))] [(.box 2,[.fn (.func g) #[] capL,.fn (.func sf) #[] capS])] (Am z7)
def RL (Am:List γ->JG) (g sf:FuncId) (capL capS:Array Value) (z8:List γ):St:=Fl [] [] (Am z8)
def RK (Am:List γ->JG) (g sf:FuncId) (capL capS:Array Value) (xN:Int) (a:Int) (z9:Int) (z10:Int) (z11:List γ):St:=Fl [(1,(I xN)),(2,(.one (.ptr (.box 2) 0 [] 0))),(4,(I a)),(5,(I z9)),(6,(I z10))] [(.box 2,[.fn (.func g) #[] capL,.fn (.func sf) #[] capS])] (Am z11)
def RJ (Am:List γ->JG) (g sf:FuncId) (capL capS:Array Value) (xN:Int) (a:Int) (z12:Int) (z13:List γ):St:=Fl [(1,(I xN)),(2,(.one (.ptr (.box 2) 0 [] 0))),(4,(I a)),(5,(I z12))] [(.box 2,[.fn (.func g) #[] capL,.fn (.func sf) #[] capS])] (Am z13)
theorem M1 (b:Jm Tryz.prog Am lt g capL) (c:Na Tryz.prog Am sf capS) (hB:∀l l',(Am l).B=(Am l').B/\(Am l).pin=none) (xL:List γ) (xN:Int) (r:List γ) (h:Dz lt xL xN=some r):LE Tryz.prog 154 (Am xL) [.sv (.agg [.fn (.func g) #[] capL,.fn (.func sf) #[] capS]),.sv (I xN)] (Am r):=by
 unfold Dz at h;refine gka Tryz.func154 Tryz.ntmps154 hB (ws (gw 1 0 (gw 1 0 (gn 3 0 (sl1 h [1,2,4,5,6] [.box 2] (λs=>(RO Am g sf capL capS xN s.1 s.2.1 s.2.2)) [1,2,4,5] [.box 2] (λs=>(RN Am g sf capL capS xN s.1 s.2)) ?_ (λv2 h=>?_))))))
 ·rintro⟨e,f,i⟩ o (h:Di lt xN e f i=some o);refine Wp.seq (ws (gn 3 0 (wc h (λh=>?_) (λh=>?_))))
  ·exact Wp.skip (Wp.block (ws (Ah 3 0 (Rd h hB (FP b c hB _ _ _) (λv1 h=>RW.nil (ws (gn 2 0 (Ap (gn 4 0 (jl h))))))))))
  exact Wp.exit (jv h)
 refine ws (Ah 3 0 (Rd h hB (FP b c hB _ _ _) (λv3 h=>RW.nil (BQ h [1,2,4] [.box 2] (λs=>(RM Am g sf capL capS xN s.1 s.2)) [] [] (λs=>(RL Am g sf capL capS s)) DM ?_ ?_))))
 ·rintro⟨a,j⟩ o (h:D6 lt xN a j=some o);refine Wp.seq (ws (gn 3 0 (wc h (λh=>?_) (λh=>?_))))
  ·refine Wp.skip (Wp.block (ws (gn 4 0 (sl1 h [1,2,4,5,6] [.box 2] (λs=>(RK Am g sf capL capS xN a s.1 s.2.1 s.2.2)) [1,2,4,5] [.box 2] (λs=>(RJ Am g sf capL capS xN a s.1 s.2)) ?_ (λv5 h=>?_)))))
   ·rintro⟨k,m,d⟩ o (h:D5 lt xN a k m d=some o);refine Wp.seq (ws (gn 3 0 (wc h (λh=>?_) (λh=>?_))))
    ·exact Wp.skip (Wp.block (ws (Ah 6 0 (Rd h hB (HJ b c hB (List.length d+1) _ _ _ _) (λv4 h=>RW.nil (ws (gn 2 0 (Ap (gn 5 0 (jl h))))))))))
    exact Wp.exit (jv h)
   refine Wp.seq (ws (gw 4 0 (gn 3 0 (wc h (λh=>?_) (λh=>?_)))))
   ·exact Ap (Ah 4 0 (Rd h hB (HJ b c hB (List.length v5.2+1) _ _ _ _) (λv6 h=>RW.nil (Ap (gn 3 0 (jl h))))))
   exact Wp.skip (Ap (gn 3 0 (jl h)))
  exact Wp.exit (jv h)
 intro v7 h E hE;exact nta h hE
def uG (z1:Int) (z2:Int):St:=A7 [(0,(.one (.int .u64 z1))),(2,(I z2))] []
def uF (z3:Int) (z4:Int):St:=A7 [(0,(.one (.int .u64 z3))),(2,(I z4))] []
def uE (z5:Int) (z6:Int):St:=A7 [(0,(.one (.int .u64 z5))),(2,(I z6))] []
theorem AAj (xX:Int) (r:Int) (h:Zq xX=some r):AM Tryz.prog 117 [.sv (.one (.int .u64 xX))] (I r) (rg 1):=by
 refine gk Tryz.func117 rfl Tryz.ntmps117 (ws (gn 1 0 (Wp.seq (ws (gn 2 0 (IE h [0,2] [] (λa=>(uG a.1 a.2)) ?_ ?_))))))
 ·intro a h;refine wc h (λh=>?_) (λh=>?_)
  ·exact ws (gn 3 0 (Ap (gn 1 0 (jn h))))
  exact Wp.skip (jn h)
 intro j1 h E hE;refine AW hE (Wp.seq (ws (gn 2 0 (IE h [0,2] [] (λa=>(uF a.1 a.2)) ?_ ?_))))
 ·intro a h;refine wc h (λh=>?_) (λh=>?_)
  ·exact ws (gn 3 0 (Ap (gn 3 0 (jn h))))
  exact Wp.skip (jn h)
 intro j2 h E hE;refine AW hE (Wp.seq (ws (gn 2 0 (IE h [0,2] [] (λa=>(uE a.1 a.2)) ?_ ?_))))
 ·intro a h;refine wc h (λh=>?_) (λh=>?_)
  ·exact ws (gn 3 0 (Ap (gn 3 0 (jn h))))
  exact Wp.skip (jn h)
 intro j3 h E hE;exact AW hE (ws (Ah 3 0 (bd h λx1 gx1 h=>RW.q (xK gx1) (gn 3 0 (Wp.ret (rr h▸rq))))))
theorem AEb (xX:Int) (r:Int) (h:Vn xX=some r):AM Tryz.prog 68 [.sv (.one (.int .u64 xX))] (I r) (rg 1):=by
 exact gk Tryz.func68 rfl Tryz.ntmps68 (ws (gn 1 0 (Wp.seq (wf (Wp.skip (ws (Ah 1 0 (RW.c 0 h (AAj _) (λv1 gv1 h=>gn 1 0 (Wp.ret (rr h▸rq)))))))))))
def Qm (Am:List γ->JG) (g sf:FuncId) (capL capS:Array Value) (xL:List γ) (xA:Int) (xB:Int):St:=Fl [(1,(I xA)),(2,(I xB)),(4,(.one (.ptr (.box 4) 0 [] 0)))] [(.box 4,[.fn (.func g) #[] capL,.fn (.func sf) #[] capS])] (Am xL)
def Ql (Am:List γ->JG) (g sf:FuncId) (capL capS:Array Value) (xL:List γ):St:=Fl [] [] (Am xL)
theorem LF (b:Jm Tryz.prog Am lt g capL) (c:Na Tryz.prog Am sf capS) (hB:∀l l',(Am l).B=(Am l').B/\(Am l).pin=none) (xL:List γ) (xA:Int) (xB:Int) (a:Int) (r:List γ) (h:EN lt xL xA xB a=some r):LE Tryz.prog 69 (Am xL) [.sv (.agg [.fn (.func g) #[] capL,.fn (.func sf) #[] capS]),.sv (I xA),.sv (I xB),.sv (I a)] (Am r):=by
 unfold EN at h;refine gka Tryz.func69 Tryz.ntmps69 hB (ws (gw 1 0 (gw 1 0 (gn 1 0 (DA h [1,2,4] [.box 4] (λ_=>(Qm Am g sf capL capS xL xA xB)) [] [] (λ_=>(Ql Am g sf capL capS xL)) DM ?_ ?_)))))
 ·rintro⟨⟩ o (h:Gf lt xL xA xB=some o) hk1;refine Wp.block (ws (gn 4 0 (Wp.seq (ws (gn 2 0 (wc h (λh=>?_) (λh=>?_)))))))
  ·exact ws (Ah 3 0 (Rd h hB (FP b c hB _ _ _) (λv1 h=>RW.nil (Wp.ret (ra (jo h hk1))))))
  cases h
 intro v2 h E hE;exact nta h hE
open Go.Lib Go.RowKit
theorem M7 (t e : TypeId) (i ie : TypeInfo) (hi : Tryz.prog.info? t = some i) (hd : i.desc = .slice e) (g : Tryz.prog.packed t = false) (h : Tryz.prog.info? e = some ie) (ke : Nat) (j : ∀ w, (Extern.Rtype.kind e).run Tryz.prog w = .ok ke w) (p : Option Addr) (n c : Nat) (f : Nat) (hf : Tryz.prog.funcs.findIdx? (·.name == "internal/reflectlite" ++ ".Swapper$" ++ toString (swapperK n ie ke)) = some f) (lf : Fn) (la lb : Array Value) (A A' : JG) (sb : Array Value) (d : sb = if swapperK n ie ke ≤ 2 then #[] else #[.slice p n c, typeHandle Tryz.prog e]) (hp : LE Tryz.prog 154 A [.sv (.agg [.fn lf la lb, .fn (.func f) #[] sb]), .sv (.one (.int .i64 n))] A') (w : Go.World) (hA : A.I w) (hB : ∀ b ∈ A.B, b < w.heap.size) :
  Calls Tryz.prog 84 #[.iface t (.slice p n c),.func lf la lb] w λe w'=>e= .returned (.tuple #[])/\HD w w' A.B/\A'.I w':=by
 have hv:=run_valueOf_slice (P:=Tryz.prog) t e i hi hd p n c w
 have hs:=λw=>run_swapper_slice (P:=Tryz.prog) t e i ie hi hd h ke j p n c f hf w
 have hl:=λa w ha=>run_valueLen_slice (P:=Tryz.prog) t e i hi hd g a p n c w ha
 rw [<-d]at hs
 have hc:∀x y,Calls Tryz.prog 154 #[.agg #[.func lf la lb,.func (.func f) #[] sb],.int .i64 n] ((w.alloc x).alloc y) λe w'=>e= .returned (.tuple #[])/\HD w w' A.B/\A'.I w':=by
  intro x y
  have k1:∀b,b<w.heap.size->((w.alloc x).alloc y).heap[b]?=w.heap[b]? :=λb hb=>by
   rw [Below.heap_alloc _ _ _ (by simp;omega),Below.heap_alloc _ _ _ hb]
  have:=hp ((w.alloc x).alloc y) [.agg #[.func lf la lb,.func (.func f) #[] sb],.int .i64 n] ⟨_,_,[],[],[],[],rfl,rfl,rfl,⟨[.func lf la lb,.func (.func f) #[] sb],rfl,⟨_,_,[],[],[],[],rfl,rfl,rfl,⟨rfl,rfl,rfl⟩,_,_,[],[],[],[],rfl,rfl,rfl,⟨rfl,rfl,rfl⟩,rfl,rfl,rfl⟩⟩,⟨_,_,[],[],[],[],rfl,rfl,rfl,⟨by simp [CG],rfl⟩,⟨rfl,rfl,rfl⟩⟩⟩
   (λb hb=>by have:=hB b hb;simp;omega) (A.st _ _ hA (λb hb=>k1 b (hB b hb)))
  refine this.mono ?_;rintro e w' ⟨rfl,hb,hI⟩;refine⟨rfl,⟨hb.os,hb.tape,hb.output,?_,?_⟩,hI⟩
  ·have:=hb.size;simp at this;omega
  intro b h1 h2;rw [hb.keep b (by simp;omega) h2,k1 b h1]
 clear hp d hA hB hf;simp only [typeHandle,show Tryz.prog.globals.size=0 from rfl]at hv hl
 go_enter Tryz.func84,Tryz.ntmps84
 go_wp2
 rw [run_callFunc_extern Tryz.func65 (by kernel_rfl) (by kernel_rfl) (by kernel_rfl) (e:=λargs=>Extern.ReflectliteValue.unpack (args.getD 0 (.tuple #[]))) (by kernel_rfl),
  show Sem.run Tryz.prog ((λargs:Array Value=>Extern.ReflectliteValue.unpack (args.getD 0 (.tuple #[]))) #[.iface t (.slice p n c)]) w=_ from hv]
 simp only [Result.andThen];rw [Oper.upon_value]
 go_wp2
 rw [run_callFunc_extern Tryz.func66 (by kernel_rfl) (by kernel_rfl) (by kernel_rfl) (e := Extern.ReflectliteSwapper.swapper "internal/reflectlite" (Extern.ReflectliteValue.valueError "Swapper")) (by kernel_rfl), hs];simp only [Result.andThen];rw [Oper.upon_value]
 go_wp2
 rw [run_callFunc_extern Tryz.func67 (by kernel_rfl) (by kernel_rfl) (by kernel_rfl) (e := Extern.ReflectliteValue.method (Extern.ReflectliteValue.valueError "reflectlite.Value.Len" 0) Extern.ReflectliteValue.len) (by kernel_rfl),
  hl _ _ (by simp)]
 simp only [Result.andThen];rw [Oper.upon_value]
 go_wp2_with (go_at_call 154;refine(hc _ _).mono ?_;rintro e w' ⟨rfl,hR⟩)
 go_end0
 exact⟨rfl,hR⟩
theorem Tm (lt:γ->γ->Bool) (l:List γ) (n:Nat) (hn:n<=1):Dz lt l (n:Int)=some l:=by
 unfold Dz;rw [A8];simp only [Di];rw [Af (by omega:¬(20:Int)<=(n:Int)),Ac];simp only [Aa,BT];rw [A8];simp only [Bv];rw [Af (by rw [show ad 0 1=1 from rfl];omega:¬(ad 0 1)<(n:Int)),Ac];simp only [Aa];rw [A8];simp only [D6];rw [Af (by omega:¬(20:Int)<(n:Int)),Ac];rfl
theorem hZ {cap:Array Value} (hg:∀(args:Array Value) (w:Go.World),(callFunc g args).run P w= .ok (.enter g args) w):Jm (γ:=Empty) P (λ_=>A) (λ_ _=>false) g cap:=⟨hg,λ_ _ _ x=>nomatch x⟩
theorem fW {cap:Array Value}:Na (γ:=Empty) P (λ_=>A) g cap:=λ_ _ _ x=>nomatch x
theorem RR {enc : γ → List TV} {t e sz a : Nat} (d : ∀ x, (enc x).length = sz) (h : Dz lt l (ln l) = some r) (i ie : TypeInfo) (hi : Tryz.prog.info? t = some i) (hd : i.desc = .slice e) (s : Tryz.prog.packed t = false) (j : Tryz.prog.info? e = some ie) (ke : Nat) (u : ∀ w, (Extern.Rtype.kind e).run Tryz.prog w = .ok ke w) (a2 : ie.size = sz) (y : ∀ w, (isAgg e).run Tryz.prog w = .ok true w) (hg : ∀ (args : Array Value) (w : Go.World), (callFunc a args).run Tryz.prog w = .ok (.enter a args) w) (a3 : ∀ n, ∃ f, Tryz.prog.funcs.findIdx? (·.name == "internal/reflectlite" ++ ".Swapper$" ++ toString (swapperK n ie ke)) = some f ∧ (2 ≤ n → 2 < swapperK n ie ke ∧ ∃ gS : Bool, ∀ args W, (callFunc f args).run Tryz.prog W = ((Extern.ReflectliteSwapper.swap gS args).run Tryz.prog W).andThen fun v w' => .ok (.value v) w')) (m : ∀ (n b g cap : Nat) (T : TypeId), b ≠ g → Jm Tryz.prog (K8 n b g cap e T sz enc) lt a #[.pointer (some ⟨b, 0, none⟩)]) : RF Tryz.prog 84 t e sz enc a l r := by
 intro w b v T hb z a4;have h7:b<w.heap.size:=by
  rcases Dc b w.heap.size with q|q
  ·exact q
  rw [IZ q]at hb;cases hb
 obtain⟨f,hf,h8⟩:=a3 l.length
 have small:∀p n c,l.length<=1->v= .slice p n c->n=l.length->(∀b∈C7 v,b<w.heap.size)->Calls Tryz.prog 84 #[.iface t v,.func (.func a) #[] #[.pointer (some ⟨b,0,none⟩)]] w λr' w'=>r'= .returned (.tuple #[])/\HD w w' (b::C7 v)/\w'.heap[b]?=some (.cells #[v] T (0,0))/\w'.ownsRow 0 e sz v r.length ((AU enc r).map TV.val):=by
  rintro p n c h1 rfl rfl a5;have hr:r=l:=by
   have:=Tm lt l l.length h1;have e1:ln l=(l.length:Int):=rfl;rw [e1,this]at h
   injection h with h
   exact h.symm
  subst hr;have hA:=M1 (hZ (A:=ABH b (.slice p r.length c) T e sz r.length ((AU enc r).map TV.val)) (cap:= #[.pointer (some ⟨b,0,none⟩)]) hg) (fW (g:=f) (cap:=if swapperK r.length ie ke<=2 then #[]else #[.slice p r.length c,typeHandle Tryz.prog e])) (λ_ _=>⟨rfl,rfl⟩) [] (r.length:Int) [] (Tm _ _ _ h1)
  exact M7 t e i ie hi hd s j ke u p r.length c f hf _ _ _ _ _ _ rfl hA w ⟨hb,z⟩ (λk hk=>by
   rcases BE.1 hk with rfl|hk
   ·exact h7
   exact a5 k hk)
 rcases z.2 with⟨rfl,h0⟩|⟨g,cap,a6,rfl,h1,h2,h3,h4,h5,h6⟩
 ·exact small none 0 0 (by omega) rfl h0.symm (by simp [C7,Value.ownBlock])
 have h9:g<w.heap.size:=by
  rcases Dc g w.heap.size with q|q
  ·exact q
  rw [IZ q]at h2;cases h2
 by_cases hn:l.length<=1
 ·exact small (some ⟨g,0,none⟩) l.length cap hn rfl rfl (by simpa [C7,Value.ownBlock]using h9)
 obtain⟨a9,gS,hx⟩:=h8 (by omega);have a0:b≠g:=by simpa [C7,Value.ownBlock]using a4
 have hA:=M1 (m l.length b g cap T a0) (XR d l.length gS hx j a2 y (b:=b) (g:=g) (cap:=cap) (T:=T)) (λ_ _=>⟨rfl,rfl⟩) l (l.length:Int) r h;have a1:iY l.length b g cap e T sz enc w l:=⟨a0,rfl,hb,⟨a6,h2,h5,h6⟩,h3,h4⟩;refine Calls.mono (M7 t e i ie hi hd s j ke u (some ⟨g,0,none⟩) l.length cap f hf _ _ _ _ _ _ (by rw [A5 (by omega)]) hA w a1 (λk hk=>?_)) ?_
 ·have:k=b\/k=g:=by simpa [K8]using hk
  rcases this with rfl|rfl
  ·exact h7
  exact h9
 rintro r' w' ⟨rfl,a7,hI⟩;obtain⟨_,o,a8,⟨cur',c1,c2,c3⟩,c4,c5⟩:=(show iY l.length b g cap e T sz enc w' r from hI);refine⟨rfl,a7,by rw [<-o];exact a8,by rw [Bo];exact Gm d r,.inr ⟨g,cap,cur',by rw [<-o],h1,c1,by rw [o];exact h3,h4,c2,c3⟩⟩
theorem AAP {n:Int} (h:Vn n=some v) (w:Go.World):Calls Tryz.prog 68 #[.int .u64 n] w λe w'=>e= .returned (.int .i64 v)/\w'.os=w.os/\w'.tape=w.tape/\w'.output=w.output/\w.heap.size<=w'.heap.size/\∀b,b<w.heap.size->w'.heap[b]?=w.heap[b]? :=by
 have:=AEb n v h w [.int .u64 n] [] [] ⟨_,_,[],[],[],[],rfl,rfl,rfl,⟨by simp [CG],rfl⟩,rfl,rfl,rfl⟩ CJ (by simp) (by simp);refine this.mono ?_;rintro e w' ⟨x,F,U,G,V,rfl,hl⟩;refine⟨?_,hl.os,hl.tape,hl.output,hl.size,λb hb=>hl.keep b hb (by simp)⟩;have:=hl.res;simp only [W1,CG]at this;rw [this.1.1]
theorem Tp (t e : TypeId) (i ie : TypeInfo) (hi : Tryz.prog.info? t = some i) (hd : i.desc = .slice e) (j : Tryz.prog.packed t = false) (k : Tryz.prog.info? e = some ie) (ke : Nat) (l : ∀ w, (Extern.Rtype.kind e).run Tryz.prog w = .ok ke w) (p : Option Addr) (n c : Nat) (f : Nat) (hf : Tryz.prog.funcs.findIdx? (·.name == "internal/reflectlite" ++ ".Swapper$" ++ toString (swapperK n ie ke)) = some f) (lf : Fn) (la lb : Array Value) (A A' : JG) (sb : Array Value) (d : sb = if swapperK n ie ke ≤ 2 then #[] else #[.slice p n c, typeHandle Tryz.prog e]) (hv : Vn (IntKind.u64.wrap (n : Int)) = some v) (hp : LE Tryz.prog 69 A [.sv (.agg [.fn lf la lb, .fn (.func f) #[] sb]), .sv (.one (.int .i64 0)), .sv (.one (.int .i64 n)), .sv (.one (.int .i64 v))] A') (w : Go.World) (hA : A.I w) (hB : ∀ b ∈ A.B, b < w.heap.size) :
  Calls Tryz.prog 29 #[.iface t (.slice p n c),.func lf la lb] w λe w'=>e= .returned (.tuple #[])/\HD w w' A.B/\A'.I w':=by
 have g:=run_valueOf_slice (P:=Tryz.prog) t e i hi hd p n c w
 have hs:=λw=>run_swapper_slice (P:=Tryz.prog) t e i ie hi hd k ke l p n c f hf w
 have hl:=λa w ha=>run_valueLen_slice (P:=Tryz.prog) t e i hi hd j a p n c w ha
 rw [<-d]at hs
 have hc:∀W:Go.World,W.os=w.os->W.tape=w.tape->W.output=w.output->w.heap.size<=W.heap.size->(∀b,b<w.heap.size->W.heap[b]?=w.heap[b]?)->Calls Tryz.prog 69 #[.agg #[.func lf la lb,.func (.func f) #[] sb],.int .i64 0,.int .i64 n,.int .i64 v] W λe w'=>e= .returned (.tuple #[])/\HD w w' A.B/\A'.I w':=by
  intro W h1 h2 h3 h4 h5;have:=hp W [.agg #[.func lf la lb,.func (.func f) #[] sb],.int .i64 0,.int .i64 n,.int .i64 v] ⟨_,_,[],[],[],[],rfl,rfl,rfl,⟨[.func lf la lb,.func (.func f) #[] sb],rfl,⟨_,_,[],[],[],[],rfl,rfl,rfl,⟨rfl,rfl,rfl⟩,_,_,[],[],[],[],rfl,rfl,rfl,⟨rfl,rfl,rfl⟩,rfl,rfl,rfl⟩⟩,⟨_,_,[],[],[],[],rfl,rfl,rfl,⟨by simp [CG],rfl⟩,⟨_,_,[],[],[],[],rfl,rfl,rfl,⟨by simp [CG],rfl⟩,⟨_,_,[],[],[],[],rfl,rfl,rfl,⟨by simp [CG],rfl⟩,⟨rfl,rfl,rfl⟩⟩⟩⟩⟩
   (λb hb=>by have:=hB b hb;omega) (A.st _ _ hA (λb hb=>h5 b (hB b hb)))
  refine this.mono ?_;rintro e w' ⟨rfl,hb,hI⟩;refine⟨rfl,⟨hb.os.trans h1,hb.tape.trans h2,hb.output.trans h3,G0 h4 hb.size,?_⟩,hI⟩;intro b k1 k2;rw [hb.keep b (by omega) k2,h5 b k1]
 have h:=AAP hv
 have k1:∀x y,∀b,b<w.heap.size->((w.alloc x).alloc y).heap[b]?=w.heap[b]? :=λx y b hb=>by
  rw [Below.heap_alloc _ _ _ (by simp;omega),Below.heap_alloc _ _ _ hb]
 clear hp d hA hB hf hv;simp only [typeHandle,show Tryz.prog.globals.size=0 from rfl]at g hl
 go_enter Tryz.func29,Tryz.ntmps29
 go_wp2
 rw [run_callFunc_extern Tryz.func65 (by kernel_rfl) (by kernel_rfl) (by kernel_rfl) (e:=λargs=>Extern.ReflectliteValue.unpack (args.getD 0 (.tuple #[]))) (by kernel_rfl),
  show Sem.run Tryz.prog ((λargs:Array Value=>Extern.ReflectliteValue.unpack (args.getD 0 (.tuple #[]))) #[.iface t (.slice p n c)]) w=_ from g]
 simp only [Result.andThen];rw [Oper.upon_value]
 go_wp2
 rw [run_callFunc_extern Tryz.func66 (by kernel_rfl) (by kernel_rfl) (by kernel_rfl) (e := Extern.ReflectliteSwapper.swapper "internal/reflectlite" (Extern.ReflectliteValue.valueError "Swapper")) (by kernel_rfl), hs];simp only [Result.andThen];rw [Oper.upon_value]
 go_wp2
 rw [run_callFunc_extern Tryz.func67 (by kernel_rfl) (by kernel_rfl) (by kernel_rfl) (e := Extern.ReflectliteValue.method (Extern.ReflectliteValue.valueError "reflectlite.Value.Len" 0) Extern.ReflectliteValue.len) (by kernel_rfl),
  hl _ _ (by simp)]
 simp only [Result.andThen];rw [Oper.upon_value]
 go_wp2_with (go_at_call 68;refine(h _).mono ?_;rintro e w1 ⟨rfl,g1,g2,g3,g4,g5⟩)
 go_wp2_with (go_at_call 69;refine(hc w1 g1 g2 g3 (G0 (by simp;omega) g4) (λb hb=>(g5 b (by simp;omega)).trans (k1 _ _ b hb))).mono ?_;rintro e w2 ⟨rfl,hR⟩)
 go_end0
 exact⟨rfl,hR⟩
theorem gU (lt:γ->γ->Bool) (l:List γ) (n:Nat) (v:Int) (hn:n<=1):EN lt l 0 (n:Int) v=some l:=by
 have e1:sb (n:Int) 0=n:=by rw [show sb (n:Int) 0=IntKind.i64.wrap ((n:Int)-0)from rfl];rcases Nat.le_one_iff_eq_zero_or_eq_one.1 hn with rfl|rfl<;>rfl
 unfold EN;rw [A8];simp only [Gf,e1];rw [Ad (by omega:(n:Int)<=12),Ae];simp only [BT];rw [A8];simp only [Bv];rw [Af (by rw [show ad 0 1=1 from rfl];omega:¬(ad 0 1)<(n:Int)),Ac];rfl
theorem jL (h:Qn lt l=some r) (hn:l.length<=1):r=l:=by
 unfold Qn at h;obtain⟨v,_,h⟩:=Au.1 h;rw [show ln l=(l.length:Int)from rfl,gU lt l l.length v hn]at h
 injection h with h
 exact h.symm
theorem aZ {enc : γ → List TV} {t e sz a : Nat} (d : ∀ x, (enc x).length = sz) (h : Qn lt l = some r) (i ie : TypeInfo) (hi : Tryz.prog.info? t = some i) (hd : i.desc = .slice e) (u : Tryz.prog.packed t = false) (j : Tryz.prog.info? e = some ie) (ke : Nat) (y : ∀ w, (Extern.Rtype.kind e).run Tryz.prog w = .ok ke w) (a3 : ie.size = sz) (z : ∀ w, (isAgg e).run Tryz.prog w = .ok true w) (hg : ∀ (args : Array Value) (w : Go.World), (callFunc a args).run Tryz.prog w = .ok (.enter a args) w) (a4 : ∀ n, ∃ f, Tryz.prog.funcs.findIdx? (·.name == "internal/reflectlite" ++ ".Swapper$" ++ toString (swapperK n ie ke)) = some f ∧ (2 ≤ n → 2 < swapperK n ie ke ∧ ∃ gS : Bool, ∀ args W, (callFunc f args).run Tryz.prog W = ((Extern.ReflectliteSwapper.swap gS args).run Tryz.prog W).andThen fun v w' => .ok (.value v) w')) (o : ∀ (n b g cap : Nat) (T : TypeId), b ≠ g → Jm Tryz.prog (K8 n b g cap e T sz enc) lt a #[.pointer (some ⟨b, 0, none⟩)]) : RF Tryz.prog 29 t e sz enc a l r := by
 intro w b v T hb h7 a5;have h8:b<w.heap.size:=by
  rcases Dc b w.heap.size with q|q
  ·exact q
  rw [IZ q]at hb;cases hb
 obtain⟨f,hf,h9⟩:=a4 l.length;have h0:=h;unfold Qn at h;obtain⟨m,hm,h⟩:=Au.1 h;rw [show ln l=(l.length:Int)from rfl]at hm h
 have small:∀p n c,l.length<=1->v= .slice p n c->n=l.length->(∀b∈C7 v,b<w.heap.size)->Calls Tryz.prog 29 #[.iface t v,.func (.func a) #[] #[.pointer (some ⟨b,0,none⟩)]] w λr' w'=>r'= .returned (.tuple #[])/\HD w w' (b::C7 v)/\w'.heap[b]?=some (.cells #[v] T (0,0))/\w'.ownsRow 0 e sz v r.length ((AU enc r).map TV.val):=by
  rintro p n c h1 rfl rfl a6;have hr:r=l:=jL h0 h1;subst hr;have hA:=LF (hZ (A:=ABH b (.slice p r.length c) T e sz r.length ((AU enc r).map TV.val)) (cap:= #[.pointer (some ⟨b,0,none⟩)]) hg) (fW (g:=f) (cap:=if swapperK r.length ie ke<=2 then #[]else #[.slice p r.length c,typeHandle Tryz.prog e])) (λ_ _=>⟨rfl,rfl⟩) [] 0 (r.length:Int) m [] (gU _ _ _ _ h1)
  exact Tp t e i ie hi hd u j ke y p r.length c f hf _ _ _ _ _ _ rfl hm hA w ⟨hb,h7⟩ (λk hk=>by
   rcases BE.1 hk with rfl|hk
   ·exact h8
   exact a6 k hk)
 rcases h7.2 with⟨rfl,h0⟩|⟨g,cap,a7,rfl,h1,h2,h3,h4,h5,h6⟩
 ·exact small none 0 0 (by omega) rfl h0.symm (by simp [C7,Value.ownBlock])
 have a0:g<w.heap.size:=by
  rcases Dc g w.heap.size with q|q
  ·exact q
  rw [IZ q]at h2;cases h2
 by_cases hn:l.length<=1
 ·exact small (some ⟨g,0,none⟩) l.length cap hn rfl rfl (by simpa [C7,Value.ownBlock]using a0)
 obtain⟨b0,gS,hx⟩:=h9 (by omega);have a1:b≠g:=by simpa [C7,Value.ownBlock]using a5
 have hA:=LF (o l.length b g cap T a1) (XR d l.length gS hx j a3 z (b:=b) (g:=g) (cap:=cap) (T:=T)) (λ_ _=>⟨rfl,rfl⟩) l 0 (l.length:Int) m r h;have a2:iY l.length b g cap e T sz enc w l:=⟨a1,rfl,hb,⟨a7,h2,h5,h6⟩,h3,h4⟩;refine Calls.mono (Tp t e i ie hi hd u j ke y (some ⟨g,0,none⟩) l.length cap f hf _ _ _ _ _ _ (by rw [A5 (by omega)]) hm hA w a2 (λk hk=>?_)) ?_
 ·have:k=b\/k=g:=by simpa [K8]using hk
  rcases this with rfl|rfl
  ·exact h8
  exact a0
 rintro r' w' ⟨rfl,a8,hI⟩;obtain⟨_,s,a9,⟨cur',c1,c2,c3⟩,c4,c5⟩:=(show iY l.length b g cap e T sz enc w' r from hI);refine⟨rfl,a8,by rw [<-s];exact a9,by rw [Bo];exact Gm d r,.inr ⟨g,cap,cur',by rw [<-s],h1,c1,by rw [s];exact h3,h4,c2,c3⟩⟩
end Go.TI
