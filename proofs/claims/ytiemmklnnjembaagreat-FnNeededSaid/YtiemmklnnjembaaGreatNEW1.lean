/- That they compute it. No condition. -/
import Derived.Test.YtiemmklnnjembaaGreatNEW0
namespace Go.TI
open Go Go.Proofs
set_option maxRecDepth 100000
def gI (xS:Store) (xR:Dk) (z1:Int):St:=AG [(2,(.one (.ptr (.box 2) 0 [] 0))),(3,(.one (.ptr (.box 3) 0 [] 0))),(4,(.one (.ptr (.box 4) 0 [] 0))),(6,(I z1))] [(.box 2,[.sl false 39 2 (Ah CD xS.Vols),.sl false 150 2 (Ah (AN false) xS.Arena.Knots),.int .i64 xS.Next]),(.box 3,[.int .i64 xR.Kind,.int .i64 xR.Vol,.int .i64 xR.Arg,.int .i64 xR.Chunk]),(.box 4,[.sl true 39 2 (Ah CD []),.sl true 150 2 (Ah (AN true) []),.int .i64 0])]
def gH (xS:Store) (xR:Dk) (j1:Int) (z2:Bool):St:=AG [(2,(.one (.ptr (.box 2) 0 [] 0))),(3,(.one (.ptr (.box 3) 0 [] 0))),(4,(.one (.ptr (.box 4) 0 [] 0))),(6,(I j1)),(39,(B z2))] [(.box 2,[.sl false 39 2 (Ah CD xS.Vols),.sl false 150 2 (Ah (AN false) xS.Arena.Knots),.int .i64 xS.Next]),(.box 3,[.int .i64 xR.Kind,.int .i64 xR.Vol,.int .i64 xR.Arg,.int .i64 xR.Chunk]),(.box 4,[.sl true 39 2 (Ah CD []),.sl true 150 2 (Ah (AN true) []),.int .i64 0])]
def gG (xS:Store) (xR:Dk) (j1:Int) (v5:Store) (z3:List Vol) (z4:Int):St:=AG [(2,(.one (.ptr (.box 2) 0 [] 0))),(3,(.one (.ptr (.box 3) 0 [] 0))),(4,(.one (.ptr (.box 4) 0 [] 0))),(6,(I j1)),(8,(.one (.ptr (.box 8) 0 [] 0))),(9,(.one (.sl true 39 2 (Ah CD z3)))),(10,(I z4))] [(.box 2,[.sl false 39 2 (Ah CD xS.Vols),.sl false 150 2 (Ah (AN false) xS.Arena.Knots),.int .i64 xS.Next]),(.box 3,[.int .i64 xR.Kind,.int .i64 xR.Vol,.int .i64 xR.Arg,.int .i64 xR.Chunk]),(.box 4,[.sl true 39 2 (Ah CD []),.sl true 150 2 (Ah (AN true) []),.int .i64 0]),(.box 8,[.sl true 39 2 (Ah CD v5.Vols),.sl true 150 2 (Ah (AN true) v5.Arena.Knots),.int .i64 v5.Next])]
def gF (xS:Store) (xR:Dk) (j1:Int) (v5:Store) (z5:List Vol):St:=AG [(2,(.one (.ptr (.box 2) 0 [] 0))),(3,(.one (.ptr (.box 3) 0 [] 0))),(4,(.one (.ptr (.box 4) 0 [] 0))),(6,(I j1)),(8,(.one (.ptr (.box 8) 0 [] 0))),(9,(.one (.sl true 39 2 (Ah CD z5))))] [(.box 2,[.sl false 39 2 (Ah CD xS.Vols),.sl false 150 2 (Ah (AN false) xS.Arena.Knots),.int .i64 xS.Next]),(.box 3,[.int .i64 xR.Kind,.int .i64 xR.Vol,.int .i64 xR.Arg,.int .i64 xR.Chunk]),(.box 4,[.sl true 39 2 (Ah CD []),.sl true 150 2 (Ah (AN true) []),.int .i64 0]),(.box 8,[.sl true 39 2 (Ah CD v5.Vols),.sl true 150 2 (Ah (AN true) v5.Arena.Knots),.int .i64 v5.Next])]
def gE (xS:Store) (xR:Dk) (v5:Store) (z6:List Vol) (z7:Int):St:=AG [(2,(.one (.ptr (.box 2) 0 [] 0))),(3,(.one (.ptr (.box 3) 0 [] 0))),(4,(.one (.ptr (.box 4) 0 [] 0))),(8,(.one (.ptr (.box 8) 0 [] 0))),(9,(.one (.sl true 39 2 (Ah CD z6)))),(11,(I z7))] [(.box 2,[.sl false 39 2 (Ah CD xS.Vols),.sl false 150 2 (Ah (AN false) xS.Arena.Knots),.int .i64 xS.Next]),(.box 3,[.int .i64 xR.Kind,.int .i64 xR.Vol,.int .i64 xR.Arg,.int .i64 xR.Chunk]),(.box 4,[.sl true 39 2 (Ah CD []),.sl true 150 2 (Ah (AN true) []),.int .i64 0]),(.box 8,[.sl true 39 2 (Ah CD v5.Vols),.sl true 150 2 (Ah (AN true) v5.Arena.Knots),.int .i64 v5.Next])]
def gD (v5:Store) (z8:List Vol):St:=AG [(4,(.one (.ptr (.box 4) 0 [] 0))),(8,(.one (.ptr (.box 8) 0 [] 0))),(9,(.one (.sl true 39 2 (Ah CD z8))))] [(.box 4,[.sl true 39 2 (Ah CD []),.sl true 150 2 (Ah (AN true) []),.int .i64 0]),(.box 8,[.sl true 39 2 (Ah CD v5.Vols),.sl true 150 2 (Ah (AN true) v5.Arena.Knots),.int .i64 v5.Next])]
theorem mG (xS:Store) (xR:Dk) (r:Store×Bool) (h:KA xS xR=some r):Be Tryz.prog 90 [.sv (.agg [.sl false 39 2 (Ah CD xS.Vols),.sl false 150 2 (Ah (AN false) xS.Arena.Knots),.int .i64 xS.Next]),.sv (.agg [.int .i64 xR.Kind,.int .i64 xR.Vol,.int .i64 xR.Arg,.int .i64 xR.Chunk])] (.tup [(.agg [.sl true 39 2 (Ah CD r.1.Vols),.sl true 150 2 (Ah (AN true) r.1.Arena.Knots),.int .i64 r.1.Next]),(B r.2)]) (List.replicate 2 .gone):=by
 unfold KA at h;refine gk Tryz.func90 rfl Tryz.ntmps90 (ws (Ab 4 0 (RW.nil (ws (Ab 1 0 (RW.nil (Wp.seq (ws (Ab 3 0 (RW.nil (yK h [2,3,4,6] [.box 2,.box 3,.box 4] (fun a=>(gI xS xR a)) ?_ ?_)))))))))))
 ·intro a h e;refine wc h (fun h=>?_) (fun h=>?_)
  ·refine ws (Ab 3 0 (RW.c 0 h (JU _ _) (fun v1 gv1 h=>Ab 1 0 (RW.nil (Wp.seq (ws (Ab 2 0 (RW.nil (wc h (fun h=>?_) (fun h=>?_))))))))))
   ·refine ws (Ab 1 0 (RW.c 0 h (F8 _) (fun v2 gv2 h=>Ab 2 0 (RW.nil ?_))));cases h;replace h:some _=some _:=e;cases h;exact Wp.ret ⟨.inr rfl,BJ (by kernel_rfl)⟩
   refine Wp.skip (Ax (Ab 3 0 (bd h fun x1 gx1 h=>RW.q (Cq Em gx1) (RW.q (DD Em gx1 0 1) (RW.q (CN Em gx1 1) (Ab 1 0 (RW.nil ?_)))))));cases h;exact⟨_,rfl,A4⟩
  refine Wp.skip ?_;cases h;exact⟨_,rfl,A4⟩
 intro j1 h E hE;refine AE hE (Wp.seq (Wp.seq (B3 h [2,3,4,6,39] [.box 2,.box 3,.box 4] (fun a=>(gH xS xR j1 a)) ?_ ?_)))
 ·intro a h;refine Ax (Ab 3 0 (RW.c 0 h (JU _ _) (fun v3 gv3 h=>Ab 2 0 (Ba 34 h (fun h=>?_) (fun h=>?_)))))
  ·refine Ab 5 0 (RW.nil ?_);cases h;exact⟨_,rfl,A4⟩
  refine Ab 2 0 (RW.q (D5 Em xS.Vols) (Ab 2 0 (RW.nil ?_)));cases h;exact⟨_,rfl,A4⟩
 intro j2 h E hE;refine AE hE (wc h (fun h=>?_) (fun h=>?_))
 ·refine ws (Ab 1 0 (RW.c 0 h (F8 _) (fun v4 gv4 h=>Ab 2 0 (RW.nil ?_))));cases h;exact Wp.ret ⟨.inr rfl,BJ (by kernel_rfl)⟩
 refine Wp.skip (ws (Ab 1 0 (RW.c 0 h (F8 _) (fun v5 gv5 h=>Ab 2 0 (RW.nil (ws (Ab 2 2 (RW.nil (Wp.seq (ws (Ab 1 0 (RW.nil (BO h [2,3,4,6,8,9,10] [.box 2,.box 3,.box 4,.box 8] (fun s=>(gG xS xR j1 v5 s.1 s.2)) [2,3,4,6,8,9] [.box 2,.box 3,.box 4,.box 8] (fun s=>(gF xS xR j1 v5 s)) A4 ?_ ?_)))))))))))))
 ·rintro⟨b,f⟩ o (h:IN xS xR b f=some o);unfold IN at h;refine Wp.seq (ws (Ab 3 0 (RW.q (D5 Em xS.Vols) (Ab 1 0 (RW.nil (wc h (fun h=>?_) (fun h=>?_)))))))
  ·refine Wp.skip (Wp.seq (Wp.block (Wp.seq (M3 mixed (DZ 3 (bd h fun x2 gx2 h=>SW.q (Cq Em gx2) (SW.q (DD Em gx2 0 0) (SW.q (CN Em gx2 0) (DZ 3 (SW.nil (wc h (fun h=>?_) (fun h=>?_))))))))))))
   ·refine Ax (Ab 4 0 (bd h fun x3 gx3 h=>RW.q (Cq Em gx3) (RW.q (Si Em gx3 0 2) (Ab 1 0 (bd h fun q1 gq1 h=>Dl (EQ Em (fun _=>rfl) b gq1) (Ab 1 1 (RW.nil (Ax (Ab 3 0 (RW.nil ?_))))))))));cases h;exact⟨_,rfl,A4⟩
   refine Wp.skip (Ax (Ab 3 0 (RW.nil ?_)));cases h;exact⟨_,rfl,A4⟩
  refine Wp.exit ?_;cases h;exact⟨_,rfl,A4⟩
 intro v6 h E hE;refine AE hE (ws (Ab 6 0 (bd h fun q2 gq2 h=>Dl (EQ Em (fun _=>rfl) v6 gq2) (Ab 1 1 (RW.nil (Wp.seq (ws (Ab 1 0 (RW.nil (BO h [2,3,4,8,9,11] [.box 2,.box 3,.box 4,.box 8] (fun s=>(gE xS xR v5 s.1 s.2)) [4,8,9] [.box 4,.box 8] (fun s=>(gD v5 s)) A4 ?_ ?_))))))))))
 ·rintro⟨d,g⟩ o (h:IM xS xR d g=some o);unfold IM at h;refine Wp.seq (ws (Ab 3 0 (RW.q (D5 Em xS.Vols) (Ab 1 0 (RW.nil (wc h (fun h=>?_) (fun h=>?_)))))))
  ·refine Wp.skip (Wp.seq (Wp.block (Wp.seq (M3 mixed (DZ 3 (bd h fun x4 gx4 h=>SW.q (Cq Em gx4) (SW.q (DD Em gx4 0 0) (SW.q (CN Em gx4 0) (DZ 3 (SW.nil (wc h (fun h=>?_) (fun h=>?_))))))))))))
   ·refine Ax (Ab 4 0 (bd h fun x5 gx5 h=>RW.q (Cq Em gx5) (RW.q (Si Em gx5 0 2) (Ab 1 0 (bd h fun q3 gq3 h=>Dl (EQ Em (fun _=>rfl) d gq3) (Ab 1 1 (RW.nil (Ax (Ab 3 0 (RW.nil ?_))))))))));cases h;exact⟨_,rfl,A4⟩
   refine Wp.skip (Ax (Ab 3 0 (RW.nil ?_)));cases h;exact⟨_,rfl,A4⟩
  refine Wp.exit ?_;cases h;exact⟨_,rfl,A4⟩
 intro v7 h E hE;refine AE hE (ws (Ab 3 0 (RW.nil (ws (Ab 3 0 (RW.nil ?_))))));cases h;exact Wp.ret ⟨.inr rfl,BJ (by kernel_rfl)⟩
def Xv (xS:Store) (z1:List Int) (z2:List BX):St:=AG [(1,(.one (.ptr (.box 1) 0 [] 0))),(2,(.one (.ptr (.box 2) 0 [] 0))),(3,(.one (.ptr (.box 3) 0 [] 0))),(4,(.one (.sl true 3 1 (Ah c3 z1))))] [(.box 1,[.sl false 39 2 (Ah CD xS.Vols),.sl false 150 2 (Ah (AN false) xS.Arena.Knots),.int .i64 xS.Next]),(.box 2,[.sl true 39 2 (Ah CD []),.sl true 150 2 (Ah (AN true) []),.int .i64 0]),(.box 3,[.sl true 150 2 (Ah (AN true) z2)])]
def Xt (xS:Store) (j1:List Int×List BX) (z3:List Vol):St:=AG [(2,(.one (.ptr (.box 2) 0 [] 0))),(4,(.one (.sl true 3 1 (Ah c3 j1.1)))),(5,(.one (.ptr (.box 5) 0 [] 0)))] [(.box 2,[.sl true 39 2 (Ah CD []),.sl true 150 2 (Ah (AN true) []),.int .i64 0]),(.box 5,[.sl true 39 2 (Ah CD z3),.sl true 150 2 (Ah (AN true) j1.2),.int .i64 xS.Next])]
def Xs (xS:Store) (j1:List Int×List BX) (z4:Int) (z5:List Vol):St:=AG [(2,(.one (.ptr (.box 2) 0 [] 0))),(4,(.one (.sl true 3 1 (Ah c3 j1.1)))),(5,(.one (.ptr (.box 5) 0 [] 0))),(6,(I z4))] [(.box 2,[.sl true 39 2 (Ah CD []),.sl true 150 2 (Ah (AN true) []),.int .i64 0]),(.box 5,[.sl true 39 2 (Ah CD z5),.sl true 150 2 (Ah (AN true) j1.2),.int .i64 xS.Next])]
def Xr (xS:Store) (j1:List Int×List BX) (z6:List Vol):St:=AG [(2,(.one (.ptr (.box 2) 0 [] 0))),(5,(.one (.ptr (.box 5) 0 [] 0)))] [(.box 2,[.sl true 39 2 (Ah CD []),.sl true 150 2 (Ah (AN true) []),.int .i64 0]),(.box 5,[.sl true 39 2 (Ah CD z6),.sl true 150 2 (Ah (AN true) j1.2),.int .i64 xS.Next])]
theorem NW (xS:Store) (r:Store) (h:FO xS=some r):Be Tryz.prog 91 [.sv (.agg [.sl false 39 2 (Ah CD xS.Vols),.sl false 150 2 (Ah (AN false) xS.Arena.Knots),.int .i64 xS.Next])] (.agg [.sl true 39 2 (Ah CD r.Vols),.sl true 150 2 (Ah (AN true) r.Arena.Knots),.int .i64 r.Next]) (List.replicate 1 .gone):=by
 unfold FO at h;refine gk Tryz.func91 rfl Tryz.ntmps91 (ws (Ab 2 0 (RW.nil (Wp.seq (B3 h [1,2,3,4] [.box 1,.box 2,.box 3] (fun a=>(Xv xS a.1 a.2)) ?_ ?_)))))
 ·intro a h;refine EL [9] mixed (fun c E h=>by rcases h with⟨h|h,_⟩<;>cases h) (AD [0,1,2] 0 (Bi 3 8 ?_ ?_))
  ·refine KB.c 0 h (Lv _) (fun v1 gv1 h=>Bi 4 8 ?_ ?_)
   ·refine KB.c 0 h (gs (ca rfl (ca (co (cs (fZ _))) rfl)) (Gn _ _)) (fun v2 gv2 h=>Bi 5 8 ?_ ?_) (hc:=(.inr (fun v=>by simp [BE,BL,AR,BB,ns3,Lk])))
    ·refine KB.o true (Ky 6 (Bi 7 8 ?_ ?_))
     ·refine KB.o false (AD [8,9,10] 4 (Ap ?_));cases h;exact⟨_,rfl,A4⟩
     refine KB.o false (Bi 7 9 ?_ ?_)
     ·refine KB.o false (AD [9,10] 2 (Ap ?_));cases h;exact⟨_,rfl,A4⟩
     refine KB.o false (AD [7,10] 2 (Ap ?_));cases h;exact⟨_,rfl,A4⟩
    refine KB.o false (AD [5] 1 (Ky 6 (Bi 7 9 ?_ ?_)))
    ·refine KB.o false (AD [9,10] 2 (Ap ?_));cases h;exact⟨_,rfl,A4⟩
    refine KB.o false (AD [7,10] 2 (Ap ?_));cases h;exact⟨_,rfl,A4⟩
   refine KB.o false (BT 4 (KB.c 0 h (gs (ca rfl (ca (co (cs (fZ _))) rfl)) (Gn _ _)) (fun v3 gv3 h=>AD [5] 1 (Ky 6 (Bi 7 9 ?_ ?_))) (hc:=(.inr (fun v=>by simp [BE,BL,AR,BB,ns3,Lk])))))
   ·refine KB.o false (AD [9,10] 2 (Ap ?_));cases h;exact⟨_,rfl,A4⟩
   refine KB.o false (AD [7,10] 2 (Ap ?_));cases h;exact⟨_,rfl,A4⟩
  refine KB.o false (BT 3 (KB.c 0 h (Lv _) (fun v4 gv4 h=>BT 4 (KB.c 0 h (gs (ca rfl (ca (co (cs (fZ _))) rfl)) (Gn _ _)) (fun v5 gv5 h=>AD [5] 1 (Ky 6 (Bi 7 9 ?_ ?_))) (hc:=(.inr (fun v=>by simp [BE,BL,AR,BB,ns3,Lk])))))))
  ·refine KB.o false (AD [9,10] 2 (Ap ?_));cases h;exact⟨_,rfl,A4⟩
  refine KB.o false (AD [7,10] 2 (Ap ?_));cases h;exact⟨_,rfl,A4⟩
 intro j1 h E hE;refine AE hE (Wp.seq (B3 h [2,4,5] [.box 2,.box 5] (fun a=>(Xt xS j1 a)) ?_ ?_))
 ·intro a h;refine EL [9] mixed (fun c E h=>by rcases h with⟨h|h,_⟩<;>cases h) (AD [1,2,4,5,6] 0 (Bi 0 8 ?_ ?_))
  ·refine pI (Bi 3 8 ?_ ?_)
   ·refine bd h fun q1 gq1 h=>fI (EQ Em (fun _=>rfl) [] gq1) (AD [7,8,9] 0 (Ap ?_))
    cases h;exact⟨_,rfl,A4⟩
   refine KB.o false (BT 3 (bd h fun q2 gq2 h=>fI (EQ Em (fun _=>rfl) [] gq2) (AD [7,9] 0 (Ap ?_))));cases h;exact⟨_,rfl,A4⟩
  refine KB.o false (BT 0 (pI (BT 3 (bd h fun q3 gq3 h=>fI (EQ Em (fun _=>rfl) [] gq3) (AD [7,9] 0 (Ap ?_))))));cases h;exact⟨_,rfl,A4⟩
 intro j2 h E hE;refine AE hE (Wp.seq (ws (Ab 1 0 (RW.nil (BO h [2,4,5,6] [.box 2,.box 5] (fun s=>(Xs xS j1 s.1 s.2)) [2,5] [.box 2,.box 5] (fun s=>(Xr xS j1 s)) A4 ?_ ?_)))))
 ·rintro⟨d,b⟩ o (h:GU j1 d b=some o);unfold GU at h;refine Wp.seq (ws (Ab 3 0 (RW.q (D5 Em b) (Ab 1 0 (RW.nil (wc h (fun h=>?_) (fun h=>?_)))))))
  ·refine Wp.skip (Wp.seq (Wp.block (T7 9 mixed (DZ 5 (bd h fun x1 gx1 h=>SW.q (Cq k3 gx1) (SW.q (CN k3 gx1 0) (bd h fun x2 gx2 h=>SW.q (Cq Em gx2) (SW.q (DD Em gx2 0 1) (SW.nil (Dl (Ow Em gx2 1 0 (Vol.mk x2.Id x1)) (RW.nil ?_)))))))))));refine Ax (Ab 3 0 (RW.nil ?_));cases h;exact⟨_,rfl,A4⟩
  refine Wp.exit ?_;cases h;exact⟨_,rfl,A4⟩
 intro v6 h E hE;refine AE hE (ws (Ab 2 0 (RW.nil ?_)));cases h;exact Wp.ret ⟨.inr rfl,BJ (by kernel_rfl)⟩
def m8 (xA:Arena) (b:Int) (a:Int) (xN:Int) (v1:Arena) (z1:Bool):St:=AG [(1,(I b)),(2,(I a)),(3,(I xN)),(4,(.one (.ptr (.box 4) 0 [] 0))),(8,(.one (.ptr (.box 8) 0 [] 0))),(10,(.one (.ptr (.box 10) 0 [] 0))),(33,(B z1))] [(.box 4,[.sl false 150 2 (Ah (AN false) xA.Knots)]),(.box 8,[.sl true 150 2 (Ah (AN true) [])]),(.box 10,[.sl true 150 2 (Ah (AN true) v1.Knots)])]
def m7 (a:Int) (xN:Int) (v1:Arena) (z2:List Int) (z3:List Int):St:=AG [(2,(I a)),(3,(I xN)),(8,(.one (.ptr (.box 8) 0 [] 0))),(10,(.one (.ptr (.box 10) 0 [] 0))),(11,(.one (.ptr (.box 11) 0 [] 0))),(12,(.one (.ptr (.box 12) 0 [] 0)))] [(.box 8,[.sl true 150 2 (Ah (AN true) [])]),(.box 10,[.sl true 150 2 (Ah (AN true) v1.Knots)]),(.box 11,[.bool true,.sl true 3 1 (Ah c3 z2)]),(.box 12,[.bool false,.sl true 3 1 (Ah c3 z3)])]
theorem Zc (xA:Arena) (d:Int) (b:Int) (xN:Int) (r:Arena×Int) (h:Ro xA d b xN=some r):Be Tryz.prog 92 [.sv (.agg [.sl false 150 2 (Ah (AN false) xA.Knots)]),.sv (I d),.sv (I b),.sv (I xN)] (.tup [(.agg [.sl false 150 2 (Ah (AN false) r.1.Knots)]),(I r.2)]) (List.replicate 4 .gone):=by
 unfold Ro at h;refine gk Tryz.func92 rfl Tryz.ntmps92 (ws (Ab 3 0 (RW.nil (ws (Ab 1 0 (RW.c 0 h (Pa _) (fun v1 gv1 h=>Ab 2 0 (RW.nil (Wp.seq (Wp.seq (B3 h [1,2,3,4,8,10,33] [.box 4,.box 8,.box 10] (fun a=>(m8 xA d b xN v1 a)) ?_ ?_)))))))))))
 ·intro a h;refine Ax (Ab 1 0 (RW.c 0 h (MJ _) (fun v2 gv2 h=>Ab 2 0 (Ba 19 h (fun h=>?_) (fun h=>?_)))))
  ·refine Ab 14 0 (RW.nil ?_);cases h;exact⟨_,rfl,A4⟩
  refine Ab 2 0 (RW.c 0 h (KD _ _) (fun v3 gv3 h=>Ab 3 0 (Ba 25 h (fun h=>?_) (fun h=>?_))))
  ·refine Ab 8 0 (RW.nil ?_);cases h;exact⟨_,rfl,A4⟩
  refine Ab 1 0 (RW.c 0 h (BN _ _ _) (fun v4 gv4 h=>Ab 3 0 (Ba 30 h (fun h=>?_) (fun h=>?_))))
  ·refine Ab 3 0 (RW.nil ?_);cases h;exact⟨_,rfl,A4⟩
  refine Ab 3 0 (RW.nil ?_);cases h;exact⟨_,rfl,A4⟩
 intro j1 h E hE;refine AE hE (wc h (fun h=>?_) (fun h=>?_))
 ·refine ws (Ab 4 0 (RW.nil (Wp.fz (.box 8) 0 (Dj v1.Knots) ?_)));cases h;exact Wp.ret ⟨.inr rfl,BJ (by kernel_rfl)⟩
 refine Wp.skip (ws (bd h fun q1 gq1 h=>Dl (fmk k3 0 gq1) (Ab 3 0 (RW.nil (ws (Ab 4 0 (RW.nil (Wp.seq (ws (Ab 2 0 (RW.nil (B3 h [2,3,8,10,11,12] [.box 8,.box 10,.box 11,.box 12] (fun a=>(m7 b xN v1 a.1 a.2)) ?_ ?_))))))))))))
 ·intro a h;refine wc h (fun h=>?_) (fun h=>?_)
  ·refine ws (Ab 4 0 (bd h fun x1 gx1 h=>RW.q (Cq (CM false) gx1) (RW.q (DD (CM false) gx1 0 1) (RW.q (CN (CM false) gx1 1) (bd h fun q2 gq2 h=>Dl (EQ k3 (fun _=>rfl) [] gq2) (Ab 2 0 (RW.nil (ws (Ab 4 0 (bd h fun x2 gx2 h=>RW.q (Cq k3 gx2) ?_))))))))));refine RW.q (CN k3 gx2 0) (Ab 1 0 (RW.nil (ws (Ab 2 0 (RW.nil (wc h (fun h=>?_) (fun h=>?_)))))))
   ·refine Ax (Ab 4 0 (bd h fun x3 gx3 h=>RW.q (Cq (CM false) gx3) (RW.q (DD (CM false) gx3 0 1) (RW.q (CN (CM false) gx3 1) (bd h fun q3 gq3 h=>Dl (EQ k3 (fun _=>rfl) [] gq3) (Ab 2 0 (RW.nil ?_)))))));cases h;exact⟨_,rfl,A4⟩
   refine Wp.skip ?_;cases h;exact⟨_,rfl,A4⟩
  refine Wp.skip ?_;cases h;exact⟨_,rfl,A4⟩
 intro j2 h E hE;refine AE hE (ws (Ab 5 0 (bd h fun x4 gx4 h=>RW.q (Cq k3 gx4) (Dl (Ow k3 gx4 0 1 xN) (RW.nil (ws (Ab 6 0 (RW.q (D5 (CM true) v1.Knots) (bd h fun x5 gx5 h=>RW.q (Cq k3 gx5) (Dl (Ow k3 gx5 0 1 (ln v1.Knots)) (RW.nil ?_)))))))))));refine ws (Ab 5 0 (bd h fun q4 gq4 h=>Dl (oV (CM true) v1.Knots [(BX.mk true (si j2.1 (Int.tmod b 4) xN)),(BX.mk false (si j2.2 (qu b 4) (ln v1.Knots)))] gq4) (RW.fz (.slot 87) 0 (Dj q4) (Ab 2 0 (RW.nil (Wp.seq (EL [5] mixed (fun c E h=>by rcases h with⟨h|h,_⟩<;>cases h) (AD [0] 0 (Bi 1 5 ?_ ?_)))))))))
 ·refine KB.o false (Bi 2 5 ?_ ?_)
  ·refine KB.o false (Bi 3 5 ?_ ?_)
   ·refine KB.q (D5 (CM false) q4) (Bi 4 5 ?_ ?_)
    ·refine KB.o false (AD [5,6] 0 (Ap ?_));cases h;exact Wp.ret ⟨.inr rfl,BJ (by kernel_rfl)⟩
    refine KB.o false (AD [4,6] 0 (Ap ?_));cases h;exact Wp.ret ⟨.inr rfl,BJ (by kernel_rfl)⟩
   refine KB.o false (BT 3 (KB.q (D5 (CM false) q4) (AD [4,6] 0 (Ap ?_))));cases h;exact Wp.ret ⟨.inr rfl,BJ (by kernel_rfl)⟩
  refine KB.o false (AD [2] 0 (BT 3 (KB.q (D5 (CM false) q4) (AD [4,6] 0 (Ap ?_)))));cases h;exact Wp.ret ⟨.inr rfl,BJ (by kernel_rfl)⟩
 refine KB.o false (AD [1,2] 0 (BT 3 (KB.q (D5 (CM false) q4) (AD [4,6] 0 (Ap ?_)))));cases h;exact Wp.ret ⟨.inr rfl,BJ (by kernel_rfl)⟩
def nF (xS:Store) (xR:Dk) (z1:Bool):St:=AG [(2,(.one (.ptr (.box 2) 0 [] 0))),(3,(.one (.ptr (.box 3) 0 [] 0))),(4,(.one (.ptr (.box 4) 0 [] 0))),(18,(B z1))] [(.box 2,[.sl false 39 2 (Ah CD xS.Vols),.sl false 150 2 (Ah (AN false) xS.Arena.Knots),.int .i64 xS.Next]),(.box 3,[.int .i64 xR.Kind,.int .i64 xR.Vol,.int .i64 xR.Arg,.int .i64 xR.Chunk]),(.box 4,[.sl true 39 2 (Ah CD []),.sl true 150 2 (Ah (AN true) []),.int .i64 0])]
def nE (z2:Int):St:=AG [(4,(.one (.ptr (.box 4) 0 [] 0))),(6,(I z2))] [(.box 4,[.sl true 39 2 (Ah CD []),.sl true 150 2 (Ah (AN true) []),.int .i64 0])]
def nD (xS:Store) (xR:Dk) (v5:Int) (z3:Bool):St:=AG [(2,(.one (.ptr (.box 2) 0 [] 0))),(3,(.one (.ptr (.box 3) 0 [] 0))),(4,(.one (.ptr (.box 4) 0 [] 0))),(7,(I v5)),(48,(B z3))] [(.box 2,[.sl false 39 2 (Ah CD xS.Vols),.sl false 150 2 (Ah (AN false) xS.Arena.Knots),.int .i64 xS.Next]),(.box 3,[.int .i64 xR.Kind,.int .i64 xR.Vol,.int .i64 xR.Arg,.int .i64 xR.Chunk]),(.box 4,[.sl true 39 2 (Ah CD []),.sl true 150 2 (Ah (AN true) []),.int .i64 0])]
def nC (xR:Dk) (v5:Int) (v7:Store) (z4:Int) (z5:List BX):St:=AG [(3,(.one (.ptr (.box 3) 0 [] 0))),(4,(.one (.ptr (.box 4) 0 [] 0))),(7,(I v5)),(8,(.one (.ptr (.box 8) 0 [] 0))),(9,(.one (.ptr (.box 9) 0 [] 0))),(10,(I z4))] [(.box 3,[.int .i64 xR.Kind,.int .i64 xR.Vol,.int .i64 xR.Arg,.int .i64 xR.Chunk]),(.box 4,[.sl true 39 2 (Ah CD []),.sl true 150 2 (Ah (AN true) []),.int .i64 0]),(.box 8,[.sl true 39 2 (Ah CD v7.Vols),.sl true 150 2 (Ah (AN true) v7.Arena.Knots),.int .i64 v7.Next]),(.box 9,[.sl false 150 2 (Ah (AN false) z5)])]
theorem Ze (xS:Store) (xR:Dk) (r:Store×Bool) (h:Rs xS xR=some r):Be Tryz.prog 58 [.sv (.agg [.sl false 39 2 (Ah CD xS.Vols),.sl false 150 2 (Ah (AN false) xS.Arena.Knots),.int .i64 xS.Next]),.sv (.agg [.int .i64 xR.Kind,.int .i64 xR.Vol,.int .i64 xR.Arg,.int .i64 xR.Chunk])] (.tup [(.agg [.sl true 39 2 (Ah CD r.1.Vols),.sl true 150 2 (Ah (AN true) r.1.Arena.Knots),.int .i64 r.1.Next]),(B r.2)]) (List.replicate 2 .gone):=by
 unfold Rs at h;refine gk Tryz.func58 rfl Tryz.ntmps58 (ws (Ab 4 0 (RW.nil (Wp.seq (Wp.seq (B3 h [2,3,4,18] [.box 2,.box 3,.box 4] (fun a=>(nF xS xR a)) ?_ ?_))))))
 ·intro a h;refine Ax (Ab 1 0 (RW.c 0 h (Tf _) (fun v1 gv1 h=>Ab 2 0 (Ba 14 h (fun h=>?_) (fun h=>?_)))))
  ·refine Ab 4 0 (RW.nil ?_);cases h;exact⟨_,rfl,A4⟩
  refine Ab 1 0 (RW.c 0 h (S0 _) (fun v2 gv2 h=>Ab 2 0 (RW.nil ?_)));cases h;exact⟨_,rfl,A4⟩
 intro j1 h E hE;refine AE hE (wc h (fun h=>?_) (fun h=>?_))
 ·refine ws (Ab 1 0 (RW.c 0 h (F8 _) (fun v3 gv3 h=>Ab 2 0 (RW.nil ?_))));cases h;exact Wp.ret ⟨.inr rfl,BJ (by kernel_rfl)⟩
 refine Wp.skip (Wp.seq (ws (Ab 2 0 (RW.nil (Wp.block (ws (Ab 2 0 (RW.nil (wc h (fun h=>?_) (fun h=>?_))))))))))
 ·refine ws (Ab 3 0 (RW.nil (Wp.seq (ws (Ab 2 0 (RW.nil (B3 h [4,6] [.box 4] (fun a=>(nE a)) ?_ ?_)))))))
  ·intro a h;refine wc h (fun h=>?_) (fun h=>?_)
   ·refine Ax (Ab 1 0 (RW.nil ?_));cases h;exact⟨_,rfl,A4⟩
   refine Wp.skip ?_;cases h;exact⟨_,rfl,A4⟩
  intro j2 h E hE;refine AE hE (ws (Ab 4 0 (RW.nil ?_)));cases h;exact Wp.ret ⟨.inr rfl,BJ (by kernel_rfl)⟩
 refine ws (Ab 2 0 (RW.nil (wc h (fun h=>?_) (fun h=>?_))))
 ·refine ws (Ab 2 0 (RW.c 0 h (mG _ _) (fun v4 gv4 h=>Ab 4 0 (RW.nil ?_))));cases h;exact Wp.ret ⟨.inr rfl,BJ (by kernel_rfl)⟩
 refine Wp.skip (ws (Ab 3 0 (RW.c 0 h (JU _ _) (fun v5 gv5 h=>Ab 1 0 (RW.nil (Wp.seq (Wp.seq (B3 h [2,3,4,7,48] [.box 2,.box 3,.box 4] (fun a=>(nD xS xR v5 a)) ?_ ?_))))))))
 ·intro a h;refine Ax (Ab 3 0 (Ba 44 h (fun h=>?_) (fun h=>?_)))
  ·refine Ab 4 0 (RW.nil ?_);cases h;exact⟨_,rfl,A4⟩
  refine Ab 4 0 (RW.nil ?_);cases h;exact⟨_,rfl,A4⟩
 intro j3 h E hE;refine AE hE (wc h (fun h=>?_) (fun h=>?_))
 ·refine ws (Ab 1 0 (RW.c 0 h (F8 _) (fun v6 gv6 h=>Ab 2 0 (RW.nil ?_))));cases h;exact Wp.ret ⟨.inr rfl,BJ (by kernel_rfl)⟩
 refine Wp.skip (ws (Ab 1 0 (RW.c 0 h (F8 _) (fun v7 gv7 h=>Ab 2 0 (RW.nil (Wp.seq (ws (Ab 3 0 (RW.nil (wc h (fun h=>?_) (fun h=>?_)))))))))))
 ·refine Wp.seq (EL [11,13] mixed (fun c E h=>by rcases h with⟨h|h,_⟩<;>cases h) (AD [1,2,3] 0 (bd h fun x1 gx1 h=>KW.q 4 (pdr Em 39 gx1) (AD [6,7,8,9] 0 (bd h fun x2 gx2 h=>KW.q 10 (ACx Em 39 gx2) (BT 0 (pI (BT 5 (bd h fun q1 gq1 h=>fI (EQ Em (fun _=>rfl) [] gq1) (BT 11 (bd h fun q2 gq2 h=>?_)))))))))));refine YH (EQ Em (fun _=>rfl) q1 gq2) (AD [12,13] 0 (Ap (ws (Ab 1 0 (RW.c 0 h (gs (ca (fO (ca (cs (Fx _)) (ca (cs (Dj _)) rfl))) rfl) (NW _)) (fun v8 gv8 h=>Ab 2 0 (RW.nil ?_)) (hc:=(.inr (fun v=>by simp [BE,BL,AR,BB,Yw,Lk]))))))));cases h;exact Wp.ret ⟨.inr rfl,BJ (by kernel_rfl)⟩
 refine Wp.skip (Wp.seq (B3 h [3,4,7,8,9,10] [.box 3,.box 4,.box 8,.box 9] (fun a=>(nC xR v5 v7 a.1 a.2)) ?_ ?_))
 ·intro a h;refine EL [17] mixed (fun c E h=>by rcases h with⟨h|h,_⟩<;>cases h) (AD [0,1,2,3,4] 0 (bd h fun x3 gx3 h=>KW.q 5 (Cq Em gx3) (KW.q 6 (DD Em gx3 0 1) (KW.q 7 (CN Em gx3 1) (AD [8,9,10,11] 0 (Bi 12 16 ?_ ?_))))))
  ·refine KB.c 0 h (Zc _ _ _ _) (fun v9 gv9 h=>Bi 13 16 ?_ ?_)
   ·refine KB.o true (Ky 14 (Bi 15 16 ?_ ?_))
    ·refine KB.o false (AD [16,17,18] 0 (Ap ?_));cases h;exact⟨_,rfl,A4⟩
    refine KB.o false (Bi 15 17 ?_ ?_)
    ·refine KB.o false (AD [17,18] 0 (Ap ?_));cases h;exact⟨_,rfl,A4⟩
    refine KB.o false (AD [15,18] 0 (Ap ?_));cases h;exact⟨_,rfl,A4⟩
   refine KB.o false (AD [13] 1 (Ky 14 (Bi 15 17 ?_ ?_)))
   ·refine KB.o false (AD [17,18] 0 (Ap ?_));cases h;exact⟨_,rfl,A4⟩
   refine KB.o false (AD [15,18] 0 (Ap ?_));cases h;exact⟨_,rfl,A4⟩
  refine KB.o false (BT 12 (KB.c 0 h (Zc _ _ _ _) (fun v10 gv10 h=>AD [13] 1 (Ky 14 (Bi 15 17 ?_ ?_)))))
  ·refine KB.o false (AD [17,18] 0 (Ap ?_));cases h;exact⟨_,rfl,A4⟩
  refine KB.o false (AD [15,18] 0 (Ap ?_));cases h;exact⟨_,rfl,A4⟩
 intro j4 h E hE;refine AE hE (ws (Ab 3 0 (RW.nil (ws (Ab 4 0 (bd h fun x4 gx4 h=>RW.q (Cq Em gx4) (RW.q (DD Em gx4 0 1) (Dl (Ow Em gx4 1 0 (Vol.mk x4.Id j4.1)) (RW.nil (Wp.seq (ws (Ab 5 0 ?_))))))))))));refine RW.nil (wc h (fun h=>?_) (fun h=>?_))
 ·refine Ax (Ab 5 0 (RW.nil (ws (Ab 1 0 (RW.c 0 h (gs (ca (fO (ca (cs (Fx _)) rfl)) rfl) (NW _)) (fun v11 gv11 h=>Ab 2 0 (RW.nil ?_)) (hc:=(.inr (fun v=>by simp [BE,BL,AR,BB,Yw,Lk]))))))));cases h;exact Wp.ret ⟨.inr rfl,BJ (by kernel_rfl)⟩
 refine Wp.skip (ws (Ab 1 0 (RW.c 0 h (gs (ca (fO (ca (cs (Fx _)) rfl)) rfl) (NW _)) (fun v12 gv12 h=>Ab 2 0 (RW.nil ?_)) (hc:=(.inr (fun v=>by simp [BE,BL,AR,BB,Yw,Lk]))))));cases h;exact Wp.ret ⟨.inr rfl,BJ (by kernel_rfl)⟩
def Yj (xS:Store) (a:List Dk) (z1:Int) (z2:List Vol) (z3:List BX) (z4:Int):St:=AG [(1,(.one (.sl false 99 4 (Ah Ni a)))),(2,(.one (.ptr (.box 2) 0 [] 0))),(4,(.one (.ptr (.box 4) 0 [] 0))),(6,(.one (.ptr (.box 6) 0 [] 0))),(7,(I z1))] [(.box 2,[.sl false 39 2 (Ah CD xS.Vols),.sl false 150 2 (Ah (AN false) xS.Arena.Knots),.int .i64 xS.Next]),(.box 4,[.sl true 39 2 (Ah CD []),.sl true 150 2 (Ah (AN true) []),.int .i64 0]),(.box 6,[.sl true 39 2 (Ah CD z2),.sl true 150 2 (Ah (AN true) z3),.int .i64 z4])]
def Yi (z5:List Vol) (z6:List BX) (z7:Int):St:=AG [(4,(.one (.ptr (.box 4) 0 [] 0))),(6,(.one (.ptr (.box 6) 0 [] 0)))] [(.box 4,[.sl true 39 2 (Ah CD []),.sl true 150 2 (Ah (AN true) []),.int .i64 0]),(.box 6,[.sl true 39 2 (Ah CD z5),.sl true 150 2 (Ah (AN true) z6),.int .i64 z7])]
def Yh (xS:Store) (d:List Dk) (e:Int) (a:List Vol) (b:List BX) (c:Int) (z8:Bool) (z9:List Vol) (z10:List BX) (z11:Int):St:=AG [(1,(.one (.sl false 99 4 (Ah Ni d)))),(2,(.one (.ptr (.box 2) 0 [] 0))),(4,(.one (.ptr (.box 4) 0 [] 0))),(6,(.one (.ptr (.box 6) 0 [] 0))),(7,(I e)),(8,(.one (.ptr (.box 8) 0 [] 0))),(9,(B z8))] [(.box 2,[.sl false 39 2 (Ah CD xS.Vols),.sl false 150 2 (Ah (AN false) xS.Arena.Knots),.int .i64 xS.Next]),(.box 4,[.sl true 39 2 (Ah CD []),.sl true 150 2 (Ah (AN true) []),.int .i64 0]),(.box 6,[.sl true 39 2 (Ah CD a),.sl true 150 2 (Ah (AN true) b),.int .i64 c]),(.box 8,[.sl true 39 2 (Ah CD z9),.sl true 150 2 (Ah (AN true) z10),.int .i64 z11])]
theorem cS (xS:Store) (b:List Dk) (r:Store×Bool) (h:Mi xS b=some r):Be Tryz.prog 27 [.sv (.agg [.sl false 39 2 (Ah CD xS.Vols),.sl false 150 2 (Ah (AN false) xS.Arena.Knots),.int .i64 xS.Next]),.sv (.one (.sl false 99 4 (Ah Ni b)))] (.tup [(.agg [.sl true 39 2 (Ah CD r.1.Vols),.sl true 150 2 (Ah (AN true) r.1.Arena.Knots),.int .i64 r.1.Next]),(B r.2)]) (List.replicate 2 .gone):=by
 unfold Mi at h;refine gk Tryz.func27 rfl Tryz.ntmps27 (ws (Ab 3 0 (RW.nil (ws (Ab 1 0 (RW.c 0 h (F8 _) (fun v1 gv1 h=>Ab 2 0 (RW.nil (Wp.seq (ws (Ab 1 0 (RW.nil (Fk h [1,2,4,6,7] [.box 2,.box 4,.box 6] (fun s=>(Yj xS b s.1 s.2.1 s.2.2.1 s.2.2.2)) [4,6] [.box 4,.box 6] (fun s=>(Yi s.1 s.2.1 s.2.2)) A4 ?_ ?_)))))))))))))
 ·rintro⟨g,d,e,f⟩ o (h:FV xS b g d e f=some o) hk1;unfold FV at h;refine Wp.seq (ws (Ab 2 0 (RW.q (D5 Ww b) (Ab 1 0 (RW.nil (wc h (fun h=>?_) (fun h=>?_)))))))
  ·refine Wp.skip (Wp.seq (Wp.block (Wp.seq (B3 h [1,2,4,6,7,8,9] [.box 2,.box 4,.box 6,.box 8] (fun a=>(Yh xS b g d e f a.1 a.2.1 a.2.2.1 a.2.2.2)) ?_ ?_))))
   ·intro a h;refine EL [10] mixed (fun c E h=>by rcases h with⟨h|h,_⟩<;>cases h) (AD [0,1,2] 0 (bd h fun x1 gx1 h=>KW.q 3 (Cq Ww gx1) (KW.q 4 (Si Ww gx1 0 4) (Bi 5 9 ?_ ?_))))
    ·refine KB.c 0 h (gs (ca (fO (ca (cs (Fx _)) (ca (cs (Dj _)) rfl))) rfl) (Ze _ _)) (fun v2 gv2 h=>Bi 6 9 ?_ ?_) (hc:=(.inr (fun v=>by simp [BE,BL,AR,BB,Yw,Lk])))
     ·refine KB.o true (Ky 7 (Bi 8 9 ?_ ?_))
      ·refine KB.o false (AD [9,10,11] 0 (Ap ?_));cases h;exact⟨_,rfl,A4⟩
      refine KB.o false (Bi 8 10 ?_ ?_)
      ·refine KB.o false (AD [10,11] 0 (Ap ?_));cases h;exact⟨_,rfl,A4⟩
      refine KB.o false (AD [8,11] 0 (Ap ?_));cases h;exact⟨_,rfl,A4⟩
     refine KB.o false (AD [6] 1 (Ky 7 (Bi 8 10 ?_ ?_)))
     ·refine KB.o false (AD [10,11] 0 (Ap ?_));cases h;exact⟨_,rfl,A4⟩
     refine KB.o false (AD [8,11] 0 (Ap ?_));cases h;exact⟨_,rfl,A4⟩
    refine KB.o false (BT 5 (KB.c 0 h (gs (ca (fO (ca (cs (Fx _)) (ca (cs (Dj _)) rfl))) rfl) (Ze _ _)) (fun v3 gv3 h=>AD [6] 1 (Ky 7 (Bi 8 10 ?_ ?_))) (hc:=(.inr (fun v=>by simp [BE,BL,AR,BB,Yw,Lk])))))
    ·refine KB.o false (AD [10,11] 0 (Ap ?_));cases h;exact⟨_,rfl,A4⟩
    refine KB.o false (AD [8,11] 0 (Ap ?_));cases h;exact⟨_,rfl,A4⟩
   intro j1 h E hE;refine AE hE (Wp.seq (ws (Ab 2 0 (RW.nil (wc h (fun h=>?_) (fun h=>?_))))))
   ·refine ws (Ab 1 0 (RW.c 0 h (F8 _) (fun v4 gv4 h=>Ab 2 0 (RW.nil ?_))));cases h;replace h:some _=some _:=hk1 _ rfl;cases h;exact Wp.ret ⟨.inr rfl,BJ (by kernel_rfl)⟩
   refine Wp.skip (Ax (Ab 2 0 (RW.nil (Ax (Ab 3 0 (RW.nil ?_))))));cases h;exact⟨_,rfl,A4⟩
  refine Wp.exit ?_;cases h;exact⟨_,rfl,A4⟩
 intro v5 h E hE;refine AE hE (ws (Ab 3 0 (RW.nil ?_)));cases h;exact Wp.ret ⟨.inr rfl,BJ (by kernel_rfl)⟩
def Yd (v2:List Aq) (v3:Flash) (v4:Store) (z1:Int) (z2:Int) (z3:Int):St:=AG [(2,(.one (.ptr (.box 2) 0 [] 0))),(4,(.one (.sl true 54 8 (Ah Gb v2)))),(5,(.one (.ptr (.box 5) 0 [] 0))),(6,(I z1))] [(.box 2,[.sl true 77 3 (Ah (Cs true) []),.sl true 39 2 (Ah CD []),.sl true 150 2 (Ah (AN true) []),.int .i64 0,.int .i64 0,.int .i64 0,.int .i64 0]),(.box 5,[.sl true 77 3 (Ah (Cs true) v3.Blocks),.sl true 39 2 (Ah CD v4.Vols),.sl true 150 2 (Ah (AN true) v4.Arena.Knots),.int .i64 v4.Next,.int .i64 z2,.int .i64 z3,.int .i64 0])]
def Yc (v2:List Aq) (v3:Flash) (v4:Store) (z4:Int) (z5:Int):St:=AG [(2,(.one (.ptr (.box 2) 0 [] 0))),(4,(.one (.sl true 54 8 (Ah Gb v2)))),(5,(.one (.ptr (.box 5) 0 [] 0)))] [(.box 2,[.sl true 77 3 (Ah (Cs true) []),.sl true 39 2 (Ah CD []),.sl true 150 2 (Ah (AN true) []),.int .i64 0,.int .i64 0,.int .i64 0,.int .i64 0]),(.box 5,[.sl true 77 3 (Ah (Cs true) v3.Blocks),.sl true 39 2 (Ah CD v4.Vols),.sl true 150 2 (Ah (AN true) v4.Arena.Knots),.int .i64 v4.Next,.int .i64 z4,.int .i64 z5,.int .i64 0])]
def Yb (v2:List Aq) (v3:Flash) (v4:Store) (b:Int) (a:Int) (z6:Int):St:=AG [(2,(.one (.ptr (.box 2) 0 [] 0))),(4,(.one (.sl true 54 8 (Ah Gb v2)))),(5,(.one (.ptr (.box 5) 0 [] 0))),(6,(I b))] [(.box 2,[.sl true 77 3 (Ah (Cs true) []),.sl true 39 2 (Ah CD []),.sl true 150 2 (Ah (AN true) []),.int .i64 0,.int .i64 0,.int .i64 0,.int .i64 0]),(.box 5,[.sl true 77 3 (Ah (Cs true) v3.Blocks),.sl true 39 2 (Ah CD v4.Vols),.sl true 150 2 (Ah (AN true) v4.Arena.Knots),.int .i64 v4.Next,.int .i64 z6,.int .i64 a,.int .i64 0])]
def Ya (v2:List Aq) (v3:Flash) (v4:Store) (b:Int) (a:Int) (j1:Int) (z7:Bool):St:=AG [(2,(.one (.ptr (.box 2) 0 [] 0))),(4,(.one (.sl true 54 8 (Ah Gb v2)))),(5,(.one (.ptr (.box 5) 0 [] 0))),(6,(I b)),(59,(B z7))] [(.box 2,[.sl true 77 3 (Ah (Cs true) []),.sl true 39 2 (Ah CD []),.sl true 150 2 (Ah (AN true) []),.int .i64 0,.int .i64 0,.int .i64 0,.int .i64 0]),(.box 5,[.sl true 77 3 (Ah (Cs true) v3.Blocks),.sl true 39 2 (Ah CD v4.Vols),.sl true 150 2 (Ah (AN true) v4.Arena.Knots),.int .i64 v4.Next,.int .i64 j1,.int .i64 a,.int .i64 0])]
def XZ (v3:Flash) (v5:Int×Int) (v7:List Tx) (z8:Int) (z9:List Vol) (z10:List BX) (z11:Int) (z12:Int):St:=AG [(2,(.one (.ptr (.box 2) 0 [] 0))),(5,(.one (.ptr (.box 5) 0 [] 0))),(7,(.one (.sl false 178 3 (Ah (O3 false) v7)))),(8,(I z8))] [(.box 2,[.sl true 77 3 (Ah (Cs true) []),.sl true 39 2 (Ah CD []),.sl true 150 2 (Ah (AN true) []),.int .i64 0,.int .i64 0,.int .i64 0,.int .i64 0]),(.box 5,[.sl true 77 3 (Ah (Cs true) v3.Blocks),.sl true 39 2 (Ah CD z9),.sl true 150 2 (Ah (AN true) z10),.int .i64 z11,.int .i64 v5.1,.int .i64 v5.2,.int .i64 z12])]
def XY (v3:Flash) (v5:Int×Int) (z13:List Vol) (z14:List BX) (z15:Int) (z16:Int):St:=AG [(2,(.one (.ptr (.box 2) 0 [] 0))),(5,(.one (.ptr (.box 5) 0 [] 0)))] [(.box 2,[.sl true 77 3 (Ah (Cs true) []),.sl true 39 2 (Ah CD []),.sl true 150 2 (Ah (AN true) []),.int .i64 0,.int .i64 0,.int .i64 0,.int .i64 0]),(.box 5,[.sl true 77 3 (Ah (Cs true) v3.Blocks),.sl true 39 2 (Ah CD z13),.sl true 150 2 (Ah (AN true) z14),.int .i64 z15,.int .i64 v5.1,.int .i64 v5.2,.int .i64 z16])]
def XX (v3:Flash) (v5:Int×Int) (v7:List Tx) (d:Int) (a:List Vol) (b:List BX) (c:Int) (z17:Int):St:=AG [(2,(.one (.ptr (.box 2) 0 [] 0))),(5,(.one (.ptr (.box 5) 0 [] 0))),(7,(.one (.sl false 178 3 (Ah (O3 false) v7)))),(8,(I d))] [(.box 2,[.sl true 77 3 (Ah (Cs true) []),.sl true 39 2 (Ah CD []),.sl true 150 2 (Ah (AN true) []),.int .i64 0,.int .i64 0,.int .i64 0,.int .i64 0]),(.box 5,[.sl true 77 3 (Ah (Cs true) v3.Blocks),.sl true 39 2 (Ah CD a),.sl true 150 2 (Ah (AN true) b),.int .i64 c,.int .i64 v5.1,.int .i64 v5.2,.int .i64 z17])]
theorem NZ (xF:Flash) (r:AM×Bool) (h:E7 xF=some r):Be Tryz.prog 94 [.sv (.agg [.sl false 77 3 (Ah (Cs false) xF.Blocks)])] (.tup [(.agg [.sl true 77 3 (Ah (Cs true) r.1.Flash.Blocks),.sl true 39 2 (Ah CD r.1.Store.Vols),.sl true 150 2 (Ah (AN true) r.1.Store.Arena.Knots),.int .i64 r.1.Store.Next,.int .i64 r.1.Seq,.int .i64 r.1.Tx,.int .i64 r.1.Base]),(B r.2)]) (List.replicate 1 .gone):=by
 unfold E7 at h;refine gk Tryz.func94 rfl Tryz.ntmps94 (ws (Ab 3 0 (RW.nil (Wp.seq (ws (Ab 1 0 (RW.c 0 h (MH _) (fun v1 gv1 h=>Ab 1 0 (RW.nil (wc h (fun h=>?_) (fun h=>?_)))))))))))
 ·refine ws (Ab 3 0 (RW.nil ?_));cases h;exact Wp.ret ⟨.inr rfl,BJ (by kernel_rfl)⟩
 refine Wp.skip (ws (Ab 1 0 (RW.c 0 h (F9 _) (fun v2 gv2 h=>Ab 1 1 (RW.nil (ws (Ab 1 0 (RW.c 0 h (IP _) (fun v3 gv3 h=>RW.c 0 h (bF) (fun v4 gv4 h=>Ab 3 0 (RW.nil (Wp.seq (ws ?_)))))))))))));refine Ab 1 0 (RW.nil (BO h [2,4,5,6] [.box 2,.box 5] (fun s=>(Yd v2 v3 v4 s.1 s.2.1 s.2.2)) [2,4,5] [.box 2,.box 5] (fun s=>(Yc v2 v3 v4 s.1 s.2)) A4 ?_ ?_))
 ·rintro⟨g,i,b⟩ o (h:FU v2 g i b=some o);unfold FU at h;refine Wp.seq (ws (Ab 2 0 (RW.q (D5 DY v2) (Ab 1 0 (RW.nil (wc h (fun h=>?_) (fun h=>?_)))))))
  ·refine Wp.skip (Wp.seq (Wp.block (Wp.seq (Wp.seq (M3 mixed (DZ 2 (bd h fun x1 gx1 h=>SW.q (Cq DY gx1) (SW.q (DD DY gx1 0 2) (SW.q (DD DY gx1 2 3) (SW.q (CN DY gx1 3) (DZ 3 (SW.nil ?_))))))))))));refine B3 h [2,4,5,6] [.box 2,.box 5] (fun a=>(Yb v2 v3 v4 g b a)) ?_ ?_
   ·intro a h;refine wc h (fun h=>?_) (fun h=>?_)
    ·refine Ax (Ab 2 0 (bd h fun x2 gx2 h=>RW.q (Cq DY gx2) (RW.q (DD DY gx2 0 2) (RW.q (DD DY gx2 2 3) (RW.q (CN DY gx2 3) (Ab 3 0 (RW.nil ?_)))))));cases h;exact⟨_,rfl,A4⟩
    refine Wp.skip ?_;cases h;exact⟨_,rfl,A4⟩
   intro j1 h E hE;refine AE hE (Wp.seq (B3 h [2,4,5,6,59] [.box 2,.box 5] (fun a=>(Ya v2 v3 v4 g b j1 a)) ?_ ?_))
   ·intro a h;refine M3 mixed (DZ 2 (bd h fun x3 gx3 h=>SW.q (Cq DY gx3) (SW.q (DD DY gx3 0 2) (SW.q (DD DY gx3 2 2) (SW.q (CN DY gx3 2) (DZ 2 (kW 49 h (fun h=>?_) (fun h=>?_))))))))
    ·refine DZ 2 (bd h fun x4 gx4 h=>SW.q (Cq DY gx4) (SW.q (DD DY gx4 0 2) (SW.q (DD DY gx4 2 4) (SW.q (CN DY gx4 4) (DZ 4 (SW.nil ?_))))));cases h;exact⟨_,rfl,A4⟩
    refine DZ 10 (SW.nil ?_);cases h;exact⟨_,rfl,A4⟩
   intro j2 h E hE;refine AE hE (wc h (fun h=>?_) (fun h=>?_))
   ·refine Ax (Ab 2 0 (bd h fun x5 gx5 h=>RW.q (Cq DY gx5) (RW.q (DD DY gx5 0 2) (RW.q (DD DY gx5 2 4) (RW.q (CN DY gx5 4) (Ab 3 0 (RW.nil (Ax (Ab 3 0 (RW.nil ?_))))))))));cases h;exact⟨_,rfl,A4⟩
   refine Wp.skip (Ax (Ab 3 0 (RW.nil ?_)));cases h;exact⟨_,rfl,A4⟩
  refine Wp.exit ?_;cases h;exact⟨_,rfl,A4⟩
 intro v5 h E hE;refine AE hE (ws (Ab 1 0 (RW.c 0 h (gs (ca (co (cs (Sn _))) rfl) (VT _)) (fun v6 gv6 h=>RW.c 0 h (gs (ca (co (cs (AAG _))) rfl) (XH _)) (fun v7 gv7 h=>RW.fz (.slot 70) 0 (AAG v7) (Ab 1 0 (RW.nil (Wp.seq (ws (Ab 1 0 (RW.nil (BO h [2,5,7,8] [.box 2,.box 5] (fun s=>(XZ v3 v5 v7 s.1 s.2.1 s.2.2.1 s.2.2.2.1 s.2.2.2.2)) [2,5] [.box 2,.box 5] (fun s=>(XY v3 v5 s.1 s.2.1 s.2.2.1 s.2.2.2)) A4 ?_ ?_)))))))) (hc:=(.inr (fun v=>by simp [BE,BL,AR,BB,wF])))) (hc:=(.inr (fun v=>by simp [BE,BL,AR,BB,wF]))))))
 ·rintro⟨j,d,e,f,k⟩ o (h:FT v7 j d e f k=some o);unfold FT at h;refine Wp.seq (ws (Ab 2 0 (RW.q (D5 (Il false) v7) (Ab 1 0 (RW.nil (wc h (fun h=>?_) (fun h=>?_)))))))
  ·refine Wp.skip (Wp.seq (Wp.block (Wp.seq (ws (Ab 2 0 (RW.nil (B3 h [2,5,7,8] [.box 2,.box 5] (fun a=>(XX v3 v5 v7 j d e f a)) ?_ ?_)))))))
   ·intro a h;refine wc h (fun h=>?_) (fun h=>?_)
    ·refine Ax (Ab 2 0 (bd h fun x6 gx6 h=>RW.q (Cq (Il false) gx6) (RW.q (DD (Il false) gx6 0 0) (RW.q (CN (Il false) gx6 0) (Ab 2 0 (RW.nil ?_))))));cases h;exact⟨_,rfl,A4⟩
    refine Wp.skip ?_;cases h;exact⟨_,rfl,A4⟩
   intro j3 h E hE;refine AE hE (EL [12] mixed (fun c E h=>by rcases h with⟨h|h,_⟩<;>cases h) (AD [0,1,2,3] 0 (bd h fun x7 gx7 h=>KW.q 4 (Cq (Il false) gx7) (KW.q 5 (DD (Il false) gx7 0 2) (KW.q 6 (CN (Il false) gx7 2) (BT 7 (KB.c 0 h (gs (ca (fO (ca (cs (Fx _)) (ca (cs (Dj _)) rfl))) rfl) (cS _ _)) (fun v8 gv8 h=>AD [8] 1 (Ky 9 (AD [11] 0 (Bi 10 12 ?_ ?_)))) (hc:=(.inr (fun v=>by simp [BE,BL,AR,BB,Yw,Lk]))))))))))
   ·refine KB.o false (AD [12] 0 (Ap (Ax (Ab 3 0 (RW.nil ?_)))));cases h;exact⟨_,rfl,A4⟩
   refine KB.o false (AD [10] 0 (Ap (Ax (Ab 3 0 (RW.nil ?_)))));cases h;exact⟨_,rfl,A4⟩
  refine Wp.exit ?_;cases h;exact⟨_,rfl,A4⟩
 intro v9 h E hE;refine AE hE (ws (Ab 3 0 (RW.nil ?_)));cases h;exact Wp.ret ⟨.inr rfl,BJ (by kernel_rfl)⟩
theorem Yl (a:Int) (r:AM×Bool) (h:KK a=some r):Be Tryz.prog 59 [.sv (I a)] (.tup [(.agg [.sl true 77 3 (Ah (Cs true) r.1.Flash.Blocks),.sl true 39 2 (Ah CD r.1.Store.Vols),.sl true 150 2 (Ah (AN true) r.1.Store.Arena.Knots),.int .i64 r.1.Store.Next,.int .i64 r.1.Seq,.int .i64 r.1.Tx,.int .i64 r.1.Base]),(B r.2)]) (List.replicate 1 .gone):=by
 unfold KK at h;refine gk Tryz.func59 rfl Tryz.ntmps59 (ws (Ab 2 0 (RW.nil (ws (Ab 1 0 (RW.c 0 h (cO _) (fun v1 gv1 h=>Ab 6 1 (RW.nil (Wp.seq (ws (Ab 2 0 (RW.nil (wc h (fun h=>?_) (fun h=>?_))))))))))))))
 ·refine ws (Ab 3 0 (RW.nil ?_));cases h;exact Wp.ret ⟨.inr rfl,BJ (by kernel_rfl)⟩
 refine Wp.skip (ws (Ab 1 0 (RW.c 0 h (gs (ca (fO (ca (cs (Fw _)) rfl)) rfl) (NZ _)) (fun v2 gv2 h=>Ab 4 0 (RW.nil ?_)) (hc:=(.inr (fun v=>by simp [BE,BL,AR,BB,Yw,sQ,Lk]))))));cases h;exact Wp.ret ⟨.inr rfl,BJ (by kernel_rfl)⟩
set_option maxHeartbeats 4000000 in
theorem Vy (xC:BA) (a:List Int) (r:Int×BA) (h:Jt xC a=some r):Be Tryz.prog 79 [.ext [.sl false 5 1 (Ah c5 xC.b_),.int .i64 xC.i_,.int .i64 xC.h_],.sv (.one (.sl false 3 1 (Ah c3 a)))] (I r.1) (.ext [.sl false 5 1 (Ah c5 r.2.b_),.int .i64 r.2.i_,.int .i64 r.2.h_]::List.replicate 1 .gone):=by
 unfold Jt at h;refine gkx Tryz.func79 rfl Tryz.ntmps79 (ws (Ab 1 0 (RW.nil (ws (Ab 3 0 (RW.q (D5 k3 a) (Gc h (CX _ _) (fun _=>rfl) (fun v1 gv1 h=>bd h fun x1 gx1 h=>RW.q (Cq k3 gx1) (RW.q (CN k3 gx1 0) (Ab 1 0 (RW.nil ?_)))))))))));cases h;exact Wp.ret ⟨.inr rfl,r9 (by kernel_rfl)⟩
set_option maxHeartbeats 4000000 in
theorem Te (xC:BA) (xN:Int) (r:Bool×BA) (h:HO xC xN=some r):Be Tryz.prog 80 [.ext [.sl false 5 1 (Ah c5 xC.b_),.int .i64 xC.i_,.int .i64 xC.h_],.sv (I xN)] (B r.1) (.ext [.sl false 5 1 (Ah c5 r.2.b_),.int .i64 r.2.i_,.int .i64 r.2.h_]::List.replicate 1 .gone):=by
 unfold HO at h;refine gkx Tryz.func80 rfl Tryz.ntmps80 (ws (Ab 1 0 (RW.nil (ws (Ab 2 0 (Gc h (CX _ _) (fun _=>rfl) (fun v1 gv1 h=>Ab 2 0 (RW.nil ?_))))))));cases h;exact Wp.ret ⟨.inr rfl,r9 (by kernel_rfl)⟩
def c9 (x:ByteArray):List TV:=[.str x]
theorem k9:∀x,(c9 x).length=1:=fun _=>rfl
theorem sh9:∀l,BG (Ah c9 l)=Ah c9 l:=D6 (fun _=>rfl)
set_option maxHeartbeats 4000000 in
theorem gQ (xC:BA) (a:List ByteArray) (r:ByteArray×BA) (h:Nr xC a=some r):Be Tryz.prog 115 [.ext [.sl false 5 1 (Ah c5 xC.b_),.int .i64 xC.i_,.int .i64 xC.h_],.sv (.one (.sl false 9 1 (Ah c9 a)))] (Y r.1) (.ext [.sl false 5 1 (Ah c5 r.2.b_),.int .i64 r.2.i_,.int .i64 r.2.h_]::List.replicate 1 .gone):=by
 unfold Nr at h;refine gkx Tryz.func115 rfl Tryz.ntmps115 (ws (Ab 1 0 (RW.nil (ws (Ab 3 0 (RW.q (D5 k9 a) (Gc h (CX _ _) (fun _=>rfl) (fun v1 gv1 h=>bd h fun x1 gx1 h=>RW.q (Cq k9 gx1) (RW.q (CN k9 gx1 0) (Ab 1 0 (RW.nil ?_)))))))))));cases h;exact Wp.ret ⟨.inr rfl,r9 (by kernel_rfl)⟩
set_option maxHeartbeats 4000000 in
theorem f9 (xC:BA) (r:ByteArray×BA) (h:No xC=some r):Be Tryz.prog 81 [.ext [.sl false 5 1 (Ah c5 xC.b_),.int .i64 xC.i_,.int .i64 xC.h_]] (Y r.1) (.ext [.sl false 5 1 (Ah c5 r.2.b_),.int .i64 r.2.i_,.int .i64 r.2.h_]::List.replicate 0 .gone):=by
 unfold No at h;refine gkx Tryz.func81 rfl Tryz.ntmps81 (ws (Ab 1 0 (RW.nil (ws (Ab 2 0 (RW.fz (.slot 4) 0 (sh9 [(bs []),(bs [97]),(bs [98,98]),(bs [97,98,99,100,97,98,99,100,97,98,99,100]),(bs [104,101,108,108,111]),(bs [104,101,108,108,111,32,104,101,108,108,111,32,104,101,108,108,111]),(bs [122,122,122,122,122,122,122,122,122,122,122,122]),(bs [113,49]),(bs [113,50]),(bs [113,51])]) (Gc h (gQ _ _) (fun _=>rfl) (fun v1 gv1 h=>Ab 1 0 (RW.nil ?_)))))))));cases h;exact Wp.ret ⟨.inr rfl,r9 (by kernel_rfl)⟩
def aC (xD:AM) (z1:Int) (z2:Int) (z3:List Int) (z4:Int) (z5:Int):St:=AG [(0,(.one (.ptr (.ext 0) 0 [] 0))),(3,(.one (.ptr (.box 3) 0 [] 0))),(4,(.one (.ptr (.box 4) 0 [] 0))),(5,(.one (.ptr (.box 5) 0 [] 0)))] [(.box 3,[.sl false 77 3 (Ah (Cs false) xD.Flash.Blocks),.sl false 39 2 (Ah CD xD.Store.Vols),.sl false 150 2 (Ah (AN false) xD.Store.Arena.Knots),.int .i64 xD.Store.Next,.int .i64 xD.Seq,.int .i64 xD.Tx,.int .i64 xD.Base]),(.box 4,[.int .i64 0,.int .i64 0,.int .i64 0,.int .i64 0,.str (bs [])]),(.box 5,[.int .i64 z1,.int .i64 z2,.int .i64 0,.int .i64 0,.str (bs [])]),(.ext 0,[.sl false 5 1 (Ah c5 z3),.int .i64 z4,.int .i64 z5])]
def aB (xD:AM) (v1:Int×BA) (v2:Int×BA) (z6:Bool) (z7:List Int) (z8:Int) (z9:Int):St:=AG [(0,(.one (.ptr (.ext 0) 0 [] 0))),(3,(.one (.ptr (.box 3) 0 [] 0))),(4,(.one (.ptr (.box 4) 0 [] 0))),(5,(.one (.ptr (.box 5) 0 [] 0))),(31,(B z6))] [(.box 3,[.sl false 77 3 (Ah (Cs false) xD.Flash.Blocks),.sl false 39 2 (Ah CD xD.Store.Vols),.sl false 150 2 (Ah (AN false) xD.Store.Arena.Knots),.int .i64 xD.Store.Next,.int .i64 xD.Seq,.int .i64 xD.Tx,.int .i64 xD.Base]),(.box 4,[.int .i64 0,.int .i64 0,.int .i64 0,.int .i64 0,.str (bs [])]),(.box 5,[.int .i64 v1.1,.int .i64 (ad 1 v2.1),.int .i64 0,.int .i64 0,.str (bs [])]),(.ext 0,[.sl false 5 1 (Ah c5 z7),.int .i64 z8,.int .i64 z9])]
def aA (xD:AM) (j1:Int×Int×List Int×Int×Int) (z10:Bool) (z11:List Int) (z12:Int) (z13:Int):St:=AG [(0,(.one (.ptr (.ext 0) 0 [] 0))),(3,(.one (.ptr (.box 3) 0 [] 0))),(4,(.one (.ptr (.box 4) 0 [] 0))),(5,(.one (.ptr (.box 5) 0 [] 0))),(52,(B z10))] [(.box 3,[.sl false 77 3 (Ah (Cs false) xD.Flash.Blocks),.sl false 39 2 (Ah CD xD.Store.Vols),.sl false 150 2 (Ah (AN false) xD.Store.Arena.Knots),.int .i64 xD.Store.Next,.int .i64 xD.Seq,.int .i64 xD.Tx,.int .i64 xD.Base]),(.box 4,[.int .i64 0,.int .i64 0,.int .i64 0,.int .i64 0,.str (bs [])]),(.box 5,[.int .i64 j1.1,.int .i64 j1.2.1,.int .i64 0,.int .i64 0,.str (bs [])]),(.ext 0,[.sl false 5 1 (Ah c5 z11),.int .i64 z12,.int .i64 z13])]
def ZZ (xD:AM) (j1:Int×Int×List Int×Int×Int) (j3:Bool×List Int×Int×Int) (z14:Int):St:=AG [(0,(.one (.ptr (.ext 0) 0 [] 0))),(3,(.one (.ptr (.box 3) 0 [] 0))),(4,(.one (.ptr (.box 4) 0 [] 0))),(5,(.one (.ptr (.box 5) 0 [] 0)))] [(.box 3,[.sl false 77 3 (Ah (Cs false) xD.Flash.Blocks),.sl false 39 2 (Ah CD xD.Store.Vols),.sl false 150 2 (Ah (AN false) xD.Store.Arena.Knots),.int .i64 xD.Store.Next,.int .i64 xD.Seq,.int .i64 xD.Tx,.int .i64 xD.Base]),(.box 4,[.int .i64 0,.int .i64 0,.int .i64 0,.int .i64 0,.str (bs [])]),(.box 5,[.int .i64 z14,.int .i64 j1.2.1,.int .i64 0,.int .i64 0,.str (bs [])]),(.ext 0,[.sl false 5 1 (Ah c5 j3.2.1),.int .i64 j3.2.2.1,.int .i64 j3.2.2.2])]
def ZY (j1:Int×Int×List Int×Int×Int) (j4:Int) (z15:Int) (z16:Int) (z17:ByteArray) (z18:List Int) (z19:Int) (z20:Int):St:=AG [(4,(.one (.ptr (.box 4) 0 [] 0))),(5,(.one (.ptr (.box 5) 0 [] 0)))] [(.box 4,[.int .i64 0,.int .i64 0,.int .i64 0,.int .i64 0,.str (bs [])]),(.box 5,[.int .i64 j4,.int .i64 j1.2.1,.int .i64 z15,.int .i64 z16,.str z17]),(.ext 0,[.sl false 5 1 (Ah c5 z18),.int .i64 z19,.int .i64 z20])]
def ZX (xD:AM) (j1:Int×Int×List Int×Int×Int) (j3:Bool×List Int×Int×Int) (j4:Int) (z21:Bool):St:=AG [(0,(.one (.ptr (.ext 0) 0 [] 0))),(3,(.one (.ptr (.box 3) 0 [] 0))),(4,(.one (.ptr (.box 4) 0 [] 0))),(5,(.one (.ptr (.box 5) 0 [] 0))),(55,(I j4)),(64,(B z21))] [(.box 3,[.sl false 77 3 (Ah (Cs false) xD.Flash.Blocks),.sl false 39 2 (Ah CD xD.Store.Vols),.sl false 150 2 (Ah (AN false) xD.Store.Arena.Knots),.int .i64 xD.Store.Next,.int .i64 xD.Seq,.int .i64 xD.Tx,.int .i64 xD.Base]),(.box 4,[.int .i64 0,.int .i64 0,.int .i64 0,.int .i64 0,.str (bs [])]),(.box 5,[.int .i64 j4,.int .i64 j1.2.1,.int .i64 0,.int .i64 0,.str (bs [])]),(.ext 0,[.sl false 5 1 (Ah c5 j3.2.1),.int .i64 j3.2.2.1,.int .i64 j3.2.2.2])]
set_option maxHeartbeats 4000000 in
theorem SX (xC:BA) (xD:AM) (r:Xe×BA) (h:Np xC xD=some r):Be Tryz.prog 50 [.ext [.sl false 5 1 (Ah c5 xC.b_),.int .i64 xC.i_,.int .i64 xC.h_],.sv (.agg [.sl false 77 3 (Ah (Cs false) xD.Flash.Blocks),.sl false 39 2 (Ah CD xD.Store.Vols),.sl false 150 2 (Ah (AN false) xD.Store.Arena.Knots),.int .i64 xD.Store.Next,.int .i64 xD.Seq,.int .i64 xD.Tx,.int .i64 xD.Base])] (.agg [.int .i64 r.1.Kind,.int .i64 r.1.Vol,.int .i64 r.1.Sector,.int .i64 r.1.Of,.str r.1.Text]) (.ext [.sl false 5 1 (Ah c5 r.2.b_),.int .i64 r.2.i_,.int .i64 r.2.h_]::List.replicate 1 .gone):=by
 unfold Np at h;refine gkx Tryz.func50 rfl Tryz.ntmps50 (ws (Ab 2 0 (RW.nil (ws (Ab 2 0 (RW.fz (.slot 7) 0 (fZ [1,1,1,1,1,1,2,3,4,5,6]) (Gc h (Vy _ _) (fun _=>rfl) (fun v1 gv1 h=>Ab 1 0 (Gc h (CX _ _) (fun _=>rfl) (fun v2 gv2 h=>Ab 4 0 (RW.nil (Wp.seq (ws ?_)))))))))))));refine Ab 3 0 (RW.q (D5 Em xD.Store.Vols) (Ab 1 0 (RW.nil (B3 h [0,3,4,5] [.box 3,.box 4,.box 5,.ext 0] (fun a=>(aC xD a.1 a.2.1 a.2.2.1 a.2.2.2.1 a.2.2.2.2)) ?_ ?_))))
 ·intro a h;refine wc h (fun h=>?_) (fun h=>?_)
  ·refine Ax (Ab 2 0 (RW.nil ?_));cases h;exact⟨_,rfl,A4⟩
  refine Wp.seq (B3 h [0,3,4,5,31] [.box 3,.box 4,.box 5,.ext 0] (fun a=>(aB xD v1 v2 a.1 a.2.1 a.2.2.1 a.2.2.2)) ?_ ?_)
  ·intro a h;refine Ax (Ab 4 0 (Ba 22 h (fun h=>?_) (fun h=>?_)))
   ·refine Ab 5 0 (Ba 27 h (fun h=>?_) (fun h=>?_))
    ·refine Ab 1 0 (Gc h (Te _ _) (fun _=>rfl) (fun v3 gv3 h=>Ab 2 0 (RW.nil ?_)));cases h;exact⟨_,rfl,A4⟩
    refine Ab 4 0 (RW.nil ?_);cases h;exact⟨_,rfl,A4⟩
   refine Ab 9 0 (RW.nil ?_);cases h;exact⟨_,rfl,A4⟩
  intro j2 h E hE;refine AE hE (wc h (fun h=>?_) (fun h=>?_))
  ·refine EL [8,13] mixed (fun c E h=>by rcases h with⟨h|h,_⟩<;>cases h) (AD [3,4,5,6] 0 (KW.q 7 (D5 Em xD.Store.Vols) (Bi 0 8 ?_ ?_)))
   ·refine KB.o false (Bi 1 8 ?_ ?_)
    ·refine KB.o false (Bi 2 8 ?_ ?_)
     ·refine KB.o false (BT 8 (ZI h (CX _ _) (fun _=>rfl) (fun v4 gv4 h=>BT 9 (bd h fun x1 gx1 h=>KB.q (Cq Em gx1) (BT 10 (KB.q (DD Em gx1 0 0) (BT 11 (KB.q (CN Em gx1 0) (AD [12,13] 0 (Ap ?_))))))))));cases h;exact⟨_,rfl,A4⟩
     refine ZI h (CX _ _) (fun _=>rfl) (fun v5 gv5 h=>AD [2] 0 (BT 9 (bd h fun x2 gx2 h=>KB.q (Cq Em gx2) (BT 10 (KB.q (DD Em gx2 0 0) (BT 11 (KB.q (CN Em gx2 0) (AD [12,13] 0 (Ap ?_)))))))));cases h;exact⟨_,rfl,A4⟩
    refine ZI h (CX _ _) (fun _=>rfl) (fun v6 gv6 h=>AD [1,2] 0 (BT 9 (bd h fun x3 gx3 h=>KB.q (Cq Em gx3) (BT 10 (KB.q (DD Em gx3 0 0) (BT 11 (KB.q (CN Em gx3 0) (AD [12,13] 0 (Ap ?_)))))))));cases h;exact⟨_,rfl,A4⟩
   refine ZI h (CX _ _) (fun _=>rfl) (fun v7 gv7 h=>AD [0,1,2] 0 (BT 9 (bd h fun x4 gx4 h=>KB.q (Cq Em gx4) (BT 10 (KB.q (DD Em gx4 0 0) (BT 11 (KB.q (CN Em gx4 0) (AD [12,13] 0 (Ap ?_)))))))));cases h;exact⟨_,rfl,A4⟩
  refine Wp.skip ?_;cases h;exact⟨_,rfl,A4⟩
 intro j1 h E hE;refine AE hE (Wp.seq (Wp.seq (B3 h [0,3,4,5,52] [.box 3,.box 4,.box 5,.ext 0] (fun a=>(aA xD j1 a.1 a.2.1 a.2.2.1 a.2.2.2)) ?_ ?_)))
 ·intro a h;refine Ax (Ab 4 0 (Ba 48 h (fun h=>?_) (fun h=>?_)))
  ·refine Ab 1 0 (Gc h (Te _ _) (fun _=>rfl) (fun v8 gv8 h=>Ab 2 0 (RW.nil ?_)));cases h;exact⟨_,rfl,A4⟩
  refine Ab 4 0 (RW.nil ?_);cases h;exact⟨_,rfl,A4⟩
 intro j3 h E hE;refine AE hE (B3 h [0,3,4,5] [.box 3,.box 4,.box 5,.ext 0] (fun a=>(ZZ xD j1 j3 a)) ?_ ?_)
 ·intro a h;refine wc h (fun h=>?_) (fun h=>?_)
  ·refine Ax (Ab 2 0 (RW.nil ?_));cases h;exact⟨_,rfl,A4⟩
  refine Wp.skip ?_;cases h;exact⟨_,rfl,A4⟩
 intro j4 h E hE;refine AE hE (Wp.seq (ws (Ab 2 0 (RW.nil (Wp.block (ws (Ab 2 0 (RW.nil (B3 h [4,5] [.box 4,.box 5,.ext 0] (fun a=>(ZY j1 j4 a.1 a.2.1 a.2.2.1 a.2.2.2.1 a.2.2.2.2.1 a.2.2.2.2.2)) ?_ ?_)))))))))
 ·intro a h;refine wc h (fun h=>?_) (fun h=>?_)
  ·refine ws (Ab 1 0 (Gc h (f9 _) (fun _=>rfl) (fun v9 gv9 h=>Ab 2 0 (RW.nil (Ax (Ab 1 0 (Gc h (CX _ _) (fun _=>rfl) (fun v10 gv10 h=>Ab 2 0 (RW.nil ?_)))))))));cases h;exact⟨_,rfl,A4⟩
  refine Wp.seq (ws (Ab 2 0 (RW.nil (B3 h [0,3,4,5,55,64] [.box 3,.box 4,.box 5,.ext 0] (fun a=>(ZX xD j1 j3 j4 a)) ?_ ?_))))
  ·intro a h;refine wc h (fun h=>?_) (fun h=>?_)
   ·refine Wp.skip ?_;cases h;exact⟨_,rfl,A4⟩
   refine Ax (Ab 2 0 (RW.nil ?_));cases h;exact⟨_,rfl,A4⟩
  intro j6 h E hE;refine AE hE (wc h (fun h=>?_) (fun h=>?_))
  ·refine Ax (Ab 1 0 (Gc h (CX _ _) (fun _=>rfl) (fun v11 gv11 h=>Ab 2 0 (RW.nil ?_))));cases h;exact⟨_,rfl,A4⟩
  refine ws (Ab 2 0 (RW.nil (wc h (fun h=>?_) (fun h=>?_))))
  ·refine ws (Ab 1 0 (Gc h (CX _ _) (fun _=>rfl) (fun v12 gv12 h=>Ab 3 0 (RW.nil (ws (Ab 3 0 (RW.q (D5 Em xD.Store.Vols) (Ab 1 0 (RW.nil (wc h (fun h=>?_) (fun h=>?_)))))))))))
   ·refine Ax (Ab 3 0 (bd h fun x5 gx5 h=>RW.q (Cq Em gx5) (RW.q (DD Em gx5 0 0) (RW.q (CN Em gx5 0) (Ab 2 0 (RW.nil ?_))))));cases h;exact⟨_,rfl,A4⟩
   refine Wp.skip ?_;cases h;exact⟨_,rfl,A4⟩
  refine Wp.skip ?_;cases h;exact⟨_,rfl,A4⟩
 intro j5 h E hE;refine AE hE (ws (Ab 2 0 (RW.nil ?_)));cases h;exact Wp.ret ⟨.inr rfl,r9 (by kernel_rfl)⟩
theorem SY (xD:AM) (r:AM) (h:LC xD=some r):Be Tryz.prog 95 [.sv (.agg [.sl false 77 3 (Ah (Cs false) xD.Flash.Blocks),.sl false 39 2 (Ah CD xD.Store.Vols),.sl false 150 2 (Ah (AN false) xD.Store.Arena.Knots),.int .i64 xD.Store.Next,.int .i64 xD.Seq,.int .i64 xD.Tx,.int .i64 xD.Base])] (.agg [.sl true 77 3 (Ah (Cs true) r.Flash.Blocks),.sl true 39 2 (Ah CD r.Store.Vols),.sl true 150 2 (Ah (AN true) r.Store.Arena.Knots),.int .i64 r.Store.Next,.int .i64 r.Seq,.int .i64 r.Tx,.int .i64 r.Base]) (List.replicate 1 .gone):=by
 unfold LC at h;refine gk Tryz.func95 rfl Tryz.ntmps95 (ws (Ab 2 0 (RW.nil (ws (Ab 2 0 (RW.c 0 h (IP _) (fun v1 gv1 h=>Ab 2 0 (RW.nil (ws (Ab 2 0 (RW.c 0 h (F8 _) (fun v2 gv2 h=>Ab 2 0 (RW.nil ?_)))))))))))));refine ws (Ab 2 0 (RW.nil ?_));cases h;exact Wp.ret ⟨.inr rfl,BJ (by kernel_rfl)⟩
def nB (xA:Arena) (b:Int) (a:Int) (z1:Bool):St:=AG [(1,(I b)),(2,(I a)),(3,(.one (.ptr (.box 3) 0 [] 0))),(20,(B z1))] [(.box 3,[.sl false 150 2 (Ah (AN false) xA.Knots)])]
theorem Zd (xA:Arena) (d:Int) (b:Int) (r:Int) (h:MG xA d b=some r):Be Tryz.prog 33 [.sv (.agg [.sl false 150 2 (Ah (AN false) xA.Knots)]),.sv (I d),.sv (I b)] (I r) (List.replicate 3 .gone):=by
 unfold MG at h;refine gk Tryz.func33 rfl Tryz.ntmps33 (ws (Ab 2 0 (RW.nil (Wp.seq (Wp.seq (B3 h [1,2,3,20] [.box 3] (fun a=>(nB xA d b a)) ?_ ?_))))))
 ·intro a h;refine Ax (Ab 1 0 (RW.c 0 h (MJ _) (fun v1 gv1 h=>Ab 2 0 (Ba 10 h (fun h=>?_) (fun h=>?_)))))
  ·refine Ab 10 0 (RW.nil ?_);cases h;exact⟨_,rfl,A4⟩
  refine Ab 2 0 (RW.c 0 h (KD _ _) (fun v2 gv2 h=>Ab 3 0 (Ba 16 h (fun h=>?_) (fun h=>?_))))
  ·refine Ab 4 0 (RW.nil ?_);cases h;exact⟨_,rfl,A4⟩
  refine Ab 1 0 (RW.c 0 h (BN _ _ _) (fun v3 gv3 h=>Ab 2 0 (RW.nil ?_)));cases h;exact⟨_,rfl,A4⟩
 intro j1 h E hE;refine AE hE (wc h (fun h=>?_) (fun h=>?_))
 ·refine ws (Ab 1 0 (RW.nil ?_));cases h;exact Wp.ret ⟨.inr rfl,BJ (by kernel_rfl)⟩
 refine Wp.skip (ws (Ab 3 0 (RW.c 0 h (Vv _ _ _) (fun v4 gv4 h=>Ab 1 0 (RW.nil ?_)))));cases h;exact Wp.ret ⟨.inr rfl,BJ (by kernel_rfl)⟩
def nK (xA:Arena) (a:Int) (z1:List Int) (z2:Int):St:=AG [(1,(I a)),(2,(.one (.ptr (.box 2) 0 [] 0))),(5,(.one (.sl true 3 1 (Ah c3 z1)))),(6,(I z2))] [(.box 2,[.sl false 150 2 (Ah (AN false) xA.Knots)])]
def nJ (z3:List Int):St:=AG [(5,(.one (.sl true 3 1 (Ah c3 z3))))] []
theorem PI (xA:Arena) (a:Int) (r:List Int) (h:HW xA a=some r):Be Tryz.prog 42 [.sv (.agg [.sl false 150 2 (Ah (AN false) xA.Knots)]),.sv (I a)] (.one (.sl true 3 1 (Ah c3 r))) (List.replicate 2 .gone):=by
 unfold HW at h;refine gk Tryz.func42 rfl Tryz.ntmps42 (ws (Ab 2 0 (RW.nil (ws (Ab 2 2 (RW.nil (Wp.seq (ws (Ab 1 0 (RW.nil (BO h [1,2,5,6] [.box 2] (fun s=>(nK xA a s.1 s.2)) [5] [] (fun s=>(nJ s)) A4 ?_ ?_)))))))))))
 ·rintro⟨b,d⟩ o (h:FZ xA a b d=some o);unfold FZ at h;refine Wp.seq (ws (Ab 2 0 (RW.nil (wc h (fun h=>?_) (fun h=>?_)))))
  ·refine Wp.skip (Wp.seq (Wp.block (Ax (Ab 4 0 (RW.c 0 h (Zd _ _ _) (fun v1 gv1 h=>Ab 1 0 (bd h fun q1 gq1 h=>Dl (EQ k3 (fun _=>rfl) b gq1) (Ab 1 1 (RW.nil (Ax (Ab 3 0 (RW.nil ?_))))))))))));cases h;exact⟨_,rfl,A4⟩
  refine Wp.exit ?_;cases h;exact⟨_,rfl,A4⟩
 intro v2 h E hE;refine AE hE (ws (Ab 2 2 (RW.nil ?_)));cases h;exact Wp.ret ⟨.inr rfl,BJ (by kernel_rfl)⟩
def Sr (xA:List Int) (xB:List Int) (z1:Int):St:=AG [(0,(.one (.sl false 3 1 (Ah c3 xA)))),(1,(.one (.sl false 3 1 (Ah c3 xB)))),(5,(I z1))] []
def Sq:St:=AG [] []
theorem TE (xA:List Int) (xB:List Int) (r:Bool) (h:Iq xA xB=some r):Be Tryz.prog 150 [.sv (.one (.sl false 3 1 (Ah c3 xA))),.sv (.one (.sl false 3 1 (Ah c3 xB)))] (B r) (List.replicate 2 .gone):=by
 unfold Iq at h;refine gk Tryz.func150 rfl Tryz.ntmps150 (ws (Ab 1 0 (RW.nil (Wp.seq (ws (Ab 1 0 (RW.q (D5 k3 xA) (Ab 1 0 (RW.q (D5 k3 xB) (Ab 1 0 (RW.nil (wc h (fun h=>?_) (fun h=>?_)))))))))))))
 ·refine ws (Ab 1 0 (RW.nil ?_));cases h;exact Wp.ret ⟨.inr rfl,BJ (by kernel_rfl)⟩
 refine Wp.skip (Wp.seq (ws (Ab 1 0 (RW.nil (Fk h [0,1,5] [] (fun s=>(Sr xA xB s)) [] [] (fun _=>Sq) A4 ?_ ?_)))))
 ·rintro a o (h:EO xA xB a=some o) hk1;unfold EO at h;refine Wp.seq (ws (Ab 2 0 (RW.q (D5 k3 xA) (Ab 1 0 (RW.nil (wc h (fun h=>?_) (fun h=>?_)))))))
  ·refine Wp.skip (Wp.seq (Wp.block (Wp.seq (M3 mixed (DZ 2 (bd h fun x1 gx1 h=>SW.q (Cq k3 gx1) (SW.q (CN k3 gx1 0) (DZ 2 (bd h fun x2 gx2 h=>SW.q (Cq k3 gx2) (SW.q (CN k3 gx2 0) (DZ 1 ?_)))))))))));refine SW.nil (wc h (fun h=>?_) (fun h=>?_))
   ·refine ws (Ab 1 0 (RW.nil ?_));cases h;replace h:some _=some _:=hk1 _ rfl;cases h;exact Wp.ret ⟨.inr rfl,BJ (by kernel_rfl)⟩
   refine Wp.skip (Ax (Ab 3 0 (RW.nil ?_)));cases h;exact⟨_,rfl,A4⟩
  refine Wp.exit ?_;cases h;exact⟨_,rfl,A4⟩
 intro v1 h E hE;refine AE hE (ws (Ab 1 0 (RW.nil ?_)));cases h;exact Wp.ret ⟨.inr rfl,BJ (by kernel_rfl)⟩
def VB (xA:Store) (xB:Store) (z1:Bool):St:=AG [(2,(.one (.ptr (.box 2) 0 [] 0))),(3,(.one (.ptr (.box 3) 0 [] 0))),(19,(B z1))] [(.box 2,[.sl false 39 2 (Ah CD xA.Vols),.sl false 150 2 (Ah (AN false) xA.Arena.Knots),.int .i64 xA.Next]),(.box 3,[.sl false 39 2 (Ah CD xB.Vols),.sl false 150 2 (Ah (AN false) xB.Arena.Knots),.int .i64 xB.Next])]
def VA (xA:Store) (xB:Store) (z2:Int):St:=AG [(2,(.one (.ptr (.box 2) 0 [] 0))),(3,(.one (.ptr (.box 3) 0 [] 0))),(5,(I z2))] [(.box 2,[.sl false 39 2 (Ah CD xA.Vols),.sl false 150 2 (Ah (AN false) xA.Arena.Knots),.int .i64 xA.Next]),(.box 3,[.sl false 39 2 (Ah CD xB.Vols),.sl false 150 2 (Ah (AN false) xB.Arena.Knots),.int .i64 xB.Next])]
def V9:St:=AG [] []
theorem XJ (xA:Store) (xB:Store) (r:Bool) (h:KG xA xB=some r):Be Tryz.prog 127 [.sv (.agg [.sl false 39 2 (Ah CD xA.Vols),.sl false 150 2 (Ah (AN false) xA.Arena.Knots),.int .i64 xA.Next]),.sv (.agg [.sl false 39 2 (Ah CD xB.Vols),.sl false 150 2 (Ah (AN false) xB.Arena.Knots),.int .i64 xB.Next])] (B r) (List.replicate 2 .gone):=by
 unfold KG at h;refine gk Tryz.func127 rfl Tryz.ntmps127 (ws (Ab 3 0 (RW.nil (Wp.seq (Wp.seq (B3 h [2,3,19] [.box 2,.box 3] (fun a=>(VB xA xB a)) ?_ ?_))))))
 ·intro a h;refine Ax (Ab 2 0 (RW.q (D5 Em xA.Vols) (Ab 2 0 (RW.q (D5 Em xB.Vols) (Ab 2 0 (Ba 13 h (fun h=>?_) (fun h=>?_)))))))
  ·refine Ab 6 0 (RW.nil ?_);cases h;exact⟨_,rfl,A4⟩
  refine Ab 6 0 (RW.nil ?_);cases h;exact⟨_,rfl,A4⟩
 intro j1 h E hE;refine AE hE (wc h (fun h=>?_) (fun h=>?_))
 ·refine ws (Ab 1 0 (RW.nil ?_));cases h;exact Wp.ret ⟨.inr rfl,BJ (by kernel_rfl)⟩
 refine Wp.skip (Wp.seq (ws (Ab 1 0 (RW.nil (Fk h [2,3,5] [.box 2,.box 3] (fun s=>(VA xA xB s)) [] [] (fun _=>V9) A4 ?_ ?_)))))
 ·rintro b o (h:Gq xA xB b=some o) hk1;unfold Gq at h;refine Wp.seq (ws (Ab 3 0 (RW.q (D5 Em xA.Vols) (Ab 1 0 (RW.nil (wc h (fun h=>?_) (fun h=>?_)))))))
  ·refine Wp.skip (Wp.seq (Wp.block (Wp.seq (EL [] mixed (fun c E h=>by rcases h with⟨h|h,_⟩<;>cases h) (AD [0,1,2] 0 (bd h fun x1 gx1 h=>KW.q 3 (Cq Em gx1) (KW.q 4 (DD Em gx1 0 0) (KW.q 5 (CN Em gx1 0) (AD [6,7,8] 0 (bd h fun x2 gx2 h=>KW.q 9 (Cq Em gx2) (KW.q 10 (DD Em gx2 0 0) ?_)))))))))));refine KW.q 11 (CN Em gx2 0) (AD [12,13] 0 (Xb 40 h (fun h=>?_) (fun h=>?_)))
   ·refine AD [14,15,16,17,18,19,20,21,23,24,25,26,27,28,29,30,22,31,32,33,34] 0 (Ap (wt (ws (Ab 1 0 (RW.nil ?_)))));cases h;replace h:some _=some _:=hk1 _ rfl;cases h;exact Wp.ret ⟨.inr rfl,BJ (by kernel_rfl)⟩
   refine AD [14,15,16,17,18] 0 (bd h fun x3 gx3 h=>KW.q 19 (Cq Em gx3) (KW.q 20 (DD Em gx3 0 1) (KW.q 21 (CN Em gx3 1) (AD [23,24,25,26,27] 0 (bd h fun x4 gx4 h=>KW.q 28 (Cq Em gx4) (KW.q 29 (DD Em gx4 0 1) (KW.q 30 (CN Em gx4 1) (BT 22 (KB.c 0 h (PI _ _) (fun v1 gv1 h=>BT 31 (KB.c 0 h (PI _ _) (fun v2 gv2 h=>?_))))))))))));refine BT 32 (KB.c 0 h (gs (ca (co (cs (fZ _))) (ca (co (cs (fZ _))) rfl)) (TE _ _)) (fun v3 gv3 h=>AD [33,34] 0 (Ap (wc h (fun h=>?_) (fun h=>?_)))) (hc:=(.inr (fun v=>rfl))))
   ·refine ws (Ab 1 0 (RW.nil ?_));cases h;replace h:some _=some _:=hk1 _ rfl;cases h;exact Wp.ret ⟨.inr rfl,BJ (by kernel_rfl)⟩
   refine Wp.skip (Ax (Ab 3 0 (RW.nil ?_)));cases h;exact⟨_,rfl,A4⟩
  refine Wp.exit ?_;cases h;exact⟨_,rfl,A4⟩
 intro v4 h E hE;refine AE hE (ws (Ab 1 0 (RW.nil ?_)));cases h;exact Wp.ret ⟨.inr rfl,BJ (by kernel_rfl)⟩
theorem cW (xD:AM) (r:Bool) (h:Mk xD=some r):Be Tryz.prog 96 [.sv (.agg [.sl false 77 3 (Ah (Cs false) xD.Flash.Blocks),.sl false 39 2 (Ah CD xD.Store.Vols),.sl false 150 2 (Ah (AN false) xD.Store.Arena.Knots),.int .i64 xD.Store.Next,.int .i64 xD.Seq,.int .i64 xD.Tx,.int .i64 xD.Base])] (B r) (List.replicate 1 .gone):=by
 unfold Mk at h;refine gk Tryz.func96 rfl Tryz.ntmps96 (ws (Ab 2 0 (RW.nil (ws (Ab 2 0 (RW.c 0 h (NZ _) (fun v1 gv1 h=>Ab 6 1 (RW.nil (ws (Ab 2 0 (Ba 12 h (fun h=>?_) (fun h=>?_))))))))))))
 ·refine Ab 4 0 (RW.c 0 h (gs (ca (fO (ca (cs (Fx _)) (ca (cs (Dj _)) rfl))) rfl) (XJ _ _)) (fun v2 gv2 h=>Ab 2 0 (Ba 19 h (fun h=>?_) (fun h=>?_))) (hc:=(.inr (fun v=>rfl))))
  ·refine Ab 7 0 (Ba 26 h (fun h=>?_) (fun h=>?_))
   ·refine Ab 7 0 (Ba 33 h (fun h=>?_) (fun h=>?_))
    ·refine Ab 7 0 (Ba 40 h (fun h=>?_) (fun h=>?_))
     ·refine Ab 2 0 (RW.c 0 h (Tf _) (fun v3 gv3 h=>Ab 2 0 (RW.nil ?_)));cases h;exact Wp.ret ⟨.inr rfl,BJ (by kernel_rfl)⟩
     refine Ab 5 0 (RW.nil ?_);cases h;exact Wp.ret ⟨.inr rfl,BJ (by kernel_rfl)⟩
    refine Ab 12 0 (RW.nil ?_);cases h;exact Wp.ret ⟨.inr rfl,BJ (by kernel_rfl)⟩
   refine Ab 19 0 (RW.nil ?_);cases h;exact Wp.ret ⟨.inr rfl,BJ (by kernel_rfl)⟩
  refine Ab 26 0 (RW.nil ?_);cases h;exact Wp.ret ⟨.inr rfl,BJ (by kernel_rfl)⟩
 refine Ab 33 0 (RW.nil ?_);cases h;exact Wp.ret ⟨.inr rfl,BJ (by kernel_rfl)⟩
def nI (xQ:Xe) (z1:Bool):St:=AG [(1,(.one (.ptr (.box 1) 0 [] 0))),(28,(B z1))] [(.box 1,[.int .i64 xQ.Kind,.int .i64 xQ.Vol,.int .i64 xQ.Sector,.int .i64 xQ.Of,.str xQ.Text])]
def nH (z2:Bool):St:=AG [(2,(B z2))] []
def nG (xQ:Xe) (z3:Bool):St:=AG [(1,(.one (.ptr (.box 1) 0 [] 0))),(50,(B z3))] [(.box 1,[.int .i64 xQ.Kind,.int .i64 xQ.Vol,.int .i64 xQ.Sector,.int .i64 xQ.Of,.str xQ.Text])]
theorem r6 (xQ:Xe) (r:Bool) (h:Rt xQ=some r):Be Tryz.prog 54 [.sv (.agg [.int .i64 xQ.Kind,.int .i64 xQ.Vol,.int .i64 xQ.Sector,.int .i64 xQ.Of,.str xQ.Text])] (B r) (List.replicate 1 .gone):=by
 unfold Rt at h;refine gk Tryz.func54 rfl Tryz.ntmps54 (ws (Ab 2 0 (RW.nil (Wp.seq (Wp.seq (B3 h [1,28] [.box 1] (fun a=>(nI xQ a)) ?_ ?_))))))
 ·intro a h;refine Ax (Ab 2 0 (RW.c 0 h (BN _ _ _) (fun v1 gv1 h=>Ab 2 0 (Ba 7 h (fun h=>?_) (fun h=>?_)))))
  ·refine Ab 21 0 (RW.nil ?_);cases h;exact⟨_,rfl,A4⟩
  refine Ab 2 0 (RW.c 0 h (BN _ _ _) (fun v2 gv2 h=>Ab 3 0 (Ba 13 h (fun h=>?_) (fun h=>?_))))
  ·refine Ab 15 0 (RW.nil ?_);cases h;exact⟨_,rfl,A4⟩
  refine Ab 6 0 (Ba 19 h (fun h=>?_) (fun h=>?_))
  ·refine Ab 9 0 (RW.nil ?_);cases h;exact⟨_,rfl,A4⟩
  refine Ab 4 0 (Ba 23 h (fun h=>?_) (fun h=>?_))
  ·refine Ab 5 0 (RW.nil ?_);cases h;exact⟨_,rfl,A4⟩
  refine Ab 5 0 (RW.nil ?_);cases h;exact⟨_,rfl,A4⟩
 intro j1 h E hE;refine AE hE (wc h (fun h=>?_) (fun h=>?_))
 ·refine ws (Ab 1 0 (RW.nil ?_));cases h;exact Wp.ret ⟨.inr rfl,BJ (by kernel_rfl)⟩
 refine Wp.skip (Wp.seq (ws (Ab 3 0 (RW.nil (wc h (fun h=>?_) (fun h=>?_))))))
 ·refine Wp.seq (B3 h [2] [] (fun a=>(nH a)) ?_ ?_)
  ·intro a h;refine Ax (Ab 4 0 (Ba 35 h (fun h=>?_) (fun h=>?_)))
   ·refine Ab 2 0 (RW.c 0 h (BN _ _ _) (fun v3 gv3 h=>Ab 2 0 (RW.nil ?_)));cases h;exact⟨_,rfl,A4⟩
   refine Ab 5 0 (RW.nil ?_);cases h;exact⟨_,rfl,A4⟩
  intro j2 h E hE;refine AE hE ?_;cases h;exact Wp.ret ⟨.inr rfl,BJ (by kernel_rfl)⟩
 refine Wp.skip (Wp.seq (ws (Ab 3 0 (RW.nil (wc h (fun h=>?_) (fun h=>?_))))))
 ·refine ws (Ab 1 0 (RW.nil ?_));cases h;exact Wp.ret ⟨.inr rfl,BJ (by kernel_rfl)⟩
 refine Wp.skip (Wp.seq (Wp.seq (B3 h [1,50] [.box 1] (fun a=>(nG xQ a)) ?_ ?_)))
 ·intro a h;refine Ax (Ab 4 0 (Ba 46 h (fun h=>?_) (fun h=>?_)))
  ·refine Ab 4 0 (RW.nil ?_);cases h;exact⟨_,rfl,A4⟩
  refine Ab 4 0 (RW.nil ?_);cases h;exact⟨_,rfl,A4⟩
 intro j3 h E hE;refine AE hE (wc h (fun h=>?_) (fun h=>?_))
 ·refine ws (Ab 4 0 (RW.nil ?_));cases h;exact Wp.ret ⟨.inr rfl,BJ (by kernel_rfl)⟩
 refine Wp.skip (ws (Ab 2 0 (RW.c 0 h (BN _ _ _) (fun v4 gv4 h=>Ab 1 0 (RW.nil ?_)))));cases h;exact Wp.ret ⟨.inr rfl,BJ (by kernel_rfl)⟩
def Vu (a:List Int) (xX:Int) (z1:List Int) (z2:Int):St:=AG [(0,(.one (.sl false 3 1 (Ah c3 a)))),(1,(I xX)),(5,(.one (.sl true 3 1 (Ah c3 z1)))),(6,(I z2))] []
def Vt (a:List Int) (xX:Int) (z3:List Int):St:=AG [(0,(.one (.sl false 3 1 (Ah c3 a)))),(1,(I xX)),(5,(.one (.sl true 3 1 (Ah c3 z3))))] []
def Vr (a:List Int) (xX:Int) (z4:List Int):St:=AG [(0,(.one (.sl false 3 1 (Ah c3 a)))),(1,(I xX)),(5,(.one (.sl true 3 1 (Ah c3 z4))))] []
def Vq (a:List Int) (xX:Int) (z5:List Int) (z6:Int):St:=AG [(0,(.one (.sl false 3 1 (Ah c3 a)))),(1,(I xX)),(5,(.one (.sl true 3 1 (Ah c3 z5)))),(7,(I z6))] []
def Vp (z7:List Int):St:=AG [(5,(.one (.sl true 3 1 (Ah c3 z7))))] []
theorem Xy (b:List Int) (xX:Int) (r:List Int) (h:KC b xX=some r):Be Tryz.prog 43 [.sv (.one (.sl false 3 1 (Ah c3 b))),.sv (I xX)] (.one (.sl true 3 1 (Ah c3 r))) (List.replicate 2 .gone):=by
 unfold KC at h;refine gk Tryz.func43 rfl Tryz.ntmps43 (ws (Ab 1 0 (RW.nil (ws (Ab 2 2 (RW.nil (Wp.seq (ws (Ab 1 0 (RW.nil (BO h [0,1,5,6] [] (fun s=>(Vu b xX s.1 s.2)) [0,1,5] [] (fun s=>(Vt b xX s)) A4 ?_ ?_)))))))))))
 ·rintro⟨c,e⟩ o (h:Gl b xX c e=some o);unfold Gl at h;refine Wp.seq (ws (Ab 2 0 (RW.q (D5 k3 b) (Ab 1 0 (RW.nil (wc h (fun h=>?_) (fun h=>?_)))))))
  ·refine Wp.skip (Wp.seq (Wp.block (ws (Ab 2 0 (bd h fun x1 gx1 h=>RW.q (Cq k3 gx1) (RW.q (CN k3 gx1 0) (Ab 2 0 (RW.nil (wc h (fun h=>?_) (fun h=>?_))))))))))
   ·refine Ax (Ab 3 0 (bd h fun x2 gx2 h=>RW.q (Cq k3 gx2) (RW.q (CN k3 gx2 0) (Ab 1 0 (bd h fun q1 gq1 h=>Dl (EQ k3 (fun _=>rfl) c gq1) (Ab 1 1 (RW.nil (Ax (Ab 3 0 (RW.nil ?_))))))))));cases h;exact⟨_,rfl,A4⟩
   refine Wp.skip (Ax (Ab 3 0 (RW.nil ?_)));cases h;exact⟨_,rfl,A4⟩
  refine Wp.exit ?_;cases h;exact⟨_,rfl,A4⟩
 intro v1 h E hE;refine AE hE (Wp.seq (ws (Ab 2 0 (RW.nil (B3 h [0,1,5] [] (fun a=>(Vr b xX a)) ?_ ?_)))))
 ·intro a h;refine wc h (fun h=>?_) (fun h=>?_)
  ·refine Ax (Ab 3 0 (bd h fun q2 gq2 h=>Dl (EQ k3 (fun _=>rfl) v1 gq2) (Ab 1 1 (RW.nil ?_))));cases h;exact⟨_,rfl,A4⟩
  refine Wp.skip ?_;cases h;exact⟨_,rfl,A4⟩
 intro j1 h E hE;refine AE hE (Wp.seq (ws (Ab 1 0 (RW.nil (BO h [0,1,5,7] [] (fun s=>(Vq b xX s.1 s.2)) [5] [] (fun s=>(Vp s)) A4 ?_ ?_)))))
 ·rintro⟨d,f⟩ o (h:EU b xX d f=some o);unfold EU at h;refine Wp.seq (ws (Ab 2 0 (RW.q (D5 k3 b) (Ab 1 0 (RW.nil (wc h (fun h=>?_) (fun h=>?_)))))))
  ·refine Wp.skip (Wp.seq (Wp.block (ws (Ab 2 0 (bd h fun x3 gx3 h=>RW.q (Cq k3 gx3) (RW.q (CN k3 gx3 0) (Ab 2 0 (RW.nil (wc h (fun h=>?_) (fun h=>?_))))))))))
   ·refine Ax (Ab 3 0 (bd h fun x4 gx4 h=>RW.q (Cq k3 gx4) (RW.q (CN k3 gx4 0) (Ab 1 0 (bd h fun q3 gq3 h=>Dl (EQ k3 (fun _=>rfl) d gq3) (Ab 1 1 (RW.nil (Ax (Ab 3 0 (RW.nil ?_))))))))));cases h;exact⟨_,rfl,A4⟩
   refine Wp.skip (Ax (Ab 3 0 (RW.nil ?_)));cases h;exact⟨_,rfl,A4⟩
  refine Wp.exit ?_;cases h;exact⟨_,rfl,A4⟩
 intro v2 h E hE;refine AE hE (ws (Ab 2 2 (RW.nil ?_)));cases h;exact Wp.ret ⟨.inr rfl,BJ (by kernel_rfl)⟩
def iK (xS:Store) (z1:List Int) (z2:Int):St:=AG [(1,(.one (.ptr (.box 1) 0 [] 0))),(3,(.one (.sl true 3 1 (Ah c3 z1)))),(4,(I z2))] [(.box 1,[.sl false 39 2 (Ah CD xS.Vols),.sl false 150 2 (Ah (AN false) xS.Arena.Knots),.int .i64 xS.Next])]
def iJ (z3:List Int):St:=AG [(3,(.one (.sl true 3 1 (Ah c3 z3))))] []
def iI (xS:Store) (a:Int) (v1:List Int) (z4:List Int) (z5:Int):St:=AG [(1,(.one (.ptr (.box 1) 0 [] 0))),(3,(.one (.sl true 3 1 (Ah c3 z4)))),(4,(I a)),(5,(.one (.sl true 3 1 (Ah c3 v1)))),(6,(I z5))] [(.box 1,[.sl false 39 2 (Ah CD xS.Vols),.sl false 150 2 (Ah (AN false) xS.Arena.Knots),.int .i64 xS.Next])]
def iH (xS:Store) (a:Int) (z6:List Int):St:=AG [(1,(.one (.ptr (.box 1) 0 [] 0))),(3,(.one (.sl true 3 1 (Ah c3 z6)))),(4,(I a))] [(.box 1,[.sl false 39 2 (Ah CD xS.Vols),.sl false 150 2 (Ah (AN false) xS.Arena.Knots),.int .i64 xS.Next])]
theorem JZ (xS:Store) (r:List Int) (h:GP xS=some r):Be Tryz.prog 17 [.sv (.agg [.sl false 39 2 (Ah CD xS.Vols),.sl false 150 2 (Ah (AN false) xS.Arena.Knots),.int .i64 xS.Next])] (.one (.sl true 3 1 (Ah c3 r))) (List.replicate 1 .gone):=by
 unfold GP at h;refine gk Tryz.func17 rfl Tryz.ntmps17 (ws (Ab 2 0 (RW.nil (ws (Ab 2 2 (RW.nil (Wp.seq (ws (Ab 1 0 (RW.nil (BO h [1,3,4] [.box 1] (fun s=>(iK xS s.1 s.2)) [3] [] (fun s=>(iJ s)) A4 ?_ ?_)))))))))))
 ·rintro⟨a,b⟩ o (h:IV xS a b=some o);unfold IV at h;refine Wp.seq (ws (Ab 3 0 (RW.q (D5 Em xS.Vols) (Ab 1 0 (RW.nil (wc h (fun h=>?_) (fun h=>?_)))))))
  ·refine Wp.skip (Wp.seq (Wp.block (Wp.seq (T7 8 mixed (DZ 5 (bd h fun x1 gx1 h=>SW.q (Cq Em gx1) (SW.q (DD Em gx1 0 1) (SW.q (CN Em gx1 1) (SW.nil (RW.c 0 h (PI _ _) (fun v1 gv1 h=>Ab 1 1 (RW.nil ?_))))))))))));refine ws (Ab 1 0 (RW.nil (BO h [1,3,4,5,6] [.box 1] (fun s=>(iI xS b v1 s.1 s.2)) [1,3,4] [.box 1] (fun s=>(iH xS b s)) A4 ?_ ?_)))
   ·rintro⟨d,e⟩ o (h:IU v1 d e=some o);unfold IU at h;refine Wp.seq (ws (Ab 2 0 (RW.q (D5 k3 v1) (Ab 1 0 (RW.nil (wc h (fun h=>?_) (fun h=>?_)))))))
    ·refine Wp.skip (Wp.seq (Wp.block (Ax (Ab 3 0 (bd h fun x2 gx2 h=>RW.q (Cq k3 gx2) (RW.q (CN k3 gx2 0) (RW.c 0 h (gs (ca (co (cs (fZ _))) rfl) (Xy _ _)) (fun v2 gv2 h=>Ab 1 1 (RW.nil (Ax (Ab 3 0 (RW.nil ?_))))) (hc:=(.inr (fun v=>by simp [BE,BL,AR,BB,ns3]))))))))));cases h;exact⟨_,rfl,A4⟩
    refine Wp.exit ?_;cases h;exact⟨_,rfl,A4⟩
   intro v3 h E hE;refine AE hE (Ax (Ab 3 0 (RW.nil ?_)));cases h;exact⟨_,rfl,A4⟩
  refine Wp.exit ?_;cases h;exact⟨_,rfl,A4⟩
 intro v4 h E hE;refine AE hE (ws (Ab 2 2 (RW.nil ?_)));cases h;exact Wp.ret ⟨.inr rfl,BJ (by kernel_rfl)⟩
def Ve (b:List Aq) (a:Int) (z1:Int):St:=AG [(0,(.one (.sl false 54 8 (Ah Gb b)))),(1,(I a)),(4,(.one (.ptr (.box 4) 0 [] 0))),(6,(I z1))] [(.box 4,[.int .i64 0,.int .i64 0,.int .i64 0,.int .i64 0,.int .i64 0,.int .i64 0,.int .i64 0,.str (bs [])])]
def Vd:St:=AG [(4,(.one (.ptr (.box 4) 0 [] 0)))] [(.box 4,[.int .i64 0,.int .i64 0,.int .i64 0,.int .i64 0,.int .i64 0,.int .i64 0,.int .i64 0,.str (bs [])])]
def Vc (b:List Aq) (a:Int) (c:Int) (z2:Bool):St:=AG [(0,(.one (.sl false 54 8 (Ah Gb b)))),(1,(I a)),(4,(.one (.ptr (.box 4) 0 [] 0))),(6,(I c)),(30,(B z2))] [(.box 4,[.int .i64 0,.int .i64 0,.int .i64 0,.int .i64 0,.int .i64 0,.int .i64 0,.int .i64 0,.str (bs [])])]
theorem Xp (c:List Aq) (b:Int) (r:Aq×Bool) (h:IL c b=some r):Be Tryz.prog 65 [.sv (.one (.sl false 54 8 (Ah Gb c))),.sv (I b)] (.tup [(.agg [.int .i64 r.1.Block,.int .i64 r.1.Leaf,.int .i64 r.1.Page.Kind,.int .i64 r.1.Page.Seq,.int .i64 r.1.Page.Tx,.int .i64 r.1.Page.Part,.int .i64 r.1.Page.Count,.str r.1.Page.Text]),(B r.2)]) (List.replicate 2 .gone):=by
 unfold IL at h;refine gk Tryz.func65 rfl Tryz.ntmps65 (ws (Ab 2 0 (RW.nil (Wp.seq (ws (Ab 1 0 (RW.q (D5 DY c) (Ab 2 0 (RW.nil (Fk h [0,1,4,6] [.box 4] (fun s=>(Ve c b s)) [4] [.box 4] (fun _=>Vd) A4 ?_ ?_))))))))))
 ·rintro d o (h:Gi c b d=some o) hk1;unfold Gi at h;refine Wp.seq (ws (Ab 2 0 (RW.nil (wc h (fun h=>?_) (fun h=>?_)))))
  ·refine Wp.skip (Wp.seq (Wp.block (Wp.seq (B3 h [0,1,4,6,30] [.box 4] (fun a=>(Vc c b d a)) ?_ ?_))))
   ·intro a h;refine Ax (Ab 2 0 (bd h fun x1 gx1 h=>RW.q (Cq DY gx1) (RW.q (DD DY gx1 0 2) (RW.q (DD DY gx1 2 2) (RW.q (CN DY gx1 2) (Ab 2 0 (Ba 21 h (fun h=>?_) (fun h=>?_))))))))
    ·refine Ab 2 0 (bd h fun x2 gx2 h=>RW.q (Cq DY gx2) (RW.q (DD DY gx2 0 2) (RW.q (DD DY gx2 2 4) (RW.q (CN DY gx2 4) (Ab 3 0 (RW.nil ?_))))));cases h;exact⟨_,rfl,A4⟩
    refine Ab 9 0 (RW.nil ?_);cases h;exact⟨_,rfl,A4⟩
   intro j1 h E hE;refine AE hE (wc h (fun h=>?_) (fun h=>?_))
   ·refine ws (Ab 2 0 (bd h fun x3 gx3 h=>RW.q (Cq DY gx3) (RW.q (Si DY gx3 0 8) (Ab 2 0 (RW.nil ?_)))));cases h;replace h:some _=some _:=hk1 _ rfl;cases h;exact Wp.ret ⟨.inr rfl,BJ (by kernel_rfl)⟩
   refine Wp.skip (Ax (Ab 3 0 (RW.nil ?_)));cases h;exact⟨_,rfl,A4⟩
  refine Wp.exit ?_;cases h;exact⟨_,rfl,A4⟩
 intro v1 h E hE;refine AE hE (ws (Ab 3 0 (RW.nil ?_)));cases h;exact Wp.ret ⟨.inr rfl,BJ (by kernel_rfl)⟩
def Nj (x:Bf):List TV:=[.int .i64 x.Back,.int .i64 x.Size,.str x.Text]
theorem Mw:∀x,(Nj x).length=3:=fun _=>rfl
theorem ABP:∀l,BG (Ah Nj l)=Ah Nj l:=D6 (fun _=>rfl)
def Vx (xT:ByteArray) (z1:List Bf) (z2:Int):St:=AG [(0,(Y xT)),(4,(.one (.sl true 131 3 (Ah Nj z1)))),(5,(I z2))] []
def Vw (z3:List Bf):St:=AG [(4,(.one (.sl true 131 3 (Ah Nj z3))))] []
theorem Xz (xT:ByteArray) (r:List Bf×Bool) (h:H1 xT=some r):Be Tryz.prog 105 [.sv (Y xT)] (.tup [(.one (.sl true 131 3 (Ah Nj r.1))),(B r.2)]) (List.replicate 1 .gone):=by
 unfold H1 at h;refine gk Tryz.func105 rfl Tryz.ntmps105 (ws (Ab 2 0 (RW.nil (ws (Ab 2 2 (RW.nil (ws (Ab 1 0 (RW.nil (Wp.seq (Fk h [0,4,5] [] (fun s=>(Vx xT s.1 s.2)) [4] [] (fun s=>(Vw s)) A4 ?_ ?_)))))))))))
 ·rintro⟨a,b⟩ o (h:BU xT a b=some o) hk1;unfold BU at h;refine Wp.seq (ws (Ab 4 0 (RW.nil (wc h (fun h=>?_) (fun h=>?_)))))
  ·refine Wp.skip (Wp.block (ws (Ab 2 0 (bd h fun x1 gx1 h=>RW.q (sH gx1) (Ab 2 0 (RW.nil (Wp.seq (ws (Ab 2 0 (RW.nil (wc h (fun h=>?_) (fun h=>?_))))))))))))
   ·refine Wp.seq (ws (Ab 5 0 (RW.nil (wc h (fun h=>?_) (fun h=>?_)))))
    ·refine ws (Ab 3 2 (RW.nil ?_));cases h;replace h:some _=some _:=hk1 _ rfl;cases h;exact Wp.ret ⟨.inr rfl,BJ (by kernel_rfl)⟩
    refine Wp.skip (ws (Ab 4 0 (bd h fun x2 gx2 h=>RW.q (sH gx2) (Ab 5 0 (bd h fun q1 gq1 h=>Dl (EQ Mw (fun _=>rfl) a gq1) (Ab 1 1 (RW.nil (ws (Ab 3 0 (RW.nil (Wp.exit ?_)))))))))));cases h;exact⟨_,rfl,A4⟩
   refine Wp.skip (Wp.seq (ws (Ab 7 0 (RW.nil (wc h (fun h=>?_) (fun h=>?_))))))
   ·refine ws (Ab 3 2 (RW.nil ?_));cases h;replace h:some _=some _:=hk1 _ rfl;cases h;exact Wp.ret ⟨.inr rfl,BJ (by kernel_rfl)⟩
   refine Wp.skip (ws (Ab 8 0 (bd h fun x3 gx3 h=>RW.q (Un gx3) (Ab 2 0 (bd h fun q2 gq2 h=>Dl (EQ Mw (fun _=>rfl) a gq2) (Ab 1 1 (RW.nil (Ax (Ab 5 0 (RW.nil ?_))))))))));cases h;exact⟨_,rfl,A4⟩
  refine Wp.exit ?_;cases h;exact⟨_,rfl,A4⟩
 intro v1 h E hE;refine AE hE (ws (Ab 3 2 (RW.nil ?_)));cases h;exact Wp.ret ⟨.inr rfl,BJ (by kernel_rfl)⟩
def cD (a:List Bf) (z1:List Int) (z2:Int):St:=AG [(0,(.one (.sl false 131 3 (Ah Nj a)))),(4,(.one (.sl true 5 1 (Ah c5 z1)))),(5,(I z2))] []
def cC (z3:List Int):St:=AG [(4,(.one (.sl true 5 1 (Ah c5 z3))))] []
def cB (a:List Bf) (b:Int) (z4:List Int):St:=AG [(0,(.one (.sl false 131 3 (Ah Nj a)))),(4,(.one (.sl true 5 1 (Ah c5 z4)))),(5,(I b))] []
def cA (a:List Bf) (b:List Int) (c:Int) (x1:Bf) (z5:Bool):St:=AG [(0,(.one (.sl false 131 3 (Ah Nj a)))),(4,(.one (.sl true 5 1 (Ah c5 b)))),(5,(I c)),(6,(.one (.ptr (.box 6) 0 [] 0))),(32,(B z5))] [(.box 6,[.int .i64 x1.Back,.int .i64 x1.Size,.str x1.Text])]
def b9 (a:List Bf) (b:List Int) (c:Int) (x1:Bf) (z6:Bool):St:=AG [(0,(.one (.sl false 131 3 (Ah Nj a)))),(4,(.one (.sl true 5 1 (Ah c5 b)))),(5,(I c)),(6,(.one (.ptr (.box 6) 0 [] 0))),(54,(B z6))] [(.box 6,[.int .i64 x1.Back,.int .i64 x1.Size,.str x1.Text])]
def bZ (a:List Bf) (b:Int) (x1:Bf) (z7:List Int) (z8:Int):St:=AG [(0,(.one (.sl false 131 3 (Ah Nj a)))),(4,(.one (.sl true 5 1 (Ah c5 z7)))),(5,(I b)),(6,(.one (.ptr (.box 6) 0 [] 0))),(7,(I z8))] [(.box 6,[.int .i64 x1.Back,.int .i64 x1.Size,.str x1.Text])]
def bY (a:List Bf) (b:Int) (z9:List Int):St:=AG [(0,(.one (.sl false 131 3 (Ah Nj a)))),(4,(.one (.sl true 5 1 (Ah c5 z9)))),(5,(I b))] []
theorem iD (d:List Bf) (r:ByteArray×Bool) (h:EP d=some r):Be Tryz.prog 106 [.sv (.one (.sl false 131 3 (Ah Nj d)))] (.tup [(Y r.1),(B r.2)]) (List.replicate 1 .gone):=by
 unfold EP at h;refine gk Tryz.func106 rfl Tryz.ntmps106 (ws (Ab 2 0 (RW.nil (ws (Ab 2 2 (RW.nil (Wp.seq (ws (Ab 1 0 (RW.nil (Fk h [0,4,5] [] (fun s=>(cD d s.1 s.2)) [4] [] (fun s=>(cC s)) A4 ?_ ?_)))))))))))
 ·rintro⟨e,i⟩ o (h:Dy d e i=some o) hk1;unfold Dy at h;refine Wp.seq (ws (Ab 2 0 (RW.q (D5 Mw d) (Ab 1 0 (RW.nil (wc h (fun h=>?_) (fun h=>?_)))))))
  ·refine Wp.skip (Wp.seq (Wp.block (ws (Ab 2 0 (bd h fun x1 gx1 h=>RW.q (Cq Mw gx1) (RW.q (Si Mw gx1 0 3) (Ab 2 0 (RW.nil (Wp.seq (ws (Ab 3 0 (RW.nil ?_))))))))))));refine yK h [0,4,5] [] (fun a=>(cB d i a)) ?_ ?_
   ·intro a h j;refine wc h (fun h=>?_) (fun h=>?_)
    ·refine Wp.seq (Wp.seq (B3 h [0,4,5,6,32] [.box 6] (fun a=>(cA d e i x1 a)) ?_ ?_))
     ·intro a h;refine Ax (Ab 3 0 (RW.c 0 h (BN _ _ _) (fun v1 gv1 h=>Ab 2 0 (Ba 28 h (fun h=>?_) (fun h=>?_)))))
      ·refine Ab 4 0 (RW.nil ?_);cases h;exact⟨_,rfl,A4⟩
      refine Ab 4 0 (RW.nil ?_);cases h;exact⟨_,rfl,A4⟩
     intro j2 h E hE;refine AE hE (wc h (fun h=>?_) (fun h=>?_))
     ·refine ws (Ab 2 0 (RW.nil ?_));cases h;replace h:some _=some _:=j;cases h;replace h:some _=some _:=hk1 _ rfl;cases h;exact Wp.ret ⟨.inr rfl,BJ (by kernel_rfl)⟩
     refine Wp.skip (Ax (Ab 3 0 (Dl (fsb (f:=c5) (b:=x1.Text) (fun _=>rfl) (by kernel_rfl)) (bd h fun q1 gq1 h=>Dl (EQ k5 (fun _=>rfl) e gq1) (Ab 1 1 (RW.nil ?_))))));cases h;exact⟨_,rfl,A4⟩
    refine Wp.seq (Wp.seq (B3 h [0,4,5,6,54] [.box 6] (fun a=>(b9 d e i x1 a)) ?_ ?_))
    ·intro a h;refine Ax (Ab 3 0 (RW.q (D5 k5 e) (RW.c 0 h (BN _ _ _) (fun v2 gv2 h=>Ab 2 0 (Ba 44 h (fun h=>?_) (fun h=>?_))))))
     ·refine Ab 10 0 (RW.nil ?_);cases h;exact⟨_,rfl,A4⟩
     refine Ab 2 0 (RW.c 0 h (BN _ _ _) (fun v3 gv3 h=>Ab 3 0 (Ba 50 h (fun h=>?_) (fun h=>?_))))
     ·refine Ab 4 0 (RW.nil ?_);cases h;exact⟨_,rfl,A4⟩
     refine Ab 4 0 (RW.nil ?_);cases h;exact⟨_,rfl,A4⟩
    intro j3 h E hE;refine AE hE (wc h (fun h=>?_) (fun h=>?_))
    ·refine ws (Ab 2 0 (RW.nil ?_));cases h;replace h:some _=some _:=j;cases h;replace h:some _=some _:=hk1 _ rfl;cases h;exact Wp.ret ⟨.inr rfl,BJ (by kernel_rfl)⟩
    refine Wp.skip (ws (Ab 1 0 (RW.nil (BO h [0,4,5,6,7] [.box 6] (fun s=>(bZ d i x1 s.1 s.2)) [0,4,5] [] (fun s=>(bY d i s)) A4 ?_ ?_))))
    ·rintro⟨g,k⟩ o (h:Dx x1 g k=some o);unfold Dx at h;refine Wp.seq (ws (Ab 4 0 (RW.nil (wc h (fun h=>?_) (fun h=>?_)))))
     ·refine Wp.skip (Wp.seq (Wp.block (ws (Ab 2 0 (RW.q (D5 k5 g) (Ab 3 0 (bd h fun x2 gx2 h=>RW.q (Cq k5 gx2) (RW.q (CN k5 gx2 0) (Ab 1 0 (RW.nil (Ax (Ab 3 0 ?_))))))))))))
      refine bd h fun q2 gq2 h=>Dl (EQ k5 (fun _=>rfl) g gq2) (Ab 1 1 (RW.nil (Ax (Ab 3 0 (RW.nil ?_)))))
      cases h;exact⟨_,rfl,A4⟩
     refine Wp.exit ?_;cases h;exact⟨_,rfl,A4⟩
    intro v4 h E hE;cases h;exact⟨_,rfl,hE⟩
   intro j1 h E hE;refine AE hE (ws (Ab 1 0 (RW.q (D5 k5 j1) (Ab 1 0 (RW.nil (wc h (fun h=>?_) (fun h=>?_)))))))
   ·refine ws (Ab 2 0 (RW.nil ?_));cases h;replace h:some _=some _:=hk1 _ rfl;cases h;exact Wp.ret ⟨.inr rfl,BJ (by kernel_rfl)⟩
   refine Wp.skip (Ax (Ab 3 0 (RW.nil ?_)));cases h;exact⟨_,rfl,A4⟩
  refine Wp.exit ?_;cases h;exact⟨_,rfl,A4⟩
 intro v5 h E hE;refine AE hE (ws (Ab 1 0 (RW.q (pcv (f:=c5) (fun _=>rfl) v5) (Ab 2 0 (RW.nil ?_)))));cases h;exact Wp.ret ⟨.inr rfl,BJ (by kernel_rfl)⟩
def X3 (xS:ByteArray) (a:Int) (b:Int) (z1:Int):St:=AG [(0,(Y xS)),(1,(I a)),(2,(I b)),(7,(I z1))] []
def X2 (z2:Int):St:=AG [(7,(I z2))] []
def X1 (xS:ByteArray) (a:Int) (b:Int) (c:Int) (z3:Bool):St:=AG [(0,(Y xS)),(1,(I a)),(2,(I b)),(7,(I c)),(30,(B z3))] []
theorem aK (xS:ByteArray) (b:Int) (c:Int) (r:Int) (h:JX xS b c=some r):Be Tryz.prog 119 [.sv (Y xS),.sv (I b),.sv (I c)] (I r) (List.replicate 3 .gone):=by
 unfold JX at h;refine gk Tryz.func119 rfl Tryz.ntmps119 (ws (Ab 1 0 (RW.nil (ws (Ab 1 0 (RW.nil (Wp.seq (BO h [0,1,2,7] [] (fun s=>(X3 xS b c s)) [7] [] (fun s=>(X2 s)) A4 ?_ ?_))))))))
 ·rintro d o (h:FQ xS b c d=some o);unfold FQ at h;refine Wp.seq (Wp.seq (B3 h [0,1,2,7,30] [] (fun a=>(X1 xS b c d a)) ?_ ?_))
  ·intro a h;refine M3 mixed (DZ 3 (kW 10 h (fun h=>?_) (fun h=>?_)))
   ·refine DZ 8 (kW 18 h (fun h=>?_) (fun h=>?_))
    ·refine DZ 4 (bd h fun x1 gx1 h=>SW.q (sH gx1) (DZ 4 (bd h fun x2 gx2 h=>SW.q (sH gx2) (DZ 2 (SW.nil ?_)))));cases h;exact⟨_,rfl,A4⟩
    refine DZ 12 (SW.nil ?_);cases h;exact⟨_,rfl,A4⟩
   refine DZ 20 (SW.nil ?_);cases h;exact⟨_,rfl,A4⟩
  intro j1 h E hE;refine AE hE (wc h (fun h=>?_) (fun h=>?_))
  ·refine Wp.skip (Wp.block (Ax (Ab 3 0 (RW.nil ?_))));cases h;exact⟨_,rfl,A4⟩
  refine Wp.exit ?_;cases h;exact⟨_,rfl,A4⟩
 intro v1 h E hE;refine AE hE (ws (Ab 2 0 (RW.nil ?_)));cases h;exact Wp.ret ⟨.inr rfl,BJ (by kernel_rfl)⟩
def XE (xS:ByteArray) (z1:List Bf) (z2:Int):St:=AG [(0,(Y xS)),(3,(.one (.sl true 131 3 (Ah Nj z1)))),(4,(I z2))] []
def XD (z3:List Bf):St:=AG [(3,(.one (.sl true 131 3 (Ah Nj z3))))] []
def XC (xS:ByteArray) (a:List Bf) (b:Int) (z4:Int) (z5:Int) (z6:Int):St:=AG [(0,(Y xS)),(3,(.one (.sl true 131 3 (Ah Nj a)))),(4,(I b)),(5,(I z4)),(6,(I z5)),(7,(I z6))] []
def XB (xS:ByteArray) (a:List Bf) (b:Int) (z7:Int) (z8:Int):St:=AG [(0,(Y xS)),(3,(.one (.sl true 131 3 (Ah Nj a)))),(4,(I b)),(5,(I z7)),(6,(I z8))] []
def XA (xS:ByteArray) (d:List Bf) (e:Int) (a:Int) (b:Int) (c:Int) (v1:Int) (z9:Bool):St:=AG [(0,(Y xS)),(3,(.one (.sl true 131 3 (Ah Nj d)))),(4,(I e)),(5,(I a)),(6,(I b)),(7,(I c)),(8,(I v1)),(35,(B z9))] []
def X9 (xS:ByteArray) (a:List Bf) (b:Int) (z10:Bool):St:=AG [(0,(Y xS)),(3,(.one (.sl true 131 3 (Ah Nj a)))),(4,(I b)),(9,(I (sb (ln a) 1))),(72,(B z10))] []
theorem aS (xS:ByteArray) (r:List Bf) (h:I9 xS=some r):Be Tryz.prog 86 [.sv (Y xS)] (.one (.sl true 131 3 (Ah Nj r))) (List.replicate 1 .gone):=by
 unfold I9 at h;refine gk Tryz.func86 rfl Tryz.ntmps86 (ws (Ab 1 0 (RW.nil (ws (Ab 2 2 (RW.nil (Wp.seq (ws (Ab 3 0 (RW.nil (wc h (fun h=>?_) (fun h=>?_))))))))))))
 ·refine ws (Ab 2 2 (RW.nil ?_));cases h;exact Wp.ret ⟨.inr rfl,BJ (by kernel_rfl)⟩
 refine Wp.skip (ws (Ab 1 0 (RW.nil (Wp.seq (BO h [0,3,4] [] (fun s=>(XE xS s.1 s.2)) [3] [] (fun s=>(XD s)) A4 ?_ ?_)))))
 ·rintro⟨b,d⟩ o (h:Cl xS b d=some o);unfold Cl at h;refine Wp.seq (ws (Ab 4 0 (RW.nil (wc h (fun h=>?_) (fun h=>?_)))))
  ·refine Wp.skip (Wp.block (ws (Ab 1 0 (RW.nil (ws (Ab 1 0 (RW.nil (Wp.seq (ws (Ab 3 0 (RW.nil (BO h [0,3,4,5,6,7] [] (fun s=>(XC xS b d s.1 s.2.1 s.2.2)) [0,3,4,5,6] [] (fun s=>(XB xS b d s.1 s.2)) A4 ?_ ?_))))))))))))
   ·rintro⟨e,f,g⟩ o (h:DE xS d e f g=some o);unfold DE at h;refine Wp.seq (ws (Ab 2 0 (RW.nil (wc h (fun h=>?_) (fun h=>?_)))))
    ·refine Wp.skip (Wp.seq (Wp.block (ws (Ab 3 0 (RW.c 0 h (aK _ _ _) (fun v1 gv1 h=>Ab 1 0 (RW.nil (Wp.seq (B3 h [0,3,4,5,6,7,8,35] [] (fun a=>(XA xS b d e f g v1 a)) ?_ ?_)))))))))
     ·intro a h;refine Ax (Ab 3 0 (Ba 31 h (fun h=>?_) (fun h=>?_)))
      ·refine Ab 4 0 (RW.nil ?_);cases h;exact⟨_,rfl,A4⟩
      refine Ab 4 0 (RW.nil ?_);cases h;exact⟨_,rfl,A4⟩
     intro j1 h E hE;refine AE hE (wc h (fun h=>?_) (fun h=>?_))
     ·refine ws (Ab 2 0 (RW.nil (Ax (Ab 4 0 (RW.nil (Ax (Ab 3 0 (RW.nil ?_))))))));cases h;exact⟨_,rfl,A4⟩
     refine Wp.skip (Ax (Ab 3 0 (RW.nil ?_)));cases h;exact⟨_,rfl,A4⟩
    refine Wp.exit ?_;cases h;exact⟨_,rfl,A4⟩
   intro v2 h E hE;refine AE hE (Wp.seq (ws (Ab 2 0 (RW.nil (wc h (fun h=>?_) (fun h=>?_))))))
   ·refine ws (Ab 5 0 (bd h fun q1 gq1 h=>Dl (EQ Mw (fun _=>rfl) b gq1) (Ab 1 1 (RW.nil (ws (Ab 4 0 (RW.nil (Wp.exit ?_))))))));cases h;exact⟨_,rfl,A4⟩
   refine Wp.skip (ws (Ab 1 0 (RW.q (D5 Mw b) (Ab 2 0 (RW.nil (Wp.seq (Wp.seq (B3 h [0,3,4,9,72] [] (fun a=>(X9 xS b d a)) ?_ ?_))))))))
   ·intro a h;refine Ax (Ab 3 0 (Ba 56 h (fun h=>?_) (fun h=>?_)))
    ·refine Ab 2 0 (bd h fun x1 gx1 h=>RW.q (Cq Mw gx1) (RW.q (DD Mw gx1 0 0) (RW.q (CN Mw gx1 0) (Ab 3 0 (Ba 64 h (fun h=>?_) (fun h=>?_))))))
     ·refine Ab 2 0 (bd h fun x2 gx2 h=>RW.q (Cq Mw gx2) (RW.q (DD Mw gx2 0 2) (RW.q (CN Mw gx2 2) (Ab 3 0 (RW.nil ?_)))));cases h;exact⟨_,rfl,A4⟩
     refine Ab 8 0 (RW.nil ?_);cases h;exact⟨_,rfl,A4⟩
    refine Ab 16 0 (RW.nil ?_);cases h;exact⟨_,rfl,A4⟩
   intro j2 h E hE;refine AE hE (wc h (fun h=>?_) (fun h=>?_))
   ·refine T7 15 mixed (DZ 4 (bd h fun x3 gx3 h=>SW.q (Cq Mw gx3) (SW.q (DD Mw gx3 0 2) (SW.q (CN Mw gx3 2) (DZ 4 (bd h fun x4 gx4 h=>SW.q (Un gx4) (bd h fun x5 gx5 h=>SW.q (Qg gx5) (bd h fun x6 gx6 h=>SW.q (Cq Mw gx6) (SW.q (DD Mw gx6 0 2) ?_)))))))));refine SW.nil (Dl (Ow Mw gx6 2 0 (Bf.mk x6.Back x6.Size x5)) (RW.nil (Ax (Ab 3 0 (RW.nil ?_)))));cases h;exact⟨_,rfl,A4⟩
   refine Ax (Ab 5 0 (bd h fun x7 gx7 h=>RW.q (Un gx7) (Ab 2 0 (bd h fun q2 gq2 h=>Dl (EQ Mw (fun _=>rfl) b gq2) (Ab 1 1 (RW.nil (Ax (Ab 3 0 (RW.nil ?_)))))))));cases h;exact⟨_,rfl,A4⟩
  refine Wp.exit ?_;cases h;exact⟨_,rfl,A4⟩
 intro v3 h E hE;refine AE hE (ws (Ab 2 2 (RW.nil ?_)));cases h;exact Wp.ret ⟨.inr rfl,BJ (by kernel_rfl)⟩
def XS (xS:ByteArray) (v1:List Bf) (z1:ByteArray) (z2:Int):St:=AG [(0,(Y xS)),(4,(.one (.sl true 131 3 (Ah Nj v1)))),(5,(Y z1)),(6,(I z2))] []
def XR (xS:ByteArray) (z3:ByteArray):St:=AG [(0,(Y xS)),(5,(Y z3))] []
theorem Rq (xS:ByteArray) (r:ByteArray×Bool) (h:Eb xS=some r):Be Tryz.prog 56 [.sv (Y xS)] (.tup [(Y r.1),(B r.2)]) (List.replicate 1 .gone):=by
 unfold Eb at h;refine gk Tryz.func56 rfl Tryz.ntmps56 (ws (Ab 2 0 (RW.nil (Wp.seq (ws (Ab 3 0 (RW.nil (wc h (fun h=>?_) (fun h=>?_)))))))))
 ·refine ws (Ab 2 0 (RW.nil ?_));cases h;exact Wp.ret ⟨.inr rfl,BJ (by kernel_rfl)⟩
 refine Wp.skip (ws (Ab 1 0 (RW.c 0 h (aS _) (fun v1 gv1 h=>Ab 1 1 (RW.nil (ws (Ab 1 0 (RW.nil (Wp.seq (ws (Ab 1 0 (RW.nil (BO h [0,4,5,6] [] (fun s=>(XS xS v1 s.1 s.2)) [0,5] [] (fun s=>(XR xS s)) A4 ?_ ?_)))))))))))))
 ·rintro⟨a,b⟩ o (h:DG v1 a b=some o);unfold DG at h;refine Wp.seq (ws (Ab 2 0 (RW.q (D5 Mw v1) (Ab 1 0 (RW.nil (wc h (fun h=>?_) (fun h=>?_)))))))
  ·refine Wp.skip (Wp.seq (Wp.block (ws (Ab 2 0 (bd h fun x1 gx1 h=>RW.q (Cq Mw gx1) (RW.q (Si Mw gx1 0 3) (Ab 2 0 (RW.nil (ws (Ab 3 0 (RW.nil (wc h (fun h=>?_) (fun h=>?_)))))))))))))
   ·refine Ax (Ab 6 0 (RW.q (pcv (f:=c5) (fun _=>rfl) [(IntKind.u8.wrap (Gg x1.Text))]) (bd h fun x2 gx2 h=>RW.q (Qg gx2) (Ab 2 0 (bd h fun x3 gx3 h=>RW.q (Qg gx3) (Ab 1 0 (RW.nil (Ax (Ab 3 0 (RW.nil ?_))))))))));cases h;exact⟨_,rfl,A4⟩
   refine Ax (Ab 9 0 (RW.q (pcv (f:=c5) (fun _=>rfl) [(IntKind.u8.wrap (ad 128 x1.Size)),(IntKind.u8.wrap x1.Back)]) (bd h fun x4 gx4 h=>RW.q (Qg gx4) (Ab 1 0 (RW.nil (Ax (Ab 3 0 (RW.nil ?_))))))));cases h;exact⟨_,rfl,A4⟩
  refine Wp.exit ?_;cases h;exact⟨_,rfl,A4⟩
 intro v2 h E hE;refine AE hE (Wp.seq (ws (Ab 6 0 (RW.nil (wc h (fun h=>?_) (fun h=>?_))))))
 ·refine ws (Ab 1 0 (bd h fun x5 gx5 h=>RW.q (Qg gx5) (Ab 2 0 (RW.nil ?_))));cases h;exact Wp.ret ⟨.inr rfl,BJ (by kernel_rfl)⟩
 refine Wp.skip (ws (Ab 3 0 (RW.nil ?_)));cases h;exact Wp.ret ⟨.inr rfl,BJ (by kernel_rfl)⟩
def TO (xT:ByteArray) (z1:ByteArray):St:=AG [(0,(Y xT)),(4,(Y z1))] []
def TN (j1:ByteArray) (z2:Bool):St:=AG [(4,(Y j1)),(48,(B z2))] []
theorem V0 (xT:ByteArray) (r:ByteArray×Bool) (h:EG xT=some r):Be Tryz.prog 66 [.sv (Y xT)] (.tup [(Y r.1),(B r.2)]) (List.replicate 1 .gone):=by
 unfold EG at h;refine gk Tryz.func66 rfl Tryz.ntmps66 (ws (Ab 2 0 (RW.nil (Wp.seq (ws (Ab 3 0 (RW.nil (wc h (fun h=>?_) (fun h=>?_)))))))))
 ·refine ws (Ab 2 0 (RW.nil ?_));cases h;exact Wp.ret ⟨.inr rfl,BJ (by kernel_rfl)⟩
 refine Wp.skip (ws (Ab 1 0 (bd h fun x1 gx1 h=>RW.q (Un gx1) (Ab 1 0 (RW.nil (Wp.seq (ws (Ab 1 0 (bd h fun x2 gx2 h=>RW.q (sH gx2) (Ab 1 0 (RW.nil ?_)))))))))));refine yK h [0,4] [] (fun a=>(TO xT a)) ?_ ?_
 ·intro a h b;refine wc h (fun h=>?_) (fun h=>?_)
  ·refine ws (Ab 1 0 (bd h fun x3 gx3 h=>RW.q (Un gx3) (RW.c 0 h (Xz _) (fun v1 gv1 h=>Ab 5 9 (RW.nil (ws (Ab 1 0 (RW.c 0 h (gs (ca (co (cs (ABP _))) rfl) (iD _)) (fun v2 gv2 h=>Ab 5 1 (RW.nil (Wp.seq (ws ?_)))) (hc:=(.inr (fun v=>rfl)))))))))));refine Ab 3 0 (Ba 32 h (fun h=>?_) (fun h=>?_))
   ·refine Ab 3 0 (RW.nil (wt (ws (Ab 2 0 (RW.nil ?_)))));cases h;replace h:some _=some _:=b;cases h;exact Wp.ret ⟨.inr rfl,BJ (by kernel_rfl)⟩
   refine Ab 3 0 (RW.nil (wc h (fun h=>?_) (fun h=>?_)))
   ·refine ws (Ab 2 0 (RW.nil ?_));cases h;replace h:some _=some _:=b;cases h;exact Wp.ret ⟨.inr rfl,BJ (by kernel_rfl)⟩
   refine Wp.skip (Ax (Ab 2 0 (RW.nil ?_)));cases h;exact⟨_,rfl,A4⟩
  refine Wp.skip ?_;cases h;exact⟨_,rfl,A4⟩
 intro j1 h E hE;refine AE hE (ws (Ab 1 0 (RW.c 0 h (Rq _) (fun v3 gv3 h=>Ab 5 1 (RW.nil (Wp.seq (Wp.seq (B3 h [4,48] [] (fun a=>(TN j1 a)) ?_ ?_))))))))
 ·intro a h;refine Ax (Ab 3 0 (Ba 44 h (fun h=>?_) (fun h=>?_)))
  ·refine Ab 4 0 (RW.nil ?_);cases h;exact⟨_,rfl,A4⟩
  refine Ab 4 0 (RW.nil ?_);cases h;exact⟨_,rfl,A4⟩
 intro j2 h E hE;refine AE hE (wc h (fun h=>?_) (fun h=>?_))
 ·refine ws (Ab 2 0 (RW.nil ?_));cases h;exact Wp.ret ⟨.inr rfl,BJ (by kernel_rfl)⟩
 refine Wp.skip (ws (Ab 3 0 (RW.nil ?_)));cases h;exact Wp.ret ⟨.inr rfl,BJ (by kernel_rfl)⟩
theorem Ta (b:List Aq) (a:Int) (r:ByteArray×Bool) (h:LD b a=some r):Be Tryz.prog 34 [.sv (.one (.sl false 54 8 (Ah Gb b))),.sv (I a)] (.tup [(Y r.1),(B r.2)]) (List.replicate 2 .gone):=by
 unfold LD at h;refine gk Tryz.func34 rfl Tryz.ntmps34 (ws (Ab 2 0 (RW.nil (ws (Ab 2 0 (RW.c 0 h (Xp _ _) (fun v1 gv1 h=>Ab 6 1 (RW.nil (Wp.seq (ws (Ab 2 0 (RW.nil (wc h (fun h=>?_) (fun h=>?_))))))))))))))
 ·refine ws (Ab 2 0 (RW.nil ?_));cases h;exact Wp.ret ⟨.inr rfl,BJ (by kernel_rfl)⟩
 refine Wp.skip (ws (Ab 3 0 (RW.c 0 h (V0 _) (fun v2 gv2 h=>Ab 4 0 (RW.nil ?_)))));cases h;exact Wp.ret ⟨.inr rfl,BJ (by kernel_rfl)⟩
def aF (a:List Aq) (b:List Int) (c:ByteArray) (z1:Int):St:=AG [(0,(.one (.sl false 54 8 (Ah Gb a)))),(1,(.one (.sl false 3 1 (Ah c3 b)))),(2,(Y c)),(7,(I z1))] []
def aE:St:=AG [] []
def aD (a:List Aq) (b:List Int) (c:ByteArray) (d:Int) (z2:Bool):St:=AG [(0,(.one (.sl false 54 8 (Ah Gb a)))),(1,(.one (.sl false 3 1 (Ah c3 b)))),(2,(Y c)),(7,(I d)),(30,(B z2))] []
theorem gC (d:List Aq) (b:List Int) (e:ByteArray) (r:Int) (h:PF d b e=some r):Be Tryz.prog 85 [.sv (.one (.sl false 54 8 (Ah Gb d))),.sv (.one (.sl false 3 1 (Ah c3 b))),.sv (Y e)] (I r) (List.replicate 3 .gone):=by
 unfold PF at h;refine gk Tryz.func85 rfl Tryz.ntmps85 (ws (Ab 1 0 (RW.nil (Wp.seq (ws (Ab 1 0 (RW.nil (Fk h [0,1,2,7] [] (fun s=>(aF d b e s)) [] [] (fun _=>aE) A4 ?_ ?_))))))))
 ·rintro f o (h:GB d b e f=some o) hk1;unfold GB at h;refine Wp.seq (ws (Ab 2 0 (RW.q (D5 k3 b) (Ab 1 0 (RW.nil (wc h (fun h=>?_) (fun h=>?_)))))))
  ·refine Wp.skip (Wp.seq (Wp.block (ws (Ab 3 0 (bd h fun x1 gx1 h=>RW.q (Cq k3 gx1) (RW.q (CN k3 gx1 0) (RW.c 0 h (Ta _ _) (fun v1 gv1 h=>Ab 5 1 (RW.nil (Wp.seq (B3 h [0,1,2,7,30] [] (fun a=>(aD d b e f a)) ?_ ?_)))))))))))
   ·intro a h;refine Ax (Ab 2 0 (Ba 26 h (fun h=>?_) (fun h=>?_)))
    ·refine Ab 4 0 (RW.nil ?_);cases h;exact⟨_,rfl,A4⟩
    refine Ab 4 0 (RW.nil ?_);cases h;exact⟨_,rfl,A4⟩
   intro j1 h E hE;refine AE hE (wc h (fun h=>?_) (fun h=>?_))
   ·refine ws (Ab 2 0 (bd h fun x2 gx2 h=>RW.q (Cq k3 gx2) (RW.q (CN k3 gx2 0) (Ab 1 0 (RW.nil ?_)))));cases h;replace h:some _=some _:=hk1 _ rfl;cases h;exact Wp.ret ⟨.inr rfl,BJ (by kernel_rfl)⟩
   refine Wp.skip (Ax (Ab 3 0 (RW.nil ?_)));cases h;exact⟨_,rfl,A4⟩
  refine Wp.exit ?_;cases h;exact⟨_,rfl,A4⟩
 intro v2 h E hE;refine AE hE (ws (Ab 1 0 (RW.nil ?_)));cases h;exact Wp.ret ⟨.inr rfl,BJ (by kernel_rfl)⟩
theorem cR (xF:Flash) (a:List Int) (b:ByteArray) (r:Int) (h:Mh xF a b=some r):Be Tryz.prog 55 [.sv (.agg [.sl false 77 3 (Ah (Cs false) xF.Blocks)]),.sv (.one (.sl false 3 1 (Ah c3 a))),.sv (Y b)] (I r) (List.replicate 3 .gone):=by
 unfold Mh at h;refine gk Tryz.func55 rfl Tryz.ntmps55 (ws (Ab 2 0 (RW.nil (ws (Ab 1 0 (RW.c 0 h (F9 _) (fun v1 gv1 h=>Ab 2 0 (RW.c 0 h (gs (ca (co (cs (Sn _))) rfl) (gC _ _ _)) (fun v2 gv2 h=>Ab 1 0 (RW.nil ?_)) (hc:=(.inr (fun v=>rfl)))))))))));cases h;exact Wp.ret ⟨.inr rfl,BJ (by kernel_rfl)⟩
def iC (xD:AM) (xQ:Xe) (v2:Int) (z1:Bool):St:=AG [(2,(.one (.ptr (.box 2) 0 [] 0))),(3,(.one (.ptr (.box 3) 0 [] 0))),(7,(.one (.sl true 99 4 (Ah Ni [])))),(8,(B (decide (v2>=0)))),(29,(B z1))] [(.box 2,[.sl false 77 3 (Ah (Cs false) xD.Flash.Blocks),.sl false 39 2 (Ah CD xD.Store.Vols),.sl false 150 2 (Ah (AN false) xD.Store.Arena.Knots),.int .i64 xD.Store.Next,.int .i64 xD.Seq,.int .i64 xD.Tx,.int .i64 xD.Base]),(.box 3,[.int .i64 xQ.Kind,.int .i64 xQ.Vol,.int .i64 xQ.Sector,.int .i64 xQ.Of,.str xQ.Text])]
def iB (xD:AM) (xQ:Xe) (z2:Bool):St:=AG [(2,(.one (.ptr (.box 2) 0 [] 0))),(3,(.one (.ptr (.box 3) 0 [] 0))),(7,(.one (.sl true 99 4 (Ah Ni [])))),(42,(B z2))] [(.box 2,[.sl false 77 3 (Ah (Cs false) xD.Flash.Blocks),.sl false 39 2 (Ah CD xD.Store.Vols),.sl false 150 2 (Ah (AN false) xD.Store.Arena.Knots),.int .i64 xD.Store.Next,.int .i64 xD.Seq,.int .i64 xD.Tx,.int .i64 xD.Base]),(.box 3,[.int .i64 xQ.Kind,.int .i64 xQ.Vol,.int .i64 xQ.Sector,.int .i64 xQ.Of,.str xQ.Text])]
def iA (xQ:Xe) (z3:Int) (z4:ByteArray):St:=AG [(3,(.one (.ptr (.box 3) 0 [] 0))),(9,(I z3)),(10,(Y z4))] [(.box 3,[.int .i64 xQ.Kind,.int .i64 xQ.Vol,.int .i64 xQ.Sector,.int .i64 xQ.Of,.str xQ.Text])]
set_option maxHeartbeats 4000000 in
theorem VC (xD:AM) (xQ:Xe) (r:List Dk×ByteArray×Int) (h:KI xD xQ=some r):Be Tryz.prog 25 [.sv (.agg [.sl false 77 3 (Ah (Cs false) xD.Flash.Blocks),.sl false 39 2 (Ah CD xD.Store.Vols),.sl false 150 2 (Ah (AN false) xD.Store.Arena.Knots),.int .i64 xD.Store.Next,.int .i64 xD.Seq,.int .i64 xD.Tx,.int .i64 xD.Base]),.sv (.agg [.int .i64 xQ.Kind,.int .i64 xQ.Vol,.int .i64 xQ.Sector,.int .i64 xQ.Of,.str xQ.Text])] (.tup [(.one (.sl true 99 4 (Ah Ni r.1))),(Y r.2.1),(I r.2.2)]) (List.replicate 2 .gone):=by
 unfold KI at h;refine gk Tryz.func25 rfl Tryz.ntmps25 (ws (Ab 5 0 (RW.nil (ws (Ab 2 2 (RW.nil (Wp.seq (ws (Ab 1 0 (RW.c 0 h (r6 _) (fun v1 gv1 h=>Ab 1 0 (RW.nil (wc h (fun h=>?_) (fun h=>?_))))))))))))))
 ·refine ws (Ab 4 2 (RW.nil ?_));cases h;exact Wp.ret ⟨.inr rfl,BJ (by kernel_rfl)⟩
 refine Wp.skip (ws (Ab 4 0 (RW.c 0 h (JU _ _) (fun v2 gv2 h=>Ab 2 0 (RW.nil (Wp.seq (Wp.seq (B3 h [2,3,7,8,29] [.box 2,.box 3] (fun a=>(iC xD xQ v2 a)) ?_ ?_))))))))
 ·intro a h;refine Ax (Ab 4 0 (Ba 25 h (fun h=>?_) (fun h=>?_)))
  ·refine Ab 4 0 (RW.nil ?_);cases h;exact⟨_,rfl,A4⟩
  refine Ab 4 0 (RW.nil ?_);cases h;exact⟨_,rfl,A4⟩
 intro j1 h E hE;refine AE hE (wc h (fun h=>?_) (fun h=>?_))
 ·refine Wp.seq (ws (Ab 1 0 (RW.nil (wc h (fun h=>?_) (fun h=>?_)))))
  ·refine ws (Ab 4 2 (RW.nil ?_));cases h;exact Wp.ret ⟨.inr rfl,BJ (by kernel_rfl)⟩
  refine Wp.skip (Wp.seq (Wp.seq (B3 h [2,3,7,42] [.box 2,.box 3] (fun a=>(iB xD xQ a)) ?_ ?_)))
  ·intro a h;refine Ax (Ab 4 0 (Ba 35 h (fun h=>?_) (fun h=>?_)))
   ·refine Ab 4 0 (RW.c 0 h (JU _ _) (fun v3 gv3 h=>Ab 2 0 (RW.nil ?_)));cases h;exact⟨_,rfl,A4⟩
   refine Ab 7 0 (RW.nil ?_);cases h;exact⟨_,rfl,A4⟩
  intro j2 h E hE;refine AE hE (wc h (fun h=>?_) (fun h=>?_))
  ·refine ws (Ab 4 2 (RW.nil ?_));cases h;exact Wp.ret ⟨.inr rfl,BJ (by kernel_rfl)⟩
  refine Wp.skip (Wp.seq (ws (Ab 3 0 (RW.q (D5 Em xD.Store.Vols) (Ab 1 0 (RW.nil (wc h (fun h=>?_) (fun h=>?_))))))))
  ·refine ws (Ab 4 2 (RW.nil ?_));cases h;exact Wp.ret ⟨.inr rfl,BJ (by kernel_rfl)⟩
  refine Wp.skip (ws (Ab 9 64 (RW.nil ?_)));cases h;exact Wp.ret ⟨.inr rfl,BJ (by kernel_rfl)⟩
 refine Wp.skip (Wp.seq (ws (Ab 2 0 (RW.nil (wc h (fun h=>?_) (fun h=>?_))))))
 ·refine ws (Ab 4 2 (RW.nil ?_));cases h;exact Wp.ret ⟨.inr rfl,BJ (by kernel_rfl)⟩
 refine Wp.skip (Wp.seq (ws (Ab 2 0 (RW.nil (Wp.block (ws (Ab 2 0 (RW.nil (wc h (fun h=>?_) (fun h=>?_))))))))))
 ·refine Wp.seq (EL [] mixed (fun c E h=>by rcases h with⟨h|h,_⟩<;>cases h) (AD [0,1,2,3,5,6] 0 (BT 4 (KB.c 0 h (JZ _) (fun v4 gv4 h=>BT 7 (KB.c 0 h (gs (ca rfl (ca (co (cs (fZ _))) rfl)) (cR _ _ _)) (fun v5 gv5 h=>AD [8] 0 (Ap (ws (Ab 1 0 (RW.nil (Wp.seq (ws ?_))))))) (hc:=(.inr (fun v=>rfl)))))))));refine Ab 2 0 (RW.nil (B3 h [3,9,10] [.box 3] (fun a=>(iA xQ a.1 a.2)) ?_ ?_))
  ·intro a h;refine wc h (fun h=>?_) (fun h=>?_)
   ·refine ws (Ab 4 0 (RW.nil (Ax (Ab 2 0 (RW.c 0 h (Rq _) (fun v6 gv6 h=>Ab 4 1 (RW.nil ?_)))))));cases h;exact⟨_,rfl,A4⟩
   refine Wp.skip ?_;cases h;exact⟨_,rfl,A4⟩
  intro j3 h E hE;refine AE hE (ws (Ab 11 256 (RW.nil ?_)));cases h;exact Wp.ret ⟨.inr rfl,BJ (by kernel_rfl)⟩
 refine ws (Ab 2 0 (RW.nil (wc h (fun h=>?_) (fun h=>?_))))
 ·refine ws (Ab 9 64 (RW.nil ?_));cases h;exact Wp.ret ⟨.inr rfl,BJ (by kernel_rfl)⟩
 refine ws (Ab 2 0 (RW.nil (wc h (fun h=>?_) (fun h=>?_))))
 ·refine ws (Ab 7 16 (RW.nil ?_));cases h;exact Wp.ret ⟨.inr rfl,BJ (by kernel_rfl)⟩
 refine Wp.skip (ws (Ab 4 2 (RW.nil ?_)));cases h;exact Wp.ret ⟨.inr rfl,BJ (by kernel_rfl)⟩
theorem iV (xS:Store) (b:Int) (a:Int) (r:Int) (h:LJ xS b a=some r):Be Tryz.prog 10 [.sv (.agg [.sl false 39 2 (Ah CD xS.Vols),.sl false 150 2 (Ah (AN false) xS.Arena.Knots),.int .i64 xS.Next]),.sv (I b),.sv (I a)] (I r) (List.replicate 3 .gone):=by
 unfold LJ at h;refine gk Tryz.func10 rfl Tryz.ntmps10 (ws (Ab 2 0 (RW.nil (ws (Ab 2 0 (RW.c 0 h (JU _ _) (fun v1 gv1 h=>Ab 1 0 (RW.nil (Wp.seq (ws (Ab 2 0 (RW.nil (wc h (fun h=>?_) (fun h=>?_))))))))))))))
 ·refine ws (Ab 1 0 (RW.nil ?_));cases h;exact Wp.ret ⟨.inr rfl,BJ (by kernel_rfl)⟩
 refine Wp.skip (Wp.seq (T7 9 mixed (DZ 5 (bd h fun x1 gx1 h=>SW.q (Cq Em gx1) (SW.q (DD Em gx1 0 1) (SW.q (CN Em gx1 1) (DZ 1 (SW.nil (RW.c 0 h (Zd _ _ _) (fun v2 gv2 h=>Ab 1 0 (RW.nil ?_)))))))))));cases h;exact Wp.ret ⟨.inr rfl,BJ (by kernel_rfl)⟩
theorem gA (b:List Aq) (xS:Store) (d:Int) (a:Int) (r:ByteArray×Bool) (h:JR b xS d a=some r):Be Tryz.prog 128 [.sv (.one (.sl false 54 8 (Ah Gb b))),.sv (.agg [.sl false 39 2 (Ah CD xS.Vols),.sl false 150 2 (Ah (AN false) xS.Arena.Knots),.int .i64 xS.Next]),.sv (I d),.sv (I a)] (.tup [(Y r.1),(B r.2)]) (List.replicate 4 .gone):=by
 unfold JR at h;refine gk Tryz.func128 rfl Tryz.ntmps128 (ws (Ab 3 0 (RW.nil (Wp.seq (ws (Ab 2 0 (RW.c 0 h (JU _ _) (fun v1 gv1 h=>Ab 1 0 (RW.nil (wc h (fun h=>?_) (fun h=>?_)))))))))))
 ·refine ws (Ab 2 0 (RW.nil ?_));cases h;exact Wp.ret ⟨.inr rfl,BJ (by kernel_rfl)⟩
 refine Wp.skip (ws (Ab 3 0 (RW.c 0 h (iV _ _ _) (fun v2 gv2 h=>Ab 1 0 (RW.nil (Wp.seq (ws (Ab 2 0 (RW.nil (wc h (fun h=>?_) (fun h=>?_)))))))))))
 ·refine ws (Ab 2 0 (RW.nil ?_));cases h;exact Wp.ret ⟨.inr rfl,BJ (by kernel_rfl)⟩
 refine Wp.skip (ws (Ab 2 0 (RW.c 0 h (Ta _ _) (fun v3 gv3 h=>Ab 4 0 (RW.nil ?_)))));cases h;exact Wp.ret ⟨.inr rfl,BJ (by kernel_rfl)⟩
set_option maxHeartbeats 4000000 in
theorem mZ (xD:AM) (b:Int) (a:Int) (r:ByteArray×Bool) (h:Rn xD b a=some r):Be Tryz.prog 97 [.sv (.agg [.sl false 77 3 (Ah (Cs false) xD.Flash.Blocks),.sl false 39 2 (Ah CD xD.Store.Vols),.sl false 150 2 (Ah (AN false) xD.Store.Arena.Knots),.int .i64 xD.Store.Next,.int .i64 xD.Seq,.int .i64 xD.Tx,.int .i64 xD.Base]),.sv (I b),.sv (I a)] (.tup [(Y r.1),(B r.2)]) (List.replicate 3 .gone):=by
 unfold Rn at h;refine gk Tryz.func97 rfl Tryz.ntmps97 (ws (Ab 3 0 (RW.nil (Wp.seq (EL [] mixed (fun c E h=>by rcases h with⟨h|h,_⟩<;>cases h) (AD [0,1,3,4,5,6] 0 (BT 2 (KB.c 0 h (F9 _) (fun v1 gv1 h=>BT 7 (KB.c 0 h (gs (ca (co (cs (Sn _))) rfl) (gA _ _ _ _)) (fun v2 gv2 h=>Ky 8 (Ky 9 (AD [10,11] 0 ?_))) (hc:=(.inr (fun v=>rfl)))))))))))));refine Ap ?_;cases h;exact Wp.ret ⟨.inr rfl,BJ (by kernel_rfl)⟩
def g8 (xF:Flash) (z1:Int) (z2:Int):St:=AG [(1,(.one (.ptr (.box 1) 0 [] 0))),(3,(I z1)),(4,(I z2))] [(.box 1,[.sl false 77 3 (Ah (Cs false) xF.Blocks)])]
def g7 (z3:Int):St:=AG [(3,(I z3))] []
def g6 (xF:Flash) (a:Int) (z4:Int) (z5:Int):St:=AG [(1,(.one (.ptr (.box 1) 0 [] 0))),(3,(I z4)),(4,(I a)),(5,(I z5))] [(.box 1,[.sl false 77 3 (Ah (Cs false) xF.Blocks)])]
def gZ (xF:Flash) (a:Int) (z6:Int):St:=AG [(1,(.one (.ptr (.box 1) 0 [] 0))),(3,(I z6)),(4,(I a))] [(.box 1,[.sl false 77 3 (Ah (Cs false) xF.Blocks)])]
theorem Q3 (xF:Flash) (r:Int) (h:KH xF=some r):Be Tryz.prog 98 [.sv (.agg [.sl false 77 3 (Ah (Cs false) xF.Blocks)])] (I r) (List.replicate 1 .gone):=by
 unfold KH at h;refine gk Tryz.func98 rfl Tryz.ntmps98 (ws (Ab 2 0 (RW.nil (ws (Ab 1 0 (RW.nil (Wp.seq (ws (Ab 1 0 (RW.nil (BO h [1,3,4] [.box 1] (fun s=>(g8 xF s.1 s.2)) [3] [] (fun s=>(g7 s)) A4 ?_ ?_)))))))))))
 ·rintro⟨b,a⟩ o (h:IS xF b a=some o);unfold IS at h;refine Wp.seq (ws (Ab 3 0 (RW.q (D5 (Fq false) xF.Blocks) (Ab 1 0 (RW.nil (wc h (fun h=>?_) (fun h=>?_)))))))
  ·refine Wp.skip (Wp.seq (Wp.block (ws (Ab 1 0 (RW.nil (BO h [1,3,4,5] [.box 1] (fun s=>(g6 xF a s.1 s.2)) [1,3,4] [.box 1] (fun s=>(gZ xF a s)) A4 ?_ ?_))))))
   ·rintro⟨c,d⟩ o (h:IR xF a c d=some o);unfold IR at h;refine Wp.seq (ws (Ab 4 0 (bd h fun x1 gx1 h=>RW.q (Cq (Fq false) gx1) (RW.q (DD (Fq false) gx1 0 2) (RW.q (CN (Fq false) gx1 2) (RW.q (D5 M7 x1.Leaves) (Ab 1 0 (RW.nil (wc h (fun h=>?_) (fun h=>?_))))))))))
    ·refine Wp.skip (Wp.seq (Wp.block (ws (Ab 3 0 (bd h fun x2 gx2 h=>RW.q (Cq (Fq false) gx2) (RW.q (DD (Fq false) gx2 0 0) (RW.q (CN (Fq false) gx2 0) (Ab 2 0 (Ba 31 h (fun h=>?_) (fun h=>?_))))))))))
     ·refine Ab 3 0 (bd h fun x3 gx3 h=>RW.q (Cq (Fq false) gx3) (RW.q (DD (Fq false) gx3 0 2) (RW.q (CN (Fq false) gx3 2) (Ab 1 0 (bd h fun x4 gx4 h=>RW.q (Cq M7 gx4) (RW.q (DD M7 gx4 0 0) (RW.q (CN M7 gx4 0) (Ab 2 0 (RW.nil (wc h (fun h=>?_) (fun h=>?_)))))))))))
      ·refine Ax (Ab 3 0 (RW.nil (Ax (Ab 3 0 (RW.nil ?_)))));cases h;exact⟨_,rfl,A4⟩
      refine Wp.skip (Ax (Ab 3 0 (RW.nil ?_)));cases h;exact⟨_,rfl,A4⟩
     refine Ab 12 0 (RW.nil (wf (Wp.skip (Ax (Ab 3 0 (RW.nil ?_))))));cases h;exact⟨_,rfl,A4⟩
    refine Wp.exit ?_;cases h;exact⟨_,rfl,A4⟩
   intro v1 h E hE;refine AE hE (Ax (Ab 3 0 (RW.nil ?_)));cases h;exact⟨_,rfl,A4⟩
  refine Wp.exit ?_;cases h;exact⟨_,rfl,A4⟩
 intro v2 h E hE;refine AE hE (ws (Ab 2 0 (RW.nil ?_)));cases h;exact Wp.ret ⟨.inr rfl,BJ (by kernel_rfl)⟩
end Go.TI
