/- That they compute it. No condition. -/
import Derived.Test.YtiemmklnnjembaaGreatNEW2
namespace Go.TI
open Go Go.Proofs
set_option maxRecDepth 100000
def Vo (z1:Int) (z2:List Block) (z3:List Vol) (z4:List BX) (z5:Int) (z6:Int) (z7:Int) (z8:Int) (z9:List Int) (z10:Int) (z11:Int):St:=AG [(0,(.one (.ptr (.ext 0) 0 [] 0))),(2,(.one (.ptr (.box 2) 0 [] 0))),(3,(.one (.ptr (.box 3) 0 [] 0))),(5,(I z1))] [(.box 2,[.sl true 77 3 (Ah (Cs true) []),.sl true 39 2 (Ah CD []),.sl true 150 2 (Ah (AN true) []),.int .i64 0,.int .i64 0,.int .i64 0,.int .i64 0]),(.box 3,[.sl false 77 3 (Ah (Cs false) z2),.sl false 39 2 (Ah CD z3),.sl false 150 2 (Ah (AN false) z4),.int .i64 z5,.int .i64 z6,.int .i64 z7,.int .i64 z8]),(.ext 0,[.sl false 5 1 (Ah c5 z9),.int .i64 z10,.int .i64 z11])]
def Vn (z12:List Block) (z13:List Vol) (z14:List BX) (z15:Int) (z16:Int) (z17:Int) (z18:Int) (z19:List Int) (z20:Int) (z21:Int):St:=AG [(2,(.one (.ptr (.box 2) 0 [] 0))),(3,(.one (.ptr (.box 3) 0 [] 0)))] [(.box 2,[.sl true 77 3 (Ah (Cs true) []),.sl true 39 2 (Ah CD []),.sl true 150 2 (Ah (AN true) []),.int .i64 0,.int .i64 0,.int .i64 0,.int .i64 0]),(.box 3,[.sl false 77 3 (Ah (Cs false) z12),.sl false 39 2 (Ah CD z13),.sl false 150 2 (Ah (AN false) z14),.int .i64 z15,.int .i64 z16,.int .i64 z17,.int .i64 z18]),(.ext 0,[.sl false 5 1 (Ah c5 z19),.int .i64 z20,.int .i64 z21])]
def Vm (a:Int) (z22:List Block) (z23:List Vol) (z24:List BX) (z25:Int) (z26:Int) (z27:Int) (z28:Int) (z29:List Int) (z30:Int) (z31:Int):St:=AG [(0,(.one (.ptr (.ext 0) 0 [] 0))),(2,(.one (.ptr (.box 2) 0 [] 0))),(3,(.one (.ptr (.box 3) 0 [] 0))),(5,(I a))] [(.box 2,[.sl true 77 3 (Ah (Cs true) []),.sl true 39 2 (Ah CD []),.sl true 150 2 (Ah (AN true) []),.int .i64 0,.int .i64 0,.int .i64 0,.int .i64 0]),(.box 3,[.sl false 77 3 (Ah (Cs false) z22),.sl false 39 2 (Ah CD z23),.sl false 150 2 (Ah (AN false) z24),.int .i64 z25,.int .i64 z26,.int .i64 z27,.int .i64 z28]),(.ext 0,[.sl false 5 1 (Ah c5 z29),.int .i64 z30,.int .i64 z31])]
set_option maxHeartbeats 4000000 in
theorem Xq (xC:BA) (r:AM×BA) (h:K9 xC=some r):Be Tryz.prog 28 [.ext [.sl false 5 1 (Ah c5 xC.b_),.int .i64 xC.i_,.int .i64 xC.h_]] (.agg [.sl false 77 3 (Ah (Cs false) r.1.Flash.Blocks),.sl false 39 2 (Ah CD r.1.Store.Vols),.sl false 150 2 (Ah (AN false) r.1.Store.Arena.Knots),.int .i64 r.1.Store.Next,.int .i64 r.1.Seq,.int .i64 r.1.Tx,.int .i64 r.1.Base]) (.ext [.sl false 5 1 (Ah c5 r.2.b_),.int .i64 r.2.i_,.int .i64 r.2.h_]::List.replicate 0 .gone):=by
 unfold K9 at h;refine gkx Tryz.func28 rfl Tryz.ntmps28 (ws (Ab 1 0 (RW.nil (ws (Ab 1 0 (Gc h (CX _ _) (fun _=>rfl) (fun v1 gv1 h=>Ab 1 0 (RW.c 0 h (Yl _) (fun v2 gv2 h=>Ab 2 1 (RW.fz (.slot 11) 0 (Fw v2.1.Flash.Blocks) (RW.fz (.slot 11) 1 (Fx v2.1.Store.Vols) (RW.fz (.slot 11) 2 (Dj v2.1.Store.Arena.Knots) (Ab 4 0 ?_)))))))))))));refine RW.nil (Wp.seq (ws (Ab 1 0 (RW.nil (BO h [0,2,3,5] [.box 2,.box 3,.ext 0] (fun s=>(Vo s.1 s.2.1 s.2.2.1 s.2.2.2.1 s.2.2.2.2.1 s.2.2.2.2.2.1 s.2.2.2.2.2.2.1 s.2.2.2.2.2.2.2.1 s.2.2.2.2.2.2.2.2.1 s.2.2.2.2.2.2.2.2.2.1 s.2.2.2.2.2.2.2.2.2.2)) [2,3] [.box 2,.box 3,.ext 0] (fun s=>(Vn s.1 s.2.1 s.2.2.1 s.2.2.2.1 s.2.2.2.2.1 s.2.2.2.2.2.1 s.2.2.2.2.2.2.1 s.2.2.2.2.2.2.2.1 s.2.2.2.2.2.2.2.2.1 s.2.2.2.2.2.2.2.2.2)) A4 ?_ ?_)))))
 ·rintro⟨b,d,e,f,g,i,j,k,l,m,n⟩ o (h:ET b d e f g i j k l m n=some o);unfold ET at h;refine Wp.seq (ws (Ab 2 0 (Gc h (CX _ _) (fun _=>rfl) (fun v3 gv3 h=>Ab 1 0 (RW.nil (wc h (fun h=>?_) (fun h=>?_)))))))
  ·refine Wp.skip (Wp.seq (Wp.block (B3 h [0,2,3,5] [.box 2,.box 3,.ext 0] (fun a=>(Vm b a.1 a.2.1 a.2.2.1 a.2.2.2.1 a.2.2.2.2.1 a.2.2.2.2.2.1 a.2.2.2.2.2.2.1 a.2.2.2.2.2.2.2.1 a.2.2.2.2.2.2.2.2.1 a.2.2.2.2.2.2.2.2.2)) ?_ ?_)))
   ·intro a h;refine EL [3,10] mixed (fun c E h=>by rcases h with⟨h|h,_⟩<;>cases h) (AD [1,2] 0 (Bi 0 3 ?_ ?_))
    ·refine KB.o false (BT 3 (ZI h (SX _ _) (fun _=>rfl) (fun v4 gv4 h=>BT 4 (KB.c 0 h (Zb _ _) (fun v5 gv5 h=>AD [5] 1 (rJ 6 7 8 9 ?_ ?_ ?_ ?_))))))
     ·refine KB.o false (KW.fz (.slot 25) 0 (Fw v5.1.Flash.Blocks) (KW.fz (.slot 25) 1 (Fx v5.1.Store.Vols) (KW.fz (.slot 25) 2 (Dj v5.1.Store.Arena.Knots) (rJ 7 8 9 10 ?_ ?_ ?_ ?_))))
      ·refine KB.o false (Hl 8 9 10 ?_ ?_ ?_)
       ·refine KB.o false (Bi 9 10 ?_ ?_)
        ·refine KB.o false (AD [10] 0 (Ap ?_));cases h;exact⟨_,rfl,A4⟩
        refine KB.o false (AD [9] 0 (Ap ?_));cases h;exact⟨_,rfl,A4⟩
       ·refine KB.o false (Bi 8 10 ?_ ?_)
        ·refine KB.o false (AD [10] 0 (Ap ?_));cases h;exact⟨_,rfl,A4⟩
        refine KB.o false (AD [8] 0 (Ap ?_));cases h;exact⟨_,rfl,A4⟩
       refine KB.o false (Bi 8 9 ?_ ?_)
       ·refine KB.o false (AD [9] 0 (Ap ?_));cases h;exact⟨_,rfl,A4⟩
       refine KB.o false (AD [8] 0 (Ap ?_));cases h;exact⟨_,rfl,A4⟩
      ·refine KB.o false (Hl 7 9 10 ?_ ?_ ?_)
       ·refine KB.o false (Bi 9 10 ?_ ?_)
        ·refine KB.o false (AD [10] 0 (Ap ?_));cases h;exact⟨_,rfl,A4⟩
        refine KB.o false (AD [9] 0 (Ap ?_));cases h;exact⟨_,rfl,A4⟩
       ·refine KB.o false (Bi 7 10 ?_ ?_)
        ·refine KB.o false (AD [10] 0 (Ap ?_));cases h;exact⟨_,rfl,A4⟩
        refine KB.o false (AD [7] 0 (Ap ?_));cases h;exact⟨_,rfl,A4⟩
       refine KB.o false (Bi 7 9 ?_ ?_)
       ·refine KB.o false (AD [9] 0 (Ap ?_));cases h;exact⟨_,rfl,A4⟩
       refine KB.o false (AD [7] 0 (Ap ?_));cases h;exact⟨_,rfl,A4⟩
      ·refine KB.o false (Hl 7 8 10 ?_ ?_ ?_)
       ·refine KB.o false (Bi 8 10 ?_ ?_)
        ·refine KB.o false (AD [10] 0 (Ap ?_));cases h;exact⟨_,rfl,A4⟩
        refine KB.o false (AD [8] 0 (Ap ?_));cases h;exact⟨_,rfl,A4⟩
       ·refine KB.o false (Bi 7 10 ?_ ?_)
        ·refine KB.o false (AD [10] 0 (Ap ?_));cases h;exact⟨_,rfl,A4⟩
        refine KB.o false (AD [7] 0 (Ap ?_));cases h;exact⟨_,rfl,A4⟩
       refine KB.o false (Bi 7 8 ?_ ?_)
       ·refine KB.o false (AD [8] 0 (Ap ?_));cases h;exact⟨_,rfl,A4⟩
       refine KB.o false (AD [7] 0 (Ap ?_));cases h;exact⟨_,rfl,A4⟩
      refine KB.o false (Hl 7 8 9 ?_ ?_ ?_)
      ·refine KB.o false (Bi 8 9 ?_ ?_)
       ·refine KB.o false (AD [9] 0 (Ap ?_));cases h;exact⟨_,rfl,A4⟩
       refine KB.o false (AD [8] 0 (Ap ?_));cases h;exact⟨_,rfl,A4⟩
      ·refine KB.o false (Bi 7 9 ?_ ?_)
       ·refine KB.o false (AD [9] 0 (Ap ?_));cases h;exact⟨_,rfl,A4⟩
       refine KB.o false (AD [7] 0 (Ap ?_));cases h;exact⟨_,rfl,A4⟩
      refine KB.o false (Bi 7 8 ?_ ?_)
      ·refine KB.o false (AD [8] 0 (Ap ?_));cases h;exact⟨_,rfl,A4⟩
      refine KB.o false (AD [7] 0 (Ap ?_));cases h;exact⟨_,rfl,A4⟩
     ·refine KB.o false (Hl 6 8 9 ?_ ?_ ?_)
      ·refine KB.o false (KW.fz (.slot 25) 0 (Fw v5.1.Flash.Blocks) (KW.fz (.slot 25) 1 (Fx v5.1.Store.Vols) (KW.fz (.slot 25) 2 (Dj v5.1.Store.Arena.Knots) (Hl 8 9 10 ?_ ?_ ?_))))
       ·refine KB.o false (Bi 9 10 ?_ ?_)
        ·refine KB.o false (AD [10] 0 (Ap ?_));cases h;exact⟨_,rfl,A4⟩
        refine KB.o false (AD [9] 0 (Ap ?_));cases h;exact⟨_,rfl,A4⟩
       ·refine KB.o false (Bi 8 10 ?_ ?_)
        ·refine KB.o false (AD [10] 0 (Ap ?_));cases h;exact⟨_,rfl,A4⟩
        refine KB.o false (AD [8] 0 (Ap ?_));cases h;exact⟨_,rfl,A4⟩
       refine KB.o false (Bi 8 9 ?_ ?_)
       ·refine KB.o false (AD [9] 0 (Ap ?_));cases h;exact⟨_,rfl,A4⟩
       refine KB.o false (AD [8] 0 (Ap ?_));cases h;exact⟨_,rfl,A4⟩
      ·refine KB.o false (Bi 6 9 ?_ ?_)
       ·refine KB.o false (KW.fz (.slot 25) 0 (Fw v5.1.Flash.Blocks) (KW.fz (.slot 25) 1 (Fx v5.1.Store.Vols) (KW.fz (.slot 25) 2 (Dj v5.1.Store.Arena.Knots) (Bi 9 10 ?_ ?_))))
        ·refine KB.o false (AD [10] 0 (Ap ?_));cases h;exact⟨_,rfl,A4⟩
        refine KB.o false (AD [9] 0 (Ap ?_));cases h;exact⟨_,rfl,A4⟩
       refine KB.o false (AD [6] 0 (KW.fz (.slot 25) 0 (Fw v5.1.Flash.Blocks) (KW.fz (.slot 25) 1 (Fx v5.1.Store.Vols) (KW.fz (.slot 25) 2 (Dj v5.1.Store.Arena.Knots) (AD [10] 0 (Ap ?_))))));cases h;exact⟨_,rfl,A4⟩
      refine KB.o false (Bi 6 8 ?_ ?_)
      ·refine KB.o false (KW.fz (.slot 25) 0 (Fw v5.1.Flash.Blocks) (KW.fz (.slot 25) 1 (Fx v5.1.Store.Vols) (KW.fz (.slot 25) 2 (Dj v5.1.Store.Arena.Knots) (Bi 8 10 ?_ ?_))))
       ·refine KB.o false (AD [10] 0 (Ap ?_));cases h;exact⟨_,rfl,A4⟩
       refine KB.o false (AD [8] 0 (Ap ?_));cases h;exact⟨_,rfl,A4⟩
      refine KB.o false (AD [6] 0 (KW.fz (.slot 25) 0 (Fw v5.1.Flash.Blocks) (KW.fz (.slot 25) 1 (Fx v5.1.Store.Vols) (KW.fz (.slot 25) 2 (Dj v5.1.Store.Arena.Knots) (AD [10] 0 (Ap ?_))))));cases h;exact⟨_,rfl,A4⟩
     ·refine KB.o false (Hl 6 7 9 ?_ ?_ ?_)
      ·refine KB.o false (KW.fz (.slot 25) 0 (Fw v5.1.Flash.Blocks) (KW.fz (.slot 25) 1 (Fx v5.1.Store.Vols) (KW.fz (.slot 25) 2 (Dj v5.1.Store.Arena.Knots) (Hl 7 9 10 ?_ ?_ ?_))))
       ·refine KB.o false (Bi 9 10 ?_ ?_)
        ·refine KB.o false (AD [10] 0 (Ap ?_));cases h;exact⟨_,rfl,A4⟩
        refine KB.o false (AD [9] 0 (Ap ?_));cases h;exact⟨_,rfl,A4⟩
       ·refine KB.o false (Bi 7 10 ?_ ?_)
        ·refine KB.o false (AD [10] 0 (Ap ?_));cases h;exact⟨_,rfl,A4⟩
        refine KB.o false (AD [7] 0 (Ap ?_));cases h;exact⟨_,rfl,A4⟩
       refine KB.o false (Bi 7 9 ?_ ?_)
       ·refine KB.o false (AD [9] 0 (Ap ?_));cases h;exact⟨_,rfl,A4⟩
       refine KB.o false (AD [7] 0 (Ap ?_));cases h;exact⟨_,rfl,A4⟩
      ·refine KB.o false (Bi 6 9 ?_ ?_)
       ·refine KB.o false (KW.fz (.slot 25) 0 (Fw v5.1.Flash.Blocks) (KW.fz (.slot 25) 1 (Fx v5.1.Store.Vols) (KW.fz (.slot 25) 2 (Dj v5.1.Store.Arena.Knots) (Bi 9 10 ?_ ?_))))
        ·refine KB.o false (AD [10] 0 (Ap ?_));cases h;exact⟨_,rfl,A4⟩
        refine KB.o false (AD [9] 0 (Ap ?_));cases h;exact⟨_,rfl,A4⟩
       refine KB.o false (AD [6] 0 (KW.fz (.slot 25) 0 (Fw v5.1.Flash.Blocks) (KW.fz (.slot 25) 1 (Fx v5.1.Store.Vols) (KW.fz (.slot 25) 2 (Dj v5.1.Store.Arena.Knots) (AD [10] 0 (Ap ?_))))));cases h;exact⟨_,rfl,A4⟩
      refine KB.o false (Bi 6 7 ?_ ?_)
      ·refine KB.o false (KW.fz (.slot 25) 0 (Fw v5.1.Flash.Blocks) (KW.fz (.slot 25) 1 (Fx v5.1.Store.Vols) (KW.fz (.slot 25) 2 (Dj v5.1.Store.Arena.Knots) (Bi 7 10 ?_ ?_))))
       ·refine KB.o false (AD [10] 0 (Ap ?_));cases h;exact⟨_,rfl,A4⟩
       refine KB.o false (AD [7] 0 (Ap ?_));cases h;exact⟨_,rfl,A4⟩
      refine KB.o false (AD [6] 0 (KW.fz (.slot 25) 0 (Fw v5.1.Flash.Blocks) (KW.fz (.slot 25) 1 (Fx v5.1.Store.Vols) (KW.fz (.slot 25) 2 (Dj v5.1.Store.Arena.Knots) (AD [10] 0 (Ap ?_))))));cases h;exact⟨_,rfl,A4⟩
     refine KB.o false (Hl 6 7 8 ?_ ?_ ?_)
     ·refine KB.o false (KW.fz (.slot 25) 0 (Fw v5.1.Flash.Blocks) (KW.fz (.slot 25) 1 (Fx v5.1.Store.Vols) (KW.fz (.slot 25) 2 (Dj v5.1.Store.Arena.Knots) (Hl 7 8 10 ?_ ?_ ?_))))
      ·refine KB.o false (Bi 8 10 ?_ ?_)
       ·refine KB.o false (AD [10] 0 (Ap ?_));cases h;exact⟨_,rfl,A4⟩
       refine KB.o false (AD [8] 0 (Ap ?_));cases h;exact⟨_,rfl,A4⟩
      ·refine KB.o false (Bi 7 10 ?_ ?_)
       ·refine KB.o false (AD [10] 0 (Ap ?_));cases h;exact⟨_,rfl,A4⟩
       refine KB.o false (AD [7] 0 (Ap ?_));cases h;exact⟨_,rfl,A4⟩
      refine KB.o false (Bi 7 8 ?_ ?_)
      ·refine KB.o false (AD [8] 0 (Ap ?_));cases h;exact⟨_,rfl,A4⟩
      refine KB.o false (AD [7] 0 (Ap ?_));cases h;exact⟨_,rfl,A4⟩
     ·refine KB.o false (Bi 6 8 ?_ ?_)
      ·refine KB.o false (KW.fz (.slot 25) 0 (Fw v5.1.Flash.Blocks) (KW.fz (.slot 25) 1 (Fx v5.1.Store.Vols) (KW.fz (.slot 25) 2 (Dj v5.1.Store.Arena.Knots) (Bi 8 10 ?_ ?_))))
       ·refine KB.o false (AD [10] 0 (Ap ?_));cases h;exact⟨_,rfl,A4⟩
       refine KB.o false (AD [8] 0 (Ap ?_));cases h;exact⟨_,rfl,A4⟩
      refine KB.o false (AD [6] 0 (KW.fz (.slot 25) 0 (Fw v5.1.Flash.Blocks) (KW.fz (.slot 25) 1 (Fx v5.1.Store.Vols) (KW.fz (.slot 25) 2 (Dj v5.1.Store.Arena.Knots) (AD [10] 0 (Ap ?_))))));cases h;exact⟨_,rfl,A4⟩
     refine KB.o false (Bi 6 7 ?_ ?_)
     ·refine KB.o false (KW.fz (.slot 25) 0 (Fw v5.1.Flash.Blocks) (KW.fz (.slot 25) 1 (Fx v5.1.Store.Vols) (KW.fz (.slot 25) 2 (Dj v5.1.Store.Arena.Knots) (Bi 7 10 ?_ ?_))))
      ·refine KB.o false (AD [10] 0 (Ap ?_));cases h;exact⟨_,rfl,A4⟩
      refine KB.o false (AD [7] 0 (Ap ?_));cases h;exact⟨_,rfl,A4⟩
     refine KB.o false (AD [6] 0 (KW.fz (.slot 25) 0 (Fw v5.1.Flash.Blocks) (KW.fz (.slot 25) 1 (Fx v5.1.Store.Vols) (KW.fz (.slot 25) 2 (Dj v5.1.Store.Arena.Knots) (AD [10] 0 (Ap ?_))))));cases h;exact⟨_,rfl,A4⟩
    refine ZI h (SX _ _) (fun _=>rfl) (fun v6 gv6 h=>AD [0] 0 (BT 4 (KB.c 0 h (Zb _ _) (fun v7 gv7 h=>AD [5] 1 (rJ 6 7 8 9 ?_ ?_ ?_ ?_)))))
    ·refine KB.o false (KW.fz (.slot 25) 0 (Fw v7.1.Flash.Blocks) (KW.fz (.slot 25) 1 (Fx v7.1.Store.Vols) (KW.fz (.slot 25) 2 (Dj v7.1.Store.Arena.Knots) (rJ 7 8 9 10 ?_ ?_ ?_ ?_))))
     ·refine KB.o false (Hl 8 9 10 ?_ ?_ ?_)
      ·refine KB.o false (Bi 9 10 ?_ ?_)
       ·refine KB.o false (AD [10] 0 (Ap ?_));cases h;exact⟨_,rfl,A4⟩
       refine KB.o false (AD [9] 0 (Ap ?_));cases h;exact⟨_,rfl,A4⟩
      ·refine KB.o false (Bi 8 10 ?_ ?_)
       ·refine KB.o false (AD [10] 0 (Ap ?_));cases h;exact⟨_,rfl,A4⟩
       refine KB.o false (AD [8] 0 (Ap ?_));cases h;exact⟨_,rfl,A4⟩
      refine KB.o false (Bi 8 9 ?_ ?_)
      ·refine KB.o false (AD [9] 0 (Ap ?_));cases h;exact⟨_,rfl,A4⟩
      refine KB.o false (AD [8] 0 (Ap ?_));cases h;exact⟨_,rfl,A4⟩
     ·refine KB.o false (Hl 7 9 10 ?_ ?_ ?_)
      ·refine KB.o false (Bi 9 10 ?_ ?_)
       ·refine KB.o false (AD [10] 0 (Ap ?_));cases h;exact⟨_,rfl,A4⟩
       refine KB.o false (AD [9] 0 (Ap ?_));cases h;exact⟨_,rfl,A4⟩
      ·refine KB.o false (Bi 7 10 ?_ ?_)
       ·refine KB.o false (AD [10] 0 (Ap ?_));cases h;exact⟨_,rfl,A4⟩
       refine KB.o false (AD [7] 0 (Ap ?_));cases h;exact⟨_,rfl,A4⟩
      refine KB.o false (Bi 7 9 ?_ ?_)
      ·refine KB.o false (AD [9] 0 (Ap ?_));cases h;exact⟨_,rfl,A4⟩
      refine KB.o false (AD [7] 0 (Ap ?_));cases h;exact⟨_,rfl,A4⟩
     ·refine KB.o false (Hl 7 8 10 ?_ ?_ ?_)
      ·refine KB.o false (Bi 8 10 ?_ ?_)
       ·refine KB.o false (AD [10] 0 (Ap ?_));cases h;exact⟨_,rfl,A4⟩
       refine KB.o false (AD [8] 0 (Ap ?_));cases h;exact⟨_,rfl,A4⟩
      ·refine KB.o false (Bi 7 10 ?_ ?_)
       ·refine KB.o false (AD [10] 0 (Ap ?_));cases h;exact⟨_,rfl,A4⟩
       refine KB.o false (AD [7] 0 (Ap ?_));cases h;exact⟨_,rfl,A4⟩
      refine KB.o false (Bi 7 8 ?_ ?_)
      ·refine KB.o false (AD [8] 0 (Ap ?_));cases h;exact⟨_,rfl,A4⟩
      refine KB.o false (AD [7] 0 (Ap ?_));cases h;exact⟨_,rfl,A4⟩
     refine KB.o false (Hl 7 8 9 ?_ ?_ ?_)
     ·refine KB.o false (Bi 8 9 ?_ ?_)
      ·refine KB.o false (AD [9] 0 (Ap ?_));cases h;exact⟨_,rfl,A4⟩
      refine KB.o false (AD [8] 0 (Ap ?_));cases h;exact⟨_,rfl,A4⟩
     ·refine KB.o false (Bi 7 9 ?_ ?_)
      ·refine KB.o false (AD [9] 0 (Ap ?_));cases h;exact⟨_,rfl,A4⟩
      refine KB.o false (AD [7] 0 (Ap ?_));cases h;exact⟨_,rfl,A4⟩
     refine KB.o false (Bi 7 8 ?_ ?_)
     ·refine KB.o false (AD [8] 0 (Ap ?_));cases h;exact⟨_,rfl,A4⟩
     refine KB.o false (AD [7] 0 (Ap ?_));cases h;exact⟨_,rfl,A4⟩
    ·refine KB.o false (Hl 6 8 9 ?_ ?_ ?_)
     ·refine KB.o false (KW.fz (.slot 25) 0 (Fw v7.1.Flash.Blocks) (KW.fz (.slot 25) 1 (Fx v7.1.Store.Vols) (KW.fz (.slot 25) 2 (Dj v7.1.Store.Arena.Knots) (Hl 8 9 10 ?_ ?_ ?_))))
      ·refine KB.o false (Bi 9 10 ?_ ?_)
       ·refine KB.o false (AD [10] 0 (Ap ?_));cases h;exact⟨_,rfl,A4⟩
       refine KB.o false (AD [9] 0 (Ap ?_));cases h;exact⟨_,rfl,A4⟩
      ·refine KB.o false (Bi 8 10 ?_ ?_)
       ·refine KB.o false (AD [10] 0 (Ap ?_));cases h;exact⟨_,rfl,A4⟩
       refine KB.o false (AD [8] 0 (Ap ?_));cases h;exact⟨_,rfl,A4⟩
      refine KB.o false (Bi 8 9 ?_ ?_)
      ·refine KB.o false (AD [9] 0 (Ap ?_));cases h;exact⟨_,rfl,A4⟩
      refine KB.o false (AD [8] 0 (Ap ?_));cases h;exact⟨_,rfl,A4⟩
     ·refine KB.o false (Bi 6 9 ?_ ?_)
      ·refine KB.o false (KW.fz (.slot 25) 0 (Fw v7.1.Flash.Blocks) (KW.fz (.slot 25) 1 (Fx v7.1.Store.Vols) (KW.fz (.slot 25) 2 (Dj v7.1.Store.Arena.Knots) (Bi 9 10 ?_ ?_))))
       ·refine KB.o false (AD [10] 0 (Ap ?_));cases h;exact⟨_,rfl,A4⟩
       refine KB.o false (AD [9] 0 (Ap ?_));cases h;exact⟨_,rfl,A4⟩
      refine KB.o false (AD [6] 0 (KW.fz (.slot 25) 0 (Fw v7.1.Flash.Blocks) (KW.fz (.slot 25) 1 (Fx v7.1.Store.Vols) (KW.fz (.slot 25) 2 (Dj v7.1.Store.Arena.Knots) (AD [10] 0 (Ap ?_))))));cases h;exact⟨_,rfl,A4⟩
     refine KB.o false (Bi 6 8 ?_ ?_)
     ·refine KB.o false (KW.fz (.slot 25) 0 (Fw v7.1.Flash.Blocks) (KW.fz (.slot 25) 1 (Fx v7.1.Store.Vols) (KW.fz (.slot 25) 2 (Dj v7.1.Store.Arena.Knots) (Bi 8 10 ?_ ?_))))
      ·refine KB.o false (AD [10] 0 (Ap ?_));cases h;exact⟨_,rfl,A4⟩
      refine KB.o false (AD [8] 0 (Ap ?_));cases h;exact⟨_,rfl,A4⟩
     refine KB.o false (AD [6] 0 (KW.fz (.slot 25) 0 (Fw v7.1.Flash.Blocks) (KW.fz (.slot 25) 1 (Fx v7.1.Store.Vols) (KW.fz (.slot 25) 2 (Dj v7.1.Store.Arena.Knots) (AD [10] 0 (Ap ?_))))));cases h;exact⟨_,rfl,A4⟩
    ·refine KB.o false (Hl 6 7 9 ?_ ?_ ?_)
     ·refine KB.o false (KW.fz (.slot 25) 0 (Fw v7.1.Flash.Blocks) (KW.fz (.slot 25) 1 (Fx v7.1.Store.Vols) (KW.fz (.slot 25) 2 (Dj v7.1.Store.Arena.Knots) (Hl 7 9 10 ?_ ?_ ?_))))
      ·refine KB.o false (Bi 9 10 ?_ ?_)
       ·refine KB.o false (AD [10] 0 (Ap ?_));cases h;exact⟨_,rfl,A4⟩
       refine KB.o false (AD [9] 0 (Ap ?_));cases h;exact⟨_,rfl,A4⟩
      ·refine KB.o false (Bi 7 10 ?_ ?_)
       ·refine KB.o false (AD [10] 0 (Ap ?_));cases h;exact⟨_,rfl,A4⟩
       refine KB.o false (AD [7] 0 (Ap ?_));cases h;exact⟨_,rfl,A4⟩
      refine KB.o false (Bi 7 9 ?_ ?_)
      ·refine KB.o false (AD [9] 0 (Ap ?_));cases h;exact⟨_,rfl,A4⟩
      refine KB.o false (AD [7] 0 (Ap ?_));cases h;exact⟨_,rfl,A4⟩
     ·refine KB.o false (Bi 6 9 ?_ ?_)
      ·refine KB.o false (KW.fz (.slot 25) 0 (Fw v7.1.Flash.Blocks) (KW.fz (.slot 25) 1 (Fx v7.1.Store.Vols) (KW.fz (.slot 25) 2 (Dj v7.1.Store.Arena.Knots) (Bi 9 10 ?_ ?_))))
       ·refine KB.o false (AD [10] 0 (Ap ?_));cases h;exact⟨_,rfl,A4⟩
       refine KB.o false (AD [9] 0 (Ap ?_));cases h;exact⟨_,rfl,A4⟩
      refine KB.o false (AD [6] 0 (KW.fz (.slot 25) 0 (Fw v7.1.Flash.Blocks) (KW.fz (.slot 25) 1 (Fx v7.1.Store.Vols) (KW.fz (.slot 25) 2 (Dj v7.1.Store.Arena.Knots) (AD [10] 0 (Ap ?_))))));cases h;exact⟨_,rfl,A4⟩
     refine KB.o false (Bi 6 7 ?_ ?_)
     ·refine KB.o false (KW.fz (.slot 25) 0 (Fw v7.1.Flash.Blocks) (KW.fz (.slot 25) 1 (Fx v7.1.Store.Vols) (KW.fz (.slot 25) 2 (Dj v7.1.Store.Arena.Knots) (Bi 7 10 ?_ ?_))))
      ·refine KB.o false (AD [10] 0 (Ap ?_));cases h;exact⟨_,rfl,A4⟩
      refine KB.o false (AD [7] 0 (Ap ?_));cases h;exact⟨_,rfl,A4⟩
     refine KB.o false (AD [6] 0 (KW.fz (.slot 25) 0 (Fw v7.1.Flash.Blocks) (KW.fz (.slot 25) 1 (Fx v7.1.Store.Vols) (KW.fz (.slot 25) 2 (Dj v7.1.Store.Arena.Knots) (AD [10] 0 (Ap ?_))))));cases h;exact⟨_,rfl,A4⟩
    refine KB.o false (Hl 6 7 8 ?_ ?_ ?_)
    ·refine KB.o false (KW.fz (.slot 25) 0 (Fw v7.1.Flash.Blocks) (KW.fz (.slot 25) 1 (Fx v7.1.Store.Vols) (KW.fz (.slot 25) 2 (Dj v7.1.Store.Arena.Knots) (Hl 7 8 10 ?_ ?_ ?_))))
     ·refine KB.o false (Bi 8 10 ?_ ?_)
      ·refine KB.o false (AD [10] 0 (Ap ?_));cases h;exact⟨_,rfl,A4⟩
      refine KB.o false (AD [8] 0 (Ap ?_));cases h;exact⟨_,rfl,A4⟩
     ·refine KB.o false (Bi 7 10 ?_ ?_)
      ·refine KB.o false (AD [10] 0 (Ap ?_));cases h;exact⟨_,rfl,A4⟩
      refine KB.o false (AD [7] 0 (Ap ?_));cases h;exact⟨_,rfl,A4⟩
     refine KB.o false (Bi 7 8 ?_ ?_)
     ·refine KB.o false (AD [8] 0 (Ap ?_));cases h;exact⟨_,rfl,A4⟩
     refine KB.o false (AD [7] 0 (Ap ?_));cases h;exact⟨_,rfl,A4⟩
    ·refine KB.o false (Bi 6 8 ?_ ?_)
     ·refine KB.o false (KW.fz (.slot 25) 0 (Fw v7.1.Flash.Blocks) (KW.fz (.slot 25) 1 (Fx v7.1.Store.Vols) (KW.fz (.slot 25) 2 (Dj v7.1.Store.Arena.Knots) (Bi 8 10 ?_ ?_))))
      ·refine KB.o false (AD [10] 0 (Ap ?_));cases h;exact⟨_,rfl,A4⟩
      refine KB.o false (AD [8] 0 (Ap ?_));cases h;exact⟨_,rfl,A4⟩
     refine KB.o false (AD [6] 0 (KW.fz (.slot 25) 0 (Fw v7.1.Flash.Blocks) (KW.fz (.slot 25) 1 (Fx v7.1.Store.Vols) (KW.fz (.slot 25) 2 (Dj v7.1.Store.Arena.Knots) (AD [10] 0 (Ap ?_))))));cases h;exact⟨_,rfl,A4⟩
    refine KB.o false (Bi 6 7 ?_ ?_)
    ·refine KB.o false (KW.fz (.slot 25) 0 (Fw v7.1.Flash.Blocks) (KW.fz (.slot 25) 1 (Fx v7.1.Store.Vols) (KW.fz (.slot 25) 2 (Dj v7.1.Store.Arena.Knots) (Bi 7 10 ?_ ?_))))
     ·refine KB.o false (AD [10] 0 (Ap ?_));cases h;exact⟨_,rfl,A4⟩
     refine KB.o false (AD [7] 0 (Ap ?_));cases h;exact⟨_,rfl,A4⟩
    refine KB.o false (AD [6] 0 (KW.fz (.slot 25) 0 (Fw v7.1.Flash.Blocks) (KW.fz (.slot 25) 1 (Fx v7.1.Store.Vols) (KW.fz (.slot 25) 2 (Dj v7.1.Store.Arena.Knots) (AD [10] 0 (Ap ?_))))));cases h;exact⟨_,rfl,A4⟩
   intro j1 h E hE;refine AE hE (Ax (Ab 3 0 (RW.nil ?_)));cases h;exact⟨_,rfl,A4⟩
  refine Wp.exit ?_;cases h;exact⟨_,rfl,A4⟩
 intro v8 h E hE;refine AE hE (ws (Ab 2 0 (RW.nil ?_)));cases h;exact Wp.ret ⟨.inr rfl,r9 (by kernel_rfl)⟩
theorem VW (a:List Int) (r:AM) (h:Jx a=some r):Be Tryz.prog 8 [.sv (.one (.sl false 5 1 (Ah c5 a)))] (.agg [.sl false 77 3 (Ah (Cs false) r.Flash.Blocks),.sl false 39 2 (Ah CD r.Store.Vols),.sl false 150 2 (Ah (AN false) r.Store.Arena.Knots),.int .i64 r.Store.Next,.int .i64 r.Seq,.int .i64 r.Tx,.int .i64 r.Base]) (List.replicate 1 .gone):=by
 unfold Jx at h;refine gk Tryz.func8 rfl Tryz.ntmps8 (ws (Ab 1 0 (RW.nil (ws (Ab 1 0 (AAW h (Vz _) (fun v1 gv1 h=>Gc h (Xq _) (fun _=>rfl) (fun v2 gv2 h=>Ab 1 0 (RW.nil ?_)))))))));cases h;exact Wp.ret ⟨.inr rfl,BJ (by kernel_rfl)⟩
def Ug (z1:List Int) (z2:Int) (z3:List Int) (z4:Int) (z5:Int):St:=AG [(3,(.one (.ptr (.box 7) 0 [] 0))),(4,(.one (.sl true 3 1 (Ah c3 z1)))),(5,(I z2))] [(.box 7,[.sl false 5 1 (Ah c5 z3),.int .i64 z4,.int .i64 z5])]
def Uf (z6:List Int):St:=AG [(4,(.one (.sl true 3 1 (Ah c3 z6))))] []
theorem VV (a:List Int) (r:List Int) (h:Jw a=some r):Be Tryz.prog 14 [.sv (.one (.sl false 5 1 (Ah c5 a)))] (.one (.sl true 3 1 (Ah c3 r))) (List.replicate 1 .gone):=by
 unfold Jw at h;refine gk Tryz.func14 rfl Tryz.ntmps14 (ws (Ab 1 0 (RW.nil (ws (Ab 1 0 (AAW h (Vz _) (fun v1 gv1 h=>Ab 1 0 (RW.nil (ws (Ab 1 0 (Gc h (IQ _) (fun _=>rfl) (fun v2 gv2 h=>RW.nil (ws ?_)))))))))))));refine Ab 2 2 (RW.nil (Wp.seq (ws (Ab 1 0 (RW.nil (BO h [3,4,5] [.box 7] (fun s=>(Ug s.1 s.2.1 s.2.2.1 s.2.2.2.1 s.2.2.2.2)) [4] [] (fun s=>(Uf s)) A4 ?_ ?_))))))
 ·rintro⟨b,c,y01,y11,y21⟩ o (h:E9 b c y01 y11 y21=some o);unfold E9 at h;refine Wp.seq (ws (Ab 2 0 (RW.nil (wc h (fun h=>?_) (fun h=>?_)))))
  ·refine Wp.skip (Wp.seq (Wp.block (Ax (Ab 2 0 (Gc h (CX _ _) (fun _=>rfl) (fun v3 gv3 h=>Ab 1 0 (bd h fun q1 gq1 h=>Dl (EQ k3 (fun _=>rfl) b gq1) (Ab 1 1 (RW.nil (Ax (Ab 3 0 (RW.nil ?_))))))))))));cases h;exact⟨_,rfl,A4⟩
  refine Wp.exit ?_;cases h;exact⟨_,rfl,A4⟩
 intro v4 h E hE;refine AE hE (ws (Ab 2 2 (RW.nil ?_)));cases h;exact Wp.ret ⟨.inr rfl,BJ (by kernel_rfl)⟩
theorem Pt (xN:Int) (b:Int) (a:Int) (r:Bool) (h:RB xN b a=some r):Be Tryz.prog 35 [.sv (I xN),.sv (I b),.sv (I a)] (B r) (List.replicate 3 .gone):=by
 unfold RB at h;refine gk Tryz.func35 rfl Tryz.ntmps35 (ws (Ab 1 0 (RW.nil (ws (Ab 4 0 (Ba 10 h (fun h=>?_) (fun h=>?_)))))))
 ·refine Ab 5 0 (RW.nil ?_);cases h;exact Wp.ret ⟨.inr rfl,BJ (by kernel_rfl)⟩
 refine Ab 5 0 (RW.nil ?_);cases h;exact Wp.ret ⟨.inr rfl,BJ (by kernel_rfl)⟩
theorem oE (xA:Arena) (a:Int) (r:Bool) (h:Ps xA a=some r):Be Tryz.prog 102 [.sv (.agg [.sl false 150 2 (Ah (AN false) xA.Knots)]),.sv (I a)] (B r) (List.replicate 2 .gone):=by
 unfold Ps at h;refine gk Tryz.func102 rfl Tryz.ntmps102 (ws (Ab 2 0 (RW.nil (ws (Ab 3 0 (RW.q (D5 (CM false) xA.Knots) (Ab 1 0 (RW.c 0 h (Pt _ _ _) (fun v1 gv1 h=>Ab 1 0 (Ba 11 h (fun h=>?_) (fun h=>?_)))))))))))
 ·refine Ab 3 0 (bd h fun x1 gx1 h=>RW.q (Cq (CM false) gx1) (RW.q (DD (CM false) gx1 0 0) (RW.q (CN (CM false) gx1 0) (Ab 3 0 (RW.nil ?_)))));cases h;exact Wp.ret ⟨.inr rfl,BJ (by kernel_rfl)⟩
 refine Ab 9 0 (RW.nil ?_);cases h;exact Wp.ret ⟨.inr rfl,BJ (by kernel_rfl)⟩
def eK (xA:Arena) (z1:Int):St:=AG [(1,(.one (.ptr (.box 1) 0 [] 0))),(8,(.one (.sl false 150 2 (Ah (AN false) xA.Knots)))),(9,(I (ln xA.Knots))),(10,(I z1))] [(.box 1,[.sl false 150 2 (Ah (AN false) xA.Knots)])]
def eJ:St:=AG [] []
def eI (xA:Arena) (y1:Int) (x1:BX) (z2:Int):St:=AG [(1,(.one (.ptr (.box 1) 0 [] 0))),(3,(I y1)),(4,(.one (.ptr (.box 4) 0 [] 0))),(8,(.one (.sl false 150 2 (Ah (AN false) xA.Knots)))),(9,(I (ln xA.Knots))),(10,(I y1)),(20,(.one (.sl false 3 1 (Ah c3 x1.Kids)))),(21,(I (ln x1.Kids))),(22,(I z2))] [(.box 1,[.sl false 150 2 (Ah (AN false) xA.Knots)]),(.box 4,[.bool x1.Leaf,.sl false 3 1 (Ah c3 x1.Kids)])]
def eH (xA:Arena) (y1:Int):St:=AG [(1,(.one (.ptr (.box 1) 0 [] 0))),(8,(.one (.sl false 150 2 (Ah (AN false) xA.Knots)))),(9,(I (ln xA.Knots))),(10,(I y1))] [(.box 1,[.sl false 150 2 (Ah (AN false) xA.Knots)])]
def eG (xA:Arena) (y1:Int) (x1:BX) (y2:Int) (z3:Bool):St:=AG [(1,(.one (.ptr (.box 1) 0 [] 0))),(3,(I y1)),(4,(.one (.ptr (.box 4) 0 [] 0))),(8,(.one (.sl false 150 2 (Ah (AN false) xA.Knots)))),(9,(I (ln xA.Knots))),(10,(I y1)),(20,(.one (.sl false 3 1 (Ah c3 x1.Kids)))),(21,(I (ln x1.Kids))),(22,(I y2)),(56,(B z3))] [(.box 1,[.sl false 150 2 (Ah (AN false) xA.Knots)]),(.box 4,[.bool x1.Leaf,.sl false 3 1 (Ah c3 x1.Kids)])]
theorem j8 (xA:Arena) (r:Bool) (h:N6 xA=some r):Be Tryz.prog 103 [.sv (.agg [.sl false 150 2 (Ah (AN false) xA.Knots)])] (B r) (List.replicate 1 .gone):=by
 unfold N6 at h;refine gk Tryz.func103 rfl Tryz.ntmps103 (ws (Ab 2 0 (RW.nil (Wp.seq (ws (Ab 2 0 (RW.q (D5 (CM false) xA.Knots) (Ab 1 0 (RW.nil (Fk h [1,8,9,10] [.box 1] (fun s=>(eK xA s)) [] [] (fun _=>eJ) A4 ?_ ?_))))))))))
 ·rintro y1 o (h:J6 xA y1=some o) hk1;unfold J6 at h;refine ws (Ab 1 0 (RW.nil (Wp.seq (wc h (fun h=>?_) (fun h=>?_)))))
  ·refine Wp.skip (Wp.seq (Wp.block (ws (Ab 1 0 (bd h fun x1 gx1 h=>RW.q (Cq (CM false) gx1) (RW.q (Si (CM false) gx1 0 2) (Ab 3 0 (RW.nil (Wp.seq (ws (Ab 2 0 (RW.q (D5 k3 x1.Kids) ?_))))))))))));refine Ab 1 0 (RW.nil (wc h (fun h=>?_) (fun h=>?_)))
   ·refine ws (Ab 1 0 (RW.nil ?_));cases h;replace h:some _=some _:=hk1 _ rfl;cases h;exact Wp.ret ⟨.inr rfl,BJ (by kernel_rfl)⟩
   refine Wp.skip (ws (Ab 2 0 (RW.q (D5 k3 x1.Kids) (Ab 1 0 (RW.nil (Fk h [1,3,4,8,9,10,20,21,22] [.box 1,.box 4] (fun s=>(eI xA y1 x1 s)) [1,8,9,10] [.box 1] (fun _=>(eH xA y1)) A4 ?_ ?_))))))
   ·rintro y2 o (h:J5 xA y1 x1 y2=some o) hk2;unfold J5 at h;refine ws (Ab 1 0 (RW.nil (Wp.seq (wc h (fun h=>?_) (fun h=>?_)))))
    ·refine Wp.skip (Wp.seq (Wp.block (ws (bd h fun x2 gx2 h=>RW.q (Cq k3 gx2) (RW.q (CN k3 gx2 0) (Ab 1 0 (RW.nil (Wp.seq (B3 h [1,3,4,8,9,10,20,21,22,56] [.box 1,.box 4] (fun a=>(eG xA y1 x1 y2 a)) ?_ ?_)))))))))
     ·intro a h;refine Ax (Ab 3 0 (Ba 28 h (fun h=>?_) (fun h=>?_)))
      ·refine Ab 4 0 (Ba 32 h (fun h=>?_) (fun h=>?_))
       ·refine Ab 24 0 (RW.nil ?_);cases h;exact⟨_,rfl,A4⟩
       refine Ab 4 0 (Ba 36 h (fun h=>?_) (fun h=>?_))
       ·refine Ab 4 0 (Ba 40 h (fun h=>?_) (fun h=>?_))
        ·refine Ab 3 0 (RW.c 0 h (Pt _ _ _) (fun v1 gv1 h=>Ab 2 0 (Ba 46 h (fun h=>?_) (fun h=>?_))))
         ·refine Ab 10 0 (RW.nil ?_);cases h;exact⟨_,rfl,A4⟩
         refine Ab 3 0 (bd h fun x3 gx3 h=>RW.q (Cq (CM false) gx3) (RW.q (DD (CM false) gx3 0 0) (RW.q (CN (CM false) gx3 0) (Ab 4 0 (RW.nil ?_)))));cases h;exact⟨_,rfl,A4⟩
        refine Ab 16 0 (RW.nil ?_);cases h;exact⟨_,rfl,A4⟩
       refine Ab 20 0 (RW.nil ?_);cases h;exact⟨_,rfl,A4⟩
      refine Ab 8 0 (Ba 36 h (fun h=>?_) (fun h=>?_))
      ·refine Ab 4 0 (Ba 40 h (fun h=>?_) (fun h=>?_))
       ·refine Ab 3 0 (RW.c 0 h (Pt _ _ _) (fun v2 gv2 h=>Ab 2 0 (Ba 46 h (fun h=>?_) (fun h=>?_))))
        ·refine Ab 10 0 (RW.nil ?_);cases h;exact⟨_,rfl,A4⟩
        refine Ab 3 0 (bd h fun x4 gx4 h=>RW.q (Cq (CM false) gx4) (RW.q (DD (CM false) gx4 0 0) (RW.q (CN (CM false) gx4 0) (Ab 4 0 (RW.nil ?_)))));cases h;exact⟨_,rfl,A4⟩
       refine Ab 16 0 (RW.nil ?_);cases h;exact⟨_,rfl,A4⟩
      refine Ab 20 0 (RW.nil ?_);cases h;exact⟨_,rfl,A4⟩
     intro j1 h E hE;refine AE hE (wc h (fun h=>?_) (fun h=>?_))
     ·refine ws (Ab 1 0 (RW.nil ?_));cases h;replace h:some _=some _:=hk2 _ rfl;cases h;replace h:some _=some _:=hk1 _ rfl;cases h;exact Wp.ret ⟨.inr rfl,BJ (by kernel_rfl)⟩
     refine Wp.skip (Ax (Ab 2 0 (RW.nil ?_)));cases h;exact⟨_,rfl,A4⟩
    refine Wp.exit ?_;cases h;exact⟨_,rfl,A4⟩
   intro v3 h E hE;refine AE hE (Ax (Ab 2 0 (RW.nil ?_)));cases h;exact⟨_,rfl,A4⟩
  refine Wp.exit ?_;cases h;exact⟨_,rfl,A4⟩
 intro v4 h E hE;refine AE hE (ws (Ab 1 0 (RW.nil ?_)));cases h;exact Wp.ret ⟨.inr rfl,BJ (by kernel_rfl)⟩
theorem dV (xA:Arena) (b:Int) (a:Int) (r:Int) (h:Oq xA b a=some r):Be Tryz.prog 104 [.sv (.agg [.sl false 150 2 (Ah (AN false) xA.Knots)]),.sv (I b),.sv (I a)] (I r) (List.replicate 3 .gone):=by
 unfold Oq at h;refine gk Tryz.func104 rfl Tryz.ntmps104 (ws (Ab 2 0 (RW.nil (ws (Ab 3 0 (bd h fun x1 gx1 h=>RW.q (Cq (CM false) gx1) (RW.q (DD (CM false) gx1 0 1) (RW.q (CN (CM false) gx1 1) (Ab 2 0 (bd h fun x2 gx2 h=>RW.q (Cq k3 gx2) (RW.q (CN k3 gx2 0) ?_)))))))))));refine Ab 1 0 (RW.nil (Wp.seq (ws (Ab 2 0 (RW.nil (wc h (fun h=>?_) (fun h=>?_)))))))
 ·refine ws (Ab 1 0 (RW.nil ?_));cases h;exact Wp.ret ⟨.inr rfl,BJ (by kernel_rfl)⟩
 refine Wp.skip (ws (Ab 3 0 (bd h fun x3 gx3 h=>RW.q (Cq (CM false) gx3) (RW.q (DD (CM false) gx3 0 1) (RW.q (CN (CM false) gx3 1) (Ab 2 0 (bd h fun x4 gx4 h=>RW.q (Cq k3 gx4) (RW.q (CN k3 gx4 0) (Ab 1 0 (RW.nil ?_))))))))));cases h;exact Wp.ret ⟨.inr rfl,BJ (by kernel_rfl)⟩
def oL (xA:Arena) (b:Int) (a:Int) (z1:Bool):St:=AG [(1,(I b)),(2,(I a)),(3,(.one (.ptr (.box 3) 0 [] 0))),(20,(B z1))] [(.box 3,[.sl false 150 2 (Ah (AN false) xA.Knots)])]
theorem tK (xA:Arena) (d:Int) (b:Int) (r:Int) (h:RK xA d b=some r):Be Tryz.prog 61 [.sv (.agg [.sl false 150 2 (Ah (AN false) xA.Knots)]),.sv (I d),.sv (I b)] (I r) (List.replicate 3 .gone):=by
 unfold RK at h;refine gk Tryz.func61 rfl Tryz.ntmps61 (ws (Ab 2 0 (RW.nil (Wp.seq (Wp.seq (B3 h [1,2,3,20] [.box 3] (fun a=>(oL xA d b a)) ?_ ?_))))))
 ·intro a h;refine Ax (Ab 1 0 (RW.c 0 h (Pt _ _ _) (fun v1 gv1 h=>Ab 2 0 (Ba 10 h (fun h=>?_) (fun h=>?_)))))
  ·refine Ab 10 0 (RW.nil ?_);cases h;exact⟨_,rfl,A4⟩
  refine Ab 2 0 (RW.c 0 h (oE _ _) (fun v2 gv2 h=>Ab 3 0 (Ba 16 h (fun h=>?_) (fun h=>?_))))
  ·refine Ab 4 0 (RW.nil ?_);cases h;exact⟨_,rfl,A4⟩
  refine Ab 1 0 (RW.c 0 h (j8 _) (fun v3 gv3 h=>Ab 2 0 (RW.nil ?_)));cases h;exact⟨_,rfl,A4⟩
 intro j1 h E hE;refine AE hE (wc h (fun h=>?_) (fun h=>?_))
 ·refine ws (Ab 1 0 (RW.nil ?_));cases h;exact Wp.ret ⟨.inr rfl,BJ (by kernel_rfl)⟩
 refine Wp.skip (ws (Ab 3 0 (RW.c 0 h (dV _ _ _) (fun v4 gv4 h=>Ab 1 0 (RW.nil ?_)))));cases h;exact Wp.ret ⟨.inr rfl,BJ (by kernel_rfl)⟩
def oN (xA:Arena) (a:Int) (z1:List Int) (z2:Int):St:=AG [(1,(I a)),(2,(.one (.ptr (.box 2) 0 [] 0))),(5,(.one (.sl true 3 1 (Ah c3 z1)))),(7,(I z2))] [(.box 2,[.sl false 150 2 (Ah (AN false) xA.Knots)])]
def oM (z3:List Int):St:=AG [(5,(.one (.sl true 3 1 (Ah c3 z3))))] []
theorem tL (xA:Arena) (a:Int) (r:List Int) (h:RM xA a=some r):Be Tryz.prog 116 [.sv (.agg [.sl false 150 2 (Ah (AN false) xA.Knots)]),.sv (I a)] (.one (.sl true 3 1 (Ah c3 r))) (List.replicate 2 .gone):=by
 unfold RM at h;refine gk Tryz.func116 rfl Tryz.ntmps116 (ws (Ab 2 0 (RW.nil (ws (Ab 1 0 (RW.nil (Wp.seq (ws (Ab 1 0 (RW.nil (BO h [1,2,5,7] [.box 2] (fun s=>(oN xA a s.1 s.2)) [5] [] (fun s=>(oM s)) A4 ?_ ?_)))))))))))
 ·rintro⟨b,y1⟩ o (h:Kl xA a b y1=some o);unfold Kl at h;refine ws (Ab 1 0 (RW.nil (Wp.seq (wc h (fun h=>?_) (fun h=>?_)))))
  ·refine Wp.skip (Wp.seq (Wp.block (ws (Ab 2 0 (RW.nil (Ax (Ab 4 0 (RW.c 0 h (tK _ _ _) (fun v1 gv1 h=>Ab 1 0 (bd h fun q1 gq1 h=>Dl (EQ k3 (fun _=>rfl) b gq1) (Ab 1 1 (RW.nil ?_))))))))))));refine Ax (Ab 2 0 (RW.nil ?_));cases h;exact⟨_,rfl,A4⟩
  refine Wp.exit ?_;cases h;exact⟨_,rfl,A4⟩
 intro v2 h E hE;refine AE hE (ws (Ab 2 2 (RW.nil ?_)));cases h;exact Wp.ret ⟨.inr rfl,BJ (by kernel_rfl)⟩
def Y1 (xS:Store) (z1:List Int) (z2:Int):St:=AG [(1,(.one (.ptr (.box 1) 0 [] 0))),(3,(.one (.sl true 3 1 (Ah c3 z1)))),(9,(.one (.sl false 39 2 (Ah CD xS.Vols)))),(10,(I (ln xS.Vols))),(11,(I z2))] [(.box 1,[.sl false 39 2 (Ah CD xS.Vols),.sl false 150 2 (Ah (AN false) xS.Arena.Knots),.int .i64 xS.Next])]
def Y0 (z3:List Int):St:=AG [(3,(.one (.sl true 3 1 (Ah c3 z3))))] []
def Yz (xS:Store) (y1:Int) (v1:List Int) (z4:List Int) (z5:Int):St:=AG [(1,(.one (.ptr (.box 1) 0 [] 0))),(3,(.one (.sl true 3 1 (Ah c3 z4)))),(9,(.one (.sl false 39 2 (Ah CD xS.Vols)))),(10,(I (ln xS.Vols))),(11,(I y1)),(19,(.one (.sl true 3 1 (Ah c3 v1)))),(20,(I (ln v1))),(21,(I z5))] [(.box 1,[.sl false 39 2 (Ah CD xS.Vols),.sl false 150 2 (Ah (AN false) xS.Arena.Knots),.int .i64 xS.Next])]
def Yy (xS:Store) (y1:Int) (z6:List Int):St:=AG [(1,(.one (.ptr (.box 1) 0 [] 0))),(3,(.one (.sl true 3 1 (Ah c3 z6)))),(9,(.one (.sl false 39 2 (Ah CD xS.Vols)))),(10,(I (ln xS.Vols))),(11,(I y1))] [(.box 1,[.sl false 39 2 (Ah CD xS.Vols),.sl false 150 2 (Ah (AN false) xS.Arena.Knots),.int .i64 xS.Next])]
theorem dW (xS:Store) (r:List Int) (h:Mx xS=some r):Be Tryz.prog 82 [.sv (.agg [.sl false 39 2 (Ah CD xS.Vols),.sl false 150 2 (Ah (AN false) xS.Arena.Knots),.int .i64 xS.Next])] (.one (.sl true 3 1 (Ah c3 r))) (List.replicate 1 .gone):=by
 unfold Mx at h;refine gk Tryz.func82 rfl Tryz.ntmps82 (ws (Ab 2 0 (RW.nil (ws (Ab 1 0 (RW.nil (Wp.seq (ws (Ab 2 0 (RW.q (D5 Em xS.Vols) (Ab 1 0 (RW.nil (BO h [1,3,9,10,11] [.box 1] (fun s=>(Y1 xS s.1 s.2)) [3] [] (fun s=>(Y0 s)) A4 ?_ ?_)))))))))))))
 ·rintro⟨b,y1⟩ o (h:Ha xS b y1=some o);unfold Ha at h;refine ws (Ab 1 0 (RW.nil (Wp.seq (wc h (fun h=>?_) (fun h=>?_)))))
  ·refine Wp.skip (Wp.seq (Wp.block (ws (bd h fun x1 gx1 h=>RW.q (Cq Em gx1) (RW.q (Si Em gx1 0 2) (Ab 2 0 (RW.nil (ws (Ab 4 0 (RW.c 0 h (tL _ _) (fun v1 gv1 h=>RW.q (D5 k3 v1) (Ab 1 0 ?_))))))))))));refine RW.nil (BO h [1,3,9,10,11,19,20,21] [.box 1] (fun s=>(Yz xS y1 v1 s.1 s.2)) [1,3,9,10,11] [.box 1] (fun s=>(Yy xS y1 s)) A4 ?_ ?_)
   ·rintro⟨a,y2⟩ o (h:GZ v1 a y2=some o);unfold GZ at h;refine ws (Ab 1 0 (RW.nil (Wp.seq (wc h (fun h=>?_) (fun h=>?_)))))
    ·refine Wp.skip (Wp.seq (Wp.block (ws (bd h fun x2 gx2 h=>RW.q (Cq k3 gx2) (RW.q (CN k3 gx2 0) (Ab 1 0 (RW.nil (ws (Ab 2 0 (RW.nil (wc h (fun h=>?_) (fun h=>?_))))))))))))
     ·refine Ax (Ab 3 0 (bd h fun q1 gq1 h=>Dl (EQ k3 (fun _=>rfl) a gq1) (Ab 1 1 (RW.nil (Ax (Ab 2 0 (RW.nil ?_)))))));cases h;exact⟨_,rfl,A4⟩
     refine Wp.skip (Ax (Ab 2 0 (RW.nil ?_)));cases h;exact⟨_,rfl,A4⟩
    refine Wp.exit ?_;cases h;exact⟨_,rfl,A4⟩
   intro v2 h E hE;refine AE hE (Ax (Ab 2 0 (RW.nil ?_)));cases h;exact⟨_,rfl,A4⟩
  refine Wp.exit ?_;cases h;exact⟨_,rfl,A4⟩
 intro v3 h E hE;refine AE hE (ws (Ab 2 2 (RW.nil ?_)));cases h;exact Wp.ret ⟨.inr rfl,BJ (by kernel_rfl)⟩
def Ts (v2:List Int) (z1:List Int) (z2:Int):St:=AG [(3,(.one (.sl true 3 1 (Ah c3 v2)))),(4,(.one (.sl true 3 1 (Ah c3 z1)))),(11,(.one (.view (.slot 3) 0 [] 0))),(12,(I (ln v2))),(13,(I z2))] []
def Tr (z3:List Int):St:=AG [(4,(.one (.sl true 3 1 (Ah c3 z3))))] []
def Tq (v2:List Int) (a:List Int) (y1:Int) (x1:Int) (z4:Bool):St:=AG [(3,(.one (.sl true 3 1 (Ah c3 v2)))),(4,(.one (.sl true 3 1 (Ah c3 a)))),(6,(I x1)),(11,(.one (.view (.slot 3) 0 [] 0))),(12,(I (ln v2))),(13,(I y1)),(28,(B z4))] []
theorem oJ (xS:Store) (r:List Int) (h:KO xS=some r):Be Tryz.prog 52 [.sv (.agg [.sl false 39 2 (Ah CD xS.Vols),.sl false 150 2 (Ah (AN false) xS.Arena.Knots),.int .i64 xS.Next])] (.one (.sl true 3 1 (Ah c3 r))) (List.replicate 1 .gone):=by
 unfold KO at h;refine W1 Tryz.func52 rfl ?_;rw [Tryz.ntmps52];refine Wp.seq (Wp.region (Lp [] 1 [.sl false 39 2 (Ah CD xS.Vols),.sl false 150 2 (Ah (AN false) xS.Arena.Knots),.int .i64 xS.Next] (A7.o 2 (.one (.sl true 3 1 (Ah c3 []))) (A7.nil (Wp.seq (Wp.region (A7.o 7 (.agg [.sl false 39 2 (Ah CD xS.Vols),.sl false 150 2 (Ah (AN false) xS.Arena.Knots),.int .i64 xS.Next]) (Xa h 8 (fun v1=>(.one (.sl true 3 1 (Ah c3 v1)))) rfl (l:=[.sv (.agg [.sl false 39 2 (Ah CD xS.Vols),.sl false 150 2 (Ah (AN false) xS.Arena.Knots),.int .i64 xS.Next])]) rfl (fun v hv=>dW xS v hv) (.inl rfl) ?_))))))));intro v1 gv1 h;refine WZ true [(.slot 8,[.junk])] 3 (.one (.sl true 3 1 (Ah c3 v1))) (A7.nil (Wp.seq (Wp.region (A7.o 9 (.one (.view (.slot 3) 1 [] 0)) (ABC (n:=3) (x:=9) (d:=10) (enc:=c3) h ACF ?_ (fun _=>rfl) (hf:=⟨_,Tryz.func83,by decide,rfl⟩))))));intro v2 gv2 h;refine A7.nil (Wp.seq (Wp.region (A7.o 4 (.one (.sl true 3 1 (Ah c3 []))) (A7.nil (Wp.seq (Wp.seq (Wp.region (A7.o 11 (.one (.view (.slot 3) 2 [] 0)) (A7.o 12 (I (ln v2)) (A7.o 13 (I 0) (A7.nil (BO h [3,4,11,12,13] [] (fun s=>(Ts v2 s.1 s.2)) [4] [] (fun s=>(Tr s)) ⟨rfl,rfl⟩ ?_ ?_))) (HK (vV k3 v2)))))))))))
 ·rintro⟨b,y1⟩ o (h:Jd v2 b y1=some o);unfold Jd at h;change Wp _ _ _ (Ts v2 b y1) _;refine Wp.seq (Wp.region (A7.o 14 (B (decide (y1<(ln v2)))) (A7.nil (Wp.seq (Wp.c h (fun h=>?_) (fun h=>?_))))))
  ·refine Wp.skip (Wp.seq (Wp.block (Wp.seq (Wp.region (A7.o 15 (I y1) (rI h 16 (fun _=>(.one (.ptr (.slot 3) 0 [0] (Int.toNat y1*1+0)))) ?_ (fun x1 gx1=>HK (sL k3 (.slot 3) [] 0 gx1))))))));intro x1 gx1 h;refine A7.o 17 (I x1) (A7.o 5 (I y1) (A7.o 6 (I x1) (A7.nil (Wp.seq (B3 h [3,4,6,11,12,13,28] [] (fun a=>(Tq v2 b y1 x1 a)) ?_ ?_))))) (HK (ABc k3 (.slot 3) [0] 0 (.int .i64 x1) gx1))
   ·intro a h;refine Wp.region (A7.o 18 (I y1) (A7.o 19 (B (y1==0)) (A7.o 20 (B (y1==0)) (P9 h 20 (fun h=>?_) (fun h=>?_)))))
    ·refine Ee 21 (Ee 22 (Ee 23 (Ee 24 (Ee 25 (Ee 26 (Ee 27 (A7.o 28 (B true) (A7.nil ?_))))))));cases h;exact⟨_,rfl,rfl,rfl⟩
    refine A7.o 21 (.one (.view (.slot 3) 0 [] 0)) (A7.o 22 (I y1) (A7.o 23 (I (sb y1 1)) (rI h 24 (fun _=>(.one (.ptr (.slot 3) 0 [0] (Int.toNat (sb y1 1)*1+0)))) ?_ (fun x2 gx2=>HK (sL k3 (.slot 3) [] 0 gx2)))));intro x2 gx2 h;refine A7.o 25 (I x2) (A7.o 26 (I x1) (A7.o 27 (B (x2 !=x1)) (A7.o 28 (B (x2 !=x1)) (A7.nil ?_)))) (HK (ABc k3 (.slot 3) [0] 0 (.int .i64 x2) gx2));cases h;exact⟨_,rfl,rfl,rfl⟩
   intro j1 h E hE;refine AE hE ?_;change Wp _ _ _ (Tq v2 b y1 x1 j1) _;refine Wp.c h (fun h=>?_) (fun h=>?_)
   ·refine Wp.region (A7.o 29 (.one (.view (.slot 4) 0 [] 0)) (A7.o 30 (I x1) (WZ false [] 31 (.one (.sl true 3 1 (Ah c3 [x1]))) (yQ h [(.slot 4,[.junk])] 32 (fun q1=>(.one (.sl true 3 1 (Ah c3 q1)))) ?_ (fun q1 gq1=>Nt k3 (fun _=>rfl) [(.slot 4,[.junk])] b gq1)))));intro q1 gq1 h;refine WZ true [(.slot 32,[.junk])] 4 (.one (.sl true 3 1 (Ah c3 q1))) (A7.nil (Wp.region (A7.o 33 (I (ad y1 1)) (A7.o 13 (I (ad y1 1)) (A7.nil ?_)))));cases h;exact⟨_,rfl,rfl,rfl⟩
   refine Wp.skip (Wp.region (A7.o 33 (I (ad y1 1)) (A7.o 13 (I (ad y1 1)) (A7.nil ?_))));cases h;exact⟨_,rfl,rfl,rfl⟩
  refine Wp.exit ?_;cases h;exact⟨_,rfl,rfl,rfl⟩
 intro v3 h E hE;refine AE hE ?_;change Wp _ _ _ (Tr v3) _;refine Wp.seq (Wp.region (A7.o 34 (.one (.view (.slot 4) 0 [] 0)) (WZ true [(.slot 4,[.junk])] 2 (.one (.sl true 3 1 (Ah c3 v3))) (A7.nil ?_))));cases h;exact Wp.ret ⟨.inr rfl,_,_,rfl,rfl⟩
def d8 (a:ByteArray) (z1:Int) (z2:Int):St:=AG [(0,(.one (.int .u32 z1))),(1,(Y a)),(5,(I z2))] []
def d7 (z3:Int):St:=AG [(0,(.one (.int .u32 z3)))] []
def dZ (a:ByteArray) (b:Int) (z4:Int) (z5:Int):St:=AG [(0,(.one (.int .u32 z4))),(1,(Y a)),(5,(I b)),(19,(I z5))] []
def dY (a:ByteArray) (b:Int) (z6:Int):St:=AG [(0,(.one (.int .u32 z6))),(1,(Y a)),(5,(I b))] []
theorem jW (b:Int) (a:ByteArray) (r:Int) (h:N5 b a=some r):Be Tryz.prog 180 [.sv (.one (.int .u32 b)),.sv (Y a)] (.one (.int .u32 r)) (List.replicate 2 .gone):=by
 unfold N5 at h;refine gk Tryz.func180 rfl Tryz.ntmps180 (ws (Ab 1 0 (RW.nil (Wp.seq (ws (Ab 1 0 (RW.nil (BO h [0,1,5] [] (fun s=>(d8 a s.1 s.2)) [0] [] (fun s=>(d7 s)) A4 ?_ ?_))))))))
 ·rintro⟨c,d⟩ o (h:Ib a c d=some o);unfold Ib at h;refine Wp.seq (ws (Ab 4 0 (RW.nil (wc h (fun h=>?_) (fun h=>?_)))))
  ·refine Wp.skip (Wp.seq (Wp.block (ws (Ab 3 0 (bd h fun x1 gx1 h=>RW.q (sH gx1) (Ab 3 0 (RW.nil (ws (Ab 1 0 (RW.nil (BO h [0,1,5,19] [] (fun s=>(dZ a d s.1 s.2)) [0,1,5] [] (fun s=>(dY a d s)) A4 ?_ ?_)))))))))))
   ·rintro⟨e,y1⟩ o (h:GL e y1=some o);unfold GL at h;refine ws (Ab 1 0 (RW.nil (Wp.seq (wc h (fun h=>?_) (fun h=>?_)))))
    ·refine Wp.skip (Wp.seq (Wp.block (ws (Ab 3 0 (RW.nil (ws (Ab 3 0 (RW.nil (ws (Ab 2 0 (RW.nil (wc h (fun h=>?_) (fun h=>?_)))))))))))))
     ·refine Ax (Ab 3 0 (RW.nil (Ax (Ab 2 0 (RW.nil ?_)))));cases h;exact⟨_,rfl,A4⟩
     refine Wp.skip (Ax (Ab 2 0 (RW.nil ?_)));cases h;exact⟨_,rfl,A4⟩
    refine Wp.exit ?_;cases h;exact⟨_,rfl,A4⟩
   intro v1 h E hE;refine AE hE (Ax (Ab 3 0 (RW.nil ?_)));cases h;exact⟨_,rfl,A4⟩
  refine Wp.exit ?_;cases h;exact⟨_,rfl,A4⟩
 intro v2 h E hE;refine AE hE (ws (Ab 2 0 (RW.nil ?_)));cases h;exact Wp.ret ⟨.inr rfl,BJ (by kernel_rfl)⟩
theorem tJ (a:ByteArray) (r:Int) (h:RD a=some r):Be Tryz.prog 159 [.sv (Y a)] (.one (.int .u32 r)) (List.replicate 1 .gone):=by
 unfold RD at h;refine gk Tryz.func159 rfl Tryz.ntmps159 (ws (Ab 1 0 (RW.nil (ws (Ab 1 0 (RW.c 0 h (jW _ _) (fun v1 gv1 h=>Ab 1 0 (RW.nil ?_))))))));cases h;exact Wp.ret ⟨.inr rfl,BJ (by kernel_rfl)⟩
theorem oG (a:ByteArray) (r:ByteArray×Bool) (h:Pv a=some r):Be Tryz.prog 133 [.sv (Y a)] (.tup [(Y r.1),(B r.2)]) (List.replicate 1 .gone):=by
 unfold Pv at h;refine gk Tryz.func133 rfl Tryz.ntmps133 (ws (Ab 2 0 (RW.nil (Wp.seq (ws (Ab 3 0 (RW.nil (wc h (fun h=>?_) (fun h=>?_)))))))))
 ·refine ws (Ab 2 0 (RW.nil ?_));cases h;exact Wp.ret ⟨.inr rfl,BJ (by kernel_rfl)⟩
 refine Wp.skip (ws (Ab 1 0 (RW.c 0 h (tJ _) (fun v1 gv1 h=>Ab 1 0 (RW.nil (ws (Ab 13 0 (RW.q (pcv (f:=c5) (fun _=>rfl) [(IntKind.u8.wrap (Int.fdiv v1 (2^(min (24:Int).toNat IntKind.u32.bits)))),(IntKind.u8.wrap (Int.fdiv v1 (2^(min (16:Int).toNat IntKind.u32.bits)))),(IntKind.u8.wrap (Int.fdiv v1 (2^(min (8:Int).toNat IntKind.u32.bits)))),(IntKind.u8.wrap v1)]) (bd h fun x1 gx1 h=>RW.q (Qg gx1) (Ab 2 0 (RW.nil ?_)))))))))));cases h;exact Wp.ret ⟨.inr rfl,BJ (by kernel_rfl)⟩
def Y2 (x1:ByteArray) (z1:Bool):St:=AG [(4,(Y x1)),(26,(B z1))] []
theorem dX (b:ByteArray) (r:ByteArray×Bool) (h:My b=some r):Be Tryz.prog 107 [.sv (Y b)] (.tup [(Y r.1),(B r.2)]) (List.replicate 1 .gone):=by
 unfold My at h;refine gk Tryz.func107 rfl Tryz.ntmps107 (ws (Ab 2 0 (RW.nil (Wp.seq (ws (Ab 3 0 (RW.nil (wc h (fun h=>?_) (fun h=>?_)))))))))
 ·refine ws (Ab 2 0 (RW.nil ?_));cases h;exact Wp.ret ⟨.inr rfl,BJ (by kernel_rfl)⟩
 refine Wp.skip (ws (Ab 4 0 (bd h fun x1 gx1 h=>RW.q (Un gx1) (Ab 1 0 (RW.nil (ws (Ab 1 0 (RW.c 0 h (oG _) (fun v1 gv1 h=>Ab 5 1 (RW.nil (Wp.seq (Wp.seq ?_))))))))))));refine B3 h [4,26] [] (fun a=>(Y2 x1 a)) ?_ ?_
 ·intro a h;refine Ax (Ab 3 0 (Ba 22 h (fun h=>?_) (fun h=>?_)))
  ·refine Ab 4 0 (RW.nil ?_);cases h;exact⟨_,rfl,A4⟩
  refine Ab 4 0 (RW.nil ?_);cases h;exact⟨_,rfl,A4⟩
 intro j1 h E hE;refine AE hE (wc h (fun h=>?_) (fun h=>?_))
 ·refine ws (Ab 2 0 (RW.nil ?_));cases h;exact Wp.ret ⟨.inr rfl,BJ (by kernel_rfl)⟩
 refine Wp.skip (ws (Ab 3 0 (RW.nil ?_)));cases h;exact Wp.ret ⟨.inr rfl,BJ (by kernel_rfl)⟩
def eC (a:ByteArray) (b:Int) (z1:Int) (z2:Int):St:=AG [(0,(Y a)),(1,(I b)),(7,(I z1)),(8,(I z2))] []
def eB:St:=AG [] []
def eA (a:ByteArray) (b:Int) (c:Int) (d:Int) (z3:Bool):St:=AG [(0,(Y a)),(1,(I b)),(7,(I c)),(8,(I d)),(23,(B z3))] []
def d9 (a:Int) (b:Int) (c:Int) (x2:Int) (z4:Bool):St:=AG [(1,(I a)),(7,(I (ad b x2))),(8,(I c)),(50,(B z4))] []
theorem jY (b:ByteArray) (c:Int) (r:Int×Int×Bool) (h:Kj b c=some r):Be Tryz.prog 108 [.sv (Y b),.sv (I c)] (.tup [(I r.1),(I r.2.1),(B r.2.2)]) (List.replicate 2 .gone):=by
 unfold Kj at h;refine gk Tryz.func108 rfl Tryz.ntmps108 (ws (Ab 3 0 (RW.nil (ws (Ab 1 0 (RW.nil (Wp.seq (ws (Ab 1 0 (RW.nil (Fk h [0,1,7,8] [] (fun s=>(eC b c s.1 s.2)) [] [] (fun _=>eB) A4 ?_ ?_)))))))))))
 ·rintro⟨d,e⟩ o (h:FE b c d e=some o) hk1;unfold FE at h;refine Wp.seq (Wp.seq (B3 h [0,1,7,8,23] [] (fun a=>(eA b c d e a)) ?_ ?_))
  ·intro a h;refine Ax (Ab 3 0 (Ba 12 h (fun h=>?_) (fun h=>?_)))
   ·refine Ab 4 0 (Ba 16 h (fun h=>?_) (fun h=>?_))
    ·refine Ab 7 0 (RW.nil ?_);cases h;exact⟨_,rfl,A4⟩
    refine Ab 7 0 (RW.nil ?_);cases h;exact⟨_,rfl,A4⟩
   refine Ab 11 0 (RW.nil ?_);cases h;exact⟨_,rfl,A4⟩
  intro j1 h E hE;refine AE hE (wc h (fun h=>?_) (fun h=>?_))
  ·refine Wp.skip (Wp.seq (Wp.block (ws (Ab 4 0 (bd h fun x1 gx1 h=>RW.q (sH gx1) (Ab 2 0 (RW.nil (ws (Ab 5 0 (bd h fun x2 gx2 h=>RW.q (ACv gx2) (Ab 2 0 ?_)))))))))));refine RW.nil (Wp.seq (ws (Ab 2 0 (RW.nil (wc h (fun h=>?_) (fun h=>?_))))))
   ·refine Wp.exit (Ax (Ab 3 0 (RW.nil ?_)));cases h;exact⟨_,rfl,A4⟩
   refine Wp.skip (Wp.seq (Wp.seq (B3 h [1,7,8,50] [] (fun a=>(d9 c d e x2 a)) ?_ ?_)))
   ·intro a h;refine Ax (Ab 3 0 (Ba 43 h (fun h=>?_) (fun h=>?_)))
    ·refine Ab 4 0 (Ba 47 h (fun h=>?_) (fun h=>?_))
     ·refine Ab 3 0 (RW.nil ?_);cases h;exact⟨_,rfl,A4⟩
     refine Ab 3 0 (RW.nil ?_);cases h;exact⟨_,rfl,A4⟩
    refine Ab 7 0 (RW.nil ?_);cases h;exact⟨_,rfl,A4⟩
   intro j2 h E hE;refine AE hE (wc h (fun h=>?_) (fun h=>?_))
   ·refine ws (Ab 3 0 (RW.nil ?_));cases h;replace h:some _=some _:=hk1 _ rfl;cases h;exact Wp.ret ⟨.inr rfl,BJ (by kernel_rfl)⟩
   refine Wp.skip (ws (Ab 8 0 (RW.nil ?_)));cases h;replace h:some _=some _:=hk1 _ rfl;cases h;exact Wp.ret ⟨.inr rfl,BJ (by kernel_rfl)⟩
  refine Wp.exit ?_;cases h;exact⟨_,rfl,A4⟩
 intro v1 h E hE;refine AE hE (ws (Ab 3 0 (RW.nil ?_)));cases h;exact Wp.ret ⟨.inr rfl,BJ (by kernel_rfl)⟩
def jZ (xP:Page) (z1:Bool):St:=AG [(1,(.one (.ptr (.box 1) 0 [] 0))),(33,(B z1))] [(.box 1,[.int .i64 xP.Kind,.int .i64 xP.Seq,.int .i64 xP.Tx,.int .i64 xP.Part,.int .i64 xP.Count,.str xP.Text])]
theorem oH (xP:Page) (r:Bool) (h:Pw xP=some r):Be Tryz.prog 109 [.sv (.agg [.int .i64 xP.Kind,.int .i64 xP.Seq,.int .i64 xP.Tx,.int .i64 xP.Part,.int .i64 xP.Count,.str xP.Text])] (B r) (List.replicate 1 .gone):=by
 unfold Pw at h;refine gk Tryz.func109 rfl Tryz.ntmps109 (ws (Ab 2 0 (RW.nil (Wp.seq (Wp.seq (B3 h [1,33] [.box 1] (fun a=>(jZ xP a)) ?_ ?_))))))
 ·intro a h;refine Ax (Ab 2 0 (RW.c 0 h (Pt _ _ _) (fun v1 gv1 h=>Ab 2 0 (Ba 7 h (fun h=>?_) (fun h=>?_)))))
  ·refine Ab 26 0 (RW.nil ?_);cases h;exact⟨_,rfl,A4⟩
  refine Ab 2 0 (RW.c 0 h (Pt _ _ _) (fun v2 gv2 h=>Ab 3 0 (Ba 13 h (fun h=>?_) (fun h=>?_))))
  ·refine Ab 20 0 (RW.nil ?_);cases h;exact⟨_,rfl,A4⟩
  refine Ab 2 0 (RW.c 0 h (Pt _ _ _) (fun v3 gv3 h=>Ab 3 0 (Ba 19 h (fun h=>?_) (fun h=>?_))))
  ·refine Ab 14 0 (RW.nil ?_);cases h;exact⟨_,rfl,A4⟩
  refine Ab 5 0 (RW.c 0 h (Pt _ _ _) (fun v4 gv4 h=>Ab 3 0 (Ba 28 h (fun h=>?_) (fun h=>?_))))
  ·refine Ab 5 0 (RW.nil ?_);cases h;exact⟨_,rfl,A4⟩
  refine Ab 5 0 (RW.nil ?_);cases h;exact⟨_,rfl,A4⟩
 intro j1 h E hE;refine AE hE (wc h (fun h=>?_) (fun h=>?_))
 ·refine ws (Ab 1 0 (RW.nil ?_));cases h;exact Wp.ret ⟨.inr rfl,BJ (by kernel_rfl)⟩
 refine Wp.skip (ws (Ab 4 0 (Ba 37 h (fun h=>?_) (fun h=>?_))))
 ·refine Ab 10 0 (RW.nil ?_);cases h;exact Wp.ret ⟨.inr rfl,BJ (by kernel_rfl)⟩
 refine Ab 4 0 (Ba 41 h (fun h=>?_) (fun h=>?_))
 ·refine Ab 6 0 (RW.nil ?_);cases h;exact Wp.ret ⟨.inr rfl,BJ (by kernel_rfl)⟩
 refine Ab 6 0 (RW.nil ?_);cases h;exact Wp.ret ⟨.inr rfl,BJ (by kernel_rfl)⟩
def Y7 (v1:ByteArray×Bool) (z1:Bool):St:=AG [(2,(.one (.ptr (.box 2) 0 [] 0))),(4,(Y v1.1)),(23,(B z1))] [(.box 2,[.int .i64 0,.int .i64 0,.int .i64 0,.int .i64 0,.int .i64 0,.str (bs [])])]
def Y6 (v1:ByteArray×Bool) (z2:Int) (z3:Int) (z4:Int) (z5:Int) (z6:Int) (z7:Int):St:=AG [(2,(.one (.ptr (.box 2) 0 [] 0))),(4,(Y v1.1)),(6,(.one (.ptr (.box 6) 0 [] 0))),(7,(I z2)),(25,(I z3))] [(.box 2,[.int .i64 0,.int .i64 0,.int .i64 0,.int .i64 0,.int .i64 0,.str (bs [])]),(.box 6,[.int .i64 z4,.int .i64 z5,.int .i64 z6,.int .i64 z7])]
def Y5 (v1:ByteArray×Bool) (z8:Int) (z9:Int) (z10:Int) (z11:Int) (z12:Int):St:=AG [(2,(.one (.ptr (.box 2) 0 [] 0))),(4,(Y v1.1)),(6,(.one (.ptr (.box 6) 0 [] 0))),(7,(I z8))] [(.box 2,[.int .i64 0,.int .i64 0,.int .i64 0,.int .i64 0,.int .i64 0,.str (bs [])]),(.box 6,[.int .i64 z9,.int .i64 z10,.int .i64 z11,.int .i64 z12])]
theorem eD (xT:ByteArray) (r:Page×Bool) (h:Mz xT=some r):Be Tryz.prog 67 [.sv (Y xT)] (.tup [(.agg [.int .i64 r.1.Kind,.int .i64 r.1.Seq,.int .i64 r.1.Tx,.int .i64 r.1.Part,.int .i64 r.1.Count,.str r.1.Text]),(B r.2)]) (List.replicate 1 .gone):=by
 unfold Mz at h;refine gk Tryz.func67 rfl Tryz.ntmps67 (ws (Ab 2 0 (RW.nil (ws (Ab 1 0 (RW.c 0 h (dX _) (fun v1 gv1 h=>Ab 5 1 (RW.nil (Wp.seq (Wp.seq (B3 h [2,4,23] [.box 2] (fun a=>(Y7 v1 a)) ?_ ?_)))))))))))
 ·intro a h;refine Ax (Ab 3 0 (Ba 20 h (fun h=>?_) (fun h=>?_)))
  ·refine Ab 3 0 (RW.nil ?_);cases h;exact⟨_,rfl,A4⟩
  refine Ab 3 0 (RW.nil ?_);cases h;exact⟨_,rfl,A4⟩
 intro j1 h E hE;refine AE hE (wc h (fun h=>?_) (fun h=>?_))
 ·refine ws (Ab 3 0 (RW.nil ?_));cases h;exact Wp.ret ⟨.inr rfl,BJ (by kernel_rfl)⟩
 refine Wp.skip (ws (Ab 1 0 (RW.nil (ws (Ab 1 0 (RW.nil (Wp.seq (ws (Ab 1 0 (RW.nil (Fk h [2,4,6,7,25] [.box 2,.box 6] (fun s=>(Y6 v1 s.1 s.2.1 s.2.2.1 s.2.2.2.1 s.2.2.2.2.1 s.2.2.2.2.2)) [2,4,6,7] [.box 2,.box 6] (fun s=>(Y5 v1 s.1 s.2.1 s.2.2.1 s.2.2.2.1 s.2.2.2.2)) A4 ?_ ?_)))))))))))
 ·rintro⟨b,y1,d,e,f,g⟩ o (h:DI v1 b y1 d e f g=some o) hk1;unfold DI at h;refine ws (Ab 1 0 (RW.nil (Wp.seq (wc h (fun h=>?_) (fun h=>?_)))))
  ·refine Wp.skip (Wp.seq (Wp.block (ws (Ab 2 0 (RW.nil (ws (Ab 2 0 (RW.c 0 h (jY _ _) (fun v2 gv2 h=>Ab 7 1 (RW.nil (Wp.seq (ws (Ab 2 0 ?_)))))))))))));refine RW.nil (wc h (fun h=>?_) (fun h=>?_))
   ·refine ws (Ab 3 0 (RW.nil ?_));cases h;replace h:some _=some _:=hk1 _ rfl;cases h;exact Wp.ret ⟨.inr rfl,BJ (by kernel_rfl)⟩
   refine Wp.skip (Ax (Ab 3 0 (eW h (fun hb h=>?_) (fun h=>?_))))
   ·refine RW.q (pxa 0 (eq_of_beq hb)) (Ab 2 0 (RW.nil (Ax (Ab 2 0 (RW.nil ?_)))));cases h;exact⟨_,rfl,A4⟩
   refine eW h (fun hb h=>?_) (fun h=>?_)
   ·refine RW.q (pxa 1 (eq_of_beq hb)) (Ab 2 0 (RW.nil (Ax (Ab 2 0 (RW.nil ?_)))));cases h;exact⟨_,rfl,A4⟩
   refine eW h (fun hb h=>?_) (fun h=>?_)
   ·refine RW.q (pxa 2 (eq_of_beq hb)) (Ab 2 0 (RW.nil (Ax (Ab 2 0 (RW.nil ?_)))));cases h;exact⟨_,rfl,A4⟩
   refine eW h (fun hb h=>?_) (fun h=>?_)
   ·refine RW.q (pxa 3 (eq_of_beq hb)) (Ab 2 0 (RW.nil (Ax (Ab 2 0 (RW.nil ?_)))));cases h;exact⟨_,rfl,A4⟩
   cases h
  refine Wp.exit ?_;cases h;exact⟨_,rfl,A4⟩
 intro v3 h E hE;refine AE hE (Wp.seq (EL [16] mixed (fun c E h=>by rcases h with⟨h|h,_⟩<;>cases h) (AD [0] 0 (bd h fun x1 gx1 h=>KW.q 1 (sH gx1) (AD [2,3,4,5,6,7,8,9,10,11,12] 0 (bd h fun x2 gx2 h=>KW.q 13 (Un gx2) (AD [14,15,16] 0 (Ap (Wp.seq (ws (Ab 1 0 ?_)))))))))));refine RW.c 0 h (oH _) (fun v4 gv4 h=>Ab 1 0 (RW.nil (wc h (fun h=>?_) (fun h=>?_))))
 ·refine ws (Ab 3 0 (RW.nil ?_));cases h;exact Wp.ret ⟨.inr rfl,BJ (by kernel_rfl)⟩
 refine Wp.skip (ws (Ab 3 0 (RW.nil ?_)));cases h;exact Wp.ret ⟨.inr rfl,BJ (by kernel_rfl)⟩
theorem ACH:∀x,(Gb x).all TV.flat=true:=fun _=>rfl
theorem Y3 (n b g cap:Nat) (T:TypeId) (hb:b≠g):M5 Tryz.prog (MZ n b g cap 54 T 8 Gb) (NM BF) 69 #[.pointer (some ⟨b,0,none⟩)]:=by
 refine s7 Tryz.func69 rfl rfl ?_;rintro l i j x y hx hy ⟨w,hI⟩;have hn:l.length=n:=hI.len;have hi:=AAR hx;have hj:=AAR hy;refine wV Tryz.func69 rfl rfl ?_;rw [Tryz.ntmps69];refine Wp.seq (Wp.region (A7.o 5 (B false) (A7.nil (Wp.seq (WT mixed (by decide+kernel) (fA 6 (.hdr ⟨g,0,none⟩ n cap) (.slice (some ⟨g,0,none⟩) n cap) (J7.o 7 (I i) (yO (n:=n) 8 (m:=i) (fB (f:=2) 9 (fB (f:=1) 10 ?_ rfl Tryz.underlying52 rfl (by decide)) rfl Tryz.underlying54 rfl (by decide)) rfl Tryz.underlying45 rfl hi.1 (by omega) (by decide))) rfl vM (fun w=>by simp [CC]) rfl rfl rfl))))));refine fA (x:=10) 11 (.int .i64 (BF x)) (.int .i64 (BF x)) ?_ rfl (vL (k:=3) (t:= .int .i64 (BF x)) DY hx rfl hb (by rw [AAU];rfl)) (fun w=>by simp [CC]) rfl rfl rfl;refine fA 12 (.hdr ⟨g,0,none⟩ n cap) (.slice (some ⟨g,0,none⟩) n cap) (J7.o 13 (I j) (yO (n:=n) 14 (m:=j) (fB (f:=2) 15 (fB (f:=1) 16 ?_ rfl Tryz.underlying52 rfl (by decide)) rfl Tryz.underlying54 rfl (by decide)) rfl Tryz.underlying45 rfl hj.1 (by omega) (by decide))) rfl vM (fun w=>by simp [CC]) rfl rfl rfl;refine fA (x:=16) 17 (.int .i64 (BF y)) (.int .i64 (BF y)) ?_ rfl (vL (k:=3) (t:= .int .i64 (BF y)) DY hy rfl hb (by rw [AAU];rfl)) (fun w=>by simp [CC]) rfl rfl rfl;refine J7.o 18 (B (decide ((BF x)<(BF y)))) (J7.o 5 (B (decide ((BF x)<(BF y)))) (J7.nil ?_));exact Wp.ret ⟨.inr rfl,rfl,_,rfl⟩
theorem Y4 {l r:List Aq} (h:De (NM BF) l (ln l)=some r):e9 Tryz.prog 68 45 54 8 Gb 69 l r:=by
 refine Qe DY h Tryz.t45 Tryz.t54 rfl rfl (by kernel_rfl) rfl 25 (fun w=>rfl) rfl Tryz.isAgg54 (enters_of Tryz.func69 rfl rfl) ?_ (fun n b g cap T hb=>Y3 n b g cap T hb);intro n
 match n with
 |0=>exact⟨134,by kernel_rfl,fun h=>absurd h (by decide)⟩
 |1=>exact⟨135,by kernel_rfl,fun h=>absurd h (by decide)⟩
 |n+2=>
 have hk:Go.Lib.swapperK (n+2) Tryz.t54 25=9:=rfl;rw [hk];exact⟨142,by kernel_rfl,fun _=>⟨by decide,false,fun args W=>run_callFunc_extern Tryz.func142 (by kernel_rfl) (by kernel_rfl) (by kernel_rfl) (e:=Extern.ReflectliteSwapper.swap false) (by kernel_rfl) args W⟩⟩
def RI (xF:Flash) (z1:Int) (z2:List Aq):St:=AG [(3,(.one (.ptr (.box 3) 0 [] 0))),(11,(.one (.sl false 77 3 (Ah (Cs false) xF.Blocks)))),(12,(I (ln xF.Blocks))),(13,(I z1))] [(.box 3,[.sl true 54 8 (Ah Gb z2)])]
def RH (z3:List Aq):St:=AG [(3,(.one (.ptr (.box 3) 0 [] 0)))] [(.box 3,[.sl true 54 8 (Ah Gb z3)])]
def RG (xF:Flash) (y1:Int) (x1:Block) (z4:Int) (z5:List Aq):St:=AG [(3,(.one (.ptr (.box 3) 0 [] 0))),(4,(I y1)),(11,(.one (.sl false 77 3 (Ah (Cs false) xF.Blocks)))),(12,(I (ln xF.Blocks))),(13,(I y1)),(19,(.one (.sl false 90 2 (Ah fP x1.Leaves)))),(20,(I (ln x1.Leaves))),(21,(I z4))] [(.box 3,[.sl true 54 8 (Ah Gb z5)])]
def RF (xF:Flash) (y1:Int) (z6:List Aq):St:=AG [(3,(.one (.ptr (.box 3) 0 [] 0))),(11,(.one (.sl false 77 3 (Ah (Cs false) xF.Blocks)))),(12,(I (ln xF.Blocks))),(13,(I y1))] [(.box 3,[.sl true 54 8 (Ah Gb z6)])]
def RE (xF:Flash) (y1:Int) (x1:Block) (y2:Int) (a:List Aq) (v1:Page×Bool) (z7:Bool):St:=AG [(3,(.one (.ptr (.box 3) 0 [] 0))),(4,(I y1)),(6,(I y2)),(8,(.one (.ptr (.box 8) 0 [] 0))),(11,(.one (.sl false 77 3 (Ah (Cs false) xF.Blocks)))),(12,(I (ln xF.Blocks))),(13,(I y1)),(19,(.one (.sl false 90 2 (Ah fP x1.Leaves)))),(20,(I (ln x1.Leaves))),(21,(I y2)),(37,(B z7))] [(.box 3,[.sl true 54 8 (Ah Gb a)]),(.box 8,[.int .i64 v1.1.Kind,.int .i64 v1.1.Seq,.int .i64 v1.1.Tx,.int .i64 v1.1.Part,.int .i64 v1.1.Count,.str v1.1.Text])]
theorem Tp (xF:Flash) (r:List Aq) (h:Hb xF=some r):Be Tryz.prog 39 [.sv (.agg [.sl false 77 3 (Ah (Cs false) xF.Blocks)])] (.one (.sl true 54 8 (Ah Gb r))) (List.replicate 1 .gone):=by
 unfold Hb at h;refine W1 Tryz.func39 rfl ?_;rw [Tryz.ntmps39];refine Wp.seq (Wp.region (Lp [] 1 [.sl false 77 3 (Ah (Cs false) xF.Blocks)] (A7.o 2 (.one (.sl true 54 8 (Ah Gb []))) (A7.nil (Wp.seq (Wp.region (Lp [] 3 [.sl true 54 8 (Ah Gb [])] (A7.nil (Wp.seq (Wp.seq (Wp.region (A7.o 10 (.one (.ptr (.box 1) 1 [] 0)) (A7.o 11 (.one (.sl false 77 3 (Ah (Cs false) xF.Blocks))) ?_)))))))))))));refine A7.o 12 (I (ln xF.Blocks)) (A7.o 13 (I 0) (A7.nil (BO h [3,11,12,13] [.box 3] (fun s=>(RI xF s.1 s.2)) [3] [.box 3] (fun s=>(RH s)) ⟨rfl,rfl⟩ ?_ ?_))) (HK (vV (Fq false) xF.Blocks))
 ·rintro⟨y1,d⟩ o (h:GM xF y1 d=some o);unfold GM at h;change Wp _ _ _ (RI xF y1 d) _;refine Wp.seq (Wp.region (A7.o 14 (B (decide (y1<(ln xF.Blocks)))) (A7.nil (Wp.seq (Wp.c h (fun h=>?_) (fun h=>?_))))))
  ·refine Wp.skip (Wp.seq (Wp.block (Wp.seq (Wp.region (A7.o 15 (I y1) (rI h 16 (fun _=>(.one (.ptr (.slot 11) 0 [0] (Int.toNat y1*3+0)))) ?_ (fun x1 gx1=>HK (sL (Fq false) (.slot 11) [] 0 gx1))))))));intro x1 gx1 h;refine A7.o 17 (.agg [.bool x1.Bad,.int .i64 x1.Wear,.sl false 90 2 (Ah fP x1.Leaves)]) (Lp [] 5 [.bool false,.int .i64 0,.sl true 90 2 (Ah fP [])] (A7.o 4 (I y1) (pH [] (.box 5) [.bool x1.Bad,.int .i64 x1.Wear,.sl false 90 2 (Ah fP x1.Leaves)] (A7.nil (Wp.seq (Wp.region (A7.o 18 (.one (.ptr (.box 5) 1 [] 2)) (A7.o 19 (.one (.sl false 90 2 (Ah fP x1.Leaves))) (A7.o 20 (I (ln x1.Leaves)) (A7.o 21 (I 0) (A7.nil (BO h [3,4,11,12,13,19,20,21] [.box 3] (fun s=>(RG xF y1 x1 s.1 s.2)) [3,11,12,13] [.box 3] (fun s=>(RF xF y1 s)) ⟨rfl,rfl⟩ ?_ ?_))) (HK (vV M7 x1.Leaves))))))))))) (HK (ABZ (Fq false) (.slot 11) [0] gx1))
   ·rintro⟨y2,b⟩ o (h:Ic y1 x1 y2 b=some o);unfold Ic at h;change Wp _ _ _ (RG xF y1 x1 y2 b) _;refine Wp.seq (Wp.region (A7.o 22 (B (decide (y2<(ln x1.Leaves)))) (A7.nil (Wp.seq (Wp.c h (fun h=>?_) (fun h=>?_))))))
    ·refine Wp.skip (Wp.seq (Wp.block (Wp.seq (Wp.region (A7.o 23 (I y2) (rI h 24 (fun _=>(.one (.ptr (.slot 19) 0 [0] (Int.toNat y2*2+0)))) ?_ (fun x2 gx2=>HK (sL M7 (.slot 19) [] 0 gx2))))))));intro x2 gx2 h;refine A7.o 25 (.agg [.int .i64 x2.Is,.str x2.Text]) (Lp [] 7 [.int .i64 0,.str (bs [])] (A7.o 6 (I y2) (A7.s [] (.box 7) [.int .i64 x2.Is,.str x2.Text] (A7.nil (Wp.seq (Wp.region (A7.o 27 (.one (.ptr (.box 7) 1 [] 1)) (A7.o 28 (Y x2.Text) (Xa h 29 (fun v1=>(.tup [(.agg [.int .i64 v1.1.Kind,.int .i64 v1.1.Seq,.int .i64 v1.1.Tx,.int .i64 v1.1.Part,.int .i64 v1.1.Count,.str v1.1.Text]),(B v1.2)])) rfl (l:=[.sv (.one (.str x2.Text))]) rfl (fun v hv=>eD x2.Text v hv) (.inl rfl) ?_))))))))) (HK (ABZ M7 (.slot 19) [0] gx2));intro v1 gv1 h;refine fG 29 26 (.tup [(.agg [.int .i64 v1.1.Kind,.int .i64 v1.1.Seq,.int .i64 v1.1.Tx,.int .i64 v1.1.Part,.int .i64 v1.1.Count,.str v1.1.Text]),(B v1.2)]) (Sc 26 0 30 (.agg [.int .i64 v1.1.Kind,.int .i64 v1.1.Seq,.int .i64 v1.1.Tx,.int .i64 v1.1.Part,.int .i64 v1.1.Count,.str v1.1.Text]) (Sc 26 1 31 (B v1.2) (Lp [] 8 [.int .i64 0,.int .i64 0,.int .i64 0,.int .i64 0,.int .i64 0,.str (bs [])] (A7.s [] (.box 8) [.int .i64 v1.1.Kind,.int .i64 v1.1.Seq,.int .i64 v1.1.Tx,.int .i64 v1.1.Part,.int .i64 v1.1.Count,.str v1.1.Text] (A7.o 9 (B v1.2) (A7.nil (Wp.seq (B3 h [3,4,6,8,11,12,13,19,20,21,37] [.box 3,.box 8] (fun a=>(RE xF y1 x1 y2 b v1 a)) ?_ ?_))))))))
     ·intro a h;refine Wp.region (A7.o 32 (B v1.2) (A7.o 33 (B v1.2) (P9 h 33 (fun h=>?_) (fun h=>?_))))
      ·refine A7.o 34 (.one (.ptr (.box 7) 1 [] 0)) (A7.o 35 (I x2.Is) (A7.o 36 (B (x2.Is==1)) (A7.o 37 (B (x2.Is==1)) (A7.nil ?_))));cases h;exact⟨_,rfl,rfl,rfl⟩
      refine Ee 34 (Ee 35 (Ee 36 (A7.o 37 (B false) (A7.nil ?_))));cases h;exact⟨_,rfl,rfl,rfl⟩
     intro j1 h E hE;refine AE hE ?_;change Wp _ _ _ (RE xF y1 x1 y2 b v1 j1) _;refine Wp.c h (fun h=>?_) (fun h=>?_)
     ·refine Wp.region (A7.o 38 (.one (.view (.box 3) 0 [] 0)) (A7.o 39 (I y1) (A7.o 40 (I y2) (A7.o 41 (.agg [.int .i64 v1.1.Kind,.int .i64 v1.1.Seq,.int .i64 v1.1.Tx,.int .i64 v1.1.Part,.int .i64 v1.1.Count,.str v1.1.Text]) (A7.o 42 (.agg [.int .i64 y1,.int .i64 y2,.int .i64 v1.1.Kind,.int .i64 v1.1.Seq,.int .i64 v1.1.Tx,.int .i64 v1.1.Part,.int .i64 v1.1.Count,.str v1.1.Text]) (WZ false [] 43 (.one (.sl true 54 8 (Ah Gb [(Aq.mk y1 y2 v1.1)]))) (yQ h [(.box 3,[.junk])] 44 (fun q1=>(.one (.sl true 54 8 (Ah Gb q1)))) ?_ (fun q1 gq1=>Nt DY (fun _=>rfl) [(.box 3,[.junk])] b gq1))))))));intro q1 gq1 h;refine A7.s [(.slot 44,[.junk])] (.box 3) [.sl true 54 8 (Ah Gb q1)] (A7.nil (Wp.region (A7.o 45 (I (ad y2 1)) (A7.o 21 (I (ad y2 1)) (A7.nil ?_)))));cases h;exact⟨_,rfl,rfl,rfl⟩
     refine Wp.skip (Wp.region (A7.o 45 (I (ad y2 1)) (A7.o 21 (I (ad y2 1)) (A7.nil ?_))));cases h;exact⟨_,rfl,rfl,rfl⟩
    refine Wp.exit ?_;cases h;exact⟨_,rfl,rfl,rfl⟩
   intro v2 h E hE;refine AE hE ?_;change Wp _ _ _ (RF xF y1 v2) _;refine Wp.region (A7.o 46 (I (ad y1 1)) (A7.o 13 (I (ad y1 1)) (A7.nil ?_)));cases h;exact⟨_,rfl,rfl,rfl⟩
  refine Wp.exit ?_;cases h;exact⟨_,rfl,rfl,rfl⟩
 intro v3 h E hE;refine AE hE ?_;change Wp _ _ _ (RH v3) _;refine Wp.seq (Wp.region (A7.o 47 (.one (.view (.box 3) 0 [] 0)) (ABE h ?_)));intro v4 gv4 h;refine A7.srt (x:=47) (p:=3) (d1:=48) (d2:=49) (d3:=50) (r:= .box 3) (Y4 gv4) (A7.nil (Wp.seq (Wp.region (A7.o 51 (.one (.view (.box 3) 1 [] 0)) (WZ true [(.box 3,[.junk])] 2 (.one (.sl true 54 8 (Ah Gb v4))) (A7.nil ?_)))))) DY ACH (hf:=⟨_,Tryz.func68,by decide,rfl⟩);cases h;exact Wp.ret ⟨.inr rfl,_,_,rfl,rfl⟩
def jV (a:Int) (v1:List Aq) (z1:Bool) (z2:Int) (z3:Int) (z4:Int) (z5:Int) (z6:Int) (z7:Int) (z8:Int) (z9:Int) (z10:ByteArray):St:=AG [(1,(I a)),(4,(.one (.ptr (.box 4) 0 [] 0))),(6,(.one (.ptr (.box 6) 0 [] 0))),(7,(B z1)),(11,(.one (.sl true 54 8 (Ah Gb v1)))),(12,(I (ln v1))),(13,(I z2))] [(.box 4,[.int .i64 0,.int .i64 0,.int .i64 0,.int .i64 0,.int .i64 0,.int .i64 0,.int .i64 0,.str (bs [])]),(.box 6,[.int .i64 z3,.int .i64 z4,.int .i64 z5,.int .i64 z6,.int .i64 z7,.int .i64 z8,.int .i64 z9,.str z10])]
def jU (z11:Bool) (z12:Int) (z13:Int) (z14:Int) (z15:Int) (z16:Int) (z17:Int) (z18:Int) (z19:ByteArray):St:=AG [(4,(.one (.ptr (.box 4) 0 [] 0))),(6,(.one (.ptr (.box 6) 0 [] 0))),(7,(B z11))] [(.box 4,[.int .i64 0,.int .i64 0,.int .i64 0,.int .i64 0,.int .i64 0,.int .i64 0,.int .i64 0,.str (bs [])]),(.box 6,[.int .i64 z12,.int .i64 z13,.int .i64 z14,.int .i64 z15,.int .i64 z16,.int .i64 z17,.int .i64 z18,.str z19])]
def jT (i:Int) (v1:List Aq) (j:Bool) (y1:Int) (a:Int) (b:Int) (c:Int) (d:Int) (e:Int) (f:Int) (g:Int) (h:ByteArray) (x1:Aq) (z20:Bool):St:=AG [(1,(I i)),(4,(.one (.ptr (.box 4) 0 [] 0))),(6,(.one (.ptr (.box 6) 0 [] 0))),(7,(B j)),(9,(.one (.ptr (.box 9) 0 [] 0))),(11,(.one (.sl true 54 8 (Ah Gb v1)))),(12,(I (ln v1))),(13,(I y1)),(40,(B z20))] [(.box 4,[.int .i64 0,.int .i64 0,.int .i64 0,.int .i64 0,.int .i64 0,.int .i64 0,.int .i64 0,.str (bs [])]),(.box 6,[.int .i64 a,.int .i64 b,.int .i64 c,.int .i64 d,.int .i64 e,.int .i64 f,.int .i64 g,.str h]),(.box 9,[.int .i64 x1.Block,.int .i64 x1.Leaf,.int .i64 x1.Page.Kind,.int .i64 x1.Page.Seq,.int .i64 x1.Page.Tx,.int .i64 x1.Page.Part,.int .i64 x1.Page.Count,.str x1.Page.Text])]
theorem oF (xF:Flash) (b:Int) (r:Aq×Bool) (h:Pu xF b=some r):Be Tryz.prog 44 [.sv (.agg [.sl false 77 3 (Ah (Cs false) xF.Blocks)]),.sv (I b)] (.tup [(.agg [.int .i64 r.1.Block,.int .i64 r.1.Leaf,.int .i64 r.1.Page.Kind,.int .i64 r.1.Page.Seq,.int .i64 r.1.Page.Tx,.int .i64 r.1.Page.Part,.int .i64 r.1.Page.Count,.str r.1.Page.Text]),(B r.2)]) (List.replicate 2 .gone):=by
 unfold Pu at h;refine gk Tryz.func44 rfl Tryz.ntmps44 (ws (Ab 3 0 (RW.nil (ws (Ab 1 0 (RW.nil (ws (Ab 1 0 (RW.nil (Wp.seq (ws (Ab 1 0 (RW.c 0 h (Tp _) (fun v1 gv1 h=>?_))))))))))))));refine RW.q (D5 DY v1) (Ab 1 0 (RW.nil (BO h [1,4,6,7,11,12,13] [.box 4,.box 6] (fun s=>(jV b v1 s.1 s.2.1 s.2.2.1 s.2.2.2.1 s.2.2.2.2.1 s.2.2.2.2.2.1 s.2.2.2.2.2.2.1 s.2.2.2.2.2.2.2.1 s.2.2.2.2.2.2.2.2.1 s.2.2.2.2.2.2.2.2.2)) [4,6,7] [.box 4,.box 6] (fun s=>(jU s.1 s.2.1 s.2.2.1 s.2.2.2.1 s.2.2.2.2.1 s.2.2.2.2.2.1 s.2.2.2.2.2.2.1 s.2.2.2.2.2.2.2.1 s.2.2.2.2.2.2.2.2)) A4 ?_ ?_)))
 ·rintro⟨m,y1,d,e,f,g,i,j,k,l⟩ o (h:HC b v1 m y1 d e f g i j k l=some o);unfold HC at h;refine ws (Ab 1 0 (RW.nil (Wp.seq (wc h (fun h=>?_) (fun h=>?_)))))
  ·refine Wp.skip (Wp.seq (Wp.block (ws (bd h fun x1 gx1 h=>RW.q (Cq DY gx1) (RW.q (Si DY gx1 0 8) (Ab 2 0 (RW.nil (Wp.seq (B3 h [1,4,6,7,9,11,12,13,40] [.box 4,.box 6,.box 9] (fun a=>(jT b v1 m y1 d e f g i j k l x1 a)) ?_ ?_)))))))))
   ·intro a h;refine Ax (Ab 5 0 (Ba 21 h (fun h=>?_) (fun h=>?_)))
    ·refine Ab 7 0 (Ba 28 h (fun h=>?_) (fun h=>?_))
     ·refine Ab 3 0 (Ba 31 h (fun h=>?_) (fun h=>?_))
      ·refine Ab 9 0 (RW.nil ?_);cases h;exact⟨_,rfl,A4⟩
      refine Ab 9 0 (RW.nil ?_);cases h;exact⟨_,rfl,A4⟩
     refine Ab 12 0 (RW.nil ?_);cases h;exact⟨_,rfl,A4⟩
    refine Ab 19 0 (RW.nil ?_);cases h;exact⟨_,rfl,A4⟩
   intro j1 h E hE;refine AE hE (wc h (fun h=>?_) (fun h=>?_))
   ·refine Ax (Ab 3 0 (RW.nil (Ax (Ab 2 0 (RW.nil ?_)))));cases h;exact⟨_,rfl,A4⟩
   refine Wp.skip (Ax (Ab 2 0 (RW.nil ?_)));cases h;exact⟨_,rfl,A4⟩
  refine Wp.exit ?_;cases h;exact⟨_,rfl,A4⟩
 intro v2 h E hE;refine AE hE (ws (Ab 4 0 (RW.nil ?_)));cases h;exact Wp.ret ⟨.inr rfl,BJ (by kernel_rfl)⟩
def oD (xF:Flash) (xB:Int) (v1:List Int) (z1:List Aq) (z2:Int):St:=AG [(2,(I xB)),(3,(.one (.ptr (.box 3) 0 [] 0))),(7,(.one (.sl true 54 8 (Ah Gb z1)))),(13,(.one (.sl true 3 1 (Ah c3 v1)))),(14,(I (ln v1))),(15,(I z2))] [(.box 3,[.sl false 77 3 (Ah (Cs false) xF.Blocks)])]
def oC (z3:List Aq):St:=AG [(7,(.one (.sl true 54 8 (Ah Gb z3))))] []
def oB (xF:Flash) (xB:Int) (v1:List Int) (a:List Aq) (y1:Int) (v2:Aq×Bool) (z4:Bool):St:=AG [(2,(I xB)),(3,(.one (.ptr (.box 3) 0 [] 0))),(7,(.one (.sl true 54 8 (Ah Gb a)))),(10,(.one (.ptr (.box 10) 0 [] 0))),(13,(.one (.sl true 3 1 (Ah c3 v1)))),(14,(I (ln v1))),(15,(I y1)),(31,(B z4))] [(.box 3,[.sl false 77 3 (Ah (Cs false) xF.Blocks)]),(.box 10,[.int .i64 v2.1.Block,.int .i64 v2.1.Leaf,.int .i64 v2.1.Page.Kind,.int .i64 v2.1.Page.Seq,.int .i64 v2.1.Page.Tx,.int .i64 v2.1.Page.Part,.int .i64 v2.1.Page.Count,.str v2.1.Page.Text])]
theorem tI (xF:Flash) (xS:Store) (xB:Int) (r:List Aq) (h:Uz xF xS xB=some r):Be Tryz.prog 38 [.sv (.agg [.sl false 77 3 (Ah (Cs false) xF.Blocks)]),.sv (.agg [.sl false 39 2 (Ah CD xS.Vols),.sl false 150 2 (Ah (AN false) xS.Arena.Knots),.int .i64 xS.Next]),.sv (I xB)] (.one (.sl true 54 8 (Ah Gb r))) (List.replicate 3 .gone):=by
 unfold Uz at h;refine gk Tryz.func38 rfl Tryz.ntmps38 (ws (Ab 3 0 (RW.nil (ws (Ab 1 0 (RW.nil (Wp.seq (ws (Ab 1 0 (RW.c 0 h (oJ _) (fun v1 gv1 h=>RW.q (D5 k3 v1) (Ab 1 0 (RW.nil ?_)))))))))))));refine BO h [2,3,7,13,14,15] [.box 3] (fun s=>(oD xF xB v1 s.1 s.2)) [7] [] (fun s=>(oC s)) A4 ?_ ?_
 ·rintro⟨b,y1⟩ o (h:ID xF xB v1 b y1=some o);unfold ID at h;refine ws (Ab 1 0 (RW.nil (Wp.seq (wc h (fun h=>?_) (fun h=>?_)))))
  ·refine Wp.skip (Wp.seq (Wp.block (ws (bd h fun x1 gx1 h=>RW.q (Cq k3 gx1) (RW.q (CN k3 gx1 0) (Ab 1 0 (RW.nil (ws (Ab 2 0 (RW.c 0 h (oF _ _) (fun v2 gv2 h=>Ab 6 1 (RW.nil ?_))))))))))));refine Wp.seq (B3 h [2,3,7,10,13,14,15,31] [.box 3,.box 10] (fun a=>(oB xF xB v1 b y1 v2 a)) ?_ ?_)
   ·intro a h;refine Ax (Ab 2 0 (Ba 26 h (fun h=>?_) (fun h=>?_)))
    ·refine Ab 5 0 (RW.nil ?_);cases h;exact⟨_,rfl,A4⟩
    refine Ab 5 0 (RW.nil ?_);cases h;exact⟨_,rfl,A4⟩
   intro j1 h E hE;refine AE hE (wc h (fun h=>?_) (fun h=>?_))
   ·refine Ax (Ab 3 0 (bd h fun q1 gq1 h=>Dl (EQ DY (fun _=>rfl) b gq1) (Ab 1 1 (RW.nil (Ax (Ab 2 0 (RW.nil ?_)))))));cases h;exact⟨_,rfl,A4⟩
   refine Wp.skip (Ax (Ab 2 0 (RW.nil ?_)));cases h;exact⟨_,rfl,A4⟩
  refine Wp.exit ?_;cases h;exact⟨_,rfl,A4⟩
 intro v3 h E hE;refine AE hE (ws (Ab 2 2 (RW.nil ?_)));cases h;exact Wp.ret ⟨.inr rfl,BJ (by kernel_rfl)⟩
def YA (a:Int) (xB:Int) (v2:List Aq) (z1:Int) (z2:Int):St:=AG [(2,(I a)),(3,(I xB)),(9,(I z1)),(18,(.one (.sl true 54 8 (Ah Gb v2)))),(19,(I (ln v2))),(20,(I z2))] []
def Y9 (z3:Int):St:=AG [(9,(I z3))] []
def Y8 (a:Int) (xB:Int) (v2:List Aq) (b:Int) (y1:Int) (z4:Bool):St:=AG [(2,(I a)),(3,(I xB)),(9,(I b)),(18,(.one (.sl true 54 8 (Ah Gb v2)))),(19,(I (ln v2))),(20,(I y1)),(40,(B z4))] []
theorem eE (xF:Flash) (xS:Store) (b:Int) (xB:Int) (r:Int) (h:Kk xF xS b xB=some r):Be Tryz.prog 15 [.sv (.agg [.sl false 77 3 (Ah (Cs false) xF.Blocks)]),.sv (.agg [.sl false 39 2 (Ah CD xS.Vols),.sl false 150 2 (Ah (AN false) xS.Arena.Knots),.int .i64 xS.Next]),.sv (I b),.sv (I xB)] (I r) (List.replicate 4 .gone):=by
 unfold Kk at h;refine gk Tryz.func15 rfl Tryz.ntmps15 (ws (Ab 3 0 (RW.nil (ws (Ab 3 0 (RW.c 0 h (tI _ _ _) (fun v1 gv1 h=>RW.q (D5 DY v1) (Ab 1 0 (RW.nil (Wp.seq (ws (Ab 1 0 (RW.c 0 h (Tp _) (fun v2 gv2 h=>?_))))))))))))));refine RW.q (D5 DY v2) (Ab 1 0 (RW.nil (BO h [2,3,9,18,19,20] [] (fun s=>(YA b xB v2 s.1 s.2)) [9] [] (fun s=>(Y9 s)) A4 ?_ ?_)))
 ·rintro⟨d,y1⟩ o (h:Hc b xB v2 d y1=some o);unfold Hc at h;refine ws (Ab 1 0 (RW.nil (Wp.seq (wc h (fun h=>?_) (fun h=>?_)))))
  ·refine Wp.skip (Wp.seq (Wp.block (ws (bd h fun x1 gx1 h=>RW.q (Cq DY gx1) (RW.q (Si DY gx1 0 8) (Ab 2 0 (RW.nil (Wp.seq (B3 h [2,3,9,18,19,20,40] [] (fun a=>(Y8 b xB v2 d y1 a)) ?_ ?_)))))))))
   ·intro a h;refine Ax (Ab 5 0 (Ba 28 h (fun h=>?_) (fun h=>?_)))
    ·refine Ab 6 0 (Ba 34 h (fun h=>?_) (fun h=>?_))
     ·refine Ab 6 0 (RW.nil ?_);cases h;exact⟨_,rfl,A4⟩
     refine Ab 6 0 (RW.nil ?_);cases h;exact⟨_,rfl,A4⟩
    refine Ab 12 0 (RW.nil ?_);cases h;exact⟨_,rfl,A4⟩
   intro j1 h E hE;refine AE hE (wc h (fun h=>?_) (fun h=>?_))
   ·refine Ax (Ab 3 0 (RW.nil (Ax (Ab 2 0 (RW.nil ?_)))));cases h;exact⟨_,rfl,A4⟩
   refine Wp.skip (Ax (Ab 2 0 (RW.nil ?_)));cases h;exact⟨_,rfl,A4⟩
  refine Wp.exit ?_;cases h;exact⟨_,rfl,A4⟩
 intro v3 h E hE;refine AE hE (ws (Ab 2 0 (RW.nil ?_)));cases h;exact Wp.ret ⟨.inr rfl,BJ (by kernel_rfl)⟩
theorem cG (xF:Flash) (xS:Store) (a:Int) (xB:Int) (r:Int) (h:Me xF xS a xB=some r):Be Tryz.prog 16 [.sv (.agg [.sl false 77 3 (Ah (Cs false) xF.Blocks)]),.sv (.agg [.sl false 39 2 (Ah CD xS.Vols),.sl false 150 2 (Ah (AN false) xS.Arena.Knots),.int .i64 xS.Next]),.sv (I a),.sv (I xB)] (I r) (List.replicate 4 .gone):=by
 unfold Me at h;refine gk Tryz.func16 rfl Tryz.ntmps16 (ws (Ab 3 0 (RW.nil (ws (Ab 1 0 (RW.c 0 h (F9 _) (fun v1 gv1 h=>Ab 1 1 (RW.nil (ws (Ab 3 0 (RW.c 0 h (JZ _) (fun v2 gv2 h=>Ab 1 0 (RW.c 0 h (gs (ca (co (cs (Sn _))) (ca (co (cs (fZ _))) rfl)) (Ip _ _ _)) (fun v3 gv3 h=>?_) (hc:=(.inr (fun v=>by simp [BE,BL,AR,BB,ns4]))))))))))))))));refine Ab 1 0 (RW.c 0 h (gs (ca (co (cs (Sn _))) (ca (co (cs (sh4 _))) rfl)) (PG _ _ _)) (fun v4 gv4 h=>Ab 1 0 (RW.nil ?_)) (hc:=(.inr (fun v=>rfl))));cases h;exact Wp.ret ⟨.inr rfl,BJ (by kernel_rfl)⟩
def Xi (v2:AM) (v3:List Aq) (x1:Int) (z1:Int) (z2:Int):St:=AG [(3,(.one (.ptr (.box 3) 0 [] 0))),(4,(.one (.sl true 54 8 (Ah Gb v3)))),(5,(I (Int.tmod x1 12))),(6,(I z1)),(7,(I z2))] [(.box 3,[.sl false 77 3 (Ah (Cs false) v2.Flash.Blocks),.sl false 39 2 (Ah CD v2.Store.Vols),.sl false 150 2 (Ah (AN false) v2.Store.Arena.Knots),.int .i64 v2.Store.Next,.int .i64 v2.Seq,.int .i64 v2.Tx,.int .i64 v2.Base])]
def Xh (v2:AM) (v3:List Aq) (x1:Int) (z3:Int):St:=AG [(3,(.one (.ptr (.box 3) 0 [] 0))),(4,(.one (.sl true 54 8 (Ah Gb v3)))),(5,(I (Int.tmod x1 12))),(6,(I z3))] [(.box 3,[.sl false 77 3 (Ah (Cs false) v2.Flash.Blocks),.sl false 39 2 (Ah CD v2.Store.Vols),.sl false 150 2 (Ah (AN false) v2.Store.Arena.Knots),.int .i64 v2.Store.Next,.int .i64 v2.Seq,.int .i64 v2.Tx,.int .i64 v2.Base])]
def Xg (v3:List Aq) (x1:Int) (v7:Int) (z4:Int) (z5:Int):St:=AG [(4,(.one (.sl true 54 8 (Ah Gb v3)))),(5,(I (Int.tmod x1 12))),(6,(I v7)),(9,(I z4)),(10,(I z5))] []
def Xf (v7:Int) (z6:Int):St:=AG [(6,(I v7)),(9,(I z6))] []
theorem ZK (a:List Int) (r:Bool) (h:JM a=some r):Be Tryz.prog 4 [.sv (.one (.sl false 5 1 (Ah c5 a)))] (B r) (List.replicate 1 .gone):=by
 unfold JM at h;refine gk Tryz.func4 rfl Tryz.ntmps4 (ws (Ab 1 0 (RW.nil (Wp.seq (ws (Ab 1 0 (RW.c 0 h (yY _) (fun v1 gv1 h=>RW.nil (wc h (fun h=>?_) (fun h=>?_))))))))))
 ·refine ws (Ab 1 0 (RW.nil ?_));cases h;exact Wp.ret ⟨.inr rfl,BJ (by kernel_rfl)⟩
 refine Wp.skip (ws (Ab 1 0 (RW.c 0 h (VW _) (fun v2 gv2 h=>Ab 2 0 (RW.nil (ws (Ab 2 0 (RW.c 0 h (F9 _) (fun v3 gv3 h=>Ab 1 1 (RW.nil (ws (Ab 1 0 (RW.c 0 h (VV _) (fun v4 gv4 h=>?_))))))))))))))
 refine bd h fun x1 gx1 h=>RW.q (Cq k3 gx1) (RW.q (CN k3 gx1 0) (Ab 2 0 (RW.nil (ws (Ab 1 0 (RW.nil (Wp.seq (ws (Ab 1 0 (RW.nil (Fk h [3,4,5,6,7] [.box 3] (fun s=>(Xi v2 v3 x1 s.1 s.2)) [3,4,5,6] [.box 3] (fun s=>(Xh v2 v3 x1 s)) A4 ?_ ?_)))))))))))
 ·rintro⟨d,e⟩ o (h:FL v2 x1 d e=some o) hk1;unfold FL at h;refine Wp.seq (ws (Ab 4 0 (RW.q (D5 (Fq false) v2.Flash.Blocks) (Ab 1 0 (RW.nil (wc h (fun h=>?_) (fun h=>?_)))))))
  ·refine Wp.skip (Wp.seq (Wp.block (ws (Ab 6 0 (RW.c 0 h (eE _ _ _ _) (fun v5 gv5 h=>Ab 1 0 (RW.nil (Wp.seq (ws (Ab 7 0 (RW.c 0 h (cG _ _ _ _) (fun v6 gv6 h=>Ab 1 0 (RW.nil ?_)))))))))))));refine wc h (fun h=>?_) (fun h=>?_)
   ·refine ws (Ab 1 0 (RW.nil ?_));cases h;replace h:some _=some _:=hk1 _ rfl;cases h;exact Wp.ret ⟨.inr rfl,BJ (by kernel_rfl)⟩
   refine Wp.skip (Ax (Ab 4 0 (RW.nil (Ax (Ab 3 0 (RW.nil ?_))))));cases h;exact⟨_,rfl,A4⟩
  refine Wp.exit ?_;cases h;exact⟨_,rfl,A4⟩
 intro v7 h E hE;refine AE hE (ws (Ab 2 0 (RW.c 0 h (JZ _) (fun v8 gv8 h=>RW.q (D5 k3 v8) (Ab 1 0 (RW.nil (Wp.seq (ws (Ab 1 0 (RW.nil (BO h [4,5,6,9,10] [] (fun s=>(Xg v3 x1 v7 s.1 s.2)) [6,9] [] (fun s=>(Xf v7 s)) A4 ?_ ?_)))))))))))
 ·rintro⟨b,f⟩ o (h:GS v3 x1 b f=some o);unfold GS at h;refine Wp.seq (ws (Ab 2 0 (RW.q (D5 DY v3) (Ab 1 0 (RW.nil (wc h (fun h=>?_) (fun h=>?_)))))))
  ·refine Wp.skip (Wp.seq (Wp.block (ws (Ab 2 0 (bd h fun x2 gx2 h=>RW.q (Cq DY gx2) (RW.q (DD DY gx2 0 2) (RW.q (DD DY gx2 2 2) (RW.q (CN DY gx2 2) (Ab 2 0 (Ba 67 h (fun h=>?_) (fun h=>?_)))))))))))
   ·refine Ab 2 0 (bd h fun x3 gx3 h=>RW.q (Cq DY gx3) (RW.q (DD DY gx3 0 2) (RW.q (DD DY gx3 2 4) (RW.q (CN DY gx3 4) (Ab 3 0 (RW.nil (wc h (fun h=>?_) (fun h=>?_))))))))
    ·refine Ax (Ab 3 0 (RW.nil (Ax (Ab 3 0 (RW.nil ?_)))));cases h;exact⟨_,rfl,A4⟩
    refine Wp.skip (Ax (Ab 3 0 (RW.nil ?_)));cases h;exact⟨_,rfl,A4⟩
   refine Ab 9 0 (RW.nil (wf (Wp.skip (Ax (Ab 3 0 (RW.nil ?_))))));cases h;exact⟨_,rfl,A4⟩
  refine Wp.exit ?_;cases h;exact⟨_,rfl,A4⟩
 intro v9 h E hE;refine AE hE (ws (Ab 4 0 (RW.nil ?_)));cases h;exact Wp.ret ⟨.inr rfl,BJ (by kernel_rfl)⟩
end Go.TI
