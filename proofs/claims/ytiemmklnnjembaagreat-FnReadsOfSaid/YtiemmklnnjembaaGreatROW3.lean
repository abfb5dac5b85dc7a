/- That they compute it. No condition. -/
import Derived.Test.YtiemmklnnjembaaGreatROW2
namespace Go.TI
open Go Go.Proofs
set_option maxRecDepth 100000
def Ve (z1:Int) (z2:List Block) (z3:List Vol) (z4:List BU) (z5:Int) (z6:Int) (z7:Int) (z8:Int) (z9:List Int) (z10:Int) (z11:Int):St:=AE [(0,(.one (.ptr (.ext 0) 0 [] 0))),(2,(.one (.ptr (.box 2) 0 [] 0))),(3,(.one (.ptr (.box 3) 0 [] 0))),(5,(I z1))] [(.box 2,[.sl true 77 3 (Ah (Co true) []),.sl true 39 2 (Ah CC []),.sl true 150 2 (Ah (AS true) []),.int .i64 0,.int .i64 0,.int .i64 0,.int .i64 0]),(.box 3,[.sl false 77 3 (Ah (Co false) z2),.sl false 39 2 (Ah CC z3),.sl false 150 2 (Ah (AS false) z4),.int .i64 z5,.int .i64 z6,.int .i64 z7,.int .i64 z8]),(.ext 0,[.sl false 5 1 (Ah c5 z9),.int .i64 z10,.int .i64 z11])]
def Vd (z12:List Block) (z13:List Vol) (z14:List BU) (z15:Int) (z16:Int) (z17:Int) (z18:Int) (z19:List Int) (z20:Int) (z21:Int):St:=AE [(2,(.one (.ptr (.box 2) 0 [] 0))),(3,(.one (.ptr (.box 3) 0 [] 0)))] [(.box 2,[.sl true 77 3 (Ah (Co true) []),.sl true 39 2 (Ah CC []),.sl true 150 2 (Ah (AS true) []),.int .i64 0,.int .i64 0,.int .i64 0,.int .i64 0]),(.box 3,[.sl false 77 3 (Ah (Co false) z12),.sl false 39 2 (Ah CC z13),.sl false 150 2 (Ah (AS false) z14),.int .i64 z15,.int .i64 z16,.int .i64 z17,.int .i64 z18]),(.ext 0,[.sl false 5 1 (Ah c5 z19),.int .i64 z20,.int .i64 z21])]
def Vc (a:Int) (z22:List Block) (z23:List Vol) (z24:List BU) (z25:Int) (z26:Int) (z27:Int) (z28:Int) (z29:List Int) (z30:Int) (z31:Int):St:=AE [(0,(.one (.ptr (.ext 0) 0 [] 0))),(2,(.one (.ptr (.box 2) 0 [] 0))),(3,(.one (.ptr (.box 3) 0 [] 0))),(5,(I a))] [(.box 2,[.sl true 77 3 (Ah (Co true) []),.sl true 39 2 (Ah CC []),.sl true 150 2 (Ah (AS true) []),.int .i64 0,.int .i64 0,.int .i64 0,.int .i64 0]),(.box 3,[.sl false 77 3 (Ah (Co false) z22),.sl false 39 2 (Ah CC z23),.sl false 150 2 (Ah (AS false) z24),.int .i64 z25,.int .i64 z26,.int .i64 z27,.int .i64 z28]),(.ext 0,[.sl false 5 1 (Ah c5 z29),.int .i64 z30,.int .i64 z31])]
set_option maxHeartbeats 4000000 in
theorem WT (xC:BE) (r:AH×BE) (h:K2 xC=some r):Ba Tryz.prog 28 [.ext [.sl false 5 1 (Ah c5 xC.b_),.int .i64 xC.i_,.int .i64 xC.h_]] (.agg [.sl false 77 3 (Ah (Co false) r.1.Flash.Blocks),.sl false 39 2 (Ah CC r.1.Store.Vols),.sl false 150 2 (Ah (AS false) r.1.Store.Arena.Knots),.int .i64 r.1.Store.Next,.int .i64 r.1.Seq,.int .i64 r.1.Tx,.int .i64 r.1.Base]) (.ext [.sl false 5 1 (Ah c5 r.2.b_),.int .i64 r.2.i_,.int .i64 r.2.h_]::List.replicate 0 .gone):=by
 unfold K2 at h;refine gkx Tryz.func28 rfl Tryz.ntmps28 (ws (Ab 1 0 (RW.nil (ws (Ab 1 0 (G6 h (De _ _) (fun _=>rfl) (fun v1 gv1 h=>Ab 1 0 (RW.c 0 h (XO _) (fun v2 gv2 h=>Ab 2 1 (RW.fz (.slot 11) 0 (Fw v2.1.Flash.Blocks) (RW.fz (.slot 11) 1 (Fx v2.1.Store.Vols) (RW.fz (.slot 11) 2 (Dj v2.1.Store.Arena.Knots) (Ab 4 0 ?_)))))))))))));refine RW.nil (Wp.seq (ws (Ab 1 0 (RW.nil (BP h [0,2,3,5] [.box 2,.box 3,.ext 0] (fun s=>(Ve s.1 s.2.1 s.2.2.1 s.2.2.2.1 s.2.2.2.2.1 s.2.2.2.2.2.1 s.2.2.2.2.2.2.1 s.2.2.2.2.2.2.2.1 s.2.2.2.2.2.2.2.2.1 s.2.2.2.2.2.2.2.2.2.1 s.2.2.2.2.2.2.2.2.2.2)) [2,3] [.box 2,.box 3,.ext 0] (fun s=>(Vd s.1 s.2.1 s.2.2.1 s.2.2.2.1 s.2.2.2.2.1 s.2.2.2.2.2.1 s.2.2.2.2.2.2.1 s.2.2.2.2.2.2.2.1 s.2.2.2.2.2.2.2.2.1 s.2.2.2.2.2.2.2.2.2)) Ay ?_ ?_)))))
 ·rintro⟨b,d,e,f,g,i,j,k,l,m,n⟩ o (h:ES b d e f g i j k l m n=some o);unfold ES at h;refine Wp.seq (ws (Ab 2 0 (G6 h (De _ _) (fun _=>rfl) (fun v3 gv3 h=>Ab 1 0 (RW.nil (wc h (fun h=>?_) (fun h=>?_)))))))
  ·refine Wp.skip (Wp.seq (Wp.block (Bq h [0,2,3,5] [.box 2,.box 3,.ext 0] (fun a=>(Vc b a.1 a.2.1 a.2.2.1 a.2.2.2.1 a.2.2.2.2.1 a.2.2.2.2.2.1 a.2.2.2.2.2.2.1 a.2.2.2.2.2.2.2.1 a.2.2.2.2.2.2.2.2.1 a.2.2.2.2.2.2.2.2.2)) ?_ ?_)))
   ·intro a h;refine Er [3,10] Ct (fun c E h=>by rcases h with⟨h|h,_⟩<;>cases h) (AC [1,2] 0 (Be 0 3 ?_ ?_))
    ·refine KB.o false (BD 3 (Zz h (SN _ _) (fun _=>rfl) (fun v4 gv4 h=>BD 4 (KB.c 0 h (YI _ _) (fun v5 gv5 h=>AC [5] 1 (rN 6 7 8 9 ?_ ?_ ?_ ?_))))))
     ·refine KB.o false (KW.fz (.slot 25) 0 (Fw v5.1.Flash.Blocks) (KW.fz (.slot 25) 1 (Fx v5.1.Store.Vols) (KW.fz (.slot 25) 2 (Dj v5.1.Store.Arena.Knots) (rN 7 8 9 10 ?_ ?_ ?_ ?_))))
      ·refine KB.o false (Hg 8 9 10 ?_ ?_ ?_)
       ·refine KB.o false (Be 9 10 ?_ ?_)
        ·refine KB.o false (AC [10] 0 (Ak ?_));cases h;exact⟨_,rfl,Ay⟩
        refine KB.o false (AC [9] 0 (Ak ?_));cases h;exact⟨_,rfl,Ay⟩
       ·refine KB.o false (Be 8 10 ?_ ?_)
        ·refine KB.o false (AC [10] 0 (Ak ?_));cases h;exact⟨_,rfl,Ay⟩
        refine KB.o false (AC [8] 0 (Ak ?_));cases h;exact⟨_,rfl,Ay⟩
       refine KB.o false (Be 8 9 ?_ ?_)
       ·refine KB.o false (AC [9] 0 (Ak ?_));cases h;exact⟨_,rfl,Ay⟩
       refine KB.o false (AC [8] 0 (Ak ?_));cases h;exact⟨_,rfl,Ay⟩
      ·refine KB.o false (Hg 7 9 10 ?_ ?_ ?_)
       ·refine KB.o false (Be 9 10 ?_ ?_)
        ·refine KB.o false (AC [10] 0 (Ak ?_));cases h;exact⟨_,rfl,Ay⟩
        refine KB.o false (AC [9] 0 (Ak ?_));cases h;exact⟨_,rfl,Ay⟩
       ·refine KB.o false (Be 7 10 ?_ ?_)
        ·refine KB.o false (AC [10] 0 (Ak ?_));cases h;exact⟨_,rfl,Ay⟩
        refine KB.o false (AC [7] 0 (Ak ?_));cases h;exact⟨_,rfl,Ay⟩
       refine KB.o false (Be 7 9 ?_ ?_)
       ·refine KB.o false (AC [9] 0 (Ak ?_));cases h;exact⟨_,rfl,Ay⟩
       refine KB.o false (AC [7] 0 (Ak ?_));cases h;exact⟨_,rfl,Ay⟩
      ·refine KB.o false (Hg 7 8 10 ?_ ?_ ?_)
       ·refine KB.o false (Be 8 10 ?_ ?_)
        ·refine KB.o false (AC [10] 0 (Ak ?_));cases h;exact⟨_,rfl,Ay⟩
        refine KB.o false (AC [8] 0 (Ak ?_));cases h;exact⟨_,rfl,Ay⟩
       ·refine KB.o false (Be 7 10 ?_ ?_)
        ·refine KB.o false (AC [10] 0 (Ak ?_));cases h;exact⟨_,rfl,Ay⟩
        refine KB.o false (AC [7] 0 (Ak ?_));cases h;exact⟨_,rfl,Ay⟩
       refine KB.o false (Be 7 8 ?_ ?_)
       ·refine KB.o false (AC [8] 0 (Ak ?_));cases h;exact⟨_,rfl,Ay⟩
       refine KB.o false (AC [7] 0 (Ak ?_));cases h;exact⟨_,rfl,Ay⟩
      refine KB.o false (Hg 7 8 9 ?_ ?_ ?_)
      ·refine KB.o false (Be 8 9 ?_ ?_)
       ·refine KB.o false (AC [9] 0 (Ak ?_));cases h;exact⟨_,rfl,Ay⟩
       refine KB.o false (AC [8] 0 (Ak ?_));cases h;exact⟨_,rfl,Ay⟩
      ·refine KB.o false (Be 7 9 ?_ ?_)
       ·refine KB.o false (AC [9] 0 (Ak ?_));cases h;exact⟨_,rfl,Ay⟩
       refine KB.o false (AC [7] 0 (Ak ?_));cases h;exact⟨_,rfl,Ay⟩
      refine KB.o false (Be 7 8 ?_ ?_)
      ·refine KB.o false (AC [8] 0 (Ak ?_));cases h;exact⟨_,rfl,Ay⟩
      refine KB.o false (AC [7] 0 (Ak ?_));cases h;exact⟨_,rfl,Ay⟩
     ·refine KB.o false (Hg 6 8 9 ?_ ?_ ?_)
      ·refine KB.o false (KW.fz (.slot 25) 0 (Fw v5.1.Flash.Blocks) (KW.fz (.slot 25) 1 (Fx v5.1.Store.Vols) (KW.fz (.slot 25) 2 (Dj v5.1.Store.Arena.Knots) (Hg 8 9 10 ?_ ?_ ?_))))
       ·refine KB.o false (Be 9 10 ?_ ?_)
        ·refine KB.o false (AC [10] 0 (Ak ?_));cases h;exact⟨_,rfl,Ay⟩
        refine KB.o false (AC [9] 0 (Ak ?_));cases h;exact⟨_,rfl,Ay⟩
       ·refine KB.o false (Be 8 10 ?_ ?_)
        ·refine KB.o false (AC [10] 0 (Ak ?_));cases h;exact⟨_,rfl,Ay⟩
        refine KB.o false (AC [8] 0 (Ak ?_));cases h;exact⟨_,rfl,Ay⟩
       refine KB.o false (Be 8 9 ?_ ?_)
       ·refine KB.o false (AC [9] 0 (Ak ?_));cases h;exact⟨_,rfl,Ay⟩
       refine KB.o false (AC [8] 0 (Ak ?_));cases h;exact⟨_,rfl,Ay⟩
      ·refine KB.o false (Be 6 9 ?_ ?_)
       ·refine KB.o false (KW.fz (.slot 25) 0 (Fw v5.1.Flash.Blocks) (KW.fz (.slot 25) 1 (Fx v5.1.Store.Vols) (KW.fz (.slot 25) 2 (Dj v5.1.Store.Arena.Knots) (Be 9 10 ?_ ?_))))
        ·refine KB.o false (AC [10] 0 (Ak ?_));cases h;exact⟨_,rfl,Ay⟩
        refine KB.o false (AC [9] 0 (Ak ?_));cases h;exact⟨_,rfl,Ay⟩
       refine KB.o false (AC [6] 0 (KW.fz (.slot 25) 0 (Fw v5.1.Flash.Blocks) (KW.fz (.slot 25) 1 (Fx v5.1.Store.Vols) (KW.fz (.slot 25) 2 (Dj v5.1.Store.Arena.Knots) (AC [10] 0 (Ak ?_))))));cases h;exact⟨_,rfl,Ay⟩
      refine KB.o false (Be 6 8 ?_ ?_)
      ·refine KB.o false (KW.fz (.slot 25) 0 (Fw v5.1.Flash.Blocks) (KW.fz (.slot 25) 1 (Fx v5.1.Store.Vols) (KW.fz (.slot 25) 2 (Dj v5.1.Store.Arena.Knots) (Be 8 10 ?_ ?_))))
       ·refine KB.o false (AC [10] 0 (Ak ?_));cases h;exact⟨_,rfl,Ay⟩
       refine KB.o false (AC [8] 0 (Ak ?_));cases h;exact⟨_,rfl,Ay⟩
      refine KB.o false (AC [6] 0 (KW.fz (.slot 25) 0 (Fw v5.1.Flash.Blocks) (KW.fz (.slot 25) 1 (Fx v5.1.Store.Vols) (KW.fz (.slot 25) 2 (Dj v5.1.Store.Arena.Knots) (AC [10] 0 (Ak ?_))))));cases h;exact⟨_,rfl,Ay⟩
     ·refine KB.o false (Hg 6 7 9 ?_ ?_ ?_)
      ·refine KB.o false (KW.fz (.slot 25) 0 (Fw v5.1.Flash.Blocks) (KW.fz (.slot 25) 1 (Fx v5.1.Store.Vols) (KW.fz (.slot 25) 2 (Dj v5.1.Store.Arena.Knots) (Hg 7 9 10 ?_ ?_ ?_))))
       ·refine KB.o false (Be 9 10 ?_ ?_)
        ·refine KB.o false (AC [10] 0 (Ak ?_));cases h;exact⟨_,rfl,Ay⟩
        refine KB.o false (AC [9] 0 (Ak ?_));cases h;exact⟨_,rfl,Ay⟩
       ·refine KB.o false (Be 7 10 ?_ ?_)
        ·refine KB.o false (AC [10] 0 (Ak ?_));cases h;exact⟨_,rfl,Ay⟩
        refine KB.o false (AC [7] 0 (Ak ?_));cases h;exact⟨_,rfl,Ay⟩
       refine KB.o false (Be 7 9 ?_ ?_)
       ·refine KB.o false (AC [9] 0 (Ak ?_));cases h;exact⟨_,rfl,Ay⟩
       refine KB.o false (AC [7] 0 (Ak ?_));cases h;exact⟨_,rfl,Ay⟩
      ·refine KB.o false (Be 6 9 ?_ ?_)
       ·refine KB.o false (KW.fz (.slot 25) 0 (Fw v5.1.Flash.Blocks) (KW.fz (.slot 25) 1 (Fx v5.1.Store.Vols) (KW.fz (.slot 25) 2 (Dj v5.1.Store.Arena.Knots) (Be 9 10 ?_ ?_))))
        ·refine KB.o false (AC [10] 0 (Ak ?_));cases h;exact⟨_,rfl,Ay⟩
        refine KB.o false (AC [9] 0 (Ak ?_));cases h;exact⟨_,rfl,Ay⟩
       refine KB.o false (AC [6] 0 (KW.fz (.slot 25) 0 (Fw v5.1.Flash.Blocks) (KW.fz (.slot 25) 1 (Fx v5.1.Store.Vols) (KW.fz (.slot 25) 2 (Dj v5.1.Store.Arena.Knots) (AC [10] 0 (Ak ?_))))));cases h;exact⟨_,rfl,Ay⟩
      refine KB.o false (Be 6 7 ?_ ?_)
      ·refine KB.o false (KW.fz (.slot 25) 0 (Fw v5.1.Flash.Blocks) (KW.fz (.slot 25) 1 (Fx v5.1.Store.Vols) (KW.fz (.slot 25) 2 (Dj v5.1.Store.Arena.Knots) (Be 7 10 ?_ ?_))))
       ·refine KB.o false (AC [10] 0 (Ak ?_));cases h;exact⟨_,rfl,Ay⟩
       refine KB.o false (AC [7] 0 (Ak ?_));cases h;exact⟨_,rfl,Ay⟩
      refine KB.o false (AC [6] 0 (KW.fz (.slot 25) 0 (Fw v5.1.Flash.Blocks) (KW.fz (.slot 25) 1 (Fx v5.1.Store.Vols) (KW.fz (.slot 25) 2 (Dj v5.1.Store.Arena.Knots) (AC [10] 0 (Ak ?_))))));cases h;exact⟨_,rfl,Ay⟩
     refine KB.o false (Hg 6 7 8 ?_ ?_ ?_)
     ·refine KB.o false (KW.fz (.slot 25) 0 (Fw v5.1.Flash.Blocks) (KW.fz (.slot 25) 1 (Fx v5.1.Store.Vols) (KW.fz (.slot 25) 2 (Dj v5.1.Store.Arena.Knots) (Hg 7 8 10 ?_ ?_ ?_))))
      ·refine KB.o false (Be 8 10 ?_ ?_)
       ·refine KB.o false (AC [10] 0 (Ak ?_));cases h;exact⟨_,rfl,Ay⟩
       refine KB.o false (AC [8] 0 (Ak ?_));cases h;exact⟨_,rfl,Ay⟩
      ·refine KB.o false (Be 7 10 ?_ ?_)
       ·refine KB.o false (AC [10] 0 (Ak ?_));cases h;exact⟨_,rfl,Ay⟩
       refine KB.o false (AC [7] 0 (Ak ?_));cases h;exact⟨_,rfl,Ay⟩
      refine KB.o false (Be 7 8 ?_ ?_)
      ·refine KB.o false (AC [8] 0 (Ak ?_));cases h;exact⟨_,rfl,Ay⟩
      refine KB.o false (AC [7] 0 (Ak ?_));cases h;exact⟨_,rfl,Ay⟩
     ·refine KB.o false (Be 6 8 ?_ ?_)
      ·refine KB.o false (KW.fz (.slot 25) 0 (Fw v5.1.Flash.Blocks) (KW.fz (.slot 25) 1 (Fx v5.1.Store.Vols) (KW.fz (.slot 25) 2 (Dj v5.1.Store.Arena.Knots) (Be 8 10 ?_ ?_))))
       ·refine KB.o false (AC [10] 0 (Ak ?_));cases h;exact⟨_,rfl,Ay⟩
       refine KB.o false (AC [8] 0 (Ak ?_));cases h;exact⟨_,rfl,Ay⟩
      refine KB.o false (AC [6] 0 (KW.fz (.slot 25) 0 (Fw v5.1.Flash.Blocks) (KW.fz (.slot 25) 1 (Fx v5.1.Store.Vols) (KW.fz (.slot 25) 2 (Dj v5.1.Store.Arena.Knots) (AC [10] 0 (Ak ?_))))));cases h;exact⟨_,rfl,Ay⟩
     refine KB.o false (Be 6 7 ?_ ?_)
     ·refine KB.o false (KW.fz (.slot 25) 0 (Fw v5.1.Flash.Blocks) (KW.fz (.slot 25) 1 (Fx v5.1.Store.Vols) (KW.fz (.slot 25) 2 (Dj v5.1.Store.Arena.Knots) (Be 7 10 ?_ ?_))))
      ·refine KB.o false (AC [10] 0 (Ak ?_));cases h;exact⟨_,rfl,Ay⟩
      refine KB.o false (AC [7] 0 (Ak ?_));cases h;exact⟨_,rfl,Ay⟩
     refine KB.o false (AC [6] 0 (KW.fz (.slot 25) 0 (Fw v5.1.Flash.Blocks) (KW.fz (.slot 25) 1 (Fx v5.1.Store.Vols) (KW.fz (.slot 25) 2 (Dj v5.1.Store.Arena.Knots) (AC [10] 0 (Ak ?_))))));cases h;exact⟨_,rfl,Ay⟩
    refine Zz h (SN _ _) (fun _=>rfl) (fun v6 gv6 h=>AC [0] 0 (BD 4 (KB.c 0 h (YI _ _) (fun v7 gv7 h=>AC [5] 1 (rN 6 7 8 9 ?_ ?_ ?_ ?_)))))
    ·refine KB.o false (KW.fz (.slot 25) 0 (Fw v7.1.Flash.Blocks) (KW.fz (.slot 25) 1 (Fx v7.1.Store.Vols) (KW.fz (.slot 25) 2 (Dj v7.1.Store.Arena.Knots) (rN 7 8 9 10 ?_ ?_ ?_ ?_))))
     ·refine KB.o false (Hg 8 9 10 ?_ ?_ ?_)
      ·refine KB.o false (Be 9 10 ?_ ?_)
       ·refine KB.o false (AC [10] 0 (Ak ?_));cases h;exact⟨_,rfl,Ay⟩
       refine KB.o false (AC [9] 0 (Ak ?_));cases h;exact⟨_,rfl,Ay⟩
      ·refine KB.o false (Be 8 10 ?_ ?_)
       ·refine KB.o false (AC [10] 0 (Ak ?_));cases h;exact⟨_,rfl,Ay⟩
       refine KB.o false (AC [8] 0 (Ak ?_));cases h;exact⟨_,rfl,Ay⟩
      refine KB.o false (Be 8 9 ?_ ?_)
      ·refine KB.o false (AC [9] 0 (Ak ?_));cases h;exact⟨_,rfl,Ay⟩
      refine KB.o false (AC [8] 0 (Ak ?_));cases h;exact⟨_,rfl,Ay⟩
     ·refine KB.o false (Hg 7 9 10 ?_ ?_ ?_)
      ·refine KB.o false (Be 9 10 ?_ ?_)
       ·refine KB.o false (AC [10] 0 (Ak ?_));cases h;exact⟨_,rfl,Ay⟩
       refine KB.o false (AC [9] 0 (Ak ?_));cases h;exact⟨_,rfl,Ay⟩
      ·refine KB.o false (Be 7 10 ?_ ?_)
       ·refine KB.o false (AC [10] 0 (Ak ?_));cases h;exact⟨_,rfl,Ay⟩
       refine KB.o false (AC [7] 0 (Ak ?_));cases h;exact⟨_,rfl,Ay⟩
      refine KB.o false (Be 7 9 ?_ ?_)
      ·refine KB.o false (AC [9] 0 (Ak ?_));cases h;exact⟨_,rfl,Ay⟩
      refine KB.o false (AC [7] 0 (Ak ?_));cases h;exact⟨_,rfl,Ay⟩
     ·refine KB.o false (Hg 7 8 10 ?_ ?_ ?_)
      ·refine KB.o false (Be 8 10 ?_ ?_)
       ·refine KB.o false (AC [10] 0 (Ak ?_));cases h;exact⟨_,rfl,Ay⟩
       refine KB.o false (AC [8] 0 (Ak ?_));cases h;exact⟨_,rfl,Ay⟩
      ·refine KB.o false (Be 7 10 ?_ ?_)
       ·refine KB.o false (AC [10] 0 (Ak ?_));cases h;exact⟨_,rfl,Ay⟩
       refine KB.o false (AC [7] 0 (Ak ?_));cases h;exact⟨_,rfl,Ay⟩
      refine KB.o false (Be 7 8 ?_ ?_)
      ·refine KB.o false (AC [8] 0 (Ak ?_));cases h;exact⟨_,rfl,Ay⟩
      refine KB.o false (AC [7] 0 (Ak ?_));cases h;exact⟨_,rfl,Ay⟩
     refine KB.o false (Hg 7 8 9 ?_ ?_ ?_)
     ·refine KB.o false (Be 8 9 ?_ ?_)
      ·refine KB.o false (AC [9] 0 (Ak ?_));cases h;exact⟨_,rfl,Ay⟩
      refine KB.o false (AC [8] 0 (Ak ?_));cases h;exact⟨_,rfl,Ay⟩
     ·refine KB.o false (Be 7 9 ?_ ?_)
      ·refine KB.o false (AC [9] 0 (Ak ?_));cases h;exact⟨_,rfl,Ay⟩
      refine KB.o false (AC [7] 0 (Ak ?_));cases h;exact⟨_,rfl,Ay⟩
     refine KB.o false (Be 7 8 ?_ ?_)
     ·refine KB.o false (AC [8] 0 (Ak ?_));cases h;exact⟨_,rfl,Ay⟩
     refine KB.o false (AC [7] 0 (Ak ?_));cases h;exact⟨_,rfl,Ay⟩
    ·refine KB.o false (Hg 6 8 9 ?_ ?_ ?_)
     ·refine KB.o false (KW.fz (.slot 25) 0 (Fw v7.1.Flash.Blocks) (KW.fz (.slot 25) 1 (Fx v7.1.Store.Vols) (KW.fz (.slot 25) 2 (Dj v7.1.Store.Arena.Knots) (Hg 8 9 10 ?_ ?_ ?_))))
      ·refine KB.o false (Be 9 10 ?_ ?_)
       ·refine KB.o false (AC [10] 0 (Ak ?_));cases h;exact⟨_,rfl,Ay⟩
       refine KB.o false (AC [9] 0 (Ak ?_));cases h;exact⟨_,rfl,Ay⟩
      ·refine KB.o false (Be 8 10 ?_ ?_)
       ·refine KB.o false (AC [10] 0 (Ak ?_));cases h;exact⟨_,rfl,Ay⟩
       refine KB.o false (AC [8] 0 (Ak ?_));cases h;exact⟨_,rfl,Ay⟩
      refine KB.o false (Be 8 9 ?_ ?_)
      ·refine KB.o false (AC [9] 0 (Ak ?_));cases h;exact⟨_,rfl,Ay⟩
      refine KB.o false (AC [8] 0 (Ak ?_));cases h;exact⟨_,rfl,Ay⟩
     ·refine KB.o false (Be 6 9 ?_ ?_)
      ·refine KB.o false (KW.fz (.slot 25) 0 (Fw v7.1.Flash.Blocks) (KW.fz (.slot 25) 1 (Fx v7.1.Store.Vols) (KW.fz (.slot 25) 2 (Dj v7.1.Store.Arena.Knots) (Be 9 10 ?_ ?_))))
       ·refine KB.o false (AC [10] 0 (Ak ?_));cases h;exact⟨_,rfl,Ay⟩
       refine KB.o false (AC [9] 0 (Ak ?_));cases h;exact⟨_,rfl,Ay⟩
      refine KB.o false (AC [6] 0 (KW.fz (.slot 25) 0 (Fw v7.1.Flash.Blocks) (KW.fz (.slot 25) 1 (Fx v7.1.Store.Vols) (KW.fz (.slot 25) 2 (Dj v7.1.Store.Arena.Knots) (AC [10] 0 (Ak ?_))))));cases h;exact⟨_,rfl,Ay⟩
     refine KB.o false (Be 6 8 ?_ ?_)
     ·refine KB.o false (KW.fz (.slot 25) 0 (Fw v7.1.Flash.Blocks) (KW.fz (.slot 25) 1 (Fx v7.1.Store.Vols) (KW.fz (.slot 25) 2 (Dj v7.1.Store.Arena.Knots) (Be 8 10 ?_ ?_))))
      ·refine KB.o false (AC [10] 0 (Ak ?_));cases h;exact⟨_,rfl,Ay⟩
      refine KB.o false (AC [8] 0 (Ak ?_));cases h;exact⟨_,rfl,Ay⟩
     refine KB.o false (AC [6] 0 (KW.fz (.slot 25) 0 (Fw v7.1.Flash.Blocks) (KW.fz (.slot 25) 1 (Fx v7.1.Store.Vols) (KW.fz (.slot 25) 2 (Dj v7.1.Store.Arena.Knots) (AC [10] 0 (Ak ?_))))));cases h;exact⟨_,rfl,Ay⟩
    ·refine KB.o false (Hg 6 7 9 ?_ ?_ ?_)
     ·refine KB.o false (KW.fz (.slot 25) 0 (Fw v7.1.Flash.Blocks) (KW.fz (.slot 25) 1 (Fx v7.1.Store.Vols) (KW.fz (.slot 25) 2 (Dj v7.1.Store.Arena.Knots) (Hg 7 9 10 ?_ ?_ ?_))))
      ·refine KB.o false (Be 9 10 ?_ ?_)
       ·refine KB.o false (AC [10] 0 (Ak ?_));cases h;exact⟨_,rfl,Ay⟩
       refine KB.o false (AC [9] 0 (Ak ?_));cases h;exact⟨_,rfl,Ay⟩
      ·refine KB.o false (Be 7 10 ?_ ?_)
       ·refine KB.o false (AC [10] 0 (Ak ?_));cases h;exact⟨_,rfl,Ay⟩
       refine KB.o false (AC [7] 0 (Ak ?_));cases h;exact⟨_,rfl,Ay⟩
      refine KB.o false (Be 7 9 ?_ ?_)
      ·refine KB.o false (AC [9] 0 (Ak ?_));cases h;exact⟨_,rfl,Ay⟩
      refine KB.o false (AC [7] 0 (Ak ?_));cases h;exact⟨_,rfl,Ay⟩
     ·refine KB.o false (Be 6 9 ?_ ?_)
      ·refine KB.o false (KW.fz (.slot 25) 0 (Fw v7.1.Flash.Blocks) (KW.fz (.slot 25) 1 (Fx v7.1.Store.Vols) (KW.fz (.slot 25) 2 (Dj v7.1.Store.Arena.Knots) (Be 9 10 ?_ ?_))))
       ·refine KB.o false (AC [10] 0 (Ak ?_));cases h;exact⟨_,rfl,Ay⟩
       refine KB.o false (AC [9] 0 (Ak ?_));cases h;exact⟨_,rfl,Ay⟩
      refine KB.o false (AC [6] 0 (KW.fz (.slot 25) 0 (Fw v7.1.Flash.Blocks) (KW.fz (.slot 25) 1 (Fx v7.1.Store.Vols) (KW.fz (.slot 25) 2 (Dj v7.1.Store.Arena.Knots) (AC [10] 0 (Ak ?_))))));cases h;exact⟨_,rfl,Ay⟩
     refine KB.o false (Be 6 7 ?_ ?_)
     ·refine KB.o false (KW.fz (.slot 25) 0 (Fw v7.1.Flash.Blocks) (KW.fz (.slot 25) 1 (Fx v7.1.Store.Vols) (KW.fz (.slot 25) 2 (Dj v7.1.Store.Arena.Knots) (Be 7 10 ?_ ?_))))
      ·refine KB.o false (AC [10] 0 (Ak ?_));cases h;exact⟨_,rfl,Ay⟩
      refine KB.o false (AC [7] 0 (Ak ?_));cases h;exact⟨_,rfl,Ay⟩
     refine KB.o false (AC [6] 0 (KW.fz (.slot 25) 0 (Fw v7.1.Flash.Blocks) (KW.fz (.slot 25) 1 (Fx v7.1.Store.Vols) (KW.fz (.slot 25) 2 (Dj v7.1.Store.Arena.Knots) (AC [10] 0 (Ak ?_))))));cases h;exact⟨_,rfl,Ay⟩
    refine KB.o false (Hg 6 7 8 ?_ ?_ ?_)
    ·refine KB.o false (KW.fz (.slot 25) 0 (Fw v7.1.Flash.Blocks) (KW.fz (.slot 25) 1 (Fx v7.1.Store.Vols) (KW.fz (.slot 25) 2 (Dj v7.1.Store.Arena.Knots) (Hg 7 8 10 ?_ ?_ ?_))))
     ·refine KB.o false (Be 8 10 ?_ ?_)
      ·refine KB.o false (AC [10] 0 (Ak ?_));cases h;exact⟨_,rfl,Ay⟩
      refine KB.o false (AC [8] 0 (Ak ?_));cases h;exact⟨_,rfl,Ay⟩
     ·refine KB.o false (Be 7 10 ?_ ?_)
      ·refine KB.o false (AC [10] 0 (Ak ?_));cases h;exact⟨_,rfl,Ay⟩
      refine KB.o false (AC [7] 0 (Ak ?_));cases h;exact⟨_,rfl,Ay⟩
     refine KB.o false (Be 7 8 ?_ ?_)
     ·refine KB.o false (AC [8] 0 (Ak ?_));cases h;exact⟨_,rfl,Ay⟩
     refine KB.o false (AC [7] 0 (Ak ?_));cases h;exact⟨_,rfl,Ay⟩
    ·refine KB.o false (Be 6 8 ?_ ?_)
     ·refine KB.o false (KW.fz (.slot 25) 0 (Fw v7.1.Flash.Blocks) (KW.fz (.slot 25) 1 (Fx v7.1.Store.Vols) (KW.fz (.slot 25) 2 (Dj v7.1.Store.Arena.Knots) (Be 8 10 ?_ ?_))))
      ·refine KB.o false (AC [10] 0 (Ak ?_));cases h;exact⟨_,rfl,Ay⟩
      refine KB.o false (AC [8] 0 (Ak ?_));cases h;exact⟨_,rfl,Ay⟩
     refine KB.o false (AC [6] 0 (KW.fz (.slot 25) 0 (Fw v7.1.Flash.Blocks) (KW.fz (.slot 25) 1 (Fx v7.1.Store.Vols) (KW.fz (.slot 25) 2 (Dj v7.1.Store.Arena.Knots) (AC [10] 0 (Ak ?_))))));cases h;exact⟨_,rfl,Ay⟩
    refine KB.o false (Be 6 7 ?_ ?_)
    ·refine KB.o false (KW.fz (.slot 25) 0 (Fw v7.1.Flash.Blocks) (KW.fz (.slot 25) 1 (Fx v7.1.Store.Vols) (KW.fz (.slot 25) 2 (Dj v7.1.Store.Arena.Knots) (Be 7 10 ?_ ?_))))
     ·refine KB.o false (AC [10] 0 (Ak ?_));cases h;exact⟨_,rfl,Ay⟩
     refine KB.o false (AC [7] 0 (Ak ?_));cases h;exact⟨_,rfl,Ay⟩
    refine KB.o false (AC [6] 0 (KW.fz (.slot 25) 0 (Fw v7.1.Flash.Blocks) (KW.fz (.slot 25) 1 (Fx v7.1.Store.Vols) (KW.fz (.slot 25) 2 (Dj v7.1.Store.Arena.Knots) (AC [10] 0 (Ak ?_))))));cases h;exact⟨_,rfl,Ay⟩
   intro j1 h E hE;refine A9 hE (Av (Ab 3 0 (RW.nil ?_)));cases h;exact⟨_,rfl,Ay⟩
  refine Wp.exit ?_;cases h;exact⟨_,rfl,Ay⟩
 intro v8 h E hE;refine A9 hE (ws (Ab 2 0 (RW.nil ?_)));cases h;exact Wp.ret ⟨.inr rfl,sE (by kernel_rfl)⟩
theorem VL (a:List Int) (r:AH) (h:Jn a=some r):Ba Tryz.prog 8 [.sv (.one (.sl false 5 1 (Ah c5 a)))] (.agg [.sl false 77 3 (Ah (Co false) r.Flash.Blocks),.sl false 39 2 (Ah CC r.Store.Vols),.sl false 150 2 (Ah (AS false) r.Store.Arena.Knots),.int .i64 r.Store.Next,.int .i64 r.Seq,.int .i64 r.Tx,.int .i64 r.Base]) (List.replicate 1 .gone):=by
 unfold Jn at h;refine gk Tryz.func8 rfl Tryz.ntmps8 (ws (Ab 1 0 (RW.nil (ws (Ab 1 0 (ACh h (mW _) (fun v1 gv1 h=>G6 h (WT _) (fun _=>rfl) (fun v2 gv2 h=>Ab 1 0 (RW.nil ?_)))))))));cases h;exact Wp.ret ⟨.inr rfl,BA (by kernel_rfl)⟩
def oH (xS:Store) (a:Int) (z1:Int):St:=AE [(1,(I a)),(8,(.one (.sl false 39 2 (Ah CC xS.Vols)))),(9,(I (ln xS.Vols))),(10,(I z1))] []
def oG:St:=AE [] []
theorem Zj (xS:Store) (a:Int) (r:Int) (h:PK xS a=some r):Ba Tryz.prog 30 [.sv (.agg [.sl false 39 2 (Ah CC xS.Vols),.sl false 150 2 (Ah (AS false) xS.Arena.Knots),.int .i64 xS.Next]),.sv (I a)] (I r) (List.replicate 2 .gone):=by
 unfold PK at h;refine gk Tryz.func30 rfl Tryz.ntmps30 (ws (Ab 2 0 (RW.nil (Wp.seq (ws (Ab 2 0 (RW.q (D5 DP xS.Vols) (Ab 1 0 (RW.nil (Em h [1,8,9,10] [] (fun s=>(oH xS a s)) [] [] (fun _=>oG) Ay ?_ ?_))))))))))
 ·rintro y1 o (h:QF xS a y1=some o) hk1;unfold QF at h;refine ws (Ab 1 0 (RW.nil (Wp.seq (wc h (fun h=>?_) (fun h=>?_)))))
  ·refine Wp.skip (Wp.seq (Wp.block (ws (Ab 1 0 (bd h fun x1 gx1 h=>RW.q (Ck DP gx1) (RW.q (Rx DP gx1 0 2) (Ab 3 0 (RW.nil (ws (Ab 4 0 (RW.nil (wc h (fun h=>?_) (fun h=>?_)))))))))))))
   ·refine ws (Ab 2 0 (RW.nil ?_));cases h;replace h:some _=some _:=hk1 _ rfl;cases h;exact Wp.ret ⟨.inr rfl,BA (by kernel_rfl)⟩
   refine Wp.skip (Av (Ab 2 0 (RW.nil ?_)));cases h;exact⟨_,rfl,Ay⟩
  refine Wp.exit ?_;cases h;exact⟨_,rfl,Ay⟩
 intro v1 h E hE;refine A9 hE (ws (Ab 1 0 (RW.nil ?_)));cases h;exact Wp.ret ⟨.inr rfl,BA (by kernel_rfl)⟩
theorem I7 (xN:Int) (b:Int) (a:Int) (r:Bool) (h:OE xN b a=some r):Ba Tryz.prog 35 [.sv (I xN),.sv (I b),.sv (I a)] (B r) (List.replicate 3 .gone):=by
 unfold OE at h;refine gk Tryz.func35 rfl Tryz.ntmps35 (ws (Ab 1 0 (RW.nil (ws (Ab 4 0 (AQ 10 h (fun h=>?_) (fun h=>?_)))))))
 ·refine Ab 5 0 (RW.nil ?_);cases h;exact Wp.ret ⟨.inr rfl,BA (by kernel_rfl)⟩
 refine Ab 5 0 (RW.nil ?_);cases h;exact Wp.ret ⟨.inr rfl,BA (by kernel_rfl)⟩
theorem oJ (xA:Arena) (a:Int) (r:Bool) (h:Pp xA a=some r):Ba Tryz.prog 102 [.sv (.agg [.sl false 150 2 (Ah (AS false) xA.Knots)]),.sv (I a)] (B r) (List.replicate 2 .gone):=by
 unfold Pp at h;refine gk Tryz.func102 rfl Tryz.ntmps102 (ws (Ab 2 0 (RW.nil (ws (Ab 3 0 (RW.q (D5 (CH false) xA.Knots) (Ab 1 0 (RW.c 0 h (I7 _ _ _) (fun v1 gv1 h=>Ab 1 0 (AQ 11 h (fun h=>?_) (fun h=>?_)))))))))))
 ·refine Ab 3 0 (bd h fun x1 gx1 h=>RW.q (Ck (CH false) gx1) (RW.q (DB (CH false) gx1 0 0) (RW.q (CG (CH false) gx1 0) (Ab 3 0 (RW.nil ?_)))));cases h;exact Wp.ret ⟨.inr rfl,BA (by kernel_rfl)⟩
 refine Ab 9 0 (RW.nil ?_);cases h;exact Wp.ret ⟨.inr rfl,BA (by kernel_rfl)⟩
def eJ (xA:Arena) (z1:Int):St:=AE [(1,(.one (.ptr (.box 1) 0 [] 0))),(8,(.one (.sl false 150 2 (Ah (AS false) xA.Knots)))),(9,(I (ln xA.Knots))),(10,(I z1))] [(.box 1,[.sl false 150 2 (Ah (AS false) xA.Knots)])]
def eI:St:=AE [] []
def eH (xA:Arena) (y1:Int) (x1:BU) (z2:Int):St:=AE [(1,(.one (.ptr (.box 1) 0 [] 0))),(3,(I y1)),(4,(.one (.ptr (.box 4) 0 [] 0))),(8,(.one (.sl false 150 2 (Ah (AS false) xA.Knots)))),(9,(I (ln xA.Knots))),(10,(I y1)),(20,(.one (.sl false 3 1 (Ah c3 x1.Kids)))),(21,(I (ln x1.Kids))),(22,(I z2))] [(.box 1,[.sl false 150 2 (Ah (AS false) xA.Knots)]),(.box 4,[.bool x1.Leaf,.sl false 3 1 (Ah c3 x1.Kids)])]
def eG (xA:Arena) (y1:Int):St:=AE [(1,(.one (.ptr (.box 1) 0 [] 0))),(8,(.one (.sl false 150 2 (Ah (AS false) xA.Knots)))),(9,(I (ln xA.Knots))),(10,(I y1))] [(.box 1,[.sl false 150 2 (Ah (AS false) xA.Knots)])]
def eE (xA:Arena) (y1:Int) (x1:BU) (y2:Int) (z3:Bool):St:=AE [(1,(.one (.ptr (.box 1) 0 [] 0))),(3,(I y1)),(4,(.one (.ptr (.box 4) 0 [] 0))),(8,(.one (.sl false 150 2 (Ah (AS false) xA.Knots)))),(9,(I (ln xA.Knots))),(10,(I y1)),(20,(.one (.sl false 3 1 (Ah c3 x1.Kids)))),(21,(I (ln x1.Kids))),(22,(I y2)),(56,(B z3))] [(.box 1,[.sl false 150 2 (Ah (AS false) xA.Knots)]),(.box 4,[.bool x1.Leaf,.sl false 3 1 (Ah c3 x1.Kids)])]
theorem j7 (xA:Arena) (r:Bool) (h:Ny xA=some r):Ba Tryz.prog 103 [.sv (.agg [.sl false 150 2 (Ah (AS false) xA.Knots)])] (B r) (List.replicate 1 .gone):=by
 unfold Ny at h;refine gk Tryz.func103 rfl Tryz.ntmps103 (ws (Ab 2 0 (RW.nil (Wp.seq (ws (Ab 2 0 (RW.q (D5 (CH false) xA.Knots) (Ab 1 0 (RW.nil (Em h [1,8,9,10] [.box 1] (fun s=>(eJ xA s)) [] [] (fun _=>eI) Ay ?_ ?_))))))))))
 ·rintro y1 o (h:Jw xA y1=some o) hk1;unfold Jw at h;refine ws (Ab 1 0 (RW.nil (Wp.seq (wc h (fun h=>?_) (fun h=>?_)))))
  ·refine Wp.skip (Wp.seq (Wp.block (ws (Ab 1 0 (bd h fun x1 gx1 h=>RW.q (Ck (CH false) gx1) (RW.q (Rx (CH false) gx1 0 2) (Ab 3 0 (RW.nil (Wp.seq (ws (Ab 2 0 (RW.q (D5 k3 x1.Kids) ?_))))))))))));refine Ab 1 0 (RW.nil (wc h (fun h=>?_) (fun h=>?_)))
   ·refine ws (Ab 1 0 (RW.nil ?_));cases h;replace h:some _=some _:=hk1 _ rfl;cases h;exact Wp.ret ⟨.inr rfl,BA (by kernel_rfl)⟩
   refine Wp.skip (ws (Ab 2 0 (RW.q (D5 k3 x1.Kids) (Ab 1 0 (RW.nil (Em h [1,3,4,8,9,10,20,21,22] [.box 1,.box 4] (fun s=>(eH xA y1 x1 s)) [1,8,9,10] [.box 1] (fun _=>(eG xA y1)) Ay ?_ ?_))))))
   ·rintro y2 o (h:Jv xA y1 x1 y2=some o) hk2;unfold Jv at h;refine ws (Ab 1 0 (RW.nil (Wp.seq (wc h (fun h=>?_) (fun h=>?_)))))
    ·refine Wp.skip (Wp.seq (Wp.block (ws (bd h fun x2 gx2 h=>RW.q (Ck k3 gx2) (RW.q (CG k3 gx2 0) (Ab 1 0 (RW.nil (Wp.seq (Bq h [1,3,4,8,9,10,20,21,22,56] [.box 1,.box 4] (fun a=>(eE xA y1 x1 y2 a)) ?_ ?_)))))))))
     ·intro a h;refine Av (Ab 3 0 (AQ 28 h (fun h=>?_) (fun h=>?_)))
      ·refine Ab 4 0 (AQ 32 h (fun h=>?_) (fun h=>?_))
       ·refine Ab 24 0 (RW.nil ?_);cases h;exact⟨_,rfl,Ay⟩
       refine Ab 4 0 (AQ 36 h (fun h=>?_) (fun h=>?_))
       ·refine Ab 4 0 (AQ 40 h (fun h=>?_) (fun h=>?_))
        ·refine Ab 3 0 (RW.c 0 h (I7 _ _ _) (fun v1 gv1 h=>Ab 2 0 (AQ 46 h (fun h=>?_) (fun h=>?_))))
         ·refine Ab 10 0 (RW.nil ?_);cases h;exact⟨_,rfl,Ay⟩
         refine Ab 3 0 (bd h fun x3 gx3 h=>RW.q (Ck (CH false) gx3) (RW.q (DB (CH false) gx3 0 0) (RW.q (CG (CH false) gx3 0) (Ab 4 0 (RW.nil ?_)))));cases h;exact⟨_,rfl,Ay⟩
        refine Ab 16 0 (RW.nil ?_);cases h;exact⟨_,rfl,Ay⟩
       refine Ab 20 0 (RW.nil ?_);cases h;exact⟨_,rfl,Ay⟩
      refine Ab 8 0 (AQ 36 h (fun h=>?_) (fun h=>?_))
      ·refine Ab 4 0 (AQ 40 h (fun h=>?_) (fun h=>?_))
       ·refine Ab 3 0 (RW.c 0 h (I7 _ _ _) (fun v2 gv2 h=>Ab 2 0 (AQ 46 h (fun h=>?_) (fun h=>?_))))
        ·refine Ab 10 0 (RW.nil ?_);cases h;exact⟨_,rfl,Ay⟩
        refine Ab 3 0 (bd h fun x4 gx4 h=>RW.q (Ck (CH false) gx4) (RW.q (DB (CH false) gx4 0 0) (RW.q (CG (CH false) gx4 0) (Ab 4 0 (RW.nil ?_)))));cases h;exact⟨_,rfl,Ay⟩
       refine Ab 16 0 (RW.nil ?_);cases h;exact⟨_,rfl,Ay⟩
      refine Ab 20 0 (RW.nil ?_);cases h;exact⟨_,rfl,Ay⟩
     intro j1 h E hE;refine A9 hE (wc h (fun h=>?_) (fun h=>?_))
     ·refine ws (Ab 1 0 (RW.nil ?_));cases h;replace h:some _=some _:=hk2 _ rfl;cases h;replace h:some _=some _:=hk1 _ rfl;cases h;exact Wp.ret ⟨.inr rfl,BA (by kernel_rfl)⟩
     refine Wp.skip (Av (Ab 2 0 (RW.nil ?_)));cases h;exact⟨_,rfl,Ay⟩
    refine Wp.exit ?_;cases h;exact⟨_,rfl,Ay⟩
   intro v3 h E hE;refine A9 hE (Av (Ab 2 0 (RW.nil ?_)));cases h;exact⟨_,rfl,Ay⟩
  refine Wp.exit ?_;cases h;exact⟨_,rfl,Ay⟩
 intro v4 h E hE;refine A9 hE (ws (Ab 1 0 (RW.nil ?_)));cases h;exact Wp.ret ⟨.inr rfl,BA (by kernel_rfl)⟩
theorem dG (xA:Arena) (b:Int) (a:Int) (r:Int) (h:Ok xA b a=some r):Ba Tryz.prog 104 [.sv (.agg [.sl false 150 2 (Ah (AS false) xA.Knots)]),.sv (I b),.sv (I a)] (I r) (List.replicate 3 .gone):=by
 unfold Ok at h;refine gk Tryz.func104 rfl Tryz.ntmps104 (ws (Ab 2 0 (RW.nil (ws (Ab 3 0 (bd h fun x1 gx1 h=>RW.q (Ck (CH false) gx1) (RW.q (DB (CH false) gx1 0 1) (RW.q (CG (CH false) gx1 1) (Ab 2 0 (bd h fun x2 gx2 h=>RW.q (Ck k3 gx2) (RW.q (CG k3 gx2 0) ?_)))))))))));refine Ab 1 0 (RW.nil (Wp.seq (ws (Ab 2 0 (RW.nil (wc h (fun h=>?_) (fun h=>?_)))))))
 ·refine ws (Ab 1 0 (RW.nil ?_));cases h;exact Wp.ret ⟨.inr rfl,BA (by kernel_rfl)⟩
 refine Wp.skip (ws (Ab 3 0 (bd h fun x3 gx3 h=>RW.q (Ck (CH false) gx3) (RW.q (DB (CH false) gx3 0 1) (RW.q (CG (CH false) gx3 1) (Ab 2 0 (bd h fun x4 gx4 h=>RW.q (Ck k3 gx4) (RW.q (CG k3 gx4 0) (Ab 1 0 (RW.nil ?_))))))))));cases h;exact Wp.ret ⟨.inr rfl,BA (by kernel_rfl)⟩
def oO (xA:Arena) (b:Int) (a:Int) (z1:Bool):St:=AE [(1,(I b)),(2,(I a)),(3,(.one (.ptr (.box 3) 0 [] 0))),(20,(B z1))] [(.box 3,[.sl false 150 2 (Ah (AS false) xA.Knots)])]
theorem tI (xA:Arena) (d:Int) (b:Int) (r:Int) (h:PL xA d b=some r):Ba Tryz.prog 61 [.sv (.agg [.sl false 150 2 (Ah (AS false) xA.Knots)]),.sv (I d),.sv (I b)] (I r) (List.replicate 3 .gone):=by
 unfold PL at h;refine gk Tryz.func61 rfl Tryz.ntmps61 (ws (Ab 2 0 (RW.nil (Wp.seq (Wp.seq (Bq h [1,2,3,20] [.box 3] (fun a=>(oO xA d b a)) ?_ ?_))))))
 ·intro a h;refine Av (Ab 1 0 (RW.c 0 h (I7 _ _ _) (fun v1 gv1 h=>Ab 2 0 (AQ 10 h (fun h=>?_) (fun h=>?_)))))
  ·refine Ab 10 0 (RW.nil ?_);cases h;exact⟨_,rfl,Ay⟩
  refine Ab 2 0 (RW.c 0 h (oJ _ _) (fun v2 gv2 h=>Ab 3 0 (AQ 16 h (fun h=>?_) (fun h=>?_))))
  ·refine Ab 4 0 (RW.nil ?_);cases h;exact⟨_,rfl,Ay⟩
  refine Ab 1 0 (RW.c 0 h (j7 _) (fun v3 gv3 h=>Ab 2 0 (RW.nil ?_)));cases h;exact⟨_,rfl,Ay⟩
 intro j1 h E hE;refine A9 hE (wc h (fun h=>?_) (fun h=>?_))
 ·refine ws (Ab 1 0 (RW.nil ?_));cases h;exact Wp.ret ⟨.inr rfl,BA (by kernel_rfl)⟩
 refine Wp.skip (ws (Ab 3 0 (RW.c 0 h (dG _ _ _) (fun v4 gv4 h=>Ab 1 0 (RW.nil ?_)))));cases h;exact Wp.ret ⟨.inr rfl,BA (by kernel_rfl)⟩
theorem jZ (xS:Store) (b:Int) (a:Int) (r:Int) (h:Nx xS b a=some r):Ba Tryz.prog 31 [.sv (.agg [.sl false 39 2 (Ah CC xS.Vols),.sl false 150 2 (Ah (AS false) xS.Arena.Knots),.int .i64 xS.Next]),.sv (I b),.sv (I a)] (I r) (List.replicate 3 .gone):=by
 unfold Nx at h;refine gk Tryz.func31 rfl Tryz.ntmps31 (ws (Ab 2 0 (RW.nil (ws (Ab 2 0 (RW.c 0 h (Zj _ _) (fun v1 gv1 h=>Ab 1 0 (RW.nil (Wp.seq (ws (Ab 2 0 (RW.nil (wc h (fun h=>?_) (fun h=>?_))))))))))))))
 ·refine ws (Ab 1 0 (RW.nil ?_));cases h;exact Wp.ret ⟨.inr rfl,BA (by kernel_rfl)⟩
 refine Wp.skip (Wp.seq (P1 9 Ct (Dh 5 (bd h fun x1 gx1 h=>SW.q (Ck DP gx1) (SW.q (DB DP gx1 0 1) (SW.q (CG DP gx1 1) (Dh 1 (SW.nil (RW.c 0 h (tI _ _ _) (fun v2 gv2 h=>Ab 1 0 (RW.nil ?_)))))))))));cases h;exact Wp.ret ⟨.inr rfl,BA (by kernel_rfl)⟩
def dS (a:ByteArray) (z1:Int) (z2:Int):St:=AE [(0,(.one (.int .u32 z1))),(1,(Y a)),(5,(I z2))] []
def dR (z3:Int):St:=AE [(0,(.one (.int .u32 z3)))] []
def dQ (a:ByteArray) (b:Int) (z4:Int) (z5:Int):St:=AE [(0,(.one (.int .u32 z4))),(1,(Y a)),(5,(I b)),(19,(I z5))] []
def dP (a:ByteArray) (b:Int) (z6:Int):St:=AE [(0,(.one (.int .u32 z6))),(1,(Y a)),(5,(I b))] []
theorem jT (b:Int) (a:ByteArray) (r:Int) (h:Nw b a=some r):Ba Tryz.prog 180 [.sv (.one (.int .u32 b)),.sv (Y a)] (.one (.int .u32 r)) (List.replicate 2 .gone):=by
 unfold Nw at h;refine gk Tryz.func180 rfl Tryz.ntmps180 (ws (Ab 1 0 (RW.nil (Wp.seq (ws (Ab 1 0 (RW.nil (BP h [0,1,5] [] (fun s=>(dS a s.1 s.2)) [0] [] (fun s=>(dR s)) Ay ?_ ?_))))))))
 ·rintro⟨c,d⟩ o (h:HY a c d=some o);unfold HY at h;refine Wp.seq (ws (Ab 4 0 (RW.nil (wc h (fun h=>?_) (fun h=>?_)))))
  ·refine Wp.skip (Wp.seq (Wp.block (ws (Ab 3 0 (bd h fun x1 gx1 h=>RW.q (fO gx1) (Ab 3 0 (RW.nil (ws (Ab 1 0 (RW.nil (BP h [0,1,5,19] [] (fun s=>(dQ a d s.1 s.2)) [0,1,5] [] (fun s=>(dP a d s)) Ay ?_ ?_)))))))))))
   ·rintro⟨e,y1⟩ o (h:GJ e y1=some o);unfold GJ at h;refine ws (Ab 1 0 (RW.nil (Wp.seq (wc h (fun h=>?_) (fun h=>?_)))))
    ·refine Wp.skip (Wp.seq (Wp.block (ws (Ab 3 0 (RW.nil (ws (Ab 3 0 (RW.nil (ws (Ab 2 0 (RW.nil (wc h (fun h=>?_) (fun h=>?_)))))))))))))
     ·refine Av (Ab 3 0 (RW.nil (Av (Ab 2 0 (RW.nil ?_)))));cases h;exact⟨_,rfl,Ay⟩
     refine Wp.skip (Av (Ab 2 0 (RW.nil ?_)));cases h;exact⟨_,rfl,Ay⟩
    refine Wp.exit ?_;cases h;exact⟨_,rfl,Ay⟩
   intro v1 h E hE;refine A9 hE (Av (Ab 3 0 (RW.nil ?_)));cases h;exact⟨_,rfl,Ay⟩
  refine Wp.exit ?_;cases h;exact⟨_,rfl,Ay⟩
 intro v2 h E hE;refine A9 hE (ws (Ab 2 0 (RW.nil ?_)));cases h;exact Wp.ret ⟨.inr rfl,BA (by kernel_rfl)⟩
theorem tH (a:ByteArray) (r:Int) (h:RA a=some r):Ba Tryz.prog 159 [.sv (Y a)] (.one (.int .u32 r)) (List.replicate 1 .gone):=by
 unfold RA at h;refine gk Tryz.func159 rfl Tryz.ntmps159 (ws (Ab 1 0 (RW.nil (ws (Ab 1 0 (RW.c 0 h (jT _ _) (fun v1 gv1 h=>Ab 1 0 (RW.nil ?_))))))));cases h;exact Wp.ret ⟨.inr rfl,BA (by kernel_rfl)⟩
theorem oM (a:ByteArray) (r:ByteArray×Bool) (h:Pr a=some r):Ba Tryz.prog 133 [.sv (Y a)] (.tup [(Y r.1),(B r.2)]) (List.replicate 1 .gone):=by
 unfold Pr at h;refine gk Tryz.func133 rfl Tryz.ntmps133 (ws (Ab 2 0 (RW.nil (Wp.seq (ws (Ab 3 0 (RW.nil (wc h (fun h=>?_) (fun h=>?_)))))))))
 ·refine ws (Ab 2 0 (RW.nil ?_));cases h;exact Wp.ret ⟨.inr rfl,BA (by kernel_rfl)⟩
 refine Wp.skip (ws (Ab 1 0 (RW.c 0 h (tH _) (fun v1 gv1 h=>Ab 1 0 (RW.nil (ws (Ab 13 0 (RW.q (zO (f:=c5) (fun _=>rfl) [(IntKind.u8.wrap (Int.fdiv v1 (2^(min (24:Int).toNat IntKind.u32.bits)))),(IntKind.u8.wrap (Int.fdiv v1 (2^(min (16:Int).toNat IntKind.u32.bits)))),(IntKind.u8.wrap (Int.fdiv v1 (2^(min (8:Int).toNat IntKind.u32.bits)))),(IntKind.u8.wrap v1)]) (bd h fun x1 gx1 h=>RW.q (OD gx1) (Ab 2 0 (RW.nil ?_)))))))))));cases h;exact Wp.ret ⟨.inr rfl,BA (by kernel_rfl)⟩
def Yf (x1:ByteArray) (z1:Bool):St:=AE [(4,(Y x1)),(26,(B z1))] []
theorem dN (b:ByteArray) (r:ByteArray×Bool) (h:Mq b=some r):Ba Tryz.prog 107 [.sv (Y b)] (.tup [(Y r.1),(B r.2)]) (List.replicate 1 .gone):=by
 unfold Mq at h;refine gk Tryz.func107 rfl Tryz.ntmps107 (ws (Ab 2 0 (RW.nil (Wp.seq (ws (Ab 3 0 (RW.nil (wc h (fun h=>?_) (fun h=>?_)))))))))
 ·refine ws (Ab 2 0 (RW.nil ?_));cases h;exact Wp.ret ⟨.inr rfl,BA (by kernel_rfl)⟩
 refine Wp.skip (ws (Ab 4 0 (bd h fun x1 gx1 h=>RW.q (Ph gx1) (Ab 1 0 (RW.nil (ws (Ab 1 0 (RW.c 0 h (oM _) (fun v1 gv1 h=>Ab 5 1 (RW.nil (Wp.seq (Wp.seq ?_))))))))))));refine Bq h [4,26] [] (fun a=>(Yf x1 a)) ?_ ?_
 ·intro a h;refine Av (Ab 3 0 (AQ 22 h (fun h=>?_) (fun h=>?_)))
  ·refine Ab 4 0 (RW.nil ?_);cases h;exact⟨_,rfl,Ay⟩
  refine Ab 4 0 (RW.nil ?_);cases h;exact⟨_,rfl,Ay⟩
 intro j1 h E hE;refine A9 hE (wc h (fun h=>?_) (fun h=>?_))
 ·refine ws (Ab 2 0 (RW.nil ?_));cases h;exact Wp.ret ⟨.inr rfl,BA (by kernel_rfl)⟩
 refine Wp.skip (ws (Ab 3 0 (RW.nil ?_)));cases h;exact Wp.ret ⟨.inr rfl,BA (by kernel_rfl)⟩
def dW (a:ByteArray) (b:Int) (z1:Int) (z2:Int):St:=AE [(0,(Y a)),(1,(I b)),(7,(I z1)),(8,(I z2))] []
def dV:St:=AE [] []
def dU (a:ByteArray) (b:Int) (c:Int) (d:Int) (z3:Bool):St:=AE [(0,(Y a)),(1,(I b)),(7,(I c)),(8,(I d)),(23,(B z3))] []
def dT (a:Int) (b:Int) (c:Int) (x2:Int) (z4:Bool):St:=AE [(1,(I a)),(7,(I (ad b x2))),(8,(I c)),(50,(B z4))] []
theorem jW (b:ByteArray) (c:Int) (r:Int×Int×Bool) (h:JZ b c=some r):Ba Tryz.prog 108 [.sv (Y b),.sv (I c)] (.tup [(I r.1),(I r.2.1),(B r.2.2)]) (List.replicate 2 .gone):=by
 unfold JZ at h;refine gk Tryz.func108 rfl Tryz.ntmps108 (ws (Ab 3 0 (RW.nil (ws (Ab 1 0 (RW.nil (Wp.seq (ws (Ab 1 0 (RW.nil (Em h [0,1,7,8] [] (fun s=>(dW b c s.1 s.2)) [] [] (fun _=>dV) Ay ?_ ?_)))))))))))
 ·rintro⟨d,e⟩ o (h:FD b c d e=some o) hk1;unfold FD at h;refine Wp.seq (Wp.seq (Bq h [0,1,7,8,23] [] (fun a=>(dU b c d e a)) ?_ ?_))
  ·intro a h;refine Av (Ab 3 0 (AQ 12 h (fun h=>?_) (fun h=>?_)))
   ·refine Ab 4 0 (AQ 16 h (fun h=>?_) (fun h=>?_))
    ·refine Ab 7 0 (RW.nil ?_);cases h;exact⟨_,rfl,Ay⟩
    refine Ab 7 0 (RW.nil ?_);cases h;exact⟨_,rfl,Ay⟩
   refine Ab 11 0 (RW.nil ?_);cases h;exact⟨_,rfl,Ay⟩
  intro j1 h E hE;refine A9 hE (wc h (fun h=>?_) (fun h=>?_))
  ·refine Wp.skip (Wp.seq (Wp.block (ws (Ab 4 0 (bd h fun x1 gx1 h=>RW.q (fO gx1) (Ab 2 0 (RW.nil (ws (Ab 5 0 (bd h fun x2 gx2 h=>RW.q (ACA gx2) (Ab 2 0 ?_)))))))))));refine RW.nil (Wp.seq (ws (Ab 2 0 (RW.nil (wc h (fun h=>?_) (fun h=>?_))))))
   ·refine Wp.exit (Av (Ab 3 0 (RW.nil ?_)));cases h;exact⟨_,rfl,Ay⟩
   refine Wp.skip (Wp.seq (Wp.seq (Bq h [1,7,8,50] [] (fun a=>(dT c d e x2 a)) ?_ ?_)))
   ·intro a h;refine Av (Ab 3 0 (AQ 43 h (fun h=>?_) (fun h=>?_)))
    ·refine Ab 4 0 (AQ 47 h (fun h=>?_) (fun h=>?_))
     ·refine Ab 3 0 (RW.nil ?_);cases h;exact⟨_,rfl,Ay⟩
     refine Ab 3 0 (RW.nil ?_);cases h;exact⟨_,rfl,Ay⟩
    refine Ab 7 0 (RW.nil ?_);cases h;exact⟨_,rfl,Ay⟩
   intro j2 h E hE;refine A9 hE (wc h (fun h=>?_) (fun h=>?_))
   ·refine ws (Ab 3 0 (RW.nil ?_));cases h;replace h:some _=some _:=hk1 _ rfl;cases h;exact Wp.ret ⟨.inr rfl,BA (by kernel_rfl)⟩
   refine Wp.skip (ws (Ab 8 0 (RW.nil ?_)));cases h;replace h:some _=some _:=hk1 _ rfl;cases h;exact Wp.ret ⟨.inr rfl,BA (by kernel_rfl)⟩
  refine Wp.exit ?_;cases h;exact⟨_,rfl,Ay⟩
 intro v1 h E hE;refine A9 hE (ws (Ab 3 0 (RW.nil ?_)));cases h;exact Wp.ret ⟨.inr rfl,BA (by kernel_rfl)⟩
def jY (xP:Page) (z1:Bool):St:=AE [(1,(.one (.ptr (.box 1) 0 [] 0))),(33,(B z1))] [(.box 1,[.int .i64 xP.Kind,.int .i64 xP.Seq,.int .i64 xP.Tx,.int .i64 xP.Part,.int .i64 xP.Count,.str xP.Text])]
theorem oN (xP:Page) (r:Bool) (h:Ps xP=some r):Ba Tryz.prog 109 [.sv (.agg [.int .i64 xP.Kind,.int .i64 xP.Seq,.int .i64 xP.Tx,.int .i64 xP.Part,.int .i64 xP.Count,.str xP.Text])] (B r) (List.replicate 1 .gone):=by
 unfold Ps at h;refine gk Tryz.func109 rfl Tryz.ntmps109 (ws (Ab 2 0 (RW.nil (Wp.seq (Wp.seq (Bq h [1,33] [.box 1] (fun a=>(jY xP a)) ?_ ?_))))))
 ·intro a h;refine Av (Ab 2 0 (RW.c 0 h (I7 _ _ _) (fun v1 gv1 h=>Ab 2 0 (AQ 7 h (fun h=>?_) (fun h=>?_)))))
  ·refine Ab 26 0 (RW.nil ?_);cases h;exact⟨_,rfl,Ay⟩
  refine Ab 2 0 (RW.c 0 h (I7 _ _ _) (fun v2 gv2 h=>Ab 3 0 (AQ 13 h (fun h=>?_) (fun h=>?_))))
  ·refine Ab 20 0 (RW.nil ?_);cases h;exact⟨_,rfl,Ay⟩
  refine Ab 2 0 (RW.c 0 h (I7 _ _ _) (fun v3 gv3 h=>Ab 3 0 (AQ 19 h (fun h=>?_) (fun h=>?_))))
  ·refine Ab 14 0 (RW.nil ?_);cases h;exact⟨_,rfl,Ay⟩
  refine Ab 5 0 (RW.c 0 h (I7 _ _ _) (fun v4 gv4 h=>Ab 3 0 (AQ 28 h (fun h=>?_) (fun h=>?_))))
  ·refine Ab 5 0 (RW.nil ?_);cases h;exact⟨_,rfl,Ay⟩
  refine Ab 5 0 (RW.nil ?_);cases h;exact⟨_,rfl,Ay⟩
 intro j1 h E hE;refine A9 hE (wc h (fun h=>?_) (fun h=>?_))
 ·refine ws (Ab 1 0 (RW.nil ?_));cases h;exact Wp.ret ⟨.inr rfl,BA (by kernel_rfl)⟩
 refine Wp.skip (ws (Ab 4 0 (AQ 37 h (fun h=>?_) (fun h=>?_))))
 ·refine Ab 10 0 (RW.nil ?_);cases h;exact Wp.ret ⟨.inr rfl,BA (by kernel_rfl)⟩
 refine Ab 4 0 (AQ 41 h (fun h=>?_) (fun h=>?_))
 ·refine Ab 6 0 (RW.nil ?_);cases h;exact Wp.ret ⟨.inr rfl,BA (by kernel_rfl)⟩
 refine Ab 6 0 (RW.nil ?_);cases h;exact Wp.ret ⟨.inr rfl,BA (by kernel_rfl)⟩
def Yo (v1:ByteArray×Bool) (z1:Bool):St:=AE [(2,(.one (.ptr (.box 2) 0 [] 0))),(4,(Y v1.1)),(23,(B z1))] [(.box 2,[.int .i64 0,.int .i64 0,.int .i64 0,.int .i64 0,.int .i64 0,.str (bs [])])]
def Yn (v1:ByteArray×Bool) (z2:Int) (z3:Int) (z4:Int) (z5:Int) (z6:Int) (z7:Int):St:=AE [(2,(.one (.ptr (.box 2) 0 [] 0))),(4,(Y v1.1)),(6,(.one (.ptr (.box 6) 0 [] 0))),(7,(I z2)),(25,(I z3))] [(.box 2,[.int .i64 0,.int .i64 0,.int .i64 0,.int .i64 0,.int .i64 0,.str (bs [])]),(.box 6,[.int .i64 z4,.int .i64 z5,.int .i64 z6,.int .i64 z7])]
def Ym (v1:ByteArray×Bool) (z8:Int) (z9:Int) (z10:Int) (z11:Int) (z12:Int):St:=AE [(2,(.one (.ptr (.box 2) 0 [] 0))),(4,(Y v1.1)),(6,(.one (.ptr (.box 6) 0 [] 0))),(7,(I z8))] [(.box 2,[.int .i64 0,.int .i64 0,.int .i64 0,.int .i64 0,.int .i64 0,.str (bs [])]),(.box 6,[.int .i64 z9,.int .i64 z10,.int .i64 z11,.int .i64 z12])]
theorem dX (xT:ByteArray) (r:Page×Bool) (h:Ms xT=some r):Ba Tryz.prog 67 [.sv (Y xT)] (.tup [(.agg [.int .i64 r.1.Kind,.int .i64 r.1.Seq,.int .i64 r.1.Tx,.int .i64 r.1.Part,.int .i64 r.1.Count,.str r.1.Text]),(B r.2)]) (List.replicate 1 .gone):=by
 unfold Ms at h;refine gk Tryz.func67 rfl Tryz.ntmps67 (ws (Ab 2 0 (RW.nil (ws (Ab 1 0 (RW.c 0 h (dN _) (fun v1 gv1 h=>Ab 5 1 (RW.nil (Wp.seq (Wp.seq (Bq h [2,4,23] [.box 2] (fun a=>(Yo v1 a)) ?_ ?_)))))))))))
 ·intro a h;refine Av (Ab 3 0 (AQ 20 h (fun h=>?_) (fun h=>?_)))
  ·refine Ab 3 0 (RW.nil ?_);cases h;exact⟨_,rfl,Ay⟩
  refine Ab 3 0 (RW.nil ?_);cases h;exact⟨_,rfl,Ay⟩
 intro j1 h E hE;refine A9 hE (wc h (fun h=>?_) (fun h=>?_))
 ·refine ws (Ab 3 0 (RW.nil ?_));cases h;exact Wp.ret ⟨.inr rfl,BA (by kernel_rfl)⟩
 refine Wp.skip (ws (Ab 1 0 (RW.nil (ws (Ab 1 0 (RW.nil (Wp.seq (ws (Ab 1 0 (RW.nil (Em h [2,4,6,7,25] [.box 2,.box 6] (fun s=>(Yn v1 s.1 s.2.1 s.2.2.1 s.2.2.2.1 s.2.2.2.2.1 s.2.2.2.2.2)) [2,4,6,7] [.box 2,.box 6] (fun s=>(Ym v1 s.1 s.2.1 s.2.2.1 s.2.2.2.1 s.2.2.2.2)) Ay ?_ ?_)))))))))))
 ·rintro⟨b,y1,d,e,f,g⟩ o (h:DH v1 b y1 d e f g=some o) hk1;unfold DH at h;refine ws (Ab 1 0 (RW.nil (Wp.seq (wc h (fun h=>?_) (fun h=>?_)))))
  ·refine Wp.skip (Wp.seq (Wp.block (ws (Ab 2 0 (RW.nil (ws (Ab 2 0 (RW.c 0 h (jW _ _) (fun v2 gv2 h=>Ab 7 1 (RW.nil (Wp.seq (ws (Ab 2 0 ?_)))))))))))));refine RW.nil (wc h (fun h=>?_) (fun h=>?_))
   ·refine ws (Ab 3 0 (RW.nil ?_));cases h;replace h:some _=some _:=hk1 _ rfl;cases h;exact Wp.ret ⟨.inr rfl,BA (by kernel_rfl)⟩
   refine Wp.skip (Av (Ab 3 0 (eS h (fun hb h=>?_) (fun h=>?_))))
   ·refine RW.q (pxa 0 (eq_of_beq hb)) (Ab 2 0 (RW.nil (Av (Ab 2 0 (RW.nil ?_)))));cases h;exact⟨_,rfl,Ay⟩
   refine eS h (fun hb h=>?_) (fun h=>?_)
   ·refine RW.q (pxa 1 (eq_of_beq hb)) (Ab 2 0 (RW.nil (Av (Ab 2 0 (RW.nil ?_)))));cases h;exact⟨_,rfl,Ay⟩
   refine eS h (fun hb h=>?_) (fun h=>?_)
   ·refine RW.q (pxa 2 (eq_of_beq hb)) (Ab 2 0 (RW.nil (Av (Ab 2 0 (RW.nil ?_)))));cases h;exact⟨_,rfl,Ay⟩
   refine eS h (fun hb h=>?_) (fun h=>?_)
   ·refine RW.q (pxa 3 (eq_of_beq hb)) (Ab 2 0 (RW.nil (Av (Ab 2 0 (RW.nil ?_)))));cases h;exact⟨_,rfl,Ay⟩
   cases h
  refine Wp.exit ?_;cases h;exact⟨_,rfl,Ay⟩
 intro v3 h E hE;refine A9 hE (Wp.seq (Er [16] Ct (fun c E h=>by rcases h with⟨h|h,_⟩<;>cases h) (AC [0] 0 (bd h fun x1 gx1 h=>KW.q 1 (fO gx1) (AC [2,3,4,5,6,7,8,9,10,11,12] 0 (bd h fun x2 gx2 h=>KW.q 13 (Ph gx2) (AC [14,15,16] 0 (Ak (Wp.seq (ws (Ab 1 0 ?_)))))))))));refine RW.c 0 h (oN _) (fun v4 gv4 h=>Ab 1 0 (RW.nil (wc h (fun h=>?_) (fun h=>?_))))
 ·refine ws (Ab 3 0 (RW.nil ?_));cases h;exact Wp.ret ⟨.inr rfl,BA (by kernel_rfl)⟩
 refine Wp.skip (ws (Ab 3 0 (RW.nil ?_)));cases h;exact Wp.ret ⟨.inr rfl,BA (by kernel_rfl)⟩
theorem ACM:∀x,(GQ x).all TV.flat=true:=fun _=>rfl
theorem Yk (n b g cap:Nat) (T:TypeId) (hb:b≠g):My Tryz.prog (MW n b g cap 54 T 8 GQ) (NE BG) 69 #[.pointer (some ⟨b,0,none⟩)]:=by
 refine s7 Tryz.func69 rfl rfl ?_;rintro l i j x y hx hy ⟨w,hI⟩;have hn:l.length=n:=hI.len;have hi:=AAY hx;have hj:=AAY hy;refine wV Tryz.func69 rfl rfl ?_;rw [Tryz.ntmps69];refine Wp.seq (Wp.region (A7.o 5 (B false) (A7.nil (Wp.seq (WB Ct (by decide+kernel) (e9 6 (.hdr ⟨g,0,none⟩ n cap) (.slice (some ⟨g,0,none⟩) n cap) (Jy.o 7 (I i) (yO (n:=n) 8 (m:=i) (fA (f:=2) 9 (fA (f:=1) 10 ?_ rfl Tryz.underlying52 rfl (by decide)) rfl Tryz.underlying54 rfl (by decide)) rfl Tryz.underlying45 rfl hi.1 (by omega) (by decide))) rfl vL (fun w=>by simp [C9]) rfl rfl rfl))))));refine e9 (x:=10) 11 (.int .i64 (BG x)) (.int .i64 (BG x)) ?_ rfl (vK (k:=3) (t:= .int .i64 (BG x)) EG hx rfl hb (by rw [AA2];rfl)) (fun w=>by simp [C9]) rfl rfl rfl;refine e9 12 (.hdr ⟨g,0,none⟩ n cap) (.slice (some ⟨g,0,none⟩) n cap) (Jy.o 13 (I j) (yO (n:=n) 14 (m:=j) (fA (f:=2) 15 (fA (f:=1) 16 ?_ rfl Tryz.underlying52 rfl (by decide)) rfl Tryz.underlying54 rfl (by decide)) rfl Tryz.underlying45 rfl hj.1 (by omega) (by decide))) rfl vL (fun w=>by simp [C9]) rfl rfl rfl;refine e9 (x:=16) 17 (.int .i64 (BG y)) (.int .i64 (BG y)) ?_ rfl (vK (k:=3) (t:= .int .i64 (BG y)) EG hy rfl hb (by rw [AA2];rfl)) (fun w=>by simp [C9]) rfl rfl rfl;refine Jy.o 18 (B (decide ((BG x)<(BG y)))) (Jy.o 5 (B (decide ((BG x)<(BG y)))) (Jy.nil ?_));exact Wp.ret ⟨.inr rfl,rfl,_,rfl⟩
theorem Yl {l r:List Ar} (h:Dd (NE BG) l (ln l)=some r):e8 Tryz.prog 68 45 54 8 GQ 69 l r:=by
 refine PZ EG h Tryz.t45 Tryz.t54 rfl rfl (by kernel_rfl) rfl 25 (fun w=>rfl) rfl Tryz.isAgg54 (enters_of Tryz.func69 rfl rfl) ?_ (fun n b g cap T hb=>Yk n b g cap T hb);intro n
 match n with
 |0=>exact⟨134,by kernel_rfl,fun h=>absurd h (by decide)⟩
 |1=>exact⟨135,by kernel_rfl,fun h=>absurd h (by decide)⟩
 |n+2=>
 have hk:Go.Lib.swapperK (n+2) Tryz.t54 25=9:=rfl;rw [hk];exact⟨142,by kernel_rfl,fun _=>⟨by decide,false,fun args W=>run_callFunc_extern Tryz.func142 (by kernel_rfl) (by kernel_rfl) (by kernel_rfl) (e:=Extern.ReflectliteSwapper.swap false) (by kernel_rfl) args W⟩⟩
def RF (xF:Flash) (z1:Int) (z2:List Ar):St:=AE [(3,(.one (.ptr (.box 3) 0 [] 0))),(11,(.one (.sl false 77 3 (Ah (Co false) xF.Blocks)))),(12,(I (ln xF.Blocks))),(13,(I z1))] [(.box 3,[.sl true 54 8 (Ah GQ z2)])]
def RE (z3:List Ar):St:=AE [(3,(.one (.ptr (.box 3) 0 [] 0)))] [(.box 3,[.sl true 54 8 (Ah GQ z3)])]
def RD (xF:Flash) (y1:Int) (x1:Block) (z4:Int) (z5:List Ar):St:=AE [(3,(.one (.ptr (.box 3) 0 [] 0))),(4,(I y1)),(11,(.one (.sl false 77 3 (Ah (Co false) xF.Blocks)))),(12,(I (ln xF.Blocks))),(13,(I y1)),(19,(.one (.sl false 90 2 (Ah fQ x1.Leaves)))),(20,(I (ln x1.Leaves))),(21,(I z4))] [(.box 3,[.sl true 54 8 (Ah GQ z5)])]
def RC (xF:Flash) (y1:Int) (z6:List Ar):St:=AE [(3,(.one (.ptr (.box 3) 0 [] 0))),(11,(.one (.sl false 77 3 (Ah (Co false) xF.Blocks)))),(12,(I (ln xF.Blocks))),(13,(I y1))] [(.box 3,[.sl true 54 8 (Ah GQ z6)])]
def RB (xF:Flash) (y1:Int) (x1:Block) (y2:Int) (a:List Ar) (v1:Page×Bool) (z7:Bool):St:=AE [(3,(.one (.ptr (.box 3) 0 [] 0))),(4,(I y1)),(6,(I y2)),(8,(.one (.ptr (.box 8) 0 [] 0))),(11,(.one (.sl false 77 3 (Ah (Co false) xF.Blocks)))),(12,(I (ln xF.Blocks))),(13,(I y1)),(19,(.one (.sl false 90 2 (Ah fQ x1.Leaves)))),(20,(I (ln x1.Leaves))),(21,(I y2)),(37,(B z7))] [(.box 3,[.sl true 54 8 (Ah GQ a)]),(.box 8,[.int .i64 v1.1.Kind,.int .i64 v1.1.Seq,.int .i64 v1.1.Tx,.int .i64 v1.1.Part,.int .i64 v1.1.Count,.str v1.1.Text])]
theorem jU (xF:Flash) (r:List Ar) (h:Ia xF=some r):Ba Tryz.prog 39 [.sv (.agg [.sl false 77 3 (Ah (Co false) xF.Blocks)])] (.one (.sl true 54 8 (Ah GQ r))) (List.replicate 1 .gone):=by
 unfold Ia at h;refine j9 Tryz.func39 rfl ?_;rw [Tryz.ntmps39];refine Wp.seq (Wp.region (Mz [] 1 [.sl false 77 3 (Ah (Co false) xF.Blocks)] (A7.o 2 (.one (.sl true 54 8 (Ah GQ []))) (A7.nil (Wp.seq (Wp.region (Mz [] 3 [.sl true 54 8 (Ah GQ [])] (A7.nil (Wp.seq (Wp.seq (Wp.region (A7.o 10 (.one (.ptr (.box 1) 1 [] 0)) (A7.o 11 (.one (.sl false 77 3 (Ah (Co false) xF.Blocks))) ?_)))))))))))));refine A7.o 12 (I (ln xF.Blocks)) (A7.o 13 (I 0) (A7.nil (BP h [3,11,12,13] [.box 3] (fun s=>(RF xF s.1 s.2)) [3] [.box 3] (fun s=>(RE s)) ⟨rfl,rfl⟩ ?_ ?_))) (M8 (zP (Fp false) xF.Blocks))
 ·rintro⟨y1,d⟩ o (h:GK xF y1 d=some o);unfold GK at h;change Wp _ _ _ (RF xF y1 d) _;refine Wp.seq (Wp.region (A7.o 14 (B (decide (y1<(ln xF.Blocks)))) (A7.nil (Wp.seq (Wp.c h (fun h=>?_) (fun h=>?_))))))
  ·refine Wp.skip (Wp.seq (Wp.block (Wp.seq (Wp.region (A7.o 15 (I y1) (AA4 h 16 (fun _=>(.one (.ptr (.slot 11) 0 [0] (Int.toNat y1*3+0)))) ?_ (fun x1 gx1=>M8 (zQ (Fp false) (.slot 11) [] 0 gx1))))))));intro x1 gx1 h;refine A7.o 17 (.agg [.bool x1.Bad,.int .i64 x1.Wear,.sl false 90 2 (Ah fQ x1.Leaves)]) (Mz [] 5 [.bool false,.int .i64 0,.sl true 90 2 (Ah fQ [])] (A7.o 4 (I y1) (pL [] (.box 5) [.bool x1.Bad,.int .i64 x1.Wear,.sl false 90 2 (Ah fQ x1.Leaves)] (A7.nil (Wp.seq (Wp.region (A7.o 18 (.one (.ptr (.box 5) 1 [] 2)) (A7.o 19 (.one (.sl false 90 2 (Ah fQ x1.Leaves))) (A7.o 20 (I (ln x1.Leaves)) (A7.o 21 (I 0) (A7.nil (BP h [3,4,11,12,13,19,20,21] [.box 3] (fun s=>(RD xF y1 x1 s.1 s.2)) [3,11,12,13] [.box 3] (fun s=>(RC xF y1 s)) ⟨rfl,rfl⟩ ?_ ?_))) (M8 (zP M1 x1.Leaves))))))))))) (M8 (AB5 (Fp false) (.slot 11) [0] gx1))
   ·rintro⟨y2,b⟩ o (h:HZ y1 x1 y2 b=some o);unfold HZ at h;change Wp _ _ _ (RD xF y1 x1 y2 b) _;refine Wp.seq (Wp.region (A7.o 22 (B (decide (y2<(ln x1.Leaves)))) (A7.nil (Wp.seq (Wp.c h (fun h=>?_) (fun h=>?_))))))
    ·refine Wp.skip (Wp.seq (Wp.block (Wp.seq (Wp.region (A7.o 23 (I y2) (AA4 h 24 (fun _=>(.one (.ptr (.slot 19) 0 [0] (Int.toNat y2*2+0)))) ?_ (fun x2 gx2=>M8 (zQ M1 (.slot 19) [] 0 gx2))))))));intro x2 gx2 h;refine A7.o 25 (.agg [.int .i64 x2.Is,.str x2.Text]) (Mz [] 7 [.int .i64 0,.str (bs [])] (A7.o 6 (I y2) (A7.s [] (.box 7) [.int .i64 x2.Is,.str x2.Text] (A7.nil (Wp.seq (Wp.region (A7.o 27 (.one (.ptr (.box 7) 1 [] 1)) (A7.o 28 (Y x2.Text) (fG h 29 (fun v1=>(.tup [(.agg [.int .i64 v1.1.Kind,.int .i64 v1.1.Seq,.int .i64 v1.1.Tx,.int .i64 v1.1.Part,.int .i64 v1.1.Count,.str v1.1.Text]),(B v1.2)])) rfl (l:=[.sv (.one (.str x2.Text))]) rfl (fun v hv=>dX x2.Text v hv) (.inl rfl) ?_))))))))) (M8 (AB5 M1 (.slot 19) [0] gx2));intro v1 gv1 h;refine fF 29 26 (.tup [(.agg [.int .i64 v1.1.Kind,.int .i64 v1.1.Seq,.int .i64 v1.1.Tx,.int .i64 v1.1.Part,.int .i64 v1.1.Count,.str v1.1.Text]),(B v1.2)]) (RV 26 0 30 (.agg [.int .i64 v1.1.Kind,.int .i64 v1.1.Seq,.int .i64 v1.1.Tx,.int .i64 v1.1.Part,.int .i64 v1.1.Count,.str v1.1.Text]) (RV 26 1 31 (B v1.2) (Mz [] 8 [.int .i64 0,.int .i64 0,.int .i64 0,.int .i64 0,.int .i64 0,.str (bs [])] (A7.s [] (.box 8) [.int .i64 v1.1.Kind,.int .i64 v1.1.Seq,.int .i64 v1.1.Tx,.int .i64 v1.1.Part,.int .i64 v1.1.Count,.str v1.1.Text] (A7.o 9 (B v1.2) (A7.nil (Wp.seq (Bq h [3,4,6,8,11,12,13,19,20,21,37] [.box 3,.box 8] (fun a=>(RB xF y1 x1 y2 b v1 a)) ?_ ?_))))))))
     ·intro a h;refine Wp.region (A7.o 32 (B v1.2) (A7.o 33 (B v1.2) (QN h 33 (fun h=>?_) (fun h=>?_))))
      ·refine A7.o 34 (.one (.ptr (.box 7) 1 [] 0)) (A7.o 35 (I x2.Is) (A7.o 36 (B (x2.Is==1)) (A7.o 37 (B (x2.Is==1)) (A7.nil ?_))));cases h;exact⟨_,rfl,rfl,rfl⟩
      refine Gr 34 (Gr 35 (Gr 36 (A7.o 37 (B false) (A7.nil ?_))));cases h;exact⟨_,rfl,rfl,rfl⟩
     intro j1 h E hE;refine A9 hE ?_;change Wp _ _ _ (RB xF y1 x1 y2 b v1 j1) _;refine Wp.c h (fun h=>?_) (fun h=>?_)
     ·refine Wp.region (A7.o 38 (.one (.view (.box 3) 0 [] 0)) (A7.o 39 (I y1) (A7.o 40 (I y2) (A7.o 41 (.agg [.int .i64 v1.1.Kind,.int .i64 v1.1.Seq,.int .i64 v1.1.Tx,.int .i64 v1.1.Part,.int .i64 v1.1.Count,.str v1.1.Text]) (A7.o 42 (.agg [.int .i64 y1,.int .i64 y2,.int .i64 v1.1.Kind,.int .i64 v1.1.Seq,.int .i64 v1.1.Tx,.int .i64 v1.1.Part,.int .i64 v1.1.Count,.str v1.1.Text]) (yQ false [] 43 (.one (.sl true 54 8 (Ah GQ [(Ar.mk y1 y2 v1.1)]))) (ABF h [(.box 3,[.junk])] 44 (fun q1=>(.one (.sl true 54 8 (Ah GQ q1)))) ?_ (fun q1 gq1=>O7 EG (fun _=>rfl) [(.box 3,[.junk])] b gq1))))))));intro q1 gq1 h;refine A7.s [(.slot 44,[.junk])] (.box 3) [.sl true 54 8 (Ah GQ q1)] (A7.nil (Wp.region (A7.o 45 (I (ad y2 1)) (A7.o 21 (I (ad y2 1)) (A7.nil ?_)))));cases h;exact⟨_,rfl,rfl,rfl⟩
     refine Wp.skip (Wp.region (A7.o 45 (I (ad y2 1)) (A7.o 21 (I (ad y2 1)) (A7.nil ?_))));cases h;exact⟨_,rfl,rfl,rfl⟩
    refine Wp.exit ?_;cases h;exact⟨_,rfl,rfl,rfl⟩
   intro v2 h E hE;refine A9 hE ?_;change Wp _ _ _ (RC xF y1 v2) _;refine Wp.region (A7.o 46 (I (ad y1 1)) (A7.o 13 (I (ad y1 1)) (A7.nil ?_)));cases h;exact⟨_,rfl,rfl,rfl⟩
  refine Wp.exit ?_;cases h;exact⟨_,rfl,rfl,rfl⟩
 intro v3 h E hE;refine A9 hE ?_;change Wp _ _ _ (RE v3) _;refine Wp.seq (Wp.region (A7.o 47 (.one (.view (.box 3) 0 [] 0)) (ABH h ?_)));intro v4 gv4 h;refine A7.srt (x:=47) (p:=3) (d1:=48) (d2:=49) (d3:=50) (r:= .box 3) (Yl gv4) (A7.nil (Wp.seq (Wp.region (A7.o 51 (.one (.view (.box 3) 1 [] 0)) (yQ true [(.box 3,[.junk])] 2 (.one (.sl true 54 8 (Ah GQ v4))) (A7.nil ?_)))))) EG ACM (hf:=⟨_,Tryz.func68,by decide,rfl⟩);cases h;exact Wp.ret ⟨.inr rfl,_,_,rfl,rfl⟩
def jS (a:Int) (v1:List Ar) (z1:Bool) (z2:Int) (z3:Int) (z4:Int) (z5:Int) (z6:Int) (z7:Int) (z8:Int) (z9:Int) (z10:ByteArray):St:=AE [(1,(I a)),(4,(.one (.ptr (.box 4) 0 [] 0))),(6,(.one (.ptr (.box 6) 0 [] 0))),(7,(B z1)),(11,(.one (.sl true 54 8 (Ah GQ v1)))),(12,(I (ln v1))),(13,(I z2))] [(.box 4,[.int .i64 0,.int .i64 0,.int .i64 0,.int .i64 0,.int .i64 0,.int .i64 0,.int .i64 0,.str (bs [])]),(.box 6,[.int .i64 z3,.int .i64 z4,.int .i64 z5,.int .i64 z6,.int .i64 z7,.int .i64 z8,.int .i64 z9,.str z10])]
def jR (z11:Bool) (z12:Int) (z13:Int) (z14:Int) (z15:Int) (z16:Int) (z17:Int) (z18:Int) (z19:ByteArray):St:=AE [(4,(.one (.ptr (.box 4) 0 [] 0))),(6,(.one (.ptr (.box 6) 0 [] 0))),(7,(B z11))] [(.box 4,[.int .i64 0,.int .i64 0,.int .i64 0,.int .i64 0,.int .i64 0,.int .i64 0,.int .i64 0,.str (bs [])]),(.box 6,[.int .i64 z12,.int .i64 z13,.int .i64 z14,.int .i64 z15,.int .i64 z16,.int .i64 z17,.int .i64 z18,.str z19])]
def jP (i:Int) (v1:List Ar) (j:Bool) (y1:Int) (a:Int) (b:Int) (c:Int) (d:Int) (e:Int) (f:Int) (g:Int) (h:ByteArray) (x1:Ar) (z20:Bool):St:=AE [(1,(I i)),(4,(.one (.ptr (.box 4) 0 [] 0))),(6,(.one (.ptr (.box 6) 0 [] 0))),(7,(B j)),(9,(.one (.ptr (.box 9) 0 [] 0))),(11,(.one (.sl true 54 8 (Ah GQ v1)))),(12,(I (ln v1))),(13,(I y1)),(40,(B z20))] [(.box 4,[.int .i64 0,.int .i64 0,.int .i64 0,.int .i64 0,.int .i64 0,.int .i64 0,.int .i64 0,.str (bs [])]),(.box 6,[.int .i64 a,.int .i64 b,.int .i64 c,.int .i64 d,.int .i64 e,.int .i64 f,.int .i64 g,.str h]),(.box 9,[.int .i64 x1.Block,.int .i64 x1.Leaf,.int .i64 x1.Page.Kind,.int .i64 x1.Page.Seq,.int .i64 x1.Page.Tx,.int .i64 x1.Page.Part,.int .i64 x1.Page.Count,.str x1.Page.Text])]
theorem oL (xF:Flash) (b:Int) (r:Ar×Bool) (h:Pq xF b=some r):Ba Tryz.prog 44 [.sv (.agg [.sl false 77 3 (Ah (Co false) xF.Blocks)]),.sv (I b)] (.tup [(.agg [.int .i64 r.1.Block,.int .i64 r.1.Leaf,.int .i64 r.1.Page.Kind,.int .i64 r.1.Page.Seq,.int .i64 r.1.Page.Tx,.int .i64 r.1.Page.Part,.int .i64 r.1.Page.Count,.str r.1.Page.Text]),(B r.2)]) (List.replicate 2 .gone):=by
 unfold Pq at h;refine gk Tryz.func44 rfl Tryz.ntmps44 (ws (Ab 3 0 (RW.nil (ws (Ab 1 0 (RW.nil (ws (Ab 1 0 (RW.nil (Wp.seq (ws (Ab 1 0 (RW.c 0 h (jU _) (fun v1 gv1 h=>?_))))))))))))));refine RW.q (D5 EG v1) (Ab 1 0 (RW.nil (BP h [1,4,6,7,11,12,13] [.box 4,.box 6] (fun s=>(jS b v1 s.1 s.2.1 s.2.2.1 s.2.2.2.1 s.2.2.2.2.1 s.2.2.2.2.2.1 s.2.2.2.2.2.2.1 s.2.2.2.2.2.2.2.1 s.2.2.2.2.2.2.2.2.1 s.2.2.2.2.2.2.2.2.2)) [4,6,7] [.box 4,.box 6] (fun s=>(jR s.1 s.2.1 s.2.2.1 s.2.2.2.1 s.2.2.2.2.1 s.2.2.2.2.2.1 s.2.2.2.2.2.2.1 s.2.2.2.2.2.2.2.1 s.2.2.2.2.2.2.2.2)) Ay ?_ ?_)))
 ·rintro⟨m,y1,d,e,f,g,i,j,k,l⟩ o (h:H8 b v1 m y1 d e f g i j k l=some o);unfold H8 at h;refine ws (Ab 1 0 (RW.nil (Wp.seq (wc h (fun h=>?_) (fun h=>?_)))))
  ·refine Wp.skip (Wp.seq (Wp.block (ws (bd h fun x1 gx1 h=>RW.q (Ck EG gx1) (RW.q (Rx EG gx1 0 8) (Ab 2 0 (RW.nil (Wp.seq (Bq h [1,4,6,7,9,11,12,13,40] [.box 4,.box 6,.box 9] (fun a=>(jP b v1 m y1 d e f g i j k l x1 a)) ?_ ?_)))))))))
   ·intro a h;refine Av (Ab 5 0 (AQ 21 h (fun h=>?_) (fun h=>?_)))
    ·refine Ab 7 0 (AQ 28 h (fun h=>?_) (fun h=>?_))
     ·refine Ab 3 0 (AQ 31 h (fun h=>?_) (fun h=>?_))
      ·refine Ab 9 0 (RW.nil ?_);cases h;exact⟨_,rfl,Ay⟩
      refine Ab 9 0 (RW.nil ?_);cases h;exact⟨_,rfl,Ay⟩
     refine Ab 12 0 (RW.nil ?_);cases h;exact⟨_,rfl,Ay⟩
    refine Ab 19 0 (RW.nil ?_);cases h;exact⟨_,rfl,Ay⟩
   intro j1 h E hE;refine A9 hE (wc h (fun h=>?_) (fun h=>?_))
   ·refine Av (Ab 3 0 (RW.nil (Av (Ab 2 0 (RW.nil ?_)))));cases h;exact⟨_,rfl,Ay⟩
   refine Wp.skip (Av (Ab 2 0 (RW.nil ?_)));cases h;exact⟨_,rfl,Ay⟩
  refine Wp.exit ?_;cases h;exact⟨_,rfl,Ay⟩
 intro v2 h E hE;refine A9 hE (ws (Ab 4 0 (RW.nil ?_)));cases h;exact Wp.ret ⟨.inr rfl,BA (by kernel_rfl)⟩
def Ye (z1:ByteArray) (z2:List AO):St:=AE [(0,(Y z1)),(4,(.one (.sl true 131 3 (Ah Gt z2))))] []
def Yd (z3:List AO):St:=AE [(4,(.one (.sl true 131 3 (Ah Gt z3))))] []
def Yc (b:ByteArray) (a:List AO) (x1:Int) (z4:Bool):St:=AE [(0,(Y b)),(4,(.one (.sl true 131 3 (Ah Gt a)))),(5,(I (IntKind.i64.wrap x1))),(11,(B z4))] []
def Yb (b:ByteArray) (a:List AO) (x1:Int) (z5:Bool):St:=AE [(0,(Y b)),(4,(.one (.sl true 131 3 (Ah Gt a)))),(5,(I (IntKind.i64.wrap x1))),(30,(B z5))] []
theorem dF (xT:ByteArray) (r:List AO×Bool) (h:Mp xT=some r):Ba Tryz.prog 70 [.sv (Y xT)] (.tup [(.one (.sl true 131 3 (Ah Gt r.1))),(B r.2)]) (List.replicate 1 .gone):=by
 unfold Mp at h;refine gk Tryz.func70 rfl Tryz.ntmps70 (ws (Ab 2 0 (RW.nil (ws (Ab 1 0 (RW.nil (Wp.seq (Em h [0,4] [] (fun s=>(Ye s.1 s.2)) [4] [] (fun s=>(Yd s)) Ay ?_ ?_))))))))
 ·rintro⟨c,b⟩ o (h:CZ c b=some o) hk1;unfold CZ at h;refine Wp.seq (ws (Ab 2 0 (RW.nil (wc h (fun h=>?_) (fun h=>?_)))))
  ·refine Wp.skip (Wp.block (ws (Ab 1 0 (bd h fun x1 gx1 h=>RW.q (fO gx1) (Ab 2 0 (RW.nil (Wp.block (Wp.seq (Bq h [0,4,5,11] [] (fun a=>(Yc c b x1 a)) ?_ ?_)))))))))
   ·intro a h;refine Av (Ab 3 0 (AQ 14 h (fun h=>?_) (fun h=>?_)))
    ·refine Ab 5 0 (RW.nil ?_);cases h;exact⟨_,rfl,Ay⟩
    refine Ab 5 0 (RW.nil ?_);cases h;exact⟨_,rfl,Ay⟩
   intro j1 h E hE;refine A9 hE (wc h (fun h=>?_) (fun h=>?_))
   ·refine ws (Ab 2 0 (bd h fun x2 gx2 h=>RW.q (fO gx2) (Ab 5 0 (bd h fun q1 gq1 h=>CW (DY Fq (fun _=>rfl) b gq1) (Ab 1 1 (RW.nil (Av (Ab 1 0 (bd h fun x3 gx3 h=>RW.q (Ph gx3) (Ab 1 0 ?_))))))))));refine RW.nil ?_;cases h;exact⟨_,rfl,Ay⟩
   refine Wp.seq (Bq h [0,4,5,30] [] (fun a=>(Yb c b x1 a)) ?_ ?_)
   ·intro a h;refine Av (Ab 3 0 (AQ 33 h (fun h=>?_) (fun h=>?_)))
    ·refine Ab 6 0 (RW.nil ?_);cases h;exact⟨_,rfl,Ay⟩
    refine Ab 6 0 (RW.nil ?_);cases h;exact⟨_,rfl,Ay⟩
   intro j2 h E hE;refine A9 hE (wc h (fun h=>?_) (fun h=>?_))
   ·refine ws (Ab 4 0 (bd h fun x4 gx4 h=>RW.q (Ph gx4) (Ab 2 0 (bd h fun q2 gq2 h=>CW (DY Fq (fun _=>rfl) b gq2) (Ab 1 1 (RW.nil (Av (Ab 3 0 (bd h fun x5 gx5 h=>RW.q (Ph gx5) (Ab 1 0 ?_))))))))));refine RW.nil ?_;cases h;exact⟨_,rfl,Ay⟩
   refine ws (Ab 2 0 (RW.nil ?_));cases h;replace h:some _=some _:=hk1 _ rfl;cases h;exact Wp.ret ⟨.inr rfl,BA (by kernel_rfl)⟩
  refine Wp.exit ?_;cases h;exact⟨_,rfl,Ay⟩
 intro v1 h E hE;refine A9 hE (ws (Ab 3 2 (RW.nil ?_)));cases h;exact Wp.ret ⟨.inr rfl,BA (by kernel_rfl)⟩
def eB (a:List AO) (z1:List Int) (z2:Int):St:=AE [(4,(.one (.sl true 5 1 (Ah c5 z1)))),(7,(.one (.sl false 131 3 (Ah Gt a)))),(8,(I (ln a))),(9,(I z2))] []
def eA (z3:List Int):St:=AE [(4,(.one (.sl true 5 1 (Ah c5 z3))))] []
def d9 (a:List AO) (y1:Int) (z4:List Int):St:=AE [(4,(.one (.sl true 5 1 (Ah c5 z4)))),(7,(.one (.sl false 131 3 (Ah Gt a)))),(8,(I (ln a))),(9,(I y1))] []
def d8 (a:List AO) (b:List Int) (y1:Int) (x1:AO) (z5:Bool):St:=AE [(4,(.one (.sl true 5 1 (Ah c5 b)))),(6,(.one (.ptr (.box 6) 0 [] 0))),(7,(.one (.sl false 131 3 (Ah Gt a)))),(8,(I (ln a))),(9,(I y1)),(25,(B z5))] [(.box 6,[.int .i64 x1.Back,.int .i64 x1.Size,.str x1.Text])]
def d7 (a:List AO) (b:List Int) (y1:Int) (x1:AO) (z6:Bool):St:=AE [(4,(.one (.sl true 5 1 (Ah c5 b)))),(6,(.one (.ptr (.box 6) 0 [] 0))),(7,(.one (.sl false 131 3 (Ah Gt a)))),(8,(I (ln a))),(9,(I y1)),(46,(B z6))] [(.box 6,[.int .i64 x1.Back,.int .i64 x1.Size,.str x1.Text])]
def dZ (a:List AO) (y1:Int) (x1:AO) (z7:List Int) (z8:Int):St:=AE [(4,(.one (.sl true 5 1 (Ah c5 z7)))),(6,(.one (.ptr (.box 6) 0 [] 0))),(7,(.one (.sl false 131 3 (Ah Gt a)))),(8,(I (ln a))),(9,(I y1)),(48,(I x1.Size)),(49,(I z8))] [(.box 6,[.int .i64 x1.Back,.int .i64 x1.Size,.str x1.Text])]
def dY (a:List AO) (y1:Int) (z9:List Int):St:=AE [(4,(.one (.sl true 5 1 (Ah c5 z9)))),(7,(.one (.sl false 131 3 (Ah Gt a)))),(8,(I (ln a))),(9,(I y1))] []
theorem jX (b:List AO) (r:ByteArray×Bool) (h:LG b=some r):Ba Tryz.prog 71 [.sv (.one (.sl false 131 3 (Ah Gt b)))] (.tup [(Y r.1),(B r.2)]) (List.replicate 1 .gone):=by
 unfold LG at h;refine gk Tryz.func71 rfl Tryz.ntmps71 (ws (Ab 2 0 (RW.nil (ws (Ab 1 0 (RW.nil (Wp.seq (ws (Ab 1 0 (RW.q (D5 Fq b) (Ab 1 0 (RW.nil (Em h [4,7,8,9] [] (fun s=>(eB b s.1 s.2)) [4] [] (fun s=>(eA s)) Ay ?_ ?_)))))))))))))
 ·rintro⟨d,y1⟩ o (h:Ju b d y1=some o) hk1;unfold Ju at h;refine ws (Ab 1 0 (RW.nil (Wp.seq (wc h (fun h=>?_) (fun h=>?_)))))
  ·refine Wp.skip (Wp.seq (Wp.block (ws (bd h fun x1 gx1 h=>RW.q (Ck Fq gx1) (RW.q (Rx Fq gx1 0 3) (Ab 2 0 (RW.nil (Wp.seq (ws (Ab 3 0 (RW.nil (kR h [4,7,8,9] [] (fun a=>(d9 b y1 a)) ?_ ?_))))))))))))
   ·intro a h g;refine wc h (fun h=>?_) (fun h=>?_)
    ·refine Wp.seq (Wp.seq (Bq h [4,6,7,8,9,25] [.box 6] (fun a=>(d8 b d y1 x1 a)) ?_ ?_))
     ·intro a h;refine Av (Ab 4 0 (AQ 19 h (fun h=>?_) (fun h=>?_)))
      ·refine Ab 6 0 (RW.nil ?_);cases h;exact⟨_,rfl,Ay⟩
      refine Ab 3 0 (RW.c 0 h (I7 _ _ _) (fun v1 gv1 h=>Ab 2 0 (RW.nil ?_)));cases h;exact⟨_,rfl,Ay⟩
     intro j2 h E hE;refine A9 hE (wc h (fun h=>?_) (fun h=>?_))
     ·refine ws (Ab 2 0 (RW.nil ?_));cases h;replace h:some _=some _:=g;cases h;replace h:some _=some _:=hk1 _ rfl;cases h;exact Wp.ret ⟨.inr rfl,BA (by kernel_rfl)⟩
     refine Wp.skip (Av (Ab 3 0 (bd h fun q1 gq1 h=>CW (oY (f:=c5) (fun _=>rfl) d gq1) (Ab 1 1 (RW.nil ?_)))));cases h;exact⟨_,rfl,Ay⟩
    refine Wp.seq (Wp.seq (Bq h [4,6,7,8,9,46] [.box 6] (fun a=>(d7 b d y1 x1 a)) ?_ ?_))
    ·intro a h;refine Av (Ab 3 0 (RW.q (D5 k5 d) (RW.c 0 h (I7 _ _ _) (fun v2 gv2 h=>Ab 2 0 (AQ 36 h (fun h=>?_) (fun h=>?_))))))
     ·refine Ab 10 0 (RW.nil ?_);cases h;exact⟨_,rfl,Ay⟩
     refine Ab 2 0 (RW.c 0 h (I7 _ _ _) (fun v3 gv3 h=>Ab 3 0 (AQ 42 h (fun h=>?_) (fun h=>?_))))
     ·refine Ab 4 0 (RW.nil ?_);cases h;exact⟨_,rfl,Ay⟩
     refine Ab 4 0 (RW.nil ?_);cases h;exact⟨_,rfl,Ay⟩
    intro j3 h E hE;refine A9 hE (wc h (fun h=>?_) (fun h=>?_))
    ·refine ws (Ab 2 0 (RW.nil ?_));cases h;replace h:some _=some _:=g;cases h;replace h:some _=some _:=hk1 _ rfl;cases h;exact Wp.ret ⟨.inr rfl,BA (by kernel_rfl)⟩
    refine Wp.skip (ws (Ab 3 0 (RW.nil (BP h [4,6,7,8,9,48,49] [.box 6] (fun s=>(dZ b y1 x1 s.1 s.2)) [4,7,8,9] [] (fun s=>(dY b y1 s)) Ay ?_ ?_))))
    ·rintro⟨e,y2⟩ o (h:L3 x1 e y2=some o);unfold L3 at h;refine ws (Ab 1 0 (RW.nil (Wp.seq (wc h (fun h=>?_) (fun h=>?_)))))
     ·refine Wp.skip (Wp.seq (Wp.block (Av (Ab 3 0 (RW.q (D5 k5 e) (Ab 3 0 (bd h fun x2 gx2 h=>RW.q (Ck k5 gx2) (RW.q (CG k5 gx2 0) (Ab 1 0 (bd h fun q2 gq2 h=>CW (DY k5 (fun _=>rfl) e gq2) (Ab 1 1 ?_)))))))))));refine RW.nil (Av (Ab 2 0 (RW.nil ?_)));cases h;exact⟨_,rfl,Ay⟩
     refine Wp.exit ?_;cases h;exact⟨_,rfl,Ay⟩
    intro v4 h E hE;cases h;exact⟨_,rfl,hE⟩
   intro j1 h E hE;refine A9 hE (ws (Ab 1 0 (RW.q (D5 k5 j1) (Ab 1 0 (RW.nil (wc h (fun h=>?_) (fun h=>?_)))))))
   ·refine ws (Ab 2 0 (RW.nil ?_));cases h;replace h:some _=some _:=hk1 _ rfl;cases h;exact Wp.ret ⟨.inr rfl,BA (by kernel_rfl)⟩
   refine Wp.skip (Av (Ab 2 0 (RW.nil ?_)));cases h;exact⟨_,rfl,Ay⟩
  refine Wp.exit ?_;cases h;exact⟨_,rfl,Ay⟩
 intro v5 h E hE;refine A9 hE (ws (Ab 1 0 (RW.q (zO (f:=c5) (fun _=>rfl) v5) (Ab 2 0 (RW.nil ?_)))));cases h;exact Wp.ret ⟨.inr rfl,BA (by kernel_rfl)⟩
def dM (xS:ByteArray) (a:Int) (z1:Int) (z2:Int) (z3:Int):St:=AE [(0,(Y xS)),(1,(I a)),(6,(I z1)),(7,(I z2)),(8,(I z3))] []
def dL (z4:Int) (z5:Int):St:=AE [(6,(I z4)),(7,(I z5))] []
def dK (xS:ByteArray) (d:Int) (a:Int) (b:Int) (c:Int) (z6:Int):St:=AE [(0,(Y xS)),(1,(I d)),(6,(I a)),(7,(I b)),(8,(I c)),(9,(I z6))] []
def dJ (xS:ByteArray) (d:Int) (a:Int) (b:Int) (c:Int) (z7:Int):St:=AE [(0,(Y xS)),(1,(I d)),(6,(I a)),(7,(I b)),(8,(I c)),(9,(I z7))] []
def dI (xS:ByteArray) (d:Int) (a:Int) (b:Int) (c:Int) (e:Int) (z8:Bool):St:=AE [(0,(Y xS)),(1,(I d)),(6,(I a)),(7,(I b)),(8,(I c)),(9,(I e)),(38,(B z8))] []
def dH (xS:ByteArray) (d:Int) (a:Int) (b:Int) (c:Int) (v1:Int) (z9:Bool):St:=AE [(0,(Y xS)),(1,(I d)),(6,(I a)),(7,(I b)),(8,(I c)),(9,(I v1)),(47,(B z9))] []
theorem jO (xS:ByteArray) (e:Int) (r:Int×Int) (h:Nu xS e=some r):Ba Tryz.prog 118 [.sv (Y xS),.sv (I e)] (.tup [(I r.1),(I r.2)]) (List.replicate 2 .gone):=by
 unfold Nu at h;refine gk Tryz.func118 rfl Tryz.ntmps118 (ws (Ab 2 0 (RW.nil (ws (Ab 2 0 (RW.nil (Wp.seq (ws (Ab 3 0 (RW.nil (BP h [0,1,6,7,8] [] (fun s=>(dM xS e s.1 s.2.1 s.2.2)) [6,7] [] (fun s=>(dL s.1 s.2)) Ay ?_ ?_)))))))))))
 ·rintro⟨c,d,b⟩ o (h:FC xS e c d b=some o);unfold FC at h;refine Wp.seq (ws (Ab 2 0 (RW.nil (wc h (fun h=>?_) (fun h=>?_)))))
  ·refine Wp.skip (Wp.seq (Wp.block (ws (Ab 1 0 (RW.nil (Wp.seq (BP h [0,1,6,7,8,9] [] (fun s=>(dK xS e c d b s)) [0,1,6,7,8,9] [] (fun s=>(dJ xS e c d b s)) Ay ?_ ?_)))))))
   ·rintro f o (h:Eg xS e b f=some o);unfold Eg at h;refine Wp.seq (Wp.seq (Bq h [0,1,6,7,8,9,38] [] (fun a=>(dI xS e c d b f a)) ?_ ?_))
    ·intro a h;refine Ln Ct (Dh 3 (WD 18 h (fun h=>?_) (fun h=>?_)))
     ·refine Dh 8 (WD 26 h (fun h=>?_) (fun h=>?_))
      ·refine Dh 4 (bd h fun x1 gx1 h=>SW.q (fO gx1) (Dh 4 (bd h fun x2 gx2 h=>SW.q (fO gx2) (Dh 2 (SW.nil ?_)))));cases h;exact⟨_,rfl,Ay⟩
      refine Dh 12 (SW.nil ?_);cases h;exact⟨_,rfl,Ay⟩
     refine Dh 20 (SW.nil ?_);cases h;exact⟨_,rfl,Ay⟩
    intro j1 h E hE;refine A9 hE (wc h (fun h=>?_) (fun h=>?_))
    ·refine Wp.skip (Wp.block (Av (Ab 3 0 (RW.nil ?_))));cases h;exact⟨_,rfl,Ay⟩
    refine Wp.exit ?_;cases h;exact⟨_,rfl,Ay⟩
   intro v1 h E hE;refine A9 hE (Wp.seq (Bq h [0,1,6,7,8,9,47] [] (fun a=>(dH xS e c d b v1 a)) ?_ ?_))
   ·intro a h;refine Av (Ab 3 0 (AQ 43 h (fun h=>?_) (fun h=>?_)))
    ·refine Ab 4 0 (RW.nil ?_);cases h;exact⟨_,rfl,Ay⟩
    refine Ab 4 0 (RW.nil ?_);cases h;exact⟨_,rfl,Ay⟩
   intro j2 h E hE;refine A9 hE (wc h (fun h=>?_) (fun h=>?_))
   ·refine Av (Ab 6 0 (RW.nil (Av (Ab 3 0 (RW.nil ?_)))));cases h;exact⟨_,rfl,Ay⟩
   refine Wp.skip (Av (Ab 3 0 (RW.nil ?_)));cases h;exact⟨_,rfl,Ay⟩
  refine Wp.exit ?_;cases h;exact⟨_,rfl,Ay⟩
 intro v2 h E hE;refine A9 hE (ws (Ab 4 0 (RW.nil ?_)));cases h;exact Wp.ret ⟨.inr rfl,BA (by kernel_rfl)⟩
def Yj (xS:ByteArray) (z1:List AO) (z2:Int):St:=AE [(0,(Y xS)),(3,(.one (.sl true 131 3 (Ah Gt z1)))),(4,(I z2))] []
def Yi (z3:List AO):St:=AE [(3,(.one (.sl true 131 3 (Ah Gt z3))))] []
def Yh (xS:ByteArray) (a:List AO) (b:Int) (z4:Bool):St:=AE [(0,(Y xS)),(3,(.one (.sl true 131 3 (Ah Gt a)))),(4,(I b)),(7,(I (sb (ln a) 1))),(53,(B z4))] []
def Yg (xS:ByteArray) (a:Int) (z5:List AO) (z6:Int):St:=AE [(0,(Y xS)),(3,(.one (.sl true 131 3 (Ah Gt z5)))),(4,(I a)),(7,(I z6))] []
theorem dO (xS:ByteArray) (r:List AO) (h:Mr xS=some r):Ba Tryz.prog 84 [.sv (Y xS)] (.one (.sl true 131 3 (Ah Gt r))) (List.replicate 1 .gone):=by
 unfold Mr at h;refine gk Tryz.func84 rfl Tryz.ntmps84 (ws (Ab 1 0 (RW.nil (Wp.seq (ws (Ab 3 0 (RW.nil (wc h (fun h=>?_) (fun h=>?_)))))))))
 ·refine ws (Ab 1 0 (RW.nil ?_));cases h;exact Wp.ret ⟨.inr rfl,BA (by kernel_rfl)⟩
 refine Wp.skip (ws (Ab 1 0 (RW.nil (Wp.seq (ws (Ab 1 0 (RW.nil (BP h [0,3,4] [] (fun s=>(Yj xS s.1 s.2)) [3] [] (fun s=>(Yi s)) Ay ?_ ?_))))))))
 ·rintro⟨b,d⟩ o (h:Iq xS b d=some o);unfold Iq at h;refine Wp.seq (ws (Ab 4 0 (RW.nil (wc h (fun h=>?_) (fun h=>?_)))))
  ·refine Wp.skip (Wp.block (ws (Ab 2 0 (RW.c 0 h (jO _ _) (fun v1 gv1 h=>Ab 5 1 (RW.nil (Wp.seq (ws (Ab 2 0 (RW.nil (wc h (fun h=>?_) (fun h=>?_))))))))))))
   ·refine ws (Ab 5 0 (bd h fun q1 gq1 h=>CW (DY Fq (fun _=>rfl) b gq1) (Ab 1 1 (RW.nil (ws (Ab 4 0 (RW.nil (Wp.exit ?_))))))));cases h;exact⟨_,rfl,Ay⟩
   refine Wp.skip (ws (Ab 1 0 (RW.q (D5 Fq b) (Ab 2 0 (RW.nil (Wp.seq (Wp.seq (Bq h [0,3,4,7,53] [] (fun a=>(Yh xS b d a)) ?_ ?_))))))))
   ·intro a h;refine Av (Ab 3 0 (AQ 37 h (fun h=>?_) (fun h=>?_)))
    ·refine Ab 16 0 (RW.nil ?_);cases h;exact⟨_,rfl,Ay⟩
    refine Ab 2 0 (bd h fun x1 gx1 h=>RW.q (Ck Fq gx1) (RW.q (DB Fq gx1 0 0) (RW.q (CG Fq gx1 0) (Ab 3 0 (AQ 45 h (fun h=>?_) (fun h=>?_))))))
    ·refine Ab 8 0 (RW.nil ?_);cases h;exact⟨_,rfl,Ay⟩
    refine Ab 2 0 (bd h fun x2 gx2 h=>RW.q (Ck Fq gx2) (RW.q (DB Fq gx2 0 2) (RW.q (CG Fq gx2 2) (Ab 3 0 (RW.nil ?_)))));cases h;exact⟨_,rfl,Ay⟩
   intro j1 h E hE;refine A9 hE (Bq h [0,3,4,7] [] (fun a=>(Yg xS d a.1 a.2)) ?_ ?_)
   ·intro a h;refine wc h (fun h=>?_) (fun h=>?_)
    ·refine ws (Ab 3 0 (bd h fun q2 gq2 h=>CW (DY Fq (fun _=>rfl) b gq2) (Ab 1 1 (RW.nil (Av (Ab 3 0 (RW.nil ?_)))))));cases h;exact⟨_,rfl,Ay⟩
    refine Wp.skip ?_;cases h;exact⟨_,rfl,Ay⟩
   intro j2 h E hE;refine A9 hE (Wp.seq (P1 13 Ct (Dh 2 (bd h fun x3 gx3 h=>SW.q (Ck Fq gx3) (SW.q (DB Fq gx3 0 2) (SW.q (CG Fq gx3 2) (Dh 4 (bd h fun x4 gx4 h=>SW.q (Ph gx4) (bd h fun x5 gx5 h=>SW.q (OD gx5) (bd h fun x6 gx6 h=>?_))))))))));refine SW.q (Ck Fq gx6) (SW.q (DB Fq gx6 0 2) (SW.nil (CW (N1 Fq gx6 2 0 (AO.mk x6.Back x6.Size x5)) (RW.nil (Av (Ab 3 0 (RW.nil ?_)))))));cases h;exact⟨_,rfl,Ay⟩
  refine Wp.exit ?_;cases h;exact⟨_,rfl,Ay⟩
 intro v2 h E hE;refine A9 hE (ws (Ab 2 2 (RW.nil ?_)));cases h;exact Wp.ret ⟨.inr rfl,BA (by kernel_rfl)⟩
def Yr (xS:ByteArray) (v1:List AO) (z1:List Int) (z2:Int):St:=AE [(0,(Y xS)),(4,(.one (.sl true 5 1 (Ah c5 z1)))),(12,(.one (.sl true 131 3 (Ah Gt v1)))),(13,(I (ln v1))),(14,(I z2))] []
def Yq (xS:ByteArray) (z3:List Int):St:=AE [(0,(Y xS)),(4,(.one (.sl true 5 1 (Ah c5 z3))))] []
def Yp (xS:ByteArray) (v1:List AO) (y1:Int) (z4:List Int):St:=AE [(0,(Y xS)),(4,(.one (.sl true 5 1 (Ah c5 z4)))),(12,(.one (.sl true 131 3 (Ah Gt v1)))),(13,(I (ln v1))),(14,(I y1))] []
theorem eC (xS:ByteArray) (r:ByteArray×Bool) (h:Ka xS=some r):Ba Tryz.prog 53 [.sv (Y xS)] (.tup [(Y r.1),(B r.2)]) (List.replicate 1 .gone):=by
 unfold Ka at h;refine gk Tryz.func53 rfl Tryz.ntmps53 (ws (Ab 2 0 (RW.nil (Wp.seq (ws (Ab 3 0 (RW.nil (wc h (fun h=>?_) (fun h=>?_)))))))))
 ·refine ws (Ab 2 0 (RW.nil ?_));cases h;exact Wp.ret ⟨.inr rfl,BA (by kernel_rfl)⟩
 refine Wp.skip (ws (Ab 2 2 (RW.nil (Wp.seq (ws (Ab 1 0 (RW.c 0 h (dO _) (fun v1 gv1 h=>RW.q (D5 Fq v1) (Ab 1 0 (RW.nil (BP h [0,4,12,13,14] [] (fun s=>(Yr xS v1 s.1 s.2)) [0,4] [] (fun s=>(Yq xS s)) Ay ?_ ?_)))))))))))
 ·rintro⟨b,y1⟩ o (h:GY v1 b y1=some o);unfold GY at h;refine ws (Ab 1 0 (RW.nil (Wp.seq (wc h (fun h=>?_) (fun h=>?_)))))
  ·refine Wp.skip (Wp.seq (Wp.block (ws (bd h fun x1 gx1 h=>RW.q (Ck Fq gx1) (RW.q (Rx Fq gx1 0 3) (Ab 2 0 (RW.nil (ws (Ab 3 0 (RW.nil (Bq h [0,4,12,13,14] [] (fun a=>(Yp xS v1 y1 a)) ?_ ?_)))))))))))
   ·intro a h;refine wc h (fun h=>?_) (fun h=>?_)
    ·refine Av (Ab 9 0 (bd h fun q1 gq1 h=>CW (DY k5 (fun _=>rfl) b gq1) (Ab 1 1 (RW.nil ?_))));cases h;exact⟨_,rfl,Ay⟩
    refine Er [6,9] Ct (fun c E h=>by rcases h with⟨h|h,_⟩<;>cases h) (AC [0,1,2,3,4] 0 (Be 5 7 ?_ ?_))
    ·refine KB.o false (Be 6 7 ?_ ?_)
     ·refine bd h fun q2 gq2 h=>M5 (DY k5 (fun _=>rfl) b gq2) (AC [7,8] 0 (BD 9 (bd h fun q3 gq3 h=>M5 (oY (f:=c5) (fun _=>rfl) q2 gq3) (AC [10] 1 (Ak ?_)))))
      cases h;exact⟨_,rfl,Ay⟩
     refine KB.o false (Be 6 8 ?_ ?_)
     ·refine bd h fun q4 gq4 h=>M5 (DY k5 (fun _=>rfl) b gq4) (AC [8] 0 (BD 9 (bd h fun q5 gq5 h=>M5 (oY (f:=c5) (fun _=>rfl) q4 gq5) (AC [10] 1 (Ak ?_)))))
      cases h;exact⟨_,rfl,Ay⟩
     refine KB.o false (BD 6 (bd h fun q6 gq6 h=>M5 (DY k5 (fun _=>rfl) b gq6) (BD 9 (bd h fun q7 gq7 h=>M5 (oY (f:=c5) (fun _=>rfl) q6 gq7) (AC [10] 1 (Ak ?_))))));cases h;exact⟨_,rfl,Ay⟩
    refine KB.o false (Be 5 8 ?_ ?_)
    ·refine KB.o false (Be 6 8 ?_ ?_)
     ·refine bd h fun q8 gq8 h=>M5 (DY k5 (fun _=>rfl) b gq8) (AC [8] 0 (BD 9 (bd h fun q9 gq9 h=>M5 (oY (f:=c5) (fun _=>rfl) q8 gq9) (AC [10] 1 (Ak ?_)))))
      cases h;exact⟨_,rfl,Ay⟩
     refine KB.o false (BD 6 (bd h fun q10 gq10 h=>M5 (DY k5 (fun _=>rfl) b gq10) (BD 9 (bd h fun q11 gq11 h=>M5 (oY (f:=c5) (fun _=>rfl) q10 gq11) (AC [10] 1 (Ak ?_))))));cases h;exact⟨_,rfl,Ay⟩
    refine KB.o false (AC [5] 0 (BD 6 (bd h fun q12 gq12 h=>M5 (DY k5 (fun _=>rfl) b gq12) (BD 9 (bd h fun q13 gq13 h=>M5 (oY (f:=c5) (fun _=>rfl) q12 gq13) (AC [10] 1 (Ak ?_)))))));cases h;exact⟨_,rfl,Ay⟩
   intro j1 h E hE;refine A9 hE (Av (Ab 2 0 (RW.nil ?_)));cases h;exact⟨_,rfl,Ay⟩
  refine Wp.exit ?_;cases h;exact⟨_,rfl,Ay⟩
 intro v2 h E hE;refine A9 hE (Wp.seq (ws (Ab 4 0 (RW.q (D5 k5 v2) (Ab 1 0 (RW.nil (wc h (fun h=>?_) (fun h=>?_))))))))
 ·refine ws (Ab 1 0 (bd h fun x2 gx2 h=>RW.q (OD gx2) (Ab 2 0 (RW.nil ?_))));cases h;exact Wp.ret ⟨.inr rfl,BA (by kernel_rfl)⟩
 refine Wp.skip (ws (Ab 1 0 (RW.q (zO (f:=c5) (fun _=>rfl) v2) (Ab 2 0 (RW.nil ?_)))));cases h;exact Wp.ret ⟨.inr rfl,BA (by kernel_rfl)⟩
def TS (xT:ByteArray) (z1:ByteArray):St:=AE [(0,(Y xT)),(4,(Y z1))] []
def TR (j1:ByteArray) (z2:Bool):St:=AE [(4,(Y j1)),(46,(B z2))] []
theorem Wl (xT:ByteArray) (r:ByteArray×Bool) (h:Jt xT=some r):Ba Tryz.prog 45 [.sv (Y xT)] (.tup [(Y r.1),(B r.2)]) (List.replicate 1 .gone):=by
 unfold Jt at h;refine gk Tryz.func45 rfl Tryz.ntmps45 (ws (Ab 2 0 (RW.nil (Wp.seq (ws (Ab 2 0 (RW.nil (wc h (fun h=>?_) (fun h=>?_)))))))))
 ·refine ws (Ab 2 0 (RW.nil ?_));cases h;exact Wp.ret ⟨.inr rfl,BA (by kernel_rfl)⟩
 refine Wp.skip (ws (Ab 1 0 (bd h fun x1 gx1 h=>RW.q (Ph gx1) (Ab 1 0 (RW.nil (Wp.seq (ws (Ab 1 0 (bd h fun x2 gx2 h=>RW.q (fO gx2) (Ab 1 0 (RW.nil ?_)))))))))));refine kR h [0,4] [] (fun a=>(TS xT a)) ?_ ?_
 ·intro a h b;refine wc h (fun h=>?_) (fun h=>?_)
  ·refine ws (Ab 1 0 (RW.c 0 h (dF _) (fun v1 gv1 h=>Ab 5 9 (RW.nil (ws (Ab 1 0 (RW.c 0 h (gs (ca (co (cs (AAN _))) rfl) (jX _)) (fun v2 gv2 h=>Ab 5 1 (RW.nil (Wp.seq (ws (Ab 3 0 (AQ 30 h (fun h=>?_) (fun h=>?_))))))) (hc:=(.inr (fun v=>rfl))))))))))
   ·refine Ab 3 0 (RW.nil (wt (ws (Ab 2 0 (RW.nil ?_)))));cases h;replace h:some _=some _:=b;cases h;exact Wp.ret ⟨.inr rfl,BA (by kernel_rfl)⟩
   refine Ab 3 0 (RW.nil (wc h (fun h=>?_) (fun h=>?_)))
   ·refine ws (Ab 2 0 (RW.nil ?_));cases h;replace h:some _=some _:=b;cases h;exact Wp.ret ⟨.inr rfl,BA (by kernel_rfl)⟩
   refine Wp.skip (Av (Ab 2 0 (RW.nil ?_)));cases h;exact⟨_,rfl,Ay⟩
  refine Wp.skip ?_;cases h;exact⟨_,rfl,Ay⟩
 intro j1 h E hE;refine A9 hE (ws (Ab 1 0 (RW.c 0 h (eC _) (fun v3 gv3 h=>Ab 5 1 (RW.nil (Wp.seq (Wp.seq (Bq h [4,46] [] (fun a=>(TR j1 a)) ?_ ?_))))))))
 ·intro a h;refine Av (Ab 3 0 (AQ 42 h (fun h=>?_) (fun h=>?_)))
  ·refine Ab 4 0 (RW.nil ?_);cases h;exact⟨_,rfl,Ay⟩
  refine Ab 4 0 (RW.nil ?_);cases h;exact⟨_,rfl,Ay⟩
 intro j2 h E hE;refine A9 hE (wc h (fun h=>?_) (fun h=>?_))
 ·refine ws (Ab 2 0 (RW.nil ?_));cases h;exact Wp.ret ⟨.inr rfl,BA (by kernel_rfl)⟩
 refine Wp.skip (ws (Ab 3 0 (RW.nil ?_)));cases h;exact Wp.ret ⟨.inr rfl,BA (by kernel_rfl)⟩
theorem Ys (xF:Flash) (a:Int) (r:ByteArray×Bool) (h:KM xF a=some r):Ba Tryz.prog 18 [.sv (.agg [.sl false 77 3 (Ah (Co false) xF.Blocks)]),.sv (I a)] (.tup [(Y r.1),(B r.2)]) (List.replicate 2 .gone):=by
 unfold KM at h;refine gk Tryz.func18 rfl Tryz.ntmps18 (ws (Ab 3 0 (RW.nil (ws (Ab 2 0 (RW.c 0 h (oL _ _) (fun v1 gv1 h=>Ab 6 1 (RW.nil (Wp.seq (ws (Ab 2 0 (RW.nil (wc h (fun h=>?_) (fun h=>?_))))))))))))))
 ·refine ws (Ab 2 0 (RW.nil ?_));cases h;exact Wp.ret ⟨.inr rfl,BA (by kernel_rfl)⟩
 refine Wp.skip (ws (Ab 3 0 (RW.c 0 h (Wl _) (fun v2 gv2 h=>Ab 4 0 (RW.nil ?_)))));cases h;exact Wp.ret ⟨.inr rfl,BA (by kernel_rfl)⟩
set_option maxHeartbeats 4000000 in
theorem Wm (xD:AH) (b:Int) (a:Int) (r:ByteArray×Bool) (h:KL xD b a=some r):Ba Tryz.prog 9 [.sv (.agg [.sl false 77 3 (Ah (Co false) xD.Flash.Blocks),.sl false 39 2 (Ah CC xD.Store.Vols),.sl false 150 2 (Ah (AS false) xD.Store.Arena.Knots),.int .i64 xD.Store.Next,.int .i64 xD.Seq,.int .i64 xD.Tx,.int .i64 xD.Base]),.sv (I b),.sv (I a)] (.tup [(Y r.1),(B r.2)]) (List.replicate 3 .gone):=by
 unfold KL at h;refine gk Tryz.func9 rfl Tryz.ntmps9 (ws (Ab 3 0 (RW.nil (Wp.seq (ws (Ab 3 0 (RW.c 0 h (Zj _ _) (fun v1 gv1 h=>Ab 1 0 (RW.nil (wc h (fun h=>?_) (fun h=>?_)))))))))))
 ·refine ws (Ab 2 0 (RW.nil ?_));cases h;exact Wp.ret ⟨.inr rfl,BA (by kernel_rfl)⟩
 refine Wp.skip (ws (Ab 4 0 (RW.c 0 h (jZ _ _ _) (fun v2 gv2 h=>Ab 1 0 (RW.nil (Wp.seq (ws (Ab 2 0 (RW.nil (wc h (fun h=>?_) (fun h=>?_)))))))))))
 ·refine ws (Ab 2 0 (RW.nil ?_));cases h;exact Wp.ret ⟨.inr rfl,BA (by kernel_rfl)⟩
 refine Wp.skip (ws (Ab 3 0 (RW.c 0 h (Ys _ _) (fun v3 gv3 h=>Ab 4 0 (RW.nil ?_)))));cases h;exact Wp.ret ⟨.inr rfl,BA (by kernel_rfl)⟩
theorem XS (xF:Flash) (a:Int) (r:ByteArray×Bool) (h:KF xF a=some r):Ba Tryz.prog 11 [.sv (.agg [.sl false 77 3 (Ah (Co false) xF.Blocks)]),.sv (I a)] (.tup [(Y r.1),(B r.2)]) (List.replicate 2 .gone):=by
 unfold KF at h;refine gk Tryz.func11 rfl Tryz.ntmps11 (ws (Ab 3 0 (RW.nil (ws (Ab 1 0 (RW.c 0 h (G0 _) (fun v1 gv1 h=>Ab 1 0 (RW.c 0 h (gs (ca (co (cs (Tu _))) rfl) (OU _ _)) (fun v2 gv2 h=>Ab 4 0 (RW.nil ?_)) (hc:=(.inr (fun v=>rfl)))))))))));cases h;exact Wp.ret ⟨.inr rfl,BA (by kernel_rfl)⟩
def oQ (xQ:QR) (z1:Bool):St:=AE [(1,(.one (.ptr (.box 1) 0 [] 0))),(15,(B z1))] [(.box 1,[.int .i64 xQ.Kind,.int .i64 xQ.Vol,.int .i64 xQ.Sector,.int .i64 xQ.Of,.str xQ.Text])]
def oP (xQ:QR) (z2:Int) (z3:Int) (z4:Int):St:=AE [(1,(.one (.ptr (.box 1) 0 [] 0))),(3,(I z2)),(4,(I z3)),(5,(I z4))] [(.box 1,[.int .i64 xQ.Kind,.int .i64 xQ.Vol,.int .i64 xQ.Sector,.int .i64 xQ.Of,.str xQ.Text])]
theorem tJ (xQ:QR) (r:Bool) (h:eD xQ=some r):Ba Tryz.prog 12 [.sv (.agg [.int .i64 xQ.Kind,.int .i64 xQ.Vol,.int .i64 xQ.Sector,.int .i64 xQ.Of,.str xQ.Text])] (B r) (List.replicate 1 .gone):=by
 unfold eD at h;refine gk Tryz.func12 rfl Tryz.ntmps12 (ws (Ab 2 0 (RW.nil (Wp.seq (Wp.seq (Bq h [1,15] [.box 1] (fun a=>(oQ xQ a)) ?_ ?_))))))
 ·intro a h;refine Av (Ab 2 0 (RW.c 0 h (I7 _ _ _) (fun v1 gv1 h=>Ab 2 0 (AQ 10 h (fun h=>?_) (fun h=>?_)))))
  ·refine Ab 5 0 (RW.nil ?_);cases h;exact⟨_,rfl,Ay⟩
  refine Ab 2 0 (RW.c 0 h (I7 _ _ _) (fun v2 gv2 h=>Ab 2 0 (RW.nil ?_)));cases h;exact⟨_,rfl,Ay⟩
 intro j1 h E hE;refine A9 hE (wc h (fun h=>?_) (fun h=>?_))
 ·refine ws (Ab 1 0 (RW.nil ?_));cases h;exact Wp.ret ⟨.inr rfl,BA (by kernel_rfl)⟩
 refine Wp.skip (ws (Ab 3 0 (RW.nil (Wp.seq (ws (Ab 2 0 (RW.nil (Wp.block (ws (Ab 2 0 (RW.nil (Bq h [1,3,4,5] [.box 1] (fun a=>(oP xQ a.1 a.2.1 a.2.2)) ?_ ?_))))))))))))
 ·intro a h;refine wc h (fun h=>?_) (fun h=>?_)
  ·refine Av (Ab 2 0 (RW.nil ?_));cases h;exact⟨_,rfl,Ay⟩
  refine Wp.seq (ws (Ab 2 0 (RW.nil (wc h (fun h=>?_) (fun h=>?_)))))
  ·refine Wp.skip (wc h (fun h=>?_) (fun h=>?_))
   ·refine Av (Ab 1 0 (RW.nil ?_));cases h;exact⟨_,rfl,Ay⟩
   refine ws (Ab 2 0 (RW.nil (wc h (fun h=>?_) (fun h=>?_))))
   ·refine Av (Ab 1 0 (RW.nil ?_));cases h;exact⟨_,rfl,Ay⟩
   refine Wp.skip ?_;cases h;exact⟨_,rfl,Ay⟩
  refine Av (Ab 2 0 (RW.nil (wc h (fun h=>?_) (fun h=>?_))))
  ·refine Av (Ab 1 0 (RW.nil ?_));cases h;exact⟨_,rfl,Ay⟩
  refine ws (Ab 2 0 (RW.nil (wc h (fun h=>?_) (fun h=>?_))))
  ·refine Av (Ab 1 0 (RW.nil ?_));cases h;exact⟨_,rfl,Ay⟩
  refine Wp.skip ?_;cases h;exact⟨_,rfl,Ay⟩
 intro j2 h E hE;refine A9 hE (ws (Ab 3 0 (RW.c 0 h (I7 _ _ _) (fun v3 gv3 h=>Ab 1 0 (AQ 29 h (fun h=>?_) (fun h=>?_))))))
 ·refine Ab 5 0 (RW.c 0 h (I7 _ _ _) (fun v4 gv4 h=>Ab 2 0 (AQ 37 h (fun h=>?_) (fun h=>?_))))
  ·refine Ab 7 0 (RW.nil ?_);cases h;exact Wp.ret ⟨.inr rfl,BA (by kernel_rfl)⟩
  refine Ab 7 0 (RW.nil ?_);cases h;exact Wp.ret ⟨.inr rfl,BA (by kernel_rfl)⟩
 refine Ab 15 0 (RW.nil ?_);cases h;exact Wp.ret ⟨.inr rfl,BA (by kernel_rfl)⟩
def UB (v2:AH) (z1:Int):St:=AE [(3,(.one (.ptr (.box 3) 0 [] 0))),(4,(I z1))] [(.box 3,[.sl false 77 3 (Ah (Co false) v2.Flash.Blocks),.sl false 39 2 (Ah CC v2.Store.Vols),.sl false 150 2 (Ah (AS false) v2.Store.Arena.Knots),.int .i64 v2.Store.Next,.int .i64 v2.Seq,.int .i64 v2.Tx,.int .i64 v2.Base])]
def U8 (v2:AH):St:=AE [(3,(.one (.ptr (.box 3) 0 [] 0)))] [(.box 3,[.sl false 77 3 (Ah (Co false) v2.Flash.Blocks),.sl false 39 2 (Ah CC v2.Store.Vols),.sl false 150 2 (Ah (AS false) v2.Store.Arena.Knots),.int .i64 v2.Store.Next,.int .i64 v2.Seq,.int .i64 v2.Tx,.int .i64 v2.Base])]
def U7 (v2:AH) (a:Int) (z2:Int):St:=AE [(3,(.one (.ptr (.box 3) 0 [] 0))),(4,(I a)),(5,(I z2))] [(.box 3,[.sl false 77 3 (Ah (Co false) v2.Flash.Blocks),.sl false 39 2 (Ah CC v2.Store.Vols),.sl false 150 2 (Ah (AS false) v2.Store.Arena.Knots),.int .i64 v2.Store.Next,.int .i64 v2.Seq,.int .i64 v2.Tx,.int .i64 v2.Base])]
def U6 (v2:AH) (a:Int):St:=AE [(3,(.one (.ptr (.box 3) 0 [] 0))),(4,(I a))] [(.box 3,[.sl false 77 3 (Ah (Co false) v2.Flash.Blocks),.sl false 39 2 (Ah CC v2.Store.Vols),.sl false 150 2 (Ah (AS false) v2.Store.Arena.Knots),.int .i64 v2.Store.Next,.int .i64 v2.Seq,.int .i64 v2.Tx,.int .i64 v2.Base])]
def U5 (v2:AH) (a:Int) (b:Int) (z3:Bool):St:=AE [(3,(.one (.ptr (.box 3) 0 [] 0))),(4,(I a)),(5,(I b)),(78,(B z3))] [(.box 3,[.sl false 77 3 (Ah (Co false) v2.Flash.Blocks),.sl false 39 2 (Ah CC v2.Store.Vols),.sl false 150 2 (Ah (AS false) v2.Store.Arena.Knots),.int .i64 v2.Store.Next,.int .i64 v2.Seq,.int .i64 v2.Tx,.int .i64 v2.Base])]
theorem WL (b:List Int) (r:Bool) (h:ID b=some r):Ba Tryz.prog 3 [.sv (.one (.sl false 5 1 (Ah c5 b)))] (B r) (List.replicate 1 .gone):=by
 unfold ID at h;refine gk Tryz.func3 rfl Tryz.ntmps3 (ws (Ab 1 0 (RW.nil (Wp.seq (ws (Ab 1 0 (RW.c 0 h (yZ _) (fun v1 gv1 h=>RW.nil (wc h (fun h=>?_) (fun h=>?_))))))))))
 ·refine ws (Ab 1 0 (RW.nil ?_));cases h;exact Wp.ret ⟨.inr rfl,BA (by kernel_rfl)⟩
 refine Wp.skip (ws (Ab 1 0 (RW.c 0 h (VL _) (fun v2 gv2 h=>Ab 2 0 (RW.nil (Wp.seq (ws (Ab 1 0 (RW.nil (Em h [3,4] [.box 3] (fun s=>(UB v2 s)) [3] [.box 3] (fun _=>(U8 v2)) Ay ?_ ?_))))))))))
 ·rintro d o (h:EQ v2 d=some o) hk1;unfold EQ at h;refine Wp.seq (ws (Ab 4 0 (RW.q (D5 DP v2.Store.Vols) (Ab 1 0 (RW.nil (wc h (fun h=>?_) (fun h=>?_)))))))
  ·refine Wp.skip (Wp.seq (Wp.block (ws (Ab 1 0 (RW.nil (Em h [3,4,5] [.box 3] (fun s=>(U7 v2 d s)) [3,4] [.box 3] (fun _=>(U6 v2 d)) Ay ?_ ?_))))))
   ·rintro e o (h:EP v2 d e=some o) hk2;unfold EP at h;refine Wp.seq (ws (Ab 2 0 (RW.nil (wc h (fun h=>?_) (fun h=>?_)))))
    ·refine Wp.skip (Wp.seq (Wp.block (Wp.seq (Er [] Ct (fun c E h=>by rcases h with⟨h|h,_⟩<;>cases h) (AC [0,1,2,3,4] 0 (bd h fun x1 gx1 h=>KW.q 5 (Ck DP gx1) (KW.q 6 (DB DP gx1 0 0) (KW.q 7 (CG DP gx1 0) (AC [8] 0 (BD 9 (KB.c 0 h (Wm _ _ _) (fun v3 gv3 h=>AC [10] 1 ?_))))))))))));refine Jx 11 (Jx 12 (AC [13,14] 0 (Ak (Wp.seq (P1 10 Ct (Dh 6 (bd h fun x2 gx2 h=>SW.q (Ck DP gx2) (SW.q (DB DP gx2 0 0) (SW.q (CG DP gx2 0) (Dh 1 (SW.nil (RW.c 0 h (Ta _ _ _) (fun v4 gv4 h=>?_)))))))))))));refine Ab 1 0 (RW.nil (ws (Ab 3 0 (RW.c 0 h (XS _ _) (fun v5 gv5 h=>Ab 5 1 (RW.nil (Wp.seq (Bq h [3,4,5,78] [.box 3] (fun a=>(U5 v2 d e a)) ?_ ?_))))))))
     ·intro a h;refine Av (Ab 3 0 (AQ 62 h (fun h=>?_) (fun h=>?_)))
      ·refine Ab 16 0 (RW.nil ?_);cases h;exact⟨_,rfl,Ay⟩
      refine Ab 3 0 (AQ 65 h (fun h=>?_) (fun h=>?_))
      ·refine Ab 5 0 (AQ 70 h (fun h=>?_) (fun h=>?_))
       ·refine Ab 8 0 (RW.nil ?_);cases h;exact⟨_,rfl,Ay⟩
       refine Ab 3 0 (AQ 73 h (fun h=>?_) (fun h=>?_))
       ·refine Ab 5 0 (RW.nil ?_);cases h;exact⟨_,rfl,Ay⟩
       refine Ab 5 0 (RW.nil ?_);cases h;exact⟨_,rfl,Ay⟩
      refine Ab 8 0 (AQ 73 h (fun h=>?_) (fun h=>?_))
      ·refine Ab 5 0 (RW.nil ?_);cases h;exact⟨_,rfl,Ay⟩
      refine Ab 5 0 (RW.nil ?_);cases h;exact⟨_,rfl,Ay⟩
     intro j1 h E hE;refine A9 hE (wc h (fun h=>?_) (fun h=>?_))
     ·refine ws (Ab 1 0 (RW.nil ?_));cases h;replace h:some _=some _:=hk2 _ rfl;cases h;replace h:some _=some _:=hk1 _ rfl;cases h;exact Wp.ret ⟨.inr rfl,BA (by kernel_rfl)⟩
     refine Wp.skip (Av (Ab 3 0 (RW.nil ?_)));cases h;exact⟨_,rfl,Ay⟩
    refine Wp.exit ?_;cases h;exact⟨_,rfl,Ay⟩
   intro v6 h E hE;refine A9 hE (Av (Ab 3 0 (RW.nil ?_)));cases h;exact⟨_,rfl,Ay⟩
  refine Wp.exit ?_;cases h;exact⟨_,rfl,Ay⟩
 intro v7 h E hE;refine A9 hE (ws (Ab 1 0 (RW.c 0 h (Wm _ _ _) (fun v8 gv8 h=>Ab 5 1 (RW.nil (ws (Ab 3 0 (AQ 86 h (fun h=>?_) (fun h=>?_)))))))))
 ·refine Ab 1 0 (RW.c 0 h (tJ _) (fun v9 gv9 h=>Ab 2 0 (RW.nil ?_)));cases h;exact Wp.ret ⟨.inr rfl,BA (by kernel_rfl)⟩
 refine Ab 4 0 (RW.nil ?_);cases h;exact Wp.ret ⟨.inr rfl,BA (by kernel_rfl)⟩
end Go.TI
