/- That they compute it. No condition. -/
import Derived.Test.YtpbgcipjfejjhaaSFW0
namespace Go.TI
open Go Go.Proofs
set_option linter.unusedVariables false
set_option linter.unusedSimpArgs false

def i_ReadPage_H1 (v1 : ByteArray × Bool) (z1 : Bool) : St := mkSt [(2, (.one (.ptr (.box 2) 0 [] 0))), (4, (Y v1.1)), (23, (B z1))] [(.box 2, [.int .i64 0, .int .i64 0, .int .i64 0, .int .i64 0, .int .i64 0, .str (bs [])])]
def i_ReadPage_H2 (v1 : ByteArray × Bool) (z2 : Int) (z3 : Int) (z4 : Int) (z5 : Int) (z6 : Int) (z7 : Int) : St := mkSt [(2, (.one (.ptr (.box 2) 0 [] 0))), (4, (Y v1.1)), (6, (.one (.ptr (.box 6) 0 [] 0))), (7, (I z2)), (25, (I z3))] [(.box 2, [.int .i64 0, .int .i64 0, .int .i64 0, .int .i64 0, .int .i64 0, .str (bs [])]), (.box 6, [.int .i64 z4, .int .i64 z5, .int .i64 z6, .int .i64 z7])]
def i_ReadPage_H3 (v1 : ByteArray × Bool) (z8 : Int) (z9 : Int) (z10 : Int) (z11 : Int) (z12 : Int) : St := mkSt [(2, (.one (.ptr (.box 2) 0 [] 0))), (4, (Y v1.1)), (6, (.one (.ptr (.box 6) 0 [] 0))), (7, (I z8))] [(.box 2, [.int .i64 0, .int .i64 0, .int .i64 0, .int .i64 0, .int .i64 0, .str (bs [])]), (.box 6, [.int .i64 z9, .int .i64 z10, .int .i64 z11, .int .i64 z12])]
set_option maxRecDepth 100000 in
theorem i_ReadPage_t (xT : ByteArray) (r : Page × Bool) (h : i_ReadPage xT = some r) : Gives Try.prog 38 [.sv (Y xT)] (.tup [(.agg [.int .i64 r.1.Kind, .int .i64 r.1.Seq, .int .i64 r.1.Tx, .int .i64 r.1.Part, .int .i64 r.1.Count, .str r.1.Text]), (B r.2)]) (List.replicate 1 .gone) := by
 unfold i_ReadPage at h
 refine gives_of Try.func38 rfl ?_
 rw [Try.ntmps38]
 refine Wp.seq ?_
 refine Wp.region ?_
 refine LWp.b [] 2 [.int .i64 0, .int .i64 0, .int .i64 0, .int .i64 0, .int .i64 0, .str (bs [])] ?_
 refine LWp.o 3 (B false) ?_
 refine LWp.nil ?_
 refine Wp.seq ?_
 refine Wp.region ?_
 refine LWp.o 14 (Y xT) ?_
 refine LWp.cl h 15 (fun v1 => (.tup [(Y v1.1), (B v1.2)])) rfl (l := [.sv (.one (.str xT))]) rfl (fun v hv => i_Unsealed_t xT v hv) (.inl rfl) ?_
 intro v1 gv1 h
 refine LWp.mt 15 13 (.tup [(Y v1.1), (B v1.2)]) ?_
 refine LWp.e 13 0 16 (Y v1.1) ?_
 refine LWp.e 13 1 17 (B v1.2) ?_
 refine LWp.o 4 (Y v1.1) ?_
 refine LWp.o 5 (B v1.2) ?_
 refine LWp.nil ?_
 refine Wp.seq ?_
 refine Wp.seq ?_
 refine Wp.j1 h [2, 4, 23] [.box 2] (fun a => (i_ReadPage_H1 v1 a)) ?_ ?_
 · intro a h
   refine Wp.region ?_
   refine LWp.o 18 (B v1.2) ?_
   refine LWp.o 19 (B (!v1.2)) ?_
   refine LWp.o 20 (B (!v1.2)) ?_
   refine LWp.sp h 20 (fun h => ?_) (fun h => ?_)
   · refine LWp.sh 21 ?_
     refine LWp.sh 22 ?_
     refine LWp.o 23 (B true) ?_
     refine LWp.nil ?_
     cases h
     exact ⟨_, rfl, rfl, rfl⟩
   refine LWp.o 21 (Y v1.1) ?_
   refine LWp.o 22 (B (seq v1.1 (bs []))) ?_
   refine LWp.o 23 (B (seq v1.1 (bs []))) ?_
   refine LWp.nil ?_
   cases h
   exact ⟨_, rfl, rfl, rfl⟩
 intro j1 h E hE
 refine nt_wp hE ?_
 change Wp _ _ _ (i_ReadPage_H1 v1 j1) _
 refine Wp.c h (fun h => ?_) (fun h => ?_)
 · refine Wp.seq ?_
   refine Wp.region ?_
   refine LWp.o 24 (.agg [.int .i64 0, .int .i64 0, .int .i64 0, .int .i64 0, .int .i64 0, .str (bs [])]) ?_
   refine LWp.s [] (.box 2) [.int .i64 0, .int .i64 0, .int .i64 0, .int .i64 0, .int .i64 0, .str (bs [])] ?_
   refine LWp.o 3 (B false) ?_
   refine LWp.nil ?_
   cases h
   exact Wp.ret ⟨.inr rfl, _, _, rfl, rfl⟩
 refine Wp.skip ?_
 refine Wp.seq ?_
 refine Wp.region ?_
 refine LWp.b [] 6 [.int .i64 0, .int .i64 0, .int .i64 0, .int .i64 0] ?_
 refine LWp.nil ?_
 refine Wp.seq ?_
 refine Wp.region ?_
 refine LWp.o 7 (I 1) ?_
 refine LWp.nil ?_
 refine Wp.seq ?_
 refine Wp.seq ?_
 refine Wp.region ?_
 refine LWp.o 25 (I 0) ?_
 refine LWp.nil ?_
 refine Wp.l2 h [2, 4, 6, 7, 25] [.box 2, .box 6] (fun s => (i_ReadPage_H2 v1 s.1 s.2.1 s.2.2.1 s.2.2.2.1 s.2.2.2.2.1 s.2.2.2.2.2)) [2, 4, 6, 7] [.box 2, .box 6] (fun s => (i_ReadPage_H3 v1 s.1 s.2.1 s.2.2.1 s.2.2.2.1 s.2.2.2.2)) ⟨rfl, rfl⟩ ?_ ?_
 · rintro ⟨yAt1, y1, yL01, yL11, yL21, yL31⟩ o (h : i_ReadPage_b1 v1 yAt1 y1 yL01 yL11 yL21 yL31 = some o) hk1
   unfold i_ReadPage_b1 at h
   change Wp _ _ _ (i_ReadPage_H2 v1 yAt1 y1 yL01 yL11 yL21 yL31) _
   refine Wp.seq ?_
   refine Wp.region ?_
   refine LWp.o 26 (B (decide (y1 < 4))) ?_
   refine LWp.nil ?_
   refine Wp.seq ?_
   refine Wp.c h (fun h => ?_) (fun h => ?_)
   · refine Wp.skip ?_
     refine Wp.seq ?_
     refine Wp.block ?_
     refine Wp.seq ?_
     refine Wp.region ?_
     refine LWp.o 27 (I y1) ?_
     refine LWp.o 8 (I y1) ?_
     refine LWp.nil ?_
     refine Wp.seq ?_
     refine Wp.region ?_
     refine LWp.o 29 (Y v1.1) ?_
     refine LWp.o 30 (I yAt1) ?_
     refine LWp.cl h 31 (fun v2 => (.tup [(I v2.1), (I v2.2.1), (B v2.2.2)])) rfl (l := [.sv (.one (.str v1.1)), .sv (.one (.int .i64 yAt1))]) rfl (fun v hv => i_ReadVar_t v1.1 yAt1 v hv) (.inl rfl) ?_
     intro v2 gv2 h
     refine LWp.mt 31 28 (.tup [(I v2.1), (I v2.2.1), (B v2.2.2)]) ?_
     refine LWp.e 28 0 32 (I v2.1) ?_
     refine LWp.e 28 1 33 (I v2.2.1) ?_
     refine LWp.e 28 2 34 (B v2.2.2) ?_
     refine LWp.o 9 (I v2.1) ?_
     refine LWp.o 10 (I v2.2.1) ?_
     refine LWp.o 11 (B v2.2.2) ?_
     refine LWp.nil ?_
     refine Wp.seq ?_
     refine Wp.seq ?_
     refine Wp.region ?_
     refine LWp.o 35 (B v2.2.2) ?_
     refine LWp.o 36 (B (!v2.2.2)) ?_
     refine LWp.nil ?_
     refine Wp.c h (fun h => ?_) (fun h => ?_)
     · refine Wp.seq ?_
       refine Wp.region ?_
       refine LWp.o 37 (.agg [.int .i64 0, .int .i64 0, .int .i64 0, .int .i64 0, .int .i64 0, .str (bs [])]) ?_
       refine LWp.s [] (.box 2) [.int .i64 0, .int .i64 0, .int .i64 0, .int .i64 0, .int .i64 0, .str (bs [])] ?_
       refine LWp.o 3 (B false) ?_
       refine LWp.nil ?_
       cases h
       replace h : some _ = some _ := hk1 _ rfl
       cases h
       exact Wp.ret ⟨.inr rfl, _, _, rfl, rfl⟩
     refine Wp.skip ?_
     refine Wp.region ?_
     refine LWp.o 38 (I y1) ?_
     refine LWp.o 39 (I v2.1) ?_
     refine LWp.o 40 (I v2.2.1) ?_
     refine bsplit h (fun hb h => ?_) (fun h => ?_)
     · refine LWp.o 41 (.one (.ptr (.box 6) 0 [] 0)) ?_ (st_pure (p_xa (m := 0) (.box 6) [] 0 (eq_of_beq hb)))
       refine LWp.s [] (.box 6) [.int .i64 v2.1, .int .i64 yL11, .int .i64 yL21, .int .i64 yL31] ?_
       refine LWp.o 7 (I v2.2.1) ?_
       refine LWp.nil ?_
       refine Wp.region ?_
       refine LWp.o 42 (I (ad y1 1)) ?_
       refine LWp.o 25 (I (ad y1 1)) ?_
       refine LWp.nil ?_
       cases h
       exact ⟨_, rfl, rfl, rfl⟩
     refine bsplit h (fun hb h => ?_) (fun h => ?_)
     · refine LWp.o 41 (.one (.ptr (.box 6) 0 [] 1)) ?_ (st_pure (p_xa (m := 1) (.box 6) [] 0 (eq_of_beq hb)))
       refine LWp.s [] (.box 6) [.int .i64 yL01, .int .i64 v2.1, .int .i64 yL21, .int .i64 yL31] ?_
       refine LWp.o 7 (I v2.2.1) ?_
       refine LWp.nil ?_
       refine Wp.region ?_
       refine LWp.o 42 (I (ad y1 1)) ?_
       refine LWp.o 25 (I (ad y1 1)) ?_
       refine LWp.nil ?_
       cases h
       exact ⟨_, rfl, rfl, rfl⟩
     refine bsplit h (fun hb h => ?_) (fun h => ?_)
     · refine LWp.o 41 (.one (.ptr (.box 6) 0 [] 2)) ?_ (st_pure (p_xa (m := 2) (.box 6) [] 0 (eq_of_beq hb)))
       refine LWp.s [] (.box 6) [.int .i64 yL01, .int .i64 yL11, .int .i64 v2.1, .int .i64 yL31] ?_
       refine LWp.o 7 (I v2.2.1) ?_
       refine LWp.nil ?_
       refine Wp.region ?_
       refine LWp.o 42 (I (ad y1 1)) ?_
       refine LWp.o 25 (I (ad y1 1)) ?_
       refine LWp.nil ?_
       cases h
       exact ⟨_, rfl, rfl, rfl⟩
     refine bsplit h (fun hb h => ?_) (fun h => ?_)
     · refine LWp.o 41 (.one (.ptr (.box 6) 0 [] 3)) ?_ (st_pure (p_xa (m := 3) (.box 6) [] 0 (eq_of_beq hb)))
       refine LWp.s [] (.box 6) [.int .i64 yL01, .int .i64 yL11, .int .i64 yL21, .int .i64 v2.1] ?_
       refine LWp.o 7 (I v2.2.1) ?_
       refine LWp.nil ?_
       refine Wp.region ?_
       refine LWp.o 42 (I (ad y1 1)) ?_
       refine LWp.o 25 (I (ad y1 1)) ?_
       refine LWp.nil ?_
       cases h
       exact ⟨_, rfl, rfl, rfl⟩
     cases h
   refine Wp.exit ?_
   cases h
   exact ⟨_, rfl, rfl, rfl⟩
 intro v3 h E hE
 refine nt_wp hE ?_
 change Wp _ _ _ (i_ReadPage_H3 v1 v3.1 v3.2.1 v3.2.2.1 v3.2.2.2.1 v3.2.2.2.2) _
 refine Wp.seq ?_
 refine Wp.regionK 17 [16] mixed (fun c E h => by rcases h with ⟨h | h, _⟩ <;> cases h) ?_
 refine KWp.o 17 0 43 (Y v1.1) ?_
 refine KWp.p h 17 1 44 (fun x1 => (.one (.int .u8 x1))) ?_ rfl (fun x1 gx1 => sl_pure (p_sx gx1))
 intro x1 gx1 h
 refine KWp.o 17 2 45 (I (IntKind.i64.wrap x1)) ?_
 refine KWp.o 17 3 46 (.one (.ptr (.box 6) 0 [] 0)) ?_ rfl (sl_pure (p_xa (m := 0) (.box 6) [] 0 rfl))
 refine KWp.o 17 4 47 (I v3.2.1) ?_
 refine KWp.o 17 5 48 (.one (.ptr (.box 6) 0 [] 1)) ?_ rfl (sl_pure (p_xa (m := 1) (.box 6) [] 0 rfl))
 refine KWp.o 17 6 49 (I v3.2.2.1) ?_
 refine KWp.o 17 7 50 (.one (.ptr (.box 6) 0 [] 2)) ?_ rfl (sl_pure (p_xa (m := 2) (.box 6) [] 0 rfl))
 refine KWp.o 17 8 51 (I v3.2.2.2.1) ?_
 refine KWp.o 17 9 52 (.one (.ptr (.box 6) 0 [] 3)) ?_ rfl (sl_pure (p_xa (m := 3) (.box 6) [] 0 rfl))
 refine KWp.o 17 10 53 (I v3.2.2.2.2) ?_
 refine KWp.o 17 11 54 (Y v1.1) ?_
 refine KWp.o 17 12 55 (I v3.1) ?_
 refine KWp.p h 17 13 56 (fun x2 => (Y x2)) ?_ rfl (fun x2 gx2 => sl_pure (p_sub gx2))
 intro x2 gx2 h
 refine KWp.o 17 14 57 (.agg [.int .i64 (IntKind.i64.wrap x1), .int .i64 v3.2.1, .int .i64 v3.2.2.1, .int .i64 v3.2.2.2.1, .int .i64 v3.2.2.2.2, .str x2]) ?_
 refine KWp.w1 15 ?_
 refine KOp.b 15 [] 12 [.int .i64 0, .int .i64 0, .int .i64 0, .int .i64 0, .int .i64 0, .str (bs [])] ?_
 refine KWp.w1 16 ?_
 refine KOp.s 16 [] (.box 12) [.int .i64 (IntKind.i64.wrap x1), .int .i64 v3.2.1, .int .i64 v3.2.2.1, .int .i64 v3.2.2.2.1, .int .i64 v3.2.2.2.2, .str x2] ?_
 refine KWp.done ?_
 refine Wp.seq ?_
 refine Wp.seq ?_
 refine Wp.region ?_
 refine LWp.o 58 (.agg [.int .i64 (IntKind.i64.wrap x1), .int .i64 v3.2.1, .int .i64 v3.2.2.1, .int .i64 v3.2.2.2.1, .int .i64 v3.2.2.2.2, .str x2]) ?_
 refine LWp.cl h 59 (fun v4 => (B v4)) rfl (l := [.sv (.agg [.int .i64 (IntKind.i64.wrap x1), .int .i64 v3.2.1, .int .i64 v3.2.2.1, .int .i64 v3.2.2.2.1, .int .i64 v3.2.2.2.2, .str x2])]) rfl (fun v hv => i_PageOk_t (Page.mk (IntKind.i64.wrap x1) v3.2.1 v3.2.2.1 v3.2.2.2.1 v3.2.2.2.2 x2) v hv) (.inl rfl) ?_
 intro v4 gv4 h
 refine LWp.o 60 (B (!v4)) ?_
 refine LWp.nil ?_
 refine Wp.c h (fun h => ?_) (fun h => ?_)
 · refine Wp.seq ?_
   refine Wp.region ?_
   refine LWp.o 61 (.agg [.int .i64 0, .int .i64 0, .int .i64 0, .int .i64 0, .int .i64 0, .str (bs [])]) ?_
   refine LWp.s [] (.box 2) [.int .i64 0, .int .i64 0, .int .i64 0, .int .i64 0, .int .i64 0, .str (bs [])] ?_
   refine LWp.o 3 (B false) ?_
   refine LWp.nil ?_
   cases h
   exact Wp.ret ⟨.inr rfl, _, _, rfl, rfl⟩
 refine Wp.skip ?_
 refine Wp.seq ?_
 refine Wp.region ?_
 refine LWp.o 62 (.agg [.int .i64 (IntKind.i64.wrap x1), .int .i64 v3.2.1, .int .i64 v3.2.2.1, .int .i64 v3.2.2.2.1, .int .i64 v3.2.2.2.2, .str x2]) ?_
 refine LWp.s [] (.box 2) [.int .i64 (IntKind.i64.wrap x1), .int .i64 v3.2.1, .int .i64 v3.2.2.1, .int .i64 v3.2.2.2.1, .int .i64 v3.2.2.2.2, .str x2] ?_
 refine LWp.o 3 (B true) ?_
 refine LWp.nil ?_
 cases h
 exact Wp.ret ⟨.inr rfl, _, _, rfl, rfl⟩
set_option maxRecDepth 100000 in
theorem i_leafSign_t (xX : Leaf) (r : ByteArray) (h : i_leafSign xX = some r) : Gives Try.prog 20 [.sv (.agg [.int .i64 xX.Is, .str xX.Text])] (Y r) (List.replicate 1 .gone) := by
 unfold i_leafSign at h
 refine gives_of Try.func20 rfl ?_
 rw [Try.ntmps20]
 refine Wp.seq ?_
 refine Wp.region ?_
 refine LWp.b [] 1 [.int .i64 xX.Is, .str xX.Text] ?_
 refine LWp.o 2 (Y (bs [])) ?_
 refine LWp.nil ?_
 refine Wp.seq ?_
 refine Wp.seq ?_
 refine Wp.region ?_
 refine LWp.o 5 (.one (.ptr (.box 1) 1 [] 0)) ?_
 refine LWp.o 6 (I xX.Is) ?_
 refine LWp.nil ?_
 refine Wp.block ?_
 refine Wp.seq ?_
 refine Wp.region ?_
 refine LWp.o 8 (B (xX.Is == 0)) ?_
 refine LWp.o 7 (B (xX.Is == 0)) ?_
 refine LWp.nil ?_
 refine Wp.c h (fun h => ?_) (fun h => ?_)
 · refine Wp.seq ?_
   refine Wp.region ?_
   refine LWp.o 2 (Y (bs [46])) ?_
   refine LWp.nil ?_
   cases h
   exact Wp.ret ⟨.inr rfl, _, _, rfl, rfl⟩
 refine Wp.seq ?_
 refine Wp.region ?_
 refine LWp.o 10 (B (xX.Is == 2)) ?_
 refine LWp.o 9 (B (xX.Is == 2)) ?_
 refine LWp.nil ?_
 refine Wp.c h (fun h => ?_) (fun h => ?_)
 · refine Wp.seq ?_
   refine Wp.region ?_
   refine LWp.o 2 (Y (bs [33])) ?_
   refine LWp.nil ?_
   cases h
   exact Wp.ret ⟨.inr rfl, _, _, rfl, rfl⟩
 refine Wp.skip ?_
 refine Wp.seq ?_
 refine Wp.region ?_
 refine LWp.o 12 (.one (.ptr (.box 1) 1 [] 1)) ?_
 refine LWp.o 13 (Y xX.Text) ?_
 refine LWp.cl h 14 (fun v1 => (.tup [(.agg [.int .i64 v1.1.Kind, .int .i64 v1.1.Seq, .int .i64 v1.1.Tx, .int .i64 v1.1.Part, .int .i64 v1.1.Count, .str v1.1.Text]), (B v1.2)])) rfl (l := [.sv (.one (.str xX.Text))]) rfl (fun v hv => i_ReadPage_t xX.Text v hv) (.inl rfl) ?_
 intro v1 gv1 h
 refine LWp.mt 14 11 (.tup [(.agg [.int .i64 v1.1.Kind, .int .i64 v1.1.Seq, .int .i64 v1.1.Tx, .int .i64 v1.1.Part, .int .i64 v1.1.Count, .str v1.1.Text]), (B v1.2)]) ?_
 refine LWp.e 11 0 15 (.agg [.int .i64 v1.1.Kind, .int .i64 v1.1.Seq, .int .i64 v1.1.Tx, .int .i64 v1.1.Part, .int .i64 v1.1.Count, .str v1.1.Text]) ?_
 refine LWp.e 11 1 16 (B v1.2) ?_
 refine LWp.b [] 3 [.int .i64 0, .int .i64 0, .int .i64 0, .int .i64 0, .int .i64 0, .str (bs [])] ?_
 refine LWp.s [] (.box 3) [.int .i64 v1.1.Kind, .int .i64 v1.1.Seq, .int .i64 v1.1.Tx, .int .i64 v1.1.Part, .int .i64 v1.1.Count, .str v1.1.Text] ?_
 refine LWp.o 4 (B v1.2) ?_
 refine LWp.nil ?_
 refine Wp.seq ?_
 refine Wp.block ?_
 refine Wp.seq ?_
 refine Wp.region ?_
 refine LWp.o 18 (B v1.2) ?_
 refine LWp.o 19 (B (!v1.2)) ?_
 refine LWp.o 17 (B (!v1.2)) ?_
 refine LWp.nil ?_
 refine Wp.c h (fun h => ?_) (fun h => ?_)
 · refine Wp.seq ?_
   refine Wp.region ?_
   refine LWp.o 2 (Y (bs [63])) ?_
   refine LWp.nil ?_
   cases h
   exact Wp.ret ⟨.inr rfl, _, _, rfl, rfl⟩
 refine Wp.seq ?_
 refine Wp.region ?_
 refine LWp.o 21 (.one (.ptr (.box 3) 1 [] 0)) ?_
 refine LWp.o 22 (I v1.1.Kind) ?_
 refine LWp.o 23 (B (v1.1.Kind == 1)) ?_
 refine LWp.o 20 (B (v1.1.Kind == 1)) ?_
 refine LWp.nil ?_
 refine Wp.c h (fun h => ?_) (fun h => ?_)
 · refine Wp.seq ?_
   refine Wp.region ?_
   refine LWp.o 2 (Y (bs [100])) ?_
   refine LWp.nil ?_
   cases h
   exact Wp.ret ⟨.inr rfl, _, _, rfl, rfl⟩
 refine Wp.skip ?_
 refine Wp.seq ?_
 refine Wp.region ?_
 refine LWp.o 2 (Y (bs [109])) ?_
 refine LWp.nil ?_
 cases h
 exact Wp.ret ⟨.inr rfl, _, _, rfl, rfl⟩
def i_ShowFlash_H1 (xF : Flash) (z1 : ByteArray) (z2 : Int) : St := mkSt [(3, (Y z1)), (12, (.one (.sl false 60 3 (encs (c60 false) xF.Blocks)))), (13, (I (ln xF.Blocks))), (14, (I z2))] []
def i_ShowFlash_H2 (z3 : ByteArray) : St := mkSt [(3, (Y z3))] []
def i_ShowFlash_H3 (xF : Flash) (y1 : Int) (x1 : Block) (z4 : ByteArray) (z5 : Int) : St := mkSt [(3, (Y z4)), (5, (.one (.ptr (.box 5) 0 [] 0))), (12, (.one (.sl false 60 3 (encs (c60 false) xF.Blocks)))), (13, (I (ln xF.Blocks))), (14, (I y1)), (19, (.one (.sl false 57 2 (encs c57 x1.Leaves)))), (20, (I (ln x1.Leaves))), (21, (I z5))] [(.box 5, [.bool x1.Bad, .int .i64 x1.Wear, .sl false 57 2 (encs c57 x1.Leaves)])]
def i_ShowFlash_H4 (xF : Flash) (y1 : Int) (x1 : Block) (z6 : ByteArray) : St := mkSt [(3, (Y z6)), (5, (.one (.ptr (.box 5) 0 [] 0))), (12, (.one (.sl false 60 3 (encs (c60 false) xF.Blocks)))), (13, (I (ln xF.Blocks))), (14, (I y1))] [(.box 5, [.bool x1.Bad, .int .i64 x1.Wear, .sl false 57 2 (encs c57 x1.Leaves)])]
set_option maxRecDepth 100000 in
theorem i_ShowFlash_t (xF : Flash) (r : ByteArray) (h : i_ShowFlash xF = some r) : Gives Try.prog 8 [.sv (.agg [.sl false 60 3 (encs (c60 false) xF.Blocks)])] (Y r) (List.replicate 1 .gone) := by
 unfold i_ShowFlash at h
 refine gives_of Try.func8 rfl ?_
 rw [Try.ntmps8]
 refine Wp.seq ?_
 refine Wp.region ?_
 refine LWp.b [] 1 [.sl false 60 3 (encs (c60 false) xF.Blocks)] ?_
 refine LWp.o 2 (Y (bs [])) ?_
 refine LWp.nil ?_
 refine Wp.seq ?_
 refine Wp.seq ?_
 refine Wp.region ?_
 refine LWp.o 8 (.agg [.sl false 60 3 (encs (c60 false) xF.Blocks)]) ?_
 refine LWp.cl h 9 (fun v1 => (B v1)) rfl (l := [.sv (.agg [.sl false 60 3 (encs (c60 false) xF.Blocks)])]) rfl (fun v hv => i_FlashOk_t xF v hv) (.inl rfl) ?_
 intro v1 gv1 h
 refine LWp.o 10 (B (!v1)) ?_
 refine LWp.nil ?_
 refine Wp.c h (fun h => ?_) (fun h => ?_)
 · refine Wp.seq ?_
   refine Wp.region ?_
   refine LWp.o 2 (Y (bs [])) ?_
   refine LWp.nil ?_
   cases h
   exact Wp.ret ⟨.inr rfl, _, _, rfl, rfl⟩
 refine Wp.skip ?_
 refine Wp.seq ?_
 refine Wp.region ?_
 refine LWp.o 3 (Y (bs [])) ?_
 refine LWp.nil ?_
 refine Wp.seq ?_
 refine Wp.seq ?_
 refine Wp.region ?_
 refine LWp.o 11 (.one (.ptr (.box 1) 1 [] 0)) ?_
 refine LWp.o 12 (.one (.sl false 60 3 (encs (c60 false) xF.Blocks))) ?_
 refine LWp.o 13 (I (ln xF.Blocks)) ?_ (st_pure (p_ln (k60 false) xF.Blocks))
 refine LWp.o 14 (I 0) ?_
 refine LWp.nil ?_
 refine Wp.l1 h [3, 12, 13, 14] [] (fun s => (i_ShowFlash_H1 xF s.1 s.2)) [3] [] (fun s => (i_ShowFlash_H2 s)) ⟨rfl, rfl⟩ ?_ ?_
 · rintro ⟨yOut1, y1⟩ o (h : i_ShowFlash_b1 xF yOut1 y1 = some o)
   unfold i_ShowFlash_b1 at h
   change Wp _ _ _ (i_ShowFlash_H1 xF yOut1 y1) _
   refine Wp.seq ?_
   refine Wp.region ?_
   refine LWp.o 15 (B (decide (y1 < (ln xF.Blocks)))) ?_
   refine LWp.nil ?_
   refine Wp.seq ?_
   refine Wp.c h (fun h => ?_) (fun h => ?_)
   · refine Wp.skip ?_
     refine Wp.seq ?_
     refine Wp.block ?_
     refine Wp.seq ?_
     refine Wp.region ?_
     refine LWp.p h 16 (fun _ => (.one (.ptr (.slot 12) 0 [0] (Int.toNat y1 * 3 + 0)))) ?_ (fun x1 gx1 => st_pure (p_ix (k60 false) (.slot 12) [] 0 gx1))
     intro x1 gx1 h
     refine LWp.o 17 (.agg [.bool x1.Bad, .int .i64 x1.Wear, .sl false 57 2 (encs c57 x1.Leaves)]) ?_ (st_pure (p_le (k60 false) (.slot 12) [0] gx1))
     refine LWp.b [] 5 [.bool false, .int .i64 0, .sl true 57 2 (encs c57 [])] ?_
     refine LWp.sb [] (.box 5) [.bool x1.Bad, .int .i64 x1.Wear, .sl false 57 2 (encs c57 x1.Leaves)] ?_
     refine LWp.nil ?_
     refine Wp.seq ?_
     refine Wp.seq ?_
     refine Wp.region ?_
     refine LWp.o 18 (.one (.ptr (.box 5) 1 [] 2)) ?_
     refine LWp.o 19 (.one (.sl false 57 2 (encs c57 x1.Leaves))) ?_
     refine LWp.o 20 (I (ln x1.Leaves)) ?_ (st_pure (p_ln k57 x1.Leaves))
     refine LWp.o 21 (I 0) ?_
     refine LWp.nil ?_
     refine Wp.l1 h [3, 5, 12, 13, 14, 19, 20, 21] [.box 5] (fun s => (i_ShowFlash_H3 xF y1 x1 s.1 s.2)) [3, 5, 12, 13, 14] [.box 5] (fun s => (i_ShowFlash_H4 xF y1 x1 s)) ⟨rfl, rfl⟩ ?_ ?_
     · rintro ⟨yOut2, y2⟩ o (h : i_ShowFlash_b2 x1 yOut2 y2 = some o)
       unfold i_ShowFlash_b2 at h
       change Wp _ _ _ (i_ShowFlash_H3 xF y1 x1 yOut2 y2) _
       refine Wp.seq ?_
       refine Wp.region ?_
       refine LWp.o 22 (B (decide (y2 < (ln x1.Leaves)))) ?_
       refine LWp.nil ?_
       refine Wp.seq ?_
       refine Wp.c h (fun h => ?_) (fun h => ?_)
       · refine Wp.skip ?_
         refine Wp.seq ?_
         refine Wp.block ?_
         refine Wp.seq ?_
         refine Wp.region ?_
         refine LWp.p h 23 (fun _ => (.one (.ptr (.slot 19) 0 [0] (Int.toNat y2 * 2 + 0)))) ?_ (fun x2 gx2 => st_pure (p_ix k57 (.slot 19) [] 0 gx2))
         intro x2 gx2 h
         refine LWp.o 24 (.agg [.int .i64 x2.Is, .str x2.Text]) ?_ (st_pure (p_le k57 (.slot 19) [0] gx2))
         refine LWp.b [] 7 [.int .i64 0, .str (bs [])] ?_
         refine LWp.s [] (.box 7) [.int .i64 x2.Is, .str x2.Text] ?_
         refine LWp.nil ?_
         refine Wp.region ?_
         refine LWp.o 25 (Y yOut2) ?_
         refine LWp.o 26 (.agg [.int .i64 x2.Is, .str x2.Text]) ?_
         refine LWp.cl h 27 (fun v2 => (Y v2)) rfl (l := [.sv (.agg [.int .i64 x2.Is, .str x2.Text])]) rfl (fun v hv => i_leafSign_t x2 v hv) (.inl rfl) ?_
         intro v2 gv2 h
         refine LWp.p h 28 (fun x3 => (Y x3)) ?_ (fun x3 gx3 => st_pure (p_cat gx3))
         intro x3 gx3 h
         refine LWp.o 3 (Y x3) ?_
         refine LWp.nil ?_
         refine Wp.region ?_
         refine LWp.o 29 (I (ad y2 1)) ?_
         refine LWp.o 21 (I (ad y2 1)) ?_
         refine LWp.nil ?_
         cases h
         exact ⟨_, rfl, rfl, rfl⟩
       refine Wp.exit ?_
       cases h
       exact ⟨_, rfl, rfl, rfl⟩
     intro v3 h E hE
     refine nt_wp hE ?_
     change Wp _ _ _ (i_ShowFlash_H4 xF y1 x1 v3) _
     refine Wp.seq ?_
     refine Wp.seq ?_
     refine Wp.region ?_
     refine LWp.o 30 (.one (.ptr (.box 5) 0 [] 0)) ?_
     refine LWp.o 31 (B x1.Bad) ?_
     refine LWp.nil ?_
     refine Wp.c h (fun h => ?_) (fun h => ?_)
     · refine Wp.region ?_
       refine LWp.o 32 (Y v3) ?_
       refine LWp.p h 33 (fun x4 => (Y x4)) ?_ (fun x4 gx4 => st_pure (p_cat gx4))
       intro x4 gx4 h
       refine LWp.o 3 (Y x4) ?_
       refine LWp.nil ?_
       refine Wp.region ?_
       refine LWp.o 34 (Y x4) ?_
       refine LWp.p h 35 (fun x5 => (Y x5)) ?_ (fun x5 gx5 => st_pure (p_cat gx5))
       intro x5 gx5 h
       refine LWp.o 3 (Y x5) ?_
       refine LWp.nil ?_
       refine Wp.region ?_
       refine LWp.o 36 (I (ad y1 1)) ?_
       refine LWp.o 14 (I (ad y1 1)) ?_
       refine LWp.nil ?_
       cases h
       exact ⟨_, rfl, rfl, rfl⟩
     refine Wp.skip ?_
     refine Wp.region ?_
     refine LWp.o 34 (Y v3) ?_
     refine LWp.p h 35 (fun x6 => (Y x6)) ?_ (fun x6 gx6 => st_pure (p_cat gx6))
     intro x6 gx6 h
     refine LWp.o 3 (Y x6) ?_
     refine LWp.nil ?_
     refine Wp.region ?_
     refine LWp.o 36 (I (ad y1 1)) ?_
     refine LWp.o 14 (I (ad y1 1)) ?_
     refine LWp.nil ?_
     cases h
     exact ⟨_, rfl, rfl, rfl⟩
   refine Wp.exit ?_
   cases h
   exact ⟨_, rfl, rfl, rfl⟩
 intro v4 h E hE
 refine nt_wp hE ?_
 change Wp _ _ _ (i_ShowFlash_H2 v4) _
 refine Wp.seq ?_
 refine Wp.region ?_
 refine LWp.o 37 (Y v4) ?_
 refine LWp.o 2 (Y v4) ?_
 refine LWp.nil ?_
 cases h
 exact Wp.ret ⟨.inr rfl, _, _, rfl, rfl⟩
set_option maxRecDepth 100000 in
theorem w_eqLeaf_t (xA : Leaf) (xB : Leaf) (r : Bool) (h : w_eqLeaf xA xB = some r) : Gives Try.prog 76 [.sv (.agg [.int .i64 xA.Is, .str xA.Text]), .sv (.agg [.int .i64 xB.Is, .str xB.Text])] (B r) (List.replicate 2 .gone) := by
 unfold w_eqLeaf at h
 refine gives_of Try.func76 rfl ?_
 rw [Try.ntmps76]
 refine Wp.seq ?_
 refine Wp.region ?_
 refine LWp.b [] 2 [.int .i64 xA.Is, .str xA.Text] ?_
 refine LWp.b [] 3 [.int .i64 xB.Is, .str xB.Text] ?_
 refine LWp.o 4 (B false) ?_
 refine LWp.nil ?_
 refine Wp.seq ?_
 refine Wp.seq ?_
 refine Wp.region ?_
 refine LWp.o 5 (.one (.ptr (.box 2) 1 [] 0)) ?_
 refine LWp.o 6 (I xA.Is) ?_
 refine LWp.o 7 (.one (.ptr (.box 3) 1 [] 0)) ?_
 refine LWp.o 8 (I xB.Is) ?_
 refine LWp.o 9 (B (xA.Is != xB.Is)) ?_
 refine LWp.nil ?_
 refine Wp.c h (fun h => ?_) (fun h => ?_)
 · refine Wp.seq ?_
   refine Wp.region ?_
   refine LWp.o 4 (B false) ?_
   refine LWp.nil ?_
   cases h
   exact Wp.ret ⟨.inr rfl, _, _, rfl, rfl⟩
 refine Wp.skip ?_
 refine Wp.seq ?_
 refine Wp.seq ?_
 refine Wp.region ?_
 refine LWp.o 10 (.one (.ptr (.box 2) 1 [] 1)) ?_
 refine LWp.o 11 (Y xA.Text) ?_
 refine LWp.o 12 (.one (.ptr (.box 3) 1 [] 1)) ?_
 refine LWp.o 13 (Y xB.Text) ?_
 refine LWp.o 14 (B (!(seq xA.Text xB.Text))) ?_
 refine LWp.nil ?_
 refine Wp.c h (fun h => ?_) (fun h => ?_)
 · refine Wp.seq ?_
   refine Wp.region ?_
   refine LWp.o 4 (B false) ?_
   refine LWp.nil ?_
   cases h
   exact Wp.ret ⟨.inr rfl, _, _, rfl, rfl⟩
 refine Wp.skip ?_
 refine Wp.seq ?_
 refine Wp.region ?_
 refine LWp.o 4 (B true) ?_
 refine LWp.nil ?_
 cases h
 exact Wp.ret ⟨.inr rfl, _, _, rfl, rfl⟩
def w_eqLeafS_H1 (xA : List Leaf) (xB : List Leaf) (z1 : Int) : St := mkSt [(0, (.one (.sl false 57 2 (encs c57 xA)))), (1, (.one (.sl false 57 2 (encs c57 xB)))), (5, (I z1))] []
def w_eqLeafS_H2  : St := mkSt [] []
set_option maxRecDepth 100000 in
theorem w_eqLeafS_t (xA : List Leaf) (xB : List Leaf) (r : Bool) (h : w_eqLeafS xA xB = some r) : Gives Try.prog 62 [.sv (.one (.sl false 57 2 (encs c57 xA))), .sv (.one (.sl false 57 2 (encs c57 xB)))] (B r) (List.replicate 2 .gone) := by
 unfold w_eqLeafS at h
 refine gives_of Try.func62 rfl ?_
 rw [Try.ntmps62]
 refine Wp.seq ?_
 refine Wp.region ?_
 refine LWp.o 4 (B false) ?_
 refine LWp.nil ?_
 refine Wp.seq ?_
 refine Wp.seq ?_
 refine Wp.region ?_
 refine LWp.o 6 (.one (.sl false 57 2 (encs c57 xA))) ?_
 refine LWp.o 7 (I (ln xA)) ?_ (st_pure (p_ln k57 xA))
 refine LWp.o 8 (.one (.sl false 57 2 (encs c57 xB))) ?_
 refine LWp.o 9 (I (ln xB)) ?_ (st_pure (p_ln k57 xB))
 refine LWp.o 10 (B ((ln xA) != (ln xB))) ?_
 refine LWp.nil ?_
 refine Wp.c h (fun h => ?_) (fun h => ?_)
 · refine Wp.seq ?_
   refine Wp.region ?_
   refine LWp.o 4 (B false) ?_
   refine LWp.nil ?_
   cases h
   exact Wp.ret ⟨.inr rfl, _, _, rfl, rfl⟩
 refine Wp.skip ?_
 refine Wp.seq ?_
 refine Wp.seq ?_
 refine Wp.region ?_
 refine LWp.o 5 (I 0) ?_
 refine LWp.nil ?_
 refine Wp.l2 h [0, 1, 5] [] (fun s => (w_eqLeafS_H1 xA xB s)) [] [] (fun _ => w_eqLeafS_H2) ⟨rfl, rfl⟩ ?_ ?_
 · rintro yI1 o (h : w_eqLeafS_b1 xA xB yI1 = some o) hk1
   unfold w_eqLeafS_b1 at h
   change Wp _ _ _ (w_eqLeafS_H1 xA xB yI1) _
   refine Wp.seq ?_
   refine Wp.seq ?_
   refine Wp.region ?_
   refine LWp.o 11 (I yI1) ?_
   refine LWp.o 12 (.one (.sl false 57 2 (encs c57 xA))) ?_
   refine LWp.o 13 (I (ln xA)) ?_ (st_pure (p_ln k57 xA))
   refine LWp.o 14 (B (decide (yI1 < (ln xA)))) ?_
   refine LWp.nil ?_
   refine Wp.c h (fun h => ?_) (fun h => ?_)
   · refine Wp.skip ?_
     refine Wp.seq ?_
     refine Wp.block ?_
     refine Wp.seq ?_
     refine Wp.regionT 8 mixed (by decide +kernel) ?_
     refine SWp.o 17 (.one (.sl false 57 2 (encs c57 xA))) ?_
     refine SWp.o 18 (I yI1) ?_
     refine SWp.p h 19 (fun _ => (.one (.ptr (.slot 17) 1 [0] (Int.toNat yI1 * 2 + 0)))) ?_ (fun x1 gx1 => sl_pure (p_ix k57 (.slot 17) [] 0 gx1))
     intro x1 gx1 h
     refine SWp.o 20 (.agg [.int .i64 x1.Is, .str x1.Text]) ?_ (sl_pure (p_le k57 (.slot 17) [0] gx1))
     refine SWp.o 21 (.one (.sl false 57 2 (encs c57 xB))) ?_
     refine SWp.o 22 (I yI1) ?_
     refine SWp.p h 23 (fun _ => (.one (.ptr (.slot 21) 1 [0] (Int.toNat yI1 * 2 + 0)))) ?_ (fun x2 gx2 => sl_pure (p_ix k57 (.slot 21) [] 0 gx2))
     intro x2 gx2 h
     refine SWp.o 24 (.agg [.int .i64 x2.Is, .str x2.Text]) ?_ (sl_pure (p_le k57 (.slot 21) [0] gx2))
     refine SWp.nil ?_
     refine LWp.cl h 25 (fun v1 => (B v1)) rfl (l := [.sv (.agg [.int .i64 x1.Is, .str x1.Text]), .sv (.agg [.int .i64 x2.Is, .str x2.Text])]) rfl (fun v hv => w_eqLeaf_t x1 x2 v hv) (.inl rfl) ?_
     intro v1 gv1 h
     refine LWp.o 26 (B (!v1)) ?_
     refine LWp.nil ?_
     refine Wp.c h (fun h => ?_) (fun h => ?_)
     · refine Wp.seq ?_
       refine Wp.region ?_
       refine LWp.o 4 (B false) ?_
       refine LWp.nil ?_
       cases h
       replace h : some _ = some _ := hk1 _ rfl
       cases h
       exact Wp.ret ⟨.inr rfl, _, _, rfl, rfl⟩
     refine Wp.skip ?_
     refine Wp.region ?_
     refine LWp.o 15 (I yI1) ?_
     refine LWp.o 16 (I (ad yI1 1)) ?_
     refine LWp.o 5 (I (ad yI1 1)) ?_
     refine LWp.nil ?_
     cases h
     exact ⟨_, rfl, rfl, rfl⟩
   refine Wp.exit ?_
   cases h
   exact ⟨_, rfl, rfl, rfl⟩
 intro v2 h E hE
 refine nt_wp hE ?_
 change Wp _ _ _ w_eqLeafS_H2 _
 refine Wp.seq ?_
 refine Wp.region ?_
 refine LWp.o 4 (B true) ?_
 refine LWp.nil ?_
 cases h
 exact Wp.ret ⟨.inr rfl, _, _, rfl, rfl⟩
set_option maxRecDepth 100000 in
theorem w_eqBlock_t (xA : Block) (xB : Block) (r : Bool) (h : w_eqBlock xA xB = some r) : Gives Try.prog 39 [.sv (.agg [.bool xA.Bad, .int .i64 xA.Wear, .sl false 57 2 (encs c57 xA.Leaves)]), .sv (.agg [.bool xB.Bad, .int .i64 xB.Wear, .sl false 57 2 (encs c57 xB.Leaves)])] (B r) (List.replicate 2 .gone) := by
 unfold w_eqBlock at h
 refine gives_of Try.func39 rfl ?_
 rw [Try.ntmps39]
 refine Wp.seq ?_
 refine Wp.region ?_
 refine LWp.b [] 2 [.bool xA.Bad, .int .i64 xA.Wear, .sl false 57 2 (encs c57 xA.Leaves)] ?_
 refine LWp.b [] 3 [.bool xB.Bad, .int .i64 xB.Wear, .sl false 57 2 (encs c57 xB.Leaves)] ?_
 refine LWp.o 4 (B false) ?_
 refine LWp.nil ?_
 refine Wp.seq ?_
 refine Wp.seq ?_
 refine Wp.region ?_
 refine LWp.o 5 (.one (.ptr (.box 2) 1 [] 0)) ?_
 refine LWp.o 6 (B xA.Bad) ?_
 refine LWp.o 7 (.one (.ptr (.box 3) 1 [] 0)) ?_
 refine LWp.o 8 (B xB.Bad) ?_
 refine LWp.o 9 (B (!(xA.Bad == xB.Bad))) ?_
 refine LWp.nil ?_
 refine Wp.c h (fun h => ?_) (fun h => ?_)
 · refine Wp.seq ?_
   refine Wp.region ?_
   refine LWp.o 4 (B false) ?_
   refine LWp.nil ?_
   cases h
   exact Wp.ret ⟨.inr rfl, _, _, rfl, rfl⟩
 refine Wp.skip ?_
 refine Wp.seq ?_
 refine Wp.seq ?_
 refine Wp.region ?_
 refine LWp.o 10 (.one (.ptr (.box 2) 1 [] 1)) ?_
 refine LWp.o 11 (I xA.Wear) ?_
 refine LWp.o 12 (.one (.ptr (.box 3) 1 [] 1)) ?_
 refine LWp.o 13 (I xB.Wear) ?_
 refine LWp.o 14 (B (xA.Wear != xB.Wear)) ?_
 refine LWp.nil ?_
 refine Wp.c h (fun h => ?_) (fun h => ?_)
 · refine Wp.seq ?_
   refine Wp.region ?_
   refine LWp.o 4 (B false) ?_
   refine LWp.nil ?_
   cases h
   exact Wp.ret ⟨.inr rfl, _, _, rfl, rfl⟩
 refine Wp.skip ?_
 refine Wp.seq ?_
 refine Wp.seq ?_
 refine Wp.region ?_
 refine LWp.o 15 (.one (.ptr (.box 2) 1 [] 2)) ?_
 refine LWp.o 16 (.one (.sl false 57 2 (encs c57 xA.Leaves))) ?_
 refine LWp.o 17 (.one (.ptr (.box 3) 1 [] 2)) ?_
 refine LWp.o 18 (.one (.sl false 57 2 (encs c57 xB.Leaves))) ?_
 refine LWp.cl h 19 (fun v1 => (B v1)) rfl (l := [.sv (.one (.sl false 57 2 (encs c57 xA.Leaves))), .sv (.one (.sl false 57 2 (encs c57 xB.Leaves)))]) rfl (fun v hv => w_eqLeafS_t xA.Leaves xB.Leaves v hv) (.inl rfl) ?_
 intro v1 gv1 h
 refine LWp.o 20 (B (!v1)) ?_
 refine LWp.nil ?_
 refine Wp.c h (fun h => ?_) (fun h => ?_)
 · refine Wp.seq ?_
   refine Wp.region ?_
   refine LWp.o 4 (B false) ?_
   refine LWp.nil ?_
   cases h
   exact Wp.ret ⟨.inr rfl, _, _, rfl, rfl⟩
 refine Wp.skip ?_
 refine Wp.seq ?_
 refine Wp.region ?_
 refine LWp.o 4 (B true) ?_
 refine LWp.nil ?_
 cases h
 exact Wp.ret ⟨.inr rfl, _, _, rfl, rfl⟩
def w_eqBlockS_H1 (xA : List Block) (xB : List Block) (z1 : Int) : St := mkSt [(0, (.one (.sl false 60 3 (encs (c60 false) xA)))), (1, (.one (.sl false 60 3 (encs (c60 false) xB)))), (5, (I z1))] []
def w_eqBlockS_H2  : St := mkSt [] []
set_option maxRecDepth 100000 in
theorem w_eqBlockS_t (xA : List Block) (xB : List Block) (r : Bool) (h : w_eqBlockS xA xB = some r) : Gives Try.prog 21 [.sv (.one (.sl false 60 3 (encs (c60 false) xA))), .sv (.one (.sl false 60 3 (encs (c60 false) xB)))] (B r) (List.replicate 2 .gone) := by
 unfold w_eqBlockS at h
 refine gives_of Try.func21 rfl ?_
 rw [Try.ntmps21]
 refine Wp.seq ?_
 refine Wp.region ?_
 refine LWp.o 4 (B false) ?_
 refine LWp.nil ?_
 refine Wp.seq ?_
 refine Wp.seq ?_
 refine Wp.region ?_
 refine LWp.o 6 (.one (.sl false 60 3 (encs (c60 false) xA))) ?_
 refine LWp.o 7 (I (ln xA)) ?_ (st_pure (p_ln (k60 false) xA))
 refine LWp.o 8 (.one (.sl false 60 3 (encs (c60 false) xB))) ?_
 refine LWp.o 9 (I (ln xB)) ?_ (st_pure (p_ln (k60 false) xB))
 refine LWp.o 10 (B ((ln xA) != (ln xB))) ?_
 refine LWp.nil ?_
 refine Wp.c h (fun h => ?_) (fun h => ?_)
 · refine Wp.seq ?_
   refine Wp.region ?_
   refine LWp.o 4 (B false) ?_
   refine LWp.nil ?_
   cases h
   exact Wp.ret ⟨.inr rfl, _, _, rfl, rfl⟩
 refine Wp.skip ?_
 refine Wp.seq ?_
 refine Wp.seq ?_
 refine Wp.region ?_
 refine LWp.o 5 (I 0) ?_
 refine LWp.nil ?_
 refine Wp.l2 h [0, 1, 5] [] (fun s => (w_eqBlockS_H1 xA xB s)) [] [] (fun _ => w_eqBlockS_H2) ⟨rfl, rfl⟩ ?_ ?_
 · rintro yI1 o (h : w_eqBlockS_b1 xA xB yI1 = some o) hk1
   unfold w_eqBlockS_b1 at h
   change Wp _ _ _ (w_eqBlockS_H1 xA xB yI1) _
   refine Wp.seq ?_
   refine Wp.seq ?_
   refine Wp.region ?_
   refine LWp.o 11 (I yI1) ?_
   refine LWp.o 12 (.one (.sl false 60 3 (encs (c60 false) xA))) ?_
   refine LWp.o 13 (I (ln xA)) ?_ (st_pure (p_ln (k60 false) xA))
   refine LWp.o 14 (B (decide (yI1 < (ln xA)))) ?_
   refine LWp.nil ?_
   refine Wp.c h (fun h => ?_) (fun h => ?_)
   · refine Wp.skip ?_
     refine Wp.seq ?_
     refine Wp.block ?_
     refine Wp.seq ?_
     refine Wp.regionT 8 mixed (by decide +kernel) ?_
     refine SWp.o 17 (.one (.sl false 60 3 (encs (c60 false) xA))) ?_
     refine SWp.o 18 (I yI1) ?_
     refine SWp.p h 19 (fun _ => (.one (.ptr (.slot 17) 1 [0] (Int.toNat yI1 * 3 + 0)))) ?_ (fun x1 gx1 => sl_pure (p_ix (k60 false) (.slot 17) [] 0 gx1))
     intro x1 gx1 h
     refine SWp.o 20 (.agg [.bool x1.Bad, .int .i64 x1.Wear, .sl false 57 2 (encs c57 x1.Leaves)]) ?_ (sl_pure (p_le (k60 false) (.slot 17) [0] gx1))
     refine SWp.o 21 (.one (.sl false 60 3 (encs (c60 false) xB))) ?_
     refine SWp.o 22 (I yI1) ?_
     refine SWp.p h 23 (fun _ => (.one (.ptr (.slot 21) 1 [0] (Int.toNat yI1 * 3 + 0)))) ?_ (fun x2 gx2 => sl_pure (p_ix (k60 false) (.slot 21) [] 0 gx2))
     intro x2 gx2 h
     refine SWp.o 24 (.agg [.bool x2.Bad, .int .i64 x2.Wear, .sl false 57 2 (encs c57 x2.Leaves)]) ?_ (sl_pure (p_le (k60 false) (.slot 21) [0] gx2))
     refine SWp.nil ?_
     refine LWp.cl h 25 (fun v1 => (B v1)) rfl (l := [.sv (.agg [.bool x1.Bad, .int .i64 x1.Wear, .sl false 57 2 (encs c57 x1.Leaves)]), .sv (.agg [.bool x2.Bad, .int .i64 x2.Wear, .sl false 57 2 (encs c57 x2.Leaves)])]) rfl (fun v hv => w_eqBlock_t x1 x2 v hv) (.inl rfl) ?_
     intro v1 gv1 h
     refine LWp.o 26 (B (!v1)) ?_
     refine LWp.nil ?_
     refine Wp.c h (fun h => ?_) (fun h => ?_)
     · refine Wp.seq ?_
       refine Wp.region ?_
       refine LWp.o 4 (B false) ?_
       refine LWp.nil ?_
       cases h
       replace h : some _ = some _ := hk1 _ rfl
       cases h
       exact Wp.ret ⟨.inr rfl, _, _, rfl, rfl⟩
     refine Wp.skip ?_
     refine Wp.region ?_
     refine LWp.o 15 (I yI1) ?_
     refine LWp.o 16 (I (ad yI1 1)) ?_
     refine LWp.o 5 (I (ad yI1 1)) ?_
     refine LWp.nil ?_
     cases h
     exact ⟨_, rfl, rfl, rfl⟩
   refine Wp.exit ?_
   cases h
   exact ⟨_, rfl, rfl, rfl⟩
 intro v2 h E hE
 refine nt_wp hE ?_
 change Wp _ _ _ w_eqBlockS_H2 _
 refine Wp.seq ?_
 refine Wp.region ?_
 refine LWp.o 4 (B true) ?_
 refine LWp.nil ?_
 cases h
 exact Wp.ret ⟨.inr rfl, _, _, rfl, rfl⟩
set_option maxRecDepth 100000 in
theorem w_eqFlash_t (xA : Flash) (xB : Flash) (r : Bool) (h : w_eqFlash xA xB = some r) : Gives Try.prog 9 [.sv (.agg [.sl false 60 3 (encs (c60 false) xA.Blocks)]), .sv (.agg [.sl false 60 3 (encs (c60 false) xB.Blocks)])] (B r) (List.replicate 2 .gone) := by
 unfold w_eqFlash at h
 refine gives_of Try.func9 rfl ?_
 rw [Try.ntmps9]
 refine Wp.seq ?_
 refine Wp.region ?_
 refine LWp.b [] 2 [.sl false 60 3 (encs (c60 false) xA.Blocks)] ?_
 refine LWp.b [] 3 [.sl false 60 3 (encs (c60 false) xB.Blocks)] ?_
 refine LWp.o 4 (B false) ?_
 refine LWp.nil ?_
 refine Wp.seq ?_
 refine Wp.seq ?_
 refine Wp.region ?_
 refine LWp.o 5 (.one (.ptr (.box 2) 1 [] 0)) ?_
 refine LWp.o 6 (.one (.sl false 60 3 (encs (c60 false) xA.Blocks))) ?_
 refine LWp.o 7 (.one (.ptr (.box 3) 1 [] 0)) ?_
 refine LWp.o 8 (.one (.sl false 60 3 (encs (c60 false) xB.Blocks))) ?_
 refine LWp.cl h 9 (fun v1 => (B v1)) rfl (l := [.sv (.one (.sl false 60 3 (encs (c60 false) xA.Blocks))), .sv (.one (.sl false 60 3 (encs (c60 false) xB.Blocks)))]) rfl (fun v hv => w_eqBlockS_t xA.Blocks xB.Blocks v hv) (.inl rfl) ?_
 intro v1 gv1 h
 refine LWp.o 10 (B (!v1)) ?_
 refine LWp.nil ?_
 refine Wp.c h (fun h => ?_) (fun h => ?_)
 · refine Wp.seq ?_
   refine Wp.region ?_
   refine LWp.o 4 (B false) ?_
   refine LWp.nil ?_
   cases h
   exact Wp.ret ⟨.inr rfl, _, _, rfl, rfl⟩
 refine Wp.skip ?_
 refine Wp.seq ?_
 refine Wp.region ?_
 refine LWp.o 4 (B true) ?_
 refine LWp.nil ?_
 cases h
 exact Wp.ret ⟨.inr rfl, _, _, rfl, rfl⟩
set_option maxRecDepth 100000 in
theorem w_FnExactShowFlash_t (xAF : Flash) (r : Bool) (h : w_FnExactShowFlash xAF = some r) : Gives Try.prog 3 [.sv (.agg [.sl false 78 3 (encs (c78 false) xAF.Blocks)])] (B r) (List.replicate 1 .gone) := by
 unfold w_FnExactShowFlash at h
 refine gives_of Try.func3 rfl ?_
 rw [Try.ntmps3]
 refine Wp.seq ?_
 refine Wp.region ?_
 refine LWp.b [] 1 [.sl false 78 3 (encs (c78 false) xAF.Blocks)] ?_
 refine LWp.o 2 (B false) ?_
 refine LWp.nil ?_
 refine Wp.seq ?_
 refine Wp.region ?_
 refine LWp.o 3 (I 1048576) ?_
 refine LWp.nil ?_
 refine Wp.seq ?_
 refine Wp.region ?_
 refine LWp.o 7 (.agg [.sl false 78 3 (encs (c78 false) xAF.Blocks)]) ?_
 refine LWp.o 8 (I 1048576) ?_
 refine LWp.cl h 9 (fun v1 => (I v1)) rfl (l := [.sv (.agg [.sl false 78 3 (encs (c78 false) xAF.Blocks)]), .sv (.one (.int .i64 1048576))]) rfl (fun v hv => w_szFlash_t xAF 1048576 v hv) (.inl rfl) ?_
 intro v1 gv1 h
 refine LWp.o 3 (I v1) ?_
 refine LWp.nil ?_
 refine Wp.seq ?_
 refine Wp.seq ?_
 refine Wp.region ?_
 refine LWp.o 10 (I v1) ?_
 refine LWp.o 11 (B (decide (v1 < 0))) ?_
 refine LWp.nil ?_
 refine Wp.c h (fun h => ?_) (fun h => ?_)
 · refine Wp.seq ?_
   refine Wp.region ?_
   refine LWp.o 2 (B true) ?_
   refine LWp.nil ?_
   cases h
   exact Wp.ret ⟨.inr rfl, _, _, rfl, rfl⟩
 refine Wp.skip ?_
 refine Wp.seq ?_
 refine Wp.region ?_
 refine LWp.o 12 (.agg [.sl false 78 3 (encs (c78 false) xAF.Blocks)]) ?_
 refine LWp.cl h 13 (fun v2 => (.agg [.sl true 60 3 (encs (c60 true) v2.Blocks)])) rfl (l := [.sv (.agg [.sl false 78 3 (encs (c78 false) xAF.Blocks)])]) rfl (fun v hv => w_toFlash_t xAF v hv) (.inl rfl) ?_
 intro v2 gv2 h
 refine LWp.cl h 14 (fun v3 => (Y v3)) rfl (l := [.sv (.agg [.sl false 60 3 (shares (encs (c60 true) v2.Blocks))])]) rfl (fun v hv => cg (l := [.sv (.agg [.sl false 60 3 (shares (encs (c60 true) v2.Blocks))])]) (by simp only [sh60]) (s_ShowFlash_t v2 v hv)) (.inr (fun v => rfl)) ?_
 intro v3 gv3 h
 refine LWp.o 4 (Y v3) ?_
 refine LWp.nil ?_
 refine Wp.seq ?_
 refine Wp.region ?_
 refine LWp.o 15 (.agg [.sl false 78 3 (encs (c78 false) xAF.Blocks)]) ?_
 refine LWp.cl h 16 (fun v4 => (.agg [.sl true 60 3 (encs (c60 true) v4.Blocks)])) rfl (l := [.sv (.agg [.sl false 78 3 (encs (c78 false) xAF.Blocks)])]) rfl (fun v hv => w_toFlash_t xAF v hv) (.inl rfl) ?_
 intro v4 gv4 h
 refine LWp.b [] 5 [.sl true 60 3 (encs (c60 true) [])] ?_
 refine LWp.sb [(.slot 16, [.junk])] (.box 5) [.sl true 60 3 (encs (c60 true) v4.Blocks)] ?_
 refine LWp.nil ?_
 refine Wp.seq ?_
 refine Wp.region ?_
 refine LWp.o 17 (.agg [.view (.box 5) 2 [] 0]) ?_
 refine LWp.cl h 18 (fun v5 => (Y v5)) rfl (l := [.sv (.agg [.sl false 60 3 (shares (encs (c60 true) v4.Blocks))])]) rfl (fun v hv => cg (l := [.sv (.agg [.sl false 60 3 (shares (encs (c60 true) v4.Blocks))])]) (by simp only [sh60]) (i_ShowFlash_t v4 v hv)) (.inr (fun v => rfl)) ?_
 intro v5 gv5 h
 refine LWp.o 6 (Y v5) ?_
 refine LWp.nil ?_
 refine Wp.seq ?_
 refine Wp.seq ?_
 refine Wp.region ?_
 refine LWp.o 19 (Y v5) ?_
 refine LWp.o 20 (Y v3) ?_
 refine LWp.o 21 (B (!(seq v5 v3))) ?_
 refine LWp.nil ?_
 refine Wp.c h (fun h => ?_) (fun h => ?_)
 · refine Wp.seq ?_
   refine Wp.region ?_
   refine LWp.o 2 (B false) ?_
   refine LWp.nil ?_
   cases h
   exact Wp.ret ⟨.inr rfl, _, _, rfl, rfl⟩
 refine Wp.skip ?_
 refine Wp.seq ?_
 refine Wp.seq ?_
 refine Wp.regionK 5 [] mixed (fun c E h => by rcases h with ⟨h | h, _⟩ <;> cases h) ?_
 refine KWp.o 5 0 22 (.agg [.view (.box 5) 2 [] 0]) ?_
 refine KWp.o 5 1 23 (.agg [.sl false 78 3 (encs (c78 false) xAF.Blocks)]) ?_
 refine KWp.w1 2 ?_
 refine KOp.cl h 2 24 (fun v6 => (.agg [.sl true 60 3 (encs (c60 true) v6.Blocks)])) rfl rfl (l := [.sv (.agg [.sl false 78 3 (encs (c78 false) xAF.Blocks)])]) rfl (fun v hv => w_toFlash_t xAF v hv) (.inl rfl) ?_
 intro v6 gv6 h
 refine KWp.w1 3 ?_
 refine KOp.cl h 3 25 (fun v7 => (B v7)) rfl rfl (l := [.sv (.agg [.sl false 60 3 (shares (encs (c60 true) v4.Blocks))]), .sv (.agg [.sl false 60 3 (shares (encs (c60 true) v6.Blocks))])]) rfl (fun v hv => cg (l := [.sv (.agg [.sl false 60 3 (shares (encs (c60 true) v4.Blocks))]), .sv (.agg [.sl false 60 3 (shares (encs (c60 true) v6.Blocks))])]) (by simp only [sh60]) (w_eqFlash_t v4 v6 v hv)) (.inr (fun v => rfl)) ?_
 intro v7 gv7 h
 refine KWp.o 5 4 26 (B (!v7)) ?_
 refine KWp.done ?_
 refine Wp.c h (fun h => ?_) (fun h => ?_)
 · refine Wp.seq ?_
   refine Wp.region ?_
   refine LWp.o 2 (B false) ?_
   refine LWp.nil ?_
   cases h
   exact Wp.ret ⟨.inr rfl, _, _, rfl, rfl⟩
 refine Wp.skip ?_
 refine Wp.seq ?_
 refine Wp.region ?_
 refine LWp.o 2 (B true) ?_
 refine LWp.nil ?_
 cases h
 exact Wp.ret ⟨.inr rfl, _, _, rfl, rfl⟩
end Go.TI
