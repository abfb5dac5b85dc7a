/- That they compute it. No condition. -/
import Derived.Test.YtcjepealfaimfaaGreatDBW1
namespace Go.TI
set_option maxRecDepth 100000
open Go Go.Proofs
set_option linter.unusedVariables false
set_option linter.unusedSimpArgs false

def i_ReadPage_H1 (v1 : ByteArray × Bool) (z1 : Bool) : St := mkSt [(2, (.one (.ptr (.box 2) 0 [] 0))), (4, (Y v1.1)), (23, (B z1))] [(.box 2, [.int .i64 0, .int .i64 0, .int .i64 0, .int .i64 0, .int .i64 0, .str (bs [])])]
def i_ReadPage_H2 (v1 : ByteArray × Bool) (z2 : Int) (z3 : Int) (z4 : Int) (z5 : Int) (z6 : Int) (z7 : Int) : St := mkSt [(2, (.one (.ptr (.box 2) 0 [] 0))), (4, (Y v1.1)), (6, (.one (.ptr (.box 6) 0 [] 0))), (7, (I z2)), (25, (I z3))] [(.box 2, [.int .i64 0, .int .i64 0, .int .i64 0, .int .i64 0, .int .i64 0, .str (bs [])]), (.box 6, [.int .i64 z4, .int .i64 z5, .int .i64 z6, .int .i64 z7])]
def i_ReadPage_H3 (v1 : ByteArray × Bool) (z8 : Int) (z9 : Int) (z10 : Int) (z11 : Int) (z12 : Int) : St := mkSt [(2, (.one (.ptr (.box 2) 0 [] 0))), (4, (Y v1.1)), (6, (.one (.ptr (.box 6) 0 [] 0))), (7, (I z8))] [(.box 2, [.int .i64 0, .int .i64 0, .int .i64 0, .int .i64 0, .int .i64 0, .str (bs [])]), (.box 6, [.int .i64 z9, .int .i64 z10, .int .i64 z11, .int .i64 z12])]
theorem i_ReadPage_t (xT : ByteArray) (r : Page × Bool) (h : i_ReadPage xT = some r) : Gives Tryz.prog 158 [.sv (Y xT)] (.tup [(.agg [.int .i64 r.1.Kind, .int .i64 r.1.Seq, .int .i64 r.1.Tx, .int .i64 r.1.Part, .int .i64 r.1.Count, .str r.1.Text]), (B r.2)]) (List.replicate 1 .gone) := by
 unfold i_ReadPage at h
 refine gives_of Tryz.func158 rfl ?_
 rw [Tryz.ntmps158]
 refine Wp.seq (Wp.region ?_)
 refine LWp.b [] 2 [.int .i64 0, .int .i64 0, .int .i64 0, .int .i64 0, .int .i64 0, .str (bs [])] ?_
 refine LWp.o 3 (B false) ?_
 refine LWp.nil ?_
 refine Wp.seq (Wp.region ?_)
 refine LWp.o 14 (Y xT) ?_
 refine LWp.cl h 15 (fun v1 => (.tup [(Y v1.1), (B v1.2)])) rfl (l := [.sv (.one (.str xT))]) rfl (fun v hv => i_Unsealed_t xT v hv) (.inl rfl) ?_
 intro v1 gv1 h
 refine LWp.mt 15 13 (.tup [(Y v1.1), (B v1.2)]) ?_
 refine LWp.e 13 0 16 (Y v1.1) ?_
 refine LWp.e 13 1 17 (B v1.2) ?_
 refine LWp.o 4 (Y v1.1) ?_
 refine LWp.o 5 (B v1.2) ?_
 refine LWp.nil ?_
 refine Wp.seq ?_
 refine Wp.seq ?_
 refine Wp.j1 h [2, 4, 23] [.box 2] (fun a => (i_ReadPage_H1 v1 a)) ?_ ?_
 · intro a h
   refine Wp.region ?_
   refine LWp.o 18 (B v1.2) ?_
   refine LWp.o 19 (B (!v1.2)) ?_
   refine LWp.o 20 (B (!v1.2)) ?_
   refine LWp.sp h 20 (fun h => ?_) (fun h => ?_)
   · refine LWp.sh 21 ?_
     refine LWp.sh 22 ?_
     refine LWp.o 23 (B true) ?_
     refine LWp.nil ?_
     cases h
     exact ⟨_, rfl, rfl, rfl⟩
   refine LWp.o 21 (Y v1.1) ?_
   refine LWp.o 22 (B (seq v1.1 (bs []))) ?_
   refine LWp.o 23 (B (seq v1.1 (bs []))) ?_
   refine LWp.nil ?_
   cases h
   exact ⟨_, rfl, rfl, rfl⟩
 intro j1 h E hE
 refine nt_wp hE ?_
 change Wp _ _ _ (i_ReadPage_H1 v1 j1) _
 refine Wp.c h (fun h => ?_) (fun h => ?_)
 · refine Wp.seq (Wp.region ?_)
   refine LWp.o 24 (.agg [.int .i64 0, .int .i64 0, .int .i64 0, .int .i64 0, .int .i64 0, .str (bs [])]) ?_
   refine LWp.s [] (.box 2) [.int .i64 0, .int .i64 0, .int .i64 0, .int .i64 0, .int .i64 0, .str (bs [])] ?_
   refine LWp.o 3 (B false) ?_
   refine LWp.nil ?_
   cases h
   exact Wp.ret ⟨.inr rfl, _, _, rfl, rfl⟩
 refine Wp.skip ?_
 refine Wp.seq (Wp.region ?_)
 refine LWp.b [] 6 [.int .i64 0, .int .i64 0, .int .i64 0, .int .i64 0] ?_
 refine LWp.nil ?_
 refine Wp.seq (Wp.region ?_)
 refine LWp.o 7 (I 1) ?_
 refine LWp.nil ?_
 refine Wp.seq ?_
 refine Wp.seq (Wp.region ?_)
 refine LWp.o 25 (I 0) ?_
 refine LWp.nil ?_
 refine Wp.l2 h [2, 4, 6, 7, 25] [.box 2, .box 6] (fun s => (i_ReadPage_H2 v1 s.1 s.2.1 s.2.2.1 s.2.2.2.1 s.2.2.2.2.1 s.2.2.2.2.2)) [2, 4, 6, 7] [.box 2, .box 6] (fun s => (i_ReadPage_H3 v1 s.1 s.2.1 s.2.2.1 s.2.2.2.1 s.2.2.2.2)) ⟨rfl, rfl⟩ ?_ ?_
 · rintro ⟨yAt1, y1, yL01, yL11, yL21, yL31⟩ o (h : i_ReadPage_b1 v1 yAt1 y1 yL01 yL11 yL21 yL31 = some o) hk1
   unfold i_ReadPage_b1 at h
   change Wp _ _ _ (i_ReadPage_H2 v1 yAt1 y1 yL01 yL11 yL21 yL31) _
   refine Wp.seq (Wp.region ?_)
   refine LWp.o 26 (B (decide (y1 < 4))) ?_
   refine LWp.nil ?_
   refine Wp.seq ?_
   refine Wp.c h (fun h => ?_) (fun h => ?_)
   · refine Wp.skip ?_
     refine Wp.seq ?_
     refine Wp.block ?_
     refine Wp.seq (Wp.region ?_)
     refine LWp.o 27 (I y1) ?_
     refine LWp.o 8 (I y1) ?_
     refine LWp.nil ?_
     refine Wp.seq (Wp.region ?_)
     refine LWp.o 29 (Y v1.1) ?_
     refine LWp.o 30 (I yAt1) ?_
     refine LWp.cl h 31 (fun v2 => (.tup [(I v2.1), (I v2.2.1), (B v2.2.2)])) rfl (l := [.sv (.one (.str v1.1)), .sv (.one (.int .i64 yAt1))]) rfl (fun v hv => i_ReadVar_t v1.1 yAt1 v hv) (.inl rfl) ?_
     intro v2 gv2 h
     refine LWp.mt 31 28 (.tup [(I v2.1), (I v2.2.1), (B v2.2.2)]) ?_
     refine LWp.e 28 0 32 (I v2.1) ?_
     refine LWp.e 28 1 33 (I v2.2.1) ?_
     refine LWp.e 28 2 34 (B v2.2.2) ?_
     refine LWp.o 9 (I v2.1) ?_
     refine LWp.o 10 (I v2.2.1) ?_
     refine LWp.o 11 (B v2.2.2) ?_
     refine LWp.nil ?_
     refine Wp.seq ?_
     refine Wp.seq (Wp.region ?_)
     refine LWp.o 35 (B v2.2.2) ?_
     refine LWp.o 36 (B (!v2.2.2)) ?_
     refine LWp.nil ?_
     refine Wp.c h (fun h => ?_) (fun h => ?_)
     · refine Wp.seq (Wp.region ?_)
       refine LWp.o 37 (.agg [.int .i64 0, .int .i64 0, .int .i64 0, .int .i64 0, .int .i64 0, .str (bs [])]) ?_
       refine LWp.s [] (.box 2) [.int .i64 0, .int .i64 0, .int .i64 0, .int .i64 0, .int .i64 0, .str (bs [])] ?_
       refine LWp.o 3 (B false) ?_
       refine LWp.nil ?_
       cases h
       replace h : some _ = some _ := hk1 _ rfl
       cases h
       exact Wp.ret ⟨.inr rfl, _, _, rfl, rfl⟩
     refine Wp.skip ?_
     refine Wp.region ?_
     refine LWp.o 38 (I y1) ?_
     refine LWp.o 39 (I v2.1) ?_
     refine LWp.o 40 (I v2.2.1) ?_
     refine bsplit h (fun hb h => ?_) (fun h => ?_)
     · refine LWp.o 41 (.one (.ptr (.box 6) 0 [] 0)) ?_ (st_pure (p_xa (m := 0) (.box 6) [] 0 (eq_of_beq hb)))
       refine LWp.s [] (.box 6) [.int .i64 v2.1, .int .i64 yL11, .int .i64 yL21, .int .i64 yL31] ?_
       refine LWp.o 7 (I v2.2.1) ?_
       refine LWp.nil ?_
       refine Wp.region ?_
       refine LWp.o 42 (I (ad y1 1)) ?_
       refine LWp.o 25 (I (ad y1 1)) ?_
       refine LWp.nil ?_
       cases h
       exact ⟨_, rfl, rfl, rfl⟩
     refine bsplit h (fun hb h => ?_) (fun h => ?_)
     · refine LWp.o 41 (.one (.ptr (.box 6) 0 [] 1)) ?_ (st_pure (p_xa (m := 1) (.box 6) [] 0 (eq_of_beq hb)))
       refine LWp.s [] (.box 6) [.int .i64 yL01, .int .i64 v2.1, .int .i64 yL21, .int .i64 yL31] ?_
       refine LWp.o 7 (I v2.2.1) ?_
       refine LWp.nil ?_
       refine Wp.region ?_
       refine LWp.o 42 (I (ad y1 1)) ?_
       refine LWp.o 25 (I (ad y1 1)) ?_
       refine LWp.nil ?_
       cases h
       exact ⟨_, rfl, rfl, rfl⟩
     refine bsplit h (fun hb h => ?_) (fun h => ?_)
     · refine LWp.o 41 (.one (.ptr (.box 6) 0 [] 2)) ?_ (st_pure (p_xa (m := 2) (.box 6) [] 0 (eq_of_beq hb)))
       refine LWp.s [] (.box 6) [.int .i64 yL01, .int .i64 yL11, .int .i64 v2.1, .int .i64 yL31] ?_
       refine LWp.o 7 (I v2.2.1) ?_
       refine LWp.nil ?_
       refine Wp.region ?_
       refine LWp.o 42 (I (ad y1 1)) ?_
       refine LWp.o 25 (I (ad y1 1)) ?_
       refine LWp.nil ?_
       cases h
       exact ⟨_, rfl, rfl, rfl⟩
     refine bsplit h (fun hb h => ?_) (fun h => ?_)
     · refine LWp.o 41 (.one (.ptr (.box 6) 0 [] 3)) ?_ (st_pure (p_xa (m := 3) (.box 6) [] 0 (eq_of_beq hb)))
       refine LWp.s [] (.box 6) [.int .i64 yL01, .int .i64 yL11, .int .i64 yL21, .int .i64 v2.1] ?_
       refine LWp.o 7 (I v2.2.1) ?_
       refine LWp.nil ?_
       refine Wp.region ?_
       refine LWp.o 42 (I (ad y1 1)) ?_
       refine LWp.o 25 (I (ad y1 1)) ?_
       refine LWp.nil ?_
       cases h
       exact ⟨_, rfl, rfl, rfl⟩
     cases h
   refine Wp.exit ?_
   cases h
   exact ⟨_, rfl, rfl, rfl⟩
 intro v3 h E hE
 refine nt_wp hE ?_
 change Wp _ _ _ (i_ReadPage_H3 v1 v3.1 v3.2.1 v3.2.2.1 v3.2.2.2.1 v3.2.2.2.2) _
 refine Wp.seq ?_
 refine Wp.regionK 17 [16] mixed (fun c E h => by rcases h with ⟨h | h, _⟩ <;> cases h) ?_
 refine KWp.o 17 0 43 (Y v1.1) ?_
 refine KWp.p h 17 1 44 (fun x1 => (.one (.int .u8 x1))) ?_ rfl (fun x1 gx1 => sl_pure (p_sx gx1))
 intro x1 gx1 h
 refine KWp.o 17 2 45 (I (IntKind.i64.wrap x1)) ?_
 refine KWp.o 17 3 46 (.one (.ptr (.box 6) 0 [] 0)) ?_ rfl (sl_pure (p_xa (m := 0) (.box 6) [] 0 rfl))
 refine KWp.o 17 4 47 (I v3.2.1) ?_
 refine KWp.o 17 5 48 (.one (.ptr (.box 6) 0 [] 1)) ?_ rfl (sl_pure (p_xa (m := 1) (.box 6) [] 0 rfl))
 refine KWp.o 17 6 49 (I v3.2.2.1) ?_
 refine KWp.o 17 7 50 (.one (.ptr (.box 6) 0 [] 2)) ?_ rfl (sl_pure (p_xa (m := 2) (.box 6) [] 0 rfl))
 refine KWp.o 17 8 51 (I v3.2.2.2.1) ?_
 refine KWp.o 17 9 52 (.one (.ptr (.box 6) 0 [] 3)) ?_ rfl (sl_pure (p_xa (m := 3) (.box 6) [] 0 rfl))
 refine KWp.o 17 10 53 (I v3.2.2.2.2) ?_
 refine KWp.o 17 11 54 (Y v1.1) ?_
 refine KWp.o 17 12 55 (I v3.1) ?_
 refine KWp.p h 17 13 56 (fun x2 => (Y x2)) ?_ rfl (fun x2 gx2 => sl_pure (p_sub gx2))
 intro x2 gx2 h
 refine KWp.o 17 14 57 (.agg [.int .i64 (IntKind.i64.wrap x1), .int .i64 v3.2.1, .int .i64 v3.2.2.1, .int .i64 v3.2.2.2.1, .int .i64 v3.2.2.2.2, .str x2]) ?_
 refine KWp.w1 15 ?_
 refine KOp.b 15 [] 12 [.int .i64 0, .int .i64 0, .int .i64 0, .int .i64 0, .int .i64 0, .str (bs [])] ?_
 refine KWp.w1 16 ?_
 refine KOp.s 16 [] (.box 12) [.int .i64 (IntKind.i64.wrap x1), .int .i64 v3.2.1, .int .i64 v3.2.2.1, .int .i64 v3.2.2.2.1, .int .i64 v3.2.2.2.2, .str x2] ?_
 refine KWp.done ?_
 refine Wp.seq ?_
 refine Wp.seq (Wp.region ?_)
 refine LWp.o 58 (.agg [.int .i64 (IntKind.i64.wrap x1), .int .i64 v3.2.1, .int .i64 v3.2.2.1, .int .i64 v3.2.2.2.1, .int .i64 v3.2.2.2.2, .str x2]) ?_
 refine LWp.cl h 59 (fun v4 => (B v4)) rfl (l := [.sv (.agg [.int .i64 (IntKind.i64.wrap x1), .int .i64 v3.2.1, .int .i64 v3.2.2.1, .int .i64 v3.2.2.2.1, .int .i64 v3.2.2.2.2, .str x2])]) rfl (fun v hv => i_PageOk_t (Page.mk (IntKind.i64.wrap x1) v3.2.1 v3.2.2.1 v3.2.2.2.1 v3.2.2.2.2 x2) v hv) (.inl rfl) ?_
 intro v4 gv4 h
 refine LWp.o 60 (B (!v4)) ?_
 refine LWp.nil ?_
 refine Wp.c h (fun h => ?_) (fun h => ?_)
 · refine Wp.seq (Wp.region ?_)
   refine LWp.o 61 (.agg [.int .i64 0, .int .i64 0, .int .i64 0, .int .i64 0, .int .i64 0, .str (bs [])]) ?_
   refine LWp.s [] (.box 2) [.int .i64 0, .int .i64 0, .int .i64 0, .int .i64 0, .int .i64 0, .str (bs [])] ?_
   refine LWp.o 3 (B false) ?_
   refine LWp.nil ?_
   cases h
   exact Wp.ret ⟨.inr rfl, _, _, rfl, rfl⟩
 refine Wp.skip ?_
 refine Wp.seq (Wp.region ?_)
 refine LWp.o 62 (.agg [.int .i64 (IntKind.i64.wrap x1), .int .i64 v3.2.1, .int .i64 v3.2.2.1, .int .i64 v3.2.2.2.1, .int .i64 v3.2.2.2.2, .str x2]) ?_
 refine LWp.s [] (.box 2) [.int .i64 (IntKind.i64.wrap x1), .int .i64 v3.2.1, .int .i64 v3.2.2.1, .int .i64 v3.2.2.2.1, .int .i64 v3.2.2.2.2, .str x2] ?_
 refine LWp.o 3 (B true) ?_
 refine LWp.nil ?_
 cases h
 exact Wp.ret ⟨.inr rfl, _, _, rfl, rfl⟩
theorem fl158 : ∀ x, (c158 x).all TV.flat = true := fun _ => rfl
theorem i_ScanAll_1_t (n b g cap : Nat) (T : TypeId) (hb : b ≠ g) : LessOk Tryz.prog (rowAmb n b g cap 158 T 8 c158) (ltk i_ScanAll_1) 160 #[.pointer (some ⟨b, 0, none⟩)] := by
 refine lessOk_of Tryz.func160 rfl rfl ?_
 rintro l i j x y hx hy ⟨w, hI⟩
 have hn : l.length = n := hI.len
 have hi := gi_lt hx
 have hj := gi_lt hy
 refine gives_rd Tryz.func160 rfl rfl ?_
 rw [Tryz.ntmps160]
 refine Wp.seq (Wp.region ?_)
 refine LWp.o 5 (B false) ?_
 refine LWp.nil ?_
 refine Wp.seq ?_
 refine Wp.regionS mixed (by decide +kernel) ?_
 refine SWp.ld 6 (.hdr ⟨g, 0, none⟩ n cap) (.slice (some ⟨g, 0, none⟩) n cap) ?_ rfl rd_box (fun w => by simp [rep]) rfl rfl rfl
 refine SWp.o 7 (I i) ?_
 refine SWp.ix (n := n) 8 (m := i) ?_ rfl Tryz.underlying107 rfl hi.1 (by omega) (by decide)
 refine SWp.fa (f := 2) 9 ?_ rfl Tryz.underlying158 rfl (by decide)
 refine SWp.fa (f := 1) 10 ?_ rfl Tryz.underlying85 rfl (by decide)
 refine SWp.ld (x := 10) 11 (.int .i64 (i_ScanAll_1 x)) (.int .i64 (i_ScanAll_1 x)) ?_ rfl (rd_row (k := 3) (t := .int .i64 (i_ScanAll_1 x)) k158 hx rfl hb (by rw [addr0]; rfl)) (fun w => by simp [rep]) rfl rfl rfl
 refine SWp.ld 12 (.hdr ⟨g, 0, none⟩ n cap) (.slice (some ⟨g, 0, none⟩) n cap) ?_ rfl rd_box (fun w => by simp [rep]) rfl rfl rfl
 refine SWp.o 13 (I j) ?_
 refine SWp.ix (n := n) 14 (m := j) ?_ rfl Tryz.underlying107 rfl hj.1 (by omega) (by decide)
 refine SWp.fa (f := 2) 15 ?_ rfl Tryz.underlying158 rfl (by decide)
 refine SWp.fa (f := 1) 16 ?_ rfl Tryz.underlying85 rfl (by decide)
 refine SWp.ld (x := 16) 17 (.int .i64 (i_ScanAll_1 y)) (.int .i64 (i_ScanAll_1 y)) ?_ rfl (rd_row (k := 3) (t := .int .i64 (i_ScanAll_1 y)) k158 hy rfl hb (by rw [addr0]; rfl)) (fun w => by simp [rep]) rfl rfl rfl
 refine SWp.o 18 (B (decide ((i_ScanAll_1 x) < (i_ScanAll_1 y)))) ?_
 refine SWp.o 5 (B (decide ((i_ScanAll_1 x) < (i_ScanAll_1 y)))) ?_
 refine SWp.nil ?_
 exact Wp.ret ⟨.inr rfl, rfl, _, rfl⟩
theorem i_ScanAll_1_s {l r : List Found} (h : sort_stable_func (ltk i_ScanAll_1) l (ln l) = some r) : SortsAt Tryz.prog 159 107 158 8 c158 160 l r := by
 refine sort_SliceStable_at k158 h Tryz.t107 Tryz.t158 rfl rfl (by kernel_rfl) rfl 25 (fun w => rfl) rfl Tryz.isAgg158 (enters_of Tryz.func160 rfl rfl) ?_ (fun n b g cap T hb => i_ScanAll_1_t n b g cap T hb)
 intro n
 match n with
 | 0 => exact ⟨205, by kernel_rfl, fun h => absurd h (by decide)⟩
 | 1 => exact ⟨206, by kernel_rfl, fun h => absurd h (by decide)⟩
 | n + 2 =>
  have hk : Go.Lib.swapperK (n + 2) Tryz.t158 25 = 9 := rfl
  rw [hk]
  exact ⟨213, by kernel_rfl, fun _ => ⟨by decide, false, fun args W => run_callFunc_extern Tryz.func213 (by kernel_rfl) (by kernel_rfl) (by kernel_rfl) (e := Extern.ReflectliteSwapper.swap false) (by kernel_rfl) args W⟩⟩
def i_ScanAll_H1 (xF : Flash) (z1 : Int) (z2 : List Found) : St := mkSt [(3, (.one (.ptr (.box 3) 0 [] 0))), (11, (.one (.sl false 124 3 (encs (c124 false) xF.Blocks)))), (12, (I (ln xF.Blocks))), (13, (I z1))] [(.box 3, [.sl true 158 8 (encs c158 z2)])]
def i_ScanAll_H2 (z3 : List Found) : St := mkSt [(3, (.one (.ptr (.box 3) 0 [] 0)))] [(.box 3, [.sl true 158 8 (encs c158 z3)])]
def i_ScanAll_H3 (xF : Flash) (y1 : Int) (x1 : Block) (z4 : Int) (z5 : List Found) : St := mkSt [(3, (.one (.ptr (.box 3) 0 [] 0))), (4, (I y1)), (11, (.one (.sl false 124 3 (encs (c124 false) xF.Blocks)))), (12, (I (ln xF.Blocks))), (13, (I y1)), (19, (.one (.sl false 165 2 (encs c165 x1.Leaves)))), (20, (I (ln x1.Leaves))), (21, (I z4))] [(.box 3, [.sl true 158 8 (encs c158 z5)])]
def i_ScanAll_H4 (xF : Flash) (y1 : Int) (z6 : List Found) : St := mkSt [(3, (.one (.ptr (.box 3) 0 [] 0))), (11, (.one (.sl false 124 3 (encs (c124 false) xF.Blocks)))), (12, (I (ln xF.Blocks))), (13, (I y1))] [(.box 3, [.sl true 158 8 (encs c158 z6)])]
def i_ScanAll_H5 (xF : Flash) (y1 : Int) (x1 : Block) (y2 : Int) (yOut02 : List Found) (v1 : Page × Bool) (z7 : Bool) : St := mkSt [(3, (.one (.ptr (.box 3) 0 [] 0))), (4, (I y1)), (6, (I y2)), (8, (.one (.ptr (.box 8) 0 [] 0))), (11, (.one (.sl false 124 3 (encs (c124 false) xF.Blocks)))), (12, (I (ln xF.Blocks))), (13, (I y1)), (19, (.one (.sl false 165 2 (encs c165 x1.Leaves)))), (20, (I (ln x1.Leaves))), (21, (I y2)), (37, (B z7))] [(.box 3, [.sl true 158 8 (encs c158 yOut02)]), (.box 8, [.int .i64 v1.1.Kind, .int .i64 v1.1.Seq, .int .i64 v1.1.Tx, .int .i64 v1.1.Part, .int .i64 v1.1.Count, .str v1.1.Text])]
theorem i_ScanAll_t (xF : Flash) (r : List Found) (h : i_ScanAll xF = some r) : Gives Tryz.prog 111 [.sv (.agg [.sl false 124 3 (encs (c124 false) xF.Blocks)])] (.one (.sl true 158 8 (encs c158 r))) (List.replicate 1 .gone) := by
 unfold i_ScanAll at h
 refine gives_of Tryz.func111 rfl ?_
 rw [Tryz.ntmps111]
 refine Wp.seq (Wp.region ?_)
 refine LWp.b [] 1 [.sl false 124 3 (encs (c124 false) xF.Blocks)] ?_
 refine LWp.o 2 (.one (.sl true 158 8 (encs c158 []))) ?_
 refine LWp.nil ?_
 refine Wp.seq (Wp.region ?_)
 refine LWp.b [] 3 [.sl true 158 8 (encs c158 [])] ?_
 refine LWp.nil ?_
 refine Wp.seq ?_
 refine Wp.seq (Wp.region ?_)
 refine LWp.o 10 (.one (.ptr (.box 1) 1 [] 0)) ?_
 refine LWp.o 11 (.one (.sl false 124 3 (encs (c124 false) xF.Blocks))) ?_
 refine LWp.o 12 (I (ln xF.Blocks)) ?_ (st_pure (p_ln (k124 false) xF.Blocks))
 refine LWp.o 13 (I 0) ?_
 refine LWp.nil ?_
 refine Wp.l1 h [3, 11, 12, 13] [.box 3] (fun s => (i_ScanAll_H1 xF s.1 s.2)) [3] [.box 3] (fun s => (i_ScanAll_H2 s)) ⟨rfl, rfl⟩ ?_ ?_
 · rintro ⟨y1, yOut01⟩ o (h : i_ScanAll_b1 xF y1 yOut01 = some o)
   unfold i_ScanAll_b1 at h
   change Wp _ _ _ (i_ScanAll_H1 xF y1 yOut01) _
   refine Wp.seq (Wp.region ?_)
   refine LWp.o 14 (B (decide (y1 < (ln xF.Blocks)))) ?_
   refine LWp.nil ?_
   refine Wp.seq ?_
   refine Wp.c h (fun h => ?_) (fun h => ?_)
   · refine Wp.skip ?_
     refine Wp.seq ?_
     refine Wp.block ?_
     refine Wp.seq (Wp.region ?_)
     refine LWp.o 15 (I y1) ?_
     refine LWp.p h 16 (fun _ => (.one (.ptr (.slot 11) 0 [0] (Int.toNat y1 * 3 + 0)))) ?_ (fun x1 gx1 => st_pure (p_ix (k124 false) (.slot 11) [] 0 gx1))
     intro x1 gx1 h
     refine LWp.o 17 (.agg [.bool x1.Bad, .int .i64 x1.Wear, .sl false 165 2 (encs c165 x1.Leaves)]) ?_ (st_pure (p_le (k124 false) (.slot 11) [0] gx1))
     refine LWp.b [] 5 [.bool false, .int .i64 0, .sl true 165 2 (encs c165 [])] ?_
     refine LWp.o 4 (I y1) ?_
     refine LWp.sb [] (.box 5) [.bool x1.Bad, .int .i64 x1.Wear, .sl false 165 2 (encs c165 x1.Leaves)] ?_
     refine LWp.nil ?_
     refine Wp.seq (Wp.region ?_)
     refine LWp.o 18 (.one (.ptr (.box 5) 1 [] 2)) ?_
     refine LWp.o 19 (.one (.sl false 165 2 (encs c165 x1.Leaves))) ?_
     refine LWp.o 20 (I (ln x1.Leaves)) ?_ (st_pure (p_ln k165 x1.Leaves))
     refine LWp.o 21 (I 0) ?_
     refine LWp.nil ?_
     refine Wp.l1 h [3, 4, 11, 12, 13, 19, 20, 21] [.box 3] (fun s => (i_ScanAll_H3 xF y1 x1 s.1 s.2)) [3, 11, 12, 13] [.box 3] (fun s => (i_ScanAll_H4 xF y1 s)) ⟨rfl, rfl⟩ ?_ ?_
     · rintro ⟨y2, yOut02⟩ o (h : i_ScanAll_b2 y1 x1 y2 yOut02 = some o)
       unfold i_ScanAll_b2 at h
       change Wp _ _ _ (i_ScanAll_H3 xF y1 x1 y2 yOut02) _
       refine Wp.seq (Wp.region ?_)
       refine LWp.o 22 (B (decide (y2 < (ln x1.Leaves)))) ?_
       refine LWp.nil ?_
       refine Wp.seq ?_
       refine Wp.c h (fun h => ?_) (fun h => ?_)
       · refine Wp.skip ?_
         refine Wp.seq ?_
         refine Wp.block ?_
         refine Wp.seq (Wp.region ?_)
         refine LWp.o 23 (I y2) ?_
         refine LWp.p h 24 (fun _ => (.one (.ptr (.slot 19) 0 [0] (Int.toNat y2 * 2 + 0)))) ?_ (fun x2 gx2 => st_pure (p_ix k165 (.slot 19) [] 0 gx2))
         intro x2 gx2 h
         refine LWp.o 25 (.agg [.int .i64 x2.Is, .str x2.Text]) ?_ (st_pure (p_le k165 (.slot 19) [0] gx2))
         refine LWp.b [] 7 [.int .i64 0, .str (bs [])] ?_
         refine LWp.o 6 (I y2) ?_
         refine LWp.s [] (.box 7) [.int .i64 x2.Is, .str x2.Text] ?_
         refine LWp.nil ?_
         refine Wp.seq (Wp.region ?_)
         refine LWp.o 27 (.one (.ptr (.box 7) 1 [] 1)) ?_
         refine LWp.o 28 (Y x2.Text) ?_
         refine LWp.cl h 29 (fun v1 => (.tup [(.agg [.int .i64 v1.1.Kind, .int .i64 v1.1.Seq, .int .i64 v1.1.Tx, .int .i64 v1.1.Part, .int .i64 v1.1.Count, .str v1.1.Text]), (B v1.2)])) rfl (l := [.sv (.one (.str x2.Text))]) rfl (fun v hv => i_ReadPage_t x2.Text v hv) (.inl rfl) ?_
         intro v1 gv1 h
         refine LWp.mt 29 26 (.tup [(.agg [.int .i64 v1.1.Kind, .int .i64 v1.1.Seq, .int .i64 v1.1.Tx, .int .i64 v1.1.Part, .int .i64 v1.1.Count, .str v1.1.Text]), (B v1.2)]) ?_
         refine LWp.e 26 0 30 (.agg [.int .i64 v1.1.Kind, .int .i64 v1.1.Seq, .int .i64 v1.1.Tx, .int .i64 v1.1.Part, .int .i64 v1.1.Count, .str v1.1.Text]) ?_
         refine LWp.e 26 1 31 (B v1.2) ?_
         refine LWp.b [] 8 [.int .i64 0, .int .i64 0, .int .i64 0, .int .i64 0, .int .i64 0, .str (bs [])] ?_
         refine LWp.s [] (.box 8) [.int .i64 v1.1.Kind, .int .i64 v1.1.Seq, .int .i64 v1.1.Tx, .int .i64 v1.1.Part, .int .i64 v1.1.Count, .str v1.1.Text] ?_
         refine LWp.o 9 (B v1.2) ?_
         refine LWp.nil ?_
         refine Wp.seq ?_
         refine Wp.j1 h [3, 4, 6, 8, 11, 12, 13, 19, 20, 21, 37] [.box 3, .box 8] (fun a => (i_ScanAll_H5 xF y1 x1 y2 yOut02 v1 a)) ?_ ?_
         · intro a h
           refine Wp.region ?_
           refine LWp.o 32 (B v1.2) ?_
           refine LWp.o 33 (B v1.2) ?_
           refine LWp.sp h 33 (fun h => ?_) (fun h => ?_)
           · refine LWp.o 34 (.one (.ptr (.box 7) 1 [] 0)) ?_
             refine LWp.o 35 (I x2.Is) ?_
             refine LWp.o 36 (B (x2.Is == 1)) ?_
             refine LWp.o 37 (B (x2.Is == 1)) ?_
             refine LWp.nil ?_
             cases h
             exact ⟨_, rfl, rfl, rfl⟩
           refine LWp.sh 34 ?_
           refine LWp.sh 35 ?_
           refine LWp.sh 36 ?_
           refine LWp.o 37 (B false) ?_
           refine LWp.nil ?_
           cases h
           exact ⟨_, rfl, rfl, rfl⟩
         intro j1 h E hE
         refine nt_wp hE ?_
         change Wp _ _ _ (i_ScanAll_H5 xF y1 x1 y2 yOut02 v1 j1) _
         refine Wp.c h (fun h => ?_) (fun h => ?_)
         · refine Wp.region ?_
           refine LWp.o 38 (.one (.view (.box 3) 0 [] 0)) ?_
           refine LWp.o 39 (I y1) ?_
           refine LWp.o 40 (I y2) ?_
           refine LWp.o 41 (.agg [.int .i64 v1.1.Kind, .int .i64 v1.1.Seq, .int .i64 v1.1.Tx, .int .i64 v1.1.Part, .int .i64 v1.1.Count, .str v1.1.Text]) ?_
           refine LWp.o 42 (.agg [.int .i64 y1, .int .i64 y2, .int .i64 v1.1.Kind, .int .i64 v1.1.Seq, .int .i64 v1.1.Tx, .int .i64 v1.1.Part, .int .i64 v1.1.Count, .str v1.1.Text]) ?_
           refine LWp.m false [] 43 (.one (.sl true 158 8 (encs c158 [(Found.mk y1 y2 v1.1)]))) ?_
           refine LWp.pm h [(.box 3, [.junk])] 44 (fun q1 => (.one (.sl true 158 8 (encs c158 q1)))) ?_ (fun q1 gq1 => s_apl k158 (fun _ => rfl) [(.box 3, [.junk])] yOut02 gq1)
           intro q1 gq1 h
           refine LWp.s [(.slot 44, [.junk])] (.box 3) [.sl true 158 8 (encs c158 q1)] ?_
           refine LWp.nil ?_
           refine Wp.region ?_
           refine LWp.o 45 (I (ad y2 1)) ?_
           refine LWp.o 21 (I (ad y2 1)) ?_
           refine LWp.nil ?_
           cases h
           exact ⟨_, rfl, rfl, rfl⟩
         refine Wp.skip ?_
         refine Wp.region ?_
         refine LWp.o 45 (I (ad y2 1)) ?_
         refine LWp.o 21 (I (ad y2 1)) ?_
         refine LWp.nil ?_
         cases h
         exact ⟨_, rfl, rfl, rfl⟩
       refine Wp.exit ?_
       cases h
       exact ⟨_, rfl, rfl, rfl⟩
     intro v2 h E hE
     refine nt_wp hE ?_
     change Wp _ _ _ (i_ScanAll_H4 xF y1 v2) _
     refine Wp.region ?_
     refine LWp.o 46 (I (ad y1 1)) ?_
     refine LWp.o 13 (I (ad y1 1)) ?_
     refine LWp.nil ?_
     cases h
     exact ⟨_, rfl, rfl, rfl⟩
   refine Wp.exit ?_
   cases h
   exact ⟨_, rfl, rfl, rfl⟩
 intro v3 h E hE
 refine nt_wp hE ?_
 change Wp _ _ _ (i_ScanAll_H2 v3) _
 refine Wp.seq (Wp.region ?_)
 refine LWp.o 47 (.one (.view (.box 3) 0 [] 0)) ?_
 refine LWp.bd h ?_
 intro v4 gv4 h
 refine LWp.srt (x := 47) (p := 3) (d1 := 48) (d2 := 49) (d3 := 50) (r := .box 3) (i_ScanAll_1_s gv4) ?_ k158 fl158 (hf := ⟨_, Tryz.func159, by decide, rfl⟩)
 refine LWp.nil ?_
 refine Wp.seq (Wp.region ?_)
 refine LWp.o 51 (.one (.view (.box 3) 1 [] 0)) ?_
 refine LWp.m true [(.box 3, [.junk])] 2 (.one (.sl true 158 8 (encs c158 v4))) ?_
 refine LWp.nil ?_
 cases h
 exact Wp.ret ⟨.inr rfl, _, _, rfl, rfl⟩
def i_dataOf_H1 (xChunk : Int) (v1 : List Found) (z1 : Bool) (z2 : Int) (z3 : Int) (z4 : Int) (z5 : Int) (z6 : Int) (z7 : Int) (z8 : Int) (z9 : Int) (z10 : ByteArray) : St := mkSt [(1, (I xChunk)), (4, (.one (.ptr (.box 4) 0 [] 0))), (6, (.one (.ptr (.box 6) 0 [] 0))), (7, (B z1)), (11, (.one (.sl true 158 8 (encs c158 v1)))), (12, (I (ln v1))), (13, (I z2))] [(.box 4, [.int .i64 0, .int .i64 0, .int .i64 0, .int .i64 0, .int .i64 0, .int .i64 0, .int .i64 0, .str (bs [])]), (.box 6, [.int .i64 z3, .int .i64 z4, .int .i64 z5, .int .i64 z6, .int .i64 z7, .int .i64 z8, .int .i64 z9, .str z10])]
def i_dataOf_H2 (z11 : Bool) (z12 : Int) (z13 : Int) (z14 : Int) (z15 : Int) (z16 : Int) (z17 : Int) (z18 : Int) (z19 : ByteArray) : St := mkSt [(4, (.one (.ptr (.box 4) 0 [] 0))), (6, (.one (.ptr (.box 6) 0 [] 0))), (7, (B z11))] [(.box 4, [.int .i64 0, .int .i64 0, .int .i64 0, .int .i64 0, .int .i64 0, .int .i64 0, .int .i64 0, .str (bs [])]), (.box 6, [.int .i64 z12, .int .i64 z13, .int .i64 z14, .int .i64 z15, .int .i64 z16, .int .i64 z17, .int .i64 z18, .str z19])]
def i_dataOf_H3 (xChunk : Int) (v1 : List Found) (yOk1 : Bool) (y1 : Int) (yBest01 : Int) (yBest11 : Int) (yBest21 : Int) (yBest31 : Int) (yBest41 : Int) (yBest51 : Int) (yBest61 : Int) (yBest71 : ByteArray) (x1 : Found) (z20 : Bool) : St := mkSt [(1, (I xChunk)), (4, (.one (.ptr (.box 4) 0 [] 0))), (6, (.one (.ptr (.box 6) 0 [] 0))), (7, (B yOk1)), (9, (.one (.ptr (.box 9) 0 [] 0))), (11, (.one (.sl true 158 8 (encs c158 v1)))), (12, (I (ln v1))), (13, (I y1)), (40, (B z20))] [(.box 4, [.int .i64 0, .int .i64 0, .int .i64 0, .int .i64 0, .int .i64 0, .int .i64 0, .int .i64 0, .str (bs [])]), (.box 6, [.int .i64 yBest01, .int .i64 yBest11, .int .i64 yBest21, .int .i64 yBest31, .int .i64 yBest41, .int .i64 yBest51, .int .i64 yBest61, .str yBest71]), (.box 9, [.int .i64 x1.Block, .int .i64 x1.Leaf, .int .i64 x1.Page.Kind, .int .i64 x1.Page.Seq, .int .i64 x1.Page.Tx, .int .i64 x1.Page.Part, .int .i64 x1.Page.Count, .str x1.Page.Text])]
theorem i_dataOf_t (xF : Flash) (xChunk : Int) (r : Found × Bool) (h : i_dataOf xF xChunk = some r) : Gives Tryz.prog 156 [.sv (.agg [.sl false 124 3 (encs (c124 false) xF.Blocks)]), .sv (I xChunk)] (.tup [(.agg [.int .i64 r.1.Block, .int .i64 r.1.Leaf, .int .i64 r.1.Page.Kind, .int .i64 r.1.Page.Seq, .int .i64 r.1.Page.Tx, .int .i64 r.1.Page.Part, .int .i64 r.1.Page.Count, .str r.1.Page.Text]), (B r.2)]) (List.replicate 2 .gone) := by
 unfold i_dataOf at h
 refine gives_of Tryz.func156 rfl ?_
 rw [Tryz.ntmps156]
 refine Wp.seq (Wp.region ?_)
 refine LWp.b [] 2 [.sl false 124 3 (encs (c124 false) xF.Blocks)] ?_
 refine LWp.b [] 4 [.int .i64 0, .int .i64 0, .int .i64 0, .int .i64 0, .int .i64 0, .int .i64 0, .int .i64 0, .str (bs [])] ?_
 refine LWp.o 5 (B false) ?_
 refine LWp.nil ?_
 refine Wp.seq (Wp.region ?_)
 refine LWp.b [] 6 [.int .i64 0, .int .i64 0, .int .i64 0, .int .i64 0, .int .i64 0, .int .i64 0, .int .i64 0, .str (bs [])] ?_
 refine LWp.nil ?_
 refine Wp.seq (Wp.region ?_)
 refine LWp.o 7 (B false) ?_
 refine LWp.nil ?_
 refine Wp.seq ?_
 refine Wp.seq (Wp.region ?_)
 refine LWp.o 10 (.agg [.sl false 124 3 (encs (c124 false) xF.Blocks)]) ?_
 refine LWp.cl h 11 (fun v1 => (.one (.sl true 158 8 (encs c158 v1)))) rfl (l := [.sv (.agg [.sl false 124 3 (encs (c124 false) xF.Blocks)])]) rfl (fun v hv => i_ScanAll_t xF v hv) (.inl rfl) ?_
 intro v1 gv1 h
 refine LWp.o 12 (I (ln v1)) ?_ (st_pure (p_ln k158 v1))
 refine LWp.o 13 (I 0) ?_
 refine LWp.nil ?_
 refine Wp.l1 h [1, 4, 6, 7, 11, 12, 13] [.box 4, .box 6] (fun s => (i_dataOf_H1 xChunk v1 s.1 s.2.1 s.2.2.1 s.2.2.2.1 s.2.2.2.2.1 s.2.2.2.2.2.1 s.2.2.2.2.2.2.1 s.2.2.2.2.2.2.2.1 s.2.2.2.2.2.2.2.2.1 s.2.2.2.2.2.2.2.2.2)) [4, 6, 7] [.box 4, .box 6] (fun s => (i_dataOf_H2 s.1 s.2.1 s.2.2.1 s.2.2.2.1 s.2.2.2.2.1 s.2.2.2.2.2.1 s.2.2.2.2.2.2.1 s.2.2.2.2.2.2.2.1 s.2.2.2.2.2.2.2.2)) ⟨rfl, rfl⟩ ?_ ?_
 · rintro ⟨yOk1, y1, yBest01, yBest11, yBest21, yBest31, yBest41, yBest51, yBest61, yBest71⟩ o (h : i_dataOf_b1 xChunk v1 yOk1 y1 yBest01 yBest11 yBest21 yBest31 yBest41 yBest51 yBest61 yBest71 = some o)
   unfold i_dataOf_b1 at h
   change Wp _ _ _ (i_dataOf_H1 xChunk v1 yOk1 y1 yBest01 yBest11 yBest21 yBest31 yBest41 yBest51 yBest61 yBest71) _
   refine Wp.seq (Wp.region ?_)
   refine LWp.o 14 (B (decide (y1 < (ln v1)))) ?_
   refine LWp.nil ?_
   refine Wp.seq ?_
   refine Wp.c h (fun h => ?_) (fun h => ?_)
   · refine Wp.skip ?_
     refine Wp.seq ?_
     refine Wp.block ?_
     refine Wp.seq (Wp.region ?_)
     refine LWp.p h 15 (fun _ => (.one (.ptr (.slot 11) 0 [0] (Int.toNat y1 * 8 + 0)))) ?_ (fun x1 gx1 => st_pure (p_ix k158 (.slot 11) [] 0 gx1))
     intro x1 gx1 h
     refine LWp.o 16 (.agg [.int .i64 x1.Block, .int .i64 x1.Leaf, .int .i64 x1.Page.Kind, .int .i64 x1.Page.Seq, .int .i64 x1.Page.Tx, .int .i64 x1.Page.Part, .int .i64 x1.Page.Count, .str x1.Page.Text]) ?_ (st_pure (p_le k158 (.slot 11) [0] gx1))
     refine LWp.b [] 9 [.int .i64 0, .int .i64 0, .int .i64 0, .int .i64 0, .int .i64 0, .int .i64 0, .int .i64 0, .str (bs [])] ?_
     refine LWp.s [] (.box 9) [.int .i64 x1.Block, .int .i64 x1.Leaf, .int .i64 x1.Page.Kind, .int .i64 x1.Page.Seq, .int .i64 x1.Page.Tx, .int .i64 x1.Page.Part, .int .i64 x1.Page.Count, .str x1.Page.Text] ?_
     refine LWp.nil ?_
     refine Wp.seq ?_
     refine Wp.j1 h [1, 4, 6, 7, 9, 11, 12, 13, 40] [.box 4, .box 6, .box 9] (fun a => (i_dataOf_H3 xChunk v1 yOk1 y1 yBest01 yBest11 yBest21 yBest31 yBest41 yBest51 yBest61 yBest71 x1 a)) ?_ ?_
     · intro a h
       refine Wp.region ?_
       refine LWp.o 17 (.one (.ptr (.box 9) 1 [] 2)) ?_
       refine LWp.o 18 (.one (.ptr (.box 9) 1 [] 2)) ?_
       refine LWp.o 19 (I x1.Page.Kind) ?_
       refine LWp.o 20 (B (x1.Page.Kind == 1)) ?_
       refine LWp.o 21 (B (x1.Page.Kind == 1)) ?_
       refine LWp.sp h 21 (fun h => ?_) (fun h => ?_)
       · refine LWp.o 22 (.one (.ptr (.box 9) 1 [] 2)) ?_
         refine LWp.o 23 (.one (.ptr (.box 9) 1 [] 4)) ?_
         refine LWp.o 24 (I x1.Page.Tx) ?_
         refine LWp.o 25 (I xChunk) ?_
         refine LWp.o 26 (B (x1.Page.Tx == xChunk)) ?_
         refine LWp.o 27 (B (x1.Page.Tx == xChunk)) ?_
         refine LWp.o 28 (B (x1.Page.Tx == xChunk)) ?_
         refine LWp.sp h 28 (fun h => ?_) (fun h => ?_)
         · refine LWp.o 29 (B yOk1) ?_
           refine LWp.o 30 (B (!yOk1)) ?_
           refine LWp.o 31 (B (!yOk1)) ?_
           refine LWp.sp h 31 (fun h => ?_) (fun h => ?_)
           · refine LWp.sh 32 ?_
             refine LWp.sh 33 ?_
             refine LWp.sh 34 ?_
             refine LWp.sh 35 ?_
             refine LWp.sh 36 ?_
             refine LWp.sh 37 ?_
             refine LWp.sh 38 ?_
             refine LWp.o 39 (B true) ?_
             refine LWp.o 40 (B true) ?_
             refine LWp.nil ?_
             cases h
             exact ⟨_, rfl, rfl, rfl⟩
           refine LWp.o 32 (.one (.ptr (.box 9) 1 [] 2)) ?_
           refine LWp.o 33 (.one (.ptr (.box 9) 1 [] 3)) ?_
           refine LWp.o 34 (I x1.Page.Seq) ?_
           refine LWp.o 35 (.one (.ptr (.box 6) 0 [] 2)) ?_
           refine LWp.o 36 (.one (.ptr (.box 6) 0 [] 3)) ?_
           refine LWp.o 37 (I yBest31) ?_
           refine LWp.o 38 (B (decide (x1.Page.Seq ≥ yBest31))) ?_
           refine LWp.o 39 (B (decide (x1.Page.Seq ≥ yBest31))) ?_
           refine LWp.o 40 (B (decide (x1.Page.Seq ≥ yBest31))) ?_
           refine LWp.nil ?_
           cases h
           exact ⟨_, rfl, rfl, rfl⟩
         refine LWp.sh 29 ?_
         refine LWp.sh 30 ?_
         refine LWp.sh 31 ?_
         refine LWp.sh 32 ?_
         refine LWp.sh 33 ?_
         refine LWp.sh 34 ?_
         refine LWp.sh 35 ?_
         refine LWp.sh 36 ?_
         refine LWp.sh 37 ?_
         refine LWp.sh 38 ?_
         refine LWp.sh 39 ?_
         refine LWp.o 40 (B false) ?_
         refine LWp.nil ?_
         cases h
         exact ⟨_, rfl, rfl, rfl⟩
       refine LWp.sh 22 ?_
       refine LWp.sh 23 ?_
       refine LWp.sh 24 ?_
       refine LWp.sh 25 ?_
       refine LWp.sh 26 ?_
       refine LWp.o 27 (B false) ?_
       refine LWp.o 28 (B false) ?_
       refine LWp.sh 29 ?_
       refine LWp.sh 30 ?_
       refine LWp.sh 31 ?_
       refine LWp.sh 32 ?_
       refine LWp.sh 33 ?_
       refine LWp.sh 34 ?_
       refine LWp.sh 35 ?_
       refine LWp.sh 36 ?_
       refine LWp.sh 37 ?_
       refine LWp.sh 38 ?_
       refine LWp.sh 39 ?_
       refine LWp.o 40 (B false) ?_
       refine LWp.nil ?_
       cases h
       exact ⟨_, rfl, rfl, rfl⟩
     intro j1 h E hE
     refine nt_wp hE ?_
     change Wp _ _ _ (i_dataOf_H3 xChunk v1 yOk1 y1 yBest01 yBest11 yBest21 yBest31 yBest41 yBest51 yBest61 yBest71 x1 j1) _
     refine Wp.c h (fun h => ?_) (fun h => ?_)
     · refine Wp.region ?_
       refine LWp.o 41 (.agg [.int .i64 x1.Block, .int .i64 x1.Leaf, .int .i64 x1.Page.Kind, .int .i64 x1.Page.Seq, .int .i64 x1.Page.Tx, .int .i64 x1.Page.Part, .int .i64 x1.Page.Count, .str x1.Page.Text]) ?_
       refine LWp.s [] (.box 6) [.int .i64 x1.Block, .int .i64 x1.Leaf, .int .i64 x1.Page.Kind, .int .i64 x1.Page.Seq, .int .i64 x1.Page.Tx, .int .i64 x1.Page.Part, .int .i64 x1.Page.Count, .str x1.Page.Text] ?_
       refine LWp.o 7 (B true) ?_
       refine LWp.nil ?_
       refine Wp.region ?_
       refine LWp.o 42 (I (ad y1 1)) ?_
       refine LWp.o 13 (I (ad y1 1)) ?_
       refine LWp.nil ?_
       cases h
       exact ⟨_, rfl, rfl, rfl⟩
     refine Wp.skip ?_
     refine Wp.region ?_
     refine LWp.o 42 (I (ad y1 1)) ?_
     refine LWp.o 13 (I (ad y1 1)) ?_
     refine LWp.nil ?_
     cases h
     exact ⟨_, rfl, rfl, rfl⟩
   refine Wp.exit ?_
   cases h
   exact ⟨_, rfl, rfl, rfl⟩
 intro v2 h E hE
 refine nt_wp hE ?_
 change Wp _ _ _ (i_dataOf_H2 v2.1 v2.2.1 v2.2.2.1 v2.2.2.2.1 v2.2.2.2.2.1 v2.2.2.2.2.2.1 v2.2.2.2.2.2.2.1 v2.2.2.2.2.2.2.2.1 v2.2.2.2.2.2.2.2.2) _
 refine Wp.seq (Wp.region ?_)
 refine LWp.o 43 (.agg [.int .i64 v2.2.1, .int .i64 v2.2.2.1, .int .i64 v2.2.2.2.1, .int .i64 v2.2.2.2.2.1, .int .i64 v2.2.2.2.2.2.1, .int .i64 v2.2.2.2.2.2.2.1, .int .i64 v2.2.2.2.2.2.2.2.1, .str v2.2.2.2.2.2.2.2.2]) ?_
 refine LWp.o 44 (B v2.1) ?_
 refine LWp.s [] (.box 4) [.int .i64 v2.2.1, .int .i64 v2.2.2.1, .int .i64 v2.2.2.2.1, .int .i64 v2.2.2.2.2.1, .int .i64 v2.2.2.2.2.2.1, .int .i64 v2.2.2.2.2.2.2.1, .int .i64 v2.2.2.2.2.2.2.2.1, .str v2.2.2.2.2.2.2.2.2] ?_
 refine LWp.o 5 (B v2.1) ?_
 refine LWp.nil ?_
 cases h
 exact Wp.ret ⟨.inr rfl, _, _, rfl, rfl⟩
def i_spots_H1 (xF : Flash) (xB : Int) (v1 : List Int) (z1 : List Found) (z2 : Int) : St := mkSt [(2, (I xB)), (3, (.one (.ptr (.box 3) 0 [] 0))), (7, (.one (.sl true 158 8 (encs c158 z1)))), (13, (.one (.sl true 3 1 (encs c3 v1)))), (14, (I (ln v1))), (15, (I z2))] [(.box 3, [.sl false 124 3 (encs (c124 false) xF.Blocks)])]
def i_spots_H2 (z3 : List Found) : St := mkSt [(7, (.one (.sl true 158 8 (encs c158 z3))))] []
def i_spots_H3 (xF : Flash) (xB : Int) (v1 : List Int) (yOut1 : List Found) (y1 : Int) (v2 : Found × Bool) (z4 : Bool) : St := mkSt [(2, (I xB)), (3, (.one (.ptr (.box 3) 0 [] 0))), (7, (.one (.sl true 158 8 (encs c158 yOut1)))), (10, (.one (.ptr (.box 10) 0 [] 0))), (13, (.one (.sl true 3 1 (encs c3 v1)))), (14, (I (ln v1))), (15, (I y1)), (31, (B z4))] [(.box 3, [.sl false 124 3 (encs (c124 false) xF.Blocks)]), (.box 10, [.int .i64 v2.1.Block, .int .i64 v2.1.Leaf, .int .i64 v2.1.Page.Kind, .int .i64 v2.1.Page.Seq, .int .i64 v2.1.Page.Tx, .int .i64 v2.1.Page.Part, .int .i64 v2.1.Page.Count, .str v2.1.Page.Text])]
theorem i_spots_t (xF : Flash) (xS : Store) (xB : Int) (r : List Found) (h : i_spots xF xS xB = some r) : Gives Tryz.prog 110 [.sv (.agg [.sl false 124 3 (encs (c124 false) xF.Blocks)]), .sv (.agg [.sl false 110 2 (encs c110 xS.Vols), .sl false 218 2 (encs (c218 false) xS.Arena.Knots), .int .i64 xS.Next]), .sv (I xB)] (.one (.sl true 158 8 (encs c158 r))) (List.replicate 3 .gone) := by
 unfold i_spots at h
 refine gives_of Tryz.func110 rfl ?_
 rw [Tryz.ntmps110]
 refine Wp.seq (Wp.region ?_)
 refine LWp.b [] 3 [.sl false 124 3 (encs (c124 false) xF.Blocks)] ?_
 refine LWp.b [] 4 [.sl false 110 2 (encs c110 xS.Vols), .sl false 218 2 (encs (c218 false) xS.Arena.Knots), .int .i64 xS.Next] ?_
 refine LWp.o 6 (.one (.sl true 158 8 (encs c158 []))) ?_
 refine LWp.nil ?_
 refine Wp.seq (Wp.region ?_)
 refine LWp.o 7 (.one (.sl true 158 8 (encs c158 []))) ?_
 refine LWp.nil ?_
 refine Wp.seq ?_
 refine Wp.seq (Wp.region ?_)
 refine LWp.o 12 (.agg [.sl false 110 2 (encs c110 xS.Vols), .sl false 218 2 (encs (c218 false) xS.Arena.Knots), .int .i64 xS.Next]) ?_
 refine LWp.cl h 13 (fun v1 => (.one (.sl true 3 1 (encs c3 v1)))) rfl (l := [.sv (.agg [.sl false 110 2 (encs c110 xS.Vols), .sl false 218 2 (encs (c218 false) xS.Arena.Knots), .int .i64 xS.Next])]) rfl (fun v hv => i_LiveOf_t xS v hv) (.inl rfl) ?_
 intro v1 gv1 h
 refine LWp.o 14 (I (ln v1)) ?_ (st_pure (p_ln k3 v1))
 refine LWp.o 15 (I 0) ?_
 refine LWp.nil ?_
 refine Wp.l1 h [2, 3, 7, 13, 14, 15] [.box 3] (fun s => (i_spots_H1 xF xB v1 s.1 s.2)) [7] [] (fun s => (i_spots_H2 s)) ⟨rfl, rfl⟩ ?_ ?_
 · rintro ⟨yOut1, y1⟩ o (h : i_spots_b1 xF xB v1 yOut1 y1 = some o)
   unfold i_spots_b1 at h
   change Wp _ _ _ (i_spots_H1 xF xB v1 yOut1 y1) _
   refine Wp.seq (Wp.region ?_)
   refine LWp.o 16 (B (decide (y1 < (ln v1)))) ?_
   refine LWp.nil ?_
   refine Wp.seq ?_
   refine Wp.c h (fun h => ?_) (fun h => ?_)
   · refine Wp.skip ?_
     refine Wp.seq ?_
     refine Wp.block ?_
     refine Wp.seq (Wp.region ?_)
     refine LWp.p h 17 (fun _ => (.one (.ptr (.slot 13) 0 [0] (Int.toNat y1 * 1 + 0)))) ?_ (fun x1 gx1 => st_pure (p_ix k3 (.slot 13) [] 0 gx1))
     intro x1 gx1 h
     refine LWp.o 18 (I x1) ?_ (st_pure (p_lc k3 (.slot 13) [0] 0 (.int .i64 x1) gx1))
     refine LWp.o 9 (I x1) ?_
     refine LWp.nil ?_
     refine Wp.seq (Wp.region ?_)
     refine LWp.o 20 (.agg [.sl false 124 3 (encs (c124 false) xF.Blocks)]) ?_
     refine LWp.o 21 (I x1) ?_
     refine LWp.cl h 22 (fun v2 => (.tup [(.agg [.int .i64 v2.1.Block, .int .i64 v2.1.Leaf, .int .i64 v2.1.Page.Kind, .int .i64 v2.1.Page.Seq, .int .i64 v2.1.Page.Tx, .int .i64 v2.1.Page.Part, .int .i64 v2.1.Page.Count, .str v2.1.Page.Text]), (B v2.2)])) rfl (l := [.sv (.agg [.sl false 124 3 (encs (c124 false) xF.Blocks)]), .sv (.one (.int .i64 x1))]) rfl (fun v hv => i_dataOf_t xF x1 v hv) (.inl rfl) ?_
     intro v2 gv2 h
     refine LWp.mt 22 19 (.tup [(.agg [.int .i64 v2.1.Block, .int .i64 v2.1.Leaf, .int .i64 v2.1.Page.Kind, .int .i64 v2.1.Page.Seq, .int .i64 v2.1.Page.Tx, .int .i64 v2.1.Page.Part, .int .i64 v2.1.Page.Count, .str v2.1.Page.Text]), (B v2.2)]) ?_
     refine LWp.e 19 0 23 (.agg [.int .i64 v2.1.Block, .int .i64 v2.1.Leaf, .int .i64 v2.1.Page.Kind, .int .i64 v2.1.Page.Seq, .int .i64 v2.1.Page.Tx, .int .i64 v2.1.Page.Part, .int .i64 v2.1.Page.Count, .str v2.1.Page.Text]) ?_
     refine LWp.e 19 1 24 (B v2.2) ?_
     refine LWp.b [] 10 [.int .i64 0, .int .i64 0, .int .i64 0, .int .i64 0, .int .i64 0, .int .i64 0, .int .i64 0, .str (bs [])] ?_
     refine LWp.s [] (.box 10) [.int .i64 v2.1.Block, .int .i64 v2.1.Leaf, .int .i64 v2.1.Page.Kind, .int .i64 v2.1.Page.Seq, .int .i64 v2.1.Page.Tx, .int .i64 v2.1.Page.Part, .int .i64 v2.1.Page.Count, .str v2.1.Page.Text] ?_
     refine LWp.o 11 (B v2.2) ?_
     refine LWp.nil ?_
     refine Wp.seq ?_
     refine Wp.j1 h [2, 3, 7, 10, 13, 14, 15, 31] [.box 3, .box 10] (fun a => (i_spots_H3 xF xB v1 yOut1 y1 v2 a)) ?_ ?_
     · intro a h
       refine Wp.region ?_
       refine LWp.o 25 (B v2.2) ?_
       refine LWp.o 26 (B v2.2) ?_
       refine LWp.sp h 26 (fun h => ?_) (fun h => ?_)
       · refine LWp.o 27 (.one (.ptr (.box 10) 1 [] 0)) ?_
         refine LWp.o 28 (I v2.1.Block) ?_
         refine LWp.o 29 (I xB) ?_
         refine LWp.o 30 (B (v2.1.Block == xB)) ?_
         refine LWp.o 31 (B (v2.1.Block == xB)) ?_
         refine LWp.nil ?_
         cases h
         exact ⟨_, rfl, rfl, rfl⟩
       refine LWp.sh 27 ?_
       refine LWp.sh 28 ?_
       refine LWp.sh 29 ?_
       refine LWp.sh 30 ?_
       refine LWp.o 31 (B false) ?_
       refine LWp.nil ?_
       cases h
       exact ⟨_, rfl, rfl, rfl⟩
     intro j1 h E hE
     refine nt_wp hE ?_
     change Wp _ _ _ (i_spots_H3 xF xB v1 yOut1 y1 v2 j1) _
     refine Wp.c h (fun h => ?_) (fun h => ?_)
     · refine Wp.region ?_
       refine LWp.o 32 (.one (.view (.slot 7) 0 [] 0)) ?_
       refine LWp.o 33 (.agg [.int .i64 v2.1.Block, .int .i64 v2.1.Leaf, .int .i64 v2.1.Page.Kind, .int .i64 v2.1.Page.Seq, .int .i64 v2.1.Page.Tx, .int .i64 v2.1.Page.Part, .int .i64 v2.1.Page.Count, .str v2.1.Page.Text]) ?_
       refine LWp.m false [] 34 (.one (.sl true 158 8 (encs c158 [v2.1]))) ?_
       refine LWp.pm h [(.slot 7, [.junk])] 35 (fun q1 => (.one (.sl true 158 8 (encs c158 q1)))) ?_ (fun q1 gq1 => s_apl k158 (fun _ => rfl) [(.slot 7, [.junk])] yOut1 gq1)
       intro q1 gq1 h
       refine LWp.m true [(.slot 35, [.junk])] 7 (.one (.sl true 158 8 (encs c158 q1))) ?_
       refine LWp.nil ?_
       refine Wp.region ?_
       refine LWp.o 36 (I (ad y1 1)) ?_
       refine LWp.o 15 (I (ad y1 1)) ?_
       refine LWp.nil ?_
       cases h
       exact ⟨_, rfl, rfl, rfl⟩
     refine Wp.skip ?_
     refine Wp.region ?_
     refine LWp.o 36 (I (ad y1 1)) ?_
     refine LWp.o 15 (I (ad y1 1)) ?_
     refine LWp.nil ?_
     cases h
     exact ⟨_, rfl, rfl, rfl⟩
   refine Wp.exit ?_
   cases h
   exact ⟨_, rfl, rfl, rfl⟩
 intro v3 h E hE
 refine nt_wp hE ?_
 change Wp _ _ _ (i_spots_H2 v3) _
 refine Wp.seq (Wp.region ?_)
 refine LWp.o 37 (.one (.view (.slot 7) 0 [] 0)) ?_
 refine LWp.m true [(.slot 7, [.junk])] 6 (.one (.sl true 158 8 (encs c158 v3))) ?_
 refine LWp.nil ?_
 cases h
 exact Wp.ret ⟨.inr rfl, _, _, rfl, rfl⟩
def i_NeededOn_H1 (xBase : Int) (xB : Int) (v2 : List Found) (z1 : Int) (z2 : Int) : St := mkSt [(2, (I xBase)), (3, (I xB)), (9, (I z1)), (18, (.one (.sl true 158 8 (encs c158 v2)))), (19, (I (ln v2))), (20, (I z2))] []
def i_NeededOn_H2 (z3 : Int) : St := mkSt [(9, (I z3))] []
def i_NeededOn_H3 (xBase : Int) (xB : Int) (v2 : List Found) (yN1 : Int) (y1 : Int) (z4 : Bool) : St := mkSt [(2, (I xBase)), (3, (I xB)), (9, (I yN1)), (18, (.one (.sl true 158 8 (encs c158 v2)))), (19, (I (ln v2))), (20, (I y1)), (40, (B z4))] []
theorem i_NeededOn_t (xF : Flash) (xS : Store) (xBase : Int) (xB : Int) (r : Int) (h : i_NeededOn xF xS xBase xB = some r) : Gives Tryz.prog 67 [.sv (.agg [.sl false 124 3 (encs (c124 false) xF.Blocks)]), .sv (.agg [.sl false 110 2 (encs c110 xS.Vols), .sl false 218 2 (encs (c218 false) xS.Arena.Knots), .int .i64 xS.Next]), .sv (I xBase), .sv (I xB)] (I r) (List.replicate 4 .gone) := by
 unfold i_NeededOn at h
 refine gives_of Tryz.func67 rfl ?_
 rw [Tryz.ntmps67]
 refine Wp.seq (Wp.region ?_)
 refine LWp.b [] 4 [.sl false 124 3 (encs (c124 false) xF.Blocks)] ?_
 refine LWp.b [] 5 [.sl false 110 2 (encs c110 xS.Vols), .sl false 218 2 (encs (c218 false) xS.Arena.Knots), .int .i64 xS.Next] ?_
 refine LWp.o 8 (I 0) ?_
 refine LWp.nil ?_
 refine Wp.seq (Wp.region ?_)
 refine LWp.o 12 (.agg [.sl false 124 3 (encs (c124 false) xF.Blocks)]) ?_
 refine LWp.o 13 (.agg [.sl false 110 2 (encs c110 xS.Vols), .sl false 218 2 (encs (c218 false) xS.Arena.Knots), .int .i64 xS.Next]) ?_
 refine LWp.o 14 (I xB) ?_
 refine LWp.cl h 15 (fun v1 => (.one (.sl true 158 8 (encs c158 v1)))) rfl (l := [.sv (.agg [.sl false 124 3 (encs (c124 false) xF.Blocks)]), .sv (.agg [.sl false 110 2 (encs c110 xS.Vols), .sl false 218 2 (encs (c218 false) xS.Arena.Knots), .int .i64 xS.Next]), .sv (.one (.int .i64 xB))]) rfl (fun v hv => i_spots_t xF xS xB v hv) (.inl rfl) ?_
 intro v1 gv1 h
 refine LWp.o 16 (I (ln v1)) ?_ (st_pure (p_ln k158 v1))
 refine LWp.o 9 (I (ln v1)) ?_
 refine LWp.nil ?_
 refine Wp.seq ?_
 refine Wp.seq (Wp.region ?_)
 refine LWp.o 17 (.agg [.sl false 124 3 (encs (c124 false) xF.Blocks)]) ?_
 refine LWp.cl h 18 (fun v2 => (.one (.sl true 158 8 (encs c158 v2)))) rfl (l := [.sv (.agg [.sl false 124 3 (encs (c124 false) xF.Blocks)])]) rfl (fun v hv => i_ScanAll_t xF v hv) (.inl rfl) ?_
 intro v2 gv2 h
 refine LWp.o 19 (I (ln v2)) ?_ (st_pure (p_ln k158 v2))
 refine LWp.o 20 (I 0) ?_
 refine LWp.nil ?_
 refine Wp.l1 h [2, 3, 9, 18, 19, 20] [] (fun s => (i_NeededOn_H1 xBase xB v2 s.1 s.2)) [9] [] (fun s => (i_NeededOn_H2 s)) ⟨rfl, rfl⟩ ?_ ?_
 · rintro ⟨yN1, y1⟩ o (h : i_NeededOn_b1 xBase xB v2 yN1 y1 = some o)
   unfold i_NeededOn_b1 at h
   change Wp _ _ _ (i_NeededOn_H1 xBase xB v2 yN1 y1) _
   refine Wp.seq (Wp.region ?_)
   refine LWp.o 21 (B (decide (y1 < (ln v2)))) ?_
   refine LWp.nil ?_
   refine Wp.seq ?_
   refine Wp.c h (fun h => ?_) (fun h => ?_)
   · refine Wp.skip ?_
     refine Wp.seq ?_
     refine Wp.block ?_
     refine Wp.seq (Wp.region ?_)
     refine LWp.p h 22 (fun _ => (.one (.ptr (.slot 18) 0 [0] (Int.toNat y1 * 8 + 0)))) ?_ (fun x1 gx1 => st_pure (p_ix k158 (.slot 18) [] 0 gx1))
     intro x1 gx1 h
     refine LWp.o 23 (.agg [.int .i64 x1.Block, .int .i64 x1.Leaf, .int .i64 x1.Page.Kind, .int .i64 x1.Page.Seq, .int .i64 x1.Page.Tx, .int .i64 x1.Page.Part, .int .i64 x1.Page.Count, .str x1.Page.Text]) ?_ (st_pure (p_le k158 (.slot 18) [0] gx1))
     refine LWp.b [] 11 [.int .i64 0, .int .i64 0, .int .i64 0, .int .i64 0, .int .i64 0, .int .i64 0, .int .i64 0, .str (bs [])] ?_
     refine LWp.s [] (.box 11) [.int .i64 x1.Block, .int .i64 x1.Leaf, .int .i64 x1.Page.Kind, .int .i64 x1.Page.Seq, .int .i64 x1.Page.Tx, .int .i64 x1.Page.Part, .int .i64 x1.Page.Count, .str x1.Page.Text] ?_
     refine LWp.nil ?_
     refine Wp.seq ?_
     refine Wp.j1 h [2, 3, 9, 18, 19, 20, 40] [] (fun a => (i_NeededOn_H3 xBase xB v2 yN1 y1 a)) ?_ ?_
     · intro a h
       refine Wp.region ?_
       refine LWp.o 24 (.one (.ptr (.box 11) 1 [] 0)) ?_
       refine LWp.o 25 (I x1.Block) ?_
       refine LWp.o 26 (I xB) ?_
       refine LWp.o 27 (B (x1.Block == xB)) ?_
       refine LWp.o 28 (B (x1.Block == xB)) ?_
       refine LWp.sp h 28 (fun h => ?_) (fun h => ?_)
       · refine LWp.o 29 (.one (.ptr (.box 11) 1 [] 2)) ?_
         refine LWp.o 30 (.one (.ptr (.box 11) 1 [] 2)) ?_
         refine LWp.o 31 (I x1.Page.Kind) ?_
         refine LWp.o 32 (B (x1.Page.Kind == 2)) ?_
         refine LWp.o 33 (B (x1.Page.Kind == 2)) ?_
         refine LWp.o 34 (B (x1.Page.Kind == 2)) ?_
         refine LWp.sp h 34 (fun h => ?_) (fun h => ?_)
         · refine LWp.o 35 (.one (.ptr (.box 11) 1 [] 2)) ?_
           refine LWp.o 36 (.one (.ptr (.box 11) 1 [] 4)) ?_
           refine LWp.o 37 (I x1.Page.Tx) ?_
           refine LWp.o 38 (I xBase) ?_
           refine LWp.o 39 (B (decide (x1.Page.Tx ≥ xBase))) ?_
           refine LWp.o 40 (B (decide (x1.Page.Tx ≥ xBase))) ?_
           refine LWp.nil ?_
           cases h
           exact ⟨_, rfl, rfl, rfl⟩
         refine LWp.sh 35 ?_
         refine LWp.sh 36 ?_
         refine LWp.sh 37 ?_
         refine LWp.sh 38 ?_
         refine LWp.sh 39 ?_
         refine LWp.o 40 (B false) ?_
         refine LWp.nil ?_
         cases h
         exact ⟨_, rfl, rfl, rfl⟩
       refine LWp.sh 29 ?_
       refine LWp.sh 30 ?_
       refine LWp.sh 31 ?_
       refine LWp.sh 32 ?_
       refine LWp.o 33 (B false) ?_
       refine LWp.o 34 (B false) ?_
       refine LWp.sh 35 ?_
       refine LWp.sh 36 ?_
       refine LWp.sh 37 ?_
       refine LWp.sh 38 ?_
       refine LWp.sh 39 ?_
       refine LWp.o 40 (B false) ?_
       refine LWp.nil ?_
       cases h
       exact ⟨_, rfl, rfl, rfl⟩
     intro j1 h E hE
     refine nt_wp hE ?_
     change Wp _ _ _ (i_NeededOn_H3 xBase xB v2 yN1 y1 j1) _
     refine Wp.c h (fun h => ?_) (fun h => ?_)
     · refine Wp.region ?_
       refine LWp.o 41 (I yN1) ?_
       refine LWp.o 42 (I (ad yN1 1)) ?_
       refine LWp.o 9 (I (ad yN1 1)) ?_
       refine LWp.nil ?_
       refine Wp.region ?_
       refine LWp.o 43 (I (ad y1 1)) ?_
       refine LWp.o 20 (I (ad y1 1)) ?_
       refine LWp.nil ?_
       cases h
       exact ⟨_, rfl, rfl, rfl⟩
     refine Wp.skip ?_
     refine Wp.region ?_
     refine LWp.o 43 (I (ad y1 1)) ?_
     refine LWp.o 20 (I (ad y1 1)) ?_
     refine LWp.nil ?_
     cases h
     exact ⟨_, rfl, rfl, rfl⟩
   refine Wp.exit ?_
   cases h
   exact ⟨_, rfl, rfl, rfl⟩
 intro v3 h E hE
 refine nt_wp hE ?_
 change Wp _ _ _ (i_NeededOn_H2 v3) _
 refine Wp.seq (Wp.region ?_)
 refine LWp.o 44 (I v3) ?_
 refine LWp.o 8 (I v3) ?_
 refine LWp.nil ?_
 cases h
 exact Wp.ret ⟨.inr rfl, _, _, rfl, rfl⟩
def i_DeadBlocks_H1 (xD : Device) (z1 : List Int) (z2 : Int) : St := mkSt [(1, (.one (.ptr (.box 1) 0 [] 0))), (3, (.one (.sl true 3 1 (encs c3 z1)))), (8, (.one (.sl false 124 3 (encs (c124 false) xD.Flash.Blocks)))), (9, (I (ln xD.Flash.Blocks))), (10, (I z2))] [(.box 1, [.sl false 124 3 (encs (c124 false) xD.Flash.Blocks), .sl false 110 2 (encs c110 xD.Store.Vols), .sl false 218 2 (encs (c218 false) xD.Store.Arena.Knots), .int .i64 xD.Store.Next, .int .i64 xD.Seq, .int .i64 xD.Tx, .int .i64 xD.Base])]
def i_DeadBlocks_H2 (z3 : List Int) : St := mkSt [(3, (.one (.sl true 3 1 (encs c3 z3))))] []
def i_DeadBlocks_H3 (xD : Device) (yOut1 : List Int) (y1 : Int) (z4 : Bool) : St := mkSt [(1, (.one (.ptr (.box 1) 0 [] 0))), (3, (.one (.sl true 3 1 (encs c3 yOut1)))), (4, (I y1)), (8, (.one (.sl false 124 3 (encs (c124 false) xD.Flash.Blocks)))), (9, (I (ln xD.Flash.Blocks))), (10, (I y1)), (36, (B z4))] [(.box 1, [.sl false 124 3 (encs (c124 false) xD.Flash.Blocks), .sl false 110 2 (encs c110 xD.Store.Vols), .sl false 218 2 (encs (c218 false) xD.Store.Arena.Knots), .int .i64 xD.Store.Next, .int .i64 xD.Seq, .int .i64 xD.Tx, .int .i64 xD.Base])]
theorem i_DeadBlocks_t (xD : Device) (r : List Int) (h : i_DeadBlocks xD = some r) : Gives Tryz.prog 29 [.sv (.agg [.sl false 124 3 (encs (c124 false) xD.Flash.Blocks), .sl false 110 2 (encs c110 xD.Store.Vols), .sl false 218 2 (encs (c218 false) xD.Store.Arena.Knots), .int .i64 xD.Store.Next, .int .i64 xD.Seq, .int .i64 xD.Tx, .int .i64 xD.Base])] (.one (.sl true 3 1 (encs c3 r))) (List.replicate 1 .gone) := by
 unfold i_DeadBlocks at h
 refine gives_of Tryz.func29 rfl ?_
 rw [Tryz.ntmps29]
 refine Wp.seq (Wp.region ?_)
 refine LWp.b [] 1 [.sl false 124 3 (encs (c124 false) xD.Flash.Blocks), .sl false 110 2 (encs c110 xD.Store.Vols), .sl false 218 2 (encs (c218 false) xD.Store.Arena.Knots), .int .i64 xD.Store.Next, .int .i64 xD.Seq, .int .i64 xD.Tx, .int .i64 xD.Base] ?_
 refine LWp.o 2 (.one (.sl true 3 1 (encs c3 []))) ?_
 refine LWp.nil ?_
 refine Wp.seq (Wp.region ?_)
 refine LWp.o 3 (.one (.sl true 3 1 (encs c3 []))) ?_
 refine LWp.nil ?_
 refine Wp.seq ?_
 refine Wp.seq (Wp.region ?_)
 refine LWp.o 6 (.one (.ptr (.box 1) 1 [] 0)) ?_
 refine LWp.o 7 (.one (.ptr (.box 1) 1 [] 0)) ?_
 refine LWp.o 8 (.one (.sl false 124 3 (encs (c124 false) xD.Flash.Blocks))) ?_
 refine LWp.o 9 (I (ln xD.Flash.Blocks)) ?_ (st_pure (p_ln (k124 false) xD.Flash.Blocks))
 refine LWp.o 10 (I 0) ?_
 refine LWp.nil ?_
 refine Wp.l1 h [1, 3, 8, 9, 10] [.box 1] (fun s => (i_DeadBlocks_H1 xD s.1 s.2)) [3] [] (fun s => (i_DeadBlocks_H2 s)) ⟨rfl, rfl⟩ ?_ ?_
 · rintro ⟨yOut1, y1⟩ o (h : i_DeadBlocks_b1 xD yOut1 y1 = some o)
   unfold i_DeadBlocks_b1 at h
   change Wp _ _ _ (i_DeadBlocks_H1 xD yOut1 y1) _
   refine Wp.seq (Wp.region ?_)
   refine LWp.o 11 (B (decide (y1 < (ln xD.Flash.Blocks)))) ?_
   refine LWp.nil ?_
   refine Wp.seq ?_
   refine Wp.c h (fun h => ?_) (fun h => ?_)
   · refine Wp.skip ?_
     refine Wp.seq ?_
     refine Wp.block ?_
     refine Wp.seq (Wp.region ?_)
     refine LWp.o 12 (I y1) ?_
     refine LWp.p h 13 (fun _ => (.one (.ptr (.slot 8) 0 [0] (Int.toNat y1 * 3 + 0)))) ?_ (fun x1 gx1 => st_pure (p_ix (k124 false) (.slot 8) [] 0 gx1))
     intro x1 gx1 h
     refine LWp.o 14 (.agg [.bool x1.Bad, .int .i64 x1.Wear, .sl false 165 2 (encs c165 x1.Leaves)]) ?_ (st_pure (p_le (k124 false) (.slot 8) [0] gx1))
     refine LWp.b [] 5 [.bool false, .int .i64 0, .sl true 165 2 (encs c165 [])] ?_
     refine LWp.o 4 (I y1) ?_
     refine LWp.sb [] (.box 5) [.bool x1.Bad, .int .i64 x1.Wear, .sl false 165 2 (encs c165 x1.Leaves)] ?_
     refine LWp.nil ?_
     refine Wp.seq ?_
     refine Wp.j1 h [1, 3, 4, 8, 9, 10, 36] [.box 1] (fun a => (i_DeadBlocks_H3 xD yOut1 y1 a)) ?_ ?_
     · intro a h
       refine Wp.regionK 22 [] mixed (fun c E h => by rcases h with ⟨h | h, _⟩ <;> cases h) ?_
       refine KWp.o 22 0 15 (.one (.ptr (.box 5) 1 [] 0)) ?_
       refine KWp.o 22 1 16 (B x1.Bad) ?_
       refine KWp.o 22 2 17 (B (!x1.Bad)) ?_
       refine KWp.o 22 3 18 (B (!x1.Bad)) ?_
       refine KWp.sp h 18 (fun h => ?_) (fun h => ?_)
       · refine KWp.o 22 4 19 (.agg [.bool x1.Bad, .int .i64 x1.Wear, .sl false 165 2 (encs c165 x1.Leaves)]) ?_
         refine KWp.o 22 6 21 (.one (.ptr (.box 5) 1 [] 2)) ?_
         refine KWp.o 22 7 22 (.one (.sl false 165 2 (encs c165 x1.Leaves))) ?_
         refine KWp.o 22 8 23 (I (ln x1.Leaves)) ?_ rfl (sl_pure (p_ln k165 x1.Leaves))
         refine KWp.w1 5 ?_
         refine KOp.cl h 5 20 (fun v1 => (I v1)) rfl rfl (l := [.sv (.agg [.bool x1.Bad, .int .i64 x1.Wear, .sl false 165 2 (encs c165 x1.Leaves)])]) rfl (fun v hv => i_blanks_t x1 v hv) (.inl rfl) ?_
         intro v1 gv1 h
         refine KWp.o 22 9 24 (B (decide (v1 < (ln x1.Leaves)))) ?_
         refine KWp.o 22 10 25 (B (decide (v1 < (ln x1.Leaves)))) ?_
         refine KWp.o 22 11 26 (B (decide (v1 < (ln x1.Leaves)))) ?_
         refine KWp.sp h 26 (fun h => ?_) (fun h => ?_)
         · refine KWp.o 22 12 27 (.one (.ptr (.box 1) 0 [] 0)) ?_
           refine KWp.o 22 13 28 (.agg [.sl false 124 3 (encs (c124 false) xD.Flash.Blocks)]) ?_
           refine KWp.o 22 14 29 (.one (.ptr (.box 1) 0 [] 1)) ?_
           refine KWp.o 22 15 30 (.agg [.sl false 110 2 (encs c110 xD.Store.Vols), .sl false 218 2 (encs (c218 false) xD.Store.Arena.Knots), .int .i64 xD.Store.Next]) ?_
           refine KWp.o 22 16 31 (.one (.ptr (.box 1) 0 [] 6)) ?_
           refine KWp.o 22 17 32 (I xD.Base) ?_
           refine KWp.o 22 18 33 (I y1) ?_
           refine KWp.w1 19 ?_
           refine KOp.cl h 19 34 (fun v2 => (I v2)) rfl rfl (l := [.sv (.agg [.sl false 124 3 (encs (c124 false) xD.Flash.Blocks)]), .sv (.agg [.sl false 110 2 (encs c110 xD.Store.Vols), .sl false 218 2 (encs (c218 false) xD.Store.Arena.Knots), .int .i64 xD.Store.Next]), .sv (.one (.int .i64 xD.Base)), .sv (.one (.int .i64 y1))]) rfl (fun v hv => i_NeededOn_t xD.Flash xD.Store xD.Base y1 v hv) (.inl rfl) ?_
           intro v2 gv2 h
           refine KWp.o 22 20 35 (B (v2 == 0)) ?_
           refine KWp.o 22 21 36 (B (v2 == 0)) ?_
           refine KWp.done ?_
           cases h
           exact ⟨_, rfl, rfl, rfl⟩
         refine KWp.sh 22 12 27 ?_
         refine KWp.sh 22 13 28 ?_
         refine KWp.sh 22 14 29 ?_
         refine KWp.sh 22 15 30 ?_
         refine KWp.sh 22 16 31 ?_
         refine KWp.sh 22 17 32 ?_
         refine KWp.sh 22 18 33 ?_
         refine KWp.sh 22 19 34 ?_
         refine KWp.sh 22 20 35 ?_
         refine KWp.o 22 21 36 (B false) ?_
         refine KWp.done ?_
         cases h
         exact ⟨_, rfl, rfl, rfl⟩
       refine KWp.sh 22 4 19 ?_
       refine KWp.sh 22 6 21 ?_
       refine KWp.sh 22 7 22 ?_
       refine KWp.sh 22 8 23 ?_
       refine KWp.sh 22 5 20 ?_
       refine KWp.sh 22 9 24 ?_
       refine KWp.o 22 10 25 (B false) ?_
       refine KWp.o 22 11 26 (B false) ?_
       refine KWp.sh 22 12 27 ?_
       refine KWp.sh 22 13 28 ?_
       refine KWp.sh 22 14 29 ?_
       refine KWp.sh 22 15 30 ?_
       refine KWp.sh 22 16 31 ?_
       refine KWp.sh 22 17 32 ?_
       refine KWp.sh 22 18 33 ?_
       refine KWp.sh 22 19 34 ?_
       refine KWp.sh 22 20 35 ?_
       refine KWp.o 22 21 36 (B false) ?_
       refine KWp.done ?_
       cases h
       exact ⟨_, rfl, rfl, rfl⟩
     intro j1 h E hE
     refine nt_wp hE ?_
     change Wp _ _ _ (i_DeadBlocks_H3 xD yOut1 y1 j1) _
     refine Wp.c h (fun h => ?_) (fun h => ?_)
     · refine Wp.region ?_
       refine LWp.o 37 (.one (.view (.slot 3) 0 [] 0)) ?_
       refine LWp.o 38 (I y1) ?_
       refine LWp.m false [] 39 (.one (.sl true 3 1 (encs c3 [y1]))) ?_
       refine LWp.pm h [(.slot 3, [.junk])] 40 (fun q1 => (.one (.sl true 3 1 (encs c3 q1)))) ?_ (fun q1 gq1 => s_apl k3 (fun _ => rfl) [(.slot 3, [.junk])] yOut1 gq1)
       intro q1 gq1 h
       refine LWp.m true [(.slot 40, [.junk])] 3 (.one (.sl true 3 1 (encs c3 q1))) ?_
       refine LWp.nil ?_
       refine Wp.region ?_
       refine LWp.o 41 (I (ad y1 1)) ?_
       refine LWp.o 10 (I (ad y1 1)) ?_
       refine LWp.nil ?_
       cases h
       exact ⟨_, rfl, rfl, rfl⟩
     refine Wp.skip ?_
     refine Wp.region ?_
     refine LWp.o 41 (I (ad y1 1)) ?_
     refine LWp.o 10 (I (ad y1 1)) ?_
     refine LWp.nil ?_
     cases h
     exact ⟨_, rfl, rfl, rfl⟩
   refine Wp.exit ?_
   cases h
   exact ⟨_, rfl, rfl, rfl⟩
 intro v3 h E hE
 refine nt_wp hE ?_
 change Wp _ _ _ (i_DeadBlocks_H2 v3) _
 refine Wp.seq (Wp.region ?_)
 refine LWp.o 42 (.one (.view (.slot 3) 0 [] 0)) ?_
 refine LWp.m true [(.slot 3, [.junk])] 2 (.one (.sl true 3 1 (encs c3 v3))) ?_
 refine LWp.nil ?_
 cases h
 exact Wp.ret ⟨.inr rfl, _, _, rfl, rfl⟩
def w_eqIntS_H1 (xA : List Int) (xB : List Int) (z1 : Int) : St := mkSt [(0, (.one (.sl false 3 1 (encs c3 xA)))), (1, (.one (.sl false 3 1 (encs c3 xB)))), (5, (I z1))] []
def w_eqIntS_H2  : St := mkSt [] []
theorem w_eqIntS_t (xA : List Int) (xB : List Int) (r : Bool) (h : w_eqIntS xA xB = some r) : Gives Tryz.prog 30 [.sv (.one (.sl false 3 1 (encs c3 xA))), .sv (.one (.sl false 3 1 (encs c3 xB)))] (B r) (List.replicate 2 .gone) := by
 unfold w_eqIntS at h
 refine gives_of Tryz.func30 rfl ?_
 rw [Tryz.ntmps30]
 refine Wp.seq (Wp.region ?_)
 refine LWp.o 4 (B false) ?_
 refine LWp.nil ?_
 refine Wp.seq ?_
 refine Wp.seq (Wp.region ?_)
 refine LWp.o 6 (.one (.sl false 3 1 (encs c3 xA))) ?_
 refine LWp.o 7 (I (ln xA)) ?_ (st_pure (p_ln k3 xA))
 refine LWp.o 8 (.one (.sl false 3 1 (encs c3 xB))) ?_
 refine LWp.o 9 (I (ln xB)) ?_ (st_pure (p_ln k3 xB))
 refine LWp.o 10 (B ((ln xA) != (ln xB))) ?_
 refine LWp.nil ?_
 refine Wp.c h (fun h => ?_) (fun h => ?_)
 · refine Wp.seq (Wp.region ?_)
   refine LWp.o 4 (B false) ?_
   refine LWp.nil ?_
   cases h
   exact Wp.ret ⟨.inr rfl, _, _, rfl, rfl⟩
 refine Wp.skip ?_
 refine Wp.seq ?_
 refine Wp.seq (Wp.region ?_)
 refine LWp.o 5 (I 0) ?_
 refine LWp.nil ?_
 refine Wp.l2 h [0, 1, 5] [] (fun s => (w_eqIntS_H1 xA xB s)) [] [] (fun _ => w_eqIntS_H2) ⟨rfl, rfl⟩ ?_ ?_
 · rintro yI1 o (h : w_eqIntS_b1 xA xB yI1 = some o) hk1
   unfold w_eqIntS_b1 at h
   change Wp _ _ _ (w_eqIntS_H1 xA xB yI1) _
   refine Wp.seq ?_
   refine Wp.seq (Wp.region ?_)
   refine LWp.o 11 (I yI1) ?_
   refine LWp.o 12 (.one (.sl false 3 1 (encs c3 xA))) ?_
   refine LWp.o 13 (I (ln xA)) ?_ (st_pure (p_ln k3 xA))
   refine LWp.o 14 (B (decide (yI1 < (ln xA)))) ?_
   refine LWp.nil ?_
   refine Wp.c h (fun h => ?_) (fun h => ?_)
   · refine Wp.skip ?_
     refine Wp.seq ?_
     refine Wp.block ?_
     refine Wp.seq ?_
     refine Wp.regionS mixed (by decide +kernel) ?_
     refine SWp.o 17 (.one (.sl false 3 1 (encs c3 xA))) ?_
     refine SWp.o 18 (I yI1) ?_
     refine SWp.p h 19 (fun _ => (.one (.ptr (.slot 17) 1 [0] (Int.toNat yI1 * 1 + 0)))) ?_ (fun x1 gx1 => sl_pure (p_ix k3 (.slot 17) [] 0 gx1))
     intro x1 gx1 h
     refine SWp.o 20 (I x1) ?_ (sl_pure (p_lc k3 (.slot 17) [0] 0 (.int .i64 x1) gx1))
     refine SWp.o 21 (.one (.sl false 3 1 (encs c3 xB))) ?_
     refine SWp.o 22 (I yI1) ?_
     refine SWp.p h 23 (fun _ => (.one (.ptr (.slot 21) 1 [0] (Int.toNat yI1 * 1 + 0)))) ?_ (fun x2 gx2 => sl_pure (p_ix k3 (.slot 21) [] 0 gx2))
     intro x2 gx2 h
     refine SWp.o 24 (I x2) ?_ (sl_pure (p_lc k3 (.slot 21) [0] 0 (.int .i64 x2) gx2))
     refine SWp.o 25 (B (x1 != x2)) ?_
     refine SWp.nil ?_
     refine Wp.c h (fun h => ?_) (fun h => ?_)
     · refine Wp.seq (Wp.region ?_)
       refine LWp.o 4 (B false) ?_
       refine LWp.nil ?_
       cases h
       replace h : some _ = some _ := hk1 _ rfl
       cases h
       exact Wp.ret ⟨.inr rfl, _, _, rfl, rfl⟩
     refine Wp.skip ?_
     refine Wp.region ?_
     refine LWp.o 15 (I yI1) ?_
     refine LWp.o 16 (I (ad yI1 1)) ?_
     refine LWp.o 5 (I (ad yI1 1)) ?_
     refine LWp.nil ?_
     cases h
     exact ⟨_, rfl, rfl, rfl⟩
   refine Wp.exit ?_
   cases h
   exact ⟨_, rfl, rfl, rfl⟩
 intro v1 h E hE
 refine nt_wp hE ?_
 change Wp _ _ _ w_eqIntS_H2 _
 refine Wp.seq (Wp.region ?_)
 refine LWp.o 4 (B true) ?_
 refine LWp.nil ?_
 cases h
 exact Wp.ret ⟨.inr rfl, _, _, rfl, rfl⟩
theorem w_eqLeaf_t (xA : Leaf) (xB : Leaf) (r : Bool) (h : w_eqLeaf xA xB = some r) : Gives Tryz.prog 204 [.sv (.agg [.int .i64 xA.Is, .str xA.Text]), .sv (.agg [.int .i64 xB.Is, .str xB.Text])] (B r) (List.replicate 2 .gone) := by
 unfold w_eqLeaf at h
 refine gives_of Tryz.func204 rfl ?_
 rw [Tryz.ntmps204]
 refine Wp.seq (Wp.region ?_)
 refine LWp.b [] 2 [.int .i64 xA.Is, .str xA.Text] ?_
 refine LWp.b [] 3 [.int .i64 xB.Is, .str xB.Text] ?_
 refine LWp.o 4 (B false) ?_
 refine LWp.nil ?_
 refine Wp.seq ?_
 refine Wp.seq (Wp.region ?_)
 refine LWp.o 5 (.one (.ptr (.box 2) 1 [] 0)) ?_
 refine LWp.o 6 (I xA.Is) ?_
 refine LWp.o 7 (.one (.ptr (.box 3) 1 [] 0)) ?_
 refine LWp.o 8 (I xB.Is) ?_
 refine LWp.o 9 (B (xA.Is != xB.Is)) ?_
 refine LWp.nil ?_
 refine Wp.c h (fun h => ?_) (fun h => ?_)
 · refine Wp.seq (Wp.region ?_)
   refine LWp.o 4 (B false) ?_
   refine LWp.nil ?_
   cases h
   exact Wp.ret ⟨.inr rfl, _, _, rfl, rfl⟩
 refine Wp.skip ?_
 refine Wp.seq ?_
 refine Wp.seq (Wp.region ?_)
 refine LWp.o 10 (.one (.ptr (.box 2) 1 [] 1)) ?_
 refine LWp.o 11 (Y xA.Text) ?_
 refine LWp.o 12 (.one (.ptr (.box 3) 1 [] 1)) ?_
 refine LWp.o 13 (Y xB.Text) ?_
 refine LWp.o 14 (B (!(seq xA.Text xB.Text))) ?_
 refine LWp.nil ?_
 refine Wp.c h (fun h => ?_) (fun h => ?_)
 · refine Wp.seq (Wp.region ?_)
   refine LWp.o 4 (B false) ?_
   refine LWp.nil ?_
   cases h
   exact Wp.ret ⟨.inr rfl, _, _, rfl, rfl⟩
 refine Wp.skip ?_
 refine Wp.seq (Wp.region ?_)
 refine LWp.o 4 (B true) ?_
 refine LWp.nil ?_
 cases h
 exact Wp.ret ⟨.inr rfl, _, _, rfl, rfl⟩
def w_eqLeafS_H1 (xA : List Leaf) (xB : List Leaf) (z1 : Int) : St := mkSt [(0, (.one (.sl false 165 2 (encs c165 xA)))), (1, (.one (.sl false 165 2 (encs c165 xB)))), (5, (I z1))] []
def w_eqLeafS_H2  : St := mkSt [] []
theorem w_eqLeafS_t (xA : List Leaf) (xB : List Leaf) (r : Bool) (h : w_eqLeafS xA xB = some r) : Gives Tryz.prog 177 [.sv (.one (.sl false 165 2 (encs c165 xA))), .sv (.one (.sl false 165 2 (encs c165 xB)))] (B r) (List.replicate 2 .gone) := by
 unfold w_eqLeafS at h
 refine gives_of Tryz.func177 rfl ?_
 rw [Tryz.ntmps177]
 refine Wp.seq (Wp.region ?_)
 refine LWp.o 4 (B false) ?_
 refine LWp.nil ?_
 refine Wp.seq ?_
 refine Wp.seq (Wp.region ?_)
 refine LWp.o 6 (.one (.sl false 165 2 (encs c165 xA))) ?_
 refine LWp.o 7 (I (ln xA)) ?_ (st_pure (p_ln k165 xA))
 refine LWp.o 8 (.one (.sl false 165 2 (encs c165 xB))) ?_
 refine LWp.o 9 (I (ln xB)) ?_ (st_pure (p_ln k165 xB))
 refine LWp.o 10 (B ((ln xA) != (ln xB))) ?_
 refine LWp.nil ?_
 refine Wp.c h (fun h => ?_) (fun h => ?_)
 · refine Wp.seq (Wp.region ?_)
   refine LWp.o 4 (B false) ?_
   refine LWp.nil ?_
   cases h
   exact Wp.ret ⟨.inr rfl, _, _, rfl, rfl⟩
 refine Wp.skip ?_
 refine Wp.seq ?_
 refine Wp.seq (Wp.region ?_)
 refine LWp.o 5 (I 0) ?_
 refine LWp.nil ?_
 refine Wp.l2 h [0, 1, 5] [] (fun s => (w_eqLeafS_H1 xA xB s)) [] [] (fun _ => w_eqLeafS_H2) ⟨rfl, rfl⟩ ?_ ?_
 · rintro yI1 o (h : w_eqLeafS_b1 xA xB yI1 = some o) hk1
   unfold w_eqLeafS_b1 at h
   change Wp _ _ _ (w_eqLeafS_H1 xA xB yI1) _
   refine Wp.seq ?_
   refine Wp.seq (Wp.region ?_)
   refine LWp.o 11 (I yI1) ?_
   refine LWp.o 12 (.one (.sl false 165 2 (encs c165 xA))) ?_
   refine LWp.o 13 (I (ln xA)) ?_ (st_pure (p_ln k165 xA))
   refine LWp.o 14 (B (decide (yI1 < (ln xA)))) ?_
   refine LWp.nil ?_
   refine Wp.c h (fun h => ?_) (fun h => ?_)
   · refine Wp.skip ?_
     refine Wp.seq ?_
     refine Wp.block ?_
     refine Wp.seq ?_
     refine Wp.regionT 8 mixed (by decide +kernel) ?_
     refine SWp.o 17 (.one (.sl false 165 2 (encs c165 xA))) ?_
     refine SWp.o 18 (I yI1) ?_
     refine SWp.p h 19 (fun _ => (.one (.ptr (.slot 17) 1 [0] (Int.toNat yI1 * 2 + 0)))) ?_ (fun x1 gx1 => sl_pure (p_ix k165 (.slot 17) [] 0 gx1))
     intro x1 gx1 h
     refine SWp.o 20 (.agg [.int .i64 x1.Is, .str x1.Text]) ?_ (sl_pure (p_le k165 (.slot 17) [0] gx1))
     refine SWp.o 21 (.one (.sl false 165 2 (encs c165 xB))) ?_
     refine SWp.o 22 (I yI1) ?_
     refine SWp.p h 23 (fun _ => (.one (.ptr (.slot 21) 1 [0] (Int.toNat yI1 * 2 + 0)))) ?_ (fun x2 gx2 => sl_pure (p_ix k165 (.slot 21) [] 0 gx2))
     intro x2 gx2 h
     refine SWp.o 24 (.agg [.int .i64 x2.Is, .str x2.Text]) ?_ (sl_pure (p_le k165 (.slot 21) [0] gx2))
     refine SWp.nil ?_
     refine LWp.cl h 25 (fun v1 => (B v1)) rfl (l := [.sv (.agg [.int .i64 x1.Is, .str x1.Text]), .sv (.agg [.int .i64 x2.Is, .str x2.Text])]) rfl (fun v hv => w_eqLeaf_t x1 x2 v hv) (.inl rfl) ?_
     intro v1 gv1 h
     refine LWp.o 26 (B (!v1)) ?_
     refine LWp.nil ?_
     refine Wp.c h (fun h => ?_) (fun h => ?_)
     · refine Wp.seq (Wp.region ?_)
       refine LWp.o 4 (B false) ?_
       refine LWp.nil ?_
       cases h
       replace h : some _ = some _ := hk1 _ rfl
       cases h
       exact Wp.ret ⟨.inr rfl, _, _, rfl, rfl⟩
     refine Wp.skip ?_
     refine Wp.region ?_
     refine LWp.o 15 (I yI1) ?_
     refine LWp.o 16 (I (ad yI1 1)) ?_
     refine LWp.o 5 (I (ad yI1 1)) ?_
     refine LWp.nil ?_
     cases h
     exact ⟨_, rfl, rfl, rfl⟩
   refine Wp.exit ?_
   cases h
   exact ⟨_, rfl, rfl, rfl⟩
 intro v2 h E hE
 refine nt_wp hE ?_
 change Wp _ _ _ w_eqLeafS_H2 _
 refine Wp.seq (Wp.region ?_)
 refine LWp.o 4 (B true) ?_
 refine LWp.nil ?_
 cases h
 exact Wp.ret ⟨.inr rfl, _, _, rfl, rfl⟩
theorem w_eqBlock_t (xA : Block) (xB : Block) (r : Bool) (h : w_eqBlock xA xB = some r) : Gives Tryz.prog 145 [.sv (.agg [.bool xA.Bad, .int .i64 xA.Wear, .sl false 165 2 (encs c165 xA.Leaves)]), .sv (.agg [.bool xB.Bad, .int .i64 xB.Wear, .sl false 165 2 (encs c165 xB.Leaves)])] (B r) (List.replicate 2 .gone) := by
 unfold w_eqBlock at h
 refine gives_of Tryz.func145 rfl ?_
 rw [Tryz.ntmps145]
 refine Wp.seq (Wp.region ?_)
 refine LWp.b [] 2 [.bool xA.Bad, .int .i64 xA.Wear, .sl false 165 2 (encs c165 xA.Leaves)] ?_
 refine LWp.b [] 3 [.bool xB.Bad, .int .i64 xB.Wear, .sl false 165 2 (encs c165 xB.Leaves)] ?_
 refine LWp.o 4 (B false) ?_
 refine LWp.nil ?_
 refine Wp.seq ?_
 refine Wp.seq (Wp.region ?_)
 refine LWp.o 5 (.one (.ptr (.box 2) 1 [] 0)) ?_
 refine LWp.o 6 (B xA.Bad) ?_
 refine LWp.o 7 (.one (.ptr (.box 3) 1 [] 0)) ?_
 refine LWp.o 8 (B xB.Bad) ?_
 refine LWp.o 9 (B (!(xA.Bad == xB.Bad))) ?_
 refine LWp.nil ?_
 refine Wp.c h (fun h => ?_) (fun h => ?_)
 · refine Wp.seq (Wp.region ?_)
   refine LWp.o 4 (B false) ?_
   refine LWp.nil ?_
   cases h
   exact Wp.ret ⟨.inr rfl, _, _, rfl, rfl⟩
 refine Wp.skip ?_
 refine Wp.seq ?_
 refine Wp.seq (Wp.region ?_)
 refine LWp.o 10 (.one (.ptr (.box 2) 1 [] 1)) ?_
 refine LWp.o 11 (I xA.Wear) ?_
 refine LWp.o 12 (.one (.ptr (.box 3) 1 [] 1)) ?_
 refine LWp.o 13 (I xB.Wear) ?_
 refine LWp.o 14 (B (xA.Wear != xB.Wear)) ?_
 refine LWp.nil ?_
 refine Wp.c h (fun h => ?_) (fun h => ?_)
 · refine Wp.seq (Wp.region ?_)
   refine LWp.o 4 (B false) ?_
   refine LWp.nil ?_
   cases h
   exact Wp.ret ⟨.inr rfl, _, _, rfl, rfl⟩
 refine Wp.skip ?_
 refine Wp.seq ?_
 refine Wp.seq (Wp.region ?_)
 refine LWp.o 15 (.one (.ptr (.box 2) 1 [] 2)) ?_
 refine LWp.o 16 (.one (.sl false 165 2 (encs c165 xA.Leaves))) ?_
 refine LWp.o 17 (.one (.ptr (.box 3) 1 [] 2)) ?_
 refine LWp.o 18 (.one (.sl false 165 2 (encs c165 xB.Leaves))) ?_
 refine LWp.cl h 19 (fun v1 => (B v1)) rfl (l := [.sv (.one (.sl false 165 2 (encs c165 xA.Leaves))), .sv (.one (.sl false 165 2 (encs c165 xB.Leaves)))]) rfl (fun v hv => w_eqLeafS_t xA.Leaves xB.Leaves v hv) (.inl rfl) ?_
 intro v1 gv1 h
 refine LWp.o 20 (B (!v1)) ?_
 refine LWp.nil ?_
 refine Wp.c h (fun h => ?_) (fun h => ?_)
 · refine Wp.seq (Wp.region ?_)
   refine LWp.o 4 (B false) ?_
   refine LWp.nil ?_
   cases h
   exact Wp.ret ⟨.inr rfl, _, _, rfl, rfl⟩
 refine Wp.skip ?_
 refine Wp.seq (Wp.region ?_)
 refine LWp.o 4 (B true) ?_
 refine LWp.nil ?_
 cases h
 exact Wp.ret ⟨.inr rfl, _, _, rfl, rfl⟩
def w_eqBlockS_H1 (xA : List Block) (xB : List Block) (z1 : Int) : St := mkSt [(0, (.one (.sl false 124 3 (encs (c124 false) xA)))), (1, (.one (.sl false 124 3 (encs (c124 false) xB)))), (5, (I z1))] []
def w_eqBlockS_H2  : St := mkSt [] []
theorem w_eqBlockS_t (xA : List Block) (xB : List Block) (r : Bool) (h : w_eqBlockS xA xB = some r) : Gives Tryz.prog 93 [.sv (.one (.sl false 124 3 (encs (c124 false) xA))), .sv (.one (.sl false 124 3 (encs (c124 false) xB)))] (B r) (List.replicate 2 .gone) := by
 unfold w_eqBlockS at h
 refine gives_of Tryz.func93 rfl ?_
 rw [Tryz.ntmps93]
 refine Wp.seq (Wp.region ?_)
 refine LWp.o 4 (B false) ?_
 refine LWp.nil ?_
 refine Wp.seq ?_
 refine Wp.seq (Wp.region ?_)
 refine LWp.o 6 (.one (.sl false 124 3 (encs (c124 false) xA))) ?_
 refine LWp.o 7 (I (ln xA)) ?_ (st_pure (p_ln (k124 false) xA))
 refine LWp.o 8 (.one (.sl false 124 3 (encs (c124 false) xB))) ?_
 refine LWp.o 9 (I (ln xB)) ?_ (st_pure (p_ln (k124 false) xB))
 refine LWp.o 10 (B ((ln xA) != (ln xB))) ?_
 refine LWp.nil ?_
 refine Wp.c h (fun h => ?_) (fun h => ?_)
 · refine Wp.seq (Wp.region ?_)
   refine LWp.o 4 (B false) ?_
   refine LWp.nil ?_
   cases h
   exact Wp.ret ⟨.inr rfl, _, _, rfl, rfl⟩
 refine Wp.skip ?_
 refine Wp.seq ?_
 refine Wp.seq (Wp.region ?_)
 refine LWp.o 5 (I 0) ?_
 refine LWp.nil ?_
 refine Wp.l2 h [0, 1, 5] [] (fun s => (w_eqBlockS_H1 xA xB s)) [] [] (fun _ => w_eqBlockS_H2) ⟨rfl, rfl⟩ ?_ ?_
 · rintro yI1 o (h : w_eqBlockS_b1 xA xB yI1 = some o) hk1
   unfold w_eqBlockS_b1 at h
   change Wp _ _ _ (w_eqBlockS_H1 xA xB yI1) _
   refine Wp.seq ?_
   refine Wp.seq (Wp.region ?_)
   refine LWp.o 11 (I yI1) ?_
   refine LWp.o 12 (.one (.sl false 124 3 (encs (c124 false) xA))) ?_
   refine LWp.o 13 (I (ln xA)) ?_ (st_pure (p_ln (k124 false) xA))
   refine LWp.o 14 (B (decide (yI1 < (ln xA)))) ?_
   refine LWp.nil ?_
   refine Wp.c h (fun h => ?_) (fun h => ?_)
   · refine Wp.skip ?_
     refine Wp.seq ?_
     refine Wp.block ?_
     refine Wp.seq ?_
     refine Wp.regionT 8 mixed (by decide +kernel) ?_
     refine SWp.o 17 (.one (.sl false 124 3 (encs (c124 false) xA))) ?_
     refine SWp.o 18 (I yI1) ?_
     refine SWp.p h 19 (fun _ => (.one (.ptr (.slot 17) 1 [0] (Int.toNat yI1 * 3 + 0)))) ?_ (fun x1 gx1 => sl_pure (p_ix (k124 false) (.slot 17) [] 0 gx1))
     intro x1 gx1 h
     refine SWp.o 20 (.agg [.bool x1.Bad, .int .i64 x1.Wear, .sl false 165 2 (encs c165 x1.Leaves)]) ?_ (sl_pure (p_le (k124 false) (.slot 17) [0] gx1))
     refine SWp.o 21 (.one (.sl false 124 3 (encs (c124 false) xB))) ?_
     refine SWp.o 22 (I yI1) ?_
     refine SWp.p h 23 (fun _ => (.one (.ptr (.slot 21) 1 [0] (Int.toNat yI1 * 3 + 0)))) ?_ (fun x2 gx2 => sl_pure (p_ix (k124 false) (.slot 21) [] 0 gx2))
     intro x2 gx2 h
     refine SWp.o 24 (.agg [.bool x2.Bad, .int .i64 x2.Wear, .sl false 165 2 (encs c165 x2.Leaves)]) ?_ (sl_pure (p_le (k124 false) (.slot 21) [0] gx2))
     refine SWp.nil ?_
     refine LWp.cl h 25 (fun v1 => (B v1)) rfl (l := [.sv (.agg [.bool x1.Bad, .int .i64 x1.Wear, .sl false 165 2 (encs c165 x1.Leaves)]), .sv (.agg [.bool x2.Bad, .int .i64 x2.Wear, .sl false 165 2 (encs c165 x2.Leaves)])]) rfl (fun v hv => w_eqBlock_t x1 x2 v hv) (.inl rfl) ?_
     intro v1 gv1 h
     refine LWp.o 26 (B (!v1)) ?_
     refine LWp.nil ?_
     refine Wp.c h (fun h => ?_) (fun h => ?_)
     · refine Wp.seq (Wp.region ?_)
       refine LWp.o 4 (B false) ?_
       refine LWp.nil ?_
       cases h
       replace h : some _ = some _ := hk1 _ rfl
       cases h
       exact Wp.ret ⟨.inr rfl, _, _, rfl, rfl⟩
     refine Wp.skip ?_
     refine Wp.region ?_
     refine LWp.o 15 (I yI1) ?_
     refine LWp.o 16 (I (ad yI1 1)) ?_
     refine LWp.o 5 (I (ad yI1 1)) ?_
     refine LWp.nil ?_
     cases h
     exact ⟨_, rfl, rfl, rfl⟩
   refine Wp.exit ?_
   cases h
   exact ⟨_, rfl, rfl, rfl⟩
 intro v2 h E hE
 refine nt_wp hE ?_
 change Wp _ _ _ w_eqBlockS_H2 _
 refine Wp.seq (Wp.region ?_)
 refine LWp.o 4 (B true) ?_
 refine LWp.nil ?_
 cases h
 exact Wp.ret ⟨.inr rfl, _, _, rfl, rfl⟩
theorem w_eqFlash_t (xA : Flash) (xB : Flash) (r : Bool) (h : w_eqFlash xA xB = some r) : Gives Tryz.prog 48 [.sv (.agg [.sl false 124 3 (encs (c124 false) xA.Blocks)]), .sv (.agg [.sl false 124 3 (encs (c124 false) xB.Blocks)])] (B r) (List.replicate 2 .gone) := by
 unfold w_eqFlash at h
 refine gives_of Tryz.func48 rfl ?_
 rw [Tryz.ntmps48]
 refine Wp.seq (Wp.region ?_)
 refine LWp.b [] 2 [.sl false 124 3 (encs (c124 false) xA.Blocks)] ?_
 refine LWp.b [] 3 [.sl false 124 3 (encs (c124 false) xB.Blocks)] ?_
 refine LWp.o 4 (B false) ?_
 refine LWp.nil ?_
 refine Wp.seq ?_
 refine Wp.seq (Wp.region ?_)
 refine LWp.o 5 (.one (.ptr (.box 2) 1 [] 0)) ?_
 refine LWp.o 6 (.one (.sl false 124 3 (encs (c124 false) xA.Blocks))) ?_
 refine LWp.o 7 (.one (.ptr (.box 3) 1 [] 0)) ?_
 refine LWp.o 8 (.one (.sl false 124 3 (encs (c124 false) xB.Blocks))) ?_
 refine LWp.cl h 9 (fun v1 => (B v1)) rfl (l := [.sv (.one (.sl false 124 3 (encs (c124 false) xA.Blocks))), .sv (.one (.sl false 124 3 (encs (c124 false) xB.Blocks)))]) rfl (fun v hv => w_eqBlockS_t xA.Blocks xB.Blocks v hv) (.inl rfl) ?_
 intro v1 gv1 h
 refine LWp.o 10 (B (!v1)) ?_
 refine LWp.nil ?_
 refine Wp.c h (fun h => ?_) (fun h => ?_)
 · refine Wp.seq (Wp.region ?_)
   refine LWp.o 4 (B false) ?_
   refine LWp.nil ?_
   cases h
   exact Wp.ret ⟨.inr rfl, _, _, rfl, rfl⟩
 refine Wp.skip ?_
 refine Wp.seq (Wp.region ?_)
 refine LWp.o 4 (B true) ?_
 refine LWp.nil ?_
 cases h
 exact Wp.ret ⟨.inr rfl, _, _, rfl, rfl⟩
theorem w_eqVol_t (xA : Vol) (xB : Vol) (r : Bool) (h : w_eqVol xA xB = some r) : Gives Tryz.prog 146 [.sv (.agg [.int .i64 xA.Id, .int .i64 xA.Root]), .sv (.agg [.int .i64 xB.Id, .int .i64 xB.Root])] (B r) (List.replicate 2 .gone) := by
 unfold w_eqVol at h
 refine gives_of Tryz.func146 rfl ?_
 rw [Tryz.ntmps146]
 refine Wp.seq (Wp.region ?_)
 refine LWp.b [] 2 [.int .i64 xA.Id, .int .i64 xA.Root] ?_
 refine LWp.b [] 3 [.int .i64 xB.Id, .int .i64 xB.Root] ?_
 refine LWp.o 4 (B false) ?_
 refine LWp.nil ?_
 refine Wp.seq ?_
 refine Wp.seq (Wp.region ?_)
 refine LWp.o 5 (.one (.ptr (.box 2) 1 [] 0)) ?_
 refine LWp.o 6 (I xA.Id) ?_
 refine LWp.o 7 (.one (.ptr (.box 3) 1 [] 0)) ?_
 refine LWp.o 8 (I xB.Id) ?_
 refine LWp.o 9 (B (xA.Id != xB.Id)) ?_
 refine LWp.nil ?_
 refine Wp.c h (fun h => ?_) (fun h => ?_)
 · refine Wp.seq (Wp.region ?_)
   refine LWp.o 4 (B false) ?_
   refine LWp.nil ?_
   cases h
   exact Wp.ret ⟨.inr rfl, _, _, rfl, rfl⟩
 refine Wp.skip ?_
 refine Wp.seq ?_
 refine Wp.seq (Wp.region ?_)
 refine LWp.o 10 (.one (.ptr (.box 2) 1 [] 1)) ?_
 refine LWp.o 11 (I xA.Root) ?_
 refine LWp.o 12 (.one (.ptr (.box 3) 1 [] 1)) ?_
 refine LWp.o 13 (I xB.Root) ?_
 refine LWp.o 14 (B (xA.Root != xB.Root)) ?_
 refine LWp.nil ?_
 refine Wp.c h (fun h => ?_) (fun h => ?_)
 · refine Wp.seq (Wp.region ?_)
   refine LWp.o 4 (B false) ?_
   refine LWp.nil ?_
   cases h
   exact Wp.ret ⟨.inr rfl, _, _, rfl, rfl⟩
 refine Wp.skip ?_
 refine Wp.seq (Wp.region ?_)
 refine LWp.o 4 (B true) ?_
 refine LWp.nil ?_
 cases h
 exact Wp.ret ⟨.inr rfl, _, _, rfl, rfl⟩
def w_eqVolS_H1 (xA : List Vol) (xB : List Vol) (z1 : Int) : St := mkSt [(0, (.one (.sl false 110 2 (encs c110 xA)))), (1, (.one (.sl false 110 2 (encs c110 xB)))), (5, (I z1))] []
def w_eqVolS_H2  : St := mkSt [] []
theorem w_eqVolS_t (xA : List Vol) (xB : List Vol) (r : Bool) (h : w_eqVolS xA xB = some r) : Gives Tryz.prog 94 [.sv (.one (.sl false 110 2 (encs c110 xA))), .sv (.one (.sl false 110 2 (encs c110 xB)))] (B r) (List.replicate 2 .gone) := by
 unfold w_eqVolS at h
 refine gives_of Tryz.func94 rfl ?_
 rw [Tryz.ntmps94]
 refine Wp.seq (Wp.region ?_)
 refine LWp.o 4 (B false) ?_
 refine LWp.nil ?_
 refine Wp.seq ?_
 refine Wp.seq (Wp.region ?_)
 refine LWp.o 6 (.one (.sl false 110 2 (encs c110 xA))) ?_
 refine LWp.o 7 (I (ln xA)) ?_ (st_pure (p_ln k110 xA))
 refine LWp.o 8 (.one (.sl false 110 2 (encs c110 xB))) ?_
 refine LWp.o 9 (I (ln xB)) ?_ (st_pure (p_ln k110 xB))
 refine LWp.o 10 (B ((ln xA) != (ln xB))) ?_
 refine LWp.nil ?_
 refine Wp.c h (fun h => ?_) (fun h => ?_)
 · refine Wp.seq (Wp.region ?_)
   refine LWp.o 4 (B false) ?_
   refine LWp.nil ?_
   cases h
   exact Wp.ret ⟨.inr rfl, _, _, rfl, rfl⟩
 refine Wp.skip ?_
 refine Wp.seq ?_
 refine Wp.seq (Wp.region ?_)
 refine LWp.o 5 (I 0) ?_
 refine LWp.nil ?_
 refine Wp.l2 h [0, 1, 5] [] (fun s => (w_eqVolS_H1 xA xB s)) [] [] (fun _ => w_eqVolS_H2) ⟨rfl, rfl⟩ ?_ ?_
 · rintro yI1 o (h : w_eqVolS_b1 xA xB yI1 = some o) hk1
   unfold w_eqVolS_b1 at h
   change Wp _ _ _ (w_eqVolS_H1 xA xB yI1) _
   refine Wp.seq ?_
   refine Wp.seq (Wp.region ?_)
   refine LWp.o 11 (I yI1) ?_
   refine LWp.o 12 (.one (.sl false 110 2 (encs c110 xA))) ?_
   refine LWp.o 13 (I (ln xA)) ?_ (st_pure (p_ln k110 xA))
   refine LWp.o 14 (B (decide (yI1 < (ln xA)))) ?_
   refine LWp.nil ?_
   refine Wp.c h (fun h => ?_) (fun h => ?_)
   · refine Wp.skip ?_
     refine Wp.seq ?_
     refine Wp.block ?_
     refine Wp.seq ?_
     refine Wp.regionT 8 mixed (by decide +kernel) ?_
     refine SWp.o 17 (.one (.sl false 110 2 (encs c110 xA))) ?_
     refine SWp.o 18 (I yI1) ?_
     refine SWp.p h 19 (fun _ => (.one (.ptr (.slot 17) 1 [0] (Int.toNat yI1 * 2 + 0)))) ?_ (fun x1 gx1 => sl_pure (p_ix k110 (.slot 17) [] 0 gx1))
     intro x1 gx1 h
     refine SWp.o 20 (.agg [.int .i64 x1.Id, .int .i64 x1.Root]) ?_ (sl_pure (p_le k110 (.slot 17) [0] gx1))
     refine SWp.o 21 (.one (.sl false 110 2 (encs c110 xB))) ?_
     refine SWp.o 22 (I yI1) ?_
     refine SWp.p h 23 (fun _ => (.one (.ptr (.slot 21) 1 [0] (Int.toNat yI1 * 2 + 0)))) ?_ (fun x2 gx2 => sl_pure (p_ix k110 (.slot 21) [] 0 gx2))
     intro x2 gx2 h
     refine SWp.o 24 (.agg [.int .i64 x2.Id, .int .i64 x2.Root]) ?_ (sl_pure (p_le k110 (.slot 21) [0] gx2))
     refine SWp.nil ?_
     refine LWp.cl h 25 (fun v1 => (B v1)) rfl (l := [.sv (.agg [.int .i64 x1.Id, .int .i64 x1.Root]), .sv (.agg [.int .i64 x2.Id, .int .i64 x2.Root])]) rfl (fun v hv => w_eqVol_t x1 x2 v hv) (.inl rfl) ?_
     intro v1 gv1 h
     refine LWp.o 26 (B (!v1)) ?_
     refine LWp.nil ?_
     refine Wp.c h (fun h => ?_) (fun h => ?_)
     · refine Wp.seq (Wp.region ?_)
       refine LWp.o 4 (B false) ?_
       refine LWp.nil ?_
       cases h
       replace h : some _ = some _ := hk1 _ rfl
       cases h
       exact Wp.ret ⟨.inr rfl, _, _, rfl, rfl⟩
     refine Wp.skip ?_
     refine Wp.region ?_
     refine LWp.o 15 (I yI1) ?_
     refine LWp.o 16 (I (ad yI1 1)) ?_
     refine LWp.o 5 (I (ad yI1 1)) ?_
     refine LWp.nil ?_
     cases h
     exact ⟨_, rfl, rfl, rfl⟩
   refine Wp.exit ?_
   cases h
   exact ⟨_, rfl, rfl, rfl⟩
 intro v2 h E hE
 refine nt_wp hE ?_
 change Wp _ _ _ w_eqVolS_H2 _
 refine Wp.seq (Wp.region ?_)
 refine LWp.o 4 (B true) ?_
 refine LWp.nil ?_
 cases h
 exact Wp.ret ⟨.inr rfl, _, _, rfl, rfl⟩
theorem w_eqKnot_t (xA : Knot) (xB : Knot) (r : Bool) (h : w_eqKnot xA xB = some r) : Gives Tryz.prog 178 [.sv (.agg [.bool xA.Leaf, .sl false 3 1 (encs c3 xA.Kids)]), .sv (.agg [.bool xB.Leaf, .sl false 3 1 (encs c3 xB.Kids)])] (B r) (List.replicate 2 .gone) := by
 unfold w_eqKnot at h
 refine gives_of Tryz.func178 rfl ?_
 rw [Tryz.ntmps178]
 refine Wp.seq (Wp.region ?_)
 refine LWp.b [] 2 [.bool xA.Leaf, .sl false 3 1 (encs c3 xA.Kids)] ?_
 refine LWp.b [] 3 [.bool xB.Leaf, .sl false 3 1 (encs c3 xB.Kids)] ?_
 refine LWp.o 4 (B false) ?_
 refine LWp.nil ?_
 refine Wp.seq ?_
 refine Wp.seq (Wp.region ?_)
 refine LWp.o 5 (.one (.ptr (.box 2) 1 [] 0)) ?_
 refine LWp.o 6 (B xA.Leaf) ?_
 refine LWp.o 7 (.one (.ptr (.box 3) 1 [] 0)) ?_
 refine LWp.o 8 (B xB.Leaf) ?_
 refine LWp.o 9 (B (!(xA.Leaf == xB.Leaf))) ?_
 refine LWp.nil ?_
 refine Wp.c h (fun h => ?_) (fun h => ?_)
 · refine Wp.seq (Wp.region ?_)
   refine LWp.o 4 (B false) ?_
   refine LWp.nil ?_
   cases h
   exact Wp.ret ⟨.inr rfl, _, _, rfl, rfl⟩
 refine Wp.skip ?_
 refine Wp.seq ?_
 refine Wp.seq (Wp.region ?_)
 refine LWp.o 10 (.one (.ptr (.box 2) 1 [] 1)) ?_
 refine LWp.o 11 (.one (.sl false 3 1 (encs c3 xA.Kids))) ?_
 refine LWp.o 12 (.one (.ptr (.box 3) 1 [] 1)) ?_
 refine LWp.o 13 (.one (.sl false 3 1 (encs c3 xB.Kids))) ?_
 refine LWp.cl h 14 (fun v1 => (B v1)) rfl (l := [.sv (.one (.sl false 3 1 (encs c3 xA.Kids))), .sv (.one (.sl false 3 1 (encs c3 xB.Kids)))]) rfl (fun v hv => w_eqIntS_t xA.Kids xB.Kids v hv) (.inl rfl) ?_
 intro v1 gv1 h
 refine LWp.o 15 (B (!v1)) ?_
 refine LWp.nil ?_
 refine Wp.c h (fun h => ?_) (fun h => ?_)
 · refine Wp.seq (Wp.region ?_)
   refine LWp.o 4 (B false) ?_
   refine LWp.nil ?_
   cases h
   exact Wp.ret ⟨.inr rfl, _, _, rfl, rfl⟩
 refine Wp.skip ?_
 refine Wp.seq (Wp.region ?_)
 refine LWp.o 4 (B true) ?_
 refine LWp.nil ?_
 cases h
 exact Wp.ret ⟨.inr rfl, _, _, rfl, rfl⟩
def w_eqKnotS_H1 (xA : List Knot) (xB : List Knot) (z1 : Int) : St := mkSt [(0, (.one (.sl false 218 2 (encs (c218 false) xA)))), (1, (.one (.sl false 218 2 (encs (c218 false) xB)))), (5, (I z1))] []
def w_eqKnotS_H2  : St := mkSt [] []
theorem w_eqKnotS_t (xA : List Knot) (xB : List Knot) (r : Bool) (h : w_eqKnotS xA xB = some r) : Gives Tryz.prog 147 [.sv (.one (.sl false 218 2 (encs (c218 false) xA))), .sv (.one (.sl false 218 2 (encs (c218 false) xB)))] (B r) (List.replicate 2 .gone) := by
 unfold w_eqKnotS at h
 refine gives_of Tryz.func147 rfl ?_
 rw [Tryz.ntmps147]
 refine Wp.seq (Wp.region ?_)
 refine LWp.o 4 (B false) ?_
 refine LWp.nil ?_
 refine Wp.seq ?_
 refine Wp.seq (Wp.region ?_)
 refine LWp.o 6 (.one (.sl false 218 2 (encs (c218 false) xA))) ?_
 refine LWp.o 7 (I (ln xA)) ?_ (st_pure (p_ln (k218 false) xA))
 refine LWp.o 8 (.one (.sl false 218 2 (encs (c218 false) xB))) ?_
 refine LWp.o 9 (I (ln xB)) ?_ (st_pure (p_ln (k218 false) xB))
 refine LWp.o 10 (B ((ln xA) != (ln xB))) ?_
 refine LWp.nil ?_
 refine Wp.c h (fun h => ?_) (fun h => ?_)
 · refine Wp.seq (Wp.region ?_)
   refine LWp.o 4 (B false) ?_
   refine LWp.nil ?_
   cases h
   exact Wp.ret ⟨.inr rfl, _, _, rfl, rfl⟩
 refine Wp.skip ?_
 refine Wp.seq ?_
 refine Wp.seq (Wp.region ?_)
 refine LWp.o 5 (I 0) ?_
 refine LWp.nil ?_
 refine Wp.l2 h [0, 1, 5] [] (fun s => (w_eqKnotS_H1 xA xB s)) [] [] (fun _ => w_eqKnotS_H2) ⟨rfl, rfl⟩ ?_ ?_
 · rintro yI1 o (h : w_eqKnotS_b1 xA xB yI1 = some o) hk1
   unfold w_eqKnotS_b1 at h
   change Wp _ _ _ (w_eqKnotS_H1 xA xB yI1) _
   refine Wp.seq ?_
   refine Wp.seq (Wp.region ?_)
   refine LWp.o 11 (I yI1) ?_
   refine LWp.o 12 (.one (.sl false 218 2 (encs (c218 false) xA))) ?_
   refine LWp.o 13 (I (ln xA)) ?_ (st_pure (p_ln (k218 false) xA))
   refine LWp.o 14 (B (decide (yI1 < (ln xA)))) ?_
   refine LWp.nil ?_
   refine Wp.c h (fun h => ?_) (fun h => ?_)
   · refine Wp.skip ?_
     refine Wp.seq ?_
     refine Wp.block ?_
     refine Wp.seq ?_
     refine Wp.regionT 8 mixed (by decide +kernel) ?_
     refine SWp.o 17 (.one (.sl false 218 2 (encs (c218 false) xA))) ?_
     refine SWp.o 18 (I yI1) ?_
     refine SWp.p h 19 (fun _ => (.one (.ptr (.slot 17) 1 [0] (Int.toNat yI1 * 2 + 0)))) ?_ (fun x1 gx1 => sl_pure (p_ix (k218 false) (.slot 17) [] 0 gx1))
     intro x1 gx1 h
     refine SWp.o 20 (.agg [.bool x1.Leaf, .sl false 3 1 (encs c3 x1.Kids)]) ?_ (sl_pure (p_le (k218 false) (.slot 17) [0] gx1))
     refine SWp.o 21 (.one (.sl false 218 2 (encs (c218 false) xB))) ?_
     refine SWp.o 22 (I yI1) ?_
     refine SWp.p h 23 (fun _ => (.one (.ptr (.slot 21) 1 [0] (Int.toNat yI1 * 2 + 0)))) ?_ (fun x2 gx2 => sl_pure (p_ix (k218 false) (.slot 21) [] 0 gx2))
     intro x2 gx2 h
     refine SWp.o 24 (.agg [.bool x2.Leaf, .sl false 3 1 (encs c3 x2.Kids)]) ?_ (sl_pure (p_le (k218 false) (.slot 21) [0] gx2))
     refine SWp.nil ?_
     refine LWp.cl h 25 (fun v1 => (B v1)) rfl (l := [.sv (.agg [.bool x1.Leaf, .sl false 3 1 (encs c3 x1.Kids)]), .sv (.agg [.bool x2.Leaf, .sl false 3 1 (encs c3 x2.Kids)])]) rfl (fun v hv => w_eqKnot_t x1 x2 v hv) (.inl rfl) ?_
     intro v1 gv1 h
     refine LWp.o 26 (B (!v1)) ?_
     refine LWp.nil ?_
     refine Wp.c h (fun h => ?_) (fun h => ?_)
     · refine Wp.seq (Wp.region ?_)
       refine LWp.o 4 (B false) ?_
       refine LWp.nil ?_
       cases h
       replace h : some _ = some _ := hk1 _ rfl
       cases h
       exact Wp.ret ⟨.inr rfl, _, _, rfl, rfl⟩
     refine Wp.skip ?_
     refine Wp.region ?_
     refine LWp.o 15 (I yI1) ?_
     refine LWp.o 16 (I (ad yI1 1)) ?_
     refine LWp.o 5 (I (ad yI1 1)) ?_
     refine LWp.nil ?_
     cases h
     exact ⟨_, rfl, rfl, rfl⟩
   refine Wp.exit ?_
   cases h
   exact ⟨_, rfl, rfl, rfl⟩
 intro v2 h E hE
 refine nt_wp hE ?_
 change Wp _ _ _ w_eqKnotS_H2 _
 refine Wp.seq (Wp.region ?_)
 refine LWp.o 4 (B true) ?_
 refine LWp.nil ?_
 cases h
 exact Wp.ret ⟨.inr rfl, _, _, rfl, rfl⟩
theorem w_eqArena_t (xA : Arena) (xB : Arena) (r : Bool) (h : w_eqArena xA xB = some r) : Gives Tryz.prog 95 [.sv (.agg [.sl false 218 2 (encs (c218 false) xA.Knots)]), .sv (.agg [.sl false 218 2 (encs (c218 false) xB.Knots)])] (B r) (List.replicate 2 .gone) := by
 unfold w_eqArena at h
 refine gives_of Tryz.func95 rfl ?_
 rw [Tryz.ntmps95]
 refine Wp.seq (Wp.region ?_)
 refine LWp.b [] 2 [.sl false 218 2 (encs (c218 false) xA.Knots)] ?_
 refine LWp.b [] 3 [.sl false 218 2 (encs (c218 false) xB.Knots)] ?_
 refine LWp.o 4 (B false) ?_
 refine LWp.nil ?_
 refine Wp.seq ?_
 refine Wp.seq (Wp.region ?_)
 refine LWp.o 5 (.one (.ptr (.box 2) 1 [] 0)) ?_
 refine LWp.o 6 (.one (.sl false 218 2 (encs (c218 false) xA.Knots))) ?_
 refine LWp.o 7 (.one (.ptr (.box 3) 1 [] 0)) ?_
 refine LWp.o 8 (.one (.sl false 218 2 (encs (c218 false) xB.Knots))) ?_
 refine LWp.cl h 9 (fun v1 => (B v1)) rfl (l := [.sv (.one (.sl false 218 2 (encs (c218 false) xA.Knots))), .sv (.one (.sl false 218 2 (encs (c218 false) xB.Knots)))]) rfl (fun v hv => w_eqKnotS_t xA.Knots xB.Knots v hv) (.inl rfl) ?_
 intro v1 gv1 h
 refine LWp.o 10 (B (!v1)) ?_
 refine LWp.nil ?_
 refine Wp.c h (fun h => ?_) (fun h => ?_)
 · refine Wp.seq (Wp.region ?_)
   refine LWp.o 4 (B false) ?_
   refine LWp.nil ?_
   cases h
   exact Wp.ret ⟨.inr rfl, _, _, rfl, rfl⟩
 refine Wp.skip ?_
 refine Wp.seq (Wp.region ?_)
 refine LWp.o 4 (B true) ?_
 refine LWp.nil ?_
 cases h
 exact Wp.ret ⟨.inr rfl, _, _, rfl, rfl⟩
theorem w_eqStore_t (xA : Store) (xB : Store) (r : Bool) (h : w_eqStore xA xB = some r) : Gives Tryz.prog 49 [.sv (.agg [.sl false 110 2 (encs c110 xA.Vols), .sl false 218 2 (encs (c218 false) xA.Arena.Knots), .int .i64 xA.Next]), .sv (.agg [.sl false 110 2 (encs c110 xB.Vols), .sl false 218 2 (encs (c218 false) xB.Arena.Knots), .int .i64 xB.Next])] (B r) (List.replicate 2 .gone) := by
 unfold w_eqStore at h
 refine gives_of Tryz.func49 rfl ?_
 rw [Tryz.ntmps49]
 refine Wp.seq (Wp.region ?_)
 refine LWp.b [] 2 [.sl false 110 2 (encs c110 xA.Vols), .sl false 218 2 (encs (c218 false) xA.Arena.Knots), .int .i64 xA.Next] ?_
 refine LWp.b [] 3 [.sl false 110 2 (encs c110 xB.Vols), .sl false 218 2 (encs (c218 false) xB.Arena.Knots), .int .i64 xB.Next] ?_
 refine LWp.o 4 (B false) ?_
 refine LWp.nil ?_
 refine Wp.seq ?_
 refine Wp.seq (Wp.region ?_)
 refine LWp.o 5 (.one (.ptr (.box 2) 1 [] 0)) ?_
 refine LWp.o 6 (.one (.sl false 110 2 (encs c110 xA.Vols))) ?_
 refine LWp.o 7 (.one (.ptr (.box 3) 1 [] 0)) ?_
 refine LWp.o 8 (.one (.sl false 110 2 (encs c110 xB.Vols))) ?_
 refine LWp.cl h 9 (fun v1 => (B v1)) rfl (l := [.sv (.one (.sl false 110 2 (encs c110 xA.Vols))), .sv (.one (.sl false 110 2 (encs c110 xB.Vols)))]) rfl (fun v hv => w_eqVolS_t xA.Vols xB.Vols v hv) (.inl rfl) ?_
 intro v1 gv1 h
 refine LWp.o 10 (B (!v1)) ?_
 refine LWp.nil ?_
 refine Wp.c h (fun h => ?_) (fun h => ?_)
 · refine Wp.seq (Wp.region ?_)
   refine LWp.o 4 (B false) ?_
   refine LWp.nil ?_
   cases h
   exact Wp.ret ⟨.inr rfl, _, _, rfl, rfl⟩
 refine Wp.skip ?_
 refine Wp.seq ?_
 refine Wp.seq (Wp.region ?_)
 refine LWp.o 11 (.one (.ptr (.box 2) 1 [] 1)) ?_
 refine LWp.o 12 (.agg [.sl false 218 2 (encs (c218 false) xA.Arena.Knots)]) ?_
 refine LWp.o 13 (.one (.ptr (.box 3) 1 [] 1)) ?_
 refine LWp.o 14 (.agg [.sl false 218 2 (encs (c218 false) xB.Arena.Knots)]) ?_
 refine LWp.cl h 15 (fun v2 => (B v2)) rfl (l := [.sv (.agg [.sl false 218 2 (encs (c218 false) xA.Arena.Knots)]), .sv (.agg [.sl false 218 2 (encs (c218 false) xB.Arena.Knots)])]) rfl (fun v hv => w_eqArena_t xA.Arena xB.Arena v hv) (.inl rfl) ?_
 intro v2 gv2 h
 refine LWp.o 16 (B (!v2)) ?_
 refine LWp.nil ?_
 refine Wp.c h (fun h => ?_) (fun h => ?_)
 · refine Wp.seq (Wp.region ?_)
   refine LWp.o 4 (B false) ?_
   refine LWp.nil ?_
   cases h
   exact Wp.ret ⟨.inr rfl, _, _, rfl, rfl⟩
 refine Wp.skip ?_
 refine Wp.seq ?_
 refine Wp.seq (Wp.region ?_)
 refine LWp.o 17 (.one (.ptr (.box 2) 1 [] 2)) ?_
 refine LWp.o 18 (I xA.Next) ?_
 refine LWp.o 19 (.one (.ptr (.box 3) 1 [] 2)) ?_
 refine LWp.o 20 (I xB.Next) ?_
 refine LWp.o 21 (B (xA.Next != xB.Next)) ?_
 refine LWp.nil ?_
 refine Wp.c h (fun h => ?_) (fun h => ?_)
 · refine Wp.seq (Wp.region ?_)
   refine LWp.o 4 (B false) ?_
   refine LWp.nil ?_
   cases h
   exact Wp.ret ⟨.inr rfl, _, _, rfl, rfl⟩
 refine Wp.skip ?_
 refine Wp.seq (Wp.region ?_)
 refine LWp.o 4 (B true) ?_
 refine LWp.nil ?_
 cases h
 exact Wp.ret ⟨.inr rfl, _, _, rfl, rfl⟩
set_option maxHeartbeats 4000000 in
theorem w_eqDevice_t (xA : Device) (xB : Device) (r : Bool) (h : w_eqDevice xA xB = some r) : Gives Tryz.prog 15 [.sv (.agg [.sl false 124 3 (encs (c124 false) xA.Flash.Blocks), .sl false 110 2 (encs c110 xA.Store.Vols), .sl false 218 2 (encs (c218 false) xA.Store.Arena.Knots), .int .i64 xA.Store.Next, .int .i64 xA.Seq, .int .i64 xA.Tx, .int .i64 xA.Base]), .sv (.agg [.sl false 124 3 (encs (c124 false) xB.Flash.Blocks), .sl false 110 2 (encs c110 xB.Store.Vols), .sl false 218 2 (encs (c218 false) xB.Store.Arena.Knots), .int .i64 xB.Store.Next, .int .i64 xB.Seq, .int .i64 xB.Tx, .int .i64 xB.Base])] (B r) (List.replicate 2 .gone) := by
 unfold w_eqDevice at h
 refine gives_of Tryz.func15 rfl ?_
 rw [Tryz.ntmps15]
 refine Wp.seq (Wp.region ?_)
 refine LWp.b [] 2 [.sl false 124 3 (encs (c124 false) xA.Flash.Blocks), .sl false 110 2 (encs c110 xA.Store.Vols), .sl false 218 2 (encs (c218 false) xA.Store.Arena.Knots), .int .i64 xA.Store.Next, .int .i64 xA.Seq, .int .i64 xA.Tx, .int .i64 xA.Base] ?_
 refine LWp.b [] 3 [.sl false 124 3 (encs (c124 false) xB.Flash.Blocks), .sl false 110 2 (encs c110 xB.Store.Vols), .sl false 218 2 (encs (c218 false) xB.Store.Arena.Knots), .int .i64 xB.Store.Next, .int .i64 xB.Seq, .int .i64 xB.Tx, .int .i64 xB.Base] ?_
 refine LWp.o 4 (B false) ?_
 refine LWp.nil ?_
 refine Wp.seq ?_
 refine Wp.seq (Wp.region ?_)
 refine LWp.o 5 (.one (.ptr (.box 2) 1 [] 0)) ?_
 refine LWp.o 6 (.agg [.sl false 124 3 (encs (c124 false) xA.Flash.Blocks)]) ?_
 refine LWp.o 7 (.one (.ptr (.box 3) 1 [] 0)) ?_
 refine LWp.o 8 (.agg [.sl false 124 3 (encs (c124 false) xB.Flash.Blocks)]) ?_
 refine LWp.cl h 9 (fun v1 => (B v1)) rfl (l := [.sv (.agg [.sl false 124 3 (encs (c124 false) xA.Flash.Blocks)]), .sv (.agg [.sl false 124 3 (encs (c124 false) xB.Flash.Blocks)])]) rfl (fun v hv => w_eqFlash_t xA.Flash xB.Flash v hv) (.inl rfl) ?_
 intro v1 gv1 h
 refine LWp.o 10 (B (!v1)) ?_
 refine LWp.nil ?_
 refine Wp.c h (fun h => ?_) (fun h => ?_)
 · refine Wp.seq (Wp.region ?_)
   refine LWp.o 4 (B false) ?_
   refine LWp.nil ?_
   cases h
   exact Wp.ret ⟨.inr rfl, _, _, rfl, rfl⟩
 refine Wp.skip ?_
 refine Wp.seq ?_
 refine Wp.seq (Wp.region ?_)
 refine LWp.o 11 (.one (.ptr (.box 2) 1 [] 1)) ?_
 refine LWp.o 12 (.agg [.sl false 110 2 (encs c110 xA.Store.Vols), .sl false 218 2 (encs (c218 false) xA.Store.Arena.Knots), .int .i64 xA.Store.Next]) ?_
 refine LWp.o 13 (.one (.ptr (.box 3) 1 [] 1)) ?_
 refine LWp.o 14 (.agg [.sl false 110 2 (encs c110 xB.Store.Vols), .sl false 218 2 (encs (c218 false) xB.Store.Arena.Knots), .int .i64 xB.Store.Next]) ?_
 refine LWp.cl h 15 (fun v2 => (B v2)) rfl (l := [.sv (.agg [.sl false 110 2 (encs c110 xA.Store.Vols), .sl false 218 2 (encs (c218 false) xA.Store.Arena.Knots), .int .i64 xA.Store.Next]), .sv (.agg [.sl false 110 2 (encs c110 xB.Store.Vols), .sl false 218 2 (encs (c218 false) xB.Store.Arena.Knots), .int .i64 xB.Store.Next])]) rfl (fun v hv => w_eqStore_t xA.Store xB.Store v hv) (.inl rfl) ?_
 intro v2 gv2 h
 refine LWp.o 16 (B (!v2)) ?_
 refine LWp.nil ?_
 refine Wp.c h (fun h => ?_) (fun h => ?_)
 · refine Wp.seq (Wp.region ?_)
   refine LWp.o 4 (B false) ?_
   refine LWp.nil ?_
   cases h
   exact Wp.ret ⟨.inr rfl, _, _, rfl, rfl⟩
 refine Wp.skip ?_
 refine Wp.seq ?_
 refine Wp.seq (Wp.region ?_)
 refine LWp.o 17 (.one (.ptr (.box 2) 1 [] 4)) ?_
 refine LWp.o 18 (I xA.Seq) ?_
 refine LWp.o 19 (.one (.ptr (.box 3) 1 [] 4)) ?_
 refine LWp.o 20 (I xB.Seq) ?_
 refine LWp.o 21 (B (xA.Seq != xB.Seq)) ?_
 refine LWp.nil ?_
 refine Wp.c h (fun h => ?_) (fun h => ?_)
 · refine Wp.seq (Wp.region ?_)
   refine LWp.o 4 (B false) ?_
   refine LWp.nil ?_
   cases h
   exact Wp.ret ⟨.inr rfl, _, _, rfl, rfl⟩
 refine Wp.skip ?_
 refine Wp.seq ?_
 refine Wp.seq (Wp.region ?_)
 refine LWp.o 22 (.one (.ptr (.box 2) 1 [] 5)) ?_
 refine LWp.o 23 (I xA.Tx) ?_
 refine LWp.o 24 (.one (.ptr (.box 3) 1 [] 5)) ?_
 refine LWp.o 25 (I xB.Tx) ?_
 refine LWp.o 26 (B (xA.Tx != xB.Tx)) ?_
 refine LWp.nil ?_
 refine Wp.c h (fun h => ?_) (fun h => ?_)
 · refine Wp.seq (Wp.region ?_)
   refine LWp.o 4 (B false) ?_
   refine LWp.nil ?_
   cases h
   exact Wp.ret ⟨.inr rfl, _, _, rfl, rfl⟩
 refine Wp.skip ?_
 refine Wp.seq ?_
 refine Wp.seq (Wp.region ?_)
 refine LWp.o 27 (.one (.ptr (.box 2) 1 [] 6)) ?_
 refine LWp.o 28 (I xA.Base) ?_
 refine LWp.o 29 (.one (.ptr (.box 3) 1 [] 6)) ?_
 refine LWp.o 30 (I xB.Base) ?_
 refine LWp.o 31 (B (xA.Base != xB.Base)) ?_
 refine LWp.nil ?_
 refine Wp.c h (fun h => ?_) (fun h => ?_)
 · refine Wp.seq (Wp.region ?_)
   refine LWp.o 4 (B false) ?_
   refine LWp.nil ?_
   cases h
   exact Wp.ret ⟨.inr rfl, _, _, rfl, rfl⟩
 refine Wp.skip ?_
 refine Wp.seq (Wp.region ?_)
 refine LWp.o 4 (B true) ?_
 refine LWp.nil ?_
 cases h
 exact Wp.ret ⟨.inr rfl, _, _, rfl, rfl⟩
def w_markText_H1 (z1 : Int) (z2 : ByteArray) : St := mkSt [(0, (I z1)), (3, (Y z2))] []
def w_markText_H2 (z3 : ByteArray) : St := mkSt [(3, (Y z3))] []
theorem w_markText_t (xK : Int) (r : ByteArray) (h : w_markText xK = some r) : Gives Tryz.prog 53 [.sv (I xK)] (Y r) (List.replicate 1 .gone) := by
 unfold w_markText at h
 refine gives_of Tryz.func53 rfl ?_
 rw [Tryz.ntmps53]
 refine Wp.seq (Wp.region ?_)
 refine LWp.o 2 (Y (bs [])) ?_
 refine LWp.nil ?_
 refine Wp.seq ?_
 refine Wp.seq (Wp.region ?_)
 refine LWp.o 4 (I xK) ?_
 refine LWp.o 5 (B (decide (xK ≤ 0))) ?_
 refine LWp.nil ?_
 refine Wp.c h (fun h => ?_) (fun h => ?_)
 · refine Wp.seq (Wp.region ?_)
   refine LWp.o 2 (Y (bs [109, 48])) ?_
   refine LWp.nil ?_
   cases h
   exact Wp.ret ⟨.inr rfl, _, _, rfl, rfl⟩
 refine Wp.skip ?_
 refine Wp.seq (Wp.region ?_)
 refine LWp.o 3 (Y (bs [])) ?_
 refine LWp.nil ?_
 refine Wp.seq ?_
 refine Wp.l1 h [0, 3] [] (fun s => (w_markText_H1 s.1 s.2)) [3] [] (fun s => (w_markText_H2 s)) ⟨rfl, rfl⟩ ?_ ?_
 · rintro ⟨yK1, yOut1⟩ o (h : w_markText_b1 yK1 yOut1 = some o)
   unfold w_markText_b1 at h
   change Wp _ _ _ (w_markText_H1 yK1 yOut1) _
   refine Wp.seq ?_
   refine Wp.seq (Wp.region ?_)
   refine LWp.o 6 (I yK1) ?_
   refine LWp.o 7 (B (decide (yK1 > 0))) ?_
   refine LWp.nil ?_
   refine Wp.c h (fun h => ?_) (fun h => ?_)
   · refine Wp.skip ?_
     refine Wp.block ?_
     refine Wp.seq (Wp.region ?_)
     refine LWp.o 8 (I yK1) ?_
     refine LWp.o 9 (I (Int.tmod yK1 10)) ?_
     refine LWp.o 10 (I (ad 48 (Int.tmod yK1 10))) ?_
     refine LWp.o 11 (.one (.int .u8 (IntKind.u8.wrap (ad 48 (Int.tmod yK1 10))))) ?_
     refine LWp.m false [] 12 (.one (.sl true 5 1 (encs c5 [(IntKind.u8.wrap (ad 48 (Int.tmod yK1 10)))]))) ?_
     refine LWp.o 13 (Y (strB [(IntKind.u8.wrap (ad 48 (Int.tmod yK1 10)))])) ?_ (st_pure (p_cv (fun _ => rfl) [(IntKind.u8.wrap (ad 48 (Int.tmod yK1 10)))]))
     refine LWp.o 14 (Y yOut1) ?_
     refine LWp.p h 15 (fun x1 => (Y x1)) ?_ (fun x1 gx1 => st_pure (p_cat gx1))
     intro x1 gx1 h
     refine LWp.o 3 (Y x1) ?_
     refine LWp.nil ?_
     refine Wp.region ?_
     refine LWp.o 16 (I yK1) ?_
     refine LWp.o 17 (I (qu yK1 10)) ?_
     refine LWp.o 0 (I (qu yK1 10)) ?_
     refine LWp.nil ?_
     cases h
     exact ⟨_, rfl, rfl, rfl⟩
   refine Wp.exit ?_
   cases h
   exact ⟨_, rfl, rfl, rfl⟩
 intro v1 h E hE
 refine nt_wp hE ?_
 change Wp _ _ _ (w_markText_H2 v1) _
 refine Wp.seq (Wp.region ?_)
 refine LWp.o 18 (Y v1) ?_
 refine LWp.p h 19 (fun x2 => (Y x2)) ?_ (fun x2 gx2 => st_pure (p_cat gx2))
 intro x2 gx2 h
 refine LWp.o 2 (Y x2) ?_
 refine LWp.nil ?_
 cases h
 exact Wp.ret ⟨.inr rfl, _, _, rfl, rfl⟩
def w_markLeafS_H1 (z1 : List Leaf) (z2 : Int) (z3 : Int) : St := mkStF [(0, (.one (.sl true 165 2 (encs c165 z1)))), (1, (I z2)), (5, (I z3))] []
def w_markLeafS_H2 (z4 : List Leaf) (z5 : Int) : St := mkStF [(0, (.one (.sl true 165 2 (encs c165 z4)))), (1, (I z5))] []
theorem w_markLeafS_t (xA : List Leaf) (xK : Int) (r : Int × List Leaf) (h : w_markLeafS xA xK = some r) : Gives Tryz.prog 148 [.sv (.one (.sl true 165 2 (encs c165 xA))), .sv (I xK)] (I r.1) (.sv (.one (.sl true 165 2 (encs c165 r.2))) :: List.replicate 1 .gone) := by
 unfold w_markLeafS at h
 refine gives_lent Tryz.func148 rfl ?_
 rw [Tryz.ntmps148]
 refine Wp.seq (Wp.region ?_)
 refine LWp.o 4 (I 0) ?_
 refine LWp.nil ?_
 refine Wp.seq ?_
 refine Wp.seq (Wp.region ?_)
 refine LWp.o 5 (I 0) ?_
 refine LWp.nil ?_
 refine Wp.l1 h [0, 1, 5] [] (fun s => (w_markLeafS_H1 s.1 s.2.1 s.2.2)) [0, 1] [] (fun s => (w_markLeafS_H2 s.1 s.2)) ⟨rfl, rfl⟩ ?_ ?_
 · rintro ⟨yA1, yK1, yI1⟩ o (h : w_markLeafS_b1 yA1 yK1 yI1 = some o)
   unfold w_markLeafS_b1 at h
   change Wp _ _ _ (w_markLeafS_H1 yA1 yK1 yI1) _
   refine Wp.seq ?_
   refine Wp.seq (Wp.region ?_)
   refine LWp.o 6 (I yI1) ?_
   refine LWp.o 7 (.one (.view (.slot 0) 0 [] 0)) ?_
   refine LWp.o 8 (I (ln yA1)) ?_ (st_pure (p_ln k165 yA1))
   refine LWp.o 9 (B (decide (yI1 < (ln yA1)))) ?_
   refine LWp.nil ?_
   refine Wp.c h (fun h => ?_) (fun h => ?_)
   · refine Wp.skip ?_
     refine Wp.seq ?_
     refine Wp.block ?_
     refine Wp.seq (Wp.region ?_)
     refine LWp.o 12 (.one (.view (.slot 0) 0 [] 0)) ?_
     refine LWp.o 13 (I yI1) ?_
     refine LWp.o 14 (I yK1) ?_
     refine LWp.p h 15 (fun _ => (.one (.ptr (.slot 0) 0 [0] (Int.toNat yI1 * 2 + 0)))) ?_ (fun x1 gx1 => st_pure (p_ix k165 (.slot 0) [] 0 gx1))
     intro x1 gx1 h
     refine LWp.o 16 (.one (.ptr (.slot 0) 0 [0] (Int.toNat yI1 * 2 + 0))) ?_ (st_pure (p_fa k165 (.slot 0) [0] 0 gx1))
     refine LWp.sb [] (.slot 0) [.sl true 165 2 (encs c165 (si yA1 yI1 (Leaf.mk yK1 x1.Text)))] ?_ (s_st [] (q := [0]) (cs := [.sl true 165 2 (encs c165 yA1)]) (xs := [.int .i64 yK1]) (At.one (setRow_gi k165 (k := 0) (z := (Leaf.mk yK1 x1.Text)) gx1 rfl rfl)) (fit_gi k165 (k := 0) gx1 rfl))
     refine LWp.nil ?_
     refine Wp.seq (Wp.region ?_)
     refine LWp.o 17 (I yK1) ?_
     refine LWp.o 18 (I (ad yK1 1)) ?_
     refine LWp.o 1 (I (ad yK1 1)) ?_
     refine LWp.nil ?_
     refine Wp.seq (Wp.region ?_)
     refine LWp.o 19 (.one (.view (.slot 0) 1 [] 0)) ?_
     refine LWp.o 20 (I yI1) ?_
     refine LWp.o 21 (I (ad yK1 1)) ?_
     refine LWp.cl h 22 (fun v1 => (Y v1)) rfl (l := [.sv (.one (.int .i64 (ad yK1 1)))]) rfl (fun v hv => w_markText_t (ad yK1 1) v hv) (.inl rfl) ?_
     intro v1 gv1 h
     refine LWp.p h 23 (fun _ => (.one (.ptr (.slot 0) 1 [0] (Int.toNat yI1 * 2 + 0)))) ?_ (fun x2 gx2 => st_pure (p_ix k165 (.slot 0) [] 0 gx2))
     intro x2 gx2 h
     refine LWp.o 24 (.one (.ptr (.slot 0) 1 [0] (Int.toNat yI1 * 2 + 1))) ?_ (st_pure (p_fa k165 (.slot 0) [0] 0 gx2))
     refine LWp.sb [] (.slot 0) [.sl true 165 2 (encs c165 (si (si yA1 yI1 (Leaf.mk yK1 x1.Text)) yI1 (Leaf.mk x2.Is v1)))] ?_ (s_st [] (q := [0]) (cs := [.sl true 165 2 (encs c165 (si yA1 yI1 (Leaf.mk yK1 x1.Text)))]) (xs := [.str v1]) (At.one (setRow_gi k165 (k := 1) (z := (Leaf.mk x2.Is v1)) gx2 rfl rfl)) (fit_gi k165 (k := 1) gx2 rfl))
     refine LWp.nil ?_
     refine Wp.region ?_
     refine LWp.o 25 (I (ad yK1 1)) ?_
     refine LWp.o 26 (I (ad (ad yK1 1) 1)) ?_
     refine LWp.o 1 (I (ad (ad yK1 1) 1)) ?_
     refine LWp.nil ?_
     refine Wp.region ?_
     refine LWp.o 10 (I yI1) ?_
     refine LWp.o 11 (I (ad yI1 1)) ?_
     refine LWp.o 5 (I (ad yI1 1)) ?_
     refine LWp.nil ?_
     cases h
     exact ⟨_, rfl, rfl, rfl⟩
   refine Wp.exit ?_
   cases h
   exact ⟨_, rfl, rfl, rfl⟩
 intro v2 h E hE
 refine nt_wp hE ?_
 change Wp _ _ _ (w_markLeafS_H2 v2.1 v2.2) _
 refine Wp.seq (Wp.region ?_)
 refine LWp.o 27 (I v2.2) ?_
 refine LWp.o 4 (I v2.2) ?_
 refine LWp.nil ?_
 cases h
 exact Wp.ret ⟨.inr rfl, _, _, rfl, rfl, rfl, rfl⟩
def w_markBlockS_H1 (z1 : List Block) (z2 : Int) (z3 : Int) : St := mkStF [(0, (.one (.sl true 124 3 (encs (c124 true) z1)))), (1, (I z2)), (5, (I z3))] []
def w_markBlockS_H2 (z4 : List Block) (z5 : Int) : St := mkStF [(0, (.one (.sl true 124 3 (encs (c124 true) z4)))), (1, (I z5))] []
theorem w_markBlockS_t (xA : List Block) (xK : Int) (r : Int × List Block) (h : w_markBlockS xA xK = some r) : Gives Tryz.prog 96 [.sv (.one (.sl true 124 3 (encs (c124 true) xA))), .sv (I xK)] (I r.1) (.sv (.one (.sl true 124 3 (encs (c124 true) r.2))) :: List.replicate 1 .gone) := by
 unfold w_markBlockS at h
 refine gives_lent Tryz.func96 rfl ?_
 rw [Tryz.ntmps96]
 refine Wp.seq (Wp.region ?_)
 refine LWp.o 4 (I 0) ?_
 refine LWp.nil ?_
 refine Wp.seq ?_
 refine Wp.seq (Wp.region ?_)
 refine LWp.o 5 (I 0) ?_
 refine LWp.nil ?_
 refine Wp.l1 h [0, 1, 5] [] (fun s => (w_markBlockS_H1 s.1 s.2.1 s.2.2)) [0, 1] [] (fun s => (w_markBlockS_H2 s.1 s.2)) ⟨rfl, rfl⟩ ?_ ?_
 · rintro ⟨yA1, yK1, yI1⟩ o (h : w_markBlockS_b1 yA1 yK1 yI1 = some o)
   unfold w_markBlockS_b1 at h
   change Wp _ _ _ (w_markBlockS_H1 yA1 yK1 yI1) _
   refine Wp.seq ?_
   refine Wp.seq (Wp.region ?_)
   refine LWp.o 6 (I yI1) ?_
   refine LWp.o 7 (.one (.view (.slot 0) 0 [] 0)) ?_
   refine LWp.o 8 (I (ln yA1)) ?_ (st_pure (p_ln (k124 true) yA1))
   refine LWp.o 9 (B (decide (yI1 < (ln yA1)))) ?_
   refine LWp.nil ?_
   refine Wp.c h (fun h => ?_) (fun h => ?_)
   · refine Wp.skip ?_
     refine Wp.seq ?_
     refine Wp.block ?_
     refine Wp.seq (Wp.region ?_)
     refine LWp.o 12 (.one (.view (.slot 0) 0 [] 0)) ?_
     refine LWp.o 13 (I yI1) ?_
     refine LWp.o 14 (I yK1) ?_
     refine LWp.o 15 (I (Int.tmod yK1 3)) ?_
     refine LWp.o 16 (B ((Int.tmod yK1 3) == 0)) ?_
     refine LWp.p h 17 (fun _ => (.one (.ptr (.slot 0) 0 [0] (Int.toNat yI1 * 3 + 0)))) ?_ (fun x1 gx1 => st_pure (p_ix (k124 true) (.slot 0) [] 0 gx1))
     intro x1 gx1 h
     refine LWp.o 18 (.one (.ptr (.slot 0) 0 [0] (Int.toNat yI1 * 3 + 0))) ?_ (st_pure (p_fa (k124 true) (.slot 0) [0] 0 gx1))
     refine LWp.sb [] (.slot 0) [.sl true 124 3 (encs (c124 true) (si yA1 yI1 (Block.mk ((Int.tmod yK1 3) == 0) x1.Wear x1.Leaves)))] ?_ (s_st [] (q := [0]) (cs := [.sl true 124 3 (encs (c124 true) yA1)]) (xs := [.bool ((Int.tmod yK1 3) == 0)]) (At.one (setRow_gi (k124 true) (k := 0) (z := (Block.mk ((Int.tmod yK1 3) == 0) x1.Wear x1.Leaves)) gx1 rfl rfl)) (fit_gi (k124 true) (k := 0) gx1 rfl))
     refine LWp.nil ?_
     refine Wp.seq (Wp.region ?_)
     refine LWp.o 19 (I yK1) ?_
     refine LWp.o 20 (I (ad yK1 1)) ?_
     refine LWp.o 1 (I (ad yK1 1)) ?_
     refine LWp.nil ?_
     refine Wp.seq (Wp.region ?_)
     refine LWp.o 21 (.one (.view (.slot 0) 1 [] 0)) ?_
     refine LWp.o 22 (I yI1) ?_
     refine LWp.o 23 (I (ad yK1 1)) ?_
     refine LWp.p h 24 (fun _ => (.one (.ptr (.slot 0) 1 [0] (Int.toNat yI1 * 3 + 0)))) ?_ (fun x2 gx2 => st_pure (p_ix (k124 true) (.slot 0) [] 0 gx2))
     intro x2 gx2 h
     refine LWp.o 25 (.one (.ptr (.slot 0) 1 [0] (Int.toNat yI1 * 3 + 1))) ?_ (st_pure (p_fa (k124 true) (.slot 0) [0] 0 gx2))
     refine LWp.sb [] (.slot 0) [.sl true 124 3 (encs (c124 true) (si (si yA1 yI1 (Block.mk ((Int.tmod yK1 3) == 0) x1.Wear x1.Leaves)) yI1 (Block.mk x2.Bad (ad yK1 1) x2.Leaves)))] ?_ (s_st [] (q := [0]) (cs := [.sl true 124 3 (encs (c124 true) (si yA1 yI1 (Block.mk ((Int.tmod yK1 3) == 0) x1.Wear x1.Leaves)))]) (xs := [.int .i64 (ad yK1 1)]) (At.one (setRow_gi (k124 true) (k := 1) (z := (Block.mk x2.Bad (ad yK1 1) x2.Leaves)) gx2 rfl rfl)) (fit_gi (k124 true) (k := 1) gx2 rfl))
     refine LWp.nil ?_
     refine Wp.seq (Wp.region ?_)
     refine LWp.o 26 (I (ad yK1 1)) ?_
     refine LWp.o 27 (I (ad (ad yK1 1) 1)) ?_
     refine LWp.o 1 (I (ad (ad yK1 1) 1)) ?_
     refine LWp.nil ?_
     refine Wp.region ?_
     refine LWp.o 28 (.one (.view (.slot 0) 2 [] 0)) ?_
     refine LWp.o 29 (I yI1) ?_
     refine LWp.p h 30 (fun _ => (.one (.ptr (.slot 0) 2 [0] (Int.toNat yI1 * 3 + 0)))) ?_ (fun x3 gx3 => st_pure (p_ix (k124 true) (.slot 0) [] 0 gx3))
     intro x3 gx3 h
     refine LWp.o 31 (.one (.ptr (.slot 0) 2 [0] (Int.toNat yI1 * 3 + 2))) ?_ (st_pure (p_fa (k124 true) (.slot 0) [0] 0 gx3))
     refine LWp.o 32 (.one (.view (.slot 0) 2 [0] (Int.toNat yI1 * 3 + 2))) ?_ (st_pure (p_lc (k124 true) (.slot 0) [0] 2 (.sl true 165 2 (encs c165 x3.Leaves)) gx3))
     refine LWp.o 33 (I (ad (ad yK1 1) 1)) ?_
     refine LWp.leb h (.slot 0) [0] (Int.toNat yI1 * 3 + 2) [.sl true 124 3 (encs (c124 true) (si (si yA1 yI1 (Block.mk ((Int.tmod yK1 3) == 0) x1.Wear x1.Leaves)) yI1 (Block.mk x2.Bad (ad yK1 1) x2.Leaves)))] 34 (e := 165) (sz := 2) (encs c165 x3.Leaves) (ad (ad yK1 1) 1) (fun v => v.1) (fun v1 => (encs c165 v1.2)) (fun v1 => [.sl true 124 3 (encs (c124 true) (si (si (si yA1 yI1 (Block.mk ((Int.tmod yK1 3) == 0) x1.Wear x1.Leaves)) yI1 (Block.mk x2.Bad (ad yK1 1) x2.Leaves)) yI1 (Block.mk x3.Bad x3.Wear v1.2)))]) rfl (fun v1 => At.one (set_gi (k124 true) (k := 2) (z := (Block.mk x3.Bad x3.Wear v1.2)) gx3 rfl rfl)) ((gi_cellb (k124 true) (k := 2) gx3).trans rfl) (fun v hv => w_markLeafS_t x3.Leaves (ad (ad yK1 1) 1) v hv) (ns165 _) (fun _ => ns165 _) ?_ (.inl ⟨0, _, rfl, rfl, rfl, rfl, fun _ _ _ _ _ _ _ h => h⟩)
     intro v1 gv1 h
     refine LWp.o 1 (I v1.1) ?_
     refine LWp.nil ?_
     refine Wp.region ?_
     refine LWp.o 10 (I yI1) ?_
     refine LWp.o 11 (I (ad yI1 1)) ?_
     refine LWp.o 5 (I (ad yI1 1)) ?_
     refine LWp.nil ?_
     cases h
     exact ⟨_, rfl, rfl, rfl⟩
   refine Wp.exit ?_
   cases h
   exact ⟨_, rfl, rfl, rfl⟩
 intro v2 h E hE
 refine nt_wp hE ?_
 change Wp _ _ _ (w_markBlockS_H2 v2.1 v2.2) _
 refine Wp.seq (Wp.region ?_)
 refine LWp.o 35 (I v2.2) ?_
 refine LWp.o 4 (I v2.2) ?_
 refine LWp.nil ?_
 cases h
 exact Wp.ret ⟨.inr rfl, _, _, rfl, rfl, rfl, rfl⟩
theorem w_markFlash_t (xA : Flash) (xK : Int) (r : Int) (h : w_markFlash xA xK = some r) : Gives Tryz.prog 51 [.sv (.agg [.sl true 124 3 (encs (c124 true) xA.Blocks)]), .sv (I xK)] (I r) (List.replicate 2 .gone) := by
 unfold w_markFlash at h
 refine gives_of Tryz.func51 rfl ?_
 rw [Tryz.ntmps51]
 refine Wp.seq (Wp.region ?_)
 refine LWp.b [(.slot 0, [.junk])] 2 [.sl true 124 3 (encs (c124 true) xA.Blocks)] ?_
 refine LWp.o 4 (I 0) ?_
 refine LWp.nil ?_
 refine Wp.seq (Wp.region ?_)
 refine LWp.o 5 (.one (.ptr (.box 2) 1 [] 0)) ?_
 refine LWp.o 6 (.one (.view (.box 2) 1 [] 0)) ?_
 refine LWp.o 7 (I xK) ?_
 refine LWp.leb h (.box 2) [] 0 [.sl true 124 3 (encs (c124 true) xA.Blocks)] 8 (e := 124) (sz := 3) (encs (c124 true) xA.Blocks) xK (fun v => v.1) (fun v1 => (encs (c124 true) v1.2)) (fun v1 => [.sl true 124 3 (encs (c124 true) v1.2)]) rfl (fun v1 => At.nl rfl) rfl (fun v hv => w_markBlockS_t xA.Blocks xK v hv) (ns124 _) (fun _ => ns124 _) ?_ (.inr ⟨rfl, rfl⟩)
 intro v1 gv1 h
 refine LWp.o 1 (I v1.1) ?_
 refine LWp.nil ?_
 refine Wp.seq (Wp.region ?_)
 refine LWp.o 9 (I v1.1) ?_
 refine LWp.o 4 (I v1.1) ?_
 refine LWp.nil ?_
 cases h
 exact Wp.ret ⟨.inr rfl, _, _, rfl, rfl⟩
def w_markVolS_H1 (z1 : List Vol) (z2 : Int) (z3 : Int) : St := mkStF [(0, (.one (.sl true 110 2 (encs c110 z1)))), (1, (I z2)), (5, (I z3))] []
def w_markVolS_H2 (z4 : List Vol) (z5 : Int) : St := mkStF [(0, (.one (.sl true 110 2 (encs c110 z4)))), (1, (I z5))] []
theorem w_markVolS_t (xA : List Vol) (xK : Int) (r : Int × List Vol) (h : w_markVolS xA xK = some r) : Gives Tryz.prog 97 [.sv (.one (.sl true 110 2 (encs c110 xA))), .sv (I xK)] (I r.1) (.sv (.one (.sl true 110 2 (encs c110 r.2))) :: List.replicate 1 .gone) := by
 unfold w_markVolS at h
 refine gives_lent Tryz.func97 rfl ?_
 rw [Tryz.ntmps97]
 refine Wp.seq (Wp.region ?_)
 refine LWp.o 4 (I 0) ?_
 refine LWp.nil ?_
 refine Wp.seq ?_
 refine Wp.seq (Wp.region ?_)
 refine LWp.o 5 (I 0) ?_
 refine LWp.nil ?_
 refine Wp.l1 h [0, 1, 5] [] (fun s => (w_markVolS_H1 s.1 s.2.1 s.2.2)) [0, 1] [] (fun s => (w_markVolS_H2 s.1 s.2)) ⟨rfl, rfl⟩ ?_ ?_
 · rintro ⟨yA1, yK1, yI1⟩ o (h : w_markVolS_b1 yA1 yK1 yI1 = some o)
   unfold w_markVolS_b1 at h
   change Wp _ _ _ (w_markVolS_H1 yA1 yK1 yI1) _
   refine Wp.seq ?_
   refine Wp.seq (Wp.region ?_)
   refine LWp.o 6 (I yI1) ?_
   refine LWp.o 7 (.one (.view (.slot 0) 0 [] 0)) ?_
   refine LWp.o 8 (I (ln yA1)) ?_ (st_pure (p_ln k110 yA1))
   refine LWp.o 9 (B (decide (yI1 < (ln yA1)))) ?_
   refine LWp.nil ?_
   refine Wp.c h (fun h => ?_) (fun h => ?_)
   · refine Wp.skip ?_
     refine Wp.seq ?_
     refine Wp.block ?_
     refine Wp.seq (Wp.region ?_)
     refine LWp.o 12 (.one (.view (.slot 0) 0 [] 0)) ?_
     refine LWp.o 13 (I yI1) ?_
     refine LWp.o 14 (I yK1) ?_
     refine LWp.p h 15 (fun _ => (.one (.ptr (.slot 0) 0 [0] (Int.toNat yI1 * 2 + 0)))) ?_ (fun x1 gx1 => st_pure (p_ix k110 (.slot 0) [] 0 gx1))
     intro x1 gx1 h
     refine LWp.o 16 (.one (.ptr (.slot 0) 0 [0] (Int.toNat yI1 * 2 + 0))) ?_ (st_pure (p_fa k110 (.slot 0) [0] 0 gx1))
     refine LWp.sb [] (.slot 0) [.sl true 110 2 (encs c110 (si yA1 yI1 (Vol.mk yK1 x1.Root)))] ?_ (s_st [] (q := [0]) (cs := [.sl true 110 2 (encs c110 yA1)]) (xs := [.int .i64 yK1]) (At.one (setRow_gi k110 (k := 0) (z := (Vol.mk yK1 x1.Root)) gx1 rfl rfl)) (fit_gi k110 (k := 0) gx1 rfl))
     refine LWp.nil ?_
     refine Wp.seq (Wp.region ?_)
     refine LWp.o 17 (I yK1) ?_
     refine LWp.o 18 (I (ad yK1 1)) ?_
     refine LWp.o 1 (I (ad yK1 1)) ?_
     refine LWp.nil ?_
     refine Wp.seq (Wp.region ?_)
     refine LWp.o 19 (.one (.view (.slot 0) 1 [] 0)) ?_
     refine LWp.o 20 (I yI1) ?_
     refine LWp.o 21 (I (ad yK1 1)) ?_
     refine LWp.p h 22 (fun _ => (.one (.ptr (.slot 0) 1 [0] (Int.toNat yI1 * 2 + 0)))) ?_ (fun x2 gx2 => st_pure (p_ix k110 (.slot 0) [] 0 gx2))
     intro x2 gx2 h
     refine LWp.o 23 (.one (.ptr (.slot 0) 1 [0] (Int.toNat yI1 * 2 + 1))) ?_ (st_pure (p_fa k110 (.slot 0) [0] 0 gx2))
     refine LWp.sb [] (.slot 0) [.sl true 110 2 (encs c110 (si (si yA1 yI1 (Vol.mk yK1 x1.Root)) yI1 (Vol.mk x2.Id (ad yK1 1))))] ?_ (s_st [] (q := [0]) (cs := [.sl true 110 2 (encs c110 (si yA1 yI1 (Vol.mk yK1 x1.Root)))]) (xs := [.int .i64 (ad yK1 1)]) (At.one (setRow_gi k110 (k := 1) (z := (Vol.mk x2.Id (ad yK1 1))) gx2 rfl rfl)) (fit_gi k110 (k := 1) gx2 rfl))
     refine LWp.nil ?_
     refine Wp.region ?_
     refine LWp.o 24 (I (ad yK1 1)) ?_
     refine LWp.o 25 (I (ad (ad yK1 1) 1)) ?_
     refine LWp.o 1 (I (ad (ad yK1 1) 1)) ?_
     refine LWp.nil ?_
     refine Wp.region ?_
     refine LWp.o 10 (I yI1) ?_
     refine LWp.o 11 (I (ad yI1 1)) ?_
     refine LWp.o 5 (I (ad yI1 1)) ?_
     refine LWp.nil ?_
     cases h
     exact ⟨_, rfl, rfl, rfl⟩
   refine Wp.exit ?_
   cases h
   exact ⟨_, rfl, rfl, rfl⟩
 intro v1 h E hE
 refine nt_wp hE ?_
 change Wp _ _ _ (w_markVolS_H2 v1.1 v1.2) _
 refine Wp.seq (Wp.region ?_)
 refine LWp.o 26 (I v1.2) ?_
 refine LWp.o 4 (I v1.2) ?_
 refine LWp.nil ?_
 cases h
 exact Wp.ret ⟨.inr rfl, _, _, rfl, rfl, rfl, rfl⟩
def w_markIntS_H1 (z1 : List Int) (z2 : Int) (z3 : Int) : St := mkStF [(0, (.one (.sl true 3 1 (encs c3 z1)))), (1, (I z2)), (5, (I z3))] []
def w_markIntS_H2 (z4 : List Int) (z5 : Int) : St := mkStF [(0, (.one (.sl true 3 1 (encs c3 z4)))), (1, (I z5))] []
theorem w_markIntS_t (xA : List Int) (xK : Int) (r : Int × List Int) (h : w_markIntS xA xK = some r) : Gives Tryz.prog 31 [.sv (.one (.sl true 3 1 (encs c3 xA))), .sv (I xK)] (I r.1) (.sv (.one (.sl true 3 1 (encs c3 r.2))) :: List.replicate 1 .gone) := by
 unfold w_markIntS at h
 refine gives_lent Tryz.func31 rfl ?_
 rw [Tryz.ntmps31]
 refine Wp.seq (Wp.region ?_)
 refine LWp.o 4 (I 0) ?_
 refine LWp.nil ?_
 refine Wp.seq ?_
 refine Wp.seq (Wp.region ?_)
 refine LWp.o 5 (I 0) ?_
 refine LWp.nil ?_
 refine Wp.l1 h [0, 1, 5] [] (fun s => (w_markIntS_H1 s.1 s.2.1 s.2.2)) [0, 1] [] (fun s => (w_markIntS_H2 s.1 s.2)) ⟨rfl, rfl⟩ ?_ ?_
 · rintro ⟨yA1, yK1, yI1⟩ o (h : w_markIntS_b1 yA1 yK1 yI1 = some o)
   unfold w_markIntS_b1 at h
   change Wp _ _ _ (w_markIntS_H1 yA1 yK1 yI1) _
   refine Wp.seq ?_
   refine Wp.seq (Wp.region ?_)
   refine LWp.o 6 (I yI1) ?_
   refine LWp.o 7 (.one (.view (.slot 0) 0 [] 0)) ?_
   refine LWp.o 8 (I (ln yA1)) ?_ (st_pure (p_ln k3 yA1))
   refine LWp.o 9 (B (decide (yI1 < (ln yA1)))) ?_
   refine LWp.nil ?_
   refine Wp.c h (fun h => ?_) (fun h => ?_)
   · refine Wp.skip ?_
     refine Wp.seq ?_
     refine Wp.block ?_
     refine Wp.seq (Wp.region ?_)
     refine LWp.o 12 (.one (.view (.slot 0) 0 [] 0)) ?_
     refine LWp.o 13 (I yI1) ?_
     refine LWp.o 14 (I yK1) ?_
     refine LWp.p h 15 (fun _ => (.one (.ptr (.slot 0) 0 [0] (Int.toNat yI1 * 1 + 0)))) ?_ (fun x1 gx1 => st_pure (p_ix k3 (.slot 0) [] 0 gx1))
     intro x1 gx1 h
     refine LWp.sb [] (.slot 0) [.sl true 3 1 (encs c3 (si yA1 yI1 yK1))] ?_ (s_st [] (q := [0]) (cs := [.sl true 3 1 (encs c3 yA1)]) (xs := [.int .i64 yK1]) (At.one (setRow_gi k3 (k := 0) (z := yK1) gx1 rfl rfl)) (fit_gi k3 (k := 0) gx1 rfl))
     refine LWp.nil ?_
     refine Wp.region ?_
     refine LWp.o 16 (I yK1) ?_
     refine LWp.o 17 (I (ad yK1 1)) ?_
     refine LWp.o 1 (I (ad yK1 1)) ?_
     refine LWp.nil ?_
     refine Wp.region ?_
     refine LWp.o 10 (I yI1) ?_
     refine LWp.o 11 (I (ad yI1 1)) ?_
     refine LWp.o 5 (I (ad yI1 1)) ?_
     refine LWp.nil ?_
     cases h
     exact ⟨_, rfl, rfl, rfl⟩
   refine Wp.exit ?_
   cases h
   exact ⟨_, rfl, rfl, rfl⟩
 intro v1 h E hE
 refine nt_wp hE ?_
 change Wp _ _ _ (w_markIntS_H2 v1.1 v1.2) _
 refine Wp.seq (Wp.region ?_)
 refine LWp.o 18 (I v1.2) ?_
 refine LWp.o 4 (I v1.2) ?_
 refine LWp.nil ?_
 cases h
 exact Wp.ret ⟨.inr rfl, _, _, rfl, rfl, rfl, rfl⟩
def w_markKnotS_H1 (z1 : List Knot) (z2 : Int) (z3 : Int) : St := mkStF [(0, (.one (.sl true 218 2 (encs (c218 true) z1)))), (1, (I z2)), (5, (I z3))] []
def w_markKnotS_H2 (z4 : List Knot) (z5 : Int) : St := mkStF [(0, (.one (.sl true 218 2 (encs (c218 true) z4)))), (1, (I z5))] []
theorem w_markKnotS_t (xA : List Knot) (xK : Int) (r : Int × List Knot) (h : w_markKnotS xA xK = some r) : Gives Tryz.prog 149 [.sv (.one (.sl true 218 2 (encs (c218 true) xA))), .sv (I xK)] (I r.1) (.sv (.one (.sl true 218 2 (encs (c218 true) r.2))) :: List.replicate 1 .gone) := by
 unfold w_markKnotS at h
 refine gives_lent Tryz.func149 rfl ?_
 rw [Tryz.ntmps149]
 refine Wp.seq (Wp.region ?_)
 refine LWp.o 4 (I 0) ?_
 refine LWp.nil ?_
 refine Wp.seq ?_
 refine Wp.seq (Wp.region ?_)
 refine LWp.o 5 (I 0) ?_
 refine LWp.nil ?_
 refine Wp.l1 h [0, 1, 5] [] (fun s => (w_markKnotS_H1 s.1 s.2.1 s.2.2)) [0, 1] [] (fun s => (w_markKnotS_H2 s.1 s.2)) ⟨rfl, rfl⟩ ?_ ?_
 · rintro ⟨yA1, yK1, yI1⟩ o (h : w_markKnotS_b1 yA1 yK1 yI1 = some o)
   unfold w_markKnotS_b1 at h
   change Wp _ _ _ (w_markKnotS_H1 yA1 yK1 yI1) _
   refine Wp.seq ?_
   refine Wp.seq (Wp.region ?_)
   refine LWp.o 6 (I yI1) ?_
   refine LWp.o 7 (.one (.view (.slot 0) 0 [] 0)) ?_
   refine LWp.o 8 (I (ln yA1)) ?_ (st_pure (p_ln (k218 true) yA1))
   refine LWp.o 9 (B (decide (yI1 < (ln yA1)))) ?_
   refine LWp.nil ?_
   refine Wp.c h (fun h => ?_) (fun h => ?_)
   · refine Wp.skip ?_
     refine Wp.seq ?_
     refine Wp.block ?_
     refine Wp.seq (Wp.region ?_)
     refine LWp.o 12 (.one (.view (.slot 0) 0 [] 0)) ?_
     refine LWp.o 13 (I yI1) ?_
     refine LWp.o 14 (I yK1) ?_
     refine LWp.o 15 (I (Int.tmod yK1 3)) ?_
     refine LWp.o 16 (B ((Int.tmod yK1 3) == 0)) ?_
     refine LWp.p h 17 (fun _ => (.one (.ptr (.slot 0) 0 [0] (Int.toNat yI1 * 2 + 0)))) ?_ (fun x1 gx1 => st_pure (p_ix (k218 true) (.slot 0) [] 0 gx1))
     intro x1 gx1 h
     refine LWp.o 18 (.one (.ptr (.slot 0) 0 [0] (Int.toNat yI1 * 2 + 0))) ?_ (st_pure (p_fa (k218 true) (.slot 0) [0] 0 gx1))
     refine LWp.sb [] (.slot 0) [.sl true 218 2 (encs (c218 true) (si yA1 yI1 (Knot.mk ((Int.tmod yK1 3) == 0) x1.Kids)))] ?_ (s_st [] (q := [0]) (cs := [.sl true 218 2 (encs (c218 true) yA1)]) (xs := [.bool ((Int.tmod yK1 3) == 0)]) (At.one (setRow_gi (k218 true) (k := 0) (z := (Knot.mk ((Int.tmod yK1 3) == 0) x1.Kids)) gx1 rfl rfl)) (fit_gi (k218 true) (k := 0) gx1 rfl))
     refine LWp.nil ?_
     refine Wp.seq (Wp.region ?_)
     refine LWp.o 19 (I yK1) ?_
     refine LWp.o 20 (I (ad yK1 1)) ?_
     refine LWp.o 1 (I (ad yK1 1)) ?_
     refine LWp.nil ?_
     refine Wp.region ?_
     refine LWp.o 21 (.one (.view (.slot 0) 1 [] 0)) ?_
     refine LWp.o 22 (I yI1) ?_
     refine LWp.p h 23 (fun _ => (.one (.ptr (.slot 0) 1 [0] (Int.toNat yI1 * 2 + 0)))) ?_ (fun x2 gx2 => st_pure (p_ix (k218 true) (.slot 0) [] 0 gx2))
     intro x2 gx2 h
     refine LWp.o 24 (.one (.ptr (.slot 0) 1 [0] (Int.toNat yI1 * 2 + 1))) ?_ (st_pure (p_fa (k218 true) (.slot 0) [0] 0 gx2))
     refine LWp.o 25 (.one (.view (.slot 0) 1 [0] (Int.toNat yI1 * 2 + 1))) ?_ (st_pure (p_lc (k218 true) (.slot 0) [0] 1 (.sl true 3 1 (encs c3 x2.Kids)) gx2))
     refine LWp.o 26 (I (ad yK1 1)) ?_
     refine LWp.leb h (.slot 0) [0] (Int.toNat yI1 * 2 + 1) [.sl true 218 2 (encs (c218 true) (si yA1 yI1 (Knot.mk ((Int.tmod yK1 3) == 0) x1.Kids)))] 27 (e := 3) (sz := 1) (encs c3 x2.Kids) (ad yK1 1) (fun v => v.1) (fun v1 => (encs c3 v1.2)) (fun v1 => [.sl true 218 2 (encs (c218 true) (si (si yA1 yI1 (Knot.mk ((Int.tmod yK1 3) == 0) x1.Kids)) yI1 (Knot.mk x2.Leaf v1.2)))]) rfl (fun v1 => At.one (set_gi (k218 true) (k := 1) (z := (Knot.mk x2.Leaf v1.2)) gx2 rfl rfl)) ((gi_cellb (k218 true) (k := 1) gx2).trans rfl) (fun v hv => w_markIntS_t x2.Kids (ad yK1 1) v hv) (ns3 _) (fun _ => ns3 _) ?_ (.inl ⟨0, _, rfl, rfl, rfl, rfl, fun _ _ _ _ _ _ _ h => h⟩)
     intro v1 gv1 h
     refine LWp.o 1 (I v1.1) ?_
     refine LWp.nil ?_
     refine Wp.region ?_
     refine LWp.o 10 (I yI1) ?_
     refine LWp.o 11 (I (ad yI1 1)) ?_
     refine LWp.o 5 (I (ad yI1 1)) ?_
     refine LWp.nil ?_
     cases h
     exact ⟨_, rfl, rfl, rfl⟩
   refine Wp.exit ?_
   cases h
   exact ⟨_, rfl, rfl, rfl⟩
 intro v2 h E hE
 refine nt_wp hE ?_
 change Wp _ _ _ (w_markKnotS_H2 v2.1 v2.2) _
 refine Wp.seq (Wp.region ?_)
 refine LWp.o 28 (I v2.2) ?_
 refine LWp.o 4 (I v2.2) ?_
 refine LWp.nil ?_
 cases h
 exact Wp.ret ⟨.inr rfl, _, _, rfl, rfl, rfl, rfl⟩
theorem w_markArena_t (xA : Arena) (xK : Int) (r : Int) (h : w_markArena xA xK = some r) : Gives Tryz.prog 98 [.sv (.agg [.sl true 218 2 (encs (c218 true) xA.Knots)]), .sv (I xK)] (I r) (List.replicate 2 .gone) := by
 unfold w_markArena at h
 refine gives_of Tryz.func98 rfl ?_
 rw [Tryz.ntmps98]
 refine Wp.seq (Wp.region ?_)
 refine LWp.b [(.slot 0, [.junk])] 2 [.sl true 218 2 (encs (c218 true) xA.Knots)] ?_
 refine LWp.o 4 (I 0) ?_
 refine LWp.nil ?_
 refine Wp.seq (Wp.region ?_)
 refine LWp.o 5 (.one (.ptr (.box 2) 1 [] 0)) ?_
 refine LWp.o 6 (.one (.view (.box 2) 1 [] 0)) ?_
 refine LWp.o 7 (I xK) ?_
 refine LWp.leb h (.box 2) [] 0 [.sl true 218 2 (encs (c218 true) xA.Knots)] 8 (e := 218) (sz := 2) (encs (c218 true) xA.Knots) xK (fun v => v.1) (fun v1 => (encs (c218 true) v1.2)) (fun v1 => [.sl true 218 2 (encs (c218 true) v1.2)]) rfl (fun v1 => At.nl rfl) rfl (fun v hv => w_markKnotS_t xA.Knots xK v hv) (ns218 _) (fun _ => ns218 _) ?_ (.inr ⟨rfl, rfl⟩)
 intro v1 gv1 h
 refine LWp.o 1 (I v1.1) ?_
 refine LWp.nil ?_
 refine Wp.seq (Wp.region ?_)
 refine LWp.o 9 (I v1.1) ?_
 refine LWp.o 4 (I v1.1) ?_
 refine LWp.nil ?_
 cases h
 exact Wp.ret ⟨.inr rfl, _, _, rfl, rfl⟩
theorem w_markStore_t (xA : Store) (xK : Int) (r : Int) (h : w_markStore xA xK = some r) : Gives Tryz.prog 52 [.sv (.agg [.sl true 110 2 (encs c110 xA.Vols), .sl true 218 2 (encs (c218 true) xA.Arena.Knots), .int .i64 xA.Next]), .sv (I xK)] (I r) (List.replicate 2 .gone) := by
 unfold w_markStore at h
 refine gives_of Tryz.func52 rfl ?_
 rw [Tryz.ntmps52]
 refine Wp.seq (Wp.region ?_)
 refine LWp.b [(.slot 0, [.junk, .sl true 218 2 (encs (c218 true) xA.Arena.Knots), .int .i64 xA.Next]), (.slot 0, [.junk, .junk, .int .i64 xA.Next])] 2 [.sl true 110 2 (encs c110 xA.Vols), .sl true 218 2 (encs (c218 true) xA.Arena.Knots), .int .i64 xA.Next] ?_
 refine LWp.o 4 (I 0) ?_
 refine LWp.nil ?_
 refine Wp.seq (Wp.region ?_)
 refine LWp.o 5 (.one (.ptr (.box 2) 1 [] 0)) ?_
 refine LWp.o 6 (.one (.view (.box 2) 1 [] 0)) ?_
 refine LWp.o 7 (I xK) ?_
 refine LWp.leb h (.box 2) [] 0 [.sl true 110 2 (encs c110 xA.Vols), .sl true 218 2 (encs (c218 true) xA.Arena.Knots), .int .i64 xA.Next] 8 (e := 110) (sz := 2) (encs c110 xA.Vols) xK (fun v => v.1) (fun v1 => (encs c110 v1.2)) (fun v1 => [.sl true 110 2 (encs c110 v1.2), .sl true 218 2 (encs (c218 true) xA.Arena.Knots), .int .i64 xA.Next]) rfl (fun v1 => At.nl rfl) rfl (fun v hv => w_markVolS_t xA.Vols xK v hv) (ns110 _) (fun _ => ns110 _) ?_ (.inr ⟨rfl, rfl⟩)
 intro v1 gv1 h
 refine LWp.o 1 (I v1.1) ?_
 refine LWp.nil ?_
 refine Wp.seq (Wp.region ?_)
 refine LWp.o 9 (.one (.ptr (.box 2) 1 [] 1)) ?_
 refine LWp.o 10 (.agg [.view (.box 2) 2 [] 1]) ?_
 refine LWp.o 11 (I v1.1) ?_
 refine LWp.cm h [(.box 2, [.sl true 110 2 (encs c110 v1.2), .junk, .int .i64 xA.Next])] 12 (fun v2 => (I v2)) rfl rfl (l := [.sv (.agg [.sl true 218 2 (encs (c218 true) xA.Arena.Knots)]), .sv (I v1.1)]) rfl (fun v hv => w_markArena_t xA.Arena v1.1 v hv) (.inl rfl) ?_
 intro v2 gv2 h
 refine LWp.o 1 (I v2) ?_
 refine LWp.nil ?_
 refine Wp.seq (Wp.region ?_)
 refine LWp.o 13 (I v2) ?_
 refine LWp.o 4 (I v2) ?_
 refine LWp.nil ?_
 cases h
 exact Wp.ret ⟨.inr rfl, _, _, rfl, rfl⟩
theorem w_markDevice_t (xA : Device) (xK : Int) (r : Int) (h : w_markDevice xA xK = some r) : Gives Tryz.prog 17 [.sv (.agg [.sl true 124 3 (encs (c124 true) xA.Flash.Blocks), .sl true 110 2 (encs c110 xA.Store.Vols), .sl true 218 2 (encs (c218 true) xA.Store.Arena.Knots), .int .i64 xA.Store.Next, .int .i64 xA.Seq, .int .i64 xA.Tx, .int .i64 xA.Base]), .sv (I xK)] (I r) (List.replicate 2 .gone) := by
 unfold w_markDevice at h
 refine gives_of Tryz.func17 rfl ?_
 rw [Tryz.ntmps17]
 refine Wp.seq (Wp.region ?_)
 refine LWp.b [(.slot 0, [.junk, .sl true 110 2 (encs c110 xA.Store.Vols), .sl true 218 2 (encs (c218 true) xA.Store.Arena.Knots), .int .i64 xA.Store.Next, .int .i64 xA.Seq, .int .i64 xA.Tx, .int .i64 xA.Base]), (.slot 0, [.junk, .junk, .sl true 218 2 (encs (c218 true) xA.Store.Arena.Knots), .int .i64 xA.Store.Next, .int .i64 xA.Seq, .int .i64 xA.Tx, .int .i64 xA.Base]), (.slot 0, [.junk, .junk, .junk, .int .i64 xA.Store.Next, .int .i64 xA.Seq, .int .i64 xA.Tx, .int .i64 xA.Base])] 2 [.sl true 124 3 (encs (c124 true) xA.Flash.Blocks), .sl true 110 2 (encs c110 xA.Store.Vols), .sl true 218 2 (encs (c218 true) xA.Store.Arena.Knots), .int .i64 xA.Store.Next, .int .i64 xA.Seq, .int .i64 xA.Tx, .int .i64 xA.Base] ?_
 refine LWp.o 4 (I 0) ?_
 refine LWp.nil ?_
 refine Wp.seq (Wp.region ?_)
 refine LWp.o 5 (.one (.ptr (.box 2) 1 [] 0)) ?_
 refine LWp.o 6 (.agg [.view (.box 2) 1 [] 0]) ?_
 refine LWp.o 7 (I xK) ?_
 refine LWp.cm h [(.box 2, [.junk, .sl true 110 2 (encs c110 xA.Store.Vols), .sl true 218 2 (encs (c218 true) xA.Store.Arena.Knots), .int .i64 xA.Store.Next, .int .i64 xA.Seq, .int .i64 xA.Tx, .int .i64 xA.Base])] 8 (fun v1 => (I v1)) rfl rfl (l := [.sv (.agg [.sl true 124 3 (encs (c124 true) xA.Flash.Blocks)]), .sv (I xK)]) rfl (fun v hv => w_markFlash_t xA.Flash xK v hv) (.inl rfl) ?_
 intro v1 gv1 h
 refine LWp.o 1 (I v1) ?_
 refine LWp.nil ?_
 refine Wp.seq (Wp.region ?_)
 refine LWp.o 9 (.one (.ptr (.box 2) 1 [] 1)) ?_
 refine LWp.o 10 (.agg [.view (.box 2) 2 [] 1, .view (.box 2) 2 [] 2, .int .i64 xA.Store.Next]) ?_
 refine LWp.o 11 (I v1) ?_
 refine LWp.cm h [(.box 2, [.junk, .junk, .sl true 218 2 (encs (c218 true) xA.Store.Arena.Knots), .int .i64 xA.Store.Next, .int .i64 xA.Seq, .int .i64 xA.Tx, .int .i64 xA.Base]), (.box 2, [.junk, .junk, .junk, .int .i64 xA.Store.Next, .int .i64 xA.Seq, .int .i64 xA.Tx, .int .i64 xA.Base])] 12 (fun v2 => (I v2)) rfl rfl (l := [.sv (.agg [.sl true 110 2 (encs c110 xA.Store.Vols), .sl true 218 2 (encs (c218 true) xA.Store.Arena.Knots), .int .i64 xA.Store.Next]), .sv (I v1)]) rfl (fun v hv => w_markStore_t xA.Store v1 v hv) (.inl rfl) ?_
 intro v2 gv2 h
 refine LWp.o 1 (I v2) ?_
 refine LWp.nil ?_
 refine Wp.seq (Wp.region ?_)
 refine LWp.o 13 (I v2) ?_
 refine LWp.o 4 (I v2) ?_
 refine LWp.nil ?_
 cases h
 exact Wp.ret ⟨.inr rfl, _, _, rfl, rfl⟩
def w_heldIntS_H1 (xA : List Int) (z1 : Int) (z2 : Int) : St := mkSt [(0, (.one (.sl false 3 1 (encs c3 xA)))), (1, (I z1)), (5, (I z2))] []
def w_heldIntS_H2 (z3 : Int) : St := mkSt [(1, (I z3))] []
theorem w_heldIntS_t (xA : List Int) (xK : Int) (r : Int) (h : w_heldIntS xA xK = some r) : Gives Tryz.prog 32 [.sv (.one (.sl false 3 1 (encs c3 xA))), .sv (I xK)] (I r) (List.replicate 2 .gone) := by
 unfold w_heldIntS at h
 refine gives_of Tryz.func32 rfl ?_
 rw [Tryz.ntmps32]
 refine Wp.seq (Wp.region ?_)
 refine LWp.o 4 (I 0) ?_
 refine LWp.nil ?_
 refine Wp.seq ?_
 refine Wp.seq (Wp.region ?_)
 refine LWp.o 5 (I 0) ?_
 refine LWp.nil ?_
 refine Wp.l2 h [0, 1, 5] [] (fun s => (w_heldIntS_H1 xA s.1 s.2)) [1] [] (fun s => (w_heldIntS_H2 s)) ⟨rfl, rfl⟩ ?_ ?_
 · rintro ⟨yK1, yI1⟩ o (h : w_heldIntS_b1 xA yK1 yI1 = some o) hk1
   unfold w_heldIntS_b1 at h
   change Wp _ _ _ (w_heldIntS_H1 xA yK1 yI1) _
   refine Wp.seq ?_
   refine Wp.seq (Wp.region ?_)
   refine LWp.o 6 (I yI1) ?_
   refine LWp.o 7 (.one (.sl false 3 1 (encs c3 xA))) ?_
   refine LWp.o 8 (I (ln xA)) ?_ (st_pure (p_ln k3 xA))
   refine LWp.o 9 (B (decide (yI1 < (ln xA)))) ?_
   refine LWp.nil ?_
   refine Wp.c h (fun h => ?_) (fun h => ?_)
   · refine Wp.skip ?_
     refine Wp.seq ?_
     refine Wp.block ?_
     refine Wp.seq ?_
     refine Wp.seq (Wp.region ?_)
     refine LWp.o 12 (.one (.sl false 3 1 (encs c3 xA))) ?_
     refine LWp.o 13 (I yI1) ?_
     refine LWp.p h 14 (fun _ => (.one (.ptr (.slot 12) 1 [0] (Int.toNat yI1 * 1 + 0)))) ?_ (fun x1 gx1 => st_pure (p_ix k3 (.slot 12) [] 0 gx1))
     intro x1 gx1 h
     refine LWp.o 15 (I x1) ?_ (st_pure (p_lc k3 (.slot 12) [0] 0 (.int .i64 x1) gx1))
     refine LWp.o 16 (I yK1) ?_
     refine LWp.o 17 (B (x1 != yK1)) ?_
     refine LWp.nil ?_
     refine Wp.c h (fun h => ?_) (fun h => ?_)
     · refine Wp.seq (Wp.region ?_)
       refine LWp.o 4 (I (-1)) ?_
       refine LWp.nil ?_
       cases h
       replace h : some _ = some _ := hk1 _ rfl
       cases h
       exact Wp.ret ⟨.inr rfl, _, _, rfl, rfl⟩
     refine Wp.skip ?_
     refine Wp.region ?_
     refine LWp.o 18 (I yK1) ?_
     refine LWp.o 19 (I (ad yK1 1)) ?_
     refine LWp.o 1 (I (ad yK1 1)) ?_
     refine LWp.nil ?_
     refine Wp.region ?_
     refine LWp.o 10 (I yI1) ?_
     refine LWp.o 11 (I (ad yI1 1)) ?_
     refine LWp.o 5 (I (ad yI1 1)) ?_
     refine LWp.nil ?_
     cases h
     exact ⟨_, rfl, rfl, rfl⟩
   refine Wp.exit ?_
   cases h
   exact ⟨_, rfl, rfl, rfl⟩
 intro v1 h E hE
 refine nt_wp hE ?_
 change Wp _ _ _ (w_heldIntS_H2 v1) _
 refine Wp.seq (Wp.region ?_)
 refine LWp.o 20 (I v1) ?_
 refine LWp.o 4 (I v1) ?_
 refine LWp.nil ?_
 cases h
 exact Wp.ret ⟨.inr rfl, _, _, rfl, rfl⟩
def w_FnExactDeadBlocks_H1 (xAD : Device) (v3 : List Int) (v5 : List Int) (z1 : Bool) : St := mkSt [(1, (.one (.ptr (.box 1) 0 [] 0))), (4, (.one (.sl true 3 1 (encs c3 v3)))), (6, (.one (.sl true 3 1 (encs c3 v5)))), (42, (B z1))] [(.box 1, [.sl false 176 3 (encs (c176 false) xAD.Flash.Blocks), .sl false 188 2 (encs c188 xAD.Store.Vols), .sl false 211 2 (encs (c211 false) xAD.Store.Arena.Knots), .int .i64 xAD.Store.Next, .int .i64 xAD.Seq, .int .i64 xAD.Tx, .int .i64 xAD.Base])]
theorem w_FnExactDeadBlocks_t (xAD : Device) (r : Bool) (h : w_FnExactDeadBlocks xAD = some r) : Gives Tryz.prog 6 [.sv (.agg [.sl false 176 3 (encs (c176 false) xAD.Flash.Blocks), .sl false 188 2 (encs c188 xAD.Store.Vols), .sl false 211 2 (encs (c211 false) xAD.Store.Arena.Knots), .int .i64 xAD.Store.Next, .int .i64 xAD.Seq, .int .i64 xAD.Tx, .int .i64 xAD.Base])] (B r) (List.replicate 1 .gone) := by
 unfold w_FnExactDeadBlocks at h
 refine gives_of Tryz.func6 rfl ?_
 rw [Tryz.ntmps6]
 refine Wp.seq (Wp.region ?_)
 refine LWp.b [] 1 [.sl false 176 3 (encs (c176 false) xAD.Flash.Blocks), .sl false 188 2 (encs c188 xAD.Store.Vols), .sl false 211 2 (encs (c211 false) xAD.Store.Arena.Knots), .int .i64 xAD.Store.Next, .int .i64 xAD.Seq, .int .i64 xAD.Tx, .int .i64 xAD.Base] ?_
 refine LWp.o 2 (B false) ?_
 refine LWp.nil ?_
 refine Wp.seq (Wp.region ?_)
 refine LWp.o 3 (I 1048576) ?_
 refine LWp.nil ?_
 refine Wp.seq (Wp.region ?_)
 refine LWp.o 11 (.agg [.sl false 176 3 (encs (c176 false) xAD.Flash.Blocks), .sl false 188 2 (encs c188 xAD.Store.Vols), .sl false 211 2 (encs (c211 false) xAD.Store.Arena.Knots), .int .i64 xAD.Store.Next, .int .i64 xAD.Seq, .int .i64 xAD.Tx, .int .i64 xAD.Base]) ?_
 refine LWp.o 12 (I 1048576) ?_
 refine LWp.cl h 13 (fun v1 => (I v1)) rfl (l := [.sv (.agg [.sl false 176 3 (encs (c176 false) xAD.Flash.Blocks), .sl false 188 2 (encs c188 xAD.Store.Vols), .sl false 211 2 (encs (c211 false) xAD.Store.Arena.Knots), .int .i64 xAD.Store.Next, .int .i64 xAD.Seq, .int .i64 xAD.Tx, .int .i64 xAD.Base]), .sv (.one (.int .i64 1048576))]) rfl (fun v hv => w_szDevice_t xAD 1048576 v hv) (.inl rfl) ?_
 intro v1 gv1 h
 refine LWp.o 3 (I v1) ?_
 refine LWp.nil ?_
 refine Wp.seq ?_
 refine Wp.seq (Wp.region ?_)
 refine LWp.o 14 (I v1) ?_
 refine LWp.o 15 (B (decide (v1 < 0))) ?_
 refine LWp.nil ?_
 refine Wp.c h (fun h => ?_) (fun h => ?_)
 · refine Wp.seq (Wp.region ?_)
   refine LWp.o 2 (B true) ?_
   refine LWp.nil ?_
   cases h
   exact Wp.ret ⟨.inr rfl, _, _, rfl, rfl⟩
 refine Wp.skip ?_
 refine Wp.seq (Wp.region ?_)
 refine LWp.o 16 (.agg [.sl false 176 3 (encs (c176 false) xAD.Flash.Blocks), .sl false 188 2 (encs c188 xAD.Store.Vols), .sl false 211 2 (encs (c211 false) xAD.Store.Arena.Knots), .int .i64 xAD.Store.Next, .int .i64 xAD.Seq, .int .i64 xAD.Tx, .int .i64 xAD.Base]) ?_
 refine LWp.cl h 17 (fun v2 => (.agg [.sl true 124 3 (encs (c124 true) v2.Flash.Blocks), .sl true 110 2 (encs c110 v2.Store.Vols), .sl true 218 2 (encs (c218 true) v2.Store.Arena.Knots), .int .i64 v2.Store.Next, .int .i64 v2.Seq, .int .i64 v2.Tx, .int .i64 v2.Base])) rfl (l := [.sv (.agg [.sl false 176 3 (encs (c176 false) xAD.Flash.Blocks), .sl false 188 2 (encs c188 xAD.Store.Vols), .sl false 211 2 (encs (c211 false) xAD.Store.Arena.Knots), .int .i64 xAD.Store.Next, .int .i64 xAD.Seq, .int .i64 xAD.Tx, .int .i64 xAD.Base])]) rfl (fun v hv => w_toDevice_t xAD v hv) (.inl rfl) ?_
 intro v2 gv2 h
 refine LWp.cl h 18 (fun v3 => (.one (.sl true 3 1 (encs c3 v3)))) rfl (l := [.sv (.agg [.sl false 124 3 (shares (encs (c124 true) v2.Flash.Blocks)), .sl false 110 2 (shares (encs c110 v2.Store.Vols)), .sl false 218 2 (shares (encs (c218 true) v2.Store.Arena.Knots)), .int .i64 v2.Store.Next, .int .i64 v2.Seq, .int .i64 v2.Tx, .int .i64 v2.Base])]) rfl (fun v hv => cg (l := [.sv (.agg [.sl false 124 3 (shares (encs (c124 true) v2.Flash.Blocks)), .sl false 110 2 (shares (encs c110 v2.Store.Vols)), .sl false 218 2 (shares (encs (c218 true) v2.Store.Arena.Knots)), .int .i64 v2.Store.Next, .int .i64 v2.Seq, .int .i64 v2.Tx, .int .i64 v2.Base])]) (by simp only [sh110, sh124, sh218]) (s_DeadBlocks_t v2 v hv)) (.inr (fun v => by simp [svShared, svShareds, hasShareds, hasShared, ns3])) ?_
 intro v3 gv3 h
 refine LWp.m true [(.slot 18, [.junk])] 4 (.one (.sl true 3 1 (encs c3 v3))) ?_
 refine LWp.nil ?_
 refine Wp.seq (Wp.region ?_)
 refine LWp.o 19 (.agg [.sl false 176 3 (encs (c176 false) xAD.Flash.Blocks), .sl false 188 2 (encs c188 xAD.Store.Vols), .sl false 211 2 (encs (c211 false) xAD.Store.Arena.Knots), .int .i64 xAD.Store.Next, .int .i64 xAD.Seq, .int .i64 xAD.Tx, .int .i64 xAD.Base]) ?_
 refine LWp.cl h 20 (fun v4 => (.agg [.sl true 124 3 (encs (c124 true) v4.Flash.Blocks), .sl true 110 2 (encs c110 v4.Store.Vols), .sl true 218 2 (encs (c218 true) v4.Store.Arena.Knots), .int .i64 v4.Store.Next, .int .i64 v4.Seq, .int .i64 v4.Tx, .int .i64 v4.Base])) rfl (l := [.sv (.agg [.sl false 176 3 (encs (c176 false) xAD.Flash.Blocks), .sl false 188 2 (encs c188 xAD.Store.Vols), .sl false 211 2 (encs (c211 false) xAD.Store.Arena.Knots), .int .i64 xAD.Store.Next, .int .i64 xAD.Seq, .int .i64 xAD.Tx, .int .i64 xAD.Base])]) rfl (fun v hv => w_toDevice_t xAD v hv) (.inl rfl) ?_
 intro v4 gv4 h
 refine LWp.b [] 5 [.sl true 124 3 (encs (c124 true) []), .sl true 110 2 (encs c110 []), .sl true 218 2 (encs (c218 true) []), .int .i64 0, .int .i64 0, .int .i64 0, .int .i64 0] ?_
 refine LWp.sb [(.slot 20, [.junk, .sl true 110 2 (encs c110 v4.Store.Vols), .sl true 218 2 (encs (c218 true) v4.Store.Arena.Knots), .int .i64 v4.Store.Next, .int .i64 v4.Seq, .int .i64 v4.Tx, .int .i64 v4.Base]), (.slot 20, [.junk, .junk, .sl true 218 2 (encs (c218 true) v4.Store.Arena.Knots), .int .i64 v4.Store.Next, .int .i64 v4.Seq, .int .i64 v4.Tx, .int .i64 v4.Base]), (.slot 20, [.junk, .junk, .junk, .int .i64 v4.Store.Next, .int .i64 v4.Seq, .int .i64 v4.Tx, .int .i64 v4.Base])] (.box 5) [.sl true 124 3 (encs (c124 true) v4.Flash.Blocks), .sl true 110 2 (encs c110 v4.Store.Vols), .sl true 218 2 (encs (c218 true) v4.Store.Arena.Knots), .int .i64 v4.Store.Next, .int .i64 v4.Seq, .int .i64 v4.Tx, .int .i64 v4.Base] ?_
 refine LWp.nil ?_
 refine Wp.seq (Wp.region ?_)
 refine LWp.o 21 (.agg [.view (.box 5) 2 [] 0, .view (.box 5) 2 [] 1, .view (.box 5) 2 [] 2, .int .i64 v4.Store.Next, .int .i64 v4.Seq, .int .i64 v4.Tx, .int .i64 v4.Base]) ?_
 refine LWp.cl h 22 (fun v5 => (.one (.sl true 3 1 (encs c3 v5)))) rfl (l := [.sv (.agg [.sl false 124 3 (shares (encs (c124 true) v4.Flash.Blocks)), .sl false 110 2 (shares (encs c110 v4.Store.Vols)), .sl false 218 2 (shares (encs (c218 true) v4.Store.Arena.Knots)), .int .i64 v4.Store.Next, .int .i64 v4.Seq, .int .i64 v4.Tx, .int .i64 v4.Base])]) rfl (fun v hv => cg (l := [.sv (.agg [.sl false 124 3 (shares (encs (c124 true) v4.Flash.Blocks)), .sl false 110 2 (shares (encs c110 v4.Store.Vols)), .sl false 218 2 (shares (encs (c218 true) v4.Store.Arena.Knots)), .int .i64 v4.Store.Next, .int .i64 v4.Seq, .int .i64 v4.Tx, .int .i64 v4.Base])]) (by simp only [sh110, sh124, sh218]) (i_DeadBlocks_t v4 v hv)) (.inr (fun v => by simp [svShared, svShareds, hasShareds, hasShared, ns3])) ?_
 intro v5 gv5 h
 refine LWp.m true [(.slot 22, [.junk])] 6 (.one (.sl true 3 1 (encs c3 v5))) ?_
 refine LWp.nil ?_
 refine Wp.seq ?_
 refine Wp.seq (Wp.region ?_)
 refine LWp.o 23 (.one (.view (.slot 6) 1 [] 0)) ?_
 refine LWp.o 24 (.one (.view (.slot 4) 1 [] 0)) ?_
 refine LWp.cl h 25 (fun v6 => (B v6)) rfl (l := [.sv (.one (.sl false 3 1 (shares (encs c3 v5)))), .sv (.one (.sl false 3 1 (shares (encs c3 v3))))]) rfl (fun v hv => cg (l := [.sv (.one (.sl false 3 1 (shares (encs c3 v5)))), .sv (.one (.sl false 3 1 (shares (encs c3 v3))))]) (by simp only [sh3]) (w_eqIntS_t v5 v3 v hv)) (.inr (fun v => rfl)) ?_
 intro v6 gv6 h
 refine LWp.o 26 (B (!v6)) ?_
 refine LWp.nil ?_
 refine Wp.c h (fun h => ?_) (fun h => ?_)
 · refine Wp.seq (Wp.region ?_)
   refine LWp.o 2 (B false) ?_
   refine LWp.nil ?_
   cases h
   exact Wp.ret ⟨.inr rfl, _, _, rfl, rfl⟩
 refine Wp.skip ?_
 refine Wp.seq ?_
 refine Wp.seq ?_
 refine Wp.regionK 5 [] mixed (fun c E h => by rcases h with ⟨h | h, _⟩ <;> cases h) ?_
 refine KWp.o 5 0 27 (.agg [.view (.box 5) 2 [] 0, .view (.box 5) 2 [] 1, .view (.box 5) 2 [] 2, .int .i64 v4.Store.Next, .int .i64 v4.Seq, .int .i64 v4.Tx, .int .i64 v4.Base]) ?_
 refine KWp.o 5 1 28 (.agg [.sl false 176 3 (encs (c176 false) xAD.Flash.Blocks), .sl false 188 2 (encs c188 xAD.Store.Vols), .sl false 211 2 (encs (c211 false) xAD.Store.Arena.Knots), .int .i64 xAD.Store.Next, .int .i64 xAD.Seq, .int .i64 xAD.Tx, .int .i64 xAD.Base]) ?_
 refine KWp.w1 2 ?_
 refine KOp.cl h 2 29 (fun v7 => (.agg [.sl true 124 3 (encs (c124 true) v7.Flash.Blocks), .sl true 110 2 (encs c110 v7.Store.Vols), .sl true 218 2 (encs (c218 true) v7.Store.Arena.Knots), .int .i64 v7.Store.Next, .int .i64 v7.Seq, .int .i64 v7.Tx, .int .i64 v7.Base])) rfl rfl (l := [.sv (.agg [.sl false 176 3 (encs (c176 false) xAD.Flash.Blocks), .sl false 188 2 (encs c188 xAD.Store.Vols), .sl false 211 2 (encs (c211 false) xAD.Store.Arena.Knots), .int .i64 xAD.Store.Next, .int .i64 xAD.Seq, .int .i64 xAD.Tx, .int .i64 xAD.Base])]) rfl (fun v hv => w_toDevice_t xAD v hv) (.inl rfl) ?_
 intro v7 gv7 h
 refine KWp.w1 3 ?_
 refine KOp.cl h 3 30 (fun v8 => (B v8)) rfl rfl (l := [.sv (.agg [.sl false 124 3 (shares (encs (c124 true) v4.Flash.Blocks)), .sl false 110 2 (shares (encs c110 v4.Store.Vols)), .sl false 218 2 (shares (encs (c218 true) v4.Store.Arena.Knots)), .int .i64 v4.Store.Next, .int .i64 v4.Seq, .int .i64 v4.Tx, .int .i64 v4.Base]), .sv (.agg [.sl false 124 3 (shares (encs (c124 true) v7.Flash.Blocks)), .sl false 110 2 (shares (encs c110 v7.Store.Vols)), .sl false 218 2 (shares (encs (c218 true) v7.Store.Arena.Knots)), .int .i64 v7.Store.Next, .int .i64 v7.Seq, .int .i64 v7.Tx, .int .i64 v7.Base])]) rfl (fun v hv => cg (l := [.sv (.agg [.sl false 124 3 (shares (encs (c124 true) v4.Flash.Blocks)), .sl false 110 2 (shares (encs c110 v4.Store.Vols)), .sl false 218 2 (shares (encs (c218 true) v4.Store.Arena.Knots)), .int .i64 v4.Store.Next, .int .i64 v4.Seq, .int .i64 v4.Tx, .int .i64 v4.Base]), .sv (.agg [.sl false 124 3 (shares (encs (c124 true) v7.Flash.Blocks)), .sl false 110 2 (shares (encs c110 v7.Store.Vols)), .sl false 218 2 (shares (encs (c218 true) v7.Store.Arena.Knots)), .int .i64 v7.Store.Next, .int .i64 v7.Seq, .int .i64 v7.Tx, .int .i64 v7.Base])]) (by simp only [sh110, sh124, sh218]) (w_eqDevice_t v4 v7 v hv)) (.inr (fun v => rfl)) ?_
 intro v8 gv8 h
 refine KWp.o 5 4 31 (B (!v8)) ?_
 refine KWp.done ?_
 refine Wp.c h (fun h => ?_) (fun h => ?_)
 · refine Wp.seq (Wp.region ?_)
   refine LWp.o 2 (B false) ?_
   refine LWp.nil ?_
   cases h
   exact Wp.ret ⟨.inr rfl, _, _, rfl, rfl⟩
 refine Wp.skip ?_
 refine Wp.seq (Wp.region ?_)
 refine LWp.o 7 (I 1) ?_
 refine LWp.nil ?_
 refine Wp.seq (Wp.region ?_)
 refine LWp.o 32 (.agg [.view (.box 5) 2 [] 0, .view (.box 5) 2 [] 1, .view (.box 5) 2 [] 2, .int .i64 v4.Store.Next, .int .i64 v4.Seq, .int .i64 v4.Tx, .int .i64 v4.Base]) ?_
 refine LWp.o 33 (I 1) ?_
 refine LWp.cm h [(.box 5, [.junk, .sl true 110 2 (encs c110 v4.Store.Vols), .sl true 218 2 (encs (c218 true) v4.Store.Arena.Knots), .int .i64 v4.Store.Next, .int .i64 v4.Seq, .int .i64 v4.Tx, .int .i64 v4.Base]), (.box 5, [.junk, .junk, .sl true 218 2 (encs (c218 true) v4.Store.Arena.Knots), .int .i64 v4.Store.Next, .int .i64 v4.Seq, .int .i64 v4.Tx, .int .i64 v4.Base]), (.box 5, [.junk, .junk, .junk, .int .i64 v4.Store.Next, .int .i64 v4.Seq, .int .i64 v4.Tx, .int .i64 v4.Base])] 34 (fun v9 => (I v9)) rfl rfl (l := [.sv (.agg [.sl true 124 3 (encs (c124 true) v4.Flash.Blocks), .sl true 110 2 (encs c110 v4.Store.Vols), .sl true 218 2 (encs (c218 true) v4.Store.Arena.Knots), .int .i64 v4.Store.Next, .int .i64 v4.Seq, .int .i64 v4.Tx, .int .i64 v4.Base]), .sv (I 1)]) rfl (fun v hv => w_markDevice_t v4 1 v hv) (.inl rfl) ?_
 intro v9 gv9 h
 refine LWp.o 7 (I v9) ?_
 refine LWp.nil ?_
 refine Wp.seq ?_
 refine Wp.seq ?_
 refine Wp.j1 h [1, 4, 6, 42] [.box 1] (fun a => (w_FnExactDeadBlocks_H1 xAD v3 v5 a)) ?_ ?_
 · intro a h
   refine Wp.region ?_
   refine LWp.o 35 (I v9) ?_
   refine LWp.o 36 (B (decide (v9 < 0))) ?_
   refine LWp.o 37 (B (decide (v9 < 0))) ?_
   refine LWp.sp h 37 (fun h => ?_) (fun h => ?_)
   · refine LWp.sh 38 ?_
     refine LWp.sh 39 ?_
     refine LWp.sh 40 ?_
     refine LWp.sh 41 ?_
     refine LWp.o 42 (B true) ?_
     refine LWp.nil ?_
     cases h
     exact ⟨_, rfl, rfl, rfl⟩
   refine LWp.o 38 (.one (.view (.slot 6) 1 [] 0)) ?_
   refine LWp.o 39 (.one (.view (.slot 4) 1 [] 0)) ?_
   refine LWp.cl h 40 (fun v10 => (B v10)) rfl (l := [.sv (.one (.sl false 3 1 (shares (encs c3 v5)))), .sv (.one (.sl false 3 1 (shares (encs c3 v3))))]) rfl (fun v hv => cg (l := [.sv (.one (.sl false 3 1 (shares (encs c3 v5)))), .sv (.one (.sl false 3 1 (shares (encs c3 v3))))]) (by simp only [sh3]) (w_eqIntS_t v5 v3 v hv)) (.inr (fun v => rfl)) ?_
   intro v10 gv10 h
   refine LWp.o 41 (B (!v10)) ?_
   refine LWp.o 42 (B (!v10)) ?_
   refine LWp.nil ?_
   cases h
   exact ⟨_, rfl, rfl, rfl⟩
 intro j1 h E hE
 refine nt_wp hE ?_
 change Wp _ _ _ (w_FnExactDeadBlocks_H1 xAD v3 v5 j1) _
 refine Wp.c h (fun h => ?_) (fun h => ?_)
 · refine Wp.seq (Wp.region ?_)
   refine LWp.o 2 (B false) ?_
   refine LWp.nil ?_
   cases h
   exact Wp.ret ⟨.inr rfl, _, _, rfl, rfl⟩
 refine Wp.skip ?_
 refine Wp.seq (Wp.region ?_)
 refine LWp.o 8 (I 1) ?_
 refine LWp.nil ?_
 refine Wp.seq (Wp.region ?_)
 refine LWp.o 43 (.one (.view (.slot 6) 0 [] 0)) ?_
 refine LWp.o 44 (I 1) ?_
 refine LWp.leb h (.slot 6) [] 0 [.sl true 3 1 (encs c3 v5)] 45 (e := 3) (sz := 1) (encs c3 v5) 1 (fun v => v.1) (fun v11 => (encs c3 v11.2)) (fun v11 => [.sl true 3 1 (encs c3 v11.2)]) rfl (fun v11 => At.nl rfl) rfl (fun v hv => w_markIntS_t v5 1 v hv) (ns3 _) (fun _ => ns3 _) ?_ (.inl ⟨6, _, rfl, rfl, rfl, rfl, fun _ _ _ _ _ _ _ h => h⟩)
 intro v11 gv11 h
 refine LWp.o 8 (I v11.1) ?_
 refine LWp.nil ?_
 refine Wp.seq (Wp.region ?_)
 refine LWp.o 9 (I 1) ?_
 refine LWp.nil ?_
 refine Wp.seq (Wp.region ?_)
 refine LWp.o 46 (.one (.view (.slot 6) 1 [] 0)) ?_
 refine LWp.o 47 (I 1) ?_
 refine LWp.cl h 48 (fun v12 => (I v12)) rfl (l := [.sv (.one (.sl false 3 1 (shares (encs c3 v11.2)))), .sv (.one (.int .i64 1))]) rfl (fun v hv => cg (l := [.sv (.one (.sl false 3 1 (shares (encs c3 v11.2)))), .sv (.one (.int .i64 1))]) (by simp only [sh3]) (w_heldIntS_t v11.2 1 v hv)) (.inr (fun v => rfl)) ?_
 intro v12 gv12 h
 refine LWp.o 9 (I v12) ?_
 refine LWp.nil ?_
 refine Wp.seq ?_
 refine Wp.seq (Wp.region ?_)
 refine LWp.o 49 (I v12) ?_
 refine LWp.o 50 (B (decide (v12 < 0))) ?_
 refine LWp.nil ?_
 refine Wp.c h (fun h => ?_) (fun h => ?_)
 · refine Wp.seq (Wp.region ?_)
   refine LWp.o 2 (B false) ?_
   refine LWp.nil ?_
   cases h
   exact Wp.ret ⟨.inr rfl, _, _, rfl, rfl⟩
 refine Wp.skip ?_
 refine Wp.seq ?_
 refine Wp.seq (Wp.region ?_)
 refine LWp.o 51 (I v12) ?_
 refine LWp.o 52 (I v11.1) ?_
 refine LWp.o 53 (B (v12 != v11.1)) ?_
 refine LWp.nil ?_
 refine Wp.c h (fun h => ?_) (fun h => ?_)
 · refine Wp.seq (Wp.region ?_)
   refine LWp.o 2 (B false) ?_
   refine LWp.nil ?_
   cases h
   exact Wp.ret ⟨.inr rfl, _, _, rfl, rfl⟩
 refine Wp.skip ?_
 refine Wp.seq (Wp.region ?_)
 refine LWp.o 54 (.agg [.sl false 176 3 (encs (c176 false) xAD.Flash.Blocks), .sl false 188 2 (encs c188 xAD.Store.Vols), .sl false 211 2 (encs (c211 false) xAD.Store.Arena.Knots), .int .i64 xAD.Store.Next, .int .i64 xAD.Seq, .int .i64 xAD.Tx, .int .i64 xAD.Base]) ?_
 refine LWp.cl h 55 (fun v13 => (.agg [.sl true 124 3 (encs (c124 true) v13.Flash.Blocks), .sl true 110 2 (encs c110 v13.Store.Vols), .sl true 218 2 (encs (c218 true) v13.Store.Arena.Knots), .int .i64 v13.Store.Next, .int .i64 v13.Seq, .int .i64 v13.Tx, .int .i64 v13.Base])) rfl (l := [.sv (.agg [.sl false 176 3 (encs (c176 false) xAD.Flash.Blocks), .sl false 188 2 (encs c188 xAD.Store.Vols), .sl false 211 2 (encs (c211 false) xAD.Store.Arena.Knots), .int .i64 xAD.Store.Next, .int .i64 xAD.Seq, .int .i64 xAD.Tx, .int .i64 xAD.Base])]) rfl (fun v hv => w_toDevice_t xAD v hv) (.inl rfl) ?_
 intro v13 gv13 h
 refine LWp.cl h 56 (fun v14 => (.one (.sl true 3 1 (encs c3 v14)))) rfl (l := [.sv (.agg [.sl false 124 3 (shares (encs (c124 true) v13.Flash.Blocks)), .sl false 110 2 (shares (encs c110 v13.Store.Vols)), .sl false 218 2 (shares (encs (c218 true) v13.Store.Arena.Knots)), .int .i64 v13.Store.Next, .int .i64 v13.Seq, .int .i64 v13.Tx, .int .i64 v13.Base])]) rfl (fun v hv => cg (l := [.sv (.agg [.sl false 124 3 (shares (encs (c124 true) v13.Flash.Blocks)), .sl false 110 2 (shares (encs c110 v13.Store.Vols)), .sl false 218 2 (shares (encs (c218 true) v13.Store.Arena.Knots)), .int .i64 v13.Store.Next, .int .i64 v13.Seq, .int .i64 v13.Tx, .int .i64 v13.Base])]) (by simp only [sh110, sh124, sh218]) (i_DeadBlocks_t v13 v hv)) (.inr (fun v => by simp [svShared, svShareds, hasShareds, hasShared, ns3])) ?_
 intro v14 gv14 h
 refine LWp.m true [(.slot 56, [.junk])] 10 (.one (.sl true 3 1 (encs c3 v14))) ?_
 refine LWp.nil ?_
 refine Wp.seq ?_
 refine Wp.seq (Wp.region ?_)
 refine LWp.o 57 (.one (.view (.slot 10) 1 [] 0)) ?_
 refine LWp.o 58 (.one (.view (.slot 4) 0 [] 0)) ?_
 refine LWp.cl h 59 (fun v15 => (B v15)) rfl (l := [.sv (.one (.sl false 3 1 (shares (encs c3 v14)))), .sv (.one (.sl false 3 1 (shares (encs c3 v3))))]) rfl (fun v hv => cg (l := [.sv (.one (.sl false 3 1 (shares (encs c3 v14)))), .sv (.one (.sl false 3 1 (shares (encs c3 v3))))]) (by simp only [sh3]) (w_eqIntS_t v14 v3 v hv)) (.inr (fun v => rfl)) ?_
 intro v15 gv15 h
 refine LWp.o 60 (B (!v15)) ?_
 refine LWp.nil ?_
 refine Wp.c h (fun h => ?_) (fun h => ?_)
 · refine Wp.seq (Wp.region ?_)
   refine LWp.o 2 (B false) ?_
   refine LWp.nil ?_
   cases h
   exact Wp.ret ⟨.inr rfl, _, _, rfl, rfl⟩
 refine Wp.skip ?_
 refine Wp.seq (Wp.region ?_)
 refine LWp.o 9 (I 1) ?_
 refine LWp.nil ?_
 refine Wp.seq (Wp.region ?_)
 refine LWp.o 61 (.one (.view (.slot 6) 1 [] 0)) ?_
 refine LWp.o 62 (I 1) ?_
 refine LWp.cl h 63 (fun v16 => (I v16)) rfl (l := [.sv (.one (.sl false 3 1 (shares (encs c3 v11.2)))), .sv (.one (.int .i64 1))]) rfl (fun v hv => cg (l := [.sv (.one (.sl false 3 1 (shares (encs c3 v11.2)))), .sv (.one (.int .i64 1))]) (by simp only [sh3]) (w_heldIntS_t v11.2 1 v hv)) (.inr (fun v => rfl)) ?_
 intro v16 gv16 h
 refine LWp.o 9 (I v16) ?_
 refine LWp.nil ?_
 refine Wp.seq ?_
 refine Wp.seq (Wp.region ?_)
 refine LWp.o 64 (I v16) ?_
 refine LWp.o 65 (B (decide (v16 < 0))) ?_
 refine LWp.nil ?_
 refine Wp.c h (fun h => ?_) (fun h => ?_)
 · refine Wp.seq (Wp.region ?_)
   refine LWp.o 2 (B false) ?_
   refine LWp.nil ?_
   cases h
   exact Wp.ret ⟨.inr rfl, _, _, rfl, rfl⟩
 refine Wp.skip ?_
 refine Wp.seq ?_
 refine Wp.seq (Wp.region ?_)
 refine LWp.o 66 (I v16) ?_
 refine LWp.o 67 (I v11.1) ?_
 refine LWp.o 68 (B (v16 != v11.1)) ?_
 refine LWp.nil ?_
 refine Wp.c h (fun h => ?_) (fun h => ?_)
 · refine Wp.seq (Wp.region ?_)
   refine LWp.o 2 (B false) ?_
   refine LWp.nil ?_
   cases h
   exact Wp.ret ⟨.inr rfl, _, _, rfl, rfl⟩
 refine Wp.skip ?_
 refine Wp.seq (Wp.region ?_)
 refine LWp.o 2 (B true) ?_
 refine LWp.nil ?_
 cases h
 exact Wp.ret ⟨.inr rfl, _, _, rfl, rfl⟩
end Go.TI
