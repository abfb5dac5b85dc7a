/- That they compute it. No condition. -/
import Derived.Test.YtcjepealfaimfaaGreatPOSOD
import Derived.Test.YtcjepealfaimfaaGreatProg
namespace Go.TI
set_option maxRecDepth 100000
open Go Go.Proofs
set_option linter.unusedVariables false
set_option linter.unusedSimpArgs false
def sort_swapRange_func_H1 {γ : Type} (Am : List γ → Amb) (g sf : FuncId) (capL capS : Array Value) (xA : Int) (xB : Int) (xN : Int) (z1 : Int) (z2 : List γ) : St := mkStA [(1, (I xA)), (2, (I xB)), (3, (I xN)), (4, (.one (.ptr (.box 4) 0 [] 0))), (8, (I z1))] [(.box 4, [.fn (.func g) #[] capL, .fn (.func sf) #[] capS])] (Am z2)
def sort_swapRange_func_H2 {γ : Type} (Am : List γ → Amb) (g sf : FuncId) (capL capS : Array Value) (z3 : List γ) : St := mkStA [] [] (Am z3)
theorem sort_swapRange_func_t {γ : Type} {Am : List γ → Amb} {lt : γ → γ → Bool} {g sf : FuncId} {capL capS : Array Value} (hless : LessOk Tryz.prog Am lt g capL) (hswap : SwapOk Tryz.prog Am sf capS) (hB : ∀ l l', (Am l).B = (Am l').B) (xL : List γ) (xA : Int) (xB : Int) (xN : Int) (r : List γ) (h : sort_swapRange_func lt xL xA xB xN = some r) : GivesA Tryz.prog 234 (Am xL) [.sv (.agg [.fn (.func g) #[] capL, .fn (.func sf) #[] capS]), .sv (I xA), .sv (I xB), .sv (I xN)] (Am r) := by
 unfold sort_swapRange_func at h
 refine gives_amb Tryz.func234 rfl rfl ?_
 rw [Tryz.ntmps234]
 refine Wp.seq (Wp.region (LWp.b [] 4 [.fn (.func g) #[] capL, .fn (.func sf) #[] capS] (lZ (Wp.seq (Wp.region (lO 8 (I 0) (lZ (Wp.l1 h [1, 2, 3, 4, 8] [.box 4] (fun s => (sort_swapRange_func_H1 Am g sf capL capS xA xB xN s.1 s.2)) [] [] (fun s => (sort_swapRange_func_H2 Am g sf capL capS s)) ⟨rfl, rfl⟩ ?_ ?_))))))))
 · rintro ⟨yI1, yL1⟩ o (h : sort_swapRange_func_b1 lt xA xB xN yI1 yL1 = some o)
   unfold sort_swapRange_func_b1 at h
   change Wp _ _ _ (sort_swapRange_func_H1 Am g sf capL capS xA xB xN yI1 yL1) _
   refine Wp.seq (Wp.seq (Wp.region (lO 9 (I yI1) (lO 10 (I xN) (lO 11 (B (decide (yI1 < xN))) (lZ (Wp.c h (fun h => ?_) (fun h => ?_))))))))
   · refine Wp.skip ?_
     refine Wp.seq (Wp.block (Wp.region (lO 14 (.one (.ptr (.box 4) 0 [] 1)) (lO 15 (.one (.fn (.func sf) #[] capS)) (lO 16 (I xA) (lO 17 (I yI1) (lO 18 (I (ad xA yI1)) (lO 19 (I xB) (lO 20 (I yI1) ?_)))))))))
     refine lO 21 (I (ad xB yI1)) (LWp.swh hswap hB h 22 ?_)
     intro v1 h
     refine lZ (Wp.region (lO 12 (I yI1) (lO 13 (I (ad yI1 1)) (lO 8 (I (ad yI1 1)) (lZ ?_)))))
     cases h
     exact ⟨_, rfl, rfl, rfl⟩
   refine Wp.exit ?_
   cases h
   exact ⟨_, rfl, rfl, rfl⟩
 intro v2 h E hE
 cases h
 exact ⟨.inl rfl, congrArg St.amb hE.2⟩
def sort_rotate_func_H1 {γ : Type} (Am : List γ → Amb) (g sf : FuncId) (capL capS : Array Value) (xM : Int) (z1 : Int) (z2 : Int) (z3 : List γ) : St := mkStA [(2, (I xM)), (4, (.one (.ptr (.box 4) 0 [] 0))), (8, (I z1)), (9, (I z2))] [(.box 4, [.fn (.func g) #[] capL, .fn (.func sf) #[] capS])] (Am z3)
def sort_rotate_func_H2 {γ : Type} (Am : List γ → Amb) (g sf : FuncId) (capL capS : Array Value) (xM : Int) (z4 : Int) (z5 : List γ) : St := mkStA [(2, (I xM)), (4, (.one (.ptr (.box 4) 0 [] 0))), (8, (I z4))] [(.box 4, [.fn (.func g) #[] capL, .fn (.func sf) #[] capS])] (Am z5)
theorem sort_rotate_func_t {γ : Type} {Am : List γ → Amb} {lt : γ → γ → Bool} {g sf : FuncId} {capL capS : Array Value} (hless : LessOk Tryz.prog Am lt g capL) (hswap : SwapOk Tryz.prog Am sf capS) (hB : ∀ l l', (Am l).B = (Am l').B) (xL : List γ) (xA : Int) (xM : Int) (xB : Int) (r : List γ) (h : sort_rotate_func lt xL xA xM xB = some r) : GivesA Tryz.prog 227 (Am xL) [.sv (.agg [.fn (.func g) #[] capL, .fn (.func sf) #[] capS]), .sv (I xA), .sv (I xM), .sv (I xB)] (Am r) := by
 unfold sort_rotate_func at h
 refine gives_amb Tryz.func227 rfl rfl ?_
 rw [Tryz.ntmps227]
 refine Wp.seq (Wp.region (LWp.b [] 4 [.fn (.func g) #[] capL, .fn (.func sf) #[] capS] (lZ (Wp.seq (Wp.region (lO 10 (I xM) (lO 11 (I xA) (lO 12 (I (sb xM xA)) (lO 8 (I (sb xM xA)) (lZ (Wp.seq (Wp.region ?_))))))))))))
 refine lO 13 (I xB) (lO 14 (I xM) (lO 15 (I (sb xB xM)) (lO 9 (I (sb xB xM)) (lZ (Wp.seq (Wp.l1 h [2, 4, 8, 9] [.box 4] (fun s => (sort_rotate_func_H1 Am g sf capL capS xM s.1 s.2.1 s.2.2)) [2, 4, 8] [.box 4] (fun s => (sort_rotate_func_H2 Am g sf capL capS xM s.1 s.2)) ⟨rfl, rfl⟩ ?_ ?_))))))
 · rintro ⟨yI1, yJ1, yL1⟩ o (h : sort_rotate_func_b1 lt xM yI1 yJ1 yL1 = some o)
   unfold sort_rotate_func_b1 at h
   change Wp _ _ _ (sort_rotate_func_H1 Am g sf capL capS xM yI1 yJ1 yL1) _
   refine Wp.seq (Wp.seq (Wp.region (lO 16 (I yI1) (lO 17 (I yJ1) (lO 18 (B (yI1 != yJ1)) (lZ (Wp.c h (fun h => ?_) (fun h => ?_))))))))
   · refine Wp.skip ?_
     refine Wp.block (Wp.seq (Wp.region (lO 19 (I yI1) (lO 20 (I yJ1) (lO 21 (B (decide (yI1 > yJ1))) (lZ (Wp.c h (fun h => ?_) (fun h => ?_))))))))
     · refine Wp.seq (Wp.region ?_)
       refine lO 22 (.agg [.fn (.func g) #[] capL, .fn (.func sf) #[] capS]) (lO 23 (I xM) (lO 24 (I yI1) (lO 25 (I (sb xM yI1)) (lO 26 (I xM) (lO 27 (I yJ1) (LWp.ca h 28 Am rfl rfl (fun _ => hB _ _) (l := [.sv (.agg [.fn (.func g) #[] capL, .fn (.func sf) #[] capS]), .sv (I (sb xM yI1)), .sv (I xM), .sv (I yJ1)]) rfl (argsR_flat rfl) (fun v hv => sort_swapRange_func_t hless hswap hB yL1 (sb xM yI1) xM yJ1 v hv) ?_))))))
       intro v1 gv1 h
       refine lZ (Wp.region (lO 29 (I yI1) (lO 30 (I yJ1) (lO 31 (I (sb yI1 yJ1)) (lO 8 (I (sb yI1 yJ1)) (lZ ?_))))))
       cases h
       exact ⟨_, rfl, rfl, rfl⟩
     refine Wp.seq (Wp.region (lO 32 (.agg [.fn (.func g) #[] capL, .fn (.func sf) #[] capS]) (lO 33 (I xM) (lO 34 (I yI1) (lO 35 (I (sb xM yI1)) (lO 36 (I xM) (lO 37 (I yJ1) (lO 38 (I (ad xM yJ1)) (lO 39 (I yI1) (lO 40 (I (sb (ad xM yJ1) yI1)) ?_))))))))))
     refine lO 41 (I yI1) (LWp.ca h 42 Am rfl rfl (fun _ => hB _ _) (l := [.sv (.agg [.fn (.func g) #[] capL, .fn (.func sf) #[] capS]), .sv (I (sb xM yI1)), .sv (I (sb (ad xM yJ1) yI1)), .sv (I yI1)]) rfl (argsR_flat rfl) (fun v hv => sort_swapRange_func_t hless hswap hB yL1 (sb xM yI1) (sb (ad xM yJ1) yI1) yI1 v hv) ?_)
     intro v2 gv2 h
     refine lZ (Wp.region (lO 43 (I yJ1) (lO 44 (I yI1) (lO 45 (I (sb yJ1 yI1)) (lO 9 (I (sb yJ1 yI1)) (lZ ?_))))))
     cases h
     exact ⟨_, rfl, rfl, rfl⟩
   refine Wp.exit ?_
   cases h
   exact ⟨_, rfl, rfl, rfl⟩
 intro v3 h E hE
 refine nt_wp hE ?_
 change Wp _ _ _ (sort_rotate_func_H2 Am g sf capL capS xM v3.1 v3.2) _
 refine Wp.region (lO 46 (.agg [.fn (.func g) #[] capL, .fn (.func sf) #[] capS]) (lO 47 (I xM) (lO 48 (I v3.1) (lO 49 (I (sb xM v3.1)) (lO 50 (I xM) (lO 51 (I v3.1) (LWp.ca h 52 Am rfl rfl (fun _ => hB _ _) (l := [.sv (.agg [.fn (.func g) #[] capL, .fn (.func sf) #[] capS]), .sv (I (sb xM v3.1)), .sv (I xM), .sv (I v3.1)]) rfl (argsR_flat rfl) (fun v hv => sort_swapRange_func_t hless hswap hB v3.2 (sb xM v3.1) xM v3.1 v hv) ?_)))))))
 intro v4 gv4 h
 refine lZ ?_
 cases h
 exact ⟨.inl rfl, rfl⟩
def sort_insertionSort_func_H1 {γ : Type} (Am : List γ → Amb) (g sf : FuncId) (capL capS : Array Value) (xA : Int) (xB : Int) (z1 : Int) (z2 : List γ) : St := mkStA [(1, (I xA)), (2, (I xB)), (3, (.one (.ptr (.box 3) 0 [] 0))), (6, (I z1))] [(.box 3, [.fn (.func g) #[] capL, .fn (.func sf) #[] capS])] (Am z2)
def sort_insertionSort_func_H2 {γ : Type} (Am : List γ → Amb) (g sf : FuncId) (capL capS : Array Value) (z3 : List γ) : St := mkStA [] [] (Am z3)
def sort_insertionSort_func_H3 {γ : Type} (Am : List γ → Amb) (g sf : FuncId) (capL capS : Array Value) (xA : Int) (xB : Int) (yI1 : Int) (z4 : Int) (z5 : List γ) : St := mkStA [(1, (I xA)), (2, (I xB)), (3, (.one (.ptr (.box 3) 0 [] 0))), (6, (I yI1)), (7, (I z4))] [(.box 3, [.fn (.func g) #[] capL, .fn (.func sf) #[] capS])] (Am z5)
def sort_insertionSort_func_H4 {γ : Type} (Am : List γ → Amb) (g sf : FuncId) (capL capS : Array Value) (xA : Int) (xB : Int) (yI1 : Int) (z6 : List γ) : St := mkStA [(1, (I xA)), (2, (I xB)), (3, (.one (.ptr (.box 3) 0 [] 0))), (6, (I yI1))] [(.box 3, [.fn (.func g) #[] capL, .fn (.func sf) #[] capS])] (Am z6)
def sort_insertionSort_func_H5 {γ : Type} (Am : List γ → Amb) (g sf : FuncId) (capL capS : Array Value) (xA : Int) (xB : Int) (yI1 : Int) (yJ1 : Int) (yL2 : List γ) (z7 : Bool) : St := mkStA [(1, (I xA)), (2, (I xB)), (3, (.one (.ptr (.box 3) 0 [] 0))), (6, (I yI1)), (7, (I yJ1)), (26, (B z7))] [(.box 3, [.fn (.func g) #[] capL, .fn (.func sf) #[] capS])] (Am yL2)
theorem sort_insertionSort_func_t {γ : Type} {Am : List γ → Amb} {lt : γ → γ → Bool} {g sf : FuncId} {capL capS : Array Value} (hless : LessOk Tryz.prog Am lt g capL) (hswap : SwapOk Tryz.prog Am sf capS) (hB : ∀ l l', (Am l).B = (Am l').B) (xL : List γ) (xA : Int) (xB : Int) (r : List γ) (h : sort_insertionSort_func lt xL xA xB = some r) : GivesA Tryz.prog 214 (Am xL) [.sv (.agg [.fn (.func g) #[] capL, .fn (.func sf) #[] capS]), .sv (I xA), .sv (I xB)] (Am r) := by
 unfold sort_insertionSort_func at h
 refine gives_amb Tryz.func214 rfl rfl ?_
 rw [Tryz.ntmps214]
 refine Wp.seq (Wp.region (LWp.b [] 3 [.fn (.func g) #[] capL, .fn (.func sf) #[] capS] (lZ (Wp.seq (Wp.region (lO 8 (I xA) (lO 9 (I (ad xA 1)) (lO 6 (I (ad xA 1)) (lZ (Wp.l1 h [1, 2, 3, 6] [.box 3] (fun s => (sort_insertionSort_func_H1 Am g sf capL capS xA xB s.1 s.2)) [] [] (fun s => (sort_insertionSort_func_H2 Am g sf capL capS s)) ⟨rfl, rfl⟩ ?_ ?_))))))))))
 · rintro ⟨yI1, yL1⟩ o (h : sort_insertionSort_func_b1 lt xA xB yI1 yL1 = some o)
   unfold sort_insertionSort_func_b1 at h
   change Wp _ _ _ (sort_insertionSort_func_H1 Am g sf capL capS xA xB yI1 yL1) _
   refine Wp.seq (Wp.seq (Wp.region (lO 10 (I yI1) (lO 11 (I xB) (lO 12 (B (decide (yI1 < xB))) (lZ (Wp.c h (fun h => ?_) (fun h => ?_))))))))
   · refine Wp.skip ?_
     refine Wp.seq (Wp.block (Wp.seq (Wp.region (lO 15 (I yI1) (lO 7 (I yI1) (lZ (Wp.l1 h [1, 2, 3, 6, 7] [.box 3] (fun s => (sort_insertionSort_func_H3 Am g sf capL capS xA xB yI1 s.1 s.2)) [1, 2, 3, 6] [.box 3] (fun s => (sort_insertionSort_func_H4 Am g sf capL capS xA xB yI1 s)) ⟨rfl, rfl⟩ ?_ ?_)))))))
     · rintro ⟨yJ1, yL2⟩ o (h : sort_insertionSort_func_b2 lt xA yJ1 yL2 = some o)
       unfold sort_insertionSort_func_b2 at h
       change Wp _ _ _ (sort_insertionSort_func_H3 Am g sf capL capS xA xB yI1 yJ1 yL2) _
       refine Wp.seq (Wp.seq (Wp.j1 h [1, 2, 3, 6, 7, 26] [.box 3] (fun a => (sort_insertionSort_func_H5 Am g sf capL capS xA xB yI1 yJ1 yL2 a)) ?_ ?_))
       · intro a h
         refine Wp.region (lO 16 (I yJ1) (lO 17 (I xA) (lO 18 (B (decide (yJ1 > xA))) (lO 19 (B (decide (yJ1 > xA))) (LWp.sp h 19 (fun h => ?_) (fun h => ?_))))))
         · refine lO 20 (.one (.ptr (.box 3) 0 [] 0)) ?_
           refine lO 21 (.one (.fn (.func g) #[] capL)) (lO 22 (I yJ1) (lO 23 (I yJ1) (lO 24 (I (sb yJ1 1)) (LWp.lsh hless h 25 ?_))))
           intro v1 h
           refine lO 26 (B (lt v1.1 v1.2)) (lZ ?_)
           cases h
           exact ⟨_, rfl, rfl, rfl⟩
         refine lH 20 (lH 21 (lH 22 (lH 23 (lH 24 (lH 25 (lO 26 (B false) (lZ ?_)))))))
         cases h
         exact ⟨_, rfl, rfl, rfl⟩
       intro j1 h E hE
       refine nt_wp hE ?_
       change Wp _ _ _ (sort_insertionSort_func_H5 Am g sf capL capS xA xB yI1 yJ1 yL2 j1) _
       refine Wp.c h (fun h => ?_) (fun h => ?_)
       · refine Wp.skip ?_
         refine Wp.seq (Wp.block (Wp.region (lO 29 (.one (.ptr (.box 3) 0 [] 1)) (lO 30 (.one (.fn (.func sf) #[] capS)) (lO 31 (I yJ1) (lO 32 (I yJ1) (lO 33 (I (sb yJ1 1)) (LWp.swh hswap hB h 34 ?_))))))))
         intro v2 h
         refine lZ (Wp.region (lO 27 (I yJ1) (lO 28 (I (sb yJ1 1)) (lO 7 (I (sb yJ1 1)) (lZ ?_)))))
         cases h
         exact ⟨_, rfl, rfl, rfl⟩
       refine Wp.exit ?_
       cases h
       exact ⟨_, rfl, rfl, rfl⟩
     intro v3 h E hE
     refine nt_wp hE ?_
     change Wp _ _ _ (sort_insertionSort_func_H4 Am g sf capL capS xA xB yI1 v3) _
     refine Wp.region (lO 13 (I yI1) (lO 14 (I (ad yI1 1)) (lO 6 (I (ad yI1 1)) (lZ ?_))))
     cases h
     exact ⟨_, rfl, rfl, rfl⟩
   refine Wp.exit ?_
   cases h
   exact ⟨_, rfl, rfl, rfl⟩
 intro v4 h E hE
 cases h
 exact ⟨.inl rfl, congrArg St.amb hE.2⟩
def sort_symMerge_func_H1 {γ : Type} (Am : List γ → Amb) (g sf : FuncId) (capL capS : Array Value) (xL : List γ) (xA : Int) (z1 : Int) (z2 : Int) : St := mkStA [(1, (I xA)), (4, (.one (.ptr (.box 4) 0 [] 0))), (8, (I z1)), (9, (I z2))] [(.box 4, [.fn (.func g) #[] capL, .fn (.func sf) #[] capS])] (Am xL)
def sort_symMerge_func_H2 {γ : Type} (Am : List γ → Amb) (g sf : FuncId) (capL capS : Array Value) (xL : List γ) (xA : Int) (z3 : Int) : St := mkStA [(1, (I xA)), (4, (.one (.ptr (.box 4) 0 [] 0))), (8, (I z3))] [(.box 4, [.fn (.func g) #[] capL, .fn (.func sf) #[] capS])] (Am xL)
def sort_symMerge_func_H3 {γ : Type} (Am : List γ → Amb) (g sf : FuncId) (capL capS : Array Value) (v2 : Int) (z4 : Int) (z5 : List γ) : St := mkStA [(4, (.one (.ptr (.box 4) 0 [] 0))), (8, (I v2)), (11, (I z4))] [(.box 4, [.fn (.func g) #[] capL, .fn (.func sf) #[] capS])] (Am z5)
def sort_symMerge_func_H4 {γ : Type} (Am : List γ → Amb) (g sf : FuncId) (capL capS : Array Value) (z6 : List γ) : St := mkStA [] [] (Am z6)
def sort_symMerge_func_H5 {γ : Type} (Am : List γ → Amb) (g sf : FuncId) (capL capS : Array Value) (xL : List γ) (xM : Int) (z7 : Int) (z8 : Int) : St := mkStA [(2, (I xM)), (4, (.one (.ptr (.box 4) 0 [] 0))), (12, (I z7)), (13, (I z8))] [(.box 4, [.fn (.func g) #[] capL, .fn (.func sf) #[] capS])] (Am xL)
def sort_symMerge_func_H6 {γ : Type} (Am : List γ → Amb) (g sf : FuncId) (capL capS : Array Value) (xL : List γ) (xM : Int) (z9 : Int) : St := mkStA [(2, (I xM)), (4, (.one (.ptr (.box 4) 0 [] 0))), (12, (I z9))] [(.box 4, [.fn (.func g) #[] capL, .fn (.func sf) #[] capS])] (Am xL)
def sort_symMerge_func_H7 {γ : Type} (Am : List γ → Amb) (g sf : FuncId) (capL capS : Array Value) (v6 : Int) (z10 : Int) (z11 : List γ) : St := mkStA [(4, (.one (.ptr (.box 4) 0 [] 0))), (12, (I v6)), (15, (I z10))] [(.box 4, [.fn (.func g) #[] capL, .fn (.func sf) #[] capS])] (Am z11)
def sort_symMerge_func_H8 {γ : Type} (Am : List γ → Amb) (g sf : FuncId) (capL capS : Array Value) (z12 : List γ) : St := mkStA [] [] (Am z12)
def sort_symMerge_func_H9 {γ : Type} (Am : List γ → Amb) (g sf : FuncId) (capL capS : Array Value) (xL : List γ) (xA : Int) (xM : Int) (xB : Int) (z13 : Int) (z14 : Int) : St := mkStA [(1, (I xA)), (2, (I xM)), (3, (I xB)), (4, (.one (.ptr (.box 4) 0 [] 0))), (16, (I (IntKind.i64.wrap (Int.fdiv (IntKind.u64.wrap (ad xA xB)) (2 ^ (min (1 : Int).toNat IntKind.u64.bits)))))), (17, (I (ad (IntKind.i64.wrap (Int.fdiv (IntKind.u64.wrap (ad xA xB)) (2 ^ (min (1 : Int).toNat IntKind.u64.bits)))) xM))), (18, (I z13)), (19, (I z14))] [(.box 4, [.fn (.func g) #[] capL, .fn (.func sf) #[] capS])] (Am xL)
def sort_symMerge_func_H10 {γ : Type} (Am : List γ → Amb) (g sf : FuncId) (capL capS : Array Value) (xL : List γ) (xA : Int) (xM : Int) (xB : Int) (z15 : Int) (z16 : Int) : St := mkStA [(1, (I xA)), (2, (I xM)), (3, (I xB)), (4, (.one (.ptr (.box 4) 0 [] 0))), (16, (I (IntKind.i64.wrap (Int.fdiv (IntKind.u64.wrap (ad xA xB)) (2 ^ (min (1 : Int).toNat IntKind.u64.bits)))))), (17, (I (ad (IntKind.i64.wrap (Int.fdiv (IntKind.u64.wrap (ad xA xB)) (2 ^ (min (1 : Int).toNat IntKind.u64.bits)))) xM))), (18, (I z15)), (19, (I z16)), (20, (I (sb (ad (IntKind.i64.wrap (Int.fdiv (IntKind.u64.wrap (ad xA xB)) (2 ^ (min (1 : Int).toNat IntKind.u64.bits)))) xM) 1)))] [(.box 4, [.fn (.func g) #[] capL, .fn (.func sf) #[] capS])] (Am xL)
def sort_symMerge_func_H11 {γ : Type} (Am : List γ → Amb) (g sf : FuncId) (capL capS : Array Value) (xL : List γ) (xA : Int) (xM : Int) (xB : Int) (z17 : Int) : St := mkStA [(1, (I xA)), (2, (I xM)), (3, (I xB)), (4, (.one (.ptr (.box 4) 0 [] 0))), (16, (I (IntKind.i64.wrap (Int.fdiv (IntKind.u64.wrap (ad xA xB)) (2 ^ (min (1 : Int).toNat IntKind.u64.bits)))))), (17, (I (ad (IntKind.i64.wrap (Int.fdiv (IntKind.u64.wrap (ad xA xB)) (2 ^ (min (1 : Int).toNat IntKind.u64.bits)))) xM))), (18, (I z17))] [(.box 4, [.fn (.func g) #[] capL, .fn (.func sf) #[] capS])] (Am xL)
def sort_symMerge_func_H12 {γ : Type} (Am : List γ → Amb) (g sf : FuncId) (capL capS : Array Value) (xL : List γ) (xA : Int) (xM : Int) (xB : Int) (v10 : Int) (z18 : Bool) : St := mkStA [(1, (I xA)), (2, (I xM)), (3, (I xB)), (4, (.one (.ptr (.box 4) 0 [] 0))), (16, (I (IntKind.i64.wrap (Int.fdiv (IntKind.u64.wrap (ad xA xB)) (2 ^ (min (1 : Int).toNat IntKind.u64.bits)))))), (18, (I v10)), (22, (I (sb (ad (IntKind.i64.wrap (Int.fdiv (IntKind.u64.wrap (ad xA xB)) (2 ^ (min (1 : Int).toNat IntKind.u64.bits)))) xM) v10))), (145, (B z18))] [(.box 4, [.fn (.func g) #[] capL, .fn (.func sf) #[] capS])] (Am xL)
def sort_symMerge_func_H13 {γ : Type} (Am : List γ → Amb) (g sf : FuncId) (capL capS : Array Value) (xA : Int) (xM : Int) (xB : Int) (v10 : Int) (z19 : List γ) : St := mkStA [(1, (I xA)), (3, (I xB)), (4, (.one (.ptr (.box 4) 0 [] 0))), (16, (I (IntKind.i64.wrap (Int.fdiv (IntKind.u64.wrap (ad xA xB)) (2 ^ (min (1 : Int).toNat IntKind.u64.bits)))))), (18, (I v10)), (22, (I (sb (ad (IntKind.i64.wrap (Int.fdiv (IntKind.u64.wrap (ad xA xB)) (2 ^ (min (1 : Int).toNat IntKind.u64.bits)))) xM) v10)))] [(.box 4, [.fn (.func g) #[] capL, .fn (.func sf) #[] capS])] (Am z19)
def sort_symMerge_func_H14 {γ : Type} (Am : List γ → Amb) (g sf : FuncId) (capL capS : Array Value) (xA : Int) (xM : Int) (xB : Int) (v10 : Int) (j3 : List γ) (z20 : Bool) : St := mkStA [(1, (I xA)), (3, (I xB)), (4, (.one (.ptr (.box 4) 0 [] 0))), (16, (I (IntKind.i64.wrap (Int.fdiv (IntKind.u64.wrap (ad xA xB)) (2 ^ (min (1 : Int).toNat IntKind.u64.bits)))))), (18, (I v10)), (22, (I (sb (ad (IntKind.i64.wrap (Int.fdiv (IntKind.u64.wrap (ad xA xB)) (2 ^ (min (1 : Int).toNat IntKind.u64.bits)))) xM) v10))), (158, (B z20))] [(.box 4, [.fn (.func g) #[] capL, .fn (.func sf) #[] capS])] (Am j3)
def sort_symMerge_func_H15 {γ : Type} (Am : List γ → Amb) (g sf : FuncId) (capL capS : Array Value) (xA : Int) (xM : Int) (xB : Int) (v10 : Int) (z21 : List γ) : St := mkStA [(3, (I xB)), (4, (.one (.ptr (.box 4) 0 [] 0))), (16, (I (IntKind.i64.wrap (Int.fdiv (IntKind.u64.wrap (ad xA xB)) (2 ^ (min (1 : Int).toNat IntKind.u64.bits)))))), (22, (I (sb (ad (IntKind.i64.wrap (Int.fdiv (IntKind.u64.wrap (ad xA xB)) (2 ^ (min (1 : Int).toNat IntKind.u64.bits)))) xM) v10)))] [(.box 4, [.fn (.func g) #[] capL, .fn (.func sf) #[] capS])] (Am z21)
theorem sort_symMerge_func_t {γ : Type} {Am : List γ → Amb} {lt : γ → γ → Bool} {g sf : FuncId} {capL capS : Array Value} (hless : LessOk Tryz.prog Am lt g capL) (hswap : SwapOk Tryz.prog Am sf capS) (hB : ∀ l l', (Am l).B = (Am l').B) : ∀ (n : Nat) (xL : List γ) (xA : Int) (xM : Int) (xB : Int) (r : List γ) (h : sort_symMerge_func lt n xL xA xM xB = some r), GivesA Tryz.prog 215 (Am xL) [.sv (.agg [.fn (.func g) #[] capL, .fn (.func sf) #[] capS]), .sv (I xA), .sv (I xM), .sv (I xB)] (Am r)
  | 0, xL, xA, xM, xB, r, h => by cases h
  | n + 1, xL, xA, xM, xB, r, h => by
   have ih := sort_symMerge_func_t hless hswap hB n
   rw [sort_symMerge_func] at h
   refine gives_amb Tryz.func215 rfl rfl ?_
   rw [Tryz.ntmps215]
   refine Wp.seq (Wp.region (LWp.b [] 4 [.fn (.func g) #[] capL, .fn (.func sf) #[] capS] (lZ (Wp.seq (Wp.seq (Wp.region (lO 23 (I xM) (lO 24 (I xA) (lO 25 (I (sb xM xA)) (lO 26 (B ((sb xM xA) == 1)) (lZ ?_)))))))))))
   refine Wp.c h (fun h => ?_) (fun h => ?_)
   · refine Wp.seq (Wp.region ?_)
     refine lO 27 (I xM) (lO 8 (I xM) (lZ (Wp.seq (Wp.region (lO 28 (I xB) (lO 9 (I xB) (lZ (Wp.seq (Wp.l1 h [1, 4, 8, 9] [.box 4] (fun s => (sort_symMerge_func_H1 Am g sf capL capS xL xA s.1 s.2)) [1, 4, 8] [.box 4] (fun s => (sort_symMerge_func_H2 Am g sf capL capS xL xA s)) ⟨rfl, rfl⟩ ?_ ?_)))))))))
     · rintro ⟨yI1, yJ1⟩ o (h : sort_symMerge_func_b1 lt xL xA yI1 yJ1 = some o)
       unfold sort_symMerge_func_b1 at h
       change Wp _ _ _ (sort_symMerge_func_H1 Am g sf capL capS xL xA yI1 yJ1) _
       refine Wp.seq (Wp.seq (Wp.region (lO 29 (I yI1) (lO 30 (I yJ1) (lO 31 (B (decide (yI1 < yJ1))) (lZ (Wp.c h (fun h => ?_) (fun h => ?_))))))))
       · refine Wp.skip ?_
         refine Wp.block (Wp.seq (Wp.region (lO 32 (I yI1) (lO 33 (I yJ1) (lO 34 (I (ad yI1 yJ1)) (lO 35 (.one (.int .u64 (IntKind.u64.wrap (ad yI1 yJ1)))) (lO 36 (.one (.int .u64 (Int.fdiv (IntKind.u64.wrap (ad yI1 yJ1)) (2 ^ (min (1 : Int).toNat IntKind.u64.bits))))) (lO 37 (I (IntKind.i64.wrap (Int.fdiv (IntKind.u64.wrap (ad yI1 yJ1)) (2 ^ (min (1 : Int).toNat IntKind.u64.bits))))) (lO 10 (I (IntKind.i64.wrap (Int.fdiv (IntKind.u64.wrap (ad yI1 yJ1)) (2 ^ (min (1 : Int).toNat IntKind.u64.bits))))) (lZ ?_))))))))))
         refine Wp.seq (Wp.region (lO 38 (.one (.ptr (.box 4) 0 [] 0)) (lO 39 (.one (.fn (.func g) #[] capL)) (lO 40 (I (IntKind.i64.wrap (Int.fdiv (IntKind.u64.wrap (ad yI1 yJ1)) (2 ^ (min (1 : Int).toNat IntKind.u64.bits))))) (lO 41 (I xA) (LWp.lsh hless h 42 ?_))))))
         intro v1 h
         refine lZ (Wp.c h (fun h => ?_) (fun h => ?_))
         · refine Wp.region ?_
           refine lO 43 (I (IntKind.i64.wrap (Int.fdiv (IntKind.u64.wrap (ad yI1 yJ1)) (2 ^ (min (1 : Int).toNat IntKind.u64.bits))))) (lO 44 (I (ad (IntKind.i64.wrap (Int.fdiv (IntKind.u64.wrap (ad yI1 yJ1)) (2 ^ (min (1 : Int).toNat IntKind.u64.bits)))) 1)) (lO 8 (I (ad (IntKind.i64.wrap (Int.fdiv (IntKind.u64.wrap (ad yI1 yJ1)) (2 ^ (min (1 : Int).toNat IntKind.u64.bits)))) 1)) (lZ ?_)))
           cases h
           exact ⟨_, rfl, rfl, rfl⟩
         refine Wp.region (lO 45 (I (IntKind.i64.wrap (Int.fdiv (IntKind.u64.wrap (ad yI1 yJ1)) (2 ^ (min (1 : Int).toNat IntKind.u64.bits))))) (lO 9 (I (IntKind.i64.wrap (Int.fdiv (IntKind.u64.wrap (ad yI1 yJ1)) (2 ^ (min (1 : Int).toNat IntKind.u64.bits))))) (lZ ?_)))
         cases h
         exact ⟨_, rfl, rfl, rfl⟩
       refine Wp.exit ?_
       cases h
       exact ⟨_, rfl, rfl, rfl⟩
     intro v2 h E hE
     refine nt_wp hE ?_
     change Wp _ _ _ (sort_symMerge_func_H2 Am g sf capL capS xL xA v2) _
     refine Wp.seq (Wp.seq (Wp.region (lO 46 (I xA) (lO 11 (I xA) (lZ (Wp.l1 h [4, 8, 11] [.box 4] (fun s => (sort_symMerge_func_H3 Am g sf capL capS v2 s.1 s.2)) [] [] (fun s => (sort_symMerge_func_H4 Am g sf capL capS s)) ⟨rfl, rfl⟩ ?_ ?_))))))
     · rintro ⟨yK1, yL1⟩ o (h : sort_symMerge_func_b2 lt v2 yK1 yL1 = some o)
       unfold sort_symMerge_func_b2 at h
       change Wp _ _ _ (sort_symMerge_func_H3 Am g sf capL capS v2 yK1 yL1) _
       refine Wp.seq (Wp.seq (Wp.region (lO 47 (I yK1) (lO 48 (I v2) (lO 49 (I (sb v2 1)) (lO 50 (B (decide (yK1 < (sb v2 1)))) (lZ (Wp.c h (fun h => ?_) (fun h => ?_)))))))))
       · refine Wp.skip ?_
         refine Wp.seq (Wp.block (Wp.region (lO 53 (.one (.ptr (.box 4) 0 [] 1)) (lO 54 (.one (.fn (.func sf) #[] capS)) (lO 55 (I yK1) (lO 56 (I yK1) (lO 57 (I (ad yK1 1)) (LWp.swh hswap hB h 58 ?_))))))))
         intro v3 h
         refine lZ (Wp.region (lO 51 (I yK1) (lO 52 (I (ad yK1 1)) (lO 11 (I (ad yK1 1)) (lZ ?_)))))
         cases h
         exact ⟨_, rfl, rfl, rfl⟩
       refine Wp.exit ?_
       cases h
       exact ⟨_, rfl, rfl, rfl⟩
     intro v4 h E hE
     refine nt_wp hE ?_
     change Wp _ _ _ (sort_symMerge_func_H4 Am g sf capL capS v4) _
     cases h
     exact Wp.ret ⟨.inr rfl, rfl⟩
   refine Wp.skip (Wp.seq (Wp.seq (Wp.region (lO 59 (I xB) (lO 60 (I xM) (lO 61 (I (sb xB xM)) (lO 62 (B ((sb xB xM) == 1)) (lZ (Wp.c h (fun h => ?_) (fun h => ?_))))))))))
   · refine Wp.seq (Wp.region ?_)
     refine lO 63 (I xA) (lO 12 (I xA) (lZ (Wp.seq (Wp.region (lO 64 (I xM) (lO 13 (I xM) (lZ (Wp.seq (Wp.l1 h [2, 4, 12, 13] [.box 4] (fun s => (sort_symMerge_func_H5 Am g sf capL capS xL xM s.1 s.2)) [2, 4, 12] [.box 4] (fun s => (sort_symMerge_func_H6 Am g sf capL capS xL xM s)) ⟨rfl, rfl⟩ ?_ ?_)))))))))
     · rintro ⟨yI2, yJ2⟩ o (h : sort_symMerge_func_b3 lt xL xM yI2 yJ2 = some o)
       unfold sort_symMerge_func_b3 at h
       change Wp _ _ _ (sort_symMerge_func_H5 Am g sf capL capS xL xM yI2 yJ2) _
       refine Wp.seq (Wp.seq (Wp.region (lO 65 (I yI2) (lO 66 (I yJ2) (lO 67 (B (decide (yI2 < yJ2))) (lZ (Wp.c h (fun h => ?_) (fun h => ?_))))))))
       · refine Wp.skip ?_
         refine Wp.block (Wp.seq (Wp.region (lO 68 (I yI2) (lO 69 (I yJ2) (lO 70 (I (ad yI2 yJ2)) (lO 71 (.one (.int .u64 (IntKind.u64.wrap (ad yI2 yJ2)))) (lO 72 (.one (.int .u64 (Int.fdiv (IntKind.u64.wrap (ad yI2 yJ2)) (2 ^ (min (1 : Int).toNat IntKind.u64.bits))))) (lO 73 (I (IntKind.i64.wrap (Int.fdiv (IntKind.u64.wrap (ad yI2 yJ2)) (2 ^ (min (1 : Int).toNat IntKind.u64.bits))))) (lO 14 (I (IntKind.i64.wrap (Int.fdiv (IntKind.u64.wrap (ad yI2 yJ2)) (2 ^ (min (1 : Int).toNat IntKind.u64.bits))))) (lZ ?_))))))))))
         refine Wp.seq (Wp.region (lO 74 (.one (.ptr (.box 4) 0 [] 0)) (lO 75 (.one (.fn (.func g) #[] capL)) (lO 76 (I xM) (lO 77 (I (IntKind.i64.wrap (Int.fdiv (IntKind.u64.wrap (ad yI2 yJ2)) (2 ^ (min (1 : Int).toNat IntKind.u64.bits))))) (LWp.lsh hless h 78 ?_))))))
         intro v5 h
         refine lO 79 (B (!(lt v5.1 v5.2))) (lZ (Wp.c h (fun h => ?_) (fun h => ?_)))
         · refine Wp.region ?_
           refine lO 80 (I (IntKind.i64.wrap (Int.fdiv (IntKind.u64.wrap (ad yI2 yJ2)) (2 ^ (min (1 : Int).toNat IntKind.u64.bits))))) (lO 81 (I (ad (IntKind.i64.wrap (Int.fdiv (IntKind.u64.wrap (ad yI2 yJ2)) (2 ^ (min (1 : Int).toNat IntKind.u64.bits)))) 1)) (lO 12 (I (ad (IntKind.i64.wrap (Int.fdiv (IntKind.u64.wrap (ad yI2 yJ2)) (2 ^ (min (1 : Int).toNat IntKind.u64.bits)))) 1)) (lZ ?_)))
           cases h
           exact ⟨_, rfl, rfl, rfl⟩
         refine Wp.region (lO 82 (I (IntKind.i64.wrap (Int.fdiv (IntKind.u64.wrap (ad yI2 yJ2)) (2 ^ (min (1 : Int).toNat IntKind.u64.bits))))) (lO 13 (I (IntKind.i64.wrap (Int.fdiv (IntKind.u64.wrap (ad yI2 yJ2)) (2 ^ (min (1 : Int).toNat IntKind.u64.bits))))) (lZ ?_)))
         cases h
         exact ⟨_, rfl, rfl, rfl⟩
       refine Wp.exit ?_
       cases h
       exact ⟨_, rfl, rfl, rfl⟩
     intro v6 h E hE
     refine nt_wp hE ?_
     change Wp _ _ _ (sort_symMerge_func_H6 Am g sf capL capS xL xM v6) _
     refine Wp.seq (Wp.seq (Wp.region (lO 83 (I xM) (lO 15 (I xM) (lZ (Wp.l1 h [4, 12, 15] [.box 4] (fun s => (sort_symMerge_func_H7 Am g sf capL capS v6 s.1 s.2)) [] [] (fun s => (sort_symMerge_func_H8 Am g sf capL capS s)) ⟨rfl, rfl⟩ ?_ ?_))))))
     · rintro ⟨yK2, yL2⟩ o (h : sort_symMerge_func_b4 lt v6 yK2 yL2 = some o)
       unfold sort_symMerge_func_b4 at h
       change Wp _ _ _ (sort_symMerge_func_H7 Am g sf capL capS v6 yK2 yL2) _
       refine Wp.seq (Wp.seq (Wp.region (lO 84 (I yK2) (lO 85 (I v6) (lO 86 (B (decide (yK2 > v6))) (lZ (Wp.c h (fun h => ?_) (fun h => ?_))))))))
       · refine Wp.skip ?_
         refine Wp.seq (Wp.block (Wp.region (lO 89 (.one (.ptr (.box 4) 0 [] 1)) (lO 90 (.one (.fn (.func sf) #[] capS)) (lO 91 (I yK2) (lO 92 (I yK2) (lO 93 (I (sb yK2 1)) (LWp.swh hswap hB h 94 ?_))))))))
         intro v7 h
         refine lZ (Wp.region (lO 87 (I yK2) (lO 88 (I (sb yK2 1)) (lO 15 (I (sb yK2 1)) (lZ ?_)))))
         cases h
         exact ⟨_, rfl, rfl, rfl⟩
       refine Wp.exit ?_
       cases h
       exact ⟨_, rfl, rfl, rfl⟩
     intro v8 h E hE
     refine nt_wp hE ?_
     change Wp _ _ _ (sort_symMerge_func_H8 Am g sf capL capS v8) _
     cases h
     exact Wp.ret ⟨.inr rfl, rfl⟩
   refine Wp.skip (Wp.seq (Wp.region (lO 95 (I xA) (lO 96 (I xB) (lO 97 (I (ad xA xB)) (lO 98 (.one (.int .u64 (IntKind.u64.wrap (ad xA xB)))) (lO 99 (.one (.int .u64 (Int.fdiv (IntKind.u64.wrap (ad xA xB)) (2 ^ (min (1 : Int).toNat IntKind.u64.bits))))) (lO 100 (I (IntKind.i64.wrap (Int.fdiv (IntKind.u64.wrap (ad xA xB)) (2 ^ (min (1 : Int).toNat IntKind.u64.bits))))) (lO 16 (I (IntKind.i64.wrap (Int.fdiv (IntKind.u64.wrap (ad xA xB)) (2 ^ (min (1 : Int).toNat IntKind.u64.bits))))) (lZ ?_))))))))))
   refine Wp.seq (Wp.region (lO 101 (I (IntKind.i64.wrap (Int.fdiv (IntKind.u64.wrap (ad xA xB)) (2 ^ (min (1 : Int).toNat IntKind.u64.bits))))) (lO 102 (I xM) (lO 103 (I (ad (IntKind.i64.wrap (Int.fdiv (IntKind.u64.wrap (ad xA xB)) (2 ^ (min (1 : Int).toNat IntKind.u64.bits)))) xM)) (lO 17 (I (ad (IntKind.i64.wrap (Int.fdiv (IntKind.u64.wrap (ad xA xB)) (2 ^ (min (1 : Int).toNat IntKind.u64.bits)))) xM)) (lZ (Wp.seq (Wp.region (lO 18 (I 0) (lO 19 (I 0) (lZ ?_)))))))))))
   refine Wp.seq (Wp.seq (Wp.region (lO 104 (I xM) (lO 105 (I (IntKind.i64.wrap (Int.fdiv (IntKind.u64.wrap (ad xA xB)) (2 ^ (min (1 : Int).toNat IntKind.u64.bits))))) (lO 106 (B (decide (xM > (IntKind.i64.wrap (Int.fdiv (IntKind.u64.wrap (ad xA xB)) (2 ^ (min (1 : Int).toNat IntKind.u64.bits))))))) (lZ (Wp.j1 h [1, 2, 3, 4, 16, 17, 18, 19] [.box 4] (fun a => (sort_symMerge_func_H9 Am g sf capL capS xL xA xM xB a.1 a.2)) ?_ ?_)))))))
   · intro a h
     refine Wp.c h (fun h => ?_) (fun h => ?_)
     · refine Wp.seq (Wp.region ?_)
       refine lO 107 (I (ad (IntKind.i64.wrap (Int.fdiv (IntKind.u64.wrap (ad xA xB)) (2 ^ (min (1 : Int).toNat IntKind.u64.bits)))) xM)) (lO 108 (I xB) (lO 109 (I (sb (ad (IntKind.i64.wrap (Int.fdiv (IntKind.u64.wrap (ad xA xB)) (2 ^ (min (1 : Int).toNat IntKind.u64.bits)))) xM) xB)) (lO 18 (I (sb (ad (IntKind.i64.wrap (Int.fdiv (IntKind.u64.wrap (ad xA xB)) (2 ^ (min (1 : Int).toNat IntKind.u64.bits)))) xM) xB)) (lZ (Wp.region (lO 110 (I (IntKind.i64.wrap (Int.fdiv (IntKind.u64.wrap (ad xA xB)) (2 ^ (min (1 : Int).toNat IntKind.u64.bits))))) (lO 19 (I (IntKind.i64.wrap (Int.fdiv (IntKind.u64.wrap (ad xA xB)) (2 ^ (min (1 : Int).toNat IntKind.u64.bits))))) (lZ ?_))))))))
       cases h
       exact ⟨_, rfl, rfl, rfl⟩
     refine Wp.seq (Wp.region (lO 111 (I xA) (lO 18 (I xA) (lZ (Wp.region (lO 112 (I xM) (lO 19 (I xM) (lZ ?_))))))))
     cases h
     exact ⟨_, rfl, rfl, rfl⟩
   intro j1 h E hE
   refine nt_wp hE ?_
   change Wp _ _ _ (sort_symMerge_func_H9 Am g sf capL capS xL xA xM xB j1.1 j1.2) _
   refine Wp.seq (Wp.region (lO 113 (I (ad (IntKind.i64.wrap (Int.fdiv (IntKind.u64.wrap (ad xA xB)) (2 ^ (min (1 : Int).toNat IntKind.u64.bits)))) xM)) (lO 114 (I (sb (ad (IntKind.i64.wrap (Int.fdiv (IntKind.u64.wrap (ad xA xB)) (2 ^ (min (1 : Int).toNat IntKind.u64.bits)))) xM) 1)) (lO 20 (I (sb (ad (IntKind.i64.wrap (Int.fdiv (IntKind.u64.wrap (ad xA xB)) (2 ^ (min (1 : Int).toNat IntKind.u64.bits)))) xM) 1)) (lZ (Wp.seq (Wp.l1 h [1, 2, 3, 4, 16, 17, 18, 19, 20] [.box 4] (fun s => (sort_symMerge_func_H10 Am g sf capL capS xL xA xM xB s.1 s.2)) [1, 2, 3, 4, 16, 17, 18] [.box 4] (fun s => (sort_symMerge_func_H11 Am g sf capL capS xL xA xM xB s)) ⟨rfl, rfl⟩ ?_ ?_)))))))
   · rintro ⟨yStart1, yR1⟩ o (h : sort_symMerge_func_b5 lt xL xA xM xB yStart1 yR1 = some o)
     unfold sort_symMerge_func_b5 at h
     change Wp _ _ _ (sort_symMerge_func_H10 Am g sf capL capS xL xA xM xB yStart1 yR1) _
     refine Wp.seq (Wp.seq (Wp.region (lO 115 (I yStart1) (lO 116 (I yR1) (lO 117 (B (decide (yStart1 < yR1))) (lZ (Wp.c h (fun h => ?_) (fun h => ?_))))))))
     · refine Wp.skip ?_
       refine Wp.block (Wp.seq (Wp.region (lO 118 (I yStart1) (lO 119 (I yR1) (lO 120 (I (ad yStart1 yR1)) (lO 121 (.one (.int .u64 (IntKind.u64.wrap (ad yStart1 yR1)))) (lO 122 (.one (.int .u64 (Int.fdiv (IntKind.u64.wrap (ad yStart1 yR1)) (2 ^ (min (1 : Int).toNat IntKind.u64.bits))))) (lO 123 (I (IntKind.i64.wrap (Int.fdiv (IntKind.u64.wrap (ad yStart1 yR1)) (2 ^ (min (1 : Int).toNat IntKind.u64.bits))))) (lO 21 (I (IntKind.i64.wrap (Int.fdiv (IntKind.u64.wrap (ad yStart1 yR1)) (2 ^ (min (1 : Int).toNat IntKind.u64.bits))))) (lZ ?_))))))))))
       refine Wp.seq (Wp.region (lO 124 (.one (.ptr (.box 4) 0 [] 0)) (lO 125 (.one (.fn (.func g) #[] capL)) (lO 126 (I (sb (ad (IntKind.i64.wrap (Int.fdiv (IntKind.u64.wrap (ad xA xB)) (2 ^ (min (1 : Int).toNat IntKind.u64.bits)))) xM) 1)) (lO 127 (I (IntKind.i64.wrap (Int.fdiv (IntKind.u64.wrap (ad yStart1 yR1)) (2 ^ (min (1 : Int).toNat IntKind.u64.bits))))) (lO 128 (I (sb (sb (ad (IntKind.i64.wrap (Int.fdiv (IntKind.u64.wrap (ad xA xB)) (2 ^ (min (1 : Int).toNat IntKind.u64.bits)))) xM) 1) (IntKind.i64.wrap (Int.fdiv (IntKind.u64.wrap (ad yStart1 yR1)) (2 ^ (min (1 : Int).toNat IntKind.u64.bits)))))) (lO 129 (I (IntKind.i64.wrap (Int.fdiv (IntKind.u64.wrap (ad yStart1 yR1)) (2 ^ (min (1 : Int).toNat IntKind.u64.bits))))) (LWp.lsh hless h 130 ?_))))))))
       intro v9 h
       refine lO 131 (B (!(lt v9.1 v9.2))) (lZ (Wp.c h (fun h => ?_) (fun h => ?_)))
       · refine Wp.region ?_
         refine lO 132 (I (IntKind.i64.wrap (Int.fdiv (IntKind.u64.wrap (ad yStart1 yR1)) (2 ^ (min (1 : Int).toNat IntKind.u64.bits))))) (lO 133 (I (ad (IntKind.i64.wrap (Int.fdiv (IntKind.u64.wrap (ad yStart1 yR1)) (2 ^ (min (1 : Int).toNat IntKind.u64.bits)))) 1)) (lO 18 (I (ad (IntKind.i64.wrap (Int.fdiv (IntKind.u64.wrap (ad yStart1 yR1)) (2 ^ (min (1 : Int).toNat IntKind.u64.bits)))) 1)) (lZ ?_)))
         cases h
         exact ⟨_, rfl, rfl, rfl⟩
       refine Wp.region (lO 134 (I (IntKind.i64.wrap (Int.fdiv (IntKind.u64.wrap (ad yStart1 yR1)) (2 ^ (min (1 : Int).toNat IntKind.u64.bits))))) (lO 19 (I (IntKind.i64.wrap (Int.fdiv (IntKind.u64.wrap (ad yStart1 yR1)) (2 ^ (min (1 : Int).toNat IntKind.u64.bits))))) (lZ ?_)))
       cases h
       exact ⟨_, rfl, rfl, rfl⟩
     refine Wp.exit ?_
     cases h
     exact ⟨_, rfl, rfl, rfl⟩
   intro v10 h E hE
   refine nt_wp hE ?_
   change Wp _ _ _ (sort_symMerge_func_H11 Am g sf capL capS xL xA xM xB v10) _
   refine Wp.seq (Wp.region (lO 135 (I (ad (IntKind.i64.wrap (Int.fdiv (IntKind.u64.wrap (ad xA xB)) (2 ^ (min (1 : Int).toNat IntKind.u64.bits)))) xM)) (lO 136 (I v10) (lO 137 (I (sb (ad (IntKind.i64.wrap (Int.fdiv (IntKind.u64.wrap (ad xA xB)) (2 ^ (min (1 : Int).toNat IntKind.u64.bits)))) xM) v10)) (lO 22 (I (sb (ad (IntKind.i64.wrap (Int.fdiv (IntKind.u64.wrap (ad xA xB)) (2 ^ (min (1 : Int).toNat IntKind.u64.bits)))) xM) v10)) (lZ (Wp.seq (Wp.seq (Wp.j1 h [1, 2, 3, 4, 16, 18, 22, 145] [.box 4] (fun a => (sort_symMerge_func_H12 Am g sf capL capS xL xA xM xB v10 a)) ?_ ?_)))))))))
   · intro a h
     refine Wp.region (lO 138 (I v10) (lO 139 (I xM) (lO 140 (B (decide (v10 < xM))) (lO 141 (B (decide (v10 < xM))) (LWp.sp h 141 (fun h => ?_) (fun h => ?_))))))
     · refine lO 142 (I xM) ?_
       refine lO 143 (I (sb (ad (IntKind.i64.wrap (Int.fdiv (IntKind.u64.wrap (ad xA xB)) (2 ^ (min (1 : Int).toNat IntKind.u64.bits)))) xM) v10)) (lO 144 (B (decide (xM < (sb (ad (IntKind.i64.wrap (Int.fdiv (IntKind.u64.wrap (ad xA xB)) (2 ^ (min (1 : Int).toNat IntKind.u64.bits)))) xM) v10)))) (lO 145 (B (decide (xM < (sb (ad (IntKind.i64.wrap (Int.fdiv (IntKind.u64.wrap (ad xA xB)) (2 ^ (min (1 : Int).toNat IntKind.u64.bits)))) xM) v10)))) (lZ ?_)))
       cases h
       exact ⟨_, rfl, rfl, rfl⟩
     refine lH 142 (lH 143 (lH 144 (lO 145 (B false) (lZ ?_))))
     cases h
     exact ⟨_, rfl, rfl, rfl⟩
   intro j2 h E hE
   refine nt_wp hE ?_
   change Wp _ _ _ (sort_symMerge_func_H12 Am g sf capL capS xL xA xM xB v10 j2) _
   refine Wp.j1 h [1, 3, 4, 16, 18, 22] [.box 4] (fun a => (sort_symMerge_func_H13 Am g sf capL capS xA xM xB v10 a)) ?_ ?_
   · intro a h
     refine Wp.c h (fun h => ?_) (fun h => ?_)
     · refine Wp.region ?_
       refine lO 146 (.agg [.fn (.func g) #[] capL, .fn (.func sf) #[] capS]) (lO 147 (I v10) (lO 148 (I xM) (lO 149 (I (sb (ad (IntKind.i64.wrap (Int.fdiv (IntKind.u64.wrap (ad xA xB)) (2 ^ (min (1 : Int).toNat IntKind.u64.bits)))) xM) v10)) (LWp.ca h 150 Am rfl rfl (fun _ => hB _ _) (l := [.sv (.agg [.fn (.func g) #[] capL, .fn (.func sf) #[] capS]), .sv (I v10), .sv (I xM), .sv (I (sb (ad (IntKind.i64.wrap (Int.fdiv (IntKind.u64.wrap (ad xA xB)) (2 ^ (min (1 : Int).toNat IntKind.u64.bits)))) xM) v10))]) rfl (argsR_flat rfl) (fun v hv => sort_rotate_func_t hless hswap hB xL v10 xM (sb (ad (IntKind.i64.wrap (Int.fdiv (IntKind.u64.wrap (ad xA xB)) (2 ^ (min (1 : Int).toNat IntKind.u64.bits)))) xM) v10) v hv) ?_))))
       intro v11 gv11 h
       refine lZ ?_
       cases h
       exact ⟨_, rfl, rfl, rfl⟩
     refine Wp.skip ?_
     cases h
     exact ⟨_, rfl, rfl, rfl⟩
   intro j3 h E hE
   refine nt_wp hE ?_
   change Wp _ _ _ (sort_symMerge_func_H13 Am g sf capL capS xA xM xB v10 j3) _
   refine Wp.seq (Wp.seq (Wp.j1 h [1, 3, 4, 16, 18, 22, 158] [.box 4] (fun a => (sort_symMerge_func_H14 Am g sf capL capS xA xM xB v10 j3 a)) ?_ ?_))
   · intro a h
     refine Wp.region (lO 151 (I xA) (lO 152 (I v10) (lO 153 (B (decide (xA < v10))) (lO 154 (B (decide (xA < v10))) (LWp.sp h 154 (fun h => ?_) (fun h => ?_))))))
     · refine lO 155 (I v10) ?_
       refine lO 156 (I (IntKind.i64.wrap (Int.fdiv (IntKind.u64.wrap (ad xA xB)) (2 ^ (min (1 : Int).toNat IntKind.u64.bits))))) (lO 157 (B (decide (v10 < (IntKind.i64.wrap (Int.fdiv (IntKind.u64.wrap (ad xA xB)) (2 ^ (min (1 : Int).toNat IntKind.u64.bits))))))) (lO 158 (B (decide (v10 < (IntKind.i64.wrap (Int.fdiv (IntKind.u64.wrap (ad xA xB)) (2 ^ (min (1 : Int).toNat IntKind.u64.bits))))))) (lZ ?_)))
       cases h
       exact ⟨_, rfl, rfl, rfl⟩
     refine lH 155 (lH 156 (lH 157 (lO 158 (B false) (lZ ?_))))
     cases h
     exact ⟨_, rfl, rfl, rfl⟩
   intro j4 h E hE
   refine nt_wp hE ?_
   change Wp _ _ _ (sort_symMerge_func_H14 Am g sf capL capS xA xM xB v10 j3 j4) _
   refine Wp.j1 h [3, 4, 16, 22] [.box 4] (fun a => (sort_symMerge_func_H15 Am g sf capL capS xA xM xB v10 a)) ?_ ?_
   · intro a h
     refine Wp.c h (fun h => ?_) (fun h => ?_)
     · refine Wp.region ?_
       refine lO 159 (.agg [.fn (.func g) #[] capL, .fn (.func sf) #[] capS]) (lO 160 (I xA) (lO 161 (I v10) (lO 162 (I (IntKind.i64.wrap (Int.fdiv (IntKind.u64.wrap (ad xA xB)) (2 ^ (min (1 : Int).toNat IntKind.u64.bits))))) (LWp.ca h 163 Am rfl rfl (fun _ => hB _ _) (l := [.sv (.agg [.fn (.func g) #[] capL, .fn (.func sf) #[] capS]), .sv (I xA), .sv (I v10), .sv (I (IntKind.i64.wrap (Int.fdiv (IntKind.u64.wrap (ad xA xB)) (2 ^ (min (1 : Int).toNat IntKind.u64.bits)))))]) rfl (argsR_flat rfl) (fun v hv => ih j3 xA v10 (IntKind.i64.wrap (Int.fdiv (IntKind.u64.wrap (ad xA xB)) (2 ^ (min (1 : Int).toNat IntKind.u64.bits)))) v hv) ?_))))
       intro v12 gv12 h
       refine lZ ?_
       cases h
       exact ⟨_, rfl, rfl, rfl⟩
     refine Wp.skip ?_
     cases h
     exact ⟨_, rfl, rfl, rfl⟩
   intro j5 h E hE
   refine nt_wp hE ?_
   change Wp _ _ _ (sort_symMerge_func_H15 Am g sf capL capS xA xM xB v10 j5) _
   refine Wp.seq (Wp.region (lO 164 (I (IntKind.i64.wrap (Int.fdiv (IntKind.u64.wrap (ad xA xB)) (2 ^ (min (1 : Int).toNat IntKind.u64.bits))))) (lO 165 (I (sb (ad (IntKind.i64.wrap (Int.fdiv (IntKind.u64.wrap (ad xA xB)) (2 ^ (min (1 : Int).toNat IntKind.u64.bits)))) xM) v10)) (lO 166 (B (decide ((IntKind.i64.wrap (Int.fdiv (IntKind.u64.wrap (ad xA xB)) (2 ^ (min (1 : Int).toNat IntKind.u64.bits)))) < (sb (ad (IntKind.i64.wrap (Int.fdiv (IntKind.u64.wrap (ad xA xB)) (2 ^ (min (1 : Int).toNat IntKind.u64.bits)))) xM) v10)))) (lO 167 (B (decide ((IntKind.i64.wrap (Int.fdiv (IntKind.u64.wrap (ad xA xB)) (2 ^ (min (1 : Int).toNat IntKind.u64.bits)))) < (sb (ad (IntKind.i64.wrap (Int.fdiv (IntKind.u64.wrap (ad xA xB)) (2 ^ (min (1 : Int).toNat IntKind.u64.bits)))) xM) v10)))) (LWp.sp h 167 (fun h => ?_) (fun h => ?_)))))))
   · refine lO 168 (I (sb (ad (IntKind.i64.wrap (Int.fdiv (IntKind.u64.wrap (ad xA xB)) (2 ^ (min (1 : Int).toNat IntKind.u64.bits)))) xM) v10)) ?_
     refine lO 169 (I xB) (lO 170 (B (decide ((sb (ad (IntKind.i64.wrap (Int.fdiv (IntKind.u64.wrap (ad xA xB)) (2 ^ (min (1 : Int).toNat IntKind.u64.bits)))) xM) v10) < xB))) (lO 171 (B (decide ((sb (ad (IntKind.i64.wrap (Int.fdiv (IntKind.u64.wrap (ad xA xB)) (2 ^ (min (1 : Int).toNat IntKind.u64.bits)))) xM) v10) < xB))) (lZ (Wp.c h (fun h => ?_) (fun h => ?_)))))
     · refine Wp.region ?_
       refine lO 172 (.agg [.fn (.func g) #[] capL, .fn (.func sf) #[] capS]) (lO 173 (I (IntKind.i64.wrap (Int.fdiv (IntKind.u64.wrap (ad xA xB)) (2 ^ (min (1 : Int).toNat IntKind.u64.bits))))) (lO 174 (I (sb (ad (IntKind.i64.wrap (Int.fdiv (IntKind.u64.wrap (ad xA xB)) (2 ^ (min (1 : Int).toNat IntKind.u64.bits)))) xM) v10)) (lO 175 (I xB) (LWp.ca h 176 Am rfl rfl (fun _ => hB _ _) (l := [.sv (.agg [.fn (.func g) #[] capL, .fn (.func sf) #[] capS]), .sv (I (IntKind.i64.wrap (Int.fdiv (IntKind.u64.wrap (ad xA xB)) (2 ^ (min (1 : Int).toNat IntKind.u64.bits))))), .sv (I (sb (ad (IntKind.i64.wrap (Int.fdiv (IntKind.u64.wrap (ad xA xB)) (2 ^ (min (1 : Int).toNat IntKind.u64.bits)))) xM) v10)), .sv (I xB)]) rfl (argsR_flat rfl) (fun v hv => ih j5 (IntKind.i64.wrap (Int.fdiv (IntKind.u64.wrap (ad xA xB)) (2 ^ (min (1 : Int).toNat IntKind.u64.bits)))) (sb (ad (IntKind.i64.wrap (Int.fdiv (IntKind.u64.wrap (ad xA xB)) (2 ^ (min (1 : Int).toNat IntKind.u64.bits)))) xM) v10) xB v hv) ?_))))
       intro v13 gv13 h
       refine lZ ?_
       cases h
       exact ⟨.inl rfl, rfl⟩
     refine Wp.skip ?_
     cases h
     exact ⟨.inl rfl, rfl⟩
   refine lH 168 (lH 169 (lH 170 (lO 171 (B false) (lZ (Wp.cf (Wp.skip ?_))))))
   cases h
   exact ⟨.inl rfl, rfl⟩
def sort_stable_func_H1 {γ : Type} (Am : List γ → Amb) (g sf : FuncId) (capL capS : Array Value) (xN : Int) (z1 : Int) (z2 : Int) (z3 : List γ) : St := mkStA [(1, (I xN)), (2, (.one (.ptr (.box 2) 0 [] 0))), (4, (I 20)), (5, (I z1)), (6, (I z2))] [(.box 2, [.fn (.func g) #[] capL, .fn (.func sf) #[] capS])] (Am z3)
def sort_stable_func_H2 {γ : Type} (Am : List γ → Amb) (g sf : FuncId) (capL capS : Array Value) (xN : Int) (z4 : Int) (z5 : List γ) : St := mkStA [(1, (I xN)), (2, (.one (.ptr (.box 2) 0 [] 0))), (4, (I 20)), (5, (I z4))] [(.box 2, [.fn (.func g) #[] capL, .fn (.func sf) #[] capS])] (Am z5)
def sort_stable_func_H3 {γ : Type} (Am : List γ → Amb) (g sf : FuncId) (capL capS : Array Value) (xN : Int) (z6 : Int) (z7 : List γ) : St := mkStA [(1, (I xN)), (2, (.one (.ptr (.box 2) 0 [] 0))), (4, (I z6))] [(.box 2, [.fn (.func g) #[] capL, .fn (.func sf) #[] capS])] (Am z7)
def sort_stable_func_H4 {γ : Type} (Am : List γ → Amb) (g sf : FuncId) (capL capS : Array Value) (z8 : List γ) : St := mkStA [] [] (Am z8)
def sort_stable_func_H5 {γ : Type} (Am : List γ → Amb) (g sf : FuncId) (capL capS : Array Value) (xN : Int) (yBlockSize1 : Int) (z9 : Int) (z10 : Int) (z11 : List γ) : St := mkStA [(1, (I xN)), (2, (.one (.ptr (.box 2) 0 [] 0))), (4, (I yBlockSize1)), (5, (I z9)), (6, (I z10))] [(.box 2, [.fn (.func g) #[] capL, .fn (.func sf) #[] capS])] (Am z11)
def sort_stable_func_H6 {γ : Type} (Am : List γ → Amb) (g sf : FuncId) (capL capS : Array Value) (xN : Int) (yBlockSize1 : Int) (z12 : Int) (z13 : List γ) : St := mkStA [(1, (I xN)), (2, (.one (.ptr (.box 2) 0 [] 0))), (4, (I yBlockSize1)), (5, (I z12))] [(.box 2, [.fn (.func g) #[] capL, .fn (.func sf) #[] capS])] (Am z13)
theorem sort_stable_func_t {γ : Type} {Am : List γ → Amb} {lt : γ → γ → Bool} {g sf : FuncId} {capL capS : Array Value} (hless : LessOk Tryz.prog Am lt g capL) (hswap : SwapOk Tryz.prog Am sf capS) (hB : ∀ l l', (Am l).B = (Am l').B) (xL : List γ) (xN : Int) (r : List γ) (h : sort_stable_func lt xL xN = some r) : GivesA Tryz.prog 194 (Am xL) [.sv (.agg [.fn (.func g) #[] capL, .fn (.func sf) #[] capS]), .sv (I xN)] (Am r) := by
 unfold sort_stable_func at h
 refine gives_amb Tryz.func194 rfl rfl ?_
 rw [Tryz.ntmps194]
 refine Wp.seq (Wp.region (LWp.b [] 2 [.fn (.func g) #[] capL, .fn (.func sf) #[] capS] (lZ (Wp.seq (Wp.region (lO 4 (I 20) (lZ (Wp.seq (Wp.region (lO 8 (I 20) (lO 5 (I 0) (lO 6 (I 20) ?_))))))))))))
 refine lZ (Wp.seq (Wp.l1 h [1, 2, 4, 5, 6] [.box 2] (fun s => (sort_stable_func_H1 Am g sf capL capS xN s.1 s.2.1 s.2.2)) [1, 2, 4, 5] [.box 2] (fun s => (sort_stable_func_H2 Am g sf capL capS xN s.1 s.2)) ⟨rfl, rfl⟩ ?_ ?_))
 · rintro ⟨yA1, yB1, yL1⟩ o (h : sort_stable_func_b1 lt xN yA1 yB1 yL1 = some o)
   unfold sort_stable_func_b1 at h
   change Wp _ _ _ (sort_stable_func_H1 Am g sf capL capS xN yA1 yB1 yL1) _
   refine Wp.seq (Wp.seq (Wp.region (lO 9 (I yB1) (lO 10 (I xN) (lO 11 (B (decide (yB1 ≤ xN))) (lZ (Wp.c h (fun h => ?_) (fun h => ?_))))))))
   · refine Wp.skip ?_
     refine Wp.block (Wp.seq (Wp.region (lO 12 (.agg [.fn (.func g) #[] capL, .fn (.func sf) #[] capS]) (lO 13 (I yA1) (lO 14 (I yB1) (LWp.ca h 15 Am rfl rfl (fun _ => hB _ _) (l := [.sv (.agg [.fn (.func g) #[] capL, .fn (.func sf) #[] capS]), .sv (I yA1), .sv (I yB1)]) rfl (argsR_flat rfl) (fun v hv => sort_insertionSort_func_t hless hswap hB yL1 yA1 yB1 v hv) ?_))))))
     intro v1 gv1 h
     refine lZ (Wp.seq (Wp.region (lO 16 (I yB1) (lO 5 (I yB1) (lZ (Wp.region (lO 17 (I yB1) (lO 18 (I 20) (lO 19 (I (ad yB1 20)) (lO 6 (I (ad yB1 20)) ?_))))))))))
     refine lZ ?_
     cases h
     exact ⟨_, rfl, rfl, rfl⟩
   refine Wp.exit ?_
   cases h
   exact ⟨_, rfl, rfl, rfl⟩
 intro v2 h E hE
 refine nt_wp hE ?_
 change Wp _ _ _ (sort_stable_func_H2 Am g sf capL capS xN v2.1 v2.2) _
 refine Wp.seq (Wp.region (lO 20 (.agg [.fn (.func g) #[] capL, .fn (.func sf) #[] capS]) (lO 21 (I v2.1) (lO 22 (I xN) (LWp.ca h 23 Am rfl rfl (fun _ => hB _ _) (l := [.sv (.agg [.fn (.func g) #[] capL, .fn (.func sf) #[] capS]), .sv (I v2.1), .sv (I xN)]) rfl (argsR_flat rfl) (fun v hv => sort_insertionSort_func_t hless hswap hB v2.2 v2.1 xN v hv) ?_)))))
 intro v3 gv3 h
 refine lZ (Wp.l1 h [1, 2, 4] [.box 2] (fun s => (sort_stable_func_H3 Am g sf capL capS xN s.1 s.2)) [] [] (fun s => (sort_stable_func_H4 Am g sf capL capS s)) ⟨rfl, rfl⟩ ?_ ?_)
 · rintro ⟨yBlockSize1, yL2⟩ o (h : sort_stable_func_b2 lt xN yBlockSize1 yL2 = some o)
   unfold sort_stable_func_b2 at h
   change Wp _ _ _ (sort_stable_func_H3 Am g sf capL capS xN yBlockSize1 yL2) _
   refine Wp.seq (Wp.seq (Wp.region (lO 24 (I yBlockSize1) (lO 25 (I xN) (lO 26 (B (decide (yBlockSize1 < xN))) (lZ (Wp.c h (fun h => ?_) (fun h => ?_))))))))
   · refine Wp.skip ?_
     refine Wp.block (Wp.seq (Wp.region (lO 27 (I yBlockSize1) (lO 28 (I (ml 2 yBlockSize1)) (lO 5 (I 0) (lO 6 (I (ml 2 yBlockSize1)) (lZ (Wp.seq (Wp.l1 h [1, 2, 4, 5, 6] [.box 2] (fun s => (sort_stable_func_H5 Am g sf capL capS xN yBlockSize1 s.1 s.2.1 s.2.2)) [1, 2, 4, 5] [.box 2] (fun s => (sort_stable_func_H6 Am g sf capL capS xN yBlockSize1 s.1 s.2)) ⟨rfl, rfl⟩ ?_ ?_)))))))))
     · rintro ⟨yA2, yB2, yL3⟩ o (h : sort_stable_func_b3 lt xN yBlockSize1 yA2 yB2 yL3 = some o)
       unfold sort_stable_func_b3 at h
       change Wp _ _ _ (sort_stable_func_H5 Am g sf capL capS xN yBlockSize1 yA2 yB2 yL3) _
       refine Wp.seq (Wp.seq (Wp.region (lO 29 (I yB2) (lO 30 (I xN) (lO 31 (B (decide (yB2 ≤ xN))) (lZ (Wp.c h (fun h => ?_) (fun h => ?_))))))))
       · refine Wp.skip ?_
         refine Wp.block (Wp.seq (Wp.region (lO 32 (.agg [.fn (.func g) #[] capL, .fn (.func sf) #[] capS]) (lO 33 (I yA2) (lO 34 (I yA2) (lO 35 (I yBlockSize1) (lO 36 (I (ad yA2 yBlockSize1)) (lO 37 (I yB2) (LWp.ca h 38 Am rfl rfl (fun _ => hB _ _) (l := [.sv (.agg [.fn (.func g) #[] capL, .fn (.func sf) #[] capS]), .sv (I yA2), .sv (I (ad yA2 yBlockSize1)), .sv (I yB2)]) rfl (argsR_flat rfl) (fun v hv => sort_symMerge_func_t hless hswap hB (List.length yL3 + 1) yL3 yA2 (ad yA2 yBlockSize1) yB2 v hv) ?_)))))))))
         intro v4 gv4 h
         refine lZ (Wp.seq (Wp.region (lO 39 (I yB2) (lO 5 (I yB2) (lZ (Wp.region (lO 40 (I yB2) (lO 41 (I yBlockSize1) (lO 42 (I (ml 2 yBlockSize1)) (lO 43 (I (ad yB2 (ml 2 yBlockSize1))) ?_))))))))))
         refine lO 6 (I (ad yB2 (ml 2 yBlockSize1))) (lZ ?_)
         cases h
         exact ⟨_, rfl, rfl, rfl⟩
       refine Wp.exit ?_
       cases h
       exact ⟨_, rfl, rfl, rfl⟩
     intro v5 h E hE
     refine nt_wp hE ?_
     change Wp _ _ _ (sort_stable_func_H6 Am g sf capL capS xN yBlockSize1 v5.1 v5.2) _
     refine Wp.seq (Wp.seq (Wp.region (lO 44 (I v5.1) (lO 45 (I yBlockSize1) (lO 46 (I (ad v5.1 yBlockSize1)) (lO 7 (I (ad v5.1 yBlockSize1)) (lZ (Wp.seq (Wp.region (lO 47 (I (ad v5.1 yBlockSize1)) (lO 48 (I xN) ?_)))))))))))
     refine lO 49 (B (decide ((ad v5.1 yBlockSize1) < xN))) (lZ (Wp.c h (fun h => ?_) (fun h => ?_)))
     · refine Wp.region ?_
       refine lO 50 (.agg [.fn (.func g) #[] capL, .fn (.func sf) #[] capS]) (lO 51 (I v5.1) (lO 52 (I (ad v5.1 yBlockSize1)) (lO 53 (I xN) (LWp.ca h 54 Am rfl rfl (fun _ => hB _ _) (l := [.sv (.agg [.fn (.func g) #[] capL, .fn (.func sf) #[] capS]), .sv (I v5.1), .sv (I (ad v5.1 yBlockSize1)), .sv (I xN)]) rfl (argsR_flat rfl) (fun v hv => sort_symMerge_func_t hless hswap hB (List.length v5.2 + 1) v5.2 v5.1 (ad v5.1 yBlockSize1) xN v hv) ?_))))
       intro v6 gv6 h
       refine lZ (Wp.region (lO 55 (I yBlockSize1) (lO 56 (I (ml yBlockSize1 2)) (lO 4 (I (ml yBlockSize1 2)) (lZ ?_)))))
       cases h
       exact ⟨_, rfl, rfl, rfl⟩
     refine Wp.skip (Wp.region (lO 55 (I yBlockSize1) (lO 56 (I (ml yBlockSize1 2)) (lO 4 (I (ml yBlockSize1 2)) (lZ ?_)))))
     cases h
     exact ⟨_, rfl, rfl, rfl⟩
   refine Wp.exit ?_
   cases h
   exact ⟨_, rfl, rfl, rfl⟩
 intro v7 h E hE
 cases h
 exact ⟨.inl rfl, congrArg St.amb hE.2⟩
end Go.TI
