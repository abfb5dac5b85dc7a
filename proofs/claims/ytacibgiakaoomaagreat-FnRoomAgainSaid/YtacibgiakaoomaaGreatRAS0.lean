/- Sorting. No condition. -/
import Derived.Test.YtacibgiakaoomaaGreatRALY
import Derived.Test.YtacibgiakaoomaaGreatProg
import Derived.Lib.ReflectliteSlice
import Derived.WalkKit
import Derived.Below
import Derived.KernelRfl
import Derived.Shelf.Abstract
set_option maxRecDepth 100000
set_option maxHeartbeats 1000000
set_option linter.unusedVariables false
set_option linter.unusedSimpArgs false
namespace Go.TI
open Go Go.Proofs Go.Proofs.Tryz
variable {γ:Type} {g sf:FuncId} {capL capS:Array Value} {P:Program} {A:QD} {v:Int} {lt:γ->γ->Bool} {Am:List γ->QD} {l:List γ} {r:List γ}
theorem Ht (b:Ik prog Am lt g capL) (a:Mn prog Am sf capS) (hB:∀l l',(Am l).B=(Am l').B/\(Am l).pin=none) (xL:List γ) (xA:Int) (xB:Int) (xN:Int) (r:List γ) (h:CH lt xL xA xB xN=some r):Mq prog 271 (Am xL) [.sv (.agg [.fn (.func g) #[] capL,.fn (.func sf) #[] capS]),.sv (I xA),.sv (I xB),.sv (I xN)] (Am r):=by
 unfold CH at h;exact gfa func271 ntmps271 hB<|ws<|w0<|g0<|E5 h (λs=>QX [(1,I xA),(2,I xB),(3,I xN),(4,.one<|.ptr (.box 4) 0 [] 0),(8,I s.1)] [(.box 4,[.fn (.func g) #[] capL,.fn (.func sf) #[] capS])]<|Am s.2) (λs=>QX [] []<|Am s) (by rintro⟨c,d⟩ o (h:D8 lt xA xB xN c d=some o);exact qw<|wc h (λh=>qd<|qr<|rk 8<|tK a hB h λv1 h=>RW.nil<|qr<|g0<|el h) λh=>qx<|ev h) λv2 h E hE=>ABc h hE
theorem Ti (a:Ik prog Am lt g capL) (b:Mn prog Am sf capS) (hB:∀l l',(Am l).B=(Am l').B/\(Am l).pin=none) (xL:List γ) (xA:Int) (xM:Int) (xB:Int) (r:List γ) (h:EJ lt xL xA xM xB=some r):Mq prog 242 (Am xL) [.sv (.agg [.fn (.func g) #[] capL,.fn (.func sf) #[] capS]),.sv (I xA),.sv (I xM),.sv (I xB)] (Am r):=by
 unfold EJ at h;exact gfa func242 ntmps242 hB<|ws<|w0<|w0<|g0<|vV h (λs=>QX [(2,I xM),(4,.one<|.ptr (.box 4) 0 [] 0),(8,I s.1),(9,I s.2.1)] [(.box 4,[.fn (.func g) #[] capL,.fn (.func sf) #[] capS])]<|Am s.2.2) (λs=>QX [(2,I xM),(4,.one<|.ptr (.box 4) 0 [] 0),(8,I s.1)] [(.box 4,[.fn (.func g) #[] capL,.fn (.func sf) #[] capS])]<|Am s.2) (by rintro⟨c,d,e⟩ o (h:E6 lt xM c d e=some o);exact qw<|wc h (λh=>qk<|qb<|wg<|wc h (λh=>ws<|rk 6<|RI h hB (Ht a b hB _ _ _ _) λv1 h=>RW.nil<|qr<|g0<|el h) λh=>ws<|rk 10<|RI h hB (Ht a b hB _ _ _ _) λv2 h=>RW.nil<|qr<|g0<|el h) λh=>qx<|ev h) λv3 h=>qr<|rk 6<|RI h hB (Ht a b hB _ _ _ _) λv4 h=>RW.nil<|ra h
theorem Fg (c:Ik prog Am lt g capL) (d:Mn prog Am sf capS) (hB:∀l l',(Am l).B=(Am l').B/\(Am l).pin=none) (xL:List γ) (xA:Int) (xB:Int) (r:List γ) (h:B4 lt xL xA xB=some r):Mq prog 212 (Am xL) [.sv (.agg [.fn (.func g) #[] capL,.fn (.func sf) #[] capS]),.sv (I xA),.sv (I xB)] (Am r):=by
 unfold B4 at h;exact gfa func212 ntmps212 hB<|ws<|w0<|g0<|E5 h (λs=>QX [(1,I xA),(2,I xB),(3,.one<|.ptr (.box 3) 0 [] 0),(6,I s.1)] [(.box 3,[.fn (.func g) #[] capL,.fn (.func sf) #[] capS])]<|Am s.2) (λs=>QX [] []<|Am s) (by rintro⟨b,i⟩ o (h:AS lt xA xB b i=some o);exact qw<|wc h (λh=>qd<|wg<|E5 h (λs=>QX [(1,I xA),(2,I xB),(3,.one<|.ptr (.box 3) 0 [] 0),(6,I b),(7,I s.1)] [(.box 3,[.fn (.func g) #[] capL,.fn (.func sf) #[] capS])]<|Am s.2) (λs=>QX [(1,I xA),(2,I xB),(3,.one<|.ptr (.box 3) 0 [] 0),(6,I b)] [(.box 3,[.fn (.func g) #[] capL,.fn (.func sf) #[] capS])]<|Am s) (by rintro⟨e,f⟩ o (h:AW lt xA e f=some o);exact qs<|Di h (λa=>QX [(1,I xA),(2,I xB),(3,.one<|.ptr (.box 3) 0 [] 0),(6,I b),(7,I e),(26,B a)] [(.box 3,[.fn (.func g) #[] capL,.fn (.func sf) #[] capS])]<|Am f) (λa h=>qr<|B6 4 19 h (λh=>rk 5<|tL c h λv1 h=>g0<|en h) λh=>g0<|en h) λj1 h=>wc h (λh=>qd<|qr<|rk 5<|tK d hB h λv2 h=>RW.nil<|qr<|g0<|el h) λh=>qx<|ev h) λv3 h E hE=>Aq hE<|qr<|g0<|el h) λh=>qx<|ev h) λv4 h E hE=>ABc h hE
theorem H5 (b:Ik prog Am lt g capL) (c:Mn prog Am sf capS) (hB:∀l l',(Am l).B=(Am l').B/\(Am l).pin=none):∀(n:Nat) (xL:List γ) (xA:Int) (xM:Int) (xB:Int) (r:List γ) (h:Cp lt n xL xA xM xB=some r),Mq prog 213 (Am xL) [.sv (.agg [.fn (.func g) #[] capL,.fn (.func sf) #[] capS]),.sv (I xA),.sv (I xM),.sv (I xB)] (Am r)
 |0,xL,xA,xM,xB,r,h=>by cases h
 |n+1,xL,xA,xM,xB,r,h=>by
  have ih:=H5 b c hB n;rw[Cp]at h;exact gfa func213 ntmps213 hB<|wg<|qw<|wc h (λh=>ws<|w0<|g0<|vV h (λs=>QX [(1,I xA),(4,.one<|.ptr (.box 4) 0 [] 0),(8,I s.1),(9,I s.2)] [(.box 4,[.fn (.func g) #[] capL,.fn (.func sf) #[] capS])]<|Am xL) (λs=>QX [(1,I xA),(4,.one<|.ptr (.box 4) 0 [] 0),(8,I s)] [(.box 4,[.fn (.func g) #[] capL,.fn (.func sf) #[] capS])]<|Am xL) (by rintro⟨e,f⟩ o (h:DP lt xL xA e f=some o);exact qw<|wc h (λh=>qk<|qb<|ws<|w0<|rk 4<|tL b h λv1 h=>RW.nil<|wc h (λh=>qr<|g0<|el h) λh=>qr<|g0<|el h) λh=>qx<|ev h) λv2 h=>qw<|E5 h (λs=>QX [(4,.one<|.ptr (.box 4) 0 [] 0),(8,I v2),(11,I s.1)] [(.box 4,[.fn (.func g) #[] capL,.fn (.func sf) #[] capS])]<|Am s.2) (λs=>QX [] []<|Am s) (by rintro⟨i,j⟩ o (h:Dk lt v2 i j=some o);exact qw<|wc h (λh=>qd<|qr<|rk 5<|tK c hB h λv3 h=>RW.nil<|qr<|g0<|el h) λh=>qx<|ev h) λv4 h E hE=>Aq hE<|qt<|ra h) λh=>qk<|qw<|wc h (λh=>ws<|w0<|g0<|vV h (λs=>QX [(2,I xM),(4,.one<|.ptr (.box 4) 0 [] 0),(12,I s.1),(13,I s.2)] [(.box 4,[.fn (.func g) #[] capL,.fn (.func sf) #[] capS])]<|Am xL) (λs=>QX [(2,I xM),(4,.one<|.ptr (.box 4) 0 [] 0),(12,I s)] [(.box 4,[.fn (.func g) #[] capL,.fn (.func sf) #[] capS])]<|Am xL) (by rintro⟨k,m⟩ o (h:DO lt xL xM k m=some o);exact qw<|wc h (λh=>qk<|qb<|ws<|w0<|rk 4<|tL b h λv5 h=>g0<|wc h (λh=>qr<|g0<|el h) λh=>qr<|g0<|el h) λh=>qx<|ev h) λv6 h=>qw<|E5 h (λs=>QX [(4,.one<|.ptr (.box 4) 0 [] 0),(12,I v6),(15,I s.1)] [(.box 4,[.fn (.func g) #[] capL,.fn (.func sf) #[] capS])]<|Am s.2) (λs=>QX [] []<|Am s) (by rintro⟨p,q⟩ o (h:Dj lt v6 p q=some o);exact qw<|wc h (λh=>qd<|qr<|rk 5<|tK c hB h λv7 h=>RW.nil<|qr<|g0<|el h) λh=>qx<|ev h) λv8 h E hE=>Aq hE<|qt<|ra h) λh=>qk<|ws<|w0<|w0<|g0<|qw<|TK h (λa=>QX [(1,I xA),(2,I xM),(3,I xB),(4,.one<|.ptr (.box 4) 0 [] 0),(16,I<|IntKind.i64.wrap<|Int.fdiv (IntKind.u64.wrap<|ad xA xB)<|2^(min (1:Int).toNat IntKind.u64.bits)),(17,I<|ad (IntKind.i64.wrap<|Int.fdiv (IntKind.u64.wrap<|ad xA xB)<|2^(min (1:Int).toNat IntKind.u64.bits)) xM),(18,I a.1),(19,I a.2)] [(.box 4,[.fn (.func g) #[] capL,.fn (.func sf) #[] capS])]<|Am xL) (λa h=>wc h (λh=>wg<|qr<|g0<|en h) λh=>wg<|qr<|g0<|en h) λj1 h E hE=>Aq hE<|wg<|vV h (λs=>QX [(1,I xA),(2,I xM),(3,I xB),(4,.one<|.ptr (.box 4) 0 [] 0),(16,I<|IntKind.i64.wrap<|Int.fdiv (IntKind.u64.wrap<|ad xA xB)<|2^(min (1:Int).toNat IntKind.u64.bits)),(17,I<|ad (IntKind.i64.wrap<|Int.fdiv (IntKind.u64.wrap<|ad xA xB)<|2^(min (1:Int).toNat IntKind.u64.bits)) xM),(18,I s.1),(19,I s.2),(20,I<|sb (ad (IntKind.i64.wrap<|Int.fdiv (IntKind.u64.wrap<|ad xA xB)<|2^(min (1:Int).toNat IntKind.u64.bits)) xM) 1)] [(.box 4,[.fn (.func g) #[] capL,.fn (.func sf) #[] capS])]<|Am xL) (λs=>QX [(1,I xA),(2,I xM),(3,I xB),(4,.one<|.ptr (.box 4) 0 [] 0),(16,I<|IntKind.i64.wrap<|Int.fdiv (IntKind.u64.wrap<|ad xA xB)<|2^(min (1:Int).toNat IntKind.u64.bits)),(17,I<|ad (IntKind.i64.wrap<|Int.fdiv (IntKind.u64.wrap<|ad xA xB)<|2^(min (1:Int).toNat IntKind.u64.bits)) xM),(18,I s)] [(.box 4,[.fn (.func g) #[] capL,.fn (.func sf) #[] capS])]<|Am xL) (by rintro⟨d,t⟩ o (h:DN lt xL xA xM xB d t=some o);exact qw<|wc h (λh=>qk<|qb<|ws<|w0<|rk 6<|tL b h λv9 h=>g0<|wc h (λh=>qr<|g0<|el h) λh=>qr<|g0<|el h) λh=>qx<|ev h) λv10 h=>wg<|qs<|Di h (λa=>QX [(1,I xA),(2,I xM),(3,I xB),(4,.one<|.ptr (.box 4) 0 [] 0),(16,I<|IntKind.i64.wrap<|Int.fdiv (IntKind.u64.wrap<|ad xA xB)<|2^(min (1:Int).toNat IntKind.u64.bits)),(18,I v10),(22,I<|sb (ad (IntKind.i64.wrap<|Int.fdiv (IntKind.u64.wrap<|ad xA xB)<|2^(min (1:Int).toNat IntKind.u64.bits)) xM) v10),(145,B a)] [(.box 4,[.fn (.func g) #[] capL,.fn (.func sf) #[] capS])]<|Am xL) (λa h=>qr<|B6 4 141 h (λh=>g0<|en h) λh=>g0<|en h) λj2 h=>TK h (λa=>QX [(1,I xA),(3,I xB),(4,.one<|.ptr (.box 4) 0 [] 0),(16,I<|IntKind.i64.wrap<|Int.fdiv (IntKind.u64.wrap<|ad xA xB)<|2^(min (1:Int).toNat IntKind.u64.bits)),(18,I v10),(22,I<|sb (ad (IntKind.i64.wrap<|Int.fdiv (IntKind.u64.wrap<|ad xA xB)<|2^(min (1:Int).toNat IntKind.u64.bits)) xM) v10)] [(.box 4,[.fn (.func g) #[] capL,.fn (.func sf) #[] capS])]<|Am a) (λa h=>wc h (λh=>qr<|rk 4<|RI h hB (Ti b c hB _ _ _ _) λv11 h=>RW.nil<|en h) λh=>qk<|en h) λj3 h E hE=>Aq hE<|qs<|Di h (λa=>QX [(1,I xA),(3,I xB),(4,.one<|.ptr (.box 4) 0 [] 0),(16,I<|IntKind.i64.wrap<|Int.fdiv (IntKind.u64.wrap<|ad xA xB)<|2^(min (1:Int).toNat IntKind.u64.bits)),(18,I v10),(22,I<|sb (ad (IntKind.i64.wrap<|Int.fdiv (IntKind.u64.wrap<|ad xA xB)<|2^(min (1:Int).toNat IntKind.u64.bits)) xM) v10),(158,B a)] [(.box 4,[.fn (.func g) #[] capL,.fn (.func sf) #[] capS])]<|Am j3) (λa h=>qr<|B6 4 154 h (λh=>g0<|en h) λh=>g0<|en h) λj4 h=>TK h (λa=>QX [(3,I xB),(4,.one<|.ptr (.box 4) 0 [] 0),(16,I<|IntKind.i64.wrap<|Int.fdiv (IntKind.u64.wrap<|ad xA xB)<|2^(min (1:Int).toNat IntKind.u64.bits)),(22,I<|sb (ad (IntKind.i64.wrap<|Int.fdiv (IntKind.u64.wrap<|ad xA xB)<|2^(min (1:Int).toNat IntKind.u64.bits)) xM) v10)] [(.box 4,[.fn (.func g) #[] capL,.fn (.func sf) #[] capS])]<|Am a) (λa h=>wc h (λh=>qr<|rk 4<|RI h hB (ih _ _ _ _) λv12 h=>RW.nil<|en h) λh=>qk<|en h) λj5 h E hE=>Aq hE<|ws<|B6 4 167 h (λh=>g0<|wc h (λh=>qr<|rk 4<|RI h hB (ih _ _ _ _) λv13 h=>RW.nil<|ra h) λh=>qk<|ra h) λh=>g0<|wf<|qk<|ra h
theorem MY (b:Ik prog Am lt g capL) (c:Mn prog Am sf capS) (hB:∀l l',(Am l).B=(Am l').B/\(Am l).pin=none) (xL:List γ) (xN:Int) (r:List γ) (h:CU lt xL xN=some r):Mq prog 154 (Am xL) [.sv (.agg [.fn (.func g) #[] capL,.fn (.func sf) #[] capS]),.sv (I xN)] (Am r):=by
 unfold CU at h;exact gfa func154 ntmps154 hB<|ws<|w0<|w0<|g0<|vV h (λs=>QX [(1,I xN),(2,.one<|.ptr (.box 2) 0 [] 0),(4,I 20),(5,I s.1),(6,I s.2.1)] [(.box 2,[.fn (.func g) #[] capL,.fn (.func sf) #[] capS])]<|Am s.2.2) (λs=>QX [(1,I xN),(2,.one<|.ptr (.box 2) 0 [] 0),(4,I 20),(5,I s.1)] [(.box 2,[.fn (.func g) #[] capL,.fn (.func sf) #[] capS])]<|Am s.2) (by rintro⟨e,f,i⟩ o (h:CI lt xN e f i=some o);exact qw<|wc h (λh=>qk<|qb<|ws<|rk 3<|RI h hB (Fg b c hB _ _ _) λv1 h=>RW.nil<|wg<|qr<|g0<|el h) λh=>qx<|ev h) λv2 h=>ws<|rk 3<|RI h hB (Fg b c hB _ _ _) λv3 h=>RW.nil<|E5 h (λs=>QX [(1,I xN),(2,.one<|.ptr (.box 2) 0 [] 0),(4,I s.1)] [(.box 2,[.fn (.func g) #[] capL,.fn (.func sf) #[] capS])]<|Am s.2) (λs=>QX [] []<|Am s) (by rintro⟨a,j⟩ o (h:Dd lt xN a j=some o);exact qw<|wc h (λh=>qk<|qb<|wg<|vV h (λs=>QX [(1,I xN),(2,.one<|.ptr (.box 2) 0 [] 0),(4,I a),(5,I s.1),(6,I s.2.1)] [(.box 2,[.fn (.func g) #[] capL,.fn (.func sf) #[] capS])]<|Am s.2.2) (λs=>QX [(1,I xN),(2,.one<|.ptr (.box 2) 0 [] 0),(4,I a),(5,I s.1)] [(.box 2,[.fn (.func g) #[] capL,.fn (.func sf) #[] capS])]<|Am s.2) (by rintro⟨k,m,d⟩ o (h:Dc lt xN a k m d=some o);exact qw<|wc h (λh=>qk<|qb<|ws<|rk 6<|RI h hB (H5 b c hB (List.length d+1) _ _ _ _) λv4 h=>RW.nil<|wg<|qr<|g0<|el h) λh=>qx<|ev h) λv5 h=>qv<|w0<|g0<|wc h (λh=>qr<|rk 4<|RI h hB (H5 b c hB (List.length v5.2+1) _ _ _ _) λv6 h=>RW.nil<|qr<|g0<|el h) λh=>qk<|qr<|g0<|el h) λh=>qx<|ev h) λv7 h E hE=>ABc h hE
theorem o7 (xX:Int) (r:Int) (h:YF xX=some r):Aw prog 262 [.sv (.one (.int .u64 xX))] (I r) (rg 1):=gf func262 ntmps262<|wg<|qw<|TK h (λa=>rs [(0,.one<|.int .u64 a.1),(2,I a.2)] []) (λa h=>wc h (λh=>wg<|qr<|g0<|en h) λh=>qk<|en h) λj1 h E hE=>Aq hE<|qw<|TK h (λa=>rs [(0,.one<|.int .u64 a.1),(2,I a.2)] []) (λa h=>wc h (λh=>wg<|qr<|g0<|en h) λh=>qk<|en h) λj2 h E hE=>Aq hE<|qw<|TK h (λa=>rs [(0,.one<|.int .u64 a.1),(2,I a.2)] []) (λa h=>wc h (λh=>wg<|qr<|g0<|en h) λh=>qk<|en h) λj3 h E hE=>Aq hE<|ws<|rk 3<|bd h λx1 gx1 h=>aq (aO gx1)<|g0<|qt<|rr h▸rq
theorem yZ (xX:Int) (r:Int) (h:VG xX=some r):Aw prog 237 [.sv (.one (.int .u64 xX))] (I r) (rg 1):=gf func237 ntmps237<|wg<|qs<|wf<|qk<|ws<|AU 1 h (o7 _) λv1 h=>g0<|qt<|rr h▸rq
theorem Gg (b:Ik prog Am lt g capL) (c:Mn prog Am sf capS) (hB:∀l l',(Am l).B=(Am l').B/\(Am l).pin=none) (xL:List γ) (xA:Int) (xB:Int) (a:Int) (r:List γ) (h:Et lt xL xA xB a=some r):Mq prog 238 (Am xL) [.sv (.agg [.fn (.func g) #[] capL,.fn (.func sf) #[] capS]),.sv (I xA),.sv (I xB),.sv (I a)] (Am r):=by
 unfold Et at h;exact gfa func238 ntmps238 hB<|ws<|w0<|w0<|g0<|Mc h (λ_=>QX [(1,I xA),(2,I xB),(4,.one<|.ptr (.box 4) 0 [] 0)] [(.box 4,[.fn (.func g) #[] capL,.fn (.func sf) #[] capS])]<|Am xL) (λ_=>QX [] []<|Am xL) (by rintro⟨⟩ o (h:FC lt xL xA xB=some o) hk1;exact qb<|wg<|qw<|wc h (λh=>ws<|rk 3<|RI h hB (Fg b c hB _ _ _) λv1 h=>RW.nil<|qt<|ra<|jo h hk1) λh=>by cases h) λv2 h E hE=>ABc h hE
open Go.Lib Go.RowKit
theorem MZ (t e : TypeId) (i ie : TypeInfo) (hi : prog.info? t = some i) (hd : i.desc = .slice e) (g : prog.packed t = false) (h : prog.info? e = some ie) (ke : Nat) (j : ∀ w, (Extern.Rtype.kind e).run prog w = .ok ke w) (p : Option Addr) (n c : Nat) (f : Nat) (hf : prog.funcs.findIdx? (·.name == "internal/reflectlite" ++ ".Swapper$" ++ toString (swapperK n ie ke)) = some f) (lf : Fn) (la lb : Array Value) (A A' : QD) (sb : Array Value) (d : sb = if swapperK n ie ke ≤ 2 then #[] else #[.slice p n c, typeHandle prog e]) (hp : Mq prog 154 A [.sv (.agg [.fn lf la lb, .fn (.func f) #[] sb]), .sv (.one (.int .i64 n))] A') (w : Go.World) (hA : A.I w) (hB : ∀ b ∈ A.B, b < w.heap.size) :
  Calls prog 95 #[.iface t (.slice p n c),.func lf la lb] w λe w'=>e= .returned (.tuple #[])/\Gb w w' A.B/\A'.I w':=by
 have hv:=run_valueOf_slice (P:=prog) t e i hi hd p n c w
 have hs:=λw=>run_swapper_slice (P:=prog) t e i ie hi hd h ke j p n c f hf w
 have hl:=λa w ha=>run_valueLen_slice (P:=prog) t e i hi hd g a p n c w ha
 rw[<-d]at hs
 have hc:∀x y,Calls prog 154 #[.agg #[.func lf la lb,.func (.func f) #[] sb],.int .i64 n] ((w.alloc x).alloc y) λe w'=>e= .returned (.tuple #[])/\Gb w w' A.B/\A'.I w':=by
  intro x y
  have k1:∀b,b<w.heap.size->((w.alloc x).alloc y).heap[b]?=w.heap[b]? :=λb hb=>by
   rw[Below.heap_alloc _ _ _ (by simp;omega),Below.heap_alloc _ _ _ hb]
  have:=hp ((w.alloc x).alloc y) [.agg #[.func lf la lb,.func (.func f) #[] sb],.int .i64 n] ⟨_,_,[],[],[],[],rfl,rfl,rfl,⟨[.func lf la lb,.func (.func f) #[] sb],rfl,⟨_,_,[],[],[],[],rfl,rfl,rfl,⟨rfl,rfl,rfl⟩,_,_,[],[],[],[],rfl,rfl,rfl,⟨rfl,rfl,rfl⟩,rfl,rfl,rfl⟩⟩,⟨_,_,[],[],[],[],rfl,rfl,rfl,⟨by simp[Dl],rfl⟩,⟨rfl,rfl,rfl⟩⟩⟩
   (λb hb=>by have:=hB b hb;simp;omega) (A.st _ _ hA λb hb=>k1 b<|hB b hb)
  refine this.mono ?_;rintro e w' ⟨rfl,hb,hI⟩;refine⟨rfl,⟨hb.os,hb.tape,hb.output,?_,?_⟩,hI⟩
  ·have:=hb.size;simp at this;omega
  intro b h1 h2;rw[hb.keep b (by simp;omega) h2,k1 b h1]
 clear hp d hA hB hf;simp only[typeHandle,show prog.globals.size=0 from rfl]at hv hl
 go_enter func95,ntmps95
 go_wp2
 rw[run_callFunc_extern func152 (by kernel_rfl) (by kernel_rfl) (by kernel_rfl) (e:=λargs=>Extern.ReflectliteValue.unpack<|args.getD 0<|.tuple #[]) (by kernel_rfl),
  show Sem.run prog ((λargs:Array Value=>Extern.ReflectliteValue.unpack<|args.getD 0<|.tuple #[]) #[.iface t<|.slice p n c]) w=_ from hv]
 simp only[Result.andThen];rw[Oper.upon_value]
 go_wp2
 rw[run_callFunc_extern func153 (by kernel_rfl) (by kernel_rfl) (by kernel_rfl) (e := Extern.ReflectliteSwapper.swapper "internal/reflectlite" (Extern.ReflectliteValue.valueError "Swapper")) (by kernel_rfl), hs];simp only[Result.andThen];rw[Oper.upon_value]
 go_wp2
 rw[run_callFunc_extern func155 (by kernel_rfl) (by kernel_rfl) (by kernel_rfl) (e := Extern.ReflectliteValue.method (Extern.ReflectliteValue.valueError "reflectlite.Value.Len" 0) Extern.ReflectliteValue.len) (by kernel_rfl),
  hl _ _ (by simp)]
 simp only[Result.andThen];rw[Oper.upon_value]
 go_wp2_with (go_at_call 154;refine(hc _ _).mono ?_;rintro e w' ⟨rfl,hR⟩)
 go_end0
 exact⟨rfl,hR⟩
theorem Ud (lt:γ->γ->Bool) (l:List γ) (n:Nat) (hn:n<=1):CU lt l (n:Int)=some l:=by
 unfold CU;rw[Ax];simp only[CI];rw[Ah (by omega:¬(20:Int)<=(n:Int)),Ad];simp only[Aa,B4];rw[Ax];simp only[AS];rw[Ah (by rw[show ad 0 1=1 from rfl];omega:¬(ad 0 1)<(n:Int)),Ad];simp only[Aa];rw[Ax];simp only[Dd];rw[Ah (by omega:¬(20:Int)<(n:Int)),Ad];rfl
theorem VI {cap:Array Value} (hg:∀(args:Array Value) (w:Go.World),(callFunc g args).run P w= .ok (.enter g args) w):Ik (γ:=Empty) P (λ_=>A) (λ_ _=>false) g cap:=⟨hg,λ_ _ _ x=>nomatch x⟩
theorem Vv {cap:Array Value}:Mn (γ:=Empty) P (λ_=>A) g cap:=λ_ _ _ x=>nomatch x
theorem S8 {enc : γ → List TV} {t e sz a : Nat} (d : ∀ x, (enc x).length = sz) (h : CU lt l (ln l) = some r) (i ie : TypeInfo) (hi : prog.info? t = some i) (hd : i.desc = .slice e) (s : prog.packed t = false) (j : prog.info? e = some ie) (ke : Nat) (u : ∀ w, (Extern.Rtype.kind e).run prog w = .ok ke w) (a2 : ie.size = sz) (y : ∀ w, (isAgg e).run prog w = .ok true w) (hg : ∀ (args : Array Value) (w : Go.World), (callFunc a args).run prog w = .ok (.enter a args) w) (a3 : ∀ n, ∃ f, prog.funcs.findIdx? (·.name == "internal/reflectlite" ++ ".Swapper$" ++ toString (swapperK n ie ke)) = some f ∧ (2 ≤ n → 2 < swapperK n ie ke ∧ ∃ gS : Bool, ∀ args W, (callFunc f args).run prog W = ((Extern.ReflectliteSwapper.swap gS args).run prog W).andThen fun v w' => .ok (.value v) w')) (m : ∀ (n b g cap : Nat) (T : TypeId), b ≠ g → Ik prog (Mk n b g cap e T sz enc) lt a #[.pointer (some ⟨b, 0, none⟩)]) : S2 prog 95 t e sz enc a l r := by
 intro w b v T hb z a4;have h7:b<w.heap.size:=by
  rcases EU b w.heap.size with q|q
  ·exact q
  rw[Es q]at hb;cases hb
 obtain⟨f,hf,h8⟩:=a3 l.length
 have small:∀p n c,l.length<=1->v= .slice p n c->n=l.length->(∀b∈B5 v,b<w.heap.size)->Calls prog 95 #[.iface t v,.func (.func a) #[] #[.pointer<|some ⟨b,0,none⟩]] w λr' w'=>r'= .returned (.tuple #[])/\Gb w w' (b::B5 v)/\w'.heap[b]?=some (.cells #[v] T (0,0))/\w'.ownsRow 0 e sz v r.length ((A8 enc r).map TV.val):=by
  rintro p n c h1 rfl rfl a5;have hr:r=l:=by
   have:=Ud lt l l.length h1;have e1:ln l=(l.length:Int):=rfl;rw[e1,this]at h
   injection h with h
   exact h.symm
  subst hr;have hA:=MY (VI (A:=sQ b (.slice p r.length c) T e sz r.length<|(A8 enc r).map TV.val) (cap:= #[.pointer<|some ⟨b,0,none⟩]) hg) (Vv (g:=f) (cap:=if swapperK r.length ie ke<=2 then #[]else #[.slice p r.length c,typeHandle prog e])) (λ_ _=>⟨rfl,rfl⟩) [] (r.length:Int) []<|Ud _ _ _ h1
  exact MZ t e i ie hi hd s j ke u p r.length c f hf _ _ _ _ _ _ rfl hA w ⟨hb,z⟩ (λk hk=>by
   rcases Gi.1 hk with rfl|hk
   ·exact h7
   exact a5 k hk)
 rcases z.2 with⟨rfl,h0⟩|⟨g,cap,a6,rfl,h1,h2,h3,h4,h5,h6⟩
 ·exact small none 0 0 (by omega) rfl h0.symm<|by simp[B5,Value.ownBlock]
 have h9:g<w.heap.size:=by
  rcases EU g w.heap.size with q|q
  ·exact q
  rw[Es q]at h2;cases h2
 by_cases hn:l.length<=1
 ·exact small (some ⟨g,0,none⟩) l.length cap hn rfl rfl<|by simpa[B5,Value.ownBlock]using h9
 obtain⟨a9,gS,hx⟩:=h8 (by omega);have a0:b≠g:=by simpa[B5,Value.ownBlock]using a4
 have hA:=MY (m l.length b g cap T a0) (XW d l.length gS hx j a2 y (b:=b) (g:=g) (cap:=cap) (T:=T)) (λ_ _=>⟨rfl,rfl⟩) l (l.length:Int) r h;have a1:nA l.length b g cap e T sz enc w l:=⟨a0,rfl,hb,⟨a6,h2,h5,h6⟩,h3,h4⟩;refine Calls.mono (MZ t e i ie hi hd s j ke u (some ⟨g,0,none⟩) l.length cap f hf _ _ _ _ _ _ (by rw[Bi<|by omega]) hA w a1 λk hk=>?_) ?_
 ·have:k=b\/k=g:=by simpa[Mk]using hk
  rcases this with rfl|rfl
  ·exact h7
  exact h9
 rintro r' w' ⟨rfl,a7,hI⟩;obtain⟨_,o,a8,⟨cur',c1,c2,c3⟩,c4,c5⟩:=(show nA l.length b g cap e T sz enc w' r from hI);refine⟨rfl,a7,by rw[<-o];exact a8,by rw[By];exact Ep d r,.inr ⟨g,cap,cur',by rw[<-o],h1,c1,by rw[o];exact h3,h4,c2,c3⟩⟩
theorem p9 {n:Int} (h:VG n=some v) (w:Go.World):Calls prog 237 #[.int .u64 n] w λe w'=>e= .returned (.int .i64 v)/\w'.os=w.os/\w'.tape=w.tape/\w'.output=w.output/\w.heap.size<=w'.heap.size/\∀b,b<w.heap.size->w'.heap[b]?=w.heap[b]? :=by
 have:=yZ n v h w [.int .u64 n] [] [] ⟨_,_,[],[],[],[],rfl,rfl,rfl,⟨by simp[Dl],rfl⟩,rfl,rfl,rfl⟩ Ds (by simp) (by simp);refine this.mono ?_;rintro e w' ⟨x,F,U,G,V,rfl,hl⟩;refine⟨?_,hl.os,hl.tape,hl.output,hl.size,λb hb=>hl.keep b hb<|by simp⟩;have:=hl.res;simp only[i8,Dl]at this;rw[this.1.1]
theorem Mw (t e : TypeId) (i ie : TypeInfo) (hi : prog.info? t = some i) (hd : i.desc = .slice e) (j : prog.packed t = false) (k : prog.info? e = some ie) (ke : Nat) (l : ∀ w, (Extern.Rtype.kind e).run prog w = .ok ke w) (p : Option Addr) (n c : Nat) (f : Nat) (hf : prog.funcs.findIdx? (·.name == "internal/reflectlite" ++ ".Swapper$" ++ toString (swapperK n ie ke)) = some f) (lf : Fn) (la lb : Array Value) (A A' : QD) (sb : Array Value) (d : sb = if swapperK n ie ke ≤ 2 then #[] else #[.slice p n c, typeHandle prog e]) (hv : VG (IntKind.u64.wrap (n : Int)) = some v) (hp : Mq prog 238 A [.sv (.agg [.fn lf la lb, .fn (.func f) #[] sb]), .sv (.one (.int .i64 0)), .sv (.one (.int .i64 n)), .sv (.one (.int .i64 v))] A') (w : Go.World) (hA : A.I w) (hB : ∀ b ∈ A.B, b < w.heap.size) :
  Calls prog 194 #[.iface t (.slice p n c),.func lf la lb] w λe w'=>e= .returned (.tuple #[])/\Gb w w' A.B/\A'.I w':=by
 have g:=run_valueOf_slice (P:=prog) t e i hi hd p n c w
 have hs:=λw=>run_swapper_slice (P:=prog) t e i ie hi hd k ke l p n c f hf w
 have hl:=λa w ha=>run_valueLen_slice (P:=prog) t e i hi hd j a p n c w ha
 rw[<-d]at hs
 have hc:∀W:Go.World,W.os=w.os->W.tape=w.tape->W.output=w.output->w.heap.size<=W.heap.size->(∀b,b<w.heap.size->W.heap[b]?=w.heap[b]?)->Calls prog 238 #[.agg #[.func lf la lb,.func (.func f) #[] sb],.int .i64 0,.int .i64 n,.int .i64 v] W λe w'=>e= .returned (.tuple #[])/\Gb w w' A.B/\A'.I w':=by
  intro W h1 h2 h3 h4 h5;have:=hp W [.agg #[.func lf la lb,.func (.func f) #[] sb],.int .i64 0,.int .i64 n,.int .i64 v] ⟨_,_,[],[],[],[],rfl,rfl,rfl,⟨[.func lf la lb,.func (.func f) #[] sb],rfl,⟨_,_,[],[],[],[],rfl,rfl,rfl,⟨rfl,rfl,rfl⟩,_,_,[],[],[],[],rfl,rfl,rfl,⟨rfl,rfl,rfl⟩,rfl,rfl,rfl⟩⟩,⟨_,_,[],[],[],[],rfl,rfl,rfl,⟨by simp[Dl],rfl⟩,⟨_,_,[],[],[],[],rfl,rfl,rfl,⟨by simp[Dl],rfl⟩,⟨_,_,[],[],[],[],rfl,rfl,rfl,⟨by simp[Dl],rfl⟩,⟨rfl,rfl,rfl⟩⟩⟩⟩⟩
   (λb hb=>by have:=hB b hb;omega) (A.st _ _ hA λb hb=>h5 b<|hB b hb)
  refine this.mono ?_;rintro e w' ⟨rfl,hb,hI⟩;refine⟨rfl,⟨hb.os.trans h1,hb.tape.trans h2,hb.output.trans h3,IX h4 hb.size,?_⟩,hI⟩;intro b k1 k2;rw[hb.keep b (by omega) k2,h5 b k1]
 have h:=p9 hv
 have k1:∀x y,∀b,b<w.heap.size->((w.alloc x).alloc y).heap[b]?=w.heap[b]? :=λx y b hb=>by
  rw[Below.heap_alloc _ _ _ (by simp;omega),Below.heap_alloc _ _ _ hb]
 clear hp d hA hB hf hv;simp only[typeHandle,show prog.globals.size=0 from rfl]at g hl
 go_enter func194,ntmps194
 go_wp2
 rw[run_callFunc_extern func152 (by kernel_rfl) (by kernel_rfl) (by kernel_rfl) (e:=λargs=>Extern.ReflectliteValue.unpack<|args.getD 0<|.tuple #[]) (by kernel_rfl),
  show Sem.run prog ((λargs:Array Value=>Extern.ReflectliteValue.unpack<|args.getD 0<|.tuple #[]) #[.iface t<|.slice p n c]) w=_ from g]
 simp only[Result.andThen];rw[Oper.upon_value]
 go_wp2
 rw[run_callFunc_extern func153 (by kernel_rfl) (by kernel_rfl) (by kernel_rfl) (e := Extern.ReflectliteSwapper.swapper "internal/reflectlite" (Extern.ReflectliteValue.valueError "Swapper")) (by kernel_rfl), hs];simp only[Result.andThen];rw[Oper.upon_value]
 go_wp2
 rw[run_callFunc_extern func155 (by kernel_rfl) (by kernel_rfl) (by kernel_rfl) (e := Extern.ReflectliteValue.method (Extern.ReflectliteValue.valueError "reflectlite.Value.Len" 0) Extern.ReflectliteValue.len) (by kernel_rfl),
  hl _ _ (by simp)]
 simp only[Result.andThen];rw[Oper.upon_value]
 go_wp2_with (go_at_call 237;refine(h _).mono ?_;rintro e w1 ⟨rfl,g1,g2,g3,g4,g5⟩)
 go_wp2_with (go_at_call 238;refine(hc w1 g1 g2 g3 (IX (by simp;omega) g4) λb hb=>(g5 b (by simp;omega)).trans<|k1 _ _ b hb).mono ?_;rintro e w2 ⟨rfl,hR⟩)
 go_end0
 exact⟨rfl,hR⟩
theorem V9 (lt:γ->γ->Bool) (l:List γ) (n:Nat) (v:Int) (hn:n<=1):Et lt l 0 (n:Int) v=some l:=by
 have e1:sb (n:Int) 0=n:=by rw[show sb (n:Int) 0=IntKind.i64.wrap ((n:Int)-0)from rfl];rcases Nat.le_one_iff_eq_zero_or_eq_one.1 hn with rfl|rfl<;>rfl
 unfold Et;rw[Ax];simp only[FC,e1];rw[Ac (by omega:(n:Int)<=12),Al];simp only[B4];rw[Ax];simp only[AS];rw[Ah (by rw[show ad 0 1=1 from rfl];omega:¬(ad 0 1)<(n:Int)),Ad];rfl
theorem Ug (h:KH lt l=some r) (hn:l.length<=1):r=l:=by
 unfold KH at h;obtain⟨v,_,h⟩:=Ag.1 h;rw[show ln l=(l.length:Int)from rfl,V9 lt l l.length v hn]at h
 injection h with h
 exact h.symm
theorem ZU {enc : γ → List TV} {t e sz a : Nat} (d : ∀ x, (enc x).length = sz) (h : KH lt l = some r) (i ie : TypeInfo) (hi : prog.info? t = some i) (hd : i.desc = .slice e) (u : prog.packed t = false) (j : prog.info? e = some ie) (ke : Nat) (y : ∀ w, (Extern.Rtype.kind e).run prog w = .ok ke w) (a3 : ie.size = sz) (z : ∀ w, (isAgg e).run prog w = .ok true w) (hg : ∀ (args : Array Value) (w : Go.World), (callFunc a args).run prog w = .ok (.enter a args) w) (a4 : ∀ n, ∃ f, prog.funcs.findIdx? (·.name == "internal/reflectlite" ++ ".Swapper$" ++ toString (swapperK n ie ke)) = some f ∧ (2 ≤ n → 2 < swapperK n ie ke ∧ ∃ gS : Bool, ∀ args W, (callFunc f args).run prog W = ((Extern.ReflectliteSwapper.swap gS args).run prog W).andThen fun v w' => .ok (.value v) w')) (o : ∀ (n b g cap : Nat) (T : TypeId), b ≠ g → Ik prog (Mk n b g cap e T sz enc) lt a #[.pointer (some ⟨b, 0, none⟩)]) : S2 prog 194 t e sz enc a l r := by
 intro w b v T hb h7 a5;have h8:b<w.heap.size:=by
  rcases EU b w.heap.size with q|q
  ·exact q
  rw[Es q]at hb;cases hb
 obtain⟨f,hf,h9⟩:=a4 l.length;have h0:=h;unfold KH at h;obtain⟨m,hm,h⟩:=Ag.1 h;rw[show ln l=(l.length:Int)from rfl]at hm h
 have small:∀p n c,l.length<=1->v= .slice p n c->n=l.length->(∀b∈B5 v,b<w.heap.size)->Calls prog 194 #[.iface t v,.func (.func a) #[] #[.pointer<|some ⟨b,0,none⟩]] w λr' w'=>r'= .returned (.tuple #[])/\Gb w w' (b::B5 v)/\w'.heap[b]?=some (.cells #[v] T (0,0))/\w'.ownsRow 0 e sz v r.length ((A8 enc r).map TV.val):=by
  rintro p n c h1 rfl rfl a6;have hr:r=l:=Ug h0 h1;subst hr;have hA:=Gg (VI (A:=sQ b (.slice p r.length c) T e sz r.length<|(A8 enc r).map TV.val) (cap:= #[.pointer<|some ⟨b,0,none⟩]) hg) (Vv (g:=f) (cap:=if swapperK r.length ie ke<=2 then #[]else #[.slice p r.length c,typeHandle prog e])) (λ_ _=>⟨rfl,rfl⟩) [] 0 (r.length:Int) m []<|V9 _ _ _ _ h1
  exact Mw t e i ie hi hd u j ke y p r.length c f hf _ _ _ _ _ _ rfl hm hA w ⟨hb,h7⟩ (λk hk=>by
   rcases Gi.1 hk with rfl|hk
   ·exact h8
   exact a6 k hk)
 rcases h7.2 with⟨rfl,h0⟩|⟨g,cap,a7,rfl,h1,h2,h3,h4,h5,h6⟩
 ·exact small none 0 0 (by omega) rfl h0.symm<|by simp[B5,Value.ownBlock]
 have a0:g<w.heap.size:=by
  rcases EU g w.heap.size with q|q
  ·exact q
  rw[Es q]at h2;cases h2
 by_cases hn:l.length<=1
 ·exact small (some ⟨g,0,none⟩) l.length cap hn rfl rfl<|by simpa[B5,Value.ownBlock]using a0
 obtain⟨b0,gS,hx⟩:=h9 (by omega);have a1:b≠g:=by simpa[B5,Value.ownBlock]using a5
 have hA:=Gg (o l.length b g cap T a1) (XW d l.length gS hx j a3 z (b:=b) (g:=g) (cap:=cap) (T:=T)) (λ_ _=>⟨rfl,rfl⟩) l 0 (l.length:Int) m r h;have a2:nA l.length b g cap e T sz enc w l:=⟨a1,rfl,hb,⟨a7,h2,h5,h6⟩,h3,h4⟩;refine Calls.mono (Mw t e i ie hi hd u j ke y (some ⟨g,0,none⟩) l.length cap f hf _ _ _ _ _ _ (by rw[Bi<|by omega]) hm hA w a2 λk hk=>?_) ?_
 ·have:k=b\/k=g:=by simpa[Mk]using hk
  rcases this with rfl|rfl
  ·exact h8
  exact a0
 rintro r' w' ⟨rfl,a8,hI⟩;obtain⟨_,s,a9,⟨cur',c1,c2,c3⟩,c4,c5⟩:=(show nA l.length b g cap e T sz enc w' r from hI);refine⟨rfl,a8,by rw[<-s];exact a9,by rw[By];exact Ep d r,.inr ⟨g,cap,cur',by rw[<-s],h1,c1,by rw[s];exact h3,h4,c2,c3⟩⟩
theorem Yd {enc : γ → List TV} {t e sz j : Nat} (o : ∀ x, (enc x).length = sz) (h : KH lt l = some r) (i ie : TypeInfo) (hi : prog.info? t = some i) (hd : i.desc = .slice e) (h7 : prog.packed t = false) (u : prog.info? e = some ie) (ke : Nat) (h8 : ∀ w, (Extern.Rtype.kind e).run prog w = .ok ke w) (a9 : ie.size = sz) (h9 : ∀ w, (isAgg e).run prog w = .ok true w) (hg : ∀ (args : Array Value) (w : Go.World), (callFunc j args).run prog w = .ok (.enter j args) w) (b0 : ∀ n, ∃ f, prog.funcs.findIdx? (·.name == "internal/reflectlite" ++ ".Swapper$" ++ toString (swapperK n ie ke)) = some f ∧ (2 ≤ n → 2 < swapperK n ie ke ∧ ∃ gS : Bool, ∀ args W, (callFunc f args).run prog W = ((Extern.ReflectliteSwapper.swap gS args).run prog W).andThen fun v w' => .ok (.value v) w')) (y : ∀ (n c b g cap : Nat) (T T' : TypeId) (rest : List Value), b ≠ g → c ≠ g → c ≠ b → Ik prog (Hv n c b g cap e T T' sz rest enc) lt j #[.pointer (some ⟨c, 0, none⟩)]) : Vh prog 194 t e sz enc j l r := by
 intro w d b v rest T T' a hb a0 b1 b2 a1;have s:d<w.heap.size:=by
  rcases EU d w.heap.size with q|q
  ·exact q
  rw[Es q]at a;cases a
 have a2:b<w.heap.size:=by
  rcases EU b w.heap.size with q|q
  ·exact q
  rw[Es q]at hb;cases hb
 obtain⟨f,hf,a3⟩:=b0 l.length;have h0:=h;unfold KH at h;obtain⟨m,hm,h⟩:=Ag.1 h;rw[show ln l=(l.length:Int)from rfl]at hm h
 have small:∀p n c,l.length<=1->v= .slice p n c->n=l.length->(∀b∈B5 v,b<w.heap.size)->Calls prog 194 #[.iface t v,.func (.func j) #[] #[.pointer<|some ⟨d,0,none⟩]] w λr' w'=>r'= .returned (.tuple #[])/\Gb w w' (d::b::B5 v)/\w'.heap[d]?=w.heap[d]? /\w'.heap[b]?=w.heap[b]? /\w'.ownsRow 0 e sz v r.length ((A8 enc r).map TV.val):=by
  rintro p n c h1 rfl rfl b3;have hr:r=l:=Ug h0 h1;subst hr;have hA:=Gg (VI (A:=zJ d b (.slice p r.length c) rest T T' e sz r.length<|(A8 enc r).map TV.val) (cap:= #[.pointer<|some ⟨d,0,none⟩]) hg) (Vv (g:=f) (cap:=if swapperK r.length ie ke<=2 then #[]else #[.slice p r.length c,typeHandle prog e])) (λ_ _=>⟨rfl,rfl⟩) [] 0 (r.length:Int) m []<|V9 _ _ _ _ h1
  refine Calls.mono (Mw t e i ie hi hd h7 u ke h8 p r.length c f hf _ _ _ _ _ _ rfl hm hA w ⟨a,hb,a0⟩ (λk hk=>by
   rcases Gi.1 hk with rfl|hk
   ·exact s
   rcases Gi.1 hk with rfl|hk
   ·exact a2
   exact b3 k hk)) ?_
  rintro r' w' ⟨rfl,z,q1,q2,q3⟩;exact⟨rfl,z,by rw[q1,a],by rw[q2,hb],q3⟩
 rcases a0.2 with⟨rfl,h0⟩|⟨g,cap,b4,rfl,h1,h2,h3,h4,h5,h6⟩
 ·exact small none 0 0 (by omega) rfl h0.symm<|by simp[B5,Value.ownBlock]
 have a4:g<w.heap.size:=by
  rcases EU g w.heap.size with q|q
  ·exact q
  rw[Es q]at h2;cases h2
 by_cases hn:l.length<=1
 ·exact small (some ⟨g,0,none⟩) l.length cap hn rfl rfl<|by simpa[B5,Value.ownBlock]using a4
 obtain⟨b7,gS,hx⟩:=a3 (by omega);have a5:b≠g:=by simpa[B5,Value.ownBlock]using b1
 have a6:d≠g:=by simpa[B5,Value.ownBlock]using b2
 have hA:=Gg (y l.length d b g cap T T' rest a5 a6 a1) (jH o l.length gS hx u a9 h9 (c:=d) (b:=b) (g:=g) (cap:=cap) (T:=T) (T':=T') (rest:=rest)) (λ_ _=>⟨rfl,rfl⟩) l 0 (l.length:Int) m r h;have a7:ZH l.length d b g cap e T T' sz rest enc w l:=⟨⟨a5,a6,a1⟩,rfl,a,hb,⟨b4,h2,h5,h6⟩,h3,h4⟩;refine Calls.mono (Mw t e i ie hi hd h7 u ke h8 (some ⟨g,0,none⟩) l.length cap f hf _ _ _ _ _ _ (by rw[Bi<|by omega]) hm hA w a7 λk hk=>?_) ?_
 ·have:k=d\/k=b\/k=g:=by simpa[Hv]using hk
  rcases this with rfl|rfl|rfl
  ·exact s
  ·exact a2
  exact a4
 rintro r' w' ⟨rfl,z,hI⟩;obtain⟨_,a8,b5,b6,⟨cur',c1,c2,c3⟩,c4,c5⟩:=(show ZH l.length d b g cap e T T' sz rest enc w' r from hI);refine⟨rfl,z,by rw[b5,a],by rw[b6,hb],by rw[By];exact Ep o r,.inr ⟨g,cap,cur',by rw[<-a8],h1,c1,by rw[a8];exact h3,h4,c2,c3⟩⟩
end Go.TI
