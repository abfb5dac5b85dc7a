/- Sorting. No condition. -/
import Derived.Test.YtmjoddpjpkneeaaGreatSALY
import Derived.Test.YtmjoddpjpkneeaaGreatProg
import Derived.Lib.ReflectliteSlice
import Derived.WalkKit
import Derived.Below
import Derived.KernelRfl
import Derived.Shelf.Abstract
set_option maxRecDepth 100000
set_option maxHeartbeats 1000000
set_option linter.unusedVariables false
set_option linter.unusedSimpArgs false
namespace Go.TI
open Go Go.Proofs Go.Proofs.Tryz
variable {γ:Type} {g sf:FuncId} {capL capS:Array Value} {P:Program} {A:KC} {v:Int} {lt:γ->γ->Bool} {Am:List γ->KC} {l:List γ} {r:List γ}
theorem EB (b:G0 prog Am lt g capL) (a:I3 prog Am sf capS) (hB:∀l l',(Am l).B=(Am l').B/\(Am l).pin=none) (xL:List γ) (xA:Int) (xB:Int) (xN:Int) (r:List γ) (h:BO lt xL xA xB xN=some r):I5 prog 196 (Am xL) [.sv (.agg [.fn (.func g) #[] capL,.fn (.func sf) #[] capS]),.sv (I xA),.sv (I xB),.sv (I xN)] (Am r):=by
 unfold BO at h;exact pQ func196 ntmps196 hB<|ws<|w0<|g0<|Hm h (λs=>M4 [(1,I xA),(2,I xB),(3,I xN),(4,.one<|.ptr (.box 4) 0 [] 0),(8,I s.1)] [(.box 4,[.fn (.func g) #[] capL,.fn (.func sf) #[] capS])]<|Am s.2) (λs=>M4 [] []<|Am s) (by rintro⟨c,d⟩ o (h:Cy lt xA xB xN c d=some o);exact qw<|wc h (λh=>qd<|qr<|rk 8<|dO a hB h λv1 h=>RW.nil<|qr<|g0<|el h) λh=>qx<|ev h) λv2 h E hE=>lE h hE
theorem O9 (a:G0 prog Am lt g capL) (b:I3 prog Am sf capS) (hB:∀l l',(Am l).B=(Am l').B/\(Am l).pin=none) (xL:List γ) (xA:Int) (xM:Int) (xB:Int) (r:List γ) (h:De lt xL xA xM xB=some r):I5 prog 181 (Am xL) [.sv (.agg [.fn (.func g) #[] capL,.fn (.func sf) #[] capS]),.sv (I xA),.sv (I xM),.sv (I xB)] (Am r):=by
 unfold De at h;exact pQ func181 ntmps181 hB<|ws<|w0<|w0<|g0<|nC h (λs=>M4 [(2,I xM),(4,.one<|.ptr (.box 4) 0 [] 0),(8,I s.1),(9,I s.2.1)] [(.box 4,[.fn (.func g) #[] capL,.fn (.func sf) #[] capS])]<|Am s.2.2) (λs=>M4 [(2,I xM),(4,.one<|.ptr (.box 4) 0 [] 0),(8,I s.1)] [(.box 4,[.fn (.func g) #[] capL,.fn (.func sf) #[] capS])]<|Am s.2) (by rintro⟨c,d,e⟩ o (h:CQ lt xM c d e=some o);exact qw<|wc h (λh=>qk<|qb<|wg<|wc h (λh=>ws<|rk 6<|Ni h hB (EB a b hB _ _ _ _) λv1 h=>RW.nil<|qr<|g0<|el h) λh=>ws<|rk 10<|Ni h hB (EB a b hB _ _ _ _) λv2 h=>RW.nil<|qr<|g0<|el h) λh=>qx<|ev h) λv3 h=>qr<|rk 6<|Ni h hB (EB a b hB _ _ _ _) λv4 h=>RW.nil<|ra h
theorem Dr (c:G0 prog Am lt g capL) (d:I3 prog Am sf capS) (hB:∀l l',(Am l).B=(Am l').B/\(Am l).pin=none) (xL:List γ) (xA:Int) (xB:Int) (r:List γ) (h:Be lt xL xA xB=some r):I5 prog 164 (Am xL) [.sv (.agg [.fn (.func g) #[] capL,.fn (.func sf) #[] capS]),.sv (I xA),.sv (I xB)] (Am r):=by
 unfold Be at h;exact pQ func164 ntmps164 hB<|ws<|w0<|g0<|Hm h (λs=>M4 [(1,I xA),(2,I xB),(3,.one<|.ptr (.box 3) 0 [] 0),(6,I s.1)] [(.box 3,[.fn (.func g) #[] capL,.fn (.func sf) #[] capS])]<|Am s.2) (λs=>M4 [] []<|Am s) (by rintro⟨b,i⟩ o (h:AD lt xA xB b i=some o);exact qw<|wc h (λh=>qd<|wg<|Hm h (λs=>M4 [(1,I xA),(2,I xB),(3,.one<|.ptr (.box 3) 0 [] 0),(6,I b),(7,I s.1)] [(.box 3,[.fn (.func g) #[] capL,.fn (.func sf) #[] capS])]<|Am s.2) (λs=>M4 [(1,I xA),(2,I xB),(3,.one<|.ptr (.box 3) 0 [] 0),(6,I b)] [(.box 3,[.fn (.func g) #[] capL,.fn (.func sf) #[] capS])]<|Am s) (by rintro⟨e,f⟩ o (h:AH lt xA e f=some o);exact qs<|EP h (λa=>M4 [(1,I xA),(2,I xB),(3,.one<|.ptr (.box 3) 0 [] 0),(6,I b),(7,I e),(26,B a)] [(.box 3,[.fn (.func g) #[] capL,.fn (.func sf) #[] capS])]<|Am f) (λa h=>qr<|Cl 4 19 h (λh=>rk 5<|dP c h λv1 h=>g0<|en h) λh=>g0<|en h) λj1 h=>wc h (λh=>qd<|qr<|rk 5<|dO d hB h λv2 h=>RW.nil<|qr<|g0<|el h) λh=>qx<|ev h) λv3 h E hE=>Av hE<|qr<|g0<|el h) λh=>qx<|ev h) λv4 h E hE=>lE h hE
theorem EX (b:G0 prog Am lt g capL) (c:I3 prog Am sf capS) (hB:∀l l',(Am l).B=(Am l').B/\(Am l).pin=none):∀(n:Nat) (xL:List γ) (xA:Int) (xM:Int) (xB:Int) (r:List γ) (h:B9 lt n xL xA xM xB=some r),I5 prog 165 (Am xL) [.sv (.agg [.fn (.func g) #[] capL,.fn (.func sf) #[] capS]),.sv (I xA),.sv (I xM),.sv (I xB)] (Am r)
 |0,xL,xA,xM,xB,r,h=>by cases h
 |n+1,xL,xA,xM,xB,r,h=>by
  have ih:=EX b c hB n;rw[B9]at h;exact pQ func165 ntmps165 hB<|wg<|qw<|wc h (λh=>ws<|w0<|g0<|nC h (λs=>M4 [(1,I xA),(4,.one<|.ptr (.box 4) 0 [] 0),(8,I s.1),(9,I s.2)] [(.box 4,[.fn (.func g) #[] capL,.fn (.func sf) #[] capS])]<|Am xL) (λs=>M4 [(1,I xA),(4,.one<|.ptr (.box 4) 0 [] 0),(8,I s)] [(.box 4,[.fn (.func g) #[] capL,.fn (.func sf) #[] capS])]<|Am xL) (by rintro⟨e,f⟩ o (h:C5 lt xL xA e f=some o);exact qw<|wc h (λh=>qk<|qb<|ws<|w0<|rk 4<|dP b h λv1 h=>RW.nil<|wc h (λh=>qr<|g0<|el h) λh=>qr<|g0<|el h) λh=>qx<|ev h) λv2 h=>qw<|Hm h (λs=>M4 [(4,.one<|.ptr (.box 4) 0 [] 0),(8,I v2),(11,I s.1)] [(.box 4,[.fn (.func g) #[] capL,.fn (.func sf) #[] capS])]<|Am s.2) (λs=>M4 [] []<|Am s) (by rintro⟨i,j⟩ o (h:Cg lt v2 i j=some o);exact qw<|wc h (λh=>qd<|qr<|rk 5<|dO c hB h λv3 h=>RW.nil<|qr<|g0<|el h) λh=>qx<|ev h) λv4 h E hE=>Av hE<|qt<|ra h) λh=>qk<|qw<|wc h (λh=>ws<|w0<|g0<|nC h (λs=>M4 [(2,I xM),(4,.one<|.ptr (.box 4) 0 [] 0),(12,I s.1),(13,I s.2)] [(.box 4,[.fn (.func g) #[] capL,.fn (.func sf) #[] capS])]<|Am xL) (λs=>M4 [(2,I xM),(4,.one<|.ptr (.box 4) 0 [] 0),(12,I s)] [(.box 4,[.fn (.func g) #[] capL,.fn (.func sf) #[] capS])]<|Am xL) (by rintro⟨k,m⟩ o (h:C4 lt xL xM k m=some o);exact qw<|wc h (λh=>qk<|qb<|ws<|w0<|rk 4<|dP b h λv5 h=>g0<|wc h (λh=>qr<|g0<|el h) λh=>qr<|g0<|el h) λh=>qx<|ev h) λv6 h=>qw<|Hm h (λs=>M4 [(4,.one<|.ptr (.box 4) 0 [] 0),(12,I v6),(15,I s.1)] [(.box 4,[.fn (.func g) #[] capL,.fn (.func sf) #[] capS])]<|Am s.2) (λs=>M4 [] []<|Am s) (by rintro⟨p,q⟩ o (h:Cf lt v6 p q=some o);exact qw<|wc h (λh=>qd<|qr<|rk 5<|dO c hB h λv7 h=>RW.nil<|qr<|g0<|el h) λh=>qx<|ev h) λv8 h E hE=>Av hE<|qt<|ra h) λh=>qk<|ws<|w0<|w0<|g0<|qw<|dG h (λa=>M4 [(1,I xA),(2,I xM),(3,I xB),(4,.one<|.ptr (.box 4) 0 [] 0),(16,I<|IntKind.i64.wrap<|Int.fdiv (IntKind.u64.wrap<|ad xA xB)<|2^(min (1:Int).toNat IntKind.u64.bits)),(17,I<|ad (IntKind.i64.wrap<|Int.fdiv (IntKind.u64.wrap<|ad xA xB)<|2^(min (1:Int).toNat IntKind.u64.bits)) xM),(18,I a.1),(19,I a.2)] [(.box 4,[.fn (.func g) #[] capL,.fn (.func sf) #[] capS])]<|Am xL) (λa h=>wc h (λh=>wg<|qr<|g0<|en h) λh=>wg<|qr<|g0<|en h) λj1 h E hE=>Av hE<|wg<|nC h (λs=>M4 [(1,I xA),(2,I xM),(3,I xB),(4,.one<|.ptr (.box 4) 0 [] 0),(16,I<|IntKind.i64.wrap<|Int.fdiv (IntKind.u64.wrap<|ad xA xB)<|2^(min (1:Int).toNat IntKind.u64.bits)),(17,I<|ad (IntKind.i64.wrap<|Int.fdiv (IntKind.u64.wrap<|ad xA xB)<|2^(min (1:Int).toNat IntKind.u64.bits)) xM),(18,I s.1),(19,I s.2),(20,I<|sb (ad (IntKind.i64.wrap<|Int.fdiv (IntKind.u64.wrap<|ad xA xB)<|2^(min (1:Int).toNat IntKind.u64.bits)) xM) 1)] [(.box 4,[.fn (.func g) #[] capL,.fn (.func sf) #[] capS])]<|Am xL) (λs=>M4 [(1,I xA),(2,I xM),(3,I xB),(4,.one<|.ptr (.box 4) 0 [] 0),(16,I<|IntKind.i64.wrap<|Int.fdiv (IntKind.u64.wrap<|ad xA xB)<|2^(min (1:Int).toNat IntKind.u64.bits)),(17,I<|ad (IntKind.i64.wrap<|Int.fdiv (IntKind.u64.wrap<|ad xA xB)<|2^(min (1:Int).toNat IntKind.u64.bits)) xM),(18,I s)] [(.box 4,[.fn (.func g) #[] capL,.fn (.func sf) #[] capS])]<|Am xL) (by rintro⟨d,t⟩ o (h:C3 lt xL xA xM xB d t=some o);exact qw<|wc h (λh=>qk<|qb<|ws<|w0<|rk 6<|dP b h λv9 h=>g0<|wc h (λh=>qr<|g0<|el h) λh=>qr<|g0<|el h) λh=>qx<|ev h) λv10 h=>wg<|qs<|EP h (λa=>M4 [(1,I xA),(2,I xM),(3,I xB),(4,.one<|.ptr (.box 4) 0 [] 0),(16,I<|IntKind.i64.wrap<|Int.fdiv (IntKind.u64.wrap<|ad xA xB)<|2^(min (1:Int).toNat IntKind.u64.bits)),(18,I v10),(22,I<|sb (ad (IntKind.i64.wrap<|Int.fdiv (IntKind.u64.wrap<|ad xA xB)<|2^(min (1:Int).toNat IntKind.u64.bits)) xM) v10),(145,B a)] [(.box 4,[.fn (.func g) #[] capL,.fn (.func sf) #[] capS])]<|Am xL) (λa h=>qr<|Cl 4 141 h (λh=>g0<|en h) λh=>g0<|en h) λj2 h=>dG h (λa=>M4 [(1,I xA),(3,I xB),(4,.one<|.ptr (.box 4) 0 [] 0),(16,I<|IntKind.i64.wrap<|Int.fdiv (IntKind.u64.wrap<|ad xA xB)<|2^(min (1:Int).toNat IntKind.u64.bits)),(18,I v10),(22,I<|sb (ad (IntKind.i64.wrap<|Int.fdiv (IntKind.u64.wrap<|ad xA xB)<|2^(min (1:Int).toNat IntKind.u64.bits)) xM) v10)] [(.box 4,[.fn (.func g) #[] capL,.fn (.func sf) #[] capS])]<|Am a) (λa h=>wc h (λh=>qr<|rk 4<|Ni h hB (O9 b c hB _ _ _ _) λv11 h=>RW.nil<|en h) λh=>qk<|en h) λj3 h E hE=>Av hE<|qs<|EP h (λa=>M4 [(1,I xA),(3,I xB),(4,.one<|.ptr (.box 4) 0 [] 0),(16,I<|IntKind.i64.wrap<|Int.fdiv (IntKind.u64.wrap<|ad xA xB)<|2^(min (1:Int).toNat IntKind.u64.bits)),(18,I v10),(22,I<|sb (ad (IntKind.i64.wrap<|Int.fdiv (IntKind.u64.wrap<|ad xA xB)<|2^(min (1:Int).toNat IntKind.u64.bits)) xM) v10),(158,B a)] [(.box 4,[.fn (.func g) #[] capL,.fn (.func sf) #[] capS])]<|Am j3) (λa h=>qr<|Cl 4 154 h (λh=>g0<|en h) λh=>g0<|en h) λj4 h=>dG h (λa=>M4 [(3,I xB),(4,.one<|.ptr (.box 4) 0 [] 0),(16,I<|IntKind.i64.wrap<|Int.fdiv (IntKind.u64.wrap<|ad xA xB)<|2^(min (1:Int).toNat IntKind.u64.bits)),(22,I<|sb (ad (IntKind.i64.wrap<|Int.fdiv (IntKind.u64.wrap<|ad xA xB)<|2^(min (1:Int).toNat IntKind.u64.bits)) xM) v10)] [(.box 4,[.fn (.func g) #[] capL,.fn (.func sf) #[] capS])]<|Am a) (λa h=>wc h (λh=>qr<|rk 4<|Ni h hB (ih _ _ _ _) λv12 h=>RW.nil<|en h) λh=>qk<|en h) λj5 h E hE=>Av hE<|ws<|Cl 4 167 h (λh=>g0<|wc h (λh=>qr<|rk 4<|Ni h hB (ih _ _ _ _) λv13 h=>RW.nil<|ra h) λh=>qk<|ra h) λh=>g0<|wf<|qk<|ra h
theorem Jj (b:G0 prog Am lt g capL) (c:I3 prog Am sf capS) (hB:∀l l',(Am l).B=(Am l').B/\(Am l).pin=none) (xL:List γ) (xN:Int) (r:List γ) (h:BY lt xL xN=some r):I5 prog 123 (Am xL) [.sv (.agg [.fn (.func g) #[] capL,.fn (.func sf) #[] capS]),.sv (I xN)] (Am r):=by
 unfold BY at h;exact pQ func123 ntmps123 hB<|ws<|w0<|w0<|g0<|nC h (λs=>M4 [(1,I xN),(2,.one<|.ptr (.box 2) 0 [] 0),(4,I 20),(5,I s.1),(6,I s.2.1)] [(.box 2,[.fn (.func g) #[] capL,.fn (.func sf) #[] capS])]<|Am s.2.2) (λs=>M4 [(1,I xN),(2,.one<|.ptr (.box 2) 0 [] 0),(4,I 20),(5,I s.1)] [(.box 2,[.fn (.func g) #[] capL,.fn (.func sf) #[] capS])]<|Am s.2) (by rintro⟨e,f,i⟩ o (h:BP lt xN e f i=some o);exact qw<|wc h (λh=>qk<|qb<|ws<|rk 3<|Ni h hB (Dr b c hB _ _ _) λv1 h=>RW.nil<|wg<|qr<|g0<|el h) λh=>qx<|ev h) λv2 h=>ws<|rk 3<|Ni h hB (Dr b c hB _ _ _) λv3 h=>RW.nil<|Hm h (λs=>M4 [(1,I xN),(2,.one<|.ptr (.box 2) 0 [] 0),(4,I s.1)] [(.box 2,[.fn (.func g) #[] capL,.fn (.func sf) #[] capS])]<|Am s.2) (λs=>M4 [] []<|Am s) (by rintro⟨a,j⟩ o (h:Cd lt xN a j=some o);exact qw<|wc h (λh=>qk<|qb<|wg<|nC h (λs=>M4 [(1,I xN),(2,.one<|.ptr (.box 2) 0 [] 0),(4,I a),(5,I s.1),(6,I s.2.1)] [(.box 2,[.fn (.func g) #[] capL,.fn (.func sf) #[] capS])]<|Am s.2.2) (λs=>M4 [(1,I xN),(2,.one<|.ptr (.box 2) 0 [] 0),(4,I a),(5,I s.1)] [(.box 2,[.fn (.func g) #[] capL,.fn (.func sf) #[] capS])]<|Am s.2) (by rintro⟨k,m,d⟩ o (h:Cc lt xN a k m d=some o);exact qw<|wc h (λh=>qk<|qb<|ws<|rk 6<|Ni h hB (EX b c hB (List.length d+1) _ _ _ _) λv4 h=>RW.nil<|wg<|qr<|g0<|el h) λh=>qx<|ev h) λv5 h=>qv<|w0<|g0<|wc h (λh=>qr<|rk 4<|Ni h hB (EX b c hB (List.length v5.2+1) _ _ _ _) λv6 h=>RW.nil<|qr<|g0<|el h) λh=>qk<|qr<|g0<|el h) λh=>qx<|ev h) λv7 h E hE=>lE h hE
theorem ZW (xX:Int) (r:Int) (h:SF xX=some r):An prog 192 [.sv (.one (.int .u64 xX))] (I r) (rg 1):=gf func192 ntmps192<|wg<|qw<|dG h (λa=>rs [(0,.one<|.int .u64 a.1),(2,I a.2)] []) (λa h=>wc h (λh=>wg<|qr<|g0<|en h) λh=>qk<|en h) λj1 h E hE=>Av hE<|qw<|dG h (λa=>rs [(0,.one<|.int .u64 a.1),(2,I a.2)] []) (λa h=>wc h (λh=>wg<|qr<|g0<|en h) λh=>qk<|en h) λj2 h E hE=>Av hE<|qw<|dG h (λa=>rs [(0,.one<|.int .u64 a.1),(2,I a.2)] []) (λa h=>wc h (λh=>wg<|qr<|g0<|en h) λh=>qk<|en h) λj3 h E hE=>Av hE<|ws<|rk 3<|bd h λx1 gx1 h=>aq (hD gx1)<|g0<|qt<|rr h▸rq
theorem iI (xX:Int) (r:Int) (h:Q5 xX=some r):An prog 167 [.sv (.one (.int .u64 xX))] (I r) (rg 1):=gf func167 ntmps167<|wg<|qs<|wf<|qk<|ws<|Bx 1 h (ZW _) λv1 h=>g0<|qt<|rr h▸rq
theorem I7 (b:G0 prog Am lt g capL) (c:I3 prog Am sf capS) (hB:∀l l',(Am l).B=(Am l').B/\(Am l).pin=none) (xL:List γ) (xA:Int) (xB:Int) (a:Int) (r:List γ) (h:CN lt xL xA xB a=some r):I5 prog 203 (Am xL) [.sv (.agg [.fn (.func g) #[] capL,.fn (.func sf) #[] capS]),.sv (I xA),.sv (I xB),.sv (I a)] (Am r):=by
 unfold CN at h;exact pQ func203 ntmps203 hB<|ws<|w0<|w0<|g0<|J5 h (λ_=>M4 [(1,I xA),(2,I xB),(4,.one<|.ptr (.box 4) 0 [] 0)] [(.box 4,[.fn (.func g) #[] capL,.fn (.func sf) #[] capS])]<|Am xL) (λ_=>M4 [] []<|Am xL) (by rintro⟨⟩ o (h:D1 lt xL xA xB=some o) hk1;exact qb<|wg<|qw<|wc h (λh=>ws<|rk 3<|Ni h hB (Dr b c hB _ _ _) λv1 h=>RW.nil<|qt<|ra<|jo h hk1) λh=>by cases h) λv2 h E hE=>lE h hE
open Go.Lib Go.RowKit
theorem Jk (t e : TypeId) (i ie : TypeInfo) (hi : prog.info? t = some i) (hd : i.desc = .slice e) (g : prog.packed t = false) (h : prog.info? e = some ie) (ke : Nat) (j : ∀ w, (Extern.Rtype.kind e).run prog w = .ok ke w) (p : Option Addr) (n c : Nat) (f : Nat) (hf : prog.funcs.findIdx? (·.name == "internal/reflectlite" ++ ".Swapper$" ++ toString (swapperK n ie ke)) = some f) (lf : Fn) (la lb : Array Value) (A A' : KC) (sb : Array Value) (d : sb = if swapperK n ie ke ≤ 2 then #[] else #[.slice p n c, typeHandle prog e]) (hp : I5 prog 123 A [.sv (.agg [.fn lf la lb, .fn (.func f) #[] sb]), .sv (.one (.int .i64 n))] A') (w : Go.World) (hA : A.I w) (hB : ∀ b ∈ A.B, b < w.heap.size) :
  Calls prog 84 #[.iface t (.slice p n c),.func lf la lb] w λe w'=>e= .returned (.tuple #[])/\DZ w w' A.B/\A'.I w':=by
 have hv:=run_valueOf_slice (P:=prog) t e i hi hd p n c w
 have hs:=λw=>run_swapper_slice (P:=prog) t e i ie hi hd h ke j p n c f hf w
 have hl:=λa w ha=>run_valueLen_slice (P:=prog) t e i hi hd g a p n c w ha
 rw[<-d]at hs
 have hc:∀x y,Calls prog 123 #[.agg #[.func lf la lb,.func (.func f) #[] sb],.int .i64 n] ((w.alloc x).alloc y) λe w'=>e= .returned (.tuple #[])/\DZ w w' A.B/\A'.I w':=by
  intro x y
  have k1:∀b,b<w.heap.size->((w.alloc x).alloc y).heap[b]?=w.heap[b]? :=λb hb=>by
   rw[Below.heap_alloc _ _ _ (by simp;omega),Below.heap_alloc _ _ _ hb]
  have:=hp ((w.alloc x).alloc y) [.agg #[.func lf la lb,.func (.func f) #[] sb],.int .i64 n] ⟨_,_,[],[],[],[],rfl,rfl,rfl,⟨[.func lf la lb,.func (.func f) #[] sb],rfl,⟨_,_,[],[],[],[],rfl,rfl,rfl,⟨rfl,rfl,rfl⟩,_,_,[],[],[],[],rfl,rfl,rfl,⟨rfl,rfl,rfl⟩,rfl,rfl,rfl⟩⟩,⟨_,_,[],[],[],[],rfl,rfl,rfl,⟨by simp[BU],rfl⟩,⟨rfl,rfl,rfl⟩⟩⟩
   (λb hb=>by have:=hB b hb;simp;omega) (A.st _ _ hA λb hb=>k1 b<|hB b hb)
  refine this.mono ?_;rintro e w' ⟨rfl,hb,hI⟩;refine⟨rfl,⟨hb.os,hb.tape,hb.output,?_,?_⟩,hI⟩
  ·have:=hb.size;simp at this;omega
  intro b h1 h2;rw[hb.keep b (by simp;omega) h2,k1 b h1]
 clear hp d hA hB hf;simp only[typeHandle,show prog.globals.size=0 from rfl]at hv hl
 go_enter func84,ntmps84
 go_wp2
 rw[run_callFunc_extern func121 (by kernel_rfl) (by kernel_rfl) (by kernel_rfl) (e:=λargs=>Extern.ReflectliteValue.unpack<|args.getD 0<|.tuple #[]) (by kernel_rfl),
  show Sem.run prog ((λargs:Array Value=>Extern.ReflectliteValue.unpack<|args.getD 0<|.tuple #[]) #[.iface t<|.slice p n c]) w=_ from hv]
 simp only[Result.andThen];rw[Oper.upon_value]
 go_wp2
 rw[run_callFunc_extern func122 (by kernel_rfl) (by kernel_rfl) (by kernel_rfl) (e := Extern.ReflectliteSwapper.swapper "internal/reflectlite" (Extern.ReflectliteValue.valueError "Swapper")) (by kernel_rfl), hs];simp only[Result.andThen];rw[Oper.upon_value]
 go_wp2
 rw[run_callFunc_extern func124 (by kernel_rfl) (by kernel_rfl) (by kernel_rfl) (e := Extern.ReflectliteValue.method (Extern.ReflectliteValue.valueError "reflectlite.Value.Len" 0) Extern.ReflectliteValue.len) (by kernel_rfl),
  hl _ _ (by simp)]
 simp only[Result.andThen];rw[Oper.upon_value]
 go_wp2_with (go_at_call 123;refine(hc _ _).mono ?_;rintro e w' ⟨rfl,hR⟩)
 go_end0
 exact⟨rfl,hR⟩
theorem Pw (lt:γ->γ->Bool) (l:List γ) (n:Nat) (hn:n<=1):BY lt l (n:Int)=some l:=by
 unfold BY;rw[A5];simp only[BP];rw[Aq (by omega:¬(20:Int)<=(n:Int)),Ae];simp only[Aa,Be];rw[A5];simp only[AD];rw[Aq (by rw[show ad 0 1=1 from rfl];omega:¬(ad 0 1)<(n:Int)),Ae];simp only[Aa];rw[A5];simp only[Cd];rw[Aq (by omega:¬(20:Int)<(n:Int)),Ae];rfl
theorem Vb {cap:Array Value} (hg:∀(args:Array Value) (w:Go.World),(callFunc g args).run P w= .ok (.enter g args) w):G0 (γ:=Empty) P (λ_=>A) (λ_ _=>false) g cap:=⟨hg,λ_ _ _ x=>nomatch x⟩
theorem Uz {cap:Array Value}:I3 (γ:=Empty) P (λ_=>A) g cap:=λ_ _ _ x=>nomatch x
theorem NO {enc : γ → List TV} {t e sz a : Nat} (d : ∀ x, (enc x).length = sz) (h : BY lt l (ln l) = some r) (i ie : TypeInfo) (hi : prog.info? t = some i) (hd : i.desc = .slice e) (s : prog.packed t = false) (j : prog.info? e = some ie) (ke : Nat) (u : ∀ w, (Extern.Rtype.kind e).run prog w = .ok ke w) (a2 : ie.size = sz) (y : ∀ w, (isAgg e).run prog w = .ok true w) (hg : ∀ (args : Array Value) (w : Go.World), (callFunc a args).run prog w = .ok (.enter a args) w) (a3 : ∀ n, ∃ f, prog.funcs.findIdx? (·.name == "internal/reflectlite" ++ ".Swapper$" ++ toString (swapperK n ie ke)) = some f ∧ (2 ≤ n → 2 < swapperK n ie ke ∧ ∃ gS : Bool, ∀ args W, (callFunc f args).run prog W = ((Extern.ReflectliteSwapper.swap gS args).run prog W).andThen fun v w' => .ok (.value v) w')) (m : ∀ (n b g cap : Nat) (T : TypeId), b ≠ g → G0 prog (Lb n b g cap e T sz enc) lt a #[.pointer (some ⟨b, 0, none⟩)]) : RN prog 84 t e sz enc a l r := by
 intro w b v T hb z a4;have h7:b<w.heap.size:=by
  rcases EE b w.heap.size with q|q
  ·exact q
  rw[Gn q]at hb;cases hb
 obtain⟨f,hf,h8⟩:=a3 l.length
 have small:∀p n c,l.length<=1->v= .slice p n c->n=l.length->(∀b∈Bc v,b<w.heap.size)->Calls prog 84 #[.iface t v,.func (.func a) #[] #[.pointer<|some ⟨b,0,none⟩]] w λr' w'=>r'= .returned (.tuple #[])/\DZ w w' (b::Bc v)/\w'.heap[b]?=some (.cells #[v] T (0,0))/\w'.ownsRow 0 e sz v r.length ((Ai enc r).map TV.val):=by
  rintro p n c h1 rfl rfl a5;have hr:r=l:=by
   have:=Pw lt l l.length h1;have e1:ln l=(l.length:Int):=rfl;rw[e1,this]at h
   injection h with h
   exact h.symm
  subst hr;have hA:=Jj (Vb (A:=lL b (.slice p r.length c) T e sz r.length<|(Ai enc r).map TV.val) (cap:= #[.pointer<|some ⟨b,0,none⟩]) hg) (Uz (g:=f) (cap:=if swapperK r.length ie ke<=2 then #[]else #[.slice p r.length c,typeHandle prog e])) (λ_ _=>⟨rfl,rfl⟩) [] (r.length:Int) []<|Pw _ _ _ h1
  exact Jk t e i ie hi hd s j ke u p r.length c f hf _ _ _ _ _ _ rfl hA w ⟨hb,z⟩ (λk hk=>by
   rcases EN.1 hk with rfl|hk
   ·exact h7
   exact a5 k hk)
 rcases z.2 with⟨rfl,h0⟩|⟨g,cap,a6,rfl,h1,h2,h3,h4,h5,h6⟩
 ·exact small none 0 0 (by omega) rfl h0.symm<|by simp[Bc,Value.ownBlock]
 have h9:g<w.heap.size:=by
  rcases EE g w.heap.size with q|q
  ·exact q
  rw[Gn q]at h2;cases h2
 by_cases hn:l.length<=1
 ·exact small (some ⟨g,0,none⟩) l.length cap hn rfl rfl<|by simpa[Bc,Value.ownBlock]using h9
 obtain⟨a9,gS,hx⟩:=h8 (by omega);have a0:b≠g:=by simpa[Bc,Value.ownBlock]using a4
 have hA:=Jj (m l.length b g cap T a0) (Zx d l.length gS hx j a2 y (b:=b) (g:=g) (cap:=cap) (T:=T)) (λ_ _=>⟨rfl,rfl⟩) l (l.length:Int) r h;have a1:jV l.length b g cap e T sz enc w l:=⟨a0,rfl,hb,⟨a6,h2,h5,h6⟩,h3,h4⟩;refine Calls.mono (Jk t e i ie hi hd s j ke u (some ⟨g,0,none⟩) l.length cap f hf _ _ _ _ _ _ (by rw[Bm<|by omega]) hA w a1 λk hk=>?_) ?_
 ·have:k=b\/k=g:=by simpa[Lb]using hk
  rcases this with rfl|rfl
  ·exact h7
  exact h9
 rintro r' w' ⟨rfl,a7,hI⟩;obtain⟨_,o,a8,⟨cur',c1,c2,c3⟩,c4,c5⟩:=(show jV l.length b g cap e T sz enc w' r from hI);refine⟨rfl,a7,by rw[<-o];exact a8,by rw[BM];exact Dm d r,.inr ⟨g,cap,cur',by rw[<-o],h1,c1,by rw[o];exact h3,h4,c2,c3⟩⟩
theorem aY {n:Int} (h:Q5 n=some v) (w:Go.World):Calls prog 167 #[.int .u64 n] w λe w'=>e= .returned (.int .i64 v)/\w'.os=w.os/\w'.tape=w.tape/\w'.output=w.output/\w.heap.size<=w'.heap.size/\∀b,b<w.heap.size->w'.heap[b]?=w.heap[b]? :=by
 have:=iI n v h w [.int .u64 n] [] [] ⟨_,_,[],[],[],[],rfl,rfl,rfl,⟨by simp[BU],rfl⟩,rfl,rfl,rfl⟩ BN (by simp) (by simp);refine this.mono ?_;rintro e w' ⟨x,F,U,G,V,rfl,hl⟩;refine⟨?_,hl.os,hl.tape,hl.output,hl.size,λb hb=>hl.keep b hb<|by simp⟩;have:=hl.res;simp only[QW,BU]at this;rw[this.1.1]
theorem Pz (t e : TypeId) (i ie : TypeInfo) (hi : prog.info? t = some i) (hd : i.desc = .slice e) (j : prog.packed t = false) (k : prog.info? e = some ie) (ke : Nat) (l : ∀ w, (Extern.Rtype.kind e).run prog w = .ok ke w) (p : Option Addr) (n c : Nat) (f : Nat) (hf : prog.funcs.findIdx? (·.name == "internal/reflectlite" ++ ".Swapper$" ++ toString (swapperK n ie ke)) = some f) (lf : Fn) (la lb : Array Value) (A A' : KC) (sb : Array Value) (d : sb = if swapperK n ie ke ≤ 2 then #[] else #[.slice p n c, typeHandle prog e]) (hv : Q5 (IntKind.u64.wrap (n : Int)) = some v) (hp : I5 prog 203 A [.sv (.agg [.fn lf la lb, .fn (.func f) #[] sb]), .sv (.one (.int .i64 0)), .sv (.one (.int .i64 n)), .sv (.one (.int .i64 v))] A') (w : Go.World) (hA : A.I w) (hB : ∀ b ∈ A.B, b < w.heap.size) :
  Calls prog 193 #[.iface t (.slice p n c),.func lf la lb] w λe w'=>e= .returned (.tuple #[])/\DZ w w' A.B/\A'.I w':=by
 have g:=run_valueOf_slice (P:=prog) t e i hi hd p n c w
 have hs:=λw=>run_swapper_slice (P:=prog) t e i ie hi hd k ke l p n c f hf w
 have hl:=λa w ha=>run_valueLen_slice (P:=prog) t e i hi hd j a p n c w ha
 rw[<-d]at hs
 have hc:∀W:Go.World,W.os=w.os->W.tape=w.tape->W.output=w.output->w.heap.size<=W.heap.size->(∀b,b<w.heap.size->W.heap[b]?=w.heap[b]?)->Calls prog 203 #[.agg #[.func lf la lb,.func (.func f) #[] sb],.int .i64 0,.int .i64 n,.int .i64 v] W λe w'=>e= .returned (.tuple #[])/\DZ w w' A.B/\A'.I w':=by
  intro W h1 h2 h3 h4 h5;have:=hp W [.agg #[.func lf la lb,.func (.func f) #[] sb],.int .i64 0,.int .i64 n,.int .i64 v] ⟨_,_,[],[],[],[],rfl,rfl,rfl,⟨[.func lf la lb,.func (.func f) #[] sb],rfl,⟨_,_,[],[],[],[],rfl,rfl,rfl,⟨rfl,rfl,rfl⟩,_,_,[],[],[],[],rfl,rfl,rfl,⟨rfl,rfl,rfl⟩,rfl,rfl,rfl⟩⟩,⟨_,_,[],[],[],[],rfl,rfl,rfl,⟨by simp[BU],rfl⟩,⟨_,_,[],[],[],[],rfl,rfl,rfl,⟨by simp[BU],rfl⟩,⟨_,_,[],[],[],[],rfl,rfl,rfl,⟨by simp[BU],rfl⟩,⟨rfl,rfl,rfl⟩⟩⟩⟩⟩
   (λb hb=>by have:=hB b hb;omega) (A.st _ _ hA λb hb=>h5 b<|hB b hb)
  refine this.mono ?_;rintro e w' ⟨rfl,hb,hI⟩;refine⟨rfl,⟨hb.os.trans h1,hb.tape.trans h2,hb.output.trans h3,JA h4 hb.size,?_⟩,hI⟩;intro b k1 k2;rw[hb.keep b (by omega) k2,h5 b k1]
 have h:=aY hv
 have k1:∀x y,∀b,b<w.heap.size->((w.alloc x).alloc y).heap[b]?=w.heap[b]? :=λx y b hb=>by
  rw[Below.heap_alloc _ _ _ (by simp;omega),Below.heap_alloc _ _ _ hb]
 clear hp d hA hB hf hv;simp only[typeHandle,show prog.globals.size=0 from rfl]at g hl
 go_enter func193,ntmps193
 go_wp2
 rw[run_callFunc_extern func121 (by kernel_rfl) (by kernel_rfl) (by kernel_rfl) (e:=λargs=>Extern.ReflectliteValue.unpack<|args.getD 0<|.tuple #[]) (by kernel_rfl),
  show Sem.run prog ((λargs:Array Value=>Extern.ReflectliteValue.unpack<|args.getD 0<|.tuple #[]) #[.iface t<|.slice p n c]) w=_ from g]
 simp only[Result.andThen];rw[Oper.upon_value]
 go_wp2
 rw[run_callFunc_extern func122 (by kernel_rfl) (by kernel_rfl) (by kernel_rfl) (e := Extern.ReflectliteSwapper.swapper "internal/reflectlite" (Extern.ReflectliteValue.valueError "Swapper")) (by kernel_rfl), hs];simp only[Result.andThen];rw[Oper.upon_value]
 go_wp2
 rw[run_callFunc_extern func124 (by kernel_rfl) (by kernel_rfl) (by kernel_rfl) (e := Extern.ReflectliteValue.method (Extern.ReflectliteValue.valueError "reflectlite.Value.Len" 0) Extern.ReflectliteValue.len) (by kernel_rfl),
  hl _ _ (by simp)]
 simp only[Result.andThen];rw[Oper.upon_value]
 go_wp2_with (go_at_call 167;refine(h _).mono ?_;rintro e w1 ⟨rfl,g1,g2,g3,g4,g5⟩)
 go_wp2_with (go_at_call 203;refine(hc w1 g1 g2 g3 (JA (by simp;omega) g4) λb hb=>(g5 b (by simp;omega)).trans<|k1 _ _ b hb).mono ?_;rintro e w2 ⟨rfl,hR⟩)
 go_end0
 exact⟨rfl,hR⟩
theorem UP (lt:γ->γ->Bool) (l:List γ) (n:Nat) (v:Int) (hn:n<=1):CN lt l 0 (n:Int) v=some l:=by
 have e1:sb (n:Int) 0=n:=by rw[show sb (n:Int) 0=IntKind.i64.wrap ((n:Int)-0)from rfl];rcases Nat.le_one_iff_eq_zero_or_eq_one.1 hn with rfl|rfl<;>rfl
 unfold CN;rw[A5];simp only[D1,e1];rw[Ag (by omega:(n:Int)<=12),As];simp only[Be];rw[A5];simp only[AD];rw[Aq (by rw[show ad 0 1=1 from rfl];omega:¬(ad 0 1)<(n:Int)),Ae];rfl
theorem VC (h:KN lt l=some r) (hn:l.length<=1):r=l:=by
 unfold KN at h;obtain⟨v,_,h⟩:=Ac.1 h;rw[show ln l=(l.length:Int)from rfl,UP lt l l.length v hn]at h
 injection h with h
 exact h.symm
theorem Sp {enc : γ → List TV} {t e sz j : Nat} (o : ∀ x, (enc x).length = sz) (h : KN lt l = some r) (i ie : TypeInfo) (hi : prog.info? t = some i) (hd : i.desc = .slice e) (h7 : prog.packed t = false) (u : prog.info? e = some ie) (ke : Nat) (h8 : ∀ w, (Extern.Rtype.kind e).run prog w = .ok ke w) (a9 : ie.size = sz) (h9 : ∀ w, (isAgg e).run prog w = .ok true w) (hg : ∀ (args : Array Value) (w : Go.World), (callFunc j args).run prog w = .ok (.enter j args) w) (b0 : ∀ n, ∃ f, prog.funcs.findIdx? (·.name == "internal/reflectlite" ++ ".Swapper$" ++ toString (swapperK n ie ke)) = some f ∧ (2 ≤ n → 2 < swapperK n ie ke ∧ ∃ gS : Bool, ∀ args W, (callFunc f args).run prog W = ((Extern.ReflectliteSwapper.swap gS args).run prog W).andThen fun v w' => .ok (.value v) w')) (y : ∀ (n c b g cap : Nat) (T T' : TypeId) (rest : List Value), b ≠ g → c ≠ g → c ≠ b → G0 prog (EJ n c b g cap e T T' sz rest enc) lt j #[.pointer (some ⟨c, 0, none⟩)]) : Qa prog 193 t e sz enc j l r := by
 intro w d b v rest T T' a hb a0 b1 b2 a1;have s:d<w.heap.size:=by
  rcases EE d w.heap.size with q|q
  ·exact q
  rw[Gn q]at a;cases a
 have a2:b<w.heap.size:=by
  rcases EE b w.heap.size with q|q
  ·exact q
  rw[Gn q]at hb;cases hb
 obtain⟨f,hf,a3⟩:=b0 l.length;have h0:=h;unfold KN at h;obtain⟨m,hm,h⟩:=Ac.1 h;rw[show ln l=(l.length:Int)from rfl]at hm h
 have small:∀p n c,l.length<=1->v= .slice p n c->n=l.length->(∀b∈Bc v,b<w.heap.size)->Calls prog 193 #[.iface t v,.func (.func j) #[] #[.pointer<|some ⟨d,0,none⟩]] w λr' w'=>r'= .returned (.tuple #[])/\DZ w w' (d::b::Bc v)/\w'.heap[d]?=w.heap[d]? /\w'.heap[b]?=w.heap[b]? /\w'.ownsRow 0 e sz v r.length ((Ai enc r).map TV.val):=by
  rintro p n c h1 rfl rfl b3;have hr:r=l:=VC h0 h1;subst hr;have hA:=I7 (Vb (A:=iQ d b (.slice p r.length c) rest T T' e sz r.length<|(Ai enc r).map TV.val) (cap:= #[.pointer<|some ⟨d,0,none⟩]) hg) (Uz (g:=f) (cap:=if swapperK r.length ie ke<=2 then #[]else #[.slice p r.length c,typeHandle prog e])) (λ_ _=>⟨rfl,rfl⟩) [] 0 (r.length:Int) m []<|UP _ _ _ _ h1
  refine Calls.mono (Pz t e i ie hi hd h7 u ke h8 p r.length c f hf _ _ _ _ _ _ rfl hm hA w ⟨a,hb,a0⟩ (λk hk=>by
   rcases EN.1 hk with rfl|hk
   ·exact s
   rcases EN.1 hk with rfl|hk
   ·exact a2
   exact b3 k hk)) ?_
  rintro r' w' ⟨rfl,z,q1,q2,q3⟩;exact⟨rfl,z,by rw[q1,a],by rw[q2,hb],q3⟩
 rcases a0.2 with⟨rfl,h0⟩|⟨g,cap,b4,rfl,h1,h2,h3,h4,h5,h6⟩
 ·exact small none 0 0 (by omega) rfl h0.symm<|by simp[Bc,Value.ownBlock]
 have a4:g<w.heap.size:=by
  rcases EE g w.heap.size with q|q
  ·exact q
  rw[Gn q]at h2;cases h2
 by_cases hn:l.length<=1
 ·exact small (some ⟨g,0,none⟩) l.length cap hn rfl rfl<|by simpa[Bc,Value.ownBlock]using a4
 obtain⟨b7,gS,hx⟩:=a3 (by omega);have a5:b≠g:=by simpa[Bc,Value.ownBlock]using b1
 have a6:d≠g:=by simpa[Bc,Value.ownBlock]using b2
 have hA:=I7 (y l.length d b g cap T T' rest a5 a6 a1) (X1 o l.length gS hx u a9 h9 (c:=d) (b:=b) (g:=g) (cap:=cap) (T:=T) (T':=T') (rest:=rest)) (λ_ _=>⟨rfl,rfl⟩) l 0 (l.length:Int) m r h;have a7:Ty l.length d b g cap e T T' sz rest enc w l:=⟨⟨a5,a6,a1⟩,rfl,a,hb,⟨b4,h2,h5,h6⟩,h3,h4⟩;refine Calls.mono (Pz t e i ie hi hd h7 u ke h8 (some ⟨g,0,none⟩) l.length cap f hf _ _ _ _ _ _ (by rw[Bm<|by omega]) hm hA w a7 λk hk=>?_) ?_
 ·have:k=d\/k=b\/k=g:=by simpa[EJ]using hk
  rcases this with rfl|rfl|rfl
  ·exact s
  ·exact a2
  exact a4
 rintro r' w' ⟨rfl,z,hI⟩;obtain⟨_,a8,b5,b6,⟨cur',c1,c2,c3⟩,c4,c5⟩:=(show Ty l.length d b g cap e T T' sz rest enc w' r from hI);refine⟨rfl,z,by rw[b5,a],by rw[b6,hb],by rw[BM];exact Dm o r,.inr ⟨g,cap,cur',by rw[<-a8],h1,c1,by rw[a8];exact h3,h4,c2,c3⟩⟩
end Go.TI
