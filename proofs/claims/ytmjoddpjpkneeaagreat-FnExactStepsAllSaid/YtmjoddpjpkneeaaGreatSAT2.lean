/- What walks of Go code need. No condition. -/
import Derived.Test.YtmjoddpjpkneeaaGreatSAT1
import Derived.OrdersHeld
import Derived.Deep.Slices
import Derived.ChangeOld
import Derived.DataReads
import Derived.Lib.ReflectliteSwap
import Derived.Deep.Upon
import Derived.KernelRfl
set_option linter.unusedSimpArgs false
set_option linter.unusedVariables false
namespace Go.TI
open Go Go.RowKit
def pk (o:Oper):Bool:=match o.op with
 | .nilCheck _| .pick .. | .binOp .. | .unOp .. | .convert .. | .fieldAddr .. | .indexAddr .. | .load .. | .index .. | .slice .. =>true
 | .call c=>match c.callee with
  | .builtin .len| .builtin .min| .builtin .max=>true
  |_=>false
 |_=>false
variable {P:Program} {E E':St} {N i sz j fuel d by_ off:Nat} {ops:Array Oper} {Q:Exit->St->Prop} {α β γ H:Type} {w w':World} {K:St->Prop} {dn FA UA F U:List Nat} {rest:List Oper} {oo:Oper} {listed:Array Bool} {v:Value} {fn:Func} {FS US:Root->List Nat} {k k' k2 k1:IntKind} {n:Int} {as:List AV} {blk:Root->Nat} {md:Region.Mode} {o1 o2 y:Operand} {mv:Bool} {fs:Array Field} {lo:Option Operand} {A' A:KC} {sf:FuncId} {fd:Field} {zs cs':List TV} {T:Nat->Bool} {ps:List MemPlace} {G:Prop} {ss:List SV} {f:α->List TV} {l:List α} {x:α} {tx:Option β} {ty:Option β} {Am:List γ->KC} {z:α} {lt:γ->γ->Bool} {c':β->List TV} {o':β->Prop}
theorem fM {o:Oper} {s:SV} {src dst:TypeId} {x:Operand} (ho:o.op= .convert src dst x) (hp:AB P E o=some s):PT P E d src dst x=none:=by grind [AB,PT]
theorem Bv {o:Oper} {s:SV} (hp:AB P E o=some s) (hd:o.dst=some d:=by rfl) (hN:Nat.blt d N=true:=by rfl) (hk:pk o=true:=by rfl):Bu P N false E o=some (E.put (some d) s):=by grind [Bz,fM,pk,Bu]
theorem cA {o:Oper} {s:SV} (hp:AB P E o=some s) (hk:pk o=true:=by rfl):DH P E o=some s:=by grind [pk,DH]
theorem NP {o:Oper} (hf:∀x,(f x).length=sz) (r:Root) (q:List Nat) (j:Nat) (hx:gi l n=some x) {t e e':TypeId} {a i:Operand} {b:Bool} (hp:E.place r q j=some (.sl b e' sz (Ai f l)):=by rfl) (ho:o.op= .indexAddr t a i:=by rfl) (ht:P.underlying t=some (.slice e):=by rfl) (hi:E.cell1 P 0 i=some (.int k n):=by rfl) (hr:E.ref a=some (r,q,j):=by rfl) (c:P.cellsOf e=sz:=by rfl) (h0:Nat.blt 0 sz=true:=by rfl):AB P E o=some (.one<|.ptr r (E.ver r) (q++ [j])<|n.toNat*sz+0):=by
 have h0':0<sz:=by simp_all
 simp only[AB,ho,ht,hi,hr,hp];rw[Bw ⟨c.symm,h0',(L5 hx).1,W4 hf hx⟩];rfl
theorem PD {o:Oper} {fl:Nat} (hf:∀x,(f x).length=sz) (r:Root) (q:List Nat) (k:Nat) (hx:gi l n=some x) {st:TypeId} {a:Operand} (hr:(E.root r).bind (λcs=>Ba cs q)=some (Ai f l):=by rfl) (ho:o.op= .fieldAddr st a fl:=by rfl) (hs:P.underlying st=some (.struct fs):=by rfl) (hp:E.ptr? a=some (r,q,n.toNat*sz+k):=by rfl) (b:fs[fl]?=some fd:=by rfl) (hc:Nat.beq (P.cellsOf fd.type) 0=false:=by rfl) {m:Nat} (hm:k+fd.offset=m:=by rfl) (hk:Nat.blt (k+fd.offset) sz=true:=by rfl):AB P E o=some (.one<|.ptr r (E.stamp r q) q<|n.toNat*sz+m):=by
 subst hm;have hc':P.cellsOf fd.type≠0:=by intro h;simp_all
 have hk':k+fd.offset<sz:=by simp_all
 have c:(E.place r q<|n.toNat*sz+k+fd.offset).isSome=true:=by
  obtain⟨cs,h1,h2⟩:=Ac.1 hr
  grind [L8,St.place]
 grind [AB]
theorem oW {o:Oper} (hf:∀x,(f x).length=sz) (r:Root) (q:List Nat) (k:Nat) (u:TV) (hx:gi l n=some x) {t:TypeId} {a:Operand} (hr:(E.root r).bind (λcs=>Ba cs q)=some (Ai f l):=by rfl) (ho:o.op= .load t a:=by rfl) (hp:E.ptr? a=some (r,q,n.toNat*sz+k):=by rfl) (ha:Tt P t=false:=by rfl) (h1:P.cellsOf t=1:=by rfl) (hu:(P.underlying t).isSome=true:=by rfl) (hk:Nat.blt k sz=true:=by rfl) (hj:(f x)[k]?=some u:=by rfl):AB P E o=some (.one<|oN E r q (n.toNat*sz+k) u):=by
 have hk':k<sz:=by grind
 have b:=W4 hf hx;simp_all [L8,AB];grind
theorem sJ {o:Oper} (hf:∀x,(f x).length=sz) (r:Root) (q:List Nat) (k m:Nat) (hx:gi l n=some x) {t:TypeId} {a:Operand} (hr:(E.root r).bind (λcs=>Ba cs q)=some (Ai f l):=by rfl) (ho:o.op= .load t a:=by rfl) (hp:E.ptr? a=some (r,q,n.toNat*sz+k):=by rfl) (ha:Tt P t=true:=by rfl) (h1:P.cellsOf t=m:=by rfl) (hk:Nat.ble (k+m) sz=true:=by rfl):AB P E o=some (.agg<|H4 E r q (n.toNat*sz+k)<|((f x).drop k).take m):=by
 have hk':k+m<=sz:=by simp_all
 have b:=W4 hf hx;rw[HL]at b;simp only[AB,ho,hp,hr,ha,h1];rw[Bw (by omega),Bw trivial,<-iX hf hx,List.drop_take,List.take_take,Nat.min_eq_left (by omega),Hs]
theorem ZN {o:Oper} (hf:∀x,(f x).length=sz) (l:List α) {t e e':TypeId} {a:Operand} {b:Bool} {r:Root} {q:List Nat} (ho:o.op= .call {callee:= .builtin .len,args:= #[a],argTypes:= #[t]}:=by rfl) (ht:P.underlying t=some (.slice e):=by rfl) (hr:E.ref a=some (r,q,j):=by rfl) (hp:E.place r q j=some (.sl b e' sz<|Ai f l):=by rfl) (h0:Nat.blt 0 sz=true:=by rfl):AB P E o=some (.one<|.int .i64<|ln l):=by
 have h0':0<sz:=by simp_all
 have:(Ai f l).length/sz=l.length:=by simp_all [Dm]
 simp only[AB,ho,Kb,ht,St.sliceCells,hr,hp];rw[Bw h0',this];rfl
def sx (s:ByteArray) (i:Int):Option Int:=if 0<=i/\i<s.size then some (AB.bt s i)else none
def sub (s:ByteArray) (l h:Int):Option ByteArray:=if 0<=l/\l<=h/\h<=s.size then some (s.extract l.toNat h.toNat)else none
def Uk (a b:ByteArray):Option ByteArray:=if((a.size+b.size:Nat):Int)>9223372036854775807 then none else some<|a++b
def GJ (s:ByteArray):Int:=(s.size:Nat)
def seq (a b:ByteArray):Bool:=a.toList==b.toList
theorem sH {o:Oper} {s:ByteArray} {n b:Int} (h:sx s n=some b) {t:TypeId} {a i:Operand} (ho:o.op= .index t a i:=by rfl) (ht:P.underlying t=some .string:=by rfl) (ha:E.cell1 P t a=some (.str s):=by rfl) (hi:E.cell1 P 0 i=some (.int k n):=by rfl):
 AB P E o=some (.one<|.int .u8 b):=by grind [sx,AB]
section
variable {o:Oper}
theorem qI {hi:Option Operand} {s u:ByteArray} {l h:Int} (hx:sub s l h=some u) {t:TypeId} {a:Operand} (ho:o.op= .slice t a lo hi none:=by rfl) (ht:P.underlying t=some .string:=by rfl) (ha:E.cell1 P t a=some (.str s):=by rfl) (hl:(match lo with|some o=>E.cell1 P 0 o|none=>some<|.int .i64 0)=some (.int k l):=by rfl) (hh:(match hi with|some o=>E.cell1 P 0 o|none=>some<|.int .i64 s.size)=some (.int k' h):=by rfl):
 AB P E o=some (.one<|.str u):=by simp_all [sub,AB];grind
end
theorem qL {o:Oper} {x:Operand} {a b u:ByteArray} (hx:Uk a b=some u) {t t':TypeId} (ho:o.op= .binOp .add t x y t':=by rfl) (ha:E.cell1 P t x=some (.str a):=by rfl) (hb:E.cell1 P t y=some (.str b):=by rfl):
 AB P E o=some (.one<|.str u):=by grind [Uk,AB,Tn,Tq]
def Ge (cs:List TV):Bool:=cs.all λt=>match t with
 | .int .. | .bool _| .str _| .sl false .. =>true
 |_=>false
theorem Sr {E:St} {r:Root} {q:List Nat}:∀{cs:List TV} (c:Nat),Ge cs=true->H4 E r q c cs=cs
 |[],c,h=>rfl
 |t::ts,c,h=>by
  simp only[Ge,EO,Af]at h;have ih:=Sr (E:=E) (r:=r) (q:=q) (c+1)<|show Ge ts=true from h.2;simp only[H4,ih]
  cases t with
  |sl o e sz cells=>cases o<;>first|rfl|grind
  |_=>rfl
theorem LI {E:St}:∀{cs:List TV},Ge cs=true->DK E cs=some (cs,E)
 |[],h=>rfl
 |t::ts,h=>by
  simp only[Ge,EO,Af]at h;have ih:=LI (E:=E)<|show Ge ts=true from h.2;have h1:=h.1;have hr:∀E1 E2 t,(∀r v q j,t≠ .view r v q j)->List.map (oP E1 E2 t) ts=ts:=by
   intro E1 E2 t ht;have:oP E1 E2 t=id:=by
    funext u;cases t<;>first|rfl|grind
   rw[this,List.map_id]
  grind [Mr,Di]
theorem S6 (hf:∀x,Ge (f x)=true):∀l:List α,Ge (Ai f l)=true
 |[]=>rfl
 |x::l=>by
  have:=S6 hf l
  grind [EA,Ge]
def ap (by_:Nat) (l m:List α):Option (List α):=if(l.length+m.length)*by_<=140737488355328 then some (l++m)else none
def mk (by_:Nat) (z:α) (n:Int):Option (List α):=if 0<=n/\(by_:Int)*n<=281474976710656/\n<=9223372036854775807 then some (List.replicate n.toNat z)else none
theorem mV {l m u:List α} (h:ap by_ l m=some u):u=l++m/\(l.length+m.length)*by_<=140737488355328:=by grind [ap]
theorem MA (h:f z=zs):∀n,(List.replicate n zs).flatten=Ai f (List.replicate n z)
 |0=>rfl
 |n+1=>by rw[Ix,List.flatten_cons,MA h n,Ix,EA,h]
theorem sC {o:Oper} {u:List α} {kl kc:IntKind} (z:α) (h:mk by_ z n=some u) {t e:TypeId} {l c:Operand} (ho:o.op= .makeSlice t l c:=by rfl) (hd:o.dst=some d:=by rfl) (hN:Nat.blt d N=true:=by rfl) (ht:P.underlying t=some (.slice e):=by rfl) (hl:E.cell1 P 0 l=some (.int kl n):=by rfl) (hc:E.cell1 P 0 c=some (.int kc n):=by rfl) (hz:HO P e=some zs:=by rfl) (hfz:f z=zs:=by rfl) (hb:P.bytesOf e=by_:=by rfl) (a:P.cellsOf e=sz:=by rfl):
 Bu P N false E o=some (E.put (some d)<|.one<|.sl true e sz<|Ai f u):=by grind [Bz,MA,mk,Bu,RK]
section
variable {o:Oper}
structure At (cs:List TV) (q:List Nat) (row:List TV) (g:List TV->List TV) (cs':List TV):Prop where
 c:Ba cs q=some row
 o:Hq cs q=true
 u:BT cs q g=cs'
end
theorem At.one {row':List TV} {cs a:List TV} {c:Nat} {e s:Nat} {g:List TV->List TV} (h:g a=row') (hc:cs[c]?=some (.sl true e s a):=by rfl) (hs:cs.set c (.sl true e s row')=cs':=by rfl):At cs [c] a g cs':=
 ⟨by simp[Ba,hc],by simp[Hq,hc],by grind [BT]⟩
theorem rV (hf:∀x,(f x).length=sz) {cs a:List TV} {c k:Nat} {q:List Nat} {e s:Nat} {g:List TV->List TV} (hx:gi l n=some x) (h:At (f x) (k::q) a g (f z)) (hk:Nat.blt k sz=true:=by rfl) (hc:cs[c]?=some (.sl true e s<|Ai f l):=by rfl) (hs:cs.set c (.sl true e s<|Ai f<|si l n z)=cs':=by rfl):At cs (c::(n.toNat*sz+k)::q) a g cs':=by
 have hk':k<sz:=by simp_all
 refine⟨?_,?_,?_⟩
 ·rw[<-h.c,<-mN hf hx hk']
  grind [Ba]
 ·rw[<-h.o,<-kX hf hx hk']
  grind [Hq]
 rw[<-hs,<-kD hf hx hk' h.u]
 grind [BT]
theorem Rx {o:Oper} (ms:List (Root×List TV)) {r:Root} {q:List Nat} {cs a cs' xs:List TV} (A:At cs q a (λa=>setRow a j xs) cs') (b:j+xs.length<=a.length) {t:TypeId} {ad x:Operand} {s:SV} (ho:o.op= .store t ad x:=by rfl) (hd:o.dst=none:=by rfl) (hv:E.val P t x=some s:=by rfl) (ht:Hz E s=some (xs,WW E ms):=by rfl) (hp:(WW E ms).ptr? ad=some (r,q,j):=by rfl) (hr:(WW E ms).root r=some cs:=by rfl) (hl:xs.length=P.cellsOf t:=by rfl) (h0:Nat.blt 0 xs.length=true:=by rfl) (hq:q.isEmpty=false:=by rfl):
  Bu P N false E o=some (((WW E ms).setRoot r cs').bump r):=by
 have h0':0<xs.length:=by simpa[Bz]using h0
 simp only[Bu,hd,ho,Nd,hv,ht,hp,hr,A.c];rw[Bw ⟨A.o,hl,h0',b⟩,Bm (by rw[hq];simp),A.u]
theorem HF (hf:∀x,(f x).length=sz) (hx:gi l n=some x) {k m:Nat} (hk:Nat.ble (k+m) sz=true):n.toNat*sz+k+m<=(Ai f l).length:=by
 have:=W4 hf hx
 grind [m7]
theorem DY {r : β} {x : Option α} {k : α → Option β} {f : FuncId} {l : List AV} {n : Nat} (h : x.bind k = some r) (d : Nat) (enc : α → SV) {args : Array Operand} {tys : Array TypeId} {c : Bool} (ho : oo.op = .call { callee := .value (.func f), args := args, argTypes := tys }) (a : FP P E ((tys.toList.zip args.toList).map fun (t, x) => (false, t, x)) (List.replicate args.size none) = some (l, c)) (b : ∀ v, x = some v → An P f l (enc v) (List.replicate n .gone)) (hc : c = true ∨ ∀ v, AL (enc v) = false) (hk : ∀ v, x = some v → k v = some r → Ao P N ops rest (E.put (some d)<|enc v) Q) (hf : P.funcs[f]? = some fn := by rfl) (hn : (fn.name == "runtime.NumGoroutine") = false := by rfl) (hb : fn.body.isNone = false := by rfl) (hd : oo.dst = some d := by rfl) (hN : Nat.blt d N = true := by rfl) (hz : tys.size = args.size := by rfl) (hg : Az P ops E oo = some true := by rfl) : Ao P N ops (oo :: rest) E Q := by
 obtain⟨v,hv,h⟩:=Ac.1 h;refine fQ ho hf ?_ hb hg hd ?_ hz (b v hv) a ?_<|hk v hv h
 ·intro e;rw[e]at hn;simp at hn
 ·simpa[Bz]using hN
 rcases hc with hc|hc
 ·exact .inl hc
 exact .inr<|hc v
def SV.comps:SV->List SV
 | .tup ss=>ss
 |_=>[]
def St.ex (E:St) (n ix:Nat):St:={E with slots:=Bi E.slots n (.tup<|(E.slots n).comps.set ix<|.one .junk)}
theorem tK (n ix d:Nat) (s:SV) (h:Ao P N ops rest ((E.ex n ix).put (some d) s) Q) (hs:Bu P N false E oo=some ((E.ex n ix).put (some d) s):=by rfl) (hg:Az P ops E oo=some true:=by rfl):Ao P N ops (oo::rest) E Q:=Ao.op false hg hs h
theorem DE.o (d:Nat) (s:SV) (h:DE P N ops rest (E.put (some d) s) K) (hs:DH P E oo=some s:=by rfl) (hg:Az P ops E oo=some true:=by rfl) (hd:oo.dst=some d:=by rfl) (hN:Nat.blt d N=true:=by rfl):DE P N ops (oo::rest) E K:=
 DE.op s hg hd (by simp_all) hs h
theorem tJ {r:β} {x:Option α} {k:α->Option β} (h:x.bind k=some r) (d:Nat) (f:α->SV) (hk:∀a,x=some a->k a=some r->DE P N ops rest (E.put (some d) (f a)) K) (hs:∀a,x=some a->DH P E oo=some (f a)) (hg:Az P ops E oo=some true:=by rfl) (hd:oo.dst=some d:=by rfl) (hN:Nat.blt d N=true:=by rfl):DE P N ops (oo::rest) E K:=by
 obtain⟨a,ha,h⟩:=Ac.1 h;exact DE.op _ hg hd (by simpa[Bz]using hN) (hs a ha)<|hk a ha h
theorem pD {l:List Oper} {r:β} {b:Bool} (h:(bif b then tx else ty)=some r) (t:Nat) (ht:tx=some r->DE P N ops l (E.rs t true) K) (hf:ty=some r->DE P N ops l (E.rs t false) K) (hc:E.slots t=B b:=by rfl):DE P N ops l E K:=by grind [gQ]
theorem cg {f:FuncId} {l l' fin:List AV} {a:SV} (e:l=l') (h:An P f l' a fin):An P f l a fin:=e▸h
theorem Da {f g:α->List TV} (h:∀x,Al (f x)=g x):∀l:List α,Al (Ai f l)=Ai g l
 |[]=>rfl
 |x::l=>by
  have c:∀a b:List TV,Al (a++b)=Al a++Al b:=by
   intro a b
   induction a with
   |nil=>rfl
   |cons t ts ih=>grind [Al]
  rw[EA,EA,c,h,Da h l]
theorem IK (h:∀x,Ak (f x)=false):∀l:List α,Ak (Ai f l)=false
 |[]=>rfl
 |x::l=>by
  have c:∀a b:List TV,Ak (a++b)=(Ak a||Ak b):=by
   intro a b
   induction a with
   |nil=>rfl
   |cons t ts ih=>grind [Ak]
  rw[EA,c,h,IK h l];rfl
theorem Yw {i:Int} {k:Nat} (hf:∀x,(f x).length=sz) (h:gi l i=some x) (hk:Nat.blt k sz=true:=by rfl):(Ai f l)[i.toNat*sz+k]?=(f x)[k]? :=L8 hf h<|by simpa[Bz]using hk
def ad (a b:Int):Int:=IntKind.i64.wrap<|a+b
def sb (a b:Int):Int:=IntKind.i64.wrap<|a-b
def ml (a b:Int):Int:=IntKind.i64.wrap<|a*b
def qu (a b:Int):Int:=IntKind.i64.wrap<|a.tdiv b
def xr (a b:Int):Int:=IntKind.u32.wrap (BitVec.ofInt 32 a^^^BitVec.ofInt 32 b).toNat
def an (a b:Int):Int:=IntKind.u32.wrap (BitVec.ofInt 32 a&&&BitVec.ofInt 32 b).toNat
def bs (l:List UInt8):ByteArray:=⟨l.toArray⟩
section
variable (P:Program) (md:Region.Mode) (ops:Array Oper) (Q:Exit->Act->World->Prop) (T:Nat->Bool)
def Oy:Nat->Array Bool->Act->World->Prop
 |0,listed,a,w=>Region.ready md ops listed=[]/\Q .normal a w
 |fuel+1,listed,a,w=>(Region.ready md ops listed=[]->Q .normal a w)/\
  ∀i∈Region.ready md ops listed,wpOp P ops Q i (λa' w'=>(T i=false->Cv w w')/\Oy fuel (listed.setIfInBounds i true) a' w') a w
end
theorem RQ {Q:Exit->Act->World->Prop}:∀(b:Nat) (listed:Array Bool) (a:Act) (w:World),Oy P md ops Q T b listed a w->wpAny P md ops Q b listed a w
 |0,_,_,_,h=>h
 |b+1,_,_,_,h=>⟨h.1,λi hi=>wpOp_mono (λa' w' h'=>RQ b _ a' w' h'.2) (h.2 i hi)⟩
section
variable (md:Region.Mode) (ops:Array Oper)
def RT (i:Nat):Nat->Nat->Bool
 |0,_=>false
 |n+1,j=>match ops[j]? with
  |some o=>o.after.any λe=>Region.binds md e&&(e.on==i||RT i n e.on)
  |none=>false
end
def T7 (md:Region.Mode) (ops:Array Oper) (listed:Array Bool):Prop:=∀k o,ops[k]?=some o->listed.getD k false=true->∀e∈o.after,Region.binds md e=true->listed.getD e.on false=true
theorem OY (hc:T7 md ops listed):∀{n j:Nat} {o:Oper},ops[j]?=some o->(∀e∈o.after,Region.binds md e=true->listed.getD e.on false=true)->RT md ops i n j=true->listed.getD i false=true
 |0,j,o,_,_,h=>by cases h
 |n+1,j,o,ho,ha,h=>by
  simp only[RT,ho]at h;obtain⟨e,he,hb⟩:=Array.any_eq_true'.1 h;simp only[Af,G5,mR]at hb;have h1:=ha e he hb.1
  rcases hb.2 with h2|h2
  ·grind
  cases hk:ops[e.on]? with
  |none=>
   cases n with
   |zero=>cases h2
   |succ n=>grind [RT]
  |some ok=>exact OY hc hk (hc e.on ok hk h1) h2
theorem Gy (hc:T7 md ops listed) (hr:j∈Region.ready md ops listed):T7 md ops (listed.setIfInBounds j true):=by
 intro k o hk hl e he hb
 have a:∀m,listed.getD m false=true->(listed.setIfInBounds j true).getD m false=true:=λm hm=>getD_set_true hm
 by_cases b:k=j
 ·grind [mem_ready]
 rw[getD_set_ne false<|HJ b]at hl;exact a _<|hc k o hk hl e he hb
theorem IA {Q:Exit->Act->World->Prop} {oi:Oper} {n:Nat} (hi:ops[i]?=some oi) (l:∀(j:Nat) (o:Oper) cs b,ops[j]?=some o->o.op≠ .select cs b) (hQ:∀c a w,Q (.panic c) (a.put oi.dst v) w->Q (.panic c) a w) (h5:T i=false) (hT:∀j,T j=true->RT md ops i n j=true):
  ∀(d:Nat) (listed:Array Bool) (a:Act) (w:World),T7 md ops listed->
   (∀j oj,ops[j]?=some oj->j≠i->listed.getD j true=false->(∀e∈oj.after,Region.binds md e=true->e.on≠i)->oi.apart ops oj=true)->
   i∈Region.ready md ops listed->YieldsIf P ops (Cv w) oi v a->
   Oy P md ops Q T d (listed.setIfInBounds i true) (a.put oi.dst v) w->Oy P md ops Q T (d+1) listed a w:=by
 intro d
 induction d with
 |zero=>
  intro listed a w _ _ hr hy H;refine⟨λh=>(by grind),λj hj=>?_⟩;by_cases f:j=i
  ·subst f;exact hy.wpOp hi Cv.refl ⟨λ_=>Cv.refl,H⟩
  have:=ready_mono hj f;rw[H.1]at this;cases this
 |succ d ih=>
  intro listed a w s g hr hy H;refine⟨λh=>(by grind),λj hj=>?_⟩;by_cases f:j=i
  ·subst f;exact hy.wpOp hi Cv.refl ⟨λ_=>Cv.refl,H⟩
  have h1:=H.2 j<|ready_mono hj f;obtain⟨p,oj,m,h0⟩:=mem_ready.1 hj;have h4:listed.getD i false=false:=by grind [mem_ready]
  have t:T j=false:=by grind [OY]
  have q:∀e∈oj.after,Region.binds md e=true->e.on≠i:=λe he hb h6=>by grind
  have h2:=wpOp_putIf m (g j oj m f p q) (λcs b=>l i oi cs b hi) (λcs b=>l j oj cs b m) hQ hy h1;have hfree':∀k ok,ops[k]?=some ok->k≠i->(listed.setIfInBounds j true).getD k true=false->
    (∀e∈ok.after,Region.binds md e=true->e.on≠i)->oi.apart ops ok=true:=λk ok hk u r x=>by
   refine g k ok hk u ?_ x;by_cases y:j=k
   ·grind
   rw[getD_set_ne true y]at r;exact r
  refine wpOp_mono (λa' w' h3=>⟨h3.2.1,ih (listed.setIfInBounds j true) a' w' (Gy s hj) hfree' (ready_mono hr<|HJ f) ?_ ?_⟩) h2
  ·exact h3.1.imp (λ⟨p1,p2⟩=>⟨p1,λw2 z=>p2 w2<|(h3.2.1 t).trans z⟩) id
  grind [Array.setIfInBounds_comm]
def KA (P:Program) (N:Nat) (ops:Array Oper) (ts:List Nat) (b:Nat) (listed:Array Bool) (E:St) (Q:Exit->St->Prop):Prop:=(∀c E,Q (.panic c) E->False)->T7 .any ops listed->∀(w0:Base) (FA UA:List Nat) (w:World) (a:Act) (blk:Root->Nat) (FS US:Root->List Nat),B8 w0 FA UA N w a E blk FS US->FS .hand=[]->US .hand=[]->Oy P .any ops (Uo w0 FA UA N Q) (λi=>ts.contains i) b listed a w
def Ox (P:Program) (N:Nat) (ops:Array Oper) (ts:List Nat) (i:Nat) (E:St) (K:St->Prop) (Q:Exit->St->Prop):Prop:=∀(w0:Base) (FA UA:List Nat) (w:World) (a:Act) (blk:Root->Nat) (FS US:Root->List Nat),B8 w0 FA UA N w a E blk FS US->FS .hand=[]->US .hand=[]->
  wpOp P ops (Uo w0 FA UA N Q) i (λa' w'=>(ts.contains i=false->Cv w w')/\∃E' blk' FS' US',K E'/\B8 w0 FA UA N w' a' E' blk' FS' US'/\FS' .hand=[]/\US' .hand=[]) a w
theorem Ox.op {ts:List Nat} (i:Nat) {o:Oper} (mv:Bool) (h:K E') (hs:Bu P N mv E o=some E') (ho:ops[i]?=some o) (hg:Az P ops E o=some true) (hk:(kp o||ts.contains i)=true):Ox P N ops ts i E K Q:=by
 intro w0 FA UA w a blk FS US hr hF hU;unfold wpOp;simp only[ho,AS hr hg,By];refine .inl<|(JN hr hF hU hs).wp λw' v blk' FS' US' k1 k2 k3 k4=>⟨λht=>k4 (by grind),_,_,_,_,h,k1,k2,k3⟩
theorem Ox.call {ts:List Nat} {f:FuncId} {n:Nat} (i:Nat) {o:Oper} {args:Array Operand} {tys:Array TypeId} (hi:ops[i]?=some o) (ho:o.op= .call {callee:= .value (.func f),args:=args,argTypes:=tys}) (hf:R2 P f) (hg:Az P ops E o=some true) (hN:∀d,o.dst=some d->d<N) (l:List (Bool×TypeId×Operand)) (hl:l.map (λx=>x.2.2)=args.toList) (e:(l.all (λx=>!x.1)||ts.contains i)=true) {b:SV} (c:An P f as b (List.replicate n .gone)) (he:PU P E o.dst l as b E') (h:K E'):Ox P N ops ts i E K Q:=by
 intro w0 FA UA w a blk FS US hr hF hU;unfold wpOp;simp only[hi,AS hr hg,By];exact .inl<|QG hr hF hU ho hf hN hl c he λw' v blk' FS' US' k1 k2 k3 k4=>⟨λht=>k4 (by grind),_,_,_,_,h,k1,k2,k3⟩
theorem YM {ts:List Nat} (h:Q .normal E) (hr:Region.ready .any ops listed=[]:=by decide+kernel):KA P N ops ts fuel listed E Q:=
 λ_ _ w0 FA UA w a blk FS US k1 k2 k3=>by
  have hq:Uo w0 FA UA N Q .normal a w:=⟨E,blk,FS,US,h,k1,k2,k3⟩
  cases fuel with
  |zero=>exact⟨hr,hq⟩
  |succ n=>exact⟨λ_=>hq,by rw[hr];simp⟩
section
variable {ts:List Nat}
theorem KA.all (rs:List Nat) (h:∀i∈rs,Ox P N ops ts i E (λE'=>KA P N ops ts fuel (listed.setIfInBounds i true) E' Q) Q) (hr:Region.ready .any ops listed=rs) (b:rs≠ []):KA P N ops ts (fuel+1) listed E Q:=
 λhQ hc w0 FA UA w a blk FS US k1 k2 k3=>⟨λh0=>absurd (hr▸h0) b,λi hi=>by
  have hi':i∈rs:=hr▸hi
  exact wpOp_mono (λa' w' ⟨m0,E',blk',FS',US',m1,m2,m3,m4⟩=>⟨m0,m1 hQ (Gy hc hi) _ _ _ _ _ _ _ _ m2 m3 m4⟩)<|h i hi' _ _ _ _ _ _ _ _ k1 k2 k3⟩
end
def L9 (ops:Array Oper) (ts:List Nat) (n i:Nat) (listed:Array Bool):Bool:=Region.noSelect ops&&Region.free .any ops listed i&&(Region.ready .any ops listed).contains i&&!ts.contains i&&ts.all λj=>RT .any ops i n j
theorem PR {ts:List Nat} {n:Nat} (h:L9 ops ts n i listed=true):Region.noSelect ops=true/\Region.free .any ops listed i=true/\i∈Region.ready .any ops listed/\ts.contains i=false/\∀j,ts.contains j=true->RT .any ops i n j=true:=by grind [L9]
theorem KA.take {ts:List Nat} (n i:Nat) {o:Oper} (d:Nat) (s:SV) (h:KA P N ops ts fuel (listed.setIfInBounds i true) (E.put (some d) s) Q) (hs:DH P E o=some s) (ho:ops[i]?=some o) (f:L9 ops ts n i listed=true) (hg:Az P ops E o=some true) (hd:o.dst=some d) (hN:Nat.blt d N=true):KA P N ops ts (fuel+1) listed E Q:=by
 intro hQ hc w0 FA UA w a blk FS US k1 k2 k3;obtain⟨e1,e2,e3,e4,e5⟩:=PR f;obtain⟨v,U,h1,h2,h3⟩:=O7 k1 hs;refine IA (v:=v) (n:=n) ho (Region.noSelect_spec e1) (λc a w hx=>?_) e4 e5 fuel listed a w hc (Region.free_spec ho e2) e3 (.inl ⟨AS k1 hg,λw2 e=>?_⟩) ?_
 ·obtain⟨E',blk',FS',US',m1,_⟩:=hx
  grind
 ·exact h1 w2 λr hr=>⟨λb hb=>e.2 b (k1.inF r b hb).2,λb hb=>e.2 b (k1.inU r b hb).2⟩
 rw[hd];refine h hQ (Gy hc e3) _ _ _ _ _ _ _ _ (k1.put (by simp_all) h2<|FJ k1 h3 _) ?_ ?_
 ·grind [AF]
 grind [AF]
theorem WR {ts:List Nat} (n i:Nat) {o:Oper} (d:Nat) (h:KA P N ops ts fuel (listed.setIfInBounds i true) (E.put (some d) (.tup [])) Q) (ho:ops[i]?=some o) (b:L9 ops ts n i listed=true) (hg:Az P ops E o=some false) (hd:o.dst=some d) (hN:Nat.blt d N=true):KA P N ops ts (fuel+1) listed E Q:=by
 intro hQ hc w0 FA UA w a blk FS US k1 k2 k3;obtain⟨e1,e2,e3,e4,e5⟩:=PR b;refine IA (v:=undef) (n:=n) ho (Region.noSelect_spec e1) (λc a w hx=>?_) e4 e5 fuel listed a w hc (Region.free_spec ho e2) e3 (.inr ⟨AS k1 hg,rfl⟩) ?_
 ·obtain⟨E',blk',FS',US',m1,_⟩:=hx
  grind
 rw[hd];refine h hQ (Gy hc e3) _ _ _ _ _ _ _ _ (k1.put (F:=[]) (U:=[]) (by simp_all) (by simp only[E4];exact⟨[],rfl,by simp[Mq]⟩) T6.none) ?_ ?_
 ·grind [AF]
 grind [AF]
theorem Tv {id:Nat} (n:Nat) (ts:List Nat) (hm:P.follows .mixedOrders=true) (hQ:∀c E,Q (.panic c) E->False) (h:KA P N ops ts n (Array.replicate n false) E Q) (hn:ops.size=n:=by rfl):Wp P N (.region id ops true) E Q:=by
 subst hn;intro w0 FA UA w a blk FS US k1 k2 k3;refine wp_region_any hm<|RQ (T:=λi=>ts.contains i) _ _ _ _ ?_;obtain⟨FS',US',m1,m2,m3⟩:=k1.drop (w':={w with drawn:=w.drawn+1}) (A8 _) rfl rfl rfl λ_ _ _=>rfl;refine h hQ (λk o hk hl=>?_) _ _ _ _ _ _ _ _ m1 m2 m3;simp_all;grind
theorem KA.o {ts:List Nat} (n i d:Nat) (s:SV) {o:Oper} (h:KA P N ops ts fuel (listed.setIfInBounds i true) (E.put (some d) s) Q) (ho:ops[i]?=some o:=by rfl) (hs:DH P E o=some s:=by rfl) (a:L9 ops ts n i listed=true:=by decide+kernel) (hg:Az P ops E o=some true:=by rfl) (hd:o.dst=some d:=by rfl) (hN:Nat.blt d N=true:=by rfl):KA P N ops ts (fuel+1) listed E Q:=KA.take n i d s h hs ho a hg hd hN
theorem tL {ts:List Nat} {r:β} {x:Option α} {k:α->Option β} (h:x.bind k=some r) (n i d:Nat) (f:α->SV) {o:Oper} (hk:∀a,x=some a->k a=some r->KA P N ops ts fuel (listed.setIfInBounds i true) (E.put (some d) (f a)) Q) (ho:ops[i]?=some o) (hs:∀a,x=some a->DH P E o=some (f a)) (b:L9 ops ts n i listed=true:=by decide+kernel) (hg:Az P ops E o=some true:=by rfl) (hd:o.dst=some d:=by rfl) (hN:Nat.blt d N=true:=by rfl):KA P N ops ts (fuel+1) listed E Q:=by
 obtain⟨a,ha,h⟩:=Ac.1 h;exact KA.take n i d _ (hk a ha h) (hs a ha) ho b hg hd hN
theorem pM {ts:List Nat} {r:β} {b:Bool} (h:(bif b then tx else ty)=some r) (t:Nat) (ht:tx=some r->KA P N ops ts fuel listed (E.rs t true) Q) (hf:ty=some r->KA P N ops ts fuel listed (E.rs t false) Q) (hc:E.slots t=B b:=by rfl):KA P N ops ts fuel listed E Q:=by grind [gQ]
section
variable {ts:List Nat}
theorem jZ (i:Nat) (h:Ox P N ops ts i E (λE'=>KA P N ops ts fuel (listed.setIfInBounds i true) E' Q) Q) (hr:Region.ready .any ops listed=[i]:=by decide+kernel):KA P N ops ts (fuel+1) listed E Q:=
 KA.all [i] (λj hj=>by
  have:j=i:=by simpa using hj
  subst this;exact h) hr (by simp)
end
theorem Ox.o {ts:List Nat} (i d:Nat) (s:SV) {o:Oper} (h:K (E.put (some d) s)) (ho:ops[i]?=some o:=by rfl) (hs:Bu P N false E o=some (E.put (some d) s):=by rfl) (hg:Az P ops E o=some true:=by rfl) (hk:(kp o||ts.contains i)=true:=by rfl):Ox P N ops ts i E K Q:=Ox.op i false h hs ho hg hk
theorem Ox.b {ts:List Nat} (i:Nat) (m:List (Root×List TV)) (d:Nat) (xs:List TV) {o:Oper} (h:K ((WW E m).newBox d xs)) (ho:ops[i]?=some o:=by rfl) (hs:Bu P N false E o=some ((WW E m).newBox d xs):=by rfl) (hg:Az P ops E o=some true:=by rfl) (hk:(kp o||ts.contains i)=true:=by rfl):Ox P N ops ts i E K Q:=Ox.op i false h hs ho hg hk
theorem tN {ts:List Nat} (i:Nat) (mv:Bool) (m:List (Root×List TV)) (d:Nat) (s:SV) {o:Oper} (h:K ((WW E m).put (some d) s)) (ho:ops[i]?=some o:=by rfl) (hs:Bu P N mv E o=some ((WW E m).put (some d) s):=by rfl) (hg:Az P ops E o=some true:=by rfl) (hk:(kp o||ts.contains i)=true:=by rfl):Ox P N ops ts i E K Q:=Ox.op i mv h hs ho hg hk
theorem Ox.s {ts:List Nat} (i:Nat) (m:List (Root×List TV)) (rt:Root) (cs:List TV) {o:Oper} (h:K ((WW E m).setRoot rt cs)) (ho:ops[i]?=some o:=by rfl) (hs:Bu P N false E o=some ((WW E m).setRoot rt cs):=by rfl) (hg:Az P ops E o=some true:=by rfl) (hk:(kp o||ts.contains i)=true:=by rfl):Ox P N ops ts i E K Q:=Ox.op i false h hs ho hg hk
theorem tO {ts:List Nat} (i n ix d:Nat) (s:SV) {o:Oper} (h:K ((E.ex n ix).put (some d) s)) (ho:ops[i]?=some o:=by rfl) (hs:Bu P N false E o=some ((E.ex n ix).put (some d) s):=by rfl) (hg:Az P ops E o=some true:=by rfl) (hk:(kp o||ts.contains i)=true:=by rfl):Ox P N ops ts i E K Q:=Ox.op i false h hs ho hg hk
theorem tM {ts:List Nat} {r:β} {x:Option α} {k:α->Option β} (h:x.bind k=some r) (i:Nat) (d:Nat) (f:α->SV) {o:Oper} (hk:∀a,x=some a->k a=some r->K (E.put (some d) (f a))) (ho:ops[i]?=some o) (hs:∀a,x=some a->Bu P N false E o=some (E.put (some d) (f a))) (hg:Az P ops E o=some true:=by rfl) (b:(kp o||ts.contains i)=true:=by rfl):Ox P N ops ts i E K Q:=by
 obtain⟨a,ha,h⟩:=Ac.1 h;exact Ox.op i false (hk a ha h) (hs a ha) ho hg b
theorem j6 {ts : List Nat} {r : β} {x : Option α} {k : α → Option β} {f : FuncId} {l : List AV} {n : Nat} (h : x.bind k = some r) (i d : Nat) (enc : α → SV) {args : Array Operand} {tys : Array TypeId} {c : Bool} (hi : ops[i]? = some oo) (ho : oo.op = .call { callee := .value (.func f), args := args, argTypes := tys }) (b : FP P E ((tys.toList.zip args.toList).map fun (t, x) => (false, t, x)) (List.replicate args.size none) = some (l, c)) (j : ∀ v, x = some v → An P f l (enc v) (List.replicate n .gone)) (hc : c = true ∨ ∀ v, AL (enc v) = false) (hk : ∀ v, x = some v → k v = some r → K (E.put (some d)<|enc v)) (hf : P.funcs[f]? = some fn := by rfl) (hn : (fn.name == "runtime.NumGoroutine") = false := by rfl) (hb : fn.body.isNone = false := by rfl) (hd : oo.dst = some d := by rfl) (hN : Nat.blt d N = true := by rfl) (hz : tys.size = args.size := by rfl) (hg : Az P ops E oo = some true := by rfl) : Ox P N ops ts i E K Q := by
 obtain⟨v,hv,h⟩:=Ac.1 h;have m:∀(l:List (TypeId×Operand)),HC P E (l.map λ(t,x)=>(false,t,x))=some (List.replicate l.length none,E):=by
  intro l
  induction l with
  |nil=>rfl
  |cons x l ih=>
   obtain⟨t,x⟩:=x;simp only[BQ,HC,ih,Bk,Ix]
 have a:(tys.toList.zip args.toList).length=args.size:=by simp[hz]
 have hc':c=true\/AL (enc v)=false:=hc.imp id λh=>h v;have hN':d<N:=by simpa[Bz]using hN
 refine Ox.call i hi ho ⟨fn,hf,by intro e;rw[e]at hn;simp at hn,hb⟩ hg (λd' hd'=>by rw[hd]at hd';injection hd' with hd';subst hd';exact hN') ((tys.toList.zip args.toList).map λ(t,x)=>(false,t,x)) ?_ ?_ (j v hv) ⟨_,E,c,m _,by rw[a];exact b,hc',by rw[hd]⟩<|hk v hv h
 ·rw[HM];have:((λx:Bool×TypeId×Operand=>x.2.2)∘λ(x:TypeId×Operand)=>(false,x.1,x.2))=Prod.snd:=rfl;exact(Ce (λg=>List.map g _) this).trans (QM<|by simp[hz])
 rw[G5]
 exact .inl (List.all_eq_true.2 λx hx=>by
  obtain⟨y,_,rfl⟩:=AE.1 hx
  rfl)
def oI (n:Int):Prop:= -9223372036854775808<=n/\n<=9223372036854775807
def oB (b:Bool):Prop:=True
def oS (s:ByteArray):Prop:=s.size<=9223372036854775807
def ol (o:α->Prop) (l:List α):Prop:=l.length<=9223372036854775807/\∀x∈l,o x
def DW (P:Program) (t:TypeId) (c:α->List TV) (o:α->Prop):Prop:=∀{H:Type} (enc:TypeId×Value->H) (w:World) (d:Nat) (e:Nat) (cs:List Value) (x:DataW H×List MemPlace),DataW.trod enc P w d (λ_=>true) true e t cs=some x->
  ∃a U,o a/\AO w (c a) cs [] U/\∀b∈U,b<w.heap.size
theorem GA {t:TV} (h:BU w t v F U):AO w [t] [v] F U:=by simp_all [AO];grind
theorem eQ {t:TypeId} (ht:P.underlying t=some (.int k)):DW P t (λn:Int=>[.int k n]) (λn=>k.min<=n/\n<=k.max):=by
 intro H enc w b a cs x h
 cases a with
 |zero=>simp[DataW.trod]at h
 |succ a=>
  simp only[DataW.trod,ht]at h;split at h<;>rename_i h1<;>try grind
  all_goals first|(cases h;done)|skip
  rename_i k' n;split at h
  ·rename_i hk;simp only[Ap,TypeDesc.int.injEq]at h1;subst h1;obtain⟨rfl,hw⟩:=hk;simp only[Lit.wf,Af,B5]at hw;exact⟨n,[],hw,GA (by simp[BU]),by simp⟩
  cases h
theorem ZO {t:TypeId} (ht:P.underlying t=some .bool):DW P t (λb:Bool=>[.bool b]) (λ_=>True):=by
 intro H enc w c a cs x h
 cases a with
 |zero=>simp[DataW.trod]at h
 |succ a=>
  simp only[DataW.trod,ht]at h;split at h<;>rename_i h1<;>try (first|(injection h1 with h1;cases h1;done)|(cases h1;done))
  all_goals first|(cases h;done)|skip
  rename_i b;exact⟨b,[],trivial,GA (by simp[BU]),by simp⟩
theorem VZ {t:TypeId} (ht:P.underlying t=some .string):DW P t (λs:ByteArray=>[.str s]) (λs=>s.size<=9223372036854775807):=by
 intro H enc w b a cs x h
 cases a with
 |zero=>simp[DataW.trod]at h
 |succ a=>
  simp only[DataW.trod,ht]at h;split at h<;>rename_i h1<;>try (first|(injection h1 with h1;cases h1;done)|(cases h1;done))
  all_goals first|(cases h;done)|skip
  rename_i s;split at h
  ·rename_i hs;exact⟨s,[],by simpa[maxLen]using hs,GA (by simp[BU]),by simp⟩
  cases h
theorem GB {t e:TypeId} {c:α->List TV} {o:α->Prop} (ht:P.underlying t=some (.slice e)) (p:P.cellsOf e=sz) (h0:0<sz) (hc:∀a,(c a).length=sz) (h:DW P e c o):
  DW P t (λl:List α=>[.sl false e sz (Ai c l)]) (λl=>l.length<=9223372036854775807/\∀a∈l,o a):=by
 intro H enc w d s cs x hx
 rcases Go.Deep.open_slice ht hx with⟨rfl,_⟩|⟨a,len,cap,m,n,D,Pl,rfl,hb,f,z,hm,_,g⟩
 ·refine⟨[],[],⟨by simp,by simp⟩,GA ?_,by simp⟩;simp only[BU];exact⟨none,0,0,[],[],[],rfl,A8 _,by simp,λi u hi=>by simp at hi,by simp[Ai,AO],by simp,by simp,by simp⟩
 simp only[By]at hm;have q:∀k,k<=len->∃(l:List α) (vs:List Value) (U:List Nat),l.length=k/\(∀a∈l,o a)/\vs.length=k*sz/\AO w (Ai c l) vs [] U/\(∀i u,vs[i]?=some u->w.cell? (a.add i)=some u)/\∀b∈U,b<w.heap.size:=by
  intro k
  induction k with
  |zero=>simp[Ai,AO]
  |succ k ih=>
   intro hk;obtain⟨l,vs,U,h1,h2,h3,h4,h5,h6⟩:=ih (by omega);obtain⟨cs',k1,k2⟩:=g k (by omega);obtain⟨y,V,g1,g2,g3⟩:=h enc w d n cs' _ k2;obtain⟨_,k3,k4⟩:=World.cells?_some k1;rw[p]at k1 k3 k4;refine⟨l++ [y],vs++cs',U++V,by simp[h1],?_,?_,?_,?_,?_⟩
   ·grind
   ·grind
   ·grind [D6,Ai]
   ·intro i u hi;by_cases h7:i<vs.length
    ·grind
    rw[Bj<|by omega]at hi;have j:i-vs.length<sz:=by grind
    have:=k4 (i-vs.length) j
    grind [WJ]
   grind
 obtain⟨l,vs,U,h1,h2,h3,h4,h5,h6⟩:=q len<|A8 _;have h8:len<=9223372036854775807:=by grind [maxLen]
 by_cases r:len=0
 ·subst r;have:vs=[]:=AN (by omega);subst this;refine⟨l,U,⟨by omega,h2⟩,GA ?_,h6⟩;exact⟨some a,0,cap,[],U,[],rfl,f,by simp,λi u hi=>by simp at hi,h4,by simp,by simp,by simp⟩
 have v:a.block<w.heap.size:=by
  obtain⟨cs',k1,_⟩:=g 0 (by omega);have:=World.cells?_block k1<|by omega
  grind [Jd]
 refine⟨l,a.block::U,⟨by omega,h2⟩,GA ?_,?_⟩
 ·exact⟨some a,len,cap,vs,U,[a.block],rfl,f,h3,λi u hi=>⟨a,len,cap,rfl,h5 i u hi⟩,h4,by simp,.inl (by simp[Bc,Value.ownBlock]),by simp⟩
 grind
def WM (P:Program) (off:Nat) (fs:List Field) (c:α->List TV) (o:α->Prop):Prop:=∀{H:Type} (enc:TypeId×Value->H) (w:World) (d:Nat) (e:Nat) (cs:List Value) (xs:List (DataW H×List MemPlace)),fs.mapM (λf=>DataW.trod enc P w d (λ_=>true) true e f.type<|(cs.drop f.offset).take<|P.cellsOf f.type)=some xs->cs.length=off+(fs.map λf=>P.cellsOf f.type).sum->
  ∃a U,o a/\AO w (c a) (cs.drop off) [] U/\∀b∈U,b<w.heap.size
theorem Eo:WM P off [] (λ_:Unit=>[]) (λ_=>True):=by
 intro H enc w a b cs xs _ hl;refine⟨(),[],trivial,?_,by simp⟩;rw[DG (by simp at hl;omega)];simp[AO]
theorem Bo {n:Nat} {f:Field} {fs:List Field} {c:α->List TV} {o:α->Prop} (i:f.offset=off) (hn:P.cellsOf f.type=n) (h:DW P f.type c o) (k:WM P (off+n) fs c' o'):
  WM P off (f::fs) (λx:α×β=>c x.1++c' x.2) (λx=>o x.1/\o' x.2):=by
 intro H enc w e g cs xs d hl;rw[List.mapM_cons]at d;obtain⟨y,h1,d⟩:=Ac.1 d;obtain⟨ys,h2,d⟩:=Ac.1 d;subst i hn;obtain⟨a,U,h3,h4,h5⟩:=h enc w e g _ y h1;obtain⟨b,V,k1,k2,k3⟩:=k enc w e g cs ys h2 (by simp only[BQ,EM]at hl;omega);refine⟨(a,b),U++V,⟨h3,k1⟩,?_,?_⟩
 ·have:=D6 h4 k2;rw[Ar]at this
  rwa [<-Hs,BB]at this
 intro z hz
 rcases Au.1 hz with hz|hz
 ·exact h5 z hz
 exact k3 z hz
theorem CU {t:TypeId} {c:α->List TV} {o:α->Prop} (g:β->α) (ht:P.underlying t=some (.struct fs)) (hn:P.cellsOf t=(fs.toList.map λf=>P.cellsOf f.type).sum) (h:WM P 0 fs.toList c' o') (hg:∀b,o' b->o (g b)/\c (g b)=c' b):DW P t c o:=by
 intro H enc w d a cs x hx
 cases a with
 |zero=>simp[DataW.trod]at hx
 |succ a=>
  simp only[DataW.trod,ht]at hx;split at hx
  ·rename_i hl;obtain⟨xs,e,_⟩:=A7.1 hx;obtain⟨b,U,h1,h2,h3⟩:=h enc w d a cs xs e (by rw[hl,hn];simp);obtain⟨h4,h5⟩:=hg b h1;exact⟨g b,U,h4,by rw[h5];simpa using h2,h3⟩
  cases hx
theorem mT {u:α->TV} {d:DataW H} {t:TypeId} {o:α->Prop} {enc:TypeId×Value->H} (h:DW P t (λa=>[u a]) o) (hv:v.cells= #[v]) (k:DataW.Trod enc P w 0 (λ_=>true) true t v d ps):
  ∃a U,o a/\QW w (.one (u a)) v [] U/\∀b∈U,b<w.heap.size:=by
 obtain⟨n,hn⟩:=k;obtain⟨a,U,h1,h2,h3⟩:=h enc w 0 n _ _ hn;rw[hv]at h2;obtain⟨v',c,F1,F2,U1,U2,e,hF,hU,h4,rfl,rfl,rfl⟩:=h2
 injection e with e _
 subst e;obtain⟨rfl,_⟩:=Gm.1 hF.symm;refine⟨a,U1,h1,?_,by simpa[hU]using h3⟩
 grind [QW]
theorem mU {d:DataW H} {t:TypeId} {c:α->List TV} {o:α->Prop} {enc:TypeId×Value->H} {cs:Array Value} (h:DW P t c o) (hv:v= .agg cs) (k:DataW.Trod enc P w 0 (λ_=>true) true t v d ps):
  ∃a U,o a/\QW w (.agg (c a)) v [] U/\∀b∈U,b<w.heap.size:=by
 obtain⟨n,hn⟩:=k;obtain⟨a,U,h1,h2,h3⟩:=h enc w 0 n _ _ hn;subst hv;refine⟨a,U,h1,?_,h3⟩;simp only[QW];exact⟨cs.toList,by simp,by simpa[Value.cells]using h2⟩
theorem iA {r:Reach} {a:Nat} {t:TypeId} (h:Value.okWide P w r a t v) (h1:∀fs,P.underlying t≠some (.struct fs)) (h2:∀n e,P.underlying t≠some (.array n e)):v.cells= #[v]:=by
 unfold Value.okWide at h;split at h
 ·grind
 ·grind
 unfold Cell.okWide at h;cases v<;>first|rfl|skip
 simp_all [Cell.ok]
def St.without (E:St) (r:Root):St:={E with boxes:=Bi E.boxes r none,ver:=Bi E.ver r<|E.ver r+1,gen:=Bi E.gen r (E.gen r+1)}
theorem Vu {r s:Root} (h:s≠r):(E.without r).root s=E.root s:=by simp_all [St.without,St.root,Bi];grind
theorem B8.without {w0:Base} {a:Act} (h:B8 w0 FA UA N w a E blk FS US) (hF:FS .hand=[]) (hU:US .hand=[]) {r:Root} (hm:r.mem=true):
  B8 w0 FA UA N w a (E.without r) blk (Bi (Bi FS r []) .hand (FS r)) (Bi (Bi US r []) .hand (US r)):=by
 have c:r≠ .hand:=by rintro rfl;cases hm
 have d:∀s,Br w w a a E (E.without r) blk blk s:=by
  intro s;by_cases hs:s=r
  ·subst hs;exact⟨.inl (by simp[St.without,Bi]),.inl<|by simp[St.without,Bi]⟩
  by_cases hh:s= .hand
  ·subst hh;exact CZ (by simp_all [St.without,Bi]) (by simp_all [St.without,Bi])<|by simp[St.root,h.nohand]
  exact Ck h (by simp_all [St.without,Bi]) (by simp_all [St.without,Bi]) (Vu hs) (λ_ _=>rfl) (λ_=>rfl) (λ_ _=>rfl) λ_ _=>rfl
 refine h.two (r1:=r) (r2:= .hand) (L1:=[]) (L2:=FS r) (V1:=[]) (V2:=US r) c (by simpa using h.nodup r) (λb hb=>⟨.inl (by simpa using hb),(h.inF r b<|by simpa using hb).2⟩)
  (λb hb=> .inl ⟨r,by simpa using hb⟩) (A8 _) rfl rfl rfl (λ_ _ _ _=>rfl) d (λn _ _=>⟨rfl,rfl⟩) (λs _ hs _=>⟨by simp_all [St.without,Bi],rfl⟩) ?_ trivial ?_ h.len h.nodef
 ·cases r with
  |slot n=>cases hm
  |hand=>cases hm
  |box n=>exact .inl ⟨by simp[St.without,Bi],rfl,rfl⟩
  |ext n=>exact .inl ⟨by simp[St.without,Bi],rfl,rfl⟩
 simp[St.without,Bi,HJ c,h.nohand]
theorem SD {a:Act}:∀{l:List (Bool×TypeId×Operand)},iG w a l (List.replicate l.length none) [] []
 |[]=>⟨rfl,rfl⟩
 |_::l=>SD (l:=l)
section
variable {w0:Base} {a:Act}
theorem jL {f:FuncId} {x:Operand} {l:List (Bool×TypeId×Operand)} {n:Nat} {K:Act->World->Prop} {Q:Exit->Act->World->Prop} (h:B8 w0 FA UA N w a E blk FS US) (hF:FS .hand=[]) (hU:US .hand=[]) {o:Oper} {args:Array Operand} {tys:Array TypeId} (ho:o.op= .call {callee:= .value (.func f),args:=args,argTypes:=tys}) (hf:R2 P f) (hN:∀d,o.dst=some d->d<N) (hl:x::l.map (λx=>x.2.2)=args.toList) {r:Root} (hm:r.mem=true) (hx:E.ptr? x=some (r,[],0)) {cells cells':List TV} (hc:E.boxes r=some cells) (b5:cells'.length=cells.length) {res:SV} {c:Bool} (a8:FP P (E.without r) l (List.replicate l.length none)=some (as,c)) (h0:c=true\/AL res=false/\Ak cells'=false) (hg:An P f (.ext cells::as) res (.ext cells'::List.replicate n .gone)) (hK:∀w' v blk' FS' US',B8 w0 FA UA N w' (a.put o.dst v) (((E.setRoot r cells').bump r).put o.dst res) blk' FS' US'->FS' .hand=[]->US' .hand=[]->K (a.put o.dst v) w'):o.wp P a w K Q:=by
 have h9:r≠ .hand:=by rintro rfl;cases hm
 have k2:=h.without hF hU hm;obtain⟨U',k5,k6⟩:=Jm k2 SD a8;have a0:∃i T F,w.heap[blk r]?=some (.cells i T (0,0))/\AO w cells i.toList F (US r)/\FS r=blk r::F:=by
  rcases h.box r hm with⟨h1,_⟩|⟨cs,i,T,F,h1,h2,h3,h4⟩
  ·grind
  grind
 obtain⟨i,T,F,b2,b3,b4⟩:=a0;obtain⟨b6,ad,b7,a1⟩:=HR h hx;have a9:ad=⟨blk r,0,none⟩:=by simp_all [pa,Addr.add];grind
 subst a9;have a2:cells≠ []:=by
  rintro rfl
  cases r with
  |slot n=>cases hm
  |hand=>cases hm
  |box n=>grind [St.place,St.root,Ba]
  |ext n=>grind [St.place,St.root,Ba]
 have a3:a.eval x::l.map (λx=>a.eval x.2.2)=(args.map a.eval).toList:=by
  rw[QQ,<-hl,BQ,HM];rfl
 have k:Gk w (.ext cells::as) (args.map a.eval).toList (FS r++ []) (US r++U'):=by
  rw[<-a3];exact⟨_,_,FS r,[],US r,U',rfl,rfl,rfl,⟨blk r,i,T,F,a1,b2,b3,b4,a2⟩,k5⟩
 rw[A6]at k;have b8:∀s b,b∈Bi (Bi US r []) .hand (US r) s->∃s',b∈US s':=by
  intro s b hb;by_cases hs:s= .hand
  ·grind [Bf]
  rw[AF hs]at hb;by_cases b0:s=r
  ·grind [Bf]
  grind [AF]
 have c0:∀s b,s≠ .hand->b∈Bi (Bi FS r []) .hand (FS r) s->s≠r/\b∈FS s:=by
  intro s b hs hb;rw[AF hs]at hb;by_cases b0:s=r
  ·grind [Bf]
  grind [AF]
 have k6':∀b∈U',(∃s,b∈US s)\/(c=false/\∃s,s≠r/\b∈FS s):=by grind
 have y:∀b∈FS r,b∉US r++U':=by
  intro b hb hb'
  rcases Au.1 hb' with hb'|hb'
  ·exact h.disU r r b hb hb'
  rcases k6' b hb' with⟨s,h4⟩|⟨_,s,h5,h4⟩
  ·exact h.disU r s b hb h4
  exact h.dis r s (HJ h5) b hb h4
 have m:=hg w _ (FS r) (US r++U') k (h.nodup r) y (by
  intro b hb
  rcases Au.1 hb with hb|hb
  ·exact(h.inF r b hb).2
  rcases Au.1 hb with hb|hb
  ·exact(h.inU r b hb).2
  rcases k6' b hb with⟨s,h4⟩|⟨_,s,h5,h4⟩
  ·exact(h.inU s b h4).2
  exact(h.inF s b h4).2)
 unfold Oper.wp;rw[Eg ho hf];simp only[Oper.upon];rw[Array.toArray_toList]at m;refine Calls.mono m ?_;rintro e w' ⟨v,Fr,Ur,G,V,rfl,g⟩;have p:=g.fin;rw[<-a3]at p;simp only[Gk]at p;obtain⟨v1,vs1,G1,G2,V1,V2,e1,rfl,rfl,⟨b,cur',T',F0,g1,g2,g3,rfl,g5⟩,z⟩:=p;obtain⟨rfl,rfl⟩:=OS z
 injection e1 with e1 e2
 rw[<-e1,a1]at g1
 injection g1 with g1
 injection g1 with g1
 injection g1 with g1
 subst g1;have a4:=g.nodup;have a5:=g.dis;have t:=g.inF;have u:=g.inU;simp only[A6]at a4 a5 t u;have hV:∀b∈Ur++V1,(∃s,b∈US s)\/((b∈FS r\/w.heap.size<=b)/\b<w'.heap.size):=by
  intro b hb;obtain⟨h4,h5⟩:=u b hb
  rcases h4 with h4|h4|h4
  ·rcases Au.1 h4 with h4|h4
   ·grind
   rcases k6' b h4 with h6|⟨h6,s,h7,h8⟩
   ·exact .inl h6
   rcases h0 with h0|⟨c1,c2⟩
   ·grind
   have n1:=Ms g.res c1
   grind [D5]
  ·grind
  omega
 have a7:∀j,((E.setRoot r cells').bump r).place r [] j=cells'[j]? :=by
  intro j
  cases r with
  |slot n=>cases hm
  |hand=>cases hm
  |box n=>simp[St.place,St.bump,St.setRoot,St.root,Bi,Ba]
  |ext n=>simp[St.place,St.bump,St.setRoot,St.root,Bi,Ba]
 have a6:∀j,E.place r [] j=cells[j]? :=by
  intro j
  cases r with
  |slot n=>cases hm
  |hand=>cases hm
  |box n=>grind [St.place,St.root,Ba]
  |ext n=>grind [St.place,St.root,Ba]
 let E1:St:=(E.setRoot r cells').bump r
 have ev:∀s,s≠r->E1.ver s=E.ver s:=by
  intro s hs;cases r<;>simp[E1,St.bump,St.setRoot,Bi,hs]
 have evr:E1.ver r=E.ver r+1:=by cases r<;>simp[E1,St.bump,St.setRoot,Bi]
 have eg:∀s,E1.gen s=E.gen s:=by intro s;cases r<;>rfl
 have er:∀s,s≠r->E1.root s=E.root s:=by
  intro s hs
  cases r with
  |slot n=>cases hm
  |hand=>cases hm
  |box n=>cases s<;>simp[E1,St.bump,St.setRoot,St.root,Bi,hs]
  |ext n=>cases s<;>simp[E1,St.bump,St.setRoot,St.root,Bi,hs]
 have es:∀n,E1.slots n=E.slots n:=by
  intro n
  cases r with
  |slot n=>cases hm
  |hand=>cases hm
  |box n=>rfl
  |ext n=>rfl
 have eb:∀s,E1.boxes s=if s=r then some cells' else E.boxes s:=by
  intro s
  cases r with
  |slot n=>cases hm
  |hand=>cases hm
  |box n=>rfl
  |ext n=>rfl
 have b1:∀s,Br w w' a a E E1 blk blk s:=by
  intro s;by_cases hs:s=r
  ·subst hs;refine⟨.inl (by rw[evr];omega),.inr ⟨eg s,λj ad hv hp=>?_⟩⟩;refine⟨(by cases s<;>first|exact hv|(cases hm)),?_⟩
   grind
  by_cases hh:s= .hand
  ·subst hh;exact CZ (ev _ hs) (eg _)<|by simp[St.root,h.nohand]
  exact Ck h (ev s hs) (eg s) (er s hs) (λ_ _=>rfl) (λ_=>rfl)
   (λb hb=>g.keep b (h.inF s b hb).2<|h.dis s r hs b hb) (λb hb=>g.keep b (h.inU s b hb).2 λe=>h.disU r s b e hb)
 have k7:=h.two (w':=w') (a':=a) (E':=E1) (blk':=blk) (r1:=r) (r2:= .hand) (L1:=blk r::F0) (L2:=Fr) (V1:=V1) (V2:=Ur) h9
  (by grind)
  (λb hb=>by
   grind)
  (λb hb=>by grind)
  g.size g.os g.tape g.output (λb hb q _=>g.keep b hb q) b1 (λn _ _=>⟨es n,rfl⟩) (λs _ hs _=>⟨by grind,rfl⟩)
  (by
   have:CT w' a E1 blk r (blk r::F0) V1:=by
    have:=eb r;rw[Bw rfl]at this
    cases r with
    |slot n=>cases hm
    |hand=>cases hm
    |box n=>exact .inr ⟨cells',cur',T',F0,this,g2,g3,rfl⟩
    |ext n=>exact .inr ⟨cells',cur',T',F0,this,g2,g3,rfl⟩
   exact this)
  trivial (by rw[eb,Bm<|HJ h9];exact h.nohand) h.len h.nodef (hfz:=by
   intro n hn;have e:((E.setRoot r cells').bump r).fz=E.fz:=by rw[IR,DA]
   exact h.frz n<|e▸hn) (hamb:=by rw[Gj,Cr])
 have kh:(Bi (Bi FS r (blk r::F0)) .hand Fr) .hand=Fr:=Bf _ _ _;have kh2:(Bi (Bi US r V1) .hand Ur) .hand=Ur:=Bf _ _ _
 cases hd:o.dst with
 |some d=>
  obtain⟨FS',US',q1,q2,q3⟩:=k7.land (w':=w') (d:=d) (s:=res) (v:=v) (F:=Fr) (U:=Ur) (hN d hd) (Ji g.res) (BG.1 a4).1
   (λb hb=>⟨.inl (by rw[kh];exact hb),(t b<|Bt _ hb).2⟩) (λb hb=> .inl ⟨.hand,by grind⟩) (A8 _) rfl rfl rfl (λ_ _ _=>rfl)
  grind
 |none=>
  obtain⟨FS',US',q1,q2,q3⟩:=k7.drop (w':=w') (A8 _) rfl rfl rfl λ_ _ _=>rfl;have:=hK w' v blk FS' US' (by rw[hd];exact q1) q2 q3
  grind
end
theorem SQ {f:FuncId} (A:Nat->KC) (hA:∀b,(A b).B=[]/\(∀w,(A b).I w)/\∀c,(A b).pin=some c->c=(b,none)) {c:Code} {cells cells':List TV} {res:SV} (hf:P.funcs[f]?=some fn) (hb:fn.body=some c) (h:∀b,Wp P fn.ntmps c (Ca (.ext cells::as) (A b)) λe E=>(e= .normal\/e= .ret)/\∃ss E',Cm P E fn.results.toList=some (ss,E')/\Ct ss=res/\E'.boxes (.ext 0)=some cells') (r:cells'.isEmpty=false):
  An P f (.ext cells::as) res (.ext cells'::List.replicate as.length .gone):=by
 intro w vs FA UA ha k j l;have ha':=ha;obtain⟨v0,vs0,F1,F2,U1,U2,rfl,rfl,rfl,⟨b0,cur0,T0,F0,rfl,_,_,rfl,_⟩,s⟩:=ha;obtain⟨blk,FS,US,hr,hF,hU⟩:=J3 (N:=fn.ntmps) ha' k j l (A:=A b0) ((hA b0).2.1 w) (λb hb=>by grind) (hpin:=λc hc=>by rw[(hA b0).2.2 c hc];exact⟨rfl,λ_ h=>by cases h⟩);refine calls_of_wp hf hb<|wp_mono (h b0 _ _ _ _ _ _ _ _ hr hF hU) ?_;rintro e a w' ⟨E,blk',FS',US',⟨he,ss,E',h1,rfl,o⟩,h2,h3,h4⟩;obtain⟨us,FS2,US2,F,U,k1,k2,k3,k4,k5⟩:=Fe h2 h1;rw[h3,Ar]at k4;rw[h4,Ar]at k5;have i:∀(n:Nat) (vs:List Value),vs.length=n->Gk w' (List.replicate n .gone) vs [] []:=by
  intro n
  induction n with
  |zero=>intro vs hv;simp at hv;subst hv;exact⟨rfl,rfl,rfl⟩
  |succ n ih=>
   intro vs hv
   cases vs with
   |nil=>simp at hv
   |cons v vs=>exact⟨v,vs,[],[],[],[],rfl,rfl,rfl,⟨rfl,rfl⟩,ih vs<|by simpa using hv⟩
 have m:vs0.length=as.length:=by grind [K7]
 have p:blk' (.ext 0)=b0:=by
  rw[k3.xblk];rfl
 obtain⟨d,T,F3,b2,b3,b4⟩:∃d T F3,w'.heap[b0]?=some (.cells d T (0,0))/\AO w' cells' d.toList F3 (US2<|.ext 0)/\FS2 (.ext 0)=b0::F3:=by
  rcases k3.box (.ext 0) rfl with⟨q,_⟩|⟨cs,d,T,F3,q1,q2,q3,q4⟩
  ·grind
  grind
 have hne':cells'≠ []:=by grind
 have g:a.defers=[]/\∃v,(results fn a.tmps).run P w'= .ok v w'/\∃v' F U G V,Ending.returned v= .returned v'/\jX w w' ((b0::F0)++F2) (U1++U2) (Ct ss) (.ext cells'::List.replicate as.length .gone) (.pointer (some ⟨b0,0,none⟩)::vs0) v' F U G V:=by
  refine⟨h2.nodef,_,Ik k1,_,F,U,FS2<|.ext 0,US2<|.ext 0,rfl,?_⟩
  exact{
   res:=Io k2
   fin:=⟨_,vs0,FS2<|.ext 0,[],US2<|.ext 0,[],rfl,by simp,by simp,⟨b0,d,T,F3,rfl,b2,b3,b4,hne'⟩,i _ _ m⟩
   nodup:=by
    rw[<-k4,BG];exact⟨k3.nodup _,k3.nodup _,λx hx y hy e=>k3.dis .hand (.ext 0) (by simp) x hx<|e▸hy⟩
   dis:=by
    intro b hb hb';rw[<-k4]at hb;rw[<-k5]at hb'
    rcases Au.1 hb with hb|hb<;>rcases Au.1 hb' with hb'|hb'
    ·exact k3.disU .hand .hand b hb hb'
    ·exact k3.disU .hand (.ext 0) b hb hb'
    ·exact k3.disU (.ext 0) .hand b hb hb'
    exact k3.disU (.ext 0) (.ext 0) b hb hb'
   inF:=by
    intro b hb;rw[<-k4]at hb
    rcases Au.1 hb with hb|hb
    ·exact k3.inF .hand b hb
    exact k3.inF (.ext 0) b hb
   inU:=by
    intro b hb;rw[<-k5]at hb
    rcases Au.1 hb with hb|hb
    ·exact k3.inU .hand b hb
    exact k3.inU (.ext 0) b hb
   os:=k3.os
   tape:=k3.tape
   output:=k3.output
   size:=k3.size
   keep:=λb hb hF=>k3.keep b hb hF (λe=>by grind)}
 rcases he with rfl|rfl
 ·exact g
 exact g
theorem fD {f:FuncId} {c:Code} {a cells':List TV} {b:SV} (hf:P.funcs[f]?=some fn) (hb:fn.body=some c) (h:Wp P fn.ntmps c (Ca (.ext a::as)) λe E=>(e= .normal\/e= .ret)/\∃ss E',Cm P E fn.results.toList=some (ss,E')/\Ct ss=b/\E'.boxes (.ext 0)=some cells') (d:cells'.isEmpty=false):
 An P f (.ext a::as) b (.ext cells'::List.replicate as.length .gone):=SQ (λ_=>KC.none) (λ_=>⟨rfl,λ_=>trivial,λ_ h=>by cases h⟩) hf hb (λ_=>h) d
def XN (b:Nat):KC:={KC.none with pin:=some (b,none)}
theorem kW (b:Nat):(XN b).B=[]/\(∀w,(XN b).I w)/\∀c,(XN b).pin=some c->c=(b,none):=⟨rfl,λ_=>trivial,λc h=>by injection h with h;exact h.symm⟩
theorem sG {len:Nat} {o:Oper} {m:Nat} (r:Root) (q:List Nat) (j:Nat) (hn:n=(m:Int)) {t e:TypeId} {a i:Operand} (ho:o.op= .indexAddr t a i:=by rfl) (ht:P.underlying t=some (.array len e):=by rfl) (hi:E.cell1 P 0 i=some (.int k n):=by rfl) (hp:E.ptr? a=some (r,q,j):=by rfl) (hc:P.cellsOf e=1:=by rfl) (hl:Nat.blt m len=true:=by rfl) (hs:(E.place r q<|j+m).isSome=true:=by rfl):AB P E o=some (.one<|.ptr r (E.stamp r q) q<|j+m):=by simp_all [AB]
def NN (l:List Int):ByteArray:=strOfNums l
theorem PX {f:Int->List TV} (hf:∀n,f n=[.int .u8 n]):∀l,Ka (Ai f l)=some l
 |[]=>rfl
 |n::l=>by
  have:Ai f (n::l)=f n++Ai f l:=by simp[Ai]
  rw[this,hf];simp only[List.singleton_append,Ka,PX hf l,LS]
theorem sL {f:Int->List TV} {x:Operand} {o:Oper} (hf:∀n,f n=[.int .u8 n]) (l:List Int) {s d e e':TypeId} {a:Bool} {r:Root} {q:List Nat} (ho:o.op= .convert s d x:=by rfl) (hs:P.underlying s=some (.slice e):=by rfl) (hd:P.underlying d=some .string:=by rfl) (he:P.underlying e=some (.int .u8):=by rfl) (hr:E.ref x=some (r,q,j):=by rfl) (hp:E.place r q j=some (.sl a e' 1<|Ai f l):=by rfl):AB P E o=some (.one<|.str<|NN l):=by
 simp only[AB,ho,hs,hd,he,hr,hp,By,PX hf,LS];rfl
def shl (k:IntKind) (a b:Int):Option Int:=if b<0 then none else some<|k.wrap<|a*2^(min b.toNat k.bits)
theorem qJ {x:Operand} {o:Oper} {a b v:Int} (h:shl k a b=some v) {t t2:TypeId} (ho:o.op= .binOp .shl t x y t2:=by rfl) (hx:E.cell1 P t x=some (.int k a):=by rfl) (hy:E.cell1 P t y=some (.int k2 b):=by rfl):AB P E o=some (.one<|.int k v):=by grind [shl,AB,Tn,Tq]
def dr (l:List α) (lo hi:Int):Option (List α):=if 0<=lo/\lo<=hi/\hi<=l.length then some ((l.drop lo.toNat).take<|hi.toNat-lo.toNat)else none
theorem QC (hf:∀x,(f x).length=sz):∀(l:List α) (n:Nat),(Ai f l).take (n*sz)=Ai f (l.take n)
 |l,0=>by simp[Ai]
 |[],n+1=>by simp[Ai]
 |x::l,n+1=>by
  have h1:Ai f (x::l)=f x++Ai f l:=by simp[Ai]
  have h2:Ai f (x::l.take n)=f x++Ai f (l.take n):=by simp[Ai]
  rw[h1,HL,Nat.add_comm,List.take_append,hf x,Nat.add_sub_cancel_left,QC hf l n,List.take_succ_cons,h2,AY (by rw[hf x];omega)]
theorem sK {v:List α} {x oh:Operand} {o:Oper} (hf:∀x,(f x).length=sz) {a b:Int} (h:dr l a b=some v) {t e e':TypeId} {r:Root} {q:List Nat} (ho:o.op= .slice t x lo (some oh) none:=by rfl) (ht:P.underlying t=some (.slice e):=by rfl) (hr:E.ref x=some (r,q,j):=by rfl) (hp:E.place r q j=some (.sl false e' sz<|Ai f l):=by rfl) (hl:(match lo with|some o=>E.cell1 P 0 o|none=>some<|.int .i64 0)=some (.int k1 a):=by rfl) (hh:E.cell1 P 0 oh=some (.int k2 b):=by rfl) (c:P.cellsOf e=sz:=by rfl) (h0:Nat.blt 0 sz=true:=by rfl):AB P E o=some (.one<|.sl false e' sz<|Ai f v):=by
 have h0':0<sz:=by simp_all
 unfold dr at h;split at h
 ·rename_i hc
  injection h with h
  subst h;have hl':∀lo':Option TV,lo'=some (.int k1 a)->(match lo',E.cell1 P 0 oh with|some (.int _ l0),some (.int _ h0)=>if sz=P.cellsOf e/\0<sz/\0<=l0/\l0<=h0/\h0.toNat*sz<=(Ai f l).length then some (SV.one<|.sl false e' sz<|((Ai f l).drop<|l0.toNat*sz).take<|(h0.toNat-l0.toNat)*sz)else none|_,_=>none)=some (SV.one<|.sl false e' sz<|Ai f<|(l.drop a.toNat).take<|b.toNat-a.toNat):=by simp_all [Dm,GG,QC]
  simp only[AB,ho,ht,hr,hp];exact hl' _ hl
 cases h
theorem qK {v:List α} {x:Operand} {o:Oper} (hf:∀x,(f x).length=sz) {a:Int} (h:dr l a (ln l)=some v) {t e e':TypeId} {r:Root} {q:List Nat} (ho:o.op= .slice t x lo none none:=by rfl) (ht:P.underlying t=some (.slice e):=by rfl) (hr:E.ref x=some (r,q,j):=by rfl) (hp:E.place r q j=some (.sl false e' sz<|Ai f l):=by rfl) (hl:(match lo with|some o=>E.cell1 P 0 o|none=>some<|.int .i64 0)=some (.int k1 a):=by rfl) (c:P.cellsOf e=sz:=by rfl) (h0:Nat.blt 0 sz=true:=by rfl):AB P E o=some (.one<|.sl false e' sz<|Ai f v):=by
 have h0':0<sz:=by simp_all
 have b:(Ai f l).length/sz=l.length:=by simp_all [Dm]
 unfold dr at h;split at h
 ·rename_i hc
  injection h with h
  subst h;have hl':∀lo':Option TV,lo'=some (.int k1 a)->(match lo',some (TV.int .i64 (((Ai f l).length/sz:Nat):Int))with|some (.int _ l0),some (.int _ h0)=>if sz=P.cellsOf e/\0<sz/\0<=l0/\l0<=h0/\h0.toNat*sz<=(Ai f l).length then some (SV.one<|.sl false e' sz<|((Ai f l).drop<|l0.toNat*sz).take<|(h0.toNat-l0.toNat)*sz)else none|_,_=>none)=some (SV.one<|.sl false e' sz<|Ai f<|(l.drop a.toNat).take<|((l.length:Nat):Int).toNat-a.toNat):=by simp_all [Dm,GG,QC];grind
  simp only[AB,ho,ht,hr,hp];exact hl' _ hl
 cases h
theorem WA {x y:Option β} {b:Bool} {r:β} (h:(bif b then x else y)=some r) (h1:b=true->x=some r->G) (h2:y=some r->G):G:=by grind
def tR (b:ByteArray):List Int:=b.data.toList.map λc=>(c.toNat:Int)
structure DZ (w w':World) (B:List Nat):Prop where
 os:w'.os=w.os
 tape:w'.tape=w.tape
 output:w'.output=w.output
 size:w.heap.size<=w'.heap.size
 keep:∀b,b<w.heap.size->b∉B->w'.heap[b]?=w.heap[b]?
theorem B8.beside {w0:Base} {a:Act} (h:B8 w0 FA UA N w a E blk FS US) (hb:DZ w w' w0.B) (hB:A'.B=E.amb.B) (hI:A'.I w') (hP:∀b,A'.pin=some b->E.amb.pin=some b):B8 w0 FA UA N w' a {E with amb:=A'} blk FS US:=by
 have hF:∀r,∀b∈FS r,w'.heap[b]?=w.heap[b]? :=λr b hx=>hb.keep b (h.inF r b hx).2 (λe=>by
  obtain⟨h1,h2,h3⟩:=h.ambF b e
  rcases(h.inF r b hx).1 with h4|h4
  ·exact h2 h4
  omega)
 have hU:∀r,∀b∈US r,w'.heap[b]?=w.heap[b]? :=λr b hx=>hb.keep b (h.inU r b hx).2 (λe=>by
  obtain⟨h1,h2,h3⟩:=h.ambF b e
  rcases(h.inU r b hx).1 with h4|h4|h4
  ·exact h3 h4
  ·exact h2 h4
  omega)
 have c:∀s,Br w w' a a E {E with amb:=A'} blk blk s:=λs=>
  Ck h rfl rfl (by cases s<;>rfl) (λ_ _=>rfl) (λ_=>rfl) (hF s) (hU s)
 have hr:∀r,CT w' a {E with amb:=A'} blk r (FS r) (US r):=λr=>
  M6 c (h.root r) (λn _=>⟨rfl,rfl⟩) (λ_=>⟨rfl,rfl⟩) (hF r) (hU r)
 constructor
 ·exact λn=>hr<|.slot n
 ·intro r hm
  cases r with
  |slot n=>cases hm
  |hand=>cases hm
  |box n=>exact hr<|.box n
  |ext n=>exact hr<|.ext n
 ·exact h.nohand
 ·exact h.nodup
 ·exact h.dis
 ·exact h.disU
 ·exact λr b hx=>⟨(h.inF r b hx).1,Aw (h.inF r b hx).2 hb.size⟩
 ·exact λr b hx=>⟨(h.inU r b hx).1,Aw (h.inU r b hx).2 hb.size⟩
 ·exact h.disA
 ·exact hb.os.trans h.os
 ·exact hb.tape.trans h.tape
 ·exact hb.output.trans h.output
 ·exact JA h.size hb.size
 ·exact λb h1 h2 h3=>(hb.keep b (Aw h1 h.size) h3).trans<|h.keep b h1 h2 h3
 ·exact h.len
 ·exact h.nodef
 ·exact h.xblk
 ·rw[hB];exact h.ambB
 ·exact hI
 ·exact h.frz
 ·exact h.ambF
 exact λb hp=>h.pin b<|hP b hp
def I5 (P:Program) (f:FuncId) (A:KC) (as:List AV) (A':KC):Prop:=∀(w:World) (vs:List Value),Gk w as vs [] []->(∀b∈A.B,b<w.heap.size)->A.I w->Calls P f vs.toArray w λe w'=>e= .returned (.tuple #[])/\DZ w w' A.B/\A'.I w'
theorem fE {f:FuncId} {c:Code} (hf:P.funcs[f]?=some fn) (hb:fn.body=some c) (hr:fn.results= #[]) (hp:A.pin=none) (h:Wp P fn.ntmps c (Ca as A) λe E=>(e= .normal\/e= .ret)/\E.amb=A'):I5 P f A as A':=by
 intro w vs ha hB hA;obtain⟨blk,FS,US,g,hF,hU⟩:=J3 (N:=fn.ntmps) ha BN (by simp) (by simp) (A:=A) hA (λb hb=>⟨hB b hb,by simp,by simp⟩) (hpin:=λb h=>by grind);refine calls_of_wp hf hb<|wp_mono (h _ _ _ _ _ _ _ _ g hF hU) ?_;rintro e a w' ⟨E,blk',FS',US',⟨he,rfl⟩,h2,h3,h4⟩;have i:(results fn a.tmps).run P w'= .ok (.tuple #[]) w':=by
  rw[S0 (P:=P),hr];simp
 have d:a.defers=[]/\∃v,(results fn a.tmps).run P w'= .ok v w'/\Ending.returned v= .returned (.tuple #[])/\DZ w w' A.B/\E.amb.I w':=
  ⟨h2.nodef,_,i,rfl,⟨h2.os,h2.tape,h2.output,h2.size,λb h5 h6=>h2.keep b h5 (by simp) h6⟩,h2.ambI⟩
 rcases he with rfl|rfl
 ·exact d
 exact d
theorem Mt {w0:Base} {a:Act} {blk:Root->Nat} (h:B8 w0 FA UA N w a E blk FS US) (hF:FS .hand=[]) (hU:US .hand=[]) (hd:d<N) {s:SV} (hb:DZ w w' w0.B) (hB:A'.B=E.amb.B) (hI:A'.I w') (hs:QW w' s v [] []) (hP:∀b,A'.pin=some b->E.amb.pin=some b):
  ∃FS' US',B8 w0 FA UA N w' (a.put (some d) v) (({E with amb:=A'}:St).put (some d) s) blk FS' US'/\FS' .hand=[]/\US' .hand=[]:=by
 have k:=h.beside hb hB hI hP;exact k.land (w':=w') (F:=[]) (U:=[]) hd (Ji hs) BN (by simp) (by simp) (A8 _) rfl rfl rfl λ_ _ _=>rfl
theorem pL {rr : β} {x : Option α} {k : α → Option β} {f : FuncId} {l : List AV} (h : x.bind k = some rr) (d : Nat) (Am : α → KC) {args : Array Operand} {tys : Array TypeId} (ho : oo.op = .call { callee := .value (.func f), args := args, argTypes := tys }) (hA : E.amb = A) (hB : ∀ v, (Am v).B = A.B ∧ (Am v).pin = none) (i : FP P E ((tys.toList.zip args.toList).map fun (t, x) => (false, t, x)) (List.replicate args.size none) = some (l, true)) (j : ∀ w vs F U, Gk w l vs F U → F = [] ∧ U = []) (m : ∀ v, x = some v → I5 P f A l (Am v)) (hk : ∀ v, x = some v → k v = some rr → Ao P N ops rest (({ E with amb := Am v } : St).put (some d)<|.tup []) Q) (hf : P.funcs[f]? = some fn := by rfl) (hn : (fn.name == "runtime.NumGoroutine") = false := by rfl) (hb : fn.body.isNone = false := by rfl) (hd : oo.dst = some d := by rfl) (hN : Nat.blt d N = true := by rfl) (hz : tys.size = args.size := by rfl) (hg : Az P ops E oo = some true := by rfl) : Ao P N ops (oo :: rest) E Q := by
 obtain⟨v,hv,h⟩:=Ac.1 h;have hN':d<N:=by simp_all
 intro w0 FA UA w a blk FS US hr hF hU;simp only[wpList,AS hr hg,By];refine .inl ?_;have g:((tys.toList.zip args.toList).map λ(t,x)=>(false,t,x)).length=args.size:=by simp[hz]
 obtain⟨U',k5,k6⟩:=Jm hr (SD (l:=(tys.toList.zip args.toList).map λ(t,x)=>(false,t,x))) (by rw[g];exact i);have n:((tys.toList.zip args.toList).map λ(t,x)=>(false,t,x)).map (λx=>a.eval x.2.2)=(args.map a.eval).toList:=by
  rw[QQ,HM];have:((λx:Bool×TypeId×Operand=>a.eval x.2.2)∘λ(x:TypeId×Operand)=>(false,x.1,x.2))=a.eval∘Prod.snd:=rfl
  grind [QM]
 rw[n]at k5;obtain⟨_,rfl⟩:=j _ _ _ _ k5;have o:w0.B=A.B:=hr.ambB.trans<|by rw[hA]
 have c:=m v hv w _ k5 (λb hb=>by
  rw[<-o]at hb
  exact Aw (hr.ambF b hb).1 hr.size) (by rw[<-hA];exact hr.ambI)
 unfold Oper.wp;rw[Eg ho ⟨fn,hf,by grind,hb⟩];refine Calls.mono c ?_;rintro e w' ⟨rfl,p,hI⟩;obtain⟨FS',US',q1,q2,q3⟩:=Mt (s:= .tup []) (v:= .tuple #[]) hr hF hU hN' (by grind) (by grind) hI ⟨[],rfl,rfl,rfl,rfl⟩ (λb hb=>by grind);rw[hd];exact hk v hv h _ _ _ _ _ _ _ _ q1 q2 q3
def G0 (P:Program) (Am:List γ->KC) (lt:γ->γ->Bool) (g:FuncId) (cap:Array Value):Prop:=(∀(args:Array Value) (w:World),(callFunc g args).run P w= .ok (.enter g args) w)/\∀(l:List γ) (i j:Int) (x y:γ),gi l i=some x->gi l j=some y->∀w,(Am l).I w->(∀b∈(Am l).B,b<w.heap.size)->Calls P g (#[.int .i64 i,.int .i64 j]++cap) w λe w'=>e= .returned (.bool<|lt x y)/\DZ w w' (Am l).B/\(Am l).I w'
def I3 (P:Program) (Am:List γ->KC) (sf:FuncId) (cap:Array Value):Prop:=∀(l:List γ) (i j:Int) (x y:γ),gi l i=some x->gi l j=some y->∀w,(Am l).I w->(∀b∈(Am l).B,b<w.heap.size)->∃w',(callFunc sf<|#[.int .i64 i,.int .i64 j]++cap).run P w= .ok (.value<|.tuple #[]) w'/\DZ w w' (Am l).B/\(Am<|si (si l i y) j x).I w'
theorem PA {a:Act} {o:Oper} {t:Nat} {args:Array Operand} {tys:Array TypeId} {g:FuncId} {cap:Array Value} (ho:o.op= .call {callee:= .value (.tmp t),args:=args,argTypes:=tys}) (hv:a.eval (.tmp t)= .func (.func g) #[] cap):
 (execOp a.eval o).run P w=(callFunc g<|args.map a.eval++cap).run P w:=by grind [execOp,resolve,Deferred.ofValue,invoke]
theorem i9 {f:Fn} {w0:Base} {a:Act} {blk:Root->Nat} (h:B8 w0 FA UA N w a E blk FS US) {t:Nat} {ta cap:Array Value} (hs:E.slots t= .one (.fn f ta cap)):a.eval (.tmp t)= .func f ta cap:=by
 have:=h.slot t;rw[hs]at this;exact this.1.1
theorem pK {l:List γ} {x y:γ} {i j:Int} {g:FuncId} {cap:Array Value} (c:G0 P Am lt g cap) (hx:gi l i=some x) (hy:gi l j=some y) (d:Nat) {t:Nat} {tys:Array TypeId} (hk:Ao P N ops rest (E.put (some d) (.one (.bool (lt x y)))) Q) (hA:E.amb=Am l:=by rfl) (ho:oo.op= .call {callee:= .value (.tmp t),args:= #[o1,o2],argTypes:=tys}:=by rfl) (hs:E.slots t= .one (.fn (.func g) #[] cap):=by rfl) (h1:E.cell1 P 0 o1=some (.int .i64 i):=by rfl) (h2:E.cell1 P 0 o2=some (.int .i64 j):=by rfl) (hd:oo.dst=some d:=by rfl) (hN:Nat.blt d N=true:=by rfl) (hg:Az P ops E oo=some true:=by rfl):Ao P N ops (oo::rest) E Q:=by
 have hN':d<N:=by simp_all
 intro w0 FA UA w a blk FS US hr hF hU;simp only[wpList,AS hr hg,By];refine .inl ?_;have h:w0.B=(Am l).B:=hr.ambB.trans<|by rw[hA]
 have m:∀b∈(Am l).B,b<w.heap.size:=λb hb=>by
  rw[<-h]at hb;exact Aw (hr.ambF b hb).1 hr.size
 have hI:(Am l).I w:=by rw[<-hA];exact hr.ambI
 have f:=c.2 l i j x y hx hy w hI m;unfold Oper.wp;have e1:=BJ hr h1;have e2:=BJ hr h2;have k:(execOp a.eval oo).run P w= .ok (.enter g<|#[.int .i64 i,.int .i64 j]++cap) w:=by
  rw[PA ho<|i9 hr hs];rw[c.1];simp[e1,e2]
 rw[k];refine Calls.mono f ?_;rintro e w' ⟨rfl,n,hI'⟩;obtain⟨FS',US',q1,q2,q3⟩:=Mt (A':=E.amb) (s:= .one (.bool<|lt x y)) (v:= .bool (lt x y)) hr hF hU hN' (by rw[h];exact n) rfl (by grind) ⟨⟨rfl,rfl,rfl⟩,rfl⟩ λ_ hb=>hb;rw[hd];exact hk _ _ _ _ _ _ _ _ q1 q2 q3
theorem pI {l:List γ} {x y:γ} {i j:Int} {cap:Array Value} (c:I3 P Am sf cap) (hB:∀l l',(Am l).B=(Am l').B/\(Am l).pin=none) (hx:gi l i=some x) (hy:gi l j=some y) (d:Nat) {t:Nat} {tys:Array TypeId} (hk:Ao P N ops rest (({E with amb:=Am (si (si l i y) j x)}:St).put (some d)<|.tup []) Q) (hA:E.amb=Am l:=by rfl) (ho:oo.op= .call {callee:= .value (.tmp t),args:= #[o1,o2],argTypes:=tys}:=by rfl) (hs:E.slots t= .one (.fn (.func sf) #[] cap):=by rfl) (h1:E.cell1 P 0 o1=some (.int .i64 i):=by rfl) (h2:E.cell1 P 0 o2=some (.int .i64 j):=by rfl) (hd:oo.dst=some d:=by rfl) (hN:Nat.blt d N=true:=by rfl) (hg:Az P ops E oo=some true:=by rfl):Ao P N ops (oo::rest) E Q:=by
 have hN':d<N:=by simp_all
 intro w0 FA UA w a blk FS US hr hF hU;simp only[wpList,AS hr hg,By];refine .inl ?_;have f:w0.B=(Am l).B:=hr.ambB.trans<|by rw[hA]
 have g:∀b∈(Am l).B,b<w.heap.size:=λb hb=>by
  rw[<-f]at hb;exact Aw (hr.ambF b hb).1 hr.size
 have hI:(Am l).I w:=by rw[<-hA];exact hr.ambI
 obtain⟨w',h,k,hI'⟩:=c l i j x y hx hy w hI g;unfold Oper.wp;have e1:=BJ hr h1;have e2:=BJ hr h2;have e:(execOp a.eval oo).run P w= .ok (.value<|.tuple #[]) w':=by
  rw[PA ho<|i9 hr hs]
  grind
 rw[e];rw[Oper.upon_value];obtain⟨FS',US',q1,q2,q3⟩:=Mt (s:= .tup []) (v:= .tuple #[]) hr hF hU hN' (by grind) (by grind) hI' ⟨[],rfl,rfl,rfl,rfl⟩ (λb hb=>by rw[(hB _ []).2]at hb;cases hb);rw[hd];exact hk _ _ _ _ _ _ _ _ q1 q2 q3
def fW (l:List γ) (i j:Int):Option (γ×γ):=(gi l i).bind λx=>(gi l j).bind λy=>some (x,y)
theorem nB {rr:β} {l:List γ} {i j:Int} {k:γ×γ->Option β} {g:FuncId} {cap:Array Value} (a:G0 P Am lt g cap) (h:(fW l i j).bind k=some rr) (d:Nat) {t:Nat} {tys:Array TypeId} (hk:∀v,k v=some rr->Ao P N ops rest (E.put (some d) (.one (.bool (lt v.1 v.2)))) Q) (hA:E.amb=Am l:=by rfl) (ho:oo.op= .call {callee:= .value (.tmp t),args:= #[o1,o2],argTypes:=tys}:=by rfl) (hs:E.slots t= .one (.fn (.func g) #[] cap):=by rfl) (h1:E.cell1 P 0 o1=some (.int .i64 i):=by rfl) (h2:E.cell1 P 0 o2=some (.int .i64 j):=by rfl) (hd:oo.dst=some d:=by rfl) (hN:Nat.blt d N=true:=by rfl) (hg:Az P ops E oo=some true:=by rfl):Ao P N ops (oo::rest) E Q:=by
 obtain⟨v,hv,h⟩:=Ac.1 h;obtain⟨x,hx,hv⟩:=Ac.1 hv
 grind [Ac,pK]
def Zv (l:List γ) (i j:Int):Option (List γ):=(gi l i).bind λx=>(gi l j).bind λy=>some<|si (si l i y) j x
theorem m8 {rr:β} {l:List γ} {i j:Int} {k:List γ->Option β} {cap:Array Value} (a:I3 P Am sf cap) (hB:∀l l',(Am l).B=(Am l').B/\(Am l).pin=none) (h:((Zv l i j).bind k)=some rr) (d:Nat) {t:Nat} {tys:Array TypeId} (hk:∀l',k l'=some rr->Ao P N ops rest (({E with amb:=Am l'}:St).put (some d)<|.tup []) Q) (hA:E.amb=Am l:=by rfl) (ho:oo.op= .call {callee:= .value (.tmp t),args:= #[o1,o2],argTypes:=tys}:=by rfl) (hs:E.slots t= .one (.fn (.func sf) #[] cap):=by rfl) (h1:E.cell1 P 0 o1=some (.int .i64 i):=by rfl) (h2:E.cell1 P 0 o2=some (.int .i64 j):=by rfl) (hd:oo.dst=some d:=by rfl) (hN:Nat.blt d N=true:=by rfl) (hg:Az P ops E oo=some true:=by rfl):Ao P N ops (oo::rest) E Q:=by
 obtain⟨l',hl',h⟩:=Ac.1 h;obtain⟨x,hx,hl'⟩:=Ac.1 hl'
 grind [Ac,pI]
def qO (ls:List (Nat×SV)) (bs:List (Root×List TV)) (A:KC):St:={iH ls bs with amb:=A}
def TV.flat:TV->Bool
 | .int .. | .bool _| .str _| .fn .. =>true
 |_=>false
def aZ:AV->Bool
 | .sv (.one t)=>t.flat
 | .sv (.agg cs)=>cs.all TV.flat
 |_=>false
theorem XM {t:TV} (h:BU w t v F U) (ht:t.flat=true):F=[]/\U=[]:=by
 cases t<;>first|(cases ht;done)|(exact h.2)
theorem HA:∀{ts:List TV} {vs:List Value} {F U:List Nat},AO w ts vs F U->ts.all TV.flat=true->F=[]/\U=[]
 |[],vs,F,U,h,_=>by exact h.2
 |t::ts,vs,F,U,h,ht=>by
  simp only[EO,Af]at ht;obtain⟨v,a,F1,F2,U1,U2,rfl,rfl,rfl,h1,h2⟩:=h;obtain⟨rfl,rfl⟩:=XM h1 ht.1;obtain⟨rfl,rfl⟩:=HA h2 ht.2;exact⟨rfl,rfl⟩
theorem Tr:∀{l:List AV},l.all aZ=true->∀(w:World) (vs:List Value) (F U:List Nat),Gk w l vs F U->F=[]/\U=[]
 |[],_,w,vs,F,U,h=>h.2
 |s::l,hl,w,vs,F,U,h=>by
  simp only[EO,Af]at hl;obtain⟨v,a,F1,F2,U1,U2,rfl,rfl,rfl,h1,h2⟩:=h;obtain⟨rfl,rfl⟩:=Tr hl.2 w a F2 U2 h2;have:F1=[]/\U1=[]:=by
   match s,hl.1,h1 with
   | .sv (.one t),ht,h1=>exact XM h1.1 ht
   | .sv (.agg cs),ht,h1=>obtain⟨_,_,h1⟩:=h1;exact HA h1 ht
  grind
def TV.val:TV->Value
 | .int k n=> .int k n
 | .bool b=> .bool b
 | .str s=> .string s
 | .fn f ta c=> .func f ta c
 |_=> .bool false
theorem kR {t:TV} (h:BU w t v F U) (ht:t.flat=true):v=t.val:=by
 cases t<;>first|(cases ht;done)|(exact h.1)
theorem PB:∀{ts:List TV} {vs:List Value} {F U:List Nat},AO w ts vs F U->ts.all TV.flat=true->vs=ts.map TV.val
 |[],vs,F,U,h,_=>by exact h.1
 |t::ts,vs,F,U,h,ht=>by
  simp only[EO,Af]at ht;obtain⟨v,a,F1,F2,U1,U2,rfl,_,_,h1,h2⟩:=h;rw[kR h1 ht.1,PB h2 ht.2];rfl
theorem kC {t:TV} (ht:t.flat=true):BU w t t.val [] []:=by
 cases t<;>first|(cases ht;done)|(simp[BU,TV.val])
theorem Pn:∀{ts:List TV},ts.all TV.flat=true->AO w ts (ts.map TV.val) [] []
 |[],_=>by simp[AO]
 |t::ts,ht=>by
  simp only[EO,Af]at ht;exact⟨_,_,[],[],[],[],rfl,rfl,rfl,kC ht.1,Pn ht.2⟩
theorem R8 {t:TV}:t.val.oneCell'=true:=by cases t<;>rfl
theorem Gi (e:TypeId) (fz:Nat×Nat) (g:Nat):∀(vs:List Value) (o:Nat) (a:Array Value) (w:World),w.heap[g]?=some (.cells a e fz)->o+vs.length<=a.size->(w.setCells g o vs).heap[g]?=some (.cells (setRow a.toList o vs).toArray e fz)
 |[],o,a,w,h,_=>by simp_all [World.setCells,setRow]
 |v::vs,o,a,w,h,hl=>by
  simp only[Bk]at hl;simp only[World.setCells];have h1:(w.setCell ⟨g,o,none⟩ v).heap[g]?=some (.cells (a.setIfInBounds o v) e fz):=by grind [World.setCell]
  rw[Gi e fz g vs (o+1) (a.setIfInBounds o v) _ h1 (by simp;omega)];congr 2;apply Array.ext';simp only[Array.toList_setIfInBounds];apply B7;intro k;have l1:(a.toList.take o).length=o:=by simp;omega
  have l2:((a.toList.set o v).take<|o+1).length=o+1:=by simp;omega
  simp only[setRow,Cw]
  rcases Nat.lt_trichotomy k o with hk|hk|hk
  ·grind
  ·simp_all [CS]
  have eL:(List.take (o+1) (a.toList.set o v)++(vs++List.drop (o+1+vs.length) (a.toList.set o v)))[k]?=(vs++List.drop (o+1+vs.length) (a.toList.set o v))[k-(o+1)]? :=by grind
  have eR:(List.take o a.toList++(v::vs++List.drop (o+(v::vs).length) a.toList))[k]?=(vs++List.drop (o+(v::vs).length) a.toList)[k-(o+1)]? :=by
   rw[Bj (by omega),l1,show k-o=(k-(o+1))+1 by omega,CB,List.getElem?_cons_succ]
  rw[eL,eR];by_cases hv:k-(o+1)<vs.length
  ·grind
  rw[Bj (by omega),Bj (by omega),NU,NU,List.getElem?_set_ne (by omega),Bk]
  grind
structure jV (n b g cap:Nat) (e T:TypeId) (sz:Nat) (enc:γ->List TV) (w:World) (l:List γ):Prop where
 ne:b≠g
 len:l.length=n
 box:w.heap[b]?=some (.cells #[.slice (some ⟨g,0,none⟩) l.length cap] T (0,0))
 row:∃cur,w.heap[g]?=some (.cells cur e (0,0))/\cur.size=cap*sz/\cur.toList.take (l.length*sz)=(Ai enc l).map TV.val
 le:l.length<=cap/\cap<=maxLen
def Lb (n b g cap:Nat) (e T:TypeId) (sz:Nat) (enc:γ->List TV) (l:List γ):KC where
 B:=[b,g]
 I:=λw=>jV n b g cap e T sz enc w l
 st:=λw w' h hk=>⟨h.ne,h.len,by rw[hk b<|by simp];exact h.box,by rw[hk g<|by simp];exact h.row,h.le⟩
 rd:=λad=>if ad.spot.isSome=true then none else if ad.block=b then(if ad.off=0 then some (.slice (some ⟨g,0,none⟩) n cap)else none)else if ad.block=g then(if ad.off<l.length*sz then((Ai enc l).map TV.val)[ad.off]? else none)else none
 rdI:=λw ad v h hr=>by
  obtain⟨bl,off,spot⟩:=ad
  cases spot with
  |some s=>simp at hr
  |none=>
   simp only[Option.isSome_none,NW,mG]at hr;split at hr
   ·rename_i hb;subst hb;split at hr
    ·rename_i ho;subst ho
     injection hr with hr
     subst hr;simp[World.cell?,h.box,h.len]
    cases hr
   split at hr
   ·rename_i hg;subst hg;split at hr
    ·rename_i ho;obtain⟨a,h1,h2,h3⟩:=h.row
     grind [World.cell?]
    cases hr
   cases hr
theorem OL (f:γ->List TV) (x:γ) (l:List γ):Ai f (x::l)=f x++Ai f l:=by simp[Ai]
theorem FZ (g:Nat):∀(vs:List Value) (o:Nat) (w:World),(w.setCells g o vs).tape=w.tape
 |[],_,_=>rfl
 |v::vs,o,w=>by
  simp only[World.setCells];rw[FZ g vs,World.tape_setCell]
theorem Ln (f:α->β) (A B:List α) (j:Nat):(setRow A j B).map f=setRow (A.map f) j (B.map f):=by
 simp[setRow,List.map_take,List.map_drop]
theorem VE {enc:γ->List TV} (a:∀x,(enc x).length=sz) (x z:γ):setRow (enc x) 0 (enc z)=enc z:=by grind [setRow]
theorem Nt {l:List γ} {i:Int} {x z:γ} {enc:γ->List TV} (a:∀x,(enc x).length=sz) (h:gi l i=some x):setRow (Ai enc l) (i.toNat*sz) (enc z)=Ai enc (si l i z):=
 C8 a h (k:=0) (by rw[a];simp) (VE a x z)
theorem Fs {i:Int} (h:gi l i=some x):0<=i/\l[i.toNat]?=some x:=by grind [gi]
theorem Zx {ie:TypeInfo} {b g cap:Nat} {e T:TypeId} {enc:γ->List TV} (f:∀x,(enc x).length=sz) (n:Nat) (gS:Bool) (hx:∀args W,(callFunc sf args).run P W=((Extern.ReflectliteSwapper.swap gS args).run P W).andThen λv w'=> .ok (.value v) w') (r:P.info? e=some ie) (h:ie.size=sz) (p:∀w,(isAgg e).run P w= .ok true w):
  I3 P (Lb n b g cap e T sz enc) sf #[.slice (some ⟨g,0,none⟩) n cap,typeHandle P e]:=by
 intro l i j x y hi hj w hI hB;obtain⟨s,hn,h4,⟨d,hg,h7,t⟩,h8⟩:=hI;obtain⟨i0,i1⟩:=Fs hi;obtain⟨j0,j1⟩:=Fs hj;obtain⟨a,rfl⟩:=BE i0;obtain⟨c,rfl⟩:=BE j0;simp only[Cx]at i1 j1;have la:=(Ad.1 i1).1;have lc:=(Ad.1 j1).1;have hX:((enc x).map TV.val).length=sz:=by grind
 have hY:((enc y).map TV.val).length=sz:=by grind
 have h5:(Ai enc l).length=l.length*sz:=Dm f l;have h6:l.length*sz<=d.size:=by simp_all [B4]
 have u:(a+1)*sz<=l.length*sz:=B4 _ la;have h0:(c+1)*sz<=l.length*sz:=B4 _ lc;rw[HL]at u h0;have cell:∀(m:Nat) (z:γ),l[m]?=some z->∀k v,((enc z).map TV.val)[k]?=some v->w.cell? ⟨g,0+m*ie.size+k,none⟩=some v:=by
  intro m z hm k v hk;have h9:=(Ad.1 hk).1;have lm:=(Ad.1 hm).1;have a0:(m+1)*sz<=l.length*sz:=B4 _ lm;rw[h,HK];have e1:(Ai enc l)[m*sz+k]?=(enc z)[k]? :=by
   have:=GG f l m;have h2:(Ai enc l)[m*sz+k]?=((Ai enc l).drop<|m*sz)[k]? :=by grind
   grind [Bp,Ai]
  have e2:d.toList[m*sz+k]?=some v:=by
   have:(d.toList.take<|l.length*sz)[m*sz+k]?=d.toList[m*sz+k]? :=by grind
   grind
  grind [World.cell?]
 have frz:∀(m k:Nat),w.frozen? ⟨g,0+m*ie.size+k,none⟩=false:=by grind [World.frozen?]
 have o:=Go.Lib.run_swap_cells (P:=P) gS e ie r p g 0 n cap a c (by omega) (by omega) ((enc x).map TV.val) ((enc y).map TV.val) (by rw[hX,h]) (by rw[hY,h]) (λv hv=>by grind [R8]) (λv hv=>by grind [R8]) w (cell a x i1) (cell c y j1) (λk _=>frz a k) λk _=>frz c k;simp only[HK,h]at o;have h1:=Gi e (0,0) g ((enc y).map TV.val) (a*sz) d w hg (by rw[hY];omega);have a1:(setRow d.toList (a*sz)<|(enc y).map TV.val).toArray.size=d.size:=by grind [Db]
 have h2:=Gi e (0,0) g ((enc x).map TV.val) (c*sz) _ _ h1 (by grind);have kB:∀k,k<w.heap.size->k≠g->((w.setCells g (a*sz)<|(enc y).map TV.val).setCells g (c*sz)<|(enc x).map TV.val).heap[k]?=w.heap[k]? :=by grind [World.heap_setCells_other]
 refine⟨(w.setCells g (a*sz)<|(enc y).map TV.val).setCells g (c*sz)<|(enc x).map TV.val,?_,⟨?_,?_,?_,?_,?_⟩,?_⟩
 ·rw[hx];have ea:(#[Value.int .i64 (a:Int),Value.int .i64 (c:Int)]++ #[Value.slice (some ⟨g,0,none⟩) n cap,typeHandle P e])= #[.int .i64 (a:Int),.int .i64 (c:Int),.slice (some ⟨g,0,none⟩) n cap,typeHandle P e]:=rfl;rw[ea,o];rfl
 ·rw[World.os_setCells,World.os_setCells]
 ·rw[FZ,FZ]
 ·rw[World.output_setCells,World.output_setCells]
 ·grind
 ·grind [Lb]
 have q:(si (si l (a:Int) y) (c:Int) x).length=l.length:=by simp[si]
 have lcur:d.toList.length=d.size:=by simp
 have a2:(setRow d.toList (a*sz)<|(enc y).map TV.val).length=d.size:=by omega
 have a3:(setRow (setRow d.toList (a*sz)<|(enc y).map TV.val) (c*sz)<|(enc x).map TV.val).length=d.size:=by grind [Db]
 refine⟨s,q.trans hn,?_,⟨_,h2,?_,?_⟩,by grind⟩
 ·grind
 ·grind
 rw[q];rw[Ia (by rw[hX];omega) (by grind),Ia (by rw[hY];omega) (by grind),t,<-Ln,<-Ln];have e1:setRow (Ai enc l) (a*sz) (enc y)=Ai enc (si l (a:Int) y):=by grind [Nt,Cx]
 obtain⟨z0,h3⟩:∃z0,gi (si l (a:Int) y) (c:Int)=some z0:=by grind [si,gi]
 have e2:=Nt f (z:=x) h3
 grind
theorem WI {w0:Base} {a:Act} {blk:Root->Nat} (h:B8 w0 FA UA N w a E blk FS US) {t:Nat} {ad:Addr} (hs:E.slots t= .one (.adr ad)):a.eval (.tmp t)= .pointer (some ad):=by
 have:=h.slot t;rw[hs]at this;exact this.1.1
theorem mI {w0:Base} {a:Act} {blk:Root->Nat} (h:B8 w0 FA UA N w a E blk FS US) {t:Nat} {ad:Addr} {n c:Nat} (hs:E.slots t= .one (.hdr ad n c)):a.eval (.tmp t)= .slice (some ad) n c:=by
 have:=h.slot t;rw[hs]at this;exact this.1.1
theorem DE.any {o:Oper} (d:Nat) (t:TV) (hk:DE P N ops rest (E.put (some d) (.one t)) K) (b:∀(w0:Base) (FA UA:List Nat) (w:World) (a:Act) (blk:Root->Nat) (FS US:Root->List Nat),B8 w0 FA UA N w a E blk FS US->∃v,(execOp a.eval o).run P w= .ok (.value v) w/\BU w t v [] []/\v.cells= #[v]) (hd:o.dst=some d:=by rfl) (hN:Nat.blt d N=true:=by rfl) (hg:Az P ops E o=some true:=by rfl):DE P N ops (o::rest) E K:=by
 have hN':d<N:=by simp_all
 intro w0 FA UA w a blk FS US k1 k2 k3;obtain⟨v,h1,h2,h3⟩:=b w0 FA UA w a blk FS US k1;simp only[wpStill,AS k1 hg,By,Oper.still,h1,Oper.stillUpon_value];rw[hd];refine hk _ _ _ _ _ _ _ _ (k1.put (F:=[]) (U:=[]) hN' (by grind [CW,E4]) T6.none) ?_ ?_
 ·grind [AF]
 grind [AF]
theorem Kl {o:Oper} {ty:TypeId} {x:Nat} (d:Nat) (t:TV) (v:Value) {ad:Addr} (hk:DE P N ops rest (E.put (some d) (.one t)) K) (hs:E.slots x= .one (.adr ad)) (b:E.amb.rd ad=some v) (hv:∀w,BU w t v [] []) (hc:v.cells= #[v]) (ha:Tt P ty=false) (hu:(P.underlying ty).isSome=true) (ho:o.op= .load ty (.tmp x):=by rfl) (hd:o.dst=some d:=by rfl) (hN:Nat.blt d N=true:=by rfl) (hg:Az P ops E o=some true:=by rfl):DE P N ops (o::rest) E K:=
 DE.any d t hk (λw0 FA UA w a blk FS US h=>by
  have h1:=WI h hs;have h2:=E.amb.rdI w ad v h.ambI b;have c:P.underlying ty≠none:=by grind
  simp_all [Ku,execOp,Instr.loadAt,Instr.sureAddr,loadVar]) hd hN hg
theorem Nh {o:Oper} {x f:Nat} (d:Nat) {ad:Addr} {st:TypeId} (hk:DE P N ops rest (E.put (some d) (.one (.adr (ad.add fd.offset)))) K) (hs:E.slots x= .one (.adr ad)) (c:P.underlying st=some (.struct fs)) (hf:fs[f]?=some fd) (b:P.cellsOf fd.type≠0) (ho:o.op= .fieldAddr st (.tmp x) f:=by rfl) (hd:o.dst=some d:=by rfl) (hN:Nat.blt d N=true:=by rfl) (hg:Az P ops E o=some true:=by rfl):DE P N ops (o::rest) E K:=
 DE.any d (.adr<|ad.add fd.offset) hk (λw0 FA UA w a blk FS US h=>by
  have h1:=WI h hs;obtain⟨i,hi,_⟩:=Dd b;refine⟨.pointer<|some<|ad.add fd.offset,?_,by simp[BU],rfl⟩
  simp[execOp,ho,h1,Instr.fieldAt,run_underlying c,hf,Instr.sureAddr,fieldPlace,run_sizeOf w hi,b]) hd hN hg
theorem WL {o:Oper} {x:Nat} {i:Operand} (d:Nat) {ad:Addr} {n c:Nat} {t e:TypeId} {m:Int} (hk:DE P N ops rest (E.put (some d) (.one (.adr (ad.add (m.toNat*P.cellsOf e))))) K) (hs:E.slots x= .one (.hdr ad n c)) (ht:P.underlying t=some (.slice e)) (hi:E.cell1 P 0 i=some (.int k m)) (h0:0<=m) (hm:m<n) (f:P.cellsOf e≠0) (ho:o.op= .indexAddr t (.tmp x) i:=by rfl) (hd:o.dst=some d:=by rfl) (hN:Nat.blt d N=true:=by rfl) (hg:Az P ops E o=some true:=by rfl):DE P N ops (o::rest) E K:=
 DE.any d (.adr<|ad.add<|m.toNat*P.cellsOf e) hk (λw0 FA UA w a blk FS US h=>by
  have h1:=mI h hs;have h2:=BJ h hi;obtain⟨inf,b,_⟩:=Dd f;refine⟨.pointer<|some<|ad.add<|m.toNat*P.cellsOf e,?_,by simp[BU],rfl⟩
  simp[execOp,ho,h1,h2,Instr.indexAt,run_underlying ht,asIntOf,h0,hm,run_sizeOf w b]) hd hN hg
def Qb (P:Program) (f:FuncId) (A:KC) (as:List AV) (t:TV):Prop:=∀(w:World) (vs:List Value),Gk w as vs [] []->(∀b∈A.B,b<w.heap.size)->A.I w->Calls P f vs.toArray w λe w'=>e= .returned (Qb.val t)/\DZ w w' A.B/\A.I w'
where
 val:TV->Value
 | .int k n=> .int k n
 | .bool b=> .bool b
 | .str s=> .string s
 | .fn f ta c=> .func f ta c
 |_=> .bool false
theorem gU {t:TV} (h:BU w t v F U) (ht:t.flat=true):v=Qb.val t:=by
 cases t<;>first|(cases ht;done)|(exact h.1)
theorem Ys {f:FuncId} {c:Code} {t:TV} (hf:P.funcs[f]?=some fn) (hb:fn.body=some c) (ht:t.flat=true) (h:Wp P fn.ntmps c (Ca as A) λe E=>(e= .normal\/e= .ret)/\E.amb=A/\∃E',Cm P E fn.results.toList=some ([.one t],E')) (hp:A.pin=none:=by rfl):Qb P f A as t:=by
 intro w vs ha hB hA;obtain⟨blk,FS,US,g,hF,hU⟩:=J3 (N:=fn.ntmps) ha BN (by simp) (by simp) (A:=A) hA (λb hb=>⟨hB b hb,by simp,by simp⟩) (hpin:=λb h=>by grind);refine calls_of_wp hf hb<|wp_mono (h _ _ _ _ _ _ _ _ g hF hU) ?_;rintro e a w' ⟨E,blk',FS',US',⟨he,i,E',h1⟩,h2,h3,h4⟩;obtain⟨us,FS2,US2,F,U,k1,k2,k3,k4,k5⟩:=Fe h2 h1;have k6:=Io k2;have hv:=gU k6.1 ht;have hI:A.I w':=by rw[<-i];exact h2.ambI
 have d:a.defers=[]/\∃v,(results fn a.tmps).run P w'= .ok v w'/\Ending.returned v= .returned (Qb.val t)/\DZ w w' A.B/\A.I w':=
  ⟨h2.nodef,_,Ik k1,by rw[hv],⟨h2.os,h2.tape,h2.output,h2.size,λb h5 h6=>h2.keep b h5 (by simp) h6⟩,hI⟩
 rcases he with rfl|rfl
 ·exact d
 exact d
theorem Vc {g : FuncId} {ad : Addr} (hf : P.funcs[g]? = some fn) (hn : (fn.name == "runtime.NumGoroutine") = false) (hb : fn.body.isNone = false) (h : ∀ (l : List γ) (i j : Int) (x y : γ), gi l i = some x → gi l j = some y → (∃ w, (Am l).I w) → Qb P g (Am l) [.sv (.one (.int .i64 i)), .sv (.one (.int .i64 j)), .sv (.one (.adr ad))] (.bool (lt x y))) : G0 P Am lt g #[.pointer (some ad)] := by
 refine⟨λargs w=>?_,λl i j x y hx hy w hI hB=>?_⟩
 ·have a:fn.body≠none:=by grind
  have b : fn.name ≠ "runtime.NumGoroutine" := by grind
  simp[callFunc,hf,b,a]
 exact h l i j x y hx hy ⟨w,hI⟩ w [.int .i64 i,.int .i64 j,.pointer<|some ad]
  ⟨_,_,[],[],[],[],rfl,rfl,rfl,⟨by simp[BU],rfl⟩,⟨_,_,[],[],[],[],rfl,rfl,rfl,⟨by simp[BU],rfl⟩,⟨_,_,[],[],[],[],rfl,rfl,rfl,⟨by simp[BU],rfl⟩,⟨rfl,rfl,rfl⟩⟩⟩⟩ hB hI
def RN (P:Program) (f:FuncId) (t e sz:Nat) (enc:γ->List TV) (g:FuncId) (l l':List γ):Prop:=∀(w:World) (b:Nat) (v:Value) (T:TypeId),w.heap[b]?=some (.cells #[v] T (0,0))->w.ownsRow 0 e sz v l.length ((Ai enc l).map TV.val)->b∉Bc v->
  Calls P f #[.iface t v,.func (.func g) #[] #[.pointer<|some ⟨b,0,none⟩]] w λr w'=>r= .returned (.tuple #[])/\DZ w w' (b::Bc v)/\w'.heap[b]?=some (.cells #[v] T (0,0))/\w'.ownsRow 0 e sz v l'.length ((Ai enc l').map TV.val)
section
variable {w0:Base} {a:Act}
theorem B8.turn (h:B8 w0 FA UA N w a E blk FS US) (hF:FS .hand=[]) (hU:US .hand=[]) {r:Root} (hm:r.mem=true) {cells cells':List TV} (hc:E.boxes r=some cells) (l:cells'.length=cells.length) (hb:DZ w w' (FS r)) (d:∃c T F,w'.heap[blk r]?=some (.cells c T (0,0))/\AO w' cells' c.toList F (US r)/\FS r=blk r::F):
  ∃FS' US',B8 w0 FA UA N w' a ((E.setRoot r cells').bump r) blk FS' US'/\FS' .hand=[]/\US' .hand=[]:=by
 have f:r≠ .hand:=by rintro rfl;cases hm
 have i:∀j,((E.setRoot r cells').bump r).place r [] j=cells'[j]? :=by
  intro j
  cases r with
  |slot n=>cases hm
  |hand=>cases hm
  |box n=>simp[St.place,St.bump,St.setRoot,St.root,Bi,Ba]
  |ext n=>simp[St.place,St.bump,St.setRoot,St.root,Bi,Ba]
 have g:∀j,E.place r [] j=cells[j]? :=by
  intro j
  cases r with
  |slot n=>cases hm
  |hand=>cases hm
  |box n=>grind [St.place,St.root,Ba]
  |ext n=>grind [St.place,St.root,Ba]
 let E1:St:=(E.setRoot r cells').bump r
 have ev:∀s,s≠r->E1.ver s=E.ver s:=by
  intro s hs;cases r<;>simp[E1,St.bump,St.setRoot,Bi,hs]
 have evr:E1.ver r=E.ver r+1:=by cases r<;>simp[E1,St.bump,St.setRoot,Bi]
 have eg:∀s,E1.gen s=E.gen s:=by intro s;cases r<;>rfl
 have er:∀s,s≠r->E1.root s=E.root s:=by
  intro s hs
  cases r with
  |slot n=>cases hm
  |hand=>cases hm
  |box n=>cases s<;>simp[E1,St.bump,St.setRoot,St.root,Bi,hs]
  |ext n=>cases s<;>simp[E1,St.bump,St.setRoot,St.root,Bi,hs]
 have es:∀n,E1.slots n=E.slots n:=by
  intro n
  cases r with
  |slot n=>cases hm
  |hand=>cases hm
  |box n=>rfl
  |ext n=>rfl
 have eb:∀s,E1.boxes s=if s=r then some cells' else E.boxes s:=by
  intro s
  cases r with
  |slot n=>cases hm
  |hand=>cases hm
  |box n=>rfl
  |ext n=>rfl
 have k:∀s,Br w w' a a E E1 blk blk s:=by
  intro s;by_cases hs:s=r
  ·subst hs;refine⟨.inl (by rw[evr];omega),.inr ⟨eg s,λj ad hv hp=>?_⟩⟩;refine⟨(by cases s<;>first|exact hv|(cases hm)),?_⟩
   grind
  by_cases hh:s= .hand
  ·subst hh;exact CZ (ev _ hs) (eg _)<|by simp[St.root,h.nohand]
  exact Ck h (ev s hs) (eg s) (er s hs) (λ_ _=>rfl) (λ_=>rfl)
   (λb hx=>hb.keep b (h.inF s b hx).2<|h.dis s r hs b hx) (λb hx=>hb.keep b (h.inU s b hx).2 λe=>h.disU r s b e hx)
 have k7:=h.two (w':=w') (a':=a) (E':=E1) (blk':=blk) (r1:=r) (r2:= .hand) (L1:=FS r) (L2:=[]) (V1:=US r) (V2:=[]) f
  (by simpa using h.nodup r)
  (λb hx=>⟨.inl (by simpa using hx),Aw (h.inF r b<|by simpa using hx).2 hb.size⟩)
  (λb hx=> .inl ⟨r,by simpa using hx⟩)
  hb.size hb.os hb.tape hb.output (λb hx q _=>hb.keep b hx q) k (λn _ _=>⟨es n,rfl⟩) (λs _ hs _=>⟨by rw[eb,Bm hs],rfl⟩)
  (by
   obtain⟨c,T,F,g1,g2,g3⟩:=d;have:CT w' a E1 blk r (FS r) (US r):=by
    have e1:=eb r;rw[Bw rfl]at e1
    cases r with
    |slot n=>cases hm
    |hand=>cases hm
    |box n=>exact .inr ⟨cells',c,T,F,e1,g1,g2,g3⟩
    |ext n=>exact .inr ⟨cells',c,T,F,e1,g1,g2,g3⟩
   exact this)
  trivial (by rw[eb,Bm<|HJ f];exact h.nohand) h.len h.nodef (hfz:=by
   intro n hn;have e:((E.setRoot r cells').bump r).fz=E.fz:=by rw[IR,DA]
   exact h.frz n<|e▸hn) (hamb:=by rw[Gj,Cr])
 grind [Bf]
end
theorem PJ {w0:Base} {a:Act} (h:B8 w0 FA UA N w a E blk FS US) (hF:FS .hand=[]) (hU:US .hand=[]) (hd:d<N) (v:Value):∃FS' US',B8 w0 FA UA N w (a.put (some d) v) (E.put (some d) (.one .junk)) blk FS' US'/\FS' .hand=[]/\US' .hand=[]:=
 h.land (w':=w) (F:=[]) (U:=[]) hd (by simp[E4,Cj,TV.isJunk]) BN (by simp) (by simp) (A8 _) rfl rfl rfl (λ_ _ _=>rfl)
theorem DU {enc:γ->List TV} (a:∀x,(enc x).all TV.flat=true):∀l:List γ,(Ai enc l).all TV.flat=true
 |[]=>rfl
 |x::l=>by grind [Ai]
theorem Gx {o:Oper} (h:o.guard=none):Az P ops E o=some true:=by unfold Az;rw[h]
theorem m9 {l l':List γ} {o1 o2 o3:Oper} {ver:Nat} {enc:γ->List TV} {sz e t:Nat} {f b:FuncId} {r:Root} {d1 d2 d3 x p:Nat} {tys:Array TypeId} (hs:RN P f t e sz enc b l l') (hk:Ao P N ops rest (((((E.put (some d1) (.one .junk)).put (some d2) (.one .junk)).setRoot r [.sl true e sz (Ai enc l')]).bump r).put (some d3) (.tup [])) Q) (h:∀x,(enc x).length=sz) (c:∀x,(enc x).all TV.flat=true) (hx:E.slots x= .one (.view r ver [] 0):=by rfl) (i:E.ver r=ver:=by rfl) (hp:E.ptr? (.tmp p)=some (r,[],0):=by rfl) (hc:E.boxes r=some [.sl true e sz<|Ai enc l]:=by rfl) (hm:r.mem=true:=by rfl) (h1:o1.op= .makeInterface t (.tmp x):=by rfl) (h2:o2.op= .makeFunc (.func b) #[] #[.tmp p]:=by rfl) (h3:o3.op= .call {callee:= .value (.func f),args:= #[.tmp d1,.tmp d2],argTypes:=tys}:=by rfl) (k1:o1.dst=some d1:=by rfl) (k2:o2.dst=some d2:=by rfl) (k3:o3.dst=some d3:=by rfl) (g1:o1.guard=none:=by rfl) (g2:o2.guard=none:=by rfl) (g3:o3.guard=none:=by rfl) (h6:Nat.blt d1 N=true:=by rfl) (h7:Nat.blt d2 N=true:=by rfl) (h8:Nat.blt d3 N=true:=by rfl) (h9:Nat.beq d1 d2=false:=by rfl) (h5:Nat.beq p d1=false:=by rfl) (a0:Nat.blt 0 sz=true:=by rfl) (ht:P.underlying t=some (.slice e):=by rfl) (hf:R2 P f):Ao P N ops (o1::o2::o3::rest) E Q:=by
 have hN1':d1<N:=by simp_all
 have hN2':d2<N:=by simp_all
 have hN3':d3<N:=by simp_all
 have hne':d1≠d2:=by intro e;simp_all
 have hne2':p≠d1:=by intro e;simp_all
 have hsz':0<sz:=by simp_all
 intro w0 FA UA w a blk FS US hr hF hU;have j:∃v T F,w.heap[blk r]?=some (.cells #[v] T (0,0))/\BU w (.sl true e sz<|Ai enc l) v F (US r)/\FS r=blk r::F:=by
  rcases hr.box r hm with⟨q1,_⟩|⟨cs,k,T,F,q1,q2,q3,q4⟩
  ·grind
  rw[hc]at q1
  injection q1 with q1
  subst q1;obtain⟨v,o,F1,F2,U1,U2,e1,rfl,e3,q5,rfl,rfl,rfl⟩:=q3;have:k= #[v]:=by grind
  grind
 obtain⟨v,T,F,b1,b2,b3⟩:=j;obtain⟨n,vs,F',b4,b5,rfl⟩:=b2;have u:=PB b5<|DU c l;obtain⟨rfl,a1⟩:=HA b5<|DU c l;subst u;have y:n=l.length:=by
  have q:=b4.1;rw[BM,Dm h l]at q
  grind [Nat.eq_of_mul_eq_mul_right]
 subst y;have z:blk r∉Bc v:=by
  have:=hr.nodup r
  grind
 have evx:a.eval (.tmp x)=v:=by
  have q:=hr.slot x;rw[hx]at q;obtain⟨⟨_,_,_,q4⟩,_⟩:=q;obtain⟨q5,_⟩:=q4 i
  cases r with
  |slot n=>cases hm
  |hand=>cases hm
  |box n=>grind [pv,AJ,Addr.add,World.cell?]
  |ext n=>grind [pv,AJ,Addr.add,World.cell?]
 have evp:a.eval (.tmp p)= .pointer (some ⟨blk r,0,none⟩):=by
  obtain⟨_,ad,q1,q2⟩:=HR hr hp;simp_all [pa,Addr.add];grind
 obtain⟨FS1,US1,r1,r2,r3⟩:=PJ hr hF hU hN1'<|.iface t v;have e1:(execOp a.eval o1).run P w= .ok (.value<|.iface t v) w:=by simp_all [run_underlying,execOp,Instr.makeInterface]
 simp only[wpList,AS hr<|Gx (P:=P) (ops:=ops) g1,By];refine .inl ?_
 try unfold Oper.wp
 rw[e1,Oper.upon_value,k1];have evp1:(a.put (some d1)<|.iface t v).eval (.tmp p)= .pointer (some ⟨blk r,0,none⟩):=by grind [BX]
 obtain⟨FS2,US2,s1,s2,s3⟩:=PJ r1 r2 r3 hN2'<|.func (.func b) #[] #[.pointer<|some ⟨blk r,0,none⟩];have e2:(execOp (a.put (some d1)<|.iface t v).eval o2).run P w= .ok (.value<|.func (.func b) #[] #[.pointer<|some ⟨blk r,0,none⟩]) w:=by simp_all [execOp,Instr.makeFunc]
 simp only[wpList,AS r1<|Gx (P:=P) (ops:=ops) g2,By];refine .inl ?_
 try unfold Oper.wp
 rw[e2,Oper.upon_value,k2];simp only[wpList,AS s1<|Gx (P:=P) (ops:=ops) g3,By];refine .inl ?_;have a2:d1<a.tmps.size:=Aw hN1' hr.len;have a3:d2<(a.put (some d1)<|.iface t v).tmps.size:=Aw hN2' r1.len
 try unfold Oper.wp
 rw[Eg h3 hf];have ea: #[Operand.tmp d1,.tmp d2].map ((a.put (some d1)<|.iface t v).put (some d2)<|.func (.func b) #[] #[.pointer<|some ⟨blk r,0,none⟩]).eval= #[.iface t v,.func (.func b) #[] #[.pointer<|some ⟨blk r,0,none⟩]]:=by grind [Ft,BX]
 rw[ea];refine Calls.mono (hs w (blk r) v T b1 b4 z) ?_;rintro ee w' ⟨rfl,a4,h0,h4⟩;have m:((E.put (some d1)<|.one .junk).put (some d2)<|.one .junk).boxes r=some [.sl true e sz<|Ai enc l]:=hc;have g:∃F2,FS2 r=blk r::F2/\F2=Bc v/\US2 r=[]:=by
  rcases s1.box r hm with⟨q1,_⟩|⟨cs,k,T2,F2,q1,q2,q3,q4⟩
  ·grind
  rw[m]at q1
  injection q1 with q1
  subst q1;rw[b1]at q2
  injection q2 with q2
  injection q2 with q2
  subst q2;obtain⟨v2,o,F3,F4,U1,U2,e1,rfl,e3,q5,rfl,rfl,rfl⟩:=q3;simp at e1;subst e1;obtain⟨n,vs,F',c4,c5,rfl⟩:=q5
  grind [HA,DU]
 obtain⟨F2,f1,rfl,f3⟩:=g;obtain⟨FS3,US3,t1,t2,t3⟩:=s1.turn s2 s3 hm m (cells':=[.sl true e sz<|Ai enc l']) rfl (w':=w') (by grind)
  ⟨#[v],T,Bc v,h0,by
   rw[f3];refine⟨v,[],Bc v,[],[],[],rfl,by simp,rfl,?_,rfl,rfl,rfl⟩
   exact⟨l'.length,_,[],h4,Pn<|DU c l',by simp⟩,f1⟩
 obtain⟨FS4,US4,u1,u2,u3⟩:=t1.land (w':=w') (d:=d3) (s:= .tup []) (v:= .tuple #[]) (F:=[]) (U:=[]) hN3' (by simp[E4,Mq]) BN (by simp) (by simp) (A8 _) rfl rfl rfl λ_ _ _=>rfl;rw[k3];exact hk _ _ _ _ _ _ _ _ u1 u2 u3
def lL (b:Nat) (v:Value) (T:TypeId) (e sz n:Nat) (xs:List Value):KC where
 B:=b::Bc v
 I:=λw=>w.heap[b]?=some (.cells #[v] T (0,0))/\w.ownsRow 0 e sz v n xs
 st:=λw w' h hk=>⟨by grind,h.2.1,by
  rcases h.2.2 with q|⟨g,cap,a,rfl,q1,q2,q3⟩
  ·exact .inl q
  grind [Bc,Value.ownBlock]⟩
theorem gZ {l:List γ} {i:Int} {x:γ} {k:Nat} {n b g cap:Nat} {e T:TypeId} {enc:γ->List TV} (a:∀x,(enc x).length=sz) {t:TV} {ad:Addr} (hi:gi l i=some x) (hk:(enc x)[k]?=some t) (hb:b≠g) (c:ad=⟨g,i.toNat*sz+k,none⟩):(Lb n b g cap e T sz enc l).rd ad=some t.val:=by
 subst c;obtain⟨i0,i1⟩:=Fs hi;have lm:=(Ad.1 i1).1;have d:=(Ad.1 hk).1;rw[a]at d;have f:(i.toNat+1)*sz<=l.length*sz:=B4 _ lm;have e1:(Ai enc l)[i.toNat*sz+k]?=(enc x)[k]? :=by
  have h2:(Ai enc l)[i.toNat*sz+k]?=((Ai enc l).drop<|i.toNat*sz)[k]? :=by grind
  grind [GG,Bp,OL]
 grind [Lb]
theorem g6 {l:List γ} {n b g cap:Nat} {e T:TypeId} {enc:γ->List TV}:(Lb n b g cap e T sz enc l).rd ⟨b,0,none⟩=some (.slice (some ⟨g,0,none⟩) n cap):=by
 simp[Lb]
theorem Vp {g m:Nat}:((⟨g,0,none⟩:Addr).add m)=⟨g,m,none⟩:=by
 unfold Addr.add
 grind
theorem dC {i:Int} (h:gi l i=some x):0<=i/\i<l.length:=by
 obtain⟨i0,i1⟩:=Fs h
 grind
theorem nY {g m:Nat}:((⟨g,0,none⟩:Addr).add m)=⟨g,m,none⟩:=by
 unfold Addr.add;split
 ·rename_i h;subst h;rfl
 simp
def kS (w:World) (vs:List Value) (q:List Nat) (j:Nat):Option Value:=match q with
 |[]=>vs[j]?
 |c::q=>(vs[c]?).bind λv=>(Iw w v q).bind λad=>w.cell?<|ad.add j
theorem S8 {vs:List Value} {e sz n:Nat} (h:w.ownsRow 0 e sz v n vs) (hk:∀b∈Bc v,w'.heap[b]?=w.heap[b]?):w'.ownsRow 0 e sz v n vs:=by
 refine⟨h.1,?_⟩
 rcases h.2 with q|⟨g,cap,a,rfl,q1,q2,q3⟩
 ·exact .inl q
 exact .inr ⟨g,cap,a,rfl,q1,by rw[hk g<|by simp[Bc,Value.ownBlock]];exact q2,q3⟩
theorem S3:∀(q:List Nat) {cs:List TV} {vs:List Value} {F U:List Nat} {j:Nat} {t:TV},AO w cs vs F U->Hq cs q=true->(Ba cs q).bind (λd=>d[j]?)=some t->
  ∃v FA F1 FB UA U1 UB,kS w vs q j=some v/\BU w t v F1 U1/\F=FA++F1++FB/\U=UA++U1++UB/\
   ∀(w':World) (t':TV) (G V:List Nat),BU w' t' v G V->(∀b∈FA++FB,w'.heap[b]?=w.heap[b]?)->(∀b∈UA++UB,w'.heap[b]?=w.heap[b]?)->AO w' (BT cs q λd=>d.set j t') vs (FA++G++FB) (UA++V++UB)
 |[],cs,vs,F,U,j,t,h,_,hc=>by
  simp only[Ba,Aa]at hc;obtain⟨v,A,B,C,D,F1,U1,hv,hr,h1,h2,hk⟩:=DP j h hc;refine⟨v,A,F1,B,C,U1,D,hv,hr,h1,h2,λw' t' G V hr' hA hC=>?_⟩;have:=hk w' t' v G V hr' hA hC;rw[Ib hv]at this;exact this
 |c::q,cs,vs,F,U,j,t,h,ho,hc=>by
  simp only[Ba]at hc;simp only[Hq]at ho;split at hc
  ·rename_i o e sz g i;rw[i]at ho;simp only[Af]at ho;obtain⟨rfl,ho⟩:=ho;obtain⟨v,A,B,C,D,F1,U1,hv,hr,rfl,rfl,hk⟩:=DP c h i;simp only[BU]at hr;obtain⟨n,m,F',f,p,rfl⟩:=hr;obtain⟨u,A2,F2,B2,C2,U2,D2,hu,r,rfl,rfl,s⟩:=S3 q p ho hc;refine⟨u,A++Bc v++A2,F2,B2++B,C++C2,U2,D2++D,?_,r,by simp,by simp,λw' t' G V hr' hA hC=>?_⟩
   ·simp only[kS,hv,Aa];have k:=HB f
    cases q with
    |nil=>
     simp only[kS]at hu;obtain⟨ad,n',c',rfl,a⟩:=k j u hu;simp only[Iw,Ey,Aa];exact a
    |cons c2 q2=>
     simp only[kS]at hu;obtain⟨v2,x,hu⟩:=Ac.1 hu;obtain⟨ad,n',c',rfl,a⟩:=k c2 v2 x;simp only[Iw];rw[Kk a];exact hu
   have y:=s w' t' G V hr' (λb hb=>hA b (by simp at hb⊢;rcases hb with hb|hb<;>simp[hb])) (λb hb=>hC b (by simp at hb⊢;rcases hb with hb|hb<;>simp[hb]));have l:BU w' (.sl true e sz<|BT g q λd=>d.set j t') v (Bc v++(A2++G++B2)) (C2++V++D2):=by
    simp only[BU];exact⟨n,m,_,S8 f (λb hb=>hA b<|by simp[hb]),y,rfl⟩
   have:=hk w' _ v _ _ l (λb hb=>hA b (by simp at hb⊢;rcases hb with hb|hb<;>simp[hb])) (λb hb=>hC b (by simp at hb⊢;rcases hb with hb|hb<;>simp[hb]));rw[Ib hv]at this;simp only[BT,i];have e1:A++Bc v++A2++G++(B2++B)=A++(Bc v++(A2++G++B2))++B:=by simp
   have e2:C++C2++V++(D2++D)=C++(C2++V++D2)++D:=by simp
   rw[e1,e2];exact this
  cases hc
theorem V8 {t':TV}:∀(q:List Nat) {cs:List TV},(BT cs q λa=>a.set j t').length=cs.length
 |[],cs=>by simp[BT]
 |c::q,cs=>by
  simp only[BT];split<;>simp
section
variable {w0:Base} {a:Act}
theorem fO {f:FuncId} {x:Operand} {K:Act->World->Prop} {Q:Exit->Act->World->Prop} (h:B8 w0 FA UA N w a E blk FS US) (hF:FS .hand=[]) (hU:US .hand=[]) {o:Oper} {tys:Array TypeId} (ho:o.op= .call {callee:= .value (.func f),args:= #[x,y],argTypes:=tys}) (hf:R2 P f) (hd:o.dst=some d) (hN:d<N) {r:Root} {q:List Nat} (hx:E.ref x=some (r,q,j)) {cs:List TV} (p:(∃n t,r= .slot n/\E.slots n= .one t/\cs=[t]/\t.isJunk=false/\(∀w v F U a E blk,Cj w a E blk t v F U->BU w t v F U))\/(r.mem=true/\E.boxes r=some cs)) (b7:Hq cs q=true) {e sz:Nat} {cells cells':List TV} (d3:(Ba cs q).bind (λh6=>h6[j]?)=some (.sl true e sz cells)) (d4:Ak cells=false) (hns':Ak cells'=false) {m m':Int} (hy:E.cell1 P 0 y=some (.int k m)) (hg:An P f [.sv<|.one<|.sl true e sz cells,.sv<|.one<|.int k m] (.one<|.int k' m') [.sv<|.one<|.sl true e sz cells',.gone]) (hK:∀w' v blk' FS' US',B8 w0 FA UA N w' (a.put o.dst v) (((E.setRoot r<|BT cs q λh6=>h6.set j<|.sl true e sz cells').bump r).put o.dst<|.one<|.int k' m') blk' FS' US'->FS' .hand=[]->US' .hand=[]->K (a.put o.dst v) w'):o.wp P a w K Q:=by
 have a1:r≠ .hand:=by rcases p with⟨n,t,rfl,_⟩|⟨hm,_⟩<;>rintro⟨⟩;cases hm
 have hroot':E.root r=some cs:=by
  rcases p with⟨n,t,rfl,h1,rfl,_⟩|⟨hm,h1⟩
  ·simp[St.root,h1,SV.cells]
  cases r with
  |slot n=>cases hm
  |hand=>cases hm
  |box n=>exact h1
  |ext n=>exact h1
 obtain⟨vs,F,b8,h7,c0⟩:∃vs F,AO w cs vs F (US r)/\(FS r=F/\(∃n,r= .slot n/\vs=[a.eval<|.tmp n])\/FS r=blk r::F/\r.mem=true/\∃u T,w.heap[blk r]?=some (.cells u T (0,0))/\vs=u.toList/\E.boxes r=some cs)/\pv w a blk r q j=kS w vs q j:=by
  rcases p with⟨n,t,rfl,h1,rfl,h2,h3⟩|⟨hm,h1⟩
  ·have hs:=h.slot n;rw[h1]at hs;simp only[E4]at hs;have hc:=hs.2 h2;have hr:=h3 _ _ _ _ _ _ _ hs.1;refine⟨[a.eval<|.tmp n],FS<|.slot n,?_,.inl ⟨rfl,n,rfl,rfl⟩,?_⟩
   ·simp only[AO];exact⟨_,[],_,[],_,[],rfl,by simp,by simp,hr,rfl,rfl,rfl⟩
   have a2:∀c,AJ w a blk (.slot n) c=([a.eval<|.tmp n]:List Value)[c]? :=λc=>by simp only[AJ,hc];simp
   cases q with
   |nil=>simp only[pv,kS,a2]
   |cons c q=>simp only[pv,kS,a2]
  rcases h.box r hm with⟨h2,_⟩|⟨cs',u,T,F0,h2,h3,h4,h5⟩
  ·rw[h1]at h2;cases h2
  rw[h1]at h2
  injection h2 with h2
  subst h2;refine⟨u.toList,F0,h4,.inr ⟨h5,hm,u,T,h3,rfl,h1⟩,?_⟩
  have a2:∀c,AJ w a blk r c=u.toList[c]? :=λc=>by
   have e1:((⟨blk r,0,none⟩:Addr).add c)=⟨blk r,c,none⟩:=nY
   cases r with
   |slot n=>cases hm
   |hand=>cases hm
   |box n=>simp only[AJ,e1,World.cell?,h3];simp
   |ext n=>simp only[AJ,e1,World.cell?,h3];simp
  cases q with
  |nil=>simp only[pv,kS,a2]
  |cons c q=>simp only[pv,kS,a2]
 obtain⟨v,A,F1,B,C,U1,D,hv,a7,h0,c1,b3⟩:=S3 q b8 b7 d3;have evx:a.eval x=v:=by
  have:=N3 h hx;rw[c0,hv]at this
  injection this with this
  exact this.symm
 have d5:U1=[]:=by
  simp only[BU]at a7;obtain⟨n,d6,F',_,h2,_⟩:=a7;exact D5 h2 d4
 subst d5;have evy:=BJ h hy
 have z:∀b∈F,b∈FS r:=λb hb=>by rcases h7 with⟨e1,_⟩|⟨e1,_⟩<;>rw[e1]<;>simp[hb]
 have a0:∀b∈F1,b∈FS r:=λb hb=>z b (by rw[h0];simp[hb])
 have a3:F.Nodup:=by
  have:=h.nodup r
  rcases h7 with⟨e1,_⟩|⟨e1,_⟩
  ·rw[e1]at this;exact this
  rw[e1]at this;exact(B6.1 this).2
 rw[h0]at a3;obtain⟨n1,n2,n3⟩:=Ky a3;have c2:(a.eval x).cells= #[a.eval x]:=by rw[evx];exact K5<|JU a7
 have b4:=hg w [a.eval x,a.eval y] F1 [] ⟨_,_,F1,[],[],[],rfl,by simp,by simp,⟨by rw[evx];exact a7,c2⟩,⟨_,_,[],[],[],[],rfl,rfl,rfl,⟨by rw[evy];simp[BU],by rw[evy];rfl⟩,rfl,rfl,rfl⟩⟩ n1 (by simp) (by
  intro b hb;rw[A6]at hb
  exact(h.inF r b<|a0 b hb).2)
 unfold Oper.wp;rw[Eg ho hf];have ea: #[x,y].map a.eval=[a.eval x,a.eval y].toArray:=by simp
 rw[ea];simp only[Oper.upon];refine Calls.mono b4 ?_;rintro ee w' ⟨vr,Fr,Ur,G,V,rfl,g⟩;have b0:=g.fin;simp only[Gk]at b0;obtain⟨v1,vs1,G1,G2,V1,V2,e1,rfl,rfl,h8,v2,vs2,G3,G4,V3,V4,e3,rfl,rfl,⟨rfl,rfl⟩,e4,rfl,rfl⟩:=b0
 injection e1 with e1 e2
 subst e1;have b1:=g.res;simp only[QW,BU]at b1;obtain⟨⟨rfl,rfl,rfl⟩,_⟩:=b1;simp only[rD,QW]at h8;obtain⟨h8,_⟩:=h8;have e0:V1=[]:=by
  simp only[BU]at h8;obtain⟨n,d6,F',_,h2,_⟩:=h8;exact D5 h2 hns'
 subst e0
 have a4:∀b∈G1,(b∈F1\/w.heap.size<=b)/\b<w'.heap.size:=λb hb=>g.inF b<|by simp[hb]
 have c6:G1.Nodup:=by have:=g.nodup;simpa using this
 have e5:∀b∈A++B,w'.heap[b]?=w.heap[b]? :=λb hb=>by
  refine g.keep b (h.inF r b<|z b (by rw[h0];simp at hb⊢;rcases hb with hb|hb<;>simp[hb])).2 λl=>?_
  rcases Au.1 hb with hb|hb
  ·exact(n2 b l).1 hb
  exact(n2 b l).2 hb
 have e6:∀b∈C++D,w'.heap[b]?=w.heap[b]? :=λb hb=>by
  have d0:b∈US r:=by rw[c1];simpa using hb
  exact g.keep b (h.inU r b d0).2 λl=>h.disU r r b (a0 b l) d0
 rw[evx]at h8;have a5:=b3 w' (.sl true e sz cells') G1 [] h8 e5 e6
 let cs':=BT cs q λh6=>h6.set j<|.sl true e sz cells'
 let E1:St:=(E.setRoot r cs').bump r
 have d1:cs'.length=cs.length:=V8 q;have ev:∀s,s≠r->E1.ver s=E.ver s:=by
  intro s hs;cases r<;>simp[E1,St.bump,St.setRoot,Bi,hs]
 have evr:E1.ver r=E.ver r+1:=by cases r<;>simp[E1,St.bump,St.setRoot,Bi]
 have eg:∀s,E1.gen s=E.gen s:=by intro s;cases r<;>rfl
 have er:∀s,s≠r->E1.root s=E.root s:=by
  intro s hs
  cases r with
  |slot n=>
   cases s with
   |slot m=>
    have:m≠n:=λe=>hs<|by rw[e]
    simp[E1,St.bump,St.setRoot,St.root,Bi,this]
   |box m=>rfl
   |ext m=>rfl
   |hand=>rfl
  |hand=>exact absurd rfl a1
  |box n=>cases s<;>simp[E1,St.bump,St.setRoot,St.root,Bi,hs]
  |ext n=>cases s<;>simp[E1,St.bump,St.setRoot,St.root,Bi,hs]
 have f1:∀s,Br w w' a a E E1 blk blk s:=by
  intro s;by_cases hs:s=r
  ·subst hs;refine⟨.inl (by rw[evr];omega),.inr ⟨eg s,λi ad b5 hp=>?_⟩⟩;refine⟨(by cases s<;>first|exact b5|(simp[pa]at b5)),?_⟩
   rcases p with⟨n,t,rfl,_⟩|⟨hm,h1⟩
   ·simp[pa]at b5
   have e1:E.place s [] i=cs[i]? :=by simp[St.place,hroot',Ba]
   have e2:E1.place s [] i=cs'[i]? :=by
    cases s with
    |slot n=>cases hm
    |hand=>cases hm
    |box n=>simp[E1,St.place,St.bump,St.setRoot,St.root,Bi,Ba]
    |ext n=>simp[E1,St.place,St.bump,St.setRoot,St.root,Bi,Ba]
   rw[e1]at hp;rw[e2];have hi:i<cs.length:=by
    rcases EE i cs.length with q2|q2
    ·exact q2
    rw[List.getElem?_eq_none q2]at hp;cases hp
   rw[Ab<|by omega];rfl
  by_cases hh:s= .hand
  ·subst hh;exact CZ (ev _ hs) (eg _)<|by simp[St.root,h.nohand]
  exact Ck h (ev s hs) (eg s) (er s hs) (λ_ _=>rfl) (λ_=>rfl)
   (λb hb=>g.keep b (h.inF s b hb).2 λl=>h.dis s r hs b hb<|a0 b l) (λb hb=>g.keep b (h.inU s b hb).2 λl=>h.disU r s b (a0 b l) hb)
 have hL:∀b∈A++G1++B,(b∈FS r\/w.heap.size<=b)/\b<w'.heap.size:=λb hb=>by
  rcases Au.1 hb with hb|hb
  ·rcases Au.1 hb with hb|hb
   ·have:=z b (by rw[h0];simp[hb]);exact⟨.inl this,Aw (h.inF r b this).2 g.size⟩
   obtain⟨q1,q2⟩:=a4 b hb;exact⟨q1.imp (a0 b) id,q2⟩
  have:=z b (by rw[h0];simp[hb]);exact⟨.inl this,Aw (h.inF r b this).2 g.size⟩
 have f2:∀b∈G1,b∉A/\b∉B:=λb hb=>by
  rcases(a4 b hb).1 with l|l
  ·exact n2 b l
  refine⟨λhc=>?_,λhc=>?_⟩
  ·have:=(h.inF r b<|z b (by rw[h0];simp[hc])).2;omega
  have:=(h.inF r b<|z b (by rw[h0];simp[hc])).2;omega
 have b2:(A++G1++B).Nodup:=Ll a3 c6 f2;have fin:∀L:List Nat,L.Nodup->(∀b∈L,(b∈FS r\/w.heap.size<=b)/\b<w'.heap.size)->CT w' a E1 blk r L (C++ []++D)->∃FS' US',B8 w0 FA UA N w' a E1 blk FS' US'/\FS' .hand=[]/\US' .hand=[]:=by
  intro L f3 f4 a8;have k7:=h.two (w':=w') (a':=a) (E':=E1) (blk':=blk) (r1:=r) (r2:= .hand) (L1:=L) (L2:=[]) (V1:=C++ []++D) (V2:=[]) a1
   (by simpa using f3)
   (λb hb=>by
    have:=f4 b<|by simpa using hb
    exact⟨this.1.imp id λq=> .inr q,this.2⟩)
   (λb hb=> .inl ⟨r,by rw[c1];simpa using hb⟩)
   g.size g.os g.tape g.output (λb hb q1 _=>g.keep b hb λl=>q1<|a0 b l) f1
   (λn hn _=>⟨by
    cases r with
    |slot m=>
     have:n≠m:=λe=>hn<|by rw[e]
     simp[E1,St.bump,St.setRoot,Bi,this]
    |hand=>exact absurd rfl a1
    |box m=>rfl
    |ext m=>rfl,rfl⟩)
   (λs hm hs _=>⟨by
    cases r with
    |slot m=>rfl
    |hand=>exact absurd rfl a1
    |box m=>simp[E1,St.bump,St.setRoot,Bi,hs]
    |ext m=>simp[E1,St.bump,St.setRoot,Bi,hs],rfl⟩)
   a8 trivial
   (by
    cases r with
    |slot m=>exact h.nohand
    |hand=>exact absurd rfl a1
    |box m=>simp[E1,St.bump,St.setRoot,Bi,h.nohand]
    |ext m=>simp[E1,St.bump,St.setRoot,Bi,h.nohand]) h.len h.nodef
   (hfz:=by
    intro n hn;have e:E1.fz=E.fz:=by show((E.setRoot r cs').bump r).fz=E.fz;rw[IR,DA]
    exact h.frz n<|e▸hn) (hamb:=by show((E.setRoot r cs').bump r).amb=E.amb;rw[Gj,Cr])
  exact⟨_,_,k7,Bf _ _ _,Bf _ _ _⟩
 have d2:∃FS' US',B8 w0 FA UA N w' a E1 blk FS' US'/\FS' .hand=[]/\US' .hand=[]:=by
  rcases p with⟨n,t,rfl,h1,rfl,h2,h3⟩|⟨hm,h1⟩
  ·refine fin (A++G1++B) b2 hL ?_;have hs:=h.slot n;rw[h1]at hs;simp only[E4]at hs;obtain⟨t',ht'⟩:∃t',cs'=[t']:=by
    have hl:cs'.length=1:=d1
    match hcs:cs',hl with
    |[t'],_=>exact⟨t',rfl⟩
   have f5:vs=[a.eval<|.tmp n]:=by
    rcases h7 with⟨_,m,e1,e2⟩|⟨_,hm,_⟩
    ·injection e1 with e1
     subst e1;exact e2
    cases hm
   subst f5;have f6:E1.slots n= .one t':=by
    show(Bi E.slots n<|(E.slots n).withCells cs') n=_;rw[Bf,h1,ht'];rfl
   have b6:=a5;rw[show BT [t] q (λh6=>h6.set j<|.sl true e sz cells')=[t']from ht']at b6;simp only[AO]at b6;obtain⟨v5,vs5,F5,F6,U5,U6,q1,q2,q3,q4,q5,q6,q7⟩:=b6
   injection q1 with q1 q8
   subst q1 q6 q7;simp only[CT,f6,E4];rw[q2,q3];simp only[A6];exact⟨CW q4,λ_=>hs.2 h2⟩
  rcases h7 with⟨_,n,rfl,_⟩|⟨h7,_,u,T,hh,rfl,g3⟩
  ·cases hm
  have a9:blk r∈FS r:=by rw[h7];simp
  have a6:blk r∉F:=by
   have:=h.nodup r;rw[h7]at this;exact(B6.1 this).1
  have h9:blk r∉A/\blk r∉F1/\blk r∉B:=by
   rw[h0]at a6;simp only[Au,not_or]at a6;exact⟨a6.1.1,a6.1.2,a6.2⟩
  have g1:w'.heap[blk r]?=w.heap[blk r]? :=g.keep _ (h.inF r _ a9).2 h9.2.1
  have g2:blk r∉G1:=λhc=>by
   rcases(a4 _ hc).1 with q1|q1
   ·exact h9.2.1 q1
   have:=(h.inF r _ a9).2;omega
  refine fin (blk r::(A++G1++B)) (B6.2 ⟨by simp;exact⟨h9.1,g2,h9.2.2⟩,b2⟩) (λb hb=>?_) ?_
  ·rcases EN.1 hb with rfl|hb
   ·exact⟨.inl a9,Aw (h.inF r _ a9).2 g.size⟩
   exact hL b hb
  have a8:∃cs2 u T F0,E1.boxes r=some cs2/\w'.heap[blk r]?=some (.cells u T (0,0))/\AO w' cs2 u.toList F0 (C++ []++D)/\(blk r::(A++G1++B))=blk r::F0:=by
   refine⟨cs',u,T,A++G1++B,?_,by rw[g1];exact hh,a5,rfl⟩
   cases r with
   |slot n=>cases hm
   |hand=>cases hm
   |box n=>simp[E1,St.bump,St.setRoot,Bi]
   |ext n=>simp[E1,St.bump,St.setRoot,Bi]
  cases r with
  |slot n=>cases hm
  |hand=>cases hm
  |box n=>exact .inr a8
  |ext n=>exact .inr a8
 obtain⟨FS3,US3,t1,t2,t3⟩:=d2;obtain⟨FS4,US4,u1,u2,u3⟩:=t1.land (w':=w') (d:=d) (s:= .one (.int k' m')) (v:= .int k' m') (F:=[]) (U:=[]) hN (by simp[E4,Cj,BU,Value.cells]) BN (by simp) (by simp) (A8 _) rfl rfl rfl λ_ _ _=>rfl;rw[hd];rw[hd]at hK;exact hK w' _ _ _ _ u1 u2 u3
end
def LL (ls:List (Nat×SV)) (bs:List (Root×List TV)):St:={iH ls bs with fz:=some 0}
theorem HE {f:FuncId} {c:Code} {e sz:Nat} {cells cells':List TV} {res:SV} (hf:P.funcs[f]?=some fn) (hb:fn.body=some c) (h:Wp P fn.ntmps c (Ca (.sv (.one (.sl true e sz cells))::as) KC.none (some 0)) λe' E=>(e'= .normal\/e'= .ret)/\∃ss E',Cm P E fn.results.toList=some (ss,E')/\Ct ss=res/\E'.slots 0= .one (.sl true e sz cells')/\E'.fz=some 0):
  An P f (.sv (.one (.sl true e sz cells))::as) res (.sv (.one (.sl true e sz cells'))::List.replicate as.length .gone):=by
 intro w vs FA UA ha m j o;obtain⟨blk,FS,US,hr,hF,hU⟩:=J3 (N:=fn.ntmps) ha m j o (A:=KC.none) (fz:=some 0) trivial (λb hb=>by cases hb);have ha':=ha;obtain⟨v0,vs0,F1,F2,U1,U2,rfl,rfl,rfl,k,p⟩:=ha;have g:v0.cells= #[v0]:=by
  simp only[rD,QW]at k;exact k.2
 refine calls_of_wp hf hb<|wp_mono (h _ _ _ _ _ _ _ _ hr hF hU) ?_;rintro e' a w' ⟨E,blk',FS',US',⟨he,ss,E',h1,rfl,q,hfz⟩,h2,h3,h4⟩;obtain⟨us,FS2,US2,F,U,k1,k2,k3,k4,k5⟩:=Fe h2 h1;rw[h3,Ar]at k4;rw[h4,Ar]at k5;have i:∀(n:Nat) (vs:List Value),vs.length=n->Gk w' (List.replicate n .gone) vs [] []:=by
  intro n
  induction n with
  |zero=>intro vs hv;simp at hv;subst hv;exact⟨rfl,rfl,rfl⟩
  |succ n ih=>
   intro vs hv
   cases vs with
   |nil=>simp at hv
   |cons v vs=>exact⟨v,vs,[],[],[],[],rfl,rfl,rfl,⟨rfl,rfl⟩,ih vs<|by simpa using hv⟩
 have r:vs0.length=as.length:=by
  obtain⟨_,_,_,_,h5,_⟩:=K7 p;exact h5
 have s:a.eval (.tmp 0)=v0:=by
  have l:=k3.frz 0 hfz;simp only[fZ,Nat.zero_mod,By,Nat.zero_div]at l;rw[l];have e0:((v0::vs0).toArray++Array.replicate (fn.ntmps-(v0::vs0).toArray.size) undef)[0]?=some v0:=by
   rw[Hu<|by simp];rfl
  simp only[Function.comp,Act.eval,CD,e0,HI]
 have hs:=k3.slot 0;rw[q,s]at hs;simp only[E4,Cj]at hs;have d:a.defers=[]/\∃v,(results fn a.tmps).run P w'= .ok v w'/\∃v' F U G V,Ending.returned v= .returned v'/\jX w w' (F1++F2) (U1++U2) (Ct ss) (.sv (.one<|.sl true e sz cells')::List.replicate as.length .gone) (v0::vs0) v' F U G V:=by
  refine⟨h2.nodef,_,Ik k1,_,F,U,FS2<|.slot 0,US2<|.slot 0,rfl,?_⟩
  exact{
   res:=Io k2
   fin:=⟨_,vs0,FS2<|.slot 0,[],US2<|.slot 0,[],rfl,by simp,by simp,⟨hs.1,g⟩,i _ _ r⟩
   nodup:=by
    rw[<-k4,BG];exact⟨k3.nodup _,k3.nodup _,λx hx y hy e=>k3.dis .hand (.slot 0) (by simp) x hx<|e▸hy⟩
   dis:=by
    intro b hb hb';rw[<-k4]at hb;rw[<-k5]at hb'
    rcases Au.1 hb with hb|hb<;>rcases Au.1 hb' with hb'|hb'
    ·exact k3.disU .hand .hand b hb hb'
    ·exact k3.disU .hand (.slot 0) b hb hb'
    ·exact k3.disU (.slot 0) .hand b hb hb'
    exact k3.disU (.slot 0) (.slot 0) b hb hb'
   inF:=by
    intro b hb;rw[<-k4]at hb
    rcases Au.1 hb with hb|hb
    ·exact k3.inF .hand b hb
    exact k3.inF (.slot 0) b hb
   inU:=by
    intro b hb;rw[<-k5]at hb
    rcases Au.1 hb with hb|hb
    ·exact k3.inU .hand b hb
    exact k3.inU (.slot 0) b hb
   os:=k3.os
   tape:=k3.tape
   output:=k3.output
   size:=k3.size
   keep:=λb hb hF=>k3.keep b hb hF (λe=>by cases e)}
 rcases he with rfl|rfl
 ·exact d
 exact d
theorem gK {i:Int} {k:Nat} (hf:∀x,(f x).length=sz) (h:gi l i=some x) {t:TV} (hk:Nat.blt k sz=true) (he:(f x).set k t=f z):(Ai f l).set (i.toNat*sz+k) t=Ai f (si l i z):=
 X6 hf (L5 h).2.2 (by simpa[Bz]using hk) he
theorem rU {cs cs':List TV} {g:List TV->List TV} (h:g cs=cs'):At cs [] cs g cs':=⟨by simp[Ba],by simp[Hq],by simp[BT,h]⟩
theorem WQ {rr : β} {x : Option α} {k : α → Option β} {f : FuncId} {x1 x2 : Operand} (h : x.bind k = some rr) (r : Root) (q : List Nat) (j : Nat) (cs : List TV) {c : List TV} (d : Nat) {e sz : Nat} (b : List TV) (m : Int) (i : α → Int) (fin cs' : α → List TV) {tys : Array TypeId} (ho : oo.op = .call { callee := .value (.func f), args := #[x1, x2], argTypes := tys }) (A : ∀ v, At cs q c (fun c => c.set j (.sl true e sz<|fin v)) (cs' v)) (l : c[j]? = some (.sl true e sz b)) (o : ∀ v, x = some v → An P f [.sv<|.one<|.sl true e sz b, .sv (I m)] (I<|i v) [.sv<|.one<|.sl true e sz<|fin v, .gone]) (p : Ak b = false) (hns' : ∀ v, Ak (fin v) = false) (hk : ∀ v, x = some v → k v = some rr → Ao P N ops rest (((E.setRoot r<|cs' v).bump r).put (some d)<|I<|i v) Q) (g : (∃ n t, r = .slot n ∧ E.slots n = .one t ∧ cs = [t] ∧ t.isJunk = false ∧ (∀ w v F U a E blk, Cj w a E blk t v F U → BU w t v F U)) ∨ (r.mem = true ∧ E.boxes r = some cs)) (hx : E.ref x1 = some (r, q, j) := by rfl) (hy : E.cell1 P 0 x2 = some (.int .i64 m) := by rfl) (hf : P.funcs[f]? = some fn := by rfl) (hn : (fn.name == "runtime.NumGoroutine") = false := by rfl) (hb : fn.body.isNone = false := by rfl) (hd : oo.dst = some d := by rfl) (hN : Nat.blt d N = true := by rfl) (hg : Az P ops E oo = some true := by rfl) : Ao P N ops (oo :: rest) E Q := by
 obtain⟨v,hv,h⟩:=Ac.1 h;intro w0 FA UA w a blk FS US hr hF hU;simp only[wpList,AS hr hg,By];refine .inl (fO hr hF hU ho ⟨fn,hf,by intro e;rw[e]at hn;simp at hn,hb⟩ hd (by simpa[Bz]using hN) hx g (A v).o (cells':=fin v) (by rw[(A v).c];exact l) p (hns' v) hy (o v hv) λw' v' blk' FS' US' k1 k2 k3=>?_);rw[hd]at k1⊢;rw[(A v).u]at k1;exact hk v hv h _ _ _ _ _ _ _ _ k1 k2 k3
def fU (t t':TV):Prop:=t=t'\/∃e sz a cells',t= .sl true e sz a/\Al a=cells'/\t'= .sl false e sz cells'
def j9:List TV->List TV->Prop
 |[],ts'=>ts'=[]
 |t::ts,ts'=>∃x xs,ts'=x::xs/\fU t x/\j9 ts xs
mutual
def Tw:SV->SV->Prop
 | .one t,s'=>∃t',s'= .one t'/\fU t t'
 | .agg cs,s'=>∃cs',s'= .agg cs'/\j9 cs cs'
 | .tup ss,s'=>∃ss',s'= .tup ss'/\Ov ss ss'
def Ov:List SV->List SV->Prop
 |[],ss'=>ss'=[]
 |s::ss,ss'=>∃x xs,ss'=x::xs/\Tw s x/\Ov ss xs
end
theorem nO {t:TV}:fU t t:= .inl rfl
theorem nN:∀{ts:List TV},j9 ts ts
 |[]=>rfl
 |t::ts=>⟨t,ts,rfl,nO,nN⟩
theorem j9.c {t x:TV} {ts xs:List TV} (h:fU t x) (k:j9 ts xs):j9 (t::ts) (x::xs):=⟨x,xs,rfl,h,k⟩
theorem fU.s {e sz:Nat} {a cells':List TV} (h:Al a=cells'):fU (.sl true e sz a) (.sl false e sz cells'):= .inr ⟨e,sz,a,cells',rfl,h,rfl⟩
mutual
theorem pE:∀{s:SV},Tw s s
 | .one t=>⟨t,rfl,nO⟩
 | .agg cs=>⟨cs,rfl,nN⟩
 | .tup ss=>⟨ss,rfl,dN⟩
theorem dN:∀{ss:List SV},Ov ss ss
 |[]=>rfl
 |s::ss=>⟨s,ss,rfl,pE,dN⟩
end
theorem Tw.a {cs cs':List TV} (h:j9 cs cs'):Tw (.agg cs) (.agg cs'):=⟨cs',rfl,h⟩
theorem Tw.o {t t':TV} (h:fU t t'):Tw (.one t) (.one t'):=⟨t',rfl,h⟩
theorem s8 {ss':List SV} (h:Ov ss ss'):Tw (.tup ss) (.tup ss'):=⟨ss',rfl,h⟩
theorem Ov.c {xs:List SV} {s x:SV} (h:Tw s x) (k:Ov ss xs):Ov (s::ss) (x::xs):=⟨x,xs,rfl,h,k⟩
def FM (F U F' U':List Nat):Prop:=F'.Sublist F/\∀b∈U',b∈U\/(b∈F/\b∉F')
theorem N6 {F1 F2 U1 U2 F1' F2' U1' U2':List Nat} (hd:(F1++F2).Nodup) (h:FM F1 U1 F1' U1') (k:FM F2 U2 F2' U2'):FM (F1++F2) (U1++U2) (F1'++F2') (U1'++U2'):=by
 obtain⟨_,_,hd⟩:=BG.1 hd;refine⟨h.1.append k.1,λb hb=>?_⟩
 rcases Au.1 hb with hb|hb
 ·rcases h.2 b hb with q|⟨q1,q2⟩
  ·grind
  refine .inr ⟨by simp[q1],λhc=>?_⟩
  rcases Au.1 hc with hc|hc
  ·exact q2 hc
  exact hd b q1 b (k.1.subset hc) rfl
 rcases k.2 b hb with q|⟨q1,q2⟩
 ·grind
 refine .inr ⟨by simp[q1],λhc=>?_⟩
 rcases Au.1 hc with hc|hc
 ·exact hd b (h.1.subset hc) b q1 rfl
 exact q2 hc
theorem FM.refl:FM F U F U:=⟨List.Sublist.refl _,λb hb=> .inl hb⟩
theorem oQ {t t':TV} (h:BU w t v F U) (k:fU t t'):∃F' U',BU w t' v F' U'/\FM F U F' U':=by
 rcases k with rfl|⟨e,sz,a,cells',rfl,rfl,rfl⟩
 ·grind [FM.refl]
 obtain⟨U',h1,h2⟩:=N1 h;exact⟨[],U',h1,List.nil_sublist _,λb hb=>(h2 b hb).elim (λq=> .inr ⟨q,by simp⟩) .inl⟩
def oA (ops:Array Oper) (i:Nat):Oper:=match ops[i]? with
 |some o=>o
 | none => { dst := none, op := .load 0 (.tmp 0), type := 0, pos := "", after := #[], guard := none }
theorem FC {ops:Array Oper} (h:Nat.blt i ops.size=true):ops[i]?=some (oA ops i):=by grind [Bz,oA]
theorem DI {ops:Array Oper} (h:Nat.blt i ops.size=true):ops.toList.drop i=oA ops i::ops.toList.drop (i+1):=by
 have hi:i<ops.toList.length:=by simpa[Bz]using h
 have h1:=FC h
 grind [Bp]
def NR (P:Program) (ops:Array Oper) (E:St) (i:Nat):Bool:=Nat.blt i ops.size&&(match Az P ops E (oA ops i)with|some b=>b|none=>false)
theorem EC {ops:Array Oper} (h:NR P ops E i=true):Nat.blt i ops.size=true/\Az P ops E (oA ops i)=some true:=by grind [NR]
def FN (N:Nat) (o:Oper):Bool:=match o.dst with
 |some d=>Nat.blt d N
 |none=>false
theorem Dn {o:Oper} (h:FN N o=true):∃d,o.dst=some d/\Nat.blt d N=true/\d<N:=by grind [Bz,FN]
def gF (P:Program) (N:Nat) (ops:Array Oper) (mv:Bool) (E:St) (i:Nat):Option St:=bif Nat.blt i ops.size then
  match Az P ops E (oA ops i)with
  |some true=>Bu P N mv E<|oA ops i
  |some false=>bif FN N (oA ops i)then some (E.put (oA ops i).dst<|.tup [])else none
  |none=>none else none
def M3 (P:Program) (N:Nat) (ops:Array Oper):Nat->Nat->Nat->St->Option St
 |0,_,_,E=>some E
 |k+1,m,i,E=>match gF P N ops (Nat.beq (m %2) 1) E i with
  |some E'=>M3 P N ops k (m/2) (i+1) E'
  |none=>none
def KZ (P:Program) (N:Nat) (ops:Array Oper) (k m i:Nat) (E:St):St:=(M3 P N ops k m i E).getD E
theorem getD_some {α:Type _} {x:Option α} {a:α} (h:x.isSome=true):x=some (x.getD a):=by
 cases x with
 |none=>cases h
 |some y=>rfl
def RW (P:Program) (N:Nat) (ops:Array Oper) (i:Nat) (E:St) (Q:Exit->St->Prop):Prop:=Ao P N ops (ops.toList.drop i) E Q
def SW (P:Program) (N:Nat) (ops:Array Oper) (m i:Nat) (E:St) (K:St->Prop):Prop:=DE P N ops ((ops.toList.take m).drop i) E K
theorem bd {r:β} {x:Option α} {k:α->Option β} (h:x.bind k=some r) (hk:∀a,x=some a->k a=some r->G):G:=by grind [Ac]
theorem RW.nil (h:Q .normal E) (hi:Nat.ble ops.size i=true:=by kernel_rfl):RW P N ops i E Q:=by grind [m7,DG,Ao.nil,RW]
theorem BI (hs:Bu P N mv E (oA ops i)=some E') (h:RW P N ops (i+1) E' Q) (hk:NR P ops E i=true:=by kernel_rfl):RW P N ops i E Q:=by
 obtain⟨h1,h2⟩:=EC hk
 grind [DI,Ao.op,RW]
theorem RW.st (hs:gF P N ops mv E i=some E') (h:RW P N ops (i+1) E' Q):RW P N ops i E Q:=by grind [DI,Ao.op,Dn,YL,gF,RW]
section
variable {m:Nat}
theorem RW.run:∀{k m i:Nat} {E E':St},M3 P N ops k m i E=some E'->RW P N ops (i+k) E' Q->RW P N ops i E Q
 |0,m,i,E,E',h,hw=>by grind [M3]
 |k+1,m,i,E,E',h,hw=>by
  simp only[M3]at h;split at h
  ·rename_i E1 h1;exact RW.st h1 (RW.run h (by grind))
  cases h
end
theorem jW (k m:Nat) (h:RW P N ops (i+k) (KZ P N ops k m i E) Q) (hk:(M3 P N ops k m i E).isSome=true:=by kernel_rfl):RW P N ops i E Q:=RW.run (getD_some hk) h
def g7 (P:Program) (N:Nat) (ops:Array Oper) (i:Nat) (E:St):Bool:=NR P ops E i&&pk (oA ops i)&&FN N (oA ops i)
theorem ZJ (h:g7 P N ops i E=true):NR P ops E i=true/\pk (oA ops i)=true/\∃d,(oA ops i).dst=some d/\Nat.blt d N=true/\d<N:=by grind [Dn,g7]
theorem pH {s:SV} (hp:AB P E (oA ops i)=some s) (h:RW P N ops (i+1) (E.put (oA ops i).dst s) Q) (hk:g7 P N ops i E=true:=by kernel_rfl):RW P N ops i E Q:=by
 obtain⟨h1,h2,d,h3,h4,_⟩:=ZJ hk;rw[h3]at h;exact BI (Bv hp h3 h4 h2) h h1
theorem rH {r:β} {b:Bool} (t:Nat) (h:(bif b then tx else ty)=some r) (ht:tx=some r->RW P N ops i (E.rs t true) Q) (hf:ty=some r->RW P N ops i (E.rs t false) Q) (hc:E.slots t=B b:=by kernel_rfl):RW P N ops i E Q:=jY h t ht hf hc
section
variable {m:Nat}
theorem LC (h:Nat.blt i ops.size=true) (hm:Nat.blt i m=true):(ops.toList.take m).drop i=oA ops i::(ops.toList.take m).drop (i+1):=by
 have hi:i<ops.size:=by simpa[Bz]using h
 have a:i<m:=by simp_all
 have hl:i<(ops.toList.take m).length:=by simp;omega
 have h1:=FC h
 grind [Bp]
end
theorem SW.nil {m:Nat} (h:K E) (hi:(Nat.ble ops.size i||Nat.ble m i)=true:=by kernel_rfl):SW P N ops m i E K:=by grind [DG,m7,DE.nil,SW]
def Z3 (P:Program) (N:Nat) (ops:Array Oper) (m:Nat) (E:St) (i:Nat):Option St:=bif Nat.blt i ops.size&&Nat.blt i m&&FN N (oA ops i)then
  match Az P ops E (oA ops i)with
  |some true=>match DH P E (oA ops i)with
   |some s=>some<|E.put (oA ops i).dst s
   |none=>none
  |some false=>some<|E.put (oA ops i).dst<|.tup []
  |none=>none else none
def UD (P:Program) (N:Nat) (ops:Array Oper) (m:Nat):Nat->Nat->St->Option St
 |0,_,E=>some E
 |k+1,i,E=>match Z3 P N ops m E i with
  |some E'=>UD P N ops m k (i+1) E'
  |none=>none
theorem SW.st {m:Nat} (hs:Z3 P N ops m E i=some E') (h:SW P N ops m (i+1) E' K):SW P N ops m i E K:=by grind [Dn,LC,DE.op,jT,Z3,SW]
theorem SW.run {m:Nat}:∀{k i:Nat} {E E':St},UD P N ops m k i E=some E'->SW P N ops m (i+k) E' K->SW P N ops m i E K
 |0,i,E,E',h,hw=>by grind [UD]
 |k+1,i,E,E',h,hw=>by
  simp only[UD]at h;split at h
  ·rename_i E1 h1;exact SW.st h1 (SW.run h (by grind))
  cases h
theorem DF {m:Nat} (k:Nat) (h:SW P N ops m (i+k) ((UD P N ops m k i E).getD E) K) (hk:(UD P N ops m k i E).isSome=true:=by kernel_rfl):SW P N ops m i E K:=SW.run (getD_some hk) h
theorem BR {m:Nat} {s:SV} (hp:AB P E (oA ops i)=some s) (h:SW P N ops m (i+1) (E.put (oA ops i).dst s) K) (hk:(g7 P N ops i E&&Nat.blt i m)=true:=by kernel_rfl):SW P N ops m i E K:=by
 rw[Af]at hk;obtain⟨h1,h2,d,h3,h4,h5⟩:=ZJ hk.1;obtain⟨h6,h7⟩:=EC h1
 grind [LC,DE.op,cA,SW]
theorem n0 {m:Nat} {r:β} {b:Bool} (t:Nat) (h:(bif b then tx else ty)=some r) (ht:tx=some r->SW P N ops m i (E.rs t true) K) (hf:ty=some r->SW P N ops m i (E.rs t false) K) (hc:E.slots t=B b:=by kernel_rfl):SW P N ops m i E K:=pD h t ht hf hc
def iJ (n:Nat):List Nat->Array Bool
 |[]=>Array.replicate n false
 |i::l=>(iJ n l).setIfInBounds i true
def KW (P:Program) (N:Nat) (ops:Array Oper) (ts:List Nat) (dn:List Nat) (E:St) (Q:Exit->St->Prop):Prop:=KA P N ops ts (ops.size-dn.length) (iJ ops.size dn) E Q
def KB (P:Program) (N:Nat) (ops:Array Oper) (ts:List Nat) (dn:List Nat) (i:Nat) (E:St) (Q:Exit->St->Prop):Prop:=Ox P N ops ts i E (λE'=>KW P N ops ts (i::dn) E' Q) Q
theorem AK {ts:List Nat} (h:Q .normal E) (hr:(Region.ready .any ops (iJ ops.size dn)).isEmpty=true:=by kernel_rfl):KW P N ops ts dn E Q:=YM h<|by simpa using hr
def nI (ops:Array Oper) (dn l:List Nat):Bool:=(Region.ready .any ops (iJ ops.size dn)==l)&&Nat.blt dn.length ops.size
theorem N7 (h:Nat.blt dn.length ops.size=true):ops.size-dn.length=(ops.size-(i::dn).length)+1:=by grind [Bz]
theorem KW.all {ts:List Nat} (l:List Nat) (h:∀i∈l,KB P N ops ts dn i E Q) (a:l≠ []) (hr:nI ops dn l=true):KW P N ops ts dn E Q:=by
 simp only[nI,Af,mR]at hr;unfold KW;rw[N7 (i:=0) hr.2];exact KA.all l (λi hi=>h i hi) hr.1 a
theorem Bq {ts:List Nat} (i:Nat) (h:KB P N ops ts dn i E Q) (hr:nI ops dn [i]=true:=by kernel_rfl):KW P N ops ts dn E Q:=KW.all [i] (λj hj=>by grind) (by simp) hr
theorem D9 {ts:List Nat} (i j:Nat) (h:KB P N ops ts dn i E Q) (h2:KB P N ops ts dn j E Q) (hr:nI ops dn [i,j]=true:=by kernel_rfl):KW P N ops ts dn E Q:=KW.all [i,j] (λm hm=>by grind) (by simp) hr
theorem LW {ts:List Nat} (hs:Bu P N mv E (oA ops i)=some E') (h:KW P N ops ts (i::dn) E' Q) (hk:(NR P ops E i&&(kp (oA ops i)||ts.contains i))=true:=by kernel_rfl):KB P N ops ts dn i E Q:=by
 rw[Af]at hk;obtain⟨h1,h2⟩:=EC hk.1;exact Ox.op i mv h hs (FC h1) h2 hk.2
theorem YN {ts:List Nat} {s:SV} (hp:AB P E (oA ops i)=some s) (h:KW P N ops ts (i::dn) (E.put (oA ops i).dst s) Q) (hk:(g7 P N ops i E&&(kp (oA ops i)||ts.contains i))=true:=by kernel_rfl):KB P N ops ts dn i E Q:=by
 rw[Af]at hk;obtain⟨h1,h2,d,h3,h4,h5⟩:=ZJ hk.1;rw[h3]at h;exact LW (Bv hp h3 h4 h2) h<|by grind
def dX (ops:Array Oper) (ts dn:List Nat) (i:Nat):Bool:=Nat.blt dn.length ops.size&&L9 ops ts ops.size i (iJ ops.size dn)
theorem pN {ts:List Nat} {s:SV} (i:Nat) (hp:DH P E (oA ops i)=some s) (h:KW P N ops ts (i::dn) (E.put (oA ops i).dst s) Q) (hk:(NR P ops E i&&FN N (oA ops i)&&dX ops ts dn i)=true):KW P N ops ts dn E Q:=by
 simp only[Af,dX]at hk;obtain⟨⟨h1,h2⟩,h3,h4⟩:=hk;obtain⟨h5,h6⟩:=EC h1;obtain⟨d,h7,h8,_⟩:=Dn h2;unfold KW at h⊢;rw[N7 (i:=i) h3];rw[h7]at h;exact KA.take ops.size i d s h hp (FC h5) h4 h6 h7 h8
theorem tA {ts:List Nat} {s:SV} (i:Nat) (hp:AB P E (oA ops i)=some s) (h:KW P N ops ts (i::dn) (E.put (oA ops i).dst s) Q) (hk:(g7 P N ops i E&&dX ops ts dn i)=true:=by kernel_rfl):KW P N ops ts dn E Q:=by grind [pN,cA,g7]
theorem rO {ts:List Nat} (i:Nat) (h:KW P N ops ts (i::dn) (E.put (oA ops i).dst (.tup [])) Q) (hg:Az P ops E (oA ops i)=some false) (hk:(Nat.blt i ops.size&&FN N (oA ops i)&&dX ops ts dn i)=true):KW P N ops ts dn E Q:=by
 simp only[Af,dX]at hk;obtain⟨⟨h1,h2⟩,h3,h4⟩:=hk;obtain⟨d,h7,h8,_⟩:=Dn h2;unfold KW at h⊢;rw[N7 (i:=i) h3];rw[h7]at h;exact WR ops.size i d h (FC h1) h4 hg h7 h8
def iN (P:Program) (N:Nat) (ops:Array Oper) (ts:List Nat) (mv:Bool) (dn:List Nat) (E:St) (i:Nat):Option St:=match Az P ops E (oA ops i)with
 |some false=>bif Nat.blt i ops.size&&FN N (oA ops i)&&dX ops ts dn i then some (E.put (oA ops i).dst<|.tup [])else none
 |some true=>bif Nat.blt i ops.size&&FN N (oA ops i)&&dX ops ts dn i&&!mv then
   (match DH P E (oA ops i)with
   |some s=>some<|E.put (oA ops i).dst s
   |none=>bif nI ops dn [i]&&(kp (oA ops i)||ts.contains i)then Bu P N mv E (oA ops i)else none) else bif Nat.blt i ops.size&&nI ops dn [i]&&(kp (oA ops i)||ts.contains i)then Bu P N mv E (oA ops i)else none
 |none=>none
section
variable {m:Nat}
def iO (P:Program) (N:Nat) (ops:Array Oper) (ts:List Nat):List Nat->Nat->List Nat->St->Option St
 |[],_,_,E=>some E
 |i::l,m,dn,E=>match iN P N ops ts (Nat.beq (m %2) 1) dn E i with
  |some E'=>iO P N ops ts l (m/2) (i::dn) E'
  |none=>none
end
def VX:List Nat->List Nat->List Nat
 |[],dn=>dn
 |i::l,dn=>VX l (i::dn)
section
variable {ts:List Nat}
theorem KW.st (hs:iN P N ops ts mv dn E i=some E') (h:KW P N ops ts (i::dn) E' Q):KW P N ops ts dn E Q:=by
 unfold iN at hs;split at hs
 ·grind [rO]
 ·rename_i hg;have one:(Nat.blt i ops.size&&nI ops dn [i]&&(kp (oA ops i)||ts.contains i))=true->Bu P N mv E (oA ops i)=some E'->KW P N ops ts dn E Q:=by
   intro hb hs;simp only[Af]at hb;refine Bq i (LW hs h ?_) hb.1.2
   grind [NR]
  grind [pN,NR]
 cases hs
end
section
variable {m:Nat} {ts:List Nat}
theorem KW.run:∀{l:List Nat} {m:Nat} {dn:List Nat} {E E':St},iO P N ops ts l m dn E=some E'->KW P N ops ts (VX l dn) E' Q->KW P N ops ts dn E Q
 |[],m,dn,E,E',h,hw=>by
  injection h with h
  subst h;exact hw
 |i::l,m,dn,E,E',h,hw=>by
  simp only[iO]at h;split at h
  ·rename_i E1 h1;exact KW.st h1 (KW.run h hw)
  cases h
end
theorem AQ {ts:List Nat} (l:List Nat) (m:Nat) (h:KW P N ops ts (VX l dn) ((iO P N ops ts l m dn E).getD E) Q) (hk:(iO P N ops ts l m dn E).isSome=true:=by kernel_rfl):KW P N ops ts dn E Q:=KW.run (getD_some hk) h
theorem Nk {r:β} {ts:List Nat} {b:Bool} (t:Nat) (h:(bif b then tx else ty)=some r) (ht:tx=some r->KW P N ops ts dn (E.rs t true) Q) (hf:ty=some r->KW P N ops ts dn (E.rs t false) Q) (hc:E.slots t=B b:=by kernel_rfl):KW P N ops ts dn E Q:=pM h t ht hf hc
theorem nZ {id:Nat} (h:RW P N ops 0 E Q):Wp P N (.region id ops false) E Q:=by
 have:=Wp.region (id:=id) (l:=ops.toList) (P:=P) (N:=N) (E:=E) (Q:=Q) (by simpa[RW]using h);simpa using this
theorem PZ {id:Nat} (hm:P.follows .mixedOrders=true) (h:SW P N ops ops.size 0 E (λE'=>Q .normal E')) (hB:Region.lexB .any ops=true:=by kernel_rfl):Wp P N (.region id ops true) E Q:=by
 have:=OT (id:=id) (l:=ops.toList) (P:=P) (N:=N) (E:=E) (Q:=Q) hm (by simpa using hB) (by simp_all [AY,SW]);simpa using this
theorem K8 {id:Nat} (n:Nat) (hm:P.follows .mixedOrders=true) (h:SW P N ops n 0 E (λE'=>RW P N ops n E' Q)) (hB:Region.lexTailB .any ops n=true:=by kernel_rfl):Wp P N (.region id ops true) E Q:=by
 have:=bC (id:=id) (l:=ops.toList) (P:=P) (N:=N) (E:=E) (Q:=Q) n hm (by simpa using hB) (by simp_all [SW,RW]);simpa using this
theorem Do {id:Nat} (ts:List Nat) (hm:P.follows .mixedOrders=true) (hQ:∀c E,Q (.panic c) E->False) (h:KW P N ops ts [] E Q):Wp P N (.region id ops true) E Q:=
 Tv ops.size ts hm hQ (by grind [KW,iJ]) rfl
end Go.TI
