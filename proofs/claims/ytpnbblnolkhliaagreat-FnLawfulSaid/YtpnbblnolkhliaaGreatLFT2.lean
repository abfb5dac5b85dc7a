/- What walks of Go code need. No condition. -/
import Derived.Test.YtpnbblnolkhliaaGreatLFT1
import Derived.OrdersHeld
import Derived.Deep.Slices
import Derived.ChangeOld
import Derived.DataReads
import Derived.Lib.ReflectliteSwap
import Derived.Deep.Upon
import Derived.KernelRfl
set_option linter.unusedSimpArgs false
set_option linter.unusedVariables false
namespace Go.TI
open Go Go.RowKit
variable {E E':St} {P:Program} {N sz i j d fuel sz' by_ e':Nat} {α γ β S α':Type} {ops:Array Oper} {Q:Exit->St->Prop} {w w':World} {n n':Int} {K:St->Prop} {dn FA UA F U:List Nat} {rest:List Oper} {oo:Oper} {listed:Array Bool} {v:Value} {FS US:Root->List Nat} {k k2 k1:IntKind} {as:List AV} {fn:Func} {blk:Root->Nat} {md:Region.Mode} {o1 o2:Operand} {y:Code} {lo:Option Operand} {A' A:Si} {sf:FuncId} {fs:Array Field} {fd:Field} {zs cs':List TV} {T:Nat->Bool} {G:Prop} {ss:List SV} {x:α} {f:α->List TV} {l:List α} {tx:Option β} {ty:Option β} {z:α} {Am:List γ->Si} {lt:γ->γ->Bool} {f':α'->List TV} {l':List α'} {x':α'}
def A9 (f:α->List TV) (l:List α):List TV:=(l.map f).flatten
def gi (l:List α) (i:Int):Option α:=if 0<=i then l[i.toNat]? else none
def si (l:List α) (i:Int) (x:α):List α:=l.set i.toNat x
def ln (l:List α):Int:=(l.length:Nat)
theorem EN (hf:∀x,(f x).length=sz):∀l:List α,(A9 f l).length=l.length*sz
 |[]=>by simp[A9]
 |x::l=>by
  have:=EN hf l;simp only[A9,CL,List.flatten_cons,Ak,AA,hf]at this⊢
  grind
theorem Hd (x:α) (l:List α):A9 f (x::l)=f x++A9 f l:=rfl
theorem Tm (l m:List α):A9 f (l++m)=A9 f l++A9 f m:=by simp[A9]
theorem Uc {i:Int} (h:gi l i=some x):0<=i/\i.toNat<l.length/\l[i.toNat]?=some x:=by
 unfold gi at h
 grind
theorem K4 (hf:∀x,(f x).length=sz):∀(l:List α) (n:Nat),(A9 f l).drop (n*sz)=A9 f (l.drop n)
 |l,0=>by simp
 |[],n+1=>by simp[A9]
 |x::l,n+1=>by
  rw[Hd,List.drop_succ_cons,<-K4 hf l n,GO,vP,<-C9,G6 (hf x)]
theorem AB9 {i:Int} (hf:∀x,(f x).length=sz) (h:gi l i=some x):((A9 f l).drop (i.toNat*sz)).take sz=f x:=by
 obtain⟨_,h1,h2⟩:=Uc h;rw[K4 hf,AE h1,Hd,List.take_left'<|hf _]
 grind
theorem P4 {i:Int} {k:Nat} (hf:∀x,(f x).length=sz) (h:gi l i=some x) (hk:k<sz):(A9 f l)[i.toNat*sz+k]?=(f x)[k]? :=by
 rw[<-AB9 hf h,Hj,AH hk,JK]
theorem nD {i:Int} (hf:∀x,(f x).length=sz) (h:gi l i=some x):(i.toNat+1)*sz<=(A9 f l).length:=by
 rw[EN hf];exact BQ _ (Uc h).2.1
theorem Sx (hf:∀x,(f x).length=sz):∀(l:List α) (n:Nat) (y:List TV) (z:α) {k:Nat} {x:α},l[n]?=some x->k+y.length<=sz->setRow (f x) k y=f z->setRow (A9 f l) (n*sz+k) y=A9 f (l.set n z)
 |[],n,y,z,k,x,h,_,_=>by simp at h
 |x0::l,0,y,z,k,x,h,hk,he=>by
  simp at h;subst h;rw[Uy,Hd,Hd,<-he];have h1:=hf x0;simp only[setRow,Nat.zero_mul,HZ]
  grind
 |x0::l,n+1,y,z,k,x,h,hk,he=>by
  have ih:=Sx hf l n y z (by simpa using h) hk he;rw[List.set_cons_succ,Hd,Hd,<-ih];have h1:=hf x0;simp only[setRow,GO];rw[show n*sz+sz+k=(f x0).length+(n*sz+k) by omega,Q9,List.take_append,List.drop_append,AK (by omega),ER<|by omega];simp
theorem Xn {i:Int} {k:Nat} {y:List TV} (hf:∀x,(f x).length=sz) (h:gi l i=some x) (hk:Nat.ble (k+y.length) sz=true) (he:setRow (f x) k y=f z):setRow (A9 f l) (i.toNat*sz+k) y=A9 f (si l i z):=
 Sx hf l _ y z (Uc h).2.2 (by simpa[Q5]using hk) he
theorem oS {n k:Nat} (hf:∀x,(f x).length=sz) (h:l[n]?=some x) {t:TV} (hk:k<sz) (he:(f x).set k t=f z):(A9 f l).set (n*sz+k) t=A9 f (l.set n z):=by
 have hl:(n*sz+k)<(A9 f l).length:=by
  rw[EN hf];have:=(Ae.1 h).1;have:(n+1)*sz<=l.length*sz:=BQ _ this
  grind
 have a:∀{c:List TV} {m:Nat},m<c.length->c.set m t=setRow c m [t]:=by
  intro c m hm;rw[List.set_eq_take_append_cons_drop,AH hm];simp[setRow]
 rw[a hl];refine Sx hf l n [t] z h hk ?_
 grind
theorem yQ {i:Int} {k:Nat} (hf:∀x,(f x).length=sz) (h:gi l i=some x) (hk:k<sz) {q:List Nat}:BB (A9 f l) ((i.toNat*sz+k)::q)=BB (f x) (k::q):=by
 simp only[BB,P4 hf h hk]
theorem ADg {i:Int} {k:Nat} (hf:∀x,(f x).length=sz) (h:gi l i=some x) (hk:k<sz) {q:List Nat}:Lv (A9 f l) ((i.toNat*sz+k)::q)=Lv (f x) (k::q):=by
 simp only[Lv,P4 hf h hk]
theorem ACV {i:Int} {k:Nat} (hf:∀x,(f x).length=sz) (h:gi l i=some x) (hk:k<sz) {q:List Nat} {g:List TV->List TV} (he:Dt (f x) (k::q) g=f z):Dt (A9 f l) ((i.toNat*sz+k)::q) g=A9 f (si l i z):=by
 rw[Dt]at he⊢;rw[P4 hf h hk];split
 ·rename_i o e sz' a hc;rw[hc]at he;exact oS hf (Uc h).2.2 hk he
 rename_i hc;split at he
 ·grind
 have:(A9 f l).set (i.toNat*sz+k) ((f x)[k]?.getD .junk)=A9 f (si l i z):=by
  refine oS hf (Uc h).2.2 hk ?_;rw[<-he];have:k<(f x).length:=by rw[hf];exact hk
  rw[Ab this];simp
 rw[<-this];have h2:=P4 hf h hk;have h3:k<(f x).length:=by rw[hf];exact hk
 rw[Ab h3]at h2⊢;exact(PT h2).symm
abbrev I (n:Int):SV:= .one (.int .i64 n)
abbrev B (b:Bool):SV:= .one (.bool b)
abbrev Y (s:ByteArray):SV:= .one (.str s)
def QR (body:S->Option (S⊕α)):Nat->S->Option α
 |0,_=>none
 |n+1,s=>match body s with
  |none=>none
  |some (.inl s')=>QR body n s'
  |some (.inr a)=>some a
theorem Xs {body:S->Option (S⊕α)} {a:α}:∀{n m:Nat} {s:S},QR body n s=some a->n<=m->QR body m s=some a
 |0,_,_,h,_=>by cases h
 |n+1,0,_,_,h=>by omega
 |n+1,m+1,s,h,hm=>by
  simp only[QR]at h⊢;split at h
  ·cases h
  ·exact Xs h (by omega)
  exact h
open Classical in
noncomputable def Al (body:S->Option (S⊕α)) (s:S):Option α:=
 if h:∃a n,QR body n s=some a then some h.choose else none
theorem HP {body:S->Option (S⊕α)} {s:S} {a:α}:Al body s=some a↔∃n,QR body n s=some a:=by
 unfold Al;constructor
 ·intro h;split at h
  ·grind
  cases h
 rintro⟨n,h⟩;have he:∃a n,QR body n s=some a:=⟨a,n,h⟩;rw[dif_pos he];obtain⟨m,hm⟩:=he.choose_spec;have h1:=Xs hm<|Nat.le_max_left m n;have h2:=Xs h<|Nat.le_max_right m n
 grind
theorem Ax (body:S->Option (S⊕α)) (s:S):Al body s=match body s with
  |none=>none
  |some (.inl s')=>Al body s'
  |some (.inr a)=>some a:=by
 have b:∀a,Al body s=some a↔(match body s with|none=>none|some (.inl s')=>Al body s'|some (.inr a)=>some a)=some a:=by
  intro a;rw[HP];constructor
  ·rintro⟨n,h⟩
   cases n with
   |zero=>cases h
   |succ n=>
    simp only[QR]at h;split at h
    ·cases h
    ·exact HP.2 ⟨n,h⟩
    omega
  intro h;split at h
  ·cases h
  ·rename_i s' hb;obtain⟨n,hn⟩:=HP.1 h;exact⟨n+1,by simp only[QR,hb];exact hn⟩
  rename_i a' hb;exact⟨1,by simp only[QR,hb];exact h⟩
 cases hx:Al body s with
 |some a=>grind
 |none=>
  cases hy:(match body s with|none=>none|some (.inl s')=>Al body s'|some (.inr a)=>some a:Option α)with
  |none=>rfl
  |some a=>grind
def mvs (E:St) (l:List (Root×List TV)):St:=l.foldl (λE x=>(E.setRoot x.1 x.2).bump x.1) E
def St.rs (E:St) (t:Nat) (b:Bool):St:={E with slots:=Ci E.slots t (B b)}
theorem hZ {t:Nat} {b:Bool} (h:E.slots t=B b):E.rs t b=E:=by
 have:Ci E.slots t (B b)=E.slots:=by
  funext n;simp only[Ci]
  grind
 unfold St.rs;rw[this]
theorem GL.o (d:Nat) (s:SV) (h:GL P N ops rest (E.put (some d) s) Q) (hs:Ct P N false E oo=some (E.put (some d) s):=by rfl) (hg:By P ops E oo=some true:=by rfl):GL P N ops (oo::rest) E Q:=GL.op false hg hs h
theorem GL.b (m:List (Root×List TV)) (d:Nat) (xs:List TV) (h:GL P N ops rest ((mvs E m).newBox d xs) Q) (hs:Ct P N false E oo=some ((mvs E m).newBox d xs):=by rfl) (hg:By P ops E oo=some true:=by rfl):GL P N ops (oo::rest) E Q:=GL.op false hg hs h
theorem AGY (mv:Bool) (m:List (Root×List TV)) (d:Nat) (s:SV) (h:GL P N ops rest ((mvs E m).put (some d) s) Q) (hs:Ct P N mv E oo=some ((mvs E m).put (some d) s):=by rfl) (hg:By P ops E oo=some true:=by rfl):GL P N ops (oo::rest) E Q:=GL.op mv hg hs h
theorem AFj {l:List Oper} {r:β} {b:Bool} (h:(bif b then tx else ty)=some r) (t:Nat) (ht:tx=some r->GL P N ops l (E.rs t true) Q) (hf:ty=some r->GL P N ops l (E.rs t false) Q) (hc:E.slots t=B b:=by rfl):GL P N ops l E Q:=by
 cases b
 ·rw[hZ hc]at hf;exact hf h
 rw[hZ hc]at ht;exact ht h
theorem Wp.c {r:β} {x:Code} {c:Operand} {b:Bool} (h:(bif b then tx else ty)=some r) (ht:tx=some r->Wp P N x E Q) (hf:ty=some r->Wp P N y E Q) (hc:E.cell1 P 0 c=some (.bool b):=by rfl):Wp P N (.cond c x y) E Q:=by
 refine Wp.cond hc (λhb=>?_) λhb=>?_
 ·subst hb;exact ht h
 grind
theorem AF1 {x:Code} {c:Operand} (ht:Wp P N x E Q) (hc:E.cell1 P 0 c=some (.bool true):=by rfl):Wp P N (.cond c x y) E Q:=Wp.cond hc (λ_=>ht) λh=>by cases h
theorem AF2 {x:Code} {c:Operand} (hf:Wp P N y E Q) (hc:E.cell1 P 0 c=some (.bool false):=by rfl):Wp P N (.cond c x y) E Q:=Wp.cond hc (λh=>by cases h) λ_=>hf
def pk (o:Oper):Bool:=match o.op with
 | .nilCheck _| .pick .. | .binOp .. | .unOp .. | .convert .. | .fieldAddr .. | .indexAddr .. | .load .. | .index .. | .slice .. =>true
 | .call c=>match c.callee with
  | .builtin .len| .builtin .min| .builtin .max=>true
  |_=>false
 |_=>false
theorem AAl {o:Oper} {s:SV} {src dst:TypeId} {x:Operand} (ho:o.op= .convert src dst x) (hp:AU P E o=some s):Uf P E d src dst x=none:=by
 unfold AU at hp;unfold Uf
 grind
theorem wI {o:Oper} {s:SV} (hp:AU P E o=some s) (hd:o.dst=some d:=by rfl) (hN:Nat.blt d N=true:=by rfl) (hk:pk o=true:=by rfl):Ct P N false E o=some (E.put (some d) s):=by
 have hN':d<N:=by simpa[B3]using hN
 unfold pk at hk;unfold Ct;rw[hd];simp only[AH hN'];split at hk<;>rename_i ho<;>try (cases hk;done)
 all_goals first|(simp only[ho,AAl ho hp,hp,BD];done)|simp only[ho,hp,BD]
 rename_i c;split at hk<;>rename_i hc<;>try (cases hk;done)
 all_goals simp only[hc,BD]
theorem wK {o:Oper} {s:SV} (hp:AU P E o=some s) (hk:pk o=true:=by rfl):JR P E o=some s:=by
 unfold pk at hk;unfold JR
 grind
theorem AFI {o:Oper} (hf:∀x,(f x).length=sz) (r:Root) (q:List Nat) (j:Nat) (hx:gi l n=some x) {t e e':TypeId} {a i:Operand} {b:Bool} (hp:E.place r q j=some (.sl b e' sz (A9 f l)):=by rfl) (ho:o.op= .indexAddr t a i:=by rfl) (ht:P.underlying t=some (.slice e):=by rfl) (hi:E.cell1 P 0 i=some (.int k n):=by rfl) (hr:E.ref a=some (r,q,j):=by rfl) (c:P.cellsOf e=sz:=by rfl) (h0:Nat.blt 0 sz=true:=by rfl):AU P E o=some (.one<|.ptr r (E.ver r) (q++ [j])<|n.toNat*sz+0):=by
 have h0':0<sz:=by simpa[B3]using h0
 simp only[AU,ho,ht,hi,hr,hp];rw[AH ⟨c.symm,h0',(Uc hx).1,nD hf hx⟩];rfl
theorem AGA {o:Oper} {fl:Nat} (hf:∀x,(f x).length=sz) (r:Root) (q:List Nat) (k:Nat) (hx:gi l n=some x) {st:TypeId} {a:Operand} (hr:(E.root r).bind (λcs=>BB cs q)=some (A9 f l):=by rfl) (ho:o.op= .fieldAddr st a fl:=by rfl) (hs:P.underlying st=some (.struct fs):=by rfl) (hp:E.ptr? a=some (r,q,n.toNat*sz+k):=by rfl) (b:fs[fl]?=some fd:=by rfl) (hc:Nat.beq (P.cellsOf fd.type) 0=false:=by rfl) {m:Nat} (hm:k+fd.offset=m:=by rfl) (hk:Nat.blt (k+fd.offset) sz=true:=by rfl):AU P E o=some (.one<|.ptr r (E.stamp r q) q<|n.toNat*sz+m):=by
 subst hm;have hc':P.cellsOf fd.type≠0:=by intro h;rw[h]at hc;cases hc
 have hk':k+fd.offset<sz:=by simpa[B3]using hk
 have c:(E.place r q<|n.toNat*sz+k+fd.offset).isSome=true:=by
  obtain⟨cs,h1,h2⟩:=Ah.1 hr;simp only[St.place,h1,Aa,h2,Q9,P4 hf hx hk']
  grind
 simp only[AU,ho,hs,hp,b]
 grind
theorem AGz {o:Oper} (hf:∀x,(f x).length=sz) (r:Root) (q:List Nat) (k:Nat) (u:TV) (hx:gi l n=some x) {t:TypeId} {a:Operand} (hr:(E.root r).bind (λcs=>BB cs q)=some (A9 f l):=by rfl) (ho:o.op= .load t a:=by rfl) (hp:E.ptr? a=some (r,q,n.toNat*sz+k):=by rfl) (ha:fX P t=false:=by rfl) (h1:P.cellsOf t=1:=by rfl) (hu:(P.underlying t).isSome=true:=by rfl) (hk:Nat.blt k sz=true:=by rfl) (hj:(f x)[k]?=some u:=by rfl):AU P E o=some (.one<|see E r q (n.toNat*sz+k) u):=by
 have hk':k<sz:=by grind
 have b:=nD hf hx;rw[GO]at b;simp only[AU,ho,hp,hr,ha,h1];rw[AH (by omega),AO (by simp),AH ⟨trivial,hu⟩,P4 hf hx hk',hj];rfl
theorem AGy {o:Oper} (hf:∀x,(f x).length=sz) (r:Root) (q:List Nat) (k m:Nat) (hx:gi l n=some x) {t:TypeId} {a:Operand} (hr:(E.root r).bind (λcs=>BB cs q)=some (A9 f l):=by rfl) (ho:o.op= .load t a:=by rfl) (hp:E.ptr? a=some (r,q,n.toNat*sz+k):=by rfl) (ha:fX P t=true:=by rfl) (h1:P.cellsOf t=m:=by rfl) (hk:Nat.ble (k+m) sz=true:=by rfl):AU P E o=some (.agg<|Wa E r q (n.toNat*sz+k)<|((f x).drop k).take m):=by
 have hk':k+m<=sz:=by simpa[Q5]using hk
 have b:=nD hf hx;rw[GO]at b;simp only[AU,ho,hp,hr,ha,h1];rw[AH (by omega),AH trivial,<-AB9 hf hx,List.drop_take,List.take_take,Nat.min_eq_left (by omega),C9]
theorem AFH {o:Oper} (hf:∀x,(f x).length=sz) (l:List α) {t e e':TypeId} {a:Operand} {b:Bool} {r:Root} {q:List Nat} (ho:o.op= .call {callee:= .builtin .len,args:= #[a],argTypes:= #[t]}:=by rfl) (ht:P.underlying t=some (.slice e):=by rfl) (hr:E.ref a=some (r,q,j):=by rfl) (hp:E.place r q j=some (.sl b e' sz<|A9 f l):=by rfl) (h0:Nat.blt 0 sz=true:=by rfl):AU P E o=some (.one<|.int .i64<|ln l):=by
 have h0':0<sz:=by simpa[B3]using h0
 have:(A9 f l).length/sz=l.length:=by rw[EN hf];exact NN _ h0'
 simp only[AU,ho,P9,ht,St.sliceCells,hr,hp];rw[AH h0',this];rfl
def sx (s:ByteArray) (i:Int):Option Int:=if 0<=i/\i<s.size then some (AU.bt s i)else none
def sub (s:ByteArray) (l h:Int):Option ByteArray:=if 0<=l/\l<=h/\h<=s.size then some (s.extract l.toNat h.toNat)else none
def Ih (a b:ByteArray):Option ByteArray:=if((a.size+b.size:Nat):Int)>9223372036854775807 then none else some<|a++b
def FL (s:ByteArray):Int:=(s.size:Nat)
def seq (a b:ByteArray):Bool:=a.toList==b.toList
theorem AGx {o:Oper} {s:ByteArray} {n b:Int} (h:sx s n=some b) {t:TypeId} {a i:Operand} (ho:o.op= .index t a i:=by rfl) (ht:P.underlying t=some .string:=by rfl) (ha:E.cell1 P t a=some (.str s):=by rfl) (hi:E.cell1 P 0 i=some (.int k n):=by rfl):
  AU P E o=some (.one<|.int .u8 b):=by
 unfold sx at h;split at h
 ·rename_i hc
  injection h with h
  simp only[AU,ho,ht,ha,hi];rw[AH hc,h]
 cases h
section
variable {o:Oper}
theorem AFF {hi:Option Operand} {k':IntKind} {s u:ByteArray} {l h:Int} (hx:sub s l h=some u) {t:TypeId} {a:Operand} (ho:o.op= .slice t a lo hi none:=by rfl) (ht:P.underlying t=some .string:=by rfl) (ha:E.cell1 P t a=some (.str s):=by rfl) (hl:(match lo with|some o=>E.cell1 P 0 o|none=>some<|.int .i64 0)=some (.int k l):=by rfl) (hh:(match hi with|some o=>E.cell1 P 0 o|none=>some<|.int .i64 s.size)=some (.int k' h):=by rfl):
  AU P E o=some (.one<|.str u):=by
 unfold sub at hx;split at hx
 ·rename_i hc
  injection hx with hx
  have fin:(if 0<=l/\l<=h/\h<=(s.size:Int)then some (SV.one<|.str<|s.extract l.toNat h.toNat)else none)=some (.one<|.str u):=by rw[AH hc,hx]
  cases lo with
  |none=>
   injection hl with hl
   injection hl with _ hl
   subst hl
   cases hi with
   |none=>
    injection hh with hh
    injection hh with _ hh
    subst hh;simpa only[AU,ho,ht,ha]using fin
   |some y=>
    have hh':E.cell1 P 0 y=some (.int k' h):=hh;simpa only[AU,ho,ht,ha,hh']using fin
  |some z=>
   have hl':E.cell1 P 0 z=some (.int k l):=hl
   cases hi with
   |none=>
    injection hh with hh
    injection hh with _ hh
    subst hh;simpa only[AU,ho,ht,ha,hl']using fin
   |some y=>
    have hh':E.cell1 P 0 y=some (.int k' h):=hh;simpa only[AU,ho,ht,ha,hl',hh']using fin
 cases hx
end
theorem AFK {o:Oper} {x y:Operand} {a b u:ByteArray} (hx:Ih a b=some u) {t t':TypeId} (ho:o.op= .binOp .add t x y t':=by rfl) (ha:E.cell1 P t x=some (.str a):=by rfl) (hb:E.cell1 P t y=some (.str b):=by rfl):
  AU P E o=some (.one<|.str u):=by
 unfold Ih at hx;split at hx
 ·cases hx
 rename_i hc;simp only[AU,ho,ha,hb,XN,Ch,YG]
 grind
def J6 (cs:List TV):Bool:=cs.all λt=>match t with
 | .int .. | .bool _| .str _| .sl false .. =>true
 |_=>false
theorem ZX {E:St} {r:Root} {q:List Nat}:∀{cs:List TV} (c:Nat),J6 cs=true->Wa E r q c cs=cs
 |[],c,h=>rfl
 |t::ts,c,h=>by
  simp only[J6,FJ,Ag]at h;have ih:=ZX (E:=E) (r:=r) (q:=q) (c+1)<|show J6 ts=true from h.2;simp only[Wa,ih]
  cases t with
  |sl o e sz cells=>cases o<;>first|rfl|grind
  |_=>rfl
theorem RU {E:St}:∀{cs:List TV},J6 cs=true->FR E cs=some (cs,E)
 |[],h=>rfl
 |t::ts,h=>by
  simp only[J6,FJ,Ag]at h;have ih:=RU (E:=E)<|show J6 ts=true from h.2;have h1:=h.1;have hr:∀E1 E2 t,(∀r v q j,t≠ .view r v q j)->List.map (rst E1 E2 t) ts=ts:=by
   intro E1 E2 t ht;have:rst E1 E2 t=id:=by
    funext u;cases t<;>first|rfl|grind
   rw[this,VA]
  rw[Sp];cases t<;>simp only[F8]<;>first|grind|(simp at h1;done)
theorem Vk (hf:∀x,J6 (f x)=true):∀l:List α,J6 (A9 f l)=true
 |[]=>rfl
 |x::l=>by
  have:=Vk hf l;rw[Hd];unfold J6 at*
  grind
def ap (by_:Nat) (l m:List α):Option (List α):=if(l.length+m.length)*by_<=140737488355328 then some (l++m)else none
def mk (by_:Nat) (z:α) (n:Int):Option (List α):=if 0<=n/\(by_:Int)*n<=281474976710656/\n<=9223372036854775807 then some (List.replicate n.toNat z)else none
theorem ADV {l m u:List α} (h:ap by_ l m=some u):u=l++m/\(l.length+m.length)*by_<=140737488355328:=by
 unfold ap at h
 grind
theorem SA (h:f z=zs):∀n,(List.replicate n zs).flatten=A9 f (List.replicate n z)
 |0=>rfl
 |n+1=>by rw[List.replicate_succ,List.flatten_cons,SA h n,List.replicate_succ,Hd,h]
theorem AGs {o:Oper} {u:List α} {kl kc:IntKind} (z:α) (h:mk by_ z n=some u) {t e:TypeId} {l c:Operand} (ho:o.op= .makeSlice t l c:=by rfl) (hd:o.dst=some d:=by rfl) (hN:Nat.blt d N=true:=by rfl) (ht:P.underlying t=some (.slice e):=by rfl) (hl:E.cell1 P 0 l=some (.int kl n):=by rfl) (hc:E.cell1 P 0 c=some (.int kc n):=by rfl) (hz:Mp P e=some zs:=by rfl) (hfz:f z=zs:=by rfl) (hb:P.bytesOf e=by_:=by rfl) (b:P.cellsOf e=sz:=by rfl):
  Ct P N false E o=some (E.put (some d)<|.one<|.sl true e sz<|A9 f u):=by
 have hN':d<N:=by simpa[B3]using hN
 unfold mk at h;split at h
 ·rename_i a
  injection h with h
  subst h;unfold Ct;rw[hd];simp only[AH hN',ho,Z3,ht,hl,hc,hz];rw[AH ⟨trivial,a.1,by grind,a.2.2⟩,SA hfz,b]
 cases h
section
variable {o:Oper}
structure At (cs:List TV) (q:List Nat) (row:List TV) (g:List TV->List TV) (cs':List TV):Prop where
 c:BB cs q=some row
 o:Lv cs q=true
 u:Dt cs q g=cs'
end
theorem At.one {row':List TV} {cs a:List TV} {c:Nat} {e s:Nat} {g:List TV->List TV} (h:g a=row') (hc:cs[c]?=some (.sl true e s a):=by rfl) (hs:cs.set c (.sl true e s row')=cs':=by rfl):At cs [c] a g cs':=
 ⟨by simp[BB,hc],by simp[Lv,hc],by simp[Dt,hc,h,hs]⟩
theorem AGc (hf:∀x,(f x).length=sz) {cs a:List TV} {c k:Nat} {q:List Nat} {e s:Nat} {g:List TV->List TV} (hx:gi l n=some x) (h:At (f x) (k::q) a g (f z)) (hk:Nat.blt k sz=true:=by rfl) (hc:cs[c]?=some (.sl true e s<|A9 f l):=by rfl) (hs:cs.set c (.sl true e s<|A9 f<|si l n z)=cs':=by rfl):At cs (c::(n.toNat*sz+k)::q) a g cs':=by
 have hk':k<sz:=by simpa[B3]using hk
 refine⟨?_,?_,?_⟩
 ·rw[<-h.c,<-yQ hf hx hk'];simp only[BB,hc]
 ·rw[<-h.o,<-ADg hf hx hk'];simp only[Lv,hc,QA]
 rw[<-hs,<-ACV hf hx hk' h.u];simp only[Dt,hc]
theorem AE4 (hf:∀x,(f x).length=sz) (hx:gi l n=some x) {k m:Nat} (hk:Nat.ble (k+m) sz=true):n.toNat*sz+k+m<=(A9 f l).length:=by
 have:=nD hf hx;rw[GO]at this;have h1:k+m<=sz:=by simpa[Q5]using hk
 omega
def SV.comps:SV->List SV
 | .tup ss=>ss
 |_=>[]
def St.ex (E:St) (n ix:Nat):St:={E with slots:=Ci E.slots n (.tup<|(E.slots n).comps.set ix<|.one .junk)}
theorem AGZ (n ix d:Nat) (s:SV) (h:GL P N ops rest ((E.ex n ix).put (some d) s) Q) (hs:Ct P N false E oo=some ((E.ex n ix).put (some d) s):=by rfl) (hg:By P ops E oo=some true:=by rfl):GL P N ops (oo::rest) E Q:=GL.op false hg hs h
theorem FK.o (d:Nat) (s:SV) (h:FK P N ops rest (E.put (some d) s) K) (hs:JR P E oo=some s:=by rfl) (hg:By P ops E oo=some true:=by rfl) (hd:oo.dst=some d:=by rfl) (hN:Nat.blt d N=true:=by rfl):FK P N ops (oo::rest) E K:=
 FK.op s hg hd (by simpa[B3]using hN) hs h
theorem AFa {l:List Oper} {r:β} {b:Bool} (h:(bif b then tx else ty)=some r) (t:Nat) (ht:tx=some r->FK P N ops l (E.rs t true) K) (hf:ty=some r->FK P N ops l (E.rs t false) K) (hc:E.slots t=B b:=by rfl):FK P N ops l E K:=by
 cases b
 ·rw[hZ hc]at hf;exact hf h
 rw[hZ hc]at ht;exact ht h
theorem CZ {f g:α->List TV} (h:∀x,Bz (f x)=g x):∀l:List α,Bz (A9 f l)=A9 g l
 |[]=>rfl
 |x::l=>by
  have c:∀a b:List TV,Bz (a++b)=Bz a++Bz b:=by
   intro a b
   induction a with
   |nil=>rfl
   |cons t ts ih=>simp only[BI,Bz,ih]
  rw[Hd,Hd,c,h,CZ h l]
theorem JT (h:∀x,Aw (f x)=false):∀l:List α,Aw (A9 f l)=false
 |[]=>rfl
 |x::l=>by
  have c:∀a b:List TV,Aw (a++b)=(Aw a||Aw b):=by
   intro a b
   induction a with
   |nil=>rfl
   |cons t ts ih=>simp only[BI,Aw,ih,Bool.or_assoc]
  rw[Hd,c,h,JT h l];rfl
def ad (a b:Int):Int:=IntKind.i64.wrap<|a+b
def sb (a b:Int):Int:=IntKind.i64.wrap<|a-b
def ml (a b:Int):Int:=IntKind.i64.wrap<|a*b
def qu (a b:Int):Int:=IntKind.i64.wrap<|a.tdiv b
def xr (a b:Int):Int:=IntKind.u32.wrap (BitVec.ofInt 32 a^^^BitVec.ofInt 32 b).toNat
def an (a b:Int):Int:=IntKind.u32.wrap (BitVec.ofInt 32 a&&&BitVec.ofInt 32 b).toNat
def bs (l:List UInt8):ByteArray:=⟨l.toArray⟩
section
variable (P:Program) (md:Region.Mode) (ops:Array Oper) (Q:Exit->Act->World->Prop) (T:Nat->Bool)
def ZD:Nat->Array Bool->Act->World->Prop
 |0,listed,a,w=>Region.ready md ops listed=[]/\Q .normal a w
 |fuel+1,listed,a,w=>(Region.ready md ops listed=[]->Q .normal a w)/\
  ∀i∈Region.ready md ops listed,wpOp P ops Q i (λa' w'=>(T i=false->E0 w w')/\ZD fuel (listed.setIfInBounds i true) a' w') a w
end
theorem ZC {Q:Exit->Act->World->Prop}:∀(b:Nat) (listed:Array Bool) (a:Act) (w:World),ZD P md ops Q T b listed a w->wpAny P md ops Q b listed a w
 |0,_,_,_,h=>h
 |b+1,_,_,_,h=>⟨h.1,λi hi=>wpOp_mono (λa' w' h'=>ZC b _ a' w' h'.2) (h.2 i hi)⟩
section
variable (md:Region.Mode) (ops:Array Oper)
def ZF (i:Nat):Nat->Nat->Bool
 |0,_=>false
 |n+1,j=>match ops[j]? with
  |some o=>o.after.any λe=>Region.binds md e&&(e.on==i||ZF i n e.on)
  |none=>false
end
def d7 (md:Region.Mode) (ops:Array Oper) (listed:Array Bool):Prop:=∀k o,ops[k]?=some o->listed.getD k false=true->∀e∈o.after,Region.binds md e=true->listed.getD e.on false=true
theorem VG (hc:d7 md ops listed):∀{n j:Nat} {o:Oper},ops[j]?=some o->(∀e∈o.after,Region.binds md e=true->listed.getD e.on false=true)->ZF md ops i n j=true->listed.getD i false=true
 |0,j,o,_,_,h=>by cases h
 |n+1,j,o,ho,ha,h=>by
  simp only[ZF,ho]at h;obtain⟨e,he,hb⟩:=Array.any_eq_true'.1 h;simp only[Ag,CU,CK]at hb;have h1:=ha e he hb.1
  rcases hb.2 with h2|h2
  ·rw[<-h2];exact h1
  cases hk:ops[e.on]? with
  |none=>
   cases n with
   |zero=>cases h2
   |succ n=>simp[ZF,hk]at h2
  |some ok=>exact VG hc hk (hc e.on ok hk h1) h2
theorem Mg (hc:d7 md ops listed) (hr:j∈Region.ready md ops listed):d7 md ops (listed.setIfInBounds j true):=by
 intro k o hk hl e he hb
 have a:∀m,listed.getD m false=true->(listed.setIfInBounds j true).getD m false=true:=λm hm=>getD_set_true hm
 by_cases b:k=j
 ·subst b;obtain⟨_,o',ho',c⟩:=mem_ready.1 hr
  grind
 rw[getD_set_ne false<|JI b]at hl;exact a _<|hc k o hk hl e he hb
theorem N0 {Q:Exit->Act->World->Prop} {oi:Oper} {n:Nat} (hi:ops[i]?=some oi) (m:∀(j:Nat) (o:Oper) cs b,ops[j]?=some o->o.op≠ .select cs b) (hQ:∀c a w,Q (.panic c) (a.put oi.dst v) w->Q (.panic c) a w) (h7:T i=false) (hT:∀j,T j=true->ZF md ops i n j=true):
  ∀(d:Nat) (listed:Array Bool) (a:Act) (w:World),d7 md ops listed->
   (∀j oj,ops[j]?=some oj->j≠i->listed.getD j true=false->(∀e∈oj.after,Region.binds md e=true->e.on≠i)->oi.apart ops oj=true)->
   i∈Region.ready md ops listed->YieldsIf P ops (E0 w) oi v a->
   ZD P md ops Q T d (listed.setIfInBounds i true) (a.put oi.dst v) w->ZD P md ops Q T (d+1) listed a w:=by
 intro d
 induction d with
 |zero=>
  intro listed a w _ _ hr hy H;refine⟨λh=>(by grind),λj hj=>?_⟩;by_cases f:j=i
  ·subst f;exact hy.wpOp hi E0.refl ⟨λ_=>E0.refl,H⟩
  have:=ready_mono hj f;rw[H.1]at this;cases this
 |succ d ih=>
  intro listed a w s g hr hy H;refine⟨λh=>(by grind),λj hj=>?_⟩;by_cases f:j=i
  ·subst f;exact hy.wpOp hi E0.refl ⟨λ_=>E0.refl,H⟩
  have h1:=H.2 j<|ready_mono hj f;obtain⟨p,oj,l,q⟩:=mem_ready.1 hj;have t:listed.getD i false=false:=by
   have h0:=(mem_ready.1 hr).1
   rcases Ei i listed.size with h'|h'
   ·simpa[h']using h0
   grind
  have r:T j=false:=by
   cases r:T j with
   |false=>rfl
   |true=>
    have:=VG s l q<|hT j r
    grind
  have u:∀e∈oj.after,Region.binds md e=true->e.on≠i:=λe he hb z=>by
   have h1:=q e he hb;rw[z,t]at h1;cases h1
  have h2:=wpOp_putIf l (g j oj l f p u) (λcs b=>m i oi cs b hi) (λcs b=>m j oj cs b l) hQ hy h1;have hfree':∀k ok,ops[k]?=some ok->k≠i->(listed.setIfInBounds j true).getD k true=false->
    (∀e∈ok.after,Region.binds md e=true->e.on≠i)->oi.apart ops ok=true:=λk ok hk h4 x h5=>by
   refine g k ok hk h4 ?_ h5;by_cases y:j=k
   ·subst y;exact p
   rw[getD_set_ne true y]at x;exact x
  refine wpOp_mono (λa' w' h3=>⟨h3.2.1,ih (listed.setIfInBounds j true) a' w' (Mg s hj) hfree' (ready_mono hr<|JI f) ?_ ?_⟩) h2
  ·exact h3.1.imp (λ⟨p1,p2⟩=>⟨p1,λw2 h6=>p2 w2<|(h3.2.1 r).trans h6⟩) id
  rw[Array.setIfInBounds_comm _ _ f];exact h3.2.2
def YP (P:Program) (N:Nat) (ops:Array Oper) (ts:List Nat) (b:Nat) (listed:Array Bool) (E:St) (Q:Exit->St->Prop):Prop:=(∀c E,Q (.panic c) E->False)->d7 .any ops listed->∀(w0:Base) (FA UA:List Nat) (w:World) (a:Act) (blk:Root->Nat) (FS US:Root->List Nat),CD w0 FA UA N w a E blk FS US->FS .hand=[]->US .hand=[]->ZD P .any ops (sF w0 FA UA N Q) (λi=>ts.contains i) b listed a w
def j8 (P:Program) (N:Nat) (ops:Array Oper) (ts:List Nat) (i:Nat) (E:St) (K:St->Prop) (Q:Exit->St->Prop):Prop:=∀(w0:Base) (FA UA:List Nat) (w:World) (a:Act) (blk:Root->Nat) (FS US:Root->List Nat),CD w0 FA UA N w a E blk FS US->FS .hand=[]->US .hand=[]->
  wpOp P ops (sF w0 FA UA N Q) i (λa' w'=>(ts.contains i=false->E0 w w')/\∃E' blk' FS' US',K E'/\CD w0 FA UA N w' a' E' blk' FS' US'/\FS' .hand=[]/\US' .hand=[]) a w
theorem j8.op {ts:List Nat} (i:Nat) {o:Oper} (mv:Bool) (h:K E') (hs:Ct P N mv E o=some E') (ho:ops[i]?=some o) (hg:By P ops E o=some true) (hk:(kp o||ts.contains i)=true):j8 P N ops ts i E K Q:=by
 intro w0 FA UA w a blk FS US hr hF hU;unfold wpOp;simp only[ho,Ce hr hg,Ch];refine .inl<|(Sv hr hF hU hs).wp λw' v blk' FS' US' k1 k2 k3 k4=>⟨λht=>k4 (by grind),_,_,_,_,h,k1,k2,k3⟩
theorem j8.call {ts:List Nat} {f:FuncId} {n:Nat} (i:Nat) {o:Oper} {args:Array Operand} {tys:Array TypeId} (hi:ops[i]?=some o) (ho:o.op= .call {callee:= .value (.func f),args:=args,argTypes:=tys}) (hf:fT P f) (hg:By P ops E o=some true) (hN:∀d,o.dst=some d->d<N) (l:List (Bool×TypeId×Operand)) (hl:l.map (λx=>x.2.2)=args.toList) (e:(l.all (λx=>!x.1)||ts.contains i)=true) {b:SV} (c:A0 P f as b (List.replicate n .gone)) (he:Z4 P E o.dst l as b E') (h:K E'):j8 P N ops ts i E K Q:=by
 intro w0 FA UA w a blk FS US hr hF hU;unfold wpOp;simp only[hi,Ce hr hg,Ch];exact .inl<|jP hr hF hU ho hf hN hl c he λw' v blk' FS' US' k1 k2 k3 k4=>⟨λht=>k4 (by grind),_,_,_,_,h,k1,k2,k3⟩
theorem YP.done {ts:List Nat} (h:Q .normal E) (hr:Region.ready .any ops listed=[]:=by decide+kernel):YP P N ops ts fuel listed E Q:=
 λ_ _ w0 FA UA w a blk FS US k1 k2 k3=>by
  have hq:sF w0 FA UA N Q .normal a w:=⟨E,blk,FS,US,h,k1,k2,k3⟩
  cases fuel with
  |zero=>exact⟨hr,hq⟩
  |succ n=>exact⟨λ_=>hq,by rw[hr];simp⟩
section
variable {ts:List Nat}
theorem YP.all (rs:List Nat) (h:∀i∈rs,j8 P N ops ts i E (λE'=>YP P N ops ts fuel (listed.setIfInBounds i true) E' Q) Q) (hr:Region.ready .any ops listed=rs) (b:rs≠ []):YP P N ops ts (fuel+1) listed E Q:=
 λhQ hc w0 FA UA w a blk FS US k1 k2 k3=>⟨λh0=>absurd (hr▸h0) b,λi hi=>by
  have hi':i∈rs:=hr▸hi
  exact wpOp_mono (λa' w' ⟨m0,E',blk',FS',US',m1,m2,m3,m4⟩=>⟨m0,m1 hQ (Mg hc hi) _ _ _ _ _ _ _ _ m2 m3 m4⟩)<|h i hi' _ _ _ _ _ _ _ _ k1 k2 k3⟩
end
def Ue (ops:Array Oper) (ts:List Nat) (n i:Nat) (listed:Array Bool):Bool:=Region.noSelect ops&&Region.free .any ops listed i&&(Region.ready .any ops listed).contains i&&!ts.contains i&&ts.all λj=>ZF .any ops i n j
theorem WL {ts:List Nat} {n:Nat} (h:Ue ops ts n i listed=true):Region.noSelect ops=true/\Region.free .any ops listed i=true/\i∈Region.ready .any ops listed/\ts.contains i=false/\∀j,ts.contains j=true->ZF .any ops i n j=true:=by
 simp only[Ue,Ag,CI,XV]at h
 grind
theorem YP.take {ts:List Nat} (n i:Nat) {o:Oper} (d:Nat) (s:SV) (h:YP P N ops ts fuel (listed.setIfInBounds i true) (E.put (some d) s) Q) (hs:JR P E o=some s) (ho:ops[i]?=some o) (f:Ue ops ts n i listed=true) (hg:By P ops E o=some true) (hd:o.dst=some d) (hN:Nat.blt d N=true):YP P N ops ts (fuel+1) listed E Q:=by
 intro hQ hc w0 FA UA w a blk FS US k1 k2 k3;obtain⟨e1,e2,e3,e4,e5⟩:=WL f;obtain⟨v,U,h1,h2,h3⟩:=ZT k1 hs;refine N0 (v:=v) (n:=n) ho (Region.noSelect_spec e1) (λc a w hx=>?_) e4 e5 fuel listed a w hc (Region.free_spec ho e2) e3 (.inl ⟨Ce k1 hg,λw2 e=>?_⟩) ?_
 ·obtain⟨E',blk',FS',US',m1,_⟩:=hx
  grind
 ·exact h1 w2 λr hr=>⟨λb hb=>e.2 b (k1.inF r b hb).2,λb hb=>e.2 b (k1.inU r b hb).2⟩
 rw[hd];refine h hQ (Mg hc e3) _ _ _ _ _ _ _ _ (k1.put (by simpa[B3]using hN) h2<|Qu k1 h3 _) ?_ ?_
 ·rw[Bj (by simp),k2]
 rw[Bj (by simp),k3]
theorem nZ {ts:List Nat} (n i:Nat) {o:Oper} (d:Nat) (h:YP P N ops ts fuel (listed.setIfInBounds i true) (E.put (some d) (.tup [])) Q) (ho:ops[i]?=some o) (b:Ue ops ts n i listed=true) (hg:By P ops E o=some false) (hd:o.dst=some d) (hN:Nat.blt d N=true):YP P N ops ts (fuel+1) listed E Q:=by
 intro hQ hc w0 FA UA w a blk FS US k1 k2 k3;obtain⟨e1,e2,e3,e4,e5⟩:=WL b;refine N0 (v:=undef) (n:=n) ho (Region.noSelect_spec e1) (λc a w hx=>?_) e4 e5 fuel listed a w hc (Region.free_spec ho e2) e3 (.inr ⟨Ce k1 hg,rfl⟩) ?_
 ·obtain⟨E',blk',FS',US',m1,_⟩:=hx
  grind
 rw[hd];refine h hQ (Mg hc e3) _ _ _ _ _ _ _ _ (k1.put (F:=[]) (U:=[]) (by simpa[B3]using hN) (by simp only[Ik];exact⟨[],rfl,by simp[Sn]⟩) Zc.none) ?_ ?_
 ·rw[Bj (by simp),k2]
 rw[Bj (by simp),k3]
theorem vE {id:Nat} (n:Nat) (ts:List Nat) (hm:P.follows .mixedOrders=true) (hQ:∀c E,Q (.panic c) E->False) (h:YP P N ops ts n (Array.replicate n false) E Q) (hn:ops.size=n:=by rfl):Wp P N (.region id ops true) E Q:=by
 subst hn;intro w0 FA UA w a blk FS US k1 k2 k3;refine wp_region_any hm<|ZC (T:=λi=>ts.contains i) _ _ _ _ ?_;obtain⟨FS',US',m1,m2,m3⟩:=k1.drop (w':={w with drawn:=w.drawn+1}) (Ay _) rfl rfl rfl λ_ _ _=>rfl;refine h hQ (λk o hk hl=>?_) _ _ _ _ _ _ _ _ m1 m2 m3;exfalso;rw[Dz]at hl
 grind
theorem YP.o {ts:List Nat} (n i d:Nat) (s:SV) {o:Oper} (h:YP P N ops ts fuel (listed.setIfInBounds i true) (E.put (some d) s) Q) (ho:ops[i]?=some o:=by rfl) (hs:JR P E o=some s:=by rfl) (a:Ue ops ts n i listed=true:=by decide+kernel) (hg:By P ops E o=some true:=by rfl) (hd:o.dst=some d:=by rfl) (hN:Nat.blt d N=true:=by rfl):YP P N ops ts (fuel+1) listed E Q:=YP.take n i d s h hs ho a hg hd hN
theorem AFo {ts:List Nat} {r:β} {b:Bool} (h:(bif b then tx else ty)=some r) (t:Nat) (ht:tx=some r->YP P N ops ts fuel listed (E.rs t true) Q) (hf:ty=some r->YP P N ops ts fuel listed (E.rs t false) Q) (hc:E.slots t=B b:=by rfl):YP P N ops ts fuel listed E Q:=by
 cases b
 ·rw[hZ hc]at hf;exact hf h
 rw[hZ hc]at ht;exact ht h
theorem j8.o {ts:List Nat} (i d:Nat) (s:SV) {o:Oper} (h:K (E.put (some d) s)) (ho:ops[i]?=some o:=by rfl) (hs:Ct P N false E o=some (E.put (some d) s):=by rfl) (hg:By P ops E o=some true:=by rfl) (hk:(kp o||ts.contains i)=true:=by rfl):j8 P N ops ts i E K Q:=j8.op i false h hs ho hg hk
theorem j8.b {ts:List Nat} (i:Nat) (m:List (Root×List TV)) (d:Nat) (xs:List TV) {o:Oper} (h:K ((mvs E m).newBox d xs)) (ho:ops[i]?=some o:=by rfl) (hs:Ct P N false E o=some ((mvs E m).newBox d xs):=by rfl) (hg:By P ops E o=some true:=by rfl) (hk:(kp o||ts.contains i)=true:=by rfl):j8 P N ops ts i E K Q:=j8.op i false h hs ho hg hk
theorem AG0 {ts:List Nat} (i:Nat) (mv:Bool) (m:List (Root×List TV)) (d:Nat) (s:SV) {o:Oper} (h:K ((mvs E m).put (some d) s)) (ho:ops[i]?=some o:=by rfl) (hs:Ct P N mv E o=some ((mvs E m).put (some d) s):=by rfl) (hg:By P ops E o=some true:=by rfl) (hk:(kp o||ts.contains i)=true:=by rfl):j8 P N ops ts i E K Q:=j8.op i mv h hs ho hg hk
theorem AG1 {ts:List Nat} (i n ix d:Nat) (s:SV) {o:Oper} (h:K ((E.ex n ix).put (some d) s)) (ho:ops[i]?=some o:=by rfl) (hs:Ct P N false E o=some ((E.ex n ix).put (some d) s):=by rfl) (hg:By P ops E o=some true:=by rfl) (hk:(kp o||ts.contains i)=true:=by rfl):j8 P N ops ts i E K Q:=j8.op i false h hs ho hg hk
def oI (n:Int):Prop:= -9223372036854775808<=n/\n<=9223372036854775807
def oK (k:IntKind) (n:Int):Prop:=k.min<=n/\n<=k.max
def ol (o:α->Prop) (l:List α):Prop:=l.length<=9223372036854775807/\∀x∈l,o x
def jZ (P:Program) (t:TypeId) (c:α->List TV) (o:α->Prop):Prop:=∀{H:Type} (enc:TypeId×Value->H) (w:World) (d:Nat) (e:Nat) (cs:List Value) (x:DataW H×List MemPlace),DataW.trod enc P w d (λ_=>true) true e t cs=some x->
  ∃a U,o a/\BJ w (c a) cs [] U/\∀b∈U,b<w.heap.size
theorem Po {t:TV} (h:D4 w t v F U):BJ w [t] [v] F U:=by
 simp only[BJ];exact⟨v,[],F,[],U,[],rfl,by simp,by simp,h,rfl,rfl,rfl⟩
theorem zO {t:TypeId} (ht:P.underlying t=some (.int k)):jZ P t (λn:Int=>[.int k n]) (λn=>k.min<=n/\n<=k.max):=by
 intro H enc w b a cs x h
 cases a with
 |zero=>simp[DataW.trod]at h
 |succ a=>
  simp only[DataW.trod,ht]at h;split at h<;>rename_i h1<;>try (first|(cases h1;done)|(cases h1;done))
  all_goals first|(cases h;done)|skip
  rename_i k' n;split at h
  ·rename_i hk;simp only[Av,TypeDesc.int.injEq]at h1;subst h1;obtain⟨rfl,hw⟩:=hk;simp only[Lit.wf,Ag,A5]at hw;exact⟨n,[],hw,Po (by simp[D4]),by simp⟩
  cases h
theorem pW {t e:TypeId} {c:α->List TV} {o:α->Prop} (ht:P.underlying t=some (.slice e)) (q:P.cellsOf e=sz) (h0:0<sz) (hc:∀a,(c a).length=sz) (h:jZ P e c o):
  jZ P t (λl:List α=>[.sl false e sz (A9 c l)]) (λl=>l.length<=9223372036854775807/\∀a∈l,o a):=by
 intro H enc w d h7 cs x hx
 rcases Go.Deep.open_slice ht hx with⟨rfl,_⟩|⟨a,len,cap,m,n,D,Pl,rfl,hb,f,r,hm,_,g⟩
 ·refine⟨[],[],⟨by simp,by simp⟩,Po ?_,by simp⟩;simp only[D4];exact⟨none,0,0,[],[],[],rfl,Ay _,by simp,λi u hi=>by simp at hi,by simp[A9,BJ],by simp,by simp,by simp⟩
 simp only[Ch]at hm;have s:∀k,k<=len->∃(l:List α) (vs:List Value) (U:List Nat),l.length=k/\(∀a∈l,o a)/\vs.length=k*sz/\BJ w (A9 c l) vs [] U/\(∀i u,vs[i]?=some u->w.cell? (a.add i)=some u)/\∀b∈U,b<w.heap.size:=by
  intro k
  induction k with
  |zero=>intro _;exact⟨[],[],[],rfl,by simp,by simp,by simp[A9,BJ],by simp,by simp⟩
  |succ k ih=>
   intro hk;obtain⟨l,vs,U,h1,h2,h3,h4,h5,h6⟩:=ih (by omega);obtain⟨cs',k1,k2⟩:=g k (by omega);obtain⟨y,V,g1,g2,g3⟩:=h enc w d n cs' _ k2;obtain⟨_,k3,k4⟩:=World.cells?_some k1;rw[q]at k1 k3 k4;refine⟨l++ [y],vs++cs',U++V,by simp[h1],?_,?_,?_,?_,?_⟩
   ·intro a ha
    rcases Ao.1 ha with ha|ha
    ·exact h2 a ha
    rw[Bk.1 ha];exact g1
   ·rw[Ak,h3,k3,GO]
   ·rw[Tm];have:=I7 h4 (show BJ w (A9 c [y]) cs' [] V by simpa[A9]using g2);simpa using this
   ·intro i u hi;by_cases v:i<vs.length
    ·rw[BP v]at hi;exact h5 i u hi
    rw[Bt<|by omega]at hi;have j:i-vs.length<sz:=by
     have:=(Ae.1 hi).1;omega
    have:=k4 (i-vs.length) j;rw[hi,TI.add_add]at this;rw[<-this];congr 2;omega
   intro b hb
   rcases Ao.1 hb with hb|hb
   ·exact h6 b hb
   exact g3 b hb
 obtain⟨l,vs,U,h1,h2,h3,h4,h5,h6⟩:=s len<|Ay _;have h8:len<=9223372036854775807:=by simp only[maxLen]at r;omega
 by_cases z:len=0
 ·subst z;have:vs=[]:=AD (by omega);subst this;refine⟨l,U,⟨by omega,h2⟩,Po ?_,h6⟩;exact⟨some a,0,cap,[],U,[],rfl,f,by simp,λi u hi=>by simp at hi,h4,by simp,by simp,by simp⟩
 have p:a.block<w.heap.size:=by
  obtain⟨cs',k1,_⟩:=g 0 (by omega);have:=World.cells?_block k1<|by omega
  rwa [F7]at this
 refine⟨l,a.block::U,⟨by omega,h2⟩,Po ?_,?_⟩
 ·exact⟨some a,len,cap,vs,U,[a.block],rfl,f,h3,λi u hi=>⟨a,len,cap,rfl,h5 i u hi⟩,h4,by simp,.inl (by simp[BR,Value.ownBlock]),by simp⟩
 intro b hb
 rcases DI.1 hb with rfl|hb
 ·exact p
 exact h6 b hb
theorem ADU {u:α->TV} {H:Type} {d:DataW H} {ps:List MemPlace} {t:TypeId} {o:α->Prop} {enc:TypeId×Value->H} (h:jZ P t (λa=>[u a]) o) (hv:v.cells= #[v]) (k:DataW.Trod enc P w 0 (λ_=>true) true t v d ps):
  ∃a U,o a/\oB w (.one (u a)) v [] U/\∀b∈U,b<w.heap.size:=by
 obtain⟨n,hn⟩:=k;obtain⟨a,U,h1,h2,h3⟩:=h enc w 0 n _ _ hn;rw[hv]at h2;obtain⟨v',c,F1,F2,U1,U2,e,hF,hU,h4,rfl,rfl,rfl⟩:=h2
 injection e with e _
 subst e;obtain⟨rfl,_⟩:=JL.1 hF.symm;refine⟨a,U1,h1,?_,by simpa[hU]using h3⟩;simp only[oB];exact⟨h4,hv⟩
theorem ABz {r:Reach} {a:Nat} {t:TypeId} (h:Value.okWide P w r a t v) (h1:∀fs,P.underlying t≠some (.struct fs)) (h2:∀n e,P.underlying t≠some (.array n e)):v.cells= #[v]:=by
 unfold Value.okWide at h;split at h
 ·rename_i fs b;exact absurd b<|h1 fs
 ·rename_i n e c;exact absurd c<|h2 n e
 unfold Cell.okWide at h;cases v<;>first|rfl|skip
 all_goals
  split at h<;>rename_i hv<;>first|(cases hv;done)|skip
  unfold Cell.ok at h;split at h<;>first|(exact h.elim)|skip
 all_goals rename_i d;cases d
def St.without (E:St) (r:Root):St:={E with boxes:=Ci E.boxes r none,ver:=Ci E.ver r<|E.ver r+1,gen:=Ci E.gen r (E.gen r+1)}
theorem kA {r s:Root} (h:s≠r):(E.without r).root s=E.root s:=by
 cases s<;>simp[St.without,St.root,Ci,h]
theorem CD.without {w0:Base} {a:Act} (h:CD w0 FA UA N w a E blk FS US) (hF:FS .hand=[]) (hU:US .hand=[]) {r:Root} (hm:r.mem=true):
  CD w0 FA UA N w a (E.without r) blk (Ci (Ci FS r []) .hand (FS r)) (Ci (Ci US r []) .hand (US r)):=by
 have c:r≠ .hand:=by rintro rfl;cases hm
 have d:∀s,Cs w w a a E (E.without r) blk blk s:=by
  intro s;by_cases hs:s=r
  ·subst hs;exact⟨.inl (by simp[St.without,Ci]),.inl<|by simp[St.without,Ci]⟩
  by_cases hh:s= .hand
  ·subst hh;exact Gm (by simp[St.without,Ci,hs]) (by simp[St.without,Ci,hs])<|by simp[St.root,h.nohand]
  exact DS h (by simp[St.without,Ci,hs]) (by simp[St.without,Ci,hs]) (kA hs) (λ_ _=>rfl) (λ_=>rfl) (λ_ _=>rfl) λ_ _=>rfl
 refine h.two (r1:=r) (r2:= .hand) (L1:=[]) (L2:=FS r) (V1:=[]) (V2:=US r) c (by simpa using h.nodup r) (λb hb=>⟨.inl (by simpa using hb),(h.inF r b<|by simpa using hb).2⟩)
  (λb hb=> .inl ⟨r,by simpa using hb⟩) (Ay _) rfl rfl rfl (λ_ _ _ _=>rfl) d (λn _ _=>⟨rfl,rfl⟩) (λs _ hs _=>⟨by simp[St.without,Ci,hs],rfl⟩) ?_ trivial ?_ h.len h.nodef
 ·cases r with
  |slot n=>cases hm
  |hand=>cases hm
  |box n=>exact .inl ⟨by simp[St.without,Ci],rfl,rfl⟩
  |ext n=>exact .inl ⟨by simp[St.without,Ci],rfl,rfl⟩
 simp[St.without,Ci,JI c,h.nohand]
theorem bE {a:Act}:∀{l:List (Bool×TypeId×Operand)},mvR w a l (List.replicate l.length none) [] []
 |[]=>⟨rfl,rfl⟩
 |_::l=>bE (l:=l)
section
variable {w0:Base} {a:Act}
theorem rP {f:FuncId} {x:Operand} {l:List (Bool×TypeId×Operand)} {n:Nat} {K:Act->World->Prop} {Q:Exit->Act->World->Prop} (h:CD w0 FA UA N w a E blk FS US) (hF:FS .hand=[]) (hU:US .hand=[]) {o:Oper} {args:Array Operand} {tys:Array TypeId} (ho:o.op= .call {callee:= .value (.func f),args:=args,argTypes:=tys}) (hf:fT P f) (hN:∀d,o.dst=some d->d<N) (hl:x::l.map (λx=>x.2.2)=args.toList) {r:Root} (hm:r.mem=true) (hx:E.ptr? x=some (r,[],0)) {cells cells':List TV} (hc:E.boxes r=some cells) (b7:cells'.length=cells.length) {res:SV} {c:Bool} (b1:JY P (E.without r) l (List.replicate l.length none)=some (as,c)) (a0:c=true\/AI res=false/\Aw cells'=false) (hg:A0 P f (.ext cells::as) res (.ext cells'::List.replicate n .gone)) (hK:∀w' v blk' FS' US',CD w0 FA UA N w' (a.put o.dst v) (((E.setRoot r cells').bump r).put o.dst res) blk' FS' US'->FS' .hand=[]->US' .hand=[]->K (a.put o.dst v) w'):o.wp P a w K Q:=by
 have a1:r≠ .hand:=by rintro rfl;cases hm
 have k2:=h.without hF hU hm;obtain⟨U',k5,k6⟩:=LC k2 bE b1;have a2:∃i T F,w.heap[blk r]?=some (.cells i T (0,0))/\BJ w cells i.toList F (US r)/\FS r=blk r::F:=by
  rcases h.box r hm with⟨h1,_⟩|⟨cs,i,T,F,h1,h2,h3,h4⟩
  ·grind
  grind
 obtain⟨i,T,F,b2,b3,b4⟩:=a2;obtain⟨a3,ad,u,a4⟩:=Jc h hx;have b5:ad=⟨blk r,0,none⟩:=by
  cases r with
  |slot n=>cases hm
  |hand=>cases hm
  |box n=>simp[pa,Addr.add]at u;exact u.symm
  |ext n=>simp[pa,Addr.add]at u;exact u.symm
 subst b5;have a5:cells≠ []:=by
  rintro rfl
  cases r with
  |slot n=>cases hm
  |hand=>cases hm
  |box n=>simp[St.place,St.root,hc,BB]at a3
  |ext n=>simp[St.place,St.root,hc,BB]at a3
 have a6:a.eval x::l.map (λx=>a.eval x.2.2)=(args.map a.eval).toList:=by
  rw[Q8,<-hl,CL,FI];rfl
 have k:L6 w (.ext cells::as) (args.map a.eval).toList (FS r++ []) (US r++U'):=by
  rw[<-a6];exact⟨_,_,FS r,[],US r,U',rfl,rfl,rfl,⟨blk r,i,T,F,a4,b2,b3,b4,a5⟩,k5⟩
 rw[AC]at k;have b8:∀s b,b∈Ci (Ci US r []) .hand (US r) s->∃s',b∈US s':=by
  intro s b hb;by_cases hs:s= .hand
  ·subst hs;rw[BZ]at hb;exact⟨r,hb⟩
  rw[Bj hs]at hb;by_cases m:s=r
  ·subst m;rw[BZ]at hb;cases hb
  rw[Bj m]at hb;exact⟨s,hb⟩
 have c0:∀s b,s≠ .hand->b∈Ci (Ci FS r []) .hand (FS r) s->s≠r/\b∈FS s:=by
  intro s b hs hb;rw[Bj hs]at hb;by_cases m:s=r
  ·subst m;rw[BZ]at hb;cases hb
  rw[Bj m]at hb;grind
 have k6':∀b∈U',(∃s,b∈US s)\/(c=false/\∃s,s≠r/\b∈FS s):=by grind
 have h0:∀b∈FS r,b∉US r++U':=by
  intro b hb hb'
  rcases Ao.1 hb' with hb'|hb'
  ·exact h.disU r r b hb hb'
  rcases k6' b hb' with⟨s,h4⟩|⟨_,s,h5,h4⟩
  ·exact h.disU r s b hb h4
  exact h.dis r s (JI h5) b hb h4
 have p:=hg w _ (FS r) (US r++U') k (h.nodup r) h0 (by
  intro b hb
  rcases Ao.1 hb with hb|hb
  ·exact(h.inF r b hb).2
  rcases Ao.1 hb with hb|hb
  ·exact(h.inU r b hb).2
  rcases k6' b hb with⟨s,h4⟩|⟨_,s,h5,h4⟩
  ·exact(h.inU s b h4).2
  exact(h.inF s b h4).2)
 unfold Oper.wp;rw[I6 ho hf];simp only[Oper.upon];rw[Array.toArray_toList]at p;refine Calls.mono p ?_;rintro e w' ⟨v,Fr,Ur,G,V,rfl,g⟩;have t:=g.fin;rw[<-a6]at t;simp only[L6]at t;obtain⟨v1,vs1,G1,G2,V1,V2,e1,rfl,rfl,⟨b,cur',T',F0,g1,g2,g3,rfl,g5⟩,h9⟩:=t;obtain⟨rfl,rfl⟩:=Vz h9
 injection e1 with e1 e2
 rw[<-e1,a4]at g1
 injection g1 with g1
 injection g1 with g1
 injection g1 with g1
 subst g1;have a7:=g.nodup;have a8:=g.dis;have y:=g.inF;have z:=g.inU;simp only[AC]at a7 a8 y z;have hV:∀b∈Ur++V1,(∃s,b∈US s)\/((b∈FS r\/w.heap.size<=b)/\b<w'.heap.size):=by
  intro b hb;obtain⟨h4,h5⟩:=z b hb
  rcases h4 with h4|h4|h4
  ·rcases Ao.1 h4 with h4|h4
   ·grind
   rcases k6' b h4 with h6|⟨h6,s,h7,h8⟩
   ·exact .inl h6
   rcases a0 with a0|⟨c1,c2⟩
   ·grind
   have n1:=Sq g.res c1;have n2:=KR g3 c2
   grind
  ·grind
  omega
 have b0:∀j,((E.setRoot r cells').bump r).place r [] j=cells'[j]? :=by
  intro j
  cases r with
  |slot n=>cases hm
  |hand=>cases hm
  |box n=>simp[St.place,St.bump,St.setRoot,St.root,Ci,BB]
  |ext n=>simp[St.place,St.bump,St.setRoot,St.root,Ci,BB]
 have a9:∀j,E.place r [] j=cells[j]? :=by
  intro j
  cases r with
  |slot n=>cases hm
  |hand=>cases hm
  |box n=>simp[St.place,St.root,hc,BB]
  |ext n=>simp[St.place,St.root,hc,BB]
 let E1:St:=(E.setRoot r cells').bump r
 have ev:∀s,s≠r->E1.ver s=E.ver s:=by
  intro s hs;cases r<;>simp[E1,St.bump,St.setRoot,Ci,hs]
 have evr:E1.ver r=E.ver r+1:=by cases r<;>simp[E1,St.bump,St.setRoot,Ci]
 have eg:∀s,E1.gen s=E.gen s:=by intro s;cases r<;>rfl
 have er:∀s,s≠r->E1.root s=E.root s:=by
  intro s hs
  cases r with
  |slot n=>cases hm
  |hand=>cases hm
  |box n=>cases s<;>simp[E1,St.bump,St.setRoot,St.root,Ci,hs]
  |ext n=>cases s<;>simp[E1,St.bump,St.setRoot,St.root,Ci,hs]
 have es:∀n,E1.slots n=E.slots n:=by
  intro n
  cases r with
  |slot n=>cases hm
  |hand=>cases hm
  |box n=>rfl
  |ext n=>rfl
 have eb:∀s,E1.boxes s=if s=r then some cells' else E.boxes s:=by
  intro s
  cases r with
  |slot n=>cases hm
  |hand=>cases hm
  |box n=>rfl
  |ext n=>rfl
 have b6:∀s,Cs w w' a a E E1 blk blk s:=by
  intro s;by_cases hs:s=r
  ·subst hs;refine⟨.inl (by rw[evr];omega),.inr ⟨eg s,λj ad hv hp=>?_⟩⟩;refine⟨(by cases s<;>first|exact hv|(cases hm)),?_⟩
   grind
  by_cases hh:s= .hand
  ·subst hh;exact Gm (ev _ hs) (eg _)<|by simp[St.root,h.nohand]
  exact DS h (ev s hs) (eg s) (er s hs) (λ_ _=>rfl) (λ_=>rfl)
   (λb hb=>g.keep b (h.inF s b hb).2<|h.dis s r hs b hb) (λb hb=>g.keep b (h.inU s b hb).2 λe=>h.disU r s b e hb)
 have k7:=h.two (w':=w') (a':=a) (E':=E1) (blk':=blk) (r1:=r) (r2:= .hand) (L1:=blk r::F0) (L2:=Fr) (V1:=V1) (V2:=Ur) a1
  (by grind)
  (λb hb=>by
   grind)
  (λb hb=>by
   have hb':b∈Ur++V1:=by grind
   rcases hV b hb' with q|⟨q1,q2⟩
   ·exact .inl q
   grind)
  g.size g.os g.tape g.output (λb hb q _=>g.keep b hb q) b6 (λn _ _=>⟨es n,rfl⟩) (λs _ hs _=>⟨by grind,rfl⟩)
  (by
   have:GX w' a E1 blk r (blk r::F0) V1:=by
    have:=eb r;rw[AH rfl]at this
    cases r with
    |slot n=>cases hm
    |hand=>cases hm
    |box n=>exact .inr ⟨cells',cur',T',F0,this,g2,g3,rfl⟩
    |ext n=>exact .inr ⟨cells',cur',T',F0,this,g2,g3,rfl⟩
   exact this)
  trivial (by rw[eb,AO<|JI a1];exact h.nohand) h.len h.nodef (hfz:=by
   intro n hn;have e:((E.setRoot r cells').bump r).fz=E.fz:=by rw[RL,Im]
   exact h.frz n<|e▸hn) (hamb:=by rw[Nk,EI])
 have kh:(Ci (Ci FS r (blk r::F0)) .hand Fr) .hand=Fr:=BZ _ _ _;have kh2:(Ci (Ci US r V1) .hand Ur) .hand=Ur:=BZ _ _ _
 cases hd:o.dst with
 |some d=>
  obtain⟨FS',US',q1,q2,q3⟩:=k7.land (w':=w') (d:=d) (s:=res) (v:=v) (F:=Fr) (U:=Ur) (hN d hd) (Oh g.res) (CH.1 a7).1
   (λb hb=>⟨.inl (by rw[kh];exact hb),(y b<|Bn _ hb).2⟩) (λb hb=> .inl ⟨.hand,by grind⟩) (Ay _) rfl rfl rfl (λ_ _ _=>rfl)
  grind
 |none=>
  obtain⟨FS',US',q1,q2,q3⟩:=k7.drop (w':=w') (Ay _) rfl rfl rfl λ_ _ _=>rfl;have:=hK w' v blk FS' US' (by rw[hd];exact q1) q2 q3
  grind
end
theorem cH {f:FuncId} (A:Nat->Si) (hA:∀b,(A b).B=[]/\(∀w,(A b).I w)/\∀c,(A b).pin=some c->c=b) {c:Code} {cells cells':List TV} {res:SV} (hf:P.funcs[f]?=some fn) (hb:fn.body=some c) (h:∀b,Wp P fn.ntmps c (D3 (.ext cells::as) (A b)) λe E=>(e= .normal\/e= .ret)/\∃ss E',Eb P E fn.results.toList=some (ss,E')/\EG ss=res/\E'.boxes (.ext 0)=some cells') (s:cells'.isEmpty=false):
  A0 P f (.ext cells::as) res (.ext cells'::List.replicate as.length .gone):=by
 intro w vs FA UA ha k j l;have ha':=ha;obtain⟨v0,vs0,F1,F2,U1,U2,rfl,rfl,rfl,⟨b0,cur0,T0,F0,rfl,_,_,rfl,_⟩,m⟩:=ha;obtain⟨blk,FS,US,hr,hF,hU⟩:=Tu (N:=fn.ntmps) ha' k j l (A:=A b0) ((hA b0).2.1 w) (λb hb=>by grind) (hpin:=λc hc=>((hA b0).2.2 c hc).symm);refine calls_of_wp hf hb<|wp_mono (h b0 _ _ _ _ _ _ _ _ hr hF hU) ?_;rintro e a w' ⟨E,blk',FS',US',⟨he,ss,E',h1,rfl,p⟩,h2,h3,h4⟩;obtain⟨us,FS2,US2,F,U,k1,k2,k3,k4,k5⟩:=MO h2 h1;rw[h3,A3]at k4;rw[h4,A3]at k5;have i:∀(n:Nat) (vs:List Value),vs.length=n->L6 w' (List.replicate n .gone) vs [] []:=by
  intro n
  induction n with
  |zero=>intro vs hv;simp at hv;subst hv;exact⟨rfl,rfl,rfl⟩
  |succ n ih=>
   intro vs hv
   cases vs with
   |nil=>simp at hv
   |cons v vs=>exact⟨v,vs,[],[],[],[],rfl,rfl,rfl,⟨rfl,rfl⟩,ih vs<|by simpa using hv⟩
 have o:vs0.length=as.length:=by
  obtain⟨_,_,_,_,h5,_⟩:=Uk m;exact h5
 have r:blk' (.ext 0)=b0:=by
  rw[k3.xblk];rfl
 obtain⟨d,T,F3,b2,b3,b4⟩:∃d T F3,w'.heap[b0]?=some (.cells d T (0,0))/\BJ w' cells' d.toList F3 (US2<|.ext 0)/\FS2 (.ext 0)=b0::F3:=by
  rcases k3.box (.ext 0) rfl with⟨q,_⟩|⟨cs,d,T,F3,q1,q2,q3,q4⟩
  ·grind
  grind
 have hne':cells'≠ []:=by grind
 have g:a.defers=[]/\∃v,(results fn a.tmps).run P w'= .ok v w'/\∃v' F U G V,Ending.returned v= .returned v'/\ACG w w' ((b0::F0)++F2) (U1++U2) (EG ss) (.ext cells'::List.replicate as.length .gone) (.pointer (some ⟨b0,0,none⟩)::vs0) v' F U G V:=by
  refine⟨h2.nodef,_,Pn k1,_,F,U,FS2<|.ext 0,US2<|.ext 0,rfl,?_⟩
  exact{
   res:=SG k2
   fin:=⟨_,vs0,FS2<|.ext 0,[],US2<|.ext 0,[],rfl,by simp,by simp,⟨b0,d,T,F3,rfl,b2,b3,b4,hne'⟩,i _ _ o⟩
   nodup:=by
    rw[<-k4,CH];exact⟨k3.nodup _,k3.nodup _,λx hx y hy e=>k3.dis .hand (.ext 0) (by simp) x hx<|e▸hy⟩
   dis:=by
    intro b hb hb';rw[<-k4]at hb;rw[<-k5]at hb'
    rcases Ao.1 hb with hb|hb<;>rcases Ao.1 hb' with hb'|hb'
    ·exact k3.disU .hand .hand b hb hb'
    ·exact k3.disU .hand (.ext 0) b hb hb'
    ·exact k3.disU (.ext 0) .hand b hb hb'
    exact k3.disU (.ext 0) (.ext 0) b hb hb'
   inF:=by
    intro b hb;rw[<-k4]at hb
    rcases Ao.1 hb with hb|hb
    ·exact k3.inF .hand b hb
    exact k3.inF (.ext 0) b hb
   inU:=by
    intro b hb;rw[<-k5]at hb
    rcases Ao.1 hb with hb|hb
    ·exact k3.inU .hand b hb
    exact k3.inU (.ext 0) b hb
   os:=k3.os
   tape:=k3.tape
   output:=k3.output
   size:=k3.size
   keep:=λb hb hF=>k3.keep b hb hF (λe=>by grind)}
 rcases he with rfl|rfl
 ·exact g
 exact g
theorem AAd {f:FuncId} {c:Code} {a cells':List TV} {b:SV} (hf:P.funcs[f]?=some fn) (hb:fn.body=some c) (h:Wp P fn.ntmps c (D3 (.ext a::as)) λe E=>(e= .normal\/e= .ret)/\∃ss E',Eb P E fn.results.toList=some (ss,E')/\EG ss=b/\E'.boxes (.ext 0)=some cells') (d:cells'.isEmpty=false):
 A0 P f (.ext a::as) b (.ext cells'::List.replicate as.length .gone):=cH (λ_=>Si.none) (λ_=>⟨rfl,λ_=>trivial,λ_ h=>by cases h⟩) hf hb (λ_=>h) d
def pT (b:Nat):Si:={Si.none with pin:=some b}
theorem ADf (b:Nat):(pT b).B=[]/\(∀w,(pT b).I w)/\∀c,(pT b).pin=some c->c=b:=⟨rfl,λ_=>trivial,λc h=>by injection h with h;exact h.symm⟩
theorem AGw {len:Nat} {o:Oper} {m:Nat} (r:Root) (q:List Nat) (j:Nat) (hn:n=(m:Int)) {t e:TypeId} {a i:Operand} (ho:o.op= .indexAddr t a i:=by rfl) (ht:P.underlying t=some (.array len e):=by rfl) (hi:E.cell1 P 0 i=some (.int k n):=by rfl) (hp:E.ptr? a=some (r,q,j):=by rfl) (hc:P.cellsOf e=1:=by rfl) (hl:Nat.blt m len=true:=by rfl) (hs:(E.place r q<|j+m).isSome=true:=by rfl):AU P E o=some (.one<|.ptr r (E.stamp r q) q<|j+m):=by
 subst hn;have hl':m<len:=by simp_all
 simp only[AU,ho,ht,hi,hp,hc,Ba,AAH]
 grind
def Ff (l:List Int):ByteArray:=strOfNums l
theorem WR {f:Int->List TV} (hf:∀n,f n=[.int .u8 n]):∀l,P8 (A9 f l)=some l
 |[]=>rfl
 |n::l=>by
  have:A9 f (n::l)=f n++A9 f l:=by simp[A9]
  rw[this,hf];simp only[Fl,P8,WR hf l,BD]
theorem AGC {f:Int->List TV} {x:Operand} {o:Oper} (hf:∀n,f n=[.int .u8 n]) (l:List Int) {s d e e':TypeId} {a:Bool} {r:Root} {q:List Nat} (ho:o.op= .convert s d x:=by rfl) (hs:P.underlying s=some (.slice e):=by rfl) (hd:P.underlying d=some .string:=by rfl) (he:P.underlying e=some (.int .u8):=by rfl) (hr:E.ref x=some (r,q,j):=by rfl) (hp:E.place r q j=some (.sl a e' 1<|A9 f l):=by rfl):AU P E o=some (.one<|.str<|Ff l):=by
 simp only[AU,ho,hs,hd,he,hr,hp,Ch,WR hf,BD];rfl
def shl (k:IntKind) (a b:Int):Option Int:=if b<0 then none else some<|k.wrap<|a*2^(min b.toNat k.bits)
theorem AFG {x y:Operand} {o:Oper} {a b v:Int} (h:shl k a b=some v) {t t2:TypeId} (ho:o.op= .binOp .shl t x y t2:=by rfl) (hx:E.cell1 P t x=some (.int k a):=by rfl) (hy:E.cell1 P t y=some (.int k2 b):=by rfl):AU P E o=some (.one<|.int k v):=by
 unfold shl at h;split at h
 ·cases h
 rename_i hb
 injection h with h
 subst h;simp only[AU,ho,hx,hy,XN,Ch,YG,AO hb,BD]
def dr (l:List α) (lo hi:Int):Option (List α):=if 0<=lo/\lo<=hi/\hi<=l.length then some ((l.drop lo.toNat).take<|hi.toNat-lo.toNat)else none
theorem XG (hf:∀x,(f x).length=sz):∀(l:List α) (n:Nat),(A9 f l).take (n*sz)=A9 f (l.take n)
 |l,0=>by simp[A9]
 |[],n+1=>by simp[A9]
 |x::l,n+1=>by
  have h1:A9 f (x::l)=f x++A9 f l:=by simp[A9]
  have h2:A9 f (x::l.take n)=f x++A9 f (l.take n):=by simp[A9]
  rw[h1,GO,vP,List.take_append,hf x,Nat.add_sub_cancel_left,XG hf l n,Nm,h2,AK (by rw[hf x];omega)]
theorem AGB {v:List α} {x oh:Operand} {o:Oper} (hf:∀x,(f x).length=sz) {a b:Int} (h:dr l a b=some v) {t e e':TypeId} {r:Root} {q:List Nat} (ho:o.op= .slice t x lo (some oh) none:=by rfl) (ht:P.underlying t=some (.slice e):=by rfl) (hr:E.ref x=some (r,q,j):=by rfl) (hp:E.place r q j=some (.sl false e' sz<|A9 f l):=by rfl) (hl:(match lo with|some o=>E.cell1 P 0 o|none=>some<|.int .i64 0)=some (.int k1 a):=by rfl) (hh:E.cell1 P 0 oh=some (.int k2 b):=by rfl) (c:P.cellsOf e=sz:=by rfl) (h0:Nat.blt 0 sz=true:=by rfl):AU P E o=some (.one<|.sl false e' sz<|A9 f v):=by
 have h0':0<sz:=by simp_all
 unfold dr at h;split at h
 ·rename_i hc
  injection h with h
  subst h;have hl':∀lo':Option TV,lo'=some (.int k1 a)->(match lo',E.cell1 P 0 oh with|some (.int _ l0),some (.int _ h0)=>if sz=P.cellsOf e/\0<sz/\0<=l0/\l0<=h0/\h0.toNat*sz<=(A9 f l).length then some (SV.one<|.sl false e' sz<|((A9 f l).drop<|l0.toNat*sz).take<|(h0.toNat-l0.toNat)*sz)else none|_,_=>none)=some (SV.one<|.sl false e' sz<|A9 f<|(l.drop a.toNat).take<|b.toNat-a.toNat):=by
   rintro _ rfl;rw[hh];simp only;rw[AH ⟨c.symm,h0',hc.1,hc.2.1,by rw[EN hf];exact BQ _<|by omega⟩,K4 hf,XG hf]
  simp only[AU,ho,ht,hr,hp];exact hl' _ hl
 cases h
theorem AFJ {v:List α} {x:Operand} {o:Oper} (hf:∀x,(f x).length=sz) {a:Int} (h:dr l a (ln l)=some v) {t e e':TypeId} {r:Root} {q:List Nat} (ho:o.op= .slice t x lo none none:=by rfl) (ht:P.underlying t=some (.slice e):=by rfl) (hr:E.ref x=some (r,q,j):=by rfl) (hp:E.place r q j=some (.sl false e' sz<|A9 f l):=by rfl) (hl:(match lo with|some o=>E.cell1 P 0 o|none=>some<|.int .i64 0)=some (.int k1 a):=by rfl) (c:P.cellsOf e=sz:=by rfl) (h0:Nat.blt 0 sz=true:=by rfl):AU P E o=some (.one<|.sl false e' sz<|A9 f v):=by
 have h0':0<sz:=by simp_all
 have b:(A9 f l).length/sz=l.length:=by rw[EN hf];simp_all
 unfold dr at h;split at h
 ·rename_i hc
  injection h with h
  subst h;have hl':∀lo':Option TV,lo'=some (.int k1 a)->(match lo',some (TV.int .i64 (((A9 f l).length/sz:Nat):Int))with|some (.int _ l0),some (.int _ h0)=>if sz=P.cellsOf e/\0<sz/\0<=l0/\l0<=h0/\h0.toNat*sz<=(A9 f l).length then some (SV.one<|.sl false e' sz<|((A9 f l).drop<|l0.toNat*sz).take<|(h0.toNat-l0.toNat)*sz)else none|_,_=>none)=some (SV.one<|.sl false e' sz<|A9 f<|(l.drop a.toNat).take<|((l.length:Nat):Int).toNat-a.toNat):=by
   rintro _ rfl;rw[b];simp only;rw[AH ⟨c.symm,h0',hc.1,hc.2.1,by rw[EN hf];simp⟩,K4 hf,XG hf]
  simp only[AU,ho,ht,hr,hp];exact hl' _ hl
 cases h
theorem nK {x y:Option β} {b:Bool} {r:β} (h:(bif b then x else y)=some r) (h1:b=true->x=some r->G) (h2:y=some r->G):G:=by grind
def tF (b:ByteArray):List Int:=b.data.toList.map λc=>(c.toNat:Int)
def aps (l:List Int) (b:ByteArray):Option (List Int):=if l.length+b.size<=140737488355328 then some (l++tF b)else none
theorem XZ {f:Int->List TV} (hf:∀n,f n=[.int .u8 n]) (b:ByteArray):Xj b=A9 f (tF b):=by
 unfold Xj tF
 induction b.data.toList with
 |nil=>rfl
 |cons c l ih=>
  have e:∀(x:Int) (m:List Int),A9 f (x::m)=f x++A9 f m:=λx m=>by simp[A9]
  grind
theorem AGr {o:Oper} {f:Int->List TV} {x:Operand} (hf:∀n,f n=[.int .u8 n]) {b:ByteArray} {src dst e:TypeId} (ho:o.op= .convert src dst x:=by rfl) (hd:o.dst=some d:=by rfl) (hN:Nat.blt d N=true:=by rfl) (hs:P.underlying src=some .string:=by rfl) (a:P.underlying dst=some (.slice e):=by rfl) (hx:E.cell1 P src x=some (.str b):=by rfl) (c:qI P e=true:=by rfl):Ct P N false E o=some (E.put (some d)<|.one<|.sl false e 1<|A9 f<|tF b):=by
 have hN':d<N:=by simp_all
 unfold Ct;rw[hd];simp only[AH hN',ho,Uf,hs,a,hx];rw[AH c,XZ hf]
structure GK (w w':World) (B:List Nat):Prop where
 os:w'.os=w.os
 tape:w'.tape=w.tape
 output:w'.output=w.output
 size:w.heap.size<=w'.heap.size
 keep:∀b,b<w.heap.size->b∉B->w'.heap[b]?=w.heap[b]?
theorem CD.beside {w0:Base} {a:Act} (h:CD w0 FA UA N w a E blk FS US) (hb:GK w w' w0.B) (hB:A'.B=E.amb.B) (hI:A'.I w') (hP:∀b,A'.pin=some b->E.amb.pin=some b):CD w0 FA UA N w' a {E with amb:=A'} blk FS US:=by
 have hF:∀r,∀b∈FS r,w'.heap[b]?=w.heap[b]? :=λr b hx=>hb.keep b (h.inF r b hx).2 (λe=>by
  obtain⟨h1,h2,h3⟩:=h.ambF b e
  rcases(h.inF r b hx).1 with h4|h4
  ·exact h2 h4
  omega)
 have hU:∀r,∀b∈US r,w'.heap[b]?=w.heap[b]? :=λr b hx=>hb.keep b (h.inU r b hx).2 (λe=>by
  obtain⟨h1,h2,h3⟩:=h.ambF b e
  rcases(h.inU r b hx).1 with h4|h4|h4
  ·exact h3 h4
  ·exact h2 h4
  omega)
 have c:∀s,Cs w w' a a E {E with amb:=A'} blk blk s:=λs=>
  DS h rfl rfl (by cases s<;>rfl) (λ_ _=>rfl) (λ_=>rfl) (hF s) (hU s)
 have hr:∀r,GX w' a {E with amb:=A'} blk r (FS r) (US r):=λr=>
  S8 c (h.root r) (λn _=>⟨rfl,rfl⟩) (λ_=>⟨rfl,rfl⟩) (hF r) (hU r)
 constructor
 ·exact λn=>hr<|.slot n
 ·intro r hm
  cases r with
  |slot n=>cases hm
  |hand=>cases hm
  |box n=>exact hr<|.box n
  |ext n=>exact hr<|.ext n
 ·exact h.nohand
 ·exact h.nodup
 ·exact h.dis
 ·exact h.disU
 ·exact λr b hx=>⟨(h.inF r b hx).1,AT (h.inF r b hx).2 hb.size⟩
 ·exact λr b hx=>⟨(h.inU r b hx).1,AT (h.inU r b hx).2 hb.size⟩
 ·exact h.disA
 ·exact hb.os.trans h.os
 ·exact hb.tape.trans h.tape
 ·exact hb.output.trans h.output
 ·exact JJ h.size hb.size
 ·exact λb h1 h2 h3=>(hb.keep b (AT h1 h.size) h3).trans<|h.keep b h1 h2 h3
 ·exact h.len
 ·exact h.nodef
 ·exact h.xblk
 ·rw[hB];exact h.ambB
 ·exact hI
 ·exact h.frz
 ·exact h.ambF
 exact λb hp=>h.pin b<|hP b hp
def Nv (P:Program) (f:FuncId) (A:Si) (as:List AV) (A':Si):Prop:=∀(w:World) (vs:List Value),L6 w as vs [] []->(∀b∈A.B,b<w.heap.size)->A.I w->Calls P f vs.toArray w λe w'=>e= .returned (.tuple #[])/\GK w w' A.B/\A'.I w'
theorem AAe {f:FuncId} {c:Code} (hf:P.funcs[f]?=some fn) (hb:fn.body=some c) (hr:fn.results= #[]) (hp:A.pin=none) (h:Wp P fn.ntmps c (D3 as A) λe E=>(e= .normal\/e= .ret)/\E.amb=A'):Nv P f A as A':=by
 intro w vs ha hB hA;obtain⟨blk,FS,US,g,hF,hU⟩:=Tu (N:=fn.ntmps) ha CW (by simp) (by simp) (A:=A) hA (λb hb=>⟨hB b hb,by simp,by simp⟩) (hpin:=λb h=>by rw[hp]at h;cases h);refine calls_of_wp hf hb<|wp_mono (h _ _ _ _ _ _ _ _ g hF hU) ?_;rintro e a w' ⟨E,blk',FS',US',⟨he,rfl⟩,h2,h3,h4⟩;have i:(results fn a.tmps).run P w'= .ok (.tuple #[]) w':=by
  rw[aQ (P:=P),hr];simp
 have d:a.defers=[]/\∃v,(results fn a.tmps).run P w'= .ok v w'/\Ending.returned v= .returned (.tuple #[])/\GK w w' A.B/\E.amb.I w':=
  ⟨h2.nodef,_,i,rfl,⟨h2.os,h2.tape,h2.output,h2.size,λb h5 h6=>h2.keep b h5 (by simp) h6⟩,h2.ambI⟩
 rcases he with rfl|rfl
 ·exact d
 exact d
theorem Su {w0:Base} {a:Act} {blk:Root->Nat} (h:CD w0 FA UA N w a E blk FS US) (hF:FS .hand=[]) (hU:US .hand=[]) (hd:d<N) {s:SV} (hb:GK w w' w0.B) (hB:A'.B=E.amb.B) (hI:A'.I w') (hs:oB w' s v [] []) (hP:∀b,A'.pin=some b->E.amb.pin=some b):
  ∃FS' US',CD w0 FA UA N w' (a.put (some d) v) (({E with amb:=A'}:St).put (some d) s) blk FS' US'/\FS' .hand=[]/\US' .hand=[]:=by
 have k:=h.beside hb hB hI hP;exact k.land (w':=w') (F:=[]) (U:=[]) hd (Oh hs) CW (by simp) (by simp) (Ay _) rfl rfl rfl λ_ _ _=>rfl
theorem AFn {rr : β} {x : Option α} {k : α → Option β} {f : FuncId} {l : List AV} (h : x.bind k = some rr) (d : Nat) (Am : α → Si) {args : Array Operand} {tys : Array TypeId} (ho : oo.op = .call { callee := .value (.func f), args := args, argTypes := tys }) (hA : E.amb = A) (hB : ∀ v, (Am v).B = A.B ∧ (Am v).pin = none) (m : JY P E ((tys.toList.zip args.toList).map fun (t, x) => (false, t, x)) (List.replicate args.size none) = some (l, true)) (n : ∀ w vs F U, L6 w l vs F U → F = [] ∧ U = []) (o : ∀ v, x = some v → Nv P f A l (Am v)) (hk : ∀ v, x = some v → k v = some rr → GL P N ops rest (({ E with amb := Am v } : St).put (some d)<|.tup []) Q) (hf : P.funcs[f]? = some fn := by rfl) (hn : (fn.name == "runtime.NumGoroutine") = false := by rfl) (hb : fn.body.isNone = false := by rfl) (hd : oo.dst = some d := by rfl) (hN : Nat.blt d N = true := by rfl) (hz : tys.size = args.size := by rfl) (hg : By P ops E oo = some true := by rfl) : GL P N ops (oo :: rest) E Q := by
 obtain⟨v,hv,h⟩:=Ah.1 h;have hN':d<N:=by simpa[B3]using hN
 intro w0 FA UA w a blk FS US hr hF hU;simp only[wpList,Ce hr hg,Ch];refine .inl ?_;have i:((tys.toList.zip args.toList).map λ(t,x)=>(false,t,x)).length=args.size:=by simp[hz]
 obtain⟨U',k5,k6⟩:=LC hr (bE (l:=(tys.toList.zip args.toList).map λ(t,x)=>(false,t,x))) (by rw[i];exact m);have p:((tys.toList.zip args.toList).map λ(t,x)=>(false,t,x)).map (λx=>a.eval x.2.2)=(args.map a.eval).toList:=by
  rw[Q8,FI];have:((λx:Bool×TypeId×Operand=>a.eval x.2.2)∘λ(x:TypeId×Operand)=>(false,x.1,x.2))=a.eval∘Prod.snd:=rfl;refine(BM (λg=>List.map g<|tys.toList.zip args.toList) this).trans ?_;rw[<-FI,List.map_snd_zip<|by simp[hz]]
 rw[p]at k5;obtain⟨_,rfl⟩:=n _ _ _ _ k5;have j:w0.B=A.B:=hr.ambB.trans<|by rw[hA]
 have c:=o v hv w _ k5 (λb hb=>by
  rw[<-j]at hb
  exact AT (hr.ambF b hb).1 hr.size) (by rw[<-hA];exact hr.ambI)
 unfold Oper.wp;rw[I6 ho ⟨fn,hf,by grind,hb⟩];refine Calls.mono c ?_;rintro e w' ⟨rfl,q,hI⟩;obtain⟨FS',US',q1,q2,q3⟩:=Su (s:= .tup []) (v:= .tuple #[]) hr hF hU hN' (by rw[j];exact q) (by rw[(hB _).1,hA]) hI ⟨[],rfl,rfl,rfl,rfl⟩ (λb hb=>by grind);rw[hd];exact hk v hv h _ _ _ _ _ _ _ _ q1 q2 q3
def IV (P:Program) (Am:List γ->Si) (lt:γ->γ->Bool) (g:FuncId) (cap:Array Value):Prop:=(∀(args:Array Value) (w:World),(callFunc g args).run P w= .ok (.enter g args) w)/\∀(l:List γ) (i j:Int) (x y:γ),gi l i=some x->gi l j=some y->∀w,(Am l).I w->(∀b∈(Am l).B,b<w.heap.size)->Calls P g (#[.int .i64 i,.int .i64 j]++cap) w λe w'=>e= .returned (.bool<|lt x y)/\GK w w' (Am l).B/\(Am l).I w'
def Nt (P:Program) (Am:List γ->Si) (sf:FuncId) (cap:Array Value):Prop:=∀(l:List γ) (i j:Int) (x y:γ),gi l i=some x->gi l j=some y->∀w,(Am l).I w->(∀b∈(Am l).B,b<w.heap.size)->∃w',(callFunc sf<|#[.int .i64 i,.int .i64 j]++cap).run P w= .ok (.value<|.tuple #[]) w'/\GK w w' (Am l).B/\(Am<|si (si l i y) j x).I w'
theorem Ws {a:Act} {o:Oper} {t:Nat} {args:Array Operand} {tys:Array TypeId} {g:FuncId} {cap:Array Value} (ho:o.op= .call {callee:= .value (.tmp t),args:=args,argTypes:=tys}) (hv:a.eval (.tmp t)= .func (.func g) #[] cap):
  (execOp a.eval o).run P w=(callFunc g<|args.map a.eval++cap).run P w:=by
 simp[execOp,ho,resolve,hv,Deferred.ofValue,invoke]
theorem ACf {f:Fn} {w0:Base} {a:Act} {blk:Root->Nat} (h:CD w0 FA UA N w a E blk FS US) {t:Nat} {ta cap:Array Value} (hs:E.slots t= .one (.fn f ta cap)):a.eval (.tmp t)= .func f ta cap:=by
 have:=h.slot t;rw[hs]at this;exact this.1.1
theorem AFm {l:List γ} {x y:γ} {i j:Int} {g:FuncId} {cap:Array Value} (c:IV P Am lt g cap) (hx:gi l i=some x) (hy:gi l j=some y) (d:Nat) {t:Nat} {tys:Array TypeId} (hk:GL P N ops rest (E.put (some d) (.one (.bool (lt x y)))) Q) (hA:E.amb=Am l:=by rfl) (ho:oo.op= .call {callee:= .value (.tmp t),args:= #[o1,o2],argTypes:=tys}:=by rfl) (hs:E.slots t= .one (.fn (.func g) #[] cap):=by rfl) (h1:E.cell1 P 0 o1=some (.int .i64 i):=by rfl) (h2:E.cell1 P 0 o2=some (.int .i64 j):=by rfl) (hd:oo.dst=some d:=by rfl) (hN:Nat.blt d N=true:=by rfl) (hg:By P ops E oo=some true:=by rfl):GL P N ops (oo::rest) E Q:=by
 have hN':d<N:=by simpa[B3]using hN
 intro w0 FA UA w a blk FS US hr hF hU;simp only[wpList,Ce hr hg,Ch];refine .inl ?_;have h:w0.B=(Am l).B:=hr.ambB.trans<|by rw[hA]
 have m:∀b∈(Am l).B,b<w.heap.size:=λb hb=>by
  rw[<-h]at hb;exact AT (hr.ambF b hb).1 hr.size
 have hI:(Am l).I w:=by rw[<-hA];exact hr.ambI
 have f:=c.2 l i j x y hx hy w hI m;unfold Oper.wp;have e1:=Dd hr h1;have e2:=Dd hr h2;have k:(execOp a.eval oo).run P w= .ok (.enter g<|#[.int .i64 i,.int .i64 j]++cap) w:=by
  rw[Ws ho<|ACf hr hs];rw[c.1];simp[e1,e2]
 rw[k];refine Calls.mono f ?_;rintro e w' ⟨rfl,n,hI'⟩
 obtain⟨FS',US',q1,q2,q3⟩:=Su (A':=E.amb) (s:= .one (.bool<|lt x y)) (v:= .bool (lt x y)) hr hF hU hN' (by rw[h];exact n) rfl (by
  rw[hA]
  exact hI') ⟨⟨rfl,rfl,rfl⟩,rfl⟩ λ_ hb=>hb
 rw[hd];exact hk _ _ _ _ _ _ _ _ q1 q2 q3
theorem AFi {l:List γ} {x y:γ} {i j:Int} {cap:Array Value} (c:Nt P Am sf cap) (hB:∀l l',(Am l).B=(Am l').B/\(Am l).pin=none) (hx:gi l i=some x) (hy:gi l j=some y) (d:Nat) {t:Nat} {tys:Array TypeId} (hk:GL P N ops rest (({E with amb:=Am (si (si l i y) j x)}:St).put (some d)<|.tup []) Q) (hA:E.amb=Am l:=by rfl) (ho:oo.op= .call {callee:= .value (.tmp t),args:= #[o1,o2],argTypes:=tys}:=by rfl) (hs:E.slots t= .one (.fn (.func sf) #[] cap):=by rfl) (h1:E.cell1 P 0 o1=some (.int .i64 i):=by rfl) (h2:E.cell1 P 0 o2=some (.int .i64 j):=by rfl) (hd:oo.dst=some d:=by rfl) (hN:Nat.blt d N=true:=by rfl) (hg:By P ops E oo=some true:=by rfl):GL P N ops (oo::rest) E Q:=by
 have hN':d<N:=by simpa[B3]using hN
 intro w0 FA UA w a blk FS US hr hF hU;simp only[wpList,Ce hr hg,Ch];refine .inl ?_;have e:w0.B=(Am l).B:=hr.ambB.trans<|by rw[hA]
 have g:∀b∈(Am l).B,b<w.heap.size:=λb hb=>by
  rw[<-e]at hb;exact AT (hr.ambF b hb).1 hr.size
 have hI:(Am l).I w:=by rw[<-hA];exact hr.ambI
 obtain⟨w',h,k,hI'⟩:=c l i j x y hx hy w hI g;unfold Oper.wp;have e1:=Dd hr h1;have e2:=Dd hr h2;have f:(execOp a.eval oo).run P w= .ok (.value<|.tuple #[]) w':=by
  rw[Ws ho<|ACf hr hs]
  grind
 rw[f];rw[Oper.upon_value];obtain⟨FS',US',q1,q2,q3⟩:=Su (s:= .tup []) (v:= .tuple #[]) hr hF hU hN' (by rw[e];exact k) (by grind) hI' ⟨[],rfl,rfl,rfl,rfl⟩ (λb hb=>by rw[(hB _ []).2]at hb;cases hb);rw[hd];exact hk _ _ _ _ _ _ _ _ q1 q2 q3
def gi2 (l:List γ) (i j:Int):Option (γ×γ):=(gi l i).bind λx=>(gi l j).bind λy=>some (x,y)
theorem AD4 {rr:β} {l:List γ} {i j:Int} {k:γ×γ->Option β} {g:FuncId} {cap:Array Value} (a:IV P Am lt g cap) (h:(gi2 l i j).bind k=some rr) (d:Nat) {t:Nat} {tys:Array TypeId} (hk:∀v,k v=some rr->GL P N ops rest (E.put (some d) (.one (.bool (lt v.1 v.2)))) Q) (hA:E.amb=Am l:=by rfl) (ho:oo.op= .call {callee:= .value (.tmp t),args:= #[o1,o2],argTypes:=tys}:=by rfl) (hs:E.slots t= .one (.fn (.func g) #[] cap):=by rfl) (h1:E.cell1 P 0 o1=some (.int .i64 i):=by rfl) (h2:E.cell1 P 0 o2=some (.int .i64 j):=by rfl) (hd:oo.dst=some d:=by rfl) (hN:Nat.blt d N=true:=by rfl) (hg:By P ops E oo=some true:=by rfl):GL P N ops (oo::rest) E Q:=by
 obtain⟨v,hv,h⟩:=Ah.1 h;obtain⟨x,hx,hv⟩:=Ah.1 hv;obtain⟨y,hy,hv⟩:=Ah.1 hv
 injection hv with hv
 subst hv;exact AFm a hx hy d (hk _ h) hA ho hs h1 h2 hd hN hg
def s8 (l:List γ) (i j:Int):Option (List γ):=(gi l i).bind λx=>(gi l j).bind λy=>some<|si (si l i y) j x
theorem AD2 {rr:β} {l:List γ} {i j:Int} {k:List γ->Option β} {cap:Array Value} (a:Nt P Am sf cap) (hB:∀l l',(Am l).B=(Am l').B/\(Am l).pin=none) (h:((s8 l i j).bind k)=some rr) (d:Nat) {t:Nat} {tys:Array TypeId} (hk:∀l',k l'=some rr->GL P N ops rest (({E with amb:=Am l'}:St).put (some d)<|.tup []) Q) (hA:E.amb=Am l:=by rfl) (ho:oo.op= .call {callee:= .value (.tmp t),args:= #[o1,o2],argTypes:=tys}:=by rfl) (hs:E.slots t= .one (.fn (.func sf) #[] cap):=by rfl) (h1:E.cell1 P 0 o1=some (.int .i64 i):=by rfl) (h2:E.cell1 P 0 o2=some (.int .i64 j):=by rfl) (hd:oo.dst=some d:=by rfl) (hN:Nat.blt d N=true:=by rfl) (hg:By P ops E oo=some true:=by rfl):GL P N ops (oo::rest) E Q:=by
 obtain⟨l',hl',h⟩:=Ah.1 h;obtain⟨x,hx,hl'⟩:=Ah.1 hl';obtain⟨y,hy,hl'⟩:=Ah.1 hl'
 injection hl' with hl'
 subst hl';exact AFi a hB hx hy d (hk _ h) hA ho hs h1 h2 hd hN hg
def AFM (ls:List (Nat×SV)) (bs:List (Root×List TV)) (A:Si):St:={AEX ls bs with amb:=A}
def TV.flat:TV->Bool
 | .int .. | .bool _| .str _| .fn .. =>true
 |_=>false
def u7:AV->Bool
 | .sv (.one t)=>t.flat
 | .sv (.agg cs)=>cs.all TV.flat
 |_=>false
theorem pQ {t:TV} (h:D4 w t v F U) (ht:t.flat=true):F=[]/\U=[]:=by
 cases t<;>first|(cases ht;done)|(exact h.2)
theorem LV:∀{ts:List TV} {vs:List Value} {F U:List Nat},BJ w ts vs F U->ts.all TV.flat=true->F=[]/\U=[]
 |[],vs,F,U,h,_=>by exact h.2
 |t::ts,vs,F,U,h,ht=>by
  simp only[FJ,Ag]at ht;obtain⟨v,a,F1,F2,U1,U2,rfl,rfl,rfl,h1,h2⟩:=h;obtain⟨rfl,rfl⟩:=pQ h1 ht.1;obtain⟨rfl,rfl⟩:=LV h2 ht.2;exact⟨rfl,rfl⟩
theorem dM:∀{l:List AV},l.all u7=true->∀(w:World) (vs:List Value) (F U:List Nat),L6 w l vs F U->F=[]/\U=[]
 |[],_,w,vs,F,U,h=>h.2
 |s::l,hl,w,vs,F,U,h=>by
  simp only[FJ,Ag]at hl;obtain⟨v,a,F1,F2,U1,U2,rfl,rfl,rfl,h1,h2⟩:=h;obtain⟨rfl,rfl⟩:=dM hl.2 w a F2 U2 h2;have:F1=[]/\U1=[]:=by
   match s,hl.1,h1 with
   | .sv (.one t),ht,h1=>exact pQ h1.1 ht
   | .sv (.agg cs),ht,h1=>obtain⟨_,_,h1⟩:=h1;exact LV h1 ht
  grind
def TV.val:TV->Value
 | .int k n=> .int k n
 | .bool b=> .bool b
 | .str s=> .string s
 | .fn f ta c=> .func f ta c
 |_=> .bool false
theorem ADb {t:TV} (h:D4 w t v F U) (ht:t.flat=true):v=t.val:=by
 cases t<;>first|(cases ht;done)|(exact h.1)
theorem Wu:∀{ts:List TV} {vs:List Value} {F U:List Nat},BJ w ts vs F U->ts.all TV.flat=true->vs=ts.map TV.val
 |[],vs,F,U,h,_=>by exact h.1
 |t::ts,vs,F,U,h,ht=>by
  simp only[FJ,Ag]at ht;obtain⟨v,a,F1,F2,U1,U2,rfl,_,_,h1,h2⟩:=h;rw[ADb h1 ht.1,Wu h2 ht.2];rfl
theorem ACU {t:TV} (ht:t.flat=true):D4 w t t.val [] []:=by
 cases t<;>first|(cases ht;done)|(simp[D4,TV.val])
theorem VI:∀{ts:List TV},ts.all TV.flat=true->BJ w ts (ts.map TV.val) [] []
 |[],_=>by simp[BJ]
 |t::ts,ht=>by
  simp only[FJ,Ag]at ht;exact⟨_,_,[],[],[],[],rfl,rfl,rfl,ACU ht.1,VI ht.2⟩
theorem Zf {t:TV}:t.val.oneCell'=true:=by cases t<;>rfl
theorem JG (e:TypeId) (fz:Nat×Nat) (g:Nat):∀(vs:List Value) (o:Nat) (a:Array Value) (w:World),w.heap[g]?=some (.cells a e fz)->o+vs.length<=a.size->(w.setCells g o vs).heap[g]?=some (.cells (setRow a.toList o vs).toArray e fz)
 |[],o,a,w,h,_=>by
  simp only[World.setCells];rw[h];congr 2;apply AD8;simp[setRow]
 |v::vs,o,a,w,h,hl=>by
  simp only[AA]at hl;simp only[World.setCells];have h1:(w.setCell ⟨g,o,none⟩ v).heap[g]?=some (.cells (a.setIfInBounds o v) e fz):=by
   simp only[World.setCell,Array.getElem?_modify,Ch,h,BD];rfl
  rw[JG e fz g vs (o+1) (a.setIfInBounds o v) _ h1 (by simp;omega)];congr 2;apply AD8;simp only[Array.toList_setIfInBounds];apply BN;intro k;have l1:(a.toList.take o).length=o:=by simp;omega
  have l2:((a.toList.set o v).take<|o+1).length=o+1:=by simp;omega
  simp only[setRow,AG]
  rcases V9 k o with hk|hk|hk
  ·rw[BP (by omega),BP (by omega),Hj,Hj,AH (by omega),AH hk,List.getElem?_set_ne<|by omega]
  ·subst hk;rw[BP (by omega),Bt (by omega),Hj,AH (by omega),List.getElem?_set_self (by simp;omega),l1];simp
  have eL:(List.take (o+1) (a.toList.set o v)++(vs++List.drop (o+1+vs.length) (a.toList.set o v)))[k]?=(vs++List.drop (o+1+vs.length) (a.toList.set o v))[k-(o+1)]? :=by grind
  have eR:(List.take o a.toList++(v::vs++List.drop (o+(v::vs).length) a.toList))[k]?=(vs++List.drop (o+(v::vs).length) a.toList)[k-(o+1)]? :=by
   rw[Bt (by omega),l1,show k-o=(k-(o+1))+1 by omega,BI,List.getElem?_cons_succ]
  rw[eL,eR];by_cases hv:k-(o+1)<vs.length
  ·grind
  rw[Bt (by omega),Bt (by omega),JK,JK,List.getElem?_set_ne (by omega),AA];congr 1;omega
structure sC (n b g cap:Nat) (e T:TypeId) (sz:Nat) (enc:γ->List TV) (w:World) (l:List γ):Prop where
 ne:b≠g
 len:l.length=n
 box:w.heap[b]?=some (.cells #[.slice (some ⟨g,0,none⟩) l.length cap] T (0,0))
 row:∃cur,w.heap[g]?=some (.cells cur e (0,0))/\cur.size=cap*sz/\cur.toList.take (l.length*sz)=(A9 enc l).map TV.val
 le:l.length<=cap/\cap<=maxLen
def Nq (n b g cap:Nat) (e T:TypeId) (sz:Nat) (enc:γ->List TV) (l:List γ):Si where
 B:=[b,g]
 I:=λw=>sC n b g cap e T sz enc w l
 st:=λw w' h hk=>⟨h.ne,h.len,by rw[hk b<|by simp];exact h.box,by rw[hk g<|by simp];exact h.row,h.le⟩
 rd:=λad=>if ad.spot.isSome=true then none else if ad.block=b then(if ad.off=0 then some (.slice (some ⟨g,0,none⟩) n cap)else none)else if ad.block=g then(if ad.off<l.length*sz then((A9 enc l).map TV.val)[ad.off]? else none)else none
 rdI:=λw ad v h hr=>by
  obtain⟨bl,off,spot⟩:=ad
  cases spot with
  |some s=>simp at hr
  |none=>
   simp only[NM,Er,Ke]at hr;split at hr
   ·rename_i hb;subst hb;split at hr
    ·rename_i ho;subst ho
     injection hr with hr
     subst hr;simp[World.cell?,h.box,h.len]
    cases hr
   split at hr
   ·rename_i hg;subst hg;split at hr
    ·rename_i ho;obtain⟨a,h1,h2,h3⟩:=h.row;rw[<-h3,Hj,AH ho]at hr;simpa[World.cell?,h1]using hr
    cases hr
   cases hr
theorem RC (f:γ->List TV) (x:γ) (l:List γ):A9 f (x::l)=f x++A9 f l:=by simp[A9]
theorem G8 (g:Nat):∀(vs:List Value) (o:Nat) (w:World),(w.setCells g o vs).heap.size=w.heap.size
 |[],_,_=>rfl
 |v::vs,o,w=>by
  simp only[World.setCells];rw[G8 g vs,World.size_setCell]
theorem Jv (g:Nat):∀(vs:List Value) (o:Nat) (w:World),(w.setCells g o vs).tape=w.tape
 |[],_,_=>rfl
 |v::vs,o,w=>by
  simp only[World.setCells];rw[Jv g vs,World.tape_setCell]
theorem Re (f:α->β) (A B:List α) (j:Nat):(setRow A j B).map f=setRow (A.map f) j (B.map f):=by
 simp[setRow,List.map_take,List.map_drop]
theorem kN {enc:γ->List TV} (a:∀x,(enc x).length=sz) (x z:γ):setRow (enc x) 0 (enc z)=enc z:=by
 simp only[setRow,Lw,A3,HZ]
 grind
theorem T6 {l:List γ} {i:Int} {x z:γ} {enc:γ->List TV} (a:∀x,(enc x).length=sz) (h:gi l i=some x):setRow (A9 enc l) (i.toNat*sz) (enc z)=A9 enc (si l i z):=
 Xn a h (k:=0) (by rw[a];simp) (kN a x z)
theorem IP {i:Int} (h:gi l i=some x):0<=i/\l[i.toNat]?=some x:=by
 unfold gi at h
 grind
theorem ZO {ie:TypeInfo} {b g cap:Nat} {e T:TypeId} {enc:γ->List TV} (f:∀x,(enc x).length=sz) (n:Nat) (gS:Bool) (hx:∀args W,(callFunc sf args).run P W=((Extern.ReflectliteSwapper.swap gS args).run P W).andThen λv w'=> .ok (.value v) w') (h3:P.info? e=some ie) (h:ie.size=sz) (s:∀w,(isAgg e).run P w= .ok true w):
  Nt P (Nq n b g cap e T sz enc) sf #[.slice (some ⟨g,0,none⟩) n cap,typeHandle P e]:=by
 intro l i j x y hi hj w hI hB;obtain⟨h4,hn,a2,⟨d,hg,h5,h6⟩,u⟩:=hI;obtain⟨i0,i1⟩:=IP hi;obtain⟨j0,j1⟩:=IP hj;obtain⟨a,rfl⟩:=Cf i0;obtain⟨c,rfl⟩:=Cf j0;simp only[Ba]at i1 j1;have la:=(Ae.1 i1).1;have lc:=(Ae.1 j1).1;have hX:((enc x).map TV.val).length=sz:=by grind
 have hY:((enc y).map TV.val).length=sz:=by grind
 have a3:(A9 enc l).length=l.length*sz:=EN f l;have o:l.length*sz<=d.size:=by rw[h5];exact BQ _ u.1
 have h7:(a+1)*sz<=l.length*sz:=BQ _ la;have h8:(c+1)*sz<=l.length*sz:=BQ _ lc;rw[GO]at h7 h8;have cell:∀(m:Nat) (z:γ),l[m]?=some z->∀k v,((enc z).map TV.val)[k]?=some v->w.cell? ⟨g,0+m*ie.size+k,none⟩=some v:=by
  intro m z hm k v hk;have a4:=(Ae.1 hk).1;have lm:=(Ae.1 hm).1;have a5:(m+1)*sz<=l.length*sz:=BQ _ lm;rw[h,HZ];have e1:(A9 enc l)[m*sz+k]?=(enc z)[k]? :=by
   have:=K4 f l m;have h2:(A9 enc l)[m*sz+k]?=((A9 enc l).drop<|m*sz)[k]? :=by grind
   rw[h2,this,AE lm];have e3:A9 enc (l[m]::l.drop (m+1))=enc l[m]++A9 enc (l.drop<|m+1):=RC _ _ _
   grind
  have e2:d.toList[m*sz+k]?=some v:=by
   have:(d.toList.take<|l.length*sz)[m*sz+k]?=d.toList[m*sz+k]? :=by grind
   grind
  simp only[World.cell?,hg,Aa];simpa using e2
 have frz:∀(m k:Nat),w.frozen? ⟨g,0+m*ie.size+k,none⟩=false:=by
  intro m k;simp[World.frozen?,hg]
 have p:=Go.Lib.run_swap_cells (P:=P) gS e ie h3 s g 0 n cap a c (by omega) (by omega) ((enc x).map TV.val) ((enc y).map TV.val) (by rw[hX,h]) (by rw[hY,h]) (λv hv=>by obtain⟨t,_,rfl⟩:=A6.1 hv;exact Zf) (λv hv=>by obtain⟨t,_,rfl⟩:=A6.1 hv;exact Zf) w (cell a x i1) (cell c y j1) (λk _=>frz a k) λk _=>frz c k;simp only[HZ,h]at p;have h1:=JG e (0,0) g ((enc y).map TV.val) (a*sz) d w hg (by rw[hY];omega);have h9:(setRow d.toList (a*sz)<|(enc y).map TV.val).toArray.size=d.size:=by
  rw[List.size_toArray,E4 (by rw[hY];simp;omega)];simp
 have h2:=JG e (0,0) g ((enc x).map TV.val) (c*sz) _ _ h1 (by rw[h9,hX];omega);have kB:∀k,k<w.heap.size->k≠g->((w.setCells g (a*sz)<|(enc y).map TV.val).setCells g (c*sz)<|(enc x).map TV.val).heap[k]?=w.heap[k]? :=by
  intro k hk h0;have s1:(w.setCells g (a*sz)<|(enc y).map TV.val).heap.size=w.heap.size:=G8 g _ _ _;rw[World.heap_setCells_other _ g _ _ (by rw[s1];exact hk) h0,World.heap_setCells_other _ g _ _ hk h0]
 refine⟨(w.setCells g (a*sz)<|(enc y).map TV.val).setCells g (c*sz)<|(enc x).map TV.val,?_,⟨?_,?_,?_,?_,?_⟩,?_⟩
 ·rw[hx];have ea:(#[Value.int .i64 (a:Int),Value.int .i64 (c:Int)]++ #[Value.slice (some ⟨g,0,none⟩) n cap,typeHandle P e])= #[.int .i64 (a:Int),.int .i64 (c:Int),.slice (some ⟨g,0,none⟩) n cap,typeHandle P e]:=rfl;rw[ea,p];rfl
 ·rw[World.os_setCells,World.os_setCells]
 ·rw[Jv,Jv]
 ·rw[World.output_setCells,World.output_setCells]
 ·rw[G8,G8];exact Ay _
 ·intro k hk a0;exact kB k hk λe=>a0 (by rw[e];simp[Nq])
 have q:(si (si l (a:Int) y) (c:Int) x).length=l.length:=by simp[si]
 have lcur:d.toList.length=d.size:=by simp
 have r:(setRow d.toList (a*sz)<|(enc y).map TV.val).length=d.size:=by omega
 have a6:(setRow (setRow d.toList (a*sz)<|(enc y).map TV.val) (c*sz)<|(enc x).map TV.val).length=d.size:=by rw[E4 (by rw[hX,r];omega),r]
 refine⟨h4,q.trans hn,?_,⟨_,h2,?_,?_⟩,by rw[q];exact u⟩
 ·grind
 ·grind
 rw[q];rw[M7 (by rw[hX];omega) (by rw[r];exact o),M7 (by rw[hY];omega) (by rw[lcur];exact o),h6,<-Re,<-Re];have e1:setRow (A9 enc l) (a*sz) (enc y)=A9 enc (si l (a:Int) y):=by
  have:=T6 f (z:=y) hi
  rwa [Ba]at this
 obtain⟨z0,a1⟩:∃z0,gi (si l (a:Int) y) (c:Int)=some z0:=by
  have lc2:c<(si l (a:Int) y).length:=by simp only[si,Ki];exact lc
  refine⟨(si l (a:Int) y)[c],?_⟩;unfold gi;simp
 have e2:=T6 f (z:=x) a1;rw[Ba]at e2;rw[e1,e2]
theorem nR {w0:Base} {a:Act} {blk:Root->Nat} (h:CD w0 FA UA N w a E blk FS US) {t:Nat} {ad:Addr} (hs:E.slots t= .one (.adr ad)):a.eval (.tmp t)= .pointer (some ad):=by
 have:=h.slot t;rw[hs]at this;exact this.1.1
theorem ADG {w0:Base} {a:Act} {blk:Root->Nat} (h:CD w0 FA UA N w a E blk FS US) {t:Nat} {ad:Addr} {n c:Nat} (hs:E.slots t= .one (.hdr ad n c)):a.eval (.tmp t)= .slice (some ad) n c:=by
 have:=h.slot t;rw[hs]at this;exact this.1.1
theorem FK.any {o:Oper} (d:Nat) (t:TV) (hk:FK P N ops rest (E.put (some d) (.one t)) K) (b:∀(w0:Base) (FA UA:List Nat) (w:World) (a:Act) (blk:Root->Nat) (FS US:Root->List Nat),CD w0 FA UA N w a E blk FS US->∃v,(execOp a.eval o).run P w= .ok (.value v) w/\D4 w t v [] []/\v.cells= #[v]) (hd:o.dst=some d:=by rfl) (hN:Nat.blt d N=true:=by rfl) (hg:By P ops E o=some true:=by rfl):FK P N ops (o::rest) E K:=by
 have hN':d<N:=by simpa[B3]using hN
 intro w0 FA UA w a blk FS US k1 k2 k3;obtain⟨v,h1,h2,h3⟩:=b w0 FA UA w a blk FS US k1;simp only[wpStill,Ce k1 hg,Ch,Oper.still,h1,Oper.stillUpon_value];rw[hd];refine hk _ _ _ _ _ _ _ _ (k1.put (F:=[]) (U:=[]) hN' (by simp only[Ik];exact⟨G5 h2,λ_=>h3⟩) Zc.none) ?_ ?_
 ·rw[Bj (by simp),k2]
 rw[Bj (by simp),k3]
theorem Lt {o:Oper} {ty:TypeId} {x:Nat} (d:Nat) (t:TV) (v:Value) {ad:Addr} (hk:FK P N ops rest (E.put (some d) (.one t)) K) (hs:E.slots x= .one (.adr ad)) (b:E.amb.rd ad=some v) (hv:∀w,D4 w t v [] []) (hc:v.cells= #[v]) (ha:fX P ty=false) (hu:(P.underlying ty).isSome=true) (ho:o.op= .load ty (.tmp x):=by rfl) (hd:o.dst=some d:=by rfl) (hN:Nat.blt d N=true:=by rfl) (hg:By P ops E o=some true:=by rfl):FK P N ops (o::rest) E K:=
 FK.any d t hk (λw0 FA UA w a blk FS US h=>by
  have h1:=nR h hs;have h2:=E.amb.rdI w ad v h.ambI b;have c:P.underlying ty≠none:=by grind
  refine⟨v,?_,hv w,hc⟩
  simp[execOp,ho,h1,Instr.loadAt,Instr.sureAddr,loadVar,Xr c,ha,h2]) hd hN hg
theorem PM {o:Oper} {x f:Nat} (d:Nat) {ad:Addr} {st:TypeId} (hk:FK P N ops rest (E.put (some d) (.one (.adr (ad.add fd.offset)))) K) (hs:E.slots x= .one (.adr ad)) (c:P.underlying st=some (.struct fs)) (hf:fs[f]?=some fd) (b:P.cellsOf fd.type≠0) (ho:o.op= .fieldAddr st (.tmp x) f:=by rfl) (hd:o.dst=some d:=by rfl) (hN:Nat.blt d N=true:=by rfl) (hg:By P ops E o=some true:=by rfl):FK P N ops (o::rest) E K:=
 FK.any d (.adr<|ad.add fd.offset) hk (λw0 FA UA w a blk FS US h=>by
  have h1:=nR h hs;obtain⟨i,hi,_⟩:=GD b;refine⟨.pointer<|some<|ad.add fd.offset,?_,by simp[D4],rfl⟩
  simp[execOp,ho,h1,Instr.fieldAt,run_underlying c,hf,Instr.sureAddr,fieldPlace,run_sizeOf w hi,b]) hd hN hg
theorem XR {o:Oper} {x:Nat} {i:Operand} (d:Nat) {ad:Addr} {n c:Nat} {t e:TypeId} {m:Int} (hk:FK P N ops rest (E.put (some d) (.one (.adr (ad.add (m.toNat*P.cellsOf e))))) K) (hs:E.slots x= .one (.hdr ad n c)) (ht:P.underlying t=some (.slice e)) (hi:E.cell1 P 0 i=some (.int k m)) (h0:0<=m) (hm:m<n) (f:P.cellsOf e≠0) (ho:o.op= .indexAddr t (.tmp x) i:=by rfl) (hd:o.dst=some d:=by rfl) (hN:Nat.blt d N=true:=by rfl) (hg:By P ops E o=some true:=by rfl):FK P N ops (o::rest) E K:=
 FK.any d (.adr<|ad.add<|m.toNat*P.cellsOf e) hk (λw0 FA UA w a blk FS US h=>by
  have h1:=ADG h hs;have h2:=Dd h hi;obtain⟨inf,b,_⟩:=GD f;refine⟨.pointer<|some<|ad.add<|m.toNat*P.cellsOf e,?_,by simp[D4],rfl⟩
  simp[execOp,ho,h1,h2,Instr.indexAt,run_underlying ht,asIntOf,h0,hm,run_sizeOf w b]) hd hN hg
def WW (P:Program) (f:FuncId) (A:Si) (as:List AV) (t:TV):Prop:=∀(w:World) (vs:List Value),L6 w as vs [] []->(∀b∈A.B,b<w.heap.size)->A.I w->Calls P f vs.toArray w λe w'=>e= .returned (WW.val t)/\GK w w' A.B/\A.I w'
where
 val:TV->Value
 | .int k n=> .int k n
 | .bool b=> .bool b
 | .str s=> .string s
 | .fn f ta c=> .func f ta c
 |_=> .bool false
theorem ABh {t:TV} (h:D4 w t v F U) (ht:t.flat=true):v=WW.val t:=by
 cases t<;>first|(cases ht;done)|(exact h.1)
theorem cG {f:FuncId} {c:Code} {t:TV} (hf:P.funcs[f]?=some fn) (hb:fn.body=some c) (ht:t.flat=true) (h:Wp P fn.ntmps c (D3 as A) λe E=>(e= .normal\/e= .ret)/\E.amb=A/\∃E',Eb P E fn.results.toList=some ([.one t],E')) (hp:A.pin=none:=by rfl):WW P f A as t:=by
 intro w vs ha hB hA;obtain⟨blk,FS,US,g,hF,hU⟩:=Tu (N:=fn.ntmps) ha CW (by simp) (by simp) (A:=A) hA (λb hb=>⟨hB b hb,by simp,by simp⟩) (hpin:=λb h=>by rw[hp]at h;cases h);refine calls_of_wp hf hb<|wp_mono (h _ _ _ _ _ _ _ _ g hF hU) ?_;rintro e a w' ⟨E,blk',FS',US',⟨he,i,E',h1⟩,h2,h3,h4⟩;obtain⟨us,FS2,US2,F,U,k1,k2,k3,k4,k5⟩:=MO h2 h1;have k6:=SG k2;have hv:=ABh k6.1 ht;have hI:A.I w':=by rw[<-i];exact h2.ambI
 have d:a.defers=[]/\∃v,(results fn a.tmps).run P w'= .ok v w'/\Ending.returned v= .returned (WW.val t)/\GK w w' A.B/\A.I w':=
  ⟨h2.nodef,_,Pn k1,by rw[hv],⟨h2.os,h2.tape,h2.output,h2.size,λb h5 h6=>h2.keep b h5 (by simp) h6⟩,hI⟩
 rcases he with rfl|rfl
 ·exact d
 exact d
theorem X4 {g : FuncId} {ad : Addr} (hf : P.funcs[g]? = some fn) (hn : (fn.name == "runtime.NumGoroutine") = false) (hb : fn.body.isNone = false) (h : ∀ (l : List γ) (i j : Int) (x y : γ), gi l i = some x → gi l j = some y → (∃ w, (Am l).I w) → WW P g (Am l) [.sv (.one (.int .i64 i)), .sv (.one (.int .i64 j)), .sv (.one (.adr ad))] (.bool (lt x y))) : IV P Am lt g #[.pointer (some ad)] := by
 refine⟨λargs w=>?_,λl i j x y hx hy w hI hB=>?_⟩
 ·have a:fn.body≠none:=by grind
  have b : fn.name ≠ "runtime.NumGoroutine" := by grind
  simp[callFunc,hf,b,a]
 exact h l i j x y hx hy ⟨w,hI⟩ w [.int .i64 i,.int .i64 j,.pointer<|some ad]
  ⟨_,_,[],[],[],[],rfl,rfl,rfl,⟨by simp[D4],rfl⟩,⟨_,_,[],[],[],[],rfl,rfl,rfl,⟨by simp[D4],rfl⟩,⟨_,_,[],[],[],[],rfl,rfl,rfl,⟨by simp[D4],rfl⟩,⟨rfl,rfl,rfl⟩⟩⟩⟩ hB hI
def Ul (P:Program) (f:FuncId) (t e sz:Nat) (enc:γ->List TV) (g:FuncId) (l l':List γ):Prop:=∀(w:World) (b:Nat) (v:Value) (T:TypeId),w.heap[b]?=some (.cells #[v] T (0,0))->w.ownsRow 0 e sz v l.length ((A9 enc l).map TV.val)->b∉BR v->
  Calls P f #[.iface t v,.func (.func g) #[] #[.pointer<|some ⟨b,0,none⟩]] w λr w'=>r= .returned (.tuple #[])/\GK w w' (b::BR v)/\w'.heap[b]?=some (.cells #[v] T (0,0))/\w'.ownsRow 0 e sz v l'.length ((A9 enc l').map TV.val)
section
variable {w0:Base} {a:Act}
theorem CD.turn (h:CD w0 FA UA N w a E blk FS US) (hF:FS .hand=[]) (hU:US .hand=[]) {r:Root} (hm:r.mem=true) {cells cells':List TV} (hc:E.boxes r=some cells) (l:cells'.length=cells.length) (hb:GK w w' (FS r)) (d:∃c T F,w'.heap[blk r]?=some (.cells c T (0,0))/\BJ w' cells' c.toList F (US r)/\FS r=blk r::F):
  ∃FS' US',CD w0 FA UA N w' a ((E.setRoot r cells').bump r) blk FS' US'/\FS' .hand=[]/\US' .hand=[]:=by
 have f:r≠ .hand:=by rintro rfl;cases hm
 have i:∀j,((E.setRoot r cells').bump r).place r [] j=cells'[j]? :=by
  intro j
  cases r with
  |slot n=>cases hm
  |hand=>cases hm
  |box n=>simp[St.place,St.bump,St.setRoot,St.root,Ci,BB]
  |ext n=>simp[St.place,St.bump,St.setRoot,St.root,Ci,BB]
 have g:∀j,E.place r [] j=cells[j]? :=by
  intro j
  cases r with
  |slot n=>cases hm
  |hand=>cases hm
  |box n=>simp[St.place,St.root,hc,BB]
  |ext n=>simp[St.place,St.root,hc,BB]
 let E1:St:=(E.setRoot r cells').bump r
 have ev:∀s,s≠r->E1.ver s=E.ver s:=by
  intro s hs;cases r<;>simp[E1,St.bump,St.setRoot,Ci,hs]
 have evr:E1.ver r=E.ver r+1:=by cases r<;>simp[E1,St.bump,St.setRoot,Ci]
 have eg:∀s,E1.gen s=E.gen s:=by intro s;cases r<;>rfl
 have er:∀s,s≠r->E1.root s=E.root s:=by
  intro s hs
  cases r with
  |slot n=>cases hm
  |hand=>cases hm
  |box n=>cases s<;>simp[E1,St.bump,St.setRoot,St.root,Ci,hs]
  |ext n=>cases s<;>simp[E1,St.bump,St.setRoot,St.root,Ci,hs]
 have es:∀n,E1.slots n=E.slots n:=by
  intro n
  cases r with
  |slot n=>cases hm
  |hand=>cases hm
  |box n=>rfl
  |ext n=>rfl
 have eb:∀s,E1.boxes s=if s=r then some cells' else E.boxes s:=by
  intro s
  cases r with
  |slot n=>cases hm
  |hand=>cases hm
  |box n=>rfl
  |ext n=>rfl
 have k:∀s,Cs w w' a a E E1 blk blk s:=by
  intro s;by_cases hs:s=r
  ·subst hs;refine⟨.inl (by rw[evr];omega),.inr ⟨eg s,λj ad hv hp=>?_⟩⟩;refine⟨(by cases s<;>first|exact hv|(cases hm)),?_⟩
   grind
  by_cases hh:s= .hand
  ·subst hh;exact Gm (ev _ hs) (eg _)<|by simp[St.root,h.nohand]
  exact DS h (ev s hs) (eg s) (er s hs) (λ_ _=>rfl) (λ_=>rfl)
   (λb hx=>hb.keep b (h.inF s b hx).2<|h.dis s r hs b hx) (λb hx=>hb.keep b (h.inU s b hx).2 λe=>h.disU r s b e hx)
 have k7:=h.two (w':=w') (a':=a) (E':=E1) (blk':=blk) (r1:=r) (r2:= .hand) (L1:=FS r) (L2:=[]) (V1:=US r) (V2:=[]) f
  (by simpa using h.nodup r)
  (λb hx=>⟨.inl (by simpa using hx),AT (h.inF r b<|by simpa using hx).2 hb.size⟩)
  (λb hx=> .inl ⟨r,by simpa using hx⟩)
  hb.size hb.os hb.tape hb.output (λb hx q _=>hb.keep b hx q) k (λn _ _=>⟨es n,rfl⟩) (λs _ hs _=>⟨by rw[eb,AO hs],rfl⟩)
  (by
   obtain⟨c,T,F,g1,g2,g3⟩:=d;have:GX w' a E1 blk r (FS r) (US r):=by
    have e1:=eb r;rw[AH rfl]at e1
    cases r with
    |slot n=>cases hm
    |hand=>cases hm
    |box n=>exact .inr ⟨cells',c,T,F,e1,g1,g2,g3⟩
    |ext n=>exact .inr ⟨cells',c,T,F,e1,g1,g2,g3⟩
   exact this)
  trivial (by rw[eb,AO<|JI f];exact h.nohand) h.len h.nodef (hfz:=by
   intro n hn;have e:((E.setRoot r cells').bump r).fz=E.fz:=by rw[RL,Im]
   exact h.frz n<|e▸hn) (hamb:=by rw[Nk,EI])
 exact⟨_,_,k7,BZ _ _ _,BZ _ _ _⟩
end
theorem W8 {w0:Base} {a:Act} (h:CD w0 FA UA N w a E blk FS US) (hF:FS .hand=[]) (hU:US .hand=[]) (hd:d<N) (v:Value):∃FS' US',CD w0 FA UA N w (a.put (some d) v) (E.put (some d) (.one .junk)) blk FS' US'/\FS' .hand=[]/\US' .hand=[]:=
 h.land (w':=w) (F:=[]) (U:=[]) hd (by simp[Ik,DH,TV.isJunk]) CW (by simp) (by simp) (Ay _) rfl rfl rfl (λ_ _ _=>rfl)
theorem Gg {enc:γ->List TV} (a:∀x,(enc x).all TV.flat=true):∀l:List γ,(A9 enc l).all TV.flat=true
 |[]=>rfl
 |x::l=>by
  have:A9 enc (x::l)=enc x++A9 enc l:=by simp[A9]
  rw[this,List.all_append,a,Gg a l];rfl
theorem Kg {o:Oper} (h:o.guard=none):By P ops E o=some true:=by unfold By;rw[h]
theorem GL.srt {l l':List γ} {o1 o2 o3:Oper} {d1 d2 d3 x p ver:Nat} {enc:γ->List TV} {sz e t:Nat} {f b:FuncId} {r:Root} {tys:Array TypeId} (hs:Ul P f t e sz enc b l l') (hk:GL P N ops rest (((((E.put (some d1) (.one .junk)).put (some d2) (.one .junk)).setRoot r [.sl true e sz (A9 enc l')]).bump r).put (some d3) (.tup [])) Q) (h:∀x,(enc x).length=sz) (c:∀x,(enc x).all TV.flat=true) (hx:E.slots x= .one (.view r ver [] 0):=by rfl) (i:E.ver r=ver:=by rfl) (hp:E.ptr? (.tmp p)=some (r,[],0):=by rfl) (hc:E.boxes r=some [.sl true e sz<|A9 enc l]:=by rfl) (hm:r.mem=true:=by rfl) (h1:o1.op= .makeInterface t (.tmp x):=by rfl) (h2:o2.op= .makeFunc (.func b) #[] #[.tmp p]:=by rfl) (h3:o3.op= .call {callee:= .value (.func f),args:= #[.tmp d1,.tmp d2],argTypes:=tys}:=by rfl) (k1:o1.dst=some d1:=by rfl) (k2:o2.dst=some d2:=by rfl) (k3:o3.dst=some d3:=by rfl) (g1:o1.guard=none:=by rfl) (g2:o2.guard=none:=by rfl) (g3:o3.guard=none:=by rfl) (u:Nat.blt d1 N=true:=by rfl) (y:Nat.blt d2 N=true:=by rfl) (z:Nat.blt d3 N=true:=by rfl) (h0:Nat.beq d1 d2=false:=by rfl) (j:Nat.beq p d1=false:=by rfl) (h4:Nat.blt 0 sz=true:=by rfl) (ht:P.underlying t=some (.slice e):=by rfl) (hf:fT P f):GL P N ops (o1::o2::o3::rest) E Q:=by
 have hN1':d1<N:=by simpa[B3]using u
 have hN2':d2<N:=by simpa[B3]using y
 have hN3':d3<N:=by simpa[B3]using z
 have hne':d1≠d2:=by intro e;subst e;simp at h0
 have hne2':p≠d1:=by intro e;subst e;simp at j
 have hsz':0<sz:=by simpa[B3]using h4
 intro w0 FA UA w a blk FS US hr hF hU;have k:∃v T F,w.heap[blk r]?=some (.cells #[v] T (0,0))/\D4 w (.sl true e sz<|A9 enc l) v F (US r)/\FS r=blk r::F:=by
  rcases hr.box r hm with⟨q1,_⟩|⟨cs,m,T,F,q1,q2,q3,q4⟩
  ·grind
  rw[hc]at q1
  injection q1 with q1
  subst q1;obtain⟨v,h5,F1,F2,U1,U2,e1,rfl,e3,q5,rfl,rfl,rfl⟩:=q3;have:m= #[v]:=by grind
  grind
 obtain⟨v,T,F,b1,b2,b3⟩:=k;obtain⟨n,vs,F',b4,b5,rfl⟩:=b2;have h6:=Wu b5<|Gg c l;obtain⟨rfl,a4⟩:=LV b5<|Gg c l;subst h6;have h7:n=l.length:=by
  have q:=b4.1;rw[Bm,EN h l]at q;exact(Nat.eq_of_mul_eq_mul_right hsz' q).symm
 subst h7;have h8:blk r∉BR v:=by
  have:=hr.nodup r
  grind
 have evx:a.eval (.tmp x)=v:=by
  have q:=hr.slot x;rw[hx]at q;obtain⟨⟨_,_,_,q4⟩,_⟩:=q;obtain⟨q5,_⟩:=q4 i
  cases r with
  |slot n=>cases hm
  |hand=>cases hm
  |box n=>simpa[pv,B6,Addr.add,World.cell?,b1]using q5.symm
  |ext n=>simpa[pv,B6,Addr.add,World.cell?,b1]using q5.symm
 have evp:a.eval (.tmp p)= .pointer (some ⟨blk r,0,none⟩):=by
  obtain⟨_,ad,q1,q2⟩:=Jc hr hp;rw[q2]
  cases r with
  |slot n=>cases hm
  |hand=>cases hm
  |box n=>simp[pa,Addr.add]at q1;rw[<-q1]
  |ext n=>simp[pa,Addr.add]at q1;rw[<-q1]
 obtain⟨FS1,US1,r1,r2,r3⟩:=W8 hr hF hU hN1'<|.iface t v;have e1:(execOp a.eval o1).run P w= .ok (.value<|.iface t v) w:=by
  simp[execOp,h1,Instr.makeInterface,run_underlying ht,evx]
 simp only[wpList,Ce hr<|Kg (P:=P) (ops:=ops) g1,Ch];refine .inl ?_
 try unfold Oper.wp
 rw[e1,Oper.upon_value,k1];have evp1:(a.put (some d1)<|.iface t v).eval (.tmp p)= .pointer (some ⟨blk r,0,none⟩):=by rw[Dj hne2',evp]
 obtain⟨FS2,US2,s1,s2,s3⟩:=W8 r1 r2 r3 hN2'<|.func (.func b) #[] #[.pointer<|some ⟨blk r,0,none⟩];have e2:(execOp (a.put (some d1)<|.iface t v).eval o2).run P w= .ok (.value<|.func (.func b) #[] #[.pointer<|some ⟨blk r,0,none⟩]) w:=by
  simp[execOp,h2,Instr.makeFunc,evp1]
 simp only[wpList,Ce r1<|Kg (P:=P) (ops:=ops) g2,Ch];refine .inl ?_
 try unfold Oper.wp
 rw[e2,Oper.upon_value,k2];simp only[wpList,Ce s1<|Kg (P:=P) (ops:=ops) g3,Ch];refine .inl ?_;have h9:d1<a.tmps.size:=AT hN1' hr.len;have a0:d2<(a.put (some d1)<|.iface t v).tmps.size:=AT hN2' r1.len
 try unfold Oper.wp
 rw[I6 h3 hf];have ea: #[Operand.tmp d1,.tmp d2].map ((a.put (some d1)<|.iface t v).put (some d2)<|.func (.func b) #[] #[.pointer<|some ⟨blk r,0,none⟩]).eval= #[.iface t v,.func (.func b) #[] #[.pointer<|some ⟨blk r,0,none⟩]]:=by
  simp[Gz a0,Dj hne',Gz h9]
 rw[ea];refine Calls.mono (hs w (blk r) v T b1 b4 h8) ?_;rintro ee w' ⟨rfl,a1,a2,a3⟩;have o:((E.put (some d1)<|.one .junk).put (some d2)<|.one .junk).boxes r=some [.sl true e sz<|A9 enc l]:=hc;have g:∃F2,FS2 r=blk r::F2/\F2=BR v/\US2 r=[]:=by
  rcases s1.box r hm with⟨q1,_⟩|⟨cs,m,T2,F2,q1,q2,q3,q4⟩
  ·grind
  rw[o]at q1
  injection q1 with q1
  subst q1;rw[b1]at q2
  injection q2 with q2
  injection q2 with q2
  subst q2;obtain⟨v2,h5,F3,F4,U1,U2,e1,rfl,e3,q5,rfl,rfl,rfl⟩:=q3;simp at e1;subst e1;obtain⟨n,vs,F',c4,c5,rfl⟩:=q5;obtain⟨rfl,rfl⟩:=LV c5<|Gg c l
  grind
 obtain⟨F2,f1,rfl,f3⟩:=g;obtain⟨FS3,US3,t1,t2,t3⟩:=s1.turn s2 s3 hm o (cells':=[.sl true e sz<|A9 enc l']) rfl (w':=w') (by rw[f1];exact a1)
  ⟨#[v],T,BR v,a2,by
   rw[f3];refine⟨v,[],BR v,[],[],[],rfl,by simp,rfl,?_,rfl,rfl,rfl⟩
   exact⟨l'.length,_,[],a3,VI<|Gg c l',by simp⟩,f1⟩
 obtain⟨FS4,US4,u1,u2,u3⟩:=t1.land (w':=w') (d:=d3) (s:= .tup []) (v:= .tuple #[]) (F:=[]) (U:=[]) hN3' (by simp[Ik,Sn]) CW (by simp) (by simp) (Ay _) rfl rfl rfl λ_ _ _=>rfl;rw[k3];exact hk _ _ _ _ _ _ _ _ u1 u2 u3
def yB (b:Nat) (v:Value) (T:TypeId) (e sz n:Nat) (xs:List Value):Si where
 B:=b::BR v
 I:=λw=>w.heap[b]?=some (.cells #[v] T (0,0))/\w.ownsRow 0 e sz v n xs
 st:=λw w' h hk=>⟨by grind,h.2.1,by
  rcases h.2.2 with q|⟨g,cap,a,rfl,q1,q2,q3⟩
  ·exact .inl q
  exact .inr ⟨g,cap,a,rfl,q1,by rw[hk g<|by simp[BR,Value.ownBlock]];exact q2,q3⟩⟩
theorem lN {l:List γ} {i:Int} {x:γ} {k:Nat} {n b g cap:Nat} {e T:TypeId} {enc:γ->List TV} (a:∀x,(enc x).length=sz) {t:TV} {ad:Addr} (hi:gi l i=some x) (hk:(enc x)[k]?=some t) (hb:b≠g) (c:ad=⟨g,i.toNat*sz+k,none⟩):(Nq n b g cap e T sz enc l).rd ad=some t.val:=by
 subst c;obtain⟨i0,i1⟩:=IP hi;have lm:=(Ae.1 i1).1;have d:=(Ae.1 hk).1;rw[a]at d;have f:(i.toNat+1)*sz<=l.length*sz:=BQ _ lm;have e1:(A9 enc l)[i.toNat*sz+k]?=(enc x)[k]? :=by
  have h2:(A9 enc l)[i.toNat*sz+k]?=((A9 enc l).drop<|i.toNat*sz)[k]? :=by grind
  rw[h2,K4 a l i.toNat,AE lm,RC]
  grind
 simp only[Nq,NM,Er,Ke]
 grind
theorem lO {l:List γ} {n b g cap:Nat} {e T:TypeId} {enc:γ->List TV}:(Nq n b g cap e T sz enc l).rd ⟨b,0,none⟩=some (.slice (some ⟨g,0,none⟩) n cap):=by
 simp[Nq]
theorem YH {g m:Nat}:((⟨g,0,none⟩:Addr).add m)=⟨g,m,none⟩:=by
 unfold Addr.add
 grind
theorem jF {i:Int} (h:gi l i=some x):0<=i/\i<l.length:=by
 obtain⟨i0,i1⟩:=IP h
 grind
def le1 (t t':TV):Prop:=t=t'\/∃e sz a cells',t= .sl true e sz a/\Bz a=cells'/\t'= .sl false e sz cells'
def les:List TV->List TV->Prop
 |[],ts'=>ts'=[]
 |t::ts,ts'=>∃x xs,ts'=x::xs/\le1 t x/\les ts xs
mutual
def dP:SV->SV->Prop
 | .one t,s'=>∃t',s'= .one t'/\le1 t t'
 | .agg cs,s'=>∃cs',s'= .agg cs'/\les cs cs'
 | .tup ss,s'=>∃ss',s'= .tup ss'/\UP ss ss'
def UP:List SV->List SV->Prop
 |[],ss'=>ss'=[]
 |s::ss,ss'=>∃x xs,ss'=x::xs/\dP s x/\UP ss xs
end
theorem AEn {t:TV}:le1 t t:= .inl rfl
theorem AEm:∀{ts:List TV},les ts ts
 |[]=>rfl
 |t::ts=>⟨t,ts,rfl,AEn,AEm⟩
theorem les.c {t x:TV} {ts xs:List TV} (h:le1 t x) (k:les ts xs):les (t::ts) (x::xs):=⟨x,xs,rfl,h,k⟩
theorem le1.s {e sz:Nat} {a cells':List TV} (h:Bz a=cells'):le1 (.sl true e sz a) (.sl false e sz cells'):= .inr ⟨e,sz,a,cells',rfl,h,rfl⟩
mutual
theorem AFb:∀{s:SV},dP s s
 | .one t=>⟨t,rfl,AEn⟩
 | .agg cs=>⟨cs,rfl,AEm⟩
 | .tup ss=>⟨ss,rfl,yT⟩
theorem yT:∀{ss:List SV},UP ss ss
 |[]=>rfl
 |s::ss=>⟨s,ss,rfl,AFb,yT⟩
end
theorem dP.a {cs cs':List TV} (h:les cs cs'):dP (.agg cs) (.agg cs'):=⟨cs',rfl,h⟩
theorem dP.o {t t':TV} (h:le1 t t'):dP (.one t) (.one t'):=⟨t',rfl,h⟩
theorem AGL {ss':List SV} (h:UP ss ss'):dP (.tup ss) (.tup ss'):=⟨ss',rfl,h⟩
theorem UP.c {xs:List SV} {s x:SV} (h:dP s x) (k:UP ss xs):UP (s::ss) (x::xs):=⟨x,xs,rfl,h,k⟩
def Js (F U F' U':List Nat):Prop:=F'.Sublist F/\∀b∈U',b∈U\/(b∈F/\b∉F')
theorem TK {F1 F2 U1 U2 F1' F2' U1' U2':List Nat} (hd:(F1++F2).Nodup) (h:Js F1 U1 F1' U1') (k:Js F2 U2 F2' U2'):Js (F1++F2) (U1++U2) (F1'++F2') (U1'++U2'):=by
 obtain⟨_,_,hd⟩:=CH.1 hd;refine⟨h.1.append k.1,λb hb=>?_⟩
 rcases Ao.1 hb with hb|hb
 ·rcases h.2 b hb with q|⟨q1,q2⟩
  ·grind
  refine .inr ⟨by simp[q1],λhc=>?_⟩
  rcases Ao.1 hc with hc|hc
  ·exact q2 hc
  exact hd b q1 b (k.1.subset hc) rfl
 rcases k.2 b hb with q|⟨q1,q2⟩
 ·grind
 refine .inr ⟨by simp[q1],λhc=>?_⟩
 rcases Ao.1 hc with hc|hc
 ·exact hd b (h.1.subset hc) b q1 rfl
 exact q2 hc
theorem Js.refl:Js F U F U:=⟨List.Sublist.refl _,λb hb=> .inl hb⟩
theorem AEN {t t':TV} (h:D4 w t v F U) (k:le1 t t'):∃F' U',D4 w t' v F' U'/\Js F U F' U':=by
 rcases k with rfl|⟨e,sz,a,cells',rfl,rfl,rfl⟩
 ·exact⟨F,U,h,Js.refl⟩
 obtain⟨U',h1,h2⟩:=TF h;exact⟨[],U',h1,List.nil_sublist _,λb hb=>(h2 b hb).elim (λq=> .inr ⟨q,by simp⟩) .inl⟩
def oA (ops:Array Oper) (i:Nat):Oper:=match ops[i]? with
 |some o=>o
 | none => { dst := none, op := .load 0 (.tmp 0), type := 0, pos := "", after := #[], guard := none }
theorem Jd {ops:Array Oper} (h:Nat.blt i ops.size=true):ops[i]?=some (oA ops i):=by
 have:i<ops.size:=by simpa[B3]using h
 unfold oA
 grind
theorem G4 {ops:Array Oper} (h:Nat.blt i ops.size=true):ops.toList.drop i=oA ops i::ops.toList.drop (i+1):=by
 have hi:i<ops.toList.length:=by simpa[B3]using h
 have h1:=Jd h;rw[<-Array.getElem?_toList,Ab hi]at h1
 injection h1 with h1
 rw[AE hi,h1]
def Sf (P:Program) (ops:Array Oper) (E:St) (i:Nat):Bool:=Nat.blt i ops.size&&(match By P ops E (oA ops i)with|some b=>b|none=>false)
theorem H1 {ops:Array Oper} (h:Sf P ops E i=true):Nat.blt i ops.size=true/\By P ops E (oA ops i)=some true:=by
 simp only[Sf,Ag]at h
 grind
def G3 (N:Nat) (o:Oper):Bool:=match o.dst with
 |some d=>Nat.blt d N
 |none=>false
theorem EO {o:Oper} (h:G3 N o=true):∃d,o.dst=some d/\Nat.blt d N=true/\d<N:=by
 unfold G3 at h;split at h
 ·rename_i d hd;exact⟨d,hd,h,by simpa[B3]using h⟩
 cases h
def AAX (P:Program) (N:Nat) (ops:Array Oper) (mv:Bool) (E:St) (i:Nat):Option St:=bif Nat.blt i ops.size then
  match By P ops E (oA ops i)with
  |some true=>Ct P N mv E<|oA ops i
  |some false=>bif G3 N (oA ops i)then some (E.put (oA ops i).dst<|.tup [])else none
  |none=>none else none
def Se (P:Program) (N:Nat) (ops:Array Oper):Nat->Nat->Nat->St->Option St
 |0,_,_,E=>some E
 |k+1,m,i,E=>match AAX P N ops (Nat.beq (m %2) 1) E i with
  |some E'=>Se P N ops k (m/2) (i+1) E'
  |none=>none
def PZ (P:Program) (N:Nat) (ops:Array Oper) (k m i:Nat) (E:St):St:=(Se P N ops k m i E).getD E
theorem getD_some {α:Type _} {x:Option α} {a:α} (h:x.isSome=true):x=some (x.getD a):=by
 cases x with
 |none=>cases h
 |some y=>rfl
def RW (P:Program) (N:Nat) (ops:Array Oper) (i:Nat) (E:St) (Q:Exit->St->Prop):Prop:=GL P N ops (ops.toList.drop i) E Q
def SW (P:Program) (N:Nat) (ops:Array Oper) (m i:Nat) (E:St) (K:St->Prop):Prop:=FK P N ops ((ops.toList.take m).drop i) E K
theorem bd {r:β} {x:Option α} {k:α->Option β} (h:x.bind k=some r) (hk:∀a,x=some a->k a=some r->G):G:=by
 obtain⟨a,ha,h⟩:=Ah.1 h;exact hk a ha h
theorem RW.nil (h:Q .normal E) (hi:Nat.ble ops.size i=true:=by kernel_rfl):RW P N ops i E Q:=by
 have:ops.size<=i:=by simpa[Q5]using hi
 unfold RW;rw[ER<|by simpa using this];exact GL.nil h
theorem Br {mv:Bool} (hs:Ct P N mv E (oA ops i)=some E') (h:RW P N ops (i+1) E' Q) (hk:Sf P ops E i=true:=by kernel_rfl):RW P N ops i E Q:=by
 obtain⟨h1,h2⟩:=H1 hk;unfold RW;rw[G4 h1];exact GL.op mv h2 hs h
theorem RW.st {mv:Bool} (hs:AAX P N ops mv E i=some E') (h:RW P N ops (i+1) E' Q):RW P N ops i E Q:=by
 unfold AAX at hs
 cases hi:Nat.blt i ops.size with
 |false=>grind
 |true=>
  rw[hi]at hs;unfold RW;rw[G4 hi];split at hs
  ·rename_i hg;exact GL.op mv hg hs h
  ·rename_i hg
   cases hd:G3 N (oA ops i)with
   |false=>grind
   |true=>
    rw[hd]at hs
    injection hs with hs
    subst hs;obtain⟨d,h1,_,h2⟩:=EO hd;rw[h1]at h;exact ACH h1 h2 hg h
  cases hs
section
variable {m:Nat}
theorem RW.run:∀{k m i:Nat} {E E':St},Se P N ops k m i E=some E'->RW P N ops (i+k) E' Q->RW P N ops i E Q
 |0,m,i,E,E',h,hw=>by
  simp only[Se]at h
  grind
 |k+1,m,i,E,E',h,hw=>by
  simp only[Se]at h;split at h
  ·rename_i E1 h1;exact RW.st h1 (RW.run h (by grind))
  cases h
end
theorem AAv (k m:Nat) (h:RW P N ops (i+k) (PZ P N ops k m i E) Q) (hk:(Se P N ops k m i E).isSome=true:=by kernel_rfl):RW P N ops i E Q:=RW.run (getD_some hk) h
def qok (P:Program) (N:Nat) (ops:Array Oper) (i:Nat) (E:St):Bool:=Sf P ops E i&&pk (oA ops i)&&G3 N (oA ops i)
theorem tS (h:qok P N ops i E=true):Sf P ops E i=true/\pk (oA ops i)=true/\∃d,(oA ops i).dst=some d/\Nat.blt d N=true/\d<N:=by
 simp only[qok,Ag]at h;exact⟨h.1.1,h.1.2,EO h.2⟩
theorem AFe {s:SV} (hp:AU P E (oA ops i)=some s) (h:RW P N ops (i+1) (E.put (oA ops i).dst s) Q) (hk:qok P N ops i E=true:=by kernel_rfl):RW P N ops i E Q:=by
 obtain⟨h1,h2,d,h3,h4,_⟩:=tS hk;rw[h3]at h;exact Br (wI hp h3 h4 h2) h h1
theorem AF3 {r:β} {b:Bool} (t:Nat) (h:(bif b then tx else ty)=some r) (ht:tx=some r->RW P N ops i (E.rs t true) Q) (hf:ty=some r->RW P N ops i (E.rs t false) Q) (hc:E.slots t=B b:=by kernel_rfl):RW P N ops i E Q:=AFj h t ht hf hc
section
variable {m:Nat}
theorem RF (h:Nat.blt i ops.size=true) (hm:Nat.blt i m=true):(ops.toList.take m).drop i=oA ops i::(ops.toList.take m).drop (i+1):=by
 have hi:i<ops.size:=by simpa[B3]using h
 have a:i<m:=by simpa[B3]using hm
 have hl:i<(ops.toList.take m).length:=by simp;omega
 have h1:=Jd h;rw[AE hl]
 grind
end
section
variable {m:Nat}
theorem SW.nil (h:K E) (hi:(Nat.ble ops.size i||Nat.ble m i)=true:=by kernel_rfl):SW P N ops m i E K:=by
 unfold SW
 rw[ER (by
  rw[CU]at hi
  rcases hi with hi|hi
  ·have:ops.size<=i:=by simpa[Q5]using hi
   simp;omega
  have:m<=i:=by simpa[Q5]using hi
  simp;omega)]
 exact FK.nil h
end
def tC (P:Program) (N:Nat) (ops:Array Oper) (m:Nat) (E:St) (i:Nat):Option St:=bif Nat.blt i ops.size&&Nat.blt i m&&G3 N (oA ops i)then
  match By P ops E (oA ops i)with
  |some true=>match JR P E (oA ops i)with
   |some s=>some<|E.put (oA ops i).dst s
   |none=>none
  |some false=>some<|E.put (oA ops i).dst<|.tup []
  |none=>none else none
def gR (P:Program) (N:Nat) (ops:Array Oper) (m:Nat):Nat->Nat->St->Option St
 |0,_,E=>some E
 |k+1,i,E=>match tC P N ops m E i with
  |some E'=>gR P N ops m k (i+1) E'
  |none=>none
theorem SW.st {m:Nat} (hs:tC P N ops m E i=some E') (h:SW P N ops m (i+1) E' K):SW P N ops m i E K:=by
 unfold tC at hs
 cases hb:(Nat.blt i ops.size&&Nat.blt i m&&G3 N (oA ops i))with
 |false=>grind
 |true=>
  rw[hb]at hs;simp only[Ag]at hb;obtain⟨d,h1,_,h2⟩:=EO hb.2;unfold SW;rw[RF hb.1.1 hb.1.2];split at hs
  ·rename_i hg;split at hs
   ·rename_i s a
    injection hs with hs
    subst hs;rw[h1]at h;exact FK.op s hg h1 h2 a h
   cases hs
  ·rename_i hg
   injection hs with hs
   subst hs;rw[h1]at h;exact ACD h1 h2 hg h
  cases hs
theorem SW.run {m:Nat}:∀{k i:Nat} {E E':St},gR P N ops m k i E=some E'->SW P N ops m (i+k) E' K->SW P N ops m i E K
 |0,i,E,E',h,hw=>by
  simp only[gR]at h
  grind
 |k+1,i,E,E',h,hw=>by
  simp only[gR]at h;split at h
  ·rename_i E1 h1;exact SW.st h1 (SW.run h (by grind))
  cases h
theorem Cn {m:Nat} (k:Nat) (h:SW P N ops m (i+k) ((gR P N ops m k i E).getD E) K) (hk:(gR P N ops m k i E).isSome=true:=by kernel_rfl):SW P N ops m i E K:=SW.run (getD_some hk) h
theorem Bp {m:Nat} {s:SV} (hp:AU P E (oA ops i)=some s) (h:SW P N ops m (i+1) (E.put (oA ops i).dst s) K) (hk:(qok P N ops i E&&Nat.blt i m)=true:=by kernel_rfl):SW P N ops m i E K:=by
 rw[Ag]at hk;obtain⟨h1,h2,d,h3,h4,h5⟩:=tS hk.1;obtain⟨h6,h7⟩:=H1 h1;rw[h3]at h;unfold SW;rw[RF h6 hk.2];exact FK.op s h7 h3 h5 (wK hp h2) h
theorem UO {m:Nat} {r:β} {b:Bool} (t:Nat) (h:(bif b then tx else ty)=some r) (ht:tx=some r->SW P N ops m i (E.rs t true) K) (hf:ty=some r->SW P N ops m i (E.rs t false) K) (hc:E.slots t=B b:=by kernel_rfl):SW P N ops m i E K:=AFa h t ht hf hc
def lsd (n:Nat):List Nat->Array Bool
 |[]=>Array.replicate n false
 |i::l=>(lsd n l).setIfInBounds i true
def KW (P:Program) (N:Nat) (ops:Array Oper) (ts:List Nat) (dn:List Nat) (E:St) (Q:Exit->St->Prop):Prop:=YP P N ops ts (ops.size-dn.length) (lsd ops.size dn) E Q
def KB (P:Program) (N:Nat) (ops:Array Oper) (ts:List Nat) (dn:List Nat) (i:Nat) (E:St) (Q:Exit->St->Prop):Prop:=j8 P N ops ts i E (λE'=>KW P N ops ts (i::dn) E' Q) Q
theorem KW.done {ts:List Nat} (h:Q .normal E) (hr:(Region.ready .any ops (lsd ops.size dn)).isEmpty=true:=by kernel_rfl):KW P N ops ts dn E Q:=YP.done h<|by simpa using hr
def rdy (ops:Array Oper) (dn l:List Nat):Bool:=(Region.ready .any ops (lsd ops.size dn)==l)&&Nat.blt dn.length ops.size
theorem W7 (h:Nat.blt dn.length ops.size=true):ops.size-dn.length=(ops.size-(i::dn).length)+1:=by
 have:dn.length<ops.size:=by simpa[B3]using h
 grind
theorem KW.all {ts:List Nat} (l:List Nat) (h:∀i∈l,KB P N ops ts dn i E Q) (a:l≠ []) (hr:rdy ops dn l=true):KW P N ops ts dn E Q:=by
 simp only[rdy,Ag,CK]at hr;unfold KW;rw[W7 (i:=0) hr.2];exact YP.all l (λi hi=>h i hi) hr.1 a
theorem AB {ts:List Nat} (i:Nat) (h:KB P N ops ts dn i E Q) (hr:rdy ops dn [i]=true:=by kernel_rfl):KW P N ops ts dn E Q:=KW.all [i] (λj hj=>by grind) (by simp) hr
theorem Cz {ts:List Nat} (i j:Nat) (h:KB P N ops ts dn i E Q) (h2:KB P N ops ts dn j E Q) (hr:rdy ops dn [i,j]=true:=by kernel_rfl):KW P N ops ts dn E Q:=KW.all [i,j] (λm hm=>by grind) (by simp) hr
theorem AED {ts:List Nat} (i j k:Nat) (h:KB P N ops ts dn i E Q) (h2:KB P N ops ts dn j E Q) (h3:KB P N ops ts dn k E Q) (hr:rdy ops dn [i,j,k]=true:=by kernel_rfl):KW P N ops ts dn E Q:=KW.all [i,j,k] (λm hm=>by grind) (by simp) hr
theorem DL {ts:List Nat} {mv:Bool} (hs:Ct P N mv E (oA ops i)=some E') (h:KW P N ops ts (i::dn) E' Q) (hk:(Sf P ops E i&&(kp (oA ops i)||ts.contains i))=true:=by kernel_rfl):KB P N ops ts dn i E Q:=by
 rw[Ag]at hk;obtain⟨h1,h2⟩:=H1 hk.1;exact j8.op i mv h hs (Jd h1) h2 hk.2
theorem Q6 {ts:List Nat} {s:SV} (hp:AU P E (oA ops i)=some s) (h:KW P N ops ts (i::dn) (E.put (oA ops i).dst s) Q) (hk:(qok P N ops i E&&(kp (oA ops i)||ts.contains i))=true:=by kernel_rfl):KB P N ops ts dn i E Q:=by
 rw[Ag]at hk;obtain⟨h1,h2,d,h3,h4,h5⟩:=tS hk.1;rw[h3]at h;exact DL (wI hp h3 h4 h2) h (by rw[h1,hk.2];rfl)
def sZ (ops:Array Oper) (ts dn:List Nat) (i:Nat):Bool:=Nat.blt dn.length ops.size&&Ue ops ts ops.size i (lsd ops.size dn)
theorem AFp {ts:List Nat} {s:SV} (i:Nat) (hp:JR P E (oA ops i)=some s) (h:KW P N ops ts (i::dn) (E.put (oA ops i).dst s) Q) (hk:(Sf P ops E i&&G3 N (oA ops i)&&sZ ops ts dn i)=true):KW P N ops ts dn E Q:=by
 simp only[Ag,sZ]at hk;obtain⟨⟨h1,h2⟩,h3,h4⟩:=hk;obtain⟨h5,h6⟩:=H1 h1;obtain⟨d,h7,h8,_⟩:=EO h2;unfold KW at h⊢;rw[W7 (i:=i) h3];rw[h7]at h;exact YP.take ops.size i d s h hp (Jd h5) h4 h6 h7 h8
theorem AGN {ts:List Nat} {s:SV} (i:Nat) (hp:AU P E (oA ops i)=some s) (h:KW P N ops ts (i::dn) (E.put (oA ops i).dst s) Q) (hk:(qok P N ops i E&&sZ ops ts dn i)=true:=by kernel_rfl):KW P N ops ts dn E Q:=by
 rw[Ag]at hk;have h0:=hk.1;simp only[qok,Ag]at h0;exact AFp i (wK hp h0.1.2) h<|by grind
theorem AF9 {ts:List Nat} (i:Nat) (h:KW P N ops ts (i::dn) (E.put (oA ops i).dst (.tup [])) Q) (hg:By P ops E (oA ops i)=some false) (hk:(Nat.blt i ops.size&&G3 N (oA ops i)&&sZ ops ts dn i)=true):KW P N ops ts dn E Q:=by
 simp only[Ag,sZ]at hk;obtain⟨⟨h1,h2⟩,h3,h4⟩:=hk;obtain⟨d,h7,h8,_⟩:=EO h2;unfold KW at h⊢;rw[W7 (i:=i) h3];rw[h7]at h;exact nZ ops.size i d h (Jd h1) h4 hg h7 h8
def ABV (P:Program) (N:Nat) (ops:Array Oper) (ts:List Nat) (mv:Bool) (dn:List Nat) (E:St) (i:Nat):Option St:=match By P ops E (oA ops i)with
 |some false=>bif Nat.blt i ops.size&&G3 N (oA ops i)&&sZ ops ts dn i then some (E.put (oA ops i).dst<|.tup [])else none
 |some true=>bif Nat.blt i ops.size&&G3 N (oA ops i)&&sZ ops ts dn i&&!mv then
   (match JR P E (oA ops i)with
   |some s=>some<|E.put (oA ops i).dst s
   |none=>bif rdy ops dn [i]&&(kp (oA ops i)||ts.contains i)then Ct P N mv E (oA ops i)else none) else bif Nat.blt i ops.size&&rdy ops dn [i]&&(kp (oA ops i)||ts.contains i)then Ct P N mv E (oA ops i)else none
 |none=>none
section
variable {m:Nat}
def ABW (P:Program) (N:Nat) (ops:Array Oper) (ts:List Nat):List Nat->Nat->List Nat->St->Option St
 |[],_,_,E=>some E
 |i::l,m,dn,E=>match ABV P N ops ts (Nat.beq (m %2) 1) dn E i with
  |some E'=>ABW P N ops ts l (m/2) (i::dn) E'
  |none=>none
end
def lP:List Nat->List Nat->List Nat
 |[],dn=>dn
 |i::l,dn=>lP l (i::dn)
section
variable {ts:List Nat}
theorem KW.st {mv:Bool} (hs:ABV P N ops ts mv dn E i=some E') (h:KW P N ops ts (i::dn) E' Q):KW P N ops ts dn E Q:=by
 unfold ABV at hs;split at hs
 ·rename_i hg
  cases hb:(Nat.blt i ops.size&&G3 N (oA ops i)&&sZ ops ts dn i)with
  |false=>grind
  |true=>
   rw[hb]at hs
   injection hs with hs
   subst hs;exact AF9 i h hg hb
 ·rename_i hg;have one:(Nat.blt i ops.size&&rdy ops dn [i]&&(kp (oA ops i)||ts.contains i))=true->Ct P N mv E (oA ops i)=some E'->KW P N ops ts dn E Q:=by
   intro hb hs;simp only[Ag]at hb;refine AB i (DL hs h ?_) hb.1.2;simp only[Sf,hb.1.1,hg,hb.2,Xa]
  cases hb:(Nat.blt i ops.size&&G3 N (oA ops i)&&sZ ops ts dn i&&!mv)with
  |false=>grind
  |true=>
   rw[hb]at hs;simp only[Ag]at hb;split at hs
   ·rename_i s a
    injection hs with hs
    subst hs;refine AFp i a h ?_;simp only[Sf,hb.1.1.1,hb.1.1.2,hb.1.2,hg,Xa]
   grind
 cases hs
end
section
variable {m:Nat} {ts:List Nat}
theorem KW.run:∀{l:List Nat} {m:Nat} {dn:List Nat} {E E':St},ABW P N ops ts l m dn E=some E'->KW P N ops ts (lP l dn) E' Q->KW P N ops ts dn E Q
 |[],m,dn,E,E',h,hw=>by
  injection h with h
  subst h;exact hw
 |i::l,m,dn,E,E',h,hw=>by
  simp only[ABW]at h;split at h
  ·rename_i E1 h1;exact KW.st h1 (KW.run h hw)
  cases h
end
theorem A8 {ts:List Nat} (l:List Nat) (m:Nat) (h:KW P N ops ts (lP l dn) ((ABW P N ops ts l m dn E).getD E) Q) (hk:(ABW P N ops ts l m dn E).isSome=true:=by kernel_rfl):KW P N ops ts dn E Q:=KW.run (getD_some hk) h
theorem OL {r:β} {ts:List Nat} {b:Bool} (t:Nat) (h:(bif b then tx else ty)=some r) (ht:tx=some r->KW P N ops ts dn (E.rs t true) Q) (hf:ty=some r->KW P N ops ts dn (E.rs t false) Q) (hc:E.slots t=B b:=by kernel_rfl):KW P N ops ts dn E Q:=AFo h t ht hf hc
theorem AEB {id:Nat} (h:RW P N ops 0 E Q):Wp P N (.region id ops false) E Q:=by
 have:=Wp.region (id:=id) (l:=ops.toList) (P:=P) (N:=N) (E:=E) (Q:=Q) (by simpa[RW]using h);simpa using this
theorem IR {id:Nat} (hm:P.follows .mixedOrders=true) (h:SW P N ops ops.size 0 E (λE'=>Q .normal E')) (hB:Region.lexB .any ops=true:=by kernel_rfl):Wp P N (.region id ops true) E Q:=by
 have:=RO (id:=id) (l:=ops.toList) (P:=P) (N:=N) (E:=E) (Q:=Q) hm (by simpa using hB) (by
  have h2:=h;unfold SW at h2;rw[AK<|by simp]at h2
  simpa using h2)
 simpa using this
theorem Ls {id:Nat} (n:Nat) (hm:P.follows .mixedOrders=true) (h:SW P N ops n 0 E (λE'=>RW P N ops n E' Q)) (hB:Region.lexTailB .any ops n=true:=by kernel_rfl):Wp P N (.region id ops true) E Q:=by
 have:=vD (id:=id) (l:=ops.toList) (P:=P) (N:=N) (E:=E) (Q:=Q) n hm (by simpa using hB) (by simpa[SW,RW]using h);simpa using this
theorem Cd {id:Nat} (ts:List Nat) (hm:P.follows .mixedOrders=true) (hQ:∀c E,Q (.panic c) E->False) (h:KW P N ops ts [] E Q):Wp P N (.region id ops true) E Q:=
 vE ops.size ts hm hQ (by simpa[KW,lsd]using h) rfl
def iA (E:St) (x:Operand) (sz:Nat):Option (List TV):=match E.ref x with
 |some (r,q,j)=>match E.place r q j with
  |some (.sl _ _ s cells)=>bif Nat.beq s sz then some cells else none
  |_=>none
 |none=>none
theorem QT {x:Operand} {a:List TV} (h:iA E x sz=some a):∃r q j b e,E.ref x=some (r,q,j)/\E.place r q j=some (.sl b e sz a):=by
 unfold iA at h;split at h
 ·split at h
  ·rename_i b e s cells' hp
   cases hs:Nat.beq s sz with
   |false=>rw[hs]at h;cases h
   |true=>
    rw[hs]at h;have:=AY hs
    grind
  cases h
 cases h
def YZ (P:Program) (t:TypeId):TypeId:=match P.underlying t with
 |some (.slice e)=>e
 |_=>0
def Xl (P:Program) (t:TypeId) (sz:Nat):Bool:=match P.underlying t with
 |some (.slice e)=>Nat.beq (P.cellsOf e) sz&&Nat.blt 0 sz
 |_=>false
theorem Mr {t:TypeId} (h:Xl P t sz=true):∃e,P.underlying t=some (.slice e)/\P.cellsOf e=sz/\Nat.blt 0 sz=true:=by
 unfold Xl at h;split at h
 ·rename_i e he;rw[Ag]at h;exact⟨e,he,AY h.1,h.2⟩
 cases h
def HE (E:St) (x:Operand):Root×List Nat×Nat:=(E.ptr? x).getD (.hand,[],0)
def L0 (E:St) (x:Operand):Root×List Nat×Nat:=(E.ref x).getD (.hand,[],0)
def SE (E:St) (x:Operand):Option (List TV×Nat):=match E.ptr? x with
 |some (r,q,j)=>match(E.root r).bind λcs=>BB cs q with
  |some row=>some (row,j)
  |none=>none
 |none=>none
theorem SD {x:Operand} {a:List TV} (h:SE E x=some (a,j)):E.ptr? x=some ((HE E x).1,(HE E x).2.1,j)/\(E.root (HE E x).1).bind (λcs=>BB cs (HE E x).2.1)=some a:=by
 unfold SE at h;split at h
 ·rename_i r q j' hp;split at h
  ·injection h with h
   injection h with h1 h2
   subst h1 h2;simp only[HE,hp,Bc]
   grind
  cases h
 cases h
theorem zK {x:Operand} {r:Root} {q:List Nat} {a:List TV} (h1:E.ptr? x=some (r,q,j)) (h2:(E.root r).bind (λcs=>BB cs q)=some a):SE E x=some (a,j):=by
 unfold SE
 grind
def FN (o:Oper):TypeId×Operand×Operand:=match o.op with
 | .indexAddr t a i=>(t,a,i)
 |_=>(0,.tmp 0,.tmp 0)
def zZ (o:Oper):Bool:=match o.op with
 | .indexAddr .. =>true
 |_=>false
theorem mH {o:Oper} (h:zZ o=true):o.op= .indexAddr (FN o).1 (FN o).2.1 (FN o).2.2:=by
 unfold zZ at h;unfold FN
 grind
def UF (P:Program) (E:St) (x:Operand):Option Int:=match E.cell1 P 0 x with
 |some (.int _ n)=>some n
 |_=>none
theorem IB {x:Operand} (h:UF P E x=some n):∃k,E.cell1 P 0 x=some (.int k n):=by
 unfold UF at h
 grind
def ABZ (P:Program) (E:St) (o:Oper) (sz:Nat):Option (List TV×Int):=bif zZ o&&Xl P (FN o).1 sz then(match iA E (FN o).2.1 sz,UF P E (FN o).2.2 with
 |some c,some n=>some (c,n)
 |_,_=>none)else none
def qH (E:St) (o:Oper) (m:Nat):SV:= .one (.ptr (L0 E (FN o).2.1).1 (E.ver (L0 E (FN o).2.1).1) ((L0 E (FN o).2.1).2.1++ [(L0 E (FN o).2.1).2.2]) m)
theorem Hg {o:Oper} (hf:∀x,(f x).length=sz) (hx:gi l n=some x) (hc:ABZ P E o sz=some (A9 f l,n):=by kernel_rfl):AU P E o=some (qH E o<|n.toNat*sz+0):=by
 unfold ABZ at hc
 cases hb:(zZ o&&Xl P (FN o).1 sz)with
 |false=>grind
 |true=>
  rw[hb]at hc;rw[Ag]at hb;split at hc
  ·rename_i c n' h1 h2
   injection hc with hc
   injection hc with a b
   subst a b;obtain⟨r,q,j,d,e',h3,h4⟩:=QT h1;obtain⟨k,h5⟩:=IB h2;obtain⟨e,h6,h7,h8⟩:=Mr hb.2;have:=AFI hf r q j hx h4 (mH hb.1) h6 h5 h3 h7 h8;rw[this];simp only[qH,L0,h3,Bc]
  cases hc
section
variable {o:Oper}
theorem lS (hf:∀x,(f x).length=sz) (hx:gi l n=some x) (hf':∀x,(f' x).length=sz') (hx':gi l' n'=some x') (k:Nat) (hi:(zZ o&&Xl P (FN o).1 sz&&Nat.blt k sz')=true:=by kernel_rfl) (hn:UF P E (FN o).2.2=some n:=by kernel_rfl) (hr:E.ref (FN o).2.1=some ((L0 E (FN o).2.1).1,(L0 E (FN o).2.1).2.1,n'.toNat*sz'+k):=by kernel_rfl) (hp:(E.root (L0 E (FN o).2.1).1).bind (λcs=>BB cs (L0 E (FN o).2.1).2.1)=some (A9 f' l'):=by kernel_rfl) {a:Bool} (hc:(f' x')[k]?=some (.sl a e' sz<|A9 f l):=by rfl):AU P E o=some (qH E o<|n.toNat*sz+0):=by
 simp only[Ag]at hi;obtain⟨k',h5⟩:=IB hn;obtain⟨e,h6,h7,h8⟩:=Mr hi.1.2;have b:E.place (L0 E (FN o).2.1).1 (L0 E (FN o).2.1).2.1 (n'.toNat*sz'+k)=some (.sl a e' sz<|A9 f l):=by
  obtain⟨cs,h1,h2⟩:=Ah.1 hp;simp only[St.place,h1,Aa,h2];rw[P4 hf' hx' (by grind),hc]
 have:=AFI hf _ _ _ hx b (mH hi.1.1) h6 h5 hr h7 h8;have hj:(L0 E (FN o).2.1).2.2=n'.toNat*sz'+k:=BM (λz:Option (Root×List Nat×Nat)=>(z.getD (Root.hand,[],0)).2.2) hr;rw[this,qH,hj]
end
theorem pr2 {a:Operand} {b:List TV} (q0:Nat) (hf':∀x,(f' x).length=sz') (hx':gi l' n'=some x') (k:Nat) (h1:E.ptr? a=some ((HE E a).1,[q0,n'.toNat*sz'+k],j):=by kernel_rfl) (hc:(E.root (HE E a).1).bind (λcs=>BB cs [q0])=some (A9 f' l'):=by kernel_rfl) (c:BB (f' x') [k]=some b:=by kernel_rfl) (hk:Nat.blt k sz'=true:=by kernel_rfl):SE E a=some (b,j):=by
 refine zK h1 ?_;obtain⟨cs,h2,h3⟩:=Ah.1 hc;have h4:=yQ hf' hx' (q:=[]) (show k<sz' by simpa[B3]using hk);rw[h2];simp only[BB]at h3;split at h3
 ·rename_i o' e' s' d e
  injection h3 with h3
  subst h3;simp only[BB,e];simp only[BB]at h4 c
  grind
 cases h3
def Tk (o:Oper):TypeId×Operand×Nat:=match o.op with
 | .fieldAddr t a i=>(t,a,i)
 |_=>(0,.tmp 0,0)
def AE1 (o:Oper):Bool:=match o.op with
 | .fieldAddr .. =>true
 |_=>false
theorem ADC {o:Oper} (h:AE1 o=true):o.op= .fieldAddr (Tk o).1 (Tk o).2.1 (Tk o).2.2:=by
 unfold AE1 at h;unfold Tk
 grind
def AEs (P:Program) (o:Oper):Option Nat:=match P.underlying (Tk o).1 with
 |some (.struct fs)=>match fs[(Tk o).2.2]? with
  |some fd=>bif Nat.beq (P.cellsOf fd.type) 0 then none else some fd.offset
  |none=>none
 |_=>none
def AFW (E:St) (o:Oper) (m:Nat):SV:= .one (.ptr (HE E (Tk o).2.1).1 (E.stamp (HE E (Tk o).2.1).1 (HE E (Tk o).2.1).2.1) (HE E (Tk o).2.1).2.1 m)
theorem CM {o:Oper} (hf:∀x,(f x).length=sz) (hx:gi l n=some x) (k m:Nat) (hr:SE E (Tk o).2.1=some (A9 f l,n.toNat*sz+k):=by kernel_rfl) (ho:(AE1 o&&Nat.blt m sz)=true:=by kernel_rfl) (a:AEs P o=some (m-k):=by kernel_rfl) (b:Nat.ble k m=true:=by kernel_rfl):AU P E o=some (AFW E o<|n.toNat*sz+m):=by
 rw[Ag]at ho;obtain⟨h1,h2⟩:=SD hr;have d:k<=m:=by simpa[Q5]using b
 unfold AEs at a;split at a
 ·rename_i fs hs;split at a
  ·rename_i fd c
   cases hb:Nat.beq (P.cellsOf fd.type) 0 with
   |true=>grind
   |false=>
    rw[hb]at a
    injection a with a
    have hm:k+fd.offset=m:=by omega
    exact AGA hf _ _ k hx h2 (ADC ho.1) hs h1 c hb hm (by rw[hm];exact ho.2)
  cases a
 cases a
def Pt (o:Oper):TypeId×Operand:=match o.op with
 | .load t a=>(t,a)
 |_=>(0,.tmp 0)
def ADB (o:Oper):Bool:=match o.op with
 | .load .. =>true
 |_=>false
theorem yF {o:Oper} (h:ADB o=true):o.op= .load (Pt o).1 (Pt o).2:=by
 unfold ADB at h;unfold Pt
 grind
def AEo (P:Program) (o:Oper) (k sz:Nat):Bool:=ADB o&&!fX P (Pt o).1&&Nat.beq (P.cellsOf (Pt o).1) 1&&(P.underlying (Pt o).1).isSome&&Nat.blt k sz
def AEp (P:Program) (o:Oper) (k m sz:Nat):Bool:=ADB o&&fX P (Pt o).1&&Nat.beq (P.cellsOf (Pt o).1) m&&Nat.ble (k+m) sz
def ldC (E:St) (o:Oper) (j:Nat) (u:TV):SV:= .one (see E (HE E (Pt o).2).1 (HE E (Pt o).2).2.1 j u)
def ldA (E:St) (o:Oper) (j:Nat) (us:List TV):SV:= .agg (Wa E (HE E (Pt o).2).1 (HE E (Pt o).2).2.1 j us)
theorem Ck {o:Oper} (hf:∀x,(f x).length=sz) (hx:gi l n=some x) (k:Nat) (hr:SE E (Pt o).2=some (A9 f l,n.toNat*sz+k):=by kernel_rfl) (ho:AEo P o k sz=true:=by kernel_rfl):AU P E o=some (ldC E o (n.toNat*sz+k)<|((f x)[k]?).getD .junk):=by
 simp only[AEo,Ag,CI]at ho;obtain⟨⟨⟨⟨h3,h4⟩,h5⟩,h6⟩,h7⟩:=ho;obtain⟨h1,h2⟩:=SD hr;have hk:k<(f x).length:=by rw[hf];simpa[B3]using h7
 refine AGz hf _ _ k _ hx h2 (yF h3) h1 h4 (AY h5) h6 h7 ?_
 grind
theorem Hh {o:Oper} (hf:∀x,(f x).length=sz) (hx:gi l n=some x) (k m:Nat) (hr:SE E (Pt o).2=some (A9 f l,n.toNat*sz+k):=by kernel_rfl) (ho:AEp P o k m sz=true:=by kernel_rfl):AU P E o=some (ldA E o (n.toNat*sz+k)<|((f x).drop k).take m):=by
 simp only[AEp,Ag]at ho;obtain⟨⟨⟨h3,h4⟩,h5⟩,h6⟩:=ho;obtain⟨h1,h2⟩:=SD hr;exact AGy hf _ _ k m hx h2 (yF h3) h1 h4 (AY h5) h6
def Qh (o:Oper):TypeId×Operand:=match o.op with
 | .call c=>match c.callee,c.args.toList,c.argTypes.toList with
  | .builtin .len,[x],[t]=>(t,x)
  |_,_,_=>(0,.tmp 0)
 |_=>(0,.tmp 0)
def ADA (o:Oper):Bool:=match o.op with
 | .call c=>match c.callee,c.args.toList,c.argTypes.toList with
  | .builtin .len,[x],[t]=>true
  |_,_,_=>false
 |_=>false
theorem yE {o:Oper} (h:ADA o=true):o.op= .call {callee:= .builtin .len,args:= #[(Qh o).2],argTypes:= #[(Qh o).1]}:=by
 unfold ADA at h;unfold Qh;split at h
 ·rename_i c hc;split at h
  ·rename_i x t h1 h2 h3;obtain⟨callee,args,types⟩:=c;subst h1;obtain rfl:args= #[x]:=by cases args;simp_all
   obtain rfl:types= #[t]:=by cases types;simp_all
   rw[hc]
  cases h
 cases h
theorem BS {o:Oper} (hf:∀x,(f x).length=sz) (l:List α) (hr:iA E (Qh o).2 sz=some (A9 f l):=by kernel_rfl) (ho:(ADA o&&Xl P (Qh o).1 sz)=true:=by kernel_rfl):AU P E o=some (.one<|.int .i64<|ln l):=by
 rw[Ag]at ho;obtain⟨r,q,j,a,e',h3,h4⟩:=QT hr;obtain⟨e,h6,h7,h8⟩:=Mr ho.2;exact AFH hf l (yE ho.1) h6 h3 h4 h8
section
variable {o:Oper}
theorem ABs (hf:∀x,(f x).length=sz) (l:List α) (hf':∀x,(f' x).length=sz') (hx':gi l' n'=some x') (k:Nat) (ho:(ADA o&&Xl P (Qh o).1 sz&&Nat.blt k sz')=true:=by kernel_rfl) (hr:E.ref (Qh o).2=some ((L0 E (Qh o).2).1,(L0 E (Qh o).2).2.1,n'.toNat*sz'+k):=by kernel_rfl) (hp:(E.root (L0 E (Qh o).2).1).bind (λcs=>BB cs (L0 E (Qh o).2).2.1)=some (A9 f' l'):=by kernel_rfl) {a:Bool} (hc:(f' x')[k]?=some (.sl a e' sz<|A9 f l):=by rfl):AU P E o=some (.one<|.int .i64<|ln l):=by
 simp only[Ag]at ho;obtain⟨e,h6,h7,h8⟩:=Mr ho.1.2;have b:E.place (L0 E (Qh o).2).1 (L0 E (Qh o).2).2.1 (n'.toNat*sz'+k)=some (.sl a e' sz<|A9 f l):=by
  obtain⟨cs,h1,h2⟩:=Ah.1 hp;simp only[St.place,h1,Aa,h2];rw[P4 hf' hx' (by grind),hc]
 exact AFH hf l (yE ho.1.1) h6 hr b h8
end
def Ya (P:Program) (E:St) (t:TypeId) (x:Operand):Option ByteArray:=match E.cell1 P t x with
 |some (.str s)=>some s
 |_=>none
theorem L9 {x:Operand} {t:TypeId} {s:ByteArray} (h:Ya P E t x=some s):E.cell1 P t x=some (.str s):=by
 unfold Ya at h
 grind
def i8 (P:Program) (t:TypeId):Bool:=match P.underlying t with
 |some .string=>true
 |_=>false
theorem W9 {t:TypeId} (h:i8 P t=true):P.underlying t=some .string:=by
 unfold i8 at h
 grind
def AEd (P:Program) (E:St) (o:Oper):Option (ByteArray×Int):=match o.op with
 | .index t a i=>match i8 P t,Ya P E t a,UF P E i with
  |true,some s,some n=>some (s,n)
  |_,_,_=>none
 |_=>none
theorem e7 {o:Oper} {s:ByteArray} {n b:Int} (h:sx s n=some b) (hc:AEd P E o=some (s,n):=by kernel_rfl):AU P E o=some (.one<|.int .u8 b):=by
 unfold AEd at hc;split at hc
 ·rename_i t a i ho;split at hc
  ·rename_i s' n' h1 h2 h3
   injection hc with hc
   injection hc with c d
   subst c d;obtain⟨k,h3⟩:=IB h3;exact AGx h ho (W9 h1) (L9 h2) h3
  cases hc
 cases hc
def rF (P:Program) (E:St) (d:Int):Option Operand->Option Int
 |none=>some d
 |some x=>UF P E x
def AAV (P:Program) (E:St) (o:Oper):Option (ByteArray×Int×Int):=match o.op with
 | .slice t a lo hi none=>match i8 P t,Ya P E t a with
  |true,some s=>match rF P E 0 lo,rF P E (s.size:Nat) hi with
   |some l,some h=>some (s,l,h)
   |_,_=>none
  |_,_=>none
 |_=>none
section
variable {o:Oper}
theorem RB {d:Int} {x:Option Operand} (h:rF P E d x=some n):∃k,(match x with|some o=>E.cell1 P 0 o|none=>some (.int .i64 d))=some (.int k n):=by
 cases x with
 |none=>
  injection h with h
  exact⟨.i64,by rw[h]⟩
 |some x=>exact IB h
end
theorem QY {o:Oper} {s u:ByteArray} {l h:Int} (hx:sub s l h=some u) (hc:AAV P E o=some (s,l,h):=by kernel_rfl):AU P E o=some (.one<|.str u):=by
 unfold AAV at hc;split at hc
 ·rename_i t a lo hi ho;split at hc
  ·rename_i s' h1 h2;split at hc
   ·rename_i l' h' h3 h4
    injection hc with hc
    injection hc with c b
    injection b with b d
    subst c b d;obtain⟨k1,h3⟩:=RB h3;obtain⟨k2,h4⟩:=RB h4;exact AFF hx ho (W9 h1) (L9 h2) h3 h4
   cases hc
  cases hc
 cases hc
def ACp (P:Program) (E:St) (o:Oper):Option (ByteArray×ByteArray):=match o.op with
 | .binOp .add t x y _=>match Ya P E t x,Ya P E t y with
  |some a,some b=>some (a,b)
  |_,_=>none
 |_=>none
theorem EY {o:Oper} {a b u:ByteArray} (hx:Ih a b=some u) (hc:ACp P E o=some (a,b):=by kernel_rfl):AU P E o=some (.one<|.str u):=by
 unfold ACp at hc;split at hc
 ·rename_i t x y t' ho;split at hc
  ·rename_i a' b' h1 h2
   injection hc with hc
   injection hc with c d
   subst c d;exact AFK hx ho (L9 h1)<|L9 h2
  cases hc
 cases hc
def Sa (o:Oper):TypeId×TypeId×Operand:=match o.op with
 | .convert s d x=>(s,d,x)
 |_=>(0,0,.tmp 0)
def AFY (P:Program) (o:Oper):Bool:=match o.op with
 | .convert s d x=>(match P.underlying s,P.underlying d with
  |some (.slice e),some .string=>(match P.underlying e with
   |some (.int .u8)=>true
   |_=>false)
  |_,_=>false)
 |_=>false
theorem oC {o:Oper} {f:Int->List TV} (hf:∀n,f n=[.int .u8 n]) (l:List Int) (hr:iA E (Sa o).2.2 1=some (A9 f l):=by kernel_rfl) (ho:AFY P o=true:=by kernel_rfl):AU P E o=some (.one<|.str<|Ff l):=by
 obtain⟨r,q,j,b,e',h3,h4⟩:=QT hr;unfold AFY at ho;split at ho
 ·rename_i s d x a;split at ho
  ·rename_i e hs hd;split at ho
   ·rename_i he;simp only[Sa,a]at h3;exact AGC hf l a hs hd he h3 h4
   cases ho
  cases ho
 cases ho
def AA3 (P:Program) (E:St) (o:Oper) (k:IntKind):Option (Int×Int):=match o.op with
 | .binOp .shl t x y _=>match E.cell1 P t x,E.cell1 P t y with
  |some (.int k' a),some (.int _ b)=>bif decide (k'=k)then some (a,b)else none
  |_,_=>none
 |_=>none
theorem AGv {o:Oper} {a b v:Int} (hx:shl k a b=some v) (hc:AA3 P E o k=some (a,b):=by kernel_rfl):AU P E o=some (.one<|.int k v):=by
 unfold AA3 at hc;split at hc
 ·rename_i t x y t' ho;split at hc
  ·rename_i k' a' k2 b' h1 h2
   cases hk:decide (k'=k)with
   |false=>grind
   |true=>
    rw[hk]at hc
    injection hc with hc
    injection hc with hc1 hc2
    have:=K7 hk;subst hc1 hc2 this;exact AFG hx ho h1 h2
  cases hc
 cases hc
def Qx (o:Oper):TypeId×Operand×Option Operand×Option Operand:=match o.op with
 | .slice t x lo hi none=>(t,x,lo,hi)
 |_=>(0,.tmp 0,none,none)
def ADD (o:Oper):Bool:=match o.op with
 | .slice t x lo hi none=>true
 |_=>false
theorem yG {o:Oper} (h:ADD o=true):o.op= .slice (Qx o).1 (Qx o).2.1 (Qx o).2.2.1 (Qx o).2.2.2 none:=by
 unfold ADD at h;unfold Qx
 grind
def wP (E:St) (x:Operand) (sz:Nat):Option (Nat×List TV):=match E.ref x with
 |some (r,q,j)=>match E.place r q j with
  |some (.sl false e s cells)=>bif Nat.beq s sz then some (e,cells)else none
  |_=>none
 |none=>none
theorem aO {x:Operand} {a:List TV} {e:Nat} (h:wP E x sz=some (e,a)):∃r q j,E.ref x=some (r,q,j)/\E.place r q j=some (.sl false e sz a):=by
 unfold wP at h;split at h
 ·split at h
  ·rename_i e' s cells' hp
   cases hs:Nat.beq s sz with
   |false=>rw[hs]at h;cases h
   |true=>
    rw[hs]at h
    injection h with h
    have:=AY hs
    grind
  cases h
 cases h
theorem pdr {o:Oper} {v:List α} (hf:∀x,(f x).length=sz) {a b:Int} (e:Nat) (hx:dr l a b=some v) (hr:wP E (Qx o).2.1 sz=some (e,A9 f l):=by kernel_rfl) (ha:rF P E 0 (Qx o).2.2.1=some a:=by kernel_rfl) (hb:((Qx o).2.2.2.bind<|UF P E)=some b:=by kernel_rfl) (ho:(ADD o&&Xl P (Qx o).1 sz)=true:=by kernel_rfl):AU P E o=some (.one<|.sl false e sz<|A9 f v):=by
 rw[Ag]at ho;obtain⟨r,q,j,h1,h2⟩:=aO hr;obtain⟨e1,h6,h7,h8⟩:=Mr ho.2;obtain⟨k1,h3⟩:=RB ha;obtain⟨oh,h4,h5⟩:=Ah.1 hb;obtain⟨k2,h5⟩:=IB h5;have:=yG ho.1;rw[h4]at this;exact AGB hf hx this h6 h1 h2 h3 h5 h7 h8
theorem ABt {o:Oper} {v:List α} (hf:∀x,(f x).length=sz) {a:Int} (e:Nat) (hx:dr l a (ln l)=some v) (hr:wP E (Qx o).2.1 sz=some (e,A9 f l):=by kernel_rfl) (ha:rF P E 0 (Qx o).2.2.1=some a:=by kernel_rfl) (ho:(ADD o&&Xl P (Qx o).1 sz&&(Qx o).2.2.2.isNone)=true:=by kernel_rfl):AU P E o=some (.one<|.sl false e sz<|A9 f v):=by
 simp only[Ag]at ho;obtain⟨r,q,j,h1,h2⟩:=aO hr;obtain⟨e1,h6,h7,h8⟩:=Mr ho.1.2;obtain⟨k1,h3⟩:=RB ha;have:=yG ho.1.1;rw[Option.isNone_iff_eq_none.1 ho.2]at this;exact AFJ hf hx this h6 h1 h2 h3 h7 h8
def AFz (P:Program) (E:St) (o:Oper) (m:Nat):Bool:=match P.underlying (FN o).1 with
 |some (.array len e)=>zZ o&&Nat.beq (P.cellsOf e) 1&&Nat.blt m len&&(match E.ptr? (FN o).2.1 with
  |some (r,q,j)=>(E.place r q<|j+m).isSome
  |none=>false)
 |_=>false
def AEb (E:St) (o:Oper) (m:Nat):SV:= .one (.ptr (HE E (FN o).2.1).1 (E.stamp (HE E (FN o).2.1).1 (HE E (FN o).2.1).2.1) (HE E (FN o).2.1).2.1<|(HE E (FN o).2.1).2.2+m)
theorem pxa {o:Oper} (m:Nat) (hn:n=(m:Int)) (hi:UF P E (FN o).2.2=some n:=by kernel_rfl) (ho:AFz P E o m=true:=by kernel_rfl):AU P E o=some (AEb E o m):=by
 unfold AFz at ho;split at ho
 ·rename_i len e ht;simp only[Ag]at ho;obtain⟨⟨⟨h1,h2⟩,h3⟩,h4⟩:=ho;obtain⟨k,hi⟩:=IB hi;split at h4
  ·rename_i r q j hp;have:=AGw r q j hn (mH h1) ht hi hp (AY h2) h3 h4;rw[this];simp only[AEb,HE,hp,Bc]
  cases h4
 cases ho
end Go.TI
