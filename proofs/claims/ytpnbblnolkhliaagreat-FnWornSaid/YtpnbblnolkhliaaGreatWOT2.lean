/- What walks of Go code need. No condition. -/
import Derived.Test.YtpnbblnolkhliaaGreatWOT1
import Derived.OrdersHeld
import Derived.Deep.Slices
import Derived.ChangeOld
import Derived.DataReads
import Derived.Lib.ReflectliteSwap
import Derived.Deep.Upon
import Derived.KernelRfl
set_option linter.unusedSimpArgs false
set_option linter.unusedVariables false
namespace Go.TI
open Go Go.RowKit
variable {E E':St} {P:Program} {N sz i j d fuel sz' by_ e':Nat} {α γ β S α':Type} {ops:Array Oper} {Q:Exit->St->Prop} {w w':World} {n n':Int} {K:St->Prop} {dn FA UA F U:List Nat} {rest:List Oper} {oo:Oper} {listed:Array Bool} {v:Value} {FS US:Root->List Nat} {k k2 k1:IntKind} {as:List AV} {fn:Func} {blk:Root->Nat} {md:Region.Mode} {o1 o2:Operand} {y:Code} {lo:Option Operand} {A' A:Sa} {sf:FuncId} {fs:Array Field} {fd:Field} {zs cs':List TV} {T:Nat->Bool} {G:Prop} {ss:List SV} {x:α} {f:α->List TV} {l:List α} {tx:Option β} {ty:Option β} {z:α} {Am:List γ->Sa} {lt:γ->γ->Bool} {f':α'->List TV} {l':List α'} {x':α'}
def A8 (f:α->List TV) (l:List α):List TV:=(l.map f).flatten
def gi (l:List α) (i:Int):Option α:=if 0<=i then l[i.toNat]? else none
def si (l:List α) (i:Int) (x:α):List α:=l.set i.toNat x
def ln (l:List α):Int:=(l.length:Nat)
theorem EM (hf:∀x,(f x).length=sz):∀l:List α,(A8 f l).length=l.length*sz
 |[]=>by simp[A8]
 |x::l=>by
  have:=EM hf l;simp only[A8,Cr,List.flatten_cons,Ak,AA,hf]at this⊢
  grind
theorem Hb (x:α) (l:List α):A8 f (x::l)=f x++A8 f l:=rfl
theorem Tg (l m:List α):A8 f (l++m)=A8 f l++A8 f m:=by simp[A8]
theorem TU {i:Int} (h:gi l i=some x):0<=i/\i.toNat<l.length/\l[i.toNat]?=some x:=by
 unfold gi at h
 grind
theorem K5 (hf:∀x,(f x).length=sz):∀(l:List α) (n:Nat),(A8 f l).drop (n*sz)=A8 f (l.drop n)
 |l,0=>by simp
 |[],n+1=>by simp[A8]
 |x::l,n+1=>by
  rw[Hb,List.drop_succ_cons,<-K5 hf l n,GJ,vN,<-CA,G4 (hf x)]
theorem ACa {i:Int} (hf:∀x,(f x).length=sz) (h:gi l i=some x):((A8 f l).drop (i.toNat*sz)).take sz=f x:=by
 obtain⟨_,h1,h2⟩:=TU h;rw[K5 hf,AI h1,Hb,List.take_left'<|hf _]
 grind
theorem Pv {i:Int} {k:Nat} (hf:∀x,(f x).length=sz) (h:gi l i=some x) (hk:k<sz):(A8 f l)[i.toNat*sz+k]?=(f x)[k]? :=by
 rw[<-ACa hf h,Hh,AH hk,JK]
theorem nB {i:Int} (hf:∀x,(f x).length=sz) (h:gi l i=some x):(i.toNat+1)*sz<=(A8 f l).length:=by
 rw[EM hf];exact BO _ (TU h).2.1
theorem Sp (hf:∀x,(f x).length=sz):∀(l:List α) (n:Nat) (y:List TV) (z:α) {k:Nat} {x:α},l[n]?=some x->k+y.length<=sz->setRow (f x) k y=f z->setRow (A8 f l) (n*sz+k) y=A8 f (l.set n z)
 |[],n,y,z,k,x,h,_,_=>by simp at h
 |x0::l,0,y,z,k,x,h,hk,he=>by
  simp at h;subst h;rw[NN,Hb,Hb,<-he];have h1:=hf x0;simp only[setRow,Nat.zero_mul,HY]
  grind
 |x0::l,n+1,y,z,k,x,h,hk,he=>by
  have ih:=Sp hf l n y z (by simpa using h) hk he;rw[Uw,Hb,Hb,<-ih];have h1:=hf x0;simp only[setRow,GJ];rw[show n*sz+sz+k=(f x0).length+(n*sz+k) by omega,Qv,List.take_append,List.drop_append,AK (by omega),EQ<|by omega];simp
theorem Xe {i:Int} {k:Nat} {y:List TV} (hf:∀x,(f x).length=sz) (h:gi l i=some x) (hk:Nat.ble (k+y.length) sz=true) (he:setRow (f x) k y=f z):setRow (A8 f l) (i.toNat*sz+k) y=A8 f (si l i z):=
 Sp hf l _ y z (TU h).2.2 (by simpa[Qr]using hk) he
theorem oR {n k:Nat} (hf:∀x,(f x).length=sz) (h:l[n]?=some x) {t:TV} (hk:k<sz) (he:(f x).set k t=f z):(A8 f l).set (n*sz+k) t=A8 f (l.set n z):=by
 have hl:(n*sz+k)<(A8 f l).length:=by
  rw[EM hf];have:=(Ae.1 h).1;have:(n+1)*sz<=l.length*sz:=BO _ this
  grind
 have a:∀{c:List TV} {m:Nat},m<c.length->c.set m t=setRow c m [t]:=by
  intro c m hm;rw[List.set_eq_take_append_cons_drop,AH hm];simp[setRow]
 rw[a hl];refine Sp hf l n [t] z h hk ?_
 grind
theorem yN {i:Int} {k:Nat} (hf:∀x,(f x).length=sz) (h:gi l i=some x) (hk:k<sz) {q:List Nat}:BB (A8 f l) ((i.toNat*sz+k)::q)=BB (f x) (k::q):=by
 simp only[BB,Pv hf h hk]
theorem ADh {i:Int} {k:Nat} (hf:∀x,(f x).length=sz) (h:gi l i=some x) (hk:k<sz) {q:List Nat}:Lu (A8 f l) ((i.toNat*sz+k)::q)=Lu (f x) (k::q):=by
 simp only[Lu,Pv hf h hk]
theorem ACW {i:Int} {k:Nat} (hf:∀x,(f x).length=sz) (h:gi l i=some x) (hk:k<sz) {q:List Nat} {g:List TV->List TV} (he:Dv (f x) (k::q) g=f z):Dv (A8 f l) ((i.toNat*sz+k)::q) g=A8 f (si l i z):=by
 rw[Dv]at he⊢;rw[Pv hf h hk];split
 ·rename_i o e sz' a hc;rw[hc]at he;exact oR hf (TU h).2.2 hk he
 rename_i hc;split at he
 ·grind
 have:(A8 f l).set (i.toNat*sz+k) ((f x)[k]?.getD .junk)=A8 f (si l i z):=by
  refine oR hf (TU h).2.2 hk ?_;rw[<-he];have:k<(f x).length:=by rw[hf];exact hk
  rw[Ab this];simp
 rw[<-this];have h2:=Pv hf h hk;have h3:k<(f x).length:=by rw[hf];exact hk
 rw[Ab h3]at h2⊢;exact(PK h2).symm
abbrev I (n:Int):SV:= .one (.int .i64 n)
abbrev B (b:Bool):SV:= .one (.bool b)
abbrev Y (s:ByteArray):SV:= .one (.str s)
def QH (body:S->Option (S⊕α)):Nat->S->Option α
 |0,_=>none
 |n+1,s=>match body s with
  |none=>none
  |some (.inl s')=>QH body n s'
  |some (.inr a)=>some a
theorem Xj {body:S->Option (S⊕α)} {a:α}:∀{n m:Nat} {s:S},QH body n s=some a->n<=m->QH body m s=some a
 |0,_,_,h,_=>by cases h
 |n+1,0,_,_,h=>by omega
 |n+1,m+1,s,h,hm=>by
  simp only[QH]at h⊢;split at h
  ·cases h
  ·exact Xj h (by omega)
  exact h
open Classical in
noncomputable def Al (body:S->Option (S⊕α)) (s:S):Option α:=
 if h:∃a n,QH body n s=some a then some h.choose else none
theorem HN {body:S->Option (S⊕α)} {s:S} {a:α}:Al body s=some a↔∃n,QH body n s=some a:=by
 unfold Al;constructor
 ·intro h;split at h
  ·grind
  cases h
 rintro⟨n,h⟩;have he:∃a n,QH body n s=some a:=⟨a,n,h⟩;rw[dif_pos he];obtain⟨m,hm⟩:=he.choose_spec;have h1:=Xj hm<|Nat.le_max_left m n;have h2:=Xj h<|Nat.le_max_right m n
 grind
theorem Ax (body:S->Option (S⊕α)) (s:S):Al body s=match body s with
  |none=>none
  |some (.inl s')=>Al body s'
  |some (.inr a)=>some a:=by
 have b:∀a,Al body s=some a↔(match body s with|none=>none|some (.inl s')=>Al body s'|some (.inr a)=>some a)=some a:=by
  intro a;rw[HN];constructor
  ·rintro⟨n,h⟩
   cases n with
   |zero=>cases h
   |succ n=>
    simp only[QH]at h;split at h
    ·cases h
    ·exact HN.2 ⟨n,h⟩
    omega
  intro h;split at h
  ·cases h
  ·rename_i s' hb;obtain⟨n,hn⟩:=HN.1 h;exact⟨n+1,by simp only[QH,hb];exact hn⟩
  rename_i a' hb;exact⟨1,by simp only[QH,hb];exact h⟩
 cases hx:Al body s with
 |some a=>grind
 |none=>
  cases hy:(match body s with|none=>none|some (.inl s')=>Al body s'|some (.inr a)=>some a:Option α)with
  |none=>rfl
  |some a=>grind
def mvs (E:St) (l:List (Root×List TV)):St:=l.foldl (λE x=>(E.setRoot x.1 x.2).bump x.1) E
def St.rs (E:St) (t:Nat) (b:Bool):St:={E with slots:=Cj E.slots t (B b)}
theorem g9 {t:Nat} {b:Bool} (h:E.slots t=B b):E.rs t b=E:=by
 have:Cj E.slots t (B b)=E.slots:=by
  funext n;simp only[Cj]
  grind
 unfold St.rs;rw[this]
theorem GH.o (d:Nat) (s:SV) (h:GH P N ops rest (E.put (some d) s) Q) (hs:Cu P N false E oo=some (E.put (some d) s):=by rfl) (hg:Bv P ops E oo=some true:=by rfl):GH P N ops (oo::rest) E Q:=GH.op false hg hs h
theorem GH.b (m:List (Root×List TV)) (d:Nat) (xs:List TV) (h:GH P N ops rest ((mvs E m).newBox d xs) Q) (hs:Cu P N false E oo=some ((mvs E m).newBox d xs):=by rfl) (hg:Bv P ops E oo=some true:=by rfl):GH P N ops (oo::rest) E Q:=GH.op false hg hs h
theorem AGZ (mv:Bool) (m:List (Root×List TV)) (d:Nat) (s:SV) (h:GH P N ops rest ((mvs E m).put (some d) s) Q) (hs:Cu P N mv E oo=some ((mvs E m).put (some d) s):=by rfl) (hg:Bv P ops E oo=some true:=by rfl):GH P N ops (oo::rest) E Q:=GH.op mv hg hs h
theorem AFk {l:List Oper} {r:β} {b:Bool} (h:(bif b then tx else ty)=some r) (t:Nat) (ht:tx=some r->GH P N ops l (E.rs t true) Q) (hf:ty=some r->GH P N ops l (E.rs t false) Q) (hc:E.slots t=B b:=by rfl):GH P N ops l E Q:=by
 cases b
 ·rw[g9 hc]at hf;exact hf h
 rw[g9 hc]at ht;exact ht h
theorem Wp.c {r:β} {x:Code} {c:Operand} {b:Bool} (h:(bif b then tx else ty)=some r) (ht:tx=some r->Wp P N x E Q) (hf:ty=some r->Wp P N y E Q) (hc:E.cell1 P 0 c=some (.bool b):=by rfl):Wp P N (.cond c x y) E Q:=by
 refine Wp.cond hc (λhb=>?_) λhb=>?_
 ·subst hb;exact ht h
 grind
theorem AF3 {x:Code} {c:Operand} (ht:Wp P N x E Q) (hc:E.cell1 P 0 c=some (.bool true):=by rfl):Wp P N (.cond c x y) E Q:=Wp.cond hc (λ_=>ht) λh=>by cases h
theorem AF4 {x:Code} {c:Operand} (hf:Wp P N y E Q) (hc:E.cell1 P 0 c=some (.bool false):=by rfl):Wp P N (.cond c x y) E Q:=Wp.cond hc (λh=>by cases h) λ_=>hf
def pk (o:Oper):Bool:=match o.op with
 | .nilCheck _| .pick .. | .binOp .. | .unOp .. | .convert .. | .fieldAddr .. | .indexAddr .. | .load .. | .index .. | .slice .. =>true
 | .call c=>match c.callee with
  | .builtin .len| .builtin .min| .builtin .max=>true
  |_=>false
 |_=>false
theorem AAl {o:Oper} {s:SV} {src dst:TypeId} {x:Operand} (ho:o.op= .convert src dst x) (hp:AW P E o=some s):TY P E d src dst x=none:=by
 unfold AW at hp;unfold TY
 grind
theorem wF {o:Oper} {s:SV} (hp:AW P E o=some s) (hd:o.dst=some d:=by rfl) (hN:Nat.blt d N=true:=by rfl) (hk:pk o=true:=by rfl):Cu P N false E o=some (E.put (some d) s):=by
 have hN':d<N:=by simpa[B3]using hN
 unfold pk at hk;unfold Cu;rw[hd];simp only[AH hN'];split at hk<;>rename_i ho<;>try (cases hk;done)
 all_goals first|(simp only[ho,AAl ho hp,hp,BD];done)|simp only[ho,hp,BD]
 rename_i c;split at hk<;>rename_i hc<;>try (cases hk;done)
 all_goals simp only[hc,BD]
theorem wH {o:Oper} {s:SV} (hp:AW P E o=some s) (hk:pk o=true:=by rfl):JR P E o=some s:=by
 unfold pk at hk;unfold JR
 grind
theorem AFJ {o:Oper} (hf:∀x,(f x).length=sz) (r:Root) (q:List Nat) (j:Nat) (hx:gi l n=some x) {t e e':TypeId} {a i:Operand} {b:Bool} (hp:E.place r q j=some (.sl b e' sz (A8 f l)):=by rfl) (ho:o.op= .indexAddr t a i:=by rfl) (ht:P.underlying t=some (.slice e):=by rfl) (hi:E.cell1 P 0 i=some (.int k n):=by rfl) (hr:E.ref a=some (r,q,j):=by rfl) (c:P.cellsOf e=sz:=by rfl) (h0:Nat.blt 0 sz=true:=by rfl):AW P E o=some (.one<|.ptr r (E.ver r) (q++ [j])<|n.toNat*sz+0):=by
 have h0':0<sz:=by simpa[B3]using h0
 simp only[AW,ho,ht,hi,hr,hp];rw[AH ⟨c.symm,h0',(TU hx).1,nB hf hx⟩];rfl
theorem AGC {o:Oper} {fl:Nat} (hf:∀x,(f x).length=sz) (r:Root) (q:List Nat) (k:Nat) (hx:gi l n=some x) {st:TypeId} {a:Operand} (hr:(E.root r).bind (λcs=>BB cs q)=some (A8 f l):=by rfl) (ho:o.op= .fieldAddr st a fl:=by rfl) (hs:P.underlying st=some (.struct fs):=by rfl) (hp:E.ptr? a=some (r,q,n.toNat*sz+k):=by rfl) (b:fs[fl]?=some fd:=by rfl) (hc:Nat.beq (P.cellsOf fd.type) 0=false:=by rfl) {m:Nat} (hm:k+fd.offset=m:=by rfl) (hk:Nat.blt (k+fd.offset) sz=true:=by rfl):AW P E o=some (.one<|.ptr r (E.stamp r q) q<|n.toNat*sz+m):=by
 subst hm;have hc':P.cellsOf fd.type≠0:=by intro h;rw[h]at hc;cases hc
 have hk':k+fd.offset<sz:=by simpa[B3]using hk
 have c:(E.place r q<|n.toNat*sz+k+fd.offset).isSome=true:=by
  obtain⟨cs,h1,h2⟩:=Ah.1 hr;simp only[St.place,h1,Aa,h2,Qv,Pv hf hx hk']
  grind
 simp only[AW,ho,hs,hp,b]
 grind
theorem AGB {o:Oper} (hf:∀x,(f x).length=sz) (r:Root) (q:List Nat) (k:Nat) (u:TV) (hx:gi l n=some x) {t:TypeId} {a:Operand} (hr:(E.root r).bind (λcs=>BB cs q)=some (A8 f l):=by rfl) (ho:o.op= .load t a:=by rfl) (hp:E.ptr? a=some (r,q,n.toNat*sz+k):=by rfl) (ha:fU P t=false:=by rfl) (h1:P.cellsOf t=1:=by rfl) (hu:(P.underlying t).isSome=true:=by rfl) (hk:Nat.blt k sz=true:=by rfl) (hj:(f x)[k]?=some u:=by rfl):AW P E o=some (.one<|see E r q (n.toNat*sz+k) u):=by
 have hk':k<sz:=by grind
 have b:=nB hf hx;rw[GJ]at b;simp only[AW,ho,hp,hr,ha,h1];rw[AH (by omega),AM (by simp),AH ⟨trivial,hu⟩,Pv hf hx hk',hj];rfl
theorem AGA {o:Oper} (hf:∀x,(f x).length=sz) (r:Root) (q:List Nat) (k m:Nat) (hx:gi l n=some x) {t:TypeId} {a:Operand} (hr:(E.root r).bind (λcs=>BB cs q)=some (A8 f l):=by rfl) (ho:o.op= .load t a:=by rfl) (hp:E.ptr? a=some (r,q,n.toNat*sz+k):=by rfl) (ha:fU P t=true:=by rfl) (h1:P.cellsOf t=m:=by rfl) (hk:Nat.ble (k+m) sz=true:=by rfl):AW P E o=some (.agg<|VS E r q (n.toNat*sz+k)<|((f x).drop k).take m):=by
 have hk':k+m<=sz:=by simpa[Qr]using hk
 have b:=nB hf hx;rw[GJ]at b;simp only[AW,ho,hp,hr,ha,h1];rw[AH (by omega),AH trivial,<-ACa hf hx,List.drop_take,List.take_take,Nat.min_eq_left (by omega),CA]
theorem AFI {o:Oper} (hf:∀x,(f x).length=sz) (l:List α) {t e e':TypeId} {a:Operand} {b:Bool} {r:Root} {q:List Nat} (ho:o.op= .call {callee:= .builtin .len,args:= #[a],argTypes:= #[t]}:=by rfl) (ht:P.underlying t=some (.slice e):=by rfl) (hr:E.ref a=some (r,q,j):=by rfl) (hp:E.place r q j=some (.sl b e' sz<|A8 f l):=by rfl) (h0:Nat.blt 0 sz=true:=by rfl):AW P E o=some (.one<|.int .i64<|ln l):=by
 have h0':0<sz:=by simpa[B3]using h0
 have:(A8 f l).length/sz=l.length:=by rw[EM hf];exact NM _ h0'
 simp only[AW,ho,P1,ht,St.sliceCells,hr,hp];rw[AH h0',this];rfl
def sx (s:ByteArray) (i:Int):Option Int:=if 0<=i/\i<s.size then some (AW.bt s i)else none
def sub (s:ByteArray) (l h:Int):Option ByteArray:=if 0<=l/\l<=h/\h<=s.size then some (s.extract l.toNat h.toNat)else none
def Ig (a b:ByteArray):Option ByteArray:=if((a.size+b.size:Nat):Int)>9223372036854775807 then none else some<|a++b
def FJ (s:ByteArray):Int:=(s.size:Nat)
def seq (a b:ByteArray):Bool:=a.toList==b.toList
theorem AGz {o:Oper} {s:ByteArray} {n b:Int} (h:sx s n=some b) {t:TypeId} {a i:Operand} (ho:o.op= .index t a i:=by rfl) (ht:P.underlying t=some .string:=by rfl) (ha:E.cell1 P t a=some (.str s):=by rfl) (hi:E.cell1 P 0 i=some (.int k n):=by rfl):
  AW P E o=some (.one<|.int .u8 b):=by
 unfold sx at h;split at h
 ·rename_i hc
  injection h with h
  simp only[AW,ho,ht,ha,hi];rw[AH hc,h]
 cases h
section
variable {o:Oper}
theorem AFG {hi:Option Operand} {k':IntKind} {s u:ByteArray} {l h:Int} (hx:sub s l h=some u) {t:TypeId} {a:Operand} (ho:o.op= .slice t a lo hi none:=by rfl) (ht:P.underlying t=some .string:=by rfl) (ha:E.cell1 P t a=some (.str s):=by rfl) (hl:(match lo with|some o=>E.cell1 P 0 o|none=>some<|.int .i64 0)=some (.int k l):=by rfl) (hh:(match hi with|some o=>E.cell1 P 0 o|none=>some<|.int .i64 s.size)=some (.int k' h):=by rfl):
  AW P E o=some (.one<|.str u):=by
 unfold sub at hx;split at hx
 ·rename_i hc
  injection hx with hx
  have fin:(if 0<=l/\l<=h/\h<=(s.size:Int)then some (SV.one<|.str<|s.extract l.toNat h.toNat)else none)=some (.one<|.str u):=by rw[AH hc,hx]
  cases lo with
  |none=>
   injection hl with hl
   injection hl with _ hl
   subst hl
   cases hi with
   |none=>
    injection hh with hh
    injection hh with _ hh
    subst hh;simpa only[AW,ho,ht,ha]using fin
   |some y=>
    have hh':E.cell1 P 0 y=some (.int k' h):=hh;simpa only[AW,ho,ht,ha,hh']using fin
  |some z=>
   have hl':E.cell1 P 0 z=some (.int k l):=hl
   cases hi with
   |none=>
    injection hh with hh
    injection hh with _ hh
    subst hh;simpa only[AW,ho,ht,ha,hl']using fin
   |some y=>
    have hh':E.cell1 P 0 y=some (.int k' h):=hh;simpa only[AW,ho,ht,ha,hl',hh']using fin
 cases hx
end
theorem AFL {o:Oper} {x y:Operand} {a b u:ByteArray} (hx:Ig a b=some u) {t t':TypeId} (ho:o.op= .binOp .add t x y t':=by rfl) (ha:E.cell1 P t x=some (.str a):=by rfl) (hb:E.cell1 P t y=some (.str b):=by rfl):
  AW P E o=some (.one<|.str u):=by
 unfold Ig at hx;split at hx
 ·cases hx
 rename_i hc;simp only[AW,ho,ha,hb,XF,Cf,YC]
 grind
def J6 (cs:List TV):Bool:=cs.all λt=>match t with
 | .int .. | .bool _| .str _| .sl false .. =>true
 |_=>false
theorem ZY {E:St} {r:Root} {q:List Nat}:∀{cs:List TV} (c:Nat),J6 cs=true->VS E r q c cs=cs
 |[],c,h=>rfl
 |t::ts,c,h=>by
  simp only[J6,FH,Ag]at h;have ih:=ZY (E:=E) (r:=r) (q:=q) (c+1)<|show J6 ts=true from h.2;simp only[VS,ih]
  cases t with
  |sl o e sz cells=>cases o<;>first|rfl|grind
  |_=>rfl
theorem RJ {E:St}:∀{cs:List TV},J6 cs=true->FP E cs=some (cs,E)
 |[],h=>rfl
 |t::ts,h=>by
  simp only[J6,FH,Ag]at h;have ih:=RJ (E:=E)<|show J6 ts=true from h.2;have h1:=h.1;have hr:∀E1 E2 t,(∀r v q j,t≠ .view r v q j)->List.map (rst E1 E2 t) ts=ts:=by
   intro E1 E2 t ht;have:rst E1 E2 t=id:=by
    funext u;cases t<;>first|rfl|grind
   rw[this,V0]
  rw[Si];cases t<;>simp only[Fz]<;>first|grind|(simp at h1;done)
theorem Ve (hf:∀x,J6 (f x)=true):∀l:List α,J6 (A8 f l)=true
 |[]=>rfl
 |x::l=>by
  have:=Ve hf l;rw[Hb];unfold J6 at*
  grind
def ap (by_:Nat) (l m:List α):Option (List α):=if(l.length+m.length)*by_<=140737488355328 then some (l++m)else none
def mk (by_:Nat) (z:α) (n:Int):Option (List α):=if 0<=n/\(by_:Int)*n<=281474976710656/\n<=9223372036854775807 then some (List.replicate n.toNat z)else none
theorem ADW {l m u:List α} (h:ap by_ l m=some u):u=l++m/\(l.length+m.length)*by_<=140737488355328:=by
 unfold ap at h
 grind
theorem S3 (h:f z=zs):∀n,(List.replicate n zs).flatten=A8 f (List.replicate n z)
 |0=>rfl
 |n+1=>by rw[Sd,List.flatten_cons,S3 h n,Sd,Hb,h]
theorem AGu {o:Oper} {u:List α} {kl kc:IntKind} (z:α) (h:mk by_ z n=some u) {t e:TypeId} {l c:Operand} (ho:o.op= .makeSlice t l c:=by rfl) (hd:o.dst=some d:=by rfl) (hN:Nat.blt d N=true:=by rfl) (ht:P.underlying t=some (.slice e):=by rfl) (hl:E.cell1 P 0 l=some (.int kl n):=by rfl) (hc:E.cell1 P 0 c=some (.int kc n):=by rfl) (hz:Mn P e=some zs:=by rfl) (hfz:f z=zs:=by rfl) (hb:P.bytesOf e=by_:=by rfl) (b:P.cellsOf e=sz:=by rfl):
  Cu P N false E o=some (E.put (some d)<|.one<|.sl true e sz<|A8 f u):=by
 have hN':d<N:=by simpa[B3]using hN
 unfold mk at h;split at h
 ·rename_i a
  injection h with h
  subst h;unfold Cu;rw[hd];simp only[AH hN',ho,Zz,ht,hl,hc,hz];rw[AH ⟨trivial,a.1,by grind,a.2.2⟩,S3 hfz,b]
 cases h
section
variable {o:Oper}
structure At (cs:List TV) (q:List Nat) (row:List TV) (g:List TV->List TV) (cs':List TV):Prop where
 c:BB cs q=some row
 o:Lu cs q=true
 u:Dv cs q g=cs'
end
theorem At.one {row':List TV} {cs a:List TV} {c:Nat} {e s:Nat} {g:List TV->List TV} (h:g a=row') (hc:cs[c]?=some (.sl true e s a):=by rfl) (hs:cs.set c (.sl true e s row')=cs':=by rfl):At cs [c] a g cs':=
 ⟨by simp[BB,hc],by simp[Lu,hc],by simp[Dv,hc,h,hs]⟩
theorem AGe (hf:∀x,(f x).length=sz) {cs a:List TV} {c k:Nat} {q:List Nat} {e s:Nat} {g:List TV->List TV} (hx:gi l n=some x) (h:At (f x) (k::q) a g (f z)) (hk:Nat.blt k sz=true:=by rfl) (hc:cs[c]?=some (.sl true e s<|A8 f l):=by rfl) (hs:cs.set c (.sl true e s<|A8 f<|si l n z)=cs':=by rfl):At cs (c::(n.toNat*sz+k)::q) a g cs':=by
 have hk':k<sz:=by simpa[B3]using hk
 refine⟨?_,?_,?_⟩
 ·rw[<-h.c,<-yN hf hx hk'];simp only[BB,hc]
 ·rw[<-h.o,<-ADh hf hx hk'];simp only[Lu,hc,WR]
 rw[<-hs,<-ACW hf hx hk' h.u];simp only[Dv,hc]
theorem AE5 (hf:∀x,(f x).length=sz) (hx:gi l n=some x) {k m:Nat} (hk:Nat.ble (k+m) sz=true):n.toNat*sz+k+m<=(A8 f l).length:=by
 have:=nB hf hx;rw[GJ]at this;have h1:k+m<=sz:=by simpa[Qr]using hk
 omega
def SV.comps:SV->List SV
 | .tup ss=>ss
 |_=>[]
def St.ex (E:St) (n ix:Nat):St:={E with slots:=Cj E.slots n (.tup<|(E.slots n).comps.set ix<|.one .junk)}
theorem AG0 (n ix d:Nat) (s:SV) (h:GH P N ops rest ((E.ex n ix).put (some d) s) Q) (hs:Cu P N false E oo=some ((E.ex n ix).put (some d) s):=by rfl) (hg:Bv P ops E oo=some true:=by rfl):GH P N ops (oo::rest) E Q:=GH.op false hg hs h
theorem FI.o (d:Nat) (s:SV) (h:FI P N ops rest (E.put (some d) s) K) (hs:JR P E oo=some s:=by rfl) (hg:Bv P ops E oo=some true:=by rfl) (hd:oo.dst=some d:=by rfl) (hN:Nat.blt d N=true:=by rfl):FI P N ops (oo::rest) E K:=
 FI.op s hg hd (by simpa[B3]using hN) hs h
theorem AFb {l:List Oper} {r:β} {b:Bool} (h:(bif b then tx else ty)=some r) (t:Nat) (ht:tx=some r->FI P N ops l (E.rs t true) K) (hf:ty=some r->FI P N ops l (E.rs t false) K) (hc:E.slots t=B b:=by rfl):FI P N ops l E K:=by
 cases b
 ·rw[g9 hc]at hf;exact hf h
 rw[g9 hc]at ht;exact ht h
theorem Da {f g:α->List TV} (h:∀x,By (f x)=g x):∀l:List α,By (A8 f l)=A8 g l
 |[]=>rfl
 |x::l=>by
  have c:∀a b:List TV,By (a++b)=By a++By b:=by
   intro a b
   induction a with
   |nil=>rfl
   |cons t ts ih=>simp only[BH,By,ih]
  rw[Hb,Hb,c,h,Da h l]
theorem JT (h:∀x,Ay (f x)=false):∀l:List α,Ay (A8 f l)=false
 |[]=>rfl
 |x::l=>by
  have c:∀a b:List TV,Ay (a++b)=(Ay a||Ay b):=by
   intro a b
   induction a with
   |nil=>rfl
   |cons t ts ih=>simp only[BH,Ay,ih,Bool.or_assoc]
  rw[Hb,c,h,JT h l];rfl
def ad (a b:Int):Int:=IntKind.i64.wrap<|a+b
def sb (a b:Int):Int:=IntKind.i64.wrap<|a-b
def ml (a b:Int):Int:=IntKind.i64.wrap<|a*b
def qu (a b:Int):Int:=IntKind.i64.wrap<|a.tdiv b
def xr (a b:Int):Int:=IntKind.u32.wrap (BitVec.ofInt 32 a^^^BitVec.ofInt 32 b).toNat
def an (a b:Int):Int:=IntKind.u32.wrap (BitVec.ofInt 32 a&&&BitVec.ofInt 32 b).toNat
def bs (l:List UInt8):ByteArray:=⟨l.toArray⟩
section
variable (P:Program) (md:Region.Mode) (ops:Array Oper) (Q:Exit->Act->World->Prop) (T:Nat->Bool)
def ZD:Nat->Array Bool->Act->World->Prop
 |0,listed,a,w=>Region.ready md ops listed=[]/\Q .normal a w
 |fuel+1,listed,a,w=>(Region.ready md ops listed=[]->Q .normal a w)/\
  ∀i∈Region.ready md ops listed,wpOp P ops Q i (λa' w'=>(T i=false->Ey w w')/\ZD fuel (listed.setIfInBounds i true) a' w') a w
end
theorem ZC {Q:Exit->Act->World->Prop}:∀(b:Nat) (listed:Array Bool) (a:Act) (w:World),ZD P md ops Q T b listed a w->wpAny P md ops Q b listed a w
 |0,_,_,_,h=>h
 |b+1,_,_,_,h=>⟨h.1,λi hi=>wpOp_mono (λa' w' h'=>ZC b _ a' w' h'.2) (h.2 i hi)⟩
section
variable (md:Region.Mode) (ops:Array Oper)
def ZG (i:Nat):Nat->Nat->Bool
 |0,_=>false
 |n+1,j=>match ops[j]? with
  |some o=>o.after.any λe=>Region.binds md e&&(e.on==i||ZG i n e.on)
  |none=>false
end
def dX (md:Region.Mode) (ops:Array Oper) (listed:Array Bool):Prop:=∀k o,ops[k]?=some o->listed.getD k false=true->∀e∈o.after,Region.binds md e=true->listed.getD e.on false=true
theorem V7 (hc:dX md ops listed):∀{n j:Nat} {o:Oper},ops[j]?=some o->(∀e∈o.after,Region.binds md e=true->listed.getD e.on false=true)->ZG md ops i n j=true->listed.getD i false=true
 |0,j,o,_,_,h=>by cases h
 |n+1,j,o,ho,ha,h=>by
  simp only[ZG,ho]at h;obtain⟨e,he,hb⟩:=Array.any_eq_true'.1 h;simp only[Ag,CT,CG]at hb;have h1:=ha e he hb.1
  rcases hb.2 with h2|h2
  ·rw[<-h2];exact h1
  cases hk:ops[e.on]? with
  |none=>
   cases n with
   |zero=>cases h2
   |succ n=>simp[ZG,hk]at h2
  |some ok=>exact V7 hc hk (hc e.on ok hk h1) h2
theorem Mf (hc:dX md ops listed) (hr:j∈Region.ready md ops listed):dX md ops (listed.setIfInBounds j true):=by
 intro k o hk hl e he hb
 have a:∀m,listed.getD m false=true->(listed.setIfInBounds j true).getD m false=true:=λm hm=>getD_set_true hm
 by_cases b:k=j
 ·subst b;obtain⟨_,o',ho',c⟩:=mem_ready.1 hr
  grind
 rw[getD_set_ne false<|JI b]at hl;exact a _<|hc k o hk hl e he hb
theorem Nx {Q:Exit->Act->World->Prop} {oi:Oper} {n:Nat} (hi:ops[i]?=some oi) (m:∀(j:Nat) (o:Oper) cs b,ops[j]?=some o->o.op≠ .select cs b) (hQ:∀c a w,Q (.panic c) (a.put oi.dst v) w->Q (.panic c) a w) (h7:T i=false) (hT:∀j,T j=true->ZG md ops i n j=true):
  ∀(d:Nat) (listed:Array Bool) (a:Act) (w:World),dX md ops listed->
   (∀j oj,ops[j]?=some oj->j≠i->listed.getD j true=false->(∀e∈oj.after,Region.binds md e=true->e.on≠i)->oi.apart ops oj=true)->
   i∈Region.ready md ops listed->YieldsIf P ops (Ey w) oi v a->
   ZD P md ops Q T d (listed.setIfInBounds i true) (a.put oi.dst v) w->ZD P md ops Q T (d+1) listed a w:=by
 intro d
 induction d with
 |zero=>
  intro listed a w _ _ hr hy H;refine⟨λh=>(by grind),λj hj=>?_⟩;by_cases f:j=i
  ·subst f;exact hy.wpOp hi Ey.refl ⟨λ_=>Ey.refl,H⟩
  have:=ready_mono hj f;rw[H.1]at this;cases this
 |succ d ih=>
  intro listed a w s g hr hy H;refine⟨λh=>(by grind),λj hj=>?_⟩;by_cases f:j=i
  ·subst f;exact hy.wpOp hi Ey.refl ⟨λ_=>Ey.refl,H⟩
  have h1:=H.2 j<|ready_mono hj f;obtain⟨p,oj,l,q⟩:=mem_ready.1 hj;have t:listed.getD i false=false:=by
   have h0:=(mem_ready.1 hr).1
   rcases Ej i listed.size with h'|h'
   ·simpa[h']using h0
   grind
  have r:T j=false:=by
   cases r:T j with
   |false=>rfl
   |true=>
    have:=V7 s l q<|hT j r
    grind
  have u:∀e∈oj.after,Region.binds md e=true->e.on≠i:=λe he hb z=>by
   have h1:=q e he hb;rw[z,t]at h1;cases h1
  have h2:=wpOp_putIf l (g j oj l f p u) (λcs b=>m i oi cs b hi) (λcs b=>m j oj cs b l) hQ hy h1;have hfree':∀k ok,ops[k]?=some ok->k≠i->(listed.setIfInBounds j true).getD k true=false->
    (∀e∈ok.after,Region.binds md e=true->e.on≠i)->oi.apart ops ok=true:=λk ok hk h4 x h5=>by
   refine g k ok hk h4 ?_ h5;by_cases y:j=k
   ·subst y;exact p
   rw[getD_set_ne true y]at x;exact x
  refine wpOp_mono (λa' w' h3=>⟨h3.2.1,ih (listed.setIfInBounds j true) a' w' (Mf s hj) hfree' (ready_mono hr<|JI f) ?_ ?_⟩) h2
  ·exact h3.1.imp (λ⟨p1,p2⟩=>⟨p1,λw2 h6=>p2 w2<|(h3.2.1 r).trans h6⟩) id
  rw[Array.setIfInBounds_comm _ _ f];exact h3.2.2
def YL (P:Program) (N:Nat) (ops:Array Oper) (ts:List Nat) (b:Nat) (listed:Array Bool) (E:St) (Q:Exit->St->Prop):Prop:=(∀c E,Q (.panic c) E->False)->dX .any ops listed->∀(w0:Base) (FA UA:List Nat) (w:World) (a:Act) (blk:Root->Nat) (FS US:Root->List Nat),CE w0 FA UA N w a E blk FS US->FS .hand=[]->US .hand=[]->ZD P .any ops (sE w0 FA UA N Q) (λi=>ts.contains i) b listed a w
def jX (P:Program) (N:Nat) (ops:Array Oper) (ts:List Nat) (i:Nat) (E:St) (K:St->Prop) (Q:Exit->St->Prop):Prop:=∀(w0:Base) (FA UA:List Nat) (w:World) (a:Act) (blk:Root->Nat) (FS US:Root->List Nat),CE w0 FA UA N w a E blk FS US->FS .hand=[]->US .hand=[]->
  wpOp P ops (sE w0 FA UA N Q) i (λa' w'=>(ts.contains i=false->Ey w w')/\∃E' blk' FS' US',K E'/\CE w0 FA UA N w' a' E' blk' FS' US'/\FS' .hand=[]/\US' .hand=[]) a w
theorem jX.op {ts:List Nat} (i:Nat) {o:Oper} (mv:Bool) (h:K E') (hs:Cu P N mv E o=some E') (ho:ops[i]?=some o) (hg:Bv P ops E o=some true) (hk:(kp o||ts.contains i)=true):jX P N ops ts i E K Q:=by
 intro w0 FA UA w a blk FS US hr hF hU;unfold wpOp;simp only[ho,Cd hr hg,Cf];refine .inl<|(Sn hr hF hU hs).wp λw' v blk' FS' US' k1 k2 k3 k4=>⟨λht=>k4 (by grind),_,_,_,_,h,k1,k2,k3⟩
theorem jX.call {ts:List Nat} {f:FuncId} {n:Nat} (i:Nat) {o:Oper} {args:Array Operand} {tys:Array TypeId} (hi:ops[i]?=some o) (ho:o.op= .call {callee:= .value (.func f),args:=args,argTypes:=tys}) (hf:fQ P f) (hg:Bv P ops E o=some true) (hN:∀d,o.dst=some d->d<N) (l:List (Bool×TypeId×Operand)) (hl:l.map (λx=>x.2.2)=args.toList) (e:(l.all (λx=>!x.1)||ts.contains i)=true) {b:SV} (c:A0 P f as b (List.replicate n .gone)) (he:Z0 P E o.dst l as b E') (h:K E'):jX P N ops ts i E K Q:=by
 intro w0 FA UA w a blk FS US hr hF hU;unfold wpOp;simp only[hi,Cd hr hg,Cf];exact .inl<|jL hr hF hU ho hf hN hl c he λw' v blk' FS' US' k1 k2 k3 k4=>⟨λht=>k4 (by grind),_,_,_,_,h,k1,k2,k3⟩
theorem YL.done {ts:List Nat} (h:Q .normal E) (hr:Region.ready .any ops listed=[]:=by decide+kernel):YL P N ops ts fuel listed E Q:=
 λ_ _ w0 FA UA w a blk FS US k1 k2 k3=>by
  have hq:sE w0 FA UA N Q .normal a w:=⟨E,blk,FS,US,h,k1,k2,k3⟩
  cases fuel with
  |zero=>exact⟨hr,hq⟩
  |succ n=>exact⟨λ_=>hq,by rw[hr];simp⟩
section
variable {ts:List Nat}
theorem YL.all (rs:List Nat) (h:∀i∈rs,jX P N ops ts i E (λE'=>YL P N ops ts fuel (listed.setIfInBounds i true) E' Q) Q) (hr:Region.ready .any ops listed=rs) (b:rs≠ []):YL P N ops ts (fuel+1) listed E Q:=
 λhQ hc w0 FA UA w a blk FS US k1 k2 k3=>⟨λh0=>absurd (hr▸h0) b,λi hi=>by
  have hi':i∈rs:=hr▸hi
  exact wpOp_mono (λa' w' ⟨m0,E',blk',FS',US',m1,m2,m3,m4⟩=>⟨m0,m1 hQ (Mf hc hi) _ _ _ _ _ _ _ _ m2 m3 m4⟩)<|h i hi' _ _ _ _ _ _ _ _ k1 k2 k3⟩
end
def TX (ops:Array Oper) (ts:List Nat) (n i:Nat) (listed:Array Bool):Bool:=Region.noSelect ops&&Region.free .any ops listed i&&(Region.ready .any ops listed).contains i&&!ts.contains i&&ts.all λj=>ZG .any ops i n j
theorem WC {ts:List Nat} {n:Nat} (h:TX ops ts n i listed=true):Region.noSelect ops=true/\Region.free .any ops listed i=true/\i∈Region.ready .any ops listed/\ts.contains i=false/\∀j,ts.contains j=true->ZG .any ops i n j=true:=by
 simp only[TX,Ag,CK,XN]at h
 grind
theorem YL.take {ts:List Nat} (n i:Nat) {o:Oper} (d:Nat) (s:SV) (h:YL P N ops ts fuel (listed.setIfInBounds i true) (E.put (some d) s) Q) (hs:JR P E o=some s) (ho:ops[i]?=some o) (f:TX ops ts n i listed=true) (hg:Bv P ops E o=some true) (hd:o.dst=some d) (hN:Nat.blt d N=true):YL P N ops ts (fuel+1) listed E Q:=by
 intro hQ hc w0 FA UA w a blk FS US k1 k2 k3;obtain⟨e1,e2,e3,e4,e5⟩:=WC f;obtain⟨v,U,h1,h2,h3⟩:=ZU k1 hs;refine Nx (v:=v) (n:=n) ho (Region.noSelect_spec e1) (λc a w hx=>?_) e4 e5 fuel listed a w hc (Region.free_spec ho e2) e3 (.inl ⟨Cd k1 hg,λw2 e=>?_⟩) ?_
 ·obtain⟨E',blk',FS',US',m1,_⟩:=hx
  grind
 ·exact h1 w2 λr hr=>⟨λb hb=>e.2 b (k1.inF r b hb).2,λb hb=>e.2 b (k1.inU r b hb).2⟩
 rw[hd];refine h hQ (Mf hc e3) _ _ _ _ _ _ _ _ (k1.put (by simpa[B3]using hN) h2<|Qi k1 h3 _) ?_ ?_
 ·rw[Bh (by simp),k2]
 rw[Bh (by simp),k3]
theorem nY {ts:List Nat} (n i:Nat) {o:Oper} (d:Nat) (h:YL P N ops ts fuel (listed.setIfInBounds i true) (E.put (some d) (.tup [])) Q) (ho:ops[i]?=some o) (b:TX ops ts n i listed=true) (hg:Bv P ops E o=some false) (hd:o.dst=some d) (hN:Nat.blt d N=true):YL P N ops ts (fuel+1) listed E Q:=by
 intro hQ hc w0 FA UA w a blk FS US k1 k2 k3;obtain⟨e1,e2,e3,e4,e5⟩:=WC b;refine Nx (v:=undef) (n:=n) ho (Region.noSelect_spec e1) (λc a w hx=>?_) e4 e5 fuel listed a w hc (Region.free_spec ho e2) e3 (.inr ⟨Cd k1 hg,rfl⟩) ?_
 ·obtain⟨E',blk',FS',US',m1,_⟩:=hx
  grind
 rw[hd];refine h hQ (Mf hc e3) _ _ _ _ _ _ _ _ (k1.put (F:=[]) (U:=[]) (by simpa[B3]using hN) (by simp only[Ik];exact⟨[],rfl,by simp[Sg]⟩) Za.none) ?_ ?_
 ·rw[Bh (by simp),k2]
 rw[Bh (by simp),k3]
theorem vC {id:Nat} (n:Nat) (ts:List Nat) (hm:P.follows .mixedOrders=true) (hQ:∀c E,Q (.panic c) E->False) (h:YL P N ops ts n (Array.replicate n false) E Q) (hn:ops.size=n:=by rfl):Wp P N (.region id ops true) E Q:=by
 subst hn;intro w0 FA UA w a blk FS US k1 k2 k3;refine wp_region_any hm<|ZC (T:=λi=>ts.contains i) _ _ _ _ ?_;obtain⟨FS',US',m1,m2,m3⟩:=k1.drop (w':={w with drawn:=w.drawn+1}) (Az _) rfl rfl rfl λ_ _ _=>rfl;refine h hQ (λk o hk hl=>?_) _ _ _ _ _ _ _ _ m1 m2 m3;exfalso;rw[D3]at hl
 grind
theorem YL.o {ts:List Nat} (n i d:Nat) (s:SV) {o:Oper} (h:YL P N ops ts fuel (listed.setIfInBounds i true) (E.put (some d) s) Q) (ho:ops[i]?=some o:=by rfl) (hs:JR P E o=some s:=by rfl) (a:TX ops ts n i listed=true:=by decide+kernel) (hg:Bv P ops E o=some true:=by rfl) (hd:o.dst=some d:=by rfl) (hN:Nat.blt d N=true:=by rfl):YL P N ops ts (fuel+1) listed E Q:=YL.take n i d s h hs ho a hg hd hN
theorem AFp {ts:List Nat} {r:β} {b:Bool} (h:(bif b then tx else ty)=some r) (t:Nat) (ht:tx=some r->YL P N ops ts fuel listed (E.rs t true) Q) (hf:ty=some r->YL P N ops ts fuel listed (E.rs t false) Q) (hc:E.slots t=B b:=by rfl):YL P N ops ts fuel listed E Q:=by
 cases b
 ·rw[g9 hc]at hf;exact hf h
 rw[g9 hc]at ht;exact ht h
theorem jX.o {ts:List Nat} (i d:Nat) (s:SV) {o:Oper} (h:K (E.put (some d) s)) (ho:ops[i]?=some o:=by rfl) (hs:Cu P N false E o=some (E.put (some d) s):=by rfl) (hg:Bv P ops E o=some true:=by rfl) (hk:(kp o||ts.contains i)=true:=by rfl):jX P N ops ts i E K Q:=jX.op i false h hs ho hg hk
theorem jX.b {ts:List Nat} (i:Nat) (m:List (Root×List TV)) (d:Nat) (xs:List TV) {o:Oper} (h:K ((mvs E m).newBox d xs)) (ho:ops[i]?=some o:=by rfl) (hs:Cu P N false E o=some ((mvs E m).newBox d xs):=by rfl) (hg:Bv P ops E o=some true:=by rfl) (hk:(kp o||ts.contains i)=true:=by rfl):jX P N ops ts i E K Q:=jX.op i false h hs ho hg hk
theorem AG1 {ts:List Nat} (i:Nat) (mv:Bool) (m:List (Root×List TV)) (d:Nat) (s:SV) {o:Oper} (h:K ((mvs E m).put (some d) s)) (ho:ops[i]?=some o:=by rfl) (hs:Cu P N mv E o=some ((mvs E m).put (some d) s):=by rfl) (hg:Bv P ops E o=some true:=by rfl) (hk:(kp o||ts.contains i)=true:=by rfl):jX P N ops ts i E K Q:=jX.op i mv h hs ho hg hk
theorem AG2 {ts:List Nat} (i n ix d:Nat) (s:SV) {o:Oper} (h:K ((E.ex n ix).put (some d) s)) (ho:ops[i]?=some o:=by rfl) (hs:Cu P N false E o=some ((E.ex n ix).put (some d) s):=by rfl) (hg:Bv P ops E o=some true:=by rfl) (hk:(kp o||ts.contains i)=true:=by rfl):jX P N ops ts i E K Q:=jX.op i false h hs ho hg hk
def oI (n:Int):Prop:= -9223372036854775808<=n/\n<=9223372036854775807
def oK (k:IntKind) (n:Int):Prop:=k.min<=n/\n<=k.max
def ol (o:α->Prop) (l:List α):Prop:=l.length<=9223372036854775807/\∀x∈l,o x
def jV (P:Program) (t:TypeId) (c:α->List TV) (o:α->Prop):Prop:=∀{H:Type} (enc:TypeId×Value->H) (w:World) (d:Nat) (e:Nat) (cs:List Value) (x:DataW H×List MemPlace),DataW.trod enc P w d (λ_=>true) true e t cs=some x->
  ∃a U,o a/\BI w (c a) cs [] U/\∀b∈U,b<w.heap.size
theorem Ph {t:TV} (h:D6 w t v F U):BI w [t] [v] F U:=by
 simp only[BI];exact⟨v,[],F,[],U,[],rfl,by simp,by simp,h,rfl,rfl,rfl⟩
theorem zN {t:TypeId} (ht:P.underlying t=some (.int k)):jV P t (λn:Int=>[.int k n]) (λn=>k.min<=n/\n<=k.max):=by
 intro H enc w b a cs x h
 cases a with
 |zero=>simp[DataW.trod]at h
 |succ a=>
  simp only[DataW.trod,ht]at h;split at h<;>rename_i h1<;>try (first|(cases h1;done)|(cases h1;done))
  all_goals first|(cases h;done)|skip
  rename_i k' n;split at h
  ·rename_i hk;simp only[Av,TypeDesc.int.injEq]at h1;subst h1;obtain⟨rfl,hw⟩:=hk;simp only[Lit.wf,Ag,A6]at hw;exact⟨n,[],hw,Ph (by simp[D6]),by simp⟩
  cases h
theorem pT {t e:TypeId} {c:α->List TV} {o:α->Prop} (ht:P.underlying t=some (.slice e)) (q:P.cellsOf e=sz) (h0:0<sz) (hc:∀a,(c a).length=sz) (h:jV P e c o):
  jV P t (λl:List α=>[.sl false e sz (A8 c l)]) (λl=>l.length<=9223372036854775807/\∀a∈l,o a):=by
 intro H enc w d h7 cs x hx
 rcases Go.Deep.open_slice ht hx with⟨rfl,_⟩|⟨a,len,cap,m,n,D,Pl,rfl,hb,f,r,hm,_,g⟩
 ·refine⟨[],[],⟨by simp,by simp⟩,Ph ?_,by simp⟩;simp only[D6];exact⟨none,0,0,[],[],[],rfl,Az _,by simp,λi u hi=>by simp at hi,by simp[A8,BI],by simp,by simp,by simp⟩
 simp only[Cf]at hm;have s:∀k,k<=len->∃(l:List α) (vs:List Value) (U:List Nat),l.length=k/\(∀a∈l,o a)/\vs.length=k*sz/\BI w (A8 c l) vs [] U/\(∀i u,vs[i]?=some u->w.cell? (a.add i)=some u)/\∀b∈U,b<w.heap.size:=by
  intro k
  induction k with
  |zero=>intro _;exact⟨[],[],[],rfl,by simp,by simp,by simp[A8,BI],by simp,by simp⟩
  |succ k ih=>
   intro hk;obtain⟨l,vs,U,h1,h2,h3,h4,h5,h6⟩:=ih (by omega);obtain⟨cs',k1,k2⟩:=g k (by omega);obtain⟨y,V,g1,g2,g3⟩:=h enc w d n cs' _ k2;obtain⟨_,k3,k4⟩:=World.cells?_some k1;rw[q]at k1 k3 k4;refine⟨l++ [y],vs++cs',U++V,by simp[h1],?_,?_,?_,?_,?_⟩
   ·intro a ha
    rcases Ao.1 ha with ha|ha
    ·exact h2 a ha
    rw[Bi.1 ha];exact g1
   ·rw[Ak,h3,k3,GJ]
   ·rw[Tg];have:=I7 h4 (show BI w (A8 c [y]) cs' [] V by simpa[A8]using g2);simpa using this
   ·intro i u hi;by_cases v:i<vs.length
    ·rw[Ch v]at hi;exact h5 i u hi
    rw[B6<|by omega]at hi;have j:i-vs.length<sz:=by
     have:=(Ae.1 hi).1;omega
    have:=k4 (i-vs.length) j;rw[hi,TI.add_add]at this;rw[<-this];congr 2;omega
   intro b hb
   rcases Ao.1 hb with hb|hb
   ·exact h6 b hb
   exact g3 b hb
 obtain⟨l,vs,U,h1,h2,h3,h4,h5,h6⟩:=s len<|Az _;have h8:len<=9223372036854775807:=by simp only[maxLen]at r;omega
 by_cases z:len=0
 ·subst z;have:vs=[]:=AD (by omega);subst this;refine⟨l,U,⟨by omega,h2⟩,Ph ?_,h6⟩;exact⟨some a,0,cap,[],U,[],rfl,f,by simp,λi u hi=>by simp at hi,h4,by simp,by simp,by simp⟩
 have p:a.block<w.heap.size:=by
  obtain⟨cs',k1,_⟩:=g 0 (by omega);have:=World.cells?_block k1<|by omega
  rwa [Fy]at this
 refine⟨l,a.block::U,⟨by omega,h2⟩,Ph ?_,?_⟩
 ·exact⟨some a,len,cap,vs,U,[a.block],rfl,f,h3,λi u hi=>⟨a,len,cap,rfl,h5 i u hi⟩,h4,by simp,.inl (by simp[BP,Value.ownBlock]),by simp⟩
 intro b hb
 rcases DL.1 hb with rfl|hb
 ·exact p
 exact h6 b hb
theorem ADV {u:α->TV} {H:Type} {d:DataW H} {ps:List MemPlace} {t:TypeId} {o:α->Prop} {enc:TypeId×Value->H} (h:jV P t (λa=>[u a]) o) (hv:v.cells= #[v]) (k:DataW.Trod enc P w 0 (λ_=>true) true t v d ps):
  ∃a U,o a/\n9 w (.one (u a)) v [] U/\∀b∈U,b<w.heap.size:=by
 obtain⟨n,hn⟩:=k;obtain⟨a,U,h1,h2,h3⟩:=h enc w 0 n _ _ hn;rw[hv]at h2;obtain⟨v',c,F1,F2,U1,U2,e,hF,hU,h4,rfl,rfl,rfl⟩:=h2
 injection e with e _
 subst e;obtain⟨rfl,_⟩:=JL.1 hF.symm;refine⟨a,U1,h1,?_,by simpa[hU]using h3⟩;simp only[n9];exact⟨h4,hv⟩
theorem ABA {r:Reach} {a:Nat} {t:TypeId} (h:Value.okWide P w r a t v) (h1:∀fs,P.underlying t≠some (.struct fs)) (h2:∀n e,P.underlying t≠some (.array n e)):v.cells= #[v]:=by
 unfold Value.okWide at h;split at h
 ·rename_i fs b;exact absurd b<|h1 fs
 ·rename_i n e c;exact absurd c<|h2 n e
 unfold Cell.okWide at h;cases v<;>first|rfl|skip
 all_goals
  split at h<;>rename_i hv<;>first|(cases hv;done)|skip
  unfold Cell.ok at h;split at h<;>first|(exact h.elim)|skip
 all_goals rename_i d;cases d
def St.without (E:St) (r:Root):St:={E with boxes:=Cj E.boxes r none,ver:=Cj E.ver r<|E.ver r+1,gen:=Cj E.gen r (E.gen r+1)}
theorem jZ {r s:Root} (h:s≠r):(E.without r).root s=E.root s:=by
 cases s<;>simp[St.without,St.root,Cj,h]
theorem CE.without {w0:Base} {a:Act} (h:CE w0 FA UA N w a E blk FS US) (hF:FS .hand=[]) (hU:US .hand=[]) {r:Root} (hm:r.mem=true):
  CE w0 FA UA N w a (E.without r) blk (Cj (Cj FS r []) .hand (FS r)) (Cj (Cj US r []) .hand (US r)):=by
 have c:r≠ .hand:=by rintro rfl;cases hm
 have d:∀s,Ct w w a a E (E.without r) blk blk s:=by
  intro s;by_cases hs:s=r
  ·subst hs;exact⟨.inl (by simp[St.without,Cj]),.inl<|by simp[St.without,Cj]⟩
  by_cases hh:s= .hand
  ·subst hh;exact Gk (by simp[St.without,Cj,hs]) (by simp[St.without,Cj,hs])<|by simp[St.root,h.nohand]
  exact DS h (by simp[St.without,Cj,hs]) (by simp[St.without,Cj,hs]) (jZ hs) (λ_ _=>rfl) (λ_=>rfl) (λ_ _=>rfl) λ_ _=>rfl
 refine h.two (r1:=r) (r2:= .hand) (L1:=[]) (L2:=FS r) (V1:=[]) (V2:=US r) c (by simpa using h.nodup r) (λb hb=>⟨.inl (by simpa using hb),(h.inF r b<|by simpa using hb).2⟩)
  (λb hb=> .inl ⟨r,by simpa using hb⟩) (Az _) rfl rfl rfl (λ_ _ _ _=>rfl) d (λn _ _=>⟨rfl,rfl⟩) (λs _ hs _=>⟨by simp[St.without,Cj,hs],rfl⟩) ?_ trivial ?_ h.len h.nodef
 ·cases r with
  |slot n=>cases hm
  |hand=>cases hm
  |box n=>exact .inl ⟨by simp[St.without,Cj],rfl,rfl⟩
  |ext n=>exact .inl ⟨by simp[St.without,Cj],rfl,rfl⟩
 simp[St.without,Cj,JI c,h.nohand]
theorem bE {a:Act}:∀{l:List (Bool×TypeId×Operand)},mvR w a l (List.replicate l.length none) [] []
 |[]=>⟨rfl,rfl⟩
 |_::l=>bE (l:=l)
section
variable {w0:Base} {a:Act}
theorem rN {f:FuncId} {x:Operand} {l:List (Bool×TypeId×Operand)} {n:Nat} {K:Act->World->Prop} {Q:Exit->Act->World->Prop} (h:CE w0 FA UA N w a E blk FS US) (hF:FS .hand=[]) (hU:US .hand=[]) {o:Oper} {args:Array Operand} {tys:Array TypeId} (ho:o.op= .call {callee:= .value (.func f),args:=args,argTypes:=tys}) (hf:fQ P f) (hN:∀d,o.dst=some d->d<N) (hl:x::l.map (λx=>x.2.2)=args.toList) {r:Root} (hm:r.mem=true) (hx:E.ptr? x=some (r,[],0)) {cells cells':List TV} (hc:E.boxes r=some cells) (b7:cells'.length=cells.length) {res:SV} {c:Bool} (b1:JY P (E.without r) l (List.replicate l.length none)=some (as,c)) (a0:c=true\/AJ res=false/\Ay cells'=false) (hg:A0 P f (.ext cells::as) res (.ext cells'::List.replicate n .gone)) (hK:∀w' v blk' FS' US',CE w0 FA UA N w' (a.put o.dst v) (((E.setRoot r cells').bump r).put o.dst res) blk' FS' US'->FS' .hand=[]->US' .hand=[]->K (a.put o.dst v) w'):o.wp P a w K Q:=by
 have a1:r≠ .hand:=by rintro rfl;cases hm
 have k2:=h.without hF hU hm;obtain⟨U',k5,k6⟩:=LC k2 bE b1;have a2:∃i T F,w.heap[blk r]?=some (.cells i T (0,0))/\BI w cells i.toList F (US r)/\FS r=blk r::F:=by
  rcases h.box r hm with⟨h1,_⟩|⟨cs,i,T,F,h1,h2,h3,h4⟩
  ·grind
  grind
 obtain⟨i,T,F,b2,b3,b4⟩:=a2;obtain⟨a3,ad,u,a4⟩:=Je h hx;have b5:ad=⟨blk r,0,none⟩:=by
  cases r with
  |slot n=>cases hm
  |hand=>cases hm
  |box n=>simp[pa,Addr.add]at u;exact u.symm
  |ext n=>simp[pa,Addr.add]at u;exact u.symm
 subst b5;have a5:cells≠ []:=by
  rintro rfl
  cases r with
  |slot n=>cases hm
  |hand=>cases hm
  |box n=>simp[St.place,St.root,hc,BB]at a3
  |ext n=>simp[St.place,St.root,hc,BB]at a3
 have a6:a.eval x::l.map (λx=>a.eval x.2.2)=(args.map a.eval).toList:=by
  rw[Qu,<-hl,Cr,FG];rfl
 have k:L6 w (.ext cells::as) (args.map a.eval).toList (FS r++ []) (US r++U'):=by
  rw[<-a6];exact⟨_,_,FS r,[],US r,U',rfl,rfl,rfl,⟨blk r,i,T,F,a4,b2,b3,b4,a5⟩,k5⟩
 rw[AC]at k;have b8:∀s b,b∈Cj (Cj US r []) .hand (US r) s->∃s',b∈US s':=by
  intro s b hb;by_cases hs:s= .hand
  ·subst hs;rw[BZ]at hb;exact⟨r,hb⟩
  rw[Bh hs]at hb;by_cases m:s=r
  ·subst m;rw[BZ]at hb;cases hb
  rw[Bh m]at hb;exact⟨s,hb⟩
 have c0:∀s b,s≠ .hand->b∈Cj (Cj FS r []) .hand (FS r) s->s≠r/\b∈FS s:=by
  intro s b hs hb;rw[Bh hs]at hb;by_cases m:s=r
  ·subst m;rw[BZ]at hb;cases hb
  rw[Bh m]at hb;grind
 have k6':∀b∈U',(∃s,b∈US s)\/(c=false/\∃s,s≠r/\b∈FS s):=by grind
 have h0:∀b∈FS r,b∉US r++U':=by
  intro b hb hb'
  rcases Ao.1 hb' with hb'|hb'
  ·exact h.disU r r b hb hb'
  rcases k6' b hb' with⟨s,h4⟩|⟨_,s,h5,h4⟩
  ·exact h.disU r s b hb h4
  exact h.dis r s (JI h5) b hb h4
 have p:=hg w _ (FS r) (US r++U') k (h.nodup r) h0 (by
  intro b hb
  rcases Ao.1 hb with hb|hb
  ·exact(h.inF r b hb).2
  rcases Ao.1 hb with hb|hb
  ·exact(h.inU r b hb).2
  rcases k6' b hb with⟨s,h4⟩|⟨_,s,h5,h4⟩
  ·exact(h.inU s b h4).2
  exact(h.inF s b h4).2)
 unfold Oper.wp;rw[I6 ho hf];simp only[Oper.upon];rw[Array.toArray_toList]at p;refine Calls.mono p ?_;rintro e w' ⟨v,Fr,Ur,G,V,rfl,g⟩;have t:=g.fin;rw[<-a6]at t;simp only[L6]at t;obtain⟨v1,vs1,G1,G2,V1,V2,e1,rfl,rfl,⟨b,cur',T',F0,g1,g2,g3,rfl,g5⟩,h9⟩:=t;obtain⟨rfl,rfl⟩:=Vt h9
 injection e1 with e1 e2
 rw[<-e1,a4]at g1
 injection g1 with g1
 injection g1 with g1
 injection g1 with g1
 subst g1;have a7:=g.nodup;have a8:=g.dis;have y:=g.inF;have z:=g.inU;simp only[AC]at a7 a8 y z;have hV:∀b∈Ur++V1,(∃s,b∈US s)\/((b∈FS r\/w.heap.size<=b)/\b<w'.heap.size):=by
  intro b hb;obtain⟨h4,h5⟩:=z b hb
  rcases h4 with h4|h4|h4
  ·rcases Ao.1 h4 with h4|h4
   ·grind
   rcases k6' b h4 with h6|⟨h6,s,h7,h8⟩
   ·exact .inl h6
   rcases a0 with a0|⟨c1,c2⟩
   ·grind
   have n1:=Sj g.res c1;have n2:=KQ g3 c2
   grind
  ·grind
  omega
 have b0:∀j,((E.setRoot r cells').bump r).place r [] j=cells'[j]? :=by
  intro j
  cases r with
  |slot n=>cases hm
  |hand=>cases hm
  |box n=>simp[St.place,St.bump,St.setRoot,St.root,Cj,BB]
  |ext n=>simp[St.place,St.bump,St.setRoot,St.root,Cj,BB]
 have a9:∀j,E.place r [] j=cells[j]? :=by
  intro j
  cases r with
  |slot n=>cases hm
  |hand=>cases hm
  |box n=>simp[St.place,St.root,hc,BB]
  |ext n=>simp[St.place,St.root,hc,BB]
 let E1:St:=(E.setRoot r cells').bump r
 have ev:∀s,s≠r->E1.ver s=E.ver s:=by
  intro s hs;cases r<;>simp[E1,St.bump,St.setRoot,Cj,hs]
 have evr:E1.ver r=E.ver r+1:=by cases r<;>simp[E1,St.bump,St.setRoot,Cj]
 have eg:∀s,E1.gen s=E.gen s:=by intro s;cases r<;>rfl
 have er:∀s,s≠r->E1.root s=E.root s:=by
  intro s hs
  cases r with
  |slot n=>cases hm
  |hand=>cases hm
  |box n=>cases s<;>simp[E1,St.bump,St.setRoot,St.root,Cj,hs]
  |ext n=>cases s<;>simp[E1,St.bump,St.setRoot,St.root,Cj,hs]
 have es:∀n,E1.slots n=E.slots n:=by
  intro n
  cases r with
  |slot n=>cases hm
  |hand=>cases hm
  |box n=>rfl
  |ext n=>rfl
 have eb:∀s,E1.boxes s=if s=r then some cells' else E.boxes s:=by
  intro s
  cases r with
  |slot n=>cases hm
  |hand=>cases hm
  |box n=>rfl
  |ext n=>rfl
 have b6:∀s,Ct w w' a a E E1 blk blk s:=by
  intro s;by_cases hs:s=r
  ·subst hs;refine⟨.inl (by rw[evr];omega),.inr ⟨eg s,λj ad hv hp=>?_⟩⟩;refine⟨(by cases s<;>first|exact hv|(cases hm)),?_⟩
   grind
  by_cases hh:s= .hand
  ·subst hh;exact Gk (ev _ hs) (eg _)<|by simp[St.root,h.nohand]
  exact DS h (ev s hs) (eg s) (er s hs) (λ_ _=>rfl) (λ_=>rfl)
   (λb hb=>g.keep b (h.inF s b hb).2<|h.dis s r hs b hb) (λb hb=>g.keep b (h.inU s b hb).2 λe=>h.disU r s b e hb)
 have k7:=h.two (w':=w') (a':=a) (E':=E1) (blk':=blk) (r1:=r) (r2:= .hand) (L1:=blk r::F0) (L2:=Fr) (V1:=V1) (V2:=Ur) a1
  (by grind)
  (λb hb=>by
   grind)
  (λb hb=>by
   have hb':b∈Ur++V1:=by grind
   rcases hV b hb' with q|⟨q1,q2⟩
   ·exact .inl q
   grind)
  g.size g.os g.tape g.output (λb hb q _=>g.keep b hb q) b6 (λn _ _=>⟨es n,rfl⟩) (λs _ hs _=>⟨by grind,rfl⟩)
  (by
   have:GU w' a E1 blk r (blk r::F0) V1:=by
    have:=eb r;rw[AH rfl]at this
    cases r with
    |slot n=>cases hm
    |hand=>cases hm
    |box n=>exact .inr ⟨cells',cur',T',F0,this,g2,g3,rfl⟩
    |ext n=>exact .inr ⟨cells',cur',T',F0,this,g2,g3,rfl⟩
   exact this)
  trivial (by rw[eb,AM<|JI a1];exact h.nohand) h.len h.nodef (hfz:=by
   intro n hn;have e:((E.setRoot r cells').bump r).fz=E.fz:=by rw[RC,Im]
   exact h.frz n<|e▸hn) (hamb:=by rw[Ni,EH])
 have kh:(Cj (Cj FS r (blk r::F0)) .hand Fr) .hand=Fr:=BZ _ _ _;have kh2:(Cj (Cj US r V1) .hand Ur) .hand=Ur:=BZ _ _ _
 cases hd:o.dst with
 |some d=>
  obtain⟨FS',US',q1,q2,q3⟩:=k7.land (w':=w') (d:=d) (s:=res) (v:=v) (F:=Fr) (U:=Ur) (hN d hd) (Oe g.res) (CJ.1 a7).1
   (λb hb=>⟨.inl (by rw[kh];exact hb),(y b<|Bm _ hb).2⟩) (λb hb=> .inl ⟨.hand,by grind⟩) (Az _) rfl rfl rfl (λ_ _ _=>rfl)
  grind
 |none=>
  obtain⟨FS',US',q1,q2,q3⟩:=k7.drop (w':=w') (Az _) rfl rfl rfl λ_ _ _=>rfl;have:=hK w' v blk FS' US' (by rw[hd];exact q1) q2 q3
  grind
end
theorem cE {f:FuncId} (A:Nat->Sa) (hA:∀b,(A b).B=[]/\(∀w,(A b).I w)/\∀c,(A b).pin=some c->c=b) {c:Code} {cells cells':List TV} {res:SV} (hf:P.funcs[f]?=some fn) (hb:fn.body=some c) (h:∀b,Wp P fn.ntmps c (D5 (.ext cells::as) (A b)) λe E=>(e= .normal\/e= .ret)/\∃ss E',Ec P E fn.results.toList=some (ss,E')/\EE ss=res/\E'.boxes (.ext 0)=some cells') (s:cells'.isEmpty=false):
  A0 P f (.ext cells::as) res (.ext cells'::List.replicate as.length .gone):=by
 intro w vs FA UA ha k j l;have ha':=ha;obtain⟨v0,vs0,F1,F2,U1,U2,rfl,rfl,rfl,⟨b0,cur0,T0,F0,rfl,_,_,rfl,_⟩,m⟩:=ha;obtain⟨blk,FS,US,hr,hF,hU⟩:=To (N:=fn.ntmps) ha' k j l (A:=A b0) ((hA b0).2.1 w) (λb hb=>by grind) (hpin:=λc hc=>((hA b0).2.2 c hc).symm);refine calls_of_wp hf hb<|wp_mono (h b0 _ _ _ _ _ _ _ _ hr hF hU) ?_;rintro e a w' ⟨E,blk',FS',US',⟨he,ss,E',h1,rfl,p⟩,h2,h3,h4⟩;obtain⟨us,FS2,US2,F,U,k1,k2,k3,k4,k5⟩:=MM h2 h1;rw[h3,A3]at k4;rw[h4,A3]at k5;have i:∀(n:Nat) (vs:List Value),vs.length=n->L6 w' (List.replicate n .gone) vs [] []:=by
  intro n
  induction n with
  |zero=>intro vs hv;simp at hv;subst hv;exact⟨rfl,rfl,rfl⟩
  |succ n ih=>
   intro vs hv
   cases vs with
   |nil=>simp at hv
   |cons v vs=>exact⟨v,vs,[],[],[],[],rfl,rfl,rfl,⟨rfl,rfl⟩,ih vs<|by simpa using hv⟩
 have o:vs0.length=as.length:=by
  obtain⟨_,_,_,_,h5,_⟩:=Ue m;exact h5
 have r:blk' (.ext 0)=b0:=by
  rw[k3.xblk];rfl
 obtain⟨d,T,F3,b2,b3,b4⟩:∃d T F3,w'.heap[b0]?=some (.cells d T (0,0))/\BI w' cells' d.toList F3 (US2<|.ext 0)/\FS2 (.ext 0)=b0::F3:=by
  rcases k3.box (.ext 0) rfl with⟨q,_⟩|⟨cs,d,T,F3,q1,q2,q3,q4⟩
  ·grind
  grind
 have hne':cells'≠ []:=by grind
 have g:a.defers=[]/\∃v,(results fn a.tmps).run P w'= .ok v w'/\∃v' F U G V,Ending.returned v= .returned v'/\ACH w w' ((b0::F0)++F2) (U1++U2) (EE ss) (.ext cells'::List.replicate as.length .gone) (.pointer (some ⟨b0,0,none⟩)::vs0) v' F U G V:=by
  refine⟨h2.nodef,_,Pg k1,_,F,U,FS2<|.ext 0,US2<|.ext 0,rfl,?_⟩
  exact{
   res:=S9 k2
   fin:=⟨_,vs0,FS2<|.ext 0,[],US2<|.ext 0,[],rfl,by simp,by simp,⟨b0,d,T,F3,rfl,b2,b3,b4,hne'⟩,i _ _ o⟩
   nodup:=by
    rw[<-k4,CJ];exact⟨k3.nodup _,k3.nodup _,λx hx y hy e=>k3.dis .hand (.ext 0) (by simp) x hx<|e▸hy⟩
   dis:=by
    intro b hb hb';rw[<-k4]at hb;rw[<-k5]at hb'
    rcases Ao.1 hb with hb|hb<;>rcases Ao.1 hb' with hb'|hb'
    ·exact k3.disU .hand .hand b hb hb'
    ·exact k3.disU .hand (.ext 0) b hb hb'
    ·exact k3.disU (.ext 0) .hand b hb hb'
    exact k3.disU (.ext 0) (.ext 0) b hb hb'
   inF:=by
    intro b hb;rw[<-k4]at hb
    rcases Ao.1 hb with hb|hb
    ·exact k3.inF .hand b hb
    exact k3.inF (.ext 0) b hb
   inU:=by
    intro b hb;rw[<-k5]at hb
    rcases Ao.1 hb with hb|hb
    ·exact k3.inU .hand b hb
    exact k3.inU (.ext 0) b hb
   os:=k3.os
   tape:=k3.tape
   output:=k3.output
   size:=k3.size
   keep:=λb hb hF=>k3.keep b hb hF (λe=>by grind)}
 rcases he with rfl|rfl
 ·exact g
 exact g
theorem AAd {f:FuncId} {c:Code} {a cells':List TV} {b:SV} (hf:P.funcs[f]?=some fn) (hb:fn.body=some c) (h:Wp P fn.ntmps c (D5 (.ext a::as)) λe E=>(e= .normal\/e= .ret)/\∃ss E',Ec P E fn.results.toList=some (ss,E')/\EE ss=b/\E'.boxes (.ext 0)=some cells') (d:cells'.isEmpty=false):
 A0 P f (.ext a::as) b (.ext cells'::List.replicate as.length .gone):=cE (λ_=>Sa.none) (λ_=>⟨rfl,λ_=>trivial,λ_ h=>by cases h⟩) hf hb (λ_=>h) d
def pQ (b:Nat):Sa:={Sa.none with pin:=some b}
theorem ADg (b:Nat):(pQ b).B=[]/\(∀w,(pQ b).I w)/\∀c,(pQ b).pin=some c->c=b:=⟨rfl,λ_=>trivial,λc h=>by injection h with h;exact h.symm⟩
theorem AGy {len:Nat} {o:Oper} {m:Nat} (r:Root) (q:List Nat) (j:Nat) (hn:n=(m:Int)) {t e:TypeId} {a i:Operand} (ho:o.op= .indexAddr t a i:=by rfl) (ht:P.underlying t=some (.array len e):=by rfl) (hi:E.cell1 P 0 i=some (.int k n):=by rfl) (hp:E.ptr? a=some (r,q,j):=by rfl) (hc:P.cellsOf e=1:=by rfl) (hl:Nat.blt m len=true:=by rfl) (hs:(E.place r q<|j+m).isSome=true:=by rfl):AW P E o=some (.one<|.ptr r (E.stamp r q) q<|j+m):=by
 subst hn;have hl':m<len:=by simp_all
 simp only[AW,ho,ht,hi,hp,hc,AU,AAH]
 grind
def Fd (l:List Int):ByteArray:=strOfNums l
theorem WI {f:Int->List TV} (hf:∀n,f n=[.int .u8 n]):∀l,Pz (A8 f l)=some l
 |[]=>rfl
 |n::l=>by
  have:A8 f (n::l)=f n++A8 f l:=by simp[A8]
  rw[this,hf];simp only[Fj,Pz,WI hf l,BD]
theorem AGE {f:Int->List TV} {x:Operand} {o:Oper} (hf:∀n,f n=[.int .u8 n]) (l:List Int) {s d e e':TypeId} {a:Bool} {r:Root} {q:List Nat} (ho:o.op= .convert s d x:=by rfl) (hs:P.underlying s=some (.slice e):=by rfl) (hd:P.underlying d=some .string:=by rfl) (he:P.underlying e=some (.int .u8):=by rfl) (hr:E.ref x=some (r,q,j):=by rfl) (hp:E.place r q j=some (.sl a e' 1<|A8 f l):=by rfl):AW P E o=some (.one<|.str<|Fd l):=by
 simp only[AW,ho,hs,hd,he,hr,hp,Cf,WI hf,BD];rfl
def shl (k:IntKind) (a b:Int):Option Int:=if b<0 then none else some<|k.wrap<|a*2^(min b.toNat k.bits)
theorem AFH {x y:Operand} {o:Oper} {a b v:Int} (h:shl k a b=some v) {t t2:TypeId} (ho:o.op= .binOp .shl t x y t2:=by rfl) (hx:E.cell1 P t x=some (.int k a):=by rfl) (hy:E.cell1 P t y=some (.int k2 b):=by rfl):AW P E o=some (.one<|.int k v):=by
 unfold shl at h;split at h
 ·cases h
 rename_i hb
 injection h with h
 subst h;simp only[AW,ho,hx,hy,XF,Cf,YC,AM hb,BD]
def dr (l:List α) (lo hi:Int):Option (List α):=if 0<=lo/\lo<=hi/\hi<=l.length then some ((l.drop lo.toNat).take<|hi.toNat-lo.toNat)else none
theorem X7 (hf:∀x,(f x).length=sz):∀(l:List α) (n:Nat),(A8 f l).take (n*sz)=A8 f (l.take n)
 |l,0=>by simp[A8]
 |[],n+1=>by simp[A8]
 |x::l,n+1=>by
  have h1:A8 f (x::l)=f x++A8 f l:=by simp[A8]
  have h2:A8 f (x::l.take n)=f x++A8 f (l.take n):=by simp[A8]
  rw[h1,GJ,vN,List.take_append,hf x,Nat.add_sub_cancel_left,X7 hf l n,Nk,h2,AK (by rw[hf x];omega)]
theorem AGD {v:List α} {x oh:Operand} {o:Oper} (hf:∀x,(f x).length=sz) {a b:Int} (h:dr l a b=some v) {t e e':TypeId} {r:Root} {q:List Nat} (ho:o.op= .slice t x lo (some oh) none:=by rfl) (ht:P.underlying t=some (.slice e):=by rfl) (hr:E.ref x=some (r,q,j):=by rfl) (hp:E.place r q j=some (.sl false e' sz<|A8 f l):=by rfl) (hl:(match lo with|some o=>E.cell1 P 0 o|none=>some<|.int .i64 0)=some (.int k1 a):=by rfl) (hh:E.cell1 P 0 oh=some (.int k2 b):=by rfl) (c:P.cellsOf e=sz:=by rfl) (h0:Nat.blt 0 sz=true:=by rfl):AW P E o=some (.one<|.sl false e' sz<|A8 f v):=by
 have h0':0<sz:=by simp_all
 unfold dr at h;split at h
 ·rename_i hc
  injection h with h
  subst h;have hl':∀lo':Option TV,lo'=some (.int k1 a)->(match lo',E.cell1 P 0 oh with|some (.int _ l0),some (.int _ h0)=>if sz=P.cellsOf e/\0<sz/\0<=l0/\l0<=h0/\h0.toNat*sz<=(A8 f l).length then some (SV.one<|.sl false e' sz<|((A8 f l).drop<|l0.toNat*sz).take<|(h0.toNat-l0.toNat)*sz)else none|_,_=>none)=some (SV.one<|.sl false e' sz<|A8 f<|(l.drop a.toNat).take<|b.toNat-a.toNat):=by
   rintro _ rfl;rw[hh];simp only;rw[AH ⟨c.symm,h0',hc.1,hc.2.1,by rw[EM hf];exact BO _<|by omega⟩,K5 hf,X7 hf]
  simp only[AW,ho,ht,hr,hp];exact hl' _ hl
 cases h
theorem AFK {v:List α} {x:Operand} {o:Oper} (hf:∀x,(f x).length=sz) {a:Int} (h:dr l a (ln l)=some v) {t e e':TypeId} {r:Root} {q:List Nat} (ho:o.op= .slice t x lo none none:=by rfl) (ht:P.underlying t=some (.slice e):=by rfl) (hr:E.ref x=some (r,q,j):=by rfl) (hp:E.place r q j=some (.sl false e' sz<|A8 f l):=by rfl) (hl:(match lo with|some o=>E.cell1 P 0 o|none=>some<|.int .i64 0)=some (.int k1 a):=by rfl) (c:P.cellsOf e=sz:=by rfl) (h0:Nat.blt 0 sz=true:=by rfl):AW P E o=some (.one<|.sl false e' sz<|A8 f v):=by
 have h0':0<sz:=by simp_all
 have b:(A8 f l).length/sz=l.length:=by rw[EM hf];simp_all
 unfold dr at h;split at h
 ·rename_i hc
  injection h with h
  subst h;have hl':∀lo':Option TV,lo'=some (.int k1 a)->(match lo',some (TV.int .i64 (((A8 f l).length/sz:Nat):Int))with|some (.int _ l0),some (.int _ h0)=>if sz=P.cellsOf e/\0<sz/\0<=l0/\l0<=h0/\h0.toNat*sz<=(A8 f l).length then some (SV.one<|.sl false e' sz<|((A8 f l).drop<|l0.toNat*sz).take<|(h0.toNat-l0.toNat)*sz)else none|_,_=>none)=some (SV.one<|.sl false e' sz<|A8 f<|(l.drop a.toNat).take<|((l.length:Nat):Int).toNat-a.toNat):=by
   rintro _ rfl;rw[b];simp only;rw[AH ⟨c.symm,h0',hc.1,hc.2.1,by rw[EM hf];simp⟩,K5 hf,X7 hf]
  simp only[AW,ho,ht,hr,hp];exact hl' _ hl
 cases h
theorem nJ {x y:Option β} {b:Bool} {r:β} (h:(bif b then x else y)=some r) (h1:b=true->x=some r->G) (h2:y=some r->G):G:=by grind
def tD (b:ByteArray):List Int:=b.data.toList.map λc=>(c.toNat:Int)
def aps (l:List Int) (b:ByteArray):Option (List Int):=if l.length+b.size<=140737488355328 then some (l++tD b)else none
theorem XV {f:Int->List TV} (hf:∀n,f n=[.int .u8 n]) (b:ByteArray):Xb b=A8 f (tD b):=by
 unfold Xb tD
 induction b.data.toList with
 |nil=>rfl
 |cons c l ih=>
  have e:∀(x:Int) (m:List Int),A8 f (x::m)=f x++A8 f m:=λx m=>by simp[A8]
  grind
theorem AGt {o:Oper} {f:Int->List TV} {x:Operand} (hf:∀n,f n=[.int .u8 n]) {b:ByteArray} {src dst e:TypeId} (ho:o.op= .convert src dst x:=by rfl) (hd:o.dst=some d:=by rfl) (hN:Nat.blt d N=true:=by rfl) (hs:P.underlying src=some .string:=by rfl) (a:P.underlying dst=some (.slice e):=by rfl) (hx:E.cell1 P src x=some (.str b):=by rfl) (c:qF P e=true:=by rfl):Cu P N false E o=some (E.put (some d)<|.one<|.sl false e 1<|A8 f<|tD b):=by
 have hN':d<N:=by simp_all
 unfold Cu;rw[hd];simp only[AH hN',ho,TY,hs,a,hx];rw[AH c,XV hf]
structure GG (w w':World) (B:List Nat):Prop where
 os:w'.os=w.os
 tape:w'.tape=w.tape
 output:w'.output=w.output
 size:w.heap.size<=w'.heap.size
 keep:∀b,b<w.heap.size->b∉B->w'.heap[b]?=w.heap[b]?
theorem CE.beside {w0:Base} {a:Act} (h:CE w0 FA UA N w a E blk FS US) (hb:GG w w' w0.B) (hB:A'.B=E.amb.B) (hI:A'.I w') (hP:∀b,A'.pin=some b->E.amb.pin=some b):CE w0 FA UA N w' a {E with amb:=A'} blk FS US:=by
 have hF:∀r,∀b∈FS r,w'.heap[b]?=w.heap[b]? :=λr b hx=>hb.keep b (h.inF r b hx).2 (λe=>by
  obtain⟨h1,h2,h3⟩:=h.ambF b e
  rcases(h.inF r b hx).1 with h4|h4
  ·exact h2 h4
  omega)
 have hU:∀r,∀b∈US r,w'.heap[b]?=w.heap[b]? :=λr b hx=>hb.keep b (h.inU r b hx).2 (λe=>by
  obtain⟨h1,h2,h3⟩:=h.ambF b e
  rcases(h.inU r b hx).1 with h4|h4|h4
  ·exact h3 h4
  ·exact h2 h4
  omega)
 have c:∀s,Ct w w' a a E {E with amb:=A'} blk blk s:=λs=>
  DS h rfl rfl (by cases s<;>rfl) (λ_ _=>rfl) (λ_=>rfl) (hF s) (hU s)
 have hr:∀r,GU w' a {E with amb:=A'} blk r (FS r) (US r):=λr=>
  S1 c (h.root r) (λn _=>⟨rfl,rfl⟩) (λ_=>⟨rfl,rfl⟩) (hF r) (hU r)
 constructor
 ·exact λn=>hr<|.slot n
 ·intro r hm
  cases r with
  |slot n=>cases hm
  |hand=>cases hm
  |box n=>exact hr<|.box n
  |ext n=>exact hr<|.ext n
 ·exact h.nohand
 ·exact h.nodup
 ·exact h.dis
 ·exact h.disU
 ·exact λr b hx=>⟨(h.inF r b hx).1,AT (h.inF r b hx).2 hb.size⟩
 ·exact λr b hx=>⟨(h.inU r b hx).1,AT (h.inU r b hx).2 hb.size⟩
 ·exact h.disA
 ·exact hb.os.trans h.os
 ·exact hb.tape.trans h.tape
 ·exact hb.output.trans h.output
 ·exact JJ h.size hb.size
 ·exact λb h1 h2 h3=>(hb.keep b (AT h1 h.size) h3).trans<|h.keep b h1 h2 h3
 ·exact h.len
 ·exact h.nodef
 ·exact h.xblk
 ·rw[hB];exact h.ambB
 ·exact hI
 ·exact h.frz
 ·exact h.ambF
 exact λb hp=>h.pin b<|hP b hp
def Ns (P:Program) (f:FuncId) (A:Sa) (as:List AV) (A':Sa):Prop:=∀(w:World) (vs:List Value),L6 w as vs [] []->(∀b∈A.B,b<w.heap.size)->A.I w->Calls P f vs.toArray w λe w'=>e= .returned (.tuple #[])/\GG w w' A.B/\A'.I w'
theorem AAe {f:FuncId} {c:Code} (hf:P.funcs[f]?=some fn) (hb:fn.body=some c) (hr:fn.results= #[]) (hp:A.pin=none) (h:Wp P fn.ntmps c (D5 as A) λe E=>(e= .normal\/e= .ret)/\E.amb=A'):Ns P f A as A':=by
 intro w vs ha hB hA;obtain⟨blk,FS,US,g,hF,hU⟩:=To (N:=fn.ntmps) ha CV (by simp) (by simp) (A:=A) hA (λb hb=>⟨hB b hb,by simp,by simp⟩) (hpin:=λb h=>by rw[hp]at h;cases h);refine calls_of_wp hf hb<|wp_mono (h _ _ _ _ _ _ _ _ g hF hU) ?_;rintro e a w' ⟨E,blk',FS',US',⟨he,rfl⟩,h2,h3,h4⟩;have i:(results fn a.tmps).run P w'= .ok (.tuple #[]) w':=by
  rw[aR (P:=P),hr];simp
 have d:a.defers=[]/\∃v,(results fn a.tmps).run P w'= .ok v w'/\Ending.returned v= .returned (.tuple #[])/\GG w w' A.B/\E.amb.I w':=
  ⟨h2.nodef,_,i,rfl,⟨h2.os,h2.tape,h2.output,h2.size,λb h5 h6=>h2.keep b h5 (by simp) h6⟩,h2.ambI⟩
 rcases he with rfl|rfl
 ·exact d
 exact d
theorem Sm {w0:Base} {a:Act} {blk:Root->Nat} (h:CE w0 FA UA N w a E blk FS US) (hF:FS .hand=[]) (hU:US .hand=[]) (hd:d<N) {s:SV} (hb:GG w w' w0.B) (hB:A'.B=E.amb.B) (hI:A'.I w') (hs:n9 w' s v [] []) (hP:∀b,A'.pin=some b->E.amb.pin=some b):
  ∃FS' US',CE w0 FA UA N w' (a.put (some d) v) (({E with amb:=A'}:St).put (some d) s) blk FS' US'/\FS' .hand=[]/\US' .hand=[]:=by
 have k:=h.beside hb hB hI hP;exact k.land (w':=w') (F:=[]) (U:=[]) hd (Oe hs) CV (by simp) (by simp) (Az _) rfl rfl rfl λ_ _ _=>rfl
theorem AFo {rr : β} {x : Option α} {k : α → Option β} {f : FuncId} {l : List AV} (h : x.bind k = some rr) (d : Nat) (Am : α → Sa) {args : Array Operand} {tys : Array TypeId} (ho : oo.op = .call { callee := .value (.func f), args := args, argTypes := tys }) (hA : E.amb = A) (hB : ∀ v, (Am v).B = A.B ∧ (Am v).pin = none) (m : JY P E ((tys.toList.zip args.toList).map fun (t, x) => (false, t, x)) (List.replicate args.size none) = some (l, true)) (n : ∀ w vs F U, L6 w l vs F U → F = [] ∧ U = []) (o : ∀ v, x = some v → Ns P f A l (Am v)) (hk : ∀ v, x = some v → k v = some rr → GH P N ops rest (({ E with amb := Am v } : St).put (some d)<|.tup []) Q) (hf : P.funcs[f]? = some fn := by rfl) (hn : (fn.name == "runtime.NumGoroutine") = false := by rfl) (hb : fn.body.isNone = false := by rfl) (hd : oo.dst = some d := by rfl) (hN : Nat.blt d N = true := by rfl) (hz : tys.size = args.size := by rfl) (hg : Bv P ops E oo = some true := by rfl) : GH P N ops (oo :: rest) E Q := by
 obtain⟨v,hv,h⟩:=Ah.1 h;have hN':d<N:=by simpa[B3]using hN
 intro w0 FA UA w a blk FS US hr hF hU;simp only[wpList,Cd hr hg,Cf];refine .inl ?_;have i:((tys.toList.zip args.toList).map λ(t,x)=>(false,t,x)).length=args.size:=by simp[hz]
 obtain⟨U',k5,k6⟩:=LC hr (bE (l:=(tys.toList.zip args.toList).map λ(t,x)=>(false,t,x))) (by rw[i];exact m);have p:((tys.toList.zip args.toList).map λ(t,x)=>(false,t,x)).map (λx=>a.eval x.2.2)=(args.map a.eval).toList:=by
  rw[Qu,FG];have:((λx:Bool×TypeId×Operand=>a.eval x.2.2)∘λ(x:TypeId×Operand)=>(false,x.1,x.2))=a.eval∘Prod.snd:=rfl;refine(BK (λg=>List.map g<|tys.toList.zip args.toList) this).trans ?_;rw[<-FG,List.map_snd_zip<|by simp[hz]]
 rw[p]at k5;obtain⟨_,rfl⟩:=n _ _ _ _ k5;have j:w0.B=A.B:=hr.ambB.trans<|by rw[hA]
 have c:=o v hv w _ k5 (λb hb=>by
  rw[<-j]at hb
  exact AT (hr.ambF b hb).1 hr.size) (by rw[<-hA];exact hr.ambI)
 unfold Oper.wp;rw[I6 ho ⟨fn,hf,by grind,hb⟩];refine Calls.mono c ?_;rintro e w' ⟨rfl,q,hI⟩;obtain⟨FS',US',q1,q2,q3⟩:=Sm (s:= .tup []) (v:= .tuple #[]) hr hF hU hN' (by rw[j];exact q) (by rw[(hB _).1,hA]) hI ⟨[],rfl,rfl,rfl,rfl⟩ (λb hb=>by grind);rw[hd];exact hk v hv h _ _ _ _ _ _ _ _ q1 q2 q3
def IW (P:Program) (Am:List γ->Sa) (lt:γ->γ->Bool) (g:FuncId) (cap:Array Value):Prop:=(∀(args:Array Value) (w:World),(callFunc g args).run P w= .ok (.enter g args) w)/\∀(l:List γ) (i j:Int) (x y:γ),gi l i=some x->gi l j=some y->∀w,(Am l).I w->(∀b∈(Am l).B,b<w.heap.size)->Calls P g (#[.int .i64 i,.int .i64 j]++cap) w λe w'=>e= .returned (.bool<|lt x y)/\GG w w' (Am l).B/\(Am l).I w'
def Nr (P:Program) (Am:List γ->Sa) (sf:FuncId) (cap:Array Value):Prop:=∀(l:List γ) (i j:Int) (x y:γ),gi l i=some x->gi l j=some y->∀w,(Am l).I w->(∀b∈(Am l).B,b<w.heap.size)->∃w',(callFunc sf<|#[.int .i64 i,.int .i64 j]++cap).run P w= .ok (.value<|.tuple #[]) w'/\GG w w' (Am l).B/\(Am<|si (si l i y) j x).I w'
theorem Wj {a:Act} {o:Oper} {t:Nat} {args:Array Operand} {tys:Array TypeId} {g:FuncId} {cap:Array Value} (ho:o.op= .call {callee:= .value (.tmp t),args:=args,argTypes:=tys}) (hv:a.eval (.tmp t)= .func (.func g) #[] cap):
  (execOp a.eval o).run P w=(callFunc g<|args.map a.eval++cap).run P w:=by
 simp[execOp,ho,resolve,hv,Deferred.ofValue,invoke]
theorem ACg {f:Fn} {w0:Base} {a:Act} {blk:Root->Nat} (h:CE w0 FA UA N w a E blk FS US) {t:Nat} {ta cap:Array Value} (hs:E.slots t= .one (.fn f ta cap)):a.eval (.tmp t)= .func f ta cap:=by
 have:=h.slot t;rw[hs]at this;exact this.1.1
theorem AFn {l:List γ} {x y:γ} {i j:Int} {g:FuncId} {cap:Array Value} (c:IW P Am lt g cap) (hx:gi l i=some x) (hy:gi l j=some y) (d:Nat) {t:Nat} {tys:Array TypeId} (hk:GH P N ops rest (E.put (some d) (.one (.bool (lt x y)))) Q) (hA:E.amb=Am l:=by rfl) (ho:oo.op= .call {callee:= .value (.tmp t),args:= #[o1,o2],argTypes:=tys}:=by rfl) (hs:E.slots t= .one (.fn (.func g) #[] cap):=by rfl) (h1:E.cell1 P 0 o1=some (.int .i64 i):=by rfl) (h2:E.cell1 P 0 o2=some (.int .i64 j):=by rfl) (hd:oo.dst=some d:=by rfl) (hN:Nat.blt d N=true:=by rfl) (hg:Bv P ops E oo=some true:=by rfl):GH P N ops (oo::rest) E Q:=by
 have hN':d<N:=by simpa[B3]using hN
 intro w0 FA UA w a blk FS US hr hF hU;simp only[wpList,Cd hr hg,Cf];refine .inl ?_;have h:w0.B=(Am l).B:=hr.ambB.trans<|by rw[hA]
 have m:∀b∈(Am l).B,b<w.heap.size:=λb hb=>by
  rw[<-h]at hb;exact AT (hr.ambF b hb).1 hr.size
 have hI:(Am l).I w:=by rw[<-hA];exact hr.ambI
 have f:=c.2 l i j x y hx hy w hI m;unfold Oper.wp;have e1:=Df hr h1;have e2:=Df hr h2;have k:(execOp a.eval oo).run P w= .ok (.enter g<|#[.int .i64 i,.int .i64 j]++cap) w:=by
  rw[Wj ho<|ACg hr hs];rw[c.1];simp[e1,e2]
 rw[k];refine Calls.mono f ?_;rintro e w' ⟨rfl,n,hI'⟩
 obtain⟨FS',US',q1,q2,q3⟩:=Sm (A':=E.amb) (s:= .one (.bool<|lt x y)) (v:= .bool (lt x y)) hr hF hU hN' (by rw[h];exact n) rfl (by
  rw[hA]
  exact hI') ⟨⟨rfl,rfl,rfl⟩,rfl⟩ λ_ hb=>hb
 rw[hd];exact hk _ _ _ _ _ _ _ _ q1 q2 q3
theorem AFj {l:List γ} {x y:γ} {i j:Int} {cap:Array Value} (c:Nr P Am sf cap) (hB:∀l l',(Am l).B=(Am l').B/\(Am l).pin=none) (hx:gi l i=some x) (hy:gi l j=some y) (d:Nat) {t:Nat} {tys:Array TypeId} (hk:GH P N ops rest (({E with amb:=Am (si (si l i y) j x)}:St).put (some d)<|.tup []) Q) (hA:E.amb=Am l:=by rfl) (ho:oo.op= .call {callee:= .value (.tmp t),args:= #[o1,o2],argTypes:=tys}:=by rfl) (hs:E.slots t= .one (.fn (.func sf) #[] cap):=by rfl) (h1:E.cell1 P 0 o1=some (.int .i64 i):=by rfl) (h2:E.cell1 P 0 o2=some (.int .i64 j):=by rfl) (hd:oo.dst=some d:=by rfl) (hN:Nat.blt d N=true:=by rfl) (hg:Bv P ops E oo=some true:=by rfl):GH P N ops (oo::rest) E Q:=by
 have hN':d<N:=by simpa[B3]using hN
 intro w0 FA UA w a blk FS US hr hF hU;simp only[wpList,Cd hr hg,Cf];refine .inl ?_;have e:w0.B=(Am l).B:=hr.ambB.trans<|by rw[hA]
 have g:∀b∈(Am l).B,b<w.heap.size:=λb hb=>by
  rw[<-e]at hb;exact AT (hr.ambF b hb).1 hr.size
 have hI:(Am l).I w:=by rw[<-hA];exact hr.ambI
 obtain⟨w',h,k,hI'⟩:=c l i j x y hx hy w hI g;unfold Oper.wp;have e1:=Df hr h1;have e2:=Df hr h2;have f:(execOp a.eval oo).run P w= .ok (.value<|.tuple #[]) w':=by
  rw[Wj ho<|ACg hr hs]
  grind
 rw[f];rw[Oper.upon_value];obtain⟨FS',US',q1,q2,q3⟩:=Sm (s:= .tup []) (v:= .tuple #[]) hr hF hU hN' (by rw[e];exact k) (by grind) hI' ⟨[],rfl,rfl,rfl,rfl⟩ (λb hb=>by rw[(hB _ []).2]at hb;cases hb);rw[hd];exact hk _ _ _ _ _ _ _ _ q1 q2 q3
def gi2 (l:List γ) (i j:Int):Option (γ×γ):=(gi l i).bind λx=>(gi l j).bind λy=>some (x,y)
theorem AD5 {rr:β} {l:List γ} {i j:Int} {k:γ×γ->Option β} {g:FuncId} {cap:Array Value} (a:IW P Am lt g cap) (h:(gi2 l i j).bind k=some rr) (d:Nat) {t:Nat} {tys:Array TypeId} (hk:∀v,k v=some rr->GH P N ops rest (E.put (some d) (.one (.bool (lt v.1 v.2)))) Q) (hA:E.amb=Am l:=by rfl) (ho:oo.op= .call {callee:= .value (.tmp t),args:= #[o1,o2],argTypes:=tys}:=by rfl) (hs:E.slots t= .one (.fn (.func g) #[] cap):=by rfl) (h1:E.cell1 P 0 o1=some (.int .i64 i):=by rfl) (h2:E.cell1 P 0 o2=some (.int .i64 j):=by rfl) (hd:oo.dst=some d:=by rfl) (hN:Nat.blt d N=true:=by rfl) (hg:Bv P ops E oo=some true:=by rfl):GH P N ops (oo::rest) E Q:=by
 obtain⟨v,hv,h⟩:=Ah.1 h;obtain⟨x,hx,hv⟩:=Ah.1 hv;obtain⟨y,hy,hv⟩:=Ah.1 hv
 injection hv with hv
 subst hv;exact AFn a hx hy d (hk _ h) hA ho hs h1 h2 hd hN hg
def s6 (l:List γ) (i j:Int):Option (List γ):=(gi l i).bind λx=>(gi l j).bind λy=>some<|si (si l i y) j x
theorem AD3 {rr:β} {l:List γ} {i j:Int} {k:List γ->Option β} {cap:Array Value} (a:Nr P Am sf cap) (hB:∀l l',(Am l).B=(Am l').B/\(Am l).pin=none) (h:((s6 l i j).bind k)=some rr) (d:Nat) {t:Nat} {tys:Array TypeId} (hk:∀l',k l'=some rr->GH P N ops rest (({E with amb:=Am l'}:St).put (some d)<|.tup []) Q) (hA:E.amb=Am l:=by rfl) (ho:oo.op= .call {callee:= .value (.tmp t),args:= #[o1,o2],argTypes:=tys}:=by rfl) (hs:E.slots t= .one (.fn (.func sf) #[] cap):=by rfl) (h1:E.cell1 P 0 o1=some (.int .i64 i):=by rfl) (h2:E.cell1 P 0 o2=some (.int .i64 j):=by rfl) (hd:oo.dst=some d:=by rfl) (hN:Nat.blt d N=true:=by rfl) (hg:Bv P ops E oo=some true:=by rfl):GH P N ops (oo::rest) E Q:=by
 obtain⟨l',hl',h⟩:=Ah.1 h;obtain⟨x,hx,hl'⟩:=Ah.1 hl';obtain⟨y,hy,hl'⟩:=Ah.1 hl'
 injection hl' with hl'
 subst hl';exact AFj a hB hx hy d (hk _ h) hA ho hs h1 h2 hd hN hg
def AFN (ls:List (Nat×SV)) (bs:List (Root×List TV)) (A:Sa):St:={AEY ls bs with amb:=A}
def TV.flat:TV->Bool
 | .int .. | .bool _| .str _| .fn .. =>true
 |_=>false
def uZ:AV->Bool
 | .sv (.one t)=>t.flat
 | .sv (.agg cs)=>cs.all TV.flat
 |_=>false
theorem pN {t:TV} (h:D6 w t v F U) (ht:t.flat=true):F=[]/\U=[]:=by
 cases t<;>first|(cases ht;done)|(exact h.2)
theorem LV:∀{ts:List TV} {vs:List Value} {F U:List Nat},BI w ts vs F U->ts.all TV.flat=true->F=[]/\U=[]
 |[],vs,F,U,h,_=>by exact h.2
 |t::ts,vs,F,U,h,ht=>by
  simp only[FH,Ag]at ht;obtain⟨v,a,F1,F2,U1,U2,rfl,rfl,rfl,h1,h2⟩:=h;obtain⟨rfl,rfl⟩:=pN h1 ht.1;obtain⟨rfl,rfl⟩:=LV h2 ht.2;exact⟨rfl,rfl⟩
theorem dH:∀{l:List AV},l.all uZ=true->∀(w:World) (vs:List Value) (F U:List Nat),L6 w l vs F U->F=[]/\U=[]
 |[],_,w,vs,F,U,h=>h.2
 |s::l,hl,w,vs,F,U,h=>by
  simp only[FH,Ag]at hl;obtain⟨v,a,F1,F2,U1,U2,rfl,rfl,rfl,h1,h2⟩:=h;obtain⟨rfl,rfl⟩:=dH hl.2 w a F2 U2 h2;have:F1=[]/\U1=[]:=by
   match s,hl.1,h1 with
   | .sv (.one t),ht,h1=>exact pN h1.1 ht
   | .sv (.agg cs),ht,h1=>obtain⟨_,_,h1⟩:=h1;exact LV h1 ht
  grind
def TV.val:TV->Value
 | .int k n=> .int k n
 | .bool b=> .bool b
 | .str s=> .string s
 | .fn f ta c=> .func f ta c
 |_=> .bool false
theorem ADc {t:TV} (h:D6 w t v F U) (ht:t.flat=true):v=t.val:=by
 cases t<;>first|(cases ht;done)|(exact h.1)
theorem Wl:∀{ts:List TV} {vs:List Value} {F U:List Nat},BI w ts vs F U->ts.all TV.flat=true->vs=ts.map TV.val
 |[],vs,F,U,h,_=>by exact h.1
 |t::ts,vs,F,U,h,ht=>by
  simp only[FH,Ag]at ht;obtain⟨v,a,F1,F2,U1,U2,rfl,_,_,h1,h2⟩:=h;rw[ADc h1 ht.1,Wl h2 ht.2];rfl
theorem ACV {t:TV} (ht:t.flat=true):D6 w t t.val [] []:=by
 cases t<;>first|(cases ht;done)|(simp[D6,TV.val])
theorem V9:∀{ts:List TV},ts.all TV.flat=true->BI w ts (ts.map TV.val) [] []
 |[],_=>by simp[BI]
 |t::ts,ht=>by
  simp only[FH,Ag]at ht;exact⟨_,_,[],[],[],[],rfl,rfl,rfl,ACV ht.1,V9 ht.2⟩
theorem Zd {t:TV}:t.val.oneCell'=true:=by cases t<;>rfl
theorem JG (e:TypeId) (fz:Nat×Nat) (g:Nat):∀(vs:List Value) (o:Nat) (a:Array Value) (w:World),w.heap[g]?=some (.cells a e fz)->o+vs.length<=a.size->(w.setCells g o vs).heap[g]?=some (.cells (setRow a.toList o vs).toArray e fz)
 |[],o,a,w,h,_=>by
  simp only[World.setCells];rw[h];congr 2;apply AD9;simp[setRow]
 |v::vs,o,a,w,h,hl=>by
  simp only[AA]at hl;simp only[World.setCells];have h1:(w.setCell ⟨g,o,none⟩ v).heap[g]?=some (.cells (a.setIfInBounds o v) e fz):=by
   simp only[World.setCell,Array.getElem?_modify,Cf,h,BD];rfl
  rw[JG e fz g vs (o+1) (a.setIfInBounds o v) _ h1 (by simp;omega)];congr 2;apply AD9;simp only[Array.toList_setIfInBounds];apply BN;intro k;have l1:(a.toList.take o).length=o:=by simp;omega
  have l2:((a.toList.set o v).take<|o+1).length=o+1:=by simp;omega
  simp only[setRow,AE]
  rcases Vz k o with hk|hk|hk
  ·rw[Ch (by omega),Ch (by omega),Hh,Hh,AH (by omega),AH hk,List.getElem?_set_ne<|by omega]
  ·subst hk;rw[Ch (by omega),B6 (by omega),Hh,AH (by omega),List.getElem?_set_self (by simp;omega),l1];simp
  have eL:(List.take (o+1) (a.toList.set o v)++(vs++List.drop (o+1+vs.length) (a.toList.set o v)))[k]?=(vs++List.drop (o+1+vs.length) (a.toList.set o v))[k-(o+1)]? :=by grind
  have eR:(List.take o a.toList++(v::vs++List.drop (o+(v::vs).length) a.toList))[k]?=(vs++List.drop (o+(v::vs).length) a.toList)[k-(o+1)]? :=by
   rw[B6 (by omega),l1,show k-o=(k-(o+1))+1 by omega,BH,List.getElem?_cons_succ]
  rw[eL,eR];by_cases hv:k-(o+1)<vs.length
  ·grind
  rw[B6 (by omega),B6 (by omega),JK,JK,List.getElem?_set_ne (by omega),AA];congr 1;omega
structure r9 (n b g cap:Nat) (e T:TypeId) (sz:Nat) (enc:γ->List TV) (w:World) (l:List γ):Prop where
 ne:b≠g
 len:l.length=n
 box:w.heap[b]?=some (.cells #[.slice (some ⟨g,0,none⟩) l.length cap] T (0,0))
 row:∃cur,w.heap[g]?=some (.cells cur e (0,0))/\cur.size=cap*sz/\cur.toList.take (l.length*sz)=(A8 enc l).map TV.val
 le:l.length<=cap/\cap<=maxLen
def No (n b g cap:Nat) (e T:TypeId) (sz:Nat) (enc:γ->List TV) (l:List γ):Sa where
 B:=[b,g]
 I:=λw=>r9 n b g cap e T sz enc w l
 st:=λw w' h hk=>⟨h.ne,h.len,by rw[hk b<|by simp];exact h.box,by rw[hk g<|by simp];exact h.row,h.le⟩
 rd:=λad=>if ad.spot.isSome=true then none else if ad.block=b then(if ad.off=0 then some (.slice (some ⟨g,0,none⟩) n cap)else none)else if ad.block=g then(if ad.off<l.length*sz then((A8 enc l).map TV.val)[ad.off]? else none)else none
 rdI:=λw ad v h hr=>by
  obtain⟨bl,off,spot⟩:=ad
  cases spot with
  |some s=>simp at hr
  |none=>
   simp only[NL,Es,Ke]at hr;split at hr
   ·rename_i hb;subst hb;split at hr
    ·rename_i ho;subst ho
     injection hr with hr
     subst hr;simp[World.cell?,h.box,h.len]
    cases hr
   split at hr
   ·rename_i hg;subst hg;split at hr
    ·rename_i ho;obtain⟨a,h1,h2,h3⟩:=h.row;rw[<-h3,Hh,AH ho]at hr;simpa[World.cell?,h1]using hr
    cases hr
   cases hr
theorem R3 (f:γ->List TV) (x:γ) (l:List γ):A8 f (x::l)=f x++A8 f l:=by simp[A8]
theorem G6 (g:Nat):∀(vs:List Value) (o:Nat) (w:World),(w.setCells g o vs).heap.size=w.heap.size
 |[],_,_=>rfl
 |v::vs,o,w=>by
  simp only[World.setCells];rw[G6 g vs,World.size_setCell]
theorem Jv (g:Nat):∀(vs:List Value) (o:Nat) (w:World),(w.setCells g o vs).tape=w.tape
 |[],_,_=>rfl
 |v::vs,o,w=>by
  simp only[World.setCells];rw[Jv g vs,World.tape_setCell]
theorem QU (f:α->β) (A B:List α) (j:Nat):(setRow A j B).map f=setRow (A.map f) j (B.map f):=by
 simp[setRow,List.map_take,List.map_drop]
theorem kI {enc:γ->List TV} (a:∀x,(enc x).length=sz) (x z:γ):setRow (enc x) 0 (enc z)=enc z:=by
 simp only[setRow,Lv,A3,HY]
 grind
theorem Ty {l:List γ} {i:Int} {x z:γ} {enc:γ->List TV} (a:∀x,(enc x).length=sz) (h:gi l i=some x):setRow (A8 enc l) (i.toNat*sz) (enc z)=A8 enc (si l i z):=
 Xe a h (k:=0) (by rw[a];simp) (kI a x z)
theorem IP {i:Int} (h:gi l i=some x):0<=i/\l[i.toNat]?=some x:=by
 unfold gi at h
 grind
theorem ZP {ie:TypeInfo} {b g cap:Nat} {e T:TypeId} {enc:γ->List TV} (f:∀x,(enc x).length=sz) (n:Nat) (gS:Bool) (hx:∀args W,(callFunc sf args).run P W=((Extern.ReflectliteSwapper.swap gS args).run P W).andThen λv w'=> .ok (.value v) w') (h3:P.info? e=some ie) (h:ie.size=sz) (s:∀w,(isAgg e).run P w= .ok true w):
  Nr P (No n b g cap e T sz enc) sf #[.slice (some ⟨g,0,none⟩) n cap,typeHandle P e]:=by
 intro l i j x y hi hj w hI hB;obtain⟨h4,hn,a2,⟨d,hg,h5,h6⟩,u⟩:=hI;obtain⟨i0,i1⟩:=IP hi;obtain⟨j0,j1⟩:=IP hj;obtain⟨a,rfl⟩:=Cz i0;obtain⟨c,rfl⟩:=Cz j0;simp only[AU]at i1 j1;have la:=(Ae.1 i1).1;have lc:=(Ae.1 j1).1;have hX:((enc x).map TV.val).length=sz:=by grind
 have hY:((enc y).map TV.val).length=sz:=by grind
 have a3:(A8 enc l).length=l.length*sz:=EM f l;have o:l.length*sz<=d.size:=by rw[h5];exact BO _ u.1
 have h7:(a+1)*sz<=l.length*sz:=BO _ la;have h8:(c+1)*sz<=l.length*sz:=BO _ lc;rw[GJ]at h7 h8;have cell:∀(m:Nat) (z:γ),l[m]?=some z->∀k v,((enc z).map TV.val)[k]?=some v->w.cell? ⟨g,0+m*ie.size+k,none⟩=some v:=by
  intro m z hm k v hk;have a4:=(Ae.1 hk).1;have lm:=(Ae.1 hm).1;have a5:(m+1)*sz<=l.length*sz:=BO _ lm;rw[h,HY];have e1:(A8 enc l)[m*sz+k]?=(enc z)[k]? :=by
   have:=K5 f l m;have h2:(A8 enc l)[m*sz+k]?=((A8 enc l).drop<|m*sz)[k]? :=by grind
   rw[h2,this,AI lm];have e3:A8 enc (l[m]::l.drop (m+1))=enc l[m]++A8 enc (l.drop<|m+1):=R3 _ _ _
   grind
  have e2:d.toList[m*sz+k]?=some v:=by
   have:(d.toList.take<|l.length*sz)[m*sz+k]?=d.toList[m*sz+k]? :=by grind
   grind
  simp only[World.cell?,hg,Aa];simpa using e2
 have frz:∀(m k:Nat),w.frozen? ⟨g,0+m*ie.size+k,none⟩=false:=by
  intro m k;simp[World.frozen?,hg]
 have p:=Go.Lib.run_swap_cells (P:=P) gS e ie h3 s g 0 n cap a c (by omega) (by omega) ((enc x).map TV.val) ((enc y).map TV.val) (by rw[hX,h]) (by rw[hY,h]) (λv hv=>by obtain⟨t,_,rfl⟩:=A5.1 hv;exact Zd) (λv hv=>by obtain⟨t,_,rfl⟩:=A5.1 hv;exact Zd) w (cell a x i1) (cell c y j1) (λk _=>frz a k) λk _=>frz c k;simp only[HY,h]at p;have h1:=JG e (0,0) g ((enc y).map TV.val) (a*sz) d w hg (by rw[hY];omega);have h9:(setRow d.toList (a*sz)<|(enc y).map TV.val).toArray.size=d.size:=by
  rw[List.size_toArray,Ez (by rw[hY];simp;omega)];simp
 have h2:=JG e (0,0) g ((enc x).map TV.val) (c*sz) _ _ h1 (by rw[h9,hX];omega);have kB:∀k,k<w.heap.size->k≠g->((w.setCells g (a*sz)<|(enc y).map TV.val).setCells g (c*sz)<|(enc x).map TV.val).heap[k]?=w.heap[k]? :=by
  intro k hk h0;have s1:(w.setCells g (a*sz)<|(enc y).map TV.val).heap.size=w.heap.size:=G6 g _ _ _;rw[World.heap_setCells_other _ g _ _ (by rw[s1];exact hk) h0,World.heap_setCells_other _ g _ _ hk h0]
 refine⟨(w.setCells g (a*sz)<|(enc y).map TV.val).setCells g (c*sz)<|(enc x).map TV.val,?_,⟨?_,?_,?_,?_,?_⟩,?_⟩
 ·rw[hx];have ea:(#[Value.int .i64 (a:Int),Value.int .i64 (c:Int)]++ #[Value.slice (some ⟨g,0,none⟩) n cap,typeHandle P e])= #[.int .i64 (a:Int),.int .i64 (c:Int),.slice (some ⟨g,0,none⟩) n cap,typeHandle P e]:=rfl;rw[ea,p];rfl
 ·rw[World.os_setCells,World.os_setCells]
 ·rw[Jv,Jv]
 ·rw[World.output_setCells,World.output_setCells]
 ·rw[G6,G6];exact Az _
 ·intro k hk a0;exact kB k hk λe=>a0 (by rw[e];simp[No])
 have q:(si (si l (a:Int) y) (c:Int) x).length=l.length:=by simp[si]
 have lcur:d.toList.length=d.size:=by simp
 have r:(setRow d.toList (a*sz)<|(enc y).map TV.val).length=d.size:=by omega
 have a6:(setRow (setRow d.toList (a*sz)<|(enc y).map TV.val) (c*sz)<|(enc x).map TV.val).length=d.size:=by rw[Ez (by rw[hX,r];omega),r]
 refine⟨h4,q.trans hn,?_,⟨_,h2,?_,?_⟩,by rw[q];exact u⟩
 ·grind
 ·grind
 rw[q];rw[M5 (by rw[hX];omega) (by rw[r];exact o),M5 (by rw[hY];omega) (by rw[lcur];exact o),h6,<-QU,<-QU];have e1:setRow (A8 enc l) (a*sz) (enc y)=A8 enc (si l (a:Int) y):=by
  have:=Ty f (z:=y) hi
  rwa [AU]at this
 obtain⟨z0,a1⟩:∃z0,gi (si l (a:Int) y) (c:Int)=some z0:=by
  have lc2:c<(si l (a:Int) y).length:=by simp only[si,Ki];exact lc
  refine⟨(si l (a:Int) y)[c],?_⟩;unfold gi;simp
 have e2:=Ty f (z:=x) a1;rw[AU]at e2;rw[e1,e2]
theorem nQ {w0:Base} {a:Act} {blk:Root->Nat} (h:CE w0 FA UA N w a E blk FS US) {t:Nat} {ad:Addr} (hs:E.slots t= .one (.adr ad)):a.eval (.tmp t)= .pointer (some ad):=by
 have:=h.slot t;rw[hs]at this;exact this.1.1
theorem ADH {w0:Base} {a:Act} {blk:Root->Nat} (h:CE w0 FA UA N w a E blk FS US) {t:Nat} {ad:Addr} {n c:Nat} (hs:E.slots t= .one (.hdr ad n c)):a.eval (.tmp t)= .slice (some ad) n c:=by
 have:=h.slot t;rw[hs]at this;exact this.1.1
theorem FI.any {o:Oper} (d:Nat) (t:TV) (hk:FI P N ops rest (E.put (some d) (.one t)) K) (b:∀(w0:Base) (FA UA:List Nat) (w:World) (a:Act) (blk:Root->Nat) (FS US:Root->List Nat),CE w0 FA UA N w a E blk FS US->∃v,(execOp a.eval o).run P w= .ok (.value v) w/\D6 w t v [] []/\v.cells= #[v]) (hd:o.dst=some d:=by rfl) (hN:Nat.blt d N=true:=by rfl) (hg:Bv P ops E o=some true:=by rfl):FI P N ops (o::rest) E K:=by
 have hN':d<N:=by simpa[B3]using hN
 intro w0 FA UA w a blk FS US k1 k2 k3;obtain⟨v,h1,h2,h3⟩:=b w0 FA UA w a blk FS US k1;simp only[wpStill,Cd k1 hg,Cf,Oper.still,h1,Oper.stillUpon_value];rw[hd];refine hk _ _ _ _ _ _ _ _ (k1.put (F:=[]) (U:=[]) hN' (by simp only[Ik];exact⟨G3 h2,λ_=>h3⟩) Za.none) ?_ ?_
 ·rw[Bh (by simp),k2]
 rw[Bh (by simp),k3]
theorem Ls {o:Oper} {ty:TypeId} {x:Nat} (d:Nat) (t:TV) (v:Value) {ad:Addr} (hk:FI P N ops rest (E.put (some d) (.one t)) K) (hs:E.slots x= .one (.adr ad)) (b:E.amb.rd ad=some v) (hv:∀w,D6 w t v [] []) (hc:v.cells= #[v]) (ha:fU P ty=false) (hu:(P.underlying ty).isSome=true) (ho:o.op= .load ty (.tmp x):=by rfl) (hd:o.dst=some d:=by rfl) (hN:Nat.blt d N=true:=by rfl) (hg:Bv P ops E o=some true:=by rfl):FI P N ops (o::rest) E K:=
 FI.any d t hk (λw0 FA UA w a blk FS US h=>by
  have h1:=nQ h hs;have h2:=E.amb.rdI w ad v h.ambI b;have c:P.underlying ty≠none:=by grind
  refine⟨v,?_,hv w,hc⟩
  simp[execOp,ho,h1,Instr.loadAt,Instr.sureAddr,loadVar,Xi c,ha,h2]) hd hN hg
theorem PD {o:Oper} {x f:Nat} (d:Nat) {ad:Addr} {st:TypeId} (hk:FI P N ops rest (E.put (some d) (.one (.adr (ad.add fd.offset)))) K) (hs:E.slots x= .one (.adr ad)) (c:P.underlying st=some (.struct fs)) (hf:fs[f]?=some fd) (b:P.cellsOf fd.type≠0) (ho:o.op= .fieldAddr st (.tmp x) f:=by rfl) (hd:o.dst=some d:=by rfl) (hN:Nat.blt d N=true:=by rfl) (hg:Bv P ops E o=some true:=by rfl):FI P N ops (o::rest) E K:=
 FI.any d (.adr<|ad.add fd.offset) hk (λw0 FA UA w a blk FS US h=>by
  have h1:=nQ h hs;obtain⟨i,hi,_⟩:=GA b;refine⟨.pointer<|some<|ad.add fd.offset,?_,by simp[D6],rfl⟩
  simp[execOp,ho,h1,Instr.fieldAt,run_underlying c,hf,Instr.sureAddr,fieldPlace,run_sizeOf w hi,b]) hd hN hg
theorem XJ {o:Oper} {x:Nat} {i:Operand} (d:Nat) {ad:Addr} {n c:Nat} {t e:TypeId} {m:Int} (hk:FI P N ops rest (E.put (some d) (.one (.adr (ad.add (m.toNat*P.cellsOf e))))) K) (hs:E.slots x= .one (.hdr ad n c)) (ht:P.underlying t=some (.slice e)) (hi:E.cell1 P 0 i=some (.int k m)) (h0:0<=m) (hm:m<n) (f:P.cellsOf e≠0) (ho:o.op= .indexAddr t (.tmp x) i:=by rfl) (hd:o.dst=some d:=by rfl) (hN:Nat.blt d N=true:=by rfl) (hg:Bv P ops E o=some true:=by rfl):FI P N ops (o::rest) E K:=
 FI.any d (.adr<|ad.add<|m.toNat*P.cellsOf e) hk (λw0 FA UA w a blk FS US h=>by
  have h1:=ADH h hs;have h2:=Df h hi;obtain⟨inf,b,_⟩:=GA f;refine⟨.pointer<|some<|ad.add<|m.toNat*P.cellsOf e,?_,by simp[D6],rfl⟩
  simp[execOp,ho,h1,h2,Instr.indexAt,run_underlying ht,asIntOf,h0,hm,run_sizeOf w b]) hd hN hg
def WN (P:Program) (f:FuncId) (A:Sa) (as:List AV) (t:TV):Prop:=∀(w:World) (vs:List Value),L6 w as vs [] []->(∀b∈A.B,b<w.heap.size)->A.I w->Calls P f vs.toArray w λe w'=>e= .returned (WN.val t)/\GG w w' A.B/\A.I w'
where
 val:TV->Value
 | .int k n=> .int k n
 | .bool b=> .bool b
 | .str s=> .string s
 | .fn f ta c=> .func f ta c
 |_=> .bool false
theorem ABi {t:TV} (h:D6 w t v F U) (ht:t.flat=true):v=WN.val t:=by
 cases t<;>first|(cases ht;done)|(exact h.1)
theorem cD {f:FuncId} {c:Code} {t:TV} (hf:P.funcs[f]?=some fn) (hb:fn.body=some c) (ht:t.flat=true) (h:Wp P fn.ntmps c (D5 as A) λe E=>(e= .normal\/e= .ret)/\E.amb=A/\∃E',Ec P E fn.results.toList=some ([.one t],E')) (hp:A.pin=none:=by rfl):WN P f A as t:=by
 intro w vs ha hB hA;obtain⟨blk,FS,US,g,hF,hU⟩:=To (N:=fn.ntmps) ha CV (by simp) (by simp) (A:=A) hA (λb hb=>⟨hB b hb,by simp,by simp⟩) (hpin:=λb h=>by rw[hp]at h;cases h);refine calls_of_wp hf hb<|wp_mono (h _ _ _ _ _ _ _ _ g hF hU) ?_;rintro e a w' ⟨E,blk',FS',US',⟨he,i,E',h1⟩,h2,h3,h4⟩;obtain⟨us,FS2,US2,F,U,k1,k2,k3,k4,k5⟩:=MM h2 h1;have k6:=S9 k2;have hv:=ABi k6.1 ht;have hI:A.I w':=by rw[<-i];exact h2.ambI
 have d:a.defers=[]/\∃v,(results fn a.tmps).run P w'= .ok v w'/\Ending.returned v= .returned (WN.val t)/\GG w w' A.B/\A.I w':=
  ⟨h2.nodef,_,Pg k1,by rw[hv],⟨h2.os,h2.tape,h2.output,h2.size,λb h5 h6=>h2.keep b h5 (by simp) h6⟩,hI⟩
 rcases he with rfl|rfl
 ·exact d
 exact d
theorem Xt {g : FuncId} {ad : Addr} (hf : P.funcs[g]? = some fn) (hn : (fn.name == "runtime.NumGoroutine") = false) (hb : fn.body.isNone = false) (h : ∀ (l : List γ) (i j : Int) (x y : γ), gi l i = some x → gi l j = some y → (∃ w, (Am l).I w) → WN P g (Am l) [.sv (.one (.int .i64 i)), .sv (.one (.int .i64 j)), .sv (.one (.adr ad))] (.bool (lt x y))) : IW P Am lt g #[.pointer (some ad)] := by
 refine⟨λargs w=>?_,λl i j x y hx hy w hI hB=>?_⟩
 ·have a:fn.body≠none:=by grind
  have b : fn.name ≠ "runtime.NumGoroutine" := by grind
  simp[callFunc,hf,b,a]
 exact h l i j x y hx hy ⟨w,hI⟩ w [.int .i64 i,.int .i64 j,.pointer<|some ad]
  ⟨_,_,[],[],[],[],rfl,rfl,rfl,⟨by simp[D6],rfl⟩,⟨_,_,[],[],[],[],rfl,rfl,rfl,⟨by simp[D6],rfl⟩,⟨_,_,[],[],[],[],rfl,rfl,rfl,⟨by simp[D6],rfl⟩,⟨rfl,rfl,rfl⟩⟩⟩⟩ hB hI
def Ug (P:Program) (f:FuncId) (t e sz:Nat) (enc:γ->List TV) (g:FuncId) (l l':List γ):Prop:=∀(w:World) (b:Nat) (v:Value) (T:TypeId),w.heap[b]?=some (.cells #[v] T (0,0))->w.ownsRow 0 e sz v l.length ((A8 enc l).map TV.val)->b∉BP v->
  Calls P f #[.iface t v,.func (.func g) #[] #[.pointer<|some ⟨b,0,none⟩]] w λr w'=>r= .returned (.tuple #[])/\GG w w' (b::BP v)/\w'.heap[b]?=some (.cells #[v] T (0,0))/\w'.ownsRow 0 e sz v l'.length ((A8 enc l').map TV.val)
section
variable {w0:Base} {a:Act}
theorem CE.turn (h:CE w0 FA UA N w a E blk FS US) (hF:FS .hand=[]) (hU:US .hand=[]) {r:Root} (hm:r.mem=true) {cells cells':List TV} (hc:E.boxes r=some cells) (l:cells'.length=cells.length) (hb:GG w w' (FS r)) (d:∃c T F,w'.heap[blk r]?=some (.cells c T (0,0))/\BI w' cells' c.toList F (US r)/\FS r=blk r::F):
  ∃FS' US',CE w0 FA UA N w' a ((E.setRoot r cells').bump r) blk FS' US'/\FS' .hand=[]/\US' .hand=[]:=by
 have f:r≠ .hand:=by rintro rfl;cases hm
 have i:∀j,((E.setRoot r cells').bump r).place r [] j=cells'[j]? :=by
  intro j
  cases r with
  |slot n=>cases hm
  |hand=>cases hm
  |box n=>simp[St.place,St.bump,St.setRoot,St.root,Cj,BB]
  |ext n=>simp[St.place,St.bump,St.setRoot,St.root,Cj,BB]
 have g:∀j,E.place r [] j=cells[j]? :=by
  intro j
  cases r with
  |slot n=>cases hm
  |hand=>cases hm
  |box n=>simp[St.place,St.root,hc,BB]
  |ext n=>simp[St.place,St.root,hc,BB]
 let E1:St:=(E.setRoot r cells').bump r
 have ev:∀s,s≠r->E1.ver s=E.ver s:=by
  intro s hs;cases r<;>simp[E1,St.bump,St.setRoot,Cj,hs]
 have evr:E1.ver r=E.ver r+1:=by cases r<;>simp[E1,St.bump,St.setRoot,Cj]
 have eg:∀s,E1.gen s=E.gen s:=by intro s;cases r<;>rfl
 have er:∀s,s≠r->E1.root s=E.root s:=by
  intro s hs
  cases r with
  |slot n=>cases hm
  |hand=>cases hm
  |box n=>cases s<;>simp[E1,St.bump,St.setRoot,St.root,Cj,hs]
  |ext n=>cases s<;>simp[E1,St.bump,St.setRoot,St.root,Cj,hs]
 have es:∀n,E1.slots n=E.slots n:=by
  intro n
  cases r with
  |slot n=>cases hm
  |hand=>cases hm
  |box n=>rfl
  |ext n=>rfl
 have eb:∀s,E1.boxes s=if s=r then some cells' else E.boxes s:=by
  intro s
  cases r with
  |slot n=>cases hm
  |hand=>cases hm
  |box n=>rfl
  |ext n=>rfl
 have k:∀s,Ct w w' a a E E1 blk blk s:=by
  intro s;by_cases hs:s=r
  ·subst hs;refine⟨.inl (by rw[evr];omega),.inr ⟨eg s,λj ad hv hp=>?_⟩⟩;refine⟨(by cases s<;>first|exact hv|(cases hm)),?_⟩
   grind
  by_cases hh:s= .hand
  ·subst hh;exact Gk (ev _ hs) (eg _)<|by simp[St.root,h.nohand]
  exact DS h (ev s hs) (eg s) (er s hs) (λ_ _=>rfl) (λ_=>rfl)
   (λb hx=>hb.keep b (h.inF s b hx).2<|h.dis s r hs b hx) (λb hx=>hb.keep b (h.inU s b hx).2 λe=>h.disU r s b e hx)
 have k7:=h.two (w':=w') (a':=a) (E':=E1) (blk':=blk) (r1:=r) (r2:= .hand) (L1:=FS r) (L2:=[]) (V1:=US r) (V2:=[]) f
  (by simpa using h.nodup r)
  (λb hx=>⟨.inl (by simpa using hx),AT (h.inF r b<|by simpa using hx).2 hb.size⟩)
  (λb hx=> .inl ⟨r,by simpa using hx⟩)
  hb.size hb.os hb.tape hb.output (λb hx q _=>hb.keep b hx q) k (λn _ _=>⟨es n,rfl⟩) (λs _ hs _=>⟨by rw[eb,AM hs],rfl⟩)
  (by
   obtain⟨c,T,F,g1,g2,g3⟩:=d;have:GU w' a E1 blk r (FS r) (US r):=by
    have e1:=eb r;rw[AH rfl]at e1
    cases r with
    |slot n=>cases hm
    |hand=>cases hm
    |box n=>exact .inr ⟨cells',c,T,F,e1,g1,g2,g3⟩
    |ext n=>exact .inr ⟨cells',c,T,F,e1,g1,g2,g3⟩
   exact this)
  trivial (by rw[eb,AM<|JI f];exact h.nohand) h.len h.nodef (hfz:=by
   intro n hn;have e:((E.setRoot r cells').bump r).fz=E.fz:=by rw[RC,Im]
   exact h.frz n<|e▸hn) (hamb:=by rw[Ni,EH])
 exact⟨_,_,k7,BZ _ _ _,BZ _ _ _⟩
end
theorem W0 {w0:Base} {a:Act} (h:CE w0 FA UA N w a E blk FS US) (hF:FS .hand=[]) (hU:US .hand=[]) (hd:d<N) (v:Value):∃FS' US',CE w0 FA UA N w (a.put (some d) v) (E.put (some d) (.one .junk)) blk FS' US'/\FS' .hand=[]/\US' .hand=[]:=
 h.land (w':=w) (F:=[]) (U:=[]) hd (by simp[Ik,DK,TV.isJunk]) CV (by simp) (by simp) (Az _) rfl rfl rfl (λ_ _ _=>rfl)
theorem Gf {enc:γ->List TV} (a:∀x,(enc x).all TV.flat=true):∀l:List γ,(A8 enc l).all TV.flat=true
 |[]=>rfl
 |x::l=>by
  have:A8 enc (x::l)=enc x++A8 enc l:=by simp[A8]
  rw[this,List.all_append,a,Gf a l];rfl
theorem Kg {o:Oper} (h:o.guard=none):Bv P ops E o=some true:=by unfold Bv;rw[h]
theorem GH.srt {l l':List γ} {o1 o2 o3:Oper} {d1 d2 d3 x p ver:Nat} {enc:γ->List TV} {sz e t:Nat} {f b:FuncId} {r:Root} {tys:Array TypeId} (hs:Ug P f t e sz enc b l l') (hk:GH P N ops rest (((((E.put (some d1) (.one .junk)).put (some d2) (.one .junk)).setRoot r [.sl true e sz (A8 enc l')]).bump r).put (some d3) (.tup [])) Q) (h:∀x,(enc x).length=sz) (c:∀x,(enc x).all TV.flat=true) (hx:E.slots x= .one (.view r ver [] 0):=by rfl) (i:E.ver r=ver:=by rfl) (hp:E.ptr? (.tmp p)=some (r,[],0):=by rfl) (hc:E.boxes r=some [.sl true e sz<|A8 enc l]:=by rfl) (hm:r.mem=true:=by rfl) (h1:o1.op= .makeInterface t (.tmp x):=by rfl) (h2:o2.op= .makeFunc (.func b) #[] #[.tmp p]:=by rfl) (h3:o3.op= .call {callee:= .value (.func f),args:= #[.tmp d1,.tmp d2],argTypes:=tys}:=by rfl) (k1:o1.dst=some d1:=by rfl) (k2:o2.dst=some d2:=by rfl) (k3:o3.dst=some d3:=by rfl) (g1:o1.guard=none:=by rfl) (g2:o2.guard=none:=by rfl) (g3:o3.guard=none:=by rfl) (u:Nat.blt d1 N=true:=by rfl) (y:Nat.blt d2 N=true:=by rfl) (z:Nat.blt d3 N=true:=by rfl) (h0:Nat.beq d1 d2=false:=by rfl) (j:Nat.beq p d1=false:=by rfl) (h4:Nat.blt 0 sz=true:=by rfl) (ht:P.underlying t=some (.slice e):=by rfl) (hf:fQ P f):GH P N ops (o1::o2::o3::rest) E Q:=by
 have hN1':d1<N:=by simpa[B3]using u
 have hN2':d2<N:=by simpa[B3]using y
 have hN3':d3<N:=by simpa[B3]using z
 have hne':d1≠d2:=by intro e;subst e;simp at h0
 have hne2':p≠d1:=by intro e;subst e;simp at j
 have hsz':0<sz:=by simpa[B3]using h4
 intro w0 FA UA w a blk FS US hr hF hU;have k:∃v T F,w.heap[blk r]?=some (.cells #[v] T (0,0))/\D6 w (.sl true e sz<|A8 enc l) v F (US r)/\FS r=blk r::F:=by
  rcases hr.box r hm with⟨q1,_⟩|⟨cs,m,T,F,q1,q2,q3,q4⟩
  ·grind
  rw[hc]at q1
  injection q1 with q1
  subst q1;obtain⟨v,h5,F1,F2,U1,U2,e1,rfl,e3,q5,rfl,rfl,rfl⟩:=q3;have:m= #[v]:=by grind
  grind
 obtain⟨v,T,F,b1,b2,b3⟩:=k;obtain⟨n,vs,F',b4,b5,rfl⟩:=b2;have h6:=Wl b5<|Gf c l;obtain⟨rfl,a4⟩:=LV b5<|Gf c l;subst h6;have h7:n=l.length:=by
  have q:=b4.1;rw[Bs,EM h l]at q;exact(Nat.eq_of_mul_eq_mul_right hsz' q).symm
 subst h7;have h8:blk r∉BP v:=by
  have:=hr.nodup r
  grind
 have evx:a.eval (.tmp x)=v:=by
  have q:=hr.slot x;rw[hx]at q;obtain⟨⟨_,_,_,q4⟩,_⟩:=q;obtain⟨q5,_⟩:=q4 i
  cases r with
  |slot n=>cases hm
  |hand=>cases hm
  |box n=>simpa[pv,B5,Addr.add,World.cell?,b1]using q5.symm
  |ext n=>simpa[pv,B5,Addr.add,World.cell?,b1]using q5.symm
 have evp:a.eval (.tmp p)= .pointer (some ⟨blk r,0,none⟩):=by
  obtain⟨_,ad,q1,q2⟩:=Je hr hp;rw[q2]
  cases r with
  |slot n=>cases hm
  |hand=>cases hm
  |box n=>simp[pa,Addr.add]at q1;rw[<-q1]
  |ext n=>simp[pa,Addr.add]at q1;rw[<-q1]
 obtain⟨FS1,US1,r1,r2,r3⟩:=W0 hr hF hU hN1'<|.iface t v;have e1:(execOp a.eval o1).run P w= .ok (.value<|.iface t v) w:=by
  simp[execOp,h1,Instr.makeInterface,run_underlying ht,evx]
 simp only[wpList,Cd hr<|Kg (P:=P) (ops:=ops) g1,Cf];refine .inl ?_
 try unfold Oper.wp
 rw[e1,Oper.upon_value,k1];have evp1:(a.put (some d1)<|.iface t v).eval (.tmp p)= .pointer (some ⟨blk r,0,none⟩):=by rw[Dl hne2',evp]
 obtain⟨FS2,US2,s1,s2,s3⟩:=W0 r1 r2 r3 hN2'<|.func (.func b) #[] #[.pointer<|some ⟨blk r,0,none⟩];have e2:(execOp (a.put (some d1)<|.iface t v).eval o2).run P w= .ok (.value<|.func (.func b) #[] #[.pointer<|some ⟨blk r,0,none⟩]) w:=by
  simp[execOp,h2,Instr.makeFunc,evp1]
 simp only[wpList,Cd r1<|Kg (P:=P) (ops:=ops) g2,Cf];refine .inl ?_
 try unfold Oper.wp
 rw[e2,Oper.upon_value,k2];simp only[wpList,Cd s1<|Kg (P:=P) (ops:=ops) g3,Cf];refine .inl ?_;have h9:d1<a.tmps.size:=AT hN1' hr.len;have a0:d2<(a.put (some d1)<|.iface t v).tmps.size:=AT hN2' r1.len
 try unfold Oper.wp
 rw[I6 h3 hf];have ea: #[Operand.tmp d1,.tmp d2].map ((a.put (some d1)<|.iface t v).put (some d2)<|.func (.func b) #[] #[.pointer<|some ⟨blk r,0,none⟩]).eval= #[.iface t v,.func (.func b) #[] #[.pointer<|some ⟨blk r,0,none⟩]]:=by
  simp[Gx a0,Dl hne',Gx h9]
 rw[ea];refine Calls.mono (hs w (blk r) v T b1 b4 h8) ?_;rintro ee w' ⟨rfl,a1,a2,a3⟩;have o:((E.put (some d1)<|.one .junk).put (some d2)<|.one .junk).boxes r=some [.sl true e sz<|A8 enc l]:=hc;have g:∃F2,FS2 r=blk r::F2/\F2=BP v/\US2 r=[]:=by
  rcases s1.box r hm with⟨q1,_⟩|⟨cs,m,T2,F2,q1,q2,q3,q4⟩
  ·grind
  rw[o]at q1
  injection q1 with q1
  subst q1;rw[b1]at q2
  injection q2 with q2
  injection q2 with q2
  subst q2;obtain⟨v2,h5,F3,F4,U1,U2,e1,rfl,e3,q5,rfl,rfl,rfl⟩:=q3;simp at e1;subst e1;obtain⟨n,vs,F',c4,c5,rfl⟩:=q5;obtain⟨rfl,rfl⟩:=LV c5<|Gf c l
  grind
 obtain⟨F2,f1,rfl,f3⟩:=g;obtain⟨FS3,US3,t1,t2,t3⟩:=s1.turn s2 s3 hm o (cells':=[.sl true e sz<|A8 enc l']) rfl (w':=w') (by rw[f1];exact a1)
  ⟨#[v],T,BP v,a2,by
   rw[f3];refine⟨v,[],BP v,[],[],[],rfl,by simp,rfl,?_,rfl,rfl,rfl⟩
   exact⟨l'.length,_,[],a3,V9<|Gf c l',by simp⟩,f1⟩
 obtain⟨FS4,US4,u1,u2,u3⟩:=t1.land (w':=w') (d:=d3) (s:= .tup []) (v:= .tuple #[]) (F:=[]) (U:=[]) hN3' (by simp[Ik,Sg]) CV (by simp) (by simp) (Az _) rfl rfl rfl λ_ _ _=>rfl;rw[k3];exact hk _ _ _ _ _ _ _ _ u1 u2 u3
def xY (b:Nat) (v:Value) (T:TypeId) (e sz n:Nat) (xs:List Value):Sa where
 B:=b::BP v
 I:=λw=>w.heap[b]?=some (.cells #[v] T (0,0))/\w.ownsRow 0 e sz v n xs
 st:=λw w' h hk=>⟨by grind,h.2.1,by
  rcases h.2.2 with q|⟨g,cap,a,rfl,q1,q2,q3⟩
  ·exact .inl q
  exact .inr ⟨g,cap,a,rfl,q1,by rw[hk g<|by simp[BP,Value.ownBlock]];exact q2,q3⟩⟩
theorem lJ {l:List γ} {i:Int} {x:γ} {k:Nat} {n b g cap:Nat} {e T:TypeId} {enc:γ->List TV} (a:∀x,(enc x).length=sz) {t:TV} {ad:Addr} (hi:gi l i=some x) (hk:(enc x)[k]?=some t) (hb:b≠g) (c:ad=⟨g,i.toNat*sz+k,none⟩):(No n b g cap e T sz enc l).rd ad=some t.val:=by
 subst c;obtain⟨i0,i1⟩:=IP hi;have lm:=(Ae.1 i1).1;have d:=(Ae.1 hk).1;rw[a]at d;have f:(i.toNat+1)*sz<=l.length*sz:=BO _ lm;have e1:(A8 enc l)[i.toNat*sz+k]?=(enc x)[k]? :=by
  have h2:(A8 enc l)[i.toNat*sz+k]?=((A8 enc l).drop<|i.toNat*sz)[k]? :=by grind
  rw[h2,K5 a l i.toNat,AI lm,R3]
  grind
 simp only[No,NL,Es,Ke]
 grind
theorem lK {l:List γ} {n b g cap:Nat} {e T:TypeId} {enc:γ->List TV}:(No n b g cap e T sz enc l).rd ⟨b,0,none⟩=some (.slice (some ⟨g,0,none⟩) n cap):=by
 simp[No]
theorem YD {g m:Nat}:((⟨g,0,none⟩:Addr).add m)=⟨g,m,none⟩:=by
 unfold Addr.add
 grind
theorem jB {i:Int} (h:gi l i=some x):0<=i/\i<l.length:=by
 obtain⟨i0,i1⟩:=IP h
 grind
def le1 (t t':TV):Prop:=t=t'\/∃e sz a cells',t= .sl true e sz a/\By a=cells'/\t'= .sl false e sz cells'
def les:List TV->List TV->Prop
 |[],ts'=>ts'=[]
 |t::ts,ts'=>∃x xs,ts'=x::xs/\le1 t x/\les ts xs
mutual
def dL:SV->SV->Prop
 | .one t,s'=>∃t',s'= .one t'/\le1 t t'
 | .agg cs,s'=>∃cs',s'= .agg cs'/\les cs cs'
 | .tup ss,s'=>∃ss',s'= .tup ss'/\UL ss ss'
def UL:List SV->List SV->Prop
 |[],ss'=>ss'=[]
 |s::ss,ss'=>∃x xs,ss'=x::xs/\dL s x/\UL ss xs
end
theorem AEo {t:TV}:le1 t t:= .inl rfl
theorem AEn:∀{ts:List TV},les ts ts
 |[]=>rfl
 |t::ts=>⟨t,ts,rfl,AEo,AEn⟩
theorem les.c {t x:TV} {ts xs:List TV} (h:le1 t x) (k:les ts xs):les (t::ts) (x::xs):=⟨x,xs,rfl,h,k⟩
theorem le1.s {e sz:Nat} {a cells':List TV} (h:By a=cells'):le1 (.sl true e sz a) (.sl false e sz cells'):= .inr ⟨e,sz,a,cells',rfl,h,rfl⟩
mutual
theorem AFc:∀{s:SV},dL s s
 | .one t=>⟨t,rfl,AEo⟩
 | .agg cs=>⟨cs,rfl,AEn⟩
 | .tup ss=>⟨ss,rfl,yQ⟩
theorem yQ:∀{ss:List SV},UL ss ss
 |[]=>rfl
 |s::ss=>⟨s,ss,rfl,AFc,yQ⟩
end
theorem dL.a {cs cs':List TV} (h:les cs cs'):dL (.agg cs) (.agg cs'):=⟨cs',rfl,h⟩
theorem dL.o {t t':TV} (h:le1 t t'):dL (.one t) (.one t'):=⟨t',rfl,h⟩
theorem AGN {ss':List SV} (h:UL ss ss'):dL (.tup ss) (.tup ss'):=⟨ss',rfl,h⟩
theorem UL.c {xs:List SV} {s x:SV} (h:dL s x) (k:UL ss xs):UL (s::ss) (x::xs):=⟨x,xs,rfl,h,k⟩
def Js (F U F' U':List Nat):Prop:=F'.Sublist F/\∀b∈U',b∈U\/(b∈F/\b∉F')
theorem TE {F1 F2 U1 U2 F1' F2' U1' U2':List Nat} (hd:(F1++F2).Nodup) (h:Js F1 U1 F1' U1') (k:Js F2 U2 F2' U2'):Js (F1++F2) (U1++U2) (F1'++F2') (U1'++U2'):=by
 obtain⟨_,_,hd⟩:=CJ.1 hd;refine⟨h.1.append k.1,λb hb=>?_⟩
 rcases Ao.1 hb with hb|hb
 ·rcases h.2 b hb with q|⟨q1,q2⟩
  ·grind
  refine .inr ⟨by simp[q1],λhc=>?_⟩
  rcases Ao.1 hc with hc|hc
  ·exact q2 hc
  exact hd b q1 b (k.1.subset hc) rfl
 rcases k.2 b hb with q|⟨q1,q2⟩
 ·grind
 refine .inr ⟨by simp[q1],λhc=>?_⟩
 rcases Ao.1 hc with hc|hc
 ·exact hd b (h.1.subset hc) b q1 rfl
 exact q2 hc
theorem Js.refl:Js F U F U:=⟨List.Sublist.refl _,λb hb=> .inl hb⟩
theorem AEO {t t':TV} (h:D6 w t v F U) (k:le1 t t'):∃F' U',D6 w t' v F' U'/\Js F U F' U':=by
 rcases k with rfl|⟨e,sz,a,cells',rfl,rfl,rfl⟩
 ·exact⟨F,U,h,Js.refl⟩
 obtain⟨U',h1,h2⟩:=T9 h;exact⟨[],U',h1,List.nil_sublist _,λb hb=>(h2 b hb).elim (λq=> .inr ⟨q,by simp⟩) .inl⟩
def oA (ops:Array Oper) (i:Nat):Oper:=match ops[i]? with
 |some o=>o
 | none => { dst := none, op := .load 0 (.tmp 0), type := 0, pos := "", after := #[], guard := none }
theorem Jf {ops:Array Oper} (h:Nat.blt i ops.size=true):ops[i]?=some (oA ops i):=by
 have:i<ops.size:=by simpa[B3]using h
 unfold oA
 grind
theorem G0 {ops:Array Oper} (h:Nat.blt i ops.size=true):ops.toList.drop i=oA ops i::ops.toList.drop (i+1):=by
 have hi:i<ops.toList.length:=by simpa[B3]using h
 have h1:=Jf h;rw[<-Array.getElem?_toList,Ab hi]at h1
 injection h1 with h1
 rw[AI hi,h1]
def RV (P:Program) (ops:Array Oper) (E:St) (i:Nat):Bool:=Nat.blt i ops.size&&(match Bv P ops E (oA ops i)with|some b=>b|none=>false)
theorem Hy {ops:Array Oper} (h:RV P ops E i=true):Nat.blt i ops.size=true/\Bv P ops E (oA ops i)=some true:=by
 simp only[RV,Ag]at h
 grind
def Gz (N:Nat) (o:Oper):Bool:=match o.dst with
 |some d=>Nat.blt d N
 |none=>false
theorem EN {o:Oper} (h:Gz N o=true):∃d,o.dst=some d/\Nat.blt d N=true/\d<N:=by
 unfold Gz at h;split at h
 ·rename_i d hd;exact⟨d,hd,h,by simpa[B3]using h⟩
 cases h
def AAY (P:Program) (N:Nat) (ops:Array Oper) (mv:Bool) (E:St) (i:Nat):Option St:=bif Nat.blt i ops.size then
  match Bv P ops E (oA ops i)with
  |some true=>Cu P N mv E<|oA ops i
  |some false=>bif Gz N (oA ops i)then some (E.put (oA ops i).dst<|.tup [])else none
  |none=>none else none
def RT (P:Program) (N:Nat) (ops:Array Oper):Nat->Nat->Nat->St->Option St
 |0,_,_,E=>some E
 |k+1,m,i,E=>match AAY P N ops (Nat.beq (m %2) 1) E i with
  |some E'=>RT P N ops k (m/2) (i+1) E'
  |none=>none
def PP (P:Program) (N:Nat) (ops:Array Oper) (k m i:Nat) (E:St):St:=(RT P N ops k m i E).getD E
theorem getD_some {α:Type _} {x:Option α} {a:α} (h:x.isSome=true):x=some (x.getD a):=by
 cases x with
 |none=>cases h
 |some y=>rfl
def RW (P:Program) (N:Nat) (ops:Array Oper) (i:Nat) (E:St) (Q:Exit->St->Prop):Prop:=GH P N ops (ops.toList.drop i) E Q
def SW (P:Program) (N:Nat) (ops:Array Oper) (m i:Nat) (E:St) (K:St->Prop):Prop:=FI P N ops ((ops.toList.take m).drop i) E K
theorem bd {r:β} {x:Option α} {k:α->Option β} (h:x.bind k=some r) (hk:∀a,x=some a->k a=some r->G):G:=by
 obtain⟨a,ha,h⟩:=Ah.1 h;exact hk a ha h
theorem RW.nil (h:Q .normal E) (hi:Nat.ble ops.size i=true:=by kernel_rfl):RW P N ops i E Q:=by
 have:ops.size<=i:=by simpa[Qr]using hi
 unfold RW;rw[EQ<|by simpa using this];exact GH.nil h
theorem Br {mv:Bool} (hs:Cu P N mv E (oA ops i)=some E') (h:RW P N ops (i+1) E' Q) (hk:RV P ops E i=true:=by kernel_rfl):RW P N ops i E Q:=by
 obtain⟨h1,h2⟩:=Hy hk;unfold RW;rw[G0 h1];exact GH.op mv h2 hs h
theorem RW.st {mv:Bool} (hs:AAY P N ops mv E i=some E') (h:RW P N ops (i+1) E' Q):RW P N ops i E Q:=by
 unfold AAY at hs
 cases hi:Nat.blt i ops.size with
 |false=>grind
 |true=>
  rw[hi]at hs;unfold RW;rw[G0 hi];split at hs
  ·rename_i hg;exact GH.op mv hg hs h
  ·rename_i hg
   cases hd:Gz N (oA ops i)with
   |false=>grind
   |true=>
    rw[hd]at hs
    injection hs with hs
    subst hs;obtain⟨d,h1,_,h2⟩:=EN hd;rw[h1]at h;exact ACI h1 h2 hg h
  cases hs
section
variable {m:Nat}
theorem RW.run:∀{k m i:Nat} {E E':St},RT P N ops k m i E=some E'->RW P N ops (i+k) E' Q->RW P N ops i E Q
 |0,m,i,E,E',h,hw=>by
  simp only[RT]at h
  grind
 |k+1,m,i,E,E',h,hw=>by
  simp only[RT]at h;split at h
  ·rename_i E1 h1;exact RW.st h1 (RW.run h (by grind))
  cases h
end
theorem AAu (k m:Nat) (h:RW P N ops (i+k) (PP P N ops k m i E) Q) (hk:(RT P N ops k m i E).isSome=true:=by kernel_rfl):RW P N ops i E Q:=RW.run (getD_some hk) h
def qok (P:Program) (N:Nat) (ops:Array Oper) (i:Nat) (E:St):Bool:=RV P ops E i&&pk (oA ops i)&&Gz N (oA ops i)
theorem tP (h:qok P N ops i E=true):RV P ops E i=true/\pk (oA ops i)=true/\∃d,(oA ops i).dst=some d/\Nat.blt d N=true/\d<N:=by
 simp only[qok,Ag]at h;exact⟨h.1.1,h.1.2,EN h.2⟩
theorem AFf {s:SV} (hp:AW P E (oA ops i)=some s) (h:RW P N ops (i+1) (E.put (oA ops i).dst s) Q) (hk:qok P N ops i E=true:=by kernel_rfl):RW P N ops i E Q:=by
 obtain⟨h1,h2,d,h3,h4,_⟩:=tP hk;rw[h3]at h;exact Br (wF hp h3 h4 h2) h h1
theorem AF5 {r:β} {b:Bool} (t:Nat) (h:(bif b then tx else ty)=some r) (ht:tx=some r->RW P N ops i (E.rs t true) Q) (hf:ty=some r->RW P N ops i (E.rs t false) Q) (hc:E.slots t=B b:=by kernel_rfl):RW P N ops i E Q:=AFk h t ht hf hc
section
variable {m:Nat}
theorem R6 (h:Nat.blt i ops.size=true) (hm:Nat.blt i m=true):(ops.toList.take m).drop i=oA ops i::(ops.toList.take m).drop (i+1):=by
 have hi:i<ops.size:=by simpa[B3]using h
 have a:i<m:=by simpa[B3]using hm
 have hl:i<(ops.toList.take m).length:=by simp;omega
 have h1:=Jf h;rw[AI hl]
 grind
end
section
variable {m:Nat}
theorem SW.nil (h:K E) (hi:(Nat.ble ops.size i||Nat.ble m i)=true:=by kernel_rfl):SW P N ops m i E K:=by
 unfold SW
 rw[EQ (by
  rw[CT]at hi
  rcases hi with hi|hi
  ·have:ops.size<=i:=by simpa[Qr]using hi
   simp;omega
  have:m<=i:=by simpa[Qr]using hi
  simp;omega)]
 exact FI.nil h
end
def tA (P:Program) (N:Nat) (ops:Array Oper) (m:Nat) (E:St) (i:Nat):Option St:=bif Nat.blt i ops.size&&Nat.blt i m&&Gz N (oA ops i)then
  match Bv P ops E (oA ops i)with
  |some true=>match JR P E (oA ops i)with
   |some s=>some<|E.put (oA ops i).dst s
   |none=>none
  |some false=>some<|E.put (oA ops i).dst<|.tup []
  |none=>none else none
def gO (P:Program) (N:Nat) (ops:Array Oper) (m:Nat):Nat->Nat->St->Option St
 |0,_,E=>some E
 |k+1,i,E=>match tA P N ops m E i with
  |some E'=>gO P N ops m k (i+1) E'
  |none=>none
theorem SW.st {m:Nat} (hs:tA P N ops m E i=some E') (h:SW P N ops m (i+1) E' K):SW P N ops m i E K:=by
 unfold tA at hs
 cases hb:(Nat.blt i ops.size&&Nat.blt i m&&Gz N (oA ops i))with
 |false=>grind
 |true=>
  rw[hb]at hs;simp only[Ag]at hb;obtain⟨d,h1,_,h2⟩:=EN hb.2;unfold SW;rw[R6 hb.1.1 hb.1.2];split at hs
  ·rename_i hg;split at hs
   ·rename_i s a
    injection hs with hs
    subst hs;rw[h1]at h;exact FI.op s hg h1 h2 a h
   cases hs
  ·rename_i hg
   injection hs with hs
   subst hs;rw[h1]at h;exact ACE h1 h2 hg h
  cases hs
theorem SW.run {m:Nat}:∀{k i:Nat} {E E':St},gO P N ops m k i E=some E'->SW P N ops m (i+k) E' K->SW P N ops m i E K
 |0,i,E,E',h,hw=>by
  simp only[gO]at h
  grind
 |k+1,i,E,E',h,hw=>by
  simp only[gO]at h;split at h
  ·rename_i E1 h1;exact SW.st h1 (SW.run h (by grind))
  cases h
theorem Co {m:Nat} (k:Nat) (h:SW P N ops m (i+k) ((gO P N ops m k i E).getD E) K) (hk:(gO P N ops m k i E).isSome=true:=by kernel_rfl):SW P N ops m i E K:=SW.run (getD_some hk) h
theorem Bo {m:Nat} {s:SV} (hp:AW P E (oA ops i)=some s) (h:SW P N ops m (i+1) (E.put (oA ops i).dst s) K) (hk:(qok P N ops i E&&Nat.blt i m)=true:=by kernel_rfl):SW P N ops m i E K:=by
 rw[Ag]at hk;obtain⟨h1,h2,d,h3,h4,h5⟩:=tP hk.1;obtain⟨h6,h7⟩:=Hy h1;rw[h3]at h;unfold SW;rw[R6 h6 hk.2];exact FI.op s h7 h3 h5 (wH hp h2) h
theorem UK {m:Nat} {r:β} {b:Bool} (t:Nat) (h:(bif b then tx else ty)=some r) (ht:tx=some r->SW P N ops m i (E.rs t true) K) (hf:ty=some r->SW P N ops m i (E.rs t false) K) (hc:E.slots t=B b:=by kernel_rfl):SW P N ops m i E K:=AFb h t ht hf hc
def lsd (n:Nat):List Nat->Array Bool
 |[]=>Array.replicate n false
 |i::l=>(lsd n l).setIfInBounds i true
def KW (P:Program) (N:Nat) (ops:Array Oper) (ts:List Nat) (dn:List Nat) (E:St) (Q:Exit->St->Prop):Prop:=YL P N ops ts (ops.size-dn.length) (lsd ops.size dn) E Q
def KB (P:Program) (N:Nat) (ops:Array Oper) (ts:List Nat) (dn:List Nat) (i:Nat) (E:St) (Q:Exit->St->Prop):Prop:=jX P N ops ts i E (λE'=>KW P N ops ts (i::dn) E' Q) Q
theorem KW.done {ts:List Nat} (h:Q .normal E) (hr:(Region.ready .any ops (lsd ops.size dn)).isEmpty=true:=by kernel_rfl):KW P N ops ts dn E Q:=YL.done h<|by simpa using hr
def rdy (ops:Array Oper) (dn l:List Nat):Bool:=(Region.ready .any ops (lsd ops.size dn)==l)&&Nat.blt dn.length ops.size
theorem Wz (h:Nat.blt dn.length ops.size=true):ops.size-dn.length=(ops.size-(i::dn).length)+1:=by
 have:dn.length<ops.size:=by simpa[B3]using h
 grind
theorem KW.all {ts:List Nat} (l:List Nat) (h:∀i∈l,KB P N ops ts dn i E Q) (a:l≠ []) (hr:rdy ops dn l=true):KW P N ops ts dn E Q:=by
 simp only[rdy,Ag,CG]at hr;unfold KW;rw[Wz (i:=0) hr.2];exact YL.all l (λi hi=>h i hi) hr.1 a
theorem AB {ts:List Nat} (i:Nat) (h:KB P N ops ts dn i E Q) (hr:rdy ops dn [i]=true:=by kernel_rfl):KW P N ops ts dn E Q:=KW.all [i] (λj hj=>by grind) (by simp) hr
theorem C0 {ts:List Nat} (i j:Nat) (h:KB P N ops ts dn i E Q) (h2:KB P N ops ts dn j E Q) (hr:rdy ops dn [i,j]=true:=by kernel_rfl):KW P N ops ts dn E Q:=KW.all [i,j] (λm hm=>by grind) (by simp) hr
theorem AEE {ts:List Nat} (i j k:Nat) (h:KB P N ops ts dn i E Q) (h2:KB P N ops ts dn j E Q) (h3:KB P N ops ts dn k E Q) (hr:rdy ops dn [i,j,k]=true:=by kernel_rfl):KW P N ops ts dn E Q:=KW.all [i,j,k] (λm hm=>by grind) (by simp) hr
theorem DM {ts:List Nat} {mv:Bool} (hs:Cu P N mv E (oA ops i)=some E') (h:KW P N ops ts (i::dn) E' Q) (hk:(RV P ops E i&&(kp (oA ops i)||ts.contains i))=true:=by kernel_rfl):KB P N ops ts dn i E Q:=by
 rw[Ag]at hk;obtain⟨h1,h2⟩:=Hy hk.1;exact jX.op i mv h hs (Jf h1) h2 hk.2
theorem Qs {ts:List Nat} {s:SV} (hp:AW P E (oA ops i)=some s) (h:KW P N ops ts (i::dn) (E.put (oA ops i).dst s) Q) (hk:(qok P N ops i E&&(kp (oA ops i)||ts.contains i))=true:=by kernel_rfl):KB P N ops ts dn i E Q:=by
 rw[Ag]at hk;obtain⟨h1,h2,d,h3,h4,h5⟩:=tP hk.1;rw[h3]at h;exact DM (wF hp h3 h4 h2) h (by rw[h1,hk.2];rfl)
def sU (ops:Array Oper) (ts dn:List Nat) (i:Nat):Bool:=Nat.blt dn.length ops.size&&TX ops ts ops.size i (lsd ops.size dn)
theorem AFq {ts:List Nat} {s:SV} (i:Nat) (hp:JR P E (oA ops i)=some s) (h:KW P N ops ts (i::dn) (E.put (oA ops i).dst s) Q) (hk:(RV P ops E i&&Gz N (oA ops i)&&sU ops ts dn i)=true):KW P N ops ts dn E Q:=by
 simp only[Ag,sU]at hk;obtain⟨⟨h1,h2⟩,h3,h4⟩:=hk;obtain⟨h5,h6⟩:=Hy h1;obtain⟨d,h7,h8,_⟩:=EN h2;unfold KW at h⊢;rw[Wz (i:=i) h3];rw[h7]at h;exact YL.take ops.size i d s h hp (Jf h5) h4 h6 h7 h8
theorem AGP {ts:List Nat} {s:SV} (i:Nat) (hp:AW P E (oA ops i)=some s) (h:KW P N ops ts (i::dn) (E.put (oA ops i).dst s) Q) (hk:(qok P N ops i E&&sU ops ts dn i)=true:=by kernel_rfl):KW P N ops ts dn E Q:=by
 rw[Ag]at hk;have h0:=hk.1;simp only[qok,Ag]at h0;exact AFq i (wH hp h0.1.2) h<|by grind
theorem AGb {ts:List Nat} (i:Nat) (h:KW P N ops ts (i::dn) (E.put (oA ops i).dst (.tup [])) Q) (hg:Bv P ops E (oA ops i)=some false) (hk:(Nat.blt i ops.size&&Gz N (oA ops i)&&sU ops ts dn i)=true):KW P N ops ts dn E Q:=by
 simp only[Ag,sU]at hk;obtain⟨⟨h1,h2⟩,h3,h4⟩:=hk;obtain⟨d,h7,h8,_⟩:=EN h2;unfold KW at h⊢;rw[Wz (i:=i) h3];rw[h7]at h;exact nY ops.size i d h (Jf h1) h4 hg h7 h8
def ABW (P:Program) (N:Nat) (ops:Array Oper) (ts:List Nat) (mv:Bool) (dn:List Nat) (E:St) (i:Nat):Option St:=match Bv P ops E (oA ops i)with
 |some false=>bif Nat.blt i ops.size&&Gz N (oA ops i)&&sU ops ts dn i then some (E.put (oA ops i).dst<|.tup [])else none
 |some true=>bif Nat.blt i ops.size&&Gz N (oA ops i)&&sU ops ts dn i&&!mv then
   (match JR P E (oA ops i)with
   |some s=>some<|E.put (oA ops i).dst s
   |none=>bif rdy ops dn [i]&&(kp (oA ops i)||ts.contains i)then Cu P N mv E (oA ops i)else none) else bif Nat.blt i ops.size&&rdy ops dn [i]&&(kp (oA ops i)||ts.contains i)then Cu P N mv E (oA ops i)else none
 |none=>none
section
variable {m:Nat}
def ABX (P:Program) (N:Nat) (ops:Array Oper) (ts:List Nat):List Nat->Nat->List Nat->St->Option St
 |[],_,_,E=>some E
 |i::l,m,dn,E=>match ABW P N ops ts (Nat.beq (m %2) 1) dn E i with
  |some E'=>ABX P N ops ts l (m/2) (i::dn) E'
  |none=>none
end
def lL:List Nat->List Nat->List Nat
 |[],dn=>dn
 |i::l,dn=>lL l (i::dn)
section
variable {ts:List Nat}
theorem KW.st {mv:Bool} (hs:ABW P N ops ts mv dn E i=some E') (h:KW P N ops ts (i::dn) E' Q):KW P N ops ts dn E Q:=by
 unfold ABW at hs;split at hs
 ·rename_i hg
  cases hb:(Nat.blt i ops.size&&Gz N (oA ops i)&&sU ops ts dn i)with
  |false=>grind
  |true=>
   rw[hb]at hs
   injection hs with hs
   subst hs;exact AGb i h hg hb
 ·rename_i hg;have one:(Nat.blt i ops.size&&rdy ops dn [i]&&(kp (oA ops i)||ts.contains i))=true->Cu P N mv E (oA ops i)=some E'->KW P N ops ts dn E Q:=by
   intro hb hs;simp only[Ag]at hb;refine AB i (DM hs h ?_) hb.1.2;simp only[RV,hb.1.1,hg,hb.2,Qw]
  cases hb:(Nat.blt i ops.size&&Gz N (oA ops i)&&sU ops ts dn i&&!mv)with
  |false=>grind
  |true=>
   rw[hb]at hs;simp only[Ag]at hb;split at hs
   ·rename_i s a
    injection hs with hs
    subst hs;refine AFq i a h ?_;simp only[RV,hb.1.1.1,hb.1.1.2,hb.1.2,hg,Qw]
   grind
 cases hs
end
section
variable {m:Nat} {ts:List Nat}
theorem KW.run:∀{l:List Nat} {m:Nat} {dn:List Nat} {E E':St},ABX P N ops ts l m dn E=some E'->KW P N ops ts (lL l dn) E' Q->KW P N ops ts dn E Q
 |[],m,dn,E,E',h,hw=>by
  injection h with h
  subst h;exact hw
 |i::l,m,dn,E,E',h,hw=>by
  simp only[ABX]at h;split at h
  ·rename_i E1 h1;exact KW.st h1 (KW.run h hw)
  cases h
end
theorem A7 {ts:List Nat} (l:List Nat) (m:Nat) (h:KW P N ops ts (lL l dn) ((ABX P N ops ts l m dn E).getD E) Q) (hk:(ABX P N ops ts l m dn E).isSome=true:=by kernel_rfl):KW P N ops ts dn E Q:=KW.run (getD_some hk) h
theorem OF {r:β} {ts:List Nat} {b:Bool} (t:Nat) (h:(bif b then tx else ty)=some r) (ht:tx=some r->KW P N ops ts dn (E.rs t true) Q) (hf:ty=some r->KW P N ops ts dn (E.rs t false) Q) (hc:E.slots t=B b:=by kernel_rfl):KW P N ops ts dn E Q:=AFp h t ht hf hc
theorem AEC {id:Nat} (h:RW P N ops 0 E Q):Wp P N (.region id ops false) E Q:=by
 have:=Wp.region (id:=id) (l:=ops.toList) (P:=P) (N:=N) (E:=E) (Q:=Q) (by simpa[RW]using h);simpa using this
theorem IS {id:Nat} (hm:P.follows .mixedOrders=true) (h:SW P N ops ops.size 0 E (λE'=>Q .normal E')) (hB:Region.lexB .any ops=true:=by kernel_rfl):Wp P N (.region id ops true) E Q:=by
 have:=RF (id:=id) (l:=ops.toList) (P:=P) (N:=N) (E:=E) (Q:=Q) hm (by simpa using hB) (by
  have h2:=h;unfold SW at h2;rw[AK<|by simp]at h2
  simpa using h2)
 simpa using this
theorem Lr {id:Nat} (n:Nat) (hm:P.follows .mixedOrders=true) (h:SW P N ops n 0 E (λE'=>RW P N ops n E' Q)) (hB:Region.lexTailB .any ops n=true:=by kernel_rfl):Wp P N (.region id ops true) E Q:=by
 have:=vB (id:=id) (l:=ops.toList) (P:=P) (N:=N) (E:=E) (Q:=Q) n hm (by simpa using hB) (by simpa[SW,RW]using h);simpa using this
theorem Cc {id:Nat} (ts:List Nat) (hm:P.follows .mixedOrders=true) (hQ:∀c E,Q (.panic c) E->False) (h:KW P N ops ts [] E Q):Wp P N (.region id ops true) E Q:=
 vC ops.size ts hm hQ (by simpa[KW,lsd]using h) rfl
def hJ (E:St) (x:Operand) (sz:Nat):Option (List TV):=match E.ref x with
 |some (r,q,j)=>match E.place r q j with
  |some (.sl _ _ s cells)=>bif Nat.beq s sz then some cells else none
  |_=>none
 |none=>none
theorem QJ {x:Operand} {a:List TV} (h:hJ E x sz=some a):∃r q j b e,E.ref x=some (r,q,j)/\E.place r q j=some (.sl b e sz a):=by
 unfold hJ at h;split at h
 ·split at h
  ·rename_i b e s cells' hp
   cases hs:Nat.beq s sz with
   |false=>rw[hs]at h;cases h
   |true=>
    rw[hs]at h;have:=AZ hs
    grind
  cases h
 cases h
def YW (P:Program) (t:TypeId):TypeId:=match P.underlying t with
 |some (.slice e)=>e
 |_=>0
def Xd (P:Program) (t:TypeId) (sz:Nat):Bool:=match P.underlying t with
 |some (.slice e)=>Nat.beq (P.cellsOf e) sz&&Nat.blt 0 sz
 |_=>false
theorem Mp {t:TypeId} (h:Xd P t sz=true):∃e,P.underlying t=some (.slice e)/\P.cellsOf e=sz/\Nat.blt 0 sz=true:=by
 unfold Xd at h;split at h
 ·rename_i e he;rw[Ag]at h;exact⟨e,he,AZ h.1,h.2⟩
 cases h
def HA (E:St) (x:Operand):Root×List Nat×Nat:=(E.ptr? x).getD (.hand,[],0)
def Lz (E:St) (x:Operand):Root×List Nat×Nat:=(E.ref x).getD (.hand,[],0)
def S7 (E:St) (x:Operand):Option (List TV×Nat):=match E.ptr? x with
 |some (r,q,j)=>match(E.root r).bind λcs=>BB cs q with
  |some row=>some (row,j)
  |none=>none
 |none=>none
theorem S6 {x:Operand} {a:List TV} (h:S7 E x=some (a,j)):E.ptr? x=some ((HA E x).1,(HA E x).2.1,j)/\(E.root (HA E x).1).bind (λcs=>BB cs (HA E x).2.1)=some a:=by
 unfold S7 at h;split at h
 ·rename_i r q j' hp;split at h
  ·injection h with h
   injection h with h1 h2
   subst h1 h2;simp only[HA,hp,Ba]
   grind
  cases h
 cases h
theorem zJ {x:Operand} {r:Root} {q:List Nat} {a:List TV} (h1:E.ptr? x=some (r,q,j)) (h2:(E.root r).bind (λcs=>BB cs q)=some a):S7 E x=some (a,j):=by
 unfold S7
 grind
def FL (o:Oper):TypeId×Operand×Operand:=match o.op with
 | .indexAddr t a i=>(t,a,i)
 |_=>(0,.tmp 0,.tmp 0)
def zZ (o:Oper):Bool:=match o.op with
 | .indexAddr .. =>true
 |_=>false
theorem mE {o:Oper} (h:zZ o=true):o.op= .indexAddr (FL o).1 (FL o).2.1 (FL o).2.2:=by
 unfold zZ at h;unfold FL
 grind
def UB (P:Program) (E:St) (x:Operand):Option Int:=match E.cell1 P 0 x with
 |some (.int _ n)=>some n
 |_=>none
theorem IB {x:Operand} (h:UB P E x=some n):∃k,E.cell1 P 0 x=some (.int k n):=by
 unfold UB at h
 grind
def AB0 (P:Program) (E:St) (o:Oper) (sz:Nat):Option (List TV×Int):=bif zZ o&&Xd P (FL o).1 sz then(match hJ E (FL o).2.1 sz,UB P E (FL o).2.2 with
 |some c,some n=>some (c,n)
 |_,_=>none)else none
def qE (E:St) (o:Oper) (m:Nat):SV:= .one (.ptr (Lz E (FL o).2.1).1 (E.ver (Lz E (FL o).2.1).1) ((Lz E (FL o).2.1).2.1++ [(Lz E (FL o).2.1).2.2]) m)
theorem He {o:Oper} (hf:∀x,(f x).length=sz) (hx:gi l n=some x) (hc:AB0 P E o sz=some (A8 f l,n):=by kernel_rfl):AW P E o=some (qE E o<|n.toNat*sz+0):=by
 unfold AB0 at hc
 cases hb:(zZ o&&Xd P (FL o).1 sz)with
 |false=>grind
 |true=>
  rw[hb]at hc;rw[Ag]at hb;split at hc
  ·rename_i c n' h1 h2
   injection hc with hc
   injection hc with a b
   subst a b;obtain⟨r,q,j,d,e',h3,h4⟩:=QJ h1;obtain⟨k,h5⟩:=IB h2;obtain⟨e,h6,h7,h8⟩:=Mp hb.2;have:=AFJ hf r q j hx h4 (mE hb.1) h6 h5 h3 h7 h8;rw[this];simp only[qE,Lz,h3,Ba]
  cases hc
section
variable {o:Oper}
theorem lN (hf:∀x,(f x).length=sz) (hx:gi l n=some x) (hf':∀x,(f' x).length=sz') (hx':gi l' n'=some x') (k:Nat) (hi:(zZ o&&Xd P (FL o).1 sz&&Nat.blt k sz')=true:=by kernel_rfl) (hn:UB P E (FL o).2.2=some n:=by kernel_rfl) (hr:E.ref (FL o).2.1=some ((Lz E (FL o).2.1).1,(Lz E (FL o).2.1).2.1,n'.toNat*sz'+k):=by kernel_rfl) (hp:(E.root (Lz E (FL o).2.1).1).bind (λcs=>BB cs (Lz E (FL o).2.1).2.1)=some (A8 f' l'):=by kernel_rfl) {a:Bool} (hc:(f' x')[k]?=some (.sl a e' sz<|A8 f l):=by rfl):AW P E o=some (qE E o<|n.toNat*sz+0):=by
 simp only[Ag]at hi;obtain⟨k',h5⟩:=IB hn;obtain⟨e,h6,h7,h8⟩:=Mp hi.1.2;have b:E.place (Lz E (FL o).2.1).1 (Lz E (FL o).2.1).2.1 (n'.toNat*sz'+k)=some (.sl a e' sz<|A8 f l):=by
  obtain⟨cs,h1,h2⟩:=Ah.1 hp;simp only[St.place,h1,Aa,h2];rw[Pv hf' hx' (by grind),hc]
 have:=AFJ hf _ _ _ hx b (mE hi.1.1) h6 h5 hr h7 h8;have hj:(Lz E (FL o).2.1).2.2=n'.toNat*sz'+k:=BK (λz:Option (Root×List Nat×Nat)=>(z.getD (Root.hand,[],0)).2.2) hr;rw[this,qE,hj]
end
theorem pr2 {a:Operand} {b:List TV} (q0:Nat) (hf':∀x,(f' x).length=sz') (hx':gi l' n'=some x') (k:Nat) (h1:E.ptr? a=some ((HA E a).1,[q0,n'.toNat*sz'+k],j):=by kernel_rfl) (hc:(E.root (HA E a).1).bind (λcs=>BB cs [q0])=some (A8 f' l'):=by kernel_rfl) (c:BB (f' x') [k]=some b:=by kernel_rfl) (hk:Nat.blt k sz'=true:=by kernel_rfl):S7 E a=some (b,j):=by
 refine zJ h1 ?_;obtain⟨cs,h2,h3⟩:=Ah.1 hc;have h4:=yN hf' hx' (q:=[]) (show k<sz' by simpa[B3]using hk);rw[h2];simp only[BB]at h3;split at h3
 ·rename_i o' e' s' d e
  injection h3 with h3
  subst h3;simp only[BB,e];simp only[BB]at h4 c
  grind
 cases h3
def Te (o:Oper):TypeId×Operand×Nat:=match o.op with
 | .fieldAddr t a i=>(t,a,i)
 |_=>(0,.tmp 0,0)
def AE2 (o:Oper):Bool:=match o.op with
 | .fieldAddr .. =>true
 |_=>false
theorem ADD {o:Oper} (h:AE2 o=true):o.op= .fieldAddr (Te o).1 (Te o).2.1 (Te o).2.2:=by
 unfold AE2 at h;unfold Te
 grind
def AEt (P:Program) (o:Oper):Option Nat:=match P.underlying (Te o).1 with
 |some (.struct fs)=>match fs[(Te o).2.2]? with
  |some fd=>bif Nat.beq (P.cellsOf fd.type) 0 then none else some fd.offset
  |none=>none
 |_=>none
def AFX (E:St) (o:Oper) (m:Nat):SV:= .one (.ptr (HA E (Te o).2.1).1 (E.stamp (HA E (Te o).2.1).1 (HA E (Te o).2.1).2.1) (HA E (Te o).2.1).2.1 m)
theorem CM {o:Oper} (hf:∀x,(f x).length=sz) (hx:gi l n=some x) (k m:Nat) (hr:S7 E (Te o).2.1=some (A8 f l,n.toNat*sz+k):=by kernel_rfl) (ho:(AE2 o&&Nat.blt m sz)=true:=by kernel_rfl) (a:AEt P o=some (m-k):=by kernel_rfl) (b:Nat.ble k m=true:=by kernel_rfl):AW P E o=some (AFX E o<|n.toNat*sz+m):=by
 rw[Ag]at ho;obtain⟨h1,h2⟩:=S6 hr;have d:k<=m:=by simpa[Qr]using b
 unfold AEt at a;split at a
 ·rename_i fs hs;split at a
  ·rename_i fd c
   cases hb:Nat.beq (P.cellsOf fd.type) 0 with
   |true=>grind
   |false=>
    rw[hb]at a
    injection a with a
    have hm:k+fd.offset=m:=by omega
    exact AGC hf _ _ k hx h2 (ADD ho.1) hs h1 c hb hm (by rw[hm];exact ho.2)
  cases a
 cases a
def Pm (o:Oper):TypeId×Operand:=match o.op with
 | .load t a=>(t,a)
 |_=>(0,.tmp 0)
def ADC (o:Oper):Bool:=match o.op with
 | .load .. =>true
 |_=>false
theorem yC {o:Oper} (h:ADC o=true):o.op= .load (Pm o).1 (Pm o).2:=by
 unfold ADC at h;unfold Pm
 grind
def AEp (P:Program) (o:Oper) (k sz:Nat):Bool:=ADC o&&!fU P (Pm o).1&&Nat.beq (P.cellsOf (Pm o).1) 1&&(P.underlying (Pm o).1).isSome&&Nat.blt k sz
def AEq (P:Program) (o:Oper) (k m sz:Nat):Bool:=ADC o&&fU P (Pm o).1&&Nat.beq (P.cellsOf (Pm o).1) m&&Nat.ble (k+m) sz
def ldC (E:St) (o:Oper) (j:Nat) (u:TV):SV:= .one (see E (HA E (Pm o).2).1 (HA E (Pm o).2).2.1 j u)
def ldA (E:St) (o:Oper) (j:Nat) (us:List TV):SV:= .agg (VS E (HA E (Pm o).2).1 (HA E (Pm o).2).2.1 j us)
theorem Ci {o:Oper} (hf:∀x,(f x).length=sz) (hx:gi l n=some x) (k:Nat) (hr:S7 E (Pm o).2=some (A8 f l,n.toNat*sz+k):=by kernel_rfl) (ho:AEp P o k sz=true:=by kernel_rfl):AW P E o=some (ldC E o (n.toNat*sz+k)<|((f x)[k]?).getD .junk):=by
 simp only[AEp,Ag,CK]at ho;obtain⟨⟨⟨⟨h3,h4⟩,h5⟩,h6⟩,h7⟩:=ho;obtain⟨h1,h2⟩:=S6 hr;have hk:k<(f x).length:=by rw[hf];simpa[B3]using h7
 refine AGB hf _ _ k _ hx h2 (yC h3) h1 h4 (AZ h5) h6 h7 ?_
 grind
theorem Hf {o:Oper} (hf:∀x,(f x).length=sz) (hx:gi l n=some x) (k m:Nat) (hr:S7 E (Pm o).2=some (A8 f l,n.toNat*sz+k):=by kernel_rfl) (ho:AEq P o k m sz=true:=by kernel_rfl):AW P E o=some (ldA E o (n.toNat*sz+k)<|((f x).drop k).take m):=by
 simp only[AEq,Ag]at ho;obtain⟨⟨⟨h3,h4⟩,h5⟩,h6⟩:=ho;obtain⟨h1,h2⟩:=S6 hr;exact AGA hf _ _ k m hx h2 (yC h3) h1 h4 (AZ h5) h6
def PW (o:Oper):TypeId×Operand:=match o.op with
 | .call c=>match c.callee,c.args.toList,c.argTypes.toList with
  | .builtin .len,[x],[t]=>(t,x)
  |_,_,_=>(0,.tmp 0)
 |_=>(0,.tmp 0)
def ADB (o:Oper):Bool:=match o.op with
 | .call c=>match c.callee,c.args.toList,c.argTypes.toList with
  | .builtin .len,[x],[t]=>true
  |_,_,_=>false
 |_=>false
theorem yB {o:Oper} (h:ADB o=true):o.op= .call {callee:= .builtin .len,args:= #[(PW o).2],argTypes:= #[(PW o).1]}:=by
 unfold ADB at h;unfold PW;split at h
 ·rename_i c hc;split at h
  ·rename_i x t h1 h2 h3;obtain⟨callee,args,types⟩:=c;subst h1;obtain rfl:args= #[x]:=by cases args;simp_all
   obtain rfl:types= #[t]:=by cases types;simp_all
   rw[hc]
  cases h
 cases h
theorem BR {o:Oper} (hf:∀x,(f x).length=sz) (l:List α) (hr:hJ E (PW o).2 sz=some (A8 f l):=by kernel_rfl) (ho:(ADB o&&Xd P (PW o).1 sz)=true:=by kernel_rfl):AW P E o=some (.one<|.int .i64<|ln l):=by
 rw[Ag]at ho;obtain⟨r,q,j,a,e',h3,h4⟩:=QJ hr;obtain⟨e,h6,h7,h8⟩:=Mp ho.2;exact AFI hf l (yB ho.1) h6 h3 h4 h8
section
variable {o:Oper}
theorem ABt (hf:∀x,(f x).length=sz) (l:List α) (hf':∀x,(f' x).length=sz') (hx':gi l' n'=some x') (k:Nat) (ho:(ADB o&&Xd P (PW o).1 sz&&Nat.blt k sz')=true:=by kernel_rfl) (hr:E.ref (PW o).2=some ((Lz E (PW o).2).1,(Lz E (PW o).2).2.1,n'.toNat*sz'+k):=by kernel_rfl) (hp:(E.root (Lz E (PW o).2).1).bind (λcs=>BB cs (Lz E (PW o).2).2.1)=some (A8 f' l'):=by kernel_rfl) {a:Bool} (hc:(f' x')[k]?=some (.sl a e' sz<|A8 f l):=by rfl):AW P E o=some (.one<|.int .i64<|ln l):=by
 simp only[Ag]at ho;obtain⟨e,h6,h7,h8⟩:=Mp ho.1.2;have b:E.place (Lz E (PW o).2).1 (Lz E (PW o).2).2.1 (n'.toNat*sz'+k)=some (.sl a e' sz<|A8 f l):=by
  obtain⟨cs,h1,h2⟩:=Ah.1 hp;simp only[St.place,h1,Aa,h2];rw[Pv hf' hx' (by grind),hc]
 exact AFI hf l (yB ho.1.1) h6 hr b h8
end
def XW (P:Program) (E:St) (t:TypeId) (x:Operand):Option ByteArray:=match E.cell1 P t x with
 |some (.str s)=>some s
 |_=>none
theorem L9 {x:Operand} {t:TypeId} {s:ByteArray} (h:XW P E t x=some s):E.cell1 P t x=some (.str s):=by
 unfold XW at h
 grind
def iX (P:Program) (t:TypeId):Bool:=match P.underlying t with
 |some .string=>true
 |_=>false
theorem W1 {t:TypeId} (h:iX P t=true):P.underlying t=some .string:=by
 unfold iX at h
 grind
def AEe (P:Program) (E:St) (o:Oper):Option (ByteArray×Int):=match o.op with
 | .index t a i=>match iX P t,XW P E t a,UB P E i with
  |true,some s,some n=>some (s,n)
  |_,_,_=>none
 |_=>none
theorem eY {o:Oper} {s:ByteArray} {n b:Int} (h:sx s n=some b) (hc:AEe P E o=some (s,n):=by kernel_rfl):AW P E o=some (.one<|.int .u8 b):=by
 unfold AEe at hc;split at hc
 ·rename_i t a i ho;split at hc
  ·rename_i s' n' h1 h2 h3
   injection hc with hc
   injection hc with c d
   subst c d;obtain⟨k,h3⟩:=IB h3;exact AGz h ho (W1 h1) (L9 h2) h3
  cases hc
 cases hc
def rD (P:Program) (E:St) (d:Int):Option Operand->Option Int
 |none=>some d
 |some x=>UB P E x
def AAW (P:Program) (E:St) (o:Oper):Option (ByteArray×Int×Int):=match o.op with
 | .slice t a lo hi none=>match iX P t,XW P E t a with
  |true,some s=>match rD P E 0 lo,rD P E (s.size:Nat) hi with
   |some l,some h=>some (s,l,h)
   |_,_=>none
  |_,_=>none
 |_=>none
section
variable {o:Oper}
theorem R2 {d:Int} {x:Option Operand} (h:rD P E d x=some n):∃k,(match x with|some o=>E.cell1 P 0 o|none=>some (.int .i64 d))=some (.int k n):=by
 cases x with
 |none=>
  injection h with h
  exact⟨.i64,by rw[h]⟩
 |some x=>exact IB h
end
theorem QO {o:Oper} {s u:ByteArray} {l h:Int} (hx:sub s l h=some u) (hc:AAW P E o=some (s,l,h):=by kernel_rfl):AW P E o=some (.one<|.str u):=by
 unfold AAW at hc;split at hc
 ·rename_i t a lo hi ho;split at hc
  ·rename_i s' h1 h2;split at hc
   ·rename_i l' h' h3 h4
    injection hc with hc
    injection hc with c b
    injection b with b d
    subst c b d;obtain⟨k1,h3⟩:=R2 h3;obtain⟨k2,h4⟩:=R2 h4;exact AFG hx ho (W1 h1) (L9 h2) h3 h4
   cases hc
  cases hc
 cases hc
def ACq (P:Program) (E:St) (o:Oper):Option (ByteArray×ByteArray):=match o.op with
 | .binOp .add t x y _=>match XW P E t x,XW P E t y with
  |some a,some b=>some (a,b)
  |_,_=>none
 |_=>none
theorem EW {o:Oper} {a b u:ByteArray} (hx:Ig a b=some u) (hc:ACq P E o=some (a,b):=by kernel_rfl):AW P E o=some (.one<|.str u):=by
 unfold ACq at hc;split at hc
 ·rename_i t x y t' ho;split at hc
  ·rename_i a' b' h1 h2
   injection hc with hc
   injection hc with c d
   subst c d;exact AFL hx ho (L9 h1)<|L9 h2
  cases hc
 cases hc
def RP (o:Oper):TypeId×TypeId×Operand:=match o.op with
 | .convert s d x=>(s,d,x)
 |_=>(0,0,.tmp 0)
def AFZ (P:Program) (o:Oper):Bool:=match o.op with
 | .convert s d x=>(match P.underlying s,P.underlying d with
  |some (.slice e),some .string=>(match P.underlying e with
   |some (.int .u8)=>true
   |_=>false)
  |_,_=>false)
 |_=>false
theorem oB {o:Oper} {f:Int->List TV} (hf:∀n,f n=[.int .u8 n]) (l:List Int) (hr:hJ E (RP o).2.2 1=some (A8 f l):=by kernel_rfl) (ho:AFZ P o=true:=by kernel_rfl):AW P E o=some (.one<|.str<|Fd l):=by
 obtain⟨r,q,j,b,e',h3,h4⟩:=QJ hr;unfold AFZ at ho;split at ho
 ·rename_i s d x a;split at ho
  ·rename_i e hs hd;split at ho
   ·rename_i he;simp only[RP,a]at h3;exact AGE hf l a hs hd he h3 h4
   cases ho
  cases ho
 cases ho
def AA4 (P:Program) (E:St) (o:Oper) (k:IntKind):Option (Int×Int):=match o.op with
 | .binOp .shl t x y _=>match E.cell1 P t x,E.cell1 P t y with
  |some (.int k' a),some (.int _ b)=>bif decide (k'=k)then some (a,b)else none
  |_,_=>none
 |_=>none
theorem AGx {o:Oper} {a b v:Int} (hx:shl k a b=some v) (hc:AA4 P E o k=some (a,b):=by kernel_rfl):AW P E o=some (.one<|.int k v):=by
 unfold AA4 at hc;split at hc
 ·rename_i t x y t' ho;split at hc
  ·rename_i k' a' k2 b' h1 h2
   cases hk:decide (k'=k)with
   |false=>grind
   |true=>
    rw[hk]at hc
    injection hc with hc
    injection hc with hc1 hc2
    have:=K8 hk;subst hc1 hc2 this;exact AFH hx ho h1 h2
  cases hc
 cases hc
def Ql (o:Oper):TypeId×Operand×Option Operand×Option Operand:=match o.op with
 | .slice t x lo hi none=>(t,x,lo,hi)
 |_=>(0,.tmp 0,none,none)
def ADE (o:Oper):Bool:=match o.op with
 | .slice t x lo hi none=>true
 |_=>false
theorem yD {o:Oper} (h:ADE o=true):o.op= .slice (Ql o).1 (Ql o).2.1 (Ql o).2.2.1 (Ql o).2.2.2 none:=by
 unfold ADE at h;unfold Ql
 grind
def wM (E:St) (x:Operand) (sz:Nat):Option (Nat×List TV):=match E.ref x with
 |some (r,q,j)=>match E.place r q j with
  |some (.sl false e s cells)=>bif Nat.beq s sz then some (e,cells)else none
  |_=>none
 |none=>none
theorem aP {x:Operand} {a:List TV} {e:Nat} (h:wM E x sz=some (e,a)):∃r q j,E.ref x=some (r,q,j)/\E.place r q j=some (.sl false e sz a):=by
 unfold wM at h;split at h
 ·split at h
  ·rename_i e' s cells' hp
   cases hs:Nat.beq s sz with
   |false=>rw[hs]at h;cases h
   |true=>
    rw[hs]at h
    injection h with h
    have:=AZ hs
    grind
  cases h
 cases h
theorem pdr {o:Oper} {v:List α} (hf:∀x,(f x).length=sz) {a b:Int} (e:Nat) (hx:dr l a b=some v) (hr:wM E (Ql o).2.1 sz=some (e,A8 f l):=by kernel_rfl) (ha:rD P E 0 (Ql o).2.2.1=some a:=by kernel_rfl) (hb:((Ql o).2.2.2.bind<|UB P E)=some b:=by kernel_rfl) (ho:(ADE o&&Xd P (Ql o).1 sz)=true:=by kernel_rfl):AW P E o=some (.one<|.sl false e sz<|A8 f v):=by
 rw[Ag]at ho;obtain⟨r,q,j,h1,h2⟩:=aP hr;obtain⟨e1,h6,h7,h8⟩:=Mp ho.2;obtain⟨k1,h3⟩:=R2 ha;obtain⟨oh,h4,h5⟩:=Ah.1 hb;obtain⟨k2,h5⟩:=IB h5;have:=yD ho.1;rw[h4]at this;exact AGD hf hx this h6 h1 h2 h3 h5 h7 h8
theorem ABu {o:Oper} {v:List α} (hf:∀x,(f x).length=sz) {a:Int} (e:Nat) (hx:dr l a (ln l)=some v) (hr:wM E (Ql o).2.1 sz=some (e,A8 f l):=by kernel_rfl) (ha:rD P E 0 (Ql o).2.2.1=some a:=by kernel_rfl) (ho:(ADE o&&Xd P (Ql o).1 sz&&(Ql o).2.2.2.isNone)=true:=by kernel_rfl):AW P E o=some (.one<|.sl false e sz<|A8 f v):=by
 simp only[Ag]at ho;obtain⟨r,q,j,h1,h2⟩:=aP hr;obtain⟨e1,h6,h7,h8⟩:=Mp ho.1.2;obtain⟨k1,h3⟩:=R2 ha;have:=yD ho.1.1;rw[Option.isNone_iff_eq_none.1 ho.2]at this;exact AFK hf hx this h6 h1 h2 h3 h7 h8
def AFA (P:Program) (E:St) (o:Oper) (m:Nat):Bool:=match P.underlying (FL o).1 with
 |some (.array len e)=>zZ o&&Nat.beq (P.cellsOf e) 1&&Nat.blt m len&&(match E.ptr? (FL o).2.1 with
  |some (r,q,j)=>(E.place r q<|j+m).isSome
  |none=>false)
 |_=>false
def AEc (E:St) (o:Oper) (m:Nat):SV:= .one (.ptr (HA E (FL o).2.1).1 (E.stamp (HA E (FL o).2.1).1 (HA E (FL o).2.1).2.1) (HA E (FL o).2.1).2.1<|(HA E (FL o).2.1).2.2+m)
theorem pxa {o:Oper} (m:Nat) (hn:n=(m:Int)) (hi:UB P E (FL o).2.2=some n:=by kernel_rfl) (ho:AFA P E o m=true:=by kernel_rfl):AW P E o=some (AEc E o m):=by
 unfold AFA at ho;split at ho
 ·rename_i len e ht;simp only[Ag]at ho;obtain⟨⟨⟨h1,h2⟩,h3⟩,h4⟩:=ho;obtain⟨k,hi⟩:=IB hi;split at h4
  ·rename_i r q j hp;have:=AGy r q j hn (mE h1) ht hi hp (AZ h2) h3 h4;rw[this];simp only[AEc,HA,hp,Ba]
  cases h4
 cases ho
end Go.TI
