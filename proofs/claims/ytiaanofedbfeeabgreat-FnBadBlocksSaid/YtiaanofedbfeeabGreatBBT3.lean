/- What walks of Go code need. No condition. -/
import Derived.Test.YtiaanofedbfeeabGreatBBT2
import Derived.Laws.StructEq
set_option linter.unusedSimpArgs false
set_option linter.unusedVariables false
namespace Go.TI
open Go Go.RowKit
def eW (E:St) (x:Operand) (sz:Nat):Option (List TV):=match E.ref x with
 |some (r,q,j)=>match E.place r q j with
  |some (.sl _ _ s cells)=>bif Nat.beq s sz then some cells else none
  |_=>none
 |none=>none
variable {E E' E1:St} {P:Program} {N i sz e j d b sz' by_ e' m:Nat} {Q:Exit->St->Prop} {ops ops2:Array Oper} {α β V γ S W α' A:Type} {n n':Int} {dn FA UA q:List Nat} {w:World} {y:Code} {as:List AV} {blk:Root->Nat} {fn:Func} {s:SV} {FS US:Root->List Nat} {T T' t:TypeId} {row row':List TV} {t':TV} {K:St->Prop} {sf g:FuncId} {rest:List Oper} {r:β} {f:α->List TV} {l:List α} {kk:α->Option β} {s0:S} {k:V->Option β} {f':α'->List TV} {l':List α'} {x':α'} {u:List α} {fin:α->List TV} {Am:List γ->R2} {tx:Option β} {ty:Option β} {xl:List γ}
theorem Qn {x:Operand} {a:List TV} (h:eW E x sz=some a):∃r q j b e,E.ref x=some (r,q,j)/\E.place r q j=some (.sl b e sz a):=by
 unfold eW at h;split at h
 ·rename_i r q j hr;split at h
  ·rename_i b e s cells' hp
   cases hs:Nat.beq s sz with
   |false=>rw[hs]at h;cases h
   |true=>
    rw[hs]at h;simp only[Ae]at h
    injection h with h
    have:=Bp hs
    grind
  cases h
 cases h
def Yh (P:Program) (t:TypeId):TypeId:=match P.underlying t with
 |some (.slice e)=>e
 |_=>0
def Wv (P:Program) (t:TypeId) (sz:Nat):Bool:=match P.underlying t with
 |some (.slice e)=>Nat.beq (P.cellsOf e) sz&&Nat.blt 0 sz
 |_=>false
theorem Mc (h:Wv P t sz=true):∃e,P.underlying t=some (.slice e)/\P.cellsOf e=sz/\Nat.blt 0 sz=true:=by
 unfold Wv at h;split at h
 ·rename_i e he;rw[Ak]at h;exact⟨e,he,Bp h.1,h.2⟩
 cases h
def HE (E:St) (x:Operand):Root×List Nat×Nat:=(E.ptr? x).getD (.hand,[],0)
def Lk (E:St) (x:Operand):Root×List Nat×Nat:=(E.ref x).getD (.hand,[],0)
def Sa (E:St) (x:Operand):Option (List TV×Nat):=match E.ptr? x with
 |some (r,q,j)=>match(E.root r).bind λcs=>BN cs q with
  |some row=>some (row,j)
  |none=>none
 |none=>none
theorem RZ {x:Operand} {a:List TV} (h:Sa E x=some (a,j)):E.ptr? x=some ((HE E x).1,(HE E x).2.1,j)/\(E.root (HE E x).1).bind (λcs=>BN cs (HE E x).2.1)=some a:=by
 unfold Sa at h;split at h
 ·rename_i r q j' hp;split at h
  ·rename_i row' hr
   injection h with h
   injection h with h1 h2
   subst h1 h2;simp only[HE,hp,Bl]
   grind
  cases h
 cases h
theorem vH {r:Root} {x:Operand} {a:List TV} (h1:E.ptr? x=some (r,q,j)) (h2:(E.root r).bind (λcs=>BN cs q)=some a):Sa E x=some (a,j):=by
 unfold Sa
 grind
def FQ (o:Oper):TypeId×Operand×Operand:=match o.op with
 | .indexAddr t a i=>(t,a,i)
 |_=>(0,.tmp 0,.tmp 0)
def vX (o:Oper):Bool:=match o.op with
 | .indexAddr .. =>true
 |_=>false
theorem jF {o:Oper} (h:vX o=true):o.op= .indexAddr (FQ o).1 (FQ o).2.1 (FQ o).2.2:=by
 unfold vX at h;unfold FQ
 grind
def TL (P:Program) (E:St) (x:Operand):Option Int:=match E.cell1 P 0 x with
 |some (.int _ n)=>some n
 |_=>none
theorem I5 {x:Operand} (h:TL P E x=some n):∃k,E.cell1 P 0 x=some (.int k n):=by
 unfold TL at h
 grind
def AAj (P:Program) (E:St) (o:Oper) (sz:Nat):Option (List TV×Int):=bif vX o&&Wv P (FQ o).1 sz then(match eW E (FQ o).2.1 sz,TL P E (FQ o).2.2 with
 |some c,some n=>some (c,n)
 |_,_=>none)else none
def nH (E:St) (o:Oper) (m:Nat):SV:= .one (.ptr (Lk E (FQ o).2.1).1 (E.ver (Lk E (FQ o).2.1).1) ((Lk E (FQ o).2.1).2.1++ [(Lk E (FQ o).2.1).2.2]) m)
section
variable {o:Oper} {x:α}
theorem Jp (hf:∀x,(f x).length=sz) (hx:gi l n=some x) (hc:AAj P E o sz=some (AL f l,n):=by kernel_rfl):Bi P E o=some (nH E o<|n.toNat*sz+0):=by
 unfold AAj at hc
 cases hb:(vX o&&Wv P (FQ o).1 sz)with
 |false=>grind
 |true=>
  rw[hb]at hc;simp only[Ae]at hc;rw[Ak]at hb;split at hc
  ·rename_i c n' h1 h2
   injection hc with hc
   injection hc with a b
   subst a b;obtain⟨r,q,j,d,e',h3,h4⟩:=Qn h1;obtain⟨k,h5⟩:=I5 h2;obtain⟨e,h6,h7,h8⟩:=Mc hb.2;have:=ADZ hf r q j hx h4 (jF hb.1) h6 h5 h3 h7 h8;rw[this];simp only[nH,Lk,h3,Bl]
  cases hc
end
section
variable {o:Oper} {x:α}
theorem AC9 (hf:∀x,(f x).length=sz) (hx:gi l n=some x) (hf':∀x,(f' x).length=sz') (hx':gi l' n'=some x') (k:Nat) (hi:(vX o&&Wv P (FQ o).1 sz&&Nat.blt k sz')=true:=by kernel_rfl) (hn:TL P E (FQ o).2.2=some n:=by kernel_rfl) (hr:E.ref (FQ o).2.1=some ((Lk E (FQ o).2.1).1,(Lk E (FQ o).2.1).2.1,n'.toNat*sz'+k):=by kernel_rfl) (hp:(E.root (Lk E (FQ o).2.1).1).bind (λcs=>BN cs (Lk E (FQ o).2.1).2.1)=some (AL f' l'):=by kernel_rfl) {a:Bool} (hc:(f' x')[k]?=some (.sl a e' sz<|AL f l):=by rfl):Bi P E o=some (nH E o<|n.toNat*sz+0):=by
 simp only[Ak]at hi;obtain⟨k',h5⟩:=I5 hn;obtain⟨e,h6,h7,h8⟩:=Mc hi.1.2;have b:E.place (Lk E (FQ o).2.1).1 (Lk E (FQ o).2.1).2.1 (n'.toNat*sz'+k)=some (.sl a e' sz<|AL f l):=by
  obtain⟨cs,h1,h2⟩:=Aj.1 hp;simp only[St.place,h1,Aa,h2];rw[OZ hf' hx' (by grind),hc]
 have:=ADZ hf _ _ _ hx b (jF hi.1.1) h6 h5 hr h7 h8;have hj:(Lk E (FQ o).2.1).2.2=n'.toNat*sz'+k:=BG (λz:Option (Root×List Nat×Nat)=>(z.getD (Root.hand,[],0)).2.2) hr;rw[this,nH,hj]
end
section
variable {x:α}
theorem pr2 {a:Operand} {b:List TV} (q0:Nat) (hf':∀x,(f' x).length=sz') (hx':gi l' n'=some x') (k:Nat) (h1:E.ptr? a=some ((HE E a).1,[q0,n'.toNat*sz'+k],j):=by kernel_rfl) (hc:(E.root (HE E a).1).bind (λcs=>BN cs [q0])=some (AL f' l'):=by kernel_rfl) (c:BN (f' x') [k]=some b:=by kernel_rfl) (hk:Nat.blt k sz'=true:=by kernel_rfl):Sa E a=some (b,j):=by
 refine vH h1 ?_;obtain⟨cs,h2,h3⟩:=Aj.1 hc;have h4:=uO hf' hx' (q:=[]) (show k<sz' by simpa[B8]using hk);rw[h2];simp only[Aa];simp only[BN]at h3;split at h3
 ·rename_i o' e' s' d e
  injection h3 with h3
  subst h3;simp only[BN,e];simp only[BN]at h4 c
  grind
 cases h3
end
def S4 (o:Oper):TypeId×Operand×Nat:=match o.op with
 | .fieldAddr t a i=>(t,a,i)
 |_=>(0,.tmp 0,0)
def ADk (o:Oper):Bool:=match o.op with
 | .fieldAddr .. =>true
 |_=>false
theorem ABY {o:Oper} (h:ADk o=true):o.op= .fieldAddr (S4 o).1 (S4 o).2.1 (S4 o).2.2:=by
 unfold ADk at h;unfold S4
 grind
def ACK (P:Program) (o:Oper):Option Nat:=match P.underlying (S4 o).1 with
 |some (.struct fs)=>match fs[(S4 o).2.2]? with
  |some fd=>bif Nat.beq (P.cellsOf fd.type) 0 then none else some fd.offset
  |none=>none
 |_=>none
def AEe (E:St) (o:Oper) (m:Nat):SV:= .one (.ptr (HE E (S4 o).2.1).1 (E.stamp (HE E (S4 o).2.1).1 (HE E (S4 o).2.1).2.1) (HE E (S4 o).2.1).2.1 m)
section
variable {o:Oper} {x:α}
theorem Dv (hf:∀x,(f x).length=sz) (hx:gi l n=some x) (k m:Nat) (hr:Sa E (S4 o).2.1=some (AL f l,n.toNat*sz+k):=by kernel_rfl) (ho:(ADk o&&Nat.blt m sz)=true:=by kernel_rfl) (a:ACK P o=some (m-k):=by kernel_rfl) (b:Nat.ble k m=true:=by kernel_rfl):Bi P E o=some (AEe E o<|n.toNat*sz+m):=by
 rw[Ak]at ho;obtain⟨h1,h2⟩:=RZ hr;have d:k<=m:=by simpa[PU]using b
 unfold ACK at a;split at a
 ·rename_i fs hs;split at a
  ·rename_i fd c
   cases hb:Nat.beq (P.cellsOf fd.type) 0 with
   |true=>grind
   |false=>
    rw[hb]at a;simp only[Ac]at a
    injection a with a
    have hm:k+fd.offset=m:=by omega
    exact AEM hf _ _ k hx h2 (ABY ho.1) hs h1 c hb hm (by rw[hm];exact ho.2)
  cases a
 cases a
end
def OR (o:Oper):TypeId×Operand:=match o.op with
 | .load t a=>(t,a)
 |_=>(0,.tmp 0)
def ABX (o:Oper):Bool:=match o.op with
 | .load .. =>true
 |_=>false
theorem uG {o:Oper} (h:ABX o=true):o.op= .load (OR o).1 (OR o).2:=by
 unfold ABX at h;unfold OR
 grind
def ACH (P:Program) (o:Oper) (k sz:Nat):Bool:=ABX o&&!dM P (OR o).1&&Nat.beq (P.cellsOf (OR o).1) 1&&(P.underlying (OR o).1).isSome&&Nat.blt k sz
def ACI (P:Program) (o:Oper) (k m sz:Nat):Bool:=ABX o&&dM P (OR o).1&&Nat.beq (P.cellsOf (OR o).1) m&&Nat.ble (k+m) sz
def ldC (E:St) (o:Oper) (j:Nat) (u:TV):SV:= .one (see E (HE E (OR o).2).1 (HE E (OR o).2).2.1 j u)
def ldA (E:St) (o:Oper) (j:Nat) (us:List TV):SV:= .agg (Vp E (HE E (OR o).2).1 (HE E (OR o).2).2.1 j us)
section
variable {o:Oper} {x:α}
theorem Cv (hf:∀x,(f x).length=sz) (hx:gi l n=some x) (k:Nat) (hr:Sa E (OR o).2=some (AL f l,n.toNat*sz+k):=by kernel_rfl) (ho:ACH P o k sz=true:=by kernel_rfl):Bi P E o=some (ldC E o (n.toNat*sz+k)<|((f x)[k]?).getD .junk):=by
 simp only[ACH,Ak,CG]at ho;obtain⟨⟨⟨⟨h3,h4⟩,h5⟩,h6⟩,h7⟩:=ho;obtain⟨h1,h2⟩:=RZ hr;have hk:k<(f x).length:=by rw[hf];simpa[B8]using h7
 refine AEL hf _ _ k _ hx h2 (uG h3) h1 h4 (Bp h5) h6 h7 ?_
 grind
end
section
variable {o:Oper} {x:α}
theorem Jo (hf:∀x,(f x).length=sz) (hx:gi l n=some x) (k m:Nat) (hr:Sa E (OR o).2=some (AL f l,n.toNat*sz+k):=by kernel_rfl) (ho:ACI P o k m sz=true:=by kernel_rfl):Bi P E o=some (ldA E o (n.toNat*sz+k)<|((f x).drop k).take m):=by
 simp only[ACI,Ak]at ho;obtain⟨⟨⟨h3,h4⟩,h5⟩,h6⟩:=ho;obtain⟨h1,h2⟩:=RZ hr;exact AEK hf _ _ k m hx h2 (uG h3) h1 h4 (Bp h5) h6
end
section
variable {x:α}
def PF (o:Oper):TypeId×Operand:=match o.op with
 | .call c=>match c.callee,c.args.toList,c.argTypes.toList with
  | .builtin .len,[x],[t]=>(t,x)
  |_,_,_=>(0,.tmp 0)
 |_=>(0,.tmp 0)
end
section
variable {x:α}
def ABW (o:Oper):Bool:=match o.op with
 | .call c=>match c.callee,c.args.toList,c.argTypes.toList with
  | .builtin .len,[x],[t]=>true
  |_,_,_=>false
 |_=>false
end
theorem uF {o:Oper} (h:ABW o=true):o.op= .call {callee:= .builtin .len,args:= #[(PF o).2],argTypes:= #[(PF o).1]}:=by
 unfold ABW at h;unfold PF;split at h
 ·rename_i c hc;split at h
  ·rename_i x t h1 h2 h3;obtain⟨callee,args,types⟩:=c;simp only at h1 h2 h3;subst h1;obtain rfl:args= #[x]:=by cases args;simp_all
   obtain rfl:types= #[t]:=by cases types;simp_all
   rw[hc]
  cases h
 cases h
section
variable {o:Oper} {x:α}
theorem Cm (hf:∀x,(f x).length=sz) (l:List α) (hr:eW E (PF o).2 sz=some (AL f l):=by kernel_rfl) (ho:(ABW o&&Wv P (PF o).1 sz)=true:=by kernel_rfl):Bi P E o=some (.one<|.int .i64<|ln l):=by
 rw[Ak]at ho;obtain⟨r,q,j,a,e',h3,h4⟩:=Qn hr;obtain⟨e,h6,h7,h8⟩:=Mc ho.2;exact ADY hf l (uF ho.1) h6 h3 h4 h8
end
section
variable {o:Oper} {x:α}
theorem AEH (hf:∀x,(f x).length=sz) (l:List α) (hf':∀x,(f' x).length=sz') (hx':gi l' n'=some x') (k:Nat) (ho:(ABW o&&Wv P (PF o).1 sz&&Nat.blt k sz')=true:=by kernel_rfl) (hr:E.ref (PF o).2=some ((Lk E (PF o).2).1,(Lk E (PF o).2).2.1,n'.toNat*sz'+k):=by kernel_rfl) (hp:(E.root (Lk E (PF o).2).1).bind (λcs=>BN cs (Lk E (PF o).2).2.1)=some (AL f' l'):=by kernel_rfl) {a:Bool} (hc:(f' x')[k]?=some (.sl a e' sz<|AL f l):=by rfl):Bi P E o=some (.one<|.int .i64<|ln l):=by
 simp only[Ak]at ho;obtain⟨e,h6,h7,h8⟩:=Mc ho.1.2;have b:E.place (Lk E (PF o).2).1 (Lk E (PF o).2).2.1 (n'.toNat*sz'+k)=some (.sl a e' sz<|AL f l):=by
  obtain⟨cs,h1,h2⟩:=Aj.1 hp;simp only[St.place,h1,Aa,h2];rw[OZ hf' hx' (by grind),hc]
 exact ADY hf l (uF ho.1.1) h6 hr b h8
end
def Xn (P:Program) (E:St) (t:TypeId) (x:Operand):Option ByteArray:=match E.cell1 P t x with
 |some (.str s)=>some s
 |_=>none
theorem Lq {s:ByteArray} {x:Operand} (h:Xn P E t x=some s):E.cell1 P t x=some (.str s):=by
 unfold Xn at h
 grind
def fP (P:Program) (t:TypeId):Bool:=match P.underlying t with
 |some .string=>true
 |_=>false
theorem VK (h:fP P t=true):P.underlying t=some .string:=by
 unfold fP at h
 grind
def ACx (P:Program) (E:St) (o:Oper):Option (ByteArray×Int):=match o.op with
 | .index t a i=>match fP P t,Xn P E t a,TL P E i with
  |true,some s,some n=>some (s,n)
  |_,_,_=>none
 |_=>none
theorem cN {o:Oper} {s:ByteArray} {b:Int} (h:sx s n=some b) (hc:ACx P E o=some (s,n):=by kernel_rfl):Bi P E o=some (.one<|.int .u8 b):=by
 unfold ACx at hc;split at hc
 ·rename_i t a i ho;split at hc
  ·rename_i s' n' h1 h2 h3
   injection hc with hc
   injection hc with c d
   subst c d;obtain⟨k,h3⟩:=I5 h3;exact AEJ h ho (VK h1) (Lq h2) h3
  cases hc
 cases hc
section
variable {x:α}
def fX (P:Program) (E:St) (d:Int):Option Operand->Option Int
 |none=>some d
 |some x=>TL P E x
end
def yD (P:Program) (E:St) (o:Oper):Option (ByteArray×Int×Int):=match o.op with
 | .slice t a lo hi none=>match fP P t,Xn P E t a with
  |true,some s=>match fX P E 0 lo,fX P E (s.size:Nat) hi with
   |some l,some h=>some (s,l,h)
   |_,_=>none
  |_,_=>none
 |_=>none
section
variable {o:Oper}
theorem QT {d:Int} {x:Option Operand} (h:fX P E d x=some n):∃k,(match x with|some o=>E.cell1 P 0 o|none=>some (.int .i64 d))=some (.int k n):=by
 cases x with
 |none=>
  simp only[fX]at h
  injection h with h
  exact⟨.i64,by rw[h]⟩
 |some x=>exact I5 h
end
theorem Sb {o:Oper} {s u:ByteArray} {l h:Int} (hx:sub s l h=some u) (hc:yD P E o=some (s,l,h):=by kernel_rfl):Bi P E o=some (.one<|.str u):=by
 unfold yD at hc;split at hc
 ·rename_i t a lo hi ho;split at hc
  ·rename_i s' h1 h2;split at hc
   ·rename_i l' h' h3 h4
    injection hc with hc
    injection hc with c b
    injection b with b d
    subst c b d;obtain⟨k1,h3⟩:=QT h3;obtain⟨k2,h4⟩:=QT h4;exact ADW hx ho (VK h1) (Lq h2) h3 h4
   cases hc
  cases hc
 cases hc
section
variable {x:α}
def AAE (P:Program) (E:St) (o:Oper):Option (ByteArray×ByteArray):=match o.op with
 | .binOp .add t x y _=>match Xn P E t x,Xn P E t y with
  |some a,some b=>some (a,b)
  |_,_=>none
 |_=>none
end
theorem Ff {o:Oper} {a b u:ByteArray} (hx:Ie a b=some u) (hc:AAE P E o=some (a,b):=by kernel_rfl):Bi P E o=some (.one<|.str u):=by
 unfold AAE at hc;split at hc
 ·rename_i t x y t' ho;split at hc
  ·rename_i a' b' h1 h2
   injection hc with hc
   injection hc with c d
   subst c d;exact AD1 hx ho (Lq h1)<|Lq h2
  cases hc
 cases hc
section
variable {x:α}
def Rs (o:Oper):TypeId×TypeId×Operand:=match o.op with
 | .convert s d x=>(s,d,x)
 |_=>(0,0,.tmp 0)
end
section
variable {x:α}
def AEf (P:Program) (o:Oper):Bool:=match o.op with
 | .convert s d x=>(match P.underlying s,P.underlying d with
  |some (.slice e),some .string=>(match P.underlying e with
   |some (.int .u8)=>true
   |_=>false)
  |_,_=>false)
 |_=>false
end
theorem lB {o:Oper} {f:Int->List TV} (hf:∀n,f n=[.int .u8 n]) (l:List Int) (hr:eW E (Rs o).2.2 1=some (AL f l):=by kernel_rfl) (ho:AEf P o=true:=by kernel_rfl):Bi P E o=some (.one<|.str<|Fo l):=by
 obtain⟨r,q,j,b,e',h3,h4⟩:=Qn hr;unfold AEf at ho;split at ho
 ·rename_i s d x a;split at ho
  ·rename_i e hs hd;split at ho
   ·rename_i he;simp only[Rs,a]at h3;exact AEO hf l a hs hd he h3 h4
   cases ho
  cases ho
 cases ho
section
variable {x:α}
def yL (P:Program) (E:St) (o:Oper) (k:IntKind):Option (Int×Int):=match o.op with
 | .binOp .shl t x y _=>match E.cell1 P t x,E.cell1 P t y with
  |some (.int k' a),some (.int _ b)=>bif decide (k'=k)then some (a,b)else none
  |_,_=>none
 |_=>none
end
theorem AEF {o:Oper} {k:IntKind} {a b v:Int} (hx:shl k a b=some v) (hc:yL P E o k=some (a,b):=by kernel_rfl):Bi P E o=some (.one<|.int k v):=by
 unfold yL at hc;split at hc
 ·rename_i t x y t' ho;split at hc
  ·rename_i k' a' k2 b' h1 h2
   cases hk:decide (k'=k)with
   |false=>grind
   |true=>
    rw[hk]at hc;simp only[Ae]at hc
    injection hc with hc
    injection hc with hc1 hc2
    have:=Kv hk;subst hc1 hc2 this;exact ADX hx ho h1 h2
  cases hc
 cases hc
section
variable {x:α}
def PQ (o:Oper):TypeId×Operand×Option Operand×Option Operand:=match o.op with
 | .slice t x lo hi none=>(t,x,lo,hi)
 |_=>(0,.tmp 0,none,none)
end
section
variable {x:α}
def ABZ (o:Oper):Bool:=match o.op with
 | .slice t x lo hi none=>true
 |_=>false
end
theorem uH {o:Oper} (h:ABZ o=true):o.op= .slice (PQ o).1 (PQ o).2.1 (PQ o).2.2.1 (PQ o).2.2.2 none:=by
 unfold ABZ at h;unfold PQ
 grind
def tJ (E:St) (x:Operand) (sz:Nat):Option (Nat×List TV):=match E.ref x with
 |some (r,q,j)=>match E.place r q j with
  |some (.sl false e s cells)=>bif Nat.beq s sz then some (e,cells)else none
  |_=>none
 |none=>none
theorem Zw {x:Operand} {a:List TV} (h:tJ E x sz=some (e,a)):∃r q j,E.ref x=some (r,q,j)/\E.place r q j=some (.sl false e sz a):=by
 unfold tJ at h;split at h
 ·rename_i r q j hr;split at h
  ·rename_i e' s cells' hp
   cases hs:Nat.beq s sz with
   |false=>rw[hs]at h;cases h
   |true=>
    rw[hs]at h;simp only[Ae]at h
    injection h with h
    injection h with h1 h2
    have:=Bp hs
    grind
  cases h
 cases h
section
variable {o:Oper} {x:α}
theorem pdr (hf:∀x,(f x).length=sz) {v:List α} {a b:Int} (e:Nat) (hx:dr l a b=some v) (hr:tJ E (PQ o).2.1 sz=some (e,AL f l):=by kernel_rfl) (ha:fX P E 0 (PQ o).2.2.1=some a:=by kernel_rfl) (hb:((PQ o).2.2.2.bind<|TL P E)=some b:=by kernel_rfl) (ho:(ABZ o&&Wv P (PQ o).1 sz)=true:=by kernel_rfl):Bi P E o=some (.one<|.sl false e sz<|AL f v):=by
 rw[Ak]at ho;obtain⟨r,q,j,h1,h2⟩:=Zw hr;obtain⟨e1,h6,h7,h8⟩:=Mc ho.2;obtain⟨k1,h3⟩:=QT ha;obtain⟨oh,h4,h5⟩:=Aj.1 hb;obtain⟨k2,h5⟩:=I5 h5;have:=uH ho.1;rw[h4]at this;exact AEN hf hx this h6 h1 h2 h3 h5 h7 h8
end
section
variable {o:Oper} {x:α}
theorem ADb (hf:∀x,(f x).length=sz) {v:List α} {a:Int} (e:Nat) (hx:dr l a (ln l)=some v) (hr:tJ E (PQ o).2.1 sz=some (e,AL f l):=by kernel_rfl) (ha:fX P E 0 (PQ o).2.2.1=some a:=by kernel_rfl) (ho:(ABZ o&&Wv P (PQ o).1 sz&&(PQ o).2.2.2.isNone)=true:=by kernel_rfl):Bi P E o=some (.one<|.sl false e sz<|AL f v):=by
 simp only[Ak]at ho;obtain⟨r,q,j,h1,h2⟩:=Zw hr;obtain⟨e1,h6,h7,h8⟩:=Mc ho.1.2;obtain⟨k1,h3⟩:=QT ha;have:=uH ho.1.1;rw[Option.isNone_iff_eq_none.1 ho.2]at this;exact AD0 hf hx this h6 h1 h2 h3 h7 h8
end
def ADS (P:Program) (E:St) (o:Oper) (m:Nat):Bool:=match P.underlying (FQ o).1 with
 |some (.array len e)=>vX o&&Nat.beq (P.cellsOf e) 1&&Nat.blt m len&&(match E.ptr? (FQ o).2.1 with
  |some (r,q,j)=>(E.place r q<|j+m).isSome
  |none=>false)
 |_=>false
def ACv (E:St) (o:Oper) (m:Nat):SV:= .one (.ptr (HE E (FQ o).2.1).1 (E.stamp (HE E (FQ o).2.1).1 (HE E (FQ o).2.1).2.1) (HE E (FQ o).2.1).2.1<|(HE E (FQ o).2.1).2.2+m)
theorem pxa {o:Oper} (m:Nat) (hn:n=(m:Int)) (hi:TL P E (FQ o).2.2=some n:=by kernel_rfl) (ho:ADS P E o m=true:=by kernel_rfl):Bi P E o=some (ACv E o m):=by
 unfold ADS at ho;split at ho
 ·rename_i len e ht;simp only[Ak]at ho;obtain⟨⟨⟨h1,h2⟩,h3⟩,h4⟩:=ho;obtain⟨k,hi⟩:=I5 hi;split at h4
  ·rename_i r q j hp;have:=AEI r q j hn (jF h1) ht hi hp (Bp h2) h3 h4;rw[this];simp only[ACv,HE,hp,Bl]
  cases h4
 cases ho
section
variable {x:α}
def EX (o:Oper):TypeId×TypeId×Operand×Operand:=match o.op with
 | .call c=>match c.callee,c.args.toList,c.argTypes.toList with
  | .builtin .append,[s,x],[t,t']=>(t,t',s,x)
  |_,_,_=>(0,0,.tmp 0,.tmp 0)
 |_=>(0,0,.tmp 0,.tmp 0)
end
section
variable {x:α}
def AAk (o:Oper):Bool:=match o.op with
 | .call c=>match c.callee,c.args.toList,c.argTypes.toList with
  | .builtin .append,[s,x],[t,t']=>true
  |_,_,_=>false
 |_=>false
end
theorem jG {o:Oper} (h:AAk o=true):o.op= .call {callee:= .builtin .append,args:= #[(EX o).2.2.1,(EX o).2.2.2],argTypes:= #[(EX o).1,(EX o).2.1]}:=by
 unfold AAk at h;unfold EX;split at h
 ·rename_i c hc;split at h
  ·rename_i s x t t' h1 h2 h3;obtain⟨callee,args,types⟩:=c;simp only at h1 h2 h3;subst h1;obtain rfl:args= #[s,x]:=by grind
   obtain rfl:types= #[t,t']:=by grind
   rw[hc]
  cases h
 cases h
def ACh (P:Program) (N:Nat) (o:Oper) (sz by_:Nat):Bool:=AAk o&&Nat.beq (EX o).1 (EX o).2.1&&Wv P (EX o).1 sz&&(Ma P<|Yh P (EX o).1).isSome&&Nat.beq (P.bytesOf<|Yh P (EX o).1) by_&&Nat.blt 0 by_&&Gz N o
def TS (P:Program) (E:St) (o:Oper) (sz:Nat):Option (List TV×St):=match E.cell1 P (EX o).1 (EX o).2.2.1 with
 |some sv=>match DM E sv with
  |some (.sl true e s cells,E1)=>bif Nat.beq e (Yh P (EX o).1)&&Nat.beq s sz then some (cells,E1)else none
  |_=>none
 |none=>none
def apE (P:Program) (E:St) (o:Oper) (sz:Nat):St:=((TS P E o sz).map Prod.snd).getD E
def apV (P:Program) (o:Oper) (sz:Nat) (a:List TV):SV:= .one (.sl true (Yh P (EX o).1) sz a)
def AAO (P:Program) (E1:St) (o:Oper) (sz:Nat):Option (Nat×List TV×St):=match E1.ref (EX o).2.2.2 with
 |some (r,q,j)=>match E1.place r q j with
  |some (.sl _ _ s cells)=>bif Nat.beq s sz then(match Fy E1 (Vp E1 r (q++ [j]) 0 cells)with
   |some (news,E2)=>some (cells.length,news,E2)
   |none=>none)else none
  |_=>none
 |none=>none
theorem Y9 {e:TypeId} (h:P.underlying t=some (.slice e)):Yh P t=e:=by unfold Yh;rw[h]
section
variable {o:Oper} {x:α}
theorem AEd {E2:St} {r:Root} {e2:Nat} {cells2:List TV} (hf:∀x,(f x).length=sz) (l m:List α) (h:ap by_ l m=some u) (hd:TS P E o sz=some (AL f l,E1)) {b:Bool} (hr:E1.ref (EX o).2.2.2=some (r,q,j)) (hp:E1.place r q j=some (.sl b e2 sz cells2)) (hn:Fy E1 (Vp E1 r (q++ [j]) 0 cells2)=some (AL f m,E2)) (hl:cells2.length=m.length*sz) (ho:ACh P N o sz by_=true):CA P N false E o=some (E2.put o.dst (apV P o sz (AL f u))):=by
 obtain⟨rfl,i⟩:=ACg h;simp only[ACh,Ak]at ho;obtain⟨⟨⟨⟨⟨⟨a1,a2⟩,a3⟩,a4⟩,a5⟩,a6⟩,a7⟩:=ho;obtain⟨d,a8,_,a9⟩:=EW a7;obtain⟨e,b1,b2,b3⟩:=Mc a3;have a:=Y9 b1;rw[a]at a4 a5;have h0':0<sz:=by simp_all
 have hb0':0<by_:=by simp_all
 have hb:=Bp a5;have c:=Bp a2;unfold TS at hd;rw[a]at hd;split at hd
 ·rename_i sv hs;split at hd
  ·rename_i e1 s g E1' h1
   cases hc:(Nat.beq e1 e&&Nat.beq s sz)with
   |false=>grind
   |true=>
    rw[hc]at hd;simp only[Ae]at hd
    injection hd with hd
    injection hd with hd1 hd2
    rw[Ak]at hc;have c1:=Bp hc.1;have c2:=Bp hc.2;subst hd1 hd2 c1 c2;have k:(AL f l).length/s=l.length:=by rw[EV hf];simp_all
    have n:cells2.length/s=m.length:=by simp_all
    have p:l.length+m.length<=(l.length+m.length)*by_:=Nat.le_mul_of_pos_right _ hb0';unfold CA;rw[a8];simp only[Ay a9,jG a1,Ay c,NI,b1,hs,h1,hr,hp,hn];rw[Ay ⟨trivial,b2.symm,trivial,h0',a4,by omega,by grind⟩,S6,apV,a]
  cases hd
 cases hd
end
theorem UH {o:Oper} {a:List TV} (h:(TS P E o sz).map Prod.fst=some a):TS P E o sz=some (a,apE P E o sz):=by
 unfold apE
 cases hx:TS P E o sz with
 |none=>grind
 |some z=>grind
section
variable {o:Oper} {x:α}
theorem Cl {m:List α} (hf:∀x,(f x).length=sz) (hg:∀x,J5 (f x)=true) (l:List α) (h:ap by_ l m=some u) (hd:(TS P E o sz).map Prod.fst=some (AL f l):=by kernel_rfl) (hm:eW (apE P E o sz) (EX o).2.2.2 sz=some (AL f m):=by kernel_rfl) (ho:ACh P N o sz by_=true:=by kernel_rfl):
  CA P N false E o=some ((apE P E o sz).put o.dst<|apV P o sz<|AL f u):=by
 obtain⟨r,q,j,a,e,h1,h2⟩:=Qn hm;exact AEd hf l m h (UH hd) h1 h2 (by rw[Zf _<|Uw hg m,Ro<|Uw hg m]) (EV hf m) ho
end
section
variable {o:Oper} {x:α}
theorem WO (hf:∀x,(f x).length=sz) (l m:List α) (h:ap by_ l m=some u) (hd:(TS P E o sz).map Prod.fst=some (AL f l):=by kernel_rfl) (hm:(AAO P (apE P E o sz) o sz).map (λz=>(z.1,z.2.1))=some (m.length*sz,AL f m):=by kernel_rfl) (ho:ACh P N o sz by_=true:=by kernel_rfl):
  CA P N false E o=some ((((AAO P (apE P E o sz) o sz).map λz=>z.2.2).getD E).put o.dst<|apV P o sz<|AL f u):=by
 have hd':=UH hd;generalize hE:apE P E o sz=E1 at hm hd'⊢;unfold AAO at hm⊢
 cases hr:E1.ref (EX o).2.2.2 with
 |none=>grind
 |some z=>
  obtain⟨r,q,j⟩:=z;simp only[hr]at hm⊢
  cases hp:E1.place r q j with
  |none=>grind
  |some t=>
   simp only[hp]at hm⊢
   cases t with
   |sl own e2 s cells=>
    simp only at hm⊢
    cases hb:Nat.beq s sz with
    |false=>grind
    |true=>
     rw[hb]at hm;simp only[Ae]at hm⊢;have:=Bp hb;subst this
     cases hn:Fy E1 (Vp E1 r (q++ [j]) 0 cells)with
     |none=>grind
     |some y=>
      obtain⟨news,E2⟩:=y;simp only[hn,Bx]at hm⊢
      injection hm with hm
      injection hm with hm1 hm2
      subst hm2;exact AEd hf l m h hd' hr hp hn hm1 ho
   |_=>grind
end
def ACQ (P:Program) (N:Nat) (o:Oper):Bool:=AAk o&&Wv P (EX o).1 1&&fP P (EX o).2.1&&!Nat.beq (EX o).1 (EX o).2.1&&ABS P (Yh P (EX o).1)&&Gz N o
section
variable {o:Oper}
theorem rI {f:Int->List TV} {b:ByteArray} {u:List Int} (hf:∀n,f n=[.int .u8 n]) (l:List Int) (h:aps l b=some u) (hd:(TS P E o 1).map Prod.fst=some (AL f l):=by kernel_rfl) (hx:Xn P E (EX o).2.1 (EX o).2.2.2=some b:=by kernel_rfl) (ho:ACQ P N o=true:=by kernel_rfl):
  CA P N false E o=some ((apE P E o 1).put o.dst<|apV P o 1<|AL f u):=by
 have hd':=UH hd;simp only[ACQ,Ak,CG]at ho;obtain⟨⟨⟨⟨⟨a1,a2⟩,a3⟩,a4⟩,a5⟩,a6⟩:=ho;obtain⟨d,a8,_,a9⟩:=EW a6;obtain⟨e,b1,b2,b3⟩:=Mc a2;have a:=Y9 b1;have c:=VK a3;have g:=Lq hx;have hne':(EX o).1≠(EX o).2.1:=by grind
 rw[a]at a5;unfold aps at h;split at h
 case isFalse=>cases h
 rename_i hb
 injection h with h
 subst h;have hl:(AL f l).length=l.length:=by rw[EV (sz:=1) (λn=>by rw[hf];rfl),dP]
 generalize hE:apE P E o 1=E1 at hd'⊢;unfold TS at hd';rw[a]at hd';split at hd'
 ·rename_i sv hs;split at hd'
  ·rename_i e1 s i E1' h1
   cases hc:(Nat.beq e1 e&&Nat.beq s 1)with
   |false=>grind
   |true=>
    rw[hc]at hd';simp only[Ae]at hd'
    injection hd' with hd'
    injection hd' with hd1 hd2
    rw[Ak]at hc;have c1:=Bp hc.1;have c2:=Bp hc.2;subst hd1 hd2 c1 c2;unfold CA;rw[a8];simp only[Ay a9,jG a1,Av hne',QW,b1,c,hs,g,h1];rw[Ay ⟨trivial,trivial,a5,by rw[hl];exact hb⟩,Xm hf,S6,apV,a]
  cases hd'
 cases hd'
end
def TK (o:Oper):TypeId×Operand×Operand:=match o.op with
 | .makeSlice t l c=>(t,l,c)
 |_=>(0,.tmp 0,.tmp 0)
def ADj (o:Oper):Bool:=match o.op with
 | .makeSlice .. =>true
 |_=>false
theorem ABV {o:Oper} (h:ADj o=true):o.op= .makeSlice (TK o).1 (TK o).2.1 (TK o).2.2:=by
 unfold ADj at h;unfold TK
 grind
def AD4 (P:Program) (N:Nat) (o:Oper) (sz by_:Nat):Bool:=ADj o&&Wv P (TK o).1 sz&&Nat.beq (P.bytesOf<|Yh P (TK o).1) by_&&Gz N o
section
variable {o:Oper} {x:α}
theorem fmk (hf:∀x,(f x).length=sz) (z:α) (h:mk by_ z n=some u) (hl:TL P E (TK o).2.1=some n:=by kernel_rfl) (hc:TL P E (TK o).2.2=some n:=by kernel_rfl) (hz:Ma P (Yh P (TK o).1)=some (f z):=by kernel_rfl) (ho:AD4 P N o sz by_=true:=by kernel_rfl):
  CA P N false E o=some (E.put o.dst<|.one<|.sl true (Yh P (TK o).1) sz<|AL f u):=by
 simp only[AD4,Ak]at ho;obtain⟨⟨⟨a1,a2⟩,a3⟩,a4⟩:=ho;obtain⟨d,a5,a6,_⟩:=EW a4;obtain⟨e,b1,b2,b3⟩:=Mc a2;have a:=Y9 b1;rw[a]at hz a3⊢;obtain⟨k1,hl⟩:=I5 hl;obtain⟨k2,hc⟩:=I5 hc;rw[a5];exact AED z h (ABV a1) a5 a6 b1 hl hc hz rfl (Bp a3) b2
end
def ADi (o:Oper):Bool:=match o.op with
 | .convert .. =>true
 |_=>false
theorem ABU {o:Oper} (h:ADi o=true):o.op= .convert (Rs o).1 (Rs o).2.1 (Rs o).2.2:=by
 unfold ADi at h;unfold Rs
 grind
def ADU (P:Program) (N:Nat) (o:Oper):Bool:=ADi o&&fP P (Rs o).1&&Wv P (Rs o).2.1 1&&nI P (Yh P (Rs o).2.1)&&Gz N o
theorem fsb {o:Oper} {f:Int->List TV} {b:ByteArray} (hf:∀n,f n=[.int .u8 n]) (hx:Xn P E (Rs o).1 (Rs o).2.2=some b) (ho:ADU P N o=true:=by kernel_rfl):CA P N false E o=some (E.put o.dst<|.one<|.sl false (Yh P (Rs o).2.1) 1<|AL f<|pW b):=by
 simp only[ADU,Ak]at ho;obtain⟨⟨⟨⟨a1,a2⟩,a3⟩,a4⟩,a5⟩:=ho;obtain⟨d,a6,a7,_⟩:=EW a5;obtain⟨e,b1,b2,b3⟩:=Mc a3;have a:=Y9 b1;rw[a]at a4⊢;rw[a6];exact AEC hf (ABU a1) a6 a7 (VK a2) b1 (Lq hx) a4
section
variable {x:α}
def RG (o:Oper):TypeId×Operand×Operand:=match o.op with
 | .store t a x=>(t,a,x)
 |_=>(0,.tmp 0,.tmp 0)
end
def ADh (o:Oper):Bool:=match o.op with
 | .store .. =>o.dst.isNone
 |_=>false
theorem ABT {o:Oper} (h:ADh o=true):o.op= .store (RG o).1 (RG o).2.1 (RG o).2.2/\o.dst=none:=by
 unfold ADh at h;unfold RG;split at h
 ·simp_all
 cases h
def Wt (P:Program) (E:St) (o:Oper):Option (List TV×St):=match E.val P (RG o).1 (RG o).2.2 with
 |some s=>MV E s
 |none=>none
def yG (P:Program) (E:St) (o:Oper):List TV:=((Wt P E o).map Prod.fst).getD []
def pR (P:Program) (E:St) (o:Oper):St:=((Wt P E o).map Prod.snd).getD E
def stP (P:Program) (E:St) (o:Oper):Root×List Nat×Nat:=HE (pR P E o) (RG o).2.1
def uY (P:Program) (E:St) (o:Oper) (k sz:Nat):Bool:=ADh o&&(Wt P E o).isSome&&Nat.beq (yG P E o).length (P.cellsOf (RG o).1)&&Nat.blt 0 (yG P E o).length&&Nat.ble (k+(yG P E o).length) sz
section
variable {o:Oper} {x:α}
theorem AD8 {r:Root} (hf:∀x,(f x).length=sz) (hx:gi l n=some x) (k:Nat) {c:Nat} {cs cs':List TV} (ho:uY P E o k sz=true) (hp:(pR P E o).ptr? (RG o).2.1=some (r,c::q,n.toNat*sz+k)) (hr:(pR P E o).root r=some cs) (A:At cs (c::q) (AL f l) (λa=>setRow a (n.toNat*sz+k) (yG P E o)) cs'):CA P N false E o=some (((pR P E o).setRoot r cs').bump r):=by
 simp only[uY,Ak]at ho;obtain⟨⟨⟨⟨a1,a2⟩,a3⟩,a4⟩,a5⟩:=ho;obtain⟨b1,b2⟩:=ABT a1;have ht:Wt P E o=some (yG P E o,pR P E o):=by
  unfold yG pR
  cases hh:Wt P E o with
  |none=>grind
  |some z=>rfl
 generalize hX:yG P E o=xs at*;generalize hE:pR P E o=E1 at*;unfold Wt at ht;split at ht
 ·rename_i s hs;have h0':0<xs.length:=by simp_all
  simp only[CA,b2,b1,VX,hs,ht,hp,hr,A.c];rw[Ay ⟨A.o,Bp a3,h0',ADo hf hx a5⟩,Av (by simp),A.u]
 cases ht
end
section
variable {o:Oper}
def ABv (E:St) (r:Root) (c:Nat) (a:List TV):List TV:=match E.root r with
 |some cs=>match cs[c]? with
  |some (.sl o e s _)=>cs.set c<|.sl o e s a
  |_=>cs
 |none=>[]
end
def Sf (E:St) (r:Root) (c:Nat):Option (List TV):=match E.root r with
 |some cs=>match cs[c]? with
  |some (.sl true e s row)=>some row
  |_=>none
 |none=>none
theorem Se {r:Root} {c:Nat} {a:List TV} (h:Sf E r c=some a):∃cs e s,E.root r=some cs/\cs[c]?=some (.sl true e s a)/\∀row',ABv E r c row'=cs.set c (.sl true e s row'):=by
 unfold Sf at h;unfold ABv
 grind
section
variable {o:Oper} {x:α}
theorem JU (hf:∀x,(f x).length=sz) (hx:gi l n=some x) (k c:Nat) (z:α) (ho:uY P E o k sz=true:=by kernel_rfl) (hp:(pR P E o).ptr? (RG o).2.1=some ((stP P E o).1,[c],n.toNat*sz+k):=by kernel_rfl) (hr:Sf (pR P E o) (stP P E o).1 c=some (AL f l):=by kernel_rfl) (hz:setRow (f x) k (yG P E o)=f z:=by kernel_rfl):CA P N false E o=some (((pR P E o).setRoot (stP P E o).1<|ABv (pR P E o) (stP P E o).1 c<|AL f<|si l n z).bump (stP P E o).1):=by
 obtain⟨cs,e,s,h1,h2,h3⟩:=Se hr;refine AD8 hf hx k ho hp h1 ?_;rw[h3];have hk:Nat.ble (k+(yG P E o).length) sz=true:=by
  simp only[uY,Ak]at ho;exact ho.2
 exact At.one (Wx hf hx hk hz) h2 rfl
end
section
variable {o:Oper} {x:α}
theorem AD7 {s:Nat} (hf:∀x,(f x).length=sz) (hx:gi l n=some x) (k c:Nat) (z:α) (hf':∀x,(f' x).length=sz') (hx':gi l' n'=some x') (k':Nat) (z':α') (ho:(uY P E o k sz&&Nat.blt k' sz')=true:=by kernel_rfl) (hp:(pR P E o).ptr? (RG o).2.1=some ((stP P E o).1,[c,n'.toNat*sz'+k'],n.toNat*sz+k):=by kernel_rfl) (hr:Sf (pR P E o) (stP P E o).1 c=some (AL f' l'):=by kernel_rfl) (hz:setRow (f x) k (yG P E o)=f z:=by kernel_rfl) (hc:(f' x')[k']?=some (.sl true e s<|AL f l):=by rfl) (hc':(f' x').set k' (.sl true e s<|AL f<|si l n z)=f' z':=by rfl):CA P N false E o=some (((pR P E o).setRoot (stP P E o).1<|ABv (pR P E o) (stP P E o).1 c<|AL f'<|si l' n' z').bump (stP P E o).1):=by
 obtain⟨cs,e1,s1,h1,h2,h3⟩:=Se hr;rw[Ak]at ho;refine AD8 hf hx k ho.1 hp h1 ?_;rw[h3];have hk:Nat.ble (k+(yG P E o).length) sz=true:=by
  have:=ho.1;simp only[uY,Ak]at this;exact this.2
 exact AEo hf' hx' (At.one (Wx hf hx hk hz) hc hc') ho.2 h2 rfl
end
theorem KB.o {ops:Array Oper} {ts dn:List Nat} (mv:Bool) (h:KW P N ops ts (i::dn) ((CA P N mv E (oA ops i)).getD E) Q) (hs:(CA P N mv E (oA ops i)).isSome=true:=by kernel_rfl) (hk:(R4 P ops E i&&(kp (oA ops i)||ts.contains i))=true:=by kernel_rfl):KB P N ops ts dn i E Q:=FJ (getD_some hs) h hk
def bits:Nat->List (TypeId×Operand)->List (Bool×TypeId×Operand)
 |_,[]=>[]
 |m,(t,x)::l=>(Nat.beq (m %2) 1,t,x)::bits (m/2) l
def PR (o:Oper):Nat:=match o.op with
 | .call c=>match c.callee with
  | .value (.func f)=>f
  |_=>0
 |_=>0
def GE (o:Oper):List (TypeId×Operand):=match o.op with
 | .call c=>c.argTypes.toList.zip c.args.toList
 |_=>[]
def T6 (P:Program) (N:Nat) (o:Oper):Bool:=(match o.op with
 | .call c=>match c.callee with
  | .value (.func f)=>Nat.beq c.argTypes.size c.args.size&&(match P.funcs[f]? with
   | some fn => !(fn.name == "runtime.NumGoroutine") && !fn.body.isNone
   |none=>false)
  |_=>false
 |_=>false)&&(match o.dst with
 |some d=>Nat.blt d N
 |none=>true)
theorem PT:∀{l:List (TypeId×Operand)} {m:Nat},(bits m l).map (λx=>x.2.2)=l.map Prod.snd
 |[],m=>rfl
 |(t,x)::l,m=>by simp only[bits,BJ,PT]
theorem Pd {o:Oper} (h:T6 P N o=true):∃args tys,o.op= .call {callee:= .value (.func<|PR o),args:=args,argTypes:=tys}/\dJ P (PR o)/\(∀d,o.dst=some d->d<N)/\(GE o).map Prod.snd=args.toList:=by
 simp only[T6,Ak]at h;obtain⟨h1,h2⟩:=h;have hN:∀d,o.dst=some d->d<N:=by
  intro d hd;simp_all
 unfold PR GE;split at h1
 ·rename_i c hc;split at h1
  ·rename_i f a;rw[Ak]at h1;obtain⟨h3,h4⟩:=h1;split at h4
   ·rename_i fn b;simp only[Ak,CG]at h4;obtain⟨callee,args,types⟩:=c;simp only at a h3;subst a;have hz:=Bp h3;refine⟨args,types,by simp only[hc],?_,hN,?_⟩
    ·exact⟨fn,b,by grind,h4.2⟩
    exact List.map_snd_zip<|by simp[hz]
   cases h4
  cases h1
 cases h1
def mvA (P:Program) (E:St) (o:Oper) (m:Nat):Option (List (Option SV)×St):=MZ P E<|bits m<|GE o
def clE (P:Program) (E:St) (o:Oper) (m:Nat):St:=((mvA P E o m).map Prod.snd).getD E
def shA (P:Program) (E:St) (o:Oper) (m:Nat):Option (List AV×Bool):=match mvA P E o m with
 |some (ss,E1)=>Jm P E1 (bits m<|GE o) ss
 |none=>none
def bX (P:Program) (E:St) (o:Oper) (m:Nat):Option (List AV):=(shA P E o m).map Prod.fst
def shB (P:Program) (E:St) (o:Oper) (m:Nat):Bool:=match shA P E o m with
 |some (_,b)=>b
 |none=>false
theorem AAy {o:Oper} {a:SV} (h:bX P E o m=some as) (hc:shB P E o m=true\/AZ a=false):YB P E o.dst (bits m (GE o)) as a ((clE P E o m).put o.dst a):=by
 unfold bX shB shA at*;unfold clE
 cases hm:mvA P E o m with
 |none=>grind
 |some z=>
  obtain⟨ss,E1⟩:=z;rw[hm]at h hc;simp only at h hc
  cases hs:Jm P E1 (bits m<|GE o) ss with
  |none=>grind
  |some y=>
   obtain⟨as',c⟩:=y;rw[hs]at h hc;simp only[Bx]at h hc
   injection h with h
   subst h;exact⟨ss,E1,c,hm,hs,hc,rfl⟩
theorem ca {γ:Type _} {l l':List γ} {a b:γ} (h:a=b) (k:l=l'):a::l=b::l':=by rw[h,k]
theorem cs {a b:List TV} (h:BD a=b):TV.sl false e sz (BD a)= .sl false e sz b:=by rw[h]
theorem co {a b:TV} (h:a=b):AV.sv (.one a)= .sv (.one b):=by rw[h]
theorem PX {a b:List TV} (h:a=b):AV.sv (.agg a)= .sv (.agg b):=by rw[h]
theorem RW.c {l:List AV} {n:Nat} {x:Option α} (m:Nat) (h:x.bind kk=some r) {enc:α->SV} (a:∀v,x=some v->AA P (PR (oA ops i)) l (enc v) (List.replicate n .gone)) (hk:∀v,x=some v->kk v=some r->RW P N ops (i+1) ((clE P E (oA ops i) m).put (oA ops i).dst (enc v)) Q) (b:bX P E (oA ops i) m=some l:=by kernel_rfl) (hc:shB P E (oA ops i) m=true\/∀v,AZ (enc v)=false:=by exact .inl<|by kernel_rfl) (ho:(R4 P ops E i&&T6 P N (oA ops i))=true:=by kernel_rfl):RW P N ops i E Q:=by
 obtain⟨v,hv,h⟩:=Aj.1 h;rw[Ak]at ho;obtain⟨h1,h2⟩:=HT ho.1;obtain⟨args,tys,h3,h4,h5,h6⟩:=Pd ho.2;unfold RW;rw[GP h1];exact Hj.call h3 h4 h2 h5 (bits m<|GE<|oA ops i) (by rw[PT,h6]) (a v hv) (AAy b<|hc.imp id λh=>h v)<|hk v hv h
section
variable {ts:List Nat}
theorem KB.c {l:List AV} {n:Nat} {x:Option α} (m:Nat) (h:x.bind kk=some r) {enc:α->SV} (a:∀v,x=some v->AA P (PR (oA ops i)) l (enc v) (List.replicate n .gone)) (hk:∀v,x=some v->kk v=some r->KW P N ops ts (i::dn) ((clE P E (oA ops i) m).put (oA ops i).dst (enc v)) Q) (b:bX P E (oA ops i) m=some l:=by kernel_rfl) (hc:shB P E (oA ops i) m=true\/∀v,AZ (enc v)=false:=by exact .inl<|by kernel_rfl) (ho:(R4 P ops E i&&T6 P N (oA ops i)&&((bits m<|GE<|oA ops i).all (λx=>!x.1)||ts.contains i))=true:=by kernel_rfl):KB P N ops ts dn i E Q:=by
 obtain⟨v,hv,h⟩:=Aj.1 h;simp only[Ak]at ho;obtain⟨h1,h2⟩:=HT ho.1.1;obtain⟨args,tys,h3,h4,h5,h6⟩:=Pd ho.1.2;exact gL.call i (IV h1) h3 h4 h2 h5 (bits m<|GE<|oA ops i) (by rw[PT,h6]) ho.2 (a v hv) (AAy b<|hc.imp id λh=>h v)<|hk v hv h
end
theorem gs {f:FuncId} {l l':List AV} {n:Nat} {x:Option α} {enc:α->SV} (e:l=l') (h:∀v,x=some v->AA P f l' (enc v) (List.replicate n .gone)):∀v,x=some v->AA P f l (enc v) (List.replicate n .gone):=e▸h
def oC (E:St) (o:Oper):Root:=match GE o with
 |(_,x)::_=>(HE E x).1
 |[]=> .hand
def wJ (E:St) (o:Oper):Bool:=match GE o with
 |(_,x)::_=>(match E.ptr? x with
  |some (r,[],0)=>r.mem
  |_=>false)
 |[]=>false
def cxA (P:Program) (E:St) (o:Oper):Option (List AV×Bool):=Jm P (E.without<|oC E o) (bits 0 (GE o).tail)<|List.replicate (bits 0 (GE o).tail).length none
def wK (P:Program) (E:St) (o:Oper):Option (List AV):=(cxA P E o).map Prod.fst
def cxB (P:Program) (E:St) (o:Oper):Bool:=match cxA P E o with
 |some (_,b)=>b
 |none=>false
theorem ACL {o:Oper} (h:wJ E o=true):∃t x l,GE o=(t,x)::l/\E.ptr? x=some (oC E o,[],0)/\(oC E o).mem=true:=by
 unfold wJ at h;unfold oC;split at h
 ·rename_i t x l hl;split at h
  ·rename_i r hp;refine⟨t,x,l,hl,?_,?_⟩
   ·simp only[HE,hp,Bl]
   simpa only[HE,hp,Bl]using h
  cases h
 cases h
theorem AAA {p:Prop} {o:Oper} (h:wK P E o=some as) (hc:cxB P E o=true\/p):∃c,Jm P (E.without (oC E o)) (bits 0 (GE o).tail) (List.replicate (bits 0 (GE o).tail).length none)=some (as,c)/\(c=true\/p):=by
 unfold wK cxB at*
 cases hs:cxA P E o with
 |none=>grind
 |some y=>
  obtain⟨as',c⟩:=y;rw[hs]at h hc;simp only[Bx]at h hc
  injection h with h
  subst h;exact⟨c,hs,hc⟩
theorem AEl {l:List AV} {n:Nat} {x:Option α} (h:x.bind kk=some r) {enc:α->SV} {b:List TV} (e:∀v,x=some v->AA P (PR (oA ops i)) (.ext b::l) (enc v) (.ext (fin v)::List.replicate n .gone)) (d:∀v,(fin v).length=b.length) (hk:∀v,x=some v->kk v=some r->RW P N ops (i+1) (((E.setRoot (oC E (oA ops i)) (fin v)).bump (oC E (oA ops i))).put (oA ops i).dst (enc v)) Q) (f:wK P E (oA ops i)=some l:=by kernel_rfl) (hb:E.boxes (oC E<|oA ops i)=some b:=by kernel_rfl) (hc:cxB P E (oA ops i)=true\/∀v,AZ (enc v)=false/\AB (fin v)=false:=by exact .inl<|by kernel_rfl) (ho:(R4 P ops E i&&T6 P N (oA ops i)&&wJ E (oA ops i))=true:=by kernel_rfl):RW P N ops i E Q:=by
 obtain⟨v,hv,h⟩:=Aj.1 h;simp only[Ak]at ho;obtain⟨h1,h2⟩:=HT ho.1.1;obtain⟨args,tys,h3,h4,h5,h6⟩:=Pd ho.1.2;obtain⟨t,x0,l0,h7,h8,h9⟩:=ACL ho.2;obtain⟨c,h10,h11⟩:=AAA f hc;unfold RW;rw[GP h1];intro w0 FA UA w a blk FS US hr hF hU;simp only[wpList,Ck hr h2,BQ];refine .inl<|oM hr hF hU h3 h4 h5 (x:=x0) (l:=bits 0 (GE<|oA ops i).tail) ?_ h9 h8 hb (d v) h10 (h11.imp id λh=>h v) (e v hv) λw' v' blk' FS' US' k1 k2 k3=>hk v hv h _ _ _ _ _ _ _ _ k1 k2 k3;rw[PT,<-h6,h7];rfl
theorem AEn {ts:List Nat} {l:List AV} {n:Nat} {x:Option α} (h:x.bind kk=some r) {enc:α->SV} {b:List TV} (e:∀v,x=some v->AA P (PR (oA ops i)) (.ext b::l) (enc v) (.ext (fin v)::List.replicate n .gone)) (d:∀v,(fin v).length=b.length) (hk:∀v,x=some v->kk v=some r->KW P N ops ts (i::dn) (((E.setRoot (oC E (oA ops i)) (fin v)).bump (oC E (oA ops i))).put (oA ops i).dst (enc v)) Q) (f:wK P E (oA ops i)=some l:=by kernel_rfl) (hb:E.boxes (oC E<|oA ops i)=some b:=by kernel_rfl) (hc:cxB P E (oA ops i)=true\/∀v,AZ (enc v)=false/\AB (fin v)=false:=by exact .inl<|by kernel_rfl) (ho:(R4 P ops E i&&T6 P N (oA ops i)&&wJ E (oA ops i)&&ts.contains i)=true:=by kernel_rfl):KB P N ops ts dn i E Q:=by
 obtain⟨v,hv,h⟩:=Aj.1 h;simp only[Ak]at ho;obtain⟨h1,h2⟩:=HT ho.1.1.1;obtain⟨args,tys,h3,h4,h5,h6⟩:=Pd ho.1.1.2;obtain⟨t,x0,l0,h7,h8,h9⟩:=ACL ho.1.2;obtain⟨c,h10,h11⟩:=AAA f hc;intro w0 FA UA w a blk FS US hr hF hU;unfold wpOp;simp only[IV h1,Ck hr h2,BQ];refine .inl (oM hr hF hU h3 h4 h5 (x:=x0) (l:=bits 0 (GE<|oA ops i).tail) ?_ h9 h8 hb (d v) h10 (h11.imp id λh=>h v) (e v hv) λw' v' blk' FS' US' k1 k2 k3=>⟨λht=>(by grind),_,_,_,_,hk v hv h,k1,k2,k3⟩);rw[PT,<-h6,h7];rfl
theorem wc {b:Bool} {c:Operand} {x y:Code} (h:(bif b then tx else ty)=some r) (ht:tx=some r->Wp P N x E Q) (hf:ty=some r->Wp P N y E Q) (hc:E.cell1 P 0 c=some (.bool b):=by kernel_rfl):Wp P N (.cond c x y) E Q:=Wp.c h ht hf hc
theorem wt {c:Operand} {x y:Code} (ht:Wp P N x E Q) (hc:E.cell1 P 0 c=some (.bool true):=by kernel_rfl):Wp P N (.cond c x y) E Q:=AEh ht hc
theorem wf {c:Operand} {x y:Code} (hf:Wp P N y E Q) (hc:E.cell1 P 0 c=some (.bool false):=by kernel_rfl):Wp P N (.cond c x y) E Q:=AEi hf hc
theorem rsz {rs:List ResultVar} {a:SV} (h:(Ea P E rs).map (λz=>EL z.1)=some a):∃ss E',Ea P E rs=some (ss,E')/\EL ss=a:=by simp_all
theorem rsx {rt:Root} {rs:List ResultVar} {b:SV} {a:List TV} (h:(Ea P E rs).map (λz=>(EL z.1,z.2.boxes rt))=some (b,some a)):∃ss E',Ea P E rs=some (ss,E')/\EL ss=b/\E'.boxes rt=some a:=by simp_all
theorem gkx {f:FuncId} {c:Code} {a cells':List TV} {b:SV} (hf:P.funcs[f]?=some fn) (hb:fn.body=some c) (hN:fn.ntmps=N) (h:Wp P N c (DE (.ext a::as)) λe E=>(e= .normal\/e= .ret)/\∃ss E',Ea P E fn.results.toList=some (ss,E')/\EL ss=b/\E'.boxes (.ext 0)=some cells') (d:cells'.isEmpty=false:=by rfl):AA P f (.ext a::as) b (.ext cells'::List.replicate as.length .gone):=wE hf hb (by rw[hN];exact h) d
theorem gk {f:FuncId} {c:Code} {a:SV} (hf:P.funcs[f]?=some fn) (hb:fn.body=some c) (hN:fn.ntmps=N) (h:Wp P N c (DE as) λe E=>(e= .normal\/e= .ret)/\∃ss E',Ea P E fn.results.toList=some (ss,E')/\EL ss=a):AA P f as a (List.replicate as.length .gone):=AAq hf hb (by rw[hN];exact h)
theorem pT:∀t:TV,(Nf t).isSl=t.isSl:=by intro t;cases t<;>rfl
theorem Kz:∀(cs:List TV) (j:Nat),(BD cs)[j]?=cs[j]?.map Nf
 |[],j=>by simp[BD]
 |t::ts,0=>by simp[BD]
 |t::ts,j+1=>by simpa[BD]using Kz ts j
theorem XG:∀(q:List Nat) (cs:List TV),BN (BD cs) q=(BN cs q).map BD
 |[],cs=>rfl
 |c::q,cs=>by
  simp only[BN,Kz]
  cases cs[c]? with
  |none=>rfl
  |some t=>
   cases t with
   |sl o e sz cells=>exact XG q cells
   |_=>rfl
def rF:TV->List TV->TV
 | .sl _ e s _,row=> .sl false e s row
 |t,_=>t
def aH (cs:List TV) (j:Nat) (a:List TV):List TV:=match cs[j]? with
 |some t=>cs.set j<|rF t a
 |none=>cs
theorem kD {s:Nat} {cs:List TV} {a:List TV} (h:cs[j]?=some (.sl true e s a)) (c:Nat):(aH cs j (BD a))[c]?=if c=j then some (.sl false e s (BD a))else cs[c]? :=by
 have hj:=(Ag.1 h).1;simp only[aH,h,rF]
 grind
theorem AAu {s:Nat} {r1:List TV} {cs:List TV} {a:List TV} (h:cs[j]?=some (.sl true e s a)) (hq:BN cs q=some r1) (i:Nat):
  ∃r2,BN (aH cs j (BD a)) q=some r2/\(r1[i]?.isSome=true->r2[i]?.isSome=true)/\(Ll r1[i]?=true->Ll r2[i]?=true):=by
 cases q with
 |nil=>
  simp only[BN]at hq
  injection hq with hq
  subst hq;refine⟨_,rfl,?_,?_⟩
  ·rw[kD h]
   grind
  rw[kD h];split
  ·intro _;rfl
  exact id
 |cons c q=>
  simp only[BN,kD h];simp only[BN]at hq;by_cases hc:c=j
  ·subst hc;rw[h]at hq;simp only at hq;rw[Ay rfl];simp only[XG,hq,Bx];refine⟨_,rfl,?_,?_⟩
   ·rw[Kz];simp
   rw[Kz]
   cases r1[i]? with
   |none=>exact id
   |some t=>simp only[Ll,Bx,pT];exact id
  grind
theorem Zy:∀{ts:List TV} {vs:List Value} {F U:List Nat} {j:Nat} {t:TV},Bv w ts vs F U->ts[j]?=some t->F.Nodup->(∀v F1 U1,C1 w t v F1 U1->∃F2 U2,C1 w t' v F2 U2/\Jk F1 U1 F2 U2)->
  ∃F' U',Bv w (ts.set j t') vs F' U'/\Jk F U F' U'
 |[],vs,F,U,j,t,h,hj,_,_=>by simp at hj
 |x::ts,vs,F,U,0,t,h,hj,hn,hk=>by
  simp at hj;subst hj;simp only[Bv]at h;obtain⟨v,a,F1,F2,U1,U2,rfl,rfl,rfl,h1,h2⟩:=h;obtain⟨F1',U1',a1,a2⟩:=hk v F1 U1 h1;exact⟨F1'++F2,U1'++U2,by simp only[Dr,Bv];grind,Ta hn a2 Jk.refl⟩
 |x::ts,vs,F,U,j+1,t,h,hj,hn,hk=>by
  simp only[Bv]at h;obtain⟨v,a,F1,F2,U1,U2,rfl,rfl,rfl,h1,h2⟩:=h;obtain⟨F2',U2',a1,a2⟩:=Zy h2 (by simpa using hj) (BR.1 hn).2.1 hk;exact⟨F1++F2',U1++U2',by simp only[JG,Bv];grind,Ta hn Jk.refl a2⟩
theorem aU {a:Act} {blk:Root->Nat}:∀{ts:List TV} {vs:List Value} {F U:List Nat} {j:Nat} {t:TV},CW w a E blk ts vs F U->ts[j]?=some t->F.Nodup->(∀v F1 U1,CT w a E blk t v F1 U1->∃F2 U2,CT w a E blk t' v F2 U2/\Jk F1 U1 F2 U2)->
  ∃F' U',CW w a E blk (ts.set j t') vs F' U'/\Jk F U F' U'
 |[],vs,F,U,j,t,h,hj,_,_=>by simp at hj
 |x::ts,vs,F,U,0,t,h,hj,hn,hk=>by
  simp at hj;subst hj;obtain⟨v,b,F1,F2,U1,U2,rfl,rfl,rfl,h1,h2⟩:=h;obtain⟨F1',U1',a1,a2⟩:=hk v F1 U1 h1;exact⟨F1'++F2,U1'++U2,by rw[Dr];exact⟨v,b,F1',F2,U1',U2,rfl,rfl,rfl,a1,h2⟩,Ta hn a2 Jk.refl⟩
 |x::ts,vs,F,U,j+1,t,h,hj,hn,hk=>by
  obtain⟨v,b,F1,F2,U1,U2,rfl,rfl,rfl,h1,h2⟩:=h;obtain⟨F2',U2',a1,a2⟩:=aU h2 (by simpa using hj) (BR.1 hn).2.1 hk;exact⟨F1++F2',U1++U2',by rw[JG];exact⟨v,b,F1,F2',U1,U2',rfl,rfl,rfl,h1,a1⟩,Ta hn Jk.refl a2⟩
def frE (E:St) (r:Root) (j:Nat) (a:List TV):St:=match E.root r with
 |some cs=>E.setRoot r<|aH cs j a
 |none=>E
theorem rE {a:Act} {r:Root} {s:Nat} {cs:List TV} {b:List TV} (hr:E.root r=some cs) (hj:cs[j]?=some (.sl true e s b)) (hh:r≠ .hand) (R:Root):Cr w w a a E (E.setRoot r (aH cs j (BD b))) blk blk R:=by
 have d:(E.setRoot r<|aH cs j<|BD b).ver=E.ver:=by cases r<;>rfl
 have f:(E.setRoot r<|aH cs j<|BD b).gen=E.gen:=by cases r<;>rfl
 have g:(aH cs j<|BD b).length=cs.length:=by simp[aH,hj]
 have c:∀cs0,E.root R=some cs0->∃cs1,(E.setRoot r<|aH cs j<|BD b).root R=some cs1/\∀q r1,BN cs0 q=some r1->∀i:Nat,∃r2,BN cs1 q=some r2/\(r1[i]?.isSome=true->r2[i]?.isSome=true)/\(Ll r1[i]?=true->Ll r2[i]?=true):=by
  intro cs0 h0;by_cases hR:R=r
  ·subst hR;rw[hr]at h0
   injection h0 with h0
   subst h0;refine⟨aH cs j<|BD b,?_,λq r1 hq i=>AAu hj hq i⟩
   cases R with
   |slot n=>
    simp only[St.root,St.setRoot,Cg,BQ]at hr⊢
    injection hr with hr
    congr 1
    cases hs:E.slots n with
    |one t=>
     rw[hs]at hr;simp only[SV.cells]at hr;subst hr;have:(aH [t] j<|BD b).length=1:=g
     match hf:aH [t] j (BD b),this with
     |[x],_=>rfl
    |agg ts=>rfl
    |tup ss=>
     rw[hs]at hr;simp only[SV.cells]at hr
     grind
   |box n=>simp[St.root,St.setRoot,Cg]
   |ext n=>simp[St.root,St.setRoot,Cg]
   |hand=>exact absurd rfl hh
  refine⟨cs0,?_,λq r1 hq i=>⟨r1,hq,id,id⟩⟩;rw[<-h0];cases r<;>cases R<;>simp only[St.root,St.setRoot,Cg]<;>first
   |exact absurd rfl hh
   |rfl
   |grind
   |(rw[Av];intro e;injection e with e;exact hR<|by rw[e])
   |(rw[Av];intro e;cases e)
 constructor
 ·refine .inr ⟨by rw[d],λq i v h1 h2=>⟨h1,?_⟩,λq i ad hq h1 h2=>⟨h1,?_⟩⟩
  ·unfold St.place at h2⊢
   cases h0:E.root R with
   |none=>rw[h0]at h2;cases h2
   |some cs0=>
    rw[h0]at h2;obtain⟨cs1,k1,k2⟩:=c cs0 h0;simp only[Aa]at h2
    cases hc:BN cs0 q with
    |none=>rw[hc]at h2;cases h2
    |some r1=>
     rw[hc]at h2;obtain⟨r2,k3,_,k4⟩:=k2 q r1 hc i
     grind
  unfold St.place at h2⊢
  cases h0:E.root R with
  |none=>grind
  |some cs0=>
   rw[h0]at h2;obtain⟨cs1,k1,k2⟩:=c cs0 h0;simp only[Aa]at h2
   cases hc:BN cs0 q with
   |none=>grind
   |some r1=>
    rw[hc]at h2;obtain⟨r2,k3,k4,_⟩:=k2 q r1 hc i
    grind
 refine .inr ⟨by rw[f],λi ad h1 h2=>⟨h1,?_⟩⟩;unfold St.place at h2⊢
 cases h0:E.root R with
 |none=>grind
 |some cs0=>
  rw[h0]at h2;obtain⟨cs1,k1,k2⟩:=c cs0 h0;simp only[Aa]at h2;obtain⟨r2,k3,k4,_⟩:=k2 [] cs0 rfl i;rw[k1];simp only[Aa,k3];exact k4 h2
section
variable {w0:Base} {a:Act}
theorem CO.freeze {r:Root} {s:Nat} (h:CO w0 FA UA N w a E blk FS US) {cs:List TV} {c:List TV} (hr:E.root r=some cs) (hj:cs[j]?=some (.sl true e s c)) (hh:r≠ .hand):
  ∃FS' US',CO w0 FA UA N w a (E.setRoot r (aH cs j (BD c))) blk FS' US'/\FS' .hand=FS .hand/\US' .hand=US .hand:=by
 have u:=rE (w:=w) (a:=a) (blk:=blk) hr hj hh;have i:aH cs j (BD c)=cs.set j (.sl false e s<|BD c):=by simp only[aH,hj,rF]
 have l:∀v F1 U1,C1 w (.sl true e s c) v F1 U1->∃F2 U2,C1 w (.sl false e s<|BD c) v F2 U2/\Jk F1 U1 F2 U2:=λv F1 U1 h1=>AC4 h1<|wY.s rfl
 have x:∃F' U',Jk (FS r) (US r) F' U'/\(∀n,r= .slot n->EE w a (E.setRoot r<|aH cs j<|BD c) blk ((E.slots n).withCells<|aH cs j<|BD c) (a.eval<|.tmp n) F' U')/\
   (r.mem=true->∃d T F,w.heap[blk r]?=some (.cells d T (0,0))/\Bv w (aH cs j<|BD c) d.toList F U'/\F'=blk r::F):=by
  cases r with
  |slot n=>
   simp only[St.root]at hr
   injection hr with hr
   have hs:=Ig u (h.slot n) (λ_ _=>rfl) λ_ _=>rfl
   cases f:E.slots n with
   |one t=>
    rw[f]at hr hs;simp only[SV.cells]at hr;subst hr;have y:j=0:=by grind
    subst y;simp at hj;subst hj;simp only[EE]at hs;obtain⟨F2,U2,k1,k2⟩:=l _ _ _ hs.1;refine⟨F2,U2,k2,λm hm=>?_,λhm=>by cases hm⟩
    injection hm with hm
    subst hm;rw[f,i];simp only[Dr,SV.withCells,EE];exact⟨k1,λ_=>hs.2 rfl⟩
   |agg ts=>
    rw[f]at hr hs;simp only[SV.cells]at hr;subst hr;simp only[EE]at hs;obtain⟨vs,k0,k1⟩:=hs;obtain⟨F2,U2,k2,k3⟩:=aU (t':= .sl false e s (BD c)) k1 hj (h.nodup _) l;refine⟨F2,U2,k3,λm hm=>?_,λhm=>by cases hm⟩
    injection hm with hm
    subst hm;rw[f,i];simp only[SV.withCells,EE]
    grind
   |tup ss=>
    rw[f]at hr;simp only[SV.cells]at hr
    grind
  |hand=>exact absurd rfl hh
  |box n=>
   rcases h.box (.box n) rfl with⟨k,_⟩|⟨cs0,d,T,F,k1,k2,k3,k4⟩
   ·simp only[St.root]at hr;grind
   simp only[St.root]at hr;rw[k1]at hr
   injection hr with hr
   subst hr;have g:=h.nodup<|.box n;rw[k4]at g;obtain⟨z,o⟩:=Di.1 g;obtain⟨F2,U2,k5,k6⟩:=Zy (t':= .sl false e s (BD c)) k3 hj o l;refine⟨blk (.box n)::F2,U2,?_,λm hm=>(by cases hm),λ_=>⟨d,T,F2,k2,by rw[i];exact k5,rfl⟩⟩;rw[k4];refine⟨k6.1.cons_cons _,λb hb=>?_⟩
   rcases k6.2 b hb with q|⟨q1,q2⟩
   ·exact .inl q
   grind
  |ext n=>
   rcases h.box (.ext n) rfl with⟨k,_⟩|⟨cs0,d,T,F,k1,k2,k3,k4⟩
   ·simp only[St.root]at hr;grind
   simp only[St.root]at hr;rw[k1]at hr
   injection hr with hr
   subst hr;have g:=h.nodup<|.ext n;rw[k4]at g;obtain⟨z,o⟩:=Di.1 g;obtain⟨F2,U2,k5,k6⟩:=Zy (t':= .sl false e s (BD c)) k3 hj o l;refine⟨blk (.ext n)::F2,U2,?_,λm hm=>(by cases hm),λ_=>⟨d,T,F2,k2,by rw[i];exact k5,rfl⟩⟩;rw[k4];refine⟨k6.1.cons_cons _,λb hb=>?_⟩
   rcases k6.2 b hb with q|⟨q1,q2⟩
   ·exact .inl q
   grind
 obtain⟨F',U',hl,h0,h2⟩:=x
 have p:∀b∈F',b∈FS r:=λb hb=>hl.1.subset hb
 refine⟨Cg FS r F',Cg US r U',?_,by rw[Bt λe=>hh e.symm],by rw[Bt λe=>hh e.symm]⟩;have hF:∀R b,b∈Cg FS r F' R->b∈FS R:=by
  intro R b hb;by_cases hR:R=r
  ·subst hR;rw[BK]at hb;exact p b hb
  rw[Bt hR]at hb;exact hb
 have hU:∀R b,b∈Cg US r U' R->b∈US R\/(R=r/\b∈FS r/\b∉F'):=by
  intro R b hb;by_cases hR:R=r
  ·subst hR;rw[BK]at hb
   rcases hl.2 b hb with q|⟨q1,q2⟩
   ·exact .inl q
   grind
  rw[Bt hR]at hb;exact .inl hb
 constructor
 ·intro n;by_cases hn:r= .slot n
  ·subst hn;rw[BK,BK];have:=h0 n rfl;simpa only[St.setRoot,Cg,BQ]using this
  rw[Bt λe=>hn e.symm,Bt λe=>hn e.symm];have h1:(E.setRoot r<|aH cs j<|BD c).slots n=E.slots n:=by
   cases r with
   |slot m=>
    simp only[St.setRoot,Cg]
    grind
   |_=>rfl
  rw[h1];exact Ig u (h.slot n) (λ_ _=>rfl) λ_ _=>rfl
 ·intro R hm;by_cases hR:R=r
  ·subst hR;right;obtain⟨d,T,F,k1,k2,k3⟩:=h2 hm;refine⟨_,d,T,F,?_,k1,by rw[BK];exact k2,by rw[BK,k3]⟩
   cases R with
   |slot n=>cases hm
   |hand=>cases hm
   |box n=>simp[St.setRoot,Cg]
   |ext n=>simp[St.setRoot,Cg]
  rw[Bt hR,Bt hR];have h1:(E.setRoot r<|aH cs j<|BD c).boxes R=E.boxes R:=by
   cases r<;>simp only[St.setRoot,Cg]<;>first
    |rfl
    |(rw[Av hR])
  rw[h1];exact h.box R hm
 ·have:(E.setRoot r<|aH cs j<|BD c).boxes .hand=E.boxes .hand:=by
   cases r<;>simp only[St.setRoot,Cg]<;>first
    |exact absurd rfl hh
    |rfl
    |(rw[Av<|by simp])
  rw[this];exact h.nohand
 ·intro R;by_cases hR:R=r
  ·subst hR;rw[BK];exact hl.1.nodup<|h.nodup R
  rw[Bt hR];exact h.nodup R
 ·exact λR S h3 b hb hb'=>h.dis R S h3 b (hF R b hb)<|hF S b hb'
 ·intro R S b hb hb'
  rcases hU S b hb' with q|⟨rfl,q1,q2⟩
  ·exact h.disU R S b (hF R b hb) q
  by_cases hR:R=S
  ·subst hR;rw[BK]at hb;exact q2 hb
  exact h.dis R S hR b (hF R b hb) q1
 ·exact λR b hb=>h.inF R b<|hF R b hb
 ·intro R b hb
  rcases hU R b hb with q|⟨rfl,q1,_⟩
  ·exact h.inU R b q
  obtain⟨q2,q3⟩:=h.inF R b q1
  grind
 ·exact h.disA
 ·exact h.os
 ·exact h.tape
 ·exact h.output
 ·exact h.size
 ·exact h.keep
 ·exact h.len
 ·exact h.nodef
 ·exact h.xblk
 ·rw[Ew];exact h.ambB
 ·rw[Ew];exact h.ambI
 ·rw[Ii];exact h.frz
 ·exact h.ambF
 rw[Ew];exact h.pin
end
theorem AAw {r:Root} (h:Sf E r j=some row):∃cs e s,E.root r=some cs/\cs[j]?=some (.sl true e s row)/\frE E r j (BD row)=E.setRoot r (aH cs j (BD row)):=by
 obtain⟨cs,e,s,h1,h2,_⟩:=Se h;exact⟨cs,e,s,h1,h2,by unfold frE;rw[h1]⟩
def Yz:Root->Bool
 | .hand=>false
 |_=>true
theorem Uz {r:Root} (h:Yz r=true):r≠ .hand:=by rintro rfl;cases h
theorem RW.fz (r:Root) (j:Nat) (hs:BD row=row') (h:RW P N ops i (frE E r j row') Q) (ho:Sf E r j=some row:=by kernel_rfl) (hh:Yz r=true:=by rfl):RW P N ops i E Q:=by
 intro w0 FA UA w a blk FS US hr hF hU;obtain⟨cs,e,s,h1,h2,h3⟩:=AAw ho;obtain⟨FS',US',k1,k2,k3⟩:=hr.freeze h1 h2<|Uz hh;rw[<-hs,h3]at h;exact h _ _ _ _ _ _ _ _ k1 (by rw[k2,hF])<|by rw[k3,hU]
theorem KW.fz {ts:List Nat} (r:Root) (j:Nat) (hs:BD row=row') (h:KW P N ops ts dn (frE E r j row') Q) (ho:Sf E r j=some row:=by kernel_rfl) (hh:Yz r=true:=by rfl):KW P N ops ts dn E Q:=by
 intro hq hc w0 FA UA w a blk FS US hr hF hU;obtain⟨cs,e,s,h1,h2,h3⟩:=AAw ho;obtain⟨FS',US',k1,k2,k3⟩:=hr.freeze h1 h2<|Uz hh;rw[<-hs,h3]at h;exact h hq hc _ _ _ _ _ _ _ _ k1 (by rw[k2,hF])<|by rw[k3,hU]
theorem Wp.fz {c:Code} (r:Root) (j:Nat) (hs:BD row=row') (h:Wp P N c (frE E r j row') Q) (ho:Sf E r j=some row:=by kernel_rfl) (hh:Yz r=true:=by rfl):Wp P N c E Q:=by
 intro w0 FA UA w a blk FS US hr hF hU;obtain⟨cs,e,s,h1,h2,h3⟩:=AAw ho;obtain⟨FS',US',k1,k2,k3⟩:=hr.freeze h1 h2<|Uz hh;rw[<-hs,h3]at h;exact h _ _ _ _ _ _ _ _ k1 (by rw[k2,hF])<|by rw[k3,hU]
def St.fzs (E:St) (f:Option Nat):St:={E with fz:=f}
theorem pQ {a:Act} {f:Option Nat} (r:Root):Cr w w a a E (E.fzs f) blk blk r:=by
 have hp:∀q j,(E.fzs f).place r q j=E.place r q j:=λq j=>by cases r<;>rfl
 exact⟨.inr ⟨rfl,λq j v h1 h2=>⟨h1,by rw[hp];exact h2⟩,λq j ad _ h1 h2=>⟨h1,by rw[hp];exact h2⟩⟩,.inr ⟨rfl,λj ad h1 h2=>⟨h1,by rw[hp];exact h2⟩⟩⟩
theorem CO.fzs {w0:Base} {a:Act} (h:CO w0 FA UA N w a E blk FS US) (f:Option Nat) (hf:∀n,f=some n->Frz w0 a n):CO w0 FA UA N w a (E.fzs f) blk FS US where
 slot:=λn=>Ig pQ (h.slot n) (λ_ _=>rfl) λ_ _=>rfl
 box:=h.box
 nohand:=h.nohand
 nodup:=h.nodup
 dis:=h.dis
 disU:=h.disU
 inF:=h.inF
 inU:=h.inU
 disA:=h.disA
 os:=h.os
 tape:=h.tape
 output:=h.output
 size:=h.size
 keep:=h.keep
 len:=h.len
 nodef:=h.nodef
 xblk:=h.xblk
 ambB:=h.ambB
 ambI:=h.ambI
 frz:=hf
 ambF:=h.ambF
 pin:=h.pin
theorem tY (n:Nat):(2*n+1)/2=n:=by omega
theorem tX (n:Nat):¬(2*n+1) %2=0:=by omega
def AB0 (o:Oper):Bool:=match o.op with
 | .buildSlice t len parts=>Nat.beq len 0&&Nat.beq parts.size 0
 |_=>false
theorem AC1 {a:Act} {nx:Next} {w':World} {o:Oper} (hb:AB0 o=true) (hd:o.dst=some d) (hN:d<N) (hs:CA P N false E o=some E') (hr:(execOp a.eval o).run P w= .ok nx w'):∃B,nx= .value (.slice B 0 0):=by
 unfold AB0 at hb;split at hb
 ·rename_i t len parts ho;rw[Ak]at hb;have h1:=Bp hb.1;have h2:=Bp hb.2;subst h1;have h3:parts= #[]:=Array.eq_empty_of_size_eq_zero h2;subst h3;simp only[CA,hd,Ay hN,ho,Mq]at hs;split at hs
  ·rename_i e hu;split at hs
   ·rename_i zs ss hz b;obtain⟨i,z,hi,c,f,g⟩:=JY (w:=w) hz;simp[execOp,ho,Instr.buildSlice,run_underlying hu,sizeOf,typeInfo,hi,newRow,Instr.fill]at hr;obtain⟨hr,_⟩:=hr;exact⟨_,hr.symm⟩
   cases hs
  cases hs
 cases hb
def yJ (x:Operand):Nat:=match x with
 | .tmp n=>n
 |_=>0
theorem sM {ts:List Nat} (h:KW P N ops ts (i::dn) (((CA P N false E (oA ops i)).getD E).fzs (some (2*((oA ops i).dst.getD 0)+1))) Q) (hs:(CA P N false E (oA ops i)).isSome=true:=by kernel_rfl) (hk:(R4 P ops E i&&AB0 (oA ops i)&&Gz N (oA ops i))=true:=by kernel_rfl):KB P N ops ts dn i E Q:=by
 have hs':=getD_some (a:=E) hs;generalize hE:(CA P N false E<|oA ops i).getD E=E' at h hs';simp only[Ak]at hk;obtain⟨h1,h2⟩:=HT hk.1.1;obtain⟨d,h3,_,h4⟩:=EW hk.2;rw[h3]at h;simp only[Bl]at h;have b:kp (oA ops i)=true:=by
  have:=hk.1.2;unfold AB0 at this;unfold kp;split at this
  ·rename_i ho;rw[ho]
  cases this
 intro w0 FA UA w a blk FS US hr hF hU;unfold wpOp;simp only[IV h1,Ck hr h2,BQ];obtain⟨nx,w',v,blk',FS',US',k1,k2,k3,k4,k5,k6⟩:=RF hr hF hU hs';obtain⟨B,hB⟩:=AC1 (N:=N) hk.1.2 h3 h4 hs' k1;have hv:v= .slice B 0 0:=by
  rcases k2 with k2|⟨k2,_⟩
  ·rw[hB]at k2;injection k2 with k2;exact k2.symm
  rw[hB]at k2;cases k2
 refine .inl ?_;unfold Oper.wp;rw[k1,hB];refine⟨λ_=>k6 b,_,blk',FS',US',h,?_,k4,k5⟩;rw[hv]at k3;refine k3.fzs _ λn hn=>?_
 injection hn with hn
 subst hn;unfold Frz;rw[Av<|tX d,tY d,h3];refine⟨B,?_⟩;have:=k3.len;simp only[Act.eval,Act.put];rw[ED];have hl:=hr.len;have c:d<a.tmps.size:=AX h4 hl;simp[Array.getElem?_setIfInBounds_self,c]
theorem KB.a {ts:List Nat} (hs:CA P N false E (oA ops i)=some E') (h:KW P N ops ts (i::dn) (E'.fzs none) Q) (hk:(R4 P ops E i&&AAk (oA ops i)&&Nat.beq (EX (oA ops i)).1 (EX (oA ops i)).2.1&&Gz N (oA ops i))=true:=by kernel_rfl) (hx:(EX<|oA ops i).2.2.1= .tmp (yJ (EX<|oA ops i).2.2.1):=by kernel_rfl) (hz:E.fz=some (2*yJ (EX<|oA ops i).2.2.1+1):=by kernel_rfl):KB P N ops ts dn i E Q:=by
 simp only[Ak]at hk;obtain⟨⟨⟨h0,h5⟩,h6⟩,h7⟩:=hk;obtain⟨h1,h2⟩:=HT h0;obtain⟨d,h3,_,h4⟩:=EW h7;have c:=Bp h6;have ho:=jG h5;rw[<-c]at ho;intro w0 FA UA w a blk FS US hr hF hU;unfold wpOp;simp only[IV h1,Ck hr h2,BQ];have he:NI P E d (EX<|oA ops i).1 (EX<|oA ops i).2.2.1 (EX<|oA ops i).2.2.2=some E':=by
  unfold CA at hs;rw[h3]at hs;simpa only[Ay h4,ho,BQ]using hs
 obtain⟨nx,w',v,blk',FS',US',k1,k2,k3,k4,k5,_,k6⟩:=Wj hr hF hU ho h3 h4 he;have b:=hr.frz _ hz;unfold Frz at b;rw[Av<|tX _,tY,<-hx]at b;obtain⟨B,hB⟩:=b;refine .inl ?_;unfold Oper.wp;rw[k1]
 rcases k2 with rfl|⟨rfl,rfl⟩
 ·exact⟨λ_=>k6 B hB,_,blk',FS',US',h,k3.fzs none (λn hn=>by cases hn),k4,k5⟩
 exact⟨λ_=>k6 B hB,_,blk',FS',US',h,k3.fzs none (λn hn=>by cases hn),k4,k5⟩
def rm (k:IntKind) (a b:Int):Option Int:=if b=0 then none else some<|a.tmod b
def ban (k:IntKind) (a b:Int):Int:=k.wrap (BitVec.ofInt k.bits a&&&BitVec.ofInt k.bits b).toNat
def bxo (k:IntKind) (a b:Int):Int:=k.wrap (BitVec.ofInt k.bits a^^^BitVec.ofInt k.bits b).toNat
def ACz (P:Program) (E:St) (o:Oper) (k:IntKind) (q:Bool):Option (Int×Int):=match o.op with
 | .binOp op t x y _=>bif(match op with| .rem=>!q| .quo=>q|_=>false)then(match E.cell1 P t x,E.cell1 P t y with
  |some (.int k' a),some (.int k'' b)=>bif decide (k'=k)&&decide (k''=k)then some (a,b)else none
  |_,_=>none)else none
 |_=>none
theorem prm {o:Oper} {k:IntKind} {a b v:Int} (hx:rm k a b=some v) (hc:ACz P E o k false=some (a,b):=by kernel_rfl):Bi P E o=some (.one<|.int k v):=by
 unfold ACz at hc;split at hc
 ·rename_i op t x y t' ho;cases op<;>simp only[AD,Ae,Ac,reduceCtorEq]at hc;split at hc
  ·rename_i k' a' k2 b' h1 h2
   cases hk:(decide (k'=k)&&decide (k2=k))with
   |false=>rw[hk]at hc;cases hc
   |true=>
    rw[hk]at hc;simp only[Ae]at hc
    injection hc with hc
    injection hc with hc1 hc2
    rw[Ak]at hk;have e1:=Kv hk.1;have e2:=Kv hk.2;subst hc1 hc2 e1 e2;unfold rm at hx;split at hx
    ·cases hx
    rename_i hb
    injection hx with hx
    subst hx;simp only[Bi,ho,h1,h2,WY,BQ,XL,AAl,Av hb,Bx]
  cases hc
 cases hc
def kX (P:Program) (f:FuncId) (as:List AV) (a:List TV):Prop:=∀(w:World) (vs:List Value) (FA UA:List Nat),Ld w as vs FA UA->FA.Nodup->(∀b∈FA,b∉UA)->(∀b∈FA++UA,b<w.heap.size)->
  Calls P f vs.toArray w λe w'=>∃v F U G V,e= .returned v/\AA0 w w' FA UA (.tup []) [.ext a] [v] (.tuple #[]) F U G V
theorem gkp {f:FuncId} {c:Code} {cells:List TV} (hf:P.funcs[f]?=some fn) (hb:fn.body=some c) (hN:fn.ntmps=N) (h:Wp P N c (DE as) λe E=>(e= .normal\/e= .ret)/\∃t r,fn.results.toList=[.tmp t]/\E.ptr? (.tmp t)=some (r,[],0)/\r.mem=true/\E.boxes r=some cells) (l:cells.isEmpty=false:=by rfl):kX P f as cells:=by
 subst hN;intro w vs FA UA ha m j o;obtain⟨blk,FS,US,hr,hF,hU⟩:=SA (N:=fn.ntmps) ha m j o (A:=R2.none) (fz:=none) trivial (λb hb=>by cases hb);refine calls_of_wp hf hb<|wp_mono (h _ _ _ _ _ _ _ _ hr hF hU) ?_;rintro e a w' ⟨E,blk',FS',US',⟨he,t,r,h1,h2,h3,h4⟩,k3,h5,h6⟩;obtain⟨u,ad,d,p⟩:=KE k3 h2;have s:ad=⟨blk' r,0,none⟩:=by
  cases r with
  |slot n=>cases h3
  |hand=>cases h3
  |box n=>simp only[pa]at d;injection d with d;rw[<-d];simp[Addr.add]
  |ext n=>simp only[pa]at d;injection d with d;rw[<-d];simp[Addr.add]
 obtain⟨g,T,F3,b2,b3,b4⟩:∃g T F3,w'.heap[blk' r]?=some (.cells g T (0,0))/\Bv w' cells g.toList F3 (US' r)/\FS' r=blk' r::F3:=by
  rcases k3.box r h3 with⟨q,_⟩|⟨cs,g,T,F3,q1,q2,q3,q4⟩
  ·rw[h4]at q;cases q
  rw[h4]at q1
  injection q1 with q1
  subst q1;exact⟨g,T,F3,q2,q3,q4⟩
 have hne':cells≠ []:=by rintro rfl;cases l
 have k:(fn.results.toList.mapM<|Pm P a.tmps).run P w'= .ok [a.eval<|.tmp t] w':=by
  rw[h1,List.mapM_cons];simp[Pm,Act.eval]
 have i:a.defers=[]/\∃v,(results fn a.tmps).run P w'= .ok v w'/\∃v' F U G V,Ending.returned v= .returned v'/\AA0 w w' FA UA (.tup []) [.ext cells] [v'] (.tuple #[]) F U G V:=by
  refine⟨k3.nodef,_,OM k,a.eval<|.tmp t,[],[],FS' r,US' r,by simp,?_⟩
  exact{
   res:=by simp only[XZ];exact⟨[],rfl,by simp[Qb]⟩
   fin:=⟨_,[],FS' r,[],US' r,[],rfl,by simp,by simp,⟨blk' r,g,T,F3,by rw[p,s],b2,b3,b4,hne'⟩,⟨rfl,rfl,rfl⟩⟩
   nodup:=by simpa using k3.nodup r
   dis:=λb hb hb'=>k3.disU r r b (by simpa using hb)<|by simpa using hb'
   inF:=λb hb=>k3.inF r b<|by simpa using hb
   inU:=λb hb=>k3.inU r b<|by simpa using hb
   os:=k3.os
   tape:=k3.tape
   output:=k3.output
   size:=k3.size
   keep:=λb hb hF=>k3.keep b hb hF (λe=>by cases e)}
 rcases he with rfl|rfl
 ·exact i
 exact i
section
variable {w0:Base} {a:Act}
theorem AAH {f:FuncId} {l:List (Bool×TypeId×Operand)} {ss:List (Option SV)} {K:Act->World->Prop} {Q:Exit->Act->World->Prop} (h:CO w0 FA UA N w a E blk FS US) (hF:FS .hand=[]) (hU:US .hand=[]) {o:Oper} {args:Array Operand} {tys:Array TypeId} (ho:o.op= .call {callee:= .value (.func f),args:=args,argTypes:=tys}) (hf:dJ P f) (hd:o.dst=some d) (hN:d<N) (hl:l.map (λx=>x.2.2)=args.toList) {i:List TV} (hg:kX P f as i) {c:Bool} (h1:MZ P E l=some (ss,E1)) (h2:Jm P E1 l ss=some (as,c)) (h3:c=true\/AB i=false) (hK:∀w' v blk' FS' US',CO w0 FA UA N w' (a.put (some d) v) (E1.newBox d i) blk' FS' US'->FS' .hand=[]->US' .hand=[]->K (a.put (some d) v) w'):o.wp P a w K Q:=by
 obtain⟨FS1,US1,F,U,k1,k2,k3,k4,_⟩:=Qv h h1;rw[hF,A6]at k3;rw[hU,A6]at k4;obtain⟨U',k5,k6⟩:=Lt k2 k1 h2;have a0:l.map (λx=>a.eval x.2.2)=(args.map a.eval).toList:=by
  rw[PW,<-hl,FH];rfl
 rw[a0]at k5;have p:∀b∈F,b∉U':=by
  intro b hb hb';rw[<-k3]at hb
  rcases k6 b hb' with h4|⟨r,h4⟩|⟨_,r,h5,h4⟩
  ·rw[<-k4]at h4;exact k2.disU .hand .hand b hb h4
  ·exact k2.disU .hand r b hb h4
  exact k2.dis .hand r (Fk h5) b hb h4
 have k:=hg w _ F U' k5 (by rw[<-k3];exact k2.nodup .hand) p (by
  intro b hb
  rcases Al.1 hb with hb|hb
  ·exact(k2.inF .hand b (by rw[k3];exact hb)).2
  rcases k6 b hb with h4|⟨r,h4⟩|⟨_,r,h5,h4⟩
  ·exact(k2.inU .hand b (by rw[k4];exact h4)).2
  ·exact(k2.inU r b h4).2
  exact(k2.inF r b h4).2)
 unfold Oper.wp;rw[Iz ho hf];simp only[Oper.upon];rw[Rm]at k;refine Calls.mono k ?_;rintro e w' ⟨v,Fr,Ur,G,V,rfl,g⟩;obtain⟨v0,vs0,G1,G2,V1,V2,t,rfl,rfl,⟨b0,a1,T,F0,rfl,e1,e2,rfl,e3⟩,⟨rfl,rfl,rfl⟩⟩:=g.fin
 injection t with t _
 subst t;have y:=g.res;simp only[XZ,Qb]at y;obtain⟨_,_,_,rfl,rfl⟩:=y;have z:=g.nodup;simp only[A6,A4]at z;have a2:∀b∈b0::F0,(b∈FS1 .hand\/w.heap.size<=b)/\b<w'.heap.size:=by
  intro b hb;have:=g.inF b (by simpa using hb);rw[k3];exact this
 have h0:∀b∈V1,(∃s,b∈US1 s)\/((b∈FS1 .hand\/w.heap.size<=b)/\b∉b0::F0/\b<w'.heap.size):=by
  intro b hb;obtain⟨h4,h5⟩:=g.inU b<|by simpa using hb
  have m:b∉b0::F0:=λe=>g.dis b (by simpa using e)<|by simpa using hb
  rcases h4 with h4|h4|h4
  ·rcases k6 b h4 with h6|h6|⟨h6,r,h7,h8⟩
   ·exact .inl ⟨.hand,by rw[k4];exact h6⟩
   ·exact .inl h6
   rcases h3 with h3|h3
   ·rw[h3]at h6;cases h6
   have:=KD e2 h3;subst this;cases hb
  ·exact .inr ⟨.inl (by rw[k3];exact h4),m,h5⟩
  exact .inr ⟨.inr h4,m,h5⟩
 have j:∀b,b<w.heap.size->b∉FS1 .hand->w'.heap[b]?=w.heap[b]? :=λb hb u=>g.keep b hb (by rw[<-k3];exact u)
 let E2:St:={E1 with boxes:=Cg E1.boxes (.box d)<|some i,ver:=Cg E1.ver (.box d)<|E1.ver (.box d)+1,gen:=Cg E1.gen (.box d) (E1.gen (.box d)+1)}
 let blk1:=Cg blk (.box d) b0
 have a3:Root.box d≠Root.hand:=by simp
 have a4:∀s,Cr w w' a a E1 E2 blk blk1 s:=by
  intro s;by_cases hs:s= .box d
  ·subst hs;exact⟨.inl (by simp[E2,Cg]),.inl<|by simp[E2,Cg]⟩
  have hv:E2.ver s=E1.ver s:=by simp[E2,Cg,hs]
  have hg:E2.gen s=E1.gen s:=by simp[E2,Cg,hs]
  by_cases hh:s= .hand
  ·subst hh;exact Gl hv hg<|by simp[St.root,k2.nohand]
  refine Ej k2 hv hg ?_ (λ_ _=>rfl) (λ_=>by simp[blk1,Cg,hs]) (λb hb=>j b (k2.inF s b hb).2<|k2.dis s .hand hh b hb) λb hb=>j b (k2.inU s b hb).2 λe=>k2.disU .hand s b e hb;cases s<;>simp_all [E2,St.root,Cg]
 have g1:=k2.two (w':=w') (a':=a) (E':=E2) (blk':=blk1) (r1:= .box d) (r2:= .hand) (L1:=b0::F0) (L2:=[]) (V1:=V1) (V2:=[]) a3
  (by simpa using z)
  (λb hb=>by
   have hb':b∈b0::F0:=by simpa using hb
   obtain⟨q1,q2⟩:=a2 b hb'
   exact⟨.inr q1,q2⟩)
  (λb hb=>by
   have hb':b∈V1:=by simpa using hb
   rcases h0 b hb' with q|⟨q1,q2,q3⟩
   ·exact .inl q
   exact .inr ⟨.inr q1,by simpa using q2,q3⟩)
  g.size g.os g.tape g.output (λb hb _ u=>j b hb u) a4
  (λn _ _=>⟨rfl,rfl⟩)
  (λs _ hs _=>⟨by simp[E2,Cg,hs],by simp[blk1,Cg,hs]⟩)
  (.inr ⟨i,a1,T,F0,by simp[E2,Cg],by simp[blk1,Cg,e1],e2,by simp[blk1,Cg]⟩)
  trivial (by simp[E2,Cg,k2.nohand]) k2.len k2.nodef (hfz:=λn hn=>k2.frz n hn)
 have a5:EE w' a E2 blk1 (.one<|.ptr (.box d) (E2.gen<|.box d) [] 0) (.pointer<|some ⟨b0,0,none⟩) [] []:=by
  have h9:E2.stamp (.box d) []=E2.gen (.box d):=rfl;rw[<-h9];refine V9 ?_ ?_
  ·cases hc:i with
   |nil=>exact absurd hc e3
   |cons x xs=>simp[St.place,St.root,E2,Cg,BN,hc]
  simp[pa,blk1,Cg,Addr.add]
 have g2:=g1.put (d:=d) hN a5 bP.none;have:=hK w' _ blk1 _ _ g2 (by rw[Bt (by simp),BK]) (by rw[Bt (by simp),BK]);rw[hd];exact this
end
theorem AAV {l:List AV} {x:Option α} (h:x.bind kk=some r) {f:α->List TV} (g:∀v,x=some v->kX P (PR (oA ops i)) l (f v)) (hk:∀v,x=some v->kk v=some r->RW P N ops (i+1) ((clE P E (oA ops i) 0).newBox ((oA ops i).dst.getD 0) (f v)) Q) (b:bX P E (oA ops i) 0=some l:=by kernel_rfl) (hc:shB P E (oA ops i) 0=true:=by kernel_rfl) (ho:(R4 P ops E i&&T6 P N (oA ops i)&&Gz N (oA ops i))=true:=by kernel_rfl):RW P N ops i E Q:=by
 obtain⟨v,hv,h⟩:=Aj.1 h;simp only[Ak]at ho;obtain⟨h1,h2⟩:=HT ho.1.1;obtain⟨args,tys,h3,h4,h5,h6⟩:=Pd ho.1.2;obtain⟨d,h7,_,h8⟩:=EW ho.2;have e:=hk v hv h;rw[h7]at e;simp only[Bl]at e;unfold RW;rw[GP h1];intro w0 FA UA w a blk FS US hr hF hU;simp only[wpList,Ck hr h2,BQ];unfold bX shB shA at*;unfold clE at e
 cases hm:mvA P E (oA ops i) 0 with
 |none=>rw[hm]at b;cases b
 |some z=>
  obtain⟨ss,E1⟩:=z;rw[hm]at b hc e;simp only at b hc e
  cases hs:Jm P E1 (bits 0<|GE<|oA ops i) ss with
  |none=>rw[hs]at b;cases b
  |some y=>
   obtain⟨as',c⟩:=y;rw[hs]at b hc;simp only[Bx]at b hc
   injection b with b
   subst b;refine .inl<|AAH hr hF hU h3 h4 h7 h8 (l:=bits 0<|GE<|oA ops i) (by rw[PT,h6]) (g v hv) hm hs (.inl hc) λw' v' blk' FS' US' k1 k2 k3=>e _ _ _ _ _ _ _ _ k1 k2 k3
theorem rsp {rs:List ResultVar} {a:List TV} (t:Nat) (h1:rs=[.tmp t]) (h:(match E.ptr? (.tmp t)with
  |some (r,[],0)=>bif r.mem then E.boxes r else none
  |_=>none)=some a):∃t r,rs=[.tmp t]/\E.ptr? (.tmp t)=some (r,[],0)/\r.mem=true/\E.boxes r=some a:=by
 split at h
 ·rename_i r hr
  cases hm:r.mem with
  |false=>rw[hm]at h;cases h
  |true=>rw[hm]at h;exact⟨t,r,h1,hr,hm,h⟩
 cases h
def xtE (N:Nat) (E:St) (o:Oper):Option St:=match o.op,o.dst with
 | .extract t ix,some d=>bif Nat.blt d N then Ox E d t ix else none
 |_,_=>none
theorem ACU {w0:Base} {a:Act} (h:CO w0 FA UA N w a E blk FS US) (hF:FS .hand=[]) (hU:US .hand=[]) {o:Oper} (he:xtE N E o=some E'):
  ∃v blk' FS' US',(∀w2,(execOp a.eval o).run P w2= .ok (.value v) w2)/\CO w0 FA UA N w (a.put o.dst v) E' blk' FS' US'/\FS' .hand=[]/\US' .hand=[]:=by
 unfold xtE at he;split at he
 ·rename_i t ix d ho hd
  cases hN:Nat.blt d N with
  |false=>rw[hN]at he;cases he
  |true=>
   rw[hN]at he;simp only[Ae]at he;have hN':d<N:=by simpa[B8]using hN
   obtain⟨nx,w',v,blk',FS',US',k1,k2,k3,k4,k5,_⟩:=EN.extract (P:=P) h hF hU ho hd hN' he;have b:∃x,∀w2,(execOp a.eval o).run P w2= .ok (.value x) w2:=by
    unfold Ox at he;split at he
    ·rename_i n;split at he
     ·rename_i ss c;split at he
      ·rename_i s e;have hs:=h.slot n;rw[c]at hs;simp only[EE]at hs;obtain⟨vs,f,hx⟩:=hs;obtain⟨v,A,B,C,D,F1,U1,h1,h2,h3,h4,h5⟩:=YS ix hx e;exact⟨v,λw2=>by simp[execOp,ho,Instr.extract,f,h1]⟩
      cases he
     cases he
    cases he
   obtain⟨x,hx⟩:=b;rw[hx w]at k1
   injection k1 with q1 q2
   subst q1 q2
   rcases k2 with k2|⟨k2,_⟩
   ·injection k2 with k2
    subst k2;exact⟨_,blk',FS',US',hx,k3,k4,k5⟩
   cases k2
 cases he
theorem Ic {ts:List Nat} (i:Nat) (h:KW P N ops ts (i::dn) ((xtE N E (oA ops i)).getD E) Q) (hs:(xtE N E (oA ops i)).isSome=true:=by kernel_rfl) (hk:(R4 P ops E i&&pI ops ts dn i)=true:=by kernel_rfl):KW P N ops ts dn E Q:=by
 have hs':=getD_some (a:=E) hs;generalize hE:(xtE N E<|oA ops i).getD E=E' at h hs';simp only[Ak,pI]at hk;obtain⟨h1,h3,h4⟩:=hk;obtain⟨h5,h6⟩:=HT h1;unfold KW at h⊢;rw[VI (i:=i) h3];intro hQ hc w0 FA UA w a blk FS US k1 k2 k3;obtain⟨e1,e2,e3,e4,e5⟩:=VU h4;obtain⟨v,blk',FS',US',g1,g2,g3,g4⟩:=ACU (P:=P) k1 k2 k3 hs';refine Nh (v:=v) (n:=ops.size) (IV h5) (Region.noSelect_spec e1) (λc a w hx=>?_) e4 e5 _ _ a w hc (Region.free_spec (IV h5) e2) e3 (.inl ⟨Ck k1 h6,λw2 _=>g1 w2⟩) ?_
 ·obtain⟨E',blk',FS',US',m1,_⟩:=hx;exact(hQ c E' m1).elim
 exact h hQ (LR hc e3) _ _ _ _ _ _ _ _ g2 g3 g4
def kR (P:Program) (E:St) (o:Oper) (s:SV):Prop:=∀(N:Nat) (w0:Base) (FA UA:List Nat) (w:World) (a:Act) (blk:Root->Nat) (FS US:Root->List Nat),CO w0 FA UA N w a E blk FS US->Ft P w a E blk FS US o s
theorem AEZ (hp:kR P E (oA ops i) s) (h:RW P N ops (i+1) (E.put (oA ops i).dst s) Q) (hk:(R4 P ops E i&&Gz N (oA ops i))=true:=by kernel_rfl):RW P N ops i E Q:=by
 rw[Ak]at hk;obtain⟨h1,h2⟩:=HT hk.1;obtain⟨d,h3,_,h4⟩:=EW hk.2;rw[h3]at h;unfold RW;rw[GP h1];intro w0 FA UA w a blk FS US hr hF hU;simp only[wpList,Ck hr h2,BQ];exact .inl<|(LY hr hF hU (hp _ _ _ _ _ _ _ _ _ hr) h3 h4).wp λw' v blk' FS' US' k1 k2 k3 _=>h _ _ _ _ _ _ _ _ k1 k2 k3
theorem AFw (hp:kR P E (oA ops i) s) (h:SW P N ops m (i+1) (E.put (oA ops i).dst s) K) (hk:(R4 P ops E i&&Gz N (oA ops i)&&Nat.blt i m)=true:=by kernel_rfl):SW P N ops m i E K:=by
 simp only[Ak]at hk;obtain⟨h1,h2⟩:=HT hk.1.1;obtain⟨d,h3,_,h4⟩:=EW hk.1.2;rw[h3]at h;unfold SW;rw[QX h1 hk.2];intro w0 FA UA w a blk FS US k1 k2 k3;obtain⟨v,U,g1,g2,g3⟩:=hp _ _ _ _ _ _ _ _ _ k1;have hr:=g1 w λr _=>⟨λ_ _=>rfl,λ_ _=>rfl⟩;simp only[wpStill,Ck k1 h2,BQ,Oper.still,hr,Oper.stillUpon_value];rw[h3];refine h _ _ _ _ _ _ _ _ (k1.put h4 g2<|PO k1 g3 _) ?_ ?_
 ·rw[Bt (by simp),k2]
 rw[Bt (by simp),k3]
theorem AFx {ts:List Nat} (i:Nat) (hp:kR P E (oA ops i) s) (h:KW P N ops ts (i::dn) (E.put (oA ops i).dst s) Q) (hk:(R4 P ops E i&&Gz N (oA ops i)&&pI ops ts dn i)=true:=by kernel_rfl):KW P N ops ts dn E Q:=by
 simp only[Ak,pI]at hk;obtain⟨⟨h1,h2⟩,h3,h4⟩:=hk;obtain⟨h5,h6⟩:=HT h1;obtain⟨d,h7,_,h8⟩:=EW h2;unfold KW at h⊢;rw[VI (i:=i) h3];rw[h7]at h;intro hQ hc w0 FA UA w a blk FS US k1 k2 k3;obtain⟨e1,e2,e3,e4,e5⟩:=VU h4;obtain⟨v,U,g1,g2,g3⟩:=hp _ _ _ _ _ _ _ _ _ k1;refine Nh (v:=v) (n:=ops.size) (IV h5) (Region.noSelect_spec e1) (λc a w hx=>?_) e4 e5 _ _ a w hc (Region.free_spec (IV h5) e2) e3 (.inl ⟨Ck k1 h6,λw2 e=>?_⟩) ?_
 ·obtain⟨E',blk',FS',US',m1,_⟩:=hx;exact(hQ c E' m1).elim
 ·exact g1 w2 λr hr=>⟨λb hb=>e.2 b (k1.inF r b hb).2,λb hb=>e.2 b (k1.inU r b hb).2⟩
 rw[h7];refine h hQ (LR hc e3) _ _ _ _ _ _ _ _ (k1.put h8 g2<|PO k1 g3 _) ?_ ?_
 ·rw[Bt (by simp),k2]
 rw[Bt (by simp),k3]
def AD5 (o:Oper):Bool:=match o.op with
 | .assign (.const _)| .move (.const _)=>true
 |_=>false
theorem pjk {o:Oper} (h:AD5 o=true:=by kernel_rfl):kR P E o (.one .junk):=by
 intro N w0 FA UA w a blk FS US hr;unfold AD5 at h;split at h
 ·rename_i v ho;exact⟨v,[],λw2 _=>by simp[execOp,ho,Act.eval],by simp[EE,CT,TV.isJunk],by simp⟩
 ·rename_i v ho;exact⟨v,[],λw2 _=>by simp[execOp,ho,Act.eval],by simp[EE,CT,TV.isJunk],by simp⟩
 cases h
abbrev pb (n:Nat):SV:= .one (.ptr (.box n) 0 [] 0)
abbrev px (n:Nat):SV:= .one (.ptr (.ext n) 0 [] 0)
abbrev i6 (n:Int):TV:= .int .i64 n
abbrev tb (b:Bool):TV:= .bool b
abbrev ts (s:ByteArray):TV:= .str s
abbrev rg (n:Nat):List AV:=List.replicate n .gone
theorem jr {w:β} {f:V->Option β} {a:V⊕β} (h:some (.inr w)=some a) (hk:Sum.elim f some a=some r):some w=some r:=by
 injection h with h
 subst h;exact hk
theorem jo {w:β} {f:V->Option β} {o:S⊕(V⊕β)} (h:some (.inr (.inr w))=some o) (hk:∀w,o= .inr (.inr w)->Sum.elim f some (.inr w)=some r):some w=some r:=by
 injection h with h
 exact hk w h.symm
theorem rr {v r:β} (h:some v=some r):v=r:=Option.some.inj h
theorem rq {e:Exit} {rs:List ResultVar} {a:SV} (he:e= .normal\/e= .ret:=by first|exact .inr rfl|exact .inl rfl) (hk:(Ea P E rs).map (λz=>EL z.1)=some a:=by kernel_rfl):(e= .normal\/e= .ret)/\∃ss E',Ea P E rs=some (ss,E')/\EL ss=a:=⟨he,rsz hk⟩
theorem rx {e:Exit} {rs:List ResultVar} {b:SV} {a:List TV} (he:e= .normal\/e= .ret:=by first|exact .inr rfl|exact .inl rfl) (hk:(Ea P E rs).map (λz=>(EL z.1,z.2.boxes<|.ext 0))=some (b,some a):=by kernel_rfl):(e= .normal\/e= .ret)/\∃ss E',Ea P E rs=some (ss,E')/\EL ss=b/\E'.boxes (.ext 0)=some a:=⟨he,rsx hk⟩
section
variable {id:Nat}
theorem ws (h:RW P N ops 0 E (JZ (λE'=>Wp P N y E' Q) Q)):Wp P N (.seq (.region id ops false) y) E Q:=Wp.seq<|ACR h
end
theorem BY (hf:∀x,(f x).length=sz) (h:(gi l n).bind kk=some r) (hk:∀x,gi l n=some x->kk x=some r->RW P N ops (i+1) (E.put (oA ops i).dst (nH E (oA ops i) (n.toNat*sz+0))) Q) (hc:AAj P E (oA ops i) sz=some (AL f l,n):=by kernel_rfl) (hq:zC P N ops i E=true:=by kernel_rfl):RW P N ops i E Q:=
 bd h λx gx h=>RW.q (Jp hf gx hc) (hk x gx h) hq
def sW (P:Program) (N:Nat) (ops:Array Oper) (ts dn:List Nat) (E:St) (i:Nat):Option St:=bif Nat.blt i ops.size&&Gz N (oA ops i)&&pI ops ts dn i then
 (match B7 P ops E (oA ops i)with
 |some false=>some<|E.put (oA ops i).dst<|.tup []
 |some true=>match JL P E (oA ops i)with
  |some s=>some<|E.put (oA ops i).dst s
  |none=>xtE N E<|oA ops i
 |none=>none)else none
theorem tst {ts:List Nat} (hs:sW P N ops ts dn E i=some E') (h:KW P N ops ts (i::dn) E' Q):KW P N ops ts dn E Q:=by
 unfold sW at hs
 cases hb:(Nat.blt i ops.size&&Gz N (oA ops i)&&pI ops ts dn i)with
 |false=>rw[hb]at hs;cases hs
 |true=>
  rw[hb]at hs;simp only[Ae]at hs;split at hs
  ·rename_i hg
   injection hs with hs
   subst hs;exact AEm i h hg hb
  ·rename_i hg;simp only[Ak]at hb;have ho:R4 P ops E i=true:=by simp only[R4,hb.1.1,hg,Ku]
   split at hs
   ·rename_i s a
    injection hs with hs
    subst hs;exact ADF i a h (by rw[ho,hb.1.2,hb.2];rfl)
   exact Ic i (by rw[hs];exact h) (by rw[hs];rfl) (by rw[ho,hb.2];rfl)
  cases hs
def uL (P:Program) (N:Nat) (ops:Array Oper) (ts dn:List Nat) (E:St):List Nat->Option (Nat×St)
 |[]=>none
 |i::l=>match sW P N ops ts dn E i with
  |some E'=>some (i,E')
  |none=>uL P N ops ts dn E l
theorem nY {ts:List Nat}:∀{l:List Nat} {E':St},uL P N ops ts dn E l=some (i,E')->sW P N ops ts dn E i=some E'
 |[],_,h=>by cases h
 |j::l,E',h=>by
  simp only[uL]at h;split at h
  ·rename_i E1 h1
   injection h with h
   injection h with h2 h3
   subst h2 h3;exact h1
  exact nY h
def ACP (P:Program) (N:Nat) (ops:Array Oper) (ts:List Nat) (mv:List Nat) (E:St) (i:Nat):Option St:=bif R4 P ops E i&&(kp (oA ops i)||ts.contains i)then CA P N (mv.contains i) E (oA ops i)else none
def ACj (f:A->Option (List St)):List A->Option (List St)
 |[]=>some []
 |x::l=>match f x,ACj f l with
  |some a,some b=>some (a++b)
  |_,_=>none
theorem oR {f:A->Option (List St)}:∀{l:List A} {L:List St},ACj f l=some L->∀x∈l,∃a,f x=some a/\∀E∈a,E∈L
 |[],_,_,x,hx=>by cases hx
 |y::l,L,h,x,hx=>by
  simp only[ACj]at h;split at h
  ·rename_i a b h1 h2
   injection h with h
   subst h
   rcases CC.1 hx with rfl|hx
   ·exact⟨a,h1,λE hE=>AI _ hE⟩
   obtain⟨a',h3,h4⟩:=oR h2 x hx;exact⟨a',h3,λE hE=>AU _<|h4 E hE⟩
  cases h
def vK (P:Program) (N:Nat) (ops:Array Oper) (ts mv:List Nat):Nat->List Nat->St->Option (List St)
 |0,_,_=>none
 |n+1,dn,E=>match Region.ready .any ops (lsd ops.size dn)with
  |[]=>some [E]
  |rs=>bif Nat.blt dn.length ops.size then(match uL P N ops ts dn E rs with
   |some (i,E')=>vK P N ops ts mv n (i::dn) E'
   |none=>ACj (λi=>match ACP P N ops ts mv E i with
    |some E'=>vK P N ops ts mv n (i::dn) E'
    |none=>none) rs)else none
theorem sL {ts:List Nat} {mv:List Nat}:∀{n:Nat} {dn:List Nat} {E:St} {L:List St},vK P N ops ts mv n dn E=some L->(∀E'∈L,Q .normal E')->KW P N ops ts dn E Q
 |0,_,_,_,h,_=>by cases h
 |n+1,dn,E,L,h,hq=>by
  simp only[vK]at h;split at h
  ·rename_i hr
   injection h with h
   subst h;exact AF (hq E (by simp)) (by rw[hr];rfl)
  rename_i b
  cases hb:Nat.blt dn.length ops.size with
  |false=>rw[hb]at h;cases h
  |true=>
   rw[hb]at h;simp only[Ae]at h;split at h
   ·rename_i i E' hf;exact tst (nY hf) (sL h hq)
   refine KW.all _ (λi hi=>?_) b (by simp only[rdy,hb,lD,beq_self_eq_true]);obtain⟨a,h1,h2⟩:=oR h i hi;split at h1
   ·rename_i E' hs;unfold ACP at hs
    cases hc:(R4 P ops E i&&(kp (oA ops i)||ts.contains i))with
    |false=>rw[hc]at hs;cases hs
    |true=>
     rw[hc]at hs;exact FJ hs (sL h1 λE'' hE=>hq E''<|h2 E'' hE) hc
   cases h1
def zM (P:Program) (N:Nat) (ops:Array Oper) (ts mv dn:List Nat) (E:St):List St:=(vK P N ops ts mv (ops.size+1) dn E).getD []
theorem nP {X:Prop} {c:List PanicEntry} (h:(Exit.panic c= .normal\/Exit.panic c= .ret)/\X):False:=by rcases h with⟨h|h,_⟩<;>cases h
section
variable {w0:Base} {a:Act}
theorem CO.resay (h:CO w0 FA UA N w a E blk FS US) (hd:d<N) (hs:EE w a E blk s (a.eval (.tmp d)) [] []):∃FS' US',CO w0 FA UA N w a (E.put (some d) s) blk FS' US'/\FS' .hand=FS .hand/\US' .hand=US .hand:=by
 have k:=h.put (F:=[]) (U:=[]) hd hs bP.none;have e:a.put (some d) (a.eval<|.tmp d)=a:=by
  cases a with
  |mk tmps defers=>
   have hl:d<tmps.size:=AX hd h.len;simp only[Act.put,Act.eval];congr 1;apply Array.ext (by simp);intro i h1 h2;rw[Array.getElem_setIfInBounds];split
   ·rename_i e;subst e;simp[hl]
   rfl
 rw[e]at k;exact⟨_,_,k,Bt (by simp),Bt<|by simp⟩
end
theorem CO.toAdr {w0:Base} {a:Act} (h:CO w0 FA UA N w a E blk FS US) (hd:d<N) (hs:E.ptr? (.tmp d)=some (.ext 0,[],0)) (hp:E.amb.pin=some b):∃FS' US',CO w0 FA UA N w a (E.put (some d) (.one (.adr ⟨b,0,none⟩))) blk FS' US'/\FS' .hand=FS .hand/\US' .hand=US .hand:=by
 obtain⟨_,ad,h1,h2⟩:=KE h hs;refine h.resay hd ?_;rw[h2];have e:=h.xblk 0;rw[h.pin b hp]at e;simp only[pa,e,Addr.add]at h1
 injection h1 with h1
 subst h1;refine⟨?_,λ_=>rfl⟩;show C1 w (.adr ⟨b,0,none⟩) _ [] [];simp[C1]
section
variable {w0:Base} {a:Act}
theorem CO.toPtr (h:CO w0 FA UA N w a E blk FS US) (hd:d<N) (hs:E.slots d= .one (.adr ⟨b,0,none⟩)) (hp:E.amb.pin=some b) {f:List TV} (hb:E.boxes (.ext 0)=some f) (g:f.isEmpty=false):
  ∃FS' US',CO w0 FA UA N w a (E.put (some d) (.one (.ptr (.ext 0) (E.gen (.ext 0)) [] 0))) blk FS' US'/\FS' .hand=FS .hand/\US' .hand=US .hand:=by
 have hv:a.eval (.tmp d)= .pointer (some ⟨b,0,none⟩):=by
  have:=h.slot d;rw[hs]at this;simp only[EE,CT,C1]at this;exact this.1.1
 refine h.resay hd ?_;have e:=h.xblk 0;rw[h.pin b hp]at e;refine⟨⟨rfl,rfl,Au _,λ_=>⟨?_,⟨b,0,none⟩,?_,hv⟩⟩,λ_=>by rw[hv];rfl⟩
 ·cases f with
  |nil=>cases g
  |cons c cs=>simp[St.place,St.root,hb,BN]
 simp[pa,e,Addr.add]
end
def pnE (E:St) (d b:Nat):St:=E.put (some d)<|.one<|.adr ⟨b,0,none⟩
def AC8 (N:Nat) (E:St) (d:Nat):Bool:=Nat.blt d N&&(match E.ptr? (.tmp d)with
 |some (.ext 0,[],0)=>true
 |_=>false)
theorem ABy (h:AC8 N E d=true):d<N/\E.ptr? (.tmp d)=some (.ext 0,[],0):=by
 simp only[AC8,Ak]at h;refine⟨by simpa[B8]using h.1,?_⟩;have h2:=h.2;split at h2
 ·assumption
 cases h2
theorem AEk (d:Nat) (h:RW P N ops i (pnE E d b) Q) (hp:E.amb.pin=some b:=by kernel_rfl) (ho:AC8 N E d=true:=by kernel_rfl):RW P N ops i E Q:=by
 intro w0 FA UA w a blk FS US hr hF hU;obtain⟨h1,h2⟩:=ABy ho;obtain⟨FS',US',k1,k2,k3⟩:=hr.toAdr h1 h2 hp;exact h _ _ _ _ _ _ _ _ k1 (by rw[k2,hF])<|by rw[k3,hU]
def npE (E:St) (d:Nat):St:=E.put (some d)<|.one<|.ptr (.ext 0) (E.gen<|.ext 0) [] 0
def ABL (N:Nat) (E:St) (d:Nat):Bool:=Nat.blt d N&&(match E.boxes (.ext 0)with
 |some cells=>!cells.isEmpty
 |none=>false)
theorem tZ (h:ABL N E d=true):d<N/\∃a,E.boxes (.ext 0)=some a/\a.isEmpty=false:=by
 simp only[ABL,Ak]at h;refine⟨by simpa[B8]using h.1,?_⟩;have h2:=h.2;split at h2
 ·rename_i a hc;exact⟨a,hc,by simpa using h2⟩
 cases h2
theorem oY (d:Nat) (h:RW P N ops i (npE E d) Q) (hp:E.amb.pin=some b:=by kernel_rfl) (hs:E.slots d= .one (.adr ⟨b,0,none⟩):=by kernel_rfl) (ho:ABL N E d=true:=by kernel_rfl):RW P N ops i E Q:=by
 intro w0 FA UA w a blk FS US hr hF hU;obtain⟨h1,c,h2,h3⟩:=tZ ho;obtain⟨FS',US',k1,k2,k3⟩:=hr.toPtr h1 hs hp h2 h3;exact h _ _ _ _ _ _ _ _ k1 (by rw[k2,hF])<|by rw[k3,hU]
theorem uV {ts:List Nat} (d:Nat) (h:KW P N ops ts dn (npE E d) Q) (hp:E.amb.pin=some b:=by kernel_rfl) (hs:E.slots d= .one (.adr ⟨b,0,none⟩):=by kernel_rfl) (ho:ABL N E d=true:=by kernel_rfl):KW P N ops ts dn E Q:=by
 intro hq hc w0 FA UA w a blk FS US hr hF hU;obtain⟨h1,c,h2,h3⟩:=tZ ho;obtain⟨FS',US',k1,k2,k3⟩:=hr.toPtr h1 hs hp h2 h3;exact h hq hc _ _ _ _ _ _ _ _ k1 (by rw[k2,hF])<|by rw[k3,hU]
structure Xd (n c b g cap:Nat) (e T T':TypeId) (sz:Nat) (rest:List Value) (enc:γ->List TV) (w:World) (l:List γ):Prop where
 ne:b≠g/\c≠g/\c≠b
 len:l.length=n
 ptr:w.heap[c]?=some (.cells #[.pointer (some ⟨b,0,none⟩)] T' (0,0))
 box:w.heap[b]?=some (.cells (.slice (some ⟨g,0,none⟩) n cap::rest).toArray T (0,0))
 row:∃cur,w.heap[g]?=some (.cells cur e (0,0))/\cur.size=cap*sz/\cur.toList.take (l.length*sz)=(AL enc l).map TV.val
 le:l.length<=cap/\cap<=maxLen
theorem tH {e:TypeId} {l:List γ} {k:Nat} {n c b g cap:Nat} {rest:List Value} {enc:γ->List TV} (h:Xd n c b g cap e T T' sz rest enc w l) (hk:k<l.length*sz):w.cell? ⟨g,k,none⟩=((AL enc l).map TV.val)[k]? :=by
 obtain⟨a,h1,h2,h3⟩:=h.row;rw[<-h3,CH,Ay hk];simp[World.cell?,h1]
def Ia (n c b g cap:Nat) (e T T':TypeId) (sz:Nat) (rest:List Value) (enc:γ->List TV) (l:List γ):R2 where
 B:=[c,b,g]
 I:=λw=>Xd n c b g cap e T T' sz rest enc w l
 st:=λw w' h hk=>⟨h.ne,h.len,by rw[hk c<|by simp];exact h.ptr,by rw[hk b<|by simp];exact h.box,by rw[hk g<|by simp];exact h.row,h.le⟩
 rd:=λad=>if ad.spot.isSome=true then none else if ad.block=c then(if ad.off=0 then some (.pointer<|some ⟨b,0,none⟩)else none)else if ad.block=b then(if ad.off=0 then some (.slice (some ⟨g,0,none⟩) n cap)else none)else if ad.block=g then(if ad.off<l.length*sz then((AL enc l).map TV.val)[ad.off]? else none)else none
 rdI:=λw ad v h hr=>by
  obtain⟨bl,off,spot⟩:=ad
  cases spot with
  |some s=>simp at hr
  |none=>
   simp only[F6,BB,Fs]at hr;split at hr
   ·rename_i hb;subst hb;split at hr
    ·rename_i ho;subst ho
     injection hr with hr
     subst hr;simp[World.cell?,h.ptr]
    cases hr
   split at hr
   ·rename_i hb;subst hb;split at hr
    ·rename_i ho;subst ho
     injection hr with hr
     subst hr;simp[World.cell?,h.box]
    cases hr
   split at hr
   ·rename_i hg;subst hg;split at hr
    ·rename_i ho;rw[tH h ho];exact hr
    cases hr
   cases hr
theorem lJ {e:TypeId} {ie:TypeInfo} {c b g cap:Nat} {rest:List Value} {enc:γ->List TV} (h:∀x,(enc x).length=sz) (n:Nat) (gS:Bool) (hx:∀args W,(callFunc sf args).run P W=((Extern.ReflectliteSwapper.swap gS args).run P W).andThen λv w'=> .ok (.value v) w') (a3:P.info? e=some ie) (o:ie.size=sz) (h7:∀w,(isAgg e).run P w= .ok true w):
  Nb P (Ia n c b g cap e T T' sz rest enc) sf #[.slice (some ⟨g,0,none⟩) n cap,typeHandle P e]:=by
 intro l i j x y hi hj w hI hB;obtain⟨⟨u,h0,h8⟩,hn,p,q,h9,h3⟩:=hI;have a4:b<w.heap.size:=hB b (by simp[Ia]);have a5:c<w.heap.size:=hB c (by simp[Ia]);have b3:g<w.heap.size:=hB g (by simp[Ia]);obtain⟨f,hg,h4,a0⟩:=h9;obtain⟨i0,i1⟩:=IH hi;obtain⟨j0,j1⟩:=IH hj;obtain⟨a,rfl⟩:=C0 i0;obtain⟨d,rfl⟩:=C0 j0;simp only[Be]at i1 j1;have la:=(Ag.1 i1).1;have lc:=(Ag.1 j1).1;have hX:((enc x).map TV.val).length=sz:=by rw[Bg];exact h x
 have hY:((enc y).map TV.val).length=sz:=by rw[Bg];exact h y
 have r:l.length*sz<=f.size:=by rw[h4];exact BS _ h3.1
 have a6:(a+1)*sz<=l.length*sz:=BS _ la;have a7:(d+1)*sz<=l.length*sz:=BS _ lc;rw[DB]at a6 a7;have hI:Xd n c b g cap e T T' sz rest enc w l:=⟨⟨u,h0,h8⟩,hn,p,q,⟨f,hg,h4,a0⟩,h3⟩;have cell:∀(m:Nat) (z:γ),l[m]?=some z->∀k v,((enc z).map TV.val)[k]?=some v->w.cell? ⟨g,0+m*ie.size+k,none⟩=some v:=by
  intro m z hm k v hk;have a1:=(Ag.1 hk).1;rw[Bg,h]at a1;have lm:=(Ag.1 hm).1;have a8:(m+1)*sz<=l.length*sz:=BS _ lm;rw[DB]at a8;rw[o,HU,tH hI<|by omega];have e1:(AL enc l)[m*sz+k]?=(enc z)[k]? :=by
   have h2:(AL enc l)[m*sz+k]?=((AL enc l).drop<|m*sz)[k]? :=by rw[C4]
   rw[h2,Kt h l m,AT lm,QU];have e4:l[m]=z:=by rw[Ab lm]at hm;injection hm
   rw[e4,Bm (by rw[h];exact a1)]
  rw[AP,e1,<-AP,hk]
 have frz:∀(m k:Nat),w.frozen? ⟨g,0+m*ie.size+k,none⟩=false:=by
  intro m k;simp[World.frozen?,hg]
 have s:=Go.Lib.run_swap_cells (P:=P) gS e ie a3 h7 g 0 n cap a d (by omega) (by omega) ((enc x).map TV.val) ((enc y).map TV.val) (by rw[hX,o]) (by rw[hY,o]) (λv hv=>by obtain⟨t,_,rfl⟩:=AG.1 hv;exact Yn) (λv hv=>by obtain⟨t,_,rfl⟩:=AG.1 hv;exact Yn) w (cell a x i1) (cell d y j1) (λk _=>frz a k) λk _=>frz d k;simp only[HU,o]at s;have h1:=JD e (0,0) g ((enc y).map TV.val) (a*sz) f w hg (by rw[hY];omega);have a9:(setRow f.toList (a*sz)<|(enc y).map TV.val).toArray.size=f.size:=by
  rw[O6,Ee (by rw[hY];simp;omega)];simp
 have h2:=JD e (0,0) g ((enc x).map TV.val) (d*sz) _ _ h1 (by rw[a9,hX];omega);have kB:∀k,k<w.heap.size->k≠g->((w.setCells g (a*sz)<|(enc y).map TV.val).setCells g (d*sz)<|(enc x).map TV.val).heap[k]?=w.heap[k]? :=by
  intro k hk a2;have s1:(w.setCells g (a*sz)<|(enc y).map TV.val).heap.size=w.heap.size:=G6 g _ _ _;rw[World.heap_setCells_other _ g _ _ (by rw[s1];exact hk) a2,World.heap_setCells_other _ g _ _ hk a2]
 refine⟨(w.setCells g (a*sz)<|(enc y).map TV.val).setCells g (d*sz)<|(enc x).map TV.val,?_,⟨?_,?_,?_,?_,?_⟩,?_⟩
 ·rw[hx];have ea:(#[Value.int .i64 (a:Int),Value.int .i64 (d:Int)]++ #[Value.slice (some ⟨g,0,none⟩) n cap,typeHandle P e])= #[.int .i64 (a:Int),.int .i64 (d:Int),.slice (some ⟨g,0,none⟩) n cap,typeHandle P e]:=rfl;rw[ea,s];rfl
 ·rw[World.os_setCells,World.os_setCells]
 ·rw[Ju,Ju]
 ·rw[World.output_setCells,World.output_setCells]
 ·rw[G6,G6];exact Au _
 ·intro k hk b0;exact kB k hk λe=>b0 (by rw[e];simp[Ia])
 have h5:(si (si l (a:Int) y) (d:Int) x).length=l.length:=by simp[si]
 have lcur:f.toList.length=f.size:=by simp
 have h6:(setRow f.toList (a*sz)<|(enc y).map TV.val).length=f.size:=by rw[Ee (by rw[hY,lcur];omega),lcur]
 have b1:(setRow (setRow f.toList (a*sz)<|(enc y).map TV.val) (d*sz)<|(enc x).map TV.val).length=f.size:=by rw[Ee (by rw[hX,h6];omega),h6]
 show Xd n c b g cap e T T' sz rest enc _<|si (si l (a:Int) y) (d:Int) x;refine⟨⟨u,h0,h8⟩,h5.trans hn,by rw[kB c a5 h0];exact p,by rw[kB b a4 u];exact q,⟨_,h2,?_,?_⟩,by rw[h5];exact h3⟩
 ·rw[O6];exact b1.trans h4
 rw[h5];show(setRow (setRow f.toList (a*sz)<|(enc y).map TV.val) (d*sz)<|(enc x).map TV.val).take (l.length*sz)=_;rw[Mr (by rw[hX];omega) (by rw[h6];exact r),Mr (by rw[hY];omega) (by rw[lcur];exact r),a0,<-Qw,<-Qw];have e1:setRow (AL enc l) (a*sz) (enc y)=AL enc (si l (a:Int) y):=by
  have:=SJ h (z:=y) hi
  rwa [Be]at this
 obtain⟨z0,b2⟩:∃z0,gi (si l (a:Int) y) (d:Int)=some z0:=by
  have lc2:d<(si l (a:Int) y).length:=by simp only[si,G4];exact lc
  refine⟨(si l (a:Int) y)[d],?_⟩;unfold gi;rw[Ay (by omega),Be];exact Ab lc2
 have e2:=SJ h (z:=x) b2;rw[Be]at e2;rw[e1,e2]
theorem tP {e:TypeId} {l:List γ} {n c b g cap:Nat} {rest:List Value} {enc:γ->List TV}:(Ia n c b g cap e T T' sz rest enc l).rd ⟨c,0,none⟩=some (.pointer (some ⟨b,0,none⟩)):=by
 simp[Ia]
theorem tQ {e:TypeId} {l:List γ} {n c b g cap:Nat} {rest:List Value} {enc:γ->List TV} (h:c≠b):(Ia n c b g cap e T T' sz rest enc l).rd ⟨b,0,none⟩=some (.slice (some ⟨g,0,none⟩) n cap):=by
 simp[Ia,h.symm]
theorem tO {e:TypeId} {l:List γ} {i:Int} {k:Nat} {t:TV} {n c b g cap:Nat} {rest:List Value} {enc:γ->List TV} (a:∀x,(enc x).length=sz) {x:γ} {ad:Addr} (hi:gi l i=some x) (hk:(enc x)[k]?=some t) (hb:b≠g) (hc:c≠g) (f:ad=⟨g,i.toNat*sz+k,none⟩):(Ia n c b g cap e T T' sz rest enc l).rd ad=some t.val:=by
 subst f;obtain⟨i0,i1⟩:=IH hi;have lm:=(Ag.1 i1).1;have d:=(Ag.1 hk).1;rw[a]at d;have h:(i.toNat+1)*sz<=l.length*sz:=BS _ lm;rw[DB]at h;have e1:(AL enc l)[i.toNat*sz+k]?=(enc x)[k]? :=by
  have h2:(AL enc l)[i.toNat*sz+k]?=((AL enc l).drop<|i.toNat*sz)[k]? :=by rw[C4]
  rw[h2,Kt a l i.toNat,AT lm,QU];have e4:l[i.toNat]=x:=by rw[Ab lm]at i1;injection i1
  rw[e4,Bm (by rw[a];exact d)]
 simp only[Ia,F6,BB,Fs];rw[Av λe=>hc e.symm,Av λe=>hb e.symm,BQ,Ay (by omega),AP,e1,hk];rfl
theorem AAU {o:Oper} (d:Nat) {ad:Addr} {x:Nat} (hk:FL P N ops rest (E.put (some d) (.one (.adr ad))) K) (hs:E.slots x= .one (.adr ad)) (ho:o.op= .nilCheck (.tmp x):=by rfl) (hd:o.dst=some d:=by rfl) (hN:Nat.blt d N=true:=by rfl) (hg:B7 P ops E o=some true:=by rfl):FL P N ops (o::rest) E K:=
 FL.any d (.adr ad) hk (λw0 FA UA w a blk FS US h=>by
  have h1:=kQ h hs;refine⟨.pointer<|some ad,?_,by simp[C1],rfl⟩
  simp[execOp,ho,h1,Instr.sureAddr]) hd hN hg
def UE (o:Oper):Nat:=o.dst.getD 0
def AEz (E:St) (ops:Array Oper) (i:Nat) (r:Root) (t:TV):St:=(((((E.put (some<|UE<|oA ops i)<|.one .junk).put (some<|UE<|oA ops<|i+1)<|.one .junk).setRoot r [t]).bump r).put (some<|UE<|oA ops<|i+2)<|.tup [])
def ACW:Operand->Nat
 | .tmp n=>n
 |_=>0
def lL (o:Oper):Nat:=match o.op with
 | .makeInterface _ x=>ACW x
 |_=>0
def gU (o:Oper):Nat:=match o.op with
 | .makeFunc _ _ c=>ACW<|c[0]?.getD<|.tmp 0
 |_=>0
def ACY (o:Oper):Array TypeId:=match o.op with
 | .call c=>c.argTypes
 |_=> #[]
def dZ (s:SV):Nat:=match s with
 | .one (.view _ v _ _)=>v
 |_=>0
theorem RW.srt {rr:β} {l:List γ} {kk:List γ->Option β} {t:Nat} {x:Option (List γ)} (h:x.bind kk=some rr) {enc:γ->List TV} {a:FuncId} (r:Root) (hs:∀l',x=some l'->Tw P (PR (oA ops (i+2))) t e sz enc a l l') (hk:∀l',x=some l'->kk l'=some rr->RW P N ops (i+3) (AEz E ops i r (.sl true e sz (AL enc l'))) Q) (b:∀x,(enc x).length=sz) (d:∀x,(enc x).all TV.flat=true) (hx:E.slots (lL (oA ops i))= .one (.view r (dZ (E.slots (lL (oA ops i)))) [] 0):=by kernel_rfl) (c:E.ver r=dZ (E.slots<|lL<|oA ops i):=by kernel_rfl) (hp:E.ptr? (.tmp<|gU<|oA ops<|i+1)=some (r,[],0):=by kernel_rfl) (hc:E.boxes r=some [.sl true e sz<|AL enc l]:=by kernel_rfl) (hm:r.mem=true:=by kernel_rfl) (h1:(oA ops i).op= .makeInterface t (.tmp<|lL<|oA ops i):=by kernel_rfl) (h2:(oA ops<|i+1).op= .makeFunc (.func a) #[] #[.tmp<|gU<|oA ops<|i+1]:=by kernel_rfl) (h3:(oA ops<|i+2).op= .call {callee:= .value (.func<|PR<|oA ops<|i+2),args:= #[.tmp<|UE<|oA ops i,.tmp<|UE<|oA ops<|i+1],argTypes:=ACY (oA ops<|i+2)}:=by kernel_rfl) (k1:(oA ops i).dst=some (UE<|oA ops i):=by kernel_rfl) (k2:(oA ops<|i+1).dst=some (UE<|oA ops<|i+1):=by kernel_rfl) (k3:(oA ops<|i+2).dst=some (UE<|oA ops<|i+2):=by kernel_rfl) (g1:(oA ops i).guard=none:=by kernel_rfl) (g2:(oA ops<|i+1).guard=none:=by kernel_rfl) (g3:(oA ops<|i+2).guard=none:=by kernel_rfl) (hN:(Nat.blt (UE<|oA ops i) N&&Nat.blt (UE<|oA ops<|i+1) N&&Nat.blt (UE<|oA ops<|i+2) N&&!Nat.beq (UE<|oA ops i) (UE<|oA ops<|i+1)&&!Nat.beq (gU<|oA ops<|i+1) (UE<|oA ops i)&&Nat.blt 0 sz&&Nat.blt (i+2) ops.size)=true:=by kernel_rfl) (ht:P.underlying t=some (.slice e):=by kernel_rfl) (hf:T6 P N (oA ops<|i+2)=true:=by kernel_rfl):RW P N ops i E Q:=by
 obtain⟨l',hl',h⟩:=Aj.1 h;simp only[Ak,CG]at hN;obtain⟨⟨⟨⟨⟨⟨q1,q2⟩,q3⟩,q4⟩,q5⟩,q6⟩,q7⟩:=hN;have b2:Nat.blt (i+1) ops.size=true:=by rw[B8]at q7⊢;omega
 have b1:Nat.blt i ops.size=true:=by rw[B8]at q7⊢;omega
 have hk':=hk l' hl' h;unfold RW at hk'⊢;rw[GP b1,GP b2,GP q7];exact Hj.srt (hs l' hl') hk' b d hx c hp hc hm h1 h2 h3 k1 k2 k3 g1 g2 g3 q1 q2 q3 q4 q5 q6 ht (Pd hf).choose_spec.choose_spec.2.1
def kP (o:Oper):Nat:=match o.op with
 | .call c=>match c.args.toList with
  |[x]=>ACW x
  |_=>0
 |_=>0
def lF (s:SV):Nat:=match s with
 | .one (.view (.slot n) _ _ _)=>n
 |_=>0
def We (P:Program) (f:FuncId) (t e sz:Nat) (enc:γ->List TV) (g:FuncId) (l l':List γ):Prop:=∀(w:World) (c b:Nat) (v:Value) (rest:List Value) (T T':TypeId),w.heap[c]?=some (.cells #[.pointer<|some ⟨b,0,none⟩] T' (0,0))->w.heap[b]?=some (.cells (v::rest).toArray T (0,0))->w.ownsRow 0 e sz v l.length ((AL enc l).map TV.val)->b∉BO v->c∉BO v->c≠b->
  Calls P f #[.iface t v,.func (.func g) #[] #[.pointer<|some ⟨c,0,none⟩]] w λr w'=>r= .returned (.tuple #[])/\GJ w w' (c::b::BO v)/\w'.heap[c]?=w.heap[c]? /\w'.heap[b]?=w.heap[b]? /\w'.ownsRow 0 e sz v l'.length ((AL enc l').map TV.val)
def AAi (c b:Nat) (v:Value) (rest:List Value) (T T':TypeId) (e sz n:Nat) (xs:List Value):R2 where
 B:=c::b::BO v
 I:=λw=>w.heap[c]?=some (.cells #[.pointer<|some ⟨b,0,none⟩] T' (0,0))/\w.heap[b]?=some (.cells (v::rest).toArray T (0,0))/\w.ownsRow 0 e sz v n xs
 st:=λw w' h hk=>⟨by grind,by grind,h.2.2.1,by
  rcases h.2.2.2 with q|⟨g,cap,a,rfl,q1,q2,q3⟩
  ·exact .inl q
  exact .inr ⟨g,cap,a,rfl,q1,by rw[hk g<|by simp[BO,Value.ownBlock]];exact q2,q3⟩⟩
theorem ACq {t:Nat} {l l':List γ} {rc:Root} {o1 o2 o3:Oper} {ver:Nat} {enc:γ->List TV} {f c:FuncId} {rs:List TV} {d1 d2 d3 x p b0:Nat} {tys:Array TypeId} (hs:We P f t e sz enc c l l') (hk:Hj P N ops rest (((((E.put (some d1) (.one .junk)).put (some d2) (.one .junk)).setRoot (.ext 0) (.sl true e sz (AL enc l')::rs)).bump (.ext 0)).put (some d3) (.tup [])) Q) (m:∀x,(enc x).length=sz) (i:∀x,(enc x).all TV.flat=true) (hpin:E.amb.pin=some b0) (hx:E.slots x= .one (.view (.ext 0) ver [] 0)) (o:E.ver (.ext 0)=ver) (hp:E.ptr? (.tmp p)=some (rc,[],0)) (hc:E.boxes (.ext 0)=some (.sl true e sz (AL enc l)::rs)) (u:E.boxes rc=some [.adr ⟨b0,0,none⟩]) (hm:rc.mem=true) (h1:o1.op= .makeInterface t (.tmp x)) (h2:o2.op= .makeFunc (.func c) #[] #[.tmp p]) (h3:o3.op= .call {callee:= .value (.func f),args:= #[.tmp d1,.tmp d2],argTypes:=tys}) (k1:o1.dst=some d1) (k2:o2.dst=some d2) (k3:o3.dst=some d3) (g1:o1.guard=none) (g2:o2.guard=none) (g3:o3.guard=none) (h8:Nat.blt d1 N=true) (h9:Nat.blt d2 N=true) (a0:Nat.blt d3 N=true) (a1:Nat.beq d1 d2=false) (y:Nat.beq p d1=false) (a2:Nat.blt 0 sz=true) (ht:P.underlying t=some (.slice e)) (hf:dJ P f):Hj P N ops (o1::o2::o3::rest) E Q:=by
 have hN1':d1<N:=by simpa[B8]using h8
 have hN2':d2<N:=by simpa[B8]using h9
 have hN3':d3<N:=by simpa[B8]using a0
 have hne':d1≠d2:=by intro e;subst e;simp at a1
 have hne2':p≠d1:=by intro e;subst e;simp at y
 have hsz':0<sz:=by simpa[B8]using a2
 have a3:rc≠ .ext 0:=by grind
 intro w0 FA UA w a blk FS US hr hF hU;have z:blk (.ext 0)=b0:=by rw[hr.xblk,hr.pin b0 hpin]
 obtain⟨v,vs,T,F2,U1,U2,b1,b2,b3,b4,b5⟩:∃v vs T F2 U1 U2,w.heap[blk<|.ext 0]?=some (.cells (v::vs).toArray T (0,0))/\(∃F1,C1 w (.sl true e sz<|AL enc l) v F1 U1/\FS (.ext 0)=blk (.ext 0)::(F1++F2))/\Bv w rs vs F2 U2/\US (.ext 0)=U1++U2/\True:=by
  rcases hr.box (.ext 0) rfl with⟨q1,_⟩|⟨cs,g,T,F,q1,q2,q3,q4⟩
  ·grind
  rw[hc]at q1
  injection q1 with q1
  subst q1;simp only[Bv]at q3;obtain⟨v,k,F1,F2,U1,U2,e1,rfl,e3,q5,q6⟩:=q3;have:g=(v::k).toArray:=by grind
  grind
 obtain⟨F1,b2,b6⟩:=b2;obtain⟨T',c1⟩:∃T',w.heap[blk rc]?=some (.cells #[.pointer<|some ⟨b0,0,none⟩] T' (0,0)):=by
  rcases hr.box rc hm with⟨q1,_⟩|⟨cs,g,T,F,q1,q2,q3,q4⟩
  ·grind
  rw[u]at q1
  injection q1 with q1
  subst q1;simp only[Bv,C1]at q3;obtain⟨v,k,F1,F2,U1,U2,e1,rfl,e3,⟨rfl,_⟩,rfl,_⟩:=q3;have:g= #[.pointer<|some ⟨b0,0,none⟩]:=by grind
  grind
 have a4:blk rc∈FS rc:=by
  rcases hr.box rc hm with⟨q1,_⟩|⟨cs,g,T,F,q1,q2,q3,q4⟩
  ·grind
  rw[q4];simp
 simp only[C1]at b2;obtain⟨n,xs,F',b7,b8,rfl⟩:=b2;have a5:=V4 b8<|Gj i l;obtain⟨rfl,rfl⟩:=LD b8<|Gj i l;subst a5;have a6:n=l.length:=by
  have q:=b7.1;rw[Bg,EV m l]at q;exact(Nat.eq_of_mul_eq_mul_right hsz' q).symm
 subst a6;rw[A4]at b6;rw[A6]at b4;have h0:=hr.nodup<|.ext 0;rw[b6]at h0
 have a7:blk (.ext 0)∉BO v:=λhx=>(Di.1 h0).1<|AI _ hx
 have h4:∀x∈FS (.ext 0),x≠blk rc:=λx hx e=>hr.dis _ _ a3 _ a4<|e▸hx
 have a8:blk rc∉BO v:=λhx=>h4 (blk rc) (by grind) rfl
 have a9:blk rc≠blk (.ext 0):=λe=>h4 (blk<|.ext 0) (by rw[b6];simp) e.symm
 have evx:a.eval (.tmp x)=v:=by
  have q:=hr.slot x;rw[hx]at q;simp only[EE,CT]at q;obtain⟨⟨_,_,_,q4⟩,_⟩:=q;obtain⟨q5,_⟩:=q4 o;simpa[pv,BL,Addr.add,World.cell?,b1]using q5.symm
 have evp:a.eval (.tmp p)= .pointer (some ⟨blk rc,0,none⟩):=by
  obtain⟨_,ad,q1,q2⟩:=KE hr hp;rw[q2]
  cases rc with
  |slot n=>cases hm
  |hand=>cases hm
  |box n=>simp[pa,Addr.add]at q1;rw[<-q1]
  |ext n=>simp[pa,Addr.add]at q1;rw[<-q1]
 obtain⟨FS1,US1,r1,r2,r3⟩:=VJ hr hF hU hN1'<|.iface t v;have e1:(execOp a.eval o1).run P w= .ok (.value<|.iface t v) w:=by
  simp[execOp,h1,Instr.makeInterface,run_underlying ht,evx]
 simp only[wpList,Ck hr<|JT (P:=P) (ops:=ops) g1,BQ];refine .inl ?_
 try unfold Oper.wp
 rw[e1,Oper.upon_value,k1];have evp1:(a.put (some d1)<|.iface t v).eval (.tmp p)= .pointer (some ⟨blk rc,0,none⟩):=by rw[Dx hne2',evp]
 obtain⟨FS2,US2,s1,s2,s3⟩:=VJ r1 r2 r3 hN2'<|.func (.func c) #[] #[.pointer<|some ⟨blk rc,0,none⟩];have e2:(execOp (a.put (some d1)<|.iface t v).eval o2).run P w= .ok (.value<|.func (.func c) #[] #[.pointer<|some ⟨blk rc,0,none⟩]) w:=by
  simp[execOp,h2,Instr.makeFunc,evp1]
 simp only[wpList,Ck r1<|JT (P:=P) (ops:=ops) g2,BQ];refine .inl ?_
 try unfold Oper.wp
 rw[e2,Oper.upon_value,k2];simp only[wpList,Ck s1<|JT (P:=P) (ops:=ops) g3,BQ];refine .inl ?_;have c0:d1<a.tmps.size:=AX hN1' hr.len;have c2:d2<(a.put (some d1)<|.iface t v).tmps.size:=AX hN2' r1.len
 try unfold Oper.wp
 rw[Iz h3 hf];have ea: #[Operand.tmp d1,.tmp d2].map ((a.put (some d1)<|.iface t v).put (some d2)<|.func (.func c) #[] #[.pointer<|some ⟨blk rc,0,none⟩]).eval= #[.iface t v,.func (.func c) #[] #[.pointer<|some ⟨blk rc,0,none⟩]]:=by
  simp[Gy c2,Dx hne',Gy c0]
 rw[ea];simp only[Oper.upon];refine Calls.mono (hs w (blk rc) (blk<|.ext 0) v vs T T' (by rw[z];exact c1) b1 b7 a7 a8 a9) ?_;rintro ee w' ⟨rfl,h,c6,h5,c7⟩;have h6:((E.put (some d1)<|.one .junk).put (some d2)<|.one .junk).boxes (.ext 0)=some (.sl true e sz (AL enc l)::rs):=hc;obtain⟨G1,G2,V2,f1,f2,f3,f4⟩:∃G1 G2 V2,FS2 (.ext 0)=blk (.ext 0)::(G1++G2)/\G1=BO v/\US2 (.ext 0)=V2/\Bv w rs vs G2 V2:=by
  rcases s1.box (.ext 0) rfl with⟨q1,_⟩|⟨cs,g,T2,F2,q1,q2,q3,q4⟩
  ·grind
  rw[h6]at q1
  injection q1 with q1
  subst q1;rw[b1]at q2
  injection q2 with q2
  injection q2 with q2
  subst q2;simp only[Bv]at q3;obtain⟨v2,k,F3,F4,U1,U2,e1,rfl,e3,q5,q6⟩:=q3;simp at e1;obtain⟨rfl,rfl⟩:=e1;simp only[C1]at q5;obtain⟨n,vs,F',c4,c5,rfl⟩:=q5;obtain⟨rfl,rfl⟩:=LD c5<|Gj i l
  grind
 subst f2;have j:=s1.nodup<|.ext 0;rw[f1]at j;have c8:blk rc∈FS2 rc:=by
  have d0:((E.put (some d1)<|.one .junk).put (some d2)<|.one .junk).boxes rc=some [.adr ⟨b0,0,none⟩]:=u
  rcases s1.box rc hm with⟨q1,_⟩|⟨cs,g,T,F,q1,q2,q3,q4⟩
  ·grind
  rw[q4];simp
 have keepb:∀b,b<w.heap.size->b∉BO v->w'.heap[b]?=w.heap[b]? :=by
  intro b hb hv;by_cases q1:b=blk rc
  ·rw[q1];exact c6
  by_cases q2:b=blk (.ext 0)
  ·rw[q2];exact h5
  exact h.keep b hb<|by grind
 have h7:GJ w w' (FS2<|.ext 0):=⟨h.os,h.tape,h.output,h.size,λb hb hn=>keepb b hb λhv=>hn<|by grind⟩
 have hG:∀b∈G2,w'.heap[b]?=w.heap[b]? :=λb hb=>keepb b (s1.inF (.ext 0) b<|by grind).2
  (λhv=>(BR.1 (Di.1 j).2).2.2 b hv b hb rfl)
 have hV:∀b∈V2,w'.heap[b]?=w.heap[b]? :=λb hb=>keepb b (s1.inU (.ext 0) b (by rw[f3];exact hb)).2
  (λhv=>s1.disU (.ext 0) (.ext 0) b (by grind) (by rw[f3];exact hb))
 obtain⟨FS3,US3,t1,t2,t3⟩:=s1.turn s2 s3 (r:= .ext 0) rfl h6 (cells':= .sl true e sz (AL enc l')::rs) (by simp) (w':=w') h7
  ⟨(
   v::vs).toArray,T,BO v++G2,by rw[h5];exact b1,by
   rw[f3];simp only[Bv];refine⟨v,vs,BO v,G2,[],V2,by simp,rfl,rfl,?_,Ge f4 hG hV⟩;simp only[C1]
   exact⟨l'.length,_,[],c7,UX<|Gj i l',by simp⟩,f1⟩
 obtain⟨FS4,US4,u1,u2,u3⟩:=t1.land (w':=w') (d:=d3) (s:= .tup []) (v:= .tuple #[]) (F:=[]) (U:=[]) hN3' (by simp[EE,Pj]) C7 (by simp) (by simp) (Au _) rfl rfl rfl λ_ _ _=>rfl;rw[k3];exact hk _ _ _ _ _ _ _ _ u1 u2 u3
def ACw:Option (List TV)->List TV
 |some (_::ts)=>ts
 |_=>[]
def rt0:Option (Root×List Nat×Nat)->Root
 |some (r,_,_)=>r
 |none=> .hand
def s2E (E:St) (ops:Array Oper) (i:Nat) (t:TV):St:=(((((E.put (some<|UE<|oA ops i)<|.one .junk).put (some<|UE<|oA ops<|i+1)<|.one .junk).setRoot (.ext 0) (t::ACw (E.boxes<|.ext 0))).bump<|.ext 0).put (some<|UE<|oA ops<|i+2)<|.tup [])
theorem ADw {rr:β} {l:List γ} {kk:List γ->Option β} {t b0:Nat} {x:Option (List γ)} (h:x.bind kk=some rr) {enc:γ->List TV} {a:FuncId} (hs:∀l',x=some l'->We P (PR (oA ops (i+2))) t e sz enc a l l') (hk:∀l',x=some l'->kk l'=some rr->RW P N ops (i+3) (s2E E ops i (.sl true e sz (AL enc l'))) Q) (b:∀x,(enc x).length=sz) (d:∀x,(enc x).all TV.flat=true) (hpin:E.amb.pin=some b0:=by kernel_rfl) (hx:E.slots (lL<|oA ops i)= .one (.view (.ext 0) (dZ<|E.slots<|lL<|oA ops i) [] 0):=by kernel_rfl) (c:E.ver (.ext 0)=dZ (E.slots<|lL<|oA ops i):=by kernel_rfl) (hp:E.ptr? (.tmp<|gU<|oA ops<|i+1)=some (rt0<|E.ptr?<|.tmp<|gU<|oA ops<|i+1,[],0):=by kernel_rfl) (hc:E.boxes (.ext 0)=some (.sl true e sz (AL enc l)::ACw (E.boxes<|.ext 0)):=by kernel_rfl) (f:E.boxes (rt0<|E.ptr?<|.tmp<|gU<|oA ops<|i+1)=some [.adr ⟨b0,0,none⟩]:=by kernel_rfl) (hm:(rt0<|E.ptr?<|.tmp<|gU<|oA ops<|i+1).mem=true:=by kernel_rfl) (h1:(oA ops i).op= .makeInterface t (.tmp<|lL<|oA ops i):=by kernel_rfl) (h2:(oA ops<|i+1).op= .makeFunc (.func a) #[] #[.tmp<|gU<|oA ops<|i+1]:=by kernel_rfl) (h3:(oA ops<|i+2).op= .call {callee:= .value (.func<|PR<|oA ops<|i+2),args:= #[.tmp<|UE<|oA ops i,.tmp<|UE<|oA ops<|i+1],argTypes:=ACY (oA ops<|i+2)}:=by kernel_rfl) (k1:(oA ops i).dst=some (UE<|oA ops i):=by kernel_rfl) (k2:(oA ops<|i+1).dst=some (UE<|oA ops<|i+1):=by kernel_rfl) (k3:(oA ops<|i+2).dst=some (UE<|oA ops<|i+2):=by kernel_rfl) (g1:(oA ops i).guard=none:=by kernel_rfl) (g2:(oA ops<|i+1).guard=none:=by kernel_rfl) (g3:(oA ops<|i+2).guard=none:=by kernel_rfl) (hN:(Nat.blt (UE<|oA ops i) N&&Nat.blt (UE<|oA ops<|i+1) N&&Nat.blt (UE<|oA ops<|i+2) N&&!Nat.beq (UE<|oA ops i) (UE<|oA ops<|i+1)&&!Nat.beq (gU<|oA ops<|i+1) (UE<|oA ops i)&&Nat.blt 0 sz&&Nat.blt (i+2) ops.size)=true:=by kernel_rfl) (ht:P.underlying t=some (.slice e):=by kernel_rfl) (hf:T6 P N (oA ops<|i+2)=true:=by kernel_rfl):RW P N ops i E Q:=by
 obtain⟨l',hl',h⟩:=Aj.1 h;simp only[Ak,CG]at hN;obtain⟨⟨⟨⟨⟨⟨q1,q2⟩,q3⟩,q4⟩,q5⟩,q6⟩,q7⟩:=hN;have b2:Nat.blt (i+1) ops.size=true:=by rw[B8]at q7⊢;omega
 have b1:Nat.blt i ops.size=true:=by rw[B8]at q7⊢;omega
 have hk':=hk l' hl' h;unfold RW at hk'⊢;rw[GP b1,GP b2,GP q7];exact ACq (hs l' hl') hk' b d hpin hx c hp hc f hm h1 h2 h3 k1 k2 k3 g1 g2 g3 q1 q2 q3 q4 q5 q6 ht (Pd hf).choose_spec.choose_spec.2.1
theorem AES {f:FuncId} {c:Code} {a cells':List TV} {b:SV} (hf:P.funcs[f]?=some fn) (hb:fn.body=some c) (hN:fn.ntmps=N) (h:∀b0,Wp P N c (DE (.ext a::as) (mX b0)) λe E=>(e= .normal\/e= .ret)/\∃ss E',Ea P E fn.results.toList=some (ss,E')/\EL ss=b/\E'.boxes (.ext 0)=some cells') (d:cells'.isEmpty=false:=by rfl):AA P f (.ext a::as) b (.ext cells'::List.replicate as.length .gone):=aE mX ABz hf hb (by rw[hN];exact h) d
def kF (P:Program) (N:Nat) (ops:Array Oper) (E:St) (i:Nat):Option (FuncId×Array Value×Int×Int):=bif R4 P ops E i&&Gz N (oA ops i)then
 (match(oA ops i).op with
 | .call c=>match c.callee,c.args.toList with
  | .value (.tmp t),[o1,o2]=>match E.slots t,E.cell1 P 0 o1,E.cell1 P 0 o2 with
   | .one (.fn (.func g) fr cap),some<|.int .i64 x,some (.int .i64 y)=>bif fr.isEmpty then some (g,cap,x,y)else none
   |_,_,_=>none
  |_,_=>none
 |_=>none)else none
theorem fW {cap:Array Value} {x y:Int} (h:kF P N ops E i=some (g,cap,x,y)):R4 P ops E i=true/\(∃d,(oA ops i).dst=some d/\Nat.blt d N=true)/\∃t o1 o2 tys,(oA ops i).op= .call {callee:= .value (.tmp t),args:= #[o1,o2],argTypes:=tys}/\E.slots t= .one (.fn (.func g) #[] cap)/\E.cell1 P 0 o1=some (.int .i64 x)/\E.cell1 P 0 o2=some (.int .i64 y):=by
 unfold kF at h
 cases hb:(R4 P ops E i&&Gz N (oA ops i))with
 |false=>rw[hb]at h;cases h
 |true=>
  rw[hb]at h;simp only[Ae]at h;simp only[Ak]at hb;obtain⟨d,h1,h2,_⟩:=EW hb.2;refine⟨hb.1,⟨d,h1,h2⟩,?_⟩;split at h
  ·rename_i c hc;split at h
   ·rename_i t o1 o2 k1 k2;split at h
    ·rename_i g' fr cap' x' y' m1 m2 m3
     cases he:fr.isEmpty with
     |false=>rw[he]at h;cases h
     |true=>
      rw[he]at h;simp only[Ae,An,Bo]at h;obtain⟨rfl,rfl,rfl,rfl⟩:=h;have a:fr= #[]:=by simpa using he
      subst a;refine⟨t,o1,o2,c.argTypes,?_,m1,m2,m3⟩;have ha:c.args= #[o1,o2]:=Array.toList_inj.1 k2;rw[hc];cases c;simp only at k1 ha;rw[k1,ha]
    cases h
   cases h
  cases h
theorem uU {rr:β} {lt:γ->γ->Bool} {l:List γ} {k:γ×γ->Option β} {cap:Array Value} (a:IN P Am lt g cap) {x y:Int} (h:(wZ l x y).bind k=some rr) (hk:∀v,k v=some rr->RW P N ops (i+1) (E.put (oA ops i).dst (.one (.bool (lt v.1 v.2)))) Q) (hc:kF P N ops E i=some (g,cap,x,y):=by kernel_rfl) (hA:E.amb=Am l:=by kernel_rfl):RW P N ops i E Q:=by
 obtain⟨h1,⟨d,h2,h3⟩,t,o1,o2,tys,h4,h5,h6,h7⟩:=fW hc;obtain⟨h8,h9⟩:=HT h1;unfold RW;rw[GP h8];exact ACr a h d (λv hv=>by have:=hk v hv;rw[h2]at this;exact this) hA h4 h5 h6 h7 h2 h3 h9
theorem uT {rr:β} {l:List γ} {k:List γ->Option β} {cap:Array Value} (a:Nb P Am sf cap) (hB:∀l l',(Am l).B=(Am l').B/\(Am l).pin=none) {x y:Int} (h:(pM l x y).bind k=some rr) (hk:∀v,k v=some rr->RW P N ops (i+1) (({E with amb:=Am v}:St).put (oA ops i).dst<|.tup []) Q) (hc:kF P N ops E i=some (sf,cap,x,y):=by kernel_rfl) (hA:E.amb=Am l:=by kernel_rfl):RW P N ops i E Q:=by
 obtain⟨h1,⟨d,h2,h3⟩,t,o1,o2,tys,h4,h5,h6,h7⟩:=fW hc;obtain⟨h8,h9⟩:=HT h1;unfold RW;rw[GP h8];exact ACp a hB h d (λv hv=>by have:=hk v hv;rw[h2]at this;exact this) hA h4 h5 h6 h7 h2 h3 h9
def ACN (P:Program) (N:Nat) (ops:Array Oper) (E:St) (i:Nat):Option (FuncId×List AV):=bif R4 P ops E i&&Gz N (oA ops i)then
 (match(oA ops i).op with
 | .call c=>match c.callee with
  | .value (.func f)=>match P.funcs[f]? with
   |some fn=>match Jm P E ((c.argTypes.toList.zip c.args.toList).map λ(t,x)=>(false,t,x)) (List.replicate c.args.size none)with
    | some (l, b) => bif b && (l.all rV && (!(fn.name == "runtime.NumGoroutine") && (!fn.body.isNone && Nat.beq c.argTypes.size c.args.size))) then some (f, l) else none
    |none=>none
   |none=>none
  |_=>none
 |_=>none)else none
theorem SB {rr:β} {f:FuncId} {l:List AV} {k:List γ->Option β} {x:Option (List γ)} (h:x.bind k=some rr) (hB:∀l l',(Am l).B=(Am l').B/\(Am l).pin=none) (e:∀v,x=some v->Nd P f (Am xl) l (Am v)) (hk:∀v,k v=some rr->RW P N ops (i+1) (({E with amb:=Am v}:St).put (oA ops i).dst<|.tup []) Q) (hc:ACN P N ops E i=some (f,l):=by kernel_rfl) (hA:E.amb=Am xl:=by kernel_rfl):RW P N ops i E Q:=by
 unfold ACN at hc
 cases hb:(R4 P ops E i&&Gz N (oA ops i))with
 |false=>rw[hb]at hc;cases hc
 |true=>
  rw[hb]at hc;simp only[Ae]at hc;simp only[Ak]at hb;obtain⟨d,h1,h2,_⟩:=EW hb.2;obtain⟨h8,h9⟩:=HT hb.1;split at hc
  ·rename_i c g;split at hc
   ·rename_i f' a;split at hc
    ·rename_i fn j;split at hc
     ·rename_i l' b m
      cases hq : (b && (l'.all rV && (!(fn.name == "runtime.NumGoroutine") && (!fn.body.isNone && Nat.beq c.argTypes.size c.args.size)))) with
      |false=>rw[hq]at hc;cases hc
      |true=>
       rw[hq]at hc;simp only[Ae,An,Bo]at hc;obtain⟨rfl,rfl⟩:=hc;simp only[Ak,CG]at hq;obtain⟨rfl,q1,q2,q3,q4⟩:=hq;unfold RW;rw[GP h8];refine ADD (fn:=fn) h d Am (A:=Am xl) (args:=c.args) (tys:=c.argTypes) ?_ hA (λv=>⟨(hB _ _).1,(hB _ v).2⟩) m (bE q1) e (λv _ hv=>by have:=hk v hv;rw[h1]at this;exact this) j q2 q3 h1 h2 (Bp q4) h9;rw[g];cases c;simp only at a;rw[a]
     cases hc
    cases hc
   cases hc
  cases hc
theorem ra {Am:α->R2} {e:Exit} {v r:α} (h:some v=some r) (he:e= .normal\/e= .ret:=by first|exact .inr rfl|exact .inl rfl) (hA:E.amb=Am v:=by kernel_rfl):(e= .normal\/e= .ret)/\E.amb=Am r:=by
 injection h with h
 rw[<-h];exact⟨he,hA⟩
structure RS where
 s:List (Nat×SV)
 b:List (Root×List TV)
 a:R2
def RS.st (x:RS):St:=AD3 x.s x.b x.a
abbrev rs (s:List (Nat×SV)) (b:List (Root×List TV)):RS:=⟨s,b,R2.none⟩
abbrev RQ (s:List (Nat×SV)) (b:List (Root×List TV)) (a:R2):RS:=⟨s,b,a⟩
def RS.in (X:RS) (E:St):Bool:=X.b.all λr=>r.1.mem&&(E.boxes r.1).isSome
def RS.nf (X:RS) (E:St):St:=MY E (X.s.map Prod.fst)<|X.b.map Prod.fst
def Yy (X:RS) (E:St):Prop:=X.in E=true/\X.nf E=X.st
def jR (H:V->RS) (v:Option V) (Q:Exit->St->Prop):Exit->St->Prop
 | .normal,E=>∃a,v=some a/\Yy (H a) E
 |e,E=>Q e E
def lR (id:Nat) (H:S->RS) (H2:V->RS) (o:S⊕V⊕W) (Q:Exit->St->Prop):Exit->St->Prop
 | .normal,E=>∃s,o= .inl s/\Yy (H s) E
 | .exit i,E=>if i=id then∃v,o= .inr (.inl v)/\Yy (H2 v) E else Q (.exit i) E
 |e,E=>Q e E
def lR1 (id:Nat) (H:S->RS) (H2:V->RS) (o:S⊕V) (Q:Exit->St->Prop):Exit->St->Prop
 | .normal,E=>∃s,o= .inl s/\Yy (H s) E
 | .exit i,E=>if i=id then∃v,o= .inr v/\Yy (H2 v) E else Q (.exit i) E
 |e,E=>Q e E
variable {X:RS} {H:V->RS} {H2:V->RS}
theorem Az {c:Code} (h:Yy X E) (hw:Wp P N c X.st Q):Wp P N c E Q:=Wp.norm _ _ _ (by rw[List.all_map];exact h.1) h.2 hw
theorem UN {c:Code} {x:Option V} (h:x.bind k=some r) (H:V->RS) (h1:∀a,x=some a->Wp P N c E (jR H (some a) Q)) (h2:∀a,k a=some r->∀E',Yy (H a) E'->Q .normal E'):Wp P N c E Q:=by
 obtain⟨a,ha,h⟩:=Aj.1 h
 refine Wp.mono (h1 a ha) λe E' hq=>?_
 cases e<;>try exact hq
 obtain⟨a',h3,h4⟩:=hq
 grind
theorem fj2 {c:Code} {k:V⊕W->Option β} {x:Option (V⊕W)} (h:x.bind k=some r) (H:V->RS) (h1:∀a,x=some a->k a=some r->Wp P N c E (jR H a.getLeft? Q)) (h2:∀a,k (.inl a)=some r->∀E',Yy (H a) E'->Q .normal E'):Wp P N c E Q:=by
 obtain⟨a,ha,h⟩:=Aj.1 h
 refine Wp.mono (h1 a ha h) λe E' hq=>?_
 cases e<;>try exact hq
 obtain⟨a',h3,h4⟩:=hq
 grind
theorem RR {H:S->RS} {Q':Exit->St->Prop} {c:Code} {body:S->Option (S⊕A)} {a:A} (hb:∀s o,body s=some o->(∀a',o= .inr a'->a'=a)->Wp P N c (H s).st (λe E=>match e with| .normal=>∃s,o= .inl s/\Yy (H s) E|e=>Q' e E)):
  ∀{n:Nat} {s:S} {E:St},Yy (H s) E->Ql body n s=some a->bI P N c Q' n E
 |0,s,E,_,h=>by cases h
 |n+1,s,E,hn,h=>by
  simp only[Ql]at h;simp only[bI];refine Az hn ?_;split at h
  ·cases h
  ·rename_i s' hs
   refine Wp.mono (hb s _ hs (λa' h=>by cases h)) λe E' hq=>?_
   cases e<;>try exact hq
   obtain⟨s2,h2,h3⟩:=hq
   injection h2 with h2
   subst h2;exact RR hb h3 h
  rename_i a' hs
  injection h with h
  refine Wp.mono (hb s _ hs λa2 h2=>by grind) λe E' hq=>?_
  cases e<;>try exact hq
  grind
theorem AEb {id:Nat} {c:Code} {k:V⊕W->Option β} {H:S->RS} {body:S->Option (S⊕V⊕W)} (h:(Ap body s0).bind k=some r) (h0:Yy (H s0) E) (hb:∀s o,body s=some o->(∀w,o= .inr (.inr w)->k (.inr w)=some r)->Wp P N c (H s).st (lR id H H2 o Q)) (h2:∀v,k (.inl v)=some r->∀E',Yy (H2 v) E'->Q .normal E'):Wp P N (.block id (.loop c)) E Q:=by
 obtain⟨a,ha,h⟩:=Aj.1 h;obtain⟨n,hn⟩:=HM.1 ha;refine Wp.block<|Wp.loop n<|RR (H:=H) (a:=a) (λs o hs ho=>?_) h0 hn
 refine Wp.mono (hb s o hs (λw hw=>by rw[ho _ hw];exact h)) λe E' hq=>?_
 cases e<;>try exact hq
 simp only[lR]at hq;simp only[Xa]
 grind
theorem AEc {id:Nat} {c:Code} {H:S->RS} {body:S->Option (S⊕V)} (h:(Ap body s0).bind k=some r) (h0:Yy (H s0) E) (hb:∀s o,body s=some o->Wp P N c (H s).st (lR1 id H H2 o Q)) (h2:∀v,k v=some r->∀E',Yy (H2 v) E'->Q .normal E'):Wp P N (.block id (.loop c)) E Q:=by
 obtain⟨a,ha,h⟩:=Aj.1 h;obtain⟨n,hn⟩:=HM.1 ha;refine Wp.block<|Wp.loop n<|RR (H:=H) (a:=a) (λs o hs ho=>?_) h0 hn
 refine Wp.mono (hb s o hs) λe E' hq=>?_
 cases e<;>try exact hq
 simp only[lR1]at hq;simp only[Xa]
 grind
theorem MT {id:Nat} {c:Code} {k:V⊕W->Option β} {body:S->Option (S⊕V⊕W)} (h:(Ap body s0).bind k=some r) (H:S->RS) (H2:V->RS) (hb:∀s o,body s=some o->(∀w,o= .inr (.inr w)->k (.inr w)=some r)->Wp P N c (H s).st (lR id H H2 o Q)) (h2:∀v,k (.inl v)=some r->∀E',Yy (H2 v) E'->Q .normal E') (h0:(H s0).in E=true:=by kernel_rfl) (hn:(H s0).nf E=(H s0).st:=by kernel_rfl):Wp P N (.block id<|.loop c) E Q:=AEb h ⟨h0,hn⟩ hb h2
theorem Fi {id:Nat} {c:Code} {body:S->Option (S⊕V)} (h:(Ap body s0).bind k=some r) (H:S->RS) (H2:V->RS) (hb:∀s o,body s=some o->Wp P N c (H s).st (lR1 id H H2 o Q)) (h2:∀v,k v=some r->∀E',Yy (H2 v) E'->Q .normal E') (h0:(H s0).in E=true:=by kernel_rfl) (hn:(H s0).nf E=(H s0).st:=by kernel_rfl):Wp P N (.block id<|.loop c) E Q:=AEc h ⟨h0,hn⟩ hb h2
theorem DF {c:Code} {x:Option V} (h:x.bind k=some r) (H:V->RS) (h1:∀a,x=some a->Wp P N c E (jR H (some a) (JZ (λE'=>Wp P N y E' Q) Q))) (h2:∀a,k a=some r->Wp P N y (H a).st Q):Wp P N (.seq c y) E Q:=Wp.seq<|UN h H h1 λa ha E' hE=>Az hE<|h2 a ha
theorem xJ {id:Nat} {c:Code} {body:S->Option (S⊕V)} (h:(Ap body s0).bind k=some r) (H:S->RS) (H2:V->RS) (hb:∀s o,body s=some o->Wp P N c (H s).st (lR1 id H H2 o (JZ (λE'=>Wp P N y E' Q) Q))) (h2:∀v,k v=some r->Wp P N y (H2 v).st Q) (h0:(H s0).in E=true:=by kernel_rfl) (hn:(H s0).nf E=(H s0).st:=by kernel_rfl):Wp P N (.seq (.block id<|.loop c) y) E Q:=Wp.seq<|AEc h ⟨h0,hn⟩ hb λv hv E' hE=>Az hE<|h2 v hv
theorem yl2 {id:Nat} {c:Code} {k:V⊕W->Option β} {body:S->Option (S⊕V⊕W)} (h:(Ap body s0).bind k=some r) (H:S->RS) (H2:V->RS) (hb:∀s o,body s=some o->(∀w,o= .inr (.inr w)->k (.inr w)=some r)->Wp P N c (H s).st (lR id H H2 o (JZ (λE'=>Wp P N y E' Q) Q))) (h2:∀v,k (.inl v)=some r->Wp P N y (H2 v).st Q) (h0:(H s0).in E=true:=by kernel_rfl) (hn:(H s0).nf E=(H s0).st:=by kernel_rfl):Wp P N (.seq (.block id<|.loop c) y) E Q:=Wp.seq<|AEb h ⟨h0,hn⟩ hb λv hv E' hE=>Az hE<|h2 v hv
theorem en {a v:V} (h:some v=some a) (hb:(H v).in E=true:=by kernel_rfl) (hn:(H v).nf E=(H v).st:=by kernel_rfl):∃a',some a=some a'/\Yy (H a') E:=by
 injection h with h
 subst h;exact⟨_,rfl,hb,hn⟩
theorem em {a:V⊕W} {v:V} (h:some (.inl v)=some a) (hb:(H v).in E=true:=by kernel_rfl) (hn:(H v).nf E=(H v).st:=by kernel_rfl):∃a',a.getLeft? =some a'/\Yy (H a') E:=by
 injection h with h
 subst h;exact⟨_,rfl,hb,hn⟩
theorem el {H:S->RS} {s:S} {o:S⊕W} (h:some (.inl s)=some o) (hb:(H s).in E=true:=by kernel_rfl) (hn:(H s).nf E=(H s).st:=by kernel_rfl):∃s,o= .inl s/\Yy (H s) E:=by
 injection h with h
 subst h;exact⟨_,rfl,hb,hn⟩
theorem ex {o:S⊕(V⊕W)} {v:V} (h:some (.inr (.inl v))=some o) (hb:(H v).in E=true:=by kernel_rfl) (hn:(H v).nf E=(H v).st:=by kernel_rfl):∃v,o= .inr (.inl v)/\Yy (H v) E:=by
 injection h with h
 subst h;exact⟨_,rfl,hb,hn⟩
theorem ev {o:S⊕V} {v:V} (h:some (.inr v)=some o) (hb:(H v).in E=true:=by kernel_rfl) (hn:(H v).nf E=(H v).st:=by kernel_rfl):∃v,o= .inr v/\Yy (H v) E:=by
 injection h with h
 subst h;exact⟨_,rfl,hb,hn⟩
def ADc (P:Program) (N:Nat) (ops:Array Oper) (ts mv dn:List Nat) (E:St) (X:RS):Bool:=match vK P N ops ts mv (ops.size+1) dn E with
 |some L=>L.all λE'=>X.in E'
 |none=>false
theorem ABC {ts:List Nat} {mv:List Nat} (hb:ADc P N ops ts mv dn E X=true) (hn:(zM P N ops ts mv dn E).map X.nf=(zM P N ops ts mv dn E).map λ_=>X.st) (hq:∀E',Yy X E'->Q .normal E'):KW P N ops ts dn E Q:=by
 unfold ADc at hb;split at hb
 ·rename_i L hL
  refine sL hL λE' hE=>hq E' ⟨Jj.1 hb E' hE,?_⟩
  rw[zM,hL,Bl]at hn;have:∀(L:List St),L.map X.nf=L.map (λ_=>X.st)->∀E'∈L,X.nf E'=X.st:=by simp
  exact this L hn E' hE
 cases hb
section
variable {ts:List Nat}
theorem O4 {Q0:Exit->St->Prop} {a v:V} (mv:List Nat) (h:some v=some a) (hb:ADc P N ops ts mv dn E (H v)=true:=by kernel_rfl) (hn:(zM P N ops ts mv dn E).map (H v).nf=(zM P N ops ts mv dn E).map (λ_=>(H v).st):=by kernel_rfl):KW P N ops ts dn E (jR H (some a) Q0):=
 ABC hb hn λE' hE=>by
  injection h with h
  subst h;exact⟨_,rfl,hE⟩
end
theorem rk (k:Nat) (h:RW P N ops (i+k) (P9 P N ops k 0 i E) Q) (hk:(Rw P N ops k 0 i E).isSome=true:=by kernel_rfl):RW P N ops i E Q:=wR k 0 h hk
theorem rkm (k m:Nat) (h:RW P N ops (i+k) (P9 P N ops k m i E) Q) (hk:(Rw P N ops k m i E).isSome=true:=by kernel_rfl):RW P N ops i E Q:=wR k m h hk
theorem ABu (a b:Nat):Nat.ble a (b+(a-b))=true:=by rw[PU];omega
theorem gm (m:Nat) (h:Q .normal (P9 P N ops (ops.size-i) m i E)) (hk:(Rw P N ops (ops.size-i) m i E).isSome=true:=by kernel_rfl):RW P N ops i E Q:=wR (ops.size-i) m (RW.nil h<|ABu _ _) hk
theorem g0 (h:Q .normal (P9 P N ops (ops.size-i) 0 i E)) (hk:(Rw P N ops (ops.size-i) 0 i E).isSome=true:=by kernel_rfl):RW P N ops i E Q:=gm 0 h hk
section
variable {id:Nat}
theorem wm (m:Nat) (h:RW P N ops2 0 (P9 P N ops (ops.size-i) m i E) (JZ (λE'=>Wp P N y E' Q) Q)) (hk:(Rw P N ops (ops.size-i) m i E).isSome=true:=by kernel_rfl):RW P N ops i E (JZ (λE'=>Wp P N (.seq (.region id ops2 false) y) E' Q) Q):=gm m (ws h) hk
end
section
variable {id:Nat}
theorem w0 (h:RW P N ops2 0 (P9 P N ops (ops.size-i) 0 i E) (JZ (λE'=>Wp P N y E' Q) Q)) (hk:(Rw P N ops (ops.size-i) 0 i E).isSome=true:=by kernel_rfl):RW P N ops i E (JZ (λE'=>Wp P N (.seq (.region id ops2 false) y) E' Q) Q):=wm 0 h hk
end
section
variable {id:Nat}
theorem wg (h:JZ (λE'=>Wp P N y E' Q) Q .normal (P9 P N ops (ops.size-0) 0 0 E)) (hk:(Rw P N ops (ops.size-0) 0 0 E).isSome=true:=by kernel_rfl):Wp P N (.seq (.region id ops false) y) E Q:=ws<|g0 h hk
end
section
variable {x:Code}
theorem qs (h:Wp P N x E (JZ (λE'=>Wp P N y E' Q) Q)):Wp P N (.seq x y) E Q:=Wp.seq h
end
theorem qk (h:Q .normal E):Wp P N .skip E Q:=Wp.skip h
theorem qt (h:Q .ret E):Wp P N .ret E Q:=Wp.ret h
theorem qx {id:Nat} (h:Q (.exit id) E):Wp P N (.exit id) E Q:=Wp.exit h
theorem qb {id:Nat} {c:Code} (h:Wp P N c E (Xa id Q)):Wp P N (.block id c) E Q:=Wp.block h
theorem qr {id:Nat} (h:RW P N ops 0 E Q):Wp P N (.region id ops false) E Q:=ACR h
section
variable {id:Nat} {c:Code}
theorem qd {Q1:Exit->St->Prop} (h:Wp P N c E (Xa id (JZ (λE'=>Wp P N y E' Q1) Q1))):Wp P N .skip E (JZ (λE'=>Wp P N (.seq (.block id c) y) E' Q1) Q1):=qk<|qs<|qb h
end
section
variable {id:Nat}
theorem qw {z:Code} (h:JZ (λE'=>Wp P N y E' (JZ (λE'=>Wp P N z E' Q) Q)) (JZ (λE'=>Wp P N z E' Q) Q) .normal (P9 P N ops (ops.size-0) 0 0 E)) (hk:(Rw P N ops (ops.size-0) 0 0 E).isSome=true:=by kernel_rfl):Wp P N (.seq (.seq (.region id ops false) y) z) E Q:=qs<|wg h hk
end
section
variable {id:Nat}
theorem qv {z:Code} (h:RW P N ops 0 E (JZ (λE'=>Wp P N y E' (JZ (λE'=>Wp P N z E' Q) Q)) (JZ (λE'=>Wp P N z E' Q) Q))):Wp P N (.seq (.seq (.region id ops false) y) z) E Q:=qs<|ws h
end
theorem wq {id:Nat} (h:Q .ret (P9 P N ops (ops.size-0) 0 0 E)) (hk:(Rw P N ops (ops.size-0) 0 0 E).isSome=true:=by kernel_rfl):Wp P N (.seq (.region id ops false) .ret) E Q:=wg (qt h) hk
theorem aq (hp:Bi P E (oA ops i)=some s) (h:RW P N ops (i+1) (E.put (oA ops i).dst s) Q) (hk:zC P N ops i E=true:=by kernel_rfl):RW P N ops i E Q:=RW.q hp h hk
theorem CD (k:Nat) (hp:Bi P (P9 P N ops k 0 i E) (oA ops (i+k))=some s) (h:RW P N ops (i+k+1) ((P9 P N ops k 0 i E).put (oA ops (i+k)).dst s) Q) (hk:(Rw P N ops k 0 i E).isSome=true:=by kernel_rfl) (hq:zC P N ops (i+k) (P9 P N ops k 0 i E)=true:=by kernel_rfl):RW P N ops i E Q:=wR k 0 (RW.q hp h hq) hk
theorem kq {ts:List Nat} (i:Nat) (hp:Bi P E (oA ops i)=some s) (h:KW P N ops ts (i::dn) (E.put (oA ops i).dst s) Q) (hk:(zC P N ops i E&&pI ops ts dn i)=true:=by kernel_rfl):KW P N ops ts dn E Q:=KW.q i hp h hk
theorem ac {l:List AV} {n:Nat} {x:Option α} (h:x.bind kk=some r) {enc:α->SV} (a:∀v,x=some v->AA P (PR (oA ops i)) l (enc v) (List.replicate n .gone)) (hk:∀v,kk v=some r->RW P N ops (i+1) ((clE P E (oA ops i) 0).put (oA ops i).dst (enc v)) Q) (b:bX P E (oA ops i) 0=some l:=by kernel_rfl) (hc:shB P E (oA ops i) 0=true\/∀v,AZ (enc v)=false:=by exact .inl<|by kernel_rfl) (ho:(R4 P ops E i&&T6 P N (oA ops i))=true:=by kernel_rfl):RW P N ops i E Q:=RW.c 0 h a (λv _=>hk v) b hc ho
theorem Bw {l:List AV} {n:Nat} {x:Option α} (k:Nat) (h:x.bind kk=some r) {enc:α->SV} (a:∀v,x=some v->AA P (PR (oA ops (i+k))) l (enc v) (List.replicate n .gone)) (hk:∀v,kk v=some r->RW P N ops (i+k+1) ((clE P (P9 P N ops k 0 i E) (oA ops (i+k)) 0).put (oA ops (i+k)).dst (enc v)) Q) (hr:(Rw P N ops k 0 i E).isSome=true:=by kernel_rfl) (b:bX P (P9 P N ops k 0 i E) (oA ops<|i+k) 0=some l:=by kernel_rfl) (hc:shB P (P9 P N ops k 0 i E) (oA ops<|i+k) 0=true\/∀v,AZ (enc v)=false:=by exact .inl<|by kernel_rfl) (ho:(R4 P ops (P9 P N ops k 0 i E) (i+k)&&T6 P N (oA ops<|i+k))=true:=by kernel_rfl):RW P N ops i E Q:=wR k 0 (RW.c 0 h a (λv _=>hk v) b hc ho) hr
theorem acm {l:List AV} {n:Nat} {x:Option α} (m:Nat) (h:x.bind kk=some r) {enc:α->SV} (a:∀v,x=some v->AA P (PR (oA ops i)) l (enc v) (List.replicate n .gone)) (hk:∀v,kk v=some r->RW P N ops (i+1) ((clE P E (oA ops i) m).put (oA ops i).dst (enc v)) Q) (b:bX P E (oA ops i) m=some l:=by kernel_rfl) (hc:shB P E (oA ops i) m=true\/∀v,AZ (enc v)=false:=by exact .inl<|by kernel_rfl) (ho:(R4 P ops E i&&T6 P N (oA ops i))=true:=by kernel_rfl):RW P N ops i E Q:=RW.c m h a (λv _=>hk v) b hc ho
section
variable {ts:List Nat}
theorem EO {l:List AV} {n:Nat} {x:Option α} (m:Nat) (h:x.bind kk=some r) {enc:α->SV} (a:∀v,x=some v->AA P (PR (oA ops i)) l (enc v) (List.replicate n .gone)) (hk:∀v,kk v=some r->KW P N ops ts (i::dn) ((clE P E (oA ops i) m).put (oA ops i).dst (enc v)) Q) (b:bX P E (oA ops i) m=some l:=by kernel_rfl) (hc:shB P E (oA ops i) m=true\/∀v,AZ (enc v)=false:=by exact .inl<|by kernel_rfl) (ho:(R4 P ops E i&&T6 P N (oA ops i)&&((bits m<|GE<|oA ops i).all (λx=>!x.1)||ts.contains i))=true:=by kernel_rfl):KB P N ops ts dn i E Q:=KB.c m h a (λv _=>hk v) b hc ho
end
theorem R6 {l:List AV} {n:Nat} {x:Option α} (h:x.bind kk=some r) {enc:α->SV} {a:List TV} (c:∀v,x=some v->AA P (PR (oA ops i)) (.ext a::l) (enc v) (.ext (fin v)::List.replicate n .gone)) (hk:∀v,kk v=some r->RW P N ops (i+1) (((E.setRoot (oC E (oA ops i)) (fin v)).bump (oC E (oA ops i))).put (oA ops i).dst (enc v)) Q) (b:∀v,(fin v).length=a.length:=by exact λ_=>rfl) (d:wK P E (oA ops i)=some l:=by kernel_rfl) (hb:E.boxes (oC E<|oA ops i)=some a:=by kernel_rfl) (hc:cxB P E (oA ops i)=true\/∀v,AZ (enc v)=false/\AB (fin v)=false:=by exact .inl<|by kernel_rfl) (ho:(R4 P ops E i&&T6 P N (oA ops i)&&wJ E (oA ops i))=true:=by kernel_rfl):RW P N ops i E Q:=AEl h c b (λv _=>hk v) d hb hc ho
theorem kcx {ts:List Nat} {l:List AV} {n:Nat} {x:Option α} (h:x.bind kk=some r) {enc:α->SV} {a:List TV} (c:∀v,x=some v->AA P (PR (oA ops i)) (.ext a::l) (enc v) (.ext (fin v)::List.replicate n .gone)) (hk:∀v,kk v=some r->KW P N ops ts (i::dn) (((E.setRoot (oC E (oA ops i)) (fin v)).bump (oC E (oA ops i))).put (oA ops i).dst (enc v)) Q) (b:∀v,(fin v).length=a.length:=by exact λ_=>rfl) (d:wK P E (oA ops i)=some l:=by kernel_rfl) (hb:E.boxes (oC E<|oA ops i)=some a:=by kernel_rfl) (hc:cxB P E (oA ops i)=true\/∀v,AZ (enc v)=false/\AB (fin v)=false:=by exact .inl<|by kernel_rfl) (ho:(R4 P ops E i&&T6 P N (oA ops i)&&wJ E (oA ops i)&&ts.contains i)=true:=by kernel_rfl):KB P N ops ts dn i E Q:=AEn h c b (λv _=>hk v) d hb hc ho
theorem BW {b:Bool} (k t:Nat) (h:(bif b then tx else ty)=some r) (ht:tx=some r->RW P N ops (i+k) ((P9 P N ops k 0 i E).rs t true) Q) (hf:ty=some r->RW P N ops (i+k) ((P9 P N ops k 0 i E).rs t false) Q) (hr:(Rw P N ops k 0 i E).isSome=true:=by kernel_rfl) (hc:(P9 P N ops k 0 i E).slots t=B b:=by kernel_rfl):RW P N ops i E Q:=wR k 0 (AEj t h ht hf hc) hr
def bC (fn:Func):Code:=fn.body.getD .skip
theorem WZ (h:fn.body.isSome=true):fn.body=some (bC fn):=by
 unfold bC
 cases e:fn.body with
 |none=>rw[e]at h;cases h
 |some c=>rfl
theorem gf {f:FuncId} {a:SV} (hf:P.funcs[f]?=some fn) (hN:fn.ntmps=N) (h:Wp P N (bC fn) (DE as) λe E=>(e= .normal\/e= .ret)/\∃ss E',Ea P E fn.results.toList=some (ss,E')/\EL ss=a) (hb:fn.body.isSome=true:=by kernel_rfl):AA P f as a (List.replicate as.length .gone):=gk hf (WZ hb) hN h
theorem gfa {f:FuncId} {A':R2} (hf:P.funcs[f]?=some fn) (hN:fn.ntmps=N) (hB:∀l l',(Am l).B=(Am l').B/\(Am l).pin=none) (h:Wp P N (bC fn) (DE as (Am xl)) λe E=>(e= .normal\/e= .ret)/\E.amb=A') (hb:fn.body.isSome=true:=by kernel_rfl) (hr:fn.results= #[]:=by rfl):Nd P f (Am xl) as A':=wF hf (WZ hb) hr (hB xl xl).2 (by rw[hN];exact h)
theorem xE {f:FuncId} {a cells':List TV} {b:SV} (hf:P.funcs[f]?=some fn) (hN:fn.ntmps=N) (h:Wp P N (bC fn) (DE (.ext a::as)) λe E=>(e= .normal\/e= .ret)/\∃ss E',Ea P E fn.results.toList=some (ss,E')/\EL ss=b/\E'.boxes (.ext 0)=some cells') (hb:fn.body.isSome=true:=by kernel_rfl) (c:cells'.isEmpty=false:=by rfl):AA P f (.ext a::as) b (.ext cells'::List.replicate as.length .gone):=gkx hf (WZ hb) hN h c
theorem AEQ (h:Yy X E) {a:List TV} (hc:X.st.boxes (.ext 0)=some a:=by kernel_rfl):(Exit.normal= .normal\/Exit.normal= .ret)/\∃ss E1,Ea P E []=some (ss,E1)/\EL ss= .tup []/\E1.boxes (.ext 0)=some a:=by
 refine⟨.inl rfl,[],E,rfl,rfl,?_⟩;obtain⟨h1,h2⟩:=h;rw[<-h2]at hc;unfold RS.nf at hc;by_cases hm:(X.b.map Prod.fst).contains (.ext 0)=true
 ·have e:(MY E (X.s.map Prod.fst)<|X.b.map Prod.fst).boxes (.ext 0)=some ((E.boxes<|.ext 0).getD []):=by
   show((X.b.map Prod.fst).map λr=>(r,(E.boxes r).getD [])).lookup (.ext 0)=_;rw[IX (f:=λr=>(E.boxes r).getD []),Ay hm]
  rw[e]at hc;unfold RS.in at h1;have h3:((E.boxes<|.ext 0).isSome)=true:=by grind
  cases he:E.boxes (.ext 0)with
  |none=>grind
  |some v=>grind
 have e:(MY E (X.s.map Prod.fst)<|X.b.map Prod.fst).boxes (.ext 0)=none:=by
  show((X.b.map Prod.fst).map λr=>(r,(E.boxes r).getD [])).lookup (.ext 0)=_
  grind
 grind
theorem ABJ {Am:α->R2} {v r:α} (h:some v=some r) (hE:Yy X E) (hX:X.st.amb=Am v:=by kernel_rfl):(Exit.normal= .normal\/Exit.normal= .ret)/\E.amb=Am r:=by
 injection h with h
 rw[<-h,<-hX,<-hE.2];exact⟨.inl rfl,rfl⟩
end Go.TI
