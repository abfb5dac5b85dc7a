/- What walks of Go code need. No condition. -/
import Derived.Test.YtiaanofedbfeeaaGreatSVT2
import Derived.Laws.StructEq
set_option linter.unusedSimpArgs false
set_option linter.unusedVariables false
namespace Go.TI
open Go Go.RowKit
def fI (E:St) (x:Operand) (sz:Nat):Option (List TV):=match E.ref x with
 |some (r,q,j)=>match E.place r q j with
  |some (.sl _ _ s cells)=>bif Nat.beq s sz then some cells else none
  |_=>none
 |none=>none
variable {E E' E1:St} {P:Program} {N sz i j e d s b sz' by_ e' m:Nat} {α β γ α' V A:Type} {Q:Exit->St->Prop} {ops:Array Oper} {n n':Int} {w:World} {dn FA UA q:List Nat} {blk:Root->Nat} {as:List AV} {FS US:Root->List Nat} {T T' t:TypeId} {fn:Func} {row row':List TV} {k:IntKind} {t':TV} {K:St->Prop} {sf g:FuncId} {rest:List Oper} {f:α->List TV} {l:List α} {r:β} {kk:α->Option β} {f':α'->List TV} {l':List α'} {x':α'} {u:List α} {Am:List γ->Rz} {fin:α->List TV}
theorem Qu {x:Operand} {a:List TV} (h:fI E x sz=some a):∃r q j b e,E.ref x=some (r,q,j)/\E.place r q j=some (.sl b e sz a):=by
 unfold fI at h;split at h
 ·rename_i r q j hr;split at h
  ·rename_i b e s cells' hp
   cases hs:Nat.beq s sz with
   |false=>rw[hs]at h;cases h
   |true=>
    rw[hs]at h;simp only[Ae]at h
    injection h with h
    have:=Bl hs
    grind
  cases h
 cases h
def Yq (P:Program) (t:TypeId):TypeId:=match P.underlying t with
 |some (.slice e)=>e
 |_=>0
def W6 (P:Program) (t:TypeId) (sz:Nat):Bool:=match P.underlying t with
 |some (.slice e)=>Nat.beq (P.cellsOf e) sz&&Nat.blt 0 sz
 |_=>false
theorem Mb (h:W6 P t sz=true):∃e,P.underlying t=some (.slice e)/\P.cellsOf e=sz/\Nat.blt 0 sz=true:=by
 unfold W6 at h;split at h
 ·rename_i e he;rw[Aj]at h;exact⟨e,he,Bl h.1,h.2⟩
 cases h
def H8 (E:St) (x:Operand):Root×List Nat×Nat:=(E.ptr? x).getD (.hand,[],0)
def Ln (E:St) (x:Operand):Root×List Nat×Nat:=(E.ref x).getD (.hand,[],0)
def Sb (E:St) (x:Operand):Option (List TV×Nat):=match E.ptr? x with
 |some (r,q,j)=>match(E.root r).bind λcs=>BM cs q with
  |some row=>some (row,j)
  |none=>none
 |none=>none
theorem Sa {x:Operand} {a:List TV} (h:Sb E x=some (a,j)):E.ptr? x=some ((H8 E x).1,(H8 E x).2.1,j)/\(E.root (H8 E x).1).bind (λcs=>BM cs (H8 E x).2.1)=some a:=by
 unfold Sb at h;split at h
 ·rename_i r q j' hp;split at h
  ·rename_i row' hr
   injection h with h
   injection h with h1 h2
   subst h1 h2;simp only[H8,hp,Bi]
   grind
  cases h
 cases h
theorem vQ {r:Root} {x:Operand} {a:List TV} (h1:E.ptr? x=some (r,q,j)) (h2:(E.root r).bind (λcs=>BM cs q)=some a):Sb E x=some (a,j):=by
 unfold Sb
 grind
def FT (o:Oper):TypeId×Operand×Operand:=match o.op with
 | .indexAddr t a i=>(t,a,i)
 |_=>(0,.tmp 0,.tmp 0)
def wG (o:Oper):Bool:=match o.op with
 | .indexAddr .. =>true
 |_=>false
theorem jV {o:Oper} (h:wG o=true):o.op= .indexAddr (FT o).1 (FT o).2.1 (FT o).2.2:=by
 unfold wG at h;unfold FT
 grind
def TQ (P:Program) (E:St) (x:Operand):Option Int:=match E.cell1 P 0 x with
 |some (.int _ n)=>some n
 |_=>none
theorem I7 {x:Operand} (h:TQ P E x=some n):∃k,E.cell1 P 0 x=some (.int k n):=by
 unfold TQ at h
 grind
def AAs (P:Program) (E:St) (o:Oper) (sz:Nat):Option (List TV×Int):=bif wG o&&W6 P (FT o).1 sz then(match fI E (FT o).2.1 sz,TQ P E (FT o).2.2 with
 |some c,some n=>some (c,n)
 |_,_=>none)else none
def nT (E:St) (o:Oper) (m:Nat):SV:= .one (.ptr (Ln E (FT o).2.1).1 (E.ver (Ln E (FT o).2.1).1) ((Ln E (FT o).2.1).2.1++ [(Ln E (FT o).2.1).2.2]) m)
section
variable {o:Oper} {x:α}
theorem I4 (hf:∀x,(f x).length=sz) (hx:gi l n=some x) (hc:AAs P E o sz=some (AI f l,n):=by kernel_rfl):Bg P E o=some (nT E o<|n.toNat*sz+0):=by
 unfold AAs at hc
 cases hb:(wG o&&W6 P (FT o).1 sz)with
 |false=>grind
 |true=>
  rw[hb]at hc;simp only[Ae]at hc;rw[Aj]at hb;split at hc
  ·rename_i c n' h1 h2
   injection hc with hc
   injection hc with a b
   subst a b;obtain⟨r,q,j,d,e',h3,h4⟩:=Qu h1;obtain⟨k,h5⟩:=I7 h2;obtain⟨e,h6,h7,h8⟩:=Mb hb.2;have:=AD8 hf r q j hx h4 (jV hb.1) h6 h5 h3 h7 h8;rw[this];simp only[nT,Ln,h3,Bi]
  cases hc
end
section
variable {o:Oper} {x:α}
theorem ADh (hf:∀x,(f x).length=sz) (hx:gi l n=some x) (hf':∀x,(f' x).length=sz') (hx':gi l' n'=some x') (k:Nat) (hi:(wG o&&W6 P (FT o).1 sz&&Nat.blt k sz')=true:=by kernel_rfl) (hn:TQ P E (FT o).2.2=some n:=by kernel_rfl) (hr:E.ref (FT o).2.1=some ((Ln E (FT o).2.1).1,(Ln E (FT o).2.1).2.1,n'.toNat*sz'+k):=by kernel_rfl) (hp:(E.root (Ln E (FT o).2.1).1).bind (λcs=>BM cs (Ln E (FT o).2.1).2.1)=some (AI f' l'):=by kernel_rfl) {a:Bool} (hc:(f' x')[k]?=some (.sl a e' sz<|AI f l):=by rfl):Bg P E o=some (nT E o<|n.toNat*sz+0):=by
 simp only[Aj]at hi;obtain⟨k',h5⟩:=I7 hn;obtain⟨e,h6,h7,h8⟩:=Mb hi.1.2;have b:E.place (Ln E (FT o).2.1).1 (Ln E (FT o).2.1).2.1 (n'.toNat*sz'+k)=some (.sl a e' sz<|AI f l):=by
  obtain⟨cs,h1,h2⟩:=An.1 hp;simp only[St.place,h1,Aa,h2];rw[OV hf' hx' (by grind),hc]
 have:=AD8 hf _ _ _ hx b (jV hi.1.1) h6 h5 hr h7 h8;have hj:(Ln E (FT o).2.1).2.2=n'.toNat*sz'+k:=BE (λz:Option (Root×List Nat×Nat)=>(z.getD (Root.hand,[],0)).2.2) hr;rw[this,nT,hj]
end
section
variable {x:α}
theorem pr2 {a:Operand} {b:List TV} (q0:Nat) (hf':∀x,(f' x).length=sz') (hx':gi l' n'=some x') (k:Nat) (h1:E.ptr? a=some ((H8 E a).1,[q0,n'.toNat*sz'+k],j):=by kernel_rfl) (hc:(E.root (H8 E a).1).bind (λcs=>BM cs [q0])=some (AI f' l'):=by kernel_rfl) (c:BM (f' x') [k]=some b:=by kernel_rfl) (hk:Nat.blt k sz'=true:=by kernel_rfl):Sb E a=some (b,j):=by
 refine vQ h1 ?_;obtain⟨cs,h2,h3⟩:=An.1 hc;have h4:=uW hf' hx' (q:=[]) (show k<sz' by simpa[B7]using hk);rw[h2];simp only[Aa];simp only[BM]at h3;split at h3
 ·rename_i o' e' s' d e
  injection h3 with h3
  subst h3;simp only[BM,e];simp only[BM]at h4 c
  grind
 cases h3
end
def S7 (o:Oper):TypeId×Operand×Nat:=match o.op with
 | .fieldAddr t a i=>(t,a,i)
 |_=>(0,.tmp 0,0)
def ADs (o:Oper):Bool:=match o.op with
 | .fieldAddr .. =>true
 |_=>false
theorem AB5 {o:Oper} (h:ADs o=true):o.op= .fieldAddr (S7 o).1 (S7 o).2.1 (S7 o).2.2:=by
 unfold ADs at h;unfold S7
 grind
def ACQ (P:Program) (o:Oper):Option Nat:=match P.underlying (S7 o).1 with
 |some (.struct fs)=>match fs[(S7 o).2.2]? with
  |some fd=>bif Nat.beq (P.cellsOf fd.type) 0 then none else some fd.offset
  |none=>none
 |_=>none
def AEn (E:St) (o:Oper) (m:Nat):SV:= .one (.ptr (H8 E (S7 o).2.1).1 (E.stamp (H8 E (S7 o).2.1).1 (H8 E (S7 o).2.1).2.1) (H8 E (S7 o).2.1).2.1 m)
section
variable {o:Oper} {x:α}
theorem Dx (hf:∀x,(f x).length=sz) (hx:gi l n=some x) (k m:Nat) (hr:Sb E (S7 o).2.1=some (AI f l,n.toNat*sz+k):=by kernel_rfl) (ho:(ADs o&&Nat.blt m sz)=true:=by kernel_rfl) (a:ACQ P o=some (m-k):=by kernel_rfl) (b:Nat.ble k m=true:=by kernel_rfl):Bg P E o=some (AEn E o<|n.toNat*sz+m):=by
 rw[Aj]at ho;obtain⟨h1,h2⟩:=Sa hr;have d:k<=m:=by simpa[Qa]using b
 unfold ACQ at a;split at a
 ·rename_i fs hs;split at a
  ·rename_i fd c
   cases hb:Nat.beq (P.cellsOf fd.type) 0 with
   |true=>grind
   |false=>
    rw[hb]at a;simp only[Ac]at a
    injection a with a
    have hm:k+fd.offset=m:=by omega
    exact AEU hf _ _ k hx h2 (AB5 ho.1) hs h1 c hb hm (by rw[hm];exact ho.2)
  cases a
 cases a
end
def ON (o:Oper):TypeId×Operand:=match o.op with
 | .load t a=>(t,a)
 |_=>(0,.tmp 0)
def AB4 (o:Oper):Bool:=match o.op with
 | .load .. =>true
 |_=>false
theorem uO {o:Oper} (h:AB4 o=true):o.op= .load (ON o).1 (ON o).2:=by
 unfold AB4 at h;unfold ON
 grind
def ACN (P:Program) (o:Oper) (k sz:Nat):Bool:=AB4 o&&!d9 P (ON o).1&&Nat.beq (P.cellsOf (ON o).1) 1&&(P.underlying (ON o).1).isSome&&Nat.blt k sz
def ACO (P:Program) (o:Oper) (k m sz:Nat):Bool:=AB4 o&&d9 P (ON o).1&&Nat.beq (P.cellsOf (ON o).1) m&&Nat.ble (k+m) sz
def ldC (E:St) (o:Oper) (j:Nat) (u:TV):SV:= .one (see E (H8 E (ON o).2).1 (H8 E (ON o).2).2.1 j u)
def ldA (E:St) (o:Oper) (j:Nat) (us:List TV):SV:= .agg (Vy E (H8 E (ON o).2).1 (H8 E (ON o).2).2.1 j us)
section
variable {o:Oper} {x:α}
theorem Cx (hf:∀x,(f x).length=sz) (hx:gi l n=some x) (k:Nat) (hr:Sb E (ON o).2=some (AI f l,n.toNat*sz+k):=by kernel_rfl) (ho:ACN P o k sz=true:=by kernel_rfl):Bg P E o=some (ldC E o (n.toNat*sz+k)<|((f x)[k]?).getD .junk):=by
 simp only[ACN,Aj,CF]at ho;obtain⟨⟨⟨⟨h3,h4⟩,h5⟩,h6⟩,h7⟩:=ho;obtain⟨h1,h2⟩:=Sa hr;have hk:k<(f x).length:=by rw[hf];simpa[B7]using h7
 refine AET hf _ _ k _ hx h2 (uO h3) h1 h4 (Bl h5) h6 h7 ?_
 grind
end
section
variable {o:Oper} {x:α}
theorem Ia (hf:∀x,(f x).length=sz) (hx:gi l n=some x) (k m:Nat) (hr:Sb E (ON o).2=some (AI f l,n.toNat*sz+k):=by kernel_rfl) (ho:ACO P o k m sz=true:=by kernel_rfl):Bg P E o=some (ldA E o (n.toNat*sz+k)<|((f x).drop k).take m):=by
 simp only[ACO,Aj]at ho;obtain⟨⟨⟨h3,h4⟩,h5⟩,h6⟩:=ho;obtain⟨h1,h2⟩:=Sa hr;exact AES hf _ _ k m hx h2 (uO h3) h1 h4 (Bl h5) h6
end
section
variable {x:α}
def PI (o:Oper):TypeId×Operand:=match o.op with
 | .call c=>match c.callee,c.args.toList,c.argTypes.toList with
  | .builtin .len,[x],[t]=>(t,x)
  |_,_,_=>(0,.tmp 0)
 |_=>(0,.tmp 0)
end
section
variable {x:α}
def AB3 (o:Oper):Bool:=match o.op with
 | .call c=>match c.callee,c.args.toList,c.argTypes.toList with
  | .builtin .len,[x],[t]=>true
  |_,_,_=>false
 |_=>false
end
theorem uN {o:Oper} (h:AB3 o=true):o.op= .call {callee:= .builtin .len,args:= #[(PI o).2],argTypes:= #[(PI o).1]}:=by
 unfold AB3 at h;unfold PI;split at h
 ·rename_i c hc;split at h
  ·rename_i x t h1 h2 h3;obtain⟨callee,args,types⟩:=c;simp only at h1 h2 h3;subst h1;obtain rfl:args= #[x]:=by cases args;simp_all
   obtain rfl:types= #[t]:=by cases types;simp_all
   rw[hc]
  cases h
 cases h
section
variable {o:Oper} {x:α}
theorem Cd (hf:∀x,(f x).length=sz) (l:List α) (hr:fI E (PI o).2 sz=some (AI f l):=by kernel_rfl) (ho:(AB3 o&&W6 P (PI o).1 sz)=true:=by kernel_rfl):Bg P E o=some (.one<|.int .i64<|ln l):=by
 rw[Aj]at ho;obtain⟨r,q,j,a,e',h3,h4⟩:=Qu hr;obtain⟨e,h6,h7,h8⟩:=Mb ho.2;exact AD7 hf l (uN ho.1) h6 h3 h4 h8
end
section
variable {o:Oper} {x:α}
theorem AEP (hf:∀x,(f x).length=sz) (l:List α) (hf':∀x,(f' x).length=sz') (hx':gi l' n'=some x') (k:Nat) (ho:(AB3 o&&W6 P (PI o).1 sz&&Nat.blt k sz')=true:=by kernel_rfl) (hr:E.ref (PI o).2=some ((Ln E (PI o).2).1,(Ln E (PI o).2).2.1,n'.toNat*sz'+k):=by kernel_rfl) (hp:(E.root (Ln E (PI o).2).1).bind (λcs=>BM cs (Ln E (PI o).2).2.1)=some (AI f' l'):=by kernel_rfl) {a:Bool} (hc:(f' x')[k]?=some (.sl a e' sz<|AI f l):=by rfl):Bg P E o=some (.one<|.int .i64<|ln l):=by
 simp only[Aj]at ho;obtain⟨e,h6,h7,h8⟩:=Mb ho.1.2;have b:E.place (Ln E (PI o).2).1 (Ln E (PI o).2).2.1 (n'.toNat*sz'+k)=some (.sl a e' sz<|AI f l):=by
  obtain⟨cs,h1,h2⟩:=An.1 hp;simp only[St.place,h1,Aa,h2];rw[OV hf' hx' (by grind),hc]
 exact AD7 hf l (uN ho.1.1) h6 hr b h8
end
def Xx (P:Program) (E:St) (t:TypeId) (x:Operand):Option ByteArray:=match E.cell1 P t x with
 |some (.str s)=>some s
 |_=>none
theorem Ls {s:ByteArray} {x:Operand} (h:Xx P E t x=some s):E.cell1 P t x=some (.str s):=by
 unfold Xx at h
 grind
def gC (P:Program) (t:TypeId):Bool:=match P.underlying t with
 |some .string=>true
 |_=>false
theorem VT (h:gC P t=true):P.underlying t=some .string:=by
 unfold gC at h
 grind
def ACE (P:Program) (E:St) (o:Oper):Option (ByteArray×Int):=match o.op with
 | .index t a i=>match gC P t,Xx P E t a,TQ P E i with
  |true,some s,some n=>some (s,n)
  |_,_,_=>none
 |_=>none
theorem dG {o:Oper} {s:ByteArray} {b:Int} (h:sx s n=some b) (hc:ACE P E o=some (s,n):=by kernel_rfl):Bg P E o=some (.one<|.int .u8 b):=by
 unfold ACE at hc;split at hc
 ·rename_i t a i ho;split at hc
  ·rename_i s' n' h1 h2 h3
   injection hc with hc
   injection hc with c d
   subst c d;obtain⟨k,h3⟩:=I7 h3;exact AER h ho (VT h1) (Ls h2) h3
  cases hc
 cases hc
section
variable {x:α}
def gK (P:Program) (E:St) (d:Int):Option Operand->Option Int
 |none=>some d
 |some x=>TQ P E x
end
def yM (P:Program) (E:St) (o:Oper):Option (ByteArray×Int×Int):=match o.op with
 | .slice t a lo hi none=>match gC P t,Xx P E t a with
  |true,some s=>match gK P E 0 lo,gK P E (s.size:Nat) hi with
   |some l,some h=>some (s,l,h)
   |_,_=>none
  |_,_=>none
 |_=>none
section
variable {o:Oper}
theorem QY {d:Int} {x:Option Operand} (h:gK P E d x=some n):∃k,(match x with|some o=>E.cell1 P 0 o|none=>some (.int .i64 d))=some (.int k n):=by
 cases x with
 |none=>
  simp only[gK]at h
  injection h with h
  exact⟨.i64,by rw[h]⟩
 |some x=>exact I7 h
end
theorem Sc {o:Oper} {s u:ByteArray} {l h:Int} (hx:sub s l h=some u) (hc:yM P E o=some (s,l,h):=by kernel_rfl):Bg P E o=some (.one<|.str u):=by
 unfold yM at hc;split at hc
 ·rename_i t a lo hi ho;split at hc
  ·rename_i s' h1 h2;split at hc
   ·rename_i l' h' h3 h4
    injection hc with hc
    injection hc with c b
    injection b with b d
    subst c b d;obtain⟨k1,h3⟩:=QY h3;obtain⟨k2,h4⟩:=QY h4;exact AD5 hx ho (VT h1) (Ls h2) h3 h4
   cases hc
  cases hc
 cases hc
section
variable {x:α}
def AAP (P:Program) (E:St) (o:Oper):Option (ByteArray×ByteArray):=match o.op with
 | .binOp .add t x y _=>match Xx P E t x,Xx P E t y with
  |some a,some b=>some (a,b)
  |_,_=>none
 |_=>none
end
theorem Fc {o:Oper} {a b u:ByteArray} (hx:Ic a b=some u) (hc:AAP P E o=some (a,b):=by kernel_rfl):Bg P E o=some (.one<|.str u):=by
 unfold AAP at hc;split at hc
 ·rename_i t x y t' ho;split at hc
  ·rename_i a' b' h1 h2
   injection hc with hc
   injection hc with c d
   subst c d;exact AEa hx ho (Ls h1)<|Ls h2
  cases hc
 cases hc
section
variable {x:α}
def Rw (o:Oper):TypeId×TypeId×Operand:=match o.op with
 | .convert s d x=>(s,d,x)
 |_=>(0,0,.tmp 0)
end
section
variable {x:α}
def AEo (P:Program) (o:Oper):Bool:=match o.op with
 | .convert s d x=>(match P.underlying s,P.underlying d with
  |some (.slice e),some .string=>(match P.underlying e with
   |some (.int .u8)=>true
   |_=>false)
  |_,_=>false)
 |_=>false
end
theorem lN {o:Oper} {f:Int->List TV} (hf:∀n,f n=[.int .u8 n]) (l:List Int) (hr:fI E (Rw o).2.2 1=some (AI f l):=by kernel_rfl) (ho:AEo P o=true:=by kernel_rfl):Bg P E o=some (.one<|.str<|Fl l):=by
 obtain⟨r,q,j,b,e',h3,h4⟩:=Qu hr;unfold AEo at ho;split at ho
 ·rename_i s d x a;split at ho
  ·rename_i e hs hd;split at ho
   ·rename_i he;simp only[Rw,a]at h3;exact AEW hf l a hs hd he h3 h4
   cases ho
  cases ho
 cases ho
section
variable {x:α}
def yV (P:Program) (E:St) (o:Oper) (k:IntKind):Option (Int×Int):=match o.op with
 | .binOp .shl t x y _=>match E.cell1 P t x,E.cell1 P t y with
  |some (.int k' a),some (.int _ b)=>bif decide (k'=k)then some (a,b)else none
  |_,_=>none
 |_=>none
end
theorem AEO {o:Oper} {a b v:Int} (hx:shl k a b=some v) (hc:yV P E o k=some (a,b):=by kernel_rfl):Bg P E o=some (.one<|.int k v):=by
 unfold yV at hc;split at hc
 ·rename_i t x y t' ho;split at hc
  ·rename_i k' a' k2 b' h1 h2
   cases hk:decide (k'=k)with
   |false=>grind
   |true=>
    rw[hk]at hc;simp only[Ae]at hc
    injection hc with hc
    injection hc with hc1 hc2
    have:=HR hk;subst hc1 hc2 this;exact AD6 hx ho h1 h2
  cases hc
 cases hc
section
variable {x:α}
def PV (o:Oper):TypeId×Operand×Option Operand×Option Operand:=match o.op with
 | .slice t x lo hi none=>(t,x,lo,hi)
 |_=>(0,.tmp 0,none,none)
end
section
variable {x:α}
def AB6 (o:Oper):Bool:=match o.op with
 | .slice t x lo hi none=>true
 |_=>false
end
theorem uP {o:Oper} (h:AB6 o=true):o.op= .slice (PV o).1 (PV o).2.1 (PV o).2.2.1 (PV o).2.2.2 none:=by
 unfold AB6 at h;unfold PV
 grind
def tT (E:St) (x:Operand) (sz:Nat):Option (Nat×List TV):=match E.ref x with
 |some (r,q,j)=>match E.place r q j with
  |some (.sl false e s cells)=>bif Nat.beq s sz then some (e,cells)else none
  |_=>none
 |none=>none
theorem ZB {x:Operand} {a:List TV} (h:tT E x sz=some (e,a)):∃r q j,E.ref x=some (r,q,j)/\E.place r q j=some (.sl false e sz a):=by
 unfold tT at h;split at h
 ·rename_i r q j hr;split at h
  ·rename_i e' s cells' hp
   cases hs:Nat.beq s sz with
   |false=>rw[hs]at h;cases h
   |true=>
    rw[hs]at h;simp only[Ae]at h
    injection h with h
    injection h with h1 h2
    have:=Bl hs
    grind
  cases h
 cases h
section
variable {o:Oper} {x:α}
theorem pdr (hf:∀x,(f x).length=sz) {v:List α} {a b:Int} (e:Nat) (hx:dr l a b=some v) (hr:tT E (PV o).2.1 sz=some (e,AI f l):=by kernel_rfl) (ha:gK P E 0 (PV o).2.2.1=some a:=by kernel_rfl) (hb:((PV o).2.2.2.bind<|TQ P E)=some b:=by kernel_rfl) (ho:(AB6 o&&W6 P (PV o).1 sz)=true:=by kernel_rfl):Bg P E o=some (.one<|.sl false e sz<|AI f v):=by
 rw[Aj]at ho;obtain⟨r,q,j,h1,h2⟩:=ZB hr;obtain⟨e1,h6,h7,h8⟩:=Mb ho.2;obtain⟨k1,h3⟩:=QY ha;obtain⟨oh,h4,h5⟩:=An.1 hb;obtain⟨k2,h5⟩:=I7 h5;have:=uP ho.1;rw[h4]at this;exact AEV hf hx this h6 h1 h2 h3 h5 h7 h8
end
section
variable {o:Oper} {x:α}
theorem ADj (hf:∀x,(f x).length=sz) {v:List α} {a:Int} (e:Nat) (hx:dr l a (ln l)=some v) (hr:tT E (PV o).2.1 sz=some (e,AI f l):=by kernel_rfl) (ha:gK P E 0 (PV o).2.2.1=some a:=by kernel_rfl) (ho:(AB6 o&&W6 P (PV o).1 sz&&(PV o).2.2.2.isNone)=true:=by kernel_rfl):Bg P E o=some (.one<|.sl false e sz<|AI f v):=by
 simp only[Aj]at ho;obtain⟨r,q,j,h1,h2⟩:=ZB hr;obtain⟨e1,h6,h7,h8⟩:=Mb ho.1.2;obtain⟨k1,h3⟩:=QY ha;have:=uP ho.1.1;rw[Option.isNone_iff_eq_none.1 ho.2]at this;exact AD9 hf hx this h6 h1 h2 h3 h7 h8
end
def AD0 (P:Program) (E:St) (o:Oper) (m:Nat):Bool:=match P.underlying (FT o).1 with
 |some (.array len e)=>wG o&&Nat.beq (P.cellsOf e) 1&&Nat.blt m len&&(match E.ptr? (FT o).2.1 with
  |some (r,q,j)=>(E.place r q<|j+m).isSome
  |none=>false)
 |_=>false
def ACC (E:St) (o:Oper) (m:Nat):SV:= .one (.ptr (H8 E (FT o).2.1).1 (E.stamp (H8 E (FT o).2.1).1 (H8 E (FT o).2.1).2.1) (H8 E (FT o).2.1).2.1<|(H8 E (FT o).2.1).2.2+m)
theorem pxa {o:Oper} (m:Nat) (hn:n=(m:Int)) (hi:TQ P E (FT o).2.2=some n:=by kernel_rfl) (ho:AD0 P E o m=true:=by kernel_rfl):Bg P E o=some (ACC E o m):=by
 unfold AD0 at ho;split at ho
 ·rename_i len e ht;simp only[Aj]at ho;obtain⟨⟨⟨h1,h2⟩,h3⟩,h4⟩:=ho;obtain⟨k,hi⟩:=I7 hi;split at h4
  ·rename_i r q j hp;have:=AEQ r q j hn (jV h1) ht hi hp (Bl h2) h3 h4;rw[this];simp only[ACC,H8,hp,Bi]
  cases h4
 cases ho
section
variable {x:α}
def ET (o:Oper):TypeId×TypeId×Operand×Operand:=match o.op with
 | .call c=>match c.callee,c.args.toList,c.argTypes.toList with
  | .builtin .append,[s,x],[t,t']=>(t,t',s,x)
  |_,_,_=>(0,0,.tmp 0,.tmp 0)
 |_=>(0,0,.tmp 0,.tmp 0)
end
section
variable {x:α}
def AAu (o:Oper):Bool:=match o.op with
 | .call c=>match c.callee,c.args.toList,c.argTypes.toList with
  | .builtin .append,[s,x],[t,t']=>true
  |_,_,_=>false
 |_=>false
end
theorem jW {o:Oper} (h:AAu o=true):o.op= .call {callee:= .builtin .append,args:= #[(ET o).2.2.1,(ET o).2.2.2],argTypes:= #[(ET o).1,(ET o).2.1]}:=by
 unfold AAu at h;unfold ET;split at h
 ·rename_i c hc;split at h
  ·rename_i s x t t' h1 h2 h3;obtain⟨callee,args,types⟩:=c;simp only at h1 h2 h3;subst h1;obtain rfl:args= #[s,x]:=by grind
   obtain rfl:types= #[t,t']:=by grind
   rw[hc]
  cases h
 cases h
def ACo (P:Program) (N:Nat) (o:Oper) (sz by_:Nat):Bool:=AAu o&&Nat.beq (ET o).1 (ET o).2.1&&W6 P (ET o).1 sz&&(LZ P<|Yq P (ET o).1).isSome&&Nat.beq (P.bytesOf<|Yq P (ET o).1) by_&&Nat.blt 0 by_&&Gz N o
def TY (P:Program) (E:St) (o:Oper) (sz:Nat):Option (List TV×St):=match E.cell1 P (ET o).1 (ET o).2.2.1 with
 |some sv=>match DK E sv with
  |some (.sl true e s cells,E1)=>bif Nat.beq e (Yq P (ET o).1)&&Nat.beq s sz then some (cells,E1)else none
  |_=>none
 |none=>none
def apE (P:Program) (E:St) (o:Oper) (sz:Nat):St:=((TY P E o sz).map Prod.snd).getD E
def apV (P:Program) (o:Oper) (sz:Nat) (a:List TV):SV:= .one (.sl true (Yq P (ET o).1) sz a)
def AAZ (P:Program) (E1:St) (o:Oper) (sz:Nat):Option (Nat×List TV×St):=match E1.ref (ET o).2.2.2 with
 |some (r,q,j)=>match E1.place r q j with
  |some (.sl _ _ s cells)=>bif Nat.beq s sz then(match Fy E1 (Vy E1 r (q++ [j]) 0 cells)with
   |some (news,E2)=>some (cells.length,news,E2)
   |none=>none)else none
  |_=>none
 |none=>none
theorem YK {e:TypeId} (h:P.underlying t=some (.slice e)):Yq P t=e:=by unfold Yq;rw[h]
section
variable {o:Oper} {x:α}
theorem AEm {E2:St} {r:Root} {e2:Nat} {cells2:List TV} (hf:∀x,(f x).length=sz) (l m:List α) (h:ap by_ l m=some u) (hd:TY P E o sz=some (AI f l,E1)) {b:Bool} (hr:E1.ref (ET o).2.2.2=some (r,q,j)) (hp:E1.place r q j=some (.sl b e2 sz cells2)) (hn:Fy E1 (Vy E1 r (q++ [j]) 0 cells2)=some (AI f m,E2)) (hl:cells2.length=m.length*sz) (ho:ACo P N o sz by_=true):CB P N false E o=some (E2.put o.dst (apV P o sz (AI f u))):=by
 obtain⟨rfl,i⟩:=ACn h;simp only[ACo,Aj]at ho;obtain⟨⟨⟨⟨⟨⟨a1,a2⟩,a3⟩,a4⟩,a5⟩,a6⟩,a7⟩:=ho;obtain⟨d,a8,_,a9⟩:=ES a7;obtain⟨e,b1,b2,b3⟩:=Mb a3;have a:=YK b1;rw[a]at a4 a5;have h0':0<sz:=by simp_all
 have hb0':0<by_:=by simp_all
 have hb:=Bl a5;have c:=Bl a2;unfold TY at hd;rw[a]at hd;split at hd
 ·rename_i sv hs;split at hd
  ·rename_i e1 s g E1' h1
   cases hc:(Nat.beq e1 e&&Nat.beq s sz)with
   |false=>grind
   |true=>
    rw[hc]at hd;simp only[Ae]at hd
    injection hd with hd
    injection hd with hd1 hd2
    rw[Aj]at hc;have c1:=Bl hc.1;have c2:=Bl hc.2;subst hd1 hd2 c1 c2;have k:(AI f l).length/s=l.length:=by rw[ER hf];simp_all
    have n:cells2.length/s=m.length:=by simp_all
    have p:l.length+m.length<=(l.length+m.length)*by_:=Nat.le_mul_of_pos_right _ hb0';unfold CB;rw[a8];simp only[Az a9,jW a1,Az c,NG,b1,hs,h1,hr,hp,hn];rw[Az ⟨trivial,b2.symm,trivial,h0',a4,by omega,by grind⟩,S9,apV,a]
  cases hd
 cases hd
end
theorem UO {o:Oper} {a:List TV} (h:(TY P E o sz).map Prod.fst=some a):TY P E o sz=some (a,apE P E o sz):=by
 unfold apE
 cases hx:TY P E o sz with
 |none=>grind
 |some z=>grind
section
variable {o:Oper} {x:α}
theorem Cl {m:List α} (hf:∀x,(f x).length=sz) (hg:∀x,J4 (f x)=true) (l:List α) (h:ap by_ l m=some u) (hd:(TY P E o sz).map Prod.fst=some (AI f l):=by kernel_rfl) (hm:fI (apE P E o sz) (ET o).2.2.2 sz=some (AI f m):=by kernel_rfl) (ho:ACo P N o sz by_=true:=by kernel_rfl):
  CB P N false E o=some ((apE P E o sz).put o.dst<|apV P o sz<|AI f u):=by
 obtain⟨r,q,j,a,e,h1,h2⟩:=Qu hm;exact AEm hf l m h (UO hd) h1 h2 (by rw[Zq _<|U6 hg m,Rs<|U6 hg m]) (ER hf m) ho
end
section
variable {o:Oper} {x:α}
theorem WY (hf:∀x,(f x).length=sz) (l m:List α) (h:ap by_ l m=some u) (hd:(TY P E o sz).map Prod.fst=some (AI f l):=by kernel_rfl) (hm:(AAZ P (apE P E o sz) o sz).map (λz=>(z.1,z.2.1))=some (m.length*sz,AI f m):=by kernel_rfl) (ho:ACo P N o sz by_=true:=by kernel_rfl):
  CB P N false E o=some ((((AAZ P (apE P E o sz) o sz).map λz=>z.2.2).getD E).put o.dst<|apV P o sz<|AI f u):=by
 have hd':=UO hd;generalize hE:apE P E o sz=E1 at hm hd'⊢;unfold AAZ at hm⊢
 cases hr:E1.ref (ET o).2.2.2 with
 |none=>grind
 |some z=>
  obtain⟨r,q,j⟩:=z;simp only[hr]at hm⊢
  cases hp:E1.place r q j with
  |none=>grind
  |some t=>
   simp only[hp]at hm⊢
   cases t with
   |sl own e2 s cells=>
    simp only at hm⊢
    cases hb:Nat.beq s sz with
    |false=>grind
    |true=>
     rw[hb]at hm;simp only[Ae]at hm⊢;have:=Bl hb;subst this
     cases hn:Fy E1 (Vy E1 r (q++ [j]) 0 cells)with
     |none=>grind
     |some y=>
      obtain⟨news,E2⟩:=y;simp only[hn,Bx]at hm⊢
      injection hm with hm
      injection hm with hm1 hm2
      subst hm2;exact AEm hf l m h hd' hr hp hn hm1 ho
   |_=>grind
end
def ACX (P:Program) (N:Nat) (o:Oper):Bool:=AAu o&&W6 P (ET o).1 1&&gC P (ET o).2.1&&!Nat.beq (ET o).1 (ET o).2.1&&ABZ P (Yq P (ET o).1)&&Gz N o
section
variable {o:Oper}
theorem rY {f:Int->List TV} {b:ByteArray} {u:List Int} (hf:∀n,f n=[.int .u8 n]) (l:List Int) (h:aps l b=some u) (hd:(TY P E o 1).map Prod.fst=some (AI f l):=by kernel_rfl) (hx:Xx P E (ET o).2.1 (ET o).2.2.2=some b:=by kernel_rfl) (ho:ACX P N o=true:=by kernel_rfl):
  CB P N false E o=some ((apE P E o 1).put o.dst<|apV P o 1<|AI f u):=by
 have hd':=UO hd;simp only[ACX,Aj,CF]at ho;obtain⟨⟨⟨⟨⟨a1,a2⟩,a3⟩,a4⟩,a5⟩,a6⟩:=ho;obtain⟨d,a8,_,a9⟩:=ES a6;obtain⟨e,b1,b2,b3⟩:=Mb a2;have a:=YK b1;have c:=VT a3;have g:=Ls hx;have hne':(ET o).1≠(ET o).2.1:=by grind
 rw[a]at a5;unfold aps at h;split at h
 case isFalse=>cases h
 rename_i hb
 injection h with h
 subst h;have hl:(AI f l).length=l.length:=by rw[ER (sz:=1) (λn=>by rw[hf];rfl),eC]
 generalize hE:apE P E o 1=E1 at hd'⊢;unfold TY at hd';rw[a]at hd';split at hd'
 ·rename_i sv hs;split at hd'
  ·rename_i e1 s i E1' h1
   cases hc:(Nat.beq e1 e&&Nat.beq s 1)with
   |false=>grind
   |true=>
    rw[hc]at hd';simp only[Ae]at hd'
    injection hd' with hd'
    injection hd' with hd1 hd2
    rw[Aj]at hc;have c1:=Bl hc.1;have c2:=Bl hc.2;subst hd1 hd2 c1 c2;unfold CB;rw[a8];simp only[Az a9,jW a1,Av hne',Rb,b1,c,hs,g,h1];rw[Az ⟨trivial,trivial,a5,by rw[hl];exact hb⟩,Xw hf,S9,apV,a]
  cases hd'
 cases hd'
end
def TP (o:Oper):TypeId×Operand×Operand:=match o.op with
 | .makeSlice t l c=>(t,l,c)
 |_=>(0,.tmp 0,.tmp 0)
def ADr (o:Oper):Bool:=match o.op with
 | .makeSlice .. =>true
 |_=>false
theorem AB2 {o:Oper} (h:ADr o=true):o.op= .makeSlice (TP o).1 (TP o).2.1 (TP o).2.2:=by
 unfold ADr at h;unfold TP
 grind
def AEe (P:Program) (N:Nat) (o:Oper) (sz by_:Nat):Bool:=ADr o&&W6 P (TP o).1 sz&&Nat.beq (P.bytesOf<|Yq P (TP o).1) by_&&Gz N o
section
variable {o:Oper} {x:α}
theorem fmk (hf:∀x,(f x).length=sz) (z:α) (h:mk by_ z n=some u) (hl:TQ P E (TP o).2.1=some n:=by kernel_rfl) (hc:TQ P E (TP o).2.2=some n:=by kernel_rfl) (hz:LZ P (Yq P (TP o).1)=some (f z):=by kernel_rfl) (ho:AEe P N o sz by_=true:=by kernel_rfl):
  CB P N false E o=some (E.put o.dst<|.one<|.sl true (Yq P (TP o).1) sz<|AI f u):=by
 simp only[AEe,Aj]at ho;obtain⟨⟨⟨a1,a2⟩,a3⟩,a4⟩:=ho;obtain⟨d,a5,a6,_⟩:=ES a4;obtain⟨e,b1,b2,b3⟩:=Mb a2;have a:=YK b1;rw[a]at hz a3⊢;obtain⟨k1,hl⟩:=I7 hl;obtain⟨k2,hc⟩:=I7 hc;rw[a5];exact AEM z h (AB2 a1) a5 a6 b1 hl hc hz rfl (Bl a3) b2
end
def ADq (o:Oper):Bool:=match o.op with
 | .convert .. =>true
 |_=>false
theorem AB1 {o:Oper} (h:ADq o=true):o.op= .convert (Rw o).1 (Rw o).2.1 (Rw o).2.2:=by
 unfold ADq at h;unfold Rw
 grind
def AD2 (P:Program) (N:Nat) (o:Oper):Bool:=ADq o&&gC P (Rw o).1&&W6 P (Rw o).2.1 1&&nU P (Yq P (Rw o).2.1)&&Gz N o
theorem fsb {o:Oper} {f:Int->List TV} {b:ByteArray} (hf:∀n,f n=[.int .u8 n]) (hx:Xx P E (Rw o).1 (Rw o).2.2=some b) (ho:AD2 P N o=true:=by kernel_rfl):CB P N false E o=some (E.put o.dst<|.one<|.sl false (Yq P (Rw o).2.1) 1<|AI f<|qG b):=by
 simp only[AD2,Aj]at ho;obtain⟨⟨⟨⟨a1,a2⟩,a3⟩,a4⟩,a5⟩:=ho;obtain⟨d,a6,a7,_⟩:=ES a5;obtain⟨e,b1,b2,b3⟩:=Mb a3;have a:=YK b1;rw[a]at a4⊢;rw[a6];exact AEL hf (AB1 a1) a6 a7 (VT a2) b1 (Ls hx) a4
section
variable {x:α}
def RG (o:Oper):TypeId×Operand×Operand:=match o.op with
 | .store t a x=>(t,a,x)
 |_=>(0,.tmp 0,.tmp 0)
end
def ADp (o:Oper):Bool:=match o.op with
 | .store .. =>o.dst.isNone
 |_=>false
theorem AB0 {o:Oper} (h:ADp o=true):o.op= .store (RG o).1 (RG o).2.1 (RG o).2.2/\o.dst=none:=by
 unfold ADp at h;unfold RG;split at h
 ·simp_all
 cases h
def W4 (P:Program) (E:St) (o:Oper):Option (List TV×St):=match E.val P (RG o).1 (RG o).2.2 with
 |some s=>MW E s
 |none=>none
def yP (P:Program) (E:St) (o:Oper):List TV:=((W4 P E o).map Prod.fst).getD []
def qA (P:Program) (E:St) (o:Oper):St:=((W4 P E o).map Prod.snd).getD E
def stP (P:Program) (E:St) (o:Oper):Root×List Nat×Nat:=H8 (qA P E o) (RG o).2.1
def vD (P:Program) (E:St) (o:Oper) (k sz:Nat):Bool:=ADp o&&(W4 P E o).isSome&&Nat.beq (yP P E o).length (P.cellsOf (RG o).1)&&Nat.blt 0 (yP P E o).length&&Nat.ble (k+(yP P E o).length) sz
section
variable {o:Oper} {x:α}
theorem AEi {r:Root} (hf:∀x,(f x).length=sz) (hx:gi l n=some x) (k:Nat) {c:Nat} {cs cs':List TV} (ho:vD P E o k sz=true) (hp:(qA P E o).ptr? (RG o).2.1=some (r,c::q,n.toNat*sz+k)) (hr:(qA P E o).root r=some cs) (A:At cs (c::q) (AI f l) (λa=>setRow a (n.toNat*sz+k) (yP P E o)) cs'):CB P N false E o=some (((qA P E o).setRoot r cs').bump r):=by
 simp only[vD,Aj]at ho;obtain⟨⟨⟨⟨a1,a2⟩,a3⟩,a4⟩,a5⟩:=ho;obtain⟨b1,b2⟩:=AB0 a1;have ht:W4 P E o=some (yP P E o,qA P E o):=by
  unfold yP qA
  cases hh:W4 P E o with
  |none=>grind
  |some z=>rfl
 generalize hX:yP P E o=xs at*;generalize hE:qA P E o=E1 at*;unfold W4 at ht;split at ht
 ·rename_i s hs;have h0':0<xs.length:=by simp_all
  simp only[CB,b2,b1,Wi,hs,ht,hp,hr,A.c];rw[Az ⟨A.o,Bl a3,h0',ADw hf hx a5⟩,Av (by simp),A.u]
 cases ht
end
section
variable {o:Oper}
def ABC (E:St) (r:Root) (c:Nat) (a:List TV):List TV:=match E.root r with
 |some cs=>match cs[c]? with
  |some (.sl o e s _)=>cs.set c<|.sl o e s a
  |_=>cs
 |none=>[]
end
def Sg (E:St) (r:Root) (c:Nat):Option (List TV):=match E.root r with
 |some cs=>match cs[c]? with
  |some (.sl true e s row)=>some row
  |_=>none
 |none=>none
theorem Sf {r:Root} {c:Nat} {a:List TV} (h:Sg E r c=some a):∃cs e s,E.root r=some cs/\cs[c]?=some (.sl true e s a)/\∀row',ABC E r c row'=cs.set c (.sl true e s row'):=by
 unfold Sg at h;unfold ABC
 grind
section
variable {o:Oper} {x:α}
theorem Kr (hf:∀x,(f x).length=sz) (hx:gi l n=some x) (k c:Nat) (z:α) (ho:vD P E o k sz=true:=by kernel_rfl) (hp:(qA P E o).ptr? (RG o).2.1=some ((stP P E o).1,[c],n.toNat*sz+k):=by kernel_rfl) (hr:Sg (qA P E o) (stP P E o).1 c=some (AI f l):=by kernel_rfl) (hz:setRow (f x) k (yP P E o)=f z:=by kernel_rfl):CB P N false E o=some (((qA P E o).setRoot (stP P E o).1<|ABC (qA P E o) (stP P E o).1 c<|AI f<|si l n z).bump (stP P E o).1):=by
 obtain⟨cs,e,s,h1,h2,h3⟩:=Sf hr;refine AEi hf hx k ho hp h1 ?_;rw[h3];have hk:Nat.ble (k+(yP P E o).length) sz=true:=by
  simp only[vD,Aj]at ho;exact ho.2
 exact At.one (W7 hf hx hk hz) h2 rfl
end
section
variable {o:Oper} {x:α}
theorem AEh (hf:∀x,(f x).length=sz) (hx:gi l n=some x) (k c:Nat) (z:α) (hf':∀x,(f' x).length=sz') (hx':gi l' n'=some x') (k':Nat) (z':α') (ho:(vD P E o k sz&&Nat.blt k' sz')=true:=by kernel_rfl) (hp:(qA P E o).ptr? (RG o).2.1=some ((stP P E o).1,[c,n'.toNat*sz'+k'],n.toNat*sz+k):=by kernel_rfl) (hr:Sg (qA P E o) (stP P E o).1 c=some (AI f' l'):=by kernel_rfl) (hz:setRow (f x) k (yP P E o)=f z:=by kernel_rfl) (hc:(f' x')[k']?=some (.sl true e s<|AI f l):=by rfl) (hc':(f' x').set k' (.sl true e s<|AI f<|si l n z)=f' z':=by rfl):CB P N false E o=some (((qA P E o).setRoot (stP P E o).1<|ABC (qA P E o) (stP P E o).1 c<|AI f'<|si l' n' z').bump (stP P E o).1):=by
 obtain⟨cs,e1,s1,h1,h2,h3⟩:=Sf hr;rw[Aj]at ho;refine AEi hf hx k ho.1 hp h1 ?_;rw[h3];have hk:Nat.ble (k+(yP P E o).length) sz=true:=by
  have:=ho.1;simp only[vD,Aj]at this;exact this.2
 exact AEy hf' hx' (At.one (W7 hf hx hk hz) hc hc') ho.2 h2 rfl
end
theorem KB.o {ops:Array Oper} {ts dn:List Nat} (mv:Bool) (h:KW P N ops ts (i::dn) ((CB P N mv E (oA ops i)).getD E) Q) (hs:(CB P N mv E (oA ops i)).isSome=true:=by kernel_rfl) (hk:(R6 P ops E i&&(kp (oA ops i)||ts.contains i))=true:=by kernel_rfl):KB P N ops ts dn i E Q:=FL (getD_some hs) h hk
def bits:Nat->List (TypeId×Operand)->List (Bool×TypeId×Operand)
 |_,[]=>[]
 |m,(t,x)::l=>(Nat.beq (m %2) 1,t,x)::bits (m/2) l
def PW (o:Oper):Nat:=match o.op with
 | .call c=>match c.callee with
  | .value (.func f)=>f
  |_=>0
 |_=>0
def GD (o:Oper):List (TypeId×Operand):=match o.op with
 | .call c=>c.argTypes.toList.zip c.args.toList
 |_=>[]
def TC (P:Program) (N:Nat) (o:Oper):Bool:=(match o.op with
 | .call c=>match c.callee with
  | .value (.func f)=>Nat.beq c.argTypes.size c.args.size&&(match P.funcs[f]? with
   | some fn => !(fn.name == "runtime.NumGoroutine") && !fn.body.isNone
   |none=>false)
  |_=>false
 |_=>false)&&(match o.dst with
 |some d=>Nat.blt d N
 |none=>true)
theorem PY:∀{l:List (TypeId×Operand)} {m:Nat},(bits m l).map (λx=>x.2.2)=l.map Prod.snd
 |[],m=>rfl
 |(t,x)::l,m=>by simp only[bits,BJ,PY]
theorem Pa {o:Oper} (h:TC P N o=true):∃args tys,o.op= .call {callee:= .value (.func<|PW o),args:=args,argTypes:=tys}/\dZ P (PW o)/\(∀d,o.dst=some d->d<N)/\(GD o).map Prod.snd=args.toList:=by
 simp only[TC,Aj]at h;obtain⟨h1,h2⟩:=h;have hN:∀d,o.dst=some d->d<N:=by
  intro d hd;simp_all
 unfold PW GD;split at h1
 ·rename_i c hc;split at h1
  ·rename_i f a;rw[Aj]at h1;obtain⟨h3,h4⟩:=h1;split at h4
   ·rename_i fn b;simp only[Aj,CF]at h4;obtain⟨callee,args,types⟩:=c;simp only at a h3;subst a;have hz:=Bl h3;refine⟨args,types,by simp only[hc],?_,hN,?_⟩
    ·exact⟨fn,b,by grind,h4.2⟩
    exact List.map_snd_zip<|by simp[hz]
   cases h4
  cases h1
 cases h1
def mvA (P:Program) (E:St) (o:Oper) (m:Nat):Option (List (Option SV)×St):=Na P E<|bits m<|GD o
def clE (P:Program) (E:St) (o:Oper) (m:Nat):St:=((mvA P E o m).map Prod.snd).getD E
def shA (P:Program) (E:St) (o:Oper) (m:Nat):Option (List AV×Bool):=match mvA P E o m with
 |some (ss,E1)=>Jp P E1 (bits m<|GD o) ss
 |none=>none
def cO (P:Program) (E:St) (o:Oper) (m:Nat):Option (List AV):=(shA P E o m).map Prod.fst
def shB (P:Program) (E:St) (o:Oper) (m:Nat):Bool:=match shA P E o m with
 |some (_,b)=>b
 |none=>false
theorem AAJ {o:Oper} {a:SV} (h:cO P E o m=some as) (hc:shB P E o m=true\/Bb a=false):YM P E o.dst (bits m (GD o)) as a ((clE P E o m).put o.dst a):=by
 unfold cO shB shA at*;unfold clE
 cases hm:mvA P E o m with
 |none=>grind
 |some z=>
  obtain⟨ss,E1⟩:=z;rw[hm]at h hc;simp only at h hc
  cases hs:Jp P E1 (bits m<|GD o) ss with
  |none=>grind
  |some y=>
   obtain⟨as',c⟩:=y;rw[hs]at h hc;simp only[Bx]at h hc
   injection h with h
   subst h;exact⟨ss,E1,c,hm,hs,hc,rfl⟩
theorem ca {γ:Type _} {l l':List γ} {a b:γ} (h:a=b) (k:l=l'):a::l=b::l':=by rw[h,k]
theorem cs {a b:List TV} (h:BC a=b):TV.sl false e sz (BC a)= .sl false e sz b:=by rw[h]
theorem co {a b:TV} (h:a=b):AV.sv (.one a)= .sv (.one b):=by rw[h]
theorem Pb {a b:List TV} (h:a=b):AV.sv (.agg a)= .sv (.agg b):=by rw[h]
theorem RW.c {l:List AV} {n:Nat} {x:Option α} (m:Nat) (h:x.bind kk=some r) {enc:α->SV} (a:∀v,x=some v->A9 P (PW (oA ops i)) l (enc v) (List.replicate n .gone)) (hk:∀v,x=some v->kk v=some r->RW P N ops (i+1) ((clE P E (oA ops i) m).put (oA ops i).dst (enc v)) Q) (b:cO P E (oA ops i) m=some l:=by kernel_rfl) (hc:shB P E (oA ops i) m=true\/∀v,Bb (enc v)=false:=by exact .inl<|by kernel_rfl) (ho:(R6 P ops E i&&TC P N (oA ops i))=true:=by kernel_rfl):RW P N ops i E Q:=by
 obtain⟨v,hv,h⟩:=An.1 h;rw[Aj]at ho;obtain⟨h1,h2⟩:=HQ ho.1;obtain⟨args,tys,h3,h4,h5,h6⟩:=Pa ho.2;unfold RW;rw[GN h1];exact He.call h3 h4 h2 h5 (bits m<|GD<|oA ops i) (by rw[PY,h6]) (a v hv) (AAJ b<|hc.imp id λh=>h v)<|hk v hv h
section
variable {ts:List Nat}
theorem KB.c {l:List AV} {n:Nat} {x:Option α} (m:Nat) (h:x.bind kk=some r) {enc:α->SV} (a:∀v,x=some v->A9 P (PW (oA ops i)) l (enc v) (List.replicate n .gone)) (hk:∀v,x=some v->kk v=some r->KW P N ops ts (i::dn) ((clE P E (oA ops i) m).put (oA ops i).dst (enc v)) Q) (b:cO P E (oA ops i) m=some l:=by kernel_rfl) (hc:shB P E (oA ops i) m=true\/∀v,Bb (enc v)=false:=by exact .inl<|by kernel_rfl) (ho:(R6 P ops E i&&TC P N (oA ops i)&&((bits m<|GD<|oA ops i).all (λx=>!x.1)||ts.contains i))=true:=by kernel_rfl):KB P N ops ts dn i E Q:=by
 obtain⟨v,hv,h⟩:=An.1 h;simp only[Aj]at ho;obtain⟨h1,h2⟩:=HQ ho.1.1;obtain⟨args,tys,h3,h4,h5,h6⟩:=Pa ho.1.2;exact g9.call i (IX h1) h3 h4 h2 h5 (bits m<|GD<|oA ops i) (by rw[PY,h6]) ho.2 (a v hv) (AAJ b<|hc.imp id λh=>h v)<|hk v hv h
end
theorem gs {f:FuncId} {l l':List AV} {n:Nat} {x:Option α} {enc:α->SV} (e:l=l') (h:∀v,x=some v->A9 P f l' (enc v) (List.replicate n .gone)):∀v,x=some v->A9 P f l (enc v) (List.replicate n .gone):=e▸h
def oP (E:St) (o:Oper):Root:=match GD o with
 |(_,x)::_=>(H8 E x).1
 |[]=> .hand
def wT (E:St) (o:Oper):Bool:=match GD o with
 |(_,x)::_=>(match E.ptr? x with
  |some (r,[],0)=>r.mem
  |_=>false)
 |[]=>false
def cxA (P:Program) (E:St) (o:Oper):Option (List AV×Bool):=Jp P (E.without<|oP E o) (bits 0 (GD o).tail)<|List.replicate (bits 0 (GD o).tail).length none
def wU (P:Program) (E:St) (o:Oper):Option (List AV):=(cxA P E o).map Prod.fst
def cxB (P:Program) (E:St) (o:Oper):Bool:=match cxA P E o with
 |some (_,b)=>b
 |none=>false
theorem ACS {o:Oper} (h:wT E o=true):∃t x l,GD o=(t,x)::l/\E.ptr? x=some (oP E o,[],0)/\(oP E o).mem=true:=by
 unfold wT at h;unfold oP;split at h
 ·rename_i t x l hl;split at h
  ·rename_i r hp;refine⟨t,x,l,hl,?_,?_⟩
   ·simp only[H8,hp,Bi]
   simpa only[H8,hp,Bi]using h
  cases h
 cases h
theorem AAL {p:Prop} {o:Oper} (h:wU P E o=some as) (hc:cxB P E o=true\/p):∃c,Jp P (E.without (oP E o)) (bits 0 (GD o).tail) (List.replicate (bits 0 (GD o).tail).length none)=some (as,c)/\(c=true\/p):=by
 unfold wU cxB at*
 cases hs:cxA P E o with
 |none=>grind
 |some y=>
  obtain⟨as',c⟩:=y;rw[hs]at h hc;simp only[Bx]at h hc
  injection h with h
  subst h;exact⟨c,hs,hc⟩
theorem AEv {l:List AV} {n:Nat} {x:Option α} (h:x.bind kk=some r) {enc:α->SV} {b:List TV} (e:∀v,x=some v->A9 P (PW (oA ops i)) (.ext b::l) (enc v) (.ext (fin v)::List.replicate n .gone)) (d:∀v,(fin v).length=b.length) (hk:∀v,x=some v->kk v=some r->RW P N ops (i+1) (((E.setRoot (oP E (oA ops i)) (fin v)).bump (oP E (oA ops i))).put (oA ops i).dst (enc v)) Q) (f:wU P E (oA ops i)=some l:=by kernel_rfl) (hb:E.boxes (oP E<|oA ops i)=some b:=by kernel_rfl) (hc:cxB P E (oA ops i)=true\/∀v,Bb (enc v)=false/\AB (fin v)=false:=by exact .inl<|by kernel_rfl) (ho:(R6 P ops E i&&TC P N (oA ops i)&&wT E (oA ops i))=true:=by kernel_rfl):RW P N ops i E Q:=by
 obtain⟨v,hv,h⟩:=An.1 h;simp only[Aj]at ho;obtain⟨h1,h2⟩:=HQ ho.1.1;obtain⟨args,tys,h3,h4,h5,h6⟩:=Pa ho.1.2;obtain⟨t,x0,l0,h7,h8,h9⟩:=ACS ho.2;obtain⟨c,h10,h11⟩:=AAL f hc;unfold RW;rw[GN h1];intro w0 FA UA w a blk FS US hr hF hU;simp only[wpList,Ci hr h2,BO];refine .inl<|oX hr hF hU h3 h4 h5 (x:=x0) (l:=bits 0 (GD<|oA ops i).tail) ?_ h9 h8 hb (d v) h10 (h11.imp id λh=>h v) (e v hv) λw' v' blk' FS' US' k1 k2 k3=>hk v hv h _ _ _ _ _ _ _ _ k1 k2 k3;rw[PY,<-h6,h7];rfl
theorem AEx {ts:List Nat} {l:List AV} {n:Nat} {x:Option α} (h:x.bind kk=some r) {enc:α->SV} {b:List TV} (e:∀v,x=some v->A9 P (PW (oA ops i)) (.ext b::l) (enc v) (.ext (fin v)::List.replicate n .gone)) (d:∀v,(fin v).length=b.length) (hk:∀v,x=some v->kk v=some r->KW P N ops ts (i::dn) (((E.setRoot (oP E (oA ops i)) (fin v)).bump (oP E (oA ops i))).put (oA ops i).dst (enc v)) Q) (f:wU P E (oA ops i)=some l:=by kernel_rfl) (hb:E.boxes (oP E<|oA ops i)=some b:=by kernel_rfl) (hc:cxB P E (oA ops i)=true\/∀v,Bb (enc v)=false/\AB (fin v)=false:=by exact .inl<|by kernel_rfl) (ho:(R6 P ops E i&&TC P N (oA ops i)&&wT E (oA ops i)&&ts.contains i)=true:=by kernel_rfl):KB P N ops ts dn i E Q:=by
 obtain⟨v,hv,h⟩:=An.1 h;simp only[Aj]at ho;obtain⟨h1,h2⟩:=HQ ho.1.1.1;obtain⟨args,tys,h3,h4,h5,h6⟩:=Pa ho.1.1.2;obtain⟨t,x0,l0,h7,h8,h9⟩:=ACS ho.1.2;obtain⟨c,h10,h11⟩:=AAL f hc;intro w0 FA UA w a blk FS US hr hF hU;unfold wpOp;simp only[IX h1,Ci hr h2,BO];refine .inl (oX hr hF hU h3 h4 h5 (x:=x0) (l:=bits 0 (GD<|oA ops i).tail) ?_ h9 h8 hb (d v) h10 (h11.imp id λh=>h v) (e v hv) λw' v' blk' FS' US' k1 k2 k3=>⟨λht=>(by grind),_,_,_,_,hk v hv h,k1,k2,k3⟩);rw[PY,<-h6,h7];rfl
theorem wc {tx ty:Option β} {b:Bool} {c:Operand} {x y:Code} (h:(bif b then tx else ty)=some r) (ht:tx=some r->Wp P N x E Q) (hf:ty=some r->Wp P N y E Q) (hc:E.cell1 P 0 c=some (.bool b):=by kernel_rfl):Wp P N (.cond c x y) E Q:=Wp.c h ht hf hc
theorem wt {c:Operand} {x y:Code} (ht:Wp P N x E Q) (hc:E.cell1 P 0 c=some (.bool true):=by kernel_rfl):Wp P N (.cond c x y) E Q:=AEq ht hc
theorem wf {c:Operand} {x y:Code} (hf:Wp P N y E Q) (hc:E.cell1 P 0 c=some (.bool false):=by kernel_rfl):Wp P N (.cond c x y) E Q:=AEr hf hc
theorem rsz {rs:List ResultVar} {a:SV} (h:(Ea P E rs).map (λz=>EJ z.1)=some a):∃ss E',Ea P E rs=some (ss,E')/\EJ ss=a:=by simp_all
theorem rsx {rt:Root} {rs:List ResultVar} {b:SV} {a:List TV} (h:(Ea P E rs).map (λz=>(EJ z.1,z.2.boxes rt))=some (b,some a)):∃ss E',Ea P E rs=some (ss,E')/\EJ ss=b/\E'.boxes rt=some a:=by simp_all
theorem gkx {f:FuncId} {c:Code} {a cells':List TV} {b:SV} (hf:P.funcs[f]?=some fn) (hb:fn.body=some c) (hN:fn.ntmps=N) (h:Wp P N c (DE (.ext a::as)) λe E=>(e= .normal\/e= .ret)/\∃ss E',Ea P E fn.results.toList=some (ss,E')/\EJ ss=b/\E'.boxes (.ext 0)=some cells') (d:cells'.isEmpty=false:=by rfl):A9 P f (.ext a::as) b (.ext cells'::List.replicate as.length .gone):=wO hf hb (by rw[hN];exact h) d
theorem gk {f:FuncId} {c:Code} {a:SV} (hf:P.funcs[f]?=some fn) (hb:fn.body=some c) (hN:fn.ntmps=N) (h:Wp P N c (DE as) λe E=>(e= .normal\/e= .ret)/\∃ss E',Ea P E fn.results.toList=some (ss,E')/\EJ ss=a):A9 P f as a (List.replicate as.length .gone):=AAA hf hb (by rw[hN];exact h)
theorem qC:∀t:TV,(Ng t).isSl=t.isSl:=by intro t;cases t<;>rfl
theorem Ky:∀(cs:List TV) (j:Nat),(BC cs)[j]?=cs[j]?.map Ng
 |[],j=>by simp[BC]
 |t::ts,0=>by simp[BC]
 |t::ts,j+1=>by simpa[BC]using Ky ts j
theorem XQ:∀(q:List Nat) (cs:List TV),BM (BC cs) q=(BM cs q).map BC
 |[],cs=>rfl
 |c::q,cs=>by
  simp only[BM,Ky]
  cases cs[c]? with
  |none=>rfl
  |some t=>
   cases t with
   |sl o e sz cells=>exact XQ q cells
   |_=>rfl
def rV:TV->List TV->TV
 | .sl _ e s _,row=> .sl false e s row
 |t,_=>t
def aV (cs:List TV) (j:Nat) (a:List TV):List TV:=match cs[j]? with
 |some t=>cs.set j<|rV t a
 |none=>cs
theorem kS {cs:List TV} {a:List TV} (h:cs[j]?=some (.sl true e s a)) (c:Nat):(aV cs j (BC a))[c]?=if c=j then some (.sl false e s (BC a))else cs[c]? :=by
 have hj:=(Ag.1 h).1;simp only[aV,h,rV]
 grind
theorem AAE {r1:List TV} {cs:List TV} {a:List TV} (h:cs[j]?=some (.sl true e s a)) (hq:BM cs q=some r1) (i:Nat):
  ∃r2,BM (aV cs j (BC a)) q=some r2/\(r1[i]?.isSome=true->r2[i]?.isSome=true)/\(Lo r1[i]?=true->Lo r2[i]?=true):=by
 cases q with
 |nil=>
  simp only[BM]at hq
  injection hq with hq
  subst hq;refine⟨_,rfl,?_,?_⟩
  ·rw[kS h]
   grind
  rw[kS h];split
  ·intro _;rfl
  exact id
 |cons c q=>
  simp only[BM,kS h];simp only[BM]at hq;by_cases hc:c=j
  ·subst hc;rw[h]at hq;simp only at hq;rw[Az rfl];simp only[XQ,hq,Bx];refine⟨_,rfl,?_,?_⟩
   ·rw[Ky];simp
   rw[Ky]
   cases r1[i]? with
   |none=>exact id
   |some t=>simp only[Lo,Bx,qC];exact id
  grind
theorem ZE:∀{ts:List TV} {vs:List Value} {F U:List Nat} {j:Nat} {t:TV},Bv w ts vs F U->ts[j]?=some t->F.Nodup->(∀v F1 U1,Cw w t v F1 U1->∃F2 U2,Cw w t' v F2 U2/\Jn F1 U1 F2 U2)->
  ∃F' U',Bv w (ts.set j t') vs F' U'/\Jn F U F' U'
 |[],vs,F,U,j,t,h,hj,_,_=>by simp at hj
 |x::ts,vs,F,U,0,t,h,hj,hn,hk=>by
  simp at hj;subst hj;simp only[Bv]at h;obtain⟨v,a,F1,F2,U1,U2,rfl,rfl,rfl,h1,h2⟩:=h;obtain⟨F1',U1',a1,a2⟩:=hk v F1 U1 h1;exact⟨F1'++F2,U1'++U2,by simp only[DQ,Bv];grind,Td hn a2 Jn.refl⟩
 |x::ts,vs,F,U,j+1,t,h,hj,hn,hk=>by
  simp only[Bv]at h;obtain⟨v,a,F1,F2,U1,U2,rfl,rfl,rfl,h1,h2⟩:=h;obtain⟨F2',U2',a1,a2⟩:=ZE h2 (by simpa using hj) (BP.1 hn).2.1 hk;exact⟨F1++F2',U1++U2',by simp only[N7,Bv];grind,Td hn Jn.refl a2⟩
theorem bJ {a:Act} {blk:Root->Nat}:∀{ts:List TV} {vs:List Value} {F U:List Nat} {j:Nat} {t:TV},CP w a E blk ts vs F U->ts[j]?=some t->F.Nodup->(∀v F1 U1,CN w a E blk t v F1 U1->∃F2 U2,CN w a E blk t' v F2 U2/\Jn F1 U1 F2 U2)->
  ∃F' U',CP w a E blk (ts.set j t') vs F' U'/\Jn F U F' U'
 |[],vs,F,U,j,t,h,hj,_,_=>by simp at hj
 |x::ts,vs,F,U,0,t,h,hj,hn,hk=>by
  simp at hj;subst hj;obtain⟨v,b,F1,F2,U1,U2,rfl,rfl,rfl,h1,h2⟩:=h;obtain⟨F1',U1',a1,a2⟩:=hk v F1 U1 h1;exact⟨F1'++F2,U1'++U2,by rw[DQ];exact⟨v,b,F1',F2,U1',U2,rfl,rfl,rfl,a1,h2⟩,Td hn a2 Jn.refl⟩
 |x::ts,vs,F,U,j+1,t,h,hj,hn,hk=>by
  obtain⟨v,b,F1,F2,U1,U2,rfl,rfl,rfl,h1,h2⟩:=h;obtain⟨F2',U2',a1,a2⟩:=bJ h2 (by simpa using hj) (BP.1 hn).2.1 hk;exact⟨F1++F2',U1++U2',by rw[N7];exact⟨v,b,F1,F2',U1,U2',rfl,rfl,rfl,h1,a1⟩,Td hn Jn.refl a2⟩
def frE (E:St) (r:Root) (j:Nat) (a:List TV):St:=match E.root r with
 |some cs=>E.setRoot r<|aV cs j a
 |none=>E
theorem rU {a:Act} {r:Root} {cs:List TV} {b:List TV} (hr:E.root r=some cs) (hj:cs[j]?=some (.sl true e s b)) (hh:r≠ .hand) (R:Root):Cp w w a a E (E.setRoot r (aV cs j (BC b))) blk blk R:=by
 have d:(E.setRoot r<|aV cs j<|BC b).ver=E.ver:=by cases r<;>rfl
 have f:(E.setRoot r<|aV cs j<|BC b).gen=E.gen:=by cases r<;>rfl
 have g:(aV cs j<|BC b).length=cs.length:=by simp[aV,hj]
 have c:∀cs0,E.root R=some cs0->∃cs1,(E.setRoot r<|aV cs j<|BC b).root R=some cs1/\∀q r1,BM cs0 q=some r1->∀i:Nat,∃r2,BM cs1 q=some r2/\(r1[i]?.isSome=true->r2[i]?.isSome=true)/\(Lo r1[i]?=true->Lo r2[i]?=true):=by
  intro cs0 h0;by_cases hR:R=r
  ·subst hR;rw[hr]at h0
   injection h0 with h0
   subst h0;refine⟨aV cs j<|BC b,?_,λq r1 hq i=>AAE hj hq i⟩
   cases R with
   |slot n=>
    simp only[St.root,St.setRoot,Cg,BO]at hr⊢
    injection hr with hr
    congr 1
    cases hs:E.slots n with
    |one t=>
     rw[hs]at hr;simp only[SV.cells]at hr;subst hr;have:(aV [t] j<|BC b).length=1:=g
     match hf:aV [t] j (BC b),this with
     |[x],_=>rfl
    |agg ts=>rfl
    |tup ss=>
     rw[hs]at hr;simp only[SV.cells]at hr
     grind
   |box n=>simp[St.root,St.setRoot,Cg]
   |ext n=>simp[St.root,St.setRoot,Cg]
   |hand=>exact absurd rfl hh
  refine⟨cs0,?_,λq r1 hq i=>⟨r1,hq,id,id⟩⟩;rw[<-h0];cases r<;>cases R<;>simp only[St.root,St.setRoot,Cg]<;>first
   |exact absurd rfl hh
   |rfl
   |grind
   |(rw[Av];intro e;injection e with e;exact hR<|by rw[e])
   |(rw[Av];intro e;cases e)
 constructor
 ·refine .inr ⟨by rw[d],λq i v h1 h2=>⟨h1,?_⟩,λq i ad hq h1 h2=>⟨h1,?_⟩⟩
  ·unfold St.place at h2⊢
   cases h0:E.root R with
   |none=>rw[h0]at h2;cases h2
   |some cs0=>
    rw[h0]at h2;obtain⟨cs1,k1,k2⟩:=c cs0 h0;simp only[Aa]at h2
    cases hc:BM cs0 q with
    |none=>rw[hc]at h2;cases h2
    |some r1=>
     rw[hc]at h2;obtain⟨r2,k3,_,k4⟩:=k2 q r1 hc i
     grind
  unfold St.place at h2⊢
  cases h0:E.root R with
  |none=>grind
  |some cs0=>
   rw[h0]at h2;obtain⟨cs1,k1,k2⟩:=c cs0 h0;simp only[Aa]at h2
   cases hc:BM cs0 q with
   |none=>grind
   |some r1=>
    rw[hc]at h2;obtain⟨r2,k3,k4,_⟩:=k2 q r1 hc i
    grind
 refine .inr ⟨by rw[f],λi ad h1 h2=>⟨h1,?_⟩⟩;unfold St.place at h2⊢
 cases h0:E.root R with
 |none=>grind
 |some cs0=>
  rw[h0]at h2;obtain⟨cs1,k1,k2⟩:=c cs0 h0;simp only[Aa]at h2;obtain⟨r2,k3,k4,_⟩:=k2 [] cs0 rfl i;rw[k1];simp only[Aa,k3];exact k4 h2
section
variable {w0:Base} {a:Act}
theorem CQ.freeze {r:Root} (h:CQ w0 FA UA N w a E blk FS US) {cs:List TV} {c:List TV} (hr:E.root r=some cs) (hj:cs[j]?=some (.sl true e s c)) (hh:r≠ .hand):
  ∃FS' US',CQ w0 FA UA N w a (E.setRoot r (aV cs j (BC c))) blk FS' US'/\FS' .hand=FS .hand/\US' .hand=US .hand:=by
 have u:=rU (w:=w) (a:=a) (blk:=blk) hr hj hh;have i:aV cs j (BC c)=cs.set j (.sl false e s<|BC c):=by simp only[aV,hj,rV]
 have l:∀v F1 U1,Cw w (.sl true e s c) v F1 U1->∃F2 U2,Cw w (.sl false e s<|BC c) v F2 U2/\Jn F1 U1 F2 U2:=λv F1 U1 h1=>ADc h1<|xV.s rfl
 have x:∃F' U',Jn (FS r) (US r) F' U'/\(∀n,r= .slot n->E7 w a (E.setRoot r<|aV cs j<|BC c) blk ((E.slots n).withCells<|aV cs j<|BC c) (a.eval<|.tmp n) F' U')/\
   (r.mem=true->∃d T F,w.heap[blk r]?=some (.cells d T (0,0))/\Bv w (aV cs j<|BC c) d.toList F U'/\F'=blk r::F):=by
  cases r with
  |slot n=>
   simp only[St.root]at hr
   injection hr with hr
   have hs:=Ii u (h.slot n) (λ_ _=>rfl) λ_ _=>rfl
   cases f:E.slots n with
   |one t=>
    rw[f]at hr hs;simp only[SV.cells]at hr;subst hr;have y:j=0:=by grind
    subst y;simp at hj;subst hj;simp only[E7]at hs;obtain⟨F2,U2,k1,k2⟩:=l _ _ _ hs.1;refine⟨F2,U2,k2,λm hm=>?_,λhm=>by cases hm⟩
    injection hm with hm
    subst hm;rw[f,i];simp only[DQ,SV.withCells,E7];exact⟨k1,λ_=>hs.2 rfl⟩
   |agg ts=>
    rw[f]at hr hs;simp only[SV.cells]at hr;subst hr;simp only[E7]at hs;obtain⟨vs,k0,k1⟩:=hs;obtain⟨F2,U2,k2,k3⟩:=bJ (t':= .sl false e s (BC c)) k1 hj (h.nodup _) l;refine⟨F2,U2,k3,λm hm=>?_,λhm=>by cases hm⟩
    injection hm with hm
    subst hm;rw[f,i];simp only[SV.withCells,E7]
    grind
   |tup ss=>
    rw[f]at hr;simp only[SV.cells]at hr
    grind
  |hand=>exact absurd rfl hh
  |box n=>
   rcases h.box (.box n) rfl with⟨k,_⟩|⟨cs0,d,T,F,k1,k2,k3,k4⟩
   ·simp only[St.root]at hr;grind
   simp only[St.root]at hr;rw[k1]at hr
   injection hr with hr
   subst hr;have g:=h.nodup<|.box n;rw[k4]at g;obtain⟨z,o⟩:=Dj.1 g;obtain⟨F2,U2,k5,k6⟩:=ZE (t':= .sl false e s (BC c)) k3 hj o l;refine⟨blk (.box n)::F2,U2,?_,λm hm=>(by cases hm),λ_=>⟨d,T,F2,k2,by rw[i];exact k5,rfl⟩⟩;rw[k4];refine⟨k6.1.cons_cons _,λb hb=>?_⟩
   rcases k6.2 b hb with q|⟨q1,q2⟩
   ·exact .inl q
   grind
  |ext n=>
   rcases h.box (.ext n) rfl with⟨k,_⟩|⟨cs0,d,T,F,k1,k2,k3,k4⟩
   ·simp only[St.root]at hr;grind
   simp only[St.root]at hr;rw[k1]at hr
   injection hr with hr
   subst hr;have g:=h.nodup<|.ext n;rw[k4]at g;obtain⟨z,o⟩:=Dj.1 g;obtain⟨F2,U2,k5,k6⟩:=ZE (t':= .sl false e s (BC c)) k3 hj o l;refine⟨blk (.ext n)::F2,U2,?_,λm hm=>(by cases hm),λ_=>⟨d,T,F2,k2,by rw[i];exact k5,rfl⟩⟩;rw[k4];refine⟨k6.1.cons_cons _,λb hb=>?_⟩
   rcases k6.2 b hb with q|⟨q1,q2⟩
   ·exact .inl q
   grind
 obtain⟨F',U',hl,h0,h2⟩:=x
 have p:∀b∈F',b∈FS r:=λb hb=>hl.1.subset hb
 refine⟨Cg FS r F',Cg US r U',?_,by rw[Bs λe=>hh e.symm],by rw[Bs λe=>hh e.symm]⟩;have hF:∀R b,b∈Cg FS r F' R->b∈FS R:=by
  intro R b hb;by_cases hR:R=r
  ·subst hR;rw[BK]at hb;exact p b hb
  rw[Bs hR]at hb;exact hb
 have hU:∀R b,b∈Cg US r U' R->b∈US R\/(R=r/\b∈FS r/\b∉F'):=by
  intro R b hb;by_cases hR:R=r
  ·subst hR;rw[BK]at hb
   rcases hl.2 b hb with q|⟨q1,q2⟩
   ·exact .inl q
   grind
  rw[Bs hR]at hb;exact .inl hb
 constructor
 ·intro n;by_cases hn:r= .slot n
  ·subst hn;rw[BK,BK];have:=h0 n rfl;simpa only[St.setRoot,Cg,BO]using this
  rw[Bs λe=>hn e.symm,Bs λe=>hn e.symm];have h1:(E.setRoot r<|aV cs j<|BC c).slots n=E.slots n:=by
   cases r with
   |slot m=>
    simp only[St.setRoot,Cg]
    grind
   |_=>rfl
  rw[h1];exact Ii u (h.slot n) (λ_ _=>rfl) λ_ _=>rfl
 ·intro R hm;by_cases hR:R=r
  ·subst hR;right;obtain⟨d,T,F,k1,k2,k3⟩:=h2 hm;refine⟨_,d,T,F,?_,k1,by rw[BK];exact k2,by rw[BK,k3]⟩
   cases R with
   |slot n=>cases hm
   |hand=>cases hm
   |box n=>simp[St.setRoot,Cg]
   |ext n=>simp[St.setRoot,Cg]
  rw[Bs hR,Bs hR];have h1:(E.setRoot r<|aV cs j<|BC c).boxes R=E.boxes R:=by
   cases r<;>simp only[St.setRoot,Cg]<;>first
    |rfl
    |(rw[Av hR])
  rw[h1];exact h.box R hm
 ·have:(E.setRoot r<|aV cs j<|BC c).boxes .hand=E.boxes .hand:=by
   cases r<;>simp only[St.setRoot,Cg]<;>first
    |exact absurd rfl hh
    |rfl
    |(rw[Av<|by simp])
  rw[this];exact h.nohand
 ·intro R;by_cases hR:R=r
  ·subst hR;rw[BK];exact hl.1.nodup<|h.nodup R
  rw[Bs hR];exact h.nodup R
 ·exact λR S h3 b hb hb'=>h.dis R S h3 b (hF R b hb)<|hF S b hb'
 ·intro R S b hb hb'
  rcases hU S b hb' with q|⟨rfl,q1,q2⟩
  ·exact h.disU R S b (hF R b hb) q
  by_cases hR:R=S
  ·subst hR;rw[BK]at hb;exact q2 hb
  exact h.dis R S hR b (hF R b hb) q1
 ·exact λR b hb=>h.inF R b<|hF R b hb
 ·intro R b hb
  rcases hU R b hb with q|⟨rfl,q1,_⟩
  ·exact h.inU R b q
  obtain⟨q2,q3⟩:=h.inF R b q1
  grind
 ·exact h.disA
 ·exact h.os
 ·exact h.tape
 ·exact h.output
 ·exact h.size
 ·exact h.keep
 ·exact h.len
 ·exact h.nodef
 ·exact h.xblk
 ·rw[Ew];exact h.ambB
 ·rw[Ew];exact h.ambI
 ·rw[Ik];exact h.frz
 ·exact h.ambF
 rw[Ew];exact h.pin
end
theorem AAG {r:Root} (h:Sg E r j=some row):∃cs e s,E.root r=some cs/\cs[j]?=some (.sl true e s row)/\frE E r j (BC row)=E.setRoot r (aV cs j (BC row)):=by
 obtain⟨cs,e,s,h1,h2,_⟩:=Sf h;exact⟨cs,e,s,h1,h2,by unfold frE;rw[h1]⟩
def YA:Root->Bool
 | .hand=>false
 |_=>true
theorem UD {r:Root} (h:YA r=true):r≠ .hand:=by rintro rfl;cases h
theorem RW.fz (r:Root) (j:Nat) (hs:BC row=row') (h:RW P N ops i (frE E r j row') Q) (ho:Sg E r j=some row:=by kernel_rfl) (hh:YA r=true:=by rfl):RW P N ops i E Q:=by
 intro w0 FA UA w a blk FS US hr hF hU;obtain⟨cs,e,s,h1,h2,h3⟩:=AAG ho;obtain⟨FS',US',k1,k2,k3⟩:=hr.freeze h1 h2<|UD hh;rw[<-hs,h3]at h;exact h _ _ _ _ _ _ _ _ k1 (by rw[k2,hF])<|by rw[k3,hU]
theorem KW.fz {ts:List Nat} (r:Root) (j:Nat) (hs:BC row=row') (h:KW P N ops ts dn (frE E r j row') Q) (ho:Sg E r j=some row:=by kernel_rfl) (hh:YA r=true:=by rfl):KW P N ops ts dn E Q:=by
 intro hq hc w0 FA UA w a blk FS US hr hF hU;obtain⟨cs,e,s,h1,h2,h3⟩:=AAG ho;obtain⟨FS',US',k1,k2,k3⟩:=hr.freeze h1 h2<|UD hh;rw[<-hs,h3]at h;exact h hq hc _ _ _ _ _ _ _ _ k1 (by rw[k2,hF])<|by rw[k3,hU]
theorem Wp.fz {c:Code} (r:Root) (j:Nat) (hs:BC row=row') (h:Wp P N c (frE E r j row') Q) (ho:Sg E r j=some row:=by kernel_rfl) (hh:YA r=true:=by rfl):Wp P N c E Q:=by
 intro w0 FA UA w a blk FS US hr hF hU;obtain⟨cs,e,s,h1,h2,h3⟩:=AAG ho;obtain⟨FS',US',k1,k2,k3⟩:=hr.freeze h1 h2<|UD hh;rw[<-hs,h3]at h;exact h _ _ _ _ _ _ _ _ k1 (by rw[k2,hF])<|by rw[k3,hU]
def St.fzs (E:St) (f:Option Nat):St:={E with fz:=f}
theorem p9 {a:Act} {f:Option Nat} (r:Root):Cp w w a a E (E.fzs f) blk blk r:=by
 have hp:∀q j,(E.fzs f).place r q j=E.place r q j:=λq j=>by cases r<;>rfl
 exact⟨.inr ⟨rfl,λq j v h1 h2=>⟨h1,by rw[hp];exact h2⟩,λq j ad _ h1 h2=>⟨h1,by rw[hp];exact h2⟩⟩,.inr ⟨rfl,λj ad h1 h2=>⟨h1,by rw[hp];exact h2⟩⟩⟩
theorem CQ.fzs {w0:Base} {a:Act} (h:CQ w0 FA UA N w a E blk FS US) (f:Option Nat) (hf:∀n,f=some n->Frz w0 a n):CQ w0 FA UA N w a (E.fzs f) blk FS US where
 slot:=λn=>Ii p9 (h.slot n) (λ_ _=>rfl) λ_ _=>rfl
 box:=h.box
 nohand:=h.nohand
 nodup:=h.nodup
 dis:=h.dis
 disU:=h.disU
 inF:=h.inF
 inU:=h.inU
 disA:=h.disA
 os:=h.os
 tape:=h.tape
 output:=h.output
 size:=h.size
 keep:=h.keep
 len:=h.len
 nodef:=h.nodef
 xblk:=h.xblk
 ambB:=h.ambB
 ambI:=h.ambI
 frz:=hf
 ambF:=h.ambF
 pin:=h.pin
theorem uG (n:Nat):(2*n+1)/2=n:=by omega
theorem uF (n:Nat):¬(2*n+1) %2=0:=by omega
def AB7 (o:Oper):Bool:=match o.op with
 | .buildSlice t len parts=>Nat.beq len 0&&Nat.beq parts.size 0
 |_=>false
theorem ADa {a:Act} {nx:Next} {w':World} {o:Oper} (hb:AB7 o=true) (hd:o.dst=some d) (hN:d<N) (hs:CB P N false E o=some E') (hr:(execOp a.eval o).run P w= .ok nx w'):∃B,nx= .value (.slice B 0 0):=by
 unfold AB7 at hb;split at hb
 ·rename_i t len parts ho;rw[Aj]at hb;have h1:=Bl hb.1;have h2:=Bl hb.2;subst h1;have h3:parts= #[]:=Array.eq_empty_of_size_eq_zero h2;subst h3;simp only[CB,hd,Az hN,ho,Mn]at hs;split at hs
  ·rename_i e hu;split at hs
   ·rename_i zs ss hz b;obtain⟨i,z,hi,c,f,g⟩:=JU (w:=w) hz;simp[execOp,ho,Instr.buildSlice,run_underlying hu,sizeOf,typeInfo,hi,newRow,Instr.fill]at hr;obtain⟨hr,_⟩:=hr;exact⟨_,hr.symm⟩
   cases hs
  cases hs
 cases hb
def yT (x:Operand):Nat:=match x with
 | .tmp n=>n
 |_=>0
theorem sZ {ts:List Nat} (h:KW P N ops ts (i::dn) (((CB P N false E (oA ops i)).getD E).fzs (some (2*((oA ops i).dst.getD 0)+1))) Q) (hs:(CB P N false E (oA ops i)).isSome=true:=by kernel_rfl) (hk:(R6 P ops E i&&AB7 (oA ops i)&&Gz N (oA ops i))=true:=by kernel_rfl):KB P N ops ts dn i E Q:=by
 have hs':=getD_some (a:=E) hs;generalize hE:(CB P N false E<|oA ops i).getD E=E' at h hs';simp only[Aj]at hk;obtain⟨h1,h2⟩:=HQ hk.1.1;obtain⟨d,h3,_,h4⟩:=ES hk.2;rw[h3]at h;simp only[Bi]at h;have b:kp (oA ops i)=true:=by
  have:=hk.1.2;unfold AB7 at this;unfold kp;split at this
  ·rename_i ho;rw[ho]
  cases this
 intro w0 FA UA w a blk FS US hr hF hU;unfold wpOp;simp only[IX h1,Ci hr h2,BO];obtain⟨nx,w',v,blk',FS',US',k1,k2,k3,k4,k5,k6⟩:=RF hr hF hU hs';obtain⟨B,hB⟩:=ADa (N:=N) hk.1.2 h3 h4 hs' k1;have hv:v= .slice B 0 0:=by
  rcases k2 with k2|⟨k2,_⟩
  ·rw[hB]at k2;injection k2 with k2;exact k2.symm
  rw[hB]at k2;cases k2
 refine .inl ?_;unfold Oper.wp;rw[k1,hB];refine⟨λ_=>k6 b,_,blk',FS',US',h,?_,k4,k5⟩;rw[hv]at k3;refine k3.fzs _ λn hn=>?_
 injection hn with hn
 subst hn;unfold Frz;rw[Av<|uF d,uG d,h3];refine⟨B,?_⟩;have:=k3.len;simp only[Act.eval,Act.put];rw[EC];have hl:=hr.len;have c:d<a.tmps.size:=AX h4 hl;simp[Array.getElem?_setIfInBounds_self,c]
theorem KB.a {ts:List Nat} (hs:CB P N false E (oA ops i)=some E') (h:KW P N ops ts (i::dn) (E'.fzs none) Q) (hk:(R6 P ops E i&&AAu (oA ops i)&&Nat.beq (ET (oA ops i)).1 (ET (oA ops i)).2.1&&Gz N (oA ops i))=true:=by kernel_rfl) (hx:(ET<|oA ops i).2.2.1= .tmp (yT (ET<|oA ops i).2.2.1):=by kernel_rfl) (hz:E.fz=some (2*yT (ET<|oA ops i).2.2.1+1):=by kernel_rfl):KB P N ops ts dn i E Q:=by
 simp only[Aj]at hk;obtain⟨⟨⟨h0,h5⟩,h6⟩,h7⟩:=hk;obtain⟨h1,h2⟩:=HQ h0;obtain⟨d,h3,_,h4⟩:=ES h7;have c:=Bl h6;have ho:=jW h5;rw[<-c]at ho;intro w0 FA UA w a blk FS US hr hF hU;unfold wpOp;simp only[IX h1,Ci hr h2,BO];have he:NG P E d (ET<|oA ops i).1 (ET<|oA ops i).2.2.1 (ET<|oA ops i).2.2.2=some E':=by
  unfold CB at hs;rw[h3]at hs;simpa only[Az h4,ho,BO]using hs
 obtain⟨nx,w',v,blk',FS',US',k1,k2,k3,k4,k5,_,k6⟩:=Wv hr hF hU ho h3 h4 he;have b:=hr.frz _ hz;unfold Frz at b;rw[Av<|uF _,uG,<-hx]at b;obtain⟨B,hB⟩:=b;refine .inl ?_;unfold Oper.wp;rw[k1]
 rcases k2 with rfl|⟨rfl,rfl⟩
 ·exact⟨λ_=>k6 B hB,_,blk',FS',US',h,k3.fzs none (λn hn=>by cases hn),k4,k5⟩
 exact⟨λ_=>k6 B hB,_,blk',FS',US',h,k3.fzs none (λn hn=>by cases hn),k4,k5⟩
def rm (k:IntKind) (a b:Int):Option Int:=if b=0 then none else some<|a.tmod b
def ban (k:IntKind) (a b:Int):Int:=k.wrap (BitVec.ofInt k.bits a&&&BitVec.ofInt k.bits b).toNat
def bxo (k:IntKind) (a b:Int):Int:=k.wrap (BitVec.ofInt k.bits a^^^BitVec.ofInt k.bits b).toNat
def ACG (P:Program) (E:St) (o:Oper) (k:IntKind) (q:Bool):Option (Int×Int):=match o.op with
 | .binOp op t x y _=>bif(match op with| .rem=>!q| .quo=>q|_=>false)then(match E.cell1 P t x,E.cell1 P t y with
  |some (.int k' a),some (.int k'' b)=>bif decide (k'=k)&&decide (k''=k)then some (a,b)else none
  |_,_=>none)else none
 |_=>none
theorem prm {o:Oper} {a b v:Int} (hx:rm k a b=some v) (hc:ACG P E o k false=some (a,b):=by kernel_rfl):Bg P E o=some (.one<|.int k v):=by
 unfold ACG at hc;split at hc
 ·rename_i op t x y t' ho;cases op<;>simp only[AD,Ae,Ac,reduceCtorEq]at hc;split at hc
  ·rename_i k' a' k2 b' h1 h2
   cases hk:(decide (k'=k)&&decide (k2=k))with
   |false=>rw[hk]at hc;cases hc
   |true=>
    rw[hk]at hc;simp only[Ae]at hc
    injection hc with hc
    injection hc with hc1 hc2
    rw[Aj]at hk;have e1:=HR hk.1;have e2:=HR hk.2;subst hc1 hc2 e1 e2;unfold rm at hx;split at hx
    ·cases hx
    rename_i hb
    injection hx with hx
    subst hx;simp only[Bg,ho,h1,h2,Xj,BO,XW,AAv,Av hb,Bx]
  cases hc
 cases hc
def lK (P:Program) (f:FuncId) (as:List AV) (a:List TV):Prop:=∀(w:World) (vs:List Value) (FA UA:List Nat),Le w as vs FA UA->FA.Nodup->(∀b∈FA,b∉UA)->(∀b∈FA++UA,b<w.heap.size)->
  Calls P f vs.toArray w λe w'=>∃v F U G V,e= .returned v/\AA9 w w' FA UA (.tup []) [.ext a] [v] (.tuple #[]) F U G V
theorem gkp {f:FuncId} {c:Code} {cells:List TV} (hf:P.funcs[f]?=some fn) (hb:fn.body=some c) (hN:fn.ntmps=N) (h:Wp P N c (DE as) λe E=>(e= .normal\/e= .ret)/\∃t r,fn.results.toList=[.tmp t]/\E.ptr? (.tmp t)=some (r,[],0)/\r.mem=true/\E.boxes r=some cells) (l:cells.isEmpty=false:=by rfl):lK P f as cells:=by
 subst hN;intro w vs FA UA ha m j o;obtain⟨blk,FS,US,hr,hF,hU⟩:=SE (N:=fn.ntmps) ha m j o (A:=Rz.none) (fz:=none) trivial (λb hb=>by cases hb);refine calls_of_wp hf hb<|wp_mono (h _ _ _ _ _ _ _ _ hr hF hU) ?_;rintro e a w' ⟨E,blk',FS',US',⟨he,t,r,h1,h2,h3,h4⟩,k3,h5,h6⟩;obtain⟨u,ad,d,p⟩:=KD k3 h2;have s:ad=⟨blk' r,0,none⟩:=by
  cases r with
  |slot n=>cases h3
  |hand=>cases h3
  |box n=>simp only[pa]at d;injection d with d;rw[<-d];simp[Addr.add]
  |ext n=>simp only[pa]at d;injection d with d;rw[<-d];simp[Addr.add]
 obtain⟨g,T,F3,b2,b3,b4⟩:∃g T F3,w'.heap[blk' r]?=some (.cells g T (0,0))/\Bv w' cells g.toList F3 (US' r)/\FS' r=blk' r::F3:=by
  rcases k3.box r h3 with⟨q,_⟩|⟨cs,g,T,F3,q1,q2,q3,q4⟩
  ·rw[h4]at q;cases q
  rw[h4]at q1
  injection q1 with q1
  subst q1;exact⟨g,T,F3,q2,q3,q4⟩
 have hne':cells≠ []:=by rintro rfl;cases l
 have k:(fn.results.toList.mapM<|Pm P a.tmps).run P w'= .ok [a.eval<|.tmp t] w':=by
  rw[h1,List.mapM_cons];simp[Pm,Act.eval]
 have i:a.defers=[]/\∃v,(results fn a.tmps).run P w'= .ok v w'/\∃v' F U G V,Ending.returned v= .returned v'/\AA9 w w' FA UA (.tup []) [.ext cells] [v'] (.tuple #[]) F U G V:=by
  refine⟨k3.nodef,_,OH k,a.eval<|.tmp t,[],[],FS' r,US' r,by simp,?_⟩
  exact{
   res:=by simp only[Yi];exact⟨[],rfl,by simp[Qf]⟩
   fin:=⟨_,[],FS' r,[],US' r,[],rfl,by simp,by simp,⟨blk' r,g,T,F3,by rw[p,s],b2,b3,b4,hne'⟩,⟨rfl,rfl,rfl⟩⟩
   nodup:=by simpa using k3.nodup r
   dis:=λb hb hb'=>k3.disU r r b (by simpa using hb)<|by simpa using hb'
   inF:=λb hb=>k3.inF r b<|by simpa using hb
   inU:=λb hb=>k3.inU r b<|by simpa using hb
   os:=k3.os
   tape:=k3.tape
   output:=k3.output
   size:=k3.size
   keep:=λb hb hF=>k3.keep b hb hF (λe=>by cases e)}
 rcases he with rfl|rfl
 ·exact i
 exact i
section
variable {w0:Base} {a:Act}
theorem AAS {f:FuncId} {l:List (Bool×TypeId×Operand)} {ss:List (Option SV)} {K:Act->World->Prop} {Q:Exit->Act->World->Prop} (h:CQ w0 FA UA N w a E blk FS US) (hF:FS .hand=[]) (hU:US .hand=[]) {o:Oper} {args:Array Operand} {tys:Array TypeId} (ho:o.op= .call {callee:= .value (.func f),args:=args,argTypes:=tys}) (hf:dZ P f) (hd:o.dst=some d) (hN:d<N) (hl:l.map (λx=>x.2.2)=args.toList) {i:List TV} (hg:lK P f as i) {c:Bool} (h1:Na P E l=some (ss,E1)) (h2:Jp P E1 l ss=some (as,c)) (h3:c=true\/AB i=false) (hK:∀w' v blk' FS' US',CQ w0 FA UA N w' (a.put (some d) v) (E1.newBox d i) blk' FS' US'->FS' .hand=[]->US' .hand=[]->K (a.put (some d) v) w'):o.wp P a w K Q:=by
 obtain⟨FS1,US1,F,U,k1,k2,k3,k4,_⟩:=Q3 h h1;rw[hF,A4]at k3;rw[hU,A4]at k4;obtain⟨U',k5,k6⟩:=Lv k2 k1 h2;have a0:l.map (λx=>a.eval x.2.2)=(args.map a.eval).toList:=by
  rw[Qc,<-hl,FJ];rfl
 rw[a0]at k5;have p:∀b∈F,b∉U':=by
  intro b hb hb';rw[<-k3]at hb
  rcases k6 b hb' with h4|⟨r,h4⟩|⟨_,r,h5,h4⟩
  ·rw[<-k4]at h4;exact k2.disU .hand .hand b hb h4
  ·exact k2.disU .hand r b hb h4
  exact k2.dis .hand r (Fj h5) b hb h4
 have k:=hg w _ F U' k5 (by rw[<-k3];exact k2.nodup .hand) p (by
  intro b hb
  rcases Ak.1 hb with hb|hb
  ·exact(k2.inF .hand b (by rw[k3];exact hb)).2
  rcases k6 b hb with h4|⟨r,h4⟩|⟨_,r,h5,h4⟩
  ·exact(k2.inU .hand b (by rw[k4];exact h4)).2
  ·exact(k2.inU r b h4).2
  exact(k2.inF r b h4).2)
 unfold Oper.wp;rw[I1 ho hf];simp only[Oper.upon];rw[Rq]at k;refine Calls.mono k ?_;rintro e w' ⟨v,Fr,Ur,G,V,rfl,g⟩;obtain⟨v0,vs0,G1,G2,V1,V2,t,rfl,rfl,⟨b0,a1,T,F0,rfl,e1,e2,rfl,e3⟩,⟨rfl,rfl,rfl⟩⟩:=g.fin
 injection t with t _
 subst t;have y:=g.res;simp only[Yi,Qf]at y;obtain⟨_,_,_,rfl,rfl⟩:=y;have z:=g.nodup;simp only[A4,A3]at z;have a2:∀b∈b0::F0,(b∈FS1 .hand\/w.heap.size<=b)/\b<w'.heap.size:=by
  intro b hb;have:=g.inF b (by simpa using hb);rw[k3];exact this
 have h0:∀b∈V1,(∃s,b∈US1 s)\/((b∈FS1 .hand\/w.heap.size<=b)/\b∉b0::F0/\b<w'.heap.size):=by
  intro b hb;obtain⟨h4,h5⟩:=g.inU b<|by simpa using hb
  have m:b∉b0::F0:=λe=>g.dis b (by simpa using e)<|by simpa using hb
  rcases h4 with h4|h4|h4
  ·rcases k6 b h4 with h6|h6|⟨h6,r,h7,h8⟩
   ·exact .inl ⟨.hand,by rw[k4];exact h6⟩
   ·exact .inl h6
   rcases h3 with h3|h3
   ·rw[h3]at h6;cases h6
   have:=KC e2 h3;subst this;cases hb
  ·exact .inr ⟨.inl (by rw[k3];exact h4),m,h5⟩
  exact .inr ⟨.inr h4,m,h5⟩
 have j:∀b,b<w.heap.size->b∉FS1 .hand->w'.heap[b]?=w.heap[b]? :=λb hb u=>g.keep b hb (by rw[<-k3];exact u)
 let E2:St:={E1 with boxes:=Cg E1.boxes (.box d)<|some i,ver:=Cg E1.ver (.box d)<|E1.ver (.box d)+1,gen:=Cg E1.gen (.box d) (E1.gen (.box d)+1)}
 let blk1:=Cg blk (.box d) b0
 have a3:Root.box d≠Root.hand:=by simp
 have a4:∀s,Cp w w' a a E1 E2 blk blk1 s:=by
  intro s;by_cases hs:s= .box d
  ·subst hs;exact⟨.inl (by simp[E2,Cg]),.inl<|by simp[E2,Cg]⟩
  have hv:E2.ver s=E1.ver s:=by simp[E2,Cg,hs]
  have hg:E2.gen s=E1.gen s:=by simp[E2,Cg,hs]
  by_cases hh:s= .hand
  ·subst hh;exact Gl hv hg<|by simp[St.root,k2.nohand]
  refine Eh k2 hv hg ?_ (λ_ _=>rfl) (λ_=>by simp[blk1,Cg,hs]) (λb hb=>j b (k2.inF s b hb).2<|k2.dis s .hand hh b hb) λb hb=>j b (k2.inU s b hb).2 λe=>k2.disU .hand s b e hb;cases s<;>simp_all [E2,St.root,Cg]
 have g1:=k2.two (w':=w') (a':=a) (E':=E2) (blk':=blk1) (r1:= .box d) (r2:= .hand) (L1:=b0::F0) (L2:=[]) (V1:=V1) (V2:=[]) a3
  (by simpa using z)
  (λb hb=>by
   have hb':b∈b0::F0:=by simpa using hb
   obtain⟨q1,q2⟩:=a2 b hb'
   exact⟨.inr q1,q2⟩)
  (λb hb=>by
   have hb':b∈V1:=by simpa using hb
   rcases h0 b hb' with q|⟨q1,q2,q3⟩
   ·exact .inl q
   exact .inr ⟨.inr q1,by simpa using q2,q3⟩)
  g.size g.os g.tape g.output (λb hb _ u=>j b hb u) a4
  (λn _ _=>⟨rfl,rfl⟩)
  (λs _ hs _=>⟨by simp[E2,Cg,hs],by simp[blk1,Cg,hs]⟩)
  (.inr ⟨i,a1,T,F0,by simp[E2,Cg],by simp[blk1,Cg,e1],e2,by simp[blk1,Cg]⟩)
  trivial (by simp[E2,Cg,k2.nohand]) k2.len k2.nodef (hfz:=λn hn=>k2.frz n hn)
 have a5:E7 w' a E2 blk1 (.one<|.ptr (.box d) (E2.gen<|.box d) [] 0) (.pointer<|some ⟨b0,0,none⟩) [] []:=by
  have h9:E2.stamp (.box d) []=E2.gen (.box d):=rfl;rw[<-h9];refine VJ ?_ ?_
  ·cases hc:i with
   |nil=>exact absurd hc e3
   |cons x xs=>simp[St.place,St.root,E2,Cg,BM,hc]
  simp[pa,blk1,Cg,Addr.add]
 have g2:=g1.put (d:=d) hN a5 cE.none;have:=hK w' _ blk1 _ _ g2 (by rw[Bs (by simp),BK]) (by rw[Bs (by simp),BK]);rw[hd];exact this
end
theorem AC0 {l:List AV} {x:Option α} (h:x.bind kk=some r) {f:α->List TV} (g:∀v,x=some v->lK P (PW (oA ops i)) l (f v)) (hk:∀v,x=some v->kk v=some r->RW P N ops (i+1) ((clE P E (oA ops i) 0).newBox ((oA ops i).dst.getD 0) (f v)) Q) (b:cO P E (oA ops i) 0=some l:=by kernel_rfl) (hc:shB P E (oA ops i) 0=true:=by kernel_rfl) (ho:(R6 P ops E i&&TC P N (oA ops i)&&Gz N (oA ops i))=true:=by kernel_rfl):RW P N ops i E Q:=by
 obtain⟨v,hv,h⟩:=An.1 h;simp only[Aj]at ho;obtain⟨h1,h2⟩:=HQ ho.1.1;obtain⟨args,tys,h3,h4,h5,h6⟩:=Pa ho.1.2;obtain⟨d,h7,_,h8⟩:=ES ho.2;have e:=hk v hv h;rw[h7]at e;simp only[Bi]at e;unfold RW;rw[GN h1];intro w0 FA UA w a blk FS US hr hF hU;simp only[wpList,Ci hr h2,BO];unfold cO shB shA at*;unfold clE at e
 cases hm:mvA P E (oA ops i) 0 with
 |none=>rw[hm]at b;cases b
 |some z=>
  obtain⟨ss,E1⟩:=z;rw[hm]at b hc e;simp only at b hc e
  cases hs:Jp P E1 (bits 0<|GD<|oA ops i) ss with
  |none=>rw[hs]at b;cases b
  |some y=>
   obtain⟨as',c⟩:=y;rw[hs]at b hc;simp only[Bx]at b hc
   injection b with b
   subst b;refine .inl<|AAS hr hF hU h3 h4 h7 h8 (l:=bits 0<|GD<|oA ops i) (by rw[PY,h6]) (g v hv) hm hs (.inl hc) λw' v' blk' FS' US' k1 k2 k3=>e _ _ _ _ _ _ _ _ k1 k2 k3
theorem rsp {rs:List ResultVar} {a:List TV} (t:Nat) (h1:rs=[.tmp t]) (h:(match E.ptr? (.tmp t)with
  |some (r,[],0)=>bif r.mem then E.boxes r else none
  |_=>none)=some a):∃t r,rs=[.tmp t]/\E.ptr? (.tmp t)=some (r,[],0)/\r.mem=true/\E.boxes r=some a:=by
 split at h
 ·rename_i r hr
  cases hm:r.mem with
  |false=>rw[hm]at h;cases h
  |true=>rw[hm]at h;exact⟨t,r,h1,hr,hm,h⟩
 cases h
def xtE (N:Nat) (E:St) (o:Oper):Option St:=match o.op,o.dst with
 | .extract t ix,some d=>bif Nat.blt d N then Or E d t ix else none
 |_,_=>none
theorem AC3 {w0:Base} {a:Act} (h:CQ w0 FA UA N w a E blk FS US) (hF:FS .hand=[]) (hU:US .hand=[]) {o:Oper} (he:xtE N E o=some E'):
  ∃v blk' FS' US',(∀w2,(execOp a.eval o).run P w2= .ok (.value v) w2)/\CQ w0 FA UA N w (a.put o.dst v) E' blk' FS' US'/\FS' .hand=[]/\US' .hand=[]:=by
 unfold xtE at he;split at he
 ·rename_i t ix d ho hd
  cases hN:Nat.blt d N with
  |false=>rw[hN]at he;cases he
  |true=>
   rw[hN]at he;simp only[Ae]at he;have hN':d<N:=by simpa[B7]using hN
   obtain⟨nx,w',v,blk',FS',US',k1,k2,k3,k4,k5,_⟩:=EL.extract (P:=P) h hF hU ho hd hN' he;have b:∃x,∀w2,(execOp a.eval o).run P w2= .ok (.value x) w2:=by
    unfold Or at he;split at he
    ·rename_i n;split at he
     ·rename_i ss c;split at he
      ·rename_i s e;have hs:=h.slot n;rw[c]at hs;simp only[E7]at hs;obtain⟨vs,f,hx⟩:=hs;obtain⟨v,A,B,C,D,F1,U1,h1,h2,h3,h4,h5⟩:=Zd ix hx e;exact⟨v,λw2=>by simp[execOp,ho,Instr.extract,f,h1]⟩
      cases he
     cases he
    cases he
   obtain⟨x,hx⟩:=b;rw[hx w]at k1
   injection k1 with q1 q2
   subst q1 q2
   rcases k2 with k2|⟨k2,_⟩
   ·injection k2 with k2
    subst k2;exact⟨_,blk',FS',US',hx,k3,k4,k5⟩
   cases k2
 cases he
theorem JF {ts:List Nat} (i:Nat) (h:KW P N ops ts (i::dn) ((xtE N E (oA ops i)).getD E) Q) (hs:(xtE N E (oA ops i)).isSome=true:=by kernel_rfl) (hk:(R6 P ops E i&&pS ops ts dn i)=true:=by kernel_rfl):KW P N ops ts dn E Q:=by
 have hs':=getD_some (a:=E) hs;generalize hE:(xtE N E<|oA ops i).getD E=E' at h hs';simp only[Aj,pS]at hk;obtain⟨h1,h3,h4⟩:=hk;obtain⟨h5,h6⟩:=HQ h1;unfold KW at h⊢;rw[VR (i:=i) h3];intro hQ hc w0 FA UA w a blk FS US k1 k2 k3;obtain⟨e1,e2,e3,e4,e5⟩:=Wf h4;obtain⟨v,blk',FS',US',g1,g2,g3,g4⟩:=AC3 (P:=P) k1 k2 k3 hs';refine Ni (v:=v) (n:=ops.size) (IX h5) (Region.noSelect_spec e1) (λc a w hx=>?_) e4 e5 _ _ a w hc (Region.free_spec (IX h5) e2) e3 (.inl ⟨Ci k1 h6,λw2 _=>g1 w2⟩) ?_
 ·obtain⟨E',blk',FS',US',m1,_⟩:=hx;exact(hQ c E' m1).elim
 exact h hQ (LS hc e3) _ _ _ _ _ _ _ _ g2 g3 g4
def b9 (P:Program) (E:St) (o:Oper) (s:SV):Prop:=∀(N:Nat) (w0:Base) (FA UA:List Nat) (w:World) (a:Act) (blk:Root->Nat) (FS US:Root->List Nat),CQ w0 FA UA N w a E blk FS US->Fs P w a E blk FS US o s
theorem AE7 {s:SV} (hp:b9 P E (oA ops i) s) (h:RW P N ops (i+1) (E.put (oA ops i).dst s) Q) (hk:(R6 P ops E i&&Gz N (oA ops i))=true:=by kernel_rfl):RW P N ops i E Q:=by
 rw[Aj]at hk;obtain⟨h1,h2⟩:=HQ hk.1;obtain⟨d,h3,_,h4⟩:=ES hk.2;rw[h3]at h;unfold RW;rw[GN h1];intro w0 FA UA w a blk FS US hr hF hU;simp only[wpList,Ci hr h2,BO];exact .inl<|(LY hr hF hU (hp _ _ _ _ _ _ _ _ _ hr) h3 h4).wp λw' v blk' FS' US' k1 k2 k3 _=>h _ _ _ _ _ _ _ _ k1 k2 k3
theorem AEs {s:SV} (hp:b9 P E (oA ops i) s) (h:SW P N ops m (i+1) (E.put (oA ops i).dst s) K) (hk:(R6 P ops E i&&Gz N (oA ops i)&&Nat.blt i m)=true:=by kernel_rfl):SW P N ops m i E K:=by
 simp only[Aj]at hk;obtain⟨h1,h2⟩:=HQ hk.1.1;obtain⟨d,h3,_,h4⟩:=ES hk.1.2;rw[h3]at h;unfold SW;rw[Rc h1 hk.2];intro w0 FA UA w a blk FS US k1 k2 k3;obtain⟨v,U,g1,g2,g3⟩:=hp _ _ _ _ _ _ _ _ _ k1;have hr:=g1 w λr _=>⟨λ_ _=>rfl,λ_ _=>rfl⟩;simp only[wpStill,Ci k1 h2,BO,Oper.still,hr,Oper.stillUpon_value];rw[h3];refine h _ _ _ _ _ _ _ _ (k1.put h4 g2<|PS k1 g3 _) ?_ ?_
 ·rw[Bs (by simp),k2]
 rw[Bs (by simp),k3]
theorem AFG {ts:List Nat} {s:SV} (i:Nat) (hp:b9 P E (oA ops i) s) (h:KW P N ops ts (i::dn) (E.put (oA ops i).dst s) Q) (hk:(R6 P ops E i&&Gz N (oA ops i)&&pS ops ts dn i)=true:=by kernel_rfl):KW P N ops ts dn E Q:=by
 simp only[Aj,pS]at hk;obtain⟨⟨h1,h2⟩,h3,h4⟩:=hk;obtain⟨h5,h6⟩:=HQ h1;obtain⟨d,h7,_,h8⟩:=ES h2;unfold KW at h⊢;rw[VR (i:=i) h3];rw[h7]at h;intro hQ hc w0 FA UA w a blk FS US k1 k2 k3;obtain⟨e1,e2,e3,e4,e5⟩:=Wf h4;obtain⟨v,U,g1,g2,g3⟩:=hp _ _ _ _ _ _ _ _ _ k1;refine Ni (v:=v) (n:=ops.size) (IX h5) (Region.noSelect_spec e1) (λc a w hx=>?_) e4 e5 _ _ a w hc (Region.free_spec (IX h5) e2) e3 (.inl ⟨Ci k1 h6,λw2 e=>?_⟩) ?_
 ·obtain⟨E',blk',FS',US',m1,_⟩:=hx;exact(hQ c E' m1).elim
 ·exact g1 w2 λr hr=>⟨λb hb=>e.2 b (k1.inF r b hb).2,λb hb=>e.2 b (k1.inU r b hb).2⟩
 rw[h7];refine h hQ (LS hc e3) _ _ _ _ _ _ _ _ (k1.put h8 g2<|PS k1 g3 _) ?_ ?_
 ·rw[Bs (by simp),k2]
 rw[Bs (by simp),k3]
def AEf (o:Oper):Bool:=match o.op with
 | .assign (.const _)| .move (.const _)=>true
 |_=>false
theorem pjk {o:Oper} (h:AEf o=true:=by kernel_rfl):b9 P E o (.one .junk):=by
 intro N w0 FA UA w a blk FS US hr;unfold AEf at h;split at h
 ·rename_i v ho;exact⟨v,[],λw2 _=>by simp[execOp,ho,Act.eval],by simp[E7,CN,TV.isJunk],by simp⟩
 ·rename_i v ho;exact⟨v,[],λw2 _=>by simp[execOp,ho,Act.eval],by simp[E7,CN,TV.isJunk],by simp⟩
 cases h
def AAI (P : Program) (f : Field) (j : Nat) (x y : TV) : Option Bool := bif (f.name != "_") && Nat.beq f.offset j then (match P.underlying f.type, x, y with
 |some (.int _),.int k a,.int k' b=>bif decide (k=k')then some (a==b)else none
 |some .bool,.bool a,.bool b=>some<|a==b
 |some .string,.str a,.str b=>some<|a.toList==b.toList
 |_,_,_=>none)else none
def ZC (P:Program):List Field->Nat->List TV->List TV->Option Bool
 |[],_,[],[]=>some true
 |f::fs,j,x::xs,y::ys=>match AAI P f j x y,ZC P fs (j+1) xs ys with
  |some b,some c=>some (b&&c)
  |_,_=>none
 |_,_,_,_=>none
def OW (o:Oper):Bool×TypeId×Operand×Operand:=match o.op with
 | .binOp .eql t x y _=>(false,t,x,y)
 | .binOp .neq t x y _=>(true,t,x,y)
 |_=>(false,0,.tmp 0,.tmp 0)
def AAt (o:Oper):Bool:=match o.op with
 | .binOp .eql .. | .binOp .neq .. =>true
 |_=>false
def yQ (P:Program) (t:TypeId):Bool:=(match P.underlying t with
 |some (.struct _)=>true
 |_=>false)&&!P.stoodInHeld t&&!P.eqGuardType P.depth t
def ACR (P:Program) (E:St) (o:Oper):Option Bool:=bif AAt o&&yQ P (OW o).2.1 then(match E.val P (OW o).2.1 (OW o).2.2.1,E.val P (OW o).2.1 (OW o).2.2.2 with
 |some (.agg xs),some (.agg ys)=>ZC P (P.fieldsOf (OW o).2.1).toList 0 xs ys
 |_,_=>none)else none
theorem ACd {f:Field} {r:Bool} {vx vy:Value} {F U F' U':List Nat} {a:Act} {blk:Root->Nat} {X Y:Array Value} (d:Nat) {x y:TV} (h:AAI P f j x y=some r) (hx:CN w a E blk x vx F U) (hy:CN w a E blk y vy F' U') (kx:X[j]?=some vx) (ky:Y[j]?=some vy):
  f.name ≠ "_" ∧ ∃ a b, (∀ w2 : World, (part f.type X f.offset).run P w2 = .ok a w2) ∧ (∀ w2 : World, (part f.type Y f.offset).run P w2 = .ok b w2) ∧ ∀ w2 : World, (Op.equalIn (d + 1) f.type a b).run P w2 = .ok r w2 := by
 unfold AAI at h
 cases hb : (f.name != "_" && Nat.beq f.offset j) with
 |false=>rw[hb]at h;cases h
 |true=>
  rw[hb]at h;simp only[Ae]at h;rw[Aj]at hb;have hj:=Bl hb.2;subst hj;refine⟨by simpa using hb.1,?_⟩;split at h
  ·rename_i k k1 n1 k2 n2 hu
   cases hk:decide (k1=k2)with
   |false=>rw[hk]at h;cases h
   |true=>
   rw[hk]at h;have c:=HR hk;subst c;simp only[Ae]at h
   injection h with h
   subst h;obtain⟨rfl,_,_⟩:=hx;obtain⟨rfl,_,_⟩:=hy;exact⟨_,_,λw2=>run_part_plain w2 (e:=f.type) (by simp[Program.plainKey,hu]) kx,λw2=>run_part_plain w2 (e:=f.type) (by simp[Program.plainKey,hu]) ky,λw2=>run_equalIn_int w2 d f.type k1 k n1 n2 hu⟩
  ·rename_i b1 b2 hu
   injection h with h
   subst h;obtain⟨rfl,_,_⟩:=hx;obtain⟨rfl,_,_⟩:=hy;exact⟨_,_,λw2=>run_part_plain w2 (e:=f.type) (by simp[Program.plainKey,hu]) kx,λw2=>run_part_plain w2 (e:=f.type) (by simp[Program.plainKey,hu]) ky,λw2=>run_equalIn_bool' w2 d f.type b1 b2 hu⟩
  ·rename_i s1 s2 hu
   injection h with h
   subst h;obtain⟨rfl,_,_⟩:=hx;obtain⟨rfl,_,_⟩:=hy;exact⟨_,_,λw2=>run_part_plain w2 (e:=f.type) (by simp[Program.plainKey,hu]) kx,λw2=>run_part_plain w2 (e:=f.type) (by simp[Program.plainKey,hu]) ky,λw2=>run_equalIn_string w2 d f.type s1 s2 hu⟩
  cases h
theorem fJ {a:Act} {blk:Root->Nat} {X Y:Array Value} (d:Nat):∀{fs:List Field} {j:Nat} {xs ys:List TV} {vx vy:List Value} {F U F' U':List Nat} {r:Bool},ZC P fs j xs ys=some r->CP w a E blk xs vx F U->CP w a E blk ys vy F' U'->
  (∀i v,vx[i]?=some v->X[j+i]?=some v)->(∀i v,vy[i]?=some v->Y[j+i]?=some v)->∀w2:World,(Op.eqFields (d+1) X Y fs).run P w2= .ok r w2
 |[],j,xs,ys,vx,vy,F,U,F',U',r,h,hx,hy,kx,ky,w2=>by
  cases xs<;>cases ys<;>simp only[ZC,reduceCtorEq,Al]at h;subst h;rfl
 |f::fs,j,xs,ys,vx,vy,F,U,F',U',r,h,hx,hy,kx,ky,w2=>by
  cases xs with
  |nil=>simp[ZC]at h
  |cons x xs=>
   cases ys with
   |nil=>simp[ZC]at h
   |cons y ys=>
    simp only[ZC]at h;split at h
    ·rename_i b c h1 h2
     injection h with h
     subst h;obtain⟨v,vs,F1,F2,U1,U2,rfl,_,_,e1,e2⟩:=hx;obtain⟨v',e,F1',F2',U1',U2',rfl,_,_,e1',e2'⟩:=hy;obtain⟨g1,A,B,g2,g3,g4⟩:=ACd (X:=X) (Y:=Y) d h1 e1 e1' (kx 0 v rfl)<|ky 0 v' rfl;have ih:=fJ d h2 e2 e2' (λi u hu=>by rw[Kq,Yv 1 i];exact kx (i+1) u<|by simpa using hu) (λi u hu=>by rw[Kq,Yv 1 i];exact ky (i+1) u<|by simpa using hu) w2;simp only[Op.eqFields,Az g1,Sem.run_bind,g2,g3,g4,Result.andThen_ok];cases b
     ·simp
     simpa using ih
    cases h
theorem peq {b:Bool} {o:Oper} (h:ACR P E o=some b):b9 P E o (.one (.bool (bif(OW o).1 then !b else b))):=by
 intro N w0 FA UA w a blk FS US hr;unfold ACR at h
 cases hb:(AAt o&&yQ P (OW o).2.1)with
 |false=>rw[hb]at h;cases h
 |true=>
  rw[hb]at h;simp only[Ae]at h;rw[Aj]at hb;split at h
  ·rename_i xs ys hx hy;obtain⟨U1,k1,_⟩:=Kx hr hx;obtain⟨U2,k2,_⟩:=Kx hr hy;simp only[E7]at k1 k2;obtain⟨vx,e1,c1⟩:=k1;obtain⟨vy,e2,c2⟩:=k2;have hT:=hb.2;simp only[yQ,Aj,CF]at hT;have e:P.underlying (OW o).2.1=some (.struct<|P.fieldsOf (OW o).2.1):=by
    have:=hT.1.1;split at this
    ·rename_i fs f;simp only[Program.fieldsOf,f]
    cases this
   have c:∀w2:World,(Op.equalIn 10000 (OW o).2.1 (.agg vx.toArray)<|.agg vy.toArray).run P w2= .ok b w2:=λw2=>by
    rw[run_equalIn_struct w2 9999 _ _ _ e hT.1.2];exact fJ (X:=vx.toArray) (Y:=vy.toArray) 9998 h c1 c2 (λi v hv=>by simpa using hv) (λi v hv=>by simpa using hv) w2
   refine⟨.bool<|bif(OW o).1 then !b else b,[],λw2 _=>?_,by simp[E7,CN,Cw,Value.cells],by simp⟩;have d:=hb.1;unfold AAt at d;split at d
   ·rename_i t x y t' ho;simp only[OW,ho]at e1 e2 c hT⊢;simp[execOp,ho,e1,e2,run_eqGuard_agg w2 _ _ _ _ _ _ hT.2,run_eql_struct,c w2]
   ·rename_i t x y t' ho;simp only[OW,ho]at e1 e2 c hT⊢;simp[execOp,ho,e1,e2,run_eqGuard_agg w2 _ _ _ _ _ _ hT.2,run_neq_struct,c w2]
   cases d
  cases h
abbrev pb (n:Nat):SV:= .one (.ptr (.box n) 0 [] 0)
abbrev px (n:Nat):SV:= .one (.ptr (.ext n) 0 [] 0)
abbrev i6 (n:Int):TV:= .int .i64 n
abbrev tb (b:Bool):TV:= .bool b
abbrev ts (s:ByteArray):TV:= .str s
abbrev rg (n:Nat):List AV:=List.replicate n .gone
theorem jr {w:β} {f:V->Option β} {a:V⊕β} (h:some (.inr w)=some a) (hk:Sum.elim f some a=some r):some w=some r:=by
 injection h with h
 subst h;exact hk
theorem jo {S:Type} {w:β} {f:V->Option β} {o:S⊕(V⊕β)} (h:some (.inr (.inr w))=some o) (hk:∀w,o= .inr (.inr w)->Sum.elim f some (.inr w)=some r):some w=some r:=by
 injection h with h
 exact hk w h.symm
theorem rr {v r:β} (h:some v=some r):v=r:=Option.some.inj h
theorem rq {e:Exit} {rs:List ResultVar} {a:SV} (he:e= .normal\/e= .ret:=by first|exact .inr rfl|exact .inl rfl) (hk:(Ea P E rs).map (λz=>EJ z.1)=some a:=by kernel_rfl):(e= .normal\/e= .ret)/\∃ss E',Ea P E rs=some (ss,E')/\EJ ss=a:=⟨he,rsz hk⟩
theorem rx {e:Exit} {rs:List ResultVar} {b:SV} {a:List TV} (he:e= .normal\/e= .ret:=by first|exact .inr rfl|exact .inl rfl) (hk:(Ea P E rs).map (λz=>(EJ z.1,z.2.boxes<|.ext 0))=some (b,some a):=by kernel_rfl):(e= .normal\/e= .ret)/\∃ss E',Ea P E rs=some (ss,E')/\EJ ss=b/\E'.boxes (.ext 0)=some a:=⟨he,rsx hk⟩
section
variable {id:Nat}
theorem ws {y:Code} (h:RW P N ops 0 E (JV (λE'=>Wp P N y E' Q) Q)):Wp P N (.seq (.region id ops false) y) E Q:=Wp.seq<|ACY h
end
theorem BZ (hf:∀x,(f x).length=sz) (h:(gi l n).bind kk=some r) (hk:∀x,gi l n=some x->kk x=some r->RW P N ops (i+1) (E.put (oA ops i).dst (nT E (oA ops i) (n.toNat*sz+0))) Q) (hc:AAs P E (oA ops i) sz=some (AI f l,n):=by kernel_rfl) (hq:zL P N ops i E=true:=by kernel_rfl):RW P N ops i E Q:=
 bd h λx gx h=>RW.q (I4 hf gx hc) (hk x gx h) hq
def tG (P:Program) (N:Nat) (ops:Array Oper) (ts dn:List Nat) (E:St) (i:Nat):Option St:=bif Nat.blt i ops.size&&Gz N (oA ops i)&&pS ops ts dn i then
 (match B6 P ops E (oA ops i)with
 |some false=>some<|E.put (oA ops i).dst<|.tup []
 |some true=>match JI P E (oA ops i)with
  |some s=>some<|E.put (oA ops i).dst s
  |none=>xtE N E<|oA ops i
 |none=>none)else none
theorem tst {ts:List Nat} (hs:tG P N ops ts dn E i=some E') (h:KW P N ops ts (i::dn) E' Q):KW P N ops ts dn E Q:=by
 unfold tG at hs
 cases hb:(Nat.blt i ops.size&&Gz N (oA ops i)&&pS ops ts dn i)with
 |false=>rw[hb]at hs;cases hs
 |true=>
  rw[hb]at hs;simp only[Ae]at hs;split at hs
  ·rename_i hg
   injection hs with hs
   subst hs;exact AEw i h hg hb
  ·rename_i hg;simp only[Aj]at hb;have ho:R6 P ops E i=true:=by simp only[R6,hb.1.1,hg,Ib]
   split at hs
   ·rename_i s a
    injection hs with hs
    subst hs;exact ADN i a h (by rw[ho,hb.1.2,hb.2];rfl)
   exact JF i (by rw[hs];exact h) (by rw[hs];rfl) (by rw[ho,hb.2];rfl)
  cases hs
def uT (P:Program) (N:Nat) (ops:Array Oper) (ts dn:List Nat) (E:St):List Nat->Option (Nat×St)
 |[]=>none
 |i::l=>match tG P N ops ts dn E i with
  |some E'=>some (i,E')
  |none=>uT P N ops ts dn E l
theorem oH {ts:List Nat}:∀{l:List Nat} {E':St},uT P N ops ts dn E l=some (i,E')->tG P N ops ts dn E i=some E'
 |[],_,h=>by cases h
 |j::l,E',h=>by
  simp only[uT]at h;split at h
  ·rename_i E1 h1
   injection h with h
   injection h with h2 h3
   subst h2 h3;exact h1
  exact oH h
def ACW (P:Program) (N:Nat) (ops:Array Oper) (ts:List Nat) (mv:List Nat) (E:St) (i:Nat):Option St:=bif R6 P ops E i&&(kp (oA ops i)||ts.contains i)then CB P N (mv.contains i) E (oA ops i)else none
def ACq (f:A->Option (List St)):List A->Option (List St)
 |[]=>some []
 |x::l=>match f x,ACq f l with
  |some a,some b=>some (a++b)
  |_,_=>none
theorem o7 {f:A->Option (List St)}:∀{l:List A} {L:List St},ACq f l=some L->∀x∈l,∃a,f x=some a/\∀E∈a,E∈L
 |[],_,_,x,hx=>by cases hx
 |y::l,L,h,x,hx=>by
  simp only[ACq]at h;split at h
  ·rename_i a b h1 h2
   injection h with h
   subst h
   rcases CO.1 hx with rfl|hx
   ·exact⟨a,h1,λE hE=>AH _ hE⟩
   obtain⟨a',h3,h4⟩:=o7 h2 x hx;exact⟨a',h3,λE hE=>AT _<|h4 E hE⟩
  cases h
def vT (P:Program) (N:Nat) (ops:Array Oper) (ts mv:List Nat):Nat->List Nat->St->Option (List St)
 |0,_,_=>none
 |n+1,dn,E=>match Region.ready .any ops (lsd ops.size dn)with
  |[]=>some [E]
  |rs=>bif Nat.blt dn.length ops.size then(match uT P N ops ts dn E rs with
   |some (i,E')=>vT P N ops ts mv n (i::dn) E'
   |none=>ACq (λi=>match ACW P N ops ts mv E i with
    |some E'=>vT P N ops ts mv n (i::dn) E'
    |none=>none) rs)else none
theorem sW {ts:List Nat} {mv:List Nat}:∀{n:Nat} {dn:List Nat} {E:St} {L:List St},vT P N ops ts mv n dn E=some L->(∀E'∈L,Q .normal E')->KW P N ops ts dn E Q
 |0,_,_,_,h,_=>by cases h
 |n+1,dn,E,L,h,hq=>by
  simp only[vT]at h;split at h
  ·rename_i hr
   injection h with h
   subst h;exact KW.done (hq E (by simp)) (by rw[hr];rfl)
  rename_i b
  cases hb:Nat.blt dn.length ops.size with
  |false=>rw[hb]at h;cases h
  |true=>
   rw[hb]at h;simp only[Ae]at h;split at h
   ·rename_i i E' hf;exact tst (oH hf) (sW h hq)
   refine KW.all _ (λi hi=>?_) b (by simp only[rdy,hb,lP,PZ]);obtain⟨a,h1,h2⟩:=o7 h i hi;split at h1
   ·rename_i E' hs;unfold ACW at hs
    cases hc:(R6 P ops E i&&(kp (oA ops i)||ts.contains i))with
    |false=>rw[hc]at hs;cases hs
    |true=>
     rw[hc]at hs;exact FL hs (sW h1 λE'' hE=>hq E''<|h2 E'' hE) hc
   cases h1
def zV (P:Program) (N:Nat) (ops:Array Oper) (ts mv dn:List Nat) (E:St):List St:=(vT P N ops ts mv (ops.size+1) dn E).getD []
theorem nP {X:Prop} {c:List PanicEntry} (h:(Exit.panic c= .normal\/Exit.panic c= .ret)/\X):False:=by rcases h with⟨h|h,_⟩<;>cases h
section
variable {w0:Base} {a:Act}
theorem CQ.resay {s:SV} (h:CQ w0 FA UA N w a E blk FS US) (hd:d<N) (hs:E7 w a E blk s (a.eval (.tmp d)) [] []):∃FS' US',CQ w0 FA UA N w a (E.put (some d) s) blk FS' US'/\FS' .hand=FS .hand/\US' .hand=US .hand:=by
 have k:=h.put (F:=[]) (U:=[]) hd hs cE.none;have e:a.put (some d) (a.eval<|.tmp d)=a:=by
  cases a with
  |mk tmps defers=>
   have hl:d<tmps.size:=AX hd h.len;simp only[Act.put,Act.eval];congr 1;apply Array.ext (by simp);intro i h1 h2;rw[Array.getElem_setIfInBounds];split
   ·rename_i e;subst e;simp[hl]
   rfl
 rw[e]at k;exact⟨_,_,k,Bs (by simp),Bs<|by simp⟩
end
theorem CQ.toAdr {w0:Base} {a:Act} (h:CQ w0 FA UA N w a E blk FS US) (hd:d<N) (hs:E.ptr? (.tmp d)=some (.ext 0,[],0)) (hp:E.amb.pin=some b):∃FS' US',CQ w0 FA UA N w a (E.put (some d) (.one (.adr ⟨b,0,none⟩))) blk FS' US'/\FS' .hand=FS .hand/\US' .hand=US .hand:=by
 obtain⟨_,ad,h1,h2⟩:=KD h hs;refine h.resay hd ?_;rw[h2];have e:=h.xblk 0;rw[h.pin b hp]at e;simp only[pa,e,Addr.add]at h1
 injection h1 with h1
 subst h1;refine⟨?_,λ_=>rfl⟩;show Cw w (.adr ⟨b,0,none⟩) _ [] [];simp[Cw]
section
variable {w0:Base} {a:Act}
theorem CQ.toPtr (h:CQ w0 FA UA N w a E blk FS US) (hd:d<N) (hs:E.slots d= .one (.adr ⟨b,0,none⟩)) (hp:E.amb.pin=some b) {f:List TV} (hb:E.boxes (.ext 0)=some f) (g:f.isEmpty=false):
  ∃FS' US',CQ w0 FA UA N w a (E.put (some d) (.one (.ptr (.ext 0) (E.gen (.ext 0)) [] 0))) blk FS' US'/\FS' .hand=FS .hand/\US' .hand=US .hand:=by
 have hv:a.eval (.tmp d)= .pointer (some ⟨b,0,none⟩):=by
  have:=h.slot d;rw[hs]at this;simp only[E7,CN,Cw]at this;exact this.1.1
 refine h.resay hd ?_;have e:=h.xblk 0;rw[h.pin b hp]at e;refine⟨⟨rfl,rfl,Au _,λ_=>⟨?_,⟨b,0,none⟩,?_,hv⟩⟩,λ_=>by rw[hv];rfl⟩
 ·cases f with
  |nil=>cases g
  |cons c cs=>simp[St.place,St.root,hb,BM]
 simp[pa,e,Addr.add]
end
def pnE (E:St) (d b:Nat):St:=E.put (some d)<|.one<|.adr ⟨b,0,none⟩
def ADg (N:Nat) (E:St) (d:Nat):Bool:=Nat.blt d N&&(match E.ptr? (.tmp d)with
 |some (.ext 0,[],0)=>true
 |_=>false)
theorem ABF (h:ADg N E d=true):d<N/\E.ptr? (.tmp d)=some (.ext 0,[],0):=by
 simp only[ADg,Aj]at h;refine⟨by simpa[B7]using h.1,?_⟩;have h2:=h.2;split at h2
 ·assumption
 cases h2
theorem AEu (d:Nat) (h:RW P N ops i (pnE E d b) Q) (hp:E.amb.pin=some b:=by kernel_rfl) (ho:ADg N E d=true:=by kernel_rfl):RW P N ops i E Q:=by
 intro w0 FA UA w a blk FS US hr hF hU;obtain⟨h1,h2⟩:=ABF ho;obtain⟨FS',US',k1,k2,k3⟩:=hr.toAdr h1 h2 hp;exact h _ _ _ _ _ _ _ _ k1 (by rw[k2,hF])<|by rw[k3,hU]
def npE (E:St) (d:Nat):St:=E.put (some d)<|.one<|.ptr (.ext 0) (E.gen<|.ext 0) [] 0
def ABS (N:Nat) (E:St) (d:Nat):Bool:=Nat.blt d N&&(match E.boxes (.ext 0)with
 |some cells=>!cells.isEmpty
 |none=>false)
theorem uH (h:ABS N E d=true):d<N/\∃a,E.boxes (.ext 0)=some a/\a.isEmpty=false:=by
 simp only[ABS,Aj]at h;refine⟨by simpa[B7]using h.1,?_⟩;have h2:=h.2;split at h2
 ·rename_i a hc;exact⟨a,hc,by simpa using h2⟩
 cases h2
theorem pE (d:Nat) (h:RW P N ops i (npE E d) Q) (hp:E.amb.pin=some b:=by kernel_rfl) (hs:E.slots d= .one (.adr ⟨b,0,none⟩):=by kernel_rfl) (ho:ABS N E d=true:=by kernel_rfl):RW P N ops i E Q:=by
 intro w0 FA UA w a blk FS US hr hF hU;obtain⟨h1,c,h2,h3⟩:=uH ho;obtain⟨FS',US',k1,k2,k3⟩:=hr.toPtr h1 hs hp h2 h3;exact h _ _ _ _ _ _ _ _ k1 (by rw[k2,hF])<|by rw[k3,hU]
theorem vA {ts:List Nat} (d:Nat) (h:KW P N ops ts dn (npE E d) Q) (hp:E.amb.pin=some b:=by kernel_rfl) (hs:E.slots d= .one (.adr ⟨b,0,none⟩):=by kernel_rfl) (ho:ABS N E d=true:=by kernel_rfl):KW P N ops ts dn E Q:=by
 intro hq hc w0 FA UA w a blk FS US hr hF hU;obtain⟨h1,c,h2,h3⟩:=uH ho;obtain⟨FS',US',k1,k2,k3⟩:=hr.toPtr h1 hs hp h2 h3;exact h hq hc _ _ _ _ _ _ _ _ k1 (by rw[k2,hF])<|by rw[k3,hU]
structure Xo (n c b g cap:Nat) (e T T':TypeId) (sz:Nat) (rest:List Value) (enc:γ->List TV) (w:World) (l:List γ):Prop where
 ne:b≠g/\c≠g/\c≠b
 len:l.length=n
 ptr:w.heap[c]?=some (.cells #[.pointer (some ⟨b,0,none⟩)] T' (0,0))
 box:w.heap[b]?=some (.cells (.slice (some ⟨g,0,none⟩) n cap::rest).toArray T (0,0))
 row:∃cur,w.heap[g]?=some (.cells cur e (0,0))/\cur.size=cap*sz/\cur.toList.take (l.length*sz)=(AI enc l).map TV.val
 le:l.length<=cap/\cap<=maxLen
theorem tR {e:TypeId} {l:List γ} {k:Nat} {n c b g cap:Nat} {rest:List Value} {enc:γ->List TV} (h:Xo n c b g cap e T T' sz rest enc w l) (hk:k<l.length*sz):w.cell? ⟨g,k,none⟩=((AI enc l).map TV.val)[k]? :=by
 obtain⟨a,h1,h2,h3⟩:=h.row;rw[<-h3,CG,Az hk];simp[World.cell?,h1]
def HX (n c b g cap:Nat) (e T T':TypeId) (sz:Nat) (rest:List Value) (enc:γ->List TV) (l:List γ):Rz where
 B:=[c,b,g]
 I:=λw=>Xo n c b g cap e T T' sz rest enc w l
 st:=λw w' h hk=>⟨h.ne,h.len,by rw[hk c<|by simp];exact h.ptr,by rw[hk b<|by simp];exact h.box,by rw[hk g<|by simp];exact h.row,h.le⟩
 rd:=λad=>if ad.spot.isSome=true then none else if ad.block=c then(if ad.off=0 then some (.pointer<|some ⟨b,0,none⟩)else none)else if ad.block=b then(if ad.off=0 then some (.slice (some ⟨g,0,none⟩) n cap)else none)else if ad.block=g then(if ad.off<l.length*sz then((AI enc l).map TV.val)[ad.off]? else none)else none
 rdI:=λw ad v h hr=>by
  obtain⟨bl,off,spot⟩:=ad
  cases spot with
  |some s=>simp at hr
  |none=>
   simp only[F8,BA,Fq]at hr;split at hr
   ·rename_i hb;subst hb;split at hr
    ·rename_i ho;subst ho
     injection hr with hr
     subst hr;simp[World.cell?,h.ptr]
    cases hr
   split at hr
   ·rename_i hb;subst hb;split at hr
    ·rename_i ho;subst ho
     injection hr with hr
     subst hr;simp[World.cell?,h.box]
    cases hr
   split at hr
   ·rename_i hg;subst hg;split at hr
    ·rename_i ho;rw[tR h ho];exact hr
    cases hr
   cases hr
theorem mA {e:TypeId} {ie:TypeInfo} {c b g cap:Nat} {rest:List Value} {enc:γ->List TV} (h:∀x,(enc x).length=sz) (n:Nat) (gS:Bool) (hx:∀args W,(callFunc sf args).run P W=((Extern.ReflectliteSwapper.swap gS args).run P W).andThen λv w'=> .ok (.value v) w') (a3:P.info? e=some ie) (o:ie.size=sz) (h7:∀w,(isAgg e).run P w= .ok true w):
  Nc P (HX n c b g cap e T T' sz rest enc) sf #[.slice (some ⟨g,0,none⟩) n cap,typeHandle P e]:=by
 intro l i j x y hi hj w hI hB;obtain⟨⟨u,h0,h8⟩,hn,p,q,h9,h3⟩:=hI;have a4:b<w.heap.size:=hB b (by simp[HX]);have a5:c<w.heap.size:=hB c (by simp[HX]);have b3:g<w.heap.size:=hB g (by simp[HX]);obtain⟨f,hg,h4,a0⟩:=h9;obtain⟨i0,i1⟩:=IJ hi;obtain⟨j0,j1⟩:=IJ hj;obtain⟨a,rfl⟩:=Cv i0;obtain⟨d,rfl⟩:=Cv j0;simp only[AZ]at i1 j1;have la:=(Ag.1 i1).1;have lc:=(Ag.1 j1).1;have hX:((enc x).map TV.val).length=sz:=by rw[Ba];exact h x
 have hY:((enc y).map TV.val).length=sz:=by rw[Ba];exact h y
 have r:l.length*sz<=f.size:=by rw[h4];exact BT _ h3.1
 have a6:(a+1)*sz<=l.length*sz:=BT _ la;have a7:(d+1)*sz<=l.length*sz:=BT _ lc;rw[DB]at a6 a7;have hI:Xo n c b g cap e T T' sz rest enc w l:=⟨⟨u,h0,h8⟩,hn,p,q,⟨f,hg,h4,a0⟩,h3⟩;have cell:∀(m:Nat) (z:γ),l[m]?=some z->∀k v,((enc z).map TV.val)[k]?=some v->w.cell? ⟨g,0+m*ie.size+k,none⟩=some v:=by
  intro m z hm k v hk;have a1:=(Ag.1 hk).1;rw[Ba,h]at a1;have lm:=(Ag.1 hm).1;have a8:(m+1)*sz<=l.length*sz:=BT _ lm;rw[DB]at a8;rw[o,HS,tR hI<|by omega];have e1:(AI enc l)[m*sz+k]?=(enc z)[k]? :=by
   have h2:(AI enc l)[m*sz+k]?=((AI enc l).drop<|m*sz)[k]? :=by rw[C1]
   rw[h2,Ko h l m,AS lm,QZ];have e4:l[m]=z:=by rw[Ab lm]at hm;injection hm
   rw[e4,Bj (by rw[h];exact a1)]
  rw[AO,e1,<-AO,hk]
 have frz:∀(m k:Nat),w.frozen? ⟨g,0+m*ie.size+k,none⟩=false:=by
  intro m k;simp[World.frozen?,hg]
 have s:=Go.Lib.run_swap_cells (P:=P) gS e ie a3 h7 g 0 n cap a d (by omega) (by omega) ((enc x).map TV.val) ((enc y).map TV.val) (by rw[hX,o]) (by rw[hY,o]) (λv hv=>by obtain⟨t,_,rfl⟩:=AF.1 hv;exact Yz) (λv hv=>by obtain⟨t,_,rfl⟩:=AF.1 hv;exact Yz) w (cell a x i1) (cell d y j1) (λk _=>frz a k) λk _=>frz d k;simp only[HS,o]at s;have h1:=JC e (0,0) g ((enc y).map TV.val) (a*sz) f w hg (by rw[hY];omega);have a9:(setRow f.toList (a*sz)<|(enc y).map TV.val).toArray.size=f.size:=by
  rw[O1,Ec (by rw[hY];simp;omega)];simp
 have h2:=JC e (0,0) g ((enc x).map TV.val) (d*sz) _ _ h1 (by rw[a9,hX];omega);have kB:∀k,k<w.heap.size->k≠g->((w.setCells g (a*sz)<|(enc y).map TV.val).setCells g (d*sz)<|(enc x).map TV.val).heap[k]?=w.heap[k]? :=by
  intro k hk a2;have s1:(w.setCells g (a*sz)<|(enc y).map TV.val).heap.size=w.heap.size:=G6 g _ _ _;rw[World.heap_setCells_other _ g _ _ (by rw[s1];exact hk) a2,World.heap_setCells_other _ g _ _ hk a2]
 refine⟨(w.setCells g (a*sz)<|(enc y).map TV.val).setCells g (d*sz)<|(enc x).map TV.val,?_,⟨?_,?_,?_,?_,?_⟩,?_⟩
 ·rw[hx];have ea:(#[Value.int .i64 (a:Int),Value.int .i64 (d:Int)]++ #[Value.slice (some ⟨g,0,none⟩) n cap,typeHandle P e])= #[.int .i64 (a:Int),.int .i64 (d:Int),.slice (some ⟨g,0,none⟩) n cap,typeHandle P e]:=rfl;rw[ea,s];rfl
 ·rw[World.os_setCells,World.os_setCells]
 ·rw[Jt,Jt]
 ·rw[World.output_setCells,World.output_setCells]
 ·rw[G6,G6];exact Au _
 ·intro k hk b0;exact kB k hk λe=>b0 (by rw[e];simp[HX])
 have h5:(si (si l (a:Int) y) (d:Int) x).length=l.length:=by simp[si]
 have lcur:f.toList.length=f.size:=by simp
 have h6:(setRow f.toList (a*sz)<|(enc y).map TV.val).length=f.size:=by rw[Ec (by rw[hY,lcur];omega),lcur]
 have b1:(setRow (setRow f.toList (a*sz)<|(enc y).map TV.val) (d*sz)<|(enc x).map TV.val).length=f.size:=by rw[Ec (by rw[hX,h6];omega),h6]
 show Xo n c b g cap e T T' sz rest enc _<|si (si l (a:Int) y) (d:Int) x;refine⟨⟨u,h0,h8⟩,h5.trans hn,by rw[kB c a5 h0];exact p,by rw[kB b a4 u];exact q,⟨_,h2,?_,?_⟩,by rw[h5];exact h3⟩
 ·rw[O1];exact b1.trans h4
 rw[h5];show(setRow (setRow f.toList (a*sz)<|(enc y).map TV.val) (d*sz)<|(enc x).map TV.val).take (l.length*sz)=_;rw[Mp (by rw[hX];omega) (by rw[h6];exact r),Mp (by rw[hY];omega) (by rw[lcur];exact r),a0,<-Q4,<-Q4];have e1:setRow (AI enc l) (a*sz) (enc y)=AI enc (si l (a:Int) y):=by
  have:=SN h (z:=y) hi
  rwa [AZ]at this
 obtain⟨z0,b2⟩:∃z0,gi (si l (a:Int) y) (d:Int)=some z0:=by
  have lc2:d<(si l (a:Int) y).length:=by simp only[si,G4];exact lc
  refine⟨(si l (a:Int) y)[d],?_⟩;unfold gi;rw[Az (by omega),AZ];exact Ab lc2
 have e2:=SN h (z:=x) b2;rw[AZ]at e2;rw[e1,e2]
theorem tZ {e:TypeId} {l:List γ} {n c b g cap:Nat} {rest:List Value} {enc:γ->List TV}:(HX n c b g cap e T T' sz rest enc l).rd ⟨c,0,none⟩=some (.pointer (some ⟨b,0,none⟩)):=by
 simp[HX]
theorem uA {e:TypeId} {l:List γ} {n c b g cap:Nat} {rest:List Value} {enc:γ->List TV} (h:c≠b):(HX n c b g cap e T T' sz rest enc l).rd ⟨b,0,none⟩=some (.slice (some ⟨g,0,none⟩) n cap):=by
 simp[HX,h.symm]
theorem tY {e:TypeId} {l:List γ} {i:Int} {k:Nat} {t:TV} {n c b g cap:Nat} {rest:List Value} {enc:γ->List TV} (a:∀x,(enc x).length=sz) {x:γ} {ad:Addr} (hi:gi l i=some x) (hk:(enc x)[k]?=some t) (hb:b≠g) (hc:c≠g) (f:ad=⟨g,i.toNat*sz+k,none⟩):(HX n c b g cap e T T' sz rest enc l).rd ad=some t.val:=by
 subst f;obtain⟨i0,i1⟩:=IJ hi;have lm:=(Ag.1 i1).1;have d:=(Ag.1 hk).1;rw[a]at d;have h:(i.toNat+1)*sz<=l.length*sz:=BT _ lm;rw[DB]at h;have e1:(AI enc l)[i.toNat*sz+k]?=(enc x)[k]? :=by
  have h2:(AI enc l)[i.toNat*sz+k]?=((AI enc l).drop<|i.toNat*sz)[k]? :=by rw[C1]
  rw[h2,Ko a l i.toNat,AS lm,QZ];have e4:l[i.toNat]=x:=by rw[Ab lm]at i1;injection i1
  rw[e4,Bj (by rw[a];exact d)]
 simp only[HX,F8,BA,Fq];rw[Av λe=>hc e.symm,Av λe=>hb e.symm,BO,Az (by omega),AO,e1,hk];rfl
theorem AA5 {o:Oper} (d:Nat) {ad:Addr} {x:Nat} (hk:FN P N ops rest (E.put (some d) (.one (.adr ad))) K) (hs:E.slots x= .one (.adr ad)) (ho:o.op= .nilCheck (.tmp x):=by rfl) (hd:o.dst=some d:=by rfl) (hN:Nat.blt d N=true:=by rfl) (hg:B6 P ops E o=some true:=by rfl):FN P N ops (o::rest) E K:=
 FN.any d (.adr ad) hk (λw0 FA UA w a blk FS US h=>by
  have h1:=lF h hs;refine⟨.pointer<|some ad,?_,by simp[Cw],rfl⟩
  simp[execOp,ho,h1,Instr.sureAddr]) hd hN hg
def UK (o:Oper):Nat:=o.dst.getD 0
def AEI (E:St) (ops:Array Oper) (i:Nat) (r:Root) (t:TV):St:=(((((E.put (some<|UK<|oA ops i)<|.one .junk).put (some<|UK<|oA ops<|i+1)<|.one .junk).setRoot r [t]).bump r).put (some<|UK<|oA ops<|i+2)<|.tup [])
def AC5:Operand->Nat
 | .tmp n=>n
 |_=>0
def mC (o:Oper):Nat:=match o.op with
 | .makeInterface _ x=>AC5 x
 |_=>0
def iE (o:Oper):Nat:=match o.op with
 | .makeFunc _ _ c=>AC5<|c[0]?.getD<|.tmp 0
 |_=>0
def AC7 (o:Oper):Array TypeId:=match o.op with
 | .call c=>c.argTypes
 |_=> #[]
def eO (s:SV):Nat:=match s with
 | .one (.view _ v _ _)=>v
 |_=>0
theorem RW.srt {rr:β} {l:List γ} {kk:List γ->Option β} {t:Nat} {x:Option (List γ)} (h:x.bind kk=some rr) {enc:γ->List TV} {a:FuncId} (r:Root) (hs:∀l',x=some l'->T1 P (PW (oA ops (i+2))) t e sz enc a l l') (hk:∀l',x=some l'->kk l'=some rr->RW P N ops (i+3) (AEI E ops i r (.sl true e sz (AI enc l'))) Q) (b:∀x,(enc x).length=sz) (d:∀x,(enc x).all TV.flat=true) (hx:E.slots (mC (oA ops i))= .one (.view r (eO (E.slots (mC (oA ops i)))) [] 0):=by kernel_rfl) (c:E.ver r=eO (E.slots<|mC<|oA ops i):=by kernel_rfl) (hp:E.ptr? (.tmp<|iE<|oA ops<|i+1)=some (r,[],0):=by kernel_rfl) (hc:E.boxes r=some [.sl true e sz<|AI enc l]:=by kernel_rfl) (hm:r.mem=true:=by kernel_rfl) (h1:(oA ops i).op= .makeInterface t (.tmp<|mC<|oA ops i):=by kernel_rfl) (h2:(oA ops<|i+1).op= .makeFunc (.func a) #[] #[.tmp<|iE<|oA ops<|i+1]:=by kernel_rfl) (h3:(oA ops<|i+2).op= .call {callee:= .value (.func<|PW<|oA ops<|i+2),args:= #[.tmp<|UK<|oA ops i,.tmp<|UK<|oA ops<|i+1],argTypes:=AC7 (oA ops<|i+2)}:=by kernel_rfl) (k1:(oA ops i).dst=some (UK<|oA ops i):=by kernel_rfl) (k2:(oA ops<|i+1).dst=some (UK<|oA ops<|i+1):=by kernel_rfl) (k3:(oA ops<|i+2).dst=some (UK<|oA ops<|i+2):=by kernel_rfl) (g1:(oA ops i).guard=none:=by kernel_rfl) (g2:(oA ops<|i+1).guard=none:=by kernel_rfl) (g3:(oA ops<|i+2).guard=none:=by kernel_rfl) (hN:(Nat.blt (UK<|oA ops i) N&&Nat.blt (UK<|oA ops<|i+1) N&&Nat.blt (UK<|oA ops<|i+2) N&&!Nat.beq (UK<|oA ops i) (UK<|oA ops<|i+1)&&!Nat.beq (iE<|oA ops<|i+1) (UK<|oA ops i)&&Nat.blt 0 sz&&Nat.blt (i+2) ops.size)=true:=by kernel_rfl) (ht:P.underlying t=some (.slice e):=by kernel_rfl) (hf:TC P N (oA ops<|i+2)=true:=by kernel_rfl):RW P N ops i E Q:=by
 obtain⟨l',hl',h⟩:=An.1 h;simp only[Aj,CF]at hN;obtain⟨⟨⟨⟨⟨⟨q1,q2⟩,q3⟩,q4⟩,q5⟩,q6⟩,q7⟩:=hN;have b2:Nat.blt (i+1) ops.size=true:=by rw[B7]at q7⊢;omega
 have b1:Nat.blt i ops.size=true:=by rw[B7]at q7⊢;omega
 have hk':=hk l' hl' h;unfold RW at hk'⊢;rw[GN b1,GN b2,GN q7];exact He.srt (hs l' hl') hk' b d hx c hp hc hm h1 h2 h3 k1 k2 k3 g1 g2 g3 q1 q2 q3 q4 q5 q6 ht (Pa hf).choose_spec.choose_spec.2.1
def lE (o:Oper):Nat:=match o.op with
 | .call c=>match c.args.toList with
  |[x]=>AC5 x
  |_=>0
 |_=>0
def lS (s:SV):Nat:=match s with
 | .one (.view (.slot n) _ _ _)=>n
 |_=>0
def Wq (P:Program) (f:FuncId) (t e sz:Nat) (enc:γ->List TV) (g:FuncId) (l l':List γ):Prop:=∀(w:World) (c b:Nat) (v:Value) (rest:List Value) (T T':TypeId),w.heap[c]?=some (.cells #[.pointer<|some ⟨b,0,none⟩] T' (0,0))->w.heap[b]?=some (.cells (v::rest).toArray T (0,0))->w.ownsRow 0 e sz v l.length ((AI enc l).map TV.val)->b∉BN v->c∉BN v->c≠b->
  Calls P f #[.iface t v,.func (.func g) #[] #[.pointer<|some ⟨c,0,none⟩]] w λr w'=>r= .returned (.tuple #[])/\GI w w' (c::b::BN v)/\w'.heap[c]?=w.heap[c]? /\w'.heap[b]?=w.heap[b]? /\w'.ownsRow 0 e sz v l'.length ((AI enc l').map TV.val)
def AAr (c b:Nat) (v:Value) (rest:List Value) (T T':TypeId) (e sz n:Nat) (xs:List Value):Rz where
 B:=c::b::BN v
 I:=λw=>w.heap[c]?=some (.cells #[.pointer<|some ⟨b,0,none⟩] T' (0,0))/\w.heap[b]?=some (.cells (v::rest).toArray T (0,0))/\w.ownsRow 0 e sz v n xs
 st:=λw w' h hk=>⟨by grind,by grind,h.2.2.1,by
  rcases h.2.2.2 with q|⟨g,cap,a,rfl,q1,q2,q3⟩
  ·exact .inl q
  exact .inr ⟨g,cap,a,rfl,q1,by rw[hk g<|by simp[BN,Value.ownBlock]];exact q2,q3⟩⟩
theorem ACx {t:Nat} {l l':List γ} {rc:Root} {o1 o2 o3:Oper} {ver:Nat} {enc:γ->List TV} {f c:FuncId} {rs:List TV} {d1 d2 d3 x p b0:Nat} {tys:Array TypeId} (hs:Wq P f t e sz enc c l l') (hk:He P N ops rest (((((E.put (some d1) (.one .junk)).put (some d2) (.one .junk)).setRoot (.ext 0) (.sl true e sz (AI enc l')::rs)).bump (.ext 0)).put (some d3) (.tup [])) Q) (m:∀x,(enc x).length=sz) (i:∀x,(enc x).all TV.flat=true) (hpin:E.amb.pin=some b0) (hx:E.slots x= .one (.view (.ext 0) ver [] 0)) (o:E.ver (.ext 0)=ver) (hp:E.ptr? (.tmp p)=some (rc,[],0)) (hc:E.boxes (.ext 0)=some (.sl true e sz (AI enc l)::rs)) (u:E.boxes rc=some [.adr ⟨b0,0,none⟩]) (hm:rc.mem=true) (h1:o1.op= .makeInterface t (.tmp x)) (h2:o2.op= .makeFunc (.func c) #[] #[.tmp p]) (h3:o3.op= .call {callee:= .value (.func f),args:= #[.tmp d1,.tmp d2],argTypes:=tys}) (k1:o1.dst=some d1) (k2:o2.dst=some d2) (k3:o3.dst=some d3) (g1:o1.guard=none) (g2:o2.guard=none) (g3:o3.guard=none) (h8:Nat.blt d1 N=true) (h9:Nat.blt d2 N=true) (a0:Nat.blt d3 N=true) (a1:Nat.beq d1 d2=false) (y:Nat.beq p d1=false) (a2:Nat.blt 0 sz=true) (ht:P.underlying t=some (.slice e)) (hf:dZ P f):He P N ops (o1::o2::o3::rest) E Q:=by
 have hN1':d1<N:=by simpa[B7]using h8
 have hN2':d2<N:=by simpa[B7]using h9
 have hN3':d3<N:=by simpa[B7]using a0
 have hne':d1≠d2:=by intro e;subst e;simp at a1
 have hne2':p≠d1:=by intro e;subst e;simp at y
 have hsz':0<sz:=by simpa[B7]using a2
 have a3:rc≠ .ext 0:=by grind
 intro w0 FA UA w a blk FS US hr hF hU;have z:blk (.ext 0)=b0:=by rw[hr.xblk,hr.pin b0 hpin]
 obtain⟨v,vs,T,F2,U1,U2,b1,b2,b3,b4,b5⟩:∃v vs T F2 U1 U2,w.heap[blk<|.ext 0]?=some (.cells (v::vs).toArray T (0,0))/\(∃F1,Cw w (.sl true e sz<|AI enc l) v F1 U1/\FS (.ext 0)=blk (.ext 0)::(F1++F2))/\Bv w rs vs F2 U2/\US (.ext 0)=U1++U2/\True:=by
  rcases hr.box (.ext 0) rfl with⟨q1,_⟩|⟨cs,g,T,F,q1,q2,q3,q4⟩
  ·grind
  rw[hc]at q1
  injection q1 with q1
  subst q1;simp only[Bv]at q3;obtain⟨v,k,F1,F2,U1,U2,e1,rfl,e3,q5,q6⟩:=q3;have:g=(v::k).toArray:=by grind
  grind
 obtain⟨F1,b2,b6⟩:=b2;obtain⟨T',c1⟩:∃T',w.heap[blk rc]?=some (.cells #[.pointer<|some ⟨b0,0,none⟩] T' (0,0)):=by
  rcases hr.box rc hm with⟨q1,_⟩|⟨cs,g,T,F,q1,q2,q3,q4⟩
  ·grind
  rw[u]at q1
  injection q1 with q1
  subst q1;simp only[Bv,Cw]at q3;obtain⟨v,k,F1,F2,U1,U2,e1,rfl,e3,⟨rfl,_⟩,rfl,_⟩:=q3;have:g= #[.pointer<|some ⟨b0,0,none⟩]:=by grind
  grind
 have a4:blk rc∈FS rc:=by
  rcases hr.box rc hm with⟨q1,_⟩|⟨cs,g,T,F,q1,q2,q3,q4⟩
  ·grind
  rw[q4];simp
 simp only[Cw]at b2;obtain⟨n,xs,F',b7,b8,rfl⟩:=b2;have a5:=VD b8<|Gj i l;obtain⟨rfl,rfl⟩:=LE b8<|Gj i l;subst a5;have a6:n=l.length:=by
  have q:=b7.1;rw[Ba,ER m l]at q;exact(Nat.eq_of_mul_eq_mul_right hsz' q).symm
 subst a6;rw[A3]at b6;rw[A4]at b4;have h0:=hr.nodup<|.ext 0;rw[b6]at h0
 have a7:blk (.ext 0)∉BN v:=λhx=>(Dj.1 h0).1<|AH _ hx
 have h4:∀x∈FS (.ext 0),x≠blk rc:=λx hx e=>hr.dis _ _ a3 _ a4<|e▸hx
 have a8:blk rc∉BN v:=λhx=>h4 (blk rc) (by grind) rfl
 have a9:blk rc≠blk (.ext 0):=λe=>h4 (blk<|.ext 0) (by rw[b6];simp) e.symm
 have evx:a.eval (.tmp x)=v:=by
  have q:=hr.slot x;rw[hx]at q;simp only[E7,CN]at q;obtain⟨⟨_,_,_,q4⟩,_⟩:=q;obtain⟨q5,_⟩:=q4 o;simpa[pv,BL,Addr.add,World.cell?,b1]using q5.symm
 have evp:a.eval (.tmp p)= .pointer (some ⟨blk rc,0,none⟩):=by
  obtain⟨_,ad,q1,q2⟩:=KD hr hp;rw[q2]
  cases rc with
  |slot n=>cases hm
  |hand=>cases hm
  |box n=>simp[pa,Addr.add]at q1;rw[<-q1]
  |ext n=>simp[pa,Addr.add]at q1;rw[<-q1]
 obtain⟨FS1,US1,r1,r2,r3⟩:=VS hr hF hU hN1'<|.iface t v;have e1:(execOp a.eval o1).run P w= .ok (.value<|.iface t v) w:=by
  simp[execOp,h1,Instr.makeInterface,run_underlying ht,evx]
 simp only[wpList,Ci hr<|JP (P:=P) (ops:=ops) g1,BO];refine .inl ?_
 try unfold Oper.wp
 rw[e1,Oper.upon_value,k1];have evp1:(a.put (some d1)<|.iface t v).eval (.tmp p)= .pointer (some ⟨blk rc,0,none⟩):=by rw[Du hne2',evp]
 obtain⟨FS2,US2,s1,s2,s3⟩:=VS r1 r2 r3 hN2'<|.func (.func c) #[] #[.pointer<|some ⟨blk rc,0,none⟩];have e2:(execOp (a.put (some d1)<|.iface t v).eval o2).run P w= .ok (.value<|.func (.func c) #[] #[.pointer<|some ⟨blk rc,0,none⟩]) w:=by
  simp[execOp,h2,Instr.makeFunc,evp1]
 simp only[wpList,Ci r1<|JP (P:=P) (ops:=ops) g2,BO];refine .inl ?_
 try unfold Oper.wp
 rw[e2,Oper.upon_value,k2];simp only[wpList,Ci s1<|JP (P:=P) (ops:=ops) g3,BO];refine .inl ?_;have c0:d1<a.tmps.size:=AX hN1' hr.len;have c2:d2<(a.put (some d1)<|.iface t v).tmps.size:=AX hN2' r1.len
 try unfold Oper.wp
 rw[I1 h3 hf];have ea: #[Operand.tmp d1,.tmp d2].map ((a.put (some d1)<|.iface t v).put (some d2)<|.func (.func c) #[] #[.pointer<|some ⟨blk rc,0,none⟩]).eval= #[.iface t v,.func (.func c) #[] #[.pointer<|some ⟨blk rc,0,none⟩]]:=by
  simp[Gy c2,Du hne',Gy c0]
 rw[ea];simp only[Oper.upon];refine Calls.mono (hs w (blk rc) (blk<|.ext 0) v vs T T' (by rw[z];exact c1) b1 b7 a7 a8 a9) ?_;rintro ee w' ⟨rfl,h,c6,h5,c7⟩;have h6:((E.put (some d1)<|.one .junk).put (some d2)<|.one .junk).boxes (.ext 0)=some (.sl true e sz (AI enc l)::rs):=hc;obtain⟨G1,G2,V2,f1,f2,f3,f4⟩:∃G1 G2 V2,FS2 (.ext 0)=blk (.ext 0)::(G1++G2)/\G1=BN v/\US2 (.ext 0)=V2/\Bv w rs vs G2 V2:=by
  rcases s1.box (.ext 0) rfl with⟨q1,_⟩|⟨cs,g,T2,F2,q1,q2,q3,q4⟩
  ·grind
  rw[h6]at q1
  injection q1 with q1
  subst q1;rw[b1]at q2
  injection q2 with q2
  injection q2 with q2
  subst q2;simp only[Bv]at q3;obtain⟨v2,k,F3,F4,U1,U2,e1,rfl,e3,q5,q6⟩:=q3;simp at e1;obtain⟨rfl,rfl⟩:=e1;simp only[Cw]at q5;obtain⟨n,vs,F',c4,c5,rfl⟩:=q5;obtain⟨rfl,rfl⟩:=LE c5<|Gj i l
  grind
 subst f2;have j:=s1.nodup<|.ext 0;rw[f1]at j;have c8:blk rc∈FS2 rc:=by
  have d0:((E.put (some d1)<|.one .junk).put (some d2)<|.one .junk).boxes rc=some [.adr ⟨b0,0,none⟩]:=u
  rcases s1.box rc hm with⟨q1,_⟩|⟨cs,g,T,F,q1,q2,q3,q4⟩
  ·grind
  rw[q4];simp
 have keepb:∀b,b<w.heap.size->b∉BN v->w'.heap[b]?=w.heap[b]? :=by
  intro b hb hv;by_cases q1:b=blk rc
  ·rw[q1];exact c6
  by_cases q2:b=blk (.ext 0)
  ·rw[q2];exact h5
  exact h.keep b hb<|by grind
 have h7:GI w w' (FS2<|.ext 0):=⟨h.os,h.tape,h.output,h.size,λb hb hn=>keepb b hb λhv=>hn<|by grind⟩
 have hG:∀b∈G2,w'.heap[b]?=w.heap[b]? :=λb hb=>keepb b (s1.inF (.ext 0) b<|by grind).2
  (λhv=>(BP.1 (Dj.1 j).2).2.2 b hv b hb rfl)
 have hV:∀b∈V2,w'.heap[b]?=w.heap[b]? :=λb hb=>keepb b (s1.inU (.ext 0) b (by rw[f3];exact hb)).2
  (λhv=>s1.disU (.ext 0) (.ext 0) b (by grind) (by rw[f3];exact hb))
 obtain⟨FS3,US3,t1,t2,t3⟩:=s1.turn s2 s3 (r:= .ext 0) rfl h6 (cells':= .sl true e sz (AI enc l')::rs) (by simp) (w':=w') h7
  ⟨(
   v::vs).toArray,T,BN v++G2,by rw[h5];exact b1,by
   rw[f3];simp only[Bv];refine⟨v,vs,BN v,G2,[],V2,by simp,rfl,rfl,?_,Gf f4 hG hV⟩;simp only[Cw]
   exact⟨l'.length,_,[],c7,Vf<|Gj i l',by simp⟩,f1⟩
 obtain⟨FS4,US4,u1,u2,u3⟩:=t1.land (w':=w') (d:=d3) (s:= .tup []) (v:= .tuple #[]) (F:=[]) (U:=[]) hN3' (by simp[E7,Ph]) C8 (by simp) (by simp) (Au _) rfl rfl rfl λ_ _ _=>rfl;rw[k3];exact hk _ _ _ _ _ _ _ _ u1 u2 u3
def ACD:Option (List TV)->List TV
 |some (_::ts)=>ts
 |_=>[]
def rt0:Option (Root×List Nat×Nat)->Root
 |some (r,_,_)=>r
 |none=> .hand
def s2E (E:St) (ops:Array Oper) (i:Nat) (t:TV):St:=(((((E.put (some<|UK<|oA ops i)<|.one .junk).put (some<|UK<|oA ops<|i+1)<|.one .junk).setRoot (.ext 0) (t::ACD (E.boxes<|.ext 0))).bump<|.ext 0).put (some<|UK<|oA ops<|i+2)<|.tup [])
theorem ADE {rr:β} {l:List γ} {kk:List γ->Option β} {t b0:Nat} {x:Option (List γ)} (h:x.bind kk=some rr) {enc:γ->List TV} {a:FuncId} (hs:∀l',x=some l'->Wq P (PW (oA ops (i+2))) t e sz enc a l l') (hk:∀l',x=some l'->kk l'=some rr->RW P N ops (i+3) (s2E E ops i (.sl true e sz (AI enc l'))) Q) (b:∀x,(enc x).length=sz) (d:∀x,(enc x).all TV.flat=true) (hpin:E.amb.pin=some b0:=by kernel_rfl) (hx:E.slots (mC<|oA ops i)= .one (.view (.ext 0) (eO<|E.slots<|mC<|oA ops i) [] 0):=by kernel_rfl) (c:E.ver (.ext 0)=eO (E.slots<|mC<|oA ops i):=by kernel_rfl) (hp:E.ptr? (.tmp<|iE<|oA ops<|i+1)=some (rt0<|E.ptr?<|.tmp<|iE<|oA ops<|i+1,[],0):=by kernel_rfl) (hc:E.boxes (.ext 0)=some (.sl true e sz (AI enc l)::ACD (E.boxes<|.ext 0)):=by kernel_rfl) (f:E.boxes (rt0<|E.ptr?<|.tmp<|iE<|oA ops<|i+1)=some [.adr ⟨b0,0,none⟩]:=by kernel_rfl) (hm:(rt0<|E.ptr?<|.tmp<|iE<|oA ops<|i+1).mem=true:=by kernel_rfl) (h1:(oA ops i).op= .makeInterface t (.tmp<|mC<|oA ops i):=by kernel_rfl) (h2:(oA ops<|i+1).op= .makeFunc (.func a) #[] #[.tmp<|iE<|oA ops<|i+1]:=by kernel_rfl) (h3:(oA ops<|i+2).op= .call {callee:= .value (.func<|PW<|oA ops<|i+2),args:= #[.tmp<|UK<|oA ops i,.tmp<|UK<|oA ops<|i+1],argTypes:=AC7 (oA ops<|i+2)}:=by kernel_rfl) (k1:(oA ops i).dst=some (UK<|oA ops i):=by kernel_rfl) (k2:(oA ops<|i+1).dst=some (UK<|oA ops<|i+1):=by kernel_rfl) (k3:(oA ops<|i+2).dst=some (UK<|oA ops<|i+2):=by kernel_rfl) (g1:(oA ops i).guard=none:=by kernel_rfl) (g2:(oA ops<|i+1).guard=none:=by kernel_rfl) (g3:(oA ops<|i+2).guard=none:=by kernel_rfl) (hN:(Nat.blt (UK<|oA ops i) N&&Nat.blt (UK<|oA ops<|i+1) N&&Nat.blt (UK<|oA ops<|i+2) N&&!Nat.beq (UK<|oA ops i) (UK<|oA ops<|i+1)&&!Nat.beq (iE<|oA ops<|i+1) (UK<|oA ops i)&&Nat.blt 0 sz&&Nat.blt (i+2) ops.size)=true:=by kernel_rfl) (ht:P.underlying t=some (.slice e):=by kernel_rfl) (hf:TC P N (oA ops<|i+2)=true:=by kernel_rfl):RW P N ops i E Q:=by
 obtain⟨l',hl',h⟩:=An.1 h;simp only[Aj,CF]at hN;obtain⟨⟨⟨⟨⟨⟨q1,q2⟩,q3⟩,q4⟩,q5⟩,q6⟩,q7⟩:=hN;have b2:Nat.blt (i+1) ops.size=true:=by rw[B7]at q7⊢;omega
 have b1:Nat.blt i ops.size=true:=by rw[B7]at q7⊢;omega
 have hk':=hk l' hl' h;unfold RW at hk'⊢;rw[GN b1,GN b2,GN q7];exact ACx (hs l' hl') hk' b d hpin hx c hp hc f hm h1 h2 h3 k1 k2 k3 g1 g2 g3 q1 q2 q3 q4 q5 q6 ht (Pa hf).choose_spec.choose_spec.2.1
theorem AE0 {f:FuncId} {c:Code} {a cells':List TV} {b:SV} (hf:P.funcs[f]?=some fn) (hb:fn.body=some c) (hN:fn.ntmps=N) (h:∀b0,Wp P N c (DE (.ext a::as) (nD b0)) λe E=>(e= .normal\/e= .ret)/\∃ss E',Ea P E fn.results.toList=some (ss,E')/\EJ ss=b/\E'.boxes (.ext 0)=some cells') (d:cells'.isEmpty=false:=by rfl):A9 P f (.ext a::as) b (.ext cells'::List.replicate as.length .gone):=aS nD ABG hf hb (by rw[hN];exact h) d
def kV (P:Program) (N:Nat) (ops:Array Oper) (E:St) (i:Nat):Option (FuncId×Array Value×Int×Int):=bif R6 P ops E i&&Gz N (oA ops i)then
 (match(oA ops i).op with
 | .call c=>match c.callee,c.args.toList with
  | .value (.tmp t),[o1,o2]=>match E.slots t,E.cell1 P 0 o1,E.cell1 P 0 o2 with
   | .one (.fn (.func g) fr cap),some<|.int .i64 x,some (.int .i64 y)=>bif fr.isEmpty then some (g,cap,x,y)else none
   |_,_,_=>none
  |_,_=>none
 |_=>none)else none
theorem gJ {cap:Array Value} {x y:Int} (h:kV P N ops E i=some (g,cap,x,y)):R6 P ops E i=true/\(∃d,(oA ops i).dst=some d/\Nat.blt d N=true)/\∃t o1 o2 tys,(oA ops i).op= .call {callee:= .value (.tmp t),args:= #[o1,o2],argTypes:=tys}/\E.slots t= .one (.fn (.func g) #[] cap)/\E.cell1 P 0 o1=some (.int .i64 x)/\E.cell1 P 0 o2=some (.int .i64 y):=by
 unfold kV at h
 cases hb:(R6 P ops E i&&Gz N (oA ops i))with
 |false=>rw[hb]at h;cases h
 |true=>
  rw[hb]at h;simp only[Ae]at h;simp only[Aj]at hb;obtain⟨d,h1,h2,_⟩:=ES hb.2;refine⟨hb.1,⟨d,h1,h2⟩,?_⟩;split at h
  ·rename_i c hc;split at h
   ·rename_i t o1 o2 k1 k2;split at h
    ·rename_i g' fr cap' x' y' m1 m2 m3
     cases he:fr.isEmpty with
     |false=>rw[he]at h;cases h
     |true=>
      rw[he]at h;simp only[Ae,Al,Bo]at h;obtain⟨rfl,rfl,rfl,rfl⟩:=h;have a:fr= #[]:=by simpa using he
      subst a;refine⟨t,o1,o2,c.argTypes,?_,m1,m2,m3⟩;have ha:c.args= #[o1,o2]:=Array.toList_inj.1 k2;rw[hc];cases c;simp only at k1 ha;rw[k1,ha]
    cases h
   cases h
  cases h
theorem u9 {rr:β} {lt:γ->γ->Bool} {l:List γ} {k:γ×γ->Option β} {cap:Array Value} (a:IQ P Am lt g cap) {x y:Int} (h:(xY l x y).bind k=some rr) (hk:∀v,k v=some rr->RW P N ops (i+1) (E.put (oA ops i).dst (.one (.bool (lt v.1 v.2)))) Q) (hc:kV P N ops E i=some (g,cap,x,y):=by kernel_rfl) (hA:E.amb=Am l:=by kernel_rfl):RW P N ops i E Q:=by
 obtain⟨h1,⟨d,h2,h3⟩,t,o1,o2,tys,h4,h5,h6,h7⟩:=gJ hc;obtain⟨h8,h9⟩:=HQ h1;unfold RW;rw[GN h8];exact ACy a h d (λv hv=>by have:=hk v hv;rw[h2]at this;exact this) hA h4 h5 h6 h7 h2 h3 h9
theorem u7 {rr:β} {l:List γ} {k:List γ->Option β} {cap:Array Value} (a:Nc P Am sf cap) (hB:∀l l',(Am l).B=(Am l').B/\(Am l).pin=none) {x y:Int} (h:(pW l x y).bind k=some rr) (hk:∀v,k v=some rr->RW P N ops (i+1) (({E with amb:=Am v}:St).put (oA ops i).dst<|.tup []) Q) (hc:kV P N ops E i=some (sf,cap,x,y):=by kernel_rfl) (hA:E.amb=Am l:=by kernel_rfl):RW P N ops i E Q:=by
 obtain⟨h1,⟨d,h2,h3⟩,t,o1,o2,tys,h4,h5,h6,h7⟩:=gJ hc;obtain⟨h8,h9⟩:=HQ h1;unfold RW;rw[GN h8];exact ACw a hB h d (λv hv=>by have:=hk v hv;rw[h2]at this;exact this) hA h4 h5 h6 h7 h2 h3 h9
def ACU (P:Program) (N:Nat) (ops:Array Oper) (E:St) (i:Nat):Option (FuncId×List AV):=bif R6 P ops E i&&Gz N (oA ops i)then
 (match(oA ops i).op with
 | .call c=>match c.callee with
  | .value (.func f)=>match P.funcs[f]? with
   |some fn=>match Jp P E ((c.argTypes.toList.zip c.args.toList).map λ(t,x)=>(false,t,x)) (List.replicate c.args.size none)with
    | some (l, b) => bif b && (l.all sE && (!(fn.name == "runtime.NumGoroutine") && (!fn.body.isNone && Nat.beq c.argTypes.size c.args.size))) then some (f, l) else none
    |none=>none
   |none=>none
  |_=>none
 |_=>none)else none
theorem SF {rr:β} {f:FuncId} {l:List AV} {xl:List γ} {k:List γ->Option β} {x:Option (List γ)} (h:x.bind k=some rr) (hB:∀l l',(Am l).B=(Am l').B/\(Am l).pin=none) (e:∀v,x=some v->Nf P f (Am xl) l (Am v)) (hk:∀v,k v=some rr->RW P N ops (i+1) (({E with amb:=Am v}:St).put (oA ops i).dst<|.tup []) Q) (hc:ACU P N ops E i=some (f,l):=by kernel_rfl) (hA:E.amb=Am xl:=by kernel_rfl):RW P N ops i E Q:=by
 unfold ACU at hc
 cases hb:(R6 P ops E i&&Gz N (oA ops i))with
 |false=>rw[hb]at hc;cases hc
 |true=>
  rw[hb]at hc;simp only[Ae]at hc;simp only[Aj]at hb;obtain⟨d,h1,h2,_⟩:=ES hb.2;obtain⟨h8,h9⟩:=HQ hb.1;split at hc
  ·rename_i c g;split at hc
   ·rename_i f' a;split at hc
    ·rename_i fn j;split at hc
     ·rename_i l' b m
      cases hq : (b && (l'.all sE && (!(fn.name == "runtime.NumGoroutine") && (!fn.body.isNone && Nat.beq c.argTypes.size c.args.size)))) with
      |false=>rw[hq]at hc;cases hc
      |true=>
       rw[hq]at hc;simp only[Ae,Al,Bo]at hc;obtain⟨rfl,rfl⟩:=hc;simp only[Aj,CF]at hq;obtain⟨rfl,q1,q2,q3,q4⟩:=hq;unfold RW;rw[GN h8];refine ADL (fn:=fn) h d Am (A:=Am xl) (args:=c.args) (tys:=c.argTypes) ?_ hA (λv=>⟨(hB _ _).1,(hB _ v).2⟩) m (bT q1) e (λv _ hv=>by have:=hk v hv;rw[h1]at this;exact this) j q2 q3 h1 h2 (Bl q4) h9;rw[g];cases c;simp only at a;rw[a]
     cases hc
    cases hc
   cases hc
  cases hc
theorem ra {Am:α->Rz} {e:Exit} {v r:α} (h:some v=some r) (he:e= .normal\/e= .ret:=by first|exact .inr rfl|exact .inl rfl) (hA:E.amb=Am v:=by kernel_rfl):(e= .normal\/e= .ret)/\E.amb=Am r:=by
 injection h with h
 rw[<-h];exact⟨he,hA⟩
end Go.TI
