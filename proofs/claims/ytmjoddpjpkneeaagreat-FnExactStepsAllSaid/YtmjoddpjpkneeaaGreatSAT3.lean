/- What walks of Go code need. No condition. -/
import Derived.Test.YtmjoddpjpkneeaaGreatSAT2
import Derived.Laws.StructEq
set_option linter.unusedSimpArgs false
set_option linter.unusedVariables false
namespace Go.TI
open Go Go.RowKit
def UM (E:St) (x:Operand) (sz:Nat):Option (List TV):=match E.ref x with
 |some (r,q,j)=>match E.place r q j with
  |some (.sl _ _ s cells)=>bif Nat.beq s sz then some cells else none
  |_=>none
 |none=>none
variable {E E':St} {P:Program} {N i sz e j d b by_ m sz':Nat} {Q:Exit->St->Prop} {ops ops2:Array Oper} {α β V S γ W A α':Type} {n n':Int} {dn FA UA q mv:List Nat} {w:World} {y:Code} {as:List AV} {blk:Root->Nat} {s:SV} {fn:Func} {FS US:Root->List Nat} {row row':List TV} {T T' t:TypeId} {K:St->Prop} {t':TV} {sf g:FuncId} {rest:List Oper} {r:β} {f:α->List TV} {l:List α} {kk:α->Option β} {s0:S} {k:V->Option β} {u:List α} {Am:List γ->KC} {f':α'->List TV} {l':List α'} {x':α'} {fin:α->List TV} {tx:Option β} {ty:Option β} {xl:List γ}
theorem La {x:Operand} {a:List TV} (h:UM E x sz=some a):∃r q j b e,E.ref x=some (r,q,j)/\E.place r q j=some (.sl b e sz a):=by grind [AI,UM]
def W8 (P:Program) (t:TypeId):TypeId:=match P.underlying t with
 |some (.slice e)=>e
 |_=>0
def VD (P:Program) (t:TypeId) (sz:Nat):Bool:=match P.underlying t with
 |some (.slice e)=>Nat.beq (P.cellsOf e) sz&&Nat.blt 0 sz
 |_=>false
theorem KO (h:VD P t sz=true):∃e,P.underlying t=some (.slice e)/\P.cellsOf e=sz/\Nat.blt 0 sz=true:=by grind [AI,VD]
def FL (E:St) (x:Operand):Root×List Nat×Nat:=(E.ptr? x).getD (.hand,[],0)
def LK (E:St) (x:Operand):Root×List Nat×Nat:=(E.ref x).getD (.hand,[],0)
def S5 (E:St) (x:Operand):Option (List TV×Nat):=match E.ptr? x with
 |some (r,q,j)=>match(E.root r).bind λcs=>Ba cs q with
  |some row=>some (row,j)
  |none=>none
 |none=>none
theorem ME {x:Operand} {a:List TV} (h:S5 E x=some (a,j)):E.ptr? x=some ((FL E x).1,(FL E x).2.1,j)/\(E.root (FL E x).1).bind (λcs=>Ba cs (FL E x).2.1)=some a:=by grind [S5,FL]
def Dp (o:Oper):TypeId×Operand×Operand:=match o.op with
 | .indexAddr t a i=>(t,a,i)
 |_=>(0,.tmp 0,.tmp 0)
def e7 (o:Oper):Bool:=match o.op with
 | .indexAddr .. =>true
 |_=>false
theorem c9 {o:Oper} (h:e7 o=true):o.op= .indexAddr (Dp o).1 (Dp o).2.1 (Dp o).2.2:=by grind [e7,Dp]
def Om (P:Program) (E:St) (x:Operand):Option Int:=match E.cell1 P 0 x with
 |some (.int _ n)=>some n
 |_=>none
theorem Fg {x:Operand} (h:Om P E x=some n):∃k,E.cell1 P 0 x=some (.int k n):=by grind [Om]
def iR (P:Program) (E:St) (o:Oper) (sz:Nat):Option (List TV×Int):=bif e7 o&&VD P (Dp o).1 sz then(match UM E (Dp o).2.1 sz,Om P E (Dp o).2.2 with
 |some c,some n=>some (c,n)
 |_,_=>none)else none
def Yh (E:St) (o:Oper) (m:Nat):SV:= .one (.ptr (LK E (Dp o).2.1).1 (E.ver (LK E (Dp o).2.1).1) ((LK E (Dp o).2.1).2.1++ [(LK E (Dp o).2.1).2.2]) m)
section
variable {o:Oper} {x:α}
theorem Ja (hf:∀x,(f x).length=sz) (hx:gi l n=some x) (hc:iR P E o sz=some (Ai f l,n):=by kernel_rfl):AB P E o=some (Yh E o<|n.toNat*sz+0):=by grind [La,Fg,KO,NP,iR,e7,Dp,Yh,LK]
end
section
variable {o:Oper} {x:α}
theorem qF {e':Nat} (hf:∀x,(f x).length=sz) (hx:gi l n=some x) (hf':∀x,(f' x).length=sz') (hx':gi l' n'=some x') (k:Nat) (hi:(e7 o&&VD P (Dp o).1 sz&&Nat.blt k sz')=true:=by kernel_rfl) (hn:Om P E (Dp o).2.2=some n:=by kernel_rfl) (hr:E.ref (Dp o).2.1=some ((LK E (Dp o).2.1).1,(LK E (Dp o).2.1).2.1,n'.toNat*sz'+k):=by kernel_rfl) (hp:(E.root (LK E (Dp o).2.1).1).bind (λcs=>Ba cs (LK E (Dp o).2.1).2.1)=some (Ai f' l'):=by kernel_rfl) {a:Bool} (hc:(f' x')[k]?=some (.sl a e' sz<|Ai f l):=by rfl):AB P E o=some (Yh E o<|n.toNat*sz+0):=by
 simp only[Af]at hi;obtain⟨k',h5⟩:=Fg hn;obtain⟨e,h6,h7,h8⟩:=KO hi.1.2;have b:E.place (LK E (Dp o).2.1).1 (LK E (Dp o).2.1).2.1 (n'.toNat*sz'+k)=some (.sl a e' sz<|Ai f l):=by
  obtain⟨cs,h1,h2⟩:=Ac.1 hp
  grind [L8,St.place]
 grind [NP,c9,LK,Dp,Yh]
end
def MZ (o:Oper):TypeId×Operand×Nat:=match o.op with
 | .fieldAddr t a i=>(t,a,i)
 |_=>(0,.tmp 0,0)
def o8 (o:Oper):Bool:=match o.op with
 | .fieldAddr .. =>true
 |_=>false
theorem lW {o:Oper} (h:o8 o=true):o.op= .fieldAddr (MZ o).1 (MZ o).2.1 (MZ o).2.2:=by grind [o8,MZ]
def nT (P:Program) (o:Oper):Option Nat:=match P.underlying (MZ o).1 with
 |some (.struct fs)=>match fs[(MZ o).2.2]? with
  |some fd=>bif Nat.beq (P.cellsOf fd.type) 0 then none else some fd.offset
  |none=>none
 |_=>none
def q9 (E:St) (o:Oper) (m:Nat):SV:= .one (.ptr (FL E (MZ o).2.1).1 (E.stamp (FL E (MZ o).2.1).1 (FL E (MZ o).2.1).2.1) (FL E (MZ o).2.1).2.1 m)
section
variable {o:Oper} {x:α}
theorem DC (hf:∀x,(f x).length=sz) (hx:gi l n=some x) (k m:Nat) (hr:S5 E (MZ o).2.1=some (Ai f l,n.toNat*sz+k):=by kernel_rfl) (ho:(o8 o&&Nat.blt m sz)=true:=by kernel_rfl) (a:nT P o=some (m-k):=by kernel_rfl) (c:Nat.ble k m=true:=by kernel_rfl):AB P E o=some (q9 E o<|n.toNat*sz+m):=by
 rw[Af]at ho;obtain⟨h1,h2⟩:=ME hr;have d:k<=m:=by simp_all
 unfold nT at a;split at a
 ·rename_i fs hs;split at a
  ·rename_i fd b
   cases hb:Nat.beq (P.cellsOf fd.type) 0 with
   |true=>grind
   |false=>
    rw[hb]at a
    injection a with a
    have hm:k+fd.offset=m:=by omega
    exact PD hf _ _ k hx h2 (lW ho.1) hs h1 b hb hm<|by grind
  cases a
 cases a
end
def JV (o:Oper):TypeId×Operand:=match o.op with
 | .load t a=>(t,a)
 |_=>(0,.tmp 0)
def lT (o:Oper):Bool:=match o.op with
 | .load .. =>true
 |_=>false
theorem c8 {o:Oper} (h:lT o=true):o.op= .load (JV o).1 (JV o).2:=by grind [lT,JV]
def nQ (P:Program) (o:Oper) (k sz:Nat):Bool:=lT o&&!Tt P (JV o).1&&Nat.beq (P.cellsOf (JV o).1) 1&&(P.underlying (JV o).1).isSome&&Nat.blt k sz
def nR (P:Program) (o:Oper) (k m sz:Nat):Bool:=lT o&&Tt P (JV o).1&&Nat.beq (P.cellsOf (JV o).1) m&&Nat.ble (k+m) sz
def tX (E:St) (o:Oper) (j:Nat) (u:TV):SV:= .one (oN E (FL E (JV o).2).1 (FL E (JV o).2).2.1 j u)
def tY (E:St) (o:Oper) (j:Nat) (us:List TV):SV:= .agg (H4 E (FL E (JV o).2).1 (FL E (JV o).2).2.1 j us)
section
variable {o:Oper} {x:α}
theorem CI (hf:∀x,(f x).length=sz) (hx:gi l n=some x) (k:Nat) (hr:S5 E (JV o).2=some (Ai f l,n.toNat*sz+k):=by kernel_rfl) (ho:nQ P o k sz=true:=by kernel_rfl):AB P E o=some (tX E o (n.toNat*sz+k)<|((f x)[k]?).getD .junk):=by
 simp only[nQ,Af,EG]at ho;obtain⟨⟨⟨⟨h3,h4⟩,h5⟩,h6⟩,h7⟩:=ho;obtain⟨h1,h2⟩:=ME hr;have hk:k<(f x).length:=by simp_all
 refine oW hf _ _ k _ hx h2 (c8 h3) h1 h4 (AI h5) h6 h7 ?_
 grind
end
section
variable {o:Oper} {x:α}
theorem Hp (hf:∀x,(f x).length=sz) (hx:gi l n=some x) (k m:Nat) (hr:S5 E (JV o).2=some (Ai f l,n.toNat*sz+k):=by kernel_rfl) (ho:nR P o k m sz=true:=by kernel_rfl):AB P E o=some (tY E o (n.toNat*sz+k)<|((f x).drop k).take m):=by
 simp only[nR,Af]at ho;obtain⟨⟨⟨h3,h4⟩,h5⟩,h6⟩:=ho;obtain⟨h1,h2⟩:=ME hr;exact sJ hf _ _ k m hx h2 (c8 h3) h1 h4 (AI h5) h6
end
section
variable {x:α}
def Yd (o:Oper):TypeId×Operand:=match o.op with
 | .call c=>match c.callee,c.args.toList,c.argTypes.toList with
  | .builtin .len,[x],[t]=>(t,x)
  |_,_,_=>(0,.tmp 0)
 |_=>(0,.tmp 0)
end
section
variable {x:α}
def o7 (o:Oper):Bool:=match o.op with
 | .call c=>match c.callee,c.args.toList,c.argTypes.toList with
  | .builtin .len,[x],[t]=>true
  |_,_,_=>false
 |_=>false
end
theorem lP {o:Oper} (h:o7 o=true):o.op= .call {callee:= .builtin .len,args:= #[(Yd o).2],argTypes:= #[(Yd o).1]}:=by
 unfold o7 at h;unfold Yd;split at h
 ·rename_i c hc;split at h
  ·rename_i x t h1 h2 h3;obtain⟨callee,args,types⟩:=c;subst h1;obtain rfl:args= #[x]:=by cases args;simp_all
   obtain rfl:types= #[t]:=by cases types;simp_all
   rw[hc]
  cases h
 cases h
section
variable {o:Oper} {x:α}
theorem BV (hf:∀x,(f x).length=sz) (l:List α) (hr:UM E (Yd o).2 sz=some (Ai f l):=by kernel_rfl) (ho:(o7 o&&VD P (Yd o).1 sz)=true:=by kernel_rfl):AB P E o=some (.one<|.int .i64<|ln l):=by
 rw[Af]at ho;obtain⟨r,q,j,a,e',h3,h4⟩:=La hr;obtain⟨e,h6,h7,h8⟩:=KO ho.2;exact ZN hf l (lP ho.1) h6 h3 h4 h8
end
def U7 (P:Program) (E:St) (t:TypeId) (x:Operand):Option ByteArray:=match E.cell1 P t x with
 |some (.str s)=>some s
 |_=>none
theorem O6 {s:ByteArray} {x:Operand} (h:U7 P E t x=some s):E.cell1 P t x=some (.str s):=by grind [U7]
def cZ (P:Program) (t:TypeId):Bool:=match P.underlying t with
 |some .string=>true
 |_=>false
theorem Yi (h:cZ P t=true):P.underlying t=some .string:=by grind [cZ]
def nG (P:Program) (E:St) (o:Oper):Option (ByteArray×Int):=match o.op with
 | .index t a i=>match cZ P t,U7 P E t a,Om P E i with
  |true,some s,some n=>some (s,n)
  |_,_,_=>none
 |_=>none
theorem hD {o:Oper} {s:ByteArray} {b:Int} (h:sx s n=some b) (hc:nG P E o=some (s,n):=by kernel_rfl):AB P E o=some (.one<|.int .u8 b):=by grind [Fg,sH,Yi,O6,nG]
section
variable {x:α}
def Y4 (P:Program) (E:St) (d:Int):Option Operand->Option Int
 |none=>some d
 |some x=>Om P E x
end
def gE (P:Program) (E:St) (o:Oper):Option (ByteArray×Int×Int):=match o.op with
 | .slice t a lo hi none=>match cZ P t,U7 P E t a with
  |true,some s=>match Y4 P E 0 lo,Y4 P E (s.size:Nat) hi with
   |some l,some h=>some (s,l,h)
   |_,_=>none
  |_,_=>none
 |_=>none
section
variable {o:Oper}
theorem OK {d:Int} {x:Option Operand} (h:Y4 P E d x=some n):∃k,(match x with|some o=>E.cell1 P 0 o|none=>some (.int .i64 d))=some (.int k n):=by
 cases x with
 |none=>
  injection h with h
  simp_all
 |some x=>exact Fg h
end
theorem ZK {o:Oper} {s u:ByteArray} {l h:Int} (hx:sub s l h=some u) (hc:gE P E o=some (s,l,h):=by kernel_rfl):AB P E o=some (.one<|.str u):=by
 unfold gE at hc
 grind [OK,qI,Yi,O6]
section
variable {x:α}
def jJ (P:Program) (E:St) (o:Oper):Option (ByteArray×ByteArray):=match o.op with
 | .binOp .add t x y _=>match U7 P E t x,U7 P E t y with
  |some a,some b=>some (a,b)
  |_,_=>none
 |_=>none
end
theorem S7 {o:Oper} {a b u:ByteArray} (hx:Uk a b=some u) (hc:jJ P E o=some (a,b):=by kernel_rfl):AB P E o=some (.one<|.str u):=by grind [qL,O6,jJ]
section
variable {x:α}
def nV (o:Oper):TypeId×TypeId×Operand:=match o.op with
 | .convert s d x=>(s,d,x)
 |_=>(0,0,.tmp 0)
end
section
variable {x:α}
def rB (P:Program) (o:Oper):Bool:=match o.op with
 | .convert s d x=>(match P.underlying s,P.underlying d with
  |some (.slice e),some .string=>(match P.underlying e with
   |some (.int .u8)=>true
   |_=>false)
  |_,_=>false)
 |_=>false
end
theorem qG {o:Oper} {f:Int->List TV} (hf:∀n,f n=[.int .u8 n]) (l:List Int) (hr:UM E (nV o).2.2 1=some (Ai f l):=by kernel_rfl) (ho:rB P o=true:=by kernel_rfl):AB P E o=some (.one<|.str<|NN l):=by grind [La,sL,rB,nV]
section
variable {x:α}
def gI (P:Program) (E:St) (o:Oper) (k:IntKind):Option (Int×Int):=match o.op with
 | .binOp .shl t x y _=>match E.cell1 P t x,E.cell1 P t y with
  |some (.int k' a),some (.int _ b)=>bif decide (k'=k)then some (a,b)else none
  |_,_=>none
 |_=>none
end
theorem sE {o:Oper} {k:IntKind} {a b v:Int} (hx:shl k a b=some v) (hc:gI P E o k=some (a,b):=by kernel_rfl):AB P E o=some (.one<|.int k v):=by grind [qJ,gI]
section
variable {x:α}
def K4 (o:Oper):TypeId×Operand×Option Operand×Option Operand:=match o.op with
 | .slice t x lo hi none=>(t,x,lo,hi)
 |_=>(0,.tmp 0,none,none)
end
section
variable {x:α}
def l9 (o:Oper):Bool:=match o.op with
 | .slice t x lo hi none=>true
 |_=>false
end
theorem dA {o:Oper} (h:l9 o=true):o.op= .slice (K4 o).1 (K4 o).2.1 (K4 o).2.2.1 (K4 o).2.2.2 none:=by grind [l9,K4]
def cD (E:St) (x:Operand) (sz:Nat):Option (Nat×List TV):=match E.ref x with
 |some (r,q,j)=>match E.place r q j with
  |some (.sl false e s cells)=>bif Nat.beq s sz then some (e,cells)else none
  |_=>none
 |none=>none
theorem Sz {x:Operand} {a:List TV} (h:cD E x sz=some (e,a)):∃r q j,E.ref x=some (r,q,j)/\E.place r q j=some (.sl false e sz a):=by grind [AI,cD]
section
variable {o:Oper} {x:α}
theorem tB (hf:∀x,(f x).length=sz) {v:List α} {a b:Int} (e:Nat) (hx:dr l a b=some v) (hr:cD E (K4 o).2.1 sz=some (e,Ai f l):=by kernel_rfl) (ha:Y4 P E 0 (K4 o).2.2.1=some a:=by kernel_rfl) (hb:((K4 o).2.2.2.bind<|Om P E)=some b:=by kernel_rfl) (ho:(l9 o&&VD P (K4 o).1 sz)=true:=by kernel_rfl):AB P E o=some (.one<|.sl false e sz<|Ai f v):=by
 rw[Af]at ho;obtain⟨r,q,j,h1,h2⟩:=Sz hr;obtain⟨e1,h6,h7,h8⟩:=KO ho.2;obtain⟨k1,h3⟩:=OK ha;obtain⟨oh,h4,h5⟩:=Ac.1 hb;obtain⟨k2,h5⟩:=Fg h5;have:=dA ho.1
 grind [sK]
end
section
variable {o:Oper} {x:α}
theorem oV (hf:∀x,(f x).length=sz) {v:List α} {a:Int} (e:Nat) (hx:dr l a (ln l)=some v) (hr:cD E (K4 o).2.1 sz=some (e,Ai f l):=by kernel_rfl) (ha:Y4 P E 0 (K4 o).2.2.1=some a:=by kernel_rfl) (ho:(l9 o&&VD P (K4 o).1 sz&&(K4 o).2.2.2.isNone)=true:=by kernel_rfl):AB P E o=some (.one<|.sl false e sz<|Ai f v):=by
 simp only[Af]at ho;obtain⟨r,q,j,h1,h2⟩:=Sz hr;obtain⟨e1,h6,h7,h8⟩:=KO ho.1.2;obtain⟨k1,h3⟩:=OK ha;have:=dA ho.1.1
 grind [Option.isNone_iff_eq_none,qK]
end
def p6 (P:Program) (E:St) (o:Oper) (m:Nat):Bool:=match P.underlying (Dp o).1 with
 |some (.array len e)=>e7 o&&Nat.beq (P.cellsOf e) 1&&Nat.blt m len&&(match E.ptr? (Dp o).2.1 with
  |some (r,q,j)=>(E.place r q<|j+m).isSome
  |none=>false)
 |_=>false
def nE (E:St) (o:Oper) (m:Nat):SV:= .one (.ptr (FL E (Dp o).2.1).1 (E.stamp (FL E (Dp o).2.1).1 (FL E (Dp o).2.1).2.1) (FL E (Dp o).2.1).2.1<|(FL E (Dp o).2.1).2.2+m)
theorem rY {o:Oper} (m:Nat) (hn:n=(m:Int)) (hi:Om P E (Dp o).2.2=some n:=by kernel_rfl) (ho:p6 P E o m=true:=by kernel_rfl):AB P E o=some (nE E o m):=by
 unfold p6 at ho;split at ho
 ·rename_i len e ht;simp only[Af]at ho;obtain⟨⟨⟨h1,h2⟩,h3⟩,h4⟩:=ho;obtain⟨k,hi⟩:=Fg hi;split at h4
  ·rename_i r q j hp;have:=sG r q j hn (c9 h1) ht hi hp (AI h2) h3 h4
   grind [nE,FL]
  cases h4
 cases ho
section
variable {x:α}
def Ez (o:Oper):TypeId×TypeId×Operand×Operand:=match o.op with
 | .call c=>match c.callee,c.args.toList,c.argTypes.toList with
  | .builtin .append,[s,x],[t,t']=>(t,t',s,x)
  |_,_,_=>(0,0,.tmp 0,.tmp 0)
 |_=>(0,0,.tmp 0,.tmp 0)
end
section
variable {x:α}
def mB (o:Oper):Bool:=match o.op with
 | .call c=>match c.callee,c.args.toList,c.argTypes.toList with
  | .builtin .append,[s,x],[t,t']=>true
  |_,_,_=>false
 |_=>false
end
theorem dB {o:Oper} (h:mB o=true):o.op= .call {callee:= .builtin .append,args:= #[(Ez o).2.2.1,(Ez o).2.2.2],argTypes:= #[(Ez o).1,(Ez o).2.1]}:=by
 unfold mB at h;unfold Ez;split at h
 ·rename_i c hc;split at h
  ·rename_i s x t t' h1 h2 h3;obtain⟨callee,args,types⟩:=c;subst h1;obtain rfl:args= #[s,x]:=by grind
   obtain rfl:types= #[t,t']:=by grind
   rw[hc]
  cases h
 cases h
def mW (P:Program) (N:Nat) (o:Oper) (sz by_:Nat):Bool:=mB o&&Nat.beq (Ez o).1 (Ez o).2.1&&VD P (Ez o).1 sz&&(HO P<|W8 P (Ez o).1).isSome&&Nat.beq (P.bytesOf<|W8 P (Ez o).1) by_&&Nat.blt 0 by_&&FN N o
def Ru (P:Program) (E:St) (o:Oper) (sz:Nat):Option (List TV×St):=match E.cell1 P (Ez o).1 (Ez o).2.2.1 with
 |some sv=>match Di E sv with
  |some (.sl true e s cells,E1)=>bif Nat.beq e (W8 P (Ez o).1)&&Nat.beq s sz then some (cells,E1)else none
  |_=>none
 |none=>none
def pC (P:Program) (E:St) (o:Oper) (sz:Nat):St:=((Ru P E o sz).map Prod.snd).getD E
def r7 (P:Program) (o:Oper) (sz:Nat) (a:List TV):SV:= .one (.sl true (W8 P (Ez o).1) sz a)
def jO (P:Program) (E1:St) (o:Oper) (sz:Nat):Option (Nat×List TV×St):=match E1.ref (Ez o).2.2.2 with
 |some (r,q,j)=>match E1.place r q j with
  |some (.sl _ _ s cells)=>bif Nat.beq s sz then(match DK E1 (H4 E1 r (q++ [j]) 0 cells)with
   |some (news,E2)=>some (cells.length,news,E2)
   |none=>none)else none
  |_=>none
 |none=>none
theorem dL {e:TypeId} (h:P.underlying t=some (.slice e)):W8 P t=e:=by unfold W8;rw[h]
section
variable {o:Oper} {x:α}
theorem qZ {E1 E2:St} {r:Root} {e2:Nat} {cells2:List TV} (hf:∀x,(f x).length=sz) (l m:List α) (h:ap by_ l m=some u) (hd:Ru P E o sz=some (Ai f l,E1)) {b:Bool} (hr:E1.ref (Ez o).2.2.2=some (r,q,j)) (hp:E1.place r q j=some (.sl b e2 sz cells2)) (hn:DK E1 (H4 E1 r (q++ [j]) 0 cells2)=some (Ai f m,E2)) (hl:cells2.length=m.length*sz) (ho:mW P N o sz by_=true):Bu P N false E o=some (E2.put o.dst (r7 P o sz (Ai f u))):=by
 obtain⟨rfl,g⟩:=mV h;simp only[mW,Af]at ho;obtain⟨⟨⟨⟨⟨⟨a1,a2⟩,a3⟩,a4⟩,a5⟩,a6⟩,a7⟩:=ho;obtain⟨d,a8,_,a9⟩:=Dn a7;obtain⟨e,b1,b2,b3⟩:=KO a3;have a:=dL b1;rw[a]at a4 a5;have h0':0<sz:=by simp_all
 have hb0':0<by_:=by simp_all
 have hb:=AI a5;have i:=AI a2;unfold Ru at hd;rw[a]at hd;split at hd
 ·rename_i sv hs;split at hd
  ·rename_i e1 s c E1' h1
   cases hc:(Nat.beq e1 e&&Nat.beq s sz)with
   |false=>grind
   |true=>
    rw[hc]at hd
    injection hd with hd
    injection hd with hd1 hd2
    rw[Af]at hc;have c1:=AI hc.1;have c2:=AI hc.2;subst hd1 hd2 c1 c2;have k:(Ai f l).length/s=l.length:=by simp_all [Dm]
    have n:cells2.length/s=m.length:=by simp_all
    have p:l.length+m.length<=(l.length+m.length)*by_:=Nat.le_mul_of_pos_right _ hb0';simp_all [dB,Y5,Bu,Jc,r7];grind
  cases hd
 cases hd
end
theorem Ts {o:Oper} {a:List TV} (h:(Ru P E o sz).map Prod.fst=some a):Ru P E o sz=some (a,pC P E o sz):=by grind [pC,Ru]
section
variable {o:Oper} {x:α}
theorem Ds {m:List α} (hf:∀x,(f x).length=sz) (hg:∀x,Ge (f x)=true) (l:List α) (h:ap by_ l m=some u) (hd:(Ru P E o sz).map Prod.fst=some (Ai f l):=by kernel_rfl) (hm:UM (pC P E o sz) (Ez o).2.2.2 sz=some (Ai f m):=by kernel_rfl) (ho:mW P N o sz by_=true:=by kernel_rfl):
  Bu P N false E o=some ((pC P E o sz).put o.dst<|r7 P o sz<|Ai f u):=by
 obtain⟨r,q,j,a,e,h1,h2⟩:=La hm;exact qZ hf l m h (Ts hd) h1 h2 (by grind [Sr,S6,LI]) (Dm hf m) ho
end
section
variable {o:Oper} {x:α}
theorem R4 (hf:∀x,(f x).length=sz) (l m:List α) (h:ap by_ l m=some u) (hd:(Ru P E o sz).map Prod.fst=some (Ai f l):=by kernel_rfl) (hm:(jO P (pC P E o sz) o sz).map (λz=>(z.1,z.2.1))=some (m.length*sz,Ai f m):=by kernel_rfl) (ho:mW P N o sz by_=true:=by kernel_rfl):
  Bu P N false E o=some ((((jO P (pC P E o sz) o sz).map λz=>z.2.2).getD E).put o.dst<|r7 P o sz<|Ai f u):=by
 have hd':=Ts hd;generalize hE:pC P E o sz=E1 at hm hd'⊢;unfold jO at hm⊢
 grind [AI,qZ]
end
def Ok (o:Oper):TypeId×Operand×Operand:=match o.op with
 | .makeSlice t l c=>(t,l,c)
 |_=>(0,.tmp 0,.tmp 0)
def o6 (o:Oper):Bool:=match o.op with
 | .makeSlice .. =>true
 |_=>false
theorem lO {o:Oper} (h:o6 o=true):o.op= .makeSlice (Ok o).1 (Ok o).2.1 (Ok o).2.2:=by grind [o6,Ok]
def qP (P:Program) (N:Nat) (o:Oper) (sz by_:Nat):Bool:=o6 o&&VD P (Ok o).1 sz&&Nat.beq (P.bytesOf<|W8 P (Ok o).1) by_&&FN N o
section
variable {o:Oper} {x:α}
theorem dF (hf:∀x,(f x).length=sz) (z:α) (h:mk by_ z n=some u) (hl:Om P E (Ok o).2.1=some n:=by kernel_rfl) (hc:Om P E (Ok o).2.2=some n:=by kernel_rfl) (hz:HO P (W8 P (Ok o).1)=some (f z):=by kernel_rfl) (ho:qP P N o sz by_=true:=by kernel_rfl):
  Bu P N false E o=some (E.put o.dst<|.one<|.sl true (W8 P (Ok o).1) sz<|Ai f u):=by
 simp only[qP,Af]at ho;obtain⟨⟨⟨a1,a2⟩,a3⟩,a4⟩:=ho;obtain⟨d,a5,a6,_⟩:=Dn a4;obtain⟨e,b1,b2,b3⟩:=KO a2;have a:=dL b1;rw[a]at hz a3⊢;obtain⟨k1,hl⟩:=Fg hl;obtain⟨k2,hc⟩:=Fg hc;rw[a5];exact sC z h (lO a1) a5 a6 b1 hl hc hz rfl (AI a3) b2
end
section
variable {x:α}
def Mu (o:Oper):TypeId×Operand×Operand:=match o.op with
 | .store t a x=>(t,a,x)
 |_=>(0,.tmp 0,.tmp 0)
end
def o4 (o:Oper):Bool:=match o.op with
 | .store .. =>o.dst.isNone
 |_=>false
theorem lN {o:Oper} (h:o4 o=true):o.op= .store (Mu o).1 (Mu o).2.1 (Mu o).2.2/\o.dst=none:=by
 unfold o4 at h;unfold Mu;split at h
 ·simp_all
 cases h
def Qu (P:Program) (E:St) (o:Oper):Option (List TV×St):=match E.val P (Mu o).1 (Mu o).2.2 with
 |some s=>Hz E s
 |none=>none
def kJ (P:Program) (E:St) (o:Oper):List TV:=((Qu P E o).map Prod.fst).getD []
def b9 (P:Program) (E:St) (o:Oper):St:=((Qu P E o).map Prod.snd).getD E
def j7 (P:Program) (E:St) (o:Oper):Root×List Nat×Nat:=FL (b9 P E o) (Mu o).2.1
def eC (P:Program) (E:St) (o:Oper) (k sz:Nat):Bool:=o4 o&&(Qu P E o).isSome&&Nat.beq (kJ P E o).length (P.cellsOf (Mu o).1)&&Nat.blt 0 (kJ P E o).length&&Nat.ble (k+(kJ P E o).length) sz
section
variable {o:Oper} {x:α}
theorem qV {r:Root} (hf:∀x,(f x).length=sz) (hx:gi l n=some x) (k:Nat) {c:Nat} {cs cs':List TV} (ho:eC P E o k sz=true) (hp:(b9 P E o).ptr? (Mu o).2.1=some (r,c::q,n.toNat*sz+k)) (hr:(b9 P E o).root r=some cs) (A:At cs (c::q) (Ai f l) (λa=>setRow a (n.toNat*sz+k) (kJ P E o)) cs'):Bu P N false E o=some (((b9 P E o).setRoot r cs').bump r):=by
 simp only[eC,Af]at ho;obtain⟨⟨⟨⟨a1,a2⟩,a3⟩,a4⟩,a5⟩:=ho;obtain⟨b1,b2⟩:=lN a1;have ht:Qu P E o=some (kJ P E o,b9 P E o):=by
  unfold kJ b9
  cases hh:Qu P E o with
  |none=>grind
  |some z=>rfl
 generalize hX:kJ P E o=xs at*;unfold Qu at ht;split at ht
 ·rename_i s hs;have h0':0<xs.length:=by simp_all
  simp only[Bu,b2,b1,Nd,hs,ht,hp,hr,A.c];rw[Bw ⟨A.o,AI a3,h0',HF hf hx a5⟩,Bm (by simp),A.u]
 cases ht
end
section
variable {o:Oper}
def kQ (E:St) (r:Root) (c:Nat) (a:List TV):List TV:=match E.root r with
 |some cs=>match cs[c]? with
  |some (.sl o e s _)=>cs.set c<|.sl o e s a
  |_=>cs
 |none=>[]
end
def Li (E:St) (r:Root) (c:Nat):Option (List TV):=match E.root r with
 |some cs=>match cs[c]? with
  |some (.sl true e s row)=>some row
  |_=>none
 |none=>none
theorem MG {r:Root} {c:Nat} {a:List TV} (h:Li E r c=some a):∃cs e s,E.root r=some cs/\cs[c]?=some (.sl true e s a)/\∀row',kQ E r c row'=cs.set c (.sl true e s row'):=by grind [Li,kQ]
section
variable {o:Oper} {x:α}
theorem Hl (hf:∀x,(f x).length=sz) (hx:gi l n=some x) (k c:Nat) (z:α) (ho:eC P E o k sz=true:=by kernel_rfl) (hp:(b9 P E o).ptr? (Mu o).2.1=some ((j7 P E o).1,[c],n.toNat*sz+k):=by kernel_rfl) (hr:Li (b9 P E o) (j7 P E o).1 c=some (Ai f l):=by kernel_rfl) (hz:setRow (f x) k (kJ P E o)=f z:=by kernel_rfl):Bu P N false E o=some (((b9 P E o).setRoot (j7 P E o).1<|kQ (b9 P E o) (j7 P E o).1 c<|Ai f<|si l n z).bump (j7 P E o).1):=by grind [MG,qV,At.one,C8,eC]
end
section
variable {o:Oper} {x:α}
theorem qU {s:Nat} (hf:∀x,(f x).length=sz) (hx:gi l n=some x) (k c:Nat) (z:α) (hf':∀x,(f' x).length=sz') (hx':gi l' n'=some x') (k':Nat) (z':α') (ho:(eC P E o k sz&&Nat.blt k' sz')=true:=by kernel_rfl) (hp:(b9 P E o).ptr? (Mu o).2.1=some ((j7 P E o).1,[c,n'.toNat*sz'+k'],n.toNat*sz+k):=by kernel_rfl) (hr:Li (b9 P E o) (j7 P E o).1 c=some (Ai f' l'):=by kernel_rfl) (hz:setRow (f x) k (kJ P E o)=f z:=by kernel_rfl) (hc:(f' x')[k']?=some (.sl true e s<|Ai f l):=by rfl) (hc':(f' x').set k' (.sl true e s<|Ai f<|si l n z)=f' z':=by rfl):Bu P N false E o=some (((b9 P E o).setRoot (j7 P E o).1<|kQ (b9 P E o) (j7 P E o).1 c<|Ai f'<|si l' n' z').bump (j7 P E o).1):=by
 obtain⟨cs,e1,s1,h1,h2,h3⟩:=MG hr;rw[Af]at ho;refine qV hf hx k ho.1 hp h1 ?_
 grind [rV,At.one,C8,eC]
end
theorem KB.o {ops:Array Oper} {ts dn:List Nat} (mv:Bool) (h:KW P N ops ts (i::dn) ((Bu P N mv E (oA ops i)).getD E) Q) (hs:(Bu P N mv E (oA ops i)).isSome=true:=by kernel_rfl) (hk:(NR P ops E i&&(kp (oA ops i)||ts.contains i))=true:=by kernel_rfl):KB P N ops ts dn i E Q:=LW (getD_some hs) h hk
def bits:Nat->List (TypeId×Operand)->List (Bool×TypeId×Operand)
 |_,[]=>[]
 |m,(t,x)::l=>(Nat.beq (m %2) 1,t,x)::bits (m/2) l
def NS (o:Oper):Nat:=match o.op with
 | .call c=>match c.callee with
  | .value (.func f)=>f
  |_=>0
 |_=>0
def ED (o:Oper):List (TypeId×Operand):=match o.op with
 | .call c=>c.argTypes.toList.zip c.args.toList
 |_=>[]
def R6 (P:Program) (N:Nat) (o:Oper):Bool:=(match o.op with
 | .call c=>match c.callee with
  | .value (.func f)=>Nat.beq c.argTypes.size c.args.size&&(match P.funcs[f]? with
   | some fn => !(fn.name == "runtime.NumGoroutine") && !fn.body.isNone
   |none=>false)
  |_=>false
 |_=>false)&&(match o.dst with
 |some d=>Nat.blt d N
 |none=>true)
theorem PY:∀{l:List (TypeId×Operand)} {m:Nat},(bits m l).map (λx=>x.2.2)=l.map Prod.snd
 |[],m=>rfl
 |(t,x)::l,m=>by simp only[bits,BQ,PY]
theorem NJ {o:Oper} (h:R6 P N o=true):∃args tys,o.op= .call {callee:= .value (.func<|NS o),args:=args,argTypes:=tys}/\R2 P (NS o)/\(∀d,o.dst=some d->d<N)/\(ED o).map Prod.snd=args.toList:=by
 simp only[R6,Af]at h;obtain⟨h1,h2⟩:=h;have hN:∀d,o.dst=some d->d<N:=by
  intro d hd;simp_all
 unfold NS ED;split at h1
 ·rename_i c hc;split at h1
  ·rename_i f a;rw[Af]at h1;obtain⟨h3,h4⟩:=h1;split at h4
   ·rename_i fn b;simp only[Af,EG]at h4;obtain⟨callee,args,types⟩:=c;subst a;have hz:=AI h3;refine⟨args,types,by simp only[hc],?_,hN,?_⟩
    ·exact⟨fn,b,by grind,h4.2⟩
    grind [QM]
   cases h4
  cases h1
 cases h1
def sN (P:Program) (E:St) (o:Oper) (m:Nat):Option (List (Option SV)×St):=HC P E<|bits m<|ED o
def pA (P:Program) (E:St) (o:Oper) (m:Nat):St:=((sN P E o m).map Prod.snd).getD E
def r9 (P:Program) (E:St) (o:Oper) (m:Nat):Option (List AV×Bool):=match sN P E o m with
 |some (ss,E1)=>FP P E1 (bits m<|ED o) ss
 |none=>none
def Z6 (P:Program) (E:St) (o:Oper) (m:Nat):Option (List AV):=(r9 P E o m).map Prod.fst
def oL (P:Program) (E:St) (o:Oper) (m:Nat):Bool:=match r9 P E o m with
 |some (_,b)=>b
 |none=>false
theorem jC {o:Oper} {a:SV} (h:Z6 P E o m=some as) (hc:oL P E o m=true\/AL a=false):PU P E o.dst (bits m (ED o)) as a ((pA P E o m).put o.dst a):=by
 unfold Z6 oL r9 at*;unfold pA
 cases hm:sN P E o m with
 |none=>grind
 |some z=>
  obtain⟨ss,E1⟩:=z;rw[hm]at h hc;simp only at h hc
  cases hs:FP P E1 (bits m<|ED o) ss with
  |none=>grind
  |some y=>
   obtain⟨as',c⟩:=y;rw[hs]at h hc
   injection h with h
   subst h;exact⟨ss,E1,c,hm,hs,hc,rfl⟩
theorem ca {γ:Type _} {l l':List γ} {a b:γ} (h:a=b) (k:l=l'):a::l=b::l':=by rw[h,k]
theorem cs {a b:List TV} (h:Al a=b):TV.sl false e sz (Al a)= .sl false e sz b:=by rw[h]
theorem co {a b:TV} (h:a=b):AV.sv (.one a)= .sv (.one b):=by rw[h]
theorem W9 {a b:List TV} (h:a=b):AV.sv (.agg a)= .sv (.agg b):=by rw[h]
theorem RW.c {l:List AV} {n:Nat} {x:Option α} (m:Nat) (h:x.bind kk=some r) {enc:α->SV} (a:∀v,x=some v->An P (NS (oA ops i)) l (enc v) (List.replicate n .gone)) (hk:∀v,x=some v->kk v=some r->RW P N ops (i+1) ((pA P E (oA ops i) m).put (oA ops i).dst (enc v)) Q) (b:Z6 P E (oA ops i) m=some l:=by kernel_rfl) (hc:oL P E (oA ops i) m=true\/∀v,AL (enc v)=false:=by exact .inl<|by kernel_rfl) (ho:(NR P ops E i&&R6 P N (oA ops i))=true:=by kernel_rfl):RW P N ops i E Q:=by
 obtain⟨v,hv,h⟩:=Ac.1 h;rw[Af]at ho;obtain⟨h1,h2⟩:=EC ho.1;obtain⟨args,tys,h3,h4,h5,h6⟩:=NJ ho.2;unfold RW;rw[DI h1];exact Ao.call h3 h4 h2 h5 (bits m<|ED<|oA ops i) (by rw[PY,h6]) (a v hv) (jC b<|hc.imp id λh=>h v)<|hk v hv h
section
variable {ts:List Nat}
theorem KB.c {l:List AV} {n:Nat} {x:Option α} (m:Nat) (h:x.bind kk=some r) {enc:α->SV} (a:∀v,x=some v->An P (NS (oA ops i)) l (enc v) (List.replicate n .gone)) (hk:∀v,x=some v->kk v=some r->KW P N ops ts (i::dn) ((pA P E (oA ops i) m).put (oA ops i).dst (enc v)) Q) (b:Z6 P E (oA ops i) m=some l:=by kernel_rfl) (hc:oL P E (oA ops i) m=true\/∀v,AL (enc v)=false:=by exact .inl<|by kernel_rfl) (ho:(NR P ops E i&&R6 P N (oA ops i)&&((bits m<|ED<|oA ops i).all (λx=>!x.1)||ts.contains i))=true:=by kernel_rfl):KB P N ops ts dn i E Q:=by
 obtain⟨v,hv,h⟩:=Ac.1 h;simp only[Af]at ho;obtain⟨h1,h2⟩:=EC ho.1.1;obtain⟨args,tys,h3,h4,h5,h6⟩:=NJ ho.1.2;exact Ox.call i (FC h1) h3 h4 h2 h5 (bits m<|ED<|oA ops i) (by rw[PY,h6]) ho.2 (a v hv) (jC b<|hc.imp id λh=>h v)<|hk v hv h
end
theorem gs {f:FuncId} {l l':List AV} {n:Nat} {x:Option α} {enc:α->SV} (e:l=l') (h:∀v,x=some v->An P f l' (enc v) (List.replicate n .gone)):∀v,x=some v->An P f l (enc v) (List.replicate n .gone):=e▸h
def jE (E:St) (o:Oper):Root:=match ED o with
 |(_,x)::_=>(FL E x).1
 |[]=> .hand
def mL (E:St) (o:Oper):Bool:=match ED o with
 |(_,x)::_=>(match E.ptr? x with
  |some (r,[],0)=>r.mem
  |_=>false)
 |[]=>false
def sV (P:Program) (E:St) (o:Oper):Option (List AV×Bool):=FP P (E.without<|jE E o) (bits 0 (ED o).tail)<|List.replicate (bits 0 (ED o).tail).length none
def mM (P:Program) (E:St) (o:Oper):Option (List AV):=(sV P E o).map Prod.fst
def r6 (P:Program) (E:St) (o:Oper):Bool:=match sV P E o with
 |some (_,b)=>b
 |none=>false
theorem rA {o:Oper} (h:mL E o=true):∃t x l,ED o=(t,x)::l/\E.ptr? x=some (jE E o,[],0)/\(jE E o).mem=true:=by grind [mL,jE,FL]
theorem o9 {p:Prop} {o:Oper} (h:mM P E o=some as) (hc:r6 P E o=true\/p):∃c,FP P (E.without (jE E o)) (bits 0 (ED o).tail) (List.replicate (bits 0 (ED o).tail).length none)=some (as,c)/\(c=true\/p):=by grind [mM,r6,sV]
theorem rL {l:List AV} {n:Nat} {x:Option α} (h:x.bind kk=some r) {enc:α->SV} {b:List TV} (e:∀v,x=some v->An P (NS (oA ops i)) (.ext b::l) (enc v) (.ext (fin v)::List.replicate n .gone)) (d:∀v,(fin v).length=b.length) (hk:∀v,x=some v->kk v=some r->RW P N ops (i+1) (((E.setRoot (jE E (oA ops i)) (fin v)).bump (jE E (oA ops i))).put (oA ops i).dst (enc v)) Q) (f:mM P E (oA ops i)=some l:=by kernel_rfl) (hb:E.boxes (jE E<|oA ops i)=some b:=by kernel_rfl) (hc:r6 P E (oA ops i)=true\/∀v,AL (enc v)=false/\Ak (fin v)=false:=by exact .inl<|by kernel_rfl) (ho:(NR P ops E i&&R6 P N (oA ops i)&&mL E (oA ops i))=true:=by kernel_rfl):RW P N ops i E Q:=by
 obtain⟨v,hv,h⟩:=Ac.1 h;simp only[Af]at ho;obtain⟨h1,h2⟩:=EC ho.1.1;obtain⟨args,tys,h3,h4,h5,h6⟩:=NJ ho.1.2;obtain⟨t,x0,l0,h7,h8,h9⟩:=rA ho.2;obtain⟨c,h10,h11⟩:=o9 f hc;unfold RW;rw[DI h1];intro w0 FA UA w a blk FS US hr hF hU;simp only[wpList,AS hr h2,By];refine .inl<|jL hr hF hU h3 h4 h5 (x:=x0) (l:=bits 0 (ED<|oA ops i).tail) ?_ h9 h8 hb (d v) h10 (h11.imp id λh=>h v) (e v hv) λw' v' blk' FS' US' k1 k2 k3=>hk v hv h _ _ _ _ _ _ _ _ k1 k2 k3
 grind [PY]
section
variable {ls:List Nat} {ls2:List Nat} {bs:List Root} {bs2:List Root} {id:Nat}
theorem lz {H:S->St} {H2:V->St} {s:S} {o:S⊕(V⊕W)} (h:some (.inl s)=some o) (hb:bs.all (λr=>r.mem&&(E.boxes r).isSome)=true:=by kernel_rfl) (hn:Ha E ls bs=H s:=by kernel_rfl):lQ id ls bs H ls2 bs2 H2 o Q .normal E:=by
 injection h with h
 subst h;exact⟨_,rfl,hb,hn⟩
end
theorem wc {b:Bool} {c:Operand} {x y:Code} (h:(bif b then tx else ty)=some r) (ht:tx=some r->Wp P N x E Q) (hf:ty=some r->Wp P N y E Q) (hc:E.cell1 P 0 c=some (.bool b):=by kernel_rfl):Wp P N (.cond c x y) E Q:=Wp.c h ht hf hc
theorem wf {c:Operand} {x y:Code} (hf:Wp P N y E Q) (hc:E.cell1 P 0 c=some (.bool false):=by kernel_rfl):Wp P N (.cond c x y) E Q:=rG hf hc
theorem tU {rs:List ResultVar} {a:SV} (h:(Cm P E rs).map (λz=>Ct z.1)=some a):∃ss E',Cm P E rs=some (ss,E')/\Ct ss=a:=by simp_all
theorem tV {rt:Root} {rs:List ResultVar} {b:SV} {a:List TV} (h:(Cm P E rs).map (λz=>(Ct z.1,z.2.boxes rt))=some (b,some a)):∃ss E',Cm P E rs=some (ss,E')/\Ct ss=b/\E'.boxes rt=some a:=by simp_all
theorem tZ {f:FuncId} {c:Code} {a cells':List TV} {b:SV} (hf:P.funcs[f]?=some fn) (hb:fn.body=some c) (hN:fn.ntmps=N) (h:Wp P N c (Ca (.ext a::as)) λe E=>(e= .normal\/e= .ret)/\∃ss E',Cm P E fn.results.toList=some (ss,E')/\Ct ss=b/\E'.boxes (.ext 0)=some cells') (d:cells'.isEmpty=false:=by rfl):An P f (.ext a::as) b (.ext cells'::List.replicate as.length .gone):=fD hf hb (by rw[hN];exact h) d
theorem gk {f:FuncId} {c:Code} {a:SV} (hf:P.funcs[f]?=some fn) (hb:fn.body=some c) (hN:fn.ntmps=N) (h:Wp P N c (Ca as) λe E=>(e= .normal\/e= .ret)/\∃ss E',Cm P E fn.results.toList=some (ss,E')/\Ct ss=a):An P f as a (List.replicate as.length .gone):=Yt hf hb (by rw[hN];exact h)
theorem Z4:∀t:TV,(JO t).isSl=t.isSl:=by intro t;cases t<;>rfl
theorem Jl:∀(cs:List TV) (j:Nat),(Al cs)[j]?=cs[j]?.map JO
 |[],j=>by simp[Al]
 |t::ts,0=>by simp[Al]
 |t::ts,j+1=>by simpa[Al]using Jl ts j
theorem Ro:∀(q:List Nat) (cs:List TV),Ba (Al cs) q=(Ba cs q).map Al
 |[],cs=>rfl
 |c::q,cs=>by
  simp only[Ba,Jl]
  cases cs[c]? with
  |none=>rfl
  |some t=>
   cases t with
   |sl o e sz cells=>exact Ro q cells
   |_=>rfl
def aJ:TV->List TV->TV
 | .sl _ e s _,row=> .sl false e s row
 |t,_=>t
def SX (cs:List TV) (j:Nat) (a:List TV):List TV:=match cs[j]? with
 |some t=>cs.set j<|aJ t a
 |none=>cs
theorem W5 {s:Nat} {cs:List TV} {a:List TV} (h:cs[j]?=some (.sl true e s a)) (c:Nat):(SX cs j (Al a))[c]?=if c=j then some (.sl false e s (Al a))else cs[c]? :=by grind [SX,aJ]
theorem i7 {s:Nat} {r1:List TV} {cs:List TV} {a:List TV} (h:cs[j]?=some (.sl true e s a)) (hq:Ba cs q=some r1) (i:Nat):
  ∃r2,Ba (SX cs j (Al a)) q=some r2/\(r1[i]?.isSome=true->r2[i]?.isSome=true)/\(Hx r1[i]?=true->Hx r2[i]?=true):=by
 cases q with
 |nil=>
  injection hq with hq
  subst hq;refine⟨_,rfl,?_,?_⟩
  ·rw[W5 h]
   grind
  rw[W5 h];split
  ·intro _;rfl
  exact id
 |cons c q=>
  simp only[Ba,W5 h]
  grind [Ro,Jl,Z4,Ba,Hx]
theorem S1:∀{ts:List TV} {vs:List Value} {F U:List Nat} {j:Nat} {t:TV},AO w ts vs F U->ts[j]?=some t->F.Nodup->(∀v F1 U1,BU w t v F1 U1->∃F2 U2,BU w t' v F2 U2/\FM F1 U1 F2 U2)->
  ∃F' U',AO w (ts.set j t') vs F' U'/\FM F U F' U'
 |[],vs,F,U,j,t,h,hj,_,_=>by simp at hj
 |x::ts,vs,F,U,0,t,h,hj,hn,hk=>by
  simp at hj;subst hj;obtain⟨v,a,F1,F2,U1,U2,rfl,rfl,rfl,h1,h2⟩:=h;obtain⟨F1',U1',a1,a2⟩:=hk v F1 U1 h1;exact⟨F1'++F2,U1'++U2,by grind [AO],N6 hn a2 FM.refl⟩
 |x::ts,vs,F,U,j+1,t,h,hj,hn,hk=>by
  obtain⟨v,a,F1,F2,U1,U2,rfl,rfl,rfl,h1,h2⟩:=h;obtain⟨F2',U2',a1,a2⟩:=S1 h2 (by simpa using hj) (BG.1 hn).2.1 hk;exact⟨F1++F2',U1++U2',by grind [AO],N6 hn FM.refl a2⟩
theorem Tg {a:Act} {blk:Root->Nat}:∀{ts:List TV} {vs:List Value} {F U:List Nat} {j:Nat} {t:TV},BA w a E blk ts vs F U->ts[j]?=some t->F.Nodup->(∀v F1 U1,Cj w a E blk t v F1 U1->∃F2 U2,Cj w a E blk t' v F2 U2/\FM F1 U1 F2 U2)->
  ∃F' U',BA w a E blk (ts.set j t') vs F' U'/\FM F U F' U'
 |[],vs,F,U,j,t,h,hj,_,_=>by simp at hj
 |x::ts,vs,F,U,0,t,h,hj,hn,hk=>by
  simp at hj;subst hj;obtain⟨v,b,F1,F2,U1,U2,rfl,rfl,rfl,h1,h2⟩:=h;obtain⟨F1',U1',a1,a2⟩:=hk v F1 U1 h1;exact⟨F1'++F2,U1'++U2,by exact⟨v,b,F1',F2,U1',U2,rfl,rfl,rfl,a1,h2⟩,N6 hn a2 FM.refl⟩
 |x::ts,vs,F,U,j+1,t,h,hj,hn,hk=>by
  obtain⟨v,b,F1,F2,U1,U2,rfl,rfl,rfl,h1,h2⟩:=h;obtain⟨F2',U2',a1,a2⟩:=Tg h2 (by simpa using hj) (BG.1 hn).2.1 hk;exact⟨F1++F2',U1++U2',by exact⟨v,b,F1,F2',U1,U2',rfl,rfl,rfl,h1,a1⟩,N6 hn FM.refl a2⟩
def pR (E:St) (r:Root) (j:Nat) (a:List TV):St:=match E.root r with
 |some cs=>E.setRoot r<|SX cs j a
 |none=>E
theorem aI {a:Act} {r:Root} {s:Nat} {cs:List TV} {b:List TV} (hr:E.root r=some cs) (hj:cs[j]?=some (.sl true e s b)) (hh:r≠ .hand) (R:Root):Br w w a a E (E.setRoot r (SX cs j (Al b))) blk blk R:=by
 have d:(E.setRoot r<|SX cs j<|Al b).ver=E.ver:=by cases r<;>rfl
 have f:(E.setRoot r<|SX cs j<|Al b).gen=E.gen:=by cases r<;>rfl
 have g:(SX cs j<|Al b).length=cs.length:=by simp[SX,hj]
 have c:∀cs0,E.root R=some cs0->∃cs1,(E.setRoot r<|SX cs j<|Al b).root R=some cs1/\∀q r1,Ba cs0 q=some r1->∀i:Nat,∃r2,Ba cs1 q=some r2/\(r1[i]?.isSome=true->r2[i]?.isSome=true)/\(Hx r1[i]?=true->Hx r2[i]?=true):=by
  intro cs0 h0;by_cases hR:R=r
  ·subst hR;rw[hr]at h0
   injection h0 with h0
   subst h0;refine⟨SX cs j<|Al b,?_,λq r1 hq i=>i7 hj hq i⟩
   cases R with
   |slot n=>
    simp only[St.root,St.setRoot,Bi,By]at hr⊢
    injection hr with hr
    congr 1
    cases hs:E.slots n with
    |one t=>
     rw[hs]at hr;subst hr;have:(SX [t] j<|Al b).length=1:=g
     match hf:SX [t] j (Al b),this with
     |[x],_=>rfl
    |agg ts=>rfl
    |tup ss=>grind [SV.cells]
   |box n=>simp[St.root,St.setRoot,Bi]
   |ext n=>simp[St.root,St.setRoot,Bi]
   |hand=>exact absurd rfl hh
  refine⟨cs0,?_,λq r1 hq i=>⟨r1,hq,id,id⟩⟩;rw[<-h0];cases r<;>cases R<;>simp only[St.root,St.setRoot,Bi]<;>first
   |exact absurd rfl hh
   |rfl
   |grind
   |(rw[Bm];intro e;injection e with e;exact hR<|by rw[e])
   |(rw[Bm];intro e;cases e)
 constructor
 ·refine .inr ⟨by rw[d],λq i v h1 h2=>⟨h1,?_⟩,λq i ad hq h1 h2=>⟨h1,?_⟩⟩
  ·unfold St.place at h2⊢
   cases h0:E.root R with
   |none=>rw[h0]at h2;cases h2
   |some cs0=>
    rw[h0]at h2;obtain⟨cs1,k1,k2⟩:=c cs0 h0;simp only[Aa]at h2
    cases hc:Ba cs0 q with
    |none=>rw[hc]at h2;cases h2
    |some r1=>
     obtain⟨r2,k3,_,k4⟩:=k2 q r1 hc i
     grind
  unfold St.place at h2⊢
  cases h0:E.root R with
  |none=>grind
  |some cs0=>
   rw[h0]at h2;obtain⟨cs1,k1,k2⟩:=c cs0 h0;simp only[Aa]at h2
   cases hc:Ba cs0 q with
   |none=>grind
   |some r1=>
    obtain⟨r2,k3,k4,_⟩:=k2 q r1 hc i
    grind
 refine .inr ⟨by rw[f],λi ad h1 h2=>⟨h1,?_⟩⟩;unfold St.place at h2⊢
 cases h0:E.root R with
 |none=>grind
 |some cs0=>
  rw[h0]at h2;obtain⟨cs1,k1,k2⟩:=c cs0 h0;obtain⟨r2,k3,k4,_⟩:=k2 [] cs0 rfl i;rw[k1];simp only[Aa,k3];exact k4 h2
section
variable {w0:Base} {a:Act}
theorem B8.freeze {r:Root} {s:Nat} (h:B8 w0 FA UA N w a E blk FS US) {cs:List TV} {c:List TV} (hr:E.root r=some cs) (hj:cs[j]?=some (.sl true e s c)) (hh:r≠ .hand):
  ∃FS' US',B8 w0 FA UA N w a (E.setRoot r (SX cs j (Al c))) blk FS' US'/\FS' .hand=FS .hand/\US' .hand=US .hand:=by
 have o:=aI (w:=w) (a:=a) (blk:=blk) hr hj hh;have p:SX cs j (Al c)=cs.set j (.sl false e s<|Al c):=by grind [SX,aJ]
 have g:∀v F1 U1,BU w (.sl true e s c) v F1 U1->∃F2 U2,BU w (.sl false e s<|Al c) v F2 U2/\FM F1 U1 F2 U2:=λv F1 U1 h1=>oQ h1<|fU.s rfl
 have u:∃F' U',FM (FS r) (US r) F' U'/\(∀n,r= .slot n->E4 w a (E.setRoot r<|SX cs j<|Al c) blk ((E.slots n).withCells<|SX cs j<|Al c) (a.eval<|.tmp n) F' U')/\
   (r.mem=true->∃d T F,w.heap[blk r]?=some (.cells d T (0,0))/\AO w (SX cs j<|Al c) d.toList F U'/\F'=blk r::F):=by
  cases r with
  |slot n=>
   injection hr with hr
   have hs:=EW o (h.slot n) (λ_ _=>rfl) λ_ _=>rfl
   cases i:E.slots n with
   |one t=>
    rw[i]at hr hs;simp only[SV.cells]at hr;subst hr;have x:j=0:=by grind
    subst x;simp at hj;subst hj;obtain⟨F2,U2,k1,k2⟩:=g _ _ _ hs.1;refine⟨F2,U2,k2,λm hm=>?_,λhm=>by cases hm⟩
    injection hm with hm
    subst hm;rw[i,p];exact⟨k1,λ_=>hs.2 rfl⟩
   |agg ts=>
    rw[i]at hr hs;simp only[SV.cells]at hr;subst hr;obtain⟨vs,k0,k1⟩:=hs;obtain⟨F2,U2,k2,k3⟩:=Tg (t':= .sl false e s (Al c)) k1 hj (h.nodup _) g;refine⟨F2,U2,k3,λm hm=>?_,λhm=>by cases hm⟩
    grind [SV.withCells,E4]
   |tup ss=>grind [SV.cells]
  |hand=>exact absurd rfl hh
  |box n=>
   rcases h.box (.box n) rfl with⟨k,_⟩|⟨cs0,d,T,F,k1,k2,k3,k4⟩
   ·grind [St.root]
   simp only[St.root]at hr;rw[k1]at hr
   injection hr with hr
   subst hr;have f:=h.nodup<|.box n;rw[k4]at f;obtain⟨y,l⟩:=B6.1 f;obtain⟨F2,U2,k5,k6⟩:=S1 (t':= .sl false e s (Al c)) k3 hj l g;refine⟨blk (.box n)::F2,U2,?_,λm hm=>(by cases hm),λ_=>⟨d,T,F2,k2,by grind,rfl⟩⟩;rw[k4];refine⟨k6.1.cons_cons _,λb hb=>?_⟩
   rcases k6.2 b hb with q|⟨q1,q2⟩
   ·exact .inl q
   grind
  |ext n=>
   rcases h.box (.ext n) rfl with⟨k,_⟩|⟨cs0,d,T,F,k1,k2,k3,k4⟩
   ·grind [St.root]
   simp only[St.root]at hr;rw[k1]at hr
   injection hr with hr
   subst hr;have f:=h.nodup<|.ext n;rw[k4]at f;obtain⟨y,l⟩:=B6.1 f;obtain⟨F2,U2,k5,k6⟩:=S1 (t':= .sl false e s (Al c)) k3 hj l g;refine⟨blk (.ext n)::F2,U2,?_,λm hm=>(by cases hm),λ_=>⟨d,T,F2,k2,by grind,rfl⟩⟩;rw[k4];refine⟨k6.1.cons_cons _,λb hb=>?_⟩
   rcases k6.2 b hb with q|⟨q1,q2⟩
   ·exact .inl q
   grind
 obtain⟨F',U',hl,h3,z⟩:=u
 have h0:∀b∈F',b∈FS r:=λb hb=>hl.1.subset hb
 refine⟨Bi FS r F',Bi US r U',?_,by grind [AF],by grind [AF]⟩;have hF:∀R b,b∈Bi FS r F' R->b∈FS R:=by
  intro R b hb;by_cases hR:R=r
  ·grind [Bf]
  grind [AF]
 have hU:∀R b,b∈Bi US r U' R->b∈US R\/(R=r/\b∈FS r/\b∉F'):=by
  intro R b hb;by_cases hR:R=r
  ·subst hR;rw[Bf]at hb
   rcases hl.2 b hb with q|⟨q1,q2⟩
   ·exact .inl q
   grind
  grind [AF]
 constructor
 ·intro n;by_cases hn:r= .slot n
  ·simp_all [St.setRoot,Bi]
  rw[AF λe=>hn e.symm,AF λe=>hn e.symm];have h1:(E.setRoot r<|SX cs j<|Al c).slots n=E.slots n:=by
   cases r with
   |slot m=>simp_all [St.setRoot,Bi];grind
   |_=>rfl
  rw[h1];exact EW o (h.slot n) (λ_ _=>rfl) λ_ _=>rfl
 ·intro R hm;by_cases hR:R=r
  ·subst hR;right;obtain⟨d,T,F,k1,k2,k3⟩:=z hm;refine⟨_,d,T,F,?_,k1,by rw[Bf];exact k2,by rw[Bf,k3]⟩
   cases R with
   |slot n=>cases hm
   |hand=>cases hm
   |box n=>simp[St.setRoot,Bi]
   |ext n=>simp[St.setRoot,Bi]
  rw[AF hR,AF hR];have h1:(E.setRoot r<|SX cs j<|Al c).boxes R=E.boxes R:=by
   cases r<;>simp only[St.setRoot,Bi]<;>first
    |rfl
    |(rw[Bm hR])
  rw[h1];exact h.box R hm
 ·have:(E.setRoot r<|SX cs j<|Al c).boxes .hand=E.boxes .hand:=by
   cases r<;>simp only[St.setRoot,Bi]<;>first
    |exact absurd rfl hh
    |rfl
    |(rw[Bm<|by simp])
  rw[this];exact h.nohand
 ·intro R;by_cases hR:R=r
  ·subst hR;rw[Bf];exact hl.1.nodup<|h.nodup R
  rw[AF hR];exact h.nodup R
 ·exact λR S h2 b hb hb'=>h.dis R S h2 b (hF R b hb)<|hF S b hb'
 ·intro R S b hb hb'
  rcases hU S b hb' with q|⟨rfl,q1,q2⟩
  ·exact h.disU R S b (hF R b hb) q
  by_cases hR:R=S
  ·grind [Bf]
  exact h.dis R S hR b (hF R b hb) q1
 ·exact λR b hb=>h.inF R b<|hF R b hb
 ·intro R b hb
  rcases hU R b hb with q|⟨rfl,q1,_⟩
  ·exact h.inU R b q
  obtain⟨q2,q3⟩:=h.inF R b q1
  grind
 ·exact h.disA
 ·exact h.os
 ·exact h.tape
 ·exact h.output
 ·exact h.size
 ·exact h.keep
 ·exact h.len
 ·exact h.nodef
 ·exact h.xblk
 ·rw[Cr];exact h.ambB
 ·rw[Cr];exact h.ambI
 ·rw[DA];exact h.frz
 ·exact h.ambF
 rw[Cr];exact h.pin
end
theorem dE {r:Root} (h:Li E r j=some row):∃cs e s,E.root r=some cs/\cs[j]?=some (.sl true e s row)/\pR E r j (Al row)=E.setRoot r (SX cs j (Al row)):=by grind [MG,pR]
def PG:Root->Bool
 | .hand=>false
 |_=>true
theorem Lk {r:Root} (h:PG r=true):r≠ .hand:=by rintro rfl;cases h
theorem RW.fz (r:Root) (j:Nat) (hs:Al row=row') (h:RW P N ops i (pR E r j row') Q) (ho:Li E r j=some row:=by kernel_rfl) (hh:PG r=true:=by rfl):RW P N ops i E Q:=by
 intro w0 FA UA w a blk FS US hr hF hU;obtain⟨cs,e,s,h1,h2,h3⟩:=dE ho;obtain⟨FS',US',k1,k2,k3⟩:=hr.freeze h1 h2<|Lk hh;rw[<-hs,h3]at h;exact h _ _ _ _ _ _ _ _ k1 (by rw[k2,hF])<|by rw[k3,hU]
theorem SW.fz (r:Root) (j:Nat) (hs:Al row=row') (h:SW P N ops m i (pR E r j row') K) (ho:Li E r j=some row:=by kernel_rfl) (hh:PG r=true:=by rfl):SW P N ops m i E K:=by
 intro w0 FA UA w a blk FS US hr hF hU;obtain⟨cs,e,s,h1,h2,h3⟩:=dE ho;obtain⟨FS',US',k1,k2,k3⟩:=hr.freeze h1 h2<|Lk hh;rw[<-hs,h3]at h;exact h _ _ _ _ _ _ _ _ k1 (by rw[k2,hF])<|by rw[k3,hU]
theorem KW.fz {ts:List Nat} (r:Root) (j:Nat) (hs:Al row=row') (h:KW P N ops ts dn (pR E r j row') Q) (ho:Li E r j=some row:=by kernel_rfl) (hh:PG r=true:=by rfl):KW P N ops ts dn E Q:=by
 intro hq hc w0 FA UA w a blk FS US hr hF hU;obtain⟨cs,e,s,h1,h2,h3⟩:=dE ho;obtain⟨FS',US',k1,k2,k3⟩:=hr.freeze h1 h2<|Lk hh;rw[<-hs,h3]at h;exact h hq hc _ _ _ _ _ _ _ _ k1 (by rw[k2,hF])<|by rw[k3,hU]
theorem Wp.fz {c:Code} (r:Root) (j:Nat) (hs:Al row=row') (h:Wp P N c (pR E r j row') Q) (ho:Li E r j=some row:=by kernel_rfl) (hh:PG r=true:=by rfl):Wp P N c E Q:=by
 intro w0 FA UA w a blk FS US hr hF hU;obtain⟨cs,e,s,h1,h2,h3⟩:=dE ho;obtain⟨FS',US',k1,k2,k3⟩:=hr.freeze h1 h2<|Lk hh;rw[<-hs,h3]at h;exact h _ _ _ _ _ _ _ _ k1 (by rw[k2,hF])<|by rw[k3,hU]
def St.fzs (E:St) (f:Option Nat):St:={E with fz:=f}
theorem Z0 {a:Act} {f:Option Nat} (r:Root):Br w w a a E (E.fzs f) blk blk r:=by
 have hp:∀q j,(E.fzs f).place r q j=E.place r q j:=λq j=>by cases r<;>rfl
 exact⟨.inr ⟨rfl,λq j v h1 h2=>⟨h1,by rw[hp];exact h2⟩,λq j ad _ h1 h2=>⟨h1,by rw[hp];exact h2⟩⟩,.inr ⟨rfl,λj ad h1 h2=>⟨h1,by rw[hp];exact h2⟩⟩⟩
theorem B8.fzs {w0:Base} {a:Act} (h:B8 w0 FA UA N w a E blk FS US) (f:Option Nat) (hf:∀n,f=some n->fZ w0 a n):B8 w0 FA UA N w a (E.fzs f) blk FS US where
 slot:=λn=>EW Z0 (h.slot n) (λ_ _=>rfl) λ_ _=>rfl
 box:=h.box
 nohand:=h.nohand
 nodup:=h.nodup
 dis:=h.dis
 disU:=h.disU
 inF:=h.inF
 inU:=h.inU
 disA:=h.disA
 os:=h.os
 tape:=h.tape
 output:=h.output
 size:=h.size
 keep:=h.keep
 len:=h.len
 nodef:=h.nodef
 xblk:=h.xblk
 ambB:=h.ambB
 ambI:=h.ambI
 frz:=hf
 ambF:=h.ambF
 pin:=h.pin
theorem cW (n:Nat):(2*n+1)/2=n:=by omega
theorem cV (n:Nat):¬(2*n+1) %2=0:=by omega
def mA (o:Oper):Bool:=match o.op with
 | .buildSlice t len parts=>Nat.beq len 0&&Nat.beq parts.size 0
 |_=>false
theorem oO {a:Act} {nx:Next} {w':World} {o:Oper} (hb:mA o=true) (hd:o.dst=some d) (hN:d<N) (hs:Bu P N false E o=some E') (hr:(execOp a.eval o).run P w= .ok nx w'):∃B,nx= .value (.slice B 0 0):=by
 unfold mA at hb;split at hb
 ·rename_i t len parts ho;rw[Af]at hb;have h1:=AI hb.1;have h2:=AI hb.2;subst h1;have h3:parts= #[]:=Array.eq_empty_of_size_eq_zero h2;subst h3;simp only[Bu,hd,Bw hN,ho,HY]at hs;split at hs
  ·rename_i e hu;split at hs
   ·rename_i zs ss hz b;obtain⟨i,z,hi,c,f,g⟩:=G6 (w:=w) hz;simp_all [run_underlying,execOp,Instr.buildSlice,sizeOf,typeInfo,newRow,Instr.fill];grind
   cases hs
  cases hs
 cases hb
def gH (x:Operand):Nat:=match x with
 | .tmp n=>n
 |_=>0
theorem bK {ts:List Nat} (h:KW P N ops ts (i::dn) (((Bu P N false E (oA ops i)).getD E).fzs (some (2*((oA ops i).dst.getD 0)+1))) Q) (hs:(Bu P N false E (oA ops i)).isSome=true:=by kernel_rfl) (hk:(NR P ops E i&&mA (oA ops i)&&FN N (oA ops i))=true:=by kernel_rfl):KB P N ops ts dn i E Q:=by
 have hs':=getD_some (a:=E) hs;simp only[Af]at hk;obtain⟨h1,h2⟩:=EC hk.1.1;obtain⟨d,h3,_,h4⟩:=Dn hk.2;rw[h3]at h;simp only[HI]at h;have b:kp (oA ops i)=true:=by grind [mA,kp]
 intro w0 FA UA w a blk FS US hr hF hU;unfold wpOp;simp only[FC h1,AS hr h2,By];obtain⟨nx,w',v,blk',FS',US',k1,k2,k3,k4,k5,k6⟩:=JN hr hF hU hs';obtain⟨B,hB⟩:=oO (N:=N) hk.1.2 h3 h4 hs' k1;have hv:v= .slice B 0 0:=by grind
 refine .inl ?_;unfold Oper.wp;rw[k1,hB];refine⟨λ_=>k6 b,_,blk',FS',US',h,?_,k4,k5⟩;rw[hv]at k3;refine k3.fzs _ λn hn=>?_
 injection hn with hn
 subst hn;unfold fZ;rw[Bm<|cV d,cW d,h3];refine⟨B,?_⟩;have:=k3.len;simp only[Act.eval,Act.put];rw[CD];have hl:=hr.len
 grind
theorem KB.a {ts:List Nat} (hs:Bu P N false E (oA ops i)=some E') (h:KW P N ops ts (i::dn) (E'.fzs none) Q) (hk:(NR P ops E i&&mB (oA ops i)&&Nat.beq (Ez (oA ops i)).1 (Ez (oA ops i)).2.1&&FN N (oA ops i))=true:=by kernel_rfl) (hx:(Ez<|oA ops i).2.2.1= .tmp (gH (Ez<|oA ops i).2.2.1):=by kernel_rfl) (hz:E.fz=some (2*gH (Ez<|oA ops i).2.2.1+1):=by kernel_rfl):KB P N ops ts dn i E Q:=by
 simp only[Af]at hk;obtain⟨⟨⟨h0,h5⟩,h6⟩,h7⟩:=hk;obtain⟨h1,h2⟩:=EC h0;obtain⟨d,h3,_,h4⟩:=Dn h7;have c:=AI h6;have ho:=dB h5;rw[<-c]at ho;intro w0 FA UA w a blk FS US hr hF hU;unfold wpOp;simp only[FC h1,AS hr h2,By];have he:Jc P E d (Ez<|oA ops i).1 (Ez<|oA ops i).2.2.1 (Ez<|oA ops i).2.2.2=some E':=by grind [Bu]
 obtain⟨nx,w',v,blk',FS',US',k1,k2,k3,k4,k5,_,k6⟩:=Qd hr hF hU ho h3 h4 he;have b:=hr.frz _ hz;unfold fZ at b;rw[Bm<|cV _,cW,<-hx]at b;obtain⟨B,hB⟩:=b;refine .inl ?_;unfold Oper.wp;rw[k1]
 rcases k2 with rfl|⟨rfl,rfl⟩
 ·exact⟨λ_=>k6 B hB,_,blk',FS',US',h,k3.fzs none (λn hn=>by cases hn),k4,k5⟩
 exact⟨λ_=>k6 B hB,_,blk',FS',US',h,k3.fzs none (λn hn=>by cases hn),k4,k5⟩
def pZ (N:Nat) (E:St) (o:Oper):Option St:=match o.op,o.dst with
 | .extract t ix,some d=>bif Nat.blt d N then J0 E d t ix else none
 |_,_=>none
theorem oC {w0:Base} {a:Act} (h:B8 w0 FA UA N w a E blk FS US) (hF:FS .hand=[]) (hU:US .hand=[]) {o:Oper} (he:pZ N E o=some E'):
  ∃v blk' FS' US',(∀w2,(execOp a.eval o).run P w2= .ok (.value v) w2)/\B8 w0 FA UA N w (a.put o.dst v) E' blk' FS' US'/\FS' .hand=[]/\US' .hand=[]:=by
 unfold pZ at he;split at he
 ·rename_i t ix d ho hd
  cases hN:Nat.blt d N with
  |false=>grind
  |true=>
   rw[hN]at he;have hN':d<N:=by simp_all
   obtain⟨nx,w',v,blk',FS',US',k1,k2,k3,k4,k5,_⟩:=C6.extract (P:=P) h hF hU ho hd hN' he;have e:∃x,∀w2,(execOp a.eval o).run P w2= .ok (.value x) w2:=by
    unfold J0 at he;split at he
    ·rename_i n;split at he
     ·rename_i ss b;split at he
      ·rename_i s c;have hs:=h.slot n;rw[b]at hs;obtain⟨vs,f,hx⟩:=hs;obtain⟨v,A,B,C,D,F1,U1,h1,h2,h3,h4,h5⟩:=Sg ix hx c;simp_all [execOp,Instr.extract];grind
      cases he
     cases he
    cases he
   grind
 cases he
theorem OU {ts:List Nat} (i:Nat) (h:KW P N ops ts (i::dn) ((pZ N E (oA ops i)).getD E) Q) (hs:(pZ N E (oA ops i)).isSome=true:=by kernel_rfl) (hk:(NR P ops E i&&dX ops ts dn i)=true:=by kernel_rfl):KW P N ops ts dn E Q:=by
 have hs':=getD_some (a:=E) hs;simp only[Af,dX]at hk;obtain⟨h1,h3,h4⟩:=hk;obtain⟨h5,h6⟩:=EC h1;unfold KW at h⊢;rw[N7 (i:=i) h3];intro hQ hc w0 FA UA w a blk FS US k1 k2 k3;obtain⟨e1,e2,e3,e4,e5⟩:=PR h4;obtain⟨v,blk',FS',US',g1,g2,g3,g4⟩:=oC (P:=P) k1 k2 k3 hs';refine IA (v:=v) (n:=ops.size) (FC h5) (Region.noSelect_spec e1) (λc a w hx=>?_) e4 e5 _ _ a w hc (Region.free_spec (FC h5) e2) e3 (.inl ⟨AS k1 h6,λw2 _=>g1 w2⟩) ?_
 ·obtain⟨E',blk',FS',US',m1,_⟩:=hx
  grind
 exact h hQ (Gy hc e3) _ _ _ _ _ _ _ _ g2 g3 g4
def bG (P:Program) (E:St) (o:Oper) (s:SV):Prop:=∀(N:Nat) (w0:Base) (FA UA:List Nat) (w:World) (a:Act) (blk:Root->Nat) (FS US:Root->List Nat),B8 w0 FA UA N w a E blk FS US->CX P w a E blk FS US o s
theorem uA (hp:bG P E (oA ops i) s) (h:RW P N ops (i+1) (E.put (oA ops i).dst s) Q) (hk:(NR P ops E i&&FN N (oA ops i))=true:=by kernel_rfl):RW P N ops i E Q:=by
 rw[Af]at hk;obtain⟨h1,h2⟩:=EC hk.1;obtain⟨d,h3,_,h4⟩:=Dn hk.2;rw[h3]at h;unfold RW;rw[DI h1];intro w0 FA UA w a blk FS US hr hF hU;simp only[wpList,AS hr h2,By];exact .inl<|(HN hr hF hU (hp _ _ _ _ _ _ _ _ _ hr) h3 h4).wp λw' v blk' FS' US' k1 k2 k3 _=>h _ _ _ _ _ _ _ _ k1 k2 k3
theorem t8 (hp:bG P E (oA ops i) s) (h:SW P N ops m (i+1) (E.put (oA ops i).dst s) K) (hk:(NR P ops E i&&FN N (oA ops i)&&Nat.blt i m)=true:=by kernel_rfl):SW P N ops m i E K:=by
 simp only[Af]at hk;obtain⟨h1,h2⟩:=EC hk.1.1;obtain⟨d,h3,_,h4⟩:=Dn hk.1.2;rw[h3]at h;unfold SW;rw[LC h1 hk.2];intro w0 FA UA w a blk FS US k1 k2 k3;obtain⟨v,U,g1,g2,g3⟩:=hp _ _ _ _ _ _ _ _ _ k1;have hr:=g1 w λr _=>⟨λ_ _=>rfl,λ_ _=>rfl⟩;simp only[wpStill,AS k1 h2,By,Oper.still,hr,Oper.stillUpon_value];rw[h3];refine h _ _ _ _ _ _ _ _ (k1.put h4 g2<|FJ k1 g3 _) ?_ ?_
 ·grind [AF]
 grind [AF]
theorem uB {ts:List Nat} (i:Nat) (hp:bG P E (oA ops i) s) (h:KW P N ops ts (i::dn) (E.put (oA ops i).dst s) Q) (hk:(NR P ops E i&&FN N (oA ops i)&&dX ops ts dn i)=true:=by kernel_rfl):KW P N ops ts dn E Q:=by
 simp only[Af,dX]at hk;obtain⟨⟨h1,h2⟩,h3,h4⟩:=hk;obtain⟨h5,h6⟩:=EC h1;obtain⟨d,h7,_,h8⟩:=Dn h2;unfold KW at h⊢;rw[N7 (i:=i) h3];rw[h7]at h;intro hQ hc w0 FA UA w a blk FS US k1 k2 k3;obtain⟨e1,e2,e3,e4,e5⟩:=PR h4;obtain⟨v,U,g1,g2,g3⟩:=hp _ _ _ _ _ _ _ _ _ k1;refine IA (v:=v) (n:=ops.size) (FC h5) (Region.noSelect_spec e1) (λc a w hx=>?_) e4 e5 _ _ a w hc (Region.free_spec (FC h5) e2) e3 (.inl ⟨AS k1 h6,λw2 e=>?_⟩) ?_
 ·obtain⟨E',blk',FS',US',m1,_⟩:=hx
  grind
 ·exact g1 w2 λr hr=>⟨λb hb=>e.2 b (k1.inF r b hb).2,λb hb=>e.2 b (k1.inU r b hb).2⟩
 rw[h7];refine h hQ (Gy hc e3) _ _ _ _ _ _ _ _ (k1.put h8 g2<|FJ k1 g3 _) ?_ ?_
 ·grind [AF]
 grind [AF]
abbrev pb (n:Nat):SV:= .one (.ptr (.box n) 0 [] 0)
abbrev px (n:Nat):SV:= .one (.ptr (.ext n) 0 [] 0)
abbrev i6 (n:Int):TV:= .int .i64 n
abbrev tb (b:Bool):TV:= .bool b
abbrev ts (s:ByteArray):TV:= .str s
abbrev rg (n:Nat):List AV:=List.replicate n .gone
theorem jr {w:β} {f:V->Option β} {a:V⊕β} (h:some (.inr w)=some a) (hk:Sum.elim f some a=some r):some w=some r:=by grind
theorem jo {w:β} {f:V->Option β} {o:S⊕(V⊕β)} (h:some (.inr (.inr w))=some o) (hk:∀w,o= .inr (.inr w)->Sum.elim f some (.inr w)=some r):some w=some r:=by grind
theorem rr {v r:β} (h:some v=some r):v=r:=Option.some.inj h
theorem rq {e:Exit} {rs:List ResultVar} {a:SV} (he:e= .normal\/e= .ret:=by first|exact .inr rfl|exact .inl rfl) (hk:(Cm P E rs).map (λz=>Ct z.1)=some a:=by kernel_rfl):(e= .normal\/e= .ret)/\∃ss E',Cm P E rs=some (ss,E')/\Ct ss=a:=⟨he,tU hk⟩
theorem rx {e:Exit} {rs:List ResultVar} {b:SV} {a:List TV} (he:e= .normal\/e= .ret:=by first|exact .inr rfl|exact .inl rfl) (hk:(Cm P E rs).map (λz=>(Ct z.1,z.2.boxes<|.ext 0))=some (b,some a):=by kernel_rfl):(e= .normal\/e= .ret)/\∃ss E',Cm P E rs=some (ss,E')/\Ct ss=b/\E'.boxes (.ext 0)=some a:=⟨he,tV hk⟩
section
variable {id:Nat}
theorem ws (h:RW P N ops 0 E (FK (λE'=>Wp P N y E' Q) Q)):Wp P N (.seq (.region id ops false) y) E Q:=Wp.seq<|nZ h
end
theorem BS (hf:∀x,(f x).length=sz) (h:(gi l n).bind kk=some r) (hk:∀x,gi l n=some x->kk x=some r->RW P N ops (i+1) (E.put (oA ops i).dst (Yh E (oA ops i) (n.toNat*sz+0))) Q) (hc:iR P E (oA ops i) sz=some (Ai f l,n):=by kernel_rfl) (hq:g7 P N ops i E=true:=by kernel_rfl):RW P N ops i E Q:=
 bd h λx gx h=>pH (Ja hf gx hc) (hk x gx h) hq
def bR (P:Program) (N:Nat) (ops:Array Oper) (ts dn:List Nat) (E:St) (i:Nat):Option St:=bif Nat.blt i ops.size&&FN N (oA ops i)&&dX ops ts dn i then
 (match Az P ops E (oA ops i)with
 |some false=>some<|E.put (oA ops i).dst<|.tup []
 |some true=>match DH P E (oA ops i)with
  |some s=>some<|E.put (oA ops i).dst s
  |none=>pZ N E<|oA ops i
 |none=>none)else none
theorem tQ {ts:List Nat} (hs:bR P N ops ts dn E i=some E') (h:KW P N ops ts (i::dn) E' Q):KW P N ops ts dn E Q:=by grind [rO,pN,OU,bR,NR]
def dD (P:Program) (N:Nat) (ops:Array Oper) (ts dn:List Nat) (E:St):List Nat->Option (Nat×St)
 |[]=>none
 |i::l=>match bR P N ops ts dn E i with
  |some E'=>some (i,E')
  |none=>dD P N ops ts dn E l
theorem Yy {ts:List Nat}:∀{l:List Nat} {E':St},dD P N ops ts dn E l=some (i,E')->bR P N ops ts dn E i=some E'
 |[],_,h=>by cases h
 |j::l,E',h=>by
  simp only[dD]at h;split at h
  ·grind
  exact Yy h
def nX (P:Program) (N:Nat) (ops:Array Oper) (ts:List Nat) (mv:List Nat) (E:St) (i:Nat):Option St:=bif NR P ops E i&&(kp (oA ops i)||ts.contains i)then Bu P N (mv.contains i) E (oA ops i)else none
def mX (f:A->Option (List St)):List A->Option (List St)
 |[]=>some []
 |x::l=>match f x,mX f l with
  |some a,some b=>some (a++b)
  |_,_=>none
theorem YD {f:A->Option (List St)}:∀{l:List A} {L:List St},mX f l=some L->∀x∈l,∃a,f x=some a/\∀E∈a,E∈L
 |[],_,_,x,hx=>by cases hx
 |y::l,L,h,x,hx=>by
  simp only[mX]at h;split at h
  ·rename_i a b h1 h2
   injection h with h
   subst h
   rcases EN.1 hx with rfl|hx
   ·grind
   obtain⟨a',h3,h4⟩:=YD h2 x hx
   grind
  cases h
def eP (P:Program) (N:Nat) (ops:Array Oper) (ts mv:List Nat):Nat->List Nat->St->Option (List St)
 |0,_,_=>none
 |n+1,dn,E=>match Region.ready .any ops (iJ ops.size dn)with
  |[]=>some [E]
  |rs=>bif Nat.blt dn.length ops.size then(match dD P N ops ts dn E rs with
   |some (i,E')=>eP P N ops ts mv n (i::dn) E'
   |none=>mX (λi=>match nX P N ops ts mv E i with
    |some E'=>eP P N ops ts mv n (i::dn) E'
    |none=>none) rs)else none
theorem bJ {ts:List Nat}:∀{n:Nat} {dn:List Nat} {E:St} {L:List St},eP P N ops ts mv n dn E=some L->(∀E'∈L,Q .normal E')->KW P N ops ts dn E Q
 |0,_,_,_,h,_=>by cases h
 |n+1,dn,E,L,h,hq=>by
  simp only[eP]at h;split at h
  ·grind [AK]
  rename_i b
  cases hb:Nat.blt dn.length ops.size with
  |false=>grind
  |true=>
   rw[hb]at h;split at h
   ·rename_i i E' hf;exact tQ (Yy hf) (bJ h hq)
   refine KW.all _ (λi hi=>?_) b (by grind [nI]);obtain⟨a,h1,h2⟩:=YD h i hi;split at h1
   ·rename_i E' hs;unfold nX at hs
    cases hc:(NR P ops E i&&(kp (oA ops i)||ts.contains i))with
    |false=>grind
    |true=>
     rw[hc]at hs;exact LW hs (bJ h1 λE'' hE=>hq E''<|h2 E'' hE) hc
   cases h1
def hZ (P:Program) (N:Nat) (ops:Array Oper) (ts mv dn:List Nat) (E:St):List St:=(eP P N ops ts mv (ops.size+1) dn E).getD []
theorem nP {X:Prop} {c:List PanicEntry} (h:(Exit.panic c= .normal\/Exit.panic c= .ret)/\X):False:=by grind
section
variable {w0:Base} {a:Act}
theorem B8.resay (h:B8 w0 FA UA N w a E blk FS US) (hd:d<N) (hs:E4 w a E blk s (a.eval (.tmp d)) [] []):∃FS' US',B8 w0 FA UA N w a (E.put (some d) s) blk FS' US'/\FS' .hand=FS .hand/\US' .hand=US .hand:=by
 have k:=h.put (F:=[]) (U:=[]) hd hs T6.none;have e:a.put (some d) (a.eval<|.tmp d)=a:=by
  cases a with
  |mk tmps defers=>simp_all [Act.put,Act.eval];grind
 grind [AF]
end
theorem B8.toAdr {w0:Base} {a:Act} (h:B8 w0 FA UA N w a E blk FS US) (hd:d<N) (hs:E.ptr? (.tmp d)=some (.ext 0,[],0)) (hp:E.amb.pin=some (b,none)):∃FS' US',B8 w0 FA UA N w a (E.put (some d) (.one (.adr ⟨b,0,none⟩))) blk FS' US'/\FS' .hand=FS .hand/\US' .hand=US .hand:=by
 obtain⟨_,ad,h1,h2⟩:=HR h hs;refine h.resay hd ?_;rw[h2];have e:=h.xblk 0;rw[(h.pin _ hp).1]at e;simp only[pa,e,Addr.add]at h1
 injection h1 with h1
 subst h1;refine⟨?_,λ_=>rfl⟩;show BU w (.adr ⟨b,0,none⟩) _ [] [];simp[BU]
section
variable {w0:Base} {a:Act}
theorem B8.toPtr (h:B8 w0 FA UA N w a E blk FS US) (hd:d<N) (hs:E.slots d= .one (.adr ⟨b,0,none⟩)) (hp:E.amb.pin=some (b,none)) {c:List TV} (hb:E.boxes (.ext 0)=some c) (f:c.isEmpty=false):
  ∃FS' US',B8 w0 FA UA N w a (E.put (some d) (.one (.ptr (.ext 0) (E.gen (.ext 0)) [] 0))) blk FS' US'/\FS' .hand=FS .hand/\US' .hand=US .hand:=by
 have hv:a.eval (.tmp d)= .pointer (some ⟨b,0,none⟩):=by
  have:=h.slot d;rw[hs]at this;exact this.1.1
 refine h.resay hd ?_;have e:=h.xblk 0;rw[(h.pin _ hp).1]at e;refine⟨⟨rfl,rfl,A8 _,λ_=>⟨?_,⟨b,0,none⟩,?_,hv⟩⟩,λ_=>by rw[hv];rfl⟩
 ·grind [St.place,St.root,Ba]
 grind [pa,Addr.add]
end
def tW (E:St) (d b:Nat):St:=E.put (some d)<|.one<|.adr ⟨b,0,none⟩
def oU (N:Nat) (E:St) (d:Nat):Bool:=Nat.blt d N&&(match E.ptr? (.tmp d)with
 |some (.ext 0,[],0)=>true
 |_=>false)
theorem kV (h:oU N E d=true):d<N/\E.ptr? (.tmp d)=some (.ext 0,[],0):=by grind [Bz,oU]
theorem rJ (d:Nat) (h:RW P N ops i (tW E d b) Q) (hp:E.amb.pin=some (b,none):=by kernel_rfl) (ho:oU N E d=true:=by kernel_rfl):RW P N ops i E Q:=by
 intro w0 FA UA w a blk FS US hr hF hU;obtain⟨h1,h2⟩:=kV ho;obtain⟨FS',US',k1,k2,k3⟩:=hr.toAdr h1 h2 hp;exact h _ _ _ _ _ _ _ _ k1 (by rw[k2,hF])<|by rw[k3,hU]
def tD (E:St) (d:Nat):St:=E.put (some d)<|.one<|.ptr (.ext 0) (E.gen<|.ext 0) [] 0
def lG (N:Nat) (E:St) (d:Nat):Bool:=Nat.blt d N&&(match E.boxes (.ext 0)with
 |some cells=>!cells.isEmpty
 |none=>false)
theorem cX (h:lG N E d=true):d<N/\∃a,E.boxes (.ext 0)=some a/\a.isEmpty=false:=by grind [Bz,lG]
theorem YI (d:Nat) (h:RW P N ops i (tD E d) Q) (hp:E.amb.pin=some (b,none):=by kernel_rfl) (hs:E.slots d= .one (.adr ⟨b,0,none⟩):=by kernel_rfl) (ho:lG N E d=true:=by kernel_rfl):RW P N ops i E Q:=by
 intro w0 FA UA w a blk FS US hr hF hU;obtain⟨h1,c,h2,h3⟩:=cX ho;obtain⟨FS',US',k1,k2,k3⟩:=hr.toPtr h1 hs hp h2 h3;exact h _ _ _ _ _ _ _ _ k1 (by rw[k2,hF])<|by rw[k3,hU]
theorem dR {ts:List Nat} (d:Nat) (h:KW P N ops ts dn (tD E d) Q) (hp:E.amb.pin=some (b,none):=by kernel_rfl) (hs:E.slots d= .one (.adr ⟨b,0,none⟩):=by kernel_rfl) (ho:lG N E d=true:=by kernel_rfl):KW P N ops ts dn E Q:=by
 intro hq hc w0 FA UA w a blk FS US hr hF hU;obtain⟨h1,c,h2,h3⟩:=cX ho;obtain⟨FS',US',k1,k2,k3⟩:=hr.toPtr h1 hs hp h2 h3;exact h hq hc _ _ _ _ _ _ _ _ k1 (by rw[k2,hF])<|by rw[k3,hU]
structure Ty (n c b g cap:Nat) (e T T':TypeId) (sz:Nat) (rest:List Value) (enc:γ->List TV) (w:World) (l:List γ):Prop where
 ne:b≠g/\c≠g/\c≠b
 len:l.length=n
 ptr:w.heap[c]?=some (.cells #[.pointer (some ⟨b,0,none⟩)] T' (0,0))
 box:w.heap[b]?=some (.cells (.slice (some ⟨g,0,none⟩) n cap::rest).toArray T (0,0))
 row:∃cur,w.heap[g]?=some (.cells cur e (0,0))/\cur.size=cap*sz/\cur.toList.take (l.length*sz)=(Ai enc l).map TV.val
 le:l.length<=cap/\cap<=maxLen
theorem cB {e:TypeId} {l:List γ} {k:Nat} {n c b g cap:Nat} {rest:List Value} {enc:γ->List TV} (h:Ty n c b g cap e T T' sz rest enc w l) (hk:k<l.length*sz):w.cell? ⟨g,k,none⟩=((Ai enc l).map TV.val)[k]? :=by
 obtain⟨a,h1,h2,h3⟩:=h.row
 grind [World.cell?]
def EJ (n c b g cap:Nat) (e T T':TypeId) (sz:Nat) (rest:List Value) (enc:γ->List TV) (l:List γ):KC where
 B:=[c,b,g]
 I:=λw=>Ty n c b g cap e T T' sz rest enc w l
 st:=λw w' h hk=>⟨h.ne,h.len,by rw[hk c<|by simp];exact h.ptr,by rw[hk b<|by simp];exact h.box,by rw[hk g<|by simp];exact h.row,h.le⟩
 rd:=λad=>if ad.spot.isSome=true then none else if ad.block=c then(if ad.off=0 then some (.pointer<|some ⟨b,0,none⟩)else none)else if ad.block=b then(if ad.off=0 then some (.slice (some ⟨g,0,none⟩) n cap)else none)else if ad.block=g then(if ad.off<l.length*sz then((Ai enc l).map TV.val)[ad.off]? else none)else none
 rdI:=λw ad v h hr=>by
  obtain⟨bl,off,spot⟩:=ad
  cases spot with
  |some s=>simp at hr
  |none=>
   simp only[Option.isSome_none,NW,mG]at hr;split at hr
   ·rename_i hb;subst hb;split at hr
    ·rename_i ho;subst ho
     injection hr with hr
     subst hr;simp[World.cell?,h.ptr]
    cases hr
   split at hr
   ·rename_i hb;subst hb;split at hr
    ·rename_i ho;subst ho
     injection hr with hr
     subst hr;simp[World.cell?,h.box]
    cases hr
   grind [cB]
theorem X1 {e:TypeId} {ie:TypeInfo} {c b g cap:Nat} {rest:List Value} {enc:γ->List TV} (h:∀x,(enc x).length=sz) (n:Nat) (gS:Bool) (hx:∀args W,(callFunc sf args).run P W=((Extern.ReflectliteSwapper.swap gS args).run P W).andThen λv w'=> .ok (.value v) w') (h6:P.info? e=some ie) (o:ie.size=sz) (q:∀w,(isAgg e).run P w= .ok true w):
  I3 P (EJ n c b g cap e T T' sz rest enc) sf #[.slice (some ⟨g,0,none⟩) n cap,typeHandle P e]:=by
 intro l i j x y hi hj w hI hB;obtain⟨⟨r,s,t⟩,hn,u,h0,h3,h7⟩:=hI;have a5:b<w.heap.size:=hB b (by simp[EJ]);have a6:c<w.heap.size:=hB c (by simp[EJ]);have a7:g<w.heap.size:=hB g (by simp[EJ]);obtain⟨f,hg,h8,h4⟩:=h3;obtain⟨i0,i1⟩:=Fs hi;obtain⟨j0,j1⟩:=Fs hj;obtain⟨a,rfl⟩:=BE i0;obtain⟨d,rfl⟩:=BE j0;simp only[Cx]at i1 j1;have la:=(Ad.1 i1).1;have lc:=(Ad.1 j1).1;have hX:((enc x).map TV.val).length=sz:=by grind
 have hY:((enc y).map TV.val).length=sz:=by grind
 have a4:l.length*sz<=f.size:=by simp_all [B4]
 have h9:(a+1)*sz<=l.length*sz:=B4 _ la;have a0:(d+1)*sz<=l.length*sz:=B4 _ lc;rw[HL]at h9 a0;have hI:Ty n c b g cap e T T' sz rest enc w l:=⟨⟨r,s,t⟩,hn,u,h0,⟨f,hg,h8,h4⟩,h7⟩;have cell:∀(m:Nat) (z:γ),l[m]?=some z->∀k v,((enc z).map TV.val)[k]?=some v->w.cell? ⟨g,0+m*ie.size+k,none⟩=some v:=by
  intro m z hm k v hk;have a1:=(Ad.1 hk).1;rw[BM,h]at a1;have lm:=(Ad.1 hm).1;have a2:(m+1)*sz<=l.length*sz:=B4 _ lm;rw[HL]at a2;rw[o,HK,cB hI<|by omega];have e1:(Ai enc l)[m*sz+k]?=(enc z)[k]? :=by
   have h2:(Ai enc l)[m*sz+k]?=((Ai enc l).drop<|m*sz)[k]? :=by grind
   grind [GG,Bp,OL]
  grind
 have frz:∀(m k:Nat),w.frozen? ⟨g,0+m*ie.size+k,none⟩=false:=by grind [World.frozen?]
 have p:=Go.Lib.run_swap_cells (P:=P) gS e ie h6 q g 0 n cap a d (by omega) (by omega) ((enc x).map TV.val) ((enc y).map TV.val) (by rw[hX,o]) (by rw[hY,o]) (λv hv=>by grind [R8]) (λv hv=>by grind [R8]) w (cell a x i1) (cell d y j1) (λk _=>frz a k) λk _=>frz d k;simp only[HK,o]at p;have h1:=Gi e (0,0) g ((enc y).map TV.val) (a*sz) f w hg (by rw[hY];omega);have a8:(setRow f.toList (a*sz)<|(enc y).map TV.val).toArray.size=f.size:=by grind [Db]
 have h2:=Gi e (0,0) g ((enc x).map TV.val) (d*sz) _ _ h1 (by grind);have kB:∀k,k<w.heap.size->k≠g->((w.setCells g (a*sz)<|(enc y).map TV.val).setCells g (d*sz)<|(enc x).map TV.val).heap[k]?=w.heap[k]? :=by grind [World.heap_setCells_other]
 refine⟨(w.setCells g (a*sz)<|(enc y).map TV.val).setCells g (d*sz)<|(enc x).map TV.val,?_,⟨?_,?_,?_,?_,?_⟩,?_⟩
 ·rw[hx];have ea:(#[Value.int .i64 (a:Int),Value.int .i64 (d:Int)]++ #[Value.slice (some ⟨g,0,none⟩) n cap,typeHandle P e])= #[.int .i64 (a:Int),.int .i64 (d:Int),.slice (some ⟨g,0,none⟩) n cap,typeHandle P e]:=rfl;rw[ea,p];rfl
 ·rw[World.os_setCells,World.os_setCells]
 ·rw[FZ,FZ]
 ·rw[World.output_setCells,World.output_setCells]
 ·grind
 ·grind [EJ]
 have h5:(si (si l (a:Int) y) (d:Int) x).length=l.length:=by simp[si]
 have lcur:f.toList.length=f.size:=by simp
 have a9:(setRow f.toList (a*sz)<|(enc y).map TV.val).length=f.size:=by omega
 have b0:(setRow (setRow f.toList (a*sz)<|(enc y).map TV.val) (d*sz)<|(enc x).map TV.val).length=f.size:=by grind [Db]
 refine⟨⟨r,s,t⟩,h5.trans hn,by grind,by grind,⟨_,h2,?_,?_⟩,by grind⟩
 ·grind
 rw[h5];rw[Ia (by rw[hX];omega) (by grind),Ia (by rw[hY];omega) (by grind),h4,<-Ln,<-Ln];have e1:setRow (Ai enc l) (a*sz) (enc y)=Ai enc (si l (a:Int) y):=by
  have:=Nt h (z:=y) hi
  grind
 obtain⟨z0,a3⟩:∃z0,gi (si l (a:Int) y) (d:Int)=some z0:=by grind [si,gi]
 have e2:=Nt h (z:=x) a3
 grind
theorem cM {e:TypeId} {l:List γ} {n c b g cap:Nat} {rest:List Value} {enc:γ->List TV}:(EJ n c b g cap e T T' sz rest enc l).rd ⟨c,0,none⟩=some (.pointer (some ⟨b,0,none⟩)):=by
 simp[EJ]
theorem cN {e:TypeId} {l:List γ} {n c b g cap:Nat} {rest:List Value} {enc:γ->List TV} (h:c≠b):(EJ n c b g cap e T T' sz rest enc l).rd ⟨b,0,none⟩=some (.slice (some ⟨g,0,none⟩) n cap):=by
 simp[EJ,h.symm]
theorem cL {e:TypeId} {l:List γ} {i:Int} {k:Nat} {t:TV} {n c b g cap:Nat} {rest:List Value} {enc:γ->List TV} (a:∀x,(enc x).length=sz) {x:γ} {ad:Addr} (hi:gi l i=some x) (hk:(enc x)[k]?=some t) (hb:b≠g) (hc:c≠g) (d:ad=⟨g,i.toNat*sz+k,none⟩):(EJ n c b g cap e T T' sz rest enc l).rd ad=some t.val:=by
 subst d;obtain⟨i0,i1⟩:=Fs hi;have lm:=(Ad.1 i1).1;have f:=(Ad.1 hk).1;rw[a]at f;have h:(i.toNat+1)*sz<=l.length*sz:=B4 _ lm;have e1:(Ai enc l)[i.toNat*sz+k]?=(enc x)[k]? :=by
  have h2:(Ai enc l)[i.toNat*sz+k]?=((Ai enc l).drop<|i.toNat*sz)[k]? :=by grind
  grind [GG,Bp,OL]
 grind [EJ]
theorem jU {o:Oper} (d:Nat) {ad:Addr} {x:Nat} (hk:DE P N ops rest (E.put (some d) (.one (.adr ad))) K) (hs:E.slots x= .one (.adr ad)) (ho:o.op= .nilCheck (.tmp x):=by rfl) (hd:o.dst=some d:=by rfl) (hN:Nat.blt d N=true:=by rfl) (hg:Az P ops E o=some true:=by rfl):DE P N ops (o::rest) E K:=
 DE.any d (.adr ad) hk (λw0 FA UA w a blk FS US h=>by
  have h1:=WI h hs;refine⟨.pointer<|some ad,?_,by simp[BU],rfl⟩
  simp_all [execOp]) hd hN hg
def OO (o:Oper):Nat:=o.dst.getD 0
def r8 (E:St) (ops:Array Oper) (i:Nat) (r:Root) (t:TV):St:=(((((E.put (some<|OO<|oA ops i)<|.one .junk).put (some<|OO<|oA ops<|i+1)<|.one .junk).setRoot r [t]).bump r).put (some<|OO<|oA ops<|i+2)<|.tup [])
def oE:Operand->Nat
 | .tmp n=>n
 |_=>0
def X5 (o:Oper):Nat:=match o.op with
 | .makeInterface _ x=>oE x
 |_=>0
def VA (o:Oper):Nat:=match o.op with
 | .makeFunc _ _ c=>oE<|c[0]?.getD<|.tmp 0
 |_=>0
def oH (o:Oper):Array TypeId:=match o.op with
 | .call c=>c.argTypes
 |_=> #[]
def Uu (s:SV):Nat:=match s with
 | .one (.view _ v _ _)=>v
 |_=>0
theorem pF {rr:β} {l:List γ} {kk:List γ->Option β} {t:Nat} {x:Option (List γ)} (h:x.bind kk=some rr) {enc:γ->List TV} {a:FuncId} (r:Root) (hs:∀l',x=some l'->RN P (NS (oA ops (i+2))) t e sz enc a l l') (hk:∀l',x=some l'->kk l'=some rr->RW P N ops (i+3) (r8 E ops i r (.sl true e sz (Ai enc l'))) Q) (b:∀x,(enc x).length=sz) (d:∀x,(enc x).all TV.flat=true) (hx:E.slots (X5 (oA ops i))= .one (.view r (Uu (E.slots (X5 (oA ops i)))) [] 0):=by kernel_rfl) (c:E.ver r=Uu (E.slots<|X5<|oA ops i):=by kernel_rfl) (hp:E.ptr? (.tmp<|VA<|oA ops<|i+1)=some (r,[],0):=by kernel_rfl) (hc:E.boxes r=some [.sl true e sz<|Ai enc l]:=by kernel_rfl) (hm:r.mem=true:=by kernel_rfl) (h1:(oA ops i).op= .makeInterface t (.tmp<|X5<|oA ops i):=by kernel_rfl) (h2:(oA ops<|i+1).op= .makeFunc (.func a) #[] #[.tmp<|VA<|oA ops<|i+1]:=by kernel_rfl) (h3:(oA ops<|i+2).op= .call {callee:= .value (.func<|NS<|oA ops<|i+2),args:= #[.tmp<|OO<|oA ops i,.tmp<|OO<|oA ops<|i+1],argTypes:=oH (oA ops<|i+2)}:=by kernel_rfl) (k1:(oA ops i).dst=some (OO<|oA ops i):=by kernel_rfl) (k2:(oA ops<|i+1).dst=some (OO<|oA ops<|i+1):=by kernel_rfl) (k3:(oA ops<|i+2).dst=some (OO<|oA ops<|i+2):=by kernel_rfl) (g1:(oA ops i).guard=none:=by kernel_rfl) (g2:(oA ops<|i+1).guard=none:=by kernel_rfl) (g3:(oA ops<|i+2).guard=none:=by kernel_rfl) (hN:(Nat.blt (OO<|oA ops i) N&&Nat.blt (OO<|oA ops<|i+1) N&&Nat.blt (OO<|oA ops<|i+2) N&&!Nat.beq (OO<|oA ops i) (OO<|oA ops<|i+1)&&!Nat.beq (VA<|oA ops<|i+1) (OO<|oA ops i)&&Nat.blt 0 sz&&Nat.blt (i+2) ops.size)=true:=by kernel_rfl) (ht:P.underlying t=some (.slice e):=by kernel_rfl) (hf:R6 P N (oA ops<|i+2)=true:=by kernel_rfl):RW P N ops i E Q:=by
 obtain⟨l',hl',h⟩:=Ac.1 h;simp only[Af,EG]at hN;obtain⟨⟨⟨⟨⟨⟨q1,q2⟩,q3⟩,q4⟩,q5⟩,q6⟩,q7⟩:=hN;have b2:Nat.blt (i+1) ops.size=true:=by grind [Bz]
 have b1:Nat.blt i ops.size=true:=by grind [Bz]
 have hk':=hk l' hl' h;unfold RW at hk'⊢;rw[DI b1,DI b2,DI q7];exact m9 (hs l' hl') hk' b d hx c hp hc hm h1 h2 h3 k1 k2 k3 g1 g2 g3 q1 q2 q3 q4 q5 q6 ht (NJ hf).choose_spec.choose_spec.2.1
def WH (o:Oper):Nat:=match o.op with
 | .call c=>match c.args.toList with
  |[x]=>oE x
  |_=>0
 |_=>0
def Xt (s:SV):Nat:=match s with
 | .one (.view (.slot n) _ _ _)=>n
 |_=>0
def Qa (P:Program) (f:FuncId) (t e sz:Nat) (enc:γ->List TV) (g:FuncId) (l l':List γ):Prop:=∀(w:World) (c b:Nat) (v:Value) (rest:List Value) (T T':TypeId),w.heap[c]?=some (.cells #[.pointer<|some ⟨b,0,none⟩] T' (0,0))->w.heap[b]?=some (.cells (v::rest).toArray T (0,0))->w.ownsRow 0 e sz v l.length ((Ai enc l).map TV.val)->b∉Bc v->c∉Bc v->c≠b->
  Calls P f #[.iface t v,.func (.func g) #[] #[.pointer<|some ⟨c,0,none⟩]] w λr w'=>r= .returned (.tuple #[])/\DZ w w' (c::b::Bc v)/\w'.heap[c]?=w.heap[c]? /\w'.heap[b]?=w.heap[b]? /\w'.ownsRow 0 e sz v l'.length ((Ai enc l').map TV.val)
def iQ (c b:Nat) (v:Value) (rest:List Value) (T T':TypeId) (e sz n:Nat) (xs:List Value):KC where
 B:=c::b::Bc v
 I:=λw=>w.heap[c]?=some (.cells #[.pointer<|some ⟨b,0,none⟩] T' (0,0))/\w.heap[b]?=some (.cells (v::rest).toArray T (0,0))/\w.ownsRow 0 e sz v n xs
 st:=λw w' h hk=>⟨by grind,by grind,h.2.2.1,by
  rcases h.2.2.2 with q|⟨g,cap,a,rfl,q1,q2,q3⟩
  ·exact .inl q
  grind [Bc,Value.ownBlock]⟩
theorem nA {t:Nat} {l l':List γ} {rc:Root} {o1 o2 o3:Oper} {ver:Nat} {enc:γ->List TV} {f c:FuncId} {rs:List TV} {d1 d2 d3 x p b0:Nat} {tys:Array TypeId} (hs:Qa P f t e sz enc c l l') (hk:Ao P N ops rest (((((E.put (some d1) (.one .junk)).put (some d2) (.one .junk)).setRoot (.ext 0) (.sl true e sz (Ai enc l')::rs)).bump (.ext 0)).put (some d3) (.tup [])) Q) (k:∀x,(enc x).length=sz) (j:∀x,(enc x).all TV.flat=true) (hpin:E.amb.pin=some (b0,none)) (hx:E.slots x= .one (.view (.ext 0) ver [] 0)) (a2:E.ver (.ext 0)=ver) (hp:E.ptr? (.tmp p)=some (rc,[],0)) (hc:E.boxes (.ext 0)=some (.sl true e sz (Ai enc l)::rs)) (m:E.boxes rc=some [.adr ⟨b0,0,none⟩]) (hm:rc.mem=true) (h1:o1.op= .makeInterface t (.tmp x)) (h2:o2.op= .makeFunc (.func c) #[] #[.tmp p]) (h3:o3.op= .call {callee:= .value (.func f),args:= #[.tmp d1,.tmp d2],argTypes:=tys}) (k1:o1.dst=some d1) (k2:o2.dst=some d2) (k3:o3.dst=some d3) (g1:o1.guard=none) (g2:o2.guard=none) (g3:o3.guard=none) (a7:Nat.blt d1 N=true) (a8:Nat.blt d2 N=true) (a9:Nat.blt d3 N=true) (c0:Nat.beq d1 d2=false) (a3:Nat.beq p d1=false) (c2:Nat.blt 0 sz=true) (ht:P.underlying t=some (.slice e)) (hf:R2 P f):Ao P N ops (o1::o2::o3::rest) E Q:=by
 have hN1':d1<N:=by simp_all
 have hN2':d2<N:=by simp_all
 have hN3':d3<N:=by simp_all
 have hne':d1≠d2:=by intro e;simp_all
 have hne2':p≠d1:=by intro e;simp_all
 have hsz':0<sz:=by simp_all
 have h0:rc≠ .ext 0:=by grind
 intro w0 FA UA w a blk FS US hr hF hU;have a4:blk (.ext 0)=b0:=by rw[hr.xblk,(hr.pin _ hpin).1]
 obtain⟨v,vs,T,F2,U1,U2,b1,b2,b3,b4,b5⟩:∃v vs T F2 U1 U2,w.heap[blk<|.ext 0]?=some (.cells (v::vs).toArray T (0,0))/\(∃F1,BU w (.sl true e sz<|Ai enc l) v F1 U1/\FS (.ext 0)=blk (.ext 0)::(F1++F2))/\AO w rs vs F2 U2/\US (.ext 0)=U1++U2/\True:=by
  rcases hr.box (.ext 0) rfl with⟨q1,_⟩|⟨cs,g,T,F,q1,q2,q3,q4⟩
  ·grind
  rw[hc]at q1
  injection q1 with q1
  subst q1;simp only[AO]at q3;obtain⟨v,o,F1,F2,U1,U2,e1,rfl,e3,q5,q6⟩:=q3;have:g=(v::o).toArray:=by grind
  grind
 obtain⟨F1,b2,b6⟩:=b2;obtain⟨T',c1⟩:∃T',w.heap[blk rc]?=some (.cells #[.pointer<|some ⟨b0,0,none⟩] T' (0,0)):=by
  rcases hr.box rc hm with⟨q1,_⟩|⟨cs,g,T,F,q1,q2,q3,q4⟩
  ·grind
  rw[m]at q1
  injection q1 with q1
  subst q1;simp only[AO,BU]at q3;obtain⟨v,o,F1,F2,U1,U2,e1,rfl,e3,⟨rfl,_⟩,rfl,_⟩:=q3;have:g= #[.pointer<|some ⟨b0,0,none⟩]:=by grind
  grind
 have h4:blk rc∈FS rc:=by
  rcases hr.box rc hm with⟨q1,_⟩|⟨cs,g,T,F,q1,q2,q3,q4⟩
  ·grind
  rw[q4];simp
 simp only[BU]at b2;obtain⟨n,xs,F',b7,b8,rfl⟩:=b2;have h5:=PB b8<|DU j l;obtain⟨rfl,rfl⟩:=HA b8<|DU j l;subst h5;have h6:n=l.length:=by
  have q:=b7.1;rw[BM,Dm k l]at q
  grind [Nat.eq_of_mul_eq_mul_right]
 subst h6;rw[A6]at b6;rw[Ar]at b4;have u:=hr.nodup<|.ext 0;rw[b6]at u
 have h7:blk (.ext 0)∉Bc v:=λhx=>(B6.1 u).1<|Bt _ hx
 have y:∀x∈FS (.ext 0),x≠blk rc:=λx hx e=>hr.dis _ _ h0 _ h4<|e▸hx
 have h8:blk rc∉Bc v:=λhx=>y (blk rc) (by grind) rfl
 have h9:blk rc≠blk (.ext 0):=λe=>y (blk<|.ext 0) (by rw[b6];simp) e.symm
 have evx:a.eval (.tmp x)=v:=by
  have q:=hr.slot x;simp_all [E4,Cj,pv,AJ,Addr.add,World.cell?]
 have evp:a.eval (.tmp p)= .pointer (some ⟨blk rc,0,none⟩):=by
  obtain⟨_,ad,q1,q2⟩:=HR hr hp;rw[q2]
  cases rc with
  |slot n=>cases hm
  |hand=>cases hm
  |box n=>grind [pa,Addr.add]
  |ext n=>grind [pa,Addr.add]
 obtain⟨FS1,US1,r1,r2,r3⟩:=PJ hr hF hU hN1'<|.iface t v;have e1:(execOp a.eval o1).run P w= .ok (.value<|.iface t v) w:=by simp_all [run_underlying,execOp,Instr.makeInterface]
 simp only[wpList,AS hr<|Gx (P:=P) (ops:=ops) g1,By];refine .inl ?_
 try unfold Oper.wp
 rw[e1,Oper.upon_value,k1];have evp1:(a.put (some d1)<|.iface t v).eval (.tmp p)= .pointer (some ⟨blk rc,0,none⟩):=by grind [BX]
 obtain⟨FS2,US2,s1,s2,s3⟩:=PJ r1 r2 r3 hN2'<|.func (.func c) #[] #[.pointer<|some ⟨blk rc,0,none⟩];have e2:(execOp (a.put (some d1)<|.iface t v).eval o2).run P w= .ok (.value<|.func (.func c) #[] #[.pointer<|some ⟨blk rc,0,none⟩]) w:=by simp_all [execOp,Instr.makeFunc]
 simp only[wpList,AS r1<|Gx (P:=P) (ops:=ops) g2,By];refine .inl ?_
 try unfold Oper.wp
 rw[e2,Oper.upon_value,k2];simp only[wpList,AS s1<|Gx (P:=P) (ops:=ops) g3,By];refine .inl ?_;have c6:d1<a.tmps.size:=Aw hN1' hr.len;have d0:d2<(a.put (some d1)<|.iface t v).tmps.size:=Aw hN2' r1.len
 try unfold Oper.wp
 rw[Eg h3 hf];have ea: #[Operand.tmp d1,.tmp d2].map ((a.put (some d1)<|.iface t v).put (some d2)<|.func (.func c) #[] #[.pointer<|some ⟨blk rc,0,none⟩]).eval= #[.iface t v,.func (.func c) #[] #[.pointer<|some ⟨blk rc,0,none⟩]]:=by grind [Ft,BX]
 rw[ea];simp only[Oper.upon];refine Calls.mono (hs w (blk rc) (blk<|.ext 0) v vs T T' (by grind) b1 b7 h7 h8 h9) ?_;rintro ee w' ⟨rfl,h,d4,d5,a0⟩;have a1:((E.put (some d1)<|.one .junk).put (some d2)<|.one .junk).boxes (.ext 0)=some (.sl true e sz (Ai enc l)::rs):=hc;obtain⟨G1,G2,V2,f1,f2,f3,f4⟩:∃G1 G2 V2,FS2 (.ext 0)=blk (.ext 0)::(G1++G2)/\G1=Bc v/\US2 (.ext 0)=V2/\AO w rs vs G2 V2:=by
  rcases s1.box (.ext 0) rfl with⟨q1,_⟩|⟨cs,g,T2,F2,q1,q2,q3,q4⟩
  ·grind
  grind [HA,DU,AO,BU]
 subst f2;have i:=s1.nodup<|.ext 0;rw[f1]at i;have a5:blk rc∈FS2 rc:=by
  have a6:((E.put (some d1)<|.one .junk).put (some d2)<|.one .junk).boxes rc=some [.adr ⟨b0,0,none⟩]:=m
  rcases s1.box rc hm with⟨q1,_⟩|⟨cs,g,T,F,q1,q2,q3,q4⟩
  ·grind
  rw[q4];simp
 have keepb:∀b,b<w.heap.size->b∉Bc v->w'.heap[b]?=w.heap[b]? :=by
  intro b hb hv;by_cases q1:b=blk rc
  ·grind
  by_cases q2:b=blk (.ext 0)
  ·grind
  exact h.keep b hb<|by grind
 have z:DZ w w' (FS2<|.ext 0):=⟨h.os,h.tape,h.output,h.size,λb hb hn=>keepb b hb λhv=>hn<|by grind⟩
 have hG:∀b∈G2,w'.heap[b]?=w.heap[b]? :=λb hb=>keepb b (s1.inF (.ext 0) b<|by grind).2
  (λhv=>(BG.1 (B6.1 i).2).2.2 b hv b hb rfl)
 have hV:∀b∈V2,w'.heap[b]?=w.heap[b]? :=λb hb=>keepb b (s1.inU (.ext 0) b (by rw[f3];exact hb)).2
  (λhv=>s1.disU (.ext 0) (.ext 0) b (by grind) (by rw[f3];exact hb))
 obtain⟨FS3,US3,t1,t2,t3⟩:=s1.turn s2 s3 (r:= .ext 0) rfl a1 (cells':= .sl true e sz (Ai enc l')::rs) (by simp) (w':=w') z
  ⟨(
   v::vs).toArray,T,Bc v++G2,by grind,by
   rw[f3];simp only[AO];refine⟨v,vs,Bc v,G2,[],V2,by simp,rfl,rfl,?_,CA f4 hG hV⟩;simp only[BU]
   exact⟨l'.length,_,[],a0,Pn<|DU j l',by simp⟩,f1⟩
 obtain⟨FS4,US4,u1,u2,u3⟩:=t1.land (w':=w') (d:=d3) (s:= .tup []) (v:= .tuple #[]) (F:=[]) (U:=[]) hN3' (by simp[E4,Mq]) BN (by simp) (by simp) (A8 _) rfl rfl rfl λ_ _ _=>rfl;rw[k3];exact hk _ _ _ _ _ _ _ _ u1 u2 u3
def nF:Option (List TV)->List TV
 |some (_::ts)=>ts
 |_=>[]
def sD:Option (Root×List Nat×Nat)->Root
 |some (r,_,_)=>r
 |none=> .hand
def tT (E:St) (ops:Array Oper) (i:Nat) (t:TV):St:=(((((E.put (some<|OO<|oA ops i)<|.one .junk).put (some<|OO<|oA ops<|i+1)<|.one .junk).setRoot (.ext 0) (t::nF (E.boxes<|.ext 0))).bump<|.ext 0).put (some<|OO<|oA ops<|i+2)<|.tup [])
theorem pG {rr:β} {l:List γ} {kk:List γ->Option β} {t b0:Nat} {x:Option (List γ)} (h:x.bind kk=some rr) {enc:γ->List TV} {a:FuncId} (hs:∀l',x=some l'->Qa P (NS (oA ops (i+2))) t e sz enc a l l') (hk:∀l',x=some l'->kk l'=some rr->RW P N ops (i+3) (tT E ops i (.sl true e sz (Ai enc l'))) Q) (b:∀x,(enc x).length=sz) (d:∀x,(enc x).all TV.flat=true) (hpin:E.amb.pin=some (b0,none):=by kernel_rfl) (hx:E.slots (X5<|oA ops i)= .one (.view (.ext 0) (Uu<|E.slots<|X5<|oA ops i) [] 0):=by kernel_rfl) (c:E.ver (.ext 0)=Uu (E.slots<|X5<|oA ops i):=by kernel_rfl) (hp:E.ptr? (.tmp<|VA<|oA ops<|i+1)=some (sD<|E.ptr?<|.tmp<|VA<|oA ops<|i+1,[],0):=by kernel_rfl) (hc:E.boxes (.ext 0)=some (.sl true e sz (Ai enc l)::nF (E.boxes<|.ext 0)):=by kernel_rfl) (f:E.boxes (sD<|E.ptr?<|.tmp<|VA<|oA ops<|i+1)=some [.adr ⟨b0,0,none⟩]:=by kernel_rfl) (hm:(sD<|E.ptr?<|.tmp<|VA<|oA ops<|i+1).mem=true:=by kernel_rfl) (h1:(oA ops i).op= .makeInterface t (.tmp<|X5<|oA ops i):=by kernel_rfl) (h2:(oA ops<|i+1).op= .makeFunc (.func a) #[] #[.tmp<|VA<|oA ops<|i+1]:=by kernel_rfl) (h3:(oA ops<|i+2).op= .call {callee:= .value (.func<|NS<|oA ops<|i+2),args:= #[.tmp<|OO<|oA ops i,.tmp<|OO<|oA ops<|i+1],argTypes:=oH (oA ops<|i+2)}:=by kernel_rfl) (k1:(oA ops i).dst=some (OO<|oA ops i):=by kernel_rfl) (k2:(oA ops<|i+1).dst=some (OO<|oA ops<|i+1):=by kernel_rfl) (k3:(oA ops<|i+2).dst=some (OO<|oA ops<|i+2):=by kernel_rfl) (g1:(oA ops i).guard=none:=by kernel_rfl) (g2:(oA ops<|i+1).guard=none:=by kernel_rfl) (g3:(oA ops<|i+2).guard=none:=by kernel_rfl) (hN:(Nat.blt (OO<|oA ops i) N&&Nat.blt (OO<|oA ops<|i+1) N&&Nat.blt (OO<|oA ops<|i+2) N&&!Nat.beq (OO<|oA ops i) (OO<|oA ops<|i+1)&&!Nat.beq (VA<|oA ops<|i+1) (OO<|oA ops i)&&Nat.blt 0 sz&&Nat.blt (i+2) ops.size)=true:=by kernel_rfl) (ht:P.underlying t=some (.slice e):=by kernel_rfl) (hf:R6 P N (oA ops<|i+2)=true:=by kernel_rfl):RW P N ops i E Q:=by
 obtain⟨l',hl',h⟩:=Ac.1 h;simp only[Af,EG]at hN;obtain⟨⟨⟨⟨⟨⟨q1,q2⟩,q3⟩,q4⟩,q5⟩,q6⟩,q7⟩:=hN;have b2:Nat.blt (i+1) ops.size=true:=by grind [Bz]
 have b1:Nat.blt i ops.size=true:=by grind [Bz]
 have hk':=hk l' hl' h;unfold RW at hk'⊢;rw[DI b1,DI b2,DI q7];exact nA (hs l' hl') hk' b d hpin hx c hp hc f hm h1 h2 h3 k1 k2 k3 g1 g2 g3 q1 q2 q3 q4 q5 q6 ht (NJ hf).choose_spec.choose_spec.2.1
theorem sQ {f:FuncId} {c:Code} {a cells':List TV} {b:SV} (hf:P.funcs[f]?=some fn) (hb:fn.body=some c) (hN:fn.ntmps=N) (h:∀b0,Wp P N c (Ca (.ext a::as) (XN b0)) λe E=>(e= .normal\/e= .ret)/\∃ss E',Cm P E fn.results.toList=some (ss,E')/\Ct ss=b/\E'.boxes (.ext 0)=some cells') (d:cells'.isEmpty=false:=by rfl):An P f (.ext a::as) b (.ext cells'::List.replicate as.length .gone):=SQ XN kW hf hb (by rw[hN];exact h) d
def W6 (P:Program) (N:Nat) (ops:Array Oper) (E:St) (i:Nat):Option (FuncId×Array Value×Int×Int):=bif NR P ops E i&&FN N (oA ops i)then
 (match(oA ops i).op with
 | .call c=>match c.callee,c.args.toList with
  | .value (.tmp t),[o1,o2]=>match E.slots t,E.cell1 P 0 o1,E.cell1 P 0 o2 with
   | .one (.fn (.func g) fr cap),some<|.int .i64 x,some (.int .i64 y)=>bif fr.isEmpty then some (g,cap,x,y)else none
   |_,_,_=>none
  |_,_=>none
 |_=>none)else none
theorem Vh {cap:Array Value} {x y:Int} (h:W6 P N ops E i=some (g,cap,x,y)):NR P ops E i=true/\(∃d,(oA ops i).dst=some d/\Nat.blt d N=true)/\∃t o1 o2 tys,(oA ops i).op= .call {callee:= .value (.tmp t),args:= #[o1,o2],argTypes:=tys}/\E.slots t= .one (.fn (.func g) #[] cap)/\E.cell1 P 0 o1=some (.int .i64 x)/\E.cell1 P 0 o2=some (.int .i64 y):=by
 unfold W6 at h
 cases hb:(NR P ops E i&&FN N (oA ops i))with
 |false=>grind
 |true=>
  rw[hb]at h;simp only[Af]at hb;obtain⟨d,h1,h2,_⟩:=Dn hb.2;refine⟨hb.1,⟨d,h1,h2⟩,?_⟩;split at h
  ·rename_i c hc;split at h
   ·rename_i t o1 o2 k1 k2;split at h
    ·rename_i g' fr cap' x' y' m1 m2 m3
     cases he:fr.isEmpty with
     |false=>grind
     |true=>
      rw[he]at h;obtain⟨rfl,rfl,rfl,rfl⟩:=h;have a:fr= #[]:=by simpa using he
      subst a;have ha:c.args= #[o1,o2]:=Array.toList_inj.1 k2;rw[hc];cases c
      grind
    cases h
   cases h
  cases h
theorem dP {rr:β} {lt:γ->γ->Bool} {l:List γ} {k:γ×γ->Option β} {cap:Array Value} (a:G0 P Am lt g cap) {x y:Int} (h:(fW l x y).bind k=some rr) (hk:∀v,k v=some rr->RW P N ops (i+1) (E.put (oA ops i).dst (.one (.bool (lt v.1 v.2)))) Q) (hc:W6 P N ops E i=some (g,cap,x,y):=by kernel_rfl) (hA:E.amb=Am l:=by kernel_rfl):RW P N ops i E Q:=by
 obtain⟨h1,⟨d,h2,h3⟩,t,o1,o2,tys,h4,h5,h6,h7⟩:=Vh hc;obtain⟨h8,h9⟩:=EC h1
 grind [DI,nB,RW]
theorem dO {rr:β} {l:List γ} {k:List γ->Option β} {cap:Array Value} (a:I3 P Am sf cap) (hB:∀l l',(Am l).B=(Am l').B/\(Am l).pin=none) {x y:Int} (h:(Zv l x y).bind k=some rr) (hk:∀v,k v=some rr->RW P N ops (i+1) (({E with amb:=Am v}:St).put (oA ops i).dst<|.tup []) Q) (hc:W6 P N ops E i=some (sf,cap,x,y):=by kernel_rfl) (hA:E.amb=Am l:=by kernel_rfl):RW P N ops i E Q:=by
 obtain⟨h1,⟨d,h2,h3⟩,t,o1,o2,tys,h4,h5,h6,h7⟩:=Vh hc;obtain⟨h8,h9⟩:=EC h1
 grind [DI,m8,RW]
def nW (P:Program) (N:Nat) (ops:Array Oper) (E:St) (i:Nat):Option (FuncId×List AV):=bif NR P ops E i&&FN N (oA ops i)then
 (match(oA ops i).op with
 | .call c=>match c.callee with
  | .value (.func f)=>match P.funcs[f]? with
   |some fn=>match FP P E ((c.argTypes.toList.zip c.args.toList).map λ(t,x)=>(false,t,x)) (List.replicate c.args.size none)with
    | some (l, b) => bif b && (l.all aZ && (!(fn.name == "runtime.NumGoroutine") && (!fn.body.isNone && Nat.beq c.argTypes.size c.args.size))) then some (f, l) else none
    |none=>none
   |none=>none
  |_=>none
 |_=>none)else none
theorem Ni {rr:β} {f:FuncId} {l:List AV} {k:List γ->Option β} {x:Option (List γ)} (h:x.bind k=some rr) (hB:∀l l',(Am l).B=(Am l').B/\(Am l).pin=none) (a:∀v,x=some v->I5 P f (Am xl) l (Am v)) (hk:∀v,k v=some rr->RW P N ops (i+1) (({E with amb:=Am v}:St).put (oA ops i).dst<|.tup []) Q) (hc:nW P N ops E i=some (f,l):=by kernel_rfl) (hA:E.amb=Am xl:=by kernel_rfl):RW P N ops i E Q:=by
 unfold nW at hc
 cases hb:(NR P ops E i&&FN N (oA ops i))with
 |false=>grind
 |true=>
  rw[hb]at hc;simp only[Af]at hb;obtain⟨d,h1,h2,_⟩:=Dn hb.2;obtain⟨h8,h9⟩:=EC hb.1;split at hc
  ·rename_i c j;split at hc
   ·split at hc
    ·rename_i fn e;split at hc
     ·rename_i l' b g
      cases hq : (b && (l'.all aZ && (!(fn.name == "runtime.NumGoroutine") && (!fn.body.isNone && Nat.beq c.argTypes.size c.args.size)))) with
      |false=>grind
      |true=>
       rw[hq]at hc;obtain⟨rfl,rfl⟩:=hc;simp only[Af,EG]at hq;obtain⟨rfl,q1,q2,q3,q4⟩:=hq;unfold RW;rw[DI h8];refine pL (fn:=fn) h d Am (A:=Am xl) (args:=c.args) (tys:=c.argTypes) ?_ hA (λv=>⟨(hB _ _).1,(hB _ v).2⟩) g (Tr q1) a (λv _ hv=>by have:=hk v hv;rw[h1]at this;exact this) e q2 q3 h1 h2 (AI q4) h9;cases c
       grind
     cases hc
    cases hc
   cases hc
  cases hc
theorem ra {Am:α->KC} {e:Exit} {v r:α} (h:some v=some r) (he:e= .normal\/e= .ret:=by first|exact .inr rfl|exact .inl rfl) (hA:E.amb=Am v:=by kernel_rfl):(e= .normal\/e= .ret)/\E.amb=Am r:=by grind
structure RS where
 s:List (Nat×SV)
 b:List (Root×List TV)
 a:KC
def RS.st (x:RS):St:=qO x.s x.b x.a
abbrev rs (s:List (Nat×SV)) (b:List (Root×List TV)):RS:=⟨s,b,KC.none⟩
abbrev M4 (s:List (Nat×SV)) (b:List (Root×List TV)) (a:KC):RS:=⟨s,b,a⟩
def RS.in (X:RS) (E:St):Bool:=X.b.all λr=>r.1.mem&&(E.boxes r.1).isSome
def RS.nf (X:RS) (E:St):St:=Ha E (X.s.map Prod.fst)<|X.b.map Prod.fst
def RF (X:RS) (E:St):Prop:=X.in E=true/\X.nf E=X.st
def jR (H:V->RS) (v:Option V) (Q:Exit->St->Prop):Exit->St->Prop
 | .normal,E=>∃a,v=some a/\RF (H a) E
 |e,E=>Q e E
def lR (id:Nat) (H:S->RS) (H2:V->RS) (o:S⊕V⊕W) (Q:Exit->St->Prop):Exit->St->Prop
 | .normal,E=>∃s,o= .inl s/\RF (H s) E
 | .exit i,E=>if i=id then∃v,o= .inr (.inl v)/\RF (H2 v) E else Q (.exit i) E
 |e,E=>Q e E
def rZ (id:Nat) (H:S->RS) (H2:V->RS) (o:S⊕V) (Q:Exit->St->Prop):Exit->St->Prop
 | .normal,E=>∃s,o= .inl s/\RF (H s) E
 | .exit i,E=>if i=id then∃v,o= .inr v/\RF (H2 v) E else Q (.exit i) E
 |e,E=>Q e E
variable {X:RS} {H:V->RS} {H2:V->RS}
theorem Av {c:Code} (h:RF X E) (hw:Wp P N c X.st Q):Wp P N c E Q:=Wp.norm _ _ _ (by rw[List.all_map];exact h.1) h.2 hw
theorem dG {c:Code} {x:Option V} (h:x.bind k=some r) (H:V->RS) (h1:∀a,x=some a->Wp P N c E (jR H (some a) Q)) (h2:∀a,k a=some r->∀E',RF (H a) E'->Q .normal E'):Wp P N c E Q:=by
 obtain⟨a,ha,h⟩:=Ac.1 h
 refine Wp.mono (h1 a ha) λe E' hq=>?_
 cases e<;>try exact hq
 obtain⟨a',h3,h4⟩:=hq
 grind
theorem tH {c:Code} {k:V⊕W->Option β} {x:Option (V⊕W)} (h:x.bind k=some r) (H:V->RS) (h1:∀a,x=some a->k a=some r->Wp P N c E (jR H a.getLeft? Q)) (h2:∀a,k (.inl a)=some r->∀E',RF (H a) E'->Q .normal E'):Wp P N c E Q:=by
 obtain⟨a,ha,h⟩:=Ac.1 h
 refine Wp.mono (h1 a ha h) λe E' hq=>?_
 cases e<;>try exact hq
 obtain⟨a',h3,h4⟩:=hq
 grind
theorem M5 {H:S->RS} {Q':Exit->St->Prop} {c:Code} {body:S->Option (S⊕A)} {a:A} (hb:∀s o,body s=some o->(∀a',o= .inr a'->a'=a)->Wp P N c (H s).st (λe E=>match e with| .normal=>∃s,o= .inl s/\RF (H s) E|e=>Q' e E)):
  ∀{n:Nat} {s:S} {E:St},RF (H s) E->Kg body n s=some a->QI P N c Q' n E
 |0,s,E,_,h=>by cases h
 |n+1,s,E,hn,h=>by
  simp only[Kg]at h;refine Av hn ?_;split at h
  ·cases h
  ·rename_i s' hs
   refine Wp.mono (hb s _ hs (λa' h=>by cases h)) λe E' hq=>?_
   cases e<;>try exact hq
   obtain⟨s2,h2,h3⟩:=hq
   injection h2 with h2
   subst h2;exact M5 hb h3 h
  rename_i a' hs
  refine Wp.mono (hb s _ hs λa2 h2=>by grind) λe E' hq=>?_
  cases e<;>try exact hq
  grind
theorem qW {id:Nat} {c:Code} {k:V⊕W->Option β} {H:S->RS} {body:S->Option (S⊕V⊕W)} (h:(Ah body s0).bind k=some r) (h0:RF (H s0) E) (hb:∀s o,body s=some o->(∀w,o= .inr (.inr w)->k (.inr w)=some r)->Wp P N c (H s).st (lR id H H2 o Q)) (h2:∀v,k (.inl v)=some r->∀E',RF (H2 v) E'->Q .normal E'):Wp P N (.block id (.loop c)) E Q:=by
 obtain⟨a,ha,h⟩:=Ac.1 h;obtain⟨n,hn⟩:=DS.1 ha;refine Wp.block<|Wp.loop n<|M5 (H:=H) (a:=a) (λs o hs ho=>?_) h0 hn
 refine Wp.mono (hb s o hs λw hw=>by grind) λe E' hq=>?_
 simp_all [lR,OQ];grind
theorem qY {id:Nat} {c:Code} {H:S->RS} {body:S->Option (S⊕V)} (h:(Ah body s0).bind k=some r) (h0:RF (H s0) E) (hb:∀s o,body s=some o->Wp P N c (H s).st (rZ id H H2 o Q)) (h2:∀v,k v=some r->∀E',RF (H2 v) E'->Q .normal E'):Wp P N (.block id (.loop c)) E Q:=by
 obtain⟨a,ha,h⟩:=Ac.1 h;obtain⟨n,hn⟩:=DS.1 ha;refine Wp.block<|Wp.loop n<|M5 (H:=H) (a:=a) (λs o hs ho=>?_) h0 hn
 refine Wp.mono (hb s o hs) λe E' hq=>?_
 simp_all [rZ,OQ];grind
theorem J5 {id:Nat} {c:Code} {k:V⊕W->Option β} {body:S->Option (S⊕V⊕W)} (h:(Ah body s0).bind k=some r) (H:S->RS) (H2:V->RS) (hb:∀s o,body s=some o->(∀w,o= .inr (.inr w)->k (.inr w)=some r)->Wp P N c (H s).st (lR id H H2 o Q)) (h2:∀v,k (.inl v)=some r->∀E',RF (H2 v) E'->Q .normal E') (h0:(H s0).in E=true:=by kernel_rfl) (hn:(H s0).nf E=(H s0).st:=by kernel_rfl):Wp P N (.block id<|.loop c) E Q:=qW h ⟨h0,hn⟩ hb h2
theorem Hm {id:Nat} {c:Code} {body:S->Option (S⊕V)} (h:(Ah body s0).bind k=some r) (H:S->RS) (H2:V->RS) (hb:∀s o,body s=some o->Wp P N c (H s).st (rZ id H H2 o Q)) (h2:∀v,k v=some r->∀E',RF (H2 v) E'->Q .normal E') (h0:(H s0).in E=true:=by kernel_rfl) (hn:(H s0).nf E=(H s0).st:=by kernel_rfl):Wp P N (.block id<|.loop c) E Q:=qY h ⟨h0,hn⟩ hb h2
theorem EP {c:Code} {x:Option V} (h:x.bind k=some r) (H:V->RS) (h1:∀a,x=some a->Wp P N c E (jR H (some a) (FK (λE'=>Wp P N y E' Q) Q))) (h2:∀a,k a=some r->Wp P N y (H a).st Q):Wp P N (.seq c y) E Q:=Wp.seq<|dG h H h1 λa ha E' hE=>Av hE<|h2 a ha
theorem nC {id:Nat} {c:Code} {body:S->Option (S⊕V)} (h:(Ah body s0).bind k=some r) (H:S->RS) (H2:V->RS) (hb:∀s o,body s=some o->Wp P N c (H s).st (rZ id H H2 o (FK (λE'=>Wp P N y E' Q) Q))) (h2:∀v,k v=some r->Wp P N y (H2 v).st Q) (h0:(H s0).in E=true:=by kernel_rfl) (hn:(H s0).nf E=(H s0).st:=by kernel_rfl):Wp P N (.seq (.block id<|.loop c) y) E Q:=Wp.seq<|qY h ⟨h0,hn⟩ hb λv hv E' hE=>Av hE<|h2 v hv
theorem tP {id:Nat} {c:Code} {k:V⊕W->Option β} {body:S->Option (S⊕V⊕W)} (h:(Ah body s0).bind k=some r) (H:S->RS) (H2:V->RS) (hb:∀s o,body s=some o->(∀w,o= .inr (.inr w)->k (.inr w)=some r)->Wp P N c (H s).st (lR id H H2 o (FK (λE'=>Wp P N y E' Q) Q))) (h2:∀v,k (.inl v)=some r->Wp P N y (H2 v).st Q) (h0:(H s0).in E=true:=by kernel_rfl) (hn:(H s0).nf E=(H s0).st:=by kernel_rfl):Wp P N (.seq (.block id<|.loop c) y) E Q:=Wp.seq<|qW h ⟨h0,hn⟩ hb λv hv E' hE=>Av hE<|h2 v hv
theorem en {a v:V} (h:some v=some a) (hb:(H v).in E=true:=by kernel_rfl) (hn:(H v).nf E=(H v).st:=by kernel_rfl):∃a',some a=some a'/\RF (H a') E:=by
 injection h with h
 subst h;exact⟨_,rfl,hb,hn⟩
theorem em {a:V⊕W} {v:V} (h:some (.inl v)=some a) (hb:(H v).in E=true:=by kernel_rfl) (hn:(H v).nf E=(H v).st:=by kernel_rfl):∃a',a.getLeft? =some a'/\RF (H a') E:=by
 injection h with h
 subst h;exact⟨_,rfl,hb,hn⟩
theorem el {H:S->RS} {s:S} {o:S⊕W} (h:some (.inl s)=some o) (hb:(H s).in E=true:=by kernel_rfl) (hn:(H s).nf E=(H s).st:=by kernel_rfl):∃s,o= .inl s/\RF (H s) E:=by
 injection h with h
 subst h;exact⟨_,rfl,hb,hn⟩
theorem ex {o:S⊕(V⊕W)} {v:V} (h:some (.inr (.inl v))=some o) (hb:(H v).in E=true:=by kernel_rfl) (hn:(H v).nf E=(H v).st:=by kernel_rfl):∃v,o= .inr (.inl v)/\RF (H v) E:=by
 injection h with h
 subst h;exact⟨_,rfl,hb,hn⟩
theorem ev {o:S⊕V} {v:V} (h:some (.inr v)=some o) (hb:(H v).in E=true:=by kernel_rfl) (hn:(H v).nf E=(H v).st:=by kernel_rfl):∃v,o= .inr v/\RF (H v) E:=by
 injection h with h
 subst h;exact⟨_,rfl,hb,hn⟩
def oX (P:Program) (N:Nat) (ops:Array Oper) (ts mv dn:List Nat) (E:St) (X:RS):Bool:=match eP P N ops ts mv (ops.size+1) dn E with
 |some L=>L.all λE'=>X.in E'
 |none=>false
theorem kY {ts:List Nat} (hb:oX P N ops ts mv dn E X=true) (hn:(hZ P N ops ts mv dn E).map X.nf=(hZ P N ops ts mv dn E).map λ_=>X.st) (hq:∀E',RF X E'->Q .normal E'):KW P N ops ts dn E Q:=by
 unfold oX at hb;split at hb
 ·rename_i L hL
  refine bJ hL λE' hE=>hq E' ⟨List.all_eq_true.1 hb E' hE,?_⟩
  simp_all [hZ]
 cases hb
section
variable {ts:List Nat}
theorem dK {Q0:Exit->St->Prop} {a v:V} (mv:List Nat) (h:some v=some a) (hb:oX P N ops ts mv dn E (H v)=true:=by kernel_rfl) (hn:(hZ P N ops ts mv dn E).map (H v).nf=(hZ P N ops ts mv dn E).map (λ_=>(H v).st):=by kernel_rfl):KW P N ops ts dn E (jR H (some a) Q0):=
 kY hb hn λE' hE=>by
  injection h with h
  subst h;exact⟨_,rfl,hE⟩
end
theorem rk (k:Nat) (h:RW P N ops (i+k) (KZ P N ops k 0 i E) Q) (hk:(M3 P N ops k 0 i E).isSome=true:=by kernel_rfl):RW P N ops i E Q:=jW k 0 h hk
theorem kP (a b:Nat):Nat.ble a (b+(a-b))=true:=by rw[m7];omega
theorem gm (m:Nat) (h:Q .normal (KZ P N ops (ops.size-i) m i E)) (hk:(M3 P N ops (ops.size-i) m i E).isSome=true:=by kernel_rfl):RW P N ops i E Q:=jW (ops.size-i) m (RW.nil h<|kP _ _) hk
theorem g0 (h:Q .normal (KZ P N ops (ops.size-i) 0 i E)) (hk:(M3 P N ops (ops.size-i) 0 i E).isSome=true:=by kernel_rfl):RW P N ops i E Q:=gm 0 h hk
section
variable {id:Nat}
theorem wm (m:Nat) (h:RW P N ops2 0 (KZ P N ops (ops.size-i) m i E) (FK (λE'=>Wp P N y E' Q) Q)) (hk:(M3 P N ops (ops.size-i) m i E).isSome=true:=by kernel_rfl):RW P N ops i E (FK (λE'=>Wp P N (.seq (.region id ops2 false) y) E' Q) Q):=gm m (ws h) hk
end
section
variable {id:Nat}
theorem w0 (h:RW P N ops2 0 (KZ P N ops (ops.size-i) 0 i E) (FK (λE'=>Wp P N y E' Q) Q)) (hk:(M3 P N ops (ops.size-i) 0 i E).isSome=true:=by kernel_rfl):RW P N ops i E (FK (λE'=>Wp P N (.seq (.region id ops2 false) y) E' Q) Q):=wm 0 h hk
end
section
variable {id:Nat}
theorem wg (h:FK (λE'=>Wp P N y E' Q) Q .normal (KZ P N ops (ops.size-0) 0 0 E)) (hk:(M3 P N ops (ops.size-0) 0 0 E).isSome=true:=by kernel_rfl):Wp P N (.seq (.region id ops false) y) E Q:=ws<|g0 h hk
end
section
variable {x:Code}
theorem qs (h:Wp P N x E (FK (λE'=>Wp P N y E' Q) Q)):Wp P N (.seq x y) E Q:=Wp.seq h
end
theorem qk (h:Q .normal E):Wp P N .skip E Q:=Wp.skip h
theorem qt (h:Q .ret E):Wp P N .ret E Q:=Wp.ret h
theorem qx {id:Nat} (h:Q (.exit id) E):Wp P N (.exit id) E Q:=Wp.exit h
theorem qb {id:Nat} {c:Code} (h:Wp P N c E (OQ id Q)):Wp P N (.block id c) E Q:=Wp.block h
theorem qr {id:Nat} (h:RW P N ops 0 E Q):Wp P N (.region id ops false) E Q:=nZ h
section
variable {id:Nat} {c:Code}
theorem qd {Q1:Exit->St->Prop} (h:Wp P N c E (OQ id (FK (λE'=>Wp P N y E' Q1) Q1))):Wp P N .skip E (FK (λE'=>Wp P N (.seq (.block id c) y) E' Q1) Q1):=qk<|qs<|qb h
end
section
variable {id:Nat}
theorem qw {z:Code} (h:FK (λE'=>Wp P N y E' (FK (λE'=>Wp P N z E' Q) Q)) (FK (λE'=>Wp P N z E' Q) Q) .normal (KZ P N ops (ops.size-0) 0 0 E)) (hk:(M3 P N ops (ops.size-0) 0 0 E).isSome=true:=by kernel_rfl):Wp P N (.seq (.seq (.region id ops false) y) z) E Q:=qs<|wg h hk
end
section
variable {id:Nat}
theorem qv {z:Code} (h:RW P N ops 0 E (FK (λE'=>Wp P N y E' (FK (λE'=>Wp P N z E' Q) Q)) (FK (λE'=>Wp P N z E' Q) Q))):Wp P N (.seq (.seq (.region id ops false) y) z) E Q:=qs<|ws h
end
theorem wq {id:Nat} (h:Q .ret (KZ P N ops (ops.size-0) 0 0 E)) (hk:(M3 P N ops (ops.size-0) 0 0 E).isSome=true:=by kernel_rfl):Wp P N (.seq (.region id ops false) .ret) E Q:=wg (qt h) hk
theorem aq (hp:AB P E (oA ops i)=some s) (h:RW P N ops (i+1) (E.put (oA ops i).dst s) Q) (hk:g7 P N ops i E=true:=by kernel_rfl):RW P N ops i E Q:=pH hp h hk
theorem Cb (k:Nat) (hp:AB P (KZ P N ops k 0 i E) (oA ops (i+k))=some s) (h:RW P N ops (i+k+1) ((KZ P N ops k 0 i E).put (oA ops (i+k)).dst s) Q) (hk:(M3 P N ops k 0 i E).isSome=true:=by kernel_rfl) (hq:g7 P N ops (i+k) (KZ P N ops k 0 i E)=true:=by kernel_rfl):RW P N ops i E Q:=jW k 0 (pH hp h hq) hk
theorem kq {ts:List Nat} (i:Nat) (hp:AB P E (oA ops i)=some s) (h:KW P N ops ts (i::dn) (E.put (oA ops i).dst s) Q) (hk:(g7 P N ops i E&&dX ops ts dn i)=true:=by kernel_rfl):KW P N ops ts dn E Q:=tA i hp h hk
theorem ac {l:List AV} {n:Nat} {x:Option α} (h:x.bind kk=some r) {enc:α->SV} (a:∀v,x=some v->An P (NS (oA ops i)) l (enc v) (List.replicate n .gone)) (hk:∀v,kk v=some r->RW P N ops (i+1) ((pA P E (oA ops i) 0).put (oA ops i).dst (enc v)) Q) (b:Z6 P E (oA ops i) 0=some l:=by kernel_rfl) (hc:oL P E (oA ops i) 0=true\/∀v,AL (enc v)=false:=by exact .inl<|by kernel_rfl) (ho:(NR P ops E i&&R6 P N (oA ops i))=true:=by kernel_rfl):RW P N ops i E Q:=RW.c 0 h a (λv _=>hk v) b hc ho
theorem Bx {l:List AV} {n:Nat} {x:Option α} (k:Nat) (h:x.bind kk=some r) {enc:α->SV} (a:∀v,x=some v->An P (NS (oA ops (i+k))) l (enc v) (List.replicate n .gone)) (hk:∀v,kk v=some r->RW P N ops (i+k+1) ((pA P (KZ P N ops k 0 i E) (oA ops (i+k)) 0).put (oA ops (i+k)).dst (enc v)) Q) (hr:(M3 P N ops k 0 i E).isSome=true:=by kernel_rfl) (b:Z6 P (KZ P N ops k 0 i E) (oA ops<|i+k) 0=some l:=by kernel_rfl) (hc:oL P (KZ P N ops k 0 i E) (oA ops<|i+k) 0=true\/∀v,AL (enc v)=false:=by exact .inl<|by kernel_rfl) (ho:(NR P ops (KZ P N ops k 0 i E) (i+k)&&R6 P N (oA ops<|i+k))=true:=by kernel_rfl):RW P N ops i E Q:=jW k 0 (RW.c 0 h a (λv _=>hk v) b hc ho) hr
section
variable {ts:List Nat}
theorem Iz {l:List AV} {n:Nat} {x:Option α} (m:Nat) (h:x.bind kk=some r) {enc:α->SV} (a:∀v,x=some v->An P (NS (oA ops i)) l (enc v) (List.replicate n .gone)) (hk:∀v,kk v=some r->KW P N ops ts (i::dn) ((pA P E (oA ops i) m).put (oA ops i).dst (enc v)) Q) (b:Z6 P E (oA ops i) m=some l:=by kernel_rfl) (hc:oL P E (oA ops i) m=true\/∀v,AL (enc v)=false:=by exact .inl<|by kernel_rfl) (ho:(NR P ops E i&&R6 P N (oA ops i)&&((bits m<|ED<|oA ops i).all (λx=>!x.1)||ts.contains i))=true:=by kernel_rfl):KB P N ops ts dn i E Q:=KB.c m h a (λv _=>hk v) b hc ho
end
theorem mY {l:List AV} {n:Nat} {x:Option α} (h:x.bind kk=some r) {enc:α->SV} {a:List TV} (c:∀v,x=some v->An P (NS (oA ops i)) (.ext a::l) (enc v) (.ext (fin v)::List.replicate n .gone)) (hk:∀v,kk v=some r->RW P N ops (i+1) (((E.setRoot (jE E (oA ops i)) (fin v)).bump (jE E (oA ops i))).put (oA ops i).dst (enc v)) Q) (b:∀v,(fin v).length=a.length:=by exact λ_=>rfl) (d:mM P E (oA ops i)=some l:=by kernel_rfl) (hb:E.boxes (jE E<|oA ops i)=some a:=by kernel_rfl) (hc:r6 P E (oA ops i)=true\/∀v,AL (enc v)=false/\Ak (fin v)=false:=by exact .inl<|by kernel_rfl) (ho:(NR P ops E i&&R6 P N (oA ops i)&&mL E (oA ops i))=true:=by kernel_rfl):RW P N ops i E Q:=rL h c b (λv _=>hk v) d hb hc ho
theorem Cl {b:Bool} (k t:Nat) (h:(bif b then tx else ty)=some r) (ht:tx=some r->RW P N ops (i+k) ((KZ P N ops k 0 i E).rs t true) Q) (hf:ty=some r->RW P N ops (i+k) ((KZ P N ops k 0 i E).rs t false) Q) (hr:(M3 P N ops k 0 i E).isSome=true:=by kernel_rfl) (hc:(KZ P N ops k 0 i E).slots t=B b:=by kernel_rfl):RW P N ops i E Q:=jW k 0 (rH t h ht hf hc) hr
def To (fn:Func):Code:=fn.body.getD .skip
theorem QH (h:fn.body.isSome=true):fn.body=some (To fn):=by
 unfold To
 cases e:fn.body with
 |none=>grind
 |some c=>rfl
theorem gf {f:FuncId} {a:SV} (hf:P.funcs[f]?=some fn) (hN:fn.ntmps=N) (h:Wp P N (To fn) (Ca as) λe E=>(e= .normal\/e= .ret)/\∃ss E',Cm P E fn.results.toList=some (ss,E')/\Ct ss=a) (hb:fn.body.isSome=true:=by kernel_rfl):An P f as a (List.replicate as.length .gone):=gk hf (QH hb) hN h
theorem pQ {f:FuncId} {A':KC} (hf:P.funcs[f]?=some fn) (hN:fn.ntmps=N) (hB:∀l l',(Am l).B=(Am l').B/\(Am l).pin=none) (h:Wp P N (To fn) (Ca as (Am xl)) λe E=>(e= .normal\/e= .ret)/\E.amb=A') (hb:fn.body.isSome=true:=by kernel_rfl) (hr:fn.results= #[]:=by rfl):I5 P f (Am xl) as A':=fE hf (QH hb) hr (hB xl xl).2 (by rw[hN];exact h)
theorem sS {f:FuncId} {a cells':List TV} {b:SV} (hf:P.funcs[f]?=some fn) (hN:fn.ntmps=N) (h:Wp P N (To fn) (Ca (.ext a::as)) λe E=>(e= .normal\/e= .ret)/\∃ss E',Cm P E fn.results.toList=some (ss,E')/\Ct ss=b/\E'.boxes (.ext 0)=some cells') (hb:fn.body.isSome=true:=by kernel_rfl) (c:cells'.isEmpty=false:=by rfl):An P f (.ext a::as) b (.ext cells'::List.replicate as.length .gone):=tZ hf (QH hb) hN h c
theorem sM (h:RF X E) {a:List TV} (hc:X.st.boxes (.ext 0)=some a:=by kernel_rfl):(Exit.normal= .normal\/Exit.normal= .ret)/\∃ss E1,Cm P E []=some (ss,E1)/\Ct ss= .tup []/\E1.boxes (.ext 0)=some a:=by
 refine⟨.inl rfl,[],E,rfl,rfl,?_⟩;obtain⟨h1,h2⟩:=h;rw[<-h2]at hc;unfold RS.nf at hc;by_cases hm:(X.b.map Prod.fst).contains (.ext 0)=true
 ·have e:(Ha E (X.s.map Prod.fst)<|X.b.map Prod.fst).boxes (.ext 0)=some ((E.boxes<|.ext 0).getD []):=by
   show((X.b.map Prod.fst).map λr=>(r,(E.boxes r).getD [])).lookup (.ext 0)=_;rw[IL (f:=λr=>(E.boxes r).getD []),Bw hm]
  rw[e]at hc;unfold RS.in at h1
  cases he:E.boxes (.ext 0)with
  |none=>grind
  |some v=>grind
 have e:(Ha E (X.s.map Prod.fst)<|X.b.map Prod.fst).boxes (.ext 0)=none:=by
  show((X.b.map Prod.fst).map λr=>(r,(E.boxes r).getD [])).lookup (.ext 0)=_
  grind
 grind
theorem lE {Am:α->KC} {v r:α} (h:some v=some r) (hE:RF X E) (hX:X.st.amb=Am v:=by kernel_rfl):(Exit.normal= .normal\/Exit.normal= .ret)/\E.amb=Am r:=by
 injection h with h
 rw[<-h,<-hX,<-hE.2];exact⟨.inl rfl,rfl⟩
theorem YP {md:Region.Mode} {Q:Exit->Act->World->Prop} {T:Nat->Bool} {oi:Oper} {v:Value} (hi:ops[i]?=some oi) (l:∀(j:Nat) (o:Oper) cs b,ops[j]?=some o->o.op≠ .select cs b) (hQ:∀c a w,Q (.panic c) (a.put oi.dst v) w->Q (.panic c) a w):
  ∀(d:Nat) (listed:Array Bool) (a:Act) (w:World),
   (∀j oj,ops[j]?=some oj->j≠i->listed.getD j true=false->(∀e∈oj.after,Region.binds md e=true->e.on≠i)->oi.apart ops oj=true)->
   i∈Region.ready md ops listed->YieldsIf P ops (λ_=>True) oi v a->
   Oy P md ops Q T d (listed.setIfInBounds i true) (a.put oi.dst v) w->Oy P md ops Q T (d+1) listed a w:=by
 intro d
 induction d with
 |zero=>
  intro listed a w _ hr hy H;refine⟨λh=>(by grind),λj hj=>?_⟩;by_cases f:j=i
  ·subst f;exact hy.wpOp hi trivial ⟨λ_=>Cv.refl,H⟩
  have:=ready_mono hj f;rw[H.1]at this;cases this
 |succ d ih=>
  intro listed a w g hr hy H;refine⟨λh=>(by grind),λj hj=>?_⟩;by_cases f:j=i
  ·subst f;exact hy.wpOp hi trivial ⟨λ_=>Cv.refl,H⟩
  have h1:=H.2 j<|ready_mono hj f;obtain⟨m,oj,n,p⟩:=mem_ready.1 hj;have q:listed.getD i false=false:=by
   have h0:=(mem_ready.1 hr).1
   rcases EE i listed.size with h'|h'
   ·simpa[h']using h0
   grind
  have r:∀e∈oj.after,Region.binds md e=true->e.on≠i:=λe he hb u=>by
   have h1:=p e he hb;rw[u,q]at h1;cases h1
  have h2:=wpOp_putIf n (g j oj n f m r) (λcs b=>l i oi cs b hi) (λcs b=>l j oj cs b n) hQ hy h1;have hfree':∀k ok,ops[k]?=some ok->k≠i->(listed.setIfInBounds j true).getD k true=false->
    (∀e∈ok.after,Region.binds md e=true->e.on≠i)->oi.apart ops ok=true:=λk ok hk x s y=>by
   refine g k ok hk x ?_ y;by_cases t:j=k
   ·subst t;exact m
   rw[getD_set_ne true t]at s;exact s
  refine wpOp_mono (λa' w' h3=>⟨h3.2.1,ih (listed.setIfInBounds j true) a' w' hfree' (ready_mono hr<|HJ f) ?_ ?_⟩) h2
  ·exact h3.1
  rw[Array.setIfInBounds_comm _ _ f];exact h3.2.2
def aU (o:Oper):Bool:=match o.op with
 | .move _| .assign _=>true
 |_=>false
theorem aT {w2:World} {o:Oper} (h:aU o=true) {a:Act} {v:Value} (hr:(execOp a.eval o).run P w= .ok (.value v) w):(execOp a.eval o).run P w2= .ok (.value v) w2:=by
 unfold aU at h;unfold execOp at hr⊢;split at h
 ·rename_i x hx;simp only[hx]at hr⊢
  injection hr with hr
  injection hr with hr
  rw[hr];rfl
 ·rename_i x hx;simp only[hx]at hr⊢
  injection hr with hr
  injection hr with hr
  rw[hr];rfl
 cases h
def tI (P:Program) (N:Nat) (ops:Array Oper) (dn:List Nat) (i:Nat) (E:St):Bool:=NR P ops E i&&FN N (oA ops i)&&Nat.blt dn.length ops.size&&Region.noSelect ops&&Region.free .any ops (iJ ops.size dn) i&&(Region.ready .any ops<|iJ ops.size dn).contains i&&aU (oA ops i)&&(DH P E<|oA ops i).isSome
theorem KW.a {ts:List Nat} (i:Nat) (h:KW P N ops ts (i::dn) (E.put (oA ops i).dst ((DH P E (oA ops i)).getD (.one .junk))) Q) (hk:tI P N ops dn i E=true:=by kernel_rfl):KW P N ops ts dn E Q:=by
 simp only[tI,Af]at hk;obtain⟨⟨⟨⟨⟨⟨⟨h1,h2⟩,h3⟩,e1⟩,e2⟩,e3⟩,e4⟩,e5⟩:=hk;obtain⟨h5,h6⟩:=EC h1;obtain⟨d,h7,h8,_⟩:=Dn h2;obtain⟨s,hs⟩:=I4.1 e5;rw[hs,HI,h7]at h;unfold KW at h⊢;rw[N7 (i:=i) h3];have ho:=FC h5;intro hQ hc w0 FA UA w a blk FS US k1 k2 k3;obtain⟨v,U,y1,y2,y3⟩:=O7 k1 hs;have e3':i∈Region.ready .any ops (iJ ops.size dn):=by simpa using e3
 refine YP (v:=v) ho (Region.noSelect_spec e1) (λc a w hx=>?_) _ (iJ ops.size dn) a w (Region.free_spec ho e2) e3' (.inl ⟨AS k1 h6,λw2 _=>?_⟩) ?_
 ·obtain⟨E',blk',FS',US',m1,_⟩:=hx
  grind
 ·exact aT e4<|y1 w λr _=>⟨λ_ _=>rfl,λ_ _=>rfl⟩
 rw[h7];refine h hQ (Gy hc e3') _ _ _ _ _ _ _ _ (k1.put (by simpa[Bz]using h8) y2<|FJ k1 y3 _) ?_ ?_
 ·rw[AF (by simp),k2]
 rw[AF (by simp),k3]
end Go.TI
