/- What walks of Go code need. No condition. -/
import Derived.Test.YtpnbblnolkhliaaGreatLFT2
import Derived.Laws.StructEq
import Derived.Laws.Strings
set_option linter.unusedSimpArgs false
set_option linter.unusedVariables false
namespace Go.TI
open Go Go.RowKit
variable {E E' E1:St} {P:Program} {N i sz n e j d by_ b t:Nat} {Q:Exit->St->Prop} {ops ops2:Array Oper} {α β V S γ W σ A:Type} {w w':World} {dn FA UA q:List Nat} {blk:Root->Nat} {y:Code} {f sf g:FuncId} {as:List AV} {FS US:Root->List Nat} {fn:Func} {s:SV} {T T':TypeId} {row row':List TV} {p:Prop} {t':TV} {K:St->Prop} {rest:List Oper} {r:β} {l:List α} {kk:α->Option β} {s0:S} {k:V->Option β} {u:List α} {fin:α->List TV} {Am:List γ->Si} {m:List α} {l':List γ} {tx:Option β} {ty:Option β} {xl:List γ}
section
variable {x:α}
def EP (o:Oper):TypeId×TypeId×Operand×Operand:=match o.op with
 | .call c=>match c.callee,c.args.toList,c.argTypes.toList with
  | .builtin .append,[s,x],[t,t']=>(t,t',s,x)
  |_,_,_=>(0,0,.tmp 0,.tmp 0)
 |_=>(0,0,.tmp 0,.tmp 0)
end
section
variable {x:α}
def AB2 (o:Oper):Bool:=match o.op with
 | .call c=>match c.callee,c.args.toList,c.argTypes.toList with
  | .builtin .append,[s,x],[t,t']=>true
  |_,_,_=>false
 |_=>false
end
theorem mI {o:Oper} (h:AB2 o=true):o.op= .call {callee:= .builtin .append,args:= #[(EP o).2.2.1,(EP o).2.2.2],argTypes:= #[(EP o).1,(EP o).2.1]}:=by
 unfold AB2 at h;unfold EP;split at h
 ·rename_i c hc;split at h
  ·rename_i s x t t' h1 h2 h3;obtain⟨callee,args,types⟩:=c;subst h1;obtain rfl:args= #[s,x]:=by grind
   obtain rfl:types= #[t,t']:=by grind
   rw[hc]
  cases h
 cases h
def ADW (P:Program) (N:Nat) (o:Oper) (sz by_:Nat):Bool:=AB2 o&&Nat.beq (EP o).1 (EP o).2.1&&Xl P (EP o).1 sz&&(Mp P<|YZ P (EP o).1).isSome&&Nat.beq (P.bytesOf<|YZ P (EP o).1) by_&&Nat.blt 0 by_&&G3 N o
def UL (P:Program) (E:St) (o:Oper) (sz:Nat):Option (List TV×St):=match E.cell1 P (EP o).1 (EP o).2.2.1 with
 |some sv=>match F8 E sv with
  |some (.sl true e s cells,E1)=>bif Nat.beq e (YZ P (EP o).1)&&Nat.beq s sz then some (cells,E1)else none
  |_=>none
 |none=>none
def apE (P:Program) (E:St) (o:Oper) (sz:Nat):St:=((UL P E o sz).map Prod.snd).getD E
def apV (P:Program) (o:Oper) (sz:Nat) (a:List TV):SV:= .one (.sl true (YZ P (EP o).1) sz a)
def ACy (P:Program) (E1:St) (o:Oper) (sz:Nat):Option (Nat×List TV×St):=match E1.ref (EP o).2.2.2 with
 |some (r,q,j)=>match E1.place r q j with
  |some (.sl _ _ s cells)=>bif Nat.beq s sz then(match FR E1 (Wa E1 r (q++ [j]) 0 cells)with
   |some (news,E2)=>some (cells.length,news,E2)
   |none=>none)else none
  |_=>none
 |none=>none
theorem Z0 {t e:TypeId} (h:P.underlying t=some (.slice e)):YZ P t=e:=by unfold YZ;rw[h]
section
variable {o:Oper} {f:α->List TV} {x:α}
theorem AFV {E2:St} {r:Root} {e2:Nat} {cells2:List TV} (hf:∀x,(f x).length=sz) (l m:List α) (h:ap by_ l m=some u) (hd:UL P E o sz=some (A9 f l,E1)) {b:Bool} (hr:E1.ref (EP o).2.2.2=some (r,q,j)) (hp:E1.place r q j=some (.sl b e2 sz cells2)) (hn:FR E1 (Wa E1 r (q++ [j]) 0 cells2)=some (A9 f m,E2)) (hl:cells2.length=m.length*sz) (ho:ADW P N o sz by_=true):Ct P N false E o=some (E2.put o.dst (apV P o sz (A9 f u))):=by
 obtain⟨rfl,i⟩:=ADV h;simp only[ADW,Ag]at ho;obtain⟨⟨⟨⟨⟨⟨a1,a2⟩,a3⟩,a4⟩,a5⟩,a6⟩,a7⟩:=ho;obtain⟨d,a8,_,a9⟩:=EO a7;obtain⟨e,b1,b2,b3⟩:=Mr a3;have a:=Z0 b1;rw[a]at a4 a5;have h0':0<sz:=by simp_all
 have hb0':0<by_:=by simp_all
 have hb:=AY a5;have c:=AY a2;unfold UL at hd;rw[a]at hd;split at hd
 ·rename_i sv hs;split at hd
  ·rename_i e1 s g E1' h1
   cases hc:(Nat.beq e1 e&&Nat.beq s sz)with
   |false=>grind
   |true=>
    rw[hc]at hd
    injection hd with hd
    injection hd with hd1 hd2
    rw[Ag]at hc;have c1:=AY hc.1;have c2:=AY hc.2;subst hd1 hd2 c1 c2;have k:(A9 f l).length/s=l.length:=by rw[EN hf];simp_all
    have n:cells2.length/s=m.length:=by simp_all
    have p:l.length+m.length<=(l.length+m.length)*by_:=Nat.le_mul_of_pos_right _ hb0';unfold Ct;rw[a8];simp only[AH a9,mI a1,AH c,NZ,b1,hs,h1,hr,hp,hn];rw[AH ⟨trivial,b2.symm,trivial,h0',a4,by omega,by grind⟩,Tm,apV,a]
  cases hd
 cases hd
end
theorem V0 {o:Oper} {a:List TV} (h:(UL P E o sz).map Prod.fst=some a):UL P E o sz=some (a,apE P E o sz):=by
 unfold apE
 cases hx:UL P E o sz with
 |none=>grind
 |some z=>grind
section
variable {o:Oper} {f:α->List TV} {x:α}
theorem Bw (hf:∀x,(f x).length=sz) (hg:∀x,J6 (f x)=true) (l:List α) (h:ap by_ l m=some u) (hd:(UL P E o sz).map Prod.fst=some (A9 f l):=by kernel_rfl) (hm:iA (apE P E o sz) (EP o).2.2.2 sz=some (A9 f m):=by kernel_rfl) (ho:ADW P N o sz by_=true:=by kernel_rfl):
  Ct P N false E o=some ((apE P E o sz).put o.dst<|apV P o sz<|A9 f u):=by
 obtain⟨r,q,j,a,e,h1,h2⟩:=QT hm;exact AFV hf l m h (V0 hd) h1 h2 (by rw[ZX _<|Vk hg m,RU<|Vk hg m]) (EN hf m) ho
end
section
variable {o:Oper} {f:α->List TV} {x:α}
theorem Sg (hf:∀x,(f x).length=sz) (l m:List α) (h:ap by_ l m=some u) (hd:(UL P E o sz).map Prod.fst=some (A9 f l):=by kernel_rfl) (hm:(ACy P (apE P E o sz) o sz).map (λz=>(z.1,z.2.1))=some (m.length*sz,A9 f m):=by kernel_rfl) (ho:ADW P N o sz by_=true:=by kernel_rfl):
  Ct P N false E o=some ((((ACy P (apE P E o sz) o sz).map λz=>z.2.2).getD E).put o.dst<|apV P o sz<|A9 f u):=by
 have hd':=V0 hd;generalize hE:apE P E o sz=E1 at hm hd'⊢;unfold ACy at hm⊢
 cases hr:E1.ref (EP o).2.2.2 with
 |none=>grind
 |some z=>
  obtain⟨r,q,j⟩:=z;simp only[hr]at hm⊢
  cases hp:E1.place r q j with
  |none=>grind
  |some t=>
   simp only[hp]at hm⊢
   cases t with
   |sl own e2 s cells=>
    simp only at hm⊢
    cases hb:Nat.beq s sz with
    |false=>grind
    |true=>
     rw[hb]at hm;have:=AY hb;subst this
     cases hn:FR E1 (Wa E1 r (q++ [j]) 0 cells)with
     |none=>grind
     |some y=>
      obtain⟨news,E2⟩:=y;simp only[hn,BD]at hm⊢
      injection hm with hm
      injection hm with hm1 hm2
      subst hm2;exact AFV hf l m h hd' hr hp hn hm1 ho
   |_=>grind
end
def AEz (P:Program) (N:Nat) (o:Oper):Bool:=AB2 o&&Xl P (EP o).1 1&&i8 P (EP o).2.1&&!Nat.beq (EP o).1 (EP o).2.1&&ADx P (YZ P (EP o).1)&&G3 N o
section
variable {o:Oper} {n:Int}
theorem uT {f:Int->List TV} {b:ByteArray} {u:List Int} (hf:∀n,f n=[.int .u8 n]) (l:List Int) (h:aps l b=some u) (hd:(UL P E o 1).map Prod.fst=some (A9 f l):=by kernel_rfl) (hx:Ya P E (EP o).2.1 (EP o).2.2.2=some b:=by kernel_rfl) (ho:AEz P N o=true:=by kernel_rfl):
  Ct P N false E o=some ((apE P E o 1).put o.dst<|apV P o 1<|A9 f u):=by
 have hd':=V0 hd;simp only[AEz,Ag,CI]at ho;obtain⟨⟨⟨⟨⟨a1,a2⟩,a3⟩,a4⟩,a5⟩,a6⟩:=ho;obtain⟨d,a8,_,a9⟩:=EO a6;obtain⟨e,b1,b2,b3⟩:=Mr a2;have a:=Z0 b1;have c:=W9 a3;have g:=L9 hx;have hne':(EP o).1≠(EP o).2.1:=by grind
 rw[a]at a5;unfold aps at h;split at h
 case isFalse=>cases h
 rename_i hb
 injection h with h
 subst h;have hl:(A9 f l).length=l.length:=by rw[EN (sz:=1) (λn=>by rw[hf];rfl),AAH]
 unfold UL at hd';rw[a]at hd';split at hd'
 ·rename_i sv hs;split at hd'
  ·rename_i e1 s i E1' h1
   cases hc:(Nat.beq e1 e&&Nat.beq s 1)with
   |false=>grind
   |true=>
    rw[hc]at hd'
    injection hd' with hd'
    injection hd' with hd1 hd2
    rw[Ag]at hc;have c1:=AY hc.1;have c2:=AY hc.2;subst hd1 hd2 c1 c2;unfold Ct;rw[a8];simp only[AH a9,mI a1,AO hne',RE,b1,c,hs,g,h1];rw[AH ⟨trivial,trivial,a5,by rw[hl];exact hb⟩,XZ hf,Tm,apV,a]
  cases hd'
 cases hd'
end
def UE (o:Oper):TypeId×Operand×Operand:=match o.op with
 | .makeSlice t l c=>(t,l,c)
 |_=>(0,.tmp 0,.tmp 0)
def AE0 (o:Oper):Bool:=match o.op with
 | .makeSlice .. =>true
 |_=>false
theorem ADz {o:Oper} (h:AE0 o=true):o.op= .makeSlice (UE o).1 (UE o).2.1 (UE o).2.2:=by
 unfold AE0 at h;unfold UE
 grind
def AFN (P:Program) (N:Nat) (o:Oper) (sz by_:Nat):Bool:=AE0 o&&Xl P (UE o).1 sz&&Nat.beq (P.bytesOf<|YZ P (UE o).1) by_&&G3 N o
section
variable {o:Oper} {f:α->List TV} {n:Int} {x:α}
theorem fmk (hf:∀x,(f x).length=sz) (z:α) (h:mk by_ z n=some u) (hl:UF P E (UE o).2.1=some n:=by kernel_rfl) (hc:UF P E (UE o).2.2=some n:=by kernel_rfl) (hz:Mp P (YZ P (UE o).1)=some (f z):=by kernel_rfl) (ho:AFN P N o sz by_=true:=by kernel_rfl):
  Ct P N false E o=some (E.put o.dst<|.one<|.sl true (YZ P (UE o).1) sz<|A9 f u):=by
 simp only[AFN,Ag]at ho;obtain⟨⟨⟨a1,a2⟩,a3⟩,a4⟩:=ho;obtain⟨d,a5,a6,_⟩:=EO a4;obtain⟨e,b1,b2,b3⟩:=Mr a2;have a:=Z0 b1;rw[a]at hz a3⊢;obtain⟨k1,hl⟩:=IB hl;obtain⟨k2,hc⟩:=IB hc;rw[a5];exact AGs z h (ADz a1) a5 a6 b1 hl hc hz rfl (AY a3) b2
end
def AEZ (o:Oper):Bool:=match o.op with
 | .convert .. =>true
 |_=>false
theorem ADy {o:Oper} (h:AEZ o=true):o.op= .convert (Sa o).1 (Sa o).2.1 (Sa o).2.2:=by
 unfold AEZ at h;unfold Sa
 grind
def AFB (P:Program) (N:Nat) (o:Oper):Bool:=AEZ o&&i8 P (Sa o).1&&Xl P (Sa o).2.1 1&&qI P (YZ P (Sa o).2.1)&&G3 N o
section
variable {o:Oper} {n:Int}
theorem fsb {f:Int->List TV} {b:ByteArray} (hf:∀n,f n=[.int .u8 n]) (hx:Ya P E (Sa o).1 (Sa o).2.2=some b) (ho:AFB P N o=true:=by kernel_rfl):Ct P N false E o=some (E.put o.dst<|.one<|.sl false (YZ P (Sa o).2.1) 1<|A9 f<|tF b):=by
 simp only[AFB,Ag]at ho;obtain⟨⟨⟨⟨a1,a2⟩,a3⟩,a4⟩,a5⟩:=ho;obtain⟨d,a6,a7,_⟩:=EO a5;obtain⟨e,b1,b2,b3⟩:=Mr a3;have a:=Z0 b1;rw[a]at a4⊢;rw[a6];exact AGr hf (ADy a1) a6 a7 (W9 a2) b1 (L9 hx) a4
end
section
variable {x:α}
def M8 (o:Oper):TypeId×Operand×Operand:=match o.op with
 | .store t a x=>(t,a,x)
 |_=>(0,.tmp 0,.tmp 0)
end
def AB0 (o:Oper):Bool:=match o.op with
 | .store .. =>o.dst.isNone
 |_=>false
theorem yC {o:Oper} (h:AB0 o=true):o.op= .store (M8 o).1 (M8 o).2.1 (M8 o).2.2/\o.dst=none:=by
 unfold AB0 at h;unfold M8;split at h
 ·simp_all
 cases h
def PB (P:Program) (E:St) (o:Oper):Option (List TV×St):=match E.val P (M8 o).1 (M8 o).2.2 with
 |some s=>No E s
 |none=>none
def tB (P:Program) (E:St) (o:Oper):List TV:=((PB P E o).map Prod.fst).getD []
def wJ (P:Program) (E:St) (o:Oper):St:=((PB P E o).map Prod.snd).getD E
def stP (P:Program) (E:St) (o:Oper):Root×List Nat×Nat:=HE (wJ P E o) (M8 o).2.1
def y9 (P:Program) (E:St) (o:Oper) (k sz:Nat):Bool:=AB0 o&&(PB P E o).isSome&&Nat.beq (tB P E o).length (P.cellsOf (M8 o).1)&&Nat.blt 0 (tB P E o).length&&Nat.ble (k+(tB P E o).length) sz
section
variable {o:Oper} {f:α->List TV} {n:Int} {x:α}
theorem AFQ {r:Root} (hf:∀x,(f x).length=sz) (hx:gi l n=some x) (k:Nat) {c:Nat} {cs cs':List TV} (ho:y9 P E o k sz=true) (hp:(wJ P E o).ptr? (M8 o).2.1=some (r,c::q,n.toNat*sz+k)) (hr:(wJ P E o).root r=some cs) (A:At cs (c::q) (A9 f l) (λa=>setRow a (n.toNat*sz+k) (tB P E o)) cs'):Ct P N false E o=some (((wJ P E o).setRoot r cs').bump r):=by
 simp only[y9,Ag]at ho;obtain⟨⟨⟨⟨a1,a2⟩,a3⟩,a4⟩,a5⟩:=ho;obtain⟨b1,b2⟩:=yC a1;have ht:PB P E o=some (tB P E o,wJ P E o):=by
  unfold tB wJ
  cases hh:PB P E o with
  |none=>grind
  |some z=>rfl
 generalize hX:tB P E o=xs at*;unfold PB at ht;split at ht
 ·rename_i s hs;have h0':0<xs.length:=by simp_all
  simp only[Ct,b2,b1,Qw,hs,ht,hp,hr,A.c];rw[AH ⟨A.o,AY a3,h0',AE4 hf hx a5⟩,AO (by simp),A.u]
 cases ht
end
section
variable {o:Oper}
def ADa (E:St) (r:Root) (c:Nat) (a:List TV):List TV:=match E.root r with
 |some cs=>match cs[c]? with
  |some (.sl o e s _)=>cs.set c<|.sl o e s a
  |_=>cs
 |none=>[]
end
def SI (E:St) (r:Root) (c:Nat):Option (List TV):=match E.root r with
 |some cs=>match cs[c]? with
  |some (.sl true e s row)=>some row
  |_=>none
 |none=>none
theorem SH {r:Root} {c:Nat} {a:List TV} (h:SI E r c=some a):∃cs e s,E.root r=some cs/\cs[c]?=some (.sl true e s a)/\∀row',ADa E r c row'=cs.set c (.sl true e s row'):=by
 unfold SI at h;unfold ADa
 grind
section
variable {o:Oper} {f:α->List TV} {n:Int} {x:α}
theorem K5 (hf:∀x,(f x).length=sz) (hx:gi l n=some x) (k c:Nat) (z:α) (ho:y9 P E o k sz=true:=by kernel_rfl) (hp:(wJ P E o).ptr? (M8 o).2.1=some ((stP P E o).1,[c],n.toNat*sz+k):=by kernel_rfl) (hr:SI (wJ P E o) (stP P E o).1 c=some (A9 f l):=by kernel_rfl) (hz:setRow (f x) k (tB P E o)=f z:=by kernel_rfl):Ct P N false E o=some (((wJ P E o).setRoot (stP P E o).1<|ADa (wJ P E o) (stP P E o).1 c<|A9 f<|si l n z).bump (stP P E o).1):=by
 obtain⟨cs,e,s,h1,h2,h3⟩:=SH hr;refine AFQ hf hx k ho hp h1 ?_;rw[h3];have hk:Nat.ble (k+(tB P E o).length) sz=true:=by
  simp only[y9,Ag]at ho;exact ho.2
 exact At.one (Xn hf hx hk hz) h2 rfl
end
section
variable {o:Oper} {f:α->List TV} {n:Int} {x:α}
theorem rB {α':Type} {f':α'->List TV} {sz':Nat} {l':List α'} {n':Int} {x':α'} {s:Nat} (hf:∀x,(f x).length=sz) (hx:gi l n=some x) (k c:Nat) (z:α) (hf':∀x,(f' x).length=sz') (hx':gi l' n'=some x') (k':Nat) (z':α') (ho:(y9 P E o k sz&&Nat.blt k' sz')=true:=by kernel_rfl) (hp:(wJ P E o).ptr? (M8 o).2.1=some ((stP P E o).1,[c,n'.toNat*sz'+k'],n.toNat*sz+k):=by kernel_rfl) (hr:SI (wJ P E o) (stP P E o).1 c=some (A9 f' l'):=by kernel_rfl) (hz:setRow (f x) k (tB P E o)=f z:=by kernel_rfl) (hc:(f' x')[k']?=some (.sl true e s<|A9 f l):=by rfl) (hc':(f' x').set k' (.sl true e s<|A9 f<|si l n z)=f' z':=by rfl):Ct P N false E o=some (((wJ P E o).setRoot (stP P E o).1<|ADa (wJ P E o) (stP P E o).1 c<|A9 f'<|si l' n' z').bump (stP P E o).1):=by
 obtain⟨cs,e1,s1,h1,h2,h3⟩:=SH hr;rw[Ag]at ho;refine AFQ hf hx k ho.1 hp h1 ?_;rw[h3];have hk:Nat.ble (k+(tB P E o).length) sz=true:=by
  have:=ho.1;simp only[y9,Ag]at this;exact this.2
 exact AGc hf' hx' (At.one (Xn hf hx hk hz) hc hc') ho.2 h2 rfl
end
theorem KB.o {ops:Array Oper} {ts dn:List Nat} (mv:Bool) (h:KW P N ops ts (i::dn) ((Ct P N mv E (oA ops i)).getD E) Q) (hs:(Ct P N mv E (oA ops i)).isSome=true:=by kernel_rfl) (hk:(Sf P ops E i&&(kp (oA ops i)||ts.contains i))=true:=by kernel_rfl):KB P N ops ts dn i E Q:=DL (getD_some hs) h hk
def bits:Nat->List (TypeId×Operand)->List (Bool×TypeId×Operand)
 |_,[]=>[]
 |m,(t,x)::l=>(Nat.beq (m %2) 1,t,x)::bits (m/2) l
def Qy (o:Oper):Nat:=match o.op with
 | .call c=>match c.callee with
  | .value (.func f)=>f
  |_=>0
 |_=>0
def GF (o:Oper):List (TypeId×Operand):=match o.op with
 | .call c=>c.argTypes.toList.zip c.args.toList
 |_=>[]
def Uv (P:Program) (N:Nat) (o:Oper):Bool:=(match o.op with
 | .call c=>match c.callee with
  | .value (.func f)=>Nat.beq c.argTypes.size c.args.size&&(match P.funcs[f]? with
   | some fn => !(fn.name == "runtime.NumGoroutine") && !fn.body.isNone
   |none=>false)
  |_=>false
 |_=>false)&&(match o.dst with
 |some d=>Nat.blt d N
 |none=>true)
theorem Q3:∀{l:List (TypeId×Operand)} {m:Nat},(bits m l).map (λx=>x.2.2)=l.map Prod.snd
 |[],m=>rfl
 |(t,x)::l,m=>by simp only[bits,CL,Q3]
theorem P7 {o:Oper} (h:Uv P N o=true):∃args tys,o.op= .call {callee:= .value (.func<|Qy o),args:=args,argTypes:=tys}/\fT P (Qy o)/\(∀d,o.dst=some d->d<N)/\(GF o).map Prod.snd=args.toList:=by
 simp only[Uv,Ag]at h;obtain⟨h1,h2⟩:=h;have hN:∀d,o.dst=some d->d<N:=by
  intro d hd;simp_all
 unfold Qy GF;split at h1
 ·rename_i c hc;split at h1
  ·rename_i f a;rw[Ag]at h1;obtain⟨h3,h4⟩:=h1;split at h4
   ·rename_i fn b;simp only[Ag,CI]at h4;obtain⟨callee,args,types⟩:=c;subst a;have hz:=AY h3;refine⟨args,types,by simp only[hc],?_,hN,?_⟩
    ·exact⟨fn,b,by grind,h4.2⟩
    exact List.map_snd_zip<|by simp[hz]
   cases h4
  cases h1
 cases h1
def mvA (P:Program) (E:St) (o:Oper) (m:Nat):Option (List (Option SV)×St):=PE P E<|bits m<|GF o
def clE (P:Program) (E:St) (o:Oper) (m:Nat):St:=((mvA P E o m).map Prod.snd).getD E
def shA (P:Program) (E:St) (o:Oper) (m:Nat):Option (List AV×Bool):=match mvA P E o m with
 |some (ss,E1)=>JY P E1 (bits m<|GF o) ss
 |none=>none
def eD (P:Program) (E:St) (o:Oper) (m:Nat):Option (List AV):=(shA P E o m).map Prod.fst
def shB (P:Program) (E:St) (o:Oper) (m:Nat):Bool:=match shA P E o m with
 |some (_,b)=>b
 |none=>false
theorem ACh {m:Nat} {o:Oper} {a:SV} (h:eD P E o m=some as) (hc:shB P E o m=true\/AI a=false):Z4 P E o.dst (bits m (GF o)) as a ((clE P E o m).put o.dst a):=by
 unfold eD shB shA at*;unfold clE
 cases hm:mvA P E o m with
 |none=>grind
 |some z=>
  obtain⟨ss,E1⟩:=z;rw[hm]at h hc;simp only at h hc
  cases hs:JY P E1 (bits m<|GF o) ss with
  |none=>grind
  |some y=>
   obtain⟨as',c⟩:=y;rw[hs]at h hc
   injection h with h
   subst h;exact⟨ss,E1,c,hm,hs,hc,rfl⟩
theorem ca {γ:Type _} {l l':List γ} {a b:γ} (h:a=b) (k:l=l'):a::l=b::l':=by rw[h,k]
theorem cs {a b:List TV} (h:Bz a=b):TV.sl false e sz (Bz a)= .sl false e sz b:=by rw[h]
theorem co {a b:TV} (h:a=b):AV.sv (.one a)= .sv (.one b):=by rw[h]
theorem OH {a b:List TV} (h:a=b):AV.sv (.agg a)= .sv (.agg b):=by rw[h]
theorem RW.c {l:List AV} {x:Option α} (m:Nat) (h:x.bind kk=some r) {enc:α->SV} (a:∀v,x=some v->A0 P (Qy (oA ops i)) l (enc v) (List.replicate n .gone)) (hk:∀v,x=some v->kk v=some r->RW P N ops (i+1) ((clE P E (oA ops i) m).put (oA ops i).dst (enc v)) Q) (b:eD P E (oA ops i) m=some l:=by kernel_rfl) (hc:shB P E (oA ops i) m=true\/∀v,AI (enc v)=false:=by exact .inl<|by kernel_rfl) (ho:(Sf P ops E i&&Uv P N (oA ops i))=true:=by kernel_rfl):RW P N ops i E Q:=by
 obtain⟨v,hv,h⟩:=Ah.1 h;rw[Ag]at ho;obtain⟨h1,h2⟩:=H1 ho.1;obtain⟨args,tys,h3,h4,h5,h6⟩:=P7 ho.2;unfold RW;rw[G4 h1];exact GL.call h3 h4 h2 h5 (bits m<|GF<|oA ops i) (by rw[Q3,h6]) (a v hv) (ACh b<|hc.imp id λh=>h v)<|hk v hv h
section
variable {ts:List Nat}
theorem KB.c {l:List AV} {x:Option α} (m:Nat) (h:x.bind kk=some r) {enc:α->SV} (a:∀v,x=some v->A0 P (Qy (oA ops i)) l (enc v) (List.replicate n .gone)) (hk:∀v,x=some v->kk v=some r->KW P N ops ts (i::dn) ((clE P E (oA ops i) m).put (oA ops i).dst (enc v)) Q) (b:eD P E (oA ops i) m=some l:=by kernel_rfl) (hc:shB P E (oA ops i) m=true\/∀v,AI (enc v)=false:=by exact .inl<|by kernel_rfl) (ho:(Sf P ops E i&&Uv P N (oA ops i)&&((bits m<|GF<|oA ops i).all (λx=>!x.1)||ts.contains i))=true:=by kernel_rfl):KB P N ops ts dn i E Q:=by
 obtain⟨v,hv,h⟩:=Ah.1 h;simp only[Ag]at ho;obtain⟨h1,h2⟩:=H1 ho.1.1;obtain⟨args,tys,h3,h4,h5,h6⟩:=P7 ho.1.2;exact j8.call i (Jd h1) h3 h4 h2 h5 (bits m<|GF<|oA ops i) (by rw[Q3,h6]) ho.2 (a v hv) (ACh b<|hc.imp id λh=>h v)<|hk v hv h
end
theorem gs {l l':List AV} {x:Option α} {enc:α->SV} (e:l=l') (h:∀v,x=some v->A0 P f l' (enc v) (List.replicate n .gone)):∀v,x=some v->A0 P f l (enc v) (List.replicate n .gone):=e▸h
def rH (E:St) (o:Oper):Root:=match GF o with
 |(_,x)::_=>(HE E x).1
 |[]=> .hand
def AAj (E:St) (o:Oper):Bool:=match GF o with
 |(_,x)::_=>(match E.ptr? x with
  |some (r,[],0)=>r.mem
  |_=>false)
 |[]=>false
def cxA (P:Program) (E:St) (o:Oper):Option (List AV×Bool):=JY P (E.without<|rH E o) (bits 0 (GF o).tail)<|List.replicate (bits 0 (GF o).tail).length none
def AAk (P:Program) (E:St) (o:Oper):Option (List AV):=(cxA P E o).map Prod.fst
def cxB (P:Program) (E:St) (o:Oper):Bool:=match cxA P E o with
 |some (_,b)=>b
 |none=>false
theorem AEu {o:Oper} (h:AAj E o=true):∃t x l,GF o=(t,x)::l/\E.ptr? x=some (rH E o,[],0)/\(rH E o).mem=true:=by
 unfold AAj at h;unfold rH;split at h
 ·rename_i t x l hl;split at h
  ·rename_i r hp;refine⟨t,x,l,hl,?_,?_⟩
   ·simp only[HE,hp,Bc]
   simpa only[HE,hp,Bc]using h
  cases h
 cases h
theorem ACk {o:Oper} (h:AAk P E o=some as) (hc:cxB P E o=true\/p):∃c,JY P (E.without (rH E o)) (bits 0 (GF o).tail) (List.replicate (bits 0 (GF o).tail).length none)=some (as,c)/\(c=true\/p):=by
 unfold AAk cxB at*
 cases hs:cxA P E o with
 |none=>grind
 |some y=>
  obtain⟨as',c⟩:=y;rw[hs]at h hc
  injection h with h
  subst h;exact⟨c,hs,hc⟩
theorem AF6 {l:List AV} {x:Option α} (h:x.bind kk=some r) {enc:α->SV} {b:List TV} (e:∀v,x=some v->A0 P (Qy (oA ops i)) (.ext b::l) (enc v) (.ext (fin v)::List.replicate n .gone)) (d:∀v,(fin v).length=b.length) (hk:∀v,x=some v->kk v=some r->RW P N ops (i+1) (((E.setRoot (rH E (oA ops i)) (fin v)).bump (rH E (oA ops i))).put (oA ops i).dst (enc v)) Q) (f:AAk P E (oA ops i)=some l:=by kernel_rfl) (hb:E.boxes (rH E<|oA ops i)=some b:=by kernel_rfl) (hc:cxB P E (oA ops i)=true\/∀v,AI (enc v)=false/\Aw (fin v)=false:=by exact .inl<|by kernel_rfl) (ho:(Sf P ops E i&&Uv P N (oA ops i)&&AAj E (oA ops i))=true:=by kernel_rfl):RW P N ops i E Q:=by
 obtain⟨v,hv,h⟩:=Ah.1 h;simp only[Ag]at ho;obtain⟨h1,h2⟩:=H1 ho.1.1;obtain⟨args,tys,h3,h4,h5,h6⟩:=P7 ho.1.2;obtain⟨t,x0,l0,h7,h8,h9⟩:=AEu ho.2;obtain⟨c,h10,h11⟩:=ACk f hc;unfold RW;rw[G4 h1];intro w0 FA UA w a blk FS US hr hF hU;simp only[wpList,Ce hr h2,Ch];refine .inl<|rP hr hF hU h3 h4 h5 (x:=x0) (l:=bits 0 (GF<|oA ops i).tail) ?_ h9 h8 hb (d v) h10 (h11.imp id λh=>h v) (e v hv) λw' v' blk' FS' US' k1 k2 k3=>hk v hv h _ _ _ _ _ _ _ _ k1 k2 k3;rw[Q3,<-h6,h7];rfl
theorem AGa {ts:List Nat} {l:List AV} {x:Option α} (h:x.bind kk=some r) {enc:α->SV} {b:List TV} (e:∀v,x=some v->A0 P (Qy (oA ops i)) (.ext b::l) (enc v) (.ext (fin v)::List.replicate n .gone)) (d:∀v,(fin v).length=b.length) (hk:∀v,x=some v->kk v=some r->KW P N ops ts (i::dn) (((E.setRoot (rH E (oA ops i)) (fin v)).bump (rH E (oA ops i))).put (oA ops i).dst (enc v)) Q) (f:AAk P E (oA ops i)=some l:=by kernel_rfl) (hb:E.boxes (rH E<|oA ops i)=some b:=by kernel_rfl) (hc:cxB P E (oA ops i)=true\/∀v,AI (enc v)=false/\Aw (fin v)=false:=by exact .inl<|by kernel_rfl) (ho:(Sf P ops E i&&Uv P N (oA ops i)&&AAj E (oA ops i)&&ts.contains i)=true:=by kernel_rfl):KB P N ops ts dn i E Q:=by
 obtain⟨v,hv,h⟩:=Ah.1 h;simp only[Ag]at ho;obtain⟨h1,h2⟩:=H1 ho.1.1.1;obtain⟨args,tys,h3,h4,h5,h6⟩:=P7 ho.1.1.2;obtain⟨t,x0,l0,h7,h8,h9⟩:=AEu ho.1.2;obtain⟨c,h10,h11⟩:=ACk f hc;intro w0 FA UA w a blk FS US hr hF hU;unfold wpOp;simp only[Jd h1,Ce hr h2,Ch];refine .inl (rP hr hF hU h3 h4 h5 (x:=x0) (l:=bits 0 (GF<|oA ops i).tail) ?_ h9 h8 hb (d v) h10 (h11.imp id λh=>h v) (e v hv) λw' v' blk' FS' US' k1 k2 k3=>⟨λht=>(by grind),_,_,_,_,hk v hv h,k1,k2,k3⟩);rw[Q3,<-h6,h7];rfl
theorem wc {b:Bool} {c:Operand} {x y:Code} (h:(bif b then tx else ty)=some r) (ht:tx=some r->Wp P N x E Q) (hf:ty=some r->Wp P N y E Q) (hc:E.cell1 P 0 c=some (.bool b):=by kernel_rfl):Wp P N (.cond c x y) E Q:=Wp.c h ht hf hc
theorem wt {c:Operand} {x y:Code} (ht:Wp P N x E Q) (hc:E.cell1 P 0 c=some (.bool true):=by kernel_rfl):Wp P N (.cond c x y) E Q:=AF1 ht hc
theorem wf {c:Operand} {x y:Code} (hf:Wp P N y E Q) (hc:E.cell1 P 0 c=some (.bool false):=by kernel_rfl):Wp P N (.cond c x y) E Q:=AF2 hf hc
theorem rsz {rs:List ResultVar} {a:SV} (h:(Eb P E rs).map (λz=>EG z.1)=some a):∃ss E',Eb P E rs=some (ss,E')/\EG ss=a:=by simp_all
theorem rsx {rt:Root} {rs:List ResultVar} {b:SV} {a:List TV} (h:(Eb P E rs).map (λz=>(EG z.1,z.2.boxes rt))=some (b,some a)):∃ss E',Eb P E rs=some (ss,E')/\EG ss=b/\E'.boxes rt=some a:=by simp_all
theorem gkx {c:Code} {a cells':List TV} {b:SV} (hf:P.funcs[f]?=some fn) (hb:fn.body=some c) (hN:fn.ntmps=N) (h:Wp P N c (D3 (.ext a::as)) λe E=>(e= .normal\/e= .ret)/\∃ss E',Eb P E fn.results.toList=some (ss,E')/\EG ss=b/\E'.boxes (.ext 0)=some cells') (d:cells'.isEmpty=false:=by rfl):A0 P f (.ext a::as) b (.ext cells'::List.replicate as.length .gone):=AAd hf hb (by rw[hN];exact h) d
theorem gk {c:Code} {a:SV} (hf:P.funcs[f]?=some fn) (hb:fn.body=some c) (hN:fn.ntmps=N) (h:Wp P N c (D3 as) λe E=>(e= .normal\/e= .ret)/\∃ss E',Eb P E fn.results.toList=some (ss,E')/\EG ss=a):A0 P f as a (List.replicate as.length .gone):=AB8 hf hb (by rw[hN];exact h)
theorem tD:∀t:TV,(Nw t).isSl=t.isSl:=by intro t;cases t<;>rfl
theorem KD:∀(cs:List TV) (j:Nat),(Bz cs)[j]?=cs[j]?.map Nw
 |[],j=>by simp[Bz]
 |t::ts,0=>by simp[Bz]
 |t::ts,j+1=>by simpa[Bz]using KD ts j
theorem YA:∀(q:List Nat) (cs:List TV),BB (Bz cs) q=(BB cs q).map Bz
 |[],cs=>rfl
 |c::q,cs=>by
  simp only[BB,KD]
  cases cs[c]? with
  |none=>rfl
  |some t=>
   cases t with
   |sl o e sz cells=>exact YA q cells
   |_=>rfl
def uQ:TV->List TV->TV
 | .sl _ e s _,row=> .sl false e s row
 |t,_=>t
def cK (cs:List TV) (j:Nat) (a:List TV):List TV:=match cs[j]? with
 |some t=>cs.set j<|uQ t a
 |none=>cs
theorem nE {s:Nat} {cs:List TV} {a:List TV} (h:cs[j]?=some (.sl true e s a)) (c:Nat):(cK cs j (Bz a))[c]?=if c=j then some (.sl false e s (Bz a))else cs[c]? :=by
 simp only[cK,h,uQ]
 grind
theorem ACc {s:Nat} {r1:List TV} {cs:List TV} {a:List TV} (h:cs[j]?=some (.sl true e s a)) (hq:BB cs q=some r1) (i:Nat):
  ∃r2,BB (cK cs j (Bz a)) q=some r2/\(r1[i]?.isSome=true->r2[i]?.isSome=true)/\(L5 r1[i]?=true->L5 r2[i]?=true):=by
 cases q with
 |nil=>
  injection hq with hq
  subst hq;refine⟨_,rfl,?_,?_⟩
  ·rw[nE h]
   grind
  rw[nE h];split
  ·intro _;rfl
  exact id
 |cons c q=>
  simp only[BB,nE h];simp only[BB]at hq;by_cases hc:c=j
  ·subst hc;rw[h]at hq;rw[AH rfl];simp only[YA,hq,BD];refine⟨_,rfl,?_,?_⟩
   ·rw[KD];simp
   rw[KD]
   cases r1[i]? with
   |none=>exact id
   |some t=>simp only[L5,BD,tD];exact id
  grind
theorem aR:∀{ts:List TV} {vs:List Value} {F U:List Nat} {j:Nat} {t:TV},BJ w ts vs F U->ts[j]?=some t->F.Nodup->(∀v F1 U1,D4 w t v F1 U1->∃F2 U2,D4 w t' v F2 U2/\Js F1 U1 F2 U2)->
  ∃F' U',BJ w (ts.set j t') vs F' U'/\Js F U F' U'
 |[],vs,F,U,j,t,h,hj,_,_=>by simp at hj
 |x::ts,vs,F,U,0,t,h,hj,hn,hk=>by
  simp at hj;subst hj;obtain⟨v,a,F1,F2,U1,U2,rfl,rfl,rfl,h1,h2⟩:=h;obtain⟨F1',U1',a1,a2⟩:=hk v F1 U1 h1;exact⟨F1'++F2,U1'++U2,by simp only[Uy,BJ];grind,TK hn a2 Js.refl⟩
 |x::ts,vs,F,U,j+1,t,h,hj,hn,hk=>by
  obtain⟨v,a,F1,F2,U1,U2,rfl,rfl,rfl,h1,h2⟩:=h;obtain⟨F2',U2',a1,a2⟩:=aR h2 (by simpa using hj) (CH.1 hn).2.1 hk;exact⟨F1++F2',U1++U2',by simp only[List.set_cons_succ,BJ];grind,TK hn Js.refl a2⟩
theorem dB {a:Act} {blk:Root->Nat}:∀{ts:List TV} {vs:List Value} {F U:List Nat} {j:Nat} {t:TV},CE w a E blk ts vs F U->ts[j]?=some t->F.Nodup->(∀v F1 U1,DH w a E blk t v F1 U1->∃F2 U2,DH w a E blk t' v F2 U2/\Js F1 U1 F2 U2)->
  ∃F' U',CE w a E blk (ts.set j t') vs F' U'/\Js F U F' U'
 |[],vs,F,U,j,t,h,hj,_,_=>by simp at hj
 |x::ts,vs,F,U,0,t,h,hj,hn,hk=>by
  simp at hj;subst hj;obtain⟨v,b,F1,F2,U1,U2,rfl,rfl,rfl,h1,h2⟩:=h;obtain⟨F1',U1',a1,a2⟩:=hk v F1 U1 h1;exact⟨F1'++F2,U1'++U2,by exact⟨v,b,F1',F2,U1',U2,rfl,rfl,rfl,a1,h2⟩,TK hn a2 Js.refl⟩
 |x::ts,vs,F,U,j+1,t,h,hj,hn,hk=>by
  obtain⟨v,b,F1,F2,U1,U2,rfl,rfl,rfl,h1,h2⟩:=h;obtain⟨F2',U2',a1,a2⟩:=dB h2 (by simpa using hj) (CH.1 hn).2.1 hk;exact⟨F1++F2',U1++U2',by exact⟨v,b,F1,F2',U1,U2',rfl,rfl,rfl,h1,a1⟩,TK hn Js.refl a2⟩
def frE (E:St) (r:Root) (j:Nat) (a:List TV):St:=match E.root r with
 |some cs=>E.setRoot r<|cK cs j a
 |none=>E
theorem uP {a:Act} {r:Root} {s:Nat} {cs:List TV} {b:List TV} (hr:E.root r=some cs) (hj:cs[j]?=some (.sl true e s b)) (hh:r≠ .hand) (R:Root):Cs w w a a E (E.setRoot r (cK cs j (Bz b))) blk blk R:=by
 have d:(E.setRoot r<|cK cs j<|Bz b).ver=E.ver:=by cases r<;>rfl
 have f:(E.setRoot r<|cK cs j<|Bz b).gen=E.gen:=by cases r<;>rfl
 have g:(cK cs j<|Bz b).length=cs.length:=by simp[cK,hj]
 have c:∀cs0,E.root R=some cs0->∃cs1,(E.setRoot r<|cK cs j<|Bz b).root R=some cs1/\∀q r1,BB cs0 q=some r1->∀i:Nat,∃r2,BB cs1 q=some r2/\(r1[i]?.isSome=true->r2[i]?.isSome=true)/\(L5 r1[i]?=true->L5 r2[i]?=true):=by
  intro cs0 h0;by_cases hR:R=r
  ·subst hR;rw[hr]at h0
   injection h0 with h0
   subst h0;refine⟨cK cs j<|Bz b,?_,λq r1 hq i=>ACc hj hq i⟩
   cases R with
   |slot n=>
    simp only[St.root,St.setRoot,Ci,Ch]at hr⊢
    injection hr with hr
    congr 1
    cases hs:E.slots n with
    |one t=>
     rw[hs]at hr;subst hr;have:(cK [t] j<|Bz b).length=1:=g
     match hf:cK [t] j (Bz b),this with
     |[x],_=>rfl
    |agg ts=>rfl
    |tup ss=>
     simp only[SV.cells]at hr
     grind
   |box n=>simp[St.root,St.setRoot,Ci]
   |ext n=>simp[St.root,St.setRoot,Ci]
   |hand=>exact absurd rfl hh
  refine⟨cs0,?_,λq r1 hq i=>⟨r1,hq,id,id⟩⟩;rw[<-h0];cases r<;>cases R<;>simp only[St.root,St.setRoot,Ci]<;>first
   |exact absurd rfl hh
   |rfl
   |grind
   |(rw[AO];intro e;injection e with e;exact hR<|by rw[e])
   |(rw[AO];intro e;cases e)
 constructor
 ·refine .inr ⟨by rw[d],λq i v h1 h2=>⟨h1,?_⟩,λq i ad hq h1 h2=>⟨h1,?_⟩⟩
  ·unfold St.place at h2⊢
   cases h0:E.root R with
   |none=>rw[h0]at h2;cases h2
   |some cs0=>
    rw[h0]at h2;obtain⟨cs1,k1,k2⟩:=c cs0 h0;simp only[Aa]at h2
    cases hc:BB cs0 q with
    |none=>rw[hc]at h2;cases h2
    |some r1=>
     obtain⟨r2,k3,_,k4⟩:=k2 q r1 hc i
     grind
  unfold St.place at h2⊢
  cases h0:E.root R with
  |none=>grind
  |some cs0=>
   rw[h0]at h2;obtain⟨cs1,k1,k2⟩:=c cs0 h0;simp only[Aa]at h2
   cases hc:BB cs0 q with
   |none=>grind
   |some r1=>
    obtain⟨r2,k3,k4,_⟩:=k2 q r1 hc i
    grind
 refine .inr ⟨by rw[f],λi ad h1 h2=>⟨h1,?_⟩⟩;unfold St.place at h2⊢
 cases h0:E.root R with
 |none=>grind
 |some cs0=>
  rw[h0]at h2;obtain⟨cs1,k1,k2⟩:=c cs0 h0;obtain⟨r2,k3,k4,_⟩:=k2 [] cs0 rfl i;rw[k1];simp only[Aa,k3];exact k4 h2
section
variable {w0:Base} {a:Act}
theorem CD.freeze {r:Root} {s:Nat} (h:CD w0 FA UA N w a E blk FS US) {cs:List TV} {c:List TV} (hr:E.root r=some cs) (hj:cs[j]?=some (.sl true e s c)) (hh:r≠ .hand):
  ∃FS' US',CD w0 FA UA N w a (E.setRoot r (cK cs j (Bz c))) blk FS' US'/\FS' .hand=FS .hand/\US' .hand=US .hand:=by
 have u:=uP (w:=w) (a:=a) (blk:=blk) hr hj hh;have g:cK cs j (Bz c)=cs.set j (.sl false e s<|Bz c):=by simp only[cK,hj,uQ]
 have i:∀v F1 U1,D4 w (.sl true e s c) v F1 U1->∃F2 U2,D4 w (.sl false e s<|Bz c) v F2 U2/\Js F1 U1 F2 U2:=λv F1 U1 h1=>AEN h1<|le1.s rfl
 have x:∃F' U',Js (FS r) (US r) F' U'/\(∀n,r= .slot n->Ik w a (E.setRoot r<|cK cs j<|Bz c) blk ((E.slots n).withCells<|cK cs j<|Bz c) (a.eval<|.tmp n) F' U')/\
   (r.mem=true->∃d T F,w.heap[blk r]?=some (.cells d T (0,0))/\BJ w (cK cs j<|Bz c) d.toList F U'/\F'=blk r::F):=by
  cases r with
  |slot n=>
   injection hr with hr
   have hs:=Ij u (h.slot n) (λ_ _=>rfl) λ_ _=>rfl
   cases l:E.slots n with
   |one t=>
    rw[l]at hr hs;simp only[SV.cells]at hr;subst hr;have y:j=0:=by grind
    subst y;simp at hj;subst hj;obtain⟨F2,U2,k1,k2⟩:=i _ _ _ hs.1;refine⟨F2,U2,k2,λm hm=>?_,λhm=>by cases hm⟩
    injection hm with hm
    subst hm;rw[l,g];exact⟨k1,λ_=>hs.2 rfl⟩
   |agg ts=>
    rw[l]at hr hs;simp only[SV.cells]at hr;subst hr;obtain⟨vs,k0,k1⟩:=hs;obtain⟨F2,U2,k2,k3⟩:=dB (t':= .sl false e s (Bz c)) k1 hj (h.nodup _) i;refine⟨F2,U2,k3,λm hm=>?_,λhm=>by cases hm⟩
    injection hm with hm
    subst hm;rw[l,g];simp only[SV.withCells,Ik]
    grind
   |tup ss=>
    simp only[SV.cells]at hr
    grind
  |hand=>exact absurd rfl hh
  |box n=>
   rcases h.box (.box n) rfl with⟨k,_⟩|⟨cs0,d,T,F,k1,k2,k3,k4⟩
   ·simp only[St.root]at hr;grind
   simp only[St.root]at hr;rw[k1]at hr
   injection hr with hr
   subst hr;have f:=h.nodup<|.box n;rw[k4]at f;obtain⟨z,o⟩:=CT.1 f;obtain⟨F2,U2,k5,k6⟩:=aR (t':= .sl false e s (Bz c)) k3 hj o i;refine⟨blk (.box n)::F2,U2,?_,λm hm=>(by cases hm),λ_=>⟨d,T,F2,k2,by rw[g];exact k5,rfl⟩⟩;rw[k4];refine⟨k6.1.cons_cons _,λb hb=>?_⟩
   rcases k6.2 b hb with q|⟨q1,q2⟩
   ·exact .inl q
   grind
  |ext n=>
   rcases h.box (.ext n) rfl with⟨k,_⟩|⟨cs0,d,T,F,k1,k2,k3,k4⟩
   ·simp only[St.root]at hr;grind
   simp only[St.root]at hr;rw[k1]at hr
   injection hr with hr
   subst hr;have f:=h.nodup<|.ext n;rw[k4]at f;obtain⟨z,o⟩:=CT.1 f;obtain⟨F2,U2,k5,k6⟩:=aR (t':= .sl false e s (Bz c)) k3 hj o i;refine⟨blk (.ext n)::F2,U2,?_,λm hm=>(by cases hm),λ_=>⟨d,T,F2,k2,by rw[g];exact k5,rfl⟩⟩;rw[k4];refine⟨k6.1.cons_cons _,λb hb=>?_⟩
   rcases k6.2 b hb with q|⟨q1,q2⟩
   ·exact .inl q
   grind
 obtain⟨F',U',hl,h0,h2⟩:=x
 have p:∀b∈F',b∈FS r:=λb hb=>hl.1.subset hb
 refine⟨Ci FS r F',Ci US r U',?_,by rw[Bj λe=>hh e.symm],by rw[Bj λe=>hh e.symm]⟩;have hF:∀R b,b∈Ci FS r F' R->b∈FS R:=by
  intro R b hb;by_cases hR:R=r
  ·subst hR;rw[BZ]at hb;exact p b hb
  rw[Bj hR]at hb;exact hb
 have hU:∀R b,b∈Ci US r U' R->b∈US R\/(R=r/\b∈FS r/\b∉F'):=by
  intro R b hb;by_cases hR:R=r
  ·subst hR;rw[BZ]at hb
   rcases hl.2 b hb with q|⟨q1,q2⟩
   ·exact .inl q
   grind
  rw[Bj hR]at hb;exact .inl hb
 constructor
 ·intro n;by_cases hn:r= .slot n
  ·subst hn;have:=h0 n rfl;simpa only[St.setRoot,Ci,Ch]using this
  rw[Bj λe=>hn e.symm,Bj λe=>hn e.symm];have h1:(E.setRoot r<|cK cs j<|Bz c).slots n=E.slots n:=by
   cases r with
   |slot m=>
    simp only[St.setRoot,Ci]
    grind
   |_=>rfl
  rw[h1];exact Ij u (h.slot n) (λ_ _=>rfl) λ_ _=>rfl
 ·intro R hm;by_cases hR:R=r
  ·subst hR;right;obtain⟨d,T,F,k1,k2,k3⟩:=h2 hm;refine⟨_,d,T,F,?_,k1,by rw[BZ];exact k2,by rw[BZ,k3]⟩
   cases R with
   |slot n=>cases hm
   |hand=>cases hm
   |box n=>simp[St.setRoot,Ci]
   |ext n=>simp[St.setRoot,Ci]
  rw[Bj hR,Bj hR];have h1:(E.setRoot r<|cK cs j<|Bz c).boxes R=E.boxes R:=by
   cases r<;>simp only[St.setRoot,Ci]<;>first
    |rfl
    |(rw[AO hR])
  rw[h1];exact h.box R hm
 ·have:(E.setRoot r<|cK cs j<|Bz c).boxes .hand=E.boxes .hand:=by
   cases r<;>simp only[St.setRoot,Ci]<;>first
    |exact absurd rfl hh
    |rfl
    |(rw[AO<|by simp])
  rw[this];exact h.nohand
 ·intro R;by_cases hR:R=r
  ·subst hR;rw[BZ];exact hl.1.nodup<|h.nodup R
  rw[Bj hR];exact h.nodup R
 ·exact λR S h3 b hb hb'=>h.dis R S h3 b (hF R b hb)<|hF S b hb'
 ·intro R S b hb hb'
  rcases hU S b hb' with q|⟨rfl,q1,q2⟩
  ·exact h.disU R S b (hF R b hb) q
  by_cases hR:R=S
  ·subst hR;rw[BZ]at hb;exact q2 hb
  exact h.dis R S hR b (hF R b hb) q1
 ·exact λR b hb=>h.inF R b<|hF R b hb
 ·intro R b hb
  rcases hU R b hb with q|⟨rfl,q1,_⟩
  ·exact h.inU R b q
  obtain⟨q2,q3⟩:=h.inF R b q1
  grind
 ·exact h.disA
 ·exact h.os
 ·exact h.tape
 ·exact h.output
 ·exact h.size
 ·exact h.keep
 ·exact h.len
 ·exact h.nodef
 ·exact h.xblk
 ·rw[EI];exact h.ambB
 ·rw[EI];exact h.ambI
 ·rw[Im];exact h.frz
 ·exact h.ambF
 rw[EI];exact h.pin
end
theorem ACe {r:Root} (h:SI E r j=some row):∃cs e s,E.root r=some cs/\cs[j]?=some (.sl true e s row)/\frE E r j (Bz row)=E.setRoot r (cK cs j (Bz row)):=by
 obtain⟨cs,e,s,h1,h2,_⟩:=SH h;exact⟨cs,e,s,h1,h2,by unfold frE;rw[h1]⟩
def Zr:Root->Bool
 | .hand=>false
 |_=>true
theorem Vn {r:Root} (h:Zr r=true):r≠ .hand:=by rintro rfl;cases h
theorem RW.fz (r:Root) (j:Nat) (hs:Bz row=row') (h:RW P N ops i (frE E r j row') Q) (ho:SI E r j=some row:=by kernel_rfl) (hh:Zr r=true:=by rfl):RW P N ops i E Q:=by
 intro w0 FA UA w a blk FS US hr hF hU;obtain⟨cs,e,s,h1,h2,h3⟩:=ACe ho;obtain⟨FS',US',k1,k2,k3⟩:=hr.freeze h1 h2<|Vn hh;rw[<-hs,h3]at h;exact h _ _ _ _ _ _ _ _ k1 (by rw[k2,hF])<|by rw[k3,hU]
theorem KW.fz {ts:List Nat} (r:Root) (j:Nat) (hs:Bz row=row') (h:KW P N ops ts dn (frE E r j row') Q) (ho:SI E r j=some row:=by kernel_rfl) (hh:Zr r=true:=by rfl):KW P N ops ts dn E Q:=by
 intro hq hc w0 FA UA w a blk FS US hr hF hU;obtain⟨cs,e,s,h1,h2,h3⟩:=ACe ho;obtain⟨FS',US',k1,k2,k3⟩:=hr.freeze h1 h2<|Vn hh;rw[<-hs,h3]at h;exact h hq hc _ _ _ _ _ _ _ _ k1 (by rw[k2,hF])<|by rw[k3,hU]
theorem Wp.fz {c:Code} (r:Root) (j:Nat) (hs:Bz row=row') (h:Wp P N c (frE E r j row') Q) (ho:SI E r j=some row:=by kernel_rfl) (hh:Zr r=true:=by rfl):Wp P N c E Q:=by
 intro w0 FA UA w a blk FS US hr hF hU;obtain⟨cs,e,s,h1,h2,h3⟩:=ACe ho;obtain⟨FS',US',k1,k2,k3⟩:=hr.freeze h1 h2<|Vn hh;rw[<-hs,h3]at h;exact h _ _ _ _ _ _ _ _ k1 (by rw[k2,hF])<|by rw[k3,hU]
def St.fzs (E:St) (f:Option Nat):St:={E with fz:=f}
theorem tA {a:Act} {f:Option Nat} (r:Root):Cs w w a a E (E.fzs f) blk blk r:=by
 have hp:∀q j,(E.fzs f).place r q j=E.place r q j:=λq j=>by cases r<;>rfl
 exact⟨.inr ⟨rfl,λq j v h1 h2=>⟨h1,by rw[hp];exact h2⟩,λq j ad _ h1 h2=>⟨h1,by rw[hp];exact h2⟩⟩,.inr ⟨rfl,λj ad h1 h2=>⟨h1,by rw[hp];exact h2⟩⟩⟩
theorem CD.fzs {w0:Base} {a:Act} (h:CD w0 FA UA N w a E blk FS US) (f:Option Nat) (hf:∀n,f=some n->Frz w0 a n):CD w0 FA UA N w a (E.fzs f) blk FS US where
 slot:=λn=>Ij tA (h.slot n) (λ_ _=>rfl) λ_ _=>rfl
 box:=h.box
 nohand:=h.nohand
 nodup:=h.nodup
 dis:=h.dis
 disU:=h.disU
 inF:=h.inF
 inU:=h.inU
 disA:=h.disA
 os:=h.os
 tape:=h.tape
 output:=h.output
 size:=h.size
 keep:=h.keep
 len:=h.len
 nodef:=h.nodef
 xblk:=h.xblk
 ambB:=h.ambB
 ambI:=h.ambI
 frz:=hf
 ambF:=h.ambF
 pin:=h.pin
theorem xJ (n:Nat):(2*n+1)/2=n:=by omega
theorem xI (n:Nat):¬(2*n+1) %2=0:=by omega
def ADE (o:Oper):Bool:=match o.op with
 | .buildSlice t len parts=>Nat.beq len 0&&Nat.beq parts.size 0
 |_=>false
theorem AEL {a:Act} {nx:Next} {o:Oper} (hb:ADE o=true) (hd:o.dst=some d) (hN:d<N) (hs:Ct P N false E o=some E') (hr:(execOp a.eval o).run P w= .ok nx w'):∃B,nx= .value (.slice B 0 0):=by
 unfold ADE at hb;split at hb
 ·rename_i t len parts ho;rw[Ag]at hb;have h1:=AY hb.1;have h2:=AY hb.2;subst h1;have h3:parts= #[]:=Array.eq_empty_of_size_eq_zero h2;subst h3;simp only[Ct,hd,AH hN,ho,M5]at hs;split at hs
  ·rename_i e hu;split at hs
   ·rename_i zs ss hz b;obtain⟨i,z,hi,c,f,g⟩:=Kj (w:=w) hz;simp[execOp,ho,Instr.buildSlice,run_underlying hu,sizeOf,typeInfo,hi,newRow,Instr.fill]at hr
    grind
   cases hs
  cases hs
 cases hb
def AA1 (x:Operand):Nat:=match x with
 | .tmp n=>n
 |_=>0
theorem dZ {ts:List Nat} (h:KW P N ops ts (i::dn) (((Ct P N false E (oA ops i)).getD E).fzs (some (2*((oA ops i).dst.getD 0)+1))) Q) (hs:(Ct P N false E (oA ops i)).isSome=true:=by kernel_rfl) (hk:(Sf P ops E i&&ADE (oA ops i)&&G3 N (oA ops i))=true:=by kernel_rfl):KB P N ops ts dn i E Q:=by
 have hs':=getD_some (a:=E) hs;simp only[Ag]at hk;obtain⟨h1,h2⟩:=H1 hk.1.1;obtain⟨d,h3,_,h4⟩:=EO hk.2;rw[h3]at h;simp only[Bc]at h;have b:kp (oA ops i)=true:=by
  have:=hk.1.2;unfold ADE at this;unfold kp
  grind
 intro w0 FA UA w a blk FS US hr hF hU;unfold wpOp;simp only[Jd h1,Ce hr h2,Ch];obtain⟨nx,w',v,blk',FS',US',k1,k2,k3,k4,k5,k6⟩:=Sv hr hF hU hs';obtain⟨B,hB⟩:=AEL (N:=N) hk.1.2 h3 h4 hs' k1;have hv:v= .slice B 0 0:=by grind
 refine .inl ?_;unfold Oper.wp;rw[k1,hB];refine⟨λ_=>k6 b,_,blk',FS',US',h,?_,k4,k5⟩;rw[hv]at k3;refine k3.fzs _ λn hn=>?_
 injection hn with hn
 subst hn;unfold Frz;rw[AO<|xI d,xJ d,h3];refine⟨B,?_⟩;have:=k3.len;simp only[Act.eval,Act.put];rw[Dz];have hl:=hr.len
 grind
theorem KB.a {ts:List Nat} (hs:Ct P N false E (oA ops i)=some E') (h:KW P N ops ts (i::dn) (E'.fzs none) Q) (hk:(Sf P ops E i&&AB2 (oA ops i)&&Nat.beq (EP (oA ops i)).1 (EP (oA ops i)).2.1&&G3 N (oA ops i))=true:=by kernel_rfl) (hx:(EP<|oA ops i).2.2.1= .tmp (AA1 (EP<|oA ops i).2.2.1):=by kernel_rfl) (hz:E.fz=some (2*AA1 (EP<|oA ops i).2.2.1+1):=by kernel_rfl):KB P N ops ts dn i E Q:=by
 simp only[Ag]at hk;obtain⟨⟨⟨h0,h5⟩,h6⟩,h7⟩:=hk;obtain⟨h1,h2⟩:=H1 h0;obtain⟨d,h3,_,h4⟩:=EO h7;have c:=AY h6;have ho:=mI h5;rw[<-c]at ho;intro w0 FA UA w a blk FS US hr hF hU;unfold wpOp;simp only[Jd h1,Ce hr h2,Ch];have he:NZ P E d (EP<|oA ops i).1 (EP<|oA ops i).2.2.1 (EP<|oA ops i).2.2.2=some E':=by
  unfold Ct at hs
  grind
 obtain⟨nx,w',v,blk',FS',US',k1,k2,k3,k4,k5,_,k6⟩:=WY hr hF hU ho h3 h4 he;have b:=hr.frz _ hz;unfold Frz at b;rw[AO<|xI _,xJ,<-hx]at b;obtain⟨B,hB⟩:=b;refine .inl ?_;unfold Oper.wp;rw[k1]
 rcases k2 with rfl|⟨rfl,rfl⟩
 ·exact⟨λ_=>k6 B hB,_,blk',FS',US',h,k3.fzs none (λn hn=>by cases hn),k4,k5⟩
 exact⟨λ_=>k6 B hB,_,blk',FS',US',h,k3.fzs none (λn hn=>by cases hn),k4,k5⟩
def rm (k:IntKind) (a b:Int):Option Int:=if b=0 then none else some<|a.tmod b
def ban (k:IntKind) (a b:Int):Int:=k.wrap (BitVec.ofInt k.bits a&&&BitVec.ofInt k.bits b).toNat
def bxo (k:IntKind) (a b:Int):Int:=k.wrap (BitVec.ofInt k.bits a^^^BitVec.ofInt k.bits b).toNat
def AEf (P:Program) (E:St) (o:Oper) (k:IntKind) (q:Bool):Option (Int×Int):=match o.op with
 | .binOp op t x y _=>bif(match op with| .rem=>!q| .quo=>q|_=>false)then(match E.cell1 P t x,E.cell1 P t y with
  |some (.int k' a),some (.int k'' b)=>bif decide (k'=k)&&decide (k''=k)then some (a,b)else none
  |_,_=>none)else none
 |_=>none
theorem prm {o:Oper} {k:IntKind} {a b v:Int} (hx:rm k a b=some v) (hc:AEf P E o k false=some (a,b):=by kernel_rfl):AU P E o=some (.one<|.int k v):=by
 unfold AEf at hc;split at hc
 ·rename_i op t x y t' ho;cases op<;>simp only[Cj,Ai,Ad,reduceCtorEq]at hc;split at hc
  ·rename_i k' a' k2 b' h1 h2
   cases hk:(decide (k'=k)&&decide (k2=k))with
   |false=>grind
   |true=>
    rw[hk]at hc
    injection hc with hc
    injection hc with hc1 hc2
    rw[Ag]at hk;have e1:=K7 hk.1;have e2:=K7 hk.2;subst hc1 hc2 e1 e2;unfold rm at hx;split at hx
    ·cases hx
    rename_i hb
    injection hx with hx
    subst hx;simp only[AU,ho,h1,h2,XN,Ch,YG,AB3,AO hb,BD]
  cases hc
 cases hc
def n8 (P:Program) (f:FuncId) (as:List AV) (a:List TV):Prop:=∀(w:World) (vs:List Value) (FA UA:List Nat),L6 w as vs FA UA->FA.Nodup->(∀b∈FA,b∉UA)->(∀b∈FA++UA,b<w.heap.size)->
  Calls P f vs.toArray w λe w'=>∃v F U G V,e= .returned v/\ACG w w' FA UA (.tup []) [.ext a] [v] (.tuple #[]) F U G V
theorem gkp {c:Code} {cells:List TV} (hf:P.funcs[f]?=some fn) (hb:fn.body=some c) (hN:fn.ntmps=N) (h:Wp P N c (D3 as) λe E=>(e= .normal\/e= .ret)/\∃t r,fn.results.toList=[.tmp t]/\E.ptr? (.tmp t)=some (r,[],0)/\r.mem=true/\E.boxes r=some cells) (l:cells.isEmpty=false:=by rfl):n8 P f as cells:=by
 subst hN;intro w vs FA UA ha m j o;obtain⟨blk,FS,US,hr,hF,hU⟩:=Tu (N:=fn.ntmps) ha m j o (A:=Si.none) (fz:=none) trivial (λb hb=>by cases hb);refine calls_of_wp hf hb<|wp_mono (h _ _ _ _ _ _ _ _ hr hF hU) ?_;rintro e a w' ⟨E,blk',FS',US',⟨he,t,r,h1,h2,h3,h4⟩,k3,h5,h6⟩;obtain⟨u,ad,d,p⟩:=Jc k3 h2;have s:ad=⟨blk' r,0,none⟩:=by
  cases r with
  |slot n=>cases h3
  |hand=>cases h3
  |box n=>injection d with d;rw[<-d];simp[Addr.add]
  |ext n=>injection d with d;rw[<-d];simp[Addr.add]
 obtain⟨g,T,F3,b2,b3,b4⟩:∃g T F3,w'.heap[blk' r]?=some (.cells g T (0,0))/\BJ w' cells g.toList F3 (US' r)/\FS' r=blk' r::F3:=by
  rcases k3.box r h3 with⟨q,_⟩|⟨cs,g,T,F3,q1,q2,q3,q4⟩
  ·rw[h4]at q;cases q
  grind
 have hne':cells≠ []:=by rintro rfl;cases l
 have k:(fn.results.toList.mapM<|QW P a.tmps).run P w'= .ok [a.eval<|.tmp t] w':=by
  rw[h1,List.mapM_cons];rfl
 have i:a.defers=[]/\∃v,(results fn a.tmps).run P w'= .ok v w'/\∃v' F U G V,Ending.returned v= .returned v'/\ACG w w' FA UA (.tup []) [.ext cells] [v'] (.tuple #[]) F U G V:=by
  refine⟨k3.nodef,_,Pn k,a.eval<|.tmp t,[],[],FS' r,US' r,by simp,?_⟩
  exact{
   res:=by simp only[oB];exact⟨[],rfl,by simp[Xg]⟩
   fin:=⟨_,[],FS' r,[],US' r,[],rfl,by simp,by simp,⟨blk' r,g,T,F3,by rw[p,s],b2,b3,b4,hne'⟩,⟨rfl,rfl,rfl⟩⟩
   nodup:=by simpa using k3.nodup r
   dis:=λb hb hb'=>k3.disU r r b (by simpa using hb)<|by simpa using hb'
   inF:=λb hb=>k3.inF r b<|by simpa using hb
   inU:=λb hb=>k3.inU r b<|by simpa using hb
   os:=k3.os
   tape:=k3.tape
   output:=k3.output
   size:=k3.size
   keep:=λb hb hF=>k3.keep b hb hF (λe=>by cases e)}
 rcases he with rfl|rfl
 ·exact i
 exact i
section
variable {w0:Base} {a:Act}
theorem ACs {l:List (Bool×TypeId×Operand)} {ss:List (Option SV)} {K:Act->World->Prop} {Q:Exit->Act->World->Prop} (h:CD w0 FA UA N w a E blk FS US) (hF:FS .hand=[]) (hU:US .hand=[]) {o:Oper} {args:Array Operand} {tys:Array TypeId} (ho:o.op= .call {callee:= .value (.func f),args:=args,argTypes:=tys}) (hf:fT P f) (hd:o.dst=some d) (hN:d<N) (hl:l.map (λx=>x.2.2)=args.toList) {i:List TV} (hg:n8 P f as i) {c:Bool} (h1:PE P E l=some (ss,E1)) (h2:JY P E1 l ss=some (as,c)) (h3:c=true\/Aw i=false) (hK:∀w' v blk' FS' US',CD w0 FA UA N w' (a.put (some d) v) (E1.newBox d i) blk' FS' US'->FS' .hand=[]->US' .hand=[]->K (a.put (some d) v) w'):o.wp P a w K Q:=by
 obtain⟨FS1,US1,F,U,k1,k2,k3,k4,_⟩:=Rd h h1;rw[hF,A3]at k3;rw[hU,A3]at k4;obtain⟨U',k5,k6⟩:=LC k2 k1 h2;have h9:l.map (λx=>a.eval x.2.2)=(args.map a.eval).toList:=by
  rw[Q8,<-hl,FI];rfl
 rw[h9]at k5;have m:∀b∈F,b∉U':=by
  intro b hb hb';rw[<-k3]at hb
  rcases k6 b hb' with h4|⟨r,h4⟩|⟨_,r,h5,h4⟩
  ·rw[<-k4]at h4;exact k2.disU .hand .hand b hb h4
  ·exact k2.disU .hand r b hb h4
  exact k2.dis .hand r (JI h5) b hb h4
 have k:=hg w _ F U' k5 (by rw[<-k3];exact k2.nodup .hand) m (by
  intro b hb
  rcases Ao.1 hb with hb|hb
  ·exact(k2.inF .hand b (by rw[k3];exact hb)).2
  rcases k6 b hb with h4|⟨r,h4⟩|⟨_,r,h5,h4⟩
  ·exact(k2.inU .hand b (by rw[k4];exact h4)).2
  ·exact(k2.inU r b h4).2
  exact(k2.inF r b h4).2)
 unfold Oper.wp;rw[I6 ho hf];simp only[Oper.upon];rw[Array.toArray_toList]at k;refine Calls.mono k ?_;rintro e w' ⟨v,Fr,Ur,G,V,rfl,g⟩;obtain⟨v0,vs0,G1,G2,V1,V2,p,rfl,rfl,⟨b0,a0,T,F0,rfl,e1,e2,rfl,e3⟩,⟨rfl,rfl,rfl⟩⟩:=g.fin
 injection p with p _
 subst p;have t:=g.res;simp only[oB,Xg]at t;obtain⟨_,_,_,rfl,rfl⟩:=t;have u:=g.nodup;simp only[A3,AC]at u;have a5:∀b∈b0::F0,(b∈FS1 .hand\/w.heap.size<=b)/\b<w'.heap.size:=by
  intro b hb;have:=g.inF b<|by simpa using hb
  grind
 have y:∀b∈V1,(∃s,b∈US1 s)\/((b∈FS1 .hand\/w.heap.size<=b)/\b∉b0::F0/\b<w'.heap.size):=by
  intro b hb;obtain⟨h4,h5⟩:=g.inU b<|by simpa using hb
  have a4:b∉b0::F0:=λe=>g.dis b (by simpa using e)<|by simpa using hb
  rcases h4 with h4|h4|h4
  ·rcases k6 b h4 with h6|h6|⟨h6,r,h7,h8⟩
   ·grind
   ·exact .inl h6
   rcases h3 with h3|h3
   ·grind
   have:=KR e2 h3
   grind
  ·grind
  grind
 have j:∀b,b<w.heap.size->b∉FS1 .hand->w'.heap[b]?=w.heap[b]? :=λb hb z=>g.keep b hb<|by grind
 let E2:St:={E1 with boxes:=Ci E1.boxes (.box d)<|some i,ver:=Ci E1.ver (.box d)<|E1.ver (.box d)+1,gen:=Ci E1.gen (.box d) (E1.gen (.box d)+1)}
 let blk1:=Ci blk (.box d) b0
 have a1:Root.box d≠Root.hand:=by simp
 have a2:∀s,Cs w w' a a E1 E2 blk blk1 s:=by
  intro s;by_cases hs:s= .box d
  ·subst hs;exact⟨.inl (by simp[E2,Ci]),.inl<|by simp[E2,Ci]⟩
  have hv:E2.ver s=E1.ver s:=by simp[E2,Ci,hs]
  have hg:E2.gen s=E1.gen s:=by simp[E2,Ci,hs]
  by_cases hh:s= .hand
  ·subst hh;exact Gm hv hg<|by simp[St.root,k2.nohand]
  refine DS k2 hv hg ?_ (λ_ _=>rfl) (λ_=>by simp[blk1,Ci,hs]) (λb hb=>j b (k2.inF s b hb).2<|k2.dis s .hand hh b hb) λb hb=>j b (k2.inU s b hb).2 λe=>k2.disU .hand s b e hb;cases s<;>simp_all [E2,St.root,Ci]
 have g1:=k2.two (w':=w') (a':=a) (E':=E2) (blk':=blk1) (r1:= .box d) (r2:= .hand) (L1:=b0::F0) (L2:=[]) (V1:=V1) (V2:=[]) a1
  (by simpa using u)
  (λb hb=>by grind)
  (λb hb=>by
   have hb':b∈V1:=by simpa using hb
   rcases y b hb' with q|⟨q1,q2,q3⟩
   ·exact .inl q
   grind)
  g.size g.os g.tape g.output (λb hb _ z=>j b hb z) a2
  (λn _ _=>⟨rfl,rfl⟩)
  (λs _ hs _=>⟨by simp[E2,Ci,hs],by simp[blk1,Ci,hs]⟩)
  (.inr ⟨i,a0,T,F0,by simp[E2,Ci],by simp[blk1,Ci,e1],e2,by simp[blk1,Ci]⟩)
  trivial (by simp[E2,Ci,k2.nohand]) k2.len k2.nodef (hfz:=λn hn=>k2.frz n hn)
 have a3:Ik w' a E2 blk1 (.one<|.ptr (.box d) (E2.gen<|.box d) [] 0) (.pointer<|some ⟨b0,0,none⟩) [] []:=by
  have h0:E2.stamp (.box d) []=E2.gen (.box d):=rfl;rw[<-h0];refine W1 ?_ ?_
  ·cases hc:i with
   |nil=>exact absurd hc e3
   |cons x xs=>simp[St.place,St.root,E2,Ci,BB,hc]
  simp[pa,blk1,Ci,Addr.add]
 have g2:=g1.put (d:=d) hN a3 Zc.none;have:=hK w' _ blk1 _ _ g2 (by rfl) (by rfl);rw[hd];exact this
end
theorem AF7 {l:List AV} {x:Option α} (h:x.bind kk=some r) {c:α->List TV} (f:∀v,x=some v->n8 P (Qy (oA ops i)) l (c v)) (hk:∀v,x=some v->kk v=some r->RW P N ops (i+1) ((clE P E (oA ops i) 0).newBox ((oA ops i).dst.getD 0) (c v)) Q) (b:eD P E (oA ops i) 0=some l:=by kernel_rfl) (hc:shB P E (oA ops i) 0=true:=by kernel_rfl) (ho:(Sf P ops E i&&Uv P N (oA ops i)&&G3 N (oA ops i))=true:=by kernel_rfl):RW P N ops i E Q:=by
 obtain⟨v,hv,h⟩:=Ah.1 h;simp only[Ag]at ho;obtain⟨h1,h2⟩:=H1 ho.1.1;obtain⟨args,tys,h3,h4,h5,h6⟩:=P7 ho.1.2;obtain⟨d,h7,_,h8⟩:=EO ho.2;have e:=hk v hv h;rw[h7]at e;unfold RW;rw[G4 h1];intro w0 FA UA w a blk FS US hr hF hU;simp only[wpList,Ce hr h2,Ch];unfold eD shB shA at*;unfold clE at e
 cases hm:mvA P E (oA ops i) 0 with
 |none=>grind
 |some z=>
  obtain⟨ss,E1⟩:=z;rw[hm]at b hc e;simp only at b hc e
  cases hs:JY P E1 (bits 0<|GF<|oA ops i) ss with
  |none=>grind
  |some y=>
   rw[hs]at b hc
   injection b with b
   subst b;refine .inl<|ACs hr hF hU h3 h4 h7 h8 (l:=bits 0<|GF<|oA ops i) (by rw[Q3,h6]) (f v hv) hm hs (.inl hc) λw' v' blk' FS' US' k1 k2 k3=>e _ _ _ _ _ _ _ _ k1 k2 k3
theorem rsp {rs:List ResultVar} {a:List TV} (t:Nat) (h1:rs=[.tmp t]) (h:(match E.ptr? (.tmp t)with
 |some (r,[],0)=>bif r.mem then E.boxes r else none
 |_=>none)=some a):∃t r,rs=[.tmp t]/\E.ptr? (.tmp t)=some (r,[],0)/\r.mem=true/\E.boxes r=some a:=by grind
def xtE (N:Nat) (E:St) (o:Oper):Option St:=match o.op,o.dst with
 | .extract t ix,some d=>bif Nat.blt d N then OG E d t ix else none
 |_,_=>none
theorem AEE {w0:Base} {a:Act} (h:CD w0 FA UA N w a E blk FS US) (hF:FS .hand=[]) (hU:US .hand=[]) {o:Oper} (he:xtE N E o=some E'):
  ∃v blk' FS' US',(∀w2,(execOp a.eval o).run P w2= .ok (.value v) w2)/\CD w0 FA UA N w (a.put o.dst v) E' blk' FS' US'/\FS' .hand=[]/\US' .hand=[]:=by
 unfold xtE at he;split at he
 ·rename_i t ix d ho hd
  cases hN:Nat.blt d N with
  |false=>grind
  |true=>
   rw[hN]at he;have hN':d<N:=by simpa[B3]using hN
   obtain⟨nx,w',v,blk',FS',US',k1,k2,k3,k4,k5,_⟩:=Ex.extract (P:=P) h hF hU ho hd hN' he;have f:∃x,∀w2,(execOp a.eval o).run P w2= .ok (.value x) w2:=by
    unfold OG at he;split at he
    ·rename_i n;split at he
     ·rename_i ss b;split at he
      ·rename_i s c;have hs:=h.slot n;rw[b]at hs;obtain⟨vs,e,hx⟩:=hs;obtain⟨v,A,B,C,D,F1,U1,h1,h2,h3,h4,h5⟩:=ZJ ix hx c;exact⟨v,λw2=>by simp[execOp,ho,Instr.extract,e,h1]⟩
      cases he
     cases he
    cases he
   grind
 cases he
theorem Hk {ts:List Nat} (i:Nat) (h:KW P N ops ts (i::dn) ((xtE N E (oA ops i)).getD E) Q) (hs:(xtE N E (oA ops i)).isSome=true:=by kernel_rfl) (hk:(Sf P ops E i&&sZ ops ts dn i)=true:=by kernel_rfl):KW P N ops ts dn E Q:=by
 have hs':=getD_some (a:=E) hs;simp only[Ag,sZ]at hk;obtain⟨h1,h3,h4⟩:=hk;obtain⟨h5,h6⟩:=H1 h1;unfold KW at h⊢;rw[W7 (i:=i) h3];intro hQ hc w0 FA UA w a blk FS US k1 k2 k3;obtain⟨e1,e2,e3,e4,e5⟩:=WL h4;obtain⟨v,blk',FS',US',g1,g2,g3,g4⟩:=AEE (P:=P) k1 k2 k3 hs';refine N0 (v:=v) (n:=ops.size) (Jd h5) (Region.noSelect_spec e1) (λc a w hx=>?_) e4 e5 _ _ a w hc (Region.free_spec (Jd h5) e2) e3 (.inl ⟨Ce k1 h6,λw2 _=>g1 w2⟩) ?_
 ·obtain⟨E',blk',FS',US',m1,_⟩:=hx
  grind
 exact h hQ (Mg hc e3) _ _ _ _ _ _ _ _ g2 g3 g4
def dT (P:Program) (E:St) (o:Oper) (s:SV):Prop:=∀(N:Nat) (w0:Base) (FA UA:List Nat) (w:World) (a:Act) (blk:Root->Nat) (FS US:Root->List Nat),CD w0 FA UA N w a E blk FS US->Fk P w a E blk FS US o s
theorem AGM (hp:dT P E (oA ops i) s) (h:RW P N ops (i+1) (E.put (oA ops i).dst s) Q) (hk:(Sf P ops E i&&G3 N (oA ops i))=true:=by kernel_rfl):RW P N ops i E Q:=by
 rw[Ag]at hk;obtain⟨h1,h2⟩:=H1 hk.1;obtain⟨d,h3,_,h4⟩:=EO hk.2;rw[h3]at h;unfold RW;rw[G4 h1];intro w0 FA UA w a blk FS US hr hF hU;simp only[wpList,Ce hr h2,Ch];exact .inl<|(Mn hr hF hU (hp _ _ _ _ _ _ _ _ _ hr) h3 h4).wp λw' v blk' FS' US' k1 k2 k3 _=>h _ _ _ _ _ _ _ _ k1 k2 k3
theorem AGK {m:Nat} (hp:dT P E (oA ops i) s) (h:SW P N ops m (i+1) (E.put (oA ops i).dst s) K) (hk:(Sf P ops E i&&G3 N (oA ops i)&&Nat.blt i m)=true:=by kernel_rfl):SW P N ops m i E K:=by
 simp only[Ag]at hk;obtain⟨h1,h2⟩:=H1 hk.1.1;obtain⟨d,h3,_,h4⟩:=EO hk.1.2;rw[h3]at h;unfold SW;rw[RF h1 hk.2];intro w0 FA UA w a blk FS US k1 k2 k3;obtain⟨v,U,g1,g2,g3⟩:=hp _ _ _ _ _ _ _ _ _ k1;have hr:=g1 w λr _=>⟨λ_ _=>rfl,λ_ _=>rfl⟩;simp only[wpStill,Ce k1 h2,Ch,Oper.still,hr,Oper.stillUpon_value];rw[h3];refine h _ _ _ _ _ _ _ _ (k1.put h4 g2<|Qu k1 g3 _) ?_ ?_
 ·rw[Bj (by simp),k2]
 rw[Bj (by simp),k3]
theorem AHm {ts:List Nat} (i:Nat) (hp:dT P E (oA ops i) s) (h:KW P N ops ts (i::dn) (E.put (oA ops i).dst s) Q) (hk:(Sf P ops E i&&G3 N (oA ops i)&&sZ ops ts dn i)=true:=by kernel_rfl):KW P N ops ts dn E Q:=by
 simp only[Ag,sZ]at hk;obtain⟨⟨h1,h2⟩,h3,h4⟩:=hk;obtain⟨h5,h6⟩:=H1 h1;obtain⟨d,h7,_,h8⟩:=EO h2;unfold KW at h⊢;rw[W7 (i:=i) h3];rw[h7]at h;intro hQ hc w0 FA UA w a blk FS US k1 k2 k3;obtain⟨e1,e2,e3,e4,e5⟩:=WL h4;obtain⟨v,U,g1,g2,g3⟩:=hp _ _ _ _ _ _ _ _ _ k1;refine N0 (v:=v) (n:=ops.size) (Jd h5) (Region.noSelect_spec e1) (λc a w hx=>?_) e4 e5 _ _ a w hc (Region.free_spec (Jd h5) e2) e3 (.inl ⟨Ce k1 h6,λw2 e=>?_⟩) ?_
 ·obtain⟨E',blk',FS',US',m1,_⟩:=hx
  grind
 ·exact g1 w2 λr hr=>⟨λb hb=>e.2 b (k1.inF r b hb).2,λb hb=>e.2 b (k1.inU r b hb).2⟩
 rw[h7];refine h hQ (Mg hc e3) _ _ _ _ _ _ _ _ (k1.put h8 g2<|Qu k1 g3 _) ?_ ?_
 ·rw[Bj (by simp),k2]
 rw[Bj (by simp),k3]
def AFO (o:Oper):Bool:=match o.op with
 | .assign (.const _)| .move (.const _)=>true
 |_=>false
theorem pjk {o:Oper} (h:AFO o=true:=by kernel_rfl):dT P E o (.one .junk):=by
 intro N w0 FA UA w a blk FS US hr;unfold AFO at h;split at h
 ·rename_i v ho;exact⟨v,[],λw2 _=>by simp[execOp,ho,Act.eval],by simp[Ik,DH,TV.isJunk],by simp⟩
 ·rename_i v ho;exact⟨v,[],λw2 _=>by simp[execOp,ho,Act.eval],by simp[Ik,DH,TV.isJunk],by simp⟩
 cases h
def ACg (P : Program) (f : Field) (j : Nat) (x y : TV) : Option Bool := bif (f.name != "_") && Nat.beq f.offset j then (match P.underlying f.type, x, y with
 |some (.int _),.int k a,.int k' b=>bif decide (k=k')then some (a==b)else none
 |some .bool,.bool a,.bool b=>some<|a==b
 |some .string,.str a,.str b=>some<|a.toList==b.toList
 |_,_,_=>none)else none
def aP (P:Program):List Field->Nat->List TV->List TV->Option Bool
 |[],_,[],[]=>some true
 |f::fs,j,x::xs,y::ys=>match ACg P f j x y,aP P fs (j+1) xs ys with
  |some b,some c=>some (b&&c)
  |_,_=>none
 |_,_,_,_=>none
def P5 (o:Oper):Bool×TypeId×Operand×Operand:=match o.op with
 | .binOp .eql t x y _=>(false,t,x,y)
 | .binOp .neq t x y _=>(true,t,x,y)
 |_=>(false,0,.tmp 0,.tmp 0)
def AB1 (o:Oper):Bool:=match o.op with
 | .binOp .eql .. | .binOp .neq .. =>true
 |_=>false
def AAY (P:Program) (t:TypeId):Bool:=(match P.underlying t with
 |some (.struct _)=>true
 |_=>false)&&!P.stoodInHeld t&&!P.eqGuardType P.depth t
def AEt (P:Program) (E:St) (o:Oper):Option Bool:=bif AB1 o&&AAY P (P5 o).2.1 then(match E.val P (P5 o).2.1 (P5 o).2.2.1,E.val P (P5 o).2.1 (P5 o).2.2.2 with
 |some (.agg xs),some (.agg ys)=>aP P (P.fieldsOf (P5 o).2.1).toList 0 xs ys
 |_,_=>none)else none
theorem ADK {f:Field} {r:Bool} {vx vy:Value} {F U F' U':List Nat} {a:Act} {blk:Root->Nat} {X Y:Array Value} (d:Nat) {x y:TV} (h:ACg P f j x y=some r) (hx:DH w a E blk x vx F U) (hy:DH w a E blk y vy F' U') (kx:X[j]?=some vx) (ky:Y[j]?=some vy):
  f.name ≠ "_" ∧ ∃ a b, (∀ w2 : World, (part f.type X f.offset).run P w2 = .ok a w2) ∧ (∀ w2 : World, (part f.type Y f.offset).run P w2 = .ok b w2) ∧ ∀ w2 : World, (Op.equalIn (d + 1) f.type a b).run P w2 = .ok r w2 := by
 unfold ACg at h
 cases hb : (f.name != "_" && Nat.beq f.offset j) with
 |false=>rw[hb]at h;cases h
 |true=>
  rw[hb]at h;rw[Ag]at hb;have hj:=AY hb.2;subst hj;refine⟨by simpa using hb.1,?_⟩;split at h
  ·rename_i k k1 n1 k2 n2 hu
   cases hk:decide (k1=k2)with
   |false=>rw[hk]at h;cases h
   |true=>
   rw[hk]at h;have c:=K7 hk;subst c
   injection h with h
   subst h;obtain⟨rfl,_,_⟩:=hx;obtain⟨rfl,_,_⟩:=hy;exact⟨_,_,λw2=>run_part_plain w2 (e:=f.type) (by simp[Program.plainKey,hu]) kx,λw2=>run_part_plain w2 (e:=f.type) (by simp[Program.plainKey,hu]) ky,λw2=>run_equalIn_int w2 d f.type k1 k n1 n2 hu⟩
  ·rename_i b1 b2 hu
   injection h with h
   subst h;obtain⟨rfl,_,_⟩:=hx;obtain⟨rfl,_,_⟩:=hy;exact⟨_,_,λw2=>run_part_plain w2 (e:=f.type) (by simp[Program.plainKey,hu]) kx,λw2=>run_part_plain w2 (e:=f.type) (by simp[Program.plainKey,hu]) ky,λw2=>run_equalIn_bool' w2 d f.type b1 b2 hu⟩
  ·rename_i s1 s2 hu
   injection h with h
   subst h;obtain⟨rfl,_,_⟩:=hx;obtain⟨rfl,_,_⟩:=hy;exact⟨_,_,λw2=>run_part_plain w2 (e:=f.type) (by simp[Program.plainKey,hu]) kx,λw2=>run_part_plain w2 (e:=f.type) (by simp[Program.plainKey,hu]) ky,λw2=>run_equalIn_string w2 d f.type s1 s2 hu⟩
  cases h
theorem iB {a:Act} {blk:Root->Nat} {X Y:Array Value} (d:Nat):∀{fs:List Field} {j:Nat} {xs ys:List TV} {vx vy:List Value} {F U F' U':List Nat} {r:Bool},aP P fs j xs ys=some r->CE w a E blk xs vx F U->CE w a E blk ys vy F' U'->
  (∀i v,vx[i]?=some v->X[j+i]?=some v)->(∀i v,vy[i]?=some v->Y[j+i]?=some v)->∀w2:World,(Op.eqFields (d+1) X Y fs).run P w2= .ok r w2
 |[],j,xs,ys,vx,vy,F,U,F',U',r,h,hx,hy,kx,ky,w2=>by
  cases xs<;>cases ys<;>simp only[aP,reduceCtorEq,Av]at h;subst h;rfl
 |f::fs,j,xs,ys,vx,vy,F,U,F',U',r,h,hx,hy,kx,ky,w2=>by
  cases xs with
  |nil=>simp[aP]at h
  |cons x xs=>
   cases ys with
   |nil=>simp[aP]at h
   |cons y ys=>
    simp only[aP]at h;split at h
    ·rename_i b c h1 h2
     injection h with h
     subst h;obtain⟨v,vs,F1,F2,U1,U2,rfl,_,_,e1,e2⟩:=hx;obtain⟨v',e,F1',F2',U1',U2',rfl,_,_,e1',e2'⟩:=hy;obtain⟨g1,A,B,g2,g3,g4⟩:=ADK (X:=X) (Y:=Y) d h1 e1 e1' (kx 0 v rfl)<|ky 0 v' rfl;have ih:=iB d h2 e2 e2' (λi u hu=>by rw[Q9,vP 1 i];exact kx (i+1) u<|by simpa using hu) (λi u hu=>by rw[Q9,vP 1 i];exact ky (i+1) u<|by simpa using hu) w2;simp only[Op.eqFields,AH g1,Sem.run_bind,g2,g3,g4,Result.andThen_ok];cases b
     ·simp
     simpa using ih
    cases h
theorem peq {b:Bool} {o:Oper} (h:AEt P E o=some b):dT P E o (.one (.bool (bif(P5 o).1 then !b else b))):=by
 intro N w0 FA UA w a blk FS US hr;unfold AEt at h
 cases hb:(AB1 o&&AAY P (P5 o).2.1)with
 |false=>rw[hb]at h;cases h
 |true=>
  rw[hb]at h;rw[Ag]at hb;split at h
  ·rename_i xs ys hx hy;obtain⟨U1,k1,_⟩:=JQ hr hx;obtain⟨U2,k2,_⟩:=JQ hr hy;obtain⟨vx,e1,c1⟩:=k1;obtain⟨vy,e2,c2⟩:=k2;have hT:=hb.2;simp only[AAY,Ag,CI]at hT;have e:P.underlying (P5 o).2.1=some (.struct<|P.fieldsOf (P5 o).2.1):=by
    have:=hT.1.1;split at this
    ·rename_i fs f;simp only[Program.fieldsOf,f]
    cases this
   have c:∀w2:World,(Op.equalIn 10000 (P5 o).2.1 (.agg vx.toArray)<|.agg vy.toArray).run P w2= .ok b w2:=λw2=>by
    rw[run_equalIn_struct w2 9999 _ _ _ e hT.1.2];exact iB (X:=vx.toArray) (Y:=vy.toArray) 9998 h c1 c2 (λi v hv=>by simpa using hv) (λi v hv=>by simpa using hv) w2
   refine⟨.bool<|bif(P5 o).1 then !b else b,[],λw2 _=>?_,by simp[Ik,DH,D4,Value.cells],by simp⟩;have d:=hb.1;unfold AB1 at d;split at d
   ·rename_i t x y t' ho;simp only[P5,ho]at e1 e2 c hT⊢;simp[execOp,ho,e1,e2,run_eqGuard_agg w2 _ _ _ _ _ _ hT.2,run_eql_struct,c w2]
   ·rename_i t x y t' ho;simp only[P5,ho]at e1 e2 c hT⊢;simp[execOp,ho,e1,e2,run_eqGuard_agg w2 _ _ _ _ _ _ hT.2,run_neq_struct,c w2]
   cases d
  cases h
abbrev pb (n:Nat):SV:= .one (.ptr (.box n) 0 [] 0)
abbrev px (n:Nat):SV:= .one (.ptr (.ext n) 0 [] 0)
abbrev i6 (n:Int):TV:= .int .i64 n
abbrev tb (b:Bool):TV:= .bool b
abbrev ts (s:ByteArray):TV:= .str s
abbrev rg (n:Nat):List AV:=List.replicate n .gone
theorem jr {w:β} {f:V->Option β} {a:V⊕β} (h:some (.inr w)=some a) (hk:Sum.elim f some a=some r):some w=some r:=by grind
theorem jo {w:β} {f:V->Option β} {o:S⊕(V⊕β)} (h:some (.inr (.inr w))=some o) (hk:∀w,o= .inr (.inr w)->Sum.elim f some (.inr w)=some r):some w=some r:=by grind
theorem rr {v r:β} (h:some v=some r):v=r:=Option.some.inj h
theorem rq {e:Exit} {rs:List ResultVar} {a:SV} (he:e= .normal\/e= .ret:=by first|exact .inr rfl|exact .inl rfl) (hk:(Eb P E rs).map (λz=>EG z.1)=some a:=by kernel_rfl):(e= .normal\/e= .ret)/\∃ss E',Eb P E rs=some (ss,E')/\EG ss=a:=⟨he,rsz hk⟩
theorem rx {e:Exit} {rs:List ResultVar} {b:SV} {a:List TV} (he:e= .normal\/e= .ret:=by first|exact .inr rfl|exact .inl rfl) (hk:(Eb P E rs).map (λz=>(EG z.1,z.2.boxes<|.ext 0))=some (b,some a):=by kernel_rfl):(e= .normal\/e= .ret)/\∃ss E',Eb P E rs=some (ss,E')/\EG ss=b/\E'.boxes (.ext 0)=some a:=⟨he,rsx hk⟩
section
variable {id:Nat}
theorem ws (h:RW P N ops 0 E (Kk (λE'=>Wp P N y E' Q) Q)):Wp P N (.seq (.region id ops false) y) E Q:=Wp.seq<|AEB h
end
theorem BO {f:α->List TV} {n:Int} (hf:∀x,(f x).length=sz) (h:(gi l n).bind kk=some r) (hk:∀x,gi l n=some x->kk x=some r->RW P N ops (i+1) (E.put (oA ops i).dst (qH E (oA ops i) (n.toNat*sz+0))) Q) (hc:ABZ P E (oA ops i) sz=some (A9 f l,n):=by kernel_rfl) (hq:qok P N ops i E=true:=by kernel_rfl):RW P N ops i E Q:=
 bd h λx gx h=>AFe (Hg hf gx hc) (hk x gx h) hq
def wB (P:Program) (N:Nat) (ops:Array Oper) (ts dn:List Nat) (E:St) (i:Nat):Option St:=bif Nat.blt i ops.size&&G3 N (oA ops i)&&sZ ops ts dn i then
 (match By P ops E (oA ops i)with
 |some false=>some<|E.put (oA ops i).dst<|.tup []
 |some true=>match JR P E (oA ops i)with
  |some s=>some<|E.put (oA ops i).dst s
  |none=>xtE N E<|oA ops i
 |none=>none)else none
theorem tst {ts:List Nat} (hs:wB P N ops ts dn E i=some E') (h:KW P N ops ts (i::dn) E' Q):KW P N ops ts dn E Q:=by
 unfold wB at hs
 cases hb:(Nat.blt i ops.size&&G3 N (oA ops i)&&sZ ops ts dn i)with
 |false=>grind
 |true=>
  rw[hb]at hs;simp only[Ai]at hs;split at hs
  ·rename_i hg
   injection hs with hs
   subst hs;exact AF9 i h hg hb
  ·rename_i hg;simp only[Ag]at hb;have ho:Sf P ops E i=true:=by simp only[Sf,hb.1.1,hg,Xa]
   split at hs
   ·rename_i s a
    injection hs with hs
    subst hs;exact AFp i a h<|by grind
   exact Hk i (by rw[hs];exact h) (by rw[hs];rfl) (by rw[ho,hb.2];rfl)
  cases hs
def yL (P:Program) (N:Nat) (ops:Array Oper) (ts dn:List Nat) (E:St):List Nat->Option (Nat×St)
 |[]=>none
 |i::l=>match wB P N ops ts dn E i with
  |some E'=>some (i,E')
  |none=>yL P N ops ts dn E l
theorem rA {ts:List Nat}:∀{l:List Nat} {E':St},yL P N ops ts dn E l=some (i,E')->wB P N ops ts dn E i=some E'
 |[],_,h=>by cases h
 |j::l,E',h=>by
  simp only[yL]at h;split at h
  ·grind
  exact rA h
def AEy (P:Program) (N:Nat) (ops:Array Oper) (ts:List Nat) (mv:List Nat) (E:St) (i:Nat):Option St:=bif Sf P ops E i&&(kp (oA ops i)||ts.contains i)then Ct P N (mv.contains i) E (oA ops i)else none
def ADX (f:A->Option (List St)):List A->Option (List St)
 |[]=>some []
 |x::l=>match f x,ADX f l with
  |some a,some b=>some (a++b)
  |_,_=>none
theorem rX {f:A->Option (List St)}:∀{l:List A} {L:List St},ADX f l=some L->∀x∈l,∃a,f x=some a/\∀E∈a,E∈L
 |[],_,_,x,hx=>by cases hx
 |y::l,L,h,x,hx=>by
  simp only[ADX]at h;split at h
  ·rename_i a b h1 h2
   injection h with h
   subst h
   rcases DI.1 hx with rfl|hx
   ·grind
   obtain⟨a',h3,h4⟩:=rX h2 x hx
   grind
  cases h
def zN (P:Program) (N:Nat) (ops:Array Oper) (ts mv:List Nat):Nat->List Nat->St->Option (List St)
 |0,_,_=>none
 |n+1,dn,E=>match Region.ready .any ops (lsd ops.size dn)with
  |[]=>some [E]
  |rs=>bif Nat.blt dn.length ops.size then(match yL P N ops ts dn E rs with
   |some (i,E')=>zN P N ops ts mv n (i::dn) E'
   |none=>ADX (λi=>match AEy P N ops ts mv E i with
    |some E'=>zN P N ops ts mv n (i::dn) E'
    |none=>none) rs)else none
theorem vR {ts:List Nat} {mv:List Nat}:∀{n:Nat} {dn:List Nat} {E:St} {L:List St},zN P N ops ts mv n dn E=some L->(∀E'∈L,Q .normal E')->KW P N ops ts dn E Q
 |0,_,_,_,h,_=>by cases h
 |n+1,dn,E,L,h,hq=>by
  simp only[zN]at h;split at h
  ·rename_i hr
   injection h with h
   subst h;exact KW.done (hq E (by simp)) (by rw[hr];rfl)
  rename_i b
  cases hb:Nat.blt dn.length ops.size with
  |false=>rw[hb]at h;cases h
  |true=>
   rw[hb]at h;split at h
   ·rename_i i E' hf;exact tst (rA hf) (vR h hq)
   refine KW.all _ (λi hi=>?_) b (by simp only[rdy,hb,Bool.and_true,beq_self_eq_true]);obtain⟨a,h1,h2⟩:=rX h i hi;split at h1
   ·rename_i E' hs;unfold AEy at hs
    cases hc:(Sf P ops E i&&(kp (oA ops i)||ts.contains i))with
    |false=>grind
    |true=>
     rw[hc]at hs;exact DL hs (vR h1 λE'' hE=>hq E''<|h2 E'' hE) hc
   cases h1
def ABy (P:Program) (N:Nat) (ops:Array Oper) (ts mv dn:List Nat) (E:St):List St:=(zN P N ops ts mv (ops.size+1) dn E).getD []
theorem nP {X:Prop} {c:List PanicEntry} (h:(Exit.panic c= .normal\/Exit.panic c= .ret)/\X):False:=by grind
section
variable {w0:Base} {a:Act}
theorem CD.resay (h:CD w0 FA UA N w a E blk FS US) (hd:d<N) (hs:Ik w a E blk s (a.eval (.tmp d)) [] []):∃FS' US',CD w0 FA UA N w a (E.put (some d) s) blk FS' US'/\FS' .hand=FS .hand/\US' .hand=US .hand:=by
 have k:=h.put (F:=[]) (U:=[]) hd hs Zc.none;have e:a.put (some d) (a.eval<|.tmp d)=a:=by
  cases a with
  |mk tmps defers=>
   have hl:d<tmps.size:=AT hd h.len;simp only[Act.put,Act.eval];congr 1;apply Array.ext (by simp);intro i h1 h2;rw[Array.getElem_setIfInBounds];split
   ·rename_i e;subst e;simp[hl]
   rfl
 rw[e]at k;exact⟨_,_,k,Bj (by simp),Bj<|by simp⟩
end
theorem CD.toAdr {w0:Base} {a:Act} (h:CD w0 FA UA N w a E blk FS US) (hd:d<N) (hs:E.ptr? (.tmp d)=some (.ext 0,[],0)) (hp:E.amb.pin=some b):∃FS' US',CD w0 FA UA N w a (E.put (some d) (.one (.adr ⟨b,0,none⟩))) blk FS' US'/\FS' .hand=FS .hand/\US' .hand=US .hand:=by
 obtain⟨_,ad,h1,h2⟩:=Jc h hs;refine h.resay hd ?_;rw[h2];have e:=h.xblk 0;rw[h.pin b hp]at e;simp only[pa,e,Addr.add]at h1
 injection h1 with h1
 subst h1;refine⟨?_,λ_=>rfl⟩;show D4 w (.adr ⟨b,0,none⟩) _ [] [];simp[D4]
section
variable {w0:Base} {a:Act}
theorem CD.toPtr (h:CD w0 FA UA N w a E blk FS US) (hd:d<N) (hs:E.slots d= .one (.adr ⟨b,0,none⟩)) (hp:E.amb.pin=some b) {f:List TV} (hb:E.boxes (.ext 0)=some f) (g:f.isEmpty=false):
  ∃FS' US',CD w0 FA UA N w a (E.put (some d) (.one (.ptr (.ext 0) (E.gen (.ext 0)) [] 0))) blk FS' US'/\FS' .hand=FS .hand/\US' .hand=US .hand:=by
 have hv:a.eval (.tmp d)= .pointer (some ⟨b,0,none⟩):=by
  have:=h.slot d;rw[hs]at this;exact this.1.1
 refine h.resay hd ?_;have e:=h.xblk 0;rw[h.pin b hp]at e;refine⟨⟨rfl,rfl,Ay _,λ_=>⟨?_,⟨b,0,none⟩,?_,hv⟩⟩,λ_=>by rw[hv];rfl⟩
 ·cases f with
  |nil=>cases g
  |cons c cs=>simp[St.place,St.root,hb,BB]
 simp[pa,e,Addr.add]
end
def pnE (E:St) (d b:Nat):St:=E.put (some d)<|.one<|.adr ⟨b,0,none⟩
def AER (N:Nat) (E:St) (d:Nat):Bool:=Nat.blt d N&&(match E.ptr? (.tmp d)with
 |some (.ext 0,[],0)=>true
 |_=>false)
theorem ADe (h:AER N E d=true):d<N/\E.ptr? (.tmp d)=some (.ext 0,[],0):=by
 simp only[AER,Ag]at h;refine⟨by simpa[B3]using h.1,?_⟩
 grind
theorem AF5 (d:Nat) (h:RW P N ops i (pnE E d b) Q) (hp:E.amb.pin=some b:=by kernel_rfl) (ho:AER N E d=true:=by kernel_rfl):RW P N ops i E Q:=by
 intro w0 FA UA w a blk FS US hr hF hU;obtain⟨h1,h2⟩:=ADe ho;obtain⟨FS',US',k1,k2,k3⟩:=hr.toAdr h1 h2 hp;exact h _ _ _ _ _ _ _ _ k1 (by rw[k2,hF])<|by rw[k3,hU]
def npE (E:St) (d:Nat):St:=E.put (some d)<|.one<|.ptr (.ext 0) (E.gen<|.ext 0) [] 0
def ADq (N:Nat) (E:St) (d:Nat):Bool:=Nat.blt d N&&(match E.boxes (.ext 0)with
 |some cells=>!cells.isEmpty
 |none=>false)
theorem xK (h:ADq N E d=true):d<N/\∃a,E.boxes (.ext 0)=some a/\a.isEmpty=false:=by
 simp only[ADq,Ag]at h;refine⟨by simpa[B3]using h.1,?_⟩
 grind
theorem sE (d:Nat) (h:RW P N ops i (npE E d) Q) (hp:E.amb.pin=some b:=by kernel_rfl) (hs:E.slots d= .one (.adr ⟨b,0,none⟩):=by kernel_rfl) (ho:ADq N E d=true:=by kernel_rfl):RW P N ops i E Q:=by
 intro w0 FA UA w a blk FS US hr hF hU;obtain⟨h1,c,h2,h3⟩:=xK ho;obtain⟨FS',US',k1,k2,k3⟩:=hr.toPtr h1 hs hp h2 h3;exact h _ _ _ _ _ _ _ _ k1 (by rw[k2,hF])<|by rw[k3,hU]
theorem yW {ts:List Nat} (d:Nat) (h:KW P N ops ts dn (npE E d) Q) (hp:E.amb.pin=some b:=by kernel_rfl) (hs:E.slots d= .one (.adr ⟨b,0,none⟩):=by kernel_rfl) (ho:ADq N E d=true:=by kernel_rfl):KW P N ops ts dn E Q:=by
 intro hq hc w0 FA UA w a blk FS US hr hF hU;obtain⟨h1,c,h2,h3⟩:=xK ho;obtain⟨FS',US',k1,k2,k3⟩:=hr.toPtr h1 hs hp h2 h3;exact h hq hc _ _ _ _ _ _ _ _ k1 (by rw[k2,hF])<|by rw[k3,hU]
structure dQ (n c b g cap:Nat) (e T T':TypeId) (sz:Nat) (rest:List Value) (enc:γ->List TV) (w:World) (l:List γ):Prop where
 ne:b≠g/\c≠g/\c≠b
 len:l.length=n
 ptr:w.heap[c]?=some (.cells #[.pointer (some ⟨b,0,none⟩)] T' (0,0))
 box:w.heap[b]?=some (.cells (.slice (some ⟨g,0,none⟩) n cap::rest).toArray T (0,0))
 row:∃cur,w.heap[g]?=some (.cells cur e (0,0))/\cur.size=cap*sz/\cur.toList.take (l.length*sz)=(A9 enc l).map TV.val
 le:l.length<=cap/\cap<=maxLen
theorem wN {e:TypeId} {l:List γ} {k:Nat} {n c b g cap:Nat} {rest:List Value} {enc:γ->List TV} (h:dQ n c b g cap e T T' sz rest enc w l) (hk:k<l.length*sz):w.cell? ⟨g,k,none⟩=((A9 enc l).map TV.val)[k]? :=by
 obtain⟨a,h1,h2,h3⟩:=h.row;rw[<-h3,Hj,AH hk];simp[World.cell?,h1]
def Ib (n c b g cap:Nat) (e T T':TypeId) (sz:Nat) (rest:List Value) (enc:γ->List TV) (l:List γ):Si where
 B:=[c,b,g]
 I:=λw=>dQ n c b g cap e T T' sz rest enc w l
 st:=λw w' h hk=>⟨h.ne,h.len,by rw[hk c<|by simp];exact h.ptr,by rw[hk b<|by simp];exact h.box,by rw[hk g<|by simp];exact h.row,h.le⟩
 rd:=λad=>if ad.spot.isSome=true then none else if ad.block=c then(if ad.off=0 then some (.pointer<|some ⟨b,0,none⟩)else none)else if ad.block=b then(if ad.off=0 then some (.slice (some ⟨g,0,none⟩) n cap)else none)else if ad.block=g then(if ad.off<l.length*sz then((A9 enc l).map TV.val)[ad.off]? else none)else none
 rdI:=λw ad v h hr=>by
  obtain⟨bl,off,spot⟩:=ad
  cases spot with
  |some s=>simp at hr
  |none=>
   simp only[NM,Er,Ke]at hr;split at hr
   ·rename_i hb;subst hb;split at hr
    ·rename_i ho;subst ho
     injection hr with hr
     subst hr;simp[World.cell?,h.ptr]
    cases hr
   split at hr
   ·rename_i hb;subst hb;split at hr
    ·rename_i ho;subst ho
     injection hr with hr
     subst hr;simp[World.cell?,h.box]
    cases hr
   split at hr
   ·rename_i hg;subst hg;split at hr
    ·rename_i ho;rw[wN h ho];exact hr
    cases hr
   cases hr
theorem oM {e:TypeId} {ie:TypeInfo} {c b g cap:Nat} {rest:List Value} {enc:γ->List TV} (h:∀x,(enc x).length=sz) (n:Nat) (gS:Bool) (hx:∀args W,(callFunc sf args).run P W=((Extern.ReflectliteSwapper.swap gS args).run P W).andThen λv w'=> .ok (.value v) w') (a2:P.info? e=some ie) (o:ie.size=sz) (h0:∀w,(isAgg e).run P w= .ok true w):
  Nt P (Ib n c b g cap e T T' sz rest enc) sf #[.slice (some ⟨g,0,none⟩) n cap,typeHandle P e]:=by
 intro l i j x y hi hj w hI hB;obtain⟨⟨h3,h4,h5⟩,hn,h6,h7,h8,r⟩:=hI;have b0:b<w.heap.size:=hB b (by simp[Ib]);have b1:c<w.heap.size:=hB c (by simp[Ib]);have b2:g<w.heap.size:=hB g (by simp[Ib]);obtain⟨f,hg,h9,a0⟩:=h8;obtain⟨i0,i1⟩:=IP hi;obtain⟨j0,j1⟩:=IP hj;obtain⟨a,rfl⟩:=Cf i0;obtain⟨d,rfl⟩:=Cf j0;simp only[Ba]at i1 j1;have la:=(Ae.1 i1).1;have lc:=(Ae.1 j1).1;have hX:((enc x).map TV.val).length=sz:=by grind
 have hY:((enc y).map TV.val).length=sz:=by grind
 have p:l.length*sz<=f.size:=by rw[h9];exact BQ _ r.1
 have a3:(a+1)*sz<=l.length*sz:=BQ _ la;have a4:(d+1)*sz<=l.length*sz:=BQ _ lc;rw[GO]at a3 a4;have hI:dQ n c b g cap e T T' sz rest enc w l:=⟨⟨h3,h4,h5⟩,hn,h6,h7,⟨f,hg,h9,a0⟩,r⟩;have cell:∀(m:Nat) (z:γ),l[m]?=some z->∀k v,((enc z).map TV.val)[k]?=some v->w.cell? ⟨g,0+m*ie.size+k,none⟩=some v:=by
  intro m z hm k v hk;have a5:=(Ae.1 hk).1;rw[Bm,h]at a5;have lm:=(Ae.1 hm).1;have a6:(m+1)*sz<=l.length*sz:=BQ _ lm;rw[GO]at a6;rw[o,HZ,wN hI<|by omega];have e1:(A9 enc l)[m*sz+k]?=(enc z)[k]? :=by
   have h2:(A9 enc l)[m*sz+k]?=((A9 enc l).drop<|m*sz)[k]? :=by grind
   rw[h2,K4 h l m,AE lm,RC]
   grind
  grind
 have frz:∀(m k:Nat),w.frozen? ⟨g,0+m*ie.size+k,none⟩=false:=by
  intro m k;simp[World.frozen?,hg]
 have q:=Go.Lib.run_swap_cells (P:=P) gS e ie a2 h0 g 0 n cap a d (by omega) (by omega) ((enc x).map TV.val) ((enc y).map TV.val) (by rw[hX,o]) (by rw[hY,o]) (λv hv=>by obtain⟨t,_,rfl⟩:=A6.1 hv;exact Zf) (λv hv=>by obtain⟨t,_,rfl⟩:=A6.1 hv;exact Zf) w (cell a x i1) (cell d y j1) (λk _=>frz a k) λk _=>frz d k;simp only[HZ,o]at q;have h1:=JG e (0,0) g ((enc y).map TV.val) (a*sz) f w hg (by rw[hY];omega);have a7:(setRow f.toList (a*sz)<|(enc y).map TV.val).toArray.size=f.size:=by
  rw[List.size_toArray,E4 (by rw[hY];simp;omega)];simp
 have h2:=JG e (0,0) g ((enc x).map TV.val) (d*sz) _ _ h1 (by rw[a7,hX];omega);have kB:∀k,k<w.heap.size->k≠g->((w.setCells g (a*sz)<|(enc y).map TV.val).setCells g (d*sz)<|(enc x).map TV.val).heap[k]?=w.heap[k]? :=by
  intro k hk a1;have s1:(w.setCells g (a*sz)<|(enc y).map TV.val).heap.size=w.heap.size:=G8 g _ _ _;rw[World.heap_setCells_other _ g _ _ (by rw[s1];exact hk) a1,World.heap_setCells_other _ g _ _ hk a1]
 refine⟨(w.setCells g (a*sz)<|(enc y).map TV.val).setCells g (d*sz)<|(enc x).map TV.val,?_,⟨?_,?_,?_,?_,?_⟩,?_⟩
 ·rw[hx];have ea:(#[Value.int .i64 (a:Int),Value.int .i64 (d:Int)]++ #[Value.slice (some ⟨g,0,none⟩) n cap,typeHandle P e])= #[.int .i64 (a:Int),.int .i64 (d:Int),.slice (some ⟨g,0,none⟩) n cap,typeHandle P e]:=rfl;rw[ea,q];rfl
 ·rw[World.os_setCells,World.os_setCells]
 ·rw[Jv,Jv]
 ·rw[World.output_setCells,World.output_setCells]
 ·rw[G8,G8];exact Ay _
 ·intro k hk a8;exact kB k hk λe=>a8 (by rw[e];simp[Ib])
 have s:(si (si l (a:Int) y) (d:Int) x).length=l.length:=by simp[si]
 have lcur:f.toList.length=f.size:=by simp
 have u:(setRow f.toList (a*sz)<|(enc y).map TV.val).length=f.size:=by omega
 have b3:(setRow (setRow f.toList (a*sz)<|(enc y).map TV.val) (d*sz)<|(enc x).map TV.val).length=f.size:=by rw[E4 (by rw[hX,u];omega),u]
 refine⟨⟨h3,h4,h5⟩,s.trans hn,by grind,by grind,⟨_,h2,?_,?_⟩,by rw[s];exact r⟩
 ·grind
 rw[s];rw[M7 (by rw[hX];omega) (by rw[u];exact p),M7 (by rw[hY];omega) (by rw[lcur];exact p),a0,<-Re,<-Re];have e1:setRow (A9 enc l) (a*sz) (enc y)=A9 enc (si l (a:Int) y):=by
  have:=T6 h (z:=y) hi
  rwa [Ba]at this
 obtain⟨z0,a9⟩:∃z0,gi (si l (a:Int) y) (d:Int)=some z0:=by
  have lc2:d<(si l (a:Int) y).length:=by simp only[si,Ki];exact lc
  refine⟨(si l (a:Int) y)[d],?_⟩;unfold gi;simp
 have e2:=T6 h (z:=x) a9;rw[Ba]at e2;rw[e1,e2]
theorem wV {e:TypeId} {l:List γ} {n c b g cap:Nat} {rest:List Value} {enc:γ->List TV}:(Ib n c b g cap e T T' sz rest enc l).rd ⟨c,0,none⟩=some (.pointer (some ⟨b,0,none⟩)):=by
 simp[Ib]
theorem wW {e:TypeId} {l:List γ} {n c b g cap:Nat} {rest:List Value} {enc:γ->List TV} (h:c≠b):(Ib n c b g cap e T T' sz rest enc l).rd ⟨b,0,none⟩=some (.slice (some ⟨g,0,none⟩) n cap):=by
 simp[Ib,h.symm]
theorem wU {e:TypeId} {l:List γ} {i:Int} {k:Nat} {t:TV} {n c b g cap:Nat} {rest:List Value} {enc:γ->List TV} (a:∀x,(enc x).length=sz) {x:γ} {ad:Addr} (hi:gi l i=some x) (hk:(enc x)[k]?=some t) (hb:b≠g) (hc:c≠g) (d:ad=⟨g,i.toNat*sz+k,none⟩):(Ib n c b g cap e T T' sz rest enc l).rd ad=some t.val:=by
 subst d;obtain⟨i0,i1⟩:=IP hi;have lm:=(Ae.1 i1).1;have f:=(Ae.1 hk).1;rw[a]at f;have h:(i.toNat+1)*sz<=l.length*sz:=BQ _ lm;have e1:(A9 enc l)[i.toNat*sz+k]?=(enc x)[k]? :=by
  have h2:(A9 enc l)[i.toNat*sz+k]?=((A9 enc l).drop<|i.toNat*sz)[k]? :=by grind
  rw[h2,K4 a l i.toNat,AE lm,RC]
  grind
 simp only[Ib,NM,Er,Ke]
 grind
theorem ACE {o:Oper} (d:Nat) {ad:Addr} {x:Nat} (hk:FK P N ops rest (E.put (some d) (.one (.adr ad))) K) (hs:E.slots x= .one (.adr ad)) (ho:o.op= .nilCheck (.tmp x):=by rfl) (hd:o.dst=some d:=by rfl) (hN:Nat.blt d N=true:=by rfl) (hg:By P ops E o=some true:=by rfl):FK P N ops (o::rest) E K:=
 FK.any d (.adr ad) hk (λw0 FA UA w a blk FS US h=>by
  have h1:=nR h hs;refine⟨.pointer<|some ad,?_,by simp[D4],rfl⟩
  simp[execOp,ho,h1,Instr.sureAddr]) hd hN hg
def Vw (o:Oper):Nat:=o.dst.getD 0
def AGn (E:St) (ops:Array Oper) (i:Nat) (r:Root) (t:TV):St:=(((((E.put (some<|Vw<|oA ops i)<|.one .junk).put (some<|Vw<|oA ops<|i+1)<|.one .junk).setRoot r [t]).bump r).put (some<|Vw<|oA ops<|i+2)<|.tup [])
def AEG:Operand->Nat
 | .tmp n=>n
 |_=>0
def oO (o:Oper):Nat:=match o.op with
 | .makeInterface _ x=>AEG x
 |_=>0
def kJ (o:Oper):Nat:=match o.op with
 | .makeFunc _ _ c=>AEG<|c[0]?.getD<|.tmp 0
 |_=>0
def AEI (o:Oper):Array TypeId:=match o.op with
 | .call c=>c.argTypes
 |_=> #[]
def gG (s:SV):Nat:=match s with
 | .one (.view _ v _ _)=>v
 |_=>0
theorem RW.srt {rr:β} {l:List γ} {kk:List γ->Option β} {x:Option (List γ)} (h:x.bind kk=some rr) {enc:γ->List TV} {a:FuncId} (r:Root) (hs:∀l',x=some l'->Ul P (Qy (oA ops (i+2))) t e sz enc a l l') (hk:∀l',x=some l'->kk l'=some rr->RW P N ops (i+3) (AGn E ops i r (.sl true e sz (A9 enc l'))) Q) (b:∀x,(enc x).length=sz) (d:∀x,(enc x).all TV.flat=true) (hx:E.slots (oO (oA ops i))= .one (.view r (gG (E.slots (oO (oA ops i)))) [] 0):=by kernel_rfl) (c:E.ver r=gG (E.slots<|oO<|oA ops i):=by kernel_rfl) (hp:E.ptr? (.tmp<|kJ<|oA ops<|i+1)=some (r,[],0):=by kernel_rfl) (hc:E.boxes r=some [.sl true e sz<|A9 enc l]:=by kernel_rfl) (hm:r.mem=true:=by kernel_rfl) (h1:(oA ops i).op= .makeInterface t (.tmp<|oO<|oA ops i):=by kernel_rfl) (h2:(oA ops<|i+1).op= .makeFunc (.func a) #[] #[.tmp<|kJ<|oA ops<|i+1]:=by kernel_rfl) (h3:(oA ops<|i+2).op= .call {callee:= .value (.func<|Qy<|oA ops<|i+2),args:= #[.tmp<|Vw<|oA ops i,.tmp<|Vw<|oA ops<|i+1],argTypes:=AEI (oA ops<|i+2)}:=by kernel_rfl) (k1:(oA ops i).dst=some (Vw<|oA ops i):=by kernel_rfl) (k2:(oA ops<|i+1).dst=some (Vw<|oA ops<|i+1):=by kernel_rfl) (k3:(oA ops<|i+2).dst=some (Vw<|oA ops<|i+2):=by kernel_rfl) (g1:(oA ops i).guard=none:=by kernel_rfl) (g2:(oA ops<|i+1).guard=none:=by kernel_rfl) (g3:(oA ops<|i+2).guard=none:=by kernel_rfl) (hN:(Nat.blt (Vw<|oA ops i) N&&Nat.blt (Vw<|oA ops<|i+1) N&&Nat.blt (Vw<|oA ops<|i+2) N&&!Nat.beq (Vw<|oA ops i) (Vw<|oA ops<|i+1)&&!Nat.beq (kJ<|oA ops<|i+1) (Vw<|oA ops i)&&Nat.blt 0 sz&&Nat.blt (i+2) ops.size)=true:=by kernel_rfl) (ht:P.underlying t=some (.slice e):=by kernel_rfl) (hf:Uv P N (oA ops<|i+2)=true:=by kernel_rfl):RW P N ops i E Q:=by
 obtain⟨l',hl',h⟩:=Ah.1 h;simp only[Ag,CI]at hN;obtain⟨⟨⟨⟨⟨⟨q1,q2⟩,q3⟩,q4⟩,q5⟩,q6⟩,q7⟩:=hN;have b2:Nat.blt (i+1) ops.size=true:=by rw[B3]at q7⊢;omega
 have b1:Nat.blt i ops.size=true:=by rw[B3]at q7⊢;omega
 have hk':=hk l' hl' h;unfold RW at hk'⊢;rw[G4 b1,G4 b2,G4 q7];exact GL.srt (hs l' hl') hk' b d hx c hp hc hm h1 h2 h3 k1 k2 k3 g1 g2 g3 q1 q2 q3 q4 q5 q6 ht (P7 hf).choose_spec.choose_spec.2.1
def nQ (o:Oper):Nat:=match o.op with
 | .call c=>match c.args.toList with
  |[x]=>AEG x
  |_=>0
 |_=>0
def oG (s:SV):Nat:=match s with
 | .one (.view (.slot n) _ _ _)=>n
 |_=>0
def WU (P:Program) (f:FuncId) (t e sz:Nat) (enc:γ->List TV) (g:FuncId) (l l':List γ):Prop:=∀(w:World) (c b:Nat) (v:Value) (rest:List Value) (T T':TypeId),w.heap[c]?=some (.cells #[.pointer<|some ⟨b,0,none⟩] T' (0,0))->w.heap[b]?=some (.cells (v::rest).toArray T (0,0))->w.ownsRow 0 e sz v l.length ((A9 enc l).map TV.val)->b∉BR v->c∉BR v->c≠b->
  Calls P f #[.iface t v,.func (.func g) #[] #[.pointer<|some ⟨c,0,none⟩]] w λr w'=>r= .returned (.tuple #[])/\GK w w' (c::b::BR v)/\w'.heap[c]?=w.heap[c]? /\w'.heap[b]?=w.heap[b]? /\w'.ownsRow 0 e sz v l'.length ((A9 enc l').map TV.val)
def ABY (c b:Nat) (v:Value) (rest:List Value) (T T':TypeId) (e sz n:Nat) (xs:List Value):Si where
 B:=c::b::BR v
 I:=λw=>w.heap[c]?=some (.cells #[.pointer<|some ⟨b,0,none⟩] T' (0,0))/\w.heap[b]?=some (.cells (v::rest).toArray T (0,0))/\w.ownsRow 0 e sz v n xs
 st:=λw w' h hk=>⟨by grind,by grind,h.2.2.1,by
  rcases h.2.2.2 with q|⟨g,cap,a,rfl,q1,q2,q3⟩
  ·exact .inl q
  exact .inr ⟨g,cap,a,rfl,q1,by rw[hk g<|by simp[BR,Value.ownBlock]];exact q2,q3⟩⟩
theorem AD3 {l:List γ} {rc:Root} {o1 o2 o3:Oper} {ver:Nat} {enc:γ->List TV} {f c:FuncId} {rs:List TV} {d1 d2 d3 x p b0:Nat} {tys:Array TypeId} (hs:WU P f t e sz enc c l l') (hk:GL P N ops rest (((((E.put (some d1) (.one .junk)).put (some d2) (.one .junk)).setRoot (.ext 0) (.sl true e sz (A9 enc l')::rs)).bump (.ext 0)).put (some d3) (.tup [])) Q) (m:∀x,(enc x).length=sz) (i:∀x,(enc x).all TV.flat=true) (hpin:E.amb.pin=some b0) (hx:E.slots x= .one (.view (.ext 0) ver [] 0)) (o:E.ver (.ext 0)=ver) (hp:E.ptr? (.tmp p)=some (rc,[],0)) (hc:E.boxes (.ext 0)=some (.sl true e sz (A9 enc l)::rs)) (u:E.boxes rc=some [.adr ⟨b0,0,none⟩]) (hm:rc.mem=true) (h1:o1.op= .makeInterface t (.tmp x)) (h2:o2.op= .makeFunc (.func c) #[] #[.tmp p]) (h3:o3.op= .call {callee:= .value (.func f),args:= #[.tmp d1,.tmp d2],argTypes:=tys}) (k1:o1.dst=some d1) (k2:o2.dst=some d2) (k3:o3.dst=some d3) (g1:o1.guard=none) (g2:o2.guard=none) (g3:o3.guard=none) (h8:Nat.blt d1 N=true) (h9:Nat.blt d2 N=true) (a0:Nat.blt d3 N=true) (a1:Nat.beq d1 d2=false) (y:Nat.beq p d1=false) (a2:Nat.blt 0 sz=true) (ht:P.underlying t=some (.slice e)) (hf:fT P f):GL P N ops (o1::o2::o3::rest) E Q:=by
 have hN1':d1<N:=by simpa[B3]using h8
 have hN2':d2<N:=by simpa[B3]using h9
 have hN3':d3<N:=by simpa[B3]using a0
 have hne':d1≠d2:=by intro e;subst e;simp at a1
 have hne2':p≠d1:=by intro e;subst e;simp at y
 have hsz':0<sz:=by simpa[B3]using a2
 have a3:rc≠ .ext 0:=by grind
 intro w0 FA UA w a blk FS US hr hF hU;have z:blk (.ext 0)=b0:=by rw[hr.xblk,hr.pin b0 hpin]
 obtain⟨v,vs,T,F2,U1,U2,b1,b2,b3,b4,b5⟩:∃v vs T F2 U1 U2,w.heap[blk<|.ext 0]?=some (.cells (v::vs).toArray T (0,0))/\(∃F1,D4 w (.sl true e sz<|A9 enc l) v F1 U1/\FS (.ext 0)=blk (.ext 0)::(F1++F2))/\BJ w rs vs F2 U2/\US (.ext 0)=U1++U2/\True:=by
  rcases hr.box (.ext 0) rfl with⟨q1,_⟩|⟨cs,g,T,F,q1,q2,q3,q4⟩
  ·grind
  rw[hc]at q1
  injection q1 with q1
  subst q1;simp only[BJ]at q3;obtain⟨v,k,F1,F2,U1,U2,e1,rfl,e3,q5,q6⟩:=q3;have:g=(v::k).toArray:=by grind
  grind
 obtain⟨F1,b2,b6⟩:=b2;obtain⟨T',c1⟩:∃T',w.heap[blk rc]?=some (.cells #[.pointer<|some ⟨b0,0,none⟩] T' (0,0)):=by
  rcases hr.box rc hm with⟨q1,_⟩|⟨cs,g,T,F,q1,q2,q3,q4⟩
  ·grind
  rw[u]at q1
  injection q1 with q1
  subst q1;simp only[BJ,D4]at q3;obtain⟨v,k,F1,F2,U1,U2,e1,rfl,e3,⟨rfl,_⟩,rfl,_⟩:=q3;have:g= #[.pointer<|some ⟨b0,0,none⟩]:=by grind
  grind
 have a4:blk rc∈FS rc:=by
  rcases hr.box rc hm with⟨q1,_⟩|⟨cs,g,T,F,q1,q2,q3,q4⟩
  ·grind
  rw[q4];simp
 simp only[D4]at b2;obtain⟨n,xs,F',b7,b8,rfl⟩:=b2;have a5:=Wu b8<|Gg i l;obtain⟨rfl,rfl⟩:=LV b8<|Gg i l;subst a5;have a6:n=l.length:=by
  have q:=b7.1;rw[Bm,EN m l]at q;exact(Nat.eq_of_mul_eq_mul_right hsz' q).symm
 subst a6;rw[AC]at b6;rw[A3]at b4;have h0:=hr.nodup<|.ext 0;rw[b6]at h0
 have a7:blk (.ext 0)∉BR v:=λhx=>(CT.1 h0).1<|Bn _ hx
 have h4:∀x∈FS (.ext 0),x≠blk rc:=λx hx e=>hr.dis _ _ a3 _ a4<|e▸hx
 have a8:blk rc∉BR v:=λhx=>h4 (blk rc) (by grind) rfl
 have a9:blk rc≠blk (.ext 0):=λe=>h4 (blk<|.ext 0) (by rw[b6];simp) e.symm
 have evx:a.eval (.tmp x)=v:=by
  have q:=hr.slot x;rw[hx]at q;simp only[Ik,DH]at q;obtain⟨⟨_,_,_,q4⟩,_⟩:=q;obtain⟨q5,_⟩:=q4 o;simpa[pv,B6,Addr.add,World.cell?,b1]using q5.symm
 have evp:a.eval (.tmp p)= .pointer (some ⟨blk rc,0,none⟩):=by
  obtain⟨_,ad,q1,q2⟩:=Jc hr hp;rw[q2]
  cases rc with
  |slot n=>cases hm
  |hand=>cases hm
  |box n=>simp[pa,Addr.add]at q1;rw[<-q1]
  |ext n=>simp[pa,Addr.add]at q1;rw[<-q1]
 obtain⟨FS1,US1,r1,r2,r3⟩:=W8 hr hF hU hN1'<|.iface t v;have e1:(execOp a.eval o1).run P w= .ok (.value<|.iface t v) w:=by
  simp[execOp,h1,Instr.makeInterface,run_underlying ht,evx]
 simp only[wpList,Ce hr<|Kg (P:=P) (ops:=ops) g1,Ch];refine .inl ?_
 try unfold Oper.wp
 rw[e1,Oper.upon_value,k1];have evp1:(a.put (some d1)<|.iface t v).eval (.tmp p)= .pointer (some ⟨blk rc,0,none⟩):=by rw[Dj hne2',evp]
 obtain⟨FS2,US2,s1,s2,s3⟩:=W8 r1 r2 r3 hN2'<|.func (.func c) #[] #[.pointer<|some ⟨blk rc,0,none⟩];have e2:(execOp (a.put (some d1)<|.iface t v).eval o2).run P w= .ok (.value<|.func (.func c) #[] #[.pointer<|some ⟨blk rc,0,none⟩]) w:=by
  simp[execOp,h2,Instr.makeFunc,evp1]
 simp only[wpList,Ce r1<|Kg (P:=P) (ops:=ops) g2,Ch];refine .inl ?_
 try unfold Oper.wp
 rw[e2,Oper.upon_value,k2];simp only[wpList,Ce s1<|Kg (P:=P) (ops:=ops) g3,Ch];refine .inl ?_;have c0:d1<a.tmps.size:=AT hN1' hr.len;have c2:d2<(a.put (some d1)<|.iface t v).tmps.size:=AT hN2' r1.len
 try unfold Oper.wp
 rw[I6 h3 hf];have ea: #[Operand.tmp d1,.tmp d2].map ((a.put (some d1)<|.iface t v).put (some d2)<|.func (.func c) #[] #[.pointer<|some ⟨blk rc,0,none⟩]).eval= #[.iface t v,.func (.func c) #[] #[.pointer<|some ⟨blk rc,0,none⟩]]:=by
  simp[Gz c2,Dj hne',Gz c0]
 rw[ea];simp only[Oper.upon];refine Calls.mono (hs w (blk rc) (blk<|.ext 0) v vs T T' (by rw[z];exact c1) b1 b7 a7 a8 a9) ?_;rintro ee w' ⟨rfl,h,c6,h5,c7⟩;have h6:((E.put (some d1)<|.one .junk).put (some d2)<|.one .junk).boxes (.ext 0)=some (.sl true e sz (A9 enc l)::rs):=hc;obtain⟨G1,G2,V2,f1,f2,f3,f4⟩:∃G1 G2 V2,FS2 (.ext 0)=blk (.ext 0)::(G1++G2)/\G1=BR v/\US2 (.ext 0)=V2/\BJ w rs vs G2 V2:=by
  rcases s1.box (.ext 0) rfl with⟨q1,_⟩|⟨cs,g,T2,F2,q1,q2,q3,q4⟩
  ·grind
  rw[h6]at q1
  injection q1 with q1
  subst q1;rw[b1]at q2
  injection q2 with q2
  injection q2 with q2
  subst q2;simp only[BJ]at q3;obtain⟨v2,k,F3,F4,U1,U2,e1,rfl,e3,q5,q6⟩:=q3;simp at e1;obtain⟨rfl,rfl⟩:=e1;simp only[D4]at q5;obtain⟨n,vs,F',c4,c5,rfl⟩:=q5;obtain⟨rfl,rfl⟩:=LV c5<|Gg i l
  grind
 subst f2;have j:=s1.nodup<|.ext 0;rw[f1]at j;have c8:blk rc∈FS2 rc:=by
  have d0:((E.put (some d1)<|.one .junk).put (some d2)<|.one .junk).boxes rc=some [.adr ⟨b0,0,none⟩]:=u
  rcases s1.box rc hm with⟨q1,_⟩|⟨cs,g,T,F,q1,q2,q3,q4⟩
  ·grind
  rw[q4];simp
 have keepb:∀b,b<w.heap.size->b∉BR v->w'.heap[b]?=w.heap[b]? :=by
  intro b hb hv;by_cases q1:b=blk rc
  ·rw[q1];exact c6
  by_cases q2:b=blk (.ext 0)
  ·rw[q2];exact h5
  exact h.keep b hb<|by grind
 have h7:GK w w' (FS2<|.ext 0):=⟨h.os,h.tape,h.output,h.size,λb hb hn=>keepb b hb λhv=>hn<|by grind⟩
 have hG:∀b∈G2,w'.heap[b]?=w.heap[b]? :=λb hb=>keepb b (s1.inF (.ext 0) b<|by grind).2
  (λhv=>(CH.1 (CT.1 j).2).2.2 b hv b hb rfl)
 have hV:∀b∈V2,w'.heap[b]?=w.heap[b]? :=λb hb=>keepb b (s1.inU (.ext 0) b (by rw[f3];exact hb)).2
  (λhv=>s1.disU (.ext 0) (.ext 0) b (by grind) (by rw[f3];exact hb))
 obtain⟨FS3,US3,t1,t2,t3⟩:=s1.turn s2 s3 (r:= .ext 0) rfl h6 (cells':= .sl true e sz (A9 enc l')::rs) (by simp) (w':=w') h7
  ⟨(
   v::vs).toArray,T,BR v++G2,by rw[h5];exact b1,by
   rw[f3];simp only[BJ];refine⟨v,vs,BR v,G2,[],V2,by simp,rfl,rfl,?_,Gb f4 hG hV⟩;simp only[D4]
   exact⟨l'.length,_,[],c7,VI<|Gg i l',by simp⟩,f1⟩
 obtain⟨FS4,US4,u1,u2,u3⟩:=t1.land (w':=w') (d:=d3) (s:= .tup []) (v:= .tuple #[]) (F:=[]) (U:=[]) hN3' (by simp[Ik,Sn]) CW (by simp) (by simp) (Ay _) rfl rfl rfl λ_ _ _=>rfl;rw[k3];exact hk _ _ _ _ _ _ _ _ u1 u2 u3
def AEc:Option (List TV)->List TV
 |some (_::ts)=>ts
 |_=>[]
def rt0:Option (Root×List Nat×Nat)->Root
 |some (r,_,_)=>r
 |none=> .hand
def s2E (E:St) (ops:Array Oper) (i:Nat) (t:TV):St:=(((((E.put (some<|Vw<|oA ops i)<|.one .junk).put (some<|Vw<|oA ops<|i+1)<|.one .junk).setRoot (.ext 0) (t::AEc (E.boxes<|.ext 0))).bump<|.ext 0).put (some<|Vw<|oA ops<|i+2)<|.tup [])
theorem AFd {rr:β} {l:List γ} {kk:List γ->Option β} {b0:Nat} {x:Option (List γ)} (h:x.bind kk=some rr) {enc:γ->List TV} {a:FuncId} (hs:∀l',x=some l'->WU P (Qy (oA ops (i+2))) t e sz enc a l l') (hk:∀l',x=some l'->kk l'=some rr->RW P N ops (i+3) (s2E E ops i (.sl true e sz (A9 enc l'))) Q) (b:∀x,(enc x).length=sz) (d:∀x,(enc x).all TV.flat=true) (hpin:E.amb.pin=some b0:=by kernel_rfl) (hx:E.slots (oO<|oA ops i)= .one (.view (.ext 0) (gG<|E.slots<|oO<|oA ops i) [] 0):=by kernel_rfl) (c:E.ver (.ext 0)=gG (E.slots<|oO<|oA ops i):=by kernel_rfl) (hp:E.ptr? (.tmp<|kJ<|oA ops<|i+1)=some (rt0<|E.ptr?<|.tmp<|kJ<|oA ops<|i+1,[],0):=by kernel_rfl) (hc:E.boxes (.ext 0)=some (.sl true e sz (A9 enc l)::AEc (E.boxes<|.ext 0)):=by kernel_rfl) (f:E.boxes (rt0<|E.ptr?<|.tmp<|kJ<|oA ops<|i+1)=some [.adr ⟨b0,0,none⟩]:=by kernel_rfl) (hm:(rt0<|E.ptr?<|.tmp<|kJ<|oA ops<|i+1).mem=true:=by kernel_rfl) (h1:(oA ops i).op= .makeInterface t (.tmp<|oO<|oA ops i):=by kernel_rfl) (h2:(oA ops<|i+1).op= .makeFunc (.func a) #[] #[.tmp<|kJ<|oA ops<|i+1]:=by kernel_rfl) (h3:(oA ops<|i+2).op= .call {callee:= .value (.func<|Qy<|oA ops<|i+2),args:= #[.tmp<|Vw<|oA ops i,.tmp<|Vw<|oA ops<|i+1],argTypes:=AEI (oA ops<|i+2)}:=by kernel_rfl) (k1:(oA ops i).dst=some (Vw<|oA ops i):=by kernel_rfl) (k2:(oA ops<|i+1).dst=some (Vw<|oA ops<|i+1):=by kernel_rfl) (k3:(oA ops<|i+2).dst=some (Vw<|oA ops<|i+2):=by kernel_rfl) (g1:(oA ops i).guard=none:=by kernel_rfl) (g2:(oA ops<|i+1).guard=none:=by kernel_rfl) (g3:(oA ops<|i+2).guard=none:=by kernel_rfl) (hN:(Nat.blt (Vw<|oA ops i) N&&Nat.blt (Vw<|oA ops<|i+1) N&&Nat.blt (Vw<|oA ops<|i+2) N&&!Nat.beq (Vw<|oA ops i) (Vw<|oA ops<|i+1)&&!Nat.beq (kJ<|oA ops<|i+1) (Vw<|oA ops i)&&Nat.blt 0 sz&&Nat.blt (i+2) ops.size)=true:=by kernel_rfl) (ht:P.underlying t=some (.slice e):=by kernel_rfl) (hf:Uv P N (oA ops<|i+2)=true:=by kernel_rfl):RW P N ops i E Q:=by
 obtain⟨l',hl',h⟩:=Ah.1 h;simp only[Ag,CI]at hN;obtain⟨⟨⟨⟨⟨⟨q1,q2⟩,q3⟩,q4⟩,q5⟩,q6⟩,q7⟩:=hN;have b2:Nat.blt (i+1) ops.size=true:=by rw[B3]at q7⊢;omega
 have b1:Nat.blt i ops.size=true:=by rw[B3]at q7⊢;omega
 have hk':=hk l' hl' h;unfold RW at hk'⊢;rw[G4 b1,G4 b2,G4 q7];exact AD3 (hs l' hl') hk' b d hpin hx c hp hc f hm h1 h2 h3 k1 k2 k3 g1 g2 g3 q1 q2 q3 q4 q5 q6 ht (P7 hf).choose_spec.choose_spec.2.1
theorem AGG {c:Code} {a cells':List TV} {b:SV} (hf:P.funcs[f]?=some fn) (hb:fn.body=some c) (hN:fn.ntmps=N) (h:∀b0,Wp P N c (D3 (.ext a::as) (pT b0)) λe E=>(e= .normal\/e= .ret)/\∃ss E',Eb P E fn.results.toList=some (ss,E')/\EG ss=b/\E'.boxes (.ext 0)=some cells') (d:cells'.isEmpty=false:=by rfl):A0 P f (.ext a::as) b (.ext cells'::List.replicate as.length .gone):=cH pT ADf hf hb (by rw[hN];exact h) d
def nG (P:Program) (N:Nat) (ops:Array Oper) (E:St) (i:Nat):Option (FuncId×Array Value×Int×Int):=bif Sf P ops E i&&G3 N (oA ops i)then
 (match(oA ops i).op with
 | .call c=>match c.callee,c.args.toList with
  | .value (.tmp t),[o1,o2]=>match E.slots t,E.cell1 P 0 o1,E.cell1 P 0 o2 with
   | .one (.fn (.func g) fr cap),some<|.int .i64 x,some (.int .i64 y)=>bif fr.isEmpty then some (g,cap,x,y)else none
   |_,_,_=>none
  |_,_=>none
 |_=>none)else none
theorem jG {cap:Array Value} {x y:Int} (h:nG P N ops E i=some (g,cap,x,y)):Sf P ops E i=true/\(∃d,(oA ops i).dst=some d/\Nat.blt d N=true)/\∃t o1 o2 tys,(oA ops i).op= .call {callee:= .value (.tmp t),args:= #[o1,o2],argTypes:=tys}/\E.slots t= .one (.fn (.func g) #[] cap)/\E.cell1 P 0 o1=some (.int .i64 x)/\E.cell1 P 0 o2=some (.int .i64 y):=by
 unfold nG at h
 cases hb:(Sf P ops E i&&G3 N (oA ops i))with
 |false=>rw[hb]at h;cases h
 |true=>
  rw[hb]at h;simp only[Ag]at hb;obtain⟨d,h1,h2,_⟩:=EO hb.2;refine⟨hb.1,⟨d,h1,h2⟩,?_⟩;split at h
  ·rename_i c hc;split at h
   ·rename_i t o1 o2 k1 k2;split at h
    ·rename_i g' fr cap' x' y' m1 m2 m3
     cases he:fr.isEmpty with
     |false=>rw[he]at h;cases h
     |true=>
      rw[he]at h;obtain⟨rfl,rfl,rfl,rfl⟩:=h;have a:fr= #[]:=by simpa using he
      subst a;have ha:c.args= #[o1,o2]:=Array.toList_inj.1 k2;rw[hc];cases c
      grind
    cases h
   cases h
  cases h
theorem yV {rr:β} {lt:γ->γ->Bool} {l:List γ} {k:γ×γ->Option β} {cap:Array Value} (a:IV P Am lt g cap) {x y:Int} (h:(gi2 l x y).bind k=some rr) (hk:∀v,k v=some rr->RW P N ops (i+1) (E.put (oA ops i).dst (.one (.bool (lt v.1 v.2)))) Q) (hc:nG P N ops E i=some (g,cap,x,y):=by kernel_rfl) (hA:E.amb=Am l:=by kernel_rfl):RW P N ops i E Q:=by
 obtain⟨h1,⟨d,h2,h3⟩,t,o1,o2,tys,h4,h5,h6,h7⟩:=jG hc;obtain⟨h8,h9⟩:=H1 h1;unfold RW;rw[G4 h8];exact AD4 a h d (λv hv=>by have:=hk v hv;rw[h2]at this;exact this) hA h4 h5 h6 h7 h2 h3 h9
theorem yU {rr:β} {l:List γ} {k:List γ->Option β} {cap:Array Value} (a:Nt P Am sf cap) (hB:∀l l',(Am l).B=(Am l').B/\(Am l).pin=none) {x y:Int} (h:(s8 l x y).bind k=some rr) (hk:∀v,k v=some rr->RW P N ops (i+1) (({E with amb:=Am v}:St).put (oA ops i).dst<|.tup []) Q) (hc:nG P N ops E i=some (sf,cap,x,y):=by kernel_rfl) (hA:E.amb=Am l:=by kernel_rfl):RW P N ops i E Q:=by
 obtain⟨h1,⟨d,h2,h3⟩,t,o1,o2,tys,h4,h5,h6,h7⟩:=jG hc;obtain⟨h8,h9⟩:=H1 h1;unfold RW;rw[G4 h8];exact AD2 a hB h d (λv hv=>by have:=hk v hv;rw[h2]at this;exact this) hA h4 h5 h6 h7 h2 h3 h9
def AEx (P:Program) (N:Nat) (ops:Array Oper) (E:St) (i:Nat):Option (FuncId×List AV):=bif Sf P ops E i&&G3 N (oA ops i)then
 (match(oA ops i).op with
 | .call c=>match c.callee with
  | .value (.func f)=>match P.funcs[f]? with
   |some fn=>match JY P E ((c.argTypes.toList.zip c.args.toList).map λ(t,x)=>(false,t,x)) (List.replicate c.args.size none)with
    | some (l, b) => bif b && (l.all u7 && (!(fn.name == "runtime.NumGoroutine") && (!fn.body.isNone && Nat.beq c.argTypes.size c.args.size))) then some (f, l) else none
    |none=>none
   |none=>none
  |_=>none
 |_=>none)else none
theorem Tv {rr:β} {l:List AV} {k:List γ->Option β} {x:Option (List γ)} (h:x.bind k=some rr) (hB:∀l l',(Am l).B=(Am l').B/\(Am l).pin=none) (a:∀v,x=some v->Nv P f (Am xl) l (Am v)) (hk:∀v,k v=some rr->RW P N ops (i+1) (({E with amb:=Am v}:St).put (oA ops i).dst<|.tup []) Q) (hc:AEx P N ops E i=some (f,l):=by kernel_rfl) (hA:E.amb=Am xl:=by kernel_rfl):RW P N ops i E Q:=by
 unfold AEx at hc
 cases hb:(Sf P ops E i&&G3 N (oA ops i))with
 |false=>grind
 |true=>
  rw[hb]at hc;simp only[Ag]at hb;obtain⟨d,h1,h2,_⟩:=EO hb.2;obtain⟨h8,h9⟩:=H1 hb.1;split at hc
  ·rename_i c j;split at hc
   ·split at hc
    ·rename_i fn e;split at hc
     ·rename_i l' b g
      cases hq : (b && (l'.all u7 && (!(fn.name == "runtime.NumGoroutine") && (!fn.body.isNone && Nat.beq c.argTypes.size c.args.size)))) with
      |false=>grind
      |true=>
       rw[hq]at hc;obtain⟨rfl,rfl⟩:=hc;simp only[Ag,CI]at hq;obtain⟨rfl,q1,q2,q3,q4⟩:=hq;unfold RW;rw[G4 h8];refine AFn (fn:=fn) h d Am (A:=Am xl) (args:=c.args) (tys:=c.argTypes) ?_ hA (λv=>⟨(hB _ _).1,(hB _ v).2⟩) g (dM q1) a (λv _ hv=>by have:=hk v hv;rw[h1]at this;exact this) e q2 q3 h1 h2 (AY q4) h9;cases c
       grind
     cases hc
    cases hc
   cases hc
  cases hc
theorem ra {Am:α->Si} {e:Exit} {v r:α} (h:some v=some r) (he:e= .normal\/e= .ret:=by first|exact .inr rfl|exact .inl rfl) (hA:E.amb=Am v:=by kernel_rfl):(e= .normal\/e= .ret)/\E.amb=Am r:=by grind
structure RS where
 s:List (Nat×SV)
 b:List (Root×List TV)
 a:Si
def RS.st (x:RS):St:=AFM x.s x.b x.a
abbrev rs (s:List (Nat×SV)) (b:List (Root×List TV)):RS:=⟨s,b,Si.none⟩
abbrev S6 (s:List (Nat×SV)) (b:List (Root×List TV)) (a:Si):RS:=⟨s,b,a⟩
def RS.in (X:RS) (E:St):Bool:=X.b.all λr=>r.1.mem&&(E.boxes r.1).isSome
def RS.nf (X:RS) (E:St):St:=Nr E (X.s.map Prod.fst)<|X.b.map Prod.fst
def Zq (X:RS) (E:St):Prop:=X.in E=true/\X.nf E=X.st
def jR (H:V->RS) (v:Option V) (Q:Exit->St->Prop):Exit->St->Prop
 | .normal,E=>∃a,v=some a/\Zq (H a) E
 |e,E=>Q e E
def lR (id:Nat) (H:S->RS) (H2:V->RS) (o:S⊕V⊕W) (Q:Exit->St->Prop):Exit->St->Prop
 | .normal,E=>∃s,o= .inl s/\Zq (H s) E
 | .exit i,E=>if i=id then∃v,o= .inr (.inl v)/\Zq (H2 v) E else Q (.exit i) E
 |e,E=>Q e E
def lR1 (id:Nat) (H:S->RS) (H2:V->RS) (o:S⊕V) (Q:Exit->St->Prop):Exit->St->Prop
 | .normal,E=>∃s,o= .inl s/\Zq (H s) E
 | .exit i,E=>if i=id then∃v,o= .inr v/\Zq (H2 v) E else Q (.exit i) E
 |e,E=>Q e E
variable {X:RS} {H:V->RS} {H2:V->RS}
theorem Aq {c:Code} (h:Zq X E) (hw:Wp P N c X.st Q):Wp P N c E Q:=Wp.norm _ _ _ (by rw[List.all_map];exact h.1) h.2 hw
theorem Tj {c:Code} {x:Option V} (h:x.bind k=some r) (H:V->RS) (h1:∀a,x=some a->Wp P N c E (jR H (some a) Q)) (h2:∀a,k a=some r->∀E',Zq (H a) E'->Q .normal E'):Wp P N c E Q:=by
 obtain⟨a,ha,h⟩:=Ah.1 h
 refine Wp.mono (h1 a ha) λe E' hq=>?_
 cases e<;>try exact hq
 obtain⟨a',h3,h4⟩:=hq
 grind
theorem fj2 {c:Code} {k:V⊕W->Option β} {x:Option (V⊕W)} (h:x.bind k=some r) (H:V->RS) (h1:∀a,x=some a->k a=some r->Wp P N c E (jR H a.getLeft? Q)) (h2:∀a,k (.inl a)=some r->∀E',Zq (H a) E'->Q .normal E'):Wp P N c E Q:=by
 obtain⟨a,ha,h⟩:=Ah.1 h
 refine Wp.mono (h1 a ha h) λe E' hq=>?_
 cases e<;>try exact hq
 obtain⟨a',h3,h4⟩:=hq
 grind
theorem S7 {H:S->RS} {Q':Exit->St->Prop} {c:Code} {body:S->Option (S⊕A)} {a:A} (hb:∀s o,body s=some o->(∀a',o= .inr a'->a'=a)->Wp P N c (H s).st (λe E=>match e with| .normal=>∃s,o= .inl s/\Zq (H s) E|e=>Q' e E)):
  ∀{n:Nat} {s:S} {E:St},Zq (H s) E->QR body n s=some a->nV P N c Q' n E
 |0,s,E,_,h=>by cases h
 |n+1,s,E,hn,h=>by
  simp only[QR]at h;refine Aq hn ?_;split at h
  ·cases h
  ·rename_i s' hs
   refine Wp.mono (hb s _ hs (λa' h=>by cases h)) λe E' hq=>?_
   cases e<;>try exact hq
   obtain⟨s2,h2,h3⟩:=hq
   injection h2 with h2
   subst h2;exact S7 hb h3 h
  rename_i a' hs
  refine Wp.mono (hb s _ hs λa2 h2=>by grind) λe E' hq=>?_
  cases e<;>try exact hq
  grind
theorem AFS {id:Nat} {c:Code} {k:V⊕W->Option β} {H:S->RS} {body:S->Option (S⊕V⊕W)} (h:(Al body s0).bind k=some r) (h0:Zq (H s0) E) (hb:∀s o,body s=some o->(∀w,o= .inr (.inr w)->k (.inr w)=some r)->Wp P N c (H s).st (lR id H H2 o Q)) (h2:∀v,k (.inl v)=some r->∀E',Zq (H2 v) E'->Q .normal E'):Wp P N (.block id (.loop c)) E Q:=by
 obtain⟨a,ha,h⟩:=Ah.1 h;obtain⟨n,hn⟩:=HP.1 ha;refine Wp.block<|Wp.loop n<|S7 (H:=H) (a:=a) (λs o hs ho=>?_) h0 hn
 refine Wp.mono (hb s o hs (λw hw=>by rw[ho _ hw];exact h)) λe E' hq=>?_
 simp only[lR]at hq;simp only[XP]
 grind
theorem AFU {id:Nat} {c:Code} {H:S->RS} {body:S->Option (S⊕V)} (h:(Al body s0).bind k=some r) (h0:Zq (H s0) E) (hb:∀s o,body s=some o->Wp P N c (H s).st (lR1 id H H2 o Q)) (h2:∀v,k v=some r->∀E',Zq (H2 v) E'->Q .normal E'):Wp P N (.block id (.loop c)) E Q:=by
 obtain⟨a,ha,h⟩:=Ah.1 h;obtain⟨n,hn⟩:=HP.1 ha;refine Wp.block<|Wp.loop n<|S7 (H:=H) (a:=a) (λs o hs ho=>?_) h0 hn
 refine Wp.mono (hb s o hs) λe E' hq=>?_
 simp only[lR1]at hq;simp only[XP]
 grind
theorem Md {id:Nat} {c:Code} {k:V⊕W->Option β} {body:S->Option (S⊕V⊕W)} (h:(Al body s0).bind k=some r) (H:S->RS) (H2:V->RS) (hb:∀s o,body s=some o->(∀w,o= .inr (.inr w)->k (.inr w)=some r)->Wp P N c (H s).st (lR id H H2 o Q)) (h2:∀v,k (.inl v)=some r->∀E',Zq (H2 v) E'->Q .normal E') (h0:(H s0).in E=true:=by kernel_rfl) (hn:(H s0).nf E=(H s0).st:=by kernel_rfl):Wp P N (.block id<|.loop c) E Q:=AFS h ⟨h0,hn⟩ hb h2
theorem Ee {id:Nat} {c:Code} {body:S->Option (S⊕V)} (h:(Al body s0).bind k=some r) (H:S->RS) (H2:V->RS) (hb:∀s o,body s=some o->Wp P N c (H s).st (lR1 id H H2 o Q)) (h2:∀v,k v=some r->∀E',Zq (H2 v) E'->Q .normal E') (h0:(H s0).in E=true:=by kernel_rfl) (hn:(H s0).nf E=(H s0).st:=by kernel_rfl):Wp P N (.block id<|.loop c) E Q:=AFU h ⟨h0,hn⟩ hb h2
theorem Da {c:Code} {x:Option V} (h:x.bind k=some r) (H:V->RS) (h1:∀a,x=some a->Wp P N c E (jR H (some a) (Kk (λE'=>Wp P N y E' Q) Q))) (h2:∀a,k a=some r->Wp P N y (H a).st Q):Wp P N (.seq c y) E Q:=Wp.seq<|Tj h H h1 λa ha E' hE=>Aq hE<|h2 a ha
theorem yl1 {id:Nat} {c:Code} {body:S->Option (S⊕V)} (h:(Al body s0).bind k=some r) (H:S->RS) (H2:V->RS) (hb:∀s o,body s=some o->Wp P N c (H s).st (lR1 id H H2 o (Kk (λE'=>Wp P N y E' Q) Q))) (h2:∀v,k v=some r->Wp P N y (H2 v).st Q) (h0:(H s0).in E=true:=by kernel_rfl) (hn:(H s0).nf E=(H s0).st:=by kernel_rfl):Wp P N (.seq (.block id<|.loop c) y) E Q:=Wp.seq<|AFU h ⟨h0,hn⟩ hb λv hv E' hE=>Aq hE<|h2 v hv
theorem yl2 {id:Nat} {c:Code} {k:V⊕W->Option β} {body:S->Option (S⊕V⊕W)} (h:(Al body s0).bind k=some r) (H:S->RS) (H2:V->RS) (hb:∀s o,body s=some o->(∀w,o= .inr (.inr w)->k (.inr w)=some r)->Wp P N c (H s).st (lR id H H2 o (Kk (λE'=>Wp P N y E' Q) Q))) (h2:∀v,k (.inl v)=some r->Wp P N y (H2 v).st Q) (h0:(H s0).in E=true:=by kernel_rfl) (hn:(H s0).nf E=(H s0).st:=by kernel_rfl):Wp P N (.seq (.block id<|.loop c) y) E Q:=Wp.seq<|AFS h ⟨h0,hn⟩ hb λv hv E' hE=>Aq hE<|h2 v hv
theorem en {a v:V} (h:some v=some a) (hb:(H v).in E=true:=by kernel_rfl) (hn:(H v).nf E=(H v).st:=by kernel_rfl):∃a',some a=some a'/\Zq (H a') E:=by
 injection h with h
 subst h;exact⟨_,rfl,hb,hn⟩
theorem em {a:V⊕W} {v:V} (h:some (.inl v)=some a) (hb:(H v).in E=true:=by kernel_rfl) (hn:(H v).nf E=(H v).st:=by kernel_rfl):∃a',a.getLeft? =some a'/\Zq (H a') E:=by
 injection h with h
 subst h;exact⟨_,rfl,hb,hn⟩
theorem el {H:S->RS} {s:S} {o:S⊕W} (h:some (.inl s)=some o) (hb:(H s).in E=true:=by kernel_rfl) (hn:(H s).nf E=(H s).st:=by kernel_rfl):∃s,o= .inl s/\Zq (H s) E:=by
 injection h with h
 subst h;exact⟨_,rfl,hb,hn⟩
theorem ex {o:S⊕(V⊕W)} {v:V} (h:some (.inr (.inl v))=some o) (hb:(H v).in E=true:=by kernel_rfl) (hn:(H v).nf E=(H v).st:=by kernel_rfl):∃v,o= .inr (.inl v)/\Zq (H v) E:=by
 injection h with h
 subst h;exact⟨_,rfl,hb,hn⟩
theorem ev {o:S⊕V} {v:V} (h:some (.inr v)=some o) (hb:(H v).in E=true:=by kernel_rfl) (hn:(H v).nf E=(H v).st:=by kernel_rfl):∃v,o= .inr v/\Zq (H v) E:=by
 injection h with h
 subst h;exact⟨_,rfl,hb,hn⟩
def AEU (P:Program) (N:Nat) (ops:Array Oper) (ts mv dn:List Nat) (E:St) (X:RS):Bool:=match zN P N ops ts mv (ops.size+1) dn E with
 |some L=>L.all λE'=>X.in E'
 |none=>false
theorem ADh {ts:List Nat} {mv:List Nat} (hb:AEU P N ops ts mv dn E X=true) (hn:(ABy P N ops ts mv dn E).map X.nf=(ABy P N ops ts mv dn E).map λ_=>X.st) (hq:∀E',Zq X E'->Q .normal E'):KW P N ops ts dn E Q:=by
 unfold AEU at hb;split at hb
 ·rename_i L hL
  refine vR hL λE' hE=>hq E' ⟨XV.1 hb E' hE,?_⟩
  rw[ABy,hL,Bc]at hn;have:∀(L:List St),L.map X.nf=L.map (λ_=>X.st)->∀E'∈L,X.nf E'=X.st:=by simp
  exact this L hn E' hE
 cases hb
section
variable {ts:List Nat}
theorem Sh {Q0:Exit->St->Prop} {a v:V} (mv:List Nat) (h:some v=some a) (hb:AEU P N ops ts mv dn E (H v)=true:=by kernel_rfl) (hn:(ABy P N ops ts mv dn E).map (H v).nf=(ABy P N ops ts mv dn E).map (λ_=>(H v).st):=by kernel_rfl):KW P N ops ts dn E (jR H (some a) Q0):=
 ADh hb hn λE' hE=>by
  injection h with h
  subst h;exact⟨_,rfl,hE⟩
end
theorem rk (k:Nat) (h:RW P N ops (i+k) (PZ P N ops k 0 i E) Q) (hk:(Se P N ops k 0 i E).isSome=true:=by kernel_rfl):RW P N ops i E Q:=AAv k 0 h hk
theorem rkm (k m:Nat) (h:RW P N ops (i+k) (PZ P N ops k m i E) Q) (hk:(Se P N ops k m i E).isSome=true:=by kernel_rfl):RW P N ops i E Q:=AAv k m h hk
theorem AC9 (a b:Nat):Nat.ble a (b+(a-b))=true:=by rw[Q5];omega
theorem gm (m:Nat) (h:Q .normal (PZ P N ops (ops.size-i) m i E)) (hk:(Se P N ops (ops.size-i) m i E).isSome=true:=by kernel_rfl):RW P N ops i E Q:=AAv (ops.size-i) m (RW.nil h<|AC9 _ _) hk
theorem g0 (h:Q .normal (PZ P N ops (ops.size-i) 0 i E)) (hk:(Se P N ops (ops.size-i) 0 i E).isSome=true:=by kernel_rfl):RW P N ops i E Q:=gm 0 h hk
section
variable {id:Nat}
theorem wm (m:Nat) (h:RW P N ops2 0 (PZ P N ops (ops.size-i) m i E) (Kk (λE'=>Wp P N y E' Q) Q)) (hk:(Se P N ops (ops.size-i) m i E).isSome=true:=by kernel_rfl):RW P N ops i E (Kk (λE'=>Wp P N (.seq (.region id ops2 false) y) E' Q) Q):=gm m (ws h) hk
end
section
variable {id:Nat}
theorem w0 (h:RW P N ops2 0 (PZ P N ops (ops.size-i) 0 i E) (Kk (λE'=>Wp P N y E' Q) Q)) (hk:(Se P N ops (ops.size-i) 0 i E).isSome=true:=by kernel_rfl):RW P N ops i E (Kk (λE'=>Wp P N (.seq (.region id ops2 false) y) E' Q) Q):=wm 0 h hk
end
section
variable {id:Nat}
theorem wg (h:Kk (λE'=>Wp P N y E' Q) Q .normal (PZ P N ops (ops.size-0) 0 0 E)) (hk:(Se P N ops (ops.size-0) 0 0 E).isSome=true:=by kernel_rfl):Wp P N (.seq (.region id ops false) y) E Q:=ws<|g0 h hk
end
section
variable {x:Code}
theorem qs (h:Wp P N x E (Kk (λE'=>Wp P N y E' Q) Q)):Wp P N (.seq x y) E Q:=Wp.seq h
end
theorem qk (h:Q .normal E):Wp P N .skip E Q:=Wp.skip h
theorem qt (h:Q .ret E):Wp P N .ret E Q:=Wp.ret h
theorem qx {id:Nat} (h:Q (.exit id) E):Wp P N (.exit id) E Q:=Wp.exit h
theorem qb {id:Nat} {c:Code} (h:Wp P N c E (XP id Q)):Wp P N (.block id c) E Q:=Wp.block h
theorem qr {id:Nat} (h:RW P N ops 0 E Q):Wp P N (.region id ops false) E Q:=AEB h
section
variable {id:Nat} {c:Code}
theorem qd {Q1:Exit->St->Prop} (h:Wp P N c E (XP id (Kk (λE'=>Wp P N y E' Q1) Q1))):Wp P N .skip E (Kk (λE'=>Wp P N (.seq (.block id c) y) E' Q1) Q1):=qk<|qs<|qb h
end
section
variable {id:Nat}
theorem qw {z:Code} (h:Kk (λE'=>Wp P N y E' (Kk (λE'=>Wp P N z E' Q) Q)) (Kk (λE'=>Wp P N z E' Q) Q) .normal (PZ P N ops (ops.size-0) 0 0 E)) (hk:(Se P N ops (ops.size-0) 0 0 E).isSome=true:=by kernel_rfl):Wp P N (.seq (.seq (.region id ops false) y) z) E Q:=qs<|wg h hk
end
section
variable {id:Nat}
theorem qv {z:Code} (h:RW P N ops 0 E (Kk (λE'=>Wp P N y E' (Kk (λE'=>Wp P N z E' Q) Q)) (Kk (λE'=>Wp P N z E' Q) Q))):Wp P N (.seq (.seq (.region id ops false) y) z) E Q:=qs<|ws h
end
theorem wq {id:Nat} (h:Q .ret (PZ P N ops (ops.size-0) 0 0 E)) (hk:(Se P N ops (ops.size-0) 0 0 E).isSome=true:=by kernel_rfl):Wp P N (.seq (.region id ops false) .ret) E Q:=wg (qt h) hk
theorem aq (hp:AU P E (oA ops i)=some s) (h:RW P N ops (i+1) (E.put (oA ops i).dst s) Q) (hk:qok P N ops i E=true:=by kernel_rfl):RW P N ops i E Q:=AFe hp h hk
theorem Cl (k:Nat) (hp:AU P (PZ P N ops k 0 i E) (oA ops (i+k))=some s) (h:RW P N ops (i+k+1) ((PZ P N ops k 0 i E).put (oA ops (i+k)).dst s) Q) (hk:(Se P N ops k 0 i E).isSome=true:=by kernel_rfl) (hq:qok P N ops (i+k) (PZ P N ops k 0 i E)=true:=by kernel_rfl):RW P N ops i E Q:=AAv k 0 (AFe hp h hq) hk
theorem kq {ts:List Nat} (i:Nat) (hp:AU P E (oA ops i)=some s) (h:KW P N ops ts (i::dn) (E.put (oA ops i).dst s) Q) (hk:(qok P N ops i E&&sZ ops ts dn i)=true:=by kernel_rfl):KW P N ops ts dn E Q:=AGN i hp h hk
theorem ac {l:List AV} {x:Option α} (h:x.bind kk=some r) {enc:α->SV} (a:∀v,x=some v->A0 P (Qy (oA ops i)) l (enc v) (List.replicate n .gone)) (hk:∀v,kk v=some r->RW P N ops (i+1) ((clE P E (oA ops i) 0).put (oA ops i).dst (enc v)) Q) (b:eD P E (oA ops i) 0=some l:=by kernel_rfl) (hc:shB P E (oA ops i) 0=true\/∀v,AI (enc v)=false:=by exact .inl<|by kernel_rfl) (ho:(Sf P ops E i&&Uv P N (oA ops i))=true:=by kernel_rfl):RW P N ops i E Q:=RW.c 0 h a (λv _=>hk v) b hc ho
theorem Bb {l:List AV} {x:Option α} (k:Nat) (h:x.bind kk=some r) {enc:α->SV} (a:∀v,x=some v->A0 P (Qy (oA ops (i+k))) l (enc v) (List.replicate n .gone)) (hk:∀v,kk v=some r->RW P N ops (i+k+1) ((clE P (PZ P N ops k 0 i E) (oA ops (i+k)) 0).put (oA ops (i+k)).dst (enc v)) Q) (hr:(Se P N ops k 0 i E).isSome=true:=by kernel_rfl) (b:eD P (PZ P N ops k 0 i E) (oA ops<|i+k) 0=some l:=by kernel_rfl) (hc:shB P (PZ P N ops k 0 i E) (oA ops<|i+k) 0=true\/∀v,AI (enc v)=false:=by exact .inl<|by kernel_rfl) (ho:(Sf P ops (PZ P N ops k 0 i E) (i+k)&&Uv P N (oA ops<|i+k))=true:=by kernel_rfl):RW P N ops i E Q:=AAv k 0 (RW.c 0 h a (λv _=>hk v) b hc ho) hr
theorem acm {l:List AV} {x:Option α} (m:Nat) (h:x.bind kk=some r) {enc:α->SV} (a:∀v,x=some v->A0 P (Qy (oA ops i)) l (enc v) (List.replicate n .gone)) (hk:∀v,kk v=some r->RW P N ops (i+1) ((clE P E (oA ops i) m).put (oA ops i).dst (enc v)) Q) (b:eD P E (oA ops i) m=some l:=by kernel_rfl) (hc:shB P E (oA ops i) m=true\/∀v,AI (enc v)=false:=by exact .inl<|by kernel_rfl) (ho:(Sf P ops E i&&Uv P N (oA ops i))=true:=by kernel_rfl):RW P N ops i E Q:=RW.c m h a (λv _=>hk v) b hc ho
section
variable {ts:List Nat}
theorem DP {l:List AV} {x:Option α} (m:Nat) (h:x.bind kk=some r) {enc:α->SV} (a:∀v,x=some v->A0 P (Qy (oA ops i)) l (enc v) (List.replicate n .gone)) (hk:∀v,kk v=some r->KW P N ops ts (i::dn) ((clE P E (oA ops i) m).put (oA ops i).dst (enc v)) Q) (b:eD P E (oA ops i) m=some l:=by kernel_rfl) (hc:shB P E (oA ops i) m=true\/∀v,AI (enc v)=false:=by exact .inl<|by kernel_rfl) (ho:(Sf P ops E i&&Uv P N (oA ops i)&&((bits m<|GF<|oA ops i).all (λx=>!x.1)||ts.contains i))=true:=by kernel_rfl):KB P N ops ts dn i E Q:=KB.c m h a (λv _=>hk v) b hc ho
end
theorem Sd {l:List AV} {x:Option α} (h:x.bind kk=some r) {enc:α->SV} {a:List TV} (c:∀v,x=some v->A0 P (Qy (oA ops i)) (.ext a::l) (enc v) (.ext (fin v)::List.replicate n .gone)) (hk:∀v,kk v=some r->RW P N ops (i+1) (((E.setRoot (rH E (oA ops i)) (fin v)).bump (rH E (oA ops i))).put (oA ops i).dst (enc v)) Q) (b:∀v,(fin v).length=a.length:=by exact λ_=>rfl) (d:AAk P E (oA ops i)=some l:=by kernel_rfl) (hb:E.boxes (rH E<|oA ops i)=some a:=by kernel_rfl) (hc:cxB P E (oA ops i)=true\/∀v,AI (enc v)=false/\Aw (fin v)=false:=by exact .inl<|by kernel_rfl) (ho:(Sf P ops E i&&Uv P N (oA ops i)&&AAj E (oA ops i))=true:=by kernel_rfl):RW P N ops i E Q:=AF6 h c b (λv _=>hk v) d hb hc ho
theorem kcx {ts:List Nat} {l:List AV} {x:Option α} (h:x.bind kk=some r) {enc:α->SV} {a:List TV} (c:∀v,x=some v->A0 P (Qy (oA ops i)) (.ext a::l) (enc v) (.ext (fin v)::List.replicate n .gone)) (hk:∀v,kk v=some r->KW P N ops ts (i::dn) (((E.setRoot (rH E (oA ops i)) (fin v)).bump (rH E (oA ops i))).put (oA ops i).dst (enc v)) Q) (b:∀v,(fin v).length=a.length:=by exact λ_=>rfl) (d:AAk P E (oA ops i)=some l:=by kernel_rfl) (hb:E.boxes (rH E<|oA ops i)=some a:=by kernel_rfl) (hc:cxB P E (oA ops i)=true\/∀v,AI (enc v)=false/\Aw (fin v)=false:=by exact .inl<|by kernel_rfl) (ho:(Sf P ops E i&&Uv P N (oA ops i)&&AAj E (oA ops i)&&ts.contains i)=true:=by kernel_rfl):KB P N ops ts dn i E Q:=AGa h c b (λv _=>hk v) d hb hc ho
theorem BL {b:Bool} (k t:Nat) (h:(bif b then tx else ty)=some r) (ht:tx=some r->RW P N ops (i+k) ((PZ P N ops k 0 i E).rs t true) Q) (hf:ty=some r->RW P N ops (i+k) ((PZ P N ops k 0 i E).rs t false) Q) (hr:(Se P N ops k 0 i E).isSome=true:=by kernel_rfl) (hc:(PZ P N ops k 0 i E).slots t=B b:=by kernel_rfl):RW P N ops i E Q:=AAv k 0 (AF3 t h ht hf hc) hr
def dK (fn:Func):Code:=fn.body.getD .skip
theorem XO (h:fn.body.isSome=true):fn.body=some (dK fn):=by
 unfold dK
 cases e:fn.body with
 |none=>rw[e]at h;cases h
 |some c=>rfl
theorem gf {a:SV} (hf:P.funcs[f]?=some fn) (hN:fn.ntmps=N) (h:Wp P N (dK fn) (D3 as) λe E=>(e= .normal\/e= .ret)/\∃ss E',Eb P E fn.results.toList=some (ss,E')/\EG ss=a) (hb:fn.body.isSome=true:=by kernel_rfl):A0 P f as a (List.replicate as.length .gone):=gk hf (XO hb) hN h
theorem gfa {A':Si} (hf:P.funcs[f]?=some fn) (hN:fn.ntmps=N) (hB:∀l l',(Am l).B=(Am l').B/\(Am l).pin=none) (h:Wp P N (dK fn) (D3 as (Am xl)) λe E=>(e= .normal\/e= .ret)/\E.amb=A') (hb:fn.body.isSome=true:=by kernel_rfl) (hr:fn.results= #[]:=by rfl):Nv P f (Am xl) as A':=AAe hf (XO hb) hr (hB xl xl).2 (by rw[hN];exact h)
theorem yK {a cells':List TV} {b:SV} (hf:P.funcs[f]?=some fn) (hN:fn.ntmps=N) (h:Wp P N (dK fn) (D3 (.ext a::as)) λe E=>(e= .normal\/e= .ret)/\∃ss E',Eb P E fn.results.toList=some (ss,E')/\EG ss=b/\E'.boxes (.ext 0)=some cells') (hb:fn.body.isSome=true:=by kernel_rfl) (c:cells'.isEmpty=false:=by rfl):A0 P f (.ext a::as) b (.ext cells'::List.replicate as.length .gone):=gkx hf (XO hb) hN h c
theorem AGE (h:Zq X E) {a:List TV} (hc:X.st.boxes (.ext 0)=some a:=by kernel_rfl):(Exit.normal= .normal\/Exit.normal= .ret)/\∃ss E1,Eb P E []=some (ss,E1)/\EG ss= .tup []/\E1.boxes (.ext 0)=some a:=by
 refine⟨.inl rfl,[],E,rfl,rfl,?_⟩;obtain⟨h1,h2⟩:=h;rw[<-h2]at hc;unfold RS.nf at hc;by_cases hm:(X.b.map Prod.fst).contains (.ext 0)=true
 ·have e:(Nr E (X.s.map Prod.fst)<|X.b.map Prod.fst).boxes (.ext 0)=some ((E.boxes<|.ext 0).getD []):=by
   show((X.b.map Prod.fst).map λr=>(r,(E.boxes r).getD [])).lookup (.ext 0)=_;rw[NB (f:=λr=>(E.boxes r).getD []),AH hm]
  rw[e]at hc;unfold RS.in at h1
  cases he:E.boxes (.ext 0)with
  |none=>grind
  |some v=>grind
 have e:(Nr E (X.s.map Prod.fst)<|X.b.map Prod.fst).boxes (.ext 0)=none:=by
  show((X.b.map Prod.fst).map λr=>(r,(E.boxes r).getD [])).lookup (.ext 0)=_
  grind
 grind
theorem ADo {Am:α->Si} {v r:α} (h:some v=some r) (hE:Zq X E) (hX:X.st.amb=Am v:=by kernel_rfl):(Exit.normal= .normal\/Exit.normal= .ret)/\E.amb=Am r:=by
 injection h with h
 rw[<-h,<-hX,<-hE.2];exact⟨.inl rfl,rfl⟩
section
variable {w0:Base} {a:Act}
theorem CD.storeKeep {r:Root} {t:TypeId} (h:CD w0 FA UA N w a E blk FS US) {ad:Addr} {cs l xs:List TV} {v:Value} (hr:E.root r=some cs) (hc:BB cs q=some l) (ho:Lv cs q=true) (p:pa w a blk r q j=some ad) (hx:BJ w xs v.cells.toList (FS .hand) (US .hand)) (s:0<xs.length) (u:j+xs.length<=l.length) (ht:xs.length=P.cellsOf t) (hm:r.mem=true) (hq:q≠ []) (d:(storeVar t ad v).run P w= .ok () w'):w'.heap[blk r]?=w.heap[blk r]? :=by
 have z:r≠ .hand:=by rintro rfl;cases hm
 have h5:=Dh hx;have a4:v.cells.size=xs.length:=by simpa using h5
 have x:=Wv hx;have i:=h.nodup r
 cases q with
 |nil=>exact absurd rfl hq
 |cons c q=>
  have m:∃o e sz cells,cs[c]?=some (TV.sl o e sz cells)/\BB cells q=some l/\(o&&Lv cells q)=true:=by
   simp only[BB]at hc;split at hc
   ·rename_i o e sz cells k;simp only[Lv,k]at ho;exact⟨o,e,sz,cells,k,hc,ho⟩
   cases hc
  obtain⟨o,e,sz,cells,k,h6,h7⟩:=m;have f:E.boxes r=some cs:=by cases r<;>simp_all [St.root,Root.mem]
  rcases h.box r hm with⟨h1,_⟩|⟨cs',cur0,T0,F,h1,h2,h3,h4⟩
  ·rw[h1]at f;cases f
  rw[h1]at f
  injection f with f
  subst f;obtain⟨hv,A,B,C,D,F1,U1,k1,k2,rfl,kU,k3⟩:=HD c h3 k;have h8:B6 w a blk r c=some hv:=by
   have:B6 w a blk r c=w.cell? ((⟨blk r,0,none⟩:Addr).add c):=by cases r<;>simp_all [B6,Root.mem]
   rw[this];unfold World.cell?;rw[F7];simp only[h2];have k1':cur0[c]?=some hv:=by simpa using k1
   unfold Addr.add;split
   ·rename_i h0;subst h0;simpa using k1'
   simpa using k1'
  rw[h4,CT]at i;have y:F1.Nodup:=(NV i.2).1
  have n:∀b∈F1,b∈FS r:=λb hb=>by rw[h4];simp[hb]
  have h9:∀b∈U1,b∈US r:=λb hb=>by rw[kU];simp[hb]
  simp only[pa,h8,Aa]at p;obtain⟨ad0,a0,rfl⟩:=AP.1 p;obtain⟨g,T,a5,X,Fm,Y,Xu,Um,Yu,a1,hg,a6,rfl,rfl,a2,_⟩:=ZR k2 h7 h6 a0 hx s u y (λb hb e=>h.dis r .hand z b (n b e) hb) λb hb e=>hb.elim (λhb=>h.disU r r b (n b e)<|h9 b hb) λhb=>h.disU r .hand b (n b e) hb;have a3:g≠blk r:=by
   rintro rfl;exact i.1<|by simp[a2]
  rw[a1,Wr hg (by omega) (by omega) (by omega) x]at d
  injection d with _ d
  rw[<-d];exact setRow_other w g _ _<|JI a3
end
section
variable {a:Act}
theorem AET {r:Root} (hm:r.mem=true) (hh:w'.heap[blk r]?=w.heap[blk r]?) (c k:Nat) {ad:Addr} (h:pa w a blk r [c] k=some ad):pa w' a blk r [c] k=some ad:=by
 have:B6 w' a blk r c=B6 w a blk r c:=by
  cases r with
  |slot n=>cases hm
  |hand=>cases hm
  |box n=>exact Tp (by rw[F7];exact hh)
  |ext n=>exact Tp (by rw[F7];exact hh)
 have hb:∀v,Nl w' v []=Nl w v []:=λv=>by
  unfold Nl;split<;>rfl
 simp only[pa,this,hb]at h⊢;exact h
end
theorem ACm {cs a xs:List TV} {j c k:Nat} (hq:q≠ []) (hc:BB cs q=some a) (f:j+xs.length<=a.length) (h:((BB cs [c]).bind λa=>a[k]?).isSome=true):((BB (Dt cs q λa=>setRow a j xs) [c]).bind λa=>a[k]?).isSome=true:=by
 cases q with
 |nil=>exact absurd rfl hq
 |cons c' q=>
  simp only[BB]at hc;split at hc
  ·rename_i o e sz b d;simp only[Dt,d,BB]at h⊢;rw[Gj];by_cases he:c'=c
   ·subst he;rw[d]at h;have g:=(Ae.1 d).1;rw[AH rfl,AH g];have hl:(Dt b q λa=>setRow a j xs).length=b.length:=by
     cases q with
     |nil=>
      simp only[BB,Av]at hc;subst hc;exact E4 f
     |cons c q=>
      simp only[Dt];split<;>simp
    obtain⟨x,hx⟩:=Ig.1 h;have:=(Ae.1 hx).1;exact Ig.2 ⟨_,Ab (by rw[hl];exact this)⟩
   rw[AO he];exact h
  cases hc
theorem ABp {a:Act} (h:n<a.tmps.size):a.put (some n) (a.eval (.tmp n))=a:=by
 unfold Act.put Act.eval;simp only;congr 1;rw[Dz,Array.getElem?_eq_getElem h,Bc];apply Array.ext
 ·simp
 intro i h1 h2;by_cases e:n=i
 ·subst e;simp
 rw[Array.getElem_setIfInBounds_ne h2 e]
def reP (E:St) (n:Nat) (r:Root) (c k:Nat):St:=E.put (some n)<|.one<|.ptr r (E.ver r) [c] k
def AFD (P:Program) (N:Nat) (E:St) (o:Oper) (n:Nat) (r:Root) (c k:Nat):Prop:=AB0 o=true/\PB P E o=some (tB P E o,E)/\(∃q j,E.ptr? (M8 o).2.1=some (r,q,j)/\q≠ [])/\r.mem=true/\E.ptr? (.tmp n)=some (r,[c],k)/\n<N
section
variable {w0:Base} {a:Act}
theorem CD.storeP {r:Root} (h:CD w0 FA UA N w a E blk FS US) (hF:FS .hand=[]) (hU:US .hand=[]) {o:Oper} {n c k:Nat} (he:Ct P N false E o=some E') (hk:AFD P N E o n r c k):Ex P w0 FA UA N w a o (reP E' n r c k):=by
 obtain⟨c1,c2,⟨q,j,c3,c4⟩,c5,c6,c7⟩:=hk;obtain⟨ho,hd⟩:=yC c1;have he:Qw P E (M8 o).1 (M8 o).2.1 (M8 o).2.2=some E':=by
  rw[<-he];unfold Ct;rw[hd,ho]
 have c2':PB P E o=some (tB P E o,E):=c2;unfold PB at c2';generalize tB P E o=xs at c2';generalize M8 o=z at*;obtain⟨t,ad,x⟩:=z;unfold Qw at he;split at c2'
 ·rename_i s hs;rw[hs]at he;simp only[c2',c3]at he;split at he
  ·rename_i cs hr;split at he
   ·rename_i u hc;split at he
    ·rename_i l;obtain⟨e,f,g,b⟩:=l;obtain⟨U,h1,h2⟩:=JQ h hs;obtain⟨FS1,US1,F1,U1,h3,h4,h5,h6,_,_⟩:=JX h h1 h2 c2';rw[hF,A3]at h5;rw[hU,A3]at h6;subst h5 h6;obtain⟨_,adr,h7,h8⟩:=Jc h4 c3;rw[AO λhh=>c4 (by cases q<;>simp_all)]at he
     injection he with he
     obtain⟨w',FS',US',h9,h10,h11,h12⟩:=ZS (P:=P) h4 hr hc e h7 h3 g b f<|.inl he.symm;have m:=h4.storeKeep hr hc e h7 h3 g b f c5 c4 h9;obtain⟨p1,ad2,p2,p3⟩:=Jc h4 c6;have hN:=AT c7 h10.len;have p:E'.root r=some (Dt cs q λu=>setRow u j xs):=by
      rw[<-he,Oa,Kn c5]
     have y:(E'.place r [c] k).isSome=true:=by
      unfold St.place at p1⊢;rw[hr]at p1;rw[p];exact ACm c4 hc b p1
     have i:=h10.put (d:=n) (s:= .one (.ptr r (E'.ver r) [c] k)) (v:=a.eval<|.tmp n) (F:=[]) (U:=[]) c7 (by
      simp only[Ik,DH];refine⟨⟨trivial,trivial,?_,λ_=>⟨y,ad2,AET c5 m c k p2,p3⟩⟩,λ_=>?_⟩
      ·exact Ay _
      rw[p3];rfl) Zc.none
     rw[ABp hN]at i;refine⟨.skip,w',undef,blk,_,_,?_,.inr ⟨rfl,rfl⟩,by rw[hd];exact i,by rw[Bj (by simp),h11],by rw[Bj (by simp),h12],λhk=>by simp[kp,ho]at hk⟩;simp[execOp,ho,Instr.storeAt,h8,Instr.sureAddr,h9]
    cases he
   cases he
  cases he
 cases c2'
end
theorem AFl {r:Root} {o:Oper} {rest:List Oper} {n c k:Nat} (hg:By P ops E o=some true) (hs:Ct P N false E o=some E') (hk:AFD P N E o n r c k) (h:GL P N ops rest (reP E' n r c k) Q):GL P N ops (o::rest) E Q:=by
 intro w0 FA UA w a blk FS US hr hF hU;simp only[wpList,Ce hr hg,Ch];exact .inl<|(hr.storeP hF hU hs hk).wp λw' v blk' FS' US' k1 k2 k3 _=>h _ _ _ _ _ _ _ _ k1 k2 k3
theorem AF4 (n c k:Nat) (r:Root) (q:List Nat) (j:Nat) (hs:Ct P N false E (oA ops i)=some E') (h:RW P N ops (i+1) (reP E' n r c k) Q) (hq:E.ptr? (M8 (oA ops i)).2.1=some (r,q,j):=by kernel_rfl) (hn:E.ptr? (.tmp n)=some (r,[c],k):=by kernel_rfl) (hk:(AB0 (oA ops i)&&!q.isEmpty&&r.mem&&Nat.blt n N)=true:=by rfl) (ht:PB P E (oA ops i)=some (tB P E<|oA ops i,E):=by rfl) (ho:Sf P ops E i=true:=by kernel_rfl):RW P N ops i E Q:=by
 obtain⟨h1,h2⟩:=H1 ho;simp only[Ag,CI,B3]at hk;obtain⟨⟨⟨k1,k2⟩,k3⟩,k4⟩:=hk;unfold RW;rw[G4 h1];exact AFl h2 hs ⟨k1,ht,⟨q,j,hq,by rintro rfl;cases k2⟩,k3,hn,k4⟩ h
theorem OM {n:Int} (h1: -9223372036854775808<=n) (h2:n<=9223372036854775807):IntKind.i64.wrap n=n:=by rw[IntKind.wrap_i64];omega
theorem Cy {a b:Int} (h1: -9223372036854775808<=a+b:=by omega) (h2:a+b<=9223372036854775807:=by omega):ad a b=a+b:=OM h1 h2
theorem Co {a b:Int} (h1: -9223372036854775808<=a-b:=by omega) (h2:a-b<=9223372036854775807:=by omega):sb a b=a-b:=OM h1 h2
theorem Qf {a b:Int} (h1: -9223372036854775808<=a*b) (h2:a*b<=9223372036854775807):ml a b=a*b:=OM h1 h2
theorem ad1 (h:i<9223372036854775807:=by omega):ad (i:Int) 1=((i+1:Nat):Int):=by rw[Cy]<;>omega
theorem JZ (a b:ByteArray):seq a b=decide (a=b):=by
 unfold seq;rw[G7,CK,A5];constructor
 ·intro h;rw[ByteArray.toList_eq,ByteArray.toList_eq]at h;cases a;cases b;simp only[ByteArray.mk.injEq];exact AD8 h
 intro h;rw[h]
theorem Au:gi l (i:Int)=l[i]? :=by rfl
theorem DJ {x:α}:si l (i:Int) x=l.set i x:=by simp[si]
theorem I9:decide ((i:Int)<ln l)=decide (i<l.length):=by
 simp[ln]
theorem cF [Decidable p] {a b:α} (h:¬p:=by omega):cond (decide p) a b=b:=by grind
theorem cT [Decidable p] {a b:α} (h:p:=by omega):cond (decide p) a b=a:=by grind
theorem D1 {a b:β}:cond (decide (((l.length:Nat):Int)<ln l)) a b=b:=cF (by rw[ln];omega)
theorem DK {a b:β} (h:i<l.length):cond (decide ((i:Int)<ln l)) a b=a:=cT (by rw[ln];omega)
def RZ (step:σ->Nat->α->σ⊕β) (fin:σ->β):List α->Nat->σ->β
 |[],_,s=>fin s
 |x::l,i,s=>match step s i x with
  | .inl s'=>RZ step fin l (i+1) s'
  | .inr b=>b
theorem iY {body:S->Option (S⊕β)} (a:σ->Int->S) (l:List α) (step:σ->Nat->α->σ⊕β) (fin:σ->β) (c:Nat->σ->Prop) (h1:∀s i x,l[i]?=some x->c i s->body (a s (i:Nat))=some (match step s i x with| .inl s'=> .inl (a s' ((i+1:Nat):Int))| .inr b=> .inr b)/\∀s',step s i x= .inl s'->c (i+1) s') (h2:∀s,c l.length s->body (a s (l.length:Nat))=some (.inr (fin s))):∀(n i:Nat) (s:σ),i+n=l.length->c i s->Al body (a s (i:Nat))=some (RZ step fin (l.drop i) i s)
 |0,i,s,hi,hs=>by
  have:i=l.length:=by omega
  subst this;rw[Ax,h2 s hs,ER<|Ay _];rfl
 |n+1,i,s,hi,hs=>by
  have d:i<l.length:=by omega
  obtain⟨h3,h4⟩:=h1 s i l[i] (Ab d) hs;rw[Ax,h3,AE d,RZ]
  cases e:step s i l[i]with
  |inl s'=>simp only[];exact iY a l step fin c h1 h2 n (i+1) s' (by omega)<|h4 s' e
  |inr b=>rfl
theorem Rf {s:σ} {body:S->Option (S⊕β)} (a:σ->Int->S) (l:List α) (step:σ->Nat->α->σ⊕β) (fin:σ->β) (c:Nat->σ->Prop) (h1:∀s i x,l[i]?=some x->c i s->body (a s (i:Nat))=some (match step s i x with| .inl s'=> .inl (a s' ((i+1:Nat):Int))| .inr b=> .inr b)/\∀s',step s i x= .inl s'->c (i+1) s') (h2:∀s,c l.length s->body (a s (l.length:Nat))=some (.inr (fin s))) (hs:c 0 s):Al body (a s 0)=some (RZ step fin l 0 s):=
 iY a l step fin c h1 h2 l.length 0 s (by omega) hs
def zl (z:α->Nat) (l:List α):Nat:=l.length+(l.map z).sum
theorem j9 {z:α->Nat} {x:α} (h:x∈l):z x+1<=zl z l:=by
 unfold zl
 induction l with
 |nil=>cases h
 |cons y l ih=>grind
theorem Sm {z:α->Nat}:l.length<=zl z l:=by unfold zl;omega
theorem yN {body:Int->Option (Int⊕Unit⊕Bool)} (a:List α) (b:List β) (p:α->β->Bool) (hl:a.length=b.length) (hM:a.length<=9223372036854775807) (h1:∀(i:Nat) x y,a[i]?=some x->b[i]?=some y->body (i:Nat)=some (bif p x y then .inl (((i+1:Nat)):Int)else .inr (.inr false))) (h2:body (a.length:Nat)=some (.inr (.inl ()))):
  Al body 0=some (bif(a.zip b).all (λz=>p z.1 z.2)then .inl ()else .inr false):=by
 have hz:(a.zip b).length=a.length:=by simp[hl]
 have:=Rf (body:=body) (λ(_:Unit) i=>i) (a.zip b) (λ_ _ z=>bif p z.1 z.2 then .inl ()else .inr<|.inr false) (λ_=> .inl ()) (λ_ _=>True)
  (λs i x hx _=>by grind)
  (λs _=>by rw[hz];exact h2) (s:=()) trivial
 rw[this];have c:∀(m:List (α×β)) (i:Nat),RZ (λ(_:Unit) _ z=>bif p z.1 z.2 then .inl ()else .inr<|.inr false) (λ_=>(.inl ():Unit⊕Bool)) m i ()=bif m.all (λz=>p z.1 z.2)then .inl ()else .inr false:=by
  intro m
  induction m with
  |nil=>intro i;rfl
  |cons z m ih=>
   intro i;simp only[RZ,FJ]
   grind
 rw[c]
theorem wA {p:α->α->Bool}:∀{a b:List α},(∀x∈a,∀y∈b,p x y=true↔x=y)->a.length=b.length->((a.zip b).all (λz=>p z.1 z.2)=true↔a=b)
 |[],[],_,_=>by simp
 |x::a,y::b,hp,h=>by
  have ih:=wA (p:=p) (a:=a) (b:=b) (λx' hx y' hy=>hp x' (Lz _ hx) y'<|Lz _ hy) (by simpa using h);simp only[List.zip_cons_cons,FJ,Ag,ih,hp x DF y DF,List.cons.injEq]
 |[],_::_,_,h=>by simp at h
 |_::_,[],_,h=>by simp at h
theorem W5 {body:S->Option (S⊕β)} (a:σ->Int->S) (n:Nat) (c:Nat->σ->Prop) (Q:β->Prop) (h1:∀s i,i<n->c i s->(∃s',body (a s (i:Nat))=some (.inl (a s' ((i+1:Nat):Int)))/\c (i+1) s')\/∃b,body (a s (i:Nat))=some (.inr b)/\Q b) (h2:∀s,c n s->∃b,body (a s (n:Nat))=some (.inr b)/\Q b):∀(k i:Nat) (s:σ),i+k=n->c i s->∃b,Al body (a s (i:Nat))=some b/\Q b
 |0,i,s,hi,hs=>by
  have:i=n:=by omega
  subst this;obtain⟨b,h3,h4⟩:=h2 s hs;exact⟨b,by rw[Ax,h3],h4⟩
 |k+1,i,s,hi,hs=>by
  rcases h1 s i (by omega) hs with⟨s',h3,h4⟩|⟨b,h3,h4⟩
  ·obtain⟨b,h5,h6⟩:=W5 a n c Q h1 h2 k (i+1) s' (by omega) h4;exact⟨b,by rw[Ax,h3];exact h5,h6⟩
  exact⟨b,by rw[Ax,h3],h4⟩
theorem AJ {s:σ} {body:S->Option (S⊕β)} (a:σ->Int->S) (n:Nat) (c:Nat->σ->Prop) (Q:β->Prop) (h1:∀s i,i<n->c i s->(∃s',body (a s (i:Nat))=some (.inl (a s' ((i+1:Nat):Int)))/\c (i+1) s')\/∃b,body (a s (i:Nat))=some (.inr b)/\Q b) (h2:∀s,c n s->∃b,body (a s (n:Nat))=some (.inr b)/\Q b) (hs:c 0 s):∃b,Al body (a s 0)=some b/\Q b:=
 W5 a n c Q h1 h2 n 0 s (by omega) hs
theorem X2 {body body':S->Option (S⊕β)} (a:σ->Int->S) (n:Nat) (c:Nat->σ->Prop) (Q:β->Prop) (h1:∀s i,i<n->c i s->body' (a s (i:Nat))=body (a s (i:Nat))/\((∃s',body (a s (i:Nat))=some (.inl (a s' ((i+1:Nat):Int)))/\c (i+1) s')\/∃b,body (a s (i:Nat))=some (.inr b)/\Q b)) (h2:∀s,c n s->body' (a s (n:Nat))=body (a s (n:Nat))/\∃b,body (a s (n:Nat))=some (.inr b)/\Q b):∀(k i:Nat) (s:σ),i+k=n->c i s->∃b,Al body (a s (i:Nat))=some b/\Al body' (a s (i:Nat))=some b/\Q b
 |0,i,s,hi,hs=>by
  have:i=n:=by omega
  subst this;obtain⟨e,b,h3,h4⟩:=h2 s hs;exact⟨b,by rw[Ax,h3],by rw[Ax,e,h3],h4⟩
 |k+1,i,s,hi,hs=>by
  obtain⟨e,h⟩:=h1 s i (by omega) hs
  rcases h with⟨s',h3,h4⟩|⟨b,h3,h4⟩
  ·obtain⟨b,h5,h6,h7⟩:=X2 a n c Q h1 h2 k (i+1) s' (by omega) h4;exact⟨b,by rw[Ax,h3];exact h5,by rw[Ax,e,h3];exact h6,h7⟩
  exact⟨b,by rw[Ax,h3],by rw[Ax,e,h3],h4⟩
theorem HF {s:σ} {body body':S->Option (S⊕β)} (a:σ->Int->S) (n:Nat) (c:Nat->σ->Prop) (Q:β->Prop) (h1:∀s i,i<n->c i s->body' (a s (i:Nat))=body (a s (i:Nat))/\((∃s',body (a s (i:Nat))=some (.inl (a s' ((i+1:Nat):Int)))/\c (i+1) s')\/∃b,body (a s (i:Nat))=some (.inr b)/\Q b)) (h2:∀s,c n s->body' (a s (n:Nat))=body (a s (n:Nat))/\∃b,body (a s (n:Nat))=some (.inr b)/\Q b) (hs:c 0 s):∃b,Al body (a s 0)=some b/\Al body' (a s 0)=some b/\Q b:=
 X2 a n c Q h1 h2 n 0 s (by omega) hs
theorem bK {body:Int->Option (Int⊕β)} (l:List α) (p:Nat->α->Bool) (no yes:β) (hM:l.length<=9223372036854775807) (h1:∀(i:Nat) x,l[i]?=some x->body (i:Nat)=some (bif p i x then .inl (((i+1:Nat)):Int)else .inr no)) (h2:body (l.length:Nat)=some (.inr yes)):
  Al body 0=some (bif l.zipIdx.all (λz=>p z.2 z.1)then yes else no):=by
 have:=Rf (body:=body) (λ(_:Unit) i=>i) l (λ_ i x=>bif p i x then .inl ()else .inr no) (λ_=>yes) (λ_ _=>True)
  (λs i x hx _=>by grind)
  (λs _=>h2) (s:=()) trivial
 rw[this];have a:∀(m:List α) (i:Nat),RZ (λ(_:Unit) i x=>bif p i x then .inl ()else .inr no) (λ_=>yes) m i ()=bif(m.zipIdx i).all (λz=>p z.2 z.1)then yes else no:=by
  intro m
  induction m with
  |nil=>intro i;rfl
  |cons z m ih=>
   intro i;simp only[RZ,List.zipIdx_cons,FJ]
   grind
 rw[a]
theorem SK {body:Int×List γ->Option ((Int×List γ)⊕List γ)} (l:List α) (f:α->γ) (h1:∀(i:Nat) x (a:List γ),l[i]?=some x->a.length=i->body ((i:Nat),a)=some (.inl (((i+1:Nat):Int),a++ [f x]))) (h2:∀a,body ((l.length:Nat),a)=some (.inr a)):
  Al body (0,[])=some (l.map f):=by
 have:=Rf (body:=body) (λ(s:List γ) i=>(i,s)) l (λa _ x=>(.inl (a++ [f x]):List γ⊕List γ)) (λa=>a) (λi a=>a.length=i)
  (λs i x hx hi=>by grind)
  (λs _=>h2 s) (s:=[]) rfl
 rw[this];have b:∀(m:List α) (i:Nat) (a:List γ),RZ (λa _ x=>(.inl (a++ [f x]):List γ⊕List γ)) (λa=>a) m i a=a++m.map f:=by
  intro m
  induction m with
  |nil=>intro i a;simp[RZ]
  |cons z m ih=>
   intro i a;simp only[RZ,ih,CL,AG,Fl]
 grind
theorem bJ {body:Int×List γ->Option ((Int×List γ)⊕List γ)} (n:Nat) (f:Nat->γ) (h1:∀(i:Nat) (a:List γ),i<n->a.length=i->body ((i:Nat),a)=some (.inl (((i+1:Nat):Int),a++ [f i]))) (h2:∀a,body ((n:Nat),a)=some (.inr a)):
  Al body (0,[])=some ((List.range n).map f):=
 SK (List.range n) f (λi x a hx ho=>by grind) (λa=>by grind)
theorem bG {z:α} (h:by_*n<=281474976710656) (h2:n<=9223372036854775807):mk by_ z (n:Int)=some (List.replicate n z):=by
 unfold mk
 grind
theorem Bi (h:(l.length+m.length)*by_<=140737488355328):ap by_ l m=some (l++m):=AH h
theorem Ln {i:Int} (h1:0<=i) (h2:i<l.length):gi l i=some (l[i.toNat]'(by omega)):=by
 unfold gi
 grind
theorem Bh:ln l=(l.length:Int):=rfl
end Go.TI
