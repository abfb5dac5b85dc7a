/- What walks of Go code need. No condition. -/
import Derived.Test.YtjjfmdpchohfaaaGreatTRT2
import Derived.Laws.StructEq
import Derived.Laws.Strings
import Derived.Laws.BitsLemmas
set_option linter.unusedSimpArgs false
set_option linter.unusedVariables false
namespace Go.TI
open Go Go.RowKit
variable {E E' E1:St} {P:Program} {N i sz n e j d by_ b t:Nat} {Q:Exit->St->Prop} {β α S V γ σ W S' A β':Type} {ops ops2:Array Oper} {dn FA UA q:List Nat} {w:World} {y:Code} {f sf g:FuncId} {as:List AV} {blk:Root->Nat} {fn:Func} {s:SV} {FS US:Root->List Nat} {T T':TypeId} {row row':List TV} {p:Prop} {t':TV} {K:St->Prop} {rest:List Oper} {r:β} {l:List α} {kk:α->Option β} {s0:S} {body':S'->Option (S'⊕β)} {k:V->Option β} {u:List α} {fin:α->List TV} {Am:List γ->Rv} {m:List α} {l':List γ} {tx:Option β} {ty:Option β} {xl:List γ}
section
variable {x:α}
def EN (o:Oper):TypeId×TypeId×Operand×Operand:=match o.op with
 | .call c=>match c.callee,c.args.toList,c.argTypes.toList with
  | .builtin .append,[s,x],[t,t']=>(t,t',s,x)
  |_,_,_=>(0,0,.tmp 0,.tmp 0)
 |_=>(0,0,.tmp 0,.tmp 0)
end
section
variable {x:α}
def AAf (o:Oper):Bool:=match o.op with
 | .call c=>match c.callee,c.args.toList,c.argTypes.toList with
  | .builtin .append,[s,x],[t,t']=>true
  |_,_,_=>false
 |_=>false
end
theorem jB {o:Oper} (h:AAf o=true):o.op= .call {callee:= .builtin .append,args:= #[(EN o).2.2.1,(EN o).2.2.2],argTypes:= #[(EN o).1,(EN o).2.1]}:=by
 unfold AAf at h;unfold EN;split at h
 ·rename_i c hc;split at h
  ·rename_i s x t t' h1 h2 h3;obtain⟨callee,args,types⟩:=c;simp only at h1 h2 h3;subst h1;obtain rfl:args= #[s,x]:=by grind
   obtain rfl:types= #[t,t']:=by grind
   rw[hc]
  cases h
 cases h
def AB2 (P:Program) (N:Nat) (o:Oper) (sz by_:Nat):Bool:=AAf o&&Nat.beq (EN o).1 (EN o).2.1&&Wl P (EN o).1 sz&&(LP P<|XR P (EN o).1).isSome&&Nat.beq (P.bytesOf<|XR P (EN o).1) by_&&Nat.blt 0 by_&&Gy N o
def TF (P:Program) (E:St) (o:Oper) (sz:Nat):Option (List TV×St):=match E.cell1 P (EN o).1 (EN o).2.2.1 with
 |some sv=>match D5 E sv with
  |some (.sl true e s cells,E1)=>bif Nat.beq e (XR P (EN o).1)&&Nat.beq s sz then some (cells,E1)else none
  |_=>none
 |none=>none
def apE (P:Program) (E:St) (o:Oper) (sz:Nat):St:=((TF P E o sz).map Prod.snd).getD E
def apV (P:Program) (o:Oper) (sz:Nat) (a:List TV):SV:= .one (.sl true (XR P (EN o).1) sz a)
def AAK (P:Program) (E1:St) (o:Oper) (sz:Nat):Option (Nat×List TV×St):=match E1.ref (EN o).2.2.2 with
 |some (r,q,j)=>match E1.place r q j with
  |some (.sl _ _ s cells)=>bif Nat.beq s sz then(match Fw E1 (Vg E1 r (q++ [j]) 0 cells)with
   |some (news,E2)=>some (cells.length,news,E2)
   |none=>none)else none
  |_=>none
 |none=>none
theorem Yt {t e:TypeId} (h:P.underlying t=some (.slice e)):XR P t=e:=by unfold XR;rw[h]
section
variable {o:Oper} {f:α->List TV} {x:α}
theorem AD5 {E2:St} {r:Root} {e2:Nat} {cells2:List TV} (hf:∀x,(f x).length=sz) (l m:List α) (h:ap by_ l m=some u) (hd:TF P E o sz=some (AC f l,E1)) {b:Bool} (hr:E1.ref (EN o).2.2.2=some (r,q,j)) (hp:E1.place r q j=some (.sl b e2 sz cells2)) (hn:Fw E1 (Vg E1 r (q++ [j]) 0 cells2)=some (AC f m,E2)) (hl:cells2.length=m.length*sz) (ho:AB2 P N o sz by_=true):Cu P N false E o=some (E2.put o.dst (apV P o sz (AC f u))):=by
 obtain⟨rfl,i⟩:=AB1 h;simp only[AB2,Ai]at ho;obtain⟨⟨⟨⟨⟨⟨a1,a2⟩,a3⟩,a4⟩,a5⟩,a6⟩,a7⟩:=ho;obtain⟨d,a8,_,a9⟩:=EM a7;obtain⟨e,b1,b2,b3⟩:=LR a3;have a:=Yt b1;rw[a]at a4 a5;have h0':0<sz:=by simp_all
 have hb0':0<by_:=by simp_all
 have hb:=Be a5;have c:=Be a2;unfold TF at hd;rw[a]at hd;split at hd
 ·rename_i sv hs;split at hd
  ·rename_i e1 s g E1' h1
   cases hc:(Nat.beq e1 e&&Nat.beq s sz)with
   |false=>grind
   |true=>
    rw[hc]at hd;simp only[Ae]at hd
    injection hd with hd
    injection hd with hd1 hd2
    rw[Ai]at hc;have c1:=Be hc.1;have c2:=Be hc.2;subst hd1 hd2 c1 c2;have k:(AC f l).length/s=l.length:=by rw[EL hf];simp_all
    have n:cells2.length/s=m.length:=by simp_all
    have p:l.length+m.length<=(l.length+m.length)*by_:=Nat.le_mul_of_pos_right _ hb0';unfold Cu;rw[a8];simp only[AB a9,jB a1,AB c,N8,b1,hs,h1,hr,hp,hn];rw[AB ⟨trivial,b2.symm,trivial,h0',a4,by omega,by grind⟩,Sz,apV,a]
  cases hd
 cases hd
end
theorem Uy {o:Oper} {a:List TV} (h:(TF P E o sz).map Prod.fst=some a):TF P E o sz=some (a,apE P E o sz):=by
 unfold apE
 cases hx:TF P E o sz with
 |none=>grind
 |some z=>grind
section
variable {o:Oper} {f:α->List TV} {x:α}
theorem Cd (hf:∀x,(f x).length=sz) (hg:∀x,Jn (f x)=true) (l:List α) (h:ap by_ l m=some u) (hd:(TF P E o sz).map Prod.fst=some (AC f l):=by kernel_rfl) (hm:eM (apE P E o sz) (EN o).2.2.2 sz=some (AC f m):=by kernel_rfl) (ho:AB2 P N o sz by_=true:=by kernel_rfl):
  Cu P N false E o=some ((apE P E o sz).put o.dst<|apV P o sz<|AC f u):=by
 obtain⟨r,q,j,a,e,h1,h2⟩:=Qj hm;exact AD5 hf l m h (Uy hd) h1 h2 (by rw[YQ _<|Ug hg m,Rl<|Ug hg m]) (EL hf m) ho
end
section
variable {o:Oper} {f:α->List TV} {x:α}
theorem VK (hf:∀x,(f x).length=sz) (l m:List α) (h:ap by_ l m=some u) (hd:(TF P E o sz).map Prod.fst=some (AC f l):=by kernel_rfl) (hm:(AAK P (apE P E o sz) o sz).map (λz=>(z.1,z.2.1))=some (m.length*sz,AC f m):=by kernel_rfl) (ho:AB2 P N o sz by_=true:=by kernel_rfl):
  Cu P N false E o=some ((((AAK P (apE P E o sz) o sz).map λz=>z.2.2).getD E).put o.dst<|apV P o sz<|AC f u):=by
 have hd':=Uy hd;generalize hE:apE P E o sz=E1 at hm hd'⊢;unfold AAK at hm⊢
 cases hr:E1.ref (EN o).2.2.2 with
 |none=>grind
 |some z=>
  obtain⟨r,q,j⟩:=z;simp only[hr]at hm⊢
  cases hp:E1.place r q j with
  |none=>grind
  |some t=>
   simp only[hp]at hm⊢
   cases t with
   |sl own e2 s cells=>
    simp only at hm⊢
    cases hb:Nat.beq s sz with
    |false=>grind
    |true=>
     rw[hb]at hm;simp only[Ae]at hm⊢;have:=Be hb;subst this
     cases hn:Fw E1 (Vg E1 r (q++ [j]) 0 cells)with
     |none=>grind
     |some y=>
      obtain⟨news,E2⟩:=y;simp only[hn,Bw]at hm⊢
      injection hm with hm
      injection hm with hm1 hm2
      subst hm2;exact AD5 hf l m h hd' hr hp hn hm1 ho
   |_=>grind
end
def ACD (P:Program) (N:Nat) (o:Oper):Bool:=AAf o&&Wl P (EN o).1 1&&fK P (EN o).2.1&&!Nat.beq (EN o).1 (EN o).2.1&&ABF P (XR P (EN o).1)&&Gy N o
section
variable {o:Oper} {n:Int}
theorem rL {f:Int->List TV} {b:ByteArray} {u:List Int} (hf:∀n,f n=[.int .u8 n]) (l:List Int) (h:aps l b=some u) (hd:(TF P E o 1).map Prod.fst=some (AC f l):=by kernel_rfl) (hx:WZ P E (EN o).2.1 (EN o).2.2.2=some b:=by kernel_rfl) (ho:ACD P N o=true:=by kernel_rfl):
  Cu P N false E o=some ((apE P E o 1).put o.dst<|apV P o 1<|AC f u):=by
 have hd':=Uy hd;simp only[ACD,Ai,Dv]at ho;obtain⟨⟨⟨⟨⟨a1,a2⟩,a3⟩,a4⟩,a5⟩,a6⟩:=ho;obtain⟨d,a8,_,a9⟩:=EM a6;obtain⟨e,b1,b2,b3⟩:=LR a2;have a:=Yt b1;have c:=V9 a3;have g:=Lg hx;have hne':(EN o).1≠(EN o).2.1:=by grind
 rw[a]at a5;unfold aps at h;split at h
 case isFalse=>cases h
 rename_i hb
 injection h with h
 subst h;have hl:(AC f l).length=l.length:=by rw[EL (sz:=1) (λn=>by rw[hf];rfl),wW]
 generalize hE:apE P E o 1=E1 at hd'⊢;unfold TF at hd';rw[a]at hd';split at hd'
 ·rename_i sv hs;split at hd'
  ·rename_i e1 s i E1' h1
   cases hc:(Nat.beq e1 e&&Nat.beq s 1)with
   |false=>grind
   |true=>
    rw[hc]at hd';simp only[Ae]at hd'
    injection hd' with hd'
    injection hd' with hd1 hd2
    rw[Ai]at hc;have c1:=Be hc.1;have c2:=Be hc.2;subst hd1 hd2 c1 c2;unfold Cu;rw[a8];simp only[AB a9,jB a1,AA hne',QU,b1,c,hs,g,h1];rw[AB ⟨trivial,trivial,a5,by rw[hl];exact hb⟩,WY hf,Sz,apV,a]
  cases hd'
 cases hd'
end
def T7 (o:Oper):TypeId×Operand×Operand:=match o.op with
 | .makeSlice t l c=>(t,l,c)
 |_=>(0,.tmp 0,.tmp 0)
def AC7 (o:Oper):Bool:=match o.op with
 | .makeSlice .. =>true
 |_=>false
theorem ABI {o:Oper} (h:AC7 o=true):o.op= .makeSlice (T7 o).1 (T7 o).2.1 (T7 o).2.2:=by
 unfold AC7 at h;unfold T7
 grind
def ADX (P:Program) (N:Nat) (o:Oper) (sz by_:Nat):Bool:=AC7 o&&Wl P (T7 o).1 sz&&Nat.beq (P.bytesOf<|XR P (T7 o).1) by_&&Gy N o
section
variable {o:Oper} {f:α->List TV} {n:Int} {x:α}
theorem fmk (hf:∀x,(f x).length=sz) (z:α) (h:mk by_ z n=some u) (hl:T8 P E (T7 o).2.1=some n:=by kernel_rfl) (hc:T8 P E (T7 o).2.2=some n:=by kernel_rfl) (hz:LP P (XR P (T7 o).1)=some (f z):=by kernel_rfl) (ho:ADX P N o sz by_=true:=by kernel_rfl):
  Cu P N false E o=some (E.put o.dst<|.one<|.sl true (XR P (T7 o).1) sz<|AC f u):=by
 simp only[ADX,Ai]at ho;obtain⟨⟨⟨a1,a2⟩,a3⟩,a4⟩:=ho;obtain⟨d,a5,a6,_⟩:=EM a4;obtain⟨e,b1,b2,b3⟩:=LR a2;have a:=Yt b1;rw[a]at hz a3⊢;obtain⟨k1,hl⟩:=Ir hl;obtain⟨k2,hc⟩:=Ir hc;rw[a5];exact AEu z h (ABI a1) a5 a6 b1 hl hc hz rfl (Be a3) b2
end
def AC6 (o:Oper):Bool:=match o.op with
 | .convert .. =>true
 |_=>false
theorem ABH {o:Oper} (h:AC6 o=true):o.op= .convert (Rp o).1 (Rp o).2.1 (Rp o).2.2:=by
 unfold AC6 at h;unfold Rp
 grind
def ADK (P:Program) (N:Nat) (o:Oper):Bool:=AC6 o&&fK P (Rp o).1&&Wl P (Rp o).2.1 1&&nK P (XR P (Rp o).2.1)&&Gy N o
section
variable {o:Oper} {n:Int}
theorem fsb {f:Int->List TV} {b:ByteArray} (hf:∀n,f n=[.int .u8 n]) (hx:WZ P E (Rp o).1 (Rp o).2.2=some b) (ho:ADK P N o=true:=by kernel_rfl):Cu P N false E o=some (E.put o.dst<|.one<|.sl false (XR P (Rp o).2.1) 1<|AC f<|pZ b):=by
 simp only[ADK,Ai]at ho;obtain⟨⟨⟨⟨a1,a2⟩,a3⟩,a4⟩,a5⟩:=ho;obtain⟨d,a6,a7,_⟩:=EM a5;obtain⟨e,b1,b2,b3⟩:=LR a3;have a:=Yt b1;rw[a]at a4⊢;rw[a6];exact AEt hf (ABH a1) a6 a7 (V9 a2) b1 (Lg hx) a4
end
section
variable {x:α}
def R8 (o:Oper):TypeId×Operand×Operand:=match o.op with
 | .store t a x=>(t,a,x)
 |_=>(0,.tmp 0,.tmp 0)
end
def AC5 (o:Oper):Bool:=match o.op with
 | .store .. =>o.dst.isNone
 |_=>false
theorem ABG {o:Oper} (h:AC5 o=true):o.op= .store (R8 o).1 (R8 o).2.1 (R8 o).2.2/\o.dst=none:=by
 unfold AC5 at h;unfold R8;split at h
 ·simp_all
 cases h
def Wj (P:Program) (E:St) (o:Oper):Option (List TV×St):=match E.val P (R8 o).1 (R8 o).2.2 with
 |some s=>MI E s
 |none=>none
def yB (P:Program) (E:St) (o:Oper):List TV:=((Wj P E o).map Prod.fst).getD []
def pV (P:Program) (E:St) (o:Oper):St:=((Wj P E o).map Prod.snd).getD E
def stP (P:Program) (E:St) (o:Oper):Root×List Nat×Nat:=H0 (pV P E o) (R8 o).2.1
def uW (P:Program) (E:St) (o:Oper) (k sz:Nat):Bool:=AC5 o&&(Wj P E o).isSome&&Nat.beq (yB P E o).length (P.cellsOf (R8 o).1)&&Nat.blt 0 (yB P E o).length&&Nat.ble (k+(yB P E o).length) sz
section
variable {o:Oper} {f:α->List TV} {n:Int} {x:α}
theorem AD1 {r:Root} (hf:∀x,(f x).length=sz) (hx:gi l n=some x) (k:Nat) {c:Nat} {cs cs':List TV} (ho:uW P E o k sz=true) (hp:(pV P E o).ptr? (R8 o).2.1=some (r,c::q,n.toNat*sz+k)) (hr:(pV P E o).root r=some cs) (A:At cs (c::q) (AC f l) (λa=>setRow a (n.toNat*sz+k) (yB P E o)) cs'):Cu P N false E o=some (((pV P E o).setRoot r cs').bump r):=by
 simp only[uW,Ai]at ho;obtain⟨⟨⟨⟨a1,a2⟩,a3⟩,a4⟩,a5⟩:=ho;obtain⟨b1,b2⟩:=ABG a1;have ht:Wj P E o=some (yB P E o,pV P E o):=by
  unfold yB pV
  cases hh:Wj P E o with
  |none=>grind
  |some z=>rfl
 generalize hX:yB P E o=xs at*;generalize hE:pV P E o=E1 at*;unfold Wj at ht;split at ht
 ·rename_i s hs;have h0':0<xs.length:=by simp_all
  simp only[Cu,b2,b1,VM,hs,ht,hp,hr,A.c];rw[AB ⟨A.o,Be a3,h0',ADc hf hx a5⟩,AA (by simp),A.u]
 cases ht
end
section
variable {o:Oper}
def ABj (E:St) (r:Root) (c:Nat) (a:List TV):List TV:=match E.root r with
 |some cs=>match cs[c]? with
  |some (.sl o e s _)=>cs.set c<|.sl o e s a
  |_=>cs
 |none=>[]
end
def RX (E:St) (r:Root) (c:Nat):Option (List TV):=match E.root r with
 |some cs=>match cs[c]? with
  |some (.sl true e s row)=>some row
  |_=>none
 |none=>none
theorem RV {r:Root} {c:Nat} {a:List TV} (h:RX E r c=some a):∃cs e s,E.root r=some cs/\cs[c]?=some (.sl true e s a)/\∀row',ABj E r c row'=cs.set c (.sl true e s row'):=by
 unfold RX at h;unfold ABj
 grind
section
variable {o:Oper} {f:α->List TV} {n:Int} {x:α}
theorem Kg (hf:∀x,(f x).length=sz) (hx:gi l n=some x) (k c:Nat) (z:α) (ho:uW P E o k sz=true:=by kernel_rfl) (hp:(pV P E o).ptr? (R8 o).2.1=some ((stP P E o).1,[c],n.toNat*sz+k):=by kernel_rfl) (hr:RX (pV P E o) (stP P E o).1 c=some (AC f l):=by kernel_rfl) (hz:setRow (f x) k (yB P E o)=f z:=by kernel_rfl):Cu P N false E o=some (((pV P E o).setRoot (stP P E o).1<|ABj (pV P E o) (stP P E o).1 c<|AC f<|si l n z).bump (stP P E o).1):=by
 obtain⟨cs,e,s,h1,h2,h3⟩:=RV hr;refine AD1 hf hx k ho hp h1 ?_;rw[h3];have hk:Nat.ble (k+(yB P E o).length) sz=true:=by
  simp only[uW,Ai]at ho;exact ho.2
 exact At.one (Wm hf hx hk hz) h2 rfl
end
section
variable {o:Oper} {f:α->List TV} {n:Int} {x:α}
theorem AD0 {α':Type} {f':α'->List TV} {sz':Nat} {l':List α'} {n':Int} {x':α'} {s:Nat} (hf:∀x,(f x).length=sz) (hx:gi l n=some x) (k c:Nat) (z:α) (hf':∀x,(f' x).length=sz') (hx':gi l' n'=some x') (k':Nat) (z':α') (ho:(uW P E o k sz&&Nat.blt k' sz')=true:=by kernel_rfl) (hp:(pV P E o).ptr? (R8 o).2.1=some ((stP P E o).1,[c,n'.toNat*sz'+k'],n.toNat*sz+k):=by kernel_rfl) (hr:RX (pV P E o) (stP P E o).1 c=some (AC f' l'):=by kernel_rfl) (hz:setRow (f x) k (yB P E o)=f z:=by kernel_rfl) (hc:(f' x')[k']?=some (.sl true e s<|AC f l):=by rfl) (hc':(f' x').set k' (.sl true e s<|AC f<|si l n z)=f' z':=by rfl):Cu P N false E o=some (((pV P E o).setRoot (stP P E o).1<|ABj (pV P E o) (stP P E o).1 c<|AC f'<|si l' n' z').bump (stP P E o).1):=by
 obtain⟨cs,e1,s1,h1,h2,h3⟩:=RV hr;rw[Ai]at ho;refine AD1 hf hx k ho.1 hp h1 ?_;rw[h3];have hk:Nat.ble (k+(yB P E o).length) sz=true:=by
  have:=ho.1;simp only[uW,Ai]at this;exact this.2
 exact AEg hf' hx' (At.one (Wm hf hx hk hz) hc hc') ho.2 h2 rfl
end
theorem KB.o {ops:Array Oper} {ts dn:List Nat} (mv:Bool) (h:KW P N ops ts (i::dn) ((Cu P N mv E (oA ops i)).getD E) Q) (hs:(Cu P N mv E (oA ops i)).isSome=true:=by kernel_rfl) (hk:(Rx P ops E i&&(kp (oA ops i)||ts.contains i))=true:=by kernel_rfl):KB P N ops ts dn i E Q:=FJ (getD_some hs) h hk
def bits:Nat->List (TypeId×Operand)->List (Bool×TypeId×Operand)
 |_,[]=>[]
 |m,(t,x)::l=>(Nat.beq (m %2) 1,t,x)::bits (m/2) l
def PI (o:Oper):Nat:=match o.op with
 | .call c=>match c.callee with
  | .value (.func f)=>f
  |_=>0
 |_=>0
def G7 (o:Oper):List (TypeId×Operand):=match o.op with
 | .call c=>c.argTypes.toList.zip c.args.toList
 |_=>[]
def Ts (P:Program) (N:Nat) (o:Oper):Bool:=(match o.op with
 | .call c=>match c.callee with
  | .value (.func f)=>Nat.beq c.argTypes.size c.args.size&&(match P.funcs[f]? with
   | some fn => !(fn.name == "runtime.NumGoroutine") && !fn.body.isNone
   |none=>false)
  |_=>false
 |_=>false)&&(match o.dst with
 |some d=>Nat.blt d N
 |none=>true)
theorem PL:∀{l:List (TypeId×Operand)} {m:Nat},(bits m l).map (λx=>x.2.2)=l.map Prod.snd
 |[],m=>rfl
 |(t,x)::l,m=>by simp only[bits,Cx,PL]
theorem OT {o:Oper} (h:Ts P N o=true):∃args tys,o.op= .call {callee:= .value (.func<|PI o),args:=args,argTypes:=tys}/\dC P (PI o)/\(∀d,o.dst=some d->d<N)/\(G7 o).map Prod.snd=args.toList:=by
 simp only[Ts,Ai]at h;obtain⟨h1,h2⟩:=h;have hN:∀d,o.dst=some d->d<N:=by
  intro d hd;simp_all
 unfold PI G7;split at h1
 ·rename_i c hc;split at h1
  ·rename_i f a;rw[Ai]at h1;obtain⟨h3,h4⟩:=h1;split at h4
   ·rename_i fn b;simp only[Ai,Dv]at h4;obtain⟨callee,args,types⟩:=c;simp only at a h3;subst a;have hz:=Be h3;refine⟨args,types,by simp only[hc],?_,hN,?_⟩
    ·exact⟨fn,b,by grind,h4.2⟩
    exact List.map_snd_zip<|by simp[hz]
   cases h4
  cases h1
 cases h1
def mvA (P:Program) (E:St) (o:Oper) (m:Nat):Option (List (Option SV)×St):=MN P E<|bits m<|G7 o
def clE (P:Program) (E:St) (o:Oper) (m:Nat):St:=((mvA P E o m).map Prod.snd).getD E
def shA (P:Program) (E:St) (o:Oper) (m:Nat):Option (List AV×Bool):=match mvA P E o m with
 |some (ss,E1)=>Ja P E1 (bits m<|G7 o) ss
 |none=>none
def bP (P:Program) (E:St) (o:Oper) (m:Nat):Option (List AV):=(shA P E o m).map Prod.fst
def shB (P:Program) (E:St) (o:Oper) (m:Nat):Bool:=match shA P E o m with
 |some (_,b)=>b
 |none=>false
theorem AAt {m:Nat} {o:Oper} {a:SV} (h:bP P E o m=some as) (hc:shB P E o m=true\/AP a=false):Yw P E o.dst (bits m (G7 o)) as a ((clE P E o m).put o.dst a):=by
 unfold bP shB shA at*;unfold clE
 cases hm:mvA P E o m with
 |none=>grind
 |some z=>
  obtain⟨ss,E1⟩:=z;rw[hm]at h hc;simp only at h hc
  cases hs:Ja P E1 (bits m<|G7 o) ss with
  |none=>grind
  |some y=>
   obtain⟨as',c⟩:=y;rw[hs]at h hc;simp only[Bw]at h hc
   injection h with h
   subst h;exact⟨ss,E1,c,hm,hs,hc,rfl⟩
theorem ca {γ:Type _} {l l':List γ} {a b:γ} (h:a=b) (k:l=l'):a::l=b::l':=by rw[h,k]
theorem cs {a b:List TV} (h:B7 a=b):TV.sl false e sz (B7 a)= .sl false e sz b:=by rw[h]
theorem co {a b:TV} (h:a=b):AV.sv (.one a)= .sv (.one b):=by rw[h]
theorem Rz {a b:List TV} (h:a=b):AV.sv (.agg a)= .sv (.agg b):=by rw[h]
theorem RW.c {l:List AV} {x:Option α} (m:Nat) (h:x.bind kk=some r) {enc:α->SV} (a:∀v,x=some v->A0 P (PI (oA ops i)) l (enc v) (List.replicate n .gone)) (hk:∀v,x=some v->kk v=some r->RW P N ops (i+1) ((clE P E (oA ops i) m).put (oA ops i).dst (enc v)) Q) (b:bP P E (oA ops i) m=some l:=by kernel_rfl) (hc:shB P E (oA ops i) m=true\/∀v,AP (enc v)=false:=by exact .inl<|by kernel_rfl) (ho:(Rx P ops E i&&Ts P N (oA ops i))=true:=by kernel_rfl):RW P N ops i E Q:=by
 obtain⟨v,hv,h⟩:=Al.1 h;rw[Ai]at ho;obtain⟨h1,h2⟩:=HH ho.1;obtain⟨args,tys,h3,h4,h5,h6⟩:=OT ho.2;unfold RW;rw[GG h1];exact GW.call h3 h4 h2 h5 (bits m<|G7<|oA ops i) (by rw[PL,h6]) (a v hv) (AAt b<|hc.imp id λh=>h v)<|hk v hv h
section
variable {ts:List Nat}
theorem KB.c {l:List AV} {x:Option α} (m:Nat) (h:x.bind kk=some r) {enc:α->SV} (a:∀v,x=some v->A0 P (PI (oA ops i)) l (enc v) (List.replicate n .gone)) (hk:∀v,x=some v->kk v=some r->KW P N ops ts (i::dn) ((clE P E (oA ops i) m).put (oA ops i).dst (enc v)) Q) (b:bP P E (oA ops i) m=some l:=by kernel_rfl) (hc:shB P E (oA ops i) m=true\/∀v,AP (enc v)=false:=by exact .inl<|by kernel_rfl) (ho:(Rx P ops E i&&Ts P N (oA ops i)&&((bits m<|G7<|oA ops i).all (λx=>!x.1)||ts.contains i))=true:=by kernel_rfl):KB P N ops ts dn i E Q:=by
 obtain⟨v,hv,h⟩:=Al.1 h;simp only[Ai]at ho;obtain⟨h1,h2⟩:=HH ho.1.1;obtain⟨args,tys,h3,h4,h5,h6⟩:=OT ho.1.2;exact gG.call i (IJ h1) h3 h4 h2 h5 (bits m<|G7<|oA ops i) (by rw[PL,h6]) ho.2 (a v hv) (AAt b<|hc.imp id λh=>h v)<|hk v hv h
end
theorem gs {l l':List AV} {x:Option α} {enc:α->SV} (e:l=l') (h:∀v,x=some v->A0 P f l' (enc v) (List.replicate n .gone)):∀v,x=some v->A0 P f l (enc v) (List.replicate n .gone):=e▸h
def oE (E:St) (o:Oper):Root:=match G7 o with
 |(_,x)::_=>(H0 E x).1
 |[]=> .hand
def wH (E:St) (o:Oper):Bool:=match G7 o with
 |(_,x)::_=>(match E.ptr? x with
  |some (r,[],0)=>r.mem
  |_=>false)
 |[]=>false
def cxA (P:Program) (E:St) (o:Oper):Option (List AV×Bool):=Ja P (E.without<|oE E o) (bits 0 (G7 o).tail)<|List.replicate (bits 0 (G7 o).tail).length none
def wI (P:Program) (E:St) (o:Oper):Option (List AV):=(cxA P E o).map Prod.fst
def cxB (P:Program) (E:St) (o:Oper):Bool:=match cxA P E o with
 |some (_,b)=>b
 |none=>false
theorem ACz {o:Oper} (h:wH E o=true):∃t x l,G7 o=(t,x)::l/\E.ptr? x=some (oE E o,[],0)/\(oE E o).mem=true:=by
 unfold wH at h;unfold oE;split at h
 ·rename_i t x l hl;split at h
  ·rename_i r hp;refine⟨t,x,l,hl,?_,?_⟩
   ·simp only[H0,hp,AY]
   simpa only[H0,hp,AY]using h
  cases h
 cases h
theorem AAv {o:Oper} (h:wI P E o=some as) (hc:cxB P E o=true\/p):∃c,Ja P (E.without (oE E o)) (bits 0 (G7 o).tail) (List.replicate (bits 0 (G7 o).tail).length none)=some (as,c)/\(c=true\/p):=by
 unfold wI cxB at*
 cases hs:cxA P E o with
 |none=>grind
 |some y=>
  obtain⟨as',c⟩:=y;rw[hs]at h hc;simp only[Bw]at h hc
  injection h with h
  subst h;exact⟨c,hs,hc⟩
theorem AEd {l:List AV} {x:Option α} (h:x.bind kk=some r) {enc:α->SV} {b:List TV} (e:∀v,x=some v->A0 P (PI (oA ops i)) (.ext b::l) (enc v) (.ext (fin v)::List.replicate n .gone)) (d:∀v,(fin v).length=b.length) (hk:∀v,x=some v->kk v=some r->RW P N ops (i+1) (((E.setRoot (oE E (oA ops i)) (fin v)).bump (oE E (oA ops i))).put (oA ops i).dst (enc v)) Q) (f:wI P E (oA ops i)=some l:=by kernel_rfl) (hb:E.boxes (oE E<|oA ops i)=some b:=by kernel_rfl) (hc:cxB P E (oA ops i)=true\/∀v,AP (enc v)=false/\A4 (fin v)=false:=by exact .inl<|by kernel_rfl) (ho:(Rx P ops E i&&Ts P N (oA ops i)&&wH E (oA ops i))=true:=by kernel_rfl):RW P N ops i E Q:=by
 obtain⟨v,hv,h⟩:=Al.1 h;simp only[Ai]at ho;obtain⟨h1,h2⟩:=HH ho.1.1;obtain⟨args,tys,h3,h4,h5,h6⟩:=OT ho.1.2;obtain⟨t,x0,l0,h7,h8,h9⟩:=ACz ho.2;obtain⟨c,h10,h11⟩:=AAv f hc;unfold RW;rw[GG h1];intro w0 FA UA w a blk FS US hr hF hU;simp only[wpList,Cf hr h2,BX];refine .inl<|oO hr hF hU h3 h4 h5 (x:=x0) (l:=bits 0 (G7<|oA ops i).tail) ?_ h9 h8 hb (d v) h10 (h11.imp id λh=>h v) (e v hv) λw' v' blk' FS' US' k1 k2 k3=>hk v hv h _ _ _ _ _ _ _ _ k1 k2 k3;rw[PL,<-h6,h7];rfl
theorem AEf {ts:List Nat} {l:List AV} {x:Option α} (h:x.bind kk=some r) {enc:α->SV} {b:List TV} (e:∀v,x=some v->A0 P (PI (oA ops i)) (.ext b::l) (enc v) (.ext (fin v)::List.replicate n .gone)) (d:∀v,(fin v).length=b.length) (hk:∀v,x=some v->kk v=some r->KW P N ops ts (i::dn) (((E.setRoot (oE E (oA ops i)) (fin v)).bump (oE E (oA ops i))).put (oA ops i).dst (enc v)) Q) (f:wI P E (oA ops i)=some l:=by kernel_rfl) (hb:E.boxes (oE E<|oA ops i)=some b:=by kernel_rfl) (hc:cxB P E (oA ops i)=true\/∀v,AP (enc v)=false/\A4 (fin v)=false:=by exact .inl<|by kernel_rfl) (ho:(Rx P ops E i&&Ts P N (oA ops i)&&wH E (oA ops i)&&ts.contains i)=true:=by kernel_rfl):KB P N ops ts dn i E Q:=by
 obtain⟨v,hv,h⟩:=Al.1 h;simp only[Ai]at ho;obtain⟨h1,h2⟩:=HH ho.1.1.1;obtain⟨args,tys,h3,h4,h5,h6⟩:=OT ho.1.1.2;obtain⟨t,x0,l0,h7,h8,h9⟩:=ACz ho.1.2;obtain⟨c,h10,h11⟩:=AAv f hc;intro w0 FA UA w a blk FS US hr hF hU;unfold wpOp;simp only[IJ h1,Cf hr h2,BX];refine .inl (oO hr hF hU h3 h4 h5 (x:=x0) (l:=bits 0 (G7<|oA ops i).tail) ?_ h9 h8 hb (d v) h10 (h11.imp id λh=>h v) (e v hv) λw' v' blk' FS' US' k1 k2 k3=>⟨λht=>(by grind),_,_,_,_,hk v hv h,k1,k2,k3⟩);rw[PL,<-h6,h7];rfl
theorem wc {b:Bool} {c:Operand} {x y:Code} (h:(bif b then tx else ty)=some r) (ht:tx=some r->Wp P N x E Q) (hf:ty=some r->Wp P N y E Q) (hc:E.cell1 P 0 c=some (.bool b):=by kernel_rfl):Wp P N (.cond c x y) E Q:=Wp.c h ht hf hc
theorem wt {c:Operand} {x y:Code} (ht:Wp P N x E Q) (hc:E.cell1 P 0 c=some (.bool true):=by kernel_rfl):Wp P N (.cond c x y) E Q:=AD9 ht hc
theorem wf {c:Operand} {x y:Code} (hf:Wp P N y E Q) (hc:E.cell1 P 0 c=some (.bool false):=by kernel_rfl):Wp P N (.cond c x y) E Q:=AEa hf hc
theorem rsz {rs:List ResultVar} {a:SV} (h:(DM P E rs).map (λz=>EE z.1)=some a):∃ss E',DM P E rs=some (ss,E')/\EE ss=a:=by simp_all
theorem rsx {rt:Root} {rs:List ResultVar} {b:SV} {a:List TV} (h:(DM P E rs).map (λz=>(EE z.1,z.2.boxes rt))=some (b,some a)):∃ss E',DM P E rs=some (ss,E')/\EE ss=b/\E'.boxes rt=some a:=by simp_all
theorem gkx {c:Code} {a cells':List TV} {b:SV} (hf:P.funcs[f]?=some fn) (hb:fn.body=some c) (hN:fn.ntmps=N) (h:Wp P N c (Dx (.ext a::as)) λe E=>(e= .normal\/e= .ret)/\∃ss E',DM P E fn.results.toList=some (ss,E')/\EE ss=b/\E'.boxes (.ext 0)=some cells') (d:cells'.isEmpty=false:=by rfl):A0 P f (.ext a::as) b (.ext cells'::List.replicate as.length .gone):=wC hf hb (by rw[hN];exact h) d
theorem gk {c:Code} {a:SV} (hf:P.funcs[f]?=some fn) (hb:fn.body=some c) (hN:fn.ntmps=N) (h:Wp P N c (Dx as) λe E=>(e= .normal\/e= .ret)/\∃ss E',DM P E fn.results.toList=some (ss,E')/\EE ss=a):A0 P f as a (List.replicate as.length .gone):=AAl hf hb (by rw[hN];exact h)
theorem pX:∀t:TV,(MT t).isSl=t.isSl:=by intro t;cases t<;>rfl
theorem Km:∀(cs:List TV) (j:Nat),(B7 cs)[j]?=cs[j]?.map MT
 |[],j=>by simp[B7]
 |t::ts,0=>by simp[B7]
 |t::ts,j+1=>by simpa[B7]using Km ts j
theorem X1:∀(q:List Nat) (cs:List TV),BG (B7 cs) q=(BG cs q).map B7
 |[],cs=>rfl
 |c::q,cs=>by
  simp only[BG,Km]
  cases cs[c]? with
  |none=>rfl
  |some t=>
   cases t with
   |sl o e sz cells=>exact X1 q cells
   |_=>rfl
def rH:TV->List TV->TV
 | .sl _ e s _,row=> .sl false e s row
 |t,_=>t
def ZW (cs:List TV) (j:Nat) (a:List TV):List TV:=match cs[j]? with
 |some t=>cs.set j<|rH t a
 |none=>cs
theorem j9 {s:Nat} {cs:List TV} {a:List TV} (h:cs[j]?=some (.sl true e s a)) (c:Nat):(ZW cs j (B7 a))[c]?=if c=j then some (.sl false e s (B7 a))else cs[c]? :=by
 have hj:=(Af.1 h).1;simp only[ZW,h,rH]
 grind
theorem AAp {s:Nat} {r1:List TV} {cs:List TV} {a:List TV} (h:cs[j]?=some (.sl true e s a)) (hq:BG cs q=some r1) (i:Nat):
  ∃r2,BG (ZW cs j (B7 a)) q=some r2/\(r1[i]?.isSome=true->r2[i]?.isSome=true)/\(Lc r1[i]?=true->Lc r2[i]?=true):=by
 cases q with
 |nil=>
  simp only[BG]at hq
  injection hq with hq
  subst hq;refine⟨_,rfl,?_,?_⟩
  ·rw[j9 h]
   grind
  rw[j9 h];split
  ·intro _;rfl
  exact id
 |cons c q=>
  simp only[BG,j9 h];simp only[BG]at hq;by_cases hc:c=j
  ·subst hc;rw[h]at hq;simp only at hq;rw[AB rfl];simp only[X1,hq,Bw];refine⟨_,rfl,?_,?_⟩
   ·rw[Km];simp
   rw[Km]
   cases r1[i]? with
   |none=>exact id
   |some t=>simp only[Lc,Bw,pX];exact id
  grind
theorem Zl:∀{ts:List TV} {vs:List Value} {F U:List Nat} {j:Nat} {t:TV},Bl w ts vs F U->ts[j]?=some t->F.Nodup->(∀v F1 U1,Cq w t v F1 U1->∃F2 U2,Cq w t' v F2 U2/\IY F1 U1 F2 U2)->
  ∃F' U',Bl w (ts.set j t') vs F' U'/\IY F U F' U'
 |[],vs,F,U,j,t,h,hj,_,_=>by simp at hj
 |x::ts,vs,F,U,0,t,h,hj,hn,hk=>by
  simp at hj;subst hj;simp only[Bl]at h;obtain⟨v,a,F1,F2,U1,U2,rfl,rfl,rfl,h1,h2⟩:=h;obtain⟨F1',U1',a1,a2⟩:=hk v F1 U1 h1;exact⟨F1'++F2,U1'++U2,by simp only[Er,Bl];grind,SM hn a2 IY.refl⟩
 |x::ts,vs,F,U,j+1,t,h,hj,hn,hk=>by
  simp only[Bl]at h;obtain⟨v,a,F1,F2,U1,U2,rfl,rfl,rfl,h1,h2⟩:=h;obtain⟨F2',U2',a1,a2⟩:=Zl h2 (by simpa using hj) (CF.1 hn).2.1 hk;exact⟨F1++F2',U1++U2',by simp only[Nz,Bl];grind,SM hn IY.refl a2⟩
theorem aM {a:Act} {blk:Root->Nat}:∀{ts:List TV} {vs:List Value} {F U:List Nat} {j:Nat} {t:TV},CI w a E blk ts vs F U->ts[j]?=some t->F.Nodup->(∀v F1 U1,CH w a E blk t v F1 U1->∃F2 U2,CH w a E blk t' v F2 U2/\IY F1 U1 F2 U2)->
  ∃F' U',CI w a E blk (ts.set j t') vs F' U'/\IY F U F' U'
 |[],vs,F,U,j,t,h,hj,_,_=>by simp at hj
 |x::ts,vs,F,U,0,t,h,hj,hn,hk=>by
  simp at hj;subst hj;obtain⟨v,b,F1,F2,U1,U2,rfl,rfl,rfl,h1,h2⟩:=h;obtain⟨F1',U1',a1,a2⟩:=hk v F1 U1 h1;exact⟨F1'++F2,U1'++U2,by rw[Er];exact⟨v,b,F1',F2,U1',U2,rfl,rfl,rfl,a1,h2⟩,SM hn a2 IY.refl⟩
 |x::ts,vs,F,U,j+1,t,h,hj,hn,hk=>by
  obtain⟨v,b,F1,F2,U1,U2,rfl,rfl,rfl,h1,h2⟩:=h;obtain⟨F2',U2',a1,a2⟩:=aM h2 (by simpa using hj) (CF.1 hn).2.1 hk;exact⟨F1++F2',U1++U2',by rw[Nz];exact⟨v,b,F1,F2',U1,U2',rfl,rfl,rfl,h1,a1⟩,SM hn IY.refl a2⟩
def frE (E:St) (r:Root) (j:Nat) (a:List TV):St:=match E.root r with
 |some cs=>E.setRoot r<|ZW cs j a
 |none=>E
theorem rG {a:Act} {r:Root} {s:Nat} {cs:List TV} {b:List TV} (hr:E.root r=some cs) (hj:cs[j]?=some (.sl true e s b)) (hh:r≠ .hand) (R:Root):Cl w w a a E (E.setRoot r (ZW cs j (B7 b))) blk blk R:=by
 have d:(E.setRoot r<|ZW cs j<|B7 b).ver=E.ver:=by cases r<;>rfl
 have f:(E.setRoot r<|ZW cs j<|B7 b).gen=E.gen:=by cases r<;>rfl
 have g:(ZW cs j<|B7 b).length=cs.length:=by simp[ZW,hj]
 have c:∀cs0,E.root R=some cs0->∃cs1,(E.setRoot r<|ZW cs j<|B7 b).root R=some cs1/\∀q r1,BG cs0 q=some r1->∀i:Nat,∃r2,BG cs1 q=some r2/\(r1[i]?.isSome=true->r2[i]?.isSome=true)/\(Lc r1[i]?=true->Lc r2[i]?=true):=by
  intro cs0 h0;by_cases hR:R=r
  ·subst hR;rw[hr]at h0
   injection h0 with h0
   subst h0;refine⟨ZW cs j<|B7 b,?_,λq r1 hq i=>AAp hj hq i⟩
   cases R with
   |slot n=>
    simp only[St.root,St.setRoot,Ca,BX]at hr⊢
    injection hr with hr
    congr 1
    cases hs:E.slots n with
    |one t=>
     rw[hs]at hr;simp only[SV.cells]at hr;subst hr;have:(ZW [t] j<|B7 b).length=1:=g
     match hf:ZW [t] j (B7 b),this with
     |[x],_=>rfl
    |agg ts=>rfl
    |tup ss=>
     rw[hs]at hr;simp only[SV.cells]at hr
     grind
   |box n=>simp[St.root,St.setRoot,Ca]
   |ext n=>simp[St.root,St.setRoot,Ca]
   |hand=>exact absurd rfl hh
  refine⟨cs0,?_,λq r1 hq i=>⟨r1,hq,id,id⟩⟩;rw[<-h0];cases r<;>cases R<;>simp only[St.root,St.setRoot,Ca]<;>first
   |exact absurd rfl hh
   |rfl
   |grind
   |(rw[AA];intro e;injection e with e;exact hR<|by rw[e])
   |(rw[AA];intro e;cases e)
 constructor
 ·refine .inr ⟨by rw[d],λq i v h1 h2=>⟨h1,?_⟩,λq i ad hq h1 h2=>⟨h1,?_⟩⟩
  ·unfold St.place at h2⊢
   cases h0:E.root R with
   |none=>rw[h0]at h2;cases h2
   |some cs0=>
    rw[h0]at h2;obtain⟨cs1,k1,k2⟩:=c cs0 h0;simp only[Aa]at h2
    cases hc:BG cs0 q with
    |none=>rw[hc]at h2;cases h2
    |some r1=>
     rw[hc]at h2;obtain⟨r2,k3,_,k4⟩:=k2 q r1 hc i
     grind
  unfold St.place at h2⊢
  cases h0:E.root R with
  |none=>grind
  |some cs0=>
   rw[h0]at h2;obtain⟨cs1,k1,k2⟩:=c cs0 h0;simp only[Aa]at h2
   cases hc:BG cs0 q with
   |none=>grind
   |some r1=>
    rw[hc]at h2;obtain⟨r2,k3,k4,_⟩:=k2 q r1 hc i
    grind
 refine .inr ⟨by rw[f],λi ad h1 h2=>⟨h1,?_⟩⟩;unfold St.place at h2⊢
 cases h0:E.root R with
 |none=>grind
 |some cs0=>
  rw[h0]at h2;obtain⟨cs1,k1,k2⟩:=c cs0 h0;simp only[Aa]at h2;obtain⟨r2,k3,k4,_⟩:=k2 [] cs0 rfl i;rw[k1];simp only[Aa,k3];exact k4 h2
section
variable {w0:Base} {a:Act}
theorem CD.freeze {r:Root} {s:Nat} (h:CD w0 FA UA N w a E blk FS US) {cs:List TV} {c:List TV} (hr:E.root r=some cs) (hj:cs[j]?=some (.sl true e s c)) (hh:r≠ .hand):
  ∃FS' US',CD w0 FA UA N w a (E.setRoot r (ZW cs j (B7 c))) blk FS' US'/\FS' .hand=FS .hand/\US' .hand=US .hand:=by
 have u:=rG (w:=w) (a:=a) (blk:=blk) hr hj hh;have i:ZW cs j (B7 c)=cs.set j (.sl false e s<|B7 c):=by simp only[ZW,hj,rH]
 have l:∀v F1 U1,Cq w (.sl true e s c) v F1 U1->∃F2 U2,Cq w (.sl false e s<|B7 c) v F2 U2/\IY F1 U1 F2 U2:=λv F1 U1 h1=>ACT h1<|wT.s rfl
 have x:∃F' U',IY (FS r) (US r) F' U'/\(∀n,r= .slot n->E0 w a (E.setRoot r<|ZW cs j<|B7 c) blk ((E.slots n).withCells<|ZW cs j<|B7 c) (a.eval<|.tmp n) F' U')/\
   (r.mem=true->∃d T F,w.heap[blk r]?=some (.cells d T (0,0))/\Bl w (ZW cs j<|B7 c) d.toList F U'/\F'=blk r::F):=by
  cases r with
  |slot n=>
   simp only[St.root]at hr
   injection hr with hr
   have hs:=HT u (h.slot n) (λ_ _=>rfl) λ_ _=>rfl
   cases f:E.slots n with
   |one t=>
    rw[f]at hr hs;simp only[SV.cells]at hr;subst hr;have y:j=0:=by grind
    subst y;simp at hj;subst hj;simp only[E0]at hs;obtain⟨F2,U2,k1,k2⟩:=l _ _ _ hs.1;refine⟨F2,U2,k2,λm hm=>?_,λhm=>by cases hm⟩
    injection hm with hm
    subst hm;rw[f,i];simp only[Er,SV.withCells,E0];exact⟨k1,λ_=>hs.2 rfl⟩
   |agg ts=>
    rw[f]at hr hs;simp only[SV.cells]at hr;subst hr;simp only[E0]at hs;obtain⟨vs,k0,k1⟩:=hs;obtain⟨F2,U2,k2,k3⟩:=aM (t':= .sl false e s (B7 c)) k1 hj (h.nodup _) l;refine⟨F2,U2,k3,λm hm=>?_,λhm=>by cases hm⟩
    injection hm with hm
    subst hm;rw[f,i];simp only[SV.withCells,E0]
    grind
   |tup ss=>
    rw[f]at hr;simp only[SV.cells]at hr
    grind
  |hand=>exact absurd rfl hh
  |box n=>
   rcases h.box (.box n) rfl with⟨k,_⟩|⟨cs0,d,T,F,k1,k2,k3,k4⟩
   ·simp only[St.root]at hr;grind
   simp only[St.root]at hr;rw[k1]at hr
   injection hr with hr
   subst hr;have g:=h.nodup<|.box n;rw[k4]at g;obtain⟨z,o⟩:=CS.1 g;obtain⟨F2,U2,k5,k6⟩:=Zl (t':= .sl false e s (B7 c)) k3 hj o l;refine⟨blk (.box n)::F2,U2,?_,λm hm=>(by cases hm),λ_=>⟨d,T,F2,k2,by rw[i];exact k5,rfl⟩⟩;rw[k4];refine⟨k6.1.cons_cons _,λb hb=>?_⟩
   rcases k6.2 b hb with q|⟨q1,q2⟩
   ·exact .inl q
   grind
  |ext n=>
   rcases h.box (.ext n) rfl with⟨k,_⟩|⟨cs0,d,T,F,k1,k2,k3,k4⟩
   ·simp only[St.root]at hr;grind
   simp only[St.root]at hr;rw[k1]at hr
   injection hr with hr
   subst hr;have g:=h.nodup<|.ext n;rw[k4]at g;obtain⟨z,o⟩:=CS.1 g;obtain⟨F2,U2,k5,k6⟩:=Zl (t':= .sl false e s (B7 c)) k3 hj o l;refine⟨blk (.ext n)::F2,U2,?_,λm hm=>(by cases hm),λ_=>⟨d,T,F2,k2,by rw[i];exact k5,rfl⟩⟩;rw[k4];refine⟨k6.1.cons_cons _,λb hb=>?_⟩
   rcases k6.2 b hb with q|⟨q1,q2⟩
   ·exact .inl q
   grind
 obtain⟨F',U',hl,h0,h2⟩:=x
 have p:∀b∈F',b∈FS r:=λb hb=>hl.1.subset hb
 refine⟨Ca FS r F',Ca US r U',?_,by rw[Bn λe=>hh e.symm],by rw[Bn λe=>hh e.symm]⟩;have hF:∀R b,b∈Ca FS r F' R->b∈FS R:=by
  intro R b hb;by_cases hR:R=r
  ·subst hR;rw[BO]at hb;exact p b hb
  rw[Bn hR]at hb;exact hb
 have hU:∀R b,b∈Ca US r U' R->b∈US R\/(R=r/\b∈FS r/\b∉F'):=by
  intro R b hb;by_cases hR:R=r
  ·subst hR;rw[BO]at hb
   rcases hl.2 b hb with q|⟨q1,q2⟩
   ·exact .inl q
   grind
  rw[Bn hR]at hb;exact .inl hb
 constructor
 ·intro n;by_cases hn:r= .slot n
  ·subst hn;rw[BO,BO];have:=h0 n rfl;simpa only[St.setRoot,Ca,BX]using this
  rw[Bn λe=>hn e.symm,Bn λe=>hn e.symm];have h1:(E.setRoot r<|ZW cs j<|B7 c).slots n=E.slots n:=by
   cases r with
   |slot m=>
    simp only[St.setRoot,Ca]
    grind
   |_=>rfl
  rw[h1];exact HT u (h.slot n) (λ_ _=>rfl) λ_ _=>rfl
 ·intro R hm;by_cases hR:R=r
  ·subst hR;right;obtain⟨d,T,F,k1,k2,k3⟩:=h2 hm;refine⟨_,d,T,F,?_,k1,by rw[BO];exact k2,by rw[BO,k3]⟩
   cases R with
   |slot n=>cases hm
   |hand=>cases hm
   |box n=>simp[St.setRoot,Ca]
   |ext n=>simp[St.setRoot,Ca]
  rw[Bn hR,Bn hR];have h1:(E.setRoot r<|ZW cs j<|B7 c).boxes R=E.boxes R:=by
   cases r<;>simp only[St.setRoot,Ca]<;>first
    |rfl
    |(rw[AA hR])
  rw[h1];exact h.box R hm
 ·have:(E.setRoot r<|ZW cs j<|B7 c).boxes .hand=E.boxes .hand:=by
   cases r<;>simp only[St.setRoot,Ca]<;>first
    |exact absurd rfl hh
    |rfl
    |(rw[AA<|by simp])
  rw[this];exact h.nohand
 ·intro R;by_cases hR:R=r
  ·subst hR;rw[BO];exact hl.1.nodup<|h.nodup R
  rw[Bn hR];exact h.nodup R
 ·exact λR S h3 b hb hb'=>h.dis R S h3 b (hF R b hb)<|hF S b hb'
 ·intro R S b hb hb'
  rcases hU S b hb' with q|⟨rfl,q1,q2⟩
  ·exact h.disU R S b (hF R b hb) q
  by_cases hR:R=S
  ·subst hR;rw[BO]at hb;exact q2 hb
  exact h.dis R S hR b (hF R b hb) q1
 ·exact λR b hb=>h.inF R b<|hF R b hb
 ·intro R b hb
  rcases hU R b hb with q|⟨rfl,q1,_⟩
  ·exact h.inU R b q
  obtain⟨q2,q3⟩:=h.inF R b q1
  grind
 ·exact h.disA
 ·exact h.os
 ·exact h.tape
 ·exact h.output
 ·exact h.size
 ·exact h.keep
 ·exact h.len
 ·exact h.nodef
 ·exact h.xblk
 ·rw[EH];exact h.ambB
 ·rw[EH];exact h.ambI
 ·rw[HV];exact h.frz
 ·exact h.ambF
 rw[EH];exact h.pin
end
theorem AAr {r:Root} (h:RX E r j=some row):∃cs e s,E.root r=some cs/\cs[j]?=some (.sl true e s row)/\frE E r j (B7 row)=E.setRoot r (ZW cs j (B7 row)):=by
 obtain⟨cs,e,s,h1,h2,_⟩:=RV h;exact⟨cs,e,s,h1,h2,by unfold frE;rw[h1]⟩
def Yi:Root->Bool
 | .hand=>false
 |_=>true
theorem Ul {r:Root} (h:Yi r=true):r≠ .hand:=by rintro rfl;cases h
theorem RW.fz (r:Root) (j:Nat) (hs:B7 row=row') (h:RW P N ops i (frE E r j row') Q) (ho:RX E r j=some row:=by kernel_rfl) (hh:Yi r=true:=by rfl):RW P N ops i E Q:=by
 intro w0 FA UA w a blk FS US hr hF hU;obtain⟨cs,e,s,h1,h2,h3⟩:=AAr ho;obtain⟨FS',US',k1,k2,k3⟩:=hr.freeze h1 h2<|Ul hh;rw[<-hs,h3]at h;exact h _ _ _ _ _ _ _ _ k1 (by rw[k2,hF])<|by rw[k3,hU]
theorem KW.fz {ts:List Nat} (r:Root) (j:Nat) (hs:B7 row=row') (h:KW P N ops ts dn (frE E r j row') Q) (ho:RX E r j=some row:=by kernel_rfl) (hh:Yi r=true:=by rfl):KW P N ops ts dn E Q:=by
 intro hq hc w0 FA UA w a blk FS US hr hF hU;obtain⟨cs,e,s,h1,h2,h3⟩:=AAr ho;obtain⟨FS',US',k1,k2,k3⟩:=hr.freeze h1 h2<|Ul hh;rw[<-hs,h3]at h;exact h hq hc _ _ _ _ _ _ _ _ k1 (by rw[k2,hF])<|by rw[k3,hU]
theorem Wp.fz {c:Code} (r:Root) (j:Nat) (hs:B7 row=row') (h:Wp P N c (frE E r j row') Q) (ho:RX E r j=some row:=by kernel_rfl) (hh:Yi r=true:=by rfl):Wp P N c E Q:=by
 intro w0 FA UA w a blk FS US hr hF hU;obtain⟨cs,e,s,h1,h2,h3⟩:=AAr ho;obtain⟨FS',US',k1,k2,k3⟩:=hr.freeze h1 h2<|Ul hh;rw[<-hs,h3]at h;exact h _ _ _ _ _ _ _ _ k1 (by rw[k2,hF])<|by rw[k3,hU]
def St.fzs (E:St) (f:Option Nat):St:={E with fz:=f}
theorem pU {a:Act} {f:Option Nat} (r:Root):Cl w w a a E (E.fzs f) blk blk r:=by
 have hp:∀q j,(E.fzs f).place r q j=E.place r q j:=λq j=>by cases r<;>rfl
 exact⟨.inr ⟨rfl,λq j v h1 h2=>⟨h1,by rw[hp];exact h2⟩,λq j ad _ h1 h2=>⟨h1,by rw[hp];exact h2⟩⟩,.inr ⟨rfl,λj ad h1 h2=>⟨h1,by rw[hp];exact h2⟩⟩⟩
theorem CD.fzs {w0:Base} {a:Act} (h:CD w0 FA UA N w a E blk FS US) (f:Option Nat) (hf:∀n,f=some n->Frz w0 a n):CD w0 FA UA N w a (E.fzs f) blk FS US where
 slot:=λn=>HT pU (h.slot n) (λ_ _=>rfl) λ_ _=>rfl
 box:=h.box
 nohand:=h.nohand
 nodup:=h.nodup
 dis:=h.dis
 disU:=h.disU
 inF:=h.inF
 inU:=h.inU
 disA:=h.disA
 os:=h.os
 tape:=h.tape
 output:=h.output
 size:=h.size
 keep:=h.keep
 len:=h.len
 nodef:=h.nodef
 xblk:=h.xblk
 ambB:=h.ambB
 ambI:=h.ambI
 frz:=hf
 ambF:=h.ambF
 pin:=h.pin
theorem tW (n:Nat):(2*n+1)/2=n:=by omega
theorem tV (n:Nat):¬(2*n+1) %2=0:=by omega
def ABN (o:Oper):Bool:=match o.op with
 | .buildSlice t len parts=>Nat.beq len 0&&Nat.beq parts.size 0
 |_=>false
theorem ACQ {a:Act} {nx:Next} {w':World} {o:Oper} (hb:ABN o=true) (hd:o.dst=some d) (hN:d<N) (hs:Cu P N false E o=some E') (hr:(execOp a.eval o).run P w= .ok nx w'):∃B,nx= .value (.slice B 0 0):=by
 unfold ABN at hb;split at hb
 ·rename_i t len parts ho;rw[Ai]at hb;have h1:=Be hb.1;have h2:=Be hb.2;subst h1;have h3:parts= #[]:=Array.eq_empty_of_size_eq_zero h2;subst h3;simp only[Cu,hd,AB hN,ho,Mb]at hs;split at hs
  ·rename_i e hu;split at hs
   ·rename_i zs ss hz b;obtain⟨i,z,hi,c,f,g⟩:=JJ (w:=w) hz;simp[execOp,ho,Instr.buildSlice,run_underlying hu,sizeOf,typeInfo,hi,newRow,Instr.fill]at hr
    grind
   cases hs
  cases hs
 cases hb
def yE (x:Operand):Nat:=match x with
 | .tmp n=>n
 |_=>0
theorem sJ {ts:List Nat} (h:KW P N ops ts (i::dn) (((Cu P N false E (oA ops i)).getD E).fzs (some (2*((oA ops i).dst.getD 0)+1))) Q) (hs:(Cu P N false E (oA ops i)).isSome=true:=by kernel_rfl) (hk:(Rx P ops E i&&ABN (oA ops i)&&Gy N (oA ops i))=true:=by kernel_rfl):KB P N ops ts dn i E Q:=by
 have hs':=getD_some (a:=E) hs;generalize hE:(Cu P N false E<|oA ops i).getD E=E' at h hs';simp only[Ai]at hk;obtain⟨h1,h2⟩:=HH hk.1.1;obtain⟨d,h3,_,h4⟩:=EM hk.2;rw[h3]at h;simp only[AY]at h;have b:kp (oA ops i)=true:=by
  have:=hk.1.2;unfold ABN at this;unfold kp
  grind
 intro w0 FA UA w a blk FS US hr hF hU;unfold wpOp;simp only[IJ h1,Cf hr h2,BX];obtain⟨nx,w',v,blk',FS',US',k1,k2,k3,k4,k5,k6⟩:=R7 hr hF hU hs';obtain⟨B,hB⟩:=ACQ (N:=N) hk.1.2 h3 h4 hs' k1;have hv:v= .slice B 0 0:=by grind
 refine .inl ?_;unfold Oper.wp;rw[k1,hB];refine⟨λ_=>k6 b,_,blk',FS',US',h,?_,k4,k5⟩;rw[hv]at k3;refine k3.fzs _ λn hn=>?_
 injection hn with hn
 subst hn;unfold Frz;rw[AA<|tV d,tW d,h3];refine⟨B,?_⟩;have:=k3.len;simp only[Act.eval,Act.put];rw[Ez];have hl:=hr.len
 grind
theorem KB.a {ts:List Nat} (hs:Cu P N false E (oA ops i)=some E') (h:KW P N ops ts (i::dn) (E'.fzs none) Q) (hk:(Rx P ops E i&&AAf (oA ops i)&&Nat.beq (EN (oA ops i)).1 (EN (oA ops i)).2.1&&Gy N (oA ops i))=true:=by kernel_rfl) (hx:(EN<|oA ops i).2.2.1= .tmp (yE (EN<|oA ops i).2.2.1):=by kernel_rfl) (hz:E.fz=some (2*yE (EN<|oA ops i).2.2.1+1):=by kernel_rfl):KB P N ops ts dn i E Q:=by
 simp only[Ai]at hk;obtain⟨⟨⟨h0,h5⟩,h6⟩,h7⟩:=hk;obtain⟨h1,h2⟩:=HH h0;obtain⟨d,h3,_,h4⟩:=EM h7;have c:=Be h6;have ho:=jB h5;rw[<-c]at ho;intro w0 FA UA w a blk FS US hr hF hU;unfold wpOp;simp only[IJ h1,Cf hr h2,BX];have he:N8 P E d (EN<|oA ops i).1 (EN<|oA ops i).2.2.1 (EN<|oA ops i).2.2.2=some E':=by
  unfold Cu at hs
  grind
 obtain⟨nx,w',v,blk',FS',US',k1,k2,k3,k4,k5,_,k6⟩:=VY hr hF hU ho h3 h4 he;have b:=hr.frz _ hz;unfold Frz at b;rw[AA<|tV _,tW,<-hx]at b;obtain⟨B,hB⟩:=b;refine .inl ?_;unfold Oper.wp;rw[k1]
 rcases k2 with rfl|⟨rfl,rfl⟩
 ·exact⟨λ_=>k6 B hB,_,blk',FS',US',h,k3.fzs none (λn hn=>by cases hn),k4,k5⟩
 exact⟨λ_=>k6 B hB,_,blk',FS',US',h,k3.fzs none (λn hn=>by cases hn),k4,k5⟩
def rm (k:IntKind) (a b:Int):Option Int:=if b=0 then none else some<|a.tmod b
def ban (k:IntKind) (a b:Int):Int:=k.wrap (BitVec.ofInt k.bits a&&&BitVec.ofInt k.bits b).toNat
def bxo (k:IntKind) (a b:Int):Int:=k.wrap (BitVec.ofInt k.bits a^^^BitVec.ofInt k.bits b).toNat
def ACn (P:Program) (E:St) (o:Oper) (k:IntKind) (q:Bool):Option (Int×Int):=match o.op with
 | .binOp op t x y _=>bif(match op with| .rem=>!q| .quo=>q|_=>false)then(match E.cell1 P t x,E.cell1 P t y with
  |some (.int k' a),some (.int k'' b)=>bif decide (k'=k)&&decide (k''=k)then some (a,b)else none
  |_,_=>none)else none
 |_=>none
theorem prm {o:Oper} {k:IntKind} {a b v:Int} (hx:rm k a b=some v) (hc:ACn P E o k false=some (a,b):=by kernel_rfl):AQ P E o=some (.one<|.int k v):=by
 unfold ACn at hc;split at hc
 ·rename_i op t x y t' ho;cases op<;>simp only[AM,Ae,Ac,reduceCtorEq]at hc;split at hc
  ·rename_i k' a' k2 b' h1 h2
   cases hk:(decide (k'=k)&&decide (k2=k))with
   |false=>grind
   |true=>
    rw[hk]at hc;simp only[Ae]at hc
    injection hc with hc
    injection hc with hc1 hc2
    rw[Ai]at hk;have e1:=On hk.1;have e2:=On hk.2;subst hc1 hc2 e1 e2;unfold rm at hx;split at hx
    ·cases hx
    rename_i hb
    injection hx with hx
    subst hx;simp only[AQ,ho,h1,h2,WK,BX,X6,AAg,AA hb,Bw]
  cases hc
 cases hc
def kW (P:Program) (f:FuncId) (as:List AV) (a:List TV):Prop:=∀(w:World) (vs:List Value) (FA UA:List Nat),KS w as vs FA UA->FA.Nodup->(∀b∈FA,b∉UA)->(∀b∈FA++UA,b<w.heap.size)->
  Calls P f vs.toArray w λe w'=>∃v F U G V,e= .returned v/\AAS w w' FA UA (.tup []) [.ext a] [v] (.tuple #[]) F U G V
theorem gkp {c:Code} {cells:List TV} (hf:P.funcs[f]?=some fn) (hb:fn.body=some c) (hN:fn.ntmps=N) (h:Wp P N c (Dx as) λe E=>(e= .normal\/e= .ret)/\∃t r,fn.results.toList=[.tmp t]/\E.ptr? (.tmp t)=some (r,[],0)/\r.mem=true/\E.boxes r=some cells) (l:cells.isEmpty=false:=by rfl):kW P f as cells:=by
 subst hN;intro w vs FA UA ha m j o;obtain⟨blk,FS,US,hr,hF,hU⟩:=S3 (N:=fn.ntmps) ha m j o (A:=Rv.none) (fz:=none) trivial (λb hb=>by cases hb);refine calls_of_wp hf hb<|wp_mono (h _ _ _ _ _ _ _ _ hr hF hU) ?_;rintro e a w' ⟨E,blk',FS',US',⟨he,t,r,h1,h2,h3,h4⟩,k3,h5,h6⟩;obtain⟨u,ad,d,p⟩:=K1 k3 h2;have s:ad=⟨blk' r,0,none⟩:=by
  cases r with
  |slot n=>cases h3
  |hand=>cases h3
  |box n=>simp only[pa]at d;injection d with d;rw[<-d];simp[Addr.add]
  |ext n=>simp only[pa]at d;injection d with d;rw[<-d];simp[Addr.add]
 obtain⟨g,T,F3,b2,b3,b4⟩:∃g T F3,w'.heap[blk' r]?=some (.cells g T (0,0))/\Bl w' cells g.toList F3 (US' r)/\FS' r=blk' r::F3:=by
  rcases k3.box r h3 with⟨q,_⟩|⟨cs,g,T,F3,q1,q2,q3,q4⟩
  ·rw[h4]at q;cases q
  grind
 have hne':cells≠ []:=by rintro rfl;cases l
 have k:(fn.results.toList.mapM<|Qm P a.tmps).run P w'= .ok [a.eval<|.tmp t] w':=by
  rw[h1,List.mapM_cons];rfl
 have i:a.defers=[]/\∃v,(results fn a.tmps).run P w'= .ok v w'/\∃v' F U G V,Ending.returned v= .returned v'/\AAS w w' FA UA (.tup []) [.ext cells] [v'] (.tuple #[]) F U G V:=by
  refine⟨k3.nodef,_,OD k,a.eval<|.tmp t,[],[],FS' r,US' r,by simp,?_⟩
  exact{
   res:=by simp only[XI];exact⟨[],rfl,by simp[PU]⟩
   fin:=⟨_,[],FS' r,[],US' r,[],rfl,by simp,by simp,⟨blk' r,g,T,F3,by rw[p,s],b2,b3,b4,hne'⟩,⟨rfl,rfl,rfl⟩⟩
   nodup:=by simpa using k3.nodup r
   dis:=λb hb hb'=>k3.disU r r b (by simpa using hb)<|by simpa using hb'
   inF:=λb hb=>k3.inF r b<|by simpa using hb
   inU:=λb hb=>k3.inU r b<|by simpa using hb
   os:=k3.os
   tape:=k3.tape
   output:=k3.output
   size:=k3.size
   keep:=λb hb hF=>k3.keep b hb hF (λe=>by cases e)}
 rcases he with rfl|rfl
 ·exact i
 exact i
section
variable {w0:Base} {a:Act}
theorem AAD {l:List (Bool×TypeId×Operand)} {ss:List (Option SV)} {K:Act->World->Prop} {Q:Exit->Act->World->Prop} (h:CD w0 FA UA N w a E blk FS US) (hF:FS .hand=[]) (hU:US .hand=[]) {o:Oper} {args:Array Operand} {tys:Array TypeId} (ho:o.op= .call {callee:= .value (.func f),args:=args,argTypes:=tys}) (hf:dC P f) (hd:o.dst=some d) (hN:d<N) (hl:l.map (λx=>x.2.2)=args.toList) {i:List TV} (hg:kW P f as i) {c:Bool} (h1:MN P E l=some (ss,E1)) (h2:Ja P E1 l ss=some (as,c)) (h3:c=true\/A4 i=false) (hK:∀w' v blk' FS' US',CD w0 FA UA N w' (a.put (some d) v) (E1.newBox d i) blk' FS' US'->FS' .hand=[]->US' .hand=[]->K (a.put (some d) v) w'):o.wp P a w K Q:=by
 obtain⟨FS1,US1,F,U,k1,k2,k3,k4,_⟩:=Qr h h1;rw[hF,A5]at k3;rw[hU,A5]at k4;obtain⟨U',k5,k6⟩:=Lj k2 k1 h2;have h9:l.map (λx=>a.eval x.2.2)=(args.map a.eval).toList:=by
  rw[PR,<-hl,GE];rfl
 rw[h9]at k5;have m:∀b∈F,b∉U':=by
  intro b hb hb';rw[<-k3]at hb
  rcases k6 b hb' with h4|⟨r,h4⟩|⟨_,r,h5,h4⟩
  ·rw[<-k4]at h4;exact k2.disU .hand .hand b hb h4
  ·exact k2.disU .hand r b hb h4
  exact k2.dis .hand r (HK h5) b hb h4
 have k:=hg w _ F U' k5 (by rw[<-k3];exact k2.nodup .hand) m (by
  intro b hb
  rcases Ap.1 hb with hb|hb
  ·exact(k2.inF .hand b (by rw[k3];exact hb)).2
  rcases k6 b hb with h4|⟨r,h4⟩|⟨_,r,h5,h4⟩
  ·exact(k2.inU .hand b (by rw[k4];exact h4)).2
  ·exact(k2.inU r b h4).2
  exact(k2.inF r b h4).2)
 unfold Oper.wp;rw[Ij ho hf];simp only[Oper.upon];rw[Rj]at k;refine Calls.mono k ?_;rintro e w' ⟨v,Fr,Ur,G,V,rfl,g⟩;obtain⟨v0,vs0,G1,G2,V1,V2,p,rfl,rfl,⟨b0,a0,T,F0,rfl,e1,e2,rfl,e3⟩,⟨rfl,rfl,rfl⟩⟩:=g.fin
 injection p with p _
 subst p;have t:=g.res;simp only[XI,PU]at t;obtain⟨_,_,_,rfl,rfl⟩:=t;have u:=g.nodup;simp only[A5,A7]at u;have a5:∀b∈b0::F0,(b∈FS1 .hand\/w.heap.size<=b)/\b<w'.heap.size:=by
  intro b hb;have:=g.inF b<|by simpa using hb
  grind
 have y:∀b∈V1,(∃s,b∈US1 s)\/((b∈FS1 .hand\/w.heap.size<=b)/\b∉b0::F0/\b<w'.heap.size):=by
  intro b hb;obtain⟨h4,h5⟩:=g.inU b<|by simpa using hb
  have a4:b∉b0::F0:=λe=>g.dis b (by simpa using e)<|by simpa using hb
  rcases h4 with h4|h4|h4
  ·rcases k6 b h4 with h6|h6|⟨h6,r,h7,h8⟩
   ·grind
   ·exact .inl h6
   rcases h3 with h3|h3
   ·grind
   have:=K0 e2 h3
   grind
  ·grind
  grind
 have j:∀b,b<w.heap.size->b∉FS1 .hand->w'.heap[b]?=w.heap[b]? :=λb hb z=>g.keep b hb<|by grind
 let E2:St:={E1 with boxes:=Ca E1.boxes (.box d)<|some i,ver:=Ca E1.ver (.box d)<|E1.ver (.box d)+1,gen:=Ca E1.gen (.box d) (E1.gen (.box d)+1)}
 let blk1:=Ca blk (.box d) b0
 have a1:Root.box d≠Root.hand:=by simp
 have a2:∀s,Cl w w' a a E1 E2 blk blk1 s:=by
  intro s;by_cases hs:s= .box d
  ·subst hs;exact⟨.inl (by simp[E2,Ca]),.inl<|by simp[E2,Ca]⟩
  have hv:E2.ver s=E1.ver s:=by simp[E2,Ca,hs]
  have hg:E2.gen s=E1.gen s:=by simp[E2,Ca,hs]
  by_cases hh:s= .hand
  ·subst hh;exact Gk hv hg<|by simp[St.root,k2.nohand]
  refine DS k2 hv hg ?_ (λ_ _=>rfl) (λ_=>by simp[blk1,Ca,hs]) (λb hb=>j b (k2.inF s b hb).2<|k2.dis s .hand hh b hb) λb hb=>j b (k2.inU s b hb).2 λe=>k2.disU .hand s b e hb;cases s<;>simp_all [E2,St.root,Ca]
 have g1:=k2.two (w':=w') (a':=a) (E':=E2) (blk':=blk1) (r1:= .box d) (r2:= .hand) (L1:=b0::F0) (L2:=[]) (V1:=V1) (V2:=[]) a1
  (by simpa using u)
  (λb hb=>by grind)
  (λb hb=>by
   have hb':b∈V1:=by simpa using hb
   rcases y b hb' with q|⟨q1,q2,q3⟩
   ·exact .inl q
   grind)
  g.size g.os g.tape g.output (λb hb _ z=>j b hb z) a2
  (λn _ _=>⟨rfl,rfl⟩)
  (λs _ hs _=>⟨by simp[E2,Ca,hs],by simp[blk1,Ca,hs]⟩)
  (.inr ⟨i,a0,T,F0,by simp[E2,Ca],by simp[blk1,Ca,e1],e2,by simp[blk1,Ca]⟩)
  trivial (by simp[E2,Ca,k2.nohand]) k2.len k2.nodef (hfz:=λn hn=>k2.frz n hn)
 have a3:E0 w' a E2 blk1 (.one<|.ptr (.box d) (E2.gen<|.box d) [] 0) (.pointer<|some ⟨b0,0,none⟩) [] []:=by
  have h0:E2.stamp (.box d) []=E2.gen (.box d):=rfl;rw[<-h0];refine Vz ?_ ?_
  ·cases hc:i with
   |nil=>exact absurd hc e3
   |cons x xs=>simp[St.place,St.root,E2,Ca,BG,hc]
  simp[pa,blk1,Ca,Addr.add]
 have g2:=g1.put (d:=d) hN a3 bH.none;have:=hK w' _ blk1 _ _ g2 (by rfl) (by rfl);rw[hd];exact this
end
theorem ACG {l:List AV} {x:Option α} (h:x.bind kk=some r) {f:α->List TV} (g:∀v,x=some v->kW P (PI (oA ops i)) l (f v)) (hk:∀v,x=some v->kk v=some r->RW P N ops (i+1) ((clE P E (oA ops i) 0).newBox ((oA ops i).dst.getD 0) (f v)) Q) (b:bP P E (oA ops i) 0=some l:=by kernel_rfl) (hc:shB P E (oA ops i) 0=true:=by kernel_rfl) (ho:(Rx P ops E i&&Ts P N (oA ops i)&&Gy N (oA ops i))=true:=by kernel_rfl):RW P N ops i E Q:=by
 obtain⟨v,hv,h⟩:=Al.1 h;simp only[Ai]at ho;obtain⟨h1,h2⟩:=HH ho.1.1;obtain⟨args,tys,h3,h4,h5,h6⟩:=OT ho.1.2;obtain⟨d,h7,_,h8⟩:=EM ho.2;have e:=hk v hv h;rw[h7]at e;simp only[AY]at e;unfold RW;rw[GG h1];intro w0 FA UA w a blk FS US hr hF hU;simp only[wpList,Cf hr h2,BX];unfold bP shB shA at*;unfold clE at e
 cases hm:mvA P E (oA ops i) 0 with
 |none=>grind
 |some z=>
  obtain⟨ss,E1⟩:=z;rw[hm]at b hc e;simp only at b hc e
  cases hs:Ja P E1 (bits 0<|G7<|oA ops i) ss with
  |none=>grind
  |some y=>
   obtain⟨as',c⟩:=y;rw[hs]at b hc;simp only[Bw]at b hc
   injection b with b
   subst b;refine .inl<|AAD hr hF hU h3 h4 h7 h8 (l:=bits 0<|G7<|oA ops i) (by rw[PL,h6]) (g v hv) hm hs (.inl hc) λw' v' blk' FS' US' k1 k2 k3=>e _ _ _ _ _ _ _ _ k1 k2 k3
theorem rsp {rs:List ResultVar} {a:List TV} (t:Nat) (h1:rs=[.tmp t]) (h:(match E.ptr? (.tmp t)with
 |some (r,[],0)=>bif r.mem then E.boxes r else none
 |_=>none)=some a):∃t r,rs=[.tmp t]/\E.ptr? (.tmp t)=some (r,[],0)/\r.mem=true/\E.boxes r=some a:=by grind
def xtE (N:Nat) (E:St) (o:Oper):Option St:=match o.op,o.dst with
 | .extract t ix,some d=>bif Nat.blt d N then Oh E d t ix else none
 |_,_=>none
theorem ACJ {w0:Base} {a:Act} (h:CD w0 FA UA N w a E blk FS US) (hF:FS .hand=[]) (hU:US .hand=[]) {o:Oper} (he:xtE N E o=some E'):
  ∃v blk' FS' US',(∀w2,(execOp a.eval o).run P w2= .ok (.value v) w2)/\CD w0 FA UA N w (a.put o.dst v) E' blk' FS' US'/\FS' .hand=[]/\US' .hand=[]:=by
 unfold xtE at he;split at he
 ·rename_i t ix d ho hd
  cases hN:Nat.blt d N with
  |false=>grind
  |true=>
   rw[hN]at he;simp only[Ae]at he;have hN':d<N:=by simpa[B4]using hN
   obtain⟨nx,w',v,blk',FS',US',k1,k2,k3,k4,k5,_⟩:=EG.extract (P:=P) h hF hU ho hd hN' he;have f:∃x,∀w2,(execOp a.eval o).run P w2= .ok (.value x) w2:=by
    unfold Oh at he;split at he
    ·rename_i n;split at he
     ·rename_i ss b;split at he
      ·rename_i s c;have hs:=h.slot n;rw[b]at hs;simp only[E0]at hs;obtain⟨vs,e,hx⟩:=hs;obtain⟨v,A,B,C,D,F1,U1,h1,h2,h3,h4,h5⟩:=YD ix hx c;exact⟨v,λw2=>by simp[execOp,ho,Instr.extract,e,h1]⟩
      cases he
     cases he
    cases he
   grind
 cases he
theorem J4 {ts:List Nat} (i:Nat) (h:KW P N ops ts (i::dn) ((xtE N E (oA ops i)).getD E) Q) (hs:(xtE N E (oA ops i)).isSome=true:=by kernel_rfl) (hk:(Rx P ops E i&&pL ops ts dn i)=true:=by kernel_rfl):KW P N ops ts dn E Q:=by
 have hs':=getD_some (a:=E) hs;generalize hE:(xtE N E<|oA ops i).getD E=E' at h hs';simp only[Ai,pL]at hk;obtain⟨h1,h3,h4⟩:=hk;obtain⟨h5,h6⟩:=HH h1;unfold KW at h⊢;rw[V7 (i:=i) h3];intro hQ hc w0 FA UA w a blk FS US k1 k2 k3;obtain⟨e1,e2,e3,e4,e5⟩:=VI h4;obtain⟨v,blk',FS',US',g1,g2,g3,g4⟩:=ACJ (P:=P) k1 k2 k3 hs';refine MX (v:=v) (n:=ops.size) (IJ h5) (Region.noSelect_spec e1) (λc a w hx=>?_) e4 e5 _ _ a w hc (Region.free_spec (IJ h5) e2) e3 (.inl ⟨Cf k1 h6,λw2 _=>g1 w2⟩) ?_
 ·obtain⟨E',blk',FS',US',m1,_⟩:=hx
  grind
 exact h hQ (LG hc e3) _ _ _ _ _ _ _ _ g2 g3 g4
def kQ (P:Program) (E:St) (o:Oper) (s:SV):Prop:=∀(N:Nat) (w0:Base) (FA UA:List Nat) (w:World) (a:Act) (blk:Root->Nat) (FS US:Root->List Nat),CD w0 FA UA N w a E blk FS US->Fl P w a E blk FS US o s
theorem AEP (hp:kQ P E (oA ops i) s) (h:RW P N ops (i+1) (E.put (oA ops i).dst s) Q) (hk:(Rx P ops E i&&Gy N (oA ops i))=true:=by kernel_rfl):RW P N ops i E Q:=by
 rw[Ai]at hk;obtain⟨h1,h2⟩:=HH hk.1;obtain⟨d,h3,_,h4⟩:=EM hk.2;rw[h3]at h;unfold RW;rw[GG h1];intro w0 FA UA w a blk FS US hr hF hU;simp only[wpList,Cf hr h2,BX];exact .inl<|(LN hr hF hU (hp _ _ _ _ _ _ _ _ _ hr) h3 h4).wp λw' v blk' FS' US' k1 k2 k3 _=>h _ _ _ _ _ _ _ _ k1 k2 k3
theorem AFn {m:Nat} (hp:kQ P E (oA ops i) s) (h:SW P N ops m (i+1) (E.put (oA ops i).dst s) K) (hk:(Rx P ops E i&&Gy N (oA ops i)&&Nat.blt i m)=true:=by kernel_rfl):SW P N ops m i E K:=by
 simp only[Ai]at hk;obtain⟨h1,h2⟩:=HH hk.1.1;obtain⟨d,h3,_,h4⟩:=EM hk.1.2;rw[h3]at h;unfold SW;rw[QV h1 hk.2];intro w0 FA UA w a blk FS US k1 k2 k3;obtain⟨v,U,g1,g2,g3⟩:=hp _ _ _ _ _ _ _ _ _ k1;have hr:=g1 w λr _=>⟨λ_ _=>rfl,λ_ _=>rfl⟩;simp only[wpStill,Cf k1 h2,BX,Oper.still,hr,Oper.stillUpon_value];rw[h3];refine h _ _ _ _ _ _ _ _ (k1.put h4 g2<|PE k1 g3 _) ?_ ?_
 ·rw[Bn (by simp),k2]
 rw[Bn (by simp),k3]
theorem AFo {ts:List Nat} (i:Nat) (hp:kQ P E (oA ops i) s) (h:KW P N ops ts (i::dn) (E.put (oA ops i).dst s) Q) (hk:(Rx P ops E i&&Gy N (oA ops i)&&pL ops ts dn i)=true:=by kernel_rfl):KW P N ops ts dn E Q:=by
 simp only[Ai,pL]at hk;obtain⟨⟨h1,h2⟩,h3,h4⟩:=hk;obtain⟨h5,h6⟩:=HH h1;obtain⟨d,h7,_,h8⟩:=EM h2;unfold KW at h⊢;rw[V7 (i:=i) h3];rw[h7]at h;intro hQ hc w0 FA UA w a blk FS US k1 k2 k3;obtain⟨e1,e2,e3,e4,e5⟩:=VI h4;obtain⟨v,U,g1,g2,g3⟩:=hp _ _ _ _ _ _ _ _ _ k1;refine MX (v:=v) (n:=ops.size) (IJ h5) (Region.noSelect_spec e1) (λc a w hx=>?_) e4 e5 _ _ a w hc (Region.free_spec (IJ h5) e2) e3 (.inl ⟨Cf k1 h6,λw2 e=>?_⟩) ?_
 ·obtain⟨E',blk',FS',US',m1,_⟩:=hx
  grind
 ·exact g1 w2 λr hr=>⟨λb hb=>e.2 b (k1.inF r b hb).2,λb hb=>e.2 b (k1.inU r b hb).2⟩
 rw[h7];refine h hQ (LG hc e3) _ _ _ _ _ _ _ _ (k1.put h8 g2<|PE k1 g3 _) ?_ ?_
 ·rw[Bn (by simp),k2]
 rw[Bn (by simp),k3]
def ADY (o:Oper):Bool:=match o.op with
 | .assign (.const _)| .move (.const _)=>true
 |_=>false
theorem pjk {o:Oper} (h:ADY o=true:=by kernel_rfl):kQ P E o (.one .junk):=by
 intro N w0 FA UA w a blk FS US hr;unfold ADY at h;split at h
 ·rename_i v ho;exact⟨v,[],λw2 _=>by simp[execOp,ho,Act.eval],by simp[E0,CH,TV.isJunk],by simp⟩
 ·rename_i v ho;exact⟨v,[],λw2 _=>by simp[execOp,ho,Act.eval],by simp[E0,CH,TV.isJunk],by simp⟩
 cases h
abbrev pb (n:Nat):SV:= .one (.ptr (.box n) 0 [] 0)
abbrev px (n:Nat):SV:= .one (.ptr (.ext n) 0 [] 0)
abbrev i6 (n:Int):TV:= .int .i64 n
abbrev tb (b:Bool):TV:= .bool b
abbrev ts (s:ByteArray):TV:= .str s
abbrev rg (n:Nat):List AV:=List.replicate n .gone
theorem jr {w:β} {f:V->Option β} {a:V⊕β} (h:some (.inr w)=some a) (hk:Sum.elim f some a=some r):some w=some r:=by grind
theorem jo {w:β} {f:V->Option β} {o:S⊕(V⊕β)} (h:some (.inr (.inr w))=some o) (hk:∀w,o= .inr (.inr w)->Sum.elim f some (.inr w)=some r):some w=some r:=by grind
theorem rr {v r:β} (h:some v=some r):v=r:=Option.some.inj h
theorem rq {e:Exit} {rs:List ResultVar} {a:SV} (he:e= .normal\/e= .ret:=by first|exact .inr rfl|exact .inl rfl) (hk:(DM P E rs).map (λz=>EE z.1)=some a:=by kernel_rfl):(e= .normal\/e= .ret)/\∃ss E',DM P E rs=some (ss,E')/\EE ss=a:=⟨he,rsz hk⟩
theorem rx {e:Exit} {rs:List ResultVar} {b:SV} {a:List TV} (he:e= .normal\/e= .ret:=by first|exact .inr rfl|exact .inl rfl) (hk:(DM P E rs).map (λz=>(EE z.1,z.2.boxes<|.ext 0))=some (b,some a):=by kernel_rfl):(e= .normal\/e= .ret)/\∃ss E',DM P E rs=some (ss,E')/\EE ss=b/\E'.boxes (.ext 0)=some a:=⟨he,rsx hk⟩
section
variable {id:Nat}
theorem ws (h:RW P N ops 0 E (JK (λE'=>Wp P N y E' Q) Q)):Wp P N (.seq (.region id ops false) y) E Q:=Wp.seq<|ACE h
end
theorem BU {f:α->List TV} {n:Int} (hf:∀x,(f x).length=sz) (h:(gi l n).bind kk=some r) (hk:∀x,gi l n=some x->kk x=some r->RW P N ops (i+1) (E.put (oA ops i).dst (nJ E (oA ops i) (n.toNat*sz+0))) Q) (hc:AAe P E (oA ops i) sz=some (AC f l,n):=by kernel_rfl) (hq:yY P N ops i E=true:=by kernel_rfl):RW P N ops i E Q:=
 bd h λx gx h=>RW.q (Io hf gx hc) (hk x gx h) hq
def sU (P:Program) (N:Nat) (ops:Array Oper) (ts dn:List Nat) (E:St) (i:Nat):Option St:=bif Nat.blt i ops.size&&Gy N (oA ops i)&&pL ops ts dn i then
 (match Bu P ops E (oA ops i)with
 |some false=>some<|E.put (oA ops i).dst<|.tup []
 |some true=>match J7 P E (oA ops i)with
  |some s=>some<|E.put (oA ops i).dst s
  |none=>xtE N E<|oA ops i
 |none=>none)else none
theorem tst {ts:List Nat} (hs:sU P N ops ts dn E i=some E') (h:KW P N ops ts (i::dn) E' Q):KW P N ops ts dn E Q:=by
 unfold sU at hs
 cases hb:(Nat.blt i ops.size&&Gy N (oA ops i)&&pL ops ts dn i)with
 |false=>grind
 |true=>
  rw[hb]at hs;simp only[Ae]at hs;split at hs
  ·rename_i hg
   injection hs with hs
   subst hs;exact AEe i h hg hb
  ·rename_i hg;simp only[Ai]at hb;have ho:Rx P ops E i=true:=by simp only[Rx,hb.1.1,hg,MS]
   split at hs
   ·rename_i s a
    injection hs with hs
    subst hs;exact ADv i a h<|by grind
   exact J4 i (by rw[hs];exact h) (by rw[hs];rfl) (by rw[ho,hb.2];rfl)
  cases hs
def uJ (P:Program) (N:Nat) (ops:Array Oper) (ts dn:List Nat) (E:St):List Nat->Option (Nat×St)
 |[]=>none
 |i::l=>match sU P N ops ts dn E i with
  |some E'=>some (i,E')
  |none=>uJ P N ops ts dn E l
theorem n7 {ts:List Nat}:∀{l:List Nat} {E':St},uJ P N ops ts dn E l=some (i,E')->sU P N ops ts dn E i=some E'
 |[],_,h=>by cases h
 |j::l,E',h=>by
  simp only[uJ]at h;split at h
  ·grind
  exact n7 h
def ACC (P:Program) (N:Nat) (ops:Array Oper) (ts:List Nat) (mv:List Nat) (E:St) (i:Nat):Option St:=bif Rx P ops E i&&(kp (oA ops i)||ts.contains i)then Cu P N (mv.contains i) E (oA ops i)else none
def AB4 (f:A->Option (List St)):List A->Option (List St)
 |[]=>some []
 |x::l=>match f x,AB4 f l with
  |some a,some b=>some (a++b)
  |_,_=>none
theorem oU {f:A->Option (List St)}:∀{l:List A} {L:List St},AB4 f l=some L->∀x∈l,∃a,f x=some a/\∀E∈a,E∈L
 |[],_,_,x,hx=>by cases hx
 |y::l,L,h,x,hx=>by
  simp only[AB4]at h;split at h
  ·rename_i a b h1 h2
   injection h with h
   subst h
   rcases DE.1 hx with rfl|hx
   ·grind
   obtain⟨a',h3,h4⟩:=oU h2 x hx
   grind
  cases h
def vJ (P:Program) (N:Nat) (ops:Array Oper) (ts mv:List Nat):Nat->List Nat->St->Option (List St)
 |0,_,_=>none
 |n+1,dn,E=>match Region.ready .any ops (lsd ops.size dn)with
  |[]=>some [E]
  |rs=>bif Nat.blt dn.length ops.size then(match uJ P N ops ts dn E rs with
   |some (i,E')=>vJ P N ops ts mv n (i::dn) E'
   |none=>AB4 (λi=>match ACC P N ops ts mv E i with
    |some E'=>vJ P N ops ts mv n (i::dn) E'
    |none=>none) rs)else none
theorem sH {ts:List Nat} {mv:List Nat}:∀{n:Nat} {dn:List Nat} {E:St} {L:List St},vJ P N ops ts mv n dn E=some L->(∀E'∈L,Q .normal E')->KW P N ops ts dn E Q
 |0,_,_,_,h,_=>by cases h
 |n+1,dn,E,L,h,hq=>by
  simp only[vJ]at h;split at h
  ·rename_i hr
   injection h with h
   subst h;exact KW.done (hq E (by simp)) (by rw[hr];rfl)
  rename_i b
  cases hb:Nat.blt dn.length ops.size with
  |false=>rw[hb]at h;cases h
  |true=>
   rw[hb]at h;simp only[Ae]at h;split at h
   ·rename_i i E' hf;exact tst (n7 hf) (sH h hq)
   refine KW.all _ (λi hi=>?_) b (by simp only[rdy,hb,Bool.and_true,beq_self_eq_true]);obtain⟨a,h1,h2⟩:=oU h i hi;split at h1
   ·rename_i E' hs;unfold ACC at hs
    cases hc:(Rx P ops E i&&(kp (oA ops i)||ts.contains i))with
    |false=>grind
    |true=>
     rw[hc]at hs;exact FJ hs (sH h1 λE'' hE=>hq E''<|h2 E'' hE) hc
   cases h1
def zH (P:Program) (N:Nat) (ops:Array Oper) (ts mv dn:List Nat) (E:St):List St:=(vJ P N ops ts mv (ops.size+1) dn E).getD []
theorem nP {X:Prop} {c:List PanicEntry} (h:(Exit.panic c= .normal\/Exit.panic c= .ret)/\X):False:=by grind
section
variable {w0:Base} {a:Act}
theorem CD.resay (h:CD w0 FA UA N w a E blk FS US) (hd:d<N) (hs:E0 w a E blk s (a.eval (.tmp d)) [] []):∃FS' US',CD w0 FA UA N w a (E.put (some d) s) blk FS' US'/\FS' .hand=FS .hand/\US' .hand=US .hand:=by
 have k:=h.put (F:=[]) (U:=[]) hd hs bH.none;have e:a.put (some d) (a.eval<|.tmp d)=a:=by
  cases a with
  |mk tmps defers=>
   have hl:d<tmps.size:=AU hd h.len;simp only[Act.put,Act.eval];congr 1;apply Array.ext (by simp);intro i h1 h2;rw[Array.getElem_setIfInBounds];split
   ·rename_i e;subst e;simp[hl]
   rfl
 rw[e]at k;exact⟨_,_,k,Bn (by simp),Bn<|by simp⟩
end
theorem CD.toAdr {w0:Base} {a:Act} (h:CD w0 FA UA N w a E blk FS US) (hd:d<N) (hs:E.ptr? (.tmp d)=some (.ext 0,[],0)) (hp:E.amb.pin=some b):∃FS' US',CD w0 FA UA N w a (E.put (some d) (.one (.adr ⟨b,0,none⟩))) blk FS' US'/\FS' .hand=FS .hand/\US' .hand=US .hand:=by
 obtain⟨_,ad,h1,h2⟩:=K1 h hs;refine h.resay hd ?_;rw[h2];have e:=h.xblk 0;rw[h.pin b hp]at e;simp only[pa,e,Addr.add]at h1
 injection h1 with h1
 subst h1;refine⟨?_,λ_=>rfl⟩;show Cq w (.adr ⟨b,0,none⟩) _ [] [];simp[Cq]
section
variable {w0:Base} {a:Act}
theorem CD.toPtr (h:CD w0 FA UA N w a E blk FS US) (hd:d<N) (hs:E.slots d= .one (.adr ⟨b,0,none⟩)) (hp:E.amb.pin=some b) {f:List TV} (hb:E.boxes (.ext 0)=some f) (g:f.isEmpty=false):
  ∃FS' US',CD w0 FA UA N w a (E.put (some d) (.one (.ptr (.ext 0) (E.gen (.ext 0)) [] 0))) blk FS' US'/\FS' .hand=FS .hand/\US' .hand=US .hand:=by
 have hv:a.eval (.tmp d)= .pointer (some ⟨b,0,none⟩):=by
  have:=h.slot d;rw[hs]at this;simp only[E0,CH,Cq]at this;exact this.1.1
 refine h.resay hd ?_;have e:=h.xblk 0;rw[h.pin b hp]at e;refine⟨⟨rfl,rfl,Ax _,λ_=>⟨?_,⟨b,0,none⟩,?_,hv⟩⟩,λ_=>by rw[hv];rfl⟩
 ·cases f with
  |nil=>cases g
  |cons c cs=>simp[St.place,St.root,hb,BG]
 simp[pa,e,Addr.add]
end
def pnE (E:St) (d b:Nat):St:=E.put (some d)<|.one<|.adr ⟨b,0,none⟩
def ACX (N:Nat) (E:St) (d:Nat):Bool:=Nat.blt d N&&(match E.ptr? (.tmp d)with
 |some (.ext 0,[],0)=>true
 |_=>false)
theorem ABm (h:ACX N E d=true):d<N/\E.ptr? (.tmp d)=some (.ext 0,[],0):=by
 simp only[ACX,Ai]at h;refine⟨by simpa[B4]using h.1,?_⟩
 grind
theorem AEc (d:Nat) (h:RW P N ops i (pnE E d b) Q) (hp:E.amb.pin=some b:=by kernel_rfl) (ho:ACX N E d=true:=by kernel_rfl):RW P N ops i E Q:=by
 intro w0 FA UA w a blk FS US hr hF hU;obtain⟨h1,h2⟩:=ABm ho;obtain⟨FS',US',k1,k2,k3⟩:=hr.toAdr h1 h2 hp;exact h _ _ _ _ _ _ _ _ k1 (by rw[k2,hF])<|by rw[k3,hU]
def npE (E:St) (d:Nat):St:=E.put (some d)<|.one<|.ptr (.ext 0) (E.gen<|.ext 0) [] 0
def ABy (N:Nat) (E:St) (d:Nat):Bool:=Nat.blt d N&&(match E.boxes (.ext 0)with
 |some cells=>!cells.isEmpty
 |none=>false)
theorem tX (h:ABy N E d=true):d<N/\∃a,E.boxes (.ext 0)=some a/\a.isEmpty=false:=by
 simp only[ABy,Ai]at h;refine⟨by simpa[B4]using h.1,?_⟩
 grind
theorem o7 (d:Nat) (h:RW P N ops i (npE E d) Q) (hp:E.amb.pin=some b:=by kernel_rfl) (hs:E.slots d= .one (.adr ⟨b,0,none⟩):=by kernel_rfl) (ho:ABy N E d=true:=by kernel_rfl):RW P N ops i E Q:=by
 intro w0 FA UA w a blk FS US hr hF hU;obtain⟨h1,c,h2,h3⟩:=tX ho;obtain⟨FS',US',k1,k2,k3⟩:=hr.toPtr h1 hs hp h2 h3;exact h _ _ _ _ _ _ _ _ k1 (by rw[k2,hF])<|by rw[k3,hU]
theorem uS {ts:List Nat} (d:Nat) (h:KW P N ops ts dn (npE E d) Q) (hp:E.amb.pin=some b:=by kernel_rfl) (hs:E.slots d= .one (.adr ⟨b,0,none⟩):=by kernel_rfl) (ho:ABy N E d=true:=by kernel_rfl):KW P N ops ts dn E Q:=by
 intro hq hc w0 FA UA w a blk FS US hr hF hU;obtain⟨h1,c,h2,h3⟩:=tX ho;obtain⟨FS',US',k1,k2,k3⟩:=hr.toPtr h1 hs hp h2 h3;exact h hq hc _ _ _ _ _ _ _ _ k1 (by rw[k2,hF])<|by rw[k3,hU]
structure WP (n c b g cap:Nat) (e T T':TypeId) (sz:Nat) (rest:List Value) (enc:γ->List TV) (w:World) (l:List γ):Prop where
 ne:b≠g/\c≠g/\c≠b
 len:l.length=n
 ptr:w.heap[c]?=some (.cells #[.pointer (some ⟨b,0,none⟩)] T' (0,0))
 box:w.heap[b]?=some (.cells (.slice (some ⟨g,0,none⟩) n cap::rest).toArray T (0,0))
 row:∃cur,w.heap[g]?=some (.cells cur e (0,0))/\cur.size=cap*sz/\cur.toList.take (l.length*sz)=(AC enc l).map TV.val
 le:l.length<=cap/\cap<=maxLen
theorem tG {e:TypeId} {l:List γ} {k:Nat} {n c b g cap:Nat} {rest:List Value} {enc:γ->List TV} (h:WP n c b g cap e T T' sz rest enc w l) (hk:k<l.length*sz):w.cell? ⟨g,k,none⟩=((AC enc l).map TV.val)[k]? :=by
 obtain⟨a,h1,h2,h3⟩:=h.row;rw[<-h3,Es,AB hk];simp[World.cell?,h1]
def HO (n c b g cap:Nat) (e T T':TypeId) (sz:Nat) (rest:List Value) (enc:γ->List TV) (l:List γ):Rv where
 B:=[c,b,g]
 I:=λw=>WP n c b g cap e T T' sz rest enc w l
 st:=λw w' h hk=>⟨h.ne,h.len,by rw[hk c<|by simp];exact h.ptr,by rw[hk b<|by simp];exact h.box,by rw[hk g<|by simp];exact h.row,h.le⟩
 rd:=λad=>if ad.spot.isSome=true then none else if ad.block=c then(if ad.off=0 then some (.pointer<|some ⟨b,0,none⟩)else none)else if ad.block=b then(if ad.off=0 then some (.slice (some ⟨g,0,none⟩) n cap)else none)else if ad.block=g then(if ad.off<l.length*sz then((AC enc l).map TV.val)[ad.off]? else none)else none
 rdI:=λw ad v h hr=>by
  obtain⟨bl,off,spot⟩:=ad
  cases spot with
  |some s=>simp at hr
  |none=>
   simp only[F7,CL,FN]at hr;split at hr
   ·rename_i hb;subst hb;split at hr
    ·rename_i ho;subst ho
     injection hr with hr
     subst hr;simp[World.cell?,h.ptr]
    cases hr
   split at hr
   ·rename_i hb;subst hb;split at hr
    ·rename_i ho;subst ho
     injection hr with hr
     subst hr;simp[World.cell?,h.box]
    cases hr
   split at hr
   ·rename_i hg;subst hg;split at hr
    ·rename_i ho;rw[tG h ho];exact hr
    cases hr
   cases hr
theorem lI {e:TypeId} {ie:TypeInfo} {c b g cap:Nat} {rest:List Value} {enc:γ->List TV} (h:∀x,(enc x).length=sz) (n:Nat) (gS:Bool) (hx:∀args W,(callFunc sf args).run P W=((Extern.ReflectliteSwapper.swap gS args).run P W).andThen λv w'=> .ok (.value v) w') (a2:P.info? e=some ie) (o:ie.size=sz) (h0:∀w,(isAgg e).run P w= .ok true w):
  MP P (HO n c b g cap e T T' sz rest enc) sf #[.slice (some ⟨g,0,none⟩) n cap,typeHandle P e]:=by
 intro l i j x y hi hj w hI hB;obtain⟨⟨h3,h4,h5⟩,hn,h6,h7,h8,r⟩:=hI;have b0:b<w.heap.size:=hB b (by simp[HO]);have b1:c<w.heap.size:=hB c (by simp[HO]);have b2:g<w.heap.size:=hB g (by simp[HO]);obtain⟨f,hg,h9,a0⟩:=h8;obtain⟨i0,i1⟩:=I5 hi;obtain⟨j0,j1⟩:=I5 hj;obtain⟨a,rfl⟩:=Cp i0;obtain⟨d,rfl⟩:=Cp j0;simp only[Bi]at i1 j1;have la:=(Af.1 i1).1;have lc:=(Af.1 j1).1;have hX:((enc x).map TV.val).length=sz:=by grind
 have hY:((enc y).map TV.val).length=sz:=by grind
 have p:l.length*sz<=f.size:=by rw[h9];exact BJ _ r.1
 have a3:(a+1)*sz<=l.length*sz:=BJ _ la;have a4:(d+1)*sz<=l.length*sz:=BJ _ lc;rw[Ei]at a3 a4;have hI:WP n c b g cap e T T' sz rest enc w l:=⟨⟨h3,h4,h5⟩,hn,h6,h7,⟨f,hg,h9,a0⟩,r⟩;have cell:∀(m:Nat) (z:γ),l[m]?=some z->∀k v,((enc z).map TV.val)[k]?=some v->w.cell? ⟨g,0+m*ie.size+k,none⟩=some v:=by
  intro m z hm k v hk;have a5:=(Af.1 hk).1;rw[Bm,h]at a5;have lm:=(Af.1 hm).1;have a6:(m+1)*sz<=l.length*sz:=BJ _ lm;rw[Ei]at a6;rw[o,HL,tG hI<|by omega];have e1:(AC enc l)[m*sz+k]?=(enc z)[k]? :=by
   have h2:(AC enc l)[m*sz+k]?=((AC enc l).drop<|m*sz)[k]? :=by grind
   rw[h2,Kc h l m,AL lm,QS]
   grind
  grind
 have frz:∀(m k:Nat),w.frozen? ⟨g,0+m*ie.size+k,none⟩=false:=by
  intro m k;simp[World.frozen?,hg]
 have q:=Go.Lib.run_swap_cells (P:=P) gS e ie a2 h0 g 0 n cap a d (by omega) (by omega) ((enc x).map TV.val) ((enc y).map TV.val) (by rw[hX,o]) (by rw[hY,o]) (λv hv=>by obtain⟨t,_,rfl⟩:=A9.1 hv;exact XW) (λv hv=>by obtain⟨t,_,rfl⟩:=A9.1 hv;exact XW) w (cell a x i1) (cell d y j1) (λk _=>frz a k) λk _=>frz d k;simp only[HL,o]at q;have h1:=Jx e (0,0) g ((enc y).map TV.val) (a*sz) f w hg (by rw[hY];omega);have a7:(setRow f.toList (a*sz)<|(enc y).map TV.val).toArray.size=f.size:=by
  rw[List.size_toArray,Fp (by rw[hY];simp;omega)];simp
 have h2:=Jx e (0,0) g ((enc x).map TV.val) (d*sz) _ _ h1 (by rw[a7,hX];omega);have kB:∀k,k<w.heap.size->k≠g->((w.setCells g (a*sz)<|(enc y).map TV.val).setCells g (d*sz)<|(enc x).map TV.val).heap[k]?=w.heap[k]? :=by
  intro k hk a1;have s1:(w.setCells g (a*sz)<|(enc y).map TV.val).heap.size=w.heap.size:=G3 g _ _ _;rw[World.heap_setCells_other _ g _ _ (by rw[s1];exact hk) a1,World.heap_setCells_other _ g _ _ hk a1]
 refine⟨(w.setCells g (a*sz)<|(enc y).map TV.val).setCells g (d*sz)<|(enc x).map TV.val,?_,⟨?_,?_,?_,?_,?_⟩,?_⟩
 ·rw[hx];have ea:(#[Value.int .i64 (a:Int),Value.int .i64 (d:Int)]++ #[Value.slice (some ⟨g,0,none⟩) n cap,typeHandle P e])= #[.int .i64 (a:Int),.int .i64 (d:Int),.slice (some ⟨g,0,none⟩) n cap,typeHandle P e]:=rfl;rw[ea,q];rfl
 ·rw[World.os_setCells,World.os_setCells]
 ·rw[Je,Je]
 ·rw[World.output_setCells,World.output_setCells]
 ·rw[G3,G3];exact Ax _
 ·intro k hk a8;exact kB k hk λe=>a8 (by rw[e];simp[HO])
 have s:(si (si l (a:Int) y) (d:Int) x).length=l.length:=by simp[si]
 have lcur:f.toList.length=f.size:=by simp
 have u:(setRow f.toList (a*sz)<|(enc y).map TV.val).length=f.size:=by omega
 have b3:(setRow (setRow f.toList (a*sz)<|(enc y).map TV.val) (d*sz)<|(enc x).map TV.val).length=f.size:=by rw[Fp (by rw[hX,u];omega),u]
 show WP n c b g cap e T T' sz rest enc _<|si (si l (a:Int) y) (d:Int) x;refine⟨⟨h3,h4,h5⟩,s.trans hn,by grind,by grind,⟨_,h2,?_,?_⟩,by rw[s];exact r⟩
 ·grind
 rw[s];show(setRow (setRow f.toList (a*sz)<|(enc y).map TV.val) (d*sz)<|(enc x).map TV.val).take (l.length*sz)=_;rw[Md (by rw[hX];omega) (by rw[u];exact p),Md (by rw[hY];omega) (by rw[lcur];exact p),a0,<-Qs,<-Qs];have e1:setRow (AC enc l) (a*sz) (enc y)=AC enc (si l (a:Int) y):=by
  have:=SB h (z:=y) hi
  rwa [Bi]at this
 obtain⟨z0,a9⟩:∃z0,gi (si l (a:Int) y) (d:Int)=some z0:=by
  have lc2:d<(si l (a:Int) y).length:=by simp only[si,HF];exact lc
  refine⟨(si l (a:Int) y)[d],?_⟩;unfold gi;simp
 have e2:=SB h (z:=x) a9;rw[Bi]at e2;rw[e1,e2]
theorem tO {e:TypeId} {l:List γ} {n c b g cap:Nat} {rest:List Value} {enc:γ->List TV}:(HO n c b g cap e T T' sz rest enc l).rd ⟨c,0,none⟩=some (.pointer (some ⟨b,0,none⟩)):=by
 simp[HO]
theorem tP {e:TypeId} {l:List γ} {n c b g cap:Nat} {rest:List Value} {enc:γ->List TV} (h:c≠b):(HO n c b g cap e T T' sz rest enc l).rd ⟨b,0,none⟩=some (.slice (some ⟨g,0,none⟩) n cap):=by
 simp[HO,h.symm]
theorem tN {e:TypeId} {l:List γ} {i:Int} {k:Nat} {t:TV} {n c b g cap:Nat} {rest:List Value} {enc:γ->List TV} (a:∀x,(enc x).length=sz) {x:γ} {ad:Addr} (hi:gi l i=some x) (hk:(enc x)[k]?=some t) (hb:b≠g) (hc:c≠g) (d:ad=⟨g,i.toNat*sz+k,none⟩):(HO n c b g cap e T T' sz rest enc l).rd ad=some t.val:=by
 subst d;obtain⟨i0,i1⟩:=I5 hi;have lm:=(Af.1 i1).1;have f:=(Af.1 hk).1;rw[a]at f;have h:(i.toNat+1)*sz<=l.length*sz:=BJ _ lm;rw[Ei]at h;have e1:(AC enc l)[i.toNat*sz+k]?=(enc x)[k]? :=by
  have h2:(AC enc l)[i.toNat*sz+k]?=((AC enc l).drop<|i.toNat*sz)[k]? :=by grind
  rw[h2,Kc a l i.toNat,AL lm,QS]
  grind
 simp only[HO,F7,CL,FN]
 grind
theorem AAP {o:Oper} (d:Nat) {ad:Addr} {x:Nat} (hk:FL P N ops rest (E.put (some d) (.one (.adr ad))) K) (hs:E.slots x= .one (.adr ad)) (ho:o.op= .nilCheck (.tmp x):=by rfl) (hd:o.dst=some d:=by rfl) (hN:Nat.blt d N=true:=by rfl) (hg:Bu P ops E o=some true:=by rfl):FL P N ops (o::rest) E K:=
 FL.any d (.adr ad) hk (λw0 FA UA w a blk FS US h=>by
  have h1:=kN h hs;refine⟨.pointer<|some ad,?_,by simp[Cq],rfl⟩
  simp[execOp,ho,h1,Instr.sureAddr]) hd hN hg
def Uu (o:Oper):Nat:=o.dst.getD 0
def AEr (E:St) (ops:Array Oper) (i:Nat) (r:Root) (t:TV):St:=(((((E.put (some<|Uu<|oA ops i)<|.one .junk).put (some<|Uu<|oA ops<|i+1)<|.one .junk).setRoot r [t]).bump r).put (some<|Uu<|oA ops<|i+2)<|.tup [])
def ACL:Operand->Nat
 | .tmp n=>n
 |_=>0
def lK (o:Oper):Nat:=match o.op with
 | .makeInterface _ x=>ACL x
 |_=>0
def gN (o:Oper):Nat:=match o.op with
 | .makeFunc _ _ c=>ACL<|c[0]?.getD<|.tmp 0
 |_=>0
def ACN (o:Oper):Array TypeId:=match o.op with
 | .call c=>c.argTypes
 |_=> #[]
def dR (s:SV):Nat:=match s with
 | .one (.view _ v _ _)=>v
 |_=>0
theorem RW.srt {rr:β} {l:List γ} {kk:List γ->Option β} {x:Option (List γ)} (h:x.bind kk=some rr) {enc:γ->List TV} {a:FuncId} (r:Root) (hs:∀l',x=some l'->Tk P (PI (oA ops (i+2))) t e sz enc a l l') (hk:∀l',x=some l'->kk l'=some rr->RW P N ops (i+3) (AEr E ops i r (.sl true e sz (AC enc l'))) Q) (b:∀x,(enc x).length=sz) (d:∀x,(enc x).all TV.flat=true) (hx:E.slots (lK (oA ops i))= .one (.view r (dR (E.slots (lK (oA ops i)))) [] 0):=by kernel_rfl) (c:E.ver r=dR (E.slots<|lK<|oA ops i):=by kernel_rfl) (hp:E.ptr? (.tmp<|gN<|oA ops<|i+1)=some (r,[],0):=by kernel_rfl) (hc:E.boxes r=some [.sl true e sz<|AC enc l]:=by kernel_rfl) (hm:r.mem=true:=by kernel_rfl) (h1:(oA ops i).op= .makeInterface t (.tmp<|lK<|oA ops i):=by kernel_rfl) (h2:(oA ops<|i+1).op= .makeFunc (.func a) #[] #[.tmp<|gN<|oA ops<|i+1]:=by kernel_rfl) (h3:(oA ops<|i+2).op= .call {callee:= .value (.func<|PI<|oA ops<|i+2),args:= #[.tmp<|Uu<|oA ops i,.tmp<|Uu<|oA ops<|i+1],argTypes:=ACN (oA ops<|i+2)}:=by kernel_rfl) (k1:(oA ops i).dst=some (Uu<|oA ops i):=by kernel_rfl) (k2:(oA ops<|i+1).dst=some (Uu<|oA ops<|i+1):=by kernel_rfl) (k3:(oA ops<|i+2).dst=some (Uu<|oA ops<|i+2):=by kernel_rfl) (g1:(oA ops i).guard=none:=by kernel_rfl) (g2:(oA ops<|i+1).guard=none:=by kernel_rfl) (g3:(oA ops<|i+2).guard=none:=by kernel_rfl) (hN:(Nat.blt (Uu<|oA ops i) N&&Nat.blt (Uu<|oA ops<|i+1) N&&Nat.blt (Uu<|oA ops<|i+2) N&&!Nat.beq (Uu<|oA ops i) (Uu<|oA ops<|i+1)&&!Nat.beq (gN<|oA ops<|i+1) (Uu<|oA ops i)&&Nat.blt 0 sz&&Nat.blt (i+2) ops.size)=true:=by kernel_rfl) (ht:P.underlying t=some (.slice e):=by kernel_rfl) (hf:Ts P N (oA ops<|i+2)=true:=by kernel_rfl):RW P N ops i E Q:=by
 obtain⟨l',hl',h⟩:=Al.1 h;simp only[Ai,Dv]at hN;obtain⟨⟨⟨⟨⟨⟨q1,q2⟩,q3⟩,q4⟩,q5⟩,q6⟩,q7⟩:=hN;have b2:Nat.blt (i+1) ops.size=true:=by rw[B4]at q7⊢;omega
 have b1:Nat.blt i ops.size=true:=by rw[B4]at q7⊢;omega
 have hk':=hk l' hl' h;unfold RW at hk'⊢;rw[GG b1,GG b2,GG q7];exact GW.srt (hs l' hl') hk' b d hx c hp hc hm h1 h2 h3 k1 k2 k3 g1 g2 g3 q1 q2 q3 q4 q5 q6 ht (OT hf).choose_spec.choose_spec.2.1
def kM (o:Oper):Nat:=match o.op with
 | .call c=>match c.args.toList with
  |[x]=>ACL x
  |_=>0
 |_=>0
def lE (s:SV):Nat:=match s with
 | .one (.view (.slot n) _ _ _)=>n
 |_=>0
def VT (P:Program) (f:FuncId) (t e sz:Nat) (enc:γ->List TV) (g:FuncId) (l l':List γ):Prop:=∀(w:World) (c b:Nat) (v:Value) (rest:List Value) (T T':TypeId),w.heap[c]?=some (.cells #[.pointer<|some ⟨b,0,none⟩] T' (0,0))->w.heap[b]?=some (.cells (v::rest).toArray T (0,0))->w.ownsRow 0 e sz v l.length ((AC enc l).map TV.val)->b∉BM v->c∉BM v->c≠b->
  Calls P f #[.iface t v,.func (.func g) #[] #[.pointer<|some ⟨c,0,none⟩]] w λr w'=>r= .returned (.tuple #[])/\GB w w' (c::b::BM v)/\w'.heap[c]?=w.heap[c]? /\w'.heap[b]?=w.heap[b]? /\w'.ownsRow 0 e sz v l'.length ((AC enc l').map TV.val)
def AAd (c b:Nat) (v:Value) (rest:List Value) (T T':TypeId) (e sz n:Nat) (xs:List Value):Rv where
 B:=c::b::BM v
 I:=λw=>w.heap[c]?=some (.cells #[.pointer<|some ⟨b,0,none⟩] T' (0,0))/\w.heap[b]?=some (.cells (v::rest).toArray T (0,0))/\w.ownsRow 0 e sz v n xs
 st:=λw w' h hk=>⟨by grind,by grind,h.2.2.1,by
  rcases h.2.2.2 with q|⟨g,cap,a,rfl,q1,q2,q3⟩
  ·exact .inl q
  exact .inr ⟨g,cap,a,rfl,q1,by rw[hk g<|by simp[BM,Value.ownBlock]];exact q2,q3⟩⟩
theorem ACb {l:List γ} {rc:Root} {o1 o2 o3:Oper} {ver:Nat} {enc:γ->List TV} {f c:FuncId} {rs:List TV} {d1 d2 d3 x p b0:Nat} {tys:Array TypeId} (hs:VT P f t e sz enc c l l') (hk:GW P N ops rest (((((E.put (some d1) (.one .junk)).put (some d2) (.one .junk)).setRoot (.ext 0) (.sl true e sz (AC enc l')::rs)).bump (.ext 0)).put (some d3) (.tup [])) Q) (m:∀x,(enc x).length=sz) (i:∀x,(enc x).all TV.flat=true) (hpin:E.amb.pin=some b0) (hx:E.slots x= .one (.view (.ext 0) ver [] 0)) (o:E.ver (.ext 0)=ver) (hp:E.ptr? (.tmp p)=some (rc,[],0)) (hc:E.boxes (.ext 0)=some (.sl true e sz (AC enc l)::rs)) (u:E.boxes rc=some [.adr ⟨b0,0,none⟩]) (hm:rc.mem=true) (h1:o1.op= .makeInterface t (.tmp x)) (h2:o2.op= .makeFunc (.func c) #[] #[.tmp p]) (h3:o3.op= .call {callee:= .value (.func f),args:= #[.tmp d1,.tmp d2],argTypes:=tys}) (k1:o1.dst=some d1) (k2:o2.dst=some d2) (k3:o3.dst=some d3) (g1:o1.guard=none) (g2:o2.guard=none) (g3:o3.guard=none) (h8:Nat.blt d1 N=true) (h9:Nat.blt d2 N=true) (a0:Nat.blt d3 N=true) (a1:Nat.beq d1 d2=false) (y:Nat.beq p d1=false) (a2:Nat.blt 0 sz=true) (ht:P.underlying t=some (.slice e)) (hf:dC P f):GW P N ops (o1::o2::o3::rest) E Q:=by
 have hN1':d1<N:=by simpa[B4]using h8
 have hN2':d2<N:=by simpa[B4]using h9
 have hN3':d3<N:=by simpa[B4]using a0
 have hne':d1≠d2:=by intro e;subst e;simp at a1
 have hne2':p≠d1:=by intro e;subst e;simp at y
 have hsz':0<sz:=by simpa[B4]using a2
 have a3:rc≠ .ext 0:=by grind
 intro w0 FA UA w a blk FS US hr hF hU;have z:blk (.ext 0)=b0:=by rw[hr.xblk,hr.pin b0 hpin]
 obtain⟨v,vs,T,F2,U1,U2,b1,b2,b3,b4,b5⟩:∃v vs T F2 U1 U2,w.heap[blk<|.ext 0]?=some (.cells (v::vs).toArray T (0,0))/\(∃F1,Cq w (.sl true e sz<|AC enc l) v F1 U1/\FS (.ext 0)=blk (.ext 0)::(F1++F2))/\Bl w rs vs F2 U2/\US (.ext 0)=U1++U2/\True:=by
  rcases hr.box (.ext 0) rfl with⟨q1,_⟩|⟨cs,g,T,F,q1,q2,q3,q4⟩
  ·grind
  rw[hc]at q1
  injection q1 with q1
  subst q1;simp only[Bl]at q3;obtain⟨v,k,F1,F2,U1,U2,e1,rfl,e3,q5,q6⟩:=q3;have:g=(v::k).toArray:=by grind
  grind
 obtain⟨F1,b2,b6⟩:=b2;obtain⟨T',c1⟩:∃T',w.heap[blk rc]?=some (.cells #[.pointer<|some ⟨b0,0,none⟩] T' (0,0)):=by
  rcases hr.box rc hm with⟨q1,_⟩|⟨cs,g,T,F,q1,q2,q3,q4⟩
  ·grind
  rw[u]at q1
  injection q1 with q1
  subst q1;simp only[Bl,Cq]at q3;obtain⟨v,k,F1,F2,U1,U2,e1,rfl,e3,⟨rfl,_⟩,rfl,_⟩:=q3;have:g= #[.pointer<|some ⟨b0,0,none⟩]:=by grind
  grind
 have a4:blk rc∈FS rc:=by
  rcases hr.box rc hm with⟨q1,_⟩|⟨cs,g,T,F,q1,q2,q3,q4⟩
  ·grind
  rw[q4];simp
 simp only[Cq]at b2;obtain⟨n,xs,F',b7,b8,rfl⟩:=b2;have a5:=Vt b8<|Gh i l;obtain⟨rfl,rfl⟩:=L3 b8<|Gh i l;subst a5;have a6:n=l.length:=by
  have q:=b7.1;rw[Bm,EL m l]at q;exact(Nat.eq_of_mul_eq_mul_right hsz' q).symm
 subst a6;rw[A7]at b6;rw[A5]at b4;have h0:=hr.nodup<|.ext 0;rw[b6]at h0
 have a7:blk (.ext 0)∉BM v:=λhx=>(CS.1 h0).1<|Bp _ hx
 have h4:∀x∈FS (.ext 0),x≠blk rc:=λx hx e=>hr.dis _ _ a3 _ a4<|e▸hx
 have a8:blk rc∉BM v:=λhx=>h4 (blk rc) (by grind) rfl
 have a9:blk rc≠blk (.ext 0):=λe=>h4 (blk<|.ext 0) (by rw[b6];simp) e.symm
 have evx:a.eval (.tmp x)=v:=by
  have q:=hr.slot x;rw[hx]at q;simp only[E0,CH]at q;obtain⟨⟨_,_,_,q4⟩,_⟩:=q;obtain⟨q5,_⟩:=q4 o;simpa[pv,BF,Addr.add,World.cell?,b1]using q5.symm
 have evp:a.eval (.tmp p)= .pointer (some ⟨blk rc,0,none⟩):=by
  obtain⟨_,ad,q1,q2⟩:=K1 hr hp;rw[q2]
  cases rc with
  |slot n=>cases hm
  |hand=>cases hm
  |box n=>simp[pa,Addr.add]at q1;rw[<-q1]
  |ext n=>simp[pa,Addr.add]at q1;rw[<-q1]
 obtain⟨FS1,US1,r1,r2,r3⟩:=V8 hr hF hU hN1'<|.iface t v;have e1:(execOp a.eval o1).run P w= .ok (.value<|.iface t v) w:=by
  simp[execOp,h1,Instr.makeInterface,run_underlying ht,evx]
 simp only[wpList,Cf hr<|JH (P:=P) (ops:=ops) g1,BX];refine .inl ?_
 try unfold Oper.wp
 rw[e1,Oper.upon_value,k1];have evp1:(a.put (some d1)<|.iface t v).eval (.tmp p)= .pointer (some ⟨blk rc,0,none⟩):=by rw[Dl hne2',evp]
 obtain⟨FS2,US2,s1,s2,s3⟩:=V8 r1 r2 r3 hN2'<|.func (.func c) #[] #[.pointer<|some ⟨blk rc,0,none⟩];have e2:(execOp (a.put (some d1)<|.iface t v).eval o2).run P w= .ok (.value<|.func (.func c) #[] #[.pointer<|some ⟨blk rc,0,none⟩]) w:=by
  simp[execOp,h2,Instr.makeFunc,evp1]
 simp only[wpList,Cf r1<|JH (P:=P) (ops:=ops) g2,BX];refine .inl ?_
 try unfold Oper.wp
 rw[e2,Oper.upon_value,k2];simp only[wpList,Cf s1<|JH (P:=P) (ops:=ops) g3,BX];refine .inl ?_;have c0:d1<a.tmps.size:=AU hN1' hr.len;have c2:d2<(a.put (some d1)<|.iface t v).tmps.size:=AU hN2' r1.len
 try unfold Oper.wp
 rw[Ij h3 hf];have ea: #[Operand.tmp d1,.tmp d2].map ((a.put (some d1)<|.iface t v).put (some d2)<|.func (.func c) #[] #[.pointer<|some ⟨blk rc,0,none⟩]).eval= #[.iface t v,.func (.func c) #[] #[.pointer<|some ⟨blk rc,0,none⟩]]:=by
  simp[Gx c2,Dl hne',Gx c0]
 rw[ea];simp only[Oper.upon];refine Calls.mono (hs w (blk rc) (blk<|.ext 0) v vs T T' (by rw[z];exact c1) b1 b7 a7 a8 a9) ?_;rintro ee w' ⟨rfl,h,c6,h5,c7⟩;have h6:((E.put (some d1)<|.one .junk).put (some d2)<|.one .junk).boxes (.ext 0)=some (.sl true e sz (AC enc l)::rs):=hc;obtain⟨G1,G2,V2,f1,f2,f3,f4⟩:∃G1 G2 V2,FS2 (.ext 0)=blk (.ext 0)::(G1++G2)/\G1=BM v/\US2 (.ext 0)=V2/\Bl w rs vs G2 V2:=by
  rcases s1.box (.ext 0) rfl with⟨q1,_⟩|⟨cs,g,T2,F2,q1,q2,q3,q4⟩
  ·grind
  rw[h6]at q1
  injection q1 with q1
  subst q1;rw[b1]at q2
  injection q2 with q2
  injection q2 with q2
  subst q2;simp only[Bl]at q3;obtain⟨v2,k,F3,F4,U1,U2,e1,rfl,e3,q5,q6⟩:=q3;simp at e1;obtain⟨rfl,rfl⟩:=e1;simp only[Cq]at q5;obtain⟨n,vs,F',c4,c5,rfl⟩:=q5;obtain⟨rfl,rfl⟩:=L3 c5<|Gh i l
  grind
 subst f2;have j:=s1.nodup<|.ext 0;rw[f1]at j;have c8:blk rc∈FS2 rc:=by
  have d0:((E.put (some d1)<|.one .junk).put (some d2)<|.one .junk).boxes rc=some [.adr ⟨b0,0,none⟩]:=u
  rcases s1.box rc hm with⟨q1,_⟩|⟨cs,g,T,F,q1,q2,q3,q4⟩
  ·grind
  rw[q4];simp
 have keepb:∀b,b<w.heap.size->b∉BM v->w'.heap[b]?=w.heap[b]? :=by
  intro b hb hv;by_cases q1:b=blk rc
  ·rw[q1];exact c6
  by_cases q2:b=blk (.ext 0)
  ·rw[q2];exact h5
  exact h.keep b hb<|by grind
 have h7:GB w w' (FS2<|.ext 0):=⟨h.os,h.tape,h.output,h.size,λb hb hn=>keepb b hb λhv=>hn<|by grind⟩
 have hG:∀b∈G2,w'.heap[b]?=w.heap[b]? :=λb hb=>keepb b (s1.inF (.ext 0) b<|by grind).2
  (λhv=>(CF.1 (CS.1 j).2).2.2 b hv b hb rfl)
 have hV:∀b∈V2,w'.heap[b]?=w.heap[b]? :=λb hb=>keepb b (s1.inU (.ext 0) b (by rw[f3];exact hb)).2
  (λhv=>s1.disU (.ext 0) (.ext 0) b (by grind) (by rw[f3];exact hb))
 obtain⟨FS3,US3,t1,t2,t3⟩:=s1.turn s2 s3 (r:= .ext 0) rfl h6 (cells':= .sl true e sz (AC enc l')::rs) (by simp) (w':=w') h7
  ⟨(
   v::vs).toArray,T,BM v++G2,by rw[h5];exact b1,by
   rw[f3];simp only[Bl];refine⟨v,vs,BM v,G2,[],V2,by simp,rfl,rfl,?_,Gb f4 hG hV⟩;simp only[Cq]
   exact⟨l'.length,_,[],c7,UM<|Gh i l',by simp⟩,f1⟩
 obtain⟨FS4,US4,u1,u2,u3⟩:=t1.land (w':=w') (d:=d3) (s:= .tup []) (v:= .tuple #[]) (F:=[]) (U:=[]) hN3' (by simp[E0,OY]) CU (by simp) (by simp) (Ax _) rfl rfl rfl λ_ _ _=>rfl;rw[k3];exact hk _ _ _ _ _ _ _ _ u1 u2 u3
def ACk:Option (List TV)->List TV
 |some (_::ts)=>ts
 |_=>[]
def rt0:Option (Root×List Nat×Nat)->Root
 |some (r,_,_)=>r
 |none=> .hand
def s2E (E:St) (ops:Array Oper) (i:Nat) (t:TV):St:=(((((E.put (some<|Uu<|oA ops i)<|.one .junk).put (some<|Uu<|oA ops<|i+1)<|.one .junk).setRoot (.ext 0) (t::ACk (E.boxes<|.ext 0))).bump<|.ext 0).put (some<|Uu<|oA ops<|i+2)<|.tup [])
theorem ADl {rr:β} {l:List γ} {kk:List γ->Option β} {b0:Nat} {x:Option (List γ)} (h:x.bind kk=some rr) {enc:γ->List TV} {a:FuncId} (hs:∀l',x=some l'->VT P (PI (oA ops (i+2))) t e sz enc a l l') (hk:∀l',x=some l'->kk l'=some rr->RW P N ops (i+3) (s2E E ops i (.sl true e sz (AC enc l'))) Q) (b:∀x,(enc x).length=sz) (d:∀x,(enc x).all TV.flat=true) (hpin:E.amb.pin=some b0:=by kernel_rfl) (hx:E.slots (lK<|oA ops i)= .one (.view (.ext 0) (dR<|E.slots<|lK<|oA ops i) [] 0):=by kernel_rfl) (c:E.ver (.ext 0)=dR (E.slots<|lK<|oA ops i):=by kernel_rfl) (hp:E.ptr? (.tmp<|gN<|oA ops<|i+1)=some (rt0<|E.ptr?<|.tmp<|gN<|oA ops<|i+1,[],0):=by kernel_rfl) (hc:E.boxes (.ext 0)=some (.sl true e sz (AC enc l)::ACk (E.boxes<|.ext 0)):=by kernel_rfl) (f:E.boxes (rt0<|E.ptr?<|.tmp<|gN<|oA ops<|i+1)=some [.adr ⟨b0,0,none⟩]:=by kernel_rfl) (hm:(rt0<|E.ptr?<|.tmp<|gN<|oA ops<|i+1).mem=true:=by kernel_rfl) (h1:(oA ops i).op= .makeInterface t (.tmp<|lK<|oA ops i):=by kernel_rfl) (h2:(oA ops<|i+1).op= .makeFunc (.func a) #[] #[.tmp<|gN<|oA ops<|i+1]:=by kernel_rfl) (h3:(oA ops<|i+2).op= .call {callee:= .value (.func<|PI<|oA ops<|i+2),args:= #[.tmp<|Uu<|oA ops i,.tmp<|Uu<|oA ops<|i+1],argTypes:=ACN (oA ops<|i+2)}:=by kernel_rfl) (k1:(oA ops i).dst=some (Uu<|oA ops i):=by kernel_rfl) (k2:(oA ops<|i+1).dst=some (Uu<|oA ops<|i+1):=by kernel_rfl) (k3:(oA ops<|i+2).dst=some (Uu<|oA ops<|i+2):=by kernel_rfl) (g1:(oA ops i).guard=none:=by kernel_rfl) (g2:(oA ops<|i+1).guard=none:=by kernel_rfl) (g3:(oA ops<|i+2).guard=none:=by kernel_rfl) (hN:(Nat.blt (Uu<|oA ops i) N&&Nat.blt (Uu<|oA ops<|i+1) N&&Nat.blt (Uu<|oA ops<|i+2) N&&!Nat.beq (Uu<|oA ops i) (Uu<|oA ops<|i+1)&&!Nat.beq (gN<|oA ops<|i+1) (Uu<|oA ops i)&&Nat.blt 0 sz&&Nat.blt (i+2) ops.size)=true:=by kernel_rfl) (ht:P.underlying t=some (.slice e):=by kernel_rfl) (hf:Ts P N (oA ops<|i+2)=true:=by kernel_rfl):RW P N ops i E Q:=by
 obtain⟨l',hl',h⟩:=Al.1 h;simp only[Ai,Dv]at hN;obtain⟨⟨⟨⟨⟨⟨q1,q2⟩,q3⟩,q4⟩,q5⟩,q6⟩,q7⟩:=hN;have b2:Nat.blt (i+1) ops.size=true:=by rw[B4]at q7⊢;omega
 have b1:Nat.blt i ops.size=true:=by rw[B4]at q7⊢;omega
 have hk':=hk l' hl' h;unfold RW at hk'⊢;rw[GG b1,GG b2,GG q7];exact ACb (hs l' hl') hk' b d hpin hx c hp hc f hm h1 h2 h3 k1 k2 k3 g1 g2 g3 q1 q2 q3 q4 q5 q6 ht (OT hf).choose_spec.choose_spec.2.1
theorem AEI {c:Code} {a cells':List TV} {b:SV} (hf:P.funcs[f]?=some fn) (hb:fn.body=some c) (hN:fn.ntmps=N) (h:∀b0,Wp P N c (Dx (.ext a::as) (mX b0)) λe E=>(e= .normal\/e= .ret)/\∃ss E',DM P E fn.results.toList=some (ss,E')/\EE ss=b/\E'.boxes (.ext 0)=some cells') (d:cells'.isEmpty=false:=by rfl):A0 P f (.ext a::as) b (.ext cells'::List.replicate as.length .gone):=ZT mX ABn hf hb (by rw[hN];exact h) d
def kC (P:Program) (N:Nat) (ops:Array Oper) (E:St) (i:Nat):Option (FuncId×Array Value×Int×Int):=bif Rx P ops E i&&Gy N (oA ops i)then
 (match(oA ops i).op with
 | .call c=>match c.callee,c.args.toList with
  | .value (.tmp t),[o1,o2]=>match E.slots t,E.cell1 P 0 o1,E.cell1 P 0 o2 with
   | .one (.fn (.func g) fr cap),some<|.int .i64 x,some (.int .i64 y)=>bif fr.isEmpty then some (g,cap,x,y)else none
   |_,_,_=>none
  |_,_=>none
 |_=>none)else none
theorem fR {cap:Array Value} {x y:Int} (h:kC P N ops E i=some (g,cap,x,y)):Rx P ops E i=true/\(∃d,(oA ops i).dst=some d/\Nat.blt d N=true)/\∃t o1 o2 tys,(oA ops i).op= .call {callee:= .value (.tmp t),args:= #[o1,o2],argTypes:=tys}/\E.slots t= .one (.fn (.func g) #[] cap)/\E.cell1 P 0 o1=some (.int .i64 x)/\E.cell1 P 0 o2=some (.int .i64 y):=by
 unfold kC at h
 cases hb:(Rx P ops E i&&Gy N (oA ops i))with
 |false=>rw[hb]at h;cases h
 |true=>
  rw[hb]at h;simp only[Ae]at h;simp only[Ai]at hb;obtain⟨d,h1,h2,_⟩:=EM hb.2;refine⟨hb.1,⟨d,h1,h2⟩,?_⟩;split at h
  ·rename_i c hc;split at h
   ·rename_i t o1 o2 k1 k2;split at h
    ·rename_i g' fr cap' x' y' m1 m2 m3
     cases he:fr.isEmpty with
     |false=>rw[he]at h;cases h
     |true=>
      rw[he]at h;simp only[Ae,Aj,Bj]at h;obtain⟨rfl,rfl,rfl,rfl⟩:=h;have a:fr= #[]:=by simpa using he
      subst a;refine⟨t,o1,o2,c.argTypes,?_,m1,m2,m3⟩;have ha:c.args= #[o1,o2]:=Array.toList_inj.1 k2;rw[hc];cases c
      grind
    cases h
   cases h
  cases h
theorem uR {rr:β} {lt:γ->γ->Bool} {l:List γ} {k:γ×γ->Option β} {cap:Array Value} (a:IA P Am lt g cap) {x y:Int} (h:(wU l x y).bind k=some rr) (hk:∀v,k v=some rr->RW P N ops (i+1) (E.put (oA ops i).dst (.one (.bool (lt v.1 v.2)))) Q) (hc:kC P N ops E i=some (g,cap,x,y):=by kernel_rfl) (hA:E.amb=Am l:=by kernel_rfl):RW P N ops i E Q:=by
 obtain⟨h1,⟨d,h2,h3⟩,t,o1,o2,tys,h4,h5,h6,h7⟩:=fR hc;obtain⟨h8,h9⟩:=HH h1;unfold RW;rw[GG h8];exact ACc a h d (λv hv=>by have:=hk v hv;rw[h2]at this;exact this) hA h4 h5 h6 h7 h2 h3 h9
theorem uQ {rr:β} {l:List γ} {k:List γ->Option β} {cap:Array Value} (a:MP P Am sf cap) (hB:∀l l',(Am l).B=(Am l').B/\(Am l).pin=none) {x y:Int} (h:(pQ l x y).bind k=some rr) (hk:∀v,k v=some rr->RW P N ops (i+1) (({E with amb:=Am v}:St).put (oA ops i).dst<|.tup []) Q) (hc:kC P N ops E i=some (sf,cap,x,y):=by kernel_rfl) (hA:E.amb=Am l:=by kernel_rfl):RW P N ops i E Q:=by
 obtain⟨h1,⟨d,h2,h3⟩,t,o1,o2,tys,h4,h5,h6,h7⟩:=fR hc;obtain⟨h8,h9⟩:=HH h1;unfold RW;rw[GG h8];exact ACa a hB h d (λv hv=>by have:=hk v hv;rw[h2]at this;exact this) hA h4 h5 h6 h7 h2 h3 h9
def ACB (P:Program) (N:Nat) (ops:Array Oper) (E:St) (i:Nat):Option (FuncId×List AV):=bif Rx P ops E i&&Gy N (oA ops i)then
 (match(oA ops i).op with
 | .call c=>match c.callee with
  | .value (.func f)=>match P.funcs[f]? with
   |some fn=>match Ja P E ((c.argTypes.toList.zip c.args.toList).map λ(t,x)=>(false,t,x)) (List.replicate c.args.size none)with
    | some (l, b) => bif b && (l.all rU && (!(fn.name == "runtime.NumGoroutine") && (!fn.body.isNone && Nat.beq c.argTypes.size c.args.size))) then some (f, l) else none
    |none=>none
   |none=>none
  |_=>none
 |_=>none)else none
theorem S4 {rr:β} {l:List AV} {k:List γ->Option β} {x:Option (List γ)} (h:x.bind k=some rr) (hB:∀l l',(Am l).B=(Am l').B/\(Am l).pin=none) (a:∀v,x=some v->MR P f (Am xl) l (Am v)) (hk:∀v,k v=some rr->RW P N ops (i+1) (({E with amb:=Am v}:St).put (oA ops i).dst<|.tup []) Q) (hc:ACB P N ops E i=some (f,l):=by kernel_rfl) (hA:E.amb=Am xl:=by kernel_rfl):RW P N ops i E Q:=by
 unfold ACB at hc
 cases hb:(Rx P ops E i&&Gy N (oA ops i))with
 |false=>grind
 |true=>
  rw[hb]at hc;simp only[Ae]at hc;simp only[Ai]at hb;obtain⟨d,h1,h2,_⟩:=EM hb.2;obtain⟨h8,h9⟩:=HH hb.1;split at hc
  ·rename_i c e;split at hc
   ·rename_i f' m;split at hc
    ·rename_i fn g;split at hc
     ·rename_i l' b j
      cases hq : (b && (l'.all rU && (!(fn.name == "runtime.NumGoroutine") && (!fn.body.isNone && Nat.beq c.argTypes.size c.args.size)))) with
      |false=>grind
      |true=>
       rw[hq]at hc;simp only[Ae,Aj,Bj]at hc;obtain⟨rfl,rfl⟩:=hc;simp only[Ai,Dv]at hq;obtain⟨rfl,q1,q2,q3,q4⟩:=hq;unfold RW;rw[GG h8];refine ADt (fn:=fn) h d Am (A:=Am xl) (args:=c.args) (tys:=c.argTypes) ?_ hA (λv=>⟨(hB _ _).1,(hB _ v).2⟩) j (aW q1) a (λv _ hv=>by have:=hk v hv;rw[h1]at this;exact this) g q2 q3 h1 h2 (Be q4) h9;rw[e];cases c
       grind
     cases hc
    cases hc
   cases hc
  cases hc
theorem ra {Am:α->Rv} {e:Exit} {v r:α} (h:some v=some r) (he:e= .normal\/e= .ret:=by first|exact .inr rfl|exact .inl rfl) (hA:E.amb=Am v:=by kernel_rfl):(e= .normal\/e= .ret)/\E.amb=Am r:=by grind
structure RS where
 s:List (Nat×SV)
 b:List (Root×List TV)
 a:Rv
def RS.st (x:RS):St:=ADW x.s x.b x.a
abbrev rs (s:List (Nat×SV)) (b:List (Root×List TV)):RS:=⟨s,b,Rv.none⟩
abbrev RI (s:List (Nat×SV)) (b:List (Root×List TV)) (a:Rv):RS:=⟨s,b,a⟩
def RS.in (X:RS) (E:St):Bool:=X.b.all λr=>r.1.mem&&(E.boxes r.1).isSome
def RS.nf (X:RS) (E:St):St:=MM E (X.s.map Prod.fst)<|X.b.map Prod.fst
def Yh (X:RS) (E:St):Prop:=X.in E=true/\X.nf E=X.st
def jR (H:V->RS) (v:Option V) (Q:Exit->St->Prop):Exit->St->Prop
 | .normal,E=>∃a,v=some a/\Yh (H a) E
 |e,E=>Q e E
def lR (id:Nat) (H:S->RS) (H2:V->RS) (o:S⊕V⊕W) (Q:Exit->St->Prop):Exit->St->Prop
 | .normal,E=>∃s,o= .inl s/\Yh (H s) E
 | .exit i,E=>if i=id then∃v,o= .inr (.inl v)/\Yh (H2 v) E else Q (.exit i) E
 |e,E=>Q e E
def lR1 (id:Nat) (H:S->RS) (H2:V->RS) (o:S⊕V) (Q:Exit->St->Prop):Exit->St->Prop
 | .normal,E=>∃s,o= .inl s/\Yh (H s) E
 | .exit i,E=>if i=id then∃v,o= .inr v/\Yh (H2 v) E else Q (.exit i) E
 |e,E=>Q e E
variable {X:RS} {H:V->RS} {H2:V->RS}
theorem Av {c:Code} (h:Yh X E) (hw:Wp P N c X.st Q):Wp P N c E Q:=Wp.norm _ _ _ (by rw[List.all_map];exact h.1) h.2 hw
theorem UB {c:Code} {x:Option V} (h:x.bind k=some r) (H:V->RS) (h1:∀a,x=some a->Wp P N c E (jR H (some a) Q)) (h2:∀a,k a=some r->∀E',Yh (H a) E'->Q .normal E'):Wp P N c E Q:=by
 obtain⟨a,ha,h⟩:=Al.1 h
 refine Wp.mono (h1 a ha) λe E' hq=>?_
 cases e<;>try exact hq
 obtain⟨a',h3,h4⟩:=hq
 grind
theorem fj2 {c:Code} {k:V⊕W->Option β} {x:Option (V⊕W)} (h:x.bind k=some r) (H:V->RS) (h1:∀a,x=some a->k a=some r->Wp P N c E (jR H a.getLeft? Q)) (h2:∀a,k (.inl a)=some r->∀E',Yh (H a) E'->Q .normal E'):Wp P N c E Q:=by
 obtain⟨a,ha,h⟩:=Al.1 h
 refine Wp.mono (h1 a ha h) λe E' hq=>?_
 cases e<;>try exact hq
 obtain⟨a',h3,h4⟩:=hq
 grind
theorem RJ {H:S->RS} {Q':Exit->St->Prop} {c:Code} {body:S->Option (S⊕A)} {a:A} (hb:∀s o,body s=some o->(∀a',o= .inr a'->a'=a)->Wp P N c (H s).st (λe E=>match e with| .normal=>∃s,o= .inl s/\Yh (H s) E|e=>Q' e E)):
  ∀{n:Nat} {s:S} {E:St},Yh (H s) E->Qh body n s=some a->bA P N c Q' n E
 |0,s,E,_,h=>by cases h
 |n+1,s,E,hn,h=>by
  simp only[Qh]at h;simp only[bA];refine Av hn ?_;split at h
  ·cases h
  ·rename_i s' hs
   refine Wp.mono (hb s _ hs (λa' h=>by cases h)) λe E' hq=>?_
   cases e<;>try exact hq
   obtain⟨s2,h2,h3⟩:=hq
   injection h2 with h2
   subst h2;exact RJ hb h3 h
  rename_i a' hs
  injection h with h
  refine Wp.mono (hb s _ hs λa2 h2=>by grind) λe E' hq=>?_
  cases e<;>try exact hq
  grind
theorem AD3 {id:Nat} {c:Code} {k:V⊕W->Option β} {H:S->RS} {body:S->Option (S⊕V⊕W)} (h:(Ao body s0).bind k=some r) (h0:Yh (H s0) E) (hb:∀s o,body s=some o->(∀w,o= .inr (.inr w)->k (.inr w)=some r)->Wp P N c (H s).st (lR id H H2 o Q)) (h2:∀v,k (.inl v)=some r->∀E',Yh (H2 v) E'->Q .normal E'):Wp P N (.block id (.loop c)) E Q:=by
 obtain⟨a,ha,h⟩:=Al.1 h;obtain⟨n,hn⟩:=H9.1 ha;refine Wp.block<|Wp.loop n<|RJ (H:=H) (a:=a) (λs o hs ho=>?_) h0 hn
 refine Wp.mono (hb s o hs (λw hw=>by rw[ho _ hw];exact h)) λe E' hq=>?_
 cases e<;>try exact hq
 simp only[lR]at hq;simp only[WM]
 grind
theorem AD4 {id:Nat} {c:Code} {H:S->RS} {body:S->Option (S⊕V)} (h:(Ao body s0).bind k=some r) (h0:Yh (H s0) E) (hb:∀s o,body s=some o->Wp P N c (H s).st (lR1 id H H2 o Q)) (h2:∀v,k v=some r->∀E',Yh (H2 v) E'->Q .normal E'):Wp P N (.block id (.loop c)) E Q:=by
 obtain⟨a,ha,h⟩:=Al.1 h;obtain⟨n,hn⟩:=H9.1 ha;refine Wp.block<|Wp.loop n<|RJ (H:=H) (a:=a) (λs o hs ho=>?_) h0 hn
 refine Wp.mono (hb s o hs) λe E' hq=>?_
 cases e<;>try exact hq
 simp only[lR1]at hq;simp only[WM]
 grind
theorem MB {id:Nat} {c:Code} {k:V⊕W->Option β} {body:S->Option (S⊕V⊕W)} (h:(Ao body s0).bind k=some r) (H:S->RS) (H2:V->RS) (hb:∀s o,body s=some o->(∀w,o= .inr (.inr w)->k (.inr w)=some r)->Wp P N c (H s).st (lR id H H2 o Q)) (h2:∀v,k (.inl v)=some r->∀E',Yh (H2 v) E'->Q .normal E') (h0:(H s0).in E=true:=by kernel_rfl) (hn:(H s0).nf E=(H s0).st:=by kernel_rfl):Wp P N (.block id<|.loop c) E Q:=AD3 h ⟨h0,hn⟩ hb h2
theorem EQ {id:Nat} {c:Code} {body:S->Option (S⊕V)} (h:(Ao body s0).bind k=some r) (H:S->RS) (H2:V->RS) (hb:∀s o,body s=some o->Wp P N c (H s).st (lR1 id H H2 o Q)) (h2:∀v,k v=some r->∀E',Yh (H2 v) E'->Q .normal E') (h0:(H s0).in E=true:=by kernel_rfl) (hn:(H s0).nf E=(H s0).st:=by kernel_rfl):Wp P N (.block id<|.loop c) E Q:=AD4 h ⟨h0,hn⟩ hb h2
theorem Dy {c:Code} {x:Option V} (h:x.bind k=some r) (H:V->RS) (h1:∀a,x=some a->Wp P N c E (jR H (some a) (JK (λE'=>Wp P N y E' Q) Q))) (h2:∀a,k a=some r->Wp P N y (H a).st Q):Wp P N (.seq c y) E Q:=Wp.seq<|UB h H h1 λa ha E' hE=>Av hE<|h2 a ha
theorem wZ {id:Nat} {c:Code} {body:S->Option (S⊕V)} (h:(Ao body s0).bind k=some r) (H:S->RS) (H2:V->RS) (hb:∀s o,body s=some o->Wp P N c (H s).st (lR1 id H H2 o (JK (λE'=>Wp P N y E' Q) Q))) (h2:∀v,k v=some r->Wp P N y (H2 v).st Q) (h0:(H s0).in E=true:=by kernel_rfl) (hn:(H s0).nf E=(H s0).st:=by kernel_rfl):Wp P N (.seq (.block id<|.loop c) y) E Q:=Wp.seq<|AD4 h ⟨h0,hn⟩ hb λv hv E' hE=>Av hE<|h2 v hv
theorem yl2 {id:Nat} {c:Code} {k:V⊕W->Option β} {body:S->Option (S⊕V⊕W)} (h:(Ao body s0).bind k=some r) (H:S->RS) (H2:V->RS) (hb:∀s o,body s=some o->(∀w,o= .inr (.inr w)->k (.inr w)=some r)->Wp P N c (H s).st (lR id H H2 o (JK (λE'=>Wp P N y E' Q) Q))) (h2:∀v,k (.inl v)=some r->Wp P N y (H2 v).st Q) (h0:(H s0).in E=true:=by kernel_rfl) (hn:(H s0).nf E=(H s0).st:=by kernel_rfl):Wp P N (.seq (.block id<|.loop c) y) E Q:=Wp.seq<|AD3 h ⟨h0,hn⟩ hb λv hv E' hE=>Av hE<|h2 v hv
theorem en {a v:V} (h:some v=some a) (hb:(H v).in E=true:=by kernel_rfl) (hn:(H v).nf E=(H v).st:=by kernel_rfl):∃a',some a=some a'/\Yh (H a') E:=by
 injection h with h
 subst h;exact⟨_,rfl,hb,hn⟩
theorem em {a:V⊕W} {v:V} (h:some (.inl v)=some a) (hb:(H v).in E=true:=by kernel_rfl) (hn:(H v).nf E=(H v).st:=by kernel_rfl):∃a',a.getLeft? =some a'/\Yh (H a') E:=by
 injection h with h
 subst h;exact⟨_,rfl,hb,hn⟩
theorem el {H:S->RS} {s:S} {o:S⊕W} (h:some (.inl s)=some o) (hb:(H s).in E=true:=by kernel_rfl) (hn:(H s).nf E=(H s).st:=by kernel_rfl):∃s,o= .inl s/\Yh (H s) E:=by
 injection h with h
 subst h;exact⟨_,rfl,hb,hn⟩
theorem ex {o:S⊕(V⊕W)} {v:V} (h:some (.inr (.inl v))=some o) (hb:(H v).in E=true:=by kernel_rfl) (hn:(H v).nf E=(H v).st:=by kernel_rfl):∃v,o= .inr (.inl v)/\Yh (H v) E:=by
 injection h with h
 subst h;exact⟨_,rfl,hb,hn⟩
theorem ev {o:S⊕V} {v:V} (h:some (.inr v)=some o) (hb:(H v).in E=true:=by kernel_rfl) (hn:(H v).nf E=(H v).st:=by kernel_rfl):∃v,o= .inr v/\Yh (H v) E:=by
 injection h with h
 subst h;exact⟨_,rfl,hb,hn⟩
def AC0 (P:Program) (N:Nat) (ops:Array Oper) (ts mv dn:List Nat) (E:St) (X:RS):Bool:=match vJ P N ops ts mv (ops.size+1) dn E with
 |some L=>L.all λE'=>X.in E'
 |none=>false
theorem ABp {ts:List Nat} {mv:List Nat} (hb:AC0 P N ops ts mv dn E X=true) (hn:(zH P N ops ts mv dn E).map X.nf=(zH P N ops ts mv dn E).map λ_=>X.st) (hq:∀E',Yh X E'->Q .normal E'):KW P N ops ts dn E Q:=by
 unfold AC0 at hb;split at hb
 ·rename_i L hL
  refine sH hL λE' hE=>hq E' ⟨PO.1 hb E' hE,?_⟩
  rw[zH,hL,AY]at hn;have:∀(L:List St),L.map X.nf=L.map (λ_=>X.st)->∀E'∈L,X.nf E'=X.st:=by simp
  exact this L hn E' hE
 cases hb
section
variable {ts:List Nat}
theorem PG {Q0:Exit->St->Prop} {a v:V} (mv:List Nat) (h:some v=some a) (hb:AC0 P N ops ts mv dn E (H v)=true:=by kernel_rfl) (hn:(zH P N ops ts mv dn E).map (H v).nf=(zH P N ops ts mv dn E).map (λ_=>(H v).st):=by kernel_rfl):KW P N ops ts dn E (jR H (some a) Q0):=
 ABp hb hn λE' hE=>by
  injection h with h
  subst h;exact⟨_,rfl,hE⟩
end
theorem rk (k:Nat) (h:RW P N ops (i+k) (Px P N ops k 0 i E) Q) (hk:(Rs P N ops k 0 i E).isSome=true:=by kernel_rfl):RW P N ops i E Q:=wN k 0 h hk
theorem rkm (k m:Nat) (h:RW P N ops (i+k) (Px P N ops k m i E) Q) (hk:(Rs P N ops k m i E).isSome=true:=by kernel_rfl):RW P N ops i E Q:=wN k m h hk
theorem ABi (a b:Nat):Nat.ble a (b+(a-b))=true:=by rw[PN];omega
theorem gm (m:Nat) (h:Q .normal (Px P N ops (ops.size-i) m i E)) (hk:(Rs P N ops (ops.size-i) m i E).isSome=true:=by kernel_rfl):RW P N ops i E Q:=wN (ops.size-i) m (RW.nil h<|ABi _ _) hk
theorem g0 (h:Q .normal (Px P N ops (ops.size-i) 0 i E)) (hk:(Rs P N ops (ops.size-i) 0 i E).isSome=true:=by kernel_rfl):RW P N ops i E Q:=gm 0 h hk
section
variable {id:Nat}
theorem wm (m:Nat) (h:RW P N ops2 0 (Px P N ops (ops.size-i) m i E) (JK (λE'=>Wp P N y E' Q) Q)) (hk:(Rs P N ops (ops.size-i) m i E).isSome=true:=by kernel_rfl):RW P N ops i E (JK (λE'=>Wp P N (.seq (.region id ops2 false) y) E' Q) Q):=gm m (ws h) hk
end
section
variable {id:Nat}
theorem w0 (h:RW P N ops2 0 (Px P N ops (ops.size-i) 0 i E) (JK (λE'=>Wp P N y E' Q) Q)) (hk:(Rs P N ops (ops.size-i) 0 i E).isSome=true:=by kernel_rfl):RW P N ops i E (JK (λE'=>Wp P N (.seq (.region id ops2 false) y) E' Q) Q):=wm 0 h hk
end
section
variable {id:Nat}
theorem wg (h:JK (λE'=>Wp P N y E' Q) Q .normal (Px P N ops (ops.size-0) 0 0 E)) (hk:(Rs P N ops (ops.size-0) 0 0 E).isSome=true:=by kernel_rfl):Wp P N (.seq (.region id ops false) y) E Q:=ws<|g0 h hk
end
section
variable {x:Code}
theorem qs (h:Wp P N x E (JK (λE'=>Wp P N y E' Q) Q)):Wp P N (.seq x y) E Q:=Wp.seq h
end
theorem qk (h:Q .normal E):Wp P N .skip E Q:=Wp.skip h
theorem qt (h:Q .ret E):Wp P N .ret E Q:=Wp.ret h
theorem qx {id:Nat} (h:Q (.exit id) E):Wp P N (.exit id) E Q:=Wp.exit h
theorem qb {id:Nat} {c:Code} (h:Wp P N c E (WM id Q)):Wp P N (.block id c) E Q:=Wp.block h
theorem qr {id:Nat} (h:RW P N ops 0 E Q):Wp P N (.region id ops false) E Q:=ACE h
section
variable {id:Nat} {c:Code}
theorem qd {Q1:Exit->St->Prop} (h:Wp P N c E (WM id (JK (λE'=>Wp P N y E' Q1) Q1))):Wp P N .skip E (JK (λE'=>Wp P N (.seq (.block id c) y) E' Q1) Q1):=qk<|qs<|qb h
end
section
variable {id:Nat}
theorem qw {z:Code} (h:JK (λE'=>Wp P N y E' (JK (λE'=>Wp P N z E' Q) Q)) (JK (λE'=>Wp P N z E' Q) Q) .normal (Px P N ops (ops.size-0) 0 0 E)) (hk:(Rs P N ops (ops.size-0) 0 0 E).isSome=true:=by kernel_rfl):Wp P N (.seq (.seq (.region id ops false) y) z) E Q:=qs<|wg h hk
end
section
variable {id:Nat}
theorem qv {z:Code} (h:RW P N ops 0 E (JK (λE'=>Wp P N y E' (JK (λE'=>Wp P N z E' Q) Q)) (JK (λE'=>Wp P N z E' Q) Q))):Wp P N (.seq (.seq (.region id ops false) y) z) E Q:=qs<|ws h
end
theorem wq {id:Nat} (h:Q .ret (Px P N ops (ops.size-0) 0 0 E)) (hk:(Rs P N ops (ops.size-0) 0 0 E).isSome=true:=by kernel_rfl):Wp P N (.seq (.region id ops false) .ret) E Q:=wg (qt h) hk
theorem aq (hp:AQ P E (oA ops i)=some s) (h:RW P N ops (i+1) (E.put (oA ops i).dst s) Q) (hk:yY P N ops i E=true:=by kernel_rfl):RW P N ops i E Q:=RW.q hp h hk
theorem Cw (k:Nat) (hp:AQ P (Px P N ops k 0 i E) (oA ops (i+k))=some s) (h:RW P N ops (i+k+1) ((Px P N ops k 0 i E).put (oA ops (i+k)).dst s) Q) (hk:(Rs P N ops k 0 i E).isSome=true:=by kernel_rfl) (hq:yY P N ops (i+k) (Px P N ops k 0 i E)=true:=by kernel_rfl):RW P N ops i E Q:=wN k 0 (RW.q hp h hq) hk
theorem kq {ts:List Nat} (i:Nat) (hp:AQ P E (oA ops i)=some s) (h:KW P N ops ts (i::dn) (E.put (oA ops i).dst s) Q) (hk:(yY P N ops i E&&pL ops ts dn i)=true:=by kernel_rfl):KW P N ops ts dn E Q:=KW.q i hp h hk
theorem ac {l:List AV} {x:Option α} (h:x.bind kk=some r) {enc:α->SV} (a:∀v,x=some v->A0 P (PI (oA ops i)) l (enc v) (List.replicate n .gone)) (hk:∀v,kk v=some r->RW P N ops (i+1) ((clE P E (oA ops i) 0).put (oA ops i).dst (enc v)) Q) (b:bP P E (oA ops i) 0=some l:=by kernel_rfl) (hc:shB P E (oA ops i) 0=true\/∀v,AP (enc v)=false:=by exact .inl<|by kernel_rfl) (ho:(Rx P ops E i&&Ts P N (oA ops i))=true:=by kernel_rfl):RW P N ops i E Q:=RW.c 0 h a (λv _=>hk v) b hc ho
theorem Bo {l:List AV} {x:Option α} (k:Nat) (h:x.bind kk=some r) {enc:α->SV} (a:∀v,x=some v->A0 P (PI (oA ops (i+k))) l (enc v) (List.replicate n .gone)) (hk:∀v,kk v=some r->RW P N ops (i+k+1) ((clE P (Px P N ops k 0 i E) (oA ops (i+k)) 0).put (oA ops (i+k)).dst (enc v)) Q) (hr:(Rs P N ops k 0 i E).isSome=true:=by kernel_rfl) (b:bP P (Px P N ops k 0 i E) (oA ops<|i+k) 0=some l:=by kernel_rfl) (hc:shB P (Px P N ops k 0 i E) (oA ops<|i+k) 0=true\/∀v,AP (enc v)=false:=by exact .inl<|by kernel_rfl) (ho:(Rx P ops (Px P N ops k 0 i E) (i+k)&&Ts P N (oA ops<|i+k))=true:=by kernel_rfl):RW P N ops i E Q:=wN k 0 (RW.c 0 h a (λv _=>hk v) b hc ho) hr
theorem acm {l:List AV} {x:Option α} (m:Nat) (h:x.bind kk=some r) {enc:α->SV} (a:∀v,x=some v->A0 P (PI (oA ops i)) l (enc v) (List.replicate n .gone)) (hk:∀v,kk v=some r->RW P N ops (i+1) ((clE P E (oA ops i) m).put (oA ops i).dst (enc v)) Q) (b:bP P E (oA ops i) m=some l:=by kernel_rfl) (hc:shB P E (oA ops i) m=true\/∀v,AP (enc v)=false:=by exact .inl<|by kernel_rfl) (ho:(Rx P ops E i&&Ts P N (oA ops i))=true:=by kernel_rfl):RW P N ops i E Q:=RW.c m h a (λv _=>hk v) b hc ho
section
variable {ts:List Nat}
theorem EX {l:List AV} {x:Option α} (m:Nat) (h:x.bind kk=some r) {enc:α->SV} (a:∀v,x=some v->A0 P (PI (oA ops i)) l (enc v) (List.replicate n .gone)) (hk:∀v,kk v=some r->KW P N ops ts (i::dn) ((clE P E (oA ops i) m).put (oA ops i).dst (enc v)) Q) (b:bP P E (oA ops i) m=some l:=by kernel_rfl) (hc:shB P E (oA ops i) m=true\/∀v,AP (enc v)=false:=by exact .inl<|by kernel_rfl) (ho:(Rx P ops E i&&Ts P N (oA ops i)&&((bits m<|G7<|oA ops i).all (λx=>!x.1)||ts.contains i))=true:=by kernel_rfl):KB P N ops ts dn i E Q:=KB.c m h a (λv _=>hk v) b hc ho
end
theorem Tj {l:List AV} {x:Option α} (h:x.bind kk=some r) {enc:α->SV} {a:List TV} (c:∀v,x=some v->A0 P (PI (oA ops i)) (.ext a::l) (enc v) (.ext (fin v)::List.replicate n .gone)) (hk:∀v,kk v=some r->RW P N ops (i+1) (((E.setRoot (oE E (oA ops i)) (fin v)).bump (oE E (oA ops i))).put (oA ops i).dst (enc v)) Q) (b:∀v,(fin v).length=a.length:=by exact λ_=>rfl) (d:wI P E (oA ops i)=some l:=by kernel_rfl) (hb:E.boxes (oE E<|oA ops i)=some a:=by kernel_rfl) (hc:cxB P E (oA ops i)=true\/∀v,AP (enc v)=false/\A4 (fin v)=false:=by exact .inl<|by kernel_rfl) (ho:(Rx P ops E i&&Ts P N (oA ops i)&&wH E (oA ops i))=true:=by kernel_rfl):RW P N ops i E Q:=AEd h c b (λv _=>hk v) d hb hc ho
theorem kcx {ts:List Nat} {l:List AV} {x:Option α} (h:x.bind kk=some r) {enc:α->SV} {a:List TV} (c:∀v,x=some v->A0 P (PI (oA ops i)) (.ext a::l) (enc v) (.ext (fin v)::List.replicate n .gone)) (hk:∀v,kk v=some r->KW P N ops ts (i::dn) (((E.setRoot (oE E (oA ops i)) (fin v)).bump (oE E (oA ops i))).put (oA ops i).dst (enc v)) Q) (b:∀v,(fin v).length=a.length:=by exact λ_=>rfl) (d:wI P E (oA ops i)=some l:=by kernel_rfl) (hb:E.boxes (oE E<|oA ops i)=some a:=by kernel_rfl) (hc:cxB P E (oA ops i)=true\/∀v,AP (enc v)=false/\A4 (fin v)=false:=by exact .inl<|by kernel_rfl) (ho:(Rx P ops E i&&Ts P N (oA ops i)&&wH E (oA ops i)&&ts.contains i)=true:=by kernel_rfl):KB P N ops ts dn i E Q:=AEf h c b (λv _=>hk v) d hb hc ho
theorem BP {b:Bool} (k t:Nat) (h:(bif b then tx else ty)=some r) (ht:tx=some r->RW P N ops (i+k) ((Px P N ops k 0 i E).rs t true) Q) (hf:ty=some r->RW P N ops (i+k) ((Px P N ops k 0 i E).rs t false) Q) (hr:(Rs P N ops k 0 i E).isSome=true:=by kernel_rfl) (hc:(Px P N ops k 0 i E).slots t=B b:=by kernel_rfl):RW P N ops i E Q:=wN k 0 (AEb t h ht hf hc) hr
def aU (fn:Func):Code:=fn.body.getD .skip
theorem WL (h:fn.body.isSome=true):fn.body=some (aU fn):=by
 unfold aU
 cases e:fn.body with
 |none=>rw[e]at h;cases h
 |some c=>rfl
theorem gf {a:SV} (hf:P.funcs[f]?=some fn) (hN:fn.ntmps=N) (h:Wp P N (aU fn) (Dx as) λe E=>(e= .normal\/e= .ret)/\∃ss E',DM P E fn.results.toList=some (ss,E')/\EE ss=a) (hb:fn.body.isSome=true:=by kernel_rfl):A0 P f as a (List.replicate as.length .gone):=gk hf (WL hb) hN h
theorem gfa {A':Rv} (hf:P.funcs[f]?=some fn) (hN:fn.ntmps=N) (hB:∀l l',(Am l).B=(Am l').B/\(Am l).pin=none) (h:Wp P N (aU fn) (Dx as (Am xl)) λe E=>(e= .normal\/e= .ret)/\E.amb=A') (hb:fn.body.isSome=true:=by kernel_rfl) (hr:fn.results= #[]:=by rfl):MR P f (Am xl) as A':=wD hf (WL hb) hr (hB xl xl).2 (by rw[hN];exact h)
theorem wV {a cells':List TV} {b:SV} (hf:P.funcs[f]?=some fn) (hN:fn.ntmps=N) (h:Wp P N (aU fn) (Dx (.ext a::as)) λe E=>(e= .normal\/e= .ret)/\∃ss E',DM P E fn.results.toList=some (ss,E')/\EE ss=b/\E'.boxes (.ext 0)=some cells') (hb:fn.body.isSome=true:=by kernel_rfl) (c:cells'.isEmpty=false:=by rfl):A0 P f (.ext a::as) b (.ext cells'::List.replicate as.length .gone):=gkx hf (WL hb) hN h c
theorem AEG (h:Yh X E) {a:List TV} (hc:X.st.boxes (.ext 0)=some a:=by kernel_rfl):(Exit.normal= .normal\/Exit.normal= .ret)/\∃ss E1,DM P E []=some (ss,E1)/\EE ss= .tup []/\E1.boxes (.ext 0)=some a:=by
 refine⟨.inl rfl,[],E,rfl,rfl,?_⟩;obtain⟨h1,h2⟩:=h;rw[<-h2]at hc;unfold RS.nf at hc;by_cases hm:(X.b.map Prod.fst).contains (.ext 0)=true
 ·have e:(MM E (X.s.map Prod.fst)<|X.b.map Prod.fst).boxes (.ext 0)=some ((E.boxes<|.ext 0).getD []):=by
   show((X.b.map Prod.fst).map λr=>(r,(E.boxes r).getD [])).lookup (.ext 0)=_;rw[Nn (f:=λr=>(E.boxes r).getD []),AB hm]
  rw[e]at hc;unfold RS.in at h1;have h3:((E.boxes<|.ext 0).isSome)=true:=by grind
  cases he:E.boxes (.ext 0)with
  |none=>grind
  |some v=>grind
 have e:(MM E (X.s.map Prod.fst)<|X.b.map Prod.fst).boxes (.ext 0)=none:=by
  show((X.b.map Prod.fst).map λr=>(r,(E.boxes r).getD [])).lookup (.ext 0)=_
  grind
 grind
theorem ABw {Am:α->Rv} {v r:α} (h:some v=some r) (hE:Yh X E) (hX:X.st.amb=Am v:=by kernel_rfl):(Exit.normal= .normal\/Exit.normal= .ret)/\E.amb=Am r:=by
 injection h with h
 rw[<-h,<-hX,<-hE.2];exact⟨.inl rfl,rfl⟩
theorem Pm {n:Int} (h1: -9223372036854775808<=n) (h2:n<=9223372036854775807):IntKind.i64.wrap n=n:=by rw[IntKind.wrap_i64];omega
theorem Cs {a b:Int} (h1: -9223372036854775808<=a+b:=by omega) (h2:a+b<=9223372036854775807:=by omega):ad a b=a+b:=Pm h1 h2
theorem Ch {a b:Int} (h1: -9223372036854775808<=a-b:=by omega) (h2:a-b<=9223372036854775807:=by omega):sb a b=a-b:=Pm h1 h2
theorem P4 {a b:Int} (h1: -9223372036854775808<=a*b) (h2:a*b<=9223372036854775807):ml a b=a*b:=Pm h1 h2
theorem ad1 (h:i<9223372036854775807:=by omega):ad (i:Int) 1=((i+1:Nat):Int):=by rw[Cs]<;>omega
theorem JD (a b:ByteArray):seq a b=decide (a=b):=by
 unfold seq;rw[El,C3,A3];constructor
 ·intro h;rw[ByteArray.toList_eq,ByteArray.toList_eq]at h;cases a;cases b;simp only[ByteArray.mk.injEq];exact ACg h
 intro h;rw[h]
theorem Ar:gi l (i:Int)=l[i]? :=by rfl
theorem EU {x:α}:si l (i:Int) x=l.set i x:=by simp[si]
theorem IX:decide ((i:Int)<ln l)=decide (i<l.length):=by
 rw[El,A3,A3];simp[ln]
theorem cF [Decidable p] {a b:α} (h:¬p:=by omega):cond (decide p) a b=b:=by grind
theorem cT [Decidable p] {a b:α} (h:p:=by omega):cond (decide p) a b=a:=by grind
theorem DN {a b:β}:cond (decide (((l.length:Nat):Int)<ln l)) a b=b:=cF (by rw[ln];omega)
theorem Eh {a b:β} (h:i<l.length):cond (decide ((i:Int)<ln l)) a b=a:=cT (by rw[ln];omega)
def PD (step:σ->Nat->α->σ⊕β) (fin:σ->β):List α->Nat->σ->β
 |[],_,s=>fin s
 |x::l,i,s=>match step s i x with
  | .inl s'=>PD step fin l (i+1) s'
  | .inr b=>b
theorem fI {body:S->Option (S⊕β)} (a:σ->Int->S) (l:List α) (step:σ->Nat->α->σ⊕β) (fin:σ->β) (c:Nat->σ->Prop) (h1:∀s i x,l[i]?=some x->c i s->body (a s (i:Nat))=some (match step s i x with| .inl s'=> .inl (a s' ((i+1:Nat):Int))| .inr b=> .inr b)/\∀s',step s i x= .inl s'->c (i+1) s') (h2:∀s,c l.length s->body (a s (l.length:Nat))=some (.inr (fin s))):∀(n i:Nat) (s:σ),i+n=l.length->c i s->Ao body (a s (i:Nat))=some (PD step fin (l.drop i) i s)
 |0,i,s,hi,hs=>by
  have:i=l.length:=by omega
  subst this;rw[Aw,h2 s hs,ER<|Ax _];rfl
 |n+1,i,s,hi,hs=>by
  have d:i<l.length:=by omega
  obtain⟨h3,h4⟩:=h1 s i l[i] (Ab d) hs;rw[Aw,h3,AL d,PD]
  cases e:step s i l[i]with
  |inl s'=>simp only[];exact fI a l step fin c h1 h2 n (i+1) s' (by omega)<|h4 s' e
  |inr b=>rfl
theorem Qt {s:σ} {body:S->Option (S⊕β)} (a:σ->Int->S) (l:List α) (step:σ->Nat->α->σ⊕β) (fin:σ->β) (c:Nat->σ->Prop) (h1:∀s i x,l[i]?=some x->c i s->body (a s (i:Nat))=some (match step s i x with| .inl s'=> .inl (a s' ((i+1:Nat):Int))| .inr b=> .inr b)/\∀s',step s i x= .inl s'->c (i+1) s') (h2:∀s,c l.length s->body (a s (l.length:Nat))=some (.inr (fin s))) (hs:c 0 s):Ao body (a s 0)=some (PD step fin l 0 s):=
 fI a l step fin c h1 h2 l.length 0 s (by omega) hs
def zl (z:α->Nat) (l:List α):Nat:=l.length+(l.map z).sum
theorem gH {z:α->Nat} {x:α} (h:x∈l):z x+1<=zl z l:=by
 unfold zl
 induction l with
 |nil=>cases h
 |cons y l ih=>grind
theorem R1 {z:α->Nat}:l.length<=zl z l:=by unfold zl;omega
theorem uL {body:Int->Option (Int⊕Unit⊕Bool)} (a:List α) (b:List β) (p:α->β->Bool) (hl:a.length=b.length) (hM:a.length<=9223372036854775807) (h1:∀(i:Nat) x y,a[i]?=some x->b[i]?=some y->body (i:Nat)=some (bif p x y then .inl (((i+1:Nat)):Int)else .inr (.inr false))) (h2:body (a.length:Nat)=some (.inr (.inl ()))):
  Ao body 0=some (bif(a.zip b).all (λz=>p z.1 z.2)then .inl ()else .inr false):=by
 have hz:(a.zip b).length=a.length:=by simp[hl]
 have:=Qt (body:=body) (λ(_:Unit) i=>i) (a.zip b) (λ_ _ z=>bif p z.1 z.2 then .inl ()else .inr<|.inr false) (λ_=> .inl ()) (λ_ _=>True)
  (λs i x hx _=>by grind)
  (λs _=>by rw[hz];exact h2) (s:=()) trivial
 rw[this];have c:∀(m:List (α×β)) (i:Nat),PD (λ(_:Unit) _ z=>bif p z.1 z.2 then .inl ()else .inr<|.inr false) (λ_=>(.inl ():Unit⊕Bool)) m i ()=bif m.all (λz=>p z.1 z.2)then .inl ()else .inr false:=by
  intro m
  induction m with
  |nil=>intro i;rfl
  |cons z m ih=>
   intro i;simp only[PD,FI]
   grind
 rw[c]
theorem sQ {p:α->α->Bool}:∀{a b:List α},(∀x∈a,∀y∈b,p x y=true↔x=y)->a.length=b.length->((a.zip b).all (λz=>p z.1 z.2)=true↔a=b)
 |[],[],_,_=>by simp
 |x::a,y::b,hp,h=>by
  have ih:=sQ (p:=p) (a:=a) (b:=b) (λx' hx y' hy=>hp x' (La _ hx) y'<|La _ hy) (by simpa using h);simp only[List.zip_cons_cons,FI,Ai,ih,hp x DD y DD,Y0]
 |[],_::_,_,h=>by simp at h
 |_::_,[],_,h=>by simp at h
theorem V5 {body:S->Option (S⊕β)} (a:σ->Int->S) (n:Nat) (c:Nat->σ->Prop) (Q:β->Prop) (h1:∀s i,i<n->c i s->(∃s',body (a s (i:Nat))=some (.inl (a s' ((i+1:Nat):Int)))/\c (i+1) s')\/∃b,body (a s (i:Nat))=some (.inr b)/\Q b) (h2:∀s,c n s->∃b,body (a s (n:Nat))=some (.inr b)/\Q b):∀(k i:Nat) (s:σ),i+k=n->c i s->∃b,Ao body (a s (i:Nat))=some b/\Q b
 |0,i,s,hi,hs=>by
  have:i=n:=by omega
  subst this;obtain⟨b,h3,h4⟩:=h2 s hs;exact⟨b,by rw[Aw,h3],h4⟩
 |k+1,i,s,hi,hs=>by
  rcases h1 s i (by omega) hs with⟨s',h3,h4⟩|⟨b,h3,h4⟩
  ·obtain⟨b,h5,h6⟩:=V5 a n c Q h1 h2 k (i+1) s' (by omega) h4;exact⟨b,by rw[Aw,h3];exact h5,h6⟩
  exact⟨b,by rw[Aw,h3],h4⟩
theorem AJ {s:σ} {body:S->Option (S⊕β)} (a:σ->Int->S) (n:Nat) (c:Nat->σ->Prop) (Q:β->Prop) (h1:∀s i,i<n->c i s->(∃s',body (a s (i:Nat))=some (.inl (a s' ((i+1:Nat):Int)))/\c (i+1) s')\/∃b,body (a s (i:Nat))=some (.inr b)/\Q b) (h2:∀s,c n s->∃b,body (a s (n:Nat))=some (.inr b)/\Q b) (hs:c 0 s):∃b,Ao body (a s 0)=some b/\Q b:=
 V5 a n c Q h1 h2 n 0 s (by omega) hs
theorem W1 {body body':S->Option (S⊕β)} (a:σ->Int->S) (n:Nat) (c:Nat->σ->Prop) (Q:β->Prop) (h1:∀s i,i<n->c i s->body' (a s (i:Nat))=body (a s (i:Nat))/\((∃s',body (a s (i:Nat))=some (.inl (a s' ((i+1:Nat):Int)))/\c (i+1) s')\/∃b,body (a s (i:Nat))=some (.inr b)/\Q b)) (h2:∀s,c n s->body' (a s (n:Nat))=body (a s (n:Nat))/\∃b,body (a s (n:Nat))=some (.inr b)/\Q b):∀(k i:Nat) (s:σ),i+k=n->c i s->∃b,Ao body (a s (i:Nat))=some b/\Ao body' (a s (i:Nat))=some b/\Q b
 |0,i,s,hi,hs=>by
  have:i=n:=by omega
  subst this;obtain⟨e,b,h3,h4⟩:=h2 s hs;exact⟨b,by rw[Aw,h3],by rw[Aw,e,h3],h4⟩
 |k+1,i,s,hi,hs=>by
  obtain⟨e,h⟩:=h1 s i (by omega) hs
  rcases h with⟨s',h3,h4⟩|⟨b,h3,h4⟩
  ·obtain⟨b,h5,h6,h7⟩:=W1 a n c Q h1 h2 k (i+1) s' (by omega) h4;exact⟨b,by rw[Aw,h3];exact h5,by rw[Aw,e,h3];exact h6,h7⟩
  exact⟨b,by rw[Aw,h3],by rw[Aw,e,h3],h4⟩
theorem Iq {s:σ} {body body':S->Option (S⊕β)} (a:σ->Int->S) (n:Nat) (c:Nat->σ->Prop) (Q:β->Prop) (h1:∀s i,i<n->c i s->body' (a s (i:Nat))=body (a s (i:Nat))/\((∃s',body (a s (i:Nat))=some (.inl (a s' ((i+1:Nat):Int)))/\c (i+1) s')\/∃b,body (a s (i:Nat))=some (.inr b)/\Q b)) (h2:∀s,c n s->body' (a s (n:Nat))=body (a s (n:Nat))/\∃b,body (a s (n:Nat))=some (.inr b)/\Q b) (hs:c 0 s):∃b,Ao body (a s 0)=some b/\Ao body' (a s 0)=some b/\Q b:=
 W1 a n c Q h1 h2 n 0 s (by omega) hs
theorem Z6 {body:Int->Option (Int⊕β)} (l:List α) (p:Nat->α->Bool) (no yes:β) (hM:l.length<=9223372036854775807) (h1:∀(i:Nat) x,l[i]?=some x->body (i:Nat)=some (bif p i x then .inl (((i+1:Nat)):Int)else .inr no)) (h2:body (l.length:Nat)=some (.inr yes)):
  Ao body 0=some (bif l.zipIdx.all (λz=>p z.2 z.1)then yes else no):=by
 have:=Qt (body:=body) (λ(_:Unit) i=>i) l (λ_ i x=>bif p i x then .inl ()else .inr no) (λ_=>yes) (λ_ _=>True)
  (λs i x hx _=>by grind)
  (λs _=>h2) (s:=()) trivial
 rw[this];have a:∀(m:List α) (i:Nat),PD (λ(_:Unit) i x=>bif p i x then .inl ()else .inr no) (λ_=>yes) m i ()=bif(m.zipIdx i).all (λz=>p z.2 z.1)then yes else no:=by
  intro m
  induction m with
  |nil=>intro i;rfl
  |cons z m ih=>
   intro i;simp only[PD,List.zipIdx_cons,FI]
   grind
 rw[a]
theorem RZ {body:Int×List γ->Option ((Int×List γ)⊕List γ)} (l:List α) (f:α->γ) (h1:∀(i:Nat) x (a:List γ),l[i]?=some x->a.length=i->body ((i:Nat),a)=some (.inl (((i+1:Nat):Int),a++ [f x]))) (h2:∀a,body ((l.length:Nat),a)=some (.inr a)):
  Ao body (0,[])=some (l.map f):=by
 have:=Qt (body:=body) (λ(s:List γ) i=>(i,s)) l (λa _ x=>(.inl (a++ [f x]):List γ⊕List γ)) (λa=>a) (λi a=>a.length=i)
  (λs i x hx hi=>by grind)
  (λs _=>h2 s) (s:=[]) rfl
 rw[this];have b:∀(m:List α) (i:Nat) (a:List γ),PD (λa _ x=>(.inl (a++ [f x]):List γ⊕List γ)) (λa=>a) m i a=a++m.map f:=by
  intro m
  induction m with
  |nil=>intro i a;simp[PD]
  |cons z m ih=>
   intro i a;simp only[PD,ih,Cx,AE,Fo]
 grind
theorem qV {body:Int×List γ->Option ((Int×List γ)⊕List γ)} (n:Nat) (f:Nat->γ) (h1:∀(i:Nat) (a:List γ),i<n->a.length=i->body ((i:Nat),a)=some (.inl (((i+1:Nat):Int),a++ [f i]))) (h2:∀a,body ((n:Nat),a)=some (.inr a)):
  Ao body (0,[])=some ((List.range n).map f):=
 RZ (List.range n) f (λi x a hx ho=>by grind) (λa=>by grind)
theorem Z3 {z:α} (h:by_*n<=281474976710656) (h2:n<=9223372036854775807):mk by_ z (n:Int)=some (List.replicate n z):=by
 unfold mk
 grind
theorem BC (h:(l.length+m.length)*by_<=140737488355328):ap by_ l m=some (l++m):=AB h
theorem KM {i:Int} (h1:0<=i) (h2:i<l.length):gi l i=some (l[i.toNat]'(by omega)):=by
 unfold gi
 grind
theorem Bq:ln l=(l.length:Int):=rfl
def L (s:ByteArray):List UInt8:=s.data.toList
theorem KU {a b:ByteArray} (h:L a=L b):a=b:=by
 cases a;cases b;simp only[L]at h;simp only[ByteArray.mk.injEq];exact ACg h
theorem WT (s:ByteArray):(L s).length=s.size:=by cases s;rfl
theorem DL (a b:ByteArray):L (a++b)=L a++L b:=by simp[L]
theorem EO (l:List UInt8):L (bs l)=l:=by simp[L,bs]
theorem LM (l:List Int):L (Fi l)=l.map λn=>UInt8.ofNat n.toNat:=strOfNums_data l
theorem IB (s:ByteArray) (i j:Nat):L (s.extract i j)=((L s).drop i).take (j-i):=by
 have:s=ByteArray.mk (L s).toArray:=by cases s;simp[L]
 rw[this,ByteArray.extract_mk];simp[L]
theorem Bz (s:ByteArray):FQ s=((L s).length:Int):=by rw[WT];rfl
theorem Fg (s:ByteArray) (h:i<(L s).length):sx s (i:Int)=some (((L s)[i]).toNat:Int):=by
 have h':i<s.size:=by rw[<-WT];exact h
 unfold sx;rw[AB ⟨by omega,by omega⟩];unfold AQ.bt;rw[dif_pos<|by simpa using h'];rfl
theorem FK (s:ByteArray) (h1:i<=j) (h2:j<=(L s).length):sub s (i:Int) (j:Int)=some (s.extract i j):=by
 rw[WT]at h2;unfold sub
 grind
theorem FR (a b:ByteArray) (h:(L a).length+(L b).length<=9223372036854775807):HR a b=some (a++b):=by
 rw[WT,WT]at h;unfold HR
 grind
theorem Rm (a b:ByteArray):seq a b=decide (L a=L b):=by
 rw[JD,El,A3,A3];exact⟨λh=>by rw[h],KU⟩
def Co (n:Nat):List UInt8:=if h:n<=127 then [UInt8.ofNat n]else UInt8.ofNat (n %128+128)::Co (n/128)
termination_by n
decreasing_by omega
def Fv:List UInt8->Nat
 |[]=>0
 |d::ds=>d.toNat %128+128*Fv ds
theorem Ox:∀(ds es:List UInt8),Fv (ds++es)=Fv ds+128^ds.length*Fv es
 |[],es=>by simp[Fv]
 |d::ds,es=>by
  simp only[B8,Fv,Ox ds es,A8,sG]
  grind
theorem lF (d:UInt8):d.toNat<256:=d.toNat_lt
theorem LE (h:n<=127):Co n=[UInt8.ofNat n]:=by rw[Co,dif_pos h]
theorem S0 (h:¬n<=127):Co n=UInt8.ofNat (n %128+128)::Co (n/128):=by rw[Co,dif_neg h]
theorem dS:∀{ds:List UInt8} {x:UInt8},Fv (ds++ [x])=0->x.toNat<128->x.toNat=0
 |[],x,h,hx=>by simp[Fv]at h;omega
 |d::ds,x,h,hx=>by
  simp only[B8,Fv]at h;exact dS (ds:=ds) (by omega) hx
theorem fT:∀(ds:List UInt8) (x:UInt8),(∀d∈ds,128<=d.toNat)->x.toNat<128->(Co (Fv (ds++ [x]))=ds++ [x]↔¬(x.toNat=0/\ds≠ []))
 |[],x,_,hx=>by
  have:Fv ([]++ [x])=x.toNat:=by simp[Fv];omega
  rw[this,LE<|by omega];simp
 |d::ds,x,hd,hx=>by
  have ih:=fT ds x (λe he=>hd e<|La _ he) hx;have h1:=hd d DD;have h2:=lF d;have hv:Fv (d::ds++ [x])=d.toNat-128+128*Fv (ds++ [x]):=by
   simp only[B8,Fv];omega
  rw[hv];by_cases h0:Fv (ds++ [x])=0
  ·have a:=dS h0 hx;rw[h0,LE<|by omega];refine iff_of_false ?_ (by simp[a]);simp
  rw[S0<|by omega];have e1:UInt8.ofNat ((d.toNat-128+128*Fv (ds++ [x])) %128+128)=d:=by
   have:(d.toNat-128+128*Fv (ds++ [x])) %128+128=d.toNat:=by omega
   rw[this,UInt8.ofNat_toNat]
  have e2:(d.toNat-128+128*Fv (ds++ [x]))/128=Fv (ds++ [x]):=by omega
  rw[e1,e2,B8,Y0];rw[ih];constructor
  ·rintro⟨_,h⟩ ⟨h3,_⟩;refine h ⟨h3,?_⟩;rintro rfl;apply h0;simp[Fv,h3]
  grind
theorem oD:∀(n:Nat),(Co n).length<=n+1
 |n=>by
  by_cases h:n<=127
  ·rw[LE h];simp
  have:=oD<|n/128;rw[S0 h,A8];omega
termination_by n=>n
decreasing_by omega
theorem fU {body:Int×List Int->Option ((Int×List Int)⊕(Int×List Int))} (hb:∀n a,body (n,a)=bif decide (n>127)then((ap 1 a [IntKind.u8.wrap (ad (Int.tmod n 128) 128)]).bind λc=>some (.inl (qu n 128,c)))else some (.inr (n,a))):
  ∀(n:Nat) (a:List Int),a.length+n<=1099511627776->∃(m:Nat) (o:List Int),Ao body ((n:Int),a)=some ((m:Int),o)/\m<=127/\o.length<=a.length+n/\(o++ [(m:Int)]).map (λn=>UInt8.ofNat n.toNat)=a.map (λn=>UInt8.ofNat n.toNat)++Co n
 |n,a,h=>by
  rw[Aw,hb];by_cases hn:n<=127
  ·rw[Ah (by omega),Ac];exact⟨n,a,rfl,hn,by omega,by rw[LE hn];simp⟩
  rw[Ad (by omega),Ae,BC (by grind),Aa];have e1:Int.tmod (n:Int) 128=((n %128:Nat):Int):=rfl;have e2:qu (n:Int) 128=((n/128:Nat):Int):=by
   unfold qu;rw[show Int.tdiv (n:Int) 128=((n/128:Nat):Int)from Int.ofNat_tdiv n 128|>.symm,Pm (by omega)<|by omega]
  have e3:IntKind.u8.wrap (ad (Int.tmod (n:Int) 128) 128)=((n %128+128:Nat):Int):=by
   rw[e1,Cs (by omega) (by omega),IntKind.wrap_u8];omega
  obtain⟨m,o,h1,h2,h3,h4⟩:=fU hb (n/128) (a++ [((n %128+128:Nat):Int)]) (by grind);rw[e2,e3];refine⟨m,o,h1,h2,by grind,?_⟩;rw[h4,S0 hn,Ci,AE];rfl
termination_by n=>n
decreasing_by omega
theorem ADI {s:Int} (h0:0<=s) (h1:s<4294967296):IntKind.u32.wrap (Int.tdiv s 2)=Int.fdiv s (2^(min (1:Int).toNat IntKind.u32.bits)):=by
 have e:(2:Int)^(min (1:Int).toNat IntKind.u32.bits)=2:=by decide
 rw[e,IntKind.wrap_u32,Int.tdiv_eq_ediv_of_nonneg h0,Int.fdiv_eq_ediv_of_nonneg _<|by omega];omega
theorem an1 {s:Int} (h0:0<=s) (h1:s<4294967296):an s 1=Int.tmod s 2:=by
 unfold an;obtain⟨n,rfl⟩:=Cp h0;have:(BitVec.ofInt 32 (n:Int)&&&BitVec.ofInt 32 1).toNat=n %2:=by grind
 rw[this,IntKind.wrap_u32,Int.tmod_eq_emod_of_nonneg<|by omega];omega
theorem ACi (a b:Int):0<=xr a b/\xr a b<4294967296:=by
 unfold xr;rw[IntKind.wrap_u32];omega
theorem fH {body:S->Option (S⊕β)} (a:σ->Int->S) (mkS':σ->Int->S') (n:Nat) (c:Nat->σ->Prop) (Q:β->Prop) (h1:∀s i,i<n->c i s->(∃s',body (a s (i:Nat))=some (.inl (a s' ((i+1:Nat):Int)))/\body' (mkS' s (i:Nat))=some (.inl (mkS' s' ((i+1:Nat):Int)))/\c (i+1) s')\/∃b,body (a s (i:Nat))=some (.inr b)/\body' (mkS' s (i:Nat))=some (.inr b)/\Q b) (h2:∀s,c n s->∃b,body (a s (n:Nat))=some (.inr b)/\body' (mkS' s (n:Nat))=some (.inr b)/\Q b):∀(k i:Nat) (s:σ),i+k=n->c i s->∃b,Ao body (a s (i:Nat))=some b/\Ao body' (mkS' s (i:Nat))=some b/\Q b
 |0,i,s,hi,hs=>by
  have:i=n:=by omega
  subst this;obtain⟨b,h3,h4,h5⟩:=h2 s hs;exact⟨b,by rw[Aw,h3],by rw[Aw,h4],h5⟩
 |k+1,i,s,hi,hs=>by
  rcases h1 s i (by omega) hs with⟨s',h3,h4,h5⟩|⟨b,h3,h4,h5⟩
  ·obtain⟨b,h6,h7,h8⟩:=fH a mkS' n c Q h1 h2 k (i+1) s' (by omega) h5;exact⟨b,by rw[Aw,h3];exact h6,by rw[Aw,h4];exact h7,h8⟩
  exact⟨b,by rw[Aw,h3],by rw[Aw,h4],h5⟩
theorem NW {s:σ} {body:S->Option (S⊕β)} (a:σ->Int->S) (mkS':σ->Int->S') (n:Nat) (c:Nat->σ->Prop) (Q:β->Prop) (h1:∀s i,i<n->c i s->(∃s',body (a s (i:Nat))=some (.inl (a s' ((i+1:Nat):Int)))/\body' (mkS' s (i:Nat))=some (.inl (mkS' s' ((i+1:Nat):Int)))/\c (i+1) s')\/∃b,body (a s (i:Nat))=some (.inr b)/\body' (mkS' s (i:Nat))=some (.inr b)/\Q b) (h2:∀s,c n s->∃b,body (a s (n:Nat))=some (.inr b)/\body' (mkS' s (n:Nat))=some (.inr b)/\Q b) (hs:c 0 s):∃b,Ao body (a s 0)=some b/\Ao body' (mkS' s 0)=some b/\Q b:=
 fH a mkS' n c Q h1 h2 n 0 s (by omega) hs
theorem Wt {body:S->Option (S⊕β)} (φ:S->S') (h:∀s,body' (φ s)=(body s).map (Sum.map φ id)):∀(n:Nat) (s:S),Qh body' n (φ s)=Qh body n s
 |0,_=>rfl
 |n+1,s=>by
  simp only[Qh,h]
  cases body s with
  |none=>rfl
  |some o=>
   cases o with
   |inl s'=>exact Wt φ h n s'
   |inr b=>rfl
theorem qW {body:S->Option (S⊕β)} (φ:S->S') (h:∀s,body' (φ s)=(body s).map (Sum.map φ id)) (s:S):Ao body' (φ s)=Ao body s:=by
 have b:∀a,Ao body' (φ s)=some a↔Ao body s=some a:=λa=>by
  rw[H9,H9];exact⟨λ⟨n,hn⟩=>⟨n,by rw[<-Wt φ h];exact hn⟩,λ⟨n,hn⟩=>⟨n,by rw[Wt φ h];exact hn⟩⟩
 cases hx:Ao body s with
 |some a=>exact(b a).2 hx
 |none=>
  cases hy:Ao body' (φ s)with
  |none=>rfl
  |some a=>grind
theorem TY {body:S->Option (S⊕β)} (φ:S->S') (I:S->Prop) (h:∀s,I s->body' (φ s)=(body s).map (Sum.map φ id)) (hI:∀s s',I s->body s=some (.inl s')->I s'):∀(n:Nat) (s:S),I s->Qh body' n (φ s)=Qh body n s
 |0,_,_=>rfl
 |n+1,s,hs=>by
  simp only[Qh,h s hs]
  cases hb:body s with
  |none=>rfl
  |some o=>
   cases o with
   |inl s'=>exact TY φ I h hI n s' (hI s s' hs hb)
   |inr b=>rfl
theorem nF {body:S->Option (S⊕β)} (φ:S->S') (I:S->Prop) (h:∀s,I s->body' (φ s)=(body s).map (Sum.map φ id)) (hI:∀s s',I s->body s=some (.inl s')->I s') (s:S) (hs:I s):Ao body' (φ s)=Ao body s:=by
 have b:∀a,Ao body' (φ s)=some a↔Ao body s=some a:=λa=>by
  rw[H9,H9];exact⟨λ⟨n,hn⟩=>⟨n,by rw[<-TY φ I h hI n s hs];exact hn⟩,λ⟨n,hn⟩=>⟨n,by rw[TY φ I h hI n s hs];exact hn⟩⟩
 cases hx:Ao body s with
 |some a=>exact(b a).2 hx
 |none=>
  cases hy:Ao body' (φ s)with
  |none=>rfl
  |some a=>grind
theorem vP {s:S} {b:β} {body:S->Option (S⊕β)} (I:S->Prop) (Q:β->Prop) (hI:∀s s',I s->body s=some (.inl s')->I s') (hQ:∀s b,I s->body s=some (.inr b)->Q b) (hs:I s) (h:Ao body s=some b):Q b:=by
 obtain⟨n,hn⟩:=H9.1 h;clear h
 induction n generalizing s with
 |zero=>cases hn
 |succ n ih=>
  simp only[Qh]at hn
  grind
theorem Z5 {body':S'->Option (S'⊕β')} {body:S->Option (S⊕β)} (a:σ->Int->S) (mkS':σ->Int->S') (n:Nat) (c:Nat->σ->Prop) (Q:β->β'->Prop) (h1:∀s i,i<n->c i s->(∃s',body (a s (i:Nat))=some (.inl (a s' ((i+1:Nat):Int)))/\body' (mkS' s (i:Nat))=some (.inl (mkS' s' ((i+1:Nat):Int)))/\c (i+1) s')\/∃b b',body (a s (i:Nat))=some (.inr b)/\body' (mkS' s (i:Nat))=some (.inr b')/\Q b b') (h2:∀s,c n s->∃b b',body (a s (n:Nat))=some (.inr b)/\body' (mkS' s (n:Nat))=some (.inr b')/\Q b b'):∀(k i:Nat) (s:σ),i+k=n->c i s->∃b b',Ao body (a s (i:Nat))=some b/\Ao body' (mkS' s (i:Nat))=some b'/\Q b b'
 |0,i,s,hi,hs=>by
  have:i=n:=by omega
  subst this;obtain⟨b,b',h3,h4,h5⟩:=h2 s hs;exact⟨b,b',by rw[Aw,h3],by rw[Aw,h4],h5⟩
 |k+1,i,s,hi,hs=>by
  rcases h1 s i (by omega) hs with⟨s',h3,h4,h5⟩|⟨b,b',h3,h4,h5⟩
  ·obtain⟨b,b',h6,h7,h8⟩:=Z5 a mkS' n c Q h1 h2 k (i+1) s' (by omega) h5;exact⟨b,b',by rw[Aw,h3];exact h6,by rw[Aw,h4];exact h7,h8⟩
  exact⟨b,b',by rw[Aw,h3],by rw[Aw,h4],h5⟩
theorem fG {body':S'->Option (S'⊕β')} {s:σ} {body:S->Option (S⊕β)} (a:σ->Int->S) (mkS':σ->Int->S') (n:Nat) (c:Nat->σ->Prop) (Q:β->β'->Prop) (h1:∀s i,i<n->c i s->(∃s',body (a s (i:Nat))=some (.inl (a s' ((i+1:Nat):Int)))/\body' (mkS' s (i:Nat))=some (.inl (mkS' s' ((i+1:Nat):Int)))/\c (i+1) s')\/∃b b',body (a s (i:Nat))=some (.inr b)/\body' (mkS' s (i:Nat))=some (.inr b')/\Q b b') (h2:∀s,c n s->∃b b',body (a s (n:Nat))=some (.inr b)/\body' (mkS' s (n:Nat))=some (.inr b')/\Q b b') (hs:c 0 s):∃b b',Ao body (a s 0)=some b/\Ao body' (mkS' s 0)=some b'/\Q b b':=
 Z5 a mkS' n c Q h1 h2 n 0 s (by omega) hs
theorem SL {body body':S->Option (S⊕β)} (m:S->Nat) (a:S->Prop) (Q:β->Prop) (h:∀s,a s->(∃s',body s=some (.inl s')/\body' s=some (.inl s')/\a s'/\m s'<m s)\/∃b,body s=some (.inr b)/\body' s=some (.inr b)/\Q b):∀(n:Nat) (s:S),m s<=n->a s->∃b,Ao body s=some b/\Ao body' s=some b/\Q b
 |n,s,hn,hs=>by
  rcases h s hs with⟨s',h1,h2,h3,h4⟩|⟨b,h1,h2,h3⟩
  ·cases n with
   |zero=>omega
   |succ n=>
    obtain⟨b,h5,h6,h7⟩:=SL m a Q h n s' (by omega) h3;exact⟨b,by rw[Aw,h1];exact h5,by rw[Aw,h2];exact h6,h7⟩
  exact⟨b,by rw[Aw,h1],by rw[Aw,h2],h3⟩
theorem R4 (z:α->Nat):∀(l:List α) (i:Nat) (h:i<l.length),((l.take (i+1)).map z).sum=((l.take i).map z).sum+z l[i]
 |[],i,h=>by simp at h
 |x::l,0,h=>by simp
 |x::l,i+1,h=>by
  simp only[MF,Cx,MQ,List.getElem_cons_succ];rw[R4 z l i (by simpa using h)];omega
theorem Oy (z:α->Nat) (l:List α) (i:Nat):((l.take i).map z).sum<=(l.map z).sum:=by
 have:(l.map z).sum=((l.take i).map z).sum+((l.drop i).map z).sum:=by
  rw[<-List.sum_append,<-Ci,C7]
 omega
end Go.TI
